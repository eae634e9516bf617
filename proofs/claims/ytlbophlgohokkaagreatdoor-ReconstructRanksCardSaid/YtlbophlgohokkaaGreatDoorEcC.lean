/-
  reconstruct: rows of fractions, mapped and found.
-/
import Derived.Test.YtlbophlgohokkaaGreatDoorVbG
set_option linter.all false
namespace Go.Mx
open Go Go.Proofs
variable {N R:Nat} {f u v:V} {h:T O} {l:List Rat}
set_option maxRecDepth 1000000
def A.lb193_0:Zae:=sr [bi 9 .lss 8 7]
 (.seq (cd 9
 (.skip)
 (.exit 0))
 (.seq (.block 1 (sr [mv 10 8,mv 5 10]
 (sr [mv 11 1,mv 12 0,mv 13 5,ia 14 1 12 13,ld 15 14,⟨(some 16),.call (.tmp 11) [(.tmp 15)],none⟩]
 (cd 16
 (sr [mv 17 5,mv 4 17]
 (.ret))
 (.skip)))))
 (.reg [bc 18 .add 8 1,mv 8 18])))
def A.b193:Zae:=sr [mc 4 0]
 (.seq (sr [mv 6 0,ln 7 6,mc 8 0]
 (.block 0 (.loop A.lb193_0)))
 (sr [⟨(some 4),.mov (.const (.int .i64 (-1))),none⟩]
 (.ret)))
theorem A.c193:A.F 193=some ⟨19,[.tmp 4],A.b193⟩:=by kernel_rfl
def A.k193:=@A.kk 193 _ _ _ A.c193 rfl
theorem Yid(l:List V)(p:Nat→Bool)(hs:Sl h N v l)(hl:l.length<1152921504606846976)(hf:∀(j:Nat) (x:V),l[j]?=some x→∀h' n',Keeps h N h' n'→FnV A.C f [x] h' n' (fun u _ _=>u=.bool (p j))):Fn A.C 193 [v,f] h N (fun u _ _=>u=.int .i64 (Zb8 p 0 l.length)):=by
 intro w
 have hlen:=hs.len
 rw[Zab,A.k193 (by simp)]
 simp[A.b193,hlen]
 refine Zaj [(4,5),(8,18)] (fun e r st=>Zaa N st.w=[]∧Keeps h N st.h st.n∧((e=.exit 0∧Zb8 p 0 l.length= -1)∨(e=.ret∧r.get 4=some (.int .i64 (Zb8 p 0 l.length))))) (fun m r st=>Zaa N st.w=[]∧Keeps h N st.h st.n∧∃k,k+m=l.length∧r.get 8=some (.int .i64 k)∧Zb8 p 0 l.length=Zb8 p k m) l.length ?_ ?_ ?_
 ·exact⟨by simp,Keeps.refl,0,by omega,by simp,rfl⟩
 ·rintro m r ⟨H,n1,W⟩ hr hf2 ⟨hW,hK,k,hk,h8,hz⟩
  simp only at hW hK
  rw[Zah]
  cases m with
  |zero=>
   have:k=l.length:=by omega
   subst this
   simp only[Zb8]at hz
   simp[A.lb193_0,hr,hf2,h8,hW,hK,hz]
  |succ m=>
   have hlt:k<l.length:=by omega
   obtain⟨c,hc⟩:=Zaf hlt
   obtain⟨i,o,cc,e,rw,q1,q2,q3,q4⟩:=hs.at hc
   have q3:=(hK.get _ q2).trans q3
   have hk1:(k:Int)<(l.length:Int):=by omega
   simp only[Zb8]at hz
   simp[A.lb193_0,hr,h8,hk1,hlen,q1,q3,q4]
   refine Zh2 (hf k c hc _ _ hK) ?_
   rintro v h2 n2 k2 rfl
   have kk:=hK.trans k2
   cases hp:p k
   ·rw[hp]at hz
    simp(disch:=first|(simp;done)|omega|rfl) [hf2,h8,hW,kk]
    exact⟨m,by omega,k+1,by omega,by simp,by simpa using hz⟩
   ·rw[hp]at hz
    simp[hf2,hW,kk]
    simpa using hz.symm
 ·rintro e r ⟨H,n1,W⟩ hr ⟨hW,hK,⟨rfl,hz⟩|⟨rfl,h4⟩⟩
  ·simp only at hW hK
   simp[hz,Ret,hW,hK]
  ·simp only at hW hK
   simp[h4,Ret,hW,hK]
def A.lb187_0:Zae:=sr [bi 11 .lss 10 9]
 (.seq (cd 11
 (.skip)
 (.exit 0))
 (.seq (.block 1 (sr [ia 12 4 8 10,lN 13 4 12,⟨(some 7),.alloc [(.int .i64 0),.nilslice,(.int .i64 0),.nilslice] 114,none⟩,⟨none,.store 4 (.tmp 7) (.tmp 13),none⟩]
 (.reg [mv 14 5,mv 15 1,lN 16 4 7,⟨(some 17),.call (.tmp 15) [(.tmp 16)],none⟩,⟨(some 18),.bslice 114 4 1 [(.int .i64 0),.nilslice,(.int .i64 0),.nilslice] [(0,4,(.tmp 17))],none⟩,⟨(some 19),.append 4 64 114 [(.int .i64 0),.nilslice,(.int .i64 0),.nilslice] (.tmp 14) (.tmp 18),none⟩,mv 5 19])))
 (.reg [bc 20 .add 10 1,mv 10 20])))
def A.b187:Zae:=sr [mN 4]
 (sr [mN 5]
 (.seq (sr [mv 8 0,ln 9 8,mc 10 0]
 (.block 0 (.loop A.lb187_0)))
 (sr [mv 21 5,mv 4 21]
 (.ret))))
theorem A.c187:A.F 187=some ⟨22,[.tmp 4],A.b187⟩:=by kernel_rfl
def A.k187:=@A.kk 187 _ _ _ A.c187 rfl
theorem Ydk{l:List (List V)}{Q:Nat→T O→Nat→List V→Prop}(Y:V→Prop)(hQ:∀j h n h' n' c u,Q j h n c→Upd (fun i=>i∈Zcl u) h n h' n'→Zo7 114 Y h u→Q j h' n' c)(hs:Sn 4 h N v l)(hl:l.length<1000000)(h1:∀(j:Nat) (x:List V),l[j]?=some x→x.length=4∧x.all V.one=true)(hf:∀(j:Nat) (x:List V),l[j]?=some x→∀h' n',Keeps h N h' n'→FnV A.C f [(.agg x)] h' n' (fun u h2 n2=>∃c,u=(.agg c)∧c.length=4∧c.all V.one=true∧(∀q∈c,Y q)∧Q j h2 n2 c)):Fn A.C 187 [v,f] h N (fun u h' n'=>∃out,Own 4 114 N h' n' u out∧out.length=l.length∧∀(j:Nat),j<l.length→∃c,out[j]?=some c∧Q j h' n' c):=by
 intro w
 have hlen:=hs.len
 rw[Zab,A.k187 (by simp)]
 simp[A.b187,hlen]
 refine Zaj [(5,5),(7,7),(10,20)] (fun e r st=>e=.exit 0∧Zaa N st.w=[]∧Keeps h N st.h st.n∧∃u out,r.get 5=some u∧Own 4 114 N st.h st.n u out∧out.length=l.length∧∀(j:Nat),j<l.length→∃c,out[j]?=some c∧Q j st.h st.n c) (fun m r st=>Zaa N st.w=[]∧Keeps h N st.h st.n∧∃k u out,k+m=l.length∧r.get 10=some (.int .i64 k)∧r.get 5=some u∧Own 4 114 N st.h st.n u out∧out.length=k∧(out=[]→u=.nilslice)∧(∀c∈out,∀y∈c,Y y)∧∀(j:Nat),j<k→∃c,out[j]?=some c∧Q j st.h st.n c) l.length ?_ ?_ ?_
 ·exact⟨by simp,Keeps.refl,0,.nilslice,[],by omega,by simp,by simp,Own.nil,rfl,fun _=>rfl,by simp,fun j hj=>by omega⟩
 ·rintro m r ⟨H,n1,W⟩ hr hf2 ⟨hW,hK,k,u,out,hk,h10,h5,ho,hol,hnil,hY,hout⟩
  simp only at hW hK ho hout
  rw[Zah]
  cases m with
  |zero=>
   have hkk:k=l.length:=by omega
   subst hkk
   simp[A.lb187_0,hr,hf2,h10,hW,hK]
   exact⟨u,h5,out,ho,hol,hout⟩
  |succ m=>
   have hlt:k<l.length:=by omega
   obtain⟨x,hx⟩:=Zaf hlt
   obtain⟨i,o,cc,e,rw,q1,q2,q3,q4⟩:=(hs.keep hK).at hx
   have hk1:(k:Int)<(l.length:Int):=by omega
   obtain⟨e1,e2⟩:=h1 k x hx
   have d1:¬i=n1:=by omega
   have d4:n1<n1+1:=by omega
   have kA:=(hK.new (.cells [(.int .i64 0),.nilslice,(.int .i64 0),.nilslice] 114 true)).set (i:=n1) (o:=.cells x 114 true) hK.le
   have e3:∀v:List V,(V.agg v).cells=v:=fun _=>rfl
   have e4:splice [(.int .i64 0),.nilslice,(.int .i64 0),.nilslice] 0 x=x:=by unfold splice;rw[e1];simp
   have e5:slc x 0 4=some x:=by unfold slc;rw[Yo4 (by omega)];simp;exact Yo7 (by omega)
   simp[-V.cells, -V.one,A.lb187_0,hr,h10,h5,hk1,hlen,q1,q3,q4,Zal,Zak,e3,e1,e2,e4,e5]
   refine Zh2 (hf k x hx _ _ kA) ?_
   rintro _ h3 n3 k3 ⟨c,rfl,c1,c2,cY,c3⟩
   have kle3:=k3.le
   have kn:=hK.le
   have kB:=kA.trans k3
   have b1:∀v:List V,(V.agg v).cells=v:=fun _=>rfl
   have b2:splice [(.int .i64 0),.nilslice,(.int .i64 0),.nilslice] 0 c=c:=by unfold splice;rw[c1];simp
   simp[-V.cells, -V.one,b1,b2,c1,c2]
   have ho3:Own 4 114 N (h3.set n3 (.cells c 114 true)) (n3+1) u out:=(ho.keep (((Keeps.refl.new _).set (Yoy n1)).trans k3)).keep (Keeps.refl.new _)
   obtain⟨v',h',w',f1,f2,f3,f4,fD,f5⟩:=Zcy (Y:=Y) (x:=c) (u:=.slice n3 0 1 (some 1) 4) (bytes:=64) (w:=n1::W) ho3 hnil hY (by omega) (by decide) c1 (by simp only[Zaw,St.row,T.get_set,if_true];unfold slc;simp[c1];exact Yo7 (by omega)) (by omega)
   rw[f1]
   have wok:¬n1<N:=by omega
   have f6:Zaa N w'=[]:=by rw[f2];simp[Zaa,hW,wok]
   have kz:=(kB.new (.cells c 114 true)).then f3
   have k4:Keeps h3 n3 (h3.set n3 (.cells c 114 true)) (n3+1):=Keeps.refl.new _
   have hq4:Q k (h3.set n3 (.cells c 114 true)) (n3+1) c:=hQ _ _ _ _ _ _ .nilslice c3 k4.upd Zo7.nil
   simp(disch:=first|(simp;done)|omega|rfl) [hf2,h10,f6]
   refine⟨m,by omega,kz,k+1,by omega,by simp,out++[c],f5,by simp[hol],by simp,fun c' hc z hz=>?_,fun j hj=>?_⟩
   ·rcases Yp2.1 hc with hc|hc
    ·exact hY c' hc z hz
    ·simp only[Yqp]at hc;subst hc;exact cY z hz
   by_cases hjk:j<k
   ·obtain⟨c,g1,g2⟩:=hout j hjk
    exact⟨c,by rw[Ypl (by omega)];exact g1,hQ _ _ _ _ _ _ _ (hQ _ _ _ _ _ _ .nilslice g2 ((((Keeps.refl.new _).set (Yoy n1)).trans k3).trans k4).upd Zo7.nil) f4 fD⟩
   ·obtain rfl:j=k:=by omega
    exact⟨c,by rw[Ypr (by omega),hol];simp,hQ _ _ _ _ _ _ _ hq4 f4 fD⟩
 ·rintro _ r ⟨H,n1,W⟩ hr ⟨rfl,hW,hK,u,out,h5,ho,hol,hout⟩
  simp only at hW hK ho hout
  simp[h5,Ret,hW,hK]
  exact⟨out,ho,hol,hout⟩
theorem Yhx(F:Rat→Rat)(hs:FrS h N v l)(hl:l.length<1000000)(hf:∀q∈l,∀c h' n',Keeps h N h' n'→FcC h' n' c q→FnV A.C f [.agg c] h' n' (fun x h2 n2=>Fc h2 n2 x (F q))):Fn A.C 187 [v,f] h N (fun u h' n'=>FrT h' n' u (l.map F)):=by
 obtain⟨cs,h1,h2,h3⟩:=hs
 have key:=Ydk (f:=f) (Q:=fun j h n c=>∀q,(l.map F)[j]?=some q→FcC h n c q) NW (fun j h n h' n' c u hq k hd q hq'=>(hq q hq').moved k hd) h1 (by omega) (fun j x hx=>?_) ?_
 ·intro w
  refine(key w).mono fun u st=>?_
  rintro⟨q1,q2,out,o1,o2,o3⟩
  exact⟨q1,q2,Yff o1 (by simpa[h2]using o2) fun j hj=>o3 j (by simp at hj;omega)⟩
 ·obtain⟨q,hq⟩:=Zaf (l:=l) (k:=j) (by have:=Za6 hx;omega)
  obtain⟨c,g1,g2⟩:=h3 j q hq
  rw[hx]at g1
  obtain rfl:x=c:=by simpa using g1
  exact g2.len
 ·intro j x hx h' n' hk
  obtain⟨q,hq⟩:=Zaf (l:=l) (k:=j) (by have:=Za6 hx;omega)
  obtain⟨c,g1,g2⟩:=h3 j q hq
  rw[hx]at g1
  obtain rfl:x=c:=by simpa using g1
  refine fun w=>(hf q (Yo3 hq) x h' n' hk (g2.keep hk) w).mono fun y st=>?_
  rintro⟨q1,q2,q3⟩
  obtain⟨c,rfl,hc⟩:=q3.c
  refine⟨q1,q2,c,rfl,hc.len.1,hc.len.2,hc.noU,fun t ht=>?_⟩
  simp[hq]at ht
  rw[←ht]
  exact hc
structure RwF (h:T O) (N R:Nat) (m:List (List Rat)):Prop where
 lt:R<N
 ex:∃us:List V,h.get R=some (.cells us 97 true)∧us.length=m.length∧NoU us∧us.all V.one=true∧∀(j:Nat) (l:List Rat),m[j]?=some l→∃u,us[j]?=some u∧FrT h N u l
theorem FrT.setR{us vs:List V}{e:TypeId}{b c:Bool}(s:FrT h N u l)(g:h.get R=some (.cells us e b))(he:e≠114)(hn:NoU us)(hl:vs.length=us.length):FrT (h.set R (.cells vs e c)) N u l:=by
 have hne:∀i∈Zcl u,i≠R:=fun i hi hc=>by
  obtain⟨z,w,hz⟩:=s.2 i hi
  rw[hc,g]at hz
  simp at hz
  exact he hz.2.1
 obtain⟨cs,h1,h2,h3⟩:=s.1
 have k:Upd (fun i=>i=R) h N (h.set R (.cells vs e c)) N:=⟨Yoy _,fun i _ hi=>by rw[T.get_set,Yo0 hi]⟩
 refine⟨⟨cs,h1.moved k hne,h2,fun j q hq=>?_⟩,fun i hi=>?_⟩
 ·obtain⟨x,g1,g2⟩:=h3 j q hq
  exact⟨x,g1,g2.setNU g hn hl⟩
 ·rw[T.get_set,Yo0 (hne i hi)]
  exact s.2 i hi
theorem RwF.keep{h':T O}{N':Nat}{m:List (List Rat)}(s:RwF h N R m)(k:Keeps h N h' N'):RwF h' N' R m:=by
 obtain⟨us,g1,g2,g3,g4,g5⟩:=s.ex
 refine⟨Yo8 s.lt k.le,us,(k.get R s.lt).trans g1,g2,g3,g4,fun j l hl=>?_⟩
 obtain⟨u,a1,a2⟩:=g5 j l hl
 exact⟨u,a1,a2.keep k⟩
theorem FrT.nou(s:FrT h N u l):(∀n,u≠.int .u64 n)∧V.one u=true∧V.cells u=[u]:=by
 obtain⟨a,b,c⟩:=s.1.form
 exact⟨c,a,b⟩
theorem RwF.put{i:Nat}{m:List (List Rat)}(s:RwF h N R m)(hu:FrT h N u l)(hi:i<m.length):∃us,h.get R=some (.cells us 97 true)∧us.length=m.length∧RwF (h.set R (.cells (us.set i u) 97 true)) N R (m.set i l):=by
 obtain⟨us,g1,g2,g3,g4,g5⟩:=s.ex
 refine⟨us,g1,g2,s.lt,us.set i u,by rw[T.get_set,Yo4 rfl],by simp[g2],fun x hx=>?_,?_,fun j r hr=>?_⟩
 ·rcases Yq5 hx with hx|rfl
  ·exact g3 x hx
  ·exact hu.nou.1
 ·rw[Ypv]
  intro x hx
  rcases Yq5 hx with hx|rfl
  ·exact Ypv.1 g4 x hx
  ·exact hu.nou.2.1
 ·by_cases e:j=i
  ·subst e
   rw[Ypc hi]at hr
   simp only[Yox]at hr
   subst hr
   exact⟨u,by rw[Ypc (by omega)],hu.setR g1 (by decide) g3 (by simp)⟩
  ·rw[Yo5 (Ne.symm e)]at hr ⊢
   obtain⟨u',a1,a2⟩:=g5 j r hr
   exact⟨u',a1,a2.setR g1 (by decide) g3 (by simp)⟩
variable {d k:Nat} {m:List (List Rat)}
def pvF(m:List (List Rat))(k:Nat):Nat→Nat→Nat
 |d,0=>d
 |d,n+1=>if (m[d]?.getD [])[k]?.getD 0≠0 then d else pvF m k (d+1) n
def pvQ(m:List (List Rat))(d k:Nat):Nat:=pvF m k d (m.length-d)
theorem Zts{m:List (List Rat)}{k:Nat}:∀{n d:Nat},d≤pvF m k d n∧pvF m k d n≤d+n
 |0,d=>by simp[pvF]
 |n+1,d=>by
  unfold pvF
  split
  ·omega
  ·have:=@Zts m k n (d+1)
   omega
theorem Ztr{m:List (List Rat)}{k:Nat}:∀{n d:Nat},pvF m k d n<d+n→(m[pvF m k d n]?.getD [])[k]?.getD 0≠0
 |0,d,h=>by simp[pvF]at h
 |n+1,d,h=>by
  unfold pvF at h ⊢
  split
  ·assumption
  ·rename_i hc
   rw[Yo0 hc]at h
   exact Ztr (by omega)
def Zrk(r p:List Rat)(k:Nat):List Rat:=Zks (fun x y=>x-r[k]?.getD 0*y) r p r.length
def Zj3(m:List (List Rat))(d k t:Nat):List (List Rat):=(List.range m.length).map fun i=>if i<t∧i≠d then Zrk (m[i]?.getD []) (m[d]?.getD []) k else m[i]?.getD []
def Ziw(m:List (List Rat))(d p:Nat):List (List Rat):=(m.set d (m[p]?.getD [])).set p (m[d]?.getD [])
def Zmw(m:List (List Rat))(d k:Nat):List (List Rat):=m.set d ((m[d]?.getD []).map fun x=>x/(m[d]?.getD [])[k]?.getD 0)
def Zmu(s:List (List Rat)×Nat×List Nat)(k:Nat):List (List Rat)×Nat×List Nat:=
 if pvQ s.1 s.2.1 k<s.1.length then (Zj3 (Zmw (Ziw s.1 s.2.1 (pvQ s.1 s.2.1 k)) s.2.1 k) s.2.1 k s.1.length,s.2.1+1,s.2.2++[k]) else s
def Zbp(m:List (List Rat))(n:Nat):List (List Rat)×Nat×List Nat:=(List.range n).foldl Zmu (m,0,[])
theorem Zcn{n:Nat}:Zbp m (n+1)=Zmu (Zbp m n) n:=by simp[Zbp,List.range_succ]
theorem Zf4{t:Nat}:(Zj3 m d k t).length=m.length:=by simp[Zj3]
theorem Zic{t i:Nat}(h:i<m.length):(Zj3 m d k t)[i]?=some (if i<t∧i≠d then Zrk (m[i]?.getD []) (m[d]?.getD []) k else m[i]?.getD []):=by simp[Zj3,h]
theorem Yk0:Zj3 m d k 0=m:=by
 apply Ypt
 intro i
 by_cases h:i<m.length
 ·rw[Zic h];simp[Yo2 h]
 ·rw[Ypd (by rw[Zf4];omega),Ypd (by omega)]
theorem Ykz{t:Nat}(h:d<m.length):(Zj3 m d k t)[d]?=m[d]?:=by
 rw[Zic h,Yo2 h];simp
theorem Zou{t:Nat}(h:t<m.length)(hd:t≠d):Zj3 m d k (t+1)=(Zj3 m d k t).set t (Zrk (m[t]?.getD []) (m[d]?.getD []) k):=by
 apply Ypt
 intro i
 by_cases hi:i<m.length
 ·by_cases e:i=t
  ·subst e
   rw[Ypc (by rw[Zf4];exact h),Zic hi,Yo4 ⟨by omega,hd⟩]
  ·rw[Yo5 (Ne.symm e),Zic hi,Zic hi]
   congr 1
   by_cases e2:i<t
   ·simp[e2,show i<t+1 by omega]
   ·simp[e2,show ¬i<t+1 by omega]
 ·rw[Ypd (by rw[Zf4];omega),Ypd (by rw[Yrd,Zf4];omega)]
theorem Zul:Zj3 m d k (d+1)=Zj3 m d k d:=by
 unfold Zj3
 apply Ysm
 intro i _
 by_cases e:i=d
 ·subst e;simp
 ·by_cases e2:i<d
  ·simp[e,e2,show i<d+1 by omega]
  ·simp[e2,show ¬i<d+1 by omega]
theorem Zx7{r p:List Rat}(h:r[k]?.getD 0=0):Zrk r p k=r:=by
 apply Ypt
 intro i
 by_cases hi:i<r.length
 ·unfold Zrk
  rw[Ztb hi,h,Rat.zero_mul,Rat.sub_eq_add_neg,Rat.neg_zero,Rat.add_zero,Yo2 hi]
  rfl
 ·rw[Ypd (by unfold Zrk;rw[Zfi];omega),Ypd (by omega)]
theorem Yb3{r p:List Rat}:(Zrk r p k).length=r.length:=by unfold Zrk;rw[Zfi]
variable {K d i k n:Nat} {m:List (List Rat)} {r:List Rat}
def RcN(m:List (List Rat))(n:Nat):Prop:=∀r∈m,r.length=n
theorem RcN.at(h:RcN m n)(hi:i<m.length):(m[i]?.getD []).length=n:=by
 rw[Yo2 hi]
 exact h _ (List.getElem_mem hi)
theorem RcN.set(h:RcN m n)(hr:r.length=n):RcN (m.set i r) n:=fun x hx=>by
 rcases Yq5 hx with hx|rfl
 ·exact h x hx
 ·exact hr
theorem RcN.swp{p:Nat}(h:RcN m n)(hd:d<m.length)(hp:p<m.length):RcN (Ziw m d p) n:=(h.set (h.at hp)).set (h.at hd)
theorem RcN.scl(h:RcN m n)(hd:d<m.length):RcN (Zmw m d k) n:=h.set (by rw[Yrc];exact h.at hd)
theorem RcN.elm{t:Nat}(h:RcN m n):RcN (Zj3 m d k t) n:=fun r hr=>by
 unfold Zj3 at hr
 obtain⟨i,hi,rfl⟩:=Yql.1 hr
 have hi:=Yr6.1 hi
 split
 ·rw[Yb3];exact h.at hi
 ·exact h.at hi
theorem Zgd{p:Nat}:(Ziw m d p).length=m.length:=by simp[Ziw]
theorem Zod:(Zmw m d k).length=m.length:=by simp[Zmw]
theorem Ygm{s:List (List Rat)×Nat×List Nat}:(Zmu s k).1.length=s.1.length:=by
 unfold Zmu
 split
 ·simp only[Zf4,Zod,Zgd]
 ·rfl
theorem Yj0{s:List (List Rat)×Nat×List Nat}(h:RcN s.1 n)(hd:s.2.1≤s.1.length):RcN (Zmu s k).1 n∧(Zmu s k).2.1≤s.1.length∧s.2.1≤(Zmu s k).2.1:=by
 unfold Zmu
 have hle:=@Zts s.1 k (s.1.length-s.2.1) s.2.1
 split
 ·rename_i hp
  have hd2:s.2.1<s.1.length:=by unfold pvQ at hp;omega
  exact⟨((h.swp hd2 hp).scl (by rw[Zgd];exact hd2)).elm,by simp only;omega,by simp⟩
 ·exact⟨h,hd,Yoy _⟩
def QbM(m:List (List Rat))(K:Nat):Prop:=∀r∈m,∀q∈r,Qb K q
theorem QbM.mono{L:Nat}(h:QbM m K)(hk:K≤L):QbM m L:=fun r hr q hq=>(h r hr q hq).mono hk
theorem QbM.at{m:List (List Rat)}{K i:Nat}(h:QbM m K):∀q∈m[i]?.getD [],Qb K q:=fun q hq=>by
 cases hr:m[i]? with
 |none=>rw[hr]at hq;simp at hq
 |some r=>rw[hr]at hq;exact h r (Yo3 hr) q hq
theorem QbM.set(h:QbM m K)(hr:∀q∈r,Qb K q):QbM (m.set i r) K:=fun x hx=>by
 rcases Yq5 hx with hx|rfl
 ·exact h x hx
 ·exact hr
theorem QbM.swp{p:Nat}(h:QbM m K):QbM (Ziw m d p) K:=(h.set h.at).set h.at
theorem Zyh(h:QbM m K)(hK:1≤K)(hp:(m[d]?.getD [])[k]?.getD 0≠0):∀q∈(m[d]?.getD []).map (fun x=>x/(m[d]?.getD [])[k]?.getD 0),Qb (2*K) q:=fun q hq=>by
 obtain⟨x,hx,rfl⟩:=Yql.1 hq
 have h1:=h.at (i:=d) x hx
 have h2:=Yl6 (Zoq (fun q hq=>h.at (i:=d) q hq) hK k) hp
 rw[Rat.div_def,show 2*K=K+K by omega]
 exact h1.mul h2
theorem Ygk{p:List Rat}(hr:∀q∈r,Qb K q)(hp:∀q∈p,Qb (2*K) q)(hK:1≤K):∀q∈Zrk r p k,Qb (4*K+1) q:=fun q hq=>by
 unfold Zrk Zks at hq
 obtain⟨i,_,rfl⟩:=Yql.1 hq
 have h1:=Zoq hr hK i
 have h2:=(Zoq hr hK k).mul (Zoq hp (by omega) i)
 have h3:Qb (K+2*K) (-(r[k]?.getD 0*p[i]?.getD 0)):=⟨by rw[Rat.neg_num,Yra];exact h2.1,by rw[Rat.neg_den];exact h2.2⟩
 have h4:=h1.add h3
 rw[←Rat.sub_eq_add_neg]at h4
 exact h4.mono (by omega)
theorem Yj1{s:List (List Rat)×Nat×List Nat}(h:QbM s.1 K)(hK:1≤K):QbM (Zmu s k).1 (4*K+1):=by
 unfold Zmu
 split
 ·rename_i hp
  have hle:=@Zts s.1 k (s.1.length-s.2.1) s.2.1
  have hd2:s.2.1<s.1.length:=by unfold pvQ at hp;omega
  have hne:=@Ztr s.1 k (s.1.length-s.2.1) s.2.1 (by unfold pvQ at hp;omega)
  have hsw:=h.swp (d:=s.2.1) (p:=pvQ s.1 s.2.1 k)
  have hrow:(Ziw s.1 s.2.1 (pvQ s.1 s.2.1 k))[s.2.1]?.getD []=s.1[pvQ s.1 s.2.1 k]?.getD []:=by
   unfold Ziw
   by_cases e:pvQ s.1 s.2.1 k=s.2.1
   ·rw[e,Ypc (by simp;omega)];rfl
   ·rw[Yo5 e,Ypc hd2];rfl
  have hpv:((Ziw s.1 s.2.1 (pvQ s.1 s.2.1 k))[s.2.1]?.getD [])[k]?.getD 0≠0:=by rw[hrow];exact hne
  have hsc:=Zyh hsw hK hpv
  intro r hr
  unfold Zj3 at hr
  obtain⟨i,hi,rfl⟩:=Yql.1 hr
  have hi:=Yr6.1 hi
  rw[Zod,Zgd]at hi
  have hdrow:(Zmw (Ziw s.1 s.2.1 (pvQ s.1 s.2.1 k)) s.2.1 k)[s.2.1]?.getD []=((Ziw s.1 s.2.1 (pvQ s.1 s.2.1 k))[s.2.1]?.getD []).map (fun x=>x/((Ziw s.1 s.2.1 (pvQ s.1 s.2.1 k))[s.2.1]?.getD [])[k]?.getD 0):=by
   unfold Zmw
   rw[Ypc (by rw[Zgd];exact hd2)]
   rfl
  split
  ·rename_i hc
   have hirow:(Zmw (Ziw s.1 s.2.1 (pvQ s.1 s.2.1 k)) s.2.1 k)[i]?.getD []=(Ziw s.1 s.2.1 (pvQ s.1 s.2.1 k))[i]?.getD []:=by
    unfold Zmw
    rw[Yo5 (Ne.symm hc.2)]
   rw[hdrow,hirow]
   exact Ygk hsw.at hsc hK
  ·by_cases e:i=s.2.1
   ·rw[e,hdrow]
    exact fun q hq=>(hsc q hq).mono (by omega)
   ·unfold Zmw
    rw[Yo5 (Ne.symm e)]
    exact fun q hq=>(hsw.at q hq).mono (by omega)
 ·exact h.mono (by omega)
def A.b47:Zae:=sr [mc 2 0]
 (sr [mv 3 0,⟨(some 4),.build [(.int .i64 0),(.int .i64 0)] [(0,1,(.const (.int .i64 64))),(1,1,(.const (.int .i64 16)))],none⟩,c2 5 131 3 4,mv 2 5]
 (.ret))
theorem A.c47:A.F 47=some ⟨6,[.tmp 2],A.b47⟩:=by kernel_rfl
def A.k47:=@A.kk 47 _ _ _ A.c47 rfl
theorem Zky{h:T O}{N:Nat}{v:V}{l:List (List Str)}(hs:MtS h N v l)(hl:l.length<100000)(hx:∀x∈l,x.length<100000∧∀s∈x,s.length≤100000):Fn A.C 47 [v] h N (fun u _ _=>u=.int .i64 (Zmh l 64 16)):=by
 intro w
 rw[Zab,A.k47 (by simp)]
 simp[A.b47,splice]
 refine Zac (Ycu (a:=64) (b:=16) hs hl hx) ?_
 rintro _ H2 n2 k2 rfl
 simp[Ret]
 exact k2
theorem Zo1{m:List (List Str)}(h:Zmh m 64 16=0)(hs:Zen 6 6 m=true):OkM m (hdL m):=by
 obtain⟨s1,s2⟩:=Znb hs
 unfold Zmh at h
 split at h
 ·exact absurd h (by decide)
 split at h
 ·exact absurd h (by decide)
 rename_i h1 h2
 have hp:0<m.length:=by omega
 obtain⟨r0,hr0,e0⟩:=Yks hp
 refine⟨hp,Zl5 s1 (by omega),by omega,?_,fun r hr=>Yeq (Zgr h _ (Yql.2 ⟨r,hr,rfl⟩)) (s2 r hr)⟩
 rw[e0]
 exact Zl5 (Zpm (s2 r0 hr0)) (by omega)
theorem MtS.one{h:T O}{N:Nat}{u:V}{m:List (List Str)}(hm:MtS h N u m):V.one u=true∧V.cells u=[u]:=by
 obtain⟨us,⟨_,rfl|rfl⟩|⟨i,o,cp,c,e,rw,rfl,_⟩,_⟩:=hm<;>exact⟨rfl,rfl⟩
set_option maxHeartbeats 4000000
set_option maxHeartbeats 4000000
def Ylf(e:Int)(q:Rat)(x:V):Prop:=(e≠0∧x=.tup [.str [],.int .i64 e])∨(e=0∧((Yfz q=true∧x=.tup [.str [],.int .i64 4])∨(Yfz q=false∧x=.tup [.str (Zax q),.int .i64 0])))
set_option maxHeartbeats 2000000
def A.lb26_0:Zae:=sr [bi 61 .lss 60 59]
 (.seq (cd 61
 (.skip)
 (.exit 2))
 (.seq (.block 3 (sr [mv 62 60,ia 63 1 58 60,ld 64 63,mv 11 62,mv 12 64]
 (sr [mv 65 1,mv 66 11,c2 67 108 65 66,⟨(some 68),.un .not (.tmp 67),none⟩]
 (cd 68
 (.reg [mv 69 10,mv 70 12,c1 71 109 70,⟨(some 72),.bslice 23 1 1 [.nilslice] [(0,1,(.tmp 71))],none⟩,⟨(some 73),.append 1 24 23 [.nilslice] (.tmp 69) (.tmp 72),none⟩,mv 10 73])
 (.skip)))))
 (.reg [bc 74 .add 60 1,mv 60 74])))
def A.lb26_1:Zae:=sr [bi 21 .lss 20 19]
 (.seq (cd 21
 (.skip)
 (.exit 0))
 (.seq (.block 1 (sr [mv 22 20,ia 23 1 18 20,ld 24 23,mv 7 22,mv 8 24]
 (sr [mv 25 8,bc 26 .lss 25 0,mv 27 26,mh 28 8 27,mh 29 0 27,⟨(some 30),.len 1 (.tmp 29),(some (27,false))⟩,⟨(some 31),.bin .geq (.node []) false (.tmp 28) (.tmp 30),(some (27,false))⟩,pt 32 27 31,⟨(some 33),.call (.const (.func 75 [] [])) [(.tmp 32),(.const (.int .i64 10))],none⟩,mv 34 7,bc 35 .gtr 34 0,mv 36 35,mg 37 8 36,mg 38 1 36,mg 39 7 36,⟨(some 40),.bin .sub (.node []) false (.tmp 39) (.const (.int .i64 1)),(some (36,true))⟩,⟨(some 41),.mx [(.const (.int .i64 0)),(.tmp 40)],(some (36,true))⟩,⟨(some 42),.iaddrSl 1 (.tmp 38) (.tmp 41),(some (36,true))⟩,⟨(some 43),.load none (.tmp 42),(some (36,true))⟩,⟨(some 44),.bin .leq (.node []) false (.tmp 37) (.tmp 43),(some (36,true))⟩,pf 45 36 44,⟨(some 46),.call (.const (.func 75 [] [])) [(.tmp 45),(.const (.int .i64 11))],none⟩,⟨(some 47),.bslice 27 1 2 [(.int .i64 0),(.int .i64 0)] [(0,1,(.tmp 33)),(1,1,(.tmp 46))],none⟩,c1 48 74 47,mv 9 48]
 (sr [mv 49 9,ni 50 49 0]
 (cd 50
 (sr [mv 51 9,mN 4,mv 5 51]
 (.ret))
 (.skip))))))
 (.reg [bc 52 .add 20 1,mv 20 52])))
def A.b26:Zae:=sr [mN 4,mc 5 0]
 (.seq (sr [mv 13 0,c1 14 47 13,mv 6 14]
 (sr [mv 15 6,ni 16 15 0]
 (cd 16
 (sr [mv 17 6,mN 4,mv 5 17]
 (.ret))
 (.skip))))
 (.seq (sr [mv 18 1,ln 19 18,mc 20 0]
 (.block 0 (.loop A.lb26_1)))
 (.seq (sr [mv 53 1,ln 54 53,mv 55 0,ln 56 55,⟨(some 57),.bin .eql (.prim .int) false (.tmp 54) (.tmp 56),none⟩]
 (cd 57
 (sr [mN 4,mc 5 12]
 (.ret))
 (.skip)))
 (sr [mN 10]
 (.seq (sr [mv 58 0,ln 59 58,mc 60 0]
 (.block 2 (.loop A.lb26_0)))
 (sr [mv 75 10,mv 4 75,mc 5 0]
 (.ret)))))))
theorem A.c26:A.F 26=some ⟨76,[.tmp 4,.tmp 5],A.b26⟩:=by kernel_rfl
def A.k26:=@A.kk 26 _ _ _ A.c26 rfl
theorem Ye9{h:T O}{N:Nat}{w:List Nat}{i o:Nat}{cp:Option Nat}{c l:List V}{e:TypeId}{rw:Bool}(h3:h.get i=some (.cells c e rw))(h4:∀j,j<l.length→c[o+j]?=l[j]?)(h5:o+l.length≤c.length):Zaw ⟨h,N,w⟩ 1 (.slice i o l.length cp 1)=some (l.length,l):=by
 have:slc c o (l.length*1)=some l:=by
  unfold slc
  rw[Yo4 (by omega),Yrw]
  congr 1
  apply Ypt
  intro j
  by_cases hj:j<l.length
  ·rw[Ypf,Yo4 hj,Yo9];exact h4 j hj
  ·rw[Ypd (by simp;omega),Ypd (by omega)]
 simp only[Zaw,if_true,St.row,h3,this]
variable {a:List Rat}
def A.lb112_0:Zae:=.seq (sr [mv 7 6,mv 8 0,ln 9 8,bi 10 .lss 7 9]
 (cd 10
 (.skip)
 (.exit 0)))
 (.seq (.block 1 (.regD [mv 13 5,mv 14 0,mv 15 6,ia 16 1 14 15,ld 17 16,mv 18 1,mv 19 6,ia 20 1 18 19,ld 21 20,c2 22 95 17 21,⟨(some 23),.bslice 36 1 1 [(.str [])] [(0,1,(.tmp 22))],none⟩,⟨(some 24),.append 1 16 36 [(.str [])] (.tmp 13) (.tmp 23),none⟩,mv 5 24] [0,0,0,6,14,0,0,96,224,510,1022,2047,4095]))
 (.reg [mv 11 6,bc 12 .add 11 1,mv 6 12]))
def A.b112:Zae:=sr [mN 4]
 (sr [mN 5]
 (.seq (sr [mc 6 0]
 (.block 0 (.loop A.lb112_0)))
 (sr [mv 25 5,mv 4 25]
 (.ret))))
theorem A.c112:A.F 112=some ⟨26,[.tmp 4],A.b112⟩:=by kernel_rfl
def A.k112:=@A.kk 112 _ _ _ A.c112 rfl
def A.lb113_0:Zae:=.seq (sr [mv 7 6,mv 8 0,ln 9 8,bi 10 .lss 7 9]
 (cd 10
 (.skip)
 (.exit 0)))
 (.seq (.block 1 (.reg [mv 13 5,mv 14 0,mv 15 6,ia 16 1 14 15,ld 17 16,mv 18 1,c2 19 96 17 18,⟨(some 20),.bslice 36 1 1 [(.str [])] [(0,1,(.tmp 19))],none⟩,⟨(some 21),.append 1 16 36 [(.str [])] (.tmp 13) (.tmp 20),none⟩,mv 5 21]))
 (.reg [mv 11 6,bc 12 .add 11 1,mv 6 12]))
def A.b113:Zae:=sr [mN 4]
 (sr [mN 5]
 (.seq (sr [mc 6 0]
 (.block 0 (.loop A.lb113_0)))
 (sr [mv 22 5,mv 4 22]
 (.ret))))
theorem A.c113:A.F 113=some ⟨23,[.tmp 4],A.b113⟩:=by kernel_rfl
def A.k113:=@A.kk 113 _ _ _ A.c113 rfl
theorem Zpo{h:T O}{N:Nat}{u:V}{c:Rat}{j k:Nat}(hu:Tx h N u a)(ha:∀q∈a,Qb j q)(hc:Qb k c)(hj:j≤400000)(hk:k≤400000)(hl:a.length<100000):Fn A.C 113 [u,.str (Zax c)] h N (fun x h' n'=>Own 1 36 N h' n' x ((tx (a.map fun q=>q*c)).map fun y=>[y])):=by
 intro w
 have l1:=hu.len
 rw[Zab,A.k113 (by simp)]
 simp[A.b113]
 refine Zaj [(5,21)] (fun e r st=>e=.exit 0∧Zaa N st.w=[]∧Keeps h N st.h st.n∧∃x,r.get 5=some x∧Own 1 36 N st.h st.n x ((tx (a.map fun q=>q*c)).map fun y=>[y])) (fun i r st=>Zaa N st.w=[]∧Keeps h N st.h st.n∧∃t x,t+i=a.length∧r.get 6=some (.int .i64 t)∧r.get 5=some x∧Own 1 36 N st.h st.n x ((tx ((a.take t).map fun q=>q*c)).map fun y=>[y])) (a.length) ?_ ?_ ?_
 ·exact⟨by simp,Keeps.refl,0,.nilslice,by omega,by simp,by simp,by simpa[tx,strs]using Own.nil⟩
 ·rintro i r ⟨H,n1,W⟩ hr hf ⟨hW,hK,t,x,ht,h6,h5,ho⟩
  simp only at hW hK ho
  rw[Zah]
  cases i with
  |zero=>
   obtain rfl:t=a.length:=by omega
   rw[Yrg]at ho
   simp[A.lb113_0,hr,hf,h6,h5,l1,hW,hK]
   exact ho
  |succ i=>
   have hlt:t<a.length:=by omega
   have hlt':(t:Int)<((a.length:Nat):Int):=by omega
   obtain⟨q,hq⟩:=Zaf hlt
   have hqb:=ha q (Yo3 hq)
   obtain⟨i',o,cc,e,rw,q1,q2,q3,q4⟩:=(hu.keep hK).at (Zit hq)
   simp[A.lb113_0,hr,h6,h5,l1,hlt',q1,q3,q4]
   refine Zac (Yhi hqb hc hj hk) ?_
   rintro _ H2 n2 k2 rfl
   have le2:=k2.le
   have nle:=hK.le
   obtain⟨v',h',w',f1,f2,f3,_,f5⟩:=Zbi (x:=[.str (Zax (q*c))]) (u:=.slice n2 0 1 (some 1) 1) (bytes:=16) (w:=W) ((ho.keep k2).keep (Keeps.refl.new (.cells [.str (Zax (q*c))] 36 true))) (by omega) (by decide) rfl (by simp[Zaw,St.row,slc]) (by simp[Zm4];omega)
   have e7:((tx ((a.take t).map fun q=>q*c)).map fun y=>[y])++[[.str (Zax (q*c))]]=(tx ((a.take (t+1)).map fun q=>q*c)).map fun y=>[y]:=by rw[Yrs,hq];simp[tx,strs]
   rw[e7]at f5
   simp(disch:=first|(simp;done)|omega|rfl) [hf,h6,splice,f1]
   exact⟨i,by omega,by rw[f2];exact hW,((hK.trans k2).trans (Keeps.refl.new (.cells [.str (Zax (q*c))] 36 true))).then f3,t+1,by omega,by simp,by rw[←List.map_take];exact f5⟩
 ·rintro _ r ⟨H,n1,W⟩ hr ⟨rfl,hW,hK,x,h5,ho⟩
  simp only at hW hK ho
  simp[h5,Ret,hW,hK]
  exact ho
theorem Zxt{F:Rat→Rat→Rat}{b:List Rat}{t:Nat}{p q:Rat}(hp:a[t]?=some p)(hq:b[t]?=some q):Zks F a b (t+1)=Zks F a b t++[F p q]:=by
 simp[Zks,List.range_succ,hp,hq]
theorem Yey{h:T O}{N:Nat}{u v:V}{b:List Rat}{j k:Nat}(hu:Tx h N u a)(hv:Tx h N v b)(hab:a.length≤b.length)(ha:∀q∈a,Qb j q)(hb:∀q∈b,Qb k q)(hj:j≤400000)(hk:k≤400000)(hl:a.length<100000):Fn A.C 112 [u,v] h N (fun x h' n'=>Own 1 36 N h' n' x ((tx (Zks (fun x y=>x+y) a b a.length)).map fun y=>[y])):=by
 intro w
 have l1:=hu.len
 have l2:=hv.len
 rw[Zab,A.k112 (by simp)]
 simp[A.b112]
 refine Zaj [(5,24)] (fun e r st=>e=.exit 0∧Zaa N st.w=[]∧Keeps h N st.h st.n∧∃x,r.get 5=some x∧Own 1 36 N st.h st.n x ((tx (Zks (fun x y=>x+y) a b a.length)).map fun y=>[y])) (fun i r st=>Zaa N st.w=[]∧Keeps h N st.h st.n∧∃t x,t+i=a.length∧r.get 6=some (.int .i64 t)∧r.get 5=some x∧Own 1 36 N st.h st.n x ((tx (Zks (fun x y=>x+y) a b t)).map fun y=>[y])) (a.length) ?_ ?_ ?_
 ·exact⟨by simp,Keeps.refl,0,.nilslice,by omega,by simp,by simp,by simpa[tx,strs,Zks]using Own.nil⟩
 ·rintro i r ⟨H,n1,W⟩ hr hf ⟨hW,hK,t,x,ht,h6,h5,ho⟩
  simp only at hW hK ho
  rw[Zah]
  cases i with
  |zero=>
   obtain rfl:t=a.length:=by omega
   simp[A.lb112_0,hr,hf,h6,h5,l1,hW,hK]
   exact ho
  |succ i=>
   have hlt:t<a.length:=by omega
   have hlt':(t:Int)<((a.length:Nat):Int):=by omega
   obtain⟨p,hp⟩:=Zaf hlt
   have hpb:=ha p (Yo3 hp)
   have hltb:t<b.length:=by omega
   have hltb':(t:Int)<(b.length:Int):=by omega
   obtain⟨q,hq⟩:=Zaf hltb
   have hqb:=hb q (Yo3 hq)
   obtain⟨i',o,cc,e,rw,q1,q2,q3,q4⟩:=(hu.keep hK).at (Zit hp)
   obtain⟨i2,o2,cc2,e2,rw2,p1,p2,p3,p4⟩:=(hv.keep hK).at (Zit hq)
   simp[A.lb112_0,hr,h6,h5,l1,hlt',l2,hltb',q1,q2,q3,q4,p1,p2,p3,p4]
   refine Zac (Yjb hpb hqb hj hk) ?_
   rintro _ H2 n2 k2 rfl
   have le2:=k2.le
   have nle:=hK.le
   obtain⟨v',h',w',f1,f2,f3,_,f5⟩:=Zbi (x:=[.str (Zax (p+q))]) (u:=.slice n2 0 1 (some 1) 1) (bytes:=16) (w:=[]) ((ho.keep k2).keep (Keeps.refl.new (.cells [.str (Zax (p+q))] 36 true))) (by omega) (by decide) rfl (by simp[Zaw,St.row,slc]) (by simp[Zm4,Zfi];omega)
   have e7:((tx (Zks (fun x y=>x+y) a b t)).map fun y=>[y])++[[.str (Zax (p+q))]]=(tx (Zks (fun x y=>x+y) a b (t+1))).map fun y=>[y]:=by rw[Zxt hp hq];simp[tx,strs]
   rw[e7]at f5
   have ow:Zaa N w'=[]:=Yc4 f2 (by omega) rfl
   simp(disch:=first|(simp;done)|omega|rfl) [-Zaa,hf,h6,splice,f1]
   exact⟨i,by omega,Yhc ow hW,((hK.trans k2).trans (Keeps.refl.new (.cells [.str (Zax (p+q))] 36 true))).then f3,t+1,by omega,by simp,f5⟩
 ·rintro _ r ⟨H,n1,W⟩ hr ⟨rfl,hW,hK,x,h5,ho⟩
  simp only at hW hK ho
  simp[h5,Ret,hW,hK]
  exact ho
variable {N R:Nat} {h:T O} {l:List Rat} {m:List (List Rat)} {u:V}
def TxO(N0:Nat)(h:T O)(N:Nat)(u:V)(l:List Rat):Prop:=Tx h N u l∧∀i∈Zcl u,i<N0∨∃z w,h.get i=some (.cells z 36 w)
theorem TxO.keep{N0:Nat}{h':T O}{N':Nat}(s:TxO N0 h N u l)(k:Keeps h N h' N'):TxO N0 h' N' u l:=⟨s.1.keep k,fun i hi=>by
 rcases s.2 i hi with h1|⟨z,w,h1⟩
 ·exact .inl h1
 ·exact .inr ⟨z,w,(k.get i (Zof s.1 i hi)).trans h1⟩⟩
theorem TxT.old{N0:Nat}(s:TxT h N u l):TxO N0 h N u l:=⟨s.1,fun i hi=>.inr (s.2 i hi)⟩
theorem Tx.old{N0:Nat}(s:Tx h N0 u l):TxO N0 h N0 u l:=⟨s,fun i hi=>.inl (Zof s i hi)⟩
theorem TxO.setR{N0:Nat}{us vs:List V}{b c:Bool}(s:TxO N0 h N u l)(g:h.get R=some (.cells us 23 b))(hR:N0≤R):TxO N0 (h.set R (.cells vs 23 c)) N u l:=by
 have hne:∀i∈Zcl u,i≠R:=fun i hi hc=>by
  rcases s.2 i hi with h1|⟨z,w,hz⟩
  ·omega
  ·rw[hc,g]at hz
   simp at hz
 have k:Upd (fun i=>i=R) h N (h.set R (.cells vs 23 c)) N:=⟨Yoy _,fun i _ hi=>by rw[T.get_set,Yo0 hi]⟩
 refine⟨Sl.moved s.1 k hne,fun i hi=>?_⟩
 rcases s.2 i hi with h1|⟨z,w,hz⟩
 ·exact .inl h1
 ·exact .inr ⟨z,w,by rw[T.get_set,Yo0 (hne i hi)];exact hz⟩
structure RwT (N0:Nat) (h:T O) (N R:Nat) (m:List (List Rat)):Prop where
 ge:N0≤R
 lt:R<N
 ex:∃us:List V,h.get R=some (.cells us 23 true)∧us.length=m.length∧∀(j:Nat) (l:List Rat),m[j]?=some l→∃u,us[j]?=some u∧TxO N0 h N u l
theorem RwT.keep{N0:Nat}{h':T O}{N':Nat}(s:RwT N0 h N R m)(k:Keeps h N h' N'):RwT N0 h' N' R m:=by
 obtain⟨us,g1,g2,g5⟩:=s.ex
 refine⟨s.ge,Yo8 s.lt k.le,us,(k.get R s.lt).trans g1,g2,fun j l hl=>?_⟩
 obtain⟨u,a1,a2⟩:=g5 j l hl
 exact⟨u,a1,a2.keep k⟩
theorem RwT.at{N0:Nat}(s:RwT N0 h N R m){j:Nat}{l:List Rat}(hj:m[j]?=some l):∃us u,h.get R=some (.cells us 23 true)∧us.length=m.length∧us[j]?=some u∧TxO N0 h N u l:=by
 obtain⟨us,g1,g2,g5⟩:=s.ex
 obtain⟨u,a1,a2⟩:=g5 j l hj
 exact⟨us,u,g1,g2,a1,a2⟩
theorem RwT.put{N0:Nat}{i:Nat}{us:List V}(s:RwT N0 h N R m)(g:h.get R=some (.cells us 23 true))(hu:TxO N0 h N u l)(hi:i<m.length):RwT N0 (h.set R (.cells (us.set i u) 23 true)) N R (m.set i l):=by
 obtain⟨vs,g1,g2,g5⟩:=s.ex
 rw[g]at g1
 simp only[Yox,O.cells.injEq]at g1
 obtain⟨rfl,_⟩:=g1
 refine⟨s.ge,s.lt,us.set i u,by rw[T.get_set,Yo4 rfl],by simp[g2],fun j r hr=>?_⟩
 by_cases e:j=i
 ·subst e
  rw[Ypc hi]at hr
  simp only[Yox]at hr
  subst hr
  exact⟨u,by rw[Ypc (by omega)],hu.setR g s.ge⟩
 ·rw[Yo5 (Ne.symm e)]at hr ⊢
  obtain⟨u',a1,a2⟩:=g5 j r hr
  exact⟨u',a1,a2.setR g s.ge⟩
theorem Zc1{l:List V}{i:Nat}(h:i<l.length):splice l i [u]=l.set i u:=by
 unfold splice
 rw[List.set_eq_take_append_cons_drop,Yo4 h]
 simp
def A.lb45_0:Zae:=.seq (sr [mv 75 7,mv 76 3,ln 77 76,bi 78 .lss 75 77]
 (cd 78
 (.skip)
 (.exit 4)))
 (.seq (.block 5 (sr [mv 81 7,mv 82 4,⟨(some 83),.bin .neq (.prim .int) false (.tmp 81) (.tmp 82),none⟩]
 (cd 83
 (.regD [mv 84 3,mv 85 7,mv 86 3,mv 87 7,ia 88 1 86 87,ld 89 88,mv 90 3,mv 91 4,ia 92 1 90 91,ld 93 92,mv 94 3,mv 95 7,ia 96 1 94 95,ld 97 96,mv 98 5,ia 99 1 97 98,ld 100 99,c1 101 130 100,c2 102 113 93 101,c2 103 112 89 102,ia 104 1 84 85,so 104 103] [0,0,0,0,12,28,0,0,192,448,0,0,3072,7168,0,31744,64512,130048,262080,524284,1048575,2097151])
 (.skip))))
 (.reg [mv 79 7,bc 80 .add 79 1,mv 7 80]))
def A.lb45_1:Zae:=.seq (sr [mv 25 6,mv 26 3,ln 27 26,bi 28 .lss 25 27,mv 29 28,mg 30 3 29,mg 31 6 29,⟨(some 32),.iaddrSl 1 (.tmp 30) (.tmp 31),(some (29,true))⟩,⟨(some 33),.load none (.tmp 32),(some (29,true))⟩,mg 34 5 29,⟨(some 35),.iaddrSl 1 (.tmp 33) (.tmp 34),(some (29,true))⟩,⟨(some 36),.load none (.tmp 35),(some (29,true))⟩,⟨(some 37),.call (.const (.func 121 [] [])) [(.tmp 36)],(some (29,true))⟩,pf 38 29 37]
 (cd 38
 (.skip)
 (.exit 2)))
 (.block 3 (.reg [mv 39 6,bc 40 .add 39 1,mv 6 40]))
def A.lb45_2:Zae:=.seq (sr [mv 11 3,ln 12 11,bc 13 .gtr 12 0,mv 14 13,mg 15 5 14,mg 16 3 14,⟨(some 17),.iaddrSl 1 (.tmp 16) (.const (.int .i64 0)),(some (14,true))⟩,⟨(some 18),.load none (.tmp 17),(some (14,true))⟩,⟨(some 19),.len 1 (.tmp 18),(some (14,true))⟩,⟨(some 20),.bin .lss (.node []) false (.tmp 15) (.tmp 19),(some (14,true))⟩,pf 21 14 20]
 (cd 21
 (.skip)
 (.exit 0)))
 (.seq (.block 1 (sr [mv 24 4,mv 6 24]
 (.seq (.block 2 (.loop A.lb45_1))
 (.seq (sr [mv 41 6,mv 42 3,ln 43 42,⟨(some 44),.bin .eql (.prim .int) false (.tmp 41) (.tmp 43),none⟩]
 (cd 44
 (.exit 1)
 (.skip)))
 (.seq (.regD [mv 45 3,mv 46 4,mv 47 3,mv 48 6,mv 49 3,mv 50 6,ia 51 1 49 50,ld 52 51,mv 53 3,mv 54 4,ia 55 1 53 54,ld 56 55,ia 57 1 45 46,so 57 52,ia 58 1 47 48,so 58 56] [0,0,0,0,0,0,48,112,0,0,768,1792,4083,8179,16383,32767])
 (.seq (.regD [mv 59 3,mv 60 4,mv 61 3,mv 62 4,ia 63 1 61 62,ld 64 63,mv 65 3,mv 66 4,ia 67 1 65 66,ld 68 67,mv 69 5,ia 70 1 68 69,ld 71 70,c1 72 129 71,c2 73 113 64 72,ia 74 1 59 60,so 74 73] [0,0,0,0,12,28,0,0,192,448,0,1984,4032,8128,16380,32767,65535])
 (.seq (sr [mc 7 0]
 (.block 4 (.loop A.lb45_0)))
 (.reg [mv 105 4,bc 106 .add 105 1,mv 4 106]))))))))
 (.reg [mv 22 5,bc 23 .add 22 1,mv 5 23]))
def A.b45:Zae:=sr [mN 2]
 (sr [⟨(some 8),.bslice 23 1 0 [] [],none⟩,mv 9 0,⟨(some 10),.append 1 24 23 [.nilslice] (.tmp 8) (.tmp 9),none⟩,mv 3 10]
 (sr [mc 4 0]
 (.seq (sr [mc 5 0]
 (.block 0 (.loop A.lb45_2)))
 (sr [mv 107 3,mv 108 4,⟨(some 109),.sliceSl 1 (.tmp 107) none (some (.tmp 108)) none,none⟩,mv 2 109]
 (.ret)))))
theorem A.c45:A.F 45=some ⟨110,[.tmp 2],A.b45⟩:=by kernel_rfl
def A.k45:=@A.kk 45 _ _ _ A.c45 rfl
theorem Yg4{m:List (List Rat)}{k p n:Nat}(hn:0<n):pvF m k p n=if (m[p]?.getD [])[k]?.getD 0≠0 then p else pvF m k (p+1) (n-1):=by
 obtain⟨n,rfl⟩:∃n',n=n'+1:=⟨n-1,by omega⟩
 rfl
theorem Yck{W0:List Nat}{N0:Nat}{H:T O}{n R:Nat}{r0:T V}{m:List (List Rat)}{d k c:Nat}(s:RwT N0 H n R m)(hc:RcN m c)(hk:k<c)(hd:d≤m.length)(hml:m.length<1000)(a3:r0.get 3=some (.slice R 0 m.length none 1))(a5:r0.get 5=some (.int .i64 k))(a6:r0.get 6=some (.int .i64 d)):
  Code A.C none (.loop A.lb45_1) ⟨r0,110,[]⟩ ⟨H,n,W0⟩ (fun e fr st=>e=.exit 2∧st=⟨H,n,W0⟩∧∃r,Fx [(6,6),(25,40)] r0 110 ⟨r,110,[]⟩∧fr=⟨r,110,[]⟩∧r.get 6=some (.int .i64 (pvQ m d k))):=by
 rw[Zah]
 refine Zaj [(6,6),(25,40)] (fun e r st=>e=.exit 2∧st=⟨H,n,W0⟩∧r.get 6=some (.int .i64 (pvQ m d k))) (fun i r st=>st=⟨H,n,W0⟩∧∃p,p≤m.length∧i=m.length-p∧r.get 6=some (.int .i64 p)∧pvQ m d k=pvF m k p (m.length-p)) (m.length-d) ?_ ?_ ?_
 ·exact⟨rfl,d,hd,rfl,a6,rfl⟩
 ·rintro i r _ hr hf ⟨rfl,p,hp,rfl,h6,hz⟩
  rw[Zah]
  by_cases hlt:p<m.length
  ·have hlt':(p:Int)<(m.length:Int):=by omega
   obtain⟨row,hrow⟩:=Zaf hlt
   obtain⟨us,u,g1,g2,g3,g4⟩:=s.at hrow
   have hrl:=hc row (Yo3 hrow)
   obtain⟨q,hq⟩:=Zaf (l:=row) (k:=k) (by omega)
   obtain⟨i1,o1,c1,e1,w1,q1,q2,q3,q4⟩:=g4.1.at (Zit hq)
   have hlu:=g4.1.len
   have hk1:(k:Int)<(row.length:Int):=by omega
   have hk2:k<row.length:=by omega
   have hzq:=fun st=>Zqk (q:=q) (st:=st)
   have hR:=s.lt
   rw[Yg4 (by omega),hrow]at hz
   simp only[Yq2,hq]at hz
   by_cases c0:q=0
   ·rw[Yo0 (by simpa using c0)]at hz
    have hzt:=hzq
    simp only[decide_eq_true c0]at hzt
    simp(disch:=first|(simp;done)|omega|rfl) [-getElem?_pos,A.lb45_1,hr,hf,a3,a5,h6,hlt',g1,g3,q1,q3,q4,hzt,hlu]
    refine⟨m.length-(p+1),by omega,p+1,by omega,rfl,by simp,?_⟩
    rw[hz,show m.length-p-1=m.length-(p+1) by omega]
   ·rw[Yo4 c0]at hz
    have hzt:=hzq
    simp only[decide_eq_false c0]at hzt
    simp[A.lb45_1,hr,hf,a3,a5,h6,hlt',g1,g3,q1,q3,q4,hk1,hzt,hlu,hz]
  ·obtain rfl:p=m.length:=by omega
   rw[Nat.sub_self,pvF]at hz
   simp[A.lb45_1,hr,hf,a3,h6,hz]
 ·rintro _ r _ hr ⟨rfl,rfl,h6⟩
  simp[]
  exact⟨r,⟨hr,rfl,rfl⟩,rfl,h6⟩
end Go.Mx
