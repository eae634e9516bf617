/-
  reconstruct: read, times, columnOf.
-/
import Derived.Test.YtlbophlgohokkaaGreatDoorVaE
set_option linter.all false
namespace Go.Mx
open Go Go.Proofs
variable {N:Nat} {h:T O} {m:List (List Rat)} {v:V}
set_option maxRecDepth 1000000
def A.b70:Zae:=sr [mN 4]
 (sr [mv 6 1,⟨(some 7),.mkfunc 153 [(.tmp 6)] [],none⟩,mv 5 7]
 (sr [mv 8 0,mv 9 5,c2 10 86 8 9,mv 4 10]
 (.ret)))
theorem A.c70:A.F 70=some ⟨11,[.tmp 4],A.b70⟩:=by kernel_rfl
def A.k70:=@A.kk 70 _ _ _ A.c70 rfl
def A.b71:Zae:=sr [mN 2]
 (sr [mv 3 0,⟨(some 4),.call (.const (.func 154 [] [])) [(.tmp 3),(.const (.func 72 [] []))],none⟩,mv 2 4]
 (.ret))
theorem A.c71:A.F 71=some ⟨5,[.tmp 2],A.b71⟩:=by kernel_rfl
def A.k71:=@A.kk 71 _ _ _ A.c71 rfl
theorem Yil{u:V}{a b:List Rat}{j k:Nat}(hu:FrS h N u a)(hv:FrS h N v b)(hab:a.length≤b.length)(ha:∀q∈a,Qb j q)(hb:∀q∈b,Qb k q)(hj:1≤j)(hk:1≤k)(hl:a.length*(j+k+1)+j+k+1≤400000):FnV A.C (.func 153 [v] []) [u] h N (fun x h' n'=>Fc h' n' x (Zny a b)):=by
 intro w
 have kB:Keeps h N (h.set N (.cells zF 114 true)) (N+1):=Keeps.refl.new _
 rw[Zaa,A.k153 (by simp)]
 simp[A.b153]
 refine Zab (Yh2 (hu.keep kB) (hv.keep kB) hab ha hb hj hk hl) ?_
 rintro _ h1 n1 k1 hz
 obtain⟨c,rfl,hc⟩:=hz.c
 have le1:=k1.le
 have g1:=k1.get N (by omega)
 rw[T.get_set,Yru rfl]at g1
 obtain⟨e1,e2⟩:=hc.len
 have hcc:(V.agg c).cells=c:=rfl
 have e4:splice zF 0 c=c:=by unfold splice;rw[e1];simp[zF]
 have hnz:NoU zF:=by intro x hx m;simp[zF]at hx;rcases hx with rfl|rfl|rfl|rfl<;>simp
 have kk:=(kB.trans k1).set (h:=h) (n:=N) (i:=N) (o:=.cells c 114 true) (Yrr N)
 have hfin:=(hc.setNU (e1:=114) (w1:=true) (c1:=c) g1 hnz (by rw[e1];rfl)).fc
 have s0:slc c 0 4=some c:=by unfold slc;rw[e1];simp;exact Yr1 (by omega)
 have hlt:N<n1:=by omega
 unfold zF at e4
 simp[-V.cells, -V.one,hcc,e1,e2,e4,s0,g1,Zan,Ret]
 exact⟨kk,hfin⟩
def MfS(h:T O)(N:Nat)(v:V)(m:List (List Rat)):Prop:=∃us:List V,Sl h N v us∧us.length=m.length∧∀(j:Nat) (l:List Rat),m[j]?=some l→∃u,us[j]?=some u∧FrT h N u l
theorem MfS.keep{h':T O}{N':Nat}(s:MfS h N v m)(k:Keeps h N h' N'):MfS h' N' v m:=by
 obtain⟨us,h1,h2,h3⟩:=s
 refine⟨us,h1.keep k,h2,fun j l hl=>?_⟩
 obtain⟨u,g1,g2⟩:=h3 j l hl
 exact⟨u,g1,g2.keep k⟩
theorem MfS.len(s:MfS h N v m):Zlh v=some m.length:=by
 obtain⟨us,h1,h2,_⟩:=s
 rw[h1.len,h2]
theorem FrS.form{l:List Rat}(s:FrS h N v l):V.one v=true∧V.cells v=[v]∧NW v:=by
 obtain⟨cs,⟨_,rfl|rfl⟩|⟨i,o,cp,c,e,rw,rfl,_⟩,_⟩:=s
 ·exact⟨rfl,rfl,fun m=>by simp⟩
 ·exact⟨rfl,rfl,fun m=>by simp⟩
 ·exact⟨rfl,rfl,fun m=>by simp⟩
theorem Zu5{k0:Nat}(hs:TxM h N v m)(hl:m.length<1000000)(hm:∀l∈m,l.length<1000000∧∀q∈l,Qb k0 q)(hk0:k0≤4000):Fn A.C 71 [v] h N (fun u h' n'=>MfS h' n' u m):=by
 intro w
 obtain⟨us,h1,h2,h3⟩:=hs
 rw[Zaa,A.k71 (by simp)]
 simp[A.b71]
 refine Zab (Yfi (Q:=fun j h n u=>∀l,m[j]?=some l→FrT h n u l) NW (fun j h n h' n' c u hq k hd l hl=>(hq l hl).moved k hd (by simp)) h1 (by omega) ?_) ?_
 ·intro j x hx h' n' hk
  obtain⟨l,hl⟩:=Zag (l:=m) (k:=j) (by have:=Zbk hx;omega)
  obtain⟨u,g1,g2⟩:=h3 j l hl
  rw[hx]at g1
  obtain rfl:x=u:=by simpa using g1
  obtain⟨b1,b2⟩:=hm l (Yrv hl)
  refine fun w=>(Zew (k0:=k0) (g2.keep hk) b1 b2 hk0 w).mono fun y st=>?_
  rintro⟨q1,q2,q3⟩
  obtain⟨f1,f2,f3⟩:=q3.1.form
  refine⟨q1,q2,y,rfl,rfl,by simp only[List.all_cons,List.all_nil,f1,Bool.and_true],by simpa using f3,fun l' hl'=>?_⟩
  rw[hl]at hl'
  obtain rfl:l=l':=by simpa using hl'
  exact q3
 ·rintro u h4 n4 k4 ⟨out,o1,o2,o3⟩
  simp[Ret]
  refine⟨k4,?_⟩
  have hx:∀x∈out,∃y,x=[y]:=fun x hx=>by
   have:=o1.1 x hx
   cases x with
   |nil=>simp at this
   |cons y t=>cases t with
    |nil=>exact⟨y,rfl⟩
    |cons a b=>simp at this
  obtain⟨ys,hys⟩:∃ys:List V,out=ys.map fun y=>[y]:=by
   clear o1 o2 o3
   induction out with
   |nil=>exact⟨[],rfl⟩
   |cons x t ih=>
    obtain⟨y,rfl⟩:=hx x (by simp)
    obtain⟨ys,rfl⟩:=ih fun x hx'=>hx x (by simp[hx'])
    exact⟨y::ys,rfl⟩
  subst hys
  refine⟨ys,Sn.one.1 o1.sn,by simpa[h2]using o2,fun j l hl=>?_⟩
  obtain⟨y,g1,g2⟩:=o3 j (by have:=Zbk hl;omega)
  refine⟨y,?_,g2 l hl⟩
  rw[Ysd]at g1
  cases hy:ys[j]? with
  |none=>rw[hy]at g1;simp at g1
  |some z=>rw[hy]at g1;simpa using g1
theorem Ykd{f:V}(F:List Rat→Rat)(hs:MfS h N v m)(hl:m.length<1000000)(hf:∀l∈m,∀u h' n',Keeps h N h' n'→FrT h' n' u l→FnV A.C f [u] h' n' (fun x h2 n2=>Fc h2 n2 x (F l))):Fn A.C 86 [v,f] h N (fun u h' n'=>FrT h' n' u (m.map F)):=by
 obtain⟨us,h1,h2,h3⟩:=hs
 have key:=Yfj (f:=f) (Q:=fun j h n c=>∀q,(m.map F)[j]?=some q→FcC h n c q) NW (fun j h n h' n' c u hq k hd q hq'=>(hq q hq').moved k hd) h1 (by omega) ?_
 ·intro w
  refine(key w).mono fun u st=>?_
  rintro⟨q1,q2,out,o1,o2,o3⟩
  exact⟨q1,q2,Ymw o1 (by simpa[h2]using o2) fun j hj=>o3 j (by simp at hj;omega)⟩
 ·intro j x hx h' n' hk
  obtain⟨l,hl⟩:=Zag (l:=m) (k:=j) (by have:=Zbk hx;omega)
  obtain⟨u,g1,g2⟩:=h3 j l hl
  rw[hx]at g1
  obtain rfl:x=u:=by simpa using g1
  refine fun w=>(hf l (Yrv hl) x h' n' hk (g2.keep hk) w).mono fun y st=>?_
  rintro⟨q1,q2,q3⟩
  obtain⟨c,rfl,hc⟩:=q3.c
  refine⟨q1,q2,c,rfl,hc.len.1,hc.len.2,hc.noU,fun q hq=>?_⟩
  simp[hl]at hq
  rw[←hq]
  exact hc
theorem Yae{u:V}{b:List Rat}{j k n:Nat}(hu:MfS h N u m)(hv:FrS h N v b)(hm:∀r∈m,r.length=n∧∀q∈r,Qb j q)(hn:n≤b.length)(hb:∀q∈b,Qb k q)(hj:1≤j)(hk:1≤k)(hl:n*(j+k+1)+j+k+1≤400000)(hml:m.length<100000):Fn A.C 70 [u,v] h N (fun x h' n'=>FrT h' n' x (m.map fun r=>Zny r b)):=by
 intro w
 rw[Zaa,A.k70 (by simp)]
 simp[A.b70]
 refine Zab (Ykd (fun r=>Zny r b) hu (by omega) fun l hl2 x h' n' hk2 hx=>?_) ?_
 ·obtain⟨b1,b2⟩:=hm l hl2
  exact Yil hx.1 (hv.keep hk2) (by omega) b2 hb hj hk (by rw[b1];exact hl)
 ·rintro x h4 n4 k4 hx
  simp[Ret]
  exact⟨k4,hx⟩
variable {N:Nat} {h:T O} {l:List Rat} {v:V}
def A.lb198_0:Zae:=sr [bi 9 .lss 8 7]
 (.seq (cd 9
 (.skip)
 (.exit 0))
 (.seq (.block 1 (sr [mv 10 8,mv 5 10]
 (sr [mv 11 1,mv 12 0,mv 13 5,ia 14 4 12 13,lN 15 4 14,⟨(some 16),.call (.tmp 11) [(.tmp 15)],none⟩]
 (cd 16
 (sr [mv 17 5,mv 4 17]
 (.ret))
 (.skip)))))
 (.reg [bc 18 .add 8 1,mv 8 18])))
def A.b198:Zae:=sr [mc 4 0]
 (.seq (sr [mv 6 0,ln 7 6,mc 8 0]
 (.block 0 (.loop A.lb198_0)))
 (sr [⟨(some 4),.mov (.const (.int .i64 (-1))),none⟩]
 (.ret)))
theorem A.c198:A.F 198=some ⟨19,[.tmp 4],A.b198⟩:=by kernel_rfl
def A.k198:=@A.kk 198 _ _ _ A.c198 rfl
theorem Ykr{f:V}(l:List (List V))(p:Nat→Bool)(hs:Sn 4 h N v l)(hl:l.length<1152921504606846976)(hf:∀(j:Nat) (x:List V),l[j]?=some x→∀h' n',Keeps h N h' n'→FnV A.C f [.agg x] h' n' (fun u _ _=>u=.bool (p j))):Fn A.C 198 [v,f] h N (fun u _ _=>u=.int .i64 (Zfp p 0 l.length)):=by
 intro w
 have hlen:=hs.len
 rw[Zaa,A.k198 (by simp)]
 simp[A.b198,hlen]
 refine Zaj [(4,5),(8,18)] (fun e r st=>Zac N st.w=[]∧Keeps h N st.h st.n∧((e=.exit 0∧Zfp p 0 l.length= -1)∨(e=.ret∧r.get 4=some (.int .i64 (Zfp p 0 l.length))))) (fun m r st=>Zac N st.w=[]∧Keeps h N st.h st.n∧∃k,k+m=l.length∧r.get 8=some (.int .i64 k)∧Zfp p 0 l.length=Zfp p k m) l.length ?_ ?_ ?_
 ·exact⟨by simp,Keeps.refl,0,by omega,by simp,rfl⟩
 ·rintro m r ⟨H,n1,W⟩ hr hf2 ⟨hW,hK,k,hk,h8,hz⟩
  simp only at hW hK
  rw[Zah]
  cases m with
  |zero=>
   have:k=l.length:=by omega
   subst this
   simp only[Zfp]at hz
   simp[A.lb198_0,hr,hf2,h8,hW,hK,hz]
  |succ m=>
   have hlt:k<l.length:=by omega
   obtain⟨c,hc⟩:=Zag hlt
   obtain⟨i,o,cc,e,rw,q1,q2,q3,q4⟩:=hs.at hc
   have q3:=(hK.get _ q2).trans q3
   have hk1:(k:Int)<(l.length:Int):=by omega
   simp only[Zfp]at hz
   simp[A.lb198_0,hr,h8,hk1,hlen,q1,q3,q4]
   refine Zkn (hf k c hc _ _ hK) ?_
   rintro v h2 n2 k2 rfl
   have kk:=hK.trans k2
   cases hp:p k
   ·rw[hp]at hz
    simp(disch:=first|(simp;done)|omega|rfl) [hf2,h8,hW,kk]
    exact⟨m,by omega,k+1,by omega,by simp,by simpa using hz⟩
   ·rw[hp]at hz
    simp[hf2,hW,kk]
    simpa using hz.symm
 ·rintro e r ⟨H,n1,W⟩ hr ⟨hW,hK,⟨rfl,hz⟩|⟨rfl,h4⟩⟩
  ·simp only at hW hK
   simp[hz,Ret,hW,hK]
  ·simp only at hW hK
   simp[h4,Ret,hW,hK]
def A.b126:Zae:=sr [⟨(some 4),.mov (.const (.bool false)),none⟩]
 (sr [mv 5 0,mv 6 1,c2 7 198 5 6,bc 8 .geq 7 0,mv 4 8]
 (.ret))
theorem A.c126:A.F 126=some ⟨9,[.tmp 4],A.b126⟩:=by kernel_rfl
def A.k126:=@A.kk 126 _ _ _ A.c126 rfl
def A.b69:Zae:=sr [mN 2,mc 3 0]
 (.seq (sr [mv 4 0,⟨(some 5),.call (.const (.func 126 [] [])) [(.tmp 4),(.const (.func 106 [] []))],none⟩]
 (cd 5
 (sr [mN 2,mc 3 4]
 (.ret))
 (.skip)))
 (sr [mv 6 0,c1 7 152 6,mv 2 7,mc 3 0]
 (.ret)))
theorem A.c69:A.F 69=some ⟨8,[.tmp 2,.tmp 3],A.b69⟩:=by kernel_rfl
def A.k69:=@A.kk 69 _ _ _ A.c69 rfl
def A.lb89_0:Zae:=sr [bi 15 .lss 14 13]
 (.seq (cd 15
 (.skip)
 (.exit 0))
 (.seq (.block 1 (sr [mv 16 14,mv 8 16]
 (.regD [mv 17 7,mv 18 8,mv 19 2,mv 20 0,mv 21 8,ia 22 4 20 21,lN 23 4 22,mv 24 1,mv 25 8,ia 26 4 24 25,lN 27 4 26,⟨(some 28),.call (.tmp 19) [(.tmp 23),(.tmp 27)],none⟩,ia 29 4 17 18,⟨none,.store 4 (.tmp 29) (.tmp 28),none⟩] [0,0,0,0,0,24,56,0,0,384,896,2044,4095,8191])))
 (.reg [bc 30 .add 14 1,mv 14 30])))
def A.b89:Zae:=sr [mN 6]
 (sr [mv 9 0,ln 10 9,⟨(some 11),.mkslice 114 4 64 [(.int .i64 0),.nilslice,(.int .i64 0),.nilslice] (.tmp 10) (.tmp 10),none⟩,mv 7 11]
 (.seq (sr [mv 12 0,ln 13 12,mc 14 0]
 (.block 0 (.loop A.lb89_0)))
 (sr [mv 31 7,mv 6 31]
 (.ret))))
theorem A.c89:A.F 89=some ⟨32,[.tmp 6],A.b89⟩:=by kernel_rfl
def A.k89:=@A.kk 89 _ _ _ A.c89 rfl
theorem Ygm{f:V}(l:List (List V))(p:Nat→Bool)(hs:Sn 4 h N v l)(hl:l.length<1152921504606846976)(hf:∀(j:Nat) (x:List V),l[j]?=some x→∀h' n',Keeps h N h' n'→FnV A.C f [.agg x] h' n' (fun u _ _=>u=.bool (p j))):Fn A.C 126 [v,f] h N (fun u _ _=>u=.bool (decide (0≤Zfp p 0 l.length))):=by
 intro w
 rw[Zaa,A.k126 (by simp)]
 simp[A.b126]
 refine Zab (Ykr l p hs hl hf) ?_
 rintro v h2 n2 k2 rfl
 simp[Ret,k2]
theorem Zyi:decide (0≤Zfp (fun j=>Zwg (l[j]?.getD 0)) 0 l.length)=Zcd l:=by
 rw[Bool.eq_iff_iff,decide_eq_true_eq,Zr1]
 unfold Zcd
 rw[List.any_eq_true]
 constructor
 ·rintro⟨j,_,h2,h3⟩
  obtain⟨q,hq⟩:=Zag (l:=l) (k:=j) (by omega)
  rw[hq]at h3
  exact⟨q,Yrv hq,h3⟩
 ·rintro⟨q,hq,h3⟩
  obtain⟨j,hj⟩:=Yuu hq
  exact⟨j,Yuh _,by have:=Zbk hj;omega,by rw[hj];exact h3⟩
theorem Yis{h:T O}{N:Nat}{u:V}{l:List Rat}{k:Nat}(hu:FrS h N u l)(hP:P10 h N)(hl:l.length<1000000)(hq:∀q∈l,Qb k q)(hk:k≤400000):Fn A.C 69 [u] h N (fun x h' n'=>(Zcd l=true∧x=.tup [.nilslice,.int .i64 4])∨(Zcd l=false∧∃v,x=.tup [v,.int .i64 0]∧Tx h' n' v l)):=by
 intro w
 obtain⟨cs,s1,s2,s3⟩:=id hu
 have key:=Ygm (f:=.func 106 [] []) cs (fun j=>Zwg (l[j]?.getD 0)) s1 (by omega) (fun j x hx h' n' hk'=>by
  obtain⟨q,hqj⟩:=Zag (l:=l) (k:=j) (by have:=Zbk hx;omega)
  obtain⟨c,g1,g2⟩:=s3 j q hqj
  rw[hx]at g1
  obtain rfl:x=c:=by simpa using g1
  simp only[hqj,Yub]
  exact Zr0 (g2.keep hk').fc (hP.keep hk') (hq q (Yrv hqj)) (by omega))
 rw[s2,Zyi]at key
 rw[Zaa,A.k69 (by simp)]
 simp[A.b69]
 refine Zab key ?_
 rintro _ h2 n2 k2 rfl
 cases hb:Zcd l with
 |true=>
  simp[Ret]
  exact k2
 |false=>
  simp[]
  refine Zab (Yd3 (k0:=k) (hu.keep k2) (hP.keep k2) hl hq hk) ?_
  rintro v h3 n3 k3 ⟨t1,_⟩
  simp[Ret]
  exact⟨k2.trans k3,t1⟩
def MfO(N0:Nat)(h:T O)(N:Nat)(v:V)(m:List (List Rat)):Prop:=∃us:List V,Own 1 97 N0 h N v (us.map fun y=>[y])∧(us=[]→v=.nilslice)∧us.length=m.length∧∀(j:Nat) (l:List Rat),m[j]?=some l→∃u,us[j]?=some u∧FrT h N u l
theorem MfO.nil{N0:Nat}:MfO N0 h N .nilslice []:=⟨[],Own.nil,fun _=>rfl,rfl,fun j l hl=>by simp at hl⟩
theorem MfO.keep{N0:Nat}{h':T O}{N':Nat}{m:List (List Rat)}(s:MfO N0 h N v m)(k:Keeps h N h' N'):MfO N0 h' N' v m:=by
 obtain⟨us,h1,h2,h3,h4⟩:=s
 refine⟨us,h1.keep k,h2,h3,fun j l hl=>?_⟩
 obtain⟨u,g1,g2⟩:=h4 j l hl
 exact⟨u,g1,g2.keep k⟩
theorem MfO.push{N0:Nat}{u x:V}{m:List (List Rat)}{w:List Nat}(s:MfO N0 h N v m)(hu:FrT h N u l)(hN:N0≤N)(hx:Za2 ⟨h,N,w⟩ 1 x=some (1,[u]))(hm:m.length<100000):
  ∃v' h' w',Zb2 ⟨h,N,w⟩ 1 24 97 v x=some (v',⟨h',N+1,w'⟩)∧Zac N0 w'=Zac N0 w∧Keeps h N0 h' (N+1)∧MfO N0 h' (N+1) v' (m++[l]):=by
 obtain⟨us,h1,h2,h3,h4⟩:=s
 obtain⟨v',h',w',f1,f2,f3,f4,fD,f5⟩:=Zgm (Y:=NW) (x:=[u]) (u:=x) (bytes:=24) (w:=w) h1 (fun h0=>h2 (List.map_eq_nil_iff.1 h0)) (fun c hc y hy=>by
  obtain⟨z,hz,rfl⟩:=Ysv.1 hc
  obtain rfl:y=z:=by simpa using hy
  obtain⟨j,hj⟩:=Yuu hz
  obtain⟨r,hr⟩:=Zag (l:=m) (k:=j) (by have:=Zbk hj;omega)
  obtain⟨u',g1,g2⟩:=h4 j r hr
  rw[hj]at g1
  obtain rfl:y=u':=by simpa using g1
  exact g2.1.form.2.2) hN (by decide) rfl hx (by rw[Yt9];omega)
 refine⟨v',h',w',f1,f2,f3,us++[u],by simpa using f5,by simp,by simp[h3],fun j r hr=>?_⟩
 by_cases hj:j<m.length
 ·rw[Ysc hj]at hr
  obtain⟨u',g1,g2⟩:=h4 j r hr
  exact⟨u',by rw[Ysc (by omega)];exact g1,g2.moved f4 fD (by simp)⟩
 ·rw[Ysm (by omega)]at hr
  cases hd:j-m.length with
  |zero=>
   rw[hd]at hr
   simp at hr
   subst hr
   exact⟨u,by rw[Ysm (by omega),h3,hd];rfl,hu.moved f4 fD (by simp)⟩
  |succ d=>rw[hd]at hr;simp at hr
variable {a b:List Rat} {j n:Nat}
set_option maxHeartbeats 2000000
def Zl2(F:Rat→Rat→Rat)(a b:List Rat)(n:Nat):List Rat:=(List.range n).map fun k=>F (a[k]?.getD 0) (b[k]?.getD 0)
theorem Ydq{F:Rat→Rat→Rat}(h:j<n):(Zl2 F a b n)[j]?=some (F (a[j]?.getD 0) (b[j]?.getD 0)):=by
 simp[Zl2,h]
theorem Zfv{F:Rat→Rat→Rat}:(Zl2 F a b n).length=n:=by simp[Zl2]
theorem Zo8:(wtN a b n).length=n:=by simp[wtN]
structure JnI (F:Rat→Rat→Rat) (h:T O) (N:Nat) (a b:List Rat) (m:Nat) (r:T V) (st:St):Prop where
 w:Zac N st.w=[]
 keep:Keeps h N st.h st.n
 ex:∃(k:Nat) (cs:List (List V)),k+m=a.length∧r.get 14=some (.int .i64 k)∧N<st.n∧st.h.get N=some (.cells (cs.flatten++Zd5 zF m) 114 true)∧cs.length=k∧∀(j:Nat) (q:Rat),j<k→(Zl2 F a b a.length)[j]?=some q→∃c,cs[j]?=some c∧FcC st.h st.n c q
theorem Yby{h:T O}{N:Nat}{u v f:V}(F:Rat→Rat→Rat)(hu:FrS h N u a)(hv:FrS h N v b)(hab:a.length≤b.length)(hF:∀x∈a,∀y∈b,∀(h':T O) (n':Nat) (ca cb:List V),Keeps h N h' n'→FcC h' n' ca x→FcC h' n' cb y→FnV A.C f [.agg ca,.agg cb] h' n' (fun z h2 n2=>Fc h2 n2 z (F x y)))(hl:a.length<1000000):Fn A.C 89 [u,v,f] h N (fun x h' n'=>FrT h' n' x (Zl2 F a b a.length)):=by
 intro w
 have l1:=hu.len
 have l2:=hv.len
 have c1:(64:Int)*(a.length:Int)≤140737488355328:=by omega
 have c2:(a.length:Int)<4611686018427387904:=by omega
 have kB:Keeps h N (h.set N (.cells (Zd5 zF a.length) 114 true)) (N+1):=Keeps.refl.new _
 rw[Zaa,A.k89 (by simp)]
 simp[A.b89,l1,c1,c2]
 refine Zaj [(8,8),(14,30)] (fun e r st=>e=.exit 0∧JnI F h N a b 0 r st) (JnI F h N a b) a.length ?_ ?_ ?_
 ·exact⟨by simp,kB,0,[],by omega,by simp,by show N<N+1;omega,by rw[T.get_set,Yru rfl];rfl,rfl,fun j q hj=>by omega⟩
 ·rintro m r ⟨H,n1,W⟩ hr hf ⟨hW,hK,t,cs,ht,h14,hN1,hM,hcl,hcs⟩
  simp only at hW hK hM hN1 hcs
  rw[Zah]
  cases m with
  |zero=>
   obtain rfl:t=a.length:=by omega
   simp[A.lb89_0,hr,hf,h14]
   exact⟨hW,hK,a.length,cs,by omega,by simp[h14],hN1,hM,hcl,hcs⟩
  |succ m=>
   have hlt:t<a.length:=by omega
   have hlt':(t:Int)<(a.length:Int):=by omega
   have hlb:t<b.length:=by omega
   have hlb':(t:Int)<(b.length:Int):=by omega
   obtain⟨x,hx⟩:=Zag hlt
   obtain⟨y,hy⟩:=Zag hlb
   obtain⟨i,o,cc,e,rw,ca,q1,q2,q3,q4,q5⟩:=(hu.keep hK).at hx
   obtain⟨i',o',cc',e',rw',cb,p1,p2,p3,p4,p5⟩:=(hv.keep hK).at hy
   have hi:i<N:=by
    obtain⟨i2,_,_,_,_,_,z1,z2,_⟩:=hu.at hx
    rw[q1]at z1
    simp at z1
    omega
   have hi':i'<N:=by
    obtain⟨i2,_,_,_,_,_,z1,z2,_⟩:=hv.at hy
    rw[p1]at z1
    simp at z1
    omega
   simp[A.lb89_0,hr,h14,l1,l2,hlt',hlb',q1,q2,q3,q4,p1,p2,p3,p4]
   refine Zkn (hF x (Yrv hx) y (Yrv hy) _ _ _ _ hK q5 p5) ?_
   rintro _ H2 n2 k2 hf2
   obtain⟨c,rfl,hc⟩:=hf2.c
   have le2:=k2.le
   have nle:=hK.le
   have hM2:=(k2.get N hN1).trans hM
   have hcs2:∀(j:Nat) (q:Rat),j<cs.length→(Zl2 F a b a.length)[j]?=some q→∃c,cs[j]?=some c∧FcC H2 n2 c q:=fun j q hj hq=>by
    obtain⟨c,g1,g2⟩:=hcs j q (by omega) hq
    exact⟨c,g1,g2.keep k2⟩
   obtain⟨f1,f2,f3⟩:=Zp1 (l:=Zl2 F a b a.length) (by rw[Zfv];omega) hcs2
   have hfl:=Zb9 f1
   obtain⟨e1,e2⟩:=hc.len
   have hsp:splice (cs.flatten++Zd5 zF (m+1)) (t*4) c=(cs++[c]).flatten++Zd5 zF m:=by
    rw[Zhm,Zkl (n:=4) (by rw[hfl,hcl]) rfl e1,Zlv,Ysz]
   have hb4:t*4+4≤(cs.flatten++Zd5 zF (m+1)).length:=by
    rw[Yr4,hfl,Yha];omega
   have hcc:(V.agg c).cells=c:=rfl
   have hnu:NoU (cs.flatten++Zd5 zF (m+1)):=f2.app Zo7
   have hlen4:((cs++[c]).flatten++Zd5 zF m).length=(cs.flatten++Zd5 zF (m+1)).length:=by
    rw[Zhm,Zlv];simp[e1,zF];omega
   generalize cs.flatten++Zd5 zF (m+1)=X at*
   obtain⟨Y,hY⟩:∃Y,(cs++[c]).flatten++Zd5 zF m=Y:=⟨_,rfl⟩
   rw[hY]at hsp hlen4
   have d1:N<n2:=by omega
   have d2:¬i=N:=by omega
   have d3:¬i'=N:=by omega
   simp(disch:=first|(simp;done)|omega|rfl) [-V.cells, -V.one,hf,h14,hM2,Zan,hcc,e1,e2,hb4,hsp]
   have wok:¬N<N:=by omega
   refine⟨m,by omega,⟨by simp[d1,Zac,hW],(hK.trans k2).set (Yrr N),t+1,cs++[c],by omega,by simp,d1,by show T.get _ N=_;rw[T.get_set,Yru rfl,hY],by simp[hcl],fun j q' hj hq'=>?_⟩⟩
   by_cases hjk:j<t
   ·obtain⟨c',g1,g2⟩:=hcs j q' hjk hq'
    exact⟨c',by rw[Ysc (by omega)];exact g1,(g2.keep k2).setNU hM2 hnu hlen4⟩
   ·obtain rfl:j=t:=by omega
    rw[Ydq hlt,hx,hy]at hq'
    simp only[Yub,Yro]at hq'
    subst hq'
    exact⟨c,by rw[Ysm (by omega),hcl];simp,hc.setNU hM2 hnu hlen4⟩
 ·rintro _ r ⟨H,n1,W⟩ hr ⟨rfl,hW,hK,t,cs,ht,h14,hN1,hM,hcl,hcs⟩
  simp only at hW hK hM hN1 hcs
  obtain rfl:t=a.length:=by omega
  simp[hr,Ret,hW,hK]
  have hz:Zd5 zF 0=[]:=by simp[Zd5]
  obtain⟨f1,_,_⟩:=Zp1 (l:=Zl2 F a b a.length) (by rw[Zfv];omega) (fun j q hj hq=>hcs j q (by omega) hq)
  have hfl:=Zb9 f1
  rw[hz,Ytm]at hM
  refine⟨⟨cs,.inr ⟨N,0,some a.length,cs.flatten,_,true,by rw[hcl],hN1,hM,fun j x hx=>by rw[Yt3];exact Ze5 f1 hx,by omega,fun k hk=>by simp at hk;omega⟩,by rw[Zfv];exact hcl,fun j q hq=>hcs j q (by have:=Zbk hq;rw[Zfv]at this;omega) hq⟩,fun i hi=>?_⟩
  simp[Zeg]at hi
  subst hi
  exact⟨_,_,hM⟩
theorem Yfo{h:T O}{N:Nat}{u v:V}{k:Nat}(hu:FrS h N u a)(hv:FrS h N v b)(hab:a.length≤b.length)(ha:∀q∈a,Qb j q)(hb:∀q∈b,Qb k q)(hj:j≤400000)(hk:k≤400000)(hl:a.length<1000000):Fn A.C 89 [u,v,.func 90 [] []] h N (fun x h' n'=>FrT h' n' x (wtN a b a.length)):=
 Yby (fun x y=>x*y) hu hv hab (fun x hx y hy h' n' ca cb _ q5 p5=>by
  have hpb:=ha x hx
  have hqb:=hb y hy
  have w1:=Zh4 hpb.1
  have w2:=Zh4 (z:=(x.den:Int)) (k:=j) (by rw[Yrw];exact hpb.2)
  have w3:=Zh4 hqb.1
  have w4:=Zh4 (z:=(y.den:Int)) (k:=k) (by rw[Yrw];exact hqb.2)
  exact(Ycc q5.fc p5.fc (by omega) (by omega) (by omega) (by omega))) hl
theorem Zy8{k:Nat}(ha:∀q∈a,Qb j q)(hb:∀q∈b,Qb k q)(hj:1≤j)(hk:1≤k):∀q∈wtN a b n,Qb (j+k) q:=fun q hq=>by
 unfold wtN at hq
 obtain⟨i,_,rfl⟩:=Ysv.1 hq
 exact(Zkt ha hj i).mul (Zkt hb hk i)
variable {l:List Str} {m:List (List Str)} {n:Nat}
set_option maxHeartbeats 2000000
def A.b11:Zae:=sr [bx 2 22 0,bx 3 23 1,mN 4,mc 5 0]
 (sr [⟨(some 7),.mkfunc 65 [] [(.tmp 2)],none⟩,⟨(some 8),.mkfunc 67 [] [(.tmp 3),(.tmp 2)],none⟩,⟨(some 9),.bslice 94 1 2 [.nilfunc,.nilfunc] [(0,1,(.tmp 7)),(1,1,(.tmp 8))],none⟩,c1 10 64 9,mv 6 10]
 (.seq (sr [mv 11 6,ni 12 11 0]
 (cd 12
 (sr [mv 13 6,mN 4,mv 5 13]
 (.ret))
 (.skip)))
 (.seq (.regD [ld 14 2,c1 15 71 14,ld 16 3,c1 17 72 16,c2 18 70 15 17,c1 19 69 18,xt 20 19 0,xt 21 19 1,mv 4 20,mv 5 21] [0,1,0,7,15,31,63,63,255,511])
 (.ret))))
theorem A.c11:A.F 11=some ⟨22,[.tmp 4,.tmp 5],A.b11⟩:=by kernel_rfl
def Ze0(l:List Str):List Rat:=l.map Zqe
def Zgs(m:List (List Str)):List (List Rat):=m.map Ze0
theorem Za5:∀{l:List Int},Zak l=0→∀x∈l,x=0
 |[],_,x,hx=>by simp at hx
 |y::l,h,x,hx=>by
  simp only[Zak]at h
  split at h
  ·rename_i h0
   rcases Yss.1 hx with rfl|hx
   ·exact h0
   ·exact Za5 h x hx
  ·rename_i h0;exact absurd h h0
def OkL(l:List Str):Prop:=∀s∈l,chkNum s=0∧s.length≤24
theorem OkL.txt(h:OkL l):(Ze0 l).map Za1=l:=by
 unfold Ze0
 rw[List.map_map]
 conv=>rhs;rw[←List.map_id l]
 apply Yvd
 intro s hs
 exact(Zkx (h s hs).1).1
theorem OkL.qb(h:OkL l):∀q∈Ze0 l,Qb 100 q:=fun q hq=>by
 obtain⟨s,hs,rfl⟩:=Ysv.1 hq
 exact Ynx (h s hs).1 (h s hs).2
theorem OkL.sl{h:T O}{N:Nat}{v:V}(hs:Sl h N v (strs l))(hl:OkL l):Tx h N v (Ze0 l):=by
 unfold Tx tx
 rw[hl.txt]
 exact hs
theorem MtS.rat{h:T O}{N:Nat}{v:V}(hs:MtS h N v m)(hm:∀r∈m,OkL r):TxM h N v (Zgs m):=by
 apply MtS.txm
 have:((Zgs m).map fun l=>l.map Za1)=m:=by
  unfold Zgs
  rw[List.map_map]
  conv=>rhs;rw[←List.map_id m]
  apply Yvd
  intro r hr
  exact(hm r hr).txt
 rw[this]
 exact hs
theorem Zj9(h:Zb1 l n=0)(hs:Zay 6 l=true):l.length=n∧OkL l:=by
 unfold Zb1 at h
 split at h
 ·rename_i hn
  refine⟨hn,fun s hs'=>?_⟩
  have h1:=Za5 h _ (Ysv.2 ⟨s,hs',rfl⟩)
  have h2:l.all Znx=true:=by
   unfold Zay at hs
   rw[Yr6]at hs
   exact hs.2
  have h3:=Ysu.1 h2 s hs'
  simp[Znx]at h3
  exact⟨by omega,h3⟩
 ·exact absurd h (by decide)
theorem Zqs(h:Zay n l=true):Zgr l.length n=true:=by
 unfold Zay at h
 rw[Yr6]at h
 exact h.1
structure OkM (m:List (List Str)) (n:Nat):Prop where
 pos:0<m.length
 le:m.length≤6
 n1:0<n
 n6:n≤6
 row:∀r∈m,r.length=n∧OkL r
theorem OkM.rat(h:OkM m n):∀r∈Zgs m,r.length=n∧∀q∈r,Qb 100 q:=fun r hr=>by
 obtain⟨s,hs,rfl⟩:=Ysv.1 hr
 exact⟨by simp[Ze0,(h.row s hs).1],(h.row s hs).2.qb⟩
theorem Zoe(h:Zco 6 6 m=true):Zgr m.length 6=true∧∀r∈m,Zay 6 r=true:=by
 unfold Zco at h
 rw[Yr6,Ysu]at h
 exact h
theorem Ynf(h:0<m.length):∃r∈m,hdL m=r.length:=by
 obtain⟨r,hr⟩:=Zag h
 exact⟨r,Yrv hr,by simp[hdL,hr]⟩
theorem Zm1{k:Nat}(h:Zgr k 6=true)(h2:k≤64):k≤6:=by
 simp[Zgr]at h
 omega
theorem Zb4(h:Zay 6 l=true):l.length<100000∧∀s∈l,s.length≤100000:=by
 refine⟨by have:=Zvq (Zqs h) (by omega);omega,fun s hs=>?_⟩
 unfold Zay at h
 rw[Yr6]at h
 have h3:=Ysu.1 h.2 s hs
 simp[Znx]at h3
 omega
theorem Zhr(h:Zco 6 6 m=true):m.length<100000∧∀r∈m,r.length<100000∧∀s∈r,s.length≤100000:=by
 obtain⟨s1,s2⟩:=Zoe h
 exact⟨by have:=Zvq s1 (by omega);omega,fun r hr=>Zb4 (s2 r hr)⟩
def Ypv(e:Int)(l:List Rat)(x:V)(h:T O)(n:Nat):Prop:=(e≠0∧x=.tup [.nilslice,.int .i64 e])∨(e=0∧((Zcd l=true∧x=.tup [.nilslice,.int .i64 4])∨(Zcd l=false∧∃v,x=.tup [v,.int .i64 0]∧Tx h n v l)))
theorem Zue{a b:List Rat}{j k:Nat}(ha:∀q∈a,Qb j q)(hb:∀q∈b,Qb k q)(hj:1≤j)(hk:1≤k)(hn:a.length≤n):Qb (n*(j+k+1)+1) (Zny a b):=(Znc ha hb hj hk a.length).mono (by have:=Yr7 (j+k+1) hn;omega)
theorem Yjq{a b:V}{x y:Int}{P:V→Int→Nat→Prop}(h0:P a x 0)(h1:x=0→P b y 1):∀(j:Nat) (f:V) (e:Int),[a,b][j]?=some f→[x,y][j]?=some e→(∀(i:Nat) (z:Int),i<j→[x,y][i]?=some z→z=0)→P f e j
 |0,f,e,hf,he,_=>by simp at hf he;subst hf he;exact h0
 |1,f,e,hf,he,hz=>by simp at hf he;subst hf he;exact h1 (hz 0 x (by omega) rfl)
 |j+2,f,e,hf,_,_=>by simp at hf
set_option maxHeartbeats 2000000
def A.b13:Zae:=sr [bx 2 22 0,bx 3 23 1,mN 4,mc 5 0]
 (sr [⟨(some 8),.mkfunc 81 [] [(.tmp 2)],none⟩,⟨(some 9),.mkfunc 82 [] [(.tmp 3),(.tmp 2)],none⟩,⟨(some 10),.mkfunc 83 [] [(.tmp 3)],none⟩,⟨(some 11),.bslice 94 1 3 [.nilfunc,.nilfunc,.nilfunc] [(0,1,(.tmp 8)),(1,1,(.tmp 9)),(2,1,(.tmp 10))],none⟩,c1 12 64 11,mv 6 12]
 (.seq (sr [mv 13 6,ni 14 13 0]
 (cd 14
 (sr [mv 15 6,mN 4,mv 5 15]
 (.ret))
 (.skip)))
 (sr [ld 16 3,c1 17 72 16,⟨(some 7),.alloc [.nilslice] 97,none⟩,so 7 17]
 (sr [ld 18 2,c1 19 71 18,⟨(some 20),.mkfunc 87 [] [(.tmp 7)],none⟩,c2 21 86 19 20,c1 22 69 21,xt 23 22 0,xt 24 22 1,mv 4 23,mv 5 24]
 (.ret)))))
theorem A.c13:A.F 13=some ⟨25,[.tmp 4,.tmp 5],A.b13⟩:=by kernel_rfl
def A.k13:=@A.kk 13 _ _ _ A.c13 rfl
theorem Zve{a b c:V}{x y z:Int}{P:V→Int→Prop}(h0:P a x)(h1:x=0→P b y)(h2:x=0→y=0→P c z):∀(j:Nat) (f:V) (e:Int),[a,b,c][j]?=some f→[x,y,z][j]?=some e→(∀(i:Nat) (t:Int),i<j→[x,y,z][i]?=some t→t=0)→P f e
 |0,f,e,hf,he,_=>by simp at hf he;subst hf he;exact h0
 |1,f,e,hf,he,hz=>by simp at hf he;subst hf he;exact h1 (hz 0 x (by omega) rfl)
 |2,f,e,hf,he,hz=>by simp at hf he;subst hf he;exact h2 (hz 0 x (by omega) rfl) (hz 1 y (by omega) rfl)
 |j+3,f,e,hf,_,_=>by simp at hf
theorem Ylk{l:List Str}{z:Int}(h:Zak (l.map (Zgj z))=0)(hs:Zay 6 l=true):OkL l:=fun s hs'=>by
 have h1:=Za5 h _ (Ysv.2 ⟨s,hs',rfl⟩)
 unfold Zay at hs
 rw[Yr6]at hs
 have h3:=Ysu.1 hs.2 s hs'
 simp[Znx]at h3
 refine⟨?_,h3⟩
 unfold Zgj at h1
 split at h1
 ·assumption
 ·omega
set_option maxHeartbeats 2000000
def A.b12:Zae:=sr [bx 2 22 0,bx 3 23 1,mN 4,mc 5 0]
 (sr [⟨(some 7),.mkfunc 73 [] [(.tmp 2)],none⟩,⟨(some 8),.mkfunc 76 [] [(.tmp 2)],none⟩,⟨(some 9),.mkfunc 77 [] [(.tmp 2)],none⟩,⟨(some 10),.mkfunc 79 [] [(.tmp 3),(.tmp 2)],none⟩,⟨(some 11),.bslice 94 1 4 [.nilfunc,.nilfunc,.nilfunc,.nilfunc] [(0,1,(.tmp 7)),(1,1,(.tmp 8)),(2,1,(.tmp 9)),(3,1,(.tmp 10))],none⟩,c1 12 64 11,mv 6 12]
 (.seq (sr [mv 13 6,ni 14 13 0]
 (cd 14
 (sr [mv 15 6,mN 4,mv 5 15]
 (.ret))
 (.skip)))
 (.seq (.regD [ld 16 2,c1 17 71 16,ld 18 2,⟨(some 19),.iaddrSl 1 (.tmp 18) (.const (.int .i64 0)),none⟩,ld 20 19,ln 21 20,c2 22 80 17 21,ld 23 3,c1 24 72 23,c2 25 70 22 24,c1 26 69 25,xt 27 26 0,xt 28 26 1,mv 4 27,mv 5 28] [0,1,0,4,12,28,63,0,255,511,1023,2047,2047,8191,16383])
 (.ret))))
theorem A.c12:A.F 12=some ⟨29,[.tmp 4,.tmp 5],A.b12⟩:=by kernel_rfl
def A.k12:=@A.kk 12 _ _ _ A.c12 rfl
variable {h:T O} {l:List Rat}
def A.b22:Zae:=sr [⟨(some 8),.mov (.const (.bool false)),none⟩]
 (.seq (sr [mv 9 3,ei 10 9 0]
 (cd 10
 (.reg [mv 11 2,c1 12 97 11,mv 3 12])
 (.skip)))
 (sr [mv 13 1,mv 14 3,⟨(some 15),.bin .eql (.prim .int) false (.tmp 13) (.tmp 14),none⟩,mv 16 15,mg 17 3 16,⟨(some 18),.bin .eql (.prim .int) true (.tmp 17) (.const (.int .i64 0)),(some (16,true))⟩,mg 19 18 16,mg 20 0 19,mg 21 2 19,⟨(some 22),.call (.const (.func 60 [] [])) [(.tmp 20),(.tmp 21)],(some (19,true))⟩,⟨(some 23),.pick (.tmp 19) (.tmp 22) (.const (.bool false)),(some (16,true))⟩,mg 24 23 16,mh 25 3 24,⟨(some 26),.bin .neq (.prim .int) true (.tmp 25) (.const (.int .i64 0)),(some (24,false))⟩,mh 27 26 24,mg 28 0 27,⟨(some 29),.len 1 (.tmp 28),(some (27,true))⟩,⟨(some 30),.bin .eql (.prim .int) true (.tmp 29) (.const (.int .i64 0)),(some (27,true))⟩,⟨(some 31),.pick (.tmp 27) (.tmp 30) (.const (.bool false)),(some (24,false))⟩,⟨(some 32),.pick (.tmp 24) (.const (.bool true)) (.tmp 31),(some (16,true))⟩,pf 33 16 32,mv 8 33]
 (.ret)))
theorem A.c22:A.F 22=some ⟨34,[.tmp 8],A.b22⟩:=by kernel_rfl
def A.k22:=@A.kk 22 _ _ _ A.c22 rfl
def TP(e:Int)(l:List Rat)(v:V)(c:Int)(h:T O)(n:Nat):Prop:=(e≠0∧v=.nilslice∧c=e)∨(e=0∧((Zcd l=true∧v=.nilslice∧c=4)∨(Zcd l=false∧c=0∧Tx h n v l)))
theorem Ypv.parts{e:Int}{x:V}{n:Nat}(s:Ypv e l x h n):∃v c,x=.tup [v,.int .i64 c]∧TP e l v c h n:=by
 rcases s with⟨a,rfl⟩|⟨a,⟨b,rfl⟩|⟨b,v,rfl,c⟩⟩
 ·exact⟨_,_,rfl,.inl ⟨a,rfl,rfl⟩⟩
 ·exact⟨_,_,rfl,.inr ⟨a,.inl ⟨b,rfl,rfl⟩⟩⟩
 ·exact⟨_,_,rfl,.inr ⟨a,.inr ⟨b,rfl,c⟩⟩⟩
theorem TP.keep{e:Int}{v:V}{c:Int}{h':T O}{n n':Nat}(s:TP e l v c h n)(k:Keeps h n h' n'):TP e l v c h' n':=by
 rcases s with a|⟨a,b|⟨b,d,s⟩⟩
 ·exact .inl a
 ·exact .inr ⟨a,.inl b⟩
 ·exact .inr ⟨a,.inr ⟨b,d,s.keep k⟩⟩
theorem Ybo{N:Nat}{v u:V}{e c:Int}{w:List Nat}(hv:TP e l v c h N)(hu:e=0→Tx h N u l)(hl:l.length<100000)(hq:e=0→∀q∈l,(Za1 q).length<1000000):A.C.call (.func 22 [] []) [v,.int .i64 c,u,.int .i64 e] ⟨h,N,w⟩=some (.bool true,⟨h,N,w⟩):=by
 apply Call.eq
 rw[Zaa,A.k22 (by simp)]
 rcases hv with⟨a,rfl,rfl⟩|⟨rfl,⟨b,rfl,rfl⟩|⟨b,rfl,t⟩⟩
 ·simp[A.b22,a]
 ·have hr:=fun w=>Zt3 (w:=w) (hu rfl) hl (hq rfl)
  rw[b]at hr
  simp only[if_true]at hr
  simp[A.b22,hr]
 ·have hr:=fun w=>Zt3 (w:=w) (hu rfl) hl (hq rfl)
  rw[b]at hr
  simp only[Yry,if_false]at hr
  have hs:=fun w=>Zzp (w:=w) (l:=l.map Za1) t (hu rfl) (by simpa using hl)
  simp[A.b22,hr,hs]
variable {N:Nat} {h:T O} {q:Rat}
def A.b191:Zae:=sr [bx 1 114 0,⟨(some 2),.alloc [(.int .i64 0),.nilslice,(.int .i64 0),.nilslice] 114,none⟩]
 (.seq (.regD [fa 3 0 1,lN 4 2 3,c1 5 218 4,fa 6 2 1,lN 7 2 6,⟨(some 8),.build [(.int .i64 0),.nilslice,(.int .i64 0),.nilslice] [(0,2,(.tmp 5)),(2,2,(.tmp 7))],none⟩,⟨none,.store 4 (.tmp 2) (.tmp 8),none⟩] [0,1,3,0,8,31,63])
 (.ret))
theorem A.c191:A.F 191=some ⟨9,[.cell 2 (some 4)],A.b191⟩:=by kernel_rfl
def A.k191:=@A.kk 191 _ _ _ A.c191 rfl
def A.b119:Zae:=sr [bx 2 114 0,bx 3 114 1,⟨(some 4),.alloc [(.int .i64 0),.nilslice,(.int .i64 0),.nilslice] 114,none⟩]
 (.seq (.regD [lN 5 4 2,lN 6 4 3,c1 7 191 6,c2 8 120 5 7,⟨none,.store 4 (.tmp 4) (.tmp 8),none⟩] [0,0,2,7,15])
 (.ret))
theorem A.c119:A.F 119=some ⟨9,[.cell 4 (some 4)],A.b119⟩:=by kernel_rfl
def A.k119:=@A.kk 119 _ _ _ A.c119 rfl
theorem Ykv{x:V}(hx:Fc h N x q)(l1:wl q.num<1000000):Fn A.C 191 [x] h N (fun v h' n'=>Fc h' n' v (-q)):=by
 intro w
 rw[Zaa,A.k191 (by simp)]
 obtain⟨n1,u1,n2,u2,rfl,s1,s2⟩:=hx
 have o1:=Za9 s1
 have o2:=Za9 s2
 unfold V.one at o1 o2
 have kB:Keeps h N ((h.set N (.cells [.int .i64 n1,u1,.int .i64 n2,u2] 114 true)).set (N+1) (.cells [.int .i64 0,.nilslice,.int .i64 0,.nilslice] 114 true)) (N+2):=kset (kset Keeps.refl _) _
 simp[A.b191,Zam,slc,o1,o2]
 generalize hhB:(h.set N (.cells [.int .i64 n1,u1,.int .i64 n2,u2] 114 true)).set (N+1) (.cells [.int .i64 0,.nilslice,.int .i64 0,.nilslice] 114 true)=hB at*
 have b1:hB.get N=some (.cells [.int .i64 n1,u1,.int .i64 n2,u2] 114 true):=by rw[←hhB];simp
 have b3:hB.get (N+1)=some (.cells [.int .i64 0,.nilslice,.int .i64 0,.nilslice] 114 true):=by rw[←hhB];simp
 refine Zab (Zoq (s1.keep kB) (by omega)) ?_
 rintro v5 h1 m1 k1 q1
 obtain⟨n3,u3,rfl⟩:∃n3 u3,v5=.agg [.int .i64 n3,u3]:=by
  rcases q1 with⟨rfl,_⟩|⟨_,_,_,_,rfl,_⟩<;>exact⟨_,_,rfl⟩
 have o3:=Za9 q1
 unfold V.one at o3
 have kle1:=k1.le
 have f1:=(k1.get N (by omega)).trans b1
 have f3:=(k1.get (N+1) (by omega)).trans b3
 have e1:N<m1:=by omega
 have e2:N+1<m1:=by omega
 simp[f1,f3,e1,e2,Zam,slc,splice,Zan,o2,o3,Zav.chk,Ret]
 have kk:=kB.trans k1
 exact⟨kk.set (by omega),n3,u3,n2,u2,rfl,by rw[Rat.neg_num];exact q1.setNU (i:=N+1) f3 nu0 rfl,by rw[Rat.neg_den];exact((s2.keep kB).keep k1).setNU (i:=N+1) f3 nu0 rfl⟩
theorem Yku{x y:V}{p:Rat}(hx:Fc h N x p)(hy:Fc h N y q)(l1:wl p.num<1000000)(l2:wl (p.den:Nat)<1000000)(l3:wl q.num<1000000)(l4:wl (q.den:Nat)<1000000):Fn A.C 119 [x,y] h N (fun v h' n'=>Fc h' n' v (p-q)):=by
 intro w
 rw[Zaa,A.k119 (by simp)]
 have hx0:=hx
 have hy0:=hy
 obtain⟨n1,u1,n2,u2,rfl,s1,s2⟩:=hx
 obtain⟨n3,u3,n4,u4,rfl,s3,s4⟩:=hy
 have o1:=Za9 s1
 have o2:=Za9 s2
 have o3:=Za9 s3
 have o4:=Za9 s4
 unfold V.one at o1 o2 o3 o4
 have kB:Keeps h N (((h.set N (.cells [.int .i64 n1,u1,.int .i64 n2,u2] 114 true)).set (N+1) (.cells [.int .i64 n3,u3,.int .i64 n4,u4] 114 true)).set (N+2) (.cells [.int .i64 0,.nilslice,.int .i64 0,.nilslice] 114 true)) (N+3):=kset (kset (kset Keeps.refl _) _) _
 simp[A.b119,Zam,slc,o1,o2,o3,o4]
 generalize hhB:((h.set N (.cells [.int .i64 n1,u1,.int .i64 n2,u2] 114 true)).set (N+1) (.cells [.int .i64 n3,u3,.int .i64 n4,u4] 114 true)).set (N+2) (.cells [.int .i64 0,.nilslice,.int .i64 0,.nilslice] 114 true)=hB at*
 have b1:hB.get N=some (.cells [.int .i64 n1,u1,.int .i64 n2,u2] 114 true):=by rw[←hhB];simp
 have b2:hB.get (N+1)=some (.cells [.int .i64 n3,u3,.int .i64 n4,u4] 114 true):=by rw[←hhB];simp
 have b3:hB.get (N+2)=some (.cells [.int .i64 0,.nilslice,.int .i64 0,.nilslice] 114 true):=by rw[←hhB];simp
 refine Zab (Ykv (hy0.keep kB) l3) ?_
 rintro v5 h1 m1 k1 q1
 have kle1:=k1.le
 have f1:=(k1.get N (by omega)).trans b1
 have f2:=(k1.get (N+1) (by omega)).trans b2
 have f3:=(k1.get (N+2) (by omega)).trans b3
 have e1:N<m1:=by omega
 have e2:N+1<m1:=by omega
 simp
 refine Zab (Ycf ((hx0.keep kB).keep k1) q1 l1 l2 (by rw[Rat.neg_num,Zqj];exact l3) (by rw[Rat.neg_den];exact l4)) ?_
 rintro v7 h3 m3 k3 hv
 rw[←Rat.sub_eq_add_neg]at hv
 obtain⟨n5,u5,n6,u6,rfl,t1,t2⟩:=hv
 have o5:=Za9 t1
 have o6:=Za9 t2
 unfold V.one at o5 o6
 have kle3:=k3.le
 have f5:=(k3.get (N+2) (by omega)).trans f3
 have e3:N+2<m3:=by omega
 simp[f5,e3,Zam,slc,splice,Zan,o5,o6,Zav.chk,Ret]
 have kk:=(kB.trans k1).trans k3
 exact⟨kk.set (by omega),n5,u5,n6,u6,rfl,t1.setNU (i:=N+2) f5 nu0 rfl,t2.setNU (i:=N+2) f5 nu0 rfl⟩
theorem Qb.wls{k:Nat}(h:Qb k q):wl q.num≤k∧wl (q.den:Nat)≤k:=⟨Zh4 h.1,Zh4 (z:=(q.den:Int)) (k:=k) (by rw[Yrw];exact h.2)⟩
def Yiw(a b:List Rat):List Rat:=Zl2 (fun x y=>x-y) a b a.length
theorem Yfn{u v:V}{a b:List Rat}{j k:Nat}(hu:FrS h N u a)(hv:FrS h N v b)(hab:a.length≤b.length)(ha:∀q∈a,Qb j q)(hb:∀q∈b,Qb k q)(hj:j≤400000)(hk:k≤400000)(hl:a.length<1000000):Fn A.C 89 [u,v,.func 119 [] []] h N (fun x h' n'=>FrT h' n' x (Yiw a b)):=
 Yby (fun x y=>x-y) hu hv hab (fun x hx y hy h' n' ca cb _ q5 p5=>by
  have w1:=(ha x hx).wls
  have w3:=(hb y hy).wls
  exact(Yku q5.fc p5.fc (by omega) (by omega) (by omega) (by omega))) hl
end Go.Mx
