/-num-/
import Derived.Test.YtalhlaaapkpkiaaGreatDoorNdC
set_option linter.all false
namespace Go.Mx
open Go Go.Proofs
variable {N:Nat} {h:T O} {l:List Rat} {v:V}
set_option maxHeartbeats 1000000
set_option maxRecDepth 1000000
noncomputable def A.w43:=A.q Tryz.f43
noncomputable def A.lb43_0:=A.ql A.w43 0 []
noncomputable def A.b43:=(fun x0=>A.qb A.w43 [x0]) A.lb43_0
def A.k43:=@A.kk 43 23 [.tmp 2] A.b43 (by kernel_rfl) rfl
def FcC(h:T O)(N:Nat)(c:List V)(q:Rat):Prop:=∃n1 u1 n2 u2,c=[.int .i64 n1,u1,.int .i64 n2,u2]∧In h N (.agg [.int .i64 n1,u1]) q.num∧In h N (.agg [.int .i64 n2,u2]) (q.den:Int)
def FcC.keep{h':T O}{N':Nat}{c:List V}{q:Rat}(s:FcC h N c q)(k:Keeps h N h' N'):FcC h' N' c q:=by
 obtain⟨n1,u1,n2,u2,rfl,s1,s2⟩:=s
 exact⟨n1,u1,n2,u2,rfl,s1.keep k,s2.keep k⟩
def FcC.fc{c:List V}{q:Rat}(s:FcC h N c q):Fc h N (.agg c) q:=by
 obtain⟨n1,u1,n2,u2,rfl,s1,s2⟩:=s
 exact⟨n1,u1,n2,u2,rfl,s1,s2⟩
def Fc.c{x:V}{q:Rat}(s:Fc h N x q):∃c,x=.agg c∧FcC h N c q:=by
 obtain⟨n1,u1,n2,u2,rfl,s1,s2⟩:=s
 exact⟨_,rfl,n1,u1,n2,u2,rfl,s1,s2⟩
def NoU(c:List V):Prop:=∀x∈c,∀m,x≠.int .u64 m
def Zwu{n:Int}{u:V}{z:Int}(s:In h N (.agg [.int .i64 n,u]) z):∀m,u≠.int .u64 m:=by
 rcases s with⟨h1,_⟩|⟨i,o,l,c,h1,_⟩
 ·simp at h1;rw[h1.2];simp
 ·simp at h1;rw[h1.2];simp
def FcC.noU{c:List V}{q:Rat}(s:FcC h N c q):NoU c:=by
 obtain⟨n1,u1,n2,u2,rfl,s1,s2⟩:=s
 intro x hx m
 simp at hx
 rcases hx with rfl|rfl|rfl|rfl
 ·simp
 ·exact Zwu s1 m
 ·simp
 ·exact Zwu s2 m
def FcC.len{c:List V}{q:Rat}(s:FcC h N c q):c.length=4∧c.all V.one=true:=by
 obtain⟨n1,u1,n2,u2,rfl,s1,s2⟩:=s
 have o1:=Za7 s1
 have o2:=Za7 s2
 exact⟨rfl,by simp only[List.all_cons,List.all_nil,o1,o2,Bool.and_true];rfl⟩
def FcC.setNU{i:Nat}{c c0 c1:List V}{q:Rat}{e0 e1:TypeId}{w0 w1:Bool}(s:FcC h N c q)(g:h.get i=some (.cells c0 e0 w0))(hn:NoU c0)(hc:c1.length=c0.length):FcC (h.set i (.cells c1 e1 w1)) N c q:=by
 obtain⟨n1,u1,n2,u2,rfl,s1,s2⟩:=s
 exact⟨n1,u1,n2,u2,rfl,s1.setNU g hn hc,s2.setNU g hn hc⟩
def FrS(h:T O)(N:Nat)(v:V)(l:List Rat):Prop:=∃cs:List (List V),Sn 4 h N v cs∧cs.length=l.length∧∀(j:Nat) (q:Rat),l[j]?=some q→∃c,cs[j]?=some c∧FcC h N c q
def FrS.keep{h':T O}{N':Nat}(s:FrS h N v l)(k:Keeps h N h' N'):FrS h' N' v l:=by
 obtain⟨cs,h1,h2,h3⟩:=s
 refine⟨cs,h1.keep k,h2,fun j q hq=>?_⟩
 obtain⟨c,g1,g2⟩:=h3 j q hq
 exact⟨c,g1,g2.keep k⟩
def FrS.len(s:FrS h N v l):Zo9 v=some l.length:=by
 obtain⟨cs,h1,h2,_⟩:=s
 rw[h1.len,h2]
def FrS.at(s:FrS h N v l){j:Nat}{q:Rat}(hj:l[j]?=some q):∃i o x e rw c,Zlv v=some (i,o)∧i<N∧h.get i=some (.cells x e rw)∧slc x (o+j*4) 4=some c∧FcC h N c q:=by
 obtain⟨cs,h1,h2,h3⟩:=s
 obtain⟨c,h4,h5⟩:=h3 j q hj
 obtain⟨i,o,x,e,rw,q1,q2,q3,q4⟩:=h1.at h4
 exact⟨i,o,x,e,rw,c,q1,q2,q3,q4,h5⟩
def FrT(h:T O)(N:Nat)(v:V)(l:List Rat):Prop:=FrS h N v l∧∀i∈Zff v,∃z w,h.get i=some (.cells z 175 w)
def tx(l:List Rat):List V:=strs (l.map Zaz)
def Zjh(l:List Rat):(tx l).length=l.length:=by simp[tx,strs]
def Zvp{j:Nat}{q:Rat}(h:l[j]?=some q):(tx l)[j]?=some (.str (Zaz q)):=by simp[tx,strs,h]
def zF:List V:=[.int .i64 0,.nilslice,.int .i64 0,.nilslice]
def Zxr{a b c x:List V}{n o:Nat}(ha:a.length=o)(hb:b.length=n)(hx:x.length=n):splice (a++(b++c)) o x=a++(x++c):=by
 unfold splice
 rw[←ha,List.take_left,hx,←List.drop_drop,List.drop_left,←hb,List.drop_left,Yum]
structure TaI (h:T O) (N:Nat) (l:List Rat) (m:Nat) (r:T V) (st:St):Prop where
 w:Zac N st.w=[]
 keep:Keeps h N st.h st.n
 ex:∃(k:Nat),k+m=l.length∧r.get 11=some (.int .i64 k)∧r.get 3=some (.slice N 0 l.length (some l.length) 1)∧N<st.n∧st.h.get N=some (.cells (tx (l.take k)++List.replicate m (V.str [])) 37 true)
def Yfa{k0:Nat}(hs:FrS h N v l)(hP:P10 h N)(hl:l.length<1000000000)(hq:∀q∈l,Qb k0 q)(hk0:k0≤400000000):Fn A.C 43 [v] h N (fun u h' n'=>Sl h' n' u (tx l)∧∀i∈Zff u,∃z w,h'.get i=some (.cells z 37 w)):=by
 intro w
 have hlen:=hs.len
 have c1:(16:Int)*(l.length:Int)≤140737488355328:=by omega
 have c2:(l.length:Int)<4611686018427387904:=by omega
 have kB:Keeps h N (h.set N (.cells (Zkl [.str []] l.length) 37 true)) (N+1):=Keeps.refl.new _
 rw[Zae,A.k43 (by simp)]
 simp[A.b43,hlen,c1,c2]
 refine Zah [(4,5),(11,21)] (fun e r st=>e=.exit 0∧TaI h N l 0 r st) (TaI h N l) l.length ?_ ?_ ?_
 ·exact⟨by simp,kB,0,by omega,by simp,by simp,by show N<N+1;omega,by rw[T.get_set,Ys8 rfl,Yih];simp[tx,strs]⟩
 ·rintro m r ⟨H,n1,W⟩ hr hf ⟨hW,hK,k,hk,h11,h3,hN1,hM⟩
  simp only at hW hK hM hN1
  rw[Zai]
  cases m with
  |zero=>
   obtain rfl:k=l.length:=by omega
   simp[A.lb43_0,hr,hf,h11]
   exact⟨hW,hK,l.length,by omega,by simp[h11],by simp[h3],hN1,hM⟩
  |succ m=>
   have hlt:k<l.length:=by omega
   have hlt':(k:Int)<(l.length:Int):=by omega
   obtain⟨q,hqk⟩:=Zag hlt
   have hqb:=hq q (Ys9 hqk)
   obtain⟨i,o,x,e,rw,c,q1,q2,q3,q4,q5⟩:=(hs.keep hK).at hqk
   obtain⟨n1',u1,n2',u2,rfl,s1,s2⟩:=q5
   have o1:=Za7 s1
   have o2:=Za7 s2
   unfold V.one at o1 o2
   have la:=Znz hqb.1
   have la2:=Znz hqb.2
   have nle:=hK.le
   have e4:splice [.int .i64 0,.nilslice,.int .i64 0,.nilslice] 0 [.int .i64 n1',u1,.int .i64 n2',u2]=[.int .i64 n1',u1,.int .i64 n2',u2]:=rfl
   have e5:slc [.int .i64 n1',u1,.int .i64 n2',u2] 0 4=some [.int .i64 n1',u1,.int .i64 n2',u2]:=rfl
   have kA:Keeps H n1 ((H.set n1 (.cells [.int .i64 0,.nilslice,.int .i64 0,.nilslice] 175 true)).set n1 (.cells [.int .i64 n1',u1,.int .i64 n2',u2] 175 true)) (n1+1):=(Keeps.refl.new _).set (Ys6 _)
   simp[A.lb43_0,hr,hf,h11,h3,hlt,hlt',hlen,q1,q3,q4,Zal,Zak,o1,o2,e4,e5]
   refine Zaf (Yj7 (q:=q) (Fc.keep ⟨n1',u1,n2',u2,rfl,s1,s2⟩ kA) ((hP.keep hK).keep kA) (by omega) (by omega)) ?_
   rintro _ H2 n2 k2 rfl
   have le2:=k2.le
   have hM2:=(k2.get N (by omega)).trans ((kA.get N hN1).trans hM)
   have hb:k+1≤(tx (l.take k)++List.replicate (m+1) (V.str [])).length:=by
    rw[Ytu,Zjh,List.length_replicate,Yth];omega
   have hsp:splice (tx (l.take k)++List.replicate (m+1) (V.str [])) k [.str (Zaz q)]=tx (l.take (k+1))++List.replicate m (V.str []):=by
    have e1:(tx (l.take k)++List.replicate (m+1) (V.str []))=tx (l.take k)++([V.str []]++List.replicate m (V.str [])):=by rw[List.replicate_succ];rfl
    rw[e1,Zxr (n:=1) (by rw[Zjh,Yth];omega) rfl rfl,Yug,hqk]
    simp[tx,strs]
   generalize tx (l.take k)++List.replicate (m+1) (V.str [])=X at*
   obtain⟨Y,hY⟩:∃Y,tx (l.take (k+1))++List.replicate m (V.str [])=Y:=⟨_,rfl⟩
   rw[hY]at hsp
   simp(disch:=first|(simp;done)|omega|(simp only[Zaa,Zab,Ys4];omega)|rfl) [hr,hf,h11,h3,hlt,hlt',hM2,Zak,hb,hsp]
   refine⟨m,by omega,⟨by simp[Zac,hW];omega,((hK.trans kA).trans k2).set (Ys6 N),k+1,by omega,by simp,by simp[h3],by show N<n2;omega,by show T.get _ N=_;rw[T.get_set,Ys8 rfl,hY]⟩⟩
 ·rintro _ r ⟨H,n1,W⟩ hr ⟨rfl,hW,hK,k,hk,h11,h3,hN1,hM⟩
  simp only at hW hK hM hN1
  obtain rfl:k=l.length:=by omega
  rw[Yuu]at hM
  simp only[List.replicate_zero,Yvs]at hM
  simp[hr,h3,Ret,hW,hK]
  exact⟨Sl.row hN1 hM (Zjh l) (fun k hk=>by simp at hk;omega),fun i hi=>by simp[Zff]at hi;subst hi;exact⟨_,.inr hM⟩⟩
variable {N N' n n':Nat} {h h':T O} {l:List Rat} {v:V}
def Qb.zero:Qb 1 0:=⟨by decide,by decide⟩
def Qb.wls{q:Rat}{k:Nat}(h:Qb k q):wl q.num≤k∧wl (q.den:Nat)≤k:=⟨Yey h.1,Yey (z:=(q.den:Int)) (k:=k) (by rw[Ytc];exact h.2)⟩
abbrev NW(y:V):Prop:=∀m,y≠.int .u64 m
def In.moved{x:V}{z:Int}{e:TypeId}(s:In h n x z)(k:Upd (fun i=>i∈Zff v) h n h' n')(hd:Zz7 e NW h v):In h' n' x z:=by
 rcases s with s|⟨i,o,l,c,s1,s2,s3⟩
 ·exact .inl s
 ·refine .inr ⟨i,o,l,c,s1,Sl.moved s2 k fun j hj hjv=>?_,s3⟩
  simp[Zff]at hj
  subst hj
  obtain⟨z2,g1,_,g3⟩:=hd j hjv
  unfold Wn at s2
  have hne:wds z.natAbs≠[]:=fun h0=>by
   have:=Zbm z.natAbs
   rw[h0]at this
   simp[val]at this
   omega
  obtain⟨d,ds,hds⟩:=List.exists_cons_of_ne_nil hne
  have hat:(dg (wds z.natAbs))[0]?=some (.int .u64 d):=by rw[hds];simp[dg]
  obtain⟨i2,o2,c2,e2,rw2,q1,q2,q3,q4⟩:=Sl.at s2 hat
  simp[Zlv]at q1
  obtain⟨rfl,rfl⟩:=q1
  rw[g1]at q3
  simp only[Ys3,O.cells.injEq]at q3
  obtain⟨rfl,_⟩:=q3
  exact g3 _ (Ys9 q4) _ rfl
def FcC.moved{c:List V}{q:Rat}{e:TypeId}(s:FcC h n c q)(k:Upd (fun i=>i∈Zff v) h n h' n')(hd:Zz7 e NW h v):FcC h' n' c q:=by
 obtain⟨n1,u1,n2,u2,rfl,s1,s2⟩:=s
 exact⟨n1,u1,n2,u2,rfl,s1.moved k hd,s2.moved k hd⟩
def Sn.row_lt{z:Nat}{l:List (List V)}(s:Sn z h N v l):∀i∈Zff v,i<N:=fun i hi=>by
 rcases s with⟨_,rfl|rfl⟩|⟨j,o,cp,c,e,rw,rfl,hj,_⟩
 ·simp[Zff]at hi
 ·simp[Zff]at hi
 ·simp[Zff]at hi;omega
def Sn.moved{z:Nat}{D:Nat→Prop}{l:List (List V)}(s:Sn z h N v l)(k:Upd D h N h' N')(hd:∀i∈Zff v,¬D i):Sn z h' N' v l:=by
 rcases s with s|⟨i,o,cp,c,e,rw,rfl,h2,h3,h4⟩
 ·exact .inl s
 ·exact .inr ⟨i,o,cp,c,e,rw,rfl,Yti h2 k.le,(k.get i h2 (hd i (by simp[Zff]))).trans h3,h4⟩
def FrT.keep{u:V}(s:FrT h N u l)(k:Keeps h N h' N'):FrT h' N' u l:=⟨s.1.keep k,fun i hi=>by
 obtain⟨cs,h1,_⟩:=s.1
 rw[k.get i (h1.row_lt i hi)]
 exact s.2 i hi⟩
def FrT.moved{u:V}{e:TypeId}(s:FrT h n u l)(k:Upd (fun i=>i∈Zff v) h n h' n')(hd:Zz7 e NW h v)(he:e≠175):FrT h' n' u l:=by
 obtain⟨⟨cs,h1,h2,h3⟩,h4⟩:=s
 have hn:∀i∈Zff u,i∉Zff v:=fun i hi hc=>by
  obtain⟨z,w,hz⟩:=h4 i hi
  obtain⟨z2,hz2,_⟩:=hd i hc
  rw[hz]at hz2
  simp at hz2
  exact he hz2.2.1.symm
 refine⟨⟨cs,h1.moved k hn,h2,fun j q hq=>?_⟩,fun i hi=>by rw[k.get i (h1.row_lt i hi) (hn i hi)];exact h4 i hi⟩
 obtain⟨c,g1,g2⟩:=h3 j q hq
 exact⟨c,g1,g2.moved k hd⟩
def Ynq{N0:Nat}{out:List (List V)}(s:Own 4 175 N0 h N v out)(hl:out.length=l.length)(hc:∀(j:Nat),j<l.length→∃c,out[j]?=some c∧∀q,l[j]?=some q→FcC h N c q):FrT h N v l:=by
 refine⟨⟨out,s.sn,hl,fun j q hq=>?_⟩,fun i hi=>?_⟩
 ·obtain⟨c,g1,g2⟩:=hc j (Zat hq)
  exact⟨c,g1,g2 q hq⟩
 ·obtain⟨_,⟨_,rfl⟩|⟨j,rfl,_,_,hg⟩⟩:=s
  ·simp[Zff]at hi
  ·simp[Zff]at hi;subst hi;exact⟨_,_,hg⟩
def FrS.form(s:FrS h N v l):V.one v=true∧V.cells v=[v]∧NW v:=by
 obtain⟨cs,⟨_,rfl|rfl⟩|⟨i,o,cp,c,e,rw,rfl,_⟩,_⟩:=s
 ·exact⟨rfl,rfl,fun m=>by simp⟩
 ·exact⟨rfl,rfl,fun m=>by simp⟩
 ·exact⟨rfl,rfl,fun m=>by simp⟩
def FrO(N0:Nat)(h:T O)(N:Nat)(v:V)(l:List Rat):Prop:=∃cs:List (List V),Own 4 175 N0 h N v cs∧(cs=[]→v=.nilslice)∧cs.length=l.length∧∀(j:Nat) (q:Rat),l[j]?=some q→∃c,cs[j]?=some c∧FcC h N c q
def FrO.nil{N0:Nat}:FrO N0 h N .nilslice []:=⟨[],Own.nil,fun _=>rfl,rfl,fun j l hl=>by simp at hl⟩
def FrO.keep{N0:Nat}(s:FrO N0 h N v l)(k:Keeps h N h' N'):FrO N0 h' N' v l:=by
 obtain⟨cs,h1,h2,h3,h4⟩:=s
 refine⟨cs,h1.keep k,h2,h3,fun j q hq=>?_⟩
 obtain⟨c,g1,g2⟩:=h4 j q hq
 exact⟨c,g1,g2.keep k⟩
def FrO.frs{N0:Nat}(s:FrO N0 h N v l):FrS h N v l:=by
 obtain⟨cs,h1,h2,h3,h4⟩:=s
 exact⟨cs,h1.sn,h3,h4⟩
def FrO.push{N0:Nat}{x:V}{c:List V}{q:Rat}{w:List Nat}(s:FrO N0 h N v l)(hc:FcC h N c q)(hN:N0≤N)(hx:Za0 ⟨h,N,w⟩ 4 x=some (1,c))(hl:l.length<100000):
  ∃v' h' w',Zbi ⟨h,N,w⟩ 4 64 175 v x=some (v',⟨h',N+1,w'⟩)∧Zac N0 w'=Zac N0 w∧Keeps h N0 h' (N+1)∧FrO N0 h' (N+1) v' (l++[q]):=by
 obtain⟨cs,h1,h2,h3,h4⟩:=s
 obtain⟨v',h',w',f1,f2,f3,f4,fD,f5⟩:=Zgm (Y:=NW) (x:=c) (u:=x) (bytes:=64) (w:=w) h1 h2 (fun c hc y hy=>by
  obtain⟨j,hj⟩:=Yvh hc
  obtain⟨r,hr⟩:=Zag (l:=l) (k:=j) (by have:=Zat hj;omega)
  obtain⟨c',g1,g2⟩:=h4 j r hr
  rw[hj]at g1
  obtain rfl:c=c':=by simpa using g1
  exact g2.noU y hy) hN (by decide) hc.len.1 hx (by omega)
 refine⟨v',h',w',f1,f2,f3,cs++[c],f5,by simp,by simp[h3],fun j r hr=>?_⟩
 by_cases hj:j<l.length
 ·rw[Yto hj]at hr
  obtain⟨c',g1,g2⟩:=h4 j r hr
  exact⟨c',by rw[Yto (by omega)];exact g1,g2.moved f4 fD⟩
 ·rw[Yt0 (by omega)]at hr
  cases hd:j-l.length with
  |zero=>
   rw[hd]at hr
   simp at hr
   subst hr
   exact⟨c,by rw[Yt0 (by omega),h3,hd];rfl,hc.moved f4 fD⟩
  |succ d=>rw[hd]at hr;simp at hr
def Ypu{H:T O}{c:List V}{e:TypeId}{rw:Bool}{w:List Nat}(h:c.length=4):Za0 ⟨H.set n (.cells c e rw),n+1,w⟩ 4 (.slice n 0 1 (some 1) 4)=some (1,c):=by
 simp only[Za0,St.row,T.get_set,if_true]
 unfold slc
 simp[h]
 exact Ytd (by omega)
variable {bf fr ow:List V} {ins:V}
def opV(s:Str):V:=if s=[102,114,97,109,101] then .func 143 [] [] else if s=[97,100,100] then .func 144 [] [] else if s=[115,99,97,108,101] then .func 146 [] [] else if s=[109,97,120] then .func 148 [] [] else if s=[100,101,108,97,121] then .func 151 [] [] else if s=[115,117,109] then .func 152 [] [] else .nilfunc
def Ybp{st:St}{s:Str}(h:(opOf s).isSome=true):Ycu st (.agg [.bool false,.int .i64 0,.int .i64 0,.nilfunc]) false (findV .str (.str s) Yiv 0)=some (.agg [.bool ((opOf s).getD ⟨false,0,0⟩).factor,.int .i64 (((opOf s).getD ⟨false,0,0⟩).lo:Nat),.int .i64 (((opOf s).getD ⟨false,0,0⟩).hi:Nat),opV s],st):=by
 unfold opOf opV at*
 unfold Yiv
 by_cases h1:s=[102,114,97,109,101]
 ·subst h1;rfl
 by_cases h2:s=[97,100,100]
 ·subst h2;rfl
 by_cases h3:s=[115,99,97,108,101]
 ·subst h3;rfl
 by_cases h4:s=[109,97,120]
 ·subst h4;rfl
 by_cases h5:s=[100,101,108,97,121]
 ·subst h5;rfl
 by_cases h6:s=[115,117,109]
 ·subst h6;rfl
 simp[h1,h2,h3,h4,h5,h6]at h
def Zcv(g:List Stg)(s:Stg)(now:List Rat):List Rat:=s.inputs.map fun n=>now[pos g n]?.getD 0
def mx2(a b:Rat):Rat:=if a<b then b else a
def Zmc:List Rat→Rat
 |[]=>0
 |x::l=>l.foldl mx2 x
def Zsx(g:List Stg)(s:Stg)(before:List Rat):Rat:=match s.inputs.getLast? with
 |some n=>before[pos g n]?.getD 0
 |none=>0
def Zwz(s:Stg):Rat:=if ((opOf s.op).getD ⟨false,0,0⟩).factor=true then Zdv s.factor else 0
def opQ(op:Str)(fr:Rat)(ins:List Rat)(bf ow fc:Rat):Rat:=if op=[102,114,97,109,101] then fr else if op=[97,100,100] then ins.foldl (fun a b=>a+b) 0 else if op=[115,99,97,108,101] then fc*ins[0]?.getD 0 else if op=[109,97,120] then Zmc ins else if op=[100,101,108,97,121] then bf else fc*ow+ins[0]?.getD 0
def Zkm(g:List Stg)(s:Stg)(fr ow:Rat)(now before:List Rat):Rat:=opQ s.op fr (Zcv g s now) (Zsx g s before) ow (Zwz s)
def Zh3(g:List Stg)(fr:Rat)(before:List Rat):Nat→Option (List Rat)
 |0=>some []
 |i+1=>match Zh3 g fr before i with
  |none=>none
  |some now=>match g[i]? with
   |none=>none
   |some s=>if Zvb (Zkm g s fr (before[i]?.getD 0) now before)=true then none else some (now++[Zkm g s fr (before[i]?.getD 0) now before])
def Zi9(g:List Stg)(fs:List Rat):Nat→Option (List (List Rat)×List Rat)
 |0=>some ([],g.map fun _=>0)
 |k+1=>match Zi9 g fs k with
  |none=>none
  |some (out,before)=>match Zh3 g (fs[k]?.getD 0) before g.length with
   |none=>none
   |some now=>some (out++[now],now)
def vC(fr:List V)(ins:V)(bf ow fc:List V):List V:=fr++(ins::(bf++(ow++fc)))
def Zgo{fc:List V}(h1:fr.length=4)(h2:bf.length=4)(h3:ow.length=4)(h4:fc.length=4):(vC fr ins bf ow fc).length=17:=by simp[vC,h1,h2,h3,h4]
def four{l:List V}(h:l.length=4):∃a b c d,l=[a,b,c,d]:=by
 match l,h with
 |[a,b,c,d],_=>exact⟨a,b,c,d,rfl⟩
def Zjg{fc:List V}(h1:fr.length=4)(h2:bf.length=4)(h3:ow.length=4)(h4:fc.length=4):slc (vC fr ins bf ow fc) 0 4=some fr∧(vC fr ins bf ow fc)[4]?=some ins∧slc (vC fr ins bf ow fc) 5 4=some bf∧slc (vC fr ins bf ow fc) 9 4=some ow∧slc (vC fr ins bf ow fc) 13 4=some fc∧slc (vC fr ins bf ow fc) 0 17=some (vC fr ins bf ow fc):=by
 obtain⟨a1,a2,a3,a4,rfl⟩:=four h1
 obtain⟨b1,b2,b3,b4,rfl⟩:=four h2
 obtain⟨c1,c2,c3,c4,rfl⟩:=four h3
 obtain⟨d1,d2,d3,d4,rfl⟩:=four h4
 exact⟨rfl,rfl,rfl,rfl,rfl,rfl⟩
def Yae{fc x:List V}{y:V}(h1:fr.length=4)(h2:bf.length=4)(h3:ow.length=4)(h4:fc.length=4)(hx:x.length=4):splice (vC fr ins bf ow fc) 4 [y]=vC fr y bf ow fc∧splice (vC fr ins bf ow fc) 5 x=vC fr ins x ow fc∧splice (vC fr ins bf ow fc) 13 x=vC fr ins bf ow x:=by
 obtain⟨a1,a2,a3,a4,rfl⟩:=four h1
 obtain⟨b1,b2,b3,b4,rfl⟩:=four h2
 obtain⟨c1,c2,c3,c4,rfl⟩:=four h3
 obtain⟨d1,d2,d3,d4,rfl⟩:=four h4
 obtain⟨e1,e2,e3,e4,rfl⟩:=four hx
 exact⟨rfl,rfl,rfl⟩
def Zik{c:List V}(h:c.length=4):slc c 0 4=some c:=by unfold slc;rw[h];simp;exact Ytd (by omega)
def Zlo{c:List V}(h:c.length=4):splice [V.int .i64 0,.nilslice,.int .i64 0,.nilslice] 0 c=c:=by unfold splice;rw[h];simp
def Zmo{fc:List V}(h1:fr.all V.one=true)(h2:bf.all V.one=true)(h3:ow.all V.one=true)(h4:fc.all V.one=true)(hi:V.one ins=true):(∀x,x∈vC fr ins bf ow fc→V.one x=true)=True:=by
 refine eq_true fun x hx=>?_
 unfold vC at hx
 rcases Yty.1 hx with hx|hx
 ·exact Yt8.1 h1 x hx
 rcases Yt1.1 hx with rfl|hx
 ·exact hi
 rcases Yty.1 hx with hx|hx
 ·exact Yt8.1 h2 x hx
 rcases Yty.1 hx with hx|hx
 ·exact Yt8.1 h3 x hx
 ·exact Yt8.1 h4 x hx
structure VaC (h:T O) (N:Nat) (fr:List V) (ins:V) (bf ow fc:List V) (qf:Rat) (qi:List Rat) (qo:Rat):Prop where
 fr:FcC h N fr qf
 ins:FrS h N ins qi
 bf:bf.length=4∧bf.all V.one=true
 ow:FcC h N ow qo
 fc:fc.length=4∧fc.all V.one=true
set_option maxHeartbeats 2000000
noncomputable def A.w145:=A.q Tryz.f145
noncomputable def A.lb145_0:=A.ql A.w145 0 []
noncomputable def A.b145:=(fun x0=>A.qb A.w145 [x0]) A.lb145_0
def A.k145:=@A.kk 145 18 [.cell 2 (some 4)] A.b145 (by kernel_rfl) rfl
def A.lb149_0:Zav:=.seq (sr [mv 14 6,mv 15 0,ln 16 15,bi 17 .lss 14 16]
 (cd 17
 (.skip)
 (.exit 0)))
 (.seq (.block 1 (.seq (.regD [mv 20 1,mv 21 0,mv 22 6,ia 23 4 21 22,lN 24 4 23,lN 25 4 5,ge 26 (.call (tq 20) [tq 24,tq 25]),bc 27 .gtr 26 0] [0,0,0,6,14,0,63,127])
 (cd 27
 (.reg [mv 28 0,mv 29 6,ia 30 4 28 29,lN 31 4 30,gn (.store 4 (tq 5) (tq 31))])
 (.skip))))
 (.reg [mv 18 6,bc 19 .add 18 1,mv 6 19]))
def A.b149:Zav:=sr [ge 4 (.alloc [.int .i64 0,.nilslice,.int .i64 0,.nilslice] 175)]
 (.seq (sr [mv 7 0,ln 8 7,bc 9 .lss 8 1]
 (cd 9
 (.reg [ge 10 (.mkiface 9 (.const (.str [115,108,105,99,101,115,46,77,97,120,70,117,110,99,58,32,101,109,112,116,121,32,108,105,115,116]))),gn (.stop)])
 (.skip)))
 (sr [mv 11 0,ge 12 (.iaddrSl 4 (tq 11) (kq 0)),lN 13 4 12,ge 5 (.alloc [.int .i64 0,.nilslice,.int .i64 0,.nilslice] 175),gn (.store 4 (tq 5) (tq 13))]
 (.seq (sr [mc 6 1]
 (.block 0 (.loop A.lb149_0)))
 (sr [lN 32 4 5,gn (.store 4 (tq 4) (tq 32))]
 (.ret)))))
def A.k149:=@A.kk 149 33 [.cell 4 (some 4)] A.b149 (by kernel_rfl) rfl
structure SmI (h:T O) (N p k:Nat) (f:Nat→Rat) (L m:Nat) (r:T V) (st:St):Prop where
 w:Zac N st.w=[]
 keep:Keeps h N st.h st.n
 ex:∃(t:Nat) (c:List V),t+m=L∧r.get k=some (.int .i64 t)∧p<st.n∧st.h.get N=some (.cells zF 175 true)∧st.h.get p=some (.cells c 175 true)∧FcC st.h st.n c (f t)
def Yan{l:List Rat}{j:Nat}(hq:∀q∈l,Qb j q):∀t,Qb (1+t*(j+1)) ((l.take t).foldl (fun a b=>a+b) 0)
 |0=>by simpa using Qb.zero
 |t+1=>by
  have ih:=Yan hq t
  rw[Yug,List.foldl_append]
  cases hl:l[t]? with
  |none=>
   simp
   exact ih.mono (by rw[Yt5];omega)
  |some q=>
   simp
   exact(ih.add (hq q (Ys9 hl))).mono (by rw[Yt5];omega)
def Ynj{h:T O}{N j:Nat}{u:V}{l:List Rat}(hu:FrS h N u l)(hl:l.length≤16)(hq:∀q∈l,Qb j q)(hj:j≤20000000):Fn A.C 145 [u] h N (fun x h' n'=>Fc h' n' x (l.foldl (fun a b=>a+b) 0)):=by
 intro w
 have l1:=hu.len
 rw[Zae,A.k145 (by simp)]
 simp(disch:=first|(simp;done)|omega|rfl) [-getElem?_pos,A.b145]
 refine Zaf (Yop (by omega) (by omega)) ?_
 rintro _ h1 n1 k1 hz
 obtain⟨c,rfl,hc⟩:=hz.c
 have kB:Keeps h N (h.set N (.cells zF 175 true)) (N+1):=Keeps.refl.new _
 have le1:=k1.le
 have g1:=k1.get N (by omega)
 rw[T.get_set,Ys8 rfl]at g1
 obtain⟨e1,e2⟩:=hc.len
 have hcc:(V.agg c).cells=c:=rfl
 have e4:splice zF 0 c=c:=by unfold splice;rw[e1];simp[e1,zF]
 have hnz:NoU zF:=by intro x hx m;simp[zF]at hx;rcases hx with rfl|rfl|rfl|rfl<;>simp
 unfold zF at e4
 simp(disch:=first|(simp;done)|omega|rfl) [-getElem?_pos, -V.cells, -V.one,hcc,e1,e2,e4,Zak,l1]
 generalize hH:(h1.set n1 (.cells [.int .i64 0,.nilslice,.int .i64 0,.nilslice] 175 true)).set n1 (.cells c 175 true)=H1
 have kA:Keeps h1 n1 H1 (n1+1):=by rw[←hH];exact(Keeps.refl.new _).set (Ys6 _)
 have kC:Keeps h N H1 (n1+1):=(kB.trans k1).trans kA
 have g2:H1.get n1=some (.cells c 175 true):=by rw[←hH];simp
 have g3:=(kA.get N (by omega)).trans g1
 clear hH
 refine Zah [(5,5),(9,16)] (fun e r st=>e=.exit 0∧SmI h N n1 9 (fun t=>(l.take t).foldl (fun a b=>a+b) 0) l.length 0 r st) (SmI h N n1 9 (fun t=>(l.take t).foldl (fun a b=>a+b) 0) l.length) l.length ?_ ?_ ?_
 ·exact⟨by simp;omega,kC,0,c,by omega,by simp,by show n1<n1+1;omega,g3,g2,by simpa using hc.keep kA⟩
 ·rintro m r ⟨H,n2,W⟩ hr hf ⟨hW,hK,t,c0,ht,h9,hpn,hg0,hgp,hcp⟩
  simp only at hW hK hpn hg0 hgp hcp
  rw[Zai]
  cases m with
  |zero=>
   obtain rfl:t=l.length:=by omega
   simp(disch:=first|(simp;done)|omega|rfl) [-getElem?_pos,A.lb145_0,hr,hf,h9]
   exact⟨hW,hK,l.length,c0,by omega,by simp[h9],hpn,hg0,hgp,hcp⟩
  |succ m=>
   have hlt:t<l.length:=by omega
   have hlt':(t:Int)<(l.length:Int):=by omega
   obtain⟨x,hx⟩:=Zag hlt
   have hxb:=hq x (Ys9 hx)
   have hsb:=Yan hq t
   have hmul:t*(j+1)≤16*(j+1):=Yts _ (by omega)
   have ee:((l.take (t+1)).foldl (fun a b=>a+b) 0)=((l.take t).foldl (fun a b=>a+b) 0)+x:=by rw[Yug,hx,List.foldl_append];rfl
   obtain⟨i,o,cc,e,rw,ca,q1,q2,q3,q4,q5⟩:=(hu.keep hK).at hx
   obtain⟨a1,a2⟩:=q5.len
   have s0:=Zik hcp.len.1
   have s1:=Zik a1
   have e5:=Zlo a1
   have hca:(V.agg ca).cells=ca:=rfl
   have le2:=hK.le
   have kD:Keeps H n2 ((H.set n2 (.cells [.int .i64 0,.nilslice,.int .i64 0,.nilslice] 175 true)).set n2 (.cells ca 175 true)) (n2+1):=(Keeps.refl.new _).set (Ys6 _)
   have d1:¬n2=n1:=by omega
   have d2:¬n1=n2:=by omega
   have d3:n1<n2+1:=by omega
   have d4:¬i=n2:=by omega
   simp(disch:=first|(simp;done)|omega|rfl) [-getElem?_pos, -V.cells, -V.one,A.lb145_0,hr,hf,h9,l1,hlt,hlt',hgp,s0,s1,q1,q2,q3,q4,hca,a1,a2,e5,Zak,d1,d2,d3,d4]
   generalize (H.set n2 (.cells [.int .i64 0,.nilslice,.int .i64 0,.nilslice] 175 true)).set n2 (.cells ca 175 true)=G at*
   have w1:=hxb.wls
   have w2:=hsb.wls
   refine Zaf (Ydp (hcp.keep kD).fc (q5.keep kD).fc (by omega) (by omega) (by omega) (by omega)) ?_
   rintro _ h4' n4 k4 hs4
   rw[←ee]at hs4
   obtain⟨c4,rfl,hc4⟩:=hs4.c
   have le4:=k4.le
   have gp4:=(k4.get n1 (by omega)).trans ((kD.get n1 (by omega)).trans hgp)
   have g04:=(k4.get N (by omega)).trans ((kD.get N (by omega)).trans hg0)
   obtain⟨f1,f2⟩:=hc4.len
   have f3:=hcp.len.1
   have hcc4:(V.agg c4).cells=c4:=rfl
   have e5:splice c0 0 c4=c4:=by unfold splice;rw[f1];simp[f3]
   simp(disch:=first|(simp;done)|omega|rfl) [-getElem?_pos, -V.cells, -V.one,hr,hf,h9,hcc4,f1,f2,f3,e5,gp4,Zak]
   have d5:n1<n4:=by omega
   have d6:¬N=n1:=by omega
   have d7:¬n1<N:=by omega
   have d8:¬n2<N:=by omega
   exact⟨m,by omega,by simp[Zac,hW,d7,d8],((hK.trans kD).trans k4).set (by omega),t+1,c4,by omega,by simp,d5,by show T.get _ N=_;rw[T.get_set,Ys5 d6];exact g04,by show T.get _ n1=_;rw[T.get_set,Ys8 rfl],hc4.setNU gp4 hcp.noU (by rw[f1,f3])⟩
 ·rintro _ r ⟨H,n2,W⟩ hr ⟨rfl,hW,hK,t,c0,ht,h9,hpn,hg0,hgp,hcp⟩
  simp only at hW hK hpn hg0 hgp hcp
  obtain rfl:t=l.length:=by omega
  rw[Yuu]at hcp
  have s0:=Zik hcp.len.1
  have hcc0:(V.agg c0).cells=c0:=rfl
  have e5:splice zF 0 c0=c0:=by unfold splice;rw[hcp.len.1];simp[hcp.len.1,zF]
  have f1:=hcp.len.1
  have f2:=hcp.len.2
  unfold zF at e5 hg0
  simp(disch:=first|(simp;done)|omega|rfl) [-getElem?_pos, -V.cells, -V.one,hr,hgp,hg0,s0,Zak,hcc0,f1,f2,e5,Ret]
  exact⟨hW,hK.set (Ys6 N),(hcp.setNU hg0 hnz (by rw[f1];rfl)).fc⟩
set_option maxHeartbeats 2000000
def Yip{p q:Rat}:(0<sg3 (p.num*(q.den:Nat)-q.num*(p.den:Nat)))=(q<p):=by
 apply propext
 rw[Rat.lt_iff]
 unfold sg3
 split
 ·constructor
  ·intro h;omega
  ·intro h;omega
 ·split
  ·constructor
   ·intro h;omega
   ·intro h;omega
  ·constructor
   ·intro h;omega
   ·intro h;omega
def Ycl:∀{l:List Rat},0<l.length→Zmc l∈l
 |[],h=>by simp at h
 |x::l,_=>by
  have key:∀(l:List Rat) (a:Rat),l.foldl mx2 a=a∨l.foldl mx2 a∈l:=by
   intro l
   induction l with
   |nil=>intro a;exact .inl rfl
   |cons y t ih=>
    intro a
    rw[List.foldl_cons]
    rcases ih (mx2 a y)with h|h
    ·rw[h]
     unfold mx2
     split
     ·exact .inr Yt2
     ·exact .inl rfl
    ·exact .inr (Ytv _ h)
  rcases key l x with h|h
  ·exact Yt1.2 (.inl h)
  ·exact Yt1.2 (.inr h)
def Ygs{l:List Rat}{t:Nat}{x:Rat}(ht:0<t)(hx:l[t]?=some x):Zmc (l.take (t+1))=mx2 (Zmc (l.take t)) x:=by
 rw[Yug,hx]
 cases hl:l.take t with
 |nil=>
  have h1:=congrArg List.length hl
  rw[Yth,List.length_nil]at h1
  have h2:=Zat hx
  omega
 |cons y s=>
  show ((s++[x]).foldl mx2 y)=_
  rw[List.foldl_append]
  rfl
def Yoc{h:T O}{N j:Nat}{u:V}{l:List Rat}(hu:FrS h N u l)(h0:0<l.length)(hl:l.length≤16)(hq:∀q∈l,Qb j q)(hj:j≤20000000):Fn A.C 149 [u,.func 150 [] []] h N (fun x h' n'=>Fc h' n' x (Zmc l)):=by
 intro w
 have l1:=hu.len
 have h1':¬(l.length:Int)<1:=by omega
 have h0':(0:Int)<(l.length:Int):=by omega
 obtain⟨x0,hx0⟩:=Zag h0
 obtain⟨i0,o0,cc0,e0,rw0,ca0,y1,y2,y3,y4,y5⟩:=hu.at hx0
 rw[Nat.zero_mul,Yue]at y4
 obtain⟨a1,a2⟩:=y5.len
 have s1:=Zik a1
 have e5:=Zlo a1
 have hca:(V.agg ca0).cells=ca0:=rfl
 have d4:¬i0=N:=by omega
 have d4':¬i0=N+1:=by omega
 have hnz:NoU zF:=by intro x hx m;simp[zF]at hx;rcases hx with rfl|rfl|rfl|rfl<;>simp
 rw[Zae,A.k149 (by simp)]
 simp(disch:=first|(simp;done)|omega|rfl) [-getElem?_pos, -V.cells, -V.one,A.b149,l1,h1',h0,h0',y1,y2,y3,y4,hca,a1,a2,e5,s1,Zak,d4,d4']
 generalize hH:((h.set N (.cells [.int .i64 0,.nilslice,.int .i64 0,.nilslice] 175 true)).set (N+1) (.cells [.int .i64 0,.nilslice,.int .i64 0,.nilslice] 175 true)).set (N+1) (.cells ca0 175 true)=H1
 have kC:Keeps h N H1 (N+1+1):=by rw[←hH];exact((Keeps.refl.new _).new _).set (by omega)
 have g2:H1.get (N+1)=some (.cells ca0 175 true):=by rw[←hH];simp
 have g3:H1.get N=some (.cells zF 175 true):=by rw[←hH];simp[zF]
 clear hH
 refine Zah [(6,6),(14,31)] (fun e r st=>e=.exit 0∧SmI h N (N+1) 6 (fun t=>Zmc (l.take t)) l.length 0 r st) (fun m r st=>SmI h N (N+1) 6 (fun t=>Zmc (l.take t)) l.length m r st∧m<l.length) (l.length-1) ?_ ?_ ?_
 ·refine⟨⟨by simp,kC,1,ca0,by omega,by simp,by show N+1<N+1+1;omega,g3,g2,?_⟩,by omega⟩
  have:Zmc (l.take 1)=x0:=by
   cases l with
   |nil=>simp at h0
   |cons y t=>
    obtain rfl:y=x0:=by simpa using hx0
    rfl
  show FcC H1 (N+1+1) ca0 (Zmc (l.take 1))
  rw[this]
  exact y5.keep kC
 ·rintro m r ⟨H,n2,W⟩ hr hf ⟨⟨hW,hK,t,c0,ht,h6,hpn,hg0,hgp,hcp⟩,hml⟩
  simp only at hW hK hpn hg0 hgp hcp
  rw[Zai]
  have lk:=hK.le
  cases m with
  |zero=>
   obtain rfl:t=l.length:=by omega
   simp(disch:=first|(simp;done)|omega|rfl) [-getElem?_pos,A.lb149_0,hr,hf,h6,l1]
   exact⟨hW,hK,l.length,c0,by omega,by simp[h6],hpn,hg0,hgp,hcp⟩
  |succ m=>
   have hlt:t<l.length:=by omega
   have ht0:0<t:=by omega
   have hlt':(t:Int)<(l.length:Int):=by omega
   obtain⟨x,hx⟩:=Zag hlt
   have hxb:=hq x (Ys9 hx)
   have hmb:=hq _ (Yuk (Ycl (l:=l.take t) (by rw[Yth];omega)))
   have ee:=Ygs ht0 hx
   obtain⟨i,o,cc,e,rw,ca,q1,q2,q3,q4,q5⟩:=(hu.keep hK).at hx
   obtain⟨b1,b2⟩:=q5.len
   have s0:=Zik hcp.len.1
   have w1:=hxb.wls
   have w2:=hmb.wls
   have d5:N+1<n2:=by omega
   simp(disch:=first|(simp;done)|omega|rfl) [-getElem?_pos, -V.cells, -V.one,A.lb149_0,hr,hf,h6,l1,hlt,hlt',hgp,s0,q1,q2,q3,q4,d5]
   refine Zaf (Yl6 q5.fc hcp.fc (by omega) (by omega) (by omega) (by omega)) ?_
   rintro _ H4 n4 k4 rfl
   have le4:=k4.le
   have gp4:=(k4.get (N+1) (by omega)).trans hgp
   have g04:=(k4.get N (by omega)).trans hg0
   have gq4:=(k4.get i q2).trans q3
   have d6:i<n4:=by omega
   have d7:N+1<n4:=by omega
   have hcb:(V.agg ca).cells=ca:=rfl
   have f3:=hcp.len.1
   have e5:splice c0 0 ca=ca:=by unfold splice;rw[b1];simp[f3]
   by_cases hgt:Zmc (l.take t)<x
   ·have hg':0<sg3 (x.num*((Zmc (l.take t)).den:Nat)-(Zmc (l.take t)).num*(x.den:Nat)):=by rw[Yip];exact hgt
    have em:Zmc (l.take (t+1))=x:=by rw[ee,mx2,Ys8 hgt]
    simp(disch:=first|(simp;done)|omega|rfl) [-getElem?_pos, -V.cells, -V.one,hr,hf,h6,l1,hlt,hlt',hg',q1,gq4,q4,gp4,hcb,b1,b2,f3,e5,Zak,d5,d6,d7]
    have d8:¬N=N+1:=by omega
    have d9:¬N+1<N:=by omega
    refine⟨m,by omega,⟨by simp[Zac,hW],(hK.trans k4).set (by omega),t+1,ca,by omega,by simp,d7,by show T.get _ N=_;rw[T.get_set,Ys5 (by omega)];exact g04,by show T.get _ (N+1)=_;rw[T.get_set,Ys8 rfl],?_⟩,by omega⟩
    rw[em]
    exact(q5.keep k4).setNU gp4 hcp.noU (by rw[b1,f3])
   ·have hg':¬0<sg3 (x.num*((Zmc (l.take t)).den:Nat)-(Zmc (l.take t)).num*(x.den:Nat)):=by rw[Yip];exact hgt
    have em:Zmc (l.take (t+1))=Zmc (l.take t):=by rw[ee,mx2,Ys5 hgt]
    simp(disch:=first|(simp;done)|omega|rfl) [-getElem?_pos, -V.cells, -V.one,hr,hf,h6,hg',d5,d6,d7]
    refine⟨m,by omega,⟨hW,hK.trans k4,t+1,c0,by omega,by simp,d7,g04,gp4,?_⟩,by omega⟩
    rw[em]
    exact hcp.keep k4
 ·rintro _ r ⟨H,n2,W⟩ hr ⟨rfl,hW,hK,t,c0,ht,h6,hpn,hg0,hgp,hcp⟩
  simp only at hW hK hpn hg0 hgp hcp
  obtain rfl:t=l.length:=by omega
  rw[Yuu]at hcp
  have s0:=Zik hcp.len.1
  have hcc0:(V.agg c0).cells=c0:=rfl
  have e6:splice zF 0 c0=c0:=by unfold splice;rw[hcp.len.1];simp[hcp.len.1,zF]
  have f1:=hcp.len.1
  have f2:=hcp.len.2
  unfold zF at e6 hg0
  simp(disch:=first|(simp;done)|omega|rfl) [-getElem?_pos, -V.cells, -V.one,hr,hgp,hg0,s0,Zak,hcc0,f1,f2,e6,Ret]
  exact⟨hW,hK.set (Ys6 N),(hcp.setNU hg0 hnz (by rw[f1];rfl)).fc⟩
end Go.Mx
