/-reconstruct-/
import Derived.Test.YthekjfgljafnaaaGreatDoorVbF
set_option linter.all false
namespace Go.Mx
open Go Go.Proofs
variable {N k:Nat} {h:T O} {rw:Bool}
set_option maxRecDepth 1000000
def Yub{q:Rat}(h:Qb k q)(h0:q≠0):Qb k q⁻¹:=by
 have e:=Zpw q
 have h1:q.num≠0:=fun hc=>h0 (Ykb.1 hc)
 refine⟨?_,?_⟩
 ·rw[Rat.num_inv,Yx3,Ywc]
  have:q.num.sign.natAbs=1:=by
   rcases Int.lt_trichotomy q.num 0 with h2|h2|h2
   ·rw[Int.sign_eq_neg_one_of_neg h2];rfl
   ·exact absurd h2 h1
   ·rw[Int.sign_eq_one_of_pos h2];rfl
  rw[this,Nat.one_mul]
  exact h.2
 ·rw[Rat.den_inv,Yv4 h1]
  exact h.1
def Yrm{p:Nat}{u:V}{l:List Rat}{e:TypeId}(hp:h.get p=some (.cells [.int .i64 k] e rw))(hpl:p<N)(hu:FrS h N u l)(hk:k<l.length):FnV A.C (.func 119 [] [.ptr p 0]) [u] h N (fun x _ _=>x=.bool (decide (l[k]?.getD 0≠0))):=by
 intro w
 have l1:=hu.len
 have hk':(k:Int)<(l.length:Int):=by omega
 obtain⟨q,hq⟩:=Zae hk
 obtain⟨i,o,cc,e,rw,c,q1,q2,q3,q4,q5⟩:=hu.at hq
 rw[hq]
 rw[Zab,A.k119 (by simp)]
 simp[A.b119,hp,l1,hk,hk',q1,q3,q4,Zff q4]
 refine Zac (Zxk q5.fc) ?_
 rintro _ H2 n2 k2 rfl
 have hz:(sg3 q.num≠0)=(q≠0):=by
  have h1:=@Ykb q
  apply propext
  unfold sg3
  constructor
  ·intro hh hc
   have:=h1.2 hc
   rw[this]at hh
   simp at hh
  ·intro hh hc
   apply hh
   apply h1.1
   split at hc
   ·omega
   ·split at hc<;>omega
 simp[Zad,Ret]
 refine⟨k2,?_⟩
 by_cases c0:q=0
 ·simp[c0,Ykb.2 rfl,sg3]
 ·have:sg3 q.num≠0:=by rw[hz];exact c0
  simp[c0,this]
def Yrl{p:Nat}{c d:List V}{x q:Rat}{e:TypeId}{j:Nat}(hp:h.get p=some (.cells d e rw))(hpl:p<N)(hc:FcC h N c x)(hd:FcC h N d q)(h0:q≠0)(hx:Qb j x)(hq:Qb k q)(hj:j≤500000000)(hk:k≤500000000):FnV A.C (.func 121 [] [.ptr p 0]) [.agg c] h N (fun z h' n'=>Fc h' n' z (x/q)):=by
 intro w
 obtain⟨c1,c2⟩:=hc.len
 obtain⟨d1,d2⟩:=hd.len
 have w1:=hx.wls
 have w2:=hq.wls
 have w3:=(Yub hq h0).wls
 have hcc:∀c:List V,(V.agg c).cells=c:=fun _=>rfl
 have s0:slc c 0 4=some c:=by unfold slc;rw[c1];simp;exact Ywe (by omega)
 have s1:slc d 0 4=some d:=by unfold slc;rw[d1];simp;exact Ywe (by omega)
 have kB:Keeps h N ((h.set N (.cells c 111 true)).set (N+1) (.cells zF 111 true)) (N+1+1):=(Keeps.refl.new _).new _
 unfold zF at kB
 have n1:¬p=N:=by omega
 have n2:¬p=N+1:=by omega
 have n3:¬N=N+1:=by omega
 rw[Zab,A.k121 (by simp)]
 simp[-V.cells, -V.one,A.b121,hp,n1,n2,hcc,c1,c2,d1,d2,s0,s1,n3]
 generalize hG:(h.set N (.cells c 111 true)).set (N+1) (.cells [.int .i64 0,.nilslice,.int .i64 0,.nilslice] 111 true)=G at*
 have g1:G.get (N+1)=some (.cells [.int .i64 0,.nilslice,.int .i64 0,.nilslice] 111 true):=by rw[←hG];simp
 clear hG
 refine Zac (Yn8 (hc.keep kB).fc (hd.keep kB).fc h0 (by omega) (by omega) (by omega) (by omega) (by omega) (by omega)) ?_
 rintro _ H2 m2 k2 hz
 obtain⟨z,rfl,hzc⟩:=hz.c
 obtain⟨z1,z2⟩:=hzc.len
 have le2:=k2.le
 have g2:=(k2.get (N+1) (by omega)).trans g1
 have e4:splice [V.int .i64 0,.nilslice,.int .i64 0,.nilslice] 0 z=z:=by unfold splice;rw[z1];simp[z1]
 have s2:slc z 0 4=some z:=by unfold slc;rw[z1];simp;exact Ywe (by omega)
 have lt:N+1<m2:=by omega
 simp[-V.cells, -V.one,Zal,hcc,z1,z2,e4,s2,g2,Ret]
 exact⟨(kB.trans k2).set (by omega),(hzc.setNU (e1:=111) (w1:=true) (c1:=z) g2 nu0 (by rw[z1];rfl)).fc⟩
def Yrk{p:Nat}{a b d:List V}{x y f:Rat}{e:TypeId}{i j:Nat}(hp:h.get p=some (.cells d e rw))(hpl:p<N)(ha:FcC h N a x)(hb:FcC h N b y)(hd:FcC h N d f)(hx:Qb i x)(hy:Qb j y)(hf:Qb k f)(hi:i≤450000000)(hj:j≤450000000)(hk:k≤450000000)(hj1:1≤j)(hk1:1≤k):FnV A.C (.func 123 [] [.ptr p 0]) [.agg a,.agg b] h N (fun z h' n'=>Fc h' n' z (x-f*y)):=by
 intro w
 obtain⟨a1,a2⟩:=ha.len
 obtain⟨b1,b2⟩:=hb.len
 obtain⟨d1,d2⟩:=hd.len
 have w1:=hx.wls
 have w2:=hy.wls
 have w3:=hf.wls
 have w4:=(hf.mul hy).wls
 have hcc:∀c:List V,(V.agg c).cells=c:=fun _=>rfl
 have s0:∀c:List V,c.length=4→slc c 0 4=some c:=fun c h=>by unfold slc;rw[h];simp;exact Ywe (by omega)
 have sa:=s0 a a1
 have sb:=s0 b b1
 have sd:=s0 d d1
 have kB:Keeps h N (((h.set N (.cells a 111 true)).set (N+1) (.cells b 111 true)).set (N+1+1) (.cells zF 111 true)) (N+1+1+1):=((Keeps.refl.new _).new _).new _
 unfold zF at kB
 have n1:¬p=N:=by omega
 have n2:¬p=N+1:=by omega
 have n3:¬p=N+1+1:=by omega
 have n4:¬N=N+1:=by omega
 have n5:¬N=N+1+1:=by omega
 have lp:p<N+1+1+1:=by omega
 rw[Zab,A.k123 (by simp)]
 simp[-V.cells, -V.one,A.b123,hp,n1,n2,n3,hcc,a1,a2,b1,b2,d1,d2,sa,sb,sd,n4,n5,lp]
 generalize hG:((h.set N (.cells a 111 true)).set (N+1) (.cells b 111 true)).set (N+1+1) (.cells [.int .i64 0,.nilslice,.int .i64 0,.nilslice] 111 true)=G at*
 have g1:G.get (N+1+1)=some (.cells [.int .i64 0,.nilslice,.int .i64 0,.nilslice] 111 true):=by rw[←hG];simp
 have g2:G.get N=some (.cells a 111 true):=by rw[←hG];simp[n4,n5]
 have g3:G.get (N+1)=some (.cells b 111 true):=by rw[←hG];simp
 clear hG
 refine Zac (Zvg (hd.keep kB).fc (hb.keep kB).fc (by omega) (by omega) (by omega) (by omega)) ?_
 rintro _ H2 m2 k2 hz
 have le2:=k2.le
 have lt:N+1+1<m2:=by omega
 simp[]
 refine Zac (Yn1 ((ha.keep kB).keep k2).fc hz (by omega) (by omega) (by omega) (by omega)) ?_
 rintro _ H3 m3 k3 hv
 obtain⟨z,rfl,hzc⟩:=hv.c
 obtain⟨z1,z2⟩:=hzc.len
 have le3:=k3.le
 have g4:=(k3.get (N+1+1) (by omega)).trans ((k2.get (N+1+1) (by omega)).trans g1)
 have e4:splice [V.int .i64 0,.nilslice,.int .i64 0,.nilslice] 0 z=z:=by unfold splice;rw[z1];simp[z1]
 have s2:=s0 z z1
 have lt3:N+1+1<m3:=by omega
 simp[-V.cells, -V.one,Zal,hcc,z1,z2,e4,s2,g4,lp,lt,lt3,Ret,Zao.chk]
 exact⟨((kB.trans k2).trans k3).set (by omega),(hzc.setNU (e1:=111) (w1:=true) (c1:=z) g4 nu0 (by rw[z1];rfl)).fc⟩
variable {N R:Nat} {f u v:V} {h:T O} {l:List Rat}
noncomputable def A.w118:=A.q Tryz.f118
noncomputable def A.lb118_0:=A.ql A.w118 0 []
noncomputable def A.b118:=(fun x0=>A.qb A.w118 [x0]) A.lb118_0
def A.k118:=@A.kk 118 19 [.tmp 4] A.b118 (by kernel_rfl) rfl
def Ynx(l:List V)(p:Nat→Bool)(hs:Sl h N v l)(hl:l.length<1152921504606846976)(hf:∀(j:Nat) (x:V),l[j]?=some x→∀h' n',Keeps h N h' n'→FnV A.C f [x] h' n' (fun u _ _=>u=.bool (p j))):Fn A.C 118 [v,f] h N (fun u _ _=>u=.int .i64 (Zct p 0 l.length)):=by
 intro w
 have hlen:=hs.len
 rw[Zab,A.k118 (by simp)]
 simp[A.b118,hlen]
 refine Zai [(4,5),(8,18)] (fun e r st=>Zaa N st.w=[]∧Keeps h N st.h st.n∧((e=.exit 0∧Zct p 0 l.length= -1)∨(e=.ret∧r.get 4=some (.int .i64 (Zct p 0 l.length))))) (fun m r st=>Zaa N st.w=[]∧Keeps h N st.h st.n∧∃k,k+m=l.length∧r.get 8=some (.int .i64 k)∧Zct p 0 l.length=Zct p k m) l.length ?_ ?_ ?_
 ·exact⟨by simp,Keeps.refl,0,by omega,by simp,rfl⟩
 ·rintro m r ⟨H,n1,W⟩ hr hf2 ⟨hW,hK,k,hk,h8,hz⟩
  simp only at hW hK
  rw[Zah]
  cases m with
  |zero=>
   have:k=l.length:=by omega
   subst this
   simp only[Zct]at hz
   simp[A.lb118_0,hr,hf2,h8,hW,hK,hz]
  |succ m=>
   have hlt:k<l.length:=by omega
   obtain⟨c,hc⟩:=Zae hlt
   obtain⟨i,o,cc,e,rw,q1,q2,q3,q4⟩:=hs.at hc
   have q3:=(hK.get _ q2).trans q3
   have hk1:(k:Int)<(l.length:Int):=by omega
   simp only[Zct]at hz
   simp[A.lb118_0,hr,hf2,h8,hk1,hlt,hlen,q1,q3,q4,hW]
   refine Zhn (hf k c hc _ _ hK) ?_
   rintro v h2 n2 k2 rfl
   have kk:=hK.trans k2
   cases hp:p k
   ·rw[hp]at hz
    simp(disch:=first|(simp;done)|omega|rfl) [hr,hf2,h8,hW,kk]
    exact⟨m,by omega,k+1,by omega,by simp,by simpa using hz⟩
   ·rw[hp]at hz
    simp[hr,hf2,h8,hW,kk]
    simpa using hz.symm
 ·rintro e r ⟨H,n1,W⟩ hr ⟨hW,hK,⟨rfl,hz⟩|⟨rfl,h4⟩⟩
  ·simp only at hW hK
   simp[hr,hz,Ret,hW,hK]
  ·simp only at hW hK
   simp[hr,h4,Ret,hW,hK]
noncomputable def A.w120:=A.q Tryz.f120
noncomputable def A.lb120_0:=A.ql A.w120 0 []
noncomputable def A.b120:=(fun x0=>A.qb A.w120 [x0]) A.lb120_0
def A.k120:=@A.kk 120 22 [.tmp 4] A.b120 (by kernel_rfl) rfl
def Yh1{l:List (List V)}{Q:Nat→T O→Nat→List V→Prop}(Y:V→Prop)(hQ:∀j h n h' n' c u,Q j h n c→Upd (fun i=>i∈Zel u) h n h' n'→Zrl 111 Y h u→Q j h' n' c)(hs:Sn 4 h N v l)(hl:l.length<1000000000)(h1:∀(j:Nat) (x:List V),l[j]?=some x→x.length=4∧x.all V.one=true)(hf:∀(j:Nat) (x:List V),l[j]?=some x→∀h' n',Keeps h N h' n'→FnV A.C f [(.agg x)] h' n' (fun u h2 n2=>∃c,u=(.agg c)∧c.length=4∧c.all V.one=true∧(∀q∈c,Y q)∧Q j h2 n2 c)):Fn A.C 120 [v,f] h N (fun u h' n'=>∃out,Own 4 111 N h' n' u out∧out.length=l.length∧∀(j:Nat),j<l.length→∃c,out[j]?=some c∧Q j h' n' c):=by
 intro w
 have hlen:=hs.len
 rw[Zab,A.k120 (by simp)]
 simp[A.b120,hlen]
 refine Zai [(5,5),(7,7),(10,20)] (fun e r st=>e=.exit 0∧Zaa N st.w=[]∧Keeps h N st.h st.n∧∃u out,r.get 5=some u∧Own 4 111 N st.h st.n u out∧out.length=l.length∧∀(j:Nat),j<l.length→∃c,out[j]?=some c∧Q j st.h st.n c) (fun m r st=>Zaa N st.w=[]∧Keeps h N st.h st.n∧∃k u out,k+m=l.length∧r.get 10=some (.int .i64 k)∧r.get 5=some u∧Own 4 111 N st.h st.n u out∧out.length=k∧(out=[]→u=.nilslice)∧(∀c∈out,∀y∈c,Y y)∧∀(j:Nat),j<k→∃c,out[j]?=some c∧Q j st.h st.n c) l.length ?_ ?_ ?_
 ·exact⟨by simp,Keeps.refl,0,.nilslice,[],by omega,by simp,by simp,Own.nil,rfl,fun _=>rfl,by simp,fun j hj=>by omega⟩
 ·rintro m r ⟨H,n1,W⟩ hr hf2 ⟨hW,hK,k,u,out,hk,h10,h5,ho,hol,hnil,hY,hout⟩
  simp only at hW hK ho hout
  rw[Zah]
  cases m with
  |zero=>
   have hkk:k=l.length:=by omega
   subst hkk
   simp[A.lb120_0,hr,hf2,h10,hW,hK]
   exact⟨u,h5,out,ho,hol,hout⟩
  |succ m=>
   have hlt:k<l.length:=by omega
   obtain⟨x,hx⟩:=Zae hlt
   obtain⟨i,o,cc,e,rw,q1,q2,q3,q4⟩:=(hs.keep hK).at hx
   have hk1:(k:Int)<(l.length:Int):=by omega
   obtain⟨e1,e2⟩:=h1 k x hx
   have d1:¬i=n1:=by omega
   have d4:n1<n1+1:=by omega
   have kA:=(hK.new (.cells [(.int .i64 0),.nilslice,(.int .i64 0),.nilslice] 111 true)).set (i:=n1) (o:=.cells x 111 true) hK.le
   have e3:∀v:List V,(V.agg v).cells=v:=fun _=>rfl
   have e4:splice [(.int .i64 0),.nilslice,(.int .i64 0),.nilslice] 0 x=x:=by unfold splice;rw[e1];simp[e1]
   have e5:slc x 0 4=some x:=by unfold slc;rw[Yv6 (by omega)];simp;exact Ywe (by omega)
   simp[-V.cells, -V.one,A.lb120_0,hr,hf2,h10,h5,hk1,hlt,hlen,q1,q3,q4,Zak,d1,Zal,e3,e1,e2,e4,e5]
   refine Zhn (hf k x hx _ _ kA) ?_
   rintro _ h3 n3 k3 ⟨c,rfl,c1,c2,cY,c3⟩
   have kle3:=k3.le
   have kn:=hK.le
   have kB:=kA.trans k3
   have b1:∀v:List V,(V.agg v).cells=v:=fun _=>rfl
   have b2:splice [(.int .i64 0),.nilslice,(.int .i64 0),.nilslice] 0 c=c:=by unfold splice;rw[c1];simp[c1]
   simp[-V.cells, -V.one,hr,hf2,h10,h5,b1,b2,c1,c2]
   have ho3:Own 4 111 N (h3.set n3 (.cells c 111 true)) (n3+1) u out:=(ho.keep (((Keeps.refl.new _).set (Yv5 n1)).trans k3)).keep (Keeps.refl.new _)
   obtain⟨v',h',w',f1,f2,f3,f4,fD,f5⟩:=Zdj (Y:=Y) (x:=c) (u:=.slice n3 0 1 (some 1) 4) (bytes:=64) (w:=n1::W) ho3 hnil hY (by omega) (by decide) c1 (by simp only[Zaz,St.row,T.get_set,if_true];unfold slc;simp[c1];exact Ywe (by omega)) (by omega)
   rw[f1]
   have wok:¬n1<N:=by omega
   have f6:Zaa N w'=[]:=by rw[f2];simp[Zaa,hW,wok]
   have kz:=(kB.new (.cells c 111 true)).then f3
   have k4:Keeps h3 n3 (h3.set n3 (.cells c 111 true)) (n3+1):=Keeps.refl.new _
   have hq4:Q k (h3.set n3 (.cells c 111 true)) (n3+1) c:=hQ _ _ _ _ _ _ .nilslice c3 k4.upd Zrl.nil
   simp(disch:=first|(simp;done)|omega|rfl) [hr,hf2,h10,f6]
   refine⟨m,by omega,kz,k+1,by omega,by simp,out++[c],f5,by simp[hol],by simp,fun c' hc z hz=>?_,fun j hj=>?_⟩
   ·rcases Yxs.1 hc with hc|hc
    ·exact hY c' hc z hz
    ·simp only[Yx0]at hc;subst hc;exact cY z hz
   by_cases hjk:j<k
   ·obtain⟨c,g1,g2⟩:=hout j hjk
    exact⟨c,by rw[Ywp (by omega)];exact g1,hQ _ _ _ _ _ _ _ (hQ _ _ _ _ _ _ .nilslice g2 ((((Keeps.refl.new _).set (Yv5 n1)).trans k3).trans k4).upd Zrl.nil) f4 fD⟩
   ·obtain rfl:j=k:=by omega
    exact⟨c,by rw[Yw0 (by omega),hol];simp,hQ _ _ _ _ _ _ _ hq4 f4 fD⟩
 ·rintro _ r ⟨H,n1,W⟩ hr ⟨rfl,hW,hK,u,out,h5,ho,hol,hout⟩
  simp only at hW hK ho hout
  simp[hr,h5,Ret,hW,hK]
  exact⟨out,ho,hol,hout⟩
def Yna(F:Rat→Rat)(hs:FrS h N v l)(hl:l.length<1000000000)(hf:∀q∈l,∀c h' n',Keeps h N h' n'→FcC h' n' c q→FnV A.C f [.agg c] h' n' (fun x h2 n2=>Fc h2 n2 x (F q))):Fn A.C 120 [v,f] h N (fun u h' n'=>FrT h' n' u (l.map F)):=by
 obtain⟨cs,h1,h2,h3⟩:=hs
 have key:=Yh1 (f:=f) (Q:=fun j h n c=>∀q,(l.map F)[j]?=some q→FcC h n c q) NW (fun j h n h' n' c u hq k hd q hq'=>(hq q hq').moved k hd) h1 (by omega) (fun j x hx=>?_) ?_
 ·intro w
  refine(key w).mono fun u st=>?_
  rintro⟨q1,q2,out,o1,o2,o3⟩
  exact⟨q1,q2,Yj8 o1 (by simpa[h2]using o2) fun j hj=>o3 j (by simp at hj;omega)⟩
 ·obtain⟨q,hq⟩:=Zae (l:=l) (k:=j) (by have:=Zau hx;omega)
  obtain⟨c,g1,g2⟩:=h3 j q hq
  rw[hx]at g1
  obtain rfl:x=c:=by simpa using g1
  exact g2.len
 ·intro j x hx h' n' hk
  obtain⟨q,hq⟩:=Zae (l:=l) (k:=j) (by have:=Zau hx;omega)
  obtain⟨c,g1,g2⟩:=h3 j q hq
  rw[hx]at g1
  obtain rfl:x=c:=by simpa using g1
  refine fun w=>(hf q (Yv7 hq) x h' n' hk (g2.keep hk) w).mono fun y st=>?_
  rintro⟨q1,q2,q3⟩
  obtain⟨c,rfl,hc⟩:=q3.c
  refine⟨q1,q2,c,rfl,hc.len.1,hc.len.2,hc.noU,fun t ht=>?_⟩
  simp[hq]at ht
  rw[←ht]
  exact hc
structure RwF (h:T O) (N R:Nat) (m:List (List Rat)):Prop where
 lt:R<N
 ex:∃us:List V,h.get R=some (.cells us 80 true)∧us.length=m.length∧NoU us∧us.all V.one=true∧∀(j:Nat) (l:List Rat),m[j]?=some l→∃u,us[j]?=some u∧FrT h N u l
def FrT.setR{us vs:List V}{e:TypeId}{b c:Bool}(s:FrT h N u l)(g:h.get R=some (.cells us e b))(he:e≠111)(hn:NoU us)(hl:vs.length=us.length):FrT (h.set R (.cells vs e c)) N u l:=by
 have hne:∀i∈Zel u,i≠R:=fun i hi hc=>by
  obtain⟨z,w,hz⟩:=s.2 i hi
  rw[hc,g]at hz
  simp at hz
  exact he hz.2.1
 obtain⟨cs,h1,h2,h3⟩:=s.1
 have k:Upd (fun i=>i=R) h N (h.set R (.cells vs e c)) N:=⟨Yv5 _,fun i _ hi=>by rw[T.get_set,Yv4 hi]⟩
 refine⟨⟨cs,h1.moved k hne,h2,fun j q hq=>?_⟩,fun i hi=>?_⟩
 ·obtain⟨x,g1,g2⟩:=h3 j q hq
  exact⟨x,g1,g2.setNU g hn hl⟩
 ·rw[T.get_set,Yv4 (hne i hi)]
  exact s.2 i hi
def RwF.keep{h':T O}{N':Nat}{m:List (List Rat)}(s:RwF h N R m)(k:Keeps h N h' N'):RwF h' N' R m:=by
 obtain⟨us,g1,g2,g3,g4,g5⟩:=s.ex
 refine⟨Ywf s.lt k.le,us,(k.get R s.lt).trans g1,g2,g3,g4,fun j l hl=>?_⟩
 obtain⟨u,a1,a2⟩:=g5 j l hl
 exact⟨u,a1,a2.keep k⟩
def FrT.nou(s:FrT h N u l):(∀n,u≠.int .u64 n)∧V.one u=true∧V.cells u=[u]:=by
 obtain⟨a,b,c⟩:=s.1.form
 exact⟨c,a,b⟩
def RwF.put{i:Nat}{m:List (List Rat)}(s:RwF h N R m)(hu:FrT h N u l)(hi:i<m.length):∃us,h.get R=some (.cells us 80 true)∧us.length=m.length∧RwF (h.set R (.cells (us.set i u) 80 true)) N R (m.set i l):=by
 obtain⟨us,g1,g2,g3,g4,g5⟩:=s.ex
 refine⟨us,g1,g2,s.lt,us.set i u,by rw[T.get_set,Yv6 rfl],by simp[g2],fun x hx=>?_,?_,fun j r hr=>?_⟩
 ·rcases Yxm hx with hx|rfl
  ·exact g3 x hx
  ·exact hu.nou.1
 ·rw[Yw1]
  intro x hx
  rcases Yxm hx with hx|rfl
  ·exact Yw1.1 g4 x hx
  ·exact hu.nou.2.1
 ·by_cases e:j=i
  ·subst e
   rw[Ywh hi]at hr
   simp only[Yv3]at hr
   subst hr
   exact⟨u,by rw[Ywh (by omega)],hu.setR g1 (by decide) g3 (by simp)⟩
  ·rw[Ywb (Ne.symm e)]at hr ⊢
   obtain⟨u',a1,a2⟩:=g5 j r hr
   exact⟨u',a1,a2.setR g1 (by decide) g3 (by simp)⟩
variable {d k:Nat} {m:List (List Rat)}
def pvF(m:List (List Rat))(k:Nat):Nat→Nat→Nat
 |d,0=>d
 |d,n+1=>if (m[d]?.getD [])[k]?.getD 0≠0 then d else pvF m k (d+1) n
def pvQ(m:List (List Rat))(d k:Nat):Nat:=pvF m k d (m.length-d)
def Zng{m:List (List Rat)}{k:Nat}:∀{n d:Nat},d≤pvF m k d n∧pvF m k d n≤d+n
 |0,d=>by simp[pvF]
 |n+1,d=>by
  unfold pvF
  split
  ·omega
  ·have:=@Zng m k n (d+1)
   omega
def Znf{m:List (List Rat)}{k:Nat}:∀{n d:Nat},pvF m k d n<d+n→(m[pvF m k d n]?.getD [])[k]?.getD 0≠0
 |0,d,h=>by simp[pvF]at h
 |n+1,d,h=>by
  unfold pvF at h ⊢
  split
  ·assumption
  ·rename_i hc
   rw[Yv4 hc]at h
   exact Znf (by omega)
def Zye(r p:List Rat)(k:Nat):List Rat:=Zmu (fun x y=>x-r[k]?.getD 0*y) r p r.length
def elmQ(m:List (List Rat))(d k t:Nat):List (List Rat):=(List.range m.length).map fun i=>if i<t∧i≠d then Zye (m[i]?.getD []) (m[d]?.getD []) k else m[i]?.getD []
def Zb6(m:List (List Rat))(d p:Nat):List (List Rat):=(m.set d (m[p]?.getD [])).set p (m[d]?.getD [])
def Zhg(m:List (List Rat))(d k:Nat):List (List Rat):=m.set d ((m[d]?.getD []).map fun x=>x/(m[d]?.getD [])[k]?.getD 0)
def Zjp(s:List (List Rat)×Nat×List Nat)(k:Nat):List (List Rat)×Nat×List Nat:=
 if pvQ s.1 s.2.1 k<s.1.length then (elmQ (Zhg (Zb6 s.1 s.2.1 (pvQ s.1 s.2.1 k)) s.2.1 k) s.2.1 k s.1.length,s.2.1+1,s.2.2++[k]) else s
def Za0(m:List (List Rat))(n:Nat):List (List Rat)×Nat×List Nat:=(List.range n).foldl Zjp (m,0,[])
def Zcl{n:Nat}:Za0 m (n+1)=Zjp (Za0 m n) n:=by simp[Za0,List.range_succ]
def Zfx{t:Nat}:(elmQ m d k t).length=m.length:=by simp[elmQ]
def Zje{t i:Nat}(h:i<m.length):(elmQ m d k t)[i]?=some (if i<t∧i≠d then Zye (m[i]?.getD []) (m[d]?.getD []) k else m[i]?.getD []):=by simp[elmQ,h]
def Yty:elmQ m d k 0=m:=by
 apply Ywy
 intro i
 by_cases h:i<m.length
 ·rw[Zje h];simp[Yv9 h]
 ·rw[Ywd (by rw[Zfx];omega),Ywd (by omega)]
def Ytx{t:Nat}(h:d<m.length):(elmQ m d k t)[d]?=m[d]?:=by
 rw[Zje h,Yv9 h];simp
def Zxl{t:Nat}(h:t<m.length)(hd:t≠d):elmQ m d k (t+1)=(elmQ m d k t).set t (Zye (m[t]?.getD []) (m[d]?.getD []) k):=by
 apply Ywy
 intro i
 by_cases hi:i<m.length
 ·by_cases e:i=t
  ·subst e
   rw[Ywh (by rw[Zfx];exact h),Zje hi,Yv6 ⟨by omega,hd⟩]
  ·rw[Ywb (Ne.symm e),Zje hi,Zje hi]
   congr 1
   by_cases e2:i<t
   ·simp[e2,show i<t+1 by omega]
   ·simp[e2,show ¬i<t+1 by omega]
 ·rw[Ywd (by rw[Zfx];omega),Ywd (by rw[Yx4,Zfx];omega)]
def Yis:elmQ m d k (d+1)=elmQ m d k d:=by
 unfold elmQ
 apply Yyp
 intro i _
 by_cases e:i=d
 ·subst e;simp
 ·by_cases e2:i<d
  ·simp[e,e2,show i<d+1 by omega]
  ·simp[e2,show ¬i<d+1 by omega]
def Ybe{r p:List Rat}(h:r[k]?.getD 0=0):Zye r p k=r:=by
 apply Ywy
 intro i
 by_cases hi:i<r.length
 ·unfold Zye
  rw[Zqc hi,h,Rat.zero_mul,Rat.sub_eq_add_neg,Rat.neg_zero,Rat.add_zero,Yv9 hi]
  rfl
 ·rw[Ywd (by unfold Zye;rw[Zgg];omega),Ywd (by omega)]
def Zv8{r p:List Rat}:(Zye r p k).length=r.length:=by unfold Zye;rw[Zgg]
variable {K d i k n:Nat} {m:List (List Rat)} {r:List Rat}
def RcN(m:List (List Rat))(n:Nat):Prop:=∀r∈m,r.length=n
def RcN.at(h:RcN m n)(hi:i<m.length):(m[i]?.getD []).length=n:=by
 rw[Yv9 hi]
 exact h _ (List.getElem_mem hi)
def RcN.set(h:RcN m n)(hr:r.length=n):RcN (m.set i r) n:=fun x hx=>by
 rcases Yxm hx with hx|rfl
 ·exact h x hx
 ·exact hr
def RcN.swp{p:Nat}(h:RcN m n)(hd:d<m.length)(hp:p<m.length):RcN (Zb6 m d p) n:=(h.set (h.at hp)).set (h.at hd)
def RcN.scl(h:RcN m n)(hd:d<m.length):RcN (Zhg m d k) n:=h.set (by rw[Yw7];exact h.at hd)
def RcN.elm{t:Nat}(h:RcN m n):RcN (elmQ m d k t) n:=fun r hr=>by
 unfold elmQ at hr
 obtain⟨i,hi,rfl⟩:=Ywv.1 hr
 have hi:=Yx1.1 hi
 split
 ·rw[Zv8];exact h.at hi
 ·exact h.at hi
def Zcf{p:Nat}:(Zb6 m d p).length=m.length:=by simp[Zb6]
def Zgq:(Zhg m d k).length=m.length:=by simp[Zhg]
def Ylr{s:List (List Rat)×Nat×List Nat}:(Zjp s k).1.length=s.1.length:=by
 unfold Zjp
 split
 ·simp only[Zfx,Zgq,Zcf]
 ·rfl
def Yp7{s:List (List Rat)×Nat×List Nat}(h:RcN s.1 n)(hd:s.2.1≤s.1.length):RcN (Zjp s k).1 n∧(Zjp s k).2.1≤s.1.length∧s.2.1≤(Zjp s k).2.1:=by
 unfold Zjp
 have hle:=@Zng s.1 k (s.1.length-s.2.1) s.2.1
 split
 ·rename_i hp
  have hd2:s.2.1<s.1.length:=by unfold pvQ at hp;omega
  exact⟨((h.swp hd2 hp).scl (by rw[Zcf];exact hd2)).elm,by simp only;omega,by simp⟩
 ·exact⟨h,hd,Yv5 _⟩
def QbM(m:List (List Rat))(K:Nat):Prop:=∀r∈m,∀q∈r,Qb K q
def QbM.mono{L:Nat}(h:QbM m K)(hk:K≤L):QbM m L:=fun r hr q hq=>(h r hr q hq).mono hk
def QbM.at{m:List (List Rat)}{K i:Nat}(h:QbM m K):∀q∈m[i]?.getD [],Qb K q:=fun q hq=>by
 cases hr:m[i]? with
 |none=>rw[hr]at hq;simp at hq
 |some r=>rw[hr]at hq;exact h r (Yv7 hr) q hq
def QbM.set(h:QbM m K)(hr:∀q∈r,Qb K q):QbM (m.set i r) K:=fun x hx=>by
 rcases Yxm hx with hx|rfl
 ·exact h x hx
 ·exact hr
def QbM.swp{p:Nat}(h:QbM m K):QbM (Zb6 m d p) K:=(h.set h.at).set h.at
def Yjz(h:QbM m K)(hK:1≤K)(hp:(m[d]?.getD [])[k]?.getD 0≠0):∀q∈(m[d]?.getD []).map (fun x=>x/(m[d]?.getD [])[k]?.getD 0),Qb (2*K) q:=fun q hq=>by
 obtain⟨x,hx,rfl⟩:=Ywv.1 hq
 have h1:=h.at (i:=d) x hx
 have h2:=Yub (Zg2 (fun q hq=>h.at (i:=d) q hq) hK k) hp
 rw[Rat.div_def,show 2*K=K+K by omega]
 exact h1.mul h2
def Ylp{p:List Rat}(hr:∀q∈r,Qb K q)(hp:∀q∈p,Qb (2*K) q)(hK:1≤K):∀q∈Zye r p k,Qb (4*K+1) q:=fun q hq=>by
 unfold Zye Zmu at hq
 obtain⟨i,_,rfl⟩:=Ywv.1 hq
 have h1:=Zg2 hr hK i
 have h2:=(Zg2 hr hK k).mul (Zg2 hp (by omega) i)
 have h3:Qb (K+2*K) (-(r[k]?.getD 0*p[i]?.getD 0)):=⟨by rw[Rat.neg_num,Yyz];exact h2.1,by rw[Rat.neg_den];exact h2.2⟩
 have h4:=h1.add h3
 rw[←Rat.sub_eq_add_neg]at h4
 exact h4.mono (by omega)
def Yp8{s:List (List Rat)×Nat×List Nat}(h:QbM s.1 K)(hK:1≤K):QbM (Zjp s k).1 (4*K+1):=by
 unfold Zjp
 split
 ·rename_i hp
  have hle:=@Zng s.1 k (s.1.length-s.2.1) s.2.1
  have hd2:s.2.1<s.1.length:=by unfold pvQ at hp;omega
  have hne:=@Znf s.1 k (s.1.length-s.2.1) s.2.1 (by unfold pvQ at hp;omega)
  have hsw:=h.swp (d:=s.2.1) (p:=pvQ s.1 s.2.1 k)
  have hrow:(Zb6 s.1 s.2.1 (pvQ s.1 s.2.1 k))[s.2.1]?.getD []=s.1[pvQ s.1 s.2.1 k]?.getD []:=by
   unfold Zb6
   by_cases e:pvQ s.1 s.2.1 k=s.2.1
   ·rw[e,Ywh (by simp;omega)];rfl
   ·rw[Ywb e,Ywh hd2];rfl
  have hpv:((Zb6 s.1 s.2.1 (pvQ s.1 s.2.1 k))[s.2.1]?.getD [])[k]?.getD 0≠0:=by rw[hrow];exact hne
  have hsc:=Yjz hsw hK hpv
  intro r hr
  unfold elmQ at hr
  obtain⟨i,hi,rfl⟩:=Ywv.1 hr
  have hi:=Yx1.1 hi
  rw[Zgq,Zcf]at hi
  have hdrow:(Zhg (Zb6 s.1 s.2.1 (pvQ s.1 s.2.1 k)) s.2.1 k)[s.2.1]?.getD []=((Zb6 s.1 s.2.1 (pvQ s.1 s.2.1 k))[s.2.1]?.getD []).map (fun x=>x/((Zb6 s.1 s.2.1 (pvQ s.1 s.2.1 k))[s.2.1]?.getD [])[k]?.getD 0):=by
   unfold Zhg
   rw[Ywh (by rw[Zcf];exact hd2)]
   rfl
  split
  ·rename_i hc
   have hirow:(Zhg (Zb6 s.1 s.2.1 (pvQ s.1 s.2.1 k)) s.2.1 k)[i]?.getD []=(Zb6 s.1 s.2.1 (pvQ s.1 s.2.1 k))[i]?.getD []:=by
    unfold Zhg
    rw[Ywb (Ne.symm hc.2)]
   rw[hdrow,hirow]
   exact Ylp hsw.at hsc hK
  ·by_cases e:i=s.2.1
   ·rw[e,hdrow]
    exact fun q hq=>(hsc q hq).mono (by omega)
   ·unfold Zhg
    rw[Ywb (Ne.symm e)]
    exact fun q hq=>(hsw.at q hq).mono (by omega)
 ·exact h.mono (by omega)
def TxO(N0:Nat)(h:T O)(N:Nat)(u:V)(l:List Rat):Prop:=Tx h N u l∧∀i∈Zel u,i<N0∨∃z w,h.get i=some (.cells z 37 w)
structure RwT (N0:Nat) (h:T O) (N R:Nat) (m:List (List Rat)):Prop where
 ge:N0≤R
 lt:R<N
 ex:∃us:List V,h.get R=some (.cells us 25 true)∧us.length=m.length∧∀(j:Nat) (l:List Rat),m[j]?=some l→∃u,us[j]?=some u∧TxO N0 h N u l
def Ze6{l:List V}{i:Nat}{u:V}(h:i<l.length):splice l i [u]=l.set i u:=by
 unfold splice
 rw[List.set_eq_take_append_cons_drop,Yv6 h]
 simp
def Ztr(m:List (List Rat)):Bool:=m.any Zfl
def TPM(e:Int)(m:List (List Rat))(v:V)(c:Int)(h:T O)(n:Nat):Prop:=(e≠0∧v=.nilslice∧c=e)∨(e=0∧((Ztr m=true∧v=.nilslice∧c=4)∨(Ztr m=false∧c=0∧TxM h n v m)))
def TPN(e:Int)(q:Rat)(s:List UInt8)(c:Int):Prop:=(e≠0∧s=[]∧c=e)∨(e=0∧((Yav q=true∧s=[]∧c=4)∨(Yav q=false∧c=0∧s=Zax q)))
structure Wt (e:Int) (l:List Rat) (v:V) (c:Int) (u:V) (h:T O) (n:Nat):Prop where
 p:P10 h n
 tp:TP e l v c h n
 tx:e=0→Tx h n u l
 len:l.length<100000
 txt:e=0→∀q∈l,(Zax q).length<1000000000
structure WtN (e:Int) (q:Rat) (s:Str) (c:Int) (t:Str):Prop where
 tp:TPN e q s c
 tx:e=0→t=Zax q
 txt:e=0→(Zax q).length<1000000000
structure WtM (e:Int) (m:List (List Rat)) (v:V) (c:Int) (u:V) (h:T O) (n:Nat):Prop where
 tp:TPM e m v c h n
 tx:e=0→TxM h n u m
 len:m.length<100000
 txt:e=0→∀r∈m,r.length<100000∧∀q∈r,(Zax q).length<1000000000
def Zwt{N n:Nat}{w:List Nat}(h:Zaa n w=[])(hN:N≤n):Zaa N w=[]:=Zlh fun i hi=>by
 have:=Ycs h i hi
 omega
def Sl.cells1{h:T O}{N:Nat}{v:V}{l:List V}(s:Sl h N v l):v.cells=[v]:=by
 rcases s with⟨_,rfl|rfl⟩|⟨j,o,cp,c,e,rw,rfl,hj,_⟩<;>rfl
def Sl.one1{h:T O}{N:Nat}{v:V}{l:List V}(s:Sl h N v l):v.one=true:=by
 rcases s with⟨_,rfl|rfl⟩|⟨j,o,cp,c,e,rw,rfl,hj,_⟩<;>rfl
def Zee{m:List (List Rat)}:∀{n:Nat},(Za0 m n).1.length=m.length
 |0=>rfl
 |n+1=>by rw[Zcl,Ylr];exact Zee
def Zga{m:List (List Rat)}{c:Nat}(h:RcN m c):∀{n:Nat},RcN (Za0 m n).1 c∧(Za0 m n).2.1≤m.length
 |0=>⟨h,Yyj _⟩
 |n+1=>by
  obtain⟨a,b⟩:=@Zga m c h n
  rw[Zcl]
  have:=Yp7 (k:=n) a (by rw[Zee];exact b)
  rw[Zee]at this
  exact⟨this.1,this.2.1⟩
def kB(K:Nat):Nat→Nat
 |0=>K
 |n+1=>4*kB K n+1
def Zkk{K:Nat}(h:1≤K):∀{n:Nat},1≤kB K n
 |0=>h
 |n+1=>by rw[kB];omega
def Ydz{K:Nat}:∀{n m:Nat},n≤m→kB K n≤kB K m
 |n,0,h=>by
  obtain rfl:n=0:=by omega
  exact Yv5 _
 |n,m+1,h=>by
  by_cases e:n=m+1
  ·rw[e];exact Yv5 _
  ·have:=@Ydz K n m (by omega)
   rw[kB];omega
def Yd0{K a:Nat}:∀{b:Nat},kB (kB K a) b=kB K (a+b)
 |0=>rfl
 |b+1=>by
  show 4*kB (kB K a) b+1=4*kB K (a+b)+1
  rw[Yd0]
def Ynr:∀{n:Nat},n<6→3*kB 96 n≤400000000:=by decide
def Yki{n:Nat}(h:n≤6):kB 96 n≤400000000:=Yxt (Ydz h) (by decide)
def Zq5{m:List (List Rat)}:∀{n:Nat},(Za0 m n).2.1≤n
 |0=>Yv5 _
 |n+1=>by
  have:=@Zq5 m n
  rw[Zcl]
  unfold Zjp
  split
  ·show (Za0 m n).2.1+1≤n+1
   omega
  ·omega
def Zp0{m:List (List Rat)}{K:Nat}(h:QbM m K)(hK:1≤K):∀{n:Nat},QbM (Za0 m n).1 (kB K (Za0 m n).2.1)
 |0=>h
 |n+1=>by
  have ih:=@Zp0 m K h hK n
  rw[Zcl]
  by_cases hp:pvQ (Za0 m n).1 (Za0 m n).2.1 n<(Za0 m n).1.length
  ·have hs:=Yp8 (k:=n) ih (Zkk hK)
   have e:(Zjp (Za0 m n) n).2.1=(Za0 m n).2.1+1:=by unfold Zjp;rw[Yv6 hp]
   rw[e,kB]
   exact hs
  ·have e:Zjp (Za0 m n) n=Za0 m n:=by unfold Zjp;rw[Yv4 hp]
   rw[e]
   exact ih
variable {N n:Nat} {h:T O} {l:List Int} {m:List (List Rat)} {v:V}
def Zxm{m:List (List Rat)}{k:Nat}(h:(Za0 m k).2.1=m.length):∀{n:Nat},Za0 m (k+n)=Za0 m k
 |0=>rfl
 |n+1=>by
  rw[Nat.add_succ,Zcl,Zxm h]
  unfold Zjp
  rw[Yv4]
  unfold pvQ
  rw[Zee,h,Nat.sub_self]
  simp[pvF]
def Yem{m:List (List Rat)}:∀{n:Nat},(Za0 m n).2.2.length=(Za0 m n).2.1
 |0=>rfl
 |n+1=>by
  have:=@Yem m n
  rw[Zcl]
  unfold Zjp
  split
  ·simp[this]
  ·exact this
def Zea(m:List (List Rat))(n:Nat):List (List Rat):=(Za0 m n).1.take (Za0 m n).2.1
def Zdx(h:RcN m n):(Zea m n).length=(Za0 m n).2.1:=by
 unfold Zea
 rw[Ywm,Zee]
 have:=(@Zga m n h n).2
 omega
def Yow{s:Str}(h:chkNum s=0)(hn:s.length≤n)(h1:0<n):Qb (4*n) (Zo0 s):=by
 obtain⟨e,_,_⟩:=Zoh h
 have hb:=Zoq (Zo0 s)
 have l1:(Zaq (Zax (Zo0 s))).length≤n:=by
  rw[e];unfold Zaq;split
  ·simp;omega
  ·exact hn
 rw[hb]at l1
 have g:∀m:Nat,(decN m).length≤n→m<2^(4*n):=fun m hm=>Ywf ((Zb4 h1).1 hm) (Yj6 n)
 split at l1
 ·rename_i h2
  have h3:(decN 1).length=1:=by rw[Ztb];rfl
  exact⟨g _ l1,by rw[h2];exact g 1 (by omega)⟩
 ·simp at l1
  exact⟨g _ (by omega),g _ (by omega)⟩
def OkM.qb{m:List (List Str)}(h:OkM m n):RcN (Zdq m) n∧QbM (Zdq m) 96:=⟨fun r hr=>(h.rat r hr).1,fun r hr q hq=>by
 obtain⟨s,hs,rfl⟩:=Ywv.1 hr
 obtain⟨t,ht,rfl⟩:=Ywv.1 hq
 have:=(h.row s hs).2 t ht
 exact Yow this.1 this.2 (by decide)⟩
def Zmg{m:List (List Str)}:(Zdq m).length=m.length:=by simp[Zdq]
def inL(l:List Int):List (List V):=l.map fun z=>[V.int .i64 z]
def OwI(N0:Nat)(h:T O)(N:Nat)(v:V)(l:List Int):Prop:=Own 1 3 N0 h N v (inL l)∧(l=[]→v=.nilslice)
def OwI.nil{N0:Nat}:OwI N0 h N .nilslice []:=⟨Own.nil,fun _=>rfl⟩
def OwI.keep{N0:Nat}{h':T O}{N':Nat}(s:OwI N0 h N v l)(k:Keeps h N h' N'):OwI N0 h' N' v l:=⟨s.1.keep k,s.2⟩
def OwI.movedR{N0:Nat}{h':T O}{N' R:Nat}{o:O}(s:OwI N0 h N v l)(g:h.get R=some o)(he:∀z,o≠.cells z 3 true)(k:Upd (fun i=>i=R) h N h' N'):OwI N0 h' N' v l:=by
 obtain⟨⟨hl,s|⟨i,h1,h2,h3,h4⟩⟩,hn⟩:=s
 ·exact⟨⟨hl,.inl s⟩,hn⟩
 ·refine⟨⟨hl,.inr ⟨i,h1,h2,Ywf h3 k.le,(k.get i h3 fun hc=>?_).trans h4⟩⟩,hn⟩
  rw[hc,g]at h4
  simp only[Yv3]at h4
  exact he _ h4
def OwI.push{B N0:Nat}{x:V}{k:Int}{w:List Nat}(s:OwI N0 h N v l)(hB:B≤N0)(hN:N0≤N)(hw:Zaa B w=[])(hx:Zaz ⟨h,N,w⟩ 1 x=some (1,[.int .i64 k]))(hl:l.length<1000):∃v' h' w',Zb0 ⟨h,N,w⟩ 1 8 3 v x=some (v',⟨h',N+1,w'⟩)∧Zaa B w'=[]∧Upd (fun i=>i∈Zel v) h N h' (N+1)∧Zrl 3 NW h v∧(∀i∈Zel v,N0≤i)∧OwI N0 h' (N+1) v' (l++[k]):=by
 obtain⟨s,hn⟩:=s
 have sB:Own 1 3 B h N v (inL l):=⟨s.1,s.2.imp id fun ⟨i,a,b,c⟩=>⟨i,a,by omega,c⟩⟩
 have hY:∀c∈inL l,∀y∈c,NW y:=fun c hc y hy=>by
  obtain⟨p,_,rfl⟩:=Ywv.1 hc
  simp at hy
  subst hy
  exact fun m=>by simp
 have h0:inL l=[]→v=.nilslice:=fun h0=>hn (List.map_eq_nil_iff.1 h0)
 have hb:2*((inL l).length+1)*8≤281474976710656:=by simp only[inL,Yw7];omega
 obtain⟨v1,h1,w1,a1,a2,_,_,_,_⟩:=Zdj (Y:=NW) (bytes:=8) (w:=w) sB h0 hY (by omega) (by decide) rfl hx hb
 obtain⟨v2,h2,w2,b1,_,_,b4,b5,b6⟩:=Zdj (Y:=NW) (bytes:=8) (w:=w) s h0 hY hN (by decide) rfl hx hb
 rw[a1]at b1
 simp only[Yv3,Ywa,St.mk.injEq,true_and]at b1
 obtain⟨rfl,rfl,rfl⟩:=b1
 refine⟨v1,h1,w1,a1,a2.trans hw,b4,b5,fun i hi=>?_,by simpa[inL]using b6,fun hc=>by simp at hc⟩
 obtain⟨_,⟨_,rfl⟩|⟨j,rfl,c1,_⟩⟩:=s
 ·simp[Zel]at hi
 ·simp[Zel]at hi
  omega
def OwI.sl{N0:Nat}(s:OwI N0 h N v l):Sl h N v (dI l):=by
 have:=s.1.sn
 have e:inL l=(dI l).map fun y=>[y]:=by unfold inL dI;rw[List.map_map];rfl
 rw[e]at this
 exact Sn.one.1 this
end Go.Mx
