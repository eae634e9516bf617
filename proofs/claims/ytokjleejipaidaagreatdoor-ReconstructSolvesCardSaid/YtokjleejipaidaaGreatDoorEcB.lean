/-reconstruct-/
import Derived.Test.YtokjleejipaidaaGreatDoorVbE
set_option linter.all false
namespace Go.Mx
noncomputable section
open Go Go.Proofs
variable {N k:Nat} {h:T O} {rw:Bool}
set_option maxRecDepth 1000000
def VG{q:Rat}(h:Qb k q)(h0:q≠0):Qb k q⁻¹:=by
 have e:=VP q
 have h1:q.num≠0:=fun hc=>h0 (Ad.1 hc)
 refine⟨?_,?_⟩
 ·rw[Rat.num_inv,vA,dH]
  have:q.num.sign.natAbs=1:=by
   rcases Int.lt_trichotomy q.num 0 with h2|h2|h2
   ·rw[Int.sign_eq_neg_one_of_neg h2];rfl
   ·exact absurd h2 h1
   ·rw[Int.sign_eq_one_of_pos h2];rfl
  rw[this,Nat.one_mul]
  exact h.2
 ·rw[Rat.den_inv,ak h1]
  exact h.1
def Ytx{p:Nat}{u:V}{l:List Rat}{e:TypeId}(hp:h.get p=some (.cells [.int .i64 k] e rw))(iG:p<N)(hu:kf h N u l)(hk:k<l.length):mw A.C (.func 137 [] [.ptr p 0]) [u] h N (fun x _ _=>x=.bool (decide (l[k]?.getD 0≠0))):=by
 intro w
 have l1:=hu.len
 have gS:(k:Int)<(l.length:Int):=by omega
 obtain⟨q,hq⟩:=a_ hk
 obtain⟨i,o,cc,e,rw,c,q1,q2,q3,q4,q5⟩:=hu.at hq
 rw[hq]
 rw[aM,A.k137 (by simp)]
 simp[A.b137,hp,l1,hk,gS,q1,q3,q4,Ju q4]
 refine ay (VM q5.fc) ?_
 rintro _ H2 n2 k2 rfl
 have hz:(dL q.num≠0)=(q≠0):=by
  have h1:=@Ad q
  apply propext
  unfold dL
  constructor
  ·intro hh hc
   have:=h1.2 hc
   rw[this]at hh
   simp at hh
  ·intro hh hc
   apply hh
   apply h1.1
   split at hc
   ·omega
   ·split at hc<;>omega
 simp[aJ,az]
 refine⟨k2,?_⟩
 by_cases c0:q=0
 ·simp[c0,Ad.2 rfl,dL]
 ·have:dL q.num≠0:=by rw[hz];exact c0
  simp[c0,this]
def Ytw{p:Nat}{c d:List V}{x q:Rat}{e:TypeId}{j:Nat}(hp:h.get p=some (.cells d e rw))(iG:p<N)(hc:fu h N c x)(hd:fu h N d q)(h0:q≠0)(hx:Qb j x)(hq:Qb k q)(hj:j<=500000000)(hk:k<=500000000):mw A.C (.func 139 [] [.ptr p 0]) [.agg c] h N (fun z h' n'=>Fc h' n' z (x/q)):=by
 intro w
 obtain⟨c1,c2⟩:=hc.len
 obtain⟨d1,d2⟩:=hd.len
 have w1:=hx.CE
 have w2:=hq.CE
 have w3:=(VG hq h0).CE
 have ke:∀c:List V,(V.agg c).cells=c:=fun _=>rfl
 have s0:aC c 0 4=some c:=by unfold aC;rw[c1];simp;exact fb (by omega)
 have s1:aC d 0 4=some d:=by unfold aC;rw[d1];simp;exact fb (by omega)
 have kB:ab h N ((h.set N (.cells c 108 true)).set (N+1) (.cells zF 108 true)) (N+1+1):=(ab.refl.new _).new _
 unfold zF at kB
 have n1:¬p=N:=by omega
 have n2:¬p=N+1:=by omega
 have n3:¬N=N+1:=by omega
 rw[aM,A.k139 (by simp)]
 simp[-V.cells, -V.one,A.b139,hp,n1,n2,ke,c1,c2,d1,d2,s0,s1,n3]
 generalize hG:(h.set N (.cells c 108 true)).set (N+1) (.cells [.int .i64 0,.aa,.int .i64 0,.aa] 108 true)=G at*
 have g1:G.get (N+1)=some (.cells [.int .i64 0,.aa,.int .i64 0,.aa] 108 true):=by rw[<-hG];simp
 clear hG
 refine ay (Yqe (hc.ad kB).fc (hd.ad kB).fc h0 (by omega) (by omega) (by omega) (by omega) (by omega) (by omega)) ?_
 rintro _ H2 m2 k2 hz
 obtain⟨z,rfl,CF⟩:=hz.c
 obtain⟨z1,z2⟩:=CF.len
 have jA:=k2.le
 have g2:=(k2.get (N+1) (by omega)).trans g1
 have e4:ae [V.int .i64 0,.aa,.int .i64 0,.aa] 0 z=z:=by unfold ae;rw[z1];simp[z1]
 have s2:aC z 0 4=some z:=by unfold aC;rw[z1];simp;exact fb (by omega)
 have lt:N+1<m2:=by omega
 simp[-V.cells, -V.one,bD,ke,z1,z2,e4,s2,g2,az]
 exact⟨(kB.trans k2).set (by omega),(CF.aH (e1:=108) (w1:=true) (c1:=z) g2 oh (by rw[z1];rfl)).fc⟩
def Ytv{p:Nat}{a b d:List V}{x y f:Rat}{e:TypeId}{i j:Nat}(hp:h.get p=some (.cells d e rw))(iG:p<N)(ha:fu h N a x)(hb:fu h N b y)(hd:fu h N d f)(hx:Qb i x)(hy:Qb j y)(hf:Qb k f)(hi:i<=450000000)(hj:j<=450000000)(hk:k<=450000000)(qk:1<=j)(bG:1<=k):mw A.C (.func 141 [] [.ptr p 0]) [.agg a,.agg b] h N (fun z h' n'=>Fc h' n' z (x-f*y)):=by
 intro w
 obtain⟨a1,a2⟩:=ha.len
 obtain⟨b1,b2⟩:=hb.len
 obtain⟨d1,d2⟩:=hd.len
 have w1:=hx.CE
 have w2:=hy.CE
 have w3:=hf.CE
 have w4:=(hf.mul hy).CE
 have ke:∀c:List V,(V.agg c).cells=c:=fun _=>rfl
 have s0:∀c:List V,c.length=4->aC c 0 4=some c:=fun c h=>by unfold aC;rw[h];simp;exact fb (by omega)
 have sa:=s0 a a1
 have sb:=s0 b b1
 have sd:=s0 d d1
 have kB:ab h N (((h.set N (.cells a 108 true)).set (N+1) (.cells b 108 true)).set (N+1+1) (.cells zF 108 true)) (N+1+1+1):=((ab.refl.new _).new _).new _
 unfold zF at kB
 have n1:¬p=N:=by omega
 have n2:¬p=N+1:=by omega
 have n3:¬p=N+1+1:=by omega
 have n4:¬N=N+1:=by omega
 have n5:¬N=N+1+1:=by omega
 have lp:p<N+1+1+1:=by omega
 rw[aM,A.k141 (by simp)]
 simp[-V.cells, -V.one,A.b141,hp,n1,n2,n3,ke,a1,a2,b1,b2,d1,d2,sa,sb,sd,n4,n5,lp]
 generalize hG:((h.set N (.cells a 108 true)).set (N+1) (.cells b 108 true)).set (N+1+1) (.cells [.int .i64 0,.aa,.int .i64 0,.aa] 108 true)=G at*
 have g1:G.get (N+1+1)=some (.cells [.int .i64 0,.aa,.int .i64 0,.aa] 108 true):=by rw[<-hG];simp
 have g2:G.get N=some (.cells a 108 true):=by rw[<-hG];simp[n4,n5]
 have g3:G.get (N+1)=some (.cells b 108 true):=by rw[<-hG];simp
 clear hG
 refine ay (Qr (hd.ad kB).fc (hb.ad kB).fc (by omega) (by omega) (by omega) (by omega)) ?_
 rintro _ H2 m2 k2 hz
 have jA:=k2.le
 have lt:N+1+1<m2:=by omega
 simp[]
 refine ay (Yqa ((ha.ad kB).ad k2).fc hz (by omega) (by omega) (by omega) (by omega)) ?_
 rintro _ H3 m3 k3 hv
 obtain⟨z,rfl,CF⟩:=hv.c
 obtain⟨z1,z2⟩:=CF.len
 have BA:=k3.le
 have g4:=(k3.get (N+1+1) (by omega)).trans ((k2.get (N+1+1) (by omega)).trans g1)
 have e4:ae [V.int .i64 0,.aa,.int .i64 0,.aa] 0 z=z:=by unfold ae;rw[z1];simp[z1]
 have s2:=s0 z z1
 have lt3:N+1+1<m3:=by omega
 simp[-V.cells, -V.one,bD,ke,z1,z2,e4,s2,g4,lp,lt,lt3,az,cn.cr]
 exact⟨((kB.trans k2).trans k3).set (by omega),(CF.aH (e1:=108) (w1:=true) (c1:=z) g4 oh (by rw[z1];rfl)).fc⟩
variable {N R:Nat} {f u v:V} {h:T O} {l:List Rat}
def A.Lq:=A.q Tryz.f136
def A.ra:=A.ql A.Lq 0 []
def A.b136:=(fun x0=>A.qb A.Lq [x0]) A.ra
def A.k136:=@A.kk 136 19 [.tmp 4] A.b136 (by kernel_rfl) rfl
def Yp6(l:List V)(p:Nat->Bool)(hs:Sl h N v l)(hl:l.length<1152921504606846976)(hf:∀(j:Nat) (x:V),l[j]?=some x->∀h' n',ab h N h' n'->mw A.C f [x] h' n' (fun u _ _=>u=.bool (p j))):Fn A.C 136 [v,f] h N (fun u _ _=>u=.int .i64 (oo p 0 l.length)):=by
 intro w
 have hlen:=hs.len
 rw[aM,A.k136 (by simp)]
 simp[A.b136,hlen]
 refine bA [(4,5),(8,18)] (fun e r st=>ar N st.w=[]/\ab h N st.h st.n/\((e=.exit 0/\oo p 0 l.length= -1)\/(e=.ret/\r.get 4=some (.int .i64 (oo p 0 l.length))))) (fun m r st=>ar N st.w=[]/\ab h N st.h st.n/\∃k,k+m=l.length/\r.get 8=some (.int .i64 k)/\oo p 0 l.length=oo p k m) l.length ?_ ?_ ?_
 ·exact⟨by simp,ab.refl,0,by omega,by simp,rfl⟩
 ·rintro m r ⟨H,n1,W⟩ hr cG ⟨hW,hK,k,hk,h8,hz⟩
  simp only at hW hK
  rw[bb]
  cases m with
  |zero=>
   have:k=l.length:=by omega
   subst this
   simp only[oo]at hz
   simp[A.ra,hr,cG,h8,hW,hK,hz]
  |succ m=>
   have au:k<l.length:=by omega
   obtain⟨c,hc⟩:=a_ au
   obtain⟨i,o,cc,e,rw,q1,q2,q3,q4⟩:=hs.at hc
   have q3:=(hK.get _ q2).trans q3
   have bG:(k:Int)<(l.length:Int):=by omega
   simp only[oo]at hz
   simp[A.ra,hr,cG,h8,bG,au,hlen,q1,q3,q4,hW]
   refine CG (hf k c hc _ _ hK) ?_
   rintro v h2 n2 k2 rfl
   have kk:=hK.trans k2
   cases hp:p k
   ·rw[hp]at hz
    simp(disch:=first|(simp;done)|omega|rfl) [hr,cG,h8,hW,kk]
    exact⟨m,by omega,k+1,by omega,by simp,by simpa using hz⟩
   ·rw[hp]at hz
    simp[hr,cG,h8,hW,kk]
    simpa using hz.symm
 ·rintro e r ⟨H,n1,W⟩ hr ⟨hW,hK,⟨rfl,hz⟩|⟨rfl,h4⟩⟩
  ·simp only at hW hK
   simp[hr,hz,az,hW,hK]
  ·simp only at hW hK
   simp[hr,h4,az,hW,hK]
def A.Lr:=A.q Tryz.f138
def A.re:=A.ql A.Lr 0 []
def A.b138:=(fun x0=>A.qb A.Lr [x0]) A.re
def A.k138:=@A.kk 138 22 [.tmp 4] A.b138 (by kernel_rfl) rfl
def Yju{l:List (List V)}{Q:Nat->T O->Nat->List V->Prop}(Y:V->Prop)(hQ:∀j h n h' n' c u,Q j h n c->dS (fun i=>i∈cQ u) h n h' n'->mM 108 Y h u->Q j h' n' c)(hs:Sn 4 h N v l)(hl:l.length<1000000000)(h1:∀(j:Nat) (x:List V),l[j]?=some x->x.length=4/\x.all V.one=true)(hf:∀(j:Nat) (x:List V),l[j]?=some x->∀h' n',ab h N h' n'->mw A.C f [(.agg x)] h' n' (fun u h2 n2=>∃c,u=(.agg c)/\c.length=4/\c.all V.one=true/\(∀q∈c,Y q)/\Q j h2 n2 c)):Fn A.C 138 [v,f] h N (fun u h' n'=>∃out,Own 4 108 N h' n' u out/\out.length=l.length/\∀(j:Nat),j<l.length->∃c,out[j]?=some c/\Q j h' n' c):=by
 intro w
 have hlen:=hs.len
 rw[aM,A.k138 (by simp)]
 simp[A.b138,hlen]
 refine bA [(5,5),(7,7),(10,20)] (fun e r st=>e=.exit 0/\ar N st.w=[]/\ab h N st.h st.n/\∃u out,r.get 5=some u/\Own 4 108 N st.h st.n u out/\out.length=l.length/\∀(j:Nat),j<l.length->∃c,out[j]?=some c/\Q j st.h st.n c) (fun m r st=>ar N st.w=[]/\ab h N st.h st.n/\∃k u out,k+m=l.length/\r.get 10=some (.int .i64 k)/\r.get 5=some u/\Own 4 108 N st.h st.n u out/\out.length=k/\(out=[]->u=.aa)/\(∀c∈out,∀y∈c,Y y)/\∀(j:Nat),j<k->∃c,out[j]?=some c/\Q j st.h st.n c) l.length ?_ ?_ ?_
 ·exact⟨by simp,ab.refl,0,.aa,[],by omega,by simp,by simp,Own.nil,rfl,fun _=>rfl,by simp,fun j hj=>by omega⟩
 ·rintro m r ⟨H,n1,W⟩ hr cG ⟨hW,hK,k,u,out,hk,gT,h5,ho,gZ,vC,hY,dj⟩
  simp only at hW hK ho dj
  rw[bb]
  cases m with
  |zero=>
   have Af:k=l.length:=by omega
   subst Af
   simp[A.re,hr,cG,gT,hW,hK]
   exact⟨u,h5,out,ho,gZ,dj⟩
  |succ m=>
   have au:k<l.length:=by omega
   obtain⟨x,hx⟩:=a_ au
   obtain⟨i,o,cc,e,rw,q1,q2,q3,q4⟩:=(hs.ad hK).at hx
   have bG:(k:Int)<(l.length:Int):=by omega
   obtain⟨e1,e2⟩:=h1 k x hx
   have d1:¬i=n1:=by omega
   have d4:n1<n1+1:=by omega
   have kA:=(hK.new (.cells [(.int .i64 0),.aa,(.int .i64 0),.aa] 108 true)).set (i:=n1) (o:=.cells x 108 true) hK.le
   have e3:∀v:List V,(V.agg v).cells=v:=fun _=>rfl
   have e4:ae [(.int .i64 0),.aa,(.int .i64 0),.aa] 0 x=x:=by unfold ae;rw[e1];simp[e1]
   have e5:aC x 0 4=some x:=by unfold aC;rw[ax (by omega)];simp;exact fb (by omega)
   simp[-V.cells, -V.one,A.re,hr,cG,gT,h5,bG,au,hlen,q1,q3,q4,aR,d1,bD,e3,e1,e2,e4,e5]
   refine CG (hf k x hx _ _ kA) ?_
   rintro _ h3 n3 k3 ⟨c,rfl,c1,c2,cY,c3⟩
   have je:=k3.le
   have kn:=hK.le
   have kB:=kA.trans k3
   have b1:∀v:List V,(V.agg v).cells=v:=fun _=>rfl
   have b2:ae [(.int .i64 0),.aa,(.int .i64 0),.aa] 0 c=c:=by unfold ae;rw[c1];simp[c1]
   simp[-V.cells, -V.one,hr,cG,gT,h5,b1,b2,c1,c2]
   have uP:Own 4 108 N (h3.set n3 (.cells c 108 true)) (n3+1) u out:=(ho.ad (((ab.refl.new _).set (aO n1)).trans k3)).ad (ab.refl.new _)
   obtain⟨v',h',w',f1,f2,f3,f4,fD,f5⟩:=En (Y:=Y) (x:=c) (u:=.slice n3 0 1 (some 1) 4) (bytes:=64) (w:=n1::W) uP vC hY (by omega) (by decide) c1 (by simp only[ef,St.row,T.ag,if_true];unfold aC;simp[c1];exact fb (by omega)) (by omega)
   rw[f1]
   have ix:¬n1<N:=by omega
   have f6:ar N w'=[]:=by rw[f2];simp[ar,hW,ix]
   have kz:=(kB.new (.cells c 108 true)).then f3
   have k4:ab h3 n3 (h3.set n3 (.cells c 108 true)) (n3+1):=ab.refl.new _
   have zo:Q k (h3.set n3 (.cells c 108 true)) (n3+1) c:=hQ _ _ _ _ _ _ .aa c3 k4.upd mM.nil
   simp(disch:=first|(simp;done)|omega|rfl) [hr,cG,gT,f6]
   refine⟨m,by omega,kz,k+1,by omega,by simp,out++[c],f5,by simp[gZ],by simp,fun c' hc z hz=>?_,fun j hj=>?_⟩
   ·rcases lI.1 hc with hc|hc
    ·exact hY c' hc z hz
    ·simp only[xC]at hc;subst hc;exact cY z hz
   by_cases tl:j<k
   ·obtain⟨c,g1,g2⟩:=dj j tl
    exact⟨c,by rw[iS (by omega)];exact g1,hQ _ _ _ _ _ _ _ (hQ _ _ _ _ _ _ .aa g2 ((((ab.refl.new _).set (aO n1)).trans k3).trans k4).upd mM.nil) f4 fD⟩
   ·obtain rfl:j=k:=by omega
    exact⟨c,by rw[lD (by omega),gZ];simp,hQ _ _ _ _ _ _ _ zo f4 fD⟩
 ·rintro _ r ⟨H,n1,W⟩ hr ⟨rfl,hW,hK,u,out,h5,ho,gZ,dj⟩
  simp only at hW hK ho dj
  simp[hr,h5,az,hW,hK]
  exact⟨out,ho,gZ,dj⟩
def Ypm(F:Rat->Rat)(hs:kf h N v l)(hl:l.length<1000000000)(hf:∀q∈l,∀c h' n',ab h N h' n'->fu h' n' c q->mw A.C f [.agg c] h' n' (fun x h2 n2=>Fc h2 n2 x (F q))):Fn A.C 138 [v,f] h N (fun u h' n'=>dT h' n' u (l.map F)):=by
 obtain⟨cs,h1,h2,h3⟩:=hs
 have key:=Yju (f:=f) (Q:=fun j h n c=>∀q,(l.map F)[j]?=some q->fu h n c q) NW (fun j h n h' n' c u hq k hd q pT=>(hq q pT).bO k hd) h1 (by omega) (fun j x hx=>?_) ?_
 ·intro w
  refine(key w).mono fun u st=>?_
  rintro⟨q1,q2,out,o1,o2,o3⟩
  exact⟨q1,q2,VQ o1 (by simpa[h2]using o2) fun j hj=>o3 j (by simp at hj;omega)⟩
 ·obtain⟨q,hq⟩:=a_ (l:=l) (k:=j) (by have:=jt hx;omega)
  obtain⟨c,g1,g2⟩:=h3 j q hq
  rw[hx]at g1
  obtain rfl:x=c:=by simpa using g1
  exact g2.len
 ·intro j x hx h' n' hk
  obtain⟨q,hq⟩:=a_ (l:=l) (k:=j) (by have:=jt hx;omega)
  obtain⟨c,g1,g2⟩:=h3 j q hq
  rw[hx]at g1
  obtain rfl:x=c:=by simpa using g1
  refine fun w=>(hf q (bM hq) x h' n' hk (g2.ad hk) w).mono fun y st=>?_
  rintro⟨q1,q2,q3⟩
  obtain⟨c,rfl,hc⟩:=q3.c
  refine⟨q1,q2,c,rfl,hc.len.1,hc.len.2,hc.Ls,fun t ht=>?_⟩
  simp[hq]at ht
  rw[<-ht]
  exact hc
structure mr (h:T O) (N R:Nat) (m:List (List Rat)):Prop where
 lt:R<N
 ex:∃us:List V,h.get R=some (.cells us 72 true)/\us.length=m.length/\tM us/\us.all V.one=true/\∀(j:Nat) (l:List Rat),m[j]?=some l->∃u,us[j]?=some u/\dT h N u l
def dT.bg{us vs:List V}{e:TypeId}{b c:Bool}(s:dT h N u l)(g:h.get R=some (.cells us e b))(he:e≠108)(hn:tM us)(hl:vs.length=us.length):dT (h.set R (.cells vs e c)) N u l:=by
 have aW:∀i∈cQ u,i≠R:=fun i hi hc=>by
  obtain⟨z,w,hz⟩:=s.2 i hi
  rw[hc,g]at hz
  simp at hz
  exact he hz.2.1
 obtain⟨cs,h1,h2,h3⟩:=s.1
 have k:dS (fun i=>i=R) h N (h.set R (.cells vs e c)) N:=⟨aO _,fun i _ hi=>by rw[T.ag,ak hi]⟩
 refine⟨⟨cs,h1.bO k aW,h2,fun j q hq=>?_⟩,fun i hi=>?_⟩
 ·obtain⟨x,g1,g2⟩:=h3 j q hq
  exact⟨x,g1,g2.aH g hn hl⟩
 ·rw[T.ag,ak (aW i hi)]
  exact s.2 i hi
def mr.ad{h':T O}{N':Nat}{m:List (List Rat)}(s:mr h N R m)(k:ab h N h' N'):mr h' N' R m:=by
 obtain⟨us,g1,g2,g3,g4,g5⟩:=s.ex
 refine⟨e_ s.lt k.le,us,(k.get R s.lt).trans g1,g2,g3,g4,fun j l hl=>?_⟩
 obtain⟨u,a1,a2⟩:=g5 j l hl
 exact⟨u,a1,a2.ad k⟩
def dT.Ep(s:dT h N u l):(∀n,u≠.int .u64 n)/\V.one u=true/\V.cells u=[u]:=by
 obtain⟨a,b,c⟩:=s.1.form
 exact⟨c,a,b⟩
def mr.put{i:Nat}{m:List (List Rat)}(s:mr h N R m)(hu:dT h N u l)(hi:i<m.length):∃us,h.get R=some (.cells us 72 true)/\us.length=m.length/\mr (h.set R (.cells (us.set i u) 72 true)) N R (m.set i l):=by
 obtain⟨us,g1,g2,g3,g4,g5⟩:=s.ex
 refine⟨us,g1,g2,s.lt,us.set i u,by rw[T.ag,ax rfl],by simp[g2],fun x hx=>?_,?_,fun j r hr=>?_⟩
 ·rcases Gx hx with hx|rfl
  ·exact g3 x hx
  ·exact hu.Ep.1
 ·rw[me]
  intro x hx
  rcases Gx hx with hx|rfl
  ·exact me.1 g4 x hx
  ·exact hu.Ep.2.1
 ·by_cases e:j=i
  ·subst e
   rw[jB hi]at hr
   simp only[an]at hr
   subst hr
   exact⟨u,by rw[jB (by omega)],hu.bg g1 (by decide) g3 (by simp)⟩
  ·rw[eH (Ne.symm e)]at hr ⊢
   obtain⟨u',a1,a2⟩:=g5 j r hr
   exact⟨u',a1,a2.bg g1 (by decide) g3 (by simp)⟩
variable {d k:Nat} {m:List (List Rat)}
def od(m:List (List Rat))(k:Nat):Nat->Nat->Nat
 |d,0=>d
 |d,n+1=>if (m[d]?.getD [])[k]?.getD 0≠0 then d else od m k (d+1) n
def eS(m:List (List Rat))(d k:Nat):Nat:=od m k d (m.length-d)
def El{m:List (List Rat)}{k:Nat}:∀{n d:Nat},d<=od m k d n/\od m k d n<=d+n
 |0,d=>by simp[od]
 |n+1,d=>by
  unfold od
  split
  ·omega
  ·have:=@El m k n (d+1)
   omega
def Gq{m:List (List Rat)}{k:Nat}:∀{n d:Nat},od m k d n<d+n->(m[od m k d n]?.getD [])[k]?.getD 0≠0
 |0,d,h=>by simp[od]at h
 |n+1,d,h=>by
  unfold od at h ⊢
  split
  ·assumption
  ·rename_i hc
   rw[ak hc]at h
   exact Gq (by omega)
def qX(r p:List Rat)(k:Nat):List Rat:=n_ (fun x y=>x-r[k]?.getD 0*y) r p r.length
def cg(m:List (List Rat))(d k t:Nat):List (List Rat):=(List.range m.length).map fun i=>if i<t/\i≠d then qX (m[i]?.getD []) (m[d]?.getD []) k else m[i]?.getD []
def cf(m:List (List Rat))(d p:Nat):List (List Rat):=(m.set d (m[p]?.getD [])).set p (m[d]?.getD [])
def fJ(m:List (List Rat))(d k:Nat):List (List Rat):=m.set d ((m[d]?.getD []).map fun x=>x/(m[d]?.getD [])[k]?.getD 0)
def iV(s:List (List Rat)×Nat×List Nat)(k:Nat):List (List Rat)×Nat×List Nat:=
 if eS s.1 s.2.1 k<s.1.length then (cg (fJ (cf s.1 s.2.1 (eS s.1 s.2.1 k)) s.2.1 k) s.2.1 k s.1.length,s.2.1+1,s.2.2++[k]) else s
def aK(m:List (List Rat))(n:Nat):List (List Rat)×Nat×List Nat:=(List.range n).foldl iV (m,0,[])
def uM{n:Nat}:aK m (n+1)=iV (aK m n) n:=by simp[aK,List.range_succ]
def zm{t:Nat}:(cg m d k t).length=m.length:=by simp[cg]
def Ei{t i:Nat}(h:i<m.length):(cg m d k t)[i]?=some (if i<t/\i≠d then qX (m[i]?.getD []) (m[d]?.getD []) k else m[i]?.getD []):=by simp[cg,h]
def Ytu:cg m d k 0=m:=by
 apply og
 intro i
 by_cases h:i<m.length
 ·rw[Ei h];simp[cF h]
 ·rw[fv (by rw[zm];omega),fv (by omega)]
def Ytt{t:Nat}(h:d<m.length):(cg m d k t)[d]?=m[d]?:=by
 rw[Ei h,cF h];simp
def Vy{t:Nat}(h:t<m.length)(hd:t≠d):cg m d k (t+1)=(cg m d k t).set t (qX (m[t]?.getD []) (m[d]?.getD []) k):=by
 apply og
 intro i
 by_cases hi:i<m.length
 ·by_cases e:i=t
  ·subst e
   rw[jB (by rw[zm];exact h),Ei hi,ax ⟨by omega,hd⟩]
  ·rw[eH (Ne.symm e),Ei hi,Ei hi]
   congr 1
   by_cases e2:i<t
   ·simp[e2,show i<t+1 by omega]
   ·simp[e2,show ¬i<t+1 by omega]
 ·rw[fv (by rw[zm];omega),fv (by rw[zn,zm];omega)]
def Zyr:cg m d k (d+1)=cg m d k d:=by
 unfold cg
 apply yB
 intro i _
 by_cases e:i=d
 ·subst e;simp
 ·by_cases e2:i<d
  ·simp[e,e2,show i<d+1 by omega]
  ·simp[e2,show ¬i<d+1 by omega]
def Yct{r p:List Rat}(h:r[k]?.getD 0=0):qX r p k=r:=by
 apply og
 intro i
 by_cases hi:i<r.length
 ·unfold qX
  rw[Qs hi,h,Rat.zero_mul,Rat.sub_eq_add_neg,Rat.neg_zero,Rat.add_zero,cF hi]
  rfl
 ·rw[fv (by unfold qX;rw[Gy];omega),fv (by omega)]
def Lt{r p:List Rat}:(qX r p k).length=r.length:=by unfold qX;rw[Gy]
variable {K d i k n:Nat} {m:List (List Rat)}
def bp(m:List (List Rat))(n:Nat):Prop:=∀r∈m,r.length=n
def bp.at(h:bp m n)(hi:i<m.length):(m[i]?.getD []).length=n:=by
 rw[cF hi]
 exact h _ (List.getElem_mem hi)
def bp.set{r:List Rat}(h:bp m n)(hr:r.length=n):bp (m.set i r) n:=fun x hx=>by
 rcases Gx hx with hx|rfl
 ·exact h x hx
 ·exact hr
def bp.BD{p:Nat}(h:bp m n)(hd:d<m.length)(hp:p<m.length):bp (cf m d p) n:=(h.set (h.at hp)).set (h.at hd)
def bp.Gu(h:bp m n)(hd:d<m.length):bp (fJ m d k) n:=h.set (by rw[gY];exact h.at hd)
def bp.elm{t:Nat}(h:bp m n):bp (cg m d k t) n:=fun r hr=>by
 unfold cg at hr
 obtain⟨i,hi,rfl⟩:=eC.1 hr
 have hi:=yA.1 hi
 split
 ·rw[Lt];exact h.at hi
 ·exact h.at hi
def pz{p:Nat}:(cf m d p).length=m.length:=by simp[cf]
def BE:(fJ m d k).length=m.length:=by simp[fJ]
def Ynr{s:List (List Rat)×Nat×List Nat}:(iV s k).1.length=s.1.length:=by
 unfold iV
 split
 ·simp only[zm,BE,pz]
 ·rfl
def Ysd{s:List (List Rat)×Nat×List Nat}(h:bp s.1 n)(hd:s.2.1<=s.1.length):bp (iV s k).1 n/\(iV s k).2.1<=s.1.length/\s.2.1<=(iV s k).2.1:=by
 unfold iV
 have hle:=@El s.1 k (s.1.length-s.2.1) s.2.1
 split
 ·rename_i hp
  have du:s.2.1<s.1.length:=by unfold eS at hp;omega
  exact⟨((h.BD du hp).Gu (by rw[pz];exact du)).elm,by simp only;omega,by simp⟩
 ·exact⟨h,hd,aO _⟩
def bZ(m:List (List Rat))(K:Nat):Prop:=∀r∈m,∀q∈r,Qb K q
def bZ.mono{L:Nat}(h:bZ m K)(hk:K<=L):bZ m L:=fun r hr q hq=>(h r hr q hq).mono hk
def bZ.at{m:List (List Rat)}{K i:Nat}(h:bZ m K):∀q∈m[i]?.getD [],Qb K q:=fun q hq=>by
 cases hr:m[i]? with
 |none=>rw[hr]at hq;simp at hq
 |some r=>rw[hr]at hq;exact h r (bM hr) q hq
def bZ.set{r:List Rat}(h:bZ m K)(hr:∀q∈r,Qb K q):bZ (m.set i r) K:=fun x hx=>by
 rcases Gx hx with hx|rfl
 ·exact h x hx
 ·exact hr
def bZ.BD{p:Nat}(h:bZ m K):bZ (cf m d p) K:=(h.set h.at).set h.at
def Ylz(h:bZ m K)(hK:1<=K)(hp:(m[d]?.getD [])[k]?.getD 0≠0):∀q∈(m[d]?.getD []).map (fun x=>x/(m[d]?.getD [])[k]?.getD 0),Qb (2*K) q:=fun q hq=>by
 obtain⟨x,hx,rfl⟩:=eC.1 hq
 have h1:=h.at (i:=d) x hx
 have h2:=VG (Jw (fun q hq=>h.at (i:=d) q hq) hK k) hp
 rw[Rat.div_def,show 2*K=K+K by omega]
 exact h1.mul h2
variable {N:Nat} {h:T O} {l:List aQ} {m:List (List aQ)} {u v:V}
def A.b56:=A.q Tryz.f56
def A.k56:=@A.kk 56 6 [.tmp 2] A.b56 (by kernel_rfl) rfl
def A.b115:=A.q Tryz.f115
def A.k115:=@A.kk 115 12 [.tmp 4] A.b115 (by kernel_rfl) rfl
def A.b113:=A.q Tryz.f113
def A.k113:=@A.kk 113 4 [.tmp 1] A.b113 (by kernel_rfl) rfl
def A.b114:=A.q Tryz.f114
def A.k114:=@A.kk 114 7 [.tmp 2] A.b114 (by kernel_rfl) rfl
def A.b37:=A.q Tryz.f37
def A.k37:=@A.kk 37 9 [.tmp 4] A.b37 (by kernel_rfl) rfl
def Yi0{l:List (List aQ)}(hs:fC h N v l)(hl:l.length<100000)(hx:∀x∈l,x.length<100000/\∀s∈x,s.length<=100000):Fn A.C 56 [v] h N (fun u _ _=>u=.int .i64 (kJ l 64 16)):=by
 intro w
 rw[aM,A.k56 (by simp)]
 simp[A.b56,ae]
 refine ay (Yiz (a:=64) (b:=16) hs hl hx) ?_
 rintro _ H2 n2 k2 rfl
 simp[az]
 exact k2
def Zy2(h:kJ m 64 16=0)(hs:mQ 6 6 m=true):Jp m (fw m):=by
 obtain⟨s1,s2⟩:=Zqa hs
 unfold kJ at h
 split at h
 ·exact absurd h (by decide)
 split at h
 ·exact absurd h (by decide)
 rename_i h1 h2
 have hp:0<m.length:=by omega
 obtain⟨r0,d_,e0⟩:=Yti hp
 refine⟨hp,Zos s1 (by omega),by omega,?_,fun r hr=>Zy3 (xD h _ (eC.2 ⟨r,hr,rfl⟩)) (s2 r hr)⟩
 rw[e0]
 exact Zos (Zs7 (s2 r0 d_)) (by omega)
def Yst{n:Nat}(ht:Sl h N v (strs l))(tm:l.length<100000)(VS:∀s∈l,s.length<=100000):Fn A.C 115 [v,.int .i64 n] h N (fun z _ _=>z=.int .i64 (rf l n 1)):=by
 intro w
 have ll:=ht.len
 rw[tn]at ll
 have sg:∀w,A.C.call (.func 77 [] []) [.int .i64 1] ⟨h,N,w⟩=some (.func 151 [] [.ptr N 0],⟨h.set N (.cells [.int .i64 1] 3 true),N+1,w⟩):=fun w=>by
  apply Call.eq
  rw[aM,A.k77 (by simp)]
  simp[A.b77]
 have e1:((l.length:Int)=(n:Int))=(l.length=n):=by apply propext;omega
 rw[aM,A.k115 (by simp)]
 by_cases c:l.length=n
 ·subst c
  simp[A.b115,ll,aJ,sg]
  have k1:ab h N (h.set N (.cells [.int .i64 1] 3 true)) (N+1):=ab.refl.new _
  refine ay (Yf4 (qm 1) (ht.ad k1) tm fun s hs h' n' hk=>Zzs (z:=1) (e:=3) (rw:=true) (by rw[hk.get N (by omega)];simp) (by have:=hk.le;omega) (VS s hs)) ?_
  rintro _ H2 n2 k2 rfl
  simp[az,rf]
  exact k1.trans k2
 ·simp[A.b115,ll,aJ,e1,c,az,rf]
  exact ab.refl
def Yqy{q:Nat}{l:List aQ}{eq:TypeId}{wq:Bool}(VT:h.get q=some (.cells [u] eq wq))(hlq:q<N)(hs:fC h N u m)(mj:m.length<100000)(dm:∀x∈m,x.length<100000/\∀s∈x,s.length<=100000):mw A.C (.func 113 [] [.ptr q 0]) [] h N (fun z _ _=>z=.int .i64 (kJ m 64 16)):=by
 intro w
 rw[aM,A.k113 (by simp)]
 simp[A.b113,VT]
 refine ay (Yi0 hs mj dm) ?_
 rintro _ H2 n2 k2 rfl
 simp[az]
 exact k2
def Yqx{p q:Nat}{ep eq:TypeId}{wp wq:Bool}(pV:h.get p=some (.cells [v] ep wp))(hlp:p<N)(VT:h.get q=some (.cells [u] eq wq))(hlq:q<N)(hs:fC h N u m)(mj:m.length<100000)(dm:∀x∈m,x.length<100000/\∀s∈x,s.length<=100000)(ht:Sl h N v (strs l))(tm:l.length<100000)(VS:∀s∈l,s.length<=100000):mw A.C (.func 114 [] [.ptr p 0,.ptr q 0]) [] h N (fun z _ _=>z=.int .i64 (rf l m.length 1)):=by
 intro w
 have ml:=hs.len
 rw[aM,A.k114 (by simp)]
 simp[A.b114,VT,pV,ml]
 refine ay (Yst ht tm VS) ?_
 rintro _ H2 n2 k2 rfl
 simp[az]
 exact k2
def fC.one(hm:fC h N u m):V.one u=true/\V.cells u=[u]:=by
 obtain⟨us,⟨_,rfl|rfl⟩|⟨i,o,cp,c,e,rw,rfl,_⟩,_⟩:=hm<;>exact⟨rfl,rfl⟩
def tN(m:List (List aQ))(l:List aQ):Int:=bn [kJ m 64 16,rf l m.length 1]
def Ymu(hm:fC h N u m)(hl:Sl h N v (strs l))(m1:m.length<100000)(m2:∀x∈m,x.length<100000/\∀s∈x,s.length<=100000)(l1:l.length<100000)(l2:∀s∈l,s.length<=100000):Fn A.C 37 [u,v] h N (fun z _ _=>z=.int .i64 (tN m l)):=by
 intro w
 have o2:=hl.form.one
 have o3:=hl.form.cells
 obtain⟨o4,o5⟩:=hm.one
 rw[aM,A.k37 (by simp)]
 unfold V.one at o2 o4
 unfold V.cells at o3 o5
 simp[A.b37,o2,o3,o4,o5,ae]
 generalize hH:((h.set N (.cells [u] 22 true)).set (N+1) (.cells [v] 23 true)).set (N+1+1) (.cells [.func 113 [] [.ptr N 0],.func 114 [] [.ptr (N+1) 0,.ptr N 0]] 93 true)=H
 have kB:ab h N H (N+1+1+1):=by rw[<-hH];exact((ab.refl.new _).new _).new _
 have g0:H.get N=some (.cells [u] 22 true):=by rw[<-hH];simp
 have g1:H.get (N+1)=some (.cells [v] 23 true):=by rw[<-hH];simp
 have g2:H.get (N+1+1)=some (.cells [.func 113 [] [.ptr N 0],.func 114 [] [.ptr (N+1) 0,.ptr N 0]] 93 true):=by rw[<-hH];simp
 clear hH
 have hs:Sl H (N+1+1+1) (.slice (N+1+1) 0 2 (some 2) 1) [.func 113 [] [.ptr N 0],.func 114 [] [.ptr (N+1) 0,.ptr N 0]]:=Sl.row (by omega) g2 rfl (fun k hk=>by simp at hk;omega)
 have key:=Ylf (l:=[kJ m 64 16,rf l m.length 1]) hs rfl (by simp) (Yow (P:=fun f e _=>∀h' n',ab H (N+1+1+1) h' n'->mw A.C f [] h' n' (fun u _ _=>u=.int .i64 e)) (fun h' n' hk=>Yqy (l:=l) ((hk.get N (by omega)).trans g0) (by have:=hk.le;omega) ((hm.ad kB).ad hk) m1 m2) (fun hz h' n' hk=>Yqx ((hk.get (N+1) (by omega)).trans g1) (by have:=hk.le;omega) ((hk.get N (by omega)).trans g0) (by have:=hk.le;omega) ((hm.ad kB).ad hk) m1 m2 ((hl.ad kB).ad hk) l1 l2))
 change Fn A.C 59 _ H _ (fun u _ _=>u=.int .i64 (tN m l))at key
 refine ay key ?_
 rintro _ H2 n2 k2 rfl
 simp[az]
 exact kB.trans k2
set_option maxHeartbeats 4000000
def VU{m:List (List aQ)}{w:List aQ}(h:tN m w=0)(sm:mQ 6 6 m=true)(sw:fe 6 w=true):Jp m (fw m)/\w.length=m.length/\tO w:=by
 have h1:=xD h (kJ m 64 16) (by simp)
 have h2:=xD h (rf w m.length 1) (by simp)
 refine⟨Zy2 h1 sm,?_⟩
 unfold rf at h2
 split at h2
 ·rename_i e
  exact⟨e,Yq6 h2 sw⟩
 ·exact absurd h2 (by decide)
set_option maxHeartbeats 2000000
def Ylv{h:T O}{N:Nat}{w:List Nat}{i o:Nat}{cp:Option Nat}{c l:List V}{e:TypeId}{rw:Bool}(h3:h.get i=some (.cells c e rw))(h4:∀j,j<l.length->c[o+j]?=l[j]?)(h5:o+l.length<=c.length):ef ⟨h,N,w⟩ 1 (.slice i o l.length cp 1)=some (l.length,l):=by
 have:aC c o (l.length*1)=some l:=by
  unfold aC
  rw[ax (by omega),zp]
  congr 1
  apply og
  intro j
  by_cases hj:j<l.length
  ·rw[iI,ax hj,ff];exact h4 j hj
  ·rw[fv (by simp;omega),fv (by omega)]
 simp only[ef,if_true,St.row,h3,this]
variable {a:List Rat}
def A.Lu:=A.q Tryz.f128
def A.ri:=A.ql A.Lu 0 []
def A.b128:=(fun x0=>A.qb A.Lu [x0]) A.ri
def A.k128:=@A.kk 128 26 [.tmp 4] A.b128 (by kernel_rfl) rfl
def A.Lv:=A.q Tryz.f126
def A.rj:=A.ql A.Lv 0 []
def A.b126:=(fun x0=>A.qb A.Lv [x0]) A.rj
def A.k126:=@A.kk 126 23 [.tmp 4] A.b126 (by kernel_rfl) rfl
def Zs8{h:T O}{N:Nat}{u:V}{c:Rat}{j k:Nat}(hu:Tx h N u a)(ha:∀q∈a,Qb j q)(hc:Qb k c)(hj:j<=400000000)(hk:k<=400000000)(hl:a.length<100000):Fn A.C 126 [u,.str (aP c)] h N (fun x h' n'=>Own 1 41 N h' n' x ((tx (a.map fun q=>q*c)).map fun y=>[y])):=by
 intro w
 have l1:=hu.len
 rw[aM,A.k126 (by simp)]
 simp[A.b126]
 refine bA [(5,21)] (fun e r st=>e=.exit 0/\ar N st.w=[]/\ab h N st.h st.n/\∃x,r.get 5=some x/\Own 1 41 N st.h st.n x ((tx (a.map fun q=>q*c)).map fun y=>[y])) (fun i r st=>ar N st.w=[]/\ab h N st.h st.n/\∃t x,t+i=a.length/\r.get 6=some (.int .i64 t)/\r.get 5=some x/\Own 1 41 N st.h st.n x ((tx ((a.take t).map fun q=>q*c)).map fun y=>[y])) (a.length) ?_ ?_ ?_
 ·exact⟨by simp,ab.refl,0,.aa,by omega,by simp,by simp,by simpa[tx,strs]using Own.nil⟩
 ·rintro i r ⟨H,n1,W⟩ hr hf ⟨hW,hK,t,x,ht,h6,h5,ho⟩
  simp only at hW hK ho
  rw[bb]
  cases i with
  |zero=>
   obtain rfl:t=a.length:=by omega
   rw[xE]at ho
   simp[A.rj,hr,hf,h6,h5,l1,hW,hK]
   exact ho
  |succ i=>
   have au:t<a.length:=by omega
   have aS:(t:Int)<((a.length:Nat):Int):=by omega
   obtain⟨q,hq⟩:=a_ au
   have iU:=ha q (bM hq)
   obtain⟨i',o,cc,e,rw,q1,q2,q3,q4⟩:=(hu.ad hK).at (xw hq)
   simp[A.rj,hr,hf,h6,h5,l1,au,aS,q1,q2,q3,q4]
   refine ay (VV iU hc hj hk) ?_
   rintro _ H2 n2 k2 rfl
   have jA:=k2.le
   have fk:=hK.le
   obtain⟨v',h',w',f1,f2,f3,_,f5⟩:=tJ (x:=[.str (aP (q*c))]) (u:=.slice n2 0 1 (some 1) 1) (bytes:=16) (w:=W) ((ho.ad k2).ad (ab.refl.new (.cells [.str (aP (q*c))] 41 true))) (by omega) (by decide) rfl (by simp[ef,St.row,aC]) (by simp[mq];omega)
   have e7:((tx ((a.take t).map fun q=>q*c)).map fun y=>[y])++[[.str (aP (q*c))]]=(tx ((a.take (t+1)).map fun q=>q*c)).map fun y=>[y]:=by rw[uQ,hq];simp[tx,strs]
   rw[e7]at f5
   simp(disch:=first|(simp;done)|omega|rfl) [hr,hf,h6,h5,q1,q2,q3,q4,ae,f1]
   exact⟨i,by omega,by rw[f2];exact hW,((hK.trans k2).trans (ab.refl.new (.cells [.str (aP (q*c))] 41 true))).then f3,t+1,by omega,by simp,by rw[<-List.map_take];exact f5⟩
 ·rintro _ r ⟨H,n1,W⟩ hr ⟨rfl,hW,hK,x,h5,ho⟩
  simp only at hW hK ho
  simp[hr,h5,az,hW,hK]
  exact ho
def Yca{F:Rat->Rat->Rat}{b:List Rat}{t:Nat}{p q:Rat}(hp:a[t]?=some p)(hq:b[t]?=some q):n_ F a b (t+1)=n_ F a b t++[F p q]:=by
 simp[n_,List.range_succ,hp,hq]
def Ylk{h:T O}{N:Nat}{u v:V}{b:List Rat}{j k:Nat}(hu:Tx h N u a)(hv:Tx h N v b)(ec:a.length<=b.length)(ha:∀q∈a,Qb j q)(hb:∀q∈b,Qb k q)(hj:j<=400000000)(hk:k<=400000000)(hl:a.length<100000):Fn A.C 128 [u,v] h N (fun x h' n'=>Own 1 41 N h' n' x ((tx (n_ (fun x y=>x+y) a b a.length)).map fun y=>[y])):=by
 intro w
 have l1:=hu.len
 have l2:=hv.len
 rw[aM,A.k128 (by simp)]
 simp[A.b128]
 refine bA [(5,24)] (fun e r st=>e=.exit 0/\ar N st.w=[]/\ab h N st.h st.n/\∃x,r.get 5=some x/\Own 1 41 N st.h st.n x ((tx (n_ (fun x y=>x+y) a b a.length)).map fun y=>[y])) (fun i r st=>ar N st.w=[]/\ab h N st.h st.n/\∃t x,t+i=a.length/\r.get 6=some (.int .i64 t)/\r.get 5=some x/\Own 1 41 N st.h st.n x ((tx (n_ (fun x y=>x+y) a b t)).map fun y=>[y])) (a.length) ?_ ?_ ?_
 ·exact⟨by simp,ab.refl,0,.aa,by omega,by simp,by simp,by simpa[tx,strs,n_]using Own.nil⟩
 ·rintro i r ⟨H,n1,W⟩ hr hf ⟨hW,hK,t,x,ht,h6,h5,ho⟩
  simp only at hW hK ho
  rw[bb]
  cases i with
  |zero=>
   obtain rfl:t=a.length:=by omega
   simp[A.ri,hr,hf,h6,h5,l1,hW,hK]
   exact ho
  |succ i=>
   have au:t<a.length:=by omega
   have aS:(t:Int)<((a.length:Nat):Int):=by omega
   obtain⟨p,hp⟩:=a_ au
   have uL:=ha p (bM hp)
   have Gz:t<b.length:=by omega
   have Er:(t:Int)<(b.length:Int):=by omega
   obtain⟨q,hq⟩:=a_ Gz
   have iU:=hb q (bM hq)
   obtain⟨i',o,cc,e,rw,q1,q2,q3,q4⟩:=(hu.ad hK).at (xw hp)
   obtain⟨i2,o2,cc2,e2,Jl,p1,p2,p3,p4⟩:=(hv.ad hK).at (xw hq)
   simp[A.ri,hr,hf,h6,h5,l1,au,aS,l2,Gz,Er,q1,q2,q3,q4,p1,p2,p3,p4]
   refine ay (Yg9 uL iU hj hk) ?_
   rintro _ H2 n2 k2 rfl
   have jA:=k2.le
   have fk:=hK.le
   obtain⟨v',h',w',f1,f2,f3,_,f5⟩:=tJ (x:=[.str (aP (p+q))]) (u:=.slice n2 0 1 (some 1) 1) (bytes:=16) (w:=[]) ((ho.ad k2).ad (ab.refl.new (.cells [.str (aP (p+q))] 41 true))) (by omega) (by decide) rfl (by simp[ef,St.row,aC]) (by simp[mq,Gy];omega)
   have e7:((tx (n_ (fun x y=>x+y) a b t)).map fun y=>[y])++[[.str (aP (p+q))]]=(tx (n_ (fun x y=>x+y) a b (t+1))).map fun y=>[y]:=by rw[Yca hp hq];simp[tx,strs]
   rw[e7]at f5
   have ow:ar N w'=[]:=VW f2 (by omega) rfl
   simp(disch:=first|(simp;done)|omega|rfl) [-ar,q2,p2,hr,hf,h6,h5,l2,Gz,Er,q1,q2,q3,q4,p1,p2,p3,p4,ae,f1]
   exact⟨i,by omega,Yd8 ow hW,((hK.trans k2).trans (ab.refl.new (.cells [.str (aP (p+q))] 41 true))).then f3,t+1,by omega,by simp,f5⟩
 ·rintro _ r ⟨H,n1,W⟩ hr ⟨rfl,hW,hK,x,h5,ho⟩
  simp only at hW hK ho
  simp[hr,h5,az,hW,hK]
  exact ho
variable {N R:Nat} {h:T O} {l:List Rat} {m:List (List Rat)} {u:V}
def Ag(N0:Nat)(h:T O)(N:Nat)(u:V)(l:List Rat):Prop:=Tx h N u l/\∀i∈cQ u,i<N0\/∃z w,h.get i=some (.cells z 41 w)
def Ag.ad{N0:Nat}{h':T O}{N':Nat}(s:Ag N0 h N u l)(k:ab h N h' N'):Ag N0 h' N' u l:=⟨s.1.ad k,fun i hi=>by
 rcases s.2 i hi with h1|⟨z,w,h1⟩
 ·exact .inl h1
 ·exact .inr ⟨z,w,(k.get i (Qt s.1 i hi)).trans h1⟩⟩
def tP.old{N0:Nat}(s:tP h N u l):Ag N0 h N u l:=⟨s.1,fun i hi=>.inr (s.2 i hi)⟩
def Tx.old{N0:Nat}(s:Tx h N0 u l):Ag N0 h N0 u l:=⟨s,fun i hi=>.inl (Qt s i hi)⟩
def Ag.bg{N0:Nat}{us vs:List V}{b c:Bool}(s:Ag N0 h N u l)(g:h.get R=some (.cells us 23 b))(hR:N0<=R):Ag N0 (h.set R (.cells vs 23 c)) N u l:=by
 have aW:∀i∈cQ u,i≠R:=fun i hi hc=>by
  rcases s.2 i hi with h1|⟨z,w,hz⟩
  ·omega
  ·rw[hc,g]at hz
   simp at hz
 have k:dS (fun i=>i=R) h N (h.set R (.cells vs 23 c)) N:=⟨aO _,fun i _ hi=>by rw[T.ag,ak hi]⟩
 refine⟨Sl.bO s.1 k aW,fun i hi=>?_⟩
 rcases s.2 i hi with h1|⟨z,w,hz⟩
 ·exact .inl h1
 ·exact .inr ⟨z,w,by rw[T.ag,ak (aW i hi)];exact hz⟩
structure qi (N0:Nat) (h:T O) (N R:Nat) (m:List (List Rat)):Prop where
 ge:N0<=R
 lt:R<N
 ex:∃us:List V,h.get R=some (.cells us 23 true)/\us.length=m.length/\∀(j:Nat) (l:List Rat),m[j]?=some l->∃u,us[j]?=some u/\Ag N0 h N u l
def qi.ad{N0:Nat}{h':T O}{N':Nat}(s:qi N0 h N R m)(k:ab h N h' N'):qi N0 h' N' R m:=by
 obtain⟨us,g1,g2,g5⟩:=s.ex
 refine⟨s.ge,e_ s.lt k.le,us,(k.get R s.lt).trans g1,g2,fun j l hl=>?_⟩
 obtain⟨u,a1,a2⟩:=g5 j l hl
 exact⟨u,a1,a2.ad k⟩
def qi.at{N0:Nat}(s:qi N0 h N R m){j:Nat}{l:List Rat}(hj:m[j]?=some l):∃us u,h.get R=some (.cells us 23 true)/\us.length=m.length/\us[j]?=some u/\Ag N0 h N u l:=by
 obtain⟨us,g1,g2,g5⟩:=s.ex
 obtain⟨u,a1,a2⟩:=g5 j l hj
 exact⟨us,u,g1,g2,a1,a2⟩
def qi.put{N0:Nat}{i:Nat}{us:List V}(s:qi N0 h N R m)(g:h.get R=some (.cells us 23 true))(hu:Ag N0 h N u l)(hi:i<m.length):qi N0 (h.set R (.cells (us.set i u) 23 true)) N R (m.set i l):=by
 obtain⟨vs,g1,g2,g5⟩:=s.ex
 rw[g]at g1
 simp only[an,O.cells.injEq]at g1
 obtain⟨rfl,_⟩:=g1
 refine⟨s.ge,s.lt,us.set i u,by rw[T.ag,ax rfl],by simp[g2],fun j r hr=>?_⟩
 by_cases e:j=i
 ·subst e
  rw[jB hi]at hr
  simp only[an]at hr
  subst hr
  exact⟨u,by rw[jB (by omega)],hu.bg g s.ge⟩
 ·rw[eH (Ne.symm e)]at hr ⊢
  obtain⟨u',a1,a2⟩:=g5 j r hr
  exact⟨u',a1,a2.bg g s.ge⟩
def Cy{l:List V}{i:Nat}(h:i<l.length):ae l i [u]=l.set i u:=by
 unfold ae
 rw[List.set_eq_take_append_cons_drop,ax h]
 simp
def A.Qu:=A.q Tryz.f49
def A.oa:=A.ql A.Qu 2 []
def A.ot:=A.ql A.Qu 1 []
def A.qY:=(fun x0 x1=>A.ql A.Qu 0 [x0,x1]) A.ot A.oa
def A.b49:=(fun x0=>A.qb A.Qu [x0]) A.qY
def A.k49:=@A.kk 49 110 [.tmp 2] A.b49 (by kernel_rfl) rfl
def Yom{m:List (List Rat)}{k p n:Nat}(hn:0<n):od m k p n=if (m[p]?.getD [])[k]?.getD 0≠0 then p else od m k (p+1) (n-1):=by
 obtain⟨n,rfl⟩:∃n',n=n'+1:=⟨n-1,by omega⟩
 rfl
def Yin{W0:List Nat}{N0:Nat}{H:T O}{n R:Nat}{r0:T V}{m:List (List Rat)}{d k c:Nat}(s:qi N0 H n R m)(hc:bp m c)(hk:k<c)(hd:d<=m.length)(mj:m.length<1000)(a3:r0.get 3=some (.slice R 0 m.length none 1))(a5:r0.get 5=some (.int .i64 k))(a6:r0.get 6=some (.int .i64 d)):
  Code A.C none (.loop A.ot) ⟨r0,110,[]⟩ ⟨H,n,W0⟩ (fun e fr st=>e=.exit 2/\st=⟨H,n,W0⟩/\∃r,Fx [(6,6),(25,40)] r0 110 ⟨r,110,[]⟩/\fr=⟨r,110,[]⟩/\r.get 6=some (.int .i64 (eS m d k))):=by
 rw[bb]
 refine bA [(6,6),(25,40)] (fun e r st=>e=.exit 2/\st=⟨H,n,W0⟩/\r.get 6=some (.int .i64 (eS m d k))) (fun i r st=>st=⟨H,n,W0⟩/\∃p,p<=m.length/\i=m.length-p/\r.get 6=some (.int .i64 p)/\eS m d k=od m k p (m.length-p)) (m.length-d) ?_ ?_ ?_
 ·exact⟨rfl,d,hd,rfl,a6,rfl⟩
 ·rintro i r _ hr hf ⟨rfl,p,hp,rfl,h6,hz⟩
  rw[bb]
  by_cases au:p<m.length
  ·have aS:(p:Int)<(m.length:Int):=by omega
   obtain⟨row,al⟩:=a_ au
   obtain⟨us,u,g1,g2,g3,g4⟩:=s.at al
   have xu:=hc row (bM al)
   obtain⟨q,hq⟩:=a_ (l:=row) (k:=k) (by omega)
   obtain⟨i1,o1,c1,e1,w1,q1,q2,q3,q4⟩:=g4.1.at (xw hq)
   have vn:=g4.1.len
   have bG:(k:Int)<(row.length:Int):=by omega
   have eF:k<row.length:=by omega
   have GA:=fun st=>Zt8 (q:=q) (st:=st)
   have hR:=s.lt
   rw[Yom (by omega),al]at hz
   simp only[jz,hq]at hz
   by_cases c0:q=0
   ·rw[ak (by simpa using c0)]at hz
    have Lw:=GA
    simp only[decide_eq_true c0]at Lw
    simp(disch:=first|(simp;done)|omega|rfl) [-getElem?_pos,A.ot,hr,hf,a3,a5,h6,au,aS,g1,g3,hR,q1,q2,q3,q4,mq,bG,eF,Lw,vn]
    refine⟨m.length-(p+1),by omega,p+1,by omega,rfl,by simp,?_⟩
    rw[hz,show m.length-p-1=m.length-(p+1) by omega]
   ·rw[ax c0]at hz
    have Lw:=GA
    simp only[decide_eq_false c0]at Lw
    simp[A.ot,hr,hf,a3,a5,h6,au,aS,g1,g3,hR,q1,q2,q3,q4,mq,bG,eF,Lw,vn,hz]
  ·obtain rfl:p=m.length:=by omega
   rw[Nat.sub_self,od]at hz
   simp[A.ot,hr,hf,a3,a5,h6,hz]
 ·rintro _ r _ hr ⟨rfl,rfl,h6⟩
  simp[]
  exact⟨r,⟨hr,rfl,rfl⟩,rfl,h6⟩
def A.b10:=A.q Tryz.f10
def A.k10:=@A.kk 10 5 [.tmp 2] A.b10 (by kernel_rfl) rfl
def Yiq{h:T O}{N:Nat}{v:V}{l:List (List aQ)}(hs:fC h N v l)(hl:l.length<100000)(hx:∀x∈l,x.length<100000/\∀s∈x,s.length<=100000):Fn A.C 10 [v] h N (fun u _ _=>u=.int .i64 (kJ l 64 16)):=by
 intro w
 rw[aM,A.k10 (by simp)]
 simp[A.b10]
 refine ay (Yq2 (a:=64) (b:=16) hs hl hx) ?_
 rintro _ H2 n2 k2 rfl
 simp[az]
 exact k2
end
end Go.Mx
