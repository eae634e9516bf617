/-lensletref05-/
import Derived.Test.YteojhfjdbpdolaaGreatDoorSvC
set_option linter.all false
namespace Go.Mx
noncomputable section
open Go Go.Proofs
set_option maxHeartbeats 1000000
set_option maxRecDepth 1000000
def pK.yB{N0:Nat}{h:T O}{N R d:Nat}{m:List (List Rat)}{v:V}{us:List V}(s:pK N0 h N R m)(g:h.get R=some (.cells us 23 true))(hv:Sl h N v (us.take d))(hd:d<=m.length):iw h N v (m.take d):=by
 obtain⟨vs,g1,g2,g3⟩:=s.ex
 rw[g]at g1
 simp only[al,O.cells.injEq,and_true]at g1
 subst g1
 refine⟨us.take d,hv,by simp[g2],fun j l hl=>?_⟩
 by_cases hj:j<d
 ·rw[iz,av hj]at hl ⊢
  obtain⟨u,a1,a2⟩:=g3 j l hl
  exact⟨u,a1,a2.1⟩
 ·rw[iz,ak hj]at hl
  cases hl
def Vm{h:T O}{N:Nat}{u:V}{m:List (List Rat)}{c:Nat}{B:Nat->Nat}(hu:iw h N u m)(hc:bg m c)(mw:m.length<1000)(ix:0<m.length)(cN:c<1000)(x_:∀n,1<=B n)(hK:∀k,cB (aD m k).1 (B (aD m k).2.1))(hB:∀n,n<m.length->n<c->3*B n<=400000000):Fn A.C 130 [u] h N (fun x h' n'=>iw h' n' x (aU m c)):=by
 intro w
 obtain⟨us,h1,h2,h3⟩:=hu
 have fI:=h1
 rcases h1 with⟨hn,_⟩|⟨i,o,cp,c',e,pO,rfl,q2,q3,q4,q5,q6⟩
 ·rw[hn]at h2
  simp at h2
  omega
 have aW:¬i=N:=by omega
 have iA:us≠[]:=fun hc=>by rw[hc]at h2;simp at h2;omega
 have DP:(h.set N (.cells [] 23 true)).get i=some (.cells c' e pO):=by rw[T.ag,ak aW];exact q3
 have ha:∀w,fY ⟨h.set N (.cells [] 23 true),N+1,w⟩ 1 24 23 (.slice N 0 0 (some 0) 1) (.slice i o us.length cp 1)=some (.slice (N+1) 0 us.length none 1,⟨(h.set N (.cells [] 23 true)).set (N+1) (.cells us 23 true),N+1+1,w⟩):=fun w=>by
  have hg:(h.set N (.cells [] 23 true)).get N=some (.cells [] 23 true):=by simp
  simp only[fY,Yl1 (cp:=cp) DP q4 q5,tZ,St.row,hg,aF,St.alloc]
  simp[iA]
  omega
 have kB:ab h N ((h.set N (.cells [] 23 true)).set (N+1) (.cells us 23 true)) (N+1+1):=(ab.refl.new _).new _
 have sR:pK N ((h.set N (.cells [] 23 true)).set (N+1) (.cells us 23 true)) (N+1+1) (N+1) m:=⟨by omega,by omega,us,by rw[T.ag,av rfl],h2,fun j l hl=>by
  obtain⟨x,a1,a2⟩:=h3 j l hl
  exact⟨x,a1,(Tx.old a2).ae kB⟩⟩
 rw[aR,A.k130 (by simp)]
 simp[A.b130,aG,wQ,ha]
 generalize (h.set N (.cells [] 23 true)).set (N+1) (.cells us 23 true)=G at*
 refine jy (Zz7 (h:=h) sR hc mw ix cN x_ hK hB kB (by simp) (by simp[h2]) (by simp) (by simp)) ?_
 rintro _ _ ⟨H4,n4,W4⟩ ⟨rfl,hw,k4,s4,r4,f4,rfl,x4⟩
 simp only at hw k4 s4
 have pk:=f4.dN
 obtain⟨vs,g1,g2,_⟩:=id s4.ex
 have hl4:(aD m c).1.length=m.length:=yG
 have gZ:=(@mB m c hc c).2
 have hs:Sl H4 n4 (.slice (N+1) 0 us.length none 1) vs:=Sl.row s4.lt g1 (by omega) fun k hk=>by cases hk
 obtain⟨v',e1,e2⟩:=DO (w:=W4) hs (lo:=0) (hi:=(aD m c).2.1) (by omega) (by omega) none (some (.int .i64 (aD m c).2.1)) (.inr ⟨rfl,rfl⟩) (.inl rfl)
 rw[yJ]at e2
 simp[zJ,pk,x4,e1,aE,hw]
 exact⟨k4,s4.yB g1 e2 (by omega)⟩
variable {N n:Nat} {h:T O} {l:List Rat} {ps:List Nat}
def A.KI:=A.q Tryz.f131
def A.mF:=A.ql A.KI 0 []
def A.b131:=(fun x0=>A.qb A.KI [x0]) A.mF
def A.k131:=@A.kk 131 18 [.tmp 2] A.b131 (by kernel_rfl) rfl
def A.w56:=A.q Tryz.f56
def A.uS:=A.ql A.w56 0 []
def A.b56:=(fun x0=>A.qb A.w56 [x0]) A.uS
def A.k56:=@A.kk 56 14 [.tmp 2] A.b56 (by kernel_rfl) rfl
def Zx2{w:List Nat}{v:V}(hs:Tx h N v l)(hl:l.length<100000):A.C.call (.func 131 [] []) [v] ⟨h,N,w⟩=some (.int .i64 (yM l 0 l.length),⟨h,N,w⟩):=by
 apply Call.eq
 have lg:=Tx.len hs
 rw[aR,A.k131 (by simp)]
 simp[A.b131,lg]
 refine bL [(3,16)] (fun e r st=>st=⟨h,N,[]⟩/\e=.exit 0/\r.get 3=some (.int .i64 (yM l 0 l.length))) (fun m r st=>st=⟨h,N,[]⟩/\∃k,k+m=l.length/\r.get 3=some (.int .i64 k)/\yM l 0 l.length=yM l k m) l.length ?_ ?_ ?_
 ·exact⟨rfl,0,by omega,by simp,rfl⟩
 ·rintro m r _ hr hf ⟨rfl,k,hk,h3,hz⟩
  rw[bl]
  cases m with
  |zero=>
   obtain rfl:k=l.length:=by omega
   have uT:yM l l.length 0=l.length:=rfl
   rw[uT]at hz
   simp[A.mF,hr,hf,h3,lg]
   exact hz.symm
  |succ m=>
   have ay:k<l.length:=by omega
   have bM:(k:Int)<(l.length:Int):=by omega
   obtain⟨q,hc⟩:=bk ay
   obtain⟨i,o,cc,e,rw,q1,q2,q3,q4⟩:=hs.at (xV hc)
   have FA:=fun st=>Zt2 (q:=q) (st:=st)
   have dT:yM l k (m+1)=if q≠0 then k else yM l (k+1) m:=by
    show (if l[k]?.getD 0≠0 then k else yM l (k+1) m)=_
    rw[hc]
    rfl
   rw[dT]at hz
   by_cases c4:q=0
   ·rw[ak (by simpa using c4)]at hz
    simp only[decide_eq_true c4]at FA
    simp(disch:=first|(simp;done)|omega|rfl) [A.mF,hr,hf,h3,bM,ay,lg,q1,q2,q3,q4,FA]
    exact⟨m,by omega,k+1,by omega,by simp,hz⟩
   ·rw[av c4]at hz
    simp only[decide_eq_false c4]at FA
    simp[A.mF,hr,hf,h3,bM,ay,lg,q1,q2,q3,q4,FA,hz]
 ·rintro e r _ hr ⟨rfl,rfl,h3⟩
  simp[hr,h3]
def KJ{l:List V}:(l.map fun y=>[y]).flatten=l:=by
 induction l with
 |nil=>rfl
 |cons a t ih=>simp[ih]
structure Ba (h:T O) (N R:Nat) (l:List Rat):Prop where
 lt:R<N
 get:h.get R=some (.cells (tx l) 39 true)
def Ba.put{R j:Nat}{q:Rat}(s:Ba h N R l)(hj:j<l.length):ad (tx l) j [.str (aS q)]=tx (l.set j q)/\Ba (h.set R (.cells (tx (l.set j q)) 39 true)) N R (l.set j q):=by
 refine⟨?_,s.lt,by rw[T.ag,av rfl]⟩
 rw[BZ (by rw[kp];exact hj)]
 simp[tx,strs,List.map_set]
def Ba.B1{R:Nat}(s:Ba h N R l):tV h N (.slice R 0 l.length none 1) l:=⟨Sl.row s.lt s.get (kp l) (fun k hk=>by cases hk),fun i hi=>by
 simp[dh]at hi
 subst hi
 exact⟨_,_,s.get⟩⟩
def Vn(h0:0<n)(hn:n<1000):Fn A.C 56 [.int .i64 n] h N (fun x h' n'=>∃R,x=.slice R 0 n none 1/\N<=R/\Ba h' n' R ((List.range n).map fun _=>0)):=by
 intro w
 rw[aR,A.k56 (by simp)]
 simp[A.b56]
 refine bL [(3,12)] (fun e r st=>e=.exit 0/\ax N st.w=[]/\ab h N st.h st.n/\∃v,r.get 3=some v/\Own 1 39 N st.h st.n v ((tx ((List.range n).map fun _=>0)).map fun y=>[y])) (fun m r st=>ax N st.w=[]/\ab h N st.h st.n/\∃t v,t+m=n/\r.get 4=some (.int .i64 t)/\r.get 3=some v/\Own 1 39 N st.h st.n v ((tx ((List.range t).map fun _=>0)).map fun y=>[y])) n ?_ ?_ ?_
 ·exact⟨by simp,ab.refl,0,_,by omega,by simp,by simp,Own.nil⟩
 ·rintro m r ⟨H,n1,W⟩ hr hf ⟨hW,hK,t,v,ht,h4,h3,hO⟩
  simp only at hW hK hO
  rw[bl]
  have le:=hK.le
  cases m with
  |zero=>
   obtain rfl:t=n:=by omega
   simp[A.uS,hr,hf,h3,h4,hW,hK]
   exact hO
  |succ m=>
   have ay:t<n:=by omega
   have bb:(t:Int)<(n:Int):=by omega
   have qz:ad [V.str []] 0 [.str [48]]=[.str [48]]:=rfl
   have kD:ab H n1 (H.set n1 (.cells [.str [48]] 39 true)) (n1+1):=ab.refl.new _
   obtain⟨v',h',w',j1,j2,j3,_,j5⟩:=tU (x:=[.str [48]]) (u:=.slice n1 0 1 (some 1) 1) (bytes:=16) (w:=W) (hO.ae kD) (by omega) (by decide) rfl (by simp[eL,St.row,aF]) (by simp[tx,strs];omega)
   have kF:ab h N h' (n1+1+1):=(hK.trans kD).then j3
   simp(disch:=first|(simp;done)|omega|rfl) [A.uS,hr,hf,h3,h4,ay,bb,qz,wQ,j1,j2,hW,kF]
   refine⟨m,by omega,t+1,by omega,by simp,?_⟩
   have e:(tx ((List.range (t+1)).map fun _=>(0:Rat))).map (fun y=>[y])=(tx ((List.range t).map fun _=>(0:Rat))).map (fun y=>[y])++[[.str [48]]]:=by
    rw[List.range_succ,List.map_append]
    simp[tx,strs]
    rfl
   rw[e]
   exact j5
 ·rintro _ r ⟨H,n1,W⟩ hr ⟨rfl,hW,hK,v,h3,hO⟩
  simp only at hW hK hO
  obtain⟨hl,⟨hz,_⟩|⟨R,rfl,h1,h2,h3'⟩⟩:=hO
  ·have:=congrArg List.length hz
   simp[tx,strs]at this
   omega
  ·simp[hr,h3,aE,hW,hK]
   refine⟨R,⟨rfl,by rw[kp];simp⟩,h1,h2,?_⟩
   rw[h3',KJ]
def nS(ps:List Nat)(n:Nat)(p:Nat->Bool):List Int:=(List.range n).map fun j=>if p j=true then ((ps.idxOf j:Nat):Int)+1 else 0
def KK{p:Nat->Bool}:(nS ps n p).length=n:=by simp[nS]
def KL{j:Nat}{p:Nat->Bool}(h:j<n):(nS ps n p)[j]?=some (if p j=true then ((ps.idxOf j:Nat):Int)+1 else 0):=by simp[nS,h]
def Yon{a:Nat}{p q:Nat->Bool}(h:∀j,j<n->q j=(p j||decide (j=a)))(ha:a<n):nS ps n q=(nS ps n p).set a (((ps.idxOf a:Nat):Int)+1):=by
 apply lA
 intro j
 by_cases hj:j<n
 ·by_cases e:j=a
  ·subst e
   rw[gG (by rw[KK];exact hj),KL hj,h j hj]
   simp
  ·rw[d_ (Ne.symm e),KL hj,KL hj,h j hj]
   simp[e]
 ·rw[eJ (by rw[KK];omega),eJ (by rw[wM,KK];omega)]
def Zvn:Fn A.C 130 [.aa] h N (fun x h' n'=>iw h' n' x []):=by
 intro w
 have kB:∀o,ab h N (h.set N o) (N+1):=fun o=>ab.refl.new o
 rw[aR,A.k130 (by simp)]
 have ha:∀w,fY ⟨h.set N (.cells [] 23 true),N+1,w⟩ 1 24 23 (.slice N 0 0 (some 0) 1) .aa=some (.slice N 0 0 (some 0) 1,⟨h.set N (.cells [] 23 true),N+1,w⟩):=fun w=>by
  simp[fY,eL,St.row,aF]
 simp[A.b130,aG,wQ,ha]
 refine bL [(4,7),(11,106)] (fun e r st=>e=.exit 0/\st=⟨h.set N (.cells [] 23 true),N+1,[]⟩/\r.get 4=some (.int .i64 0)) (fun i r st=>st=⟨h.set N (.cells [] 23 true),N+1,[]⟩/\r.get 4=some (.int .i64 0)) 0 ?_ ?_ ?_
 ·exact⟨rfl,by simp⟩
 ·rintro i r _ hr hf ⟨rfl,h4⟩
  rw[bl]
  simp[A.jx,hr,hf,h4]
 ·rintro _ r _ hr ⟨rfl,rfl,h4⟩
  simp[zJ,l8,po,dv,j_,aB,hr,h4,aE]
  exact⟨kB _,[],Sl.row (e:=23) (rw:=true) (by omega) (by simp) rfl (fun k hk=>by omega),rfl,fun j l hl=>by simp at hl⟩
variable {N:Nat} {m:List (List Rat)}
set_option maxHeartbeats 2000000
def A.PM:=A.q Tryz.f55
def A.nT:=A.ql A.PM 2 []
def A.qF:=(fun x0=>A.ql A.PM 1 [x0]) A.nT
def A.qI:=A.ql A.PM 0 []
def A.b55:=(fun x0 x1=>A.qb A.PM [x0,x1]) A.qI A.qF
def A.k55:=@A.kk 55 80 [.tmp 2] A.b55 (by kernel_rfl) rfl
def Ydn{H:T O}{n n2 P c:Nat}{H2:T O}{W0:List Nat}{r0:T V}{rv:V}(sm:iw H n rv (aU m c))(hc:bg m c)(mw:m.length<1000)(cN:c<1000)(hP:n<=P)(hP2:P<n2)(kk:ab H n H2 n2)(gP:H2.get P=some (.cells (dI (nS (aD m c).2.2 c fun _=>false)) 3 true))(tW:ax n W0=[])(a3:r0.get 3=some rv)(a5:r0.get 5=some (.slice P 0 c (some c) 1))(a6:r0.get 6=some (.int .i64 0)):
  Code A.C none (.loop A.qI) ⟨r0,80,[]⟩ ⟨H2,n2,W0⟩ (fun e fr st=>e=.exit 0/\ax n st.w=[]/\ab H n st.h st.n/\st.n=n2/\st.h.get P=some (.cells (dI (nS (aD m c).2.2 c fun j=>decide (j∈(aD m c).2.2))) 3 true)/\∃r,Fx [(6,6),(19,33)] r0 80 ⟨r,80,[]⟩/\fr=⟨r,80,[]⟩):=by
 have lm:=sm.len
 have I:=@nU m c hc c
 have qp:(aU m c).length=(aD m c).2.2.length:=by rw[wN hc,I.len]
 have uU:(aD m c).2.1<=c:=Ko
 have t_:=I.len
 rw[qp]at lm
 rw[bl]
 refine bL [(6,6),(19,33)] (fun e r st=>e=.exit 0/\ax n st.w=[]/\ab H n st.h st.n/\st.n=n2/\st.h.get P=some (.cells (dI (nS (aD m c).2.2 c fun j=>decide (j∈(aD m c).2.2))) 3 true)) (fun i r st=>ax n st.w=[]/\ab H n st.h st.n/\st.n=n2/\∃t,t+i=(aD m c).2.2.length/\r.get 6=some (.int .i64 t)/\st.h.get P=some (.cells (dI (nS (aD m c).2.2 c fun j=>decide (j∈(aD m c).2.2.take t))) 3 true)) (aD m c).2.2.length ?_ ?_ ?_
 ·exact⟨tW,kk,rfl,0,by omega,a6,by simpa using gP⟩
 ·rintro i r ⟨H1,n1,W⟩ hr hf ⟨hW,k1,rfl,t,ht,h6,g1⟩
  simp only at hW k1 g1 hP2
  rw[bl]
  cases i with
  |zero=>
   obtain rfl:t=(aD m c).2.2.length:=by omega
   rw[fe (aM _)]at g1
   simp[A.qI,hr,hf,a3,h6,lm,hW,k1]
   exact g1
  |succ i=>
   have ay:t<(aD m c).2.2.length:=by omega
   have bb:(t:Int)<((aD m c).2.2.length:Int):=by omega
   obtain⟨row,aq⟩:=bk (l:=aU m c) (k:=t) (by omega)
   obtain⟨p,hp,KM,Vo,hpx⟩:=Ydu hc aq
   have Vp:(p:Int)<(c:Int):=by omega
   obtain⟨i1,o1,c1,e1,w1,x,q1,q2,q3,q4,q5⟩:=(sm.ae k1).at aq
   have II:=uV hc row (cG aq)
   have pN:=fun w=>Zx2 (w:=w) q5 (by omega)
   rw[Vo]at pN
   have nV:=Yon (ps:=(aD m c).2.2) (p:=fun j=>decide (j∈(aD m c).2.2.take t)) (q:=fun j=>decide (j∈(aD m c).2.2.take (t+1))) (fun j _=>Zr3 hp) KM
   rw[hpx]at nV
   have nW:=zL (l:=nS (aD m c).2.2 c fun j=>decide (j∈(aD m c).2.2.take t)) (k:=p) (v:=(t:Int)+1) (by rw[KK];exact KM)
   rw[<-nV]at nW
   have gw:p+1<=(dI (nS (aD m c).2.2 c fun j=>decide (j∈(aD m c).2.2.take t))).length:=by rw[fZ,KK];exact KM
   generalize dI (nS (aD m c).2.2 c fun j=>decide (j∈(aD m c).2.2.take t))=X at*
   simp(disch:=first|(simp;done)|omega|rfl) [A.qI,hr,hf,a3,a5,h6,lm,ay,bb,q1,q2,q3,q4,pN,KM,Vp,bC,g1,hP2,gw,nW]
   exact⟨i,by omega,by rw[ak (by omega)];exact hW,k1.set hP,t+1,by omega,by simp,rfl⟩
 ·rintro _ r ⟨H1,n1,W⟩ hr ⟨rfl,hw,k1,rfl,g1⟩
  simp only at hw k1 g1
  simp[]
  exact⟨hw,k1,g1,hr,rfl,rfl⟩
def Ydp{H:T O}{n B P R k c K:Nat}{W0:List Nat}{r0:T V}{rv:V}{ps:List Nat}(sm:iw H n rv m)(hl:m.length=ps.length)(hc:bg m c)(hk:k<c)(cN:c<1000)(gw:ps.length<1000)(hq:cB m K)(hK:K<=400000000)(hi:∀p,p∈ps->ps.idxOf p<ps.length)(hkp:k∉ps)(gP:H.get P=some (.cells (dI (nS ps c fun j=>decide (j∈ps))) 3 true))(PG:P<n)(PF:n<=R)(hBR:B<=R){H2:T O}{n2:Nat}(kk:ab H n H2 n2)(s:Ba H2 n2 R (oT m ps c k fun _=>false))(tW:ax B W0=[])(a3:r0.get 3=some rv)(a4:r0.get 4=some (.int .i64 c))(a5:r0.get 5=some (.slice P 0 c (some c) 1))(a8:r0.get 8=some (.int .i64 k))(a9:r0.get 9=some (.slice R 0 c none 1))(Cb:r0.get 10=some (.int .i64 0)):
  Code A.C none (.loop A.nT) ⟨r0,80,[]⟩ ⟨H2,n2,W0⟩ (fun e fr st=>e=.exit 4/\ax B st.w=[]/\eE (fun i=>i=R) H2 n2 st.h st.n/\Ba st.h st.n R (ye m ps c k)/\∃r,Fx [(10,10),(49,73)] r0 80 ⟨r,80,[]⟩/\fr=⟨r,80,[]⟩):=by
 have lm:=sm.len
 rw[bl]
 refine bL [(10,10),(49,73)] (fun e r st=>e=.exit 4/\ax B st.w=[]/\eE (fun i=>i=R) H2 n2 st.h st.n/\Ba st.h st.n R (ye m ps c k)) (fun i r st=>ax B st.w=[]/\eE (fun i=>i=R) H2 n2 st.h st.n/\∃t,t+i=c/\r.get 10=some (.int .i64 t)/\Ba st.h st.n R (oT m ps c k fun j=>decide (j∈ps)&&decide (j<t))) c ?_ ?_ ?_
 ·exact⟨tW,eE.refl,0,by omega,Cb,by simpa using s⟩
 ·rintro i r ⟨H1,n1,W⟩ hr hf ⟨hW,U1,t,ht,fF,s1⟩
  simp only at hW U1 s1
  have k1:ab H n H1 n1:=kk.then (U1.keeps kk.le fun i hi=>by omega)
  have sJ:=k1.le
  rw[bl]
  cases i with
  |zero=>
   obtain rfl:t=c:=by omega
   rw[Zty (q:=fun j=>decide (j∈ps)) (fun j hj=>by simp[hj]),Ypu]at s1
   simp[A.nT,hr,hf,a4,fF,hW,U1]
   exact s1
  |succ i=>
   have ay:t<c:=by omega
   have bb:(t:Int)<(c:Int):=by omega
   have IJ:=(k1.get P PG).trans gP
   have IK:P<n1:=by omega
   have hg:=fS (l:=nS ps c fun j=>decide (j∈ps)) (j:=t) (KL ay)
   by_cases hm:t∈ps
   ·simp only[hm,decide_true,if_true]at hg
    have hix:=hi t hm
    have Vq:t≠k:=fun hc=>hkp (hc▸hm)
    obtain⟨row,aq⟩:=bk (l:=m) (k:=ps.idxOf t) (by omega)
    have qp:=hc row (cG aq)
    obtain⟨q,jo⟩:=bk (l:=row) (k:=k) (by omega)
    obtain⟨i2,o2,c2,e2,w2,u,q1,q2,q3,q4,q5⟩:=(sm.ae k1).at aq
    obtain⟨i3,o3,c3,e3,w3,x1,x2,x3,x4⟩:=q5.at (xV jo)
    have sZ:=q5.len
    have bM:(k:Int)<(row.length:Int):=by omega
    have er:k<row.length:=by omega
    have iU:=hq row (cG aq) q (cG jo)
    have aW:=fun st=>Yel (q:=q) (st:=st) (PC iU (by omega))
    have Vr:((ps.idxOf t:Nat):Int)<(m.length:Int):=by omega
    have Vs:ps.idxOf t<m.length:=by omega
    have Bb:(0:Int)<((ps.idxOf t:Nat):Int)+1:=by omega
    have FL:((ps.idxOf t:Nat):Int)+1-1=((ps.idxOf t:Nat):Int):=by omega
    have zM:az m (ps.idxOf t) k=q:=by unfold az;rw[aq];simp[jo]
    obtain⟨y1,y2⟩:=s1.put (j:=t) (q:= -q) (by rw[IL];exact ay)
    have nV:=Ypt (m:=m) (ps:=ps) (k:=k) (p:=fun j=>decide (j∈ps)&&decide (j<t)) (q:=fun j=>decide (j∈ps)&&decide (j<t+1)) ay Vq (fun j _=>by
     by_cases e:j=t
     ·subst e;simp[hm]
     ·have:(j<t+1)=(j<t):=by apply propext;omega
      simp[e,this])
    rw[zM]at nV
    rw[<-nV]at y1 y2
    have gR:=s1.get
    have lR:=s1.lt
    have yf:t+1<=(tx (oT m ps c k fun j=>decide (j∈ps)&&decide (j<t))).length:=by rw[kp,IL];exact ay
    generalize hX:tx (oT m ps c k fun j=>decide (j∈ps)&&decide (j<t))=X at*
    generalize hD:dI (nS ps c fun j=>decide (j∈ps))=D at*
    simp(disch:=first|(simp;done)|omega|rfl) [A.nT,hr,hf,a3,a4,a5,a8,a9,fF,ay,bb,IJ,IK,hg,Bb,FL,lm,Vr,Vs,q1,q2,q3,q4,x1,x2,x3,x4,kp,sZ,bM,er,aW,bC,gR,lR,yf,y1]
    exact⟨i,by omega,by rw[ak (by omega)];exact hW,U1.set (.inl rfl),t+1,by omega,by simp,y2⟩
   ·simp only[hm,decide_false,fH,if_false]at hg
    have dP:oT m ps c k (fun j=>decide (j∈ps)&&decide (j<t+1))=oT m ps c k (fun j=>decide (j∈ps)&&decide (j<t)):=Zty fun j _=>by
     by_cases e:j=t
     ·subst e;simp[hm]
     ·have:(j<t+1)=(j<t):=by apply propext;omega
      simp[this]
    generalize hD:dI (nS ps c fun j=>decide (j∈ps))=D at*
    simp(disch:=first|(simp;done)|omega|rfl) [A.nT,hr,hf,a3,a4,a5,a8,a9,fF,ay,bb,IJ,IK,hg,hW,U1]
    exact⟨i,by omega,t+1,by omega,by simp,by rw[dP];exact s1⟩
 ·rintro _ r ⟨H1,n1,W⟩ hr ⟨rfl,hw,U1,s1⟩
  simp only at hw U1 s1
  simp[]
  exact⟨hw,U1,s1,hr,rfl,rfl⟩
def KN{N i:Nat}:∀{w:List Nat},i∈w->i<N->i∈ax N w
 |[],h,_=>by cases h
 |j::w,h,hi=>by
  simp only[ax]
  rcases kW.1 h with rfl|h
  ·rw[av hi]
   unfold uW
   split
   ·simp_all
   ·exact ph
  ·split
   ·unfold uW
    split
    ·exact KN h hi
    ·exact oU _ (KN h hi)
   ·exact KN h hi
def Zya{B:Nat}{w w':List Nat}(h:ax N w'=ax N w)(hw:ax B w=[])(hB:B<=N):ax B w'=[]:=yD fun i hi=>by
 by_cases e:i<N
 ·have:=KN hi e
  rw[h]at this
  exact DH hw i (Bc this).1
 ·omega
def Yd0{h:T O}{c:Nat}{u:V}(hu:iw h N u m)(hc:bg m c)(mw:m.length<=6)(ix:0<m.length)(fy:0<c)(cN:c<=6)(hq:cB m 96):Fn A.C 55 [u] h N (fun x h' n'=>iw h' n' x (bp m c)):=by
 intro w
 have lu:=hu.len
 have ya:(0:Int)<(m.length:Int):=by omega
 obtain⟨l0,gb⟩:=bk ix
 have I:=@nU m c hc c
 have uU:(aD m c).2.1<=c:=Ko
 have qp:(aU m c).length=(aD m c).2.2.length:=by rw[wN hc,I.len]
 have t_:=I.len
 have IG:∀p,p∈(aD m c).2.2->(aD m c).2.2.idxOf p<(aD m c).2.2.length:=fun p hp=>List.idxOf_lt_length_iff.2 hp
 have c1:(8:Int)*(c:Int)<=140737488355328:=by omega
 have c2:(c:Int)<4611686018427387904:=by omega
 rw[aR,A.k55 (by simp)]
 simp[A.b55]
 refine aA (Vm (B:=kB 96) hu hc (by omega) ix (by omega) (fun _=>Iz (by decide)) (fun _=>PD hq (by decide)) fun n h1 h2=>Ytg (by omega)) ?_
 rintro rv H1 n1 k1 yN
 have sJ:=k1.le
 obtain⟨i2,o2,cc2,e2,w2,y,q1,q2,q3,q4,q5⟩:=(hu.ae k1).at gb
 rw[kv]at q4
 have ly:=q5.len
 rw[hc l0 (cG gb)]at ly
 have pP:cU [V.int .i64 0] c=dI (nS (aD m c).2.2 c fun _=>false):=by
  rw[PJ]
  simp only[nS,dI,List.map_map,Function.comp_def,fH,if_false]
  rw[List.map_const',List.length_range]
 have kB:ab H1 n1 (H1.set n1 (.cells (cU [.int .i64 0] c) 3 true)) (n1+1):=ab.refl.new _
 have gB:(H1.set n1 (.cells (cU [.int .i64 0] c) 3 true)).get n1=some (.cells (dI (nS (aD m c).2.2 c fun _=>false)) 3 true):=by rw[T.ag,av rfl,pP]
 simp[lu,ix,ya,q1,q2,q3,q4,ly,c1,c2]
 generalize H1.set n1 (.cells (cU [.int .i64 0] c) 3 true)=G at*
 refine jy (Ydn (P:=n1) yN hc (by omega) (by omega) (aM _) (by omega) kB gB (by simp[yD]) (by simp) (by simp) (by simp)) ?_
 rintro _ _ ⟨H2,n2,W2⟩ ⟨rfl,eH,k2,eM,gP,r2,f2,rfl⟩
 simp only at eH k2 gP eM
 subst eM
 have cZ:=f2.dN
 have Vt:=yN.ae k2
 simp[cZ]
 refine bL [(7,10),(34,77)] (fun e r st=>e=.exit 2/\ax n1 st.w=[]/\ab H2 (n1+1) st.h st.n/\∃v,r.get 7=some v/\ka (n1+1) st.h st.n v (l9 m c)) (fun i r st=>ax n1 st.w=[]/\ab H2 (n1+1) st.h st.n/\∃k v,k<=c/\i=c-k/\r.get 8=some (.int .i64 k)/\r.get 7=some v/\ka (n1+1) st.h st.n v ((pq (aD m c).2.2 k).map (ye (aU m c) (aD m c).2.2 c))) c ?_ ?_ ?_
 ·exact⟨eH,ab.refl,0,_,by omega,by omega,by simp,by simp,ka.nil⟩
 ·rintro i r ⟨H,n,W⟩ hr hf ⟨hW,hK,k,v,hk,rfl,h8,h7,hO⟩
  simp only at hW hK hO
  rw[bl]
  have ln:=hK.le
  by_cases ay:k<c
  ·have bb:(k:Int)<(c:Int):=by omega
   have IJ:=(hK.get n1 (by omega)).trans gP
   have IK:n1<n:=by omega
   have hg:=fS (l:=nS (aD m c).2.2 c fun j=>decide (j∈(aD m c).2.2)) (j:=k) (KL ay)
   have wS:=Yf0 (ps:=(aD m c).2.2) (k:=k)
   by_cases hm:k∈(aD m c).2.2
   ·have hb:(aD m c).2.2.contains k=true:=by simpa using hm
    simp only[hm,decide_true,if_true]at hg
    rw[hb,av rfl,wU]at wS
    have Bb:(0:Int)<(((aD m c).2.2.idxOf k:Nat):Int)+1:=by omega
    generalize dI (nS (aD m c).2.2 c fun j=>decide (j∈(aD m c).2.2))=D at*
    simp(disch:=first|(simp;done)|omega|rfl) [A.qF,hr,cZ,hf,h7,h8,ay,bb,IJ,IK,hg,Bb,hW,hK]
    exact⟨c-(k+1),by omega,k+1,by omega,rfl,by simp,by rw[wS];exact hO⟩
   ·have hb:(aD m c).2.2.contains k=false:=by simpa using hm
    simp only[hm,decide_false,fH,if_false]at hg
    rw[hb,ak (by decide)]at wS
    generalize hD:dI (nS (aD m c).2.2 c fun j=>decide (j∈(aD m c).2.2))=D at*
    simp[A.qF,hr,cZ,hf,h7,h8,ay,bb,IJ,IK,hg]
    subst hD
    refine aA (Vn fy (by omega)) ?_
    rintro _ H3 n3 k3 ⟨R,rfl,hR,s3⟩
    have B3:=k3.le
    have t1:aS ((1:Int):Rat)=[49]:=Kv
    obtain⟨y1,y2⟩:=s3.put (j:=k) (q:=((1:Int):Rat)) (by simp;exact ay)
    rw[Yj1 (m:=aU m c) (ps:=(aD m c).2.2) ay]at y1 y2
    rw[t1]at y1
    have gR:=s3.get
    have lR:=s3.lt
    have yf:k+1<=(tx ((List.range c).map fun _=>(0:Rat))).length:=by rw[kp];simp;exact ay
    generalize tx ((List.range c).map fun _=>(0:Rat))=X at*
    simp[hr,cZ,hf,h7,h8,ay,bb,bC,gR,lR,yf,y1]
    have k4:ab H n (H3.set R (.cells (tx (oT (aU m c) (aD m c).2.2 c k fun _=>false)) 39 true)) n3:=k3.set hR
    generalize H3.set R (.cells (tx (oT (aU m c) (aD m c).2.2 c k fun _=>false)) 39 true)=G4 at*
    refine jy (Ydp (H:=H) (n:=n) (P:=n1) (R:=R) (K:=400000000) (Vt.ae hK) qp (uV hc) ay (by omega) (by omega) (Yoh mw hc hq) (aM _) IG hm IJ IK hR (B:=n1) (by omega) k4 y2 (by simp[hW,show ¬R<n1 by omega]) (by simp[hr,cZ]) (by simp[hr,cZ]) (by simp[hr,cZ]) (by simp[h8]) (by simp) (by simp)) ?_
    rintro _ _ ⟨H5,n5,W5⟩ ⟨rfl,hW5,U5,s5,r5,f5,rfl⟩
    simp only at hW5 U5 s5
    have IM:=f5.dN
    have hf5:=hf.inner (D':=[(10,10),(49,73)]) (by decide) (fun hx=>by simpa[Fx.set]using hx) IM
    have k5:ab H n H5 n5:=k4.then (U5.keeps k4.le fun i hi=>by omega)
    have Vu:=k5.le
    have fr:=s5.B1
    have PN:(ye (aU m c) (aD m c).2.2 c k).length=c:=by simp[ye]
    rw[PN]at fr
    have qz:ad [V.aa] 0 [.slice R 0 c none 1]=[.slice R 0 c none 1]:=rfl
    have kD:ab H5 n5 (H5.set n5 (.cells [.slice R 0 c none 1] 23 true)) (n5+1):=ab.refl.new _
    have ky:(pq (aD m c).2.2 k).length<=k:=by
     unfold pq
     exact k_ (List.length_filter_le _ _) (by simp)
    obtain⟨v',h',w',j1,j2,j3,j4⟩:=ka.push (N0:=n1+1) (x:=.slice n5 0 1 (some 1) 1) (w:=W5) ((hO.ae k5).ae kD) (tV.ae fr kD) (by omega) (by simp[eL,St.row,aF]) (by rw[dL];omega)
    have kF:ab H2 (n1+1) h' (n5+1+1):=((hK.trans k5).trans kD).then j3
    simp(disch:=first|(simp;done)|omega|rfl) [IM,hf5,hr,cZ,h7,h8,qz,wQ,j1,kF]
    exact⟨c-(k+1),by omega,Zya j2 hW5 (by omega),k+1,by omega,rfl,by simp,by rw[wS,List.map_append];exact j4⟩
  ·obtain rfl:k=c:=by omega
   simp[A.qF,hr,cZ,hf,h7,h8,hW,hK]
   exact hO
 ·rintro _ r ⟨H,n,W⟩ hr ⟨rfl,hW,hK,v,h7,hO⟩
  simp only at hW hK hO
  have le:=hK.le
  have wV:=Vv hc
  have kA:ab h N H n:=(k1.trans k2).trans hK
  cases DQ:l9 m c with
  |nil=>
   rw[DQ]at hO
   obtain⟨us,_,o2,o3,_⟩:=hO
   obtain rfl:v=.aa:=o2 (List.length_eq_zero_iff.1 o3)
   simp[hr,cZ,h7]
   refine aA Zvn ?_
   rintro x H5 n5 k5 hx
   simp[hr,aE]
   refine⟨UJ hW sJ,kA.trans k5,?_⟩
   unfold bp
   rw[DQ,Yog]
   exact hx
  |cons r0 rest=>
   have uX:0<(l9 m c).length:=by rw[DQ];simp
   simp[hr,cZ,h7]
   refine aA (Vm hO.yB DR (by omega) uX (by omega) (fun _=>Iz (Iz (by decide))) (fun _=>PD (Ytb hq (by decide)) (Iz (by decide))) (Ypz hc cN)) ?_
   rintro x H5 n5 k5 hx
   simp[hr,aE]
   exact⟨UJ hW sJ,kA.trans k5,hx⟩
variable {N n:Nat} {h:T O} {u:V}
set_option maxHeartbeats 4000000
def A.Vw:=A.q Tryz.f57
def A.qL:=A.ql A.Vw 1 []
def A.qN:=A.ql A.Vw 0 []
def A.b57:=(fun x0 x1=>A.qb A.Vw [x0,x1]) A.qN A.qL
def A.k57:=@A.kk 57 61 [.tmp 2,.tmp 3] A.b57 (by kernel_rfl) rfl
def Ycl{t:Nat}(h:t<n):((List.range n).map fun _=>(0:Rat)).set t (((1:Int):Rat))=yO n t:=by
 unfold yO
 apply List.ext_getElem (by simp)
 intro i h1 h2
 simp only[wM,dL,List.length_range]at h1
 by_cases e:i=t
 ·subst e
  simp
 ·rw[List.getElem_set_ne (Ne.symm e)]
  simp[e]
def Yre{H:T O}{l:List V}{w:List Nat}(hs:Sl H n u l)(h0:0<l.length)(hl:l.length<100000):fY ⟨H.set n (.cells [] 39 true),n+1,w⟩ 1 16 39 (.slice n 0 0 (some 0) 1) u=some (.slice (n+1) 0 l.length none 1,⟨(H.set n (.cells [] 39 true)).set (n+1) (.cells l 39 true),n+1+1,w⟩):=by
 have kN:ab H n (H.set n (.cells [] 39 true)) (n+1):=ab.refl.new _
 have l7:=IH (w:=w) ((Sn.one.2 hs).ae kN)
 rw[dL,KJ]at l7
 have hg:(H.set n (.cells [] 39 true)).get n=some (.cells [] 39 true):=by simp
 have aW:l.length≠0:=by omega
 simp only[fY,l7,tZ,St.row,hg,aF,St.alloc]
 simp[aW]
 omega
def Yi7{N0:Nat}{v:V}{a b:List Rat}{w:List Nat}(s:Own 1 39 N0 h N v ((tx a).map fun y=>[y]))(ha:0<a.length)(hu:Tx h N u b)(h0:0<b.length)(hN:N0<=N)(hl:a.length+b.length<100000):
  ∃v' h' w',fY ⟨h,N,w⟩ 1 16 39 v u=some (v',⟨h',N+1,w'⟩)/\ax N0 w'=ax N0 w/\ab h N0 h' (N+1)/\tV h' (N+1) v' (a++b):=by
 have la:((tx a).map fun y=>[y]).length=a.length:=by rw[dL,kp]
 have lb:((tx b).map fun y=>[y]).length=b.length:=by rw[dL,kp]
 obtain⟨v',h',w',f1,f2,f3,_,_,f5⟩:=Vj (Y:=fun _=>True) (xs:=(tx b).map fun y=>[y]) (u:=u) (bytes:=16) (w:=w) s (fun hc=>by rw[hc]at la;simp at la;omega) (fun _ _ _ _=>trivial) hN (by decide) (fun x hx=>by obtain⟨y,_,rfl⟩:=dt.1 hx;rfl) (by rw[lb];exact h0) (by
  have:=IH (w:=w) (Sn.one.2 hu)
  exact this) (by rw[la,lb];omega)
 refine⟨v',h',w',f1,f2,f3,xZ (N0:=N0) ?_⟩
 rw[<-List.map_append]at f5
 have:tx (a++b)=tx a++tx b:=by simp[tx,strs]
 rw[this]
 exact f5
def Yj8{H0:T O}{G:List (List Rat)}{W0:List Nat}{r0:T V}(hu:iw H0 N u G)(hG:bg G n)(hl:G.length=n)(h0:0<n)(hn:n<100)(tW:ax N W0=[])(a0:r0.get 0=some u)(a4:r0.get 4=some (.int .i64 n))(a5:r0.get 5=some .aa)(a6:r0.get 6=some (.int .i64 0)):
  Code A.C none (.loop A.qN) ⟨r0,61,[]⟩ ⟨H0,N,W0⟩ (fun e fr st=>e=.exit 0/\ax N st.w=[]/\ab H0 N st.h st.n/\∃r v,Fx [(5,7),(12,32)] r0 61 ⟨r,61,[]⟩/\fr=⟨r,61,[]⟩/\r.get 5=some v/\ka N st.h st.n v (cH G (fJ n))):=by
 rw[bl]
 have lW:∀t,t<=n->((cH G (fJ n)).take t).length=t:=fun t ht=>by rw[gD,sL];omega
 refine bL [(5,7),(12,32)] (fun e r st=>e=.exit 0/\ax N st.w=[]/\ab H0 N st.h st.n/\∃v,r.get 5=some v/\ka N st.h st.n v (cH G (fJ n))) (fun i r st=>ax N st.w=[]/\ab H0 N st.h st.n/\∃t v,t+i=n/\r.get 6=some (.int .i64 t)/\r.get 5=some v/\ka N st.h st.n v ((cH G (fJ n)).take t)) n ?_ ?_ ?_
 ·exact⟨tW,ab.refl,0,.aa,by omega,a6,a5,ka.nil⟩
 ·rintro i r ⟨H,m,W⟩ hr hf ⟨hW,hK,t,v,ht,h6,h5,hO⟩
  simp only at hW hK hO
  rw[bl]
  have lm:=hK.le
  cases i with
  |zero=>
   obtain rfl:t=n:=by omega
   rw[fe (by rw[sL];omega)]at hO
   simp[A.qN,hr,hf,a4,h6,h5,hW,hK]
   exact hO
  |succ i=>
   have ay:t<n:=by omega
   have bb:(t:Int)<(n:Int):=by omega
   obtain⟨ga,FM⟩:=bk (l:=G) (k:=t) (by omega)
   have PO:=hG ga (cG FM)
   simp[A.qN,hr,hf,a0,a4,h6,h5,ay,bb]
   refine aA (Vn h0 (by omega)) ?_
   rintro _ H2 n2 k2 ⟨R,rfl,hR,s2⟩
   have kX:=k2.le
   have lR:=s2.lt
   have gR:=s2.get
   have t1:aS ((1:Int):Rat)=[49]:=Kv
   obtain⟨y1,y2⟩:=s2.put (j:=t) (q:=((1:Int):Rat)) (by simp;exact ay)
   rw[t1,Ycl ay]at y1
   rw[Ycl ay]at y2
   have yf:t+1<=(tx ((List.range n).map fun _=>(0:Rat))).length:=by rw[kp];simp;omega
   generalize tx ((List.range n).map fun _=>(0:Rat))=X at*
   have kG:ab H m (H2.set R (.cells (tx (yO n t)) 39 true)) n2:=k2.set hR
   obtain⟨i1,o1,c1,e1,w1,x,q1,q2,q3,q4,q5⟩:=(hu.ae (hK.trans kG)).at FM
   have lu:=hu.len
   rw[hl]at lu
   have lq:i1<n2:=by omega
   have d0:¬i1=n2:=by omega
   have lx:(tx ga).length=n:=by rw[kp,PO]
   have Vx:(yO n t).length=n:=Ycm
   generalize hG1:H2.set R (.cells (tx (yO n t)) 39 true)=G1 at*
   have ha1:=Yre (w:=R::W) q5 (by rw[lx];exact h0) (by rw[lx];omega)
   rw[lx]at ha1
   have kE:ab G1 n2 ((G1.set n2 (.cells [] 39 true)).set (n2+1) (.cells (tx ga) 39 true)) (n2+1+1):=(ab.refl.new _).new _
   have oE:Own 1 39 (n2+1) ((G1.set n2 (.cells [] 39 true)).set (n2+1) (.cells (tx ga) 39 true)) (n2+1+1) (.slice (n2+1) 0 n none 1) ((tx ga).map fun y=>[y]):=⟨fun y hy=>by obtain⟨z,_,rfl⟩:=dt.1 hy;rfl,.inr ⟨n2+1,by rw[dL,lx],by omega,by omega,by rw[T.ag,av rfl,KJ]⟩⟩
   have y3:=y2.B1.1.ae kE
   generalize hE:(G1.set n2 (.cells [] 39 true)).set (n2+1) (.cells (tx ga) 39 true)=E at*
   rw[Vx]at y3
   obtain⟨z,h3,w3,j1,j2,j3,j4⟩:=Yi7 (w:=R::W) oE (by rw[PO];exact h0) y3 (by rw[Vx];exact h0) (by omega) (by rw[PO,Vx];omega)
   have k3:ab H m h3 (n2+1+1+1):=⟨by have:=kG.le;omega,fun i hi=>(j3.get i (by have:=kG.le;omega)).trans ((kG.trans kE).get i hi)⟩
   obtain⟨f1,f2⟩:V.one z=true/\V.cells z=[z]:=⟨Sl.uK j4.1,Sl.iW j4.1⟩
   have qz:ad [V.aa] 0 [z]=[z]:=rfl
   have kD:ab h3 (n2+1+1+1) (h3.set (n2+1+1+1) (.cells [z] 23 true)) (n2+1+1+1+1):=ab.refl.new _
   obtain⟨v',h',w',p1,p2,p3,p4⟩:=ka.push (N0:=N) (x:=.slice (n2+1+1+1) 0 1 (some 1) 1) (w:=w3) ((hO.ae k3).ae kD) (j4.ae kD) (by omega) (by simp[eL,St.row,aF]) (by rw[lW t (by omega)];omega)
   have hw3:ax N w3=[]:=yD fun i hi=>by
    by_cases e:i<n2+1
    ·have:=KN hi e
     rw[j2]at this
     rcases kW.1 (Bc this).1 with rfl|h
     ·omega
     ·exact DH hW i h
    ·omega
   simp[hr,hf,a0,a4,h6,h5,ay,bb,bC,gR,lR,yf,y1,lu,q1,q3,q4,d0,hG1]
   simp(disch:=first|(simp;done)|omega|rfl) [-V.cells, -V.one,hr,hf,h6,h5,hE,wQ,ha1,j1,p1,f1,f2,qz]
   refine⟨i,by omega,by rw[p2];exact hw3,((hK.trans k3).trans kD).then p3,t+1,by omega,by simp,?_⟩
   rw[uJ,Vy (by omega),FM,Ytj ay]
   exact p4
 ·rintro _ r ⟨H,m,W⟩ hr ⟨rfl,hW,hK,v,h5,hO⟩
  simp only at hW hK hO
  simp[]
  exact⟨hW,hK,r,⟨hr,rfl,rfl⟩,rfl,v,h5,hO⟩
def Sl.low{M:Nat}{v:V}{l:List V}(s:Sl h N v l)(hm:∀i∈dh v,i<M):Sl h M v l:=by
 rcases s with s|⟨i,o,cp,c,e,rw,rfl,_,q⟩
 ·exact .inl s
 ·exact .inr ⟨i,o,cp,c,e,rw,rfl,hm i (by simp[dh]),q⟩
def Yod{B:Nat->Nat}{G:List (List Rat)}(hu:iw h N u G)(hG:bg G n)(hl:G.length=n)(h0:0<n)(hn:n<100)(x_:∀i,1<=B i)(Vz:∀k,cB (aD (cH G (fJ n)) k).1 (B (aD (cH G (fJ n)) k).2.1))(hB:∀i,i<n->3*B i<=400000000):Fn A.C 57 [u] h N (fun x h' n'=>(pr G n=none/\x=.aX [.aa,.bool false])\/∃H y,pr G n=some H/\x=.aX [y,.bool true]/\iw h' n' y H):=by
 intro w
 have lu:=hu.len
 have hW:=uY hG (IN (n:=n)) (by rw[IP,hl];exact aM _)
 have I:=nU hW (n:=n+n)
 have hle:=(mB hW (n:=n+n)).2
 rw[sL,hl]at hle
 have qp:=wN (n:=n+n) hW
 rw[aR,A.k57 (by simp)]
 simp[A.b57,lu,hl]
 refine jy (Yj8 hu hG hl h0 hn (by simp[yD]) (by simp) (by simp) (by simp) (by simp)) ?_
 rintro _ _ ⟨H1,n1,W1⟩ ⟨rfl,DS,k1,r,v,f1,rfl,h5,hO⟩
 simp only at DS k1 hO
 have mG:=f1.dN
 have sJ:=k1.le
 simp[mG,h5]
 refine aA (Vm (c:=n+n) hO.yB hW (by rw[sL];omega) (by rw[sL];omega) (by omega) x_ Vz fun i hi _=>hB i (by rw[sL]at hi;omega)) ?_
 rintro x2 H2 n2 k2 yP
 have kX:=k2.le
 have lx:=yP.len
 rw[qp]at lx
 by_cases c1:(aD (cH G (fJ n)) (n+n)).2.1<n
 ·have c1':((aD (cH G (fJ n)) (n+n)).2.1:Int)<(n:Int):=by omega
  have hs:pr G n=none:=by unfold pr;rw[ak (fun h=>by omega)]
  simp[mG,lx,c1,c1',aE,DS,ct.cv]
  exact⟨k1.trans k2,hs⟩
 ·have hd:(aD (cH G (fJ n)) (n+n)).2.1=n:=by omega
  rw[hd]at lx qp
  have hm:((aU (cH G (fJ n)) (n+n)).map (List.drop n)).length=n:=by rw[dL,qp]
  simp[mG,lx,hd,show ¬n<n from Nat.lt_irrefl n,show ¬(n:Int)<(n:Int) by omega]
  refine bL [(2,3),(8,9),(39,59)] (fun e r st=>ax N st.w=[]/\ab H2 n2 st.h st.n/\((e=.exit 2/\(∀i,i<n->(aD (cH G (fJ n)) (n+n)).2.2[i]?.getD 0=i)/\∃v,r.get 8=some v/\wJ n2 st.h st.n v ((aU (cH G (fJ n)) (n+n)).map (List.drop n)))\/(e=.ret/\(∃i,i<n/\(aD (cH G (fJ n)) (n+n)).2.2[i]?.getD 0≠i)/\r.get 2=some .aa/\r.get 3=some (.bool false)))) (fun i r st=>ax N st.w=[]/\ab H2 n2 st.h st.n/\∃t v,t+i=n/\r.get 9=some (.int .i64 t)/\r.get 8=some v/\wJ n2 st.h st.n v (((aU (cH G (fJ n)) (n+n)).map (List.drop n)).take t)/\∀i,i<t->(aD (cH G (fJ n)) (n+n)).2.2[i]?.getD 0=i) n ?_ ?_ ?_
  ·exact⟨by simpa using DS,ab.refl,0,.aa,by omega,by simp,by simp,wJ.nil,fun i hi=>absurd hi (Nat.not_lt_zero i)⟩
  ·rintro i r' ⟨H,m,W⟩ kb zN ⟨qO,hK,t,v2,ht,h9,h8,hR,hp⟩
   simp only at qO hK hR
   rw[bl]
   have lm:=hK.le
   cases i with
   |zero=>
    obtain rfl:t=n:=by omega
    rw[fe (by rw[hm];exact aM _)]at hR
    simp[A.qL,kb,zN,h9,h8,mG,qO,hK]
    exact⟨hp,hR⟩
   |succ i=>
    have ay:t<n:=by omega
    have bb:(t:Int)<(n:Int):=by omega
    obtain⟨row,aq⟩:=bk (l:=aU (cH G (fJ n)) (n+n)) (k:=t) (by omega)
    obtain⟨p,VA,KM,Vo,_⟩:=Ydu hW aq
    have Cc:=uV hW row (cG aq)
    obtain⟨i0,o0,c0,e0,w0,x0,z1,z2,z3,z4,z5⟩:=yP.at aq
    obtain⟨i1,o1,cc,e1,w1,x,q1,q2,q3,q4,q5⟩:=(yP.ae hK).at aq
    have pN:=fun w=>Zx2 (w:=w) q5 (by omega)
    rw[Vo]at pN
    have pw:(aD (cH G (fJ n)) (n+n)).2.2[t]?.getD 0=p:=by rw[VA];rfl
    by_cases cp:p=t
    ·subst cp
     have hxx:x0=x:=by
      rw[q1]at z1
      simp only[al,bu]at z1
      obtain⟨rfl,rfl⟩:=z1
      have:=(hK.get i1 z2).trans z3
      rw[q3]at this
      simp only[al,O.cells.injEq]at this
      obtain⟨rfl,_⟩:=this
      rw[q4]at z4
      exact(oV z4).symm
     subst hxx
     obtain⟨s',e1',PQ⟩:=DO (w:=W) q5 (lo:=n) (hi:=n+n) (by omega) (by rw[kp,Cc];exact aM _) (some (.int .i64 n)) none (.inl rfl) (.inr ⟨rfl,by rw[kp,Cc]⟩)
     have etx:((tx row).take (n+n)).drop n=tx (row.drop n):=by
      rw[fe (by rw[kp,Cc];exact aM _)]
      simp[tx,strs,List.map_drop]
     rw[etx]at PQ
     have lo2:Sl H n2 s' (tx (row.drop n)):=PQ.low fun j hj=>by
      rcases z5 with⟨hc,_⟩|⟨i',o',cp',c',e',pO,rfl,iB,_⟩
      ·have:=congrArg List.length hc
       rw[kp,Cc]at this
       simp at this
       omega
      ·rw[Zqe e1' j hj]
       exact iB
     obtain⟨KO,PR⟩:V.one s'=true/\V.cells s'=[s']:=⟨Sl.uK PQ,Sl.iW PQ⟩
     have qz:ad [V.aa] 0 [s']=[s']:=rfl
     have kD:ab H m (H.set m (.cells [s'] 23 true)) (m+1):=ab.refl.new _
     have kD2:ab H n2 (H.set m (.cells [s'] 23 true)) n2:=⟨aM _,fun j hj=>by rw[T.ag,ak (by omega)]⟩
     have Kz:(((aU (cH G (fJ n)) (n+n)).map (List.drop n)).take p).length<100000:=by rw[gD,hm];omega
     obtain⟨v',h',w',p1,p2,p3,p4⟩:=wJ.push (N0:=n2) (x:=.slice m 0 1 (some 1) 1) (w:=W) (hR.ae kD (by omega)) (lo2.ae kD2) (by omega) (by simp[eL,St.row,aF]) Kz
     simp(disch:=first|(simp;done)|omega|rfl) [-V.cells, -V.one,A.qL,kb,zN,h9,h8,mG,ay,bb,lx,q1,q2,q3,q4,pN,aG,zJ,e1',KO,PR,qz,wQ,p1]
     refine⟨i,by omega,Zya p2 qO (by omega),(hK.trans kD).then p3,p+1,by omega,by simp,?_,fun j hj=>?_⟩
     ·rw[uJ,eY,aq]
      exact p4
     ·by_cases e:j=p
      ·subst e;exact pw
      ·exact hp j (by omega)
    ·have cp':¬(p:Int)=(t:Int):=by omega
     simp[A.qL,kb,zN,h9,h8,mG,ay,bb,lx,q1,q2,q3,q4,pN,aG,cp,cp',qO,hK]
     exact⟨t,ay,by rw[pw];exact cp⟩
  ·rintro _ r' ⟨H,m,W⟩ kb ⟨qO,hK,⟨rfl,hp,v2,h8,hR⟩|⟨rfl,⟨i,hi,IG⟩,h2,h3⟩⟩
   ·simp only at qO hK hR
    have hs:pr G n=some ((aU (cH G (fJ n)) (n+n)).map (List.drop n)):=by unfold pr;rw[av ⟨hd,hp⟩]
    simp[kb,mG,h8,aE,ct.cv]
    exact⟨qO,(k1.trans k2).trans hK,_,hs,hR.yB hK.le⟩
   ·simp only at qO hK
    have hs:pr G n=none:=by unfold pr;rw[ak (fun h=>IG (h.2 i hi))]
    simp[kb,mG,h2,h3,aE,ct.cv]
    exact⟨qO,(k1.trans k2).trans hK,hs⟩
def Yv5{n:Nat}:cB (fJ n) 1:=fun r hr q hq=>by
 obtain⟨i,_,rfl⟩:=dt.1 hr
 obtain⟨j,_,rfl⟩:=dt.1 hq
 split
 ·exact⟨by decide,by decide⟩
 ·exact Qb.zero
def Yth{G H:List (List Rat)}{n Z:Nat}{B:Nat->Nat}(hG:bg G n)(hl:G.length=n)(VB:∀k,cB (aD (cH G (fJ n)) k).1 (B (aD (cH G (fJ n)) k).2.1))(hZ:B n<=Z)(hs:pr G n=some H):cB H Z/\H.length=n/\bg H n:=by
 have hW:=uY hG (IN (n:=n)) (by rw[IP,hl];exact aM _)
 unfold pr at hs
 split at hs
 ·rename_i hc
  obtain rfl:=oV hs
  refine⟨fun r kb q hq=>?_,by rw[dL,wN hW];exact hc.1,fun r kb=>?_⟩
  ·obtain⟨z,hz,rfl⟩:=dt.1 kb
   exact(VB (n+n) z (wW hz) q (IQ hq)).mono (by rw[hc.1];exact hZ)
  ·obtain⟨z,hz,rfl⟩:=dt.1 kb
   rw[uQ,uV hW z hz]
   omega
 ·cases hs
end
end Go.Mx
