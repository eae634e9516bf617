/-
  lensletref05.Blind.
-/
import Derived.Test.YtlbophlgohokkaaGreatDoorSpC
import Derived.Test.YtlbophlgohokkaaGreatDoorEcK
import Derived.Test.YtlbophlgohokkaaGreatDoorCoE
set_option linter.all false
namespace Go.Mx
open Go Go.Proofs
variable {N:Nat} {m:List (List Rat)}
set_option maxHeartbeats 2000000
set_option maxRecDepth 1000000
def A.zbI:aq:=.seq (sr [mv 49 10,mv 50 4,bi 51 .lss 49 50]
 (cd 51
 (.skip)
 (.exit 4)))
 (.seq (.block 5 (sr [mv 54 5,mv 55 10,ia 56 1 54 55,ld 57 56,bc 58 .gtr 57 0]
 (cd 58
 (.aL [mv 59 9,mv 60 10,mv 61 3,mv 62 5,mv 63 10,ia 64 1 62 63,ld 65 64,bc 66 .sub 65 1,ia 67 1 61 66,ld 68 67,mv 69 8,ia 70 1 68 69,ld 71 70,c1 72 130 71,ia 73 1 59 60,so 73 72])
 (.skip))))
 (.aL [mv 52 10,bc 53 .add 52 1,mv 10 53]))
def A.zb9:aq:=.seq (sr [mv 34 8,mv 35 4,bi 36 .lss 34 35]
 (cd 36
 (.skip)
 (.exit 2)))
 (.seq (.block 3 (.seq (sr [mv 39 5,mv 40 8,ia 41 1 39 40,ld 42 41,bc 43 .gtr 42 0]
 (cd 43
 (.exit 3)
 (.skip)))
 (sr [mv 44 4,c1 45 135 44,mv 9 45]
 (sr [mv 46 9,mv 47 8,ia 48 1 46 47,⟨none,.store 1 (.tmp 48) (.const (.str [49])),none⟩]
 (.seq (sr [mc 10 0]
 (.block 4 (.loop A.zbI)))
 (.aL [mv 74 7,mv 75 9,⟨(some 76),.aY 23 1 1 [.aa] [(0,1,(.tmp 75))],none⟩,⟨(some 77),.append 1 24 23 [.aa] (.tmp 74) (.tmp 76),none⟩,mv 7 77]))))))
 (.aL [mv 37 8,bc 38 .add 37 1,mv 8 38]))
def A.zb_:aq:=.seq (sr [mv 19 6,mv 20 3,ln 21 20,bi 22 .lss 19 21]
 (cd 22
 (.skip)
 (.exit 0)))
 (.seq (.block 1 (.aL [mv 25 5,mv 26 3,mv 27 6,ia 28 1 26 27,ld 29 28,c1 30 134 29,mv 31 6,bc 32 .add 31 1,ia 33 1 25 30,so 33 32]))
 (.aL [mv 23 6,bc 24 .add 23 1,mv 6 24]))
def A.b52:aq:=sr [mN 2]
 (sr [mv 11 0,c1 12 45 11,mv 3 12]
 (sr [mv 13 0,⟨(some 14),.aI 1 (.tmp 13) (.const (.int .i64 0)),none⟩,ld 15 14,ln 16 15,mv 4 16]
 (sr [mv 17 4,⟨(some 18),.bD 3 1 8 [(.int .i64 0)] (.tmp 17) (.tmp 17),none⟩,mv 5 18]
 (.seq (sr [mc 6 0]
 (.block 0 (.loop A.zb_)))
 (sr [mN 7]
 (.seq (sr [mc 8 0]
 (.block 2 (.loop A.zb9)))
 (sr [mv 78 7,c1 79 45 78,mv 2 79]
 (.ret))))))))
theorem A.c52:A.F 52=some ⟨80,[.tmp 2],A.b52⟩:=by kernel_rfl
def A.k52:=@A.kk 52 _ _ _ A.c52 rfl
theorem Yaz{H:T O}{n n2 P c:Nat}{H2:T O}{W0:List Nat}{r0:T V}{rv:V}(sm:iO H n rv (gm m c))(hc:ew m c)(oe:m.length<1000)(cr:c<1000)(hP:n<=P)(hP2:P<n2)(kk:ab H n H2 n2)(gP:H2.get P=some (.cells (dI (lB (aU m c).2.2 c fun _=>false)) 3 true))(pA:au n W0=[])(a3:r0.get 3=some rv)(a5:r0.get 5=some (.slice P 0 c (some c) 1))(a6:r0.get 6=some (.int .i64 0)):
  Code A.C none (.loop A.zb_) ⟨r0,80,[]⟩ ⟨H2,n2,W0⟩ (fun e fr st=>e=.exit 0/\au n st.w=[]/\ab H n st.h st.n/\st.n=n2/\st.h.get P=some (.cells (dI (lB (aU m c).2.2 c fun j=>decide (j∈(aU m c).2.2))) 3 true)/\∃r,Fx [(6,6),(19,33)] r0 80 ⟨r,80,[]⟩/\fr=⟨r,80,[]⟩):=by
 have lm:=sm.len
 have I:=@Dy m c hc c
 have mV:(gm m c).length=(aU m c).2.2.length:=by rw[Dx hc,I.len]
 have pL:(aU m c).2.1<=c:=Dt
 have A9:=I.len
 rw[mV]at lm
 rw[bn]
 refine bN [(6,6),(19,33)] (fun e r st=>e=.exit 0/\au n st.w=[]/\ab H n st.h st.n/\st.n=n2/\st.h.get P=some (.cells (dI (lB (aU m c).2.2 c fun j=>decide (j∈(aU m c).2.2))) 3 true)) (fun i r st=>au n st.w=[]/\ab H n st.h st.n/\st.n=n2/\∃t,t+i=(aU m c).2.2.length/\r.get 6=some (.int .i64 t)/\st.h.get P=some (.cells (dI (lB (aU m c).2.2 c fun j=>decide (j∈(aU m c).2.2.take t))) 3 true)) (aU m c).2.2.length ?_ ?_ ?_
 ·exact⟨pA,kk,rfl,0,by omega,a6,by simpa using gP⟩
 ·rintro i r ⟨H1,n1,W⟩ hr hf ⟨hW,k1,rfl,t,ht,h6,g1⟩
  simp only at hW k1 g1 hP2
  rw[bn]
  cases i with
  |zero=>
   obtain rfl:t=(aU m c).2.2.length:=by omega
   rw[fN (aV _)]at g1
   simp[A.zb_,hr,hf,a3,h6,lm,hW,k1]
   exact g1
  |succ i=>
   have aB:t<(aU m c).2.2.length:=by omega
   have bj:(t:Int)<((aU m c).2.2.length:Int):=by omega
   obtain⟨row,aj⟩:=bs (l:=gm m c) (k:=t) (by omega)
   obtain⟨p,hp,Fb,hpf,SB⟩:=TJ hc aj
   have SD:(p:Int)<(c:Int):=by omega
   obtain⟨i1,o1,c1,e1,w1,x,q1,q2,q3,q4,q5⟩:=(sm.ad k1).at aj
   have Er:=DE hc row (cm aj)
   have pz:=fun w=>Yf1 (w:=w) q5 (by omega)
   rw[hpf]at pz
   have kv:=Ykp (ps:=(aU m c).2.2) (p:=fun j=>decide (j∈(aU m c).2.2.take t)) (q:=fun j=>decide (j∈(aU m c).2.2.take (t+1))) (fun j _=>TG hp) Fb
   rw[SB]at kv
   have ks:=uW (l:=lB (aU m c).2.2 c fun j=>decide (j∈(aU m c).2.2.take t)) (k:=p) (v:=(t:Int)+1) (by rw[IZ];exact Fb)
   rw[<-kv]at ks
   have jz:p+1<=(dI (lB (aU m c).2.2 c fun j=>decide (j∈(aU m c).2.2.take t))).length:=by rw[fh,IZ];exact Fb
   generalize dI (lB (aU m c).2.2 c fun j=>decide (j∈(aU m c).2.2.take t))=X at*
   simp(disch:=first|(simp;done)|omega|rfl) [A.zb_,hr,hf,a3,a5,h6,lm,bj,q1,q3,q4,pz,bL,g1,jz,ks]
   exact⟨i,by omega,by rw[ar (by omega)];exact hW,k1.set hP,t+1,by omega,by simp,rfl⟩
 ·rintro _ r ⟨H1,n1,W⟩ hr ⟨rfl,hw,k1,rfl,g1⟩
  simp only at hw k1 g1
  simp[]
  exact⟨hw,k1,g1,hr,rfl,rfl⟩
theorem Ya1{H:T O}{n B P R k c K:Nat}{W0:List Nat}{r0:T V}{rv:V}{ps:List Nat}(sm:iO H n rv m)(hl:m.length=ps.length)(hc:ew m c)(hk:k<c)(cr:c<1000)(jz:ps.length<1000)(hq:e_ m K)(hK:K<=400000)(hi:∀p,p∈ps->ps.idxOf p<ps.length)(IX:k∉ps)(gP:H.get P=some (.cells (dI (lB ps c fun j=>decide (j∈ps))) 3 true))(Ts:P<n)(NA:n<=R)(hBR:B<=R){H2:T O}{n2:Nat}(kk:ab H n H2 n2)(s:ta H2 n2 R (jS m ps c k fun _=>false))(pA:au B W0=[])(a3:r0.get 3=some rv)(a4:r0.get 4=some (.int .i64 c))(a5:r0.get 5=some (.slice P 0 c (some c) 1))(a8:r0.get 8=some (.int .i64 k))(a9:r0.get 9=some (.slice R 0 c none 1))(xK:r0.get 10=some (.int .i64 0)):
  Code A.C none (.loop A.zbI) ⟨r0,80,[]⟩ ⟨H2,n2,W0⟩ (fun e fr st=>e=.exit 4/\au B st.w=[]/\dC (fun i=>i=R) H2 n2 st.h st.n/\ta st.h st.n R (qd m ps c k)/\∃r,Fx [(10,10),(49,73)] r0 80 ⟨r,80,[]⟩/\fr=⟨r,80,[]⟩):=by
 have lm:=sm.len
 rw[bn]
 refine bN [(10,10),(49,73)] (fun e r st=>e=.exit 4/\au B st.w=[]/\dC (fun i=>i=R) H2 n2 st.h st.n/\ta st.h st.n R (qd m ps c k)) (fun i r st=>au B st.w=[]/\dC (fun i=>i=R) H2 n2 st.h st.n/\∃t,t+i=c/\r.get 10=some (.int .i64 t)/\ta st.h st.n R (jS m ps c k fun j=>decide (j∈ps)&&decide (j<t))) c ?_ ?_ ?_
 ·exact⟨pA,dC.refl,0,by omega,xK,by simpa using s⟩
 ·rintro i r ⟨H1,n1,W⟩ hr hf ⟨hW,U1,t,ht,lO,s1⟩
  simp only at hW U1 s1
  have k1:ab H n H1 n1:=kk.then (U1.keeps kk.le fun i hi=>by omega)
  have re:=k1.le
  rw[bn]
  cases i with
  |zero=>
   obtain rfl:t=c:=by omega
   rw[TE (q:=fun j=>decide (j∈ps)) (fun j hj=>by simp[hj]),TD]at s1
   simp[A.zbI,hr,hf,a4,lO,hW,U1]
   exact s1
  |succ i=>
   have aB:t<c:=by omega
   have bj:(t:Int)<(c:Int):=by omega
   have Fe:=(k1.get P Ts).trans gP
   have Zm:P<n1:=by omega
   have hg:=fb (l:=lB ps c fun j=>decide (j∈ps)) (j:=t) (I1 aB)
   by_cases hm:t∈ps
   ·simp only[hm,decide_true,if_true]at hg
    have hix:=hi t hm
    have Su:t≠k:=fun hc=>IX (hc▸hm)
    obtain⟨row,aj⟩:=bs (l:=m) (k:=ps.idxOf t) (by omega)
    have mV:=hc row (cm aj)
    obtain⟨q,gh⟩:=bs (l:=row) (k:=k) (by omega)
    obtain⟨i2,o2,c2,e2,w2,u,q1,q2,q3,q4,q5⟩:=(sm.ad k1).at aj
    obtain⟨i3,o3,c3,e3,w3,x1,x2,x3,x4⟩:=q5.at (wz gh)
    have mW:=q5.len
    have bU:(k:Int)<(row.length:Int):=by omega
    have il:k<row.length:=by omega
    have jm:=hq row (cm aj) q (cm gh)
    have bA:=fun st=>Tj (q:=q) (st:=st) (Nh jm (by omega))
    have zaM:((ps.idxOf t:Nat):Int)<(m.length:Int):=by omega
    have zaN:ps.idxOf t<m.length:=by omega
    have xh:(0:Int)<((ps.idxOf t:Nat):Int)+1:=by omega
    have Cu:((ps.idxOf t:Nat):Int)+1-1=((ps.idxOf t:Nat):Int):=by omega
    have CL:dt m (ps.idxOf t) k=q:=by unfold dt;rw[aj];simp[gh]
    obtain⟨y1,y2⟩:=s1.put (j:=t) (q:= -q) (by rw[Bc];exact aB)
    have kv:=TF (m:=m) (ps:=ps) (k:=k) (p:=fun j=>decide (j∈ps)&&decide (j<t)) (q:=fun j=>decide (j∈ps)&&decide (j<t+1)) aB Su (fun j _=>by
     by_cases e:j=t
     ·subst e;simp[hm]
     ·have:(j<t+1)=(j<t):=by apply propext;omega
      simp[e,this])
    rw[CL]at kv
    rw[<-kv]at y1 y2
    have gR:=s1.get
    have lR:=s1.lt
    have s_:t+1<=(tx (jS m ps c k fun j=>decide (j∈ps)&&decide (j<t))).length:=by rw[tl,Bc];exact aB
    generalize hX:tx (jS m ps c k fun j=>decide (j∈ps)&&decide (j<t))=X at*
    generalize hD:dI (lB ps c fun j=>decide (j∈ps))=D at*
    simp(disch:=first|(simp;done)|omega|rfl) [A.zbI,hr,hf,a3,a4,a5,a8,a9,lO,bj,Fe,hg,xh,Cu,lm,q1,q3,q4,x1,x3,x4,mW,bA,bL,gR,s_,y1]
    exact⟨i,by omega,by rw[ar (by omega)];exact hW,U1.set (.inl rfl),t+1,by omega,by simp,y2⟩
   ·simp only[hm,decide_false,eL,if_false]at hg
    have dB:jS m ps c k (fun j=>decide (j∈ps)&&decide (j<t+1))=jS m ps c k (fun j=>decide (j∈ps)&&decide (j<t)):=TE fun j _=>by
     by_cases e:j=t
     ·subst e;simp[hm]
     ·have:(j<t+1)=(j<t):=by apply propext;omega
      simp[this]
    generalize hD:dI (lB ps c fun j=>decide (j∈ps))=D at*
    simp(disch:=first|(simp;done)|omega|rfl) [A.zbI,hr,hf,a4,a5,lO,bj,Fe,hg,hW,U1]
    exact⟨i,by omega,t+1,by omega,by simp,by rw[dB];exact s1⟩
 ·rintro _ r ⟨H1,n1,W⟩ hr ⟨rfl,hw,U1,s1⟩
  simp only at hw U1 s1
  simp[]
  exact⟨hw,U1,s1,hr,rfl,rfl⟩
theorem LY{N i:Nat}:∀{w:List Nat},i∈w->i<N->i∈au N w
 |[],h,_=>by cases h
 |j::w,h,hi=>by
  simp only[au]
  rcases jN.1 h with rfl|h
  ·rw[aF hi]
   unfold qo
   split
   ·simp_all
   ·exact mS
  ·split
   ·unfold qo
    split
    ·exact LY h hi
    ·exact mr _ (LY h hi)
   ·exact LY h hi
theorem Yge{B:Nat}{w w':List Nat}(h:au N w'=au N w)(hw:au B w=[])(hB:B<=N):au B w'=[]:=Dr fun i hi=>by
 by_cases e:i<N
 ·have:=LY hi e
  rw[h]at this
  exact Jj hw i (Cd this).1
 ·omega
theorem Ybc{h:T O}{c:Nat}{u:V}(hu:iO h N u m)(hc:ew m c)(oe:m.length<=6)(fA:0<m.length)(k_:0<c)(cr:c<=6)(hq:e_ m 96):Fn A.C 52 [u] h N (fun x h' n'=>iO h' n' x (sF m c)):=by
 intro w
 have lu:=hu.len
 have A7:(0:Int)<(m.length:Int):=by omega
 obtain⟨l0,ff⟩:=bs fA
 have I:=@Dy m c hc c
 have pL:(aU m c).2.1<=c:=Dt
 have mV:(gm m c).length=(aU m c).2.2.length:=by rw[Dx hc,I.len]
 have A9:=I.len
 have Ju:∀p,p∈(aU m c).2.2->(aU m c).2.2.idxOf p<(aU m c).2.2.length:=fun p hp=>List.idxOf_lt_length_iff.2 hp
 have c1:(8:Int)*(c:Int)<=140737488355328:=by omega
 have c2:(c:Int)<4611686018427387904:=by omega
 rw[aP,A.k52 (by simp)]
 simp[A.b52]
 refine ax (SG hu hc (by omega) fA (by omega) (by decide) hq fun n h1 h2=>Jk (by omega)) ?_
 rintro rv H1 n1 k1 tW
 have re:=k1.le
 obtain⟨i2,o2,Td,e2,w2,y,q1,q2,q3,q4,q5⟩:=(hu.ad k1).at ff
 rw[jR]at q4
 have ly:=q5.len
 rw[hc l0 (cm ff)]at ly
 have nY:cj [V.int .i64 0] c=dI (lB (aU m c).2.2 c fun _=>false):=by
  rw[Jv]
  simp only[lB,dI,List.map_map,Function.comp_def,eL,if_false]
  rw[List.map_const',List.length_range]
 have kB:ab H1 n1 (H1.set n1 (.cells (cj [.int .i64 0] c) 3 true)) (n1+1):=ab.refl.new _
 have gB:(H1.set n1 (.cells (cj [.int .i64 0] c) 3 true)).get n1=some (.cells (dI (lB (aU m c).2.2 c fun _=>false)) 3 true):=by rw[T.ah,aF rfl,nY]
 simp[lu,fA,q1,q3,q4,ly,c1,c2]
 generalize H1.set n1 (.cells (cj [.int .i64 0] c) 3 true)=G at*
 refine iY (Yaz (P:=n1) tW hc (by omega) (by omega) (aV _) (by omega) kB gB (by simp) (by simp) (by simp) (by simp)) ?_
 rintro _ _ ⟨H2,n2,W2⟩ ⟨rfl,eN,k2,eF,gP,r2,f2,rfl⟩
 simp only at eN k2 gP eF
 subst eF
 have cR:=f2.aL
 have SH:=tW.ad k2
 simp
 refine bN [(7,10),(34,77)] (fun e r st=>e=.exit 2/\au n1 st.w=[]/\ab H2 (n1+1) st.h st.n/\∃v,r.get 7=some v/\n_ (n1+1) st.h st.n v (pE m c)) (fun i r st=>au n1 st.w=[]/\ab H2 (n1+1) st.h st.n/\∃k v,k<=c/\i=c-k/\r.get 8=some (.int .i64 k)/\r.get 7=some v/\n_ (n1+1) st.h st.n v ((ot (aU m c).2.2 k).map (qd (gm m c) (aU m c).2.2 c))) c ?_ ?_ ?_
 ·exact⟨eN,ab.refl,0,_,by omega,by omega,by simp,by simp,n_.nil⟩
 ·rintro i r ⟨H,n,W⟩ hr hf ⟨hW,hK,k,v,hk,rfl,h8,h7,hO⟩
  simp only at hW hK hO
  rw[bn]
  have ln:=hK.le
  by_cases aB:k<c
  ·have bj:(k:Int)<(c:Int):=by omega
   have Fe:=(hK.get n1 (by omega)).trans gP
   have Zm:n1<n:=by omega
   have hg:=fb (l:=lB (aU m c).2.2 c fun j=>decide (j∈(aU m c).2.2)) (j:=k) (I1 aB)
   have nD:=TK (ps:=(aU m c).2.2) (k:=k)
   by_cases hm:k∈(aU m c).2.2
   ·have hb:(aU m c).2.2.contains k=true:=by simpa using hm
    simp only[hm,decide_true,if_true]at hg
    rw[hb,aF rfl,sJ]at nD
    have xh:(0:Int)<(((aU m c).2.2.idxOf k:Nat):Int)+1:=by omega
    generalize dI (lB (aU m c).2.2 c fun j=>decide (j∈(aU m c).2.2))=D at*
    simp(disch:=first|(simp;done)|omega|rfl) [A.zb9,hr,cR,hf,h7,h8,bj,Fe,hg,xh,hW,hK]
    exact⟨c-(k+1),by omega,k+1,by omega,rfl,by simp,by rw[nD];exact hO⟩
   ·have hb:(aU m c).2.2.contains k=false:=by simpa using hm
    simp only[hm,decide_false,eL,if_false]at hg
    rw[hb,ar (by decide)]at nD
    generalize hD:dI (lB (aU m c).2.2 c fun j=>decide (j∈(aU m c).2.2))=D at*
    simp[A.zb9,hr,cR,h8,bj,Fe,hg]
    subst hD
    refine ax (Yau k_ (by omega)) ?_
    rintro _ H3 n3 k3 ⟨R,rfl,hR,s3⟩
    have tg:=k3.le
    have t1:aN ((1:Int):Rat)=[49]:=Jo
    obtain⟨y1,y2⟩:=s3.put (j:=k) (q:=((1:Int):Rat)) (by simp;exact aB)
    rw[Zj (m:=gm m c) (ps:=(aU m c).2.2) aB]at y1 y2
    rw[t1]at y1
    have gR:=s3.get
    have lR:=s3.lt
    have s_:k+1<=(tx ((List.range c).map fun _=>(0:Rat))).length:=by rw[tl];simp;exact aB
    generalize tx ((List.range c).map fun _=>(0:Rat))=X at*
    simp[h8,bj,bL,gR,s_,y1]
    have k4:ab H n (H3.set R (.cells (tx (jS (gm m c) (aU m c).2.2 c k fun _=>false)) 36 true)) n3:=k3.set hR
    generalize H3.set R (.cells (tx (jS (gm m c) (aU m c).2.2 c k fun _=>false)) 36 true)=G4 at*
    refine iY (Ya1 (H:=H) (n:=n) (P:=n1) (R:=R) (K:=400000) (SH.ad hK) mV (DE hc) aB (by omega) (by omega) (Jz oe hc hq) (aV _) Ju hm Fe Zm hR (B:=n1) (by omega) k4 y2 (by simp[hW,show ¬R<n1 by omega]) (by simp[hr,cR]) (by simp[hr,cR]) (by simp[hr,cR]) (by simp[h8]) (by simp) (by simp)) ?_
    rintro _ _ ⟨H5,n5,W5⟩ ⟨rfl,Zn,U5,s5,r5,f5,rfl⟩
    simp only at Zn U5 s5
    have EP:=f5.aL
    have hf5:=hf.inner (D':=[(10,10),(49,73)]) (by decide) (fun hx=>by simpa[Fx.set]using hx) EP
    have k5:ab H n H5 n5:=k4.then (U5.keeps k4.le fun i hi=>by omega)
    have Y3:=k5.le
    have fr:=s5.ux
    have EV:(qd (gm m c) (aU m c).2.2 c k).length=c:=by simp[qd]
    rw[EV]at fr
    have xU:ag [V.aa] 0 [.slice R 0 c none 1]=[.slice R 0 c none 1]:=rfl
    have kD:ab H5 n5 (H5.set n5 (.cells [.slice R 0 c none 1] 23 true)) (n5+1):=ab.refl.new _
    have jv:(ot (aU m c).2.2 k).length<=k:=by
     unfold ot
     exact lS (List.length_filter_le _ _) (by simp)
    obtain⟨v',h',w',j1,j2,j3,j4⟩:=n_.push (N0:=n1+1) (x:=.slice n5 0 1 (some 1) 1) (w:=W5) ((hO.ad k5).ad kD) (pZ.ad fr kD) (by omega) (by simp[ft,St.row,aM]) (by rw[si];omega)
    have kF:ab H2 (n1+1) h' (n5+1+1):=((hK.trans k5).trans kD).then j3
    simp(disch:=first|(simp;done)|omega|rfl) [EP,hf5,h7,h8,xU,Cn,j1,kF]
    exact⟨c-(k+1),by omega,Yge j2 Zn (by omega),k+1,by omega,rfl,by simp,by rw[nD,List.map_append];exact j4⟩
  ·obtain rfl:k=c:=by omega
   simp[A.zb9,hr,cR,hf,h7,h8,hW,hK]
   exact hO
 ·rintro _ r ⟨H,n,W⟩ hr ⟨rfl,hW,hK,v,h7,hO⟩
  simp only at hW hK hO
  have le:=hK.le
  have nZ:=FG hc
  have kA:ab h N H n:=(k1.trans k2).trans hK
  cases tq:pE m c with
  |nil=>
   rw[tq]at hO
   obtain⟨us,_,o2,o3,_⟩:=hO
   obtain rfl:v=.aa:=o2 (List.length_eq_zero_iff.1 o3)
   simp[h7]
   refine ax Ztr ?_
   rintro x H5 n5 k5 hx
   simp[aA]
   refine⟨Ji hW re,kA.trans k5,?_⟩
   unfold sF
   rw[tq,TH]
   exact hx
  |cons r0 rest=>
   have oV:0<(pE m c).length:=by rw[tq];simp
   simp[h7]
   refine ax (SG hO.A4 Jx (by omega) oV (by omega) (zq (by decide)) (NT hq (by decide)) (TL hc cr)) ?_
   rintro x H5 n5 k5 hx
   simp[aA]
   exact⟨Ji hW re,kA.trans k5,hx⟩
variable {N k:Nat} {h:T O} {u:V}
set_option maxHeartbeats 1000000
def A.zca:aq:=sr [bi 18 .lss 17 16]
 (.seq (cd 18
 (.skip)
 (.exit 0))
 (.seq (.block 1 (sr [mv 19 17,ia 20 1 15 17,ld 21 20,mv 7 19,mv 8 21]
 (sr [mv 22 1,mv 23 7,ia 24 1 22 23,ld 25 24,mv 9 25]
 (sr [mv 26 2,mv 27 8,mv 28 9,⟨(some 29),.call (.tmp 26) [(.tmp 27),(.tmp 28)],none⟩,⟨(some 30),.un .not (.tmp 29),none⟩]
 (cd 30
 (sr [⟨(some 6),.aZ (.const (.bool false)),none⟩]
 (.ret))
 (.skip))))))
 (.aL [bc 31 .add 17 1,mv 17 31])))
def A.b201:aq:=sr [⟨(some 6),.aZ (.const (.bool false)),none⟩]
 (.seq (sr [mv 10 0,ln 11 10,mv 12 1,ln 13 12,⟨(some 14),.bin .neq (.aH .int) false (.tmp 11) (.tmp 13),none⟩]
 (cd 14
 (sr [⟨(some 6),.aZ (.const (.bool false)),none⟩]
 (.ret))
 (.skip)))
 (.seq (sr [mv 15 0,ln 16 15,mc 17 0]
 (.block 0 (.loop A.zca)))
 (sr [⟨(some 6),.aZ (.const (.bool true)),none⟩]
 (.ret))))
theorem A.c201:A.F 201=some ⟨32,[.tmp 6],A.b201⟩:=by kernel_rfl
def A.k201:=@A.kk 201 _ _ _ A.c201 rfl
def A.zcb:aq:=sr [bi 18 .lss 17 16]
 (.seq (cd 18
 (.skip)
 (.exit 0))
 (.seq (.block 1 (sr [mv 19 17,ia 20 4 15 17,lN 21 4 20,⟨(some 8),.alloc [(.int .i64 0),.aa,(.int .i64 0),.aa] 114,none⟩,mv 7 19,⟨none,.store 4 (.tmp 8) (.tmp 21),none⟩]
 (sr [mv 22 1,mv 23 7,ia 24 4 22 23,lN 25 4 24,⟨(some 9),.alloc [(.int .i64 0),.aa,(.int .i64 0),.aa] 114,none⟩,⟨none,.store 4 (.tmp 9) (.tmp 25),none⟩]
 (sr [mv 26 2,lN 27 4 8,lN 28 4 9,⟨(some 29),.call (.tmp 26) [(.tmp 27),(.tmp 28)],none⟩,⟨(some 30),.un .not (.tmp 29),none⟩]
 (cd 30
 (sr [⟨(some 6),.aZ (.const (.bool false)),none⟩]
 (.ret))
 (.skip))))))
 (.aL [bc 31 .add 17 1,mv 17 31])))
def A.b203:aq:=sr [⟨(some 6),.aZ (.const (.bool false)),none⟩]
 (.seq (sr [mv 10 0,ln 11 10,mv 12 1,ln 13 12,⟨(some 14),.bin .neq (.aH .int) false (.tmp 11) (.tmp 13),none⟩]
 (cd 14
 (sr [⟨(some 6),.aZ (.const (.bool false)),none⟩]
 (.ret))
 (.skip)))
 (.seq (sr [mv 15 0,ln 16 15,mc 17 0]
 (.block 0 (.loop A.zcb)))
 (sr [⟨(some 6),.aZ (.const (.bool true)),none⟩]
 (.ret))))
theorem A.c203:A.F 203=some ⟨32,[.tmp 6],A.b203⟩:=by kernel_rfl
def A.k203:=@A.kk 203 _ _ _ A.c203 rfl
def A.b204:aq:=sr [bx 2 114 0,bx 3 114 1,⟨(some 4),.aZ (.const (.bool false)),none⟩]
 (sr [lN 5 4 2,lN 6 4 3,c2 7 252 5 6,ei 8 7 0,mv 4 8]
 (.ret))
theorem A.c204:A.F 204=some ⟨9,[.tmp 4],A.b204⟩:=by kernel_rfl
def A.k204:=@A.kk 204 _ _ _ A.c204 rfl
def A.zcc:aq:=sr [bi 12 .lss 11 10]
 (.seq (cd 12
 (.skip)
 (.exit 0))
 (.seq (.block 1 (sr [ia 13 1 9 11,ld 14 13,mv 6 14]
 (sr [mv 16 6,c1 17 69 16,mv 15 17,xt 18 15 0,xt 19 15 1,mv 7 18,mv 8 19]
 (.seq (sr [mv 20 8,ni 21 20 0]
 (cd 21
 (sr [mv 22 8,mN 2,mv 3 22]
 (.ret))
 (.skip)))
 (.aL [mv 23 4,mv 24 7,⟨(some 25),.aY 23 1 1 [.aa] [(0,1,(.tmp 24))],none⟩,⟨(some 26),.append 1 24 23 [.aa] (.tmp 23) (.tmp 25),none⟩,mv 4 26])))))
 (.aL [bc 27 .add 11 1,mv 11 27])))
def A.b117:aq:=sr [mN 2,mc 3 0]
 (sr [mN 4]
 (.seq (sr [mv 9 0,ln 10 9,mc 11 0]
 (.block 0 (.loop A.zcc)))
 (sr [mv 28 4,mv 2 28,mc 3 0]
 (.ret))))
theorem A.c117:A.F 117=some ⟨29,[.tmp 2,.tmp 3],A.b117⟩:=by kernel_rfl
def A.k117:=@A.kk 117 _ _ _ A.c117 rfl
def A.b133:aq:=sr [⟨(some 4),.aZ (.const (.bool false)),none⟩]
 (sr [mv 5 0,mv 6 1,⟨(some 7),.call (.const (.func 201 [] [])) [(.tmp 5),(.tmp 6),(.const (.func 202 [] []))],none⟩,mv 4 7]
 (.ret))
theorem A.c133:A.F 133=some ⟨8,[.tmp 4],A.b133⟩:=by kernel_rfl
def A.k133:=@A.kk 133 _ _ _ A.c133 rfl
def A.b202:aq:=sr [⟨(some 4),.aZ (.const (.bool false)),none⟩]
 (sr [mv 5 0,mv 6 1,⟨(some 7),.call (.const (.func 203 [] [])) [(.tmp 5),(.tmp 6),(.const (.func 204 [] []))],none⟩,mv 4 7]
 (.ret))
theorem A.c202:A.F 202=some ⟨8,[.tmp 4],A.b202⟩:=by kernel_rfl
def A.k202:=@A.kk 202 _ _ _ A.c202 rfl
theorem Ybd{p q:Rat}:p.num*(q.den:Int)-q.num*(p.den:Int)=0↔p=q:=by
 constructor
 ·intro h
  have h1:p.num*(q.den:Int)=q.num*(p.den:Int):=by omega
  have a:((p.den:Nat):Int)≠0:=by have:=p.den_nz;omega
  have b:((q.den:Nat):Int)≠0:=by have:=q.den_nz;omega
  rw[<-wP p,<-wP q]
  exact(Rat.divInt_eq_divInt_iff a b).2 h1
 ·intro h
  subst h
  omega
theorem Yp7{z:Int}:dK z=0↔z=0:=by
 unfold dK
 constructor
 ·intro h
  split at h
  ·omega
  ·split at h<;>omega
 ·intro h
  subst h
  rfl
theorem Yhb{c d:List V}{p q:Rat}(hc:eQ h N c p)(hd:eQ h N d q)(hp:Qb k p)(hq:Qb k q)(hk:k<=400000):Fn A.C 204 [.agg c,.agg d] h N (fun x _ _=>x=.bool (decide (p=q))):=by
 intro w
 obtain⟨c1,c2⟩:=hc.len
 obtain⟨d1,d2⟩:=hd.len
 have w1:=hp.wu
 have w2:=hq.wu
 have jj:∀c:List V,(V.agg c).cells=c:=fun _=>rfl
 have s0:=Dz c1
 have s1:=Dz d1
 have kB:ab h N ((h.set N (.cells c 114 true)).set (N+1) (.cells d 114 true)) (N+1+1):=(ab.refl.new _).new _
 have n1:¬N=N+1:=by omega
 rw[aP,A.k204 (by simp)]
 simp[-V.cells, -V.one,A.b204,jj,c2,d2,s0,s1]
 refine ax (Yl9 (hc.ad kB).fc (hd.ad kB).fc (by omega) (by omega) (by omega) (by omega)) ?_
 rintro _ H2 n2 k2 rfl
 simp[aA]
 refine⟨kB.trans k2,?_⟩
 rw[Yp7]
 exact Ybd
theorem Yoz{v:V}{a b:List Rat}(hu:nO h N u a)(hv:nO h N v b)(ha:∀q∈a,Qb k q)(hb:∀q∈b,Qb k q)(hk:k<=400000)(hl:a.length<100000)(jq:b.length<100000):Fn A.C 203 [u,v,.func 204 [] []] h N (fun x _ _=>x=.bool (decide (a=b))):=by
 intro w
 have l1:=hu.len
 have l2:=hv.len
 rw[aP,A.k203 (by simp)]
 by_cases e:a.length=b.length
 ·have e':(a.length:Int)=(b.length:Int):=by omega
  simp[A.b203,l1,l2,e]
  refine bN [(6,9),(17,31)] (fun x r st=>au N st.w=[]/\ab h N st.h st.n/\((x=.exit 0/\a=b)\/(x=.ret/\a≠b/\r.get 6=some (.bool false)))) (fun m r st=>au N st.w=[]/\ab h N st.h st.n/\∃t,t+m=b.length/\r.get 17=some (.int .i64 t)/\(a=b↔a.drop t=b.drop t)) b.length ?_ ?_ ?_
  ·exact⟨by simp,ab.refl,0,by omega,by simp,by simp⟩
  ·rintro m r ⟨H,n,W⟩ hr hf ⟨hW,hK,t,ht,tY,hz⟩
   simp only at hW hK
   rw[bn]
   cases m with
   |zero=>
    obtain rfl:t=b.length:=by omega
    have eH:a=b:=hz.2 (by rw[mi (by omega),mi (by omega)])
    simp[A.zcb,hr,hf,tY,hW,hK]
    exact eH
   |succ m=>
    have aB:t<b.length:=by omega
    have bj:(t:Int)<(b.length:Int):=by omega
    have xw:t<a.length:=by omega
    obtain⟨p,hp⟩:=bs xw
    obtain⟨q,hq⟩:=bs aB
    obtain⟨i1,o1,x1,e1,w1,c,p1,p2,p3,p4,p5⟩:=(hu.ad hK).at hp
    obtain⟨i2,o2,x2,e2,w2,d,q1,q2,q3,q4,q5⟩:=(hv.ad hK).at hq
    obtain⟨c1,c2⟩:=p5.len
    obtain⟨d1,d2⟩:=q5.len
    have jj:∀c:List V,(V.agg c).cells=c:=fun _=>rfl
    have s0:=Dz c1
    have s1:=Dz d1
    have f0:=Jr c1
    have f1:=Jr d1
    have m1:¬i1=n:=by omega
    have m2:¬i2=n:=by omega
    have m3:¬n=n+1:=by omega
    have m4:i2<n+1:=by omega
    have m5:i1<n+1:=by omega
    rw[fP hp,fP hq,fL]at hz
    simp[-V.cells, -V.one,A.zcb,hr,tY,bj,l1,l2,e,p1,p3,p4,q1,q3,q4,bL,jj,c1,c2,d1,d2,s0,s1,f0,f1,m2]
    have kB:ab H n ((((H.set n (.cells [.int .i64 0,.aa,.int .i64 0,.aa] 114 true)).set n (.cells c 114 true)).set (n+1) (.cells [.int .i64 0,.aa,.int .i64 0,.aa] 114 true)).set (n+1) (.cells d 114 true)) (n+1+1):=(((ab.refl.new _).set (aV _)).new _).set (by omega)
    generalize (((H.set n (.cells [.int .i64 0,.aa,.int .i64 0,.aa] 114 true)).set n (.cells c 114 true)).set (n+1) (.cells [.int .i64 0,.aa,.int .i64 0,.aa] 114 true)).set (n+1) (.cells d 114 true)=G at*
    refine ax (Yhb (p5.ad kB) (q5.ad kB) (ha p (cm hp)) (hb q (cm hq)) hk) ?_
    rintro _ H3 n3 k3 rfl
    have le:=hK.le
    have u1:¬n<N:=by omega
    have u2:¬n+1<N:=by omega
    by_cases mP:p=q
    ·simp(disch:=first|(simp;done)|omega|rfl) [hf,tY,mP,hW,u1,u2]
     exact⟨m,by omega,(hK.trans kB).trans k3,t+1,by omega,by simp,by simpa[mP]using hz⟩
    ·simp[hf,mP,hW,u1,u2]
     exact⟨(hK.trans kB).trans k3,fun hc=>mP (hz.1 hc).1⟩
  ·rintro x r ⟨H,n,W⟩ hr ⟨hW,hK,⟨rfl,hz⟩|⟨rfl,hz,h6⟩⟩
   ·simp only at hW hK
    simp[hz,aA,hW,hK]
   ·simp only at hW hK
    simp[h6,aA,hW,hK,hz]
 ·have e':¬(a.length:Int)=(b.length:Int):=by omega
  have eH:a≠b:=fun hc=>e (by rw[hc])
  simp[A.b203,l1,l2,e',aA]
  exact⟨ab.refl,eH⟩
theorem Yka{v:V}{a b:List (List Rat)}(hu:oC h N u a)(hv:oC h N v b)(ha:e_ a k)(hb:e_ b k)(hk:k<=400000)(hl:a.length<100000)(jq:b.length<100000)(hx:∀r∈a,r.length<100000)(hy:∀r∈b,r.length<100000):Fn A.C 133 [u,v] h N (fun x _ _=>x=.bool (decide (a=b))):=by
 intro w
 have l1:=hu.len
 have l2:=hv.len
 rw[aP,A.k133 (by simp)]
 simp[A.b133]
 have key:Fn A.C 201 [u,v,.func 202 [] []] h N (fun x _ _=>x=.bool (decide (a=b))):=by
  intro w
  rw[aP,A.k201 (by simp)]
  by_cases e:a.length=b.length
  ·have e':(a.length:Int)=(b.length:Int):=by omega
   simp[A.b201,l1,l2,e]
   refine bN [(6,9),(17,31)] (fun x r st=>au N st.w=[]/\ab h N st.h st.n/\((x=.exit 0/\a=b)\/(x=.ret/\a≠b/\r.get 6=some (.bool false)))) (fun m r st=>au N st.w=[]/\ab h N st.h st.n/\∃t,t+m=b.length/\r.get 17=some (.int .i64 t)/\(a=b↔a.drop t=b.drop t)) b.length ?_ ?_ ?_
   ·exact⟨by simp,ab.refl,0,by omega,by simp,by simp⟩
   ·rintro m r ⟨H,n,W⟩ hr hf ⟨hW,hK,t,ht,tY,hz⟩
    simp only at hW hK
    rw[bn]
    cases m with
    |zero=>
     obtain rfl:t=b.length:=by omega
     have eH:a=b:=hz.2 (by rw[mi (by omega),mi (by omega)])
     simp[A.zca,hr,hf,tY,hW,hK]
     exact eH
    |succ m=>
     have aB:t<b.length:=by omega
     have bj:(t:Int)<(b.length:Int):=by omega
     have xw:t<a.length:=by omega
     obtain⟨p,hp⟩:=bs xw
     obtain⟨q,hq⟩:=bs aB
     obtain⟨i1,o1,x1,e1,w1,c,p1,p2,p3,p4,p5⟩:=IW (hu.ad hK) hp
     obtain⟨i2,o2,x2,e2,w2,d,q1,q2,q3,q4,q5⟩:=IW (hv.ad hK) hq
     rw[fP hp,fP hq,fL]at hz
     have Jm:=cm hp
     have Zo:=cm hq
     simp[A.zca,hr,tY,bj,l1,l2,e,p1,p3,p4,q1,q3,q4]
     have call:Fn A.C 202 [c,d] H n (fun x _ _=>x=.bool (decide (p=q))):=by
      intro w
      rw[aP,A.k202 (by simp)]
      simp[A.b202]
      refine ax (Yoz p5.1 q5.1 (ha p Jm) (hb q Zo) hk (hx p Jm) (hy q Zo)) ?_
      rintro _ H3 n3 k3 rfl
      simp[aA]
      exact k3
     refine ax call ?_
     rintro _ H3 n3 k3 rfl
     by_cases mP:p=q
     ·simp(disch:=first|(simp;done)|omega|rfl) [hf,tY,mP,hW]
      exact⟨m,by omega,hK.trans k3,t+1,by omega,by simp,by simpa[mP]using hz⟩
     ·simp[hf,mP,hW]
      exact⟨hK.trans k3,fun hc=>mP (hz.1 hc).1⟩
   ·rintro x r ⟨H,n,W⟩ hr ⟨hW,hK,⟨rfl,hz⟩|⟨rfl,hz,h6⟩⟩
    ·simp only at hW hK
     simp[hz,aA,hW,hK]
    ·simp only at hW hK
     simp[h6,aA,hW,hK,hz]
  ·have e':¬(a.length:Int)=(b.length:Int):=by omega
   have eH:a≠b:=fun hc=>e (by rw[hc])
   simp[A.b201,l1,l2,e',aA]
   exact⟨ab.refl,eH⟩
 refine ax key ?_
 rintro _ H3 n3 k3 rfl
 simp[aA]
 exact k3
theorem Zp{m:List (List Rat)}(hu:oC h N u m)(hP:jn h N)(hl:m.length<10000)(hr:∀r∈m,r.length<1000000)(hq:e_ m k)(hk:k<=400000):Fn A.C 117 [u] h N (fun x h' n'=>(jD m=true/\x=.bb [.aa,.int .i64 4])\/(jD m=false/\∃v,x=.bb [v,.int .i64 0]/\iO h' n' v m)):=by
 intro w
 have l1:=hu.len
 rw[aP,A.k117 (by simp)]
 simp[A.b117,l1]
 refine bN [(2,4),(6,8),(11,27)] (fun e r st=>au N st.w=[]/\ab h N st.h st.n/\((e=.exit 0/\jD m=false/\∃v,r.get 4=some v/\n_ N st.h st.n v m)\/(e=.ret/\jD m=true/\r.get 2=some .aa/\r.get 3=some (.int .i64 4)))) (fun i r st=>au N st.w=[]/\ab h N st.h st.n/\∃t v,t+i=m.length/\r.get 11=some (.int .i64 t)/\jD m=jD (m.drop t)/\r.get 4=some v/\n_ N st.h st.n v (m.take t)) m.length ?_ ?_ ?_
 ·exact⟨by simp,ab.refl,0,_,by omega,by simp,by simp,by simp,n_.nil⟩
 ·rintro i r ⟨H,n,W⟩ eK hf ⟨hW,hK,t,v,ht,iT,hz,h4,hO⟩
  simp only at hW hK hO
  rw[bn]
  have le:=hK.le
  cases i with
  |zero=>
   obtain rfl:t=m.length:=by omega
   rw[lP]at hz
   rw[fN (aV _)]at hO
   have p9:jD m=false:=by rw[hz];rfl
   simp[A.zcc,eK,hf,iT,h4,p9,hW,hK]
   exact hO
  |succ i=>
   have aB:t<m.length:=by omega
   have bj:(t:Int)<(m.length:Int):=by omega
   obtain⟨row,aj⟩:=bs aB
   have hm:=cm aj
   obtain⟨i1,o1,x1,e1,w1,c,p1,p2,p3,p4,p5⟩:=IW (hu.ad hK) aj
   rw[fP aj]at hz
   simp[A.zcc,eK,iT,bj,l1,p1,p3,p4]
   refine ax (Ye4 p5.1 (hP.ad hK) (hr row hm) (hq row hm) hk) ?_
   rintro _ H3 n3 k3 (⟨hb,rfl⟩|⟨hb,x,rfl,tx⟩)
   ·have p9:jD m=true:=by rw[hz];simp[jD,hb]
    simp[hf,hW,p9]
    exact hK.trans k3
   ·have p9:jD m=jD (m.drop (t+1)):=by rw[hz];simp[jD,hb]
    have ox:V.one x=true/\V.cells x=[x]:=⟨Sl.uy tx.1,Sl.kf tx.1⟩
    have tg:=k3.le
    have kD:ab H3 n3 (H3.set n3 (.cells [x] 23 true)) (n3+1):=ab.refl.new _
    have xU:ag [V.aa] 0 [x]=[x]:=rfl
    obtain⟨v',h',w',j1,j2,j3,j4⟩:=n_.push (N0:=N) (x:=.slice n3 0 1 (some 1) 1) (w:=W) ((hO.ad k3).ad kD) (pZ.ad tx kD) (by omega) (by simp[ft,St.row,aM]) (by rw[gK];omega)
    have kF:ab h N h' (n3+1+1):=((hK.trans k3).trans kD).then j3
    simp(disch:=first|(simp;done)|omega|rfl) [-V.cells, -V.one,hf,iT,h4,p9,ox.1,ox.2,xU,Cn,j1]
    exact⟨i,by omega,by rw[j2];exact hW,kF,t+1,by omega,by simp,rfl,by rw[wA,aj];exact j4⟩
 ·rintro e r ⟨H,n,W⟩ eK ⟨hW,hK,⟨rfl,hz,v,h4,hO⟩|⟨rfl,hz,h2,h3⟩⟩
  ·simp only at hW hK hO
   simp[h4,aA,hW,hK,hz]
   exact hO.A4
  ·simp only at hW hK
   simp[h2,h3,aA,hW,hK,hz]
variable {N n:Nat} {b m:List (List aX)} {h:T O} {u:V}
set_option maxHeartbeats 1000000
def A.b49:aq:=sr [mN 2,mc 3 0]
 (.seq (sr [mv 5 0,c1 6 47 5,mv 4 6]
 (sr [mv 7 4,ni 8 7 0]
 (cd 8
 (sr [mv 9 4,mN 2,mv 3 9]
 (.ret))
 (.skip))))
 (sr [mv 10 0,c1 11 71 10,c1 12 132 11,c1 13 117 12,xt 14 13 0,xt 15 13 1,mv 2 14,mv 3 15]
 (.ret)))
theorem A.c49:A.F 49=some ⟨16,[.tmp 2,.tmp 3],A.b49⟩:=by kernel_rfl
def A.k49:=@A.kk 49 _ _ _ A.c49 rfl
def A.b50:aq:=sr [mN 2,mc 3 0]
 (.seq (sr [mv 7 0,c1 8 47 7,mv 4 8]
 (sr [mv 9 4,ni 10 9 0]
 (cd 10
 (sr [mv 11 4,mN 2,mv 3 11]
 (.ret))
 (.skip))))
 (sr [mv 13 0,c1 14 71 13,c1 15 124 14,mv 12 15,xt 16 12 0,xt 17 12 1,mv 5 16,mv 6 17]
 (sr [mv 18 5,c1 19 117 18,xt 20 19 0,xt 21 19 1,mv 2 20,mv 3 21]
 (.ret))))
theorem A.c50:A.F 50=some ⟨22,[.tmp 2,.tmp 3],A.b50⟩:=by kernel_rfl
def A.k50:=@A.kk 50 _ _ _ A.c50 rfl
def A.b51:aq:=sr [mc 4 0]
 (.seq (sr [mv 7 0,c1 8 47 7,mv 5 8]
 (sr [mv 9 5,ni 10 9 0]
 (cd 10
 (sr [mv 11 5,mv 4 11]
 (.ret))
 (.skip))))
 (.seq (.seq (.aS [mv 12 1,ln 13 12,bc 14 .gtr 13 16,⟨(some 15),.call (.const (.func 75 [] [])) [(.tmp 14),(.const (.int .i64 5))],none⟩,mv 16 1,mv 17 0,⟨(some 18),.aI 1 (.tmp 17) (.const (.int .i64 0)),none⟩,ld 19 18,ln 20 19,c2 21 78 16 20,⟨(some 22),.aY 27 1 2 [(.int .i64 0),(.int .i64 0)] [(0,1,(.tmp 15)),(1,1,(.tmp 21))],none⟩,c1 23 74 22,mv 6 23] [0,1,3,7,0,0,32,96,224,511,1023,2047,4095])
 (sr [mv 24 6,ni 25 24 0]
 (cd 25
 (sr [mv 26 6,mv 4 26]
 (.ret))
 (.skip))))
 (sr [mv 27 0,c1 28 71 27,c1 29 132 28,mv 30 1,c1 31 71 30,c2 32 133 29 31,⟨(some 33),.un .not (.tmp 32),none⟩,⟨(some 34),.call (.const (.func 75 [] [])) [(.tmp 33),(.const (.int .i64 21))],none⟩,mv 4 34]
 (.ret))))
theorem A.c51:A.F 51=some ⟨35,[.tmp 4],A.b51⟩:=by kernel_rfl
def A.k51:=@A.kk 51 _ _ _ A.c51 rfl
def xD(m:List (List aX)):List (List Rat):=sF (gb m) (gT m)
def LZ(m:List (List aX)):List (List Rat):=gm (gb m) (gT m)
theorem uk.I3(h:uk m n):(gb m).length<=6:=by rw[Jp];exact h.le
theorem Zq(h:uk m n):(LZ m).length<=6:=by
 unfold LZ gm
 rw[gK,sw,Jp]
 have:=h.le
 omega
theorem SI(h:uk m (gT m)):(xD m).length<=6:=by
 have h1:=FG h.qb.1
 have h2:=h.n6
 unfold xD sF gm
 rw[gK,sw]
 omega
theorem Yh4(hm:gI h N u m)(hP:jn h N)(sm:mb 6 6 m=true):Fn A.C 49 [u] h N (fun x h' n'=>∃v c,x=.bb [v,.int .i64 c]/\xJ (jl m 64 16) (xD m) v c h' n'):=by
 intro w
 obtain⟨m1,m2⟩:=Ff sm
 rw[aP,A.k49 (by simp)]
 simp[A.b49]
 refine ax (M8 hm m1 m2) ?_
 rintro _ H1 n1 k1 rfl
 by_cases hE:jl m 64 16=0
 ·have hM:=Jf hE sm
  obtain⟨l1,l2,l3,l4,l5⟩:=hM.lens
  simp[hE]
  refine ax (Ma (k0:=100) ((hm.ad k1).rat fun r hr=>(hM.row r hr).2) (by omega) l5 (by decide)) ?_
  rintro v H2 n2 k2 hv
  simp[]
  refine ax (Zl hv hM.qb.1 hM.I3 l2 hM.n6 hM.qb.2) ?_
  rintro y H3 n3 k3 hy
  have SJ:=hM.n6
  have nZ:=SI hM
  simp[]
  refine ax (Zp hy (((hP.ad k1).ad k2).ad k3) (by show (xD m).length<_;omega) (fun r hr=>by rw[Jy r hr];omega) (NU hM.qb.1 hM.n6 hM.qb.2) (aV _)) ?_
  rintro _ H4 n4 k4 (⟨hb,rfl⟩|⟨hb,x,rfl,tx⟩)
  ·simp[aA]
   exact⟨((k1.trans k2).trans k3).trans k4,.aa,4,⟨rfl,rfl⟩,.inr ⟨rfl,.inl ⟨hb,rfl,rfl⟩⟩⟩
  ·simp[aA]
   exact⟨((k1.trans k2).trans k3).trans k4,x,0,⟨rfl,rfl⟩,.inr ⟨rfl,.inr ⟨hb,rfl,tx⟩⟩⟩
 ·simp[hE,aA]
  exact⟨k1,.aa,_,⟨rfl,rfl⟩,.inl ⟨hE,rfl,rfl⟩⟩
theorem Zqi(hm:gI h N u m)(hP:jn h N)(sm:mb 6 6 m=true):Fn A.C 50 [u] h N (fun x h' n'=>∃v c,x=.bb [v,.int .i64 c]/\xJ (jl m 64 16) (LZ m) v c h' n'):=by
 intro w
 obtain⟨m1,m2⟩:=Ff sm
 rw[aP,A.k50 (by simp)]
 simp[A.b50]
 refine ax (M8 hm m1 m2) ?_
 rintro _ H1 n1 k1 rfl
 by_cases hE:jl m 64 16=0
 ·have hM:=Jf hE sm
  obtain⟨l1,l2,l3,l4,l5⟩:=hM.lens
  simp[hE]
  refine ax (Ma (k0:=100) ((hm.ad k1).rat fun r hr=>(hM.row r hr).2) (by omega) l5 (by decide)) ?_
  rintro v H2 n2 k2 hv
  simp[]
  refine ax (NQ hv hM.qb.1 l1 l2 l3 (by decide) hM.qb.2 l4) ?_
  rintro _ H3 n3 k3 ⟨y,b,rfl,hy,_⟩
  have SJ:=hM.n6
  have nZ:=Zq hM
  simp[]
  refine ax (Zp hy (((hP.ad k1).ad k2).ad k3) (by show (LZ m).length<_;omega) (fun r hr=>by rw[DE hM.qb.1 r hr];omega) (Jz hM.I3 hM.qb.1 hM.qb.2) (aV _)) ?_
  rintro _ H4 n4 k4 (⟨hb,rfl⟩|⟨hb,x,rfl,tx⟩)
  ·simp[aA]
   exact⟨((k1.trans k2).trans k3).trans k4,.aa,4,⟨rfl,rfl⟩,.inr ⟨rfl,.inl ⟨hb,rfl,rfl⟩⟩⟩
  ·simp[aA]
   exact⟨((k1.trans k2).trans k3).trans k4,x,0,⟨rfl,rfl⟩,.inr ⟨rfl,.inr ⟨hb,rfl,tx⟩⟩⟩
 ·simp[hE,aA]
  exact⟨k1,.aa,_,⟨rfl,rfl⟩,.inl ⟨hE,rfl,rfl⟩⟩
def qV(b:List (List aX))(n:Nat):Int:=bV [if 16<b.length then 5 else 0,bV (b.map fun x=>fI x n)]
def SK(m b:List (List aX)):Int:=if jl m 64 16=0 then (if qV b (gT m)=0 then (if xD m=gb b then 0 else 21) else qV b (gT m)) else jl m 64 16
structure Mb (b:List (List aX)) (n:Nat):Prop where
 le:b.length<=6
 row:∀r∈b,r.length=n/\xE r
theorem Zr(h:qV b n=0)(sb:mb 6 6 b=true):Mb b n:=by
 obtain⟨s1,s2⟩:=M9 sb
 have h1:=Dp h (if 16<b.length then 5 else 0) (by simp)
 have h2:=Dp h (bV (b.map fun x=>fI x n)) (by simp)
 refine⟨Na s1 ?_,fun r hr=>S7 (Dp h2 _ (jk.2 ⟨r,hr,rfl⟩)) (s2 r hr)⟩
 split at h1
 ·exact absurd h1 (by decide)
 ·omega
theorem Mb.qb(h:Mb b n):e_ (gb b) 100/\ew (gb b) n:=⟨fun r hr=>by
 obtain⟨s,hs,rfl⟩:=jk.1 hr
 exact(h.row s hs).2.qb,fun r hr=>by
 obtain⟨s,hs,rfl⟩:=jk.1 hr
 simp[zf,(h.row s hs).1]⟩
theorem Zql{v:V}(hm:gI h N u m)(hb:gI h N v b)(sm:mb 6 6 m=true)(sb:mb 6 6 b=true):Fn A.C 51 [u,v] h N (fun x _ _=>x=.int .i64 (SK m b)):=by
 intro w
 obtain⟨m1,m2⟩:=Ff sm
 obtain⟨b1,b2⟩:=Ff sb
 have lu:=hm.len
 have lv:=hb.len
 rw[aP,A.k51 (by simp)]
 simp[A.b51]
 refine ax (M8 hm m1 m2) ?_
 rintro _ H1 n1 k1 rfl
 unfold SK
 by_cases hE:jl m 64 16=0
 ·have hM:=Jf hE sm
  have m0:=hM.pos
  have m0':(0:Int)<(m.length:Int):=by omega
  obtain⟨l1,l2,l3,l4,l5⟩:=hM.lens
  obtain⟨l0,ff⟩:=bs m0
  obtain⟨i0,o0,Mc,e0,AF,u0,z1,z2,z3,z4,z5⟩:=(hm.ad k1).at ff
  have z6:=z5.len
  rw[rE,(hM.row l0 (cm ff)).1]at z6
  rw[jR]at z4
  have zg:((16:Int)<(b.length:Int))=(16<b.length):=by apply propext;omega
  simp[hE,lu,lv,m0,z1,z2,z3,z4,z6,Q0,zg]
  refine ax (Yf3 (n:=gT m) (hb.ad k1) b1 b2) ?_
  rintro _ H2 n2 k2 rfl
  have kD:ab H2 n2 (H2.set n2 (.cells [.int .i64 (if 16<b.length then 5 else 0),.int .i64 (bV (b.map fun x=>fI x (gT m)))] 27 true)) (n2+1):=ab.refl.new _
  have kE:=(k1.trans k2).trans kD
  by_cases iR:bV [if 16<b.length then 5 else 0,bV (b.map fun x=>fI x (gT m))]=0
  ·have Md:qV b (gT m)=0:=iR
   have hB:=Zr Md sb
   obtain⟨q1,q2⟩:=hB.qb
   have SJ:=hM.n6
   have Pb:=hB.le
   have nZ:=SI hM
   have rbl:(gb b).length=b.length:=Jp
   simp[ag,XJ,iR,Md]
   refine ax (Ma (k0:=100) ((hm.ad kE).rat fun r hr=>(hM.row r hr).2) (by omega) l5 (by decide)) ?_
   rintro y H3 n3 k3 hy
   simp[]
   refine ax (Zl hy hM.qb.1 hM.I3 l2 hM.n6 hM.qb.2) ?_
   rintro z H4 n4 k4 hz
   simp[]
   refine ax (Ma (k0:=100) ((((hb.ad kE).ad k3).ad k4).rat fun r hr=>(hB.row r hr).2) (by omega) (fun l hl=>⟨by rw[q2 l hl];omega,q1 l hl⟩) (by decide)) ?_
   rintro x H5 n5 k5 hx
   simp[]
   refine ax (Yka (hz.ad k5) hx (NU hM.qb.1 hM.n6 hM.qb.2) (q1.mono (by decide)) (aV _) (by show (xD m).length<_;omega) (by omega) (fun r hr=>by rw[Jy r hr];omega) (fun r hr=>by rw[q2 r hr];omega)) ?_
   rintro _ H6 n6 k6 rfl
   have kF:=(((kE.trans k3).trans k4).trans k5).trans k6
   by_cases hq:xD m=gb b
   ·have mU:sF (gb m) (gT m)=gb b:=hq
    simp[hq,mU,Q0,aA]
    exact kF
   ·have mU:¬sF (gb m) (gT m)=gb b:=hq
    simp[hq,mU,Q0,aA]
    exact kF
  ·have Md:¬qV b (gT m)=0:=iR
   simp[ag,XJ,iR,Md,aA]
   exact⟨kE,rfl⟩
 ·simp[hE,aA]
  exact k1
end Go.Mx
