/-reconstruct-/
import Derived.Test.YtlfdeoomaccciaaGreatDoorEcH
set_option linter.all false
namespace Go.Mx
noncomputable section
open Go Go.Proofs
variable {N R:Nat} {h:T O} {m:List (List Rat)}
set_option maxHeartbeats 4000000
set_option maxRecDepth 1000000
def Zwz{m:List (List Rat)}{k d:Nat}:∀{n j:Nat},(og (fun i=>decide (((m.drop d)[i]?.getD [])[k]?.getD 0≠0)) j n= -1/\oc m k (d+j) n=d+j+n)\/∃a:Nat,og (fun i=>decide (((m.drop d)[i]?.getD [])[k]?.getD 0≠0)) j n=a/\oc m k (d+j) n=d+a/\a<j+n
 |0,j=>.inl ⟨rfl,rfl⟩
 |n+1,j=>by
  unfold og oc
  simp only[fg]
  by_cases e:(m[d+j]?.getD [])[k]?.getD 0≠0
  ·rw[ay e]
   exact .inr ⟨j,by simp[e],rfl,by omega⟩
  ·rw[ak e]
   simp only[e,decide_false,fI,if_false]
   have ih:=@Zwz m k d n (j+1)
   simp only[fg]at ih
   rcases ih with⟨h1,h2⟩|⟨a,h1,h2,h3⟩
   ·exact .inl ⟨h1,by rw[show d+j+1=d+(j+1) by omega,h2];omega⟩
   ·exact .inr ⟨a,h1,by rw[show d+j+1=d+(j+1) by omega,h2],by omega⟩
def zN(ps:List Nat):List Int:=ps.map fun p:Nat=>(p:Int)
def mj.bz{h':T O}{N':Nat}{v:V}{e:TypeId}(s:mj h N R m)(k:dG (fun i=>i∈bZ v) h N h' N')(hd:kl e NW h v)(he:e≠80)(vf:e≠73):mj h' N' R m:=by
 obtain⟨us,g1,g2,g3,g4,g5⟩:=s.ex
 refine⟨eY s.lt k.le,us,(k.get R s.lt fun hc=>?_).trans g1,g2,g3,g4,fun j l hl=>?_⟩
 ·obtain⟨z,hz,_⟩:=hd R hc
  rw[g1]at hz
  simp at hz
  exact vf hz.2.symm
 ·obtain⟨u,a1,a2⟩:=g5 j l hl
  exact⟨u,a1,a2.bz k hd he⟩
def Zy6{W0:List Nat}{N0:Nat}{H:T O}{n:Nat}{r0:T V}{c:Nat}{B:Nat->Nat}(s:mj H n R m)(zM:N0<=R)(hc:b_ m c)(kg:m.length<1000)(gV:0<m.length)(cO:c<1000)(yd:∀n,1<=B n)(hK:∀k,cW (aU m k).1 (B (aU m k).2.1))(hB:∀n,n<m.length->n<c->3*B n<=400000000)(kH:ab h N0 H n)(yQ:av N0 W0=[])(a4:r0.get 4=some (.slice R 0 m.length (some m.length) 1))(a5:r0.get 5=some .aa)(a6:r0.get 6=some (.int .i64 0))(a25:r0.get 25=some (.int .i64 c))(a26:r0.get 26=some (.int .i64 0)):
  Code A.C none (.loop A.qR) ⟨r0,120,[]⟩ ⟨H,n,W0⟩ (fun e fr st=>e=.exit 0/\av N0 st.w=[]/\ab h N0 st.h st.n/\mj st.h st.n R (aU m c).1/\∃r v,Fx [(5,12),(26,115)] r0 120 ⟨r,120,[]⟩/\fr=⟨r,120,[]⟩/\r.get 6=some (.int .i64 (aU m c).2.1)/\r.get 5=some v/\qQ N0 st.h st.n v (zN (aU m c).2.2)):=by
 rw[bk]
 refine bG [(5,12),(26,115)] (fun e r st=>e=.exit 0/\av N0 st.w=[]/\ab h N0 st.h st.n/\mj st.h st.n R (aU m c).1/\∃v,r.get 6=some (.int .i64 (aU m c).2.1)/\r.get 5=some v/\qQ N0 st.h st.n v (zN (aU m c).2.2)) (fun i r st=>av N0 st.w=[]/\ab h N0 st.h st.n/\∃k v,k<=c/\i=c-k/\r.get 26=some (.int .i64 k)/\r.get 6=some (.int .i64 (aU m k).2.1)/\r.get 5=some v/\qQ N0 st.h st.n v (zN (aU m k).2.2)/\(aU m k).2.1<m.length/\mj st.h st.n R (aU m k).1) c ?_ ?_ ?_
 ·exact⟨yQ,kH,0,_,by omega,by omega,a26,a6,a5,qQ.nil,gV,s⟩
 ·rintro i r ⟨H1,n1,W⟩ hr hf ⟨hW,k1,k,pv,hk,rfl,Bg,h6,h5,hO,yg,s1⟩
  simp only at hW k1 s1 hO
  rw[bk]
  have hlen:(aU m k).1.length=m.length:=Be
  obtain⟨IV,iw⟩:=@pQ m c hc k
  by_cases ax:k<c
  ·have a_:(k:Int)<(c:Int):=by omega
   obtain⟨us,g1,g2,g3,g4,g5⟩:=id s1.ex
   have hR:=s1.lt
   have VA:¬R=n1:=by omega
   have kA:ab H1 n1 ((H1.set n1 (.cells [.int .i64 0] 3 true)).set n1 (.cells [.int .i64 k] 3 true)) (n1+1):=(ab.refl.new _).set (aQ _)
   have gP:((H1.set n1 (.cells [.int .i64 0] 3 true)).set n1 (.cells [.int .i64 k] 3 true)).get n1=some (.cells [.int .i64 k] 3 true):=by rw[T.ag,ay rfl]
   have sA:=s1.ae kA
   have gA:=(kA.get R hR).trans g1
   have oA:=hO.ae kA
   have kU:=k1.trans kA
   simp[A.qR,hr,hf,a4,h5,h6,a25,Bg,ax,a_,bD,ad]
   generalize (H1.set n1 (.cells [.int .i64 0] 3 true)).set n1 (.cells [.int .i64 k] 3 true)=G at*
   have hs:Sl G (n1+1) (.slice R 0 m.length (some m.length) 1) us:=Sl.row (by omega) gA (by omega) fun k hk=>by simp at hk;omega
   obtain⟨sv,e1,e2⟩:=DS (w:=n1::W) hs (lo:=(aU m k).2.1) (hi:=us.length) (by omega) (aQ _) (some (.int .i64 (aU m k).2.1)) none (.inl rfl) (.inr ⟨rfl,rfl⟩)
   rw[eZ (aQ _)]at e2
   simp[Bh,hr,hf,a4,h5,h6,a25,Bg,e1]
   have Ch:fF (aU m k).1 (aU m k).2.1 k=m.length->aU m (k+1)=aU m k:=fun hp=>by
    rw[uQ]
    unfold jw
    rw[ak (by omega)]
   have iL:fF (aU m k).1 (aU m k).2.1 k<m.length->aU m (k+1)=(cC (gE (cr (aU m k).1 (aU m k).2.1 (fF (aU m k).1 (aU m k).2.1 k)) (aU m k).2.1 k) (aU m k).2.1 k (aU m k).1.length,(aU m k).2.1+1,(aU m k).2.2++[k]):=fun hp=>by
    rw[uQ]
    unfold jw
    rw[ay (by omega)]
   have zae:=@Vp m k
   have hpp:=@Yel m k
   have Vu:cW (aU m k).1 (B (aU m k).2.1):=hK _
   have VF:=@PO m (k+1)
   generalize hd:(aU m k).2.1=d at*
   generalize mO:(aU m k).1=m1 at*
   generalize uy:(aU m k).2.2=ps at*
   have I1:n1<n1+1:=by omega
   have VG:(us.drop d).length=m1.length-d:=by rw[x_,g2]
   refine aB (Yoh (us.drop d) (fun i:Nat=>decide (((m1.drop d)[i]?.getD [])[k]?.getD 0≠0)) e2 (by omega) fun j x hx h' n' gH=>?_) ?_
   ·have jx:us[d+j]?=some x:=by rw[<-fg];exact hx
    obtain⟨row,al⟩:=bh (l:=m1) (k:=d+j) (by have:=f_ jx;omega)
    obtain⟨y,b1,b2⟩:=g5 _ _ al
    rw[jx]at b1
    simp only[aq]at b1
    subst b1
    have:=Yr9 (k:=k) ((gH.get n1 I1).trans gP) (eY I1 gH.le) ((b2.ae kA).ae gH).1 (by rw[IV row (bU al)];exact ax)
    simp only[fg,al,pd]
    exact this
   rintro _ H2 n2 k2 rfl
   rw[VG]
   have kK:=k2.le
   have PU:=(k2.get n1 I1).trans gP
   have s2:=sA.ae k2
   have o2:=oA.ae k2
   have pX:=(k2.get R (by omega)).trans gA
   have VH:=kU.trans k2
   have KR:¬n1<N0:=by have:=k1.le;omega
   have wZ:R<n2:=by omega
   rcases @Zwz m1 k d (m1.length-d) 0 with⟨f1,f2⟩|⟨a,f1,f2,f3⟩
   ·rw[f1]
    have Bf:fF m1 d k=m.length:=by unfold fF;have:=f2;rw[mP]at this;omega
    simp(disch:=first|(simp;done)|omega|rfl) [hr,hf,h5,h6,Bg,a4,KR,hW]
    refine⟨c-(k+1),by omega,VH,k+1,by omega,rfl,by simp,?_,?_⟩
    ·rw[Ch Bf];simp[hd]
    ·rw[Ch Bf,mO,uy,hd]
     exact⟨o2,yg,s2⟩
   ·rw[f1]
    rw[mP]at f2
    obtain⟨p,hp⟩:∃p,p=d+a:=⟨_,rfl⟩
    have u9:fF m1 d k=p:=by unfold fF;omega
    have hda:(d:Int)+(a:Int)=(p:Int):=by omega
    have iH:p<m1.length:=by omega
    have d_:d<m1.length:=by omega
    obtain⟨rd,yS⟩:=bh d_
    obtain⟨rp,yf⟩:=bh iH
    obtain⟨ud,x3,x4⟩:=g5 _ _ yS
    obtain⟨up,y3,y4⟩:=g5 _ _ yf
    have KJ:d<us.length:=by omega
    have KK:p<us.length:=by omega
    have yR:(d:Int)<(m.length:Int):=by omega
    have Cd:(p:Int)<(m.length:Int):=by omega
    have F8:d<m.length:=by omega
    have Vt:p<m.length:=by omega
    have VI:¬(a:Int)<0:=by omega
    have z1:∀u,ad us d [u]=us.set d u:=fun u=>zA KJ
    have z2:∀u,ad (us.set d up) p [u]=(us.set d up).set p u:=fun u=>zA (by simp;exact KK)
    obtain⟨_,c1,o1⟩:=x4.DR
    obtain⟨_,c2,PV⟩:=y4.DR
    have l1:d+1<=us.length:=KJ
    have l2:p+1<=us.length:=KK
    simp(disch:=first|(simp;done)|omega|rfl) [-getElem?_pos, -V.cells, -V.one,hr,hf,a4,h5,h6,Bg,hda,VI,yR,Cd,F8,Vt,pX,x3,y3,wZ,bD,c1,o1,c2,PV,z1,z2,l1,l2]
    have U2:dG (fun i=>i=R) H2 n2 ((H2.set R (.cells (us.set d up) 73 true)).set R (.cells ((us.set d up).set p ud) 73 true)) n2:=⟨aQ _,fun i _ hi=>by rw[T.ag,ak hi,T.ag,ak hi]⟩
    have F9:(H2.set R (.cells (us.set d up) 73 true)).get R=some (.cells (us.set d up) 73 true):=by rw[T.ag,ay rfl]
    have Vb:=(x4.ae kA).ae k2
    have VJ:=(y4.ae kA).ae k2
    have sA1:=s2.Cg pX VJ d_
    have sB:=sA1.Cg F9 (Vb.bj pX (by decide) g3 (by simp)) (i:=p) (by rw[sQ];exact iH)
    have gB:((H2.set R (.cells (us.set d up) 73 true)).set R (.cells ((us.set d up).set p ud) 73 true)).get R=some (.cells ((us.set d up).set p ud) 73 true):=by rw[T.ag,ay rfl]
    have DF:(m1.set d rp).set p rd=cr m1 d p:=by unfold cr;rw[yS,yf];rfl
    rw[DF]at sB
    have wM:((us.set d up).set p ud).length=m1.length:=by simp only[sQ];omega
    generalize (H2.set R (.cells (us.set d up) 73 true)).set R (.cells ((us.set d up).set p ud) 73 true)=G2 at*
    generalize (us.set d up).set p ud=vs at*
    have gPB:=(U2.get n1 (by omega) (by omega)).trans PU
    have oB:=o2.vc pX (fun z hz=>by simp at hz) U2
    have zK:=Vu.B1 (d:=d) (p:=p)
    have KL:=IV.B1 d_ iH
    have Vv:(cr m1 d p).length=m1.length:=sM
    have aW:=@IF m1 k (m1.length-d) d (by unfold fF at u9;omega)
    have al:(cr m1 d p)[d]?=some rp:=by
     rw[<-DF]
     by_cases e:p=d
     ·rw[e,yS]at yf
      simp only[aq]at yf
      rw[e,yf,gK (by simp;omega)]
     ·rw[dW e,gK d_]
    have u_:rp[k]?.getD 0≠0:=by
     have h9:=u9
     unfold fF at h9
     rw[h9,yf]at aW
     exact aW
    obtain⟨kQ,vd,b1,b2,b3,b4⟩:=sB.at al
    rw[gB]at b1
    simp only[aq,O.cells.injEq,and_true]at b1
    subst b1
    have Vw:=KL rp (bU al)
    obtain⟨q,hq⟩:=bh (l:=rp) (k:=k) (by omega)
    have yc:=zK rp (bU al)
    have gF:=yc q (bU hq)
    have pj:q≠0:=by rw[hq]at u_;exact u_
    have hkq:=hB d F8 (by omega)
    obtain⟨i1,t1,w1,e3,v1,cs,q1,q2,q3,q4,q5⟩:=b4.1.at hq
    obtain⟨r1,r2⟩:=q5.len
    have n9:=b4.1.len
    have bL:(k:Int)<(rp.length:Int):=by omega
    have eF:k<rp.length:=by omega
    have mI:∀c:List V,(V.agg c).cells=c:=fun _=>rfl
    have s0:=Yuy r1
    have e4:=Yux r1
    have KS:n2<n2+1:=by omega
    have VK:¬R=n2:=by omega
    have lP2:n1<n2:=by omega
    have VL:¬n1=n2:=by omega
    simp(disch:=first|(simp;done)|omega|rfl) [-getElem?_pos, -V.cells, -V.one,hr,hf,a4,h5,h6,Bg,b3,gB,gPB,lP2,wZ,q1,q2,q3,q4,PT q4,n9,bL,eF,yR,F8,bD,mI,r1,r2,s0,e4,KS,VK,VL]
    have kC:ab G2 n2 ((G2.set n2 (.cells [.int .i64 0,.aa,.int .i64 0,.aa] 80 true)).set n2 (.cells cs 80 true)) (n2+1):=(ab.refl.new _).set (aQ _)
    have gQ:((G2.set n2 (.cells [.int .i64 0,.aa,.int .i64 0,.aa] 80 true)).set n2 (.cells cs 80 true)).get n2=some (.cells cs 80 true):=by rw[T.ag,ay rfl]
    generalize (G2.set n2 (.cells [.int .i64 0,.aa,.int .i64 0,.aa] 80 true)).set n2 (.cells cs 80 true)=G3 at*
    refine aB (Ynz (fun x=>x/q) (b4.ae kC).1 (by omega) fun x hx c' h' n' k' pF=>Yr8 (j:=B d) (k:=B d) ((k'.get n2 KS).trans gQ) (eY KS k'.le) pF ((q5.ae kC).ae k') pj (yc x hx) gF (by omega) (by omega)) ?_
    rintro v3 H3 n3 k3 t3
    have yM:=k3.le
    have gR3:=(k3.get R (by omega)).trans ((kC.get R wZ).trans gB)
    have sC:=((sB.ae kC).ae k3).Cg gR3 t3 (i:=d) (by rw[Vv];exact d_)
    have F7:(cr m1 d p).set d (rp.map fun x=>x/q)=gE (cr m1 d p) d k:=by
     unfold gE
     rw[al]
     simp only[pd,hq]
    rw[F7]at sC
    have IW:(gE (cr m1 d p) d k).length=m.length:=by rw[DE,sM];exact hlen
    have ux:d<vs.length:=by omega
    have F6:d+1<=vs.length:=ux
    have z3:∀u,ad vs d [u]=vs.set d u:=fun u=>zA ux
    have KM:R<n3:=by omega
    have lRp:R<n2+1:=by omega
    obtain⟨_,c3,o3⟩:=t3.DR
    simp(disch:=first|(simp;done)|omega|rfl) [-V.cells, -V.one,hr,hf,a4,h5,h6,Bg,gR3,KM,wZ,lRp,bD,c3,o3,z3,ux,F6]
    have U3:dG (fun i=>i=R) H2 n2 (H3.set R (.cells (vs.set d v3) 73 true)) n3:=((U2.trans kC.upd).trans k3.upd).set (.inl rfl)
    have gPC:=(U3.get n1 (by omega) (by omega)).trans PU
    have gRC:(H3.set R (.cells (vs.set d v3) 73 true)).get R=some (.cells (vs.set d v3) 73 true):=by rw[T.ag,ay rfl]
    generalize H3.set R (.cells (vs.set d v3) 73 true)=G4 at*
    refine mi (Yhm (cp:=some m.length) (N0:=N0) (P:=n1) (d:=d) (K:=B d) sC zM gPC (by omega) (KL.IG (by omega)) ax (by omega) (by omega) (by omega) (yd _) (fun i hi=>by
     unfold gE
     rw[dW (Ne.symm hi)]
     exact zK.at) (by
     unfold gE
     rw[gK (by omega)]
     exact Ykk zK (yd _) (by rw[al];exact u_)) (by omega) (by simp[tr.2 zM,KR,hW,show ¬n2<N0 by omega]) (by simp[hr,a4,IW]) (by simp[hr,h6]) (by simp[hr]) (by simp[hr,IW]) (by simp)) ?_
    rintro _ _ ⟨H4,n4,W4⟩ ⟨rfl,KN,U4,s4,r4,f4,rfl⟩
    simp only at KN U4 s4
    have pG:=f4.dP
    have B5:=hf.inner (D':=[(10,12),(72,104)]) (by decide) (fun hx=>by simpa[Fx.set]using hx) pG
    have FW:=U4.le
    have gP4:=(U4.get n1 (by omega) (by omega)).trans gPC
    have o4:=(o2.vc pX (fun z hz=>by simp at hz) U3).vc gRC (fun z hz=>by simp at hz) U4
    have lP4:n1<n4:=by omega
    have qI:ad [V.int .i64 0] 0 [V.int .i64 k]=[V.int .i64 k]:=rfl
    simp[pG,B5,hr,a4,h5,h6,Bg,gP4,lP4,qI]
    have kD:ab H4 n4 (H4.set n4 (.cells [.int .i64 k] 3 true)) (n4+1):=ab.refl.new _
    obtain⟨v',h',w',j1,j2,j3,j4,j5,j6⟩:=qQ.push (B:=N0) (x:=.slice n4 0 1 (some 1) 1) (k:=k) (w:=W4) (o4.ae kD) (aQ _) (by omega) KN (by simp[eA,St.row,aD]) (by simp[zN];omega)
    have s5:=(s4.ae kD).bz j3 j4 (by decide) (by decide)
    have kF:ab h N0 h' (n4+1+1):=⟨by have:=VH.le;omega,fun i hi=>by
     rw[j3.get i (by omega) (fun hc=>by have:=j5 i hc;omega),T.ag,ak (by omega),U4.get i (by omega) (by omega),U3.get i (by omega) (by omega)]
     exact VH.get i hi⟩
    have dJ:=iL (by omega)
    rw[u9]at dJ
    rw[IW,<-hlen]at s5
    have PW:zN (ps++[k])=zN ps++[(k:Int)]:=by simp[zN]
    by_cases hE:d+1=m.length
    ·have VM:(d:Int)+1=(m.length:Int):=by omega
     have hcf:aU m c=aU m (k+1):=by
      have:=VF (n:=c-(k+1)) (by rw[dJ];exact hE)
      rw[<-this,show k+1+(c-(k+1))=c by omega]
     simp(disch:=first|(simp;done)|omega|rfl) [wU,j1,pG,B5,hr,a4,h5,h6,Bg,VM,aE,j2,kF]
     rw[hcf,dJ,PW]
     exact⟨s5,hE.symm,j6⟩
    ·have VM:¬(d:Int)+1=(m.length:Int):=by omega
     simp(disch:=first|(simp;done)|omega|rfl) [wU,j1,pG,B5,hr,a4,h5,h6,Bg,VM,aE,j2,kF]
     refine⟨c-(k+1),by omega,k+1,by omega,rfl,by simp,?_⟩
     rw[dJ,PW]
     exact⟨by simp,j6,by show d+1<m.length;omega,s5⟩
  ·obtain rfl:k=c:=by omega
   simp[A.qR,hr,hf,a4,h5,h6,a25,Bg,k1,hW]
   exact⟨s1,hO⟩
 ·rintro _ r st hr ⟨rfl,hw,k1,s1,v,h6,h5,hO⟩
  simp[]
  exact⟨hw,k1,s1,r,⟨hr,rfl,rfl⟩,rfl,h6,v,h5,hO⟩
def mj.DL{d:Nat}{v:V}{us:List V}(s:mj h N R m)(g:h.get R=some (.cells us 73 true))(hv:Sl h N v (us.take d))(hd:d<=m.length):gh h N v (m.take d):=by
 obtain⟨vs,g1,g2,_,_,g3⟩:=s.ex
 rw[g]at g1
 simp only[aq,O.cells.injEq,and_true]at g1
 subst g1
 refine⟨us.take d,hv,by simp[g2],fun j l hl=>?_⟩
 by_cases hj:j<d
 ·rw[iM,ay hj]at hl ⊢
  exact g3 j l hl
 ·rw[iM,ak hj]at hl
  cases hl
def Yas{u:V}{c:Nat}{B:Nat->Nat}(hu:gh h N u m)(hc:b_ m c)(kg:m.length<1000)(gV:0<m.length)(cO:c<1000)(yd:∀n,1<=B n)(hK:∀k,cW (aU m k).1 (B (aU m k).2.1))(hB:∀n,n<m.length->n<c->3*B n<=400000000):Fn A.C 58 [u] h N (fun x h' n'=>∃a b,x=.aV [a,b]/\gh h' n' a (qP m c)/\qQ N h' n' b (zN (aU m c).2.2)):=by
 intro w
 have lu:=hu.len
 obtain⟨us,h1,h2,h3⟩:=hu
 have fL:=h1
 rcases h1 with⟨hn,_⟩|⟨i,o,cp,c',e,pn,rfl,q2,q3,q4,q5,q6⟩
 ·rw[hn]at h2
  simp at h2
  omega
 have aW:¬i=N:=by omega
 have DT:(h.set N (.cells (dp [.aa] m.length) 73 true)).get i=some (.cells c' e pn):=by rw[T.ag,ak aW];exact q3
 have gz:(h.set N (.cells (dp [.aa] m.length) 73 true)).get N=some (.cells (dp [.aa] m.length) 73 true):=by simp
 have l8:=Ykh (N:=N+1) (w:=[]) (cp:=cp) DT q4 q5
 rw[h2]at l8
 have cpy:=Yax (cp:=some m.length) gV l8 h2 gz (by rw[VN];simp)
 have kB:ab h N ((h.set N (.cells (dp [.aa] m.length) 73 true)).set N (.cells us 73 true)) (N+1):=(ab.refl.new _).set (aQ _)
 have gN:((h.set N (.cells (dp [.aa] m.length) 73 true)).set N (.cells us 73 true)).get N=some (.cells us 73 true):=by rw[T.ag,ay rfl]
 have sR:mj ((h.set N (.cells (dp [.aa] m.length) 73 true)).set N (.cells us 73 true)) (N+1) N m:=⟨by omega,us,gN,h2,?nu,?one,fun j l hl=>by
  obtain⟨x,a1,a2⟩:=h3 j l hl
  exact⟨x,a1,a2.ae kB⟩⟩
 case nu=>
  intro x hx
  obtain⟨j,hj⟩:=xW hx
  obtain⟨l,hl⟩:=bh (l:=m) (k:=j) (by have:=f_ hj;omega)
  obtain⟨y,a1,a2⟩:=h3 j l hl
  rw[hj]at a1
  simp only[aq]at a1
  subst a1
  exact a2.DR.1
 case one=>
  rw[l7]
  intro x hx
  obtain⟨j,hj⟩:=xW hx
  obtain⟨l,hl⟩:=bh (l:=m) (k:=j) (by have:=f_ hj;omega)
  obtain⟨y,a1,a2⟩:=h3 j l hl
  rw[hj]at a1
  simp only[aq]at a1
  subst a1
  exact a2.DR.2.1
 rw[h2]at fL
 obtain⟨l0,gX⟩:=bh gV
 obtain⟨x0,b1,b2⟩:=h3 0 l0 gX
 obtain⟨i2,o2,cc2,e2,IP,p1,p2,p3,p4⟩:=(fL.ae kB).at b1
 rw[mP]at p4
 have b3:=b2.1.len
 rw[hc l0 (bU gX)]at b3
 have VO:¬m=[]:=fun hc=>by rw[hc]at gV;simp at gV
 have ye:¬(m.length:Int)=0:=by omega
 have KT:(0:Int)<(m.length:Int):=by omega
 have PX:(24:Int)*(m.length:Int)<=140737488355328:=by omega
 have cc3:(m.length:Int)<4611686018427387904:=by omega
 rw[h2]at lu
 rw[aN,A.k58 (by simp)]
 simp[A.b58,h2,gV,ye,KT,PX,cc3,cpy,aE,VO,p1,p2,p3,p4,b3]
 generalize (h.set N (.cells (dp [.aa] m.length) 73 true)).set N (.cells us 73 true)=G at*
 refine mi (Zy6 (N0:=N) (h:=h) sR (aQ _) hc kg gV cO yd hK hB kB (by simp[ui]) (by simp) (by simp) (by simp) (by simp) (by simp)) ?_
 rintro _ _ ⟨H4,n4,W4⟩ ⟨rfl,hw,k4,s4,r4,pv,f4,rfl,x6,x5,oI⟩
 simp only at hw k4 s4 oI
 have pG:=f4.dP
 obtain⟨vs,g1,g2,_⟩:=id s4.ex
 have hl4:(aU m c).1.length=m.length:=Be
 have iw:=(@pQ m c hc c).2
 have hs:Sl H4 n4 (.slice N 0 m.length (some m.length) 1) vs:=Sl.row s4.lt g1 (by omega) fun k hk=>by simp at hk;omega
 obtain⟨v',e1,e2⟩:=DS (w:=W4) hs (lo:=0) (hi:=(aU m c).2.1) (by omega) (by omega) none (some (.int .i64 (aU m c).2.1)) (.inr ⟨rfl,rfl⟩) (.inl rfl)
 rw[yU]at e2
 simp[Bh,pG,x6,x5,e1,aA,hw]
 exact⟨k4,v',pv,⟨rfl,rfl⟩,s4.DL g1 e2 (by omega),oI⟩
variable {m:List (List Rat)}
def Ymx{n i:Nat}(h:i<(aU m n).2.1):(qP m n)[i]?=(aU m n).1[i]?:=by
 unfold qP
 rw[iM,ay h]
def PD{c n:Nat}(h:b_ m c):b_ (qP m n) c:=fun r hr=>(@pQ m c h n).1 r (yL hr)
def yV(l:List Rat):Nat->Nat->Nat
 |k,0=>k
 |k,n+1=>if l[k]?.getD 0≠0 then k else yV l (k+1) n
def Yk5{l:List Rat}{p:Nat}:∀{n k:Nat},k<=p->p<k+n->l[p]?.getD 0≠0->(∀j,k<=j->j<p->l[j]?.getD 0=0)->yV l k n=p
 |0,k,h1,h2,_,_=>by omega
 |n+1,k,h1,h2,h3,h4=>by
  unfold yV
  by_cases e:k=p
  ·subst e;rw[ay h3]
  ·rw[ak (fun hc=>hc (h4 k (aQ _) (by omega)))]
   exact Yk5 (by omega) (by omega) h3 fun j a b=>h4 j (by omega) b
def Ymw{c i:Nat}{row:List Rat}(hc:b_ m c)(hi:(qP m c)[i]?=some row):∃p,(aU m c).2.2[i]?=some p/\p<c/\yV row 0 row.length=p/\(aU m c).2.2.idxOf p=i:=by
 have I:=@A5 m c hc c
 have Bi:i<(aU m c).2.1:=by have:=f_ hi;rw[Kt hc]at this;exact this
 rw[Ymx Bi]at hi
 obtain⟨p,hp⟩:=bh (l:=(aU m c).2.2) (k:=i) (by rw[I.len];exact Bi)
 have hx:=I.idx Bi
 have hl:=I.lt i Bi
 have ho:=I.one i i Bi (by have:=I.le;omega)
 have hz:=fun k=>I.lead i k Bi
 rw[hp]at hx hl ho hz
 simp only[pd,if_true]at hx hl ho hz
 unfold aP at ho hz
 rw[hi]at ho hz
 simp only[pd]at ho hz
 have hr:=(@pQ m c hc c).1 row (bU hi)
 refine⟨p,hp,hl,Yk5 (uw _) (by omega) (by rw[ho];decide) fun j _ hj=>hz j hj,hx⟩
set_option maxHeartbeats 2000000
def PY{h:T O}{N:Nat}{v:V}{m:List (List Rat)}(s:gh h N v m){i:Nat}{row:List Rat}(hr:m[i]?=some row):∃j o c e rw u,w_ v=some (j,o)/\j<N/\h.get j=some (.cells c e rw)/\c[o+i]?=some u/\ec h N u row:=by
 obtain⟨us,h1,h2,h3⟩:=s
 obtain⟨u,a,b⟩:=h3 i row hr
 obtain⟨j,o,c,e,rw,q1,q2,q3,q4⟩:=h1.at a
 exact⟨j,o,c,e,rw,u,q1,q2,q3,q4,b⟩
variable {d i k n:Nat} {m:List (List Rat)} {r:List Rat}
def Yes{c x y z:List Rat}{f:Rat}:∀{n:Nat},(∀k,k<n->z[k]?.getD 0=x[k]?.getD 0-f*y[k]?.getD 0)->kR c z n=kR c x n-f*kR c y n
 |0,_=>by simp[kR];grind
 |n+1,h=>by
  have ih:=Yes (c:=c) (n:=n) fun k hk=>h k (by omega)
  have e:=h n (by omega)
  unfold kR
  rw[ih,e]
  grind
def Yet{c x z:List Rat}{p:Rat}:∀{n:Nat},(∀k,k<n->z[k]?.getD 0=x[k]?.getD 0/p)->kR c z n=kR c x n/p
 |0,_=>by simp[kR,Rat.div_def,Rat.zero_mul]
 |n+1,h=>by
  have ih:=Yet (c:=c) (n:=n) fun k hk=>h k (by omega)
  have e:=h n (by omega)
  unfold kR
  rw[ih,e,Rat.div_def,Rat.div_def,Rat.div_def]
  grind
def lI(n:Nat)(C:List (List Rat))(r:List Rat):List Rat:=r.take n++C.map fun c=>mm c (r.drop n)
def I4{C:List (List Rat)}(h:n<=r.length):(lI n C r).length=n+C.length:=by
 simp[lI]
 omega
def PZ{C:List (List Rat)}(h:n<=r.length)(hi:i<n):(lI n C r)[i]?=r[i]?:=by
 unfold lI
 rw[kJ (by rw[gG];omega),iM,ay hi]
def Ysp{j:Nat}{C:List (List Rat)}(h:n<=r.length):(lI n C r)[n+j]?=(C[j]?).map fun c=>mm c (r.drop n):=by
 unfold lI
 rw[nU (by rw[gG];omega),gG,pZ h,Nat.add_sub_cancel_left,fV]
def KU:(r.drop n)[k]?.getD 0=r[n+k]?.getD 0:=by rw[fg]
def VP{r:List Rat}{p:Rat}{k:Nat}:(r.map fun x=>x/p)[k]?.getD 0=r[k]?.getD 0/p:=by
 rw[fV]
 cases r[k]? with
 |none=>simp[Rat.div_def,Rat.zero_mul]
 |some q=>rfl
def VQ{p:List Rat}{j:Nat}(h:r.length=p.length):(qO r p k)[j]?.getD 0=r[j]?.getD 0-r[k]?.getD 0*p[j]?.getD 0:=by
 by_cases hj:j<r.length
 ·unfold qO
  rw[PS hj]
  rfl
 ·rw[fl (by rw[KO];omega),fl (l:=r) (by omega),fl (l:=p) (by omega)]
  show (0:Rat)=0-r[k]?.getD 0*0
  rw[Rat.mul_zero,Rat.sub_self]
def VS{a b:List Rat}(h:a.length=b.length)(hg:∀i,i<a.length->a[i]?.getD 0=b[i]?.getD 0):a=b:=by
 apply List.ext_getElem h
 intro i h1 h2
 have:=hg i h1
 rw[c9 h1,c9 h2]at this
 exact this
def KV{C:List (List Rat)}(h:n<=r.length):(lI n C r)[i]?.getD 0=if i<n then r[i]?.getD 0 else ((C[i-n]?).map fun c=>mm c (r.drop n)).getD 0:=by
 by_cases hi:i<n
 ·rw[ay hi,PZ h hi]
 ·rw[ak hi]
  have:=Ysp (C:=C) (j:=i-n) h
  rw[show n+(i-n)=i by omega]at this
  rw[this]
def Ypv{C:List (List Rat)}{p:Rat}(h:n<=r.length):lI n C (r.map fun x=>x/p)=(lI n C r).map fun x=>x/p:=by
 have h':n<=(r.map fun x=>x/p).length:=by rw[je];exact h
 apply VS (by rw[I4 h',je,I4 h])
 intro i _
 rw[KV h',VP,VP,KV h]
 by_cases hi:i<n
 ·rw[ay hi,ay hi]
 ·rw[ak hi,ak hi]
  cases C[i-n]? with
  |none=>simp[Rat.div_def,Rat.zero_mul]
  |some c=>exact Yet fun k _=>by rw[KU,VP,KU]
def Ypu{C:List (List Rat)}{p:List Rat}(h:n<=r.length)(hp:r.length=p.length)(hk:k<n):lI n C (qO r p k)=qO (lI n C r) (lI n C p) k:=by
 have h':n<=(qO r p k).length:=by rw[KO];exact h
 have Cd:n<=p.length:=by omega
 apply VS (by rw[I4 h',KO,I4 h])
 intro i _
 rw[KV h',VQ hp,VQ (r:=lI n C r) (by rw[I4 h,I4 Cd]),KV h,KV Cd,PZ h hk]
 by_cases hi:i<n
 ·rw[ay hi,ay hi,ay hi]
 ·rw[ak hi,ak hi,ak hi]
  cases C[i-n]? with
  |none=>simp[Rat.mul_zero,Rat.sub_self]
  |some c=>exact Yes fun j _=>by rw[KU,VQ hp,KU,KU]
def I5{F:List Rat->List Rat}(h:i<m.length):((m.map F)[i]?).getD []=F (m[i]?.getD []):=by
 rw[fV,c9 h]
 rfl
def Ykn{m:List (List Rat)}{n k L:Nat}{C:List (List Rat)}(hc:b_ m L)(hn:n<=L)(hk:k<n):∀{t d:Nat},d+t<=m.length->oc (m.map (lI n C)) k d t=oc m k d t
 |0,d,_=>rfl
 |t+1,d,h=>by
  have hl:=hc.at (i:=d) (by omega)
  unfold oc
  rw[I5 (by omega),PZ (by omega) hk,Ykn hc hn hk (by omega)]
def Yl7{F:List Rat->List Rat}{p:Nat}(hd:d<m.length)(hp:p<m.length):cr (m.map F) d p=(cr m d p).map F:=by
 unfold cr
 rw[I5 hd,I5 hp,List.map_set,List.map_set]
def Ymj{L:Nat}{C:List (List Rat)}(hc:b_ m L)(hn:n<=L)(hk:k<n)(hd:d<m.length):gE (m.map (lI n C)) d k=(gE m d k).map (lI n C):=by
 have hl:=hc.at hd
 unfold gE
 rw[I5 hd,List.map_set,PZ (by omega) hk,Ypv (by omega)]
def You{t L:Nat}{C:List (List Rat)}(hc:b_ m L)(hn:n<=L)(hk:k<n)(hd:d<m.length):cC (m.map (lI n C)) d k t=(cC m d k t).map (lI n C):=by
 have hl:=hc.at hd
 unfold cC
 rw[je,List.map_map]
 apply A6
 intro i hi
 have hi:=zq.1 hi
 have P0:=hc.at hi
 simp only[Function.comp]
 rw[I5 hi,I5 hd]
 split
 ·rw[Ypu (by omega) (by omega) hk]
 ·rfl
def Ymc{s:List (List Rat)×Nat×List Nat}{L:Nat}{C:List (List Rat)}(hc:b_ s.1 L)(hn:n<=L)(hk:k<n)(hd:s.2.1<=s.1.length):jw (s.1.map (lI n C),s.2.1,s.2.2) k=((jw s k).1.map (lI n C),(jw s k).2.1,(jw s k).2.2):=by
 obtain⟨m,d,ps⟩:=s
 simp only at hc hd
 have e:fF (m.map (lI n C)) d k=fF m d k:=by
  unfold fF
  rw[je]
  exact Ykn hc hn hk (by omega)
 have hle:=(FG (m:=m) (k:=k) (n:=m.length-d) (d:=d)).1
 unfold jw
 simp only
 rw[e,je]
 by_cases hp:fF m d k<m.length
 ·have d_:d<m.length:=by unfold fF at hp;omega
  rw[ay hp,ay hp]
  have c1:=hc.B1 d_ hp
  have c2:=c1.IG (d:=d) (k:=k) (by rw[sM];exact d_)
  rw[Yl7 d_ hp,Ymj c1 hn hk (by rw[sM];exact d_),You c2 hn hk (by rw[DE,sM];exact d_)]
 ·rw[ak hp,ak hp]
def Yen{m:List (List Rat)}{n L:Nat}{C:List (List Rat)}(hc:b_ m L)(hn:n<=L):∀{k:Nat},k<=n->aU (m.map (lI n C)) k=((aU m k).1.map (lI n C),(aU m k).2.1,(aU m k).2.2)
 |0,_=>rfl
 |k+1,h=>by
  have I:=pQ hc (n:=k)
  have hl:=Be (m:=m) (n:=k)
  rw[uQ,uQ,Yen hc hn (by omega)]
  exact Ymc I.1 hn (by omega) (by rw[hl];exact I.2)
variable {G X m:List (List Rat)} {i n:Nat}
def dc(G X:List (List Rat)):List (List Rat):=(List.range G.length).map fun i=>G[i]?.getD []++X[i]?.getD []
def yW(n i:Nat):List Rat:=(List.range n).map fun j=>if j=i then 1 else 0
def gg(n:Nat):List (List Rat):=(List.range n).map (yW n)
def dH(a C:List (List Rat)):List (List Rat):=a.map fun r=>C.map fun c=>mm c r
def x9(G:List (List Rat))(n:Nat):Option (List (List Rat)):=if (aU (dc G (gg n)) (n+n)).2.1=n/\∀i,i<n->(aU (dc G (gg n)) (n+n)).2.2[i]?.getD 0=i then some ((qP (dc G (gg n)) (n+n)).map (List.drop n)) else none
def sU(G X:List (List Rat))(n c:Nat):Option (List (List Rat)):=if (aU (dc G X) (n+c)).2.1<n\/(aU (dc G X) (n+c)).2.2[n-1]?.getD 0≠n-1 then none else some ((qP (dc G X) (n+c)).map (List.drop n))
def vg:(dc G X).length=G.length:=by simp[dc]
def yK{c:Nat}(hG:b_ G n)(hX:b_ X c)(hl:G.length<=X.length):b_ (dc G X) (n+c):=fun r hr=>by
 obtain⟨i,hi,rfl⟩:=fv.1 hr
 have hi:=zq.1 hi
 rw[i_,hG.at hi,hX.at (by omega)]
def Ybm:(yW n i).length=n:=by simp[yW]
def Yl1{j:Nat}(h:j<n):(yW n i)[j]?.getD 0=if j=i then 1 else 0:=by simp[yW,h]
def PC:(gg n).length=n:=by simp[gg]
def Yru(h:i<n):(gg n)[i]?.getD []=yW n i:=by simp[gg,h]
def PB:b_ (gg n) n:=fun r hr=>by
 obtain⟨i,_,rfl⟩:=fv.1 hr
 exact Ybm
def Yer{a:List Rat}{n i:Nat}:∀{m:Nat},m<=n->kR a (yW n i) m=if i<m then a[i]?.getD 0 else 0
 |0,_=>by simp[kR]
 |m+1,h=>by
  unfold kR
  rw[Yer (a:=a) (i:=i) (m:=m) (by omega),Yl1 (by omega)]
  by_cases e:m=i
  ·subst e
   simp[Rat.mul_one,Rat.zero_add]
  ·rw[ak e,Rat.mul_zero,Rat.add_zero]
   by_cases e2:i<m
   ·rw[ay e2,ay (by omega)]
   ·rw[ak e2,ak (by omega)]
def Yf9{c:Nat}(hG:b_ G n)(hl:G.length=n)(hX:b_ X c)(hx:X.length=n):dc G X=(dc G (gg n)).map (lI n (eE X c)):=by
 unfold dc
 rw[List.map_map]
 apply A6
 intro i hi
 have hi:=zq.1 hi
 have l1:=hG.at hi
 simp only[Function.comp]
 rw[Yru (by omega)]
 unfold lI
 rw[List.take_left' l1,List.drop_left' l1]
 congr 1
 have l2:=hX.at (i:=i) (by omega)
 apply VS (by rw[l2];simp[eE])
 intro j hj
 rw[l2]at hj
 unfold eE
 rw[List.map_map,fV,FF hj]
 simp only[xV,pd,Function.comp]
 unfold mm
 have l3:(jy X j).length=n:=by simp[jy,hx]
 rw[l3,Yer (aQ _),ay (by omega)]
 unfold jy
 rw[fV]
 cases X[i]?<;>simp
def Yem{m:List (List Rat)}{k:Nat}:∀{e:Nat},∃l:List Nat,(aU m (k+e)).2.2=(aU m k).2.2++l/\∀x∈l,k<=x
 |0=>⟨[],by simp,fun x hx=>by simp at hx⟩
 |e+1=>by
  obtain⟨l,h1,h2⟩:=Yem (m:=m) (k:=k) (e:=e)
  rw[<-pe,uQ]
  unfold jw
  split
  ·refine⟨l++[k+e],by simp[h1],fun x hx=>?_⟩
   rcases kh.1 hx with hx|hx
   ·exact h2 x hx
   ·simp at hx
    omega
  ·exact⟨l,h1,h2⟩
def Ykq{d:Nat}{ps:List Nat}(h:yD m d ps d){i:Nat}(hi:i<d):ps[i]?.getD 0=i:=by
 have up:∀j,j<d->j<=ps[j]?.getD 0:=fun j=>by
  induction j with
  |zero=>intro _;omega
  |succ j ih=>
   intro hj
   have:=h.IY j (j+1) (by omega) hj
   have:=ih (by omega)
   omega
 have dn:∀j,j<d->ps[d-1-j]?.getD 0+j<d:=fun j=>by
  induction j with
  |zero=>intro h0;exact h.lt (d-1) (by omega)
  |succ j ih=>
   intro hj
   have h1:=h.IY (d-1-(j+1)) (d-1-j) (by omega) (by omega)
   have:=ih (by omega)
   omega
 have h1:=up i hi
 have h2:=dn (d-1-i) (by omega)
 rw[show d-1-(d-1-i)=i by omega]at h2
 omega
def Zxk{L e:Nat}(hm:b_ m L)(h0:0<n)(ht:(aU m n).2.1<n)(hd:(aU m (n+e)).2.1=n):n<=(aU m (n+e)).2.2[n-1]?.getD 0:=by
 obtain⟨l,q1,q2⟩:=Yem (m:=m) (k:=n) (e:=e)
 have J:=(A5 hm (n:=n)).len
 have J2:=(A5 hm (n:=n+e)).len
 rw[hd,q1,i_]at J2
 rw[q1,nU (by omega)]
 have ax:n-1-(aU m n).2.2.length<l.length:=by omega
 rw[c9 ax]
 exact q2 _ (List.getElem_mem ax)
def Yqv{c:Nat}(hG:b_ G n)(hl:G.length=n)(h0:0<n)(hX:b_ X c)(hx:X.length=n):sU G X n c=(x9 G n).map fun H=>dH H (eE X c):=by
 have hW:=yK hG (PB (n:=n)) (by rw[PC,hl];exact aQ _)
 have lW:(dc G (gg n)).length=n:=by rw[vg,hl]
 have I:=A5 hW (n:=n)
 have hle:=(pQ hW (n:=n)).2
 have hwx:=Yf9 hG hl hX hx
 have hE:=Yen (C:=eE X c) hW (Nat.le_add_right n n) (aQ n)
 rw[<-hwx]at hE
 have lX:(dc G X).length=n:=by rw[vg,hl]
 unfold sU x9 qP
 by_cases f:(aU (dc G (gg n)) n).2.1=n
 ·have e1:=PO (f.trans lW.symm) (n:=n)
  have e2:aU (dc G X) (n+c)=aU (dc G X) n:=PO (by rw[hE,lX];exact f)
  rw[e1,e2,hE]
  simp only
  rw[f]at I
  rw[ak (by rw[f,Ykq I (by omega)];omega),ay ⟨f,fun i hi=>Ykq I hi⟩,xV,f]
  congr 1
  unfold dH
  rw[List.map_map,<-List.map_take,List.map_map]
  apply A6
  intro r hr
  have lr:=(pQ hW (n:=n)).1 r (yL hr)
  simp only[Function.comp]
  unfold lI
  exact List.drop_left' (by rw[gG];omega)
 ·have ht:(aU (dc G (gg n)) n).2.1<n:=by omega
  have xb:(aU (dc G X) n).2.1<n:=by rw[hE];exact ht
  have hWX:=yK hG hX (by omega)
  rw[ay,ak]
  ·rfl
  ·rintro⟨a,b⟩
   have:=Zxk hW h0 ht a
   rw[b (n-1) (by omega)]at this
   omega
  ·by_cases d:(aU (dc G X) (n+c)).2.1<n
   ·exact .inl d
   ·have h5:=(pQ hWX (n:=n+c)).2
    have:=Zxk hWX h0 xb (e:=c) (by omega)
    exact .inr (by omega)
set_option maxHeartbeats 1000000
def A.KW:=A.q Tryz.f116
def A.jF:=A.ql A.KW 0 []
def A.b116:=(fun x0=>A.qb A.KW [x0]) A.jF
def A.k116:=@A.kk 116 22 [.tmp 4] A.b116 (by kernel_rfl) rfl
def Yij{h:T O}{N:Nat}{v f:V}{l:List V}{Q:Nat->T O->Nat->V->Prop}(Y:V->Prop)(hQ:∀j h n h' n' c u,Q j h n c->dG (fun i=>i∈bZ u) h n h' n'->kl 73 Y h u->Q j h' n' c)(hs:Sl h N v l)(hl:l.length<1000000000)(hf:∀(j:Nat) (x:V),l[j]?=some x->∀h' n',ab h N h' n'->jg A.C f [x] h' n' (fun u h2 n2=>∃y,u=y/\[y].length=1/\[y].all V.one=true/\(∀q∈[y],Y q)/\Q j h2 n2 y)):Fn A.C 116 [v,f] h N (fun u h' n'=>∃out,Own 1 73 N h' n' u out/\out.length=l.length/\∀(j:Nat),j<l.length->∃y,out[j]?=some [y]/\Q j h' n' y):=by
 intro w
 have hlen:=hs.len
 rw[aN,A.k116 (by simp)]
 simp[A.b116,hlen]
 refine bG [(5,5),(7,7),(10,20)] (fun e r st=>e=.exit 0/\av N st.w=[]/\ab h N st.h st.n/\∃u out,r.get 5=some u/\Own 1 73 N st.h st.n u out/\out.length=l.length/\∀(j:Nat),j<l.length->∃y,out[j]?=some [y]/\Q j st.h st.n y) (fun m r st=>av N st.w=[]/\ab h N st.h st.n/\∃k u out,k+m=l.length/\r.get 10=some (.int .i64 k)/\r.get 5=some u/\Own 1 73 N st.h st.n u out/\out.length=k/\(out=[]->u=.aa)/\(∀c∈out,∀y∈c,Y y)/\∀(j:Nat),j<k->∃y,out[j]?=some [y]/\Q j st.h st.n y) l.length ?_ ?_ ?_
 ·exact⟨by simp,ab.refl,0,.aa,[],by omega,by simp,by simp,Own.nil,rfl,fun _=>rfl,by simp,fun j hj=>by omega⟩
 ·rintro m r ⟨H,n1,W⟩ hr cU ⟨hW,hK,k,u,out,hk,fx,h5,ho,fy,qS,hY,cJ⟩
  simp only at hW hK ho cJ
  rw[bk]
  cases m with
  |zero=>
   have qT:k=l.length:=by omega
   subst qT
   simp[A.jF,hr,cU,fx,hW,hK]
   exact⟨u,h5,out,ho,fy,cJ⟩
  |succ m=>
   have ax:k<l.length:=by omega
   obtain⟨x,hx⟩:=bh ax
   obtain⟨i,o,cc,e,rw,q1,q2,q3,q4⟩:=(hs.ae hK).at hx
   have bL:(k:Int)<(l.length:Int):=by omega
   have kA:=hK
   simp[A.jF,hr,cU,fx,h5,bL,ax,hlen,q1,q3,q4]
   refine zz (hf k x hx _ _ kA) ?_
   rintro y h3 n3 k3 ⟨_,rfl,c1,c2,cY,c3⟩
   have iN:=k3.le
   have kn:=hK.le
   have kB:=kA.trans k3
   have b1:V.one y=true:=by simpa using c2
   have b2:V.cells y=[y]:=by cases y<;>first|rfl|cases b1
   simp[-V.cells, -V.one,hr,cU,fx,h5,b1,b2,ad]
   have sZ:Own 1 73 N (h3.set n3 (.cells [y] 73 true)) (n3+1) u out:=(ho.ae ((ab.refl).trans k3)).ae (ab.refl.new _)
   obtain⟨v',h',w',f1,f2,f3,f4,fD,f5⟩:=Cf (Y:=Y) (x:=[y]) (u:=.slice n3 0 1 (some 1) 1) (bytes:=24) (w:=W) sZ qS hY (by omega) (by decide) c1 (by simp[eA,St.row,aD]) (by omega)
   rw[f1]
   have fH:¬n1<N:=by omega
   have f6:av N w'=[]:=by rw[f2];simp[av,hW,fH]
   have kz:=(kB.new (.cells [y] 73 true)).then f3
   have k4:ab h3 n3 (h3.set n3 (.cells [y] 73 true)) (n3+1):=ab.refl.new _
   have xc:Q k (h3.set n3 (.cells [y] 73 true)) (n3+1) y:=hQ _ _ _ _ _ _ .aa c3 k4.upd kl.nil
   simp(disch:=first|(simp;done)|omega|rfl) [hr,cU,fx,f6]
   refine⟨m,by omega,kz,k+1,by omega,by simp,out++[[y]],f5,by simp[fy],by simp,fun c' hc z hz=>?_,fun j hj=>?_⟩
   ·rcases kh.1 hc with hc|hc
    ·exact hY c' hc z hz
    ·simp only[uz]at hc;subst hc;exact cY z hz
   by_cases p_:j<k
   ·obtain⟨y,g1,g2⟩:=cJ j p_
    exact⟨y,by rw[kJ (by omega)];exact g1,hQ _ _ _ _ _ _ _ (hQ _ _ _ _ _ _ .aa g2 (((ab.refl).trans k3).trans k4).upd kl.nil) f4 fD⟩
   ·obtain rfl:j=k:=by omega
    exact⟨y,by rw[nU (by omega),fy];simp,hQ _ _ _ _ _ _ _ xc f4 fD⟩
 ·rintro _ r ⟨H,n1,W⟩ hr ⟨rfl,hW,hK,u,out,h5,ho,fy,cJ⟩
  simp only at hW hK ho cJ
  simp[hr,h5,aA,hW,hK]
  exact⟨out,ho,fy,cJ⟩
def A.b43:=A.q Tryz.f43
def A.k43:=@A.kk 43 15 [.tmp 4] A.b43 (by kernel_rfl) rfl
def A.b117:=A.q Tryz.f117
def A.k117:=@A.kk 117 7 [.tmp 3] A.b117 (by kernel_rfl) rfl
def A.b126:=A.q Tryz.f126
def A.k126:=@A.kk 126 7 [.tmp 3] A.b126 (by kernel_rfl) rfl
def Zw7{out:List (List V)}(h:∀x∈out,x.length=1):∃ys:List V,out=ys.map fun y=>[y]:=by
 induction out with
 |nil=>exact⟨[],rfl⟩
 |cons x t ih=>
  obtain⟨ys,rfl⟩:=ih fun x jx=>h x (nS _ jx)
  have:=h x nR
  match x,this with
  |[y],_=>exact⟨y::ys,rfl⟩
def Yn1{h:T O}{N:Nat}{v f:V}{m:List (List Rat)}(F:List Rat->List Rat)(hs:gh h N v m)(hl:m.length<100000)(hf:∀l∈m,∀u h' n',ab h N h' n'->ec h' n' u l->jg A.C f [u] h' n' (fun x h2 n2=>ec h2 n2 x (F l))):Fn A.C 116 [v,f] h N (fun u h' n'=>gh h' n' u (m.map F)):=by
 obtain⟨us,h1,h2,h3⟩:=hs
 have key:=Yij (f:=f) (Q:=fun j h n u=>∀l,(m.map F)[j]?=some l->ec h n u l) NW (fun j h n h' n' c u hq k hd l hl=>(hq l hl).bz k hd (by simp)) h1 (by omega) ?_
 ·intro w
  refine(key w).mono fun y st=>?_
  rintro⟨q1,q2,out,o1,o2,o3⟩
  obtain⟨ys,rfl⟩:=Zw7 o1.1
  refine⟨q1,q2,ys,Sn.one.1 o1.sn,by simpa[h2]using o2,fun j l hl=>?_⟩
  obtain⟨y,g1,g2⟩:=o3 j (by have:=f_ hl;simp at this;omega)
  refine⟨y,?_,g2 l hl⟩
  rw[fV]at g1
  cases hy:ys[j]? with
  |none=>rw[hy]at g1;simp at g1
  |some z=>rw[hy]at g1;simpa using g1
 ·intro j x hx h' n' hk
  obtain⟨l,hl⟩:=bh (l:=m) (k:=j) (by have:=f_ hx;omega)
  obtain⟨u,g1,g2⟩:=h3 j l hl
  rw[hx]at g1
  obtain rfl:x=u:=by simpa using g1
  refine fun w=>(hf l (bU hl) _ _ _ hk (g2.ae hk) w).mono fun y st=>?_
  rintro⟨q1,q2,q3⟩
  obtain⟨f1,f2,f3⟩:=q3.1.form
  refine⟨q1,q2,y,rfl,rfl,by simp only[List.all_cons,List.all_nil,f1,Bool.and_true],by simpa using f3,fun l' jj=>?_⟩
  rw[fV,hl]at jj
  obtain rfl:F l=l':=by simpa using jj
  exact q3
def IK{B:List (List Rat)}{c k:Nat}(hB:cW B k)(hk:1<=k):∀r∈eE B c,r.length=B.length/\∀q∈r,Qb k q:=fun r hr=>by
 unfold eE at hr
 obtain⟨i,_,rfl⟩:=fv.1 hr
 refine⟨by simp[jy],fun q hq=>?_⟩
 unfold jy at hq
 obtain⟨l,hl,rfl⟩:=fv.1 hq
 exact FM (hB l hl) hk i
def FN{B:List (List Rat)}{c:Nat}:(eE B c).length=c:=by simp[eE]
def Yqq{A C:List (List Rat)}{j k n:Nat}(hA:cW A k)(hC:∀r∈C,r.length=n/\∀q∈r,Qb j q)(hj:1<=j)(hk:1<=k):cW (dH A C) (n*(j+k+1)+1):=fun r hr q hq=>by
 unfold dH at hr
 obtain⟨a,ha,rfl⟩:=fv.1 hr
 obtain⟨c,hc,rfl⟩:=fv.1 hq
 obtain⟨h1,h2⟩:=hC c hc
 exact Yoy h2 (hA a ha) hj hk (by omega)
def UN{A C:List (List Rat)}:b_ (dH A C) C.length:=fun r hr=>by
 unfold dH at hr
 obtain⟨a,ha,rfl⟩:=fv.1 hr
 rw[je]
def PA{A C:List (List Rat)}:(dH A C).length=A.length:=by simp[dH]
end
end Go.Mx
