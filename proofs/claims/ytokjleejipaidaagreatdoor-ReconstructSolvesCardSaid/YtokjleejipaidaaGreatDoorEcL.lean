/-reconstruct-/
import Derived.Test.YtokjleejipaidaaGreatDoorCoI
set_option linter.all false
namespace Go.Mx
open Go Go.Proofs
variable {N R:Nat} {h:T O} {m:List (List Rat)}
set_option maxHeartbeats 4000000
set_option maxRecDepth 1000000
def Zxw{m:List (List Rat)}{k d:Nat}:∀{n j:Nat},(oo (fun i=>decide (((m.drop d)[i]?.getD [])[k]?.getD 0≠0)) j n= -1/\od m k (d+j) n=d+j+n)\/∃a:Nat,oo (fun i=>decide (((m.drop d)[i]?.getD [])[k]?.getD 0≠0)) j n=a/\od m k (d+j) n=d+a/\a<j+n
 |0,j=>.inl ⟨rfl,rfl⟩
 |n+1,j=>by
  unfold oo od
  simp only[ff]
  by_cases e:(m[d+j]?.getD [])[k]?.getD 0≠0
  ·rw[ax e]
   exact .inr ⟨j,by simp[e],rfl,by omega⟩
  ·rw[ak e]
   simp only[e,decide_false,fL,if_false]
   have ih:=@Zxw m k d n (j+1)
   simp only[ff]at ih
   rcases ih with⟨h1,h2⟩|⟨a,h1,h2,h3⟩
   ·exact .inl ⟨h1,by rw[show d+j+1=d+(j+1) by omega,h2];omega⟩
   ·exact .inr ⟨a,h1,by rw[show d+j+1=d+(j+1) by omega,h2],by omega⟩
def Ah(ps:List Nat):List Int:=ps.map fun p:Nat=>(p:Int)
def mr.bO{h':T O}{N':Nat}{v:V}{e:TypeId}(s:mr h N R m)(k:dS (fun i=>i∈cQ v) h N h' N')(hd:mM e NW h v)(he:e≠108)(vD:e≠72):mr h' N' R m:=by
 obtain⟨us,g1,g2,g3,g4,g5⟩:=s.ex
 refine⟨e_ s.lt k.le,us,(k.get R s.lt fun hc=>?_).trans g1,g2,g3,g4,fun j l hl=>?_⟩
 ·obtain⟨z,hz,_⟩:=hd R hc
  rw[g1]at hz
  simp at hz
  exact vD hz.2.symm
 ·obtain⟨u,a1,a2⟩:=g5 j l hl
  exact⟨u,a1,a2.bO k hd he⟩
def Zz5{W0:List Nat}{N0:Nat}{H:T O}{n:Nat}{r0:T V}{c:Nat}{B:Nat->Nat}(s:mr H n R m)(Ae:N0<=R)(hc:bp m c)(mj:m.length<1000)(gg:0<m.length)(cO:c<1000)(yD:∀n,1<=B n)(hK:∀k,bZ (aK m k).1 (B (aK m k).2.1))(hB:∀n,n<m.length->n<c->3*B n<=400000000)(kH:ab h N0 H n)(zj:ar N0 W0=[])(a4:r0.get 4=some (.slice R 0 m.length (some m.length) 1))(a5:r0.get 5=some .aa)(a6:r0.get 6=some (.int .i64 0))(a25:r0.get 25=some (.int .i64 c))(a26:r0.get 26=some (.int .i64 0)):
  Code A.C none (.loop A.q_) ⟨r0,120,[]⟩ ⟨H,n,W0⟩ (fun e fr st=>e=.exit 0/\ar N0 st.w=[]/\ab h N0 st.h st.n/\mr st.h st.n R (aK m c).1/\∃r v,Fx [(5,12),(26,115)] r0 120 ⟨r,120,[]⟩/\fr=⟨r,120,[]⟩/\r.get 6=some (.int .i64 (aK m c).2.1)/\r.get 5=some v/\qZ N0 st.h st.n v (Ah (aK m c).2.2)):=by
 rw[bb]
 refine bA [(5,12),(26,115)] (fun e r st=>e=.exit 0/\ar N0 st.w=[]/\ab h N0 st.h st.n/\mr st.h st.n R (aK m c).1/\∃v,r.get 6=some (.int .i64 (aK m c).2.1)/\r.get 5=some v/\qZ N0 st.h st.n v (Ah (aK m c).2.2)) (fun i r st=>ar N0 st.w=[]/\ab h N0 st.h st.n/\∃k v,k<=c/\i=c-k/\r.get 26=some (.int .i64 k)/\r.get 6=some (.int .i64 (aK m k).2.1)/\r.get 5=some v/\qZ N0 st.h st.n v (Ah (aK m k).2.2)/\(aK m k).2.1<m.length/\mr st.h st.n R (aK m k).1) c ?_ ?_ ?_
 ·exact⟨zj,kH,0,_,by omega,by omega,a26,a6,a5,qZ.nil,gg,s⟩
 ·rintro i r ⟨H1,n1,W⟩ hr hf ⟨hW,k1,k,pv,hk,rfl,BG,h6,h5,hO,yH,s1⟩
  simp only at hW k1 s1 hO
  rw[bb]
  have hlen:(aK m k).1.length=m.length:=BB
  obtain⟨Jn,iw⟩:=@lF m c hc k
  by_cases au:k<c
  ·have aS:(k:Int)<(c:Int):=by omega
   obtain⟨us,g1,g2,g3,g4,g5⟩:=id s1.ex
   have hR:=s1.lt
   have VK:¬R=n1:=by omega
   have kA:ab H1 n1 ((H1.set n1 (.cells [.int .i64 0] 3 true)).set n1 (.cells [.int .i64 k] 3 true)) (n1+1):=(ab.refl.new _).set (aO _)
   have gP:((H1.set n1 (.cells [.int .i64 0] 3 true)).set n1 (.cells [.int .i64 k] 3 true)).get n1=some (.cells [.int .i64 k] 3 true):=by rw[T.ag,ax rfl]
   have sA:=s1.ad kA
   have gA:=(kA.get R hR).trans g1
   have oA:=hO.ad kA
   have kU:=k1.trans kA
   simp[A.q_,hr,hf,a4,h5,h6,a25,BG,au,aS,bD,ae]
   generalize (H1.set n1 (.cells [.int .i64 0] 3 true)).set n1 (.cells [.int .i64 k] 3 true)=G at*
   have hs:Sl G (n1+1) (.slice R 0 m.length (some m.length) 1) us:=Sl.row (by omega) gA (by omega) fun k hk=>by simp at hk;omega
   obtain⟨sv,e1,e2⟩:=Es (w:=n1::W) hs (lo:=(aK m k).2.1) (hi:=us.length) (by omega) (aO _) (some (.int .i64 (aK m k).2.1)) none (.inl rfl) (.inr ⟨rfl,rfl⟩)
   rw[fb (aO _)]at e2
   simp[BH,hr,hf,a4,h5,h6,a25,BG,e1]
   have CH:eS (aK m k).1 (aK m k).2.1 k=m.length->aK m (k+1)=aK m k:=fun hp=>by
    rw[uM]
    unfold iV
    rw[ak (by omega)]
   have iJ:eS (aK m k).1 (aK m k).2.1 k<m.length->aK m (k+1)=(cg (fJ (cf (aK m k).1 (aK m k).2.1 (eS (aK m k).1 (aK m k).2.1 k)) (aK m k).2.1 k) (aK m k).2.1 k (aK m k).1.length,(aK m k).2.1+1,(aK m k).2.2++[k]):=fun hp=>by
    rw[uM]
    unfold iV
    rw[ax (by omega)]
   have zax:=@Vz m k
   have hpp:=@Yf2 m k
   have VD:bZ (aK m k).1 (B (aK m k).2.1):=hK _
   have VX:=@Lj m (k+1)
   generalize hd:(aK m k).2.1=d at*
   generalize mL:(aK m k).1=m1 at*
   generalize rk:(aK m k).2.2=ps at*
   have Jt:n1<n1+1:=by omega
   have VY:(us.drop d).length=m1.length-d:=by rw[xF,g2]
   refine ay (Yp6 (us.drop d) (fun i:Nat=>decide (((m1.drop d)[i]?.getD [])[k]?.getD 0≠0)) e2 (by omega) fun j x hx h' n' gS=>?_) ?_
   ·have jv:us[d+j]?=some x:=by rw[<-ff];exact hx
    obtain⟨row,al⟩:=a_ (l:=m1) (k:=d+j) (by have:=jt jv;omega)
    obtain⟨y,b1,b2⟩:=g5 _ _ al
    rw[jv]at b1
    simp only[an]at b1
    subst b1
    have:=Ytx (k:=k) ((gS.get n1 Jt).trans gP) (e_ Jt gS.le) ((b2.ad kA).ad gS).1 (by rw[Jn row (bM al)];exact au)
    simp only[ff,al,jz]
    exact this
   rintro _ H2 n2 k2 rfl
   rw[VY]
   have jA:=k2.le
   have Qv:=(k2.get n1 Jt).trans gP
   have s2:=sA.ad k2
   have o2:=oA.ad k2
   have qj:=(k2.get R (by omega)).trans gA
   have VZ:=kU.trans k2
   have Lp:¬n1<N0:=by have:=k1.le;omega
   have xy:R<n2:=by omega
   rcases @Zxw m1 k d (m1.length-d) 0 with⟨f1,f2⟩|⟨a,f1,f2,f3⟩
   ·rw[f1]
    have BF:eS m1 d k=m.length:=by unfold eS;have:=f2;rw[iX]at this;omega
    simp(disch:=first|(simp;done)|omega|rfl) [hr,hf,h5,h6,BG,a4,Lp,hW]
    refine⟨c-(k+1),by omega,VZ,k+1,by omega,rfl,by simp,?_,?_⟩
    ·rw[CH BF];simp[hd]
    ·rw[CH BF,mL,rk,hd]
     exact⟨o2,yH,s2⟩
   ·rw[f1]
    rw[iX]at f2
    obtain⟨p,hp⟩:∃p,p=d+a:=⟨_,rfl⟩
    have vt:eS m1 d k=p:=by unfold eS;omega
    have hda:(d:Int)+(a:Int)=(p:Int):=by omega
    have iG:p<m1.length:=by omega
    have du:d<m1.length:=by omega
    obtain⟨rd,yF⟩:=a_ du
    obtain⟨rp,yG⟩:=a_ iG
    obtain⟨ud,x3,x4⟩:=g5 _ _ yF
    obtain⟨up,y3,y4⟩:=g5 _ _ yG
    have Ld:d<us.length:=by omega
    have Lf:p<us.length:=by omega
    have zk:(d:Int)<(m.length:Int):=by omega
    have Gp:(p:Int)<(m.length:Int):=by omega
    have GB:d<m.length:=by omega
    have BC:p<m.length:=by omega
    have V0:¬(a:Int)<0:=by omega
    have z1:∀u,ae us d [u]=us.set d u:=fun u=>Cy Ld
    have z2:∀u,ae (us.set d up) p [u]=(us.set d up).set p u:=fun u=>Cy (by simp;exact Lf)
    obtain⟨_,c1,o1⟩:=x4.Ep
    obtain⟨_,c2,Qw⟩:=y4.Ep
    have l1:d+1<=us.length:=Ld
    have l2:p+1<=us.length:=Lf
    simp(disch:=first|(simp;done)|omega|rfl) [-getElem?_pos, -V.cells, -V.one,hr,hf,a4,h5,h6,BG,hda,V0,zk,Gp,GB,BC,qj,x3,y3,xy,bD,c1,o1,c2,Qw,z1,z2,l1,l2]
    have U2:dS (fun i=>i=R) H2 n2 ((H2.set R (.cells (us.set d up) 72 true)).set R (.cells ((us.set d up).set p ud) 72 true)) n2:=⟨aO _,fun i _ hi=>by rw[T.ag,ak hi,T.ag,ak hi]⟩
    have GC:(H2.set R (.cells (us.set d up) 72 true)).get R=some (.cells (us.set d up) 72 true):=by rw[T.ag,ax rfl]
    have Ai:=(x4.ad kA).ad k2
    have V1:=(y4.ad kA).ad k2
    have sA1:=s2.CD qj V1 du
    have sB:=sA1.CD GC (Ai.bg qj (by decide) g3 (by simp)) (i:=p) (by rw[zn];exact iG)
    have gB:((H2.set R (.cells (us.set d up) 72 true)).set R (.cells ((us.set d up).set p ud) 72 true)).get R=some (.cells ((us.set d up).set p ud) 72 true):=by rw[T.ag,ax rfl]
    have Em:(m1.set d rp).set p rd=cf m1 d p:=by unfold cf;rw[yF,yG];rfl
    rw[Em]at sB
    have xx:((us.set d up).set p ud).length=m1.length:=by simp only[zn];omega
    generalize (H2.set R (.cells (us.set d up) 72 true)).set R (.cells ((us.set d up).set p ud) 72 true)=G2 at*
    generalize (us.set d up).set p ud=vs at*
    have gPB:=(U2.get n1 (by omega) (by omega)).trans Qv
    have oB:=o2.vw qj (fun z hz=>by simp at hz) U2
    have Aa:=VD.BD (d:=d) (p:=p)
    have Lg:=Jn.BD du iG
    have VE:(cf m1 d p).length=m1.length:=pz
    have aW:=@Gq m1 k (m1.length-d) d (by unfold eS at vt;omega)
    have al:(cf m1 d p)[d]?=some rp:=by
     rw[<-Em]
     by_cases e:p=d
     ·rw[e,yF]at yG
      simp only[an]at yG
      rw[e,yG,jB (by simp;omega)]
     ·rw[eH e,jB du]
    have vu:rp[k]?.getD 0≠0:=by
     have h9:=vt
     unfold eS at h9
     rw[h9,yG]at aW
     exact aW
    obtain⟨ky,vd,b1,b2,b3,b4⟩:=sB.at al
    rw[gB]at b1
    simp only[an,O.cells.injEq,and_true]at b1
    subst b1
    have VF:=Lg rp (bM al)
    obtain⟨q,hq⟩:=a_ (l:=rp) (k:=k) (by omega)
    have yC:=Aa rp (bM al)
    have iU:=yC q (bM hq)
    have tj:q≠0:=by rw[hq]at vu;exact vu
    have hkq:=hB d GB (by omega)
    obtain⟨i1,t1,w1,e3,v1,cs,q1,q2,q3,q4,q5⟩:=b4.1.at hq
    obtain⟨r1,r2⟩:=q5.len
    have oc:=b4.1.len
    have bG:(k:Int)<(rp.length:Int):=by omega
    have eF:k<rp.length:=by omega
    have ke:∀c:List V,(V.agg c).cells=c:=fun _=>rfl
    have s0:=Jr r1
    have e4:=Qq r1
    have Jx:n2<n2+1:=by omega
    have V2:¬R=n2:=by omega
    have lP2:n1<n2:=by omega
    have V3:¬n1=n2:=by omega
    simp(disch:=first|(simp;done)|omega|rfl) [-getElem?_pos, -V.cells, -V.one,hr,hf,a4,h5,h6,BG,b3,gB,gPB,lP2,xy,q1,q2,q3,q4,Ju q4,oc,bG,eF,zk,GB,bD,ke,r1,r2,s0,e4,Jx,V2,V3]
    have kC:ab G2 n2 ((G2.set n2 (.cells [.int .i64 0,.aa,.int .i64 0,.aa] 108 true)).set n2 (.cells cs 108 true)) (n2+1):=(ab.refl.new _).set (aO _)
    have gQ:((G2.set n2 (.cells [.int .i64 0,.aa,.int .i64 0,.aa] 108 true)).set n2 (.cells cs 108 true)).get n2=some (.cells cs 108 true):=by rw[T.ag,ax rfl]
    generalize (G2.set n2 (.cells [.int .i64 0,.aa,.int .i64 0,.aa] 108 true)).set n2 (.cells cs 108 true)=G3 at*
    refine ay (Ypm (fun x=>x/q) (b4.ad kC).1 (by omega) fun x hx c' h' n' k' pW=>Ytw (j:=B d) (k:=B d) ((k'.get n2 Jx).trans gQ) (e_ Jx k'.le) pW ((q5.ad kC).ad k') tj (yC x hx) iU (by omega) (by omega)) ?_
    rintro v3 H3 n3 k3 t3
    have BA:=k3.le
    have gR3:=(k3.get R (by omega)).trans ((kC.get R xy).trans gB)
    have sC:=((sB.ad kC).ad k3).CD gR3 t3 (i:=d) (by rw[VE];exact du)
    have Gt:(cf m1 d p).set d (rp.map fun x=>x/q)=fJ (cf m1 d p) d k:=by
     unfold fJ
     rw[al]
     simp only[jz,hq]
    rw[Gt]at sC
    have Jo:(fJ (cf m1 d p) d k).length=m.length:=by rw[BE,pz];exact hlen
    have uO:d<vs.length:=by omega
    have Gs:d+1<=vs.length:=uO
    have z3:∀u,ae vs d [u]=vs.set d u:=fun u=>Cy uO
    have Lh:R<n3:=by omega
    have lRp:R<n2+1:=by omega
    obtain⟨_,c3,o3⟩:=t3.Ep
    simp(disch:=first|(simp;done)|omega|rfl) [-V.cells, -V.one,hr,hf,a4,h5,h6,BG,gR3,Lh,xy,lRp,bD,c3,o3,z3,uO,Gs]
    have U3:dS (fun i=>i=R) H2 n2 (H3.set R (.cells (vs.set d v3) 72 true)) n3:=((U2.trans kC.upd).trans k3.upd).set (.inl rfl)
    have gPC:=(U3.get n1 (by omega) (by omega)).trans Qv
    have gRC:(H3.set R (.cells (vs.set d v3) 72 true)).get R=some (.cells (vs.set d v3) 72 true):=by rw[T.ag,ax rfl]
    generalize H3.set R (.cells (vs.set d v3) 72 true)=G4 at*
    refine lG (Yix (cp:=some m.length) (N0:=N0) (P:=n1) (d:=d) (K:=B d) sC Ae gPC (by omega) (Lg.Gu (by omega)) au (by omega) (by omega) (by omega) (yD _) (fun i hi=>by
     unfold fJ
     rw[eH (Ne.symm hi)]
     exact Aa.at) (by
     unfold fJ
     rw[jB (by omega)]
     exact Ylz Aa (yD _) (by rw[al];exact vu)) (by omega) (by simp[tK.2 Ae,Lp,hW,show ¬n2<N0 by omega]) (by simp[hr,a4,Jo]) (by simp[hr,h6]) (by simp[hr]) (by simp[hr,Jo]) (by simp)) ?_
    rintro _ _ ⟨H4,n4,W4⟩ ⟨rfl,Li,U4,s4,r4,f4,rfl⟩
    simp only at Li U4 s4
    have pU:=f4.dN
    have Cz:=hf.inner (D':=[(10,12),(72,104)]) (by decide) (fun hx=>by simpa[Fx.set]using hx) pU
    have Lx:=U4.le
    have gP4:=(U4.get n1 (by omega) (by omega)).trans gPC
    have o4:=(o2.vw qj (fun z hz=>by simp at hz) U3).vw gRC (fun z hz=>by simp at hz) U4
    have lP4:n1<n4:=by omega
    have oz:ae [V.int .i64 0] 0 [V.int .i64 k]=[V.int .i64 k]:=rfl
    simp[pU,Cz,hr,a4,h5,h6,BG,gP4,lP4,oz]
    have kD:ab H4 n4 (H4.set n4 (.cells [.int .i64 k] 3 true)) (n4+1):=ab.refl.new _
    obtain⟨v',h',w',j1,j2,j3,j4,j5,j6⟩:=qZ.push (B:=N0) (x:=.slice n4 0 1 (some 1) 1) (k:=k) (w:=W4) (o4.ad kD) (aO _) (by omega) Li (by simp[ef,St.row,aC]) (by simp[Ah];omega)
    have s5:=(s4.ad kD).bO j3 j4 (by decide) (by decide)
    have kF:ab h N0 h' (n4+1+1):=⟨by have:=VZ.le;omega,fun i hi=>by
     rw[j3.get i (by omega) (fun hc=>by have:=j5 i hc;omega),T.ag,ak (by omega),U4.get i (by omega) (by omega),U3.get i (by omega) (by omega)]
     exact VZ.get i hi⟩
    have dK:=iJ (by omega)
    rw[vt]at dK
    rw[Jo,<-hlen]at s5
    have Qx:Ah (ps++[k])=Ah ps++[(k:Int)]:=by simp[Ah]
    by_cases hE:d+1=m.length
    ·have V4:(d:Int)+1=(m.length:Int):=by omega
     have hcf:aK m c=aK m (k+1):=by
      have:=VX (n:=c-(k+1)) (by rw[dK];exact hE)
      rw[<-this,show k+1+(c-(k+1))=c by omega]
     simp(disch:=first|(simp;done)|omega|rfl) [vE,j1,pU,Cz,hr,a4,h5,h6,BG,V4,aJ,j2,kF]
     rw[hcf,dK,Qx]
     exact⟨s5,hE.symm,j6⟩
    ·have V4:¬(d:Int)+1=(m.length:Int):=by omega
     simp(disch:=first|(simp;done)|omega|rfl) [vE,j1,pU,Cz,hr,a4,h5,h6,BG,V4,aJ,j2,kF]
     refine⟨c-(k+1),by omega,k+1,by omega,rfl,by simp,?_⟩
     rw[dK,Qx]
     exact⟨by simp,j6,by show d+1<m.length;omega,s5⟩
  ·obtain rfl:k=c:=by omega
   simp[A.q_,hr,hf,a4,h5,h6,a25,BG,k1,hW]
   exact⟨s1,hO⟩
 ·rintro _ r st hr ⟨rfl,hw,k1,s1,v,h6,h5,hO⟩
  simp[]
  exact⟨hw,k1,s1,r,⟨hr,rfl,rfl⟩,rfl,h6,v,h5,hO⟩
def mr.Et{d:Nat}{v:V}{us:List V}(s:mr h N R m)(g:h.get R=some (.cells us 72 true))(hv:Sl h N v (us.take d))(hd:d<=m.length):fK h N v (m.take d):=by
 obtain⟨vs,g1,g2,_,_,g3⟩:=s.ex
 rw[g]at g1
 simp only[an,O.cells.injEq,and_true]at g1
 subst g1
 refine⟨us.take d,hv,by simp[g2],fun j l hl=>?_⟩
 by_cases hj:j<d
 ·rw[iI,ax hj]at hl ⊢
  exact g3 j l hl
 ·rw[iI,ak hj]at hl
  cases hl
def Zqv{u:V}{c:Nat}{B:Nat->Nat}(hu:fK h N u m)(hc:bp m c)(mj:m.length<1000)(gg:0<m.length)(cO:c<1000)(yD:∀n,1<=B n)(hK:∀k,bZ (aK m k).1 (B (aK m k).2.1))(hB:∀n,n<m.length->n<c->3*B n<=400000000):Fn A.C 57 [u] h N (fun x h' n'=>∃a b,x=.aV [a,b]/\fK h' n' a (bY m c)/\qZ N h' n' b (Ah (aK m c).2.2)):=by
 intro w
 have lu:=hu.len
 obtain⟨us,h1,h2,h3⟩:=hu
 have fO:=h1
 rcases h1 with⟨hn,_⟩|⟨i,o,cp,c',e,mP,rfl,q2,q3,q4,q5,q6⟩
 ·rw[hn]at h2
  simp at h2
  omega
 have aW:¬i=N:=by omega
 have Eu:(h.set N (.cells (cW [.aa] m.length) 72 true)).get i=some (.cells c' e mP):=by rw[T.ag,ak aW];exact q3
 have gz:(h.set N (.cells (cW [.aa] m.length) 72 true)).get N=some (.cells (cW [.aa] m.length) 72 true):=by simp
 have my:=Ylv (N:=N+1) (w:=[]) (cp:=cp) Eu q4 q5
 rw[h2]at my
 have cpy:=Ybv (cp:=some m.length) gg my h2 gz (by rw[V5];simp)
 have kB:ab h N ((h.set N (.cells (cW [.aa] m.length) 72 true)).set N (.cells us 72 true)) (N+1):=(ab.refl.new _).set (aO _)
 have gN:((h.set N (.cells (cW [.aa] m.length) 72 true)).set N (.cells us 72 true)).get N=some (.cells us 72 true):=by rw[T.ag,ax rfl]
 have sR:mr ((h.set N (.cells (cW [.aa] m.length) 72 true)).set N (.cells us 72 true)) (N+1) N m:=⟨by omega,us,gN,h2,?nu,?one,fun j l hl=>by
  obtain⟨x,a1,a2⟩:=h3 j l hl
  exact⟨x,a1,a2.ad kB⟩⟩
 case nu=>
  intro x hx
  obtain⟨j,hj⟩:=uR hx
  obtain⟨l,hl⟩:=a_ (l:=m) (k:=j) (by have:=jt hj;omega)
  obtain⟨y,a1,a2⟩:=h3 j l hl
  rw[hj]at a1
  simp only[an]at a1
  subst a1
  exact a2.Ep.1
 case one=>
  rw[me]
  intro x hx
  obtain⟨j,hj⟩:=uR hx
  obtain⟨l,hl⟩:=a_ (l:=m) (k:=j) (by have:=jt hj;omega)
  obtain⟨y,a1,a2⟩:=h3 j l hl
  rw[hj]at a1
  simp only[an]at a1
  subst a1
  exact a2.Ep.2.1
 rw[h2]at fO
 obtain⟨l0,eG⟩:=a_ gg
 obtain⟨x0,b1,b2⟩:=h3 0 l0 eG
 obtain⟨i2,o2,cc2,e2,Jl,p1,p2,p3,p4⟩:=(fO.ad kB).at b1
 rw[iX]at p4
 have b3:=b2.1.len
 rw[hc l0 (bM eG)]at b3
 have V6:¬m=[]:=fun hc=>by rw[hc]at gg;simp at gg
 have yE:¬(m.length:Int)=0:=by omega
 have Ly:(0:Int)<(m.length:Int):=by omega
 have Qy:(24:Int)*(m.length:Int)<=140737488355328:=by omega
 have cc3:(m.length:Int)<4611686018427387904:=by omega
 rw[h2]at lu
 rw[aM,A.k57 (by simp)]
 simp[A.b57,h2,gg,yE,Ly,Qy,cc3,cpy,aJ,V6,p1,p2,p3,p4,b3]
 generalize (h.set N (.cells (cW [.aa] m.length) 72 true)).set N (.cells us 72 true)=G at*
 refine lG (Zz5 (N0:=N) (h:=h) sR (aO _) hc mj gg cO yD hK hB kB (by simp[uK]) (by simp) (by simp) (by simp) (by simp) (by simp)) ?_
 rintro _ _ ⟨H4,n4,W4⟩ ⟨rfl,hw,k4,s4,r4,pv,f4,rfl,x6,x5,oI⟩
 simp only at hw k4 s4 oI
 have pU:=f4.dN
 obtain⟨vs,g1,g2,_⟩:=id s4.ex
 have hl4:(aK m c).1.length=m.length:=BB
 have iw:=(@lF m c hc c).2
 have hs:Sl H4 n4 (.slice N 0 m.length (some m.length) 1) vs:=Sl.row s4.lt g1 (by omega) fun k hk=>by simp at hk;omega
 obtain⟨v',e1,e2⟩:=Es (w:=W4) hs (lo:=0) (hi:=(aK m c).2.1) (by omega) (by omega) none (some (.int .i64 (aK m c).2.1)) (.inr ⟨rfl,rfl⟩) (.inl rfl)
 rw[zq]at e2
 simp[BH,pU,x6,x5,e1,az,hw]
 exact⟨k4,v',pv,⟨rfl,rfl⟩,s4.Et g1 e2 (by omega),oI⟩
noncomputable def A.b109:=A.q Tryz.f109
def A.k109:=@A.kk 109 4 [.tmp 2] A.b109 (by kernel_rfl) rfl
def Yk6{h:T O}{N:Nat}{u:V}(h1:V.one u=true)(h2:V.cells u=[u]):Fn A.C 109 [u] h N (fun x h' n'=>∃e,x=.func 173 [] [.ptr N 0]/\N<n'/\h'.get N=some (.cells [u] e true)):=by
 intro w
 have kB:∀e,ab h N (h.set N (.cells [u] e true)) (N+1):=fun e=>ab.refl.new _
 rw[aM,A.k109 (by simp)]
 simp[-V.cells, -V.one,A.b109,h1,h2,az]
 exact kB _
set_option maxHeartbeats 2000000
def DU(N B i:Nat):Prop:=i=N+1\/i=B\/N+2<=i
structure Pk where
 act:Int
 am:aQ
 sl:List aQ
def Lz(p:Pk)(u:V):List V:=[.int .i64 p.act,.str p.am,u]
def LA(h:T O)(N:Nat)(v:V)(l:List Pk):Prop:=∃cs:List (List V),Sn 3 h N v cs/\cs.length=l.length/\∀(j:Nat) (p:Pk),l[j]?=some p->∃u,cs[j]?=some (Lz p u)/\Sl h N u (strs p.sl)
def LA.ad{h h':T O}{N N':Nat}{v:V}{l:List Pk}(s:LA h N v l)(k:ab h N h' N'):LA h' N' v l:=by
 obtain⟨cs,h1,h2,h3⟩:=s
 refine⟨cs,h1.ad k,h2,fun j p hp=>?_⟩
 obtain⟨u,g1,g2⟩:=h3 j p hp
 exact⟨u,g1,g2.ad k⟩
def V7{x c:List V}{k n j:Nat}(h:aC x k n=some c)(hj:j<n):x[k+j]?=c[j]?:=by
 obtain⟨h1,rfl⟩:=LB h
 rw[iI,ax hj,ff]
def LA.at{h:T O}{N:Nat}{v:V}{l:List Pk}(s:LA h N v l){j:Nat}{p:Pk}(hj:l[j]?=some p):∃i o x e rw u,xA v=some (i,o)/\i<N/\h.get i=some (.cells x e rw)/\aC x (o+j*3) 3=some (Lz p u)/\x[o+j*3]?=some (.int .i64 p.act)/\x[o+j*3+1]?=some (.str p.am)/\x[o+j*3+2]?=some u/\Sl h N u (strs p.sl):=by
 obtain⟨cs,h1,h2,h3⟩:=s
 obtain⟨u,g1,g2⟩:=h3 j p hj
 obtain⟨i,o,x,e,rw,q1,q2,q3,q4⟩:=h1.at g1
 exact⟨i,o,x,e,rw,u,q1,q2,q3,q4,by have:=V7 q4 (j:=0) (by decide);simpa[Lz]using this,by have:=V7 q4 (j:=1) (by decide);simpa[Lz]using this,by have:=V7 q4 (j:=2) (by decide);simpa[Lz]using this,g2⟩
section
variable {h:T O} {N P B:Nat} {p:Pk} {u:V} {e eB:TypeId} {rw rwB:Bool} {z:Int}
end
set_option maxHeartbeats 4000000
variable {N i:Nat} {h:T O} {o o0:O} {v:V}
def GD(o:O):Prop:=∀c e w,o≠.cells c e w
def Sl.pX{l:List V}(s:Sl h N v l)(g:h.get i=some o0)(ho:GD o0):Sl (h.set i o) N v l:=s.bO (D:=fun j=>j=i) ⟨aO _,fun j _ hj=>by rw[T.ag,ak hj]⟩ fun j hj hc=>by
 subst hc
 rcases s with⟨_,rfl|rfl⟩|⟨j',o',cp,c,e,rw,rfl,_,h3,_⟩
 ·simp[cQ]at hj
 ·simp[cQ]at hj
 ·simp[cQ]at hj
  subst hj
  rw[g]at h3
  exact absurd (mJ h3) (ho _ _ _)
def dT.pX{l:List Rat}(s:dT h N v l)(g:h.get i=some o0)(ho:GD o0):dT (h.set i o) N v l:=by
 obtain⟨⟨cs,h1,h2,h3⟩,h4⟩:=s
 have aW:∀j∈cQ v,¬j=i:=fun j hj hc=>by
  obtain⟨z,w,hz⟩:=h4 j hj
  rw[hc,g]at hz
  exact absurd (mJ hz) (ho _ _ _)
 have hI:∀{x:V} {z:Int},In h N x z->In (h.set i o) N x z:=fun s=>by
  rcases s with s|⟨i,o,l,c,s1,s2,s3⟩
  ·exact .inl s
  ·exact .inr ⟨i,o,l,c,s1,Sl.pX s2 g ho,s3⟩
 refine⟨⟨cs,h1.bO (D:=fun j=>j=i) ⟨aO _,fun j _ hj=>by rw[T.ag,ak hj]⟩ aW,h2,fun j q hq=>?_⟩,fun j hj=>by rw[T.ag,ak (aW j hj)];exact h4 j hj⟩
 obtain⟨c,a,n1,u1,n2,u2,e,s1,s2⟩:=h3 j q hq
 exact⟨c,a,n1,u1,n2,u2,e,hI s1,hI s2⟩
def gh.pX{N0:Nat}{m:List (List Rat)}(s:gh N0 h N v m)(g:h.get i=some o0)(ho:GD o0):gh N0 (h.set i o) N v m:=by
 obtain⟨us,⟨hl,h1⟩,h2,h3,h4⟩:=s
 refine⟨us,⟨hl,?_⟩,h2,h3,fun j l hl=>?_⟩
 ·rcases h1 with h1|⟨j,a,b,c,d⟩
  ·exact .inl h1
  ·refine .inr ⟨j,a,b,c,?_⟩
   rw[T.ag,ak]
   ·exact d
   ·rintro rfl
    rw[g]at d
    exact absurd (mJ d) (ho _ _ _)
 ·obtain⟨u,g1,g2⟩:=h4 j l hl
  exact⟨u,g1,g2.pX g ho⟩
variable {N z:Nat} {h:T O} {u v:V} {w:List Nat}
noncomputable def A.b144:=A.q Tryz.f144
def A.k144:=@A.kk 144 8 [.tmp 2] A.b144 (by kernel_rfl) rfl
def GF(N0:Nat)(h:T O)(N:Nat)(v:V)(l:List Rat):Prop:=∃cs:List (List V),Own 4 108 N0 h N v cs/\(cs=[]->v=.aa)/\cs.length=l.length/\∀(j:Nat) (q:Rat),l[j]?=some q->∃c,cs[j]?=some c/\fu h N c q
def Yc1{c:List V}{z o:Nat}:∀{l:List (List V)},(∀(j:Nat) (x:List V),l[j]?=some x->aC c (o+j*z) z=some x)->o+l.length*z<=c.length->aC c o (l.length*z)=some l.flatten
 |[],_,h=>by
  unfold aC
  rw[ax (by simpa using h)]
  simp
 |x::t,h,hl=>by
  have h0:=h 0 x rfl
  rw[Nat.zero_mul,iX]at h0
  have ih:=Yc1 (c:=c) (z:=z) (o:=o+z) (l:=t) (fun j y hy=>by
   have:=h (j+1) y hy
   rw[iY,Nat.one_mul]at this
   rw[show o+z+j*z=o+(j*z+z) by omega]
   exact this) (by rw[bo,iY,Nat.one_mul]at hl;omega)
  obtain⟨_,e1⟩:=LB h0
  obtain⟨_,e2⟩:=LB ih
  unfold aC
  rw[ax hl,bo,iY,Nat.one_mul,Nat.add_comm (t.length*z) z,List.take_add,List.drop_drop,List.flatten_cons,e2,<-e1]
def Jy{l:List (List V)}(s:Sn z h N u l):ef ⟨h,N,w⟩ z u=some (l.length,l.flatten):=by
 rcases s with⟨rfl,rfl|rfl⟩|⟨i,o,cp,c,e,mP,rfl,_,h3,h4,h5,_⟩
 ·rfl
 ·rfl
 ·have:=Yc1 h4 h5
  simp[ef,St.row,h3,this]
def V8{e:TypeId}{N0:Nat}{l xs:List (List V)}{bytes:Nat}{Y:V->Prop}(s:Own z e N0 h N v l)(hn:l=[]->v=.aa)(hY:∀c∈l,∀y∈c,Y y)(hN:N0<=N)(hz:0<z)(hx:∀x∈xs,x.length=z)(h0:0<xs.length)(hu:ef ⟨h,N,w⟩ z u=some (xs.length,xs.flatten))(hb:2*(l.length+xs.length)*bytes<=281474976710656):
  ∃v' h' w',gX ⟨h,N,w⟩ z bytes e v u=some (v',⟨h',N+1,w'⟩)/\ar N0 w'=ar N0 w/\ab h N0 h' (N+1)/\dS (fun i=>i∈cQ v) h N h' (N+1)/\mM e Y h v/\Own z e N0 h' (N+1) v' (l++xs):=by
 obtain⟨hl,s⟩:=s
 have jf:∀y∈l++xs,y.length=z:=fun y hy=>by
  rcases lI.1 hy with hy|hy
  ·exact hl y hy
  ·exact hx y hy
 have tr:z≠0:=by omega
 have LC:xs.length≠0:=by omega
 rcases s with⟨rfl,rfl⟩|⟨i,rfl,h2,h3,h4⟩
 ·refine⟨.slice N 0 xs.length none z,h.set N (.cells xs.flatten e true),w,?_,rfl,⟨by omega,fun j hj=>by rw[T.ag,ak (by omega)]⟩,⟨vF _,fun j hj _=>by rw[T.ag,ak (by omega)]⟩,mM.nil,jf,.inr ⟨N,by simp,hN,by omega,by rw[T.ag];simp⟩⟩
  have pC:2*xs.length*bytes<=281474976710656:=by simpa using hb
  simp only[gX,hu,uS,St.alloc]
  simp[pC,tr,LC]
 ·have lJ:=Aj hl
  have hmul:(l.length+xs.length)*z=l.length*z+xs.length*z:=iY ..
  have iK:0<xs.length*z:=zr h0 hz
  refine⟨.slice N 0 (l.length+xs.length) none z,(h.set i .dead).set N (.cells (l.flatten++xs.flatten) e true),i::w,?_,by simp[ar,tK.2 h2],⟨by omega,fun j hj=>by rw[T.ag,ak (by omega),T.ag,ak (by omega)]⟩,⟨vF _,fun j hj hd=>?_⟩,fun j hj=>?_,jf,.inr ⟨N,by simp,hN,by omega,by rw[T.ag];simp⟩⟩
  ·simp only[gX,hu,uS,St.row,h4]
   rw[ak LC,ak (by rintro(h|h|h)<;>omega)]
   simp only[if_true]
   rw[ak (by rw[lJ];omega),ax ⟨by rw[lJ];omega,trivial,trivial⟩]
   rfl
  ·rw[T.ag,ak (by omega),T.ag,ak (fun hc=>hd (by simp[cQ,hc]))]
  ·simp only[cQ,xC]at hj
   subst hj
   refine⟨_,h4,fun hc=>?_,fun y hy=>?_⟩
   ·rw[hc]at lJ
    have:l.length=0:=by
     rcases Nat.mul_eq_zero.1 lJ.symm with h|h
     ·exact h
     ·omega
    have:=hn (rm this)
    cases this
   ·obtain⟨c,hc,vG⟩:=List.mem_flatten.1 hy
    exact hY c hc y vG
def GF.many{N0:Nat}{a b:List Rat}(s:GF N0 h N v a)(hu:kf h N u b)(h0:0<b.length)(hN:N0<=N)(hl:a.length+b.length<100000):
  ∃v' h' w',gX ⟨h,N,w⟩ 4 64 108 v u=some (v',⟨h',N+1,w'⟩)/\ar N0 w'=ar N0 w/\ab h N0 h' (N+1)/\GF N0 h' (N+1) v' (a++b):=by
 obtain⟨cs,h1,h2,h3,h4⟩:=s
 obtain⟨ds,d1,d2,d3⟩:=hu
 have dl:∀x∈ds,x.length=4:=fun x hx=>by
  obtain⟨j,hj⟩:=uR hx
  obtain⟨r,hr⟩:=a_ (l:=b) (k:=j) (by have:=jt hj;omega)
  obtain⟨c',g1,g2⟩:=d3 j r hr
  rw[hj]at g1
  obtain rfl:x=c':=by simpa using g1
  exact g2.len.1
 obtain⟨v',h',w',f1,f2,f3,f4,fD,f5⟩:=V8 (Y:=NW) (bytes:=64) (w:=w) h1 h2 (fun c hc y hy=>by
  obtain⟨j,hj⟩:=uR hc
  obtain⟨r,hr⟩:=a_ (l:=a) (k:=j) (by have:=jt hj;omega)
  obtain⟨c',g1,g2⟩:=h4 j r hr
  rw[hj]at g1
  obtain rfl:c=c':=by simpa using g1
  exact g2.Ls y hy) hN (by decide) dl (by omega) (Jy d1) (by omega)
 refine⟨v',h',w',f1,f2,f3,cs++ds,f5,fun hc=>?_,by simp[h3,d2],fun j r hr=>?_⟩
 ·rw[List.append_eq_nil_iff]at hc
  rw[hc.2]at d2
  simp at d2
  omega
 ·by_cases hj:j<a.length
  ·rw[iS hj]at hr
   obtain⟨c',g1,g2⟩:=h4 j r hr
   exact⟨c',by rw[iS (by omega)];exact g1,g2.bO f4 fD⟩
  ·rw[lD (by omega)]at hr
   obtain⟨c',g1,g2⟩:=d3 _ r hr
   exact⟨c',by rw[lD (by omega),h3];exact g1,g2.bO f4 fD⟩
def GF.V9{N0:Nat}{l:List Rat}(s:GF N0 h N v l):dT h N v l:=by
 obtain⟨cs,h1,h2,h3,h4⟩:=s
 exact VQ h1 h3 fun j hj=>by
  obtain⟨q,hq⟩:=a_ hj
  obtain⟨c,g1,g2⟩:=h4 j q hq
  exact⟨c,g1,fun r hr=>by rw[hq]at hr;cases hr;exact g2⟩
def Ygv{l:List Rat}(hs:kf h N v l)(h0:0<l.length)(hl:l.length<100000):Fn A.C 144 [v] h N (fun x h' n'=>GF N h' n' x l):=by
 intro w
 obtain⟨cs,h1,h2,h3⟩:=id hs
 have fO:=h1
 rcases fO with⟨hn,_⟩|⟨i,o,cp,c,e,rw,rfl,q2,q3,q4,q5,q6⟩
 ·rw[hn]at h2
  simp at h2
  omega
 have kN:ab h N (h.set N (.cells [] 108 true)) (N+1):=ab.refl.new _
 have my:=fun w=>Jy (w:=w) (h1.ad kN)
 have aW:cs.length≠0:=by omega
 have ha:∀w,gX ⟨h.set N (.cells [] 108 true),N+1,w⟩ 4 64 108 (.slice N 0 0 (some 0) 4) (.slice i o cs.length cp 4)=some (.slice (N+1) 0 cs.length none 4,⟨(h.set N (.cells [] 108 true)).set (N+1) (.cells cs.flatten 108 true),N+1+1,w⟩):=fun w=>by
  have hg:(h.set N (.cells [] 108 true)).get N=some (.cells [] 108 true):=by simp
  simp only[gX,my,uS,St.row,hg,aC,St.alloc]
  simp[aW]
  omega
 have cl:∀x∈cs,x.length=4:=fun x hx=>by
  obtain⟨j,hj⟩:=uR hx
  obtain⟨r,hr⟩:=a_ (l:=l) (k:=j) (by have:=jt hj;omega)
  obtain⟨c',g1,g2⟩:=h3 j r hr
  rw[hj]at g1
  obtain rfl:x=c':=by simpa using g1
  exact g2.len.1
 rw[aM,A.k144 (by simp)]
 simp[A.b144,aJ,vE,ha,az]
 have kB:ab h N ((h.set N (.cells [] 108 true)).set (N+1) (.cells cs.flatten 108 true)) (N+1+1):=(ab.refl.new _).new _
 refine⟨kB,cs,⟨cl,.inr ⟨N+1,by simp,by omega,by omega,by rw[T.ag];simp⟩⟩,fun hc=>by rw[hc]at aW;simp at aW,h2,fun j q hq=>?_⟩
 obtain⟨c',g1,g2⟩:=h3 j q hq
 exact⟨c',g1,g2.ad kB⟩
variable {d i j k:Nat} {m:List (List Rat)}
def aD(m:List (List Rat))(i j:Nat):Rat:=(m[i]?.getD [])[j]?.getD 0
def GG{p:Nat}(hd:d<m.length)(hp:p<m.length):aD (cf m d p) i j=if i=d then aD m p j else if i=p then aD m d j else aD m i j:=by
 unfold aD cf
 by_cases e1:i=p
 ·subst e1
  rw[jB (by simp;exact hp)]
  by_cases e2:i=d
  ·subst e2;simp
  ·simp[e2]
 ·rw[eH (Ne.symm e1)]
  by_cases e2:i=d
  ·subst e2;rw[jB hd];simp
  ·rw[eH (Ne.symm e2)];simp[e1,e2]
def Qz(hd:d<m.length):aD (fJ m d k) i j=if i=d then aD m d j/aD m d k else aD m i j:=by
 unfold aD fJ
 by_cases e:i=d
 ·subst e
  rw[jB hd,ax rfl,jz,fm]
  cases (m[i]?.getD [])[j]? with
  |none=>simp[Rat.div_def,Rat.zero_mul]
  |some q=>rfl
 ·rw[eH (Ne.symm e),ak e]
def QA{c:Nat}(h:bp m c)(hi:i<m.length)(hd:d<m.length):aD (cg m d k m.length) i j=if i=d then aD m i j else aD m i j-aD m i k*aD m d j:=by
 unfold aD
 rw[Ei hi,jz]
 by_cases e:i=d
 ·rw[ak (by omega),ax e]
 ·rw[ax ⟨hi,e⟩,ak e]
  have l1:=h.at hi
  have l2:=h.at hd
  by_cases hj:j<c
  ·unfold qX
   rw[Qs (by omega)]
   rfl
  ·rw[fv (by rw[Lt];omega),fv (l:=m[i]?.getD []) (by omega),fv (l:=m[d]?.getD []) (by omega)]
   show (0:Rat)=0-(m[i]?.getD [])[k]?.getD 0*0
   rw[Rat.mul_zero,Rat.sub_self]
def Yl6{m:List (List Rat)}{k:Nat}:∀{n d:Nat},d+n<=od m k d n->∀i,d<=i->i<d+n->aD m i k=0
 |0,d,h,i,h1,h2=>by omega
 |n+1,d,h,i,h1,h2=>by
  unfold od at h
  split at h
  ·omega
  ·rename_i hc
   by_cases e:i=d
   ·subst e;unfold aD;simpa using hc
   ·exact Yl6 (n:=n) (d:=d+1) (by omega) i (by omega) (by omega)
structure yI (m:List (List Rat)) (d:Nat) (ps:List Nat) (n:Nat):Prop where
 len:ps.length=d
 le:d<=m.length
 lt:∀i,i<d->ps[i]?.getD 0<n
 Ak:∀i j,i<j->j<d->ps[i]?.getD 0<ps[j]?.getD 0
 one:∀i j,i<d->j<m.length->aD m j (ps[i]?.getD 0)=if j=i then 1 else 0
 lead:∀i k,i<d->k<ps[i]?.getD 0->aD m i k=0
 rest:∀i k,d<=i->i<m.length->k<n->aD m i k=0
def yI.step{s:List (List Rat)×Nat×List Nat}{n c:Nat}(h:yI s.1 s.2.1 s.2.2 n)(hc:bp s.1 c):yI (iV s n).1 (iV s n).2.1 (iV s n).2.2 (n+1):=by
 obtain⟨m,d,ps⟩:=s
 simp only at h hc
 unfold iV
 simp only
 have hle:=@El m n (m.length-d) d
 have iw:=h.le
 split
 ·rename_i hp
  have du:d<m.length:=by unfold eS at hp;omega
  have LD:d<=eS m d n:=hle.1
  have aW:aD m (eS m d n) n≠0:=@Gq m n (m.length-d) d (by unfold eS at hp;omega)
  generalize eS m d n=p at*
  have jC:=(hc.BD du hp).Gu (d:=d) (k:=n) (by rw[pz];exact du)
  have hlen:(cg (fJ (cf m d p) d n) d n m.length).length=m.length:=by rw[zm,BE,pz]
  have gj:(fJ (cf m d p) d n).length=m.length:=by rw[BE,pz]
  have hb:∀i j,aD (cf m d p) i j=if i=d then aD m p j else if i=p then aD m d j else aD m i j:=fun i j=>GG du hp
  have hs:∀i j,aD (fJ (cf m d p) d n) i j=if i=d then aD m p j/aD m p n else aD (cf m d p) i j:=fun i j=>by
   rw[Qz (by rw[pz];exact du),hb d j,hb d n,ax rfl,ax rfl]
  have he:∀i j,i<m.length->aD (cg (fJ (cf m d p) d n) d n m.length) i j=if i=d then aD m p j/aD m p n else aD (cf m d p) i j-aD (cf m d p) i n*(aD m p j/aD m p n):=fun i j hi=>by
   have:=QA (m:=fJ (cf m d p) d n) (k:=n) (j:=j) jC (i:=i) (d:=d) (by rw[gj];exact hi) (by rw[gj];exact du)
   rw[gj]at this
   rw[this,hs i j,hs i n,hs d j,ax rfl]
   split<;>rfl
  have qo:aD m p n/aD m p n=1:=by rw[Rat.div_def];exact Rat.mul_inv_cancel _ aW
  have GH:∀i j,i<d->aD (cf m d p) i j=aD m i j:=fun i j hi=>by rw[hb,ak (by omega),ak (by omega)]
  have g_:∀i k,d<=i->i<m.length->k<n->aD (cf m d p) i k=0:=fun i k h1 h2 h3=>by
   rw[hb]
   split
   ·exact h.rest p k LD hp h3
   ·split
    ·exact h.rest d k (aO _) du h3
    ·exact h.rest i k h1 h2 h3
  have tQ:∀k,k<n->aD m p k/aD m p n=0:=fun k hk=>by rw[h.rest p k LD hp hk,Rat.div_def,Rat.zero_mul]
  have hold:∀i k,i<m.length->k<n->aD (cg (fJ (cf m d p) d n) d n m.length) i k=if i<d then aD m i k else 0:=fun i k hi hk=>by
   rw[he i k hi,tQ k hk,Rat.mul_zero]
   by_cases e:i=d
   ·rw[ax e,ak (by omega)]
   ·rw[ak e]
    by_cases e2:i<d
    ·rw[ax e2,GH i k e2,Rat.sub_eq_add_neg,Rat.neg_zero,Rat.add_zero]
    ·rw[ak e2,g_ i k (by omega) hi hk,Rat.sub_eq_add_neg,Rat.neg_zero,Rat.add_zero]
  have rn:∀i,i<m.length->aD (cg (fJ (cf m d p) d n) d n m.length) i n=if i=d then 1 else 0:=fun i hi=>by
   rw[he i n hi,qo]
   split
   ·rfl
   ·rw[Rat.mul_one,Rat.sub_self]
  have ho:∀i,i<d->(ps++[n])[i]?.getD 0=ps[i]?.getD 0:=fun i hi=>by rw[iS (by have:=h.len;omega)]
  have tu:(ps++[n])[d]?.getD 0=n:=by rw[lD (by have:=h.len;omega),h.len];simp
  show yI (cg (fJ (cf m d p) d n) d n m.length) (d+1) (ps++[n]) (n+1)
  refine⟨by simp[h.len],by rw[hlen];omega,fun i hi=>?_,fun i j h1 h2=>?_,fun i j h1 h2=>?_,fun i k h1 h2=>?_,fun i k h1 h2 h3=>?_⟩
  ·by_cases e:i<d
   ·rw[ho i e];have:=h.lt i e;omega
   ·obtain rfl:i=d:=by omega
    rw[tu];omega
  ·rw[ho i (by omega)]
   by_cases e:j<d
   ·rw[ho j e];exact h.Ak i j h1 e
   ·obtain rfl:j=d:=by omega
    rw[tu];exact h.lt i h1
  ·rw[hlen]at h2
   by_cases e:i<d
   ·rw[ho i e,hold j _ h2 (h.lt i e)]
    by_cases e2:j<d
    ·rw[ax e2];exact h.one i j e h2
    ·rw[ak e2,ak (by omega)]
   ·obtain rfl:i=d:=by omega
    rw[tu];exact rn j h2
  ·by_cases e:i<d
   ·rw[ho i e]at h2
    rw[hold i k (by omega) (by have:=h.lt i e;omega),ax e]
    exact h.lead i k e h2
   ·obtain rfl:i=d:=by omega
    rw[tu]at h2
    rw[hold i k du h2,ak e]
  ·rw[hlen]at h2
   by_cases e:k<n
   ·rw[hold i k h2 e,ak (by omega)]
   ·obtain rfl:k=n:=by omega
    rw[rn i h2,ak (by omega)]
 ·rename_i hp
  have LF:=@Yl6 m n (m.length-d) d (by unfold eS at hp;omega)
  show yI m d ps (n+1)
  refine⟨h.len,h.le,fun i hi=>by have:=h.lt i hi;omega,h.Ak,h.one,h.lead,fun i k h1 h2 h3=>?_⟩
  by_cases e:k<n
  ·exact h.rest i k h1 h2 e
  ·obtain rfl:k=n:=by omega
   exact LF i h1 (by omega)
def ry{m:List (List Rat)}{c:Nat}(hc:bp m c):∀{n:Nat},yI (aK m n).1 (aK m n).2.1 (aK m n).2.2 n
 |0=>⟨rfl,uN _,fun i hi=>absurd hi (Nat.not_lt_zero i),fun i j _ hj=>absurd hj (Nat.not_lt_zero j),fun i j hi=>absurd hi (Nat.not_lt_zero i),fun i k hi=>absurd hi (Nat.not_lt_zero i),fun i k _ _ hk=>absurd hk (Nat.not_lt_zero k)⟩
 |n+1=>by
  rw[uM]
  exact(@ry m c hc n).step (lF hc).1
def CI(ps:List Nat)(n:Nat):List Nat:=(List.range n).filter fun k=>!ps.contains k
def Wa:∀{n:Nat} {ps:List Nat},(∀i,i<ps.length->ps[i]?.getD 0<n)->(∀i j,i<j->j<ps.length->ps[i]?.getD 0<ps[j]?.getD 0)->(CI ps n).length+ps.length=n
 |0,ps,h1,h2=>by
  cases ps with
  |nil=>rfl
  |cons p t=>exact absurd (h1 0 (by simp)) (by omega)
 |n+1,ps,h1,h2=>by
  have hs:CI ps (n+1)=CI ps n++if ps.contains n=true then [] else [n]:=by
   unfold CI
   rw[List.range_succ,List.filter_append]
   congr 1
   rw[List.filter_cons]
   cases hc:ps.contains n<;>rfl
  by_cases hm:n∈ps
  ·have rk:ps=ps.dropLast++[n]:=by
    obtain⟨i,hi⟩:=uR hm
    have zt:=(xB.1 hi).1
    have:i=ps.length-1:=by
     by_cases e:i=ps.length-1
     ·exact e
     ·have h3:=h2 i (ps.length-1) (by omega) (by omega)
      have h4:=h1 (ps.length-1) (by omega)
      rw[hi]at h3
      simp only[jz]at h3
      omega
    subst this
    have aW:ps≠[]:=fun hc=>by rw[hc]at hm;simp at hm
    have hl:ps.getLast aW=n:=by rw[List.getLast_eq_getElem];rw[cF zt]at hi;exact mJ hi
    conv=>lhs;rw[<-QC aW,hl]
   generalize ps.dropLast=l at rk
   subst rk
   have tm:(l++[n]).length=l.length+1:=by simp
   have au:∀i,i<l.length->l[i]?.getD 0<n:=fun i hi=>by
    have:=h2 i l.length hi (by omega)
    rw[iS hi,lD (aO _)]at this
    simpa using this
   have ih:=@Wa n l au fun i j h3 h4=>by
    have:=h2 i j h3 (by omega)
    rw[iS h4,iS (by omega)]at this
    exact this
   have he:CI (l++[n]) n=CI l n:=by
    unfold CI
    apply List.filter_congr
    intro k hk
    have hk:=yA.1 hk
    have QD:k≠n:=by omega
    simp[QD]
   rw[hs,he,tm]
   simp
   omega
  ·have hb:∀i,i<ps.length->ps[i]?.getD 0<n:=fun i hi=>by
    have:=h1 i hi
    have h3:ps[i]?.getD 0≠n:=fun hc=>by
     rw[cF hi]at hc
     simp only[jz]at hc
     exact hm (hc▸List.getElem_mem hi)
    omega
   have ih:=@Wa n ps hb h2
   rw[hs]
   simp[hm]
   omega
def yI.idx{n:Nat}{ps:List Nat}(h:yI m d ps n)(hi:i<d):ps.idxOf (ps[i]?.getD 0)=i:=by
 have hl:=h.len
 have hm:ps[i]?.getD 0∈ps:=by
  rw[cF (by omega)]
  exact List.getElem_mem _
 have hj:=List.idxOf_lt_length_iff.2 hm
 have hg:=List.getElem_idxOf hj
 by_cases e:ps.idxOf (ps[i]?.getD 0)=i
 ·exact e
 ·exfalso
  rcases Nat.lt_or_gt_of_ne e with h1|h1
  ·have:=h.Ak _ _ h1 hi
   rw[cF hj,hg]at this
   simp at this
  ·have:=h.Ak _ _ h1 (by omega)
   rw[cF hj,hg]at this
   simp at this
variable {i n:Nat} {m:List (List Rat)}
def Ydn(h:i<(aK m n).2.1):(bY m n)[i]?=(aK m n).1[i]?:=by
 unfold bY
 rw[iI,ax h]
def Wb{j:Nat}(h:i<(aK m n).2.1):aD (bY m n) i j=aD (aK m n).1 i j:=by
 unfold aD
 rw[Ydn h]
def CJ{c:Nat}(h:bp m c):bp (bY m n) c:=fun r hr=>(@lF m c h n).1 r (yJ hr)
def zu(l:List Rat):Nat->Nat->Nat
 |k,0=>k
 |k,n+1=>if l[k]?.getD 0≠0 then k else zu l (k+1) n
def Ymm{l:List Rat}{p:Nat}:∀{n k:Nat},k<=p->p<k+n->l[p]?.getD 0≠0->(∀j,k<=j->j<p->l[j]?.getD 0=0)->zu l k n=p
 |0,k,h1,h2,_,_=>by omega
 |n+1,k,h1,h2,h3,h4=>by
  unfold zu
  by_cases e:k=p
  ·subst e;rw[ax h3]
  ·rw[ak (fun hc=>hc (h4 k (aO _) (by omega)))]
   exact Ymm (by omega) (by omega) h3 fun j a b=>h4 j (by omega) b
def Yof{c:Nat}{row:List Rat}(hc:bp m c)(hi:(bY m c)[i]?=some row):∃p,(aK m c).2.2[i]?=some p/\p<c/\zu row 0 row.length=p/\(aK m c).2.2.idxOf p=i:=by
 have I:=@ry m c hc c
 have BI:i<(aK m c).2.1:=by have:=jt hi;rw[xz hc]at this;exact this
 rw[Ydn BI]at hi
 obtain⟨p,hp⟩:=a_ (l:=(aK m c).2.2) (k:=i) (by rw[I.len];exact BI)
 have hx:=I.idx BI
 have hl:=I.lt i BI
 have ho:=I.one i i BI (by have:=I.le;omega)
 have hz:=fun k=>I.lead i k BI
 rw[hp]at hx hl ho hz
 simp only[jz,if_true]at hx hl ho hz
 unfold aD at ho hz
 rw[hi]at ho hz
 simp only[jz]at ho hz
 have hr:=(@lF m c hc c).1 row (bM hi)
 refine⟨p,hp,hl,Ymm (uN _) (by omega) (by rw[ho];decide) fun j _ hj=>hz j hj,hx⟩
end Go.Mx
