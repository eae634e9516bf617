/-reconstruct-/
import Derived.Test.YtfeehbdhikiikaaGreatDoorEcB
set_option linter.all false
set_option maxHeartbeats 4000000
namespace Go.Mx
variable{W0 ps:List Nat}{K j:Nat}{u v:V}
noncomputable section
open Go Go.Proofs
variable {N R:Nat} {h:T O} {m:List (List Rat)}
set_option maxRecDepth 1000000
def Zzp{m:List (List Rat)}{k d:Nat}:∀{n j:Nat},(pL (fun i=>decide (((m.drop d)[i]?.getD [])[k]?.getD 0≠0)) j n= -1/\td m k (d+j) n=d+j+n)\/∃a:Nat,pL (fun i=>decide (((m.drop d)[i]?.getD [])[k]?.getD 0≠0)) j n=a/\td m k (d+j) n=d+a/\a<j+n
 |0,j=>.inl ⟨rfl,rfl⟩
 |n+1,j=>by
  unfold pL td
  simp only[fU]
  by_cases e:(m[d+j]?.getD [])[k]?.getD 0≠0
  ·rw[av e]
   exact .inr ⟨j,by simp[e],rfl,by omega⟩
  ·rw[ak e]
   simp only[e,decide_false,iE,if_false]
   have ih:=@Zzp m k d n (j+1)
   simp only[fU]at ih
   rcases ih with⟨h1,h2⟩|⟨a,h1,h2,h3⟩
   ·exact .inl ⟨h1,by rw[show d+j+1=d+(j+1) by omega,h2];omega⟩
   ·exact .inr ⟨a,h1,by rw[show d+j+1=d+(j+1) by omega,h2],by omega⟩
def Bv(ps:List Nat):List Int:=ps.map fun p:Nat=>(p:Int)
def nR.bE{h':T O}{N':Nat}{v:V}{e:TypeId}(s:nR h N R m)(k:ec (fun i=>i∈bI v) h N h' N')(hd:mP e NW h v)(he:e≠101)(wZ:e≠90):nR h' N' R m:=by
 obtain⟨us,g1,g2,g3,g4,g5⟩:=s.ex;refine⟨fH s.lt k.le,us,(k.get R s.lt fun hc=>?_).trans g1,g2,g3,g4,fun j l hl=>?_⟩
 ·obtain⟨z,hz,_⟩:=hd R hc;rw[g1]at hz;simp at hz;exact wZ hz.2.symm
 obtain⟨u,a1,a2⟩:=g5 j l hl;exact⟨u,a1,a2.bE k hd he⟩
def Ycj{N0:Nat}{H:T O}{n:Nat}{r0:T V}{c:Nat}{B:Nat->Nat}(s:nR H n R m)(Bq:N0<=R)(hc:aW m c)(jR:m.length<1000)(jU:0<m.length)(cy:c<1000)(IL:∀n,1<=B n)(hK:∀k,bR (aK m k).1 (B (aK m k).2.1))(hB:∀n,n<m.length->n<c->3*B n<=400000000)(kH:ab h N0 H n)(LG:az N0 W0=[])(a4:r0.get 4=some (.slice R 0 m.length (some m.length) 1))(a5:r0.get 5=some .aa)(a6:r0.get 6=some (.int .i64 0))(a25:r0.get 25=some (.int .i64 c))(a26:r0.get 26=some (.int .i64 0)):
  Code A.C none (.loop A.ti) ⟨r0,120,[]⟩ ⟨H,n,W0⟩ (fun e fr st=>e=.exit 0/\az N0 st.w=[]/\ab h N0 st.h st.n/\nR st.h st.n R (aK m c).1/\∃r v,Fx [(5,12),(26,115)] r0 120 ⟨r,120,[]⟩/\fr=⟨r,120,[]⟩/\r.get 6=some (.int .i64 (aK m c).2.1)/\r.get 5=some v/\tf N0 st.h st.n v (Bv (aK m c).2.2)):=by
 rw[bG];refine cB [(5,12),(26,115)] (fun e r st=>e=.exit 0/\az N0 st.w=[]/\ab h N0 st.h st.n/\nR st.h st.n R (aK m c).1/\∃v,r.get 6=some (.int .i64 (aK m c).2.1)/\r.get 5=some v/\tf N0 st.h st.n v (Bv (aK m c).2.2)) (fun i r st=>az N0 st.w=[]/\ab h N0 st.h st.n/\∃k v,k<=c/\i=c-k/\r.get 26=some (.int .i64 k)/\r.get 6=some (.int .i64 (aK m k).2.1)/\r.get 5=some v/\tf N0 st.h st.n v (Bv (aK m k).2.2)/\(aK m k).2.1<m.length/\nR st.h st.n R (aK m k).1) c ?_ ?_ ?_
 ·exact⟨LG,kH,0,_,by omega,by omega,a26,a6,a5,tf.nil,jU,s⟩
 ·rintro i r ⟨H1,n1,W⟩ hr hf ⟨hW,k1,k,pv,hk,rfl,Tt,h6,h5,hO,Ee,s1⟩;simp only at hW k1 s1 hO;rw[bG];have hlen:(aK m k).1.length=m.length:=Gc;obtain⟨Tu,kM⟩:=@qJ m c hc k;by_cases aD:k<c
  ·have bV:(k:Int)<(c:Int):=by omega
   obtain⟨us,g1,g2,g3,g4,g5⟩:=id s1.ex;have hR:=s1.lt;have kA:ab H1 n1 ((H1.set n1 (.cells [.int .i64 0] 3 true)).set n1 (.cells [.int .i64 k] 3 true)) (n1+1):=(ab.refl.new _).set (aN _);have gP:((H1.set n1 (.cells [.int .i64 0] 3 true)).set n1 (.cells [.int .i64 k] 3 true)).get n1=some (.cells [.int .i64 k] 3 true):=by rw[T.ag,av rfl]
   have sA:=s1.ad kA;have gA:=(kA.get R hR).trans g1;have oA:=hO.ad kA;have kU:=k1.trans kA;simp[A.ti,hr,a4,h6,a25,Tt,bV,bM,ae];generalize (H1.set n1 (.cells [.int .i64 0] 3 true)).set n1 (.cells [.int .i64 k] 3 true)=G at*;have hs:Sl G (n1+1) (.slice R 0 m.length (some m.length) 1) us:=Sl.row (by omega) gA (by omega) fun k hk=>by simp at hk;omega
   obtain⟨sv,e1,e2⟩:=LK (w:=n1::W) hs (lo:=(aK m k).2.1) (hi:=us.length) (by omega) (aN _) (some (.int .i64 (aK m k).2.1)) none (.inl rfl) (.inr ⟨rfl,rfl⟩);rw[gm (aN _)]at e2;simp[Ge,e1];have Ef:iQ (aK m k).1 (aK m k).2.1 k=m.length->aK m (k+1)=aK m k:=fun hp=>by rw[yA];unfold kL;rw[ak (by omega)]
   have jF:iQ (aK m k).1 (aK m k).2.1 k<m.length->aK m (k+1)=(dr (jk (cX (aK m k).1 (aK m k).2.1 (iQ (aK m k).1 (aK m k).2.1 k)) (aK m k).2.1 k) (aK m k).2.1 k (aK m k).1.length,(aK m k).2.1+1,(aK m k).2.2++[k]):=fun hp=>by rw[yA];unfold kL;rw[av (by omega)]
   have zbh:=@Ya0 m k;have Eg:=@Yh6 m k;have hqM:bR (aK m k).1 (B (aK m k).2.1):=hK _;have ZQ:=@Om m (k+1);generalize hd:(aK m k).2.1=d at*;generalize rA:(aK m k).1=m1 at*;generalize th:(aK m k).2.2=ps at*;have LH:n1<n1+1:=by omega
   have ZR:(us.drop d).length=m1.length-d:=by rw[zX,g2]
   refine au (Ys1 (us.drop d) (fun i:Nat=>decide (((m1.drop d)[i]?.getD [])[k]?.getD 0≠0)) e2 (by omega) fun j x hx h' n' gW=>?_) ?_
   ·have kO:us[d+j]?=some x:=by rw[<-fU];exact hx
    obtain⟨row,aA⟩:=bs (l:=m1) (k:=d+j) (by have:=fv kO;omega);obtain⟨y,b1,b2⟩:=g5 _ _ aA;rw[kO]at b1;simp only[ar]at b1;subst b1;have:=Yxi (k:=k) ((gW.get n1 LH).trans gP) (fH LH gW.le) ((b2.ad kA).ad gW).1 (by rw[Tu row (cP aA)];exact aD);simp only[fU,aA,iL];exact this
   rintro _ H2 n2 k2 rfl;rw[ZR];have lf:=k2.le;have Tv:=(k2.get n1 LH).trans gP;have s2:=sA.ad k2;have o2:=oA.ad k2;have zW:=(k2.get R (by omega)).trans gA;have ZS:=kU.trans k2;have Ow:¬n1<N0:=by have:=k1.le;omega
   have Ox:R<n2:=by omega
   rcases @Zzp m1 k d (m1.length-d) 0 with⟨f1,f2⟩|⟨a,f1,f2,f3⟩
   ·rw[f1];have Gf:iQ m1 d k=m.length:=by unfold iQ;have:=f2;rw[iX]at this;omega
    simp(disch:=first|(simp;done)|omega|rfl) [hf,h5,h6,Tt,Ow,hW];refine⟨c-(k+1),by omega,ZS,k+1,by omega,rfl,by simp,?_,?_⟩
    ·rw[Ef Gf];simp[hd]
    rw[Ef Gf,rA,th,hd];exact⟨o2,Ee,s2⟩
   rw[f1];rw[iX]at f2;obtain⟨p,hp⟩:∃p,p=d+a:=⟨_,rfl⟩;have IN:iQ m1 d k=p:=by unfold iQ;omega
   have hda:(d:Int)+(a:Int)=(p:Int):=by omega
   have jA:p<m1.length:=by omega
   have eY:d<m1.length:=by omega
   obtain⟨rd,Gg⟩:=bs eY;obtain⟨rp,LL⟩:=bs jA;obtain⟨ud,x3,x4⟩:=g5 _ _ Gg;obtain⟨up,y3,y4⟩:=g5 _ _ LL;have ZT:d<us.length:=by omega
   have hpu:p<us.length:=by omega
   have Tr:(d:Int)<(m.length:Int):=by omega
   have Tw:(p:Int)<(m.length:Int):=by omega
   have ZU:d<m.length:=by omega
   have Ty:p<m.length:=by omega
   have ZV:¬(a:Int)<0:=by omega
   have z1:∀u,ae us d [u]=us.set d u:=fun u=>To ZT;have z2:∀u,ae (us.set d up) p [u]=(us.set d up).set p u:=fun u=>To (by simp;exact hpu);obtain⟨_,c1,o1⟩:=x4.Gb;obtain⟨_,c2,ZW⟩:=y4.Gb;have l1:d+1<=us.length:=ZT;have l2:p+1<=us.length:=hpu;simp(disch:=first|(simp;done)|omega|rfl) [-getElem?_pos, -V.cells, -V.one,hr,a4,h6,hda,ZV,zW,x3,y3,Ox,bM,c1,o1,c2,ZW,z1,z2,l1,l2];have U2:ec (fun i=>i=R) H2 n2 ((H2.set R (.cells (us.set d up) 90 true)).set R (.cells ((us.set d up).set p ud) 90 true)) n2:=⟨aN _,fun i _ hi=>by rw[T.ag,ak hi,T.ag,ak hi]⟩;have Oy:(H2.set R (.cells (us.set d up) 90 true)).get R=some (.cells (us.set d up) 90 true):=by rw[T.ag,av rfl]
   have D7:=(x4.ad kA).ad k2;have ZX:=(y4.ad kA).ad k2;have sA1:=s2.Eb zW ZX eY;have sB:=sA1.Eb Oy (D7.bp zW (by decide) g3 (by simp)) (i:=p) (by rw[yE];exact jA);have gB:((H2.set R (.cells (us.set d up) 90 true)).set R (.cells ((us.set d up).set p ud) 90 true)).get R=some (.cells ((us.set d up).set p ud) 90 true):=by rw[T.ag,av rfl]
   have Nx:(m1.set d rp).set p rd=cX m1 d p:=by unfold cX;rw[Gg,LL];rfl
   rw[Nx]at sB;have CR:((us.set d up).set p ud).length=m1.length:=by simp only[yE];omega
   generalize (H2.set R (.cells (us.set d up) 90 true)).set R (.cells ((us.set d up).set p ud) 90 true)=G2 at*;generalize (us.set d up).set p ud=vs at*;have gPB:=(U2.get n1 (by omega) (by omega)).trans Tv;have oB:=o2.wY zW (fun z hz=>by simp at hz) U2;have IP:=hqM.FT (d:=d) (p:=p);have hrB:=Tu.FT eY jA;have hlB:(cX m1 d p).length=m1.length:=rK;have aX:=@La m1 k (m1.length-d) d (by unfold iQ at IN;omega);have aA:(cX m1 d p)[d]?=some rp:=by
    rw[<-Nx];by_cases e:p=d
    ·rw[e,Gg]at LL;simp only[ar]at LL;rw[e,LL,mQ (by simp;omega)]
    rw[fk e,mQ eY]
   have IQ:rp[k]?.getD 0≠0:=by have h9:=IN;unfold iQ at h9;rw[h9,LL]at aX;exact aX
   obtain⟨nG,vd,b1,b2,b3,b4⟩:=sB.at aA;rw[gB]at b1;simp only[ar,O.cells.injEq,and_true]at b1;subst b1;have zbv:=hrB rp (cP aA);obtain⟨q,hq⟩:=bs (l:=rp) (k:=k) (by omega);have IM:=IP rp (cP aA);have j_:=IM q (cP hq);have w_:q≠0:=by rw[hq]at IQ;exact IQ
   have hkq:=hB d ZU (by omega);obtain⟨i1,t1,w1,e3,v1,cs,q1,q2,q3,q4,q5⟩:=b4.1.at hq;obtain⟨r1,r2⟩:=q5.len;have rC:=b4.1.len;have dj:(k:Int)<(rp.length:Int):=by omega
   have jV:k<rp.length:=by omega
   have jT:∀c:List V,(V.agg c).cells=c:=fun _=>rfl;have s0:=Xap r1;have e4:=Xao r1;have ZY:n2<n2+1:=by omega
   have Z0:¬R=n2:=by omega
   have lP2:n1<n2:=by omega
   have zbw:¬n1=n2:=by omega
   simp(disch:=first|(simp;done)|omega|rfl) [-getElem?_pos, -V.cells, -V.one,hr,a4,h6,b3,gB,gPB,lP2,Ox,q1,q2,q3,q4,rC,bM,jT,r1,r2,e4,ZY,Z0];have kC:ab G2 n2 ((G2.set n2 (.cells [.int .i64 0,.aa,.int .i64 0,.aa] 101 true)).set n2 (.cells cs 101 true)) (n2+1):=(ab.refl.new _).set (aN _);have gQ:((G2.set n2 (.cells [.int .i64 0,.aa,.int .i64 0,.aa] 101 true)).set n2 (.cells cs 101 true)).get n2=some (.cells cs 101 true):=by rw[T.ag,av rfl]
   generalize (G2.set n2 (.cells [.int .i64 0,.aa,.int .i64 0,.aa] 101 true)).set n2 (.cells cs 101 true)=G3 at*;refine au (Ysh (fun x=>x/q) (b4.ad kC).1 (by omega) fun x hx c' h' n' k' rD=>Yxh (j:=B d) (k:=B d) ((k'.get n2 ZY).trans gQ) (fH ZY k'.le) rD ((q5.ad kC).ad k') w_ (IM x hx) j_ (by omega) (by omega)) ?_;rintro v3 H3 n3 k3 t3;have yG:=k3.le;have gR3:=(k3.get R (by omega)).trans ((kC.get R Ox).trans gB);have sC:=((sB.ad kC).ad k3).Eb gR3 t3 (i:=d) (by rw[hlB];exact eY);have Oz:(cX m1 d p).set d (rp.map fun x=>x/q)=jk (cX m1 d p) d k:=by unfold jk;rw[aA];simp only[iL,hq]
   rw[Oz]at sC;have Z1:(jk (cX m1 d p) d k).length=m.length:=by rw[DW,rK];exact hlen
   have Bw:d<vs.length:=by omega
   have Z2:d+1<=vs.length:=Bw;have z3:∀u,ae vs d [u]=vs.set d u:=fun u=>To Bw;have lR3:R<n3:=by omega
   have lRp:R<n2+1:=by omega
   obtain⟨_,c3,o3⟩:=t3.Gb;simp(disch:=first|(simp;done)|omega|rfl) [-V.cells, -V.one,hr,a4,gR3,bM,c3,o3,z3,Z2];have U3:ec (fun i=>i=R) H2 n2 (H3.set R (.cells (vs.set d v3) 90 true)) n3:=((U2.trans kC.upd).trans k3.upd).set (.inl rfl);have gPC:=(U3.get n1 (by omega) (by omega)).trans Tv;have gRC:(H3.set R (.cells (vs.set d v3) 90 true)).get R=some (.cells (vs.set d v3) 90 true):=by rw[T.ag,av rfl]
   generalize H3.set R (.cells (vs.set d v3) 90 true)=G4 at*;refine qV (Yk5 (cp:=some m.length) (N0:=N0) (P:=n1) (d:=d) (K:=B d) sC Bq gPC (by omega) (hrB.Lb (by omega)) aD (by omega) (by omega) (by omega) (IL _) (fun i hi=>by
    unfold jk
    rw[fk (Ne.symm hi)]
    exact IP.at) (by
    unfold jk
    rw[mQ (by omega)]
    exact Yvy IP (IL _) (by rw[aA];exact IQ)) (by omega) (by simp[xb.2 Bq,Ow,hW,show ¬n2<N0 by omega]) (by simp[hr,a4,Z1]) (by simp[h6]) (by simp) (by simp[Z1]) (by simp)) ?_;rintro _ _ ⟨H4,n4,W4⟩ ⟨rfl,hw4,U4,s4,r4,f4,rfl⟩;simp only at hw4 U4 s4;have xc:=f4.fV;have hf4:=hf.inner (D':=[(10,12),(72,104)]) (by decide) (fun hx=>by simpa[Fx.set]using hx) xc;have Bj:=U4.le;have gP4:=(U4.get n1 (by omega) (by omega)).trans gPC;have o4:=(o2.wY zW (fun z hz=>by simp at hz) U3).wY gRC (fun z hz=>by simp at hz) U4;have lP4:n1<n4:=by omega
   have zM:ae [V.int .i64 0] 0 [V.int .i64 k]=[V.int .i64 k]:=rfl;simp[xc,h5,gP4,zM];have kD:ab H4 n4 (H4.set n4 (.cells [.int .i64 k] 3 true)) (n4+1):=ab.refl.new _;obtain⟨v',h',w',j1,j2,j3,j4,j5,j6⟩:=tf.push (B:=N0) (x:=.slice n4 0 1 (some 1) 1) (k:=k) (w:=W4) (o4.ad kD) (aN _) (by omega) hw4 (by simp[fO,St.row,aO]) (by simp[Bv];omega);have s5:=(s4.ad kD).bE j3 j4 (by decide) (by decide);have kF:ab h N0 h' (n4+1+1):=⟨by have:=ZS.le;omega,fun i hi=>by rw[j3.get i (by omega) (fun hc=>by have:=j5 i hc;omega),T.ag,ak (by omega),U4.get i (by omega) (by omega),U3.get i (by omega) (by omega)];exact ZS.get i hi⟩;have fF:=jF (by omega);rw[IN]at fF;rw[Z1,<-hlen]at s5;have hpi:Bv (ps++[k])=Bv ps++[(k:Int)]:=by simp[Bv]
   by_cases hE:d+1=m.length
   ·have Z3:(d:Int)+1=(m.length:Int):=by omega
    have hcf:aK m c=aK m (k+1):=by have:=ZQ (n:=c-(k+1)) (by rw[fF];exact hE);rw[<-this,show k+1+(c-(k+1))=c by omega]
    simp(disch:=first|(simp;done)|omega|rfl) [j1,xc,hf4,hr,a4,h6,Z3,j2,kF];rw[hcf,fF,hpi];exact⟨s5,hE.symm,j6⟩
   have Z3:¬(d:Int)+1=(m.length:Int):=by omega
   simp(disch:=first|(simp;done)|omega|rfl) [j1,xc,hf4,hr,a4,h6,Tt,Z3,j2,kF];refine⟨c-(k+1),by omega,k+1,by omega,rfl,by simp,?_⟩;rw[fF,hpi];exact⟨by simp,j6,by show d+1<m.length;omega,s5⟩
  obtain rfl:k=c:=by omega
  simp[A.ti,hr,hf,h5,h6,a25,Tt,k1,hW];exact⟨s1,hO⟩
 rintro _ r st hr ⟨rfl,hw,k1,s1,v,h6,h5,hO⟩;simp[];exact⟨hw,k1,s1,r,⟨hr,rfl,rfl⟩,rfl,h6,v,h5,hO⟩
def nR.AA{d:Nat}{us:List V}(s:nR h N R m)(g:h.get R=some (.cells us 90 true))(hv:Sl h N v (us.take d))(hd:d<=m.length):fj h N v (m.take d):=by
 obtain⟨vs,g1,g2,_,_,g3⟩:=s.ex;rw[g]at g1;simp only[ar,O.cells.injEq,and_true]at g1;subst g1;refine⟨us.take d,hv,by simp[g2],fun j l hl=>?_⟩;by_cases hj:j<d
 ·rw[jZ,av hj]at hl ⊢;exact g3 j l hl
 rw[jZ,ak hj]at hl;cases hl
def Zry{c:Nat}{B:Nat->Nat}(hu:fj h N u m)(hc:aW m c)(jR:m.length<1000)(jU:0<m.length)(cy:c<1000)(IL:∀n,1<=B n)(hK:∀k,bR (aK m k).1 (B (aK m k).2.1))(hB:∀n,n<m.length->n<c->3*B n<=400000000):Fn A.C 96 [u] h N (fun x h' n'=>∃a b,x=.aU [a,b]/\fj h' n' a (bH m c)/\tf N h' n' b (Bv (aK m c).2.2)):=by
 intro w;have lu:=hu.len;obtain⟨us,h1,h2,h3⟩:=hu;have iz:=h1;rcases h1 with⟨hn,_⟩|⟨i,o,cp,c',e,sO,rfl,q2,q3,q4,q5,q6⟩
 ·rw[hn]at h2;simp at h2;omega
 have aX:¬i=N:=by omega
 have LM:(h.set N (.cells (du [.aa] m.length) 90 true)).get i=some (.cells c' e sO):=by rw[T.ag,ak aX];exact q3
 have gz:(h.set N (.cells (du [.aa] m.length) 90 true)).get N=some (.cells (du [.aa] m.length) 90 true):=by simp
 have Eh:=Yvr (N:=N+1) (w:=[]) (cp:=cp) LM q4 q5;rw[h2]at Eh;have cpy:=Yea (cp:=some m.length) jU Eh h2 gz (by rw[S6];simp);have kB:ab h N ((h.set N (.cells (du [.aa] m.length) 90 true)).set N (.cells us 90 true)) (N+1):=(ab.refl.new _).set (aN _);have gN:((h.set N (.cells (du [.aa] m.length) 90 true)).set N (.cells us 90 true)).get N=some (.cells us 90 true):=by rw[T.ag,av rfl]
 have sR:nR ((h.set N (.cells (du [.aa] m.length) 90 true)).set N (.cells us 90 true)) (N+1) N m:=⟨by omega,us,gN,h2,?nu,?one,fun j l hl=>by obtain⟨x,a1,a2⟩:=h3 j l hl;exact⟨x,a1,a2.ad kB⟩⟩;case nu=>
  intro x hx
  obtain⟨j,hj⟩:=nP hx
  obtain⟨l,hl⟩:=bs (l:=m) (k:=j) (by have:=fv hj;omega)
  obtain⟨y,a1,a2⟩:=h3 j l hl
  rw[hj]at a1
  simp only[ar]at a1
  subst a1
  exact a2.Gb.1
 case one=>
  rw[kJ]
  intro x hx
  obtain⟨j,hj⟩:=nP hx
  obtain⟨l,hl⟩:=bs (l:=m) (k:=j) (by have:=fv hj;omega)
  obtain⟨y,a1,a2⟩:=h3 j l hl
  rw[hj]at a1
  simp only[ar]at a1
  subst a1
  exact a2.Gb.2.1
 rw[h2]at iz;obtain⟨l0,dk⟩:=bs jU;obtain⟨x0,b1,b2⟩:=h3 0 l0 dk;obtain⟨i2,o2,cc2,e2,Tz,p1,p2,p3,p4⟩:=(iz.ad kB).at b1;rw[iX]at p4;have b3:=b2.1.len;rw[hc l0 (cP dk)]at b3;have Z4:¬m=[]:=fun hc=>by rw[hc]at jU;simp at jU
 have OA:(24:Int)*(m.length:Int)<=140737488355328:=by omega
 have cc3:(m.length:Int)<4611686018427387904:=by omega
 rw[h2]at lu;rw[aP,A.k96 (by simp)];simp[A.b96,h2,jU,OA,cc3,cpy,Z4,p1,p3,p4,b3];generalize (h.set N (.cells (du [.aa] m.length) 90 true)).set N (.cells us 90 true)=G at*;refine qV (Ycj (N0:=N) (h:=h) sR (aN _) hc jR jU cy IL hK hB kB (by simp) (by simp) (by simp) (by simp) (by simp) (by simp)) ?_;rintro _ _ ⟨H4,n4,W4⟩ ⟨rfl,hw,k4,s4,r4,pv,f4,rfl,x6,x5,oI⟩;simp only at hw k4 s4 oI;have xc:=f4.fV;obtain⟨vs,g1,g2,_⟩:=id s4.ex;have hl4:(aK m c).1.length=m.length:=Gc;have kM:=(@qJ m c hc c).2;have hs:Sl H4 n4 (.slice N 0 m.length (some m.length) 1) vs:=Sl.row s4.lt g1 (by omega) fun k hk=>by simp at hk;omega
 obtain⟨v',e1,e2⟩:=LK (w:=W4) hs (lo:=0) (hi:=(aK m c).2.1) (by omega) (by omega) none (some (.int .i64 (aK m c).2.1)) (.inr ⟨rfl,rfl⟩) (.inl rfl);rw[Bx]at e2;simp[Ge,xc,x6,x5,e1,ay,hw];exact⟨k4,v',pv,⟨rfl,rfl⟩,s4.AA g1 e2 (by omega),oI⟩
variable {m:List (List Rat)} {n:Nat}
def Yq6{i:Nat}(h:i<(aK m n).2.1):(bH m n)[i]?=(aK m n).1[i]?:=by unfold bH;rw[jZ,av h]
def FX{i:Nat}(h:i<(aK m n).2.1):al (bH m n) i j=al (aK m n).1 i j:=by unfold al;rw[Yq6 h]
def IS{c:Nat}(h:aW m c):aW (bH m n) c:=fun r hr=>(@qJ m c h n).1 r (AG hr)
def TA:aW (mO m n) n:=fun r hr=>by
 unfold mO at hr
 obtain⟨k,_,rfl⟩:=bO.1 hr
 simp[Tp]
def Yss(hc:aW m n):(mO m n).length+(aK m n).2.1=n:=by have I:=@qI m n hc n;have:=@Oq n (aK m n).2.2 (fun i hi=>I.lt i (by rw[<-I.len];exact hi)) (fun i j h1 h2=>I.zU i j h1 (by rw[<-I.len];exact h2));rw[I.len]at this;unfold mO;rw[dL];exact this
def Yv5{q:Rat}(h:Qb K q):Qb K (-q):=⟨by rw[Rat.neg_num,zY];exact h.1,by rw[Rat.neg_den];exact h.2⟩
variable {N R:Nat} {h:T O} {l:List Rat}
def A.OB:=A.q Tryz.f100
def A.tj:=A.ql A.OB 0 []
def A.b100:=(fun x0=>A.qb A.OB [x0]) A.tj
def A.k100:=@A.kk 100 18 [.tmp 2] A.b100 (by kernel_rfl) rfl
structure yM (h:T O) (N R:Nat) (l:List Rat) (m:Nat):Prop where
 lt:R<N
 ex:∃cs:List (List V),h.get R=some (.cells (cs.flatten++du zF m) 101 true)/\cs.length=l.length/\∀(j:Nat) (q:Rat),l[j]?=some q->∃c,cs[j]?=some c/\fI h N c q
def yM.ad{h':T O}{N' m:Nat}(s:yM h N R l m)(k:ab h N h' N'):yM h' N' R l m:=by obtain⟨cs,g1,g2,g3⟩:=s.ex;refine⟨fH s.lt k.le,cs,(k.get R s.lt).trans g1,g2,fun j q hq=>?_⟩;obtain⟨c,a,b⟩:=g3 j q hq;exact⟨c,a,b.ad k⟩
def yM.fcs{cs:List (List V)}(g2:cs.length=l.length)(g3:∀(j:Nat) (q:Rat),l[j]?=some q->∃c,cs[j]?=some c/\fI h N c q):(∀c∈cs,c.length=4)/\tc cs.flatten/\cs.flatten.all V.one=true:=OC (l:=l) (by omega) fun j q _ hq=>g3 j q hq
def yM.next{m:Nat}{c:List V}{q:Rat}(s:yM h N R l (m+1))(hc:fI h N c q):∃X,h.get R=some (.cells X 101 true)/\l.length*4+4<=X.length/\yM (h.set R (.cells (ae X (l.length*4) c) 101 true)) N R (l++[q]) m:=by
 obtain⟨cs,g1,g2,g3⟩:=s.ex;obtain⟨f1,f2,_⟩:=yM.fcs g2 g3;have lG:=wQ f1;obtain⟨e1,_⟩:=hc.len;have iw:ae (cs.flatten++du zF (m+1)) (l.length*4) c=(cs++[c]).flatten++du zF m:=by rw[Gh,NN (n:=4) (by rw[lG,g2]) rfl e1,LN,uJ]
 have Gi:tc (cs.flatten++du zF (m+1)):=f2.app TC;have Gj:((cs++[c]).flatten++du zF m).length=(cs.flatten++du zF (m+1)).length:=by rw[Gh,LN];simp[e1,zF];omega
 refine⟨_,g1,by rw[iU,lG,g2,Z5];omega,s.lt,cs++[c],by rw[T.ag,av rfl,iw],by simp[g2],fun j r hr=>?_⟩;rw[iw];by_cases e:j<l.length
 ·rw[k_ e]at hr;obtain⟨x,a,b⟩:=g3 j r hr;exact⟨x,by rw[k_ (by omega)];exact a,b.aG g1 Gi Gj⟩
 have hj:j=l.length:=by have:=fv hr;simp at this;omega
 subst hj;rw[pC (aN _)]at hr;simp at hr;subst hr;exact⟨c,by rw[pC (by omega),g2];simp,hc.aG g1 Gi Gj⟩
def yM.LP(s:yM h N R l 0):dR h N (.slice R 0 l.length (some l.length) 4) l:=by
 obtain⟨cs,g1,g2,g3⟩:=s.ex;obtain⟨f1,f2,_⟩:=yM.fcs g2 g3;have hz:du zF 0=[]:=by simp[du]
 rw[hz,zO]at g1;refine⟨⟨cs,.inr ⟨R,0,some l.length,cs.flatten,_,true,by rw[g2],s.lt,g1,fun j x hj=>by rw[xd];exact LQ f1 hj,by rw[wQ f1];omega,fun k hk=>by simp at hk;omega⟩,g2,g3⟩,fun i hi=>?_⟩;simp[bI]at hi;subst hi;exact⟨_,_,g1⟩
def Yjv(hn:n<1000):Fn A.C 100 [.int .i64 n] h N (fun x h' n'=>x=.slice N 0 n (some n) 4/\yM h' n' N ((List.range n).map fun _=>0) 0):=by
 intro w;have c1:(64:Int)*(n:Int)<=140737488355328:=by omega
 have c2:(n:Int)<4611686018427387904:=by omega
 have kB:ab h N (h.set N (.cells (du zF n) 101 true)) (N+1):=ab.refl.new _;have gB:(h.set N (.cells (du zF n) 101 true)).get N=some (.cells (du zF n) 101 true):=by rw[T.ag,av rfl]
 rw[aP,A.k100 (by simp)];simp[A.b100,c1,c2];refine cB [(4,4),(9,16)] (fun e r st=>e=.exit 0/\az N st.w=[]/\ab h N st.h st.n/\yM st.h st.n N ((List.range n).map fun _=>0) 0) (fun i r st=>az N st.w=[]/\ab h N st.h st.n/\∃t,t+i=n/\r.get 9=some (.int .i64 t)/\yM st.h st.n N ((List.range t).map fun _=>0) i) n ?_ ?_ ?_
 ·exact⟨by simp,kB,0,by omega,by simp,by show N<N+1;omega,[],by simp;rfl,rfl,fun j q hq=>by simp at hq⟩
 ·rintro i r ⟨H,n1,W⟩ hr hf ⟨hW,hK,t,ht,h9,hQ⟩;simp only at hW hK hQ;rw[bG];cases i with
  |zero=>
   obtain rfl:t=n:=by omega
   simp[A.tj,hr,hf,h9,hW,hK];exact hQ
  |succ i=>
   have aD:t<n:=by omega
   have bV:(t:Int)<(n:Int):=by omega
   simp[A.tj,hr,h9,bV];refine au (Yxa (by decide) (by decide)) ?_;rintro _ H2 n2 k2 hz;obtain⟨c,rfl,hc⟩:=hz.c;obtain⟨e1,e2⟩:=hc.len;have lf:=k2.le;have jT:(V.agg c).cells=c:=rfl;obtain⟨X,x1,x2,x3⟩:=(hQ.ad k2).next hc;have lN:N<n2:=fH hQ.lt lf;have hl:((List.range t).map fun _=>(0:Rat)).length=t:=by simp
   rw[hl]at x2 x3;simp(disch:=first|(simp;done)|omega|rfl) [-V.cells, -V.one,hf,h9,bM,jT,e1,e2,x1,x2];exact⟨i,by omega,hW,(hK.trans k2).set (aN _),t+1,by omega,by simp,by rw[List.range_succ,List.map_append];exact x3⟩
 rintro _ r ⟨H,n1,W⟩ hr ⟨rfl,hW,hK,hQ⟩;simp only at hW hK hQ;simp[hr,ay,hW,hK];exact hQ
def IT(s:fj h N v m){i:Nat}{row:List Rat}(hr:m[i]?=some row):∃j o c e rw u,yC v=some (j,o)/\j<N/\h.get j=some (.cells c e rw)/\c[o+i]?=some u/\dR h N u row:=by obtain⟨us,h1,h2,h3⟩:=s;obtain⟨u,a,b⟩:=h3 i row hr;obtain⟨j,o,c,e,rw,q1,q2,q3,q4⟩:=h1.at a;exact⟨j,o,c,e,rw,u,q1,q2,q3,q4,b⟩
def A.w54:=A.q Tryz.f54
def A.xe:=A.ql A.w54 0 []
def A.b54:=(fun x0=>A.qb A.w54 [x0]) A.xe
def A.k54:=@A.kk 54 29 [.tmp 2,.tmp 3] A.b54 (by kernel_rfl) rfl
def Zzq{k:Nat}(hu:fj h N u m)(hP:iT h N)(hl:m.length<10000)(hr:∀r∈m,r.length<1000000000)(hq:bR m k)(hk:k<=400000000):Fn A.C 54 [u] h N (fun x h' n'=>(we m=true/\x=.aU [.aa,.int .i64 4])\/(we m=false/\∃v,x=.aU [v,.int .i64 0]/\uF h' n' v m)):=by
 intro w;have l1:=hu.len;rw[aP,A.k54 (by simp)];simp[A.b54,l1];refine cB [(2,4),(6,8),(11,27)] (fun e r st=>az N st.w=[]/\ab h N st.h st.n/\((e=.exit 0/\we m=false/\∃v,r.get 4=some v/\yN N st.h st.n v m)\/(e=.ret/\we m=true/\r.get 2=some .aa/\r.get 3=some (.int .i64 4)))) (fun i r st=>az N st.w=[]/\ab h N st.h st.n/\∃t v,t+i=m.length/\r.get 11=some (.int .i64 t)/\we m=we (m.drop t)/\r.get 4=some v/\yN N st.h st.n v (m.take t)) m.length ?_ ?_ ?_
 ·exact⟨by simp,ab.refl,0,_,by omega,by simp,by simp,by simp,yN.nil⟩
 ·rintro i r ⟨H,n,W⟩ gI hf ⟨hW,hK,t,v,ht,fl,hz,h4,hO⟩;simp only at hW hK hO;rw[bG];have le:=hK.le;cases i with
  |zero=>
   obtain rfl:t=m.length:=by omega
   rw[rE]at hz;rw[gm (aN _)]at hO;have Ed:we m=false:=by rw[hz];rfl
   simp[A.xe,gI,hf,fl,h4,Ed,hW,hK];exact hO
  |succ i=>
   have aD:t<m.length:=by omega
   have bV:(t:Int)<(m.length:Int):=by omega
   obtain⟨row,aA⟩:=bs aD;have hm:=cP aA;obtain⟨i1,o1,x1,e1,w1,c,p1,p2,p3,p4,p5⟩:=IT (hu.ad hK) aA;rw[oh aA]at hz;simp[A.xe,gI,fl,bV,l1,p1,p3,p4];refine au (Zza p5.1 (hP.ad hK) (hr row hm) (hq row hm) hk) ?_;rintro _ H3 n3 k3 (⟨hb,rfl⟩|⟨hb,x,rfl,tx⟩)
   ·have Ed:we m=true:=by rw[hz];simp[we,hb]
    simp[hf,hW,Ed];exact hK.trans k3
   have Ed:we m=we (m.drop (t+1)):=by rw[hz];simp[we,hb]
   have ox:V.one x=true/\V.cells x=[x]:=⟨Sl.Ol tx.1,Sl.Bp tx.1⟩;have yG:=k3.le;have kD:ab H3 n3 (H3.set n3 (.cells [x] 23 true)) (n3+1):=ab.refl.new _;have zM:ae [V.aa] 0 [x]=[x]:=rfl;obtain⟨v',h',w',j1,j2,j3,j4⟩:=yN.push (N0:=N) (x:=.slice n3 0 1 (some 1) 1) (w:=W) ((hO.ad k3).ad kD) (By.ad tx kD) (by omega) (by simp[fO,St.row,aO]) (by rw[iV];omega);have kF:ab h N h' (n3+1+1):=((hK.trans k3).trans kD).then j3;simp(disch:=first|(simp;done)|omega|rfl) [-V.cells, -V.one,hf,fl,h4,Ed,ox.1,ox.2,zM,LR,j1];exact⟨i,by omega,by rw[j2];exact hW,kF,t+1,by omega,by simp,rfl,by rw[Bi,aA];exact j4⟩
 rintro e r ⟨H,n,W⟩ gI ⟨hW,hK,⟨rfl,hz,v,h4,hO⟩|⟨rfl,hz,h2,h3⟩⟩
 ·simp only at hW hK hO;simp[h4,ay,hW,hK,hz];exact hO.Z6
 simp only at hW hK;simp[h2,h3,ay,hW,hK,hz]
def A.b9:=A.q Tryz.f9
def A.k9:=@A.kk 9 31 [.tmp 4] A.b9 (by kernel_rfl) rfl
def A.w8:=A.q Tryz.f8
def A.Bz:=A.ql A.w8 0 []
def A.b8:=(fun x0=>A.qb A.w8 [x0]) A.Bz
def A.k8:=@A.kk 8 25 [.tmp 6] A.b8 (by kernel_rfl) rfl
def OD(q:Rat)(d:Nat):Bool:=decide ((aq q.num.natAbs).length<=d)&&decide ((aq q.den).length<=d)
def v_(s:aH)(d:Nat):Bool:=decide (s.length<=2*d+2)&&(decide (aR s=0)&&OD (e_ s) d)
def qU(l:List aH)(n d:Nat):Bool:=decide (l.length<=n)&&l.all fun s=>v_ s d
def Zwh(q:Rat):(aM q.num).length<=(aI q).length:=by unfold aI;split<;>simp
def Yo3{d:Nat}{s:aH}(hd:d<=100):Fn A.C 9 [.str s,.int .i64 (d:Nat)] h N (fun u _ _=>u=.bool (v_ s d)):=by
 intro w;rw[aP,A.k9 (by simp)];by_cases c1:s.length<=2*d+2
 ·have c1':(s.length:Int)<=2*(d:Int)+2:=by omega
  simp(disch:=omega) [A.b9,c1'];refine au (Tj (s:=s) (by omega)) ?_;rintro _ h1 n1 k1 rfl;by_cases c2:aR s=0
  ·have et:=(Gd c2).1;obtain⟨q,hq⟩:∃q,e_ s=q:=⟨_,rfl⟩;rw[hq]at et;have hl:(aI q).length<1000000000:=by rw[et];omega
   have e1:=fun st=>Yrm (q:=q) (st:=st) hl;have e2:=fun st=>Ytq (q:=q) (st:=st) hl;rw[et]at e1 e2;have Gj:(aM q.num).length<1000000000:=by have:=Zwh q;rw[et]at this;omega
   have e3:=fun st=>Yut (z:=q.num) (st:=st) Gj;by_cases c3:(aq q.num.natAbs).length<=d
   ·have c3':((aq q.num.natAbs).length:Int)<=(d:Int):=by omega
    by_cases c4:(aq q.den).length<=d
    ·have c4':((aq q.den).length:Int)<=(d:Int):=by omega
     simp[c2,e1,e2,e3,c3',c4',ay];exact⟨k1,by simp[v_,OD,c1,c2,hq,c3,c4]⟩
    have c4':¬((aq q.den).length:Int)<=(d:Int):=by omega
    simp[c2,e1,e2,e3,c3',c4',ay];exact⟨k1,by simp[v_,OD,c1,c2,hq,c3,c4]⟩
   have c3':¬((aq q.num.natAbs).length:Int)<=(d:Int):=by omega
   simp[c2,e1,e3,c3',ay];exact⟨k1,by simp[v_,OD,c1,c2,hq,c3]⟩
  have c2':¬((aR s:Nat):Int)=0:=by omega
  simp[c2,ay];exact⟨k1,by simp[v_,c2]⟩
 have c1':¬(s.length:Int)<=2*(d:Int)+2:=by omega
 simp(disch:=omega) [A.b9,c1',ay];exact⟨ab.refl,by simp[v_,c1]⟩
def Tk{d:Nat}{l:List aH}(hs:Sl h N v (strs l))(hl:l.length<9223372036854775808)(hd:d<=100)(hn:n<=1000):Fn A.C 8 [v,.int .i64 (n:Nat),.int .i64 (d:Nat)] h N (fun u _ _=>u=.bool (qU l n d)):=by
 intro w;have hlen:=hs.len;rw[pK]at hlen;rw[aP,A.k8 (by simp)];by_cases c0:l.length<=n
 ·have c0':¬(n:Int)<(l.length:Int):=by omega
  have e0:qU l n d=l.all fun s=>v_ s d:=by simp[qU,c0]
  rw[e0];simp[A.b8,hlen,c0'];refine cB [(6,7),(12,24)] (fun e r st=>az N st.w=[]/\ab h N st.h st.n/\((e=.exit 0/\(l.all fun s=>v_ s d)=true)\/(e=.ret/\(l.all fun s=>v_ s d)=false/\r.get 6=some (.bool false)))) (fun m r st=>az N st.w=[]/\ab h N st.h st.n/\∃k,k+m=l.length/\r.get 7=some (.int .i64 k)/\(l.all fun s=>v_ s d)=((l.drop k).all fun s=>v_ s d)) l.length ?_ ?_ ?_
  ·exact⟨by simp,ab.refl,0,by omega,by simp,by simp⟩
  ·rintro m r ⟨H,n1,W⟩ hr hf ⟨hW,hK,k,hk,h7,hz⟩;simp only at hW hK;rw[bG];cases m with
   |zero=>
    obtain rfl:k=l.length:=by omega
    rw[rE,List.all_nil]at hz;simp[A.Bz,hr,hf,h7,hlen,hW,hK];simpa using hz
   |succ m=>
    have aD:k<l.length:=by omega
    have bV:(k:Int)<(l.length:Int):=by omega
    obtain⟨s,hsk⟩:=bs aD;obtain⟨i,o,cc,e,rw,q1,q2,q3,q4⟩:=(hs.ad hK).at (Gk hsk);rw[oh hsk,List.all_cons]at hz;simp[A.Bz,hr,h7,hlen,bV,q1,q3,q4];refine au (Yo3 (s:=s) hd) ?_;rintro _ h3 n3 k3 rfl;have kk:=hK.trans k3;cases xf:v_ s d with
    |true=> rw[xf,Bool.true_and]at hz;simp(disch:=first|(simp;done)|omega|rfl) [hf,h7,hW];exact⟨m,by omega,kk,k+1,by omega,by simp,by simpa using hz⟩
    |false=> rw[xf,Ei]at hz;simp[hf,hW];exact⟨kk,by simpa using hz⟩
  rintro e r ⟨H,n1,W⟩ hr ⟨hW,hK,⟨rfl,hz⟩|⟨rfl,hz,h6⟩⟩
  ·simp only at hW hK;simp[ay,hW,hK];simpa using hz
  simp only at hW hK;simp[h6,ay,hW,hK];simpa using hz
 have c0':(n:Int)<(l.length:Int):=by omega
 simp[A.b8,hlen,c0',ay];exact⟨ab.refl,by simp[qU,c0]⟩
variable {a b:Nat}
def A.w4:=A.q Tryz.f4
def A.BA:=A.ql A.w4 0 []
def A.b4:=(fun x0=>A.qb A.w4 [x0]) A.BA
def A.k4:=@A.kk 4 48 [.tmp 8] A.b4 (by kernel_rfl) rfl
def Yak{k:Nat}(h:qY k a=true)(eF:a<=b):qY k b=true:=by unfold qY at*;have:=of_decide_eq_true h;exact decide_eq_true (by omega)
def Yfe{l:List aH}(h:ef a l=true)(eF:a<=b):ef b l=true:=by unfold ef at*;rw[gV]at*;exact⟨Yak h.1 eF,h.2⟩
def Z7{m:List (List aH)}{c d:Nat}(h:pH a b m=true)(hac:a<=c)(Gl:b<=d):pH c d m=true:=by unfold pH at*;rw[gV]at*;exact⟨Yak h.1 hac,kJ.2 fun x hx=>Yfe (kJ.1 h.2 x hx) Gl⟩
def Bn(m:List (List aH))(r c d:Nat):Bool:=pH r c m&&(decide (m.length<=r)&&(decide (gX m 64 16=0)&&(decide (bg m<=c)&&m.all fun l=>qU l c d)))
def Ys8{r0 c d:Nat}{m:List (List aH)}(hs:fE h N v m)(hl:m.length<9223372036854775808)(hx:∀x∈m,x.length<9223372036854775808)(gI:r0<=6)(hc:c<=6)(hd:d<=100):Fn A.C 4 [v,.int .i64 (r0:Nat),.int .i64 (c:Nat),.int .i64 (d:Nat)] h N (fun u _ _=>u=.bool (Bn m r0 c d)):=by
 intro w;have hlen:=hs.len;have OE:=fun w=>Ykj (w:=w) (n:=r0) (p:=c) hs hl hx (by omega) (by omega);rw[aP,A.k4 (by simp)];cases C7:pH r0 c m with
 |false=> rw[C7]at OE;simp[A.b4,OE,ay];exact⟨ab.refl,by simp[Bn,C7]⟩
 |true=>
  rw[C7]at OE;by_cases c1:m.length<=r0
  ·have c1':¬(r0:Int)<(m.length:Int):=by omega
   obtain⟨x1,x2⟩:=Tc (Z7 C7 gI hc);simp[A.b4,OE,hlen,c1'];refine au (Ykz hs x1 x2) ?_;rintro _ h1 n1 k1 rfl;by_cases c2:gX m 64 16=0
   ·obtain⟨l0,dk,h0⟩:∃l0,m[0]?=some l0/\bg m=l0.length:=by
     cases m with
     |nil=>simp[gX]at c2
     |cons a m=>exact⟨a,rfl,rfl⟩
    obtain⟨i,o,cc,e,rw,u0,q1,q2,q3,q4,q5⟩:=(hs.ad k1).at dk;have l5:=q5.len;rw[pK]at l5;have m0:0<m.length:=fv dk;have LB:(0:Int)<(m.length:Int):=by omega
    rw[iX]at q4;by_cases c3:bg m<=c
    ·have c3':¬(c:Int)<(l0.length:Int):=by omega
     have e0:Bn m r0 c d=m.all fun l=>qU l c d:=by simp[Bn,C7,c1,c2,c3]
     rw[e0];simp[c2,hlen,m0,q1,q3,q4,l5,c3'];refine cB [(8,9),(34,47)] (fun e r st=>az N st.w=[]/\ab h N st.h st.n/\((e=.exit 0/\(m.all fun l=>qU l c d)=true)\/(e=.ret/\(m.all fun l=>qU l c d)=false/\r.get 8=some (.bool false)))) (fun j r st=>az N st.w=[]/\ab h N st.h st.n/\∃k,k+j=m.length/\r.get 9=some (.int .i64 k)/\(m.all fun l=>qU l c d)=((m.drop k).all fun l=>qU l c d)) m.length ?_ ?_ ?_
     ·exact⟨by simp,k1,0,by omega,by simp,by simp⟩
     ·rintro j r ⟨H,n2,W⟩ hr hf ⟨hW,hK,k,hk,h9,hz⟩;simp only at hW hK;rw[bG];cases j with
      |zero=>
       obtain rfl:k=m.length:=by omega
       rw[rE,List.all_nil]at hz;simp[A.BA,hr,hf,h9,hlen,hW,hK];simpa using hz
      |succ j=>
       have aD:k<m.length:=by omega
       have bV:(k:Int)<(m.length:Int):=by omega
       obtain⟨l,gj⟩:=bs aD;obtain⟨i,o,cc,e,rw,u1,q1,q2,q3,q4,q5⟩:=(hs.ad hK).at gj;rw[oh gj,List.all_cons]at hz;have uU:=hx l (cP gj);simp[A.BA,hr,h9,hlen,bV,q1,q3,q4];refine au (Tk q5 uU hd (by omega)) ?_;rintro _ h3 n3 k3 rfl;have kk:=hK.trans k3;cases xf:qU l c d with
       |true=> rw[xf,Bool.true_and]at hz;simp(disch:=first|(simp;done)|omega|rfl) [hf,h9,hW];exact⟨j,by omega,kk,k+1,by omega,by simp,by simpa using hz⟩
       |false=> rw[xf,Ei]at hz;simp[hf,hW];exact⟨kk,by simpa using hz⟩
     rintro e r ⟨H,n1,W⟩ hr ⟨hW,hK,⟨rfl,hz⟩|⟨rfl,hz,h6⟩⟩
     ·simp only at hW hK;simp[ay,hW,hK];simpa using hz
     simp only at hW hK;simp[h6,ay,hW,hK];simpa using hz
    have c3':(c:Int)<(l0.length:Int):=by omega
    simp[c2,hlen,m0,q1,q3,q4,l5,c3',ay];exact⟨k1,by simp[Bn,c3]⟩
   simp[c2,ay];exact⟨k1,by simp[Bn,c2]⟩
  have c1':(r0:Int)<(m.length:Int):=by omega
  simp[A.b4,OE,hlen,c1',ay];exact⟨ab.refl,by simp[Bn,c1]⟩
variable {d i k n:Nat} {m:List (List Rat)} {r:List Rat}
def Yic{c x y z:List Rat}{f:Rat}:∀{n:Nat},(∀k,k<n->z[k]?.getD 0=x[k]?.getD 0-f*y[k]?.getD 0)->lI c z n=lI c x n-f*lI c y n
 |0,_=>by simp[lI];grind
 |n+1,h=>by
  have ih:=Yic (c:=c) (n:=n) fun k hk=>h k (by omega)
  have e:=h n (by omega)
  unfold lI
  rw[ih,e]
  grind
def Yie{c x z:List Rat}{p:Rat}:∀{n:Nat},(∀k,k<n->z[k]?.getD 0=x[k]?.getD 0/p)->lI c z n=lI c x n/p
 |0,_=>by simp[lI,Rat.div_def,Rat.zero_mul]
 |n+1,h=>by
  have ih:=Yie (c:=c) (n:=n) fun k hk=>h k (by omega)
  have e:=h n (by omega)
  unfold lI
  rw[ih,e,Rat.div_def,Rat.div_def,Rat.div_def]
  grind
def nH(n:Nat)(C:List (List Rat))(r:List Rat):List Rat:=r.take n++C.map fun c=>ed c (r.drop n)
def LS{C:List (List Rat)}(h:n<=r.length):(nH n C r).length=n+C.length:=by simp[nH];omega
def TD{C:List (List Rat)}(h:n<=r.length)(hi:i<n):(nH n C r)[i]?=r[i]?:=by unfold nH;rw[k_ (by rw[iV];omega),jZ,av hi]
def Yx4{C:List (List Rat)}(h:n<=r.length):(nH n C r)[n+j]?=(C[j]?).map fun c=>ed c (r.drop n):=by unfold nH;rw[pC (by rw[iV];omega),iV,rP h,Nat.add_sub_cancel_left,eH]
def Zip:(r.drop n)[k]?.getD 0=r[n+k]?.getD 0:=by rw[fU]
def Z8{p:Rat}:(r.map fun x=>x/p)[k]?.getD 0=r[k]?.getD 0/p:=by
 rw[eH];cases r[k]? with
 |none=>simp[Rat.div_def,Rat.zero_mul]
 |some q=>rfl
def Z9{p:List Rat}(h:r.length=p.length):(wc r p k)[j]?.getD 0=r[j]?.getD 0-r[k]?.getD 0*p[j]?.getD 0:=by
 by_cases hj:j<r.length
 ·unfold wc;rw[Tn hj];rfl
 rw[gl (by rw[Oj];omega),gl (l:=r) (by omega),gl (l:=p) (by omega)];show (0:Rat)=0-r[k]?.getD 0*0;rw[Rat.mul_zero,Rat.sub_self]
def TE{a b:List Rat}(h:a.length=b.length)(hg:∀i,i<a.length->a[i]?.getD 0=b[i]?.getD 0):a=b:=by apply List.ext_getElem h;intro i h1 h2;have:=hg i h1;rw[cj h1,cj h2]at this;exact this
def OF{C:List (List Rat)}(h:n<=r.length):(nH n C r)[i]?.getD 0=if i<n then r[i]?.getD 0 else ((C[i-n]?).map fun c=>ed c (r.drop n)).getD 0:=by
 by_cases hi:i<n
 ·rw[av hi,TD h hi]
 rw[ak hi];have:=Yx4 (C:=C) (j:=i-n) h;rw[show n+(i-n)=i by omega]at this;rw[this]
def Yuk{C:List (List Rat)}{p:Rat}(h:n<=r.length):nH n C (r.map fun x=>x/p)=(nH n C r).map fun x=>x/p:=by
 have h':n<=(r.map fun x=>x/p).length:=by rw[dL];exact h
 apply TE (by rw[LS h',dL,LS h]);intro i _;rw[OF h',Z8,Z8,OF h];by_cases hi:i<n
 ·rw[av hi,av hi]
 rw[ak hi,ak hi];cases C[i-n]? with
 |none=>simp[Rat.div_def,Rat.zero_mul]
 |some c=>exact Yie fun k _=>by rw[Zip,Z8,Zip]
def Yuj{C:List (List Rat)}{p:List Rat}(h:n<=r.length)(hp:r.length=p.length)(hk:k<n):nH n C (wc r p k)=wc (nH n C r) (nH n C p) k:=by
 have h':n<=(wc r p k).length:=by rw[Oj];exact h
 have Tw:n<=p.length:=by omega
 apply TE (by rw[LS h',Oj,LS h]);intro i _;rw[OF h',Z9 hp,Z9 (r:=nH n C r) (by rw[LS h,LS Tw]),OF h,OF Tw,TD h hk];by_cases hi:i<n
 ·rw[av hi,av hi,av hi]
 rw[ak hi,ak hi,ak hi];cases C[i-n]? with
 |none=>simp[Rat.mul_zero,Rat.sub_self]
 |some c=>exact Yic fun j _=>by rw[Zip,Z9 hp,Zip,Zip]
def LU{F:List Rat->List Rat}(h:i<m.length):((m.map F)[i]?).getD []=F (m[i]?.getD []):=by rw[eH,cj h];rfl
def Yoh{m:List (List Rat)}{n k L:Nat}{C:List (List Rat)}(hc:aW m L)(hn:n<=L)(hk:k<n):∀{t d:Nat},d+t<=m.length->td (m.map (nH n C)) k d t=td m k d t
 |0,d,_=>rfl
 |t+1,d,h=>by
  have hl:=hc.at (i:=d) (by omega)
  unfold td
  rw[LU (by omega),TD (by omega) hk,Yoh hc hn hk (by omega)]
def Yp8{F:List Rat->List Rat}{p:Nat}(hd:d<m.length)(hp:p<m.length):cX (m.map F) d p=(cX m d p).map F:=by unfold cX;rw[LU hd,LU hp,List.map_set,List.map_set]
def Yqr{L:Nat}{C:List (List Rat)}(hc:aW m L)(hn:n<=L)(hk:k<n)(hd:d<m.length):jk (m.map (nH n C)) d k=(jk m d k).map (nH n C):=by have hl:=hc.at hd;unfold jk;rw[LU hd,List.map_set,TD (by omega) hk,Yuk (by omega)]
def Yte{t L:Nat}{C:List (List Rat)}(hc:aW m L)(hn:n<=L)(hk:k<n)(hd:d<m.length):dr (m.map (nH n C)) d k t=(dr m d k t).map (nH n C):=by
 have hl:=hc.at hd;unfold dr;rw[dL,List.map_map];apply Ax;intro i hi;have hi:=jz.1 hi;have TF:=hc.at hi;simp only[Function.comp];rw[LU hi,LU hd];split
 ·rw[Yuj (by omega) (by omega) hk]
 rfl
def Yqe{s:List (List Rat)×Nat×List Nat}{L:Nat}{C:List (List Rat)}(hc:aW s.1 L)(hn:n<=L)(hk:k<n)(hd:s.2.1<=s.1.length):kL (s.1.map (nH n C),s.2.1,s.2.2) k=((kL s k).1.map (nH n C),(kL s k).2.1,(kL s k).2.2):=by
 obtain⟨m,d,ps⟩:=s;simp only at hc hd;have e:iQ (m.map (nH n C)) d k=iQ m d k:=by unfold iQ;rw[dL];exact Yoh hc hn hk (by omega)
 have hle:=(Ij (m:=m) (k:=k) (n:=m.length-d) (d:=d)).1;unfold kL;simp only;rw[e,dL];by_cases hp:iQ m d k<m.length
 ·have eY:d<m.length:=by unfold iQ at hp;omega
  rw[av hp,av hp];have c1:=hc.FT eY hp;have c2:=c1.Lb (d:=d) (k:=k) (by rw[rK];exact eY);rw[Yp8 eY hp,Yqr c1 hn hk (by rw[rK];exact eY),Yte c2 hn hk (by rw[DW,rK];exact eY)]
 rw[ak hp,ak hp]
def Zyh{m:List (List Rat)}{n L:Nat}{C:List (List Rat)}(hc:aW m L)(hn:n<=L):∀{k:Nat},k<=n->aK (m.map (nH n C)) k=((aK m k).1.map (nH n C),(aK m k).2.1,(aK m k).2.2)
 |0,_=>rfl
 |k+1,h=>by
  have I:=qJ hc (n:=k)
  have hl:=Gc (m:=m) (n:=k)
  rw[yA,yA,Zyh hc hn (by omega)]
  exact Yqe I.1 hn (by omega) (by rw[hl];exact I.2)
variable {G X m:List (List Rat)} {i n:Nat}
def dN(G X:List (List Rat)):List (List Rat):=(List.range G.length).map fun i=>G[i]?.getD []++X[i]?.getD []
def yP(n i:Nat):List Rat:=(List.range n).map fun j=>if j=i then 1 else 0
def zA(n:Nat):List (List Rat):=(List.range n).map (yP n)
def fb(a C:List (List Rat)):List (List Rat):=a.map fun r=>C.map fun c=>ed c r
def So(G:List (List Rat))(n:Nat):Option (List (List Rat)):=if (aK (dN G (zA n)) (n+n)).2.1=n/\∀i,i<n->(aK (dN G (zA n)) (n+n)).2.2[i]?.getD 0=i then some ((bH (dN G (zA n)) (n+n)).map (List.drop n)) else none
def ry(G X:List (List Rat))(n c:Nat):Option (List (List Rat)):=if (aK (dN G X) (n+c)).2.1<n\/(aK (dN G X) (n+c)).2.2[n-1]?.getD 0≠n-1 then none else some ((bH (dN G X) (n+c)).map (List.drop n))
def A6:(dN G X).length=G.length:=by simp[dN]
def z_{c:Nat}(hG:aW G n)(hX:aW X c)(hl:G.length<=X.length):aW (dN G X) (n+c):=fun r hr=>by
 obtain⟨i,hi,rfl⟩:=bO.1 hr
 have hi:=jz.1 hi
 rw[iU,hG.at hi,hX.at (by omega)]
def Yp0:(yP n i).length=n:=by simp[yP]
def Yp1(h:j<n):(yP n i)[j]?.getD 0=if j=i then 1 else 0:=by simp[yP,h]
def Yow:(zA n).length=n:=by simp[zA]
def Yz2(h:i<n):(zA n)[i]?.getD []=yP n i:=by simp[zA,h]
def Yw1:aW (zA n) n:=fun r hr=>by
 obtain⟨i,_,rfl⟩:=bO.1 hr
 exact Yp0
def Yia{a:List Rat}{n i:Nat}:∀{m:Nat},m<=n->lI a (yP n i) m=if i<m then a[i]?.getD 0 else 0
 |0,_=>by simp[lI]
 |m+1,h=>by
  unfold lI
  rw[Yia (a:=a) (i:=i) (m:=m) (by omega),Yp1 (by omega)]
  by_cases e:m=i
  ·subst e
   simp[Rat.mul_one,Rat.zero_add]
  ·rw[ak e,Rat.mul_zero,Rat.add_zero]
   by_cases e2:i<m
   ·rw[av e2,av (by omega)]
   ·rw[ak e2,ak (by omega)]
def Zy5{c:Nat}(hG:aW G n)(hl:G.length=n)(hX:aW X c)(hx:X.length=n):dN G X=(dN G (zA n)).map (nH n (dm X c)):=by
 unfold dN;rw[List.map_map];apply Ax;intro i hi;have hi:=jz.1 hi;have l1:=hG.at hi;simp only[Function.comp];rw[Yz2 (by omega)];unfold nH;rw[List.take_left' l1,List.drop_left' l1];congr 1;have l2:=hX.at (i:=i) (by omega);apply TE (by rw[l2];simp[dm]);intro j hj;rw[l2]at hj;unfold dm;rw[List.map_map,eH,zD hj];simp only[qH,iL,Function.comp];unfold ed;have l3:(qL X j).length=n:=by simp[qL,hx]
 rw[l3,Yia (aN _),av (by omega)];unfold qL;rw[eH];cases X[i]?<;>simp
def Yh7{m:List (List Rat)}{k:Nat}:∀{e:Nat},∃l:List Nat,(aK m (k+e)).2.2=(aK m k).2.2++l/\∀x∈l,k<=x
 |0=>⟨[],by simp,fun x hx=>by simp at hx⟩
 |e+1=>by
  obtain⟨l,h1,h2⟩:=Yh7 (m:=m) (k:=k) (e:=e)
  rw[<-pE,yA]
  unfold kL
  split
  ·refine⟨l++[k+e],by simp[h1],fun x hx=>?_⟩
   rcases iS.1 hx with hx|hx
   ·exact h2 x hx
   ·simp at hx
    omega
  ·exact⟨l,h1,h2⟩
def V9(h:zE m d ps d)(hi:i<d):ps[i]?.getD 0=i:=by
 have up:∀j,j<d->j<=ps[j]?.getD 0:=fun j=>by
  induction j with
  |zero=>intro _;omega
  |succ j ih=> intro hj;have:=h.zU j (j+1) (by omega) hj;have:=ih (by omega);omega
 have dn:∀j,j<d->ps[d-1-j]?.getD 0+j<d:=fun j=>by
  induction j with
  |zero=>intro h0;exact h.lt (d-1) (by omega)
  |succ j ih=> intro hj;have h1:=h.zU (d-1-(j+1)) (d-1-j) (by omega) (by omega);have:=ih (by omega);omega
 have h1:=up i hi;have h2:=dn (d-1-i) (by omega);rw[show d-1-(d-1-i)=i by omega]at h2;omega
def Yam{L e:Nat}(hm:aW m L)(h0:0<n)(ht:(aK m n).2.1<n)(hd:(aK m (n+e)).2.1=n):n<=(aK m (n+e)).2.2[n-1]?.getD 0:=by
 obtain⟨l,q1,q2⟩:=Yh7 (m:=m) (k:=n) (e:=e);have J:=(qI hm (n:=n)).len;have J2:=(qI hm (n:=n+e)).len;rw[hd,q1,iU]at J2;rw[q1,pC (by omega)];have aD:n-1-(aK m n).2.2.length<l.length:=by omega
 rw[cj aD];exact q2 _ (List.getElem_mem aD)
def Yn6{c:Nat}(hG:aW G n)(hl:G.length=n)(h0:0<n)(hX:aW X c)(hx:X.length=n):ry G X n c=(So G n).map fun H=>fb H (dm X c):=by
 have hW:=z_ hG (Yw1 (n:=n)) (by rw[Yow,hl];exact aN _);have lW:(dN G (zA n)).length=n:=by rw[A6,hl]
 have I:=qI hW (n:=n);have hle:=(qJ hW (n:=n)).2;have hwx:=Zy5 hG hl hX hx;have hE:=Zyh (C:=dm X c) hW (Nat.le_add_right n n) (aN n);rw[<-hwx]at hE;have lX:(dN G X).length=n:=by rw[A6,hl]
 unfold ry So bH;by_cases f:(aK (dN G (zA n)) n).2.1=n
 ·have e1:=Om (f.trans lW.symm) (n:=n);have e2:aK (dN G X) (n+c)=aK (dN G X) n:=Om (by rw[hE,lX];exact f);rw[e1,e2,hE];simp only;rw[f]at I;rw[ak (by rw[f,V9 I (by omega)];omega),av ⟨f,fun i hi=>V9 I hi⟩,qH,f];congr 1;unfold fb;rw[List.map_map,<-List.map_take,List.map_map];apply Ax;intro r hr;have lr:=(qJ hW (n:=n)).1 r (AG hr);simp only[Function.comp];unfold nH;exact List.drop_left' (by rw[iV];omega)
 have ht:(aK (dN G (zA n)) n).2.1<n:=by omega
 have zp:(aK (dN G X) n).2.1<n:=by rw[hE];exact ht
 have hWX:=z_ hG hX (by omega);rw[av,ak]
 ·rfl
 ·rintro⟨a,b⟩;have:=Yam hW h0 ht a;rw[b (n-1) (by omega)]at this;omega
 by_cases d:(aK (dN G X) (n+c)).2.1<n
 ·exact .inl d
 have h5:=(qJ hWX (n:=n+c)).2;have:=Yam hWX h0 zp (e:=c) (by omega);exact .inr (by omega)
end
end Go.Mx
