/-reconstruct-/
import Derived.Test.YteojhfjdbpdolaaGreatDoorCoF
set_option linter.all false
namespace Go.Mx
noncomputable section
open Go Go.Proofs
variable {R:Nat} {m:List (List Rat)}
set_option maxHeartbeats 2000000
set_option maxRecDepth 1000000
def A.UY:=A.q Tryz.f41
def A.nQ:=A.ql A.UY 1 []
def A.qu:=(fun x0=>A.ql A.UY 0 [x0]) A.nQ
def A.b41:=(fun x0=>A.qb A.UY [x0]) A.qu
def A.k41:=@A.kk 41 120 [.tmp 2,.tmp 3] A.b41 (by kernel_rfl) rfl
def lY.at{h:T O}{N:Nat}(s:lY h N R m){j:Nat}{l:List Rat}(hj:m[j]?=some l):∃us u,h.get R=some (.cells us 70 true)/\us.length=m.length/\us[j]?=some u/\fl h N u l:=by
 obtain⟨us,g1,g2,_,_,g5⟩:=s.ex
 obtain⟨u,a1,a2⟩:=g5 j l hj
 exact⟨us,u,g1,g2,a1,a2⟩
def lY.B8{h:T O}{N i:Nat}{u:V}{l:List Rat}{us:List V}(s:lY h N R m)(g:h.get R=some (.cells us 70 true))(hu:fl h N u l)(hi:i<m.length):lY (h.set R (.cells (us.set i u) 70 true)) N R (m.set i l):=by
 obtain⟨vs,g1,_,g2⟩:=s.put hu hi
 rw[g]at g1
 simp only[al,O.cells.injEq,and_true]at g1
 subst g1
 exact g2
def Ywn{c:List V}(h:c.length=4):aF c 0 4=some c:=by unfold aF;rw[h];simp;exact fe (by omega)
def Ywm{c:List V}(h:c.length=4):ad [V.int .i64 0,.aa,.int .i64 0,.aa] 0 c=c:=by unfold ad;rw[h];simp
def Yik{α:Type}{l:List α}{i:Nat}{a:α}(h:l[i]?=some a):l.set i a=l:=by
 apply lA
 intro j
 by_cases e:j=i
 ·subst e
  rw[gG (wP.1 h).1,h]
 ·rw[d_ (Ne.symm e)]
def Yu4{q:Rat}:eF q.num=0↔q=0:=by
 have h1:=@zE q
 unfold eF
 constructor
 ·intro hh
  apply h1.1
  split at hh
  ·omega
  ·split at hh<;>omega
 ·intro hh
  have:=h1.2 hh
  rw[this]
  rfl
def Yi2{W0:List Nat}{N0:Nat}{H:T O}{n P:Nat}{r0:T V}{d k c K:Nat}{cp:Option Nat}(s:lY H n R m)(zG:N0<=R)(hP:H.get P=some (.cells [.int .i64 k] 3 true))(hPl:P<n)(hc:bg m c)(hk:k<c)(hd:d<m.length)(mw:m.length<1000)(cN:c<1000)(x_:1<=K)(hK:∀i,i≠d->∀q∈m[i]?.getD [],Qb K q)(hPq:∀q∈m[d]?.getD [],Qb (2*K) q)(hKl:3*K<=400000000)(tW:ax N0 W0=[])(a4:r0.get 4=some (.slice R 0 m.length cp 1))(a6:r0.get 6=some (.int .i64 d))(a7:r0.get 7=some (.ptr P 0))(UZ:r0.get 71=some (.int .i64 m.length))(a72:r0.get 72=some (.int .i64 0)):
  Code A.C none (.loop A.nQ) ⟨r0,120,[]⟩ ⟨H,n,W0⟩ (fun e fr st=>e=.exit 2/\ax N0 st.w=[]/\eE (fun i=>i=R) H n st.h st.n/\lY st.h st.n R (b_ m d k m.length)/\∃r,Fx [(10,12),(72,104)] r0 120 ⟨r,120,[]⟩/\fr=⟨r,120,[]⟩):=by
 have hPR:¬P=R:=fun hc=>by
  obtain⟨us,g,_⟩:=s.ex
  rw[hc,g]at hP
  simp at hP
 rw[bl]
 refine bL [(10,12),(72,104)] (fun e r st=>e=.exit 2/\ax N0 st.w=[]/\eE (fun i=>i=R) H n st.h st.n/\lY st.h st.n R (b_ m d k m.length)) (fun i r st=>ax N0 st.w=[]/\eE (fun i=>i=R) H n st.h st.n/\∃t,t<=m.length/\i=m.length-t/\r.get 72=some (.int .i64 t)/\lY st.h st.n R (b_ m d k t)) (m.length) ?_ ?_ ?_
 ·exact⟨tW,eE.refl,0,by omega,by omega,a72,by rw[Ytx];exact s⟩
 ·rintro i r ⟨H1,n1,W⟩ hr hf ⟨hW,k1,t,ht,rfl,ID,s1⟩
  simp only at hW k1 s1
  rw[bl]
  have IE:=(k1.get P hPl hPR).trans hP
  have Kw:=eX hPl k1.le
  by_cases ay:t<m.length
  ·have bb:(t:Int)<(m.length:Int):=by omega
   have yE:(d:Int)<(m.length:Int):=by omega
   obtain⟨row,aq⟩:=bk ay
   obtain⟨lV,iN⟩:=bk hd
   have qp:=hc row (cG aq)
   have gw:=hc lV (cG iN)
   have w2:(b_ m d k t)[d]?=some lV:=by rw[Ytw hd];exact iN
   have w1:(b_ m d k t)[t]?=some row:=by rw[DJ ay,ak (by omega),aq];rfl
   obtain⟨us,u,g1,g2,g3,g4⟩:=s1.at w1
   obtain⟨us',v,B2,_,DK,Iy⟩:=s1.at w2
   rw[g1]at B2
   simp only[al,O.cells.injEq,and_true]at B2
   subst B2
   obtain⟨q,hq⟩:=bk (l:=row) (k:=k) (by omega)
   obtain⟨i1,o1,c1,e1,x1,cs,q1,q2,q3,q4,q5⟩:=g4.1.at hq
   obtain⟨z1,z2⟩:=q5.len
   have sZ:=g4.1.len
   have bM:(k:Int)<(row.length:Int):=by omega
   have er:k<row.length:=by omega
   have hR:=s1.lt
   have PF:¬R=n1:=by omega
   have PG:¬P=n1:=by omega
   have mA:∀c:List V,(V.agg c).cells=c:=fun _=>rfl
   have s0:=Ywn z1
   have e4:=Ywm z1
   have U0:n1<n1+1:=by omega
   have lR:R<n1+1:=by omega
   have kB:ab H1 n1 ((H1.set n1 (.cells [.int .i64 0,.aa,.int .i64 0,.aa] 89 true)).set n1 (.cells cs 89 true)) (n1+1):=(ab.refl.new _).set (aM _)
   have gN:((H1.set n1 (.cells [.int .i64 0,.aa,.int .i64 0,.aa] 89 true)).set n1 (.cells cs 89 true)).get n1=some (.cells cs 89 true):=by rw[T.ag,av rfl]
   by_cases e:t=d
   ·subst e
    rw[<-Zyx]at s1
    simp(disch:=first|(simp;done)|omega|rfl) [-V.cells, -V.one,A.nQ,hr,hf,a4,a6,a7,UZ,ID,ay,bb,g1,g3,hR,q1,q2,q3,q4,PH q4,sZ,bM,er,IE,Kw,bC,mA,z1,z2,s0,e4,U0,PF,PG,k1,hW]
    have sJ:=k1.le
    refine⟨m.length-(t+1),by omega,by omega,(k1.new _).set (.inr sJ),t+1,by omega,rfl,by simp,s1.ae kB⟩
   ·have e':¬(t:Int)=(d:Int):=by omega
    simp[-V.cells, -V.one,A.nQ,hr,hf,a4,a6,a7,UZ,ID,ay,bb,yE,hd,g1,g3,DK,hR,q1,q2,q3,q4,PH q4,sZ,bM,er,IE,Kw,bC,mA,z1,z2,s0,e4,U0,PF,PG,e,e']
    have sB:=s1.ae kB
    have gR:=(kB.get R hR).trans g1
    have qB:=q5.ae kB
    have rB:=g4.ae kB
    have pB:=Iy.ae kB
    have kU:eE (fun i=>i=R) H n ((H1.set n1 (.cells [.int .i64 0,.aa,.int .i64 0,.aa] 89 true)).set n1 (.cells cs 89 true)) (n1+1):=(k1.new _).set (.inr k1.le)
    generalize (H1.set n1 (.cells [.int .i64 0,.aa,.int .i64 0,.aa] 89 true)).set n1 (.cells cs 89 true)=G at*
    refine aA (Zyw qB.fc) ?_
    rintro _ H2 n2 k2 rfl
    have kX:=k2.le
    have Kx:¬n1<N0:=by have:=s.lt;have:=k1.le;omega
    have pM:=(k2.get R (by omega)).trans gR
    have IF:=(k2.get n1 (by omega)).trans gN
    have wL:R<n2:=by omega
    have lN2:n1<n2:=by omega
    have U6:=@zE q
    have hz:(eF q.num=0)↔q=0:=Yu4
    by_cases c0:q=0
    ·have U7:=hz.2 c0
     simp(disch:=first|(simp;done)|omega|rfl) [hr,hf,ID,U7,aG,Kx,hW]
     refine⟨m.length-(t+1),by omega,kU.trans k2.upd,t+1,by omega,rfl,by simp,?_⟩
     rw[UL ay e,aq,iN]
     simp only[fX]
     rw[Ycv (by rw[hq];exact c0),Yik w1]
     exact sB.ae k2
    ·have U7:¬eF q.num=0:=fun hc=>c0 (hz.1 hc)
     simp[hr,hf,a4,a6,ID,U7,aG,pM,wL,g3,DK,ay,bb,hd,yE]
     have xX:∀q∈row,Qb K q:=by have:=hK t e;rw[aq]at this;exact this
     have xW:∀q∈lV,Qb (2*K) q:=by have:=hPq;rw[iN]at this;exact this
     have iU:=xX q (cG hq)
     refine aA (Yfo (fun x y=>x-q*y) (rB.1.ae k2) (pB.1.ae k2) (by omega) (fun x hx y hy h' n' ca cb k' ha hb=>Yty (i:=K) (j:=2*K) (k:=K) ((k'.get n1 lN2).trans IF) (eX lN2 k'.le) ha hb ((qB.ae k2).ae k') (xX x hx) (xW y hy) iU (by omega) (by omega) (by omega) (by omega) (by omega)) (by omega)) ?_
     rintro v3 H3 n3 k3 t3
     have B3:=k3.le
     have s3:=(sB.ae k2).ae k3
     have Iy:=(k3.get R wL).trans pM
     have wK:t<us.length:=by rw[g2,yF];exact ay
     have uM:t+1<=us.length:=wK
     have iX:(t:Int)<(us.length:Int):=by omega
     have f_:∀u,ad us t [u]=us.set t u:=fun u=>BZ wK
     have Ks:R<n3:=by omega
     obtain⟨_,UK,Ky⟩:=t3.B9
     simp(disch:=first|(simp;done)|omega|rfl) [-V.cells, -V.one,bC,Ky,UK,f_,wK,uM,Iy,wL,Ks,hr,hf,ID]
     have dT:ks (fun x y=>x-q*y) row lV row.length=pj row lV k:=by unfold pj;rw[hq];rfl
     rw[dT]at t3
     have sp:=s3.B8 Iy t3 (i:=t) (by rw[yF];exact ay)
     refine⟨m.length-(t+1),by omega,by rw[ak (by omega),ak Kx];exact hW,((kU.trans k2.upd).trans k3.upd).set (.inl rfl),t+1,by omega,rfl,by simp,?_⟩
     rw[UL ay e,aq,iN]
     exact sp
  ·obtain rfl:t=m.length:=by omega
   simp[A.nQ,hr,hf,a4,a6,UZ,ID,k1,hW]
   exact s1
 ·rintro _ r st hr ⟨rfl,hw,k1,s1⟩
  simp[]
  exact⟨hw,k1,s1,hr,rfl,rfl⟩
variable {N R:Nat} {h:T O} {m:List (List Rat)}
set_option maxHeartbeats 4000000
def Zx1{m:List (List Rat)}{k d:Nat}:∀{n j:Nat},(nR (fun i=>decide (((m.drop d)[i]?.getD [])[k]?.getD 0≠0)) j n= -1/\nN m k (d+j) n=d+j+n)\/∃a:Nat,nR (fun i=>decide (((m.drop d)[i]?.getD [])[k]?.getD 0≠0)) j n=a/\nN m k (d+j) n=d+a/\a<j+n
 |0,j=>.inl ⟨rfl,rfl⟩
 |n+1,j=>by
  unfold nR nN
  simp only[ff]
  by_cases e:(m[d+j]?.getD [])[k]?.getD 0≠0
  ·rw[av e]
   exact .inr ⟨j,by simp[e],rfl,by omega⟩
  ·rw[ak e]
   simp only[e,decide_false,fH,if_false]
   have ih:=@Zx1 m k d n (j+1)
   simp only[ff]at ih
   rcases ih with⟨h1,h2⟩|⟨a,h1,h2,h3⟩
   ·exact .inl ⟨h1,by rw[show d+j+1=d+(j+1) by omega,h2];omega⟩
   ·exact .inr ⟨a,h1,by rw[show d+j+1=d+(j+1) by omega,h2],by omega⟩
def zH(ps:List Nat):List Int:=ps.map fun p:Nat=>(p:Int)
def lY.cE{h':T O}{N':Nat}{v:V}{e:TypeId}(s:lY h N R m)(k:eE (fun i=>i∈dh v) h N h' N')(hd:nP e NW h v)(he:e≠89)(uP:e≠70):lY h' N' R m:=by
 obtain⟨us,g1,g2,g3,g4,g5⟩:=s.ex
 refine⟨eX s.lt k.le,us,(k.get R s.lt fun hc=>?_).trans g1,g2,g3,g4,fun j l hl=>?_⟩
 ·obtain⟨z,hz,_⟩:=hd R hc
  rw[g1]at hz
  simp at hz
  exact uP hz.2.symm
 ·obtain⟨u,a1,a2⟩:=g5 j l hl
  exact⟨u,a1,a2.cE k hd he⟩
def Yaa{W0:List Nat}{N0:Nat}{H:T O}{n:Nat}{r0:T V}{c:Nat}{B:Nat->Nat}(s:lY H n R m)(zG:N0<=R)(hc:bg m c)(mw:m.length<1000)(ix:0<m.length)(cN:c<1000)(x_:∀n,1<=B n)(hK:∀k,cB (aD m k).1 (B (aD m k).2.1))(hB:∀n,n<m.length->n<c->3*B n<=400000000)(kH:ab h N0 H n)(tW:ax N0 W0=[])(a4:r0.get 4=some (.slice R 0 m.length (some m.length) 1))(a5:r0.get 5=some .aa)(a6:r0.get 6=some (.int .i64 0))(a25:r0.get 25=some (.int .i64 c))(a26:r0.get 26=some (.int .i64 0)):
  Code A.C none (.loop A.qu) ⟨r0,120,[]⟩ ⟨H,n,W0⟩ (fun e fr st=>e=.exit 0/\ax N0 st.w=[]/\ab h N0 st.h st.n/\lY st.h st.n R (aD m c).1/\∃r v,Fx [(5,12),(26,115)] r0 120 ⟨r,120,[]⟩/\fr=⟨r,120,[]⟩/\r.get 6=some (.int .i64 (aD m c).2.1)/\r.get 5=some v/\qt N0 st.h st.n v (zH (aD m c).2.2)):=by
 rw[bl]
 refine bL [(5,12),(26,115)] (fun e r st=>e=.exit 0/\ax N0 st.w=[]/\ab h N0 st.h st.n/\lY st.h st.n R (aD m c).1/\∃v,r.get 6=some (.int .i64 (aD m c).2.1)/\r.get 5=some v/\qt N0 st.h st.n v (zH (aD m c).2.2)) (fun i r st=>ax N0 st.w=[]/\ab h N0 st.h st.n/\∃k v,k<=c/\i=c-k/\r.get 26=some (.int .i64 k)/\r.get 6=some (.int .i64 (aD m k).2.1)/\r.get 5=some v/\qt N0 st.h st.n v (zH (aD m k).2.2)/\(aD m k).2.1<m.length/\lY st.h st.n R (aD m k).1) c ?_ ?_ ?_
 ·exact⟨tW,kH,0,_,by omega,by omega,a26,a6,a5,qt.nil,ix,s⟩
 ·rintro i r ⟨H1,n1,W⟩ hr hf ⟨hW,k1,k,pv,hk,rfl,A9,h6,h5,hO,yc,s1⟩
  simp only at hW k1 s1 hO
  rw[bl]
  have hlen:(aD m k).1.length=m.length:=yG
  obtain⟨IA,gZ⟩:=@mB m c hc k
  by_cases ay:k<c
  ·have bb:(k:Int)<(c:Int):=by omega
   obtain⟨us,g1,g2,g3,g4,g5⟩:=id s1.ex
   have hR:=s1.lt
   have PF:¬R=n1:=by omega
   have kA:ab H1 n1 ((H1.set n1 (.cells [.int .i64 0] 3 true)).set n1 (.cells [.int .i64 k] 3 true)) (n1+1):=(ab.refl.new _).set (aM _)
   have gP:((H1.set n1 (.cells [.int .i64 0] 3 true)).set n1 (.cells [.int .i64 k] 3 true)).get n1=some (.cells [.int .i64 k] 3 true):=by rw[T.ag,av rfl]
   have sA:=s1.ae kA
   have gA:=(kA.get R hR).trans g1
   have oA:=hO.ae kA
   have kU:=k1.trans kA
   simp[A.qu,hr,hf,a4,h5,h6,a25,A9,ay,bb,bC,ad]
   generalize (H1.set n1 (.cells [.int .i64 0] 3 true)).set n1 (.cells [.int .i64 k] 3 true)=G at*
   have hs:Sl G (n1+1) (.slice R 0 m.length (some m.length) 1) us:=Sl.row (by omega) gA (by omega) fun k hk=>by simp at hk;omega
   obtain⟨sv,e1,e2⟩:=DO (w:=n1::W) hs (lo:=(aD m k).2.1) (hi:=us.length) (by omega) (aM _) (some (.int .i64 (aD m k).2.1)) none (.inl rfl) (.inr ⟨rfl,rfl⟩)
   rw[fe (aM _)]at e2
   simp[zJ,hr,hf,a4,h5,h6,a25,A9,e1]
   have Ca:dJ (aD m k).1 (aD m k).2.1 k=m.length->aD m (k+1)=aD m k:=fun hp=>by
    rw[ta]
    unfold fT
    rw[ak (by omega)]
   have iy:dJ (aD m k).1 (aD m k).2.1 k<m.length->aD m (k+1)=(b_ (eZ (bP (aD m k).1 (aD m k).2.1 (dJ (aD m k).1 (aD m k).2.1 k)) (aD m k).2.1 k) (aD m k).2.1 k (aD m k).1.length,(aD m k).2.1+1,(aD m k).2.2++[k]):=fun hp=>by
    rw[ta]
    unfold fT
    rw[av (by omega)]
   have zao:=@Ko m k
   have hpp:=@Yf9 m k
   have UP:cB (aD m k).1 (B (aD m k).2.1):=hK _
   have U8:=@Ku m (k+1)
   generalize hd:(aD m k).2.1=d at*
   generalize mC:(aD m k).1=m1 at*
   generalize qw:(aD m k).2.2=ps at*
   have IE:n1<n1+1:=by omega
   have U9:(us.drop d).length=m1.length-d:=by rw[uQ,g2]
   refine aA (Yp8 (us.drop d) (fun i:Nat=>decide (((m1.drop d)[i]?.getD [])[k]?.getD 0≠0)) e2 (by omega) fun j x hx h' n' gE=>?_) ?_
   ·have jn:us[d+j]?=some x:=by rw[<-ff];exact hx
    obtain⟨row,aq⟩:=bk (l:=m1) (k:=d+j) (by have:=iY jn;omega)
    obtain⟨y,b1,b2⟩:=g5 _ _ aq
    rw[jn]at b1
    simp only[al]at b1
    subst b1
    have:=Yt0 (k:=k) ((gE.get n1 IE).trans gP) (eX IE gE.le) ((b2.ae kA).ae gE).1 (by rw[IA row (cG aq)];exact ay)
    simp only[ff,aq,fX]
    exact this
   rintro _ H2 n2 k2 rfl
   rw[U9]
   have kX:=k2.le
   have gP2:=(k2.get n1 IE).trans gP
   have s2:=sA.ae k2
   have o2:=oA.ae k2
   have pM:=(k2.get R (by omega)).trans gA
   have Va:=kU.trans k2
   have Kx:¬n1<N0:=by have:=k1.le;omega
   have wL:R<n2:=by omega
   rcases @Zx1 m1 k d (m1.length-d) 0 with⟨f1,f2⟩|⟨a,f1,f2,f3⟩
   ·rw[f1]
    have A8:dJ m1 d k=m.length:=by unfold dJ;have:=f2;rw[kv]at this;omega
    simp(disch:=first|(simp;done)|omega|rfl) [hr,hf,h5,h6,A9,a4,Kx,hW]
    refine⟨c-(k+1),by omega,Va,k+1,by omega,rfl,by simp,?_,?_⟩
    ·rw[Ca A8];simp[hd]
    ·rw[Ca A8,mC,qw,hd]
     exact⟨o2,yc,s2⟩
   ·rw[f1]
    rw[kv]at f2
    obtain⟨p,hp⟩:∃p,p=d+a:=⟨_,rfl⟩
    have pN:dJ m1 d k=p:=by unfold dJ;omega
    have hda:(d:Int)+(a:Int)=(p:Int):=by omega
    have gw:p<m1.length:=by omega
    have dp:d<m1.length:=by omega
    obtain⟨rd,yH⟩:=bk dp
    obtain⟨rp,yb⟩:=bk gw
    obtain⟨ud,x3,x4⟩:=g5 _ _ yH
    obtain⟨up,y3,y4⟩:=g5 _ _ yb
    have Kp:d<us.length:=by omega
    have Kq:p<us.length:=by omega
    have yE:(d:Int)<(m.length:Int):=by omega
    have B5:(p:Int)<(m.length:Int):=by omega
    have FG:d<m.length:=by omega
    have FC:p<m.length:=by omega
    have Vb:¬(a:Int)<0:=by omega
    have z1:∀u,ad us d [u]=us.set d u:=fun u=>BZ Kp
    have z2:∀u,ad (us.set d up) p [u]=(us.set d up).set p u:=fun u=>BZ (by simp;exact Kq)
    obtain⟨_,c1,o1⟩:=x4.B9
    obtain⟨_,c2,PI⟩:=y4.B9
    have l1:d+1<=us.length:=Kp
    have l2:p+1<=us.length:=Kq
    simp(disch:=first|(simp;done)|omega|rfl) [-getElem?_pos, -V.cells, -V.one,hr,hf,a4,h5,h6,A9,hda,Vb,yE,B5,FG,FC,pM,x3,y3,wL,bC,c1,o1,c2,PI,z1,z2,l1,l2]
    have U2:eE (fun i=>i=R) H2 n2 ((H2.set R (.cells (us.set d up) 70 true)).set R (.cells ((us.set d up).set p ud) 70 true)) n2:=⟨aM _,fun i _ hi=>by rw[T.ag,ak hi,T.ag,ak hi]⟩
    have FH:(H2.set R (.cells (us.set d up) 70 true)).get R=some (.cells (us.set d up) 70 true):=by rw[T.ag,av rfl]
    have hx4:=(x4.ae kA).ae k2
    have FI:=(y4.ae kA).ae k2
    have sA1:=s2.B8 pM FI dp
    have sB:=sA1.B8 FH (hx4.bh pM (by decide) g3 (by simp)) (i:=p) (by rw[wM];exact gw)
    have gB:((H2.set R (.cells (us.set d up) 70 true)).set R (.cells ((us.set d up).set p ud) 70 true)).get R=some (.cells ((us.set d up).set p ud) 70 true):=by rw[T.ag,av rfl]
    have yI:(m1.set d rp).set p rd=bP m1 d p:=by unfold bP;rw[yH,yb];rfl
    rw[yI]at sB
    have wK:((us.set d up).set p ud).length=m1.length:=by simp only[wM];omega
    generalize (H2.set R (.cells (us.set d up) 70 true)).set R (.cells ((us.set d up).set p ud) 70 true)=G2 at*
    generalize (us.set d up).set p ud=vs at*
    have gPB:=(U2.get n1 (by omega) (by omega)).trans gP2
    have oB:=o2.uO pM (fun z hz=>by simp at hz) U2
    have zB:=UP.zC (d:=d) (p:=p)
    have Kr:=IA.zC dp gw
    have UQ:(bP m1 d p).length=m1.length:=mD
    have aW:=@DM m1 k (m1.length-d) d (by unfold dJ at pN;omega)
    have aq:(bP m1 d p)[d]?=some rp:=by
     rw[<-yI]
     by_cases e:p=d
     ·rw[e,yH]at yb
      simp only[al]at yb
      rw[e,yb,gG (by simp;omega)]
     ·rw[d_ e,gG dp]
    have uN:rp[k]?.getD 0≠0:=by
     have h9:=pN
     unfold dJ at h9
     rw[h9,yb]at aW
     exact aW
    obtain⟨ku,vd,b1,b2,b3,b4⟩:=sB.at aq
    rw[gB]at b1
    simp only[al,O.cells.injEq,and_true]at b1
    subst b1
    have UR:=Kr rp (cG aq)
    obtain⟨q,hq⟩:=bk (l:=rp) (k:=k) (by omega)
    have xX:=zB rp (cG aq)
    have iU:=xX q (cG hq)
    have sI:q≠0:=by rw[hq]at uN;exact uN
    have hkq:=hB d FG (by omega)
    obtain⟨i1,t1,w1,e3,v1,cs,q1,q2,q3,q4,q5⟩:=b4.1.at hq
    obtain⟨r1,r2⟩:=q5.len
    have nO:=b4.1.len
    have bM:(k:Int)<(rp.length:Int):=by omega
    have er:k<rp.length:=by omega
    have mA:∀c:List V,(V.agg c).cells=c:=fun _=>rfl
    have s0:=Ywn r1
    have e4:=Ywm r1
    have Kz:n2<n2+1:=by omega
    have Vc:¬R=n2:=by omega
    have lP2:n1<n2:=by omega
    have Vd:¬n1=n2:=by omega
    simp(disch:=first|(simp;done)|omega|rfl) [-getElem?_pos, -V.cells, -V.one,hr,hf,a4,h5,h6,A9,b3,gB,gPB,lP2,wL,q1,q2,q3,q4,PH q4,nO,bM,er,yE,FG,bC,mA,r1,r2,s0,e4,Kz,Vc,Vd]
    have kC:ab G2 n2 ((G2.set n2 (.cells [.int .i64 0,.aa,.int .i64 0,.aa] 89 true)).set n2 (.cells cs 89 true)) (n2+1):=(ab.refl.new _).set (aM _)
    have gQ:((G2.set n2 (.cells [.int .i64 0,.aa,.int .i64 0,.aa] 89 true)).set n2 (.cells cs 89 true)).get n2=some (.cells cs 89 true):=by rw[T.ag,av rfl]
    generalize (G2.set n2 (.cells [.int .i64 0,.aa,.int .i64 0,.aa] 89 true)).set n2 (.cells cs 89 true)=G3 at*
    refine aA (Ypm (fun x=>x/q) (b4.ae kC).1 (by omega) fun x hx c' h' n' k' pn=>Ytz (j:=B d) (k:=B d) ((k'.get n2 Kz).trans gQ) (eX Kz k'.le) pn ((q5.ae kC).ae k') sI (xX x hx) iU (by omega) (by omega)) ?_
    rintro v3 H3 n3 k3 t3
    have B3:=k3.le
    have gR3:=(k3.get R (by omega)).trans ((kC.get R wL).trans gB)
    have sC:=((sB.ae kC).ae k3).B8 gR3 t3 (i:=d) (by rw[UQ];exact dp)
    have A7:(bP m1 d p).set d (rp.map fun x=>x/q)=eZ (bP m1 d p) d k:=by
     unfold eZ
     rw[aq]
     simp only[fX,hq]
    rw[A7]at sC
    have IB:(eZ (bP m1 d p) d k).length=m.length:=by rw[zD,mD];exact hlen
    have tY:d<vs.length:=by omega
    have FD:d+1<=vs.length:=tY
    have z3:∀u,ad vs d [u]=vs.set d u:=fun u=>BZ tY
    have Ks:R<n3:=by omega
    have lRp:R<n2+1:=by omega
    obtain⟨_,c3,o3⟩:=t3.B9
    simp(disch:=first|(simp;done)|omega|rfl) [-V.cells, -V.one,hr,hf,a4,h5,h6,A9,gR3,Ks,wL,lRp,bC,c3,o3,z3,tY,FD]
    have U3:eE (fun i=>i=R) H2 n2 (H3.set R (.cells (vs.set d v3) 70 true)) n3:=((U2.trans kC.upd).trans k3.upd).set (.inl rfl)
    have gPC:=(U3.get n1 (by omega) (by omega)).trans gP2
    have gRC:(H3.set R (.cells (vs.set d v3) 70 true)).get R=some (.cells (vs.set d v3) 70 true):=by rw[T.ag,av rfl]
    generalize H3.set R (.cells (vs.set d v3) 70 true)=G4 at*
    refine jy (Yi2 (cp:=some m.length) (N0:=N0) (P:=n1) (d:=d) (K:=B d) sC zG gPC (by omega) (Kr.FF (by omega)) ay (by omega) (by omega) (by omega) (x_ _) (fun i hi=>by
     unfold eZ
     rw[d_ (Ne.symm hi)]
     exact zB.at) (by
     unfold eZ
     rw[gG (by omega)]
     exact UT zB (x_ _) (by rw[aq];exact uN)) (by omega) (by simp[s_.2 zG,Kx,hW,show ¬n2<N0 by omega]) (by simp[hr,a4,IB]) (by simp[hr,h6]) (by simp[hr]) (by simp[hr,IB]) (by simp)) ?_
    rintro _ _ ⟨H4,n4,W4⟩ ⟨rfl,Kt,U4,s4,r4,f4,rfl⟩
    simp only at Kt U4 s4
    have pk:=f4.dN
    have B6:=hf.inner (D':=[(10,12),(72,104)]) (by decide) (fun hx=>by simpa[Fx.set]using hx) pk
    have Ve:=U4.le
    have gP4:=(U4.get n1 (by omega) (by omega)).trans gPC
    have o4:=(o2.uO pM (fun z hz=>by simp at hz) U3).uO gRC (fun z hz=>by simp at hz) U4
    have lP4:n1<n4:=by omega
    have qz:ad [V.int .i64 0] 0 [V.int .i64 k]=[V.int .i64 k]:=rfl
    simp[pk,B6,hr,a4,h5,h6,A9,gP4,lP4,qz]
    have kD:ab H4 n4 (H4.set n4 (.cells [.int .i64 k] 3 true)) (n4+1):=ab.refl.new _
    obtain⟨v',h',w',j1,j2,j3,j4,j5,j6⟩:=qt.push (B:=N0) (x:=.slice n4 0 1 (some 1) 1) (k:=k) (w:=W4) (o4.ae kD) (aM _) (by omega) Kt (by simp[eL,St.row,aF]) (by simp[zH];omega)
    have s5:=(s4.ae kD).cE j3 j4 (by decide) (by decide)
    have kF:ab h N0 h' (n4+1+1):=⟨by have:=Va.le;omega,fun i hi=>by
     rw[j3.get i (by omega) (fun hc=>by have:=j5 i hc;omega),T.ag,ak (by omega),U4.get i (by omega) (by omega),U3.get i (by omega) (by omega)]
     exact Va.get i hi⟩
    have dM:=iy (by omega)
    rw[pN]at dM
    rw[IB,<-hlen]at s5
    have IG:zH (ps++[k])=zH ps++[(k:Int)]:=by simp[zH]
    by_cases hE:d+1=m.length
    ·have Vg:(d:Int)+1=(m.length:Int):=by omega
     have hcf:aD m c=aD m (k+1):=by
      have:=U8 (n:=c-(k+1)) (by rw[dM];exact hE)
      rw[<-this,show k+1+(c-(k+1))=c by omega]
     simp(disch:=first|(simp;done)|omega|rfl) [wQ,j1,pk,B6,hr,a4,h5,h6,A9,Vg,aG,j2,kF]
     rw[hcf,dM,IG]
     exact⟨s5,hE.symm,j6⟩
    ·have Vg:¬(d:Int)+1=(m.length:Int):=by omega
     simp(disch:=first|(simp;done)|omega|rfl) [wQ,j1,pk,B6,hr,a4,h5,h6,A9,Vg,aG,j2,kF]
     refine⟨c-(k+1),by omega,k+1,by omega,rfl,by simp,?_⟩
     rw[dM,IG]
     exact⟨by simp,j6,by show d+1<m.length;omega,s5⟩
  ·obtain rfl:k=c:=by omega
   simp[A.qu,hr,hf,a4,h5,h6,a25,A9,k1,hW]
   exact⟨s1,hO⟩
 ·rintro _ r st hr ⟨rfl,hw,k1,s1,v,h6,h5,hO⟩
  simp[]
  exact⟨hw,k1,s1,r,⟨hr,rfl,rfl⟩,rfl,h6,v,h5,hO⟩
def lY.FJ{d:Nat}{v:V}{us:List V}(s:lY h N R m)(g:h.get R=some (.cells us 70 true))(hv:Sl h N v (us.take d))(hd:d<=m.length):lZ h N v (m.take d):=by
 obtain⟨vs,g1,g2,_,_,g3⟩:=s.ex
 rw[g]at g1
 simp only[al,O.cells.injEq,and_true]at g1
 subst g1
 refine⟨us.take d,hv,by simp[g2],fun j l hl=>?_⟩
 by_cases hj:j<d
 ·rw[iz,av hj]at hl ⊢
  exact g3 j l hl
 ·rw[iz,ak hj]at hl
  cases hl
def Zq3{u:V}{c:Nat}{B:Nat->Nat}(hu:lZ h N u m)(hc:bg m c)(mw:m.length<1000)(ix:0<m.length)(cN:c<1000)(x_:∀n,1<=B n)(hK:∀k,cB (aD m k).1 (B (aD m k).2.1))(hB:∀n,n<m.length->n<c->3*B n<=400000000):Fn A.C 41 [u] h N (fun x h' n'=>∃a b,x=.aX [a,b]/\lZ h' n' a (aU m c)/\qt N h' n' b (zH (aD m c).2.2)):=by
 intro w
 have lu:=hu.len
 obtain⟨us,h1,h2,h3⟩:=hu
 have fI:=h1
 rcases h1 with⟨hn,_⟩|⟨i,o,cp,c',e,pO,rfl,q2,q3,q4,q5,q6⟩
 ·rw[hn]at h2
  simp at h2
  omega
 have aW:¬i=N:=by omega
 have DP:(h.set N (.cells (cU [.aa] m.length) 70 true)).get i=some (.cells c' e pO):=by rw[T.ag,ak aW];exact q3
 have gz:(h.set N (.cells (cU [.aa] m.length) 70 true)).get N=some (.cells (cU [.aa] m.length) 70 true):=by simp
 have l7:=Yl1 (N:=N+1) (w:=[]) (cp:=cp) DP q4 q5
 rw[h2]at l7
 have cpy:=Yb0 (cp:=some m.length) ix l7 h2 gz (by rw[PJ];simp)
 have kB:ab h N ((h.set N (.cells (cU [.aa] m.length) 70 true)).set N (.cells us 70 true)) (N+1):=(ab.refl.new _).set (aM _)
 have gN:((h.set N (.cells (cU [.aa] m.length) 70 true)).set N (.cells us 70 true)).get N=some (.cells us 70 true):=by rw[T.ag,av rfl]
 have sR:lY ((h.set N (.cells (cU [.aa] m.length) 70 true)).set N (.cells us 70 true)) (N+1) N m:=⟨by omega,us,gN,h2,?nu,?one,fun j l hl=>by
  obtain⟨x,a1,a2⟩:=h3 j l hl
  exact⟨x,a1,a2.ae kB⟩⟩
 case nu=>
  intro x hx
  obtain⟨j,hj⟩:=tc hx
  obtain⟨l,hl⟩:=bk (l:=m) (k:=j) (by have:=iY hj;omega)
  obtain⟨y,a1,a2⟩:=h3 j l hl
  rw[hj]at a1
  simp only[al]at a1
  subst a1
  exact a2.B9.1
 case one=>
  rw[lB]
  intro x hx
  obtain⟨j,hj⟩:=tc hx
  obtain⟨l,hl⟩:=bk (l:=m) (k:=j) (by have:=iY hj;omega)
  obtain⟨y,a1,a2⟩:=h3 j l hl
  rw[hj]at a1
  simp only[al]at a1
  subst a1
  exact a2.B9.2.1
 rw[h2]at fI
 obtain⟨l0,gb⟩:=bk ix
 obtain⟨x0,b1,b2⟩:=h3 0 l0 gb
 obtain⟨i2,o2,cc2,e2,UI,p1,p2,p3,p4⟩:=(fI.ae kB).at b1
 rw[kv]at p4
 have b3:=b2.1.len
 rw[hc l0 (cG gb)]at b3
 have Vh:¬m=[]:=fun hc=>by rw[hc]at ix;simp at ix
 have ya:¬(m.length:Int)=0:=by omega
 have KC:(0:Int)<(m.length:Int):=by omega
 have PL:(24:Int)*(m.length:Int)<=140737488355328:=by omega
 have cc3:(m.length:Int)<4611686018427387904:=by omega
 rw[h2]at lu
 rw[aR,A.k41 (by simp)]
 simp[A.b41,h2,ix,ya,KC,PL,cc3,cpy,aG,Vh,p1,p2,p3,p4,b3]
 generalize (h.set N (.cells (cU [.aa] m.length) 70 true)).set N (.cells us 70 true)=G at*
 refine jy (Yaa (N0:=N) (h:=h) sR (aM _) hc mw ix cN x_ hK hB kB (by simp[yD]) (by simp) (by simp) (by simp) (by simp) (by simp)) ?_
 rintro _ _ ⟨H4,n4,W4⟩ ⟨rfl,hw,k4,s4,r4,pv,f4,rfl,x6,x5,oI⟩
 simp only at hw k4 s4 oI
 have pk:=f4.dN
 obtain⟨vs,g1,g2,_⟩:=id s4.ex
 have hl4:(aD m c).1.length=m.length:=yG
 have gZ:=(@mB m c hc c).2
 have hs:Sl H4 n4 (.slice N 0 m.length (some m.length) 1) vs:=Sl.row s4.lt g1 (by omega) fun k hk=>by simp at hk;omega
 obtain⟨v',e1,e2⟩:=DO (w:=W4) hs (lo:=0) (hi:=(aD m c).2.1) (by omega) (by omega) none (some (.int .i64 (aD m c).2.1)) (.inr ⟨rfl,rfl⟩) (.inl rfl)
 rw[yJ]at e2
 simp[zJ,pk,x6,x5,e1,aE,hw]
 exact⟨k4,v',pv,⟨rfl,rfl⟩,s4.FJ g1 e2 (by omega),oI⟩
set_option maxHeartbeats 2000000
structure Pk where
 act:Int
 am:aQ
 sl:List aQ
def KD(p:Pk)(u:V):List V:=[.int .i64 p.act,.str p.am,u]
def KE(h:T O)(N:Nat)(v:V)(l:List Pk):Prop:=∃cs:List (List V),Sn 3 h N v cs/\cs.length=l.length/\∀(j:Nat) (p:Pk),l[j]?=some p->∃u,cs[j]?=some (KD p u)/\Sl h N u (strs p.sl)
def KE.ae{h h':T O}{N N':Nat}{v:V}{l:List Pk}(s:KE h N v l)(k:ab h N h' N'):KE h' N' v l:=by
 obtain⟨cs,h1,h2,h3⟩:=s
 refine⟨cs,h1.ae k,h2,fun j p hp=>?_⟩
 obtain⟨u,g1,g2⟩:=h3 j p hp
 exact⟨u,g1,g2.ae k⟩
def Vi{x c:List V}{k n j:Nat}(h:aF x k n=some c)(hj:j<n):x[k+j]?=c[j]?:=by
 obtain⟨h1,rfl⟩:=KF h
 rw[iz,av hj,ff]
def KE.at{h:T O}{N:Nat}{v:V}{l:List Pk}(s:KE h N v l){j:Nat}{p:Pk}(hj:l[j]?=some p):∃i o x e rw u,yd v=some (i,o)/\i<N/\h.get i=some (.cells x e rw)/\aF x (o+j*3) 3=some (KD p u)/\x[o+j*3]?=some (.int .i64 p.act)/\x[o+j*3+1]?=some (.str p.am)/\x[o+j*3+2]?=some u/\Sl h N u (strs p.sl):=by
 obtain⟨cs,h1,h2,h3⟩:=s
 obtain⟨u,g1,g2⟩:=h3 j p hj
 obtain⟨i,o,x,e,rw,q1,q2,q3,q4⟩:=h1.at g1
 exact⟨i,o,x,e,rw,u,q1,q2,q3,q4,by have:=Vi q4 (j:=0) (by decide);simpa[KD]using this,by have:=Vi q4 (j:=1) (by decide);simpa[KD]using this,by have:=Vi q4 (j:=2) (by decide);simpa[KD]using this,g2⟩
section
variable {h:T O} {N P B:Nat} {p:Pk} {u:V} {e eB:TypeId} {rw rwB:Bool} {z:Int}
end
set_option maxHeartbeats 4000000
variable {N z:Nat} {h:T O} {u v:V} {w:List Nat}
def A.b121:=A.q Tryz.f121
def A.k121:=@A.kk 121 8 [.tmp 2] A.b121 (by kernel_rfl) rfl
def FK(N0:Nat)(h:T O)(N:Nat)(v:V)(l:List Rat):Prop:=∃cs:List (List V),Own 4 89 N0 h N v cs/\(cs=[]->v=.aa)/\cs.length=l.length/\∀(j:Nat) (q:Rat),l[j]?=some q->∃c,cs[j]?=some c/\fE h N c q
def Yc5{c:List V}{z o:Nat}:∀{l:List (List V)},(∀(j:Nat) (x:List V),l[j]?=some x->aF c (o+j*z) z=some x)->o+l.length*z<=c.length->aF c o (l.length*z)=some l.flatten
 |[],_,h=>by
  unfold aF
  rw[av (by simpa using h)]
  simp
 |x::t,h,hl=>by
  have h0:=h 0 x rfl
  rw[Nat.zero_mul,kv]at h0
  have ih:=Yc5 (c:=c) (z:=z) (o:=o+z) (l:=t) (fun j y hy=>by
   have:=h (j+1) y hy
   rw[iZ,Nat.one_mul]at this
   rw[show o+z+j*z=o+(j*z+z) by omega]
   exact this) (by rw[bo,iZ,Nat.one_mul]at hl;omega)
  obtain⟨_,e1⟩:=KF h0
  obtain⟨_,e2⟩:=KF ih
  unfold aF
  rw[av hl,bo,iZ,Nat.one_mul,Nat.add_comm (t.length*z) z,List.take_add,List.drop_drop,List.flatten_cons,e2,<-e1]
def IH{l:List (List V)}(s:Sn z h N u l):eL ⟨h,N,w⟩ z u=some (l.length,l.flatten):=by
 rcases s with⟨rfl,rfl|rfl⟩|⟨i,o,cp,c,e,pO,rfl,_,h3,h4,h5,_⟩
 ·rfl
 ·rfl
 ·have:=Yc5 h4 h5
  simp[eL,St.row,h3,this]
def Vj{e:TypeId}{N0:Nat}{l xs:List (List V)}{bytes:Nat}{Y:V->Prop}(s:Own z e N0 h N v l)(hn:l=[]->v=.aa)(hY:∀c∈l,∀y∈c,Y y)(hN:N0<=N)(hz:0<z)(hx:∀x∈xs,x.length=z)(h0:0<xs.length)(hu:eL ⟨h,N,w⟩ z u=some (xs.length,xs.flatten))(hb:2*(l.length+xs.length)*bytes<=281474976710656):
  ∃v' h' w',fY ⟨h,N,w⟩ z bytes e v u=some (v',⟨h',N+1,w'⟩)/\ax N0 w'=ax N0 w/\ab h N0 h' (N+1)/\eE (fun i=>i∈dh v) h N h' (N+1)/\nP e Y h v/\Own z e N0 h' (N+1) v' (l++xs):=by
 obtain⟨hl,s⟩:=s
 have i_:∀y∈l++xs,y.length=z:=fun y hy=>by
  rcases mE.1 hy with hy|hy
  ·exact hl y hy
  ·exact hx y hy
 have pP:z≠0:=by omega
 have KG:xs.length≠0:=by omega
 rcases s with⟨rfl,rfl⟩|⟨i,rfl,h2,h3,h4⟩
 ·refine⟨.slice N 0 xs.length none z,h.set N (.cells xs.flatten e true),w,?_,rfl,⟨by omega,fun j hj=>by rw[T.ag,ak (by omega)]⟩,⟨uR _,fun j hj _=>by rw[T.ag,ak (by omega)]⟩,nP.nil,i_,.inr ⟨N,by simp,hN,by omega,by rw[T.ag];simp⟩⟩
  have sK:2*xs.length*bytes<=281474976710656:=by simpa using hb
  simp only[fY,hu,tZ,St.alloc]
  simp[sK,pP,KG]
 ·have ky:=zK hl
  have hmul:(l.length+xs.length)*z=l.length*z+xs.length*z:=iZ ..
  have qC:0<xs.length*z:=yK h0 hz
  refine⟨.slice N 0 (l.length+xs.length) none z,(h.set i .dead).set N (.cells (l.flatten++xs.flatten) e true),i::w,?_,by simp[ax,s_.2 h2],⟨by omega,fun j hj=>by rw[T.ag,ak (by omega),T.ag,ak (by omega)]⟩,⟨uR _,fun j hj hd=>?_⟩,fun j hj=>?_,i_,.inr ⟨N,by simp,hN,by omega,by rw[T.ag];simp⟩⟩
  ·simp only[fY,hu,tZ,St.row,h4]
   rw[ak KG,ak (by rintro(h|h|h)<;>omega)]
   simp only[if_true]
   rw[ak (by rw[ky];omega),av ⟨by rw[ky];omega,trivial,trivial⟩]
   rfl
  ·rw[T.ag,ak (by omega),T.ag,ak (fun hc=>hd (by simp[dh,hc]))]
  ·simp only[dh,wR]at hj
   subst hj
   refine⟨_,h4,fun hc=>?_,fun y hy=>?_⟩
   ·rw[hc]at ky
    have:l.length=0:=by
     rcases Nat.mul_eq_zero.1 ky.symm with h|h
     ·exact h
     ·omega
    have:=hn (qE this)
    cases this
   ·obtain⟨c,hc,yL⟩:=List.mem_flatten.1 hy
    exact hY c hc y yL
def FK.many{N0:Nat}{a b:List Rat}(s:FK N0 h N v a)(hu:jz h N u b)(h0:0<b.length)(hN:N0<=N)(hl:a.length+b.length<100000):
  ∃v' h' w',fY ⟨h,N,w⟩ 4 64 89 v u=some (v',⟨h',N+1,w'⟩)/\ax N0 w'=ax N0 w/\ab h N0 h' (N+1)/\FK N0 h' (N+1) v' (a++b):=by
 obtain⟨cs,h1,h2,h3,h4⟩:=s
 obtain⟨ds,d1,d2,d3⟩:=hu
 have dl:∀x∈ds,x.length=4:=fun x hx=>by
  obtain⟨j,hj⟩:=tc hx
  obtain⟨r,hr⟩:=bk (l:=b) (k:=j) (by have:=iY hj;omega)
  obtain⟨c',g1,g2⟩:=d3 j r hr
  rw[hj]at g1
  obtain rfl:x=c':=by simpa using g1
  exact g2.len.1
 obtain⟨v',h',w',f1,f2,f3,f4,fD,f5⟩:=Vj (Y:=NW) (bytes:=64) (w:=w) h1 h2 (fun c hc y hy=>by
  obtain⟨j,hj⟩:=tc hc
  obtain⟨r,hr⟩:=bk (l:=a) (k:=j) (by have:=iY hj;omega)
  obtain⟨c',g1,g2⟩:=h4 j r hr
  rw[hj]at g1
  obtain rfl:c=c':=by simpa using g1
  exact g2.KH y hy) hN (by decide) dl (by omega) (IH d1) (by omega)
 refine⟨v',h',w',f1,f2,f3,cs++ds,f5,fun hc=>?_,by simp[h3,d2],fun j r hr=>?_⟩
 ·rw[List.append_eq_nil_iff]at hc
  rw[hc.2]at d2
  simp at d2
  omega
 ·by_cases hj:j<a.length
  ·rw[iM hj]at hr
   obtain⟨c',g1,g2⟩:=h4 j r hr
   exact⟨c',by rw[iM (by omega)];exact g1,g2.cE f4 fD⟩
  ·rw[kY (by omega)]at hr
   obtain⟨c',g1,g2⟩:=d3 _ r hr
   exact⟨c',by rw[kY (by omega),h3];exact g1,g2.cE f4 fD⟩
def FK.Vk{N0:Nat}{l:List Rat}(s:FK N0 h N v l):fl h N v l:=by
 obtain⟨cs,h1,h2,h3,h4⟩:=s
 exact Vl h1 h3 fun j hj=>by
  obtain⟨q,hq⟩:=bk hj
  obtain⟨c,g1,g2⟩:=h4 j q hq
  exact⟨c,g1,fun r hr=>by rw[hq]at hr;cases hr;exact g2⟩
def Yg2{l:List Rat}(hs:jz h N v l)(h0:0<l.length)(hl:l.length<100000):Fn A.C 121 [v] h N (fun x h' n'=>FK N h' n' x l):=by
 intro w
 obtain⟨cs,h1,h2,h3⟩:=id hs
 have fI:=h1
 rcases fI with⟨hn,_⟩|⟨i,o,cp,c,e,rw,rfl,q2,q3,q4,q5,q6⟩
 ·rw[hn]at h2
  simp at h2
  omega
 have kN:ab h N (h.set N (.cells [] 89 true)) (N+1):=ab.refl.new _
 have l7:=fun w=>IH (w:=w) (h1.ae kN)
 have aW:cs.length≠0:=by omega
 have ha:∀w,fY ⟨h.set N (.cells [] 89 true),N+1,w⟩ 4 64 89 (.slice N 0 0 (some 0) 4) (.slice i o cs.length cp 4)=some (.slice (N+1) 0 cs.length none 4,⟨(h.set N (.cells [] 89 true)).set (N+1) (.cells cs.flatten 89 true),N+1+1,w⟩):=fun w=>by
  have hg:(h.set N (.cells [] 89 true)).get N=some (.cells [] 89 true):=by simp
  simp only[fY,l7,tZ,St.row,hg,aF,St.alloc]
  simp[aW]
  omega
 have cl:∀x∈cs,x.length=4:=fun x hx=>by
  obtain⟨j,hj⟩:=tc hx
  obtain⟨r,hr⟩:=bk (l:=l) (k:=j) (by have:=iY hj;omega)
  obtain⟨c',g1,g2⟩:=h3 j r hr
  rw[hj]at g1
  obtain rfl:x=c':=by simpa using g1
  exact g2.len.1
 rw[aR,A.k121 (by simp)]
 simp[A.b121,aG,wQ,ha,aE]
 have kB:ab h N ((h.set N (.cells [] 89 true)).set (N+1) (.cells cs.flatten 89 true)) (N+1+1):=(ab.refl.new _).new _
 refine⟨kB,cs,⟨cl,.inr ⟨N+1,by simp,by omega,by omega,by rw[T.ag];simp⟩⟩,fun hc=>by rw[hc]at aW;simp at aW,h2,fun j q hq=>?_⟩
 obtain⟨c',g1,g2⟩:=h3 j q hq
 exact⟨c',g1,g2.ae kB⟩
end
end Go.Mx
