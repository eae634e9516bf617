/-lensletref05-/
import Derived.Test.YtlfdeoomaccciaaGreatDoorSvO
set_option linter.all false
namespace Go.Mx
noncomputable section
open Go Go.Proofs
variable {h:T O}
set_option maxRecDepth 1000000
def Sl.fK{N:Nat}{v:V}{l:List V}(s:Sl h N v l):v.cells=[v]:=by
 rcases s with⟨_,rfl|rfl⟩|⟨j,o,cp,c,e,rw,rfl,hj,_⟩<;>rfl
def Sl.qN{N:Nat}{v:V}{l:List V}(s:Sl h N v l):v.one=true:=by
 rcases s with⟨_,rfl|rfl⟩|⟨j,o,cp,c,e,rw,rfl,hj,_⟩<;>rfl
def Yl8{r p:List Rat}{k:Nat}:oa (fun x y=>x+y) r (p.map fun q=>q* -(r[k]?.getD 0)) r.length=qO r p k:=by
 unfold qO oa
 apply A6
 intro i _
 rw[fV]
 cases hb:p[i]? with
 |none=>simp only[Option.map_none,Option.getD_none];rw[Rat.sub_eq_add_neg,Rat.mul_zero,Rat.neg_zero]
 |some q=>simp only[xV,pd];rw[Rat.sub_eq_add_neg,Rat.mul_neg,Rat.mul_comm]
def Yha{W0:List Nat}{N0:Nat}{H:T O}{n R:Nat}{r0:T V}{m:List (List Rat)}{d k c K:Nat}(s:jC N0 H n R m)(hc:b_ m c)(hk:k<c)(hd:d<m.length)(kg:m.length<1000)(cO:c<1000)(hK:∀i,i≠d->∀q∈m[i]?.getD [],Qb K q)(hP:∀q∈m[d]?.getD [],Qb (2*K) q)(hKl:3*K<=400000000)(kH:ab h N0 H n)(yQ:av N0 W0=[])(a3:r0.get 3=some (.slice R 0 m.length none 1))(a4:r0.get 4=some (.int .i64 d))(a5:r0.get 5=some (.int .i64 k))(a7:r0.get 7=some (.int .i64 0)):
  Code A.C none (.loop A.jE) ⟨r0,110,[]⟩ ⟨H,n,W0⟩ (fun e fr st=>e=.exit 4/\av N0 st.w=[]/\ab h N0 st.h st.n/\jC N0 st.h st.n R (cC m d k m.length)/\∃r,Fx [(7,7),(75,104)] r0 110 ⟨r,110,[]⟩/\fr=⟨r,110,[]⟩):=by
 rw[bk]
 refine bG [(7,7),(75,104)] (fun e r st=>e=.exit 4/\av N0 st.w=[]/\ab h N0 st.h st.n/\jC N0 st.h st.n R (cC m d k m.length)) (fun i r st=>av N0 st.w=[]/\ab h N0 st.h st.n/\∃t,t<=m.length/\i=m.length-t/\r.get 7=some (.int .i64 t)/\jC N0 st.h st.n R (cC m d k t)) (m.length) ?_ ?_ ?_
 ·exact⟨yQ,kH,0,by omega,by omega,a7,by rw[Yr6];exact s⟩
 ·rintro i r ⟨H1,n1,W⟩ hr hf ⟨hW,k1,t,ht,rfl,h7,s1⟩
  simp only at hW k1 s1
  rw[bk]
  by_cases ax:t<m.length
  ·have a_:(t:Int)<(m.length:Int):=by omega
   by_cases e:t=d
   ·subst e
    rw[<-Zxv]at s1
    simp(disch:=first|(simp;done)|omega|rfl) [A.jE,hr,hf,a3,a4,a5,h7,ax,a_,k1,hW]
    exact⟨m.length-(t+1),by omega,t+1,by omega,rfl,by simp,s1⟩
   ·have e':¬(t:Int)=(d:Int):=by omega
    have yR:(d:Int)<(m.length:Int):=by omega
    obtain⟨row,al⟩:=bh ax
    obtain⟨me,iZ⟩:=bh hd
    have qJ:=hc row (bU al)
    have iH:=hc me (bU iZ)
    have w1:(cC m d k t)[t]?=some row:=by rw[DO ax,ak (by omega),al];rfl
    have w2:(cC m d k t)[d]?=some me:=by rw[Yr5 hd];exact iZ
    obtain⟨us,u,g1,g2,g3,g4⟩:=s1.at w1
    obtain⟨us',v,Cc,_,DP,IU⟩:=s1.at w2
    rw[g1]at Cc
    simp only[aq,O.cells.injEq,and_true]at Cc
    subst Cc
    obtain⟨q,hq⟩:=bh (l:=row) (k:=k) (by omega)
    have yc:∀q∈row,Qb K q:=by have:=hK t e;rw[al]at this;exact this
    have uv:∀q∈me,Qb (2*K) q:=by have:=hP;rw[iZ]at this;exact this
    have gF:=yc q (bU hq)
    have hnb:Qb K (-q):=⟨by rw[Rat.neg_num,Bc];exact gF.1,by rw[Rat.neg_den];exact gF.2⟩
    obtain⟨i1,o1,c1,e1,x1,q1,q2,q3,q4⟩:=g4.1.at (uV hq)
    have uY:=g4.1.len
    have bL:(k:Int)<(row.length:Int):=by omega
    have eF:k<row.length:=by omega
    have hR:=s1.lt
    have aW:=fun st=>Ynh (q:=q) (st:=st) (Zsa gF (by omega))
    simp[A.jE,hr,hf,a3,a4,a5,h7,ax,a_,e,e',hd,yR,g1,g3,DP,hR,q1,q2,q3,q4,kM,bL,eF,uY,aW]
    refine aB (Zsi IU.1 uv hnb (by omega) (by omega) (by omega)) ?_
    rintro v2 H2 n2 k2 o2
    have t2:=F5 o2
    have kK:=k2.le
    have s2:=s1.ae k2
    have pX:=(k2.get R hR).trans g1
    simp[pX,hr,hf]
    refine aB (Yj7 (g4.1.ae k2) t2.1 (by simp;omega) yc (k:=2*K+K) (fun q' kO=>by
     obtain⟨y,hy,rfl⟩:=fv.1 kO
     exact(uv y hy).mul hnb) (by omega) (by omega) (by omega)) ?_
    rintro v3 H3 n3 k3 o3
    have t3:=(F5 o3).old (N0:=N0)
    have yM:=k3.le
    have s3:=s2.ae k3
    have KI:=(k3.get R (by omega)).trans pX
    have wM:t<us.length:=by rw[g2,zt];exact ax
    have uZ:t+1<=us.length:=wM
    have lR1:R<n2:=by omega
    have wZ:R<n3:=by omega
    have ji:(t:Int)<(us.length:Int):=by omega
    have ix:∀u,ad us t [u]=us.set t u:=fun u=>zA wM
    have mI:v3.cells=[v3]:=Sl.fK t3.1
    have Vn:v3.one=true:=Sl.qN t3.1
    simp(disch:=first|(simp;done)|omega|rfl) [-V.cells, -V.one,bD,mI,Vn,ix,wM,uZ,KI,lR1,wZ,hr,hf,h7]
    have hz:oa (fun x y=>x+y) row (me.map fun y=>y* -q) row.length=qO row me k:=by
     have:=Yl8 (r:=row) (p:=me) (k:=k)
     rw[hq]at this
     exact this
    have sp:=s3.put KI t3 (i:=t) (by rw[zt];exact ax)
    rw[hz]at sp
    refine⟨m.length-(t+1),by omega,by rw[ak (tr.2 s1.ge)];exact hW,((k1.trans k2).trans k3).set s1.ge,t+1,by omega,rfl,by simp,?_⟩
    rw[Vo ax e,al,iZ]
    exact sp
  ·obtain rfl:t=m.length:=by omega
   simp[A.jE,hr,hf,a3,a5,h7,k1,hW]
   exact s1
 ·rintro _ r st hr ⟨rfl,hw,k1,s1⟩
  simp[]
  exact⟨hw,k1,s1,hr,rfl,rfl⟩
variable {m:List (List Rat)}
def Be{m:List (List Rat)}:∀{n:Nat},(aU m n).1.length=m.length
 |0=>rfl
 |n+1=>by rw[uQ,Ymb];exact Be
def pQ{m:List (List Rat)}{c:Nat}(h:b_ m c):∀{n:Nat},b_ (aU m n).1 c/\(aU m n).2.1<=m.length
 |0=>⟨h,uw _⟩
 |n+1=>by
  obtain⟨a,b⟩:=@pQ m c h n
  rw[uQ]
  have:=Yqs (k:=n) a (by rw[Be];exact b)
  rw[Be]at this
  exact⟨this.1,this.2.1⟩
def kB(K:Nat):Nat->Nat
 |0=>K
 |n+1=>4*kB K n+1
def Vp{m:List (List Rat)}:∀{n:Nat},(aU m n).2.1<=n
 |0=>aQ _
 |n+1=>by
  have:=@Vp m n
  rw[uQ]
  unfold jw
  split
  ·show (aU m n).2.1+1<=n+1
   omega
  ·omega
def Zy2{W0:List Nat}{N0:Nat}{h H:T O}{n R:Nat}{r0:T V}{c:Nat}{B:Nat->Nat}(s:jC N0 H n R m)(hc:b_ m c)(kg:m.length<1000)(gV:0<m.length)(cO:c<1000)(yd:∀n,1<=B n)(hK:∀k,cW (aU m k).1 (B (aU m k).2.1))(hB:∀n,n<m.length->n<c->3*B n<=400000000)(kH:ab h N0 H n)(yQ:av N0 W0=[])(a3:r0.get 3=some (.slice R 0 m.length none 1))(a4:r0.get 4=some (.int .i64 0))(a5:r0.get 5=some (.int .i64 0)):
  Code A.C none (.loop A.mM) ⟨r0,110,[]⟩ ⟨H,n,W0⟩ (fun e fr st=>e=.exit 0/\av N0 st.w=[]/\ab h N0 st.h st.n/\jC N0 st.h st.n R (aU m c).1/\∃r,Fx [(4,7),(11,106)] r0 110 ⟨r,110,[]⟩/\fr=⟨r,110,[]⟩/\r.get 4=some (.int .i64 (aU m c).2.1)):=by
 rw[bk]
 refine bG [(4,7),(11,106)] (fun e r st=>e=.exit 0/\av N0 st.w=[]/\ab h N0 st.h st.n/\jC N0 st.h st.n R (aU m c).1/\r.get 4=some (.int .i64 (aU m c).2.1)) (fun i r st=>av N0 st.w=[]/\ab h N0 st.h st.n/\∃k,k<=c/\i=c-k/\r.get 5=some (.int .i64 k)/\r.get 4=some (.int .i64 (aU m k).2.1)/\jC N0 st.h st.n R (aU m k).1) c ?_ ?_ ?_
 ·exact⟨yQ,kH,0,by omega,by omega,a5,a4,s⟩
 ·rintro i r ⟨H1,n1,W⟩ hr hf ⟨hW,k1,k,hk,rfl,h5,h4,s1⟩
  simp only at hW k1 s1
  rw[bk]
  have hlen:(aU m k).1.length=m.length:=Be
  obtain⟨IV,iw⟩:=@pQ m c hc k
  obtain⟨Vq,DQ⟩:=bh (l:=(aU m k).1) (k:=0) (by omega)
  have Vr:=IV Vq (bU DQ)
  obtain⟨us,u,g1,g2,g3,g4⟩:=s1.at DQ
  have uY:=g4.1.len
  rw[Vr]at uY
  have hR:=s1.lt
  have ye:(0:Int)<(m.length:Int):=by omega
  by_cases ax:k<c
  ·have a_:(k:Int)<(c:Int):=by omega
   simp[A.mM,hr,hf,a3,h5,h4,gV,ye,g1,g3,hR,uY,ax,a_]
   refine mi (Yg8 (d:=(aU m k).2.1) s1 IV ax (by omega) (by omega) (by simp[hr,hlen,a3]) (by simp[h5]) (by simp)) ?_
   rintro _ _ _ ⟨rfl,rfl,r2,f2,rfl,h6⟩
   have dt:=f2.dP
   have cU:=hf.inner (D':=[(6,6),(25,40)]) (by decide) (fun hx=>by simpa[Fx.set]using hx) dt
   have zao:=@FG (aU m k).1 k ((aU m k).1.length-(aU m k).2.1) (aU m k).2.1
   by_cases hp:fF (aU m k).1 (aU m k).2.1 k<(aU m k).1.length
   ·generalize hd:(aU m k).2.1=d at*
    generalize mO:(aU m k).1=m1 at*
    have d_:d<m1.length:=by unfold fF at hp;omega
    generalize u9:fF m1 d k=p at*
    obtain⟨rd,yS⟩:=bh d_
    obtain⟨rp,yf⟩:=bh hp
    obtain⟨us1,ud,x1,x2,x3,x4⟩:=s1.at yS
    obtain⟨us2,up,y1,_,y3,y4⟩:=s1.at yf
    rw[g1]at x1 y1
    simp only[aq,O.cells.injEq,and_true]at x1 y1
    subst x1;subst y1
    have sA:=s1.put g1 y4 d_
    have gA:(H1.set R (.cells (us.set d up) 23 true)).get R=some (.cells (us.set d up) 23 true):=by rw[T.ag,ay rfl]
    have sB:=sA.put gA (x4.bj g1 s1.ge) (i:=p) (by rw[sQ];exact hp)
    have KJ:d<us.length:=by omega
    have KK:p<us.length:=by omega
    have Vs:¬(p:Int)=(m.length:Int):=by omega
    have yR:(d:Int)<(m.length:Int):=by omega
    have Cd:(p:Int)<(m.length:Int):=by omega
    have yg:d<m.length:=by omega
    have Vt:p<m.length:=by omega
    have hdk:d<c:=by
     have:=@Vp m k
     omega
    have e1:∀u,ad us d [u]=us.set d u:=fun u=>zA KJ
    have e2:∀u,ad (us.set d up) p [u]=(us.set d up).set p u:=fun u=>zA (by simp;exact KK)
    have c1:ud.cells=[ud]:=Sl.fK x4.1
    have o1:ud.one=true:=Sl.qN x4.1
    have c2:up.cells=[up]:=Sl.fK y4.1
    have o2:up.one=true:=Sl.qN y4.1
    have l1:d+1<=us.length:=KJ
    have l2:p+1<=us.length:=KK
    simp[-V.cells, -V.one,dt,cU,hr,h6,a3,h4,h5,Vs,yR,Cd,yg,Vt,g1,x3,y3,hR,bD,c1,o1,c2,o2,e1,e2,l1,l2]
    have kG:=(k1.set (i:=R) (o:=.cells (us.set d up) 23 true) s1.ge).set (i:=R) (o:=.cells ((us.set d up).set p ud) 23 true) s1.ge
    have gB:((H1.set R (.cells (us.set d up) 23 true)).set R (.cells ((us.set d up).set p ud) 23 true)).get R=some (.cells ((us.set d up).set p ud) 23 true):=by rw[T.ag,ay rfl]
    generalize (H1.set R (.cells (us.set d up) 23 true)).set R (.cells ((us.set d up).set p ud) 23 true)=G at*
    have DF:(m1.set d rp).set p rd=cr m1 d p:=by unfold cr;rw[yS,yf];rfl
    rw[DF]at sB
    have wM:((us.set d up).set p ud).length=m1.length:=by simp only[sQ];omega
    generalize (us.set d up).set p ud=vs at*
    have Vu:cW m1 (B d):=by rw[<-mO,<-hd];exact hK _
    have zK:=Vu.B1 (d:=d) (p:=p)
    have KL:=IV.B1 d_ hp
    have Vv:(cr m1 d p).length=m1.length:=sM
    have aW:=@IF m1 k (m1.length-d) d (by unfold fF at u9;omega)
    have al:(cr m1 d p)[d]?=some rp:=by
     rw[<-DF]
     by_cases e:p=d
     ·subst e;rw[yS]at yf;simp only[aq]at yf;subst yf;rw[gK (by simp;omega)]
     ·rw[dW e,gK d_]
    have u_:rp[k]?.getD 0≠0:=by
     have h9:=u9
     unfold fF at h9
     rw[h9,yf]at aW
     exact aW
    obtain⟨kQ,vd,z1,z2,z3,z4⟩:=sB.at al
    rw[gB]at z1
    simp only[aq,O.cells.injEq,and_true]at z1
    subst z1
    have Vw:=KL rp (bU al)
    obtain⟨q,hq⟩:=bh (l:=rp) (k:=k) (by omega)
    have yc:=zK rp (bU al)
    have gF:=yc q (bU hq)
    have pj:q≠0:=by rw[hq]at u_;exact u_
    have hkq:=hB d yg hdk
    obtain⟨i1,t1,w1,e3,v1,q1,q2,q3,q4⟩:=z4.1.at (uV hq)
    have n9:=z4.1.len
    have bL:(k:Int)<(rp.length:Int):=by omega
    have eF:k<rp.length:=by omega
    simp[dt,cU,hr,a3,h4,h5,yR,yg,z3,q1,q2,q3,q4,bL,eF,n9,kM,gB,hR]
    refine aB (Ymy gF (by omega) pj) ?_
    rintro _ H2 n2 k2 rfl
    have kK:=k2.le
    have wZ:R<n2:=by omega
    have pX:=(k2.get R hR).trans gB
    simp[z3,pX,wZ,dt,cU,hr,a3,h4,h5]
    refine aB (Zsi (z4.1.ae k2) yc (Vx gF pj) (by omega) (by omega) (by omega)) ?_
    rintro v3 H3 n3 k3 o3
    have t3:=(F5 o3).old (N0:=N0)
    have yM:=k3.le
    have s3:=(sB.ae k2).ae k3
    have DP:=(k3.get R wZ).trans pX
    have KM:R<n3:=by omega
    have ux:d<vs.length:=by omega
    have F6:d+1<=vs.length:=ux
    have e4:∀u,ad vs d [u]=vs.set d u:=fun u=>zA ux
    have c3:v3.cells=[v3]:=Sl.fK t3.1
    have o4:v3.one=true:=Sl.qN t3.1
    simp(disch:=first|(simp;done)|omega|rfl) [-V.cells, -V.one,dt,cU,hr,a3,h4,h5,DP,wZ,KM,bD,c3,o4,e4,ux,F6]
    have sC:=s3.put DP t3 (i:=d) (by rw[Vv];exact d_)
    have F7:(cr m1 d p).set d (rp.map fun x=>x*q⁻¹)=gE (cr m1 d p) d k:=by
     unfold gE
     rw[al]
     simp only[pd,hq,Rat.div_def]
    rw[F7]at sC
    have IW:(gE (cr m1 d p) d k).length=m.length:=by rw[DE,sM];exact hlen
    refine mi (Yha (h:=h) (d:=d) (K:=B d) sC (KL.IG (by omega)) ax (by omega) (by omega) (by omega) (fun i hi=>by
     unfold gE
     rw[dW (Ne.symm hi)]
     exact zK.at) (by
     unfold gE
     rw[gK (by omega)]
     exact Ykk zK (yd _) (by rw[al];exact u_)) (by omega) (((kG.trans k2).trans k3).set sC.ge) (by simp[tr.2 s1.ge,hW]) (by simp[dt,hr,a3,IW]) (by simp[dt,h4]) (by simp[dt,h5]) (by simp)) ?_
    rintro _ _ ⟨H4,n4,W4⟩ ⟨rfl,KN,k4,s4,r4,f4,rfl⟩
    simp only at KN k4 s4
    have pG:=f4.dP
    have B5:=cU.inner (D':=[(7,7),(75,104)]) (by decide) (fun hx=>by simpa[Fx.set]using hx) pG
    have dJ:aU m (k+1)=(cC (gE (cr m1 d p) d k) d k m1.length,d+1,(aU m k).2.2++[k]):=by
     rw[uQ];unfold jw;rw[mO,hd,u9,ay hp]
    simp(disch:=first|(simp;done)|omega|rfl) [pG,B5,dt,hr,a3,h4,h5,KN,k4]
    refine⟨c-(k+1),by omega,k+1,by omega,rfl,by simp,?_,?_⟩
    ·rw[dJ];simp
    ·rw[dJ];rw[IW,<-hlen]at s4;exact s4
   ·have dJ:aU m (k+1)=aU m k:=by rw[uQ];unfold jw;rw[ak hp]
    have Bf:fF (aU m k).1 (aU m k).2.1 k=m.length:=by unfold fF at hp ⊢;omega
    rw[Bf]at h6
    simp(disch:=first|(simp;done)|omega|rfl) [dt,cU,hr,h6,a3,h5,hW,k1]
    refine⟨c-(k+1),by omega,k+1,by omega,rfl,by simp,?_,?_⟩
    ·rw[dJ];simpa using h4
    ·rw[dJ];exact s1
  ·obtain rfl:k=c:=by omega
   simp[A.mM,hr,hf,a3,h5,h4,gV,ye,g1,g3,hR,uY,k1,hW]
   exact s1
 ·rintro _ r st hr ⟨rfl,hw,k1,s1,h4⟩
  simp[]
  exact⟨hw,k1,s1,r,⟨hr,rfl,rfl⟩,rfl,h4⟩
variable {N n:Nat} {h:T O} {l:List Int} {m:List (List Rat)} {v:V}
def PO{m:List (List Rat)}{k:Nat}(h:(aU m k).2.1=m.length):∀{n:Nat},aU m (k+n)=aU m k
 |0=>rfl
 |n+1=>by
  rw[Nat.add_succ,uQ,PO h]
  unfold jw
  rw[ak]
  unfold fF
  rw[Be,h,Nat.sub_self]
  simp[oc]
def Yel{m:List (List Rat)}:∀{n:Nat},(aU m n).2.2.length=(aU m n).2.1
 |0=>rfl
 |n+1=>by
  have:=@Yel m n
  rw[uQ]
  unfold jw
  split
  ·simp[this]
  ·exact this
def qP(m:List (List Rat))(n:Nat):List (List Rat):=(aU m n).1.take (aU m n).2.1
def Kt(h:b_ m n):(qP m n).length=(aU m n).2.1:=by
 unfold qP
 rw[gG,Be]
 have:=(@pQ m n h n).2
 omega
def Ypl{s:aM}(h:bf s=0)(hn:s.length<=n)(h1:0<n):Qb (4*n) (fw s):=by
 obtain⟨e,_,_⟩:=FR h
 have hb:=Zt2 (fw s)
 have l1:(bn (aR (fw s))).length<=n:=by
  rw[e];unfold bn;split
  ·simp;omega
  ·exact hn
 rw[hb]at l1
 have g:∀m:Nat,(ar m).length<=n->m<2^(4*n):=fun m hm=>eY ((PQ h1).1 hm) (Yks n)
 split at l1
 ·rename_i h2
  have h3:(ar 1).length=1:=by rw[PR];rfl
  exact⟨g _ l1,by rw[h2];exact g 1 (by omega)⟩
 ·simp at l1
  exact⟨g _ (by omega),g _ (by omega)⟩
def IX.qb{m:List (List aM)}(h:IX m n):b_ (eP m) n/\cW (eP m) 96:=⟨fun r hr=>(h.rat r hr).1,fun r hr q hq=>by
 obtain⟨s,hs,rfl⟩:=fv.1 hr
 obtain⟨t,ht,rfl⟩:=fv.1 hq
 have:=(h.row s hs).2 t ht
 exact Ypl this.1 this.2 (by decide)⟩
def Zww{m:List (List aM)}:(eP m).length=m.length:=by simp[eP]
def Ce(l:List Int):List (List V):=l.map fun z=>[V.int .i64 z]
def qQ(N0:Nat)(h:T O)(N:Nat)(v:V)(l:List Int):Prop:=Own 1 3 N0 h N v (Ce l)/\(l=[]->v=.aa)
def qQ.nil{N0:Nat}:qQ N0 h N .aa []:=⟨Own.nil,fun _=>rfl⟩
def qQ.ae{N0:Nat}{h':T O}{N':Nat}(s:qQ N0 h N v l)(k:ab h N h' N'):qQ N0 h' N' v l:=⟨s.1.ae k,s.2⟩
def qQ.vc{N0:Nat}{h':T O}{N' R:Nat}{o:O}(s:qQ N0 h N v l)(g:h.get R=some o)(he:∀z,o≠.cells z 3 true)(k:dG (fun i=>i=R) h N h' N'):qQ N0 h' N' v l:=by
 obtain⟨⟨hl,s|⟨i,h1,h2,h3,h4⟩⟩,hn⟩:=s
 ·exact⟨⟨hl,.inl s⟩,hn⟩
 ·refine⟨⟨hl,.inr ⟨i,h1,h2,eY h3 k.le,(k.get i h3 fun hc=>?_).trans h4⟩⟩,hn⟩
  rw[hc,g]at h4
  simp only[aq]at h4
  exact he _ h4
def qQ.push{B N0:Nat}{x:V}{k:Int}{w:List Nat}(s:qQ N0 h N v l)(hB:B<=N0)(hN:N0<=N)(hw:av B w=[])(hx:eA ⟨h,N,w⟩ 1 x=some (1,[.int .i64 k]))(hl:l.length<1000):∃v' h' w',gJ ⟨h,N,w⟩ 1 8 3 v x=some (v',⟨h',N+1,w'⟩)/\av B w'=[]/\dG (fun i=>i∈bZ v) h N h' (N+1)/\kl 3 NW h v/\(∀i∈bZ v,N0<=i)/\qQ N0 h' (N+1) v' (l++[k]):=by
 obtain⟨s,hn⟩:=s
 have sB:Own 1 3 B h N v (Ce l):=⟨s.1,s.2.imp id fun ⟨i,a,b,c⟩=>⟨i,a,by omega,c⟩⟩
 have hY:∀c∈Ce l,∀y∈c,NW y:=fun c hc y hy=>by
  obtain⟨p,_,rfl⟩:=fv.1 hc
  simp at hy
  subst hy
  exact fun m=>by simp
 have h0:Ce l=[]->v=.aa:=fun h0=>hn (List.map_eq_nil_iff.1 h0)
 have hb:2*((Ce l).length+1)*8<=281474976710656:=by simp only[Ce,je];omega
 obtain⟨v1,h1,w1,a1,a2,_,_,_,_⟩:=Cf (Y:=NW) (bytes:=8) (w:=w) sB h0 hY (by omega) (by decide) rfl hx hb
 obtain⟨v2,h2,w2,b1,_,_,b4,b5,b6⟩:=Cf (Y:=NW) (bytes:=8) (w:=w) s h0 hY hN (by decide) rfl hx hb
 rw[a1]at b1
 simp only[aq,bs,St.mk.injEq,true_and]at b1
 obtain⟨rfl,rfl,rfl⟩:=b1
 refine⟨v1,h1,w1,a1,a2.trans hw,b4,b5,fun i hi=>?_,by simpa[Ce]using b6,fun hc=>by simp at hc⟩
 obtain⟨_,⟨_,rfl⟩|⟨j,rfl,c1,_⟩⟩:=s
 ·simp[bZ]at hi
 ·simp[bZ]at hi
  omega
def qQ.sl{N0:Nat}(s:qQ N0 h N v l):Sl h N v (dI l):=by
 have:=s.1.sn
 have e:Ce l=(dI l).map fun y=>[y]:=by unfold Ce dI;rw[List.map_map];rfl
 rw[e]at this
 exact Sn.one.1 this
variable {d i j k:Nat} {m:List (List Rat)}
def aP(m:List (List Rat))(i j:Nat):Rat:=(m[i]?.getD [])[j]?.getD 0
def UE{p:Nat}(hd:d<m.length)(hp:p<m.length):aP (cr m d p) i j=if i=d then aP m p j else if i=p then aP m d j else aP m i j:=by
 unfold aP cr
 by_cases e1:i=p
 ·subst e1
  rw[gK (by simp;exact hp)]
  by_cases e2:i=d
  ·subst e2;simp
  ·simp[e2]
 ·rw[dW (Ne.symm e1)]
  by_cases e2:i=d
  ·subst e2;rw[gK hd];simp
  ·rw[dW (Ne.symm e2)];simp[e1,e2]
def Ylj(hd:d<m.length):aP (gE m d k) i j=if i=d then aP m d j/aP m d k else aP m i j:=by
 unfold aP gE
 by_cases e:i=d
 ·subst e
  rw[gK hd,ay rfl,pd,fV]
  cases (m[i]?.getD [])[j]? with
  |none=>simp[Rat.div_def,Rat.zero_mul]
  |some q=>rfl
 ·rw[dW (Ne.symm e),ak e]
def Ylk{c:Nat}(h:b_ m c)(hi:i<m.length)(hd:d<m.length):aP (cC m d k m.length) i j=if i=d then aP m i j else aP m i j-aP m i k*aP m d j:=by
 unfold aP
 rw[DO hi,pd]
 by_cases e:i=d
 ·rw[ak (by omega),ay e]
 ·rw[ay ⟨hi,e⟩,ak e]
  have l1:=h.at hi
  have l2:=h.at hd
  by_cases hj:j<c
  ·unfold qO
   rw[PS (by omega)]
   rfl
  ·rw[fl (by rw[KO];omega),fl (l:=m[i]?.getD []) (by omega),fl (l:=m[d]?.getD []) (by omega)]
   show (0:Rat)=0-(m[i]?.getD [])[k]?.getD 0*0
   rw[Rat.mul_zero,Rat.sub_self]
def Yko{m:List (List Rat)}{k:Nat}:∀{n d:Nat},d+n<=oc m k d n->∀i,d<=i->i<d+n->aP m i k=0
 |0,d,h,i,h1,h2=>by omega
 |n+1,d,h,i,h1,h2=>by
  unfold oc at h
  split at h
  ·omega
  ·rename_i hc
   by_cases e:i=d
   ·subst e;unfold aP;simpa using hc
   ·exact Yko (n:=n) (d:=d+1) (by omega) i (by omega) (by omega)
structure yD (m:List (List Rat)) (d:Nat) (ps:List Nat) (n:Nat):Prop where
 len:ps.length=d
 le:d<=m.length
 lt:∀i,i<d->ps[i]?.getD 0<n
 IY:∀i j,i<j->j<d->ps[i]?.getD 0<ps[j]?.getD 0
 one:∀i j,i<d->j<m.length->aP m j (ps[i]?.getD 0)=if j=i then 1 else 0
 lead:∀i k,i<d->k<ps[i]?.getD 0->aP m i k=0
 rest:∀i k,d<=i->i<m.length->k<n->aP m i k=0
def yD.step{s:List (List Rat)×Nat×List Nat}{n c:Nat}(h:yD s.1 s.2.1 s.2.2 n)(hc:b_ s.1 c):yD (jw s n).1 (jw s n).2.1 (jw s n).2.2 (n+1):=by
 obtain⟨m,d,ps⟩:=s
 simp only at h hc
 unfold jw
 simp only
 have hle:=@FG m n (m.length-d) d
 have iw:=h.le
 split
 ·rename_i hp
  have d_:d<m.length:=by unfold fF at hp;omega
  have Kp:d<=fF m d n:=hle.1
  have aW:aP m (fF m d n) n≠0:=@IF m n (m.length-d) d (by unfold fF at hp;omega)
  generalize fF m d n=p at*
  have kI:=(hc.B1 d_ hp).IG (d:=d) (k:=n) (by rw[sM];exact d_)
  have hlen:(cC (gE (cr m d p) d n) d n m.length).length=m.length:=by rw[zt,DE,sM]
  have iV:(gE (cr m d p) d n).length=m.length:=by rw[DE,sM]
  have hb:∀i j,aP (cr m d p) i j=if i=d then aP m p j else if i=p then aP m d j else aP m i j:=fun i j=>UE d_ hp
  have hs:∀i j,aP (gE (cr m d p) d n) i j=if i=d then aP m p j/aP m p n else aP (cr m d p) i j:=fun i j=>by
   rw[Ylj (by rw[sM];exact d_),hb d j,hb d n,ay rfl,ay rfl]
  have he:∀i j,i<m.length->aP (cC (gE (cr m d p) d n) d n m.length) i j=if i=d then aP m p j/aP m p n else aP (cr m d p) i j-aP (cr m d p) i n*(aP m p j/aP m p n):=fun i j hi=>by
   have:=Ylk (m:=gE (cr m d p) d n) (k:=n) (j:=j) kI (i:=i) (d:=d) (by rw[iV];exact hi) (by rw[iV];exact d_)
   rw[iV]at this
   rw[this,hs i j,hs i n,hs d j,ay rfl]
   split<;>rfl
  have pY:aP m p n/aP m p n=1:=by rw[Rat.div_def];exact Rat.mul_inv_cancel _ aW
  have FI:∀i j,i<d->aP (cr m d p) i j=aP m i j:=fun i j hi=>by rw[hb,ak (by omega),ak (by omega)]
  have gW:∀i k,d<=i->i<m.length->k<n->aP (cr m d p) i k=0:=fun i k h1 h2 h3=>by
   rw[hb]
   split
   ·exact h.rest p k Kp hp h3
   ·split
    ·exact h.rest d k (aQ _) d_ h3
    ·exact h.rest i k h1 h2 h3
  have tu:∀k,k<n->aP m p k/aP m p n=0:=fun k hk=>by rw[h.rest p k Kp hp hk,Rat.div_def,Rat.zero_mul]
  have hold:∀i k,i<m.length->k<n->aP (cC (gE (cr m d p) d n) d n m.length) i k=if i<d then aP m i k else 0:=fun i k hi hk=>by
   rw[he i k hi,tu k hk,Rat.mul_zero]
   by_cases e:i=d
   ·rw[ay e,ak (by omega)]
   ·rw[ak e]
    by_cases e2:i<d
    ·rw[ay e2,FI i k e2,Rat.sub_eq_add_neg,Rat.neg_zero,Rat.add_zero]
    ·rw[ak e2,gW i k (by omega) hi hk,Rat.sub_eq_add_neg,Rat.neg_zero,Rat.add_zero]
  have qK:∀i,i<m.length->aP (cC (gE (cr m d p) d n) d n m.length) i n=if i=d then 1 else 0:=fun i hi=>by
   rw[he i n hi,pY]
   split
   ·rfl
   ·rw[Rat.mul_one,Rat.sub_self]
  have ho:∀i,i<d->(ps++[n])[i]?.getD 0=ps[i]?.getD 0:=fun i hi=>by rw[kJ (by have:=h.len;omega)]
  have sO:(ps++[n])[d]?.getD 0=n:=by rw[nU (by have:=h.len;omega),h.len];simp
  show yD (cC (gE (cr m d p) d n) d n m.length) (d+1) (ps++[n]) (n+1)
  refine⟨by simp[h.len],by rw[hlen];omega,fun i hi=>?_,fun i j h1 h2=>?_,fun i j h1 h2=>?_,fun i k h1 h2=>?_,fun i k h1 h2 h3=>?_⟩
  ·by_cases e:i<d
   ·rw[ho i e];have:=h.lt i e;omega
   ·obtain rfl:i=d:=by omega
    rw[sO];omega
  ·rw[ho i (by omega)]
   by_cases e:j<d
   ·rw[ho j e];exact h.IY i j h1 e
   ·obtain rfl:j=d:=by omega
    rw[sO];exact h.lt i h1
  ·rw[hlen]at h2
   by_cases e:i<d
   ·rw[ho i e,hold j _ h2 (h.lt i e)]
    by_cases e2:j<d
    ·rw[ay e2];exact h.one i j e h2
    ·rw[ak e2,ak (by omega)]
   ·obtain rfl:i=d:=by omega
    rw[sO];exact qK j h2
  ·by_cases e:i<d
   ·rw[ho i e]at h2
    rw[hold i k (by omega) (by have:=h.lt i e;omega),ay e]
    exact h.lead i k e h2
   ·obtain rfl:i=d:=by omega
    rw[sO]at h2
    rw[hold i k d_ h2,ak e]
  ·rw[hlen]at h2
   by_cases e:k<n
   ·rw[hold i k h2 e,ak (by omega)]
   ·obtain rfl:k=n:=by omega
    rw[qK i h2,ak (by omega)]
 ·rename_i hp
  have KP:=@Yko m n (m.length-d) d (by unfold fF at hp;omega)
  show yD m d ps (n+1)
  refine⟨h.len,h.le,fun i hi=>by have:=h.lt i hi;omega,h.IY,h.one,h.lead,fun i k h1 h2 h3=>?_⟩
  by_cases e:k<n
  ·exact h.rest i k h1 h2 e
  ·obtain rfl:k=n:=by omega
   exact KP i h1 (by omega)
def A5{m:List (List Rat)}{c:Nat}(hc:b_ m c):∀{n:Nat},yD (aU m n).1 (aU m n).2.1 (aU m n).2.2 n
 |0=>⟨rfl,uw _,fun i hi=>absurd hi (Nat.not_lt_zero i),fun i j _ hj=>absurd hj (Nat.not_lt_zero j),fun i j hi=>absurd hi (Nat.not_lt_zero i),fun i k hi=>absurd hi (Nat.not_lt_zero i),fun i k _ _ hk=>absurd hk (Nat.not_lt_zero k)⟩
 |n+1=>by
  rw[uQ]
  exact(@A5 m c hc n).step (pQ hc).1
def yD.idx{n:Nat}{ps:List Nat}(h:yD m d ps n)(hi:i<d):ps.idxOf (ps[i]?.getD 0)=i:=by
 have hl:=h.len
 have hm:ps[i]?.getD 0∈ps:=by
  rw[c9 (by omega)]
  exact List.getElem_mem _
 have hj:=List.idxOf_lt_length_iff.2 hm
 have hg:=List.getElem_idxOf hj
 by_cases e:ps.idxOf (ps[i]?.getD 0)=i
 ·exact e
 ·exfalso
  rcases Nat.lt_or_gt_of_ne e with h1|h1
  ·have:=h.IY _ _ h1 hi
   rw[c9 hj,hg]at this
   simp at this
  ·have:=h.IY _ _ h1 (by omega)
   rw[c9 hj,hg]at this
   simp at this
variable {R:Nat} {m:List (List Rat)}
set_option maxHeartbeats 2000000
def A.Vy:=A.q Tryz.f58
def A.od:=A.ql A.Vy 1 []
def A.qR:=(fun x0=>A.ql A.Vy 0 [x0]) A.od
def A.b58:=(fun x0=>A.qb A.Vy [x0]) A.qR
def A.k58:=@A.kk 58 120 [.tmp 2,.tmp 3] A.b58 (by kernel_rfl) rfl
def mj.at{h:T O}{N:Nat}(s:mj h N R m){j:Nat}{l:List Rat}(hj:m[j]?=some l):∃us u,h.get R=some (.cells us 73 true)/\us.length=m.length/\us[j]?=some u/\ec h N u l:=by
 obtain⟨us,g1,g2,_,_,g5⟩:=s.ex
 obtain⟨u,a1,a2⟩:=g5 j l hj
 exact⟨us,u,g1,g2,a1,a2⟩
def mj.Cg{h:T O}{N i:Nat}{u:V}{l:List Rat}{us:List V}(s:mj h N R m)(g:h.get R=some (.cells us 73 true))(hu:ec h N u l)(hi:i<m.length):mj (h.set R (.cells (us.set i u) 73 true)) N R (m.set i l):=by
 obtain⟨vs,g1,_,g2⟩:=s.put hu hi
 rw[g]at g1
 simp only[aq,O.cells.injEq,and_true]at g1
 subst g1
 exact g2
def Yuy{c:List V}(h:c.length=4):aD c 0 4=some c:=by unfold aD;rw[h];simp;exact eZ (by omega)
def Yux{c:List V}(h:c.length=4):ad [V.int .i64 0,.aa,.int .i64 0,.aa] 0 c=c:=by unfold ad;rw[h];simp
def Ygy{α:Type}{l:List α}{i:Nat}{a:α}(h:l[i]?=some a):l.set i a=l:=by
 apply oe
 intro j
 by_cases e:j=i
 ·subst e
  rw[gK (zH.1 h).1,h]
 ·rw[dW (Ne.symm e)]
def Ytf{q:Rat}:dX q.num=0↔q=0:=by
 have h1:=@zL q
 unfold dX
 constructor
 ·intro hh
  apply h1.1
  split at hh
  ·omega
  ·split at hh<;>omega
 ·intro hh
  have:=h1.2 hh
  rw[this]
  rfl
def Yhm{W0:List Nat}{N0:Nat}{H:T O}{n P:Nat}{r0:T V}{d k c K:Nat}{cp:Option Nat}(s:mj H n R m)(zM:N0<=R)(hP:H.get P=some (.cells [.int .i64 k] 3 true))(hPl:P<n)(hc:b_ m c)(hk:k<c)(hd:d<m.length)(kg:m.length<1000)(cO:c<1000)(yd:1<=K)(hK:∀i,i≠d->∀q∈m[i]?.getD [],Qb K q)(hPq:∀q∈m[d]?.getD [],Qb (2*K) q)(hKl:3*K<=400000000)(yQ:av N0 W0=[])(a4:r0.get 4=some (.slice R 0 m.length cp 1))(a6:r0.get 6=some (.int .i64 d))(a7:r0.get 7=some (.ptr P 0))(Vz:r0.get 71=some (.int .i64 m.length))(a72:r0.get 72=some (.int .i64 0)):
  Code A.C none (.loop A.od) ⟨r0,120,[]⟩ ⟨H,n,W0⟩ (fun e fr st=>e=.exit 2/\av N0 st.w=[]/\dG (fun i=>i=R) H n st.h st.n/\mj st.h st.n R (cC m d k m.length)/\∃r,Fx [(10,12),(72,104)] r0 120 ⟨r,120,[]⟩/\fr=⟨r,120,[]⟩):=by
 have hPR:¬P=R:=fun hc=>by
  obtain⟨us,g,_⟩:=s.ex
  rw[hc,g]at hP
  simp at hP
 rw[bk]
 refine bG [(10,12),(72,104)] (fun e r st=>e=.exit 2/\av N0 st.w=[]/\dG (fun i=>i=R) H n st.h st.n/\mj st.h st.n R (cC m d k m.length)) (fun i r st=>av N0 st.w=[]/\dG (fun i=>i=R) H n st.h st.n/\∃t,t<=m.length/\i=m.length-t/\r.get 72=some (.int .i64 t)/\mj st.h st.n R (cC m d k t)) (m.length) ?_ ?_ ?_
 ·exact⟨yQ,dG.refl,0,by omega,by omega,a72,by rw[Yr6];exact s⟩
 ·rintro i r ⟨H1,n1,W⟩ hr hf ⟨hW,k1,t,ht,rfl,IZ,s1⟩
  simp only at hW k1 s1
  rw[bk]
  have I1:=(k1.get P hPl hPR).trans hP
  have KQ:=eY hPl k1.le
  by_cases ax:t<m.length
  ·have a_:(t:Int)<(m.length:Int):=by omega
   have yR:(d:Int)<(m.length:Int):=by omega
   obtain⟨row,al⟩:=bh ax
   obtain⟨me,iZ⟩:=bh hd
   have qJ:=hc row (bU al)
   have iH:=hc me (bU iZ)
   have w2:(cC m d k t)[d]?=some me:=by rw[Yr5 hd];exact iZ
   have w1:(cC m d k t)[t]?=some row:=by rw[DO ax,ak (by omega),al];rfl
   obtain⟨us,u,g1,g2,g3,g4⟩:=s1.at w1
   obtain⟨us',v,Cc,_,DP,IU⟩:=s1.at w2
   rw[g1]at Cc
   simp only[aq,O.cells.injEq,and_true]at Cc
   subst Cc
   obtain⟨q,hq⟩:=bh (l:=row) (k:=k) (by omega)
   obtain⟨i1,o1,c1,e1,x1,cs,q1,q2,q3,q4,q5⟩:=g4.1.at hq
   obtain⟨z1,z2⟩:=q5.len
   have uY:=g4.1.len
   have bL:(k:Int)<(row.length:Int):=by omega
   have eF:k<row.length:=by omega
   have hR:=s1.lt
   have VA:¬R=n1:=by omega
   have hPn:¬P=n1:=by omega
   have mI:∀c:List V,(V.agg c).cells=c:=fun _=>rfl
   have s0:=Yuy z1
   have e4:=Yux z1
   have VB:n1<n1+1:=by omega
   have lR:R<n1+1:=by omega
   have kB:ab H1 n1 ((H1.set n1 (.cells [.int .i64 0,.aa,.int .i64 0,.aa] 80 true)).set n1 (.cells cs 80 true)) (n1+1):=(ab.refl.new _).set (aQ _)
   have gN:((H1.set n1 (.cells [.int .i64 0,.aa,.int .i64 0,.aa] 80 true)).set n1 (.cells cs 80 true)).get n1=some (.cells cs 80 true):=by rw[T.ag,ay rfl]
   by_cases e:t=d
   ·subst e
    rw[<-Zxv]at s1
    simp(disch:=first|(simp;done)|omega|rfl) [-V.cells, -V.one,A.od,hr,hf,a4,a6,a7,Vz,IZ,ax,a_,g1,g3,hR,q1,q2,q3,q4,PT q4,uY,bL,eF,I1,KQ,bD,mI,z1,z2,s0,e4,VB,VA,hPn,k1,hW]
    have uT:=k1.le
    refine⟨m.length-(t+1),by omega,by omega,(k1.new _).set (.inr uT),t+1,by omega,rfl,by simp,s1.ae kB⟩
   ·have e':¬(t:Int)=(d:Int):=by omega
    simp[-V.cells, -V.one,A.od,hr,hf,a4,a6,a7,Vz,IZ,ax,a_,yR,hd,g1,g3,DP,hR,q1,q2,q3,q4,PT q4,uY,bL,eF,I1,KQ,bD,mI,z1,z2,s0,e4,VB,VA,hPn,e,e']
    have sB:=s1.ae kB
    have gR:=(kB.get R hR).trans g1
    have qB:=q5.ae kB
    have rB:=g4.ae kB
    have pB:=IU.ae kB
    have kU:dG (fun i=>i=R) H n ((H1.set n1 (.cells [.int .i64 0,.aa,.int .i64 0,.aa] 80 true)).set n1 (.cells cs 80 true)) (n1+1):=(k1.new _).set (.inr k1.le)
    generalize (H1.set n1 (.cells [.int .i64 0,.aa,.int .i64 0,.aa] 80 true)).set n1 (.cells cs 80 true)=G at*
    refine aB (VC qB.fc) ?_
    rintro _ H2 n2 k2 rfl
    have kK:=k2.le
    have KR:¬n1<N0:=by have:=s.lt;have:=k1.le;omega
    have pX:=(k2.get R (by omega)).trans gR
    have I3:=(k2.get n1 (by omega)).trans gN
    have wZ:R<n2:=by omega
    have lN2:n1<n2:=by omega
    have VD:=@zL q
    have hz:(dX q.num=0)↔q=0:=Ytf
    by_cases c0:q=0
    ·have ve:=hz.2 c0
     simp(disch:=first|(simp;done)|omega|rfl) [hr,hf,IZ,ve,aE,KR,hW]
     refine⟨m.length-(t+1),by omega,kU.trans k2.upd,t+1,by omega,rfl,by simp,?_⟩
     rw[Vo ax e,al,iZ]
     simp only[pd]
     rw[Ybu (by rw[hq];exact c0),Ygy w1]
     exact sB.ae k2
    ·have ve:¬dX q.num=0:=fun hc=>c0 (hz.1 hc)
     simp[hr,hf,a4,a6,IZ,ve,aE,pX,wZ,g3,DP,ax,a_,hd,yR]
     have yc:∀q∈row,Qb K q:=by have:=hK t e;rw[al]at this;exact this
     have uv:∀q∈me,Qb (2*K) q:=by have:=hPq;rw[iZ]at this;exact this
     have gF:=yc q (bU hq)
     refine aB (Yd4 (fun x y=>x-q*y) (rB.1.ae k2) (pB.1.ae k2) (by omega) (fun x hx y hy h' n' ca cb k' ha hb=>Yr7 (i:=K) (j:=2*K) (k:=K) ((k'.get n1 lN2).trans I3) (eY lN2 k'.le) ha hb ((qB.ae k2).ae k') (yc x hx) (uv y hy) gF (by omega) (by omega) (by omega) (by omega) (by omega)) (by omega)) ?_
     rintro v3 H3 n3 k3 t3
     have yM:=k3.le
     have s3:=(sB.ae k2).ae k3
     have IU:=(k3.get R wZ).trans pX
     have wM:t<us.length:=by rw[g2,zt];exact ax
     have uZ:t+1<=us.length:=wM
     have ji:(t:Int)<(us.length:Int):=by omega
     have ix:∀u,ad us t [u]=us.set t u:=fun u=>zA wM
     have KM:R<n3:=by omega
     obtain⟨_,Vn,VE⟩:=t3.DR
     simp(disch:=first|(simp;done)|omega|rfl) [-V.cells, -V.one,bD,VE,Vn,ix,wM,uZ,IU,wZ,KM,hr,hf,IZ]
     have dL:oa (fun x y=>x-q*y) row me row.length=qO row me k:=by unfold qO;rw[hq];rfl
     rw[dL]at t3
     have sp:=s3.Cg IU t3 (i:=t) (by rw[zt];exact ax)
     refine⟨m.length-(t+1),by omega,by rw[ak (by omega),ak KR];exact hW,((kU.trans k2.upd).trans k3.upd).set (.inl rfl),t+1,by omega,rfl,by simp,?_⟩
     rw[Vo ax e,al,iZ]
     exact sp
  ·obtain rfl:t=m.length:=by omega
   simp[A.od,hr,hf,a4,a6,Vz,IZ,k1,hW]
   exact s1
 ·rintro _ r st hr ⟨rfl,hw,k1,s1⟩
  simp[]
  exact⟨hw,k1,s1,hr,rfl,rfl⟩
end
end Go.Mx
