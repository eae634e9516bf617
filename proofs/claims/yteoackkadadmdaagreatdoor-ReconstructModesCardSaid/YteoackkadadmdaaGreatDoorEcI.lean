/-lensletref05-/
import Derived.Test.YteoackkadadmdaaGreatDoorEcD
set_option linter.all false
namespace Go.Mx
open Go Go.Proofs
variable {m:List (List Rat)}
set_option maxRecDepth 1000000
def AD{m:List (List Rat)}:∀{n:Nat},(bf m n).1.length=m.length
 |0=>rfl
 |n+1=>by rw[wz,Ylv];exact AD
def tG{m:List (List Rat)}{c:Nat}(h:cD m c):∀{n:Nat},cD (bf m n).1 c/\(bf m n).2.1<=m.length
 |0=>⟨h,tH _⟩
 |n+1=>by
  obtain⟨a,b⟩:=@tG m c h n
  rw[wz]
  have:=Yp2 (k:=n) a (by rw[AD];exact b)
  rw[AD]at this
  exact⟨this.1,this.2.1⟩
def kB(K:Nat):Nat->Nat
 |0=>K
 |n+1=>4*kB K n+1
def Tl{K:Nat}(h:1<=K):∀{n:Nat},1<=kB K n
 |0=>h
 |n+1=>by rw[kB];omega
def Zt{K:Nat}:∀{n m:Nat},n<=m->kB K n<=kB K m
 |n,0,h=>by
  obtain rfl:n=0:=by omega
  exact aW _
 |n,m+1,h=>by
  by_cases e:n=m+1
  ·rw[e];exact aW _
  ·have:=@Zt K n m (by omega)
   rw[kB];omega
def Tm{m:List (List Rat)}:∀{n:Nat},(bf m n).2.1<=n
 |0=>aW _
 |n+1=>by
  have:=@Tm m n
  rw[wz]
  unfold iR
  split
  ·show (bf m n).2.1+1<=n+1
   omega
  ·omega
def Tn{m:List (List Rat)}{K:Nat}(h:cX m K)(hK:1<=K):∀{n:Nat},cX (bf m n).1 (kB K (bf m n).2.1)
 |0=>h
 |n+1=>by
  have ih:=@Tn m K h hK n
  rw[wz]
  by_cases hp:eG (bf m n).1 (bf m n).2.1 n<(bf m n).1.length
  ·have hs:=Yp3 (k:=n) ih (Tl hK)
   have e:(iR (bf m n) n).2.1=(bf m n).2.1+1:=by unfold iR;rw[aF hp]
   rw[e,kB]
   exact hs
  ·have e:iR (bf m n) n=bf m n:=by unfold iR;rw[ar hp]
   rw[e]
   exact ih
def Zyp{W0:List Nat}{N0:Nat}{h H:T O}{n R:Nat}{r0:T V}{c:Nat}{B:Nat->Nat}(s:po N0 H n R m)(hc:cD m c)(jQ:m.length<1000)(fV:0<m.length)(cO:c<1000)(xB:∀n,1<=B n)(hK:∀k,cX (bf m k).1 (B (bf m k).2.1))(hB:∀n,n<m.length->n<c->3*B n<=400000000)(kH:ab h N0 H n)(yf:ax N0 W0=[])(a3:r0.get 3=some (.slice R 0 m.length none 1))(a4:r0.get 4=some (.int .i64 0))(a5:r0.get 5=some (.int .i64 0)):
  Code A.C none (.loop A.mj) ⟨r0,110,[]⟩ ⟨H,n,W0⟩ (fun e fr st=>e=.exit 0/\ax N0 st.w=[]/\ab h N0 st.h st.n/\po N0 st.h st.n R (bf m c).1/\∃r,Fx [(4,7),(11,106)] r0 110 ⟨r,110,[]⟩/\fr=⟨r,110,[]⟩/\r.get 4=some (.int .i64 (bf m c).2.1)):=by
 rw[bq]
 refine bP [(4,7),(11,106)] (fun e r st=>e=.exit 0/\ax N0 st.w=[]/\ab h N0 st.h st.n/\po N0 st.h st.n R (bf m c).1/\r.get 4=some (.int .i64 (bf m c).2.1)) (fun i r st=>ax N0 st.w=[]/\ab h N0 st.h st.n/\∃k,k<=c/\i=c-k/\r.get 5=some (.int .i64 k)/\r.get 4=some (.int .i64 (bf m k).2.1)/\po N0 st.h st.n R (bf m k).1) c ?_ ?_ ?_
 ·exact⟨yf,kH,0,by omega,by omega,a5,a4,s⟩
 ·rintro i r ⟨H1,n1,W⟩ hr hf ⟨hW,k1,k,hk,rfl,h5,h4,s1⟩
  simp only at hW k1 s1
  rw[bq]
  have hlen:(bf m k).1.length=m.length:=AD
  obtain⟨HP,iz⟩:=@tG m c hc k
  obtain⟨To,Db⟩:=bp (l:=(bf m k).1) (k:=0) (by omega)
  have Tp:=HP To (cm Db)
  obtain⟨us,u,g1,g2,g3,g4⟩:=s1.at Db
  have ue:=g4.1.len
  rw[Tp]at ue
  have hR:=s1.lt
  have Fl:(0:Int)<(m.length:Int):=by omega
  by_cases ay:k<c
  ·have bn:(k:Int)<(c:Int):=by omega
   simp[A.mj,hr,a3,h5,h4,fV,g1,g3,ue,bn]
   refine jZ (Yg1 (d:=(bf m k).2.1) s1 HP ay (by omega) (by omega) (by simp[hr,hlen,a3]) (by simp[h5]) (by simp)) ?_
   rintro _ _ _ ⟨rfl,rfl,r2,f2,rfl,h6⟩
   have dK:=f2.aR
   have c_:=hf.inner (D':=[(6,6),(25,40)]) (by decide) (fun hx=>by simpa[Fx.set]using hx) dK
   have zak:=@HM (bf m k).1 k ((bf m k).1.length-(bf m k).2.1) (bf m k).2.1
   by_cases hp:eG (bf m k).1 (bf m k).2.1 k<(bf m k).1.length
   ·generalize hd:(bf m k).2.1=d at*
    generalize mq:(bf m k).1=m1 at*
    have eX:d<m1.length:=by unfold eG at hp;omega
    generalize su:eG m1 d k=p at*
    obtain⟨rd,yg⟩:=bp eX
    obtain⟨rp,xC⟩:=bp hp
    obtain⟨us1,ud,x1,x2,x3,x4⟩:=s1.at yg
    obtain⟨us2,up,y1,_,y3,y4⟩:=s1.at xC
    rw[g1]at x1 y1
    simp only[al,O.cells.injEq,and_true]at x1 y1
    subst x1;subst y1
    have sA:=s1.put g1 y4 eX
    have gA:(H1.set R (.cells (us.set d up) 23 true)).get R=some (.cells (us.set d up) 23 true):=by rw[T.ag,aF rfl]
    have sB:=sA.put gA (x4.sG g1 s1.ge) (i:=p) (by rw[yh];exact hp)
    have JQ:d<us.length:=by omega
    have JR:p<us.length:=by omega
    have Tq:¬(p:Int)=(m.length:Int):=by omega
    have By:(d:Int)<(m.length:Int):=by omega
    have Dc:(p:Int)<(m.length:Int):=by omega
    have yW:d<m.length:=by omega
    have hpm:p<m.length:=by omega
    have hdk:d<c:=by
     have:=@Tm m k
     omega
    have e1:∀u,ad us d [u]=us.set d u:=fun u=>Bw JQ
    have e2:∀u,ad (us.set d up) p [u]=(us.set d up).set p u:=fun u=>Bw (by simp;exact JR)
    have c1:ud.cells=[ud]:=Sl.fG x4.1
    have o1:ud.one=true:=Sl.qc x4.1
    have c2:up.cells=[up]:=Sl.fG y4.1
    have o2:up.one=true:=Sl.qc y4.1
    have l1:d+1<=us.length:=JQ
    have l2:p+1<=us.length:=JR
    simp[-V.cells, -V.one,dK,hr,h6,a3,h4,Tq,By,Dc,g1,x3,y3,hR,bO,c1,o1,c2,o2,e1,e2,l1,l2]
    have kG:=(k1.set (i:=R) (o:=.cells (us.set d up) 23 true) s1.ge).set (i:=R) (o:=.cells ((us.set d up).set p ud) 23 true) s1.ge
    have gB:((H1.set R (.cells (us.set d up) 23 true)).set R (.cells ((us.set d up).set p ud) 23 true)).get R=some (.cells ((us.set d up).set p ud) 23 true):=by rw[T.ag,aF rfl]
    generalize (H1.set R (.cells (us.set d up) 23 true)).set R (.cells ((us.set d up).set p ud) 23 true)=G at*
    have Bu:(m1.set d rp).set p rd=eE m1 d p:=by unfold eE;rw[yg,xC];rfl
    rw[Bu]at sB
    have AB:((us.set d up).set p ud).length=m1.length:=by simp only[yh];omega
    generalize (us.set d up).set p ud=vs at*
    have Tr:cX m1 (B d):=by rw[<-mq,<-hd];exact hK _
    have yX:=Tr.Bs (d:=d) (p:=p)
    have JS:=HP.Bs eX hp
    have Ts:(eE m1 d p).length=m1.length:=t_
    have bB:=@JJ m1 k (m1.length-d) d (by unfold eG at su;omega)
    have ak:(eE m1 d p)[d]?=some rp:=by
     rw[<-Bu]
     by_cases e:p=d
     ·subst e;rw[yg]at xC;simp only[al]at xC;subst xC;rw[iI (by simp;omega)]
     ·rw[ec e,iI eX]
    have uv:rp[k]?.getD 0≠0:=by
     have h9:=su
     unfold eG at h9
     rw[h9,xC]at bB
     exact bB
    obtain⟨j9,vd,z1,z2,z3,z4⟩:=sB.at ak
    rw[gB]at z1
    simp only[al,O.cells.injEq,and_true]at z1
    subst z1
    have Tt:=JS rp (cm ak)
    obtain⟨q,hq⟩:=bp (l:=rp) (k:=k) (by omega)
    have xA:=yX rp (cm ak)
    have iJ:=xA q (cm hq)
    have rO:q≠0:=by rw[hq]at uv;exact uv
    have hkq:=hB d yW hdk
    obtain⟨i1,t1,w1,e3,v1,q1,q2,q3,q4⟩:=z4.1.at (wu hq)
    have nF:=z4.1.len
    have bR:(k:Int)<(rp.length:Int):=by omega
    have hk2:k<rp.length:=by omega
    simp[dK,hr,a3,h4,h5,By,z3,q1,q2,q3,q4,bR,nF,gB,hR]
    refine aA (Ymg iJ (by omega) rO) ?_
    rintro _ H2 n2 k2 rfl
    have kI:=k2.le
    have BA:R<n2:=by omega
    have rN:=(k2.get R hR).trans gB
    simp
    refine aA (Zh (z4.1.ae k2) xA (Te iJ rO) (by omega) (by omega) (by omega)) ?_
    rintro v3 H3 n3 k3 o3
    have t3:=(Fk o3).old (N0:=N0)
    have yV:=k3.le
    have s3:=(sB.ae k2).ae k3
    have Fj:=(k3.get R BA).trans rN
    have Tu:R<n3:=by omega
    have wA:d<vs.length:=by omega
    have Fm:d+1<=vs.length:=wA
    have e4:∀u,ad vs d [u]=vs.set d u:=fun u=>Bw wA
    have c3:v3.cells=[v3]:=Sl.fG t3.1
    have o4:v3.one=true:=Sl.qc t3.1
    simp(disch:=first|(simp;done)|omega|rfl) [-V.cells, -V.one,Fj,Tu,bO,c3,o4,e4,Fm]
    have sC:=s3.put Fj t3 (i:=d) (by rw[Ts];exact eX)
    have Ay:(eE m1 d p).set d (rp.map fun x=>x*q⁻¹)=g_ (eE m1 d p) d k:=by
     unfold g_
     rw[ak]
     simp only[rM,hq,Rat.div_def]
    rw[Ay]at sC
    have HQ:(g_ (eE m1 d p) d k).length=m.length:=by rw[Fa,t_];exact hlen
    refine jZ (Yg3 (h:=h) (d:=d) (K:=B d) sC (JS.JH (by omega)) ay (by omega) (by omega) (by omega) (fun i hi=>by
     unfold g_
     rw[ec (Ne.symm hi)]
     exact yX.at) (by
     unfold g_
     rw[iI (by omega)]
     exact Td yX (xB _) (by rw[ak];exact uv)) (by omega) (((kG.trans k2).trans k3).set sC.ge) (by simp[sH.2 s1.ge,hW]) (by simp[dK,hr,a3,HQ]) (by simp[dK,h4]) (by simp[dK,h5]) (by simp)) ?_
    rintro _ _ ⟨H4,n4,W4⟩ ⟨rfl,JT,k4,s4,r4,f4,rfl⟩
    simp only at JT k4 s4
    have oX:=f4.aR
    have Dd:=c_.inner (D':=[(7,7),(75,104)]) (by decide) (fun hx=>by simpa[Fx.set]using hx) oX
    have dH:bf m (k+1)=(gg (g_ (eE m1 d p) d k) d k m1.length,d+1,(bf m k).2.2++[k]):=by
     rw[wz];unfold iR;rw[mq,hd,su,aF hp]
    simp(disch:=first|(simp;done)|omega|rfl) [oX,Dd,dK,h4,h5,JT,k4]
    refine⟨c-(k+1),by omega,k+1,by omega,rfl,by simp,?_,?_⟩
    ·rw[dH];simp
    ·rw[dH];rw[HQ,<-hlen]at s4;exact s4
   ·have dH:bf m (k+1)=bf m k:=by rw[wz];unfold iR;rw[ar hp]
    have AE:eG (bf m k).1 (bf m k).2.1 k=m.length:=by unfold eG at hp ⊢;omega
    rw[AE]at h6
    simp(disch:=first|(simp;done)|omega|rfl) [dK,c_,hr,h6,a3,h5,hW,k1]
    refine⟨c-(k+1),by omega,k+1,by omega,rfl,by simp,?_,?_⟩
    ·rw[dH];simpa using h4
    ·rw[dH];exact s1
  ·obtain rfl:k=c:=by omega
   simp[A.mj,hr,hf,a3,h5,h4,fV,g1,g3,ue,k1,hW]
   exact s1
 ·rintro _ r st hr ⟨rfl,hw,k1,s1,h4⟩
  simp[]
  exact⟨hw,k1,s1,r,⟨hr,rfl,rfl⟩,rfl,h4⟩
variable {N n:Nat} {h:T O} {l:List Int} {m:List (List Rat)} {v:V}
def NX{m:List (List Rat)}{k:Nat}(h:(bf m k).2.1=m.length):∀{n:Nat},bf m (k+n)=bf m k
 |0=>rfl
 |n+1=>by
  rw[Nat.add_succ,wz,NX h]
  unfold iR
  rw[ar]
  unfold eG
  rw[AD,h,Nat.sub_self]
  simp[nE]
def Zu{m:List (List Rat)}:∀{n:Nat},(bf m n).2.2.length=(bf m n).2.1
 |0=>rfl
 |n+1=>by
  have:=@Zu m n
  rw[wz]
  unfold iR
  split
  ·simp[this]
  ·exact this
def qd(m:List (List Rat))(n:Nat):List (List Rat):=(bf m n).1.take (bf m n).2.1
def JU(h:cD m n):(qd m n).length=(bf m n).2.1:=by
 unfold qd
 rw[gm,AD]
 have:=(@tG m n h n).2
 omega
def Yoy{s:aQ}(h:bz s=0)(hn:s.length<=n)(h1:0<n):Qb (4*n) (oY s):=by
 obtain⟨e,_,_⟩:=JV h
 have hb:=Zv (oY s)
 have l1:(bC (a_ (oY s))).length<=n:=by
  rw[e];unfold bC;split
  ·simp;omega
  ·exact hn
 rw[hb]at l1
 have g:∀m:Nat,(aq m).length<=n->m<2^(4*n):=fun m hm=>fE ((NY h1).1 hm) (Zw n)
 split at l1
 ·rename_i h2
  have h3:(aq 1).length=1:=by rw[NZ];rfl
  exact⟨g _ l1,by rw[h2];exact g 1 (by omega)⟩
 ·simp at l1
  exact⟨g _ (by omega),g _ (by omega)⟩
def Fb.qb{m:List (List aQ)}(h:Fb m n):cD (jj m) n/\cX (jj m) 96:=⟨fun r hr=>(h.rat r hr).1,fun r hr q hq=>by
 obtain⟨s,hs,rfl⟩:=eM.1 hr
 obtain⟨t,ht,rfl⟩:=eM.1 hq
 have:=(h.row s hs).2 t ht
 exact Yoy this.1 this.2 (by decide)⟩
def N6{m:List (List aQ)}:(jj m).length=m.length:=by simp[jj]
def BB(l:List Int):List (List V):=l.map fun z=>[V.int .i64 z]
def qe(N0:Nat)(h:T O)(N:Nat)(v:V)(l:List Int):Prop:=Own 1 3 N0 h N v (BB l)/\(l=[]->v=.aa)
def qe.nil{N0:Nat}:qe N0 h N .aa []:=⟨Own.nil,fun _=>rfl⟩
def qe.ae{N0:Nat}{h':T O}{N':Nat}(s:qe N0 h N v l)(k:ab h N h' N'):qe N0 h' N' v l:=⟨s.1.ae k,s.2⟩
def qe.uw{N0:Nat}{h':T O}{N' R:Nat}{o:O}(s:qe N0 h N v l)(g:h.get R=some o)(he:∀z,o≠.cells z 3 true)(k:dP (fun i=>i=R) h N h' N'):qe N0 h' N' v l:=by
 obtain⟨⟨hl,s|⟨i,h1,h2,h3,h4⟩⟩,hn⟩:=s
 ·exact⟨⟨hl,.inl s⟩,hn⟩
 ·refine⟨⟨hl,.inr ⟨i,h1,h2,fE h3 k.le,(k.get i h3 fun hc=>?_).trans h4⟩⟩,hn⟩
  rw[hc,g]at h4
  simp only[al]at h4
  exact he _ h4
def qe.push{B N0:Nat}{x:V}{k:Int}{w:List Nat}(s:qe N0 h N v l)(hB:B<=N0)(hN:N0<=N)(hw:ax B w=[])(hx:eD ⟨h,N,w⟩ 1 x=some (1,[.int .i64 k]))(hl:l.length<1000):∃v' h' w',gj ⟨h,N,w⟩ 1 8 3 v x=some (v',⟨h',N+1,w'⟩)/\ax B w'=[]/\dP (fun i=>i∈cR v) h N h' (N+1)/\mr 3 NW h v/\(∀i∈cR v,N0<=i)/\qe N0 h' (N+1) v' (l++[k]):=by
 obtain⟨s,hn⟩:=s
 have sB:Own 1 3 B h N v (BB l):=⟨s.1,s.2.imp id fun ⟨i,a,b,c⟩=>⟨i,a,by omega,c⟩⟩
 have hY:∀c∈BB l,∀y∈c,NW y:=fun c hc y hy=>by
  obtain⟨p,_,rfl⟩:=eM.1 hc
  simp at hy
  subst hy
  exact fun m=>by simp
 have h0:BB l=[]->v=.aa:=fun h0=>hn (List.map_eq_nil_iff.1 h0)
 have hb:2*((BB l).length+1)*8<=281474976710656:=by simp only[BB,jP];omega
 obtain⟨v1,h1,w1,a1,a2,_,_,_,_⟩:=De (Y:=NW) (bytes:=8) (w:=w) sB h0 hY (by omega) (by decide) rfl hx hb
 obtain⟨v2,h2,w2,b1,_,_,b4,b5,b6⟩:=De (Y:=NW) (bytes:=8) (w:=w) s h0 hY hN (by decide) rfl hx hb
 rw[a1]at b1
 simp only[al,bF,St.mk.injEq,true_and]at b1
 obtain⟨rfl,rfl,rfl⟩:=b1
 refine⟨v1,h1,w1,a1,a2.trans hw,b4,b5,fun i hi=>?_,by simpa[BB]using b6,fun hc=>by simp at hc⟩
 obtain⟨_,⟨_,rfl⟩|⟨j,rfl,c1,_⟩⟩:=s
 ·simp[cR]at hi
 ·simp[cR]at hi
  omega
def qe.sl{N0:Nat}(s:qe N0 h N v l):Sl h N v (dI l):=by
 have:=s.1.sn
 have e:BB l=(dI l).map fun y=>[y]:=by unfold BB dI;rw[List.map_map];rfl
 rw[e]at this
 exact Sn.one.1 this
open Go
def Oa(r:T V)(n:Nat)(ps:List Nat)(a b:av)(d:Nat):JW:={st:=.ready,eQ:=none,r:=r,n:=n,ps:=ps,assign:=a,body:=b,defs:=d}
def JX:Option Ex->Ex
 |none=>.normal
 |some e=>e
def Zyl{C:Cx}{K:List Kf}{Q:Rs->Prop}{g:Src}{ps:List Nat}{a b:av}{r:T V}{n N:Nat}{h:T O}{w:List Nat}{gv:V}{P:V->St->Prop}(hg:g.ev r=some gv)(hy:gv.Fo=false)(hc:Call C gv [.yield (N+1)] ⟨(h.set N (.defs true)).set (N+1) (.loop (Oa r n ps a b N)),N+1+1,w⟩ P)(k:∀v aB,P v aB->∃R,aB.h.get (N+1)=some (.loop R)/\R.st≠.busy/\bH C K (some (.ex (JX R.eQ) ⟨r,n,[N]⟩ (aB.write (N+1) (.loop {R with st:=.exhausted})))) Q):bH C K (eH (C.code none (.iV g ps a b) ⟨r,n,[]⟩ ⟨h,N,w⟩)) Q:=by
 obtain⟨v,aB,e,p⟩:=hc.ex
 obtain⟨R,h1,h2,h3⟩:=k v aB p
 have e2:C.code none (.iV g ps a b) ⟨r,n,[]⟩ ⟨h,N,w⟩=some (JX R.eQ,⟨r,n,[N]⟩,aB.write (N+1) (.loop {R with st:=.exhausted})):=by
  rw[Cx.dj]
  show yY g ps a b C.call C.code none ⟨r,n,[]⟩ ⟨h,N,w⟩=_
  unfold yY
  simp only[hg,hy,Ob,St.alloc]
  unfold Oa at e
  simp only[fF,if_false,e,h1,h2]
  unfold JX
  rfl
 rw[e2]
 exact h3
def Yit{C:Cx}{K:List Kf}{Q:Rs->Prop}{rs:List Df}{st:St}{e:Ex}{r:T V}{n d:Nat}{h1:T O}{n1:Nat}{w1:List Nat}(hd:h1.get d=some (.defs true))(he:∀i,e≠.exit i):bH C (.fin rs st::K) (some (.ex e ⟨r,n,[d]⟩ ⟨h1,n1,w1⟩)) Q↔bH C K (Oc (h1.set d (.defs false)) n1 (ax st.n (d::w1)++st.w) (fw r ⟨h1.set d (.defs false),n1,d::w1⟩ rs)) Q:=iL (by
 have:shut ⟨h1,n1,w1⟩ [d]=some ⟨h1.set d (.defs false),n1,d::w1⟩:=by
  unfold shut
  simp only[hd]
  rfl
 cases e with
 |exit i=>exact absurd rfl (he i)
 |normal=>
  simp only[iA,kL,qf,this]
  rcases fw r _ rs with _|_<;>rfl
 |ret=>
  simp only[iA,kL,qf,this]
  rcases fw r _ rs with _|_<;>rfl)
def Yam{C:Cx}{l:Nat}{args:List V}{st:St}{R:JW}{r0:T V}{P:V->St->Prop}(hx:C.x (.yield l) args st=none)(hl:st.h.get l=some (.loop R))(hs:R.st=.ready)(hp:BC R.r R.n R.ps args=some r0)(hc:Code C (some l) R.assign ⟨r0,R.n,[]⟩ st (fun e fr cf=>e=.normal/\cf.h.get l=some (.loop R)/\Code C (some l) R.body fr (cf.write l (.loop {R with st:=.busy})) (fun e2 _ eF=>∃R2,eF.h.get l=some (.loop R2)/\P (.bool (qg e2).isNone) (eF.write l (.loop {R2 with st:=HR (qg e2),eQ:=qg e2}))))):Call C (.yield l) args st P:=by
 obtain⟨e,fr,cf,e1,rfl,g1,hb⟩:=hc.ex
 obtain⟨e2,yZ,eF,e3,R2,g2,p⟩:=hb.ex
 refine⟨_,_,?_,p⟩
 rw[Cx.mw]
 unfold rP
 rw[hx]
 show BD C.code l args st=_
 unfold BD
 simp only[hl,hp,e1,g1,hs,if_true,e3,g2]
def gp.ux{h h':T O}{N N' B:Nat}{u v:V}{m:List (List Rat)}{e:TypeId}(s:gp h N u m)(k:dP (fun i=>i=B) h N h' N')(g:h.get B=some (.cells [.aa] e true))(he:e≠103)(h0:0<m.length)(hm:∀r∈m,0<r.length):gp h' N' u m:=by
 obtain⟨us,h1,h2,h3⟩:=s
 have hd:mr e NW h (.slice B 0 1 none 1):=fun i hi=>by
  simp[cR]at hi
  subst hi
  exact⟨_,g,by simp,fun y hy=>by simp at hy;subst hy;exact fun m=>by simp⟩
 have k':dP (fun i=>i∈cR (.slice B 0 1 none 1)) h N h' N':=k.mono fun i _ hi=>by simp[cR];exact hi
 refine⟨us,h1.bV k fun i hi hc=>?_,h2,fun j l hl=>?_⟩
 ·subst hc
  obtain⟨l,hl⟩:=bp h0
  obtain⟨x,g1,g2⟩:=h3 0 l hl
  have fj:=hm l (cm hl)
  obtain⟨j,o,c,e',oC,q1,q2,q3,q4⟩:=h1.at g1
  have hj:j=i:=by
   cases u<;>simp[wB,cR]at q1 hi
   all_goals omega
  subst hj
  rw[g]at q3
  simp only[al,O.cells.injEq]at q3
  obtain⟨rfl,_⟩:=q3
  have:x=.aa:=by
   have:=cm q4
   simpa using this
  subst this
  have hlen:=g2.1.len
  simp[oD]at hlen
  omega
 ·obtain⟨x,g1,g2⟩:=h3 j l hl
  exact⟨x,g1,g2.bV k' hd he⟩
variable {R:Nat} {m:List (List Rat)}
set_option maxHeartbeats 2000000
def A.nG:av:=sr [bi 73 .lss 72 71]
 (.seq (cd 73
 (.skip)
 (.exit 2))
 (.seq (.block 3 (sr [mv 74 72,mv 10 74]
 (.seq (.aX [mv 75 4,mv 76 10,ia 77 1 75 76,ld 78 77,ld 79 7,ia 80 4 78 79,lN 81 4 80,ge 11 (.alloc [.int .i64 0,.aa,.int .i64 0,.aa] 103),gn (.store 4 (tq 11) (tq 81))] [0,0,3,7,0,31,63,0,255])
 (sr [mv 82 10,mv 83 6,ge 84 (.bin .neq (.aM .int) false (tq 82) (tq 83)),mv 85 84,gy 86 85 (.load (some 4) (tq 11)),gy 87 85 (.call (fq 110) [tq 86]),gy 88 85 (.bin .neq (.aM .int) true (tq 87) (kq 0)),pf 89 85 88]
 (cd 89
 (sr [mv 90 4,mv 91 6,ia 92 1 90 91,ld 93 92,mv 12 93]
 (.aR [mv 94 4,mv 95 10,mv 96 4,mv 97 10,ia 98 1 96 97,ld 99 98,mv 100 12,ge 101 (.cP 133 [] [tq 11]),ge 102 (.call (fq 68) [tq 99,tq 100,tq 101]),ia 103 1 94 95,so 103 102]))
 (.skip))))))
 (.aR [bc 104 .add 72 1,mv 72 104])))
def A.qh:av:=sr [bi 27 .lss 26 25]
 (.seq (cd 27
 (.skip)
 (.exit 0))
 (.seq (.block 1 (sr [mv 28 26,ge 7 (.alloc [.int .i64 0] 3),so 7 28]
 (sr [mv 29 4,mv 30 6,ge 31 (.cQ 1 (tq 29) (some (tq 30)) none none),ge 32 (.cP 129 [] [tq 7]),c2 33 128 31 32,mv 8 33]
 (.seq (sr [mv 34 8,bc 35 .lss 34 0]
 (cd 35
 (.exit 1)
 (.skip)))
 (.seq (.aX [mv 36 4,mv 37 6,mv 38 4,mv 39 6,mv 40 8,bi 41 .add 39 40,mv 42 4,mv 43 6,mv 44 8,bi 45 .add 43 44,ia 46 1 42 45,ld 47 46,mv 48 4,mv 49 6,ia 50 1 48 49,ld 51 50,ia 52 1 36 37,so 52 47,ia 53 1 38 41,so 53 51] [0,0,0,0,0,24,0,0,0,384,960,1984,0,0,12288,28672,65475,131011,262143,524287])
 (.seq (.aX [mv 54 4,mv 55 6,ia 56 1 54 55,ld 57 56,ld 58 7,ia 59 4 57 58,lN 60 4 59,ge 9 (.alloc [.int .i64 0,.aa,.int .i64 0,.aa] 103),gn (.store 4 (tq 9) (tq 60))] [0,0,3,7,0,31,63,0,255])
 (sr [mv 61 4,mv 62 6,mv 63 4,mv 64 6,ia 65 1 63 64,ld 66 65,ge 67 (.cP 131 [] [tq 9]),c2 68 130 66 67,ia 69 1 61 62,so 69 68]
 (.seq (sr [mv 70 4,ln 71 70,mc 72 0]
 (.block 2 (.loop A.nG)))
 (sr [mv 105 5,ld 106 7,ge 107 (.aV 3 1 1 [.int .i64 0] [(0,1,(tq 106))]),ge 108 (.append 1 8 3 [.int .i64 0] (tq 105) (tq 107)),mv 5 108]
 (sr [mv 109 6,bc 110 .add 109 1,mv 6 110]
 (sr [mv 111 6,mv 112 4,ln 113 112,ge 114 (.bin .eql (.aM .int) false (tq 111) (tq 113))]
 (cd 114
 (.exit 0)
 (.skip)))))))))))))
 (.aR [bc 115 .add 26 1,mv 26 115])))
def A.b56:av:=sr [mN 2,mN 3]
 (.scope (sr [mv 13 0,ln 14 13,ge 15 (.bY 76 1 24 [.aa] (tq 14) (tq 14)),mv 4 15]
 (sr [mv 16 4,mv 17 0,ge 18 (.copy 1 (tq 16) (tq 17))]
 (sr [mN 5]
 (.seq (sr [mv 19 0,ln 20 19,ei 21 20 0]
 (cd 21
 (sr [mN 2,mN 3]
 (.ret))
 (.skip)))
 (sr [mc 6 0]
 (.seq (.skip)
 (.seq (sr [mv 22 0,ge 23 (.aU 1 (tq 22) (kq 0)),ld 24 23,ln 25 24,mc 26 0]
 (.block 0 (.loop A.qh)))
 (sr [mv 116 4,mv 117 6,ge 118 (.cQ 1 (tq 116) none (some (tq 117)) none),mv 119 5,mv 2 118,mv 3 119]
 (.ret))))))))))
def A.c56:A.F 56=some ⟨120,[.tmp 2,.tmp 3],A.b56⟩:=by kernel_rfl
def A.k56:=@A.kk 56 _ _ _ A.c56 rfl
def lH.at{h:T O}{N:Nat}(s:lH h N R m){j:Nat}{l:List Rat}(hj:m[j]?=some l):∃us u,h.get R=some (.cells us 76 true)/\us.length=m.length/\us[j]?=some u/\dZ h N u l:=by
 obtain⟨us,g1,g2,_,_,g5⟩:=s.ex
 obtain⟨u,a1,a2⟩:=g5 j l hj
 exact⟨us,u,g1,g2,a1,a2⟩
def lH.xD{h:T O}{N i:Nat}{u:V}{l:List Rat}{us:List V}(s:lH h N R m)(g:h.get R=some (.cells us 76 true))(hu:dZ h N u l)(hi:i<m.length):lH (h.set R (.cells (us.set i u) 76 true)) N R (m.set i l):=by
 obtain⟨vs,g1,_,g2⟩:=s.put hu hi
 rw[g]at g1
 simp only[al,O.cells.injEq,and_true]at g1
 subst g1
 exact g2
def Zx{c:List V}(h:c.length=4):aE c 0 4=some c:=by unfold aE;rw[h];simp;exact eZ (by omega)
def Zy{c:List V}(h:c.length=4):ad [V.int .i64 0,.aa,.int .i64 0,.aa] 0 c=c:=by unfold ad;rw[h];simp
def Ygr{α:Type}{l:List α}{i:Nat}{a:α}(h:l[i]?=some a):l.set i a=l:=by
 apply nD
 intro j
 by_cases e:j=i
 ·subst e
  rw[iI (y8.1 h).1,h]
 ·rw[ec (Ne.symm e)]
def Ysq{q:Rat}:dW q.num=0↔q=0:=by
 have h1:=@AF q
 unfold dW
 constructor
 ·intro hh
  apply h1.1
  split at hh
  ·omega
  ·split at hh<;>omega
 ·intro hh
  have:=h1.2 hh
  rw[this]
  rfl
def Yha{W0:List Nat}{N0:Nat}{H:T O}{n P:Nat}{r0:T V}{d k c K:Nat}{cp:Option Nat}(s:lH H n R m)(y_:N0<=R)(hP:H.get P=some (.cells [.int .i64 k] 3 true))(Zz:P<n)(hc:cD m c)(hk:k<c)(hd:d<m.length)(jQ:m.length<1000)(cO:c<1000)(xB:1<=K)(hK:∀i,i≠d->∀q∈m[i]?.getD [],Qb K q)(hPq:∀q∈m[d]?.getD [],Qb (2*K) q)(hKl:3*K<=400000000)(yf:ax N0 W0=[])(a4:r0.get 4=some (.slice R 0 m.length cp 1))(a6:r0.get 6=some (.int .i64 d))(a7:r0.get 7=some (.ptr P 0))(Tv:r0.get 71=some (.int .i64 m.length))(a72:r0.get 72=some (.int .i64 0)):
  Code A.C none (.loop A.nG) ⟨r0,120,[]⟩ ⟨H,n,W0⟩ (fun e fr st=>e=.exit 2/\ax N0 st.w=[]/\dP (fun i=>i=R) H n st.h st.n/\lH st.h st.n R (gg m d k m.length)/\∃r,Fx [(10,12),(72,104)] r0 120 ⟨r,120,[]⟩/\fr=⟨r,120,[]⟩):=by
 have hPR:¬P=R:=fun hc=>by
  obtain⟨us,g,_⟩:=s.ex
  rw[hc,g]at hP
  simp at hP
 rw[bq]
 refine bP [(10,12),(72,104)] (fun e r st=>e=.exit 2/\ax N0 st.w=[]/\dP (fun i=>i=R) H n st.h st.n/\lH st.h st.n R (gg m d k m.length)) (fun i r st=>ax N0 st.w=[]/\dP (fun i=>i=R) H n st.h st.n/\∃t,t<=m.length/\i=m.length-t/\r.get 72=some (.int .i64 t)/\lH st.h st.n R (gg m d k t)) (m.length) ?_ ?_ ?_
 ·exact⟨yf,dP.refl,0,by omega,by omega,a72,by rw[Zp];exact s⟩
 ·rintro i r ⟨H1,n1,W⟩ hr hf ⟨hW,k1,t,ht,rfl,JY,s1⟩
  simp only at hW k1 s1
  rw[bq]
  have HS:=(k1.get P Zz hPR).trans hP
  have JZ:=fE Zz k1.le
  by_cases ay:t<m.length
  ·have bn:(t:Int)<(m.length:Int):=by omega
   have By:(d:Int)<(m.length:Int):=by omega
   obtain⟨row,ak⟩:=bp ay
   obtain⟨lG,iK⟩:=bp hd
   have wx:=hc row (cm ak)
   have kK:=hc lG (cm iK)
   have w2:(gg m d k t)[d]?=some lG:=by rw[Zr hd];exact iK
   have w1:(gg m d k t)[t]?=some row:=by rw[Da ay,ar (by omega),ak];rfl
   obtain⟨us,u,g1,g2,g3,g4⟩:=s1.at w1
   obtain⟨us',v,Bz,_,Fj,HO⟩:=s1.at w2
   rw[g1]at Bz
   simp only[al,O.cells.injEq,and_true]at Bz
   subst Bz
   obtain⟨q,hq⟩:=bp (l:=row) (k:=k) (by omega)
   obtain⟨i1,o1,c1,e1,x1,cs,q1,q2,q3,q4,q5⟩:=g4.1.at hq
   obtain⟨z1,z2⟩:=q5.len
   have ue:=g4.1.len
   have bR:(k:Int)<(row.length:Int):=by omega
   have hk2:k<row.length:=by omega
   have hR:=s1.lt
   have hRn:¬R=n1:=by omega
   have hPn:¬P=n1:=by omega
   have oz:∀c:List V,(V.agg c).cells=c:=fun _=>rfl
   have s0:=Zx z1
   have e4:=Zy z1
   have Tw:n1<n1+1:=by omega
   have lR:R<n1+1:=by omega
   have kB:ab H1 n1 ((H1.set n1 (.cells [.int .i64 0,.aa,.int .i64 0,.aa] 103 true)).set n1 (.cells cs 103 true)) (n1+1):=(ab.refl.new _).set (aW _)
   have gN:((H1.set n1 (.cells [.int .i64 0,.aa,.int .i64 0,.aa] 103 true)).set n1 (.cells cs 103 true)).get n1=some (.cells cs 103 true):=by rw[T.ag,aF rfl]
   by_cases e:t=d
   ·subst e
    rw[<-Zq]at s1
    simp(disch:=first|(simp;done)|omega|rfl) [-V.cells, -V.one,A.nG,hr,hf,a4,a6,a7,Tv,JY,bn,g1,g3,hR,q1,q2,q3,q4,ue,HS,JZ,bO,oz,z1,z2,e4,Tw,hW]
    have yi:=k1.le
    refine⟨m.length-(t+1),by omega,by omega,(k1.new _).set (.inr yi),t+1,by omega,rfl,by simp,s1.ae kB⟩
   ·have e':¬(t:Int)=(d:Int):=by omega
    simp[-V.cells, -V.one,A.nG,hr,a4,a6,a7,Tv,JY,bn,g1,g3,hR,q1,q2,q3,q4,ue,bR,HS,JZ,bO,oz,z1,z2,s0,e4,Tw,e']
    have sB:=s1.ae kB
    have gR:=(kB.get R hR).trans g1
    have qB:=q5.ae kB
    have rB:=g4.ae kB
    have pB:=HO.ae kB
    have kU:dP (fun i=>i=R) H n ((H1.set n1 (.cells [.int .i64 0,.aa,.int .i64 0,.aa] 103 true)).set n1 (.cells cs 103 true)) (n1+1):=(k1.new _).set (.inr k1.le)
    generalize (H1.set n1 (.cells [.int .i64 0,.aa,.int .i64 0,.aa] 103 true)).set n1 (.cells cs 103 true)=G at*
    refine aA (Ty qB.fc) ?_
    rintro _ H2 n2 k2 rfl
    have kI:=k2.le
    have J0:¬n1<N0:=by have:=s.lt;have:=k1.le;omega
    have rN:=(k2.get R (by omega)).trans gR
    have HT:=(k2.get n1 (by omega)).trans gN
    have BA:R<n2:=by omega
    have ZA:n1<n2:=by omega
    have Tz:=@AF q
    have hz:(dW q.num=0)↔q=0:=Ysq
    by_cases c0:q=0
    ·have uj:=hz.2 c0
     simp(disch:=first|(simp;done)|omega|rfl) [hf,JY,uj,J0,hW]
     refine⟨m.length-(t+1),by omega,kU.trans k2.upd,t+1,by omega,rfl,by simp,?_⟩
     rw[Tk ay e,ak,iK]
     simp only[rM]
     rw[Ybf (by rw[hq];exact c0),Ygr w1]
     exact sB.ae k2
    ·have uj:¬dW q.num=0:=fun hc=>c0 (hz.1 hc)
     simp[hr,a4,a6,uj,rN,g3,Fj,bn,By]
     have xA:∀q∈row,Qb K q:=by have:=hK t e;rw[ak]at this;exact this
     have tF:∀q∈lG,Qb (2*K) q:=by have:=hPq;rw[iK]at this;exact this
     have iJ:=xA q (cm hq)
     refine aA (ZB (fun x y=>x-q*y) (rB.1.ae k2) (pB.1.ae k2) (by omega) (fun x hx y hy h' n' ca cb k' ha hb=>Yri (i:=K) (j:=2*K) (k:=K) ((k'.get n1 ZA).trans HT) (fE ZA k'.le) ha hb ((qB.ae k2).ae k') (xA x hx) (tF y hy) iJ (by omega) (by omega) (by omega) (by omega) (by omega)) (by omega)) ?_
     rintro v3 H3 n3 k3 t3
     have yV:=k3.le
     have s3:=(sB.ae k2).ae k3
     have HO:=(k3.get R BA).trans rN
     have AB:t<us.length:=by rw[g2,Ax];exact ay
     have uo:t+1<=us.length:=AB
     have iT:(t:Int)<(us.length:Int):=by omega
     have iU:∀u,ad us t [u]=us.set t u:=fun u=>Bw AB
     have Tu:R<n3:=by omega
     obtain⟨_,Tj,TA⟩:=t3.Dh
     simp(disch:=first|(simp;done)|omega|rfl) [-V.cells, -V.one,bO,TA,Tj,iU,uo,HO,hf,JY]
     have ed:me (fun x y=>x-q*y) row lG row.length=oS row lG k:=by unfold oS;rw[hq];rfl
     rw[ed]at t3
     have sp:=s3.xD HO t3 (i:=t) (by rw[Ax];exact ay)
     refine⟨m.length-(t+1),by omega,by rw[ar (by omega),ar J0];exact hW,((kU.trans k2.upd).trans k3.upd).set (.inl rfl),t+1,by omega,rfl,by simp,?_⟩
     rw[Tk ay e,ak,iK]
     exact sp
  ·obtain rfl:t=m.length:=by omega
   simp[A.nG,hr,hf,Tv,JY,k1,hW]
   exact s1
 ·rintro _ r st hr ⟨rfl,hw,k1,s1⟩
  simp[]
  exact⟨hw,k1,s1,hr,rfl,rfl⟩
variable {N R:Nat} {h:T O} {m:List (List Rat)}
set_option maxHeartbeats 4000000
def ZC{m:List (List Rat)}{k d:Nat}:∀{n j:Nat},(nH (fun i=>decide (((m.drop d)[i]?.getD [])[k]?.getD 0≠0)) j n= -1/\nE m k (d+j) n=d+j+n)\/∃a:Nat,nH (fun i=>decide (((m.drop d)[i]?.getD [])[k]?.getD 0≠0)) j n=a/\nE m k (d+j) n=d+a/\a<j+n
 |0,j=>.inl ⟨rfl,rfl⟩
 |n+1,j=>by
  unfold nH nE
  simp only[fh]
  by_cases e:(m[d+j]?.getD [])[k]?.getD 0≠0
  ·rw[aF e]
   exact .inr ⟨j,by simp[e],rfl,by omega⟩
  ·rw[ar e]
   simp only[e,decide_false,fF,if_false]
   have ih:=@ZC m k d n (j+1)
   simp only[fh]at ih
   rcases ih with⟨h1,h2⟩|⟨a,h1,h2,h3⟩
   ·exact .inl ⟨h1,by rw[show d+j+1=d+(j+1) by omega,h2];omega⟩
   ·exact .inr ⟨a,h1,by rw[show d+j+1=d+(j+1) by omega,h2],by omega⟩
def za(ps:List Nat):List Int:=ps.map fun p:Nat=>(p:Int)
def lH.bV{h':T O}{N':Nat}{v:V}{e:TypeId}(s:lH h N R m)(k:dP (fun i=>i∈cR v) h N h' N')(hd:mr e NW h v)(he:e≠103)(uy:e≠76):lH h' N' R m:=by
 obtain⟨us,g1,g2,g3,g4,g5⟩:=s.ex
 refine⟨fE s.lt k.le,us,(k.get R s.lt fun hc=>?_).trans g1,g2,g3,g4,fun j l hl=>?_⟩
 ·obtain⟨z,hz,_⟩:=hd R hc
  rw[g1]at hz
  simp at hz
  exact uy hz.2.symm
 ·obtain⟨u,a1,a2⟩:=g5 j l hl
  exact⟨u,a1,a2.bV k hd he⟩
def Zys{W0:List Nat}{N0:Nat}{H:T O}{n:Nat}{r0:T V}{c:Nat}{B:Nat->Nat}(s:lH H n R m)(y_:N0<=R)(hc:cD m c)(jQ:m.length<1000)(fV:0<m.length)(cO:c<1000)(xB:∀n,1<=B n)(hK:∀k,cX (bf m k).1 (B (bf m k).2.1))(hB:∀n,n<m.length->n<c->3*B n<=400000000)(kH:ab h N0 H n)(yf:ax N0 W0=[])(a4:r0.get 4=some (.slice R 0 m.length (some m.length) 1))(a5:r0.get 5=some .aa)(a6:r0.get 6=some (.int .i64 0))(a25:r0.get 25=some (.int .i64 c))(a26:r0.get 26=some (.int .i64 0)):
  Code A.C none (.loop A.qh) ⟨r0,120,[]⟩ ⟨H,n,W0⟩ (fun e fr st=>e=.exit 0/\ax N0 st.w=[]/\ab h N0 st.h st.n/\lH st.h st.n R (bf m c).1/\∃r v,Fx [(5,12),(26,115)] r0 120 ⟨r,120,[]⟩/\fr=⟨r,120,[]⟩/\r.get 6=some (.int .i64 (bf m c).2.1)/\r.get 5=some v/\qe N0 st.h st.n v (za (bf m c).2.2)):=by
 rw[bq]
 refine bP [(5,12),(26,115)] (fun e r st=>e=.exit 0/\ax N0 st.w=[]/\ab h N0 st.h st.n/\lH st.h st.n R (bf m c).1/\∃v,r.get 6=some (.int .i64 (bf m c).2.1)/\r.get 5=some v/\qe N0 st.h st.n v (za (bf m c).2.2)) (fun i r st=>ax N0 st.w=[]/\ab h N0 st.h st.n/\∃k v,k<=c/\i=c-k/\r.get 26=some (.int .i64 k)/\r.get 6=some (.int .i64 (bf m k).2.1)/\r.get 5=some v/\qe N0 st.h st.n v (za (bf m k).2.2)/\(bf m k).2.1<m.length/\lH st.h st.n R (bf m k).1) c ?_ ?_ ?_
 ·exact⟨yf,kH,0,_,by omega,by omega,a26,a6,a5,qe.nil,fV,s⟩
 ·rintro i r ⟨H1,n1,W⟩ hr hf ⟨hW,k1,k,pv,hk,rfl,Od,h6,h5,hO,yW,s1⟩
  simp only at hW k1 s1 hO
  rw[bq]
  have hlen:(bf m k).1.length=m.length:=AD
  obtain⟨HP,iz⟩:=@tG m c hc k
  by_cases ay:k<c
  ·have bn:(k:Int)<(c:Int):=by omega
   obtain⟨us,g1,g2,g3,g4,g5⟩:=id s1.ex
   have hR:=s1.lt
   have hRn:¬R=n1:=by omega
   have kA:ab H1 n1 ((H1.set n1 (.cells [.int .i64 0] 3 true)).set n1 (.cells [.int .i64 k] 3 true)) (n1+1):=(ab.refl.new _).set (aW _)
   have gP:((H1.set n1 (.cells [.int .i64 0] 3 true)).set n1 (.cells [.int .i64 k] 3 true)).get n1=some (.cells [.int .i64 k] 3 true):=by rw[T.ag,aF rfl]
   have sA:=s1.ae kA
   have gA:=(kA.get R hR).trans g1
   have oA:=hO.ae kA
   have kU:=k1.trans kA
   simp[A.qh,hr,a4,h6,a25,Od,bn,bO,ad]
   generalize (H1.set n1 (.cells [.int .i64 0] 3 true)).set n1 (.cells [.int .i64 k] 3 true)=G at*
   have hs:Sl G (n1+1) (.slice R 0 m.length (some m.length) 1) us:=Sl.row (by omega) gA (by omega) fun k hk=>by simp at hk;omega
   obtain⟨sv,e1,e2⟩:=Dj (w:=n1::W) hs (lo:=(bf m k).2.1) (hi:=us.length) (by omega) (aW _) (some (.int .i64 (bf m k).2.1)) none (.inl rfl) (.inr ⟨rfl,rfl⟩)
   rw[eZ (aW _)]at e2
   simp[AG,e1]
   have BE:eG (bf m k).1 (bf m k).2.1 k=m.length->bf m (k+1)=bf m k:=fun hp=>by
    rw[wz]
    unfold iR
    rw[ar (by omega)]
   have iB:eG (bf m k).1 (bf m k).2.1 k<m.length->bf m (k+1)=(gg (g_ (eE (bf m k).1 (bf m k).2.1 (eG (bf m k).1 (bf m k).2.1 k)) (bf m k).2.1 k) (bf m k).2.1 k (bf m k).1.length,(bf m k).2.1+1,(bf m k).2.2++[k]):=fun hp=>by
    rw[wz]
    unfold iR
    rw[aF (by omega)]
   have ZD:=@Tm m k
   have ZE:=@Zu m k
   have Tr:cX (bf m k).1 (B (bf m k).2.1):=hK _
   have TC:=@NX m (k+1)
   generalize hd:(bf m k).2.1=d at*
   generalize mq:(bf m k).1=m1 at*
   generalize tI:(bf m k).2.2=ps at*
   have HS:n1<n1+1:=by omega
   have TD:(us.drop d).length=m1.length-d:=by rw[xE,g2]
   refine aA (Yn0 (us.drop d) (fun i:Nat=>decide (((m1.drop d)[i]?.getD [])[k]?.getD 0≠0)) e2 (by omega) fun j x hx h' n' gw=>?_) ?_
   ·have lI:us[d+j]?=some x:=by rw[<-fh];exact hx
    obtain⟨row,ak⟩:=bp (l:=m1) (k:=d+j) (by have:=j_ lI;omega)
    obtain⟨y,b1,b2⟩:=g5 _ _ ak
    rw[lI]at b1
    simp only[al]at b1
    subst b1
    have:=Yrk (k:=k) ((gw.get n1 HS).trans gP) (fE HS gw.le) ((b2.ae kA).ae gw).1 (by rw[HP row (cm ak)];exact ay)
    simp only[fh,ak,rM]
    exact this
   rintro _ H2 n2 k2 rfl
   rw[TD]
   have kI:=k2.le
   have Oe:=(k2.get n1 HS).trans gP
   have s2:=sA.ae k2
   have o2:=oA.ae k2
   have rN:=(k2.get R (by omega)).trans gA
   have TE:=kU.trans k2
   have J0:¬n1<N0:=by have:=k1.le;omega
   have BA:R<n2:=by omega
   rcases @ZC m1 k d (m1.length-d) 0 with⟨f1,f2⟩|⟨a,f1,f2,f3⟩
   ·rw[f1]
    have AE:eG m1 d k=m.length:=by unfold eG;have:=f2;rw[ka]at this;omega
    simp(disch:=first|(simp;done)|omega|rfl) [hf,h5,h6,Od,J0,hW]
    refine⟨c-(k+1),by omega,TE,k+1,by omega,rfl,by simp,?_,?_⟩
    ·rw[BE AE];simp[hd]
    ·rw[BE AE,mq,tI,hd]
     exact⟨o2,yW,s2⟩
   ·rw[f1]
    rw[ka]at f2
    obtain⟨p,hp⟩:∃p,p=d+a:=⟨_,rfl⟩
    have su:eG m1 d k=p:=by unfold eG;omega
    have hda:(d:Int)+(a:Int)=(p:Int):=by omega
    have kK:p<m1.length:=by omega
    have eX:d<m1.length:=by omega
    obtain⟨rd,yg⟩:=bp eX
    obtain⟨rp,xC⟩:=bp kK
    obtain⟨ud,x3,x4⟩:=g5 _ _ yg
    obtain⟨up,y3,y4⟩:=g5 _ _ xC
    have JQ:d<us.length:=by omega
    have JR:p<us.length:=by omega
    have By:(d:Int)<(m.length:Int):=by omega
    have Dc:(p:Int)<(m.length:Int):=by omega
    have TF:d<m.length:=by omega
    have hpm:p<m.length:=by omega
    have TG:¬(a:Int)<0:=by omega
    have z1:∀u,ad us d [u]=us.set d u:=fun u=>Bw JQ
    have z2:∀u,ad (us.set d up) p [u]=(us.set d up).set p u:=fun u=>Bw (by simp;exact JR)
    obtain⟨_,c1,o1⟩:=x4.Dh
    obtain⟨_,c2,Of⟩:=y4.Dh
    have l1:d+1<=us.length:=JQ
    have l2:p+1<=us.length:=JR
    simp(disch:=first|(simp;done)|omega|rfl) [-getElem?_pos, -V.cells, -V.one,hr,a4,h6,hda,TG,rN,x3,y3,BA,bO,c1,o1,c2,Of,z1,z2,l1,l2]
    have U2:dP (fun i=>i=R) H2 n2 ((H2.set R (.cells (us.set d up) 76 true)).set R (.cells ((us.set d up).set p ud) 76 true)) n2:=⟨aW _,fun i _ hi=>by rw[T.ag,ar hi,T.ag,ar hi]⟩
    have Fp:(H2.set R (.cells (us.set d up) 76 true)).get R=some (.cells (us.set d up) 76 true):=by rw[T.ag,aF rfl]
    have Fq:=(x4.ae kA).ae k2
    have TH:=(y4.ae kA).ae k2
    have sA1:=s2.xD rN TH eX
    have sB:=sA1.xD Fp (Fq.sG rN (by decide) g3 (by simp)) (i:=p) (by rw[yh];exact kK)
    have gB:((H2.set R (.cells (us.set d up) 76 true)).set R (.cells ((us.set d up).set p ud) 76 true)).get R=some (.cells ((us.set d up).set p ud) 76 true):=by rw[T.ag,aF rfl]
    have Bu:(m1.set d rp).set p rd=eE m1 d p:=by unfold eE;rw[yg,xC];rfl
    rw[Bu]at sB
    have AB:((us.set d up).set p ud).length=m1.length:=by simp only[yh];omega
    generalize (H2.set R (.cells (us.set d up) 76 true)).set R (.cells ((us.set d up).set p ud) 76 true)=G2 at*
    generalize (us.set d up).set p ud=vs at*
    have gPB:=(U2.get n1 (by omega) (by omega)).trans Oe
    have oB:=o2.uw rN (fun z hz=>by simp at hz) U2
    have yX:=Tr.Bs (d:=d) (p:=p)
    have JS:=HP.Bs eX kK
    have Ts:(eE m1 d p).length=m1.length:=t_
    have bB:=@JJ m1 k (m1.length-d) d (by unfold eG at su;omega)
    have ak:(eE m1 d p)[d]?=some rp:=by
     rw[<-Bu]
     by_cases e:p=d
     ·rw[e,yg]at xC
      simp only[al]at xC
      rw[e,xC,iI (by simp;omega)]
     ·rw[ec e,iI eX]
    have uv:rp[k]?.getD 0≠0:=by
     have h9:=su
     unfold eG at h9
     rw[h9,xC]at bB
     exact bB
    obtain⟨j9,vd,b1,b2,b3,b4⟩:=sB.at ak
    rw[gB]at b1
    simp only[al,O.cells.injEq,and_true]at b1
    subst b1
    have Tt:=JS rp (cm ak)
    obtain⟨q,hq⟩:=bp (l:=rp) (k:=k) (by omega)
    have xA:=yX rp (cm ak)
    have iJ:=xA q (cm hq)
    have rO:q≠0:=by rw[hq]at uv;exact uv
    have hkq:=hB d TF (by omega)
    obtain⟨i1,t1,w1,e3,v1,cs,q1,q2,q3,q4,q5⟩:=b4.1.at hq
    obtain⟨r1,r2⟩:=q5.len
    have nF:=b4.1.len
    have bR:(k:Int)<(rp.length:Int):=by omega
    have hk2:k<rp.length:=by omega
    have oz:∀c:List V,(V.agg c).cells=c:=fun _=>rfl
    have s0:=Zx r1
    have e4:=Zy r1
    have HU:n2<n2+1:=by omega
    have TI:¬R=n2:=by omega
    have lP2:n1<n2:=by omega
    have zal:¬n1=n2:=by omega
    simp(disch:=first|(simp;done)|omega|rfl) [-getElem?_pos, -V.cells, -V.one,hr,a4,h6,b3,gB,gPB,lP2,BA,q1,q2,q3,q4,nF,bO,oz,r1,r2,e4,HU,TI]
    have kC:ab G2 n2 ((G2.set n2 (.cells [.int .i64 0,.aa,.int .i64 0,.aa] 103 true)).set n2 (.cells cs 103 true)) (n2+1):=(ab.refl.new _).set (aW _)
    have gQ:((G2.set n2 (.cells [.int .i64 0,.aa,.int .i64 0,.aa] 103 true)).set n2 (.cells cs 103 true)).get n2=some (.cells cs 103 true):=by rw[T.ag,aF rfl]
    generalize (G2.set n2 (.cells [.int .i64 0,.aa,.int .i64 0,.aa] 103 true)).set n2 (.cells cs 103 true)=G3 at*
    refine aA (Ynk (fun x=>x/q) (b4.ae kC).1 (by omega) fun x hx c' h' n' k' oZ=>Yrj (j:=B d) (k:=B d) ((k'.get n2 HU).trans gQ) (fE HU k'.le) oZ ((q5.ae kC).ae k') rO (xA x hx) iJ (by omega) (by omega)) ?_
    rintro v3 H3 n3 k3 t3
    have yV:=k3.le
    have ZF:=(k3.get R (by omega)).trans ((kC.get R BA).trans gB)
    have sC:=((sB.ae kC).ae k3).xD ZF t3 (i:=d) (by rw[Ts];exact eX)
    have Ay:(eE m1 d p).set d (rp.map fun x=>x/q)=g_ (eE m1 d p) d k:=by
     unfold g_
     rw[ak]
     simp only[rM,hq]
    rw[Ay]at sC
    have HQ:(g_ (eE m1 d p) d k).length=m.length:=by rw[Fa,t_];exact hlen
    have wA:d<vs.length:=by omega
    have Fm:d+1<=vs.length:=wA
    have z3:∀u,ad vs d [u]=vs.set d u:=fun u=>Bw wA
    have Tu:R<n3:=by omega
    have lRp:R<n2+1:=by omega
    obtain⟨_,c3,o3⟩:=t3.Dh
    simp(disch:=first|(simp;done)|omega|rfl) [-V.cells, -V.one,hr,a4,ZF,bO,c3,o3,z3,Fm]
    have U3:dP (fun i=>i=R) H2 n2 (H3.set R (.cells (vs.set d v3) 76 true)) n3:=((U2.trans kC.upd).trans k3.upd).set (.inl rfl)
    have ZG:=(U3.get n1 (by omega) (by omega)).trans Oe
    have gRC:(H3.set R (.cells (vs.set d v3) 76 true)).get R=some (.cells (vs.set d v3) 76 true):=by rw[T.ag,aF rfl]
    generalize H3.set R (.cells (vs.set d v3) 76 true)=G4 at*
    refine jZ (Yha (cp:=some m.length) (N0:=N0) (P:=n1) (d:=d) (K:=B d) sC y_ ZG (by omega) (JS.JH (by omega)) ay (by omega) (by omega) (by omega) (xB _) (fun i hi=>by
     unfold g_
     rw[ec (Ne.symm hi)]
     exact yX.at) (by
     unfold g_
     rw[iI (by omega)]
     exact Td yX (xB _) (by rw[ak];exact uv)) (by omega) (by simp[sH.2 y_,J0,hW,show ¬n2<N0 by omega]) (by simp[hr,a4,HQ]) (by simp[h6]) (by simp) (by simp[HQ]) (by simp)) ?_
    rintro _ _ ⟨H4,n4,W4⟩ ⟨rfl,JT,U4,s4,r4,f4,rfl⟩
    simp only at JT U4 s4
    have oX:=f4.aR
    have Dd:=hf.inner (D':=[(10,12),(72,104)]) (by decide) (fun hx=>by simpa[Fx.set]using hx) oX
    have HV:=U4.le
    have gP4:=(U4.get n1 (by omega) (by omega)).trans ZG
    have o4:=(o2.uw rN (fun z hz=>by simp at hz) U3).uw gRC (fun z hz=>by simp at hz) U4
    have lP4:n1<n4:=by omega
    have pq:ad [V.int .i64 0] 0 [V.int .i64 k]=[V.int .i64 k]:=rfl
    simp[oX,h5,gP4,pq]
    have kD:ab H4 n4 (H4.set n4 (.cells [.int .i64 k] 3 true)) (n4+1):=ab.refl.new _
    obtain⟨v',h',w',j1,j2,j3,j4,j5,j6⟩:=qe.push (B:=N0) (x:=.slice n4 0 1 (some 1) 1) (k:=k) (w:=W4) (o4.ae kD) (aW _) (by omega) JT (by simp[eD,St.row,aE]) (by simp[za];omega)
    have s5:=(s4.ae kD).bV j3 j4 (by decide) (by decide)
    have kF:ab h N0 h' (n4+1+1):=⟨by have:=TE.le;omega,fun i hi=>by
     rw[j3.get i (by omega) (fun hc=>by have:=j5 i hc;omega),T.ag,ar (by omega),U4.get i (by omega) (by omega),U3.get i (by omega) (by omega)]
     exact TE.get i hi⟩
    have dH:=iB (by omega)
    rw[su]at dH
    rw[HQ,<-hlen]at s5
    have Og:za (ps++[k])=za ps++[(k:Int)]:=by simp[za]
    by_cases hE:d+1=m.length
    ·have TJ:(d:Int)+1=(m.length:Int):=by omega
     have hcf:bf m c=bf m (k+1):=by
      have:=TC (n:=c-(k+1)) (by rw[dH];exact hE)
      rw[<-this,show k+1+(c-(k+1))=c by omega]
     simp(disch:=first|(simp;done)|omega|rfl) [j1,oX,Dd,hr,a4,h6,TJ,j2,kF]
     rw[hcf,dH,Og]
     exact⟨s5,hE.symm,j6⟩
    ·have TJ:¬(d:Int)+1=(m.length:Int):=by omega
     simp(disch:=first|(simp;done)|omega|rfl) [j1,oX,Dd,hr,a4,h6,Od,TJ,j2,kF]
     refine⟨c-(k+1),by omega,k+1,by omega,rfl,by simp,?_⟩
     rw[dH,Og]
     exact⟨by simp,j6,by show d+1<m.length;omega,s5⟩
  ·obtain rfl:k=c:=by omega
   simp[A.qh,hr,hf,h5,h6,a25,Od,k1,hW]
   exact⟨s1,hO⟩
 ·rintro _ r st hr ⟨rfl,hw,k1,s1,v,h6,h5,hO⟩
  simp[]
  exact⟨hw,k1,s1,r,⟨hr,rfl,rfl⟩,rfl,h6,v,h5,hO⟩
def lH.HW{d:Nat}{v:V}{us:List V}(s:lH h N R m)(g:h.get R=some (.cells us 76 true))(hv:Sl h N v (us.take d))(hd:d<=m.length):gp h N v (m.take d):=by
 obtain⟨vs,g1,g2,_,_,g3⟩:=s.ex
 rw[g]at g1
 simp only[al,O.cells.injEq,and_true]at g1
 subst g1
 refine⟨us.take d,hv,by simp[g2],fun j l hl=>?_⟩
 by_cases hj:j<d
 ·rw[iy,aF hj]at hl ⊢
  exact g3 j l hl
 ·rw[iy,ar hj]at hl
  cases hl
def Yae{u:V}{c:Nat}{B:Nat->Nat}(hu:gp h N u m)(hc:cD m c)(jQ:m.length<1000)(fV:0<m.length)(cO:c<1000)(xB:∀n,1<=B n)(hK:∀k,cX (bf m k).1 (B (bf m k).2.1))(hB:∀n,n<m.length->n<c->3*B n<=400000000):Fn A.C 56 [u] h N (fun x h' n'=>∃a b,x=.bg [a,b]/\gp h' n' a (qd m c)/\qe N h' n' b (za (bf m c).2.2)):=by
 intro w
 have lu:=hu.len
 obtain⟨us,h1,h2,h3⟩:=hu
 have fH:=h1
 rcases h1 with⟨hn,_⟩|⟨i,o,cp,c',e,oC,rfl,q2,q3,q4,q5,q6⟩
 ·rw[hn]at h2
  simp at h2
  omega
 have bB:¬i=N:=by omega
 have Dk:(h.set N (.cells (dr [.aa] m.length) 76 true)).get i=some (.cells c' e oC):=by rw[T.ag,ar bB];exact q3
 have gz:(h.set N (.cells (dr [.aa] m.length) 76 true)).get N=some (.cells (dr [.aa] m.length) 76 true):=by simp
 have lJ:=Zg (N:=N+1) (w:=[]) (cp:=cp) Dk q4 q5
 rw[h2]at lJ
 have cpy:=Yaj (cp:=some m.length) fV lJ h2 gz (by rw[TK];simp)
 have kB:ab h N ((h.set N (.cells (dr [.aa] m.length) 76 true)).set N (.cells us 76 true)) (N+1):=(ab.refl.new _).set (aW _)
 have gN:((h.set N (.cells (dr [.aa] m.length) 76 true)).set N (.cells us 76 true)).get N=some (.cells us 76 true):=by rw[T.ag,aF rfl]
 have sR:lH ((h.set N (.cells (dr [.aa] m.length) 76 true)).set N (.cells us 76 true)) (N+1) N m:=⟨by omega,us,gN,h2,?nu,?one,fun j l hl=>by
  obtain⟨x,a1,a2⟩:=h3 j l hl
  exact⟨x,a1,a2.ae kB⟩⟩
 case nu=>
  intro x hx
  obtain⟨j,hj⟩:=zb hx
  obtain⟨l,hl⟩:=bp (l:=m) (k:=j) (by have:=j_ hj;omega)
  obtain⟨y,a1,a2⟩:=h3 j l hl
  rw[hj]at a1
  simp only[al]at a1
  subst a1
  exact a2.Dh.1
 case one=>
  rw[lA]
  intro x hx
  obtain⟨j,hj⟩:=zb hx
  obtain⟨l,hl⟩:=bp (l:=m) (k:=j) (by have:=j_ hj;omega)
  obtain⟨y,a1,a2⟩:=h3 j l hl
  rw[hj]at a1
  simp only[al]at a1
  subst a1
  exact a2.Dh.2.1
 rw[h2]at fH
 obtain⟨l0,fj⟩:=bp fV
 obtain⟨x0,b1,b2⟩:=h3 0 l0 fj
 obtain⟨i2,o2,Zi,e2,HN,p1,p2,p3,p4⟩:=(fH.ae kB).at b1
 rw[ka]at p4
 have b3:=b2.1.len
 rw[hc l0 (cm fj)]at b3
 have TL:¬m=[]:=fun hc=>by rw[hc]at fV;simp at fV
 have Fl:¬(m.length:Int)=0:=by omega
 have ZH:(0:Int)<(m.length:Int):=by omega
 have Oh:(24:Int)*(m.length:Int)<=140737488355328:=by omega
 have cc3:(m.length:Int)<4611686018427387904:=by omega
 rw[h2]at lu
 rw[aO,A.k56 (by simp)]
 simp[A.b56,h2,fV,Oh,cc3,cpy,TL,p1,p3,p4,b3]
 generalize (h.set N (.cells (dr [.aa] m.length) 76 true)).set N (.cells us 76 true)=G at*
 refine jZ (Zys (N0:=N) (h:=h) sR (aW _) hc jQ fV cO xB hK hB kB (by simp) (by simp) (by simp) (by simp) (by simp) (by simp)) ?_
 rintro _ _ ⟨H4,n4,W4⟩ ⟨rfl,hw,k4,s4,r4,pv,f4,rfl,x6,x5,oI⟩
 simp only at hw k4 s4 oI
 have oX:=f4.aR
 obtain⟨vs,g1,g2,_⟩:=id s4.ex
 have hl4:(bf m c).1.length=m.length:=AD
 have iz:=(@tG m c hc c).2
 have hs:Sl H4 n4 (.slice N 0 m.length (some m.length) 1) vs:=Sl.row s4.lt g1 (by omega) fun k hk=>by simp at hk;omega
 obtain⟨v',e1,e2⟩:=Dj (w:=W4) hs (lo:=0) (hi:=(bf m c).2.1) (by omega) (by omega) none (some (.int .i64 (bf m c).2.1)) (.inr ⟨rfl,rfl⟩) (.inl rfl)
 rw[yk]at e2
 simp[AG,oX,x6,x5,e1,az,hw]
 exact⟨k4,v',pv,⟨rfl,rfl⟩,s4.HW g1 e2 (by omega),oI⟩
def A.b107:av:=sr [bx 1 72 0,ge 2 (.ba (.const .bs))]
 (sr [ge 3 (.cP 165 [] [tq 1]),mv 2 3]
 (.ret))
def A.c107:A.F 107=some ⟨4,[.tmp 2],A.b107⟩:=by kernel_rfl
def A.k107:=@A.kk 107 _ _ _ A.c107 rfl
def Yje{h:T O}{N:Nat}{u:V}(h1:V.one u=true)(h2:V.cells u=[u]):Fn A.C 107 [u] h N (fun x h' n'=>∃e,x=.func 165 [] [.ptr N 0]/\N<n'/\h'.get N=some (.cells [u] e true)):=by
 intro w
 have kB:∀e,ab h N (h.set N (.cells [u] e true)) (N+1):=fun e=>ab.refl.new _
 rw[aO,A.k107 (by simp)]
 simp[-V.cells, -V.one,A.b107,h1,h2,az]
 exact kB _
set_option maxHeartbeats 2000000
def DU(N B i:Nat):Prop:=i=N+1\/i=B\/N+2<=i
structure Pk where
 act:Int
 am:aQ
 sl:List aQ
def J1(p:Pk)(u:V):List V:=[.int .i64 p.act,.str p.am,u]
def J3(h:T O)(N:Nat)(v:V)(l:List Pk):Prop:=∃cs:List (List V),Sn 3 h N v cs/\cs.length=l.length/\∀(j:Nat) (p:Pk),l[j]?=some p->∃u,cs[j]?=some (J1 p u)/\Sl h N u (strs p.sl)
def J3.ae{h h':T O}{N N':Nat}{v:V}{l:List Pk}(s:J3 h N v l)(k:ab h N h' N'):J3 h' N' v l:=by
 obtain⟨cs,h1,h2,h3⟩:=s
 refine⟨cs,h1.ae k,h2,fun j p hp=>?_⟩
 obtain⟨u,g1,g2⟩:=h3 j p hp
 exact⟨u,g1,g2.ae k⟩
def TM{x c:List V}{k n j:Nat}(h:aE x k n=some c)(hj:j<n):x[k+j]?=c[j]?:=by
 obtain⟨h1,rfl⟩:=J4 h
 rw[iy,aF hj,fh]
def J3.at{h:T O}{N:Nat}{v:V}{l:List Pk}(s:J3 h N v l){j:Nat}{p:Pk}(hj:l[j]?=some p):∃i o x e rw u,wB v=some (i,o)/\i<N/\h.get i=some (.cells x e rw)/\aE x (o+j*3) 3=some (J1 p u)/\x[o+j*3]?=some (.int .i64 p.act)/\x[o+j*3+1]?=some (.str p.am)/\x[o+j*3+2]?=some u/\Sl h N u (strs p.sl):=by
 obtain⟨cs,h1,h2,h3⟩:=s
 obtain⟨u,g1,g2⟩:=h3 j p hj
 obtain⟨i,o,x,e,rw,q1,q2,q3,q4⟩:=h1.at g1
 exact⟨i,o,x,e,rw,u,q1,q2,q3,q4,by have:=TM q4 (j:=0) (by decide);simpa[J1]using this,by have:=TM q4 (j:=1) (by decide);simpa[J1]using this,by have:=TM q4 (j:=2) (by decide);simpa[J1]using this,g2⟩
section
variable {h:T O} {N P B:Nat} {p:Pk} {u:V} {e eB:TypeId} {rw rwB:Bool} {z:Int}
end
set_option maxHeartbeats 4000000
end Go.Mx
