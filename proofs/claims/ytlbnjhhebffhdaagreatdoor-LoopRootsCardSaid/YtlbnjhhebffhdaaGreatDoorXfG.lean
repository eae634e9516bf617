/-lensletlaw06-/
import Derived.Test.YtlbnjhhebffhdaaGreatDoorXfC
set_option linter.all false
set_option maxHeartbeats 8000000
namespace Go.Mx
open Go Go.Proofs
variable {H:T O} {M N i j l:Nat} {W:List Nat} {a b sq:Rat} {r:T V} {rs:List Int} {u v v2:V}
set_option maxRecDepth 1000000
structure RtT (p:List Rat) (i j:Nat) (rs:List Int) (sq:Rat):Prop where
 R:RtI p i j rs sq
 i3:i<=3
 j2:j<=2
 l1:1<=i+2*j
 ei:i=rs.length
 b:∀n∈rs,n.natAbs<=128
def RtT.sm{p:List Rat}(L:RtT p i j rs sq):Sm p (i+2*j):=L.R.sm L.i3 L.j2
def RtT.d7{p:List Rat}(L:RtT p i j rs sq):i+2*j<=7:=by have:=L.i3;have:=L.j2;omega
def RtT.ev{p:List Rat}(L:RtT p i j rs sq):∀n∈rs,Ytf p (f64 n)=0:=fun n hn=>by
 refine L.R.ev n ?_
 rw[L.ei,At]
 exact hn
def Xig(h:l<=512):Qb 20 ((l:Rat)*(1/100)):=by
 have h1:Qb 10 ((l:Nat):Rat):=BM (by have:(2:Nat)^10=1024:=(by decide);omega) (by decide)
 have h2:Qb 7 ((1:Rat)/100):=⟨by decide+kernel,by decide+kernel⟩
 exact(h1.mul h2).mono (by decide)
def Xho{l:Nat}:((l+1:Nat):Rat)*(1/100)=(l:Rat)*(1/100)+1/100:=by
 rw[Rat.natCast_add,show ((1:Nat):Rat)=1 from rfl]
 grind
def Xgc(a0:0<=a)(b0:0<=b)(h1:a*a<=sq)(h2:sq<b*b):a<=b:=by
 apply Rat.not_lt.1
 intro hc
 have:=Rat.mul_nonneg (show (0:Rat)<=a-b by grind) (show (0:Rat)<=a+b by grind)
 grind
def Xif{l:Nat}:(0:Rat)<=(l:Rat)*(1/100):=by
 have:=@S4 l
 grind
def Xin{C:Nat}{p:List Rat}(L:RtT p i j rs sq)(qa:Qb 20 a)(qb:Qb 20 b)(a0:0<=a)(b0:0<=b)(fO:a*a<=sq)(iH:sq<b*b)(hu:Sl H N u (i8s rs))(hv:Tx H N v p)(ix:Tx H N v2 (Xae p 2))(hP:j_ H N)(hC:H.get C=some (.cells [.str (Zao a),.str (Zao b)] 32 true))(hCN:C<N)(hW:aL M W=[])(hMN:M<=N)(r0:r.get 0=some u)(r5:r.get 5=some v)(r22:r.get 22=some (.ptr C 0))(r24:r.get 24=some v2):
  Code A.C none A.ziZ ⟨r,256,[]⟩ ⟨H,N,W⟩ (fun e fr st=>Xhc M e fr st H N):=by
 rw[cn]
 have M0:=L.sm
 have d7:=L.d7
 obtain⟨l2,g1,g2,g3,g4⟩:=L.R.zjk
 have q2:Qb 2 (2:Rat):=⟨by decide,by decide⟩
 have bq:=Xbs M0.qb q2
 have hz:pg (Xae p 2) (i+2*j)≠0:=by
  rw[Xcu (by rw[M0.l];omega)]
  intro hc
  rcases Rat.mul_eq_zero.1 hc with e|e
  ·exact M0.z e
  ·exact Xhm (by decide) _ e
 have oG:(Xae p 2).length=i+2*j+1:=by rw[Yz1,M0.l]
 have ck:=Xgu (l:=Xae p 2) (by omega) (by omega) (show 57+(p.length*2+1)<=1800 by rw[M0.l];omega) bq (by rw[oG,Nat.add_sub_cancel];exact hz)
 have rr:=fun (h':T O) (n':Nat) (k:ah H N h' n')=>Xhj (h:=h') (N:=n') L.l1 d7 oG hz bq (by rw[M0.l];omega) ck L.R.zjj (ix.ai k) (hP.ai k)
 rw[g2]at rr
 simp only[Xhh]at rr
 have c0:=@Xif l2
 have e0:=@Xif (l2+1)
 have r1:=Xgc (by grind) b0 g3 iH
 have r2:=Xgc a0 (by grind) fO g4
 have r3:=@Xho l2
 have qc:=Xig (l:=l2) (by omega)
 have qe:=Xig (l:=l2+1) (by omega)
 generalize (l2:Rat)*(1/100)=c at*
 generalize ((l2+1:Nat):Rat)*(1/100)=e at*
 simp(disch:=first|(simp;done)|omega|rfl) [-getElem?_pos,A.ziZ,r24]
 refine av (rr _ _ ah.refl) ?_
 rintro _ h1 n1 k1 rfl
 have xF:=k1.le
 have mn:¬n1<M:=by omega
 have kS:ah h1 n1 ((h1.set n1 (.cells [.str [],.str []] 32 true)).set n1 (.cells [.str (Zao c),.str (Zao e)] 32 true)) (n1+1):=(ah.refl.new _).set (Yv5 _)
 have gS:((h1.set n1 (.cells [.str [],.str []] 32 true)).set n1 (.cells [.str (Zao c),.str (Zao e)] 32 true)).get n1=some (.cells [.str (Zao c),.str (Zao e)] 32 true):=by simp
 have KS:=k1.trans kS
 simp(disch:=first|(simp;done)|omega|rfl) [-getElem?_pos,aj,bM]
 generalize (h1.set n1 (.cells [.str [],.str []] 32 true)).set n1 (.cells [.str (Zao c),.str (Zao e)] 32 true)=HS at*
 refine nc (Xio (M:=M) (C:=C) (C2:=n1) M0 d7 (by have:=L.ei;have:=L.i3;omega) L.b L.ev qa qb qc qe (by grind) (by grind) (by grind) (hu.ai KS) (hv.ai KS) (hP.ai KS) ((KS.get C hCN).trans hC) (by omega) gS (by omega) (by simp[aL,mn,hW]) (by omega) (by simp[r0]) (by simp[r5]) (by simp[r22]) (by simp) (by simp)) ?_
 intro e fr st hq
 simp(disch:=first|(simp;done)|omega|rfl) [-getElem?_pos,]
 exact hq.trans KS
def Xim{C:Nat}{p:List Rat}(L:RtT p i j rs sq)(qa:Qb 20 a)(qb:Qb 20 b)(a0:0<=a)(b0:0<=b)(fO:a*a<=sq)(iH:sq<b*b)(hu:Sl H N u (i8s rs))(hv:Tx H N v p)(ix:Tx H N v2 (Xae p 2))(hP:j_ H N)(hC:H.get C=some (.cells [.str (Zao a),.str (Zao b)] 32 true))(hCN:C<N)(hW:aL M W=[])(hMN:M<=N)(r0:r.get 0=some u)(r5:r.get 5=some v)(r7:r.get 7=some (.str (Zao sq)))(r22:r.get 22=some (.ptr C 0))(r24:r.get 24=some v2):
  Code A.C none A.zi0 ⟨r,256,[]⟩ ⟨H,N,W⟩ (fun e fr st=>Xhc M e fr st H N):=by
 rw[cn]
 have qs:=L.R.sb
 have ts:=SN qs
 have q2:=qb.mul qb
 have t2:=SN q2
 have n1:=Xg1 fO
 have n2:=Xhd iH
 simp(disch:=first|(simp;done)|omega|rfl) [-getElem?_pos,A.zi0,r22,hC,hCN,aI,aK]
 refine av (SP qa qa (by decide) (by decide)) ?_
 rintro _ h1 m1 k1 rfl
 simp(disch:=first|(simp;done)|omega|rfl) [-getElem?_pos,r7]
 refine av (KX (qa.mul qa) qs (by decide) (by decide) (by omega)) ?_
 rintro _ h2 m2 k2 rfl
 have K2:=k1.trans k2
 have oH:=K2.le
 have g2:=(K2.get C hCN).trans hC
 have i2:C<m2:=by omega
 simp(disch:=first|(simp;done)|omega|rfl) [-getElem?_pos,n1,r7,r22,g2,i2,aI,aK]
 refine av (SP qb qb (by decide) (by decide)) ?_
 rintro _ h3 m3 k3 rfl
 simp(disch:=first|(simp;done)|omega|rfl) [-getElem?_pos,]
 refine av (KX qs q2 (by decide) (by decide) (by omega)) ?_
 rintro _ h4 m4 k4 rfl
 have K4:=(K2.trans k3).trans k4
 have le4:=K4.le
 simp(disch:=first|(simp;done)|omega|rfl) [-getElem?_pos,n2]
 refine nc (Xin (M:=M) (C:=C) L qa qb a0 b0 fO iH (hu.ai K4) (hv.ai K4) (ix.ai K4) (hP.ai K4) ((K4.get C hCN).trans hC) (by omega) (by simpa using hW) (by omega) (by simp[r0]) (by simp[r5]) (by simp[r22]) (by simp[r24])) ?_
 intro e fr st hq
 simp(disch:=first|(simp;done)|omega|rfl) [-getElem?_pos,]
 exact hq.trans K4
def Xhr:Zao ((1:Rat)/100)=[49,47,49,48,48]:=by decide+kernel
def Xil{C:Nat}{p:List Rat}{sb:Bool}(L:RtT p i j rs sq)(qa:Qb 20 a)(qb:Qb 20 b)(a0:0<=a)(b0:0<=b)(fO:a*a<=sq)(iH:sq<b*b)(df:b-a=1/100)(hu:Sl H N u (i8s rs))(hv:Tx H N v p)(ix:Tx H N v2 (Xae p 2))(hP:j_ H N)(hC:H.get C=some (.cells [.str (Zao a),.str (Zao b)] 32 true))(hCN:C<N)(hW:aL M W=[])(hMN:M<=N)(r0:r.get 0=some u)(r5:r.get 5=some v)(r6:r.get 6=some (.bool sb))(r7:r.get 7=some (.str (Zao sq)))(r20:r.get 20=some (.bool sb))(r21:r.get 21=some (.int .i64 0))(r22:r.get 22=some (.ptr C 0))(r23:r.get 23=some (.int .i64 0))(r24:r.get 24=some v2)(r25:r.get 25=some (.int .i64 0)):
  Code A.C none A.zi1 ⟨r,256,[]⟩ ⟨H,N,W⟩ (fun e fr st=>Xhc M e fr st H N):=by
 rw[cn]
 have ta:=SN qa
 have tb:=SN qb
 have csp:=Xhi qa qb (by decide) (Xgc a0 b0 fO iH)
 simp(disch:=first|(simp;done)|omega|rfl) [-getElem?_pos,A.zi1,r6,r20,r21,r22,r23,r25,hC,hCN,aI,aK,a_]
 refine av (Zwy (by omega) (by omega)) ?_
 rintro _ h1 m1 k1 rfl
 have xF:=k1.le
 have g1:=(k1.get C hCN).trans hC
 have i1:C<m1:=by omega
 simp(disch:=first|(simp;done)|omega|rfl) [-getElem?_pos,csp,r22,g1,i1,aI,aK,a_]
 refine av (NF qb qa (by decide) (by decide) (by omega)) ?_
 rintro _ h2 m2 k2 rfl
 have K2:=k1.trans k2
 have oH:=K2.le
 rw[df,Xhr]
 simp(disch:=first|(simp;done)|omega|rfl) [-getElem?_pos,a_]
 refine nc (Xim (M:=M) (C:=C) L qa qb a0 b0 fO iH (hu.ai K2) (hv.ai K2) (ix.ai K2) (hP.ai K2) ((K2.get C hCN).trans hC) (by omega) (by simpa using hW) (by omega) (by simp[r0]) (by simp[r5]) (by simp[r7]) (by simp[r22]) (by simp[r24])) ?_
 intro e fr st hq
 simp(disch:=first|(simp;done)|omega|rfl) [-getElem?_pos,]
 exact hq.trans K2
def Xik{p:List Rat}(L:RtT p i j rs sq)(hu:Sl H N u (i8s rs))(hv:Tx H N v p)(hP:j_ H N)(hW:aL M W=[])(hMN:M<=N)(r0:r.get 0=some u)(r5:r.get 5=some v)(r6:r.get 6=some (.bool (decide (sq<1))))(r7:r.get 7=some (.str (Zao sq))):
  Code A.C none A.zi2 ⟨r,256,[]⟩ ⟨H,N,W⟩ (fun e fr st=>Xhc M e fr st H N):=by
 rw[cn]
 have M0:=L.sm
 have d7:=L.d7
 obtain⟨l,g1,g2,g3,g4⟩:=L.R.ends
 have rr:=fun (h':T O) (n':Nat) (k:ah H N h' n')=>Xhj (h:=h') (N:=n') (j:=57) L.l1 d7 M0.l M0.z M0.qb (by decide) (M0.chk (by omega)) L.R.big (hv.ai k) (hP.ai k)
 rw[g2]at rr
 simp only[Xhh]at rr
 have qa:=Xig (l:=l) (by omega)
 have qb:=Xig (l:=l+1) (by omega)
 have a0:=@Xif l
 have b0:=@Xif (l+1)
 have df:((l+1:Nat):Rat)*(1/100)-(l:Rat)*(1/100)=1/100:=by rw[Xho];grind
 generalize (l:Rat)*(1/100)=a at*
 generalize ((l+1:Nat):Rat)*(1/100)=b at*
 simp(disch:=first|(simp;done)|omega|rfl) [-getElem?_pos,A.zi2,r5]
 refine av (Xh4 M0 L.R.rm d7 hv) ?_
 rintro _ h1 n1 k1 rfl
 simp(disch:=first|(simp;done)|omega|rfl) [-getElem?_pos,r5]
 refine av (rr _ _ k1) ?_
 rintro _ h2 n2 k2 rfl
 have K2:=k1.trans k2
 have oH:=K2.le
 have mn:¬n2<M:=by omega
 have kS:ah h2 n2 ((h2.set n2 (.cells [.str [],.str []] 32 true)).set n2 (.cells [.str (Zao a),.str (Zao b)] 32 true)) (n2+1):=(ah.refl.new _).set (Yv5 _)
 have gS:((h2.set n2 (.cells [.str [],.str []] 32 true)).set n2 (.cells [.str (Zao a),.str (Zao b)] 32 true)).get n2=some (.cells [.str (Zao a),.str (Zao b)] 32 true):=by simp
 have KS:=K2.trans kS
 simp(disch:=first|(simp;done)|omega|rfl) [-getElem?_pos,r5,aj,bM]
 generalize (h2.set n2 (.cells [.str [],.str []] 32 true)).set n2 (.cells [.str (Zao a),.str (Zao b)] 32 true)=HS at*
 refine av (Xh5 M0 d7 (hv.ai KS) (hP.ai KS)) ?_
 rintro _ h3 n3 k3 ⟨v2,rfl,t2⟩
 have K3:=KS.trans k3
 have KU:=k3.le
 have g3':=(k3.get n2 (by omega)).trans gS
 simp(disch:=first|(simp;done)|omega|rfl) [-getElem?_pos,]
 refine nc (Xil (M:=M) (C:=n2) (sb:=decide (sq<1)) L qa qb a0 b0 g3 g4 df (hu.ai K3) (hv.ai K3) t2 (hP.ai K3) g3' (by omega) (by simp[aL,mn,hW]) (by omega) (by simp[r0]) (by simp[r5]) (by simp[r6]) (by simp[r7]) (by simp) (by simp) (by simp) (by simp) (by simp) (by simp)) ?_
 intro e fr st hq
 simp(disch:=first|(simp;done)|omega|rfl) [-getElem?_pos,]
 exact hq.trans K3
def prV(l:List (Int×Int)):List (List V):=l.map fun x=>[.int .i8 x.1,.int .i8 x.2]
def Xg5{l:List (Int×Int)}:(prV l).length=l.length:=Lh ..
def Xhu{l:List (Int×Int)}{t:Nat}{x:Int×Int}(h:l[t]?=some x):(prV l)[t]?=some [.int .i8 x.1,.int .i8 x.2]:=by
 unfold prV
 rw[jT,h]
 rfl
structure PrI (H:T O) (M N:Nat) (rs:List Int) (i k m:Nat) (r:T V) (st:St):Prop where
 ex:∃(t:Nat) (v:V) (p:List Rat) (sq:Rat),t+m=k/\r.get 98=some (.int .i64 t)/\r.get 5=some v/\Tx st.h st.n v p/\RtI p i t rs sq/\r.get 6=some (.bool (decide (sq<1)))/\r.get 7=some (.str (Zao sq))/\aL M st.w=[]/\ah H N st.h st.n
def Xf8{a b:Rat}:(if a<b then b else a)<1↔a<1/\b<1:=by
 split<;>constructor<;>intro h
 ·exact⟨by grind,h⟩
 ·exact h.2
 ·exact⟨h,by grind⟩
 ·exact h.1
def Xh1:Zao (-2)=[45,50]:=by decide+kernel
def Xij{H:T O}{M N i:Nat}{W:List Nat}{r:T V}{u v w:V}{p:List Rat}{rs:List Int}{ps:List (Int×Int)}{sq:Rat}(R:RtI p i 0 rs sq)(ei:i=rs.length)(hn:rs.length<=3)(hk:ps.length<=2)(h1:1<=rs.length+ps.length)(hb:∀n∈rs,n.natAbs<=128)(hpb:∀x∈ps,x.1.natAbs<=128/\x.2.natAbs<=128)(hu:Sl H N u (i8s rs))(hw:Sn 2 H N w (prV ps))(hv:Tx H N v p)(hP:j_ H N)(hW:aL M W=[])(hMN:M<=N)(r0:r.get 0=some u)(r1:r.get 1=some w)(r5:r.get 5=some v)(r6:r.get 6=some (.bool (decide (sq<1))))(r7:r.get 7=some (.str (Zao sq))):
  Code A.C none A.zi3 ⟨r,256,[]⟩ ⟨H,N,W⟩ (fun e fr st=>Xhc M e fr st H N):=by
 rw[cn]
 have lw:=hw.len
 rw[Xg5]at lw
 have t1:([49]:bj)=Zao 1:=by decide+kernel
 have qo:Qb 1 (1:Rat):=⟨by decide,by decide⟩
 have lo1:(Zao 1).length<1000000000:=by decide+kernel
 simp(disch:=first|(simp;done)|omega|rfl) [-getElem?_pos,A.zi3,r1,lw]
 refine Zal [(4,7),(14,19),(98,143)] (fun e r' st=>e=.exit 2/\PrI H M N rs i ps.length 0 r' st) (fun m r' st=>PrI H M N rs i ps.length m r' st) ps.length ?_ ?_ ?_
 ·exact⟨0,v,p,sq,by omega,by simp,by simp[r5],hv,R,by simp[r6],by simp[r7],hW,ah.refl⟩
 ·rintro m r' ⟨H1,n1,W1⟩ hr hf ⟨t,v,p,sq,ht,h98,h5,tv,R,h6,h7,Tw,hK⟩
  simp only at Tw hK tv
  rw[cn]
  have Nx:=hK.le
  cases m with
  |zero=>
   obtain rfl:t=ps.length:=by omega
   simp(disch:=first|(simp;done)|omega|rfl) [-getElem?_pos,A.ziV,hr,hf,h98]
   exact⟨ps.length,v,p,sq,by omega,by simp[h98],by simp[h5],tv,R,by simp[h6],by simp[h7],Tw,hK⟩
  |succ m=>
   have aW:t<ps.length:=by omega
   have zij:(t:Int)<(ps.length:Int):=by omega
   obtain⟨⟨z1,z2⟩,hz⟩:=eQ aW
   obtain⟨b1,b2⟩:=hpb _ (eI hz)
   simp only at b1 b2
   obtain⟨i1,o1,c1,y1,w1,a1,a2,a3,a4⟩:=(hw.ai hK).at (Xhu hz)
   simp only[aK]at a4
   have wz1:bA .i64 z1=z1:=cH (by omega) (by omega)
   have wz2:bA .i64 z2=z2:=cH (by omega) (by omega)
   have oz1:=fun st:St=>Xid (st:=st) b1
   have oz2:=fun st:St=>Xid (st:=st) b2
   have kS:ah H1 n1 ((H1.set n1 (.cells [.int .i8 0,.int .i8 0] 74 true)).set n1 (.cells [.int .i8 z1,.int .i8 z2] 74 true)) (n1+1):=(ah.refl.new _).set (Yv5 _)
   have gS:((H1.set n1 (.cells [.int .i8 0,.int .i8 0] 74 true)).set n1 (.cells [.int .i8 z1,.int .i8 z2] 74 true)).get n1=some (.cells [.int .i8 z1,.int .i8 z2] 74 true):=by simp
   have mn1:¬n1<M:=by omega
   have q1:=Xf1 b1
   have q2:=Xf1 b2
   simp(disch:=first|(simp;done)|omega|rfl) [-getElem?_pos,A.ziV,hr,hf,h98,aW,zij,lw,a1,a2,a3,a4,aj,bM,gS,aI,aK,wz1,wz2,oz1,oz2]
   generalize (H1.set n1 (.cells [.int .i8 0,.int .i8 0] 74 true)).set n1 (.cells [.int .i8 z1,.int .i8 z2] 74 true)=HS at*
   refine av (SP q1 q1 (by decide) (by decide)) ?_
   rintro _ h2 n2 k2 rfl
   simp(disch:=first|(simp;done)|omega|rfl) [-getElem?_pos,]
   refine av (SP q2 q2 (by decide) (by decide)) ?_
   rintro _ h3 n3 k3 rfl
   simp(disch:=first|(simp;done)|omega|rfl) [-getElem?_pos,]
   refine av (Zwc (q1.mul q1) (q2.mul q2) (by decide) (by decide)) ?_
   rintro _ h4 n4 k4 rfl
   have K4:=((kS.trans k2).trans k3).trans k4
   have qs:=Xgk b1 b2
   have qm:=(show Qb 2 (-2:Rat) from ⟨by decide,by decide⟩).mul q1
   have Rn:=R.zi8 b1 b2
   have M1:=R.sm (by omega) (by omega)
   have M2:=Xhs b1 b2
   have M3:Sm (Xgd p [f64 z1*f64 z1+f64 z2*f64 z2, -2*f64 z1,1]) (i+2*t+2):=Rn.sm (by omega) (by omega)
   have mm:∀{h':T O} {n':Nat},Fn A.C 29 [.str [45,50],.str (Zao (f64 z1))] h' n' (fun u _ _=>u=.str (Zao (-2*f64 z1))):=by
    rw[<-Xh1]
    exact SP (show Qb 2 (-2:Rat) from ⟨by decide,by decide⟩) q1 (by decide) (by decide)
   obtain⟨s,hs⟩:∃s,f64 z1*f64 z1+f64 z2*f64 z2=s:=⟨_,rfl⟩
   obtain⟨b,hbb⟩:∃b, -2*f64 z1=b:=⟨_,rfl⟩
   rw[hs,hbb]at Rn M2 M3
   rw[hs]at qs
   rw[hbb]at mm
   rw[hs]
   simp(disch:=first|(simp;done)|omega|rfl) [-getElem?_pos,h5]
   refine av mm ?_
   rintro _ h6' n6 k6 rfl
   have K6:=K4.trans k6
   have kB:ah h6' n6 (h6'.set n6 (.cells [.str (Zao s),.str (Zao b),.str [49]] 30 true)) (n6+1):=ah.refl.new _
   have sB:Tx (h6'.set n6 (.cells [.str (Zao s),.str (Zao b),.str [49]] 30 true)) (n6+1) (.slice n6 0 3 (some 3) 1) [s,b,1]:=Sl.row (e:=30) (rw:=true) (cp:=some 3) (by omega) (by simp[tx,strs,t1]) (by simp[tx,strs,t1]) (by simp)
   have KB:=(hK.trans K6).trans kB
   simp(disch:=first|(simp;done)|omega|rfl) [-getElem?_pos,aj]
   generalize h6'.set n6 (.cells [.str (Zao s),.str (Zao b),.str [49]] 30 true)=HB at*
   refine av (Xhk M1 M2 M3 (by omega) (tv.ai (K6.trans kB)) sB (hP.ai KB)) ?_
   rintro _ hE nE kE ⟨y,rfl,ty⟩
   simp(disch:=first|(simp;done)|omega|rfl) [-getElem?_pos,a_]
   refine av (Xh6 M3 (by omega) ty) ?_
   rintro _ h8 n8 k8 rfl
   have K8:=(KB.trans kE).trans k8
   have ty8:=ty.ai k8
   have ts:=SN qs
   have mx:=fun (h':T O) (n':Nat)=>Xci (h:=h') (N:=n') R.sb qs (by decide)
   by_cases c1:sq<1
   ·have h6t:r'.get 6=some (.bool true):=by rw[h6];simp[c1]
    simp(disch:=first|(simp;done)|omega|rfl) [-getElem?_pos,a_,hr,hf,h6t]
    rw[t1]
    refine av (KX qs qo (by decide) (by decide) lo1) ?_
    rintro _ h9 n9 k9 rfl
    by_cases c2:s<1
    ·have c2':sg3 (s-1).num<0:=KV.2 c2
     have cm:(if sq<s then s else sq)<1:=Xf8.2 ⟨c1,c2⟩
     simp(disch:=first|(simp;done)|omega|rfl) [-getElem?_pos,c2',hr,hf,h7]
     refine av (mx _ _) ?_
     rintro _ hA nA kA rfl
     simp(disch:=first|(simp;done)|omega|rfl) [-getElem?_pos,hr,hf,h98,aW,zij]
     exact⟨m,by omega,t+1,y,_,_,by omega,by simp,by simp,(ty8.ai k9).ai kA,Rn,by simp[cm],by simp,by simpa[aL,mn1]using Tw,(K8.trans k9).trans kA⟩
    ·have c2':¬sg3 (s-1).num<0:=fun h=>c2 (KV.1 h)
     have cm:¬(if sq<s then s else sq)<1:=fun h=>c2 (Xf8.1 h).2
     simp(disch:=first|(simp;done)|omega|rfl) [-getElem?_pos,c2',hr,hf,h7]
     refine av (mx _ _) ?_
     rintro _ hA nA kA rfl
     simp(disch:=first|(simp;done)|omega|rfl) [-getElem?_pos,hr,hf,h98,aW,zij]
     exact⟨m,by omega,t+1,y,_,_,by omega,by simp,by simp,(ty8.ai k9).ai kA,Rn,by simp[cm],by simp,by simpa[aL,mn1]using Tw,(K8.trans k9).trans kA⟩
   ·have h6t:r'.get 6=some (.bool false):=by rw[h6];simp[c1]
    have cm:¬(if sq<s then s else sq)<1:=fun h=>c1 (Xf8.1 h).1
    simp(disch:=first|(simp;done)|omega|rfl) [-getElem?_pos,a_,hr,hf,h6t,h7]
    refine av (mx _ _) ?_
    rintro _ hA nA kA rfl
    simp(disch:=first|(simp;done)|omega|rfl) [-getElem?_pos,hr,hf,h98,aW,zij]
    exact⟨m,by omega,t+1,y,_,_,by omega,by simp,by simp,ty8.ai kA,Rn,by simp[cm],by simp,by simpa[aL,mn1]using Tw,K8.trans kA⟩
 ·rintro e r' ⟨H1,n1,W1⟩ hr ⟨rfl,t,v,p,sq,ht,h98,h5,tv,R,h6,h7,Tw,hK⟩
  simp only at Tw hK tv
  have Nx:=hK.le
  obtain rfl:t=ps.length:=by omega
  simp(disch:=first|(simp;done)|omega|rfl) [-getElem?_pos,hr]
  refine nc (Xik (M:=M) ⟨R,by omega,hk,by omega,ei,hb⟩ (hu.ai hK) tv (hP.ai hK) Tw (by omega) (by simp[hr,r0]) (by simp[h5]) (by simp[h6]) (by simp[h7])) ?_
  intro e fr st hq
  simp(disch:=first|(simp;done)|omega|rfl) [-getElem?_pos,]
  exact hq.trans hK
structure ReI (H:T O) (M N:Nat) (rs:List Int) (m:Nat) (r:T V) (st:St):Prop where
 ex:∃(t:Nat) (v:V) (p:List Rat) (sq:Rat),t+m=rs.length/\r.get 56=some (.int .i64 t)/\r.get 5=some v/\Tx st.h st.n v p/\RtI p t 0 rs sq/\r.get 6=some (.bool (decide (sq<1)))/\r.get 7=some (.str (Zao sq))/\aL M st.w=[]/\ah H N st.h st.n
def Xhe{h:T O}{N:Nat}{u w':V}{rs:List Int}{ps:List (Int×Int)}(hu:Sl h N u (i8s rs))(hw:Sn 2 h N w' (prV ps))(hP:j_ h N)(hlr:rs.length<9223372036854775808)(hlp:ps.length<9223372036854775808)(hb:∀n∈rs,n.natAbs<=128)(hpb:∀x∈ps,x.1.natAbs<=128/\x.2.natAbs<=128):Fn A.C 6 [u,w'] h N (fun x _ _=>x=.bool true):=by
 intro w
 rw[aZ,A.k6 (by simp)]
 have hA:=fun w=>Nf (w:=w) hP
 have lu:=hu.len
 rw[Xg9]at lu
 have lw:=hw.len
 rw[Xg5]at lw
 by_cases c1:3<(rs.length:Int)
 ·simp(disch:=first|(simp;done)|omega|rfl) [-getElem?_pos,A.b6,hA,lu,c1,Ret]
  exact ah.refl
 by_cases c2:2<(ps.length:Int)
 ·simp(disch:=first|(simp;done)|omega|rfl) [-getElem?_pos,A.b6,hA,lu,lw,c1,c2,Ret]
  exact ah.refl
 have ws:bA .i64 ((rs.length:Int)+(ps.length:Int))=(rs.length:Int)+(ps.length:Int):=cH (by omega) (by omega)
 by_cases c3:(rs.length:Int)+(ps.length:Int)=0
 ·simp(disch:=first|(simp;done)|omega|rfl) [-getElem?_pos,A.b6,hA,lu,lw,c1,c2,ws,c3,a_,Ret]
  exact ah.refl
 have t1:([49]:bj)=Zao 1:=by decide+kernel
 have kA:ah h N (h.set N (.cells [.str [49]] 30 true)) (N+1):=ah.refl.new _
 have sA:Tx (h.set N (.cells [.str [49]] 30 true)) (N+1) (.slice N 0 1 (some 1) 1) [1]:=Sl.row (e:=30) (rw:=true) (cp:=some 1) (by omega) (by simp[tx,strs,t1]) (by simp[tx,strs,t1]) (by simp)
 simp(disch:=first|(simp;done)|omega|rfl) [-getElem?_pos,A.b6,hA,lu,lw,c1,c2,ws,c3,a_,aj]
 generalize h.set N (.cells [.str [49]] 30 true)=HA at*
 refine Zal [(4,7),(9,12),(56,95)] (fun e r' st=>e=.exit 0/\ReI HA N (N+1) rs 0 r' st) (fun m r' st=>ReI HA N (N+1) rs m r' st) rs.length ?_ ?_ ?_
 ·exact⟨0,_,[1],0,by omega,by simp,by simp,sA,RtI.one,by simp;decide,by simp[xI],by simp,ah.refl⟩
 ·rintro m r' ⟨H1,n1,W1⟩ hr hf ⟨t,v,p,sq,ht,h56,h5,tv,R,h6,h7,Tw,hK⟩
  simp only at Tw hK tv
  rw[cn]
  have Nx:=hK.le
  cases m with
  |zero=>
   obtain rfl:t=rs.length:=by omega
   simp(disch:=first|(simp;done)|omega|rfl) [-getElem?_pos,A.ziW,hr,hf,h56]
   exact⟨rs.length,v,p,sq,by omega,by simp[h56],by simp[h5],tv,R,by simp[h6],by simp[h7],Tw,hK⟩
  |succ m=>
   have aW:t<rs.length:=by omega
   have zij:(t:Int)<(rs.length:Int):=by omega
   obtain⟨z,hz⟩:=eQ aW
   have bz:=hb z (eI hz)
   obtain⟨i1,o1,y0,y1,w1,a1,a2,a3,a4⟩:=(hu.ai (kA.trans hK)).at (Xha hz)
   have wz:bA .i64 z=z:=cH (by omega) (by omega)
   have oz:=fun st:St=>Xid (st:=st) bz
   have qz:=Xf1 bz
   have tz:=SN qz
   have ng:=fun st:St=>Ym1 (q:=f64 z) (st:=st) (by omega)
   have Rn:=R.lin hz bz
   have M1:=R.sm (by omega) (by omega)
   have M2:=Xia bz
   have M3:Sm (Xgd p [-f64 z,1]) (t+1):=Rn.sm (by omega) (by omega)
   obtain⟨_,_,iff⟩:=Xgr bz
   have kB:ah H1 n1 (H1.set n1 (.cells [.str (Zao (-f64 z)),.str [49]] 30 true)) (n1+1):=ah.refl.new _
   have sB:Tx (H1.set n1 (.cells [.str (Zao (-f64 z)),.str [49]] 30 true)) (n1+1) (.slice n1 0 2 (some 2) 1) [-f64 z,1]:=Sl.row (e:=30) (rw:=true) (cp:=some 2) (by omega) (by simp[tx,strs,t1]) (by simp[tx,strs,t1]) (by simp)
   have KB:=(kA.trans hK).trans kB
   simp(disch:=first|(simp;done)|omega|rfl) [-getElem?_pos,A.ziW,hr,hf,h56,h5,aW,zij,lu,a1,a2,a3,a4,wz,oz,ng,aj]
   generalize H1.set n1 (.cells [.str (Zao (-f64 z)),.str [49]] 30 true)=HB at*
   refine av (Xhk M1 M2 M3 (by omega) (tv.ai kB) sB (hP.ai KB)) ?_
   rintro _ hE nE kE ⟨y,rfl,ty⟩
   simp(disch:=first|(simp;done)|omega|rfl) [-getElem?_pos,a_]
   refine av (Xh6 M3 (by omega) ty) ?_
   rintro _ h8 n8 k8 rfl
   have K8:=((hK.trans kB).trans kE).trans k8
   have ty8:=ty.ai k8
   have mx:=fun (h':T O) (n':Nat)=>Xci (h:=h') (N:=n') R.sb ((qz.mul qz).mono (show 8+8<=40 by decide)) (by decide)
   by_cases d1:sq<1
   ·have h6t:r'.get 6=some (.bool true):=by rw[h6];simp[d1]
    by_cases d2: -64<z
    ·by_cases d3:z<64
     ·have cm:(if sq<f64 z*f64 z then f64 z*f64 z else sq)<1:=Xf8.2 ⟨d1,iff.2 ⟨d2,d3⟩⟩
      simp(disch:=first|(simp;done)|omega|rfl) [-getElem?_pos,a_,hr,hf,h6t,h7,wz,d2,d3]
      refine av (SP qz qz (by decide) (by decide)) ?_
      rintro _ h9 n9 k9 rfl
      simp(disch:=first|(simp;done)|omega|rfl) [-getElem?_pos,hr,hf,h7]
      refine av (mx _ _) ?_
      rintro _ hX nX kX rfl
      simp(disch:=first|(simp;done)|omega|rfl) [-getElem?_pos,hr,hf,h56,aW,zij]
      exact⟨m,by omega,t+1,y,_,_,by omega,by simp,by simp,(ty8.ai k9).ai kX,Rn,by simp[cm],by simp,by simpa using Tw,(K8.trans k9).trans kX⟩
     ·have cm:¬(if sq<f64 z*f64 z then f64 z*f64 z else sq)<1:=fun h=>d3 (iff.1 (Xf8.1 h).2).2
      simp(disch:=first|(simp;done)|omega|rfl) [-getElem?_pos,a_,hr,hf,h6t,h7,wz,d2,d3]
      refine av (SP qz qz (by decide) (by decide)) ?_
      rintro _ h9 n9 k9 rfl
      simp(disch:=first|(simp;done)|omega|rfl) [-getElem?_pos,hr,hf,h7]
      refine av (mx _ _) ?_
      rintro _ hX nX kX rfl
      simp(disch:=first|(simp;done)|omega|rfl) [-getElem?_pos,hr,hf,h56,aW,zij]
      exact⟨m,by omega,t+1,y,_,_,by omega,by simp,by simp,(ty8.ai k9).ai kX,Rn,by simp[cm],by simp,by simpa using Tw,(K8.trans k9).trans kX⟩
    ·have cm:¬(if sq<f64 z*f64 z then f64 z*f64 z else sq)<1:=fun h=>d2 (iff.1 (Xf8.1 h).2).1
     simp(disch:=first|(simp;done)|omega|rfl) [-getElem?_pos,a_,hr,hf,h6t,h7,wz,d2]
     refine av (SP qz qz (by decide) (by decide)) ?_
     rintro _ h9 n9 k9 rfl
     simp(disch:=first|(simp;done)|omega|rfl) [-getElem?_pos,hr,hf,h7]
     refine av (mx _ _) ?_
     rintro _ hX nX kX rfl
     simp(disch:=first|(simp;done)|omega|rfl) [-getElem?_pos,hr,hf,h56,aW,zij]
     exact⟨m,by omega,t+1,y,_,_,by omega,by simp,by simp,(ty8.ai k9).ai kX,Rn,by simp[cm],by simp,by simpa using Tw,(K8.trans k9).trans kX⟩
   ·have h6t:r'.get 6=some (.bool false):=by rw[h6];simp[d1]
    have cm:¬(if sq<f64 z*f64 z then f64 z*f64 z else sq)<1:=fun h=>d1 (Xf8.1 h).1
    simp(disch:=first|(simp;done)|omega|rfl) [-getElem?_pos,a_,hr,hf,h6t,h7,wz]
    refine av (SP qz qz (by decide) (by decide)) ?_
    rintro _ h9 n9 k9 rfl
    simp(disch:=first|(simp;done)|omega|rfl) [-getElem?_pos,hr,hf,h7]
    refine av (mx _ _) ?_
    rintro _ hX nX kX rfl
    simp(disch:=first|(simp;done)|omega|rfl) [-getElem?_pos,hr,hf,h56,aW,zij]
    exact⟨m,by omega,t+1,y,_,_,by omega,by simp,by simp,(ty8.ai k9).ai kX,Rn,by simp[cm],by simp,by simpa using Tw,(K8.trans k9).trans kX⟩
 ·rintro e r' ⟨H1,n1,W1⟩ hr ⟨rfl,t,v,p,sq,ht,h56,h5,tv,R,h6,h7,Tw,hK⟩
  simp only at Tw hK tv
  have Nx:=hK.le
  have K1:=kA.trans hK
  obtain rfl:t=rs.length:=by omega
  simp(disch:=first|(simp;done)|omega|rfl) [-getElem?_pos,hr]
  refine nc (Xij (M:=N) (rs:=rs) R rfl (by omega) (by omega) (by omega) hb hpb (hu.ai K1) (hw.ai K1) tv (hP.ai K1) Tw (by omega) (by simp[hr]) (by simp[hr]) (by simp[h5]) (by simp[h6]) (by simp[h7])) ?_
  rintro _ _ ⟨H,nn,WW⟩ ⟨rfl,r6',rfl,h4',uP,hk⟩
  simp only at uP hk
  simp(disch:=first|(simp;done)|omega|rfl) [-getElem?_pos,h4',uP,Ret]
  exact K1.trans hk
end Go.Mx
