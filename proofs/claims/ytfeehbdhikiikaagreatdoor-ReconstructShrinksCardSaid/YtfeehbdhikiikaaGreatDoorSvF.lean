/-reconstruct-/
import Derived.Test.YtfeehbdhikiikaaGreatDoorCrA
set_option linter.all false
set_option maxHeartbeats 4000000
namespace Go.Mx
variable{G H X:List (List Rat)}{a b sS:List Rat}{l ws:List aH}{J Z d j0 k0:Nat}{u y:V}
noncomputable section
open Go Go.Proofs
set_option maxRecDepth 1000000
def Yt0{h:T O}{N B P Cb c:Nat}{r:T V}{wv:V}{m:List (List Rat)}{e e2:TypeId}{w:List Nat}{Tz:Bool}(hu:fj h N u m)(hBh:h.get B=some (.cells [.aa] 87 true))(YB:B<N)(hP:h.get P=some (.cells [wv] e2 Tz))(YC:P<N)(hPB:¬P=B)(hC:h.get Cb=some (.cells [u] e true))(hCN:Cb<N)(hCB:¬Cb=B)(jU:0<m.length)(jR:m.length<1000)(hc:aW m c)(iK:0<c)(cy:c<1000)(hw:dR h N wv sS)(uH:sS.length=m.length)(qa:bR m j0)(qb:∀q∈sS,Qb k0 q)(uP:1<=j0)(hj:j0<=400000000)(pG:k0<=400000000)(h5:r.get 5=some (.ptr B 0))(h3:r.get 3=some (.ptr P 0))(hww:az B w=[]):
  Call A.C (.func 182 [] [.ptr Cb 0]) [.yield (N+1)] ⟨(h.set N (.defs true)).set (N+1) (.loop (wR r N)),N+1+1,w⟩ (fun _ st=>az B st.w=[]/\N+2<=st.n/\(∀i,i<N->¬i=B->st.h.get i=h.get i)/\st.h.get N=some (.defs true)/\∃R v,st.h.get (N+1)=some (.loop R)/\R.st=.ready/\R.fN=none/\st.h.get B=some (.cells [v] 87 true)/\iF (N+2) st.h st.n v (Aw m sS c)):=by
 have gD:((h.set N (.defs true)).set (N+1) (.loop (wR r N))).get N=some (.defs true):=by rw[T.ag,ak (by omega),T.ag,av rfl]
 have gL:((h.set N (.defs true)).set (N+1) (.loop (wR r N))).get (N+1)=some (.loop (wR r N)):=by rw[T.ag,av rfl]
 have kG:ab h N ((h.set N (.defs true)).set (N+1) (.loop (wR r N))) (N+2):=(ab.refl.new _).new _;generalize (h.set N (.defs true)).set (N+1) (.loop (wR r N))=G at*;have gC:=(kG.get Cb hCN).trans hC;have gB:=(kG.get B YB).trans hBh;have Aj:=hu.ad kG;obtain⟨us,a1,a2,a3⟩:=Aj;obtain⟨l0,dk⟩:=bs jU;obtain⟨x0,b1,b2⟩:=a3 0 l0 dk;obtain⟨i2,o2,cc2,e3,rw3,p1,p2,p3,p4⟩:=a1.at b1;rw[iX]at p4;have b3:=b2.1.len;rw[hc l0 (cP dk)]at b3;have lu:=a1.len;rw[a2]at lu;have zb3:(0:Int)<(m.length:Int):=by omega
 have lC:Cb<N+1+1:=by omega
 have lp2:i2<N+1+1:=by omega
 rw[aP,A.k182 (by simp)];simp[A.b182,gC,lu,jU,p1,p3,p4,b3];refine cB [(3,3),(8,18)] (fun e r' st=>e=.exit 0/\az B st.w=[]/\ec (DU N B) G (N+2) st.h st.n/\st.h.get (N+1)=some (.loop (wR r N))/\∃v,st.h.get B=some (.cells [v] 87 true)/\iF (N+2) st.h st.n v (Aw m sS c)) (fun i r' st=>az B st.w=[]/\ec (DU N B) G (N+2) st.h st.n/\st.h.get (N+1)=some (.loop (wR r N))/\∃k v,k<=c/\i=c-k/\r'.get 8=some (.int .i64 k)/\st.h.get B=some (.cells [v] 87 true)/\iF (N+2) st.h st.n v (Aw m sS k)) c ?_ ?_ ?_
 ·exact⟨by simp,ec.refl,gL,0,_,by omega,by omega,by simp,gB,iF.nil⟩
 ·rintro i r' ⟨H1,n1,W⟩ hr hf ⟨hW,U1,Nm,k,v,hk,rfl,h8,DS,hO⟩;simp only at hW U1 Nm DS hO;rw[bG];by_cases aD:k<c
  ·have bV:(k:Int)<(c:Int):=by omega
   have zi:=U1.le;have gC1:=(U1.get Cb (by omega) (by unfold DU;omega)).trans gC;have gP1:=(U1.get P (by omega) (by unfold DU;omega)).trans ((kG.get P YC).trans hP);have lC1:Cb<n1:=by omega
   have UB:ec (fun i=>i=B) h N H1 n1:=⟨by omega,fun i hi hd=>(U1.get i (by omega) (by unfold DU;omega)).trans (kG.get i hi)⟩;have gp:=hu.wJ (v:=u) UB hBh (by decide) jU fun l hl=>by rw[hc l hl];exact iK
   have Pr:=hw.wJ UB hBh (by decide);simp[A.sU,hr,h8,bV,gC1];refine au (Ybb gp (by omega) hc aD) ?_;rintro x H2 n2 k2 hx;have lf:=k2.le;have lcl:(qL m k).length=m.length:=by simp[qL]
   simp;refine BV (Ypt ((k2.get (N+1) (by omega)).trans Nm) ((k2.get B (by omega)).trans DS) ((k2.get P (by omega)).trans gP1) (hO.ad k2) (by omega) YB YC hx (Pr.ad k2) (by omega) (by rw[lcl,uH]) (by omega) (fun q hq=>(Be qa uP _ (by unfold dm;exact List.mem_map_of_mem (jz.2 aD))).2 q hq) qb hj pG h5 h3 hW) ?_;rintro _ ⟨H3,n3,W3⟩ ⟨rfl,DE,U3,NG,v',zN,Hl⟩;simp only at DE U3 NG zN Hl;simp(disch:=first|(simp;done)|omega|rfl) [hf,h8,DE,NG,zN];exact⟨c-(k+1),by omega,(U1.trans k2.upd).trans U3,k+1,by omega,rfl,by simp,Hl⟩
  obtain rfl:k=c:=by omega
  simp[A.sU,hr,hf,h8,hW,U1,Nm,DS];exact hO
 rintro _ r' ⟨H1,n1,W⟩ hr ⟨rfl,hW,U1,Nm,v,DS,hO⟩;simp only at hW U1 Nm DS hO;simp;refine⟨Iq fun i hi=>?_,U1.le,fun i hi hd=>(U1.get i (by omega) (by unfold DU;omega)).trans (kG.get i hi),(U1.get N (by omega) (by unfold DU;omega)).trans gD,wR r N,Nm,rfl,rfl,v,DS,hO⟩;rcases iS.1 hi with hi|hi
 ·exact FZ hW i (Ir hi).1
 exact FZ hww i hi
def Zoh{h:T O}{N c:Nat}{v:V}{m:List (List Rat)}(hu:fj h N u m)(hv:dR h N v sS)(jU:0<m.length)(jR:m.length<1000)(hc:aW m c)(iK:0<c)(cy:c<1000)(uH:sS.length=m.length)(qa:bR m j0)(qb:∀q∈sS,Qb k0 q)(uP:1<=j0)(hj:j0<=400000000)(pG:k0<=400000000):Fn A.C 62 [u,v] h N (fun x h' n'=>fj h' n' x ((dm m c).map fun r=>iG r sS)):=by
 intro w;obtain⟨f1,f2,f3⟩:=hv.1.form;rw[aP,A.k62 (by simp)];simp[-V.cells, -V.one,A.b62,f1,f2];have kP:ab h N (h.set N (.cells [v] 90 true)) (N+1):=ab.refl.new _;have gP:(h.set N (.cells [v] 90 true)).get N=some (.cells [v] 90 true):=by rw[T.ag,av rfl]
 have kB:ab (h.set N (.cells [v] 90 true)) (N+1) ((h.set N (.cells [v] 90 true)).set (N+1) (.cells [.aa] 87 true)) (N+1+1):=ab.refl.new _;have gB:((h.set N (.cells [v] 90 true)).set (N+1) (.cells [.aa] 87 true)).get (N+1)=some (.cells [.aa] 87 true):=by rw[T.ag,av rfl]
 have Tv:=(kB.get N (by omega)).trans gP;have kk:=kP.trans kB;generalize (h.set N (.cells [v] 90 true)).set (N+1) (.cells [.aa] 87 true)=G at*;have ov:V.one u=true/\V.cells u=[u]:=by obtain⟨us,s,_⟩:=hu;exact⟨Sl.Ol s,Sl.Bp s⟩
 refine au (Yng ov.1 ov.2) ?_;rintro _ H3 n3 k3 ⟨e,rfl,c1,c2⟩;have yG:=k3.le;have zN:=(k3.get (N+1) (by omega)).trans gB;have gP3:=(k3.get N (by omega)).trans Tv;simp[];refine Ycb (gv:=.func 182 [] [.ptr (N+1+1) 0]) (by simp) rfl (Yt0 (B:=N+1) (P:=N) (c:=c) ((hu.ad kk).ad k3) zN (by omega) gP3 (by omega) (by omega) c2 c1 (by omega) jU jR hc iK cy ((hv.ad kk).ad k3) uH qa qb uP hj pG (by simp) (by simp) (by simp)) ?_;rintro _ ⟨H4,n4,W4⟩ ⟨DF,Bj,U4,V8,R,v',gL4,r1,r2,Gm,hO4⟩;simp only at DF Bj U4 V8 gL4 Gm hO4;refine⟨R,gL4,by rw[r1];simp,?_⟩;have nc:Ip (.loop R):=fun c e w h=>by cases h
 have o5:=hO4.rm (o:=.loop {R with st:=.exhausted}) gL4 nc;have gD5:(H4.set (n3+1) (.loop {R with st:=.exhausted})).get n3=some (.defs true):=by rw[T.ag,ak (by omega)];exact V8
 have gB5:(H4.set (n3+1) (.loop {R with st:=.exhausted})).get (N+1)=some (.cells [v'] 87 true):=by rw[T.ag,ak (by omega)];exact Gm
 have k5:∀i,i<N->(H4.set (n3+1) (.loop {R with st:=.exhausted})).get i=h.get i:=fun i hi=>by rw[T.ag,ak (by omega),U4 i (by omega) (by omega),k3.get i (by omega),kk.get i hi]
 show bD A.C _ (some (.ex (NB R.fN) _ ⟨H4.set (n3+1) (.loop {R with st:=.exhausted}),n4,(n3+1)::W4⟩)) _;generalize H4.set (n3+1) (.loop {R with st:=.exhausted})=F at*;rw[r2];have lB:N+1<n4:=by omega
 have nd:Ip (.defs true):=fun c e w h=>by cases h
 simp[gB5,NB];refine(Ymo gD5 fun i=>by simp).2 ?_;simp[ay];rw[<-Yvg uH];exact⟨by rw[ak (by omega),ak (by omega)];exact Y9 DF (by omega),⟨by omega,fun i hi=>by rw[T.ag,ak (by omega)];exact k5 i hi⟩,(o5.rm gD5 nd).AA⟩
variable {D M:List (List Rat)} {w:List Rat}
def A.b112:=A.q Tryz.f112
def A.k112:=@A.kk 112 28 [.tmp 6,.tmp 7] A.b112 (by kernel_rfl) rfl
def ot(D M:List (List Rat))(w:List Rat):List (List Rat):=(dm (fb D M) M.length).map fun r=>iG r w
def rQ(D M:List (List Rat))(w:List Rat):List (List Rat):=fb (ot D M w) (dm (fb D M) M.length)
def FN(D M:List (List Rat))(w:List Rat):Option (List (List Rat)):=ry (rQ D M w) (ot D M w) M.length D.length
def HW:(ot D M w).length=M.length:=by unfold ot;rw[dL,kR]
def Nn:aW (ot D M w) w.length:=fun r hr=>by
 obtain⟨x,_,rfl⟩:=bO.1 hr
 simp[iG]
def K0:aW (rQ D M w) M.length:=by have:=@Li (ot D M w) (dm (fb D M) M.length);rw[kR]at this;exact this
def HX:(rQ D M w).length=M.length:=by unfold rQ;rw[DZ,HW]
def Yoa{n K:Nat}(hM:aW M n)(qD:bR D K)(qM:bR M J)(hJ:1<=J)(hK:1<=K):bR (fb D M) (n*(J+K+1)+1):=SX qD (fun r hr=>⟨hM r hr,qM r hr⟩) hJ hK
def Yfx{B L:Nat}(q:bR (fb D M) B)(qw:∀x∈w,Qb L x)(hB:1<=B)(hL:1<=L):bR (ot D M w) (B+L):=fun r hr=>by
 obtain⟨x,hx,rfl⟩:=bO.1 hr
 exact Lj (Be q hB x hx).2 qw hB hL
def Yw4{B L:Nat}(q:bR (fb D M) B)(qw:∀x∈w,Qb L x)(hB:1<=B)(hL:1<=L):bR (rQ D M w) (D.length*(B+(B+L)+1)+1):=
 SX (Yfx q qw hB hL) (fun r hr=>by
  have:=Be (c:=M.length) q hB r hr
  rw[DZ]at this
  exact this) hB (by omega)
def Ylt{h:T O}{N n K L:Nat}{v:V}(hu:fj h N u D)(hv:dR h N v w)(hy:fj h N y M)(hD:aW D n)(hM:aW M n)(hw:w.length=D.length)(fP:0<n)(hn:n<50)(iW:0<D.length)(hs:D.length<50)(pG:0<M.length)(hk:M.length<50)(qD:bR D K)(qM:bR M J)(qw:∀x∈w,Qb L x)(hJ:1<=J)(hK:1<=K)(hL:1<=L)(hS:D.length*(n*(J+K+1)+1+(n*(J+K+1)+1+L)+1)+1+2*(n*(J+K+1)+1+L+1)<=400000000){B:Nat->Nat}(OK:∀i,1<=B i)(Sv:∀k,bR (aK (dN (rQ D M w) (ot D M w)) k).1 (B (aK (dN (rQ D M w) (ot D M w)) k).2.1))(hB3:∀i,i<M.length->3*B i<=400000000):Fn A.C 112 [u,v,y] h N (fun x h' n'=>(FN D M w=none/\x=.aU [.aa,.bool false])\/∃H z,FN D M w=some H/\x=.aU [z,.bool true]/\fj h' n' z H):=by
 intro W;have qS:=Yoa hM qD qM hJ hK;have lS:(fb D M).length=D.length:=DZ;have tt:=Ye1 hM;obtain⟨b1,ME⟩:∃b1,b1=n*(J+K+1)+1:=⟨_,rfl⟩;have hb:n*(J+K+1)+1<=b1:=by omega
 have rZ:J+K+1<=n*(J+K+1):=Nat.le_mul_of_pos_left _ fP;rw[<-ME]at hS;obtain⟨l0,dk⟩:=bs iW;obtain⟨i2,o2,c2,e2,w2,a,q1,q2,q3,q4,q5⟩:=IT hu dk;rw[iX]at q4;have la:=q5.1.len;rw[hD l0 (cP dk)]at la;have lu:=hu.len;have Og:(0:Int)<(D.length:Int):=by omega
 have Wc:=qS;rw[<-ME]at Wc;rw[aP,A.k112 (by simp)];simp[A.b112,lu,iW,q1,q3,q4,la];refine au (TH hy (by omega) hM (by omega)) ?_;rintro x1 H1 n1 k1 wK;simp[];refine au (Zw9 (n:=n) (c:=M.length) (j:=J) (k:=K) (hu.ad k1) wK.AA hD F3 (by rw[kR];omega) (by rw[kR];exact fP) (by omega) (by rw[kR];omega) (by omega) qD (fun r hr=>(Be qM hJ r hr).2) hJ hK (by rw[kR];omega)) ?_;rw[tt];rintro x2 H2 n2 k2 zH;have k02:=k1.trans k2;simp[];refine au (Zoh (c:=M.length) (j0:=b1) (k0:=L) zH (hv.ad k02) (by omega) (by omega) Li pG (by omega) (by rw[lS];exact hw) Wc qw (by omega) (by omega) (by omega)) ?_;rintro x3 H3 n3 k3 F6;have k03:=k02.trans k3;have Sw:fj H3 n3 x3 (ot D M w):=F6;have rR:aW (ot D M w) D.length:=by rw[<-hw];exact Nn
 simp[];refine au (Zw9 (n:=D.length) (c:=M.length) (j:=b1) (k:=b1+L) Sw (zH.ad k3) rR Li (by rw[lS];exact aN _) (by rw[lS];exact iW) (by rw[HW];omega) (by rw[lS];omega) (by omega) (Yfx Wc qw (by omega) hL) Wc (by omega) (by omega) (by rw[lS];omega)) ?_;rintro x4 H4 n4 k4 D7;have za2:fj H4 n4 x4 (rQ D M w):=D7;simp[];refine au (Zua (n:=M.length) (c:=D.length) (B:=B) za2 (Sw.ad k4) K0 rR HX HW pG (by omega) iW (by omega) OK Sv hB3) ?_;rintro x5 H5 n5 k5 Lu;have k05:=(k03.trans k4).trans k5;rcases Lu with⟨a1,rfl⟩|⟨H,z,a1,rfl,a2⟩
 ·simp[ay];exact⟨k05,a1⟩
 simp[ay];exact⟨k05,H,a1,a2⟩
structure Xcr (b:List (List aH)) (n:Nat):Prop where
 pos:0<b.length
 le:b.length<=4
 row:∀r∈b,r.length=n/\kh r
def Yn5{n c:Nat}{B:Nat->Nat}(hG:aW G n)(hX:aW X c)(hl:G.length<=X.length)(Sv:∀k,bR (aK (dN G X) k).1 (B (aK (dN G X) k).2.1))(hZ:∀i,i<=n->B i<=Z)(hn:G.length<=n)(hs:ry G X n c=some H):bR H Z/\H.length<=n/\aW H c:=by
 have hW:=z_ hG hX hl;unfold ry at hs;split at hs
 ·cases hs
 obtain rfl:=px hs;have hd:=(qJ hW (n:=n+c)).2;rw[A6]at hd;refine⟨fun r Fh q hq=>?_,by rw[dL,vU hW];omega,fun r Fh=>?_⟩
 ·obtain⟨z,hz,rfl⟩:=bO.1 Fh;exact(Sv (n+c) z (AG hz) q (OX hq)).mono (hZ _ (by omega))
 obtain⟨z,hz,rfl⟩:=bO.1 Fh;rw[zX,IS hW z hz];omega
def Yg3{B:Nat->Nat}(hw:w.length=D.length)(Sv:∀k,bR (aK (dN (rQ D M w) (ot D M w)) k).1 (B (aK (dN (rQ D M w) (ot D M w)) k).2.1))(hZ:∀i,i<=M.length->B i<=Z)(hs:FN D M w=some H):bR H Z/\H.length<=M.length/\aW H D.length:=
 Yn5 K0 (by rw[<-hw];exact Nn) (by rw[HX,HW];exact aN _) Sv hZ (by rw[HX];exact aN _) hs
def Yw9{l:List V}:(l.map fun y=>[y]).flatten=l:=by
 induction l with
 |nil=>rfl
 |cons a t ih=>simp[ih]
variable {D:List (List Rat)} {K n s:Nat} {w:List Rat}
def A.w55:=A.q Tryz.f55
def A.ym:=A.ql A.w55 0 []
def A.b55:=(fun x0=>A.qb A.w55 [x0]) A.ym
def A.k55:=@A.kk 55 46 [.tmp 4] A.b55 (by kernel_rfl) rfl
def K3(n s k J K L:Nat):Nat:=(k+s)*(s*(n*(J+K+1)+1+(n*(J+K+1)+1+L)+1)+1)+1
def Ysd{L:Nat}(hM:aW M n)(hw:w.length=D.length)(qD:bR D K)(qM:bR M J)(qw:∀x∈w,Qb L x)(iW:0<D.length)(hJ:1<=J)(hK:1<=K)(hL:1<=L):At (dN (rQ D M w) (ot D M w)) (M.length+D.length) (K3 n D.length M.length J K L):=by
 have qS:=Yoa hM qD qM hJ hK;have hmul:n*(J+K+1)+1+L<=D.length*(n*(J+K+1)+1+(n*(J+K+1)+1+L)+1)+1:=by have:=Nat.le_mul_of_pos_left (n*(J+K+1)+1+(n*(J+K+1)+1+L)+1) iW;omega
 refine Nv (Yeu (Yw4 qS qw (by omega) hL) ((Yfx qS qw (by omega) hL).mono hmul)) (z_ K0 (by rw[<-hw];exact Nn) (by rw[HX,HW];exact aN _))
def zZ(n s:Nat):List (List Rat):=(List.range n).map fun _=>(List.range s).map fun _=>0
def lA(D:List (List Rat))(w:List Rat)(n:Nat):List (List Rat):=if (bH D n).length=0 then zZ n D.length else fb (dm (bH D n) n) (dm ((FN D (bH D n) w).getD []) D.length)
def Yep:zZ (n+1) s=zZ n s++[(List.range s).map fun _=>0]:=by unfold zZ;rw[List.range_succ,List.map_append];rfl
def Zy4:(zZ n s).length=n:=by simp[zZ]
def Zst(hD:aW D n)(hw:w.length=D.length)(hp:∀q∈w,0<q)(h0:0<(bH D n).length):∃J,So (rQ D (bH D n) w) (bH D n).length=some J/\FN D (bH D n) w=some (fb J (dm (ot D (bH D n) w) D.length)):=by
 have hl:=vU (n:=n) hD;obtain⟨J,hJ⟩:=Yar (K0 (D:=D) (M:=bH D n) (w:=w)) HX fun v hv j hj=>by unfold rQ ot at hv;rw[hl]at hv hj;exact Ypu hD hw hp hv j hj
 refine⟨J,hJ,?_⟩;unfold FN;rw[Yn6 K0 HX h0 (by rw[<-hw];exact Nn) HW,hJ];rfl
def Yod(hD:aW D n)(qD:bR D K)(hd:D.length<=d):bR (bH D n) (qK (n*K+1) d):=fun r hr q hq=>((SQ (Nv qD hD) hD (by omega) n) r (AG hr) q hq).mono (SR (nI (qJ hD).2 hd))
def Yf3{n d:Nat}(hn:n<=6)(hd:d<=6):qK (n*100+1) d<=4864:=by unfold qK;exact nI (oc (show d+2<=8 by omega) (show _<=608 by omega)) (by decide)
def Yoe{n s k:Nat}(hn:n<=6)(hs:s<=6)(hk:k<=6):qK (K3 n s k 4864 100 100) k<=34400000:=by
 unfold qK K3;obtain⟨A,hA⟩:∃A,A=n*(4864+100+1)+1+(n*(4864+100+1)+1+100)+1:=⟨_,rfl⟩;have Oe:A<=59684:=by omega
 rw[<-hA];obtain⟨B,hB⟩:∃B,B=s*A:=⟨_,rfl⟩;have Lc:B<=6*59684:=by rw[hB];exact oc hs Oe
 rw[<-hB];obtain⟨C,hC⟩:∃C,C=(k+s)*(B+1):=⟨_,rfl⟩;have hC2:C<=12*358105:=by rw[hC];exact oc (by omega) (by omega)
 rw[<-hC];obtain⟨E,hE⟩:∃E,E=C+1+k+1:=⟨_,rfl⟩;have hE2:E<=4297268:=by omega
 rw[<-hE];have:=oc (show k+2<=8 by omega) hE2;omega
def Yof{L:Nat}(hM:aW M n)(hw:w.length=D.length)(qD:bR D K)(qM:bR M J)(qw:∀x∈w,Qb L x)(iW:0<D.length)(hJ:1<=J)(hK:1<=K)(hL:1<=L)(k:Nat):bR (aK (dN (rQ D M w) (ot D M w)) k).1 (qK (K3 n D.length M.length J K L) (aK (dN (rQ D M w) (ot D M w)) k).2.1):=
 SQ (Ysd hM hw qD qM qw iW hJ hK hL) (z_ K0 (by rw[<-hw];exact Nn) (by rw[HX,HW];exact aN _)) (by unfold K3;omega) k
def Yv4{n s:Nat}(hn:n<=6)(hs:s<=6):s*(n*(4864+100+1)+1+(n*(4864+100+1)+1+100)+1)+1+2*(n*(4864+100+1)+1+100+1)<=400000000:=by
 obtain⟨A,hA⟩:∃A,A=n*(4864+100+1)+1+(n*(4864+100+1)+1+100)+1:=⟨_,rfl⟩;have Oe:A<=59684:=by omega
 rw[<-hA];obtain⟨C,hC⟩:∃C,C=s*A:=⟨_,rfl⟩;have hC2:C<=6*59684:=by rw[hC];exact oc hs Oe
 rw[<-hC];omega
def Zuk(hD:aW D n)(hw:w.length=D.length)(fP:0<n)(hn:n<=6)(iW:0<D.length)(hs:D.length<=6)(qD:bR D 100)(qw:∀x∈w,Qb 100 x)(hp:∀q∈w,0<q):bR (lA D w n) 300000000/\(lA D w n).length=n/\aW (lA D w n) D.length:=by
 have hle:=(qJ hD (n:=n)).2;have hr:=vU (n:=n) hD;by_cases h0:(bH D n).length=0
 ·unfold lA;rw[av h0];refine⟨fun r hr q hq=>?_,Zy4,fun r hr=>?_⟩
  ·obtain⟨_,_,rfl⟩:=bO.1 hr;obtain⟨_,_,rfl⟩:=bO.1 hq;exact Qb.zero.mono (by decide)
  obtain⟨_,_,rfl⟩:=bO.1 hr;simp
 have jD:0<(bH D n).length:=by omega
 obtain⟨J,hJ,hm⟩:=Zst hD hw hp jD;obtain⟨Hc,C8⟩:∃Hc,FN D (bH D n) w=some Hc:=⟨_,hm⟩;have rB:=IS (n:=n) hD;have qB:bR (bH D n) 4864:=(Yod hD qD (aN _)).mono (Yf3 hn hs);have hk6:(bH D n).length<=6:=by omega
 have jS:=@Yoe n D.length (bH D n).length hn hs hk6;have Lv:=Yof (J:=4864) (K:=100) (L:=100) rB hw qD qB qw iW (by decide) (by decide) (by decide);obtain⟨s1,s2,s3⟩:=Yg3 hw Lv (fun i hi=>nI (SR hi) jS) C8;have qT:bR (dm (bH D n) n) 4864:=fun r hr=>(Be qB (by decide) r hr).2;obtain⟨j0,Cv⟩:∃j0:Nat,j0=34400000:=⟨_,rfl⟩;rw[<-Cv]at s1;have uP:1<=j0:=by omega
 have hmul:Hc.length*(j0+4864+1)<=6*(j0+4864+1):=kg _ (by omega);unfold lA;rw[ak h0,C8];refine⟨?_,by rw[DZ,kR],by have:=@Li (dm (bH D n) n) (dm Hc D.length);rw[kR]at this;exact this⟩;exact(SX (n:=Hc.length) (j:=j0) (k:=4864) qT (fun r hr=>Be s1 uP r hr) uP (by decide)).mono (by omega)
def Yky{h:T O}{N:Nat}{v:V}(hu:fj h N u D)(hv:dR h N v w)(hD:aW D n)(hw:w.length=D.length)(fP:0<n)(hn:n<=6)(iW:0<D.length)(hs:D.length<=6)(qD:bR D 100)(qw:∀x∈w,Qb 100 x)(hp:∀q∈w,0<q):Fn A.C 55 [u,v] h N (fun x h' n'=>fj h' n' x (lA D w n)/\bR (lA D w n) 300000000/\(lA D w n).length=n/\aW (lA D w n) D.length):=by
 intro W;obtain⟨l0,dk⟩:=bs iW;have lu:=hu.len;have hle:=(qJ hD (n:=n)).2;have hr:=vU (n:=n) hD;rw[aP,A.k55 (by simp)];simp(disch:=first|(simp;done)|omega|rfl) [-getElem?_pos,A.b55];refine au (Zry (B:=qK (n*100+1)) hu hD (by omega) iW (by omega) (fun _=>Yy) (fun k=>SQ (Nv qD hD) hD (by omega) k) (fun i h1 h2=>by have:=@Yf3 n i hn (by omega);omega)) ?_;rintro _ H1 n1 k1 ⟨rv,pv,rfl,Ao,_⟩;have yJ:=k1.le;obtain⟨i2,o2,c2,e2,w2,a,q1,q2,q3,q4,q5⟩:=IT (hu.ad k1) dk;rw[iX]at q4;have la:=q5.1.len;rw[hD l0 (cP dk)]at la;have lrv:=Ao.len;by_cases h0:(bH D n).length=0
 ·have hQ:lA D w n=zZ n D.length:=by unfold lA;rw[av h0]
  simp(disch:=first|(simp;done)|omega|rfl) [-getElem?_pos,lu,q1,q3,q4,la,lrv,h0];refine cB [(8,8),(24,32)] (fun e r st=>e=.exit 0/\az n1 st.w=[]/\ab H1 n1 st.h st.n/\∃v,r.get 8=some v/\iF n1 st.h st.n v (zZ n D.length)) (fun i r st=>az n1 st.w=[]/\ab H1 n1 st.h st.n/\∃k v,k+i=n/\r.get 24=some (.int .i64 (k:Nat))/\r.get 8=some v/\iF n1 st.h st.n v (zZ k D.length)) n ?_ ?_ ?_
  ·exact⟨by simp,ab.refl,0,_,by omega,by simp,by simp,iF.nil⟩
  ·rintro i r ⟨H,m,W⟩ hr hf ⟨hW,hK,k,v,hk,h24,h8,hO⟩;simp only at hW hK hO;rw[bG];have ln:=hK.le;cases i with
   |zero=>
    obtain rfl:k=n:=by omega
    simp(disch:=first|(simp;done)|omega|rfl) [-getElem?_pos,A.ym,hr,hf,h24,h8,hW,hK];exact hO
   |succ i=>
    have bV:(k:Int)<(n:Int):=by omega
    simp(disch:=first|(simp;done)|omega|rfl) [-getElem?_pos,A.ym,hr,h24,h8,bV,lu];refine au (Yjv (by omega)) ?_;rintro _ H2 n2 k2 ⟨rfl,s2⟩;have lf:=k2.le;have fr:=s2.LP;rw[dL,List.length_range]at fr;have zM:ae [V.aa] 0 [.slice m 0 D.length (some D.length) 4]=[.slice m 0 D.length (some D.length) 4]:=rfl;have kD:ab H2 n2 (H2.set n2 (.cells [.slice m 0 D.length (some D.length) 4] 90 true)) (n2+1):=ab.refl.new _;obtain⟨v',h',w',j1,j2,j3,j4⟩:=iF.push (N0:=n1) (x:=.slice n2 0 1 (some 1) 1) (w:=W) ((hO.ad k2).ad kD) (fr.ad kD) (by omega) (by simp[fO,St.row,aO]) (by rw[Zy4];omega);simp(disch:=first|(simp;done)|omega|rfl) [-getElem?_pos,hf,h24,zM,LR,j1,j2,hW];exact⟨i,by omega,(((hK.trans k2).trans kD).then j3),k+1,by omega,by simp,by rw[Yep];exact j4⟩
  rintro _ r ⟨H,m,W⟩ hr ⟨rfl,hW,hK,v,h8,hO⟩;simp only at hW hK hO;simp(disch:=first|(simp;done)|omega|rfl) [-getElem?_pos,h8,ay];refine⟨Y9 hW yJ,k1.trans hK,?_⟩;refine⟨?_,Zuk hD hw fP hn iW hs qD qw hp⟩;rw[hQ];exact hO.AA
 have jD:0<(bH D n).length:=by omega
 obtain⟨J,hJ,hm⟩:=Zst hD hw hp jD;have hQ:lA D w n=fb (dm (bH D n) n) (dm ((FN D (bH D n) w).getD []) D.length):=by unfold lA;rw[ak h0]
 obtain⟨Hc,C8⟩:∃Hc,FN D (bH D n) w=some Hc:=⟨_,hm⟩;have rB:=IS (n:=n) hD;have jl:=@Yf3 n D.length hn hs;have qB:bR (bH D n) 4864:=(Yod hD qD (aN _)).mono jl;have hk6:(bH D n).length<=6:=by omega
 have jS:=@Yoe n D.length (bH D n).length hn hs hk6;have Lv:=Yof (J:=4864) (K:=100) (L:=100) rB hw qD qB qw iW (by decide) (by decide) (by decide);obtain⟨s1,s2,s3⟩:=Yg3 hw Lv (fun i hi=>nI (SR hi) jS) C8;have nS:=@Yv4 n D.length hn hs;have hlen:Hc.length=(bH D n).length:=(YH K0 HX (by rw[<-hw];exact Nn) HW jD C8).1;simp(disch:=first|(simp;done)|omega|rfl) [-getElem?_pos,lu,q1,q3,q4,la,lrv,h0];refine au (Ylt (B:=qK (K3 n D.length (bH D n).length 4864 100 100)) (n:=n) (J:=4864) (K:=100) (L:=100) (hu.ad k1) (hv.ad k1) Ao hD rB hw fP (by omega) iW (by omega) jD (by omega) qD qB qw (by decide) (by decide) (by decide) nS (fun _=>Yy) Lv (fun i hi=>by have:=@SR (K3 n D.length (bH D n).length 4864 100 100) i (bH D n).length (by omega);omega)) ?_;rintro x2 H2 n2 k2 zH;rcases zH with⟨a1,_⟩|⟨Hc',z,a1,rfl,a2⟩
 ·rw[C8]at a1;cases a1
 rw[C8]at a1;obtain rfl:=px a1;simp(disch:=first|(simp;done)|omega|rfl) [-getElem?_pos];refine au (TH (Ao.ad k2) (by omega) rB (by omega)) ?_;rintro x3 H3 n3 k3 F6;simp(disch:=first|(simp;done)|omega|rfl) [-getElem?_pos];have qT:bR (dm (bH D n) n) 4864:=fun r hr=>(Be qB (by decide) r hr).2;obtain⟨j0,Cv⟩:∃j0:Nat,j0=34400000:=⟨_,rfl⟩;rw[<-Cv]at s1;have uP:1<=j0:=by omega
 have hmul:Hc.length*(j0+4864+1)<=6*(j0+4864+1):=kg _ (by omega);refine au (Zw9 (n:=(bH D n).length) (c:=D.length) (j:=j0) (k:=4864) F6.AA (a2.ad k3) F3 s3 (by omega) (by omega) (by rw[kR];omega) (by omega) (by omega) qT s1 uP (by decide) (by omega)) ?_;rintro x4 H4 n4 k4 D7;simp(disch:=first|(simp;done)|omega|rfl) [-getElem?_pos,ay];refine⟨((k1.trans k2).trans k3).trans k4,?_,Zuk hD hw fP hn iW hs qD qw hp⟩;rw[hQ,C8];exact D7
def A.b13:=A.q Tryz.f13
def A.k13:=@A.kk 13 21 [.tmp 4,.tmp 5] A.b13 (by kernel_rfl) rfl
def A.w15:=A.q Tryz.f15
def A.yn:=A.ql A.w15 0 []
def A.b15:=(fun x0=>A.qb A.w15 [x0]) A.yn
def A.c15:A.F 15=some ⟨21,[.tmp 4],A.b15⟩:=by kernel_rfl
def A.k15:=@A.kk 15 _ _ _ A.c15 rfl
def Xbc(m:List (List aH))(l:List aH):List (List Rat):=lA (cF m) (bj l) (bg m)
def Ybc(h:sW l n 1=0):∀q∈bj l,0<q:=fun q hq=>by
 obtain⟨s,hs,rfl⟩:=bO.1 hq
 unfold sW at h
 split at h
 ·have h1:=wU h _ (bO.2 ⟨s,hs,rfl⟩)
  unfold jm at h1
  split at h1
  ·split at h1
   ·cases h1
   ·rename_i hc
    have hn:0<(e_ s).num:=by
     unfold dB at hc
     by_cases c1:(e_ s).num<0
     ·rw[av c1]at hc
      omega
     ·by_cases c2:(e_ s).num=0
      ·rw[ak c1,av c2]at hc
       omega
      ·omega
    rw[Rat.lt_iff]
    show (0:Int)*_<(e_ s).num*1
    omega
  ·rename_i hc
   omega
 ·cases h
def Ynz{h:T O}{N:Nat}{v:V}{m:List (List aH)}(hm:fE h N u m)(hl:Sl h N v (strs l))(hP:iT h N)(sm:pH 6 6 m=true)(sl:ef 6 l=true):Fn A.C 13 [u,v] h N (fun x h' n'=>∃z c,x=.aU [z,.int .i64 c]/\Ls (yH m l) (Xbc m l) z c h' n'):=by
 intro W;obtain⟨m1,m2⟩:=Tc sm;obtain⟨l1,l2⟩:=F5 sl;rw[aP,A.k13 (by simp)];simp[A.b13];refine au (Yiy hm hl m1 m2 l1 l2) ?_;rintro _ H2 n2 k2 rfl;by_cases hE:yH m l=0
 ·obtain⟨hM,zl,hL⟩:=Td hE sm sl;have qz:=Ybc (wU hE (sW l m.length 1) (by simp));have n6:=hM.n6;have mle:=hM.le;have qM:bR (cF m) 100:=fun r hr=>(hM.rat r hr).2;have lM:(cF m).length=m.length:=NY;have lL:(bj l).length=(cF m).length:=by simp[bj,cF,zl]
  simp[hE];refine au (NS (k0:=100) ((hm.ad k2).rat fun r hr=>(hM.row r hr).2) (by omega) (fun r hr=>by obtain⟨a1,a2⟩:=hM.rat r hr;exact⟨by omega,a2⟩) (by decide)) ?_;rintro x3 H3 n3 k3 F6;simp[];refine au (F4 (l:=bj l) (k0:=100) (kh.sl (hl.ad (k2.trans k3)) hL) (by omega) hL.qb (by decide)) ?_;rintro x4 H4 n4 k4 D7;simp[];refine au (Yky (F6.ad k4) D7 hM.qb.1 lL hM.n1 n6 (by have:=hM.pos;omega) (by omega) qM hL.qb qz) ?_;rintro x5 H5 n5 k5 ⟨Lu,g1,g2,g3⟩;have kE:=((k2.trans k3).trans k4).trans k5;simp[];refine au (Zzq (k:=300000000) Lu (hP.ad kE) (by rw[g2];omega) (fun r hr=>by rw[g3 r hr];omega) g1 (by decide)) ?_;rintro x7 H7 n7 k7 Y8;have kF:=kE.trans k7;rcases Y8 with⟨t1,rfl⟩|⟨t1,v2,rfl,t2⟩
  ·simp[ay];exact⟨kF,.aa,4,⟨rfl,rfl⟩,.inr ⟨rfl,.inl ⟨t1,rfl,rfl⟩⟩⟩
  simp[ay];exact⟨kF,v2,0,⟨rfl,rfl⟩,.inr ⟨rfl,.inr ⟨t1,rfl,t2⟩⟩⟩
 simp[hE,ay];exact⟨k2,.aa,_,⟨rfl,rfl⟩,.inl ⟨hE,rfl,rfl⟩⟩
def Yqz{h:T O}{N:Nat}{v:V}{l:List (List aH)}(hs:fE h N v l)(hl:l.length<100000)(hx:∀x∈l,x.length<100000/\∀s∈x,s.length<=100000):Fn A.C 15 [v,.int .i64 n] h N (fun u _ _=>u=.int .i64 (cM (l.map fun x=>dM x n))):=by
 intro w;have lg:=hs.len;rw[aP,A.k15 (by simp)];simp[A.b15,lg];refine cB [(4,4),(6,7),(10,20)] (fun e r st=>az N st.w=[]/\ab h N st.h st.n/\((e=.exit 0/\cM (l.map fun x=>dM x n)=0)\/(e=.ret/\r.get 4=some (.int .i64 (cM (l.map fun x=>dM x n)))))) (fun m r st=>az N st.w=[]/\ab h N st.h st.n/\∃k,k+m=l.length/\r.get 10=some (.int .i64 k)/\cM (l.map fun x=>dM x n)=cM ((l.drop k).map fun x=>dM x n)) l.length ?_ ?_ ?_
 ·exact⟨by simp,ab.refl,0,by omega,by simp,by simp⟩
 ·rintro m r ⟨H,n1,W⟩ hr eI ⟨hW,hK,k,hk,h5,hz⟩;simp only at hW hK;rw[bG];cases m with
  |zero=>
   obtain rfl:k=l.length:=by omega
   rw[rE,yY,cM]at hz;simp[A.yn,hr,eI,h5,hz,hW,hK]
  |succ m=>
   have aD:k<l.length:=by omega
   obtain⟨s,hc⟩:=bs aD;obtain⟨i,o,cc,e,rw,u,q1,q2,q3,q4,q5⟩:=(hs.ad hK).at hc;obtain⟨x1,x2⟩:=hx s (cP hc);rw[oh hc,pU,cM]at hz;have dj:(k:Int)<(l.length:Int):=by omega
   simp[A.yn,hr,h5,dj,lg,q1,q3,q4];refine au (LC q5 x1 x2) ?_;rintro _ h3 n3 k3 rfl;have kk:=hK.trans k3;by_cases h0:dM s n=0
   ·rw[av h0]at hz;simp(disch:=first|(simp;done)|omega|rfl) [eI,h5,h0,hW];exact⟨m,by omega,kk,k+1,by omega,by simp,by simpa using hz⟩
   rw[ak h0]at hz;simp[eI,h0,hW,hz];exact kk
 rintro _ r ⟨H,n1,W⟩ hr ⟨hW,hK,⟨rfl,hz⟩|⟨rfl,h2⟩⟩
 ·simp only at hW hK;simp[hz,ay,hW,hK]
 simp only at hW hK;simp[h2,ay,hW,hK]
variable {K:Nat}
structure Ly (A B:Nat) (q:Rat):Prop where
 num:q.num.natAbs<=A
 den:q.den<=B
def Ly.zQ{A B a b:Nat}{q:Rat}(h:Ly A B q)(hA:A<10^a)(hB:B<10^b)(ha:0<a)(hb:0<b):(aI q).length<=a+b+2:=by
 have h1:=(C5 (n:=q.num.natAbs) ha).2 (pT h.num hA);have h2:=(C5 (n:=q.den) hb).2 (pT h.den hB);have h3:(aM q.num).length<=(aq q.num.natAbs).length+1:=by unfold aM;split<;>simp
 unfold aI;split
 ·omega
 simp;omega
def Ly.big{A B:Nat}{q:Rat}(h:Ly A B q)(hA:A<10^600)(hB:B<10^600):vV q=false:=by have h1:=(C5 (n:=q.num.natAbs) (k:=600) (by decide)).2 (pT h.num hA);have h2:=(C5 (n:=q.den) (k:=600) (by decide)).2 (pT h.den hB);unfold vV;simp;omega
def Zvw{m:List (List aH)}{r c:Nat}(h:gX m r c=0):0<m.length/\0<bg m/\m.length<=r/\bg m<=c/\∀l∈m,l.length=bg m/\∀s∈l,aR s=0:=by
 unfold gX at h;split at h
 ·cases h
 rename_i h1;split at h
 ·cases h
 rename_i h2;refine⟨by omega,by omega,by omega,by omega,fun l hl=>?_⟩;have h3:=wU h _ (List.mem_map_of_mem hl);unfold dM at h3;split at h3
 ·rename_i h4;refine⟨h4,fun s hs=>?_⟩;have:=wU h3 _ (List.mem_map_of_mem hs);simpa using this
 cases h3
def Yk0{m:List (List aH)}(h:∀l∈m,∀s∈l,aR s=0):m=(cF m).map fun r=>r.map aI:=by
 unfold cF;rw[List.map_map];conv=>lhs;rw[<-List.map_id m]
 apply Ax;intro l hl;show l=(bj l).map aI;unfold bj;rw[List.map_map];conv=>lhs;rw[<-List.map_id l]
 apply Ax;intro s hs;exact(Gd (h l hl s hs)).1.symm
def Xbd{c:Nat}(h:K<=3*c):2^K<=8^c:=nI (rL (by decide) h) (Nat.le_of_eq (Nat.pow_mul 2 3 c))
def Yyz{c:Nat}(h:c≠0):8^c<10^c:=Nat.pow_lt_pow_left (by decide) h
def Yv6{c:Nat}{q:Rat}(h:Qb K q)(hK:K<=3*c)(hc:c≠0):q.num.natAbs<10^c/\q.den<10^c:=by have e:=pT (Xbd hK) (Yyz hc);exact⟨Nat.lt_trans h.1 e,Nat.lt_trans h.2 e⟩
def wO{q:Rat}(h:Qb K q)(hK:K<=1800):vV q=false/\(aI q).length<=1202:=by obtain⟨e1,e2⟩:=Yv6 (c:=600) h (by omega) (by decide);have hb:Ly q.num.natAbs q.den q:=⟨aN _,aN _⟩;exact⟨hb.big e1 e2,by have:=hb.zQ (a:=600) (b:=600) e1 e2 (by decide) (by decide);omega⟩
def S7{s:List Rat}:bj (s.map aI)=s:=by unfold bj;rw[List.map_map];have:(e_∘aI)=id:=funext fun q=>S9 q;rw[this,List.map_id]
def CZ:∀{l:List Int},(∀x∈l,x=0)->cM l=0
 |[],_=>rfl
 |x::l,h=>by
  rw[h x (by simp)]
  exact CZ (l:=l) fun y hy=>h y (by simp[hy])
def S8{l:List Rat}(h:∀q∈l,Qb 1800 q):dM (l.map aI) l.length=0:=by
 unfold dM;rw[av (dL ..)];apply CZ;intro x hx;rw[List.map_map]at hx;obtain⟨q,hq,rfl⟩:=bO.1 hx;have e:aR (aI q)=0:=by rw[NU,(wO (h q hq) (aN _)).1];rfl
 simp[e]
def YR{B:List (List Rat)}(h:bR B 1800)(hc:aW B n):cM ((B.map fun r=>r.map aI).map fun x=>dM x n)=0:=by apply CZ;intro x hx;rw[List.map_map]at hx;obtain⟨r,hr,rfl⟩:=bO.1 hx;show dM (r.map aI) n=0;rw[<-hc r hr];exact S8 (h r hr)
def NR(h:dM l n=0):l.length=n:=by
 unfold dM at h;split at h
 ·assumption
 exact absurd h (by decide)
def uF.YQ{h:T O}{N:Nat}{v:V}{B:List (List Rat)}(s:uF h N v B):fE h N v (B.map fun r=>r.map aI):=by
 obtain⟨us,h1,h2,h3⟩:=s;refine⟨us,h1,by simpa using h2,fun j l hl=>?_⟩;rw[eH]at hl;cases e:B[j]? with
 |none=>rw[e]at hl;simp at hl
 |some r=> rw[e]at hl;simp only[qH,ar]at hl;subst hl;exact h3 j r e
variable {N n:Nat} {h:T O} {m:List (List aH)} {s x:List aH} {v:V}
structure AE (l:List aH):Prop where
 zQ:l=(bj l).map aI
 q:∀q∈bj l,Qb 1800 q
 len:l.length<1000
def AE.lim(h:AE l):l.length<100000/\∀s∈l,s.length<=100000:=by refine⟨by have:=h.len;omega,fun s hs=>?_⟩;rw[h.zQ]at hs;obtain⟨q,hq,rfl⟩:=bO.1 hs;have:=(wO (h.q q hq) (aN _)).2;omega
def AE.sl(b:AE l)(hs:Sl h N v (strs l)):Tx h N v (bj l):=by unfold Tx tx;rw[<-b.zQ];exact hs
def AE.mk2{x:List Rat}(hx:∀q∈x,Qb 1800 q)(hl:x.length<1000):AE (x.map aI):=⟨by rw[S7],by rw[S7];exact hx,by rw[dL];exact hl⟩
def Yty{w:List aH}(h:OG m w s x=0)(sm:pH 6 6 m=true)(sw:ef 6 w=true)(ss:ef 6 s=true):C6 m (bg m)/\(w.length=m.length/\kh w)/\(s.length=m.length/\kh s)/\x.length=bg m:=by obtain⟨h1,h2,h3⟩:=Td (wU h (yH m w) (by simp)) sm sw;exact⟨h1,⟨h2,h3⟩,Ybd (wU h (dM s m.length) (by simp)) ss,NR (wU h (dM x (bg m)) (by simp))⟩
def Yry(h:C6 m n)(hL:AE l):∀q∈(cF m).map (fun r=>ed r (bj l)),Qb 11407 q:=fun q hq=>by
 obtain⟨r,hr,rfl⟩:=bO.1 hq
 obtain⟨a1,a2⟩:=h.rat r hr
 exact D6 (n:=6) (j:=100) (k:=1800) a2 hL.q (by decide) (by decide) (by have:=h.n6;omega)
def Zzk(hM:C6 m n)(hs:kh s)(hx:AE x)(hn:x.length=n):∀q∈C2 m s x,Qb 11508 q:=Yqb hs.qb (Yry hM hx) (by decide) (by decide)
def Ync{w:List aH}(hM:C6 m (bg m))(hw:kh w)(hs:kh s)(hx:AE x)(hn:x.length=bg m)(hl:s.length<=6):Qb 138703 (F8 m w s x):=by have h1:=Zzk hM hs hx hn;have h2:=D6 (n:=6) (Lj (n:=(C2 m s x).length) h1 hw.qb (by decide) (by decide)) h1 (by decide) (by decide) (by rw[OH,Zzj];exact hl);exact h2.mono (by decide)
def Zuh{m:List (List Rat)}(hu:fj h N u m)(hv:iM h N v a)(hy:iM h N y b)(hm:∀r∈m,r.length=n/\∀q∈r,Qb 100 q)(hn:n=b.length)(n6:n<=6)(ha:∀q∈a,Qb 100 q)(hb:∀q∈b,Qb 1800 q)(jR:m.length<1000)(uX:a.length=m.length):Fn A.C 76 [u,v,y] h N (fun x h' n'=>dR h' n' x (xg a (m.map fun r=>ed r b))):=by
 intro w;rw[aP,A.k76 (by simp)];simp[A.b76];refine au (YV (n:=n) (j:=100) (k:=1800) hu hy hm (by omega) hb (by decide) (by decide) (by omega) (by omega)) ?_;rintro x H2 n2 k2 hx;simp[];refine au (Ymd (j:=100) (k:=11407) (hv.ad k2) hx.1 (by simp;omega) ha (fun q hq=>?_) (by decide) (by decide) (by omega)) ?_
 ·obtain⟨r,hr,rfl⟩:=bO.1 hq;obtain⟨a1,a2⟩:=hm r hr;have hd:=D6 (n:=6) (j:=100) (k:=1800) a2 hb (by decide) (by decide) (by omega);exact hd.mono (by decide)
 rintro z H3 n3 k3 hz;simp[ay];exact⟨k2.trans k3,hz⟩
def Ya9{z:V}(hm:fE h N u m)(hv:Sl h N v (strs ws))(hy:Sl h N y (strs s))(hz:Sl h N z (strs x))(hP:iT h N)(sm:pH 6 6 m=true)(sw:ef 6 ws=true)(ss:ef 6 s=true)(sx:AE x):Fn A.C 17 [u,v,y,z] h N (fun t _ _=>YZ (OG m ws s x) (F8 m ws s x) t):=by
 intro w;obtain⟨m1,m2⟩:=Tc sm;obtain⟨w1,w2⟩:=F5 sw;obtain⟨l1,l2⟩:=F5 ss;obtain⟨x1,x2⟩:=sx.lim;obtain⟨o4,o5⟩:=hm.one;have o2:=hv.form.one;have o3:=hv.form.cells;have o6:=hy.form.one;have o7:=hy.form.cells;have o8:=hz.form.one;have o9:=hz.form.cells;rw[aP,A.k17 (by simp)];unfold V.one at o2 o4 o6 o8;unfold V.cells at o3 o5 o7 o9;simp[A.b17,o2,o3,o4,o5,o6,o7,o8,o9,ae];generalize hH:((((h.set N (.cells [u] 22 true)).set (N+1) (.cells [v] 23 true)).set (N+1+1) (.cells [y] 23 true)).set (N+1+1+1) (.cells [z] 23 true)).set (N+1+1+1+1) (.cells [.func 73 [] [.ptr N 0,.ptr (N+1) 0],.func 74 [] [.ptr (N+1+1) 0,.ptr N 0],.func 75 [] [.ptr (N+1+1+1) 0,.ptr N 0]] 93 true)=H;have kB:ab h N H (N+1+1+1+1+1):=by rw[<-hH];exact((((ab.refl.new _).new _).new _).new _).new _
 have g0:H.get N=some (.cells [u] 22 true):=by rw[<-hH];simp
 have g1:H.get (N+1)=some (.cells [v] 23 true):=by rw[<-hH];simp
 have g2:H.get (N+1+1)=some (.cells [y] 23 true):=by rw[<-hH];simp
 have g3:H.get (N+1+1+1)=some (.cells [z] 23 true):=by rw[<-hH];simp
 have g4:H.get (N+1+1+1+1)=some (.cells [.func 73 [] [.ptr N 0,.ptr (N+1) 0],.func 74 [] [.ptr (N+1+1) 0,.ptr N 0],.func 75 [] [.ptr (N+1+1+1) 0,.ptr N 0]] 93 true):=by rw[<-hH];simp
 clear hH;have hs:Sl H (N+1+1+1+1+1) (.slice (N+1+1+1+1) 0 3 (some 3) 1) [.func 73 [] [.ptr N 0,.ptr (N+1) 0],.func 74 [] [.ptr (N+1+1) 0,.ptr N 0],.func 75 [] [.ptr (N+1+1+1) 0,.ptr N 0]]:=Sl.row (by omega) g4 rfl (fun k hk=>by simp at hk;omega);have key:=NQ (l:=[yH m ws,dM s m.length,dM x (bg m)]) hs rfl (by simp) (Zz3 (P:=fun f e=>∀h' n',ab H (N+1+1+1+1+1) h' n'->fW A.C f [] h' n' (fun u _ _=>u=.int .i64 e)) (fun h' n' hk=>Ynj ((hk.get N (by omega)).trans g0) (by have:=hk.le;omega) ((hk.get (N+1) (by omega)).trans g1) (by have:=hk.le;omega) ((hm.ad kB).ad hk) m1 m2 ((hv.ad kB).ad hk) w1 w2) (fun hz h' n' hk=>Yni ((hk.get (N+1+1) (by omega)).trans g2) (by have:=hk.le;omega) ((hk.get N (by omega)).trans g0) (by have:=hk.le;omega) ((hm.ad kB).ad hk) m1 m2 ((hy.ad kB).ad hk) l1 l2) (fun hp _ h' n' hk=>Ynh ((hk.get (N+1+1+1) (by omega)).trans g3) (by have:=hk.le;omega) ((hk.get N (by omega)).trans g0) (by have:=hk.le;omega) ((hm.ad kB).ad hk) m1 m2 ((hz.ad kB).ad hk) x1 x2 (Td hp sm sw).1.pos));change Fn A.C 58 _ H _ (fun u _ _=>u=.int .i64 (OG m ws s x))at key;refine au key ?_;rintro _ H2 n2 k2 rfl;have lf:=k2.le;by_cases hE:OG m ws s x=0
 ·obtain⟨hM,⟨z1,hW⟩,⟨z2,hS⟩,z3⟩:=Yty hE sm sw ss;have n6:=hM.n6;have m6:=hM.le;have g4:=(k2.get N (by omega)).trans g0;have g5:=(k2.get (N+1) (by omega)).trans g1;have g6:=(k2.get (N+1+1) (by omega)).trans g2;have g7:=(k2.get (N+1+1+1) (by omega)).trans g3;have kC:=kB.trans k2;have d1:N<n2:=by omega
  have d2:N+1<n2:=by omega
  have d3:N+1+1<n2:=by omega
  have d4:N+1+1+1<n2:=by omega
  simp[hE,g4];refine au (NS (k0:=100) ((hm.ad kC).rat fun r hr=>(hM.row r hr).2) (by simp[cF];omega) (fun r hr=>by obtain⟨a1,a2⟩:=hM.rat r hr;exact⟨by omega,a2⟩) (by decide)) ?_;rintro q H3 n3 k3 hq;have yG:=k3.le;have e6:=(k3.get (N+1+1) (by omega)).trans g6;have e7:=(k3.get (N+1+1+1) (by omega)).trans g7;have d5:N+1+1<n3:=by omega
  have d6:N+1+1+1<n3:=by omega
  simp[e6];refine au (F4 (l:=bj s) (k0:=100) (kh.sl ((hy.ad kC).ad k3) hS) (by simp[bj];omega) hS.qb (by decide)) ?_;rintro t H4 n4 k4 ht;have Bj:=k4.le;have e8:=(k4.get (N+1+1+1) (by omega)).trans e7;have d7:N+1+1+1<n4:=by omega
  simp[e8];refine au (F4 (l:=bj x) (k0:=1800) (sx.sl (((hz.ad kC).ad k3).ad k4)) (by simp[bj];omega) sx.q (by decide)) ?_;rintro p H5 n5 k5 hp;have Ix:=k5.le;simp[];refine au (Zuh (n:=bg m) ((hq.ad k4).ad k5) (ht.1.ad k5) hp.1 hM.rat (by simp[bj,z3]) n6 hS.qb sx.q (by simp[cF];omega) (by simp[bj,cF,z2])) ?_;rintro r H6 NT k6 hr;change dR H6 NT r (C2 m s x)at hr;have Y3:=k6.le;have kD:=(((kC.trans k3).trans k4).trans k5).trans k6;have e9:H6.get (N+1)=some (.cells [v] 23 true):=(((((k6.get _ (by omega)).trans (k5.get _ (by omega))).trans (k4.get _ (by omega))).trans (k3.get _ (by omega)))).trans g5;simp[];refine(wP (by simp[-az,d1,d5,d7]<;>omega)).2 ?_;simp[e9];refine au (F4 (l:=bj ws) (k0:=100) (kh.sl (hv.ad kD) hW) (by simp[bj];omega) hW.qb (by decide)) ?_;rintro c H7 n7 k7 hc;have le7:=k7.le;simp[];have rq:=Zzk hM hS sx z3;have rl:(C2 m s x).length=s.length:=Zzj;refine au (YD (j:=11508) (k:=100) (hr.1.ad k7) hc.1 (by rw[rl];simp[bj];omega) rq hW.qb (by decide) (by decide) (by omega)) ?_;rintro b H8 n8 k8 hb;have le8:=k8.le;simp[];refine au (Yid (j:=11608) (k:=11508) hb.1 ((hr.1.ad k7).ad k8) (by rw[OH];omega) (Lj rq hW.qb (by decide) (by decide)) rq (by decide) (by decide) (by rw[OH];omega)) ?_;rintro _ H9 n9 k9 hx9;obtain⟨cc,rfl,jT⟩:=hx9.c;have le9:=k9.le;have cq:=Ync hM hW hS sx z3 (by omega);change fI H9 n9 cc (F8 m ws s x)at jT;obtain⟨f1,f2⟩:=jT.len;have BB:(V.agg cc).cells=cc:=rfl;have e4:ae [V.int .i64 0,.aa,.int .i64 0,.aa] 0 cc=cc:=by unfold ae;rw[f1];simp
  have kN:ab H9 n9 ((H9.set n9 (.cells zF 101 true)).set n9 (.cells cc 101 true)) (n9+1):=(ab.refl.new _).set (aN _);unfold zF at kN;have s0:aO cc 0 4=some cc:=by unfold aO;rw[f1];simp;exact gm (by omega)
  simp[-V.cells, -V.one,bM,BB,f1,f2,e4,s0];generalize hG:(H9.set n9 (.cells [.int .i64 0,.aa,.int .i64 0,.aa] 101 true)).set n9 (.cells cc 101 true)=G at*;have gG:G.get n9=some (.cells cc 101 true):=by rw[<-hG];simp
  clear hG;have kE:=(((kD.trans k7).trans k8).trans k9).trans kN;have hfc:=(jT.ad kN).fc;refine au (YO hfc (hP.ad kE) cq (by decide)) ?_;rintro _ Ha na ka rfl;have lea:=ka.le;have gH:=(ka.get n9 (by omega)).trans gG;cases hb:vV (F8 m ws s x)with
  |true=> simp[ay];exact⟨by omega,kE.trans ka,.inr ⟨rfl,.inl ⟨hb,rfl⟩⟩⟩
  |false=> have q1:=D5 cq.1;have q2:=D5 cq.2;simp[gH,s0];refine au (YN (hfc.ad ka) (hP.ad (kE.trans ka)) (by omega) (by omega)) ?_;rintro _ Hb nb kb rfl;simp[ay];exact⟨by omega,(kE.trans ka).trans kb,.inr ⟨rfl,.inr ⟨hb,rfl⟩⟩⟩
 simp[hE,ay];exact⟨kB.trans k2,.inl ⟨hE,rfl⟩⟩
def Xax(n:Nat)(x:List aH):Bool:=x.all fun s=>decide (s.length<=n)
def Xaw(n:Nat)(l:List (List aH)):Bool:=l.all (Xax n)
def Xaj(h:T O)(N:Nat)(us:List V)(m:List (List aH)):Prop:=us.length=m.length/\∀(j:Nat) (l:List aH),m[j]?=some l->∃u,us[j]?=some u/\Sl h N u (strs l)
def fE.rows(s:fE h N v m):∃us,Sl h N v us/\Xaj h N us m:=by obtain⟨us,a,b,c⟩:=s;exact⟨us,a,b,c⟩
end
end Go.Mx
