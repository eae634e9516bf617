/-reconstruct-/
import Derived.Test.YtgccnjdneojagaaGreatDoorCrB
set_option linter.all false
set_option maxHeartbeats 4000000
namespace Go.Mx
noncomputable section
open Go Go.Proofs
set_option maxRecDepth 1000000
def Yva{h:T O}{N B P Cb c j0 k0:Nat}{r:T V}{u wv:V}{m:List (List Rat)}{tf:List Rat}{e e2:TypeId}{w:List Nat}{Nc:Bool}(hu:fN h N u m)(hBh:h.get B=some (.cells [.aa] 79 true))(Y4:B<N)(hP:h.get P=some (.cells [wv] e2 Nc))(Y5:P<N)(hPB:¬P=B)(hC:h.get Cb=some (.cells [u] e true))(hCN:Cb<N)(hCB:¬Cb=B)(iJ:0<m.length)(iH:m.length<1000)(hc:aU m c)(iy:0<c)(cM:c<1000)(hw:d_ h N wv tf)(rV:tf.length=m.length)(qa:bH m j0)(qb:∀q∈tf,Qb k0 q)(uG:1<=j0)(hj:j0<=400000000)(oh:k0<=400000000)(h5:r.get 5=some (.ptr B 0))(h3:r.get 3=some (.ptr P 0))(YY:ay B w=[]):
  Call A.C (.func 187 [] [.ptr Cb 0]) [.yield (N+1)] ⟨(h.set N (.defs true)).set (N+1) (.loop (wR r N)),N+1+1,w⟩ (fun _ st=>ay B st.w=[]/\N+2<=st.n/\(∀i,i<N->¬i=B->st.h.get i=h.get i)/\st.h.get N=some (.defs true)/\∃R v,st.h.get (N+1)=some (.loop R)/\R.st=.ready/\R.fz=none/\st.h.get B=some (.cells [v] 79 true)/\gg (N+2) st.h st.n v (As m tf c)):=by
 have gD:((h.set N (.defs true)).set (N+1) (.loop (wR r N))).get N=some (.defs true):=by rw[T.ag,ak (by omega),T.ag,av rfl]
 have gL:((h.set N (.defs true)).set (N+1) (.loop (wR r N))).get (N+1)=some (.loop (wR r N)):=by rw[T.ag,av rfl]
 have kG:ab h N ((h.set N (.defs true)).set (N+1) (.loop (wR r N))) (N+2):=(ab.refl.new _).new _;generalize (h.set N (.defs true)).set (N+1) (.loop (wR r N))=G at*;have gC:=(kG.get Cb hCN).trans hC;have gB:=(kG.get B Y4).trans hBh;have Ae:=hu.ad kG;obtain⟨us,a1,a2,a3⟩:=Ae;obtain⟨l0,cB⟩:=bj iJ;obtain⟨x0,b1,b2⟩:=a3 0 l0 cB;obtain⟨i2,o2,YG,e3,rw3,p1,p2,p3,p4⟩:=a1.at b1;rw[gE]at p4;have b3:=b2.1.len;rw[hc l0 (cy cB)]at b3;have lu:=a1.len;rw[a2]at lu;have Sa:(0:Int)<(m.length:Int):=by omega
 have lC:Cb<N+1+1:=by omega
 have lp2:i2<N+1+1:=by omega
 rw[aQ,A.k187 (by simp)];simp[A.b187,gC,lu,iJ,p1,p3,p4,b3];refine b_ [(3,3),(8,18)] (fun e r' st=>e=.exit 0/\ay B st.w=[]/\dR (DU N B) G (N+2) st.h st.n/\st.h.get (N+1)=some (.loop (wR r N))/\∃v,st.h.get B=some (.cells [v] 79 true)/\gg (N+2) st.h st.n v (As m tf c)) (fun i r' st=>ay B st.w=[]/\dR (DU N B) G (N+2) st.h st.n/\st.h.get (N+1)=some (.loop (wR r N))/\∃k v,k<=c/\i=c-k/\r'.get 8=some (.int .i64 k)/\st.h.get B=some (.cells [v] 79 true)/\gg (N+2) st.h st.n v (As m tf k)) c ?_ ?_ ?_
 ·exact⟨by simp,dR.refl,gL,0,_,by omega,by omega,by simp,gB,gg.nil⟩
 ·rintro i r' ⟨H1,n1,W⟩ hr hf ⟨hW,U1,M4,k,v,hk,rfl,h8,DV,hO⟩;simp only at hW U1 M4 DV hO;rw[bu];by_cases aE:k<c
  ·have bG:(k:Int)<(c:Int):=by omega
   have wA:=U1.le;have gC1:=(U1.get Cb (by omega) (by unfold DU;omega)).trans gC;have gP1:=(U1.get P (by omega) (by unfold DU;omega)).trans ((kG.get P Y5).trans hP);have lC1:Cb<n1:=by omega
   have UB:dR (fun i=>i=B) h N H1 n1:=⟨by omega,fun i hi hd=>(U1.get i (by omega) (by unfold DU;omega)).trans (kG.get i hi)⟩;have fX:=hu.xd (v:=u) UB hBh (by decide) iJ fun l hl=>by rw[hc l hl];exact iy
   have OV:=hw.xd UB hBh (by decide);simp[A.tg,hr,h8,bG,gC1];refine ar (Zua fX (by omega) hc aE) ?_;rintro x H2 n2 k2 hx;have kR:=k2.le;have lcl:(kX m k).length=m.length:=by simp[kX]
   simp;refine BL (Yqz ((k2.get (N+1) (by omega)).trans M4) ((k2.get B (by omega)).trans DV) ((k2.get P (by omega)).trans gP1) (hO.ad k2) (by omega) Y4 Y5 hx (OV.ad k2) (by omega) (by rw[lcl,rV]) (by omega) (fun q hq=>(Av qa uG _ (by unfold dt;exact List.mem_map_of_mem (iL.2 aE))).2 q hq) qb hj oh h5 h3 hW) ?_;rintro _ ⟨H3,n3,W3⟩ ⟨rfl,zu,U3,Ny,v',Ba,Ho⟩;simp only at zu U3 Ny Ba Ho;simp(disch:=first|(simp;done)|omega|rfl) [hf,h8,zu,Ny,Ba];exact⟨c-(k+1),by omega,(U1.trans k2.upd).trans U3,k+1,by omega,rfl,by simp,Ho⟩
  obtain rfl:k=c:=by omega
  simp[A.tg,hr,hf,h8,hW,U1,M4,DV];exact hO
 rintro _ r' ⟨H1,n1,W⟩ hr ⟨rfl,hW,U1,M4,v,DV,hO⟩;simp only at hW U1 M4 DV hO;simp;refine⟨HX fun i hi=>?_,U1.le,fun i hi hd=>(U1.get i (by omega) (by unfold DU;omega)).trans (kG.get i hi),(U1.get N (by omega) (by unfold DU;omega)).trans gD,wR r N,M4,rfl,rfl,v,DV,hO⟩;rcases jn.1 hi with hi|hi
 ·exact CN hW i (CV hi).1
 exact CN YY i hi
def Zw1{h:T O}{N c j0 k0:Nat}{u v:V}{m:List (List Rat)}{tf:List Rat}(hu:fN h N u m)(hv:d_ h N v tf)(iJ:0<m.length)(iH:m.length<1000)(hc:aU m c)(iy:0<c)(cM:c<1000)(rV:tf.length=m.length)(qa:bH m j0)(qb:∀q∈tf,Qb k0 q)(uG:1<=j0)(hj:j0<=400000000)(oh:k0<=400000000):Fn A.C 100 [u,v] h N (fun x h' n'=>fN h' n' x ((dt m c).map fun r=>CU r tf)):=by
 intro w;obtain⟨f1,f2,f3⟩:=hv.1.form;rw[aQ,A.k100 (by simp)];simp[-V.cells, -V.one,A.b100,f1,f2];have kP:ab h N (h.set N (.cells [v] 82 true)) (N+1):=ab.refl.new _;have gP:(h.set N (.cells [v] 82 true)).get N=some (.cells [v] 82 true):=by rw[T.ag,av rfl]
 have kB:ab (h.set N (.cells [v] 82 true)) (N+1) ((h.set N (.cells [v] 82 true)).set (N+1) (.cells [.aa] 79 true)) (N+1+1):=ab.refl.new _;have gB:((h.set N (.cells [v] 82 true)).set (N+1) (.cells [.aa] 79 true)).get (N+1)=some (.cells [.aa] 79 true):=by rw[T.ag,av rfl]
 have Wd:=(kB.get N (by omega)).trans gP;have kk:=kP.trans kB;generalize (h.set N (.cells [v] 82 true)).set (N+1) (.cells [.aa] 79 true)=G at*;have ov:V.one u=true/\V.cells u=[u]:=by obtain⟨us,s,_⟩:=hu;exact⟨Sl.Nl s,Sl.A5 s⟩
 refine ar (Yom ov.1 ov.2) ?_;rintro _ H3 n3 k3 ⟨e,rfl,c1,c2⟩;have uZ:=k3.le;have Ba:=(k3.get (N+1) (by omega)).trans gB;have gP3:=(k3.get N (by omega)).trans Wd;simp[];refine Ycl (gv:=.func 187 [] [.ptr (N+1+1) 0]) (by simp) rfl (Yva (B:=N+1) (P:=N) (c:=c) ((hu.ad kk).ad k3) Ba (by omega) gP3 (by omega) (by omega) c2 c1 (by omega) iJ iH hc iy cM ((hv.ad kk).ad k3) rV qa qb uG hj oh (by simp) (by simp) (by simp)) ?_;rintro _ ⟨H4,n4,W4⟩ ⟨vu,zS,U4,Wa,R,v',gL4,r1,r2,C6,hO4⟩;simp only at vu zS U4 Wa gL4 C6 hO4;refine⟨R,gL4,by rw[r1];simp,?_⟩;have nc:Il (.loop R):=fun c e w h=>by cases h
 have o5:=hO4.rk (o:=.loop {R with st:=.exhausted}) gL4 nc;have gD5:(H4.set (n3+1) (.loop {R with st:=.exhausted})).get n3=some (.defs true):=by rw[T.ag,ak (by omega)];exact Wa
 have gB5:(H4.set (n3+1) (.loop {R with st:=.exhausted})).get (N+1)=some (.cells [v'] 79 true):=by rw[T.ag,ak (by omega)];exact C6
 have k5:∀i,i<N->(H4.set (n3+1) (.loop {R with st:=.exhausted})).get i=h.get i:=fun i hi=>by rw[T.ag,ak (by omega),U4 i (by omega) (by omega),k3.get i (by omega),kk.get i hi]
 show bE A.C _ (some (.ex (Nu R.fz) _ ⟨H4.set (n3+1) (.loop {R with st:=.exhausted}),n4,(n3+1)::W4⟩)) _;generalize H4.set (n3+1) (.loop {R with st:=.exhausted})=F at*;rw[r2];have lB:N+1<n4:=by omega
 have nd:Il (.defs true):=fun c e w h=>by cases h
 simp[gB5,Nu];refine(Ynw gD5 fun i=>by simp).2 ?_;simp[az];rw[<-Ywg rV];exact⟨by rw[ak (by omega),ak (by omega)];exact SP vu (by omega),⟨by omega,fun i hi=>by rw[T.ag,ak (by omega)];exact k5 i hi⟩,(o5.rk gD5 nd).Ax⟩
variable {D M:List (List Rat)} {w:List Rat}
def A.b117:=A.q Tryz.f117
def A.k117:=@A.kk 117 28 [.tmp 6,.tmp 7] A.b117 (by kernel_rfl) rfl
def oE(D M:List (List Rat))(w:List Rat):List (List Rat):=(dt (dC D M) M.length).map fun r=>CU r w
def rY(D M:List (List Rat))(w:List Rat):List (List Rat):=dC (oE D M w) (dt (dC D M) M.length)
def FL(D M:List (List Rat))(w:List Rat):Option (List (List Rat)):=rS (rY D M w) (oE D M w) M.length D.length
def HJ:(oE D M w).length=M.length:=by unfold oE;rw[di,jN]
def M5:aU (oE D M w) w.length:=fun r hr=>by
 obtain⟨x,_,rfl⟩:=bK.1 hr
 simp[CU]
def KU:aU (rY D M w) M.length:=by have:=@Aw (oE D M w) (dt (dC D M) M.length);rw[jN]at this;exact this
def HK:(rY D M w).length=M.length:=by unfold rY;rw[vj,HJ]
def ZM{n J K:Nat}(hM:aU M n)(qD:bH D K)(qM:bH M J)(hJ:1<=J)(hK:1<=K):bH (dC D M) (n*(J+K+1)+1):=Za qD (fun r hr=>⟨hM r hr,qM r hr⟩) hJ hK
def Ygd{B L:Nat}(q:bH (dC D M) B)(qw:∀x∈w,Qb L x)(hB:1<=B)(hL:1<=L):bH (oE D M w) (B+L):=fun r hr=>by
 obtain⟨x,hx,rfl⟩:=bK.1 hr
 exact ZO (Av q hB x hx).2 qw hB hL
def Yxz{B L:Nat}(q:bH (dC D M) B)(qw:∀x∈w,Qb L x)(hB:1<=B)(hL:1<=L):bH (rY D M w) (D.length*(B+(B+L)+1)+1):=
 Za (Ygd q qw hB hL) (fun r hr=>by
  have:=Av (c:=M.length) q hB r hr
  rw[vj]at this
  exact this) hB (by omega)
def Ymu{h:T O}{N n J K L:Nat}{u v y:V}(hu:fN h N u D)(hv:d_ h N v w)(hy:fN h N y M)(hD:aU D n)(hM:aU M n)(hw:w.length=D.length)(jy:0<n)(hn:n<50)(iN:0<D.length)(hs:D.length<50)(oh:0<M.length)(hk:M.length<50)(qD:bH D K)(qM:bH M J)(qw:∀x∈w,Qb L x)(hJ:1<=J)(hK:1<=K)(hL:1<=L)(hS:D.length*(n*(J+K+1)+1+(n*(J+K+1)+1+L)+1)+1+2*(n*(J+K+1)+1+L+1)<=400000000){B:Nat->Nat}(Z8:∀i,1<=B i)(Si:∀k,bH (aD (dL (rY D M w) (oE D M w)) k).1 (B (aD (dL (rY D M w) (oE D M w)) k).2.1))(hB3:∀i,i<M.length->3*B i<=400000000):Fn A.C 117 [u,v,y] h N (fun x h' n'=>(FL D M w=none/\x=.aX [.aa,.bool false])\/∃H z,FL D M w=some H/\x=.aX [z,.bool true]/\fN h' n' z H):=by
 intro W;have qS:=ZM hM qD qM hJ hK;have lS:(dC D M).length=D.length:=vj;have tt:=Zuq hM;obtain⟨b1,MR⟩:∃b1,b1=n*(J+K+1)+1:=⟨_,rfl⟩;have hb:n*(J+K+1)+1<=b1:=by omega
 have sM:J+K+1<=n*(J+K+1):=Nat.le_mul_of_pos_left _ jy;rw[<-MR]at hS;obtain⟨l0,cB⟩:=bj iN;obtain⟨i2,o2,c2,e2,w2,a,q1,q2,q3,q4,q5⟩:=F5 hu cB;rw[gE]at q4;have la:=q5.1.len;rw[hD l0 (cy cB)]at la;have lu:=hu.len;have za7:(0:Int)<(D.length:Int):=by omega
 have Wk:=qS;rw[<-MR]at Wk;rw[aQ,A.k117 (by simp)];simp[A.b117,lu,iN,q1,q3,q4,la];refine ar (Lh hy (by omega) hM (by omega)) ?_;rintro x1 H1 n1 k1 xe;simp[];refine ar (Ta (n:=n) (c:=M.length) (j:=J) (k:=K) (hu.ad k1) xe.Ax hD C0 (by rw[jN];omega) (by rw[jN];exact jy) (by omega) (by rw[jN];omega) (by omega) qD (fun r hr=>(Av qM hJ r hr).2) hJ hK (by rw[jN];omega)) ?_;rw[tt];rintro x2 H2 n2 k2 zL;have k02:=k1.trans k2;simp[];refine ar (Zw1 (c:=M.length) (j0:=b1) (k0:=L) zL (hv.ad k02) (by omega) (by omega) Aw oh (by omega) (by rw[lS];exact hw) Wk qw (by omega) (by omega) (by omega)) ?_;rintro x3 H3 n3 k3 Sj;have k03:=k02.trans k3;have Sk:fN H3 n3 x3 (oE D M w):=Sj;have rR:aU (oE D M w) D.length:=by rw[<-hw];exact M5
 simp[];refine ar (Ta (n:=D.length) (c:=M.length) (j:=b1) (k:=b1+L) Sk (zL.ad k3) rR Aw (by rw[lS];exact aM _) (by rw[lS];exact iN) (by rw[HJ];omega) (by rw[lS];omega) (by omega) (Ygd Wk qw (by omega) hL) Wk (by omega) (by omega) (by rw[lS];omega)) ?_;rintro x4 H4 n4 k4 KS;have za8:fN H4 n4 x4 (rY D M w):=KS;simp[];refine ar (Zuw (n:=M.length) (c:=D.length) (B:=B) za8 (Sk.ad k4) KU rR HK HJ oh (by omega) iN (by omega) Z8 Si hB3) ?_;rintro x5 H5 n5 k5 hx5;have k05:=(k03.trans k4).trans k5;rcases hx5 with⟨a1,rfl⟩|⟨H,z,a1,rfl,a2⟩
 ·simp[az];exact⟨k05,a1⟩
 simp[az];exact⟨k05,H,a1,a2⟩
variable {a b:Nat}
def Zr8{k:Nat}(h:mL k a=true)(f_:a<=b):mL k b=true:=by unfold mL at*;have:=of_decide_eq_true h;exact decide_eq_true (by omega)
def ZK{l:List aG}(h:dr a l=true)(f_:a<=b):dr b l=true:=by unfold dr at*;rw[fW]at*;exact⟨Zr8 h.1 f_,h.2⟩
def Zpe{m:List (List aG)}{c d:Nat}(h:jO a b m=true)(hac:a<=c)(DR:b<=d):jO c d m=true:=by unfold jO at*;rw[fW]at*;exact⟨Zr8 h.1 hac,iK.2 fun x hx=>ZK (iK.1 h.2 x hx) DR⟩
structure Xc3 (b:List (List aG)) (n:Nat):Prop where
 pos:0<b.length
 le:b.length<=4
 row:∀r∈b,r.length=n/\jB r
def Ype{G X H:List (List Rat)}{n c Z:Nat}{B:Nat->Nat}(hG:aU G n)(hX:aU X c)(hl:G.length<=X.length)(Si:∀k,bH (aD (dL G X) k).1 (B (aD (dL G X) k).2.1))(hZ:∀i,i<=n->B i<=Z)(hn:G.length<=n)(hs:rS G X n c=some H):bH H Z/\H.length<=n/\aU H c:=by
 have hW:=yL hG hX hl;unfold rS at hs;split at hs
 ·cases hs
 obtain rfl:=pC hs;have hd:=(pH hW (n:=n+c)).2;rw[Au]at hd;refine⟨fun r Ef q hq=>?_,by rw[di,nO hW];omega,fun r Ef=>?_⟩
 ·obtain⟨z,hz,rfl⟩:=bK.1 Ef;exact(Si (n+c) z (wy hz) q (Ox hq)).mono (hZ _ (by omega))
 obtain⟨z,hz,rfl⟩:=bK.1 Ef;rw[yO,xg hW z hz];omega
def Yhr{D M H:List (List Rat)}{w:List Rat}{Z:Nat}{B:Nat->Nat}(hw:w.length=D.length)(Si:∀k,bH (aD (dL (rY D M w) (oE D M w)) k).1 (B (aD (dL (rY D M w) (oE D M w)) k).2.1))(hZ:∀i,i<=M.length->B i<=Z)(hs:FL D M w=some H):bH H Z/\H.length<=M.length/\aU H D.length:=
 Ype KU (by rw[<-hw];exact M5) (by rw[HK,HJ];exact aM _) Si hZ (by rw[HK];exact aM _) hs
def A.w24:=A.q Tryz.f24
def A.uA:=A.ql A.w24 0 []
def A.b24:=(fun x0=>A.qb A.w24 [x0]) A.uA
def A.k24:=@A.kk 24 14 [.tmp 2] A.b24 (by kernel_rfl) rfl
def Xar{l:List V}:(l.map fun y=>[y]).flatten=l:=by
 induction l with
 |nil=>rfl
 |cons a t ih=>simp[ih]
structure RwS (h:T O) (N R:Nat) (l:List Rat):Prop where
 lt:R<N
 get:h.get R=some (.cells (tx l) 40 true)
def RwS.yF{h:T O}{N R:Nat}{l:List Rat}(s:RwS h N R l):AX h N (.slice R 0 l.length none 1) l:=⟨Sl.row s.lt s.get (FR l) (fun k hk=>by cases hk),fun i hi=>by
 simp[dm]at hi
 subst hi
 exact⟨_,_,s.get⟩⟩
def Yf2{h:T O}{N n:Nat}(h0:0<n)(hn:n<1000):Fn A.C 24 [.int .i64 n] h N (fun x h' n'=>∃R,x=.slice R 0 n none 1/\N<=R/\RwS h' n' R ((List.range n).map fun _=>0)):=by
 intro w;rw[aQ,A.k24 (by simp)];simp[A.b24];refine b_ [(3,12)] (fun e r st=>e=.exit 0/\ay N st.w=[]/\ab h N st.h st.n/\∃v,r.get 3=some v/\Own 1 40 N st.h st.n v ((tx ((List.range n).map fun _=>0)).map fun y=>[y])) (fun m r st=>ay N st.w=[]/\ab h N st.h st.n/\∃t v,t+m=n/\r.get 4=some (.int .i64 t)/\r.get 3=some v/\Own 1 40 N st.h st.n v ((tx ((List.range t).map fun _=>0)).map fun y=>[y])) n ?_ ?_ ?_
 ·exact⟨by simp,ab.refl,0,_,by omega,by simp,by simp,Own.nil⟩
 ·rintro m r ⟨H,n1,W⟩ hr hf ⟨hW,hK,t,v,ht,h4,h3,hO⟩;simp only at hW hK hO;rw[bu];have le:=hK.le;cases m with
  |zero=>
   obtain rfl:t=n:=by omega
   simp[A.uA,hr,hf,h3,h4,hW,hK];exact hO
  |succ m=>
   have aE:t<n:=by omega
   have bG:(t:Int)<(n:Int):=by omega
   have vf:ae [V.str []] 0 [.str [48]]=[.str [48]]:=rfl;have kD:ab H n1 (H.set n1 (.cells [.str [48]] 40 true)) (n1+1):=ab.refl.new _;obtain⟨v',h',w',j1,j2,j3,_,j5⟩:=Ao (x:=[.str [48]]) (u:=.slice n1 0 1 (some 1) 1) (bytes:=16) (w:=W) (hO.ad kD) (by omega) (by decide) rfl (by simp[fQ,St.row,aP]) (by simp[tx,strs];omega);have kF:ab h N h' (n1+1+1):=(hK.trans kD).then j3;simp(disch:=first|(simp;done)|omega|rfl) [A.uA,hr,hf,h3,h4,bG,vf,F4,j1,j2,hW,kF];refine⟨m,by omega,t+1,by omega,by simp,?_⟩;have e:(tx ((List.range (t+1)).map fun _=>(0:Rat))).map (fun y=>[y])=(tx ((List.range t).map fun _=>(0:Rat))).map (fun y=>[y])++[[.str [48]]]:=by rw[List.range_succ,List.map_append];simp[tx,strs];rfl
   rw[e];exact j5
 rintro _ r ⟨H,n1,W⟩ hr ⟨rfl,hW,hK,v,h3,hO⟩;simp only at hW hK hO;obtain⟨hl,⟨hz,_⟩|⟨R,rfl,h1,h2,h3'⟩⟩:=hO
 ·have:=congrArg List.length hz;simp[tx,strs]at this;omega
 simp[h3,az,hW,hK];refine⟨R,⟨rfl,by rw[FR];simp⟩,h1,h2,?_⟩;rw[h3',Xar]
variable {D:List (List Rat)} {K n s:Nat} {w:List Rat}
def A.w49:=A.q Tryz.f49
def A.yv:=A.ql A.w49 0 []
def A.b49:=(fun x0=>A.qb A.w49 [x0]) A.yv
def A.k49:=@A.kk 49 46 [.tmp 4] A.b49 (by kernel_rfl) rfl
def KV(n s k J K L:Nat):Nat:=(k+s)*(s*(n*(J+K+1)+1+(n*(J+K+1)+1+L)+1)+1)+1
def Ytk{M:List (List Rat)}{J L:Nat}(hM:aU M n)(hw:w.length=D.length)(qD:bH D K)(qM:bH M J)(qw:∀x∈w,Qb L x)(iN:0<D.length)(hJ:1<=J)(hK:1<=K)(hL:1<=L):Ar (dL (rY D M w) (oE D M w)) (M.length+D.length) (KV n D.length M.length J K L):=by
 have qS:=ZM hM qD qM hJ hK;have hmul:n*(J+K+1)+1+L<=D.length*(n*(J+K+1)+1+(n*(J+K+1)+1+L)+1)+1:=by have:=Nat.le_mul_of_pos_left (n*(J+K+1)+1+(n*(J+K+1)+1+L)+1) iN;omega
 refine Zip (Ye4 (Yxz qS qw (by omega) hL) ((Ygd qS qw (by omega) hL).mono hmul)) (yL KU (by rw[<-hw];exact M5) (by rw[HK,HJ];exact aM _))
def yQ(n s:Nat):List (List Rat):=(List.range n).map fun _=>(List.range s).map fun _=>0
def jx(D:List (List Rat))(w:List Rat)(n:Nat):List (List Rat):=if (aK D n).length=0 then yQ n D.length else dC (dt (aK D n) n) (dt ((FL D (aK D n) w).getD []) D.length)
def Yex:yQ (n+1) s=yQ n s++[(List.range s).map fun _=>0]:=by unfold yQ;rw[List.range_succ,List.map_append];rfl
def Zzo:(yQ n s).length=n:=by simp[yQ]
def Z3(hD:aU D n)(hw:w.length=D.length)(hp:∀q∈w,0<q)(h0:0<(aK D n).length):∃J,CX (rY D (aK D n) w) (aK D n).length=some J/\FL D (aK D n) w=some (dC J (dt (oE D (aK D n) w) D.length)):=by
 have hl:=nO (n:=n) hD;obtain⟨J,hJ⟩:=Ya9 (KU (D:=D) (M:=aK D n) (w:=w)) HK fun v hv j hj=>by unfold rY oE at hv;rw[hl]at hv hj;exact Yq1 hD hw hp hv j hj
 refine⟨J,hJ,?_⟩;unfold FL;rw[Ypf KU HK h0 (by rw[<-hw];exact M5) HJ,hJ];rfl
def ZI{d:Nat}(hD:aU D n)(qD:bH D K)(hd:D.length<=d):bH (aK D n) (kW (n*K+1) d):=fun r hr q hq=>((Ig (Zip qD hD) hD (by omega) n) r (wy hr) q hq).mono (SW (iZ (pH hD).2 hd))
def Ygp{n d:Nat}(hn:n<=6)(hd:d<=6):kW (n*100+1) d<=4864:=by unfold kW;exact iZ (mI (show d+2<=8 by omega) (show _<=608 by omega)) (by decide)
def Ypo{n s k:Nat}(hn:n<=6)(hs:s<=6)(hk:k<=6):kW (KV n s k 4864 100 100) k<=34400000:=by
 unfold kW KV;obtain⟨A,hA⟩:∃A,A=n*(4864+100+1)+1+(n*(4864+100+1)+1+100)+1:=⟨_,rfl⟩;have Oj:A<=59684:=by omega
 rw[<-hA];obtain⟨B,hB⟩:∃B,B=s*A:=⟨_,rfl⟩;have K8:B<=6*59684:=by rw[hB];exact mI hs Oj
 rw[<-hB];obtain⟨C,hC⟩:∃C,C=(k+s)*(B+1):=⟨_,rfl⟩;have hC2:C<=12*358105:=by rw[hC];exact mI (by omega) (by omega)
 rw[<-hC];obtain⟨E,hE⟩:∃E,E=C+1+k+1:=⟨_,rfl⟩;have hE2:E<=4297268:=by omega
 rw[<-hE];have:=mI (show k+2<=8 by omega) hE2;omega
def Ypp{M:List (List Rat)}{J L:Nat}(hM:aU M n)(hw:w.length=D.length)(qD:bH D K)(qM:bH M J)(qw:∀x∈w,Qb L x)(iN:0<D.length)(hJ:1<=J)(hK:1<=K)(hL:1<=L)(k:Nat):bH (aD (dL (rY D M w) (oE D M w)) k).1 (kW (KV n D.length M.length J K L) (aD (dL (rY D M w) (oE D M w)) k).2.1):=
 Ig (Ytk hM hw qD qM qw iN hJ hK hL) (yL KU (by rw[<-hw];exact M5) (by rw[HK,HJ];exact aM _)) (by unfold KV;omega) k
def Yw1{n s:Nat}(hn:n<=6)(hs:s<=6):s*(n*(4864+100+1)+1+(n*(4864+100+1)+1+100)+1)+1+2*(n*(4864+100+1)+1+100+1)<=400000000:=by
 obtain⟨A,hA⟩:∃A,A=n*(4864+100+1)+1+(n*(4864+100+1)+1+100)+1:=⟨_,rfl⟩;have Oj:A<=59684:=by omega
 rw[<-hA];obtain⟨C,hC⟩:∃C,C=s*A:=⟨_,rfl⟩;have hC2:C<=6*59684:=by rw[hC];exact mI hs Oj
 rw[<-hC];omega
def Zu3(hD:aU D n)(hw:w.length=D.length)(jy:0<n)(hn:n<=6)(iN:0<D.length)(hs:D.length<=6)(qD:bH D 100)(qw:∀x∈w,Qb 100 x)(hp:∀q∈w,0<q):bH (jx D w n) 300000000/\(jx D w n).length=n/\aU (jx D w n) D.length:=by
 have hle:=(pH hD (n:=n)).2;have hr:=nO (n:=n) hD;by_cases h0:(aK D n).length=0
 ·unfold jx;rw[av h0];refine⟨fun r hr q hq=>?_,Zzo,fun r hr=>?_⟩
  ·obtain⟨_,_,rfl⟩:=bK.1 hr;obtain⟨_,_,rfl⟩:=bK.1 hq;exact Qb.zero.mono (by decide)
  obtain⟨_,_,rfl⟩:=bK.1 hr;simp
 have jJ:0<(aK D n).length:=by omega
 obtain⟨J,hJ,hm⟩:=Z3 hD hw hp jJ;obtain⟨Hc,Da⟩:∃Hc,FL D (aK D n) w=some Hc:=⟨_,hm⟩;have rB:=xg (n:=n) hD;have qB:bH (aK D n) 4864:=(ZI hD qD (aM _)).mono (Ygp hn hs);have hk6:(aK D n).length<=6:=by omega
 have nW:=@Ypo n D.length (aK D n).length hn hs hk6;have Wl:=Ypp (J:=4864) (K:=100) (L:=100) rB hw qD qB qw iN (by decide) (by decide) (by decide);obtain⟨s1,s2,s3⟩:=Yhr hw Wl (fun i hi=>iZ (SW hi) nW) Da;have qT:bH (dt (aK D n) n) 4864:=fun r hr=>(Av qB (by decide) r hr).2;obtain⟨j0,Ca⟩:∃j0:Nat,j0=34400000:=⟨_,rfl⟩;rw[<-Ca]at s1;have uG:1<=j0:=by omega
 have hmul:Hc.length*(j0+4864+1)<=6*(j0+4864+1):=jz _ (by omega);unfold jx;rw[ak h0,Da];refine⟨?_,by rw[vj,jN],by have:=@Aw (dt (aK D n) n) (dt Hc D.length);rw[jN]at this;exact this⟩;exact(Za (n:=Hc.length) (j:=j0) (k:=4864) qT (fun r hr=>Av s1 uG r hr) uG (by decide)).mono (by omega)
def Ylx{h:T O}{N:Nat}{u v:V}(hu:fN h N u D)(hv:d_ h N v w)(hD:aU D n)(hw:w.length=D.length)(jy:0<n)(hn:n<=6)(iN:0<D.length)(hs:D.length<=6)(qD:bH D 100)(qw:∀x∈w,Qb 100 x)(hp:∀q∈w,0<q):Fn A.C 49 [u,v] h N (fun x h' n'=>fN h' n' x (jx D w n)/\bH (jx D w n) 300000000/\(jx D w n).length=n/\aU (jx D w n) D.length):=by
 intro W;obtain⟨l0,cB⟩:=bj iN;have lu:=hu.len;have hle:=(pH hD (n:=n)).2;have hr:=nO (n:=n) hD;rw[aQ,A.k49 (by simp)];simp(disch:=first|(simp;done)|omega|rfl) [-getElem?_pos,A.b49];refine ar (NI (B:=kW (n*100+1)) hu hD (by omega) iN (by omega) (fun _=>SX) (fun k=>Ig (Zip qD hD) hD (by omega) k) (fun i h1 h2=>by have:=@Ygp n i hn (by omega);omega)) ?_;rintro _ H1 n1 k1 ⟨rv,pv,rfl,xj,_⟩;have xr:=k1.le;obtain⟨i2,o2,c2,e2,w2,a,q1,q2,q3,q4,q5⟩:=F5 (hu.ad k1) cB;rw[gE]at q4;have la:=q5.1.len;rw[hD l0 (cy cB)]at la;have lrv:=xj.len;by_cases h0:(aK D n).length=0
 ·have hQ:jx D w n=yQ n D.length:=by unfold jx;rw[av h0]
  simp(disch:=first|(simp;done)|omega|rfl) [-getElem?_pos,lu,q1,q3,q4,la,lrv,h0];refine b_ [(8,8),(24,32)] (fun e r st=>e=.exit 0/\ay n1 st.w=[]/\ab H1 n1 st.h st.n/\∃v,r.get 8=some v/\gg n1 st.h st.n v (yQ n D.length)) (fun i r st=>ay n1 st.w=[]/\ab H1 n1 st.h st.n/\∃k v,k+i=n/\r.get 24=some (.int .i64 (k:Nat))/\r.get 8=some v/\gg n1 st.h st.n v (yQ k D.length)) n ?_ ?_ ?_
  ·exact⟨by simp,ab.refl,0,_,by omega,by simp,by simp,gg.nil⟩
  ·rintro i r ⟨H,m,W⟩ hr hf ⟨hW,hK,k,v,hk,h24,h8,hO⟩;simp only at hW hK hO;rw[bu];have ln:=hK.le;cases i with
   |zero=>
    obtain rfl:k=n:=by omega
    simp(disch:=first|(simp;done)|omega|rfl) [-getElem?_pos,A.yv,hr,hf,h24,h8,hW,hK];exact hO
   |succ i=>
    have bG:(k:Int)<(n:Int):=by omega
    simp(disch:=first|(simp;done)|omega|rfl) [-getElem?_pos,A.yv,hr,h24,h8,bG,lu];refine ar (Zsq (by omega)) ?_;rintro _ H2 n2 k2 ⟨rfl,s2⟩;have kR:=k2.le;have fr:=s2.ND;rw[di,List.length_range]at fr;have vf:ae [V.aa] 0 [.slice m 0 D.length (some D.length) 4]=[.slice m 0 D.length (some D.length) 4]:=rfl;have kD:ab H2 n2 (H2.set n2 (.cells [.slice m 0 D.length (some D.length) 4] 82 true)) (n2+1):=ab.refl.new _;obtain⟨v',h',w',j1,j2,j3,j4⟩:=gg.push (N0:=n1) (x:=.slice n2 0 1 (some 1) 1) (w:=W) ((hO.ad k2).ad kD) (fr.ad kD) (by omega) (by simp[fQ,St.row,aP]) (by rw[Zzo];omega);simp(disch:=first|(simp;done)|omega|rfl) [-getElem?_pos,hf,h24,vf,F4,j1,j2,hW];exact⟨i,by omega,(((hK.trans k2).trans kD).then j3),k+1,by omega,by simp,by rw[Yex];exact j4⟩
  rintro _ r ⟨H,m,W⟩ hr ⟨rfl,hW,hK,v,h8,hO⟩;simp only at hW hK hO;simp(disch:=first|(simp;done)|omega|rfl) [-getElem?_pos,h8,az];refine⟨SP hW xr,k1.trans hK,?_⟩;refine⟨?_,Zu3 hD hw jy hn iN hs qD qw hp⟩;rw[hQ];exact hO.Ax
 have jJ:0<(aK D n).length:=by omega
 obtain⟨J,hJ,hm⟩:=Z3 hD hw hp jJ;have hQ:jx D w n=dC (dt (aK D n) n) (dt ((FL D (aK D n) w).getD []) D.length):=by unfold jx;rw[ak h0]
 obtain⟨Hc,Da⟩:∃Hc,FL D (aK D n) w=some Hc:=⟨_,hm⟩;have rB:=xg (n:=n) hD;have oF:=@Ygp n D.length hn hs;have qB:bH (aK D n) 4864:=(ZI hD qD (aM _)).mono oF;have hk6:(aK D n).length<=6:=by omega
 have nW:=@Ypo n D.length (aK D n).length hn hs hk6;have Wl:=Ypp (J:=4864) (K:=100) (L:=100) rB hw qD qB qw iN (by decide) (by decide) (by decide);obtain⟨s1,s2,s3⟩:=Yhr hw Wl (fun i hi=>iZ (SW hi) nW) Da;have nS:=@Yw1 n D.length hn hs;have hlen:Hc.length=(aK D n).length:=(Zi KU HK (by rw[<-hw];exact M5) HJ jJ Da).1;simp(disch:=first|(simp;done)|omega|rfl) [-getElem?_pos,lu,q1,q3,q4,la,lrv,h0];refine ar (Ymu (B:=kW (KV n D.length (aK D n).length 4864 100 100)) (n:=n) (J:=4864) (K:=100) (L:=100) (hu.ad k1) (hv.ad k1) xj hD rB hw jy (by omega) iN (by omega) jJ (by omega) qD qB qw (by decide) (by decide) (by decide) nS (fun _=>SX) Wl (fun i hi=>by have:=@SW (KV n D.length (aK D n).length 4864 100 100) i (aK D n).length (by omega);omega)) ?_;rintro x2 H2 n2 k2 zL;rcases zL with⟨a1,_⟩|⟨Hc',z,a1,rfl,a2⟩
 ·rw[Da]at a1;cases a1
 rw[Da]at a1;obtain rfl:=pC a1;simp(disch:=first|(simp;done)|omega|rfl) [-getElem?_pos,];refine ar (Lh (xj.ad k2) (by omega) rB (by omega)) ?_;rintro x3 H3 n3 k3 Sj;simp(disch:=first|(simp;done)|omega|rfl) [-getElem?_pos,];have qT:bH (dt (aK D n) n) 4864:=fun r hr=>(Av qB (by decide) r hr).2;obtain⟨j0,Ca⟩:∃j0:Nat,j0=34400000:=⟨_,rfl⟩;rw[<-Ca]at s1;have uG:1<=j0:=by omega
 have hmul:Hc.length*(j0+4864+1)<=6*(j0+4864+1):=jz _ (by omega);refine ar (Ta (n:=(aK D n).length) (c:=D.length) (j:=j0) (k:=4864) Sj.Ax (a2.ad k3) C0 s3 (by omega) (by omega) (by rw[jN];omega) (by omega) (by omega) qT s1 uG (by decide) (by omega)) ?_;rintro x4 H4 n4 k4 KS;simp(disch:=first|(simp;done)|omega|rfl) [-getElem?_pos,az];refine⟨((k1.trans k2).trans k3).trans k4,?_,Zu3 hD hw jy hn iN hs qD qw hp⟩;rw[hQ,Da];exact KS
variable {m:List (List aG)}
def A.b11:=A.q Tryz.f11
def A.k11:=@A.kk 11 16 [.tmp 2,.tmp 3] A.b11 (by kernel_rfl) rfl
def Wm(m:List (List aG)):List (List Rat):=bS (bF m) (aW m)
def u_.Lw{n:Nat}(h:u_ m n):(bF m).length<=6:=by rw[D6];exact h.le
def Yt4(h:u_ m (aW m)):(Wm m).length<=6:=by have h1:=F0 h.qb.1;have h2:=h.n6;unfold Wm bS aK;rw[ik,yG];omega
def Yot{h:T O}{N:Nat}{u:V}(hm:eN h N u m)(hP:iG h N)(sm:jO 6 6 m=true):Fn A.C 11 [u] h N (fun x h' n'=>∃v c,x=.aX [v,.int .i64 c]/\HW (fI m 64 16) (Wm m) v c h' n'):=by
 intro w;obtain⟨m1,m2⟩:=Lu sm;rw[aQ,A.k11 (by simp)];simp[A.b11];refine ar (Tk hm m1 m2) ?_;rintro _ H1 n1 k1 rfl;by_cases hE:fI m 64 16=0
 ·have hM:=Lr hE sm;obtain⟨l1,l2,l3,l4,l5⟩:=hM.lens;simp[hE];refine ar (Lv (k0:=100) ((hm.ad k1).rat fun r hr=>(hM.row r hr).2) (by omega) l5 (by decide)) ?_;rintro v H2 n2 k2 hv;simp[];refine ar (Yic hv hM.qb.1 hM.Lw l2 hM.n6 hM.qb.2) ?_;rintro y H3 n3 k3 hy;have hn6:=hM.n6;have rP:=Yt4 hM;simp[];refine ar (Yaa hy (((hP.ad k1).ad k2).ad k3) (by show (Wm m).length<_;omega) (fun r hr=>by rw[NL r hr];omega) (Yt3 hM.qb.1 hM.n6 hM.qb.2) (aM _)) ?_;rintro _ H4 n4 k4 (⟨hb,rfl⟩|⟨hb,x,rfl,tx⟩)
  ·simp[az];exact⟨((k1.trans k2).trans k3).trans k4,.aa,4,⟨rfl,rfl⟩,.inr ⟨rfl,.inl ⟨hb,rfl,rfl⟩⟩⟩
  simp[az];exact⟨((k1.trans k2).trans k3).trans k4,x,0,⟨rfl,rfl⟩,.inr ⟨rfl,.inr ⟨hb,rfl,tx⟩⟩⟩
 simp[hE,az];exact⟨k1,.aa,_,⟨rfl,rfl⟩,.inl ⟨hE,rfl,rfl⟩⟩
def A.b10:=A.q Tryz.f10
def A.k10:=@A.kk 10 21 [.tmp 4,.tmp 5] A.b10 (by kernel_rfl) rfl
def A.w12:=A.q Tryz.f12
def A.yw:=A.ql A.w12 0 []
def A.b12:=(fun x0=>A.qb A.w12 [x0]) A.yw
def A.c12:A.F 12=some ⟨21,[.tmp 4],A.b12⟩:=by kernel_rfl
def A.k12:=@A.kk 12 _ _ _ A.c12 rfl
def Xbq(m:List (List aG))(l:List aG):List (List Rat):=jx (bF m) (a_ l) (aW m)
def Ybq{l:List aG}{n:Nat}(h:tj l n 1=0):∀q∈a_ l,0<q:=fun q hq=>by
 obtain⟨s,hs,rfl⟩:=bK.1 hq
 unfold tj at h
 split at h
 ·have h1:=uN h _ (bK.2 ⟨s,hs,rfl⟩)
  unfold sV at h1
  split at h1
  ·split at h1
   ·cases h1
   ·rename_i hc
    have hn:0<(jo s).num:=by
     unfold dN at hc
     by_cases c1:(jo s).num<0
     ·rw[av c1]at hc
      omega
     ·by_cases c2:(jo s).num=0
      ·rw[ak c1,av c2]at hc
       omega
      ·omega
    rw[Rat.lt_iff]
    show (0:Int)*_<(jo s).num*1
    omega
  ·rename_i hc
   omega
 ·cases h
def Yo4{h:T O}{N:Nat}{u v:V}{m:List (List aG)}{l:List aG}(hm:eN h N u m)(hl:Sl h N v (strs l))(hP:iG h N)(sm:jO 6 6 m=true)(sl:dr 6 l=true):Fn A.C 10 [u,v] h N (fun x h' n'=>∃z c,x=.aX [z,.int .i64 c]/\HW (C9 m l) (Xbq m l) z c h' n'):=by
 intro W;obtain⟨m1,m2⟩:=Lu sm;obtain⟨l1,l2⟩:=Ej sl;rw[aQ,A.k10 (by simp)];simp[A.b10];refine ar (Yqk hm hl m1 m2 l1 l2) ?_;rintro _ H2 n2 k2 rfl;by_cases hE:C9 m l=0
 ·obtain⟨hM,zl,hL⟩:=Tr hE sm sl;have pO:=Ybq (uN hE (tj l m.length 1) (by simp));have n6:=hM.n6;have mle:=hM.le;have qM:bH (bF m) 100:=fun r hr=>(hM.rat r hr).2;have lM:(bF m).length=m.length:=D6;have lL:(a_ l).length=(bF m).length:=by simp[a_,bF,zl]
  simp[hE];refine ar (Lv (k0:=100) ((hm.ad k2).rat fun r hr=>(hM.row r hr).2) (by omega) (fun r hr=>by obtain⟨a1,a2⟩:=hM.rat r hr;exact⟨by omega,a2⟩) (by decide)) ?_;rintro x3 H3 n3 k3 Sj;simp[];refine ar (Ek (l:=a_ l) (k0:=100) (jB.sl (hl.ad (k2.trans k3)) hL) (by omega) hL.qb (by decide)) ?_;rintro x4 H4 n4 k4 KS;simp[];refine ar (Ylx (Sj.ad k4) KS hM.qb.1 lL hM.n1 n6 (by have:=hM.pos;omega) (by omega) qM hL.qb pO) ?_;rintro x5 H5 n5 k5 ⟨hx5,g1,g2,g3⟩;have kE:=((k2.trans k3).trans k4).trans k5;simp[];refine ar (Yaa (k:=300000000) hx5 (hP.ad kE) (by rw[g2];omega) (fun r hr=>by rw[g3 r hr];omega) g1 (by decide)) ?_;rintro x7 H7 n7 k7 hx7;have kF:=kE.trans k7;rcases hx7 with⟨t1,rfl⟩|⟨t1,v2,rfl,t2⟩
  ·simp[az];exact⟨kF,.aa,4,⟨rfl,rfl⟩,.inr ⟨rfl,.inl ⟨t1,rfl,rfl⟩⟩⟩
  simp[az];exact⟨kF,v2,0,⟨rfl,rfl⟩,.inr ⟨rfl,.inr ⟨t1,rfl,t2⟩⟩⟩
 simp[hE,az];exact⟨k2,.aa,_,⟨rfl,rfl⟩,.inl ⟨hE,rfl,rfl⟩⟩
def Yf8{h:T O}{N n:Nat}{v:V}{l:List (List aG)}(hs:eN h N v l)(hl:l.length<100000)(hx:∀x∈l,x.length<100000/\∀s∈x,s.length<=100000):Fn A.C 12 [v,.int .i64 n] h N (fun u _ _=>u=.int .i64 (cg (l.map fun x=>dj x n))):=by
 intro w;have lg:=hs.len;rw[aQ,A.k12 (by simp)];simp[A.b12,lg];refine b_ [(4,4),(6,7),(10,20)] (fun e r st=>ay N st.w=[]/\ab h N st.h st.n/\((e=.exit 0/\cg (l.map fun x=>dj x n)=0)\/(e=.ret/\r.get 4=some (.int .i64 (cg (l.map fun x=>dj x n)))))) (fun m r st=>ay N st.w=[]/\ab h N st.h st.n/\∃k,k+m=l.length/\r.get 10=some (.int .i64 k)/\cg (l.map fun x=>dj x n)=cg ((l.drop k).map fun x=>dj x n)) l.length ?_ ?_ ?_
 ·exact⟨by simp,ab.refl,0,by omega,by simp,by simp⟩
 ·rintro m r ⟨H,n1,W⟩ hr ef ⟨hW,hK,k,hk,h5,hz⟩;simp only at hW hK;rw[bu];cases m with
  |zero=>
   obtain rfl:k=l.length:=by omega
   rw[qZ,yZ,cg]at hz;simp[A.yw,hr,ef,h5,hz,hW,hK]
  |succ m=>
   have aE:k<l.length:=by omega
   obtain⟨s,hc⟩:=bj aE;obtain⟨i,o,cc,e,rw,u,q1,q2,q3,q4,q5⟩:=(hs.ad hK).at hc;obtain⟨x1,x2⟩:=hx s (cy hc);rw[nf hc,pX,cg]at hz;have cK:(k:Int)<(l.length:Int):=by omega
   simp[A.yw,hr,h5,cK,lg,q1,q3,q4];refine ar (Em q5 x1 x2) ?_;rintro _ h3 n3 k3 rfl;have kk:=hK.trans k3;by_cases h0:dj s n=0
   ·rw[av h0]at hz;simp(disch:=first|(simp;done)|omega|rfl) [ef,h5,h0,hW];exact⟨m,by omega,kk,k+1,by omega,by simp,by simpa using hz⟩
   rw[ak h0]at hz;simp[ef,h0,hW,hz];exact kk
 rintro _ r ⟨H,n1,W⟩ hr ⟨hW,hK,⟨rfl,hz⟩|⟨rfl,h2⟩⟩
 ·simp only at hW hK;simp[hz,az,hW,hK]
 simp only at hW hK;simp[h2,az,hW,hK]
variable {K:Nat}
structure Sm (A B:Nat) (q:Rat):Prop where
 num:q.num.natAbs<=A
 den:q.den<=B
def Sm.yF{A B a b:Nat}{q:Rat}(h:Sm A B q)(hA:A<10^a)(hB:B<10^b)(ha:0<a)(hb:0<b):(aO q).length<=a+b+2:=by
 have h1:=(CO (n:=q.num.natAbs) ha).2 (oC h.num hA);have h2:=(CO (n:=q.den) hb).2 (oC h.den hB);have h3:(aN q.num).length<=(aq q.num.natAbs).length+1:=by unfold aN;split<;>simp
 unfold aO;split
 ·omega
 simp;omega
def Sm.big{A B:Nat}{q:Rat}(h:Sm A B q)(hA:A<10^600)(hB:B<10^600):wW q=false:=by have h1:=(CO (n:=q.num.natAbs) (k:=600) (by decide)).2 (oC h.num hA);have h2:=(CO (n:=q.den) (k:=600) (by decide)).2 (oC h.den hB);unfold wW;simp;omega
def Zwj{m:List (List aG)}{r c:Nat}(h:fI m r c=0):0<m.length/\0<aW m/\m.length<=r/\aW m<=c/\∀l∈m,l.length=aW m/\∀s∈l,aV s=0:=by
 unfold fI at h;split at h
 ·cases h
 rename_i h1;split at h
 ·cases h
 rename_i h2;refine⟨by omega,by omega,by omega,by omega,fun l hl=>?_⟩;have h3:=uN h _ (List.mem_map_of_mem hl);unfold dj at h3;split at h3
 ·rename_i h4;refine⟨h4,fun s hs=>?_⟩;have:=uN h3 _ (List.mem_map_of_mem hs);simpa using this
 cases h3
def Yl1{m:List (List aG)}(h:∀l∈m,∀s∈l,aV s=0):m=(bF m).map fun r=>r.map aO:=by
 unfold bF;rw[List.map_map];conv=>lhs;rw[<-List.map_id m]
 apply Aq;intro l hl;show l=(a_ l).map aO;unfold a_;rw[List.map_map];conv=>lhs;rw[<-List.map_id l]
 apply Aq;intro s hs;exact(H0 (h l hl s hs)).1.symm
def Xbr{c:Nat}(h:K<=3*c):2^K<=8^c:=iZ (rO (by decide) h) (Nat.le_of_eq (Nat.pow_mul 2 3 c))
def Yzp{c:Nat}(h:c≠0):8^c<10^c:=Nat.pow_lt_pow_left (by decide) h
def Yw2{c:Nat}{q:Rat}(h:Qb K q)(hK:K<=3*c)(hc:c≠0):q.num.natAbs<10^c/\q.den<10^c:=by have e:=oC (Xbr hK) (Yzp hc);exact⟨Nat.lt_trans h.1 e,Nat.lt_trans h.2 e⟩
def C4{q:Rat}(h:Qb K q)(hK:K<=1800):wW q=false/\(aO q).length<=1202:=by obtain⟨e1,e2⟩:=Yw2 (c:=600) h (by omega) (by decide);have hb:Sm q.num.natAbs q.den q:=⟨aM _,aM _⟩;exact⟨hb.big e1 e2,by have:=hb.yF (a:=600) (b:=600) e1 e2 (by decide) (by decide);omega⟩
def Tq{s:List Rat}:a_ (s.map aO)=s:=by unfold a_;rw[List.map_map];have:(jo∘aO)=id:=funext fun q=>Yl0 q;rw[this,List.map_id]
def F9:∀{l:List Int},(∀x∈l,x=0)->cg l=0
 |[],_=>rfl
 |x::l,h=>by
  rw[h x (by simp)]
  exact F9 (l:=l) fun y hy=>h y (by simp[hy])
def IG{l:List Rat}(h:∀q∈l,Qb 1800 q):dj (l.map aO) l.length=0:=by
 unfold dj;rw[av (di ..)];apply F9;intro x hx;rw[List.map_map]at hx;obtain⟨q,hq,rfl⟩:=bK.1 hx;have e:aV (aO q)=0:=by rw[Zsi,(C4 (h q hq) (aM _)).1];rfl
 simp[e]
def Z0{B:List (List Rat)}{n:Nat}(h:bH B 1800)(hc:aU B n):cg ((B.map fun r=>r.map aO).map fun x=>dj x n)=0:=by apply F9;intro x hx;rw[List.map_map]at hx;obtain⟨r,hr,rfl⟩:=bK.1 hx;show dj (r.map aO) n=0;rw[<-hc r hr];exact IG (h r hr)
def Lt{l:List aG}{n:Nat}(h:dj l n=0):l.length=n:=by
 unfold dj at h;split at h
 ·assumption
 exact absurd h (by decide)
def oa.ZX{h:T O}{N:Nat}{v:V}{B:List (List Rat)}(s:oa h N v B):eN h N v (B.map fun r=>r.map aO):=by
 obtain⟨us,h1,h2,h3⟩:=s;refine⟨us,h1,by simpa using h2,fun j l hl=>?_⟩;rw[eH]at hl;cases e:B[j]? with
 |none=>rw[e]at hl;simp at hl
 |some r=> rw[e]at hl;simp only[qO,au]at hl;subst hl;exact h3 j r e
end
end Go.Mx
