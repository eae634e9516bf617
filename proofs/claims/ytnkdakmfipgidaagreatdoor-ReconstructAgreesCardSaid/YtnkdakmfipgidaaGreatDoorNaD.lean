/-num-/
import Derived.Test.YtnkdakmfipgidaaGreatDoorMxKnv
set_option linter.all false
namespace Go.Mx
noncomputable section
open Go Go.Proofs
variable {N b:Nat}
set_option maxHeartbeats 8000000
set_option maxRecDepth 1000000
def A.Fo:=A.q Tryz.f215
def A.lA:=A.ql A.Fo 2 []
def A.oC:=A.ql A.Fo 1 []
def A.oD:=A.ql A.Fo 0 []
def A.b215:=(fun x0 x1 x2=>A.qb A.Fo [x0,x1,x2]) A.oD A.oC A.lA
def A.k215:=@A.kk 215 137 [.tmp 4,.tmp 5] A.b215 (by kernel_rfl) rfl
def Yp4{x y s:Nat}(hx:x<B)(h0:0<s)(hs:s<64):jT (au x s) (bN y (64-s))<B/\2^s*jT (au x s) (bN y (64-s))+x%2^s=x+B*(y%2^s):=by
 have hc:au x s<2^(64-s):=by unfold au;apply (rk (rV s)).2;rw[<-mr,show 64-s+s=64 by omega];exact hx
 rw[UJ (by omega) hc];refine⟨Zqv (by omega) hc,?_⟩;have e:bN y (64-s)=(y%2^s)*2^(64-s):=by
  unfold bN;have:(18446744073709551616:Nat)=2^s*2^(64-s):=by rw[<-mr,show s+(64-s)=64 by omega]
  rw[this,Oj]
 have e2:2^s*(y%2^s*2^(64-s))=B*(y%2^s):=by
  have:B=2^s*2^(64-s):=by rw[<-mr,show s+(64-s)=64 by omega];rfl
  rw[this];generalize 2^s=p;generalize 2^(64-s)=q;grind
 rw[e,uI,e2];unfold au;have:=vM x (2^s);omega
structure UK (h:T O) (N iq:Nat) (X:List Nat) (b m:Nat) (r:T V) (st:St):Prop where
 n:st.n=N+1
 w:ay N st.w=[]
 ad:ab h N st.h (N+1)
 ex:∃(rest:Nat) (Q:List Nat),m<=X.length/\r.get 8=some (.int .i64 ((m:Int)-1))/\r.get 7=some (.int .u64 rest)/\st.h.get N=some (.cells (dg Q) 205 true)/\Q.length=X.length/\Dg Q/\val B (X.drop m)=b*val B (Q.drop m)+rest/\rest<b
def Ymj{h:T O}{N b:Nat}{va vb:V}{X:List Nat}{r0:T V}(ha:Sl h N va (dg X))(hb:Sl h N vb (dg [b]))(dA:Dg X)(Ik:b<B)(hl:X.length<1099511627776)
  (a0:r0.get 0=some va) (a1:r0.get 1=some vb) (a6:r0.get 6=some (.slice N 0 X.length (some X.length) 1)):
  ∀k r st,(∀t,kX [(7,8),(30,48)] t=false->r.get t=r0.get t)->Fx [(7,8),(30,48)] r0 137 ⟨r,137,[]⟩->UK h N N X b k r st->Code A.C none A.oD ⟨r,137,[]⟩ st (Rd [(7,8),(30,48)] r0 137 (UK h N N X b) k (fun e r st=>e=.exit 0/\UK h N N X b 0 r st)):=by
 rintro m r ⟨H,n1,W⟩ hr hf ⟨hn,hW,hK,rest,Q,hm,h8,h7,az,hQ,dQ,he,aC⟩;simp only at hn hW hK az;subst hn;have la:=ha.len;have lb:=hb.len;rw[bq]at la lb;rw[bu];cases m with
 |zero=> simp[A.oD,hf,h8];exact⟨rfl,hW,hK,rest,Q,by omega,by simp[h8],by simp[h7],az,hQ,dQ,he,aC⟩
 |succ m=>
  have gx:=bV (l:=X) (i:=m) (by omega);generalize X[m]'(by omega)=x at*;have hx:x<B:=dA.get gx;obtain⟨i1,o1,c1,e1,w1,p1,p2,p3,p4⟩:=ha.at (f_ gx);have p3:=(hK.get _ p2).trans p3;obtain⟨i2,o2,c2,e2,w2,q1,q2,q3,q4⟩:=hb.at (f_ (l:=[b]) (j:=0) rfl);have q3:=(hK.get _ q2).trans q3;rw[gE]at q4;have gq:=bV (l:=Q) (i:=m) (by omega);have qK:((m+1:Nat):Int)-1=(m:Int):=by omega
  have kl:m<X.length:=by omega
  have Au:i1<N+1:=by omega
  have hi2:i2<N+1:=by omega
  have zar:¬i1=N:=by omega
  have mS:¬i2=N:=by omega
  have zas:¬N=i1:=by omega
  have zat:¬N=i2:=by omega
  rw[qK]at h8;have hd:=Yaa (h:=H) (N:=N+1) aC Ik hx;obtain⟨q,hq⟩:∃q,(rest*18446744073709551616+x)/b=q:=⟨_,rfl⟩;obtain⟨rr,ES⟩:∃q,(rest*18446744073709551616+x)%b=q:=⟨_,rfl⟩;rw[hq,ES]at hd;have hinv:b*q+rr=rest*B+x:=by have:=vM (rest*18446744073709551616+x) b;rw[hq,ES]at this;exact this
  have Ag:rr<b:=by rw[<-ES];exact mO _ (by omega)
  have JJ:q<B:=by rw[<-hq];apply (rk (by omega)).2;have:=nf B (show rest+1<=b by omega);rw[jO B b];rw[ji]at this;unfold B at*;omega
  simp[A.oD,hr,h8,h7,la,lb,a0,a1,a6,p1,p3,p4,q1,q3,q4,kl,Au,hi2];refine av hd ?_;rintro _ H n2 ER ⟨rfl,rfl,rfl⟩;simp(disch:=first|(simp;done)|omega|(simp only[bq,b_,bk];omega)|rfl) [hr,hf,h8,h7,la,lb,a0,a1,a6,az,qL,kl,Au,hi2,zar,mS,zas,zat,cQ.cU];refine⟨m,by omega,rfl,by simp[ay,hW],hK.set (aO _),rr,Q.set m q,by omega,by simp,by simp,by simp,by simp[hQ],dQ.uR JJ,?_,Ag⟩;rw[Dp gx,Dp (mD (by omega)),List.drop_set_of_lt (by omega),he,uI,uI];have:B*(b*val B (Q.drop (m+1)))=b*(B*val B (Q.drop (m+1))):=by grind
  rw[jO rest]at hinv;omega
structure UL (N n2:Nat) (h2:T O) (iu iq Nq lu k A0:Nat) (Y:List Nat) (m:Nat) (r:T V) (st:St):Prop where
 n:st.n=Nq
 w:ay n2 st.w=[]
 ad:ab h2 n2 st.h Nq
 ex:∃(U Q:List Nat),r.get 14=some (.int .i64 ((m:Int)-1))/\st.h.get iu=some (.cells (dg U) 205 true)/\st.h.get iq=some (.cells (dg Q) 205 true)/\U.length=lu/\Q.length+(k+2)=lu/\m<=Q.length/\Dg U/\Dg Q/\(∀t,m+k+2<=t->t<lu->U[t]?=some 0)/\val B (U.drop m)<val B Y/\val B U+B^m*(val B (Q.drop m)*val B Y)=A0
def Ymi{h2:T O}{N n2 iu iq Nq lu k v1 A0:Nat}{Y:List Nat}{v:V}{r0:T V}{cq:Option Nat}(hv:Sl h2 n2 v (dg Y))(hY:Y.length=k+2)(dY:Dg Y)(ME:lu<1099511627776)(f1:Y[k+1]?=some v1)(pC:0<v1)(PX:n2<=iu)(Hn:iu<iq)(hq:iq<Nq)
  (tW:k+2<lu) (J1:r0.get 10=some v) (wJ:r0.get 11=some (.slice iu 0 lu (some lu) 1)) (Dx:r0.get 12=some (.int .i64 ((k:Int)+2))) (a13:r0.get 13=some (.slice iq 0 (lu-(k+2)) cq 1)):
  ∀x r st,(∀t,kX [(14,14),(80,95)] t=false->r.get t=r0.get t)->Fx [(14,14),(80,95)] r0 137 ⟨r,137,[]⟩->UL N n2 h2 iu iq Nq lu k A0 Y x r st->Code A.C none A.oC ⟨r,137,[]⟩ st (Rd [(14,14),(80,95)] r0 137 (UL N n2 h2 iu iq Nq lu k A0 Y) x (fun e r st=>e=.exit 2/\UL N n2 h2 iu iq Nq lu k A0 Y 0 r st)):=by
 rintro m r ⟨H,n1,W⟩ hr hf ⟨hn,hW,hK,U,Q,qd,hU,hQ,lU,lQ,hm,dU,dQ,hz,aC,he⟩;simp only at hn hW hK hU hQ;subst hn;rw[bu];cases m with
 |zero=> simp[A.oC,hf,qd];exact⟨rfl,hW,hK,U,Q,by simp[qd],hU,hQ,lU,lQ,hm,dU,dQ,hz,aC,he⟩
 |succ m=>
  have qK:((m+1:Nat):Int)-1=(m:Int):=by omega
  rw[qK]at qd;have gu:=bV (l:=U) (i:=m) (by omega);generalize U[m]'(by omega)=um at*;have zbA:um<B:=dU.get gu;have hsK:nV ⟨H,n1,W⟩ 1 (some (.slice iu 0 lu (some lu) 1)) (some (some (.int .i64 m))) (some (some (.int .i64 ((m:Int)+((k:Int)+2)+1)))) (some none)=some (.slice iu m (k+3) (some (lu-m)) 1,⟨H,n1,W⟩):=by
   have e1:(0:Int)<=(m:Int)+((k:Int)+2)+1/\(m:Int)+((k:Int)+2)+1<=(lu:Int):=by omega
   have e2:((m:Int)+((k:Int)+2)+1).toNat=m+k+3:=by omega
   have e3:¬lu=m:=by omega
   have e4:m<=m+k+3:=by omega
   have e5:m+k+3-m=k+3:=by omega
   have e6:(m:Int)<=((m+k+3:Nat):Int):=by omega
   simp only[nV,qV,aB,dP,mP,Option.map,Src.ev,e1,e2,e3,e5,e6,and_self,if_true,if_false,Int.natCast_nonneg,Int.toNat_natCast,ne_eq,not_true_eq_false,Option.isSome,Option.isNone,Eu,false_or,iy,yE,yy]
  have hmq:m<lu-(k+2):=by omega
  simp(disch:=first|(simp;done)|omega|(simp only[bq,b_,bk];omega)|rfl) [A.oC,hr,hf,qd,J1,wJ,Dx,a13,FZ,aB,hsK];refine AS (Yeg (n2:=n2) (k:=k) (U:=U) (v1:=v1) (hv.ad ⟨aO _,fun i hi=>hK.get i hi⟩) hY dY PX (by omega) (by omega) (by omega) hU dU f1 pC (fun t h1 h2=>hz t (by omega) (by omega)) ?_) ?_
  ·rw[Dp gu];have:=mM B aC;rw[Nat.mul_succ]at this;omega
  rintro x ⟨H2,n3,W2⟩ ⟨s1,s2,s3,q,o,rfl,s4,s5,s6,s7,s8,s9,s10,s11⟩;simp only at s1 s2 s3 s5;subst s1;have PY:H2.get iq=some (.cells (dg Q) 205 true):=by rw[s3 iq (by omega)];exact hQ
  simp(disch:=first|(simp;done)|omega|(simp only[bq,b_,bk];omega)|rfl) [hr,hf,qd,J1,wJ,Dx,a13,hmq,PY,qL];have xr:¬iq<n2:=by omega
  have hHe:∀i,i<n2->(H2.set iq (.cells (dg (Q.set m q)) 205 true)).get i=h2.get i:=fun i hi=>by rw[T.ae,ak (by omega),s3 i (by omega)];exact hK.get i hi
  refine⟨m,by omega,rfl,?_,⟨by omega,hHe⟩,o,Q.set m q,by simp,by simp[s5,(show ¬iu=iq by omega)],by simp,by omega,by simp;omega,by simp;omega,s7,dQ.uR s4,?_,s11,?_⟩
  ·simp only[ay,xr,if_false];rw[s2];exact hW
  ·intro t h1 mG;exact s9 t (by omega) (by omega)
  have eU:=GS B U m (by omega);have eO:=GS B o m (by omega);have et:o.take m=U.take m:=by
   apply ph;intro t;rw[jL,jL];split
   ·exact s8 t (by omega)
   rfl
  rw[Dp (mD (by omega)),List.drop_set_of_lt (by omega),eO,et];rw[eU,<-s10,ix]at he;rw[<-he];generalize val B (U.take m)=z1;generalize val B (o.drop m)=z2;generalize val B Y=z3;generalize val B (Q.drop (m+1))=z4;generalize B^m=z5;grind
structure UM (n2:Nat) (h2:T O) (iu iq Nq lu n s:Nat) (U Q:List Nat) (m:Nat) (r:T V) (st:St):Prop where
 hn:st.n=Nq
 w:ay n2 st.w=[]
 ad:ab h2 n2 st.h Nq
 q:st.h.get iq=some (.cells (dg Q) 205 true)
 ex:∃(i:Nat) (o:List Nat),i+m=n/\r.get 97=some (.int .i64 i)/\st.h.get iu=some (.cells (dg o) 205 true)/\o.length=lu/\Dg o/\(∀t,i<=t->o[t]?=U[t]?)/\2^s*val B (o.take i)=val B (U.take i)+B^i*(dz U i%2^s)
def Yj1{h2:T O}{n2 iu iq Nq lu n s:Nat}{U Q:List Nat}{r0:T V}{cu:Option Nat}(ME:lu<1099511627776)(lU:U.length=lu)(dU:Dg U)(hs:s<64)(PX:n2<=iu)(Hn:iu<iq)(hq:iq<Nq)(hn:n<lu)
  (a9:r0.get 9=some (.int .i64 s)) (wJ:r0.get 11=some (.slice iu 0 lu cu 1)) (a96:r0.get 96=some (.int .i64 n)):
  ∀x r st,(∀t,kX [(15,15),(97,130)] t=false->r.get t=r0.get t)->Fx [(15,15),(97,130)] r0 137 ⟨r,137,[]⟩->UM n2 h2 iu iq Nq lu n s U Q x r st->Code A.C none A.lA ⟨r,137,[]⟩ st (Rd [(15,15),(97,130)] r0 137 (UM n2 h2 iu iq Nq lu n s U Q) x (fun e r st=>e=.exit 4/\UM n2 h2 iu iq Nq lu n s U Q 0 r st)):=by
 rintro m r ⟨H,n1,W⟩ hr hf ⟨yl,hW,hK,hQ,i,o,hi,PZ,az,lo,dO,eQ,he⟩;simp only at yl hW hK hQ az;subst yl;rw[bu];cases m with
 |zero=>
  have:i=n:=by omega
  subst this;simp[A.lA,hr,hf,PZ,a96];exact⟨rfl,hW,hK,hQ,i,o,by omega,by simp[PZ],az,lo,dO,eQ,he⟩
 |succ m=>
  have aC:i<n:=by omega
  have gx:U[i]?=some (U[i]'(by omega)):=bV (by omega);have gy:U[i+1]?=some (U[i+1]'(by omega)):=bV (by omega);generalize U[i]'(by omega)=x at*;generalize U[i+1]'(by omega)=y at*;have hx:x<B:=dU.get gx;have hy:y<B:=dU.get gy;have ox:o[i]?=some x:=by rw[eQ i (aO _)];exact gx
  have oy:o[i+1]?=some y:=by rw[eQ (i+1) (by omega)];exact gy
  have vz:i<lu:=by omega
  have P0:i+1<lu:=by omega
  have zau:(i:Int)+1<(lu:Int):=by omega
  have rA:dz U i=x:=by simp[dz,gx]
  have hzy:dz U (i+1)=y:=by simp[dz,gy]
  have xr:¬iu<n2:=by omega
  have hiu:iu<n1:=by omega
  have hqu:¬iq=iu:=by omega
  have hsB:au x s<B:=Zyu hx;have zbd:au x s<18446744073709551616:=hsB;have zbB:x<18446744073709551616:=hx;have J3:y<18446744073709551616:=hy;have ri:(s:Int)<=64:=by omega
  have K1:=fun v1 v2=>(hK.set (o:=v1) PX).set (i:=iu) (o:=v2) PX;by_cases h0:0<s
  ·have jM:(0:Int)<(s:Int):=by omega
   obtain⟨z1,z2⟩:=Yp4 (y:=y) hx h0 hs;have ox2:(o.set i (au x s))[i]?=some (au x s):=mD (by omega);have oy2:(o.set i (au x s))[i+1]?=some y:=by rw[eX (by omega)];exact oy
   have uS:(o.set i (au x s)).length=lu:=by simp[lo]
   have zav:bo .i64 (64-(s:Int))=((64-s:Nat):Int):=by rw[cP (by omega) (by omega)];omega
   simp(disch:=first|(simp;done)|omega|(simp only[bq,b_,bk];omega)|rfl) [-getElem?_pos,A.lA,hr,hf,PZ,a96,a9,wJ,aC,vz,P0,az,f_ ox,qL,h0,jM,zau,zav,f_ ox2,f_ oy2,uS,hiu,cQ.cU];refine⟨m,by omega,rfl,by simp[ay,hW,xr],K1 _ _,by simp[hqu,hQ],i+1,(o.set i (au x s)).set i (jT (au x s) (bN y (64-s))),by omega,by simp,by simp,by simp[lo],(dO.uR hsB).uR z1,?_,?_⟩
   ·intro t ht;rw[eX (by omega),eX (by omega)];exact eQ t (by omega)
   rw[List.set_set,Fl,Fl,rA,hzy,show dz (o.set i (jT (au x s) (bN y (64-s)))) i=jT (au x s) (bN y (64-s)) by simp[dz,mD (show i<o.length by omega)]];have ht:(o.set i (jT (au x s) (bN y (64-s)))).take i=o.take i:=by
    apply ph;intro t;rw[jL,jL];split
    ·rw[eX (by omega)]
    rfl
   rw[ht];rw[rA]at he;have e2:B^i*(2^s*jT (au x s) (bN y (64-s))+x%2^s)=B^i*(x+B*(y%2^s)):=by rw[z2]
   rw[ix];generalize jT (au x s) (bN y (64-s))=z at*;generalize val B (o.take i)=y1 at*;generalize val B (U.take i)=y2 at*;generalize x%2^s=y3 at*;generalize y%2^s=y4 at*;generalize (2:Nat)^s=y5 at*;generalize B^i=y6 at*;clear z2 ht K1;grind
  have fP:s=0:=by omega
  subst fP;have z0:au x 0=x:=by unfold au;simp
  have P1:o.set i x=o:=by
   apply ph;intro t;by_cases ht:t=i
   ·subst ht;rw[mD (by omega),ox]
   rw[eX (by omega)]
  simp(disch:=first|(simp;done)|omega|(simp only[bq,b_,bk];omega)|rfl) [-getElem?_pos,A.lA,hr,hf,PZ,a96,a9,wJ,aC,vz,P0,az,f_ ox,qL,z0,P1];refine⟨m,by omega,rfl,by simp[ay,hW,xr],hK.set PX,by simp[hqu,hQ],i+1,o,by omega,by simp,by simp,lo,dO,fun t ht=>eQ t (by omega),?_⟩;rw[Fl,Fl,rA,show dz o i=x by simp[dz,ox]];have:dz U i%2^0=0:=Nat.mod_one _;rw[this]at he;simp only[Gp,Nat.one_mul,Nat.mod_one,Nat.mul_zero,gE]at he ⊢;omega
def Ypf(h:(aH b).length=1):aH b=[b]/\b<B:=by obtain⟨h1,h2⟩:=JH (k:=0) h;rw[Gp]at h1;rw[yE,Nat.pow_one]at h2;refine⟨?_,h2⟩;rw[og (by omega),Bt h2,sV,zC h2]
def Yjn{r:Nat}(h:r<B):uk [r]=aH r:=by rw[Fm (by intro d hd;simp at hd;subst hd;exact h)];simp[val]
def Zu8{h:T O}{u v:V}{a:Nat}(hu:Wn h N u a)(hv:Wn h N v b)(hb:0<b)(hl:(aH a).length<1000000000000)(il:(aH b).length<1000000000000):Fn A.C 215 [u,v] h N (fun x h' n'=>∃q r,x=.aV [q,r]/\Wn h' n' q (a/b)/\Wn h' n' r (a%b)):=by
 intro w;have lu:=hu.len;have lv:=hv.len;rw[bq]at lu lv;rw[aN,A.k215 (by simp)];simp[A.b215];refine av (Zi4 hu hv (by omega) (by omega)) ?_;rintro _ h1 n1 k1 rfl;by_cases aC:a<b
 ·have c1:xC a b= -1:=by simp[xC,aC]
  simp[c1,ax];refine⟨k1,_,_,⟨rfl,rfl⟩,?_,?_⟩
  ·rw[Bt aC];unfold Wn;rw[sV];exact Sl.nil
  rw[zC aC];exact hu.ad k1
 have c1:¬xC a b<0:=by unfold xC;rw[ak (by omega)];split<;>omega
 have zp:=hu.ad k1;have pC:=hv.ad k1;have hle:=Ho (a:=b) (b:=a) (by omega);by_cases h1l:(aH b).length=1
 ·obtain⟨e1,e2⟩:=Ypf h1l;have P2:((aH b).length:Int)=1:=by omega
  have J4:Sl h1 n1 v (dg [b]):=by rw[<-e1];exact pC
  simp(disch:=first|(simp;done)|omega|(simp only[bq,b_,bk];omega)|rfl) [c1,lv,h1l,lu,bh];refine cm [(7,8),(30,48)] _ (UK h1 n1 n1 (aH a) b) (aH a).length ?_ (Ymj zp J4 (sX a) e2 (by omega) (by simp) (by simp) (by simp)) ?_
  ·refine⟨rfl,by simp,ab.refl.new _,0,List.replicate (aH a).length 0,aO _,by simp,by simp,by simp[JX],by simp,?_,?_,hb⟩
   ·intro d hd;rw[Ia]at hd;rw[hd.2];decide
   simp[val]
  rintro e r ⟨H,n2,W⟩ hr ⟨rfl,hn,hW,hK,rest,Q,hm,h8,h7,az,hQ,dQ,he,Ag⟩;simp only at hn hW hK az;subst hn;simp[hr];refine av (Fp (l:=Q) (Sl.row (e:=205) (rw:=true) (by omega) az (by rw[bq];exact hQ) (by simp)) (by omega)) ?_;rintro q2 h3 n3 k3 hq;simp[h7,ag];have k4:ab h3 n3 (h3.set n3 (.cells [.int .u64 rest] 205 true)) (n3+1):=ab.refl.new _;have hs5:Sl (h3.set n3 (.cells [.int .u64 rest] 205 true)) (n3+1) (.slice n3 0 1 (some 1) 1) (dg [rest]):=Sl.row (e:=205) (rw:=true) (L:=1) (wO n3) (by simp[dg]) (by simp) (by simp);refine av (Fp hs5 (by simp)) ?_;rintro r2 h5 n5 k5 fi;simp only[Br,oz]at he;have J5:val B Q=a/b:=by rw[he,Nat.mul_add_div hb,Bt Ag];omega
  have zj:rest=a%b:=by rw[he,Nat.mul_add_mod,zC Ag]
  rw[Fm dQ,J5]at hq;rw[Yjn (by omega),zj]at fi;simp[ax];exact⟨Mj k1.le hW,((k1.trans hK).trans k3).trans (k4.trans k5),_,_,⟨rfl,rfl⟩,(hq.ad k4).ad k5,fi⟩
 have DZ:(aH b).length≠0:=by rw[og (by omega)];simp
 obtain⟨k,hk⟩:∃k,(aH b).length=k+2:=⟨(aH b).length-2,by omega⟩;have P2:¬(k:Int)+2=1:=by omega
 have gt:=bV (l:=aH b) (i:=k+1) (by omega);generalize (aH b)[k+1]'(by omega)=bt at*;have P3:bt<B:=(sX b).get gt;have zaw:¬bt=0:=by obtain⟨w1,w2⟩:=JH (k:=k+1) hk;have:=(OP w1 w2).2;rw[gt]at this;have e:=mC this;have hp:0<B^(k+1):=Bu (by decide);have:=(LK hp).2 (by rw[Nat.one_mul];exact w1);omega
 obtain⟨m1,m2,m3⟩:=Yob zaw P3;have hlz:=fun (h:T O) (N:Nat)=>Ygn (h:=h) (N:=N) (x:=bt) P3;generalize hs:64-aX bt=s at*;obtain⟨i1,o1,UN,e1,w1,p1,p2,p3,p4⟩:=pC.at (f_ gt);have t1:((k:Int)+2-1)=(k:Int)+1:=by omega
 rw[hk]at lv;simp(disch:=omega) [c1,lv,p1,p3,p4,t1,P2];refine av (hlz _ _) ?_;rintro _ h1 n1 k2 ⟨rfl,rfl,rfl⟩;simp;refine av (Zqx pC (sX b) m3 (by omega)) ?_;rintro vv h2 n2 k3 ⟨iv,ov,g1,g2,rfl,g3,g4,g5,g6⟩;simp;refine av (Fp (l:=ov) (Sl.row (e:=205) (rw:=true) g2 g3 (by rw[bq];exact g4) (by simp)) (by omega)) ?_;rintro vy h3 n3 k4 hy;rw[Fm g5,g6,oz]at hy;obtain⟨y1,v1,y2,y3⟩:=Yje hk gt m1 m2 (by omega);have ly:=Sl.len hy;rw[bq,y1]at ly;have ly:qg vy=some (k+2):=ly;obtain⟨L,hL⟩:∃L,L+(k+2)=(aH a).length+1:=⟨(aH a).length+1-(k+2),by omega⟩;have hLi:((aH a).length:Int)-((k:Int)+2)=(L:Int)-1:=by omega
 simp[];refine av (Zqx ((zp.ad k3).ad k4) (sX a) m3 (by omega)) ?_;rintro uu h4 n4 k5 ⟨iu,ou,j1,j2,rfl,j3,j4,j5,j6⟩;simp(disch:=first|(simp;done)|omega|(simp only[bq,b_,bk];omega)|rfl) [ly,lu,hLi,JX];have Dy:0<v1:=by omega
 have k6:ab h4 n4 (h4.set n4 (.cells (dg (List.replicate L 0)) 205 true)) (n4+1):=ab.refl.new _;have hyv:v1*B^(k+1)<=val B (aH (b*2^s)):=by obtain⟨w1,w2⟩:=JH (k:=k+1) y1;have:=(OP w1 w2).2;rw[y2]at this;have e:=mC this;rw[oz,e];exact Nat.div_mul_le_self _ _
 refine cm [(14,14),(80,95)] _ (UL N n3 h3 iu n4 (n4+1) ((aH a).length+1) k (a*2^s) (aH (b*2^s))) L ?_ (Ymi (cq:=some L) (v1:=v1) hy (by omega) (sX _) (by omega) (by rw[y2]) Dy j1 j2 (wO n4) (by omega) (by simp) (by simp) (by simp) ?_) ?_
 ·have aW:¬iu=n4:=by omega
  refine⟨rfl,rfl,(k5.trans k6),ou,List.replicate L 0,by simp,by simp[aW,j3],by simp,j4,by simp;omega,by simp,j5,?_,fun t ht1 yW=>by omega,?_,?_⟩
  ·intro d hd;rw[Ia]at hd;rw[hd.2];decide
  ·have ZL:a≠0:=by omega
   have MF:(aH a).length≠0:=by rw[og ZL];simp
   obtain⟨la1,P4⟩:∃x,(aH a).length=x+1:=⟨(aH a).length-1,by omega⟩;have fX:=(JH P4).2;rw[<-P4]at fX;rw[oz]at j6;exact Yd8 (k:=k+1) j6 j4 (by omega) (by omega) fX m3 y3 hyv
  simp[val,j6,oz]
 ·have:(aH a).length+1-(k+2)=L:=by omega
  simp[this]
 rintro e r ⟨H,n5,W⟩ hr ⟨rfl,hn,hW,hK,U,Q,qd,hU,hQ,lU,lQ,hm,dU,dQ,hz,eK,he⟩;simp only at hn hW hK hU hQ;subst hn;simp only[Br,Gp,Nat.one_mul]at he eK;simp[hr];refine cm [(15,15),(97,130)] _ (UM n3 h3 iu n4 (n4+1) ((aH a).length+1) (k+2) s U Q) (k+2) ?_ (Yj1 (cu:=some ((aH a).length+1)) (by omega) lU dU m3 j1 j2 (wO n4) (by omega) (by simp[hr]) (by simp[hr]) (by simp)) ?_
 ·refine⟨rfl,hW,hK,hQ,0,U,by omega,by simp,hU,lU,dU,fun _ _=>rfl,?_⟩;obtain⟨x,hx⟩:∃x,val B U=2^s*x:=by
   refine⟨a-val B Q*b,?_⟩;rw[oz]at he;rw[Nat.mul_sub,jO _ a,<-he];have:val B Q*(b*2^s)=2^s*(val B Q*b):=by grind
   omega
  have pn:dz U 0%2^s=0:=by
   have h1:=Fl (b:=B) (l:=U) (k:=0);have h2:=GS B U 1 (by omega);simp only[List.take_zero,val,Gp,Nat.one_mul,yE,Nat.pow_one]at h1 h2;rw[h1,hx]at h2;have h3:B=2^s*2^(64-s):=by rw[<-mr,show s+(64-s)=64 by omega];rfl
   rw[h3,Gu]at h2;have h4:dz U 0=2^s*(x-2^(64-s)*val (2^s*2^(64-s)) (U.drop 1)):=by rw[Nat.mul_sub];omega
   rw[h4,Nat.mul_mod_right]
  rw[pn];simp[val]
 rintro e r2 ⟨H2,n5,W2⟩ fi ⟨rfl,ib,gS,pP,hQ2,i,o,hi,PZ,az,lo,dO,eQ,xf⟩;simp only at ib gS pP hQ2 az;subst ib;have:i=k+2:=by omega
 subst this;simp[fi,hr];refine av (Fp (l:=Q) (Sl.row (e:=205) (rw:=true) (wO n4) hQ2 (by rw[bq];omega) (by simp)) (by omega)) ?_;rintro q2 h6 n6 k6 hq;have hsU:Sl h6 n6 (.slice iu 0 ((aH a).length+1) (some ((aH a).length+1)) 1) (dg o):=(Sl.row (h:=H2) (N:=n4+1) (by omega) az (by rw[bq];exact lo) (by simp)).ad k6;obtain⟨v',e1,e2⟩:=MD (w:=[]) hsU (lo:=0) (hi:=k+2) (wh _) (by rw[bq];omega) none (some (.int .i64 ((k+2:Nat):Int))) (.inr ⟨rfl,rfl⟩) (.inl rfl);rw[show ((k+2:Nat):Int)=(k:Int)+2 by omega]at e1;simp[fi,hr,FZ,aB,e1];rw[Br,show (dg o).take (k+2)=dg (o.take (k+2)) by simp[dg]]at e2;refine av (Fp (l:=o.take (k+2)) e2 (by rw[iX];omega)) ?_;rintro r3 h7 n7 k7 P5;rw[Fm dQ]at hq;rw[Fm (fun d hd=>dO d (wB hd))]at P5;rw[oz]at he eK;have hbs:0<b*2^s:=z_ hb (rV s);have J6:dz U (k+2)=0:=by simp[dz,hz (k+2) (by omega) (by omega)]
 have hUt:val B (U.take (k+2))=val B U:=by have h1:=GS B U (k+2) (by omega);rw[Zhc (fun t t1 t2=>hz t (by omega) (by omega))]at h1;omega
 have J5:val B Q=a/b:=by
  have h1:a*2^s/(b*2^s)=val B Q:=by rw[<-he,Nat.add_mul_div_right _ _ hbs,Bt eK];omega
  rw[TD _ _ (rV s)]at h1;exact h1.symm
 have zj:val B (o.take (k+2))=a%b:=by
  have h1:a*2^s%(b*2^s)=val B U:=by rw[<-he,Nat.add_mul_mod_self_right,zC eK]
  rw[Oj,jO]at h1;rw[J6,Nat.zero_mod,Nat.mul_zero,gE,hUt,<-h1]at xf;exact Nat.eq_of_mul_eq_mul_left (rV s) xf
 rw[J5]at hq;rw[zj]at P5;simp[cQ.cU,ax];have kk:=(k1.trans k3).trans k4;exact⟨Mj kk.le gS,((kk.trans pP).trans k6).trans k7,q2,r3,⟨rfl,rfl⟩,Sl.ad hq k7,P5⟩
variable {N n:Nat} {h:T O} {x:V} {z:Int}
def A.b180:=A.q Tryz.f180
def A.k180:=@A.kk 180 5 [.cell 2 (some 2)] A.b180 (by kernel_rfl) rfl
def A.b184:=A.q Tryz.f184
def A.k184:=@A.kk 184 7 [.tmp 2] A.b184 (by kernel_rfl) rfl
def A.b223:=A.q Tryz.f223
def A.k223:=@A.kk 223 9 [.cell 2 (some 2)] A.b223 (by kernel_rfl) rfl
def A.b206:=A.q Tryz.f206
def A.k206:=@A.kk 206 10 [.tmp 2] A.b206 (by kernel_rfl) rfl
def A.b198:=A.q Tryz.f198
def A.k198:=@A.kk 198 26 [.cell 2 (some 2)] A.b198 (by kernel_rfl) rfl
def A.b199:=A.q Tryz.f199
def A.k199:=@A.kk 199 24 [.tmp 2,.tmp 3] A.b199 (by kernel_rfl) rfl
def A.b200:=A.q Tryz.f200
def A.k200:=@A.kk 200 50 [.cell 4 (some 2)] A.b200 (by kernel_rfl) rfl
def zO(z:Int):Int:=if z<0 then -1 else 1
def In(h:T O)(N:Nat)(x:V)(z:Int):Prop:=
 (x=.agg [.int .i64 z,.aa]/\ -9223372036854775808<=z/\z<9223372036854775808)\/
 ∃i o l c,x=.agg [.int .i64 (zO z),.slice i o l c 1]/\Wn h N (.slice i o l c 1) z.natAbs/\9223372036854775808<=z.natAbs
def In.ad{h':T O}{N':Nat}(s:In h N x z)(k:ab h N h' N'):In h' N' x z:=by
 rcases s with s|⟨i,o,l,c,s1,s2,s3⟩
 ·exact .inl s
 exact .inr ⟨i,o,l,c,s1,s2.ad k,s3⟩
def In.small(h1: -9223372036854775808<=z)(h2:z<9223372036854775808):In h N (.agg [.int .i64 z,.aa]) z:=.inl ⟨rfl,h1,h2⟩
def In.cells(s:In h N x z):∃n u,x=.agg [.int .i64 n,u]/\V.one u=true:=by
 rcases s with⟨rfl,_⟩|⟨i,o,l,c,rfl,_⟩
 ·exact⟨_,_,rfl,rfl⟩
 exact⟨_,_,rfl,rfl⟩
def In.nu{n:Int}{u:V}(s:In h N (.agg [.int .i64 n,u]) z):∀x∈[V.int .i64 n,u],∀m,x≠.int .u64 m:=by
 intro x hx m hc;simp only[iW,List.not_mem_nil,or_false]at hx;rcases hx with rfl|rfl
 ·cases hc
 subst hc;rcases s with⟨e,_⟩|⟨_,_,_,_,e,_⟩
 ·simp at e
 simp at e
def aM{h1:T O}{n1:Nat}(k:ab h n h1 n1)(o:O):ab h n (h1.set n1 o) (n1+1):=(k.set k.le).up (wm _)
def wl(z:Int):Nat:=(aH z.natAbs).length
def J7:Fn A.C 180 [.int .i64 z] h N (fun v _ _=>v=.agg [.int .i64 z,.aa]):=by intro w;rw[aN,A.k180 (by simp)];simp[A.b180,aQ,aL,ag,ax];exact(((ab.refl.set (aO N)).set (aO N)).up (wm N))
def eE(z:Int):Int:=if z<0 then -1 else if z=0 then 0 else 1
def J8(hx:In h N x z):Fn A.C 184 [x] h N (fun v _ _=>v=.int .i64 (eE z)):=by
 intro w;rw[aN,A.k184 (by simp)];rcases hx with⟨rfl,_⟩|⟨i,o,l,c,rfl,_,hz⟩
 ·obtain h1|h1|h1:z<0\/z=0\/0<z:=by omega
  ·have e1:z<1:=by omega
   have e2:¬ -1<z:=by omega
   simp[A.b184,aQ,ax,Am,sL,Ev,zD,C7,Ak,h1,e1,e2,eE];exact aM ab.refl _
  ·subst h1;simp[A.b184,aQ,ax,Am,sL,Ev,zD,C7,Ak,eE];exact aM ab.refl _
  have e1:¬z<1:=by omega
  have e2:¬z<0:=by omega
  have e3:¬z=0:=by omega
  simp[A.b184,aQ,ax,Am,sL,Ev,zD,C7,Ak,e1,e2,e3,eE];exact aM ab.refl _
 by_cases h1:z<0
 ·simp[A.b184,aQ,ax,Am,sL,Ev,zD,C7,Ak,zO,eE,h1];exact aM ab.refl _
 have e3:¬z=0:=by omega
 simp[A.b184,aQ,ax,Am,sL,Ev,zD,C7,Ak,zO,eE,h1,e3];exact aM ab.refl _
def Zwc(hz: -9223372036854775808<=z)(hm:z<9223372036854775808){st:St}:A.C.call (.func 206 [] []) [.int .i64 z] st=some (.int .u64 (z.natAbs:Nat),st):=by
 apply Call.eq;rw[aN,A.k206 (by simp)];by_cases e1:z<0
 ·have e2:bo .u64 (IntKind.wrap .i64 (0-z))=(z.natAbs:Nat):=by
   rw[MC];by_cases e3:z= -9223372036854775808
   ·subst e3;decide
   rw[Oq (by omega) (by omega)];omega
  rw[Int.zero_sub]at e2;simp[A.b206,e1,e2]
 have e2:bo .u64 z=(z.natAbs:Nat):=by rw[Hk (by omega) (by omega)];omega
 simp[A.b206,e1,e2]
def J9(h:n<B)(h0:n≠0):aH n=[n]:=by rw[og h0,Bt h,sV,zC h]
def Fq(hx:In h N x z):Fn A.C 199 [x] h N (fun v h' n'=>∃u,v=.aV [.bool (decide (z<0)),u]/\Wn h' n' u z.natAbs):=by
 intro w;rw[aN,A.k199 (by simp)];rcases hx with⟨rfl,h1,h2⟩|⟨i,o,l,c,rfl,hw,hz⟩
 ·by_cases h0:z=0
  ·subst h0;simp[A.b199,aQ,bh,ax];refine⟨aM ab.refl _,?_⟩;unfold Wn;rw[sV];exact Sl.nil
  have hs:=fun st=>Zwc h1 h2 (st:=st);have d1:¬N=N+1:=by omega
  simp[A.b199,aQ,ag,bh,h0,hs,ax,cQ.cU];refine⟨aM (aM ab.refl _) _,?_⟩;unfold Wn;rw[J9 (by unfold B;omega) (by omega)];exact Sl.row (e:=205) (rw:=true) (L:=1) (by omega) (by simp[dg]) (by simp) (by simp)
 have e1:(zO z<0)=(z<0):=by unfold zO;split<;>simp_all
 simp[A.b199,aQ,bh,ax,e1,cQ.cU];refine⟨aM ab.refl _,hw.ad (aM ab.refl _)⟩
def Hp{u:V}{b:Bool}(hu:Wn h N u n)(hl:(aH n).length<1099511627776):Fn A.C 200 [.bool b,u] h N (fun v h' n'=>In h' n' v (if b=true then -(n:Int) else n)):=by
 intro w;have lu:=hu.len;rw[bq]at lu;rw[aN,A.k200 (by simp)];have kk:∀o1 o2:O,ab h N ((h.set N o1).set N o2) (N+1):=fun o1 o2=>(aM ab.refl o1).set (aO N);by_cases h0:n=0
 ·subst h0;rw[sV]at lu;simp[A.b200,lu,aQ,aL,ag,ax];refine⟨kk _ _,?_⟩;have:(if b=true then -((0:Nat):Int) else ((0:Nat):Int))=0:=by split<;>rfl
  exact In.small (by omega) (by omega)
 by_cases h1:n<18446744073709551616
 ·rw[J9 h1 h0]at lu;obtain⟨i,o,c,e,rw,p1,p2,p3,p4⟩:=hu.at (f_ (l:=aH n) (j:=0) (n:=n) (by rw[J9 h1 h0];rfl));rw[gE]at p4;have lu:qg u=some 1:=lu;have aW:¬i=N:=by omega
  by_cases h2:n<=9223372036854775807
  ·have mG:(n:Int)<=9223372036854775807:=by omega
   have w1:bo .i64 (n:Int)=n:=cP (by omega) (by omega);have w2:IntKind.wrap .i64 (-(n:Int))= -(n:Int):=Oq (by omega) (by omega);cases b
   ·simp[A.b200,lu,p1,p3,p4,aW,mG,w1,aQ,aL,ag,ax];exact⟨kk _ _,In.small (by omega) (by omega)⟩
   simp[A.b200,lu,p1,p3,p4,aW,mG,w1,w2,aQ,aL,ag,ax];exact⟨kk _ _,In.small (by omega) (by omega)⟩
  have mG:¬(n:Int)<=9223372036854775807:=by omega
  obtain⟨i2,o2,l2,c2,rfl⟩:∃i o l c,u=.slice i o l c 1:=by
   rcases hu with⟨hu,_⟩|⟨i,o,cp,c,e,rw,hu,_⟩
   ·rw[J9 h1 h0]at hu;simp[dg]at hu
   exact⟨_,_,_,_,hu⟩
  cases b
  ·simp[A.b200,lu,p1,p3,p4,aW,mG,aQ,aL,ag,ax];refine⟨kk _ _,.inr ⟨i2,o2,l2,c2,?_,hu.ad (kk _ _),?_⟩⟩
   ·simp[zO]
   omega
  simp[A.b200,lu,p1,p3,p4,aW,mG,aQ,aL,ag,ax];refine⟨kk _ _,.inr ⟨i2,o2,l2,c2,?_,?_,?_⟩⟩
  ·simp[zO];omega
  ·simpa using hu.ad (kk _ _)
  omega
 have JE:2<=(aH n).length:=by rw[og h0,og (by unfold B;omega)];simp
 have c0:¬((aH n).length:Int)=0:=by omega
 have c1:¬((aH n).length:Int)=1:=by omega
 have c2:¬(aH n).length=1:=by omega
 have c3:¬aH n=[]:=by intro h;rw[h]at JE;simp at JE
 rcases hu with⟨hu,_⟩|⟨i,o,cp,c,e,rw,rfl,hu⟩
 ·exfalso;have:=congrArg List.length hu;rw[bq]at this;simp at this;exact c3 this
 have hw:Wn h N (.slice i o (dg (aH n)).length cp 1) n:=.inr ⟨i,o,cp,c,e,rw,rfl,hu⟩;rw[bq]at hw;cases b
 ·simp[A.b200,c1,c3,aQ,aL,ag,ax];refine⟨kk _ _,.inr ⟨i,o,(aH n).length,cp,?_,hw.ad (kk _ _),?_⟩⟩
  ·simp[zO]
  omega
 simp[A.b200,c1,c3,aQ,aL,ag,ax];refine⟨kk _ _,.inr ⟨i,o,(aH n).length,cp,?_,?_,?_⟩⟩
 ·simp[zO];omega
 ·simpa using hw.ad (kk _ _)
 omega
def Sl.aI{v:V}{l:List Nat}{i:Nat}{c0 c1:List V}{e0 e1:TypeId}{w0 w1:Bool}(s:Sl h N v (dg l))(hr:h.get i=some (.cells c0 e0 w0))(hn:∀x∈c0,∀n,x≠.int .u64 n)(hc:c1.length=c0.length):Sl (h.set i (.cells c1 e1 w1)) N v (dg l):=by
 rcases s with s|⟨i',o,cp,c,e,rw,rfl,q1,q2,q3,q4,q5⟩
 ·exact .inl s
 by_cases hi:i'=i
 ·subst hi;rw[hr]at q2;simp only[aq,O.cells.injEq]at q2;obtain⟨rfl,rfl,rfl⟩:=q2;cases l with
  |nil=> refine .inr ⟨i',o,cp,c1,e1,w1,rfl,q1,by rw[T.ae,ar rfl],?_,by simpa[hc]using q4,q5⟩;intro j hj;simp[dg]at hj
  |cons d l=> exfalso;have:=q3 0 (by simp[dg]);have hm:=cF (l:=c0) (i:=o+0) (a:=.int .u64 d) (by rw[this];simp[dg]);exact hn _ hm _ rfl
 exact .inr ⟨i',o,cp,c,e,rw,rfl,q1,by rw[T.ae,ak hi];exact q2,q3,q4,q5⟩
def In.aI{i:Nat}{c0 c1:List V}{e0 e1:TypeId}{w0 w1:Bool}(s:In h N x z)(hr:h.get i=some (.cells c0 e0 w0))(hn:∀x∈c0,∀n,x≠.int .u64 n)(hc:c1.length=c0.length):In (h.set i (.cells c1 e1 w1)) N x z:=by
 rcases s with s|⟨i',o,l,c,s1,s2,s3⟩
 ·exact .inl s
 exact .inr ⟨i',o,l,c,s1,Sl.aI s2 hr hn hc,s3⟩
def MG(hx:In h N x z)(hl:wl z<500000000000):Fn A.C 198 [x] h N (fun v h' n'=>In h' n' v (-z)):=by
 intro w;rw[aN,A.k198 (by simp)];have rest:∀{x:V},In h N x z->∀(h1:T O) (N1:Nat),ab h N h1 N1->Fn A.C 199 [x] h1 N1 (fun v h' n'=>∃u,v=.aV [.bool (decide (z<0)),u]/\Wn h' n' u z.natAbs):=fun hx h1 N1 k=>Fq (hx.ad k);have fin:∀{v h' n'},In h' n' v (if (!decide (z<0))=true then -(z.natAbs:Int) else z.natAbs)->In h' n' v (-z):=fun {v h' n'} q=>by
  have e:(if (!decide (z<0))=true then -(z.natAbs:Int) else (z.natAbs:Int))= -z:=by by_cases h:z<0<;>simp[h]<;>omega
  rw[e]at q;exact q
 by_cases hz:x=.agg [.int .i64 z,.aa]/\z≠ -9223372036854775808/\ -9223372036854775808<=z/\z<9223372036854775808
 ·obtain⟨rfl,h0,h1,h2⟩:=hz;have w2:IntKind.wrap .i64 (-z)= -z:=Oq (by omega) (by omega);simp[A.b198,aQ,aL,ag,bh,h0,w2,ax];exact⟨(aM (aM ab.refl _) _).set (by omega),In.small (by omega) (by omega)⟩
 rcases id hx with⟨rfl,h1,h2⟩|⟨i,o,l,c,rfl,_⟩
 ·have h0:z= -9223372036854775808:=by apply Decidable.byContradiction;intro hc;exact hz ⟨rfl,hc,h1,h2⟩
  have hp:=rest hx _ _ (aM (aM ab.refl (.cells [.int .i64 z,.aa] 121 true)) (.cells [.int .i64 0,.aa] 121 true));subst h0;simp[A.b198,aQ,aL,bh];refine av hp ?_;rintro _ h3 n3 k3 ⟨u,rfl,hu⟩;have wE:=k3.le;have g0:=k3.get (N+1) (by omega);simp at g0;simp[];refine av (Hp hu (by unfold wl at hl;omega)) ?_;rintro v h4 n4 k4 hv;have xD:=k4.le;have g1:=(k4.get (N+1) (by omega)).trans g0;obtain⟨n5,u5,rfl,ke⟩:=hv.cells;unfold V.one at ke;simp[g1,aQ,aL,ag,bO,ax,ke];have kk:=(((aM (aM ab.refl _) _).trans k3).trans k4).set (h:=h) (n:=N) (i:=N+1) (o:=.cells [.int .i64 n5,u5] 121 true) (by omega);exact⟨kk,(fin hv).aI g1 (by simp) rfl⟩
 have hp:=rest hx _ _ (aM (aM ab.refl (.cells [.int .i64 (zO z),.slice i o l c 1] 121 true)) (.cells [.int .i64 0,.aa] 121 true));simp[A.b198,aQ,aL,bh];refine av hp ?_;rintro _ h3 n3 k3 ⟨u,rfl,hu⟩;have wE:=k3.le;have g0:=k3.get (N+1) (by omega);simp at g0;simp[];refine av (Hp hu (by unfold wl at hl;omega)) ?_;rintro v h4 n4 k4 hv;have xD:=k4.le;have g1:=(k4.get (N+1) (by omega)).trans g0;obtain⟨n5,u5,rfl,ke⟩:=hv.cells;unfold V.one at ke;simp[g1,aQ,aL,ag,bO,ax,ke];have kk:=(((aM (aM ab.refl _) _).trans k3).trans k4).set (h:=h) (n:=N) (i:=N+1) (o:=.cells [.int .i64 n5,u5] 121 true) (by omega);exact⟨kk,(fin hv).aI g1 (by simp) rfl⟩
def A.b25:=A.q Tryz.f25
def A.k25:=@A.kk 25 13 [.tmp 2] A.b25 (by kernel_rfl) rfl
def A.b83:=A.q Tryz.f83
def A.k83:=@A.kk 83 7 [.tmp 2] A.b83 (by kernel_rfl) rfl
def A.b84:=A.q Tryz.f84
def A.k84:=@A.kk 84 14 [.tmp 2] A.b84 (by kernel_rfl) rfl
def A.b82:=A.q Tryz.f82
def A.k82:=@A.kk 82 9 [.tmp 2] A.b82 (by kernel_rfl) rfl
def Yun:aP 0=[48]:=by decide+kernel
def Ypp{q:Rat}:aP q=[48]↔q=0:=⟨fun h=>Yjm (h.trans Yun.symm),fun h=>by rw[h,Yun]⟩
def HT{q:Rat}:q.num=0↔q=0:=Rat.num_eq_zero
def Ypo(q:Rat):0<(aP q).length:=by obtain⟨c,t,h,_⟩:=Zyg q;rw[Ka,h];split<;>simp
def Yjl(q:Rat):∃c,(aP q)[0]?=some c/\(aP q).head?=some c/\(cW c=45↔q.num<0):=by
 obtain⟨c,t,h,h1⟩:=Zyg q;by_cases hz:q.num<0
 ·refine⟨45,?_,?_,?_⟩
  ·rw[Ka,ar hz];rfl
  ·rw[Ka,ar hz];rfl
  exact⟨fun _=>hz,fun _=>rfl⟩
 refine⟨c,?_,?_,?_⟩
 ·rw[Ka,ak hz,h];rfl
 ·rw[Ka,ak hz,h];rfl
 exact⟨fun h2=>by unfold cW at h2;omega,fun h2=>absurd h2 hz⟩
def Zr3{q:Rat}{st:St}:A.C.call (.func 25 [] []) [.str (aP q)] st=some (.int .i64 (eE q.num),st):=by
 have e:(aP q==[48])=decide (q=0):=by rw[Bool.eq_iff_iff,beq_iff_eq,decide_eq_true_eq];exact Ypp
 obtain⟨c,h1,h2,h3⟩:=Yjl q;have hp:=Ypo q;have UO:(0:Int)<((aP q).length:Int):=by omega
 have aW:aP q≠[]:=fun hc=>by rw[hc]at hp;simp at hp
 apply Call.eq;rw[aN,A.k25 (by simp)];by_cases h0:q=0
 ·have hn:q.num=0:=HT.2 h0;have hs:eE q.num=0:=by rw[hn];rfl
  have e0:(aP q==[48])=true:=by rw[e];simp[h0]
  rw[hs];simp(disch:=first|(simp;done)|omega|rfl) [-getElem?_pos,A.b25,jF,e0]
 have hn:q.num≠0:=fun hc=>h0 (HT.1 hc);by_cases hz:q.num<0
 ·have hs:eE q.num= -1:=by unfold eE;rw[ar hz]
  have hc:=h3.2 hz;rw[hs];simp(disch:=first|(simp;done)|omega|rfl) [-getElem?_pos,A.b25,jF,e,h0,hp,h1,hc]
 have hs:eE q.num=1:=by unfold eE;rw[ak hz,ak hn]
 have hc:¬cW c=45:=fun hc=>hz (h3.1 hc);rw[hs];simp(disch:=first|(simp;done)|omega|rfl) [-getElem?_pos,A.b25,jF,e,h0,hp,h1,hc]
def Zrf(q:Rat):q⁻¹=Rat.divInt (q.den:Int) q.num:=Rat.inv_def q
def Yqw{q:Rat}{st:St}(hl:(aP q).length<1000000000):A.C.call (.func 83 [] []) [.str (aP q)] st=some (.str (aK q.num),st):=by
 have ct:=fun st=>Hq (s:=aP q) (st:=st) (by omega);have h2:ah (aP q)<=(aP q).length:=by
  rw[Mw];unfold aP;split
  ·exact aO _
  rw[jm];omega
 have a4:∀st:St,vg st (some (.str (aP q))) (some none) (some (some (.int .i64 (ah (aP q):Nat))))=some (.str (aK q.num),st):=fun st=>by rw[Zmk (by omega) (by omega),Int.toNat_natCast,PA]
 apply Call.eq;rw[aN,A.k83 (by simp)];simp[A.b83,ct,aB,a4]
def Yst{q:Rat}{st:St}(hl:(aP q).length<1000000000):A.C.call (.func 84 [] []) [.str (aP q)] st=some (.str (an q.den),st):=by
 have ct:=fun st=>Hq (s:=aP q) (st:=st) (by omega);have aC:=Fa q;have h2:ah (aP q)<=(aP q).length:=by
  rw[Mw];unfold aP;split
  ·exact aO _
  rw[jm];omega
 apply Call.eq;rw[aN,A.k84 (by simp)];by_cases hd:q.den=1
 ·have c1:(ah (aP q):Int)=((aP q).length:Int):=by omega
  rw[hd,Nj];simp[A.b84,ct,c1]
 have il:=aC.2 hd;have c1:¬(ah (aP q):Int)=((aP q).length:Int):=by omega
 have c2:¬ah (aP q)=(aP q).length:=by omega
 have w1:bo .i64 ((ah (aP q):Int)+1)=(ah (aP q):Int)+1:=cP (by omega) (by omega);have yX:=PB q hd;have a4:∀st:St,vg st (some (.str (aP q))) (some (some (.int .i64 ((ah (aP q):Int)+1)))) (some none)=some (.str (an q.den),st):=fun st=>by
  rw[JZ (by omega) (by omega)];have:((ah (aP q):Int)+1).toNat=ah (aP q)+1:=by omega
  rw[this,yX]
 simp[A.b84,ct,c1,w1,aB,a4]
def Ypq(z:Int):aP (z:Rat)=aK z:=by unfold aP;rw[ar (by simp)];simp
def Yty{z:Int}{st:St}(hl:(aK z).length<1000000000):A.C.call (.func 82 [] []) [.str (aK z)] st=some (.str (an z.natAbs),st):=by
 have hs:=fun st=>Zr3 (q:=(z:Rat)) (st:=st);rw[Ypq]at hs;have hn:((z:Rat)).num=z:=by simp
 rw[hn]at hs;apply Call.eq;rw[aN,A.k82 (by simp)];by_cases hz:z<0
 ·have e1:aK z=45::an z.natAbs:=by unfold aK;rw[ar hz]
  have e3:eE z= -1:=by unfold eE;rw[ar hz]
  rw[e1,e3]at hs;have a3:∀st:St,vg st (some (.str (45::an z.natAbs))) (some (some (.int .i64 1))) (some none)=some (.str (an z.natAbs),st):=fun st=>by rw[JZ (by omega) (by simp only[bk];omega)];rfl
  rw[e1];simp[A.b82,hs,aB,a3]
 have e1:aK z=an z.natAbs:=by unfold aK;rw[ak hz]
 have e3:¬eE z<0:=by unfold eE;rw[ak hz];split<;>omega
 rw[e1]at hs;rw[e1];simp[A.b82,hs,e3]
end
end Go.Mx
