/-num-/
import Derived.Test.YtgccnjdneojagaaGreatDoorNaV
set_option linter.all false
namespace Go.Mx
noncomputable section
open Go Go.Proofs
variable {N i iu j k n n2 v1:Nat} {U Y l o:List Nat} {cp:Option Nat} {h:T O} {r0:T V} {v:V}
set_option maxHeartbeats 4000000
set_option maxRecDepth 1000000
def A.Cc:=A.q Tryz.f243
def A.l9:=A.ql A.Cc 2 []
def A.l_:=A.ql A.Cc 1 []
def A.mb:=A.ql A.Cc 0 []
def A.oR:=(fun x0 x1 x2=>A.qt A.Cc [x0,x1,x2] [] [1,1,1,1,1]) A.mb A.l_ A.l9
def A.b243:=(fun x0 x1 x2 y0=>A.qt A.Cc [x0,x1,x2] [([1,1,1,1,1],y0)] []) A.mb A.l_ A.l9 A.oR
def A.k243:=@A.kk 243 186 [.tmp 4] A.b243 (by kernel_rfl) rfl
def Yg8:Ac i l≠[]:=by
 unfold Ac;split
 ·rintro rfl;simp_all
 simp
def Zkt{w:List Nat}(h:ay n (i::w)=[]):¬i<n/\ay n w=[]:=by
 simp only[ay]at h;split at h
 ·exact absurd h Yg8
 rename_i hi;exact⟨hi,h⟩
def P7{n:Nat}:∀{w u:List Nat},ay n w=[]->ay n (w++u)=ay n u
 |[],u,_=>rfl
 |i::w,u,h=>by
  obtain⟨hi,hw⟩:=Zkt h
  simp only[Ev,ay,hi,if_false]
  exact P7 hw
def MG{n N:Nat}(hn:n<=N):∀{w:List Nat},ay N w=[]->ay n w=[]
 |[],_=>rfl
 |i::w,h=>by
  obtain⟨hi,hw⟩:=Zkt h
  simp only[ay,show ¬i<n by omega,if_false]
  exact MG hn hw
def Zx3(hi:¬i<n)(h:ay n l=[]):ay n (Ac i l)=[]:=by
 unfold Ac;split
 ·exact h
 simp only[ay,hi,if_false];exact h
def P8{n N:Nat}:∀{w:List Nat},ay n w=[]->ay n (ay N w)=[]
 |[],_=>rfl
 |i::w,h=>by
  obtain⟨hi,hw⟩:=Zkt h
  have:=P8 (N:=N) hw
  simp only[ay]
  split
  ·exact Zx3 hi this
  ·exact this
def Yb5{r v:Nat}(hr:r<B)(hv:v<B):bC (r+v)+B*cE (r+v)=r+v/\bC (r+v)<B/\cE (r+v)<=1:=by have:=Ykj (c:=0) hv hr (by omega);simpa using this
def GuI(h:T O)(N u1 v1 W Z m:Nat)(r:T V)(st:St):Prop:=st=⟨h,N,[]⟩/\∃rr ov:Nat,r.get 6=some (.int .u64 m)/\r.get 7=some (.int .u64 rr)/\r.get 8=some (.int .u64 ov)/\ov<=1/\rr<B/\m<B/\u1=m*v1+(rr+B*ov)/\W<(m+1)*Z
structure U6 (h:T O) (N n2 iu j q:Nat) (U Y:List Nat) (m:Nat) (r:T V) (st:St):Prop where
 n:st.n=N
 w:ay n2 st.w=[]
 old:∀t,t≠iu->st.h.get t=h.get t
 ex:∃(i bw c:Nat) (o:List Nat),i+m=Y.length/\r.get 105=some (.int .i64 i)/\r.get 11=some (.int .u64 bw)/\r.get 12=some (.int .u64 c)/\st.h.get iu=some (.cells (dg o) 199 true)/\o.length=U.length/\Dg o/\(∀t,(t<j\/j+i<=t)->o[t]?=U[t]?)/\bw<=1/\c<B/\val B (o.drop j)+q*val B (Y.take i)=val B (U.drop j)+B^i*(c+bw)
structure U7 (h:T O) (N n2 iu j:Nat) (U Y:List Nat) (m:Nat) (r:T V) (st:St):Prop where
 n:st.n=N
 w:ay n2 st.w=[]
 old:∀t,t≠iu->st.h.get t=h.get t
 ex:∃(i c:Nat) (o:List Nat),i+m=Y.length/\r.get 157=some (.int .i64 i)/\r.get 17=some (.int .u64 c)/\st.h.get iu=some (.cells (dg o) 199 true)/\o.length=U.length/\Dg o/\(∀t,(t<j\/j+i<=t)->o[t]?=U[t]?)/\c<=1/\val B (o.drop j)+B^i*c=val B (U.drop j)+val B (Y.take i)
structure J8 (h:T O) (N n2 iu j k:Nat) (U Y:List Nat) (w:List Nat) (x:V) (st:St):Prop where
 n:st.n=N
 w:ay n2 st.w=ay n2 w
 old:∀t,t≠iu->st.h.get t=h.get t
 ex:∃(q:Nat) (o:List Nat),x=.int .u64 q/\q<B/\st.h.get iu=some (.cells (dg o) 199 true)/\o.length=U.length/\Dg o/\(∀t,t<j->o[t]?=U[t]?)/\(∀t,j+k+2<=t->t<o.length->o[t]?=some 0)/\val B (o.drop j)+q*val B Y=val B (U.drop j)/\val B (o.drop j)<val B Y
def Ys8{h:T O}{N n2 iu j q:Nat}{U Y:List Nat}{v:V}{cp:Option Nat}{r0:T V}(hv:Sl h n2 v (dg Y))(dY:Dg Y)(h2:n2<=iu)(hj:j+Y.length<U.length)(hl:U.length<1099511627776)(hq:q<B)
  (a0:r0.get 0=some (.slice iu j (Y.length+1) cp 1)) (a1:r0.get 1=some v) (a6:r0.get 6=some (.int .u64 q)) (P9:r0.get 104=some (.int .i64 Y.length)):
  ∀k r st,(∀t,j_ [(11,16),(105,139)] t=false->r.get t=r0.get t)->Fx [(11,16),(105,139)] r0 186 ⟨r,186,[]⟩->U6 h N n2 iu j q U Y k r st->Code A.C none A.l_ ⟨r,186,[]⟩ st (Rd [(11,16),(105,139)] r0 186 (U6 h N n2 iu j q U Y) k (fun e r st=>e=.exit 2/\U6 h N n2 iu j q U Y 0 r st)):=by
 rintro m r ⟨H,n1,W⟩ hr hf ⟨hn,hW,hO,i,bw,c,o,hi,Cd,mR,U8,aA,ho,hd,hs,hb,hc,he⟩;simp only at hn hW hO aA;subst hn;have lv:=hv.len;rw[bz]at lv;rw[bu];cases m with
 |zero=>
  have:i=Y.length:=by omega
  subst this;simp[A.l_,hr,hf,P9,Cd];exact⟨rfl,hW,hO,Y.length,bw,c,o,by omega,by simp[Cd],by simp[mR],by simp[U8],aA,ho,hd,hs,hb,hc,he⟩
 |succ m=>
  have aE:i<Y.length:=by omega
  have gy:=ct aE;generalize Y[i]=y at*;have hy:y<B:=dY.get gy;obtain⟨i2,o2,c2,e2,w2,p1,p2,p3,p4⟩:=hv.at (fZ gy);have aZ:i2≠iu:=by omega
  have p3:=(hO i2 aZ).trans p3;have go:o[j+i]?=some (o[j+i]'(by omega)):=ct (by omega);generalize o[j+i]'(by omega)=u at*;have hu:u<B:=hd.get go;obtain⟨s1,s2,s3,s4,s5⟩:=Ys7 hq hy hc hu hb;have Ce:i<Y.length+1:=by omega
  simp[A.l_,hr,P9,Cd,aE,a6,a1,lv,p1,p3,p4];refine ar (Qa hq hy) ?_;rintro _ H n1 DL ⟨rfl,rfl,rfl⟩;have q1:bC (bC (q*y)+c)=yb q y c:=rfl;have q2:cQ (cE (q*y)) (cE (bC (q*y)+c))=qk q y c:=rfl;have hbi:(bw:Int)=0\/(bw:Int)=1:=by omega
  simp(disch:=first|(simp;done)|omega|(simp only[bz,cm,bl];omega)|rfl) [-getElem?_pos,hr,hf,Cd,Ce,a0,mR,U8,aA,fZ go,rF,q1,q2,hbi];have xS:¬iu<n2:=by omega
  refine⟨m,by omega,rfl,by simp[ay,hW,xS],fun t ht=>by rw[T.ag,ak ht];exact hO t ht,i+1,gk u (yb q y c) bw,qk q y c,o.set (j+i) (e_ u (yb q y c) bw),by omega,by simp,by simp,by simp,by simp,by simp[ho],hd.v_ s2,?_,s4,s3,?_⟩
  ·intro t ht;rw[eW (by omega)];exact hs t (by omega)
  have go2:(o.drop j)[i]?=some u:=by rw[fJ];exact go
  have v1:=Qc (b:=B) (v:=e_ u (yb q y c) bw) go2;rw[List.drop_set,ak (by omega),show j+i-j=i by omega,He gy];have e1:B^i*(e_ u (yb q y c) bw+q*y+c+bw)=B^i*(u+B*(qk q y c+gk u (yb q y c) bw)):=by rw[s1]
  rw[im];generalize val B ((o.drop j).set i (e_ u (yb q y c) bw))=z1 at*;generalize val B (o.drop j)=z2 at*;generalize val B (U.drop j)=z3 at*;generalize val B (List.take i Y)=z4 at*;generalize e_ u (yb q y c) bw=z5 at*;generalize qk q y c=z6 at*;generalize gk u (yb q y c) bw=z7 at*;generalize B^i=z8 at*;clear s1 gy hy go go2 hu hs hd;grind
def Yvz{h:T O}{N n2 iu j:Nat}{U Y:List Nat}{v:V}{cp:Option Nat}{r0:T V}(hv:Sl h n2 v (dg Y))(dY:Dg Y)(h2:n2<=iu)(hN:iu<N)(hj:j+Y.length<U.length)(hl:U.length<1099511627776)
  (a0:r0.get 0=some (.slice iu j (Y.length+1) cp 1)) (a1:r0.get 1=some v) (Qd:r0.get 156=some (.int .i64 Y.length)):
  ∀k r st,(∀t,j_ [(17,18),(157,176)] t=false->r.get t=r0.get t)->Fx [(17,18),(157,176)] r0 186 ⟨r,186,[]⟩->U7 h N n2 iu j U Y k r st->Code A.C none A.l9 ⟨r,186,[]⟩ st (Rd [(17,18),(157,176)] r0 186 (U7 h N n2 iu j U Y) k (fun e r st=>e=.exit 4/\U7 h N n2 iu j U Y 0 r st)):=by
 rintro m r ⟨H,n1,W⟩ hr hf ⟨hn,hW,hO,i,c,o,hi,Cf,U9,aA,ho,hd,hs,hc,he⟩;simp only at hn hW hO aA;subst hn;have lv:=hv.len;rw[bz]at lv;rw[bu];cases m with
 |zero=>
  have:i=Y.length:=by omega
  subst this;simp[A.l9,hr,hf,Qd,Cf];exact⟨rfl,hW,hO,Y.length,c,o,by omega,by simp[Cf],by simp[U9],aA,ho,hd,hs,hc,he⟩
 |succ m=>
  have aE:i<Y.length:=by omega
  have gy:=ct aE;generalize Y[i]=y at*;have hy:y<B:=dY.get gy;obtain⟨i2,o2,c2,e2,w2,p1,p2,p3,p4⟩:=hv.at (fZ gy);have aZ:i2≠iu:=by omega
  have p3:=(hO i2 aZ).trans p3;have go:o[j+i]?=some (o[j+i]'(by omega)):=ct (by omega);generalize o[j+i]'(by omega)=u at*;have hu:u<B:=hd.get go;obtain⟨s1,s2,s3⟩:=Ykj hy hu hc;have Ce:i<Y.length+1:=by omega
  have Jz:(c:Int)=0\/(c:Int)=1:=by omega
  have xS:¬iu<n2:=by omega
  have hiN:i2<n1:=by omega
  have np:¬iu=i2:=fun hc=>aZ hc.symm;simp(disch:=first|(simp;done)|omega|(simp only[bz,cm,bl];omega)|rfl) [-getElem?_pos,A.l9,hr,hf,Qd,Cf,aE,Ce,hN,hiN,aZ,np,dv.dw,a0,a1,lv,p1,p3,p4,aA,fZ go,rF,U9,Jz];rw[wD (by simp[hN,np])];simp(disch:=first|(simp;done)|omega|(simp only[bz,cm,bl];omega)|rfl) [hr,hf,Cf];refine⟨m,by omega,rfl,by simp[ay,hW,xS],fun t ht=>by rw[T.ag,ak ht];exact hO t ht,i+1,cE (u+y+c),o.set (j+i) (bC (u+y+c)),by omega,by simp,by simp,by simp,by simp[ho],hd.v_ s2,?_,s3,?_⟩
  ·intro t ht;rw[eW (by omega)];exact hs t (by omega)
  have go2:(o.drop j)[i]?=some u:=by rw[fJ];exact go
  have v1:=Qc (b:=B) (v:=bC (u+y+c)) go2;rw[List.drop_set,ak (by omega),show j+i-j=i by omega,He gy];have e1:B^i*(bC (u+y+c)+B*cE (u+y+c))=B^i*(u+y+c):=by rw[s1]
  rw[im];generalize val B ((o.drop j).set i (bC (u+y+c)))=z1 at*;generalize val B (o.drop j)=z2 at*;generalize val B (U.drop j)=z3 at*;generalize val B (List.take i Y)=z4 at*;generalize bC (u+y+c)=z5 at*;generalize cE (u+y+c)=z6 at*;generalize B^i=z8 at*;clear s1 gy hy go go2 hu hs hd;grind
def Yug{u2 u1 v2 U' V' P:Nat}{e0:TypeId}{C7:Bool}(hv:Sl h n2 v (dg Y))(hY:Y.length=k+2)(dY:Dg Y)(hl:U.length<1099511627776)(rL:j+k+2<U.length)(hU:h.get iu=some (.cells (dg U) e0 C7))(dU:Dg U)
  (f2:Y[k]?=some v2) (f1:Y[k+1]?=some v1) (g2:U[j+k]?=some u2) (nT:0<v1) (hP:0<P) (EM:U'<P) (EN:V'<P)
  (a0:r0.get 0=some (.slice iu j (k+3) cp 1)) (a1:r0.get 1=some v) (a5:r0.get 5=some (.int .i64 ((k:Int)+2))):
  ∀m r st,(∀t,j_ [(6,10),(63,103)] t=false->r.get t=r0.get t)->Fx [(6,10),(63,103)] r0 186 ⟨r,186,[]⟩->GuI h N u1 v1 (U'+P*(u2+B*u1)) (V'+P*(v2+B*v1)) m r st->Code A.C none A.mb ⟨r,186,[]⟩ st (Rd [(6,10),(63,103)] r0 186 (GuI h N u1 v1 (U'+P*(u2+B*u1)) (V'+P*(v2+B*v1))) m (fun e r st=>e=.exit 0/\st=⟨h,N,[]⟩/\∃q:Nat,r.get 6=some (.int .u64 q)/\q<B/\(q-1)*(V'+P*(v2+B*v1))<=U'+P*(u2+B*u1)/\U'+P*(u2+B*u1)<(q+1)*(V'+P*(v2+B*v1)))):=by
 rintro m r _ hr hf ⟨rfl,rr,ov,h6,h7,h8,hov,Fm,hm,hinv,iW⟩;have lv:=hv.len;rw[bz]at lv;rw[bu];have jQ:v2<B:=dY.get f2;have Fq:v1<B:=dY.get f1;have fX:u2<B:=dU.get g2;have fin:m*v2<=(rr+B*ov)*B+u2->(m-1)*(V'+P*(v2+B*v1))<=U'+P*(u2+B*u1):=by
  intro hc;cases m with
  |zero=>simp
  |succ s=>exact Yt6 nT EN (by omega) hinv hc
 by_cases h0:ov=0
 ·subst h0;simp only[Nat.mul_zero,gE]at hinv fin;obtain⟨i2,o2,c2,e2,w2,p1,p2,p3,p4⟩:=hv.at (fZ f2);have cK:((k:Int)+2-2)=(k:Int):=by omega
  have rP:(k:Int)<((k+2:Nat):Int):=by omega
  have Qe:(k:Int)<((k+3:Nat):Int):=by omega
  rw[hY]at lv;simp(disch:=first|(simp;done)|omega|(simp only[bz,cm,bl];omega)|rfl) [A.mb,hr,hf,h6,h7,h8,a0,a1,a5,lv,p1,p3,p4,bA,cK,rP];refine ar (Qa hm jQ) ?_;rintro _ h N DL ⟨rfl,rfl,rfl⟩;have hp:bC (m*v2)+B*cE (m*v2)=m*v2:=by have:=wI (m*v2) B;unfold bC cE;unfold B at*;omega
  have iD:bC (m*v2)<B:=Yh2;obtain⟨i1,o1,c1,e1,w1,q1,q2,q3,q4⟩:=hv.at (fZ f1);obtain⟨hi,Cg⟩:∃x,cE (m*v2)=x:=⟨_,rfl⟩;obtain⟨lo,wc⟩:∃x,bC (m*v2)=x:=⟨_,rfl⟩;rw[Cg,wc]at hp;rw[wc]at iD;by_cases c1:hi<rr
  ·have:=fin (by have:=lF B c1;rw[kg rr B];rw[Nat.succ_eq_add_one,vF]at this;omega);simp[hf,h6,h7,Cg,wc,c1];exact⟨hm,this,iW⟩
  have dec:rr*B+u2<m*v2->0<m/\u1=(m-1)*v1+(rr+v1)/\U'+P*(u2+B*u1)<(m-1+1)*(V'+P*(v2+B*v1)):=by
   intro hc;have h3:=Yt5 EM hinv hc (b:=B) (P:=P) (V':=V');cases m with
   |zero=>omega
   |succ s=> refine⟨by omega,?_,by simpa using h3⟩;rw[hinv,js];simp;omega
  obtain⟨s1,s2,s3⟩:=Yb5 Fm Fq;have kh:((k:Int)+2-1)=(k:Int)+1:=by omega
  have Qf:(k:Int)+1<((k+2:Nat):Int):=by omega
  have sbm:0<m->gV m 1=m-1:=fun hc=>G9 hc (by unfold B at hm;omega);by_cases c2:hi=rr
  ·by_cases c3:lo<=u2
   ·have:=fin (by rw[<-hp,c2,kg rr B];omega);simp(disch:=first|(simp;done)|omega|(simp only[bz,cm,bl];omega)|rfl) [-getElem?_pos,hr,hf,h6,h7,h8,Cg,wc,c1,c2,c3,bA,a0,a5,cK,Qe,hU,fZ g2];exact⟨hm,this,iW⟩
   obtain⟨d1,d2,d3⟩:=dec (by rw[<-hp,c2,kg rr B];omega);have sb:=sbm d1;simp(disch:=first|(simp;done)|omega|(simp only[bz,cm,bl];omega)|rfl) [-getElem?_pos,hr,hf,h6,h7,h8,Cg,wc,c1,c2,c3,bA,a0,a1,a5,cK,kh,Qe,hU,fZ g2,lv,q1,q3,q4,Qf,sb];exact⟨m-1,by omega,rfl,bC (rr+v1),cE (rr+v1),by simp,by simp,by simp,s3,s2,by omega,by rw[s1];exact d2,d3⟩
  obtain⟨d1,d2,d3⟩:=dec (by
   have:rr+1<=hi:=by omega
   have:=lF B this
   rw[vF]at this
   rw[<-hp,kg rr B];omega);have sb:=sbm d1;simp(disch:=first|(simp;done)|omega|(simp only[bz,cm,bl];omega)|rfl) [hr,hf,h6,h7,h8,Cg,wc,c1,c2,bA,a0,a1,a5,cK,kh,lv,q1,q3,q4,Qf,sb];exact⟨m-1,by omega,rfl,bC (rr+v1),cE (rr+v1),by simp,by simp,by simp,s3,s2,by omega,by rw[s1];exact d2,d3⟩
 have:ov=1:=by omega
 subst this;have:=fin (by have h1:m*v2<=B*B:=mI (by omega) (by omega);rw[AH,js];omega);simp[A.mb,hf,h8];exact⟨m,by simp[h6],hm,this,iW⟩
def Zxl(hl:o.length=U.length)(hj:j+n<=U.length):val B (o.drop j)=val B ((o.drop j).take n)+B^n*val B (o.drop (j+n)):=by have:=Hj B (o.drop j) n (by rw[yO];omega);rw[List.drop_drop]at this;exact this
def Ybk{p:Nat}(hl:o.length=U.length)(hs:∀t,p<=t->o[t]?=U[t]?):o.drop p=U.drop p:=by apply nN;intro t;rw[fJ,fJ];exact hs _ (by omega)
def Yfy(hd:Dg o)(hl:o.length=U.length)(hj:j+n<=U.length):val B ((o.drop j).take n)<B^n:=by
 apply Zo3
 ·intro d h;exact hd d (Ox h)
 rw[yO];omega
def Yfb{p d:Nat}(hd:o[p]?=some d)(hz:∀t,p+1<=t->t<o.length->o[t]?=some 0):val B (o.drop p)=d:=by rw[DM hd,Zhm hz];omega
def Yux(h:k<l.length):ae (dg l) k [.int .u64 0]=dg (l.set k 0):=rF (v:=0) h
def Yfk{d u2 u1 v2 U' V' q0 MI Va:Nat}(hv:Sl h n2 v (dg Y))(hY:Y.length=k+2)(dY:Dg Y)(h2:n2<=iu)(hN:iu<N)(hl:U.length<1099511627776)(rL:j+k+2<U.length)(hU:h.get iu=some (.cells (dg U) 199 true))(dU:Dg U)
  (f2:Y[k]?=some v2) (f1:Y[k+1]?=some v1) (g2:U[j+k]?=some u2) (gd:U[j+k+2]?=some d) (hz:∀t,j+k+3<=t->t<U.length->U[t]?=some 0) (nT:0<v1) (EM:U'<B^k) (EN:V'<B^k) (eU:val B (U.drop j)=U'+B^k*(u2+B*u1)) (eV:val B Y=V'+B^k*(v2+B*v1))
  (a0:r0.get 0=some (.slice iu j (k+3) cp 1)) (a1:r0.get 1=some v) (a5:r0.get 5=some (.int .i64 ((k:Int)+2))) (a6:r0.get 6=some (.int .u64 q0)) (a7:r0.get 7=some (.int .u64 MI)) (a8:r0.get 8=some (.int .u64 Va))
  (b1:Va<=1) (b2:MI<B) (b3:q0<B) (b4:u1=q0*v1+(MI+B*Va)) (b5:U'+B^k*(u2+B*u1)<(q0+1)*(V'+B^k*(v2+B*v1))):
  Code A.C none A.oR ⟨r0,186,[]⟩ ⟨h,N,[]⟩ (fun e fr st=>e=.ret/\∃r x,fr=⟨r,186,[]⟩/\r.get 4=some x/\J8 h N n2 iu j k U Y [] x st):=by
 have hP:0<B^k:=BD (by decide);rw[bu];simp[A.oR];refine b_ [(6,10),(63,103)] _ (GuI h N u1 v1 (U'+B^k*(u2+B*u1)) (V'+B^k*(v2+B*v1))) q0 ?_ (Yug hv hY dY hl rL hU dU f2 f1 g2 nT hP EM EN a0 a1 a5) ?_
 ·exact⟨rfl,MI,Va,a6,a7,a8,b1,b2,b3,b4,b5⟩
 rintro e r _ hr ⟨rfl,rfl,q,h6,hq,gT,iW⟩;rw[<-eU,<-eV]at gT iW;simp[hr,a5];refine b_ [(11,16),(105,139)] _ (U6 h N n2 iu j q U Y) Y.length ?_ (Ys8 hv dY h2 (by omega) hl hq (cp:=cp) (by simp[hr,a0,hY]) (by simp[hr,a1]) (by simp[h6]) (by simp[hY])) ?_
 ·exact⟨rfl,rfl,fun _ _=>rfl,0,0,0,U,by omega,by simp,by simp,by simp,hU,rfl,dU,fun _ _=>rfl,by omega,by decide,by simp[val]⟩
 rintro e r1 ⟨H,n1,W⟩ Hn ⟨rfl,hn,hW,hO,i,bw,cc,o,hi,Cd,mR,U8,aA,ho,hd,hs,hb,hc,he⟩;simp only at hn hW hO aA;subst hn;have:i=k+2:=by omega
 subst this;have god:o[j+(k+2)]?=some d:=by rw[hs _ (by omega)];exact gd
 have Vb:d<B:=dU.get gd;obtain⟨s1,s2,s3⟩:=Yrz hc Vb hb;have hbi:(bw:Int)=0\/(bw:Int)=1:=by omega
 have xS:¬iu<n2:=by omega
 obtain⟨t',Qg⟩:∃x,e_ d cc bw=x:=⟨_,rfl⟩;obtain⟨ee,OJ⟩:∃x,gk d cc bw=x:=⟨_,rfl⟩;rw[Qg,OJ]at s1;rw[Qg]at s2;rw[OJ]at s3;simp(disch:=first|(simp;done)|omega|(simp only[bz,cm,bl];omega)|rfl) [-getElem?_pos,Hn,hr,a0,a5,mR,U8,h6,aA,fZ god,rF,hbi,Qg,OJ,show ((k:Int)+2).toNat=k+2 by omega];have hVP:val B Y<B^(k+2):=by rw[<-hY];exact Hf dY
 have hPP:0<B^(k+2):=BD (by decide);have eo:=Zxl (j:=j) (n:=k+2) ho (by omega);have eu:=Zxl (o:=U) (j:=j) (n:=k+2) rfl (by omega);rw[Ybk ho (p:=j+(k+2)) (fun t ht=>hs t (by omega))]at eo;have zaz:val B (U.drop (j+(k+2)))=d:=Yfb gd (fun t h1 h2=>hz t (by omega) h2);rw[zaz]at eo eu;have hSP:=Yfy (j:=j) (n:=k+2) hd ho (by omega);have go2:(o.drop j)[k+2]?=some d:=by rw[fJ];exact god
 have vs:=Qc (b:=B) (v:=t') go2;rw[fU (by omega)]at he;generalize val B ((o.drop j).take (k+2))=S at*;generalize val B ((U.drop j).take (k+2))=W0 at*;have h1:S+q*val B Y=W0+B^(k+2)*(cc+bw):=by rw[eo,eu]at he;omega
 have kt:=Yxt (by decide) hPP hVP hSP s2 s3 h1 (by omega:t'+(cc+bw)=d+B*ee) (by rw[<-eu];exact gT) (by rw[<-eu];exact iW);have Qh:(o.set (j+(k+2)) t').drop j=(o.drop j).set (k+2) t':=by rw[List.drop_set,ak (by omega),show j+(k+2)-j=k+2 by omega]
 have vo2:val B ((o.set (j+(k+2)) t').drop j)=S+B^(k+2)*t':=by rw[Qh];omega
 have ew:=hd.v_ (k:=j+(k+2)) s2;have fY:ay n2 (iu::W)=[]:=by simp[ay,hW,xS]
 by_cases Po:ee=0
 ·obtain⟨t1,t2,t3⟩:=kt.1 Po;subst t3;simp(disch:=first|(simp;done)|omega|(simp only[bz,cm,bl];omega)|rfl) [-getElem?_pos,Hn,hr,h6,Po];refine J8.mk rfl fY (fun t ht=>by rw[T.ag,ak ht];exact hO t ht) ⟨q,o.set (j+(k+2)) 0,rfl,hq,by simp,by simp[ho],ew,?_,?_,?_,?_⟩
  ·intro t ht;rw[eW (by omega)];exact hs t (by omega)
  ·intro t t1 t2;rw[A3]at t2;by_cases htt:t=j+(k+2)
   ·subst htt;rw[jW (by omega)]
   rw[eW (by omega),hs t (by omega)];exact hz t (by omega) (by omega)
  ·rw[vo2,eu];omega
  rw[vo2];omega
 have he1:ee=1:=by omega
 obtain⟨t1,t2,t3⟩:=kt.2 he1;have sb:gV q 1=q-1:=G9 t1 (by unfold B at hq;omega);have jQ:Sl (H.set iu (.cells (dg (o.set (j+(k+2)) t')) 199 true)) n2 v (dg Y):=hv.ad ⟨aM _,fun i hi=>by rw[T.ag,ak (by omega)];exact hO i (by omega)⟩;simp[Hn,hr,a5,Po];refine b_ [(17,18),(157,176)] _ (U7 _ n1 n2 iu j (o.set (j+(k+2)) t') Y) Y.length ?_ (Yvz jQ dY h2 hN (by simp;omega) (by simp;omega) (cp:=cp) (by simp[Hn,hr,a0,hY]) (by simp[Hn,hr,a1]) (by simp[hY])) ?_
 ·exact⟨rfl,fY,fun _ _=>rfl,0,0,o.set (j+(k+2)) t',by omega,by simp,by simp,by simp,rfl,ew,fun _ _=>rfl,by omega,by simp[val]⟩
 rintro e r2 ⟨H3,n3,W3⟩ dJ ⟨rfl,Zg,zu,Ho,i3,c3,o3,hi3,Cf,U9,Hp,wm,hd3,Vc,NY,he3⟩;simp only at Zg zu Ho Hp;subst Zg;have:i3=k+2:=by omega
 subst this;have go3:o3[j+(k+2)]?=some t':=by rw[Vc _ (by omega),jW (by omega)]
 have eo3:=Zxl (j:=j) (n:=k+2) (wm.trans (A3 ..)) (by omega);rw[A3]at wm;rw[Ybk (wm.trans (A3 ..).symm) (p:=j+(k+2)) (fun t ht=>Vc t (by omega))]at eo3;have e4:val B ((o.set (j+(k+2)) t').drop (j+(k+2)))=t':=Yfb (jW (by omega)) (fun t h1 h2=>by rw[A3]at h2;rw[eW (by omega),hs t (by omega)];exact hz t (by omega) (by omega));rw[e4]at eo3;have zaA:=Yfy (j:=j) (n:=k+2) hd3 wm (by omega);have zaB:(o3.drop j)[k+2]?=some t':=by rw[fJ];exact go3
 have vs3:=Qc (b:=B) (v:=0) zaB;rw[fU (by omega),vo2,eo3]at he3;generalize val B ((o3.drop j).take (k+2))=A at*;obtain⟨z1,z2,z3⟩:=Ytx hPP hVP zaA NY s2 t1 t2 t3 (by rw[<-eu];exact gT) (by omega:A+B^(k+2)*c3=S+val B Y);have z4:cQ t' c3=0:=z3;simp(disch:=first|(simp;done)|omega|(simp only[bz,cm,bl];omega)|rfl) [-getElem?_pos,dJ,Hn,hr,a0,a5,U9,h6,Hp,fZ go3,rF,Yux (l:=o3) (k:=j+(k+2)) (by omega),z4,sb,show ((k:Int)+2).toNat=k+2 by omega];have vu:ay n2 (iu::W3)=[]:=by simp[ay,zu,xS]
 refine J8.mk rfl vu (fun t ht=>by rw[T.ag,ak ht,Ho t ht,T.ag,ak ht];exact hO t ht) ⟨q-1,o3.set (j+(k+2)) 0,rfl,by omega,by simp,by simp[wm,ho],hd3.v_ (by decide),?_,?_,?_,?_⟩
 ·intro t ht;rw[eW (by omega),Vc t (by omega),eW (by omega)];exact hs t (by omega)
 ·intro t t1 t2;rw[A3]at t2;by_cases htt:t=j+(k+2)
  ·subst htt;rw[jW (by omega)]
  rw[eW (by omega),Vc t (by omega),eW (by omega),hs t (by omega)];exact hz t (by omega) (by omega)
 ·rw[List.drop_set,ak (by omega),show j+(k+2)-j=k+2 by omega,eu];omega
 rw[List.drop_set,ak (by omega),show j+(k+2)-j=k+2 by omega];omega
def Yfm{w:List Nat}(hv:Sl h n2 v (dg Y))(hY:Y.length=k+2)(dY:Dg Y)(h2:n2<=iu)(hN:iu<N)(hl:U.length<1099511627776)(rL:j+k+2<U.length)(hU:h.get iu=some (.cells (dg U) 199 true))(dU:Dg U)
  (f1:Y[k+1]?=some v1) (nT:0<v1) (hz:∀t,j+k+3<=t->t<U.length->U[t]?=some 0) (aE:val B (U.drop j)<B*val B Y):
  Call A.C (.func 243 [] []) [.slice iu j (k+3) cp 1,v] ⟨h,N,w⟩ (J8 h N n2 iu j k U Y w):=by
 have lv:=hv.len;rw[bz,hY]at lv;have f2:=ct (l:=Y) (i:=k) (by omega);have g2:=ct (l:=U) (i:=j+k) (by omega);have gc:=ct (l:=U) (i:=j+k+1) (by omega);have gd:=ct (l:=U) (i:=j+k+2) (by omega);generalize Y[k]'(by omega)=v2 at*;generalize U[j+k]'(by omega)=u2 at*;generalize U[j+k+1]'(by omega)=c at*;generalize U[j+k+2]'(by omega)=d at*;have gd':U[j+(k+2)]?=some d:=by rw[<-qP];exact gd
 have gc':U[j+(k+1)]?=some c:=by rw[<-qP];exact gc
 have zaC:v2<B:=dY.get f2;have Fq:v1<B:=dY.get f1;have zaD:u2<B:=dU.get g2;have hcB:c<B:=dU.get gc;have hP:0<B^k:=BD (by decide);have eU:=Ykx (b:=B) (w:=U.drop j) (k:=k) (a:=u2) (c:=c) (d:=d) (by rw[fJ];exact g2) (by rw[fJ];exact gc) (by rw[fJ];exact gd) (fun t h1 h2=>by rw[fJ];rw[yO]at h2;exact hz _ (by omega) (by omega));have eV:=Yky (b:=B) f2 f1 hY;have EM:=Yfy (j:=j) (n:=k) dU rfl (by omega);have EN:=Zo3 (b:=B) (k:=k) dY (by omega);rw[eU,eV]at aE;generalize val B ((U.drop j).take k)=U' at*;generalize val B (Y.take k)=V' at*;obtain⟨i1,o1,c1,e1,w1,q1,q2,q3,q4⟩:=hv.at (fZ f1);have AT:i1<N:=by omega
 have aZ:¬i1=iu:=by omega
 have np:¬iu=i1:=by omega
 have t1:((k:Int)+2-1)=(k:Int)+1:=by omega
 have t2:((k:Int)+2).toNat=k+2:=by omega
 rw[aQ,A.k243 (by simp)];have fin:∀(r:T V) (q rr ov:Nat) (K:List Kf) (Q:Rs->Prop),r.get 0=some (.slice iu j (k+3) cp 1)->r.get 1=some v->r.get 5=some (.int .i64 ((k:Int)+2))->r.get 6=some (.int .u64 q)->r.get 7=some (.int .u64 rr)->r.get 8=some (.int .u64 ov)->ov<=1->rr<B->q<B->d*B+c=q*v1+(rr+B*ov)->U'+B^k*(u2+B*(d*B+c))<(q+1)*(V'+B^k*(v2+B*v1))->(∀r x st,r.get 4=some x->J8 h N n2 iu j k U Y [] x st->bE A.C K (some (.ex .ret ⟨r,186,[]⟩ st)) Q)->bE A.C K (fl (A.C.code none A.oR ⟨r,186,[]⟩ ⟨h,N,[]⟩)) Q:=by intro r q rr ov K Q a0 a1 a5 a6 a7 a8 b1 b2 b3 b4 b5 hq;refine mO (Yfk hv hY dY h2 hN hl rL hU dU f2 f1 g2 gd hz nT EM EN eU eV a0 a1 a5 a6 a7 a8 b1 b2 b3 b4 b5) ?_;rintro e fr st ⟨rfl,r',x,rfl,hx,hs⟩;exact hq r' x st hx hs
 have out:∀(r:T V) (x:V) (st:St),r.get 4=some x->J8 h N n2 iu j k U Y [] x st->bE A.C [.fin [.tmp 4] ⟨h,N,w⟩] (some (.ex .ret ⟨r,186,[]⟩ st)) (EU (J8 h N n2 iu j k U Y w)):=by rintro r x ⟨H,n1,W⟩ h4 ⟨s1,s2,s3,s4⟩;simp[h4];exact⟨s1,by show ay n2 (ay N W++w)=_;rw[P7 (P8 (by simpa[ay]using s2))],s3,s4⟩
 by_cases q_:v1<=d
 ·have Ch:=Yx4 hP EN zaC q_ aE;subst Ch;obtain⟨s1,s2,s3⟩:=Yb5 hcB Fq;simp(disch:=first|(simp;done)|omega|(simp only[bz,cm,bl];omega)|rfl) [-getElem?_pos,A.b243,lv,hN,AT,aZ,np,hU,fZ gd',fZ gc',q1,q3,q4,t1,t2,dv.dw];refine fin _ 18446744073709551615 (bC (c+d)) (cE (c+d)) _ _ (by simp) (by simp) (by simp) (by simp) (by simp) (by simp) s3 s2 (by decide) ?_ ?_ (fun r x st h4 hs=>out r x st h4 hs)
  ·rw[s1];unfold B;omega
  unfold B at aE ⊢;exact aE
 have B7:¬(v1:Int)<=(d:Int):=by omega
 simp(disch:=first|(simp;done)|omega|(simp only[bz,cm,bl];omega)|rfl) [-getElem?_pos,A.b243,lv,hN,AT,aZ,np,hU,fZ gd',fZ gc',q1,q3,q4,t1,t2,B7,dv.dw];refine ar (Ybl (show d<v1 by omega) Fq hcB) ?_;rintro _ h' N' hk ⟨rfl,rfl,rfl⟩;obtain⟨q,hq⟩:∃q,(d*18446744073709551616+c)/v1=q:=⟨_,rfl⟩;obtain⟨rr,Fm⟩:∃q,(d*18446744073709551616+c)%v1=q:=⟨_,rfl⟩;have hinv:d*B+c=q*v1+rr:=by have:=wI (d*18446744073709551616+c) v1;rw[hq,Fm,kg]at this;exact this.symm
 have vo:rr<v1:=by rw[<-Fm];exact m8 _ nT
 have JX:q<B:=by rw[<-hq];apply (su nT).2;have:=jz B (show d+1<=v1 by omega);rw[kg B v1];rw[js]at this;unfold B at*;omega
 rw[hq,Fm];simp[dv.dw];refine fin _ q rr 0 _ _ (by simp) (by simp) (by simp) (by simp) (by simp) (by simp) (by omega) (by omega) JX (by rw[hinv];omega) (Yx5 EM zaD hinv vo) (fun r x st h4 hs=>out r x st h4 hs)
end
end Go.Mx
