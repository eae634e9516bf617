/-num-/
import Derived.Test.YtfeehbdhikiikaaGreatDoorNaL
set_option linter.all false
set_option maxHeartbeats 8000000
namespace Go.Mx
variable{Q X w:List Nat}{Nq U' V' a d iq lu r s u1 u2 v2:Nat}{cq cu:Option Nat}{h2:T O}
noncomputable section
open Go Go.Proofs
variable {N i iu j k n n2 v1:Nat} {U Y l o:List Nat} {cp:Option Nat} {h:T O} {r0:T V} {v:V}
set_option maxRecDepth 1000000
def A.Cd:=A.q Tryz.f243
def A.mi:=A.ql A.Cd 2 []
def A.mj:=A.ql A.Cd 1 []
def A.mm:=A.ql A.Cd 0 []
def A.oK:=(fun x0 x1 x2=>A.qt A.Cd [x0,x1,x2] [] [1,1,1,1,1]) A.mm A.mj A.mi
def A.b243:=(fun x0 x1 x2 y0=>A.qt A.Cd [x0,x1,x2] [([1,1,1,1,1],y0)] []) A.mm A.mj A.mi A.oK
def A.k243:=@A.kk 243 186 [.tmp 4] A.b243 (by kernel_rfl) rfl
def Ygj:xh i l≠[]:=by
 unfold xh;split
 ·rintro rfl;simp_all
 simp
def Zka(h:az n (i::w)=[]):¬i<n/\az n w=[]:=by
 simp only[az]at h;split at h
 ·exact absurd h Ygj
 rename_i hi;exact⟨hi,h⟩
def Pz{n:Nat}:∀{w u:List Nat},az n w=[]->az n (w++u)=az n u
 |[],u,_=>rfl
 |i::w,u,h=>by
  obtain⟨hi,hw⟩:=Zka h
  simp only[Ew,az,hi,if_false]
  exact Pz hw
def ML{n N:Nat}(hn:n<=N):∀{w:List Nat},az N w=[]->az n w=[]
 |[],_=>rfl
 |i::w,h=>by
  obtain⟨hi,hw⟩:=Zka h
  simp only[az,show ¬i<n by omega,if_false]
  exact ML hn hw
def Zxj(hi:¬i<n)(h:az n l=[]):az n (xh i l)=[]:=by
 unfold xh;split
 ·exact h
 simp only[az,hi,if_false];exact h
def PA{n N:Nat}:∀{w:List Nat},az n w=[]->az n (az N w)=[]
 |[],_=>rfl
 |i::w,h=>by
  obtain⟨hi,hw⟩:=Zka h
  have:=PA (N:=N) hw
  simp only[az]
  split
  ·exact Zxj hi this
  ·exact this
def Ybt{v:Nat}(hr:r<B)(hv:v<B):bC (r+v)+B*cC (r+v)=r+v/\bC (r+v)<B/\cC (r+v)<=1:=by have:=Yjl (c:=0) hv hr (by omega);simpa using this
def GuI(h:T O)(N u1 v1 W Z m:Nat)(r:T V)(st:St):Prop:=st=⟨h,N,[]⟩/\∃rr ov:Nat,r.get 6=some (.int .u64 m)/\r.get 7=some (.int .u64 rr)/\r.get 8=some (.int .u64 ov)/\ov<=1/\rr<B/\m<B/\u1=m*v1+(rr+B*ov)/\W<(m+1)*Z
structure Un (h:T O) (N n2 iu j q:Nat) (U Y:List Nat) (m:Nat) (r:T V) (st:St):Prop where
 n:st.n=N
 w:az n2 st.w=[]
 old:∀t,t≠iu->st.h.get t=h.get t
 ex:∃(i bw c:Nat) (o:List Nat),i+m=Y.length/\r.get 105=some (.int .i64 i)/\r.get 11=some (.int .u64 bw)/\r.get 12=some (.int .u64 c)/\st.h.get iu=some (.cells (dg o) 205 true)/\o.length=U.length/\Dg o/\(∀t,(t<j\/j+i<=t)->o[t]?=U[t]?)/\bw<=1/\c<B/\val B (o.drop j)+q*val B (Y.take i)=val B (U.drop j)+B^i*(c+bw)
structure Uo (h:T O) (N n2 iu j:Nat) (U Y:List Nat) (m:Nat) (r:T V) (st:St):Prop where
 n:st.n=N
 w:az n2 st.w=[]
 old:∀t,t≠iu->st.h.get t=h.get t
 ex:∃(i c:Nat) (o:List Nat),i+m=Y.length/\r.get 157=some (.int .i64 i)/\r.get 17=some (.int .u64 c)/\st.h.get iu=some (.cells (dg o) 205 true)/\o.length=U.length/\Dg o/\(∀t,(t<j\/j+i<=t)->o[t]?=U[t]?)/\c<=1/\val B (o.drop j)+B^i*c=val B (U.drop j)+val B (Y.take i)
structure JV (h:T O) (N n2 iu j k:Nat) (U Y:List Nat) (w:List Nat) (x:V) (st:St):Prop where
 n:st.n=N
 w:az n2 st.w=az n2 w
 old:∀t,t≠iu->st.h.get t=h.get t
 ex:∃(q:Nat) (o:List Nat),x=.int .u64 q/\q<B/\st.h.get iu=some (.cells (dg o) 205 true)/\o.length=U.length/\Dg o/\(∀t,t<j->o[t]?=U[t]?)/\(∀t,j+k+2<=t->t<o.length->o[t]?=some 0)/\val B (o.drop j)+q*val B Y=val B (U.drop j)/\val B (o.drop j)<val B Y
def Yr1{q:Nat}(hv:Sl h n2 v (dg Y))(dY:Dg Y)(h2:n2<=iu)(hj:j+Y.length<U.length)(hl:U.length<1099511627776)(hq:q<B)
  (a0:r0.get 0=some (.slice iu j (Y.length+1) cp 1)) (a1:r0.get 1=some v) (a6:r0.get 6=some (.int .u64 q)) (PB:r0.get 104=some (.int .i64 Y.length)):
  ∀k r st,(∀t,kV [(11,16),(105,139)] t=false->r.get t=r0.get t)->Fx [(11,16),(105,139)] r0 186 ⟨r,186,[]⟩->Un h N n2 iu j q U Y k r st->Code A.C none A.mj ⟨r,186,[]⟩ st (Rd [(11,16),(105,139)] r0 186 (Un h N n2 iu j q U Y) k (fun e r st=>e=.exit 2/\Un h N n2 iu j q U Y 0 r st)):=by
 rintro m r ⟨H,n1,W⟩ hr hf ⟨hn,hW,hO,i,bw,c,o,hi,Ce,fl,rT,aA,ho,hd,hs,hb,hc,he⟩;simp only at hn hW hO aA;subst hn;have lv:=hv.len;rw[bu]at lv;rw[bG];cases m with
 |zero=>
  have:i=Y.length:=by omega
  subst this;simp[A.mj,hr,hf,PB,Ce];exact⟨rfl,hW,hO,Y.length,bw,c,o,by omega,by simp[Ce],by simp[fl],by simp[rT],aA,ho,hd,hs,hb,hc,he⟩
 |succ m=>
  have aD:i<Y.length:=by omega
  have gy:=cj aD;generalize Y[i]=y at*;have hy:y<B:=dY.get gy;obtain⟨i2,o2,c2,e2,w2,p1,p2,p3,p4⟩:=hv.at (gw gy);have aX:i2≠iu:=by omega
  have p3:=(hO i2 aX).trans p3;have go:o[j+i]?=some (o[j+i]'(by omega)):=cj (by omega);generalize o[j+i]'(by omega)=u at*;have hu:u<B:=hd.get go;obtain⟨s1,s2,s3,s4,s5⟩:=Yr0 hq hy hc hu hb;have Cg:i<Y.length+1:=by omega
  simp[A.mj,hr,PB,Ce,aD,a6,a1,lv,p1,p3,p4];refine au (PC hq hy) ?_;rintro _ H n1 EW ⟨rfl,rfl,rfl⟩;have q1:bC (bC (q*y)+c)=xO q y c:=rfl;have q2:cU (cC (q*y)) (cC (bC (q*y)+c))=qe q y c:=rfl;have hbi:(bw:Int)=0\/(bw:Int)=1:=by omega
  simp(disch:=first|(simp;done)|omega|(simp only[bu,cr,bl];omega)|rfl) [-getElem?_pos,hr,hf,Ce,Cg,a0,fl,rT,aA,gw go,rH,q1,q2,hbi];have xP:¬iu<n2:=by omega
  refine⟨m,by omega,rfl,by simp[az,hW,xP],fun t ht=>by rw[T.ag,ak ht];exact hO t ht,i+1,gK u (xO q y c) bw,qe q y c,o.set (j+i) (fh u (xO q y c) bw),by omega,by simp,by simp,by simp,by simp,by simp[ho],hd.vt s2,?_,s4,s3,?_⟩
  ·intro t ht;rw[fk (by omega)];exact hs t (by omega)
  have go2:(o.drop j)[i]?=some u:=by rw[fU];exact go
  have v1:=Px (b:=B) (v:=fh u (xO q y c) bw) go2;rw[List.drop_set,ak (by omega),show j+i-j=i by omega,Hi gy];have e1:B^i*(fh u (xO q y c) bw+q*y+c+bw)=B^i*(u+B*(qe q y c+gK u (xO q y c) bw)):=by rw[s1]
  rw[iD];generalize val B ((o.drop j).set i (fh u (xO q y c) bw))=z1 at*;generalize val B (o.drop j)=z2 at*;generalize val B (U.drop j)=z3 at*;generalize val B (List.take i Y)=z4 at*;generalize fh u (xO q y c) bw=z5 at*;generalize qe q y c=z6 at*;generalize gK u (xO q y c) bw=z7 at*;generalize B^i=z8 at*;clear s1 gy hy go go2 hu hs hd;grind
def Yuu(hv:Sl h n2 v (dg Y))(dY:Dg Y)(h2:n2<=iu)(hN:iu<N)(hj:j+Y.length<U.length)(hl:U.length<1099511627776)
  (a0:r0.get 0=some (.slice iu j (Y.length+1) cp 1)) (a1:r0.get 1=some v) (PD:r0.get 156=some (.int .i64 Y.length)):
  ∀k r st,(∀t,kV [(17,18),(157,176)] t=false->r.get t=r0.get t)->Fx [(17,18),(157,176)] r0 186 ⟨r,186,[]⟩->Uo h N n2 iu j U Y k r st->Code A.C none A.mi ⟨r,186,[]⟩ st (Rd [(17,18),(157,176)] r0 186 (Uo h N n2 iu j U Y) k (fun e r st=>e=.exit 4/\Uo h N n2 iu j U Y 0 r st)):=by
 rintro m r ⟨H,n1,W⟩ hr hf ⟨hn,hW,hO,i,c,o,hi,Ch,Up,aA,ho,hd,hs,hc,he⟩;simp only at hn hW hO aA;subst hn;have lv:=hv.len;rw[bu]at lv;rw[bG];cases m with
 |zero=>
  have:i=Y.length:=by omega
  subst this;simp[A.mi,hr,hf,PD,Ch];exact⟨rfl,hW,hO,Y.length,c,o,by omega,by simp[Ch],by simp[Up],aA,ho,hd,hs,hc,he⟩
 |succ m=>
  have aD:i<Y.length:=by omega
  have gy:=cj aD;generalize Y[i]=y at*;have hy:y<B:=dY.get gy;obtain⟨i2,o2,c2,e2,w2,p1,p2,p3,p4⟩:=hv.at (gw gy);have aX:i2≠iu:=by omega
  have p3:=(hO i2 aX).trans p3;have go:o[j+i]?=some (o[j+i]'(by omega)):=cj (by omega);generalize o[j+i]'(by omega)=u at*;have hu:u<B:=hd.get go;obtain⟨s1,s2,s3⟩:=Yjl hy hu hc;have Cg:i<Y.length+1:=by omega
  have JL:(c:Int)=0\/(c:Int)=1:=by omega
  have xP:¬iu<n2:=by omega
  have hiN:i2<n1:=by omega
  have np:¬iu=i2:=fun hc=>aX hc.symm;simp(disch:=first|(simp;done)|omega|(simp only[bu,cr,bl];omega)|rfl) [-getElem?_pos,A.mi,hr,hf,PD,Ch,aD,Cg,hN,hiN,aX,np,c9.c_,a0,a1,lv,p1,p3,p4,aA,gw go,rH,Up,JL];rw[wP (by simp[hN,np])];simp(disch:=first|(simp;done)|omega|(simp only[bu,cr,bl];omega)|rfl) [hr,hf,Ch];refine⟨m,by omega,rfl,by simp[az,hW,xP],fun t ht=>by rw[T.ag,ak ht];exact hO t ht,i+1,cC (u+y+c),o.set (j+i) (bC (u+y+c)),by omega,by simp,by simp,by simp,by simp[ho],hd.vt s2,?_,s3,?_⟩
  ·intro t ht;rw[fk (by omega)];exact hs t (by omega)
  have go2:(o.drop j)[i]?=some u:=by rw[fU];exact go
  have v1:=Px (b:=B) (v:=bC (u+y+c)) go2;rw[List.drop_set,ak (by omega),show j+i-j=i by omega,Hi gy];have e1:B^i*(bC (u+y+c)+B*cC (u+y+c))=B^i*(u+y+c):=by rw[s1]
  rw[iD];generalize val B ((o.drop j).set i (bC (u+y+c)))=z1 at*;generalize val B (o.drop j)=z2 at*;generalize val B (U.drop j)=z3 at*;generalize val B (List.take i Y)=z4 at*;generalize bC (u+y+c)=z5 at*;generalize cC (u+y+c)=z6 at*;generalize B^i=z8 at*;clear s1 gy hy go go2 hu hs hd;grind
def Ys3{P:Nat}{e0:TypeId}{EX:Bool}(hv:Sl h n2 v (dg Y))(hY:Y.length=k+2)(dY:Dg Y)(hl:U.length<1099511627776)(qW:j+k+2<U.length)(hU:h.get iu=some (.cells (dg U) e0 EX))(dU:Dg U)
  (f2:Y[k]?=some v2) (f1:Y[k+1]?=some v1) (g2:U[j+k]?=some u2) (pW:0<v1) (hP:0<P) (EO:U'<P) (EP:V'<P)
  (a0:r0.get 0=some (.slice iu j (k+3) cp 1)) (a1:r0.get 1=some v) (a5:r0.get 5=some (.int .i64 ((k:Int)+2))):
  ∀m r st,(∀t,kV [(6,10),(63,103)] t=false->r.get t=r0.get t)->Fx [(6,10),(63,103)] r0 186 ⟨r,186,[]⟩->GuI h N u1 v1 (U'+P*(u2+B*u1)) (V'+P*(v2+B*v1)) m r st->Code A.C none A.mm ⟨r,186,[]⟩ st (Rd [(6,10),(63,103)] r0 186 (GuI h N u1 v1 (U'+P*(u2+B*u1)) (V'+P*(v2+B*v1))) m (fun e r st=>e=.exit 0/\st=⟨h,N,[]⟩/\∃q:Nat,r.get 6=some (.int .u64 q)/\q<B/\(q-1)*(V'+P*(v2+B*v1))<=U'+P*(u2+B*u1)/\U'+P*(u2+B*u1)<(q+1)*(V'+P*(v2+B*v1)))):=by
 rintro m r _ hr hf ⟨rfl,rr,ov,h6,h7,h8,hov,EY,hm,hinv,iY⟩;have lv:=hv.len;rw[bu]at lv;rw[bG];have l8:v2<B:=dY.get f2;have EZ:v1<B:=dY.get f1;have gp:u2<B:=dU.get g2;have fin:m*v2<=(rr+B*ov)*B+u2->(m-1)*(V'+P*(v2+B*v1))<=U'+P*(u2+B*u1):=by
  intro hc;cases m with
  |zero=>simp
  |succ s=>exact Ysu pW EP (by omega) hinv hc
 by_cases h0:ov=0
 ·subst h0;simp only[Nat.mul_zero,iX]at hinv fin;obtain⟨i2,o2,c2,e2,w2,p1,p2,p3,p4⟩:=hv.at (gw f2);have dj:((k:Int)+2-2)=(k:Int):=by omega
  have yO:(k:Int)<((k+2:Nat):Int):=by omega
  have PE:(k:Int)<((k+3:Nat):Int):=by omega
  rw[hY]at lv;simp(disch:=first|(simp;done)|omega|(simp only[bu,cr,bl];omega)|rfl) [A.mm,hr,hf,h6,h7,h8,a0,a1,a5,lv,p1,p3,p4,bz,dj,yO];refine au (PC hm l8) ?_;rintro _ h N EW ⟨rfl,rfl,rfl⟩;have hp:bC (m*v2)+B*cC (m*v2)=m*v2:=by have:=wy (m*v2) B;unfold bC cC;unfold B at*;omega
  have jA:bC (m*v2)<B:=Yhb;obtain⟨i1,o1,c1,e1,w1,q1,q2,q3,q4⟩:=hv.at (gw f1);obtain⟨hi,Ci⟩:∃x,cC (m*v2)=x:=⟨_,rfl⟩;obtain⟨lo,vu⟩:∃x,bC (m*v2)=x:=⟨_,rfl⟩;rw[Ci,vu]at hp;rw[vu]at jA;by_cases c1:hi<rr
  ·have:=fin (by have:=mZ B c1;rw[ki rr B];rw[Nat.succ_eq_add_one,vc]at this;omega);simp[hf,h6,h7,Ci,vu,c1];exact⟨hm,this,iY⟩
  have dec:rr*B+u2<m*v2->0<m/\u1=(m-1)*v1+(rr+v1)/\U'+P*(u2+B*u1)<(m-1+1)*(V'+P*(v2+B*v1)):=by
   intro hc;have h3:=Yst EO hinv hc (b:=B) (P:=P) (V':=V');cases m with
   |zero=>omega
   |succ s=> refine⟨by omega,?_,by simpa using h3⟩;rw[hinv,iR];simp;omega
  obtain⟨s1,s2,s3⟩:=Ybt EY EZ;have jV:((k:Int)+2-1)=(k:Int)+1:=by omega
  have PF:(k:Int)+1<((k+2:Nat):Int):=by omega
  have sbm:0<m->ig m 1=m-1:=fun hc=>Hj hc (by unfold B at hm;omega);by_cases c2:hi=rr
  ·by_cases c3:lo<=u2
   ·have:=fin (by rw[<-hp,c2,ki rr B];omega);simp(disch:=first|(simp;done)|omega|(simp only[bu,cr,bl];omega)|rfl) [-getElem?_pos,hr,hf,h6,h7,h8,Ci,vu,c1,c2,c3,bz,a0,a5,dj,PE,hU,gw g2];exact⟨hm,this,iY⟩
   obtain⟨d1,d2,d3⟩:=dec (by rw[<-hp,c2,ki rr B];omega);have sb:=sbm d1;simp(disch:=first|(simp;done)|omega|(simp only[bu,cr,bl];omega)|rfl) [-getElem?_pos,hr,hf,h6,h7,h8,Ci,vu,c1,c2,c3,bz,a0,a1,a5,dj,jV,PE,hU,gw g2,lv,q1,q3,q4,PF,sb];exact⟨m-1,by omega,rfl,bC (rr+v1),cC (rr+v1),by simp,by simp,by simp,s3,s2,by omega,by rw[s1];exact d2,d3⟩
  obtain⟨d1,d2,d3⟩:=dec (by
   have:rr+1<=hi:=by omega
   have:=mZ B this
   rw[vc]at this
   rw[<-hp,ki rr B];omega);have sb:=sbm d1;simp(disch:=first|(simp;done)|omega|(simp only[bu,cr,bl];omega)|rfl) [hr,hf,h6,h7,h8,Ci,vu,c1,c2,bz,a0,a1,a5,dj,jV,lv,q1,q3,q4,PF,sb];exact⟨m-1,by omega,rfl,bC (rr+v1),cC (rr+v1),by simp,by simp,by simp,s3,s2,by omega,by rw[s1];exact d2,d3⟩
 have:ov=1:=by omega
 subst this;have:=fin (by have h1:m*v2<=B*B:=oc (by omega) (by omega);rw[AL,iR];omega);simp[A.mm,hf,h8];exact⟨m,by simp[h6],hm,this,iY⟩
def Zwz(hl:o.length=U.length)(hj:j+n<=U.length):val B (o.drop j)=val B ((o.drop j).take n)+B^n*val B (o.drop (j+n)):=by have:=Hg B (o.drop j) n (by rw[zX];omega);rw[List.drop_drop]at this;exact this
def Ya4{p:Nat}(hl:o.length=U.length)(hs:∀t,p<=t->o[t]?=U[t]?):o.drop p=U.drop p:=by apply pM;intro t;rw[fU,fU];exact hs _ (by omega)
def Yfn(hd:Dg o)(hl:o.length=U.length)(hj:j+n<=U.length):val B ((o.drop j).take n)<B^n:=by
 apply Zoj
 ·intro d h;exact hd d (OX h)
 rw[zX];omega
def Ye2{p:Nat}(hd:o[p]?=some d)(hz:∀t,p+1<=t->t<o.length->o[t]?=some 0):val B (o.drop p)=d:=by rw[DD hd,Zg9 hz];omega
def Yto(h:k<l.length):ae (dg l) k [.int .u64 0]=dg (l.set k 0):=rH (v:=0) h
def Ye8{q0 MM Uq:Nat}(hv:Sl h n2 v (dg Y))(hY:Y.length=k+2)(dY:Dg Y)(h2:n2<=iu)(hN:iu<N)(hl:U.length<1099511627776)(qW:j+k+2<U.length)(hU:h.get iu=some (.cells (dg U) 205 true))(dU:Dg U)
  (f2:Y[k]?=some v2) (f1:Y[k+1]?=some v1) (g2:U[j+k]?=some u2) (gd:U[j+k+2]?=some d) (hz:∀t,j+k+3<=t->t<U.length->U[t]?=some 0) (pW:0<v1) (EO:U'<B^k) (EP:V'<B^k) (eU:val B (U.drop j)=U'+B^k*(u2+B*u1)) (eV:val B Y=V'+B^k*(v2+B*v1))
  (a0:r0.get 0=some (.slice iu j (k+3) cp 1)) (a1:r0.get 1=some v) (a5:r0.get 5=some (.int .i64 ((k:Int)+2))) (a6:r0.get 6=some (.int .u64 q0)) (a7:r0.get 7=some (.int .u64 MM)) (a8:r0.get 8=some (.int .u64 Uq))
  (b1:Uq<=1) (b2:MM<B) (b3:q0<B) (b4:u1=q0*v1+(MM+B*Uq)) (b5:U'+B^k*(u2+B*u1)<(q0+1)*(V'+B^k*(v2+B*v1))):
  Code A.C none A.oK ⟨r0,186,[]⟩ ⟨h,N,[]⟩ (fun e fr st=>e=.ret/\∃r x,fr=⟨r,186,[]⟩/\r.get 4=some x/\JV h N n2 iu j k U Y [] x st):=by
 have hP:0<B^k:=BM (by decide);rw[bG];simp[A.oK];refine cB [(6,10),(63,103)] _ (GuI h N u1 v1 (U'+B^k*(u2+B*u1)) (V'+B^k*(v2+B*v1))) q0 ?_ (Ys3 hv hY dY hl qW hU dU f2 f1 g2 pW hP EO EP a0 a1 a5) ?_
 ·exact⟨rfl,MM,Uq,a6,a7,a8,b1,b2,b3,b4,b5⟩
 rintro e r _ hr ⟨rfl,rfl,q,h6,hq,h_,iY⟩;rw[<-eU,<-eV]at h_ iY;simp[hr,a5];refine cB [(11,16),(105,139)] _ (Un h N n2 iu j q U Y) Y.length ?_ (Yr1 hv dY h2 (by omega) hl hq (cp:=cp) (by simp[hr,a0,hY]) (by simp[hr,a1]) (by simp[h6]) (by simp[hY])) ?_
 ·exact⟨rfl,rfl,fun _ _=>rfl,0,0,0,U,by omega,by simp,by simp,by simp,hU,rfl,dU,fun _ _=>rfl,by omega,by decide,by simp[val]⟩
 rintro e r1 ⟨H,n1,W⟩ Hk ⟨rfl,hn,hW,hO,i,bw,cc,o,hi,Ce,fl,rT,aA,ho,hd,hs,hb,hc,he⟩;simp only at hn hW hO aA;subst hn;have:i=k+2:=by omega
 subst this;have god:o[j+(k+2)]?=some d:=by rw[hs _ (by omega)];exact gd
 have hdB:d<B:=dU.get gd;obtain⟨s1,s2,s3⟩:=Yqs hc hdB hb;have hbi:(bw:Int)=0\/(bw:Int)=1:=by omega
 have xP:¬iu<n2:=by omega
 obtain⟨t',PG⟩:∃x,fh d cc bw=x:=⟨_,rfl⟩;obtain⟨ee,Pe⟩:∃x,gK d cc bw=x:=⟨_,rfl⟩;rw[PG,Pe]at s1;rw[PG]at s2;rw[Pe]at s3;simp(disch:=first|(simp;done)|omega|(simp only[bu,cr,bl];omega)|rfl) [-getElem?_pos,Hk,hr,a0,a5,fl,rT,h6,aA,gw god,rH,hbi,PG,Pe,show ((k:Int)+2).toNat=k+2 by omega];have hVP:val B Y<B^(k+2):=by rw[<-hY];exact Hh dY
 have hPP:0<B^(k+2):=BM (by decide);have eo:=Zwz (j:=j) (n:=k+2) ho (by omega);have eu:=Zwz (o:=U) (j:=j) (n:=k+2) rfl (by omega);rw[Ya4 ho (p:=j+(k+2)) (fun t ht=>hs t (by omega))]at eo;have zap:val B (U.drop (j+(k+2)))=d:=Ye2 gd (fun t h1 h2=>hz t (by omega) h2);rw[zap]at eo eu;have hSP:=Yfn (j:=j) (n:=k+2) hd ho (by omega);have go2:(o.drop j)[k+2]?=some d:=by rw[fU];exact god
 have vs:=Px (b:=B) (v:=t') go2;rw[gm (by omega)]at he;generalize val B ((o.drop j).take (k+2))=S at*;generalize val B ((U.drop j).take (k+2))=W0 at*;have h1:S+q*val B Y=W0+B^(k+2)*(cc+bw):=by rw[eo,eu]at he;omega
 have kt:=Yww (by decide) hPP hVP hSP s2 s3 h1 (by omega:t'+(cc+bw)=d+B*ee) (by rw[<-eu];exact h_) (by rw[<-eu];exact iY);have PH:(o.set (j+(k+2)) t').drop j=(o.drop j).set (k+2) t':=by rw[List.drop_set,ak (by omega),show j+(k+2)-j=k+2 by omega]
 have vo2:val B ((o.set (j+(k+2)) t').drop j)=S+B^(k+2)*t':=by rw[PH];omega
 have eY:=hd.vt (k:=j+(k+2)) s2;have g_:az n2 (iu::W)=[]:=by simp[az,hW,xP]
 by_cases PI:ee=0
 ·obtain⟨t1,t2,t3⟩:=kt.1 PI;subst t3;simp(disch:=first|(simp;done)|omega|(simp only[bu,cr,bl];omega)|rfl) [-getElem?_pos,Hk,hr,h6,PI];refine JV.mk rfl g_ (fun t ht=>by rw[T.ag,ak ht];exact hO t ht) ⟨q,o.set (j+(k+2)) 0,rfl,hq,by simp,by simp[ho],eY,?_,?_,?_,?_⟩
  ·intro t ht;rw[fk (by omega)];exact hs t (by omega)
  ·intro t t1 t2;rw[yE]at t2;by_cases htt:t=j+(k+2)
   ·subst htt;rw[mQ (by omega)]
   rw[fk (by omega),hs t (by omega)];exact hz t (by omega) (by omega)
  ·rw[vo2,eu];omega
  rw[vo2];omega
 have he1:ee=1:=by omega
 obtain⟨t1,t2,t3⟩:=kt.2 he1;have sb:ig q 1=q-1:=Hj t1 (by unfold B at hq;omega);have l8:Sl (H.set iu (.cells (dg (o.set (j+(k+2)) t')) 205 true)) n2 v (dg Y):=hv.ad ⟨aN _,fun i hi=>by rw[T.ag,ak (by omega)];exact hO i (by omega)⟩;simp[Hk,hr,a5,PI];refine cB [(17,18),(157,176)] _ (Uo _ n1 n2 iu j (o.set (j+(k+2)) t') Y) Y.length ?_ (Yuu l8 dY h2 hN (by simp;omega) (by simp;omega) (cp:=cp) (by simp[Hk,hr,a0,hY]) (by simp[Hk,hr,a1]) (by simp[hY])) ?_
 ·exact⟨rfl,g_,fun _ _=>rfl,0,0,o.set (j+(k+2)) t',by omega,by simp,by simp,by simp,rfl,eY,fun _ _=>rfl,by omega,by simp[val]⟩
 rintro e r2 ⟨H3,n3,W3⟩ fL ⟨rfl,hn3,DE,Hl,i3,c3,o3,hi3,Ch,Up,Hm,uI,hd3,Ur,ZP,he3⟩;simp only at hn3 DE Hl Hm;subst hn3;have:i3=k+2:=by omega
 subst this;have go3:o3[j+(k+2)]?=some t':=by rw[Ur _ (by omega),mQ (by omega)]
 have eo3:=Zwz (j:=j) (n:=k+2) (uI.trans (yE ..)) (by omega);rw[yE]at uI;rw[Ya4 (uI.trans (yE ..).symm) (p:=j+(k+2)) (fun t ht=>Ur t (by omega))]at eo3;have e4:val B ((o.set (j+(k+2)) t').drop (j+(k+2)))=t':=Ye2 (mQ (by omega)) (fun t h1 h2=>by rw[yE]at h2;rw[fk (by omega),hs t (by omega)];exact hz t (by omega) (by omega));rw[e4]at eo3;have zaq:=Yfn (j:=j) (n:=k+2) hd3 uI (by omega);have zar:(o3.drop j)[k+2]?=some t':=by rw[fU];exact go3
 have vs3:=Px (b:=B) (v:=0) zar;rw[gm (by omega),vo2,eo3]at he3;generalize val B ((o3.drop j).take (k+2))=A at*;obtain⟨z1,z2,z3⟩:=Ysn hPP hVP zaq ZP s2 t1 t2 t3 (by rw[<-eu];exact h_) (by omega:A+B^(k+2)*c3=S+val B Y);have z4:cU t' c3=0:=z3;simp(disch:=first|(simp;done)|omega|(simp only[bu,cr,bl];omega)|rfl) [-getElem?_pos,fL,Hk,hr,a0,a5,Up,h6,Hm,gw go3,rH,Yto (l:=o3) (k:=j+(k+2)) (by omega),z4,sb,show ((k:Int)+2).toNat=k+2 by omega];have DF:az n2 (iu::W3)=[]:=by simp[az,DE,xP]
 refine JV.mk rfl DF (fun t ht=>by rw[T.ag,ak ht,Hl t ht,T.ag,ak ht];exact hO t ht) ⟨q-1,o3.set (j+(k+2)) 0,rfl,by omega,by simp,by simp[uI,ho],hd3.vt (by decide),?_,?_,?_,?_⟩
 ·intro t ht;rw[fk (by omega),Ur t (by omega),fk (by omega)];exact hs t (by omega)
 ·intro t t1 t2;rw[yE]at t2;by_cases htt:t=j+(k+2)
  ·subst htt;rw[mQ (by omega)]
  rw[fk (by omega),Ur t (by omega),fk (by omega),hs t (by omega)];exact hz t (by omega) (by omega)
 ·rw[List.drop_set,ak (by omega),show j+(k+2)-j=k+2 by omega,eu];omega
 rw[List.drop_set,ak (by omega),show j+(k+2)-j=k+2 by omega];omega
def Yfa(hv:Sl h n2 v (dg Y))(hY:Y.length=k+2)(dY:Dg Y)(h2:n2<=iu)(hN:iu<N)(hl:U.length<1099511627776)(qW:j+k+2<U.length)(hU:h.get iu=some (.cells (dg U) 205 true))(dU:Dg U)
  (f1:Y[k+1]?=some v1) (pW:0<v1) (hz:∀t,j+k+3<=t->t<U.length->U[t]?=some 0) (aD:val B (U.drop j)<B*val B Y):
  Call A.C (.func 243 [] []) [.slice iu j (k+3) cp 1,v] ⟨h,N,w⟩ (JV h N n2 iu j k U Y w):=by
 have lv:=hv.len;rw[bu,hY]at lv;have f2:=cj (l:=Y) (i:=k) (by omega);have g2:=cj (l:=U) (i:=j+k) (by omega);have gc:=cj (l:=U) (i:=j+k+1) (by omega);have gd:=cj (l:=U) (i:=j+k+2) (by omega);generalize Y[k]'(by omega)=v2 at*;generalize U[j+k]'(by omega)=u2 at*;generalize U[j+k+1]'(by omega)=c at*;generalize U[j+k+2]'(by omega)=d at*;have gd':U[j+(k+2)]?=some d:=by rw[<-pE];exact gd
 have gc':U[j+(k+1)]?=some c:=by rw[<-pE];exact gc
 have zas:v2<B:=dY.get f2;have EZ:v1<B:=dY.get f1;have zat:u2<B:=dU.get g2;have hcB:c<B:=dU.get gc;have hP:0<B^k:=BM (by decide);have eU:=Yjz (b:=B) (w:=U.drop j) (k:=k) (a:=u2) (c:=c) (d:=d) (by rw[fU];exact g2) (by rw[fU];exact gc) (by rw[fU];exact gd) (fun t h1 h2=>by rw[fU];rw[zX]at h2;exact hz _ (by omega) (by omega));have eV:=Yj0 (b:=B) f2 f1 hY;have EO:=Yfn (j:=j) (n:=k) dU rfl (by omega);have EP:=Zoj (b:=B) (k:=k) dY (by omega);rw[eU,eV]at aD;generalize val B ((U.drop j).take k)=U' at*;generalize val B (Y.take k)=V' at*;obtain⟨i1,o1,c1,e1,w1,q1,q2,q3,q4⟩:=hv.at (gw f1);have AX:i1<N:=by omega
 have aX:¬i1=iu:=by omega
 have np:¬iu=i1:=by omega
 have t1:((k:Int)+2-1)=(k:Int)+1:=by omega
 have t2:((k:Int)+2).toNat=k+2:=by omega
 rw[aP,A.k243 (by simp)];have fin:∀(r:T V) (q rr ov:Nat) (K:List Kf) (Q:Rs->Prop),r.get 0=some (.slice iu j (k+3) cp 1)->r.get 1=some v->r.get 5=some (.int .i64 ((k:Int)+2))->r.get 6=some (.int .u64 q)->r.get 7=some (.int .u64 rr)->r.get 8=some (.int .u64 ov)->ov<=1->rr<B->q<B->d*B+c=q*v1+(rr+B*ov)->U'+B^k*(u2+B*(d*B+c))<(q+1)*(V'+B^k*(v2+B*v1))->(∀r x st,r.get 4=some x->JV h N n2 iu j k U Y [] x st->bD A.C K (some (.ex .ret ⟨r,186,[]⟩ st)) Q)->bD A.C K (fy (A.C.code none A.oK ⟨r,186,[]⟩ ⟨h,N,[]⟩)) Q:=by intro r q rr ov K Q a0 a1 a5 a6 a7 a8 b1 b2 b3 b4 b5 hq;refine qV (Ye8 hv hY dY h2 hN hl qW hU dU f2 f1 g2 gd hz pW EO EP eU eV a0 a1 a5 a6 a7 a8 b1 b2 b3 b4 b5) ?_;rintro e fr st ⟨rfl,r',x,rfl,hx,hs⟩;exact hq r' x st hx hs
 have out:∀(r:T V) (x:V) (st:St),r.get 4=some x->JV h N n2 iu j k U Y [] x st->bD A.C [.fin [.tmp 4] ⟨h,N,w⟩] (some (.ex .ret ⟨r,186,[]⟩ st)) (Fa (JV h N n2 iu j k U Y w)):=by rintro r x ⟨H,n1,W⟩ h4 ⟨s1,s2,s3,s4⟩;simp[h4];exact⟨s1,by show az n2 (az N W++w)=_;rw[Pz (PA (by simpa[az]using s2))],s3,s4⟩
 by_cases re:v1<=d
 ·have Bw:=Yw7 hP EP zas re aD;subst Bw;obtain⟨s1,s2,s3⟩:=Ybt hcB EZ;simp(disch:=first|(simp;done)|omega|(simp only[bu,cr,bl];omega)|rfl) [-getElem?_pos,A.b243,lv,hN,AX,aX,np,hU,gw gd',gw gc',q1,q3,q4,t1,t2,c9.c_];refine fin _ 18446744073709551615 (bC (c+d)) (cC (c+d)) _ _ (by simp) (by simp) (by simp) (by simp) (by simp) (by simp) s3 s2 (by decide) ?_ ?_ (fun r x st h4 hs=>out r x st h4 hs)
  ·rw[s1];unfold B;omega
  unfold B at aD ⊢;exact aD
 have Cj:¬(v1:Int)<=(d:Int):=by omega
 simp(disch:=first|(simp;done)|omega|(simp only[bu,cr,bl];omega)|rfl) [-getElem?_pos,A.b243,lv,hN,AX,aX,np,hU,gw gd',gw gc',q1,q3,q4,t1,t2,Cj,c9.c_];refine au (Ya6 (show d<v1 by omega) EZ hcB) ?_;rintro _ h' N' hk ⟨rfl,rfl,rfl⟩;obtain⟨q,hq⟩:∃q,(d*18446744073709551616+c)/v1=q:=⟨_,rfl⟩;obtain⟨rr,EY⟩:∃q,(d*18446744073709551616+c)%v1=q:=⟨_,rfl⟩;have hinv:d*B+c=q*v1+rr:=by have:=wy (d*18446744073709551616+c) v1;rw[hq,EY,ki]at this;exact this.symm
 have wL:rr<v1:=by rw[<-EY];exact m_ _ pW
 have IP:q<B:=by rw[<-hq];apply (rV pW).2;have:=kg B (show d+1<=v1 by omega);rw[ki B v1];rw[iR]at this;unfold B at*;omega
 rw[hq,EY];simp[c9.c_];refine fin _ q rr 0 _ _ (by simp) (by simp) (by simp) (by simp) (by simp) (by simp) (by omega) (by omega) IP (by rw[hinv];omega) (Yw8 EO zat hinv wL) (fun r x st h4 hs=>out r x st h4 hs)
variable {N b:Nat}
def A.Fu:=A.q Tryz.f216
def A.mB:=A.ql A.Fu 2 []
def A.oO:=A.ql A.Fu 1 []
def A.oP:=A.ql A.Fu 0 []
def A.b216:=(fun x0 x1 x2=>A.qb A.Fu [x0,x1,x2]) A.oP A.oO A.mB
def A.k216:=@A.kk 216 137 [.tmp 4,.tmp 5] A.b216 (by kernel_rfl) rfl
def Yqq{x y:Nat}(hx:x<B)(h0:0<s)(hs:s<64):ks (ax x s) (bU y (64-s))<B/\2^s*ks (ax x s) (bU y (64-s))+x%2^s=x+B*(y%2^s):=by
 have hc:ax x s<2^(64-s):=by unfold ax;apply (rV (sK s)).2;rw[<-mT,show 64-s+s=64 by omega];exact hx
 rw[U8 (by omega) hc];refine⟨Zq9 (by omega) hc,?_⟩;have e:bU y (64-s)=(y%2^s)*2^(64-s):=by
  unfold bU;have:(18446744073709551616:Nat)=2^s*2^(64-s):=by rw[<-mT,show s+(64-s)=64 by omega]
  rw[this,OV]
 have e2:2^s*(y%2^s*2^(64-s))=B*(y%2^s):=by
  have:B=2^s*2^(64-s):=by rw[<-mT,show s+(64-s)=64 by omega];rfl
  rw[this];generalize 2^s=p;generalize 2^(64-s)=q;grind
 rw[e,vc,e2];unfold ax;have:=wy x (2^s);omega
structure U9 (h:T O) (N iq:Nat) (X:List Nat) (b m:Nat) (r:T V) (st:St):Prop where
 n:st.n=N+1
 w:az N st.w=[]
 ad:ab h N st.h (N+1)
 ex:∃(rest:Nat) (Q:List Nat),m<=X.length/\r.get 8=some (.int .i64 ((m:Int)-1))/\r.get 7=some (.int .u64 rest)/\st.h.get N=some (.cells (dg Q) 205 true)/\Q.length=X.length/\Dg Q/\val B (X.drop m)=b*val B (Q.drop m)+rest/\rest<b
def Ymw{va vb:V}(ha:Sl h N va (dg X))(hb:Sl h N vb (dg [b]))(dA:Dg X)(Il:b<B)(hl:X.length<1099511627776)
  (a0:r0.get 0=some va) (a1:r0.get 1=some vb) (a6:r0.get 6=some (.slice N 0 X.length (some X.length) 1)):
  ∀k r st,(∀t,kV [(7,8),(30,48)] t=false->r.get t=r0.get t)->Fx [(7,8),(30,48)] r0 137 ⟨r,137,[]⟩->U9 h N N X b k r st->Code A.C none A.oP ⟨r,137,[]⟩ st (Rd [(7,8),(30,48)] r0 137 (U9 h N N X b) k (fun e r st=>e=.exit 0/\U9 h N N X b 0 r st)):=by
 rintro m r ⟨H,n1,W⟩ hr hf ⟨hn,hW,hK,rest,Q,hm,h8,h7,aA,hQ,dQ,he,aD⟩;simp only at hn hW hK aA;subst hn;have la:=ha.len;have lb:=hb.len;rw[bu]at la lb;rw[bG];cases m with
 |zero=> simp[A.oP,hf,h8];exact⟨rfl,hW,hK,rest,Q,by omega,by simp[h8],by simp[h7],aA,hQ,dQ,he,aD⟩
 |succ m=>
  have gx:=cj (l:=X) (i:=m) (by omega);generalize X[m]'(by omega)=x at*;have hx:x<B:=dA.get gx;obtain⟨i1,o1,c1,e1,w1,p1,p2,p3,p4⟩:=ha.at (gw gx);have p3:=(hK.get _ p2).trans p3;obtain⟨i2,o2,c2,e2,w2,q1,q2,q3,q4⟩:=hb.at (gw (l:=[b]) (j:=0) rfl);have q3:=(hK.get _ q2).trans q3;rw[iX]at q4;have gq:=cj (l:=Q) (i:=m) (by omega);have rA:((m+1:Nat):Int)-1=(m:Int):=by omega
  have jR:m<X.length:=by omega
  have AX:i1<N+1:=by omega
  have IY:i2<N+1:=by omega
  have zaC:¬i1=N:=by omega
  have np:¬i2=N:=by omega
  have zaD:¬N=i1:=by omega
  have zaE:¬N=i2:=by omega
  rw[rA]at h8;have hd:=Ya6 (h:=H) (N:=N+1) aD Il hx;obtain⟨q,hq⟩:∃q,(rest*18446744073709551616+x)/b=q:=⟨_,rfl⟩;obtain⟨rr,EY⟩:∃q,(rest*18446744073709551616+x)%b=q:=⟨_,rfl⟩;rw[hq,EY]at hd;have hinv:b*q+rr=rest*B+x:=by have:=wy (rest*18446744073709551616+x) b;rw[hq,EY]at this;exact this
  have wL:rr<b:=by rw[<-EY];exact m_ _ (by omega)
  have IP:q<B:=by rw[<-hq];apply (rV (by omega)).2;have:=kg B (show rest+1<=b by omega);rw[ki B b];rw[iR]at this;unfold B at*;omega
  simp[A.oP,hr,h8,h7,la,lb,a0,a1,a6,p1,p3,p4,q1,q3,q4,jR,AX,IY];refine au hd ?_;rintro _ H n2 EW ⟨rfl,rfl,rfl⟩;simp(disch:=first|(simp;done)|omega|(simp only[bu,cr,bl];omega)|rfl) [hr,hf,h8,h7,la,lb,a0,a1,a6,aA,rH,jR,AX,IY,zaC,np,zaD,zaE,c9.c_];refine⟨m,by omega,rfl,by simp[az,hW],hK.set (aN _),rr,Q.set m q,by omega,by simp,by simp,by simp,by simp[hQ],dQ.vt IP,?_,wL⟩;rw[DD gx,DD (mQ (by omega)),List.drop_set_of_lt (by omega),he,vc,vc];have:B*(b*val B (Q.drop (m+1)))=b*(B*val B (Q.drop (m+1))):=by grind
  rw[ki rest]at hinv;omega
structure Va (N n2:Nat) (h2:T O) (iu iq Nq lu k A0:Nat) (Y:List Nat) (m:Nat) (r:T V) (st:St):Prop where
 n:st.n=Nq
 w:az n2 st.w=[]
 ad:ab h2 n2 st.h Nq
 ex:∃(U Q:List Nat),r.get 14=some (.int .i64 ((m:Int)-1))/\st.h.get iu=some (.cells (dg U) 205 true)/\st.h.get iq=some (.cells (dg Q) 205 true)/\U.length=lu/\Q.length+(k+2)=lu/\m<=Q.length/\Dg U/\Dg Q/\(∀t,m+k+2<=t->t<lu->U[t]?=some 0)/\val B (U.drop m)<val B Y/\val B U+B^m*(val B (Q.drop m)*val B Y)=A0
def Ymv{A0:Nat}(hv:Sl h2 n2 v (dg Y))(hY:Y.length=k+2)(dY:Dg Y)(LI:lu<1099511627776)(f1:Y[k+1]?=some v1)(pW:0<v1)(Qy:n2<=iu)(HK:iu<iq)(hq:iq<Nq)
  (yO:k+2<lu) (Kc:r0.get 10=some v) (DM:r0.get 11=some (.slice iu 0 lu (some lu) 1)) (DN:r0.get 12=some (.int .i64 ((k:Int)+2))) (a13:r0.get 13=some (.slice iq 0 (lu-(k+2)) cq 1)):
  ∀x r st,(∀t,kV [(14,14),(80,95)] t=false->r.get t=r0.get t)->Fx [(14,14),(80,95)] r0 137 ⟨r,137,[]⟩->Va N n2 h2 iu iq Nq lu k A0 Y x r st->Code A.C none A.oO ⟨r,137,[]⟩ st (Rd [(14,14),(80,95)] r0 137 (Va N n2 h2 iu iq Nq lu k A0 Y) x (fun e r st=>e=.exit 2/\Va N n2 h2 iu iq Nq lu k A0 Y 0 r st)):=by
 rintro m r ⟨H,n1,W⟩ hr hf ⟨hn,hW,hK,U,Q,ri,hU,hQ,lU,lQ,hm,dU,dQ,hz,aD,he⟩;simp only at hn hW hK hU hQ;subst hn;rw[bG];cases m with
 |zero=> simp[A.oO,hf,ri];exact⟨rfl,hW,hK,U,Q,by simp[ri],hU,hQ,lU,lQ,hm,dU,dQ,hz,aD,he⟩
 |succ m=>
  have rA:((m+1:Nat):Int)-1=(m:Int):=by omega
  rw[rA]at ri;have gu:=cj (l:=U) (i:=m) (by omega);generalize U[m]'(by omega)=um at*;have zbF:um<B:=dU.get gu;have hsK:oF ⟨H,n1,W⟩ 1 (some (.slice iu 0 lu (some lu) 1)) (some (some (.int .i64 m))) (some (some (.int .i64 ((m:Int)+((k:Int)+2)+1)))) (some none)=some (.slice iu m (k+3) (some (lu-m)) 1,⟨H,n1,W⟩):=by
   have e1:(0:Int)<=(m:Int)+((k:Int)+2)+1/\(m:Int)+((k:Int)+2)+1<=(lu:Int):=by omega
   have e2:((m:Int)+((k:Int)+2)+1).toNat=m+k+3:=by omega
   have e3:¬lu=m:=by omega
   have e4:m<=m+k+3:=by omega
   have e5:m+k+3-m=k+3:=by omega
   have e6:(m:Int)<=((m+k+3:Nat):Int):=by omega
   simp only[oF,rX,aC,dX,nh,Option.map,Src.ev,e1,e2,e3,e5,e6,and_self,if_true,if_false,Int.natCast_nonneg,Int.toNat_natCast,ne_eq,not_true_eq_false,Option.isSome,Option.isNone,Ei,false_or,iE,xd,AL]
  have hmq:m<lu-(k+2):=by omega
  simp(disch:=first|(simp;done)|omega|(simp only[bu,cr,bl];omega)|rfl) [A.oO,hr,hf,ri,Kc,DM,DN,a13,Ge,aC,hsK];refine BV (Yfa (n2:=n2) (k:=k) (U:=U) (v1:=v1) (hv.ad ⟨aN _,fun i hi=>hK.get i hi⟩) hY dY Qy (by omega) (by omega) (by omega) hU dU f1 pW (fun t h1 h2=>hz t (by omega) (by omega)) ?_) ?_
  ·rw[DD gu];have:=mZ B aD;rw[Nat.mul_succ]at this;omega
  rintro x ⟨H2,n3,W2⟩ ⟨s1,s2,s3,q,o,rfl,s4,s5,s6,s7,s8,s9,s10,s11⟩;simp only at s1 s2 s3 s5;subst s1;have Qz:H2.get iq=some (.cells (dg Q) 205 true):=by rw[s3 iq (by omega)];exact hQ
  simp(disch:=first|(simp;done)|omega|(simp only[bu,cr,bl];omega)|rfl) [hr,hf,ri,Kc,DM,DN,a13,hmq,Qz,rH];have xP:¬iq<n2:=by omega
  have hHe:∀i,i<n2->(H2.set iq (.cells (dg (Q.set m q)) 205 true)).get i=h2.get i:=fun i hi=>by rw[T.ag,ak (by omega),s3 i (by omega)];exact hK.get i hi
  refine⟨m,by omega,rfl,?_,⟨by omega,hHe⟩,o,Q.set m q,by simp,by simp[s5,(show ¬iu=iq by omega)],by simp,by omega,by simp;omega,by simp;omega,s7,dQ.vt s4,?_,s11,?_⟩
  ·simp only[az,xP,if_false];rw[s2];exact hW
  ·intro t h1 mX;exact s9 t (by omega) (by omega)
  have eU:=Hg B U m (by omega);have eO:=Hg B o m (by omega);have et:o.take m=U.take m:=by
   apply pM;intro t;rw[jZ,jZ];split
   ·exact s8 t (by omega)
   rfl
  rw[DD (mQ (by omega)),List.drop_set_of_lt (by omega),eO,et];rw[eU,<-s10,iD]at he;rw[<-he];generalize val B (U.take m)=z1;generalize val B (o.drop m)=z2;generalize val B Y=z3;generalize val B (Q.drop (m+1))=z4;generalize B^m=z5;grind
structure Vb (n2:Nat) (h2:T O) (iu iq Nq lu n s:Nat) (U Q:List Nat) (m:Nat) (r:T V) (st:St):Prop where
 hn:st.n=Nq
 w:az n2 st.w=[]
 ad:ab h2 n2 st.h Nq
 q:st.h.get iq=some (.cells (dg Q) 205 true)
 ex:∃(i:Nat) (o:List Nat),i+m=n/\r.get 97=some (.int .i64 i)/\st.h.get iu=some (.cells (dg o) 205 true)/\o.length=lu/\Dg o/\(∀t,i<=t->o[t]?=U[t]?)/\2^s*val B (o.take i)=val B (U.take i)+B^i*(dz U i%2^s)
def Ykl(LI:lu<1099511627776)(lU:U.length=lu)(dU:Dg U)(hs:s<64)(Qy:n2<=iu)(HK:iu<iq)(hq:iq<Nq)(hn:n<lu)
  (a9:r0.get 9=some (.int .i64 s)) (DM:r0.get 11=some (.slice iu 0 lu cu 1)) (a96:r0.get 96=some (.int .i64 n)):
  ∀x r st,(∀t,kV [(15,15),(97,130)] t=false->r.get t=r0.get t)->Fx [(15,15),(97,130)] r0 137 ⟨r,137,[]⟩->Vb n2 h2 iu iq Nq lu n s U Q x r st->Code A.C none A.mB ⟨r,137,[]⟩ st (Rd [(15,15),(97,130)] r0 137 (Vb n2 h2 iu iq Nq lu n s U Q) x (fun e r st=>e=.exit 4/\Vb n2 h2 iu iq Nq lu n s U Q 0 r st)):=by
 rintro m r ⟨H,n1,W⟩ hr hf ⟨zi,hW,hK,hQ,i,o,hi,QA,aA,lo,dO,fu,he⟩;simp only at zi hW hK hQ aA;subst zi;rw[bG];cases m with
 |zero=>
  have:i=n:=by omega
  subst this;simp[A.mB,hr,hf,QA,a96];exact⟨rfl,hW,hK,hQ,i,o,by omega,by simp[QA],aA,lo,dO,fu,he⟩
 |succ m=>
  have aD:i<n:=by omega
  have gx:U[i]?=some (U[i]'(by omega)):=cj (by omega);have gy:U[i+1]?=some (U[i+1]'(by omega)):=cj (by omega);generalize U[i]'(by omega)=x at*;generalize U[i+1]'(by omega)=y at*;have hx:x<B:=dU.get gx;have hy:y<B:=dU.get gy;have ox:o[i]?=some x:=by rw[fu i (aN _)];exact gx
  have oy:o[i+1]?=some y:=by rw[fu (i+1) (by omega)];exact gy
  have uV:i<lu:=by omega
  have QC:i+1<lu:=by omega
  have zaF:(i:Int)+1<(lu:Int):=by omega
  have sE:dz U i=x:=by simp[dz,gx]
  have hzy:dz U (i+1)=y:=by simp[dz,gy]
  have xP:¬iu<n2:=by omega
  have hiu:iu<n1:=by omega
  have hqu:¬iq=iu:=by omega
  have hsB:ax x s<B:=Zzg hx;have zbk:ax x s<18446744073709551616:=hsB;have zbG:x<18446744073709551616:=hx;have Kd:y<18446744073709551616:=hy;have rU:(s:Int)<=64:=by omega
  have K1:=fun v1 v2=>(hK.set (o:=v1) Qy).set (i:=iu) (o:=v2) Qy;by_cases h0:0<s
  ·have jD:(0:Int)<(s:Int):=by omega
   obtain⟨z1,z2⟩:=Yqq (y:=y) hx h0 hs;have ox2:(o.set i (ax x s))[i]?=some (ax x s):=mQ (by omega);have oy2:(o.set i (ax x s))[i+1]?=some y:=by rw[fk (by omega)];exact oy
   have vu:(o.set i (ax x s)).length=lu:=by simp[lo]
   have zaG:bn .i64 (64-(s:Int))=((64-s:Nat):Int):=by rw[cN (by omega) (by omega)];omega
   simp(disch:=first|(simp;done)|omega|(simp only[bu,cr,bl];omega)|rfl) [-getElem?_pos,A.mB,hr,hf,QA,a96,a9,DM,aD,uV,QC,aA,gw ox,rH,h0,jD,zaF,zaG,gw ox2,gw oy2,vu,hiu,c9.c_];refine⟨m,by omega,rfl,by simp[az,hW,xP],K1 _ _,by simp[hqu,hQ],i+1,(o.set i (ax x s)).set i (ks (ax x s) (bU y (64-s))),by omega,by simp,by simp,by simp[lo],(dO.vt hsB).vt z1,?_,?_⟩
   ·intro t ht;rw[fk (by omega),fk (by omega)];exact fu t (by omega)
   rw[List.set_set,Fs,Fs,sE,hzy,show dz (o.set i (ks (ax x s) (bU y (64-s)))) i=ks (ax x s) (bU y (64-s)) by simp[dz,mQ (show i<o.length by omega)]];have ht:(o.set i (ks (ax x s) (bU y (64-s)))).take i=o.take i:=by
    apply pM;intro t;rw[jZ,jZ];split
    ·rw[fk (by omega)]
    rfl
   rw[ht];rw[sE]at he;have e2:B^i*(2^s*ks (ax x s) (bU y (64-s))+x%2^s)=B^i*(x+B*(y%2^s)):=by rw[z2]
   rw[iD];generalize ks (ax x s) (bU y (64-s))=z at*;generalize val B (o.take i)=y1 at*;generalize val B (U.take i)=y2 at*;generalize x%2^s=y3 at*;generalize y%2^s=y4 at*;generalize (2:Nat)^s=y5 at*;generalize B^i=y6 at*;clear z2 ht K1;grind
  have iW:s=0:=by omega
  subst iW;have z0:ax x 0=x:=by unfold ax;simp
  have QD:o.set i x=o:=by
   apply pM;intro t;by_cases ht:t=i
   ·subst ht;rw[mQ (by omega),ox]
   rw[fk (by omega)]
  simp(disch:=first|(simp;done)|omega|(simp only[bu,cr,bl];omega)|rfl) [-getElem?_pos,A.mB,hr,hf,QA,a96,a9,DM,aD,uV,QC,aA,gw ox,rH,z0,QD];refine⟨m,by omega,rfl,by simp[az,hW,xP],hK.set Qy,by simp[hqu,hQ],i+1,o,by omega,by simp,by simp,lo,dO,fun t ht=>fu t (by omega),?_⟩;rw[Fs,Fs,sE,show dz o i=x by simp[dz,ox]];have:dz U i%2^0=0:=Nat.mod_one _;rw[this]at he;simp only[GB,Nat.one_mul,Nat.mod_one,Nat.mul_zero,iX]at he ⊢;omega
def Ypv(h:(aJ b).length=1):aJ b=[b]/\b<B:=by obtain⟨h1,h2⟩:=JU (k:=0) h;rw[GB]at h1;rw[xd,Nat.pow_one]at h2;refine⟨?_,h2⟩;rw[oJ (by omega),BN h2,tP,Ad h2]
def Yj6(h:r<B):uR [r]=aJ r:=by rw[Ft (by intro d hd;simp at hd;subst hd;exact h)];simp[val]
def Zvn{u:V}(hu:Wn h N u a)(hv:Wn h N v b)(hb:0<b)(hl:(aJ a).length<1000000000000)(iC:(aJ b).length<1000000000000):Fn A.C 216 [u,v] h N (fun x h' n'=>∃q r,x=.aU [q,r]/\Wn h' n' q (a/b)/\Wn h' n' r (a%b)):=by
 intro w;have lu:=hu.len;have lv:=hv.len;rw[bu]at lu lv;rw[aP,A.k216 (by simp)];simp[A.b216];refine au (Ziw hu hv (by omega) (by omega)) ?_;rintro _ h1 n1 k1 rfl;by_cases aD:a<b
 ·have c1:xX a b= -1:=by simp[xX,aD]
  simp[c1,ay];refine⟨k1,_,_,⟨rfl,rfl⟩,?_,?_⟩
  ·rw[BN aD];unfold Wn;rw[tP];exact Sl.nil
  rw[Ad aD];exact hu.ad k1
 have c1:¬xX a b<0:=by unfold xX;rw[ak (by omega)];split<;>omega
 have Aj:=hu.ad k1;have pW:=hv.ad k1;have hle:=HL (a:=b) (b:=a) (by omega);by_cases h1l:(aJ b).length=1
 ·obtain⟨e1,e2⟩:=Ypv h1l;have QE:((aJ b).length:Int)=1:=by omega
  have Ke:Sl h1 n1 v (dg [b]):=by rw[<-e1];exact pW
  simp(disch:=first|(simp;done)|omega|(simp only[bu,cr,bl];omega)|rfl) [c1,lv,h1l,lu,bz];refine cB [(7,8),(30,48)] _ (U9 h1 n1 n1 (aJ a) b) (aJ a).length ?_ (Ymw Aj Ke (tR a) e2 (by omega) (by simp) (by simp) (by simp)) ?_
  ·refine⟨rfl,by simp,ab.refl.new _,0,List.replicate (aJ a).length 0,aN _,by simp,by simp,by simp[J9],by simp,?_,?_,hb⟩
   ·intro d hd;rw[Jc]at hd;rw[hd.2];decide
   simp[val]
  rintro e r ⟨H,n2,W⟩ hr ⟨rfl,hn,hW,hK,rest,Q,hm,h8,h7,aA,hQ,dQ,he,wL⟩;simp only at hn hW hK aA;subst hn;simp[hr];refine au (Fv (l:=Q) (Sl.row (e:=205) (rw:=true) (by omega) aA (by rw[bu];exact hQ) (by simp)) (by omega)) ?_;rintro q2 h3 n3 k3 hq;simp[h7,ae];have k4:ab h3 n3 (h3.set n3 (.cells [.int .u64 rest] 205 true)) (n3+1):=ab.refl.new _;have hs5:Sl (h3.set n3 (.cells [.int .u64 rest] 205 true)) (n3+1) (.slice n3 0 1 (some 1) 1) (dg [rest]):=Sl.row (e:=205) (rw:=true) (L:=1) (xx n3) (by simp[dg]) (by simp) (by simp);refine au (Fv hs5 (by simp)) ?_;rintro r2 h5 n5 k5 fL;simp only[Bx,oM]at he;have Kg:val B Q=a/b:=by rw[he,Nat.mul_add_div hb,BN wL];omega
  have Ao:rest=a%b:=by rw[he,Nat.mul_add_mod,Ad wL]
  rw[Ft dQ,Kg]at hq;rw[Yj6 (by omega),Ao]at fL;simp[ay];exact⟨ML k1.le hW,((k1.trans hK).trans k3).trans (k4.trans k5),_,_,⟨rfl,rfl⟩,(hq.ad k4).ad k5,fL⟩
 have wV:(aJ b).length≠0:=by rw[oJ (by omega)];simp
 obtain⟨k,hk⟩:∃k,(aJ b).length=k+2:=⟨(aJ b).length-2,by omega⟩;have QE:¬(k:Int)+2=1:=by omega
 have gt:=cj (l:=aJ b) (i:=k+1) (by omega);generalize (aJ b)[k+1]'(by omega)=bt at*;have QF:bt<B:=(tR b).get gt;have zaH:¬bt=0:=by obtain⟨w1,w2⟩:=JU (k:=k+1) hk;have:=(Py w1 w2).2;rw[gt]at this;have e:=px this;have hp:0<B^(k+1):=BM (by decide);have:=(Mg hp).2 (by rw[Nat.one_mul];exact w1);omega
 obtain⟨m1,m2,m3⟩:=Yoq zaH QF;have hlz:=fun (h:T O) (N:Nat)=>Yg7 (h:=h) (N:=N) (x:=bt) QF;generalize hs:64-aY bt=s at*;obtain⟨i1,o1,OA,e1,w1,p1,p2,p3,p4⟩:=pW.at (gw gt);have t1:((k:Int)+2-1)=(k:Int)+1:=by omega
 rw[hk]at lv;simp(disch:=omega) [c1,lv,p1,p3,p4,t1,QE];refine au (hlz _ _) ?_;rintro _ h1 n1 k2 ⟨rfl,rfl,rfl⟩;simp;refine au (Zrb pW (tR b) m3 (by omega)) ?_;rintro vv h2 n2 k3 ⟨iv,ov,g1,g2,rfl,g3,g4,g5,g6⟩;simp;refine au (Fv (l:=ov) (Sl.row (e:=205) (rw:=true) g2 g3 (by rw[bu];exact g4) (by simp)) (by omega)) ?_;rintro vy h3 n3 k4 hy;rw[Ft g5,g6,oM]at hy;obtain⟨y1,v1,y2,y3⟩:=Yjx hk gt m1 m2 (by omega);have ly:=Sl.len hy;rw[bu,y1]at ly;have ly:oe vy=some (k+2):=ly;obtain⟨L,hL⟩:∃L,L+(k+2)=(aJ a).length+1:=⟨(aJ a).length+1-(k+2),by omega⟩;have hLi:((aJ a).length:Int)-((k:Int)+2)=(L:Int)-1:=by omega
 simp[];refine au (Zrb ((Aj.ad k3).ad k4) (tR a) m3 (by omega)) ?_;rintro uu h4 n4 k5 ⟨iu,ou,j1,j2,rfl,j3,j4,j5,j6⟩;simp(disch:=first|(simp;done)|omega|(simp only[bu,cr,bl];omega)|rfl) [ly,lu,hLi,J9];have DO:0<v1:=by omega
 have k6:ab h4 n4 (h4.set n4 (.cells (dg (List.replicate L 0)) 205 true)) (n4+1):=ab.refl.new _;have hyv:v1*B^(k+1)<=val B (aJ (b*2^s)):=by obtain⟨w1,w2⟩:=JU (k:=k+1) y1;have:=(Py w1 w2).2;rw[y2]at this;have e:=px this;rw[oM,e];exact Nat.div_mul_le_self _ _
 refine cB [(14,14),(80,95)] _ (Va N n3 h3 iu n4 (n4+1) ((aJ a).length+1) k (a*2^s) (aJ (b*2^s))) L ?_ (Ymv (cq:=some L) (v1:=v1) hy (by omega) (tR _) (by omega) (by rw[y2]) DO j1 j2 (xx n4) (by omega) (by simp) (by simp) (by simp) ?_) ?_
 ·have aX:¬iu=n4:=by omega
  refine⟨rfl,rfl,(k5.trans k6),ou,List.replicate L 0,by simp,by simp[aX,j3],by simp,j4,by simp;omega,by simp,j5,?_,fun t ht1 zp=>by omega,?_,?_⟩
  ·intro d hd;rw[Jc]at hd;rw[hd.2];decide
  ·have ha0:a≠0:=by omega
   have hla:(aJ a).length≠0:=by rw[oJ ha0];simp
   obtain⟨la1,QG⟩:∃x,(aJ a).length=x+1:=⟨(aJ a).length-1,by omega⟩;have eF:=(JU QG).2;rw[<-QG]at eF;rw[oM]at j6;exact Ye3 (k:=k+1) j6 j4 (by omega) (by omega) eF m3 y3 hyv
  simp[val,j6,oM]
 ·have:(aJ a).length+1-(k+2)=L:=by omega
  simp[this]
 rintro e r ⟨H,n5,W⟩ hr ⟨rfl,hn,hW,hK,U,Q,ri,hU,hQ,lU,lQ,hm,dU,dQ,hz,fi,he⟩;simp only at hn hW hK hU hQ;subst hn;simp only[Bx,GB,Nat.one_mul]at he fi;simp[hr];refine cB [(15,15),(97,130)] _ (Vb n3 h3 iu n4 (n4+1) ((aJ a).length+1) (k+2) s U Q) (k+2) ?_ (Ykl (cu:=some ((aJ a).length+1)) (by omega) lU dU m3 j1 j2 (xx n4) (by omega) (by simp[hr]) (by simp[hr]) (by simp)) ?_
 ·refine⟨rfl,hW,hK,hQ,0,U,by omega,by simp,hU,lU,dU,fun _ _=>rfl,?_⟩;obtain⟨x,hx⟩:∃x,val B U=2^s*x:=by
   refine⟨a-val B Q*b,?_⟩;rw[oM]at he;rw[Nat.mul_sub,ki _ a,<-he];have:val B Q*(b*2^s)=2^s*(val B Q*b):=by grind
   omega
  have uQ:dz U 0%2^s=0:=by
   have h1:=Fs (b:=B) (l:=U) (k:=0);have h2:=Hg B U 1 (by omega);simp only[List.take_zero,val,GB,Nat.one_mul,xd,Nat.pow_one]at h1 h2;rw[h1,hx]at h2;have h3:B=2^s*2^(64-s):=by rw[<-mT,show s+(64-s)=64 by omega];rfl
   rw[h3,GA]at h2;have h4:dz U 0=2^s*(x-2^(64-s)*val (2^s*2^(64-s)) (U.drop 1)):=by rw[Nat.mul_sub];omega
   rw[h4,Nat.mul_mod_right]
  rw[uQ];simp[val]
 rintro e r2 ⟨H2,n5,W2⟩ fL ⟨rfl,gE,g_,qm,hQ2,i,o,hi,QA,aA,lo,dO,fu,wZ⟩;simp only at gE g_ qm hQ2 aA;subst gE;have:i=k+2:=by omega
 subst this;simp[fL,hr];refine au (Fv (l:=Q) (Sl.row (e:=205) (rw:=true) (xx n4) hQ2 (by rw[bu];omega) (by simp)) (by omega)) ?_;rintro q2 h6 n6 k6 hq;have hsU:Sl h6 n6 (.slice iu 0 ((aJ a).length+1) (some ((aJ a).length+1)) 1) (dg o):=(Sl.row (h:=H2) (N:=n4+1) (by omega) aA (by rw[bu];exact lo) (by simp)).ad k6;obtain⟨v',e1,e2⟩:=LK (w:=[]) hsU (lo:=0) (hi:=k+2) (wX _) (by rw[bu];omega) none (some (.int .i64 ((k+2:Nat):Int))) (.inr ⟨rfl,rfl⟩) (.inl rfl);rw[show ((k+2:Nat):Int)=(k:Int)+2 by omega]at e1;simp[fL,hr,Ge,aC,e1];rw[Bx,show (dg o).take (k+2)=dg (o.take (k+2)) by simp[dg]]at e2;refine au (Fv (l:=o.take (k+2)) e2 (by rw[iV];omega)) ?_;rintro r3 h7 n7 k7 QH;rw[Ft dQ]at hq;rw[Ft (fun d hd=>dO d (AG hd))]at QH;rw[oM]at he fi;have hbs:0<b*2^s:=Au hb (sK s);have Kh:dz U (k+2)=0:=by simp[dz,hz (k+2) (by omega) (by omega)]
 have hUt:val B (U.take (k+2))=val B U:=by have h1:=Hg B U (k+2) (by omega);rw[Zg9 (fun t t1 t2=>hz t (by omega) (by omega))]at h1;omega
 have Kg:val B Q=a/b:=by
  have h1:a*2^s/(b*2^s)=val B Q:=by rw[<-he,Nat.add_mul_div_right _ _ hbs,BN fi];omega
  rw[TX _ _ (sK s)]at h1;exact h1.symm
 have Ao:val B (o.take (k+2))=a%b:=by
  have h1:a*2^s%(b*2^s)=val B U:=by rw[<-he,Nat.add_mul_mod_self_right,Ad fi]
  rw[OV,ki]at h1;rw[Kh,Nat.zero_mod,Nat.mul_zero,iX,hUt,<-h1]at wZ;exact Nat.eq_of_mul_eq_mul_left (sK s) wZ
 rw[Kg]at hq;rw[Ao]at QH;simp[c9.c_,ay];have kk:=(k1.trans k3).trans k4;exact⟨ML kk.le g_,((kk.trans qm).trans k6).trans k7,q2,r3,⟨rfl,rfl⟩,Sl.ad hq k7,QH⟩
end
end Go.Mx
