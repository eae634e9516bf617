/-The Schur test and the form-/
import Derived.Test.YtlbnjhhebffhdaaGreatDoorXbH
set_option linter.all false
set_option maxHeartbeats 8000000
namespace Go.Mx
open Go Go.Proofs
variable {k:Nat}
set_option maxRecDepth 1000000
def qF(c:Nat->Rat)(n j:Nat):Rat:=c (j+1)-c 0/c n*c (n-1-j)
def tj{f:Nat->Rat}{n:Nat}:sR f (n+1)=sR f n+f n:=rfl
def Yub{c y:Nat->Rat}{m:Nat}(hm:m<=k):aF c (k+1) y m-c 0/c (k+1)*bF c y m=aF (qF c (k+1)) k y m:=by unfold aF bF;rw[<-Ay];refine il fun j hj=>?_;unfold qF;rw[show k-m+j+1=k+1-m+j by omega,show k+1-1-(k-m+j)=m-j by omega];grind
def Yua{c y:Nat->Rat}{m:Nat}(h0:c (k+1)≠0)(hm:m+1<=k):bF c y (m+1)-c 0/c (k+1)*aF c (k+1) y (m+1)=bF (qF c (k+1)) y m:=by
 unfold aF bF;rw[<-Ay,tj];have e:c (m+1-(m+1))*y (m+1)-c 0/c (k+1)*(c (k+1-(m+1)+(m+1))*y (m+1))=0:=by rw[Nat.sub_self,show k+1-(m+1)+(m+1)=k+1 by omega];have:=Rat.div_mul_cancel (a:=c 0) h0;grind
 rw[e,Rat.add_zero];refine il fun j hj=>?_;unfold qF;rw[show m-j+1=m+1-j by omega,show k+1-1-(m-j)=k+1-(m+1)+j by omega];grind
def Zym{c y:Nat->Rat}(h0:c (k+1)≠0):(1-c 0/c (k+1)*(c 0/c (k+1)))*VF c (k+1) y=VF (qF c (k+1)) k y+sR (fun j=>qF c (k+1) j*y j) (k+1)*sR (fun j=>qF c (k+1) j*y j) (k+1):=by
 have hr:=Rat.div_mul_cancel (a:=c 0) h0;have ha:=fun m (hm:m<=k)=>Yub (c:=c) (y:=y) hm;have hb:=fun m (hm:m+1<=k)=>Yua (y:=y) h0 hm;have hA:aF (qF c (k+1)) k y k=sR (fun j=>qF c (k+1) j*y j) (k+1):=by unfold aF;refine il fun j hj=>?_;rw[show k-k+j=j by omega]
 generalize c 0/c (k+1)=r at*;have e1:(1-r*r)*VF c (k+1) y=sR (fun m=>aF (qF c (k+1)) k y m*aF (qF c (k+1)) k y m-1*((bF c y m-r*aF c (k+1) y m)*(bF c y m-r*aF c (k+1) y m))) (k+1):=by unfold VF;rw[<-yZ];refine il fun m hm=>?_;rw[<-ha m (by omega)];grind
 have b0:bF c y 0-r*aF c (k+1) y 0=0:=by show (0:Rat)+c (0-0)*y 0-r*(0+c (k+1-0+0)*y 0)=0;rw[Nat.sub_zero,mY];grind
 have e2:sR (fun m=>(bF c y m-r*aF c (k+1) y m)*(bF c y m-r*aF c (k+1) y m)) (k+1)=sR (fun m=>bF (qF c (k+1)) y m*bF (qF c (k+1)) y m) k:=by
  rw[<-HW,b0];have:sR (fun m=>(bF c y (m+1)-r*aF c (k+1) y (m+1))*(bF c y (m+1)-r*aF c (k+1) y (m+1))) k=sR (fun m=>bF (qF c (k+1)) y m*bF (qF c (k+1)) y m) k:=il fun m hm=>by rw[hb m (by omega)]
  rw[this];grind
 have e3:VF (qF c (k+1)) k y=sR (fun m=>aF (qF c (k+1)) k y m*aF (qF c (k+1)) k y m) k-sR (fun m=>bF (qF c (k+1)) y m*bF (qF c (k+1)) y m) k:=by
  have:=Ay (f:=fun m=>aF (qF c (k+1)) k y m*aF (qF c (k+1)) k y m) (g:=fun m=>bF (qF c (k+1)) y m*bF (qF c (k+1)) y m) (r:=1) (n:=k);have e:VF (qF c (k+1)) k y=sR (fun m=>aF (qF c (k+1)) k y m*aF (qF c (k+1)) k y m-1*(bF (qF c (k+1)) y m*bF (qF c (k+1)) y m)) k:=by unfold VF;exact il fun m _=>by grind
  rw[e,this];grind
 rw[e1,Ay,e2,tj,hA,e3];grind
def Zyn{c c' y y':Nat->Rat}{n:Nat}(hc:∀j,j<=n->c j=c' j)(hy:∀j,j<n->y j=y' j):VF c n y=VF c' n y':=by
 unfold VF;refine il fun m hm=>?_;have e1:aF c n y m=aF c' n y' m:=il fun j hj=>by rw[hc _ (by omega),hy _ (by omega)]
 have e2:bF c y m=bF c' y' m:=il fun j hj=>by rw[hc _ (by omega),hy _ (by omega)]
 rw[e1,e2]
def lW{x:Rat}:0<=x*x:=by
 by_cases h:0<=x
 ·exact Rat.mul_nonneg h h
 have:=Rat.mul_nonneg (show 0<= -x by grind) (show 0<= -x by grind);grind
def S3{x:Rat}(h:x≠0):0<x*x:=by
 have h1:=@lW x;have h2:x*x≠0:=fun e=>by rcases Rat.mul_eq_zero.1 e with h'|h'<;>exact h h'
 grind
def cau{f:Nat->Rat}:∀{k:Nat},sR f k*sR f k<=(k:Rat)*sR (fun j=>f j*f j) k
 |0=>by
  show (0:Rat)*0<=((0:Nat):Rat)*0
  grind
 |k+1=>by
  have ih:=cau (f:=f) (k:=k)
  have key:∀m,2*(sR f m*f k)<=(m:Rat)*(f k*f k)+sR (fun j=>f j*f j) m:=fun m=>by
   induction m with
   |zero=>
    show 2*(0*f k)<=((0:Nat):Rat)*(f k*f k)+0
    rw[show ((0:Nat):Rat)=0 from rfl]
    grind
   |succ m ihm=>
    have h:=@lW (f m-f k)
    rw[tj,tj,Rat.natCast_add,show ((1:Nat):Rat)=1 from rfl]
    grind
  have h:=key k
  rw[tj,tj,Rat.natCast_add,show ((1:Nat):Rat)=1 from rfl]
  grind
def LB(c:Nat->Rat)(n:Nat)(κ:Rat):Prop:=∀(y:Nat->Rat) (j:Nat),j<n->κ*(y j*y j)<=VF c n y
def PD(c:Nat->Rat)(n:Nat):Prop:=∀y:Nat->Rat,(∃j,j<n/\y j≠0)->0<VF c n y
def Ytn{c:Nat->Rat}{κ:Rat}(hκ:0<κ):∀{n:Nat},LB c n κ->∀y,0<=VF c n y
 |0,_,_=>Rat.le_refl
 |n+1,h,y=>by
  have h1:=h y 0 (by omega)
  have h2:=Rat.mul_nonneg (Rat.le_of_lt hκ) (@lW (y 0))
  exact Rat.le_trans h2 h1
def Ykk{r:Rat}(h:zgb r<1):0<1-r*r/\r*r<=1:=by
 have hR:=@Zb2 r;have rr:r*r=zgb r*zgb r:=by unfold zgb;split<;>grind
 rw[rr];generalize zgb r=a at*;have h1:=Rat.mul_nonneg hR (show (0:Rat)<=1-a by grind);constructor<;>grind
def Dv{a b F:Rat}(hF:0<F)(h:a*F<=b*F):a<=b:=by apply Rat.not_lt.1;intro hc;have:=Rat.mul_pos hF (show (0:Rat)<a-b by grind);grind
def SF:Nat->(Nat->Rat)->Prop
 |0,c=>c 0≠0
 |n+1,c=>c (n+1)≠0/\zgb (c 0/c (n+1))<1/\SF n (qF c (n+1))
def Ynp{c:Nat->Rat}{κ:Rat}(h0:c (k+1)≠0)(hr:zgb (c 0/c (k+1))<1)(hκ:0<κ)(h:LB (qF c (k+1)) k κ):∃κ',0<κ'/\LB c (k+1) κ':=by
 obtain⟨r1,r2⟩:=Ykk hr;have hq:qF c (k+1) k≠0:=by
  have e:qF c (k+1) k=c (k+1)*(1-c 0/c (k+1)*(c 0/c (k+1))):=by unfold qF;rw[show k+1-1-k=0 by omega];have:=Rat.div_mul_cancel (a:=c 0) h0;grind
  rw[e];intro hc;rcases Rat.mul_eq_zero.1 hc with h'|h'
  ·exact h0 h'
  grind
 have NN:=fun y=>Zym (y:=y) h0;have qn:=fun y=>Ytn hκ h y;generalize hQ:qF c (k+1)=q at*;generalize c 0/c (k+1)=r at*;have vn:∀y,VF q k y<=VF c (k+1) y/\sR (fun j=>q j*y j) (k+1)*sR (fun j=>q j*y j) (k+1)<=VF c (k+1) y/\0<=VF c (k+1) y:=fun y=>by
  have h1:=NN y;have h2:=qn y;have h3:=@lW (sR (fun j=>q j*y j) (k+1));generalize sR (fun j=>q j*y j) (k+1)*sR (fun j=>q j*y j) (k+1)=A at*;have h4:0<=VF c (k+1) y:=by apply Rat.not_lt.1;intro hc;have:=Rat.mul_pos r1 (show (0:Rat)< -VF c (k+1) y by grind);grind
  have h5:=Rat.mul_nonneg (@lW r) h4;refine⟨?_,?_,h4⟩<;>grind
 have sQ:0<=sR (fun j=>q j*q j) k:=Dt fun j _=>lW;have sk:(0:Rat)<=(k:Rat):=by have:((0:Nat):Rat)<=(k:Rat):=Rat.natCast_le_natCast.2 (tR _);exact this
 obtain⟨D,hD⟩:∃D,(k:Rat)*sR (fun j=>q j*q j) k=D:=⟨_,rfl⟩;have D0:0<=D:=by rw[<-hD];exact Rat.mul_nonneg sk sQ
 have last:∀y,κ*(q k*q k)*(y k*y k)<=(2*κ+2*D)*VF c (k+1) y:=fun y=>by
  obtain⟨v1,v2,v3⟩:=vn y;have c1:=cau (f:=fun j=>q j*y j) (k:=k);have c2:κ*sR (fun j=>q j*y j*(q j*y j)) k<=sR (fun j=>q j*q j) k*VF c (k+1) y:=by
   rw[<-yZ];have e:sR (fun j=>q j*q j) k*VF c (k+1) y=sR (fun j=>VF c (k+1) y*(q j*q j)) k:=by rw[yZ,Rat.mul_comm]
   rw[e];refine Lo fun j hj=>?_;have h1:=Rat.le_trans (h y j hj) v1;have h2:=iK (@lW (q j)) h1;grind
  have c3:=iK sk c2;have c4:=iK (Rat.le_of_lt hκ) c1;rw[tj]at v2;have c5:=iK (Rat.le_of_lt hκ) v2;have c6:=Rat.mul_nonneg (Rat.le_of_lt hκ) (@lW (sR (fun j=>q j*y j) k+sR (fun j=>q j*y j) k+q k*y k));rw[<-hD];generalize sR (fun j=>q j*y j) k=S at*;generalize sR (fun j=>q j*y j*(q j*y j)) k=S2 at*;generalize sR (fun j=>q j*q j) k=Q2 at*;generalize VF c (k+1) y=V at*;generalize (k:Rat)=kk at*;generalize q k=a at*;generalize y k=b at*;grind
 have mp:=S3 hq;obtain⟨m,hm⟩:∃m,q k*q k=m:=⟨_,rfl⟩;rw[hm]at mp last;obtain⟨F,hF⟩:∃F,2*κ+2*D+m=F:=⟨_,rfl⟩;have Fp:0<F:=by rw[<-hF];grind
 obtain⟨κ',hκ'⟩:∃κ',κ*m/F=κ':=⟨_,rfl⟩;have e:κ'*F=κ*m:=by rw[<-hκ'];exact Rat.div_mul_cancel (by intro hc;rw[hc]at Fp;exact Rat.lt_irrefl Fp)
 have κp:0<κ':=by apply Rat.not_le.1;intro hc;have h1:=Rat.mul_nonneg (show (0:Rat)<= -κ' by grind) (Rat.le_of_lt Fp);have h2:=Rat.mul_pos hκ mp;grind
 have le:κ'<=κ:=by refine Dv Fp ?_;rw[e,<-hF];have h1:=Rat.mul_nonneg (Rat.le_of_lt hκ) (Rat.le_of_lt hκ);have h2:=Rat.mul_nonneg (Rat.le_of_lt hκ) D0;grind
 refine⟨κ',κp,fun y j hj=>?_⟩;obtain⟨v1,v2,v3⟩:=vn y;by_cases Az:j=k
 ·subst Az;refine Dv Fp ?_;have h1:=last y;have h2:=Rat.mul_nonneg (Rat.le_of_lt mp) v3;rw[<-hF]at e ⊢;have e3:κ'*(y j*y j)*(2*κ+2*D+m)=κ*m*(y j*y j):=by rw[<-e];grind
  rw[e3];grind
 have h1:=Rat.le_trans (h y j (by omega)) v1;have h2:=iK (@lW (y j)) le;exact Rat.le_trans h2 h1
def Yk3:∀{n:Nat} {c:Nat->Rat},SF n c->∃κ,0<κ/\LB c n κ
 |0,_,_=>⟨1,by decide,fun _ j hj=>absurd hj (by omega)⟩
 |n+1,c,h=>by
  obtain⟨h0,hr,hs⟩:=h
  obtain⟨κ,hκ,hl⟩:=Yk3 hs
  exact Ynp h0 hr hκ hl
variable {k n:Nat}
def Tn(c:Nat->Rat)(n:Nat)(y:Nat->Rat)(t:Nat):Rat:=sR (fun j=>c j*y (t+j)) (n+1)
def rv(c:Nat->Rat)(n j:Nat):Rat:=c (n-j)
def Yvq{c y:Nat->Rat}{t:Nat}:aF c n (fun j=>y (t+j)) n=Tn c n y t:=by unfold aF Tn;refine il fun j hj=>?_;rw[show n-n+j=j by omega]
def Yvp{c y:Nat->Rat}{t:Nat}:bF c (fun j=>y (t+j)) n=Tn (rv c n) n y t:=rfl
def Yvo{c y:Nat->Rat}{t:Nat}(h0:c (k+1)≠0):Tn (qF c (k+1)) k y (t+1)=Tn c (k+1) y t-c 0/c (k+1)*Tn (rv c (k+1)) (k+1) y t:=by
 unfold Tn;rw[<-Ay,<-HW (n:=k+1)];have e0:c 0*y (t+0)-c 0/c (k+1)*(rv c (k+1) 0*y (t+0))=0:=by unfold rv;have:=Rat.div_mul_cancel (a:=c 0) h0;grind
 rw[e0,Rat.add_zero];refine il fun j hj=>?_;unfold qF rv;rw[show t+1+j=t+(j+1) by omega,show k+1-(j+1)=k+1-1-j by omega];grind
def Yvn{c y:Nat->Rat}{t:Nat}(h0:c (k+1)≠0):Tn (rv (qF c (k+1)) k) k y t=Tn (rv c (k+1)) (k+1) y t-c 0/c (k+1)*Tn c (k+1) y t:=by
 unfold Tn;rw[<-Ay,tj (n:=k+1)];have e0:rv c (k+1) (k+1)*y (t+(k+1))-c 0/c (k+1)*(c (k+1)*y (t+(k+1)))=0:=by unfold rv;rw[Nat.sub_self];have:=Rat.div_mul_cancel (a:=c 0) h0;grind
 rw[e0,Rat.add_zero];refine il fun j hj=>?_;unfold rv qF;rw[show k-j+1=k+1-j by omega,show k+1-1-(k-j)=j by omega];grind
def Yk4:∀{n:Nat} {c:Nat->Rat},SF n c->∃K,0<=K/\∀(y:Nat->Rat) (t:Nat) (X:Rat),(∀s,s<=n->Tn c n y (t+s)*Tn c n y (t+s)<=X/\Tn (rv c n) n y (t+s)*Tn (rv c n) n y (t+s)<=X)->y (t+n)*y (t+n)<=K*X
 |0,c,h=>by
  have h0:0<c 0*c 0:=S3 h
  have hn:c 0*c 0≠0:=by intro hc;rw[hc]at h0;exact Rat.lt_irrefl h0
  have hc:=Rat.div_mul_cancel (a:=1) hn
  refine⟨1/(c 0*c 0),?_,fun y t X hX=>?_⟩
  ·refine Dv h0 ?_
   rw[hc]
   grind
  ·refine Dv h0 ?_
   have h1:=(hX 0 (by omega)).1
   have e:Tn c 0 y (t+0)=c 0*y (t+0):=by
    show (0:Rat)+c 0*y (t+0+0)=_
    grind
   rw[e]at h1
   have e2:1/(c 0*c 0)*X*(c 0*c 0)=X:=by
    generalize c 0*c 0=a at*
    generalize 1/a=b at*
    grind
   rw[e2]
   grind
 |k+1,c,h=>by
  obtain⟨h0,hr,hs⟩:=h
  obtain⟨r1,r2⟩:=Ykk hr
  obtain⟨K,hK,ih⟩:=Yk4 hs
  have a1:=fun y t=>Yvo (y:=y) (t:=t) h0
  have a2:=fun y t=>Yvn (y:=y) (t:=t) h0
  generalize c 0/c (k+1)=r at*
  refine⟨K*4,Rat.mul_nonneg hK (by decide),fun y t X hX=>?_⟩
  have key:∀a b:Rat,a*a<=X->b*b<=X->(a-r*b)*(a-r*b)<=4*X:=fun a b ha hb=>by
   have h1:=@lW (a+r*b)
   have h2:=iK (@lW b) r2
   grind
  have:=ih y (t+1) (4*X) fun s gg=>by
   obtain⟨x1,x2⟩:=hX s (by omega)
   obtain⟨x3,x4⟩:=hX (s+1) (by omega)
   rw[show t+1+s=t+s+1 by omega,a1,a2]
   rw[show t+(s+1)=t+s+1 by omega]at x3 x4
   exact⟨key _ _ x1 x2,key _ _ x4 x3⟩
  rw[show t+1+k=t+(k+1) by omega]at this
  grind
def S4{k:Nat}:(0:Rat)<=(k:Rat):=by have:((0:Nat):Rat)<=(k:Rat):=Rat.natCast_le_natCast.2 (tR _);exact this
def Ykl{d y:Nat->Rat}{m:Nat}{X:Rat}(h:∀j,j<m->y j*y j<=X):sR (fun j=>d j*y j) m*sR (fun j=>d j*y j) m<=(m:Rat)*sR (fun j=>d j*d j) m*X:=by
 have h1:=cau (f:=fun j=>d j*y j) (k:=m);have h2:sR (fun j=>d j*y j*(d j*y j)) m<=sR (fun j=>d j*d j) m*X:=by
  have e:sR (fun j=>d j*d j) m*X=sR (fun j=>X*(d j*d j)) m:=by rw[yZ,Rat.mul_comm]
  rw[e];refine Lo fun j hj=>?_;have:=iK (@lW (d j)) (h j hj);grind
 have h3:=iK (S4 (k:=m)) h2;grind
def Ygl{d y:Nat->Rat}{B:Rat}:∀{m:Nat},(∀j,j<m->zgb (y j)<=B)->zgb (sR (fun j=>d j*y j) m)<=sR (fun j=>zgb (d j)) m*B
 |0,_=>by
  show zgb 0<=0*B
  rw[show zgb 0=0 from rfl]
  grind
 |m+1,h=>by
  have ih:=Ygl (d:=d) (m:=m) fun j hj=>h j (by omega)
  rw[tj,tj]
  have h1:=@Zrh (sR (fun j=>d j*y j) m) (d m*y m)
  have h2:=iK (@Zb2 (d m)) (h m (by omega))
  rw[BJ]at h1
  grind
def rI(c:Nat->Rat)(n:Nat):Rat:=sR (fun m=>((m+1:Nat):Rat)*sR (fun j=>c (n-m+j)*c (n-m+j)) (m+1)) n
def NO(c:Nat->Rat)(n:Nat):Rat:=sR (fun m=>((m+1:Nat):Rat)*sR (fun j=>c (m-j)*c (m-j)) (m+1)) n
def S5{c:Nat->Rat}{n:Nat}:0<=rI c n/\0<=NO c n:=
 ⟨Dt fun _ _=>Rat.mul_nonneg S4 (Dt fun _ _=>lW),Dt fun _ _=>Rat.mul_nonneg S4 (Dt fun _ _=>lW)⟩
def Ypa{c y:Nat->Rat}{X:Rat}(h:∀j,j<n->y j*y j<=X):VF c n y<=rI c n*X/\ -VF c n y<=NO c n*X:=by
 unfold rI NO;rw[Rat.mul_comm,<-yZ,Rat.mul_comm (sR _ n),<-yZ];have e: -VF c n y=sR (fun m=> -1*(aF c n y m*aF c n y m-bF c y m*bF c y m)) n:=by rw[yZ];show -VF c n y= -1*VF c n y;grind
 rw[e];unfold VF;constructor
 ·refine Lo fun m hm=>?_;have h1:=Ykl (d:=fun j=>c (n-m+j)) (m:=m+1) fun j hj=>h j (by omega);have h2:=@lW (bF c y m);have h3:aF c n y m*aF c n y m<=_:=h1;grind
 refine Lo fun m hm=>?_;have h1:=Ykl (d:=fun j=>c (m-j)) (m:=m+1) fun j hj=>h j (by omega);have h2:=@lW (aF c n y m);have h3:bF c y m*bF c y m<=_:=h1;grind
def Yp1{x q B:Rat}(hq:0<=q)(hB:0<=B)(h:x*x<=q*(B*B)):zgb x<=(1+q)*B:=by
 apply Rat.not_lt.1;intro hc;have e:zgb x*zgb x=x*x:=by unfold zgb;split<;>grind
 have hx:=@Zb2 x;rw[<-e]at h;generalize zgb x=a at*;have h1:=Rat.mul_nonneg (show (0:Rat)<=1+q by grind) hB;have h2:=Rat.mul_pos (show (0:Rat)<a-(1+q)*B by grind) (show (0:Rat)<a+(1+q)*B by grind);have h3:=Rat.mul_nonneg hq (@lW B);have h4:=Rat.mul_nonneg hq h3;have h5:=@lW B;grind
def Ygk{x B:Rat}(h:zgb x<=B):x*x<=B*B:=by
 have e:zgb x*zgb x=x*x:=by unfold zgb;split<;>grind
 have hx:=@Zb2 x;rw[<-e];generalize zgb x=a at*;have h1:=Rat.mul_nonneg (show (0:Rat)<=B-a by grind) (show (0:Rat)<=B+a by grind);grind
variable {n:Nat}
def Dd(c:Nat->Rat)(n:Nat):Prop:=∃K,0<=K/\∀(y:Nat->Rat) (N:Nat) (B:Rat),(∀j,j<n->zgb (y j)<=B)->(∀t,t<N->zgb (Tn c n y t)<=B)->∀t,t<N+n->zgb (y t)<=K*B
def Vt(c:Nat->Rat)(n:Nat)(y:Nat->Rat)(t:Nat):Rat:=VF c n (fun j=>y (t+j))
def Yo8{c y:Nat->Rat}{t:Nat}:Vt c n y (t+1)=Vt c n y t+Tn c n y t*Tn c n y t-Tn (rv c n) n y t*Tn (rv c n) n y t:=by have h:=Ypb (c:=c) (n:=n) (y:=fun j=>y (t+j));rw[Yvq,Yvp]at h;unfold Vt;rw[<-h];refine congrArg (VF c n) (funext fun j=>?_);show y (t+1+j)=y (t+(j+1));rw[show t+1+j=t+(j+1) by omega]
def sU(c:Nat->Rat)(n:Nat)(y:Nat->Rat)(t m:Nat):Rat:=sR (fun s=>Tn c n y (t+s)*Tn c n y (t+s)) m
def RW{c y:Nat->Rat}{n t:Nat}:∀{m:Nat},Vt c n y (t+m)=Vt c n y t+sU c n y t m-sU (rv c n) n y t m
 |0=>by
  show Vt c n y t=Vt c n y t+0-0
  grind
 |m+1=>by
  have ih:=RW (c:=c) (y:=y) (n:=n) (t:=t) (m:=m)
  have h:=Yo8 (c:=c) (y:=y) (n:=n) (t:=t+m)
  show Vt c n y (t+m+1)=Vt c n y t+(sU c n y t m+Tn c n y (t+m)*Tn c n y (t+m))-(sU (rv c n) n y t m+Tn (rv c n) n y (t+m)*Tn (rv c n) n y (t+m))
  rw[h,ih]
  grind
def Vu{c y:Nat->Rat}{n t m:Nat}:0<=sU c n y t m:=Dt fun _ _=>lW
def Vv{c y:Nat->Rat}{t m:Nat}{X:Rat}(h:∀s,s<m->Tn c n y (t+s)*Tn c n y (t+s)<=X):sU c n y t m<=(m:Rat)*X:=by rw[<-Lp];exact Lo h
def Vw{f:Nat->Rat}:∀{m i:Nat},(∀k,k<m->0<=f k)->i<m->f i<=sR f m
 |m+1,i,h,hi=>by
  have hs:=Dt (f:=f) (n:=m) fun k hk=>h k (by omega)
  rw[tj]
  by_cases e:i=m
  ·subst e
   grind
  ·have:=Vw (f:=f) (m:=m) (i:=i) (fun k hk=>h k (by omega)) (by omega)
   have:=h m (by omega)
   grind
def Yo9{c y:Nat->Rat}{t:Nat}{K X:Rat}(hK:0<=K)(hI:∀(y:Nat->Rat) (t:Nat) (X:Rat),(∀s,s<=n->Tn c n y (t+s)*Tn c n y (t+s)<=X/\Tn (rv c n) n y (t+s)*Tn (rv c n) n y (t+s)<=X)->y (t+n)*y (t+n)<=K*X)(hX:0<=X)(hu:∀s,s<n+n->Tn c n y (t+s)*Tn c n y (t+s)<=X):(1+rI c n*K)*Vt c n y (t+(n+n))<=((n:Rat)+rI c n*K*(1+2*(n:Rat)))*X+rI c n*K*Vt c n y t:=by
 have r1:=RW (c:=c) (y:=y) (n:=n) (t:=t) (m:=n+n);have r2:=RW (c:=c) (y:=y) (n:=n) (t:=t+n) (m:=n);have u1:=Vv hu;have u2:=Vv (c:=c) (y:=y) (n:=n) (t:=t+n) (m:=n) (X:=X) fun s hs=>by have:=hu (n+s) (by omega);rw[show t+(n+s)=t+n+s by omega]at this;exact this
 have s0:=@Vu c y n t (n+n);have s1:=@Vu (rv c n) y n t (n+n);have s2:=@Vu (rv c n) y n (t+n) n;obtain⟨Z,hZ⟩:∃Z,X+sU (rv c n) n y t (n+n)=Z:=⟨_,rfl⟩;have hv:∀s,s<n+n->Tn (rv c n) n y (t+s)*Tn (rv c n) n y (t+s)<=Z:=fun s hs=>by have:=Vw (f:=fun s=>Tn (rv c n) n y (t+s)*Tn (rv c n) n y (t+s)) (m:=n+n) (i:=s) (fun k _=>lW) hs;have h2:Tn (rv c n) n y (t+s)*Tn (rv c n) n y (t+s)<=sU (rv c n) n y t (n+n):=this;rw[<-hZ];grind
 have hw:∀s,s<n+n->Tn c n y (t+s)*Tn c n y (t+s)<=Z:=fun s hs=>by have:=hu s hs;rw[<-hZ];grind
 have hy:∀j,j<n->y (t+n+j)*y (t+n+j)<=K*Z:=fun j hj=>by
  have:=hI y (t+j) Z fun s hs=>by rw[show t+j+s=t+(j+s) by omega];exact⟨hw _ (by omega),hv _ (by omega)⟩
  rw[show t+j+n=t+n+j by omega]at this;exact this
 have hV:Vt c n y (t+n)<=rI c n*(K*Z):=(Ypa (c:=c) (y:=fun j=>y (t+n+j)) hy).1;have hA:=(S5 (c:=c) (n:=n)).1;have P0:=Rat.mul_nonneg hA hK;rw[show t+n+n=t+(n+n) by omega]at r2;rw[show ((n+n:Nat):Rat)=(n:Rat)+(n:Rat) from Rat.natCast_add _ _]at u1;have e1:rI c n*(K*Z)=rI c n*K*Z:=by grind
 rw[e1]at hV;generalize rI c n*K=P at*;generalize Vt c n y (t+(n+n))=V2 at*;generalize Vt c n y (t+n)=V1 at*;generalize Vt c n y t=V0 at*;generalize sU c n y t (n+n)=a at*;generalize sU (rv c n) n y t (n+n)=b at*;generalize sU c n y (t+n) n=d at*;generalize sU (rv c n) n y (t+n) n=e at*;generalize (n:Rat)=m at*;have z1:Z<=X+(V0-V2)+(m+m)*X:=by rw[<-hZ];grind
 have z2:=iK P0 z1;have v1:V2<=V1+m*X:=by grind
 grind
def sd{c:Nat->Rat}:∀{n:Nat},SF n c->Dd c n
 |0,h=>by
  have h0:c 0≠0:=h
  refine⟨zgb (1/c 0),Zb2,fun y N B _ hu t ht=>?_⟩
  have h1:=hu t (by omega)
  have e:Tn c 0 y t=c 0*y t:=by
   show (0:Rat)+c 0*y (t+0)=_
   rw[mY]
   grind
  have e2:y t=Tn c 0 y t*(1/c 0):=by
   have:=Rat.div_mul_cancel (a:=1) h0
   rw[e]
   grind
  rw[e2,BJ]
  have:=iK (@Zb2 (1/c 0)) h1
  grind
 |k+1,h=>by
  obtain⟨κ,hκ,hL⟩:=Yk3 h
  obtain⟨K,hK,hI⟩:=Yk4 h
  obtain⟨hA,_⟩:=S5 (c:=c) (n:=k+1)
  have P0:=Rat.mul_nonneg hA hK
  have n0:=S4 (k:=k+1)
  generalize hn:k+1=n at*
  obtain⟨C,hC⟩:∃C,rI c n+3*(n:Rat)+rI c n*K*(1+2*(n:Rat))=C:=⟨_,rfl⟩
  have Pn:=Rat.mul_nonneg P0 (show (0:Rat)<=1+2*(n:Rat) by grind)
  have C0:0<=C:=by rw[<-hC];grind
  have q0:0<=C/κ:=by
   refine Dv hκ ?_
   rw[Rat.div_mul_cancel (by intro hc;rw[hc]at hκ;exact Rat.lt_irrefl hκ)]
   grind
  refine⟨1+C/κ,by grind,fun y N B hi hu=>?_⟩
  have B0:0<=B:=Rat.le_trans Zb2 (hi 0 (by omega))
  have X0:=@lW B
  have uu:∀t,t<N->Tn c n y t*Tn c n y t<=B*B:=fun t ht=>Ygk (hu t ht)
  have vb:∀t,t<=N->Vt c n y t<=C*(B*B):=fun t=>by
   induction t using Nat.strongRecOn with
   |_ t ih=>
    intro ht
    by_cases h2:t<n+n
    ·have r:=RW (c:=c) (y:=y) (n:=n) (t:=0) (m:=t)
     rw[oJ]at r
     have s1:=@Vu (rv c n) y n 0 t
     have u1:=Vv (c:=c) (y:=y) (n:=n) (t:=0) (m:=t) (X:=B*B) fun s hs=>by
      rw[oJ]
      exact uu s (by omega)
     have v0:Vt c n y 0<=rI c n*(B*B):=(Ypa (c:=c) (y:=fun j=>y (0+j)) fun j hj=>by
      rw[oJ]
      exact Ygk (hi j hj)).1
     have tn:(t:Rat)<=(n:Rat)+(n:Rat):=by
      rw[<-Rat.natCast_add]
      exact Rat.natCast_le_natCast.2 (by omega)
     have t1:=iK X0 tn
     have t2:=Rat.mul_nonneg Pn X0
     have t3:=Rat.mul_nonneg n0 X0
     rw[r,<-hC]
     grind
    ·obtain⟨t',rfl⟩:∃t',t=t'+(n+n):=⟨t-(n+n),by omega⟩
     have f:=Yo9 (y:=y) (t:=t') hK hI X0 fun s hs=>uu _ (by omega)
     have i:=iK P0 (ih t' (by omega) (by omega))
     refine Dv (F:=1+rI c n*K) (by grind) ?_
     have t1:=Rat.mul_nonneg hA X0
     have t2:=Rat.mul_nonneg Pn X0
     have t3:=Rat.mul_nonneg n0 X0
     have e:C*(B*B)*(1+rI c n*K)=C*(B*B)*(rI c n*K)+(rI c n*(B*B)+3*(n:Rat)*(B*B)+rI c n*K*(1+2*(n:Rat))*(B*B)):=by
      rw[<-hC]
      grind
     rw[e]
     grind
  intro t ht
  obtain⟨t0,j,e,h1,h2⟩:∃t0 j,t=t0+j/\t0<=N/\j<n:=by
   by_cases h:t<N
   ·exact⟨t,0,rfl,by omega,by omega⟩
   ·exact⟨N,t-N,by omega,by omega,by omega⟩
  have h3:=hL (fun i=>y (t0+i)) j h2
  have h4:=vb t0 h1
  refine Yp1 q0 B0 ?_
  refine Dv hκ ?_
  have e2:C/κ*(B*B)*κ=C*(B*B):=by
   have:=Rat.div_mul_cancel (a:=C) (show κ≠0 by intro hc;rw[hc]at hκ;exact Rat.lt_irrefl hκ)
   grind
  rw[e2,e]
  have h5:κ*(y (t0+j)*y (t0+j))<=Vt c n y t0:=h3
  grind
variable {j k n:Nat}
def Ce(c:Nat->Rat)(n:Nat):Prop:=∀ε:Rat,0<ε->∀T:Nat,∃L,T<=L/\∀(y:Nat->Rat) (B:Rat),(∀j,j<n->zgb (y j)<=B)->(∀t,t<L->Tn c n y t=0)->∀j,j<n->zgb (y (L+j))<=ε*B
def RX(c:Nat->Rat)(n:Nat)(s:Nat->Rat)(j:Nat):Rat:=if j+1=n then -(sR (fun i=>c i*s i) n)/c n else s (j+1)
def Bt(c:Nat->Rat)(n:Nat)(y:Nat->Rat):Nat->Nat->Rat
 |0=>y
 |t+1=>RX c n (Bt c n y t)
def Bu(c:Nat->Rat)(n:Nat)(y:Nat->Rat)(t:Nat):Rat:=Bt c n y t 0
def Vx{c y:Nat->Rat}{n:Nat}:∀{j t:Nat},j<n->Bt c n y t j=Bu c n y (t+j)
 |0,t,_=>rfl
 |j+1,t,h=>by
  have ih:=Vx (c:=c) (y:=y) (n:=n) (j:=j) (t:=t+1) (by omega)
  have e:Bt c n y (t+1) j=Bt c n y t (j+1):=by
   show RX c n (Bt c n y t) j=_
   unfold RX
   rw[aA (by omega)]
  rw[<-e,ih,show t+1+j=t+(j+1) by omega]
def Yff{c y:Nat->Rat}(h:j<n):Bu c n y j=y j:=by have:=Vx (c:=c) (y:=y) (n:=n) (j:=j) (t:=0) h;rw[oJ]at this;exact this.symm
def Yoa{c y:Nat->Rat}{t:Nat}(hn:1<=n)(h0:c n≠0):Tn c n (Bu c n y) t=0:=by
 obtain⟨k,rfl⟩:∃k,n=k+1:=⟨n-1,by omega⟩;have e:=Vx (c:=c) (y:=y) (n:=k+1) (j:=k) (t:=t+1) (by omega);have e2:Bt c (k+1) y (t+1) k= -(sR (fun i=>c i*Bt c (k+1) y t i) (k+1))/c (k+1):=by show RX c (k+1) (Bt c (k+1) y t) k=_;unfold RX;rw[aR rfl]
 have e3:sR (fun i=>c i*Bt c (k+1) y t i) (k+1)=sR (fun j=>c j*Bu c (k+1) y (t+j)) (k+1):=il fun i hi=>by rw[Vx hi]
 rw[e2,e3,show t+1+k=t+(k+1) by omega]at e;unfold Tn;rw[tj,<-e];have:=Rat.div_mul_cancel (a:= -(sR (fun j=>c j*Bu c (k+1) y (t+j)) (k+1))) h0;grind
def small{x Q:Rat}(hQ:0<=Q)(h:∀ε:Rat,0<ε->ε<=1->x<=Q*ε):x<=0:=by
 apply Rat.not_lt.1;intro hx;have F:0<x+Q+1:=by grind
 have e:=Rat.div_mul_cancel (a:=x) (b:=x+Q+1) (by intro hc;rw[hc]at F;exact Rat.lt_irrefl F);have p:0<x/(x+Q+1):=by apply Rat.not_le.1;intro hc;have:=Rat.mul_nonneg (show (0:Rat)<= -(x/(x+Q+1)) by grind) (Rat.le_of_lt F);grind
 have l:x/(x+Q+1)<=1:=by refine Dv F ?_;rw[e];grind
 have k:=iK (Rat.le_of_lt F) (h _ p l);clear h;generalize x/(x+Q+1)=d at*;have h1:=Rat.mul_pos hx hx;have e3:Q*d*(x+Q+1)=Q*x:=by rw[Rat.mul_assoc,e]
 rw[e3]at k;grind
def KQ(y:Nat->Rat)(n:Nat):Rat:=sR (fun j=>zgb (y j)) n
def Yl0{y:Nat->Rat}(h:j<n):zgb (y j)<=KQ y n:=Vw (f:=fun j=>zgb (y j)) (fun _ _=>Zb2) h
def cp{c:Nat->Rat}(hn:1<=n)(h0:c n≠0)(h:Ce c n):PD c n:=by
 intro y ⟨j0,A9,tK⟩;apply Rat.not_le.1;intro hV;have eV:VF c n y=Vt c n (Bu c n y) 0:=Zyn (fun _ _=>rfl) fun j hj=>by rw[oJ,Yff hj]
 have tH:∀t,Tn c n (Bu c n y) t=0:=fun t=>Yoa hn h0;have xR:∀j,j<n->zgb (Bu c n y j)<=KQ y n:=fun j hj=>by rw[Yff hj];exact Yl0 hj
 have cv:Bu c n y j0≠0:=by rw[Yff A9];exact tK
 rw[eV]at hV;generalize Bu c n y=Y at*;generalize KQ y n=B at*;have B0:0<=B:=Rat.le_trans Zb2 (xR j0 A9);have bz:∀s,Tn (rv c n) n Y s=0:=fun s=>by
  apply Classical.byContradiction;intro hc;have hp:=S3 hc;have:Tn (rv c n) n Y s*Tn (rv c n) n Y s<=0:=by
   refine small (Q:=NO c n*(B*B)) (Rat.mul_nonneg S5.2 lW) fun ε he JY=>?_;obtain⟨L,hL,hc⟩:=h ε he (s+1);have hs:=hc Y B xR (fun t _=>tH t);have r:=RW (c:=c) (y:=Y) (n:=n) (t:=0) (m:=L);rw[oJ]at r;have u0:sU c n Y 0 L<=(L:Rat)*0:=Vv fun s _=>by rw[tH];show (0:Rat)*0<=0;grind
   have one:=Vw (f:=fun s=>Tn (rv c n) n Y (0+s)*Tn (rv c n) n Y (0+s)) (m:=L) (i:=s) (fun k _=>lW) (by omega);have zfo:Tn (rv c n) n Y (0+s)*Tn (rv c n) n Y (0+s)<=sU (rv c n) n Y 0 L:=one;rw[oJ]at zfo;have eB:=Rat.mul_nonneg (Rat.le_of_lt he) B0;have v: -Vt c n Y L<=NO c n*(ε*B*(ε*B)):=(Ypa (c:=c) (y:=fun j=>Y (L+j)) fun j hj=>Ygk (hs j hj)).2;have w1:=iK (Rat.le_of_lt he) JY;have w2:=iK (Rat.mul_nonneg (@S5 c n).2 (@lW B)) w1;grind
  grind
 refine cv ?_;have az:zgb (Y j0)<=0:=by
  refine small (Q:=B) B0 fun ε he JY=>?_;obtain⟨L,hL,hc⟩:=h ε he 0;have hs:=hc Y B xR (fun t _=>tH t);have back:=hc (fun s=>Y (L+(n-1)-s)) (ε*B) (fun j hj=>by
   show zgb (Y (L+(n-1)-j))<=_
   rw[show L+(n-1)-j=L+(n-1-j) by omega]
   exact hs _ (by omega)) (fun t ht=>by
   have e:=bz (L-1-t)
   unfold Tn at e ⊢
   rw[<-R9]at e
   rw[<-e]
   refine il fun j hj=>?_
   unfold rv
   show c j*Y (L+(n-1)-(t+j))=c (n-(n+1-1-j))*Y (L-1-t+(n+1-1-j))
   rw[show n-(n+1-1-j)=j by omega,show L+(n-1)-(t+j)=L-1-t+(n+1-1-j) by omega]) (n-1-j0) (by omega);have b':zgb (Y (L+(n-1)-(L+(n-1-j0))))<=ε*(ε*B):=back;rw[show L+(n-1)-(L+(n-1-j0))=j0 by omega]at b';have w1:=iK (Rat.le_of_lt he) JY;have w2:=iK B0 w1;grind
 unfold zgb at az;split at az<;>grind
def Yj7{r:Rat}(h:0<1-r*r):zgb r<1:=by
 apply Rat.not_le.1;intro hc;have e:zgb r*zgb r=r*r:=by unfold zgb;split<;>grind
 have h1:=iK (@Zb2 r) hc;grind
def dlt(k j:Nat):Rat:=if j=k then 1 else 0
def Vy(h:j≠k):dlt k j=0:=aA h
def Yoh:dlt k k=1:=aR rfl
def Ymm{c:Nat->Rat}(h0:c (k+1)≠0):qF c (k+1) k=c (k+1)*(1-c 0/c (k+1)*(c 0/c (k+1))):=by unfold qF;rw[show k+1-1-k=0 by omega];have:=Rat.div_mul_cancel (a:=c 0) h0;grind
def ps:∀{n:Nat} {c:Nat->Rat},c n≠0->PD c n->SF n c
 |0,_,h0,_=>h0
 |k+1,c,h0,hP=>by
  have hr:0<1-c 0/c (k+1)*(c 0/c (k+1)):=by
   have h1:=hP (dlt k) ⟨k,by omega,by rw[Yoh];decide⟩
   have e:VF c (k+1) (dlt k)=c (k+1)*c (k+1)-c 0*c 0:=by
    unfold VF
    rw[tj]
    have z:sR (fun m=>aF c (k+1) (dlt k) m*aF c (k+1) (dlt k) m-bF c (dlt k) m*bF c (dlt k) m) k=sR (fun _=>0) k:=il fun m hm=>by
     have a0:aF c (k+1) (dlt k) m=sR (fun _=>0) (m+1):=il fun j hj=>by
      rw[Vy (by omega)]
      grind
     have b0:bF c (dlt k) m=sR (fun _=>0) (m+1):=il fun j hj=>by
      rw[Vy (by omega)]
      grind
     rw[a0,b0,Lp]
     grind
    have a1:aF c (k+1) (dlt k) k=c (k+1):=by
     unfold aF
     rw[tj,il (g:=fun _=>0) (n:=k) (fun j hj=>by rw[Vy (by omega)];grind),Lp,Yoh,show k+1-k+k=k+1 by omega]
     grind
    have b1:bF c (dlt k) k=c 0:=by
     unfold bF
     rw[tj,il (g:=fun _=>0) (n:=k) (fun j hj=>by rw[Vy (by omega)];grind),Lp,Yoh,Nat.sub_self]
     grind
    rw[z,a1,b1,Lp]
    grind
   rw[e]at h1
   have hd:=Rat.div_mul_cancel (a:=c 0) h0
   generalize c 0/c (k+1)=r at*
   have hp:=S3 h0
   have e2:c (k+1)*c (k+1)-c 0*c 0=(1-r*r)*(c (k+1)*c (k+1)):=by rw[<-hd];grind
   rw[e2]at h1
   apply Rat.not_le.1
   intro hc
   have:=iK (Rat.le_of_lt hp) hc
   grind
  refine⟨h0,Yj7 hr,?_⟩
  have hq:qF c (k+1) k≠0:=by
   rw[Ymm h0]
   intro hc
   rcases Rat.mul_eq_zero.1 hc with h'|h'
   ·exact h0 h'
   ·rw[h']at hr
    exact Rat.lt_irrefl hr
  refine ps hq fun y ⟨j,hj,hy⟩=>?_
  obtain⟨y',rO⟩:∃y':Nat->Rat,y'=fun j=>if j=k then -(sR (fun i=>qF c (k+1) i*y i) k)/qF c (k+1) k else y j:=⟨_,rfl⟩
  have g1:∀i,i<k->y' i=y i:=fun i hi=>by rw[rO];exact aA (by omega)
  have g2:y' k*qF c (k+1) k= -(sR (fun i=>qF c (k+1) i*y i) k):=by
   rw[rO]
   show (if k=k then _ else _)*_=_
   rw[aR rfl]
   exact Rat.div_mul_cancel hq
  have z:sR (fun j=>qF c (k+1) j*y' j) (k+1)=0:=by
   rw[tj,il (g:=fun i=>qF c (k+1) i*y i) fun i hi=>by rw[g1 i hi]]
   grind
  have NN:=Zym (y:=y') h0
  have hp:=hP y' ⟨j,by omega,by rw[g1 j hj];exact hy⟩
  rw[z,Zyn (c':=qF c (k+1)) (y':=y) (n:=k) (fun _ _=>rfl) g1]at NN
  have:=Rat.mul_pos hr hp
  grind
def rw(p:List Rat)(i m k:Nat):Rat:=pg (Ytx p i m) k
def sA(c:Nat->Rat)(n:Nat):Rat:=sR (fun j=>zgb (c j)) (n+1)
def Yr9{c:Nat->Rat}{n:Nat}:0<=sA c n:=Dt fun _ _=>Zb2
def grow{d:Nat->Rat}{n:Nat}(h0:d n≠0):∀M:Nat,∃G,0<=G/\∀(y:Nat->Rat) (N:Nat) (B:Rat),(∀j,j<n->zgb (y j)<=B)->(∀t,t<N->zgb (Tn d n y t)<=B)->∀t,t<N+n->t<M+n->zgb (y t)<=G*B
 |0=>⟨1,by decide,fun y N B hi hu t _ ht=>by
  have:=hi t (by omega)
  grind⟩
 |M+1=>by
  obtain⟨G,g0,hG⟩:=grow h0 M
  have ad:=@Zb2 (1/d n)
  have a0:=@Yr9 d n
  have aG:=Rat.mul_nonneg a0 g0
  have g1:=Rat.mul_nonneg (show (0:Rat)<=1+sA d n*G by grind) ad
  refine⟨G+(1+sA d n*G)*zgb (1/d n),by grind,fun y N B hi hu t h1 h2=>?_⟩
  have B0:0<=B:=by
   by_cases e:0<n
   ·exact Rat.le_trans Zb2 (hi 0 e)
   ·exact Rat.le_trans Zb2 (hu 0 (by omega))
  have gB:=Rat.mul_nonneg g0 B0
  have g1B:=Rat.mul_nonneg g1 B0
  by_cases ct:t<M+n
  ·have:=hG y N B hi hu t h1 ct
   grind
  ·obtain rfl:t=M+n:=by omega
   have tn:Tn d n y M=sR (fun j=>d j*y (M+j)) n+d n*y (M+n):=rfl
   have ab:zgb (sR (fun j=>d j*y (M+j)) n)<=sR (fun j=>zgb (d j)) n*(G*B):=Ygl (d:=d) (y:=fun j=>y (M+j)) fun j hj=>hG y N B hi hu (M+j) (by omega) (by omega)
   have sl:sA d n=sR (fun j=>zgb (d j)) n+zgb (d n):=rfl
   have an:=@Zb2 (d n)
   have s1:=iK gB (show sR (fun j=>zgb (d j)) n<=sA d n by grind)
   have uM:=hu M (by omega)
   have ey:y (M+n)=(Tn d n y M+ -1*sR (fun j=>d j*y (M+j)) n)*(1/d n):=by
    have:=Rat.div_mul_cancel (a:=1) h0
    rw[tn]
    generalize 1/d n=i at*
    have e:(sR (fun j=>d j*y (M+j)) n+d n*y (M+n)+ -1*sR (fun j=>d j*y (M+j)) n)*i=y (M+n)*(i*d n):=by grind
    rw[e,this]
    grind
   have t1:=@Zrh (Tn d n y M) (-1*sR (fun j=>d j*y (M+j)) n)
   rw[BJ,show zgb (-1)=1 from rfl]at t1
   have t2:=iK ad (show zgb (Tn d n y M+ -1*sR (fun j=>d j*y (M+j)) n)<=B+sA d n*(G*B) by grind)
   rw[ey,BJ]
   grind
def scF(p:List Rat)(x:Rat)(k:Nat):Rat:=pg p k*pwR x k
structure RM (p:List Rat) (d:Nat) (sq:Rat):Prop where
 l:p.length=d+1
 z:pg p d≠0
 h:∀x:Rat,0<x->(Dd (scF p x) d↔sq<x*x)
def Dy(p:List Rat)(d X:Nat):Prop:=∀k,∃z:Int,pg p k*((64^d:Nat):Rat)=(z:Rat)/\z.natAbs<=X*64^d
def f64(n:Int):Rat:=Rat.divInt n 64
structure RtI (p:List Rat) (i j:Nat) (rs:List Int) (sq:Rat):Prop where
 rm:RM p (i+2*j) sq
 dy:Dy p (i+2*j) (3^i*13^j)
 s0:0<=sq
 s8:sq<=8
 sb:Qb 40 sq
 ev:∀n∈rs.take i,Ytf p (f64 n)=0
structure RtT (p:List Rat) (i j:Nat) (rs:List Int) (sq:Rat):Prop where
 R:RtI p i j rs sq
 i3:i<=3
 j2:j<=2
 l1:1<=i+2*j
 ei:i=rs.length
 b:∀n∈rs,n.natAbs<=128
end Go.Mx
