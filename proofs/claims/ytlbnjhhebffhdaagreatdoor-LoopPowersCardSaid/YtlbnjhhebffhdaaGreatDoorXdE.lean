/-What has bounded sequences for bounded i-/
import Derived.Test.YtlbnjhhebffhdaaGreatDoorXbH
set_option linter.all false
namespace Go.Mx
open Go Go.Proofs
variable {j k n:Nat}
set_option maxRecDepth 1000000
def Ce(c:Nat->Rat)(n:Nat):Prop:=∀ε:Rat,0<ε->∀T:Nat,∃L,T<=L/\∀(y:Nat->Rat) (B:Rat),(∀j,j<n->zgb (y j)<=B)->(∀t,t<L->Tn c n y t=0)->∀j,j<n->zgb (y (L+j))<=ε*B
def Xfy{Q ε:Rat}(h:0<ε):∃m:Nat,Q<=(m:Rat)*ε:=by
 refine⟨(Q/ε).num.natAbs,?_⟩
 have h1:=@Xb8 (Q/ε)
 have h2:=(@Xb0 (Q/ε)).2
 have h3:=iK (@Zb2 (Q/ε)) h2
 have h4:=(@Nw (Q/ε)).1
 have h5:Q/ε<=(((Q/ε).num.natAbs:Nat):Rat):=by
  rw[<-h1]
  grind
 have h6:=iK (Rat.le_of_lt h) h5
 rw[Rat.div_mul_cancel (by intro hc;rw[hc]at h;exact Rat.lt_irrefl h)]at h6
 exact h6
def Xfm{c y:Nat->Rat}{s:Nat}:Tn c n (fun t=>(t:Rat)*y t) s=(s:Rat)*Tn c n y s+sR (fun j=>c j*(j:Rat)*y (s+j)) (n+1):=by
 unfold Tn
 rw[<-yZ,<-Ycj]
 refine il fun j _=>?_
 show c j*(((s+j:Nat):Rat)*y (s+j))=_
 rw[Rat.natCast_add]
 grind
def dc{c:Nat->Rat}(h:Dd c n)(hn:1<=n):Ce c n:=by
 obtain⟨K,hK,hD⟩:=h
 intro ε hε T
 obtain⟨A,hA⟩:∃A,sR (fun j=>zgb (c j*(j:Rat))) (n+1)=A:=⟨_,rfl⟩
 have A0:0<=A:=by rw[<-hA];exact Dt fun _ _=>Zb2
 obtain⟨m,hm⟩:=Xfy (Q:=K*((n:Rat)+A*K)) hε
 refine⟨T+1+m,by omega,fun y B hi hu j hj=>?_⟩
 have B0:0<=B:=Rat.le_trans Zb2 (hi 0 (by omega))
 have b1:=hD y (T+1+m) B hi (fun t ht=>by rw[hu t ht];exact B0)
 have KB:=Rat.mul_nonneg hK B0
 have nn:=S4 (k:=n)
 have n1:(1:Rat)<=(n:Rat):=by
  have:((1:Nat):Rat)<=(n:Rat):=Rat.natCast_le_natCast.2 hn
  exact this
 have AK:=Rat.mul_nonneg A0 KB
 have nB:=Rat.mul_nonneg nn B0
 have b2:=hD (fun t=>(t:Rat)*y t) (T+1+m) (((n:Rat)+A*K)*B) (fun j hj=>by
  rw[BJ,Xdr]
  have h1:(j:Rat)<=(n:Rat):=Rat.natCast_le_natCast.2 (by omega)
  have h2:=iK (@Zb2 (y j)) h1
  have h3:=iK nn (hi j hj)
  grind) (fun t ht=>by
  rw[Xfm,hu t ht]
  have h1:=Ygl (d:=fun j=>c j*(j:Rat)) (y:=fun j=>y (t+j)) (B:=K*B) (m:=n+1) fun j hj=>b1 (t+j) (by omega)
  have e:(t:Rat)*0+sR (fun j=>c j*(j:Rat)*y (t+j)) (n+1)=sR (fun j=>c j*(j:Rat)*y (t+j)) (n+1):=by grind
  rw[e]
  rw[hA]at h1
  grind)
 have h:=b2 (T+1+m+j) (by omega)
 have h':zgb (((T+1+m+j:Nat):Rat)*y (T+1+m+j))<=K*(((n:Rat)+A*K)*B):=h
 rw[BJ,Xdr]at h'
 obtain⟨τ,hτ⟩:∃τ:Rat,((T+1+m+j:Nat):Rat)=τ:=⟨_,rfl⟩
 have t1:(1:Rat)<=τ:=by
  have:((1:Nat):Rat)<=((T+1+m+j:Nat):Rat):=Rat.natCast_le_natCast.2 (by omega)
  rw[hτ]at this
  exact this
 have t2:(m:Rat)<=τ:=by rw[<-hτ];exact Rat.natCast_le_natCast.2 (by omega)
 rw[hτ]at h'
 have h1:=iK B0 hm
 have h2:=iK (Rat.mul_nonneg (Rat.le_of_lt hε) B0) t2
 refine Dv (F:=τ) (by grind) ?_
 grind
def RX(c:Nat->Rat)(n:Nat)(s:Nat->Rat)(j:Nat):Rat:=if j+1=n then -(sR (fun i=>c i*s i) n)/c n else s (j+1)
def Bt(c:Nat->Rat)(n:Nat)(y:Nat->Rat):Nat->Nat->Rat
 |0=>y
 |t+1=>RX c n (Bt c n y t)
def Bu(c:Nat->Rat)(n:Nat)(y:Nat->Rat)(t:Nat):Rat:=Bt c n y t 0
def Vx{c y:Nat->Rat}{n:Nat}:∀{j t:Nat},j<n->Bt c n y t j=Bu c n y (t+j)
 |0,t,_=>rfl
 |j+1,t,h=>by
  have ih:=Vx (c:=c) (y:=y) (n:=n) (j:=j) (t:=t+1) (by omega)
  have e:Bt c n y (t+1) j=Bt c n y t (j+1):=by
   show RX c n (Bt c n y t) j=_
   unfold RX
   rw[aA (by omega)]
  rw[<-e,ih,show t+1+j=t+(j+1) by omega]
def Yff{c y:Nat->Rat}(h:j<n):Bu c n y j=y j:=by
 have:=Vx (c:=c) (y:=y) (n:=n) (j:=j) (t:=0) h
 rw[oJ]at this
 exact this.symm
def Yoa{c y:Nat->Rat}{t:Nat}(hn:1<=n)(h0:c n≠0):Tn c n (Bu c n y) t=0:=by
 obtain⟨k,rfl⟩:∃k,n=k+1:=⟨n-1,by omega⟩
 have e:=Vx (c:=c) (y:=y) (n:=k+1) (j:=k) (t:=t+1) (by omega)
 have e2:Bt c (k+1) y (t+1) k= -(sR (fun i=>c i*Bt c (k+1) y t i) (k+1))/c (k+1):=by
  show RX c (k+1) (Bt c (k+1) y t) k=_
  unfold RX
  rw[aR rfl]
 have e3:sR (fun i=>c i*Bt c (k+1) y t i) (k+1)=sR (fun j=>c j*Bu c (k+1) y (t+j)) (k+1):=il fun i hi=>by rw[Vx hi]
 rw[e2,e3,show t+1+k=t+(k+1) by omega]at e
 unfold Tn
 rw[tj,<-e]
 have:=Rat.div_mul_cancel (a:= -(sR (fun j=>c j*Bu c (k+1) y (t+j)) (k+1))) h0
 grind
def small{x Q:Rat}(hQ:0<=Q)(h:∀ε:Rat,0<ε->ε<=1->x<=Q*ε):x<=0:=by
 apply Rat.not_lt.1
 intro hx
 have F:0<x+Q+1:=by grind
 have e:=Rat.div_mul_cancel (a:=x) (b:=x+Q+1) (by intro hc;rw[hc]at F;exact Rat.lt_irrefl F)
 have p:0<x/(x+Q+1):=by
  apply Rat.not_le.1
  intro hc
  have:=Rat.mul_nonneg (show (0:Rat)<= -(x/(x+Q+1)) by grind) (Rat.le_of_lt F)
  grind
 have l:x/(x+Q+1)<=1:=by
  refine Dv F ?_
  rw[e]
  grind
 have k:=iK (Rat.le_of_lt F) (h _ p l)
 clear h
 generalize x/(x+Q+1)=d at*
 have h1:=Rat.mul_pos hx hx
 have e3:Q*d*(x+Q+1)=Q*x:=by rw[Rat.mul_assoc,e]
 rw[e3]at k
 grind
def KQ(y:Nat->Rat)(n:Nat):Rat:=sR (fun j=>zgb (y j)) n
def Yl0{y:Nat->Rat}(h:j<n):zgb (y j)<=KQ y n:=Vw (f:=fun j=>zgb (y j)) (fun _ _=>Zb2) h
def cp{c:Nat->Rat}(hn:1<=n)(h0:c n≠0)(h:Ce c n):PD c n:=by
 intro y ⟨j0,A9,tK⟩
 apply Rat.not_le.1
 intro hV
 have eV:VF c n y=Vt c n (Bu c n y) 0:=Zyn (fun _ _=>rfl) fun j hj=>by rw[oJ,Yff hj]
 have tH:∀t,Tn c n (Bu c n y) t=0:=fun t=>Yoa hn h0
 have xR:∀j,j<n->zgb (Bu c n y j)<=KQ y n:=fun j hj=>by rw[Yff hj];exact Yl0 hj
 have cv:Bu c n y j0≠0:=by rw[Yff A9];exact tK
 rw[eV]at hV
 generalize Bu c n y=Y at*
 generalize KQ y n=B at*
 have B0:0<=B:=Rat.le_trans Zb2 (xR j0 A9)
 have bz:∀s,Tn (rv c n) n Y s=0:=fun s=>by
  apply Classical.byContradiction
  intro hc
  have hp:=S3 hc
  have:Tn (rv c n) n Y s*Tn (rv c n) n Y s<=0:=by
   refine small (Q:=NO c n*(B*B)) (Rat.mul_nonneg S5.2 lW) fun ε he JY=>?_
   obtain⟨L,hL,hc⟩:=h ε he (s+1)
   have hs:=hc Y B xR (fun t _=>tH t)
   have r:=RW (c:=c) (y:=Y) (n:=n) (t:=0) (m:=L)
   rw[oJ]at r
   have u0:sU c n Y 0 L<=(L:Rat)*0:=Vv fun s _=>by
    rw[tH]
    show (0:Rat)*0<=0
    grind
   have one:=Vw (f:=fun s=>Tn (rv c n) n Y (0+s)*Tn (rv c n) n Y (0+s)) (m:=L) (i:=s) (fun k _=>lW) (by omega)
   have zfo:Tn (rv c n) n Y (0+s)*Tn (rv c n) n Y (0+s)<=sU (rv c n) n Y 0 L:=one
   rw[oJ]at zfo
   have eB:=Rat.mul_nonneg (Rat.le_of_lt he) B0
   have v: -Vt c n Y L<=NO c n*(ε*B*(ε*B)):=(Ypa (c:=c) (y:=fun j=>Y (L+j)) fun j hj=>Ygk (hs j hj)).2
   have w1:=iK (Rat.le_of_lt he) JY
   have w2:=iK (Rat.mul_nonneg (@S5 c n).2 (@lW B)) w1
   grind
  grind
 refine cv ?_
 have az:zgb (Y j0)<=0:=by
  refine small (Q:=B) B0 fun ε he JY=>?_
  obtain⟨L,hL,hc⟩:=h ε he 0
  have hs:=hc Y B xR (fun t _=>tH t)
  have back:=hc (fun s=>Y (L+(n-1)-s)) (ε*B) (fun j hj=>by
   show zgb (Y (L+(n-1)-j))<=_
   rw[show L+(n-1)-j=L+(n-1-j) by omega]
   exact hs _ (by omega)) (fun t ht=>by
   have e:=bz (L-1-t)
   unfold Tn at e ⊢
   rw[<-R9]at e
   rw[<-e]
   refine il fun j hj=>?_
   unfold rv
   show c j*Y (L+(n-1)-(t+j))=c (n-(n+1-1-j))*Y (L-1-t+(n+1-1-j))
   rw[show n-(n+1-1-j)=j by omega,show L+(n-1)-(t+j)=L-1-t+(n+1-1-j) by omega]) (n-1-j0) (by omega)
  have b':zgb (Y (L+(n-1)-(L+(n-1-j0))))<=ε*(ε*B):=back
  rw[show L+(n-1)-(L+(n-1-j0))=j0 by omega]at b'
  have w1:=iK (Rat.le_of_lt he) JY
  have w2:=iK B0 w1
  grind
 unfold zgb at az
 split at az<;>grind
def Yj7{r:Rat}(h:0<1-r*r):zgb r<1:=by
 apply Rat.not_le.1
 intro hc
 have e:zgb r*zgb r=r*r:=by unfold zgb;split<;>grind
 have h1:=iK (@Zb2 r) hc
 grind
def dlt(k j:Nat):Rat:=if j=k then 1 else 0
def Vy(h:j≠k):dlt k j=0:=aA h
def Yoh:dlt k k=1:=aR rfl
def Ymm{c:Nat->Rat}(h0:c (k+1)≠0):qF c (k+1) k=c (k+1)*(1-c 0/c (k+1)*(c 0/c (k+1))):=by
 unfold qF
 rw[show k+1-1-k=0 by omega]
 have:=Rat.div_mul_cancel (a:=c 0) h0
 grind
def ps:∀{n:Nat} {c:Nat->Rat},c n≠0->PD c n->SF n c
 |0,_,h0,_=>h0
 |k+1,c,h0,hP=>by
  have hr:0<1-c 0/c (k+1)*(c 0/c (k+1)):=by
   have h1:=hP (dlt k) ⟨k,by omega,by rw[Yoh];decide⟩
   have e:VF c (k+1) (dlt k)=c (k+1)*c (k+1)-c 0*c 0:=by
    unfold VF
    rw[tj]
    have z:sR (fun m=>aF c (k+1) (dlt k) m*aF c (k+1) (dlt k) m-bF c (dlt k) m*bF c (dlt k) m) k=sR (fun _=>0) k:=il fun m hm=>by
     have a0:aF c (k+1) (dlt k) m=sR (fun _=>0) (m+1):=il fun j hj=>by
      rw[Vy (by omega)]
      grind
     have b0:bF c (dlt k) m=sR (fun _=>0) (m+1):=il fun j hj=>by
      rw[Vy (by omega)]
      grind
     rw[a0,b0,Lp]
     grind
    have a1:aF c (k+1) (dlt k) k=c (k+1):=by
     unfold aF
     rw[tj,il (g:=fun _=>0) (n:=k) (fun j hj=>by rw[Vy (by omega)];grind),Lp,Yoh,show k+1-k+k=k+1 by omega]
     grind
    have b1:bF c (dlt k) k=c 0:=by
     unfold bF
     rw[tj,il (g:=fun _=>0) (n:=k) (fun j hj=>by rw[Vy (by omega)];grind),Lp,Yoh,Nat.sub_self]
     grind
    rw[z,a1,b1,Lp]
    grind
   rw[e]at h1
   have hd:=Rat.div_mul_cancel (a:=c 0) h0
   generalize c 0/c (k+1)=r at*
   have hp:=S3 h0
   have e2:c (k+1)*c (k+1)-c 0*c 0=(1-r*r)*(c (k+1)*c (k+1)):=by rw[<-hd];grind
   rw[e2]at h1
   apply Rat.not_le.1
   intro hc
   have:=iK (Rat.le_of_lt hp) hc
   grind
  refine⟨h0,Yj7 hr,?_⟩
  have hq:qF c (k+1) k≠0:=by
   rw[Ymm h0]
   intro hc
   rcases Rat.mul_eq_zero.1 hc with h'|h'
   ·exact h0 h'
   ·rw[h']at hr
    exact Rat.lt_irrefl hr
  refine ps hq fun y ⟨j,hj,hy⟩=>?_
  obtain⟨y',rO⟩:∃y':Nat->Rat,y'=fun j=>if j=k then -(sR (fun i=>qF c (k+1) i*y i) k)/qF c (k+1) k else y j:=⟨_,rfl⟩
  have g1:∀i,i<k->y' i=y i:=fun i hi=>by rw[rO];exact aA (by omega)
  have g2:y' k*qF c (k+1) k= -(sR (fun i=>qF c (k+1) i*y i) k):=by
   rw[rO]
   show (if k=k then _ else _)*_=_
   rw[aR rfl]
   exact Rat.div_mul_cancel hq
  have z:sR (fun j=>qF c (k+1) j*y' j) (k+1)=0:=by
   rw[tj,il (g:=fun i=>qF c (k+1) i*y i) fun i hi=>by rw[g1 i hi]]
   grind
  have NN:=Zym (y:=y') h0
  have hp:=hP y' ⟨j,by omega,by rw[g1 j hj];exact hy⟩
  rw[z,Zyn (c':=qF c (k+1)) (y':=y) (n:=k) (fun _ _=>rfl) g1]at NN
  have:=Rat.mul_pos hr hp
  grind
def dds{c:Nat->Rat}{n:Nat}(h0:c n≠0)(h:Dd c n):SF n c:=by
 cases n with
 |zero=>exact h0
 |succ k=>exact ps h0 (cp (by omega) h0 (dc h (by omega)))
variable {n:Nat} {x:Rat}
def Xei:∀{n:Nat} {c c':Nat->Rat},(∀j,j<=n->c j=c' j)->SF n c->SF n c'
 |0,c,c',h,hs=>by
  have gg:c 0≠0:=hs
  show c' 0≠0
  rw[<-h 0 (Yv5 _)]
  exact gg
 |n+1,c,c',h,hs=>by
  obtain⟨h0,hr,hq⟩:=hs
  refine⟨?_,?_,Xei (fun j hj=>?_) hq⟩
  ·rw[<-h _ (Yv5 _)]
   exact h0
  ·rw[<-h _ (Yv5 _),<-h 0 (by omega)]
   exact hr
  ·unfold qF
   rw[h _ (Yv5 _),h 0 (by omega),h (j+1) (by omega),h (n+1-1-j) (by omega)]
def Xek:∀{n:Nat} {p:List Rat},p.length=n+1->pg p n≠0->(mW (n+1) p=true↔SF n (pg p))
 |0,p,hl,h0=>⟨fun _=>h0,fun _=>Ypz (by omega)⟩
 |n+1,p,hl,h0=>by
  have lq:(gh p).length=n+1:=by rw[BK,hl];rfl
  have er:Yz0 p=pg p 0/pg p (n+1):=by unfold Yz0;rw[hl,show n+1+1-1=n+1 by omega]
  have eq:∀j,j<=n->pg (gh p) j=qF (pg p) (n+1) j:=fun j hj=>by
   rw[La (by omega),er,hl,show n+1+1-1-1-j=n+1-1-j by omega]
   rfl
  have es:mW (n+1+1) p=if 1<=zgb (Yz0 p) then false else mW (n+1) (gh p):=by
   conv=>lhs;unfold mW
   rw[aA (by omega)]
  have step:zgb (pg p 0/pg p (n+1))<1->(mW (n+1) (gh p)=true↔SF n (qF (pg p) (n+1))):=fun hr=>by
   have hz:pg (gh p) n≠0:=by
    have:=Zsd (p:=p) (by omega) (by rw[hl];exact h0) (by rw[er];exact hr)
    rw[lq]at this
    exact this
   rw[Xek lq hz]
   exact⟨Xei eq,Xei fun j hj=>(eq j hj).symm⟩
  rw[es,er]
  constructor
  ·intro h
   by_cases c:1<=zgb (pg p 0/pg p (n+1))
   ·rw[aR c]at h
    exact absurd h (by decide)
   ·rw[aA c]at h
    have hr:=Rat.not_le.1 c
    exact⟨h0,hr,(step hr).1 h⟩
  ·rintro⟨_,hr,hs⟩
   rw[aA (Rat.not_le.2 hr)]
   exact(step hr).2 hs
def Xeh{p:List Rat}(h1:1<=p.length)(h0:pg p (p.length-1)≠0):mW p.length p=true↔Dd (pg p) (p.length-1):=by
 obtain⟨n,hn⟩:∃n,p.length=n+1:=⟨p.length-1,by omega⟩
 rw[hn,Nat.add_sub_cancel]at h0 ⊢
 rw[Xek hn h0]
 exact⟨sd,dds h0⟩
def Xeq{c c':Nat->Rat}(h:∀j,j<=n->c j=c' j)(hD:Dd c n):Dd c' n:=by
 obtain⟨K,hK,hD⟩:=hD
 refine⟨K,hK,fun y N B hi hu=>hD y N B hi fun t ht=>?_⟩
 have e:Tn c n y t=Tn c' n y t:=il fun j hj=>by rw[h j (by omega)]
 rw[e]
 exact hu t ht
def Xe4{x:Rat}{a:Nat}:∀{b:Nat},pwR x (a+b)=pwR x a*pwR x b
 |0=>by
  show pwR x a=pwR x a*1
  grind
 |b+1=>by
  have ih:=Xe4 (x:=x) (a:=a) (b:=b)
  show pwR x (a+b)*x=pwR x a*(pwR x b*x)
  rw[ih]
  grind
def Xe5{c:Nat->Rat}(hx:1<=x)(h:Dd c n):Dd (fun k=>c k*pwR x k) n:=by
 obtain⟨K,hK,hD⟩:=h
 refine⟨K+1,by grind,fun z N B hi hu t ht=>?_⟩
 have ax:∀k,zgb (pwR x k)=pwR x k:=fun k=>aA (by have:=Xam hx (k:=k);grind)
 by_cases ct:t<n
 ·have h1:=hi t ct
  have h2:=Rat.mul_nonneg hK (Rat.le_trans Zb2 h1)
  grind
 ·have B0:0<=B:=Rat.le_trans Zb2 (hu 0 (by omega))
  have pt:=Xam hx (k:=t)
  have b:=hD (fun t=>pwR x t*z t) (t+1-n) (pwR x t*B) (fun j hj=>by
   rw[BJ,ax]
   have h1:=iK (@Zb2 (z j)) (Xbw hx (m:=t) (k:=j) (by omega))
   have h2:=iK (Rat.le_of_lt pt) (hi j hj)
   grind) (fun s hs=>by
   have e:Tn c n (fun t=>pwR x t*z t) s=pwR x s*Tn (fun k=>c k*pwR x k) n z s:=by
    unfold Tn
    rw[<-yZ]
    refine il fun j _=>?_
    show c j*(pwR x (s+j)*z (s+j))=_
    rw[Xe4]
    grind
   rw[e,BJ,ax]
   have h1:=iK (Rat.le_of_lt (Xam hx (k:=s))) (hu s (by omega))
   have h2:=iK B0 (Xbw hx (m:=t) (k:=s) (by omega))
   grind) t (by omega)
  have b':zgb (pwR x t*z t)<=K*(pwR x t*B):=b
  rw[BJ,ax]at b'
  refine Dv pt ?_
  have h2:=Rat.mul_nonneg B0 (Rat.le_of_lt pt)
  grind
def Xez{p:List Rat}(h1:1<=p.length)(h0:pg p (p.length-1)≠0)(hx:1<=x)(h:mW p.length p=true):mW p.length (zih p x)=true:=by
 have hs:∀j,j<=p.length-1->pg (zih p x) j=pg p j*pwR x j:=fun j hj=>Xcu (by omega)
 have hz:pg (zih p x) ((zih p x).length-1)≠0:=by
  rw[Yz1,hs _ (Yv5 _)]
  intro hc
  have:=Xam hx (k:=p.length-1)
  rcases Rat.mul_eq_zero.1 hc with e|e
  ·exact h0 e
  ·rw[e]at this
   exact Rat.lt_irrefl this
 have key:=(Xeh (p:=zih p x) (by rw[Yz1];exact h1) hz).2
 rw[Yz1]at key
 exact key (Xeq (fun j hj=>(hs j hj).symm) (Xe5 hx ((Xeh h1 h0).1 h)))
def Xfx{ρ:Rat}(h0:0<=ρ)(h1:ρ<1):∀{m:Nat},0<=pwR ρ m/\pwR ρ m*(1+(m:Rat)*(1-ρ))<=1
 |0=>by
  refine⟨by show (0:Rat)<=1;decide,?_⟩
  show (1:Rat)*(1+((0:Nat):Rat)*(1-ρ))<=1
  rw[show ((0:Nat):Rat)=0 from rfl]
  grind
 |m+1=>by
  obtain⟨i1,i2⟩:=Xfx h0 h1 (m:=m)
  refine⟨Rat.mul_nonneg i1 h0,?_⟩
  show pwR ρ m*ρ*(1+((m+1:Nat):Rat)*(1-ρ))<=1
  rw[Rat.natCast_add,show ((1:Nat):Rat)=1 from rfl]
  have mm:=S4 (k:=m)
  generalize pwR ρ m=P at*
  generalize (m:Rat)=M at*
  have h2:=Rat.mul_nonneg i1 (@lW (1-ρ))
  have h3:=Rat.mul_nonneg mm h2
  grind
def Xfn{c y:Nat->Rat}{a t:Nat}:Tn c n (fun s=>y (a+s)) t=Tn c n y (a+t):=il fun j _=>by
 show c j*y (a+(t+j))=c j*y (a+t+j)
 rw[oZ]
def Xfw{c:Nat->Rat}{L:Nat}{ρ:Rat}(hL:1<=L)(hn:1<=n)(h0:0<=ρ)(h1:ρ<1)(hc:∀(y:Nat->Rat) (B:Rat),(∀j,j<n->zgb (y j)<=B)->(∀t,t<L->Tn c n y t=0)->∀j,j<n->zgb (y (L+j))<=ρ*B):Ce c n:=by
 intro ε hε T
 have it:∀m (y:Nat->Rat) (B:Rat),(∀j,j<n->zgb (y j)<=B)->(∀t,t<m*L->Tn c n y t=0)->∀j,j<n->zgb (y (m*L+j))<=pwR ρ m*B:=fun m=>by
  induction m with
  |zero=>
   intro y B hi _ j hj
   rw[Nat.zero_mul,oJ]
   show zgb (y j)<=1*B
   rw[Rat.one_mul]
   exact hi j hj
  |succ m ih=>
   intro y B hi hu j hj
   rw[ku,Nat.one_mul]at hu ⊢
   have h1:=ih y B hi fun t ht=>hu t (by omega)
   have h2:=hc (fun s=>y (m*L+s)) (pwR ρ m*B) h1 (fun t ht=>by rw[Xfn];exact hu _ (by omega)) j hj
   rw[oZ]
   show zgb (y (m*L+(L+j)))<=pwR ρ m*ρ*B
   have h3:zgb (y (m*L+(L+j)))<=ρ*(pwR ρ m*B):=h2
   grind
 have d:0<1-ρ:=by grind
 obtain⟨m,hm⟩:=Xfy (Q:=1) (Rat.mul_pos hε d)
 refine⟨(m+T)*L,?_,fun y B hi hu j hj=>?_⟩
 ·have:=jh (m+T) hL
  omega
 ·have B0:0<=B:=Rat.le_trans Zb2 (hi 0 (by omega))
  have r:=it (m+T) y B hi hu j hj
  obtain⟨b1,b2⟩:=Xfx h0 h1 (m:=m+T)
  have mt:(m:Rat)<=((m+T:Nat):Rat):=Rat.natCast_le_natCast.2 (by omega)
  have mm:=S4 (k:=m)
  generalize ((m+T:Nat):Rat)=M at*
  have e1:=iK (Rat.le_of_lt (Rat.mul_pos hε d)) mt
  have Mp:0<M*(1-ρ):=by
   apply Rat.not_le.1
   intro hc
   have:=iK (Rat.le_of_lt hε) hc
   grind
  have pe:pwR ρ (m+T)<=ε:=by
   refine Dv Mp ?_
   grind
  have:=iK B0 pe
  exact Rat.le_trans r this
variable {i m n:Nat}
def rw(p:List Rat)(i m k:Nat):Rat:=pg (Ytx p i m) k
def Xfp{p:List Rat}{k:Nat}(hk:k<12):rw p i 0 k=if k=i then 1 else 0:=by
 unfold rw pg Ytx unR
 rw[jT,NX hk]
 rfl
def Xfo{p:List Rat}{k:Nat}(hk:k<12):rw p i (m+1) k=nxQ p (Ytx p i m) k:=by
 show pg (nxR p (Ytx p i m)) k=_
 unfold pg nxR
 rw[jT,NX hk]
 rfl
def Xe2{p:List Rat}{n i:Nat}(hl:p.length=n+1)(hn:1<=n)(yU:n<=12)(h0:pg p n≠0)(hi:i<n):∀{m:Nat} {y:Nat->Rat},(∀t,t<m->Tn (pg p) n y t=0)->sR (fun k=>rw p i m k*y k) n=y (i+m)
 |0,y,_=>by
  have e:sR (fun k=>rw p i 0 k*y k) n=sR (fun k=>dlt i k*y k) n:=il fun k hk=>by
   rw[Xfp (by omega)]
   rfl
  have s:∀n,i<n->sR (fun k=>dlt i k*y k) n=y i:=fun n=>by
   induction n with
   |zero=>intro h;exact absurd h (by omega)
   |succ n ih=>
    intro h
    rw[tj]
    by_cases c:i=n
    ·subst c
     rw[il (g:=fun _=>0) (fun j hj=>by rw[Vy (by omega)];grind),Lp,Yoh]
     grind
    ·rw[ih (by omega),Vy (by omega)]
     grind
  rw[e,s n hi,mY]
 |m+1,y,h=>by
  obtain⟨k,rfl⟩:∃k,n=k+1:=⟨n-1,by omega⟩
  have ih:=Xe2 hl hn yU h0 hi (m:=m) (y:=fun s=>y (1+s)) fun t ht=>by rw[Xfn];exact h _ (by omega)
  have ih':sR (fun k=>rw p i m k*y (1+k)) (k+1)=y (1+(i+m)):=ih
  rw[show i+(m+1)=1+(i+m) by omega,<-ih']
  have h1:=h 0 (by omega)
  unfold Tn at h1
  rw[tj,oJ]at h1
  have e1:sR (fun j=>rw p i (m+1) j*y j) (k+1)=sR (fun j=>rw p i m k*(-pg p j/pg p (k+1))*y j+(if j=0 then 0 else rw p i m (j-1)*y j)) (k+1):=il fun j hj=>by
   rw[Xfo (by omega)]
   unfold nxQ
   rw[aR (by omega),show p.length-1=k+1 by omega,show p.length-2=k by omega]
   unfold rw
   split<;>grind
  rw[e1,Ycj,<-HW (f:=fun j=>if j=0 then 0 else rw p i m (j-1)*y j),aR rfl,tj (f:=fun k=>rw p i m k*y (1+k))]
  have e2:sR (fun j=>if j+1=0 then 0 else rw p i m (j+1-1)*y (j+1)) k=sR (fun j=>rw p i m j*y (1+j)) k:=il fun j _=>by
   rw[aA (by omega),Nat.add_sub_cancel,Nat.add_comm j 1]
  have e3:sR (fun j=>rw p i m k*(-pg p j/pg p (k+1))*y j) (k+1)=rw p i m k*(-1/pg p (k+1))*sR (fun j=>pg p j*y j) (k+1):=by
   rw[<-yZ]
   refine il fun j _=>?_
   rw[Rat.div_def,Rat.div_def]
   grind
  have e4:sR (fun j=>pg p j*y j) (k+1)= -(pg p (k+1)*y (k+1)):=by
   have:sR (fun j=>pg p j*y (0+j)) (k+1)=sR (fun j=>pg p j*y j) (k+1):=il fun j _=>by rw[oJ]
   rw[this]at h1
   grind
  have hd:=Rat.div_mul_cancel (a:= -1) h0
  rw[e2,e3,e4,Nat.add_comm 1 k]
  generalize -1/pg p (k+1)=d at*
  grind
def Xex{l:List Rat}:∀{k:Nat},abN l k=sR (fun j=>zgb (pg l j)) k
 |0=>rfl
 |k+1=>by
  have:=Xex (l:=l) (k:=k)
  show abN l k+zgb (pg l k)=_
  rw[this]
  rfl
def Xef{p:List Rat}:Xcl p m i=sR (fun k=>zgb (rw p i m k)) (p.length-1):=Xex
def Xej{p:List Rat}{n:Nat}:∀{i m:Nat},i<m->Xcl p n i<=zie p n m
 |i,m+1,h=>by
  unfold zie
  by_cases e:i=m
  ·subst e
   split<;>grind
  ·have:=Xej (p:=p) (n:=n) (i:=i) (m:=m) (by omega)
   split<;>grind
def Xev{p:List Rat}{n:Nat}{X:Rat}(hX:0<=X):∀{m:Nat},(∀i,i<m->Xcl p n i<=X)->zie p n m<=X
 |0,_=>hX
 |m+1,h=>by
  have h1:=Xev hX (m:=m) fun i hi=>h i (by omega)
  have h2:=h m (by omega)
  unfold zie
  split<;>grind
def Xep{p:List Rat}{n:Nat}:∀{m:Nat},0<=zie p n m
 |0=>Rat.le_refl
 |m+1=>by
  have h1:=Xep (p:=p) (n:=n) (m:=m)
  unfold zie
  split<;>grind
def Xeu{p:List Rat}(hl:p.length=n+1)(hn:1<=n)(yU:n<=12):zie p 0 n=1:=by
 have r:∀i,i<n->Xcl p 0 i=1:=fun i hi=>by
  rw[Xef,hl,Nat.add_sub_cancel]
  have e:sR (fun k=>zgb (rw p i 0 k)) n=sR (fun k=>dlt i k) n:=il fun k hk=>by
   rw[Xfp (by omega)]
   unfold dlt
   split<;>rfl
  have s:∀n,i<n->sR (fun k=>dlt i k) n=1:=fun n=>by
   induction n with
   |zero=>intro h;exact absurd h (by omega)
   |succ n ih=>
    intro h
    rw[tj]
    by_cases c:i=n
    ·subst c
     rw[il (g:=fun _=>0) (fun j hj=>by rw[Vy (by omega)]),Lp,Yoh]
     grind
    ·rw[ih (by omega),Vy (by omega)]
     grind
  rw[e,s n hi]
 have h1:=Xej (p:=p) (n:=0) (i:=0) (m:=n) (by omega)
 have h2:=Xev (p:=p) (n:=0) (X:=1) (by decide) (m:=n) fun i hi=>by rw[r i hi];exact Rat.le_refl
 rw[r 0 (by omega)]at h1
 grind
def Xe1{p:List Rat}(l1:2<=p.length)(l2:p.length<=13)(h0:pg p (p.length-1)≠0)(h:zie p m (p.length-1)<1):mW p.length p=true:=by
 obtain⟨n,hn⟩:∃n,p.length=n+1:=⟨p.length-1,by omega⟩
 rw[hn,Nat.add_sub_cancel]at h0 h
 rw[hn,Xek hn h0]
 have n1:1<=n:=by omega
 have m1:1<=m:=by
  apply Nat.one_le_iff_ne_zero.2
  rintro rfl
  rw[Xeu hn n1 (by omega)]at h
  exact Rat.lt_irrefl h
 refine ps h0 (cp n1 h0 (Xfw m1 n1 Xep h fun y B hi hu j hj=>?_))
 rw[Nat.add_comm,<-Xe2 hn n1 (by omega) h0 hj hu]
 have a:=Ygl (d:=rw p j m) (y:=y) hi
 have g:=Xej (p:=p) (n:=m) hj
 rw[Xef,hn,Nat.add_sub_cancel]at g
 have B0:0<=B:=Rat.le_trans Zb2 (hi 0 (by omega))
 exact Rat.le_trans a (iK B0 g)
def Xes{f:Nat->Nat->Rat}{m:Nat}:∀{n:Nat},sR (fun i=>sR (fun j=>f i j) m) n=sR (fun j=>sR (fun i=>f i j) n) m
 |0=>by
  show (0:Rat)=sR (fun _=>0) m
  rw[Lp]
  grind
 |n+1=>by
  have ih:=Xes (f:=f) (m:=m) (n:=n)
  rw[tj,ih,<-Ycj]
  rfl
def Xe3{p:List Rat}{n i a:Nat}(hl:p.length=n+1)(hn:1<=n)(yU:n<=12)(hi:i<n):∀{b k:Nat},k<n->rw p i (a+b) k=sR (fun j=>rw p i a j*rw p j b k) n
 |0,k,hk=>by
  have e:sR (fun j=>rw p i a j*rw p j 0 k) n=sR (fun j=>dlt k j*rw p i a j) n:=il fun j hj=>by
   rw[Xfp (by omega)]
   unfold dlt
   by_cases c:k=j
   ·rw[aR c,aR c.symm]
    grind
   ·rw[aA c,aA (Ne.symm c)]
    grind
  have s:∀n,k<n->sR (fun j=>dlt k j*rw p i a j) n=rw p i a k:=fun n=>by
   induction n with
   |zero=>intro h;exact absurd h (by omega)
   |succ n ih=>
    intro h
    rw[tj]
    by_cases c:k=n
    ·subst c
     rw[il (g:=fun _=>0) (fun j hj=>by rw[Vy (by omega)];grind),Lp,Yoh]
     grind
    ·rw[ih (by omega),Vy (by omega)]
     grind
  rw[e,s n hk,mY]
 |b+1,k,hk=>by
  have ih:=fun {k:Nat} (hk:k<n)=>Xe3 hl hn yU hi (a:=a) (b:=b) hk
  have e:rw p i (a+b+1) k=rw p i (a+b) (n-1)*(-pg p k/pg p n)+(if k=0 then 0 else rw p i (a+b) (k-1)):=by
   rw[Xfo (by omega)]
   unfold nxQ
   rw[aR (by omega),show p.length-1=n by omega,show p.length-2=n-1 by omega]
   rfl
  have e2:sR (fun j=>rw p i a j*rw p j (b+1) k) n=sR (fun j=>(-pg p k/pg p n)*(rw p i a j*rw p j b (n-1))+rw p i a j*(if k=0 then 0 else rw p j b (k-1))) n:=il fun j hj=>by
   rw[Xfo (by omega)]
   unfold nxQ
   rw[aR (by omega),show p.length-1=n by omega,show p.length-2=n-1 by omega]
   unfold rw
   grind
  rw[<-oZ,e,e2,Ycj,yZ,<-ih (by omega)]
  by_cases c:k=0
  ·rw[aR c,il (f:=fun j=>rw p i a j*(if k=0 then 0 else rw p j b (k-1))) (g:=fun _=>0) (fun j hj=>by rw[aR c];grind),Lp]
   grind
  ·rw[aA c,il (f:=fun j=>rw p i a j*(if k=0 then 0 else rw p j b (k-1))) (g:=fun j=>rw p i a j*rw p j b (k-1)) (fun j hj=>by rw[aA c]),<-ih (by omega)]
   grind
def Xfd{p:List Rat}{a b:Nat}(hl:p.length=n+1)(hn:1<=n)(yU:n<=12):zie p (a+b) n<=zie p a n*zie p b n:=by
 have an:=Xep (p:=p) (n:=a) (m:=n)
 have bn:=Xep (p:=p) (n:=b) (m:=n)
 refine Xev (Rat.mul_nonneg an bn) fun i hi=>?_
 rw[Xef,hl,Nat.add_sub_cancel]
 have e1:sR (fun k=>zgb (rw p i (a+b) k)) n<=sR (fun k=>sR (fun j=>zgb (rw p i a j)*zgb (rw p j b k)) n) n:=Lo fun k hk=>by
  rw[Xe3 hl hn yU hi hk]
  have t:∀m,zgb (sR (fun j=>rw p i a j*rw p j b k) m)<=sR (fun j=>zgb (rw p i a j)*zgb (rw p j b k)) m:=fun m=>by
   induction m with
   |zero=>exact Rat.le_refl
   |succ m ih=>
    rw[tj,tj]
    have:=@Zrh (sR (fun j=>rw p i a j*rw p j b k) m) (rw p i a m*rw p m b k)
    rw[BJ]at this
    grind
  exact t n
 rw[Xes]at e1
 have e2:sR (fun j=>sR (fun k=>zgb (rw p i a j)*zgb (rw p j b k)) n) n<=sR (fun j=>zie p b n*zgb (rw p i a j)) n:=Lo fun j hj=>by
  rw[yZ]
  have g:=Xej (p:=p) (n:=b) hj
  rw[Xef,hl,Nat.add_sub_cancel]at g
  have:=iK (@Zb2 (rw p i a j)) g
  grind
 rw[yZ]at e2
 have g:=Xej (p:=p) (n:=a) hi
 rw[Xef,hl,Nat.add_sub_cancel]at g
 have e3:=iK bn g
 grind
variable {x:Rat}
def Xew{j:Nat}:∀{l:List Rat},(∀q∈l,Qb j q)->∃D:Nat,0<D/\D<=2^(j*l.length)/\∀k,k<l.length->∃z:Int,(z:Rat)=pg l k*(D:Rat)/\z.natAbs<=2^(j*l.length)
 |[],_=>⟨1,by decide,vu (by decide),fun k hk=>absurd hk (by simp)⟩
 |q::l,h=>by
  obtain⟨D,d0,d1,hD⟩:=Xew (l:=l) fun x hx=>h x (oY _ hx)
  obtain⟨q1,q2⟩:=h q (oV ..)
  have e:2^(j*(q::l).length)=2^j*2^(j*l.length):=by
   rw[bC,Nat.mul_succ,Yw8,iz]
  have en:=(@Xb0 q).1
  rw[e]
  refine⟨q.den*D,xM q.den_pos d0,tU (Nat.le_of_lt q2) d1,fun k hk=>?_⟩
  cases k with
  |zero=>
   refine⟨q.num*(D:Int),?_,?_⟩
   ·show ((q.num*(D:Int):Int):Rat)=q*((q.den*D:Nat):Rat)
    rw[Rat.intCast_mul,Rat.natCast_mul,<-en]
    show q*(q.den:Rat)*(D:Rat)=_
    grind
   ·rw[wY,eA]
    exact tU (Nat.le_of_lt q1) d1
  |succ k=>
   obtain⟨z,z1,z2⟩:=hD k (by simpa using hk)
   refine⟨z*(q.den:Int),?_,?_⟩
   ·have e2:pg (q::l) (k+1)=pg l k:=by unfold pg;rw[Yx6]
    rw[e2,Rat.intCast_mul,z1,Rat.natCast_mul]
    show pg l k*(D:Rat)*(q.den:Rat)=_
    grind
   ·rw[wY,eA,iz]
    exact tU (Nat.le_of_lt q2) z2
def Xel{p:List Rat}{n M D i:Nat}{A:Nat->Int}(hl:p.length=n+1)(yU:n<=12)(hA:∀k,k<=n->((A k:Int):Rat)=pg p k*(D:Rat)/\(A k).natAbs<=M)(h0:pg p n≠0):∀{m k:Nat},k<n->∃R:Int,rw p i m k*((A n^m:Int):Rat)=(R:Rat)/\R.natAbs<=(2*M)^m
 |0,k,hk=>by
  rw[Xfp (by omega)]
  by_cases c:k=i
  ·exact⟨1,by rw[aR c,Int.pow_zero,Rat.one_mul],by rw[AF];decide⟩
  ·exact⟨0,by rw[aA c,Rat.zero_mul];rfl,by show 0<=_;omega⟩
 |m+1,k,hk=>by
  obtain⟨R1,e1,b1⟩:=Xel hl yU hA h0 (i:=i) (m:=m) (k:=n-1) (by omega)
  have hd:=Rat.div_mul_cancel (a:= -pg p k) h0
  obtain⟨a1,a2⟩:=hA k (by omega)
  obtain⟨n1,n2⟩:=hA n (Yv5 _)
  have e:rw p i (m+1) k=rw p i m (n-1)*(-pg p k/pg p n)+(if k=0 then 0 else rw p i m (k-1)):=by
   rw[Xfo (by omega)]
   unfold nxQ
   rw[aR (by omega),show p.length-1=n by omega,show p.length-2=n-1 by omega]
   rfl
  obtain⟨R2,e2,b2⟩:∃R:Int,(if k=0 then 0 else rw p i m (k-1))*((A n^m:Int):Rat)=(R:Rat)/\R.natAbs<=(2*M)^m:=by
   by_cases c:k=0
   ·exact⟨0,by rw[aR c,Rat.zero_mul];rfl,by show 0<=_;omega⟩
   ·obtain⟨R,e3,b3⟩:=Xel hl yU hA h0 (i:=i) (m:=m) (k:=k-1) (by omega)
    exact⟨R,by rw[aA c];exact e3,b3⟩
  refine⟨R1* -A k+A n*R2,?_,?_⟩
  ·rw[e,Int.pow_succ,Rat.intCast_mul,Rat.intCast_add,Rat.intCast_mul,Rat.intCast_mul,Rat.intCast_neg,<-e1,<-e2,a1,n1]
   generalize -pg p k/pg p n=d at*
   generalize ((A n^m:Int):Rat)=P at*
   generalize (if k=0 then 0 else rw p i m (k-1))=t at*
   have:d*(pg p n*(D:Rat))= -pg p k*(D:Rat):=by rw[<-hd];grind
   have e4:(rw p i m (n-1)*d+t)*(P*(pg p n*(D:Rat)))=rw p i m (n-1)*P*(d*(pg p n*(D:Rat)))+t*P*(pg p n*(D:Rat)):=by grind
   rw[e4,this]
   grind
  ·refine p9 (Int.natAbs_add_le _ _) ?_
   rw[wY,wY,AR]
   have t1:=tU b1 a2
   have t2:=tU n2 b2
   rw[fV]
   have e5:(2*M)^m*(2*M)=(2*M)^m*M+M*(2*M)^m:=by
    rw[iz M,<-rX]
    congr 1
    omega
   omega
def Xer{f:Nat->Rat}{B:Rat}{X:Nat}:∀{n:Nat},(∀k,k<n->∃R:Int,f k*B=(R:Rat)/\R.natAbs<=X)->∃Z:Nat,sR (fun k=>zgb (f k)) n*zgb B=(Z:Rat)/\Z<=n*X
 |0,_=>⟨0,by show (0:Rat)*_=((0:Nat):Rat);rw[Rat.zero_mul];rfl,by omega⟩
 |n+1,h=>by
  obtain⟨Z,e1,b1⟩:=Xer (f:=f) (B:=B) (n:=n) fun k hk=>h k (by omega)
  obtain⟨R,e2,b2⟩:=h n (by omega)
  refine⟨Z+R.natAbs,?_,by rw[ku,Nat.one_mul];omega⟩
  rw[tj,Rat.natCast_add,<-e1]
  have e3:zgb (f n)*zgb B=((R.natAbs:Nat):Rat):=by
   rw[<-BJ,e2]
   have:=@Xb8 (R:Rat)
   rw[Rat.den_intCast,Rat.num_intCast]at this
   rw[<-this]
   show _=_*(1:Rat)
   grind
  rw[<-e3]
  grind
def Xfq{Z B k:Nat}(hB:B≠0)(h:x*(B:Rat)=(Z:Rat))(h1:Z<2^k)(h2:B<2^k):Qb k x:=by
 have b0:((B:Nat):Rat)≠0:=by
  intro hc
  have:=congrArg Rat.num hc
  rw[uf.1]at this
  simp at this
  exact hB this
 have e:x=Rat.divInt (Z:Int) (B:Int):=by
  have dv:Rat.divInt (Z:Int) (B:Int)=(Z:Rat)/(B:Rat):=by rw[Rat.divInt_eq_div];rfl
  rw[dv]
  have:=Rat.div_mul_cancel (a:=(Z:Rat)) b0
  have h3:(x-(Z:Rat)/(B:Rat))*(B:Rat)=0:=by grind
  rcases Rat.mul_eq_zero.1 h3 with h4|h4
  ·grind
  ·exact absurd h4 b0
 rw[e]
 exact Zhu (by omega) (by simpa using h1) (by simpa using h2)
def Xfl{p:List Rat}{j b m i:Nat}(l1:2<=p.length)(l2:p.length<=5)(h0:pg p (p.length-1)≠0)(hq:∀q∈p,Qb j q)(hb:j*p.length<=b):Qb ((b+1)*m+3) (Xcl p m i):=by
 obtain⟨n,hn⟩:∃n,p.length=n+1:=⟨p.length-1,by omega⟩
 obtain⟨D,d0,d1,hD⟩:=Xew hq
 have hM:2^(j*p.length)<=2^b:=Ywo (by decide) hb
 have hA':∀k,∃z:Int,k<=n->(z:Rat)=pg p k*(D:Rat)/\z.natAbs<=2^b:=fun k=>by
  by_cases c:k<=n
  ·obtain⟨z,z1,z2⟩:=hD k (by omega)
   exact⟨z,fun _=>⟨z1,by omega⟩⟩
  ·exact⟨0,fun h=>absurd h c⟩
 obtain⟨A,hA⟩:=Classical.axiomOfChoice hA'
 rw[hn,Nat.add_sub_cancel]at h0
 obtain⟨Z,e,bz⟩:=Xer (f:=fun k=>rw p i m k) (n:=n) fun k hk=>Xel hn (by omega) hA h0 (i:=i) (m:=m) hk
 obtain⟨n1,n2⟩:=hA n (Yv5 _)
 have Dz:((D:Nat):Rat)≠0:=by
  intro hc
  have:=congrArg Rat.num hc
  rw[uf.1]at this
  simp at this
  omega
 have An:A n≠0:=by
  intro hc
  rw[hc]at n1
  have gw:(0:Rat)=pg p n*(D:Rat):=n1
  rcases Rat.mul_eq_zero.1 gw.symm with h|h
  ·exact h0 h
  ·exact Dz h
 have eB:zgb ((A n^m:Int):Rat)=(((A n).natAbs^m:Nat):Rat):=by
  have:=@Xb8 ((A n^m:Int):Rat)
  rw[Rat.den_intCast,Rat.num_intCast,Int.natAbs_pow]at this
  rw[<-this]
  show _=_*(1:Rat)
  grind
 rw[eB]at e
 rw[Xef,hn,Nat.add_sub_cancel]
 have e2:2*2^b=2^(b+1):=by rw[fV,iz]
 rw[e2,<-Nat.pow_mul]at bz
 have b1:n*2^((b+1)*m)<=4*2^((b+1)*m):=ot _ (by omega)
 have b2:(A n).natAbs^m<=2^((b+1)*m):=by
  rw[Nat.pow_mul]
  refine IB ?_ m
  rw[<-e2]
  omega
 have b3:2^((b+1)*m+3)=2^((b+1)*m)*8:=by rw[Yw8]
 have b4:0<2^((b+1)*m):=vu (by decide)
 have b5:(A n).natAbs^m≠0:=by
  have:0<(A n).natAbs^m:=vu (by omega)
  omega
 exact Xfq b5 e (by omega) (by omega)
def Xem{p:List Rat}{m:Nat}(l1:2<=p.length)(l2:p.length<=5)(h0:pg p (p.length-1)≠0)(hq:∀q∈p,Qb 14 q)(hm:m<=6):Qb 429 (zie p m (p.length-1)):=by
 refine(Xax (K:=(70+1)*m+3) (by omega) fun i=>Xfl l1 l2 h0 hq (by omega)).mono (by omega)
def Xen{x:Rat}(hx:x≠0):∀{k:Nat},pwR x k*pwR (1/x) k=1
 |0=>by show (1:Rat)*1=1;grind
 |k+1=>by
  have ih:=Xen hx (k:=k)
  have:=Rat.div_mul_cancel (a:=1) hx
  show pwR x k*x*(pwR (1/x) k*(1/x))=1
  generalize 1/x=d at*
  have e:pwR x k*x*(pwR d k*d)=pwR x k*pwR d k*(d*x):=by grind
  rw[e,ih,this]
  grind
def Xey{p:List Rat}(h1:1<=p.length)(h0:pg p (p.length-1)≠0)(x0:0<x)(x1:x<=1)(h:mW p.length (zih p x)=true):mW p.length p=true:=by
 have xn:x≠0:=by intro hc;rw[hc]at x0;exact Rat.lt_irrefl x0
 have hd:=Rat.div_mul_cancel (a:=1) xn
 have hs:∀j,j<=p.length-1->pg (zih p x) j=pg p j*pwR x j:=fun j hj=>Xcu (by omega)
 have hz:pg (zih p x) ((zih p x).length-1)≠0:=by
  rw[Yz1,hs _ (Yv5 _)]
  intro hc
  rcases Rat.mul_eq_zero.1 hc with e|e
  ·exact h0 e
  ·have:=Xen xn (k:=p.length-1)
   rw[e,Rat.zero_mul]at this
   exact absurd this (by decide)
 have hi:1<=1/x:=by
  refine Dv x0 ?_
  rw[hd]
  grind
 have key:=(Xeh (p:=zih p x) (by rw[Yz1];exact h1) hz).1
 rw[Yz1]at key
 refine(Xeh h1 h0).2 (Xeq (fun j hj=>?_) (Xe5 hi (key h)))
 rw[hs j hj]
 have:=Xen xn (k:=j)
 have e:pg p j*pwR x j*pwR (1/x) j=pg p j*(pwR x j*pwR (1/x) j):=by grind
 rw[e,this]
 grind
def Xe0{p:List Rat}{U B l h:Nat}(l1:1<=p.length)(h0:pg p (p.length-1)≠0)(hU:1<=U)(R:Xd4 p U B l h):(mW p.length p=true->(l:Rat)/(U:Rat)<1)/\(mW p.length p=false->1<=(h:Rat)/(U:Rat)):=by
 have u0:(0:Rat)<((U:Nat):Rat):=by
  have:((0:Nat):Rat)<((U:Nat):Rat):=Rat.natCast_lt_natCast.2 hU
  exact this
 have un:((U:Nat):Rat)≠0:=by intro hc;rw[hc]at u0;exact Rat.lt_irrefl u0
 have dl:=Rat.div_mul_cancel (a:=(l:Rat)) un
 have dh:=Rat.div_mul_cancel (a:=(h:Rat)) un
 constructor
 ·intro hs
  apply Rat.not_le.1
  intro hc
  rcases R.lo with e|e
  ·rw[e]at dl hc
   have:((0:Nat):Rat)=0:=rfl
   rw[this]at dl hc
   have:=iK (Rat.le_of_lt u0) hc
   grind
  ·unfold inS at e
   rw[Xez l1 h0 hc hs]at e
   exact absurd e (by decide)
 ·intro hs
  apply Rat.not_lt.1
  intro hc
  have hp:(0:Rat)<(h:Rat):=by
   have:((0:Nat):Rat)<((h:Nat):Rat):=Rat.natCast_lt_natCast.2 (by have:=R.lt;omega)
   exact this
  have xp:0<(h:Rat)/(U:Rat):=by
   apply Rat.not_le.1
   intro hc
   have:=iK (Rat.le_of_lt u0) hc
   grind
  have:=Xey l1 h0 xp (Rat.le_of_lt hc) R.hi
  rw[this]at hs
  exact absurd hs (by decide)
variable {N:Nat} {a:List bj} {h:T O} {u:V}
structure PwH (a:List bj):Prop where
 c:ks a=0
 f:wO a 5 4=true
 l:2<=a.length
def PwH.st(L:PwH a):StH a 0:=by
 have hf:=L.f
 simp only[wO,jc,decide_eq_true_eq,uv]at hf
 refine⟨by omega,fun s hs=>?_,fun _=>?_,.inl (by decide)⟩
 ·have:=(Xea (hf.2 s hs)).2.1
  omega
 ·simp only[wO,jc,decide_eq_true_eq,uv]
  exact⟨by omega,hf.2⟩
def PwH.len(L:PwH a):a.length<=5:=by
 have hf:=L.f
 simp only[wO,jc,decide_eq_true_eq]at hf
 exact hf.1
def PwH.q(L:PwH a):∀q∈ziB a,Qb 14 q:=(Xco L.f).2
def PwH.z(L:PwH a):pg (ziB a) ((ziB a).length-1)≠0:=by
 rw[Yht]
 exact(Yti L.c).2.2.2
def PwH.deg(L:PwH a){e:Int}(he:e=0):Yz7 a e=0:=by
 have:=L.l
 unfold Yz7
 rw[L.c,he,aA (by omega)]
 rfl
def Xe6{b:Bool}:Dl 0 b=.aX [.bool b,.int .i64 0]:=aA (by simp)
def Xff(L:PwH a)(hu:Sl h N u (strs a)):Fn A.C 11 [u] h N (fun x _ _=>x=.aX [.bool (mW a.length (ziB a)),.int .i64 0]):=by
 have la:=L.len
 have p5:5^(a.length-1)<=5^5:=Ywo (by decide) (by omega)
 have e5:(5:Nat)^5=3125:=by decide
 refine Fn.imp (Zza (k:=14) hu (by omega) (fun s hs=>by have:=L.st.fa s hs;omega) (by decide) (by decide) fun _=>⟨L.q,by omega⟩) fun v h' n' hv=>?_
 rw[hv,L.c,Xe6]
def Xeo{m:Nat}{z:Int}(L:PwH a)(hz:z=(m:Int))(hm:m<=6)(hu:Sl h N u (strs a))(hP:j_ h N):Fn A.C 14 [u,.int .i64 z] h N (fun x _ _=>x=.aX [.str (Zao (zie (ziB a) m (a.length-1))),.int .i64 0]):=by
 have la:=L.len
 have l1:=L.l
 have e0:Yz7 a (Xal z)=0:=L.deg (by unfold Xal;rw[aA (by omega)])
 have lra:=@Yht a
 have qd:=Xem (m:=m) (by rw[lra];exact l1) (by rw[lra];exact la) L.z L.q hm
 rw[lra]at qd
 refine Fn.imp (Xde (j:=14) hu hP (by omega) (fun s hs=>by have:=L.st.fa s hs;omega) fun _=>⟨L.q,by decide,by omega⟩) fun v h' n' hv=>?_
 rw[e0,hz,Int.toNat_natCast]at hv
 rcases hv with⟨c,_⟩|⟨_,hv⟩
 ·exact absurd rfl c
 ·rw[hv,aA]
  rw[(NC qd (by decide)).1]
  decide
def Xfh(L:PwH a)(hu:Sl h N u (strs a))(hP:j_ h N):Fn A.C 13 [u,.int .i64 1] h N (fun x _ _=>x=.aX [.agg [.str (Zao (Xcb a 1)),.str (Zao (Xcc a 1))],.int .i64 0]):=by
 have la:=L.len
 have e0:Yz7 a (RY 1)=0:=L.deg (by unfold RY;rw[aA (by decide)])
 refine Fn.imp (Xdd (j:=14) (B:=44) hu hP (by omega) (fun s hs=>by have:=L.st.fa s hs;omega) L.st.rad) fun v h' n' hv=>?_
 rw[e0]at hv
 rcases hv with⟨c,_⟩|⟨_,hv⟩
 ·exact absurd rfl c
 ·exact hv
def PwH.rq(L:PwH a):Qb 55 (Xcb a 1)/\Qb 55 (Xcc a 1):=L.st.rqb (L.deg (by unfold RY;rw[aA (by decide)]))
def PwH.ri(L:PwH a):Xd4 (ziB a) 10 44 (Xa5 (ziB a) 10 44).1 (Xa5 (ziB a) 10 44).2/\(Xa5 (ziB a) 10 44).2=(Xa5 (ziB a) 10 44).1+1:=by
 have R:=(L.st.rad (z:=1) (L.deg (by unfold RY;rw[aA (by decide)]))).1
 exact Xdz R.big
def PwH.side(L:PwH a):(mW a.length (ziB a)=true->Xcb a 1<1)/\(mW a.length (ziB a)=false->1<=Xcc a 1)/\Xcb a 1<=Xcc a 1/\0<Xcc a 1/\mW a.length (zih (ziB a) (Xcc a 1))=true:=by
 obtain⟨R,e⟩:=L.ri
 have lra:=@Yht a
 obtain⟨s1,s2⟩:=Xe0 (by rw[lra];have:=L.l;omega) L.z (by decide) R
 rw[lra]at s1 s2
 have hi:=R.hi
 unfold inS at hi
 rw[lra]at hi
 have De:((10:Nat):Rat)=10:=rfl
 have l0:(0:Rat)<=(((Xa5 (ziB a) 10 44).1:Nat):Rat):=S4
 have eh:(((Xa5 (ziB a) 10 44).2:Nat):Rat)=(((Xa5 (ziB a) 10 44).1:Nat):Rat)+1:=by
  rw[e,Rat.natCast_add]
  rfl
 have eL:Xcb a 1=(((Xa5 (ziB a) 10 44).1:Nat):Rat)/((10:Nat):Rat):=rfl
 have eH:Xcc a 1=(((Xa5 (ziB a) 10 44).2:Nat):Rat)/((10:Nat):Rat):=rfl
 rw[<-eL]at s1
 rw[<-eH]at s2 hi
 refine⟨s1,s2,?_,?_,hi⟩
 ·rw[eL,eH,eh,De]
  generalize (((Xa5 (ziB a) 10 44).1:Nat):Rat)=t at*
  grind
 ·rw[eH,eh,De]
  generalize (((Xa5 (ziB a) 10 44).1:Nat):Rat)=t at*
  grind
def Xeg{q:Rat}(h:Qb 55 q):(Zao q).length<=40:=by
 have e:(2:Nat)^55<10^18:=by decide
 have hb:NB q.num.natAbs q.den q:=⟨Yv5 _,Yv5 _⟩
 have:=hb.txt (a:=18) (b:=18) (by have:=h.1;omega) (by have:=h.2;omega) (by decide) (by decide)
 omega
def Xfg(L:PwH a)(hu:Sl h N u (strs a))(hP:j_ h N):Fn A.C 43 [u,.str (Zao (Xcc a 1))] h N (fun x h' n'=>∃v,x=.aX [v,.int .i64 0]/\Tx h' n' v (zih (ziB a) (Xcc a 1))):=by
 have la:=L.len
 obtain⟨_,q2⟩:=L.rq
 obtain⟨_,_,_,p0,_⟩:=L.side
 have e0:scE a (Zao (Xcc a 1))=0:=by
  unfold scE
  rw[L.c,ND q2 (by decide),aA]
  ·rfl
  ·intro hc
   rw[<-xI]at hc
   rw[Zh8 hc]at p0
   exact Rat.lt_irrefl p0
 have bq:=Xbs L.q q2
 have nb:BB (zih (ziB a) (Xcc a 1))=false:=Yrl bq (by rw[Yht];omega)
 refine Fn.imp (Xfj hu hP (by omega) (fun s hs=>by have:=L.st.fa s hs;omega) (Xeg q2)) fun v h' n' hv=>?_
 rw[e0,og]at hv
 rcases hv with⟨c,_⟩|⟨_,⟨c,_⟩|⟨_,v',hv,ht⟩⟩
 ·exact absurd rfl c
 ·rw[nb]at c
  exact absurd c (by decide)
 ·exact⟨v',hv,ht.1⟩
def Xfi(L:PwH a)(hu:Tx h N u (zih (ziB a) (Xcc a 1))):Fn A.C 11 [u] h N (fun x _ _=>x=.aX [.bool true,.int .i64 0]):=by
 have la:=L.len
 have l1:=L.l
 obtain⟨_,q2⟩:=L.rq
 obtain⟨_,_,_,p0,hs⟩:=L.side
 have bq:=Xbs L.q q2
 have lra:=@Yht a
 rw[lra]at bq
 have bq':∀y∈zih (ziB a) (Xcc a 1),Qb 290 y:=fun y hy=>(bq y hy).mono (by omega)
 have hz:pg (zih (ziB a) (Xcc a 1)) (a.length-1)≠0:=by
  rw[Xcu (by rw[lra];omega)]
  intro hc
  rcases Rat.mul_eq_zero.1 hc with e|e
  ·have:=L.z
   rw[lra]at this
   exact this e
  ·have:=Xen (x:=Xcc a 1) (by intro hc;rw[hc]at p0;exact Rat.lt_irrefl p0) (k:=a.length-1)
   rw[e,Rat.zero_mul]at this
   exact absurd this (by decide)
 have hl:(zih (ziB a) (Xcc a 1)).length=a.length:=by rw[Yz1,lra]
 generalize zih (ziB a) (Xcc a 1)=l at*
 have ca:gV (l.map Zao)=0:=by
  unfold gV
  refine Ye4 fun y hy=>?_
  obtain⟨s,hs,rfl⟩:=vo.1 hy
  obtain⟨q,hq,rfl⟩:=vo.1 hs
  rw[ND (bq' q hq) (by decide)]
  rfl
 have cp:ks (l.map Zao)=0:=by
  have e:(l.map Zao)[a.length-1]?=some (Zao (pg l (a.length-1))):=by
   rw[jT,iy (by rw[hl];omega)]
   rfl
  rw[ks,Lh,hl,aA (by omega),aA (by omega),aR ca,e,aA]
  intro hc
  simp only[au]at hc
  rw[<-xI]at hc
  exact hz (Zh8 hc)
 have p5:5^(a.length-1)<=5^5:=Ywo (by decide) (by omega)
 have e5:(5:Nat)^5=3125:=by decide
 refine Fn.imp (Zza (k:=290) (a:=l.map Zao) hu (by rw[Lh];omega) (fun s gg=>?_) (by decide) (by decide) fun _=>⟨?_,?_⟩) fun v h' n' hv=>?_
 ·obtain⟨q,hq,rfl⟩:=vo.1 gg
  have:=SN (bq' q hq)
  omega
 ·rw[Zw0]
  exact bq'
 ·rw[Lh,hl]
  omega
 ·rw[hv,cp,Lh,hl,Zw0,hs,Xe6]
end Go.Mx
