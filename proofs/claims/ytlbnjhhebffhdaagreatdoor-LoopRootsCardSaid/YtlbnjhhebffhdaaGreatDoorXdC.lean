/-The products of a sequence with a polyno-/
import Derived.Test.YtlbnjhhebffhdaaGreatDoorXaF
set_option linter.all false
set_option maxHeartbeats 8000000
namespace Go.Mx
open Go Go.Proofs
variable {k n:Nat}
set_option maxRecDepth 1000000
def Tn(c:Nat->Rat)(n:Nat)(y:Nat->Rat)(t:Nat):Rat:=sR (fun j=>c j*y (t+j)) (n+1)
def rv(c:Nat->Rat)(n j:Nat):Rat:=c (n-j)
def Yvq{c y:Nat->Rat}{t:Nat}:aF c n (fun j=>y (t+j)) n=Tn c n y t:=by
 unfold aF Tn
 refine il fun j hj=>?_
 rw[show n-n+j=j by omega]
def Yvp{c y:Nat->Rat}{t:Nat}:bF c (fun j=>y (t+j)) n=Tn (rv c n) n y t:=rfl
def Yvo{c y:Nat->Rat}{t:Nat}(h0:c (k+1)≠0):Tn (qF c (k+1)) k y (t+1)=Tn c (k+1) y t-c 0/c (k+1)*Tn (rv c (k+1)) (k+1) y t:=by
 unfold Tn
 rw[<-Ay,<-HW (n:=k+1)]
 have e0:c 0*y (t+0)-c 0/c (k+1)*(rv c (k+1) 0*y (t+0))=0:=by
  unfold rv
  have:=Rat.div_mul_cancel (a:=c 0) h0
  grind
 rw[e0,Rat.add_zero]
 refine il fun j hj=>?_
 unfold qF rv
 rw[show t+1+j=t+(j+1) by omega,show k+1-(j+1)=k+1-1-j by omega]
 grind
def Yvn{c y:Nat->Rat}{t:Nat}(h0:c (k+1)≠0):Tn (rv (qF c (k+1)) k) k y t=Tn (rv c (k+1)) (k+1) y t-c 0/c (k+1)*Tn c (k+1) y t:=by
 unfold Tn
 rw[<-Ay,tj (n:=k+1)]
 have e0:rv c (k+1) (k+1)*y (t+(k+1))-c 0/c (k+1)*(c (k+1)*y (t+(k+1)))=0:=by
  unfold rv
  rw[Nat.sub_self]
  have:=Rat.div_mul_cancel (a:=c 0) h0
  grind
 rw[e0,Rat.add_zero]
 refine il fun j hj=>?_
 unfold rv qF
 rw[show k-j+1=k+1-j by omega,show k+1-1-(k-j)=j by omega]
 grind
def Yk4:∀{n:Nat} {c:Nat->Rat},SF n c->∃K,0<=K/\∀(y:Nat->Rat) (t:Nat) (X:Rat),(∀s,s<=n->Tn c n y (t+s)*Tn c n y (t+s)<=X/\Tn (rv c n) n y (t+s)*Tn (rv c n) n y (t+s)<=X)->y (t+n)*y (t+n)<=K*X
 |0,c,h=>by
  have h0:0<c 0*c 0:=S3 h
  have hn:c 0*c 0≠0:=by intro hc;rw[hc]at h0;exact Rat.lt_irrefl h0
  have hc:=Rat.div_mul_cancel (a:=1) hn
  refine⟨1/(c 0*c 0),?_,fun y t X hX=>?_⟩
  ·refine Dv h0 ?_
   rw[hc]
   grind
  ·refine Dv h0 ?_
   have h1:=(hX 0 (by omega)).1
   have e:Tn c 0 y (t+0)=c 0*y (t+0):=by
    show (0:Rat)+c 0*y (t+0+0)=_
    grind
   rw[e]at h1
   have e2:1/(c 0*c 0)*X*(c 0*c 0)=X:=by
    generalize c 0*c 0=a at*
    generalize 1/a=b at*
    grind
   rw[e2]
   grind
 |k+1,c,h=>by
  obtain⟨h0,hr,hs⟩:=h
  obtain⟨r1,r2⟩:=Ykk hr
  obtain⟨K,hK,ih⟩:=Yk4 hs
  have a1:=fun y t=>Yvo (y:=y) (t:=t) h0
  have a2:=fun y t=>Yvn (y:=y) (t:=t) h0
  generalize c 0/c (k+1)=r at*
  refine⟨K*4,Rat.mul_nonneg hK (by decide),fun y t X hX=>?_⟩
  have key:∀a b:Rat,a*a<=X->b*b<=X->(a-r*b)*(a-r*b)<=4*X:=fun a b ha hb=>by
   have h1:=@lW (a+r*b)
   have h2:=iK (@lW b) r2
   grind
  have:=ih y (t+1) (4*X) fun s gg=>by
   obtain⟨x1,x2⟩:=hX s (by omega)
   obtain⟨x3,x4⟩:=hX (s+1) (by omega)
   rw[show t+1+s=t+s+1 by omega,a1,a2]
   rw[show t+(s+1)=t+s+1 by omega]at x3 x4
   exact⟨key _ _ x1 x2,key _ _ x4 x3⟩
  rw[show t+1+k=t+(k+1) by omega]at this
  grind
def S4{k:Nat}:(0:Rat)<=(k:Rat):=by
 have:((0:Nat):Rat)<=(k:Rat):=Rat.natCast_le_natCast.2 (tR _)
 exact this
def Ykl{d y:Nat->Rat}{m:Nat}{X:Rat}(h:∀j,j<m->y j*y j<=X):sR (fun j=>d j*y j) m*sR (fun j=>d j*y j) m<=(m:Rat)*sR (fun j=>d j*d j) m*X:=by
 have h1:=cau (f:=fun j=>d j*y j) (k:=m)
 have h2:sR (fun j=>d j*y j*(d j*y j)) m<=sR (fun j=>d j*d j) m*X:=by
  have e:sR (fun j=>d j*d j) m*X=sR (fun j=>X*(d j*d j)) m:=by rw[yZ,Rat.mul_comm]
  rw[e]
  refine Lo fun j hj=>?_
  have:=iK (@lW (d j)) (h j hj)
  grind
 have h3:=iK (S4 (k:=m)) h2
 grind
def Ygl{d y:Nat->Rat}{B:Rat}:∀{m:Nat},(∀j,j<m->zgb (y j)<=B)->zgb (sR (fun j=>d j*y j) m)<=sR (fun j=>zgb (d j)) m*B
 |0,_=>by
  show zgb 0<=0*B
  rw[show zgb 0=0 from rfl]
  grind
 |m+1,h=>by
  have ih:=Ygl (d:=d) (m:=m) fun j hj=>h j (by omega)
  rw[tj,tj]
  have h1:=@Zrh (sR (fun j=>d j*y j) m) (d m*y m)
  have h2:=iK (@Zb2 (d m)) (h m (by omega))
  rw[BJ]at h1
  grind
def rI(c:Nat->Rat)(n:Nat):Rat:=sR (fun m=>((m+1:Nat):Rat)*sR (fun j=>c (n-m+j)*c (n-m+j)) (m+1)) n
def NO(c:Nat->Rat)(n:Nat):Rat:=sR (fun m=>((m+1:Nat):Rat)*sR (fun j=>c (m-j)*c (m-j)) (m+1)) n
def S5{c:Nat->Rat}{n:Nat}:0<=rI c n/\0<=NO c n:=
 ⟨Dt fun _ _=>Rat.mul_nonneg S4 (Dt fun _ _=>lW),Dt fun _ _=>Rat.mul_nonneg S4 (Dt fun _ _=>lW)⟩
def Ypa{c y:Nat->Rat}{X:Rat}(h:∀j,j<n->y j*y j<=X):VF c n y<=rI c n*X/\ -VF c n y<=NO c n*X:=by
 unfold rI NO
 rw[Rat.mul_comm,<-yZ,Rat.mul_comm (sR _ n),<-yZ]
 have e: -VF c n y=sR (fun m=> -1*(aF c n y m*aF c n y m-bF c y m*bF c y m)) n:=by
  rw[yZ]
  show -VF c n y= -1*VF c n y
  grind
 rw[e]
 unfold VF
 constructor
 ·refine Lo fun m hm=>?_
  have h1:=Ykl (d:=fun j=>c (n-m+j)) (m:=m+1) fun j hj=>h j (by omega)
  have h2:=@lW (bF c y m)
  have h3:aF c n y m*aF c n y m<=_:=h1
  grind
 ·refine Lo fun m hm=>?_
  have h1:=Ykl (d:=fun j=>c (m-j)) (m:=m+1) fun j hj=>h j (by omega)
  have h2:=@lW (aF c n y m)
  have h3:bF c y m*bF c y m<=_:=h1
  grind
def Yp1{x q B:Rat}(hq:0<=q)(hB:0<=B)(h:x*x<=q*(B*B)):zgb x<=(1+q)*B:=by
 apply Rat.not_lt.1
 intro hc
 have e:zgb x*zgb x=x*x:=by unfold zgb;split<;>grind
 have hx:=@Zb2 x
 rw[<-e]at h
 generalize zgb x=a at*
 have h1:=Rat.mul_nonneg (show (0:Rat)<=1+q by grind) hB
 have h2:=Rat.mul_pos (show (0:Rat)<a-(1+q)*B by grind) (show (0:Rat)<a+(1+q)*B by grind)
 have h3:=Rat.mul_nonneg hq (@lW B)
 have h4:=Rat.mul_nonneg hq h3
 have h5:=@lW B
 grind
def Ygk{x B:Rat}(h:zgb x<=B):x*x<=B*B:=by
 have e:zgb x*zgb x=x*x:=by unfold zgb;split<;>grind
 have hx:=@Zb2 x
 rw[<-e]
 generalize zgb x=a at*
 have h1:=Rat.mul_nonneg (show (0:Rat)<=B-a by grind) (show (0:Rat)<=B+a by grind)
 grind
variable {n:Nat}
def Dd(c:Nat->Rat)(n:Nat):Prop:=∃K,0<=K/\∀(y:Nat->Rat) (N:Nat) (B:Rat),(∀j,j<n->zgb (y j)<=B)->(∀t,t<N->zgb (Tn c n y t)<=B)->∀t,t<N+n->zgb (y t)<=K*B
def Vt(c:Nat->Rat)(n:Nat)(y:Nat->Rat)(t:Nat):Rat:=VF c n (fun j=>y (t+j))
def Yo8{c y:Nat->Rat}{t:Nat}:Vt c n y (t+1)=Vt c n y t+Tn c n y t*Tn c n y t-Tn (rv c n) n y t*Tn (rv c n) n y t:=by
 have h:=Ypb (c:=c) (n:=n) (y:=fun j=>y (t+j))
 rw[Yvq,Yvp]at h
 unfold Vt
 rw[<-h]
 refine congrArg (VF c n) (funext fun j=>?_)
 show y (t+1+j)=y (t+(j+1))
 rw[show t+1+j=t+(j+1) by omega]
def sU(c:Nat->Rat)(n:Nat)(y:Nat->Rat)(t m:Nat):Rat:=sR (fun s=>Tn c n y (t+s)*Tn c n y (t+s)) m
def RW{c y:Nat->Rat}{n t:Nat}:∀{m:Nat},Vt c n y (t+m)=Vt c n y t+sU c n y t m-sU (rv c n) n y t m
 |0=>by
  show Vt c n y t=Vt c n y t+0-0
  grind
 |m+1=>by
  have ih:=RW (c:=c) (y:=y) (n:=n) (t:=t) (m:=m)
  have h:=Yo8 (c:=c) (y:=y) (n:=n) (t:=t+m)
  show Vt c n y (t+m+1)=Vt c n y t+(sU c n y t m+Tn c n y (t+m)*Tn c n y (t+m))-(sU (rv c n) n y t m+Tn (rv c n) n y (t+m)*Tn (rv c n) n y (t+m))
  rw[h,ih]
  grind
def Vu{c y:Nat->Rat}{n t m:Nat}:0<=sU c n y t m:=Dt fun _ _=>lW
def Vv{c y:Nat->Rat}{t m:Nat}{X:Rat}(h:∀s,s<m->Tn c n y (t+s)*Tn c n y (t+s)<=X):sU c n y t m<=(m:Rat)*X:=by
 rw[<-Lp]
 exact Lo h
def Vw{f:Nat->Rat}:∀{m i:Nat},(∀k,k<m->0<=f k)->i<m->f i<=sR f m
 |m+1,i,h,hi=>by
  have hs:=Dt (f:=f) (n:=m) fun k hk=>h k (by omega)
  rw[tj]
  by_cases e:i=m
  ·subst e
   grind
  ·have:=Vw (f:=f) (m:=m) (i:=i) (fun k hk=>h k (by omega)) (by omega)
   have:=h m (by omega)
   grind
def Yo9{c y:Nat->Rat}{t:Nat}{K X:Rat}(hK:0<=K)(hI:∀(y:Nat->Rat) (t:Nat) (X:Rat),(∀s,s<=n->Tn c n y (t+s)*Tn c n y (t+s)<=X/\Tn (rv c n) n y (t+s)*Tn (rv c n) n y (t+s)<=X)->y (t+n)*y (t+n)<=K*X)(hX:0<=X)(hu:∀s,s<n+n->Tn c n y (t+s)*Tn c n y (t+s)<=X):(1+rI c n*K)*Vt c n y (t+(n+n))<=((n:Rat)+rI c n*K*(1+2*(n:Rat)))*X+rI c n*K*Vt c n y t:=by
 have r1:=RW (c:=c) (y:=y) (n:=n) (t:=t) (m:=n+n)
 have r2:=RW (c:=c) (y:=y) (n:=n) (t:=t+n) (m:=n)
 have u1:=Vv hu
 have u2:=Vv (c:=c) (y:=y) (n:=n) (t:=t+n) (m:=n) (X:=X) fun s hs=>by
  have:=hu (n+s) (by omega)
  rw[show t+(n+s)=t+n+s by omega]at this
  exact this
 have s0:=@Vu c y n t (n+n)
 have s1:=@Vu (rv c n) y n t (n+n)
 have s2:=@Vu (rv c n) y n (t+n) n
 obtain⟨Z,hZ⟩:∃Z,X+sU (rv c n) n y t (n+n)=Z:=⟨_,rfl⟩
 have hv:∀s,s<n+n->Tn (rv c n) n y (t+s)*Tn (rv c n) n y (t+s)<=Z:=fun s hs=>by
  have:=Vw (f:=fun s=>Tn (rv c n) n y (t+s)*Tn (rv c n) n y (t+s)) (m:=n+n) (i:=s) (fun k _=>lW) hs
  have h2:Tn (rv c n) n y (t+s)*Tn (rv c n) n y (t+s)<=sU (rv c n) n y t (n+n):=this
  rw[<-hZ]
  grind
 have hw:∀s,s<n+n->Tn c n y (t+s)*Tn c n y (t+s)<=Z:=fun s hs=>by
  have:=hu s hs
  rw[<-hZ]
  grind
 have hy:∀j,j<n->y (t+n+j)*y (t+n+j)<=K*Z:=fun j hj=>by
  have:=hI y (t+j) Z fun s hs=>by
   rw[show t+j+s=t+(j+s) by omega]
   exact⟨hw _ (by omega),hv _ (by omega)⟩
  rw[show t+j+n=t+n+j by omega]at this
  exact this
 have hV:Vt c n y (t+n)<=rI c n*(K*Z):=(Ypa (c:=c) (y:=fun j=>y (t+n+j)) hy).1
 have hA:=(S5 (c:=c) (n:=n)).1
 have P0:=Rat.mul_nonneg hA hK
 rw[show t+n+n=t+(n+n) by omega]at r2
 rw[show ((n+n:Nat):Rat)=(n:Rat)+(n:Rat) from Rat.natCast_add _ _]at u1
 have e1:rI c n*(K*Z)=rI c n*K*Z:=by grind
 rw[e1]at hV
 generalize rI c n*K=P at*
 generalize Vt c n y (t+(n+n))=V2 at*
 generalize Vt c n y (t+n)=V1 at*
 generalize Vt c n y t=V0 at*
 generalize sU c n y t (n+n)=a at*
 generalize sU (rv c n) n y t (n+n)=b at*
 generalize sU c n y (t+n) n=d at*
 generalize sU (rv c n) n y (t+n) n=e at*
 generalize (n:Rat)=m at*
 have z1:Z<=X+(V0-V2)+(m+m)*X:=by rw[<-hZ];grind
 have z2:=iK P0 z1
 have v1:V2<=V1+m*X:=by grind
 grind
def sd{c:Nat->Rat}:∀{n:Nat},SF n c->Dd c n
 |0,h=>by
  have h0:c 0≠0:=h
  refine⟨zgb (1/c 0),Zb2,fun y N B _ hu t ht=>?_⟩
  have h1:=hu t (by omega)
  have e:Tn c 0 y t=c 0*y t:=by
   show (0:Rat)+c 0*y (t+0)=_
   rw[mY]
   grind
  have e2:y t=Tn c 0 y t*(1/c 0):=by
   have:=Rat.div_mul_cancel (a:=1) h0
   rw[e]
   grind
  rw[e2,BJ]
  have:=iK (@Zb2 (1/c 0)) h1
  grind
 |k+1,h=>by
  obtain⟨κ,hκ,hL⟩:=Yk3 h
  obtain⟨K,hK,hI⟩:=Yk4 h
  obtain⟨hA,_⟩:=S5 (c:=c) (n:=k+1)
  have P0:=Rat.mul_nonneg hA hK
  have n0:=S4 (k:=k+1)
  generalize hn:k+1=n at*
  obtain⟨C,hC⟩:∃C,rI c n+3*(n:Rat)+rI c n*K*(1+2*(n:Rat))=C:=⟨_,rfl⟩
  have Pn:=Rat.mul_nonneg P0 (show (0:Rat)<=1+2*(n:Rat) by grind)
  have C0:0<=C:=by rw[<-hC];grind
  have q0:0<=C/κ:=by
   refine Dv hκ ?_
   rw[Rat.div_mul_cancel (by intro hc;rw[hc]at hκ;exact Rat.lt_irrefl hκ)]
   grind
  refine⟨1+C/κ,by grind,fun y N B hi hu=>?_⟩
  have B0:0<=B:=Rat.le_trans Zb2 (hi 0 (by omega))
  have X0:=@lW B
  have uu:∀t,t<N->Tn c n y t*Tn c n y t<=B*B:=fun t ht=>Ygk (hu t ht)
  have vb:∀t,t<=N->Vt c n y t<=C*(B*B):=fun t=>by
   induction t using Nat.strongRecOn with
   |_ t ih=>
    intro ht
    by_cases h2:t<n+n
    ·have r:=RW (c:=c) (y:=y) (n:=n) (t:=0) (m:=t)
     rw[oJ]at r
     have s1:=@Vu (rv c n) y n 0 t
     have u1:=Vv (c:=c) (y:=y) (n:=n) (t:=0) (m:=t) (X:=B*B) fun s hs=>by
      rw[oJ]
      exact uu s (by omega)
     have v0:Vt c n y 0<=rI c n*(B*B):=(Ypa (c:=c) (y:=fun j=>y (0+j)) fun j hj=>by
      rw[oJ]
      exact Ygk (hi j hj)).1
     have tn:(t:Rat)<=(n:Rat)+(n:Rat):=by
      rw[<-Rat.natCast_add]
      exact Rat.natCast_le_natCast.2 (by omega)
     have t1:=iK X0 tn
     have t2:=Rat.mul_nonneg Pn X0
     have t3:=Rat.mul_nonneg n0 X0
     rw[r,<-hC]
     grind
    ·obtain⟨t',rfl⟩:∃t',t=t'+(n+n):=⟨t-(n+n),by omega⟩
     have f:=Yo9 (y:=y) (t:=t') hK hI X0 fun s hs=>uu _ (by omega)
     have i:=iK P0 (ih t' (by omega) (by omega))
     refine Dv (F:=1+rI c n*K) (by grind) ?_
     have t1:=Rat.mul_nonneg hA X0
     have t2:=Rat.mul_nonneg Pn X0
     have t3:=Rat.mul_nonneg n0 X0
     have e:C*(B*B)*(1+rI c n*K)=C*(B*B)*(rI c n*K)+(rI c n*(B*B)+3*(n:Rat)*(B*B)+rI c n*K*(1+2*(n:Rat))*(B*B)):=by
      rw[<-hC]
      grind
     rw[e]
     grind
  intro t ht
  obtain⟨t0,j,e,h1,h2⟩:∃t0 j,t=t0+j/\t0<=N/\j<n:=by
   by_cases h:t<N
   ·exact⟨t,0,rfl,by omega,by omega⟩
   ·exact⟨N,t-N,by omega,by omega,by omega⟩
  have h3:=hL (fun i=>y (t0+i)) j h2
  have h4:=vb t0 h1
  refine Yp1 q0 B0 ?_
  refine Dv hκ ?_
  have e2:C/κ*(B*B)*κ=C*(B*B):=by
   have:=Rat.div_mul_cancel (a:=C) (show κ≠0 by intro hc;rw[hc]at hκ;exact Rat.lt_irrefl hκ)
   grind
  rw[e2,e]
  have h5:κ*(y (t0+j)*y (t0+j))<=Vt c n y t0:=h3
  grind
variable {j k n:Nat}
def Ce(c:Nat->Rat)(n:Nat):Prop:=∀ε:Rat,0<ε->∀T:Nat,∃L,T<=L/\∀(y:Nat->Rat) (B:Rat),(∀j,j<n->zgb (y j)<=B)->(∀t,t<L->Tn c n y t=0)->∀j,j<n->zgb (y (L+j))<=ε*B
def Xfy{Q ε:Rat}(h:0<ε):∃m:Nat,Q<=(m:Rat)*ε:=by
 refine⟨(Q/ε).num.natAbs,?_⟩
 have h1:=@Xb8 (Q/ε)
 have h2:=(@Xb0 (Q/ε)).2
 have h3:=iK (@Zb2 (Q/ε)) h2
 have h4:=(@Nw (Q/ε)).1
 have h5:Q/ε<=(((Q/ε).num.natAbs:Nat):Rat):=by
  rw[<-h1]
  grind
 have h6:=iK (Rat.le_of_lt h) h5
 rw[Rat.div_mul_cancel (by intro hc;rw[hc]at h;exact Rat.lt_irrefl h)]at h6
 exact h6
def Xfm{c y:Nat->Rat}{s:Nat}:Tn c n (fun t=>(t:Rat)*y t) s=(s:Rat)*Tn c n y s+sR (fun j=>c j*(j:Rat)*y (s+j)) (n+1):=by
 unfold Tn
 rw[<-yZ,<-Ycj]
 refine il fun j _=>?_
 show c j*(((s+j:Nat):Rat)*y (s+j))=_
 rw[Rat.natCast_add]
 grind
def dc{c:Nat->Rat}(h:Dd c n)(hn:1<=n):Ce c n:=by
 obtain⟨K,hK,hD⟩:=h
 intro ε hε T
 obtain⟨A,hA⟩:∃A,sR (fun j=>zgb (c j*(j:Rat))) (n+1)=A:=⟨_,rfl⟩
 have A0:0<=A:=by rw[<-hA];exact Dt fun _ _=>Zb2
 obtain⟨m,hm⟩:=Xfy (Q:=K*((n:Rat)+A*K)) hε
 refine⟨T+1+m,by omega,fun y B hi hu j hj=>?_⟩
 have B0:0<=B:=Rat.le_trans Zb2 (hi 0 (by omega))
 have b1:=hD y (T+1+m) B hi (fun t ht=>by rw[hu t ht];exact B0)
 have KB:=Rat.mul_nonneg hK B0
 have nn:=S4 (k:=n)
 have n1:(1:Rat)<=(n:Rat):=by
  have:((1:Nat):Rat)<=(n:Rat):=Rat.natCast_le_natCast.2 hn
  exact this
 have AK:=Rat.mul_nonneg A0 KB
 have nB:=Rat.mul_nonneg nn B0
 have b2:=hD (fun t=>(t:Rat)*y t) (T+1+m) (((n:Rat)+A*K)*B) (fun j hj=>by
  rw[BJ,Xdr]
  have h1:(j:Rat)<=(n:Rat):=Rat.natCast_le_natCast.2 (by omega)
  have h2:=iK (@Zb2 (y j)) h1
  have h3:=iK nn (hi j hj)
  grind) (fun t ht=>by
  rw[Xfm,hu t ht]
  have h1:=Ygl (d:=fun j=>c j*(j:Rat)) (y:=fun j=>y (t+j)) (B:=K*B) (m:=n+1) fun j hj=>b1 (t+j) (by omega)
  have e:(t:Rat)*0+sR (fun j=>c j*(j:Rat)*y (t+j)) (n+1)=sR (fun j=>c j*(j:Rat)*y (t+j)) (n+1):=by grind
  rw[e]
  rw[hA]at h1
  grind)
 have h:=b2 (T+1+m+j) (by omega)
 have h':zgb (((T+1+m+j:Nat):Rat)*y (T+1+m+j))<=K*(((n:Rat)+A*K)*B):=h
 rw[BJ,Xdr]at h'
 obtain⟨τ,hτ⟩:∃τ:Rat,((T+1+m+j:Nat):Rat)=τ:=⟨_,rfl⟩
 have t1:(1:Rat)<=τ:=by
  have:((1:Nat):Rat)<=((T+1+m+j:Nat):Rat):=Rat.natCast_le_natCast.2 (by omega)
  rw[hτ]at this
  exact this
 have t2:(m:Rat)<=τ:=by rw[<-hτ];exact Rat.natCast_le_natCast.2 (by omega)
 rw[hτ]at h'
 have h1:=iK B0 hm
 have h2:=iK (Rat.mul_nonneg (Rat.le_of_lt hε) B0) t2
 refine Dv (F:=τ) (by grind) ?_
 grind
def RX(c:Nat->Rat)(n:Nat)(s:Nat->Rat)(j:Nat):Rat:=if j+1=n then -(sR (fun i=>c i*s i) n)/c n else s (j+1)
def Bt(c:Nat->Rat)(n:Nat)(y:Nat->Rat):Nat->Nat->Rat
 |0=>y
 |t+1=>RX c n (Bt c n y t)
def Bu(c:Nat->Rat)(n:Nat)(y:Nat->Rat)(t:Nat):Rat:=Bt c n y t 0
def Vx{c y:Nat->Rat}{n:Nat}:∀{j t:Nat},j<n->Bt c n y t j=Bu c n y (t+j)
 |0,t,_=>rfl
 |j+1,t,h=>by
  have ih:=Vx (c:=c) (y:=y) (n:=n) (j:=j) (t:=t+1) (by omega)
  have e:Bt c n y (t+1) j=Bt c n y t (j+1):=by
   show RX c n (Bt c n y t) j=_
   unfold RX
   rw[aA (by omega)]
  rw[<-e,ih,show t+1+j=t+(j+1) by omega]
def Yff{c y:Nat->Rat}(h:j<n):Bu c n y j=y j:=by
 have:=Vx (c:=c) (y:=y) (n:=n) (j:=j) (t:=0) h
 rw[oJ]at this
 exact this.symm
def Yoa{c y:Nat->Rat}{t:Nat}(hn:1<=n)(h0:c n≠0):Tn c n (Bu c n y) t=0:=by
 obtain⟨k,rfl⟩:∃k,n=k+1:=⟨n-1,by omega⟩
 have e:=Vx (c:=c) (y:=y) (n:=k+1) (j:=k) (t:=t+1) (by omega)
 have e2:Bt c (k+1) y (t+1) k= -(sR (fun i=>c i*Bt c (k+1) y t i) (k+1))/c (k+1):=by
  show RX c (k+1) (Bt c (k+1) y t) k=_
  unfold RX
  rw[aR rfl]
 have e3:sR (fun i=>c i*Bt c (k+1) y t i) (k+1)=sR (fun j=>c j*Bu c (k+1) y (t+j)) (k+1):=il fun i hi=>by rw[Vx hi]
 rw[e2,e3,show t+1+k=t+(k+1) by omega]at e
 unfold Tn
 rw[tj,<-e]
 have:=Rat.div_mul_cancel (a:= -(sR (fun j=>c j*Bu c (k+1) y (t+j)) (k+1))) h0
 grind
def small{x Q:Rat}(hQ:0<=Q)(h:∀ε:Rat,0<ε->ε<=1->x<=Q*ε):x<=0:=by
 apply Rat.not_lt.1
 intro hx
 have F:0<x+Q+1:=by grind
 have e:=Rat.div_mul_cancel (a:=x) (b:=x+Q+1) (by intro hc;rw[hc]at F;exact Rat.lt_irrefl F)
 have p:0<x/(x+Q+1):=by
  apply Rat.not_le.1
  intro hc
  have:=Rat.mul_nonneg (show (0:Rat)<= -(x/(x+Q+1)) by grind) (Rat.le_of_lt F)
  grind
 have l:x/(x+Q+1)<=1:=by
  refine Dv F ?_
  rw[e]
  grind
 have k:=iK (Rat.le_of_lt F) (h _ p l)
 clear h
 generalize x/(x+Q+1)=d at*
 have h1:=Rat.mul_pos hx hx
 have e3:Q*d*(x+Q+1)=Q*x:=by rw[Rat.mul_assoc,e]
 rw[e3]at k
 grind
def KQ(y:Nat->Rat)(n:Nat):Rat:=sR (fun j=>zgb (y j)) n
def Yl0{y:Nat->Rat}(h:j<n):zgb (y j)<=KQ y n:=Vw (f:=fun j=>zgb (y j)) (fun _ _=>Zb2) h
def cp{c:Nat->Rat}(hn:1<=n)(h0:c n≠0)(h:Ce c n):PD c n:=by
 intro y ⟨j0,A9,tK⟩
 apply Rat.not_le.1
 intro hV
 have eV:VF c n y=Vt c n (Bu c n y) 0:=Zyn (fun _ _=>rfl) fun j hj=>by rw[oJ,Yff hj]
 have tH:∀t,Tn c n (Bu c n y) t=0:=fun t=>Yoa hn h0
 have xR:∀j,j<n->zgb (Bu c n y j)<=KQ y n:=fun j hj=>by rw[Yff hj];exact Yl0 hj
 have cv:Bu c n y j0≠0:=by rw[Yff A9];exact tK
 rw[eV]at hV
 generalize Bu c n y=Y at*
 generalize KQ y n=B at*
 have B0:0<=B:=Rat.le_trans Zb2 (xR j0 A9)
 have bz:∀s,Tn (rv c n) n Y s=0:=fun s=>by
  apply Classical.byContradiction
  intro hc
  have hp:=S3 hc
  have:Tn (rv c n) n Y s*Tn (rv c n) n Y s<=0:=by
   refine small (Q:=NO c n*(B*B)) (Rat.mul_nonneg S5.2 lW) fun ε he JY=>?_
   obtain⟨L,hL,hc⟩:=h ε he (s+1)
   have hs:=hc Y B xR (fun t _=>tH t)
   have r:=RW (c:=c) (y:=Y) (n:=n) (t:=0) (m:=L)
   rw[oJ]at r
   have u0:sU c n Y 0 L<=(L:Rat)*0:=Vv fun s _=>by
    rw[tH]
    show (0:Rat)*0<=0
    grind
   have one:=Vw (f:=fun s=>Tn (rv c n) n Y (0+s)*Tn (rv c n) n Y (0+s)) (m:=L) (i:=s) (fun k _=>lW) (by omega)
   have zfo:Tn (rv c n) n Y (0+s)*Tn (rv c n) n Y (0+s)<=sU (rv c n) n Y 0 L:=one
   rw[oJ]at zfo
   have eB:=Rat.mul_nonneg (Rat.le_of_lt he) B0
   have v: -Vt c n Y L<=NO c n*(ε*B*(ε*B)):=(Ypa (c:=c) (y:=fun j=>Y (L+j)) fun j hj=>Ygk (hs j hj)).2
   have w1:=iK (Rat.le_of_lt he) JY
   have w2:=iK (Rat.mul_nonneg (@S5 c n).2 (@lW B)) w1
   grind
  grind
 refine cv ?_
 have az:zgb (Y j0)<=0:=by
  refine small (Q:=B) B0 fun ε he JY=>?_
  obtain⟨L,hL,hc⟩:=h ε he 0
  have hs:=hc Y B xR (fun t _=>tH t)
  have back:=hc (fun s=>Y (L+(n-1)-s)) (ε*B) (fun j hj=>by
   show zgb (Y (L+(n-1)-j))<=_
   rw[show L+(n-1)-j=L+(n-1-j) by omega]
   exact hs _ (by omega)) (fun t ht=>by
   have e:=bz (L-1-t)
   unfold Tn at e ⊢
   rw[<-R9]at e
   rw[<-e]
   refine il fun j hj=>?_
   unfold rv
   show c j*Y (L+(n-1)-(t+j))=c (n-(n+1-1-j))*Y (L-1-t+(n+1-1-j))
   rw[show n-(n+1-1-j)=j by omega,show L+(n-1)-(t+j)=L-1-t+(n+1-1-j) by omega]) (n-1-j0) (by omega)
  have b':zgb (Y (L+(n-1)-(L+(n-1-j0))))<=ε*(ε*B):=back
  rw[show L+(n-1)-(L+(n-1-j0))=j0 by omega]at b'
  have w1:=iK (Rat.le_of_lt he) JY
  have w2:=iK B0 w1
  grind
 unfold zgb at az
 split at az<;>grind
def Yj7{r:Rat}(h:0<1-r*r):zgb r<1:=by
 apply Rat.not_le.1
 intro hc
 have e:zgb r*zgb r=r*r:=by unfold zgb;split<;>grind
 have h1:=iK (@Zb2 r) hc
 grind
def dlt(k j:Nat):Rat:=if j=k then 1 else 0
def Vy(h:j≠k):dlt k j=0:=aA h
def Yoh:dlt k k=1:=aR rfl
def Ymm{c:Nat->Rat}(h0:c (k+1)≠0):qF c (k+1) k=c (k+1)*(1-c 0/c (k+1)*(c 0/c (k+1))):=by
 unfold qF
 rw[show k+1-1-k=0 by omega]
 have:=Rat.div_mul_cancel (a:=c 0) h0
 grind
def ps:∀{n:Nat} {c:Nat->Rat},c n≠0->PD c n->SF n c
 |0,_,h0,_=>h0
 |k+1,c,h0,hP=>by
  have hr:0<1-c 0/c (k+1)*(c 0/c (k+1)):=by
   have h1:=hP (dlt k) ⟨k,by omega,by rw[Yoh];decide⟩
   have e:VF c (k+1) (dlt k)=c (k+1)*c (k+1)-c 0*c 0:=by
    unfold VF
    rw[tj]
    have z:sR (fun m=>aF c (k+1) (dlt k) m*aF c (k+1) (dlt k) m-bF c (dlt k) m*bF c (dlt k) m) k=sR (fun _=>0) k:=il fun m hm=>by
     have a0:aF c (k+1) (dlt k) m=sR (fun _=>0) (m+1):=il fun j hj=>by
      rw[Vy (by omega)]
      grind
     have b0:bF c (dlt k) m=sR (fun _=>0) (m+1):=il fun j hj=>by
      rw[Vy (by omega)]
      grind
     rw[a0,b0,Lp]
     grind
    have a1:aF c (k+1) (dlt k) k=c (k+1):=by
     unfold aF
     rw[tj,il (g:=fun _=>0) (n:=k) (fun j hj=>by rw[Vy (by omega)];grind),Lp,Yoh,show k+1-k+k=k+1 by omega]
     grind
    have b1:bF c (dlt k) k=c 0:=by
     unfold bF
     rw[tj,il (g:=fun _=>0) (n:=k) (fun j hj=>by rw[Vy (by omega)];grind),Lp,Yoh,Nat.sub_self]
     grind
    rw[z,a1,b1,Lp]
    grind
   rw[e]at h1
   have hd:=Rat.div_mul_cancel (a:=c 0) h0
   generalize c 0/c (k+1)=r at*
   have hp:=S3 h0
   have e2:c (k+1)*c (k+1)-c 0*c 0=(1-r*r)*(c (k+1)*c (k+1)):=by rw[<-hd];grind
   rw[e2]at h1
   apply Rat.not_le.1
   intro hc
   have:=iK (Rat.le_of_lt hp) hc
   grind
  refine⟨h0,Yj7 hr,?_⟩
  have hq:qF c (k+1) k≠0:=by
   rw[Ymm h0]
   intro hc
   rcases Rat.mul_eq_zero.1 hc with h'|h'
   ·exact h0 h'
   ·rw[h']at hr
    exact Rat.lt_irrefl hr
  refine ps hq fun y ⟨j,hj,hy⟩=>?_
  obtain⟨y',rO⟩:∃y':Nat->Rat,y'=fun j=>if j=k then -(sR (fun i=>qF c (k+1) i*y i) k)/qF c (k+1) k else y j:=⟨_,rfl⟩
  have g1:∀i,i<k->y' i=y i:=fun i hi=>by rw[rO];exact aA (by omega)
  have g2:y' k*qF c (k+1) k= -(sR (fun i=>qF c (k+1) i*y i) k):=by
   rw[rO]
   show (if k=k then _ else _)*_=_
   rw[aR rfl]
   exact Rat.div_mul_cancel hq
  have z:sR (fun j=>qF c (k+1) j*y' j) (k+1)=0:=by
   rw[tj,il (g:=fun i=>qF c (k+1) i*y i) fun i hi=>by rw[g1 i hi]]
   grind
  have NN:=Zym (y:=y') h0
  have hp:=hP y' ⟨j,by omega,by rw[g1 j hj];exact hy⟩
  rw[z,Zyn (c':=qF c (k+1)) (y':=y) (n:=k) (fun _ _=>rfl) g1]at NN
  have:=Rat.mul_pos hr hp
  grind
def dds{c:Nat->Rat}{n:Nat}(h0:c n≠0)(h:Dd c n):SF n c:=by
 cases n with
 |zero=>exact h0
 |succ k=>exact ps h0 (cp (by omega) h0 (dc h (by omega)))
def Xei:∀{n:Nat} {c c':Nat->Rat},(∀j,j<=n->c j=c' j)->SF n c->SF n c'
 |0,c,c',h,hs=>by
  have gg:c 0≠0:=hs
  show c' 0≠0
  rw[<-h 0 (Yv5 _)]
  exact gg
 |n+1,c,c',h,hs=>by
  obtain⟨h0,hr,hq⟩:=hs
  refine⟨?_,?_,Xei (fun j hj=>?_) hq⟩
  ·rw[<-h _ (Yv5 _)]
   exact h0
  ·rw[<-h _ (Yv5 _),<-h 0 (by omega)]
   exact hr
  ·unfold qF
   rw[h _ (Yv5 _),h 0 (by omega),h (j+1) (by omega),h (n+1-1-j) (by omega)]
def Xek:∀{n:Nat} {p:List Rat},p.length=n+1->pg p n≠0->(mW (n+1) p=true↔SF n (pg p))
 |0,p,hl,h0=>⟨fun _=>h0,fun _=>Ypz (by omega)⟩
 |n+1,p,hl,h0=>by
  have lq:(gh p).length=n+1:=by rw[BK,hl];rfl
  have er:Yz0 p=pg p 0/pg p (n+1):=by unfold Yz0;rw[hl,show n+1+1-1=n+1 by omega]
  have eq:∀j,j<=n->pg (gh p) j=qF (pg p) (n+1) j:=fun j hj=>by
   rw[La (by omega),er,hl,show n+1+1-1-1-j=n+1-1-j by omega]
   rfl
  have es:mW (n+1+1) p=if 1<=zgb (Yz0 p) then false else mW (n+1) (gh p):=by
   conv=>lhs;unfold mW
   rw[aA (by omega)]
  have step:zgb (pg p 0/pg p (n+1))<1->(mW (n+1) (gh p)=true↔SF n (qF (pg p) (n+1))):=fun hr=>by
   have hz:pg (gh p) n≠0:=by
    have:=Zsd (p:=p) (by omega) (by rw[hl];exact h0) (by rw[er];exact hr)
    rw[lq]at this
    exact this
   rw[Xek lq hz]
   exact⟨Xei eq,Xei fun j hj=>(eq j hj).symm⟩
  rw[es,er]
  constructor
  ·intro h
   by_cases c:1<=zgb (pg p 0/pg p (n+1))
   ·rw[aR c]at h
    exact absurd h (by decide)
   ·rw[aA c]at h
    have hr:=Rat.not_le.1 c
    exact⟨h0,hr,(step hr).1 h⟩
  ·rintro⟨_,hr,hs⟩
   rw[aA (Rat.not_le.2 hr)]
   exact(step hr).2 hs
def Xeh{p:List Rat}(h1:1<=p.length)(h0:pg p (p.length-1)≠0):mW p.length p=true↔Dd (pg p) (p.length-1):=by
 obtain⟨n,hn⟩:∃n,p.length=n+1:=⟨p.length-1,by omega⟩
 rw[hn,Nat.add_sub_cancel]at h0 ⊢
 rw[Xek hn h0]
 exact⟨sd,dds h0⟩
def Xeq{c c':Nat->Rat}{n:Nat}(h:∀j,j<=n->c j=c' j)(hD:Dd c n):Dd c' n:=by
 obtain⟨K,hK,hD⟩:=hD
 refine⟨K,hK,fun y N B hi hu=>hD y N B hi fun t ht=>?_⟩
 have e:Tn c n y t=Tn c' n y t:=il fun j hj=>by rw[h j (by omega)]
 rw[e]
 exact hu t ht
def Xe4{x:Rat}{a:Nat}:∀{b:Nat},pwR x (a+b)=pwR x a*pwR x b
 |0=>by
  show pwR x a=pwR x a*1
  grind
 |b+1=>by
  have ih:=Xe4 (x:=x) (a:=a) (b:=b)
  show pwR x (a+b)*x=pwR x a*(pwR x b*x)
  rw[ih]
  grind
def rw(p:List Rat)(i m k:Nat):Rat:=pg (Ytx p i m) k
def Xes{f:Nat->Nat->Rat}{m:Nat}:∀{n:Nat},sR (fun i=>sR (fun j=>f i j) m) n=sR (fun j=>sR (fun i=>f i j) n) m
 |0=>by
  show (0:Rat)=sR (fun _=>0) m
  rw[Lp]
  grind
 |n+1=>by
  have ih:=Xes (f:=f) (m:=m) (n:=n)
  rw[tj,ih,<-Ycj]
  rfl
def Xen{x:Rat}(hx:x≠0):∀{k:Nat},pwR x k*pwR (1/x) k=1
 |0=>by show (1:Rat)*1=1;grind
 |k+1=>by
  have ih:=Xen hx (k:=k)
  have:=Rat.div_mul_cancel (a:=1) hx
  show pwR x k*x*(pwR (1/x) k*(1/x))=1
  generalize 1/x=d at*
  have e:pwR x k*x*(pwR d k*d)=pwR x k*pwR d k*(d*x):=by grind
  rw[e,ih,this]
  grind
def Xe6{b:Bool}:Dl 0 b=.aX [.bool b,.int .i64 0]:=aA (by simp)
def Xe8{a b:Rat}:0<=sg3 (a-b).num↔b<=a:=by
 have h:=@KV a b
 constructor
 ·intro hs
  apply Rat.not_lt.1
  intro hc
  have:=h.2 hc
  omega
 ·intro hs
  apply Int.not_lt.1
  intro hc
  exact(Rat.not_lt.2 hs) (h.1 hc)
variable {m n:Nat}
def Xgj{f:Nat->Rat}:∀{n:Nat},(∀k,k<n->f k=0)->sR f n=0
 |0,_=>rfl
 |n+1,h=>by
  rw[tj,Xgj (n:=n) fun k hk=>h k (by omega),h n (by omega)]
  grind
def Xgo{f:Nat->Rat}{a:Nat}:∀{b:Nat},a<=b->(∀k,a<=k->k<b->f k=0)->sR f b=sR f a
 |0,h,_=>by
  obtain rfl:a=0:=by omega
  rfl
 |b+1,h,hz=>by
  by_cases e:a=b+1
  ·rw[e]
  ·rw[tj,Xgo (a:=a) (b:=b) (by omega) fun k h1 h2=>hz k h1 (by omega),hz b (by omega) (by omega)]
   grind
def Xg4{f:Nat->Rat}{s:Nat}:∀{N:Nat},sR (fun k=>if s<=k then f (k-s) else 0) (s+N)=sR f N
 |0=>Xgj fun k hk=>aA (by omega)
 |N+1=>by
  have ih:=Xg4 (f:=f) (s:=s) (N:=N)
  show sR _ (s+N)+(if s<=s+N then f (s+N-s) else 0)=_
  rw[ih,aR (by omega),show s+N-s=N by omega]
  rfl
def cvF(c:Nat->Rat)(m:Nat)(d:Nat->Rat)(k:Nat):Rat:=sR (fun s=>if s<=k then c s*d (k-s) else 0) (m+1)
def Xhz{c d y:Nat->Rat}{t:Nat}(hd:∀l,n<l->d l=0):Tn (cvF c m d) (m+n) y t=Tn c m (fun s=>Tn d n y s) t:=by
 have e1:Tn (cvF c m d) (m+n) y t=sR (fun k=>sR (fun s=>if s<=k then c s*d (k-s)*y (t+k) else 0) (m+1)) (m+n+1):=il fun k _=>by
  unfold cvF
  rw[Rat.mul_comm,<-yZ]
  refine il fun s _=>?_
  by_cases h:s<=k
  ·rw[aR h,aR h]
   grind
  ·rw[aA h,aA h]
   grind
 rw[e1,Xes]
 unfold Tn
 refine il fun s hs=>?_
 have e2:sR (fun k=>if s<=k then c s*d (k-s)*y (t+k) else 0) (m+n+1)=sR (fun k=>if s<=k then (fun l=>c s*(d l*y (t+s+l))) (k-s) else 0) (s+(m+n+1-s)):=by
  rw[show s+(m+n+1-s)=m+n+1 by omega]
  refine il fun k _=>?_
  by_cases h:s<=k
  ·rw[aR h,aR h]
   show _=c s*(d (k-s)*y (t+s+(k-s)))
   rw[show t+s+(k-s)=t+k by omega]
   grind
  ·rw[aA h,aA h]
 have e3:=Xg4 (f:=fun l=>c s*(d l*y (t+s+l))) (s:=s) (N:=m+n+1-s)
 rw[e2]
 refine e3.trans ?_
 show _=c s*sR (fun j=>d j*y (t+s+j)) (n+1)
 rw[yZ,Xgo (a:=n+1) (by omega) fun l h1 _=>by rw[hd l (by omega)];grind]
def Xiq{c d:Nat->Rat}{k:Nat}(hc:∀l,m<l->c l=0):cvF c m d k=sR (fun s=>c s*d (k-s)) (k+1):=by
 have e1:sR (fun s=>if s<=k then c s*d (k-s) else 0) (m+k+1)=cvF c m d k:=Xgo (by omega) fun s h1 _=>by
  rw[hc s (by omega)]
  split<;>grind
 have e2:sR (fun s=>if s<=k then c s*d (k-s) else 0) (m+k+1)=sR (fun s=>if s<=k then c s*d (k-s) else 0) (k+1):=Xgo (by omega) fun s h1 _=>aA (by omega)
 rw[<-e1,e2]
 exact il fun s hs=>aR (by omega)
def Xhb{c d:Nat->Rat}{k:Nat}(hc:∀l,m<l->c l=0)(hd:∀l,n<l->d l=0):cvF c m d k=cvF d n c k:=by
 rw[Xiq hc,Xiq hd,<-R9]
 refine il fun s hs=>?_
 rw[Nat.add_sub_cancel,show k-(k-s)=s by omega,Rat.mul_comm]
def Xhy{c d:Nat->Rat}(hd:∀l,n<l->d l=0):cvF c m d (m+n)=c m*d n:=by
 unfold cvF
 rw[tj,aR (by omega),Xgj fun s hs=>by
  rw[aR (by omega),hd _ (by omega)]
  grind]
 rw[show m+n-m=n by omega]
 grind
def sA(c:Nat->Rat)(n:Nat):Rat:=sR (fun j=>zgb (c j)) (n+1)
def Yr9{c:Nat->Rat}{n:Nat}:0<=sA c n:=Dt fun _ _=>Zb2
def Xhp{c y:Nat->Rat}{t:Nat}{B:Rat}(h:∀j,j<=n->zgb (y (t+j))<=B):zgb (Tn c n y t)<=sA c n*B:=Ygl (d:=c) (y:=fun j=>y (t+j)) (m:=n+1) fun j hj=>h j (by omega)
def Xib{c d:Nat->Rat}(hd:∀l,n<l->d l=0)(h1:Dd c m)(h2:Dd d n):Dd (cvF c m d) (m+n):=by
 obtain⟨K1,k1,D1⟩:=h1
 obtain⟨K2,k2,D2⟩:=h2
 have a0:=@Yr9 d n
 have ka:=Rat.mul_nonneg k1 (show (0:Rat)<=sA d n+1 by grind)
 refine⟨K2*(K1*(sA d n+1)+1),Rat.mul_nonneg k2 (by grind),fun y N B hi hu t ht=>?_⟩
 have B0:0<=B:=by
  by_cases e:0<m+n
  ·exact Rat.le_trans Zb2 (hi 0 e)
  ·exact Rat.le_trans Zb2 (hu 0 (by omega))
 have aB:=Rat.mul_nonneg a0 B0
 have w:=D1 (fun s=>Tn d n y s) N ((sA d n+1)*B) (fun s hs=>by
  have:=Xhp (c:=d) (y:=y) (n:=n) (t:=s) (B:=B) fun j hj=>hi (s+j) (by omega)
  show zgb (Tn d n y s)<=_
  grind) (fun t ht=>by
  rw[<-Xhz hd]
  have:=hu t ht
  grind)
 have wB:=Rat.mul_nonneg ka B0
 have e:=D2 y (N+m) ((K1*(sA d n+1)+1)*B) (fun j hj=>by
  have:=hi j (by omega)
  grind) (fun s hs=>by
  have:zgb (Tn d n y s)<=K1*((sA d n+1)*B):=w s (by omega)
  grind) t (by omega)
 grind
def grow{d:Nat->Rat}{n:Nat}(h0:d n≠0):∀M:Nat,∃G,0<=G/\∀(y:Nat->Rat) (N:Nat) (B:Rat),(∀j,j<n->zgb (y j)<=B)->(∀t,t<N->zgb (Tn d n y t)<=B)->∀t,t<N+n->t<M+n->zgb (y t)<=G*B
 |0=>⟨1,by decide,fun y N B hi hu t _ ht=>by
  have:=hi t (by omega)
  grind⟩
 |M+1=>by
  obtain⟨G,g0,hG⟩:=grow h0 M
  have ad:=@Zb2 (1/d n)
  have a0:=@Yr9 d n
  have aG:=Rat.mul_nonneg a0 g0
  have g1:=Rat.mul_nonneg (show (0:Rat)<=1+sA d n*G by grind) ad
  refine⟨G+(1+sA d n*G)*zgb (1/d n),by grind,fun y N B hi hu t h1 h2=>?_⟩
  have B0:0<=B:=by
   by_cases e:0<n
   ·exact Rat.le_trans Zb2 (hi 0 e)
   ·exact Rat.le_trans Zb2 (hu 0 (by omega))
  have gB:=Rat.mul_nonneg g0 B0
  have g1B:=Rat.mul_nonneg g1 B0
  by_cases ct:t<M+n
  ·have:=hG y N B hi hu t h1 ct
   grind
  ·obtain rfl:t=M+n:=by omega
   have tn:Tn d n y M=sR (fun j=>d j*y (M+j)) n+d n*y (M+n):=rfl
   have ab:zgb (sR (fun j=>d j*y (M+j)) n)<=sR (fun j=>zgb (d j)) n*(G*B):=Ygl (d:=d) (y:=fun j=>y (M+j)) fun j hj=>hG y N B hi hu (M+j) (by omega) (by omega)
   have sl:sA d n=sR (fun j=>zgb (d j)) n+zgb (d n):=rfl
   have an:=@Zb2 (d n)
   have s1:=iK gB (show sR (fun j=>zgb (d j)) n<=sA d n by grind)
   have uM:=hu M (by omega)
   have ey:y (M+n)=(Tn d n y M+ -1*sR (fun j=>d j*y (M+j)) n)*(1/d n):=by
    have:=Rat.div_mul_cancel (a:=1) h0
    rw[tn]
    generalize 1/d n=i at*
    have e:(sR (fun j=>d j*y (M+j)) n+d n*y (M+n)+ -1*sR (fun j=>d j*y (M+j)) n)*i=y (M+n)*(i*d n):=by grind
    rw[e,this]
    grind
   have t1:=@Zrh (Tn d n y M) (-1*sR (fun j=>d j*y (M+j)) n)
   rw[BJ,show zgb (-1)=1 from rfl]at t1
   have t2:=iK ad (show zgb (Tn d n y M+ -1*sR (fun j=>d j*y (M+j)) n)<=B+sA d n*(G*B) by grind)
   rw[ey,BJ]
   grind
def Xgt{c d:Nat->Rat}(hd:∀l,n<l->d l=0)(h0:d n≠0)(h:Dd (cvF c m d) (m+n)):Dd d n:=by
 obtain⟨K,k0,D⟩:=h
 obtain⟨G,g0,hG⟩:=grow h0 m
 have a0:=@Yr9 c m
 have kg:=Rat.mul_nonneg k0 (show (0:Rat)<=G+sA c m by grind)
 refine⟨G+K*(G+sA c m),by grind,fun y N B hi hu t ht=>?_⟩
 have B0:0<=B:=by
  by_cases e:0<n
  ·exact Rat.le_trans Zb2 (hi 0 e)
  ·exact Rat.le_trans Zb2 (hu 0 (by omega))
 have gB:=Rat.mul_nonneg g0 B0
 have kB:=Rat.mul_nonneg kg B0
 have aB:=Rat.mul_nonneg a0 B0
 by_cases ct:t<m+n
 ·have:=hG y N B hi hu t ht ct
  grind
 ·have:=D y (N-m) ((G+sA c m)*B) (fun j hj=>by
   have:=hG y N B hi hu j (by omega) hj
   grind) (fun s hs=>by
   rw[Xhz hd]
   have:=Xhp (c:=c) (y:=fun s=>Tn d n y s) (n:=m) (t:=s) (B:=B) fun j hj=>hu (s+j) (by omega)
   grind) t (by omega)
  grind
def Xgy{c d:Nat->Rat}(hc:∀l,m<l->c l=0)(hd:∀l,n<l->d l=0)(c0:c m≠0)(d0:d n≠0):Dd (cvF c m d) (m+n)↔Dd c m/\Dd d n:=by
 constructor
 ·intro h
  refine⟨?_,Xgt hd d0 h⟩
  refine Xgt (c:=d) (m:=n) hc c0 ?_
  rw[Nat.add_comm]
  exact Xeq (fun k _=>Xhb hc hd) h
 ·rintro⟨h1,h2⟩
  exact Xib hd h1 h2
variable {a x:Rat} {k m n:Nat}
def Xf6{p:List Rat}(h:p.length<=k):pg p k=0:=by
 unfold pg
 rw[kc h]
 rfl
def Xh9{p:List Rat}{i:Nat}(hi:i<p.length):pg (p.set i x) k=if k=i then x else pg p k:=by
 unfold pg
 by_cases h:k=i
 ·subst h
  rw[aR rfl,lM hi]
  rfl
 ·rw[aA h,eJ (Ne.symm h)]
def Xg8{out:List Rat}{a:Rat}{q:List Rat}{i t:Nat}:∀{k:Nat},k<=q.length->i+q.length<=out.length->pg (Xgw out a q i k) t=pg out t+(if i<=t/\t<i+k then a*pg q (t-i) else 0)
 |0,_,_=>by
  rw[aA (by omega),Rat.add_zero]
  rfl
 |k+1,hk,hi=>by
  have ih:=fun t=>Xg8 (out:=out) (a:=a) (q:=q) (i:=i) (t:=t) (k:=k) (by omega) hi
  rw[Xgw,Xh9 (by rw[Xf2];omega)]
  by_cases h:t=i+k
  ·subst h
   rw[aR rfl,ih,aA (by omega),aR (by omega),show i+k-i=k by omega]
   grind
  ·rw[aA h,ih]
   by_cases h2:i<=t/\t<i+k
   ·rw[aR h2,aR (by omega)]
   ·rw[aA h2,aA (by omega)]
def Xg7{p q:List Rat}{t:Nat}:∀{i:Nat},i<=p.length->1<=q.length->pg (Xgh p q i) t=sR (fun s=>if s<=t then pg p s*pg q (t-s) else 0) i
 |0,_,_=>by
  show pg (List.replicate _ 0) t=0
  unfold pg
  by_cases h:t<p.length+q.length-1
  ·rw[List.getElem?_replicate,aR h]
   rfl
  ·rw[List.getElem?_replicate,aA h]
   rfl
 |i+1,hi,hq=>by
  rw[Xgh,Xg8 (Yv5 _) (by rw[Xf0];omega),Xg7 (by omega) hq,tj]
  by_cases h:i<=t
  ·rw[aR h]
   by_cases h2:t<i+q.length
   ·rw[aR ⟨h,h2⟩]
   ·rw[aA (by omega),Xf6 (p:=q) (by omega)]
    grind
  ·rw[aA (by omega),aA h]
def Xgp{p q:List Rat}:(Xgd p q).length=p.length+q.length-1:=Xf0
def Xgb{p q:List Rat}(hp:p.length=m+1)(hq:q.length=n+1):pg (Xgd p q) k=cvF (pg p) m (pg q) k:=by
 unfold Xgd
 rw[Xg7 (Yv5 _) (by omega),hp]
 rfl
def scF(p:List Rat)(x:Rat)(k:Nat):Rat:=pg p k*pwR x k
def Xg2{p:List Rat}(hp:p.length=n+1):∀l,n<l->scF p x l=0:=fun l hl=>by
 unfold scF
 rw[Xf6 (by omega)]
 grind
def Xg3{p q:List Rat}(hp:p.length=m+1)(hq:q.length=n+1):scF (Xgd p q) x k=cvF (scF p x) m (scF q x) k:=by
 unfold scF
 rw[Xgb hp hq]
 unfold cvF
 rw[Rat.mul_comm,<-yZ]
 refine il fun s _=>?_
 by_cases h:s<=k
 ·rw[aR h,aR h]
  have:=Xe4 (x:=x) (a:=s) (b:=k-s)
  rw[show s+(k-s)=k by omega]at this
  rw[this]
  grind
 ·rw[aA h,aA h]
  grind
structure RM (p:List Rat) (d:Nat) (sq:Rat):Prop where
 l:p.length=d+1
 z:pg p d≠0
 h:∀x:Rat,0<x->(Dd (scF p x) d↔sq<x*x)
def Xhm(hx:x≠0)(k:Nat):pwR x k≠0:=fun e=>by
 have:=Xen hx (k:=k)
 rw[e,Rat.zero_mul]at this
 exact absurd this (by decide)
def RM.sz{p:List Rat}{d:Nat}{sq:Rat}(R:RM p d sq)(hx:x≠0):scF p x d≠0:=fun hc=>by
 rcases Rat.mul_eq_zero.1 hc with e|e
 ·exact R.z e
 ·exact Xhm hx d e
def RM.mul{p q:List Rat}{s t:Rat}(P:RM p m s)(Q:RM q n t):RM (Xgd p q) (m+n) (if s<t then t else s):=by
 refine⟨by rw[Xgp,P.l,Q.l];omega,?_,fun x hx=>?_⟩
 ·rw[Xgb P.l Q.l,Xhy fun l hl=>Xf6 (by rw[Q.l];omega)]
  intro hc
  rcases Rat.mul_eq_zero.1 hc with e|e
  ·exact P.z e
  ·exact Q.z e
 ·have xn:x≠0:=by intro hc;rw[hc]at hx;exact Rat.lt_irrefl hx
  have e:Dd (scF (Xgd p q) x) (m+n)↔Dd (cvF (scF p x) m (scF q x)) (m+n):=⟨Xeq fun k _=>Xg3 P.l Q.l,Xeq fun k _=>(Xg3 P.l Q.l).symm⟩
  rw[e,Xgy (Xg2 P.l) (Xg2 Q.l) (P.sz xn) (Q.sz xn),P.h x hx,Q.h x hx]
  split
  ·constructor
   ·rintro⟨_,h⟩;exact h
   ·intro h;exact⟨by grind,h⟩
  ·constructor
   ·rintro⟨h,_⟩;exact h
   ·intro h;exact⟨h,by grind⟩
def RM.one:RM [1] 0 0:=by
 refine⟨rfl,by show (1:Rat)≠0;decide,fun x hx=>?_⟩
 have h1:SF 0 (scF [1] x):=by
  show (1:Rat)*1≠0
  grind
 have h2:=Rat.mul_pos hx hx
 exact⟨fun _=>h2,fun _=>sd h1⟩
def Xf4{b:Rat}(hb:0<b):zgb (a/b)<1↔zgb a<b:=by
 have hn:b≠0:=by intro hc;rw[hc]at hb;exact Rat.lt_irrefl hb
 have e:=Rat.div_mul_cancel (a:=a) hn
 have e2:zgb a=zgb (a/b)*b:=by
  conv=>lhs;rw[<-e]
  rw[BJ,show zgb b=b from aA (by grind)]
 rw[e2]
 constructor
 ·intro h
  have:=Rat.mul_pos hb (show (0:Rat)<1-zgb (a/b) by grind)
  grind
 ·intro h
  apply Rat.not_le.1
  intro hc
  have:=iK (Rat.le_of_lt hb) hc
  grind
def Xge{r:Rat}(hx:0<x):zgb r<x↔r*r<x*x:=by
 have h0:=@Zb2 r
 have e:r*r=zgb r*zgb r:=by unfold zgb;split<;>grind
 rw[e]
 generalize zgb r=a at*
 constructor
 ·intro h
  have:=Rat.mul_pos (show (0:Rat)<x-a by grind) (show (0:Rat)<x+a by grind)
  grind
 ·intro h
  apply Rat.not_le.1
  intro hc
  have:=Rat.mul_nonneg (show (0:Rat)<=a-x by grind) (show (0:Rat)<=a+x by grind)
  grind
def RM.lin{r:Rat}:RM [-r,1] 1 (r*r):=by
 refine⟨rfl,by show (1:Rat)≠0;decide,fun x hx=>?_⟩
 have e0:scF [-r,1] x 0= -r:=by show -r*1= -r;grind
 have e1:scF [-r,1] x 1=x:=by show 1*(1*x)=x;grind
 have xn:x≠0:=by intro hc;rw[hc]at hx;exact Rat.lt_irrefl hx
 have z:scF [-r,1] x 1≠0:=by rw[e1];exact xn
 have iff:Dd (scF [-r,1] x) 1↔SF 1 (scF [-r,1] x):=⟨dds z,sd⟩
 have sf:SF 1 (scF [-r,1] x)↔zgb (-r/x)<1:=by
  have q0:zgb (-r/x)<1->qF (scF [-r,1] x) 1 0≠0:=fun h=>by
   rw[Ymm (k:=0) z,e0,e1]
   obtain⟨h1,_⟩:=Ykk h
   intro hc
   rcases Rat.mul_eq_zero.1 hc with e|e
   ·exact xn e
   ·rw[e]at h1
    exact Rat.lt_irrefl h1
  constructor
  ·rintro⟨_,h,_⟩
   rw[e0,e1]at h
   exact h
  ·intro h
   exact⟨z,by rw[e0,e1];exact h,q0 h⟩
 rw[iff,sf,Xf4 hx,Xge hx]
 constructor<;>intro h<;>grind
def RM.zi8{b:Rat}:RM [a*a+b*b, -2*a,1] 2 (a*a+b*b):=by
 refine⟨rfl,by show (1:Rat)≠0;decide,fun x hx=>?_⟩
 obtain⟨s,hs⟩:∃s,a*a+b*b=s:=⟨_,rfl⟩
 have hsa:a*a<=s:=by have:=@lW b;grind
 rw[hs]
 have e0:scF [s, -2*a,1] x 0=s:=by show s*1=s;grind
 have e1:scF [s, -2*a,1] x 1= -2*a*x:=by show -2*a*(1*x)=_;grind
 have e2:scF [s, -2*a,1] x 2=x*x:=by show 1*(1*x*x)=_;grind
 have xx:=Rat.mul_pos hx hx
 have xn:x*x≠0:=by intro hc;rw[hc]at xx;exact Rat.lt_irrefl xx
 have z:scF [s, -2*a,1] x 2≠0:=by rw[e2];exact xn
 have s0:0<=s:=by have:=@lW a;grind
 have asq:zgb s=s:=aA (by grind)
 have iff:Dd (scF [s, -2*a,1] x) 2↔SF 2 (scF [s, -2*a,1] x):=⟨dds z,sd⟩
 rw[iff]
 constructor
 ·rintro⟨_,h,_⟩
  rw[e0,e2,Xf4 xx,asq]at h
  exact h
 ·intro h
  have hr:zgb (s/(x*x))<1:=by rw[Xf4 xx,asq];exact h
  obtain⟨r1,_⟩:=Ykk hr
  have hd:=Rat.div_mul_cancel (a:=s) xn
  have q1:qF (scF [s, -2*a,1] x) 2 1=x*x*(1-s/(x*x)*(s/(x*x))):=by rw[Ymm (k:=1) z,e0,e2]
  have q0:qF (scF [s, -2*a,1] x) 2 0= -2*a*x-s/(x*x)*(-2*a*x):=by
   show scF [s, -2*a,1] x 1-scF [s, -2*a,1] x 0/scF [s, -2*a,1] x 2*scF [s, -2*a,1] x 1=_
   rw[e0,e1,e2]
  have q1p:0<x*x*(1-s/(x*x)*(s/(x*x))):=Rat.mul_pos xx r1
  have q1z:qF (scF [s, -2*a,1] x) 2 1≠0:=by
   rw[q1]
   intro hc
   rw[hc]at q1p
   exact Rat.lt_irrefl q1p
  have key:zgb (-2*a*x-s/(x*x)*(-2*a*x))<x*x*(1-s/(x*x)*(s/(x*x))):=by
   have ax:zgb a<x:=(Xge hx).2 (by grind)
   have rn:0<=s/(x*x):=by
    refine Dv xx ?_
    rw[hd]
    grind
   have rl:s/(x*x)<1:=by
    have:=(@Nw (s/(x*x))).1
    grind
   have e: -2*a*x-s/(x*x)*(-2*a*x)=(1-s/(x*x))*(-2*(a*x)):=by grind
   rw[e,BJ,show zgb (1-s/(x*x))=1-s/(x*x) from aA (by grind),BJ,BJ,show zgb (-2)=2 from rfl,show zgb x=x from aA (by grind)]
   have aa:zgb a*zgb a<=s:=by
    have:a*a=zgb a*zgb a:=by unfold zgb;split<;>grind
    grind
   have a0:=@Zb2 a
   generalize zgb a=c at*
   generalize s/(x*x)=t at*
   have k1:=Rat.mul_pos (show (0:Rat)<x-c by grind) (show (0:Rat)<x-c by grind)
   have k2:2*(c*x)<x*x*(1+t):=by grind
   have:=Rat.mul_pos (show (0:Rat)<1-t by grind) (show (0:Rat)<x*x*(1+t)-2*(c*x) by grind)
   grind
  have r2:zgb (qF (scF [s, -2*a,1] x) 2 0/qF (scF [s, -2*a,1] x) 2 1)<1:=by
   rw[q0,q1,Xf4 q1p]
   exact key
  refine⟨z,by rw[e0,e2];exact hr,q1z,r2,?_⟩
  show qF (qF (scF [s, -2*a,1] x) 2) 1 0≠0
  rw[Ymm (k:=0) q1z]
  obtain⟨p1,_⟩:=Ykk r2
  intro hc
  rcases Rat.mul_eq_zero.1 hc with e|e
  ·exact q1z e
  ·rw[e]at p1
   exact Rat.lt_irrefl p1
end Go.Mx
