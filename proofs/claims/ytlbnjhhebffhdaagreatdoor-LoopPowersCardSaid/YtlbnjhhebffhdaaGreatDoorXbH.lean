/-A circle that contains all roots-/
import Derived.Test.YtlbnjhhebffhdaaGreatDoorXbB
set_option linter.all false
set_option maxHeartbeats 8000000
namespace Go.Mx
open Go Go.Proofs
variable {K:Nat} {x:Rat}
set_option maxRecDepth 1000000
def Xb0{q:Rat}:q*((q.den:Nat):Rat)=((q.num:Int):Rat)/\(1:Rat)<=((q.den:Nat):Rat):=by
 have rW:(1:Rat)<=((q.den:Nat):Rat):=by
  have:((1:Nat):Rat)<=((q.den:Nat):Rat):=Rat.natCast_le_natCast.2 q.den_pos
  exact this
 have h0:=AA q
 rw[Rat.divInt_eq_div]at h0
 have hd:((q.den:Nat):Rat)≠0:=fun h=>by
  rw[h]at rW
  exact absurd rW (by decide)
 have h2:=Rat.div_mul_cancel (a:=((q.num:Int):Rat)) hd
 refine⟨?_,rW⟩
 conv=>lhs;lhs;rw[<-h0]
 exact h2
def Xdr{n:Nat}:zgb ((n:Nat):Rat)=((n:Nat):Rat):=by
 have:((0:Nat):Rat)<=((n:Nat):Rat):=Rat.natCast_le_natCast.2 (tR _)
 have z:((0:Nat):Rat)=0:=rfl
 unfold zgb
 rw[aA (by rw[<-z];exact Rat.not_lt.2 this)]
def Xb8{q:Rat}:zgb q*((q.den:Nat):Rat)=((q.num.natAbs:Nat):Rat):=by
 obtain⟨h1,h2⟩:=@Xb0 q
 have h3:zgb (q*((q.den:Nat):Rat))=zgb q*((q.den:Nat):Rat):=by rw[BJ,Xdr]
 rw[<-h3,h1]
 unfold zgb
 by_cases c:q.num<0
 ·have e:((q.num.natAbs:Nat):Int)= -q.num:=by omega
  have e2:((q.num.natAbs:Nat):Rat)=(((q.num.natAbs:Nat):Int):Rat):=rfl
  rw[e2,e,Rat.intCast_neg,aR]
  have:((q.num:Int):Rat)<((0:Int):Rat):=Rat.intCast_lt_intCast.2 c
  exact this
 ·have e:((q.num.natAbs:Nat):Int)=q.num:=by omega
  have e2:((q.num.natAbs:Nat):Rat)=(((q.num.natAbs:Nat):Int):Rat):=rfl
  rw[e2,e,aA]
  have:((0:Int):Rat)<=((q.num:Int):Rat):=Rat.intCast_le_intCast.2 (by omega)
  exact Rat.not_lt.2 this
def Xb9{q:Rat}(h:Qb K q):zgb q<=((2^K:Nat):Rat):=by
 have h1:=@Xb8 q
 have h2:=(@Xb0 q).2
 have h3:((q.num.natAbs:Nat):Rat)<=((2^K:Nat):Rat):=Rat.natCast_le_natCast.2 (Nat.le_of_lt h.1)
 have h4:=iK (@Zb2 q) h2
 generalize ((2^K:Nat):Rat)=M at*
 grind
def Xca{q:Rat}(h:Qb K q)(h0:q≠0):1<=zgb q*((2^K:Nat):Rat):=by
 have h1:=@Xb8 q
 have h3:((q.den:Nat):Rat)<=((2^K:Nat):Rat):=Rat.natCast_le_natCast.2 (Nat.le_of_lt h.2)
 have h4:=iK (@Zb2 q) h3
 have h5:((1:Nat):Rat)<=((q.num.natAbs:Nat):Rat):=Rat.natCast_le_natCast.2 (by
  have:q.num≠0:=fun hc=>h0 (Rat.num_eq_zero.1 hc)
  omega)
 have h6:((1:Nat):Rat)=1:=rfl
 generalize ((2^K:Nat):Rat)=M at*
 grind
def Xam{x:Rat}(hx:1<=x):∀{k:Nat},0<pwR x k
 |0=>by rw[pwR];decide
 |k+1=>by
  rw[pwR]
  exact Rat.mul_pos (Xam hx) (by grind)
def Xbw{x:Rat}(hx:1<=x):∀{m k:Nat},k<=m->pwR x k<=pwR x m
 |0,k,h=>by
  obtain rfl:k=0:=by omega
  exact Rat.le_refl
 |m+1,k,h=>by
  by_cases e:k=m+1
  ·rw[e];exact Rat.le_refl
  ·have h1:=Xbw hx (m:=m) (k:=k) (by omega)
   have h2:=iK (Rat.le_of_lt (Xam hx (k:=m))) hx
   rw[pwR]
   grind
def Lp{c:Rat}:∀{n:Nat},sR (fun _=>c) n=(n:Rat)*c
 |0=>by
  show (0:Rat)=((0:Nat):Rat)*c
  rw[show ((0:Nat):Rat)=0 from rfl,Rat.zero_mul]
 |n+1=>by
  have ih:=Lp (c:=c) (n:=n)
  show sR (fun _=>c) n+c=_
  rw[ih,Rat.natCast_add,show ((1:Nat):Rat)=1 from rfl]
  grind
def Xcu{p:List Rat}{k:Nat}(hk:k<p.length):pg (zih p x) k=pg p k*pwR x k:=by
 have e:=Xag (x:=x) (iy (p:=p) (i:=k) hk)
 unfold pg at e ⊢
 rw[e]
 rfl
def Xc1{p:List Rat}{d:Nat}(hl:p.length=d+1)(hd:1<=d)(hz:pg p d≠0)(hq:∀y∈p,Qb K y)(x1:1<=x)(hx:(d:Rat)*(((2^K:Nat):Rat)*((2^K:Nat):Rat))<x):mW (d+1) (zih p x)=true:=by
 obtain⟨e,rfl⟩:∃e,d=e+1:=⟨d-1,by omega⟩
 refine Xbb (by rw[Yz1,hl]) ?_
 have bz:=Xca (hq _ (eI (iy (p:=p) (i:=e+1) (by omega)))) hz
 have hM:(1:Rat)<=((2^K:Nat):Rat):=by
  have:((1:Nat):Rat)<=((2^K:Nat):Rat):=Rat.natCast_le_natCast.2 (vu (by decide))
  exact this
 have hP:=Xam x1 (k:=e)
 have h1:sR (fun k=>zgb (pg (zih p x) k)) (e+1)<=sR (fun _=>((2^K:Nat):Rat)*pwR x e) (e+1):=Lo fun k hk=>by
  rw[Xcu (by omega),BJ]
  have a1:=Xb9 (hq _ (eI (iy (p:=p) (i:=k) (by omega))))
  have a2:zgb (pwR x k)=pwR x k:=aA (by have:=Xam x1 (k:=k);grind)
  have a3:=Xbw x1 (m:=e) (k:=k) (by omega)
  have a4:=iK (Rat.le_of_lt (Xam x1 (k:=k))) a1
  have a5:=iK (d:=((2^K:Nat):Rat)) (by grind) a3
  rw[a2]
  generalize ((2^K:Nat):Rat)=M at*
  grind
 rw[Lp]at h1
 have e2:zgb (pg (zih p x) (e+1))=zgb (pg p (e+1))*(pwR x e*x):=by
  have a2:zgb (pwR x (e+1))=pwR x (e+1):=aA (by have:=Xam x1 (k:=e+1);grind)
  rw[Xcu (by omega),BJ,a2,pwR]
 rw[e2]
 have hA:=@Zb2 (pg p (e+1))
 generalize zgb (pg p (e+1))=A at*
 generalize ((e+1:Nat):Rat)=D at*
 generalize ((2^K:Nat):Rat)=M at*
 generalize pwR x e=P at*
 have s1:D*M<A*x:=by
  have t1:D*M*M<A*x*M:=by
   have u1:=iK (d:=x) (by grind) bz
   grind
  apply Rat.not_le.1
  intro hc
  have:=iK (d:=M) (by grind) hc
  grind
 have s2:=Rat.mul_pos (show (0:Rat)<A*x-D*M by grind) hP
 grind
def Xda{p:List Rat}{B U n:Nat}(l1:2<=p.length)(hz:pg p (p.length-1)≠0)(hq:∀y∈p,Qb K y)(hU:1<=U)(hB:(p.length-1)*(2^K*2^K)*U<2^B)(hn:2^B<=n):inS p U n=true:=by
 obtain⟨d,hd⟩:∃d,p.length=d+1:=⟨p.length-1,by omega⟩
 unfold inS
 rw[hd,Nat.add_sub_cancel]at hz hB
 rw[hd]
 have u0:(0:Rat)<((U:Nat):Rat):=by
  have:((0:Nat):Rat)<((U:Nat):Rat):=Rat.natCast_lt_natCast.2 hU
  exact this
 have hx:(d:Rat)*(((2^K:Nat):Rat)*((2^K:Nat):Rat))<(n:Rat)/(U:Rat):=by
  have h1:((d*(2^K*2^K)*U:Nat):Rat)<((n:Nat):Rat):=Rat.natCast_lt_natCast.2 (by omega)
  rw[Rat.natCast_mul,Rat.natCast_mul,Rat.natCast_mul]at h1
  have h2:=Rat.div_mul_cancel (a:=((n:Nat):Rat)) (b:=((U:Nat):Rat)) (by grind)
  apply Rat.not_le.1
  intro hc
  have:=iK (Rat.le_of_lt u0) hc
  grind
 have zK:(1:Rat)<=(n:Rat)/(U:Rat):=by
  have h3:((1:Nat):Rat)<=((d*(2^K*2^K):Nat):Rat):=Rat.natCast_le_natCast.2 (xM (by omega) (xM (vu (by decide)) (vu (by decide))))
  rw[Rat.natCast_mul,Rat.natCast_mul]at h3
  have h4:((1:Nat):Rat)=1:=rfl
  grind
 exact Xc1 hd (by omega) hz hq zK hx
variable {a:List bj}
structure StH (a:List bj) (n:Int):Prop where
 la:a.length<=15
 fa:∀s∈a,s.length<=40
 f:ks a=0->wO a 6 4=true
 n:n<=8\/32<n
def Xco{l:List bj}{n:Nat}(h:wO l n 4=true):l.length<=n/\∀q∈ziB l,Qb 14 q:=by
 simp only[wO,jc,decide_eq_true_eq,uv]at h
 refine⟨h.1,fun q hq=>?_⟩
 obtain⟨s,hs,rfl⟩:=vo.1 hq
 exact(Xea (h.2 s hs)).2.2
def Xd3{e:Int}(c:Yz7 a e=0):ks a=0/\e=0/\a.length≠1:=by
 unfold Yz7 at c
 by_cases x:ks a=0
 ·rw[cN,aR x]at c
  by_cases y:e=0
  ·rw[cN,aR y]at c
   by_cases w:a.length=1
   ·rw[aR w,cN,aA (by decide)]at c;omega
   ·exact⟨x,y,w⟩
  ·rw[cN,aA y]at c;exact absurd c y
 ·rw[cN,aA x]at c;exact absurd c x
def StH.rad{n z:Int}(L:StH a n)(c:Yz7 a (RY z)=0):RdH (ziB a) 14 44 (10^z.toNat) z.toNat/\z=(z.toNat:Int):=by
 obtain⟨c1,c2,c3⟩:=Xd3 c
 obtain⟨a0,a1,a2,a3⟩:=Yti c1
 obtain⟨f1,f2⟩:=Xco (L.f c1)
 have lra:=@Yht a
 have hz:1<=z/\z<=3:=by
  unfold RY at c2
  split at c2
  ·omega
  ·rename_i hc;omega
 have ub:=Ybt (dec:=z.toNat) (by omega)
 rw[<-lra]at a0 a1 a3 c3 f1
 have p5:5^((ziB a).length-1)<=5^5:=Ywo (by decide) (by omega)
 have e5:(5:Nat)^5=3125:=by decide
 have kk:(14+((ziB a).length*(44+11)+1))*5^((ziB a).length-1)<=345*3125:=tU (by omega) (by omega)
 have e28:(2:Nat)^14*2^14=268435456:=by decide
 have e44:(2:Nat)^44=17592186044416:=by decide
 refine⟨⟨by omega,by omega,a3,f2,by decide,by omega,by decide,fun m hm=>Xda (K:=14) (by omega) a3 f2 ub.2 ?_ hm,rfl,by omega⟩,by omega⟩
 rw[e28,e44]
 have:=tU (tU (show (ziB a).length-1<=5 by omega) (Yv5 268435456)) ub.1
 omega
def Xcb(a:List bj)(z:Int):Rat:=((Xa5 (ziB a) (10^z.toNat) 44).1:Rat)/((10^z.toNat:Nat):Rat)
def Xcc(a:List bj)(z:Int):Rat:=((Xa5 (ziB a) (10^z.toNat) 44).2:Rat)/((10^z.toNat:Nat):Rat)
def StH.rqb{n z:Int}(L:StH a n)(c:Yz7 a (RY z)=0):Qb 55 (Xcb a z)/\Qb 55 (Xcc a z):=by
 obtain⟨R,_⟩:=L.rad c
 obtain⟨RI,hl⟩:=Xdz R.big
 have h1:=RI.le
 have h2:=RI.lt
 exact⟨R.qx (by omega),R.qx h1⟩
variable {n:Nat}
def Ycj{f g:Nat->Rat}:∀{n:Nat},sR (fun k=>f k+g k) n=sR f n+sR g n
 |0=>by show (0:Rat)=0+0;grind
 |n+1=>by
  have:=Ycj (f:=f) (g:=g) (n:=n)
  unfold sR
  grind
def yZ{f:Nat->Rat}{r:Rat}:∀{n:Nat},sR (fun k=>r*f k) n=r*sR f n
 |0=>by show (0:Rat)=r*0;grind
 |n+1=>by
  have:=yZ (f:=f) (r:=r) (n:=n)
  unfold sR
  grind
def aF(c:Nat->Rat)(n:Nat)(y:Nat->Rat)(m:Nat):Rat:=sR (fun j=>c (n-m+j)*y j) (m+1)
def bF(c:Nat->Rat)(y:Nat->Rat)(m:Nat):Rat:=sR (fun j=>c (m-j)*y j) (m+1)
def VF(c:Nat->Rat)(n:Nat)(y:Nat->Rat):Rat:=sR (fun m=>aF c n y m*aF c n y m-bF c y m*bF c y m) n
def Du(y:Nat->Rat)(j:Nat):Rat:=y (j+1)
def Yo7{c y:Nat->Rat}{m:Nat}(hm:m+1<=n):aF c n y (m+1)=c (n-m-1)*y 0+aF c n (Du y) m:=by
 unfold aF
 rw[<-HW (n:=m+1)]
 have e:sR (fun k=>c (n-(m+1)+(k+1))*y (k+1)) (m+1)=sR (fun j=>c (n-m+j)*Du y j) (m+1):=il fun k hk=>by
  rw[show n-(m+1)+(k+1)=n-m+k by omega]
  rfl
 rw[e,mY,show n-(m+1)=n-m-1 by omega]
 grind
def Yo0{c y:Nat->Rat}{m:Nat}:bF c y (m+1)=c (m+1)*y 0+bF c (Du y) m:=by
 unfold bF
 rw[<-HW (n:=m+1)]
 have e:sR (fun k=>c (m+1-(k+1))*y (k+1)) (m+1)=sR (fun j=>c (m-j)*Du y j) (m+1):=il fun k hk=>by
  rw[show m+1-(k+1)=m-k by omega]
  rfl
 rw[e,Nat.sub_zero]
 grind
def tri{F:Nat->Nat->Rat}:∀{n:Nat},sR (fun m=>sR (fun j=>F m j) (m+1)) n=sR (fun j=>sR (fun i=>F (j+i) j) (n-j)) n
 |0=>rfl
 |n+1=>by
  have ih:=tri (F:=F) (n:=n)
  have e1:sR (fun j=>sR (fun i=>F (j+i) j) (n+1-j)) n=sR (fun j=>sR (fun i=>F (j+i) j) (n-j)+F n j) n:=il fun j hj=>by
   rw[show n+1-j=n-j+1 by omega]
   show sR _ (n-j)+F (j+(n-j)) j=_
   rw[show j+(n-j)=n by omega]
  show sR (fun m=>sR (fun j=>F m j) (m+1)) n+(sR (fun j=>F n j) n+F n n)=sR (fun j=>sR (fun i=>F (j+i) j) (n+1-j)) n+sR (fun i=>F (n+i) n) (n+1-n)
  rw[ih,e1,Ycj,show n+1-n=1 by omega]
  show _=_+(0+F (n+0) n)
  rw[mY]
  grind
def Yvm{c y:Nat->Rat}:sR (fun m=>c (n-m)*aF c n y m) (n+1)=sR (fun m=>c m*bF c y m) (n+1):=by
 have e1:sR (fun m=>c (n-m)*aF c n y m) (n+1)=sR (fun m=>sR (fun j=>c (n-m)*(c (n-m+j)*y j)) (m+1)) (n+1):=il fun m _=>by
  unfold aF
  rw[yZ]
 have e2:sR (fun m=>c m*bF c y m) (n+1)=sR (fun m=>sR (fun j=>c m*(c (m-j)*y j)) (m+1)) (n+1):=il fun m _=>by
  unfold bF
  rw[yZ]
 rw[e1,e2,tri (F:=fun m j=>c (n-m)*(c (n-m+j)*y j)),tri (F:=fun m j=>c m*(c (m-j)*y j))]
 refine il fun j hj=>?_
 rw[<-R9]
 refine il fun i hi=>?_
 show c (n-(j+(n+1-j-1-i)))*(c (n-(j+(n+1-j-1-i))+j)*y j)=c (j+i)*(c (j+i-j)*y j)
 rw[show n-(j+(n+1-j-1-i))=i by omega,show j+i-j=i by omega,show i+j=j+i by omega]
 grind
def Ypb{c y:Nat->Rat}:VF c n (Du y)=VF c n y+aF c n y n*aF c n y n-bF c y n*bF c y n:=by
 have sh:=fun (f:Nat->Rat)=>HW (f:=f) (n:=n)
 have e1:VF c n (Du y)=sR (fun m=>(aF c n y (m+1)*aF c n y (m+1)-bF c y (m+1)*bF c y (m+1))-(2*y 0)*(c (n-(m+1))*aF c n y (m+1)-c (m+1)*bF c y (m+1))+(y 0*y 0)*(c (n-(m+1))*c (n-(m+1))-c (m+1)*c (m+1))) n:=by
  unfold VF
  refine il fun m hm=>?_
  have h1:=Yo7 (c:=c) (y:=y) (n:=n) (m:=m) (by omega)
  have h2:=Yo0 (c:=c) (y:=y) (m:=m)
  rw[show n-(m+1)=n-m-1 by omega]
  generalize aF c n (Du y) m=A at*
  generalize bF c (Du y) m=B at*
  rw[h1,h2]
  grind
 rw[e1,Ycj,yZ,Ay]
 have s1:=sh fun m=>aF c n y m*aF c n y m-bF c y m*bF c y m
 have s2:=sh fun m=>c (n-m)*aF c n y m-c m*bF c y m
 have s3:=sh fun m=>c (n-m)*c (n-m)-c m*c m
 have t1:sR (fun m=>aF c n y m*aF c n y m-bF c y m*bF c y m) (n+1)=VF c n y+(aF c n y n*aF c n y n-bF c y n*bF c y n):=rfl
 have t2:sR (fun m=>c (n-m)*aF c n y m-c m*bF c y m) (n+1)=0:=by
  have e:sR (fun m=>c (n-m)*aF c n y m-c m*bF c y m) (n+1)=sR (fun m=>c (n-m)*aF c n y m-1*(c m*bF c y m)) (n+1):=il fun m _=>by grind
  rw[e,Ay,Yvm]
  grind
 have t3:sR (fun m=>c (n-m)*c (n-m)-c m*c m) (n+1)=0:=by
  have e:sR (fun m=>c (n-m)*c (n-m)-c m*c m) (n+1)=sR (fun m=>c (n-m)*c (n-m)-1*(c m*c m)) (n+1):=il fun m _=>by grind
  have r:=R9 (f:=fun m=>c m*c m) (n:=n+1)
  have e3:sR (fun m=>c (n+1-1-m)*c (n+1-1-m)) (n+1)=sR (fun m=>c (n-m)*c (n-m)) (n+1):=il fun m _=>by rw[Nat.add_sub_cancel]
  rw[e,Ay,<-e3,r]
  grind
 have a0:aF c n y 0=c n*y 0:=by
  show (0:Rat)+c (n-0+0)*y 0=_
  rw[Nat.sub_zero,mY]
  grind
 have b0:bF c y 0=c 0*y 0:=by
  show (0:Rat)+c (0-0)*y 0=_
  grind
 rw[Nat.sub_zero]at s2 s3
 rw[t1,a0,b0]at s1
 rw[t2,a0,b0]at s2
 rw[t3]at s3
 grind
variable {k:Nat}
def qF(c:Nat->Rat)(n j:Nat):Rat:=c (j+1)-c 0/c n*c (n-1-j)
def tj{f:Nat->Rat}{n:Nat}:sR f (n+1)=sR f n+f n:=rfl
def Yub{c y:Nat->Rat}{m:Nat}(hm:m<=k):aF c (k+1) y m-c 0/c (k+1)*bF c y m=aF (qF c (k+1)) k y m:=by
 unfold aF bF
 rw[<-Ay]
 refine il fun j hj=>?_
 unfold qF
 rw[show k-m+j+1=k+1-m+j by omega,show k+1-1-(k-m+j)=m-j by omega]
 grind
def Yua{c y:Nat->Rat}{m:Nat}(h0:c (k+1)≠0)(hm:m+1<=k):bF c y (m+1)-c 0/c (k+1)*aF c (k+1) y (m+1)=bF (qF c (k+1)) y m:=by
 unfold aF bF
 rw[<-Ay,tj]
 have e:c (m+1-(m+1))*y (m+1)-c 0/c (k+1)*(c (k+1-(m+1)+(m+1))*y (m+1))=0:=by
  rw[Nat.sub_self,show k+1-(m+1)+(m+1)=k+1 by omega]
  have:=Rat.div_mul_cancel (a:=c 0) h0
  grind
 rw[e,Rat.add_zero]
 refine il fun j hj=>?_
 unfold qF
 rw[show m-j+1=m+1-j by omega,show k+1-1-(m-j)=k+1-(m+1)+j by omega]
 grind
def Zym{c y:Nat->Rat}(h0:c (k+1)≠0):(1-c 0/c (k+1)*(c 0/c (k+1)))*VF c (k+1) y=VF (qF c (k+1)) k y+sR (fun j=>qF c (k+1) j*y j) (k+1)*sR (fun j=>qF c (k+1) j*y j) (k+1):=by
 have hr:=Rat.div_mul_cancel (a:=c 0) h0
 have ha:=fun m (hm:m<=k)=>Yub (c:=c) (y:=y) hm
 have hb:=fun m (hm:m+1<=k)=>Yua (y:=y) h0 hm
 have hA:aF (qF c (k+1)) k y k=sR (fun j=>qF c (k+1) j*y j) (k+1):=by
  unfold aF
  refine il fun j hj=>?_
  rw[show k-k+j=j by omega]
 generalize c 0/c (k+1)=r at*
 have e1:(1-r*r)*VF c (k+1) y=sR (fun m=>aF (qF c (k+1)) k y m*aF (qF c (k+1)) k y m-1*((bF c y m-r*aF c (k+1) y m)*(bF c y m-r*aF c (k+1) y m))) (k+1):=by
  unfold VF
  rw[<-yZ]
  refine il fun m hm=>?_
  rw[<-ha m (by omega)]
  grind
 have b0:bF c y 0-r*aF c (k+1) y 0=0:=by
  show (0:Rat)+c (0-0)*y 0-r*(0+c (k+1-0+0)*y 0)=0
  rw[Nat.sub_zero,mY]
  grind
 have e2:sR (fun m=>(bF c y m-r*aF c (k+1) y m)*(bF c y m-r*aF c (k+1) y m)) (k+1)=sR (fun m=>bF (qF c (k+1)) y m*bF (qF c (k+1)) y m) k:=by
  rw[<-HW,b0]
  have:sR (fun m=>(bF c y (m+1)-r*aF c (k+1) y (m+1))*(bF c y (m+1)-r*aF c (k+1) y (m+1))) k=sR (fun m=>bF (qF c (k+1)) y m*bF (qF c (k+1)) y m) k:=il fun m hm=>by rw[hb m (by omega)]
  rw[this]
  grind
 have e3:VF (qF c (k+1)) k y=sR (fun m=>aF (qF c (k+1)) k y m*aF (qF c (k+1)) k y m) k-sR (fun m=>bF (qF c (k+1)) y m*bF (qF c (k+1)) y m) k:=by
  have:=Ay (f:=fun m=>aF (qF c (k+1)) k y m*aF (qF c (k+1)) k y m) (g:=fun m=>bF (qF c (k+1)) y m*bF (qF c (k+1)) y m) (r:=1) (n:=k)
  have e:VF (qF c (k+1)) k y=sR (fun m=>aF (qF c (k+1)) k y m*aF (qF c (k+1)) k y m-1*(bF (qF c (k+1)) y m*bF (qF c (k+1)) y m)) k:=by
   unfold VF
   exact il fun m _=>by grind
  rw[e,this]
  grind
 rw[e1,Ay,e2,tj,hA,e3]
 grind
def Zyn{c c' y y':Nat->Rat}{n:Nat}(hc:∀j,j<=n->c j=c' j)(hy:∀j,j<n->y j=y' j):VF c n y=VF c' n y':=by
 unfold VF
 refine il fun m hm=>?_
 have e1:aF c n y m=aF c' n y' m:=il fun j hj=>by rw[hc _ (by omega),hy _ (by omega)]
 have e2:bF c y m=bF c' y' m:=il fun j hj=>by rw[hc _ (by omega),hy _ (by omega)]
 rw[e1,e2]
def lW{x:Rat}:0<=x*x:=by
 by_cases h:0<=x
 ·exact Rat.mul_nonneg h h
 ·have:=Rat.mul_nonneg (show 0<= -x by grind) (show 0<= -x by grind)
  grind
def S3{x:Rat}(h:x≠0):0<x*x:=by
 have h1:=@lW x
 have h2:x*x≠0:=fun e=>by rcases Rat.mul_eq_zero.1 e with h'|h'<;>exact h h'
 grind
def cau{f:Nat->Rat}:∀{k:Nat},sR f k*sR f k<=(k:Rat)*sR (fun j=>f j*f j) k
 |0=>by
  show (0:Rat)*0<=((0:Nat):Rat)*0
  grind
 |k+1=>by
  have ih:=cau (f:=f) (k:=k)
  have key:∀m,2*(sR f m*f k)<=(m:Rat)*(f k*f k)+sR (fun j=>f j*f j) m:=fun m=>by
   induction m with
   |zero=>
    show 2*(0*f k)<=((0:Nat):Rat)*(f k*f k)+0
    rw[show ((0:Nat):Rat)=0 from rfl]
    grind
   |succ m ihm=>
    have h:=@lW (f m-f k)
    rw[tj,tj,Rat.natCast_add,show ((1:Nat):Rat)=1 from rfl]
    grind
  have h:=key k
  rw[tj,tj,Rat.natCast_add,show ((1:Nat):Rat)=1 from rfl]
  grind
def LB(c:Nat->Rat)(n:Nat)(κ:Rat):Prop:=∀(y:Nat->Rat) (j:Nat),j<n->κ*(y j*y j)<=VF c n y
def PD(c:Nat->Rat)(n:Nat):Prop:=∀y:Nat->Rat,(∃j,j<n/\y j≠0)->0<VF c n y
def Ytn{c:Nat->Rat}{κ:Rat}(hκ:0<κ):∀{n:Nat},LB c n κ->∀y,0<=VF c n y
 |0,_,_=>Rat.le_refl
 |n+1,h,y=>by
  have h1:=h y 0 (by omega)
  have h2:=Rat.mul_nonneg (Rat.le_of_lt hκ) (@lW (y 0))
  exact Rat.le_trans h2 h1
def Ykk{r:Rat}(h:zgb r<1):0<1-r*r/\r*r<=1:=by
 have hR:=@Zb2 r
 have rr:r*r=zgb r*zgb r:=by unfold zgb;split<;>grind
 rw[rr]
 generalize zgb r=a at*
 have h1:=Rat.mul_nonneg hR (show (0:Rat)<=1-a by grind)
 constructor<;>grind
def Dv{a b F:Rat}(hF:0<F)(h:a*F<=b*F):a<=b:=by
 apply Rat.not_lt.1
 intro hc
 have:=Rat.mul_pos hF (show (0:Rat)<a-b by grind)
 grind
def SF:Nat->(Nat->Rat)->Prop
 |0,c=>c 0≠0
 |n+1,c=>c (n+1)≠0/\zgb (c 0/c (n+1))<1/\SF n (qF c (n+1))
def Ynp{c:Nat->Rat}{κ:Rat}(h0:c (k+1)≠0)(hr:zgb (c 0/c (k+1))<1)(hκ:0<κ)(h:LB (qF c (k+1)) k κ):∃κ',0<κ'/\LB c (k+1) κ':=by
 obtain⟨r1,r2⟩:=Ykk hr
 have hq:qF c (k+1) k≠0:=by
  have e:qF c (k+1) k=c (k+1)*(1-c 0/c (k+1)*(c 0/c (k+1))):=by
   unfold qF
   rw[show k+1-1-k=0 by omega]
   have:=Rat.div_mul_cancel (a:=c 0) h0
   grind
  rw[e]
  intro hc
  rcases Rat.mul_eq_zero.1 hc with h'|h'
  ·exact h0 h'
  ·grind
 have NN:=fun y=>Zym (y:=y) h0
 have qn:=fun y=>Ytn hκ h y
 generalize hQ:qF c (k+1)=q at*
 generalize c 0/c (k+1)=r at*
 have vn:∀y,VF q k y<=VF c (k+1) y/\sR (fun j=>q j*y j) (k+1)*sR (fun j=>q j*y j) (k+1)<=VF c (k+1) y/\0<=VF c (k+1) y:=fun y=>by
  have h1:=NN y
  have h2:=qn y
  have h3:=@lW (sR (fun j=>q j*y j) (k+1))
  generalize sR (fun j=>q j*y j) (k+1)*sR (fun j=>q j*y j) (k+1)=A at*
  have h4:0<=VF c (k+1) y:=by
   apply Rat.not_lt.1
   intro hc
   have:=Rat.mul_pos r1 (show (0:Rat)< -VF c (k+1) y by grind)
   grind
  have h5:=Rat.mul_nonneg (@lW r) h4
  refine⟨?_,?_,h4⟩<;>grind
 have sQ:0<=sR (fun j=>q j*q j) k:=Dt fun j _=>lW
 have sk:(0:Rat)<=(k:Rat):=by
  have:((0:Nat):Rat)<=(k:Rat):=Rat.natCast_le_natCast.2 (tR _)
  exact this
 obtain⟨D,hD⟩:∃D,(k:Rat)*sR (fun j=>q j*q j) k=D:=⟨_,rfl⟩
 have D0:0<=D:=by rw[<-hD];exact Rat.mul_nonneg sk sQ
 have last:∀y,κ*(q k*q k)*(y k*y k)<=(2*κ+2*D)*VF c (k+1) y:=fun y=>by
  obtain⟨v1,v2,v3⟩:=vn y
  have c1:=cau (f:=fun j=>q j*y j) (k:=k)
  have c2:κ*sR (fun j=>q j*y j*(q j*y j)) k<=sR (fun j=>q j*q j) k*VF c (k+1) y:=by
   rw[<-yZ]
   have e:sR (fun j=>q j*q j) k*VF c (k+1) y=sR (fun j=>VF c (k+1) y*(q j*q j)) k:=by rw[yZ,Rat.mul_comm]
   rw[e]
   refine Lo fun j hj=>?_
   have h1:=Rat.le_trans (h y j hj) v1
   have h2:=iK (@lW (q j)) h1
   grind
  have c3:=iK sk c2
  have c4:=iK (Rat.le_of_lt hκ) c1
  rw[tj]at v2
  have c5:=iK (Rat.le_of_lt hκ) v2
  have c6:=Rat.mul_nonneg (Rat.le_of_lt hκ) (@lW (sR (fun j=>q j*y j) k+sR (fun j=>q j*y j) k+q k*y k))
  rw[<-hD]
  generalize sR (fun j=>q j*y j) k=S at*
  generalize sR (fun j=>q j*y j*(q j*y j)) k=S2 at*
  generalize sR (fun j=>q j*q j) k=Q2 at*
  generalize VF c (k+1) y=V at*
  generalize (k:Rat)=kk at*
  generalize q k=a at*
  generalize y k=b at*
  grind
 have mp:=S3 hq
 obtain⟨m,hm⟩:∃m,q k*q k=m:=⟨_,rfl⟩
 rw[hm]at mp last
 obtain⟨F,hF⟩:∃F,2*κ+2*D+m=F:=⟨_,rfl⟩
 have Fp:0<F:=by rw[<-hF];grind
 obtain⟨κ',hκ'⟩:∃κ',κ*m/F=κ':=⟨_,rfl⟩
 have e:κ'*F=κ*m:=by rw[<-hκ'];exact Rat.div_mul_cancel (by intro hc;rw[hc]at Fp;exact Rat.lt_irrefl Fp)
 have κp:0<κ':=by
  apply Rat.not_le.1
  intro hc
  have h1:=Rat.mul_nonneg (show (0:Rat)<= -κ' by grind) (Rat.le_of_lt Fp)
  have h2:=Rat.mul_pos hκ mp
  grind
 have le:κ'<=κ:=by
  refine Dv Fp ?_
  rw[e,<-hF]
  have h1:=Rat.mul_nonneg (Rat.le_of_lt hκ) (Rat.le_of_lt hκ)
  have h2:=Rat.mul_nonneg (Rat.le_of_lt hκ) D0
  grind
 refine⟨κ',κp,fun y j hj=>?_⟩
 obtain⟨v1,v2,v3⟩:=vn y
 by_cases Az:j=k
 ·subst Az
  refine Dv Fp ?_
  have h1:=last y
  have h2:=Rat.mul_nonneg (Rat.le_of_lt mp) v3
  rw[<-hF]at e ⊢
  have e3:κ'*(y j*y j)*(2*κ+2*D+m)=κ*m*(y j*y j):=by rw[<-e];grind
  rw[e3]
  grind
 ·have h1:=Rat.le_trans (h y j (by omega)) v1
  have h2:=iK (@lW (y j)) le
  exact Rat.le_trans h2 h1
def Yk3:∀{n:Nat} {c:Nat->Rat},SF n c->∃κ,0<κ/\LB c n κ
 |0,_,_=>⟨1,by decide,fun _ j hj=>absurd hj (by omega)⟩
 |n+1,c,h=>by
  obtain⟨h0,hr,hs⟩:=h
  obtain⟨κ,hκ,hl⟩:=Yk3 hs
  exact Ynp h0 hr hκ hl
variable {k n:Nat}
def Tn(c:Nat->Rat)(n:Nat)(y:Nat->Rat)(t:Nat):Rat:=sR (fun j=>c j*y (t+j)) (n+1)
def rv(c:Nat->Rat)(n j:Nat):Rat:=c (n-j)
def Yvq{c y:Nat->Rat}{t:Nat}:aF c n (fun j=>y (t+j)) n=Tn c n y t:=by
 unfold aF Tn
 refine il fun j hj=>?_
 rw[show n-n+j=j by omega]
def Yvp{c y:Nat->Rat}{t:Nat}:bF c (fun j=>y (t+j)) n=Tn (rv c n) n y t:=rfl
def Yvo{c y:Nat->Rat}{t:Nat}(h0:c (k+1)≠0):Tn (qF c (k+1)) k y (t+1)=Tn c (k+1) y t-c 0/c (k+1)*Tn (rv c (k+1)) (k+1) y t:=by
 unfold Tn
 rw[<-Ay,<-HW (n:=k+1)]
 have e0:c 0*y (t+0)-c 0/c (k+1)*(rv c (k+1) 0*y (t+0))=0:=by
  unfold rv
  have:=Rat.div_mul_cancel (a:=c 0) h0
  grind
 rw[e0,Rat.add_zero]
 refine il fun j hj=>?_
 unfold qF rv
 rw[show t+1+j=t+(j+1) by omega,show k+1-(j+1)=k+1-1-j by omega]
 grind
def Yvn{c y:Nat->Rat}{t:Nat}(h0:c (k+1)≠0):Tn (rv (qF c (k+1)) k) k y t=Tn (rv c (k+1)) (k+1) y t-c 0/c (k+1)*Tn c (k+1) y t:=by
 unfold Tn
 rw[<-Ay,tj (n:=k+1)]
 have e0:rv c (k+1) (k+1)*y (t+(k+1))-c 0/c (k+1)*(c (k+1)*y (t+(k+1)))=0:=by
  unfold rv
  rw[Nat.sub_self]
  have:=Rat.div_mul_cancel (a:=c 0) h0
  grind
 rw[e0,Rat.add_zero]
 refine il fun j hj=>?_
 unfold rv qF
 rw[show k-j+1=k+1-j by omega,show k+1-1-(k-j)=j by omega]
 grind
def Yk4:∀{n:Nat} {c:Nat->Rat},SF n c->∃K,0<=K/\∀(y:Nat->Rat) (t:Nat) (X:Rat),(∀s,s<=n->Tn c n y (t+s)*Tn c n y (t+s)<=X/\Tn (rv c n) n y (t+s)*Tn (rv c n) n y (t+s)<=X)->y (t+n)*y (t+n)<=K*X
 |0,c,h=>by
  have h0:0<c 0*c 0:=S3 h
  have hn:c 0*c 0≠0:=by intro hc;rw[hc]at h0;exact Rat.lt_irrefl h0
  have hc:=Rat.div_mul_cancel (a:=1) hn
  refine⟨1/(c 0*c 0),?_,fun y t X hX=>?_⟩
  ·refine Dv h0 ?_
   rw[hc]
   grind
  ·refine Dv h0 ?_
   have h1:=(hX 0 (by omega)).1
   have e:Tn c 0 y (t+0)=c 0*y (t+0):=by
    show (0:Rat)+c 0*y (t+0+0)=_
    grind
   rw[e]at h1
   have e2:1/(c 0*c 0)*X*(c 0*c 0)=X:=by
    generalize c 0*c 0=a at*
    generalize 1/a=b at*
    grind
   rw[e2]
   grind
 |k+1,c,h=>by
  obtain⟨h0,hr,hs⟩:=h
  obtain⟨r1,r2⟩:=Ykk hr
  obtain⟨K,hK,ih⟩:=Yk4 hs
  have a1:=fun y t=>Yvo (y:=y) (t:=t) h0
  have a2:=fun y t=>Yvn (y:=y) (t:=t) h0
  generalize c 0/c (k+1)=r at*
  refine⟨K*4,Rat.mul_nonneg hK (by decide),fun y t X hX=>?_⟩
  have key:∀a b:Rat,a*a<=X->b*b<=X->(a-r*b)*(a-r*b)<=4*X:=fun a b ha hb=>by
   have h1:=@lW (a+r*b)
   have h2:=iK (@lW b) r2
   grind
  have:=ih y (t+1) (4*X) fun s gg=>by
   obtain⟨x1,x2⟩:=hX s (by omega)
   obtain⟨x3,x4⟩:=hX (s+1) (by omega)
   rw[show t+1+s=t+s+1 by omega,a1,a2]
   rw[show t+(s+1)=t+s+1 by omega]at x3 x4
   exact⟨key _ _ x1 x2,key _ _ x4 x3⟩
  rw[show t+1+k=t+(k+1) by omega]at this
  grind
def S4{k:Nat}:(0:Rat)<=(k:Rat):=by
 have:((0:Nat):Rat)<=(k:Rat):=Rat.natCast_le_natCast.2 (tR _)
 exact this
def Ykl{d y:Nat->Rat}{m:Nat}{X:Rat}(h:∀j,j<m->y j*y j<=X):sR (fun j=>d j*y j) m*sR (fun j=>d j*y j) m<=(m:Rat)*sR (fun j=>d j*d j) m*X:=by
 have h1:=cau (f:=fun j=>d j*y j) (k:=m)
 have h2:sR (fun j=>d j*y j*(d j*y j)) m<=sR (fun j=>d j*d j) m*X:=by
  have e:sR (fun j=>d j*d j) m*X=sR (fun j=>X*(d j*d j)) m:=by rw[yZ,Rat.mul_comm]
  rw[e]
  refine Lo fun j hj=>?_
  have:=iK (@lW (d j)) (h j hj)
  grind
 have h3:=iK (S4 (k:=m)) h2
 grind
def Ygl{d y:Nat->Rat}{B:Rat}:∀{m:Nat},(∀j,j<m->zgb (y j)<=B)->zgb (sR (fun j=>d j*y j) m)<=sR (fun j=>zgb (d j)) m*B
 |0,_=>by
  show zgb 0<=0*B
  rw[show zgb 0=0 from rfl]
  grind
 |m+1,h=>by
  have ih:=Ygl (d:=d) (m:=m) fun j hj=>h j (by omega)
  rw[tj,tj]
  have h1:=@Zrh (sR (fun j=>d j*y j) m) (d m*y m)
  have h2:=iK (@Zb2 (d m)) (h m (by omega))
  rw[BJ]at h1
  grind
def rI(c:Nat->Rat)(n:Nat):Rat:=sR (fun m=>((m+1:Nat):Rat)*sR (fun j=>c (n-m+j)*c (n-m+j)) (m+1)) n
def NO(c:Nat->Rat)(n:Nat):Rat:=sR (fun m=>((m+1:Nat):Rat)*sR (fun j=>c (m-j)*c (m-j)) (m+1)) n
def S5{c:Nat->Rat}{n:Nat}:0<=rI c n/\0<=NO c n:=
 ⟨Dt fun _ _=>Rat.mul_nonneg S4 (Dt fun _ _=>lW),Dt fun _ _=>Rat.mul_nonneg S4 (Dt fun _ _=>lW)⟩
def Ypa{c y:Nat->Rat}{X:Rat}(h:∀j,j<n->y j*y j<=X):VF c n y<=rI c n*X/\ -VF c n y<=NO c n*X:=by
 unfold rI NO
 rw[Rat.mul_comm,<-yZ,Rat.mul_comm (sR _ n),<-yZ]
 have e: -VF c n y=sR (fun m=> -1*(aF c n y m*aF c n y m-bF c y m*bF c y m)) n:=by
  rw[yZ]
  show -VF c n y= -1*VF c n y
  grind
 rw[e]
 unfold VF
 constructor
 ·refine Lo fun m hm=>?_
  have h1:=Ykl (d:=fun j=>c (n-m+j)) (m:=m+1) fun j hj=>h j (by omega)
  have h2:=@lW (bF c y m)
  have h3:aF c n y m*aF c n y m<=_:=h1
  grind
 ·refine Lo fun m hm=>?_
  have h1:=Ykl (d:=fun j=>c (m-j)) (m:=m+1) fun j hj=>h j (by omega)
  have h2:=@lW (aF c n y m)
  have h3:bF c y m*bF c y m<=_:=h1
  grind
def Yp1{x q B:Rat}(hq:0<=q)(hB:0<=B)(h:x*x<=q*(B*B)):zgb x<=(1+q)*B:=by
 apply Rat.not_lt.1
 intro hc
 have e:zgb x*zgb x=x*x:=by unfold zgb;split<;>grind
 have hx:=@Zb2 x
 rw[<-e]at h
 generalize zgb x=a at*
 have h1:=Rat.mul_nonneg (show (0:Rat)<=1+q by grind) hB
 have h2:=Rat.mul_pos (show (0:Rat)<a-(1+q)*B by grind) (show (0:Rat)<a+(1+q)*B by grind)
 have h3:=Rat.mul_nonneg hq (@lW B)
 have h4:=Rat.mul_nonneg hq h3
 have h5:=@lW B
 grind
def Ygk{x B:Rat}(h:zgb x<=B):x*x<=B*B:=by
 have e:zgb x*zgb x=x*x:=by unfold zgb;split<;>grind
 have hx:=@Zb2 x
 rw[<-e]
 generalize zgb x=a at*
 have h1:=Rat.mul_nonneg (show (0:Rat)<=B-a by grind) (show (0:Rat)<=B+a by grind)
 grind
variable {n:Nat}
def Dd(c:Nat->Rat)(n:Nat):Prop:=∃K,0<=K/\∀(y:Nat->Rat) (N:Nat) (B:Rat),(∀j,j<n->zgb (y j)<=B)->(∀t,t<N->zgb (Tn c n y t)<=B)->∀t,t<N+n->zgb (y t)<=K*B
def Vt(c:Nat->Rat)(n:Nat)(y:Nat->Rat)(t:Nat):Rat:=VF c n (fun j=>y (t+j))
def Yo8{c y:Nat->Rat}{t:Nat}:Vt c n y (t+1)=Vt c n y t+Tn c n y t*Tn c n y t-Tn (rv c n) n y t*Tn (rv c n) n y t:=by
 have h:=Ypb (c:=c) (n:=n) (y:=fun j=>y (t+j))
 rw[Yvq,Yvp]at h
 unfold Vt
 rw[<-h]
 refine congrArg (VF c n) (funext fun j=>?_)
 show y (t+1+j)=y (t+(j+1))
 rw[show t+1+j=t+(j+1) by omega]
def sU(c:Nat->Rat)(n:Nat)(y:Nat->Rat)(t m:Nat):Rat:=sR (fun s=>Tn c n y (t+s)*Tn c n y (t+s)) m
def RW{c y:Nat->Rat}{n t:Nat}:∀{m:Nat},Vt c n y (t+m)=Vt c n y t+sU c n y t m-sU (rv c n) n y t m
 |0=>by
  show Vt c n y t=Vt c n y t+0-0
  grind
 |m+1=>by
  have ih:=RW (c:=c) (y:=y) (n:=n) (t:=t) (m:=m)
  have h:=Yo8 (c:=c) (y:=y) (n:=n) (t:=t+m)
  show Vt c n y (t+m+1)=Vt c n y t+(sU c n y t m+Tn c n y (t+m)*Tn c n y (t+m))-(sU (rv c n) n y t m+Tn (rv c n) n y (t+m)*Tn (rv c n) n y (t+m))
  rw[h,ih]
  grind
def Vu{c y:Nat->Rat}{n t m:Nat}:0<=sU c n y t m:=Dt fun _ _=>lW
def Vv{c y:Nat->Rat}{t m:Nat}{X:Rat}(h:∀s,s<m->Tn c n y (t+s)*Tn c n y (t+s)<=X):sU c n y t m<=(m:Rat)*X:=by
 rw[<-Lp]
 exact Lo h
def Vw{f:Nat->Rat}:∀{m i:Nat},(∀k,k<m->0<=f k)->i<m->f i<=sR f m
 |m+1,i,h,hi=>by
  have hs:=Dt (f:=f) (n:=m) fun k hk=>h k (by omega)
  rw[tj]
  by_cases e:i=m
  ·subst e
   grind
  ·have:=Vw (f:=f) (m:=m) (i:=i) (fun k hk=>h k (by omega)) (by omega)
   have:=h m (by omega)
   grind
def Yo9{c y:Nat->Rat}{t:Nat}{K X:Rat}(hK:0<=K)(hI:∀(y:Nat->Rat) (t:Nat) (X:Rat),(∀s,s<=n->Tn c n y (t+s)*Tn c n y (t+s)<=X/\Tn (rv c n) n y (t+s)*Tn (rv c n) n y (t+s)<=X)->y (t+n)*y (t+n)<=K*X)(hX:0<=X)(hu:∀s,s<n+n->Tn c n y (t+s)*Tn c n y (t+s)<=X):(1+rI c n*K)*Vt c n y (t+(n+n))<=((n:Rat)+rI c n*K*(1+2*(n:Rat)))*X+rI c n*K*Vt c n y t:=by
 have r1:=RW (c:=c) (y:=y) (n:=n) (t:=t) (m:=n+n)
 have r2:=RW (c:=c) (y:=y) (n:=n) (t:=t+n) (m:=n)
 have u1:=Vv hu
 have u2:=Vv (c:=c) (y:=y) (n:=n) (t:=t+n) (m:=n) (X:=X) fun s hs=>by
  have:=hu (n+s) (by omega)
  rw[show t+(n+s)=t+n+s by omega]at this
  exact this
 have s0:=@Vu c y n t (n+n)
 have s1:=@Vu (rv c n) y n t (n+n)
 have s2:=@Vu (rv c n) y n (t+n) n
 obtain⟨Z,hZ⟩:∃Z,X+sU (rv c n) n y t (n+n)=Z:=⟨_,rfl⟩
 have hv:∀s,s<n+n->Tn (rv c n) n y (t+s)*Tn (rv c n) n y (t+s)<=Z:=fun s hs=>by
  have:=Vw (f:=fun s=>Tn (rv c n) n y (t+s)*Tn (rv c n) n y (t+s)) (m:=n+n) (i:=s) (fun k _=>lW) hs
  have h2:Tn (rv c n) n y (t+s)*Tn (rv c n) n y (t+s)<=sU (rv c n) n y t (n+n):=this
  rw[<-hZ]
  grind
 have hw:∀s,s<n+n->Tn c n y (t+s)*Tn c n y (t+s)<=Z:=fun s hs=>by
  have:=hu s hs
  rw[<-hZ]
  grind
 have hy:∀j,j<n->y (t+n+j)*y (t+n+j)<=K*Z:=fun j hj=>by
  have:=hI y (t+j) Z fun s hs=>by
   rw[show t+j+s=t+(j+s) by omega]
   exact⟨hw _ (by omega),hv _ (by omega)⟩
  rw[show t+j+n=t+n+j by omega]at this
  exact this
 have hV:Vt c n y (t+n)<=rI c n*(K*Z):=(Ypa (c:=c) (y:=fun j=>y (t+n+j)) hy).1
 have hA:=(S5 (c:=c) (n:=n)).1
 have P0:=Rat.mul_nonneg hA hK
 rw[show t+n+n=t+(n+n) by omega]at r2
 rw[show ((n+n:Nat):Rat)=(n:Rat)+(n:Rat) from Rat.natCast_add _ _]at u1
 have e1:rI c n*(K*Z)=rI c n*K*Z:=by grind
 rw[e1]at hV
 generalize rI c n*K=P at*
 generalize Vt c n y (t+(n+n))=V2 at*
 generalize Vt c n y (t+n)=V1 at*
 generalize Vt c n y t=V0 at*
 generalize sU c n y t (n+n)=a at*
 generalize sU (rv c n) n y t (n+n)=b at*
 generalize sU c n y (t+n) n=d at*
 generalize sU (rv c n) n y (t+n) n=e at*
 generalize (n:Rat)=m at*
 have z1:Z<=X+(V0-V2)+(m+m)*X:=by rw[<-hZ];grind
 have z2:=iK P0 z1
 have v1:V2<=V1+m*X:=by grind
 grind
def sd{c:Nat->Rat}:∀{n:Nat},SF n c->Dd c n
 |0,h=>by
  have h0:c 0≠0:=h
  refine⟨zgb (1/c 0),Zb2,fun y N B _ hu t ht=>?_⟩
  have h1:=hu t (by omega)
  have e:Tn c 0 y t=c 0*y t:=by
   show (0:Rat)+c 0*y (t+0)=_
   rw[mY]
   grind
  have e2:y t=Tn c 0 y t*(1/c 0):=by
   have:=Rat.div_mul_cancel (a:=1) h0
   rw[e]
   grind
  rw[e2,BJ]
  have:=iK (@Zb2 (1/c 0)) h1
  grind
 |k+1,h=>by
  obtain⟨κ,hκ,hL⟩:=Yk3 h
  obtain⟨K,hK,hI⟩:=Yk4 h
  obtain⟨hA,_⟩:=S5 (c:=c) (n:=k+1)
  have P0:=Rat.mul_nonneg hA hK
  have n0:=S4 (k:=k+1)
  generalize hn:k+1=n at*
  obtain⟨C,hC⟩:∃C,rI c n+3*(n:Rat)+rI c n*K*(1+2*(n:Rat))=C:=⟨_,rfl⟩
  have Pn:=Rat.mul_nonneg P0 (show (0:Rat)<=1+2*(n:Rat) by grind)
  have C0:0<=C:=by rw[<-hC];grind
  have q0:0<=C/κ:=by
   refine Dv hκ ?_
   rw[Rat.div_mul_cancel (by intro hc;rw[hc]at hκ;exact Rat.lt_irrefl hκ)]
   grind
  refine⟨1+C/κ,by grind,fun y N B hi hu=>?_⟩
  have B0:0<=B:=Rat.le_trans Zb2 (hi 0 (by omega))
  have X0:=@lW B
  have uu:∀t,t<N->Tn c n y t*Tn c n y t<=B*B:=fun t ht=>Ygk (hu t ht)
  have vb:∀t,t<=N->Vt c n y t<=C*(B*B):=fun t=>by
   induction t using Nat.strongRecOn with
   |_ t ih=>
    intro ht
    by_cases h2:t<n+n
    ·have r:=RW (c:=c) (y:=y) (n:=n) (t:=0) (m:=t)
     rw[oJ]at r
     have s1:=@Vu (rv c n) y n 0 t
     have u1:=Vv (c:=c) (y:=y) (n:=n) (t:=0) (m:=t) (X:=B*B) fun s hs=>by
      rw[oJ]
      exact uu s (by omega)
     have v0:Vt c n y 0<=rI c n*(B*B):=(Ypa (c:=c) (y:=fun j=>y (0+j)) fun j hj=>by
      rw[oJ]
      exact Ygk (hi j hj)).1
     have tn:(t:Rat)<=(n:Rat)+(n:Rat):=by
      rw[<-Rat.natCast_add]
      exact Rat.natCast_le_natCast.2 (by omega)
     have t1:=iK X0 tn
     have t2:=Rat.mul_nonneg Pn X0
     have t3:=Rat.mul_nonneg n0 X0
     rw[r,<-hC]
     grind
    ·obtain⟨t',rfl⟩:∃t',t=t'+(n+n):=⟨t-(n+n),by omega⟩
     have f:=Yo9 (y:=y) (t:=t') hK hI X0 fun s hs=>uu _ (by omega)
     have i:=iK P0 (ih t' (by omega) (by omega))
     refine Dv (F:=1+rI c n*K) (by grind) ?_
     have t1:=Rat.mul_nonneg hA X0
     have t2:=Rat.mul_nonneg Pn X0
     have t3:=Rat.mul_nonneg n0 X0
     have e:C*(B*B)*(1+rI c n*K)=C*(B*B)*(rI c n*K)+(rI c n*(B*B)+3*(n:Rat)*(B*B)+rI c n*K*(1+2*(n:Rat))*(B*B)):=by
      rw[<-hC]
      grind
     rw[e]
     grind
  intro t ht
  obtain⟨t0,j,e,h1,h2⟩:∃t0 j,t=t0+j/\t0<=N/\j<n:=by
   by_cases h:t<N
   ·exact⟨t,0,rfl,by omega,by omega⟩
   ·exact⟨N,t-N,by omega,by omega,by omega⟩
  have h3:=hL (fun i=>y (t0+i)) j h2
  have h4:=vb t0 h1
  refine Yp1 q0 B0 ?_
  refine Dv hκ ?_
  have e2:C/κ*(B*B)*κ=C*(B*B):=by
   have:=Rat.div_mul_cancel (a:=C) (show κ≠0 by intro hc;rw[hc]at hκ;exact Rat.lt_irrefl hκ)
   grind
  rw[e2,e]
  have h5:κ*(y (t0+j)*y (t0+j))<=Vt c n y t0:=h3
  grind
end Go.Mx
