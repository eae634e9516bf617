/-What solves a matrix-/
import Derived.Test.YteojhfjdbpdolaaGreatDoorEcM
set_option linter.all false
namespace Go.Mx
open Go Go.Proofs
variable {i j n:Nat} {m:List (List Rat)}
set_option maxRecDepth 1000000
def Yl6{f:Nat->Rat}{n:Nat}:∀{c:Nat},sN f (n+c)=sN f n+sN (fun j=>f (n+j)) c
 |0=>by rw[kv];show sN f n=sN f n+0;rw[Rat.add_zero]
 |c+1=>by
  rw[<-oW]
  show sN f (n+c)+f (n+c)=sN f n+(sN (fun j=>f (n+j)) c+f (n+c))
  rw[Yl6,Rat.add_assoc]
def Yg8{G X:List (List Rat)}(hG:bg G n)(hi:i<G.length):az (cH G X) i j=if j<n then az G i j else az X i (j-n):=by
 have hl:=hG.at hi
 unfold az
 rw[Vy hi,fX]
 by_cases hj:j<n
 ·rw[av hj,iM (by omega)]
 ·rw[ak hj,kY (by omega),hl]
def Yrd(hi:i<m.length):az (m.map (List.drop n)) i j=az m i (n+j):=by
 unfold az
 rw[eY,cy hi]
 simp only[pL,fX,ff]
def Ynz{G X H:List (List Rat)}{c:Nat}(hG:bg G n)(hl:G.length=n)(hX:bg X c)(hx:X.length=n)(h0:0<n)(hs:pQ G X n c=some H):H.length=n/\bg H c/\∀i j,i<n->j<c->sN (fun l=>az G i l*az H l j) n=az X i j:=by
 have hW:=uY hG hX (by omega)
 have I:=nU hW (n:=n+c)
 have hle:=(mB hW (n:=n+c)).2
 rw[sL,hl]at hle
 unfold pQ at hs
 split at hs
 ·cases hs
 ·rename_i hn
  have hd:(aD (cH G X) (n+c)).2.1=n:=by omega
  have KP:(aD (cH G X) (n+c)).2.2[n-1]?.getD 0=n-1:=by omega
  have hr:=wN (n:=n+c) hW
  rw[hd]at hr
  obtain rfl:=oV hs
  have I2:yg (aD (cH G X) (n+c)).1 n (aD (cH G X) (n+c)).2.2 n:=by
   rw[hd]at I
   refine⟨I.len,I.le,fun i hi=>?_,I.yQ,I.one,I.lead,fun i k h1 h2 h3=>I.rest i k h1 h2 (by omega)⟩
   by_cases e:i=n-1
   ·rw[e,KP];omega
   ·have:=I.yQ i (n-1) (by omega) (by omega)
    omega
  have hp:∀i,i<n->(aD (cH G X) (n+c)).2.2[i]?.getD 0=i:=fun i hi=>PS I2 hi
  have nX:∀l,l∈(aD (cH G X) (n+c)).2.2↔l<n:=fun l=>by
   constructor
   ·intro hm
    obtain⟨i,hi⟩:=tc hm
    have t_:i<n:=by rw[<-I2.len];exact(wP.1 hi).1
    have:=hp i t_
    rw[hi]at this
    simp at this
    omega
   ·intro ay
    have:=hp l ay
    rw[cy (by rw[I2.len];exact ay)]at this
    simp only[fX]at this
    rw[<-this]
    exact List.getElem_mem _
  refine⟨by rw[dL,hr],fun r kb=>?_,fun i j hi hj=>?_⟩
  ·obtain⟨a,ha,rfl⟩:=dt.1 kb
   rw[uQ,uV (n:=n+c) hW a ha]
   omega
  ·obtain⟨V,hV⟩:∃V:Nat->Rat,∀l,V l=if l<n then az ((aU (cH G X) (n+c)).map (List.drop n)) l j else if l=n+j then -1 else 0:=⟨_,fun _=>rfl⟩
   have hk:kc (cH G X) (n+c) V:=by
    rw[<-KQ hW]
    intro a ha
    rw[hr]at ha
    rw[VC hW (by rw[hd];exact ha),hp a ha,hV,av ha,Yrd (by rw[hr];exact ha),yR (i:=n+j) (by omega)]
    ·rw[ak (fun h=>by have:=(nX _).1 h;omega),hV,ak (by omega),av rfl]
     grind
    ·intro l _ aW
     by_cases e:l<n
     ·rw[av ((nX l).2 e)]
     ·rw[ak (fun h=>e ((nX l).1 h)),hV,ak e,ak aW,Rat.mul_zero]
   have h:=hk i (by rw[sL];omega)
   rw[Yl6,yR (i:=j) (n:=c) hj]at h
   ·rw[Yg8 hG (by omega),ak (by omega),hV,ak (by omega),av rfl,Nat.add_sub_cancel_left]at h
    rw[dV (g:=fun l=>az G i l*az ((aU (cH G X) (n+c)).map (List.drop n)) l j) fun l i_=>by rw[Yg8 hG (by omega),av i_,hV,av i_]]at h
    grind
   ·intro l _ aW
    rw[hV,ak (by omega),ak (by omega),Rat.mul_zero]
def Yg9{c k:Nat}(h:(pq (aD m c).2.2 c)[i]?=some k)(hj:j<c):az (l9 m c) i j=uZ m c k j:=by
 unfold az l9
 rw[eY,h]
 simp only[pL,fX]
 exact Ys9 hj
def Yj4{c:Nat}(hc:bg m c){i:Nat}(hi:i<(bp m c).length):kc m c fun l=>az (bp m c) i l:=by
 intro b hb
 have h1:kc (l9 m c) c fun l=>az m b l:=by
  intro a ha
  obtain⟨k,hk⟩:=bk (l:=pq (aD m c).2.2 c) (k:=a) (by simpa[l9]using ha)
  have hm:=cG hk
  simp only[pq,List.mem_filter,u9]at hm
  have hf:k∉(aD m c).2.2:=by simpa using hm.2
  rw[<-Ymo hc hm.1 hf b hb]
  exact dV fun l hl=>by rw[Yg9 hk hl,Rat.mul_comm]
 rw[<-KQ DR]at h1
 have:=h1 i hi
 rw[<-this]
 exact dV fun l _=>by rw[Rat.mul_comm];rfl
def Ysr{c:Nat}{e:Nat->Rat}(hc:bg m c)(h1:kc (aU m c) c e)(h2:kc (bp m c) c e):∀j,j<c->e j=0:=by
 have I:=nU hc (n:=c)
 have hl:=wN (n:=c) hc
 have kI:kc (l9 m c) c e:=(KQ DR).1 h2
 have hk:∀k,k<c->k∉(aD m c).2.2->sN (fun j=>uZ m c k j*e j) c=0:=fun k hk hf=>by
  obtain⟨i,hi⟩:=tc (show k∈pq (aD m c).2.2 c by simp[pq,hk,hf])
  have:=kI i (by simpa[l9]using iY hi)
  rw[<-this]
  exact dV fun l hl=>by rw[Yg9 hi hl]
 have he:∀j,j<c->e j=sN (fun k=>if k∈(aD m c).2.2 then 0 else e k*uZ m c k j) c:=fun j hj=>by
  by_cases hm:j∈(aD m c).2.2
  ·obtain⟨i,hi,ei,ex⟩:=Yd3 hc hm
   have h:=h1 i (by rw[hl];exact hi)
   rw[VC hc hi,ei]at h
   have e2:sN (fun k=>if k∈(aD m c).2.2 then 0 else e k*uZ m c k j) c= -1*sN (fun k=>if k∈(aD m c).2.2 then 0 else az (aU m c) i k*e k) c:=by
    rw[<-l_]
    apply dV
    intro k _
    by_cases uc:k∈(aD m c).2.2
    ·rw[av uc,av uc,Rat.mul_zero]
    ·rw[ak uc,ak uc]
     have pR:¬j=k:=fun h=>by rw[h]at hm;exact uc hm
     unfold uZ
     rw[ak pR,av hm,ex]
     grind
   rw[e2]
   grind
  ·rw[yR (i:=j) hj]
   ·rw[ak hm]
    unfold uZ
    rw[av rfl,Rat.mul_one]
   ·intro k _ aW
    by_cases uc:k∈(aD m c).2.2
    ·rw[av uc]
    ·rw[ak uc]
     unfold uZ
     rw[ak (Ne.symm aW),ak hm,Rat.mul_zero]
 have key:sN (fun j=>e j*e j) c=0:=by
  have e1:∀j,j<c->e j*e j=sN (fun k=>e j*(if k∈(aD m c).2.2 then 0 else e k*uZ m c k j)) c:=fun j hj=>by
   rw[l_,<-he j hj]
  rw[dV e1,FN]
  apply Be
  intro k hkc
  by_cases uc:k∈(aD m c).2.2
  ·exact Be fun j _=>by rw[av uc,Rat.mul_zero]
  ·rw[dV (g:=fun j=>e k*(uZ m c k j*e j)) fun j _=>by rw[ak uc];grind,l_,hk k hkc uc,Rat.mul_zero]
 intro j hj
 exact Ywl (VD (fun _ _=>Ysa) key j hj)
variable {b i j n:Nat}
def kJ(i r:Nat):Nat:=if r<i then r else r+1
def iC(i:Nat):Rat:=if i%2=0 then 1 else -1
def cR:Nat->(Nat->Nat->Rat)->Rat
 |0,_=>1
 |n+1,A=>sN (fun i=>iC i*(A i 0*cR n (fun r u=>A (kJ i r) (u+1)))) (n+1)
def bh(A:Nat->Nat->Rat)(t:Nat)(a:Nat->Rat):Nat->Nat->Rat:=fun r u=>if r=t then a u else A r u
def yh:∀{n:Nat} {A B:Nat->Nat->Rat},(∀r u,r<n->u<n->A r u=B r u)->cR n A=cR n B
 |0,_,_,_=>rfl
 |n+1,A,B,h=>by
  unfold cR
  apply dV
  intro i hi
  rw[h i 0 hi (by omega),yh fun r u hr hu=>h (kJ i r) (u+1) (by unfold kJ;split<;>omega) (by omega)]
def Yhc:iC (i+1)= -iC i:=by
 unfold iC
 by_cases h:i%2=0
 ·rw[av h,ak (by omega)]
 ·rw[ak h,av (by omega)]
  rfl
def Ysh{r:Nat}:kJ i r≠i:=by unfold kJ;split<;>omega
def PT{x y:Rat}{a b:Nat->Rat}:∀{n t:Nat} {A:Nat->Nat->Rat},t<n->cR n (bh A t fun u=>x*a u+y*b u)=x*cR n (bh A t a)+y*cR n (bh A t b)
 |0,t,A,h=>by omega
 |n+1,t,A,h=>by
  unfold cR
  rw[<-l_,<-l_,<-zO]
  apply dV
  intro i hi
  by_cases e:i=t
  ·subst e
   have hm:∀v:Nat->Rat,cR n (fun r u=>bh A i v (kJ i r) (u+1))=cR n (fun r u=>A (kJ i r) (u+1)):=fun v=>yh fun r u _ _=>by
    unfold bh
    rw[ak Ysh]
   rw[hm,hm,hm]
   unfold bh
   rw[av rfl,av rfl,av rfl]
   grind
  ·obtain⟨s,hs,FO⟩:∃s,(∀r,kJ i r=t↔r=s)/\s<n:=by
    unfold kJ
    by_cases c:t<i
    ·exact⟨t,fun r=>by split<;>omega,by omega⟩
    ·exact⟨t-1,fun r=>by split<;>omega,by omega⟩
   have hm:∀v:Nat->Rat,cR n (fun r u=>bh A t v (kJ i r) (u+1))=cR n (bh (fun r u=>A (kJ i r) (u+1)) s fun u=>v (u+1)):=fun v=>yh fun r u _ _=>by
    unfold bh
    by_cases hr:r=s
    ·rw[av ((hs r).2 hr),av hr]
    ·rw[ak fun h=>hr ((hs r).1 h),ak hr]
   rw[hm,hm,hm,PT (n:=n) FO]
   unfold bh
   rw[ak e,ak e,ak e]
   grind
def PU:∀{n t:Nat} {A:Nat->Nat->Rat},t+1<n->(∀u,u<n->A t u=A (t+1) u)->cR n A=0
 |0,t,A,h,_=>by omega
 |n+1,t,A,h,he=>by
  unfold cR
  have hz:∀i,i<n+1->iC i*(A i 0*cR n (fun r u=>A (kJ i r) (u+1)))=(if i=t then iC t*(A t 0*cR n (fun r u=>A (kJ t r) (u+1))) else 0)+(if i=t+1 then iC (t+1)*(A (t+1) 0*cR n (fun r u=>A (kJ (t+1) r) (u+1))) else 0):=fun i hi=>by
   by_cases e1:i=t
   ·subst e1
    rw[av rfl,ak (by omega),Rat.add_zero]
   ·by_cases e2:i=t+1
    ·subst e2
     rw[av rfl,ak (by omega),Rat.zero_add]
    ·rw[ak e1,ak e2,Rat.add_zero]
     have:cR n (fun r u=>A (kJ i r) (u+1))=0:=by
      by_cases c:i<t
      ·refine PU (t:=t-1) (by omega) fun u hu=>?_
       simp only[kJ]
       rw[ak (by omega),ak (by omega),show t-1+1=t by omega]
       exact he (u+1) (by omega)
      ·refine PU (t:=t) (by omega) fun u hu=>?_
       simp only[kJ]
       rw[av (by omega),av (by omega)]
       exact he (u+1) (by omega)
     rw[this,Rat.mul_zero,Rat.mul_zero]
  rw[dV hz,zO,yR (i:=t) (by omega) fun j _ hj=>ak hj,yR (i:=t+1) (by omega) fun j _ hj=>ak hj,av rfl,av rfl,Yhc,he 0 (by omega)]
  have:cR n (fun r u=>A (kJ t r) (u+1))=cR n (fun r u=>A (kJ (t+1) r) (u+1)):=yh fun r u _ hu=>by
   unfold kJ
   by_cases e:r=t
   ·subst e
    rw[ak (by omega),av (by omega)]
    exact(he (u+1) (by omega)).symm
   ·by_cases c:r<t
    ·rw[av c,av (by omega)]
    ·rw[ak c,ak (by omega)]
  rw[this]
  grind
def Yc9{A:Nat->Nat->Rat}{t:Nat}{r u:Nat}:bh A t (A t) r u=A r u:=by
 unfold bh
 split
 ·rename_i h;rw[h]
 ·rfl
def Zsg{t:Nat}{A:Nat->Nat->Rat}:cR n (bh A t (A t))=cR n A:=yh fun _ _ _ _=>Yc9
def PV{a b:Nat->Rat}{t:Nat}{A:Nat->Nat->Rat}(h:t<n):cR n (bh A t fun u=>a u+b u)=cR n (bh A t a)+cR n (bh A t b):=by
 have:=PT (x:=1) (y:=1) (a:=a) (b:=b) (A:=A) h
 rw[Rat.one_mul,Rat.one_mul]at this
 rw[<-this]
 exact yh fun r u _ _=>by unfold bh;split<;>grind
def Ykz{a b:Nat->Rat}{t:Nat}{A:Nat->Nat->Rat}(h:t+1<n):cR n (bh (bh A t a) (t+1) b)= -cR n (bh (bh A t b) (t+1) a):=by
 have z:∀v:Nat->Rat,cR n (bh (bh A t v) (t+1) v)=0:=fun v=>PU h fun u _=>by
  unfold bh
  rw[ak (by omega),av rfl,av rfl]
 have sw:∀v w:Nat->Rat,cR n (bh (bh A t v) (t+1) w)=cR n (bh (bh A (t+1) w) t v):=fun v w=>yh fun r u _ _=>by
  unfold bh
  by_cases e1:r=t+1
  ·rw[av e1,ak (by omega),av e1]
  ·rw[ak e1,ak e1]
 have h0:=z fun u=>a u+b u
 rw[PV h,sw _ a,sw _ b,PV (by omega),PV (by omega),<-sw,<-sw,<-sw,<-sw,z,z]at h0
 grind
def VE{n:Nat}:∀{k s:Nat} {A:Nat->Nat->Rat},s+1+k<n->(∀u,u<n->A s u=A (s+1+k) u)->cR n A=0
 |0,s,A,h,he=>PU h he
 |k+1,s,A,h,he=>by
  have h1:cR n A=cR n (bh (bh A (s+1+k) (A (s+1+k))) (s+1+k+1) (A (s+1+k+1))):=yh fun r u _ _=>by
   unfold bh
   by_cases e:r=s+1+k+1
   ·rw[av e,e]
   ·rw[ak e]
    by_cases e2:r=s+1+k
    ·rw[av e2,e2]
    ·rw[ak e2]
  rw[h1,Ykz (by omega),VE (k:=k) (s:=s) (by omega) fun u hu=>?_]
  ·rfl
  ·unfold bh
   rw[ak (by omega),ak (by omega),ak (by omega),av rfl]
   exact he u hu
def Yqt{A:Nat->Nat->Rat}(hi:i<n)(hj:j<n)(aW:i≠j)(he:∀u,u<n->A i u=A j u):cR n A=0:=by
 rcases Nat.lt_or_gt_of_ne aW with h|h
 ·exact VE (k:=j-i-1) (s:=i) (by omega) (by rw[show i+1+(j-i-1)=j by omega];exact he)
 ·exact VE (k:=i-j-1) (s:=j) (by omega) (by rw[show j+1+(i-j-1)=i by omega];exact fun u hu=>(he u hu).symm)
def Ygm{A:Nat->Nat->Rat}(hi:i<n)(hj:j<n):cR n (bh A j (A i))=if i=j then cR n A else 0:=by
 by_cases e:i=j
 ·subst e
  rw[av rfl,Zsg]
 ·rw[ak e]
  exact Yqt hi hj e fun u _=>by
   unfold bh
   rw[ak e,av rfl]
def Ykx{t:Nat}{A:Nat->Nat->Rat}(h:t<n):cR n (bh A t fun _=>0)=0:=by
 have:=PT (x:=0) (y:=0) (a:=fun _=>0) (b:=fun _=>0) (A:=A) h
 have e:cR n (bh A t fun _=>0)=cR n (bh A t fun _=>(0:Rat)*0+0*0):=yh fun r u _ _=>by
  unfold bh
  split
  ·show (0:Rat)=0*0+0*0
   grind
  ·rfl
 rw[e,this]
 grind
def VF{n j:Nat}{A:Nat->Nat->Rat}{c:Nat->Rat}{w:Nat->Nat->Rat}(hj:j<n):∀{k:Nat},cR n (bh A j fun u=>sN (fun t=>c t*w t u) k)=sN (fun t=>c t*cR n (bh A j (w t))) k
 |0=>Ykx hj
 |k+1=>by
  have:=PT (x:=1) (y:=c k) (a:=fun u=>sN (fun t=>c t*w t u) k) (b:=w k) (A:=A) hj
  rw[Rat.one_mul,VF hj]at this
  unfold sN
  rw[<-this]
  exact yh fun r u _ _=>by
   unfold bh
   split
   ·show _=1*_+_
    rw[Rat.one_mul]
   ·rfl
def Bf(l u:Nat):Rat:=if u=l then 1 else 0
def Yky{A:Nat->Nat->Rat}{v:Nat->Rat}(hj:j<n):cR n (bh A j v)=sN (fun l=>v l*cR n (bh A j (Bf l))) n:=by
 rw[<-VF hj]
 apply yh
 intro r u _ hu
 unfold bh
 split
 ·show v u=sN (fun t=>v t*Bf t u) n
  rw[yR (i:=u) hu]
  ·unfold Bf
   rw[av rfl,Rat.mul_one]
  ·intro l _ aW
   unfold Bf
   rw[ak (Ne.symm aW),Rat.mul_zero]
 ·rfl
def Zy4{π:Rat}:∀{n:Nat} {A:Nat->Nat->Rat},(∀u,u<n->A n u=0)->A n n=π->cR (n+1) A=π*cR n A
 |0,A,_,h=>by
  simp only[cR,sN,h,iC]
  grind
 |n+1,A,hz,h=>by
  rw[cR]
  have e:∀i,i<n+1+1->iC i*(A i 0*cR (n+1) (fun r u=>A (kJ i r) (u+1)))=if i<n+1 then π*(iC i*(A i 0*cR n (fun r u=>A (kJ i r) (u+1)))) else 0:=fun i hi=>by
   by_cases c:i<n+1
   ·rw[av c,Zy4 (n:=n) (π:=π) (fun u hu=>?_) ?_]
    ·grind
    ·simp only[kJ]
     rw[ak (by omega)]
     exact h
    ·simp only[kJ]
     rw[ak (by omega)]
     exact hz _ (by omega)
   ·obtain rfl:i=n+1:=by omega
    rw[ak c,hz 0 (by omega),Rat.zero_mul,Rat.mul_zero]
  rw[dV e]
  show sN _ (n+1)+(if n+1<n+1 then π*(iC (n+1)*(A (n+1) 0*cR n (fun r u=>A (kJ (n+1) r) (u+1)))) else 0)=_
  rw[ak (by omega),Rat.add_zero,cR,<-l_]
  apply dV
  intro i hi
  rw[av hi]
def eK(b:Nat)(q:Rat):Prop:=∃z:Int,q=(z:Rat)/\z.natAbs<2^b
def eK.mul{a:Nat}{p q:Rat}(hp:eK a p)(hq:eK b q):eK (a+b) (p*q):=by
 obtain⟨x,rfl,hx⟩:=hp
 obtain⟨y,rfl,hy⟩:=hq
 refine⟨x*y,by rw[Rat.intCast_mul],?_⟩
 rw[u_,ke]
 exact Bg hx hy
def eK.sum{b:Nat}{f:Nat->Rat}:∀{n:Nat},(∀i,i<n->eK b (f i))->∃z:Int,sN f n=(z:Rat)/\z.natAbs<=n*2^b
 |0,_=>⟨0,rfl,by simp⟩
 |n+1,h=>by
  obtain⟨z,h1,h2⟩:=eK.sum (n:=n) fun i hi=>h i (by omega)
  obtain⟨y,h3,h4⟩:=h n (by omega)
  refine⟨z+y,by unfold sN;rw[h1,h3,Rat.intCast_add],?_⟩
  have:=Int.natAbs_add_le z y
  rw[iZ]
  omega
def eK.FQ{m:Nat}{f:Nat->Rat}(h:∀i,i<n->eK b (f i))(hn:n<2^m):eK (b+m) (sN f n):=by
 obtain⟨z,h1,h2⟩:=eK.sum h
 refine⟨z,h1,qP h2 ?_⟩
 rw[Nat.add_comm,ke]
 exact IS hn (qQ b)
def eK.mono{a:Nat}{q:Rat}(h:eK a q)(gp:a<=b):eK b q:=by
 obtain⟨z,h1,h2⟩:=h
 exact⟨z,h1,eX h2 (qS (by decide) gp)⟩
def eK.iC:eK 1 (iC i):=by
 unfold Go.Mx.iC
 split
 ·exact⟨1,rfl,by decide⟩
 ·exact⟨-1,rfl,by decide⟩
def VG{b:Nat}:∀{n:Nat} {A:Nat->Nat->Rat},(∀r u,r<n->u<n->eK b (A r u))->eK (n*(b+n+1)+1) (cR n A)
 |0,_,_=>⟨1,rfl,by rw[Nat.zero_mul];decide⟩
 |n+1,A,h=>by
  unfold cR
  have e:∀i,i<n+1->eK (1+(b+(n*(b+n+1)+1))) (iC i*(A i 0*cR n (fun r u=>A (kJ i r) (u+1)))):=fun i hi=>eK.iC.mul ((h i 0 hi (by omega)).mul (VG fun r u hr hu=>h _ _ (by unfold kJ;split<;>omega) (by omega)))
  have:=eK.FQ (m:=n+1) e Nat.lt_two_pow_self
  refine this.mono ?_
  have:(n+1)*(b+(n+1)+1)=n*(b+n+1)+n+(b+n+2):=by grind
  omega
variable {Bs m:List (List Rat)} {R d n:Nat} {b k s v x y:Rat}
def PW(m:List (List Rat))(c R:Nat):Prop:=∀i,i<m.length->∃s:Rat,s≠0/\eK R s/\∀l,l<c->eK R (s*az m i l)
def eK.qb{b:Nat}{q D:Rat}(h0:D≠0)(hD:eK b D)(hq:eK b (D*q)):Qb b q:=by
 obtain⟨x,rfl,hx⟩:=hD
 obtain⟨y,h1,hy⟩:=hq
 have mH:x≠0:=fun h=>h0 (by rw[h];rfl)
 have e:q=Rat.divInt y x:=by
  rw[Rat.divInt_eq_div,<-h1,Rat.div_def]
  have:=Rat.mul_inv_cancel (x:Rat) h0
  grind
 rw[e]
 exact VH mH hy hx
def Zs8{K:Nat}:∀{r:List Rat},(∀q∈r,Qb K q)->∃s:Rat,s≠0/\eK (r.length*K+1) s/\∀q∈r,eK (r.length*K+1) (s*q)
 |[],_=>⟨1,by decide,⟨1,rfl,by rw[List.length_nil,Nat.zero_mul];decide⟩,fun q hq=>by simp at hq⟩
 |p::t,h=>by
  obtain⟨s,h1,h2,h3⟩:=Zs8 (r:=t) fun q hq=>h q (oU _ hq)
  have hp:=h p ph
  have hd:eK K ((p.den:Int):Rat):=⟨_,rfl,by rw[dR];exact hp.2⟩
  have hn:eK K ((p.num:Int):Rat):=⟨_,rfl,hp.1⟩
  have nY:((p.den:Int):Rat)≠0:=fun hc=>p.den_nz (by have:=Rat.intCast_inj.1 (hc.trans (by rfl:(0:Rat)=((0:Int):Rat)));omega)
  have e:((p.den:Int):Rat)*p=(p.num:Rat):=by
   have h1:=Cd p
   rw[Rat.divInt_eq_div,Rat.div_def]at h1
   have h2:=Rat.mul_inv_cancel _ nY
   conv=>lhs;arg 2;rw[<-h1]
   generalize ((p.den:Int):Rat)=x at*
   grind
  have ek:(t.length+1)*K+1=t.length*K+1+K:=by grind
  refine⟨s*((p.den:Int):Rat),fun hc=>?_,?_,fun q hq=>?_⟩
  ·rcases Rat.mul_eq_zero.1 hc with h|h
   ·exact h1 h
   ·exact nY h
  ·rw[bo,ek]
   exact h2.mul hd
  ·rw[bo,ek]
   rcases kW.1 hq with rfl|hq
   ·have:=h2.mul hn
    rw[<-e]at this
    rw[Rat.mul_assoc]
    exact this
   ·have:=(h3 q hq).mul hd
    rw[show s*((p.den:Int):Rat)*q=s*q*((p.den:Int):Rat) by grind]
    exact this
def eK.zero{b:Nat}:eK b 0:=⟨0,rfl,by rw[Int.natAbs_zero];exact qQ b⟩
def PX{c K:Nat}(h:cB m K)(hc:bg m c):PW m c (c*K+1):=fun i hi=>by
 obtain⟨s,h1,h2,h3⟩:=Zs8 (h.at (i:=i))
 rw[hc.at hi]at h2 h3
 refine⟨s,h1,h2,fun l hl=>?_⟩
 unfold az
 rw[cy (by rw[hc.at hi];exact hl)]
 exact h3 _ (List.getElem_mem _)
structure Bh (Bs M:List (List Rat)) (s:Nat->Rat) (d:Nat) (ps:List Nat) (c R:Nat):Prop where
 len:Bs.length=M.length
 int:∀i l,i<M.length->l<c->eK R (az Bs i l)
 sc:∀i,i<M.length->s i≠0/\eK R (s i)
 low:∀i l,d<=i->i<M.length->l<c->s i*az M i l=az Bs i l-sN (fun j=>az Bs i (ps[j]?.getD 0)*az M j l) d
 top:∃T:Nat->Nat->Rat,∀j l,j<d->l<c->az M j l=sN (fun t=>T j t*az Bs t l) d
 ne:cR d (fun t u=>az Bs t (ps[u]?.getD 0))≠0
def Yqy{c:Nat}(h:PW m c R)(hc:bg m c):∃Bs s,Bh Bs m s 0 [] c R:=by
 have hex:∀i,∃s:Rat,i<m.length->s≠0/\eK R s/\∀l,l<c->eK R (s*az m i l):=fun i=>by
  by_cases hi:i<m.length
  ·obtain⟨s,hs⟩:=h i hi
   exact⟨s,fun _=>hs⟩
  ·exact⟨0,fun hc=>absurd hc hi⟩
 obtain⟨s,hs⟩:=Classical.axiomOfChoice hex
 have zM:∀i l,i<m.length->l<c->az ((List.range m.length).map fun i=>(m[i]?.getD []).map fun q=>s i*q) i l=s i*az m i l:=fun i l hi hl=>by
  have hlen:=hc.at hi
  unfold az
  rw[eY,DT hi]
  simp only[pL,fX,eY]
  rw[cy (by omega)]
  rfl
 refine⟨(List.range m.length).map fun i=>(m[i]?.getD []).map fun q=>s i*q,s,(dL _).trans List.length_range,fun i l hi hl=>?_,fun i hi=>⟨(hs i hi).1,(hs i hi).2.1⟩,fun i l _ hi hl=>?_,⟨fun _ _=>0,fun j _ hj=>absurd hj (Nat.not_lt_zero j)⟩,fun hc=>absurd (show (1:Rat)=0 from hc) (by decide)⟩
 ·rw[zM i l hi hl]
  exact(hs i hi).2.2 l hl
 ·rw[zM i l hi hl]
  show _=_-(0:Rat)
  grind
def al1:b=b-s+s:=by grind
def al2{p m:Rat}(h:b=p*m+s):k*p*m= -k*s+k*b:=by grind
def al3{c e f:Rat}(h1:s*x=b-e)(h2:s*y=c-f):s*(x-y*v)=b-(e+ -v*f+c*v):=by grind
def al4:b*(x-y*v)=b*x+ -v*(b*y):=by grind
def al5{t:Rat}:(t-y*x)*b=t*b+ -y*(x*b):=by grind
def al6{u:Rat}(h:v=u+k*b):s-y*v=s+ -y*u+(0-y*k)*b:=by grind
def al7{a i m:Rat}(h1:s*a*k=1)(h2:a*i=1):m*i=k*s*m:=by
 have:m*i=m*i*(s*a*k):=by rw[h1,Rat.mul_one]
 rw[this,show m*i*(s*a*k)=k*s*m*(a*i) by grind,h2,Rat.mul_one]
def Bh.step{s:Nat->Rat}{S:List (List Rat)×Nat×List Nat}{c:Nat}(h:Bh Bs S.1 s S.2.1 S.2.2 c R)(I:yg S.1 S.2.1 S.2.2 n)(hc:bg S.1 c)(hn:n<c):∃VI s',Bh VI (fT S n).1 s' (fT S n).2.1 (fT S n).2.2 c R:=by
 obtain⟨M,d,ps⟩:=S
 simp only at h I hc
 unfold fT
 simp only
 have hle:=@B4 M n (M.length-d) d
 have gZ:=I.le
 split
 ·rename_i hp
  have dp:d<M.length:=by unfold dJ at hp;omega
  have KR:d<=dJ M d n:=hle.1
  have aW:az M (dJ M d n) n≠0:=@DM M n (M.length-d) d (by unfold dJ at hp;omega)
  generalize dJ M d n=p at*
  have jA:=(hc.zC dp hp).FF (d:=d) (k:=n) (by rw[mD];exact dp)
  have hlen:(b_ (eZ (bP M d p) d n) d n M.length).length=M.length:=by rw[yF,zD,mD]
  have iD:(eZ (bP M d p) d n).length=M.length:=by rw[zD,mD]
  have hb:∀i j,az (bP M d p) i j=if i=d then az M p j else if i=p then az M d j else az M i j:=fun i j=>FR dp hp
  have hs:∀i j,az (eZ (bP M d p) d n) i j=if i=d then az M p j/az M p n else az (bP M d p) i j:=fun i j=>by
   rw[PY (by rw[mD];exact dp),hb d j,hb d n,av rfl,av rfl]
  have he:∀i j,i<M.length->az (b_ (eZ (bP M d p) d n) d n M.length) i j=if i=d then az M p j/az M p n else az (bP M d p) i j-az (bP M d p) i n*(az M p j/az M p n):=fun i j hi=>by
   have:=PZ (m:=eZ (bP M d p) d n) (k:=n) (j:=j) jA (i:=i) (d:=d) (by rw[iD];exact hi) (by rw[iD];exact dp)
   rw[iD]at this
   rw[this,hs i j,hs i n,hs d j,av rfl]
   split<;>rfl
  have FT:∀i j,az (bP Bs d p) i j=if i=d then az Bs p j else if i=p then az Bs d j else az Bs i j:=fun i j=>FR (by rw[h.len];exact dp) (by rw[h.len];exact hp)
  show ∃VI s',Bh VI (b_ (eZ (bP M d p) d n) d n M.length) s' (d+1) (ps++[n]) c R
  generalize b_ (eZ (bP M d p) d n) d n M.length=M' at*
  obtain⟨T,hT⟩:=h.top
  have ho:∀i,i<d->(ps++[n])[i]?.getD 0=ps[i]?.getD 0:=fun i hi=>by rw[iM (by have:=I.len;omega)]
  have sM:(ps++[n])[d]?.getD 0=n:=by rw[kY (by have:=I.len;omega),I.len];simp
  have f_:=(h.sc p hp).1
  obtain⟨x,hx⟩:∃x:Nat->Rat,x=fun l=>az M p l/az M p n:=⟨_,rfl⟩
  have jn:∀l,x l=az M p l/az M p n:=fun l=>by rw[hx]
  have hMd:∀l,az M' d l=x l:=fun l=>by rw[he d l dp,av rfl,jn]
  have hMj:∀j l,j<d->az M' j l=az M j l-az M j n*x l:=fun j l hj=>by
   rw[he j l (by omega),ak (by omega),hb j l,hb j n,ak (by omega),ak (by omega),ak (by omega),ak (by omega),jn]
  have P0:∀t l,t<d->az (bP Bs d p) t l=az Bs t l:=fun t l ht=>by rw[FT,ak (by omega),ak (by omega)]
  have hBd:∀l,az (bP Bs d p) d l=az Bs p l:=fun l=>by rw[FT,av rfl]
  have gw:∀j,j<d->ps[j]?.getD 0<c:=fun j hj=>by have:=I.lt j hj;omega
  obtain⟨Z,hZ⟩:∃Z:Nat->Rat,Z=fun t=>sN (fun j=>az Bs p (ps[j]?.getD 0)*T j t) d:=⟨_,rfl⟩
  have vc:∀l,l<c->sN (fun j=>az Bs p (ps[j]?.getD 0)*az M j l) d=sN (fun t=>Z t*az Bs t l) d:=fun l hl=>by
   rw[dV (g:=fun j=>sN (fun t=>az Bs p (ps[j]?.getD 0)*T j t*az Bs t l) d) fun j hj=>by rw[hT j l hj hl,<-l_];exact dV fun t _=>(Rat.mul_assoc _ _ _).symm,FN]
   apply dV
   intro t _
   rw[hZ,Rat.mul_comm,<-l_]
   exact dV fun j _=>Rat.mul_comm _ _
  have aq:∀l,l<c->az Bs p l=s p*az M p l+sN (fun t=>Z t*az Bs t l) d:=fun l hl=>by
   rw[<-vc l hl,h.low p l KR hp hl]
   exact al1
  have e1:s p*az M p n≠0:=fun hc=>by
   rcases Rat.mul_eq_zero.1 hc with h|h
   ·exact f_ h
   ·exact aW h
  obtain⟨κ,hκ⟩:∃κ:Rat,s p*az M p n*κ=1:=⟨_,Rat.mul_inv_cancel _ e1⟩
  have yP:∀l,x l=κ*s p*az M p l:=fun l=>by
   rw[jn,Rat.div_def]
   exact al7 hκ (Rat.mul_inv_cancel _ aW)
  have yS:∀l,l<c->x l=sN (fun t=>(if t=d then κ else -κ*Z t)*az (bP Bs d p) t l) (d+1):=fun l hl=>by
   show _=sN (fun t=>(if t=d then κ else -κ*Z t)*az (bP Bs d p) t l) d+(if d=d then κ else -κ*Z d)*az (bP Bs d p) d l
   rw[av rfl,hBd,dV (g:=fun t=> -κ*(Z t*az Bs t l)) fun t ht=>by rw[ak (by omega),P0 t l ht,Rat.mul_assoc],l_,yP]
   exact al2 (aq l hl)
  refine⟨bP Bs d p,fun i=>if i=d then s p else if i=p then s d else s i,by rw[mD,hlen,h.len],fun i l hi hl=>?_,fun i hi=>?_,fun i l h1 h2 hl=>?_,⟨fun j t=>if j=d then (if t=d then κ else -κ*Z t) else (if t=d then 0 else T j t)-az M j n*(if t=d then κ else -κ*Z t),fun j l hj hl=>?_⟩,?_⟩
  ·rw[hlen]at hi
   rw[FT]
   split
   ·exact h.int p l hp hl
   ·split
    ·exact h.int d l dp hl
    ·exact h.int i l hi hl
  ·rw[hlen]at hi
   split
   ·exact h.sc p hp
   ·split
    ·exact h.sc d dp
    ·exact h.sc i hi
  ·rw[hlen]at h2
   have yI:∀l,l<c->(if i=d then s p else if i=p then s d else s i)*az (bP M d p) i l=az (bP Bs d p) i l-sN (fun j=>az (bP Bs d p) i (ps[j]?.getD 0)*az M j l) d:=fun l hl=>by
    by_cases e:i=p
    ·have KS:∀l,az (bP Bs d p) i l=az Bs d l:=fun l=>by rw[FT,ak (by omega),av e]
     rw[ak (by omega),av e,hb,ak (by omega),av e,KS,dV (g:=fun j=>az Bs d (ps[j]?.getD 0)*az M j l) fun j _=>by rw[KS]]
     exact h.low d l (aM _) dp hl
    ·have KS:∀l,az (bP Bs d p) i l=az Bs i l:=fun l=>by rw[FT,ak (by omega),ak e]
     rw[ak (by omega),ak e,hb,ak (by omega),ak e,KS,dV (g:=fun j=>az Bs i (ps[j]?.getD 0)*az M j l) fun j _=>by rw[KS]]
     exact h.low i l (by omega) h2 hl
   have hM:az M' i l=az (bP M d p) i l-az (bP M d p) i n*x l:=by rw[he i l h2,ak (show ¬i=d by omega),<-jn l]
   rw[hM]
   show (if i=d then s p else if i=p then s d else s i)*_=_-(sN (fun j=>az (bP Bs d p) i ((ps++[n])[j]?.getD 0)*az M' j l) d+az (bP Bs d p) i ((ps++[n])[d]?.getD 0)*az M' d l)
   rw[sM,hMd,dV (g:=fun j=>az (bP Bs d p) i (ps[j]?.getD 0)*az M j l+ -x l*(az (bP Bs d p) i (ps[j]?.getD 0)*az M j n)) fun j hj=>by rw[ho j hj,hMj j l hj];exact al4,zO,l_]
   exact al3 (yI l hl) (yI n hn)
  ·have hX:=yS l hl
   by_cases e:j=d
   ·subst e
    rw[hMd,hX]
    exact dV fun t _=>by
     show _=(if j=j then (if t=j then κ else -κ*Z t) else (if t=j then 0 else T j t)-az M j n*(if t=j then κ else -κ*Z t))*az (bP Bs j p) t l
     rw[av rfl]
   ·have hX:x l=sN (fun t=>(if t=d then κ else -κ*Z t)*az (bP Bs d p) t l) d+(if d=d then κ else -κ*Z d)*az (bP Bs d p) d l:=hX
    rw[av rfl]at hX
    rw[hMj j l (by omega),hT j l (by omega) hl]
    show _=sN (fun t=>(if j=d then (if t=d then κ else -κ*Z t) else (if t=d then 0 else T j t)-az M j n*(if t=d then κ else -κ*Z t))*az (bP Bs d p) t l) d+(if j=d then (if d=d then κ else -κ*Z d) else (if d=d then 0 else T j d)-az M j n*(if d=d then κ else -κ*Z d))*az (bP Bs d p) d l
    rw[ak e,av rfl,av rfl,dV (f:=fun t=>(if j=d then (if t=d then κ else -κ*Z t) else (if t=d then 0 else T j t)-az M j n*(if t=d then κ else -κ*Z t))*az (bP Bs d p) t l) (g:=fun t=>T j t*az Bs t l+ -az M j n*((if t=d then κ else -κ*Z t)*az (bP Bs d p) t l)) fun t ht=>by
     rw[ak e,ak (show ¬t=d by omega),ak (show ¬t=d by omega),P0 t l ht]
     exact al5,zO,l_]
    exact al6 hX
  ·have e1:cR (d+1) (fun t u=>az (bP Bs d p) t ((ps++[n])[u]?.getD 0))=cR (d+1) (bh (fun t u=>az (bP Bs d p) t ((ps++[n])[u]?.getD 0)) d fun u=>s p*az M p ((ps++[n])[u]?.getD 0)+sN (fun t=>Z t*az (bP Bs d p) t ((ps++[n])[u]?.getD 0)) d):=yh fun r u hr hu=>by
    unfold bh
    split
    ·rename_i e
     subst e
     have wK:(ps++[n])[u]?.getD 0<c:=by
      by_cases e:u<r
      ·rw[ho u e];exact gw u e
      ·rw[show u=r by omega,sM];exact hn
     simp only
     rw[hBd,aq _ wK]
     congr 1
     exact dV fun t ht=>by rw[P0 t _ ht]
    ·rfl
   rw[e1,PV (by omega),VF (w:=fun t u=>az (bP Bs d p) t ((ps++[n])[u]?.getD 0)) (by omega),Be (f:=fun t=>_) fun t ht=>by
    have:=Ygm (n:=d+1) (A:=fun t u=>az (bP Bs d p) t ((ps++[n])[u]?.getD 0)) (i:=t) (j:=d) (by omega) (by omega)
    rw[this,ak (by omega),Rat.mul_zero],Rat.add_zero,Zy4 (π:=s p*az M p n) (fun u hu=>?_) ?_]
   ·intro hc
    rcases Rat.mul_eq_zero.1 hc with h1|h1
    ·rcases Rat.mul_eq_zero.1 h1 with h|h
     ·exact f_ h
     ·exact aW h
    ·apply h.ne
     rw[<-h1]
     exact yh fun r u hr hu=>by
      unfold bh
      rw[ak (by omega)]
      show _=az (bP Bs d p) r ((ps++[n])[u]?.getD 0)
      rw[P0 r _ hr,ho u hu]
   ·unfold bh
    rw[av rfl]
    show s p*az M p ((ps++[n])[d]?.getD 0)=_
    rw[sM]
   ·unfold bh
    rw[av rfl]
    show s p*az M p ((ps++[n])[u]?.getD 0)=0
    rw[ho u hu,I.rest p _ KR hp (I.lt u hu),Rat.mul_zero]
 ·exact⟨Bs,s,h⟩
def VJ{m:List (List Rat)}{c R:Nat}(h:PW m c R)(hc:bg m c):∀{n:Nat},n<=c->∃Bs s,Bh Bs (aD m n).1 s (aD m n).2.1 (aD m n).2.2 c R
 |0,_=>Yqy h hc
 |n+1,hn=>by
  obtain⟨Bs,s,hC⟩:=VJ h hc (n:=n) (by omega)
  rw[ta]
  exact hC.step (nU hc) (mB hc).1 (by omega)
def Bh.done{M:List (List Rat)}{s:Nat->Rat}{c:Nat}{ps:List Nat}(h:Bh Bs M s d ps c R)(I:yg M d ps n)(hn:n<=c)(hR:1<=R):eK (d*(R+d+1)+1) (cR d fun t u=>az Bs t (ps[u]?.getD 0))/\∀j l,j<d->l<c->eK ((d+1)*(R+d+1)) ((cR d fun t u=>az Bs t (ps[u]?.getD 0))*az M j l):=by
 have hle:=I.le
 have gw:∀j,j<d->ps[j]?.getD 0<c:=fun j hj=>by have:=I.lt j hj;omega
 have hI:∀r u,r<d->u<d->eK R (az Bs r (ps[u]?.getD 0)):=fun r u hr hu=>h.int r _ (by omega) (gw u hu)
 refine⟨VG hI,fun j l hj hl=>?_⟩
 obtain⟨T,hT⟩:=h.top
 have VK:∀t q,t<d->q<d->sN (fun u=>az Bs t (ps[u]?.getD 0)*cR d (bh (fun t u=>az Bs t (ps[u]?.getD 0)) q (Bf u))) d=if t=q then cR d (fun t u=>az Bs t (ps[u]?.getD 0)) else 0:=fun t q ht hq=>by
  rw[<-Ygm ht hq]
  exact(Yky hq).symm
 have hTd:∀q,q<d->cR d (bh (fun t u=>az Bs t (ps[u]?.getD 0)) q (Bf j))=T j q*cR d (fun t u=>az Bs t (ps[u]?.getD 0)):=fun q hq=>by
  have e1:cR d (bh (fun t u=>az Bs t (ps[u]?.getD 0)) q (Bf j))=sN (fun u=>az M j (ps[u]?.getD 0)*cR d (bh (fun t u=>az Bs t (ps[u]?.getD 0)) q (Bf u))) d:=by
   rw[yR (i:=j) hj fun u hu aW=>by rw[I.one u j hu (by omega),ak (Ne.symm aW),Rat.zero_mul],I.one j j hj (by omega),av rfl,Rat.one_mul]
  rw[e1,dV (g:=fun u=>sN (fun t=>T j t*(az Bs t (ps[u]?.getD 0)*cR d (bh (fun t u=>az Bs t (ps[u]?.getD 0)) q (Bf u)))) d) fun u hu=>by rw[hT j _ hj (gw u hu),Rat.mul_comm,<-l_];exact dV fun t _=>by grind,FN,dV (g:=fun t=>T j t*if t=q then cR d (fun t u=>az Bs t (ps[u]?.getD 0)) else 0) fun t ht=>by rw[l_,VK t q ht hq],yR (i:=q) hq fun t _ aW=>by rw[ak aW,Rat.mul_zero],av rfl]
 rw[hT j l hj hl,<-l_]
 have:=eK.FQ (m:=d) (b:=d*(R+d+1)+1+R) (n:=d) (f:=fun t=>cR d (fun t u=>az Bs t (ps[u]?.getD 0))*(T j t*az Bs t l)) (fun t ht=>by
  rw[show cR d (fun t u=>az Bs t (ps[u]?.getD 0))*(T j t*az Bs t l)=T j t*cR d (fun t u=>az Bs t (ps[u]?.getD 0))*az Bs t l by grind,<-hTd t ht]
  refine(VG fun r u hr hu=>?_).mul (h.int t l (by omega) hl)
  unfold bh
  split
  ·unfold Bf
   split
   ·exact⟨1,rfl,eX (by decide:Int.natAbs 1<2^1) (qS (by decide) hR)⟩
   ·exact eK.zero
  ·exact hI r u hr hu) Nat.lt_two_pow_self
 refine this.mono ?_
 have:(d+1)*(R+d+1)=d*(R+d+1)+(R+d+1):=by grind
 omega
def eK.sub{b:Nat}{p q:Rat}(hp:eK b p)(hq:eK b q):eK (b+1) (p-q):=by
 obtain⟨x,rfl,hx⟩:=hp
 obtain⟨y,rfl,hy⟩:=hq
 refine⟨x-y,by rw[Rat.intCast_sub],?_⟩
 rw[gg]
 omega
def mI(R d:Nat):Nat:=(d+2)*(R+d+1)
def Bh.qb{M:List (List Rat)}{s:Nat->Rat}{c:Nat}{ps:List Nat}(h:Bh Bs M s d ps c R)(I:yg M d ps n)(hc:bg M c)(hn:n<=c)(hR:1<=R):cB M (mI R d):=fun r hr q hq=>by
 obtain⟨h1,h2⟩:=h.done I hn hR
 have hB:mI R d=d*(R+d+1)+2*R+2*d+2:=by unfold mI;grind
 have hW:(d+1)*(R+d+1)=d*(R+d+1)+(R+d+1):=by grind
 obtain⟨i,hi⟩:=tc hr
 obtain⟨l,hl⟩:=tc hq
 have t_:=iY hi
 have ue:l<c:=by have:=iY hl;rw[hc r hr]at this;exact this
 have zM:az M i l=q:=by unfold az;rw[hi,fX,hl];rfl
 by_cases e:i<d
 ·have:=h2 i l e ue
  rw[zM]at this
  exact eK.qb h.ne (h1.mono (by omega)) (this.mono (by omega))
 ·have FU:=h.low i l (by omega) t_ ue
  have hs:=h.sc i t_
  have gw:∀j,j<d->ps[j]?.getD 0<c:=fun j hj=>by have:=I.lt j hj;omega
  rw[zM]at FU
  refine eK.qb (D:=s i*cR d fun t u=>az Bs t (ps[u]?.getD 0)) (fun hc=>?_) ((hs.2.mul h1).mono (by omega)) ?_
  ·rcases Rat.mul_eq_zero.1 hc with h'|h'
   ·exact hs.1 h'
   ·exact h.ne h'
  ·have e1:(s i*cR d fun t u=>az Bs t (ps[u]?.getD 0))*q=az Bs i l*(cR d fun t u=>az Bs t (ps[u]?.getD 0))-sN (fun j=>az Bs i (ps[j]?.getD 0)*((cR d fun t u=>az Bs t (ps[u]?.getD 0))*az M j l)) d:=by
    rw[dV (g:=fun j=>(cR d fun t u=>az Bs t (ps[u]?.getD 0))*(az Bs i (ps[j]?.getD 0)*az M j l)) fun j _=>by grind,l_]
    grind
   rw[e1]
   have a1:=((h.int i l t_ ue).mul h1).mono (b:=R+(d+1)*(R+d+1)+d) (by omega)
   have a2:=eK.FQ (m:=d) (b:=R+(d+1)*(R+d+1)) (n:=d) (f:=fun j=>az Bs i (ps[j]?.getD 0)*((cR d fun t u=>az Bs t (ps[u]?.getD 0))*az M j l)) (fun j hj=>(h.int i _ t_ (gw j hj)).mul (h2 j l hj ue)) Nat.lt_two_pow_self
   exact(a1.sub a2).mono (by omega)
def Zo4{m:List (List Rat)}{c:Nat}(hc:bg m c):∀{e:Nat},aD m (c+e)=aD m c
 |0=>rfl
 |e+1=>by
  rw[<-oW,ta,Zo4 hc]
  obtain⟨M,hM⟩:∃M,M=aD m c:=⟨_,rfl⟩
  have hr:=(mB hc (n:=c)).1
  rw[<-hM]at hr ⊢
  have hz:∀i,az M.1 i (c+e)=0:=fun i=>by
   unfold az
   by_cases hi:i<M.1.length
   ·have h3:=hr.at hi
    rw[eJ (l:=M.1[i]?.getD []) (by omega)];rfl
   ·have h3:M.1[i]?=none:=eJ (by omega)
    rw[h3];rfl
  unfold fT
  rw[ak]
  intro hp
  have hle:=@B4 M.1 (c+e) (M.1.length-M.2.1) M.2.1
  exact(@DM M.1 (c+e) (M.1.length-M.2.1) M.2.1 (by unfold dJ at hp;omega)) (hz _)
def P1{c:Nat}(h:PW m c R)(hc:bg m c)(hR:1<=R)(n:Nat):cB (aD m n).1 (mI R (aD m n).2.1):=by
 by_cases hn:n<=c
 ·obtain⟨Bs,s,hC⟩:=VJ h hc hn
  exact hC.qb (nU hc) (mB hc).1 hn hR
 ·rw[show n=c+(n-c) by omega,Zo4 hc]
  obtain⟨Bs,s,hC⟩:=VJ h hc (aM c)
  exact hC.qb (nU hc) (mB hc).1 (aM c) hR
def Yk5{a b:Nat}(h:a<=b):mI R a<=mI R b:=uf (by omega) (by omega)
def VL:1<=mI R d:=yK (by omega) (by omega)
set_option maxHeartbeats 4000000
def Yl9{D:List (List Rat)}{n d K:Nat}(hD:bg D n)(qD:cB D K)(hd:D.length<=d):cB (aU D n) (mI (n*K+1) d):=fun r hr q hq=>((P1 (PX qD hD) hD (by omega) n) r (wW hr) q hq).mono (Yk5 (k_ (mB hD).2 hd))
end Go.Mx
