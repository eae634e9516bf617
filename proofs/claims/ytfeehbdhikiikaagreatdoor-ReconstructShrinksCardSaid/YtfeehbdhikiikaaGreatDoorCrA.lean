/-Determinants-/
import Derived.Test.YtfeehbdhikiikaaGreatDoorLnA
set_option linter.all false
set_option maxHeartbeats 4000000
namespace Go.Mx
variable{K:List Kf}{W ps w1:List Nat}{l sS:List Rat}{N' n1:Nat}{a f:Nat->Rat}{H h' h1:T O}{r r0:T V}
noncomputable section
open Go Go.Proofs
variable {b i j n:Nat}
set_option maxRecDepth 1000000
def nC(i r:Nat):Nat:=if r<i then r else r+1
def jO(i:Nat):Rat:=if i%2=0 then 1 else -1
def di:Nat->(Nat->Nat->Rat)->Rat
 |0,_=>1
 |n+1,A=>sN (fun i=>jO i*(A i 0*di n (fun r u=>A (nC i r) (u+1)))) (n+1)
def bp(A:Nat->Nat->Rat)(t:Nat)(a:Nat->Rat):Nat->Nat->Rat:=fun r u=>if r=t then a u else A r u
def zJ:∀{n:Nat} {A B:Nat->Nat->Rat},(∀r u,r<n->u<n->A r u=B r u)->di n A=di n B
 |0,_,_,_=>rfl
 |n+1,A,B,h=>by
  unfold di
  apply bf
  intro i hi
  rw[h i 0 hi (by omega),zJ fun r u hr hu=>h (nC i r) (u+1) (by unfold nC;split<;>omega) (by omega)]
def Yjg:jO (i+1)= -jO i:=by
 unfold jO;by_cases h:i%2=0
 ·rw[av h,ak (by omega)]
 rw[ak h,av (by omega)];rfl
def Yvs{r:Nat}:nC i r≠i:=by unfold nC;split<;>omega
def Wa{x y:Rat}{a b:Nat->Rat}:∀{n t:Nat} {A:Nat->Nat->Rat},t<n->di n (bp A t fun u=>x*a u+y*b u)=x*di n (bp A t a)+y*di n (bp A t b)
 |0,t,A,h=>by omega
 |n+1,t,A,h=>by
  unfold di
  rw[<-eE,<-eE,<-vT]
  apply bf
  intro i hi
  by_cases e:i=t
  ·subst e
   have hm:∀v:Nat->Rat,di n (fun r u=>bp A i v (nC i r) (u+1))=di n (fun r u=>A (nC i r) (u+1)):=fun v=>zJ fun r u _ _=>by
    unfold bp
    rw[ak Yvs]
   rw[hm,hm,hm]
   unfold bp
   rw[av rfl,av rfl,av rfl]
   grind
  ·obtain⟨s,hs,C0⟩:∃s,(∀r,nC i r=t↔r=s)/\s<n:=by
    unfold nC
    by_cases c:t<i
    ·exact⟨t,fun r=>by split<;>omega,by omega⟩
    ·exact⟨t-1,fun r=>by split<;>omega,by omega⟩
   have hm:∀v:Nat->Rat,di n (fun r u=>bp A t v (nC i r) (u+1))=di n (bp (fun r u=>A (nC i r) (u+1)) s fun u=>v (u+1)):=fun v=>zJ fun r u _ _=>by
    unfold bp
    by_cases hr:r=s
    ·rw[av ((hs r).2 hr),av hr]
    ·rw[ak fun h=>hr ((hs r).1 h),ak hr]
   rw[hm,hm,hm,Wa (n:=n) C0]
   unfold bp
   rw[ak e,ak e,ak e]
   grind
def Wb:∀{n t:Nat} {A:Nat->Nat->Rat},t+1<n->(∀u,u<n->A t u=A (t+1) u)->di n A=0
 |0,t,A,h,_=>by omega
 |n+1,t,A,h,he=>by
  unfold di
  have hz:∀i,i<n+1->jO i*(A i 0*di n (fun r u=>A (nC i r) (u+1)))=(if i=t then jO t*(A t 0*di n (fun r u=>A (nC t r) (u+1))) else 0)+(if i=t+1 then jO (t+1)*(A (t+1) 0*di n (fun r u=>A (nC (t+1) r) (u+1))) else 0):=fun i hi=>by
   by_cases e1:i=t
   ·subst e1
    rw[av rfl,ak (by omega),Rat.add_zero]
   ·by_cases e2:i=t+1
    ·subst e2
     rw[av rfl,ak (by omega),Rat.zero_add]
    ·rw[ak e1,ak e2,Rat.add_zero]
     have:di n (fun r u=>A (nC i r) (u+1))=0:=by
      by_cases c:i<t
      ·refine Wb (t:=t-1) (by omega) fun u hu=>?_
       simp only[nC]
       rw[ak (by omega),ak (by omega),show t-1+1=t by omega]
       exact he (u+1) (by omega)
      ·refine Wb (t:=t) (by omega) fun u hu=>?_
       simp only[nC]
       rw[av (by omega),av (by omega)]
       exact he (u+1) (by omega)
     rw[this,Rat.mul_zero,Rat.mul_zero]
  rw[bf hz,vT,uC (i:=t) (by omega) fun j _ hj=>ak hj,uC (i:=t+1) (by omega) fun j _ hj=>ak hj,av rfl,av rfl,Yjg,he 0 (by omega)]
  have:di n (fun r u=>A (nC t r) (u+1))=di n (fun r u=>A (nC (t+1) r) (u+1)):=zJ fun r u _ hu=>by
   unfold nC
   by_cases e:r=t
   ·subst e
    rw[ak (by omega),av (by omega)]
    exact(he (u+1) (by omega)).symm
   ·by_cases c:r<t
    ·rw[av c,av (by omega)]
    ·rw[ak c,ak (by omega)]
  rw[this]
  grind
def Yfj{A:Nat->Nat->Rat}{t:Nat}{r u:Nat}:bp A t (A t) r u=A r u:=by
 unfold bp;split
 ·rename_i h;rw[h]
 rfl
def Zti{t:Nat}{A:Nat->Nat->Rat}:di n (bp A t (A t))=di n A:=zJ fun _ _ _ _=>Yfj
def SP{b:Nat->Rat}{t:Nat}{A:Nat->Nat->Rat}(h:t<n):di n (bp A t fun u=>a u+b u)=di n (bp A t a)+di n (bp A t b):=by have:=Wa (x:=1) (y:=1) (a:=a) (b:=b) (A:=A) h;rw[Rat.one_mul,Rat.one_mul]at this;rw[<-this];exact zJ fun r u _ _=>by unfold bp;split<;>grind
def Ym5{b:Nat->Rat}{t:Nat}{A:Nat->Nat->Rat}(h:t+1<n):di n (bp (bp A t a) (t+1) b)= -di n (bp (bp A t b) (t+1) a):=by
 have z:∀v:Nat->Rat,di n (bp (bp A t v) (t+1) v)=0:=fun v=>Wb h fun u _=>by unfold bp;rw[ak (by omega),av rfl,av rfl]
 have sw:∀v w:Nat->Rat,di n (bp (bp A t v) (t+1) w)=di n (bp (bp A (t+1) w) t v):=fun v w=>zJ fun r u _ _=>by
  unfold bp;by_cases e1:r=t+1
  ·rw[av e1,ak (by omega),av e1]
  rw[ak e1,ak e1]
 have h0:=z fun u=>a u+b u;rw[SP h,sw _ a,sw _ b,SP (by omega),SP (by omega),<-sw,<-sw,<-sw,<-sw,z,z]at h0;grind
def an{n:Nat}:∀{k s:Nat} {A:Nat->Nat->Rat},s+1+k<n->(∀u,u<n->A s u=A (s+1+k) u)->di n A=0
 |0,s,A,h,he=>Wb h he
 |k+1,s,A,h,he=>by
  have h1:di n A=di n (bp (bp A (s+1+k) (A (s+1+k))) (s+1+k+1) (A (s+1+k+1))):=zJ fun r u _ _=>by
   unfold bp
   by_cases e:r=s+1+k+1
   ·rw[av e,e]
   ·rw[ak e]
    by_cases e2:r=s+1+k
    ·rw[av e2,e2]
    ·rw[ak e2]
  rw[h1,Ym5 (by omega),an (k:=k) (s:=s) (by omega) fun u hu=>?_]
  ·rfl
  ·unfold bp
   rw[ak (by omega),ak (by omega),ak (by omega),av rfl]
   exact he u hu
def Ytp{A:Nat->Nat->Rat}(hi:i<n)(hj:j<n)(aX:i≠j)(he:∀u,u<n->A i u=A j u):di n A=0:=by
 rcases Nat.lt_or_gt_of_ne aX with h|h
 ·exact an (k:=j-i-1) (s:=i) (by omega) (by rw[show i+1+(j-i-1)=j by omega];exact he)
 exact an (k:=i-j-1) (s:=j) (by omega) (by rw[show j+1+(i-j-1)=i by omega];exact fun u hu=>(he u hu).symm)
def Yin{A:Nat->Nat->Rat}(hi:i<n)(hj:j<n):di n (bp A j (A i))=if i=j then di n A else 0:=by
 by_cases e:i=j
 ·subst e;rw[av rfl,Zti]
 rw[ak e];exact Ytp hi hj e fun u _=>by unfold bp;rw[ak e,av rfl]
def Ym3{t:Nat}{A:Nat->Nat->Rat}(h:t<n):di n (bp A t fun _=>0)=0:=by
 have:=Wa (x:=0) (y:=0) (a:=fun _=>0) (b:=fun _=>0) (A:=A) h;have e:di n (bp A t fun _=>0)=di n (bp A t fun _=>(0:Rat)*0+0*0):=zJ fun r u _ _=>by
  unfold bp;split
  ·show (0:Rat)=0*0+0*0;grind
  rfl
 rw[e,this];grind
def Yv{n j:Nat}{A:Nat->Nat->Rat}{c:Nat->Rat}{w:Nat->Nat->Rat}(hj:j<n):∀{k:Nat},di n (bp A j fun u=>sN (fun t=>c t*w t u) k)=sN (fun t=>c t*di n (bp A j (w t))) k
 |0=>Ym3 hj
 |k+1=>by
  have:=Wa (x:=1) (y:=c k) (a:=fun u=>sN (fun t=>c t*w t u) k) (b:=w k) (A:=A) hj
  rw[Rat.one_mul,Yv hj]at this
  unfold sN
  rw[<-this]
  exact zJ fun r u _ _=>by
   unfold bp
   split
   ·show _=1*_+_
    rw[Rat.one_mul]
   ·rfl
def CS(l u:Nat):Rat:=if u=l then 1 else 0
def Ym4{A:Nat->Nat->Rat}{v:Nat->Rat}(hj:j<n):di n (bp A j v)=sN (fun l=>v l*di n (bp A j (CS l))) n:=by
 rw[<-Yv hj];apply zJ;intro r u _ hu;unfold bp;split
 ·show v u=sN (fun t=>v t*CS t u) n;rw[uC (i:=u) hu]
  ·unfold CS;rw[av rfl,Rat.mul_one]
  intro l _ aX;unfold CS;rw[ak (Ne.symm aX),Rat.mul_zero]
 rfl
def Ya7{π:Rat}:∀{n:Nat} {A:Nat->Nat->Rat},(∀u,u<n->A n u=0)->A n n=π->di (n+1) A=π*di n A
 |0,A,_,h=>by
  simp only[di,sN,h,jO]
  grind
 |n+1,A,hz,h=>by
  rw[di]
  have e:∀i,i<n+1+1->jO i*(A i 0*di (n+1) (fun r u=>A (nC i r) (u+1)))=if i<n+1 then π*(jO i*(A i 0*di n (fun r u=>A (nC i r) (u+1)))) else 0:=fun i hi=>by
   by_cases c:i<n+1
   ·rw[av c,Ya7 (n:=n) (π:=π) (fun u hu=>?_) ?_]
    ·grind
    ·simp only[nC]
     rw[ak (by omega)]
     exact h
    ·simp only[nC]
     rw[ak (by omega)]
     exact hz _ (by omega)
   ·obtain rfl:i=n+1:=by omega
    rw[ak c,hz 0 (by omega),Rat.zero_mul,Rat.mul_zero]
  rw[bf e]
  show sN _ (n+1)+(if n+1<n+1 then π*(jO (n+1)*(A (n+1) 0*di n (fun r u=>A (nC (n+1) r) (u+1)))) else 0)=_
  rw[ak (by omega),Rat.add_zero,di,<-eE]
  apply bf
  intro i hi
  rw[av hi]
def bL(b:Nat)(q:Rat):Prop:=∃z:Int,q=(z:Rat)/\z.natAbs<2^b
def bL.mul{a:Nat}{p q:Rat}(hp:bL a p)(hq:bL b q):bL (a+b) (p*q):=by obtain⟨x,rfl,hx⟩:=hp;obtain⟨y,rfl,hy⟩:=hq;refine⟨x*y,by rw[Rat.intCast_mul],?_⟩;rw[wg,mT];exact Dh hx hy
def bL.neg{q:Rat}(hq:bL b q):bL b (-q):=by obtain⟨y,rfl,hy⟩:=hq;exact⟨-y,by rw[Rat.intCast_neg],by rw[zY];exact hy⟩
def bL.sum{b:Nat}{f:Nat->Rat}:∀{n:Nat},(∀i,i<n->bL b (f i))->∃z:Int,sN f n=(z:Rat)/\z.natAbs<=n*2^b
 |0,_=>⟨0,rfl,by simp⟩
 |n+1,h=>by
  obtain⟨z,h1,h2⟩:=bL.sum (n:=n) fun i hi=>h i (by omega)
  obtain⟨y,h3,h4⟩:=h n (by omega)
  refine⟨z+y,by unfold sN;rw[h1,h3,Rat.intCast_add],?_⟩
  have:=Int.natAbs_add_le z y
  rw[iR]
  omega
def bL.Ba{m:Nat}(h:∀i,i<n->bL b (f i))(hn:n<2^m):bL (b+m) (sN f n):=by obtain⟨z,h1,h2⟩:=bL.sum h;refine⟨z,h1,pT h2 ?_⟩;rw[Nat.add_comm,mT];exact Mi hn (sK b)
def bL.mono{a:Nat}{q:Rat}(h:bL a q)(eF:a<=b):bL b q:=by obtain⟨z,h1,h2⟩:=h;exact⟨z,h1,fH h2 (rL (by decide) eF)⟩
def bL.jO:bL 1 (jO i):=by
 unfold Go.Mx.jO;split
 ·exact⟨1,rfl,by decide⟩
 exact⟨-1,rfl,by decide⟩
def Yw{b:Nat}:∀{n:Nat} {A:Nat->Nat->Rat},(∀r u,r<n->u<n->bL b (A r u))->bL (n*(b+n+1)+1) (di n A)
 |0,_,_=>⟨1,rfl,by rw[Nat.zero_mul];decide⟩
 |n+1,A,h=>by
  unfold di
  have e:∀i,i<n+1->bL (1+(b+(n*(b+n+1)+1))) (jO i*(A i 0*di n (fun r u=>A (nC i r) (u+1)))):=fun i hi=>bL.jO.mul ((h i 0 hi (by omega)).mul (Yw fun r u hr hu=>h _ _ (by unfold nC;split<;>omega) (by omega)))
  have:=bL.Ba (m:=n+1) e Nat.lt_two_pow_self
  refine this.mono ?_
  have:(n+1)*(b+(n+1)+1)=n*(b+n+1)+n+(b+n+2):=by grind
  omega
variable {Bs m:List (List Rat)} {R d n:Nat} {b k s v x y:Rat}
def At(m:List (List Rat))(c R:Nat):Prop:=∀i,i<m.length->∃s:Rat,s≠0/\bL R s/\∀l,l<c->bL R (s*al m i l)
def bL.qb{b:Nat}{q D:Rat}(h0:D≠0)(hD:bL b D)(hq:bL b (D*q)):Qb b q:=by
 obtain⟨x,rfl,hx⟩:=hD;obtain⟨y,h1,hy⟩:=hq;have jP:x≠0:=fun h=>h0 (by rw[h];rfl);have e:q=Rat.divInt y x:=by rw[Rat.divInt_eq_div,<-h1,Rat.div_def];have:=Rat.mul_inv_cancel (x:Rat) h0;grind
 rw[e];exact Nu jP hy hx
def CO{K:Nat}:∀{r:List Rat},(∀q∈r,Qb K q)->∃s:Rat,s≠0/\bL (r.length*K+1) s/\∀q∈r,bL (r.length*K+1) (s*q)
 |[],_=>⟨1,by decide,⟨1,rfl,by rw[List.length_nil,Nat.zero_mul];decide⟩,fun q hq=>by simp at hq⟩
 |p::t,h=>by
  obtain⟨s,h1,h2,h3⟩:=CO (r:=t) fun q hq=>h q (pA _ hq)
  have hp:=h p oa
  have hd:bL K ((p.den:Int):Rat):=⟨_,rfl,by rw[dT];exact hp.2⟩
  have hn:bL K ((p.num:Int):Rat):=⟨_,rfl,hp.1⟩
  have qG:((p.den:Int):Rat)≠0:=fun hc=>p.den_nz (by have:=Rat.intCast_inj.1 (hc.trans (by rfl:(0:Rat)=((0:Int):Rat)));omega)
  have e:((p.den:Int):Rat)*p=(p.num:Rat):=by
   have h1:=A9 p
   rw[Rat.divInt_eq_div,Rat.div_def]at h1
   have h2:=Rat.mul_inv_cancel _ qG
   conv=>lhs;arg 2;rw[<-h1]
   generalize ((p.den:Int):Rat)=x at*
   grind
  have ek:(t.length+1)*K+1=t.length*K+1+K:=by grind
  refine⟨s*((p.den:Int):Rat),fun hc=>?_,?_,fun q hq=>?_⟩
  ·rcases Rat.mul_eq_zero.1 hc with h|h
   ·exact h1 h
   ·exact qG h
  ·rw[bl,ek]
   exact h2.mul hd
  ·rw[bl,ek]
   rcases iP.1 hq with rfl|hq
   ·have:=h2.mul hn
    rw[<-e]at this
    rw[Rat.mul_assoc]
    exact this
   ·have:=(h3 q hq).mul hd
    rw[show s*((p.den:Int):Rat)*q=s*q*((p.den:Int):Rat) by grind]
    exact this
def bL.zero{b:Nat}:bL b 0:=⟨0,rfl,by rw[Int.natAbs_zero];exact sK b⟩
def Nv{c K:Nat}(h:bR m K)(hc:aW m c):At m c (c*K+1):=fun i hi=>by
 obtain⟨s,h1,h2,h3⟩:=CO (h.at (i:=i))
 rw[hc.at hi]at h2 h3
 refine⟨s,h1,h2,fun l hl=>?_⟩
 unfold al
 rw[cj (by rw[hc.at hi];exact hl)]
 exact h3 _ (List.getElem_mem _)
structure CP (Bs M:List (List Rat)) (s:Nat->Rat) (d:Nat) (ps:List Nat) (c R:Nat):Prop where
 len:Bs.length=M.length
 int:∀i l,i<M.length->l<c->bL R (al Bs i l)
 sc:∀i,i<M.length->s i≠0/\bL R (s i)
 low:∀i l,d<=i->i<M.length->l<c->s i*al M i l=al Bs i l-sN (fun j=>al Bs i (ps[j]?.getD 0)*al M j l) d
 top:∃T:Nat->Nat->Rat,∀j l,j<d->l<c->al M j l=sN (fun t=>T j t*al Bs t l) d
 ne:di d (fun t u=>al Bs t (ps[u]?.getD 0))≠0
def Ytu{c:Nat}(h:At m c R)(hc:aW m c):∃Bs s,CP Bs m s 0 [] c R:=by
 have hex:∀i,∃s:Rat,i<m.length->s≠0/\bL R s/\∀l,l<c->bL R (s*al m i l):=fun i=>by
  by_cases hi:i<m.length
  ·obtain⟨s,hs⟩:=h i hi;exact⟨s,fun _=>hs⟩
  exact⟨0,fun hc=>absurd hc hi⟩
 obtain⟨s,hs⟩:=Classical.axiomOfChoice hex;have DV:∀i l,i<m.length->l<c->al ((List.range m.length).map fun i=>(m[i]?.getD []).map fun q=>s i*q) i l=s i*al m i l:=fun i l hi hl=>by have hlen:=hc.at hi;unfold al;rw[eH,zD hi];simp only[qH,iL,eH];rw[cj (by omega)];rfl
 refine⟨(List.range m.length).map fun i=>(m[i]?.getD []).map fun q=>s i*q,s,(dL _).trans List.length_range,fun i l hi hl=>?_,fun i hi=>⟨(hs i hi).1,(hs i hi).2.1⟩,fun i l _ hi hl=>?_,⟨fun _ _=>0,fun j _ hj=>absurd hj (Nat.not_lt_zero j)⟩,fun hc=>absurd (show (1:Rat)=0 from hc) (by decide)⟩
 ·rw[DV i l hi hl];exact(hs i hi).2.2 l hl
 rw[DV i l hi hl];show _=_-(0:Rat);grind
def al1:b=b-s+s:=by grind
def al2{p m:Rat}(h:b=p*m+s):k*p*m= -k*s+k*b:=by grind
def al3{c e f:Rat}(h1:s*x=b-e)(h2:s*y=c-f):s*(x-y*v)=b-(e+ -v*f+c*v):=by grind
def al4:b*(x-y*v)=b*x+ -v*(b*y):=by grind
def al5{t:Rat}:(t-y*x)*b=t*b+ -y*(x*b):=by grind
def al6{u:Rat}(h:v=u+k*b):s-y*v=s+ -y*u+(0-y*k)*b:=by grind
def al7{a i m:Rat}(h1:s*a*k=1)(h2:a*i=1):m*i=k*s*m:=by
 have:m*i=m*i*(s*a*k):=by rw[h1,Rat.mul_one]
 rw[this,show m*i*(s*a*k)=k*s*m*(a*i) by grind,h2,Rat.mul_one]
def CP.step{s:Nat->Rat}{S:List (List Rat)×Nat×List Nat}{c:Nat}(h:CP Bs S.1 s S.2.1 S.2.2 c R)(I:zE S.1 S.2.1 S.2.2 n)(hc:aW S.1 c)(hn:n<c):∃Yu s',CP Yu (kL S n).1 s' (kL S n).2.1 (kL S n).2.2 c R:=by
 obtain⟨M,d,ps⟩:=S;simp only at h I hc;unfold kL;simp only;have hle:=@Ij M n (M.length-d) d;have kM:=I.le;split
 ·rename_i hp;have eY:d<M.length:=by unfold iQ at hp;omega
  have Nw:d<=iQ M d n:=hle.1;have aX:al M (iQ M d n) n≠0:=@La M n (M.length-d) d (by unfold iQ at hp;omega);generalize iQ M d n=p at*;have kZ:=(hc.FT eY hp).Lb (d:=d) (k:=n) (by rw[rK];exact eY);have hlen:(dr (jk (cX M d p) d n) d n M.length).length=M.length:=by rw[CQ,DW,rK]
  have iC:(jk (cX M d p) d n).length=M.length:=by rw[DW,rK]
  have hb:∀i j,al (cX M d p) i j=if i=d then al M p j else if i=p then al M d j else al M i j:=fun i j=>Ik eY hp
  have hs:∀i j,al (jk (cX M d p) d n) i j=if i=d then al M p j/al M p n else al (cX M d p) i j:=fun i j=>by rw[SM (by rw[rK];exact eY),hb d j,hb d n,av rfl,av rfl]
  have he:∀i j,i<M.length->al (dr (jk (cX M d p) d n) d n M.length) i j=if i=d then al M p j/al M p n else al (cX M d p) i j-al (cX M d p) i n*(al M p j/al M p n):=fun i j hi=>by have:=SN (m:=jk (cX M d p) d n) (k:=n) (j:=j) kZ (i:=i) (d:=d) (by rw[iC];exact hi) (by rw[iC];exact eY);rw[iC]at this;rw[this,hs i j,hs i n,hs d j,av rfl];split<;>rfl
  have Il:∀i j,al (cX Bs d p) i j=if i=d then al Bs p j else if i=p then al Bs d j else al Bs i j:=fun i j=>Ik (by rw[h.len];exact eY) (by rw[h.len];exact hp)
  show ∃Yu s',CP Yu (dr (jk (cX M d p) d n) d n M.length) s' (d+1) (ps++[n]) c R;generalize dr (jk (cX M d p) d n) d n M.length=M' at*;obtain⟨T,hT⟩:=h.top;have ho:∀i,i<d->(ps++[n])[i]?.getD 0=ps[i]?.getD 0:=fun i hi=>by rw[k_ (by have:=I.len;omega)]
  have uB:(ps++[n])[d]?.getD 0=n:=by rw[pC (by have:=I.len;omega),I.len];simp
  have iw:=(h.sc p hp).1;obtain⟨x,hx⟩:∃x:Nat->Rat,x=fun l=>al M p l/al M p n:=⟨_,rfl⟩;have kO:∀l,x l=al M p l/al M p n:=fun l=>by rw[hx]
  have hMd:∀l,al M' d l=x l:=fun l=>by rw[he d l eY,av rfl,kO]
  have hMj:∀j l,j<d->al M' j l=al M j l-al M j n*x l:=fun j l hj=>by rw[he j l (by omega),ak (by omega),hb j l,hb j n,ak (by omega),ak (by omega),ak (by omega),ak (by omega),kO]
  have SO:∀t l,t<d->al (cX Bs d p) t l=al Bs t l:=fun t l ht=>by rw[Il,ak (by omega),ak (by omega)]
  have hBd:∀l,al (cX Bs d p) d l=al Bs p l:=fun l=>by rw[Il,av rfl]
  have jA:∀j,j<d->ps[j]?.getD 0<c:=fun j hj=>by have:=I.lt j hj;omega
  obtain⟨Z,hZ⟩:∃Z:Nat->Rat,Z=fun t=>sN (fun j=>al Bs p (ps[j]?.getD 0)*T j t) d:=⟨_,rfl⟩;have wH:∀l,l<c->sN (fun j=>al Bs p (ps[j]?.getD 0)*al M j l) d=sN (fun t=>Z t*al Bs t l) d:=fun l hl=>by rw[bf (g:=fun j=>sN (fun t=>al Bs p (ps[j]?.getD 0)*T j t*al Bs t l) d) fun j hj=>by rw[hT j l hj hl,<-eE];exact bf fun t _=>(Rat.mul_assoc _ _ _).symm,zG];apply bf;intro t _;rw[hZ,Rat.mul_comm,<-eE];exact bf fun j _=>Rat.mul_comm _ _
  have aA:∀l,l<c->al Bs p l=s p*al M p l+sN (fun t=>Z t*al Bs t l) d:=fun l hl=>by rw[<-wH l hl,h.low p l Nw hp hl];exact al1
  have e1:s p*al M p n≠0:=fun hc=>by
   rcases Rat.mul_eq_zero.1 hc with h|h
   ·exact iw h
   exact aX h
  obtain⟨κ,hκ⟩:∃κ:Rat,s p*al M p n*κ=1:=⟨_,Rat.mul_inv_cancel _ e1⟩;have zH:∀l,x l=κ*s p*al M p l:=fun l=>by rw[kO,Rat.div_def];exact al7 hκ (Rat.mul_inv_cancel _ aX)
  have uU:∀l,l<c->x l=sN (fun t=>(if t=d then κ else -κ*Z t)*al (cX Bs d p) t l) (d+1):=fun l hl=>by show _=sN (fun t=>(if t=d then κ else -κ*Z t)*al (cX Bs d p) t l) d+(if d=d then κ else -κ*Z d)*al (cX Bs d p) d l;rw[av rfl,hBd,bf (g:=fun t=> -κ*(Z t*al Bs t l)) fun t ht=>by rw[ak (by omega),SO t l ht,Rat.mul_assoc],eE,zH];exact al2 (aA l hl)
  refine⟨cX Bs d p,fun i=>if i=d then s p else if i=p then s d else s i,by rw[rK,hlen,h.len],fun i l hi hl=>?_,fun i hi=>?_,fun i l h1 h2 hl=>?_,⟨fun j t=>if j=d then (if t=d then κ else -κ*Z t) else (if t=d then 0 else T j t)-al M j n*(if t=d then κ else -κ*Z t),fun j l hj hl=>?_⟩,?_⟩
  ·rw[hlen]at hi;rw[Il];split
   ·exact h.int p l hp hl
   split
   ·exact h.int d l eY hl
   exact h.int i l hi hl
  ·rw[hlen]at hi;split
   ·exact h.sc p hp
   split
   ·exact h.sc d eY
   exact h.sc i hi
  ·rw[hlen]at h2;have Nx:∀l,l<c->(if i=d then s p else if i=p then s d else s i)*al (cX M d p) i l=al (cX Bs d p) i l-sN (fun j=>al (cX Bs d p) i (ps[j]?.getD 0)*al M j l) d:=fun l hl=>by
    by_cases e:i=p
    ·have Lc:∀l,al (cX Bs d p) i l=al Bs d l:=fun l=>by rw[Il,ak (by omega),av e]
     rw[ak (by omega),av e,hb,ak (by omega),av e,Lc,bf (g:=fun j=>al Bs d (ps[j]?.getD 0)*al M j l) fun j _=>by rw[Lc]];exact h.low d l (aN _) eY hl
    have Lc:∀l,al (cX Bs d p) i l=al Bs i l:=fun l=>by rw[Il,ak (by omega),ak e]
    rw[ak (by omega),ak e,hb,ak (by omega),ak e,Lc,bf (g:=fun j=>al Bs i (ps[j]?.getD 0)*al M j l) fun j _=>by rw[Lc]];exact h.low i l (by omega) h2 hl
   have hM:al M' i l=al (cX M d p) i l-al (cX M d p) i n*x l:=by rw[he i l h2,ak (show ¬i=d by omega),<-kO l]
   rw[hM];show (if i=d then s p else if i=p then s d else s i)*_=_-(sN (fun j=>al (cX Bs d p) i ((ps++[n])[j]?.getD 0)*al M' j l) d+al (cX Bs d p) i ((ps++[n])[d]?.getD 0)*al M' d l);rw[uB,hMd,bf (g:=fun j=>al (cX Bs d p) i (ps[j]?.getD 0)*al M j l+ -x l*(al (cX Bs d p) i (ps[j]?.getD 0)*al M j n)) fun j hj=>by rw[ho j hj,hMj j l hj];exact al4,vT,eE];exact al3 (Nx l hl) (Nx n hn)
  ·have hX:=uU l hl;by_cases e:j=d
   ·subst e;rw[hMd,hX];exact bf fun t _=>by show _=(if j=j then (if t=j then κ else -κ*Z t) else (if t=j then 0 else T j t)-al M j n*(if t=j then κ else -κ*Z t))*al (cX Bs j p) t l;rw[av rfl]
   have hX:x l=sN (fun t=>(if t=d then κ else -κ*Z t)*al (cX Bs d p) t l) d+(if d=d then κ else -κ*Z d)*al (cX Bs d p) d l:=hX;rw[av rfl]at hX;rw[hMj j l (by omega),hT j l (by omega) hl];show _=sN (fun t=>(if j=d then (if t=d then κ else -κ*Z t) else (if t=d then 0 else T j t)-al M j n*(if t=d then κ else -κ*Z t))*al (cX Bs d p) t l) d+(if j=d then (if d=d then κ else -κ*Z d) else (if d=d then 0 else T j d)-al M j n*(if d=d then κ else -κ*Z d))*al (cX Bs d p) d l;rw[ak e,av rfl,av rfl,bf (f:=fun t=>(if j=d then (if t=d then κ else -κ*Z t) else (if t=d then 0 else T j t)-al M j n*(if t=d then κ else -κ*Z t))*al (cX Bs d p) t l) (g:=fun t=>T j t*al Bs t l+ -al M j n*((if t=d then κ else -κ*Z t)*al (cX Bs d p) t l)) fun t ht=>by rw[ak e,ak (show ¬t=d by omega),ak (show ¬t=d by omega),SO t l ht];exact al5,vT,eE];exact al6 hX
  have e1:di (d+1) (fun t u=>al (cX Bs d p) t ((ps++[n])[u]?.getD 0))=di (d+1) (bp (fun t u=>al (cX Bs d p) t ((ps++[n])[u]?.getD 0)) d fun u=>s p*al M p ((ps++[n])[u]?.getD 0)+sN (fun t=>Z t*al (cX Bs d p) t ((ps++[n])[u]?.getD 0)) d):=zJ fun r u hr hu=>by
   unfold bp;split
   ·rename_i e;subst e;have CR:(ps++[n])[u]?.getD 0<c:=by
     by_cases e:u<r
     ·rw[ho u e];exact jA u e
     rw[show u=r by omega,uB];exact hn
    simp only;rw[hBd,aA _ CR];congr 1;exact bf fun t ht=>by rw[SO t _ ht]
   rfl
  rw[e1,SP (by omega),Yv (w:=fun t u=>al (cX Bs d p) t ((ps++[n])[u]?.getD 0)) (by omega),pD (f:=fun t=>_) fun t ht=>by have:=Yin (n:=d+1) (A:=fun t u=>al (cX Bs d p) t ((ps++[n])[u]?.getD 0)) (i:=t) (j:=d) (by omega) (by omega);rw[this,ak (by omega),Rat.mul_zero],Rat.add_zero,Ya7 (π:=s p*al M p n) (fun u hu=>?_) ?_]
  ·intro hc;rcases Rat.mul_eq_zero.1 hc with h1|h1
   ·rcases Rat.mul_eq_zero.1 h1 with h|h
    ·exact iw h
    exact aX h
   apply h.ne;rw[<-h1];exact zJ fun r u hr hu=>by unfold bp;rw[ak (by omega)];show _=al (cX Bs d p) r ((ps++[n])[u]?.getD 0);rw[SO r _ hr,ho u hu]
  ·unfold bp;rw[av rfl];show s p*al M p ((ps++[n])[d]?.getD 0)=_;rw[uB]
  unfold bp;rw[av rfl];show s p*al M p ((ps++[n])[u]?.getD 0)=0;rw[ho u hu,I.rest p _ Nw hp (I.lt u hu),Rat.mul_zero]
 exact⟨Bs,s,h⟩
def Ld{m:List (List Rat)}{c R:Nat}(h:At m c R)(hc:aW m c):∀{n:Nat},n<=c->∃Bs s,CP Bs (aK m n).1 s (aK m n).2.1 (aK m n).2.2 c R
 |0,_=>Ytu h hc
 |n+1,hn=>by
  obtain⟨Bs,s,hC⟩:=Ld h hc (n:=n) (by omega)
  rw[yA]
  exact hC.step (qI hc) (qJ hc).1 (by omega)
def CP.done{M:List (List Rat)}{s:Nat->Rat}{c:Nat}(h:CP Bs M s d ps c R)(I:zE M d ps n)(hn:n<=c)(hR:1<=R):bL (d*(R+d+1)+1) (di d fun t u=>al Bs t (ps[u]?.getD 0))/\∀j l,j<d->l<c->bL ((d+1)*(R+d+1)) ((di d fun t u=>al Bs t (ps[u]?.getD 0))*al M j l):=by
 have hle:=I.le;have jA:∀j,j<d->ps[j]?.getD 0<c:=fun j hj=>by have:=I.lt j hj;omega
 have hI:∀r u,r<d->u<d->bL R (al Bs r (ps[u]?.getD 0)):=fun r u hr hu=>h.int r _ (by omega) (jA u hu);refine⟨Yw hI,fun j l hj hl=>?_⟩;obtain⟨T,hT⟩:=h.top;have Yx:∀t q,t<d->q<d->sN (fun u=>al Bs t (ps[u]?.getD 0)*di d (bp (fun t u=>al Bs t (ps[u]?.getD 0)) q (CS u))) d=if t=q then di d (fun t u=>al Bs t (ps[u]?.getD 0)) else 0:=fun t q ht hq=>by rw[<-Yin ht hq];exact(Ym4 hq).symm
 have hTd:∀q,q<d->di d (bp (fun t u=>al Bs t (ps[u]?.getD 0)) q (CS j))=T j q*di d (fun t u=>al Bs t (ps[u]?.getD 0)):=fun q hq=>by
  have e1:di d (bp (fun t u=>al Bs t (ps[u]?.getD 0)) q (CS j))=sN (fun u=>al M j (ps[u]?.getD 0)*di d (bp (fun t u=>al Bs t (ps[u]?.getD 0)) q (CS u))) d:=by rw[uC (i:=j) hj fun u hu aX=>by rw[I.one u j hu (by omega),ak (Ne.symm aX),Rat.zero_mul],I.one j j hj (by omega),av rfl,Rat.one_mul]
  rw[e1,bf (g:=fun u=>sN (fun t=>T j t*(al Bs t (ps[u]?.getD 0)*di d (bp (fun t u=>al Bs t (ps[u]?.getD 0)) q (CS u)))) d) fun u hu=>by rw[hT j _ hj (jA u hu),Rat.mul_comm,<-eE];exact bf fun t _=>by grind,zG,bf (g:=fun t=>T j t*if t=q then di d (fun t u=>al Bs t (ps[u]?.getD 0)) else 0) fun t ht=>by rw[eE,Yx t q ht hq],uC (i:=q) hq fun t _ aX=>by rw[ak aX,Rat.mul_zero],av rfl]
 rw[hT j l hj hl,<-eE];have:=bL.Ba (m:=d) (b:=d*(R+d+1)+1+R) (n:=d) (f:=fun t=>di d (fun t u=>al Bs t (ps[u]?.getD 0))*(T j t*al Bs t l)) (fun t ht=>by
  rw[show di d (fun t u=>al Bs t (ps[u]?.getD 0))*(T j t*al Bs t l)=T j t*di d (fun t u=>al Bs t (ps[u]?.getD 0))*al Bs t l by grind,<-hTd t ht]
  refine(Yw fun r u hr hu=>?_).mul (h.int t l (by omega) hl)
  unfold bp
  split
  ·unfold CS
   split
   ·exact⟨1,rfl,fH (by decide:Int.natAbs 1<2^1) (rL (by decide) hR)⟩
   ·exact bL.zero
  ·exact hI r u hr hu) Nat.lt_two_pow_self;refine this.mono ?_;have:(d+1)*(R+d+1)=d*(R+d+1)+(R+d+1):=by grind
 omega
def bL.sub{b:Nat}{p q:Rat}(hp:bL b p)(hq:bL b q):bL (b+1) (p-q):=by obtain⟨x,rfl,hx⟩:=hp;obtain⟨y,rfl,hy⟩:=hq;refine⟨x-y,by rw[Rat.intCast_sub],?_⟩;rw[iD];omega
def qK(R d:Nat):Nat:=(d+2)*(R+d+1)
def CP.qb{M:List (List Rat)}{s:Nat->Rat}{c:Nat}{ps:List Nat}(h:CP Bs M s d ps c R)(I:zE M d ps n)(hc:aW M c)(hn:n<=c)(hR:1<=R):bR M (qK R d):=fun r hr q hq=>by
 obtain⟨h1,h2⟩:=h.done I hn hR
 have hB:qK R d=d*(R+d+1)+2*R+2*d+2:=by unfold qK;grind
 have hW:(d+1)*(R+d+1)=d*(R+d+1)+(R+d+1):=by grind
 obtain⟨i,hi⟩:=nP hr
 obtain⟨l,hl⟩:=nP hq
 have uV:=fv hi
 have jX:l<c:=by have:=fv hl;rw[hc r hr]at this;exact this
 have DV:al M i l=q:=by unfold al;rw[hi,iL,hl];rfl
 by_cases e:i<d
 ·have:=h2 i l e jX
  rw[DV]at this
  exact bL.qb h.ne (h1.mono (by omega)) (this.mono (by omega))
 ·have Im:=h.low i l (by omega) uV jX
  have hs:=h.sc i uV
  have jA:∀j,j<d->ps[j]?.getD 0<c:=fun j hj=>by have:=I.lt j hj;omega
  rw[DV]at Im
  refine bL.qb (D:=s i*di d fun t u=>al Bs t (ps[u]?.getD 0)) (fun hc=>?_) ((hs.2.mul h1).mono (by omega)) ?_
  ·rcases Rat.mul_eq_zero.1 hc with h'|h'
   ·exact hs.1 h'
   ·exact h.ne h'
  ·have e1:(s i*di d fun t u=>al Bs t (ps[u]?.getD 0))*q=al Bs i l*(di d fun t u=>al Bs t (ps[u]?.getD 0))-sN (fun j=>al Bs i (ps[j]?.getD 0)*((di d fun t u=>al Bs t (ps[u]?.getD 0))*al M j l)) d:=by
    rw[bf (g:=fun j=>(di d fun t u=>al Bs t (ps[u]?.getD 0))*(al Bs i (ps[j]?.getD 0)*al M j l)) fun j _=>by grind,eE]
    grind
   rw[e1]
   have a1:=((h.int i l uV jX).mul h1).mono (b:=R+(d+1)*(R+d+1)+d) (by omega)
   have a2:=bL.Ba (m:=d) (b:=R+(d+1)*(R+d+1)) (n:=d) (f:=fun j=>al Bs i (ps[j]?.getD 0)*((di d fun t u=>al Bs t (ps[u]?.getD 0))*al M j l)) (fun j hj=>(h.int i _ uV (jA j hj)).mul (h2 j l hj jX)) Nat.lt_two_pow_self
   exact(a1.sub a2).mono (by omega)
def Zpz{m:List (List Rat)}{c:Nat}(hc:aW m c):∀{e:Nat},aK m (c+e)=aK m c
 |0=>rfl
 |e+1=>by
  rw[<-pE,yA,Zpz hc]
  obtain⟨M,hM⟩:∃M,M=aK m c:=⟨_,rfl⟩
  have hr:=(qJ hc (n:=c)).1
  rw[<-hM]at hr ⊢
  have hz:∀i,al M.1 i (c+e)=0:=fun i=>by
   unfold al
   by_cases hi:i<M.1.length
   ·have h3:=hr.at hi
    rw[gl (l:=M.1[i]?.getD []) (by omega)];rfl
   ·have h3:M.1[i]?=none:=gl (by omega)
    rw[h3];rfl
  unfold kL
  rw[ak]
  intro hp
  have hle:=@Ij M.1 (c+e) (M.1.length-M.2.1) M.2.1
  exact(@La M.1 (c+e) (M.1.length-M.2.1) M.2.1 (by unfold iQ at hp;omega)) (hz _)
def SQ{c:Nat}(h:At m c R)(hc:aW m c)(hR:1<=R)(n:Nat):bR (aK m n).1 (qK R (aK m n).2.1):=by
 by_cases hn:n<=c
 ·obtain⟨Bs,s,hC⟩:=Ld h hc hn;exact hC.qb (qI hc) (qJ hc).1 hn hR
 rw[show n=c+(n-c) by omega,Zpz hc];obtain⟨Bs,s,hC⟩:=Ld h hc (aN c);exact hC.qb (qI hc) (qJ hc).1 (aN c) hR
def SR{R a b:Nat}(h:a<=b):qK R a<=qK R b:=oc (by omega) (by omega)
def Yy:1<=qK R d:=Au (by omega) (by omega)
variable {m:List (List Rat)}
def Yli{c:Nat}{v:Nat->Rat}(hc:aW m c)(hv:eL (mO m c) c v):∀j,j<c->v j=sN (fun a=>al (bH m c) a j*v ((aK m c).2.2[a]?.getD 0)) (aK m c).2.1:=fun j hj=>by
 have hl:=vU (n:=c) hc
 obtain⟨y,hy⟩:∃y:Nat->Rat,∀a,y a=v ((aK m c).2.2[a]?.getD 0):=⟨_,fun _=>rfl⟩
 have CT:∀l,l∈(aK m c).2.2->v l-sN (fun a=>al (bH m c) a l*y a) (aK m c).2.1=0:=fun l h=>by
  obtain⟨i,hi,ei,_⟩:=FU hc h
  rw[uC (i:=i) hi fun a ha aX=>by rw[<-ei,Ny hc hi ha,ak aX,Rat.zero_mul],<-ei,Ny hc hi hi,av rfl,hy]
  grind
 rw[show (fun a=>al (bH m c) a j*v ((aK m c).2.2[a]?.getD 0))=fun a=>al (bH m c) a j*y a from funext fun a=>by rw[hy]]
 by_cases hm:j∈(aK m c).2.2
 ·have:=CT j hm
  grind
 ·obtain⟨i,hi⟩:=nP (show j∈pF (aK m c).2.2 c by simp[pF,hj,hm])
  have h1:=hv i (by simpa[mO]using fv hi)
  have h2:sN (fun l=>ix m c j l*v l) c=0:=by
   rw[<-h1]
   exact bf fun l hl=>by rw[Nz hi hl]
  have hk:=FV hc hj hm
  rw[<-yB hc]at hk
  have h3:sN (fun l=>ix m c j l*sN (fun a=>al (bH m c) a l*y a) (aK m c).2.1) c=0:=by
   rw[Zzh (b:=fun _=>0) fun t ht=>hk t (by rw[hl];exact ht)]
   exact pD fun a _=>Rat.zero_mul _
  have h4:sN (fun l=>ix m c j l*(v l-sN (fun a=>al (bH m c) a l*y a) (aK m c).2.1)) c=0:=by
   rw[bf (g:=fun l=>ix m c j l*v l-ix m c j l*sN (fun a=>al (bH m c) a l*y a) (aK m c).2.1) fun l _=>by grind,FW,h2,h3]
   grind
  rw[uC (i:=j) hj]at h4
  ·unfold ix at h4
   rw[av rfl,Rat.one_mul]at h4
   grind
  ·intro l _ aX
   by_cases Av:l∈(aK m c).2.2
   ·rw[CT l Av,Rat.mul_zero]
   ·unfold ix
    rw[ak aX,ak Av,Rat.zero_mul]
def Yq1{c b:Nat}(hc:aW m c)(hb:b<m.length):eL (mO m c) c fun l=>al m b l:=by
 intro a ha;obtain⟨k,hk⟩:=bs (l:=pF (aK m c).2.2 c) (k:=a) (by simpa[mO]using ha);have hm:=cP hk;simp only[pF,List.mem_filter,jz]at hm;have hf:k∉(aK m c).2.2:=by simpa using hm.2
 rw[<-FV hc hm.1 hf b hb];exact bf fun l hl=>by rw[Nz hk hl,Rat.mul_comm]
def Zug{c b:Nat}(hc:aW m c)(hb:b<m.length)(hj:j<c):al m b j=sN (fun a=>al (bH m c) a j*al m b ((aK m c).2.2[a]?.getD 0)) (aK m c).2.1:=Yli hc (Yq1 hc hb) j hj
def Ymc{c:Nat}(h:At m c R)(hc:aW m c)(hR:1<=R):At (mO m c) c (((aK m c).2.1+1)*(R+(aK m c).2.1+1)):=by
 obtain⟨Bs,s,hC⟩:=Ld h hc (n:=c) (aN _);have I:=qI hc (n:=c);obtain⟨h1,h2⟩:=hC.done I (aN _) hR;have h0:=hC.ne;obtain⟨d,hd⟩:∃d,d=(aK m c).2.1:=⟨_,rfl⟩;intro i hi;obtain⟨k,hk⟩:=bs (l:=pF (aK m c).2.2 c) (k:=i) (by simpa[mO]using hi);have hB:(aK m c).2.1*(R+(aK m c).2.1+1)+1<=((aK m c).2.1+1)*(R+(aK m c).2.1+1):=by rw[iR];omega
 refine⟨_,h0,h1.mono hB,fun l hl=>?_⟩;rw[Nz hk hl];unfold ix;split
 ·rw[Rat.mul_one];exact h1.mono hB
 split
 ·rename_i hm;obtain⟨a,ha,_,ex⟩:=FU hc hm;have SS:=cP hk;simp only[pF,List.mem_filter,jz]at SS;rw[ex,FX ha,Rat.mul_neg];exact(h2 a k ha SS.1).neg
 rw[Rat.mul_zero];exact bL.zero
open Go
def SU(r:T V)(n:Nat)(ps:List Nat)(a b:ct)(d:Nat):NA:={st:=.ready,fN:=none,r:=r,n:=n,ps:=ps,assign:=a,body:=b,defs:=d}
def NB:Option Ex->Ex
 |none=>.normal
 |some e=>e
def Ycb{C:Cx}{Q:Rs->Prop}{g:Src}{a b:ct}{N:Nat}{h:T O}{w:List Nat}{gv:V}{P:V->St->Prop}(hg:g.ev r=some gv)(hy:gv.Io=false)(hc:Call C gv [.yield (N+1)] ⟨(h.set N (.defs true)).set (N+1) (.loop (SU r n ps a b N)),N+1+1,w⟩ P)(k:∀v aB,P v aB->∃R,aB.h.get (N+1)=some (.loop R)/\R.st≠.busy/\bD C K (some (.ex (NB R.fN) ⟨r,n,[N]⟩ (aB.write (N+1) (.loop {R with st:=.exhausted})))) Q):bD C K (fy (C.code none (.jY g ps a b) ⟨r,n,[]⟩ ⟨h,N,w⟩)) Q:=by
 obtain⟨v,aB,e,p⟩:=hc.ex;obtain⟨R,h1,h2,h3⟩:=k v aB p;have e2:C.code none (.jY g ps a b) ⟨r,n,[]⟩ ⟨h,N,w⟩=some (NB R.fN,⟨r,n,[N]⟩,aB.write (N+1) (.loop {R with st:=.exhausted})):=by rw[Cx.dE];show Bb g ps a b C.call C.code none ⟨r,n,[]⟩ ⟨h,N,w⟩=_;unfold Bb;simp only[hg,hy,SV,St.alloc];unfold SU at e;simp only[iE,if_false,e,h1,h2];unfold NB;rfl
 rw[e2];exact h3
def Ymo{C:Cx}{Q:Rs->Prop}{rs:List FY}{st:St}{e:Ex}(hd:h1.get d=some (.defs true))(he:∀i,e≠.exit i):bD C (.fin rs st::K) (some (.ex e ⟨r,n,[d]⟩ ⟨h1,n1,w1⟩)) Q↔bD C K (SW (h1.set d (.defs false)) n1 (az st.n (d::w1)++st.w) (gF r ⟨h1.set d (.defs false),n1,d::w1⟩ rs)) Q:=jQ (by
 have:shut ⟨h1,n1,w1⟩ [d]=some ⟨h1.set d (.defs false),n1,d::w1⟩:=by
  unfold shut
  simp only[hd]
  rfl
 cases e with
 |exit i=>exact absurd rfl (he i)
 |normal=>
  simp only[jB,nE,sL,this]
  rcases gF r _ rs with _|_<;>rfl
 |ret=>
  simp only[jB,nE,sL,this]
  rcases gF r _ rs with _|_<;>rfl)
def Yed{C:Cx}{l:Nat}{args:List V}{st:St}{R:NA}{P:V->St->Prop}(hx:C.x (.yield l) args st=none)(hl:st.h.get l=some (.loop R))(hs:R.st=.ready)(hp:DX R.r R.n R.ps args=some r0)(hc:Code C (some l) R.assign ⟨r0,R.n,[]⟩ st (fun e fr cg=>e=.normal/\cg.h.get l=some (.loop R)/\Code C (some l) R.body fr (cg.write l (.loop {R with st:=.busy})) (fun e2 _ fz=>∃R2,fz.h.get l=some (.loop R2)/\P (.bool (sM e2).isNone) (fz.write l (.loop {R2 with st:=Lf (sM e2),fN:=sM e2}))))):Call C (.yield l) args st P:=by obtain⟨e,fr,cg,e1,rfl,g1,hb⟩:=hc.ex;obtain⟨e2,Bc,fz,e3,R2,g2,p⟩:=hb.ex;refine⟨_,_,?_,p⟩;rw[Cx.od];unfold uD;rw[hx];show DY C.code l args st=_;unfold DY;simp only[hl,hp,e1,g1,hs,if_true,e3,g2]
def fj.wJ{h:T O}{N B:Nat}{u v:V}{e:TypeId}(s:fj h N u m)(k:ec (fun i=>i=B) h N h' N')(g:h.get B=some (.cells [.aa] e true))(he:e≠101)(h0:0<m.length)(hm:∀r∈m,0<r.length):fj h' N' u m:=by
 obtain⟨us,h1,h2,h3⟩:=s;have hd:mP e NW h (.slice B 0 1 none 1):=fun i hi=>by simp[bI]at hi;subst hi;exact⟨_,g,by simp,fun y hy=>by simp at hy;subst hy;exact fun m=>by simp⟩
 have k':ec (fun i=>i∈bI (.slice B 0 1 none 1)) h N h' N':=k.mono fun i _ hi=>by simp[bI];exact hi
 refine⟨us,h1.bE k fun i hi hc=>?_,h2,fun j l hl=>?_⟩
 ·subst hc;obtain⟨l,hl⟩:=bs h0;obtain⟨x,g1,g2⟩:=h3 0 l hl;have dk:=hm l (cP hl);obtain⟨j,o,c,e',sO,q1,q2,q3,q4⟩:=h1.at g1;have hj:j=i:=by cases u<;>simp[yC,bI]at q1 hi;all_goals omega
  subst hj;rw[g]at q3;simp only[ar,O.cells.injEq]at q3;obtain⟨rfl,_⟩:=q3;have:x=.aa:=by have:=cP q4;simpa using this
  subst this;have hlen:=g2.1.len;simp[oe]at hlen;omega
 obtain⟨x,g1,g2⟩:=h3 j l hl;exact⟨x,g1,g2.bE k' hd he⟩
def A.b120:=A.q Tryz.f120
def A.k120:=@A.kk 120 4 [.tmp 2] A.b120 (by kernel_rfl) rfl
def Yng{h:T O}{N:Nat}{u:V}(h1:V.one u=true)(h2:V.cells u=[u]):Fn A.C 120 [u] h N (fun x h' n'=>∃e,x=.func 182 [] [.ptr N 0]/\N<n'/\h'.get N=some (.cells [u] e true)):=by intro w;have kB:∀e,ab h N (h.set N (.cells [u] e true)) (N+1):=fun e=>ab.refl.new _;rw[aP,A.k120 (by simp)];simp[-V.cells, -V.one,A.b120,h1,h2,ay];exact kB _
def DU(N B i:Nat):Prop:=i=N+1\/i=B\/N+2<=i
structure Pk where
 act:Int
 am:aH
 sl:List aH
def NC(p:Pk)(u:V):List V:=[.int .i64 p.act,.str p.am,u]
def ND(h:T O)(N:Nat)(v:V)(l:List Pk):Prop:=∃cs:List (List V),Sn 3 h N v cs/\cs.length=l.length/\∀(j:Nat) (p:Pk),l[j]?=some p->∃u,cs[j]?=some (NC p u)/\Sl h N u (strs p.sl)
def ND.ad{h h':T O}{N N':Nat}{v:V}{l:List Pk}(s:ND h N v l)(k:ab h N h' N'):ND h' N' v l:=by obtain⟨cs,h1,h2,h3⟩:=s;refine⟨cs,h1.ad k,h2,fun j p hp=>?_⟩;obtain⟨u,g1,g2⟩:=h3 j p hp;exact⟨u,g1,g2.ad k⟩
def Yz{x c:List V}{k:Nat}(h:aO x k n=some c)(hj:j<n):x[k+j]?=c[j]?:=by obtain⟨h1,rfl⟩:=NF h;rw[jZ,av hj,fU]
def ND.at{h:T O}{N:Nat}{v:V}{l:List Pk}(s:ND h N v l){j:Nat}{p:Pk}(hj:l[j]?=some p):∃i o x e rw u,yC v=some (i,o)/\i<N/\h.get i=some (.cells x e rw)/\aO x (o+j*3) 3=some (NC p u)/\x[o+j*3]?=some (.int .i64 p.act)/\x[o+j*3+1]?=some (.str p.am)/\x[o+j*3+2]?=some u/\Sl h N u (strs p.sl):=by obtain⟨cs,h1,h2,h3⟩:=s;obtain⟨u,g1,g2⟩:=h3 j p hj;obtain⟨i,o,x,e,rw,q1,q2,q3,q4⟩:=h1.at g1;exact⟨i,o,x,e,rw,u,q1,q2,q3,q4,by have:=Yz q4 (j:=0) (by decide);simpa[NC]using this,by have:=Yz q4 (j:=1) (by decide);simpa[NC]using this,by have:=Yz q4 (j:=2) (by decide);simpa[NC]using this,g2⟩
section
variable {h:T O} {N P B:Nat} {p:Pk} {u:V} {e eB:TypeId} {rw rwB:Bool} {z:Int}
end
variable {N i:Nat} {h:T O} {o o0:O} {v:V}
def Ip(o:O):Prop:=∀c e w,o≠.cells c e w
def Sl.rm{l:List V}(s:Sl h N v l)(g:h.get i=some o0)(ho:Ip o0):Sl (h.set i o) N v l:=s.bE (D:=fun j=>j=i) ⟨aN _,fun j _ hj=>by rw[T.ag,ak hj]⟩ fun j hj hc=>by
 subst hc
 rcases s with⟨_,rfl|rfl⟩|⟨j',o',cp,c,e,rw,rfl,_,h3,_⟩
 ·simp[bI]at hj
 ·simp[bI]at hj
 ·simp[bI]at hj
  subst hj
  rw[g]at h3
  exact absurd (px h3) (ho _ _ _)
def dR.rm{l:List Rat}(s:dR h N v l)(g:h.get i=some o0)(ho:Ip o0):dR (h.set i o) N v l:=by
 obtain⟨⟨cs,h1,h2,h3⟩,h4⟩:=s;have aX:∀j∈bI v,¬j=i:=fun j hj hc=>by obtain⟨z,w,hz⟩:=h4 j hj;rw[hc,g]at hz;exact absurd (px hz) (ho _ _ _)
 have hI:∀{x:V} {z:Int},In h N x z->In (h.set i o) N x z:=fun s=>by
  rcases s with s|⟨i,o,l,c,s1,s2,s3⟩
  ·exact .inl s
  exact .inr ⟨i,o,l,c,s1,Sl.rm s2 g ho,s3⟩
 refine⟨⟨cs,h1.bE (D:=fun j=>j=i) ⟨aN _,fun j _ hj=>by rw[T.ag,ak hj]⟩ aX,h2,fun j q hq=>?_⟩,fun j hj=>by rw[T.ag,ak (aX j hj)];exact h4 j hj⟩;obtain⟨c,a,n1,u1,n2,u2,e,s1,s2⟩:=h3 j q hq;exact⟨c,a,n1,u1,n2,u2,e,hI s1,hI s2⟩
def iF.rm{N0:Nat}{m:List (List Rat)}(s:iF N0 h N v m)(g:h.get i=some o0)(ho:Ip o0):iF N0 (h.set i o) N v m:=by
 obtain⟨us,⟨hl,h1⟩,h2,h3,h4⟩:=s;refine⟨us,⟨hl,?_⟩,h2,h3,fun j l hl=>?_⟩
 ·rcases h1 with h1|⟨j,a,b,c,d⟩
  ·exact .inl h1
  refine .inr ⟨j,a,b,c,?_⟩;rw[T.ag,ak]
  ·exact d
  rintro rfl;rw[g]at d;exact absurd (px d) (ho _ _ _)
 obtain⟨u,g1,g2⟩:=h4 j l hl;exact⟨u,g1,g2.rm g ho⟩
variable {N k:Nat} {h:T O} {m:List (List Rat)} {v:V} {w:List Rat}
def A.sP:ct:=.fV [mv 7 11]
def A.sQ:ct:=.block 1 (.f_ [ld 12 5,mv 13 7,ld 14 3,ge 15 (.call (fq 78) [tq 13,tq 14,(fq 79)]),ge 16 (.gg 90 1 1 [.aa] [(0,1,(tq 15))]),ge 17 (.append 1 24 90 [.aa] (tq 12) (tq 16)),so 5 17] [0,0,0,6,14,31,63])
def A.b62:ct:=sr [bx 3 90 1,mN 4] (sr [ge 5 (.alloc [.aa] 87)] (.seq (sr [mv 8 0,c1 9 120 8] (.block 0 (.jY (tq 9) [10,11] A.sP A.sQ))) (sr [ld 18 5,mv 4 18] (.ret))))
def A.k62:=@A.kk 62 19 [.tmp 4] A.b62 (by kernel_rfl) rfl
def dR.wJ{B:Nat}{u:V}{e:TypeId}(s:dR h N u l)(k:ec (fun i=>i=B) h N h' N')(g:h.get B=some (.cells [.aa] e true))(he:e≠101):dR h' N' u l:=
 s.bE (v:=.slice B 0 1 none 1) (k.mono fun i _ hi=>by simp[bI];exact hi) (fun i hi=>by
  simp[bI]at hi
  subst hi
  exact⟨_,g,by simp,fun y hy=>by simp at hy;subst hy;exact fun m=>by simp⟩) he
def iF.form{N0:Nat}(s:iF N0 h N v m):V.one v=true/\V.cells v=[v]/\∀n,v≠.int .u64 n:=by
 obtain⟨us,h1,_⟩:=s;obtain⟨_,⟨_,rfl⟩|⟨i,rfl,_⟩⟩:=h1
 ·exact⟨rfl,rfl,fun n=>by simp⟩
 exact⟨rfl,rfl,fun n=>by simp⟩
def iF.YA{N0:Nat}{B:Nat}{y z:V}(s:iF N0 h N v m)(hB:B<N0)(g:h.get B=some (.cells [y] 87 true))(hy:∀n,y≠.int .u64 n):iF N0 (h.set B (.cells [z] 87 true)) N v m:=by
 obtain⟨us,h1,h2,h3,h4⟩:=s;refine⟨us,?_,h2,h3,fun j l hl=>?_⟩
 ·obtain⟨a,b⟩:=h1;refine⟨a,?_⟩;rcases b with b|⟨i,b1,b2,b3,b4⟩
  ·exact .inl b
  exact .inr ⟨i,b1,b2,b3,by rw[T.ag,ak (by omega)];exact b4⟩
 obtain⟨u,a,b⟩:=h4 j l hl;exact⟨u,a,b.bp g (by decide) (fun x hx m hc=>by simp at hx;exact hy m (hx▸hc)) rfl⟩
def Aw(m:List (List Rat))(w:List Rat)(k:Nat):List (List Rat):=(List.range k).map fun j=>yD (qL m j) w (qL m j).length
def Yjy{m:List (List Rat)}{w:List Rat}{k:Nat}:Aw m w (k+1)=Aw m w k++[yD (qL m k) w (qL m k).length]:=by unfold Aw;rw[List.range_succ,List.map_append];rfl
def Ypw:(Aw m w k).length=k:=by simp[Aw]
def Yvg(h:w.length=m.length):Aw m w k=(dm m k).map fun r=>iG r w:=by unfold Aw dm;rw[List.map_map];apply Ax;intro j _;simp only[Function.comp];unfold iG yD;rw[show (qL m j).length=w.length by simp[qL,h]]
def wR(r:T V)(d:Nat):NA:=SU r 19 [10,11] A.sP A.sQ d
def Ypt{B P j0 k0:Nat}{x wv:V}{e:TypeId}{rw:Bool}(hL:H.get (N+1)=some (.loop (wR r d)))(hB:H.get B=some (.cells [v] 87 true))(hP:H.get P=some (.cells [wv] e rw))(hO:iF (N+2) H n v (Aw m sS k))(hn:N+2<=n)(YB:B<N)(YC:P<N)(hx:dR H n x (qL m k))(hw:dR H n wv sS)(hk:k<1000)(jR:(qL m k).length=sS.length)(hl:sS.length<1000)(qa:∀q∈qL m k,Qb j0 q)(qb:∀q∈sS,Qb k0 q)(hj:j0<=400000000)(pG:k0<=400000000)(h5:r.get 5=some (.ptr B 0))(h3:r.get 3=some (.ptr P 0))(hW:az B W=[]):Call A.C (.yield (N+1)) [.int .i64 k,x] ⟨H,n,W⟩ (fun y st=>y=.bool true/\az B st.w=[]/\ec (DU N B) H n st.h st.n/\st.h.get (N+1)=some (.loop (wR r d))/\∃v',st.h.get B=some (.cells [v'] 87 true)/\iF (N+2) st.h st.n v' (Aw m sS (k+1))):=by
 refine Yed (R:=wR r d) (r0:=(r.set 10 (.int .i64 k)).set 11 x) rfl hL rfl (by simp[wR,SU,DX]) ?_;rw[bG];show bD A.C [] (fy (A.C.code (some (N+1)) A.sP ⟨_,19,[]⟩ ⟨H,n,W⟩)) _;simp[A.sP];refine⟨hL,?_⟩;rw[bG];show bD A.C [] (fy (A.C.code (some (N+1)) A.sQ ⟨_,19,[]⟩ _)) _;have nc:Ip (.loop (wR r d)):=fun c e w h=>by cases h
 have wK:=hx.rm (o:=.loop {wR r d with st:=.busy}) hL nc;have Lg:=hw.rm (o:=.loop {wR r d with st:=.busy}) hL nc;have hBu:(H.set (N+1) (.loop {wR r d with st:=.busy})).get B=some (.cells [v] 87 true):=by rw[T.ag,ak (by omega)];exact hB
 have hPu:(H.set (N+1) (.loop {wR r d with st:=.busy})).get P=some (.cells [wv] e rw):=by rw[T.ag,ak (by omega)];exact hP
 have hLu:(H.set (N+1) (.loop {wR r d with st:=.busy})).get (N+1)=some (.loop {wR r d with st:=.busy}):=by rw[T.ag,av rfl]
 have U1:ec (DU N B) H n (H.set (N+1) (.loop {wR r d with st:=.busy})) n:=⟨aN _,fun i _ hi=>by rw[T.ag,ak fun hc=>hi (.inl hc)]⟩;have oU:=hO.rm (o:=.loop {wR r d with st:=.busy}) hL nc;generalize H.set (N+1) (.loop {wR r d with st:=.busy})=G at*;have lB:B<n:=by omega
 have lP:P<n:=by omega
 have hLB:¬N+1<B:=by omega
 simp[A.sQ,h5,h3,hBu,hPu,lB,lP];refine au (YD wK.1 Lg.1 (by omega) qa qb hj pG (by omega)) ?_;rintro y H2 n2 k2 hy;have lf:=k2.le;have CU:=(k2.get B (by omega)).trans hBu;have gL2:=(k2.get (N+1) (by omega)).trans hLu;have o2:=oU.ad k2;have lB2:B<n2:=by omega
 obtain⟨f1,f2,f3⟩:=hy.1.form;have zM:ae [V.aa] 0 [y]=[y]:=rfl;simp[-V.cells, -V.one,f1,f2,zM];have kD:ab H2 n2 (H2.set n2 (.cells [y] 90 true)) (n2+1):=ab.refl.new _;obtain⟨v',h',w',j1,j2,j3,j4⟩:=iF.push (N0:=N+2) (x:=.slice n2 0 1 (some 1) 1) (w:=[]) (o2.ad kD) (hy.ad kD) (by omega) (by simp[fO,St.row,aO]) (by rw[Ypw];omega);have zN:=(j3.get B (by omega)).trans ((kD.get B lB2).trans CU);have NG:=(j3.get (N+1) (by omega)).trans ((kD.get (N+1) (by omega)).trans gL2);have lB3:B<n2+1+1:=by omega
 have ov:=j4.form;have ovv:=hO.form;have U3:ec (DU N B) H n h' (n2+1+1):=((U1.trans k2.upd).trans kD.upd).trans ⟨by omega,fun i hi hd=>j3.get i (by unfold DU at hd;omega)⟩;have g4:(h'.set B (.cells [v'] 87 true)).get (N+1)=some (.loop {wR r d with st:=.busy}):=by rw[T.ag,ak (by omega)];exact NG
 have o4:=j4.YA (z:=v') (by omega) zN ovv.2.2;have nc2:Ip (.loop {wR r d with st:=.busy}):=fun c e w h=>by cases h
 have uW:=@Yjy m sS k;simp[-V.cells, -V.one,j1,h5,zN,lB3,bM,ov.1,ov.2.1,ae];refine⟨{wR r d with st:=.busy},by rw[ak (by omega)];exact NG,rfl,?_,(U3.set (.inl (.inr (.inl rfl)))).set (.inl (.inl rfl)),rfl,v',by rw[ak (by omega)],?_⟩
 ·rw[ak hLB];refine Iq fun i hi=>?_;rcases iS.1 hi with hi|hi
  ·have:=FZ (j2.trans rfl) i (Ir hi).1;omega
  rcases iP.1 hi with rfl|hi
  ·omega
  exact FZ hW i hi
 rw[uW];exact o4.rm g4 nc2
def A.NH:=A.q Tryz.f182
def A.sU:=A.ql A.NH 0 []
def A.b182:=(fun x0=>A.qb A.NH [x0]) A.sU
def A.k182:=@A.kk 182 19 [] A.b182 (by kernel_rfl) rfl
end
end Go.Mx
