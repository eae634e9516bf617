/-Determinants-/
import Derived.Test.YtlfdeoomaccciaaGreatDoorMxRf
set_option linter.all false
namespace Go.Mx
open Go Go.Proofs
variable {b i j n:Nat}
set_option maxRecDepth 1000000
def ky(i r:Nat):Nat:=if r<i then r else r+1
def iG(i:Nat):Rat:=if i%2=0 then 1 else -1
def cN:Nat->(Nat->Nat->Rat)->Rat
 |0,_=>1
 |n+1,A=>sN (fun i=>iG i*(A i 0*cN n (fun r u=>A (ky i r) (u+1)))) (n+1)
def bj(A:Nat->Nat->Rat)(t:Nat)(a:Nat->Rat):Nat->Nat->Rat:=fun r u=>if r=t then a u else A r u
def xR:∀{n:Nat} {A B:Nat->Nat->Rat},(∀r u,r<n->u<n->A r u=B r u)->cN n A=cN n B
 |0,_,_,_=>rfl
 |n+1,A,B,h=>by
  unfold cN
  apply pD
  intro i hi
  rw[h i 0 hi (by omega),xR fun r u hr hu=>h (ky i r) (u+1) (by unfold ky;split<;>omega) (by omega)]
def Yft:iG (i+1)= -iG i:=by
 unfold iG
 by_cases h:i%2=0
 ·rw[ay h,ak (by omega)]
 ·rw[ak h,ay (by omega)]
  rfl
def Yqx{r:Nat}:ky i r≠i:=by unfold ky;split<;>omega
def Ps{x y:Rat}{a b:Nat->Rat}:∀{n t:Nat} {A:Nat->Nat->Rat},t<n->cN n (bj A t fun u=>x*a u+y*b u)=x*cN n (bj A t a)+y*cN n (bj A t b)
 |0,t,A,h=>by omega
 |n+1,t,A,h=>by
  unfold cN
  rw[<-xS,<-xS,<-IC]
  apply pD
  intro i hi
  by_cases e:i=t
  ·subst e
   have hm:∀v:Nat->Rat,cN n (fun r u=>bj A i v (ky i r) (u+1))=cN n (fun r u=>A (ky i r) (u+1)):=fun v=>xR fun r u _ _=>by
    unfold bj
    rw[ak Yqx]
   rw[hm,hm,hm]
   unfold bj
   rw[ay rfl,ay rfl,ay rfl]
   grind
  ·obtain⟨s,hs,xU⟩:∃s,(∀r,ky i r=t↔r=s)/\s<n:=by
    unfold ky
    by_cases c:t<i
    ·exact⟨t,fun r=>by split<;>omega,by omega⟩
    ·exact⟨t-1,fun r=>by split<;>omega,by omega⟩
   have hm:∀v:Nat->Rat,cN n (fun r u=>bj A t v (ky i r) (u+1))=cN n (bj (fun r u=>A (ky i r) (u+1)) s fun u=>v (u+1)):=fun v=>xR fun r u _ _=>by
    unfold bj
    by_cases hr:r=s
    ·rw[ay ((hs r).2 hr),ay hr]
    ·rw[ak fun h=>hr ((hs r).1 h),ak hr]
   rw[hm,hm,hm,Ps (n:=n) xU]
   unfold bj
   rw[ak e,ak e,ak e]
   grind
def Pt:∀{n t:Nat} {A:Nat->Nat->Rat},t+1<n->(∀u,u<n->A t u=A (t+1) u)->cN n A=0
 |0,t,A,h,_=>by omega
 |n+1,t,A,h,he=>by
  unfold cN
  have hz:∀i,i<n+1->iG i*(A i 0*cN n (fun r u=>A (ky i r) (u+1)))=(if i=t then iG t*(A t 0*cN n (fun r u=>A (ky t r) (u+1))) else 0)+(if i=t+1 then iG (t+1)*(A (t+1) 0*cN n (fun r u=>A (ky (t+1) r) (u+1))) else 0):=fun i hi=>by
   by_cases e1:i=t
   ·subst e1
    rw[ay rfl,ak (by omega),Rat.add_zero]
   ·by_cases e2:i=t+1
    ·subst e2
     rw[ay rfl,ak (by omega),Rat.zero_add]
    ·rw[ak e1,ak e2,Rat.add_zero]
     have:cN n (fun r u=>A (ky i r) (u+1))=0:=by
      by_cases c:i<t
      ·refine Pt (t:=t-1) (by omega) fun u hu=>?_
       simp only[ky]
       rw[ak (by omega),ak (by omega),show t-1+1=t by omega]
       exact he (u+1) (by omega)
      ·refine Pt (t:=t) (by omega) fun u hu=>?_
       simp only[ky]
       rw[ay (by omega),ay (by omega)]
       exact he (u+1) (by omega)
     rw[this,Rat.mul_zero,Rat.mul_zero]
  rw[pD hz,IC,ID (i:=t) (by omega) fun j _ hj=>ak hj,ID (i:=t+1) (by omega) fun j _ hj=>ak hj,ay rfl,ay rfl,Yft,he 0 (by omega)]
  have:cN n (fun r u=>A (ky t r) (u+1))=cN n (fun r u=>A (ky (t+1) r) (u+1)):=xR fun r u _ hu=>by
   unfold ky
   by_cases e:r=t
   ·subst e
    rw[ak (by omega),ay (by omega)]
    exact(he (u+1) (by omega)).symm
   ·by_cases c:r<t
    ·rw[ay c,ay (by omega)]
    ·rw[ak c,ak (by omega)]
  rw[this]
  grind
def Yb3{A:Nat->Nat->Rat}{t:Nat}{r u:Nat}:bj A t (A t) r u=A r u:=by
 unfold bj
 split
 ·rename_i h;rw[h]
 ·rfl
def Zrp{t:Nat}{A:Nat->Nat->Rat}:cN n (bj A t (A t))=cN n A:=xR fun _ _ _ _=>Yb3
def Pv{a b:Nat->Rat}{t:Nat}{A:Nat->Nat->Rat}(h:t<n):cN n (bj A t fun u=>a u+b u)=cN n (bj A t a)+cN n (bj A t b):=by
 have:=Ps (x:=1) (y:=1) (a:=a) (b:=b) (A:=A) h
 rw[Rat.one_mul,Rat.one_mul]at this
 rw[<-this]
 exact xR fun r u _ _=>by unfold bj;split<;>grind
def Yji{a b:Nat->Rat}{t:Nat}{A:Nat->Nat->Rat}(h:t+1<n):cN n (bj (bj A t a) (t+1) b)= -cN n (bj (bj A t b) (t+1) a):=by
 have z:∀v:Nat->Rat,cN n (bj (bj A t v) (t+1) v)=0:=fun v=>Pt h fun u _=>by
  unfold bj
  rw[ak (by omega),ay rfl,ay rfl]
 have sw:∀v w:Nat->Rat,cN n (bj (bj A t v) (t+1) w)=cN n (bj (bj A (t+1) w) t v):=fun v w=>xR fun r u _ _=>by
  unfold bj
  by_cases e1:r=t+1
  ·rw[ay e1,ak (by omega),ay e1]
  ·rw[ak e1,ak e1]
 have h0:=z fun u=>a u+b u
 rw[Pv h,sw _ a,sw _ b,Pv (by omega),Pv (by omega),<-sw,<-sw,<-sw,<-sw,z,z]at h0
 grind
def Uy{n:Nat}:∀{k s:Nat} {A:Nat->Nat->Rat},s+1+k<n->(∀u,u<n->A s u=A (s+1+k) u)->cN n A=0
 |0,s,A,h,he=>Pt h he
 |k+1,s,A,h,he=>by
  have h1:cN n A=cN n (bj (bj A (s+1+k) (A (s+1+k))) (s+1+k+1) (A (s+1+k+1))):=xR fun r u _ _=>by
   unfold bj
   by_cases e:r=s+1+k+1
   ·rw[ay e,e]
   ·rw[ak e]
    by_cases e2:r=s+1+k
    ·rw[ay e2,e2]
    ·rw[ak e2]
  rw[h1,Yji (by omega),Uy (k:=k) (s:=s) (by omega) fun u hu=>?_]
  ·rfl
  ·unfold bj
   rw[ak (by omega),ak (by omega),ak (by omega),ay rfl]
   exact he u hu
def Yo7{A:Nat->Nat->Rat}(hi:i<n)(hj:j<n)(aW:i≠j)(he:∀u,u<n->A i u=A j u):cN n A=0:=by
 rcases Nat.lt_or_gt_of_ne aW with h|h
 ·exact Uy (k:=j-i-1) (s:=i) (by omega) (by rw[show i+1+(j-i-1)=j by omega];exact he)
 ·exact Uy (k:=i-j-1) (s:=j) (by omega) (by rw[show j+1+(i-j-1)=i by omega];exact fun u hu=>(he u hu).symm)
def Ye0{A:Nat->Nat->Rat}(hi:i<n)(hj:j<n):cN n (bj A j (A i))=if i=j then cN n A else 0:=by
 by_cases e:i=j
 ·subst e
  rw[ay rfl,Zrp]
 ·rw[ak e]
  exact Yo7 hi hj e fun u _=>by
   unfold bj
   rw[ak e,ay rfl]
def Yjg{t:Nat}{A:Nat->Nat->Rat}(h:t<n):cN n (bj A t fun _=>0)=0:=by
 have:=Ps (x:=0) (y:=0) (a:=fun _=>0) (b:=fun _=>0) (A:=A) h
 have e:cN n (bj A t fun _=>0)=cN n (bj A t fun _=>(0:Rat)*0+0*0):=xR fun r u _ _=>by
  unfold bj
  split
  ·show (0:Rat)=0*0+0*0
   grind
  ·rfl
 rw[e,this]
 grind
def Uz{n j:Nat}{A:Nat->Nat->Rat}{c:Nat->Rat}{w:Nat->Nat->Rat}(hj:j<n):∀{k:Nat},cN n (bj A j fun u=>sN (fun t=>c t*w t u) k)=sN (fun t=>c t*cN n (bj A j (w t))) k
 |0=>Yjg hj
 |k+1=>by
  have:=Ps (x:=1) (y:=c k) (a:=fun u=>sN (fun t=>c t*w t u) k) (b:=w k) (A:=A) hj
  rw[Rat.one_mul,Uz hj]at this
  unfold sN
  rw[<-this]
  exact xR fun r u _ _=>by
   unfold bj
   split
   ·show _=1*_+_
    rw[Rat.one_mul]
   ·rfl
def A2(l u:Nat):Rat:=if u=l then 1 else 0
def Yjh{A:Nat->Nat->Rat}{v:Nat->Rat}(hj:j<n):cN n (bj A j v)=sN (fun l=>v l*cN n (bj A j (A2 l))) n:=by
 rw[<-Uz hj]
 apply xR
 intro r u _ hu
 unfold bj
 split
 ·show v u=sN (fun t=>v t*A2 t u) n
  rw[ID (i:=u) hu]
  ·unfold A2
   rw[ay rfl,Rat.mul_one]
  ·intro l _ aW
   unfold A2
   rw[ak (Ne.symm aW),Rat.mul_zero]
 ·rfl
def Zx0{π:Rat}:∀{n:Nat} {A:Nat->Nat->Rat},(∀u,u<n->A n u=0)->A n n=π->cN (n+1) A=π*cN n A
 |0,A,_,h=>by
  simp only[cN,sN,h,iG]
  grind
 |n+1,A,hz,h=>by
  rw[cN]
  have e:∀i,i<n+1+1->iG i*(A i 0*cN (n+1) (fun r u=>A (ky i r) (u+1)))=if i<n+1 then π*(iG i*(A i 0*cN n (fun r u=>A (ky i r) (u+1)))) else 0:=fun i hi=>by
   by_cases c:i<n+1
   ·rw[ay c,Zx0 (n:=n) (π:=π) (fun u hu=>?_) ?_]
    ·grind
    ·simp only[ky]
     rw[ak (by omega)]
     exact h
    ·simp only[ky]
     rw[ak (by omega)]
     exact hz _ (by omega)
   ·obtain rfl:i=n+1:=by omega
    rw[ak c,hz 0 (by omega),Rat.zero_mul,Rat.mul_zero]
  rw[pD e]
  show sN _ (n+1)+(if n+1<n+1 then π*(iG (n+1)*(A (n+1) 0*cN n (fun r u=>A (ky (n+1) r) (u+1)))) else 0)=_
  rw[ak (by omega),Rat.add_zero,cN,<-xS]
  apply pD
  intro i hi
  rw[ay hi]
def eH(b:Nat)(q:Rat):Prop:=∃z:Int,q=(z:Rat)/\z.natAbs<2^b
def eH.mul{a:Nat}{p q:Rat}(hp:eH a p)(hq:eH b q):eH (a+b) (p*q):=by
 obtain⟨x,rfl,hx⟩:=hp
 obtain⟨y,rfl,hy⟩:=hq
 refine⟨x*y,by rw[Rat.intCast_mul],?_⟩
 rw[uO,kf]
 exact A3 hx hy
def eH.sum{b:Nat}{f:Nat->Rat}:∀{n:Nat},(∀i,i<n->eH b (f i))->∃z:Int,sN f n=(z:Rat)/\z.natAbs<=n*2^b
 |0,_=>⟨0,rfl,by simp⟩
 |n+1,h=>by
  obtain⟨z,h1,h2⟩:=eH.sum (n:=n) fun i hi=>h i (by omega)
  obtain⟨y,h3,h4⟩:=h n (by omega)
  refine⟨z+y,by unfold sN;rw[h1,h3,Rat.intCast_add],?_⟩
  have:=Int.natAbs_add_le z y
  rw[iU]
  omega
def eH.FD{m:Nat}{f:Nat->Rat}(h:∀i,i<n->eH b (f i))(hn:n<2^m):eH (b+m) (sN f n):=by
 obtain⟨z,h1,h2⟩:=eH.sum h
 refine⟨z,h1,qx h2 ?_⟩
 rw[Nat.add_comm,kf]
 exact IE hn (qy b)
def eH.mono{a:Nat}{q:Rat}(h:eH a q)(fU:a<=b):eH b q:=by
 obtain⟨z,h1,h2⟩:=h
 exact⟨z,h1,eY h2 (qz (by decide) fU)⟩
def eH.iG:eH 1 (iG i):=by
 unfold Go.Mx.iG
 split
 ·exact⟨1,rfl,by decide⟩
 ·exact⟨-1,rfl,by decide⟩
def UA{b:Nat}:∀{n:Nat} {A:Nat->Nat->Rat},(∀r u,r<n->u<n->eH b (A r u))->eH (n*(b+n+1)+1) (cN n A)
 |0,_,_=>⟨1,rfl,by rw[Nat.zero_mul];decide⟩
 |n+1,A,h=>by
  unfold cN
  have e:∀i,i<n+1->eH (1+(b+(n*(b+n+1)+1))) (iG i*(A i 0*cN n (fun r u=>A (ky i r) (u+1)))):=fun i hi=>eH.iG.mul ((h i 0 hi (by omega)).mul (UA fun r u hr hu=>h _ _ (by unfold ky;split<;>omega) (by omega)))
  have:=eH.FD (m:=n+1) e Nat.lt_two_pow_self
  refine this.mono ?_
  have:(n+1)*(b+(n+1)+1)=n*(b+n+1)+n+(b+n+2):=by grind
  omega
variable {Bs m:List (List Rat)} {R d n:Nat} {b k s v x y:Rat}
def Pw(m:List (List Rat))(c R:Nat):Prop:=∀i,i<m.length->∃s:Rat,s≠0/\eH R s/\∀l,l<c->eH R (s*aP m i l)
def eH.qb{b:Nat}{q D:Rat}(h0:D≠0)(hD:eH b D)(hq:eH b (D*q)):Qb b q:=by
 obtain⟨x,rfl,hx⟩:=hD
 obtain⟨y,h1,hy⟩:=hq
 have mG:x≠0:=fun h=>h0 (by rw[h];rfl)
 have e:q=Rat.divInt y x:=by
  rw[Rat.divInt_eq_div,<-h1,Rat.div_def]
  have:=Rat.mul_inv_cancel (x:Rat) h0
  grind
 rw[e]
 exact UC mG hy hx
def Zsl{K:Nat}:∀{r:List Rat},(∀q∈r,Qb K q)->∃s:Rat,s≠0/\eH (r.length*K+1) s/\∀q∈r,eH (r.length*K+1) (s*q)
 |[],_=>⟨1,by decide,⟨1,rfl,by rw[List.length_nil,Nat.zero_mul];decide⟩,fun q hq=>by simp at hq⟩
 |p::t,h=>by
  obtain⟨s,h1,h2,h3⟩:=Zsl (r:=t) fun q hq=>h q (nS _ hq)
  have hp:=h p nR
  have hd:eH K ((p.den:Int):Rat):=⟨_,rfl,by rw[dC];exact hp.2⟩
  have hn:eH K ((p.num:Int):Rat):=⟨_,rfl,hp.1⟩
  have nT:((p.den:Int):Rat)≠0:=fun hc=>p.den_nz (by have:=Rat.intCast_inj.1 (hc.trans (by rfl:(0:Rat)=((0:Int):Rat)));omega)
  have e:((p.den:Int):Rat)*p=(p.num:Rat):=by
   have h1:=BZ p
   rw[Rat.divInt_eq_div,Rat.div_def]at h1
   have h2:=Rat.mul_inv_cancel _ nT
   conv=>lhs;arg 2;rw[<-h1]
   generalize ((p.den:Int):Rat)=x at*
   grind
  have ek:(t.length+1)*K+1=t.length*K+1+K:=by grind
  refine⟨s*((p.den:Int):Rat),fun hc=>?_,?_,fun q hq=>?_⟩
  ·rcases Rat.mul_eq_zero.1 hc with h|h
   ·exact h1 h
   ·exact nT h
  ·rw[bp,ek]
   exact h2.mul hd
  ·rw[bp,ek]
   rcases kv.1 hq with rfl|hq
   ·have:=h2.mul hn
    rw[<-e]at this
    rw[Rat.mul_assoc]
    exact this
   ·have:=(h3 q hq).mul hd
    rw[show s*((p.den:Int):Rat)*q=s*q*((p.den:Int):Rat) by grind]
    exact this
def eH.zero{b:Nat}:eH b 0:=⟨0,rfl,by rw[Int.natAbs_zero];exact qy b⟩
def Ycg{c K:Nat}(h:cW m K)(hc:b_ m c):Pw m c (c*K+1):=fun i hi=>by
 obtain⟨s,h1,h2,h3⟩:=Zsl (h.at (i:=i))
 rw[hc.at hi]at h2 h3
 refine⟨s,h1,h2,fun l hl=>?_⟩
 unfold aP
 rw[c9 (by rw[hc.at hi];exact hl)]
 exact h3 _ (List.getElem_mem _)
structure A4 (Bs M:List (List Rat)) (s:Nat->Rat) (d:Nat) (ps:List Nat) (c R:Nat):Prop where
 len:Bs.length=M.length
 int:∀i l,i<M.length->l<c->eH R (aP Bs i l)
 sc:∀i,i<M.length->s i≠0/\eH R (s i)
 low:∀i l,d<=i->i<M.length->l<c->s i*aP M i l=aP Bs i l-sN (fun j=>aP Bs i (ps[j]?.getD 0)*aP M j l) d
 top:∃T:Nat->Nat->Rat,∀j l,j<d->l<c->aP M j l=sN (fun t=>T j t*aP Bs t l) d
 ne:cN d (fun t u=>aP Bs t (ps[u]?.getD 0))≠0
def Ypc{c:Nat}(h:Pw m c R)(hc:b_ m c):∃Bs s,A4 Bs m s 0 [] c R:=by
 have hex:∀i,∃s:Rat,i<m.length->s≠0/\eH R s/\∀l,l<c->eH R (s*aP m i l):=fun i=>by
  by_cases hi:i<m.length
  ·obtain⟨s,hs⟩:=h i hi
   exact⟨s,fun _=>hs⟩
  ·exact⟨0,fun hc=>absurd hc hi⟩
 obtain⟨s,hs⟩:=Classical.axiomOfChoice hex
 have B0:∀i l,i<m.length->l<c->aP ((List.range m.length).map fun i=>(m[i]?.getD []).map fun q=>s i*q) i l=s i*aP m i l:=fun i l hi hl=>by
  have hlen:=hc.at hi
  unfold aP
  rw[fV,FF hi]
  simp only[xV,pd,fV]
  rw[c9 (by omega)]
  rfl
 refine⟨(List.range m.length).map fun i=>(m[i]?.getD []).map fun q=>s i*q,s,(je _).trans List.length_range,fun i l hi hl=>?_,fun i hi=>⟨(hs i hi).1,(hs i hi).2.1⟩,fun i l _ hi hl=>?_,⟨fun _ _=>0,fun j _ hj=>absurd hj (Nat.not_lt_zero j)⟩,fun hc=>absurd (show (1:Rat)=0 from hc) (by decide)⟩
 ·rw[B0 i l hi hl]
  exact(hs i hi).2.2 l hl
 ·rw[B0 i l hi hl]
  show _=_-(0:Rat)
  grind
def al1:b=b-s+s:=by grind
def al2{p m:Rat}(h:b=p*m+s):k*p*m= -k*s+k*b:=by grind
def al3{c e f:Rat}(h1:s*x=b-e)(h2:s*y=c-f):s*(x-y*v)=b-(e+ -v*f+c*v):=by grind
def al4:b*(x-y*v)=b*x+ -v*(b*y):=by grind
def al5{t:Rat}:(t-y*x)*b=t*b+ -y*(x*b):=by grind
def al6{u:Rat}(h:v=u+k*b):s-y*v=s+ -y*u+(0-y*k)*b:=by grind
def al7{a i m:Rat}(h1:s*a*k=1)(h2:a*i=1):m*i=k*s*m:=by
 have:m*i=m*i*(s*a*k):=by rw[h1,Rat.mul_one]
 rw[this,show m*i*(s*a*k)=k*s*m*(a*i) by grind,h2,Rat.mul_one]
def A4.step{s:Nat->Rat}{S:List (List Rat)×Nat×List Nat}{c:Nat}(h:A4 Bs S.1 s S.2.1 S.2.2 c R)(I:yD S.1 S.2.1 S.2.2 n)(hc:b_ S.1 c)(hn:n<c):∃UD s',A4 UD (jw S n).1 s' (jw S n).2.1 (jw S n).2.2 c R:=by
 obtain⟨M,d,ps⟩:=S
 simp only at h I hc
 unfold jw
 simp only
 have hle:=@FG M n (M.length-d) d
 have iw:=I.le
 split
 ·rename_i hp
  have d_:d<M.length:=by unfold fF at hp;omega
  have Kp:d<=fF M d n:=hle.1
  have aW:aP M (fF M d n) n≠0:=@IF M n (M.length-d) d (by unfold fF at hp;omega)
  generalize fF M d n=p at*
  have kI:=(hc.B1 d_ hp).IG (d:=d) (k:=n) (by rw[sM];exact d_)
  have hlen:(cC (gE (cr M d p) d n) d n M.length).length=M.length:=by rw[zt,DE,sM]
  have iV:(gE (cr M d p) d n).length=M.length:=by rw[DE,sM]
  have hb:∀i j,aP (cr M d p) i j=if i=d then aP M p j else if i=p then aP M d j else aP M i j:=fun i j=>UE d_ hp
  have hs:∀i j,aP (gE (cr M d p) d n) i j=if i=d then aP M p j/aP M p n else aP (cr M d p) i j:=fun i j=>by
   rw[Ylj (by rw[sM];exact d_),hb d j,hb d n,ay rfl,ay rfl]
  have he:∀i j,i<M.length->aP (cC (gE (cr M d p) d n) d n M.length) i j=if i=d then aP M p j/aP M p n else aP (cr M d p) i j-aP (cr M d p) i n*(aP M p j/aP M p n):=fun i j hi=>by
   have:=Ylk (m:=gE (cr M d p) d n) (k:=n) (j:=j) kI (i:=i) (d:=d) (by rw[iV];exact hi) (by rw[iV];exact d_)
   rw[iV]at this
   rw[this,hs i j,hs i n,hs d j,ay rfl]
   split<;>rfl
  have FH:∀i j,aP (cr Bs d p) i j=if i=d then aP Bs p j else if i=p then aP Bs d j else aP Bs i j:=fun i j=>UE (by rw[h.len];exact d_) (by rw[h.len];exact hp)
  show ∃UD s',A4 UD (cC (gE (cr M d p) d n) d n M.length) s' (d+1) (ps++[n]) c R
  generalize cC (gE (cr M d p) d n) d n M.length=M' at*
  obtain⟨T,hT⟩:=h.top
  have ho:∀i,i<d->(ps++[n])[i]?.getD 0=ps[i]?.getD 0:=fun i hi=>by rw[kJ (by have:=I.len;omega)]
  have sO:(ps++[n])[d]?.getD 0=n:=by rw[nU (by have:=I.len;omega),I.len];simp
  have ix:=(h.sc p hp).1
  obtain⟨x,hx⟩:∃x:Nat->Rat,x=fun l=>aP M p l/aP M p n:=⟨_,rfl⟩
  have jx:∀l,x l=aP M p l/aP M p n:=fun l=>by rw[hx]
  have hMd:∀l,aP M' d l=x l:=fun l=>by rw[he d l d_,ay rfl,jx]
  have hMj:∀j l,j<d->aP M' j l=aP M j l-aP M j n*x l:=fun j l hj=>by
   rw[he j l (by omega),ak (by omega),hb j l,hb j n,ak (by omega),ak (by omega),ak (by omega),ak (by omega),jx]
  have Px:∀t l,t<d->aP (cr Bs d p) t l=aP Bs t l:=fun t l ht=>by rw[FH,ak (by omega),ak (by omega)]
  have hBd:∀l,aP (cr Bs d p) d l=aP Bs p l:=fun l=>by rw[FH,ay rfl]
  have iH:∀j,j<d->ps[j]?.getD 0<c:=fun j hj=>by have:=I.lt j hj;omega
  obtain⟨Z,hZ⟩:∃Z:Nat->Rat,Z=fun t=>sN (fun j=>aP Bs p (ps[j]?.getD 0)*T j t) d:=⟨_,rfl⟩
  have uP:∀l,l<c->sN (fun j=>aP Bs p (ps[j]?.getD 0)*aP M j l) d=sN (fun t=>Z t*aP Bs t l) d:=fun l hl=>by
   rw[pD (g:=fun j=>sN (fun t=>aP Bs p (ps[j]?.getD 0)*T j t*aP Bs t l) d) fun j hj=>by rw[hT j l hj hl,<-xS];exact pD fun t _=>(Rat.mul_assoc _ _ _).symm,UF]
   apply pD
   intro t _
   rw[hZ,Rat.mul_comm,<-xS]
   exact pD fun j _=>Rat.mul_comm _ _
  have al:∀l,l<c->aP Bs p l=s p*aP M p l+sN (fun t=>Z t*aP Bs t l) d:=fun l hl=>by
   rw[<-uP l hl,h.low p l Kp hp hl]
   exact al1
  have e1:s p*aP M p n≠0:=fun hc=>by
   rcases Rat.mul_eq_zero.1 hc with h|h
   ·exact ix h
   ·exact aW h
  obtain⟨κ,hκ⟩:∃κ:Rat,s p*aP M p n*κ=1:=⟨_,Rat.mul_inv_cancel _ e1⟩
  have yE:∀l,x l=κ*s p*aP M p l:=fun l=>by
   rw[jx,Rat.div_def]
   exact al7 hκ (Rat.mul_inv_cancel _ aW)
  have uf:∀l,l<c->x l=sN (fun t=>(if t=d then κ else -κ*Z t)*aP (cr Bs d p) t l) (d+1):=fun l hl=>by
   show _=sN (fun t=>(if t=d then κ else -κ*Z t)*aP (cr Bs d p) t l) d+(if d=d then κ else -κ*Z d)*aP (cr Bs d p) d l
   rw[ay rfl,hBd,pD (g:=fun t=> -κ*(Z t*aP Bs t l)) fun t ht=>by rw[ak (by omega),Px t l ht,Rat.mul_assoc],xS,yE]
   exact al2 (al l hl)
  refine⟨cr Bs d p,fun i=>if i=d then s p else if i=p then s d else s i,by rw[sM,hlen,h.len],fun i l hi hl=>?_,fun i hi=>?_,fun i l h1 h2 hl=>?_,⟨fun j t=>if j=d then (if t=d then κ else -κ*Z t) else (if t=d then 0 else T j t)-aP M j n*(if t=d then κ else -κ*Z t),fun j l hj hl=>?_⟩,?_⟩
  ·rw[hlen]at hi
   rw[FH]
   split
   ·exact h.int p l hp hl
   ·split
    ·exact h.int d l d_ hl
    ·exact h.int i l hi hl
  ·rw[hlen]at hi
   split
   ·exact h.sc p hp
   ·split
    ·exact h.sc d d_
    ·exact h.sc i hi
  ·rw[hlen]at h2
   have DF:∀l,l<c->(if i=d then s p else if i=p then s d else s i)*aP (cr M d p) i l=aP (cr Bs d p) i l-sN (fun j=>aP (cr Bs d p) i (ps[j]?.getD 0)*aP M j l) d:=fun l hl=>by
    by_cases e:i=p
    ·have Kq:∀l,aP (cr Bs d p) i l=aP Bs d l:=fun l=>by rw[FH,ak (by omega),ay e]
     rw[ak (by omega),ay e,hb,ak (by omega),ay e,Kq,pD (g:=fun j=>aP Bs d (ps[j]?.getD 0)*aP M j l) fun j _=>by rw[Kq]]
     exact h.low d l (aQ _) d_ hl
    ·have Kq:∀l,aP (cr Bs d p) i l=aP Bs i l:=fun l=>by rw[FH,ak (by omega),ak e]
     rw[ak (by omega),ak e,hb,ak (by omega),ak e,Kq,pD (g:=fun j=>aP Bs i (ps[j]?.getD 0)*aP M j l) fun j _=>by rw[Kq]]
     exact h.low i l (by omega) h2 hl
   have hM:aP M' i l=aP (cr M d p) i l-aP (cr M d p) i n*x l:=by rw[he i l h2,ak (show ¬i=d by omega),<-jx l]
   rw[hM]
   show (if i=d then s p else if i=p then s d else s i)*_=_-(sN (fun j=>aP (cr Bs d p) i ((ps++[n])[j]?.getD 0)*aP M' j l) d+aP (cr Bs d p) i ((ps++[n])[d]?.getD 0)*aP M' d l)
   rw[sO,hMd,pD (g:=fun j=>aP (cr Bs d p) i (ps[j]?.getD 0)*aP M j l+ -x l*(aP (cr Bs d p) i (ps[j]?.getD 0)*aP M j n)) fun j hj=>by rw[ho j hj,hMj j l hj];exact al4,IC,xS]
   exact al3 (DF l hl) (DF n hn)
  ·have hX:=uf l hl
   by_cases e:j=d
   ·subst e
    rw[hMd,hX]
    exact pD fun t _=>by
     show _=(if j=j then (if t=j then κ else -κ*Z t) else (if t=j then 0 else T j t)-aP M j n*(if t=j then κ else -κ*Z t))*aP (cr Bs j p) t l
     rw[ay rfl]
   ·have hX:x l=sN (fun t=>(if t=d then κ else -κ*Z t)*aP (cr Bs d p) t l) d+(if d=d then κ else -κ*Z d)*aP (cr Bs d p) d l:=hX
    rw[ay rfl]at hX
    rw[hMj j l (by omega),hT j l (by omega) hl]
    show _=sN (fun t=>(if j=d then (if t=d then κ else -κ*Z t) else (if t=d then 0 else T j t)-aP M j n*(if t=d then κ else -κ*Z t))*aP (cr Bs d p) t l) d+(if j=d then (if d=d then κ else -κ*Z d) else (if d=d then 0 else T j d)-aP M j n*(if d=d then κ else -κ*Z d))*aP (cr Bs d p) d l
    rw[ak e,ay rfl,ay rfl,pD (f:=fun t=>(if j=d then (if t=d then κ else -κ*Z t) else (if t=d then 0 else T j t)-aP M j n*(if t=d then κ else -κ*Z t))*aP (cr Bs d p) t l) (g:=fun t=>T j t*aP Bs t l+ -aP M j n*((if t=d then κ else -κ*Z t)*aP (cr Bs d p) t l)) fun t ht=>by
     rw[ak e,ak (show ¬t=d by omega),ak (show ¬t=d by omega),Px t l ht]
     exact al5,IC,xS]
    exact al6 hX
  ·have e1:cN (d+1) (fun t u=>aP (cr Bs d p) t ((ps++[n])[u]?.getD 0))=cN (d+1) (bj (fun t u=>aP (cr Bs d p) t ((ps++[n])[u]?.getD 0)) d fun u=>s p*aP M p ((ps++[n])[u]?.getD 0)+sN (fun t=>Z t*aP (cr Bs d p) t ((ps++[n])[u]?.getD 0)) d):=xR fun r u hr hu=>by
    unfold bj
    split
    ·rename_i e
     subst e
     have wM:(ps++[n])[u]?.getD 0<c:=by
      by_cases e:u<r
      ·rw[ho u e];exact iH u e
      ·rw[show u=r by omega,sO];exact hn
     simp only
     rw[hBd,al _ wM]
     congr 1
     exact pD fun t ht=>by rw[Px t _ ht]
    ·rfl
   rw[e1,Pv (by omega),Uz (w:=fun t u=>aP (cr Bs d p) t ((ps++[n])[u]?.getD 0)) (by omega),Py (f:=fun t=>_) fun t ht=>by
    have:=Ye0 (n:=d+1) (A:=fun t u=>aP (cr Bs d p) t ((ps++[n])[u]?.getD 0)) (i:=t) (j:=d) (by omega) (by omega)
    rw[this,ak (by omega),Rat.mul_zero],Rat.add_zero,Zx0 (π:=s p*aP M p n) (fun u hu=>?_) ?_]
   ·intro hc
    rcases Rat.mul_eq_zero.1 hc with h1|h1
    ·rcases Rat.mul_eq_zero.1 h1 with h|h
     ·exact ix h
     ·exact aW h
    ·apply h.ne
     rw[<-h1]
     exact xR fun r u hr hu=>by
      unfold bj
      rw[ak (by omega)]
      show _=aP (cr Bs d p) r ((ps++[n])[u]?.getD 0)
      rw[Px r _ hr,ho u hu]
   ·unfold bj
    rw[ay rfl]
    show s p*aP M p ((ps++[n])[d]?.getD 0)=_
    rw[sO]
   ·unfold bj
    rw[ay rfl]
    show s p*aP M p ((ps++[n])[u]?.getD 0)=0
    rw[ho u hu,I.rest p _ Kp hp (I.lt u hu),Rat.mul_zero]
 ·exact⟨Bs,s,h⟩
def UG{m:List (List Rat)}{c R:Nat}(h:Pw m c R)(hc:b_ m c):∀{n:Nat},n<=c->∃Bs s,A4 Bs (aU m n).1 s (aU m n).2.1 (aU m n).2.2 c R
 |0,_=>Ypc h hc
 |n+1,hn=>by
  obtain⟨Bs,s,hC⟩:=UG h hc (n:=n) (by omega)
  rw[uQ]
  exact hC.step (A5 hc) (pQ hc).1 (by omega)
def A4.done{M:List (List Rat)}{s:Nat->Rat}{c:Nat}{ps:List Nat}(h:A4 Bs M s d ps c R)(I:yD M d ps n)(hn:n<=c)(hR:1<=R):eH (d*(R+d+1)+1) (cN d fun t u=>aP Bs t (ps[u]?.getD 0))/\∀j l,j<d->l<c->eH ((d+1)*(R+d+1)) ((cN d fun t u=>aP Bs t (ps[u]?.getD 0))*aP M j l):=by
 have hle:=I.le
 have iH:∀j,j<d->ps[j]?.getD 0<c:=fun j hj=>by have:=I.lt j hj;omega
 have hI:∀r u,r<d->u<d->eH R (aP Bs r (ps[u]?.getD 0)):=fun r u hr hu=>h.int r _ (by omega) (iH u hu)
 refine⟨UA hI,fun j l hj hl=>?_⟩
 obtain⟨T,hT⟩:=h.top
 have UH:∀t q,t<d->q<d->sN (fun u=>aP Bs t (ps[u]?.getD 0)*cN d (bj (fun t u=>aP Bs t (ps[u]?.getD 0)) q (A2 u))) d=if t=q then cN d (fun t u=>aP Bs t (ps[u]?.getD 0)) else 0:=fun t q ht hq=>by
  rw[<-Ye0 ht hq]
  exact(Yjh hq).symm
 have hTd:∀q,q<d->cN d (bj (fun t u=>aP Bs t (ps[u]?.getD 0)) q (A2 j))=T j q*cN d (fun t u=>aP Bs t (ps[u]?.getD 0)):=fun q hq=>by
  have e1:cN d (bj (fun t u=>aP Bs t (ps[u]?.getD 0)) q (A2 j))=sN (fun u=>aP M j (ps[u]?.getD 0)*cN d (bj (fun t u=>aP Bs t (ps[u]?.getD 0)) q (A2 u))) d:=by
   rw[ID (i:=j) hj fun u hu aW=>by rw[I.one u j hu (by omega),ak (Ne.symm aW),Rat.zero_mul],I.one j j hj (by omega),ay rfl,Rat.one_mul]
  rw[e1,pD (g:=fun u=>sN (fun t=>T j t*(aP Bs t (ps[u]?.getD 0)*cN d (bj (fun t u=>aP Bs t (ps[u]?.getD 0)) q (A2 u)))) d) fun u hu=>by rw[hT j _ hj (iH u hu),Rat.mul_comm,<-xS];exact pD fun t _=>by grind,UF,pD (g:=fun t=>T j t*if t=q then cN d (fun t u=>aP Bs t (ps[u]?.getD 0)) else 0) fun t ht=>by rw[xS,UH t q ht hq],ID (i:=q) hq fun t _ aW=>by rw[ak aW,Rat.mul_zero],ay rfl]
 rw[hT j l hj hl,<-xS]
 have:=eH.FD (m:=d) (b:=d*(R+d+1)+1+R) (n:=d) (f:=fun t=>cN d (fun t u=>aP Bs t (ps[u]?.getD 0))*(T j t*aP Bs t l)) (fun t ht=>by
  rw[show cN d (fun t u=>aP Bs t (ps[u]?.getD 0))*(T j t*aP Bs t l)=T j t*cN d (fun t u=>aP Bs t (ps[u]?.getD 0))*aP Bs t l by grind,<-hTd t ht]
  refine(UA fun r u hr hu=>?_).mul (h.int t l (by omega) hl)
  unfold bj
  split
  ·unfold A2
   split
   ·exact⟨1,rfl,eY (by decide:Int.natAbs 1<2^1) (qz (by decide) hR)⟩
   ·exact eH.zero
  ·exact hI r u hr hu) Nat.lt_two_pow_self
 refine this.mono ?_
 have:(d+1)*(R+d+1)=d*(R+d+1)+(R+d+1):=by grind
 omega
def eH.sub{b:Nat}{p q:Rat}(hp:eH b p)(hq:eH b q):eH (b+1) (p-q):=by
 obtain⟨x,rfl,hx⟩:=hp
 obtain⟨y,rfl,hy⟩:=hq
 refine⟨x-y,by rw[Rat.intCast_sub],?_⟩
 rw[fZ]
 omega
def uR(R d:Nat):Nat:=(d+2)*(R+d+1)
def A4.qb{M:List (List Rat)}{s:Nat->Rat}{c:Nat}{ps:List Nat}(h:A4 Bs M s d ps c R)(I:yD M d ps n)(hc:b_ M c)(hn:n<=c)(hR:1<=R):cW M (uR R d):=fun r hr q hq=>by
 obtain⟨h1,h2⟩:=h.done I hn hR
 have hB:uR R d=d*(R+d+1)+2*R+2*d+2:=by unfold uR;grind
 have hW:(d+1)*(R+d+1)=d*(R+d+1)+(R+d+1):=by grind
 obtain⟨i,hi⟩:=xW hr
 obtain⟨l,hl⟩:=xW hq
 have xX:=f_ hi
 have sP:l<c:=by have:=f_ hl;rw[hc r hr]at this;exact this
 have B0:aP M i l=q:=by unfold aP;rw[hi,pd,hl];rfl
 by_cases e:i<d
 ·have:=h2 i l e sP
  rw[B0]at this
  exact eH.qb h.ne (h1.mono (by omega)) (this.mono (by omega))
 ·have FI:=h.low i l (by omega) xX sP
  have hs:=h.sc i xX
  have iH:∀j,j<d->ps[j]?.getD 0<c:=fun j hj=>by have:=I.lt j hj;omega
  rw[B0]at FI
  refine eH.qb (D:=s i*cN d fun t u=>aP Bs t (ps[u]?.getD 0)) (fun hc=>?_) ((hs.2.mul h1).mono (by omega)) ?_
  ·rcases Rat.mul_eq_zero.1 hc with h'|h'
   ·exact hs.1 h'
   ·exact h.ne h'
  ·have e1:(s i*cN d fun t u=>aP Bs t (ps[u]?.getD 0))*q=aP Bs i l*(cN d fun t u=>aP Bs t (ps[u]?.getD 0))-sN (fun j=>aP Bs i (ps[j]?.getD 0)*((cN d fun t u=>aP Bs t (ps[u]?.getD 0))*aP M j l)) d:=by
    rw[pD (g:=fun j=>(cN d fun t u=>aP Bs t (ps[u]?.getD 0))*(aP Bs i (ps[j]?.getD 0)*aP M j l)) fun j _=>by grind,xS]
    grind
   rw[e1]
   have a1:=((h.int i l xX sP).mul h1).mono (b:=R+(d+1)*(R+d+1)+d) (by omega)
   have a2:=eH.FD (m:=d) (b:=R+(d+1)*(R+d+1)) (n:=d) (f:=fun j=>aP Bs i (ps[j]?.getD 0)*((cN d fun t u=>aP Bs t (ps[u]?.getD 0))*aP M j l)) (fun j hj=>(h.int i _ xX (iH j hj)).mul (h2 j l hj sP)) Nat.lt_two_pow_self
   exact(a1.sub a2).mono (by omega)
def Zoe{m:List (List Rat)}{c:Nat}(hc:b_ m c):∀{e:Nat},aU m (c+e)=aU m c
 |0=>rfl
 |e+1=>by
  rw[<-pe,uQ,Zoe hc]
  obtain⟨M,hM⟩:∃M,M=aU m c:=⟨_,rfl⟩
  have hr:=(pQ hc (n:=c)).1
  rw[<-hM]at hr ⊢
  have hz:∀i,aP M.1 i (c+e)=0:=fun i=>by
   unfold aP
   by_cases hi:i<M.1.length
   ·have h3:=hr.at hi
    rw[fl (l:=M.1[i]?.getD []) (by omega)];rfl
   ·have h3:M.1[i]?=none:=fl (by omega)
    rw[h3];rfl
  unfold jw
  rw[ak]
  intro hp
  have hle:=@FG M.1 (c+e) (M.1.length-M.2.1) M.2.1
  exact(@IF M.1 (c+e) (M.1.length-M.2.1) M.2.1 (by unfold fF at hp;omega)) (hz _)
def Yk6{c:Nat}(h:Pw m c R)(hc:b_ m c)(hR:1<=R)(n:Nat):cW (aU m n).1 (uR R (aU m n).2.1):=by
 by_cases hn:n<=c
 ·obtain⟨Bs,s,hC⟩:=UG h hc hn
  exact hC.qb (A5 hc) (pQ hc).1 hn hR
 ·rw[show n=c+(n-c) by omega,Zoe hc]
  obtain⟨Bs,s,hC⟩:=UG h hc (aQ c)
  exact hC.qb (A5 hc) (pQ hc).1 (aQ c) hR
def Yfb:1<=uR R d:=yF (by omega) (by omega)
variable {N k:Nat} {h:T O} {m:List (List Rat)} {v:V} {w:List Rat}
set_option maxHeartbeats 2000000
def A.qC:bO:=.dP [mv 7 11]
def A.qE:bO:=.block 1 (.dj [ld 12 5,mv 13 7,ld 14 3,ge 15 (.call (fq 68) [tq 13,tq 14,(fq 80)]),ge 16 (.fG 73 1 1 [.aa] [(0,1,(tq 15))]),ge 17 (.append 1 24 73 [.aa] (tq 12) (tq 16)),so 5 17] [0,0,0,6,14,31,63])
def A.b41:bO:=sr [bx 3 73 1,mN 4]
 (sr [ge 5 (.alloc [.aa] 70)]
 (.seq (sr [mv 8 0,c1 9 105 8]
 (.block 0 (.jf (tq 9) [10,11] A.qC A.qE)))
 (sr [ld 18 5,mv 4 18]
 (.ret))))
def A.k41:=@A.kk 41 19 [.tmp 4] A.b41 (by kernel_rfl) rfl
def ec.uS{h':T O}{N' B:Nat}{u:V}{l:List Rat}{e:TypeId}(s:ec h N u l)(k:dG (fun i=>i=B) h N h' N')(g:h.get B=some (.cells [.aa] e true))(he:e≠80):ec h' N' u l:=
 s.bz (v:=.slice B 0 1 none 1) (k.mono fun i _ hi=>by simp[bZ];exact hi) (fun i hi=>by
  simp[bZ]at hi
  subst hi
  exact⟨_,g,by simp,fun y hy=>by simp at hy;subst hy;exact fun m=>by simp⟩) he
def iI.form{N0:Nat}(s:iI N0 h N v m):V.one v=true/\V.cells v=[v]/\∀n,v≠.int .u64 n:=by
 obtain⟨us,h1,_⟩:=s
 obtain⟨_,⟨_,rfl⟩|⟨i,rfl,_⟩⟩:=h1
 ·exact⟨rfl,rfl,fun n=>by simp⟩
 ·exact⟨rfl,rfl,fun n=>by simp⟩
def iI.UI{N0:Nat}{B:Nat}{y z:V}(s:iI N0 h N v m)(hB:B<N0)(g:h.get B=some (.cells [y] 70 true))(hy:∀n,y≠.int .u64 n):iI N0 (h.set B (.cells [z] 70 true)) N v m:=by
 obtain⟨us,h1,h2,h3,h4⟩:=s
 refine⟨us,?_,h2,h3,fun j l hl=>?_⟩
 ·obtain⟨a,b⟩:=h1
  refine⟨a,?_⟩
  rcases b with b|⟨i,b1,b2,b3,b4⟩
  ·exact .inl b
  ·exact .inr ⟨i,b1,b2,b3,by rw[T.ag,ak (by omega)];exact b4⟩
 ·obtain⟨u,a,b⟩:=h4 j l hl
  exact⟨u,a,b.bj g (by decide) (fun x hx m hc=>by simp at hx;exact hy m (hx▸hc)) rfl⟩
def yG(m:List (List Rat))(w:List Rat)(k:Nat):List (List Rat):=(List.range k).map fun j=>wN (jy m j) w (jy m j).length
def Ygb{m:List (List Rat)}{w:List Rat}{k:Nat}:yG m w (k+1)=yG m w k++[wN (jy m k) w (jy m k).length]:=by
 unfold yG
 rw[List.range_succ,List.map_append]
 rfl
def Ylw:(yG m w k).length=k:=by simp[yG]
def Yqk(h:w.length=m.length):yG m w k=(eE m k).map fun r=>yH r w:=by
 unfold yG eE
 rw[List.map_map]
 apply A6
 intro j _
 simp only[Function.comp]
 unfold yH wN
 rw[show (jy m j).length=w.length by simp[jy,h]]
def wR(r:T V)(d:Nat):Kr:=Pz r 19 [10,11] A.qC A.qE d
def Ylu{H:T O}{n B P d j0 k0:Nat}{r:T V}{x wv:V}{qF:List Rat}{W:List Nat}{e:TypeId}{rw:Bool}(hL:H.get (N+1)=some (.loop (wR r d)))(hB:H.get B=some (.cells [v] 70 true))(hP:H.get P=some (.cells [wv] e rw))(hO:iI (N+2) H n v (yG m qF k))(hn:N+2<=n)(UJ:B<N)(UK:P<N)(hx:ec H n x (jy m k))(hw:ec H n wv qF)(hk:k<1000)(kg:(jy m k).length=qF.length)(hl:qF.length<1000)(qa:∀q∈jy m k,Qb j0 q)(qb:∀q∈qF,Qb k0 q)(hj:j0<=400000000)(qH:k0<=400000000)(h5:r.get 5=some (.ptr B 0))(h3:r.get 3=some (.ptr P 0))(hW:av B W=[]):Call A.C (.yield (N+1)) [.int .i64 k,x] ⟨H,n,W⟩ (fun y st=>y=.bool true/\av B st.w=[]/\dG (DU N B) H n st.h st.n/\st.h.get (N+1)=some (.loop (wR r d))/\∃v',st.h.get B=some (.cells [v'] 70 true)/\iI (N+2) st.h st.n v' (yG m qF (k+1))):=by
 refine Ya0 (R:=wR r d) (r0:=(r.set 10 (.int .i64 k)).set 11 x) rfl hL rfl (by simp[wR,Pz,B2]) ?_
 rw[bk]
 show bA A.C [] (eJ (A.C.code (some (N+1)) A.qC ⟨_,19,[]⟩ ⟨H,n,W⟩)) _
 simp[A.qC]
 refine⟨hL,?_⟩
 rw[bk]
 show bA A.C [] (eJ (A.C.code (some (N+1)) A.qE ⟨_,19,[]⟩ _)) _
 have nc:FJ (.loop (wR r d)):=fun c e w h=>by cases h
 have xY:=hx.pE (o:=.loop {wR r d with st:=.busy}) hL nc
 have IH:=hw.pE (o:=.loop {wR r d with st:=.busy}) hL nc
 have hBu:(H.set (N+1) (.loop {wR r d with st:=.busy})).get B=some (.cells [v] 70 true):=by rw[T.ag,ak (by omega)];exact hB
 have hPu:(H.set (N+1) (.loop {wR r d with st:=.busy})).get P=some (.cells [wv] e rw):=by rw[T.ag,ak (by omega)];exact hP
 have hLu:(H.set (N+1) (.loop {wR r d with st:=.busy})).get (N+1)=some (.loop {wR r d with st:=.busy}):=by rw[T.ag,ay rfl]
 have U1:dG (DU N B) H n (H.set (N+1) (.loop {wR r d with st:=.busy})) n:=⟨aQ _,fun i _ hi=>by rw[T.ag,ak fun hc=>hi (.inl hc)]⟩
 have oU:=hO.pE (o:=.loop {wR r d with st:=.busy}) hL nc
 generalize H.set (N+1) (.loop {wR r d with st:=.busy})=G at*
 have lB:B<n:=by omega
 have lP:P<n:=by omega
 have hLB:¬N+1<B:=by omega
 simp[A.qE,h5,h3,hBu,hPu,lB,lP]
 refine aB (Yip xY.1 IH.1 (by omega) qa qb hj qH (by omega)) ?_
 rintro y H2 n2 k2 hy
 have kK:=k2.le
 have FK:=(k2.get B (by omega)).trans hBu
 have gL2:=(k2.get (N+1) (by omega)).trans hLu
 have o2:=oU.ae k2
 have lB2:B<n2:=by omega
 obtain⟨f1,f2,f3⟩:=hy.1.form
 have qI:ad [V.aa] 0 [y]=[y]:=rfl
 simp[-V.cells, -V.one,f1,f2,qI]
 have kD:ab H2 n2 (H2.set n2 (.cells [y] 73 true)) (n2+1):=ab.refl.new _
 obtain⟨v',h',w',j1,j2,j3,j4⟩:=iI.push (N0:=N+2) (x:=.slice n2 0 1 (some 1) 1) (w:=[]) (o2.ae kD) (hy.ae kD) (by omega) (by simp[eA,St.row,aD]) (by rw[Ylw];omega)
 have zu:=(j3.get B (by omega)).trans ((kD.get B lB2).trans FK)
 have Ks:=(j3.get (N+1) (by omega)).trans ((kD.get (N+1) (by omega)).trans gL2)
 have lB3:B<n2+1+1:=by omega
 have ov:=j4.form
 have ovv:=hO.form
 have U3:dG (DU N B) H n h' (n2+1+1):=((U1.trans k2.upd).trans kD.upd).trans ⟨by omega,fun i hi hd=>j3.get i (by unfold DU at hd;omega)⟩
 have g4:(h'.set B (.cells [v'] 70 true)).get (N+1)=some (.loop {wR r d with st:=.busy}):=by rw[T.ag,ak (by omega)];exact Ks
 have o4:=j4.UI (z:=v') (by omega) zu ovv.2.2
 have nc2:FJ (.loop {wR r d with st:=.busy}):=fun c e w h=>by cases h
 have tj:=@Ygb m qF k
 simp[-V.cells, -V.one,j1,h5,zu,lB3,bD,ov.1,ov.2.1,ad]
 refine⟨{wR r d with st:=.busy},by rw[ak (by omega)];exact Ks,rfl,?_,(U3.set (.inl (.inr (.inl rfl)))).set (.inl (.inl rfl)),rfl,v',by rw[ak (by omega)],?_⟩
 ·rw[ak hLB]
  refine ui fun i hi=>?_
  rcases kh.1 hi with hi|hi
  ·have:=yI (j2.trans rfl) i (yJ hi).1
   omega
  ·rcases kv.1 hi with rfl|hi
   ·omega
   ·exact yI hW i hi
 ·rw[tj]
  exact o4.pE g4 nc2
end Go.Mx
