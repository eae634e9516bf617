/-The numbers of an elimination are quotie-/
import Derived.Test.YthekjfgljafnaaaGreatDoorFwB
set_option linter.all false
namespace Go.Mx
open Go Go.Proofs
variable {Bs m:List (List Rat)} {R n:Nat} {b k s v x y:Rat}
set_option maxRecDepth 1000000
def Ypg(m:List (List Rat))(c R:Nat):Prop:=∀i,i<m.length→∃s:Rat,s≠0∧IsI R s∧∀l,l<c→IsI R (s*atQ m i l)
def IsI.qb{b:Nat}{q D:Rat}(h0:D≠0)(hD:IsI b D)(hq:IsI b (D*q)):Qb b q:=by
 obtain⟨x,rfl,hx⟩:=hD
 obtain⟨y,h1,hy⟩:=hq
 have hx0:x≠0:=fun h=>h0 (by rw[h];rfl)
 have e:q=Rat.divInt y x:=by
  rw[Rat.divInt_eq_div,←h1,Rat.div_def]
  have:=Rat.mul_inv_cancel (x:Rat) h0
  grind
 rw[e]
 exact Zh1 hx0 hy hx
def Zr1{K:Nat}:∀{r:List Rat},(∀q∈r,Qb K q)→∃s:Rat,s≠0∧IsI (r.length*K+1) s∧∀q∈r,IsI (r.length*K+1) (s*q)
 |[],_=>⟨1,by decide,⟨1,rfl,by rw[List.length_nil,Nat.zero_mul];decide⟩,fun q hq=>by simp at hq⟩
 |p::t,h=>by
  obtain⟨s,h1,h2,h3⟩:=Zr1 (r:=t) fun q hq=>h q (Yw2 _ hq)
  have hp:=h p Yw6
  have hd:IsI K ((p.den:Int):Rat):=⟨_,rfl,by rw[Ywc];exact hp.2⟩
  have hn:IsI K ((p.num:Int):Rat):=⟨_,rfl,hp.1⟩
  have hd0:((p.den:Int):Rat)≠0:=fun hc=>p.den_nz (by have:=Rat.intCast_inj.1 (hc.trans (by rfl:(0:Rat)=((0:Int):Rat)));omega)
  have e:((p.den:Int):Rat)*p=(p.num:Rat):=by
   have h1:=Yx7 p
   rw[Rat.divInt_eq_div,Rat.div_def]at h1
   have h2:=Rat.mul_inv_cancel _ hd0
   conv=>lhs;arg 2;rw[←h1]
   generalize ((p.den:Int):Rat)=x at*
   grind
  have ek:(t.length+1)*K+1=t.length*K+1+K:=by grind
  refine⟨s*((p.den:Int):Rat),fun hc=>?_,?_,fun q hq=>?_⟩
  ·rcases Rat.mul_eq_zero.1 hc with h|h
   ·exact h1 h
   ·exact hd0 h
  ·rw[Yv8,ek]
   exact h2.mul hd
  ·rw[Yv8,ek]
   rcases Yxa.1 hq with rfl|hq
   ·have:=h2.mul hn
    rw[←e]at this
    rw[Rat.mul_assoc]
    exact this
   ·have:=(h3 q hq).mul hd
    rw[show s*((p.den:Int):Rat)*q=s*q*((p.den:Int):Rat) by grind]
    exact this
def IsI.zero{b:Nat}:IsI b 0:=⟨0,rfl,by rw[Int.natAbs_zero];exact Yxl b⟩
def Yl5{c K:Nat}(h:QbM m K)(hc:RcN m c):Ypg m c (c*K+1):=fun i hi=>by
 obtain⟨s,h1,h2,h3⟩:=Zr1 (h.at (i:=i))
 rw[hc.at hi]at h2 h3
 refine⟨s,h1,h2,fun l hl=>?_⟩
 unfold atQ
 rw[Yv9 (by rw[hc.at hi];exact hl)]
 exact h3 _ (List.getElem_mem _)
structure CrI (Bs M:List (List Rat)) (s:Nat→Rat) (d:Nat) (ps:List Nat) (c R:Nat):Prop where
 len:Bs.length=M.length
 int:∀i l,i<M.length→l<c→IsI R (atQ Bs i l)
 sc:∀i,i<M.length→s i≠0∧IsI R (s i)
 low:∀i l,d≤i→i<M.length→l<c→s i*atQ M i l=atQ Bs i l-sN (fun j=>atQ Bs i (ps[j]?.getD 0)*atQ M j l) d
 top:∃T:Nat→Nat→Rat,∀j l,j<d→l<c→atQ M j l=sN (fun t=>T j t*atQ Bs t l) d
 ne:det d (fun t u=>atQ Bs t (ps[u]?.getD 0))≠0
def Yor{c:Nat}(h:Ypg m c R)(hc:RcN m c):∃Bs s,CrI Bs m s 0 [] c R:=by
 have hex:∀i,∃s:Rat,i<m.length→s≠0∧IsI R s∧∀l,l<c→IsI R (s*atQ m i l):=fun i=>by
  by_cases hi:i<m.length
  ·obtain⟨s,hs⟩:=h i hi
   exact⟨s,fun _=>hs⟩
  ·exact⟨0,fun hc=>absurd hc hi⟩
 obtain⟨s,hs⟩:=Classical.axiomOfChoice hex
 have hat:∀i l,i<m.length→l<c→atQ ((List.range m.length).map fun i=>(m[i]?.getD []).map fun q=>s i*q) i l=s i*atQ m i l:=fun i l hi hl=>by
  have hlen:=hc.at hi
  unfold atQ
  rw[Ywj,Yyo hi]
  simp only[Yya,Yxg,Ywj]
  rw[Yv9 (by omega)]
  rfl
 refine⟨(List.range m.length).map fun i=>(m[i]?.getD []).map fun q=>s i*q,s,(Yw7 _).trans List.length_range,fun i l hi hl=>?_,fun i hi=>⟨(hs i hi).1,(hs i hi).2.1⟩,fun i l _ hi hl=>?_,⟨fun _ _=>0,fun j _ hj=>absurd hj (Nat.not_lt_zero j)⟩,fun hc=>absurd (show (1:Rat)=0 from hc) (by decide)⟩
 ·rw[hat i l hi hl]
  exact(hs i hi).2.2 l hl
 ·rw[hat i l hi hl]
  show _=_-(0:Rat)
  grind
def al1:b=b-s+s:=by grind
def al2{p m:Rat}(h:b=p*m+s):k*p*m= -k*s+k*b:=by grind
def al3{c e f:Rat}(h1:s*x=b-e)(h2:s*y=c-f):s*(x-y*v)=b-(e+ -v*f+c*v):=by grind
def al4:b*(x-y*v)=b*x+ -v*(b*y):=by grind
def al5{t:Rat}:(t-y*x)*b=t*b+ -y*(x*b):=by grind
def al6{u:Rat}(h:v=u+k*b):s-y*v=s+ -y*u+(0-y*k)*b:=by grind
def al7{a i m:Rat}(h1:s*a*k=1)(h2:a*i=1):m*i=k*s*m:=by
 have:m*i=m*i*(s*a*k):=by rw[h1,Rat.mul_one]
 rw[this,show m*i*(s*a*k)=k*s*m*(a*i) by grind,h2,Rat.mul_one]
def CrI.step{s:Nat→Rat}{S:List (List Rat)×Nat×List Nat}{c:Nat}(h:CrI Bs S.1 s S.2.1 S.2.2 c R)(I:EcI S.1 S.2.1 S.2.2 n)(hc:RcN S.1 c)(hn:n<c):∃Bs' s',CrI Bs' (Zjp S n).1 s' (Zjp S n).2.1 (Zjp S n).2.2 c R:=by
 obtain⟨M,d,ps⟩:=S
 simp only at h I hc
 unfold Zjp
 simp only
 have hle:=@Zng M n (M.length-d) d
 have hdl:=I.le
 split
 ·rename_i hp
  have hd2:d<M.length:=by unfold pvQ at hp;omega
  have hpd:d≤pvQ M d n:=hle.1
  have hne:atQ M (pvQ M d n) n≠0:=@Znf M n (M.length-d) d (by unfold pvQ at hp;omega)
  generalize pvQ M d n=p at*
  have hcs:=(hc.swp hd2 hp).scl (d:=d) (k:=n) (by rw[Zcf];exact hd2)
  have hlen:(elmQ (Zhg (Zb6 M d p) d n) d n M.length).length=M.length:=by rw[Zfx,Zgq,Zcf]
  have hl2:(Zhg (Zb6 M d p) d n).length=M.length:=by rw[Zgq,Zcf]
  have hb:∀i j,atQ (Zb6 M d p) i j=if i=d then atQ M p j else if i=p then atQ M d j else atQ M i j:=fun i j=>Zos hd2 hp
  have hs:∀i j,atQ (Zhg (Zb6 M d p) d n) i j=if i=d then atQ M p j/atQ M p n else atQ (Zb6 M d p) i j:=fun i j=>by
   rw[Zx3 (by rw[Zcf];exact hd2),hb d j,hb d n,Yv6 rfl,Yv6 rfl]
  have he:∀i j,i<M.length→atQ (elmQ (Zhg (Zb6 M d p) d n) d n M.length) i j=if i=d then atQ M p j/atQ M p n else atQ (Zb6 M d p) i j-atQ (Zb6 M d p) i n*(atQ M p j/atQ M p n):=fun i j hi=>by
   have:=Zx4 (m:=Zhg (Zb6 M d p) d n) (k:=n) (j:=j) hcs (i:=i) (d:=d) (by rw[hl2];exact hi) (by rw[hl2];exact hd2)
   rw[hl2]at this
   rw[this,hs i j,hs i n,hs d j,Yv6 rfl]
   split<;>rfl
  have hbB:∀i j,atQ (Zb6 Bs d p) i j=if i=d then atQ Bs p j else if i=p then atQ Bs d j else atQ Bs i j:=fun i j=>Zos (by rw[h.len];exact hd2) (by rw[h.len];exact hp)
  show ∃Bs' s',CrI Bs' (elmQ (Zhg (Zb6 M d p) d n) d n M.length) s' (d+1) (ps++[n]) c R
  generalize elmQ (Zhg (Zb6 M d p) d n) d n M.length=M' at*
  obtain⟨T,hT⟩:=h.top
  have ho:∀i,i<d→(ps++[n])[i]?.getD 0=ps[i]?.getD 0:=fun i hi=>by rw[Ywp (by have:=I.len;omega)]
  have hn':(ps++[n])[d]?.getD 0=n:=by rw[Yw0 (by have:=I.len;omega),I.len];simp
  have hsp:=(h.sc p hp).1
  obtain⟨x,hx⟩:∃x:Nat→Rat,x=fun l=>atQ M p l/atQ M p n:=⟨_,rfl⟩
  have hx':∀l,x l=atQ M p l/atQ M p n:=fun l=>by rw[hx]
  have hMd:∀l,atQ M' d l=x l:=fun l=>by rw[he d l hd2,Yv6 rfl,hx']
  have hMj:∀j l,j<d→atQ M' j l=atQ M j l-atQ M j n*x l:=fun j l hj=>by
   rw[he j l (by omega),Yv4 (by omega),hb j l,hb j n,Yv4 (by omega),Yv4 (by omega),Yv4 (by omega),Yv4 (by omega),hx']
  have hBj:∀t l,t<d→atQ (Zb6 Bs d p) t l=atQ Bs t l:=fun t l ht=>by rw[hbB,Yv4 (by omega),Yv4 (by omega)]
  have hBd:∀l,atQ (Zb6 Bs d p) d l=atQ Bs p l:=fun l=>by rw[hbB,Yv6 rfl]
  have hpl:∀j,j<d→ps[j]?.getD 0<c:=fun j hj=>by have:=I.lt j hj;omega
  obtain⟨Z,hZ⟩:∃Z:Nat→Rat,Z=fun t=>sN (fun j=>atQ Bs p (ps[j]?.getD 0)*T j t) d:=⟨_,rfl⟩
  have hsum:∀l,l<c→sN (fun j=>atQ Bs p (ps[j]?.getD 0)*atQ M j l) d=sN (fun t=>Z t*atQ Bs t l) d:=fun l hl=>by
   rw[Zas (g:=fun j=>sN (fun t=>atQ Bs p (ps[j]?.getD 0)*T j t*atQ Bs t l) d) fun j hj=>by rw[hT j l hj hl,←Zd5];exact Zas fun t _=>(Rat.mul_assoc _ _ _).symm,Zqn]
   apply Zas
   intro t _
   rw[hZ,Rat.mul_comm,←Zd5]
   exact Zas fun j _=>Rat.mul_comm _ _
  have hrow:∀l,l<c→atQ Bs p l=s p*atQ M p l+sN (fun t=>Z t*atQ Bs t l) d:=fun l hl=>by
   rw[←hsum l hl,h.low p l hpd hp hl]
   exact al1
  have e1:s p*atQ M p n≠0:=fun hc=>by
   rcases Rat.mul_eq_zero.1 hc with h|h
   ·exact hsp h
   ·exact hne h
  obtain⟨κ,hκ⟩:∃κ:Rat,s p*atQ M p n*κ=1:=⟨_,Rat.mul_inv_cancel _ e1⟩
  have hx2:∀l,x l=κ*s p*atQ M p l:=fun l=>by
   rw[hx',Rat.div_def]
   exact al7 hκ (Rat.mul_inv_cancel _ hne)
  have hxl:∀l,l<c→x l=sN (fun t=>(if t=d then κ else -κ*Z t)*atQ (Zb6 Bs d p) t l) (d+1):=fun l hl=>by
   show _=sN (fun t=>(if t=d then κ else -κ*Z t)*atQ (Zb6 Bs d p) t l) d+(if d=d then κ else -κ*Z d)*atQ (Zb6 Bs d p) d l
   rw[Yv6 rfl,hBd,Zas (g:=fun t=> -κ*(Z t*atQ Bs t l)) fun t ht=>by rw[Yv4 (by omega),hBj t l ht,Rat.mul_assoc],Zd5,hx2]
   exact al2 (hrow l hl)
  refine⟨Zb6 Bs d p,fun i=>if i=d then s p else if i=p then s d else s i,by rw[Zcf,hlen,h.len],fun i l hi hl=>?_,fun i hi=>?_,fun i l h1 h2 hl=>?_,⟨fun j t=>if j=d then (if t=d then κ else -κ*Z t) else (if t=d then 0 else T j t)-atQ M j n*(if t=d then κ else -κ*Z t),fun j l hj hl=>?_⟩,?_⟩
  ·rw[hlen]at hi
   rw[hbB]
   split
   ·exact h.int p l hp hl
   ·split
    ·exact h.int d l hd2 hl
    ·exact h.int i l hi hl
  ·rw[hlen]at hi
   split
   ·exact h.sc p hp
   ·split
    ·exact h.sc d hd2
    ·exact h.sc i hi
  ·rw[hlen]at h2
   have hsw:∀l,l<c→(if i=d then s p else if i=p then s d else s i)*atQ (Zb6 M d p) i l=atQ (Zb6 Bs d p) i l-sN (fun j=>atQ (Zb6 Bs d p) i (ps[j]?.getD 0)*atQ M j l) d:=fun l hl=>by
    by_cases e:i=p
    ·have hB2:∀l,atQ (Zb6 Bs d p) i l=atQ Bs d l:=fun l=>by rw[hbB,Yv4 (by omega),Yv6 e]
     rw[Yv4 (by omega),Yv6 e,hb,Yv4 (by omega),Yv6 e,hB2,Zas (g:=fun j=>atQ Bs d (ps[j]?.getD 0)*atQ M j l) fun j _=>by rw[hB2]]
     exact h.low d l (Yv5 _) hd2 hl
    ·have hB2:∀l,atQ (Zb6 Bs d p) i l=atQ Bs i l:=fun l=>by rw[hbB,Yv4 (by omega),Yv4 e]
     rw[Yv4 (by omega),Yv4 e,hb,Yv4 (by omega),Yv4 e,hB2,Zas (g:=fun j=>atQ Bs i (ps[j]?.getD 0)*atQ M j l) fun j _=>by rw[hB2]]
     exact h.low i l (by omega) h2 hl
   have hM:atQ M' i l=atQ (Zb6 M d p) i l-atQ (Zb6 M d p) i n*x l:=by rw[he i l h2,Yv4 (show ¬i=d by omega),←hx' l]
   rw[hM]
   show (if i=d then s p else if i=p then s d else s i)*_=_-(sN (fun j=>atQ (Zb6 Bs d p) i ((ps++[n])[j]?.getD 0)*atQ M' j l) d+atQ (Zb6 Bs d p) i ((ps++[n])[d]?.getD 0)*atQ M' d l)
   rw[hn',hMd,Zas (g:=fun j=>atQ (Zb6 Bs d p) i (ps[j]?.getD 0)*atQ M j l+ -x l*(atQ (Zb6 Bs d p) i (ps[j]?.getD 0)*atQ M j n)) fun j hj=>by rw[ho j hj,hMj j l hj];exact al4,Zj5,Zd5]
   exact al3 (hsw l hl) (hsw n hn)
  ·have hX:=hxl l hl
   by_cases e:j=d
   ·subst e
    rw[hMd,hX]
    exact Zas fun t _=>by
     show _=(if j=j then (if t=j then κ else -κ*Z t) else (if t=j then 0 else T j t)-atQ M j n*(if t=j then κ else -κ*Z t))*atQ (Zb6 Bs j p) t l
     rw[Yv6 rfl]
   ·have hX:x l=sN (fun t=>(if t=d then κ else -κ*Z t)*atQ (Zb6 Bs d p) t l) d+(if d=d then κ else -κ*Z d)*atQ (Zb6 Bs d p) d l:=hX
    rw[Yv6 rfl]at hX
    rw[hMj j l (by omega),hT j l (by omega) hl]
    show _=sN (fun t=>(if j=d then (if t=d then κ else -κ*Z t) else (if t=d then 0 else T j t)-atQ M j n*(if t=d then κ else -κ*Z t))*atQ (Zb6 Bs d p) t l) d+(if j=d then (if d=d then κ else -κ*Z d) else (if d=d then 0 else T j d)-atQ M j n*(if d=d then κ else -κ*Z d))*atQ (Zb6 Bs d p) d l
    rw[Yv4 e,Yv6 rfl,Yv6 rfl,Zas (f:=fun t=>(if j=d then (if t=d then κ else -κ*Z t) else (if t=d then 0 else T j t)-atQ M j n*(if t=d then κ else -κ*Z t))*atQ (Zb6 Bs d p) t l) (g:=fun t=>T j t*atQ Bs t l+ -atQ M j n*((if t=d then κ else -κ*Z t)*atQ (Zb6 Bs d p) t l)) fun t ht=>by
     rw[Yv4 e,Yv4 (show ¬t=d by omega),Yv4 (show ¬t=d by omega),hBj t l ht]
     exact al5,Zj5,Zd5]
    exact al6 hX
  ·have e1:det (d+1) (fun t u=>atQ (Zb6 Bs d p) t ((ps++[n])[u]?.getD 0))=det (d+1) (setR (fun t u=>atQ (Zb6 Bs d p) t ((ps++[n])[u]?.getD 0)) d fun u=>s p*atQ M p ((ps++[n])[u]?.getD 0)+sN (fun t=>Z t*atQ (Zb6 Bs d p) t ((ps++[n])[u]?.getD 0)) d):=Zb9 fun r u hr hu=>by
    unfold setR
    split
    ·rename_i e
     subst e
     have hul:(ps++[n])[u]?.getD 0<c:=by
      by_cases e:u<r
      ·rw[ho u e];exact hpl u e
      ·rw[show u=r by omega,hn'];exact hn
     simp only
     rw[hBd,hrow _ hul]
     congr 1
     exact Zas fun t ht=>by rw[hBj t _ ht]
    ·rfl
   rw[e1,Zra (by omega),Zvl (w:=fun t u=>atQ (Zb6 Bs d p) t ((ps++[n])[u]?.getD 0)) (by omega),Yj0 (f:=fun t=>_) fun t ht=>by
    have:=Yew (n:=d+1) (A:=fun t u=>atQ (Zb6 Bs d p) t ((ps++[n])[u]?.getD 0)) (i:=t) (j:=d) (by omega) (by omega)
    rw[this,Yv4 (by omega),Rat.mul_zero],Rat.add_zero,Zxr (π:=s p*atQ M p n) (fun u hu=>?_) ?_]
   ·intro hc
    rcases Rat.mul_eq_zero.1 hc with h1|h1
    ·rcases Rat.mul_eq_zero.1 h1 with h|h
     ·exact hsp h
     ·exact hne h
    ·apply h.ne
     rw[←h1]
     exact Zb9 fun r u hr hu=>by
      unfold setR
      rw[Yv4 (by omega)]
      show _=atQ (Zb6 Bs d p) r ((ps++[n])[u]?.getD 0)
      rw[hBj r _ hr,ho u hu]
   ·unfold setR
    rw[Yv6 rfl]
    show s p*atQ M p ((ps++[n])[d]?.getD 0)=_
    rw[hn']
   ·unfold setR
    rw[Yv6 rfl]
    show s p*atQ M p ((ps++[n])[u]?.getD 0)=0
    rw[ho u hu,I.rest p _ hpd hp (I.lt u hu),Rat.mul_zero]
 ·exact⟨Bs,s,h⟩
def Zxt{m:List (List Rat)}{c R:Nat}(h:Ypg m c R)(hc:RcN m c):∀{n:Nat},n≤c→∃Bs s,CrI Bs (Za0 m n).1 s (Za0 m n).2.1 (Za0 m n).2.2 c R
 |0,_=>Yor h hc
 |n+1,hn=>by
  obtain⟨Bs,s,hC⟩:=Zxt h hc (n:=n) (by omega)
  rw[Zcl]
  exact hC.step (Zci hc) (Zga hc).1 (by omega)
def CrI.done{M:List (List Rat)}{s:Nat→Rat}{d c:Nat}{ps:List Nat}(h:CrI Bs M s d ps c R)(I:EcI M d ps n)(hn:n≤c)(hR:1≤R):IsI (d*(R+d+1)+1) (det d fun t u=>atQ Bs t (ps[u]?.getD 0))∧∀j l,j<d→l<c→IsI ((d+1)*(R+d+1)) ((det d fun t u=>atQ Bs t (ps[u]?.getD 0))*atQ M j l):=by
 have hle:=I.le
 have hpl:∀j,j<d→ps[j]?.getD 0<c:=fun j hj=>by have:=I.lt j hj;omega
 have hI:∀r u,r<d→u<d→IsI R (atQ Bs r (ps[u]?.getD 0)):=fun r u hr hu=>h.int r _ (by omega) (hpl u hu)
 refine⟨Zvm hI,fun j l hj hl=>?_⟩
 obtain⟨T,hT⟩:=h.top
 have hadj:∀t q,t<d→q<d→sN (fun u=>atQ Bs t (ps[u]?.getD 0)*det d (setR (fun t u=>atQ Bs t (ps[u]?.getD 0)) q (unR u))) d=if t=q then det d (fun t u=>atQ Bs t (ps[u]?.getD 0)) else 0:=fun t q ht hq=>by
  rw[←Yew ht hq]
  exact(Yi3 hq).symm
 have hTd:∀q,q<d→det d (setR (fun t u=>atQ Bs t (ps[u]?.getD 0)) q (unR j))=T j q*det d (fun t u=>atQ Bs t (ps[u]?.getD 0)):=fun q hq=>by
  have e1:det d (setR (fun t u=>atQ Bs t (ps[u]?.getD 0)) q (unR j))=sN (fun u=>atQ M j (ps[u]?.getD 0)*det d (setR (fun t u=>atQ Bs t (ps[u]?.getD 0)) q (unR u))) d:=by
   rw[Zhm (i:=j) hj fun u hu hne=>by rw[I.one u j hu (by omega),Yv4 (Ne.symm hne),Rat.zero_mul],I.one j j hj (by omega),Yv6 rfl,Rat.one_mul]
  rw[e1,Zas (g:=fun u=>sN (fun t=>T j t*(atQ Bs t (ps[u]?.getD 0)*det d (setR (fun t u=>atQ Bs t (ps[u]?.getD 0)) q (unR u)))) d) fun u hu=>by rw[hT j _ hj (hpl u hu),Rat.mul_comm,←Zd5];exact Zas fun t _=>by grind,Zqn,Zas (g:=fun t=>T j t*if t=q then det d (fun t u=>atQ Bs t (ps[u]?.getD 0)) else 0) fun t ht=>by rw[Zd5,hadj t q ht hq],Zhm (i:=q) hq fun t _ hne=>by rw[Yv4 hne,Rat.mul_zero],Yv6 rfl]
 rw[hT j l hj hl,←Zd5]
 have:=IsI.sum2 (m:=d) (b:=d*(R+d+1)+1+R) (n:=d) (f:=fun t=>det d (fun t u=>atQ Bs t (ps[u]?.getD 0))*(T j t*atQ Bs t l)) (fun t ht=>by
  rw[show det d (fun t u=>atQ Bs t (ps[u]?.getD 0))*(T j t*atQ Bs t l)=T j t*det d (fun t u=>atQ Bs t (ps[u]?.getD 0))*atQ Bs t l by grind,←hTd t ht]
  refine(Zvm fun r u hr hu=>?_).mul (h.int t l (by omega) hl)
  unfold setR
  split
  ·unfold unR
   split
   ·exact⟨1,rfl,Ywf (by decide:Int.natAbs 1<2^1) (Yw3 (by decide) hR)⟩
   ·exact IsI.zero
  ·exact hI r u hr hu) Nat.lt_two_pow_self
 refine this.mono ?_
 have:(d+1)*(R+d+1)=d*(R+d+1)+(R+d+1):=by grind
 omega
def IsI.sub{b:Nat}{p q:Rat}(hp:IsI b p)(hq:IsI b q):IsI (b+1) (p-q):=by
 obtain⟨x,rfl,hx⟩:=hp
 obtain⟨y,rfl,hy⟩:=hq
 refine⟨x-y,by rw[Rat.intCast_sub],?_⟩
 rw[Ywx]
 omega
def crB(R d:Nat):Nat:=(d+2)*(R+d+1)
def CrI.qb{M:List (List Rat)}{s:Nat→Rat}{d c:Nat}{ps:List Nat}(h:CrI Bs M s d ps c R)(I:EcI M d ps n)(hc:RcN M c)(hn:n≤c)(hR:1≤R):QbM M (crB R d):=fun r hr q hq=>by
 obtain⟨h1,h2⟩:=h.done I hn hR
 have hB:crB R d=d*(R+d+1)+2*R+2*d+2:=by unfold crB;grind
 have hW:(d+1)*(R+d+1)=d*(R+d+1)+(R+d+1):=by grind
 obtain⟨i,hi⟩:=Yxq hr
 obtain⟨l,hl⟩:=Yxq hq
 have hil:=Zau hi
 have hll:l<c:=by have:=Zau hl;rw[hc r hr]at this;exact this
 have hat:atQ M i l=q:=by unfold atQ;rw[hi,Yxg,hl];rfl
 by_cases e:i<d
 ·have:=h2 i l e hll
  rw[hat]at this
  exact IsI.qb h.ne (h1.mono (by omega)) (this.mono (by omega))
 ·have hlow:=h.low i l (by omega) hil hll
  have hs:=h.sc i hil
  have hpl:∀j,j<d→ps[j]?.getD 0<c:=fun j hj=>by have:=I.lt j hj;omega
  rw[hat]at hlow
  refine IsI.qb (D:=s i*det d fun t u=>atQ Bs t (ps[u]?.getD 0)) (fun hc=>?_) ((hs.2.mul h1).mono (by omega)) ?_
  ·rcases Rat.mul_eq_zero.1 hc with h'|h'
   ·exact hs.1 h'
   ·exact h.ne h'
  ·have e1:(s i*det d fun t u=>atQ Bs t (ps[u]?.getD 0))*q=atQ Bs i l*(det d fun t u=>atQ Bs t (ps[u]?.getD 0))-sN (fun j=>atQ Bs i (ps[j]?.getD 0)*((det d fun t u=>atQ Bs t (ps[u]?.getD 0))*atQ M j l)) d:=by
    rw[Zas (g:=fun j=>(det d fun t u=>atQ Bs t (ps[u]?.getD 0))*(atQ Bs i (ps[j]?.getD 0)*atQ M j l)) fun j _=>by grind,Zd5]
    grind
   rw[e1]
   have a1:=((h.int i l hil hll).mul h1).mono (b:=R+(d+1)*(R+d+1)+d) (by omega)
   have a2:=IsI.sum2 (m:=d) (b:=R+(d+1)*(R+d+1)) (n:=d) (f:=fun j=>atQ Bs i (ps[j]?.getD 0)*((det d fun t u=>atQ Bs t (ps[u]?.getD 0))*atQ M j l)) (fun j hj=>(h.int i _ hil (hpl j hj)).mul (h2 j l hj hll)) Nat.lt_two_pow_self
   exact(a1.sub a2).mono (by omega)
def Zn7{m:List (List Rat)}{c:Nat}(hc:RcN m c):∀{e:Nat},Za0 m (c+e)=Za0 m c
 |0=>rfl
 |e+1=>by
  rw[←Yxp,Zcl,Zn7 hc]
  obtain⟨M,hM⟩:∃M,M=Za0 m c:=⟨_,rfl⟩
  have hr:=(Zga hc (n:=c)).1
  rw[←hM]at hr ⊢
  have hz:∀i,atQ M.1 i (c+e)=0:=fun i=>by
   unfold atQ
   by_cases hi:i<M.1.length
   ·have h3:=hr.at hi
    rw[Ywd (l:=M.1[i]?.getD []) (by omega)];rfl
   ·have h3:M.1[i]?=none:=Ywd (by omega)
    rw[h3];rfl
  unfold Zjp
  rw[Yv4]
  intro hp
  have hle:=@Zng M.1 (c+e) (M.1.length-M.2.1) M.2.1
  exact(@Znf M.1 (c+e) (M.1.length-M.2.1) M.2.1 (by unfold pvQ at hp;omega)) (hz _)
def Ykq{c:Nat}(h:Ypg m c R)(hc:RcN m c)(hR:1≤R)(n:Nat):QbM (Za0 m n).1 (crB R (Za0 m n).2.1):=by
 by_cases hn:n≤c
 ·obtain⟨Bs,s,hC⟩:=Zxt h hc hn
  exact hC.qb (Zci hc) (Zga hc).1 hn hR
 ·rw[show n=c+(n-c) by omega,Zn7 hc]
  obtain⟨Bs,s,hC⟩:=Zxt h hc (Yv5 c)
  exact hC.qb (Zci hc) (Zga hc).1 (Yv5 c) hR
variable {m:List (List Rat)}
def Zwx{m:List (List Rat)}{c:Nat}{v:Nat→Rat}(hc:RcN m c)(hv:Kil (Zhw m c) c v):∀j,j<c→v j=sN (fun a=>atQ (Zea m c) a j*v ((Za0 m c).2.2[a]?.getD 0)) (Za0 m c).2.1:=fun j hj=>by
 have hl:=Zdx (n:=c) hc
 obtain⟨y,hy⟩:∃y:Nat→Rat,∀a,y a=v ((Za0 m c).2.2[a]?.getD 0):=⟨_,fun _=>rfl⟩
 have hpz:∀l,l∈(Za0 m c).2.2→v l-sN (fun a=>atQ (Zea m c) a l*y a) (Za0 m c).2.1=0:=fun l h=>by
  obtain⟨i,hi,ei,_⟩:=Zui hc h
  rw[Zhm (i:=i) hi fun a ha hne=>by rw[←ei,Zqq hc hi ha,Yv4 hne,Rat.zero_mul],←ei,Zqq hc hi hi,Yv6 rfl,hy]
  grind
 rw[show (fun a=>atQ (Zea m c) a j*v ((Za0 m c).2.2[a]?.getD 0))=fun a=>atQ (Zea m c) a j*y a from funext fun a=>by rw[hy]]
 by_cases hm:j∈(Za0 m c).2.2
 ·have:=hpz j hm
  grind
 ·obtain⟨i,hi⟩:=Yxq (show j∈Zdg (Za0 m c).2.2 c by simp[Zdg,hj,hm])
  have h1:=hv i (by simpa[Zhw]using Zau hi)
  have h2:sN (fun l=>kvF m c j l*v l) c=0:=by
   rw[←h1]
   exact Zas fun l hl=>by rw[Zot hi hl]
  have hk:=Zsr hc hj hm
  rw[←Zq0 hc]at hk
  have h3:sN (fun l=>kvF m c j l*sN (fun a=>atQ (Zea m c) a l*y a) (Za0 m c).2.1) c=0:=by
   rw[Zwe (b:=fun _=>0) fun t ht=>hk t (by rw[hl];exact ht)]
   exact Yj0 fun a _=>Rat.zero_mul _
  have h4:sN (fun l=>kvF m c j l*(v l-sN (fun a=>atQ (Zea m c) a l*y a) (Za0 m c).2.1)) c=0:=by
   rw[Zas (g:=fun l=>kvF m c j l*v l-kvF m c j l*sN (fun a=>atQ (Zea m c) a l*y a) (Za0 m c).2.1) fun l _=>by grind,Yqc,h2,h3]
   grind
  rw[Zhm (i:=j) hj]at h4
  ·unfold kvF at h4
   rw[Yv6 rfl,Rat.one_mul]at h4
   grind
  ·intro l _ hne
   by_cases hlm:l∈(Za0 m c).2.2
   ·rw[hpz l hlm,Rat.mul_zero]
   ·unfold kvF
    rw[Yv4 hne,Yv4 hlm,Rat.zero_mul]
def Yl4{c b:Nat}(hc:RcN m c)(hb:b<m.length):Kil (Zhw m c) c fun l=>atQ m b l:=by
 intro a ha
 obtain⟨k,hk⟩:=Zae (l:=Zdg (Za0 m c).2.2 c) (k:=a) (by simpa[Zhw]using ha)
 have hm:=Yv7 hk
 simp only[Zdg,List.mem_filter,Yx1]at hm
 have hf:k∉(Za0 m c).2.2:=by simpa using hm.2
 rw[←Zsr hc hm.1 hf b hb]
 exact Zas fun l hl=>by rw[Zot hk hl,Rat.mul_comm]
def Yb3{c b j:Nat}(hc:RcN m c)(hb:b<m.length)(hj:j<c):atQ m b j=sN (fun a=>atQ (Zea m c) a j*atQ m b ((Za0 m c).2.2[a]?.getD 0)) (Za0 m c).2.1:=Zwx hc (Yl4 hc hb) j hj
def Yic{c:Nat}(hc:RcN m c):(Za0 (Zhw m c) c).2.1=(Zhw m c).length:=by
 have hKc:RcN (Zhw m c) c:=Zkj
 have hle:=(Zci hKc (n:=c)).le
 have hkl:=Zlk hc
 rw[Zee]at hle
 by_cases he:(Za0 (Zhw m c) c).2.1=(Zhw m c).length
 ·exact he
 ·exfalso
  have I:=Zci hKc (n:=c)
  obtain⟨K,hK⟩:∃K,K=Zhw m c:=⟨_,rfl⟩
  have hnul:=fun v=>@Zwx m c v hc
  rw[←hK]at hKc hle hkl he I hnul
  have hfl:=Zkp (ps:=(Za0 K c).2.2) (n:=c) (fun i hi=>I.lt i (by rw[←I.len];exact hi)) (fun i j h1 h2=>I.asc i j h1 (by rw[←I.len];exact h2))
  rw[I.len]at hfl
  have hnd:(Zdg (Za0 K c).2.2 c).Nodup:=List.nodup_range.filter _
  have hkr:(Zhw K c).length=(Zdg (Za0 K c).2.2 c).length:=by simp[Zhw]
  have hat:∀b f j,(Zdg (Za0 K c).2.2 c)[b]?=some f→j<c→atQ (Zhw K c) b j=kvF K c f j:=fun b f j h1 h2=>Zot h1 h2
  have hfr:∀b f,(Zdg (Za0 K c).2.2 c)[b]?=some f→f<c∧f∉(Za0 K c).2.2:=fun b f h=>by
   have hm:=Yv7 h
   simp only[Zdg,List.mem_filter,Yx1]at hm
   exact⟨hm.1,by simpa using hm.2⟩
  obtain⟨F,hF⟩:∃F,F=Zdg (Za0 K c).2.2 c:=⟨_,rfl⟩
  rw[←hF]at hfl hnd hkr hat hfr
  have J:=Zci hc (n:=c)
  obtain⟨r,hr⟩:∃r,r=(Za0 m c).2.1:=⟨_,rfl⟩
  rw[←hr]at hkl hnul J
  obtain⟨A,hA⟩:∃A,A=(List.range r).map fun a=>F.map fun f=>kvF K c f ((Za0 m c).2.2[a]?.getD 0):=⟨_,rfl⟩
  have hAl:A.length=r:=by rw[hA];simp
  have hAc:RcN A F.length:=fun x hx=>by
   rw[hA]at hx
   obtain⟨a,_,rfl⟩:=Ywv.1 hx
   simp
  have hAt:∀a b f,a<r→F[b]?=some f→atQ A a b=kvF K c f ((Za0 m c).2.2[a]?.getD 0):=fun a b f ha hb=>by
   unfold atQ
   rw[hA,Ywj,Yyo ha]
   simp only[Yya,Yxg,Ywj,hb]
  have IA:=Zci hAc (n:=F.length)
  have hAle:=IA.le
  rw[Zee,hAl]at hAle
  have hf2:=Zkp (ps:=(Za0 A F.length).2.2) (n:=F.length) (fun i hi=>IA.lt i (by rw[←IA.len];exact hi)) (fun i j h1 h2=>IA.asc i j h1 (by rw[←IA.len];exact h2))
  rw[IA.len]at hf2
  obtain⟨k,hk⟩:=Zae (l:=Zdg (Za0 A F.length).2.2 F.length) (k:=0) (by omega)
  have hm:=Yv7 hk
  simp only[Zdg,List.mem_filter,Yx1]at hm
  have hkf:k∉(Za0 A F.length).2.2:=by simpa using hm.2
  have hw:=Zsr hAc hm.1 hkf
  have hwk:kvF A F.length k k=1:=by simp[kvF]
  obtain⟨w,hww⟩:∃w,w=kvF A F.length k:=⟨_,rfl⟩
  rw[←hww]at hw hwk
  have hv:Kil K c fun j=>sN (fun b=>atQ (Zhw K c) b j*w b) F.length:=by
   intro i hi
   show sN (fun j=>atQ K i j*sN (fun b=>atQ (Zhw K c) b j*w b) F.length) c=0
   rw[Zwe (b:=fun _=>0) fun t ht=>by
    obtain⟨f,hf⟩:=Zae (l:=F) (k:=t) ht
    have h1:=Zsr hKc (hfr t f hf).1 (hfr t f hf).2 i hi
    rw[←h1]
    exact Zas fun l hl=>by rw[hat t f l hf hl,Rat.mul_comm]]
   exact Yj0 fun a _=>Rat.zero_mul _
  obtain⟨fk,hfk⟩:=Zae (l:=F) (k:=k) hm.1
  have h0:=hnul _ hv fk (hfr k fk hfk).1
  rw[Yj0 (n:=r)]at h0
  ·rw[Zhm (i:=k) hm.1]at h0
   ·rw[hat k fk fk hfk (hfr k fk hfk).1,hwk]at h0
    unfold kvF at h0
    rw[Yv6 rfl,Rat.one_mul]at h0
    exact absurd h0 (by decide)
   ·intro b hb hne
    obtain⟨f,hf⟩:=Zae (l:=F) (k:=b) hb
    rw[hat b f fk hf (hfr k fk hfk).1]
    unfold kvF
    rw[Yv4,Yv4 (hfr k fk hfk).2,Rat.zero_mul]
    intro h
    subst h
    exact hne ((List.getElem?_inj hb hnd).1 (hf.trans hfk.symm))
  ·intro a ha
   have h1:=hw a (by rw[hAl];exact ha)
   have h2:sN (fun b=>atQ (Zhw K c) b ((Za0 m c).2.2[a]?.getD 0)*w b) F.length=0:=by
    rw[←h1]
    exact Zas fun b hb=>by
     obtain⟨f,hf⟩:=Zae (l:=F) (k:=b) hb
     rw[hat b f _ hf (J.lt a ha),hAt a b f ha hf]
   rw[h2,Rat.mul_zero]
def Yib{c:Nat}(hc:RcN m c):(Zll m c).length+(Zea m c).length=c:=by
 have h1:=Zlk hc
 unfold Zll
 rw[Zdx Zkj,Yic hc,Zdx hc]
 exact h1
def Yia{c R:Nat}(h:Ypg m c R)(hc:RcN m c)(hR:1≤R):Ypg (Zhw m c) c (((Za0 m c).2.1+1)*(R+(Za0 m c).2.1+1)):=by
 obtain⟨Bs,s,hC⟩:=Zxt h hc (n:=c) (Yv5 _)
 have I:=Zci hc (n:=c)
 obtain⟨h1,h2⟩:=hC.done I (Yv5 _) hR
 have h0:=hC.ne
 obtain⟨d,hd⟩:∃d,d=(Za0 m c).2.1:=⟨_,rfl⟩
 intro i hi
 obtain⟨k,hk⟩:=Zae (l:=Zdg (Za0 m c).2.2 c) (k:=i) (by simpa[Zhw]using hi)
 have hB:(Za0 m c).2.1*(R+(Za0 m c).2.1+1)+1≤((Za0 m c).2.1+1)*(R+(Za0 m c).2.1+1):=by
  rw[Yxd]
  omega
 refine⟨_,h0,h1.mono hB,fun l hl=>?_⟩
 rw[Zot hk hl]
 unfold kvF
 split
 ·rw[Rat.mul_one]
  exact h1.mono hB
 ·split
  ·rename_i hm
   obtain⟨a,ha,_,ex⟩:=Zui hc hm
   have hm2:=Yv7 hk
   simp only[Zdg,List.mem_filter,Yx1]at hm2
   rw[ex,Zwf ha,Rat.mul_neg]
   exact(h2 a k ha hm2.1).neg
  ·rw[Rat.mul_zero]
   exact IsI.zero
def Ydt{c R:Nat}(h:Ypg m c R)(hc:RcN m c)(hR:1≤R):∃d e,d+e=c∧d=(Zea m c).length∧e=(Zll m c).length∧QbM (Zea m c) (crB R d)∧QbM (Zll m c) (crB ((d+1)*(R+d+1)) e):=by
 refine⟨(Zea m c).length,(Zll m c).length,by have:=Yib hc;omega,rfl,rfl,fun r hr=>?_,fun r hr=>?_⟩
 ·rw[Zdx hc]
  exact Ykq h hc hR c r (Yxi hr)
 ·unfold Zll at hr ⊢
  rw[Zdx Zkj,Zdx hc]
  exact Ykq (Yia h hc hR) Zkj (Yzg (Nat.succ_pos _) (by omega)) c r (Yxi hr)
open Go
noncomputable def A.b6:=A.q Tryz.f6
def A.k6:=@A.kk 6 20 [.tmp 2,.tmp 3] A.b6 (by kernel_rfl) rfl
def OkM.lens{m:List (List Str)}{n:Nat}(h:OkM m n):(Zdq m).length<1000∧0<(Zdq m).length∧n<1000∧(∀k,k<(Zdq m).length→k<n→3*kB 96 k≤400000000)∧(∀l∈Zdq m,l.length<1000000000∧∀q∈l,Qb 100 q):=by
 have h1:=h.pos
 have h2:=h.le
 have h3:=h.n6
 rw[Zmg]
 refine⟨by omega,h1,by omega,fun k h4 h5=>Ynr (by omega),fun l hl=>?_⟩
 obtain⟨a,b⟩:=h.rat l hl
 exact⟨by omega,b⟩
def Ysa(m:List (List Str)):Int:=if Zg9 m 64 16=0 then ((Zea (Zdq m) (hdL m)).length:Int) else 0
def Ymb{h:T O}{N:Nat}{u:V}{m:List (List Str)}(hm:MtS h N u m)(sm:Zcq 6 6 m=true):Fn A.C 6 [u] h N (fun x _ _=>x=.tup [.int .i64 (Ysa m),.int .i64 (Zg9 m 64 16)]):=by
 intro w
 obtain⟨m1,m2⟩:=Ze9 sm
 rw[Zab,A.k6 (by simp)]
 simp[A.b6]
 refine Zac (Zmi hm m1 m2) ?_
 rintro _ H1 n1 k1 rfl
 unfold Ysa
 by_cases hE:Zg9 m 64 16=0
 ·have hM:=Zmp hE sm
  obtain⟨l1,l2,l3,l4,l5⟩:=hM.lens
  simp[hE,Zad]
  refine Zac (Zie (k0:=100) ((hm.keep k1).rat fun r hr=>(hM.row r hr).2) (by omega) l5 (by decide)) ?_
  rintro v H2 n2 k2 hv
  simp[]
  refine Zac (Zil (B:=kB 96) hv hM.qb.1 l1 l2 l3 (fun _=>Zkk (by decide)) (fun _=>Zp0 hM.qb.2 (by decide)) l4) ?_
  rintro _ H3 n3 k3 ⟨a,b,rfl,ha,hb⟩
  have la:=ha.len
  simp[la,Ret]
  exact(k1.trans k2).trans k3
 ·simp[hE,Zad,Ret]
  exact k1
set_option maxHeartbeats 2000000
structure Pk where
 act:Int
 am:Str
 sl:List Str
def pkC(p:Pk)(u:V):List V:=[.int .i64 p.act,.str p.am,u]
def PkS(h:T O)(N:Nat)(v:V)(l:List Pk):Prop:=∃cs:List (List V),Sn 3 h N v cs∧cs.length=l.length∧∀(j:Nat) (p:Pk),l[j]?=some p→∃u,cs[j]?=some (pkC p u)∧Sl h N u (strs p.sl)
def PkS.keep{h h':T O}{N N':Nat}{v:V}{l:List Pk}(s:PkS h N v l)(k:Keeps h N h' N'):PkS h' N' v l:=by
 obtain⟨cs,h1,h2,h3⟩:=s
 refine⟨cs,h1.keep k,h2,fun j p hp=>?_⟩
 obtain⟨u,g1,g2⟩:=h3 j p hp
 exact⟨u,g1,g2.keep k⟩
def Ybm{x c:List V}{k n j:Nat}(h:slc x k n=some c)(hj:j<n):x[k+j]?=c[j]?:=by
 obtain⟨h1,rfl⟩:=Zqj h
 rw[Ywn,Yv6 hj,Ywg]
def PkS.at{h:T O}{N:Nat}{v:V}{l:List Pk}(s:PkS h N v l){j:Nat}{p:Pk}(hj:l[j]?=some p):∃i o x e rw u,Zk3 v=some (i,o)∧i<N∧h.get i=some (.cells x e rw)∧slc x (o+j*3) 3=some (pkC p u)∧x[o+j*3]?=some (.int .i64 p.act)∧x[o+j*3+1]?=some (.str p.am)∧x[o+j*3+2]?=some u∧Sl h N u (strs p.sl):=by
 obtain⟨cs,h1,h2,h3⟩:=s
 obtain⟨u,g1,g2⟩:=h3 j p hj
 obtain⟨i,o,x,e,rw,q1,q2,q3,q4⟩:=h1.at g1
 exact⟨i,o,x,e,rw,u,q1,q2,q3,q4,by have:=Ybm q4 (j:=0) (by decide);simpa[pkC]using this,by have:=Ybm q4 (j:=1) (by decide);simpa[pkC]using this,by have:=Ybm q4 (j:=2) (by decide);simpa[pkC]using this,g2⟩
section
variable {h:T O} {N P B:Nat} {p:Pk} {u:V} {e eB:TypeId} {rw rwB:Bool} {z:Int}
end
set_option maxHeartbeats 4000000
set_option maxHeartbeats 2000000
set_option maxHeartbeats 2000000
set_option maxHeartbeats 2000000
set_option maxHeartbeats 2000000
set_option maxHeartbeats 2000000
structure Yv0 (b:List (List Str)) (n:Nat):Prop where
 pos:0<b.length
 le:b.length≤4
 row:∀r∈b,r.length=n∧OkL r
variable {N:Nat} {h:T O} {l:List Rat}
noncomputable def A.w17:=A.q Tryz.f17
noncomputable def A.lb17_0:=A.ql A.w17 0 []
noncomputable def A.b17:=(fun x0=>A.qb A.w17 [x0]) A.lb17_0
def A.k17:=@A.kk 17 18 [.tmp 2] A.b17 (by kernel_rfl) rfl
noncomputable def A.w13:=A.q Tryz.f13
noncomputable def A.lb13_0:=A.ql A.w13 0 []
noncomputable def A.b13:=(fun x0=>A.qb A.w13 [x0]) A.lb13_0
def A.k13:=@A.kk 13 14 [.tmp 2] A.b13 (by kernel_rfl) rfl
def Zwl{w:List Nat}{v:V}(hs:Tx h N v l)(hl:l.length<100000):A.C.call (.func 17 [] []) [v] ⟨h,N,w⟩=some (.int .i64 (fnz l 0 l.length),⟨h,N,w⟩):=by
 apply Call.eq
 have lg:=Tx.len hs
 rw[Zab,A.k17 (by simp)]
 simp[A.b17,lg]
 refine Zai [(3,16)] (fun e r st=>st=⟨h,N,[]⟩∧e=.exit 0∧r.get 3=some (.int .i64 (fnz l 0 l.length))) (fun m r st=>st=⟨h,N,[]⟩∧∃k,k+m=l.length∧r.get 3=some (.int .i64 k)∧fnz l 0 l.length=fnz l k m) l.length ?_ ?_ ?_
 ·exact⟨rfl,0,by omega,by simp,rfl⟩
 ·rintro m r _ hr hf ⟨rfl,k,hk,h3,hz⟩
  rw[Zah]
  cases m with
  |zero=>
   obtain rfl:k=l.length:=by omega
   have hz1:fnz l l.length 0=l.length:=rfl
   rw[hz1]at hz
   simp[A.lb17_0,hr,hf,h3,lg]
   exact hz.symm
  |succ m=>
   have hlt:k<l.length:=by omega
   have hk1:(k:Int)<(l.length:Int):=by omega
   obtain⟨q,hc⟩:=Zae hlt
   obtain⟨i,o,cc,e,rw,q1,q2,q3,q4⟩:=hs.at (Zhj hc)
   have hzq:=fun st=>Yd2 (q:=q) (st:=st)
   have hz2:fnz l k (m+1)=if q≠0 then k else fnz l (k+1) m:=by
    show (if l[k]?.getD 0≠0 then k else fnz l (k+1) m)=_
    rw[hc]
    rfl
   rw[hz2]at hz
   by_cases c4:q=0
   ·rw[Yv4 (by simpa using c4)]at hz
    simp only[decide_eq_true c4]at hzq
    simp(disch:=first|(simp;done)|omega|rfl) [A.lb17_0,hr,hf,h3,hk1,hlt,lg,q1,q2,q3,q4,hzq]
    exact⟨m,by omega,k+1,by omega,by simp,hz⟩
   ·rw[Yv6 c4]at hz
    simp only[decide_eq_false c4]at hzq
    simp[A.lb17_0,hr,hf,h3,hk1,hlt,lg,q1,q2,q3,q4,hzq,hz]
 ·rintro e r _ hr ⟨rfl,rfl,h3⟩
  simp[hr,h3]
def Yts{l:List V}:(l.map fun y=>[y]).flatten=l:=by
 induction l with
 |nil=>rfl
 |cons a t ih=>simp[ih]
structure RwS (h:T O) (N R:Nat) (l:List Rat):Prop where
 lt:R<N
 get:h.get R=some (.cells (tx l) 37 true)
def RwS.put{R j:Nat}{q:Rat}(s:RwS h N R l)(hj:j<l.length):splice (tx l) j [.str (Zax q)]=tx (l.set j q)∧RwS (h.set R (.cells (tx (l.set j q)) 37 true)) N R (l.set j q):=by
 refine⟨?_,s.lt,by rw[T.get_set,Yv6 rfl]⟩
 rw[Ze6 (by rw[Zhc];exact hj)]
 simp[tx,strs,List.map_set]
def RwS.txt{R:Nat}(s:RwS h N R l):TxT h N (.slice R 0 l.length none 1) l:=⟨Sl.row s.lt s.get (Zhc l) (fun k hk=>by cases hk),fun i hi=>by
 simp[Zel]at hi
 subst hi
 exact⟨_,_,s.get⟩⟩
def Ybv{n:Nat}(h0:0<n)(hn:n<1000):Fn A.C 13 [.int .i64 n] h N (fun x h' n'=>∃R,x=.slice R 0 n none 1∧N≤R∧RwS h' n' R ((List.range n).map fun _=>0)):=by
 intro w
 rw[Zab,A.k13 (by simp)]
 simp[A.b13]
 refine Zai [(3,12)] (fun e r st=>e=.exit 0∧Zaa N st.w=[]∧Keeps h N st.h st.n∧∃v,r.get 3=some v∧Own 1 37 N st.h st.n v ((tx ((List.range n).map fun _=>0)).map fun y=>[y])) (fun m r st=>Zaa N st.w=[]∧Keeps h N st.h st.n∧∃t v,t+m=n∧r.get 4=some (.int .i64 t)∧r.get 3=some v∧Own 1 37 N st.h st.n v ((tx ((List.range t).map fun _=>0)).map fun y=>[y])) n ?_ ?_ ?_
 ·exact⟨by simp,Keeps.refl,0,_,by omega,by simp,by simp,Own.nil⟩
 ·rintro m r ⟨H,n1,W⟩ hr hf ⟨hW,hK,t,v,ht,h4,h3,hO⟩
  simp only at hW hK hO
  rw[Zah]
  have le:=hK.le
  cases m with
  |zero=>
   obtain rfl:t=n:=by omega
   simp[A.lb13_0,hr,hf,h3,h4,hW,hK]
   exact hO
  |succ m=>
   have hlt:t<n:=by omega
   have hlt':(t:Int)<(n:Int):=by omega
   have sp1:splice [V.str []] 0 [.str [48]]=[.str [48]]:=rfl
   have kD:Keeps H n1 (H.set n1 (.cells [.str [48]] 37 true)) (n1+1):=Keeps.refl.new _
   obtain⟨v',h',w',j1,j2,j3,_,j5⟩:=Zbs (x:=[.str [48]]) (u:=.slice n1 0 1 (some 1) 1) (bytes:=16) (w:=W) (hO.keep kD) (by omega) (by decide) rfl (by simp[Zaz,St.row,slc]) (by simp[tx,strs];omega)
   have kF:Keeps h N h' (n1+1+1):=(hK.trans kD).then j3
   simp(disch:=first|(simp;done)|omega|rfl) [A.lb13_0,hr,hf,h3,h4,hlt,hlt',sp1,Zcw,j1,j2,hW,kF]
   refine⟨m,by omega,t+1,by omega,by simp,?_⟩
   have e:(tx ((List.range (t+1)).map fun _=>(0:Rat))).map (fun y=>[y])=(tx ((List.range t).map fun _=>(0:Rat))).map (fun y=>[y])++[[.str [48]]]:=by
    rw[List.range_succ,List.map_append]
    simp[tx,strs]
    rfl
   rw[e]
   exact j5
 ·rintro _ r ⟨H,n1,W⟩ hr ⟨rfl,hW,hK,v,h3,hO⟩
  simp only at hW hK hO
  obtain⟨hl,⟨hz,_⟩|⟨R,rfl,h1,h2,h3'⟩⟩:=hO
  ·have:=congrArg List.length hz
   simp[tx,strs]at this
   omega
  ·simp[hr,h3,Ret,hW,hK]
   refine⟨R,⟨rfl,by rw[Zhc];simp⟩,h1,h2,?_⟩
   rw[h3',Yts]
set_option maxHeartbeats 4000000
variable {m:List (List Str)}
set_option maxHeartbeats 1000000
noncomputable def A.b7:=A.q Tryz.f7
def A.k7:=@A.kk 7 16 [.tmp 2,.tmp 3] A.b7 (by kernel_rfl) rfl
noncomputable def A.b8:=A.q Tryz.f8
def A.k8:=@A.kk 8 22 [.tmp 2,.tmp 3] A.b8 (by kernel_rfl) rfl
noncomputable def A.b18:=A.q Tryz.f18
def A.k18:=@A.kk 18 35 [.tmp 4] A.b18 (by kernel_rfl) rfl
def kbQ(m:List (List Str)):List (List Rat):=Zll (Zdq m) (hdL m)
def cbQ(m:List (List Str)):List (List Rat):=Zea (Zdq m) (hdL m)
def OkM.le6{n:Nat}(h:OkM m n):(Zdq m).length≤6:=by rw[Zmg];exact h.le
def Yoz{n:Nat}(h:OkM m n):(cbQ m).length≤6:=by
 unfold cbQ Zea
 rw[Ywm,Zee,Zmg]
 have:=h.le
 omega
def Ydv(h:OkM m (hdL m)):(kbQ m).length≤6:=by
 have h1:=Zlk h.qb.1
 have h2:=h.n6
 unfold kbQ Zll Zea
 rw[Ywm,Zee]
 omega
def Yjg{h:T O}{N:Nat}{u:V}(hm:MtS h N u m)(hP:P10 h N)(sm:Zcq 6 6 m=true):Fn A.C 7 [u] h N (fun x h' n'=>∃v c,x=.tup [v,.int .i64 c]∧TPM (Zg9 m 64 16) (kbQ m) v c h' n'):=by
 intro w
 obtain⟨m1,m2⟩:=Ze9 sm
 rw[Zab,A.k7 (by simp)]
 simp[A.b7]
 refine Zac (Zmi hm m1 m2) ?_
 rintro _ H1 n1 k1 rfl
 by_cases hE:Zg9 m 64 16=0
 ·have hM:=Zmp hE sm
  obtain⟨l1,l2,l3,l4,l5⟩:=hM.lens
  simp[hE,Zad]
  refine Zac (Zie (k0:=100) ((hm.keep k1).rat fun r hr=>(hM.row r hr).2) (by omega) l5 (by decide)) ?_
  rintro v H2 n2 k2 hv
  simp[]
  refine Zac (Zst hv hM.qb.1 hM.le6 l2 hM.n6 hM.qb.2) ?_
  rintro y H3 n3 k3 hy
  have hn6:=hM.n6
  have hkl:=Ydv hM
  simp[]
  refine Zac (Zwk hy (((hP.keep k1).keep k2).keep k3) (by show (kbQ m).length<_;omega) (fun r hr=>by rw[Zja r hr];omega) (Ydu hM.qb.1 hM.n6 hM.qb.2) (Yv5 _)) ?_
  rintro _ H4 n4 k4 (⟨hb,rfl⟩|⟨hb,x,rfl,tx⟩)
  ·simp[Ret]
   exact⟨((k1.trans k2).trans k3).trans k4,.nilslice,4,⟨rfl,rfl⟩,.inr ⟨rfl,.inl ⟨hb,rfl,rfl⟩⟩⟩
  ·simp[Ret]
   exact⟨((k1.trans k2).trans k3).trans k4,x,0,⟨rfl,rfl⟩,.inr ⟨rfl,.inr ⟨hb,rfl,tx⟩⟩⟩
 ·simp[hE,Zad,Ret]
  exact⟨k1,.nilslice,_,⟨rfl,rfl⟩,.inl ⟨hE,rfl,rfl⟩⟩
def Zrd{h:T O}{N:Nat}{u:V}(hm:MtS h N u m)(hP:P10 h N)(sm:Zcq 6 6 m=true):Fn A.C 8 [u] h N (fun x h' n'=>∃v c,x=.tup [v,.int .i64 c]∧TPM (Zg9 m 64 16) (cbQ m) v c h' n'):=by
 intro w
 obtain⟨m1,m2⟩:=Ze9 sm
 rw[Zab,A.k8 (by simp)]
 simp[A.b8]
 refine Zac (Zmi hm m1 m2) ?_
 rintro _ H1 n1 k1 rfl
 by_cases hE:Zg9 m 64 16=0
 ·have hM:=Zmp hE sm
  obtain⟨l1,l2,l3,l4,l5⟩:=hM.lens
  simp[hE,Zad]
  refine Zac (Zie (k0:=100) ((hm.keep k1).rat fun r hr=>(hM.row r hr).2) (by omega) l5 (by decide)) ?_
  rintro v H2 n2 k2 hv
  simp[]
  refine Zac (Zil (B:=kB 96) hv hM.qb.1 l1 l2 l3 (fun _=>Zkk (by decide)) (fun _=>Zp0 hM.qb.2 (by decide)) l4) ?_
  rintro _ H3 n3 k3 ⟨y,b,rfl,hy,_⟩
  have hn6:=hM.n6
  have hkl:=Yoz hM
  simp[]
  refine Zac (Zwk hy (((hP.keep k1).keep k2).keep k3) (by show (cbQ m).length<_;omega) (fun r hr=>by rw[Znc hM.qb.1 r hr];omega) (Ycc hM.le6 hM.qb.1 hM.qb.2) (Yv5 _)) ?_
  rintro _ H4 n4 k4 (⟨hb,rfl⟩|⟨hb,x,rfl,tx⟩)
  ·simp[Ret]
   exact⟨((k1.trans k2).trans k3).trans k4,.nilslice,4,⟨rfl,rfl⟩,.inr ⟨rfl,.inl ⟨hb,rfl,rfl⟩⟩⟩
  ·simp[Ret]
   exact⟨((k1.trans k2).trans k3).trans k4,x,0,⟨rfl,rfl⟩,.inr ⟨rfl,.inr ⟨hb,rfl,tx⟩⟩⟩
 ·simp[hE,Zad,Ret]
  exact⟨k1,.nilslice,_,⟨rfl,rfl⟩,.inl ⟨hE,rfl,rfl⟩⟩
end Go.Mx
