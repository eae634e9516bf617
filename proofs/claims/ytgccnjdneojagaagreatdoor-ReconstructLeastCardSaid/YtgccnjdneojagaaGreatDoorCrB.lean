/-The numbers of an elimination are quotie-/
import Derived.Test.YtgccnjdneojagaaGreatDoorLnC
set_option linter.all false
set_option maxHeartbeats 4000000
namespace Go.Mx
noncomputable section
open Go Go.Proofs
variable {Bs m:List (List Rat)} {R d n:Nat} {b k s v x y:Rat}
set_option maxRecDepth 1000000
def Ar(m:List (List Rat))(c R:Nat):Prop:=∀i,i<m.length->∃s:Rat,s≠0/\df R s/\∀l,l<c->df R (s*al m i l)
def df.qb{b:Nat}{q D:Rat}(h0:D≠0)(hD:df b D)(hq:df b (D*q)):Qb b q:=by
 obtain⟨x,rfl,hx⟩:=hD;obtain⟨y,h1,hy⟩:=hq;have jK:x≠0:=fun h=>h0 (by rw[h];rfl);have e:q=Rat.divInt y x:=by rw[Rat.divInt_eq_div,<-h1,Rat.div_def];have:=Rat.mul_inv_cancel (x:Rat) h0;grind
 rw[e];exact YP jK hy hx
def Ia{K:Nat}:∀{r:List Rat},(∀q∈r,Qb K q)->∃s:Rat,s≠0/\df (r.length*K+1) s/\∀q∈r,df (r.length*K+1) (s*q)
 |[],_=>⟨1,by decide,⟨1,rfl,by rw[List.length_nil,Nat.zero_mul];decide⟩,fun q hq=>by simp at hq⟩
 |p::t,h=>by
  obtain⟨s,h1,h2,h3⟩:=Ia (r:=t) fun q hq=>h q (ri _ hq)
  have hp:=h p rI
  have hd:df K ((p.den:Int):Rat):=⟨_,rfl,by rw[ed];exact hp.2⟩
  have hn:df K ((p.num:Int):Rat):=⟨_,rfl,hp.1⟩
  have qN:((p.den:Int):Rat)≠0:=fun hc=>p.den_nz (by have:=Rat.intCast_inj.1 (hc.trans (by rfl:(0:Rat)=((0:Int):Rat)));omega)
  have e:((p.den:Int):Rat)*p=(p.num:Rat):=by
   have h1:=D8 p
   rw[Rat.divInt_eq_div,Rat.div_def]at h1
   have h2:=Rat.mul_inv_cancel _ qN
   conv=>lhs;arg 2;rw[<-h1]
   generalize ((p.den:Int):Rat)=x at*
   grind
  have ek:(t.length+1)*K+1=t.length*K+1+K:=by grind
  refine⟨s*((p.den:Int):Rat),fun hc=>?_,?_,fun q hq=>?_⟩
  ·rcases Rat.mul_eq_zero.1 hc with h|h
   ·exact h1 h
   ·exact qN h
  ·rw[bl,ek]
   exact h2.mul hd
  ·rw[bl,ek]
   rcases ky.1 hq with rfl|hq
   ·have:=h2.mul hn
    rw[<-e]at this
    rw[Rat.mul_assoc]
    exact this
   ·have:=(h3 q hq).mul hd
    rw[show s*((p.den:Int):Rat)*q=s*q*((p.den:Int):Rat) by grind]
    exact this
def df.zero{b:Nat}:df b 0:=⟨0,rfl,by rw[Int.natAbs_zero];exact s_ b⟩
def Zip{c K:Nat}(h:bH m K)(hc:aU m c):Ar m c (c*K+1):=fun i hi=>by
 obtain⟨s,h1,h2,h3⟩:=Ia (h.at (i:=i))
 rw[hc.at hi]at h2 h3
 refine⟨s,h1,h2,fun l hl=>?_⟩
 unfold al
 rw[ct (by rw[hc.at hi];exact hl)]
 exact h3 _ (List.getElem_mem _)
structure CP (Bs M:List (List Rat)) (s:Nat->Rat) (d:Nat) (ps:List Nat) (c R:Nat):Prop where
 len:Bs.length=M.length
 int:∀i l,i<M.length->l<c->df R (al Bs i l)
 sc:∀i,i<M.length->s i≠0/\df R (s i)
 low:∀i l,d<=i->i<M.length->l<c->s i*al M i l=al Bs i l-sN (fun j=>al Bs i (ps[j]?.getD 0)*al M j l) d
 top:∃T:Nat->Nat->Rat,∀j l,j<d->l<c->al M j l=sN (fun t=>T j t*al Bs t l) d
 ne:dc d (fun t u=>al Bs t (ps[u]?.getD 0))≠0
def Yu3{c:Nat}(h:Ar m c R)(hc:aU m c):∃Bs s,CP Bs m s 0 [] c R:=by
 have hex:∀i,∃s:Rat,i<m.length->s≠0/\df R s/\∀l,l<c->df R (s*al m i l):=fun i=>by
  by_cases hi:i<m.length
  ·obtain⟨s,hs⟩:=h i hi;exact⟨s,fun _=>hs⟩
  exact⟨0,fun hc=>absurd hc hi⟩
 obtain⟨s,hs⟩:=Classical.axiomOfChoice hex;have vc:∀i l,i<m.length->l<c->al ((List.range m.length).map fun i=>(m[i]?.getD []).map fun q=>s i*q) i l=s i*al m i l:=fun i l hi hl=>by have hlen:=hc.at hi;unfold al;rw[eH,wY hi];simp only[qO,il,eH];rw[ct (by omega)];rfl
 refine⟨(List.range m.length).map fun i=>(m[i]?.getD []).map fun q=>s i*q,s,(di _).trans List.length_range,fun i l hi hl=>?_,fun i hi=>⟨(hs i hi).1,(hs i hi).2.1⟩,fun i l _ hi hl=>?_,⟨fun _ _=>0,fun j _ hj=>absurd hj (Nat.not_lt_zero j)⟩,fun hc=>absurd (show (1:Rat)=0 from hc) (by decide)⟩
 ·rw[vc i l hi hl];exact(hs i hi).2.2 l hl
 rw[vc i l hi hl];show _=_-(0:Rat);grind
def al1:b=b-s+s:=by grind
def al2{p m:Rat}(h:b=p*m+s):k*p*m= -k*s+k*b:=by grind
def al3{c e f:Rat}(h1:s*x=b-e)(h2:s*y=c-f):s*(x-y*v)=b-(e+ -v*f+c*v):=by grind
def al4:b*(x-y*v)=b*x+ -v*(b*y):=by grind
def al5{t:Rat}:(t-y*x)*b=t*b+ -y*(x*b):=by grind
def al6{u:Rat}(h:v=u+k*b):s-y*v=s+ -y*u+(0-y*k)*b:=by grind
def al7{a i m:Rat}(h1:s*a*k=1)(h2:a*i=1):m*i=k*s*m:=by
 have:m*i=m*i*(s*a*k):=by rw[h1,Rat.mul_one]
 rw[this,show m*i*(s*a*k)=k*s*m*(a*i) by grind,h2,Rat.mul_one]
def CP.step{s:Nat->Rat}{S:List (List Rat)×Nat×List Nat}{c:Nat}(h:CP Bs S.1 s S.2.1 S.2.2 c R)(I:zJ S.1 S.2.1 S.2.2 n)(hc:aU S.1 c)(hn:n<c):∃YQ s',CP YQ (iF S n).1 s' (iF S n).2.1 (iF S n).2.2 c R:=by
 obtain⟨M,d,ps⟩:=S;simp only at h I hc;unfold iF;simp only;have hle:=@FV M n (M.length-d) d;have kK:=I.le;split
 ·rename_i hp;have ew:d<M.length:=by unfold fh at hp;omega
  have Np:d<=fh M d n:=hle.1;have aZ:al M (fh M d n) n≠0:=@HU M n (M.length-d) d (by unfold fh at hp;omega);generalize fh M d n=p at*;have jX:=(hc.D4 ew hp).K6 (d:=d) (k:=n) (by rw[qJ];exact ew);have hlen:(de (gJ (cA M d p) d n) d n M.length).length=M.length:=by rw[CL,CM,qJ]
  have jq:(gJ (cA M d p) d n).length=M.length:=by rw[CM,qJ]
  have hb:∀i j,al (cA M d p) i j=if i=d then al M p j else if i=p then al M d j else al M i j:=fun i j=>Ib ew hp
  have hs:∀i j,al (gJ (cA M d p) d n) i j=if i=d then al M p j/al M p n else al (cA M d p) i j:=fun i j=>by rw[SR (by rw[qJ];exact ew),hb d j,hb d n,av rfl,av rfl]
  have he:∀i j,i<M.length->al (de (gJ (cA M d p) d n) d n M.length) i j=if i=d then al M p j/al M p n else al (cA M d p) i j-al (cA M d p) i n*(al M p j/al M p n):=fun i j hi=>by have:=SS (m:=gJ (cA M d p) d n) (k:=n) (j:=j) jX (i:=i) (d:=d) (by rw[jq];exact hi) (by rw[jq];exact ew);rw[jq]at this;rw[this,hs i j,hs i n,hs d j,av rfl];split<;>rfl
  have Ic:∀i j,al (cA Bs d p) i j=if i=d then al Bs p j else if i=p then al Bs d j else al Bs i j:=fun i j=>Ib (by rw[h.len];exact ew) (by rw[h.len];exact hp)
  show ∃YQ s',CP YQ (de (gJ (cA M d p) d n) d n M.length) s' (d+1) (ps++[n]) c R;generalize de (gJ (cA M d p) d n) d n M.length=M' at*;obtain⟨T,hT⟩:=h.top;have ho:∀i,i<d->(ps++[n])[i]?.getD 0=ps[i]?.getD 0:=fun i hi=>by rw[mH (by have:=I.len;omega)]
  have uJ:(ps++[n])[d]?.getD 0=n:=by rw[qI (by have:=I.len;omega),I.len];simp
  have gZ:=(h.sc p hp).1;obtain⟨x,hx⟩:∃x:Nat->Rat,x=fun l=>al M p l/al M p n:=⟨_,rfl⟩;have kL:∀l,x l=al M p l/al M p n:=fun l=>by rw[hx]
  have hMd:∀l,al M' d l=x l:=fun l=>by rw[he d l ew,av rfl,kL]
  have hMj:∀j l,j<d->al M' j l=al M j l-al M j n*x l:=fun j l hj=>by rw[he j l (by omega),ak (by omega),hb j l,hb j n,ak (by omega),ak (by omega),ak (by omega),ak (by omega),kL]
  have SU:∀t l,t<d->al (cA Bs d p) t l=al Bs t l:=fun t l ht=>by rw[Ic,ak (by omega),ak (by omega)]
  have hBd:∀l,al (cA Bs d p) d l=al Bs p l:=fun l=>by rw[Ic,av rfl]
  have iD:∀j,j<d->ps[j]?.getD 0<c:=fun j hj=>by have:=I.lt j hj;omega
  obtain⟨Z,hZ⟩:∃Z:Nat->Rat,Z=fun t=>sN (fun j=>al Bs p (ps[j]?.getD 0)*T j t) d:=⟨_,rfl⟩;have wZ:∀l,l<c->sN (fun j=>al Bs p (ps[j]?.getD 0)*al M j l) d=sN (fun t=>Z t*al Bs t l) d:=fun l hl=>by rw[bq (g:=fun j=>sN (fun t=>al Bs p (ps[j]?.getD 0)*T j t*al Bs t l) d) fun j hj=>by rw[hT j l hj hl,<-gm];exact bq fun t _=>(Rat.mul_assoc _ _ _).symm,A6];apply bq;intro t _;rw[hZ,Rat.mul_comm,<-gm];exact bq fun j _=>Rat.mul_comm _ _
  have aA:∀l,l<c->al Bs p l=s p*al M p l+sN (fun t=>Z t*al Bs t l) d:=fun l hl=>by rw[<-wZ l hl,h.low p l Np hp hl];exact al1
  have e1:s p*al M p n≠0:=fun hc=>by
   rcases Rat.mul_eq_zero.1 hc with h|h
   ·exact gZ h
   exact aZ h
  obtain⟨κ,hκ⟩:∃κ:Rat,s p*al M p n*κ=1:=⟨_,Rat.mul_inv_cancel _ e1⟩;have zL:∀l,x l=κ*s p*al M p l:=fun l=>by rw[kL,Rat.div_def];exact al7 hκ (Rat.mul_inv_cancel _ aZ)
  have rM:∀l,l<c->x l=sN (fun t=>(if t=d then κ else -κ*Z t)*al (cA Bs d p) t l) (d+1):=fun l hl=>by show _=sN (fun t=>(if t=d then κ else -κ*Z t)*al (cA Bs d p) t l) d+(if d=d then κ else -κ*Z d)*al (cA Bs d p) d l;rw[av rfl,hBd,bq (g:=fun t=> -κ*(Z t*al Bs t l)) fun t ht=>by rw[ak (by omega),SU t l ht,Rat.mul_assoc],gm,zL];exact al2 (aA l hl)
  refine⟨cA Bs d p,fun i=>if i=d then s p else if i=p then s d else s i,by rw[qJ,hlen,h.len],fun i l hi hl=>?_,fun i hi=>?_,fun i l h1 h2 hl=>?_,⟨fun j t=>if j=d then (if t=d then κ else -κ*Z t) else (if t=d then 0 else T j t)-al M j n*(if t=d then κ else -κ*Z t),fun j l hj hl=>?_⟩,?_⟩
  ·rw[hlen]at hi;rw[Ic];split
   ·exact h.int p l hp hl
   split
   ·exact h.int d l ew hl
   exact h.int i l hi hl
  ·rw[hlen]at hi;split
   ·exact h.sc p hp
   split
   ·exact h.sc d ew
   exact h.sc i hi
  ·rw[hlen]at h2;have D5:∀l,l<c->(if i=d then s p else if i=p then s d else s i)*al (cA M d p) i l=al (cA Bs d p) i l-sN (fun j=>al (cA Bs d p) i (ps[j]?.getD 0)*al M j l) d:=fun l hl=>by
    by_cases e:i=p
    ·have K8:∀l,al (cA Bs d p) i l=al Bs d l:=fun l=>by rw[Ic,ak (by omega),av e]
     rw[ak (by omega),av e,hb,ak (by omega),av e,K8,bq (g:=fun j=>al Bs d (ps[j]?.getD 0)*al M j l) fun j _=>by rw[K8]];exact h.low d l (aM _) ew hl
    have K8:∀l,al (cA Bs d p) i l=al Bs i l:=fun l=>by rw[Ic,ak (by omega),ak e]
    rw[ak (by omega),ak e,hb,ak (by omega),ak e,K8,bq (g:=fun j=>al Bs i (ps[j]?.getD 0)*al M j l) fun j _=>by rw[K8]];exact h.low i l (by omega) h2 hl
   have hM:al M' i l=al (cA M d p) i l-al (cA M d p) i n*x l:=by rw[he i l h2,ak (show ¬i=d by omega),<-kL l]
   rw[hM];show (if i=d then s p else if i=p then s d else s i)*_=_-(sN (fun j=>al (cA Bs d p) i ((ps++[n])[j]?.getD 0)*al M' j l) d+al (cA Bs d p) i ((ps++[n])[d]?.getD 0)*al M' d l);rw[uJ,hMd,bq (g:=fun j=>al (cA Bs d p) i (ps[j]?.getD 0)*al M j l+ -x l*(al (cA Bs d p) i (ps[j]?.getD 0)*al M j n)) fun j hj=>by rw[ho j hj,hMj j l hj];exact al4,w_,gm];exact al3 (D5 l hl) (D5 n hn)
  ·have hX:=rM l hl;by_cases e:j=d
   ·subst e;rw[hMd,hX];exact bq fun t _=>by show _=(if j=j then (if t=j then κ else -κ*Z t) else (if t=j then 0 else T j t)-al M j n*(if t=j then κ else -κ*Z t))*al (cA Bs j p) t l;rw[av rfl]
   have hX:x l=sN (fun t=>(if t=d then κ else -κ*Z t)*al (cA Bs d p) t l) d+(if d=d then κ else -κ*Z d)*al (cA Bs d p) d l:=hX;rw[av rfl]at hX;rw[hMj j l (by omega),hT j l (by omega) hl];show _=sN (fun t=>(if j=d then (if t=d then κ else -κ*Z t) else (if t=d then 0 else T j t)-al M j n*(if t=d then κ else -κ*Z t))*al (cA Bs d p) t l) d+(if j=d then (if d=d then κ else -κ*Z d) else (if d=d then 0 else T j d)-al M j n*(if d=d then κ else -κ*Z d))*al (cA Bs d p) d l;rw[ak e,av rfl,av rfl,bq (f:=fun t=>(if j=d then (if t=d then κ else -κ*Z t) else (if t=d then 0 else T j t)-al M j n*(if t=d then κ else -κ*Z t))*al (cA Bs d p) t l) (g:=fun t=>T j t*al Bs t l+ -al M j n*((if t=d then κ else -κ*Z t)*al (cA Bs d p) t l)) fun t ht=>by rw[ak e,ak (show ¬t=d by omega),ak (show ¬t=d by omega),SU t l ht];exact al5,w_,gm];exact al6 hX
  have e1:dc (d+1) (fun t u=>al (cA Bs d p) t ((ps++[n])[u]?.getD 0))=dc (d+1) (bo (fun t u=>al (cA Bs d p) t ((ps++[n])[u]?.getD 0)) d fun u=>s p*al M p ((ps++[n])[u]?.getD 0)+sN (fun t=>Z t*al (cA Bs d p) t ((ps++[n])[u]?.getD 0)) d):=zM fun r u hr hu=>by
   unfold bo;split
   ·rename_i e;subst e;have CQ:(ps++[n])[u]?.getD 0<c:=by
     by_cases e:u<r
     ·rw[ho u e];exact iD u e
     rw[show u=r by omega,uJ];exact hn
    simp only;rw[hBd,aA _ CQ];congr 1;exact bq fun t ht=>by rw[SU t _ ht]
   rfl
  rw[e1,SV (by omega),YR (w:=fun t u=>al (cA Bs d p) t ((ps++[n])[u]?.getD 0)) (by omega),pJ (f:=fun t=>_) fun t ht=>by have:=Yjm (n:=d+1) (A:=fun t u=>al (cA Bs d p) t ((ps++[n])[u]?.getD 0)) (i:=t) (j:=d) (by omega) (by omega);rw[this,ak (by omega),Rat.mul_zero],Rat.add_zero,Ybm (π:=s p*al M p n) (fun u hu=>?_) ?_]
  ·intro hc;rcases Rat.mul_eq_zero.1 hc with h1|h1
   ·rcases Rat.mul_eq_zero.1 h1 with h|h
    ·exact gZ h
    exact aZ h
   apply h.ne;rw[<-h1];exact zM fun r u hr hu=>by unfold bo;rw[ak (by omega)];show _=al (cA Bs d p) r ((ps++[n])[u]?.getD 0);rw[SU r _ hr,ho u hu]
  ·unfold bo;rw[av rfl];show s p*al M p ((ps++[n])[d]?.getD 0)=_;rw[uJ]
  unfold bo;rw[av rfl];show s p*al M p ((ps++[n])[u]?.getD 0)=0;rw[ho u hu,I.rest p _ Np hp (I.lt u hu),Rat.mul_zero]
 exact⟨Bs,s,h⟩
def Nr{m:List (List Rat)}{c R:Nat}(h:Ar m c R)(hc:aU m c):∀{n:Nat},n<=c->∃Bs s,CP Bs (aD m n).1 s (aD m n).2.1 (aD m n).2.2 c R
 |0,_=>Yu3 h hc
 |n+1,hn=>by
  obtain⟨Bs,s,hC⟩:=Nr h hc (n:=n) (by omega)
  rw[wV]
  exact hC.step (mU hc) (pH hc).1 (by omega)
def CP.done{M:List (List Rat)}{s:Nat->Rat}{c:Nat}{ps:List Nat}(h:CP Bs M s d ps c R)(I:zJ M d ps n)(hn:n<=c)(hR:1<=R):df (d*(R+d+1)+1) (dc d fun t u=>al Bs t (ps[u]?.getD 0))/\∀j l,j<d->l<c->df ((d+1)*(R+d+1)) ((dc d fun t u=>al Bs t (ps[u]?.getD 0))*al M j l):=by
 have hle:=I.le;have iD:∀j,j<d->ps[j]?.getD 0<c:=fun j hj=>by have:=I.lt j hj;omega
 have hI:∀r u,r<d->u<d->df R (al Bs r (ps[u]?.getD 0)):=fun r u hr hu=>h.int r _ (by omega) (iD u hu);refine⟨YT hI,fun j l hj hl=>?_⟩;obtain⟨T,hT⟩:=h.top;have YU:∀t q,t<d->q<d->sN (fun u=>al Bs t (ps[u]?.getD 0)*dc d (bo (fun t u=>al Bs t (ps[u]?.getD 0)) q (CR u))) d=if t=q then dc d (fun t u=>al Bs t (ps[u]?.getD 0)) else 0:=fun t q ht hq=>by rw[<-Yjm ht hq];exact(Yob hq).symm
 have hTd:∀q,q<d->dc d (bo (fun t u=>al Bs t (ps[u]?.getD 0)) q (CR j))=T j q*dc d (fun t u=>al Bs t (ps[u]?.getD 0)):=fun q hq=>by
  have e1:dc d (bo (fun t u=>al Bs t (ps[u]?.getD 0)) q (CR j))=sN (fun u=>al M j (ps[u]?.getD 0)*dc d (bo (fun t u=>al Bs t (ps[u]?.getD 0)) q (CR u))) d:=by rw[ve (i:=j) hj fun u hu aZ=>by rw[I.one u j hu (by omega),ak (Ne.symm aZ),Rat.zero_mul],I.one j j hj (by omega),av rfl,Rat.one_mul]
  rw[e1,bq (g:=fun u=>sN (fun t=>T j t*(al Bs t (ps[u]?.getD 0)*dc d (bo (fun t u=>al Bs t (ps[u]?.getD 0)) q (CR u)))) d) fun u hu=>by rw[hT j _ hj (iD u hu),Rat.mul_comm,<-gm];exact bq fun t _=>by grind,A6,bq (g:=fun t=>T j t*if t=q then dc d (fun t u=>al Bs t (ps[u]?.getD 0)) else 0) fun t ht=>by rw[gm,YU t q ht hq],ve (i:=q) hq fun t _ aZ=>by rw[ak aZ,Rat.mul_zero],av rfl]
 rw[hT j l hj hl,<-gm];have:=df.A7 (m:=d) (b:=d*(R+d+1)+1+R) (n:=d) (f:=fun t=>dc d (fun t u=>al Bs t (ps[u]?.getD 0))*(T j t*al Bs t l)) (fun t ht=>by
  rw[show dc d (fun t u=>al Bs t (ps[u]?.getD 0))*(T j t*al Bs t l)=T j t*dc d (fun t u=>al Bs t (ps[u]?.getD 0))*al Bs t l by grind,<-hTd t ht]
  refine(YT fun r u hr hu=>?_).mul (h.int t l (by omega) hl)
  unfold bo
  split
  ·unfold CR
   split
   ·exact⟨1,rfl,fg (by decide:Int.natAbs 1<2^1) (rO (by decide) hR)⟩
   ·exact df.zero
  ·exact hI r u hr hu) Nat.lt_two_pow_self;refine this.mono ?_;have:(d+1)*(R+d+1)=d*(R+d+1)+(R+d+1):=by grind
 omega
def df.sub{b:Nat}{p q:Rat}(hp:df b p)(hq:df b q):df (b+1) (p-q):=by obtain⟨x,rfl,hx⟩:=hp;obtain⟨y,rfl,hy⟩:=hq;refine⟨x-y,by rw[Rat.intCast_sub],?_⟩;rw[im];omega
def kW(R d:Nat):Nat:=(d+2)*(R+d+1)
def CP.qb{M:List (List Rat)}{s:Nat->Rat}{c:Nat}{ps:List Nat}(h:CP Bs M s d ps c R)(I:zJ M d ps n)(hc:aU M c)(hn:n<=c)(hR:1<=R):bH M (kW R d):=fun r hr q hq=>by
 obtain⟨h1,h2⟩:=h.done I hn hR
 have hB:kW R d=d*(R+d+1)+2*R+2*d+2:=by unfold kW;grind
 have hW:(d+1)*(R+d+1)=d*(R+d+1)+(R+d+1):=by grind
 obtain⟨i,hi⟩:=pK hr
 obtain⟨l,hl⟩:=pK hq
 have yH:=gI hi
 have jL:l<c:=by have:=gI hl;rw[hc r hr]at this;exact this
 have vc:al M i l=q:=by unfold al;rw[hi,il,hl];rfl
 by_cases e:i<d
 ·have:=h2 i l e jL
  rw[vc]at this
  exact df.qb h.ne (h1.mono (by omega)) (this.mono (by omega))
 ·have Ie:=h.low i l (by omega) yH jL
  have hs:=h.sc i yH
  have iD:∀j,j<d->ps[j]?.getD 0<c:=fun j hj=>by have:=I.lt j hj;omega
  rw[vc]at Ie
  refine df.qb (D:=s i*dc d fun t u=>al Bs t (ps[u]?.getD 0)) (fun hc=>?_) ((hs.2.mul h1).mono (by omega)) ?_
  ·rcases Rat.mul_eq_zero.1 hc with h'|h'
   ·exact hs.1 h'
   ·exact h.ne h'
  ·have e1:(s i*dc d fun t u=>al Bs t (ps[u]?.getD 0))*q=al Bs i l*(dc d fun t u=>al Bs t (ps[u]?.getD 0))-sN (fun j=>al Bs i (ps[j]?.getD 0)*((dc d fun t u=>al Bs t (ps[u]?.getD 0))*al M j l)) d:=by
    rw[bq (g:=fun j=>(dc d fun t u=>al Bs t (ps[u]?.getD 0))*(al Bs i (ps[j]?.getD 0)*al M j l)) fun j _=>by grind,gm]
    grind
   rw[e1]
   have a1:=((h.int i l yH jL).mul h1).mono (b:=R+(d+1)*(R+d+1)+d) (by omega)
   have a2:=df.A7 (m:=d) (b:=R+(d+1)*(R+d+1)) (n:=d) (f:=fun j=>al Bs i (ps[j]?.getD 0)*((dc d fun t u=>al Bs t (ps[u]?.getD 0))*al M j l)) (fun j hj=>(h.int i _ yH (iD j hj)).mul (h2 j l hj jL)) Nat.lt_two_pow_self
   exact(a1.sub a2).mono (by omega)
def Zqk{m:List (List Rat)}{c:Nat}(hc:aU m c):∀{e:Nat},aD m (c+e)=aD m c
 |0=>rfl
 |e+1=>by
  rw[<-qP,wV,Zqk hc]
  obtain⟨M,hM⟩:∃M,M=aD m c:=⟨_,rfl⟩
  have hr:=(pH hc (n:=c)).1
  rw[<-hM]at hr ⊢
  have hz:∀i,al M.1 i (c+e)=0:=fun i=>by
   unfold al
   by_cases hi:i<M.1.length
   ·have h3:=hr.at hi
    rw[fy (l:=M.1[i]?.getD []) (by omega)];rfl
   ·have h3:M.1[i]?=none:=fy (by omega)
    rw[h3];rfl
  unfold iF
  rw[ak]
  intro hp
  have hle:=@FV M.1 (c+e) (M.1.length-M.2.1) M.2.1
  exact(@HU M.1 (c+e) (M.1.length-M.2.1) M.2.1 (by unfold fh at hp;omega)) (hz _)
def Ig{c:Nat}(h:Ar m c R)(hc:aU m c)(hR:1<=R)(n:Nat):bH (aD m n).1 (kW R (aD m n).2.1):=by
 by_cases hn:n<=c
 ·obtain⟨Bs,s,hC⟩:=Nr h hc hn;exact hC.qb (mU hc) (pH hc).1 hn hR
 rw[show n=c+(n-c) by omega,Zqk hc];obtain⟨Bs,s,hC⟩:=Nr h hc (aM c);exact hC.qb (mU hc) (pH hc).1 (aM c) hR
def SW{R a b:Nat}(h:a<=b):kW R a<=kW R b:=mI (by omega) (by omega)
def SX:1<=kW R d:=zN (by omega) (by omega)
variable {m:List (List Rat)}
def Yao{m:List (List Rat)}{c:Nat}{v:Nat->Rat}(hc:aU m c)(hv:dS (eE m c) c v):∀j,j<c->v j=sN (fun a=>al (aK m c) a j*v ((aD m c).2.2[a]?.getD 0)) (aD m c).2.1:=fun j hj=>by
 have hl:=nO (n:=c) hc
 obtain⟨y,hy⟩:∃y:Nat->Rat,∀a,y a=v ((aD m c).2.2[a]?.getD 0):=⟨_,fun _=>rfl⟩
 have CS:∀l,l∈(aD m c).2.2->v l-sN (fun a=>al (aK m c) a l*y a) (aD m c).2.1=0:=fun l h=>by
  obtain⟨i,hi,ei,_⟩:=K9 hc h
  rw[ve (i:=i) hi fun a ha aZ=>by rw[<-ei,Ns hc hi ha,ak aZ,Rat.zero_mul],<-ei,Ns hc hi hi,av rfl,hy]
  grind
 rw[show (fun a=>al (aK m c) a j*v ((aD m c).2.2[a]?.getD 0))=fun a=>al (aK m c) a j*y a from funext fun a=>by rw[hy]]
 by_cases hm:j∈(aD m c).2.2
 ·have:=CS j hm
  grind
 ·obtain⟨i,hi⟩:=pK (show j∈iw (aD m c).2.2 c by simp[iw,hj,hm])
  have h1:=hv i (by simpa[eE]using gI hi)
  have h2:sN (fun l=>gp m c j l*v l) c=0:=by
   rw[<-h1]
   exact bq fun l hl=>by rw[La hi hl]
  have hk:=FY hc hj hm
  rw[<-xb hc]at hk
  have h3:sN (fun l=>gp m c j l*sN (fun a=>al (aK m c) a l*y a) (aD m c).2.1) c=0:=by
   rw[FZ (b:=fun _=>0) fun t ht=>hk t (by rw[hl];exact ht)]
   exact pJ fun a _=>Rat.zero_mul _
  have h4:sN (fun l=>gp m c j l*(v l-sN (fun a=>al (aK m c) a l*y a) (aD m c).2.1)) c=0:=by
   rw[bq (g:=fun l=>gp m c j l*v l-gp m c j l*sN (fun a=>al (aK m c) a l*y a) (aD m c).2.1) fun l _=>by grind,CT,h2,h3]
   grind
  rw[ve (i:=j) hj]at h4
  ·unfold gp at h4
   rw[av rfl,Rat.one_mul]at h4
   grind
  ·intro l _ aZ
   by_cases yI:l∈(aD m c).2.2
   ·rw[CS l yI,Rat.mul_zero]
   ·unfold gp
    rw[ak aZ,ak yI,Rat.zero_mul]
def Yr8{c b:Nat}(hc:aU m c)(hb:b<m.length):dS (eE m c) c fun l=>al m b l:=by
 intro a ha;obtain⟨k,hk⟩:=bj (l:=iw (aD m c).2.2 c) (k:=a) (by simpa[eE]using ha);have hm:=cy hk;simp only[iw,List.mem_filter,iL]at hm;have hf:k∉(aD m c).2.2:=by simpa using hm.2
 rw[<-FY hc hm.1 hf b hb];exact bq fun l hl=>by rw[La hk hl,Rat.mul_comm]
def Yga{c b j:Nat}(hc:aU m c)(hb:b<m.length)(hj:j<c):al m b j=sN (fun a=>al (aK m c) a j*al m b ((aD m c).2.2[a]?.getD 0)) (aD m c).2.1:=Yao hc (Yr8 hc hb) j hj
def Ynj{c:Nat}(hc:aU m c):(aD (eE m c) c).2.1=(eE m c).length:=by
 have Ih:aU (eE m c) c:=zO;have hle:=(mU Ih (n:=c)).le;have rP:=F0 hc;rw[yG]at hle;by_cases he:(aD (eE m c) c).2.1=(eE m c).length
 ·exact he
 exfalso;have I:=mU Ih (n:=c);obtain⟨K,hK⟩:∃K,K=eE m c:=⟨_,rfl⟩;have Ii:=fun v=>@Yao m c v hc;rw[<-hK]at Ih hle rP he I Ii;have jr:=Ij (ps:=(aD K c).2.2) (n:=c) (fun i hi=>I.lt i (by rw[<-I.len];exact hi)) (fun i j h1 h2=>I.xc i j h1 (by rw[<-I.len];exact h2));rw[I.len]at jr;have Lb:(iw (aD K c).2.2 c).Nodup:=List.nodup_range.filter _;have hkr:(eE K c).length=(iw (aD K c).2.2 c).length:=by simp[eE]
 have vc:∀b f j,(iw (aD K c).2.2 c)[b]?=some f->j<c->al (eE K c) b j=gp K c f j:=fun b f j h1 h2=>La h1 h2;have pL:∀b f,(iw (aD K c).2.2 c)[b]?=some f->f<c/\f∉(aD K c).2.2:=fun b f h=>by have hm:=cy h;simp only[iw,List.mem_filter,iL]at hm;exact⟨hm.1,by simpa using hm.2⟩
 obtain⟨F,hF⟩:∃F,F=iw (aD K c).2.2 c:=⟨_,rfl⟩;rw[<-hF]at jr Lb hkr vc pL;have J:=mU hc (n:=c);obtain⟨r,hr⟩:∃r,r=(aD m c).2.1:=⟨_,rfl⟩;rw[<-hr]at rP Ii J;obtain⟨A,hA⟩:∃A,A=(List.range r).map fun a=>F.map fun f=>gp K c f ((aD m c).2.2[a]?.getD 0):=⟨_,rfl⟩;have YV:A.length=r:=by rw[hA];simp
 have hAc:aU A F.length:=fun x hx=>by rw[hA]at hx;obtain⟨a,_,rfl⟩:=bK.1 hx;simp
 have hAt:∀a b f,a<r->F[b]?=some f->al A a b=gp K c f ((aD m c).2.2[a]?.getD 0):=fun a b f ha hb=>by unfold al;rw[hA,eH,wY ha];simp only[qO,il,eH,hb]
 have IA:=mU hAc (n:=F.length);have YW:=IA.le;rw[yG,YV]at YW;have ef:=Ij (ps:=(aD A F.length).2.2) (n:=F.length) (fun i hi=>IA.lt i (by rw[<-IA.len];exact hi)) (fun i j h1 h2=>IA.xc i j h1 (by rw[<-IA.len];exact h2));rw[IA.len]at ef;obtain⟨k,hk⟩:=bj (l:=iw (aD A F.length).2.2 F.length) (k:=0) (by omega);have hm:=cy hk;simp only[iw,List.mem_filter,iL]at hm;have YX:k∉(aD A F.length).2.2:=by simpa using hm.2
 have hw:=FY hAc hm.1 YX;have hwk:gp A F.length k k=1:=by simp[gp]
 obtain⟨w,YY⟩:∃w,w=gp A F.length k:=⟨_,rfl⟩;rw[<-YY]at hw hwk;have hv:dS K c fun j=>sN (fun b=>al (eE K c) b j*w b) F.length:=by intro i hi;show sN (fun j=>al K i j*sN (fun b=>al (eE K c) b j*w b) F.length) c=0;rw[FZ (b:=fun _=>0) fun t ht=>by obtain⟨f,hf⟩:=bj (l:=F) (k:=t) ht;have h1:=FY Ih (pL t f hf).1 (pL t f hf).2 i hi;rw[<-h1];exact bq fun l hl=>by rw[vc t f l hf hl,Rat.mul_comm]];exact pJ fun a _=>Rat.zero_mul _
 obtain⟨fk,D9⟩:=bj (l:=F) (k:=k) hm.1;have h0:=Ii _ hv fk (pL k fk D9).1;rw[pJ (n:=r)]at h0
 ·rw[ve (i:=k) hm.1]at h0
  ·rw[vc k fk fk D9 (pL k fk D9).1,hwk]at h0;unfold gp at h0;rw[av rfl,Rat.one_mul]at h0;exact absurd h0 (by decide)
  intro b hb aZ;obtain⟨f,hf⟩:=bj (l:=F) (k:=b) hb;rw[vc b f fk hf (pL k fk D9).1];unfold gp;rw[ak,ak (pL k fk D9).2,Rat.zero_mul];intro h;subst h;exact aZ ((List.getElem?_inj hb Lb).1 (hf.trans D9.symm))
 intro a ha;have h1:=hw a (by rw[YV];exact ha);have h2:sN (fun b=>al (eE K c) b ((aD m c).2.2[a]?.getD 0)*w b) F.length=0:=by rw[<-h1];exact bq fun b hb=>by obtain⟨f,hf⟩:=bj (l:=F) (k:=b) hb;rw[vc b f _ hf (J.lt a ha),hAt a b f ha hf]
 rw[h2,Rat.mul_zero]
def Yni{c:Nat}(hc:aU m c):(bS m c).length+(aK m c).length=c:=by have h1:=F0 hc;unfold bS;rw[nO zO,Ynj hc,nO hc];exact h1
def YZ{c R:Nat}(h:Ar m c R)(hc:aU m c)(hR:1<=R):Ar (eE m c) c (((aD m c).2.1+1)*(R+(aD m c).2.1+1)):=by
 obtain⟨Bs,s,hC⟩:=Nr h hc (n:=c) (aM _);have I:=mU hc (n:=c);obtain⟨h1,h2⟩:=hC.done I (aM _) hR;have h0:=hC.ne;obtain⟨d,hd⟩:∃d,d=(aD m c).2.1:=⟨_,rfl⟩;intro i hi;obtain⟨k,hk⟩:=bj (l:=iw (aD m c).2.2 c) (k:=i) (by simpa[eE]using hi);have hB:(aD m c).2.1*(R+(aD m c).2.1+1)+1<=((aD m c).2.1+1)*(R+(aD m c).2.1+1):=by rw[js];omega
 refine⟨_,h0,h1.mono hB,fun l hl=>?_⟩;rw[La hk hl];unfold gp;split
 ·rw[Rat.mul_one];exact h1.mono hB
 split
 ·rename_i hm;obtain⟨a,ha,_,ex⟩:=K9 hc hm;have SY:=cy hk;simp only[iw,List.mem_filter,iL]at SY;rw[ex,Lc ha,Rat.mul_neg];exact(h2 a k ha SY.1).neg
 rw[Rat.mul_zero];exact df.zero
def Yid{c R:Nat}(h:Ar m c R)(hc:aU m c)(hR:1<=R):∃d e,d+e=c/\d=(aK m c).length/\e=(bS m c).length/\bH (aK m c) (kW R d)/\bH (bS m c) (kW ((d+1)*(R+d+1)) e):=by
 refine⟨(aK m c).length,(bS m c).length,by have:=Yni hc;omega,rfl,rfl,fun r hr=>?_,fun r hr=>?_⟩
 ·rw[nO hc];exact Ig h hc hR c r (wy hr)
 unfold bS at hr ⊢;rw[nO zO,nO hc];exact Ig (YZ h hc hR) zO (zN (Nat.succ_pos _) (by omega)) c r (wy hr)
open Go
def SZ(r:T V)(n:Nat)(ps:List Nat)(a b:cF)(d:Nat):Nt:={st:=.ready,fz:=none,r:=r,n:=n,ps:=ps,assign:=a,body:=b,defs:=d}
def Nu:Option Ex->Ex
 |none=>.normal
 |some e=>e
def Ycl{C:Cx}{K:List Kf}{Q:Rs->Prop}{g:Src}{ps:List Nat}{a b:cF}{r:T V}{n N:Nat}{h:T O}{w:List Nat}{gv:V}{P:V->St->Prop}(hg:g.ev r=some gv)(hy:gv.Ik=false)(hc:Call C gv [.yield (N+1)] ⟨(h.set N (.defs true)).set (N+1) (.loop (SZ r n ps a b N)),N+1+1,w⟩ P)(k:∀v aB,P v aB->∃R,aB.h.get (N+1)=some (.loop R)/\R.st≠.busy/\bE C K (some (.ex (Nu R.fz) ⟨r,n,[N]⟩ (aB.write (N+1) (.loop {R with st:=.exhausted})))) Q):bE C K (fl (C.code none (.jY g ps a b) ⟨r,n,[]⟩ ⟨h,N,w⟩)) Q:=by
 obtain⟨v,aB,e,p⟩:=hc.ex;obtain⟨R,h1,h2,h3⟩:=k v aB p;have e2:C.code none (.jY g ps a b) ⟨r,n,[]⟩ ⟨h,N,w⟩=some (Nu R.fz,⟨r,n,[N]⟩,aB.write (N+1) (.loop {R with st:=.exhausted})):=by rw[Cx.dB];show A8 g ps a b C.call C.code none ⟨r,n,[]⟩ ⟨h,N,w⟩=_;unfold A8;simp only[hg,hy,S0,St.alloc];unfold SZ at e;simp only[ix,if_false,e,h1,h2];unfold Nu;rfl
 rw[e2];exact h3
def Ynw{C:Cx}{K:List Kf}{Q:Rs->Prop}{rs:List F3}{st:St}{e:Ex}{r:T V}{n d:Nat}{h1:T O}{n1:Nat}{w1:List Nat}(hd:h1.get d=some (.defs true))(he:∀i,e≠.exit i):bE C (.fin rs st::K) (some (.ex e ⟨r,n,[d]⟩ ⟨h1,n1,w1⟩)) Q↔bE C K (S6 (h1.set d (.defs false)) n1 (ay st.n (d::w1)++st.w) (gb r ⟨h1.set d (.defs false),n1,d::w1⟩ rs)) Q:=jM (by
 have:shut ⟨h1,n1,w1⟩ [d]=some ⟨h1.set d (.defs false),n1,d::w1⟩:=by
  unfold shut
  simp only[hd]
  rfl
 cases e with
 |exit i=>exact absurd rfl (he i)
 |normal=>
  simp only[jt,nC,tc,this]
  rcases gb r _ rs with _|_<;>rfl
 |ret=>
  simp only[jt,nC,tc,this]
  rcases gb r _ rs with _|_<;>rfl)
def Yej{C:Cx}{l:Nat}{args:List V}{st:St}{R:Nt}{r0:T V}{P:V->St->Prop}(hx:C.x (.yield l) args st=none)(hl:st.h.get l=some (.loop R))(hs:R.st=.ready)(hp:Ea R.r R.n R.ps args=some r0)(hc:Code C (some l) R.assign ⟨r0,R.n,[]⟩ st (fun e fr b9=>e=.normal/\b9.h.get l=some (.loop R)/\Code C (some l) R.body fr (b9.write l (.loop {R with st:=.busy})) (fun e2 _ fi=>∃R2,fi.h.get l=some (.loop R2)/\P (.bool (td e2).isNone) (fi.write l (.loop {R2 with st:=Ld (td e2),fz:=td e2}))))):Call C (.yield l) args st P:=by obtain⟨e,fr,b9,e1,rfl,g1,hb⟩:=hc.ex;obtain⟨e2,A9,fi,e3,R2,g2,p⟩:=hb.ex;refine⟨_,_,?_,p⟩;rw[Cx.od];unfold uK;rw[hx];show Eb C.code l args st=_;unfold Eb;simp only[hl,hp,e1,g1,hs,if_true,e3,g2]
def fN.xd{h h':T O}{N N' B:Nat}{u v:V}{m:List (List Rat)}{e:TypeId}(s:fN h N u m)(k:dR (fun i=>i=B) h N h' N')(g:h.get B=some (.cells [.aa] e true))(he:e≠96)(h0:0<m.length)(hm:∀r∈m,0<r.length):fN h' N' u m:=by
 obtain⟨us,h1,h2,h3⟩:=s;have hd:n_ e NW h (.slice B 0 1 none 1):=fun i hi=>by simp[dm]at hi;subst hi;exact⟨_,g,by simp,fun y hy=>by simp at hy;subst hy;exact fun m=>by simp⟩
 have k':dR (fun i=>i∈dm (.slice B 0 1 none 1)) h N h' N':=k.mono fun i _ hi=>by simp[dm];exact hi
 refine⟨us,h1.cf k fun i hi hc=>?_,h2,fun j l hl=>?_⟩
 ·subst hc;obtain⟨l,hl⟩:=bj h0;obtain⟨x,g1,g2⟩:=h3 0 l hl;have cB:=hm l (cy hl);obtain⟨j,o,c,e',rj,q1,q2,q3,q4⟩:=h1.at g1;have hj:j=i:=by cases u<;>simp[yJ,dm]at q1 hi;all_goals omega
  subst hj;rw[g]at q3;simp only[au,O.cells.injEq]at q3;obtain⟨rfl,_⟩:=q3;have:x=.aa:=by have:=cy q4;simpa using this
  subst this;have hlen:=g2.1.len;simp[qQ]at hlen;omega
 obtain⟨x,g1,g2⟩:=h3 j l hl;exact⟨x,g1,g2.cf k' hd he⟩
def A.b125:=A.q Tryz.f125
def A.k125:=@A.kk 125 4 [.tmp 2] A.b125 (by kernel_rfl) rfl
def u_.lens{m:List (List aG)}{n:Nat}(h:u_ m n):(bF m).length<1000/\0<(bF m).length/\n<1000/\(∀k,k<(bF m).length->k<n->3*kB 96 k<=400000000)/\(∀l∈bF m,l.length<1000000000/\∀q∈l,Qb 100 q):=by have h1:=h.pos;have h2:=h.le;have h3:=h.n6;rw[D6];refine⟨by omega,h1,by omega,fun k h4 h5=>YL (by omega),fun l hl=>?_⟩;obtain⟨a,b⟩:=h.rat l hl;exact⟨by omega,b⟩
def Yom{h:T O}{N:Nat}{u:V}(h1:V.one u=true)(h2:V.cells u=[u]):Fn A.C 125 [u] h N (fun x h' n'=>∃e,x=.func 187 [] [.ptr N 0]/\N<n'/\h'.get N=some (.cells [u] e true)):=by intro w;have kB:∀e,ab h N (h.set N (.cells [u] e true)) (N+1):=fun e=>ab.refl.new _;rw[aQ,A.k125 (by simp)];simp[-V.cells, -V.one,A.b125,h1,h2,az];exact kB _
def DU(N B i:Nat):Prop:=i=N+1\/i=B\/N+2<=i
structure Pk where
 act:Int
 am:aG
 sl:List aG
def Nv(p:Pk)(u:V):List V:=[.int .i64 p.act,.str p.am,u]
def Nw(h:T O)(N:Nat)(v:V)(l:List Pk):Prop:=∃cs:List (List V),Sn 3 h N v cs/\cs.length=l.length/\∀(j:Nat) (p:Pk),l[j]?=some p->∃u,cs[j]?=some (Nv p u)/\Sl h N u (strs p.sl)
def Nw.ad{h h':T O}{N N':Nat}{v:V}{l:List Pk}(s:Nw h N v l)(k:ab h N h' N'):Nw h' N' v l:=by obtain⟨cs,h1,h2,h3⟩:=s;refine⟨cs,h1.ad k,h2,fun j p hp=>?_⟩;obtain⟨u,g1,g2⟩:=h3 j p hp;exact⟨u,g1,g2.ad k⟩
def Y0{x c:List V}{k n j:Nat}(h:aP x k n=some c)(hj:j<n):x[k+j]?=c[j]?:=by obtain⟨h1,rfl⟩:=Nx h;rw[jZ,av hj,fJ]
def Nw.at{h:T O}{N:Nat}{v:V}{l:List Pk}(s:Nw h N v l){j:Nat}{p:Pk}(hj:l[j]?=some p):∃i o x e rw u,yJ v=some (i,o)/\i<N/\h.get i=some (.cells x e rw)/\aP x (o+j*3) 3=some (Nv p u)/\x[o+j*3]?=some (.int .i64 p.act)/\x[o+j*3+1]?=some (.str p.am)/\x[o+j*3+2]?=some u/\Sl h N u (strs p.sl):=by obtain⟨cs,h1,h2,h3⟩:=s;obtain⟨u,g1,g2⟩:=h3 j p hj;obtain⟨i,o,x,e,rw,q1,q2,q3,q4⟩:=h1.at g1;exact⟨i,o,x,e,rw,u,q1,q2,q3,q4,by have:=Y0 q4 (j:=0) (by decide);simpa[Nv]using this,by have:=Y0 q4 (j:=1) (by decide);simpa[Nv]using this,by have:=Y0 q4 (j:=2) (by decide);simpa[Nv]using this,g2⟩
section
variable {h:T O} {N P B:Nat} {p:Pk} {u:V} {e eB:TypeId} {rw rwB:Bool} {z:Int}
end
variable {N i:Nat} {h:T O} {o o0:O} {v:V}
def Il(o:O):Prop:=∀c e w,o≠.cells c e w
def Sl.rk{l:List V}(s:Sl h N v l)(g:h.get i=some o0)(ho:Il o0):Sl (h.set i o) N v l:=s.cf (D:=fun j=>j=i) ⟨aM _,fun j _ hj=>by rw[T.ag,ak hj]⟩ fun j hj hc=>by
 subst hc
 rcases s with⟨_,rfl|rfl⟩|⟨j',o',cp,c,e,rw,rfl,_,h3,_⟩
 ·simp[dm]at hj
 ·simp[dm]at hj
 ·simp[dm]at hj
  subst hj
  rw[g]at h3
  exact absurd (pC h3) (ho _ _ _)
def d_.rk{l:List Rat}(s:d_ h N v l)(g:h.get i=some o0)(ho:Il o0):d_ (h.set i o) N v l:=by
 obtain⟨⟨cs,h1,h2,h3⟩,h4⟩:=s;have aZ:∀j∈dm v,¬j=i:=fun j hj hc=>by obtain⟨z,w,hz⟩:=h4 j hj;rw[hc,g]at hz;exact absurd (pC hz) (ho _ _ _)
 have hI:∀{x:V} {z:Int},In h N x z->In (h.set i o) N x z:=fun s=>by
  rcases s with s|⟨i,o,l,c,s1,s2,s3⟩
  ·exact .inl s
  exact .inr ⟨i,o,l,c,s1,Sl.rk s2 g ho,s3⟩
 refine⟨⟨cs,h1.cf (D:=fun j=>j=i) ⟨aM _,fun j _ hj=>by rw[T.ag,ak hj]⟩ aZ,h2,fun j q hq=>?_⟩,fun j hj=>by rw[T.ag,ak (aZ j hj)];exact h4 j hj⟩;obtain⟨c,a,n1,u1,n2,u2,e,s1,s2⟩:=h3 j q hq;exact⟨c,a,n1,u1,n2,u2,e,hI s1,hI s2⟩
def gg.rk{N0:Nat}{m:List (List Rat)}(s:gg N0 h N v m)(g:h.get i=some o0)(ho:Il o0):gg N0 (h.set i o) N v m:=by
 obtain⟨us,⟨hl,h1⟩,h2,h3,h4⟩:=s;refine⟨us,⟨hl,?_⟩,h2,h3,fun j l hl=>?_⟩
 ·rcases h1 with h1|⟨j,a,b,c,d⟩
  ·exact .inl h1
  refine .inr ⟨j,a,b,c,?_⟩;rw[T.ag,ak]
  ·exact d
  rintro rfl;rw[g]at d;exact absurd (pC d) (ho _ _ _)
 obtain⟨u,g1,g2⟩:=h4 j l hl;exact⟨u,g1,g2.rk g ho⟩
variable {N k:Nat} {h:T O} {m:List (List Rat)} {v:V} {w:List Rat}
def A.oe:cF:=.gw [mv 7 11]
def A.og:cF:=.block 1 (.gK [ld 12 5,mv 13 7,ld 14 3,ge 15 (.call (fq 69) [tq 13,tq 14,(fq 70)]),ge 16 (.mV 82 1 1 [.aa] [(0,1,(tq 15))]),ge 17 (.append 1 24 82 [.aa] (tq 12) (tq 16)),so 5 17] [0,0,0,6,14,31,63])
def A.b100:cF:=sr [bx 3 82 1,mN 4] (sr [ge 5 (.alloc [.aa] 79)] (.seq (sr [mv 8 0,c1 9 125 8] (.block 0 (.jY (tq 9) [10,11] A.oe A.og))) (sr [ld 18 5,mv 4 18] (.ret))))
def A.k100:=@A.kk 100 19 [.tmp 4] A.b100 (by kernel_rfl) rfl
def d_.xd{h':T O}{N' B:Nat}{u:V}{l:List Rat}{e:TypeId}(s:d_ h N u l)(k:dR (fun i=>i=B) h N h' N')(g:h.get B=some (.cells [.aa] e true))(he:e≠96):d_ h' N' u l:=
 s.cf (v:=.slice B 0 1 none 1) (k.mono fun i _ hi=>by simp[dm];exact hi) (fun i hi=>by
  simp[dm]at hi
  subst hi
  exact⟨_,g,by simp,fun y hy=>by simp at hy;subst hy;exact fun m=>by simp⟩) he
def gg.form{N0:Nat}(s:gg N0 h N v m):V.one v=true/\V.cells v=[v]/\∀n,v≠.int .u64 n:=by
 obtain⟨us,h1,_⟩:=s;obtain⟨_,⟨_,rfl⟩|⟨i,rfl,_⟩⟩:=h1
 ·exact⟨rfl,rfl,fun n=>by simp⟩
 exact⟨rfl,rfl,fun n=>by simp⟩
def gg.Y3{N0:Nat}{B:Nat}{y z:V}(s:gg N0 h N v m)(hB:B<N0)(g:h.get B=some (.cells [y] 79 true))(hy:∀n,y≠.int .u64 n):gg N0 (h.set B (.cells [z] 79 true)) N v m:=by
 obtain⟨us,h1,h2,h3,h4⟩:=s;refine⟨us,?_,h2,h3,fun j l hl=>?_⟩
 ·obtain⟨a,b⟩:=h1;refine⟨a,?_⟩;rcases b with b|⟨i,b1,b2,b3,b4⟩
  ·exact .inl b
  exact .inr ⟨i,b1,b2,b3,by rw[T.ag,ak (by omega)];exact b4⟩
 obtain⟨u,a,b⟩:=h4 j l hl;exact⟨u,a,b.bo g (by decide) (fun x hx m hc=>by simp at hx;exact hy m (hx▸hc)) rfl⟩
def As(m:List (List Rat))(w:List Rat)(k:Nat):List (List Rat):=(List.range k).map fun j=>zP (kX m j) w (kX m j).length
def Ykw{m:List (List Rat)}{w:List Rat}{k:Nat}:As m w (k+1)=As m w k++[zP (kX m k) w (kX m k).length]:=by unfold As;rw[List.range_succ,List.map_append];rfl
def Yq3:(As m w k).length=k:=by simp[As]
def Ywg(h:w.length=m.length):As m w k=(dt m k).map fun r=>CU r w:=by unfold As dt;rw[List.map_map];apply Aq;intro j _;simp only[Function.comp];unfold CU zP;rw[show (kX m j).length=w.length by simp[kX,h]]
def wR(r:T V)(d:Nat):Nt:=SZ r 19 [10,11] A.oe A.og d
def Yqz{H:T O}{n B P d j0 k0:Nat}{r:T V}{x wv:V}{tf:List Rat}{W:List Nat}{e:TypeId}{rw:Bool}(hL:H.get (N+1)=some (.loop (wR r d)))(hB:H.get B=some (.cells [v] 79 true))(hP:H.get P=some (.cells [wv] e rw))(hO:gg (N+2) H n v (As m tf k))(hn:N+2<=n)(Y4:B<N)(Y5:P<N)(hx:d_ H n x (kX m k))(hw:d_ H n wv tf)(hk:k<1000)(iH:(kX m k).length=tf.length)(hl:tf.length<1000)(qa:∀q∈kX m k,Qb j0 q)(qb:∀q∈tf,Qb k0 q)(hj:j0<=400000000)(oh:k0<=400000000)(h5:r.get 5=some (.ptr B 0))(h3:r.get 3=some (.ptr P 0))(hW:ay B W=[]):Call A.C (.yield (N+1)) [.int .i64 k,x] ⟨H,n,W⟩ (fun y st=>y=.bool true/\ay B st.w=[]/\dR (DU N B) H n st.h st.n/\st.h.get (N+1)=some (.loop (wR r d))/\∃v',st.h.get B=some (.cells [v'] 79 true)/\gg (N+2) st.h st.n v' (As m tf (k+1))):=by
 refine Yej (R:=wR r d) (r0:=(r.set 10 (.int .i64 k)).set 11 x) rfl hL rfl (by simp[wR,SZ,Ea]) ?_;rw[bu];show bE A.C [] (fl (A.C.code (some (N+1)) A.oe ⟨_,19,[]⟩ ⟨H,n,W⟩)) _;simp[A.oe];refine⟨hL,?_⟩;rw[bu];show bE A.C [] (fl (A.C.code (some (N+1)) A.og ⟨_,19,[]⟩ _)) _;have nc:Il (.loop (wR r d)):=fun c e w h=>by cases h
 have xe:=hx.rk (o:=.loop {wR r d with st:=.busy}) hL nc;have Lf:=hw.rk (o:=.loop {wR r d with st:=.busy}) hL nc;have hBu:(H.set (N+1) (.loop {wR r d with st:=.busy})).get B=some (.cells [v] 79 true):=by rw[T.ag,ak (by omega)];exact hB
 have hPu:(H.set (N+1) (.loop {wR r d with st:=.busy})).get P=some (.cells [wv] e rw):=by rw[T.ag,ak (by omega)];exact hP
 have hLu:(H.set (N+1) (.loop {wR r d with st:=.busy})).get (N+1)=some (.loop {wR r d with st:=.busy}):=by rw[T.ag,av rfl]
 have U1:dR (DU N B) H n (H.set (N+1) (.loop {wR r d with st:=.busy})) n:=⟨aM _,fun i _ hi=>by rw[T.ag,ak fun hc=>hi (.inl hc)]⟩;have oU:=hO.rk (o:=.loop {wR r d with st:=.busy}) hL nc;generalize H.set (N+1) (.loop {wR r d with st:=.busy})=G at*;have lB:B<n:=by omega
 have lP:P<n:=by omega
 have hLB:¬N+1<B:=by omega
 simp[A.og,h5,h3,hBu,hPu,lB,lP];refine ar (Ya7 xe.1 Lf.1 (by omega) qa qb hj oh (by omega)) ?_;rintro y H2 n2 k2 hy;have kR:=k2.le;have Lg:=(k2.get B (by omega)).trans hBu;have gL2:=(k2.get (N+1) (by omega)).trans hLu;have o2:=oU.ad k2;have lB2:B<n2:=by omega
 obtain⟨f1,f2,f3⟩:=hy.1.form;have vf:ae [V.aa] 0 [y]=[y]:=rfl;simp[-V.cells, -V.one,f1,f2,vf];have kD:ab H2 n2 (H2.set n2 (.cells [y] 82 true)) (n2+1):=ab.refl.new _;obtain⟨v',h',w',j1,j2,j3,j4⟩:=gg.push (N0:=N+2) (x:=.slice n2 0 1 (some 1) 1) (w:=[]) (o2.ad kD) (hy.ad kD) (by omega) (by simp[fQ,St.row,aP]) (by rw[Yq3];omega);have Ba:=(j3.get B (by omega)).trans ((kD.get B lB2).trans Lg);have Ny:=(j3.get (N+1) (by omega)).trans ((kD.get (N+1) (by omega)).trans gL2);have lB3:B<n2+1+1:=by omega
 have ov:=j4.form;have ovv:=hO.form;have U3:dR (DU N B) H n h' (n2+1+1):=((U1.trans k2.upd).trans kD.upd).trans ⟨by omega,fun i hi hd=>j3.get i (by unfold DU at hd;omega)⟩;have g4:(h'.set B (.cells [v'] 79 true)).get (N+1)=some (.loop {wR r d with st:=.busy}):=by rw[T.ag,ak (by omega)];exact Ny
 have o4:=j4.Y3 (z:=v') (by omega) Ba ovv.2.2;have nc2:Il (.loop {wR r d with st:=.busy}):=fun c e w h=>by cases h
 have vg:=@Ykw m tf k;simp[-V.cells, -V.one,j1,h5,Ba,lB3,bO,ov.1,ov.2.1,ae];refine⟨{wR r d with st:=.busy},by rw[ak (by omega)];exact Ny,rfl,?_,(U3.set (.inl (.inr (.inl rfl)))).set (.inl (.inl rfl)),rfl,v',by rw[ak (by omega)],?_⟩
 ·rw[ak hLB];refine HX fun i hi=>?_;rcases jn.1 hi with hi|hi
  ·have:=CN (j2.trans rfl) i (CV hi).1;omega
  rcases ky.1 hi with rfl|hi
  ·omega
  exact CN hW i hi
 rw[vg];exact o4.rk g4 nc2
def A.Nz:=A.q Tryz.f187
def A.tg:=A.ql A.Nz 0 []
def A.b187:=(fun x0=>A.qb A.Nz [x0]) A.tg
def A.k187:=@A.kk 187 19 [] A.b187 (by kernel_rfl) rfl
end
end Go.Mx
