/-A region that draws its order-/
import Derived.Test.YtjjmkflbfpeagaaGreatDoorMxLoc
set_option linter.all false
namespace Go.Mx
open Go
def sN(aI:Nat->St)(aX:Nat->FP)(k j:Nat):Prop:=j∈(aX k).wr\/((aI k).n<=j/\j<(aI (k+1)).n)
instance (aI:Nat->St) (aX:Nat->FP) (k j:Nat):Decidable (sN aI aX k j):=by unfold sN;infer_instance
def jd(aI:Nat->St)(aX:Nat->FP)(S:Nat->Bool):Nat->Nat->Option O
 |0,j=>(aI 0).h.get j
 |k+1,j=>if S k=true/\sN aI aX k j then (aI (k+1)).h.get j else jd aI aX S k j
def sO(bo:Nat->Fr)(ds:Nat->Option Nat)(S:Nat->Bool):Nat->Nat->Option V
 |0,t=>(bo 0).r.get t
 |k+1,t=>if S k=true/\ds k=some t then (bo (k+1)).r.get t else sO bo ds S k t
def ku(S:Nat->Bool)(i:Nat):Nat->Bool:=fun k=>if k=i then true else S k
section
variable {P:Program} {μ:Mu} {aI:Nat->St} {bo:Nat->Fr} {aX:Nat->FP} {ds:Nat->Option Nat} {S:Nat->Bool} {N:Nat}
def Sh(T:sQ P μ aI bo aX N):∀{i j:Nat},i<=N->j<(aI i).n->(∀k,k<i->sN aI aX k j->S k=true)->jd aI aX S i j=(aI i).h.get j
 |0,j,_,_,_=>rfl
 |i+1,j,hi,hj,h=>by
  simp only[jd]
  by_cases ht:sN aI aX i j
  ·rw[aJ ⟨h i (by omega) ht,ht⟩]
  ·rw[aq (fun hc=>ht hc.2)]
   simp only[sN,not_or,not_and,vz]at ht
   have aO:j<(aI i).n:=by
    rcases Nat.lt_or_ge j (aI i).n with h1|h1
    ·exact h1
    ·have:=ht.2 h1;omega
   rw[Sh T (by omega) aO fun k hk=>h k (by omega),T.ae i (by omega) j aO ht.1]
def Nk:∀{M i j:Nat},i<=M->(∀k,i<=k->k<M->sN aI aX k j->S k=false)->jd aI aX S M j=jd aI aX S i j
 |0,i,j,hi,_=>by rw[Nat.le_zero.1 hi]
 |M+1,i,j,hi,h=>by
  by_cases e:i=M+1
  ·rw[e]
  ·simp only[jd]
   rw[aq,Nk (by omega) fun k h1 h2=>h k h1 (by omega)]
   rintro⟨h1,h2⟩
   rw[h M (by omega) (by omega) h2]at h1;cases h1
def YE{i:Nat}:∀{M j:Nat},¬sN aI aX i j->jd aI aX (ku S i) M j=jd aI aX S M j
 |0,j,_=>rfl
 |M+1,j,h=>by
  simp only[jd]
  rw[YE h]
  by_cases e:M=i
  ·subst e
   rw[aq (fun hc=>h hc.2),aq (fun hc=>h hc.2)]
  ·simp only[ku,e,if_false]
def Ydp{i j:Nat}(hi:i<N)(ht:sN aI aX i j)(h:∀k,i<k->k<N->sN aI aX k j->S k=false):jd aI aX (ku S i) N j=(aI (i+1)).h.get j:=by
 rw[Nk (i:=i+1) (by omega) fun k h1 h2 h3=>by simp only[ku];rw[aq (by omega)];exact h k (by omega) h2 h3]
 simp only[jd,ku]
 rw[aJ ⟨by simp,ht⟩]
def DV(bo:Nat->Fr)(ds:Nat->Option Nat)(vI:Nat->V)(N:Nat):Prop:=∀i,i<N->∀t,(bo (i+1)).r.get t=if ds i=some t then some (vI i) else (bo i).r.get t
def Si{vI:Nat->V}(T:DV bo ds vI N):∀{i t:Nat},i<=N->(∀k,k<i->ds k=some t->S k=true)->sO bo ds S i t=(bo i).r.get t
 |0,t,_,_=>rfl
 |i+1,t,hi,h=>by
  simp only[sO]
  by_cases ht:ds i=some t
  ·rw[aJ ⟨h i (by omega) ht,ht⟩]
  ·rw[aq (fun hc=>ht hc.2),Si T (by omega) fun k hk=>h k (by omega),T i (by omega) t,aq ht]
def Nl:∀{M i t:Nat},i<=M->(∀k,i<=k->k<M->ds k=some t->S k=false)->sO bo ds S M t=sO bo ds S i t
 |0,i,t,hi,_=>by rw[Nat.le_zero.1 hi]
 |M+1,i,t,hi,h=>by
  by_cases e:i=M+1
  ·rw[e]
  ·simp only[sO]
   rw[aq,Nl (by omega) fun k h1 h2=>h k h1 (by omega)]
   rintro⟨h1,h2⟩
   rw[h M (by omega) (by omega) h2]at h1;cases h1
def YF{i:Nat}:∀{M t:Nat},ds i≠some t->sO bo ds (ku S i) M t=sO bo ds S M t
 |0,t,_=>rfl
 |M+1,t,h=>by
  simp only[sO]
  rw[YF h]
  by_cases e:M=i
  ·subst e
   rw[aq (fun hc=>h hc.2),aq (fun hc=>h hc.2)]
  ·simp only[ku,e,if_false]
def Ydo{vI:Nat->V}(T:DV bo ds vI N){i t:Nat}(hi:i<N)(ht:ds i=some t)(h:∀k,i<k->k<N->ds k=some t->S k=false):sO bo ds (ku S i) N t=some (vI i):=by
 rw[Nl (i:=i+1) (by omega) fun k h1 h2 h3=>by simp only[ku];rw[aq (by omega)];exact h k (by omega) h2 h3]
 simp only[sO,ku]
 rw[aJ ⟨by simp,ht⟩,T i hi t,aJ ht]
def xI(r:T V):List Nat->T V
 |[]=>.nil
 |t::ts=>match r.get t with
  |some v=>(xI r ts).set t v
  |none=>xI r ts
def IQ(r:T V):∀(ts:List Nat) (t:Nat),(xI r ts).get t=if t∈ts then r.get t else none
 |[],t=>by simp[xI,T.get]
 |u::ts,t=>by
  simp only[xI]
  split
  ·rename_i v hv
   rw[T.ai,IQ r ts t]
   by_cases e:t=u
   ·subst e;simp[hv]
   ·simp[e]
  ·rename_i hv
   rw[IQ r ts t]
   by_cases e:t=u
   ·subst e;simp[hv]
   ·simp[e]
def Ylq{r:T V}{ts:List Nat}{s:Src}(h:∀t∈s.tmps,t∈ts):s.ev (xI r ts)=s.ev r:=by
 cases s with
 |const v=>rfl
 |tmp t=>simp only[Src.ev];rw[IQ,aJ (h t (by simp[Src.tmps]))]
def pw(h:T O)(ae:List Nat):Nat->T O
 |0=>.nil
 |n+1=>match h.get n with
  |some o=>(pw h ae n).set n (if n∈ae then o else .dead)
  |none=>pw h ae n
def GP(h:T O)(ae:List Nat):∀(n j:Nat),(pw h ae n).get j=if j<n then (h.get j).map fun o=>if j∈ae then o else .dead else none
 |0,j=>by simp[pw,T.get]
 |n+1,j=>by
  simp only[pw]
  split
  ·rename_i o ho
   rw[T.ai,GP h ae n j]
   by_cases e:j=n
   ·subst e;simp[ho]
   ·rw[aq e]
    by_cases e2:j<n
    ·rw[aJ e2,aJ (by omega)]
    ·rw[aq e2,aq (by omega)]
  ·rename_i ho
   rw[GP h ae n j]
   by_cases e:j=n
   ·subst e;simp[ho]
   ·by_cases e2:j<n
    ·rw[aJ e2,aJ (by omega)]
    ·rw[aq e2,aq (by omega)]
def FP.de(f:FP)(j:Nat):Prop:=
 match f.rd with
 |none=>True
 |some l=>j∈l
def Yap{st σ:St}{i:Nat}(h:σ.h.get i=st.h.get i):σ.row i=st.row i:=by unfold St.row;rw[h]
def Yf8{call:cH}{r:T V}{op:fS}{st s':St}{v:V}{ws:List Nat}{lo hi:Nat}(hm:bX op call r {st with w:=[]}=some (v,s'))(fA:lo=st.n):
  ∃σ σ',σ.n=st.n/\σ.w=[]/\bX op call r σ=some (v,σ')/\σ'.n=s'.n/\σ'.w=s'.w/\
   (∀j,j<st.n->(nw r op ws lo hi).de j->σ.h.get j=st.h.get j)/\(∀j,j<st.n->¬(nw r op ws lo hi).de j->σ.h.get j=(st.h.get j).map fun _=>.dead)/\
   (∀j,((nw r op ws lo hi).de j/\j<st.n)\/(st.n<=j/\j<s'.n)->σ'.h.get j=s'.h.get j)/\(∀j∈s'.w,(nw r op ws lo hi).de j):=by
 by_cases hs:op.mM=true
 ·have hf:nw r op ws lo hi=⟨some [],[],lo,hi⟩:=by unfold nw;rw[aJ hs]
  rw[hf]
  have hd:∀j,j<st.n->(pw st.h [] st.n).get j=(st.h.get j).map fun _=>.dead:=fun j hj=>by
   rw[GP,aJ hj];simp
  rcases YG hs (pw st.h [] st.n) [] hm with⟨h1,h2⟩|⟨o,h1,h2⟩
  ·subst h1
   exact⟨⟨pw st.h [] st.n,st.n,[]⟩,_,rfl,rfl,h2,rfl,rfl,fun j _ hj=>by simp[FP.de]at hj,fun j hj _=>hd j hj,fun j hj=>by
    rcases hj with⟨hj,_⟩|⟨h1,h2⟩
    ·simp[FP.de]at hj
    ·simp only at h2;omega,fun j hj=>by simp at hj⟩
  ·subst h1
   refine⟨⟨pw st.h [] st.n,st.n,[]⟩,_,rfl,rfl,h2,rfl,rfl,fun j _ hj=>by simp[FP.de]at hj,fun j hj _=>hd j hj,fun j hj=>?_,fun j hj=>by simp[St.alloc]at hj⟩
   rcases hj with⟨hj,_⟩|⟨h1,h2⟩
   ·simp[FP.de]at hj
   ·simp only[St.alloc]at h2 ⊢
    have:j=st.n:=by omega
    subst this
    rw[T.ai,T.ai,aJ rfl,aJ rfl]
 ·cases hl:Ni r op with
  |none=>
   have hf:nw r op ws lo hi=⟨none,ws,lo,hi⟩:=by unfold nw;rw[aq hs,hl]
   rw[hf]
   exact⟨{st with w:=[]},s',rfl,rfl,hm,rfl,rfl,fun _ _ _=>rfl,fun _ _ hj=>absurd trivial hj,fun _ _=>rfl,fun _ _=>trivial⟩
  |some i=>
   by_cases iV:i<st.n
   case neg=>
    have hf:nw r op ws lo hi=⟨none,ws,lo,hi⟩:=by unfold nw;rw[aq hs,hl];simp only[];rw[aq (by rw[fA];simpa[Nat.blt_eq]using iV)]
    rw[hf]
    exact⟨{st with w:=[]},s',rfl,rfl,hm,rfl,rfl,fun _ _ _=>rfl,fun _ _ hj=>absurd trivial hj,fun _ _=>rfl,fun _ _=>trivial⟩
   have hf:nw r op ws lo hi=⟨some [i],ws,lo,hi⟩:=by unfold nw;rw[aq hs,hl];simp only[];rw[aJ (by rw[fA];simpa[Nat.blt_eq]using iV)]
   rw[hf]
   have hk:(pw st.h [i] st.n).get i=st.h.get i:=by
    rw[GP,aJ iV]
    cases st.h.get i<;>simp
   have hd:∀j,j<st.n->¬(j∈[i])->(pw st.h [i] st.n).get j=(st.h.get j).map fun _=>.dead:=fun j hj hn=>by
    rw[GP,aJ hj];simp only[hn,if_false]
   have aE:(⟨pw st.h [i] st.n,st.n,[]⟩:St).row i=St.row {st with w:=[]} i:=Yap hk
   cases op<;>simp only[Ni,reduceCtorEq]at hl
   case load k x=>
    split at hl
    ·rename_i i' o hx
     simp only[ak]at hl;subst hl
     simp only[bX,DD,hx]at hm ⊢
     split at hm
     ·rename_i c e AA hr
      split at hm
      ·rename_i u hu
       simp only[ak,bh]at hm
       obtain⟨rfl,rfl⟩:=hm
       refine⟨⟨pw st.h [i'] st.n,st.n,[]⟩,⟨pw st.h [i'] st.n,st.n,[]⟩,rfl,rfl,?_,rfl,rfl,fun j _ hj=>?_,fun j hj hn=>hd j hj hn,fun j hj=>?_,fun j hj=>by simp at hj⟩
       ·rw[aE,hr];simp only[hu]
       ·simp only[FP.de,tX]at hj;subst hj;exact hk
       ·rcases hj with⟨hj,_⟩|⟨h1,h2⟩
        ·simp only[FP.de,tX]at hj;subst hj;exact hk
        ·simp only at h2;omega
      ·cases hm
     ·cases hm
    ·cases hl
   case store k x y=>
    split at hl
    ·rename_i i' o hx
     simp only[ak]at hl;subst hl
     simp only[bX,BS,hx]at hm ⊢
     split at hm
     ·rename_i i2 o2 u GQ hu
      simp only[ak,V.ptr.injEq]at GQ
      obtain⟨rfl,rfl⟩:=GQ
      split at hm
      ·rename_i c e hr
       split at hm
       ·rename_i hc
        simp only[ak,bh]at hm
        obtain⟨rfl,rfl⟩:=hm
        refine⟨⟨pw st.h [i'] st.n,st.n,[]⟩,St.write ⟨pw st.h [i'] st.n,st.n,[]⟩ i' (.cells (ag c o u.cells) e true),rfl,rfl,?_,rfl,rfl,fun j _ hj=>?_,fun j hj hn=>hd j hj hn,fun j hj=>?_,fun j hj=>?_⟩
        ·rw[aE,hr]
         simp only[aJ hc]
        ·simp only[FP.de,tX]at hj;subst hj;exact hk
        ·rcases hj with⟨hj,_⟩|⟨h1,h2⟩
         ·simp only[FP.de,tX]at hj;subst hj
          simp only[St.write,T.ai,if_true]
         ·simp only[St.write]at h2;omega
        ·simpa[FP.de,St.write]using hj
       ·cases hm
      ·cases hm
     ·cases hm
    ·cases hl
end
structure Inv (P:Program) (μ:Mu) (w:World) (aI:Nat->St) (bo:Nat->Fr) (aX:Nat->FP) (ds:Nat->Option Nat) (N:Nat) (W:List Nat) (S:Nat->Bool) (μ':Mu) (a':Act) (w':World):Prop where
 ext:∀j,j<(aI 0).n->μ' j=μ j
 cU:∀j l,μ' j=some l->(j<(aI 0).n\/∃k,k<N/\S k=true/\(aI k).n<=j/\j<(aI (k+1)).n)/\l.b<w'.heap.size
 full:∀k,k<N->S k=true->∀j,(aI k).n<=j->j<(aI (k+1)).n->∃l,μ' j=some l
 obj:∀j l,μ' j=some l->∃o,jd aI aX S N j=some o/\OM P μ' w' o l
 inj:∀i j l l' o o',μ' i=some l->μ' j=some l'->i≠j->jd aI aX S N i=some o->jd aI aX S N j=some o'->o.wr=true->o'.live=true->l.b≠l'.b
 sR:a'.tmps.size=(bo 0).n/\∀t v,sO bo ds S N t=some v->∃x,a'.tmps[t]?=some x/\VR μ' v x
 defs:nJ μ' (bo 0).marks a'.defers
 dV:IA μ W w w'
 new:∀i l,(aI 0).n<=i->μ' i=some l->w.heap.size<=l.b\/∃j∈W,j<(aI 0).n/\∃lj oj,μ j=some lj/\lj.b=l.b/\(aI 0).h.get j=some oj/\oj.wr=true
structure Ord (aX:Nat->FP) (mo:Nat->dk) (N:Nat) (jQ:Nat->Nat->Prop):Prop where
 free:∀i k,i<k->k<N->jQ k i\/FP.free (aX i) (aX k)=true
 tmp:∀i k,i<k->k<N->jQ k i\/M7 (mo i) (mo k)=true
section
variable {P:Program} {μ μ':Mu} {w w':World} {aI:Nat->St} {bo:Nat->Fr} {aX:Nat->FP} {ds:Nat->Option Nat} {S:Nat->Bool} {N:Nat} {W:List Nat} {a a':Act} {mo:Nat->dk} {jQ:Nat->Nat->Prop}
def sQ.mono(T:sQ P μ aI bo aX N):∀{i k:Nat},i<=k->k<=N->(aI i).n<=(aI k).n
 |i,0,h,_=>by rw[Nat.le_zero.1 h];exact aR _
 |i,k+1,h,hk=>by
  by_cases e:i=k+1
  ·rw[e];exact aR _
  ·exact qz (T.mono (i:=i) (k:=k) (by omega) (by omega)) (T.gJ k (by omega))
def Nm{a b:FP}(h:FP.free a b=true):(∀j∈a.wr,¬b.de j)/\(∀j∈a.wr,j∉b.wr)/\(∀j∈b.wr,¬a.de j)/\∀j∈b.wr,¬(a.lo<=j/\j<a.hi):=by
 unfold FP.free at h
 simp only[Dt,Bool.or_eq_false_iff]at h
 obtain⟨⟨⟨h1,h2⟩,h3⟩,h4⟩:=h
 have key:∀(l:List Nat) (o:Option (List Nat)),t_ l o=false->∀j∈l,¬(match o with|none=>True|some q=>j∈q):=by
  intro l o h j hj
  cases o with
  |none=>
   simp only[t_,Bool.not_eq_false',List.isEmpty_iff]at h
   subst h;simp at hj
  |some q=>
   simp only[t_,List.any_eq_false,Na]at h
   exact h j hj
 refine⟨fun j hj=>?_,fun j hj=>?_,fun j hj=>?_,fun j hj=>?_⟩
 ·have:=key _ _ h1 j hj
  unfold FP.de
  exact this
 ·exact key _ _ h2 j hj
 ·have:=key _ _ h3 j hj
  unfold FP.de
  exact this
 ·simp only[List.any_eq_false]at h4
  have:=h4 j hj
  intro hc
  apply this
  simp[Nat.ble_eq,Nat.blt_eq,hc.1,hc.2]
def Zxd(T:sQ P μ aI bo aX N)(I:Inv P μ w aI bo aX ds N W S μ' a' w')(Or:Ord aX mo N jQ)(dM:∀k,S k=true->∀i,jQ k i->S i=true){i:Nat}(hi:i<N)(hS:S i=false)(hb:∀j,jQ i j->S j=true)
  {j:Nat} {l:L} (hj:μ' j=some l) (aO:j<(aI i).n) (hs:(aX i).de j):
  (∀k,k<i->sN aI aX k j->S k=true)/\(∀k,i<=k->k<N->sN aI aX k j->S k=false):=by
 refine⟨fun k hk ht=>?_,fun k hk AB ht=>?_⟩
 ·rcases ht with ht|⟨h1,h2⟩
  ·rcases Or.free k i hk hi with h|h
   ·exact hb k h
   ·exact absurd hs ((Nm h).1 j ht)
  ·rcases(I.cU j l hj).1 with h0|⟨k',h3,h4,h5,h6⟩
   ·have:=T.mono (i:=0) (k:=k) (by omega) (by omega)
    omega
   ·have:k'=k:=by
     rcases Nat.lt_trichotomy k k' with h|h|h
     ·have:=T.mono (i:=k+1) (k:=k') (by omega) (by omega);omega
     ·exact h.symm
     ·have:=T.mono (i:=k'+1) (k:=k) (by omega) (by omega);omega
    subst this;exact h4
 ·by_cases e:k=i
  ·rw[e];exact hS
  ·rcases ht with ht|⟨h1,h2⟩
   ·rcases Or.free i k (by omega) AB with h|h
    ·cases hq:S k with
     |false=>rfl
     |true=>rw[dM k hq i h]at hS;cases hS
    ·exact absurd hs ((Nm h).2.2.1 j ht)
   ·have:=T.mono (i:=i) (k:=k) hk (by omega)
    omega
def Zsu(T:sQ P μ aI bo aX N)(Or:Ord aX mo N jQ)(dM:∀k,S k=true->∀i,jQ k i->S i=true){i:Nat}(hi:i<N)(hS:S i=false)
  {j:Nat} (ht:sN aI aX i j):∀k,i<k->k<N->sN aI aX k j->S k=false:=by
 intro k hk AB kf
 have IS:=Or.free i k hk AB
 have Sj:jQ k i->S k=false:=fun h=>by
  cases hq:S k with
  |false=>rfl
  |true=>rw[dM k hq i h]at hS;cases hS
 rcases IS with h|h
 ·exact Sj h
 ·exfalso
  have hm:=T.mono (i:=i+1) (k:=k) (by omega) (by omega)
  have sS:=T.gJ i hi
  rcases ht with ht|⟨h1,h2⟩
  ·rcases kf with kf|⟨h3,h4⟩
   ·exact(Nm h).2.1 j ht kf
   ·have:=T.Sk i hi j ht;omega
  ·rcases kf with kf|⟨h3,h4⟩
   ·refine(Nm h).2.2.2 j kf ⟨?_,?_⟩
    ·rw[T.lo i hi];exact h1
    ·rw[T.hi i hi];exact h2
   ·omega
def Sm{d:Option Nat}{l:List Nat}(h:IN d l=false):∀t,d=some t->t∉l:=by
 intro t ht hm
 subst ht
 simp only[IN]at h
 have:l.contains t=true:=Na.2 hm
 rw[this]at h;cases h
def So{a b:dk}(h:M7 a b=true):(∀t,a.dst=some t->t∉b.reads)/\(∀t,b.dst=some t->t∉a.reads)/\∀t,a.dst=some t->b.dst≠some t:=by
 unfold M7 at h
 simp only[Dt,Bool.or_eq_false_iff]at h
 obtain⟨⟨h1,h2⟩,h3⟩:=h
 exact⟨Sm h1,Sm h2,fun t ht hb=>Sm h3 t ht (by rw[hb];simp)⟩
def Zxf(Or:Ord aX mo N jQ)(dM:∀k,S k=true->∀i,jQ k i->S i=true)(nZ:∀k,k<N->ds k=(mo k).dst){i:Nat}(hi:i<N)(hS:S i=false)(hb:∀j,jQ i j->S j=true)
  {t:Nat} (ht:t∈(mo i).reads):(∀k,k<i->ds k=some t->S k=true)/\(∀k,i<=k->k<N->ds k=some t->S k=false):=by
 refine⟨fun k hk hd=>?_,fun k hk AB hd=>?_⟩
 ·rcases Or.tmp k i hk hi with h|h
  ·exact hb k h
  ·rw[nZ k (by omega)]at hd
   exact absurd ht ((So h).1 t hd)
 ·by_cases e:k=i
  ·rw[e];exact hS
  ·rcases Or.tmp i k (by omega) AB with h|h
   ·cases hq:S k with
    |false=>rfl
    |true=>rw[dM k hq i h]at hS;cases hS
   ·rw[nZ k AB]at hd
    exact absurd ht ((So h).2.1 t hd)
def Yc5(Or:Ord aX mo N jQ)(dM:∀k,S k=true->∀i,jQ k i->S i=true)(nZ:∀k,k<N->ds k=(mo k).dst){i:Nat}(hi:i<N)(hS:S i=false)
  {t:Nat} (ht:ds i=some t):∀k,i<k->k<N->ds k=some t->S k=false:=by
 intro k hk AB hd
 rcases Or.tmp i k hk AB with h|h
 ·cases hq:S k with
  |false=>rfl
  |true=>rw[dM k hq i h]at hS;cases hS
 ·rw[nZ i hi]at ht
  rw[nZ k AB]at hd
  exact absurd hd ((So h).2.2 t ht)
end
section
variable {P:Program} {μ μ':Mu} {w w':World} {aI:Nat->St} {bo:Nat->Fr} {aX:Nat->FP} {ds:Nat->Option Nat} {S:Nat->Bool} {N:Nat} {W:List Nat} {a a':Act} {mo:Nat->dk} {jQ:Nat->Nat->Prop}
def xJ(μ':Mu)(n:Nat):Mu:=fun j=>if j<n then μ' j else none
def IT{n j:Nat}(h:j<n):xJ μ' n j=μ' j:=aJ h
def B1{n j:Nat}{l:L}(h:xJ μ' n j=some l):j<n/\μ' j=some l:=by
 unfold xJ at h
 split at h
 ·exact⟨by assumption,h⟩
 ·cases h
def YH(h0:a_ P μ w (aI 0))(T:sQ P μ aI bo aX N)(I:Inv P μ w aI bo aX ds N W S μ' a' w')(Or:Ord aX mo N jQ)(dM:∀k,S k=true->∀i,jQ k i->S i=true){i:Nat}(hi:i<N)(hS:S i=false)(hb:∀j,jQ i j->S j=true)
  {σ:St} (hn:σ.n=(aI i).n) (hs:∀j,j<(aI i).n->(aX i).de j->σ.h.get j=(aI i).h.get j) (hd:∀j,j<(aI i).n->¬(aX i).de j->σ.h.get j=((aI i).h.get j).map fun _=>.dead):
  a_ P (xJ μ' (aI i).n) w' σ/\∀j l,μ' j=some l->j<(aI i).n->(aX i).de j->σ.h.get j=jd aI aX S N j:=by
 have je:∀j l,μ' j=some l->j<(aI i).n->(aX i).de j->jd aI aX S N j=(aI i).h.get j:=fun j l hj aO qB=>by
  obtain⟨h1,h2⟩:=Zxd T I Or dM hi hS hb hj aO qB
  rw[Nk (i:=i) (by omega) h2,Sh T (by omega) aO h1]
 have sU:∀j l,μ' j=some l->j<(aI i).n->(aX i).de j->σ.h.get j=jd aI aX S N j:=fun j l hj aO qB=>by rw[hs j aO qB,je j l hj aO qB]
 have hold:∀j l,μ' j=some l->j<(aI 0).n->∃l,μ j=some l:=fun j l hj h0=>⟨l,by rw[<-I.ext j h0];exact hj⟩
 refine⟨⟨fun j l hj=>?_,fun j l hj=>?_,fun j k lj lk oj ok hj hk bK h1 h2 hw hl=>?_,fun g hg=>?_⟩,sU⟩
 ·obtain⟨h1,h2⟩:=B1 hj
  exact⟨by omega,(I.cU j l h2).2⟩
 ·obtain⟨h1,h2⟩:=B1 hj
  obtain⟨o,μT,wT,lT,t1,t2,t3⟩:=T.sch i (by omega) j (hold j l h2) h1
  by_cases qB:(aX i).de j
  ·obtain⟨o',q1,q2⟩:=I.obj j l h2
   rw[je j l h2 h1 qB,t1,ak]at q1
   subst q1
   exact⟨o,by rw[hs j h1 qB,t1],OM.cut (n:=(aI i).n) (fun k lk hk kf=>by rw[IT hk];exact kf) t3 t2 q2⟩
  ·exact⟨.dead,by rw[hd j h1 qB,t1];rfl,trivial⟩
 ·obtain⟨a1,a2⟩:=B1 hj
  obtain⟨b1,b2⟩:=B1 hk
  have sj:(aX i).de j:=Classical.byContradiction fun hn=>by
   rw[hd j a1 hn]at h1
   cases hq:(aI i).h.get j<;>rw[hq]at h1<;>simp at h1
   subst h1;simp[O.wr]at hw
  have sk:(aX i).de k:=Classical.byContradiction fun hn=>by
   rw[hd k b1 hn]at h2
   cases hq:(aI i).h.get k<;>rw[hq]at h2<;>simp at h2
   subst h2;simp[O.live]at hl
  exact I.inj j k lj lk oj ok a2 b2 bK (by rw[<-sU j lj a2 a1 sj];exact h1) (by rw[<-sU k lk b2 b1 sk];exact h2) hw hl
 ·obtain⟨t,ht⟩:=h0.gj g hg
  have AD:=(h0.cU g _ ht).1
  have:=T.mono (i:=0) (k:=i) (by omega) (by omega)
  exact⟨t,by rw[IT (by omega),I.ext g AD];exact ht⟩
def Yg1(T:sQ P μ aI bo aX N){vI:Nat->V}(Pu:DV bo ds vI N)(I:Inv P μ w aI bo aX ds N W S μ' a' w')(Or:Ord aX mo N jQ)(dM:∀k,S k=true->∀i,jQ k i->S i=true)(nZ:∀k,k<N->ds k=(mo k).dst)
  {i:Nat} (hi:i<N) (hS:S i=false) (hb:∀j,jQ i j->S j=true):
  RR (xJ μ' (aI i).n) (xI (bo i).r (mo i).reads) (bo 0).n a'.tmps:=by
 refine⟨I.sR.1,fun t v hv=>?_⟩
 rw[IQ]at hv
 split at hv
 ·rename_i ht
  obtain⟨h1,h2⟩:=Zxf Or dM nZ hi hS hb ht
  have hc:sO bo ds S N t=some v:=by
   rw[Nl (i:=i) (by omega) h2,Si Pu (by omega) h1];exact hv
  obtain⟨x,hx,hr⟩:=I.sR.2 t v hc
  exact⟨x,hx,VR.cut (n:=(aI i).n) (fun k lk hk kf=>by rw[IT hk];exact kf) v x (T.scr i (by omega) t v hv) hr⟩
 ·cases hv
def B2(μ' μ2:Mu)(n n':Nat):Mu:=fun j=>if j<n then μ' j else if j<n' then μ2 j else μ' j
def sQ.B3(T:sQ P μ aI bo aX N):∀{i j:Nat} {o':O},i<=N->j<(aI 0).n->(aI i).h.get j=some o'->o'.wr=true->∃o,(aI 0).h.get j=some o/\o.wr=true
 |0,j,o',_,_,h,hw=>⟨o',h,hw⟩
 |i+1,j,o',hi,hj,h,hw=>by
  have:=T.mono (i:=0) (k:=i) (by omega) (by omega)
  obtain⟨o,h1,h2,_⟩:=T.grow i (by omega) j o' (by omega) h
  exact T.B3 (by omega) hj h1 (h2 hw)
def YI(h0:a_ P μ w (aI 0))(T:sQ P μ aI bo aX N){vI:Nat->V}(Pu:DV bo ds vI N)(I:Inv P μ w aI bo aX ds N W S μ' a' w')(Or:Ord aX mo N jQ)(dM:∀k,S k=true->∀i,jQ k i->S i=true)
  (nZ:∀k,k<N->ds k=(mo k).dst) (hW:∀k,k<N->∀j∈(aX k).wr,j∈W) {i:Nat} (hi:i<N) (hS:S i=false) (uD:∀d,ds i=some d->d<(bo 0).n)
  {σ σ':St} {μ2:Mu} {w2:World} {ws:List Nat} {x:Value} (qC:a_ P (xJ μ' (aI i).n) w' σ) (je:∀j l,μ' j=some l->j<(aI i).n->(aX i).de j->σ.h.get j=jd aI aX S N j)
  (hn:σ.n=(aI i).n) (AE:σ'.n=(aI (i+1)).n) (ff:bA P (xJ μ' (aI i).n) w' σ μ2 w2 σ' ws) (oz:∀j,j<(aI i).n->(j∈ws↔j∈(aX i).wr)) (sV:∀j∈ws,(aX i).de j)
  (cK:∀j,((aX i).de j/\j<(aI i).n)\/((aI i).n<=j/\j<(aI (i+1)).n)->σ'.h.get j=(aI (i+1)).h.get j) (hx:VR μ2 (vI i) x):
  Inv P μ w aI bo aX ds N W (ku S i) (B2 μ' μ2 (aI i).n (aI (i+1)).n) (a'.put (ds i) x) w2:=by
 have hle:=T.gJ i hi
 have zao:=T.mono (i:=0) (k:=i) (by omega) (by omega)
 have xL:∀j l,μ' j=some l->¬((aI i).n<=j/\j<(aI (i+1)).n):=fun j l hj hc=>by
  rcases(I.cU j l hj).1 with h|⟨k,h3,h4,h5,h6⟩
  ·omega
  ·have hk:k=i:=by
    rcases Nat.lt_trichotomy k i with h|h|h
    ·have:=T.mono (i:=k+1) (k:=i) (by omega) (by omega);omega
    ·exact h
    ·have:=T.mono (i:=i+1) (k:=k) (by omega) (by omega);omega
   subst hk;rw[hS]at h4;cases h4
 have DW:∀j,j<(aI i).n->μ2 j=μ' j:=fun j hj=>by rw[ff.ext j (by omega),IT hj]
 have AF:∀j l,μ' j=some l->B2 μ' μ2 (aI i).n (aI (i+1)).n j=some l:=fun j l hj=>by
  unfold B2
  by_cases e1:j<(aI i).n
  ·rw[aJ e1];exact hj
  ·by_cases e2:j<(aI (i+1)).n
   ·exact absurd ⟨by omega,e2⟩ (xL j l hj)
   ·rw[aq e1,aq e2];exact hj
 have AG:∀j l,μ2 j=some l->B2 μ' μ2 (aI i).n (aI (i+1)).n j=some l:=fun j l hj=>by
  have hd:=(ff.hr.cU j l hj).1
  unfold B2
  by_cases e1:j<(aI i).n
  ·rw[aJ e1,<-DW j e1];exact hj
  ·rw[aq e1,aJ (by omega)];exact hj
 have hinv:∀j l,B2 μ' μ2 (aI i).n (aI (i+1)).n j=some l->(μ' j=some l)\/((aI i).n<=j/\j<(aI (i+1)).n/\μ2 j=some l):=fun j l hj=>by
  unfold B2 at hj
  split at hj
  ·exact .inl hj
  ·split at hj
   ·exact .inr ⟨by omega,by assumption,hj⟩
   ·exact .inl hj
 have sW:∀j,sN aI aX i j->jd aI aX (ku S i) N j=(aI (i+1)).h.get j:=fun j ht=>Ydp hi ht (Zsu T Or dM hi hS ht)
 have told:∀j l,μ' j=some l->¬j∈(aX i).wr->jd aI aX (ku S i) N j=jd aI aX S N j:=fun j l hj hnw=>YE fun h=>h.elim hnw fun h=>xL j l hj h
 have DX:∀j l o',μ' j=some l->jd aI aX (ku S i) N j=some o'->∃o,jd aI aX S N j=some o/\(o'.wr=true->o.wr=true)/\(o'.live=true->o.live=true):=fun j l o' hj ho=>by
  by_cases hw:j∈(aX i).wr
  ·have aO:=T.Sk i hi j hw
   have qB:=sV j ((oz j aO).2 hw)
   rw[sW j (.inl hw),<-cK j (.inl ⟨qB,aO⟩)]at ho
   obtain⟨o,q1,q2,q3⟩:=ff.grow j o' (by omega) ho
   exact⟨o,by rw[<-je j l hj aO qB];exact q1,q2,q3⟩
  ·rw[told j l hj hw]at ho
   exact⟨o',ho,id,id⟩
 have YJ:∀j∈ws,∀lj,xJ μ' (aI i).n j=some lj->∃o,jd aI aX S N j=some o/\o.wr=true:=fun j hj lj ry=>by
  obtain⟨h1,h2⟩:=B1 ry
  obtain⟨o,q1,q2⟩:=ff.wA j hj (by omega)
  exact⟨o,by rw[<-je j lj h2 h1 (sV j hj)];exact q1,q2⟩
 have IU:∀j l,(aI i).n<=j->μ2 j=some l->w'.heap.size<=l.b\/∃k lk,k∈ws/\k<(aI i).n/\μ' k=some lk/\lk.b=l.b/\∃o,jd aI aX S N k=some o/\o.wr=true:=fun j l hj hl=>by
  rcases ff.new j l (by omega) hl with h|⟨k,hk,YK,lk,ok,h1,h2,h3,h4⟩
  ·exact .inl h
  ·obtain⟨_,q2⟩:=B1 h1
   exact .inr ⟨k,lk,hk,by omega,q2,h2,YJ k hk lk h1⟩
 refine⟨fun j hj=>?_,fun j l hj=>?_,fun k hk YL j h1 h2=>?_,fun j l hj=>?_,fun j k lj lk oj ok hj hk bK h1 h2 hw hl=>?_,⟨?_,fun t v hv=>?_⟩,?_,?_,fun j l DY hj=>?_⟩
 ·-- ext
  unfold B2
  rw[aJ (by omega)];exact I.ext j hj
 ·-- cU
  rcases hinv j l hj with h|⟨h1,h2,h3⟩
  ·obtain⟨d1,d2⟩:=I.cU j l h
   refine⟨d1.imp id fun ⟨k,q1,q2,q3⟩=>⟨k,q1,?_,q3⟩,ic d2 ff.dV.size⟩
   simp only[ku];split<;>first|rfl|exact q2
  ·exact⟨.inr ⟨i,hi,by simp[ku],h1,h2⟩,(ff.hr.cU j l h3).2⟩
 ·-- full
  by_cases e:k=i
  ·subst e
   obtain⟨l,hl⟩:=ff.full j (by omega) (by omega)
   exact⟨l,AG j l hl⟩
  ·simp only[ku,e,if_false]at YL
   obtain⟨l,hl⟩:=I.full k hk YL j h1 h2
   exact⟨l,AF j l hl⟩
 ·-- obj
  rcases hinv j l hj with h|⟨h1,h2,h3⟩
  ·by_cases hw:j∈(aX i).wr
   ·have aO:=T.Sk i hi j hw
    have qB:=sV j ((oz j aO).2 hw)
    obtain⟨o,q1,q2⟩:=ff.hr.obj j l (by rw[DW j aO];exact h)
    exact⟨o,by rw[sW j (.inl hw),<-cK j (.inl ⟨qB,aO⟩)];exact q1,q2.mono AG⟩
   ·obtain⟨o,q1,q2⟩:=I.obj j l h
    refine⟨o,by rw[told j l h hw];exact q1,?_⟩
    cases hl:o.live with
    |false=>cases o<;>simp[O.live]at hl;trivial
    |true=>
     refine(q2.mono AF).congr (ff.dV.block l.b (I.cU j l h).2 fun k hk lk fz=>?_)
     obtain⟨q3,q4⟩:=B1 fz
     obtain⟨ok,q5,q6⟩:=YJ k hk lk fz
     exact I.inj k j lk l ok o q4 h (fun hc=>hw (by rw[<-hc];exact(oz k q3).1 hk)) q5 q1 q6 hl
  ·obtain⟨o,q1,q2⟩:=ff.hr.obj j l h3
   exact⟨o,by rw[sW j (.inr ⟨h1,h2⟩),<-cK j (.inr ⟨h1,h2⟩)];exact q1,q2.mono AG⟩
 ·-- inj
  have B4:∀j k lj lk oj ok,(aI i).n<=j->j<(aI (i+1)).n->μ2 j=some lj->μ' k=some lk->jd aI aX (ku S i) N j=some oj->jd aI aX (ku S i) N k=some ok->((oj.wr=true/\ok.live=true)\/(ok.wr=true/\oj.live=true))->lj.b≠lk.b:=by
   intro j k lj lk oj ok B5 nH Sp hk Dp kZ B6
   have AH:ok.live=true:=by
    rcases B6 with h|h
    ·exact h.2
    ·have:=h.1;cases ok<;>simp_all [O.wr,O.live]
   rcases IU j lj B5 Sp with h|⟨q,lq,h1,h2,h3,h4,o,h5,h6⟩
   ·have:=(I.cU k lk hk).2;omega
   ·rw[<-h4]
    by_cases e:q=k
    ·subst e
     rw[h3,ak]at hk;subst hk
     have hwq:=(oz q h2).1 h1
     rw[sW j (.inr ⟨B5,nH⟩),<-cK j (.inr ⟨B5,nH⟩)]at Dp
     rw[sW q (.inl hwq),<-cK q (.inl ⟨sV q h1,h2⟩)]at kZ
     have jZ:μ2 q=some lq:=by rw[DW q h2];exact h3
     exfalso
     rcases B6 with hb|hb
     ·exact ff.hr.inj j q lj lq oj ok Sp jZ (by omega) Dp kZ hb.1 hb.2 h4.symm
     ·exact ff.hr.inj q j lq lj ok oj jZ Sp (by omega) kZ Dp hb.1 hb.2 h4
    ·obtain⟨Sq,g1,g2,g3⟩:=DX k lk ok hk kZ
     exact I.inj q k lq lk o Sq h3 hk e h5 g1 h6 (g3 AH)
  rcases hinv j lj hj with IB|⟨a1,a2,a3⟩
  ·rcases hinv k lk hk with jE|⟨b1,b2,b3⟩
   ·obtain⟨oj0,g1,g2,g3⟩:=DX j lj oj IB h1
    obtain⟨Sq,g4,g5,g6⟩:=DX k lk ok jE h2
    exact I.inj j k lj lk oj0 Sq IB jE bK g1 g4 (g2 hw) (g6 hl)
   ·exact(B4 k j lk lj ok oj b1 b2 b3 IB h2 h1 (.inr ⟨hw,hl⟩)).symm
  ·rcases hinv k lk hk with jE|⟨b1,b2,b3⟩
   ·exact B4 j k lj lk oj ok a1 a2 a3 jE h1 h2 (.inl ⟨hw,hl⟩)
   ·rw[sW j (.inr ⟨a1,a2⟩),<-cK j (.inr ⟨a1,a2⟩)]at h1
    rw[sW k (.inr ⟨b1,b2⟩),<-cK k (.inr ⟨b1,b2⟩)]at h2
    exact ff.hr.inj j k lj lk oj ok a3 b3 bK h1 h2 hw hl
 ·-- the temporaries' count
  cases hd:ds i<;>simp[Act.put,I.sR.1]
 ·-- the temporaries
  by_cases ht:ds i=some t
  ·rw[Ydo Pu hi ht (Yc5 Or dM nZ hi hS ht),ak]at hv
   subst hv
   refine⟨x,?_,VR.mono AG _ _ hx⟩
   rw[ht]
   simp[Act.put,I.sR.1,uD t ht]
  ·rw[YF ht]at hv
   obtain⟨y,q1,q2⟩:=I.sR.2 t v hv
   refine⟨y,?_,VR.mono AF _ _ q2⟩
   cases hd:ds i with
   |none=>simpa[Act.put]using q1
   |some d=>
    have:d≠t:=fun hc=>ht (by rw[hd,hc])
    simp only[Act.put]
    rw[Gw this];exact q1
 ·-- the marks
  have:(a'.put (ds i) x).defers=a'.defers:=by cases ds i<;>rfl
  rw[this];exact I.defs.mono AF
 ·-- the frame
  refine⟨ff.dV.os.trans I.dV.os,ff.dV.tape.trans I.dV.tape,ff.dV.output.trans I.dV.output,qz I.dV.size ff.dV.size,fun b hb dq=>?_⟩
  rw[ff.dV.block b (ic hb I.dV.size) fun j hj lj ry=>?_,I.dV.block b hb dq]
  obtain⟨q1,q2⟩:=B1 ry
  by_cases e:j<(aI 0).n
  ·exact dq j (hW i hi j ((oz j q1).1 hj)) lj (by rw[<-I.ext j e];exact q2)
  ·rcases I.new j lj (by omega) q2 with h|⟨k,hk,_,lk,_,h3,h4,_⟩
   ·omega
   ·rw[<-h4];exact dq k hk lk h3
 ·-- new ids
  rcases hinv j l hj with h|⟨h1,h2,h3⟩
  ·exact I.new j l DY h
  ·rcases IU j l h1 h3 with h|⟨q,lq,q1,q2,q3,q4,o,q5,q6⟩
   ·exact .inl (qz I.dV.size h)
   ·by_cases e:q<(aI 0).n
    ·have hqW:=hW i hi q ((oz q q2).1 q1)
     obtain⟨oi,g1,g2⟩:=T.wA i hi q ((oz q q2).1 q1)
     obtain⟨o0,g3,g4⟩:=T.B3 (by omega) e g1 g2
     exact .inr ⟨q,hqW,e,lq,o0,by rw[<-I.ext q e];exact q3,q4,g3,g4⟩
    ·rcases I.new q lq (by omega) q3 with h|⟨k,hk,g1,lk,ok,g2,g3,g4⟩
     ·exact .inl (by omega)
     ·exact .inr ⟨k,hk,g1,lk,ok,g2,g3.trans q4,g4⟩
end
end Go.Mx
