/-A region that draws its order-/
import Derived.Test.YtgnadghjglamaaaGreatDoorMxSel
set_option linter.all false
namespace Go.Mx
open Go
def Zij(stI:Nat→St)(fpI:Nat→FP)(k j:Nat):Prop:=j∈(fpI k).wr∨((stI k).n≤j∧j<(stI (k+1)).n)
instance (stI:Nat→St) (fpI:Nat→FP) (k j:Nat):Decidable (Zij stI fpI k j):=by unfold Zij;infer_instance
def Zdr(stI:Nat→St)(fpI:Nat→FP)(S:Nat→Bool):Nat→Nat→Option O
 |0,j=>(stI 0).h.get j
 |k+1,j=>if S k=true∧Zij stI fpI k j then (stI (k+1)).h.get j else Zdr stI fpI S k j
def Zi0(frI:Nat→Fr)(ds:Nat→Option Nat)(S:Nat→Bool):Nat→Nat→Option V
 |0,t=>(frI 0).r.get t
 |k+1,t=>if S k=true∧ds k=some t then (frI (k+1)).r.get t else Zi0 frI ds S k t
def Zll(S:Nat→Bool)(i:Nat):Nat→Bool:=fun k=>if k=i then true else S k
section
variable {P:Program} {μ:Mu} {stI:Nat→St} {frI:Nat→Fr} {fpI:Nat→FP} {ds:Nat→Option Nat} {S:Nat→Bool} {N:Nat}
def Zp4(T:Txt P μ stI frI fpI N):∀{i j:Nat},i≤N→j<(stI i).n→(∀k,k<i→Zij stI fpI k j→S k=true)→Zdr stI fpI S i j=(stI i).h.get j
 |0,j,_,_,_=>rfl
 |i+1,j,hi,hj,h=>by
  simp only[Zdr]
  by_cases ht:Zij stI fpI i j
  ·rw[Yrw ⟨h i (by omega) ht,ht⟩]
  ·rw[Yrt (fun hc=>ht hc.2)]
   simp only[Zij,not_or,not_and,Yuw]at ht
   have hlt:j<(stI i).n:=by
    rcases Nat.lt_or_ge j (stI i).n with h1|h1
    ·exact h1
    ·have:=ht.2 h1;omega
   rw[Zp4 T (by omega) hlt fun k hk=>h k (by omega),T.keep i (by omega) j hlt ht.1]
def Zh3:∀{M i j:Nat},i≤M→(∀k,i≤k→k<M→Zij stI fpI k j→S k=false)→Zdr stI fpI S M j=Zdr stI fpI S i j
 |0,i,j,hi,_=>by rw[Nat.le_zero.1 hi]
 |M+1,i,j,hi,h=>by
  by_cases e:i=M+1
  ·rw[e]
  ·simp only[Zdr]
   rw[Yrt,Zh3 (by omega) fun k h1 h2=>h k h1 (by omega)]
   rintro⟨h1,h2⟩
   rw[h M (by omega) (by omega) h2]at h1;cases h1
def Zhh{i:Nat}:∀{M j:Nat},¬Zij stI fpI i j→Zdr stI fpI (Zll S i) M j=Zdr stI fpI S M j
 |0,j,_=>rfl
 |M+1,j,h=>by
  simp only[Zdr]
  rw[Zhh h]
  by_cases e:M=i
  ·subst e
   rw[Yrt (fun hc=>h hc.2),Yrt (fun hc=>h hc.2)]
  ·simp only[Zll,e,if_false]
def Ydc{i j:Nat}(hi:i<N)(ht:Zij stI fpI i j)(h:∀k,i<k→k<N→Zij stI fpI k j→S k=false):Zdr stI fpI (Zll S i) N j=(stI (i+1)).h.get j:=by
 rw[Zh3 (i:=i+1) (by omega) fun k h1 h2 h3=>by simp only[Zll];rw[Yrt (by omega)];exact h k (by omega) h2 h3]
 simp only[Zdr,Zll]
 rw[Yrw ⟨by simp,ht⟩]
def Ylr(frI:Nat→Fr)(ds:Nat→Option Nat)(vI:Nat→V)(N:Nat):Prop:=∀i,i<N→∀t,(frI (i+1)).r.get t=if ds i=some t then some (vI i) else (frI i).r.get t
def Zp3{vI:Nat→V}(T:Ylr frI ds vI N):∀{i t:Nat},i≤N→(∀k,k<i→ds k=some t→S k=true)→Zi0 frI ds S i t=(frI i).r.get t
 |0,t,_,_=>rfl
 |i+1,t,hi,h=>by
  simp only[Zi0]
  by_cases ht:ds i=some t
  ·rw[Yrw ⟨h i (by omega) ht,ht⟩]
  ·rw[Yrt (fun hc=>ht hc.2),Zp3 T (by omega) fun k hk=>h k (by omega),T i (by omega) t,Yrt ht]
def Zh2:∀{M i t:Nat},i≤M→(∀k,i≤k→k<M→ds k=some t→S k=false)→Zi0 frI ds S M t=Zi0 frI ds S i t
 |0,i,t,hi,_=>by rw[Nat.le_zero.1 hi]
 |M+1,i,t,hi,h=>by
  by_cases e:i=M+1
  ·rw[e]
  ·simp only[Zi0]
   rw[Yrt,Zh2 (by omega) fun k h1 h2=>h k h1 (by omega)]
   rintro⟨h1,h2⟩
   rw[h M (by omega) (by omega) h2]at h1;cases h1
def Zhg{i:Nat}:∀{M t:Nat},ds i≠some t→Zi0 frI ds (Zll S i) M t=Zi0 frI ds S M t
 |0,t,_=>rfl
 |M+1,t,h=>by
  simp only[Zi0]
  rw[Zhg h]
  by_cases e:M=i
  ·subst e
   rw[Yrt (fun hc=>h hc.2),Yrt (fun hc=>h hc.2)]
  ·simp only[Zll,e,if_false]
def Ydb{vI:Nat→V}(T:Ylr frI ds vI N){i t:Nat}(hi:i<N)(ht:ds i=some t)(h:∀k,i<k→k<N→ds k=some t→S k=false):Zi0 frI ds (Zll S i) N t=some (vI i):=by
 rw[Zh2 (i:=i+1) (by omega) fun k h1 h2 h3=>by simp only[Zll];rw[Yrt (by omega)];exact h k (by omega) h2 h3]
 simp only[Zi0,Zll]
 rw[Yrw ⟨by simp,ht⟩,T i hi t,Yrw ht]
def Yc8(r:T V):List Nat→T V
 |[]=>.nil
 |t::ts=>match r.get t with
  |some v=>(Yc8 r ts).set t v
  |none=>Yc8 r ts
def Zke(r:T V):∀(ts:List Nat) (t:Nat),(Yc8 r ts).get t=if t∈ts then r.get t else none
 |[],t=>by simp[Yc8,T.get]
 |u::ts,t=>by
  simp only[Yc8]
  split
  ·rename_i v hv
   rw[T.get_set,Zke r ts t]
   by_cases e:t=u
   ·subst e;simp[hv]
   ·simp[e]
  ·rename_i hv
   rw[Zke r ts t]
   by_cases e:t=u
   ·subst e;simp[hv]
   ·simp[e]
def Yk5{r:T V}{ts:List Nat}{s:Src}(h:∀t∈s.tmps,t∈ts):s.ev (Yc8 r ts)=s.ev r:=by
 cases s with
 |const v=>rfl
 |tmp t=>simp only[Src.ev];rw[Zke,Yrw (h t (by simp[Src.tmps]))]
def Zcc(h:T O)(keep:List Nat):Nat→T O
 |0=>.nil
 |n+1=>match h.get n with
  |some o=>(Zcc h keep n).set n (if n∈keep then o else .dead)
  |none=>Zcc h keep n
def Zd3(h:T O)(keep:List Nat):∀(n j:Nat),(Zcc h keep n).get j=if j<n then (h.get j).map fun o=>if j∈keep then o else .dead else none
 |0,j=>by simp[Zcc,T.get]
 |n+1,j=>by
  simp only[Zcc]
  split
  ·rename_i o ho
   rw[T.get_set,Zd3 h keep n j]
   by_cases e:j=n
   ·subst e;simp[ho]
   ·rw[Yrt e]
    by_cases e2:j<n
    ·rw[Yrw e2,Yrw (by omega)]
    ·rw[Yrt e2,Yrt (by omega)]
  ·rename_i ho
   rw[Zd3 h keep n j]
   by_cases e:j=n
   ·subst e;simp[ho]
   ·by_cases e2:j<n
    ·rw[Yrw e2,Yrw (by omega)]
    ·rw[Yrt e2,Yrt (by omega)]
def FP.sees(f:FP)(j:Nat):Prop:=
 match f.rd with
 |none=>True
 |some l=>j∈l
def Yab{st σ:St}{i:Nat}(h:σ.h.get i=st.h.get i):σ.row i=st.row i:=by unfold St.row;rw[h]
def Yfw{call:Za1}{r:T V}{op:MOp}{st s':St}{v:V}{ws:List Nat}{lo hi:Nat}(hm:mop op call r {st with w:=[]}=some (v,s'))(hlo:lo=st.n):
  ∃σ σ',σ.n=st.n∧σ.w=[]∧mop op call r σ=some (v,σ')∧σ'.n=s'.n∧σ'.w=s'.w∧
   (∀j,j<st.n→(Zcr r op ws lo hi).sees j→σ.h.get j=st.h.get j)∧(∀j,j<st.n→¬(Zcr r op ws lo hi).sees j→σ.h.get j=(st.h.get j).map fun _=>.dead)∧
   (∀j,((Zcr r op ws lo hi).sees j∧j<st.n)∨(st.n≤j∧j<s'.n)→σ'.h.get j=s'.h.get j)∧(∀j∈s'.w,(Zcr r op ws lo hi).sees j):=by
 by_cases hs:op.silent=true
 ·have hf:Zcr r op ws lo hi=⟨some [],[],lo,hi⟩:=by unfold Zcr;rw[Yrw hs]
  rw[hf]
  have hd:∀j,j<st.n→(Zcc st.h [] st.n).get j=(st.h.get j).map fun _=>.dead:=fun j hj=>by
   rw[Zd3,Yrw hj];simp
  rcases Zmh hs (Zcc st.h [] st.n) [] hm with⟨h1,h2⟩|⟨o,h1,h2⟩
  ·subst h1
   exact⟨⟨Zcc st.h [] st.n,st.n,[]⟩,_,rfl,rfl,h2,rfl,rfl,fun j _ hj=>by simp[FP.sees]at hj,fun j hj _=>hd j hj,fun j hj=>by
    rcases hj with⟨hj,_⟩|⟨h1,h2⟩
    ·simp[FP.sees]at hj
    ·simp only at h2;omega,fun j hj=>by simp at hj⟩
  ·subst h1
   refine⟨⟨Zcc st.h [] st.n,st.n,[]⟩,_,rfl,rfl,h2,rfl,rfl,fun j _ hj=>by simp[FP.sees]at hj,fun j hj _=>hd j hj,fun j hj=>?_,fun j hj=>by simp[St.alloc]at hj⟩
   rcases hj with⟨hj,_⟩|⟨h1,h2⟩
   ·simp[FP.sees]at hj
   ·simp only[St.alloc]at h2 ⊢
    have:j=st.n:=by omega
    subst this
    rw[T.get_set,T.get_set,Yrw rfl,Yrw rfl]
 ·cases hl:Zvv r op with
  |none=>
   have hf:Zcr r op ws lo hi=⟨none,ws,lo,hi⟩:=by unfold Zcr;rw[Yrt hs,hl]
   rw[hf]
   exact⟨{st with w:=[]},s',rfl,rfl,hm,rfl,rfl,fun _ _ _=>rfl,fun _ _ hj=>absurd trivial hj,fun _ _=>rfl,fun _ _=>trivial⟩
  |some i=>
   by_cases hi':i<st.n
   case neg=>
    have hf:Zcr r op ws lo hi=⟨none,ws,lo,hi⟩:=by unfold Zcr;rw[Yrt hs,hl];simp only[];rw[Yrt (by rw[hlo];simpa[Nat.blt_eq]using hi')]
    rw[hf]
    exact⟨{st with w:=[]},s',rfl,rfl,hm,rfl,rfl,fun _ _ _=>rfl,fun _ _ hj=>absurd trivial hj,fun _ _=>rfl,fun _ _=>trivial⟩
   have hf:Zcr r op ws lo hi=⟨some [i],ws,lo,hi⟩:=by unfold Zcr;rw[Yrt hs,hl];simp only[];rw[Yrw (by rw[hlo];simpa[Nat.blt_eq]using hi')]
   rw[hf]
   have hk:(Zcc st.h [i] st.n).get i=st.h.get i:=by
    rw[Zd3,Yrw hi']
    cases st.h.get i<;>simp
   have hd:∀j,j<st.n→¬(j∈[i])→(Zcc st.h [i] st.n).get j=(st.h.get j).map fun _=>.dead:=fun j hj hn=>by
    rw[Zd3,Yrw hj];simp only[hn,if_false]
   have hrow:(⟨Zcc st.h [i] st.n,st.n,[]⟩:St).row i=St.row {st with w:=[]} i:=Yab hk
   cases op<;>simp only[Zvv,reduceCtorEq]at hl
   case load k x=>
    split at hl
    ·rename_i i' o hx
     simp only[Yrs]at hl;subst hl
     simp only[mop,Zip,hx]at hm ⊢
     split at hm
     ·rename_i c e rw' hr
      split at hm
      ·rename_i u hu
       simp only[Yrs,Yrv]at hm
       obtain⟨rfl,rfl⟩:=hm
       refine⟨⟨Zcc st.h [i'] st.n,st.n,[]⟩,⟨Zcc st.h [i'] st.n,st.n,[]⟩,rfl,rfl,?_,rfl,rfl,fun j _ hj=>?_,fun j hj hn=>hd j hj hn,fun j hj=>?_,fun j hj=>by simp at hj⟩
       ·rw[hrow,hr];simp only[hu]
       ·simp only[FP.sees,Yte]at hj;subst hj;exact hk
       ·rcases hj with⟨hj,_⟩|⟨h1,h2⟩
        ·simp only[FP.sees,Yte]at hj;subst hj;exact hk
        ·simp only at h2;omega
      ·cases hm
     ·cases hm
    ·cases hl
   case store k x y=>
    split at hl
    ·rename_i i' o hx
     simp only[Yrs]at hl;subst hl
     simp only[mop,Zfb,hx]at hm ⊢
     split at hm
     ·rename_i i2 o2 u hx2 hu
      simp only[Yrs,V.ptr.injEq]at hx2
      obtain⟨rfl,rfl⟩:=hx2
      split at hm
      ·rename_i c e hr
       split at hm
       ·rename_i hc
        simp only[Yrs,Yrv]at hm
        obtain⟨rfl,rfl⟩:=hm
        refine⟨⟨Zcc st.h [i'] st.n,st.n,[]⟩,St.write ⟨Zcc st.h [i'] st.n,st.n,[]⟩ i' (.cells (splice c o u.cells) e true),rfl,rfl,?_,rfl,rfl,fun j _ hj=>?_,fun j hj hn=>hd j hj hn,fun j hj=>?_,fun j hj=>?_⟩
        ·rw[hrow,hr]
         simp only[Yrw hc]
        ·simp only[FP.sees,Yte]at hj;subst hj;exact hk
        ·rcases hj with⟨hj,_⟩|⟨h1,h2⟩
         ·simp only[FP.sees,Yte]at hj;subst hj
          simp only[St.write,T.get_set,if_true]
         ·simp only[St.write]at h2;omega
        ·simpa[FP.sees,St.write]using hj
       ·cases hm
      ·cases hm
     ·cases hm
    ·cases hl
end
structure Inv (P:Program) (μ:Mu) (w:World) (stI:Nat→St) (frI:Nat→Fr) (fpI:Nat→FP) (ds:Nat→Option Nat) (N:Nat) (W:List Nat) (S:Nat→Bool) (μ':Mu) (a':Act) (w':World):Prop where
 ext:∀j,j<(stI 0).n→μ' j=μ j
 dom:∀j l,μ' j=some l→(j<(stI 0).n∨∃k,k<N∧S k=true∧(stI k).n≤j∧j<(stI (k+1)).n)∧l.b<w'.heap.size
 full:∀k,k<N→S k=true→∀j,(stI k).n≤j→j<(stI (k+1)).n→∃l,μ' j=some l
 obj:∀j l,μ' j=some l→∃o,Zdr stI fpI S N j=some o∧OM P μ' w' o l
 inj:∀i j l l' o o',μ' i=some l→μ' j=some l'→i≠j→Zdr stI fpI S N i=some o→Zdr stI fpI S N j=some o'→o.wr=true→o'.live=true→l.b≠l'.b
 regs:a'.tmps.size=(frI 0).n∧∀t v,Zi0 frI ds S N t=some v→∃x,a'.tmps[t]?=some x∧VR μ' v x
 defs:Zn9 μ' (frI 0).marks a'.defers
 chg:Chg μ W w w'
 new:∀i l,(stI 0).n≤i→μ' i=some l→w.heap.size≤l.b∨∃j∈W,j<(stI 0).n∧∃lj oj,μ j=some lj∧lj.b=l.b∧(stI 0).h.get j=some oj∧oj.wr=true
structure Ord (fpI:Nat→FP) (mo:Nat→Zbc) (N:Nat) (bef:Nat→Nat→Prop):Prop where
 free:∀i k,i<k→k<N→bef k i∨FP.free (fpI i) (fpI k)=true
 tmp:∀i k,i<k→k<N→bef k i∨Zwm (mo i) (mo k)=true
section
variable {P:Program} {μ μ':Mu} {w w':World} {stI:Nat→St} {frI:Nat→Fr} {fpI:Nat→FP} {ds:Nat→Option Nat} {S:Nat→Bool} {N:Nat} {W:List Nat} {a a':Act} {mo:Nat→Zbc} {bef:Nat→Nat→Prop}
def Txt.mono(T:Txt P μ stI frI fpI N):∀{i k:Nat},i≤k→k≤N→(stI i).n≤(stI k).n
 |i,0,h,_=>by rw[Nat.le_zero.1 h];exact Yru _
 |i,k+1,h,hk=>by
  by_cases e:i=k+1
  ·rw[e];exact Yru _
  ·exact Ytp (T.mono (i:=i) (k:=k) (by omega) (by omega)) (T.nle k (by omega))
def Zj7{a b:FP}(h:FP.free a b=true):(∀j∈a.wr,¬b.sees j)∧(∀j∈a.wr,j∉b.wr)∧(∀j∈b.wr,¬a.sees j)∧∀j∈b.wr,¬(a.lo≤j∧j<a.hi):=by
 unfold FP.free at h
 simp only[Yu2,Bool.or_eq_false_iff]at h
 obtain⟨⟨⟨h1,h2⟩,h3⟩,h4⟩:=h
 have key:∀(l:List Nat) (o:Option (List Nat)),Zj2 l o=false→∀j∈l,¬(match o with|none=>True|some q=>j∈q):=by
  intro l o h j hj
  cases o with
  |none=>
   simp only[Zj2,Bool.not_eq_false',List.isEmpty_iff]at h
   subst h;simp at hj
  |some q=>
   simp only[Zj2,List.any_eq_false,Yvi]at h
   exact h j hj
 refine⟨fun j hj=>?_,fun j hj=>?_,fun j hj=>?_,fun j hj=>?_⟩
 ·have:=key _ _ h1 j hj
  unfold FP.sees
  exact this
 ·exact key _ _ h2 j hj
 ·have:=key _ _ h3 j hj
  unfold FP.sees
  exact this
 ·simp only[List.any_eq_false]at h4
  have:=h4 j hj
  intro hc
  apply this
  simp[Nat.ble_eq,Nat.blt_eq,hc.1,hc.2]
def Zw4(T:Txt P μ stI frI fpI N)(I:Inv P μ w stI frI fpI ds N W S μ' a' w')(Or:Ord fpI mo N bef)(hcl:∀k,S k=true→∀i,bef k i→S i=true){i:Nat}(hi:i<N)(hS:S i=false)(hb:∀j,bef i j→S j=true)
  {j:Nat} {l:L} (hj:μ' j=some l) (hlt:j<(stI i).n) (hs:(fpI i).sees j):
  (∀k,k<i→Zij stI fpI k j→S k=true)∧(∀k,i≤k→k<N→Zij stI fpI k j→S k=false):=by
 refine⟨fun k hk ht=>?_,fun k hk hkN ht=>?_⟩
 ·rcases ht with ht|⟨h1,h2⟩
  ·rcases Or.free k i hk hi with h|h
   ·exact hb k h
   ·exact absurd hs ((Zj7 h).1 j ht)
  ·rcases(I.dom j l hj).1 with h0|⟨k',h3,h4,h5,h6⟩
   ·have:=T.mono (i:=0) (k:=k) (by omega) (by omega)
    omega
   ·have:k'=k:=by
     rcases Nat.lt_trichotomy k k' with h|h|h
     ·have:=T.mono (i:=k+1) (k:=k') (by omega) (by omega);omega
     ·exact h.symm
     ·have:=T.mono (i:=k'+1) (k:=k) (by omega) (by omega);omega
    subst this;exact h4
 ·by_cases e:k=i
  ·rw[e];exact hS
  ·rcases ht with ht|⟨h1,h2⟩
   ·rcases Or.free i k (by omega) hkN with h|h
    ·cases hq:S k with
     |false=>rfl
     |true=>rw[hcl k hq i h]at hS;cases hS
    ·exact absurd hs ((Zj7 h).2.2.1 j ht)
   ·have:=T.mono (i:=i) (k:=k) hk (by omega)
    omega
def Zso(T:Txt P μ stI frI fpI N)(Or:Ord fpI mo N bef)(hcl:∀k,S k=true→∀i,bef k i→S i=true){i:Nat}(hi:i<N)(hS:S i=false)
  {j:Nat} (ht:Zij stI fpI i j):∀k,i<k→k<N→Zij stI fpI k j→S k=false:=by
 intro k hk hkN hk2
 have hfree:=Or.free i k hk hkN
 have hno:bef k i→S k=false:=fun h=>by
  cases hq:S k with
  |false=>rfl
  |true=>rw[hcl k hq i h]at hS;cases hS
 rcases hfree with h|h
 ·exact hno h
 ·exfalso
  have hm:=T.mono (i:=i+1) (k:=k) (by omega) (by omega)
  have hm0:=T.nle i hi
  rcases ht with ht|⟨h1,h2⟩
  ·rcases hk2 with hk2|⟨h3,h4⟩
   ·exact(Zj7 h).2.1 j ht hk2
   ·have:=T.wlt i hi j ht;omega
  ·rcases hk2 with hk2|⟨h3,h4⟩
   ·refine(Zj7 h).2.2.2 j hk2 ⟨?_,?_⟩
    ·rw[T.lo i hi];exact h1
    ·rw[T.hi i hi];exact h2
   ·omega
def Zm8{d:Option Nat}{l:List Nat}(h:Ymz d l=false):∀t,d=some t→t∉l:=by
 intro t ht hm
 subst ht
 simp only[Ymz]at h
 have:l.contains t=true:=Yvi.2 hm
 rw[this]at h;cases h
def Zi5{a b:Zbc}(h:Zwm a b=true):(∀t,a.dst=some t→t∉b.reads)∧(∀t,b.dst=some t→t∉a.reads)∧∀t,a.dst=some t→b.dst≠some t:=by
 unfold Zwm at h
 simp only[Yu2,Bool.or_eq_false_iff]at h
 obtain⟨⟨h1,h2⟩,h3⟩:=h
 exact⟨Zm8 h1,Zm8 h2,fun t ht hb=>Zm8 h3 t ht (by rw[hb];simp)⟩
def Zw7(Or:Ord fpI mo N bef)(hcl:∀k,S k=true→∀i,bef k i→S i=true)(hds:∀k,k<N→ds k=(mo k).dst){i:Nat}(hi:i<N)(hS:S i=false)(hb:∀j,bef i j→S j=true)
  {t:Nat} (ht:t∈(mo i).reads):(∀k,k<i→ds k=some t→S k=true)∧(∀k,i≤k→k<N→ds k=some t→S k=false):=by
 refine⟨fun k hk hd=>?_,fun k hk hkN hd=>?_⟩
 ·rcases Or.tmp k i hk hi with h|h
  ·exact hb k h
  ·rw[hds k (by omega)]at hd
   exact absurd ht ((Zi5 h).1 t hd)
 ·by_cases e:k=i
  ·rw[e];exact hS
  ·rcases Or.tmp i k (by omega) hkN with h|h
   ·cases hq:S k with
    |false=>rfl
    |true=>rw[hcl k hq i h]at hS;cases hS
   ·rw[hds k hkN]at hd
    exact absurd ht ((Zi5 h).2.1 t hd)
def Ycs(Or:Ord fpI mo N bef)(hcl:∀k,S k=true→∀i,bef k i→S i=true)(hds:∀k,k<N→ds k=(mo k).dst){i:Nat}(hi:i<N)(hS:S i=false)
  {t:Nat} (ht:ds i=some t):∀k,i<k→k<N→ds k=some t→S k=false:=by
 intro k hk hkN hd
 rcases Or.tmp i k hk hkN with h|h
 ·cases hq:S k with
  |false=>rfl
  |true=>rw[hcl k hq i h]at hS;cases hS
 ·rw[hds i hi]at ht
  rw[hds k hkN]at hd
  exact absurd hd ((Zi5 h).2.2 t ht)
end
section
variable {P:Program} {μ μ':Mu} {w w':World} {stI:Nat→St} {frI:Nat→Fr} {fpI:Nat→FP} {ds:Nat→Option Nat} {S:Nat→Bool} {N:Nat} {W:List Nat} {a a':Act} {mo:Nat→Zbc} {bef:Nat→Nat→Prop}
def Zm4(μ':Mu)(n:Nat):Mu:=fun j=>if j<n then μ' j else none
def Zjz{n j:Nat}(h:j<n):Zm4 μ' n j=μ' j:=Yrw h
def Zdf{n j:Nat}{l:L}(h:Zm4 μ' n j=some l):j<n∧μ' j=some l:=by
 unfold Zm4 at h
 split at h
 ·exact⟨by assumption,h⟩
 ·cases h
def Yc7(h0:Zba P μ w (stI 0))(T:Txt P μ stI frI fpI N)(I:Inv P μ w stI frI fpI ds N W S μ' a' w')(Or:Ord fpI mo N bef)(hcl:∀k,S k=true→∀i,bef k i→S i=true){i:Nat}(hi:i<N)(hS:S i=false)(hb:∀j,bef i j→S j=true)
  {σ:St} (hn:σ.n=(stI i).n) (hs:∀j,j<(stI i).n→(fpI i).sees j→σ.h.get j=(stI i).h.get j) (hd:∀j,j<(stI i).n→¬(fpI i).sees j→σ.h.get j=((stI i).h.get j).map fun _=>.dead):
  Zba P (Zm4 μ' (stI i).n) w' σ∧∀j l,μ' j=some l→j<(stI i).n→(fpI i).sees j→σ.h.get j=Zdr stI fpI S N j:=by
 have hcont:∀j l,μ' j=some l→j<(stI i).n→(fpI i).sees j→Zdr stI fpI S N j=(stI i).h.get j:=fun j l hj hlt hse=>by
  obtain⟨h1,h2⟩:=Zw4 T I Or hcl hi hS hb hj hlt hse
  rw[Zh3 (i:=i) (by omega) h2,Zp4 T (by omega) hlt h1]
 have hcont':∀j l,μ' j=some l→j<(stI i).n→(fpI i).sees j→σ.h.get j=Zdr stI fpI S N j:=fun j l hj hlt hse=>by rw[hs j hlt hse,hcont j l hj hlt hse]
 have hold:∀j l,μ' j=some l→j<(stI 0).n→∃l,μ j=some l:=fun j l hj h0=>⟨l,by rw[←I.ext j h0];exact hj⟩
 refine⟨⟨fun j l hj=>?_,fun j l hj=>?_,fun j k lj lk oj ok hj hk hne h1 h2 hw hl=>?_,fun g hg=>?_⟩,hcont'⟩
 ·obtain⟨h1,h2⟩:=Zdf hj
  exact⟨by omega,(I.dom j l h2).2⟩
 ·obtain⟨h1,h2⟩:=Zdf hj
  obtain⟨o,μT,wT,lT,t1,t2,t3⟩:=T.sch i (by omega) j (hold j l h2) h1
  by_cases hse:(fpI i).sees j
  ·obtain⟨o',q1,q2⟩:=I.obj j l h2
   rw[hcont j l h2 h1 hse,t1,Yrs]at q1
   subst q1
   exact⟨o,by rw[hs j h1 hse,t1],OM.cut (n:=(stI i).n) (fun k lk hk hk2=>by rw[Zjz hk];exact hk2) t3 t2 q2⟩
  ·exact⟨.dead,by rw[hd j h1 hse,t1];rfl,trivial⟩
 ·obtain⟨a1,a2⟩:=Zdf hj
  obtain⟨b1,b2⟩:=Zdf hk
  have sj:(fpI i).sees j:=Classical.byContradiction fun hn=>by
   rw[hd j a1 hn]at h1
   cases hq:(stI i).h.get j<;>rw[hq]at h1<;>simp at h1
   subst h1;simp[O.wr]at hw
  have sk:(fpI i).sees k:=Classical.byContradiction fun hn=>by
   rw[hd k b1 hn]at h2
   cases hq:(stI i).h.get k<;>rw[hq]at h2<;>simp at h2
   subst h2;simp[O.live]at hl
  exact I.inj j k lj lk oj ok a2 b2 hne (by rw[←hcont' j lj a2 a1 sj];exact h1) (by rw[←hcont' k lk b2 b1 sk];exact h2) hw hl
 ·obtain⟨t,ht⟩:=h0.glob g hg
  have hg0:=(h0.dom g _ ht).1
  have:=T.mono (i:=0) (k:=i) (by omega) (by omega)
  exact⟨t,by rw[Zjz (by omega),I.ext g hg0];exact ht⟩
def Ygq(T:Txt P μ stI frI fpI N){vI:Nat→V}(Pu:Ylr frI ds vI N)(I:Inv P μ w stI frI fpI ds N W S μ' a' w')(Or:Ord fpI mo N bef)(hcl:∀k,S k=true→∀i,bef k i→S i=true)(hds:∀k,k<N→ds k=(mo k).dst)
  {i:Nat} (hi:i<N) (hS:S i=false) (hb:∀j,bef i j→S j=true):
  RR (Zm4 μ' (stI i).n) (Yc8 (frI i).r (mo i).reads) (frI 0).n a'.tmps:=by
 refine⟨I.regs.1,fun t v hv=>?_⟩
 rw[Zke]at hv
 split at hv
 ·rename_i ht
  obtain⟨h1,h2⟩:=Zw7 Or hcl hds hi hS hb ht
  have hc:Zi0 frI ds S N t=some v:=by
   rw[Zh2 (i:=i) (by omega) h2,Zp3 Pu (by omega) h1];exact hv
  obtain⟨x,hx,hr⟩:=I.regs.2 t v hc
  exact⟨x,hx,VR.cut (n:=(stI i).n) (fun k lk hk hk2=>by rw[Zjz hk];exact hk2) v x (T.scr i (by omega) t v hv) hr⟩
 ·cases hv
def Zlc(μ' μ2:Mu)(n n':Nat):Mu:=fun j=>if j<n then μ' j else if j<n' then μ2 j else μ' j
def Txt.grow0(T:Txt P μ stI frI fpI N):∀{i j:Nat} {o':O},i≤N→j<(stI 0).n→(stI i).h.get j=some o'→o'.wr=true→∃o,(stI 0).h.get j=some o∧o.wr=true
 |0,j,o',_,_,h,hw=>⟨o',h,hw⟩
 |i+1,j,o',hi,hj,h,hw=>by
  have:=T.mono (i:=0) (k:=i) (by omega) (by omega)
  obtain⟨o,h1,h2,_⟩:=T.grow i (by omega) j o' (by omega) h
  exact T.grow0 (by omega) hj h1 (h2 hw)
def Zvy(h0:Zba P μ w (stI 0))(T:Txt P μ stI frI fpI N){vI:Nat→V}(Pu:Ylr frI ds vI N)(I:Inv P μ w stI frI fpI ds N W S μ' a' w')(Or:Ord fpI mo N bef)(hcl:∀k,S k=true→∀i,bef k i→S i=true)
  (hds:∀k,k<N→ds k=(mo k).dst) (hW:∀k,k<N→∀j∈(fpI k).wr,j∈W) {i:Nat} (hi:i<N) (hS:S i=false) (hdn:∀d,ds i=some d→d<(frI 0).n)
  {σ σ':St} {μ2:Mu} {w2:World} {ws:List Nat} {x:Value} (hrel:Zba P (Zm4 μ' (stI i).n) w' σ) (hcont:∀j l,μ' j=some l→j<(stI i).n→(fpI i).sees j→σ.h.get j=Zdr stI fpI S N j)
  (hn:σ.n=(stI i).n) (hn':σ'.n=(stI (i+1)).n) (hst:Stp P (Zm4 μ' (stI i).n) w' σ μ2 w2 σ' ws) (hws:∀j,j<(stI i).n→(j∈ws↔j∈(fpI i).wr)) (hsee:∀j∈ws,(fpI i).sees j)
  (hget:∀j,((fpI i).sees j∧j<(stI i).n)∨((stI i).n≤j∧j<(stI (i+1)).n)→σ'.h.get j=(stI (i+1)).h.get j) (hx:VR μ2 (vI i) x):
  Inv P μ w stI frI fpI ds N W (Zll S i) (Zlc μ' μ2 (stI i).n (stI (i+1)).n) (a'.put (ds i) x) w2:=by
 have hle:=T.nle i hi
 have hle0:=T.mono (i:=0) (k:=i) (by omega) (by omega)
 have hfresh:∀j l,μ' j=some l→¬((stI i).n≤j∧j<(stI (i+1)).n):=fun j l hj hc=>by
  rcases(I.dom j l hj).1 with h|⟨k,h3,h4,h5,h6⟩
  ·omega
  ·have hk:k=i:=by
    rcases Nat.lt_trichotomy k i with h|h|h
    ·have:=T.mono (i:=k+1) (k:=i) (by omega) (by omega);omega
    ·exact h
    ·have:=T.mono (i:=i+1) (k:=k) (by omega) (by omega);omega
   subst hk;rw[hS]at h4;cases h4
 have m2lt:∀j,j<(stI i).n→μ2 j=μ' j:=fun j hj=>by rw[hst.ext j (by omega),Zjz hj]
 have hnx1:∀j l,μ' j=some l→Zlc μ' μ2 (stI i).n (stI (i+1)).n j=some l:=fun j l hj=>by
  unfold Zlc
  by_cases e1:j<(stI i).n
  ·rw[Yrw e1];exact hj
  ·by_cases e2:j<(stI (i+1)).n
   ·exact absurd ⟨by omega,e2⟩ (hfresh j l hj)
   ·rw[Yrt e1,Yrt e2];exact hj
 have hnx2:∀j l,μ2 j=some l→Zlc μ' μ2 (stI i).n (stI (i+1)).n j=some l:=fun j l hj=>by
  have hd:=(hst.hr.dom j l hj).1
  unfold Zlc
  by_cases e1:j<(stI i).n
  ·rw[Yrw e1,←m2lt j e1];exact hj
  ·rw[Yrt e1,Yrw (by omega)];exact hj
 have hinv:∀j l,Zlc μ' μ2 (stI i).n (stI (i+1)).n j=some l→(μ' j=some l)∨((stI i).n≤j∧j<(stI (i+1)).n∧μ2 j=some l):=fun j l hj=>by
  unfold Zlc at hj
  split at hj
  ·exact .inl hj
  ·split at hj
   ·exact .inr ⟨by omega,by assumption,hj⟩
   ·exact .inl hj
 have tnew:∀j,Zij stI fpI i j→Zdr stI fpI (Zll S i) N j=(stI (i+1)).h.get j:=fun j ht=>Ydc hi ht (Zso T Or hcl hi hS ht)
 have told:∀j l,μ' j=some l→¬j∈(fpI i).wr→Zdr stI fpI (Zll S i) N j=Zdr stI fpI S N j:=fun j l hj hnw=>Zhh fun h=>h.elim hnw fun h=>hfresh j l hj h
 have cold:∀j l o',μ' j=some l→Zdr stI fpI (Zll S i) N j=some o'→∃o,Zdr stI fpI S N j=some o∧(o'.wr=true→o.wr=true)∧(o'.live=true→o.live=true):=fun j l o' hj ho=>by
  by_cases hw:j∈(fpI i).wr
  ·have hlt:=T.wlt i hi j hw
   have hse:=hsee j ((hws j hlt).2 hw)
   rw[tnew j (.inl hw),←hget j (.inl ⟨hse,hlt⟩)]at ho
   obtain⟨o,q1,q2,q3⟩:=hst.grow j o' (by omega) ho
   exact⟨o,by rw[←hcont j l hj hlt hse];exact q1,q2,q3⟩
  ·rw[told j l hj hw]at ho
   exact⟨o',ho,id,id⟩
 have cwr:∀j∈ws,∀lj,Zm4 μ' (stI i).n j=some lj→∃o,Zdr stI fpI S N j=some o∧o.wr=true:=fun j hj lj hlj=>by
  obtain⟨h1,h2⟩:=Zdf hlj
  obtain⟨o,q1,q2⟩:=hst.wrt j hj (by omega)
  exact⟨o,by rw[←hcont j lj h2 h1 (hsee j hj)];exact q1,q2⟩
 have nblk:∀j l,(stI i).n≤j→μ2 j=some l→w'.heap.size≤l.b∨∃k lk,k∈ws∧k<(stI i).n∧μ' k=some lk∧lk.b=l.b∧∃o,Zdr stI fpI S N k=some o∧o.wr=true:=fun j l hj hl=>by
  rcases hst.new j l (by omega) hl with h|⟨k,hk,hkn,lk,ok,h1,h2,h3,h4⟩
  ·exact .inl h
  ·obtain⟨_,q2⟩:=Zdf h1
   exact .inr ⟨k,lk,hk,by omega,q2,h2,cwr k hk lk h1⟩
 refine⟨fun j hj=>?_,fun j l hj=>?_,fun k hk hSk j h1 h2=>?_,fun j l hj=>?_,fun j k lj lk oj ok hj hk hne h1 h2 hw hl=>?_,⟨?_,fun t v hv=>?_⟩,?_,?_,fun j l hj0 hj=>?_⟩
 ·-- ext
  unfold Zlc
  rw[Yrw (by omega)];exact I.ext j hj
 ·-- dom
  rcases hinv j l hj with h|⟨h1,h2,h3⟩
  ·obtain⟨d1,d2⟩:=I.dom j l h
   refine⟨d1.imp id fun ⟨k,q1,q2,q3⟩=>⟨k,q1,?_,q3⟩,Yr5 d2 hst.chg.size⟩
   simp only[Zll];split<;>first|rfl|exact q2
  ·exact⟨.inr ⟨i,hi,by simp[Zll],h1,h2⟩,(hst.hr.dom j l h3).2⟩
 ·-- full
  by_cases e:k=i
  ·subst e
   obtain⟨l,hl⟩:=hst.full j (by omega) (by omega)
   exact⟨l,hnx2 j l hl⟩
  ·simp only[Zll,e,if_false]at hSk
   obtain⟨l,hl⟩:=I.full k hk hSk j h1 h2
   exact⟨l,hnx1 j l hl⟩
 ·-- obj
  rcases hinv j l hj with h|⟨h1,h2,h3⟩
  ·by_cases hw:j∈(fpI i).wr
   ·have hlt:=T.wlt i hi j hw
    have hse:=hsee j ((hws j hlt).2 hw)
    obtain⟨o,q1,q2⟩:=hst.hr.obj j l (by rw[m2lt j hlt];exact h)
    exact⟨o,by rw[tnew j (.inl hw),←hget j (.inl ⟨hse,hlt⟩)];exact q1,q2.mono hnx2⟩
   ·obtain⟨o,q1,q2⟩:=I.obj j l h
    refine⟨o,by rw[told j l h hw];exact q1,?_⟩
    cases hl:o.live with
    |false=>cases o<;>simp[O.live]at hl;trivial
    |true=>
     refine(q2.mono hnx1).congr (hst.chg.block l.b (I.dom j l h).2 fun k hk lk hlk=>?_)
     obtain⟨q3,q4⟩:=Zdf hlk
     obtain⟨ok,q5,q6⟩:=cwr k hk lk hlk
     exact I.inj k j lk l ok o q4 h (fun hc=>hw (by rw[←hc];exact(hws k q3).1 hk)) q5 q1 q6 hl
  ·obtain⟨o,q1,q2⟩:=hst.hr.obj j l h3
   exact⟨o,by rw[tnew j (.inr ⟨h1,h2⟩),←hget j (.inr ⟨h1,h2⟩)];exact q1,q2.mono hnx2⟩
 ·-- inj
  have cross:∀j k lj lk oj ok,(stI i).n≤j→j<(stI (i+1)).n→μ2 j=some lj→μ' k=some lk→Zdr stI fpI (Zll S i) N j=some oj→Zdr stI fpI (Zll S i) N k=some ok→((oj.wr=true∧ok.live=true)∨(ok.wr=true∧oj.live=true))→lj.b≠lk.b:=by
   intro j k lj lk oj ok hj1 hj2 hj3 hk hoj hok hboth
   have hoklive:ok.live=true:=by
    rcases hboth with h|h
    ·exact h.2
    ·have:=h.1;cases ok<;>simp_all [O.wr,O.live]
   rcases nblk j lj hj1 hj3 with h|⟨q,lq,h1,h2,h3,h4,o,h5,h6⟩
   ·have:=(I.dom k lk hk).2;omega
   ·rw[←h4]
    by_cases e:q=k
    ·subst e
     rw[h3,Yrs]at hk;subst hk
     have hwq:=(hws q h2).1 h1
     rw[tnew j (.inr ⟨hj1,hj2⟩),←hget j (.inr ⟨hj1,hj2⟩)]at hoj
     rw[tnew q (.inl hwq),←hget q (.inl ⟨hsee q h1,h2⟩)]at hok
     have hq2:μ2 q=some lq:=by rw[m2lt q h2];exact h3
     exfalso
     rcases hboth with hb|hb
     ·exact hst.hr.inj j q lj lq oj ok hj3 hq2 (by omega) hoj hok hb.1 hb.2 h4.symm
     ·exact hst.hr.inj q j lq lj ok oj hq2 hj3 (by omega) hok hoj hb.1 hb.2 h4
    ·obtain⟨ok0,g1,g2,g3⟩:=cold k lk ok hk hok
     exact I.inj q k lq lk o ok0 h3 hk e h5 g1 h6 (g3 hoklive)
  rcases hinv j lj hj with hj'|⟨a1,a2,a3⟩
  ·rcases hinv k lk hk with hk'|⟨b1,b2,b3⟩
   ·obtain⟨oj0,g1,g2,g3⟩:=cold j lj oj hj' h1
    obtain⟨ok0,g4,g5,g6⟩:=cold k lk ok hk' h2
    exact I.inj j k lj lk oj0 ok0 hj' hk' hne g1 g4 (g2 hw) (g6 hl)
   ·exact(cross k j lk lj ok oj b1 b2 b3 hj' h2 h1 (.inr ⟨hw,hl⟩)).symm
  ·rcases hinv k lk hk with hk'|⟨b1,b2,b3⟩
   ·exact cross j k lj lk oj ok a1 a2 a3 hk' h1 h2 (.inl ⟨hw,hl⟩)
   ·rw[tnew j (.inr ⟨a1,a2⟩),←hget j (.inr ⟨a1,a2⟩)]at h1
    rw[tnew k (.inr ⟨b1,b2⟩),←hget k (.inr ⟨b1,b2⟩)]at h2
    exact hst.hr.inj j k lj lk oj ok a3 b3 hne h1 h2 hw hl
 ·-- the temporaries' count
  cases hd:ds i<;>simp[Act.put,I.regs.1]
 ·-- the temporaries
  by_cases ht:ds i=some t
  ·rw[Ydb Pu hi ht (Ycs Or hcl hds hi hS ht),Yrs]at hv
   subst hv
   refine⟨x,?_,VR.mono hnx2 _ _ hx⟩
   rw[ht]
   simp[Act.put,I.regs.1,hdn t ht]
  ·rw[Zhg ht]at hv
   obtain⟨y,q1,q2⟩:=I.regs.2 t v hv
   refine⟨y,?_,VR.mono hnx1 _ _ q2⟩
   cases hd:ds i with
   |none=>simpa[Act.put]using q1
   |some d=>
    have:d≠t:=fun hc=>ht (by rw[hd,hc])
    simp only[Act.put]
    rw[Ytu this];exact q1
 ·-- the marks
  have:(a'.put (ds i) x).defers=a'.defers:=by cases ds i<;>rfl
  rw[this];exact I.defs.mono hnx1
 ·-- the frame
  refine⟨hst.chg.os.trans I.chg.os,hst.chg.tape.trans I.chg.tape,hst.chg.output.trans I.chg.output,Ytp I.chg.size hst.chg.size,fun b hb hnot=>?_⟩
  rw[hst.chg.block b (Yr5 hb I.chg.size) fun j hj lj hlj=>?_,I.chg.block b hb hnot]
  obtain⟨q1,q2⟩:=Zdf hlj
  by_cases e:j<(stI 0).n
  ·exact hnot j (hW i hi j ((hws j q1).1 hj)) lj (by rw[←I.ext j e];exact q2)
  ·rcases I.new j lj (by omega) q2 with h|⟨k,hk,_,lk,_,h3,h4,_⟩
   ·omega
   ·rw[←h4];exact hnot k hk lk h3
 ·-- new ids
  rcases hinv j l hj with h|⟨h1,h2,h3⟩
  ·exact I.new j l hj0 h
  ·rcases nblk j l h1 h3 with h|⟨q,lq,q1,q2,q3,q4,o,q5,q6⟩
   ·exact .inl (Ytp I.chg.size h)
   ·by_cases e:q<(stI 0).n
    ·have hqW:=hW i hi q ((hws q q2).1 q1)
     obtain⟨oi,g1,g2⟩:=T.wrt i hi q ((hws q q2).1 q1)
     obtain⟨o0,g3,g4⟩:=T.grow0 (by omega) e g1 g2
     exact .inr ⟨q,hqW,e,lq,o0,by rw[←I.ext q e];exact q3,q4,g3,g4⟩
    ·rcases I.new q lq (by omega) q3 with h|⟨k,hk,g1,lk,ok,g2,g3,g4⟩
     ·exact .inl (by omega)
     ·exact .inr ⟨k,hk,g1,lk,ok,g2,g3.trans q4,g4⟩
end
section
variable {P:Program} {μ:Mu} {w:World} {st st':St} {fr fr':Fr} {a:Act} {call:Za1} {v:V} {lb:Option Nat}
def Zxy:∀(l:List Nat) (n j:Nat),j<n→(j∈Zae n l↔j∈l):=by
 intro l n i hi
 induction l with
 |nil=>simp[Zae]
 |cons j l ih=>
  simp only[Zae]
  split
  ·unfold Zfm
   split
   ·rename_i hc
    simp only[Yss,ih]
    simp only[Yvi]at hc
    constructor
    ·exact .inr
    ·rintro(rfl|h)
     ·exact ih.1 hc
     ·exact h
   ·simp only[Yss,ih]
  ·simp only[Yss,ih]
   constructor
   ·exact .inr
   ·rintro(rfl|h)
    ·omega
    ·exact h
def Yfz(hcall:Zbx P call)(hE:Zeo P){ops:Array Oper}{Q:Exit→Act→World→Prop}{stI:Nat→St}{frI:Nat→Fr}{vI:Nat→V}{fpI:Nat→FP}{S:Nat→Bool}{W:List Nat}{μ':Mu}{a':Act}{w':World}
  (h0:Zba P μ w (stI 0)) (hs:∀i o,ops[i]?=some o→Zhn P call ops o (stI i) (frI i) (vI i) (fpI i) (stI (i+1)) (frI (i+1)))
  (T:Txt P μ stI frI fpI ops.size) {ds:Nat→Option Nat} {mo:Nat→Zbc} (hmo:∀i o,ops[i]?=some o→mo i=Zgn P ops o) (hds:∀k,k<ops.size→ds k=(mo k).dst) (Pu:Ylr frI ds vI ops.size)
  {bef:Nat→Nat→Prop} (Or:Ord fpI mo ops.size bef) (I:Inv P μ w stI frI fpI ds ops.size W S μ' a' w') (hcl:∀k,S k=true→∀i,bef k i→S i=true) (hW:∀k,k<ops.size→∀j∈(fpI k).wr,j∈W)
  (hdef:∀i,i<ops.size→∀ds,Zn9 μ' (frI 0).marks ds→Zn9 (Zm4 μ' (stI i).n) (frI 0).marks ds)
  {i:Nat} (hi:i<ops.size) (hS:S i=false) (hb:∀j,bef i j→S j=true) {K:Act→World→Prop}
  (hK:∀μ2 a2 w2,Inv P μ w stI frI fpI ds ops.size W (Zll S i) μ2 a2 w2→K a2 w2):wpOpIn (FE lb) 0 P ops Q i K a' w':=by
 have ho:ops[i]?=some ops[i]:=Array.getElem?_eq_getElem hi
 obtain⟨g,b,hg,hw,hp,ht,hfa⟩:=hs i _ ho
 have hmi:=hmo i _ ho
 have hmi':mo i=⟨ops[i].dst,cOp P ops[i].op,g⟩:=by rw[hmi];unfold Zgn;rw[hg]
 have hdi:ds i=ops[i].dst:=by rw[hds i hi,hmi']
 have hreads:∀s∈(cOp P ops[i].op).srcs,∀t∈s.tmps,t∈(mo i).reads:=fun s hs t ht=>by
  rw[hmi'];simp only[Zbc.reads,Ysq,List.mem_flatMap];exact .inr ⟨s,hs,ht⟩
 have hRR:=Ygq T Pu I Or hcl hds hi hS hb
 have hwant:wantedV (Yc8 (frI i).r (mo i).reads) g=wantedV (frI i).r g:=by
  cases g with
  |none=>rfl
  |some p=>
   obtain⟨t,want⟩:=p
   simp only[wantedV]
   rw[Zke,Yrw (by rw[hmi'];simp[Zbc.reads])]
 have hdn:∀d,ds i=some d→d<(frI 0).n:=fun d hd=>by
  rw[hdi]at hd
  rw[hd]at hp
  simp only[Fr.put]at hp
  split at hp
  ·rename_i hlt;rw[←(T.fn i (by omega)).1];exact hlt
  ·cases hp
 unfold wpOpIn
 rw[ho]
 simp only[]
 have hwd:Region.wanted ops[i] (yielded ops a'.tmps)=b:=Zob (fr:={r:=Yc8 (frI i).r (mo i).reads,n:=(frI 0).n,marks:=[]}) (a:=a') hRR hg (by rw[hwant];exact hw)
 cases b with
 |true=>
  rw[Yrw hwd]
  obtain⟨s',hm,hst1,hfp⟩:=ht rfl
  obtain⟨σ,σ',k1,k2,k3,k4,k5,k6,k7,k8,k9⟩:=Yfw (ws:=Zae (stI i).n s'.w) (lo:=(stI i).n) (hi:=s'.n) hm rfl
  rw[←hfp]at k6 k7 k8 k9
  obtain⟨hrel,hcont⟩:=Yc7 h0 T I Or hcl hi hS hb k1 k6 k7
  have hfr:FrR (Zm4 μ' (stI i).n) {r:=Yc8 (frI i).r (mo i).reads,n:=(frI 0).n,marks:=(frI 0).marks} a':=⟨hRR,hdef i hi _ I.defs⟩
  have hm2:mop (cOp P ops[i].op) call (Yc8 (frI i).r (mo i).reads) σ=some (vI i,σ'):=by
   rw[Ybj (r':=(frI i).r) fun s hs=>Yk5 (hreads s hs)];exact k3
  refine Yjm hcall hE hrel hfr hm2 fun x w2 μ2 ws hv hst=>?_
  have hws:ws=s'.w:=by
   have:=hst.wl
   rw[k2,k5,Ytz]at this
   exact this.symm
  have hn':(stI (i+1)).n=s'.n:=by rw[hst1]
  have hh':(stI (i+1)).h=s'.h:=by rw[hst1]
  have hinv:=Zvy h0 T Pu I Or hcl hds hW hi hS hdn hrel hcont k1 (by rw[k4,hn']) hst (fun j hj=>by
   rw[hws,hfp,(Zt6 (call:=call) hm _ _).1]
   exact(Zxy _ _ _ hj).symm) (fun j hj=>k9 j (by rw[←hws];exact hj)) (fun j hj=>by rw[hh'];exact k8 j (by rw[hn']at hj;exact hj)) hv
  rw[hdi]at hinv
  exact hK _ _ _ hinv
 |false=>
  rw[Yrt (by rw[hwd];simp)]
  obtain⟨hv,hst1,hfp⟩:=hfa rfl
  refine⟨fun _ _=>trivial,?_⟩
  have hsee:∀j,¬(fpI i).sees j:=fun j=>by rw[hfp];simp[FP.sees]
  obtain⟨hrel,hcont⟩:=Yc7 (σ:=⟨Zcc (stI i).h [] (stI i).n,(stI i).n,[]⟩) h0 T I Or hcl hi hS hb rfl (fun j _ hj=>absurd hj (hsee j)) (fun j hj _=>by
   show (Zcc (stI i).h [] (stI i).n).get j=_
   rw[Zd3,Yrw hj];simp)
  have hn':(stI (i+1)).n=(stI i).n:=by rw[hst1]
  have:=Zvy (x:=undef) (ws:=[]) (σ':=⟨Zcc (stI i).h [] (stI i).n,(stI i).n,[]⟩) h0 T Pu I Or hcl hds hW hi hS hdn hrel hcont rfl hn'.symm (Stp.refl hrel) (fun j hj=>by rw[hfp]) (fun j hj=>by simp at hj) (fun j hj=>by
   rcases hj with⟨h,_⟩|⟨h1,h2⟩
   ·exact absurd h (hsee j)
   ·omega) (by rw[hv];exact⟨[],rfl,by simp[VRs]⟩)
  rw[hdi]at this
  exact hK _ _ _ this
def Zlf:∀{os:List Oper} {b:Nat},Zk0 b os=true→∀i o,os[i]?=some o→∀e∈o.after,Region.binds .any e=true→e.on<b+i
 |[],b,_,i,o,h,_,_,_=>by simp at h
 |o0::os,b,h,i,o,ho,e,he,hb=>by
  simp only[Zk0,Ysd]at h
  cases i with
  |zero=>
   simp only[Yth,Yrs]at ho
   subst ho
   have h1:=h.1
   rw[Yva]at h1
   have:=h1 e he
   rw[hb]at this
   simpa[Nat.blt_eq]using this
  |succ i=>
   have:=Zlf h.2 i o (by simpa using ho) e he hb
   omega
def Zzc{ops:Array Oper}(he:Zk0 0 ops.toList=true){listed:Array Bool}(hsz:listed.size=ops.size)(hr:Region.ready .any ops listed=[]):∀k,k<ops.size→listed.getD k false=true:=by
 intro k
 induction k using Nat.strongRecOn with
 |_ k ih=>
  intro hk
  refine Classical.byContradiction fun hn=>?_
  have hmem:k∈Region.ready .any ops listed:=by
   unfold Region.ready
   simp only[List.mem_filter,List.mem_range,Ysd,Yu2]
   refine⟨hk,?_,?_⟩
   ·have hlk:k<listed.size:=by omega
    simp only[Array.getD,hlk,dif_pos]at hn ⊢
    simpa using hn
   ·have ho:ops[k]?=some ops[k]:=Array.getElem?_eq_getElem hk
    rw[ho]
    simp only[Yuq,Yux,Yva,Yu6,Yu2]
    intro e hee
    cases hb:Region.binds .any e with
    |false=>exact .inl rfl
    |true=>
     have:=Zlf he k ops[k] (by rw[Ytf];exact ho) e hee hb
     exact .inr (ih e.on (by omega) (by omega))
  rw[hr]at hmem
  cases hmem
def Yda{p q:Nat→Bool}{i:Nat}(hp:p i=true)(hq:q i=false)(ho:∀k,k≠i→q k=p k):∀N,i<N→(List.range N).countP q+1=(List.range N).countP p:=by
 have same:∀N,N≤i→(List.range N).countP q=(List.range N).countP p:=by
  intro N
  induction N with
  |zero=>intro _;rfl
  |succ N ih=>
   intro h
   rw[List.range_succ,List.countP_append,List.countP_append,ih (by omega)]
   simp[ho N (by omega)]
 intro N
 induction N with
 |zero=>intro h;omega
 |succ N ih=>
  intro h
  rw[List.range_succ,List.countP_append,List.countP_append]
  by_cases e:N=i
  ·subst e
   rw[same N (Yru _)]
   simp[hp,hq]
  ·have:=ih (by omega)
   simp only[List.countP_singleton,ho N e]
   omega
end
end Go.Mx
