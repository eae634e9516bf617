/-A region that draws its order-/
import Derived.Test.YthekjfgljafnaaaGreatDoorMxLoc
set_option linter.all false
namespace Go.Mx
open Go
structure Inv (P:Program) (μ:Mu) (w:World) (stI:Nat→St) (frI:Nat→Fr) (fpI:Nat→FP) (ds:Nat→Option Nat) (N:Nat) (W:List Nat) (S:Nat→Bool) (μ':Mu) (a':Act) (w':World):Prop where
 ext:∀j,j<(stI 0).n→μ' j=μ j
 dom:∀j l,μ' j=some l→(j<(stI 0).n∨∃k,k<N∧S k=true∧(stI k).n≤j∧j<(stI (k+1)).n)∧l.b<w'.heap.size
 full:∀k,k<N→S k=true→∀j,(stI k).n≤j→j<(stI (k+1)).n→∃l,μ' j=some l
 obj:∀j l,μ' j=some l→∃o,Zd3 stI fpI S N j=some o∧OM P μ' w' o l
 inj:∀i j l l' o o',μ' i=some l→μ' j=some l'→i≠j→Zd3 stI fpI S N i=some o→Zd3 stI fpI S N j=some o'→o.wr=true→o'.live=true→l.b≠l'.b
 regs:a'.tmps.size=(frI 0).n∧∀t v,Zjj frI ds S N t=some v→∃x,a'.tmps[t]?=some x∧VR μ' v x
 defs:Zo8 μ' (frI 0).marks a'.defers
 chg:Chg μ W w w'
 new:∀i l,(stI 0).n≤i→μ' i=some l→w.heap.size≤l.b∨∃j∈W,j<(stI 0).n∧∃lj oj,μ j=some lj∧lj.b=l.b∧(stI 0).h.get j=some oj∧oj.wr=true
structure Ord (fpI:Nat→FP) (mo:Nat→Zbc) (N:Nat) (bef:Nat→Nat→Prop):Prop where
 free:∀i k,i<k→k<N→bef k i∨FP.free (fpI i) (fpI k)=true
 tmp:∀i k,i<k→k<N→bef k i∨Zx6 (mo i) (mo k)=true
section
variable {P:Program} {μ μ':Mu} {w w':World} {stI:Nat→St} {frI:Nat→Fr} {fpI:Nat→FP} {ds:Nat→Option Nat} {S:Nat→Bool} {N:Nat} {W:List Nat} {a a':Act} {mo:Nat→Zbc} {bef:Nat→Nat→Prop}
def Txt.mono(T:Txt P μ stI frI fpI N):∀{i k:Nat},i≤k→k≤N→(stI i).n≤(stI k).n
 |i,0,h,_=>by rw[Nat.le_zero.1 h];exact Yv5 _
 |i,k+1,h,hk=>by
  by_cases e:i=k+1
  ·rw[e];exact Yv5 _
  ·exact Yxt (T.mono (i:=i) (k:=k) (by omega) (by omega)) (T.nle k (by omega))
def Zko{a b:FP}(h:FP.free a b=true):(∀j∈a.wr,¬b.sees j)∧(∀j∈a.wr,j∉b.wr)∧(∀j∈b.wr,¬a.sees j)∧∀j∈b.wr,¬(a.lo≤j∧j<a.hi):=by
 unfold FP.free at h
 simp only[Yzi,Bool.or_eq_false_iff]at h
 obtain⟨⟨⟨h1,h2⟩,h3⟩,h4⟩:=h
 have key:∀(l:List Nat) (o:Option (List Nat)),Zqy l o=false→∀j∈l,¬(match o with|none=>True|some q=>j∈q):=by
  intro l o h j hj
  cases o with
  |none=>
   simp only[Zqy,Bool.not_eq_false',List.isEmpty_iff]at h
   subst h;simp at hj
  |some q=>
   simp only[Zqy,List.any_eq_false,Yzx]at h
   exact h j hj
 refine⟨fun j hj=>?_,fun j hj=>?_,fun j hj=>?_,fun j hj=>?_⟩
 ·have:=key _ _ h1 j hj
  unfold FP.sees
  exact this
 ·exact key _ _ h2 j hj
 ·have:=key _ _ h3 j hj
  unfold FP.sees
  exact this
 ·simp only[List.any_eq_false]at h4
  have:=h4 j hj
  intro hc
  apply this
  simp[Nat.ble_eq,Nat.blt_eq,hc.1,hc.2]
def Zyn(T:Txt P μ stI frI fpI N)(I:Inv P μ w stI frI fpI ds N W S μ' a' w')(Or:Ord fpI mo N bef)(hcl:∀k,S k=true→∀i,bef k i→S i=true){i:Nat}(hi:i<N)(hS:S i=false)(hb:∀j,bef i j→S j=true)
  {j:Nat} {l:L} (hj:μ' j=some l) (hlt:j<(stI i).n) (hs:(fpI i).sees j):
  (∀k,k<i→Zi1 stI fpI k j→S k=true)∧(∀k,i≤k→k<N→Zi1 stI fpI k j→S k=false):=by
 refine⟨fun k hk ht=>?_,fun k hk hkN ht=>?_⟩
 ·rcases ht with ht|⟨h1,h2⟩
  ·rcases Or.free k i hk hi with h|h
   ·exact hb k h
   ·exact absurd hs ((Zko h).1 j ht)
  ·rcases(I.dom j l hj).1 with h0|⟨k',h3,h4,h5,h6⟩
   ·have:=T.mono (i:=0) (k:=k) (by omega) (by omega)
    omega
   ·have:k'=k:=by
     rcases Nat.lt_trichotomy k k' with h|h|h
     ·have:=T.mono (i:=k+1) (k:=k') (by omega) (by omega);omega
     ·exact h.symm
     ·have:=T.mono (i:=k'+1) (k:=k) (by omega) (by omega);omega
    subst this;exact h4
 ·by_cases e:k=i
  ·rw[e];exact hS
  ·rcases ht with ht|⟨h1,h2⟩
   ·rcases Or.free i k (by omega) hkN with h|h
    ·cases hq:S k with
     |false=>rfl
     |true=>rw[hcl k hq i h]at hS;cases hS
    ·exact absurd hs ((Zko h).2.2.1 j ht)
   ·have:=T.mono (i:=i) (k:=k) hk (by omega)
    omega
def Zt0(T:Txt P μ stI frI fpI N)(Or:Ord fpI mo N bef)(hcl:∀k,S k=true→∀i,bef k i→S i=true){i:Nat}(hi:i<N)(hS:S i=false)
  {j:Nat} (ht:Zi1 stI fpI i j):∀k,i<k→k<N→Zi1 stI fpI k j→S k=false:=by
 intro k hk hkN hk2
 have hfree:=Or.free i k hk hkN
 have hno:bef k i→S k=false:=fun h=>by
  cases hq:S k with
  |false=>rfl
  |true=>rw[hcl k hq i h]at hS;cases hS
 rcases hfree with h|h
 ·exact hno h
 ·exfalso
  have hm:=T.mono (i:=i+1) (k:=k) (by omega) (by omega)
  have hm0:=T.nle i hi
  rcases ht with ht|⟨h1,h2⟩
  ·rcases hk2 with hk2|⟨h3,h4⟩
   ·exact(Zko h).2.1 j ht hk2
   ·have:=T.wlt i hi j ht;omega
  ·rcases hk2 with hk2|⟨h3,h4⟩
   ·refine(Zko h).2.2.2 j hk2 ⟨?_,?_⟩
    ·rw[T.lo i hi];exact h1
    ·rw[T.hi i hi];exact h2
   ·omega
def Zn0{d:Option Nat}{l:List Nat}(h:Yq7 d l=false):∀t,d=some t→t∉l:=by
 intro t ht hm
 subst ht
 simp only[Yq7]at h
 have:l.contains t=true:=Yzx.2 hm
 rw[this]at h;cases h
def Zjn{a b:Zbc}(h:Zx6 a b=true):(∀t,a.dst=some t→t∉b.reads)∧(∀t,b.dst=some t→t∉a.reads)∧∀t,a.dst=some t→b.dst≠some t:=by
 unfold Zx6 at h
 simp only[Yzi,Bool.or_eq_false_iff]at h
 obtain⟨⟨h1,h2⟩,h3⟩:=h
 exact⟨Zn0 h1,Zn0 h2,fun t ht hb=>Zn0 h3 t ht (by rw[hb];simp)⟩
def Zyp(Or:Ord fpI mo N bef)(hcl:∀k,S k=true→∀i,bef k i→S i=true)(hds:∀k,k<N→ds k=(mo k).dst){i:Nat}(hi:i<N)(hS:S i=false)(hb:∀j,bef i j→S j=true)
  {t:Nat} (ht:t∈(mo i).reads):(∀k,k<i→ds k=some t→S k=true)∧(∀k,i≤k→k<N→ds k=some t→S k=false):=by
 refine⟨fun k hk hd=>?_,fun k hk hkN hd=>?_⟩
 ·rcases Or.tmp k i hk hi with h|h
  ·exact hb k h
  ·rw[hds k (by omega)]at hd
   exact absurd ht ((Zjn h).1 t hd)
 ·by_cases e:k=i
  ·rw[e];exact hS
  ·rcases Or.tmp i k (by omega) hkN with h|h
   ·cases hq:S k with
    |false=>rfl
    |true=>rw[hcl k hq i h]at hS;cases hS
   ·rw[hds k hkN]at hd
    exact absurd ht ((Zjn h).2.1 t hd)
def Yen(Or:Ord fpI mo N bef)(hcl:∀k,S k=true→∀i,bef k i→S i=true)(hds:∀k,k<N→ds k=(mo k).dst){i:Nat}(hi:i<N)(hS:S i=false)
  {t:Nat} (ht:ds i=some t):∀k,i<k→k<N→ds k=some t→S k=false:=by
 intro k hk hkN hd
 rcases Or.tmp i k hk hkN with h|h
 ·cases hq:S k with
  |false=>rfl
  |true=>rw[hcl k hq i h]at hS;cases hS
 ·rw[hds i hi]at ht
  rw[hds k hkN]at hd
  exact absurd hd ((Zjn h).2.2 t ht)
end
section
variable {P:Program} {μ μ':Mu} {w w':World} {stI:Nat→St} {frI:Nat→Fr} {fpI:Nat→FP} {ds:Nat→Option Nat} {S:Nat→Bool} {N:Nat} {W:List Nat} {a a':Act} {mo:Nat→Zbc} {bef:Nat→Nat→Prop}
def Znv(μ':Mu)(n:Nat):Mu:=fun j=>if j<n then μ' j else none
def Zke{n j:Nat}(h:j<n):Znv μ' n j=μ' j:=Yv6 h
def Zdp{n j:Nat}{l:L}(h:Znv μ' n j=some l):j<n∧μ' j=some l:=by
 unfold Znv at h
 split at h
 ·exact⟨by assumption,h⟩
 ·cases h
def Ye4(h0:Zbb P μ w (stI 0))(T:Txt P μ stI frI fpI N)(I:Inv P μ w stI frI fpI ds N W S μ' a' w')(Or:Ord fpI mo N bef)(hcl:∀k,S k=true→∀i,bef k i→S i=true){i:Nat}(hi:i<N)(hS:S i=false)(hb:∀j,bef i j→S j=true)
  {σ:St} (hn:σ.n=(stI i).n) (hs:∀j,j<(stI i).n→(fpI i).sees j→σ.h.get j=(stI i).h.get j) (hd:∀j,j<(stI i).n→¬(fpI i).sees j→σ.h.get j=((stI i).h.get j).map fun _=>.dead):
  Zbb P (Znv μ' (stI i).n) w' σ∧∀j l,μ' j=some l→j<(stI i).n→(fpI i).sees j→σ.h.get j=Zd3 stI fpI S N j:=by
 have hcont:∀j l,μ' j=some l→j<(stI i).n→(fpI i).sees j→Zd3 stI fpI S N j=(stI i).h.get j:=fun j l hj hlt hse=>by
  obtain⟨h1,h2⟩:=Zyn T I Or hcl hi hS hb hj hlt hse
  rw[Zio (i:=i) (by omega) h2,Zrf T (by omega) hlt h1]
 have hcont':∀j l,μ' j=some l→j<(stI i).n→(fpI i).sees j→σ.h.get j=Zd3 stI fpI S N j:=fun j l hj hlt hse=>by rw[hs j hlt hse,hcont j l hj hlt hse]
 have hold:∀j l,μ' j=some l→j<(stI 0).n→∃l,μ j=some l:=fun j l hj h0=>⟨l,by rw[←I.ext j h0];exact hj⟩
 refine⟨⟨fun j l hj=>?_,fun j l hj=>?_,fun j k lj lk oj ok hj hk hne h1 h2 hw hl=>?_,fun g hg=>?_⟩,hcont'⟩
 ·obtain⟨h1,h2⟩:=Zdp hj
  exact⟨by omega,(I.dom j l h2).2⟩
 ·obtain⟨h1,h2⟩:=Zdp hj
  obtain⟨o,μT,wT,lT,t1,t2,t3⟩:=T.sch i (by omega) j (hold j l h2) h1
  by_cases hse:(fpI i).sees j
  ·obtain⟨o',q1,q2⟩:=I.obj j l h2
   rw[hcont j l h2 h1 hse,t1,Yv3]at q1
   subst q1
   exact⟨o,by rw[hs j h1 hse,t1],OM.cut (n:=(stI i).n) (fun k lk hk hk2=>by rw[Zke hk];exact hk2) t3 t2 q2⟩
  ·exact⟨.dead,by rw[hd j h1 hse,t1];rfl,trivial⟩
 ·obtain⟨a1,a2⟩:=Zdp hj
  obtain⟨b1,b2⟩:=Zdp hk
  have sj:(fpI i).sees j:=Classical.byContradiction fun hn=>by
   rw[hd j a1 hn]at h1
   cases hq:(stI i).h.get j<;>rw[hq]at h1<;>simp at h1
   subst h1;simp[O.wr]at hw
  have sk:(fpI i).sees k:=Classical.byContradiction fun hn=>by
   rw[hd k b1 hn]at h2
   cases hq:(stI i).h.get k<;>rw[hq]at h2<;>simp at h2
   subst h2;simp[O.live]at hl
  exact I.inj j k lj lk oj ok a2 b2 hne (by rw[←hcont' j lj a2 a1 sj];exact h1) (by rw[←hcont' k lk b2 b1 sk];exact h2) hw hl
 ·obtain⟨t,ht⟩:=h0.glob g hg
  have hg0:=(h0.dom g _ ht).1
  have:=T.mono (i:=0) (k:=i) (by omega) (by omega)
  exact⟨t,by rw[Zke (by omega),I.ext g hg0];exact ht⟩
def Yi9(T:Txt P μ stI frI fpI N){vI:Nat→V}(Pu:Ypl frI ds vI N)(I:Inv P μ w stI frI fpI ds N W S μ' a' w')(Or:Ord fpI mo N bef)(hcl:∀k,S k=true→∀i,bef k i→S i=true)(hds:∀k,k<N→ds k=(mo k).dst)
  {i:Nat} (hi:i<N) (hS:S i=false) (hb:∀j,bef i j→S j=true):
  RR (Znv μ' (stI i).n) (Ye5 (frI i).r (mo i).reads) (frI 0).n a'.tmps:=by
 refine⟨I.regs.1,fun t v hv=>?_⟩
 rw[Zkw]at hv
 split at hv
 ·rename_i ht
  obtain⟨h1,h2⟩:=Zyp Or hcl hds hi hS hb ht
  have hc:Zjj frI ds S N t=some v:=by
   rw[Zin (i:=i) (by omega) h2,Zre Pu (by omega) h1];exact hv
  obtain⟨x,hx,hr⟩:=I.regs.2 t v hc
  exact⟨x,hx,VR.cut (n:=(stI i).n) (fun k lk hk hk2=>by rw[Zke hk];exact hk2) v x (T.scr i (by omega) t v hv) hr⟩
 ·cases hv
def Zlx(μ' μ2:Mu)(n n':Nat):Mu:=fun j=>if j<n then μ' j else if j<n' then μ2 j else μ' j
def Txt.grow0(T:Txt P μ stI frI fpI N):∀{i j:Nat} {o':O},i≤N→j<(stI 0).n→(stI i).h.get j=some o'→o'.wr=true→∃o,(stI 0).h.get j=some o∧o.wr=true
 |0,j,o',_,_,h,hw=>⟨o',h,hw⟩
 |i+1,j,o',hi,hj,h,hw=>by
  have:=T.mono (i:=0) (k:=i) (by omega) (by omega)
  obtain⟨o,h1,h2,_⟩:=T.grow i (by omega) j o' (by omega) h
  exact T.grow0 (by omega) hj h1 (h2 hw)
def Zxd(h0:Zbb P μ w (stI 0))(T:Txt P μ stI frI fpI N){vI:Nat→V}(Pu:Ypl frI ds vI N)(I:Inv P μ w stI frI fpI ds N W S μ' a' w')(Or:Ord fpI mo N bef)(hcl:∀k,S k=true→∀i,bef k i→S i=true)
  (hds:∀k,k<N→ds k=(mo k).dst) (hW:∀k,k<N→∀j∈(fpI k).wr,j∈W) {i:Nat} (hi:i<N) (hS:S i=false) (hdn:∀d,ds i=some d→d<(frI 0).n)
  {σ σ':St} {μ2:Mu} {w2:World} {ws:List Nat} {x:Value} (hrel:Zbb P (Znv μ' (stI i).n) w' σ) (hcont:∀j l,μ' j=some l→j<(stI i).n→(fpI i).sees j→σ.h.get j=Zd3 stI fpI S N j)
  (hn:σ.n=(stI i).n) (hn':σ'.n=(stI (i+1)).n) (hst:Stp P (Znv μ' (stI i).n) w' σ μ2 w2 σ' ws) (hws:∀j,j<(stI i).n→(j∈ws↔j∈(fpI i).wr)) (hsee:∀j∈ws,(fpI i).sees j)
  (hget:∀j,((fpI i).sees j∧j<(stI i).n)∨((stI i).n≤j∧j<(stI (i+1)).n)→σ'.h.get j=(stI (i+1)).h.get j) (hx:VR μ2 (vI i) x):
  Inv P μ w stI frI fpI ds N W (Zma S i) (Zlx μ' μ2 (stI i).n (stI (i+1)).n) (a'.put (ds i) x) w2:=by
 have hle:=T.nle i hi
 have hle0:=T.mono (i:=0) (k:=i) (by omega) (by omega)
 have hfresh:∀j l,μ' j=some l→¬((stI i).n≤j∧j<(stI (i+1)).n):=fun j l hj hc=>by
  rcases(I.dom j l hj).1 with h|⟨k,h3,h4,h5,h6⟩
  ·omega
  ·have hk:k=i:=by
    rcases Nat.lt_trichotomy k i with h|h|h
    ·have:=T.mono (i:=k+1) (k:=i) (by omega) (by omega);omega
    ·exact h
    ·have:=T.mono (i:=i+1) (k:=k) (by omega) (by omega);omega
   subst hk;rw[hS]at h4;cases h4
 have m2lt:∀j,j<(stI i).n→μ2 j=μ' j:=fun j hj=>by rw[hst.ext j (by omega),Zke hj]
 have hnx1:∀j l,μ' j=some l→Zlx μ' μ2 (stI i).n (stI (i+1)).n j=some l:=fun j l hj=>by
  unfold Zlx
  by_cases e1:j<(stI i).n
  ·rw[Yv6 e1];exact hj
  ·by_cases e2:j<(stI (i+1)).n
   ·exact absurd ⟨by omega,e2⟩ (hfresh j l hj)
   ·rw[Yv4 e1,Yv4 e2];exact hj
 have hnx2:∀j l,μ2 j=some l→Zlx μ' μ2 (stI i).n (stI (i+1)).n j=some l:=fun j l hj=>by
  have hd:=(hst.hr.dom j l hj).1
  unfold Zlx
  by_cases e1:j<(stI i).n
  ·rw[Yv6 e1,←m2lt j e1];exact hj
  ·rw[Yv4 e1,Yv6 (by omega)];exact hj
 have hinv:∀j l,Zlx μ' μ2 (stI i).n (stI (i+1)).n j=some l→(μ' j=some l)∨((stI i).n≤j∧j<(stI (i+1)).n∧μ2 j=some l):=fun j l hj=>by
  unfold Zlx at hj
  split at hj
  ·exact .inl hj
  ·split at hj
   ·exact .inr ⟨by omega,by assumption,hj⟩
   ·exact .inl hj
 have tnew:∀j,Zi1 stI fpI i j→Zd3 stI fpI (Zma S i) N j=(stI (i+1)).h.get j:=fun j ht=>Ye9 hi ht (Zt0 T Or hcl hi hS ht)
 have told:∀j l,μ' j=some l→¬j∈(fpI i).wr→Zd3 stI fpI (Zma S i) N j=Zd3 stI fpI S N j:=fun j l hj hnw=>Zh3 fun h=>h.elim hnw fun h=>hfresh j l hj h
 have cold:∀j l o',μ' j=some l→Zd3 stI fpI (Zma S i) N j=some o'→∃o,Zd3 stI fpI S N j=some o∧(o'.wr=true→o.wr=true)∧(o'.live=true→o.live=true):=fun j l o' hj ho=>by
  by_cases hw:j∈(fpI i).wr
  ·have hlt:=T.wlt i hi j hw
   have hse:=hsee j ((hws j hlt).2 hw)
   rw[tnew j (.inl hw),←hget j (.inl ⟨hse,hlt⟩)]at ho
   obtain⟨o,q1,q2,q3⟩:=hst.grow j o' (by omega) ho
   exact⟨o,by rw[←hcont j l hj hlt hse];exact q1,q2,q3⟩
  ·rw[told j l hj hw]at ho
   exact⟨o',ho,id,id⟩
 have cwr:∀j∈ws,∀lj,Znv μ' (stI i).n j=some lj→∃o,Zd3 stI fpI S N j=some o∧o.wr=true:=fun j hj lj hlj=>by
  obtain⟨h1,h2⟩:=Zdp hlj
  obtain⟨o,q1,q2⟩:=hst.wrt j hj (by omega)
  exact⟨o,by rw[←hcont j lj h2 h1 (hsee j hj)];exact q1,q2⟩
 have nblk:∀j l,(stI i).n≤j→μ2 j=some l→w'.heap.size≤l.b∨∃k lk,k∈ws∧k<(stI i).n∧μ' k=some lk∧lk.b=l.b∧∃o,Zd3 stI fpI S N k=some o∧o.wr=true:=fun j l hj hl=>by
  rcases hst.new j l (by omega) hl with h|⟨k,hk,hkn,lk,ok,h1,h2,h3,h4⟩
  ·exact .inl h
  ·obtain⟨_,q2⟩:=Zdp h1
   exact .inr ⟨k,lk,hk,by omega,q2,h2,cwr k hk lk h1⟩
 refine⟨fun j hj=>?_,fun j l hj=>?_,fun k hk hSk j h1 h2=>?_,fun j l hj=>?_,fun j k lj lk oj ok hj hk hne h1 h2 hw hl=>?_,⟨?_,fun t v hv=>?_⟩,?_,?_,fun j l hj0 hj=>?_⟩
 ·-- ext
  unfold Zlx
  rw[Yv6 (by omega)];exact I.ext j hj
 ·-- dom
  rcases hinv j l hj with h|⟨h1,h2,h3⟩
  ·obtain⟨d1,d2⟩:=I.dom j l h
   refine⟨d1.imp id fun ⟨k,q1,q2,q3⟩=>⟨k,q1,?_,q3⟩,Ywf d2 hst.chg.size⟩
   simp only[Zma];split<;>first|rfl|exact q2
  ·exact⟨.inr ⟨i,hi,by simp[Zma],h1,h2⟩,(hst.hr.dom j l h3).2⟩
 ·-- full
  by_cases e:k=i
  ·subst e
   obtain⟨l,hl⟩:=hst.full j (by omega) (by omega)
   exact⟨l,hnx2 j l hl⟩
  ·simp only[Zma,e,if_false]at hSk
   obtain⟨l,hl⟩:=I.full k hk hSk j h1 h2
   exact⟨l,hnx1 j l hl⟩
 ·-- obj
  rcases hinv j l hj with h|⟨h1,h2,h3⟩
  ·by_cases hw:j∈(fpI i).wr
   ·have hlt:=T.wlt i hi j hw
    have hse:=hsee j ((hws j hlt).2 hw)
    obtain⟨o,q1,q2⟩:=hst.hr.obj j l (by rw[m2lt j hlt];exact h)
    exact⟨o,by rw[tnew j (.inl hw),←hget j (.inl ⟨hse,hlt⟩)];exact q1,q2.mono hnx2⟩
   ·obtain⟨o,q1,q2⟩:=I.obj j l h
    refine⟨o,by rw[told j l h hw];exact q1,?_⟩
    cases hl:o.live with
    |false=>cases o<;>simp[O.live]at hl;trivial
    |true=>
     refine(q2.mono hnx1).congr (hst.chg.block l.b (I.dom j l h).2 fun k hk lk hlk=>?_)
     obtain⟨q3,q4⟩:=Zdp hlk
     obtain⟨ok,q5,q6⟩:=cwr k hk lk hlk
     exact I.inj k j lk l ok o q4 h (fun hc=>hw (by rw[←hc];exact(hws k q3).1 hk)) q5 q1 q6 hl
  ·obtain⟨o,q1,q2⟩:=hst.hr.obj j l h3
   exact⟨o,by rw[tnew j (.inr ⟨h1,h2⟩),←hget j (.inr ⟨h1,h2⟩)];exact q1,q2.mono hnx2⟩
 ·-- inj
  have cross:∀j k lj lk oj ok,(stI i).n≤j→j<(stI (i+1)).n→μ2 j=some lj→μ' k=some lk→Zd3 stI fpI (Zma S i) N j=some oj→Zd3 stI fpI (Zma S i) N k=some ok→((oj.wr=true∧ok.live=true)∨(ok.wr=true∧oj.live=true))→lj.b≠lk.b:=by
   intro j k lj lk oj ok hj1 hj2 hj3 hk hoj hok hboth
   have hoklive:ok.live=true:=by
    rcases hboth with h|h
    ·exact h.2
    ·have:=h.1;cases ok<;>simp_all [O.wr,O.live]
   rcases nblk j lj hj1 hj3 with h|⟨q,lq,h1,h2,h3,h4,o,h5,h6⟩
   ·have:=(I.dom k lk hk).2;omega
   ·rw[←h4]
    by_cases e:q=k
    ·subst e
     rw[h3,Yv3]at hk;subst hk
     have hwq:=(hws q h2).1 h1
     rw[tnew j (.inr ⟨hj1,hj2⟩),←hget j (.inr ⟨hj1,hj2⟩)]at hoj
     rw[tnew q (.inl hwq),←hget q (.inl ⟨hsee q h1,h2⟩)]at hok
     have hq2:μ2 q=some lq:=by rw[m2lt q h2];exact h3
     exfalso
     rcases hboth with hb|hb
     ·exact hst.hr.inj j q lj lq oj ok hj3 hq2 (by omega) hoj hok hb.1 hb.2 h4.symm
     ·exact hst.hr.inj q j lq lj ok oj hq2 hj3 (by omega) hok hoj hb.1 hb.2 h4
    ·obtain⟨ok0,g1,g2,g3⟩:=cold k lk ok hk hok
     exact I.inj q k lq lk o ok0 h3 hk e h5 g1 h6 (g3 hoklive)
  rcases hinv j lj hj with hj'|⟨a1,a2,a3⟩
  ·rcases hinv k lk hk with hk'|⟨b1,b2,b3⟩
   ·obtain⟨oj0,g1,g2,g3⟩:=cold j lj oj hj' h1
    obtain⟨ok0,g4,g5,g6⟩:=cold k lk ok hk' h2
    exact I.inj j k lj lk oj0 ok0 hj' hk' hne g1 g4 (g2 hw) (g6 hl)
   ·exact(cross k j lk lj ok oj b1 b2 b3 hj' h2 h1 (.inr ⟨hw,hl⟩)).symm
  ·rcases hinv k lk hk with hk'|⟨b1,b2,b3⟩
   ·exact cross j k lj lk oj ok a1 a2 a3 hk' h1 h2 (.inl ⟨hw,hl⟩)
   ·rw[tnew j (.inr ⟨a1,a2⟩),←hget j (.inr ⟨a1,a2⟩)]at h1
    rw[tnew k (.inr ⟨b1,b2⟩),←hget k (.inr ⟨b1,b2⟩)]at h2
    exact hst.hr.inj j k lj lk oj ok a3 b3 hne h1 h2 hw hl
 ·-- the temporaries' count
  cases hd:ds i<;>simp[Act.put,I.regs.1]
 ·-- the temporaries
  by_cases ht:ds i=some t
  ·rw[Ye8 Pu hi ht (Yen Or hcl hds hi hS ht),Yv3]at hv
   subst hv
   refine⟨x,?_,VR.mono hnx2 _ _ hx⟩
   rw[ht]
   simp[Act.put,I.regs.1,hdn t ht]
  ·rw[Zh2 ht]at hv
   obtain⟨y,q1,q2⟩:=I.regs.2 t v hv
   refine⟨y,?_,VR.mono hnx1 _ _ q2⟩
   cases hd:ds i with
   |none=>simpa[Act.put]using q1
   |some d=>
    have:d≠t:=fun hc=>ht (by rw[hd,hc])
    simp only[Act.put]
    rw[Yze this];exact q1
 ·-- the marks
  have:(a'.put (ds i) x).defers=a'.defers:=by cases ds i<;>rfl
  rw[this];exact I.defs.mono hnx1
 ·-- the frame
  refine⟨hst.chg.os.trans I.chg.os,hst.chg.tape.trans I.chg.tape,hst.chg.output.trans I.chg.output,Yxt I.chg.size hst.chg.size,fun b hb hnot=>?_⟩
  rw[hst.chg.block b (Ywf hb I.chg.size) fun j hj lj hlj=>?_,I.chg.block b hb hnot]
  obtain⟨q1,q2⟩:=Zdp hlj
  by_cases e:j<(stI 0).n
  ·exact hnot j (hW i hi j ((hws j q1).1 hj)) lj (by rw[←I.ext j e];exact q2)
  ·rcases I.new j lj (by omega) q2 with h|⟨k,hk,_,lk,_,h3,h4,_⟩
   ·omega
   ·rw[←h4];exact hnot k hk lk h3
 ·-- new ids
  rcases hinv j l hj with h|⟨h1,h2,h3⟩
  ·exact I.new j l hj0 h
  ·rcases nblk j l h1 h3 with h|⟨q,lq,q1,q2,q3,q4,o,q5,q6⟩
   ·exact .inl (Yxt I.chg.size h)
   ·by_cases e:q<(stI 0).n
    ·have hqW:=hW i hi q ((hws q q2).1 q1)
     obtain⟨oi,g1,g2⟩:=T.wrt i hi q ((hws q q2).1 q1)
     obtain⟨o0,g3,g4⟩:=T.grow0 (by omega) e g1 g2
     exact .inr ⟨q,hqW,e,lq,o0,by rw[←I.ext q e];exact q3,q4,g3,g4⟩
    ·rcases I.new q lq (by omega) q3 with h|⟨k,hk,g1,lk,ok,g2,g3,g4⟩
     ·exact .inl (by omega)
     ·exact .inr ⟨k,hk,g1,lk,ok,g2,g3.trans q4,g4⟩
end
section
variable {P:Program} {μ:Mu} {w:World} {st st':St} {fr fr':Fr} {a:Act} {call:Za4} {v:V} {lb:Option Nat}
def Zzg:∀(l:List Nat) (n j:Nat),j<n→(j∈Zaa n l↔j∈l):=by
 intro l n i hi
 induction l with
 |nil=>simp[Zaa]
 |cons j l ih=>
  simp only[Zaa]
  split
  ·unfold Zf7
   split
   ·rename_i hc
    simp only[Yxa,ih]
    simp only[Yzx]at hc
    constructor
    ·exact .inr
    ·rintro(rfl|h)
     ·exact ih.1 hc
     ·exact h
   ·simp only[Yxa,ih]
  ·simp only[Yxa,ih]
   constructor
   ·exact .inr
   ·rintro(rfl|h)
    ·omega
    ·exact h
def Yid(hcall:Zbx P call)(hE:Zez P){ops:Array Oper}{Q:Exit→Act→World→Prop}{stI:Nat→St}{frI:Nat→Fr}{vI:Nat→V}{fpI:Nat→FP}{S:Nat→Bool}{W:List Nat}{μ':Mu}{a':Act}{w':World}
  (h0:Zbb P μ w (stI 0)) (hs:∀i o,ops[i]?=some o→Zh7 P call ops o (stI i) (frI i) (vI i) (fpI i) (stI (i+1)) (frI (i+1)))
  (T:Txt P μ stI frI fpI ops.size) {ds:Nat→Option Nat} {mo:Nat→Zbc} (hmo:∀i o,ops[i]?=some o→mo i=Zhb P ops o) (hds:∀k,k<ops.size→ds k=(mo k).dst) (Pu:Ypl frI ds vI ops.size)
  {bef:Nat→Nat→Prop} (Or:Ord fpI mo ops.size bef) (I:Inv P μ w stI frI fpI ds ops.size W S μ' a' w') (hcl:∀k,S k=true→∀i,bef k i→S i=true) (hW:∀k,k<ops.size→∀j∈(fpI k).wr,j∈W)
  (hdef:∀i,i<ops.size→∀ds,Zo8 μ' (frI 0).marks ds→Zo8 (Znv μ' (stI i).n) (frI 0).marks ds)
  {i:Nat} (hi:i<ops.size) (hS:S i=false) (hb:∀j,bef i j→S j=true) {K:Act→World→Prop}
  (hK:∀μ2 a2 w2,Inv P μ w stI frI fpI ds ops.size W (Zma S i) μ2 a2 w2→K a2 w2):wpOpIn (FE lb) 0 P ops Q i K a' w':=by
 have ho:ops[i]?=some ops[i]:=Array.getElem?_eq_getElem hi
 obtain⟨g,b,hg,hw,hp,ht,hfa⟩:=hs i _ ho
 have hmi:=hmo i _ ho
 have hmi':mo i=⟨ops[i].dst,cOp P ops[i].op,g⟩:=by rw[hmi];unfold Zhb;rw[hg]
 have hdi:ds i=ops[i].dst:=by rw[hds i hi,hmi']
 have hreads:∀s∈(cOp P ops[i].op).srcs,∀t∈s.tmps,t∈(mo i).reads:=fun s hs t ht=>by
  rw[hmi'];simp only[Zbc.reads,Yxs,List.mem_flatMap];exact .inr ⟨s,hs,ht⟩
 have hRR:=Yi9 T Pu I Or hcl hds hi hS hb
 have hwant:wantedV (Ye5 (frI i).r (mo i).reads) g=wantedV (frI i).r g:=by
  cases g with
  |none=>rfl
  |some p=>
   obtain⟨t,want⟩:=p
   simp only[wantedV]
   rw[Zkw,Yv6 (by rw[hmi'];simp[Zbc.reads])]
 have hdn:∀d,ds i=some d→d<(frI 0).n:=fun d hd=>by
  rw[hdi]at hd
  rw[hd]at hp
  simp only[Fr.put]at hp
  split at hp
  ·rename_i hlt;rw[←(T.fn i (by omega)).1];exact hlt
  ·cases hp
 unfold wpOpIn
 rw[ho]
 simp only[]
 have hwd:Region.wanted ops[i] (yielded ops a'.tmps)=b:=Zpa (fr:={r:=Ye5 (frI i).r (mo i).reads,n:=(frI 0).n,marks:=[]}) (a:=a') hRR hg (by rw[hwant];exact hw)
 cases b with
 |true=>
  rw[Yv6 hwd]
  obtain⟨s',hm,hst1,hfp⟩:=ht rfl
  obtain⟨σ,σ',k1,k2,k3,k4,k5,k6,k7,k8,k9⟩:=Yh3 (ws:=Zaa (stI i).n s'.w) (lo:=(stI i).n) (hi:=s'.n) hm rfl
  rw[←hfp]at k6 k7 k8 k9
  obtain⟨hrel,hcont⟩:=Ye4 h0 T I Or hcl hi hS hb k1 k6 k7
  have hfr:FrR (Znv μ' (stI i).n) {r:=Ye5 (frI i).r (mo i).reads,n:=(frI 0).n,marks:=(frI 0).marks} a':=⟨hRR,hdef i hi _ I.defs⟩
  have hm2:mop (cOp P ops[i].op) call (Ye5 (frI i).r (mo i).reads) σ=some (vI i,σ'):=by
   rw[Yc8 (r':=(frI i).r) fun s hs=>Yop (hreads s hs)];exact k3
  refine Ymo hcall hE hrel hfr hm2 fun x w2 μ2 ws hv hst=>?_
  have hws:ws=s'.w:=by
   have:=hst.wl
   rw[k2,k5,Yyb]at this
   exact this.symm
  have hn':(stI (i+1)).n=s'.n:=by rw[hst1]
  have hh':(stI (i+1)).h=s'.h:=by rw[hst1]
  have hinv:=Zxd h0 T Pu I Or hcl hds hW hi hS hdn hrel hcont k1 (by rw[k4,hn']) hst (fun j hj=>by
   rw[hws,hfp,(Zvf (call:=call) hm _ _).1]
   exact(Zzg _ _ _ hj).symm) (fun j hj=>k9 j (by rw[←hws];exact hj)) (fun j hj=>by rw[hh'];exact k8 j (by rw[hn']at hj;exact hj)) hv
  rw[hdi]at hinv
  exact hK _ _ _ hinv
 |false=>
  rw[Yv4 (by rw[hwd];simp)]
  obtain⟨hv,hst1,hfp⟩:=hfa rfl
  refine⟨fun _ _=>trivial,?_⟩
  have hsee:∀j,¬(fpI i).sees j:=fun j=>by rw[hfp];simp[FP.sees]
  obtain⟨hrel,hcont⟩:=Ye4 (σ:=⟨Zcj (stI i).h [] (stI i).n,(stI i).n,[]⟩) h0 T I Or hcl hi hS hb rfl (fun j _ hj=>absurd hj (hsee j)) (fun j hj _=>by
   show (Zcj (stI i).h [] (stI i).n).get j=_
   rw[Zeg,Yv6 hj];simp)
  have hn':(stI (i+1)).n=(stI i).n:=by rw[hst1]
  have:=Zxd (x:=undef) (ws:=[]) (σ':=⟨Zcj (stI i).h [] (stI i).n,(stI i).n,[]⟩) h0 T Pu I Or hcl hds hW hi hS hdn hrel hcont rfl hn'.symm (Stp.refl hrel) (fun j hj=>by rw[hfp]) (fun j hj=>by simp at hj) (fun j hj=>by
   rcases hj with⟨h,_⟩|⟨h1,h2⟩
   ·exact absurd h (hsee j)
   ·omega) (by rw[hv];exact⟨[],rfl,by simp[VRs]⟩)
  rw[hdi]at this
  exact hK _ _ _ this
def Zl1:∀{os:List Oper} {b:Nat},Zlm b os=true→∀i o,os[i]?=some o→∀e∈o.after,Region.binds .any e=true→e.on<b+i
 |[],b,_,i,o,h,_,_,_=>by simp at h
 |o0::os,b,h,i,o,ho,e,he,hb=>by
  simp only[Zlm,Ywo]at h
  cases i with
  |zero=>
   simp only[Yxy,Yv3]at ho
   subst ho
   have h1:=h.1
   rw[Yzq]at h1
   have:=h1 e he
   rw[hb]at this
   simpa[Nat.blt_eq]using this
  |succ i=>
   have:=Zl1 h.2 i o (by simpa using ho) e he hb
   omega
def Yao{ops:Array Oper}(he:Zlm 0 ops.toList=true){listed:Array Bool}(hsz:listed.size=ops.size)(hr:Region.ready .any ops listed=[]):∀k,k<ops.size→listed.getD k false=true:=by
 intro k
 induction k using Nat.strongRecOn with
 |_ k ih=>
  intro hk
  refine Classical.byContradiction fun hn=>?_
  have hmem:k∈Region.ready .any ops listed:=by
   unfold Region.ready
   simp only[List.mem_filter,Yx1,Ywo,Yzi]
   refine⟨hk,?_,?_⟩
   ·have hlk:k<listed.size:=by omega
    simp only[Array.getD,hlk,dif_pos]at hn ⊢
    simpa using hn
   ·have ho:ops[k]?=some ops[k]:=Array.getElem?_eq_getElem hk
    rw[ho]
    simp only[Yya,Yxg,Yzq,Yzl,Yzi]
    intro e hee
    cases hb:Region.binds .any e with
    |false=>exact .inl rfl
    |true=>
     have:=Zl1 he k ops[k] (by rw[Yyf];exact ho) e hee hb
     exact .inr (ih e.on (by omega) (by omega))
  rw[hr]at hmem
  cases hmem
def Ye6{p q:Nat→Bool}{i:Nat}(hp:p i=true)(hq:q i=false)(ho:∀k,k≠i→q k=p k):∀N,i<N→(List.range N).countP q+1=(List.range N).countP p:=by
 have same:∀N,N≤i→(List.range N).countP q=(List.range N).countP p:=by
  intro N
  induction N with
  |zero=>intro _;rfl
  |succ N ih=>
   intro h
   rw[List.range_succ,List.countP_append,List.countP_append,ih (by omega)]
   simp[ho N (by omega)]
 intro N
 induction N with
 |zero=>intro h;omega
 |succ N ih=>
  intro h
  rw[List.range_succ,List.countP_append,List.countP_append]
  by_cases e:N=i
  ·subst e
   rw[same N (Yv5 _)]
   simp[hp,hq]
  ·have:=ih (by omega)
   simp only[List.countP_singleton,ho N e]
   omega
end
section
variable {P:Program} {μ:Mu} {w:World} {st st':St} {fr fr':Fr} {a:Act} {call:Za4} {v:V} {lb:Option Nat}
def Yjr{listed:Array Bool}{i:Nat}(hi:i<listed.size):(fun k=>(listed.setIfInBounds i true).getD k false)=Zma (fun k=>listed.getD k false) i:=by
 funext k
 simp only[Zma,Yye]
 by_cases e:k=i
 ·subst e;simp[hi]
 ·rw[Yze (Ne.symm e),Yv4 e]
def Yr0(hcall:Zbx P call)(hE:Zez P){ops:Array Oper}{Q:Exit→Act→World→Prop}{stI:Nat→St}{frI:Nat→Fr}{vI:Nat→V}{fpI:Nat→FP}{W:List Nat}
  (h0:Zbb P μ w (stI 0)) (hs:∀i o,ops[i]?=some o→Zh7 P call ops o (stI i) (frI i) (vI i) (fpI i) (stI (i+1)) (frI (i+1)))
  (T:Txt P μ stI frI fpI ops.size) {ds:Nat→Option Nat} {mo:Nat→Zbc} (hmo:∀i o,ops[i]?=some o→mo i=Zhb P ops o) (hds:∀k,k<ops.size→ds k=(mo k).dst) (Pu:Ypl frI ds vI ops.size)
  (Or:Ord fpI mo ops.size (fun k i=>((Zdf ops.toList []).getD k 0).testBit i=true)) (hW:∀k,k<ops.size→∀j∈(fpI k).wr,j∈W) (hedge:Zlm 0 ops.toList=true)
  (hdef:∀μ',(∀j,j<(stI 0).n→μ' j=μ j)→∀i,i<ops.size→∀ds,Zo8 μ' (frI 0).marks ds→Zo8 (Znv μ' (stI i).n) (frI 0).marks ds)
  (hQ:∀S μ' a' w',(∀k,k<ops.size→S k=true)→Inv P μ w stI frI fpI ds ops.size W S μ' a' w'→Q .normal a' w'):
  ∀(fuel:Nat) (listed:Array Bool) (μ':Mu) (a':Act) (w':World),listed.size=ops.size→(List.range ops.size).countP (fun k=>!listed.getD k false)=fuel→
   (Yk8 ops fun k=>listed.getD k false=true)→Inv P μ w stI frI fpI ds ops.size W (fun k=>listed.getD k false) μ' a' w'→wpAnyIn (FE lb) 0 P .any ops Q fuel listed a' w':=by
 intro fuel
 induction fuel with
 |zero=>
  intro listed μ' a' w' hsz hc hcl I
  have hall:∀k,k<ops.size→listed.getD k false=true:=fun k hk=>by
   rw[List.countP_eq_zero]at hc
   have:=hc k (Yx1.2 hk)
   simpa using this
  refine⟨?_,hQ _ μ' a' w' hall I⟩
  refine List.eq_nil_iff_forall_not_mem.2 fun j hj=>?_
  obtain⟨h1,h2,_⟩:=Zpj hcl hj
  have:=hall j h1
  simp only[Yye]at h2 this
  have hj2:j<listed.size:=by omega
  simp[hj2]at h2 this
  rw[h2]at this;cases this
 |succ fuel ih=>
  intro listed μ' a' w' hsz hc hcl I
  refine⟨fun hr=>hQ _ μ' a' w' (Yao hedge hsz hr) I,fun i hi=>?_⟩
  obtain⟨h1,h2,h3⟩:=Zpj hcl hi
  have hil:i<listed.size:=by omega
  have hSi:listed.getD i false=false:=by
   simp only[Yye]at h2 ⊢
   simp[hil]at h2 ⊢
   exact h2
  refine Yid (S:=fun k=>listed.getD k false) hcall hE h0 hs T hmo hds Pu Or I (fun k hk i hb=>hcl k i hk hb) hW (hdef μ' I.ext) h1 hSi h3 fun μ2 a2 w2 I2=>?_
  have hset:=Yjr (listed:=listed) hil
  refine ih (listed.setIfInBounds i true) μ2 a2 w2 (by simp[hsz]) ?_ ?_ (by rw[hset];exact I2)
  ·have:=Ye6 (p:=fun k=>!listed.getD k false) (q:=fun k=>!(listed.setIfInBounds i true).getD k false) (i:=i) (by simp[hSi]) (by
    have:=congrFun hset i
    simp only[this];simp[Zma]) (fun k hk=>by
    have:=congrFun hset k
    simp only[this];simp[Zma,hk]) ops.size h1
   omega
  ·intro k j hk hb
   have e1:=congrFun hset k
   have e2:=congrFun hset j
   simp only[e1,e2,Zma]at hk ⊢
   by_cases ej:j=i
   ·rw[Yv6 ej]
   ·rw[Yv4 ej]
    by_cases ek:k=i
    ·subst ek;exact h3 j hb
    ·rw[Yv4 ek]at hk;exact hcl k j hk hb
def Zo8.cut'{μ μ' μ2:Mu}{n:Nat}(hd:∀i l,μ i=some l→i<n)(h:∀i l,i<n→μ' i=some l→μ2 i=some l):∀{ms:List Nat} {ds ds':List Deferred},Zo8 μ ms ds→Zo8 μ' ms ds'→Zo8 μ2 ms ds'
 |[],_,_,_,h2=>h2
 |m::ms,_,_,⟨l,_,h1,_,h3⟩,⟨l',d',g1,g2,g3⟩=>⟨l',d',h m l' (hd m l h1) g1,g2,Zo8.cut' hd h h3 g3⟩
def Zpe{stI:Nat→St}{frI:Nat→Fr}{fpI:Nat→FP}{N:Nat}(T:Txt P μ stI frI fpI N)(j:Nat):∀i,i≤N→(stI 0).n≤j→j<(stI i).n→∃k,k<i∧(stI k).n≤j∧j<(stI (k+1)).n
 |0,_,h1,h2=>by omega
 |i+1,hi,h1,h2=>by
  by_cases e:j<(stI i).n
  ·obtain⟨k,a1,a2⟩:=Zpe T j i (by omega) h1 e
   exact⟨k,by omega,a2⟩
  ·exact⟨i,by omega,by omega,h2⟩
def Zrm{stI:Nat→St}{frI:Nat→Fr}{fpI:Nat→FP}{N:Nat}(T:Txt P μ stI frI fpI N):∀i,i≤N→∃Wi,(stI i).w=Wi++(stI 0).w∧∀k,k<i→∀j∈(fpI k).wr,j∈Wi
 |0,_=>⟨[],rfl,fun k hk=>by omega⟩
 |i+1,hi=>by
  obtain⟨Wi,h1,h2⟩:=Zrm T i (by omega)
  refine⟨(fpI i).wr++Wi,by rw[T.wl i (by omega),h1,Yxf],fun k hk j hj=>?_⟩
  by_cases e:k=i
  ·subst e;simp[hj]
  ·simp[h2 k (by omega) j hj]
def Yeo(hm:P.follows .mixedOrders=true)(hE:Zez P)(hcall:Zbx P call):Yk7 P call:=by
 intro id ops fr st ex fr' st' hp h μ w a lb hh hf
 unfold Yl8 at hp
 simp only[Ywo]at hp
 obtain⟨hedge,hpt⟩:=hp
 unfold Zh5 at h
 split at h
 ·rename_i fps fr1 st1 hrun
  split at h
  ·rename_i hap
   simp only[Yv3,Ywa]at h
   obtain⟨rfl,rfl,rfl⟩:=h
   obtain⟨stI,frI,vI,fpI,e1,e2,e3,e4,e5,hs⟩:=Zsf ops.toList fr st fps fr1 st1 hrun
   subst e1 e2
   have hN:ops.toList.length=ops.size:=by simp
   rw[hN]at e3 e4 e5
   have hs':∀i o,ops[i]?=some o→Zh7 P call ops o (stI i) (frI i) (vI i) (fpI i) (stI (i+1)) (frI (i+1)):=fun i o ho=>(hs i o (by rw[Yyf];exact ho)).2
   have T:=Yp0 hcall hE hN hh hf fun i o ho=>(hs i o ho).2
   let mo:Nat→Zbc:=fun i=>match ops[i]? with|some o=>Zhb P ops o|none=>⟨none,.stop,none⟩
   have hmo:∀i o,ops[i]?=some o→mo i=Zhb P ops o:=fun i o ho=>by simp only[mo,ho]
   have hdst:∀i o,ops[i]?=some o→(mo i).dst=o.dst:=fun i o ho=>by rw[hmo i o ho];unfold Zhb;split<;>rfl
   have hget:∀i,i<ops.size→ops[i]?=some (ops[i]!):=fun i hi=>by simp[hi]
   have Pu:Ypl frI (fun k=>(mo k).dst) vI ops.size:=fun i hi t=>by
    obtain⟨g,b,_,_,hp,_⟩:=hs' i _ (hget i hi)
    show (frI (i+1)).r.get t=if (mo i).dst=some t then some (vI i) else (frI i).r.get t
    rw[hdst i _ (hget i hi)]
    cases hd:(ops[i]!).dst with
    |none=>rw[hd]at hp;simp only[Fr.put,Yv3]at hp;rw[←hp];simp
    |some d=>
     rw[hd]at hp
     simp only[Fr.put]at hp
     split at hp
     ·simp only[Yv3]at hp
      rw[←hp,Go.Mx.T.get_set]
      by_cases e:t=d
      ·subst e;simp
      ·rw[Yv4 e,Yv4 (by simp[Ne.symm e])]
     ·cases hp
   have Or:Ord fpI mo ops.size (fun k i=>((Zdf ops.toList []).getD k 0).testBit i=true):=by
    refine⟨fun i k hik hk=>?_,fun i k hik hk=>?_⟩
    ·exact Zwn hap hik ((hs i _ (by rw[Yyf];exact hget i (by omega))).1) ((hs k _ (by rw[Yyf];exact hget k hk)).1)
    ·refine Zwn hpt hik ?_ ?_
     ·rw[Ywj,Yyf,hget i (by omega),Yya,hmo i _ (hget i (by omega))]
     ·rw[Ywj,Yyf,hget k hk,Yya,hmo k _ (hget k hk)]
   obtain⟨W,hW1,hW2⟩:=Zrm T ops.size (Yv5 _)
   obtain⟨wT,μT,aT,wsT,hT1,hT2⟩:=Zxx hcall hE hN hh hf (fun i o ho=>(hs i o ho).2) ops.size (Yv5 _)
   have hwsW:wsT=W:=List.append_cancel_right (hT1.wl.symm.trans hW1)
   subst hwsW
   have hsz0:∀k,(Array.replicate ops.size false).getD k false=false:=fun k=>by
    simp only[Yye]
    by_cases hk:k<ops.size
    ·simp[hk]
    ·simp[hk]
   have hcH:∀M j,Zd3 stI fpI (fun k=>(Array.replicate ops.size false).getD k false) M j=(stI 0).h.get j:=fun M j=>Zio (i:=0) (Yyj _) fun k _ _ _=>hsz0 k
   have hcR:∀M t,Zjj frI (fun k=>(mo k).dst) (fun k=>(Array.replicate ops.size false).getD k false) M t=(frI 0).r.get t:=fun M t=>Zin (i:=0) (Yyj _) fun k _ _ _=>hsz0 k
   have I0:Inv P μ w stI frI fpI (fun k=>(mo k).dst) ops.size wsT (fun k=>(Array.replicate ops.size false).getD k false) μ a {w with drawn:=w.drawn+1}:=by
    refine⟨fun _ _=>rfl,fun j l hj=>⟨.inl (hh.dom j l hj).1,(hh.dom j l hj).2⟩,fun k _ hk=>?_,fun j l hj=>?_,fun i j l l' o o' h1 h2 h3 h4 h5=>?_,⟨hf.1.1,fun t v hv=>?_⟩,hf.2,⟨rfl,rfl,rfl,Yv5 _,fun _ _ _=>rfl⟩,fun i l h1 h2=>absurd (hh.dom i l h2).1 (by omega)⟩
    ·rw[hsz0 k]at hk;cases hk
    ·obtain⟨o,q1,q2⟩:=hh.obj j l hj
     exact⟨o,by rw[hcH];exact q1,OM.congr (w:=w) rfl q2⟩
    ·rw[hcH]at h4 h5
     exact hh.inj i j l l' o o' h1 h2 h3 h4 h5
    ·rw[hcR]at hv
     exact hf.1.2 t v hv
   refine wpIn_region_any hm (Yr0 hcall hE hh hs' T hmo (fun _ _=>rfl) Pu Or hW2 hedge ?_ ?_ ops.size _ μ a _ (by simp) ?_ ?_ I0)
   ·intro μ' hext i hi ds hds
    exact Zo8.cut' (n:=(stI 0).n) (fun j l hj=>(hh.dom j l hj).1) (fun j l hj hl=>by
     have:=T.mono (i:=0) (k:=i) (by omega) (by omega)
     rw[Zke (by omega)];exact hl) hf.2 hds
   ·intro S μ' a' w' hS I
    have hfH:∀j,j<(stI ops.size).n→Zd3 stI fpI S ops.size j=(stI ops.size).h.get j:=fun j hj=>Zrf T (Yv5 _) hj fun k hk _=>hS k hk
    have hfR:∀t,Zjj frI (fun k=>(mo k).dst) S ops.size t=(frI ops.size).r.get t:=fun t=>Zre Pu (Yv5 _) fun k hk _=>hS k hk
    have hdom:∀j l,μ' j=some l→j<(stI ops.size).n:=fun j l hj=>by
     rcases(I.dom j l hj).1 with h|⟨k,h1,_,_,h2⟩
     ·have:=T.mono (i:=0) (k:=ops.size) (by omega) (by omega);omega
     ·have:=T.mono (i:=k+1) (k:=ops.size) (by omega) (by omega);omega
    rw[←e3,←e4]
    refine⟨rfl,μ',wsT,⟨⟨fun j l hj=>⟨hdom j l hj,(I.dom j l hj).2⟩,fun j l hj=>?_,fun i j l l' o o' h1 h2 h3 h4 h5=>?_,fun g hg=>?_⟩,I.ext,T.mono (Yyj _) (Yv5 _),hW1,I.chg,I.new,hT1.keep,hT1.grow,fun j h1 h2=>?_,hT1.wrt⟩,⟨?_,fun t v hv=>?_⟩,?_⟩
    ·obtain⟨o,q1,q2⟩:=I.obj j l hj
     exact⟨o,by rw[←hfH j (hdom j l hj)];exact q1,q2⟩
    ·exact I.inj i j l l' o o' h1 h2 h3 (by rw[hfH i (hdom i l h1)];exact h4) (by rw[hfH j (hdom j l' h2)];exact h5)
    ·obtain⟨t,ht⟩:=hh.glob g hg
     exact⟨t,by rw[I.ext g (hh.dom g _ ht).1];exact ht⟩
    ·obtain⟨k,q1,q2,q3⟩:=Zpe T j ops.size (Yv5 _) h1 h2
     exact I.full k q1 (hS k q1) j q2 q3
    ·rw[(T.fn ops.size (Yv5 _)).1];exact I.regs.1
    ·exact I.regs.2 t v (by rw[hfR];exact hv)
    ·rw[(T.fn ops.size (Yv5 _)).2];exact I.defs
   ·have:(fun k=>!(Array.replicate ops.size false).getD k false)=fun _=>true:=by funext k;rw[hsz0];rfl
    rw[this];simp
   ·intro k i hk
    rw[hsz0 k]at hk;cases hk
  ·cases h
 ·cases h
end
end Go.Mx
