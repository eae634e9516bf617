/-What an operation of M looks at-/
import Derived.Test.YtjjmkflbfpeagaaGreatDoorMxFun
set_option linter.all false
namespace Go.Mx
open Go
section
variable {r r' : T V} {st : St} {call : cH}
def Ee : ∀ {l : List Src}, (∀ s ∈ l, s.ev r = s.ev r') -> rA r l = rA r' l
  | [], _ => rfl
  | s :: l, h => by
    simp only [rA]
    rw [h s (by simp), Ee fun s hs => h s (by simp [hs])]
def Cd {o : Option Src} (h : ∀ s ∈ zA o, s.ev r = s.ev r') : az r o = az r' o := by
  cases o with
  | none => rfl
  | some s => simp only [az]; rw [h s (by simp [zA])]
def SU : ∀ {l : List (Nat × Nat × Src)}, (∀ s ∈ l.map (·.2.2), s.ev r = s.ev r') -> zu r l = zu r' l
  | [], _ => rfl
  | (o, k, s) :: l, h => by
    simp only [zu]
    rw [h s (by simp), SU fun s hs => h s (by simp only [km, jy]; exact .inr hs)]
def Ybu {op : fS} (h : ∀ s ∈ op.Ay, s.ev r = s.ev r') : bX op call r st = bX op call r' st := by
  cases op <;> simp only [fS.Ay, jy, List.not_mem_nil, or_false, forall_eq_or_imp, forall_eq, kl] at h <;> simp only [bX]
  case build z ps => simp only [Au, SU h]
  case mH e s l z ps => simp only [DC, SU h]
  case mL f a c => simp only [DJ, Ee fun s hs => h s (.inl hs), Ee fun s hs => h s (.inr hs)]
  case cr x lo hi => simp only [wF, h.1, Cd fun s hs => h.2 s (.inl hs), Cd fun s hs => h.2 s (.inr hs)]
  case kY z x lo hi m => simp only [po, h.1, Cd fun s hs => h.2 s (.inl (.inl hs)), Cd fun s hs => h.2 s (.inl (.inr hs)), Cd fun s hs => h.2 s (.inr hs)]
  case ja k z x lo hi m => simp only [xG, h.1, Cd fun s hs => h.2 s (.inl (.inl hs)), Cd fun s hs => h.2 s (.inl (.inr hs)), Cd fun s hs => h.2 s (.inr hs)]
  case mn l => simp only [wH, Ee h]
  case mx l => simp only [pr, Ee h]
  case call f l => simp only [wI, h.1, Ee fun s hs => h.2 s hs]
  case ext e l => simp only [DQ, Ee h]
  all_goals
    first
      | rfl
      | (simp only [Dy, Dz, DD, DE, DG, DH, GG, BT, DI, GH, BU, DK, DL, DN, DO, II, IJ, DP, vC, GK, GL, BZ, GM, IM, DS, h]; done)
      | (simp only [BR, BS, DF, Av, Aw, BV, GJ, BW, DM, BX, YC, Sb, Ax, BY, GN, IL, h.1, h.2]; done)
      | (simp only [BR, BX, Sb, h.1, h.2.1, h.2.2]; done)
def YG {op : fS} (hs : op.mM = true) (h' : T O) (l' : List Nat) {v : V} {ax : St} (h : bX op call r st = some (v, ax)) :
    (ax = st /\ bX op call r ⟨h', st.n, l'⟩ = some (v, ⟨h', st.n, l'⟩)) \/ ∃ o, ax = st.alloc o /\ bX op call r ⟨h', st.n, l'⟩ = some (v, St.alloc ⟨h', st.n, l'⟩ o) := by
  cases op <;> simp only [fS.mM, fY] at hs <;> simp only [bX] at h ⊢
  case i_ e z b zs x y =>
    unfold Av at *
    split at h
    · rename_i ha hb
      split at h
      · rename_i hc
        simp only [ak, bh] at h
        obtain ⟨rfl, rfl⟩ := h
        refine .inr ⟨_, rfl, ?_⟩
        rw [aJ hc]
      · cases h
    · cases h
  case bin b t ng x y =>
    refine .inl ?_
    unfold DF at *
    split at h
    · cases b <;> first | (cases hs; done) | (simp only [Ng, reduceCtorEq] at h)
    · split at h
      · rename_i hm
        simp only [ak, bh] at h
        obtain ⟨rfl, rfl⟩ := h
        exact ⟨rfl, by simp_all⟩
      · cases h
    · cases h
  all_goals
    first
      | unfold Dy at * | unfold BR at * | unfold GF at * | unfold Dz at * | unfold Au at * | unfold DC at * | unfold DE at * | unfold DG at * | unfold DH at * | unfold GG at * | unfold BT at * | unfold GH at * | unfold DJ at * | unfold GI at * | unfold BU at * | unfold Av at * | unfold wF at * | unfold DK at * | unfold DL at * | unfold Aw at * | unfold BV at * | unfold GJ at * | unfold BW at * | unfold DN at * | unfold DP at * | unfold IK at * | unfold GK at * | unfold wH at * | unfold pr at * | unfold DQ at * | unfold IL at * | unfold IM at * | unfold DS at *
  all_goals
    repeat' split at h
    all_goals
      first
        | (cases h; done)
        | (simp only [ak, bh] at h
           obtain ⟨rfl, rfl⟩ := h
           first
             | (refine .inl ⟨rfl, ?_⟩; simp_all; done)
             | (refine .inr ⟨_, rfl, ?_⟩; simp_all; done))
def Zr {α : Type} {p : α -> α -> Bool} {f : α} {m : Nat} : ∀ {seen : List α} {j : Nat}, seen.length = j -> cD.cG p f m (j - 1) seen = true -> ∀ i, i < j -> ∀ g, seen[j - 1 - i]? = some g -> m.testBit i = true \/ p g f = true
  | [], j, hl, _, i, hi, g, hg => by simp at hg
  | g0 :: seen, j, hl, h, i, hi, g, hg => by
    simp only [cD.cG, iS, Du] at h
    simp only [bf] at hl
    by_cases e : i = j - 1
    · subst e
      simp only [Nat.sub_self, zq, ak] at hg
      subst hg
      exact h.1
    · have h2 := Zr (j := j - 1) (by omega) h.2 i (by omega) g
      refine h2 ?_
      rw [show j - 1 - i = (j - 1 - 1 - i) + 1 by omega] at hg
      simpa using hg
def Zs {α : Type} {p : α -> α -> Bool} : ∀ {fs : List α} {ms : List Nat} {j : Nat} {seen : List α}, seen.length = j -> cD.go p fs ms j seen = true ->
    ∀ (b i : Nat) (f g : α), fs[b]? = some f -> i < j + b -> (seen.reverse ++ fs)[i]? = some g -> (ms.getD b 0).testBit i = true \/ p g f = true
  | [], ms, j, seen, hl, _, b, i, f, g, hf, _, _ => by simp at hf
  | f0 :: fs, ms, j, seen, hl, h, b, i, f, g, hf, hi, hg => by
    simp only [cD.go, iS] at h
    cases b with
    | zero =>
      simp only [zq, ak] at hf
      subst hf
      have hm : ms.getD 0 0 = ms.headD 0 := by cases ms <;> rfl
      rw [hm]
      refine Zr hl h.1 i (by omega) g ?_
      rw [nj (by simp; omega), List.getElem?_reverse (by omega)] at hg
      rw [<- hl]; exact hg
    | succ b =>
      have hm : ms.getD (b + 1) 0 = ms.tail.getD b 0 := by cases ms <;> simp
      rw [hm]
      refine Zs (j := j + 1) (seen := f0 :: seen) (by simp [hl]) h.2 b i f g (by simpa using hf) (by omega) ?_
      simpa using hg
def YX {α : Type} {p : α -> α -> Bool} {xs : List α} {ms : List Nat} (h : cD p xs ms = true) {i j : Nat} {a b : α} (hij : i < j) (ha : xs[i]? = some a) (hb : xs[j]? = some b) : (ms.getD j 0).testBit i = true \/ p a b = true :=
  Zs (seen := []) rfl h j i b a hb (by omega) (by simpa using ha)
def SV : ∀ (os : List Oper) (acc : List Nat) (k : Nat), k < acc.length -> (sE os acc).getD k 0 = acc.getD k 0
  | [], acc, k, _ => rfl
  | o :: os, acc, k, h => by
    simp only [sE]
    rw [SV os _ k (by simp; omega)]
    simp only [List.getD_eq_getElem?_getD]
    rw [nj h]
def Zt : ∀ (os : List Oper) (acc : List Nat) (j : Nat) (o : Oper), os[j]? = some o ->
    ∃ pre : List Nat, pre.length = acc.length + j /\ (sE os acc).getD (acc.length + j) 0 = Iz o pre /\ ∀ k, k < acc.length + j -> (sE os acc).getD k 0 = pre.getD k 0
  | [], acc, j, o, h => by simp at h
  | o0 :: os, acc, 0, o, h => by
    simp only [zq, ak] at h
    subst h
    refine ⟨acc, rfl, ?_, fun k hk => ?_⟩
    · simp only [sE]
      rw [SV os _ _ (by simp)]
      simp [List.getD_eq_getElem?_getD]
    · exact SV (o0 :: os) acc k hk
  | o0 :: os, acc, j + 1, o, h => by
    obtain ⟨pre, h1, h2, h3⟩ := Zt os (acc ++ [Iz o0 acc]) j o (by simpa using h)
    simp only [iy, bf, List.length_nil] at h1 h2 h3
    refine ⟨pre, by omega, ?_, ?_⟩
    · rw [show acc.length + (j + 1) = acc.length + (0 + 1) + j by omega]; exact h2
    · intro k hk; exact h3 k (by omega)
def Zyb {o : Oper} {ms : List Nat} {i : Nat} (h : (Iz o ms).testBit i = true) : ∃ e ∈ o.after, Region.binds .any e = true /\ (i = e.on \/ (ms.getD e.on 0).testBit i = true) := by
  have key : ∀ (l : List Edge) (s : Nat), (l.foldl (fun s e => if Region.binds .any e then s ||| 2 ^ e.on ||| ms.getD e.on 0 else s) s).testBit i = true ->
      s.testBit i = true \/ ∃ e ∈ l, Region.binds .any e = true /\ (i = e.on \/ (ms.getD e.on 0).testBit i = true) := by
    intro l
    induction l with
    | nil => intro s h; exact .inl h
    | cons e l ih =>
      intro s h
      simp only [List.foldl_cons] at h
      rcases ih _ h with h | ⟨e', h1, h2⟩
      · split at h
        · rename_i hb
          simp only [Nat.testBit_or, Du] at h
          rcases h with (h | h) | h
          · exact .inl h
          · rw [Nat.testBit_two_pow] at h
            exact .inr ⟨e, by simp, hb, .inl (by simpa using (of_decide_eq_true h).symm)⟩
          · exact .inr ⟨e, by simp, hb, .inr h⟩
        · exact .inl h
      · exact .inr ⟨e', by simp [h1], h2⟩
  unfold Iz at h
  rw [<- Array.foldl_toList] at h
  rcases key _ _ h with h | ⟨e, h1, h2⟩
  · simp at h
  · exact ⟨e, by simpa using h1, h2⟩
def Yf7 {ops : Array Oper} {j i : Nat} {o : Oper} (ho : ops[j]? = some o) (h : ((sE ops.toList []).getD j 0).testBit i = true) :
    ∃ e ∈ o.after, Region.binds .any e = true /\ (i = e.on \/ ((sE ops.toList []).getD e.on 0).testBit i = true) := by
  obtain ⟨pre, h1, h2, h3⟩ := Zt ops.toList [] j o (by rw [xz]; exact ho)
  simp only [List.length_nil, vW] at h1 h2 h3
  rw [h2] at h
  obtain ⟨e, g1, g2, g3⟩ := Zyb h
  refine ⟨e, g1, g2, g3.imp id fun hb => ?_⟩
  by_cases he : e.on < j
  · rw [h3 _ he]; exact hb
  · have : pre.getD e.on 0 = 0 := by simp [List.getD_eq_getElem?_getD, h1, wB he]
    rw [this] at hb; simp at hb
def YP (ops : Array Oper) (S : Nat -> Prop) : Prop := ∀ k i, S k -> ((sE ops.toList []).getD k 0).testBit i = true -> S i
def YQ {ops : Array Oper} {listed : Array Bool} (hc : YP ops (fun k => listed.getD k false = true)) {j : Nat} (hj : j ∈ Region.ready .any ops listed) :
    j < ops.size /\ listed.getD j true = false /\ ∀ i, ((sE ops.toList []).getD j 0).testBit i = true -> listed.getD i false = true := by
  unfold Region.ready at hj
  simp only [List.mem_filter, List.mem_range, iS, Dt] at hj
  obtain ⟨h1, h2, h3⟩ := hj
  refine ⟨h1, h2, fun i hi => ?_⟩
  have ho : ops[j]? = some ops[j] := Array.getElem?_eq_getElem h1
  obtain ⟨e, g1, g2, g3⟩ := Yf7 ho hi
  rw [ho] at h3
  simp only [Aq, BH, R5, Du, Dt] at h3
  have he : listed.getD e.on false = true := by
    rcases h3 e g1 with h | h
    · rw [g2] at h; cases h
    · exact h
  rcases g3 with rfl | g3
  · exact he
  · exact hc _ _ he g3
mutual
def Sc (n : Nat) : V -> Prop
  | .ptr i _ => i < n
  | .slice i _ _ _ _ => i < n
  | .map i => i < n
  | .chan i => i < n
  | .func _ a c => Ce n a /\ Ce n c
  | .yield i => i < n
  | .iface _ v => Sc n v
  | .agg l => Ce n l
  | .aY l => Ce n l
  | _ => True
def Ce (n : Nat) : List V -> Prop
  | [] => True
  | v :: vs => Sc n v /\ Ce n vs
end
mutual
def VR.sc {μ : Mu} {n : Nat} (h : ∀ i l, μ i = some l -> i < n) : ∀ (v : V) (x : Value), VR μ v x -> Sc n v
  | .bool _, _, _ => by simp [Sc]
  | .int _ _, _, _ => by simp [Sc]
  | .jM _ _, _, _ => by simp [Sc]
  | .rp _ _ _, _, _ => by simp [Sc]
  | .str _, _, _ => by simp [Sc]
  | .bF, _, _ => by simp [Sc]
  | .ptr _ _, _, hx => by simp only [VR] at hx; obtain ⟨l, h1, _⟩ := hx; exact h _ _ h1
  | .aa, _, _ => by simp [Sc]
  | .slice _ _ _ _ _, _, hx => by simp only [VR] at hx; obtain ⟨l, c, h1, _⟩ := hx; exact h _ _ h1
  | .empty, _, _ => by simp [Sc]
  | .bL, _, _ => by simp [Sc]
  | .map _, _, hx => by simp only [VR] at hx; obtain ⟨l, h1, _⟩ := hx; exact h _ _ h1
  | .bO, _, _ => by simp [Sc]
  | .chan _, _, hx => by simp only [VR] at hx; obtain ⟨l, h1, _⟩ := hx; exact h _ _ h1
  | .func _ a c, _, hx => by
    simp only [VR] at hx; obtain ⟨a', c', _, h2, h3⟩ := hx
    exact ⟨aP.sc h a a' h2, aP.sc h c c' h3⟩
  | .yield _, _, hx => by simp only [VR] at hx; obtain ⟨l, h1, _⟩ := hx; exact h _ _ h1
  | .bP, _, _ => by simp [Sc]
  | .iface _ v, _, hx => by simp only [VR] at hx; obtain ⟨y, _, h2⟩ := hx; exact VR.sc h v y h2
  | .aZ, _, _ => by simp [Sc]
  | .agg vs, _, hx => by simp only [VR] at hx; obtain ⟨a, _, h2⟩ := hx; exact aP.sc h vs a h2
  | .aY vs, _, hx => by simp only [VR] at hx; obtain ⟨a, _, h2⟩ := hx; exact aP.sc h vs a h2
def aP.sc {μ : Mu} {n : Nat} (h : ∀ i l, μ i = some l -> i < n) : ∀ (vs : List V) (xs : List Value), aP μ vs xs -> Ce n vs
  | [], _, _ => trivial
  | v :: vs, _, hx => by
    simp only [aP] at hx
    obtain ⟨y, ys, _, h2, h3⟩ := hx
    exact ⟨VR.sc h v y h2, aP.sc h vs ys h3⟩
end
mutual
def VR.cut {μ μ' : Mu} {n : Nat} (h : ∀ i l, i < n -> μ i = some l -> μ' i = some l) : ∀ (v : V) (x : Value), Sc n v -> VR μ v x -> VR μ' v x
  | .bool _, _, _, hx => by simpa [VR] using hx
  | .int _ _, _, _, hx => by simpa [VR] using hx
  | .jM _ _, _, _, hx => by simpa [VR] using hx
  | .rp _ _ _, _, _, hx => by simpa [VR] using hx
  | .str _, _, _, hx => by simpa [VR] using hx
  | .bF, _, _, hx => by simpa [VR] using hx
  | .ptr _ _, _, hs, hx => by simp only [VR, Sc] at *; obtain ⟨l, h1, h2⟩ := hx; exact ⟨l, h _ _ hs h1, h2⟩
  | .aa, _, _, hx => by simpa [VR] using hx
  | .slice _ _ _ _ _, _, hs, hx => by simp only [VR, Sc] at *; obtain ⟨l, c, h1, h2⟩ := hx; exact ⟨l, c, h _ _ hs h1, h2⟩
  | .empty, _, _, hx => by simpa [VR] using hx
  | .bL, _, _, hx => by simpa [VR] using hx
  | .map _, _, hs, hx => by simp only [VR, Sc] at *; obtain ⟨l, h1, h2⟩ := hx; exact ⟨l, h _ _ hs h1, h2⟩
  | .bO, _, _, hx => by simpa [VR] using hx
  | .chan _, _, hs, hx => by simp only [VR, Sc] at *; obtain ⟨l, h1, h2⟩ := hx; exact ⟨l, h _ _ hs h1, h2⟩
  | .func _ a c, _, hs, hx => by
    simp only [VR, Sc] at *; obtain ⟨a', c', h1, h2, h3⟩ := hx
    exact ⟨a', c', h1, aP.cut h a a' hs.1 h2, aP.cut h c c' hs.2 h3⟩
  | .yield _, _, hs, hx => by simp only [VR, Sc] at *; obtain ⟨l, h1, h2⟩ := hx; exact ⟨l, h _ _ hs h1, h2⟩
  | .bP, _, _, hx => by simpa [VR] using hx
  | .iface _ v, _, hs, hx => by simp only [VR, Sc] at *; obtain ⟨y, h1, h2⟩ := hx; exact ⟨y, h1, VR.cut h v y hs h2⟩
  | .aZ, _, _, hx => by simpa [VR] using hx
  | .agg vs, _, hs, hx => by simp only [VR, Sc] at *; obtain ⟨a, h1, h2⟩ := hx; exact ⟨a, h1, aP.cut h vs a hs h2⟩
  | .aY vs, _, hs, hx => by simp only [VR, Sc] at *; obtain ⟨a, h1, h2⟩ := hx; exact ⟨a, h1, aP.cut h vs a hs h2⟩
def aP.cut {μ μ' : Mu} {n : Nat} (h : ∀ i l, i < n -> μ i = some l -> μ' i = some l) : ∀ (vs : List V) (xs : List Value), Ce n vs -> aP μ vs xs -> aP μ' vs xs
  | [], _, _, hx => by simpa [aP] using hx
  | v :: vs, _, hs, hx => by
    simp only [aP, Ce] at *
    obtain ⟨y, ys, h1, h2, h3⟩ := hx
    exact ⟨y, ys, h1, VR.cut h v y hs.1 h2, aP.cut h vs ys hs.2 h3⟩
end
def OM.cut {P : Program} {μ μ' μT : Mu} {w wT : World} {n : Nat} (h : ∀ i l, i < n -> μ i = some l -> μ' i = some l) (hT : ∀ i l, μT i = some l -> i < n) {o : O} {l lT : L} (ht : OM P μT wT o lT) (ho : OM P μ w o l) : OM P μ' w o l := by
  cases o with
  | cells c e rw =>
    obtain ⟨c', lo, hi, h1, h2, h3, h4, h5⟩ := ho
    obtain ⟨cT, _, _, _, _, _, t4, _⟩ := ht
    exact ⟨c', lo, hi, h1, h2, h3, fun j v hv => by
      obtain ⟨x, a, b⟩ := h4 j v hv
      obtain ⟨xT, _, bT⟩ := t4 j v hv
      exact ⟨x, a, VR.cut h v x (VR.sc hT v xT bT) b⟩, h5⟩
  | map es =>
    obtain ⟨e_, h1, h2⟩ := ho
    obtain ⟨esT, _, t2⟩ := ht
    refine ⟨e_, h1, ?_⟩
    have : ∀ (es : List (V × V)) (xs xT : List MapEntry) (b bT : Nat), gR μ es xs b -> gR μT es xT bT -> gR μ' es xs b := by
      intro es
      induction es with
      | nil => intro xs xT b bT h1 _; exact h1
      | cons p es ih =>
        intro xs xT b bT h1 h2
        obtain ⟨k, u⟩ := p
        obtain ⟨e, ys, rfl, a1, a2, a3, a4⟩ := h1
        obtain ⟨eT, yT, rfl, b1, b2, _, b4⟩ := h2
        exact ⟨e, ys, rfl, VR.cut h k _ (VR.sc hT k _ b1) a1, VR.cut h u _ (VR.sc hT u _ b2) a2, a3, ih ys yT _ _ a4 b4⟩
    exact this _ _ _ _ _ h2 t2
  | chan cap buf =>
    obtain ⟨b', s, r, h1, h2⟩ := ho
    obtain ⟨bT, _, _, _, t2⟩ := ht
    exact ⟨b', s, r, h1, aP.cut h _ _ (aP.sc hT _ _ t2) h2⟩
  | ef s pos => simp only [OM] at *; exact ho
  | gh m =>
    obtain ⟨lm, h1, h2⟩ := ho
    obtain ⟨lT, t1, _⟩ := ht
    exact ⟨lm, h _ _ (hT _ _ t1) h1, h2⟩
  | loop R =>
    obtain ⟨fn, tmps, fw, fx, ld, h1, h2, h3, h4, h5⟩ := ho
    obtain ⟨_, tT, _, _, ldT, _, t2, _, _, t5⟩ := ht
    refine ⟨fn, tmps, fw, fx, ld, h1, ⟨h2.1, fun t v hv => ?_⟩, h3, h4, h _ _ (hT _ _ t5) h5⟩
    obtain ⟨x, a, b⟩ := h2.2 t v hv
    obtain ⟨xT, _, bT⟩ := t2.2 t v hv
    exact ⟨x, a, VR.cut h v x (VR.sc hT v xT bT) b⟩
  | defs b => simp only [OM] at *; exact ho
  | dead => trivial
end
section
variable {P:Program} {μ:Mu} {w:World} {st ax:St} {fr bB:Fr} {a:Act} {call:cH} {v:V} {lb:Option Nat}
def Yo6(bR:iO P call)(hE:rn P)(hh:a_ P μ w st)(hf:kr μ fr a){o:Oper}(h:bX (xx P o.op) call fr.r st=some (v,ax)):∃x w' μ' ws,VR μ' v x/\bA P μ w st μ' w' ax ws:=by
 have SQ:=RT (lb:=none) (Q:=fun _ _ _=>False) (K:=fun _ _=>∃x w' μ' ws,VR μ' v x/\bA P μ w st μ' w' ax ws) bR hE hh hf h (fun x w' μ' ws h1 h2=>⟨x,w',μ',ws,h1,h2⟩)
 obtain⟨_,hu⟩:=SQ
 generalize (o.semAt (FE none).round a.eval).run P w=res at hu
 cases res with
 |halt x w'=>cases x<;>simp only[Oper.uponIn]at hu
 |ok x w'=>
  cases x<;>simp only[Oper.uponIn]at hu
  case value=>exact hu
  case skip=>exact hu
  case defer=>exact hu
  case enter f args=>
   obtain⟨e,w',fr,hR,_⟩:=hu.2.2 [] (fun d hd=>by simp[Fence.wide]at hd)
   cases e with
   |returned v=>exact hR
   |panicked c=>exact hR.elim
   |outgrown=>obtain⟨_,_,hq⟩:=hR;exact hq.elim
  case row r args=>
   obtain⟨v',w',hR,_⟩:=hu.2 default [] (fun d hd=>by simp[Fence.wide]at hd)
   exact hR
  case round l f tmps fw fx=>
   obtain⟨e,w',hR,_⟩:=hu.2.2 default [] (fun d hd=>by simp[Fence.wide]at hd)
   cases e with
   |returned v=>exact hR
   |panicked c=>exact hR.elim
   |outgrown=>obtain⟨_,_,hq⟩:=hR;exact hq.elim
def xM(P:Program)(call:cH)(ops:Array Oper)(o:Oper)(st:St)(fr:Fr)(v:V)(f:FP)(bU:St)(dE:Fr):Prop:=
 ∃g b,Dd ops o.guard=some g/\bM fr.r g=some b/\fr.put o.dst v=some dE/\
  (b=true->∃s',bX (xx P o.op) call fr.r {st with w:=[]}=some (v,s')/\bU={s' with w:=aB st.n s'.w++st.w}/\f=nw fr.r (xx P o.op) (aB st.n s'.w) st.n s'.n)/\
  (b=false->v=.aY []/\bU=st/\f=⟨some [],[],st.n,st.n⟩)
def YW{ops:Array Oper}:∀(os:List Oper) (fr:Fr) (st:St) (gl:List FP) (bB:Fr) (ax:St),bI call (os.map (oX P ops)) fr st=some (gl,bB,ax)->
  ∃(aI:Nat->St) (bo:Nat->Fr) (vI:Nat->V) (aX:Nat->FP),aI 0=st/\bo 0=fr/\aI os.length=ax/\bo os.length=bB/\gl.length=os.length/\
   ∀i o,os[i]?=some o->gl[i]?=some (aX i)/\xM P call ops o (aI i) (bo i) (vI i) (aX i) (aI (i+1)) (bo (i+1))
 |[],fr,st,gl,bB,ax,h=>by
  simp only[rV,bI,YD,ak,bh]at h
  obtain⟨rfl,rfl,rfl⟩:=h
  exact⟨fun _=>st,fun _=>fr,fun _=>.bF,fun _=>⟨none,[],0,0⟩,rfl,rfl,rfl,rfl,rfl,fun i o h=>by simp at h⟩
 |o::os,fr,st,gl,bB,ax,h=>by
  simp only[km,bI,zy]at h
  have go:∀(v:V) (f:FP) (bU:St) (dE:Fr) (qH:List FP),xM P call ops o st fr v f bU dE->bI call (os.map (oX P ops)) dE bU=some (qH,bB,ax)->gl=f::qH->
    ∃(aI:Nat->St) (bo:Nat->Fr) (vI:Nat->V) (aX:Nat->FP),aI 0=st/\bo 0=fr/\aI (o::os).length=ax/\bo (o::os).length=bB/\gl.length=(o::os).length/\
     ∀i o',(o::os)[i]?=some o'->gl[i]?=some (aX i)/\xM P call ops o' (aI i) (bo i) (vI i) (aX i) (aI (i+1)) (bo (i+1)):=by
   intro v f bU dE qH hs hm hf
   obtain⟨aI,bo,vI,aX,h1,h2,h3,h4,h5,h6⟩:=YW os dE bU qH bB ax hm
   refine⟨fun|0=>st|i+1=>aI i,fun|0=>fr|i+1=>bo i,fun|0=>v|i+1=>vI i,fun|0=>f|i+1=>aX i,rfl,rfl,h3,h4,by simp[hf,h5],fun i o' ho=>?_⟩
   cases i with
   |zero=>
    simp only[zq,ak]at ho
    subst ho
    refine⟨by simp[hf],?_⟩
    show xM P call ops o st fr v f (aI 0) (bo 0)
    rw[h1,h2];exact hs
   |succ i=>
    obtain⟨g1,g2⟩:=h6 i o' (by simpa using ho)
    exact⟨by simpa[hf]using g1,g2⟩
  unfold oX at h
  cases hg:Dd ops o.guard with
  |none=>
   rw[hg]at h
   simp only[bM,bX,RS]at h
   cases h
  |some g=>
   rw[hg]at h
   simp only at h
   cases hw:bM fr.r g with
   |none=>rw[hw]at h;cases h
   |some b=>
    rw[hw]at h
    cases b with
    |true=>
     simp only at h
     split at h
     ·rename_i v1 s1 hm
      split at h
      ·rename_i dE hp
       split at h
       ·rename_i qH wo eI gw
        simp only[ak,bh]at h
        obtain⟨rfl,rfl,rfl⟩:=h
        exact go v1 _ _ dE qH ⟨g,true,hg,hw,hp,fun _=>⟨s1,hm,rfl,rfl⟩,fun hc=>by cases hc⟩ gw rfl
       ·cases h
      ·cases h
     ·cases h
    |false=>
     simp only at h
     split at h
     ·rename_i dE hp
      split at h
      ·rename_i qH wo eI gw
       simp only[ak,bh]at h
       obtain⟨rfl,rfl,rfl⟩:=h
       exact go (.aY []) _ st dE qH ⟨g,false,hg,hw,hp,(fun hc=>by cases hc),fun _=>⟨rfl,rfl,rfl⟩⟩ gw rfl
      ·cases h
     ·cases h
def Sr{op:fS}{s':St}(hm:bX op call fr.r {st with w:=[]}=some (v,s'))(lo hi:Nat):(nw fr.r op (aB st.n s'.w) lo hi).wr=aB st.n s'.w/\(nw fr.r op (aB st.n s'.w) lo hi).lo=lo/\(nw fr.r op (aB st.n s'.w) lo hi).hi=hi:=by
 unfold nw
 split
 ·rename_i hs
  rcases YG hs .nil [] hm with⟨h1,_⟩|⟨o,h1,_⟩
  ·subst h1;exact⟨rfl,rfl,rfl⟩
  ·subst h1;exact⟨rfl,rfl,rfl⟩
 ·split
  ·split<;>exact⟨rfl,rfl,rfl⟩
  ·exact⟨rfl,rfl,rfl⟩
def Zu(bR:iO P call)(hE:rn P)(hh:a_ P μ w st)(hf:kr μ fr a){ops:Array Oper}{o:Oper}{f:FP}{bU:St}{dE:Fr}(h:xM P call ops o st fr v f bU dE):
  ∃w' μ' a',bA P μ w st μ' w' bU f.wr/\kr μ' dE a'/\f.lo=st.n/\f.hi=bU.n:=by
 obtain⟨g,b,hg,hw,hp,ht,IV⟩:=h
 cases b with
 |true=>
  obtain⟨s',hm,rfl,rfl⟩:=ht rfl
  obtain⟨x,w',μ',ws,h1,h2⟩:=Yo6 bR hE (hh.now []) hf hm
  have h3:=h2.fold hh
  obtain⟨e1,e2,e3⟩:=Sr (call:=call) hm st.n s'.n
  rw[e1,e2,e3]
  exact⟨w',μ',_,h3,(hf.mono (h3.mono hh)).put h1 hp,rfl,rfl⟩
 |false=>
  obtain⟨rfl,rfl,rfl⟩:=IV rfl
  exact⟨w,μ,_,bA.refl hh,hf.put (v:=.aY []) (x:=undef) ⟨[],rfl,by simp[aP]⟩ hp,rfl,rfl⟩
structure sQ (P:Program) (μ:Mu) (aI:Nat->St) (bo:Nat->Fr) (aX:Nat->FP) (N:Nat):Prop where
 gJ:∀i,i<N->(aI i).n<=(aI (i+1)).n
 lo:∀i,i<N->(aX i).lo=(aI i).n
 hi:∀i,i<N->(aX i).hi=(aI (i+1)).n
 wl:∀i,i<N->(aI (i+1)).w=(aX i).wr++(aI i).w
 Sk:∀i,i<N->∀j∈(aX i).wr,j<(aI i).n
 ae:∀i,i<N->∀j,j<(aI i).n->j∉(aX i).wr->(aI (i+1)).h.get j=(aI i).h.get j
 grow:∀i,i<N->∀j o',j<(aI i).n->(aI (i+1)).h.get j=some o'->∃o,(aI i).h.get j=some o/\(o'.wr=true->o.wr=true)/\(o'.live=true->o.live=true)
 wA:∀i,i<N->∀j∈(aX i).wr,∃o,(aI i).h.get j=some o/\o.wr=true
 scr:∀i,i<=N->∀t v,(bo i).r.get t=some v->Sc (aI i).n v
 sch:∀i,i<=N->∀j,(j<(aI 0).n->∃l,μ j=some l)->j<(aI i).n->∃o μT wT lT,(aI i).h.get j=some o/\OM P μT wT o lT/\∀k l,μT k=some l->k<(aI i).n
 fn:∀i,i<=N->(bo i).n=(bo 0).n/\(bo i).marks=(bo 0).marks
def Zv{ops:Array Oper}{o:Oper}{f:FP}{bU:St}{dE:Fr}(h:xM P call ops o st fr v f bU dE):∀j∈f.wr,j<st.n:=by
 have key:∀(l:List Nat) (n j:Nat),j∈aB n l->j<n:=by
  intro l n j hj
  induction l with
  |nil=>simp[aB]at hj
  |cons i l ih=>
   simp only[aB]at hj
   split at hj
   ·unfold vD at hj
    split at hj
    ·exact ih hj
    ·simp only[jy]at hj
     rcases hj with rfl|hj
     ·assumption
     ·exact ih hj
   ·exact ih hj
 obtain⟨g,b,hg,hw,hp,ht,IV⟩:=h
 cases b with
 |true=>
  obtain⟨s',hm,rfl,rfl⟩:=ht rfl
  rw[(Sr (call:=call) hm _ _).1]
  exact key _ _
 |false=>
  obtain⟨rfl,rfl,rfl⟩:=IV rfl
  intro j hj
  simp at hj
def Yfg{d:Option Nat}(h:fr.put d v=some bB):bB.n=fr.n/\bB.marks=fr.marks:=by
 cases d with
 |none=>simp only[Fr.put,ak]at h;subst h;exact⟨rfl,rfl⟩
 |some d=>
  simp only[Fr.put]at h
  split at h
  ·simp only[ak]at h;subst h;exact⟨rfl,rfl⟩
  ·cases h
def YY(bR:iO P call)(hE:rn P){ops:Array Oper}{aI:Nat->St}{bo:Nat->Fr}{vI:Nat->V}{aX:Nat->FP}{N:Nat}{os:List Oper}(hN:os.length=N)
  (hh:a_ P μ w (aI 0)) (hf:kr μ (bo 0) a) (hs:∀i o,os[i]?=some o->xM P call ops o (aI i) (bo i) (vI i) (aX i) (aI (i+1)) (bo (i+1))):
  ∀i,i<=N->∃w' μ' a' ws,bA P μ w (aI 0) μ' w' (aI i) ws/\kr μ' (bo i) a':=by
 intro i
 induction i with
 |zero=>exact fun _=>⟨w,μ,a,[],bA.refl hh,hf⟩
 |succ i ih=>
  intro hi
  obtain⟨w',μ',a',ws,h1,h2⟩:=ih (by omega)
  have ho:os[i]?=some (os[i]'(by omega)):=dT (by omega)
  obtain⟨w2,μ2,a2,h3,h4,_⟩:=Zu bR hE h1.hr h2 (hs i _ ho)
  exact⟨w2,μ2,a2,_,h1.trans h3,h4⟩
def Ymr(bR:iO P call)(hE:rn P){ops:Array Oper}{aI:Nat->St}{bo:Nat->Fr}{vI:Nat->V}{aX:Nat->FP}{N:Nat}{os:List Oper}(hN:os.length=N)
  (hh:a_ P μ w (aI 0)) (hf:kr μ (bo 0) a) (hs:∀i o,os[i]?=some o->xM P call ops o (aI i) (bo i) (vI i) (aX i) (aI (i+1)) (bo (i+1))):sQ P μ aI bo aX N:=by
 have Jb:=YY bR hE hN hh hf hs
 have cK:∀i,i<N->∃o,os[i]?=some o:=fun i hi=>⟨_,dT (by omega)⟩
 have dR:∀i,i<N->∃w1 μ1 w2 μ2 a2,bA P μ1 w1 (aI i) μ2 w2 (aI (i+1)) (aX i).wr/\kr μ2 (bo (i+1)) a2/\(aX i).lo=(aI i).n/\(aX i).hi=(aI (i+1)).n:=fun i hi=>by
  obtain⟨w',μ',a',ws,h1,h2⟩:=Jb i (by omega)
  obtain⟨o,ho⟩:=cK i hi
  obtain⟨w2,μ2,a2,h3,h4,h5,h6⟩:=Zu bR hE h1.hr h2 (hs i o ho)
  exact⟨w',μ',w2,μ2,a2,h3,h4,h5,h6⟩
 refine⟨fun i hi=>?_,fun i hi=>?_,fun i hi=>?_,fun i hi=>?_,fun i hi=>?_,fun i hi=>?_,fun i hi=>?_,fun i hi=>?_,fun i hi t v hv=>?_,fun i hi j hj Dm=>?_,fun i=>?_⟩
 ·obtain⟨_,_,_,_,_,h,_⟩:=dR i hi;exact h.gJ
 ·obtain⟨_,_,_,_,_,_,_,h,_⟩:=dR i hi;exact h
 ·obtain⟨_,_,_,_,_,_,_,_,h⟩:=dR i hi;exact h
 ·obtain⟨_,_,_,_,_,h,_⟩:=dR i hi;exact h.wl
 ·obtain⟨o,ho⟩:=cK i hi;exact Zv (hs i o ho)
 ·obtain⟨_,_,_,_,_,h,_⟩:=dR i hi;exact h.ae
 ·obtain⟨_,_,_,_,_,h,_⟩:=dR i hi;exact h.grow
 ·obtain⟨o,ho⟩:=cK i hi
  obtain⟨_,_,_,_,_,h,_⟩:=dR i hi
  exact fun j hj=>h.wA j hj (Zv (hs i o ho) j hj)
 ·obtain⟨w',μ',a',ws,h1,h2⟩:=Jb i hi
  obtain⟨x,_,hx⟩:=h2.1.2 t v hv
  exact VR.sc (fun k l hk=>(h1.hr.cU k l hk).1) v x hx
 ·obtain⟨w',μ',a',ws,h1,h2⟩:=Jb i hi
  have hl:∃l,μ' j=some l:=by
   by_cases h0:j<(aI 0).n
   ·obtain⟨l,hl⟩:=hj h0
    exact⟨l,(h1.ext j h0).trans hl⟩
   ·exact h1.full j (by omega) Dm
  obtain⟨l,hl⟩:=hl
  obtain⟨o,zn,vt⟩:=h1.hr.obj j l hl
  exact⟨o,μ',w',l,zn,vt,fun k l hk=>(h1.hr.cU k l hk).1⟩
 ·induction i with
  |zero=>exact fun _=>⟨rfl,rfl⟩
  |succ i ih=>
   intro hi
   obtain⟨o,ho⟩:=cK i (by omega)
   obtain⟨g,b,_,_,hp,_⟩:=hs i o ho
   obtain⟨e1,e2⟩:=Yfg hp
   obtain⟨f1,f2⟩:=ih (by omega)
   exact⟨e1.trans f1,e2.trans f2⟩
end
end Go.Mx
