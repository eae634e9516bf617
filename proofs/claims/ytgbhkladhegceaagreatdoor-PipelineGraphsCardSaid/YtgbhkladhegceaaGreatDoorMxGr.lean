/-
  Graphs of stages in a heap; calls of values; searches.
-/
import Derived.Test.YtgbhkladhegceaaGreatDoorMxDec
set_option linter.all false
namespace Go.Mx
open Go
set_option linter.unusedVariables false

theorem Keeps.new {h h1 : T O} {n n1 : Nat} (k : Keeps h n h1 n1) (o : O) : Keeps h n (h1.set n1 o) (n1 + 1) := (k.set k.le).up (Nat.le_succ _)
/-- A call of a function's value that writes nothing that was there. -/
abbrev FnV (C : Cx) (f : V) (args : List V) (h : T O) (n : Nat) (P : V → T O → Nat → Prop) : Prop := ∀ w, Call C f args ⟨h, n, w⟩ (Ret P h n w)
theorem run_fnV {C : Cx} {f args h n w P K Q} (hf : FnV C f args h n P) (k : ∀ v h' n', Keeps h n h' n' → P v h' n' → Run C K (some (.val v ⟨h', n', w⟩)) Q) : Run C K (valR (C.call f args ⟨h, n, w⟩)) Q :=
  run_call (hf w) fun v st' => by
    obtain ⟨h', n', w'⟩ := st'
    rintro ⟨rfl, hk, hp⟩
    exact k v h' n' hk hp
theorem FnV.pure {C : Cx} {f : V} {args : List V} {h : T O} {N : Nat} {u : V} {P : V → T O → Nat → Prop} (e : ∀ w, C.call f args ⟨h, N, w⟩ = some (u, ⟨h, N, w⟩)) (p : P u h N) : FnV C f args h N P := fun w => ⟨⟨u, ⟨h, N, w⟩, e w, rfl, Keeps.refl, p⟩⟩

/-- The first place from k on, of m, at which p holds; or -1. -/
def firstP (p : Nat → Bool) (k : Nat) : Nat → Int
  | 0 => -1
  | m + 1 => if p k = true then (k : Int) else firstP p (k + 1) m
theorem firstP_congr {p q : Nat → Bool} : ∀ {m k : Nat}, (∀ j, k ≤ j → j < k + m → p j = q j) → firstP p k m = firstP q k m
  | 0, _, _ => rfl
  | m + 1, k, h => by
    simp only [firstP, h k (Nat.le_refl _) (by omega)]
    rw [firstP_congr (m := m) fun j h1 h2 => h j (by omega) (by omega)]
theorem firstP_nn {p : Nat → Bool} : ∀ {m k : Nat}, (0 ≤ firstP p k m ↔ ∃ j, k ≤ j ∧ j < k + m ∧ p j = true)
  | 0, k => by simp [firstP]; intro j h1 h2; omega
  | m + 1, k => by
    simp only [firstP]
    by_cases h : p k = true
    · rw [if_pos h]; exact ⟨fun _ => ⟨k, Nat.le_refl _, by omega, h⟩, fun _ => by omega⟩
    · rw [if_neg h, firstP_nn (m := m) (k := k + 1)]
      constructor
      · rintro ⟨j, h1, h2, h3⟩; exact ⟨j, by omega, by omega, h3⟩
      · rintro ⟨j, h1, h2, h3⟩
        refine ⟨j, ?_, by omega, h3⟩
        have : j ≠ k := fun hj => h (hj ▸ h3)
        omega

/-- A value of a slice's form. -/
def SlF (v : V) : Prop := v = .nilslice ∨ v = .empty ∨ ∃ i o n c z, v = .slice i o n c z
theorem Sl.form {h : T O} {N : Nat} {v : V} {l : List V} (s : Sl h N v l) : SlF v := by
  rcases s with ⟨_, h | h⟩ | ⟨i, o, cp, c, e, rw, h, _⟩
  · exact .inl h
  · exact .inr (.inl h)
  · exact .inr (.inr ⟨_, _, _, _, _, h⟩)
theorem SlF.one {v : V} (h : SlF v) : V.one v = true := by
  rcases h with rfl | rfl | ⟨_, _, _, _, _, rfl⟩ <;> rfl
theorem SlF.cells {v : V} (h : SlF v) : V.cells v = [v] := by
  rcases h with rfl | rfl | ⟨_, _, _, _, _, rfl⟩ <;> rfl
def strs (l : List Str) : List V := l.map .str
theorem strs_len (l : List Str) : (strs l).length = l.length := by simp [strs]
theorem strs_get {l : List Str} {j : Nat} {n : Str} (h : l[j]? = some n) : (strs l)[j]? = some (.str n) := by simp [strs, h]
attribute [simp] strs_len

/-- A stage's cells. -/
def stgC (s : Stg) (inp : V) : List V := [.str s.name, .str s.op, .str s.factor, inp, .int .i64 s.cost]
/-- A slice that has these stages. -/
def Gr (h : T O) (N : Nat) (v : V) (g : List Stg) : Prop := ∃ l : List (List V), Sn 5 h N v l ∧ l.length = g.length ∧ ∀ (j : Nat) (s : Stg), g[j]? = some s → ∃ inp, l[j]? = some (stgC s inp) ∧ Sl h N inp (strs s.inputs)
theorem Gr.keep {h h' : T O} {N N' : Nat} {v : V} {g : List Stg} (s : Gr h N v g) (k : Keeps h N h' N') : Gr h' N' v g := by
  obtain ⟨l, h1, h2, h3⟩ := s
  refine ⟨l, h1.keep k, h2, fun j s hs => ?_⟩
  obtain ⟨inp, h4, h5⟩ := h3 j s hs
  exact ⟨inp, h4, h5.keep k⟩
theorem Gr.len {h : T O} {N : Nat} {v : V} {g : List Stg} (s : Gr h N v g) : lenV v = some g.length := by
  obtain ⟨l, h1, h2, h3⟩ := s
  rw [h1.len, h2]
theorem Gr.at {h : T O} {N : Nat} {v : V} {g : List Stg} (s : Gr h N v g) {j : Nat} {x : Stg} (hj : g[j]? = some x) : ∃ i o c e rw inp, baseV v = some (i, o) ∧ i < N ∧ h.get i = some (.cells c e rw) ∧ slc c (o + j * 5) 5 = some (stgC x inp) ∧ Sl h N inp (strs x.inputs) := by
  obtain ⟨l, h1, h2, h3⟩ := s
  obtain ⟨inp, h4, h5⟩ := h3 j x hj
  obtain ⟨i, o, c, e, rw, q1, q2, q3, q4⟩ := h1.at h4
  exact ⟨i, o, c, e, rw, inp, q1, q2, q3, q4, h5⟩
theorem Gr.slice {h : T O} {N : Nat} {v : V} {g : List Stg} {w : List Nat} (s : Gr h N v g) {lo hi : Nat} (h1 : lo ≤ hi) (h2 : hi ≤ g.length) (x y : Option V) (hx : x = some (.int .i64 lo) ∨ x = none ∧ lo = 0) (hy : y = some (.int .i64 hi) ∨ y = none ∧ hi = g.length) :
    ∃ v', sliceK ⟨h, N, w⟩ 5 (some v) (some x) (some y) (some none) = some (v', ⟨h, N, w⟩) ∧ Gr h N v' ((g.take hi).drop lo) := by
  obtain ⟨l, g1, g2, g3⟩ := s
  obtain ⟨v', e1, e2⟩ := sliceK_sn (z := 5) (w := w) (by decide) g1 h1 (by omega) x y hx (by rw [g2]; exact hy)
  refine ⟨v', e1, (l.take hi).drop lo, e2, by simp [g2], fun j s hs => ?_⟩
  have hj : lo + j < hi := by
    apply Nat.lt_of_not_le; intro hc
    rw [List.getElem?_drop, List.getElem?_take, if_neg (by omega)] at hs; cases hs
  rw [List.getElem?_drop, List.getElem?_take, if_pos hj] at hs
  obtain ⟨inp, q1, q2⟩ := g3 _ s hs
  exact ⟨inp, by rw [List.getElem?_drop, List.getElem?_take, if_pos hj]; exact q1, q2⟩
theorem stg_parts {c : List V} {o : Nat} {s : Stg} {inp : V} (h : slc c o 5 = some (stgC s inp)) : partV c o (some 5) = some (.agg (stgC s inp)) ∧ c[o]? = some (.str s.name) ∧ c[o + 1]? = some (.str s.op) ∧ c[o + 2]? = some (.str s.factor) ∧ c[o + 3]? = some inp ∧ c[o + 4]? = some (.int .i64 s.cost) :=
  ⟨partV_slc h, slc_get h (f := 0) (by omega), slc_get h (f := 1) (by omega), slc_get h (f := 2) (by omega), slc_get h (f := 3) (by omega), slc_get h (f := 4) (by omega)⟩

theorem firstP_pos {n : Str} : ∀ (g : List Stg) (k : Nat) {p : Nat → Bool}, (∀ (j : Nat) (s : Stg), g[j]? = some s → p (k + j) = decide (s.name = n)) → firstP p k g.length = if pos g n < g.length then ((k + pos g n : Nat) : Int) else -1
  | [], k, p, _ => by simp [firstP, pos]
  | s :: g, k, p, h => by
    have h0 := h 0 s rfl
    simp only [Nat.add_zero] at h0
    have ih := firstP_pos (n := n) g (k + 1) (p := p) fun j s hs => by
      rw [show k + 1 + j = k + (j + 1) by omega]; exact h (j + 1) s (by simpa using hs)
    simp only [List.length_cons, firstP, h0, pos, decide_eq_true_eq]
    by_cases hn : s.name = n
    · simp [hn]
    · simp only [hn, if_false, ih]
      by_cases h2 : pos g n < g.length
      · rw [if_pos h2, if_pos (by omega)]; omega
      · rw [if_neg h2, if_neg (by omega)]

theorem slc_5 {a b c d e : V} : slc [a, b, c, d, e] 0 5 = some [a, b, c, d, e] := rfl
theorem slc_2 {a b : V} : slc [a, b] 0 2 = some [a, b] := rfl
attribute [simp] slc_5 slc_2
theorem Gr.form {h : T O} {N : Nat} {v : V} {g : List Stg} (s : Gr h N v g) : SlF v := by
  obtain ⟨l, h1, _⟩ := s
  rcases h1 with ⟨_, h | h⟩ | ⟨i, o, cp, c, e, rw, h, _⟩
  · exact .inl h
  · exact .inr (.inl h)
  · exact .inr (.inr ⟨_, _, _, _, _, h⟩)

def lookR (st : St) (zero : V) (ok : Bool) : Option (Option (Nat × V)) → Option (V × St)
  | some (some (_, v)) => some (if ok then .tup [v, .bool true] else v, st)
  | some none => some (if ok then .tup [zero, .bool false] else zero, st)
  | none => none
def lookK2 (st : St) (kd : KeyD) (zero : V) (ok : Bool) (k : V) : Option O → Option (V × St)
  | some (.map es) => lookR st zero ok (findV kd k es 0)
  | _ => none
def lookK (st : St) (kd : KeyD) (zero : V) (ok : Bool) : Option V → Option V → Option (V × St)
  | some (.map i), some k => if kd.fits k = true then lookK2 st kd zero ok k (st.h.get i) else none
  | some .nilmap, some k => if kd.fits k = true then lookR st zero ok (some none) else none
  | _, _ => none
theorem op_lookup_K {kd : KeyD} {zero : V} {m k : Src} {ok : Bool} {call : CallT} {r : T V} {st : St} : op_lookup kd zero m k ok call r st = lookK st kd zero ok (m.ev r) (k.ev r) := by
  unfold op_lookup lookK
  rcases m.ev r with _ | m
  · rfl
  · rcases k.ev r with _ | k
    · cases m <;> rfl
    · cases m <;> simp only [] <;> (try (by_cases hf : kd.fits k = true <;> simp [hf])) <;> try rfl
      · rename_i i
        rcases st.h.get i with _ | o
        · rfl
        · cases o <;> simp only [lookK2]
          rename_i es
          rcases findV kd k es 0 with _ | _ | ⟨_, _⟩ <;> rfl
theorem lookK_map {st : St} {zero : V} {ok : Bool} {i : Nat} {s : Str} : lookK st .str zero ok (some (.map i)) (some (.str s)) = lookK2 st .str zero ok (.str s) (st.h.get i) := rfl
theorem lookK2_some {st : St} {kd : KeyD} {zero : V} {ok : Bool} {k : V} {es : List (V × V)} : lookK2 st kd zero ok k (some (.map es)) = lookR st zero ok (findV kd k es 0) := rfl
attribute [simp] op_lookup_K lookK_map lookK2_some op_mkmap
def msetR (st : St) (i : Nat) (k v : V) (es : List (V × V)) : Option (Option (Nat × V)) → Option (V × St)
  | some (some (j, _)) => some (.tup [], st.write i (.map (es.set j (k, v))))
  | some none => some (.tup [], st.write i (.map (es ++ [(k, v)])))
  | none => none
def msetK2 (st : St) (kd : KeyD) (i : Nat) (k v : V) : Option O → Option (V × St)
  | some (.map es) => msetR st i k v es (findV kd k es 0)
  | _ => none
def msetK (st : St) (kd : KeyD) : Option V → Option V → Option V → Option (V × St)
  | some (.map i), some k, some v => if kd.fits k = true then msetK2 st kd i k v (st.h.get i) else none
  | _, _, _ => none
theorem op_mapset_K {kd : KeyD} {m k v : Src} {call : CallT} {r : T V} {st : St} : op_mapset kd m k v call r st = msetK st kd (m.ev r) (k.ev r) (v.ev r) := by
  unfold op_mapset msetK
  rcases m.ev r with _ | m
  · rfl
  · rcases k.ev r with _ | k
    · cases m <;> rfl
    · rcases v.ev r with _ | v
      · cases m <;> rfl
      · cases m with
        | map i =>
          simp only []
          by_cases hf : kd.fits k = true
          · simp only [hf, if_true]
            rcases st.h.get i with _ | o
            · rfl
            · cases o <;> simp only [msetK2]
              rename_i es
              rcases findV kd k es 0 with _ | _ | ⟨_, _⟩ <;> rfl
          · simp [hf]
        | _ => rfl
theorem msetK_map {st : St} {i : Nat} {s : Str} {v : V} : msetK st .str (some (.map i)) (some (.str s)) (some v) = msetK2 st .str i (.str s) v (st.h.get i) := rfl
theorem msetK2_some {st : St} {kd : KeyD} {i : Nat} {k v : V} {es : List (V × V)} : msetK2 st kd i k v (some (.map es)) = msetR st i k v es (findV kd k es 0) := rfl
theorem msetR_none {st : St} {i : Nat} {k v : V} {es : List (V × V)} : msetR st i k v es (some none) = some (.tup [], st.write i (.map (es ++ [(k, v)]))) := rfl
attribute [simp] op_mapset_K msetK_map msetK2_some msetR_none

theorem stage_eq {g : List Stg} {s : Stg} {o : Opn} {E4 E6 : Int} (ho : opOf s.op = some o ∨ opOf s.op = none) (h4 : opOf s.op = some o → E4 = (facErr o s.factor : Nat)) (h6 : E6 = if s.inputs.length < o.lo ∨ o.hi < s.inputs.length then 2 else 0) :
    firstNZ [if isName s.name = false then 8 else 0, if 0 ≤ posI g s.name then 9 else 0, if opOf s.op = none then 13 else 0, E4, if 16 < (s.inputs.length : Int) then 5 else 0, E6, if ∃ x, x ∈ s.inputs ∧ g.length ≤ pos g x then 10 else 0, if s.cost < 1 ∨ 1000 < s.cost then 3 else 0] = (chkStage g s : Nat) := by
  have e2 : (0 ≤ posI g s.name) ↔ pos g s.name < g.length := by
    unfold posI; split <;> omega
  have e5 : (16 < (s.inputs.length : Int)) ↔ 16 < s.inputs.length := by omega
  have e7 : (s.inputs.any (fun n => decide (g.length ≤ pos g n)) = true) ↔ ∃ x, x ∈ s.inputs ∧ g.length ≤ pos g x := by simp
  unfold chkStage
  simp only [firstNZ, e2, e5, e7]
  by_cases c1 : isName s.name = false
  · simp [c1]
  by_cases c2 : pos g s.name < g.length
  · simp [c1, c2]
  rcases ho with ho | ho
  · rw [ho]
    rw [h4 ho, h6]
    simp only [c1, c2, if_false, if_true]
    by_cases c4 : facErr o s.factor = 0
    · by_cases c5 : 16 < s.inputs.length
      · simp [c4, c5]
      · by_cases c6 : s.inputs.length < o.lo ∨ o.hi < s.inputs.length
        · simp [c4, c5, c6]
        · by_cases c7 : ∃ x, x ∈ s.inputs ∧ g.length ≤ pos g x
          · simp [c4, c5, c6, c7]
          · by_cases c8 : s.cost < 1 ∨ 1000 < s.cost
            · simp [c4, c5, c6, c7, c8]
            · simp [c4, c5, c6, c7, c8]
    · simp [c4]
  · rw [ho]; simp [c1, c2]

end Go.Mx
/- Lists that are made of a graph; the rests. -/
namespace Go.Mx
open Go
set_option linter.unusedVariables false

theorem Keeps.then {h h1 h2 : T O} {n n1 n2 : Nat} (a : Keeps h n h1 n1) (b : Keeps h1 n h2 n2) : Keeps h n h2 n2 := ⟨b.le, fun i hi => (b.get i hi).trans (a.get i hi)⟩
/-- Integers as cells of elements. -/
def rowsI (l : List Int) : List (List V) := l.map fun x => [.int .i64 x]
theorem rowsI_len (l : List Int) : (rowsI l).length = l.length := by simp [rowsI]
theorem rowsI_flat : ∀ (l : List Int), (rowsI l).flatten = dI l
  | [] => rfl
  | x :: l => by
    have := rowsI_flat l
    simp only [rowsI, List.map_cons, List.flatten_cons, dI] at this ⊢
    rw [this]; rfl
theorem rowsI_snoc (l : List Int) (x : Int) : rowsI (l ++ [x]) = rowsI l ++ [[.int .i64 x]] := by simp [rowsI]
theorem Own.sl {e : TypeId} {N0 : Nat} {h : T O} {N : Nat} {v : V} {l : List Int} (s : Own 1 e N0 h N v (rowsI l)) : Sl h N v (dI l) := by
  have := s.sn
  have e1 : rowsI l = (dI l).map fun x => [x] := by simp [rowsI, dI]
  rw [e1] at this
  exact Sn.one.1 this
theorem SlF.ownForm {z : Nat} {e : TypeId} {N0 : Nat} {h : T O} {N : Nat} {v : V} {l : List (List V)} (s : Own z e N0 h N v l) : SlF v := by
  obtain ⟨_, ⟨_, rfl⟩ | ⟨i, rfl, _⟩⟩ := s
  · exact .inl rfl
  · exact .inr (.inr ⟨_, _, _, _, _, rfl⟩)

theorem mxR_nn (n : Str) : ∀ (l : List (Stg × Int)), 0 ≤ mxR n l
  | [] => Int.le_refl _
  | (s, r) :: l => by
    have := mxR_nn n l
    simp only [mxR]
    split <;> omega

/-- A graph without errors. -/
structure ValidG (g : List Stg) : Prop where
  le : g.length ≤ 16
  name : ∀ (j : Nat) (s : Stg), g[j]? = some s → j ≤ pos (g.take j) s.name
  inp : ∀ (j : Nat) (s : Stg), g[j]? = some s → ∀ n ∈ s.inputs, pos (g.take j) n < j
  cost : ∀ s ∈ g, 1 ≤ s.cost ∧ s.cost ≤ 1000
theorem chkStage_ok {g : List Stg} {s : Stg} (h : chkStage g s = 0) : g.length ≤ pos g s.name ∧ (∀ n ∈ s.inputs, pos g n < g.length) ∧ 1 ≤ s.cost ∧ s.cost ≤ 1000 := by
  unfold chkStage at h
  split at h
  · cases h
  split at h
  · cases h
  split at h
  · cases h
  split at h
  · rename_i h1; exact absurd h h1
  split at h
  · cases h
  split at h
  · cases h
  split at h
  · cases h
  split at h
  · cases h
  rename_i h1 h2 _ _ _ _ _ _ h3 h4
  refine ⟨by omega, fun n hn => ?_, by omega, by omega⟩
  simp only [List.any_eq_true, decide_eq_true_eq, not_exists, not_and] at h3
  have := h3 n hn
  omega
theorem chkL_ok : ∀ {t b : List Stg}, chkL b t = 0 → ∀ (j : Nat) (s : Stg), t[j]? = some s → chkStage (b ++ t.take j) s = 0
  | [], _, _, j, s, h => by simp at h
  | x :: t, b, h, 0, s, hs => by
    simp only [chkL] at h
    simp at hs; subst hs
    by_cases h0 : chkStage b x = 0
    · simpa using h0
    · rw [if_pos h0] at h; exact absurd h h0
  | x :: t, b, h, j + 1, s, hs => by
    simp only [chkL] at h
    by_cases h0 : chkStage b x = 0
    · rw [if_neg (by simp [h0])] at h
      have := chkL_ok h j s (by simpa using hs)
      simpa using this
    · rw [if_pos h0] at h; exact absurd h h0
theorem chkGraph_ok {g : List Stg} (h : chkGraph g = 0) : ValidG g ∧ g ≠ [] := by
  unfold chkGraph at h
  split at h
  · cases h
  split at h
  · cases h
  rename_i h1 h2
  have hk := chkL_ok h
  simp only [List.nil_append] at hk
  have hlen : ∀ (j : Nat) (s : Stg), g[j]? = some s → (g.take j).length = j := fun j s hs => by
    have := lt_of_get hs
    simp; omega
  refine ⟨⟨by omega, fun j s hs => ?_, fun j s hs n hn => ?_, fun s hs => ?_⟩, fun h => by rw [h] at h1; simp at h1⟩
  · have := (chkStage_ok (hk j s hs)).1; rw [hlen j s hs] at this; exact this
  · have := (chkStage_ok (hk j s hs)).2.1 n hn; rw [hlen j s hs] at this; exact this
  · obtain ⟨j, hj⟩ := List.getElem?_of_mem hs
    exact (chkStage_ok (hk j s hj)).2.2
/-- The place that is found has the name, and it is the first one. -/
theorem pos_get : ∀ {g : List Stg} {n : Str}, pos g n < g.length → ∃ s, g[pos g n]? = some s ∧ s.name = n
  | [], _, h => by simp at h
  | s :: g, n, h => by
    simp only [pos] at h ⊢
    by_cases hn : s.name = n
    · simp [hn]
    · simp only [hn, if_false, List.length_cons] at h ⊢
      obtain ⟨x, h1, h2⟩ := pos_get (g := g) (n := n) (by omega)
      exact ⟨x, by simpa using h1, h2⟩
theorem pos_min : ∀ {g : List Stg} {n : Str} {j : Nat} {s : Stg}, g[j]? = some s → s.name = n → pos g n ≤ j
  | [], _, j, s, h, _ => by simp at h
  | x :: g, n, 0, s, h, hn => by simp at h; subst h; simp [pos, hn]
  | x :: g, n, j + 1, s, h, hn => by
    have := pos_min (g := g) (n := n) (j := j) (s := s) (by simpa using h) hn
    simp only [pos]; split <;> omega
theorem pos_take : ∀ {g : List Stg} {n : Str} {j : Nat}, pos (g.take j) n < (g.take j).length → pos g n = pos (g.take j) n
  | [], _, j, h => by simp at h
  | x :: g, n, 0, h => by simp at h
  | x :: g, n, j + 1, h => by
    simp only [List.take_succ_cons, pos] at h ⊢
    by_cases hn : x.name = n
    · simp [hn]
    · simp only [hn, if_false, List.length_cons] at h ⊢
      rw [pos_take (g := g) (n := n) (j := j) (by omega)]
/-- In a graph without errors each name stands at its only place. -/
theorem ValidG.pos_self {g : List Stg} (V : ValidG g) {j : Nat} {s : Stg} (hs : g[j]? = some s) : pos g s.name = j := by
  have h1 := pos_min hs rfl
  have h2 := V.name j s hs
  apply Nat.le_antisymm h1
  apply Nat.le_of_not_lt
  intro hc
  have hl := lt_of_get hs
  obtain ⟨x, h3, h4⟩ := pos_get (g := g) (n := s.name) (by omega)
  have h5 : (g.take j)[pos g s.name]? = some x := by rw [List.getElem?_take, if_pos hc]; exact h3
  have := pos_min h5 h4
  omega
theorem ValidG.pos_inp {g : List Stg} (V : ValidG g) {j : Nat} {s : Stg} (hs : g[j]? = some s) {n : Str} (hn : n ∈ s.inputs) : pos g n < j := by
  have h1 := V.inp j s hs n hn
  have hl := lt_of_get hs
  have h2 := pos_take (g := g) (n := n) (j := j) (by simp; omega)
  omega
/-- A stage needs no later one, nor itself. -/
theorem ValidG.not_needs {g : List Stg} (V : ValidG g) {j m : Nat} {s x : Stg} (hs : g[j]? = some s) (hx : g[m]? = some x) (hjm : j ≤ m) : x.name ∉ s.inputs := fun hn => by
  have h1 := V.pos_inp hs hn
  have h2 := V.pos_self hx
  omega

theorem mxR_bound {n : Str} {b : Int} : ∀ {l : List (Stg × Int)}, 0 ≤ b → (∀ p ∈ l, p.2 ≤ b) → mxR n l ≤ b
  | [], h, _ => h
  | (s, r) :: l, h, hp => by
    have h1 := mxR_bound (n := n) (l := l) h fun p hm => hp p (List.mem_cons_of_mem _ hm)
    have h2 := hp (s, r) List.mem_cons_self
    simp only [mxR]
    split
    · simp only at h2; omega
    · exact h1
theorem rests_bound : ∀ {g : List Stg}, (∀ s ∈ g, 1 ≤ s.cost ∧ s.cost ≤ 1000) → ∀ r ∈ rests g, 1 ≤ r ∧ r ≤ 1000 * g.length
  | [], _, r, h => by simp [rests] at h
  | s :: t, hc, r, h => by
    have ih := rests_bound (g := t) fun x hx => hc x (List.mem_cons_of_mem _ hx)
    have h0 := hc s List.mem_cons_self
    simp only [rests] at h
    rcases List.mem_cons.1 h with rfl | h
    · have h1 := mxR_nn s.name (t.zip (rests t))
      have h2 := mxR_bound (n := s.name) (b := 1000 * t.length) (l := t.zip (rests t)) (by omega) fun p hp => (ih p.2 (List.of_mem_zip hp).2).2
      simp only [List.length_cons]
      omega
    · have := ih r h
      simp only [List.length_cons]; omega

/-- What the stages from k on ask of a name. -/
def askR (g : List Stg) (k : Nat) (n : Str) : Int := mxR n ((g.drop k).zip ((rests g).drop k))
theorem askR_end {g : List Stg} {n : Str} : askR g g.length n = 0 := by simp [askR, mxR]
theorem askR_step {g : List Stg} {k : Nat} {s : Stg} {r : Int} {n : Str} (hs : g[k]? = some s) (hr : (rests g)[k]? = some r) : askR g k n = if n ∈ s.inputs then max r (askR g (k + 1) n) else askR g (k + 1) n := by
  unfold askR
  rw [get_drop_cons hs, get_drop_cons hr, List.zip_cons_cons, mxR]
theorem rests_ask {g : List Stg} {k : Nat} {s : Stg} (h : g[k]? = some s) : (rests g)[k]? = some (s.cost + askR g (k + 1) s.name) := rests_at h
theorem askR_nn (g : List Stg) (k : Nat) (n : Str) : 0 ≤ askR g k n := mxR_nn ..
theorem askR_bound {g : List Stg} (V : ValidG g) (k : Nat) (n : Str) : askR g k n ≤ 16000 := by
  have := V.le
  refine mxR_bound (by omega) fun p hp => ?_
  have h1 := (rests_bound V.cost p.2 (List.mem_of_mem_drop (List.of_mem_zip hp).2)).2
  omega
/-- What is not needed by a stage from k on is not asked for. -/
theorem ValidG.ask_self {g : List Stg} (V : ValidG g) {m : Nat} {x : Stg} (hx : g[m]? = some x) : ∀ (d k : Nat), k + d = m + 1 → askR g k x.name = askR g (m + 1) x.name
  | 0, k, h => by rw [show k = m + 1 by omega]
  | d + 1, k, h => by
    have hl := lt_of_get hx
    obtain ⟨s, hs⟩ := get_of_lt (l := g) (k := k) (by omega)
    have hr := rests_ask hs
    rw [askR_step hs hr, if_neg (V.not_needs hs hx (by omega))]
    exact V.ask_self hx d (k + 1) (by omega)

end Go.Mx
/- Copies of graphs. -/
namespace Go.Mx
open Go
set_option linter.unusedVariables false

/-- A copied list of strings: a row of its own. -/
def Cp (h : T O) (N : Nat) (v : V) (l : List V) : Prop := ∃ j c, v = .slice j 0 l.length c 1 ∧ j < N ∧ h.get j = some (.cells l 9 true) ∧ ∀ k, c = some k → l.length ≤ k
theorem Cp.keep {h h' : T O} {N N' : Nat} {v : V} {l : List V} (s : Cp h N v l) (k : Keeps h N h' N') : Cp h' N' v l := by
  obtain ⟨j, c, h1, h2, h3, h4⟩ := s
  exact ⟨j, c, h1, Nat.lt_of_lt_of_le h2 k.le, (k.get j h2).trans h3, h4⟩
theorem Cp.sl {h : T O} {N : Nat} {v : V} {l : List V} (s : Cp h N v l) : Sl h N v l := by
  obtain ⟨j, c, h1, h2, h3, h4⟩ := s
  rw [h1]; exact Sl.row h2 h3 rfl h4
theorem src_sl {h : T O} {N : Nat} {w : List Nat} {v : V} {l : List V} (s : Sl h N v l) : srcCells ⟨h, N, w⟩ 1 v = some (l.length, l) := by
  rcases s with ⟨rfl, rfl | rfl⟩ | ⟨i, o, cp, c, e, rw, rfl, h2, h3, h4, h5, h6⟩
  · rfl
  · rfl
  · simp only [srcCells, if_true, St.row, h3, Nat.mul_one]
    have : slc c o l.length = some l := by
      unfold slc
      rw [if_pos h5]
      congr 1
      apply List.ext_getElem?
      intro j
      rw [List.getElem?_take]
      by_cases hj : j < l.length
      · rw [if_pos hj, List.getElem?_drop]; exact h4 j hj
      · rw [if_neg hj, List.getElem?_eq_none (by omega)]
    rw [this]
theorem append_copy {h : T O} {N i : Nat} {w : List Nat} {v : V} {l : List V} (hr : h.get i = some (.cells [] 9 true)) (hi : i < N) (hs : Sl h N v l) (hl : l.length < 100000) :
    ∃ v' h' n', appendV ⟨h, N, w⟩ 1 16 9 (.slice i 0 0 (some 0) 1) v = some (v', ⟨h', n', w⟩) ∧ Keeps h N h' n' ∧ Cp h' n' v' l := by
  by_cases h0 : l.length = 0
  · have : l = [] := List.eq_nil_of_length_eq_zero h0
    subst this
    refine ⟨.slice i 0 0 (some 0) 1, h, N, ?_, Keeps.refl, i, some 0, rfl, hi, hr, fun k hk => by simp⟩
    simp [appendV, src_sl hs]
  · refine ⟨.slice N 0 l.length none 1, h.set N (.cells l 9 true), N + 1, ?_, Keeps.refl.new _, N, none, rfl, by omega, by rw [T.get_set]; simp, fun k hk => by cases hk⟩
    have hb : ¬ (maxBytes < (2 * (0 + l.length) + 1000) * 16) := by unfold maxBytes; omega
    have hne : l ≠ [] := fun hc => h0 (by rw [hc]; rfl)
    simp [appendV, src_sl hs, hb, St.row, hr, hne, slc, St.alloc]
    simp [maxBytes]; omega

/-- So many stages are copied. -/
def PgA (h : T O) (N0 N : Nat) (u : V) (g : List Stg) (k : Nat) : Prop := ∃ l : List (List V), Own 5 126 N0 h N u l ∧ l.length = k ∧ ∀ (j : Nat) (s : Stg), j < k → g[j]? = some s → ∃ inp, l[j]? = some (stgC s inp) ∧ Cp h N inp (strs s.inputs)
theorem PgA.keep {h h' : T O} {N0 N N' : Nat} {u : V} {g : List Stg} {k : Nat} (s : PgA h N0 N u g k) (kk : Keeps h N h' N') : PgA h' N0 N' u g k := by
  obtain ⟨l, h1, h2, h3⟩ := s
  refine ⟨l, h1.keep kk, h2, fun j s hj hs => ?_⟩
  obtain ⟨inp, h4, h5⟩ := h3 j s hj hs
  exact ⟨inp, h4, h5.keep kk⟩
theorem PgA.gr {h : T O} {N0 N : Nat} {u : V} {g : List Stg} (s : PgA h N0 N u g g.length) : Gr h N u g := by
  obtain ⟨l, h1, h2, h3⟩ := s
  refine ⟨l, h1.sn, h2, fun j s hs => ?_⟩
  obtain ⟨inp, h4, h5⟩ := h3 j s (lt_of_get hs) hs
  exact ⟨inp, h4, h5.sl⟩
theorem PgA.step {h : T O} {N0 N : Nat} {u x inp : V} {g : List Stg} {k : Nat} {s : Stg} {w : List Nat} (p : PgA h N0 N u g k) (hN : N0 ≤ N) (hs : g[k]? = some s) (hi : Cp h N inp (strs s.inputs)) (hu : srcCells ⟨h, N, w⟩ 5 x = some (1, stgC s inp)) (hk : k < 1000) :
    ∃ v' h' w', appendV ⟨h, N, w⟩ 5 80 126 u x = some (v', ⟨h', N + 1, w'⟩) ∧ oldIds N0 w' = oldIds N0 w ∧ Keeps h N0 h' (N + 1) ∧ PgA h' N0 (N + 1) v' g (k + 1) := by
  obtain ⟨l, h1, h2, h3⟩ := p
  obtain ⟨v', h', w', e1, e2, e3, e4, e5⟩ := append_own (x := stgC s inp) (u := x) (bytes := 80) (w := w) h1 hN (by decide) rfl hu (by omega)
  have hcp : ∀ {i : V} {m : List V}, Cp h N i m → Cp h' (N + 1) i m := by
    rintro i m ⟨j, c, q1, q2, q3, q4⟩
    refine ⟨j, c, q1, by omega, ?_, q4⟩
    rcases e4 j with e | e | ⟨o, n, c', q, e⟩
    · rw [e]; exact q3
    · omega
    · obtain ⟨_, ⟨_, hn⟩ | ⟨i', hv, _, _, hrow⟩⟩ := h1
      · rw [e] at hn; cases hn
      · rw [e] at hv
        simp only [V.slice.injEq] at hv
        rw [← hv.1, q3] at hrow
        simp at hrow
  refine ⟨v', h', w', e1, e2, e3, l ++ [stgC s inp], e5, by simp [h2], fun j t hj ht => ?_⟩
  by_cases hjk : j < k
  · obtain ⟨i, q1, q2⟩ := h3 j t hjk ht
    exact ⟨i, by rw [List.getElem?_append_left (by omega)]; exact q1, hcp q2⟩
  · have : j = k := by omega
    subst this
    obtain rfl := Option.some.inj (hs.symm.trans ht)
    exact ⟨inp, by rw [List.getElem?_append_right (by omega)]; simp [h2], hcp hi⟩

end Go.Mx
/- Integers of the reference in rows. -/
namespace Go.Mx
open Go
set_option linter.unusedVariables false

/-- A row without integers is another one: it may be written, with the same length. -/
theorem Sl.setInt {h : T O} {N : Nat} {v : V} {l : List Int} {i : Nat} {c0 c1 : List V} {e0 e1 : TypeId} {w0 w1 : Bool} (s : Sl h N v (dI l)) (hr : h.get i = some (.cells c0 e0 w0)) (hn : ∀ x ∈ c0, ∀ k n, x ≠ .int k n) (hc : c1.length = c0.length) : Sl (h.set i (.cells c1 e1 w1)) N v (dI l) := by
  rcases s with s | ⟨j, o, cp, c, e, rw, h1, h2, h3, h4, h5, h6⟩
  · exact .inl s
  · by_cases hj : j = i
    · subst hj
      rw [hr] at h3
      simp only [Option.some.injEq, O.cells.injEq] at h3
      obtain ⟨rfl, rfl, rfl⟩ := h3
      cases l with
      | nil => exact .inr ⟨j, o, cp, c1, e1, w1, h1, h2, by rw [T.get_set]; simp, fun k hk => by simp [dI] at hk, by rw [hc]; exact h5, h6⟩
      | cons d l =>
        have := h4 0 (by simp [dI])
        simp only [dI, List.map_cons, List.getElem?_cons_zero] at this
        exact absurd rfl (hn _ (List.mem_of_getElem? this) .i64 d)
    · exact .inr ⟨j, o, cp, c, e, rw, h1, h2, by rw [T.get_set, if_neg hj]; exact h3, h4, h5, h6⟩

end Go.Mx
