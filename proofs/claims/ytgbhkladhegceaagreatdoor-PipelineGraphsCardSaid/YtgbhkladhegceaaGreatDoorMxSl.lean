/-
  Slices whose elements have several cells; lists that are made by append.
-/
import Derived.Test.YtgbhkladhegceaaGreatDoorMxWd
set_option linter.all false
namespace Go.Mx
open Go

theorem slc_some {α : Type} {c : List α} {o n : Nat} {x : List α} (h : slc c o n = some x) : o + n ≤ c.length ∧ x = (c.drop o).take n := by
  unfold slc at h
  split at h
  · rename_i hl; simp at h; exact ⟨hl, h.symm⟩
  · cases h
theorem slc_get {α : Type} {c : List α} {o n : Nat} {x : List α} (h : slc c o n = some x) {f : Nat} (hf : f < n) : c[o + f]? = x[f]? := by
  obtain ⟨_, rfl⟩ := slc_some h
  rw [List.getElem?_take, if_pos hf, List.getElem?_drop]
theorem slc_len {α : Type} {c : List α} {o n : Nat} {x : List α} (h : slc c o n = some x) : x.length = n := by
  obtain ⟨h1, rfl⟩ := slc_some h
  simp; omega
theorem partV_slc {c : List V} {o n : Nat} {x : List V} (h : slc c o n = some x) : partV c o (some n) = some (.agg x) := by
  simp [partV, h]

/-- A slice with these elements, of z cells each; its row's number is below N. -/
def Sn (z : Nat) (h : T O) (N : Nat) (v : V) (l : List (List V)) : Prop :=
  (l = [] ∧ (v = .nilslice ∨ v = .empty)) ∨ ∃ i o cp c e rw, v = .slice i o l.length cp z ∧ i < N ∧ h.get i = some (.cells c e rw) ∧ (∀ j x, l[j]? = some x → slc c (o + j * z) z = some x) ∧ o + l.length * z ≤ c.length ∧ ∀ k, cp = some k → l.length ≤ k

theorem Sn.nil {z : Nat} {h : T O} {N : Nat} : Sn z h N .nilslice [] := .inl ⟨rfl, .inl rfl⟩
theorem Sn.keep {z : Nat} {h h' : T O} {N N' : Nat} {v : V} {l : List (List V)} (s : Sn z h N v l) (k : Keeps h N h' N') : Sn z h' N' v l := by
  rcases s with s | ⟨i, o, cp, c, e, rw, h1, h2, h3, h4⟩
  · exact .inl s
  · exact .inr ⟨i, o, cp, c, e, rw, h1, Nat.lt_of_lt_of_le h2 k.le, (k.get i h2).trans h3, h4⟩
theorem Sn.len {z : Nat} {h : T O} {N : Nat} {v : V} {l : List (List V)} (s : Sn z h N v l) : lenV v = some l.length := by
  rcases s with ⟨rfl, rfl | rfl⟩ | ⟨i, o, cp, c, e, rw, rfl, _⟩ <;> rfl
theorem Sn.at {z : Nat} {h : T O} {N : Nat} {v : V} {l : List (List V)} (s : Sn z h N v l) {j : Nat} {x : List V} (hj : l[j]? = some x) : ∃ i o c e rw, baseV v = some (i, o) ∧ i < N ∧ h.get i = some (.cells c e rw) ∧ slc c (o + j * z) z = some x := by
  have hl : j < l.length := by
    apply Nat.lt_of_not_le; intro hc; rw [List.getElem?_eq_none hc] at hj; cases hj
  rcases s with ⟨rfl, _⟩ | ⟨i, o, cp, c, e, rw, rfl, h2, h3, h4, _⟩
  · simp at hl
  · exact ⟨i, o, c, e, rw, rfl, h2, h3, h4 j x hj⟩

theorem sliceK_sn {z : Nat} (hz : 0 < z) {h : T O} {N : Nat} {v : V} {l : List (List V)} {w : List Nat} (s : Sn z h N v l) {lo hi : Nat} (h1 : lo ≤ hi) (h2 : hi ≤ l.length) (x y : Option V) (hx : x = some (.int .i64 lo) ∨ x = none ∧ lo = 0) (hy : y = some (.int .i64 hi) ∨ y = none ∧ hi = l.length) :
    ∃ v', sliceK ⟨h, N, w⟩ z (some v) (some x) (some y) (some none) = some (v', ⟨h, N, w⟩) ∧ Sn z h N v' ((l.take hi).drop lo) := by
  rcases s with ⟨rfl, rfl | rfl⟩ | ⟨i, o, cp, c, e, rw, rfl, q2, q3, q4, q5, q6⟩
  · have : hi = 0 := by simpa using h2
    subst this
    have : lo = 0 := by omega
    subst this
    refine ⟨.nilslice, ?_, .inl ⟨rfl, .inl rfl⟩⟩
    rcases hx with rfl | ⟨rfl, _⟩ <;> rcases hy with rfl | ⟨rfl, _⟩ <;> simp [sliceK, op_sliceSl, evOpt, boundO, bound]
  · have : hi = 0 := by simpa using h2
    subst this
    have : lo = 0 := by omega
    subst this
    refine ⟨.empty, ?_, .inl ⟨rfl, .inr rfl⟩⟩
    rcases hx with rfl | ⟨rfl, _⟩ <;> rcases hy with rfl | ⟨rfl, _⟩ <;> simp [sliceK, op_sliceSl, evOpt, boundO, bound]
  · have hlen : ((l.take hi).drop lo).length = hi - lo := by simp; omega
    have hget : ∀ j u, ((l.take hi).drop lo)[j]? = some u → slc c (o + lo * z + j * z) z = some u := fun j u hu => by
      have hj : j < hi - lo := by
        rw [← hlen]; apply Nat.lt_of_not_le; intro hc; rw [List.getElem?_eq_none hc] at hu; cases hu
      rw [List.getElem?_drop, List.getElem?_take, if_pos (by omega)] at hu
      have := q4 _ _ hu
      rw [show o + lo * z + j * z = o + (lo + j) * z by rw [Nat.add_mul]; omega]
      exact this
    have hmul : lo * z + (hi - lo) * z ≤ l.length * z := by
      rw [← Nat.add_mul]; exact Nat.mul_le_mul_right _ (by omega)
    have b1 : ∀ m, hi ≤ m → boundO y m l.length = some hi := fun m hm => by
      rcases hy with rfl | ⟨rfl, rfl⟩
      · simp [boundO, bound]; omega
      · rfl
    have b2 : boundO x hi 0 = some lo := by
      rcases hx with rfl | ⟨rfl, rfl⟩
      · simp [boundO, bound]; omega
      · rfl
    cases cp with
    | some k =>
      have hk := q6 k rfl
      refine ⟨.slice i (if k = lo then o else o + lo * z) (hi - lo) (some (k - lo)) z, ?_, ?_⟩
      · have b0 : boundO none k k = some k := rfl
        simp only [sliceK, op_sliceSl, evOpt_const, Src.ev]
        simp [b0, b1 k (by omega), b2]
      · by_cases hkl : k = lo
        · have h0 : (l.take hi).drop lo = [] := List.eq_nil_of_length_eq_zero (by rw [hlen]; omega)
          refine .inr ⟨i, o, some (k - lo), c, e, rw, ?_, q2, q3, fun j u hu => by rw [h0] at hu; simp at hu, by rw [h0]; simp; omega, fun k' hk' => by rw [h0]; simp⟩
          rw [hlen, if_pos hkl]
        · refine .inr ⟨i, o + lo * z, some (k - lo), c, e, rw, ?_, q2, q3, hget, by rw [hlen]; omega, fun k' hk' => by simp at hk'; rw [hlen]; omega⟩
          rw [hlen, if_neg hkl]
    | none =>
      have hlz : l.length ≤ (c.length - o) / z := by
        rw [Nat.le_div_iff_mul_le hz]; omega
      have hk : hi ≤ max l.length ((c.length - o) / z) := by omega
      have hz0 : z ≠ 0 := by omega
      by_cases hlt : lo < max l.length ((c.length - o) / z)
      · refine ⟨.slice i (o + lo * z) (hi - lo) none z, ?_, .inr ⟨i, o + lo * z, none, c, e, rw, by rw [hlen], q2, q3, hget, by rw [hlen]; omega, fun k' hk' => by cases hk'⟩⟩
        simp only [sliceK, op_sliceSl, evOpt_const, Src.ev, St.row, q3]
        simp [b1 _ hk, b2, hlt, hz0]
      · refine ⟨.empty, ?_, .inl ⟨List.eq_nil_of_length_eq_zero (by rw [hlen]; omega), .inr rfl⟩⟩
        simp only [sliceK, op_sliceSl, evOpt_const, Src.ev, St.row, q3]
        simp [b1 _ hk, b2, hlt, hz0]

theorem Sn.one {h : T O} {N : Nat} {v : V} {l : List V} : Sn 1 h N v (l.map fun x => [x]) ↔ Sl h N v l := by
  unfold Sn Sl
  constructor
  · rintro (⟨h1, h2⟩ | ⟨i, o, cp, c, e, rw, h1, h2, h3, h4, h5, h6⟩)
    · exact .inl ⟨by simpa using h1, h2⟩
    · refine .inr ⟨i, o, cp, c, e, rw, by simpa using h1, h2, h3, fun j hj => ?_, by simpa using h5, by simpa using h6⟩
      have := h4 j [l[j]] (by simp [List.getElem?_eq_getElem hj])
      have := slc_get this (f := 0) (by omega)
      simp at this
      rw [this, List.getElem?_eq_getElem hj]
  · rintro (⟨h1, h2⟩ | ⟨i, o, cp, c, e, rw, h1, h2, h3, h4, h5, h6⟩)
    · exact .inl ⟨by simpa using h1, h2⟩
    · refine .inr ⟨i, o, cp, c, e, rw, by simpa using h1, h2, h3, fun j x hj => ?_, by simpa using h5, by simpa using h6⟩
      simp at hj
      obtain ⟨u, hu, rfl⟩ := hj
      have hl : j < l.length := by
        apply Nat.lt_of_not_le; intro hc; rw [List.getElem?_eq_none hc] at hu; cases hu
      have := h4 j hl
      rw [hu] at this
      have hc : o + j < c.length := by omega
      unfold slc
      rw [if_pos (by omega), Nat.mul_one, List.drop_eq_getElem_cons hc]
      rw [List.getElem?_eq_getElem hc] at this
      simp at this
      simp [this]

/-- A list that is made by append: nil at first, then a row of its own. -/
def Own (z : Nat) (e : TypeId) (N0 : Nat) (h : T O) (N : Nat) (v : V) (l : List (List V)) : Prop :=
  (∀ x ∈ l, x.length = z) ∧ ((l = [] ∧ v = .nilslice) ∨ ∃ i, v = .slice i 0 l.length none z ∧ N0 ≤ i ∧ i < N ∧ h.get i = some (.cells l.flatten e true))
theorem Own.nil {z : Nat} {e : TypeId} {N0 : Nat} {h : T O} {N : Nat} : Own z e N0 h N .nilslice [] := ⟨fun _ h => by simp at h, .inl ⟨rfl, rfl⟩⟩
theorem Own.keep {z : Nat} {e : TypeId} {N0 : Nat} {h h' : T O} {N N' : Nat} {v : V} {l : List (List V)} (s : Own z e N0 h N v l) (k : Keeps h N h' N') : Own z e N0 h' N' v l := by
  obtain ⟨hl, s | ⟨i, h1, h2, h3, h4⟩⟩ := s
  · exact ⟨hl, .inl s⟩
  · exact ⟨hl, .inr ⟨i, h1, h2, Nat.lt_of_lt_of_le h3 k.le, (k.get i h3).trans h4⟩⟩
theorem Own.len {z : Nat} {e : TypeId} {N0 : Nat} {h : T O} {N : Nat} {v : V} {l : List (List V)} (s : Own z e N0 h N v l) : lenV v = some l.length := by
  obtain ⟨_, ⟨rfl, rfl⟩ | ⟨i, rfl, _⟩⟩ := s <;> rfl
theorem flatten_len {z : Nat} : ∀ {l : List (List V)}, (∀ x ∈ l, x.length = z) → l.flatten.length = l.length * z
  | [], _ => by simp
  | x :: l, h => by
    have h1 := h x List.mem_cons_self
    have h2 := flatten_len (l := l) fun y hy => h y (List.mem_cons_of_mem _ hy)
    simp only [List.flatten_cons, List.length_append, h1, h2, List.length_cons, Nat.add_mul]; omega
theorem flatten_slc {z : Nat} : ∀ {l : List (List V)}, (∀ x ∈ l, x.length = z) → ∀ {j : Nat} {x : List V}, l[j]? = some x → slc l.flatten (j * z) z = some x
  | [], _, j, x, hj => by simp at hj
  | y :: l, h, 0, x, hj => by
    have h1 := h y List.mem_cons_self
    simp at hj; subst hj
    unfold slc
    simp [← h1]
  | y :: l, h, j + 1, x, hj => by
    have h1 := h y List.mem_cons_self
    have h2 := flatten_slc (l := l) (fun y hy => h y (List.mem_cons_of_mem _ hy)) (j := j) (x := x) (by simpa using hj)
    obtain ⟨h3, h4⟩ := slc_some h2
    unfold slc
    rw [if_pos (by simp only [List.flatten_cons, List.length_append, Nat.add_mul, h1]; omega), h4]
    congr 2
    rw [List.flatten_cons, Nat.add_mul, Nat.one_mul, Nat.add_comm, ← List.drop_drop, ← h1, List.drop_left]
theorem Own.sn {z : Nat} {e : TypeId} {N0 : Nat} {h : T O} {N : Nat} {v : V} {l : List (List V)} (s : Own z e N0 h N v l) : Sn z h N v l := by
  obtain ⟨hl, ⟨h1, h2⟩ | ⟨i, h1, h2, h3, h4⟩⟩ := s
  · exact .inl ⟨h1, .inl h2⟩
  · exact .inr ⟨i, 0, none, l.flatten, e, true, h1, h3, h4, fun j x hj => by rw [Nat.zero_add]; exact flatten_slc hl hj, by rw [flatten_len hl]; omega, fun k hk => by cases hk⟩

def appendK (st : St) (size bytes : Nat) (e : TypeId) : Option V → Option V → Option (V × St)
  | some s, some x => appendV st size bytes e s x
  | _, _ => none
theorem op_append_K {size bytes : Nat} {e : TypeId} {z : List V} {s x : Src} {call : CallT} {r : T V} {st : St} : op_append size bytes e z s x call r st = appendK st size bytes e (s.ev r) (x.ev r) := by
  unfold op_append appendK; rfl
theorem appendK_some {st : St} {size bytes : Nat} {e : TypeId} {s x : V} : appendK st size bytes e (some s) (some x) = appendV st size bytes e s x := rfl
attribute [simp] op_append_K appendK_some

/-- One more element at the end. -/
theorem append_own {z : Nat} {e : TypeId} {N0 : Nat} {h : T O} {N : Nat} {v u : V} {l : List (List V)} {x : List V} {bytes : Nat} {w : List Nat} (s : Own z e N0 h N v l) (hN : N0 ≤ N) (hz : 0 < z) (hx : x.length = z)
    (hu : srcCells ⟨h, N, w⟩ z u = some (1, x)) (hb : (2 * (l.length + 1) + 1000) * bytes ≤ 281474976710656) :
    ∃ v' h' w', appendV ⟨h, N, w⟩ z bytes e v u = some (v', ⟨h', N + 1, w'⟩) ∧ oldIds N0 w' = oldIds N0 w ∧ Keeps h N0 h' (N + 1) ∧ (∀ j, h'.get j = h.get j ∨ j = N ∨ (∃ o n c q, v = .slice j o n c q)) ∧ Own z e N0 h' (N + 1) v' (l ++ [x]) := by
  obtain ⟨hl, s⟩ := s
  have hl' : ∀ y ∈ l ++ [x], y.length = z := fun y hy => by
    rcases List.mem_append.1 hy with hy | hy
    · exact hl y hy
    · simp at hy; rw [hy, hx]
  have hz0 : z ≠ 0 := by omega
  rcases s with ⟨rfl, rfl⟩ | ⟨i, rfl, h2, h3, h4⟩
  · refine ⟨.slice N 0 1 none z, h.set N (.cells x e true), w, ?_, rfl, ⟨by omega, fun j hj => by rw [T.get_set, if_neg (by omega)]⟩, fun j => by rw [T.get_set]; by_cases hj : j = N <;> simp [hj], hl', .inr ⟨N, by simp, hN, by omega, by rw [T.get_set]; simp⟩⟩
    have hb' : (2 * 1 + 1000) * bytes ≤ 281474976710656 := by simpa using hb
    simp only [appendV, hu, maxBytes, St.alloc]
    simp [hb', hz0]
  · have hfl := flatten_len hl
    refine ⟨.slice N 0 (l.length + 1) none z, (h.set i .dead).set N (.cells (l.flatten ++ x) e true), i :: w, ?_, by simp [oldIds, Nat.not_lt.2 h2], ⟨by omega, fun j hj => by rw [T.get_set, if_neg (by omega), T.get_set, if_neg (by omega)]⟩, fun j => ?_, hl', .inr ⟨N, by simp, hN, by omega, by rw [T.get_set]; simp⟩⟩
    · simp only [appendV, hu, maxBytes, St.row, h4]
      rw [if_neg (by omega), if_neg (by rintro (h | h | h) <;> omega)]
      simp only [if_true]
      rw [if_neg (by rw [hfl, Nat.add_mul]; omega), if_pos ⟨by rw [hfl]; omega, trivial⟩]
      rfl
    · by_cases hj : j = N
      · exact .inr (.inl hj)
      · by_cases hj2 : j = i
        · exact .inr (.inr ⟨0, l.length, none, z, by rw [hj2]⟩)
        · left; rw [T.get_set, if_neg hj, T.get_set, if_neg hj2]

end Go.Mx
/- What is to be computed, in plain terms: names, numbers as strings, graphs of stages. -/
namespace Go.Mx
open Go

abbrev Str := List UInt8
def digC (c : UInt8) : Bool := decide (48 ≤ c.toNat ∧ c.toNat ≤ 57)
def letC (c : UInt8) : Bool := decide (97 ≤ c.toNat ∧ c.toNat ≤ 122 ∨ 65 ≤ c.toNat ∧ c.toNat ≤ 90)
def nameC (i : Nat) (c : UInt8) : Bool := letC c || (decide (i ≠ 0) && (digC c || decide (c.toNat = 95)))
def nameL : Nat → Str → Bool
  | _, [] => true
  | i, c :: s => nameC i c && nameL (i + 1) s
/-- A name: letters, digits and _, a letter first; at most 24 bytes. -/
def isName (s : Str) : Bool := decide (s ≠ []) && decide (s.length ≤ 24) && nameL 0 s

/-- A decimal integer without leading zeros. -/
def isDec : Str → Bool
  | [] => false
  | c :: s => (c :: s).all digC && (decide (c.toNat ≠ 48) || decide (s = []))
/-- The place of the first slash, or the length. -/
def slashAt : Str → Nat
  | [] => 0
  | c :: s => if c.toNat = 47 then 0 else slashAt s + 1
def numV (s : Str) : Nat := s.foldl (fun n c => 10 * n + (c.toNat - 48)) 0
def negS : Str → Bool
  | [] => false
  | c :: _ => decide (c.toNat = 45)
def bodyS (s : Str) : Str := if negS s then s.drop 1 else s
def formS (neg : Bool) (p : Str) (broken : Bool) (d : Str) : Bool := isDec p && !(neg && decide (p = [48])) && (!broken || (isDec d && decide (d ≠ [48]) && decide (d ≠ [49])))
/-- The error of a number: behind a sign, of numerator, is there a slash, denominator. -/
def chkP (neg : Bool) (p : Str) (broken : Bool) (d : Str) : Nat :=
  if formS neg p broken d = false then 1 else if 600 < p.length ∨ 600 < d.length then 4 else if broken = true ∧ Nat.gcd (numV p) (numV d) ≠ 1 then 1 else 0
def chkB (neg : Bool) (t : Str) : Nat := chkP neg (t.take (slashAt t)) (decide (slashAt t < t.length)) (t.drop (slashAt t + 1))
/-- The error of a number. -/
def chkNum (s : Str) : Nat := chkB (negS s) (bodyS s)

theorem slashAt_le : ∀ (s : Str), slashAt s ≤ s.length
  | [] => Nat.le_refl _
  | c :: s => by
    have := slashAt_le s
    simp only [slashAt, List.length_cons]
    split <;> omega

structure Stg where
  name : Str
  op : Str
  factor : Str
  inputs : List Str
  cost : Int

def pos : List Stg → Str → Nat
  | [], _ => 0
  | s :: g, n => if s.name = n then 0 else pos g n + 1
theorem pos_le : ∀ (g : List Stg) (n : Str), pos g n ≤ g.length
  | [], _ => Nat.le_refl _
  | s :: g, n => by
    have := pos_le g n
    simp only [pos, List.length_cons]
    split <;> omega
def posI (g : List Stg) (n : Str) : Int := if pos g n < g.length then (pos g n : Int) else -1

/-- An operation: has it a factor, its least and its greatest number of inputs. -/
structure Opn where
  factor : Bool
  lo : Nat
  hi : Nat
def opOf (s : Str) : Option Opn :=
  if s = [102, 114, 97, 109, 101] then some ⟨false, 0, 0⟩
  else if s = [97, 100, 100] then some ⟨false, 1, 16⟩
  else if s = [115, 99, 97, 108, 101] then some ⟨true, 1, 1⟩
  else if s = [109, 97, 120] then some ⟨false, 1, 16⟩
  else if s = [100, 101, 108, 97, 121] then some ⟨false, 1, 1⟩
  else if s = [115, 117, 109] then some ⟨true, 1, 1⟩
  else none
def facErr (o : Opn) (f : Str) : Nat := if o.factor = true then chkNum f else if f = [] then 0 else 1
def chkStage (before : List Stg) (s : Stg) : Nat :=
  if isName s.name = false then 8
  else if pos before s.name < before.length then 9
  else match opOf s.op with
    | none => 13
    | some o =>
      if facErr o s.factor ≠ 0 then facErr o s.factor
      else if 16 < s.inputs.length then 5
      else if s.inputs.length < o.lo ∨ o.hi < s.inputs.length then 2
      else if s.inputs.any (fun n => decide (before.length ≤ pos before n)) = true then 10
      else if s.cost < 1 ∨ 1000 < s.cost then 3 else 0
def chkL : List Stg → List Stg → Nat
  | _, [] => 0
  | before, s :: t => if chkStage before s ≠ 0 then chkStage before s else chkL (before ++ [s]) t
def chkGraph (g : List Stg) : Nat := if g.length = 0 then 12 else if 16 < g.length then 5 else chkL [] g

/-- The greatest rest of what needs a name. -/
def mxR (n : Str) : List (Stg × Int) → Int
  | [] => 0
  | (s, r) :: l => if n ∈ s.inputs then max r (mxR n l) else mxR n l
/-- The rest of each stage. -/
def rests : List Stg → List Int
  | [] => []
  | s :: t => (s.cost + mxR s.name (t.zip (rests t))) :: rests t
theorem rests_len : ∀ (g : List Stg), (rests g).length = g.length
  | [] => rfl
  | s :: t => by simp [rests, rests_len t]
theorem rests_drop : ∀ (g : List Stg) (k : Nat), rests (g.drop k) = (rests g).drop k
  | [], k => by simp [rests]
  | s :: t, 0 => rfl
  | s :: t, k + 1 => by simp only [List.drop_succ_cons, rests, rests_drop t k]
theorem rests_at {g : List Stg} {k : Nat} {s : Stg} (h : g[k]? = some s) : (rests g)[k]? = some (s.cost + mxR s.name ((g.drop (k + 1)).zip ((rests g).drop (k + 1)))) := by
  have h1 : g.drop k = s :: g.drop (k + 1) := by
    obtain ⟨hk, hs⟩ := List.getElem?_eq_some_iff.1 h
    rw [← hs]; exact List.drop_eq_getElem_cons hk
  have h2 := rests_drop g k
  rw [h1, rests, rests_drop] at h2
  have : (rests g)[k]? = ((rests g).drop k)[0]? := by simp
  rw [this, ← h2]; rfl

/-- Short strings, few stages. -/
def shortS (s : Stg) : Bool := decide (s.name.length ≤ 40 ∧ s.op.length ≤ 40 ∧ s.factor.length ≤ 20 ∧ (s.inputs.length ≤ 5 ∨ s.inputs.length = 17)) && s.inputs.all fun n => decide (n.length ≤ 40)
def shortG (g : List Stg) : Bool := decide (g.length ≤ 6 ∨ g.length = 17) && g.all shortS

end Go.Mx
/- Characters of a string, one after the other. -/
namespace Go.Mx
open Go

theorem utf_at {s : Str} {p : Nat} {c : UInt8} (h : s[p]? = some c) : (ByteArray.mk s.toArray).get! p = c := by
  obtain ⟨hp, he⟩ := List.getElem?_eq_some_iff.1 h
  show s.toArray[p]! = c
  simp [hp, he]
theorem dec_lo {s : Str} {p : Nat} {c : UInt8} (h : s[p]? = some c) (hc : c.toNat < 128) : Utf8.decode ⟨s.toArray⟩ p = (c.toNat, 1) := by
  unfold Utf8.decode
  simp only [Nat.add_zero, utf_at h]
  rw [if_pos hc]
theorem dec_hi {s : Str} {p : Nat} {c : UInt8} (h : s[p]? = some c) (hc : 128 ≤ c.toNat) : 128 ≤ (Utf8.decode ⟨s.toArray⟩ p).1 := by
  unfold Utf8.decode
  simp only [Nat.add_zero, utf_at h, Utf8.runeError]
  rw [if_neg (by omega)]
  split
  · split
    · rename_i h; exact h
    · exact (by decide)
  · split
    · split
      · rename_i h; simp at h; show 128 ≤ _; omega
      · exact (by decide)
    · split
      · split
        · rename_i h; simp at h; show 128 ≤ _; omega
        · exact (by decide)
      · exact (by decide)

def runeI (s : Str) (p : Nat) : Int := (Utf8.decode ⟨s.toArray⟩ p).1
def runeW (s : Str) (p : Nat) : Nat := (Utf8.decode ⟨s.toArray⟩ p).2
theorem rune_lo {s : Str} {p : Nat} {c : UInt8} (h : s[p]? = some c) (hc : u8I c < 128) : runeI s p = u8I c ∧ runeW s p = 1 := by
  unfold runeI runeW
  rw [dec_lo h (by unfold u8I at hc; omega)]
  exact ⟨rfl, rfl⟩
theorem rune_hi {s : Str} {p : Nat} {c : UInt8} (h : s[p]? = some c) (hc : 128 ≤ u8I c) : 128 ≤ runeI s p := by
  unfold runeI
  have := dec_hi h (by unfold u8I at hc; omega)
  omega
def nextK2 (i : Nat) (st : St) : Option (Str × Nat) → Option (V × St)
  | some (s, p) => if p < s.length then some (.tup [.bool true, .int .i64 p, .int .i32 (Utf8.decode ⟨s.toArray⟩ p).1], st.write i (.siter s (p + (Utf8.decode ⟨s.toArray⟩ p).2))) else some (.tup [.bool false], st)
  | none => none
def siterO : Option O → Option (Str × Nat)
  | some (.siter s p) => some (s, p)
  | _ => none
def nextK (st : St) : Option V → Option (V × St)
  | some (.ptr i 0) => nextK2 i st (siterO (st.h.get i))
  | _ => none
theorem op_nextStr_K {x : Src} {call : CallT} {r : T V} {st : St} : op_nextStr x call r st = nextK st (x.ev r) := by
  unfold op_nextStr nextK
  rcases x.ev r with _ | v
  · rfl
  · cases v <;> try rfl
    rename_i i o
    cases o with
    | zero =>
      simp only [siterO, nextK2]
      rcases st.h.get i with _ | o
      · rfl
      · cases o <;> rfl
    | succ => rfl
theorem nextK_some {st : St} {i : Nat} : nextK st (some (.ptr i 0)) = nextK2 i st (siterO (st.h.get i)) := rfl
theorem siterO_some {s : Str} {p : Nat} : siterO (some (.siter s p)) = some (s, p) := rfl
theorem nextK2_in {i : Nat} {st : St} {s : Str} {p : Nat} (h : p < s.length) : nextK2 i st (some (s, p)) = some (.tup [.bool true, .int .i64 p, .int .i32 (runeI s p)], st.write i (.siter s (p + runeW s p))) := by simp [nextK2, h, runeI, runeW]
theorem nextK2_end {i : Nat} {st : St} {s : Str} : nextK2 i st (some (s, s.length)) = some (.tup [.bool false], st) := by simp [nextK2]
def sliceSK (st : St) : Option V → Option (Option V) → Option (Option V) → Option (V × St)
  | some (.str s), some lo, some hi => match boundO hi s.length s.length with
      | some h => match boundO lo h 0 with
        | some l => some (.str ((s.take h).drop l), st)
        | none => none
      | none => none
  | _, _, _ => none
theorem op_sliceStr_K {x : Src} {lo hi : Option Src} {call : CallT} {r : T V} {st : St} : op_sliceStr x lo hi call r st = sliceSK st (x.ev r) (evOpt r lo) (evOpt r hi) := by
  unfold op_sliceStr sliceSK; rfl
theorem sliceSK_lo {st : St} {s : Str} {k : IntKind} {j : Int} (h0 : 0 ≤ j) (h1 : j ≤ s.length) : sliceSK st (some (.str s)) (some (some (.int k j))) (some none) = some (.str (s.drop j.toNat), st) := by
  simp [sliceSK, boundO, bound, h0, h1]
theorem sliceSK_hi {st : St} {s : Str} {k : IntKind} {j : Int} (h0 : 0 ≤ j) (h1 : j ≤ s.length) : sliceSK st (some (.str s)) (some none) (some (some (.int k j))) = some (.str (s.take j.toNat), st) := by
  simp [sliceSK, boundO, bound, h0, h1]
theorem sliceSK_lh {st : St} {s : Str} {k k' : IntKind} {i j : Int} (h0 : 0 ≤ i) (h1 : i ≤ j) (h2 : j ≤ s.length) : sliceSK st (some (.str s)) (some (some (.int k i))) (some (some (.int k' j))) = some (.str ((s.take j.toNat).drop i.toNat), st) := by
  have h3 : 0 ≤ j := by omega
  have h4 : max j 0 = j := by omega
  simp [sliceSK, boundO, bound, h0, h1, h2, h3, h4]
def bytesV (s : Str) : List V := s.map fun b => .int .u8 (u8I b)
theorem bytesV_len (s : Str) : (bytesV s).length = s.length := by simp [bytesV]
theorem bytesV_get {s : Str} {k : Nat} {c : UInt8} (h : s[k]? = some c) : (bytesV s)[k]? = some (.int .u8 (u8I c)) := by simp [bytesV, h]
def sbK (elem : TypeId) (st : St) : Option V → Option (V × St)
  | some (.str s) => some (.slice st.n 0 s.length none 1, st.alloc (.cells (bytesV s) elem true))
  | _ => none
theorem op_strBytes_K {elem : TypeId} {x : Src} {call : CallT} {r : T V} {st : St} : op_strBytes elem x call r st = sbK elem st (x.ev r) := by
  unfold op_strBytes sbK; rfl
theorem sbK_some {elem : TypeId} {st : St} {s : Str} : sbK elem st (some (.str s)) = some (.slice st.n 0 s.length none 1, st.alloc (.cells (bytesV s) elem true)) := rfl
attribute [simp] op_strBytes_K sbK_some bytesV_len op_nextStr_K nextK_some siterO_some nextK2_in nextK2_end op_sliceStr_K sliceSK_lo sliceSK_hi sliceSK_lh op_rangeStr

theorem idxByte_slash : ∀ (s : Str) (i : Nat), idxByte 47 s i = if slashAt s < s.length then ((i + slashAt s : Nat) : Int) else -1
  | [], i => rfl
  | c :: s, i => by
    simp only [idxByte, slashAt]
    have e : (c == 47) = decide (c.toNat = 47) := by
      rw [Bool.eq_iff_iff]
      simp only [beq_iff_eq, decide_eq_true_eq]
      exact ⟨fun h => by rw [h]; rfl, fun h => UInt8.toNat_inj.1 h⟩
    rw [e]
    by_cases h : c.toNat = 47
    · simp [h]
    · simp only [h, decide_false, if_false, Bool.false_eq_true, idxByte_slash s (i + 1), List.length_cons]
      by_cases h2 : slashAt s < s.length
      · rw [if_pos h2, if_pos (by omega)]; omega
      · rw [if_neg h2, if_neg (by omega)]

end Go.Mx
/- Long division by digits: the guess of a digit is right, or one too great. -/
namespace Go.Mx

/-- What a guess t must have: the quotient, or one more. -/
theorem kn_exit {b u1 u2 U' v1 v2 V' P t r : Nat} (hP : 0 < P) (hv1 : 0 < v1) (hV' : V' < P) (ht : t ≤ b) (hinv : u1 = t * v1 + r) (hc : t * v2 ≤ r * b + u2) :
    t = 0 ∨ (t - 1) * (v1 * (b * P) + v2 * P + V') ≤ u1 * (b * P) + u2 * P + U' := by
  cases t with
  | zero => exact .inl rfl
  | succ t =>
    right
    simp only [Nat.add_sub_cancel]
    subst hinv
    have h1 : t * V' ≤ b * P := by
      have : t * V' ≤ b * P := Nat.mul_le_mul (by omega) (by omega)
      exact this
    have h2 : b * P ≤ v1 * (b * P) := Nat.le_mul_of_pos_left _ hv1
    have h3 : (t + 1) * v2 * P ≤ (r * b + u2) * P := Nat.mul_le_mul_right P hc
    have h4 : t * (v1 * (b * P) + v2 * P + V') = t * v1 * (b * P) + t * v2 * P + t * V' := by grind
    have h5 : ((t + 1) * v1 + r) * (b * P) + u2 * P + U' = t * v1 * (b * P) + v1 * (b * P) + (r * b + u2) * P + U' := by grind
    have h6 : (t + 1) * v2 * P = t * v2 * P + v2 * P := by grind
    rw [h4, h5]
    omega
/-- One less, if it is too great. -/
theorem kn_step {b u1 u2 U' v1 v2 V' P t r : Nat} (hU' : U' < P) (hinv : u1 = t * v1 + r) (hc : r * b + u2 < t * v2) :
    u1 * (b * P) + u2 * P + U' < t * (v1 * (b * P) + v2 * P + V') := by
  subst hinv
  have h3 : (r * b + u2 + 1) * P ≤ t * v2 * P := Nat.mul_le_mul_right P hc
  have h4 : t * (v1 * (b * P) + v2 * P + V') = t * v1 * (b * P) + t * v2 * P + t * V' := by grind
  have h5 : (t * v1 + r) * (b * P) + u2 * P + U' = t * v1 * (b * P) + (r * b + u2) * P + U' := by grind
  have h6 : (r * b + u2 + 1) * P = (r * b + u2) * P + P := by grind
  rw [h4, h5]
  omega

end Go.Mx
