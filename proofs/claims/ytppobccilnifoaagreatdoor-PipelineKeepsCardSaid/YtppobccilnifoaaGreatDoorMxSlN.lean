/-
  Slices whose elements have several cells; lists that are made by append.
-/
import Derived.Test.YtppobccilnifoaaGreatDoorMxWord
set_option linter.all false
namespace Go.Mx
open Go
theorem slc_some {α : Type} {c : List α} {o n : Nat} {x : List α} (h : slc c o n = some x) : o + n ≤ c.length ∧ x = (c.drop o).take n := by
 unfold slc at h
 split at h
 ·rename_i hl; simp at h; exact ⟨hl, h.symm⟩
 ·cases h
theorem slc_get {α : Type} {c : List α} {o n : Nat} {x : List α} (h : slc c o n = some x) {f : Nat} (hf : f < n) : c[o + f]? = x[f]? := by
 obtain ⟨_, rfl⟩ := slc_some h
 rw [List.getElem?_take, if_pos hf, List.getElem?_drop]
theorem partV_slc {c : List V} {o n : Nat} {x : List V} (h : slc c o n = some x) : partV c o (some n) = some (.agg x) := by
 simp [partV, h]
def Sn (z : Nat) (h : T O) (N : Nat) (v : V) (l : List (List V)) : Prop :=
 (l = [] ∧ (v = .nilslice ∨ v = .empty)) ∨ ∃ i o cp c e rw, v = .slice i o l.length cp z ∧ i < N ∧ h.get i = some (.cells c e rw) ∧ (∀ j x, l[j]? = some x → slc c (o + j * z) z = some x) ∧ o + l.length * z ≤ c.length ∧ ∀ k, cp = some k → l.length ≤ k
theorem Sn.nil {z : Nat} {h : T O} {N : Nat} : Sn z h N .nilslice [] := .inl ⟨rfl, .inl rfl⟩
theorem Sn.keep {z : Nat} {h h' : T O} {N N' : Nat} {v : V} {l : List (List V)} (s : Sn z h N v l) (k : Keeps h N h' N') : Sn z h' N' v l := by
 rcases s with s | ⟨i, o, cp, c, e, rw, h1, h2, h3, h4⟩
 ·exact .inl s
 ·exact .inr ⟨i, o, cp, c, e, rw, h1, Nat.lt_of_lt_of_le h2 k.le, (k.get i h2).trans h3, h4⟩
theorem Sn.len {z : Nat} {h : T O} {N : Nat} {v : V} {l : List (List V)} (s : Sn z h N v l) : lenV v = some l.length := by
 rcases s with ⟨rfl, rfl | rfl⟩ | ⟨i, o, cp, c, e, rw, rfl, _⟩ <;> rfl
theorem Sn.at {z : Nat} {h : T O} {N : Nat} {v : V} {l : List (List V)} (s : Sn z h N v l) {j : Nat} {x : List V} (hj : l[j]? = some x) : ∃ i o c e rw, baseV v = some (i, o) ∧ i < N ∧ h.get i = some (.cells c e rw) ∧ slc c (o + j * z) z = some x := by
 have hl : j < l.length := by
  apply Nat.lt_of_not_le; intro hc; rw [List.getElem?_eq_none hc] at hj; cases hj
 rcases s with ⟨rfl, _⟩ | ⟨i, o, cp, c, e, rw, rfl, h2, h3, h4, _⟩
 ·simp at hl
 ·exact ⟨i, o, c, e, rw, rfl, h2, h3, h4 j x hj⟩
theorem sliceK_sn {z : Nat} (hz : 0 < z) {h : T O} {N : Nat} {v : V} {l : List (List V)} {w : List Nat} (s : Sn z h N v l) {lo hi : Nat} (h1 : lo ≤ hi) (h2 : hi ≤ l.length) (x y : Option V) (hx : x = some (.int .i64 lo) ∨ x = none ∧ lo = 0) (hy : y = some (.int .i64 hi) ∨ y = none ∧ hi = l.length) :
  ∃ v', sliceK ⟨h, N, w⟩ z (some v) (some x) (some y) (some none) = some (v', ⟨h, N, w⟩) ∧ Sn z h N v' ((l.take hi).drop lo) := by
 rcases s with ⟨rfl, rfl | rfl⟩ | ⟨i, o, cp, c, e, rw, rfl, q2, q3, q4, q5, q6⟩
 ·have : hi = 0 := by simpa using h2
  subst this
  have : lo = 0 := by omega
  subst this
  refine ⟨.nilslice, ?_, .inl ⟨rfl, .inl rfl⟩⟩
  rcases hx with rfl | ⟨rfl, _⟩ <;> rcases hy with rfl | ⟨rfl, _⟩ <;> simp [sliceK, op_sliceSl, evOpt, boundO, bound]
 ·have : hi = 0 := by simpa using h2
  subst this
  have : lo = 0 := by omega
  subst this
  refine ⟨.empty, ?_, .inl ⟨rfl, .inr rfl⟩⟩
  rcases hx with rfl | ⟨rfl, _⟩ <;> rcases hy with rfl | ⟨rfl, _⟩ <;> simp [sliceK, op_sliceSl, evOpt, boundO, bound]
 ·have hlen : ((l.take hi).drop lo).length = hi - lo := by simp; omega
  have hget : ∀ j u, ((l.take hi).drop lo)[j]? = some u → slc c (o + lo * z + j * z) z = some u := fun j u hu => by
   have hj : j < hi - lo := by
    rw [← hlen]; apply Nat.lt_of_not_le; intro hc; rw [List.getElem?_eq_none hc] at hu; cases hu
   rw [List.getElem?_drop, List.getElem?_take, if_pos (by omega)] at hu
   have := q4 _ _ hu
   rw [show o + lo * z + j * z = o + (lo + j) * z by rw [Nat.add_mul]; omega]
   exact this
  have hmul : lo * z + (hi - lo) * z ≤ l.length * z := by
   rw [← Nat.add_mul]; exact Nat.mul_le_mul_right _ (by omega)
  have b1 : ∀ m, hi ≤ m → boundO y m l.length = some hi := fun m hm => by
   rcases hy with rfl | ⟨rfl, rfl⟩
   ·simp [boundO, bound]; omega
   ·rfl
  have b2 : boundO x hi 0 = some lo := by
   rcases hx with rfl | ⟨rfl, rfl⟩
   ·simp [boundO, bound]; omega
   ·rfl
  cases cp with
  | some k =>
   have hk := q6 k rfl
   refine ⟨.slice i (if k = lo then o else o + lo * z) (hi - lo) (some (k - lo)) z, ?_, ?_⟩
   ·have b0 : boundO none k k = some k := rfl
    simp only [sliceK, op_sliceSl, evOpt_const, Src.ev]
    simp [b0, b1 k (by omega), b2]
   ·by_cases hkl : k = lo
    ·have h0 : (l.take hi).drop lo = [] := List.eq_nil_of_length_eq_zero (by rw [hlen]; omega)
     refine .inr ⟨i, o, some (k - lo), c, e, rw, ?_, q2, q3, fun j u hu => by rw [h0] at hu; simp at hu, by rw [h0]; simp; omega, fun k' hk' => by rw [h0]; simp⟩
     rw [hlen, if_pos hkl]
    ·refine .inr ⟨i, o + lo * z, some (k - lo), c, e, rw, ?_, q2, q3, hget, by rw [hlen]; omega, fun k' hk' => by simp at hk'; rw [hlen]; omega⟩
     rw [hlen, if_neg hkl]
  | none =>
   have hlz : l.length ≤ (c.length - o) / z := by
    rw [Nat.le_div_iff_mul_le hz]; omega
   have hk : hi ≤ max l.length ((c.length - o) / z) := by omega
   have hz0 : z ≠ 0 := by omega
   by_cases hlt : lo < max l.length ((c.length - o) / z)
   ·refine ⟨.slice i (o + lo * z) (hi - lo) none z, ?_, .inr ⟨i, o + lo * z, none, c, e, rw, by rw [hlen], q2, q3, hget, by rw [hlen]; omega, fun k' hk' => by cases hk'⟩⟩
    simp only [sliceK, op_sliceSl, evOpt_const, Src.ev, St.row, q3]
    simp [b1 _ hk, b2, hlt, hz0]
   ·refine ⟨.empty, ?_, .inl ⟨List.eq_nil_of_length_eq_zero (by rw [hlen]; omega), .inr rfl⟩⟩
    simp only [sliceK, op_sliceSl, evOpt_const, Src.ev, St.row, q3]
    simp [b1 _ hk, b2, hlt, hz0]
theorem Sn.one {h : T O} {N : Nat} {v : V} {l : List V} : Sn 1 h N v (l.map fun x => [x]) ↔ Sl h N v l := by
 unfold Sn Sl
 constructor
 ·rintro (⟨h1, h2⟩ | ⟨i, o, cp, c, e, rw, h1, h2, h3, h4, h5, h6⟩)
  ·exact .inl ⟨by simpa using h1, h2⟩
  ·refine .inr ⟨i, o, cp, c, e, rw, by simpa using h1, h2, h3, fun j hj => ?_, by simpa using h5, by simpa using h6⟩
   have := h4 j [l[j]] (by simp [List.getElem?_eq_getElem hj])
   have := slc_get this (f := 0) (by omega)
   simp at this
   rw [this, List.getElem?_eq_getElem hj]
 ·rintro (⟨h1, h2⟩ | ⟨i, o, cp, c, e, rw, h1, h2, h3, h4, h5, h6⟩)
  ·exact .inl ⟨by simpa using h1, h2⟩
  ·refine .inr ⟨i, o, cp, c, e, rw, by simpa using h1, h2, h3, fun j x hj => ?_, by simpa using h5, by simpa using h6⟩
   simp at hj
   obtain ⟨u, hu, rfl⟩ := hj
   have hl : j < l.length := by
    apply Nat.lt_of_not_le; intro hc; rw [List.getElem?_eq_none hc] at hu; cases hu
   have := h4 j hl
   rw [hu] at this
   have hc : o + j < c.length := by omega
   unfold slc
   rw [if_pos (by omega), Nat.mul_one, List.drop_eq_getElem_cons hc]
   rw [List.getElem?_eq_getElem hc] at this
   simp at this
   simp [this]
def Own (z : Nat) (e : TypeId) (N0 : Nat) (h : T O) (N : Nat) (v : V) (l : List (List V)) : Prop :=
 (∀ x ∈ l, x.length = z) ∧ ((l = [] ∧ v = .nilslice) ∨ ∃ i, v = .slice i 0 l.length none z ∧ N0 ≤ i ∧ i < N ∧ h.get i = some (.cells l.flatten e true))
theorem Own.nil {z : Nat} {e : TypeId} {N0 : Nat} {h : T O} {N : Nat} : Own z e N0 h N .nilslice [] := ⟨fun _ h => by simp at h, .inl ⟨rfl, rfl⟩⟩
theorem Own.keep {z : Nat} {e : TypeId} {N0 : Nat} {h h' : T O} {N N' : Nat} {v : V} {l : List (List V)} (s : Own z e N0 h N v l) (k : Keeps h N h' N') : Own z e N0 h' N' v l := by
 obtain ⟨hl, s | ⟨i, h1, h2, h3, h4⟩⟩ := s
 ·exact ⟨hl, .inl s⟩
 ·exact ⟨hl, .inr ⟨i, h1, h2, Nat.lt_of_lt_of_le h3 k.le, (k.get i h3).trans h4⟩⟩
theorem Own.len {z : Nat} {e : TypeId} {N0 : Nat} {h : T O} {N : Nat} {v : V} {l : List (List V)} (s : Own z e N0 h N v l) : lenV v = some l.length := by
 obtain ⟨_, ⟨rfl, rfl⟩ | ⟨i, rfl, _⟩⟩ := s <;> rfl
theorem flatten_len {z : Nat} : ∀ {l : List (List V)}, (∀ x ∈ l, x.length = z) → l.flatten.length = l.length * z
 | [], _ => by simp
 | x :: l, h => by
  have h1 := h x List.mem_cons_self
  have h2 := flatten_len (l := l) fun y hy => h y (List.mem_cons_of_mem _ hy)
  simp only [List.flatten_cons, List.length_append, h1, h2, List.length_cons, Nat.add_mul]; omega
theorem flatten_slc {z : Nat} : ∀ {l : List (List V)}, (∀ x ∈ l, x.length = z) → ∀ {j : Nat} {x : List V}, l[j]? = some x → slc l.flatten (j * z) z = some x
 | [], _, j, x, hj => by simp at hj
 | y :: l, h, 0, x, hj => by
  have h1 := h y List.mem_cons_self
  simp at hj; subst hj
  unfold slc
  simp [← h1]
 | y :: l, h, j + 1, x, hj => by
  have h1 := h y List.mem_cons_self
  have h2 := flatten_slc (l := l) (fun y hy => h y (List.mem_cons_of_mem _ hy)) (j := j) (x := x) (by simpa using hj)
  obtain ⟨h3, h4⟩ := slc_some h2
  unfold slc
  rw [if_pos (by simp only [List.flatten_cons, List.length_append, Nat.add_mul, h1]; omega), h4]
  congr 2
  rw [List.flatten_cons, Nat.add_mul, Nat.one_mul, Nat.add_comm, ← List.drop_drop, ← h1, List.drop_left]
theorem Own.sn {z : Nat} {e : TypeId} {N0 : Nat} {h : T O} {N : Nat} {v : V} {l : List (List V)} (s : Own z e N0 h N v l) : Sn z h N v l := by
 obtain ⟨hl, ⟨h1, h2⟩ | ⟨i, h1, h2, h3, h4⟩⟩ := s
 ·exact .inl ⟨h1, .inl h2⟩
 ·exact .inr ⟨i, 0, none, l.flatten, e, true, h1, h3, h4, fun j x hj => by rw [Nat.zero_add]; exact flatten_slc hl hj, by rw [flatten_len hl]; omega, fun k hk => by cases hk⟩
def appendK (st : St) (size bytes : Nat) (e : TypeId) : Option V → Option V → Option (V × St)
 | some s, some x => appendV st size bytes e s x
 | _, _ => none
theorem op_append_K {size bytes : Nat} {e : TypeId} {z : List V} {s x : Src} {call : CallT} {r : T V} {st : St} : op_append size bytes e z s x call r st = appendK st size bytes e (s.ev r) (x.ev r) := by
 unfold op_append appendK; rfl
theorem appendK_some {st : St} {size bytes : Nat} {e : TypeId} {s x : V} : appendK st size bytes e (some s) (some x) = appendV st size bytes e s x := rfl
attribute [simp] op_append_K appendK_some
theorem append_own {z : Nat} {e : TypeId} {N0 : Nat} {h : T O} {N : Nat} {v u : V} {l : List (List V)} {x : List V} {bytes : Nat} {w : List Nat} (s : Own z e N0 h N v l) (hN : N0 ≤ N) (hz : 0 < z) (hx : x.length = z)
  (hu : srcCells ⟨h, N, w⟩ z u = some (1, x)) (hb : (2 * (l.length + 1) + 1000) * bytes ≤ 281474976710656) :
  ∃ v' h' w', appendV ⟨h, N, w⟩ z bytes e v u = some (v', ⟨h', N + 1, w'⟩) ∧ oldIds N0 w' = oldIds N0 w ∧ Keeps h N0 h' (N + 1) ∧ (∀ j, h'.get j = h.get j ∨ j = N ∨ (∃ o n c q, v = .slice j o n c q)) ∧ Own z e N0 h' (N + 1) v' (l ++ [x]) := by
 obtain ⟨hl, s⟩ := s
 have hl' : ∀ y ∈ l ++ [x], y.length = z := fun y hy => by
  rcases List.mem_append.1 hy with hy | hy
  ·exact hl y hy
  ·simp at hy; rw [hy, hx]
 have hz0 : z ≠ 0 := by omega
 rcases s with ⟨rfl, rfl⟩ | ⟨i, rfl, h2, h3, h4⟩
 ·refine ⟨.slice N 0 1 none z, h.set N (.cells x e true), w, ?_, rfl, ⟨by omega, fun j hj => by rw [T.get_set, if_neg (by omega)]⟩, fun j => by rw [T.get_set]; by_cases hj : j = N <;> simp [hj], hl', .inr ⟨N, by simp, hN, by omega, by rw [T.get_set]; simp⟩⟩
  have hb' : (2 * 1 + 1000) * bytes ≤ 281474976710656 := by simpa using hb
  simp only [appendV, hu, maxBytes, St.alloc]
  simp [hb', hz0]
 ·have hfl := flatten_len hl
  refine ⟨.slice N 0 (l.length + 1) none z, (h.set i .dead).set N (.cells (l.flatten ++ x) e true), i :: w, ?_, by simp [oldIds, Nat.not_lt.2 h2], ⟨by omega, fun j hj => by rw [T.get_set, if_neg (by omega), T.get_set, if_neg (by omega)]⟩, fun j => ?_, hl', .inr ⟨N, by simp, hN, by omega, by rw [T.get_set]; simp⟩⟩
  ·simp only [appendV, hu, maxBytes, St.row, h4]
   rw [if_neg (by omega), if_neg (by rintro (h | h | h) <;> omega)]
   simp only [if_true]
   rw [if_neg (by rw [hfl, Nat.add_mul]; omega), if_pos ⟨by rw [hfl]; omega, trivial, trivial⟩]
   rfl
  ·by_cases hj : j = N
   ·exact .inr (.inl hj)
   ·by_cases hj2 : j = i
    ·exact .inr (.inr ⟨0, l.length, none, z, by rw [hj2]⟩)
    ·left; rw [T.get_set, if_neg hj, T.get_set, if_neg hj2]
end Go.Mx
namespace Go.Mx
open Go
abbrev Str := List UInt8
def digC (c : UInt8) : Bool := decide (48 ≤ c.toNat ∧ c.toNat ≤ 57)
def isDec : Str → Bool
 | [] => false
 | c :: s => (c :: s).all digC && (decide (c.toNat ≠ 48) || decide (s = []))
def slashAt : Str → Nat
 | [] => 0
 | c :: s => if c.toNat = 47 then 0 else slashAt s + 1
def numV (s : Str) : Nat := s.foldl (fun n c => 10 * n + (c.toNat - 48)) 0
def negS : Str → Bool
 | [] => false
 | c :: _ => decide (c.toNat = 45)
def bodyS (s : Str) : Str := if negS s then s.drop 1 else s
def formS (neg : Bool) (p : Str) (broken : Bool) (d : Str) : Bool := isDec p && !(neg && decide (p = [48])) && (!broken || (isDec d && decide (d ≠ [48]) && decide (d ≠ [49])))
def chkP (neg : Bool) (p : Str) (broken : Bool) (d : Str) : Nat :=
 if formS neg p broken d = false then 1 else if 600 < p.length ∨ 600 < d.length then 4 else if broken = true ∧ Nat.gcd (numV p) (numV d) ≠ 1 then 1 else 0
def chkB (neg : Bool) (t : Str) : Nat := chkP neg (t.take (slashAt t)) (decide (slashAt t < t.length)) (t.drop (slashAt t + 1))
def chkNum (s : Str) : Nat := chkB (negS s) (bodyS s)
theorem slashAt_le : ∀ (s : Str), slashAt s ≤ s.length
 | [] => Nat.le_refl _
 | c :: s => by
  have := slashAt_le s
  simp only [slashAt, List.length_cons]
  split <;> omega
structure Stg where
 name : Str
 op : Str
 factor : Str
 inputs : List Str
 cost : Int
def pos : List Stg → Str → Nat
 | [], _ => 0
 | s :: g, n => if s.name = n then 0 else pos g n + 1
structure Opn where
 factor : Bool
 lo : Nat
 hi : Nat
end Go.Mx
namespace Go.Mx
open Go
def runeI (s : Str) (p : Nat) : Int := (Utf8.decode ⟨s.toArray⟩ p).1
def runeW (s : Str) (p : Nat) : Nat := (Utf8.decode ⟨s.toArray⟩ p).2
def nextK2 (i : Nat) (st : St) : Option (Str × Nat) → Option (V × St)
 | some (s, p) => if p < s.length then some (.tup [.bool true, .int .i64 p, .int .i32 (Utf8.decode ⟨s.toArray⟩ p).1], st.write i (.siter s (p + (Utf8.decode ⟨s.toArray⟩ p).2))) else some (.tup [.bool false], st)
 | none => none
def siterO : Option O → Option (Str × Nat)
 | some (.siter s p) => some (s, p)
 | _ => none
def nextK (st : St) : Option V → Option (V × St)
 | some (.ptr i 0) => nextK2 i st (siterO (st.h.get i))
 | _ => none
theorem op_nextStr_K {x : Src} {call : CallT} {r : T V} {st : St} : op_nextStr x call r st = nextK st (x.ev r) := by
 unfold op_nextStr nextK
 rcases x.ev r with _ | v
 ·rfl
 ·cases v <;> try rfl
  rename_i i o
  cases o with
  | zero =>
   simp only [siterO, nextK2]
   rcases st.h.get i with _ | o
   ·rfl
   ·cases o <;> rfl
  | succ => rfl
theorem nextK_some {st : St} {i : Nat} : nextK st (some (.ptr i 0)) = nextK2 i st (siterO (st.h.get i)) := rfl
theorem siterO_some {s : Str} {p : Nat} : siterO (some (.siter s p)) = some (s, p) := rfl
theorem nextK2_in {i : Nat} {st : St} {s : Str} {p : Nat} (h : p < s.length) : nextK2 i st (some (s, p)) = some (.tup [.bool true, .int .i64 p, .int .i32 (runeI s p)], st.write i (.siter s (p + runeW s p))) := by simp [nextK2, h, runeI, runeW]
theorem nextK2_end {i : Nat} {st : St} {s : Str} : nextK2 i st (some (s, s.length)) = some (.tup [.bool false], st) := by simp [nextK2]
def sliceSK (st : St) : Option V → Option (Option V) → Option (Option V) → Option (V × St)
 | some (.str s), some lo, some hi => match boundO hi s.length s.length with
   | some h => match boundO lo h 0 with
    | some l => some (.str ((s.take h).drop l), st)
    | none => none
   | none => none
 | _, _, _ => none
theorem op_sliceStr_K {x : Src} {lo hi : Option Src} {call : CallT} {r : T V} {st : St} : op_sliceStr x lo hi call r st = sliceSK st (x.ev r) (evOpt r lo) (evOpt r hi) := by
 unfold op_sliceStr sliceSK; rfl
theorem sliceSK_lo {st : St} {s : Str} {k : IntKind} {j : Int} (h0 : 0 ≤ j) (h1 : j ≤ s.length) : sliceSK st (some (.str s)) (some (some (.int k j))) (some none) = some (.str (s.drop j.toNat), st) := by
 simp [sliceSK, boundO, bound, h0, h1]
theorem sliceSK_hi {st : St} {s : Str} {k : IntKind} {j : Int} (h0 : 0 ≤ j) (h1 : j ≤ s.length) : sliceSK st (some (.str s)) (some none) (some (some (.int k j))) = some (.str (s.take j.toNat), st) := by
 simp [sliceSK, boundO, bound, h0, h1]
theorem sliceSK_lh {st : St} {s : Str} {k k' : IntKind} {i j : Int} (h0 : 0 ≤ i) (h1 : i ≤ j) (h2 : j ≤ s.length) : sliceSK st (some (.str s)) (some (some (.int k i))) (some (some (.int k' j))) = some (.str ((s.take j.toNat).drop i.toNat), st) := by
 have h3 : 0 ≤ j := by omega
 have h4 : max j 0 = j := by omega
 simp [sliceSK, boundO, bound, h0, h1, h2, h3, h4]
def bytesV (s : Str) : List V := s.map fun b => .int .u8 (u8I b)
theorem bytesV_len (s : Str) : (bytesV s).length = s.length := by simp [bytesV]
theorem bytesV_get {s : Str} {k : Nat} {c : UInt8} (h : s[k]? = some c) : (bytesV s)[k]? = some (.int .u8 (u8I c)) := by simp [bytesV, h]
def sbK (elem : TypeId) (st : St) : Option V → Option (V × St)
 | some (.str s) => some (.slice st.n 0 s.length none 1, st.alloc (.cells (bytesV s) elem true))
 | _ => none
theorem op_strBytes_K {elem : TypeId} {x : Src} {call : CallT} {r : T V} {st : St} : op_strBytes elem x call r st = sbK elem st (x.ev r) := by
 unfold op_strBytes sbK; rfl
theorem sbK_some {elem : TypeId} {st : St} {s : Str} : sbK elem st (some (.str s)) = some (.slice st.n 0 s.length none 1, st.alloc (.cells (bytesV s) elem true)) := rfl
attribute [simp] op_strBytes_K sbK_some bytesV_len op_nextStr_K nextK_some siterO_some nextK2_in nextK2_end op_sliceStr_K sliceSK_lo sliceSK_hi sliceSK_lh op_rangeStr
theorem idxByte_slash : ∀ (s : Str) (i : Nat), idxByte 47 s i = if slashAt s < s.length then ((i + slashAt s : Nat) : Int) else -1
 | [], i => rfl
 | c :: s, i => by
  simp only [idxByte, slashAt]
  have e : (c == 47) = decide (c.toNat = 47) := by
   rw [Bool.eq_iff_iff]
   simp only [beq_iff_eq, decide_eq_true_eq]
   exact ⟨fun h => by rw [h]; rfl, fun h => UInt8.toNat_inj.1 h⟩
  rw [e]
  by_cases h : c.toNat = 47
  ·simp [h]
  ·simp only [h, decide_false, if_false, Bool.false_eq_true, idxByte_slash s (i + 1), List.length_cons]
   by_cases h2 : slashAt s < s.length
   ·rw [if_pos h2, if_pos (by omega)]; omega
   ·rw [if_neg h2, if_neg (by omega)]
end Go.Mx
namespace Go.Mx
end Go.Mx
namespace Go.Mx
open Go
def vI : List Int → Int
 | [] => 0
 | d :: l => d + 1000000000 * vI l
def pI (k : Nat) : Int := 1000000000 ^ k
theorem pI_succ (k : Nat) : pI (k + 1) = 1000000000 * pI k := by unfold pI; rw [Int.pow_succ, Int.mul_comm]
theorem pI_zero : pI 0 = 1 := rfl
theorem pI_pos (k : Nat) : 0 < pI k := by unfold pI; exact Int.pow_pos (by decide)
theorem pI_add (i j : Nat) : pI (i + j) = pI i * pI j := by unfold pI; exact Int.pow_add ..
theorem vI_append : ∀ (l m : List Int), vI (l ++ m) = vI l + pI l.length * vI m
 | [], m => by simp [vI, pI]
 | d :: l, m => by
  simp only [List.cons_append, vI, vI_append l m, List.length_cons, pI_succ]
  grind
theorem vI_snoc (l : List Int) (d : Int) : vI (l ++ [d]) = vI l + pI l.length * d := by simp [vI_append, vI]
theorem vI_zeros (n : Nat) : vI (List.replicate n 0) = 0 := by
 induction n with
 | zero => rfl
 | succ n ih => simp [List.replicate_succ, vI, ih]
theorem lt_of_get {α : Type} {l : List α} {k : Nat} {d : α} (h : l[k]? = some d) : k < l.length := by
 apply Nat.lt_of_not_le; intro hc; rw [List.getElem?_eq_none hc] at h; cases h
theorem vI_take_succ {l : List Int} {k : Nat} {d : Int} (h : l[k]? = some d) : vI (l.take (k + 1)) = vI (l.take k) + pI k * d := by
 have hk := lt_of_get h
 rw [List.take_add_one, h]
 simp only [Option.toList]
 rw [vI_snoc, List.length_take, Nat.min_eq_left (by omega)]
theorem vI_split (l : List Int) (k : Nat) (hk : k ≤ l.length) : vI l = vI (l.take k) + pI k * vI (l.drop k) := by
 have := vI_append (l.take k) (l.drop k)
 rw [List.take_append_drop, List.length_take, Nat.min_eq_left hk] at this
 exact this
theorem vI_set : ∀ {l : List Int} {k : Nat} {c : Int}, l[k]? = some c → ∀ (v : Int), vI (l.set k v) = vI l + pI k * (v - c)
 | [], k, c, h, v => by simp at h
 | d :: l, 0, c, h, v => by
  simp at h; subst h
  simp only [List.set_cons_zero, vI, pI_zero]; omega
 | d :: l, k + 1, c, h, v => by
  have := vI_set (l := l) (k := k) (c := c) (by simpa using h) v
  simp only [List.set_cons_succ, vI, this, pI_succ]
  grind
def Di (l : List Int) : Prop := ∀ d ∈ l, 0 ≤ d ∧ d < 1000000000
theorem Di.get {l : List Int} (h : Di l) {k : Nat} {d : Int} (hd : l[k]? = some d) : 0 ≤ d ∧ d < 1000000000 := h d (List.mem_of_getElem? hd)
theorem Di.set {l : List Int} (h : Di l) {k : Nat} {v : Int} (h0 : 0 ≤ v) (h1 : v < 1000000000) : Di (l.set k v) := fun d hd => by
 rcases List.mem_or_eq_of_mem_set hd with hd | rfl
 ·exact h d hd
 ·exact ⟨h0, h1⟩
theorem Di.app {l m : List Int} (h : Di l) (h' : Di m) : Di (l ++ m) := fun d hd => by
 rcases List.mem_append.1 hd with hd | hd
 ·exact h d hd
 ·exact h' d hd
theorem Di.one {v : Int} (h0 : 0 ≤ v) (h1 : v < 1000000000) : Di [v] := fun d hd => by simp at hd; subst hd; exact ⟨h0, h1⟩
theorem Di.nil : Di [] := fun d hd => by simp at hd
theorem Di.zeros (n : Nat) : Di (List.replicate n 0) := fun d hd => by rw [List.mem_replicate] at hd; rw [hd.2]; decide
theorem Di.take {l : List Int} (h : Di l) (k : Nat) : Di (l.take k) := fun d hd => h d (List.mem_of_mem_take hd)
theorem Di.drop {l : List Int} (h : Di l) (k : Nat) : Di (l.drop k) := fun d hd => h d (List.mem_of_mem_drop hd)
theorem vI_nn : ∀ {l : List Int}, Di l → 0 ≤ vI l
 | [], _ => Int.le_refl _
 | d :: l, h => by
  have h1 := h d List.mem_cons_self
  have h2 := vI_nn (l := l) fun e he => h e (List.mem_cons_of_mem _ he)
  simp only [vI]; omega
theorem vI_lt : ∀ {l : List Int}, Di l → vI l < pI l.length
 | [], _ => by decide
 | d :: l, h => by
  have h1 := h d List.mem_cons_self
  have h2 := vI_lt (l := l) fun e he => h e (List.mem_cons_of_mem _ he)
  simp only [vI, List.length_cons, pI_succ]; omega
theorem get_drop_cons {α : Type} {l : List α} {k : Nat} {d : α} (h : l[k]? = some d) : l.drop k = d :: l.drop (k + 1) := by
 obtain ⟨hk, hs⟩ := List.getElem?_eq_some_iff.1 h
 rw [← hs]; exact List.drop_eq_getElem_cons hk
def dI (l : List Int) : List V := l.map fun n => .int .i64 n
theorem dI_length (l : List Int) : (dI l).length = l.length := by simp [dI]
theorem dI_get {l : List Int} {j : Nat} {n : Int} (h : l[j]? = some n) : (dI l)[j]? = some (.int .i64 n) := by simp [dI, h]
attribute [simp] dI_length
theorem dI_set {l : List Int} {k : Nat} {v : Int} (h : k < l.length) : splice (dI l) k [.int .i64 v] = dI (l.set k v) := by
 unfold splice dI
 apply List.ext_getElem?
 intro j
 simp only [List.length_singleton, List.getElem?_map, List.getElem?_set]
 rw [List.append_assoc, List.getElem?_append, List.length_take, List.length_map]
 by_cases h1 : j < k
 ·rw [if_pos (by omega), List.getElem?_take, if_pos h1, List.getElem?_map, if_neg (by omega)]
 ·rw [if_neg (by omega)]
  by_cases h2 : j = k
  ·subst h2
   rw [show j - min j l.length = 0 by omega, if_pos rfl, if_pos h]; rfl
  ·rw [show j - min k l.length = (j - k - 1) + 1 by omega, if_neg (by omega)]
   simp only [List.singleton_append, List.getElem?_cons_succ, List.getElem?_drop, List.getElem?_map]
   rw [show k + 1 + (j - k - 1) = j by omega]
theorem dI_zeros {n : Nat} : zrep [.int .i64 0] n = dI (List.replicate n 0) := by rw [zrep_1]; simp [dI]
def trimI : List Int → List Int
 | [] => []
 | d :: l => match trimI l with
  | [] => if d = 0 then [] else [d]
  | t => d :: t
theorem trimI_zero : ∀ (l : List Int), trimI (l ++ [0]) = trimI l
 | [] => rfl
 | d :: l => by simp only [List.cons_append, trimI, trimI_zero l]
theorem trimI_last {d : Int} (hd : d ≠ 0) : ∀ (l : List Int), trimI (l ++ [d]) = l ++ [d]
 | [] => by simp [trimI, hd]
 | e :: l => by
  simp only [List.cons_append, trimI, trimI_last hd l]
  cases l <;> rfl
theorem trimI_len : ∀ (l : List Int), (trimI l).length ≤ l.length
 | [] => Nat.le_refl _
 | d :: l => by
  have ih := trimI_len l
  simp only [trimI]
  split
  ·split <;> simp
  ·simp only [List.length_cons]; omega
def ds (n : Nat) : List Int := if h : n = 0 then [] else ((n % 1000000000 : Nat) : Int) :: ds (n / 1000000000)
termination_by n
decreasing_by exact Nat.div_lt_self (by omega) (by decide)
theorem ds_zero : ds 0 = [] := by rw [ds]; simp
theorem ds_pos {n : Nat} (h : n ≠ 0) : ds n = ((n % 1000000000 : Nat) : Int) :: ds (n / 1000000000) := by rw [ds]; simp [h]
theorem ds_val : ∀ (n : Nat), vI (ds n) = n := by
 intro n
 induction n using Nat.strongRecOn with
 | _ n ih =>
  by_cases h : n = 0
  ·subst h; rw [ds_zero]; rfl
  ·rw [ds_pos h]
   simp only [vI]
   rw [ih (n / 1000000000) (Nat.div_lt_self (by omega) (by decide))]
   omega
theorem ds_di (n : Nat) : Di (ds n) := by
 induction n using Nat.strongRecOn with
 | _ n ih =>
  by_cases h : n = 0
  ·subst h; rw [ds_zero]; exact Di.nil
  ·rw [ds_pos h]
   intro d hd
   rcases List.mem_cons.1 hd with rfl | hd
   ·omega
   ·exact ih (n / 1000000000) (Nat.div_lt_self (by omega) (by decide)) d hd
theorem trimI_ds : ∀ {l : List Int}, Di l → trimI l = ds (vI l).toNat
 | [], _ => by simp [trimI, vI, ds_zero]
 | d :: l, h => by
  have hl : Di l := fun e he => h e (List.mem_cons_of_mem _ he)
  have ih := trimI_ds hl
  have hd := h d List.mem_cons_self
  have hn := vI_nn hl
  simp only [trimI, vI, ih]
  by_cases h0 : vI l = 0
  ·rw [h0]
   simp only [Int.toNat_zero, ds_zero, Int.mul_zero, Int.add_zero]
   by_cases hd0 : d = 0
   ·simp [hd0, ds_zero]
   ·rw [ds_pos (by omega), Nat.mod_eq_of_lt (by omega), Nat.div_eq_of_lt (by omega), ds_zero]; simp [hd0]; omega
  ·have h3 : (d + 1000000000 * vI l).toNat ≠ 0 := by omega
   rw [ds_pos h3]
   have h1 : (d + 1000000000 * vI l).toNat / 1000000000 = (vI l).toNat := by omega
   have h2 : (((d + 1000000000 * vI l).toNat % 1000000000 : Nat) : Int) = d := by omega
   rw [h1, h2]
   split
   ·rename_i hc; rw [ds_pos (by omega)] at hc; cases hc
   ·rfl
theorem trimI_eq {l : List Int} (h : Di l) {n : Nat} (hn : vI l = n) : trimI l = ds n := by rw [trimI_ds h, hn]; rfl
theorem ds_trim (n : Nat) : trimI (ds n) = ds n := trimI_eq (ds_di n) (ds_val n)
theorem ds_eq_nil {n : Nat} : ds n = [] ↔ n = 0 := by
 constructor
 ·intro h
  by_cases h0 : n = 0
  ·exact h0
  ·rw [ds_pos h0] at h; cases h
 ·intro h; rw [h, ds_zero]
theorem ds_last {n : Nat} (h : n ≠ 0) : ∃ d, (ds n)[(ds n).length - 1]? = some d ∧ 0 < d := by
 have hne : ds n ≠ [] := fun hc => h (ds_eq_nil.1 hc)
 obtain ⟨l, d, hd⟩ : ∃ l d, ds n = l ++ [d] := ⟨(ds n).dropLast, (ds n).getLast hne, (List.dropLast_concat_getLast hne).symm⟩
 refine ⟨d, by rw [hd, List.length_append, List.length_singleton]; simp, ?_⟩
 have h1 := ds_di n d (by rw [hd]; exact List.mem_append_right _ List.mem_cons_self)
 have : d ≠ 0 := fun h0 => by
  have h2 := ds_trim n
  rw [hd, h0, trimI_zero] at h2
  have := trimI_len l
  rw [h2] at this; simp at this; omega
 omega
theorem ds_len_lt {n k : Nat} (h : n < 1000000000 ^ k) : (ds n).length ≤ k := by
 induction k generalizing n with
 | zero =>
  have : n = 0 := by simpa using h
  rw [this, ds_zero]; simp
 | succ k ih =>
  by_cases h0 : n = 0
  ·rw [h0, ds_zero]; simp
  ·rw [ds_pos h0]
   have := ih (n := n / 1000000000) ((Nat.div_lt_iff_lt_mul (by decide)).2 (by rw [← Nat.pow_succ]; exact h))
   simp only [List.length_cons]; omega
def Dn (h : T O) (N : Nat) (v : V) (n : Nat) : Prop := Sl h N v (dI (ds n))
theorem Dn.keep {h h' : T O} {N N' : Nat} {v : V} {n : Nat} (s : Dn h N v n) (k : Keeps h N h' N') : Dn h' N' v n := Sl.keep s k
end Go.Mx
namespace Go.Mx
open Go
theorem kI_exit {P u1 u2 U' v1 v2 V' t r : Int} (hP : 0 < P) (hU' : 0 ≤ U') (hu2 : 0 ≤ u2) (hu1 : 0 ≤ u1) (hv1 : 0 < v1) (hv2 : 0 ≤ v2) (hV0 : 0 ≤ V') (hV' : V' < P) (h0 : 0 ≤ t) (ht : t ≤ 1000000000) (hinv : u1 = t * v1 + r) (hc : t * v2 ≤ r * 1000000000 + u2) :
  (t - 1) * (V' + P * (v2 + 1000000000 * v1)) ≤ U' + P * (u2 + 1000000000 * u1) := by
 by_cases ht0 : t = 0
 ·subst ht0
  have h1 : 0 ≤ P * (v2 + 1000000000 * v1) := Int.mul_nonneg (by omega) (by omega)
  have h2 : 0 ≤ P * (u2 + 1000000000 * u1) := Int.mul_nonneg (by omega) (by omega)
  omega
 ·have h1 : (t - 1) * V' ≤ 1000000000 * P := by
   have : (t - 1) * V' ≤ 1000000000 * V' := Int.mul_le_mul_of_nonneg_right (by omega) hV0
   omega
  have h2 : P * 1 ≤ P * v1 := Int.mul_le_mul_of_nonneg_left (by omega) (by omega)
  have h3 : P * (t * v2) ≤ P * (r * 1000000000 + u2) := Int.mul_le_mul_of_nonneg_left hc (by omega)
  have h4 : 0 ≤ P * v2 := Int.mul_nonneg (by omega) hv2
  have h5 : (t - 1) * (V' + P * (v2 + 1000000000 * v1)) = (t - 1) * V' + P * (t * v2) - P * v2 + 1000000000 * (P * (t * v1)) - 1000000000 * (P * v1) := by grind
  have h6 : U' + P * (u2 + 1000000000 * u1) = U' + P * (r * 1000000000 + u2) + 1000000000 * (P * (t * v1)) := by subst hinv; grind
  omega
theorem kI_step {P u1 u2 U' v1 v2 V' t r : Int} (hP : 0 < P) (hU' : U' < P) (hV0 : 0 ≤ V') (h0 : 0 ≤ t) (hinv : u1 = t * v1 + r) (hc : r * 1000000000 + u2 < t * v2) :
  U' + P * (u2 + 1000000000 * u1) < t * (V' + P * (v2 + 1000000000 * v1)) := by
 have h1 : 0 ≤ t * V' := Int.mul_nonneg h0 hV0
 have h3 : P * (r * 1000000000 + u2 + 1) ≤ P * (t * v2) := Int.mul_le_mul_of_nonneg_left (by omega) (by omega)
 have h5 : t * (V' + P * (v2 + 1000000000 * v1)) = t * V' + P * (t * v2) + 1000000000 * (P * (t * v1)) := by grind
 have h6 : U' + P * (u2 + 1000000000 * u1) = U' + P * (r * 1000000000 + u2 + 1) - P + 1000000000 * (P * (t * v1)) := by subst hinv; grind
 omega
theorem norm_half {x : Int} (h1 : 1 ≤ x) (h2 : x < 1000000000) : 500000000 ≤ x * (1000000000 / (x + 1)) := by
 have hd : (x + 1) * (1000000000 / (x + 1)) + 1000000000 % (x + 1) = 1000000000 := Int.mul_ediv_add_emod ..
 have hr : 1000000000 % (x + 1) < x + 1 := Int.emod_lt_of_pos _ (by omega)
 have hr0 : 0 ≤ 1000000000 % (x + 1) := Int.emod_nonneg _ (by omega)
 generalize 1000000000 / (x + 1) = d at *
 generalize 1000000000 % (x + 1) = r at *
 have e : (x + 1) * d = x * d + d := by grind
 apply Int.le_of_not_gt
 intro hc
 by_cases hx : x ≤ 500000000
 ·have h3 : 500000000 - x + 1 ≤ d := by omega
  have h4 : x * (500000000 - x + 1) ≤ x * d := Int.mul_le_mul_of_nonneg_left h3 (by omega)
  have h5 : 0 ≤ (x - 1) * (500000000 - x) := Int.mul_nonneg (by omega) (by omega)
  have h6 : (x - 1) * (500000000 - x) = x * (500000000 - x + 1) - 500000000 := by grind
  omega
 ·have h3 : 1 ≤ d := by
   apply Int.le_of_not_gt; intro h
   have : d ≤ 0 := by omega
   have : (x + 1) * d ≤ 0 := Int.mul_nonpos_of_nonneg_of_nonpos (by omega) this
   omega
  have h4 : x * 1 ≤ x * d := Int.mul_le_mul_of_nonneg_left h3 (by omega)
  omega
theorem vI_take_zero {w : List Int} {m : Nat} (h : ∀ t, m ≤ t → t < w.length → w[t]? = some 0) : vI w = vI (w.take m) := by
 by_cases hm : m ≤ w.length
 ·have h1 := vI_split w m hm
  have h2 : w.drop m = List.replicate (w.length - m) 0 := by
   apply List.ext_getElem?
   intro t
   rw [List.getElem?_drop, List.getElem?_replicate]
   by_cases ht : t < w.length - m
   ·rw [if_pos ht]; exact h _ (by omega) (by omega)
   ·rw [if_neg ht]; exact List.getElem?_eq_none (by omega)
  rw [h2, vI_zeros] at h1
  omega
 ·rw [List.take_of_length_le (by omega)]
theorem vI_top3 {w : List Int} {k : Nat} {a c d : Int} (ha : w[k]? = some a) (hc : w[k + 1]? = some c) (hd : w[k + 2]? = some d) (hz : ∀ t, k + 3 ≤ t → t < w.length → w[t]? = some 0) :
  vI w = vI (w.take k) + pI k * (a + 1000000000 * (d * 1000000000 + c)) := by
 rw [vI_take_zero hz, show k + 3 = (k + 2) + 1 by omega, vI_take_succ hd, vI_take_succ hc, vI_take_succ ha, pI_succ (k + 1), pI_succ k]
 grind
theorem vI_top2 {w : List Int} {k : Nat} {a c : Int} (ha : w[k]? = some a) (hc : w[k + 1]? = some c) (hl : w.length = k + 2) :
  vI w = vI (w.take k) + pI k * (a + 1000000000 * c) := by
 have h1 : vI w = vI (w.take (k + 1 + 1)) := by rw [List.take_of_length_le (by omega)]
 rw [h1, vI_take_succ hc, vI_take_succ ha, pI_succ k]
 grind
theorem top_zero {w : List Int} {n : Nat} {t : Int} (hd : Di (w.take n)) (ht : w[n]? = some t) (hz : ∀ j, n < j → j < w.length → w[j]? = some 0) (h1 : vI w < pI n) : (0 ≤ vI w → t = 0) ∧ (vI w < 0 → t < 0) := by
 have hl := lt_of_get ht
 have h2 : vI w = vI (w.take n) + pI n * t := by
  rw [vI_take_zero (m := n + 1) (fun j h1 h2 => hz j (by omega) h2), vI_take_succ ht]
 have h3 := vI_nn hd
 have h4 := vI_lt hd
 rw [List.length_take, Nat.min_eq_left (by omega)] at h4
 have h5 := pI_pos n
 constructor
 ·intro h
  have h6 : ¬ t ≤ -1 := fun hc => by
   have := Int.mul_le_mul_of_nonneg_left hc (Int.le_of_lt h5)
   omega
  have h7 : ¬ 1 ≤ t := fun hc => by
   have := Int.mul_le_mul_of_nonneg_left hc (Int.le_of_lt h5)
   omega
  omega
 ·intro h
  apply Int.lt_of_not_ge
  intro hc
  have := Int.mul_nonneg (Int.le_of_lt h5) hc
  omega
end Go.Mx
