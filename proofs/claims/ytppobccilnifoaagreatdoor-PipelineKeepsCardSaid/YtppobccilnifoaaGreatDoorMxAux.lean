/-
  Small help for the runs.
-/
import Derived.Test.YtppobccilnifoaaGreatDoorMxSlN
import Derived.Test.YtppobccilnifoaaGreatDoorProg
set_option linter.all false
namespace Go.Mx
open Go
theorem nne1 {N : Nat} : (N = N + 1) = False := eq_false (by omega)
theorem nnf1 {N : Nat} : (N + 1 = N) = False := eq_false (by omega)
theorem nlt1 {N : Nat} : (N + 1 < N) = False := eq_false (by omega)
theorem nne2 {N : Nat} : (N = N + 1 + 1) = False := eq_false (by omega)
theorem nnf2 {N : Nat} : (N + 1 + 1 = N) = False := eq_false (by omega)
theorem nlt2 {N : Nat} : (N + 1 + 1 < N) = False := eq_false (by omega)
theorem nne3 {N : Nat} : (N = N + 1 + 1 + 1) = False := eq_false (by omega)
theorem nnf3 {N : Nat} : (N + 1 + 1 + 1 = N) = False := eq_false (by omega)
theorem nlt3 {N : Nat} : (N + 1 + 1 + 1 < N) = False := eq_false (by omega)
theorem nne4 {N : Nat} : (N = N + 1 + 1 + 1 + 1) = False := eq_false (by omega)
theorem nnf4 {N : Nat} : (N + 1 + 1 + 1 + 1 = N) = False := eq_false (by omega)
theorem nlt4 {N : Nat} : (N + 1 + 1 + 1 + 1 < N) = False := eq_false (by omega)
theorem nne5 {N : Nat} : (N = N + 1 + 1 + 1 + 1 + 1) = False := eq_false (by omega)
theorem nnf5 {N : Nat} : (N + 1 + 1 + 1 + 1 + 1 = N) = False := eq_false (by omega)
theorem nlt5 {N : Nat} : (N + 1 + 1 + 1 + 1 + 1 < N) = False := eq_false (by omega)
theorem nne6 {N : Nat} : (N = N + 1 + 1 + 1 + 1 + 1 + 1) = False := eq_false (by omega)
theorem nnf6 {N : Nat} : (N + 1 + 1 + 1 + 1 + 1 + 1 = N) = False := eq_false (by omega)
theorem nlt6 {N : Nat} : (N + 1 + 1 + 1 + 1 + 1 + 1 < N) = False := eq_false (by omega)
theorem nne7 {N : Nat} : (N = N + 1 + 1 + 1 + 1 + 1 + 1 + 1) = False := eq_false (by omega)
theorem nnf7 {N : Nat} : (N + 1 + 1 + 1 + 1 + 1 + 1 + 1 = N) = False := eq_false (by omega)
theorem nlt7 {N : Nat} : (N + 1 + 1 + 1 + 1 + 1 + 1 + 1 < N) = False := eq_false (by omega)
theorem nne8 {N : Nat} : (N = N + 1 + 1 + 1 + 1 + 1 + 1 + 1 + 1) = False := eq_false (by omega)
theorem nnf8 {N : Nat} : (N + 1 + 1 + 1 + 1 + 1 + 1 + 1 + 1 = N) = False := eq_false (by omega)
theorem nlt8 {N : Nat} : (N + 1 + 1 + 1 + 1 + 1 + 1 + 1 + 1 < N) = False := eq_false (by omega)
theorem nne9 {N : Nat} : (N = N + 1 + 1 + 1 + 1 + 1 + 1 + 1 + 1 + 1) = False := eq_false (by omega)
theorem nnf9 {N : Nat} : (N + 1 + 1 + 1 + 1 + 1 + 1 + 1 + 1 + 1 = N) = False := eq_false (by omega)
theorem nlt9 {N : Nat} : (N + 1 + 1 + 1 + 1 + 1 + 1 + 1 + 1 + 1 < N) = False := eq_false (by omega)
theorem nne10 {N : Nat} : (N = N + 1 + 1 + 1 + 1 + 1 + 1 + 1 + 1 + 1 + 1) = False := eq_false (by omega)
theorem nnf10 {N : Nat} : (N + 1 + 1 + 1 + 1 + 1 + 1 + 1 + 1 + 1 + 1 = N) = False := eq_false (by omega)
theorem nlt10 {N : Nat} : (N + 1 + 1 + 1 + 1 + 1 + 1 + 1 + 1 + 1 + 1 < N) = False := eq_false (by omega)
theorem nne11 {N : Nat} : (N = N + 1 + 1 + 1 + 1 + 1 + 1 + 1 + 1 + 1 + 1 + 1) = False := eq_false (by omega)
theorem nnf11 {N : Nat} : (N + 1 + 1 + 1 + 1 + 1 + 1 + 1 + 1 + 1 + 1 + 1 = N) = False := eq_false (by omega)
theorem nlt11 {N : Nat} : (N + 1 + 1 + 1 + 1 + 1 + 1 + 1 + 1 + 1 + 1 + 1 < N) = False := eq_false (by omega)
theorem nne12 {N : Nat} : (N = N + 1 + 1 + 1 + 1 + 1 + 1 + 1 + 1 + 1 + 1 + 1 + 1) = False := eq_false (by omega)
theorem nnf12 {N : Nat} : (N + 1 + 1 + 1 + 1 + 1 + 1 + 1 + 1 + 1 + 1 + 1 + 1 = N) = False := eq_false (by omega)
theorem nlt12 {N : Nat} : (N + 1 + 1 + 1 + 1 + 1 + 1 + 1 + 1 + 1 + 1 + 1 + 1 < N) = False := eq_false (by omega)
theorem nne13 {N : Nat} : (N = N + 1 + 1 + 1 + 1 + 1 + 1 + 1 + 1 + 1 + 1 + 1 + 1 + 1) = False := eq_false (by omega)
theorem nnf13 {N : Nat} : (N + 1 + 1 + 1 + 1 + 1 + 1 + 1 + 1 + 1 + 1 + 1 + 1 + 1 = N) = False := eq_false (by omega)
theorem nlt13 {N : Nat} : (N + 1 + 1 + 1 + 1 + 1 + 1 + 1 + 1 + 1 + 1 + 1 + 1 + 1 < N) = False := eq_false (by omega)
theorem nne14 {N : Nat} : (N = N + 1 + 1 + 1 + 1 + 1 + 1 + 1 + 1 + 1 + 1 + 1 + 1 + 1 + 1) = False := eq_false (by omega)
theorem nnf14 {N : Nat} : (N + 1 + 1 + 1 + 1 + 1 + 1 + 1 + 1 + 1 + 1 + 1 + 1 + 1 + 1 = N) = False := eq_false (by omega)
theorem nlt14 {N : Nat} : (N + 1 + 1 + 1 + 1 + 1 + 1 + 1 + 1 + 1 + 1 + 1 + 1 + 1 + 1 < N) = False := eq_false (by omega)
theorem nne15 {N : Nat} : (N = N + 1 + 1 + 1 + 1 + 1 + 1 + 1 + 1 + 1 + 1 + 1 + 1 + 1 + 1 + 1) = False := eq_false (by omega)
theorem nnf15 {N : Nat} : (N + 1 + 1 + 1 + 1 + 1 + 1 + 1 + 1 + 1 + 1 + 1 + 1 + 1 + 1 + 1 = N) = False := eq_false (by omega)
theorem nlt15 {N : Nat} : (N + 1 + 1 + 1 + 1 + 1 + 1 + 1 + 1 + 1 + 1 + 1 + 1 + 1 + 1 + 1 < N) = False := eq_false (by omega)
attribute [simp] nne1 nnf1 nlt1 nne2 nnf2 nlt2 nne3 nnf3 nlt3 nne4 nnf4 nlt4 nne5 nnf5 nlt5 nne6 nnf6 nlt6 nne7 nnf7 nlt7 nne8 nnf8 nlt8 nne9 nnf9 nlt9 nne10 nnf10 nlt10 nne11 nnf11 nlt11 nne12 nnf12 nlt12 nne13 nnf13 nlt13 nne14 nnf14 nlt14 nne15 nnf15 nlt15
theorem nlu1 {N : Nat} : (N < N + 1) = True := eq_true (by omega)
theorem nlu2 {N : Nat} : (N < N + 1 + 1) = True := eq_true (by omega)
theorem nlu3 {N : Nat} : (N < N + 1 + 1 + 1) = True := eq_true (by omega)
theorem nlu4 {N : Nat} : (N < N + 1 + 1 + 1 + 1) = True := eq_true (by omega)
theorem nlu5 {N : Nat} : (N < N + 1 + 1 + 1 + 1 + 1) = True := eq_true (by omega)
theorem nlu6 {N : Nat} : (N < N + 1 + 1 + 1 + 1 + 1 + 1) = True := eq_true (by omega)
theorem nlu7 {N : Nat} : (N < N + 1 + 1 + 1 + 1 + 1 + 1 + 1) = True := eq_true (by omega)
theorem nlu8 {N : Nat} : (N < N + 1 + 1 + 1 + 1 + 1 + 1 + 1 + 1) = True := eq_true (by omega)
theorem nlu9 {N : Nat} : (N < N + 1 + 1 + 1 + 1 + 1 + 1 + 1 + 1 + 1) = True := eq_true (by omega)
theorem nlu10 {N : Nat} : (N < N + 1 + 1 + 1 + 1 + 1 + 1 + 1 + 1 + 1 + 1) = True := eq_true (by omega)
theorem nlu11 {N : Nat} : (N < N + 1 + 1 + 1 + 1 + 1 + 1 + 1 + 1 + 1 + 1 + 1) = True := eq_true (by omega)
theorem nlu12 {N : Nat} : (N < N + 1 + 1 + 1 + 1 + 1 + 1 + 1 + 1 + 1 + 1 + 1 + 1) = True := eq_true (by omega)
theorem nlu13 {N : Nat} : (N < N + 1 + 1 + 1 + 1 + 1 + 1 + 1 + 1 + 1 + 1 + 1 + 1 + 1) = True := eq_true (by omega)
theorem nlu14 {N : Nat} : (N < N + 1 + 1 + 1 + 1 + 1 + 1 + 1 + 1 + 1 + 1 + 1 + 1 + 1 + 1) = True := eq_true (by omega)
theorem nlu15 {N : Nat} : (N < N + 1 + 1 + 1 + 1 + 1 + 1 + 1 + 1 + 1 + 1 + 1 + 1 + 1 + 1 + 1) = True := eq_true (by omega)
attribute [simp] nlu1 nlu2 nlu3 nlu4 nlu5 nlu6 nlu7 nlu8 nlu9 nlu10 nlu11 nlu12 nlu13 nlu14 nlu15
theorem Call.eq {C : Cx} {g : V} {args : List V} {st st' : St} {u : V} (h : Call C g args st (fun v s => v = u ∧ s = st')) : C.call g args st = some (u, st') := by
 obtain ⟨v, s, e, rfl, rfl⟩ := h.ex
 exact e
theorem Fn.pure {C : Cx} {f : Nat} {args : List V} {h : T O} {N : Nat} {u : V} {P : V → T O → Nat → Prop} (e : ∀ w, C.call (.func f [] []) args ⟨h, N, w⟩ = some (u, ⟨h, N, w⟩)) (p : P u h N) : Fn C f args h N P := fun w => ⟨⟨u, ⟨h, N, w⟩, e w, rfl, Keeps.refl, p⟩⟩
theorem k_block_other {C : Cx} {K : List Kf} {Q : Rs → Prop} {fr : Fr} {st : St} {i j : Nat} (h : ¬ j = i) : Run C (.block i :: K) (some (.ex (.exit j) fr st)) Q ↔ Run C K (some (.ex (.exit j) fr st)) Q := k_block_exit' (by
 cases hb : Nat.beq j i with
 | false => rfl
 | true => exact absurd (Nat.eq_of_beq_eq_true hb) h)
attribute [simp] k_block_other
def firstNZ : List Int → Int
 | [] => 0
 | e :: l => if e = 0 then firstNZ l else e
theorem get_of_lt {α : Type} {l : List α} {k : Nat} (h : k < l.length) : ∃ d, l[k]? = some d := ⟨_, List.getElem?_eq_getElem h⟩
theorem digC_u (c : UInt8) : digC c = decide (48 ≤ u8I c ∧ u8I c ≤ 57) := by
 unfold digC u8I; rw [decide_eq_decide]; omega
def aset (k : Nat) : List V := (List.range 256).map fun i => .bool (decide (48 ≤ i ∧ i < 48 + k))
theorem aset_len (k : Nat) : (aset k).length = 256 := by simp [aset]
theorem aset_get {k i : Nat} (hi : i < 256) : (aset k)[i]? = some (.bool (decide (48 ≤ i ∧ i < 48 + k))) := by simp [aset, hi]
theorem aset_one (k : Nat) : (aset k).all V.one = true := by simp [aset, V.one]
theorem aset_set {k : Nat} (hk : k < 10) : splice (aset k) (48 + k) [.bool true] = aset (k + 1) := by
 apply List.ext_getElem?
 intro j
 unfold splice
 rw [List.append_assoc, List.getElem?_append, List.length_take, aset_len, Nat.min_eq_left (by omega)]
 by_cases h1 : j < 48 + k
 ·rw [if_pos h1, List.getElem?_take, if_pos h1, aset_get (by omega), aset_get (by omega)]
  congr 3; rw [eq_iff_iff]; omega
 ·rw [if_neg h1]
  by_cases h2 : j = 48 + k
  ·subst h2
   rw [aset_get (by omega)]
   simp
  ·rw [show j - (48 + k) = (j - (48 + k) - 1) + 1 by omega]
   simp only [List.singleton_append, List.getElem?_cons_succ, List.getElem?_drop, List.length_singleton]
   rw [show 48 + k + 1 + (j - (48 + k) - 1) = j by omega]
   by_cases h3 : j < 256
   ·rw [aset_get h3, aset_get h3]; congr 3; rw [eq_iff_iff]; omega
   ·rw [List.getElem?_eq_none (by rw [aset_len]; omega), List.getElem?_eq_none (by rw [aset_len]; omega)]
theorem aset_take (k : Nat) : (aset k).take 256 = aset k := List.take_of_length_le (by rw [aset_len]; omega)
theorem aset_spl (j k : Nat) : splice (aset j) 0 (aset k) = aset k := by
 unfold splice; rw [aset_len, List.drop_eq_nil_of_le (by rw [aset_len]; omega)]; simp
attribute [simp] aset_len aset_one aset_take aset_spl
def allD (s : Str) : Bool := s.all digC
def digs : Str := [48, 49, 50, 51, 52, 53, 54, 55, 56, 57]
theorem digs_get {k : Nat} (hk : k < 10) : ∃ c, digs[k]? = some c ∧ u8I c = 48 + k := by
 have : k = 0 ∨ k = 1 ∨ k = 2 ∨ k = 3 ∨ k = 4 ∨ k = 5 ∨ k = 6 ∨ k = 7 ∨ k = 8 ∨ k = 9 := by omega
 rcases this with rfl | rfl | rfl | rfl | rfl | rfl | rfl | rfl | rfl | rfl <;> exact ⟨_, rfl, rfl⟩
theorem wrapF_u8 {n : Int} (h1 : 0 ≤ n) (h2 : n < 256) : wrapF .u8 n = n := by
 rw [wrapF_eq]
 simp [IntKind.wrap, IntKind.bits, IntKind.signed]
 omega
theorem wrap_i64 {n : Int} (h1 : -9223372036854775808 ≤ n) (h2 : n < 9223372036854775808) : IntKind.wrap .i64 n = n := by
 simp [IntKind.wrap, IntKind.bits, IntKind.signed]
 omega
theorem numV_snoc (l : Str) (c : UInt8) : numV (l ++ [c]) = 10 * numV l + (c.toNat - 48) := by simp [numV]
theorem numV_take {s : Str} {k : Nat} {c : UInt8} (h : s[k]? = some c) : numV (s.take (k + 1)) = 10 * numV (s.take k) + (c.toNat - 48) := by
 rw [List.take_add_one, h]
 simp only [Option.toList, numV_snoc]
theorem allD_get {s : Str} (h : allD s = true) {k : Nat} {c : UInt8} (hc : s[k]? = some c) : 48 ≤ u8I c ∧ u8I c ≤ 57 := by
 unfold allD at h
 rw [List.all_eq_true] at h
 have := h c (List.mem_of_getElem? hc)
 rw [digC_u] at this
 simpa using this
theorem numV_lt {s : Str} (h : allD s = true) : ∀ k, k ≤ s.length → numV (s.take k) < 10 ^ k
 | 0, _ => by simp [numV]
 | k + 1, hk => by
  obtain ⟨c, hc⟩ := get_of_lt (l := s) (k := k) (by omega)
  have h1 := numV_lt h k (by omega)
  have h2 := allD_get h hc
  unfold u8I at h2
  rw [numV_take hc, Nat.pow_succ]
  omega
theorem numV_lt' {s : Str} (h : allD s = true) : numV s < 10 ^ s.length := by
 have := numV_lt h s.length (Nat.le_refl _)
 rwa [List.take_length] at this
theorem p10_le {a b : Nat} (h : a ≤ b) : 10 ^ a ≤ 10 ^ b := Nat.pow_le_pow_right (by decide) h
theorem and1_i64 {k : Nat} (h : k < 9223372036854775808) : intBin .and .i64 (k : Int) 1 = some (.int .i64 ((k % 2 : Nat) : Int)) := by
 show some (V.int .i64 (IntKind.wrap .i64 (BitVec.ofInt 64 (k : Int) &&& BitVec.ofInt 64 1).toNat)) = _
 have e : (BitVec.ofInt 64 1).toNat = 2 ^ 1 - 1 := by decide
 rw [BitVec.toNat_and, ofInt_nat k (by omega), e, Nat.and_two_pow_sub_one_eq_mod, wrap_i64 (by omega) (by omega)]
theorem shr1_i64 {k : Nat} : shiftV .shr .i64 (k : Int) 1 = some (.int .i64 ((k / 2 : Nat) : Int)) := by
 unfold shiftV
 have e : min (1 : Int).toNat (IntKind.bits .i64) = 1 := by decide
 rw [if_neg (by decide), e]
 simp only [Option.some.injEq, V.int.injEq, true_and]
 rw [Int.fdiv_eq_ediv_of_nonneg _ (by decide)]
 rfl
end Go.Mx
namespace Go.Mx
open Go
theorem Keeps.new {h h1 : T O} {n n1 : Nat} (k : Keeps h n h1 n1) (o : O) : Keeps h n (h1.set n1 o) (n1 + 1) := (k.set k.le).up (Nat.le_succ _)
abbrev FnV (C : Cx) (f : V) (args : List V) (h : T O) (n : Nat) (P : V → T O → Nat → Prop) : Prop := ∀ w, Call C f args ⟨h, n, w⟩ (Ret P h n w)
theorem run_fnV {C : Cx} {f args h n w P K Q} (hf : FnV C f args h n P) (k : ∀ v h' n', Keeps h n h' n' → P v h' n' → Run C K (some (.val v ⟨h', n', w⟩)) Q) : Run C K (valR (C.call f args ⟨h, n, w⟩)) Q :=
 run_call (hf w) fun v st' => by
  obtain ⟨h', n', w'⟩ := st'
  rintro ⟨rfl, hk, hp⟩
  exact k v h' n' hk hp
theorem FnV.pure {C : Cx} {f : V} {args : List V} {h : T O} {N : Nat} {u : V} {P : V → T O → Nat → Prop} (e : ∀ w, C.call f args ⟨h, N, w⟩ = some (u, ⟨h, N, w⟩)) (p : P u h N) : FnV C f args h N P := fun w => ⟨⟨u, ⟨h, N, w⟩, e w, rfl, Keeps.refl, p⟩⟩
def firstP (p : Nat → Bool) (k : Nat) : Nat → Int
 | 0 => -1
 | m + 1 => if p k = true then (k : Int) else firstP p (k + 1) m
def SlF (v : V) : Prop := v = .nilslice ∨ v = .empty ∨ ∃ i o n c z, v = .slice i o n c z
theorem Sl.form {h : T O} {N : Nat} {v : V} {l : List V} (s : Sl h N v l) : SlF v := by
 rcases s with ⟨_, h | h⟩ | ⟨i, o, cp, c, e, rw, h, _⟩
 ·exact .inl h
 ·exact .inr (.inl h)
 ·exact .inr (.inr ⟨_, _, _, _, _, h⟩)
theorem SlF.one {v : V} (h : SlF v) : V.one v = true := by
 rcases h with rfl | rfl | ⟨_, _, _, _, _, rfl⟩ <;> rfl
theorem SlF.cells {v : V} (h : SlF v) : V.cells v = [v] := by
 rcases h with rfl | rfl | ⟨_, _, _, _, _, rfl⟩ <;> rfl
def strs (l : List Str) : List V := l.map .str
theorem strs_len (l : List Str) : (strs l).length = l.length := by simp [strs]
theorem strs_get {l : List Str} {j : Nat} {n : Str} (h : l[j]? = some n) : (strs l)[j]? = some (.str n) := by simp [strs, h]
attribute [simp] strs_len
def stgC (s : Stg) (inp : V) : List V := [.str s.name, .str s.op, .str s.factor, inp, .int .i64 s.cost]
def Gr (h : T O) (N : Nat) (v : V) (g : List Stg) : Prop := ∃ l : List (List V), Sn 5 h N v l ∧ l.length = g.length ∧ ∀ (j : Nat) (s : Stg), g[j]? = some s → ∃ inp, l[j]? = some (stgC s inp) ∧ Sl h N inp (strs s.inputs)
theorem Gr.keep {h h' : T O} {N N' : Nat} {v : V} {g : List Stg} (s : Gr h N v g) (k : Keeps h N h' N') : Gr h' N' v g := by
 obtain ⟨l, h1, h2, h3⟩ := s
 refine ⟨l, h1.keep k, h2, fun j s hs => ?_⟩
 obtain ⟨inp, h4, h5⟩ := h3 j s hs
 exact ⟨inp, h4, h5.keep k⟩
theorem Gr.len {h : T O} {N : Nat} {v : V} {g : List Stg} (s : Gr h N v g) : lenV v = some g.length := by
 obtain ⟨l, h1, h2, h3⟩ := s
 rw [h1.len, h2]
theorem Gr.at {h : T O} {N : Nat} {v : V} {g : List Stg} (s : Gr h N v g) {j : Nat} {x : Stg} (hj : g[j]? = some x) : ∃ i o c e rw inp, baseV v = some (i, o) ∧ i < N ∧ h.get i = some (.cells c e rw) ∧ slc c (o + j * 5) 5 = some (stgC x inp) ∧ Sl h N inp (strs x.inputs) := by
 obtain ⟨l, h1, h2, h3⟩ := s
 obtain ⟨inp, h4, h5⟩ := h3 j x hj
 obtain ⟨i, o, c, e, rw, q1, q2, q3, q4⟩ := h1.at h4
 exact ⟨i, o, c, e, rw, inp, q1, q2, q3, q4, h5⟩
theorem Gr.slice {h : T O} {N : Nat} {v : V} {g : List Stg} {w : List Nat} (s : Gr h N v g) {lo hi : Nat} (h1 : lo ≤ hi) (h2 : hi ≤ g.length) (x y : Option V) (hx : x = some (.int .i64 lo) ∨ x = none ∧ lo = 0) (hy : y = some (.int .i64 hi) ∨ y = none ∧ hi = g.length) :
  ∃ v', sliceK ⟨h, N, w⟩ 5 (some v) (some x) (some y) (some none) = some (v', ⟨h, N, w⟩) ∧ Gr h N v' ((g.take hi).drop lo) := by
 obtain ⟨l, g1, g2, g3⟩ := s
 obtain ⟨v', e1, e2⟩ := sliceK_sn (z := 5) (w := w) (by decide) g1 h1 (by omega) x y hx (by rw [g2]; exact hy)
 refine ⟨v', e1, (l.take hi).drop lo, e2, by simp [g2], fun j s hs => ?_⟩
 have hj : lo + j < hi := by
  apply Nat.lt_of_not_le; intro hc
  rw [List.getElem?_drop, List.getElem?_take, if_neg (by omega)] at hs; cases hs
 rw [List.getElem?_drop, List.getElem?_take, if_pos hj] at hs
 obtain ⟨inp, q1, q2⟩ := g3 _ s hs
 exact ⟨inp, by rw [List.getElem?_drop, List.getElem?_take, if_pos hj]; exact q1, q2⟩
theorem slc_5 {a b c d e : V} : slc [a, b, c, d, e] 0 5 = some [a, b, c, d, e] := rfl
theorem slc_2 {a b : V} : slc [a, b] 0 2 = some [a, b] := rfl
attribute [simp] slc_5 slc_2
theorem Gr.form {h : T O} {N : Nat} {v : V} {g : List Stg} (s : Gr h N v g) : SlF v := by
 obtain ⟨l, h1, _⟩ := s
 rcases h1 with ⟨_, h | h⟩ | ⟨i, o, cp, c, e, rw, h, _⟩
 ·exact .inl h
 ·exact .inr (.inl h)
 ·exact .inr (.inr ⟨_, _, _, _, _, h⟩)
def lookR (st : St) (zero : V) (ok : Bool) : Option (Option (Nat × V)) → Option (V × St)
 | some (some (_, v)) => some (if ok then .tup [v, .bool true] else v, st)
 | some none => some (if ok then .tup [zero, .bool false] else zero, st)
 | none => none
def lookK2 (st : St) (kd : KeyD) (zero : V) (ok : Bool) (k : V) : Option O → Option (V × St)
 | some (.map es) => lookR st zero ok (findV kd k es 0)
 | _ => none
def lookK (st : St) (kd : KeyD) (zero : V) (ok : Bool) : Option V → Option V → Option (V × St)
 | some (.map i), some k => if kd.fits k = true then lookK2 st kd zero ok k (st.h.get i) else none
 | some .nilmap, some k => if kd.fits k = true then lookR st zero ok (some none) else none
 | _, _ => none
theorem op_lookup_K {kd : KeyD} {zero : V} {m k : Src} {ok : Bool} {call : CallT} {r : T V} {st : St} : op_lookup kd zero m k ok call r st = lookK st kd zero ok (m.ev r) (k.ev r) := by
 unfold op_lookup lookK
 rcases m.ev r with _ | m
 ·rfl
 ·rcases k.ev r with _ | k
  ·cases m <;> rfl
  ·cases m <;> simp only [] <;> (try (by_cases hf : kd.fits k = true <;> simp [hf])) <;> try rfl
   ·rename_i i
    rcases st.h.get i with _ | o
    ·rfl
    ·cases o <;> simp only [lookK2]
     rename_i es
     rcases findV kd k es 0 with _ | _ | ⟨_, _⟩ <;> rfl
theorem lookK_map {st : St} {zero : V} {ok : Bool} {i : Nat} {s : Str} : lookK st .str zero ok (some (.map i)) (some (.str s)) = lookK2 st .str zero ok (.str s) (st.h.get i) := rfl
theorem lookK2_some {st : St} {kd : KeyD} {zero : V} {ok : Bool} {k : V} {es : List (V × V)} : lookK2 st kd zero ok k (some (.map es)) = lookR st zero ok (findV kd k es 0) := rfl
attribute [simp] op_lookup_K lookK_map lookK2_some op_mkmap
def msetR (st : St) (i : Nat) (k v : V) (es : List (V × V)) : Option (Option (Nat × V)) → Option (V × St)
 | some (some (j, _)) => some (.tup [], st.write i (.map (es.set j (k, v))))
 | some none => some (.tup [], st.write i (.map (es ++ [(k, v)])))
 | none => none
def msetK2 (st : St) (kd : KeyD) (i : Nat) (k v : V) : Option O → Option (V × St)
 | some (.map es) => msetR st i k v es (findV kd k es 0)
 | _ => none
def msetK (st : St) (kd : KeyD) : Option V → Option V → Option V → Option (V × St)
 | some (.map i), some k, some v => if kd.fits k = true then msetK2 st kd i k v (st.h.get i) else none
 | _, _, _ => none
theorem op_mapset_K {kd : KeyD} {m k v : Src} {call : CallT} {r : T V} {st : St} : op_mapset kd m k v call r st = msetK st kd (m.ev r) (k.ev r) (v.ev r) := by
 unfold op_mapset msetK
 rcases m.ev r with _ | m
 ·rfl
 ·rcases k.ev r with _ | k
  ·cases m <;> rfl
  ·rcases v.ev r with _ | v
   ·cases m <;> rfl
   ·cases m with
    | map i =>
     simp only []
     by_cases hf : kd.fits k = true
     ·simp only [hf, if_true]
      rcases st.h.get i with _ | o
      ·rfl
      ·cases o <;> simp only [msetK2]
       rename_i es
       rcases findV kd k es 0 with _ | _ | ⟨_, _⟩ <;> rfl
     ·simp [hf]
    | _ => rfl
theorem msetK_map {st : St} {i : Nat} {s : Str} {v : V} : msetK st .str (some (.map i)) (some (.str s)) (some v) = msetK2 st .str i (.str s) v (st.h.get i) := rfl
theorem msetK2_some {st : St} {kd : KeyD} {i : Nat} {k v : V} {es : List (V × V)} : msetK2 st kd i k v (some (.map es)) = msetR st i k v es (findV kd k es 0) := rfl
theorem msetR_none {st : St} {i : Nat} {k v : V} {es : List (V × V)} : msetR st i k v es (some none) = some (.tup [], st.write i (.map (es ++ [(k, v)]))) := rfl
attribute [simp] op_mapset_K msetK_map msetK2_some msetR_none
end Go.Mx
namespace Go.Mx
open Go
theorem Keeps.then {h h1 h2 : T O} {n n1 n2 : Nat} (a : Keeps h n h1 n1) (b : Keeps h1 n h2 n2) : Keeps h n h2 n2 := ⟨b.le, fun i hi => (b.get i hi).trans (a.get i hi)⟩
def rowsI (l : List Int) : List (List V) := l.map fun x => [.int .i64 x]
theorem rowsI_len (l : List Int) : (rowsI l).length = l.length := by simp [rowsI]
theorem rowsI_flat : ∀ (l : List Int), (rowsI l).flatten = dI l
 | [] => rfl
 | x :: l => by
  have := rowsI_flat l
  simp only [rowsI, List.map_cons, List.flatten_cons, dI] at this ⊢
  rw [this]; rfl
theorem rowsI_snoc (l : List Int) (x : Int) : rowsI (l ++ [x]) = rowsI l ++ [[.int .i64 x]] := by simp [rowsI]
theorem Own.sl {e : TypeId} {N0 : Nat} {h : T O} {N : Nat} {v : V} {l : List Int} (s : Own 1 e N0 h N v (rowsI l)) : Sl h N v (dI l) := by
 have := s.sn
 have e1 : rowsI l = (dI l).map fun x => [x] := by simp [rowsI, dI]
 rw [e1] at this
 exact Sn.one.1 this
structure ValidG (g : List Stg) : Prop where
 le : g.length ≤ 16
 name : ∀ (j : Nat) (s : Stg), g[j]? = some s → j ≤ pos (g.take j) s.name
 inp : ∀ (j : Nat) (s : Stg), g[j]? = some s → ∀ n ∈ s.inputs, pos (g.take j) n < j
 cost : ∀ s ∈ g, 1 ≤ s.cost ∧ s.cost ≤ 1000
end Go.Mx
namespace Go.Mx
open Go
def Cp (h : T O) (N : Nat) (v : V) (l : List V) : Prop := ∃ j c, v = .slice j 0 l.length c 1 ∧ j < N ∧ h.get j = some (.cells l 9 true) ∧ ∀ k, c = some k → l.length ≤ k
theorem Cp.keep {h h' : T O} {N N' : Nat} {v : V} {l : List V} (s : Cp h N v l) (k : Keeps h N h' N') : Cp h' N' v l := by
 obtain ⟨j, c, h1, h2, h3, h4⟩ := s
 exact ⟨j, c, h1, Nat.lt_of_lt_of_le h2 k.le, (k.get j h2).trans h3, h4⟩
theorem Cp.sl {h : T O} {N : Nat} {v : V} {l : List V} (s : Cp h N v l) : Sl h N v l := by
 obtain ⟨j, c, h1, h2, h3, h4⟩ := s
 rw [h1]; exact Sl.row h2 h3 rfl h4
theorem src_sl {h : T O} {N : Nat} {w : List Nat} {v : V} {l : List V} (s : Sl h N v l) : srcCells ⟨h, N, w⟩ 1 v = some (l.length, l) := by
 rcases s with ⟨rfl, rfl | rfl⟩ | ⟨i, o, cp, c, e, rw, rfl, h2, h3, h4, h5, h6⟩
 ·rfl
 ·rfl
 ·simp only [srcCells, if_true, St.row, h3, Nat.mul_one]
  have : slc c o l.length = some l := by
   unfold slc
   rw [if_pos h5]
   congr 1
   apply List.ext_getElem?
   intro j
   rw [List.getElem?_take]
   by_cases hj : j < l.length
   ·rw [if_pos hj, List.getElem?_drop]; exact h4 j hj
   ·rw [if_neg hj, List.getElem?_eq_none (by omega)]
  rw [this]
def PgA (h : T O) (N0 N : Nat) (u : V) (g : List Stg) (k : Nat) : Prop := ∃ l : List (List V), Own 5 126 N0 h N u l ∧ l.length = k ∧ ∀ (j : Nat) (s : Stg), j < k → g[j]? = some s → ∃ inp, l[j]? = some (stgC s inp) ∧ Cp h N inp (strs s.inputs)
theorem PgA.keep {h h' : T O} {N0 N N' : Nat} {u : V} {g : List Stg} {k : Nat} (s : PgA h N0 N u g k) (kk : Keeps h N h' N') : PgA h' N0 N' u g k := by
 obtain ⟨l, h1, h2, h3⟩ := s
 refine ⟨l, h1.keep kk, h2, fun j s hj hs => ?_⟩
 obtain ⟨inp, h4, h5⟩ := h3 j s hj hs
 exact ⟨inp, h4, h5.keep kk⟩
theorem PgA.gr {h : T O} {N0 N : Nat} {u : V} {g : List Stg} (s : PgA h N0 N u g g.length) : Gr h N u g := by
 obtain ⟨l, h1, h2, h3⟩ := s
 refine ⟨l, h1.sn, h2, fun j s hs => ?_⟩
 obtain ⟨inp, h4, h5⟩ := h3 j s (lt_of_get hs) hs
 exact ⟨inp, h4, h5.sl⟩
theorem PgA.step {h : T O} {N0 N : Nat} {u x inp : V} {g : List Stg} {k : Nat} {s : Stg} {w : List Nat} (p : PgA h N0 N u g k) (hN : N0 ≤ N) (hs : g[k]? = some s) (hi : Cp h N inp (strs s.inputs)) (hu : srcCells ⟨h, N, w⟩ 5 x = some (1, stgC s inp)) (hk : k < 1000) :
  ∃ v' h' w', appendV ⟨h, N, w⟩ 5 80 126 u x = some (v', ⟨h', N + 1, w'⟩) ∧ oldIds N0 w' = oldIds N0 w ∧ Keeps h N0 h' (N + 1) ∧ PgA h' N0 (N + 1) v' g (k + 1) := by
 obtain ⟨l, h1, h2, h3⟩ := p
 obtain ⟨v', h', w', e1, e2, e3, e4, e5⟩ := append_own (x := stgC s inp) (u := x) (bytes := 80) (w := w) h1 hN (by decide) rfl hu (by omega)
 have hcp : ∀ {i : V} {m : List V}, Cp h N i m → Cp h' (N + 1) i m := by
  rintro i m ⟨j, c, q1, q2, q3, q4⟩
  refine ⟨j, c, q1, by omega, ?_, q4⟩
  rcases e4 j with e | e | ⟨o, n, c', q, e⟩
  ·rw [e]; exact q3
  ·omega
  ·obtain ⟨_, ⟨_, hn⟩ | ⟨i', hv, _, _, hrow⟩⟩ := h1
   ·rw [e] at hn; cases hn
   ·rw [e] at hv
    simp only [V.slice.injEq] at hv
    rw [← hv.1, q3] at hrow
    simp at hrow
 refine ⟨v', h', w', e1, e2, e3, l ++ [stgC s inp], e5, by simp [h2], fun j t hj ht => ?_⟩
 by_cases hjk : j < k
 ·obtain ⟨i, q1, q2⟩ := h3 j t hjk ht
  exact ⟨i, by rw [List.getElem?_append_left (by omega)]; exact q1, hcp q2⟩
 ·have : j = k := by omega
  subst this
  obtain rfl := Option.some.inj (hs.symm.trans ht)
  exact ⟨inp, by rw [List.getElem?_append_right (by omega)]; simp [h2], hcp hi⟩
end Go.Mx
namespace Go.Mx
open Go
theorem Sl.setInt {h : T O} {N : Nat} {v : V} {l : List Int} {i : Nat} {c0 c1 : List V} {e0 e1 : TypeId} {w0 w1 : Bool} (s : Sl h N v (dI l)) (hr : h.get i = some (.cells c0 e0 w0)) (hn : ∀ x ∈ c0, ∀ k n, x ≠ .int k n) (hc : c1.length = c0.length) : Sl (h.set i (.cells c1 e1 w1)) N v (dI l) := by
 rcases s with s | ⟨j, o, cp, c, e, rw, h1, h2, h3, h4, h5, h6⟩
 ·exact .inl s
 ·by_cases hj : j = i
  ·subst hj
   rw [hr] at h3
   simp only [Option.some.injEq, O.cells.injEq] at h3
   obtain ⟨rfl, rfl, rfl⟩ := h3
   cases l with
   | nil => exact .inr ⟨j, o, cp, c1, e1, w1, h1, h2, by rw [T.get_set]; simp, fun k hk => by simp [dI] at hk, by rw [hc]; exact h5, h6⟩
   | cons d l =>
    have := h4 0 (by simp [dI])
    simp only [dI, List.map_cons, List.getElem?_cons_zero] at this
    exact absurd rfl (hn _ (List.mem_of_getElem? this) .i64 d)
  ·exact .inr ⟨j, o, cp, c, e, rw, h1, h2, by rw [T.get_set, if_neg hj]; exact h3, h4, h5, h6⟩
end Go.Mx
namespace Go.Mx
open Go Go.Proofs
set_option maxRecDepth 1000000
def mv (a b : Nat) : MOper := ⟨some a, .mov (.tmp b), none⟩
def mc (a : Nat) (n : Int) : MOper := ⟨some a, .mov (.const (.int .i64 n)), none⟩
def ia (a z x i : Nat) : MOper := ⟨some a, .iaddrSl z (.tmp x) (.tmp i), none⟩
def ld (a x : Nat) : MOper := ⟨some a, .load none (.tmp x), none⟩
def xt (a x i : Nat) : MOper := ⟨some a, .extract (.tmp x) i, none⟩
def bi (a : Nat) (o : BinOp) (x y : Nat) : MOper := ⟨some a, .bin o (.node []) false (.tmp x) (.tmp y), none⟩
def bc (a : Nat) (o : BinOp) (x : Nat) (n : Int) : MOper := ⟨some a, .bin o (.node []) false (.tmp x) (.const (.int .i64 n)), none⟩
def ln (a x : Nat) : MOper := ⟨some a, .len 1 (.tmp x), none⟩
def so (a x : Nat) : MOper := ⟨none, .store 1 (.tmp a) (.tmp x), none⟩
attribute [simp] List.getElem?_cons_zero List.getElem?_cons_succ mv mc ia ld xt bi bc ln so
noncomputable def A.C : Cx := ⟨pCall [⟨8, [], .bool true⟩], cFunc Tryz.prog⟩
theorem A.t : A.C.tbl = cFunc Tryz.prog := rfl
theorem A.x0 {f : Nat} {a c args : List V} {st : St} (h : Nat.beq 8 f = false) : A.C.x (.func f a c) args st = none := by
 show pCall [⟨8, [], .bool true⟩] (.func f a c) args st = none
 unfold pCall
 split
 ·rename_i heq
  simp only [V.func.injEq] at heq
  obtain ⟨rfl, rfl, rfl⟩ := heq
  simp only [pFind, h]
 ·rfl
theorem A.kk {n k : Nat} {res : List MRes} {b : MCode} (hc : cFunc Tryz.prog n = some ⟨k, res, b⟩) (hx : Nat.beq 8 n = false) {K : List Kf} {Q : Rs → Prop} {f c args : List V} {st : St} (h : (f ++ args ++ c).length ≤ k) : Run A.C K (valR (A.C.call (.func n f c) args st)) Q ↔ Run A.C (.fin res st :: K) (exR (A.C.code none b ⟨setRegs .nil 0 (f ++ args ++ c), k, []⟩ ⟨st.h, st.n, []⟩)) Q := run_func (A.x0 (f := n) hx) (mf := ⟨k, res, b⟩) (by rw [A.t]; exact hc) h
end Go.Mx
namespace Go.Mx
open Go Go.Proofs
set_option maxRecDepth 1000000
def A.b50 : MCode := .seq (.reg [mc 4 0])
 (.seq (.seq (.reg [mv 5 0])
 (.cond (.tmp 5)
 (.seq (.reg [mv 6 1, mv 4 6])
 (.ret))
 (.skip)))
 (.seq (.reg [mc 4 0])
 (.ret)))
theorem A.c50 : cFunc Tryz.prog 50 = some ⟨7, [.tmp 4], A.b50⟩ := by kernel_rfl
def A.k50 {K Q f c args st} := @A.kk 50 _ _ _ A.c50 rfl K Q f c args st
def A.b150 : MCode := .seq (.reg [mc 4 0])
 (.seq (.seq (.reg [mv 5 0])
 (.cond (.tmp 5)
 (.seq (.reg [mv 6 1, mv 4 6])
 (.ret))
 (.skip)))
 (.seq (.reg [mc 4 0])
 (.ret)))
theorem A.c150 : cFunc Tryz.prog 150 = some ⟨7, [.tmp 4], A.b150⟩ := by kernel_rfl
def A.k150 {K Q f c args st} := @A.kk 150 _ _ _ A.c150 rfl K Q f c args st
def A.b58 : MCode := .seq (.reg [mc 6 0])
 (.seq (.reg [mv 7 0, mv 8 1, bi 9 .lss 7 8, mv 10 9, ⟨(some 11), .mov (.tmp 0), (some (10, false))⟩, ⟨(some 12), .mov (.tmp 2), (some (10, false))⟩, ⟨(some 13), .bin .gtr (.node []) false (.tmp 11) (.tmp 12), (some (10, false))⟩, ⟨(some 14), .pick (.tmp 10) (.const (.bool true)) (.tmp 13), none⟩, ⟨(some 15), .call (.const (.func 50 [] [])) [(.tmp 14), (.const (.int .i64 3))], none⟩, mv 6 15])
 (.ret))
theorem A.c58 : cFunc Tryz.prog 58 = some ⟨16, [.tmp 6], A.b58⟩ := by kernel_rfl
def A.k58 {K Q f c args st} := @A.kk 58 _ _ _ A.c58 rfl K Q f c args st
theorem when_eq {b : Bool} {e : Int} {st : St} : A.C.call (.func 50 [] []) [.bool b, .int .i64 e] st = some (.int .i64 (if b = true then e else 0), st) := by
 apply Call.eq
 rw [call_run, A.k50 (by simp)]
 cases b <;> simp [A.b50]
theorem nwhen_eq {b : Bool} {e : Int} {st : St} : A.C.call (.func 150 [] []) [.bool b, .int .i64 e] st = some (.int .i64 (if b = true then e else 0), st) := by
 apply Call.eq
 rw [call_run, A.k150 (by simp)]
 cases b <;> simp [A.b150]
theorem within_eq {x lo hi : Int} {st : St} : A.C.call (.func 58 [] []) [.int .i64 x, .int .i64 lo, .int .i64 hi] st = some (.int .i64 (if x < lo ∨ hi < x then 3 else 0), st) := by
 apply Call.eq
 rw [call_run, A.k58 (by simp)]
 by_cases h1 : x < lo
 ·simp [A.b58, h1, when_eq]
 ·by_cases h2 : hi < x <;> simp [A.b58, h1, h2, when_eq]
end Go.Mx
namespace Go.Mx
open Go Go.Proofs
set_option maxRecDepth 1000000
def A.lb49_0 : MCode := .seq (.reg [bi 8 .lss 7 6])
 (.seq (.cond (.tmp 8)
 (.skip)
 (.exit 0))
 (.seq (.block 1 (.seq (.reg [ia 9 1 5 7, ld 10 9, mv 4 10])
 (.seq (.reg [mv 11 4, ⟨(some 12), .bin .neq (.prim .int) true (.tmp 11) (.const (.int .i64 0)), none⟩])
 (.cond (.tmp 12)
 (.seq (.reg [mv 13 4, mv 2 13])
 (.ret))
 (.skip)))))
 (.reg [bc 14 .add 7 1, mv 7 14])))
def A.b49 : MCode := .seq (.reg [mc 2 0])
 (.seq (.seq (.reg [mv 5 0, ln 6 5, mc 7 0])
 (.block 0 (.loop A.lb49_0)))
 (.seq (.reg [mc 2 0])
 (.ret)))
theorem A.c49 : cFunc Tryz.prog 49 = some ⟨15, [.tmp 2], A.b49⟩ := by kernel_rfl
def A.k49 {K Q f c args st} := @A.kk 49 _ _ _ A.c49 rfl K Q f c args st
def A.lb149_0 : MCode := .seq (.reg [bi 8 .lss 7 6])
 (.seq (.cond (.tmp 8)
 (.skip)
 (.exit 0))
 (.seq (.block 1 (.seq (.reg [ia 9 1 5 7, ld 10 9, mv 4 10])
 (.seq (.reg [mv 11 4, ⟨(some 12), .bin .neq (.prim .int) true (.tmp 11) (.const (.int .i64 0)), none⟩])
 (.cond (.tmp 12)
 (.seq (.reg [mv 13 4, mv 2 13])
 (.ret))
 (.skip)))))
 (.reg [bc 14 .add 7 1, mv 7 14])))
def A.b149 : MCode := .seq (.reg [mc 2 0])
 (.seq (.seq (.reg [mv 5 0, ln 6 5, mc 7 0])
 (.block 0 (.loop A.lb149_0)))
 (.seq (.reg [mc 2 0])
 (.ret)))
theorem A.c149 : cFunc Tryz.prog 149 = some ⟨15, [.tmp 2], A.b149⟩ := by kernel_rfl
def A.k149 {K Q f c args st} := @A.kk 149 _ _ _ A.c149 rfl K Q f c args st
theorem first_eq {h : T O} {N : Nat} {v : V} {l : List Int} {w : List Nat} (hs : Sl h N v (dI l)) (hl : l.length < 1000) : A.C.call (.func 49 [] []) [v] ⟨h, N, w⟩ = some (.int .i64 (firstNZ l), ⟨h, N, w⟩) := by
 apply Call.eq
 have hlen := hs.len
 rw [dI_length] at hlen
 rw [call_run, A.k49 (by simp)]
 simp (disch := first | (simp; done) | omega | (simp only [dg_length, dgi_length, List.length_cons]; omega) | rfl) [-getElem?_pos, A.b49, hlen]
 refine run_loopD [(2, 2), (4, 4), (7, 14)] (fun e r st => st = ⟨h, N, []⟩ ∧ ((e = .exit 0 ∧ firstNZ l = 0) ∨ (e = .ret ∧ r.get 2 = some (.int .i64 (firstNZ l))))) (fun m r st => st = ⟨h, N, []⟩ ∧ ∃ k, m = l.length - k ∧ k ≤ l.length ∧ r.get 7 = some (.int .i64 k) ∧ firstNZ l = firstNZ (l.drop k)) l.length ?_ ?_ ?_
 ·exact ⟨rfl, 0, by omega, by omega, by simp, by simp⟩
 ·rintro m r _ hr hf ⟨rfl, k, rfl, hk, h7, hz⟩
  rw [code_run]
  by_cases hlt : k < l.length
  ·obtain ⟨c, hc⟩ := get_of_lt hlt
   obtain ⟨i, o, cc, e, rw, q1, q2, q3, q4⟩ := hs.at (dI_get hc)
   rw [get_drop_cons hc, firstNZ] at hz
   have hk1 : (k : Int) < (l.length : Int) := by omega
   by_cases h0 : c = 0
   ·rw [if_pos h0] at hz
    simp (disch := first | (simp; done) | omega | (simp only [dg_length, dgi_length, List.length_cons]; omega) | rfl) [-getElem?_pos, A.lb49_0, hr, hf, h7, hk1, hlt, hlen, q1, q3, q4, eqPrim, h0]
    exact ⟨_, by omega, k + 1, rfl, by omega, by simp, hz⟩
   ·rw [if_neg h0] at hz
    simp (disch := first | (simp; done) | omega | (simp only [dg_length, dgi_length, List.length_cons]; omega) | rfl) [-getElem?_pos, A.lb49_0, hr, hf, h7, hk1, hlt, hlen, q1, q3, q4, eqPrim, h0, hz]
  ·have : l.drop k = [] := List.drop_eq_nil_of_le (by omega)
   rw [this, firstNZ] at hz
   have : k = l.length := by omega
   subst this
   simp (disch := first | (simp; done) | omega | (simp only [dg_length, dgi_length, List.length_cons]; omega) | rfl) [-getElem?_pos, A.lb49_0, hr, hf, h7, hlen, hz]
 ·rintro _ r _ hr ⟨rfl, ⟨rfl, hz⟩ | ⟨rfl, h2⟩⟩
  ·simp (disch := first | (simp; done) | omega | (simp only [dg_length, dgi_length, List.length_cons]; omega) | rfl) [-getElem?_pos, hr, hz]
  ·simp (disch := first | (simp; done) | omega | (simp only [dg_length, dgi_length, List.length_cons]; omega) | rfl) [-getElem?_pos, hr, h2]
theorem nfirst_eq {h : T O} {N : Nat} {v : V} {l : List Int} {w : List Nat} (hs : Sl h N v (dI l)) (hl : l.length < 1000) : A.C.call (.func 149 [] []) [v] ⟨h, N, w⟩ = some (.int .i64 (firstNZ l), ⟨h, N, w⟩) := by
 apply Call.eq
 have hlen := hs.len
 rw [dI_length] at hlen
 rw [call_run, A.k149 (by simp)]
 simp (disch := first | (simp; done) | omega | (simp only [dg_length, dgi_length, List.length_cons]; omega) | rfl) [-getElem?_pos, A.b149, hlen]
 refine run_loopD [(2, 2), (4, 4), (7, 14)] (fun e r st => st = ⟨h, N, []⟩ ∧ ((e = .exit 0 ∧ firstNZ l = 0) ∨ (e = .ret ∧ r.get 2 = some (.int .i64 (firstNZ l))))) (fun m r st => st = ⟨h, N, []⟩ ∧ ∃ k, m = l.length - k ∧ k ≤ l.length ∧ r.get 7 = some (.int .i64 k) ∧ firstNZ l = firstNZ (l.drop k)) l.length ?_ ?_ ?_
 ·exact ⟨rfl, 0, by omega, by omega, by simp, by simp⟩
 ·rintro m r _ hr hf ⟨rfl, k, rfl, hk, h7, hz⟩
  rw [code_run]
  by_cases hlt : k < l.length
  ·obtain ⟨c, hc⟩ := get_of_lt hlt
   obtain ⟨i, o, cc, e, rw, q1, q2, q3, q4⟩ := hs.at (dI_get hc)
   rw [get_drop_cons hc, firstNZ] at hz
   have hk1 : (k : Int) < (l.length : Int) := by omega
   by_cases h0 : c = 0
   ·rw [if_pos h0] at hz
    simp (disch := first | (simp; done) | omega | (simp only [dg_length, dgi_length, List.length_cons]; omega) | rfl) [-getElem?_pos, A.lb149_0, hr, hf, h7, hk1, hlt, hlen, q1, q3, q4, eqPrim, h0]
    exact ⟨_, by omega, k + 1, rfl, by omega, by simp, hz⟩
   ·rw [if_neg h0] at hz
    simp (disch := first | (simp; done) | omega | (simp only [dg_length, dgi_length, List.length_cons]; omega) | rfl) [-getElem?_pos, A.lb149_0, hr, hf, h7, hk1, hlt, hlen, q1, q3, q4, eqPrim, h0, hz]
  ·have : l.drop k = [] := List.drop_eq_nil_of_le (by omega)
   rw [this, firstNZ] at hz
   have : k = l.length := by omega
   subst this
   simp (disch := first | (simp; done) | omega | (simp only [dg_length, dgi_length, List.length_cons]; omega) | rfl) [-getElem?_pos, A.lb149_0, hr, hf, h7, hlen, hz]
 ·rintro _ r _ hr ⟨rfl, ⟨rfl, hz⟩ | ⟨rfl, h2⟩⟩
  ·simp (disch := first | (simp; done) | omega | (simp only [dg_length, dgi_length, List.length_cons]; omega) | rfl) [-getElem?_pos, hr, hz]
  ·simp (disch := first | (simp; done) | omega | (simp only [dg_length, dgi_length, List.length_cons]; omega) | rfl) [-getElem?_pos, hr, h2]
theorem nfirst2 {h : T O} {N i : Nat} {w : List Nat} {a0 a1 : Int} (hi : i < N) : A.C.call (.func 149 [] []) [.slice i 0 2 (some 2) 1] ⟨h.set i (.cells [.int .i64 a0, .int .i64 a1] 26 true), N, w⟩ = some (.int .i64 (firstNZ [a0, a1]), ⟨h.set i (.cells [.int .i64 a0, .int .i64 a1] 26 true), N, w⟩) :=
 nfirst_eq (l := [a0, a1]) (Sl.row (e := 26) (rw := true) (cp := some 2) hi (by simp [dI]) rfl (by simp)) (by simp)
theorem pfirst2 {h : T O} {N i : Nat} {w : List Nat} {a0 a1 : Int} (hi : i < N) : A.C.call (.func 49 [] []) [.slice i 0 2 (some 2) 1] ⟨h.set i (.cells [.int .i64 a0, .int .i64 a1] 26 true), N, w⟩ = some (.int .i64 (firstNZ [a0, a1]), ⟨h.set i (.cells [.int .i64 a0, .int .i64 a1] 26 true), N, w⟩) :=
 first_eq (l := [a0, a1]) (Sl.row (e := 26) (rw := true) (cp := some 2) hi (by simp [dI]) rfl (by simp)) (by simp)
end Go.Mx
