/-
  num.Int: Pow, Gcd, Read, with machine integers.
-/
import Derived.Test.YtgbhkladhegceaaGreatDoorPaI
import Derived.Test.YtgbhkladhegceaaGreatDoorPaA
set_option linter.all false
namespace Go.Mx
open Go Go.Proofs
set_option maxRecDepth 1000000
set_option linter.unusedSimpArgs false
set_option linter.unusedVariables false
def A.lb192_0 : MCode := .seq (.seq (.reg [⟨(some 7), .mov (.tmp 1), none⟩, ⟨(some 8), .bin .gtr (.node []) false (.tmp 7) (.const (.int .i64 0)), none⟩])
 (.cond (.tmp 8)
 (.skip)
 (.exit 0)))
 (.seq (.block 1 (.seq (.seq (.reg [⟨(some 11), .mov (.tmp 1), none⟩, ⟨(some 12), .bin .and (.node []) false (.tmp 11) (.const (.int .i64 1)), none⟩, ⟨(some 13), .bin .eql (.prim .int) true (.tmp 12) (.const (.int .i64 1)), none⟩])
 (.cond (.tmp 13)
 (.reg [⟨(some 14), .load (some 2) (.tmp 5), none⟩, ⟨(some 15), .load (some 2) (.tmp 2), none⟩, ⟨(some 16), .call (.const (.func 181 [] [])) [(.tmp 14), (.tmp 15)], none⟩, ⟨none, .store 2 (.tmp 5) (.tmp 16), none⟩])
 (.skip)))
 (.seq (.reg [⟨(some 17), .mov (.tmp 1), none⟩, ⟨(some 18), .bin .gtr (.node []) false (.tmp 17) (.const (.int .i64 1)), none⟩])
 (.cond (.tmp 18)
 (.reg [⟨(some 19), .load (some 2) (.tmp 2), none⟩, ⟨(some 20), .load (some 2) (.tmp 2), none⟩, ⟨(some 21), .call (.const (.func 181 [] [])) [(.tmp 19), (.tmp 20)], none⟩, ⟨none, .store 2 (.tmp 2) (.tmp 21), none⟩])
 (.skip)))))
 (.reg [⟨(some 9), .mov (.tmp 1), none⟩, ⟨(some 10), .bin .shr (.node []) false (.tmp 9) (.const (.int .u64 1)), none⟩, ⟨(some 1), .mov (.tmp 10), none⟩]))
/-- (lenslet/num.Int).Pow -/
def A.b192 : MCode := .seq (.reg [⟨(some 2), .box 224 (.tmp 0), none⟩, ⟨(some 4), .alloc [(.int .i64 0), .nilslice] 224, none⟩])
 (.seq (.reg [⟨(some 6), .call (.const (.func 154 [] [])) [(.const (.int .i64 1))], none⟩, ⟨(some 5), .alloc [(.int .i64 0), .nilslice] 224, none⟩, ⟨none, .store 2 (.tmp 5) (.tmp 6), none⟩])
 (.seq (.block 0 (.loop A.lb192_0))
 (.seq (.reg [⟨(some 22), .load (some 2) (.tmp 5), none⟩, ⟨none, .store 2 (.tmp 4) (.tmp 22), none⟩])
 (.ret))))
theorem A.c192 : cFunc Tryz.prog 192 = some ⟨23, [.cell 4 (some 2)], A.b192⟩ := by kernel_rfl
theorem A.k192 {K : List Kf} {Q : Rs → Prop} {f c args : List V} {st : St} (h : (f ++ args ++ c).length ≤ 23) : Run A.C K (valR (A.C.call (.func 192 f c) args st)) Q ↔ Run A.C (.fin [.cell 4 (some 2)] st :: K) (exR (A.C.code none A.b192 ⟨setRegs .nil 0 (f ++ args ++ c), 23, []⟩ ⟨st.h, st.n, []⟩)) Q := run_func (A.x0 (f := 192) (by decide)) (mf := ⟨23, [.cell 4 (some 2)], A.b192⟩) (by rw [A.t]; exact A.c192) h
def A.lb151_0 : MCode := .seq (.seq (.reg [⟨(some 11), .load (some 2) (.tmp 3), none⟩, ⟨(some 12), .call (.const (.func 187 [] [])) [(.tmp 11)], none⟩, ⟨(some 13), .bin .neq (.prim .int) true (.tmp 12) (.const (.int .i64 0)), none⟩])
 (.cond (.tmp 13)
 (.skip)
 (.exit 0)))
 (.block 1 (.seq (.reg [⟨(some 15), .load (some 2) (.tmp 2), none⟩, ⟨(some 16), .load (some 2) (.tmp 3), none⟩, ⟨(some 17), .call (.const (.func 188 [] [])) [(.tmp 15), (.tmp 16)], none⟩, ⟨(some 14), .mov (.tmp 17), none⟩, ⟨(some 18), .extract (.tmp 14) 0, none⟩, ⟨(some 19), .extract (.tmp 14) 1, none⟩, ⟨(some 5), .alloc [(.int .i64 0), .nilslice] 224, none⟩, ⟨(some 6), .alloc [(.int .i64 0), .nilslice] 224, none⟩, ⟨none, .store 2 (.tmp 5) (.tmp 18), none⟩, ⟨none, .store 2 (.tmp 6) (.tmp 19), none⟩])
 (.regD [⟨(some 20), .load (some 2) (.tmp 3), none⟩, ⟨(some 21), .load (some 2) (.tmp 6), none⟩, ⟨none, .store 2 (.tmp 2) (.tmp 20), none⟩, ⟨none, .store 2 (.tmp 3) (.tmp 21), none⟩] [0, 0, 1, 7])))
/-- lenslet/num.Gcd -/
def A.b151 : MCode := .seq (.reg [⟨(some 2), .box 224 (.tmp 0), none⟩, ⟨(some 3), .box 224 (.tmp 1), none⟩, ⟨(some 4), .alloc [(.int .i64 0), .nilslice] 224, none⟩])
 (.seq (.regD [⟨(some 7), .load (some 2) (.tmp 2), none⟩, ⟨(some 8), .call (.const (.func 186 [] [])) [(.tmp 7)], none⟩, ⟨(some 9), .load (some 2) (.tmp 3), none⟩, ⟨(some 10), .call (.const (.func 186 [] [])) [(.tmp 9)], none⟩, ⟨none, .store 2 (.tmp 2) (.tmp 8), none⟩, ⟨none, .store 2 (.tmp 3) (.tmp 10), none⟩] [0, 1, 0, 7, 15, 31])
 (.seq (.block 0 (.loop A.lb151_0))
 (.seq (.reg [⟨(some 22), .load (some 2) (.tmp 2), none⟩, ⟨none, .store 2 (.tmp 4) (.tmp 22), none⟩])
 (.ret))))
theorem A.c151 : cFunc Tryz.prog 151 = some ⟨23, [.cell 4 (some 2)], A.b151⟩ := by kernel_rfl
theorem A.k151 {K : List Kf} {Q : Rs → Prop} {f c args : List V} {st : St} (h : (f ++ args ++ c).length ≤ 23) : Run A.C K (valR (A.C.call (.func 151 f c) args st)) Q ↔ Run A.C (.fin [.cell 4 (some 2)] st :: K) (exR (A.C.code none A.b151 ⟨setRegs .nil 0 (f ++ args ++ c), 23, []⟩ ⟨st.h, st.n, []⟩)) Q := run_func (A.x0 (f := 151) (by decide)) (mf := ⟨23, [.cell 4 (some 2)], A.b151⟩) (by rw [A.t]; exact A.c151) h
def A.lb152_0 : MCode := .seq (.seq (.reg [⟨(some 13), .mov (.tmp 0), none⟩, ⟨(some 14), .len 0 (.tmp 13), none⟩, ⟨(some 15), .bin .gtr (.node []) false (.tmp 14) (.const (.int .i64 0)), none⟩])
 (.cond (.tmp 15)
 (.skip)
 (.exit 0)))
 (.block 1 (.seq (.reg [⟨(some 16), .mov (.tmp 0), none⟩, ⟨(some 17), .len 0 (.tmp 16), none⟩, ⟨(some 18), .mn [(.const (.int .i64 18)), (.tmp 17)], none⟩, ⟨(some 5), .mov (.tmp 18), none⟩])
 (.seq (.reg [⟨(some 20), .mov (.tmp 0), none⟩, ⟨(some 21), .mov (.tmp 5), none⟩, ⟨(some 22), .sliceStr (.tmp 20) none (some (.tmp 21)), none⟩, ⟨(some 23), .call (.const (.func 191 [] [])) [(.tmp 22)], none⟩, ⟨(some 19), .mov (.tmp 23), none⟩, ⟨(some 24), .extract (.tmp 19) 0, none⟩, ⟨(some 25), .extract (.tmp 19) 1, none⟩, ⟨(some 6), .mov (.tmp 24), none⟩, ⟨(some 7), .mov (.tmp 25), none⟩])
 (.seq (.regD [⟨(some 26), .load (some 2) (.tmp 4), none⟩, ⟨(some 27), .call (.const (.func 154 [] [])) [(.const (.int .i64 10))], none⟩, ⟨(some 28), .mov (.tmp 5), none⟩, ⟨(some 29), .call (.const (.func 192 [] [])) [(.tmp 27), (.tmp 28)], none⟩, ⟨(some 30), .call (.const (.func 181 [] [])) [(.tmp 26), (.tmp 29)], none⟩, ⟨(some 31), .mov (.tmp 6), none⟩, ⟨(some 32), .call (.const (.func 154 [] [])) [(.tmp 31)], none⟩, ⟨(some 33), .call (.const (.func 182 [] [])) [(.tmp 30), (.tmp 32)], none⟩, ⟨none, .store 2 (.tmp 4) (.tmp 33), none⟩] [0, 0, 0, 6, 15, 0, 63, 127, 255])
 (.reg [⟨(some 34), .mov (.tmp 0), none⟩, ⟨(some 35), .mov (.tmp 5), none⟩, ⟨(some 36), .sliceStr (.tmp 34) (some (.tmp 35)) none, none⟩, ⟨(some 0), .mov (.tmp 36), none⟩])))))
/-- lenslet/num.Read -/
def A.b152 : MCode := .seq (.reg [⟨(some 2), .alloc [(.int .i64 0), .nilslice] 224, none⟩])
 (.seq (.reg [⟨(some 8), .mov (.tmp 0), none⟩, ⟨(some 9), .call (.const (.func 189 [] [])) [(.tmp 8), (.const (.str [45]))], none⟩, ⟨(some 3), .mov (.tmp 9), none⟩])
 (.seq (.reg [⟨(some 10), .mov (.tmp 0), none⟩, ⟨(some 11), .call (.const (.func 190 [] [])) [(.tmp 10), (.const (.str [45]))], none⟩, ⟨(some 0), .mov (.tmp 11), none⟩])
 (.seq (.reg [⟨(some 12), .build [(.int .i64 0), .nilslice] [], none⟩, ⟨(some 4), .alloc [(.int .i64 0), .nilslice] 224, none⟩, ⟨none, .store 2 (.tmp 4) (.tmp 12), none⟩])
 (.seq (.block 0 (.loop A.lb152_0))
 (.seq (.seq (.reg [⟨(some 37), .mov (.tmp 3), none⟩])
 (.cond (.tmp 37)
 (.seq (.reg [⟨(some 38), .load (some 2) (.tmp 4), none⟩, ⟨(some 39), .call (.const (.func 193 [] [])) [(.tmp 38)], none⟩, ⟨none, .store 2 (.tmp 2) (.tmp 39), none⟩])
 (.ret))
 (.skip)))
 (.seq (.reg [⟨(some 40), .load (some 2) (.tmp 4), none⟩, ⟨none, .store 2 (.tmp 2) (.tmp 40), none⟩])
 (.ret)))))))
theorem A.c152 : cFunc Tryz.prog 152 = some ⟨41, [.cell 2 (some 2)], A.b152⟩ := by kernel_rfl
theorem A.k152 {K : List Kf} {Q : Rs → Prop} {f c args : List V} {st : St} (h : (f ++ args ++ c).length ≤ 41) : Run A.C K (valR (A.C.call (.func 152 f c) args st)) Q ↔ Run A.C (.fin [.cell 2 (some 2)] st :: K) (exR (A.C.code none A.b152 ⟨setRegs .nil 0 (f ++ args ++ c), 41, []⟩ ⟨st.h, st.n, []⟩)) Q := run_func (A.x0 (f := 152) (by decide)) (mf := ⟨41, [.cell 2 (some 2)], A.b152⟩) (by rw [A.t]; exact A.c152) h

structure PwJ (h : T O) (N m M k a o : Nat) (r : T V) (st : St) : Prop where
  m1 : N + 2 ≤ m
  m2 : m < st.n
  w : oldIds N st.w = []
  keep : Keeps h N st.h st.n
  r1 : r.get 1 = some (.int .i64 k)
  ra : st.h.get N = some (.cells [.int .i64 a, .nilslice] 224 true)
  ro : st.h.get m = some (.cells [.int .i64 o, .nilslice] 224 true)
  rr : st.h.get (N + 1) = some (.cells [.int .i64 0, .nilslice] 224 true)
  ex : o * a ^ k = M
  a1 : 1 ≤ a
  o1 : 1 ≤ o
theorem pw_bound {M k a o : Nat} (h : o * a ^ k = M) (ha : 1 ≤ a) (ho : 1 ≤ o) (hk : 1 ≤ k) : o * a ≤ M ∧ a ≤ M ∧ o ≤ M := by
  have h1 : a ^ 1 ≤ a ^ k := Nat.pow_le_pow_right ha hk
  rw [Nat.pow_one] at h1
  have h2 : o * a ≤ o * a ^ k := Nat.mul_le_mul_left o h1
  have h3 : 1 * a ≤ o * a := Nat.mul_le_mul_right a ho
  have h4 : o * 1 ≤ o * a := Nat.mul_le_mul_left o ha
  omega
theorem pw_sq {M k a o : Nat} (h : o * a ^ k = M) (ha : 1 ≤ a) (ho : 1 ≤ o) (hk : 1 < k) : a * a ≤ M := by
  have h1 : a ^ 2 ≤ a ^ k := Nat.pow_le_pow_right ha hk
  have h2 : 1 * a ^ k ≤ o * a ^ k := Nat.mul_le_mul_right _ ho
  have h3 : a ^ 2 = a * a := by rw [Nat.pow_two]
  omega
theorem pw_odd {M k a o : Nat} (h : o * a ^ k = M) (hk : k % 2 = 1) : (o * a) * (a * a) ^ (k / 2) = M := by
  rw [← h, ← Nat.pow_two, ← Nat.pow_mul, Nat.mul_assoc]
  congr 1
  conv => rhs; rw [show k = 2 * (k / 2) + 1 by omega, Nat.pow_succ]
  rw [Nat.mul_comm]
theorem pw_even {M k a o : Nat} (h : o * a ^ k = M) (hk : k % 2 = 0) : o * (a * a) ^ (k / 2) = M := by
  rw [← h, ← Nat.pow_two, ← Nat.pow_mul, show 2 * (k / 2) = k by omega]
theorem pow_fn {a k : Nat} (ha : 1 ≤ a) (hk : 1 ≤ k) (hm : a ^ k < 9223372036854775808) (hk2 : k < 64) {h : T O} {N : Nat} : Fn A.C 192 [sI a, .int .i64 k] h N (fun v _ _ => v = sI ((a ^ k : Nat) : Int)) := by
  intro w
  rw [call_run, A.k192 (by simp)]
  simp (disch := first | (simp; done) | omega | (simp only [dg_length, dgi_length, List.length_cons]; omega) | rfl) [-getElem?_pos, List.getElem?_cons_zero, List.getElem?_cons_succ, A.b192, partV, slc, splice, sI]
  refine run_fn of_fn ?_
  rintro v h1 n1 k1 rfl
  have kle := k1.le
  have g0 := k1.get N (by omega)
  have g1 := k1.get (N + 1) (by omega)
  simp at g0 g1
  simp (disch := first | (simp; done) | omega | (simp only [dg_length, dgi_length, List.length_cons]; omega) | rfl) [-getElem?_pos, List.getElem?_cons_zero, List.getElem?_cons_succ, partV, slc, splice, sI]
  refine run_loopD [(1, 1), (7, 21)] (fun e r st => e = .exit 0 ∧ ∃ a' o, PwJ h N n1 (a ^ k) 0 a' o r st) (fun m r st => ∃ a' o, m < 64 ∧ PwJ h N n1 (a ^ k) m a' o r st) k ?_ ?_ ?_
  · refine ⟨a, 1, hk2, ⟨by omega, by show n1 < n1 + 1; omega, ?_, ?_, rfl, ?_, by simp, ?_, by simp, ha, by omega⟩⟩
    · simp [oldIds]; omega
    · exact (((((Keeps.refl.set (Nat.le_refl N)).set (by omega)).up (Nat.le_add_right N 2)).trans k1).set (by omega)).set (by omega) |>.up (Nat.le_succ n1)
    · rw [T.get_set, if_neg (by omega), T.get_set, if_neg (by omega), g0]
    · rw [T.get_set, if_neg (by omega), T.get_set, if_neg (by omega), g1]
  · rintro m r ⟨H, n2, W⟩ hr hf ⟨a', o, hm64, J⟩
    obtain ⟨m1, m2, hW, hK, r1, ra, ro, rr, ex, a1, o1⟩ := J
    simp only at m2 hW hK ra ro rr
    rw [code_run]
    have b1 := and1_i64 (k := m) (by omega)
    have b2 := shr1_i64 (k := m)
    by_cases hm0 : m = 0
    · subst hm0
      simp (disch := first | (simp; done) | omega | (simp only [dg_length, dgi_length, List.length_cons]; omega) | rfl) [-getElem?_pos, List.getElem?_cons_zero, List.getElem?_cons_succ, A.lb192_0, hr, hf, r1]
      exact ⟨a', o, ⟨m1, m2, hW, hK, by simp [r1], ra, ro, rr, ex, a1, o1⟩⟩
    · have c1 : (0 : Int) < (m : Int) := by omega
      have c2 : 0 < m := by omega
      obtain ⟨q1, q2, q3⟩ := pw_bound ex a1 o1 c2
      by_cases hp : m % 2 = 1
      · have p1 : (m : Int) % 2 = 1 := by omega
        simp (disch := first | (simp; done) | omega | (simp only [dg_length, dgi_length, List.length_cons]; omega) | rfl) [-getElem?_pos, List.getElem?_cons_zero, List.getElem?_cons_succ, A.lb192_0, hr, hf, r1, c1, c2, b1, b2, hp, p1, eqPrim, ra, ro, partV, slc]
        refine run_fn (mul_fn (y := o) (z := a') (by omega) (by omega) (by omega)) ?_
        rintro v h3 n3 k3 rfl
        have kle3 := k3.le
        by_cases hp1 : 1 < m
        · have p2 : (1 : Int) < (m : Int) := by omega
          have q4 := pw_sq ex a1 o1 hp1
          have g3 := (k3.get N (by omega)).trans ra
          have g4 := (k3.get n1 (by omega)).trans ro
          have g5 := (k3.get (N + 1) (by omega)).trans rr
          have d1 : ¬ N = n1 := by omega
          have d2 : ¬ N + 1 = n1 := by omega
          simp (disch := first | (simp; done) | omega | (simp only [dg_length, dgi_length, List.length_cons]; omega) | rfl) [-getElem?_pos, List.getElem?_cons_zero, List.getElem?_cons_succ, r1, g3, g4, sI, partV, slc, splice, hp1, p2, hr, d1]
          refine run_fn (mul_fn (y := a') (z := a') (by omega) (by omega) (by omega)) ?_
          rintro v h4 n4 k4 rfl
          have kle4 := k4.le
          have f1 := k4.get N (by omega)
          have f2 := k4.get n1 (by omega)
          have f3 := k4.get (N + 1) (by omega)
          simp [d1, d2, g3, g4, g5] at f1 f2 f3
          simp (disch := first | (simp; done) | omega | (simp only [dg_length, dgi_length, List.length_cons]; omega) | rfl) [-getElem?_pos, List.getElem?_cons_zero, List.getElem?_cons_succ, r1, f1, f2, f3, sI, partV, slc, splice, b2, hr, hf]
          have wok : ¬ n1 < N := by omega
          refine ⟨m / 2, by omega, by omega, a' * a', o * a', ⟨m1, by show n1 < n4; omega, by simp [oldIds, hW, wok], ?_, by simp, by simp, ?_, ?_, pw_odd ex hp, Nat.mul_pos a1 a1, Nat.mul_pos o1 a1⟩⟩
          · exact (((hK.trans k3).set (by omega)).trans k4).set (by omega)
          · rw [T.get_set, if_neg (by omega)]; exact f2
          · rw [T.get_set, if_neg (by omega)]; exact f3
        · have p2 : ¬ (1 : Int) < (m : Int) := by omega
          have m0 : m / 2 = 0 := by omega
          have m1' : m = 1 := by omega
          have g3 := (k3.get N (by omega)).trans ra
          have g4 := (k3.get n1 (by omega)).trans ro
          have g5 := (k3.get (N + 1) (by omega)).trans rr
          have d1 : ¬ N = n1 := by omega
          have d2 : ¬ N + 1 = n1 := by omega
          have wok : ¬ n1 < N := by omega
          simp (disch := first | (simp; done) | omega | (simp only [dg_length, dgi_length, List.length_cons]; omega) | rfl) [-getElem?_pos, List.getElem?_cons_zero, List.getElem?_cons_succ, r1, g3, g4, sI, partV, slc, splice, hr, hf, d1, b2, hp1, p2]
          refine ⟨m / 2, by omega, by omega, a', o * a', ⟨m1, by show n1 < n3; omega, by simp [oldIds, hW, wok], ?_, by simp, ?_, by simp, ?_, by rw [m0, ← ex, m1']; simp, a1, Nat.mul_pos o1 a1⟩⟩
          · exact (hK.trans k3).set (by omega)
          · simp [d1, g3]
          · simp [d2, g5]
      · have p1 : ¬ (m : Int) % 2 = 1 := by omega
        have p0 : m % 2 = 0 := by omega
        have p2 : (1 : Int) < (m : Int) := by omega
        have hp1 : 1 < m := by omega
        have q4 := pw_sq ex a1 o1 hp1
        simp (disch := first | (simp; done) | omega | (simp only [dg_length, dgi_length, List.length_cons]; omega) | rfl) [-getElem?_pos, List.getElem?_cons_zero, List.getElem?_cons_succ, A.lb192_0, hr, hf, r1, c1, c2, b1, b2, hp, p1, p2, hp1, eqPrim, ra, ro, partV, slc]
        refine run_fn (mul_fn (y := a') (z := a') (by omega) (by omega) (by omega)) ?_
        rintro v h3 n3 k3 rfl
        have kle3 := k3.le
        have g3 := (k3.get N (by omega)).trans ra
        have g4 := (k3.get n1 (by omega)).trans ro
        have g5 := (k3.get (N + 1) (by omega)).trans rr
        have d1 : ¬ n1 = N := by omega
        simp (disch := first | (simp; done) | omega | (simp only [dg_length, dgi_length, List.length_cons]; omega) | rfl) [-getElem?_pos, List.getElem?_cons_zero, List.getElem?_cons_succ, r1, g3, g4, sI, partV, slc, splice, b2, hr, hf]
        refine ⟨m / 2, by omega, by omega, a' * a', o, ⟨m1, by show n1 < n3; omega, by simp [oldIds, hW], ?_, by simp, by simp, ?_, ?_, pw_even ex p0, Nat.mul_pos a1 a1, o1⟩⟩
        · exact (hK.trans k3).set (by omega)
        · simp [d1, g4]
        · simp [g5]
  · rintro _ r ⟨H, n2, W⟩ hr ⟨rfl, a', o, J⟩
    obtain ⟨m1, m2, hW, hK, r1, ra, ro, rr, ex, a1, o1⟩ := J
    simp only at m2 hW hK ra ro rr
    have d2 : ¬ N + 1 = n1 := by omega
    simp at ex
    subst ex
    simp (disch := first | (simp; done) | omega | (simp only [dg_length, dgi_length, List.length_cons]; omega) | rfl) [-getElem?_pos, List.getElem?_cons_zero, List.getElem?_cons_succ, hr, partV, slc, splice, ro, rr, Ret, sI, hW]
    exact hK.set (by omega)

structure GcJ (h : T O) (N x y G : Nat) (st : St) : Prop where
  n : N + 2 < st.n
  w : oldIds N st.w = []
  keep : Keeps h N st.h st.n
  rx : st.h.get N = some (.cells [.int .i64 x, .nilslice] 224 true)
  ry : st.h.get (N + 1) = some (.cells [.int .i64 y, .nilslice] 224 true)
  rr : st.h.get (N + 2) = some (.cells [.int .i64 0, .nilslice] 224 true)
  ex : Nat.gcd x y = G
  lx : x < 9223372036854775808
  ly : y < 9223372036854775808
theorem gcd_fn {x y : Nat} (hx : x < 9223372036854775808) (hy : y < 9223372036854775808) {h : T O} {N : Nat} : Fn A.C 151 [sI x, sI y] h N (fun v _ _ => v = sI (Nat.gcd x y : Nat)) := by
  intro w
  rw [call_run, A.k151 (by simp)]
  simp (disch := first | (simp; done) | omega | (simp only [dg_length, dgi_length, List.length_cons]; omega) | rfl) [-getElem?_pos, List.getElem?_cons_zero, List.getElem?_cons_succ, A.b151, partV, slc, splice, sI]
  refine run_fn (abs_fn (z := x) (by omega)) ?_
  rintro v h1 n1 k1 rfl
  have kle := k1.le
  have g0 := k1.get N (by omega)
  have g1 := k1.get (N + 1) (by omega)
  have g2 := k1.get (N + 2) (by omega)
  simp at g0 g1 g2
  have o1 : N + 1 < n1 := by omega
  simp (disch := first | (simp; done) | omega | (simp only [dg_length, dgi_length, List.length_cons]; omega) | rfl) [-getElem?_pos, List.getElem?_cons_zero, List.getElem?_cons_succ, partV, slc, splice, sI, g0, g1]
  refine run_fn (abs_fn (z := y) (by omega)) ?_
  rintro v h2 n2 k2 rfl
  have kle2 := k2.le
  have f0 := (k2.get N (by omega)).trans g0
  have f1 := (k2.get (N + 1) (by omega)).trans g1
  have f2 := (k2.get (N + 2) (by omega)).trans g2
  have p1 : N < n2 := by omega
  have p2 : N + 1 < n2 := by omega
  simp (disch := first | (simp; done) | omega | (simp only [dg_length, dgi_length, List.length_cons]; omega) | rfl) [-getElem?_pos, List.getElem?_cons_zero, List.getElem?_cons_succ, partV, slc, splice, sI, f0, f1, o1, p1, p2, pairsOk.chk]
  refine run_loopD [(5, 6), (11, 21)] (fun e r st => e = .exit 0 ∧ ∃ x', GcJ h N x' 0 (Nat.gcd x y) st) (fun m r st => ∃ x', GcJ h N x' m (Nat.gcd x y) st) y ?_ ?_ ?_
  · refine ⟨x, ⟨by show N + 2 < n2; omega, by simp [oldIds], ?_, by simp, by simp, by simp [f2], rfl, hx, hy⟩⟩
    exact (((((((Keeps.refl.set (Nat.le_refl N)).set (by omega)).set (by omega)).up (Nat.le_add_right N 3)).trans k1).trans k2).set (Nat.le_refl N)).set (by omega)
  · rintro m r ⟨H, n3, W⟩ hr hf ⟨x', J⟩
    obtain ⟨hn, hW, hK, rx, ry, rr, ex, lx, ly⟩ := J
    simp only at hn hW hK rx ry rr
    rw [code_run]
    simp (disch := first | (simp; done) | omega | (simp only [dg_length, dgi_length, List.length_cons]; omega) | rfl) [-getElem?_pos, List.getElem?_cons_zero, List.getElem?_cons_succ, A.lb151_0, hr, hf, ry, partV, slc]
    refine run_fn (sign_fn (z := m)) ?_
    rintro v h4 n4 k4 rfl
    have kle4 := k4.le
    have r4x := (k4.get N (by omega)).trans rx
    have r4y := (k4.get (N + 1) (by omega)).trans ry
    have r4r := (k4.get (N + 2) (by omega)).trans rr
    by_cases hm : m = 0
    · subst hm
      simp (disch := first | (simp; done) | omega | (simp only [dg_length, dgi_length, List.length_cons]; omega) | rfl) [-getElem?_pos, List.getElem?_cons_zero, List.getElem?_cons_succ, hr, hf, eqPrim, hW]
      exact ⟨x', ⟨by show N + 2 < n4; omega, hW, hK.trans k4, r4x, r4y, r4r, ex, lx, ly⟩⟩
    · have s1 : ¬ (m : Int) < 0 := by omega
      have s2 : ¬ (m : Int) = 0 := by omega
      simp (disch := first | (simp; done) | omega | (simp only [dg_length, dgi_length, List.length_cons]; omega) | rfl) [-getElem?_pos, List.getElem?_cons_zero, List.getElem?_cons_succ, hr, hf, eqPrim, hW, s1, s2, hm, r4x, r4y, partV, slc]
      refine run_fn (divMod_fn (y := x') (z := m) (by omega) (by omega) (by omega)) ?_
      rintro v h5 n5 k5 rfl
      have kle5 := k5.le
      have r5x := (k5.get N (by omega)).trans r4x
      have r5y := (k5.get (N + 1) (by omega)).trans r4y
      have r5r := (k5.get (N + 2) (by omega)).trans r4r
      have d1 : ¬ N + 1 = n5 := by omega
      have d2 : ¬ N + 1 = n5 + 1 := by omega
      have d3 : ¬ n5 = N := by omega
      have d4 : ¬ n5 + 1 = N := by omega
      have d5 : ¬ n5 = N + 1 := by omega
      have d7 : ¬ N = n5 := by omega
      have d8 : ¬ N = n5 + 1 := by omega
      have q1 : N < n5 := by omega
      have q2 : N + 1 < n5 := by omega
      have q3 : N < n5 + 1 := by omega
      have q4 : N + 1 < n5 + 1 := by omega
      have q5 : N < n5 + 2 := by omega
      have q6 : N + 1 < n5 + 2 := by omega
      simp (disch := first | (simp; done) | omega | (simp only [dg_length, dgi_length, List.length_cons]; omega) | rfl) [-getElem?_pos, List.getElem?_cons_zero, List.getElem?_cons_succ, hr, hf, eqPrim, hW, r5x, r5y, partV, slc, splice, d1, d2, d3, d4, d5, d7, d8, q1, q2, q3, q4, q5, q6, sI]
      have d9 : ¬ n5 + 1 = N + 1 := by omega
      have d10 : ¬ N = n5 + 1 := by omega
      have d11 : N < n5 + 1 + 1 := by omega
      rw [k_regD (by simp [d4, d9, d10, d11])]
      have wok : ¬ n5 < N := by omega
      have wok2 : ¬ n5 + 1 < N := by omega
      simp (disch := first | (simp; done) | omega | (simp only [dg_length, dgi_length, List.length_cons]; omega) | rfl) [-getElem?_pos, List.getElem?_cons_zero, List.getElem?_cons_succ, hr, hf, hW, wok, wok2]
      have em : ((x' : Int) % (m : Int)) = ((x' % m : Nat) : Int) := rfl
      refine ⟨x' % m, Nat.mod_lt _ (by omega), m, ⟨by show N + 2 < n5 + 1 + 1; omega, by simp [oldIds, hW, wok, wok2], ?_, by simp, by simp, ?_, ?_, ly, Nat.lt_trans (Nat.mod_lt _ (by omega)) ly⟩⟩
      · refine Keeps.up (n1 := n5) ?_ (by show n5 ≤ n5 + 1 + 1; omega)
        repeat (refine Keeps.set (by omega) ?_)
        exact (hK.trans k4).trans k5
      · have t1 : ¬ N + 2 = n5 := by omega
        have t2 : ¬ N + 2 = n5 + 1 := by omega
        simp [t1, t2, r5r]
      · rw [← ex, Nat.gcd_comm x' m, Nat.gcd_rec m x', Nat.gcd_comm]
  · rintro _ r ⟨H, n2, W⟩ hr ⟨rfl, x', J⟩
    obtain ⟨hn, hW, hK, rx, ry, rr, ex, lx, ly⟩ := J
    simp only at hn hW hK rx ry rr
    simp at ex
    subst ex
    simp (disch := first | (simp; done) | omega | (simp only [dg_length, dgi_length, List.length_cons]; omega) | rfl) [-getElem?_pos, List.getElem?_cons_zero, List.getElem?_cons_succ, hr, partV, slc, splice, rx, rr, Ret, sI, hW]
    exact hK.set (by omega)

theorem read_fn {s : Str} (hd : allD s = true) (h1 : 1 ≤ s.length) (h2 : s.length ≤ 18) {h : T O} {N : Nat} : Fn A.C 152 [.str s] h N (fun v _ _ => v = sI (numV s : Nat)) := by
  intro w
  obtain ⟨c, hc⟩ := get_of_lt (l := s) (k := 0) (by omega)
  have hcd := allD_get hd hc
  have hn : negS s = false := by
    cases s with
    | nil => rfl
    | cons d s => simp at hc; subst hc; simp only [negS, decide_eq_false_iff_not]; unfold u8I at hcd; omega
  have hb : bodyS s = s := by simp [bodyS, hn]
  rw [call_run, A.k152 (by simp)]
  simp (disch := first | (simp; done) | omega | (simp only [dg_length, dgi_length, List.length_cons]; omega) | rfl) [-getElem?_pos, List.getElem?_cons_zero, List.getElem?_cons_succ, A.b152, hasPrefix_eq, trimPrefix_eq, hn, hb, partV, slc, splice, sI]
  have hv := numV_lt' hd
  have hp := p10_le h2
  have hp2 : (10 : Nat) ^ 18 = 1000000000000000000 := by decide
  refine run_loopD [(0, 0), (5, 7), (13, 36)] (fun e r st => e = .exit 0 ∧ N + 1 < st.n ∧ oldIds N st.w = [] ∧ Keeps h N st.h st.n ∧ st.h.get N = some (.cells [.int .i64 0, .nilslice] 224 true) ∧ st.h.get (N + 1) = some (.cells [.int .i64 (numV s : Nat), .nilslice] 224 true)) (fun m r st => N + 1 < st.n ∧ oldIds N st.w = [] ∧ Keeps h N st.h st.n ∧ st.h.get N = some (.cells [.int .i64 0, .nilslice] 224 true) ∧ ((m = 1 ∧ r.get 0 = some (.str s) ∧ st.h.get (N + 1) = some (.cells [.int .i64 0, .nilslice] 224 true)) ∨ (m = 0 ∧ r.get 0 = some (.str []) ∧ st.h.get (N + 1) = some (.cells [.int .i64 (numV s : Nat), .nilslice] 224 true)))) 1 ?_ ?_ ?_
  · refine ⟨by show N + 1 < N + 1 + 1; omega, by simp [oldIds], ?_, by simp, .inl ⟨rfl, by simp, by simp⟩⟩
    refine Keeps.up (n1 := N) ?_ (by show N ≤ N + 1 + 1; omega)
    repeat (refine Keeps.set (by omega) ?_)
    exact Keeps.refl
  · rintro m r ⟨H, n3, W⟩ hr hf ⟨hN, hW, hK, r0, ⟨rfl, g0, r1⟩ | ⟨rfl, g0, r1⟩⟩
    · simp only at hN hW hK r0 r1
      rw [code_run]
      have hne : s ≠ [] := fun h => by rw [h] at h1; simp at h1
      have c1 : (0 : Int) < (s.length : Int) := by omega
      have c2 : 0 < s.length := by omega
      have c3 : ¬ (18 : Int) < (s.length : Int) := by omega
      have c4 : ((s.length : Int) < 18) ∨ (s.length : Int) = 18 := by omega
      have mn : minF (.int .i64 18) [.int .i64 (s.length : Int)] = some (.int .i64 (s.length : Int)) := by
        unfold minF
        rcases c4 with c4 | c4
        · simp [c4, minF]
        · rw [if_neg (by omega)]; simp [minF, c4]
      simp (disch := first | (simp; done) | omega | (simp only [dg_length, dgi_length, List.length_cons]; omega) | rfl) [-getElem?_pos, List.getElem?_cons_zero, List.getElem?_cons_succ, A.lb152_0, hr, hf, g0, hne, c1, c2, op_mn, minO, mn, evOpt]
      refine run_fn (atoi_fn hd h1 h2) ?_
      rintro v h4 n4 k4 rfl
      have kle4 := k4.le
      have r40 := (k4.get N (by omega)).trans r0
      have r41 := (k4.get (N + 1) (by omega)).trans r1
      simp (disch := first | (simp; done) | omega | (simp only [dg_length, dgi_length, List.length_cons]; omega) | rfl) [-getElem?_pos, List.getElem?_cons_zero, List.getElem?_cons_succ, hr, hf, g0, r41, partV, slc]
      refine run_fn of_fn ?_
      rintro v h5 n5 k5 rfl
      have kle5 := k5.le
      simp (disch := first | (simp; done) | omega | (simp only [dg_length, dgi_length, List.length_cons]; omega) | rfl) [-getElem?_pos, List.getElem?_cons_zero, List.getElem?_cons_succ, hr, hf, g0, sI]
      refine run_fn (pow_fn (a := 10) (k := s.length) (by omega) h1 (by omega) (by omega)) ?_
      rintro v h6 n6 k6 rfl
      have kle6 := k6.le
      simp (disch := first | (simp; done) | omega | (simp only [dg_length, dgi_length, List.length_cons]; omega) | rfl) [-getElem?_pos, List.getElem?_cons_zero, List.getElem?_cons_succ, hr, hf, g0]
      refine run_fn (mul_fn (y := 0) (z := 10 ^ s.length) (by omega) (by omega) (by omega)) ?_
      rintro v h7 n7 k7 rfl
      have kle7 := k7.le
      simp (disch := first | (simp; done) | omega | (simp only [dg_length, dgi_length, List.length_cons]; omega) | rfl) [-getElem?_pos, List.getElem?_cons_zero, List.getElem?_cons_succ, hr, hf, g0]
      refine run_fn of_fn ?_
      rintro v h8 n8 k8 rfl
      have kle8 := k8.le
      simp (disch := first | (simp; done) | omega | (simp only [dg_length, dgi_length, List.length_cons]; omega) | rfl) [-getElem?_pos, List.getElem?_cons_zero, List.getElem?_cons_succ, hr, hf, g0, sI]
      refine run_fn (add_fn (y := 0) (z := (numV s : Nat)) (by omega) (by omega) (by omega)) ?_
      rintro v h9 n9 k9 rfl
      have kle9 := k9.le
      have kk := (((k5.trans k6).trans k7).trans k8).trans k9
      have r90 := (kk.get N (by omega)).trans r40
      have r91 := (kk.get (N + 1) (by omega)).trans r41
      have d1 : ¬ N = N + 1 := by omega
      have d2 : N + 1 < n4 := by omega
      have d3 : N + 1 < n5 := by omega
      have d4 : N + 1 < n9 := by omega
      have d5 : N + 1 < n8 := by omega
      have d6 : N + 1 < n7 := by omega
      have d7 : N + 1 < n6 := by omega
      simp (disch := first | (simp; done) | omega | (simp only [dg_length, dgi_length, List.length_cons]; omega) | rfl) [-getElem?_pos, List.getElem?_cons_zero, List.getElem?_cons_succ, hr, hf, g0, sI, partV, slc, splice, r91, d1, d2, d3, d4, d5, d6, d7, hW, evOpt, r90, pairsOk.chk]
      exact ((hK.trans k4).trans kk).set (by omega)
    · simp only at hN hW hK r0 r1
      rw [code_run]
      simp (disch := first | (simp; done) | omega | (simp only [dg_length, dgi_length, List.length_cons]; omega) | rfl) [-getElem?_pos, List.getElem?_cons_zero, List.getElem?_cons_succ, A.lb152_0, hr, hf, g0]
      exact ⟨hN, hW, hK, r0, r1⟩
  · rintro _ r ⟨H, n2, W⟩ hr ⟨rfl, hN, hW, hK, r0, r1⟩
    simp only at hN hW hK r0 r1
    simp (disch := first | (simp; done) | omega | (simp only [dg_length, dgi_length, List.length_cons]; omega) | rfl) [-getElem?_pos, List.getElem?_cons_zero, List.getElem?_cons_succ, hr, partV, slc, splice, r0, r1, Ret, sI, hW]
    exact hK.set (by omega)

end Go.Mx
