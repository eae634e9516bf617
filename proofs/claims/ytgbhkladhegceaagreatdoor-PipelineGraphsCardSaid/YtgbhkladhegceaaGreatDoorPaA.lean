/-
  strconv.Atoi of at most 18 digits.
-/
import Derived.Test.YtgbhkladhegceaaGreatDoorPaD
set_option linter.all false
namespace Go.Mx
open Go Go.Proofs
set_option maxRecDepth 1000000
set_option linter.unusedSimpArgs false
set_option linter.unusedVariables false
def A.lb233_0 : MCode := .seq (.reg [⟨(some 50), .bin .lss (.node []) false (.tmp 49) (.tmp 48), none⟩])
 (.seq (.cond (.tmp 50)
 (.skip)
 (.exit 0))
 (.seq (.block 1 (.seq (.reg [⟨(some 51), .iaddrSl 1 (.tmp 47) (.tmp 49), none⟩, ⟨(some 52), .load none (.tmp 51), none⟩, ⟨(some 8), .mov (.tmp 52), none⟩])
 (.seq (.reg [⟨(some 53), .mov (.tmp 8), none⟩, ⟨(some 54), .bin .sub (.node []) false (.tmp 53) (.const (.int .u8 48)), none⟩, ⟨(some 8), .mov (.tmp 54), none⟩])
 (.seq (.seq (.reg [⟨(some 55), .mov (.tmp 8), none⟩, ⟨(some 56), .bin .gtr (.node []) false (.tmp 55) (.const (.int .u8 9)), none⟩])
 (.cond (.tmp 56)
 (.seq (.reg [⟨(some 57), .mkiface 341 (.const (.int .i64 2)), none⟩, ⟨(some 2), .mov (.const (.int .i64 0)), none⟩, ⟨(some 3), .mov (.tmp 57), none⟩])
 (.ret))
 (.skip)))
 (.reg [⟨(some 58), .mov (.tmp 6), none⟩, ⟨(some 59), .bin .mul (.node []) false (.tmp 58) (.const (.int .i64 10)), none⟩, ⟨(some 60), .mov (.tmp 8), none⟩, ⟨(some 61), .convInt .i64 (.tmp 60), none⟩, ⟨(some 62), .bin .add (.node []) false (.tmp 59) (.tmp 61), none⟩, ⟨(some 6), .mov (.tmp 62), none⟩])))))
 (.reg [⟨(some 63), .bin .add (.node []) false (.tmp 49) (.const (.int .i64 1)), none⟩, ⟨(some 49), .mov (.tmp 63), none⟩])))
/-- internal/strconv.Atoi -/
def A.b233 : MCode := .seq (.reg [⟨(some 2), .mov (.const (.int .i64 0)), none⟩, ⟨(some 3), .mov (.const .niliface), none⟩])
 (.seq (.reg [⟨(some 11), .mov (.tmp 0), none⟩, ⟨(some 12), .len 0 (.tmp 11), none⟩, ⟨(some 4), .mov (.tmp 12), none⟩])
 (.seq (.seq (.reg [⟨(some 13), .mov (.const (.bool false)), none⟩, ⟨(some 14), .mov (.tmp 4), (some (13, true))⟩, ⟨(some 15), .bin .lss (.node []) false (.const (.int .i64 0)) (.tmp 14), (some (13, true))⟩, ⟨(some 16), .mov (.tmp 15), (some (13, true))⟩, ⟨(some 17), .mov (.tmp 4), (some (16, true))⟩, ⟨(some 18), .bin .lss (.node []) false (.tmp 17) (.const (.int .i64 10)), (some (16, true))⟩, ⟨(some 19), .pick (.tmp 16) (.tmp 18) (.const (.bool false)), (some (13, true))⟩, ⟨(some 20), .pick (.tmp 13) (.tmp 19) (.const (.bool false)), none⟩, ⟨(some 21), .mov (.tmp 20), none⟩, ⟨(some 22), .mov (.const (.bool true)), (some (21, false))⟩, ⟨(some 23), .mov (.tmp 4), (some (22, true))⟩, ⟨(some 24), .bin .lss (.node []) false (.const (.int .i64 0)) (.tmp 23), (some (22, true))⟩, ⟨(some 25), .mov (.tmp 24), (some (22, true))⟩, ⟨(some 26), .mov (.tmp 4), (some (25, true))⟩, ⟨(some 27), .bin .lss (.node []) false (.tmp 26) (.const (.int .i64 19)), (some (25, true))⟩, ⟨(some 28), .pick (.tmp 25) (.tmp 27) (.const (.bool false)), (some (22, true))⟩, ⟨(some 29), .pick (.tmp 22) (.tmp 28) (.const (.bool false)), (some (21, false))⟩, ⟨(some 30), .pick (.tmp 21) (.const (.bool true)) (.tmp 29), none⟩])
 (.cond (.tmp 30)
 (.seq (.reg [⟨(some 31), .mov (.tmp 0), none⟩, ⟨(some 5), .mov (.tmp 31), none⟩])
 (.seq (.seq (.reg [⟨(some 32), .mov (.tmp 0), none⟩, ⟨(some 33), .idxStr (.tmp 32) (.const (.int .i64 0)), none⟩, ⟨(some 34), .bin .eql (.prim .int) true (.tmp 33) (.const (.int .u8 45)), none⟩, ⟨(some 35), .mov (.tmp 34), none⟩, ⟨(some 36), .mov (.tmp 0), (some (35, false))⟩, ⟨(some 37), .idxStr (.tmp 36) (.const (.int .i64 0)), (some (35, false))⟩, ⟨(some 38), .bin .eql (.prim .int) true (.tmp 37) (.const (.int .u8 43)), (some (35, false))⟩, ⟨(some 39), .pick (.tmp 35) (.const (.bool true)) (.tmp 38), none⟩])
 (.cond (.tmp 39)
 (.seq (.reg [⟨(some 40), .mov (.tmp 0), none⟩, ⟨(some 41), .sliceStr (.tmp 40) (some (.const (.int .i64 1))) none, none⟩, ⟨(some 0), .mov (.tmp 41), none⟩])
 (.seq (.reg [⟨(some 42), .mov (.tmp 0), none⟩, ⟨(some 43), .len 0 (.tmp 42), none⟩, ⟨(some 44), .bin .lss (.node []) false (.tmp 43) (.const (.int .i64 1)), none⟩])
 (.cond (.tmp 44)
 (.seq (.reg [⟨(some 45), .mkiface 341 (.const (.int .i64 2)), none⟩, ⟨(some 2), .mov (.const (.int .i64 0)), none⟩, ⟨(some 3), .mov (.tmp 45), none⟩])
 (.ret))
 (.skip))))
 (.skip)))
 (.seq (.reg [⟨(some 6), .mov (.const (.int .i64 0)), none⟩])
 (.seq (.seq (.reg [⟨(some 46), .mov (.tmp 0), none⟩, ⟨(some 47), .strBytes 5 (.tmp 46), none⟩, ⟨(some 48), .len 1 (.tmp 47), none⟩, ⟨(some 49), .mov (.const (.int .i64 0)), none⟩])
 (.block 0 (.loop A.lb233_0)))
 (.seq (.seq (.reg [⟨(some 64), .mov (.tmp 5), none⟩, ⟨(some 65), .idxStr (.tmp 64) (.const (.int .i64 0)), none⟩, ⟨(some 66), .bin .eql (.prim .int) true (.tmp 65) (.const (.int .u8 45)), none⟩])
 (.cond (.tmp 66)
 (.reg [⟨(some 67), .mov (.tmp 6), none⟩, ⟨(some 68), .un .neg (.tmp 67), none⟩, ⟨(some 6), .mov (.tmp 68), none⟩])
 (.skip)))
 (.seq (.reg [⟨(some 69), .mov (.tmp 6), none⟩, ⟨(some 2), .mov (.tmp 69), none⟩, ⟨(some 3), .mov (.const .niliface), none⟩])
 (.ret)))))))
 (.skip)))
 (.seq (.reg [⟨(some 71), .mov (.tmp 0), none⟩, ⟨(some 72), .call (.const (.func 262 [] [])) [(.tmp 71), (.const (.int .i64 10)), (.const (.int .i64 0))], none⟩, ⟨(some 70), .mov (.tmp 72), none⟩, ⟨(some 73), .extract (.tmp 70) 0, none⟩, ⟨(some 74), .extract (.tmp 70) 1, none⟩, ⟨(some 9), .mov (.tmp 73), none⟩, ⟨(some 10), .mov (.tmp 74), none⟩])
 (.seq (.reg [⟨(some 75), .mov (.tmp 9), none⟩, ⟨(some 76), .mov (.tmp 10), none⟩, ⟨(some 2), .mov (.tmp 75), none⟩, ⟨(some 3), .mov (.tmp 76), none⟩])
 (.ret)))))
theorem A.c233 : cFunc Tryz.prog 233 = some ⟨77, [.tmp 2, .tmp 3], A.b233⟩ := by kernel_rfl
theorem A.k233 {K : List Kf} {Q : Rs → Prop} {f c args : List V} {st : St} (h : (f ++ args ++ c).length ≤ 77) : Run A.C K (valR (A.C.call (.func 233 f c) args st)) Q ↔ Run A.C (.fin [.tmp 2, .tmp 3] st :: K) (exR (A.C.code none A.b233 ⟨setRegs .nil 0 (f ++ args ++ c), 77, []⟩ ⟨st.h, st.n, []⟩)) Q := run_func (A.x0 (f := 233) (by decide)) (mf := ⟨77, [.tmp 2, .tmp 3], A.b233⟩) (by rw [A.t]; exact A.c233) h
/-- strconv.Atoi -/
def A.b191 : MCode := .seq (.reg [⟨(some 2), .mov (.const (.int .i64 0)), none⟩, ⟨(some 3), .mov (.const .niliface), none⟩])
 (.seq (.reg [⟨(some 7), .mov (.tmp 0), none⟩, ⟨(some 8), .call (.const (.func 233 [] [])) [(.tmp 7)], none⟩, ⟨(some 6), .mov (.tmp 8), none⟩, ⟨(some 9), .extract (.tmp 6) 0, none⟩, ⟨(some 10), .extract (.tmp 6) 1, none⟩, ⟨(some 4), .mov (.tmp 9), none⟩, ⟨(some 5), .mov (.tmp 10), none⟩])
 (.seq (.seq (.reg [⟨(some 11), .mov (.tmp 5), none⟩, ⟨(some 12), .bin .neq (.prim .iface) true (.tmp 11) (.const .niliface), none⟩])
 (.cond (.tmp 12)
 (.seq (.reg [⟨(some 13), .mov (.tmp 4), none⟩, ⟨(some 14), .mov (.tmp 0), none⟩, ⟨(some 15), .mov (.tmp 5), none⟩, ⟨(some 16), .call (.const (.func 234 [] [])) [(.const (.str [65, 116, 111, 105])), (.tmp 14), (.const (.int .i64 0)), (.const (.int .i64 0)), (.tmp 15)], none⟩, ⟨(some 2), .mov (.tmp 13), none⟩, ⟨(some 3), .mov (.tmp 16), none⟩])
 (.ret))
 (.skip)))
 (.seq (.reg [⟨(some 17), .mov (.tmp 4), none⟩, ⟨(some 2), .mov (.tmp 17), none⟩, ⟨(some 3), .mov (.const .niliface), none⟩])
 (.ret))))
theorem A.c191 : cFunc Tryz.prog 191 = some ⟨18, [.tmp 2, .tmp 3], A.b191⟩ := by kernel_rfl
theorem A.k191 {K : List Kf} {Q : Rs → Prop} {f c args : List V} {st : St} (h : (f ++ args ++ c).length ≤ 18) : Run A.C K (valR (A.C.call (.func 191 f c) args st)) Q ↔ Run A.C (.fin [.tmp 2, .tmp 3] st :: K) (exR (A.C.code none A.b191 ⟨setRegs .nil 0 (f ++ args ++ c), 18, []⟩ ⟨st.h, st.n, []⟩)) Q := run_func (A.x0 (f := 191) (by decide)) (mf := ⟨18, [.tmp 2, .tmp 3], A.b191⟩) (by rw [A.t]; exact A.c191) h

theorem iatoi_fn {s : Str} {h : T O} {N : Nat} (hd : allD s = true) (h1 : 1 ≤ s.length) (h2 : s.length ≤ 18) : Fn A.C 233 [.str s] h N (fun v _ _ => v = .tup [.int .i64 (numV s : Nat), .niliface]) := by
  intro w
  obtain ⟨c, hc⟩ := get_of_lt (l := s) (k := 0) (by omega)
  have hcd := allD_get hd hc
  have a1 : ¬ u8I c = 45 := by omega
  have a2 : ¬ u8I c = 43 := by omega
  have a3 : (0 : Int) < (s.length : Int) := by omega
  have a5 : (s.length : Int) < 19 := by omega
  have h10 : 0 < s.length := by omega
  have hne : s ≠ [] := fun h => by rw [h] at h1; simp at h1
  have hc0 : s.head? = some c := by cases s with
    | nil => simp at hc
    | cons => simpa using hc
  rw [call_run, A.k233 (by simp)]
  by_cases a4 : (s.length : Int) < 10
  all_goals
    simp (disch := first | (simp; done) | omega | (simp only [dg_length, dgi_length, List.length_cons]; omega) | rfl) [-getElem?_pos, List.getElem?_cons_zero, List.getElem?_cons_succ, A.b233, a3, a4, a5, hne, h10, hc0, hc, eqPrim, a1, a2]
    refine run_loopD [(2, 3), (6, 6), (8, 8), (49, 63)] (fun e r st => st.n = N + 1 ∧ oldIds N st.w = [] ∧ Keeps h N st.h (N + 1) ∧ e = .exit 0 ∧ r.get 6 = some (.int .i64 (numV s : Nat))) (fun m r st => st.n = N + 1 ∧ oldIds N st.w = [] ∧ Keeps h N st.h (N + 1) ∧ st.h.get N = some (.cells (bytesV s) 5 true) ∧ ∃ k, m = s.length - k ∧ k ≤ s.length ∧ r.get 49 = some (.int .i64 k) ∧ r.get 6 = some (.int .i64 (numV (s.take k) : Nat))) s.length ?_ ?_ ?_
    · exact ⟨rfl, rfl, (Keeps.refl.set (Nat.le_refl _)).up (by omega), by simp, 0, by omega, by omega, by simp, by simp [numV]⟩
    · rintro m r ⟨H, n1, W⟩ hr hf ⟨hn, hW, hK, hrow, k, rfl, hk, h49, h6⟩
      simp only at hn hW hK hrow
      subst hn
      rw [code_run]
      by_cases hlt : k < s.length
      · obtain ⟨c, hc⟩ := get_of_lt hlt
        have hd1 := allD_get hd hc
        have hb := bytesV_get hc
        have hv := numV_take hc
        have hb1 := numV_lt hd k hk
        have hb2 := p10_le (a := k) (b := 17) (by omega)
        have b1 : ¬ 9 < u8I c - 48 := by omega
        have b2 : wrapF .u8 (u8I c - 48) = u8I c - 48 := wrapF_u8 (by omega) (by omega)
        have b3 : ((numV (s.take (k + 1)) : Nat) : Int) = (numV (s.take k) : Nat) * 10 + (u8I c - 48) := by
          rw [hv]; unfold u8I at *; omega
        have b4 : ((numV (s.take k) : Nat) : Int) < 100000000000000000 := by
          have : (10 : Nat) ^ 17 = 100000000000000000 := by decide
          omega
        generalize hy : numV (s.take (k + 1)) = y at *
        generalize numV (s.take k) = x at *
        simp (disch := first | (simp; done) | omega | (simp only [dg_length, dgi_length, List.length_cons]; omega) | rfl) [-getElem?_pos, List.getElem?_cons_zero, List.getElem?_cons_succ, A.lb233_0, hr, hf, h49, h6, hlt, hrow, hb, b1, b2, hW]
        exact ⟨_, by omega, hK, k + 1, rfl, by omega, by simp, by rw [hy, b3]⟩
      · have : k = s.length := by omega
        subst this
        simp (disch := first | (simp; done) | omega | (simp only [dg_length, dgi_length, List.length_cons]; omega) | rfl) [-getElem?_pos, List.getElem?_cons_zero, List.getElem?_cons_succ, A.lb233_0, hr, hf, h49, hW]
        rw [List.take_length] at h6
        exact ⟨hK, h6⟩
    · rintro _ r ⟨H, n1, W⟩ hr ⟨hn, hW, hK, rfl, h6⟩
      simp only at hn hW hK
      subst hn
      simp (disch := first | (simp; done) | omega | (simp only [dg_length, dgi_length, List.length_cons]; omega) | rfl) [-getElem?_pos, List.getElem?_cons_zero, List.getElem?_cons_succ, hr, Ret, hW, hK, h6, hc0, hc, eqPrim, a1]
theorem atoi_fn {s : Str} {h : T O} {N : Nat} (hd : allD s = true) (h1 : 1 ≤ s.length) (h2 : s.length ≤ 18) : Fn A.C 191 [.str s] h N (fun v _ _ => v = .tup [.int .i64 (numV s : Nat), .niliface]) := by
  intro w
  rw [call_run, A.k191 (by simp)]
  simp (disch := first | (simp; done) | omega | (simp only [dg_length, dgi_length, List.length_cons]; omega) | rfl) [-getElem?_pos, List.getElem?_cons_zero, List.getElem?_cons_succ, A.b191]
  refine run_fn (iatoi_fn hd h1 h2) ?_
  rintro v h1 n1 k1 rfl
  simp (disch := first | (simp; done) | omega | (simp only [dg_length, dgi_length, List.length_cons]; omega) | rfl) [-getElem?_pos, List.getElem?_cons_zero, List.getElem?_cons_succ, eqPrim, Ret, k1]

end Go.Mx
