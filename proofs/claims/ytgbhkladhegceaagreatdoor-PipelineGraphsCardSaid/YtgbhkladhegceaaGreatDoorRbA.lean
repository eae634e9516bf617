/-
  lensletref01: slash, Digits, decimalForm, value.
-/
import Derived.Test.YtgbhkladhegceaaGreatDoorPaW
set_option linter.all false
namespace Go.Mx
open Go Go.Proofs
set_option maxRecDepth 1000000
set_option linter.unusedSimpArgs false
set_option linter.unusedVariables false
def A.lb95_0 : MCode := .seq (.seq (.reg [⟨(some 4), .mov (.tmp 3), none⟩, ⟨(some 5), .mov (.tmp 0), none⟩, ⟨(some 6), .len 0 (.tmp 5), none⟩, ⟨(some 7), .bin .lss (.node []) false (.tmp 4) (.tmp 6), none⟩])
 (.cond (.tmp 7)
 (.skip)
 (.exit 0)))
 (.seq (.block 1 (.seq (.reg [⟨(some 10), .mov (.tmp 0), none⟩, ⟨(some 11), .mov (.tmp 3), none⟩, ⟨(some 12), .idxStr (.tmp 10) (.tmp 11), none⟩, ⟨(some 13), .bin .eql (.prim .int) true (.tmp 12) (.const (.int .u8 47)), none⟩])
 (.cond (.tmp 13)
 (.seq (.reg [⟨(some 14), .mov (.tmp 3), none⟩, ⟨(some 2), .mov (.tmp 14), none⟩])
 (.ret))
 (.skip))))
 (.reg [⟨(some 8), .mov (.tmp 3), none⟩, ⟨(some 9), .bin .add (.node []) false (.tmp 8) (.const (.int .i64 1)), none⟩, ⟨(some 3), .mov (.tmp 9), none⟩]))
/-- lenslet/lensletref01.slash -/
def A.b95 : MCode := .seq (.reg [⟨(some 2), .mov (.const (.int .i64 0)), none⟩])
 (.seq (.seq (.reg [⟨(some 3), .mov (.const (.int .i64 0)), none⟩])
 (.block 0 (.loop A.lb95_0)))
 (.seq (.reg [⟨(some 15), .mov (.tmp 0), none⟩, ⟨(some 16), .len 0 (.tmp 15), none⟩, ⟨(some 2), .mov (.tmp 16), none⟩])
 (.ret)))
theorem A.c95 : cFunc Tryz.prog 95 = some ⟨17, [.tmp 2], A.b95⟩ := by kernel_rfl
theorem A.k95 {K : List Kf} {Q : Rs → Prop} {f c args : List V} {st : St} (h : (f ++ args ++ c).length ≤ 17) : Run A.C K (valR (A.C.call (.func 95 f c) args st)) Q ↔ Run A.C (.fin [.tmp 2] st :: K) (exR (A.C.code none A.b95 ⟨setRegs .nil 0 (f ++ args ++ c), 17, []⟩ ⟨st.h, st.n, []⟩)) Q := run_func (A.x0 (f := 95) (by decide)) (mf := ⟨17, [.tmp 2], A.b95⟩) (by rw [A.t]; exact A.c95) h
def A.lb157_0 : MCode := .seq (.seq (.reg [⟨(some 4), .mov (.tmp 3), none⟩, ⟨(some 5), .mov (.tmp 0), none⟩, ⟨(some 6), .len 0 (.tmp 5), none⟩, ⟨(some 7), .bin .lss (.node []) false (.tmp 4) (.tmp 6), none⟩])
 (.cond (.tmp 7)
 (.skip)
 (.exit 0)))
 (.seq (.block 1 (.seq (.reg [⟨(some 10), .mov (.tmp 0), none⟩, ⟨(some 11), .mov (.tmp 3), none⟩, ⟨(some 12), .idxStr (.tmp 10) (.tmp 11), none⟩, ⟨(some 13), .bin .lss (.node []) false (.tmp 12) (.const (.int .u8 48)), none⟩, ⟨(some 14), .mov (.tmp 13), none⟩, ⟨(some 15), .mov (.tmp 0), (some (14, false))⟩, ⟨(some 16), .mov (.tmp 3), (some (14, false))⟩, ⟨(some 17), .idxStr (.tmp 15) (.tmp 16), (some (14, false))⟩, ⟨(some 18), .bin .gtr (.node []) false (.tmp 17) (.const (.int .u8 57)), (some (14, false))⟩, ⟨(some 19), .pick (.tmp 14) (.const (.bool true)) (.tmp 18), none⟩])
 (.cond (.tmp 19)
 (.seq (.reg [⟨(some 2), .mov (.const (.bool false)), none⟩])
 (.ret))
 (.skip))))
 (.reg [⟨(some 8), .mov (.tmp 3), none⟩, ⟨(some 9), .bin .add (.node []) false (.tmp 8) (.const (.int .i64 1)), none⟩, ⟨(some 3), .mov (.tmp 9), none⟩]))
/-- lenslet/lensletref01.Digits -/
def A.b157 : MCode := .seq (.reg [⟨(some 2), .mov (.const (.bool false)), none⟩])
 (.seq (.seq (.reg [⟨(some 3), .mov (.const (.int .i64 0)), none⟩])
 (.block 0 (.loop A.lb157_0)))
 (.seq (.reg [⟨(some 2), .mov (.const (.bool true)), none⟩])
 (.ret)))
theorem A.c157 : cFunc Tryz.prog 157 = some ⟨20, [.tmp 2], A.b157⟩ := by kernel_rfl
theorem A.k157 {K : List Kf} {Q : Rs → Prop} {f c args : List V} {st : St} (h : (f ++ args ++ c).length ≤ 20) : Run A.C K (valR (A.C.call (.func 157 f c) args st)) Q ↔ Run A.C (.fin [.tmp 2] st :: K) (exR (A.C.code none A.b157 ⟨setRegs .nil 0 (f ++ args ++ c), 20, []⟩ ⟨st.h, st.n, []⟩)) Q := run_func (A.x0 (f := 157) (by decide)) (mf := ⟨20, [.tmp 2], A.b157⟩) (by rw [A.t]; exact A.c157) h
/-- lenslet/lensletref01.decimalForm -/
def A.b96 : MCode := .seq (.reg [⟨(some 2), .mov (.const (.bool false)), none⟩])
 (.seq (.seq (.reg [⟨(some 3), .mov (.tmp 0), none⟩, ⟨(some 4), .len 0 (.tmp 3), none⟩, ⟨(some 5), .bin .eql (.prim .int) true (.tmp 4) (.const (.int .i64 0)), none⟩, ⟨(some 6), .mov (.tmp 5), none⟩, ⟨(some 7), .mov (.tmp 0), (some (6, false))⟩, ⟨(some 8), .len 0 (.tmp 7), (some (6, false))⟩, ⟨(some 9), .bin .gtr (.node []) false (.tmp 8) (.const (.int .i64 1)), (some (6, false))⟩, ⟨(some 10), .mov (.tmp 9), (some (6, false))⟩, ⟨(some 11), .mov (.tmp 0), (some (10, true))⟩, ⟨(some 12), .idxStr (.tmp 11) (.const (.int .i64 0)), (some (10, true))⟩, ⟨(some 13), .bin .eql (.prim .int) true (.tmp 12) (.const (.int .u8 48)), (some (10, true))⟩, ⟨(some 14), .pick (.tmp 10) (.tmp 13) (.const (.bool false)), (some (6, false))⟩, ⟨(some 15), .pick (.tmp 6) (.const (.bool true)) (.tmp 14), none⟩])
 (.cond (.tmp 15)
 (.seq (.reg [⟨(some 2), .mov (.const (.bool false)), none⟩])
 (.ret))
 (.skip)))
 (.seq (.reg [⟨(some 16), .mov (.tmp 0), none⟩, ⟨(some 17), .call (.const (.func 157 [] [])) [(.tmp 16)], none⟩, ⟨(some 2), .mov (.tmp 17), none⟩])
 (.ret)))
theorem A.c96 : cFunc Tryz.prog 96 = some ⟨18, [.tmp 2], A.b96⟩ := by kernel_rfl
theorem A.k96 {K : List Kf} {Q : Rs → Prop} {f c args : List V} {st : St} (h : (f ++ args ++ c).length ≤ 18) : Run A.C K (valR (A.C.call (.func 96 f c) args st)) Q ↔ Run A.C (.fin [.tmp 2] st :: K) (exR (A.C.code none A.b96 ⟨setRegs .nil 0 (f ++ args ++ c), 18, []⟩ ⟨st.h, st.n, []⟩)) Q := run_func (A.x0 (f := 96) (by decide)) (mf := ⟨18, [.tmp 2], A.b96⟩) (by rw [A.t]; exact A.c96) h
def A.lb195_0 : MCode := .seq (.seq (.reg [⟨(some 5), .mov (.tmp 4), none⟩, ⟨(some 6), .mov (.tmp 0), none⟩, ⟨(some 7), .len 0 (.tmp 6), none⟩, ⟨(some 8), .bin .lss (.node []) false (.tmp 5) (.tmp 7), none⟩])
 (.cond (.tmp 8)
 (.skip)
 (.exit 0)))
 (.seq (.block 1 (.reg [⟨(some 11), .mov (.tmp 3), none⟩, ⟨(some 12), .bin .mul (.node []) false (.const (.int .i64 10)) (.tmp 11), none⟩, ⟨(some 13), .mov (.tmp 0), none⟩, ⟨(some 14), .mov (.tmp 4), none⟩, ⟨(some 15), .idxStr (.tmp 13) (.tmp 14), none⟩, ⟨(some 16), .convInt .i64 (.tmp 15), none⟩, ⟨(some 17), .bin .add (.node []) false (.tmp 12) (.tmp 16), none⟩, ⟨(some 18), .bin .sub (.node []) false (.tmp 17) (.const (.int .i64 48)), none⟩, ⟨(some 3), .mov (.tmp 18), none⟩]))
 (.reg [⟨(some 9), .mov (.tmp 4), none⟩, ⟨(some 10), .bin .add (.node []) false (.tmp 9) (.const (.int .i64 1)), none⟩, ⟨(some 4), .mov (.tmp 10), none⟩]))
/-- lenslet/lensletref01.value -/
def A.b195 : MCode := .seq (.reg [⟨(some 2), .mov (.const (.int .i64 0)), none⟩])
 (.seq (.reg [⟨(some 3), .mov (.const (.int .i64 0)), none⟩])
 (.seq (.seq (.reg [⟨(some 4), .mov (.const (.int .i64 0)), none⟩])
 (.block 0 (.loop A.lb195_0)))
 (.seq (.reg [⟨(some 19), .mov (.tmp 3), none⟩, ⟨(some 2), .mov (.tmp 19), none⟩])
 (.ret))))
theorem A.c195 : cFunc Tryz.prog 195 = some ⟨20, [.tmp 2], A.b195⟩ := by kernel_rfl
theorem A.k195 {K : List Kf} {Q : Rs → Prop} {f c args : List V} {st : St} (h : (f ++ args ++ c).length ≤ 20) : Run A.C K (valR (A.C.call (.func 195 f c) args st)) Q ↔ Run A.C (.fin [.tmp 2] st :: K) (exR (A.C.code none A.b195 ⟨setRegs .nil 0 (f ++ args ++ c), 20, []⟩ ⟨st.h, st.n, []⟩)) Q := run_func (A.x0 (f := 195) (by decide)) (mf := ⟨20, [.tmp 2], A.b195⟩) (by rw [A.t]; exact A.c195) h

theorem slash_eq {s : Str} {st : St} (hl : s.length < 4611686018427387904) : A.C.call (.func 95 [] []) [.str s] st = some (.int .i64 (slashAt s : Nat), st) := by
  apply Call.eq
  rw [call_run, A.k95 (by simp)]
  simp (disch := first | (simp; done) | omega | (simp only [dg_length, dgi_length, List.length_cons]; omega) | rfl) [-getElem?_pos, List.getElem?_cons_zero, List.getElem?_cons_succ, A.b95]
  refine run_loopD [(2, 14)] (fun e r s1 => s1 = ⟨st.h, st.n, []⟩ ∧ ((e = .exit 0 ∧ slashAt s = s.length) ∨ (e = .ret ∧ r.get 2 = some (.int .i64 (slashAt s : Nat))))) (fun m r s1 => s1 = ⟨st.h, st.n, []⟩ ∧ ∃ k, k + m = s.length ∧ r.get 3 = some (.int .i64 k) ∧ slashAt s = k + slashAt (s.drop k)) s.length ?_ ?_ ?_
  · exact ⟨rfl, 0, by omega, by simp, by simp⟩
  · rintro m r _ hr hf ⟨rfl, k, hk, h3, hz⟩
    rw [code_run]
    cases m with
    | zero =>
      have : k = s.length := by omega
      subst this
      rw [List.drop_length, slashAt] at hz
      simp (disch := first | (simp; done) | omega | (simp only [dg_length, dgi_length, List.length_cons]; omega) | rfl) [-getElem?_pos, List.getElem?_cons_zero, List.getElem?_cons_succ, A.lb95_0, hr, hf, h3]
      omega
    | succ m =>
      obtain ⟨c, hc⟩ := get_of_lt (l := s) (k := k) (by omega)
      have hk1 : (k : Int) < (s.length : Int) := by omega
      have hk2 : k < s.length := by omega
      rw [get_drop_cons hc, slashAt] at hz
      by_cases h47 : u8I c = 47
      · rw [if_pos (by unfold u8I at h47; omega)] at hz
        simp (disch := first | (simp; done) | omega | (simp only [dg_length, dgi_length, List.length_cons]; omega) | rfl) [-getElem?_pos, List.getElem?_cons_zero, List.getElem?_cons_succ, A.lb95_0, hr, hf, h3, hk1, hk2, hc, h47, eqPrim]
        rw [hz]; simp
      · rw [if_neg (by unfold u8I at h47; omega)] at hz
        simp (disch := first | (simp; done) | omega | (simp only [dg_length, dgi_length, List.length_cons]; omega) | rfl) [-getElem?_pos, List.getElem?_cons_zero, List.getElem?_cons_succ, A.lb95_0, hr, hf, h3, hk1, hk2, hc, h47, eqPrim]
        exact ⟨m, by omega, k + 1, by omega, by simp, by omega⟩
  · rintro e r _ hr ⟨rfl, ⟨rfl, hz⟩ | ⟨rfl, h2⟩⟩
    · simp (disch := first | (simp; done) | omega | (simp only [dg_length, dgi_length, List.length_cons]; omega) | rfl) [-getElem?_pos, List.getElem?_cons_zero, List.getElem?_cons_succ, hr, hz]
    · simp (disch := first | (simp; done) | omega | (simp only [dg_length, dgi_length, List.length_cons]; omega) | rfl) [-getElem?_pos, List.getElem?_cons_zero, List.getElem?_cons_succ, hr, h2]
theorem digits_eq {s : Str} {st : St} (hl : s.length < 4611686018427387904) : A.C.call (.func 157 [] []) [.str s] st = some (.bool (allD s), st) := by
  apply Call.eq
  rw [call_run, A.k157 (by simp)]
  simp (disch := first | (simp; done) | omega | (simp only [dg_length, dgi_length, List.length_cons]; omega) | rfl) [-getElem?_pos, List.getElem?_cons_zero, List.getElem?_cons_succ, A.b157]
  refine run_loopD [(2, 19)] (fun e r s1 => s1 = ⟨st.h, st.n, []⟩ ∧ ((e = .exit 0 ∧ allD s = true) ∨ (e = .ret ∧ allD s = false ∧ r.get 2 = some (.bool false)))) (fun m r s1 => s1 = ⟨st.h, st.n, []⟩ ∧ ∃ k, k + m = s.length ∧ r.get 3 = some (.int .i64 k) ∧ allD s = allD (s.drop k)) s.length ?_ ?_ ?_
  · exact ⟨rfl, 0, by omega, by simp, by simp⟩
  · rintro m r _ hr hf ⟨rfl, k, hk, h3, hz⟩
    rw [code_run]
    cases m with
    | zero =>
      have : k = s.length := by omega
      subst this
      rw [List.drop_length] at hz
      have hz : allD s = true := hz
      simp (disch := first | (simp; done) | omega | (simp only [dg_length, dgi_length, List.length_cons]; omega) | rfl) [-getElem?_pos, List.getElem?_cons_zero, List.getElem?_cons_succ, A.lb157_0, hr, hf, h3, hz]
    | succ m =>
      obtain ⟨c, hc⟩ := get_of_lt (l := s) (k := k) (by omega)
      have hk1 : (k : Int) < (s.length : Int) := by omega
      have hk2 : k < s.length := by omega
      have hz2 : allD s = (digC c && allD (s.drop (k + 1))) := by rw [hz, get_drop_cons hc]; rfl
      rw [digC_u] at hz2
      by_cases h1 : u8I c < 48
      · have : ¬ (48 ≤ u8I c ∧ u8I c ≤ 57) := by omega
        rw [decide_eq_false this, Bool.false_and] at hz2
        simp (disch := first | (simp; done) | omega | (simp only [dg_length, dgi_length, List.length_cons]; omega) | rfl) [-getElem?_pos, List.getElem?_cons_zero, List.getElem?_cons_succ, A.lb157_0, hr, hf, h3, hk1, hk2, hc, h1, hz2]
      · by_cases h2 : 57 < u8I c
        · have : ¬ (48 ≤ u8I c ∧ u8I c ≤ 57) := by omega
          rw [decide_eq_false this, Bool.false_and] at hz2
          simp (disch := first | (simp; done) | omega | (simp only [dg_length, dgi_length, List.length_cons]; omega) | rfl) [-getElem?_pos, List.getElem?_cons_zero, List.getElem?_cons_succ, A.lb157_0, hr, hf, h3, hk1, hk2, hc, h1, h2, hz2]
        · have : (48 ≤ u8I c ∧ u8I c ≤ 57) := by omega
          rw [decide_eq_true this, Bool.true_and] at hz2
          simp (disch := first | (simp; done) | omega | (simp only [dg_length, dgi_length, List.length_cons]; omega) | rfl) [-getElem?_pos, List.getElem?_cons_zero, List.getElem?_cons_succ, A.lb157_0, hr, hf, h3, hk1, hk2, hc, h1, h2]
          exact ⟨m, by omega, k + 1, by omega, by simp, hz2⟩
  · rintro e r _ hr ⟨rfl, ⟨rfl, hz⟩ | ⟨rfl, hz, h2⟩⟩
    · simp (disch := first | (simp; done) | omega | (simp only [dg_length, dgi_length, List.length_cons]; omega) | rfl) [-getElem?_pos, List.getElem?_cons_zero, List.getElem?_cons_succ, hr, hz]
    · simp (disch := first | (simp; done) | omega | (simp only [dg_length, dgi_length, List.length_cons]; omega) | rfl) [-getElem?_pos, List.getElem?_cons_zero, List.getElem?_cons_succ, hr, h2, hz]
theorem decimal_eq {s : Str} {st : St} (hl : s.length < 4611686018427387904) : A.C.call (.func 96 [] []) [.str s] st = some (.bool (isDec s), st) := by
  apply Call.eq
  rw [call_run, A.k96 (by simp)]
  cases s with
  | nil => simp (disch := first | (simp; done) | omega | (simp only [dg_length, dgi_length, List.length_cons]; omega) | rfl) [-getElem?_pos, List.getElem?_cons_zero, List.getElem?_cons_succ, A.b96, eqPrim, isDec]
  | cons c s =>
    have hd : isDec (c :: s) = (allD (c :: s) && (decide (u8I c ≠ 48) || decide (s = []))) := by
      have : decide (c.toNat ≠ 48) = decide (u8I c ≠ 48) := by unfold u8I; rw [decide_eq_decide]; omega
      simp only [isDec, this]; rfl
    have hdg := fun st => digits_eq (s := c :: s) (st := st) hl
    by_cases h0 : s = []
    · subst h0
      simp (disch := first | (simp; done) | omega | (simp only [dg_length, dgi_length, List.length_cons]; omega) | rfl) [-getElem?_pos, List.getElem?_cons_zero, List.getElem?_cons_succ, A.b96, eqPrim, hd, hdg]
    · have h1 : 0 < s.length := by
        cases s with
        | nil => exact absurd rfl h0
        | cons => simp
      have a1 : ¬ ((s.length : Int) + 1 = 0) := by omega
      have a2 : (1 : Int) < (s.length : Int) + 1 := by omega
      have a3 : (0 : Int) < (s.length : Int) := by omega
      by_cases h48 : u8I c = 48
      · simp (disch := first | (simp; done) | omega | (simp only [dg_length, dgi_length, List.length_cons]; omega) | rfl) [-getElem?_pos, List.getElem?_cons_zero, List.getElem?_cons_succ, A.b96, eqPrim, hd, hdg, h0, a1, a2, a3, h1, h48]
      · simp (disch := first | (simp; done) | omega | (simp only [dg_length, dgi_length, List.length_cons]; omega) | rfl) [-getElem?_pos, List.getElem?_cons_zero, List.getElem?_cons_succ, A.b96, eqPrim, hd, hdg, h0, a1, a2, a3, h1, h48]
theorem value_eq {s : Str} {st : St} (hd : allD s = true) (hl : s.length ≤ 18) : A.C.call (.func 195 [] []) [.str s] st = some (.int .i64 (numV s : Nat), st) := by
  apply Call.eq
  rw [call_run, A.k195 (by simp)]
  simp (disch := first | (simp; done) | omega | (simp only [dg_length, dgi_length, List.length_cons]; omega) | rfl) [-getElem?_pos, List.getElem?_cons_zero, List.getElem?_cons_succ, A.b195]
  refine run_loopD [(3, 18)] (fun e r s1 => s1 = ⟨st.h, st.n, []⟩ ∧ e = .exit 0 ∧ r.get 3 = some (.int .i64 (numV s : Nat))) (fun m r s1 => s1 = ⟨st.h, st.n, []⟩ ∧ ∃ k, k + m = s.length ∧ r.get 4 = some (.int .i64 k) ∧ r.get 3 = some (.int .i64 (numV (s.take k) : Nat))) s.length ?_ ?_ ?_
  · exact ⟨rfl, 0, by omega, by simp, by simp [numV]⟩
  · rintro m r _ hr hf ⟨rfl, k, hk, h4, h3⟩
    rw [code_run]
    cases m with
    | zero =>
      have : k = s.length := by omega
      subst this
      rw [List.take_length] at h3
      simp (disch := first | (simp; done) | omega | (simp only [dg_length, dgi_length, List.length_cons]; omega) | rfl) [-getElem?_pos, List.getElem?_cons_zero, List.getElem?_cons_succ, A.lb195_0, hr, hf, h4, h3]
    | succ m =>
      obtain ⟨c, hc⟩ := get_of_lt (l := s) (k := k) (by omega)
      have hk1 : (k : Int) < (s.length : Int) := by omega
      have hk2 : k < s.length := by omega
      have hd1 := allD_get hd hc
      have hv := numV_take hc
      have hb1 := numV_lt hd k (by omega)
      have hb2 := p10_le (a := k) (b := 17) (by omega)
      have b3 : ((numV (s.take (k + 1)) : Nat) : Int) = 10 * (numV (s.take k) : Nat) + u8I c - 48 := by
        rw [hv]; unfold u8I at *; omega
      have b4 : ((numV (s.take k) : Nat) : Int) < 100000000000000000 := by
        have : (10 : Nat) ^ 17 = 100000000000000000 := by decide
        omega
      generalize hy : numV (s.take (k + 1)) = y at *
      generalize numV (s.take k) = x at *
      simp (disch := first | (simp; done) | omega | (simp only [dg_length, dgi_length, List.length_cons]; omega) | rfl) [-getElem?_pos, List.getElem?_cons_zero, List.getElem?_cons_succ, A.lb195_0, hr, hf, h4, h3, hk1, hk2, hc]
      exact ⟨m, by omega, k + 1, by omega, by simp, by rw [hy, b3]⟩
  · rintro e r _ hr ⟨rfl, rfl, h3⟩
    simp (disch := first | (simp; done) | omega | (simp only [dg_length, dgi_length, List.length_cons]; omega) | rfl) [-getElem?_pos, List.getElem?_cons_zero, List.getElem?_cons_succ, hr, h3]

end Go.Mx
