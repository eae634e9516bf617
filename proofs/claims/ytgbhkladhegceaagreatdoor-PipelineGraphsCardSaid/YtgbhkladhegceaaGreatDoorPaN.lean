/-
  number.IsName.
-/
import Derived.Test.YtgbhkladhegceaaGreatDoorPaW
import Derived.Test.YtgbhkladhegceaaGreatDoorPaO
import Derived.Test.YtgbhkladhegceaaGreatDoorPaK
set_option linter.all false
namespace Go.Mx
open Go Go.Proofs
set_option maxRecDepth 1000000
set_option linter.unusedSimpArgs false
set_option linter.unusedVariables false
def A.lb94_0 : MCode := .seq (.reg [⟨(some 7), .nextStr (.tmp 6), none⟩, ⟨(some 8), .extract (.tmp 7) 0, none⟩])
 (.seq (.cond (.tmp 8)
 (.skip)
 (.exit 0))
 (.block 1 (.seq (.reg [⟨(some 9), .extract (.tmp 7) 1, none⟩, ⟨(some 10), .extract (.tmp 7) 2, none⟩, ⟨(some 3), .mov (.tmp 9), none⟩, ⟨(some 4), .mov (.tmp 10), none⟩])
 (.seq (.reg [⟨(some 11), .mov (.tmp 4), none⟩, ⟨(some 12), .call (.const (.func 156 [] [])) [(.tmp 11)], none⟩, ⟨(some 13), .un .not (.tmp 12), none⟩, ⟨(some 14), .mov (.tmp 13), none⟩, ⟨(some 15), .mov (.tmp 3), (some (14, true))⟩, ⟨(some 16), .bin .eql (.prim .int) true (.tmp 15) (.const (.int .i64 0)), (some (14, true))⟩, ⟨(some 17), .mov (.tmp 16), (some (14, true))⟩, ⟨(some 18), .mov (.tmp 4), (some (17, false))⟩, ⟨(some 19), .bin .neq (.prim .int) true (.tmp 18) (.const (.int .i32 95)), (some (17, false))⟩, ⟨(some 20), .mov (.tmp 19), (some (17, false))⟩, ⟨(some 21), .mov (.tmp 4), (some (20, true))⟩, ⟨(some 22), .bin .lss (.node []) false (.tmp 21) (.const (.int .i32 48)), (some (20, true))⟩, ⟨(some 23), .mov (.tmp 22), (some (20, true))⟩, ⟨(some 24), .mov (.tmp 4), (some (23, false))⟩, ⟨(some 25), .bin .gtr (.node []) false (.tmp 24) (.const (.int .i32 57)), (some (23, false))⟩, ⟨(some 26), .pick (.tmp 23) (.const (.bool true)) (.tmp 25), (some (20, true))⟩, ⟨(some 27), .pick (.tmp 20) (.tmp 26) (.const (.bool false)), (some (17, false))⟩, ⟨(some 28), .pick (.tmp 17) (.const (.bool true)) (.tmp 27), (some (14, true))⟩, ⟨(some 29), .pick (.tmp 14) (.tmp 28) (.const (.bool false)), none⟩])
 (.cond (.tmp 29)
 (.seq (.reg [⟨(some 2), .mov (.const (.bool false)), none⟩])
 (.ret))
 (.skip))))))
/-- lenslet/number.IsName -/
def A.b94 : MCode := .seq (.reg [⟨(some 2), .mov (.const (.bool false)), none⟩])
 (.seq (.seq (.reg [⟨(some 5), .mov (.tmp 0), none⟩, ⟨(some 6), .rangeStr (.tmp 5), none⟩])
 (.block 0 (.loop A.lb94_0)))
 (.seq (.reg [⟨(some 30), .mov (.tmp 0), none⟩, ⟨(some 31), .bin .neq (.prim .str) true (.tmp 30) (.const (.str [])), none⟩, ⟨(some 32), .mov (.tmp 31), none⟩, ⟨(some 33), .mov (.tmp 0), (some (32, true))⟩, ⟨(some 34), .len 0 (.tmp 33), (some (32, true))⟩, ⟨(some 35), .bin .leq (.node []) false (.tmp 34) (.const (.int .i64 24)), (some (32, true))⟩, ⟨(some 36), .pick (.tmp 32) (.tmp 35) (.const (.bool false)), none⟩, ⟨(some 2), .mov (.tmp 36), none⟩])
 (.ret)))
theorem A.c94 : cFunc Tryz.prog 94 = some ⟨37, [.tmp 2], A.b94⟩ := by kernel_rfl
theorem A.k94 {K : List Kf} {Q : Rs → Prop} {f c args : List V} {st : St} (h : (f ++ args ++ c).length ≤ 37) : Run A.C K (valR (A.C.call (.func 94 f c) args st)) Q ↔ Run A.C (.fin [.tmp 2] st :: K) (exR (A.C.code none A.b94 ⟨setRegs .nil 0 (f ++ args ++ c), 37, []⟩ ⟨st.h, st.n, []⟩)) Q := run_func (A.x0 (f := 94) (by decide)) (mf := ⟨37, [.tmp 2], A.b94⟩) (by rw [A.t]; exact A.c94) h

theorem nIsName_fn {s : Str} {h : T O} {N : Nat} : Fn A.C 94 [.str s] h N (fun v _ _ => v = .bool (isName s)) := by
  intro w
  rw [call_run, A.k94 (by simp)]
  simp [A.b94]
  refine run_loopD [(2, 4), (7, 29)] (fun e r st => st.n = N + 1 ∧ oldIds N st.w = [] ∧ Keeps h N st.h (N + 1) ∧ ((e = .exit 0 ∧ nameL 0 s = true) ∨ (e = .ret ∧ nameL 0 s = false ∧ r.get 2 = some (.bool false)))) (fun m r st => st.n = N + 1 ∧ oldIds N st.w = [] ∧ Keeps h N st.h (N + 1) ∧ ∃ k, m = s.length - k ∧ k ≤ s.length ∧ st.h.get N = some (.siter s k) ∧ nameL 0 s = nameL k (s.drop k)) s.length ?_ ?_ ?_
  · exact ⟨rfl, rfl, (Keeps.refl.set (Nat.le_refl _)).up (by omega), 0, by omega, by omega, by simp, by simp⟩
  · rintro m r ⟨H, n1, W⟩ hr hf ⟨hn, hW, hK, k, rfl, hk, hrow, hz⟩
    simp only at hn hW hK hrow
    subst hn
    rw [code_run]
    by_cases hlt : k < s.length
    · obtain ⟨c, hc⟩ := get_of_lt hlt
      rw [get_drop_cons hc, nameL] at hz
      simp only [nameC, letC_u, digC_u, usc_u] at hz
      have hK2 := fun o => hK.set (o := o) (Nat.le_refl N)
      by_cases hlo : u8I c < 128
      · obtain ⟨hi, hw⟩ := rune_lo hc hlo
        by_cases hk0 : k = 0
        · have e0 := eq_true hk0
          obtain hx | hx | hx | hx | hx | hx | hx | hx | hx : u8I c < 48 ∨ (48 ≤ u8I c ∧ u8I c ≤ 57) ∨ (57 < u8I c ∧ u8I c < 65) ∨ (65 ≤ u8I c ∧ u8I c ≤ 90) ∨ (90 < u8I c ∧ u8I c < 95) ∨ u8I c = 95 ∨ u8I c = 96 ∨ (97 ≤ u8I c ∧ u8I c ≤ 122) ∨ 122 < u8I c := by omega
          all_goals
            first | (have a0 : 97 ≤ u8I c := by omega) | (have a0 : ¬ (97 ≤ u8I c) := by omega)
            first | (have a1 : u8I c ≤ 122 := by omega) | (have a1 : ¬ (u8I c ≤ 122) := by omega)
            first | (have a2 : 65 ≤ u8I c := by omega) | (have a2 : ¬ (65 ≤ u8I c) := by omega)
            first | (have a3 : u8I c ≤ 90 := by omega) | (have a3 : ¬ (u8I c ≤ 90) := by omega)
            simp (disch := first | (simp; done) | omega | (simp only [dg_length, dgi_length, List.length_cons]; omega) | rfl) [-getElem?_pos, List.getElem?_cons_zero, List.getElem?_cons_succ, A.lb94_0, hr, hf, hlt, hrow, hi, hw, e0, isLetter_eq, eqPrim, letZ, a0, a1, a2, a3, hW]
            simp [letZ, a0, a1, a2, a3, e0] at hz
            first | exact ⟨hK2 _, hz⟩ | exact ⟨_, by omega, hK2 _, k + 1, rfl, by omega, rfl, hz⟩
        · obtain hx | hx | hx | hx | hx | hx | hx | hx | hx : u8I c < 48 ∨ (48 ≤ u8I c ∧ u8I c ≤ 57) ∨ (57 < u8I c ∧ u8I c < 65) ∨ (65 ≤ u8I c ∧ u8I c ≤ 90) ∨ (90 < u8I c ∧ u8I c < 95) ∨ u8I c = 95 ∨ u8I c = 96 ∨ (97 ≤ u8I c ∧ u8I c ≤ 122) ∨ 122 < u8I c := by omega
          all_goals
            first | (have a0 : 97 ≤ u8I c := by omega) | (have a0 : ¬ (97 ≤ u8I c) := by omega)
            first | (have a1 : u8I c ≤ 122 := by omega) | (have a1 : ¬ (u8I c ≤ 122) := by omega)
            first | (have a2 : 65 ≤ u8I c := by omega) | (have a2 : ¬ (65 ≤ u8I c) := by omega)
            first | (have a3 : u8I c ≤ 90 := by omega) | (have a3 : ¬ (u8I c ≤ 90) := by omega)
            first | (have a4 : u8I c < 48 := by omega) | (have a4 : ¬ (u8I c < 48) := by omega)
            first | (have a5 : 57 < u8I c := by omega) | (have a5 : ¬ (57 < u8I c) := by omega)
            first | (have a6 : u8I c = 95 := by omega) | (have a6 : ¬ (u8I c = 95) := by omega)
            first | (have a7 : 48 ≤ u8I c := by omega) | (have a7 : ¬ (48 ≤ u8I c) := by omega)
            first | (have a8 : u8I c ≤ 57 := by omega) | (have a8 : ¬ (u8I c ≤ 57) := by omega)
            simp (disch := first | (simp; done) | omega | (simp only [dg_length, dgi_length, List.length_cons]; omega) | rfl) [-getElem?_pos, List.getElem?_cons_zero, List.getElem?_cons_succ, A.lb94_0, hr, hf, hlt, hrow, hi, hw, hk0, isLetter_eq, eqPrim, letZ, a0, a1, a2, a3, a4, a5, a6, hW]
            simp [letZ, a0, a1, a2, a3, hk0, a6, a7, a8] at hz
            first | exact ⟨hK2 _, hz⟩ | exact ⟨_, by omega, hK2 _, k + 1, rfl, by omega, rfl, hz⟩
      · have hi := rune_hi hc (by omega)
        have hz : nameL 0 s = false := by
          rw [hz]; simp [letZ]; intro; omega
        have b1 : ¬ runeI s k ≤ 122 := by omega
        have b2 : ¬ runeI s k ≤ 90 := by omega
        have b3 : ¬ runeI s k = 95 := by omega
        have b4 : ¬ runeI s k < 48 := by omega
        have b5 : 57 < runeI s k := by omega
        by_cases hk0 : k = 0
        · have e0 := eq_true hk0
          simp (disch := first | (simp; done) | omega | (simp only [dg_length, dgi_length, List.length_cons]; omega) | rfl) [-getElem?_pos, List.getElem?_cons_zero, List.getElem?_cons_succ, A.lb94_0, hr, hf, hlt, hrow, e0, isLetter_eq, eqPrim, letZ, b1, b2, hW, hz]
          exact hK2 _
        · simp (disch := first | (simp; done) | omega | (simp only [dg_length, dgi_length, List.length_cons]; omega) | rfl) [-getElem?_pos, List.getElem?_cons_zero, List.getElem?_cons_succ, A.lb94_0, hr, hf, hlt, hrow, hk0, isLetter_eq, eqPrim, letZ, b1, b2, b3, b4, b5, hW, hz]
          exact hK2 _
    · have : s.drop k = [] := List.drop_eq_nil_of_le (by omega)
      rw [this, nameL] at hz
      have : k = s.length := by omega
      subst this
      simp (disch := first | (simp; done) | omega | (simp only [dg_length, dgi_length, List.length_cons]; omega) | rfl) [-getElem?_pos, List.getElem?_cons_zero, List.getElem?_cons_succ, A.lb94_0, hr, hf, hz, hrow, hW]
      exact hK
  · rintro e r ⟨H, n1, W⟩ hr ⟨hn, hW, hK, ⟨rfl, hz⟩ | ⟨rfl, hz, h2⟩⟩
    · simp only at hn hW hK
      subst hn
      by_cases he : s = []
      · simp (disch := first | (simp; done) | omega | (simp only [dg_length, dgi_length, List.length_cons]; omega) | rfl) [-getElem?_pos, List.getElem?_cons_zero, List.getElem?_cons_succ, hr, Ret, isName, eqPrim, he, hW, hK]
      · have he2 : s.isEmpty = false := by simp [he]
        have he3 : (s == []) = false := by simp [he]
        by_cases hl : s.length ≤ 24
        · have : (s.length : Int) ≤ 24 := by omega
          simp (disch := first | (simp; done) | omega | (simp only [dg_length, dgi_length, List.length_cons]; omega) | rfl) [-getElem?_pos, List.getElem?_cons_zero, List.getElem?_cons_succ, hr, Ret, isName, eqPrim, he, he2, he3, hW, hK, hz, hl, this]
        · have : ¬ (s.length : Int) ≤ 24 := by omega
          simp (disch := first | (simp; done) | omega | (simp only [dg_length, dgi_length, List.length_cons]; omega) | rfl) [-getElem?_pos, List.getElem?_cons_zero, List.getElem?_cons_succ, hr, Ret, isName, eqPrim, he, he2, he3, hW, hK, hz, hl, this]
    · simp only at hn hW hK
      subst hn
      simp (disch := first | (simp; done) | omega | (simp only [dg_length, dgi_length, List.length_cons]; omega) | rfl) [-getElem?_pos, List.getElem?_cons_zero, List.getElem?_cons_succ, hr, Ret, isName, hW, hK, hz, h2]

end Go.Mx
/- pipeline.Stage.check. -/
namespace Go.Mx
open Go Go.Proofs
set_option maxRecDepth 1000000
set_option linter.unusedSimpArgs false
set_option linter.unusedVariables false
/-- (lenslet/pipeline.Stage).check -/
def A.b51 : MCode := .seq (.reg [⟨(some 2), .box 126 (.tmp 0), none⟩, ⟨(some 3), .box 29 (.tmp 1), none⟩, ⟨(some 4), .mov (.const (.int .i64 0)), none⟩])
 (.seq (.regD [⟨(some 11), .call (.const (.func 90 [] [])) [], none⟩, ⟨(some 12), .faddr 1 (.tmp 2), none⟩, ⟨(some 13), .load none (.tmp 12), none⟩, ⟨(some 14), .lookup .str (.agg [(.bool false), (.int .i64 0), (.int .i64 0), .nilfunc]) (.tmp 11) (.tmp 13) true, none⟩, ⟨(some 10), .mov (.tmp 14), none⟩, ⟨(some 15), .extract (.tmp 10) 0, none⟩, ⟨(some 16), .extract (.tmp 10) 1, none⟩, ⟨(some 5), .alloc [(.bool false), (.int .i64 0), (.int .i64 0), .nilfunc] 195, none⟩, ⟨none, .store 4 (.tmp 5) (.tmp 15), none⟩, ⟨(some 6), .mov (.tmp 16), none⟩] [0, 0, 2, 7, 15, 31, 31, 0, 191, 511])
 (.seq (.reg [⟨(some 17), .faddr 2 (.tmp 2), none⟩, ⟨(some 18), .load none (.tmp 17), none⟩, ⟨(some 19), .bin .neq (.prim .str) true (.tmp 18) (.const (.str [])), none⟩, ⟨(some 20), .call (.const (.func 50 [] [])) [(.tmp 19), (.const (.int .i64 1))], none⟩, ⟨(some 7), .mov (.tmp 20), none⟩])
 (.seq (.seq (.reg [⟨(some 21), .faddr 0 (.tmp 5), none⟩, ⟨(some 22), .load none (.tmp 21), none⟩])
 (.cond (.tmp 22)
 (.reg [⟨(some 23), .faddr 2 (.tmp 2), none⟩, ⟨(some 24), .load none (.tmp 23), none⟩, ⟨(some 25), .call (.const (.func 91 [] [])) [(.tmp 24)], none⟩, ⟨(some 7), .mov (.tmp 25), none⟩])
 (.skip)))
 (.seq (.reg [⟨(some 26), .faddr 3 (.tmp 2), none⟩, ⟨(some 27), .load none (.tmp 26), none⟩, ⟨(some 28), .len 1 (.tmp 27), none⟩, ⟨(some 8), .mov (.tmp 28), none⟩])
 (.seq (.reg [⟨(some 29), .faddr 3 (.tmp 2), none⟩, ⟨(some 30), .load none (.tmp 29), none⟩, ⟨(some 31), .mkfunc 93 [] [(.tmp 3)], none⟩, ⟨(some 32), .call (.const (.func 92 [] [])) [(.tmp 30), (.tmp 31)], none⟩, ⟨(some 9), .mov (.tmp 32), none⟩])
 (.seq (.regD [⟨(some 33), .faddr 0 (.tmp 2), none⟩, ⟨(some 34), .load none (.tmp 33), none⟩, ⟨(some 35), .call (.const (.func 94 [] [])) [(.tmp 34)], none⟩, ⟨(some 36), .un .not (.tmp 35), none⟩, ⟨(some 37), .call (.const (.func 50 [] [])) [(.tmp 36), (.const (.int .i64 8))], none⟩, ⟨(some 38), .load none (.tmp 3), none⟩, ⟨(some 39), .faddr 0 (.tmp 2), none⟩, ⟨(some 40), .load none (.tmp 39), none⟩, ⟨(some 41), .call (.const (.func 87 [] [])) [(.tmp 38), (.tmp 40)], none⟩, ⟨(some 42), .bin .geq (.node []) false (.tmp 41) (.const (.int .i64 0)), none⟩, ⟨(some 43), .call (.const (.func 50 [] [])) [(.tmp 42), (.const (.int .i64 9))], none⟩, ⟨(some 44), .mov (.tmp 6), none⟩, ⟨(some 45), .un .not (.tmp 44), none⟩, ⟨(some 46), .call (.const (.func 50 [] [])) [(.tmp 45), (.const (.int .i64 13))], none⟩, ⟨(some 47), .mov (.tmp 7), none⟩, ⟨(some 48), .mov (.tmp 8), none⟩, ⟨(some 49), .bin .gtr (.node []) false (.tmp 48) (.const (.int .i64 16)), none⟩, ⟨(some 50), .call (.const (.func 50 [] [])) [(.tmp 49), (.const (.int .i64 5))], none⟩, ⟨(some 51), .mov (.tmp 8), none⟩, ⟨(some 52), .faddr 1 (.tmp 5), none⟩, ⟨(some 53), .iaddrArr 2 1 (.tmp 52) (.const (.int .i64 0)), none⟩, ⟨(some 54), .load none (.tmp 53), none⟩, ⟨(some 55), .bin .lss (.node []) false (.tmp 51) (.tmp 54), none⟩, ⟨(some 56), .mov (.tmp 55), none⟩, ⟨(some 57), .mov (.tmp 8), (some (56, false))⟩, ⟨(some 58), .faddr 1 (.tmp 5), (some (56, false))⟩, ⟨(some 59), .iaddrArr 2 1 (.tmp 58) (.const (.int .i64 1)), (some (56, false))⟩, ⟨(some 60), .load none (.tmp 59), (some (56, false))⟩, ⟨(some 61), .bin .gtr (.node []) false (.tmp 57) (.tmp 60), (some (56, false))⟩, ⟨(some 62), .pick (.tmp 56) (.const (.bool true)) (.tmp 61), none⟩, ⟨(some 63), .call (.const (.func 50 [] [])) [(.tmp 62), (.const (.int .i64 2))], none⟩, ⟨(some 64), .mov (.tmp 9), none⟩, ⟨(some 65), .call (.const (.func 50 [] [])) [(.tmp 64), (.const (.int .i64 10))], none⟩, ⟨(some 66), .faddr 4 (.tmp 2), none⟩, ⟨(some 67), .load none (.tmp 66), none⟩, ⟨(some 68), .call (.const (.func 58 [] [])) [(.tmp 67), (.const (.int .i64 1)), (.const (.int .i64 1000))], none⟩, ⟨(some 69), .bslice 26 1 8 [(.int .i64 0), (.int .i64 0), (.int .i64 0), (.int .i64 0), (.int .i64 0), (.int .i64 0), (.int .i64 0), (.int .i64 0)] [(0, 1, (.tmp 37)), (1, 1, (.tmp 43)), (2, 1, (.tmp 46)), (3, 1, (.tmp 47)), (4, 1, (.tmp 50)), (5, 1, (.tmp 63)), (6, 1, (.tmp 65)), (7, 1, (.tmp 68))], none⟩, ⟨(some 70), .call (.const (.func 49 [] [])) [(.tmp 69)], none⟩, ⟨(some 4), .mov (.tmp 70), none⟩] [0, 1, 3, 7, 15, 0, 0, 64, 255, 511, 1023, 0, 2048, 8191, 0, 0, 32768, 114687, 0, 0, 524288, 1572864, 3932160, 8372223, 16760831, 16760831, 50315263, 117424127, 268419071, 536854527, 1073725439, 0, 4294950911, 0, 8589934592, 34359721983, 68719476735, 137438953471, 274877906943])
 (.ret)))))))
theorem A.c51 : cFunc Tryz.prog 51 = some ⟨71, [.tmp 4], A.b51⟩ := by kernel_rfl
theorem A.k51 {K : List Kf} {Q : Rs → Prop} {f c args : List V} {st : St} (h : (f ++ args ++ c).length ≤ 71) : Run A.C K (valR (A.C.call (.func 51 f c) args st)) Q ↔ Run A.C (.fin [.tmp 4] st :: K) (exR (A.C.code none A.b51 ⟨setRegs .nil 0 (f ++ args ++ c), 71, []⟩ ⟨st.h, st.n, []⟩)) Q := run_func (A.x0 (f := 51) (by decide)) (mf := ⟨71, [.tmp 4], A.b51⟩) (by rw [A.t]; exact A.c51) h
/-- (lenslet/pipeline.Stage).check$1 -/
def A.b93 : MCode := .seq (.reg [⟨(some 3), .mov (.const (.bool false)), none⟩])
 (.seq (.reg [⟨(some 4), .load none (.tmp 1), none⟩, ⟨(some 5), .mov (.tmp 0), none⟩, ⟨(some 6), .call (.const (.func 87 [] [])) [(.tmp 4), (.tmp 5)], none⟩, ⟨(some 7), .bin .lss (.node []) false (.tmp 6) (.const (.int .i64 0)), none⟩, ⟨(some 3), .mov (.tmp 7), none⟩])
 (.ret))
theorem A.c93 : cFunc Tryz.prog 93 = some ⟨8, [.tmp 3], A.b93⟩ := by kernel_rfl
theorem A.k93 {K : List Kf} {Q : Rs → Prop} {f c args : List V} {st : St} (h : (f ++ args ++ c).length ≤ 8) : Run A.C K (valR (A.C.call (.func 93 f c) args st)) Q ↔ Run A.C (.fin [.tmp 3] st :: K) (exR (A.C.code none A.b93 ⟨setRegs .nil 0 (f ++ args ++ c), 8, []⟩ ⟨st.h, st.n, []⟩)) Q := run_func (A.x0 (f := 93) (by decide)) (mf := ⟨8, [.tmp 3], A.b93⟩) (by rw [A.t]; exact A.c93) h

theorem lost_fn {h : T O} {N : Nat} {v : V} {g : List Stg} {n : Str} {q : Nat} {e : TypeId} {rw : Bool} (hg : Gr h N v g) (hl : g.length < 1000000) (hq : h.get q = some (.cells [v] e rw)) (hlt : q < N) : FnV A.C (.func 93 [] [.ptr q 0]) [.str n] h N (fun u _ _ => u = .bool (decide (g.length ≤ pos g n))) := by
  intro w
  rw [call_run, A.k93 (by simp)]
  simp (disch := first | (simp; done) | omega | (simp only [dg_length, dgi_length, List.length_cons]; omega) | rfl) [-getElem?_pos, List.getElem?_cons_zero, List.getElem?_cons_succ, A.b93, hq]
  refine run_fn (find_fn hg hl) ?_
  rintro v h2 n2 k2 rfl
  unfold posI
  by_cases hp : pos g n < g.length
  · have e1 : ¬ g.length ≤ pos g n := by omega
    simp (disch := first | (simp; done) | omega | (simp only [dg_length, dgi_length, List.length_cons]; omega) | rfl) [-getElem?_pos, List.getElem?_cons_zero, List.getElem?_cons_succ, hp, Ret, e1, k2]
  · have e1 : g.length ≤ pos g n := by omega
    simp (disch := first | (simp; done) | omega | (simp only [dg_length, dgi_length, List.length_cons]; omega) | rfl) [-getElem?_pos, List.getElem?_cons_zero, List.getElem?_cons_succ, hp, Ret, e1, k2]
theorem lost_any {g : List Stg} {l : List Str} : decide (0 ≤ firstP (fun j => decide (∃ n, l[j]? = some n ∧ g.length ≤ pos g n)) 0 (strs l).length) = l.any (fun n => decide (g.length ≤ pos g n)) := by
  rw [Bool.eq_iff_iff, decide_eq_true_eq, firstP_nn, List.any_eq_true, strs_len]
  constructor
  · rintro ⟨j, _, h2, h3⟩
    obtain ⟨n, h4, h5⟩ := of_decide_eq_true h3
    exact ⟨n, List.mem_of_getElem? h4, by simpa using h5⟩
  · rintro ⟨n, h1, h2⟩
    obtain ⟨j, hj⟩ := List.getElem?_of_mem h1
    exact ⟨j, by omega, by have := lt_of_get hj; omega, by simp only [decide_eq_true_eq]; exact ⟨n, hj, by simpa using h2⟩⟩
set_option maxHeartbeats 4000000 in
theorem scheck_fn {h : T O} {N : Nat} {v inp : V} {g : List Stg} {s : Stg} (hg : Gr h N v g) (hl : g.length < 1000000) (hi : Sl h N inp (strs s.inputs)) (hil : s.inputs.length < 1000000) (hf : s.factor.length ≤ 20) : Fn A.C 51 [.agg (stgC s inp), v] h N (fun u _ _ => u = .int .i64 (chkStage g s : Nat)) := by
  intro w
  rw [call_run, A.k51 (by simp)]
  have hvo := hg.form.one
  have hio := hi.form.one
  have hvc := hg.form.cells
  unfold V.one at hvo hio
  unfold V.cells at hvc
  have k0 : Keeps h N ((h.set N (.cells (stgC s inp) 126 true)).set (N + 1) (.cells [v] 29 true)) (N + 1 + 1) := (Keeps.refl.new _).new _
  simp (disch := first | (simp; done) | omega | (simp only [dg_length, dgi_length, List.length_cons]; omega) | rfl) [-getElem?_pos, List.getElem?_cons_zero, List.getElem?_cons_succ, A.b51, stgC, hvo, hio, hvc]
  refine run_fn ops_fn ?_
  rintro v1 h1 n1 k1 ⟨i, i1, i2, rfl, hm⟩
  have kk := k0.trans k1
  have c0 := k1.get N (by omega)
  have c1 := k1.get (N + 1) (by omega)
  simp at c0 c1
  have kle := k1.le
  obtain ⟨f, hff, hlk⟩ := ops_look (st := ⟨h1, n1, []⟩) s.op
  have hd : opOf s.op = none → (opOf s.op).getD ⟨false, 0, 0⟩ = ⟨false, 0, 0⟩ := fun h => by rw [h]; rfl
  have ho : opOf s.op = some ((opOf s.op).getD ⟨false, 0, 0⟩) ∨ opOf s.op = none := by cases opOf s.op <;> simp
  generalize hop : (opOf s.op).getD ⟨false, 0, 0⟩ = o at *
  have d1 : ¬ N = n1 := by omega
  have d2 : ¬ N + 1 = n1 := by omega
  have d3 : N < n1 := by omega
  have d4 : N + 1 < n1 := by omega
  have lz := hi.len
  rw [strs_len] at lz
  rcases hff with rfl | ⟨fk, rfl⟩
  all_goals
    cases hfa : o.factor
    · simp (disch := first | (simp; done) | omega | (simp only [dg_length, dgi_length, List.length_cons]; omega) | rfl) [-getElem?_pos, List.getElem?_cons_zero, List.getElem?_cons_succ, c0, c1, hm, hlk, d1, d2, d3, d4, splice, when_eq, hfa, lz]
      refine run_fn (contStr_fn (strs s.inputs) (fun j => decide (∃ n, s.inputs[j]? = some n ∧ g.length ≤ pos g n)) (hi.keep ((kk.new _).set kk.le)) (by rw [strs_len]; omega) ?_) ?_
      · intro j x hx h' n' hk
        obtain ⟨n, hn⟩ := get_of_lt (l := s.inputs) (k := j) (by have := lt_of_get hx; rw [strs_len] at this; exact this)
        rw [strs_get hn] at hx
        obtain rfl := Option.some.inj hx
        have hkl := hk.le
        have := lost_fn (n := n) (q := N + 1) (e := 29) (rw := true) ((hg.keep ((kk.new _).set kk.le)).keep hk) hl ((hk.get _ (by omega)).trans (by simp [d1, d2, c1])) (by omega)
        simpa [hn] using this
      rintro u h3 n3 k3 rfl
      have kle3 := k3.le
      have kz := ((kk.new _).set kk.le).trans k3
      have s0 := k3.get N (by omega)
      have s1 := k3.get (N + 1) (by omega)
      have s2 := k3.get n1 (by omega)
      simp [d1, d2, c0, c1] at s0 s1 s2
      rw [lost_any]
      simp (disch := first | (simp; done) | omega | (simp only [dg_length, dgi_length, List.length_cons]; omega) | rfl) [-getElem?_pos, List.getElem?_cons_zero, List.getElem?_cons_succ, s0, s1, s2]
      refine run_fn nIsName_fn ?_
      rintro u h4 n4 k4 rfl
      have kle4 := k4.le
      have u0 := (k4.get N (by omega)).trans s0
      have u1 := (k4.get (N + 1) (by omega)).trans s1
      have u2 := (k4.get n1 (by omega)).trans s2
      simp (disch := first | (simp; done) | omega | (simp only [dg_length, dgi_length, List.length_cons]; omega) | rfl) [-getElem?_pos, List.getElem?_cons_zero, List.getElem?_cons_succ, u0, u1, u2, when_eq]
      refine run_fn (find_fn (hg.keep (kz.trans k4)) hl) ?_
      rintro u h5 n5 k5 rfl
      have kle5 := k5.le
      have v0 := (k5.get N (by omega)).trans u0
      have v1 := (k5.get (N + 1) (by omega)).trans u1
      have v2 := (k5.get n1 (by omega)).trans u2
      have y1 : N < n3 := by omega
      have y2 : N < n4 := by omega
      have y3 : N + 1 < n4 := by omega
      have y4 : N < n5 := by omega
      have y5 : n1 < n5 := by omega
      have wok : ¬ n1 < N := by omega
      have kf := fun o => ((kz.trans k4).trans k5).new o
      by_cases hlo : (s.inputs.length : Int) < (o.lo : Int)
      · simp (disch := first | (simp; done) | omega | (simp only [dg_length, dgi_length, List.length_cons]; omega) | rfl) [-getElem?_pos, List.getElem?_cons_zero, List.getElem?_cons_succ, v0, v1, v2, when_eq, within_eq, y1, y2, y3, y4, y5, hlo, splice, pfirst8]
        refine ⟨by simp [wok], kf _, ?_⟩
        rw [stage_eq ho (by intro _; simp [facErr, hfa]; split <;> rfl) (by rw [if_pos (.inl (by omega))])]
      · simp (disch := first | (simp; done) | omega | (simp only [dg_length, dgi_length, List.length_cons]; omega) | rfl) [-getElem?_pos, List.getElem?_cons_zero, List.getElem?_cons_succ, v0, v1, v2, when_eq, within_eq, y1, y2, y3, y4, y5, hlo, splice, pfirst8]
        have hlo' : ¬ s.inputs.length < o.lo := by omega
        refine ⟨by simp [wok], kf _, ?_⟩
        rw [stage_eq ho (by intro _; simp [facErr, hfa]; split <;> rfl) (by simp [hlo'])]
    · simp (disch := first | (simp; done) | omega | (simp only [dg_length, dgi_length, List.length_cons]; omega) | rfl) [-getElem?_pos, List.getElem?_cons_zero, List.getElem?_cons_succ, c0, c1, hm, hlk, d1, d2, d3, d4, splice, when_eq, hfa, lz]
      refine run_fn (check_fn hf) ?_
      rintro u h2 n2 k2 rfl
      have kle2 := k2.le
      have t0 := k2.get N (by omega)
      have t1 := k2.get (N + 1) (by omega)
      have t2 := k2.get n1 (by omega)
      simp [d1, d2, c0, c1] at t0 t1 t2
      simp (disch := first | (simp; done) | omega | (simp only [dg_length, dgi_length, List.length_cons]; omega) | rfl) [-getElem?_pos, List.getElem?_cons_zero, List.getElem?_cons_succ, t0, t1, t2, lz]
      refine run_fn (contStr_fn (strs s.inputs) (fun j => decide (∃ n, s.inputs[j]? = some n ∧ g.length ≤ pos g n)) (hi.keep (((kk.new _).set kk.le).trans k2)) (by rw [strs_len]; omega) ?_) ?_
      · intro j x hx h' n' hk
        obtain ⟨n, hn⟩ := get_of_lt (l := s.inputs) (k := j) (by have := lt_of_get hx; rw [strs_len] at this; exact this)
        rw [strs_get hn] at hx
        obtain rfl := Option.some.inj hx
        have hkl := hk.le
        have := lost_fn (n := n) (q := N + 1) (e := 29) (rw := true) ((hg.keep (((kk.new _).set kk.le).trans k2)).keep hk) hl ((hk.get _ (by omega)).trans t1) (by omega)
        simpa [hn] using this
      rintro u h3 n3 k3 rfl
      have kle3 := k3.le
      have kz := (((kk.new _).set kk.le).trans k2).trans k3
      have s0 := (k3.get N (by omega)).trans t0
      have s1 := (k3.get (N + 1) (by omega)).trans t1
      have s2 := (k3.get n1 (by omega)).trans t2
      rw [lost_any]
      simp (disch := first | (simp; done) | omega | (simp only [dg_length, dgi_length, List.length_cons]; omega) | rfl) [-getElem?_pos, List.getElem?_cons_zero, List.getElem?_cons_succ, s0, s1, s2]
      refine run_fn nIsName_fn ?_
      rintro u h4 n4 k4 rfl
      have kle4 := k4.le
      have u0 := (k4.get N (by omega)).trans s0
      have u1 := (k4.get (N + 1) (by omega)).trans s1
      have u2 := (k4.get n1 (by omega)).trans s2
      simp (disch := first | (simp; done) | omega | (simp only [dg_length, dgi_length, List.length_cons]; omega) | rfl) [-getElem?_pos, List.getElem?_cons_zero, List.getElem?_cons_succ, u0, u1, u2, when_eq]
      refine run_fn (find_fn (hg.keep (kz.trans k4)) hl) ?_
      rintro u h5 n5 k5 rfl
      have kle5 := k5.le
      have v0 := (k5.get N (by omega)).trans u0
      have v1 := (k5.get (N + 1) (by omega)).trans u1
      have v2 := (k5.get n1 (by omega)).trans u2
      have y1 : N < n3 := by omega
      have y2 : N < n4 := by omega
      have y3 : N + 1 < n4 := by omega
      have y4 : N < n5 := by omega
      have y5 : n1 < n5 := by omega
      have wok : ¬ n1 < N := by omega
      have kf := fun o => ((kz.trans k4).trans k5).new o
      by_cases hlo : (s.inputs.length : Int) < (o.lo : Int)
      · simp (disch := first | (simp; done) | omega | (simp only [dg_length, dgi_length, List.length_cons]; omega) | rfl) [-getElem?_pos, List.getElem?_cons_zero, List.getElem?_cons_succ, v0, v1, v2, when_eq, within_eq, y1, y2, y3, y4, y5, hlo, splice, pfirst8]
        refine ⟨by simp [wok], kf _, ?_⟩
        rw [stage_eq ho (by intro _; simp [facErr, hfa]) (by rw [if_pos (.inl (by omega))])]
      · simp (disch := first | (simp; done) | omega | (simp only [dg_length, dgi_length, List.length_cons]; omega) | rfl) [-getElem?_pos, List.getElem?_cons_zero, List.getElem?_cons_succ, v0, v1, v2, when_eq, within_eq, y1, y2, y3, y4, y5, hlo, splice, pfirst8]
        have hlo' : ¬ s.inputs.length < o.lo := by omega
        refine ⟨by simp [wok], kf _, ?_⟩
        rw [stage_eq ho (by intro _; simp [facErr, hfa]) (by simp [hlo'])]

end Go.Mx
