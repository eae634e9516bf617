/-
  lensletref01.IsName.
-/
import Derived.Test.YtgbhkladhegceaaGreatDoorPaW
set_option linter.all false
namespace Go.Mx
open Go Go.Proofs
set_option maxRecDepth 1000000
set_option linter.unusedSimpArgs false
set_option linter.unusedVariables false
def A.lb88_0 : MCode := .seq (.seq (.reg [⟨(some 14), .mov (.tmp 3), none⟩, ⟨(some 15), .mov (.tmp 0), none⟩, ⟨(some 16), .len 0 (.tmp 15), none⟩, ⟨(some 17), .bin .lss (.node []) false (.tmp 14) (.tmp 16), none⟩])
 (.cond (.tmp 17)
 (.skip)
 (.exit 0)))
 (.seq (.block 1 (.seq (.reg [⟨(some 20), .mov (.tmp 0), none⟩, ⟨(some 21), .mov (.tmp 3), none⟩, ⟨(some 22), .idxStr (.tmp 20) (.tmp 21), none⟩, ⟨(some 4), .mov (.tmp 22), none⟩])
 (.seq (.reg [⟨(some 23), .mov (.tmp 4), none⟩, ⟨(some 24), .bin .geq (.node []) false (.tmp 23) (.const (.int .u8 97)), none⟩, ⟨(some 25), .mov (.tmp 24), none⟩, ⟨(some 26), .mov (.tmp 4), (some (25, true))⟩, ⟨(some 27), .bin .leq (.node []) false (.tmp 26) (.const (.int .u8 122)), (some (25, true))⟩, ⟨(some 28), .pick (.tmp 25) (.tmp 27) (.const (.bool false)), none⟩, ⟨(some 29), .mov (.tmp 28), none⟩, ⟨(some 30), .mov (.tmp 4), (some (29, false))⟩, ⟨(some 31), .bin .geq (.node []) false (.tmp 30) (.const (.int .u8 65)), (some (29, false))⟩, ⟨(some 32), .mov (.tmp 31), (some (29, false))⟩, ⟨(some 33), .mov (.tmp 4), (some (32, true))⟩, ⟨(some 34), .bin .leq (.node []) false (.tmp 33) (.const (.int .u8 90)), (some (32, true))⟩, ⟨(some 35), .pick (.tmp 32) (.tmp 34) (.const (.bool false)), (some (29, false))⟩, ⟨(some 36), .pick (.tmp 29) (.const (.bool true)) (.tmp 35), none⟩, ⟨(some 5), .mov (.tmp 36), none⟩])
 (.seq (.reg [⟨(some 37), .mov (.tmp 5), none⟩, ⟨(some 38), .un .not (.tmp 37), none⟩, ⟨(some 39), .mov (.tmp 38), none⟩, ⟨(some 40), .mov (.tmp 3), (some (39, true))⟩, ⟨(some 41), .bin .eql (.prim .int) true (.tmp 40) (.const (.int .i64 0)), (some (39, true))⟩, ⟨(some 42), .mov (.tmp 41), (some (39, true))⟩, ⟨(some 43), .mov (.tmp 4), (some (42, false))⟩, ⟨(some 44), .bin .geq (.node []) false (.tmp 43) (.const (.int .u8 48)), (some (42, false))⟩, ⟨(some 45), .mov (.tmp 44), (some (42, false))⟩, ⟨(some 46), .mov (.tmp 4), (some (45, true))⟩, ⟨(some 47), .bin .leq (.node []) false (.tmp 46) (.const (.int .u8 57)), (some (45, true))⟩, ⟨(some 48), .pick (.tmp 45) (.tmp 47) (.const (.bool false)), (some (42, false))⟩, ⟨(some 49), .mov (.tmp 48), (some (42, false))⟩, ⟨(some 50), .mov (.tmp 4), (some (49, false))⟩, ⟨(some 51), .bin .eql (.prim .int) true (.tmp 50) (.const (.int .u8 95)), (some (49, false))⟩, ⟨(some 52), .pick (.tmp 49) (.const (.bool true)) (.tmp 51), (some (42, false))⟩, ⟨(some 53), .un .not (.tmp 52), (some (42, false))⟩, ⟨(some 54), .pick (.tmp 42) (.const (.bool true)) (.tmp 53), (some (39, true))⟩, ⟨(some 55), .pick (.tmp 39) (.tmp 54) (.const (.bool false)), none⟩])
 (.cond (.tmp 55)
 (.seq (.reg [⟨(some 2), .mov (.const (.bool false)), none⟩])
 (.ret))
 (.skip))))))
 (.reg [⟨(some 18), .mov (.tmp 3), none⟩, ⟨(some 19), .bin .add (.node []) false (.tmp 18) (.const (.int .i64 1)), none⟩, ⟨(some 3), .mov (.tmp 19), none⟩]))
/-- lenslet/lensletref01.IsName -/
def A.b88 : MCode := .seq (.reg [⟨(some 2), .mov (.const (.bool false)), none⟩])
 (.seq (.seq (.reg [⟨(some 6), .mov (.tmp 0), none⟩, ⟨(some 7), .len 0 (.tmp 6), none⟩, ⟨(some 8), .bin .lss (.node []) false (.tmp 7) (.const (.int .i64 1)), none⟩, ⟨(some 9), .mov (.tmp 8), none⟩, ⟨(some 10), .mov (.tmp 0), (some (9, false))⟩, ⟨(some 11), .len 0 (.tmp 10), (some (9, false))⟩, ⟨(some 12), .bin .gtr (.node []) false (.tmp 11) (.const (.int .i64 24)), (some (9, false))⟩, ⟨(some 13), .pick (.tmp 9) (.const (.bool true)) (.tmp 12), none⟩])
 (.cond (.tmp 13)
 (.seq (.reg [⟨(some 2), .mov (.const (.bool false)), none⟩])
 (.ret))
 (.skip)))
 (.seq (.seq (.reg [⟨(some 3), .mov (.const (.int .i64 0)), none⟩])
 (.block 0 (.loop A.lb88_0)))
 (.seq (.reg [⟨(some 2), .mov (.const (.bool true)), none⟩])
 (.ret))))
theorem A.c88 : cFunc Tryz.prog 88 = some ⟨56, [.tmp 2], A.b88⟩ := by kernel_rfl
theorem A.k88 {K : List Kf} {Q : Rs → Prop} {f c args : List V} {st : St} (h : (f ++ args ++ c).length ≤ 56) : Run A.C K (valR (A.C.call (.func 88 f c) args st)) Q ↔ Run A.C (.fin [.tmp 2] st :: K) (exR (A.C.code none A.b88 ⟨setRegs .nil 0 (f ++ args ++ c), 56, []⟩ ⟨st.h, st.n, []⟩)) Q := run_func (A.x0 (f := 88) (by decide)) (mf := ⟨56, [.tmp 2], A.b88⟩) (by rw [A.t]; exact A.c88) h

theorem rIsName_eq {s : Str} {st : St} : A.C.call (.func 88 [] []) [.str s] st = some (.bool (isName s), st) := by
  apply Call.eq
  rw [call_run, A.k88 (by simp)]
  unfold isName
  by_cases h1 : s.length < 1
  · have : s = [] := List.eq_nil_of_length_eq_zero (by omega)
    subst this
    simp [A.b88]
  · have hne : s ≠ [] := fun h => by rw [h] at h1; simp at h1
    have h1' : ¬ ((s.length : Int) < 1) := by omega
    by_cases h2 : s.length ≤ 24
    · have h2' : ¬ (24 < (s.length : Int)) := by omega
      simp [A.b88, h1', h2', hne, h2]
      refine run_loopD [(2, 5), (14, 55)] (fun e r s1 => s1 = ⟨st.h, st.n, []⟩ ∧ ((e = .exit 0 ∧ nameL 0 s = true) ∨ (e = .ret ∧ nameL 0 s = false ∧ r.get 2 = some (.bool false)))) (fun m r s1 => s1 = ⟨st.h, st.n, []⟩ ∧ ∃ k, m = s.length - k ∧ k ≤ s.length ∧ r.get 3 = some (.int .i64 k) ∧ nameL 0 s = nameL k (s.drop k)) s.length ?_ ?_ ?_
      · exact ⟨rfl, 0, by omega, by omega, by simp, by simp⟩
      · rintro m r _ hr hf ⟨rfl, k, rfl, hk, h3, hz⟩
        rw [code_run]
        by_cases hlt : k < s.length
        · obtain ⟨c, hc⟩ := get_of_lt hlt
          rw [get_drop_cons hc, nameL] at hz
          simp only [nameC, letC_u, digC_u, usc_u] at hz
          have hk1 : (k : Int) < (s.length : Int) := by omega
          by_cases hk0 : k = 0
          · have e0 := eq_true hk0
            obtain hx | hx | hx | hx | hx : u8I c < 65 ∨ (65 ≤ u8I c ∧ u8I c ≤ 90) ∨ (90 < u8I c ∧ u8I c < 97) ∨ (97 ≤ u8I c ∧ u8I c ≤ 122) ∨ 122 < u8I c := by omega
            all_goals
              first | (have a0 : 97 ≤ u8I c := by omega) | (have a0 : ¬ (97 ≤ u8I c) := by omega)
              first | (have a1 : u8I c ≤ 122 := by omega) | (have a1 : ¬ (u8I c ≤ 122) := by omega)
              first | (have a2 : 65 ≤ u8I c := by omega) | (have a2 : ¬ (65 ≤ u8I c) := by omega)
              first | (have a3 : u8I c ≤ 90 := by omega) | (have a3 : ¬ (u8I c ≤ 90) := by omega)
              simp (disch := first | (simp; done) | omega | (simp only [dg_length, dgi_length, List.length_cons]; omega) | rfl) [-getElem?_pos, List.getElem?_cons_zero, List.getElem?_cons_succ, A.lb88_0, hr, h3, hf, hc, hk1, e0, eqPrim, a0, a1, a2, a3]
              simp [letZ, a0, a1, a2, a3, e0] at hz
              first | exact hz | exact ⟨_, by omega, k + 1, rfl, by omega, rfl, hz⟩
          · obtain hx | hx | hx | hx | hx | hx | hx | hx | hx : u8I c < 48 ∨ (48 ≤ u8I c ∧ u8I c ≤ 57) ∨ (57 < u8I c ∧ u8I c < 65) ∨ (65 ≤ u8I c ∧ u8I c ≤ 90) ∨ (90 < u8I c ∧ u8I c < 95) ∨ u8I c = 95 ∨ u8I c = 96 ∨ (97 ≤ u8I c ∧ u8I c ≤ 122) ∨ 122 < u8I c := by omega
            all_goals
              first | (have a0 : 97 ≤ u8I c := by omega) | (have a0 : ¬ (97 ≤ u8I c) := by omega)
              first | (have a1 : u8I c ≤ 122 := by omega) | (have a1 : ¬ (u8I c ≤ 122) := by omega)
              first | (have a2 : 65 ≤ u8I c := by omega) | (have a2 : ¬ (65 ≤ u8I c) := by omega)
              first | (have a3 : u8I c ≤ 90 := by omega) | (have a3 : ¬ (u8I c ≤ 90) := by omega)
              first | (have a4 : 48 ≤ u8I c := by omega) | (have a4 : ¬ (48 ≤ u8I c) := by omega)
              first | (have a5 : u8I c ≤ 57 := by omega) | (have a5 : ¬ (u8I c ≤ 57) := by omega)
              first | (have a6 : u8I c = 95 := by omega) | (have a6 : ¬ (u8I c = 95) := by omega)
              simp (disch := first | (simp; done) | omega | (simp only [dg_length, dgi_length, List.length_cons]; omega) | rfl) [-getElem?_pos, List.getElem?_cons_zero, List.getElem?_cons_succ, A.lb88_0, hr, h3, hf, hc, hk1, hk0, eqPrim, a0, a1, a2, a3, a4, a5, a6]
              simp [letZ, a0, a1, a2, a3, a4, a5, a6, hk0] at hz
              first | exact hz | exact ⟨_, by omega, k + 1, rfl, by omega, rfl, hz⟩
        · have : s.drop k = [] := List.drop_eq_nil_of_le (by omega)
          rw [this, nameL] at hz
          have : k = s.length := by omega
          subst this
          simp (disch := first | (simp; done) | omega | (simp only [dg_length, dgi_length, List.length_cons]; omega) | rfl) [-getElem?_pos, List.getElem?_cons_zero, List.getElem?_cons_succ, A.lb88_0, hr, h3, hf, hz]
      · rintro e r _ hr ⟨rfl, ⟨rfl, hz⟩ | ⟨rfl, hz, h2⟩⟩
        · simp [hz]
        · simp [hz, h2]
    · have h2' : 24 < (s.length : Int) := by omega
      simp [A.b88, h1', h2', h2]

end Go.Mx
/- lensletref09: At, shaped, within. -/
namespace Go.Mx
open Go Go.Proofs
set_option maxRecDepth 1000000
set_option linter.unusedSimpArgs false
set_option linter.unusedVariables false
def A.lb20_0 : MCode := .seq (.seq (.reg [⟨(some 6), .mov (.tmp 5), none⟩, ⟨(some 7), .mov (.tmp 0), none⟩, ⟨(some 8), .len 1 (.tmp 7), none⟩, ⟨(some 9), .bin .lss (.node []) false (.tmp 6) (.tmp 8), none⟩])
 (.cond (.tmp 9)
 (.skip)
 (.exit 0)))
 (.seq (.block 1 (.seq (.reg [⟨(some 12), .mov (.tmp 0), none⟩, ⟨(some 13), .mov (.tmp 5), none⟩, ⟨(some 14), .iaddrSl 5 (.tmp 12) (.tmp 13), none⟩, ⟨(some 15), .faddr 0 (.tmp 14), none⟩, ⟨(some 16), .load none (.tmp 15), none⟩, ⟨(some 17), .mov (.tmp 1), none⟩, ⟨(some 18), .bin .eql (.prim .str) false (.tmp 16) (.tmp 17), none⟩])
 (.cond (.tmp 18)
 (.seq (.reg [⟨(some 19), .mov (.tmp 5), none⟩, ⟨(some 4), .mov (.tmp 19), none⟩])
 (.ret))
 (.skip))))
 (.reg [⟨(some 10), .mov (.tmp 5), none⟩, ⟨(some 11), .bin .add (.node []) false (.tmp 10) (.const (.int .i64 1)), none⟩, ⟨(some 5), .mov (.tmp 11), none⟩]))
/-- lenslet/lensletref09.At -/
def A.b20 : MCode := .seq (.reg [⟨(some 4), .mov (.const (.int .i64 0)), none⟩])
 (.seq (.seq (.reg [⟨(some 5), .mov (.const (.int .i64 0)), none⟩])
 (.block 0 (.loop A.lb20_0)))
 (.seq (.reg [⟨(some 4), .mov (.const (.int .i64 (-1))), none⟩])
 (.ret)))
theorem A.c20 : cFunc Tryz.prog 20 = some ⟨20, [.tmp 4], A.b20⟩ := by kernel_rfl
theorem A.k20 {K : List Kf} {Q : Rs → Prop} {f c args : List V} {st : St} (h : (f ++ args ++ c).length ≤ 20) : Run A.C K (valR (A.C.call (.func 20 f c) args st)) Q ↔ Run A.C (.fin [.tmp 4] st :: K) (exR (A.C.code none A.b20 ⟨setRegs .nil 0 (f ++ args ++ c), 20, []⟩ ⟨st.h, st.n, []⟩)) Q := run_func (A.x0 (f := 20) (by decide)) (mf := ⟨20, [.tmp 4], A.b20⟩) (by rw [A.t]; exact A.c20) h
/-- lenslet/lensletref09.shaped -/
def A.b89 : MCode := .seq (.reg [⟨(some 4), .mov (.const (.bool false)), none⟩, ⟨(some 5), .mov (.const (.bool false)), none⟩])
 (.seq (.seq (.reg [⟨(some 6), .mov (.tmp 0), none⟩])
 (.block 0 (.seq (.reg [⟨(some 8), .bin .eql (.prim .str) true (.tmp 6) (.const (.str [102, 114, 97, 109, 101])), none⟩, ⟨(some 7), .mov (.tmp 8), none⟩])
 (.cond (.tmp 7)
 (.seq (.reg [⟨(some 9), .mov (.tmp 1), none⟩, ⟨(some 10), .bin .eql (.prim .int) true (.tmp 9) (.const (.int .i64 0)), none⟩, ⟨(some 4), .mov (.const (.bool true)), none⟩, ⟨(some 5), .mov (.tmp 10), none⟩])
 (.ret))
 (.seq (.seq (.reg [⟨(some 12), .bin .eql (.prim .str) true (.tmp 6) (.const (.str [97, 100, 100])), none⟩, ⟨(some 11), .mov (.tmp 12), none⟩])
 (.cond (.tmp 11)
 (.skip)
 (.reg [⟨(some 13), .bin .eql (.prim .str) true (.tmp 6) (.const (.str [109, 97, 120])), none⟩, ⟨(some 11), .mov (.tmp 13), none⟩])))
 (.cond (.tmp 11)
 (.seq (.reg [⟨(some 14), .mov (.tmp 1), none⟩, ⟨(some 15), .bin .gtr (.node []) false (.tmp 14) (.const (.int .i64 0)), none⟩, ⟨(some 4), .mov (.const (.bool true)), none⟩, ⟨(some 5), .mov (.tmp 15), none⟩])
 (.ret))
 (.seq (.seq (.reg [⟨(some 17), .bin .eql (.prim .str) true (.tmp 6) (.const (.str [115, 99, 97, 108, 101])), none⟩, ⟨(some 16), .mov (.tmp 17), none⟩])
 (.cond (.tmp 16)
 (.skip)
 (.seq (.reg [⟨(some 18), .bin .eql (.prim .str) true (.tmp 6) (.const (.str [100, 101, 108, 97, 121])), none⟩, ⟨(some 16), .mov (.tmp 18), none⟩])
 (.cond (.tmp 16)
 (.skip)
 (.reg [⟨(some 19), .bin .eql (.prim .str) true (.tmp 6) (.const (.str [115, 117, 109])), none⟩, ⟨(some 16), .mov (.tmp 19), none⟩])))))
 (.cond (.tmp 16)
 (.seq (.reg [⟨(some 20), .mov (.tmp 1), none⟩, ⟨(some 21), .bin .eql (.prim .int) true (.tmp 20) (.const (.int .i64 1)), none⟩, ⟨(some 4), .mov (.const (.bool true)), none⟩, ⟨(some 5), .mov (.tmp 21), none⟩])
 (.ret))
 (.skip)))))))))
 (.seq (.reg [⟨(some 4), .mov (.const (.bool false)), none⟩, ⟨(some 5), .mov (.const (.bool false)), none⟩])
 (.ret)))
theorem A.c89 : cFunc Tryz.prog 89 = some ⟨22, [.tmp 4, .tmp 5], A.b89⟩ := by kernel_rfl
theorem A.k89 {K : List Kf} {Q : Rs → Prop} {f c args : List V} {st : St} (h : (f ++ args ++ c).length ≤ 22) : Run A.C K (valR (A.C.call (.func 89 f c) args st)) Q ↔ Run A.C (.fin [.tmp 4, .tmp 5] st :: K) (exR (A.C.code none A.b89 ⟨setRegs .nil 0 (f ++ args ++ c), 22, []⟩ ⟨st.h, st.n, []⟩)) Q := run_func (A.x0 (f := 89) (by decide)) (mf := ⟨22, [.tmp 4, .tmp 5], A.b89⟩) (by rw [A.t]; exact A.c89) h
/-- lenslet/lensletref09.within -/
def A.b53 : MCode := .seq (.reg [⟨(some 6), .mov (.const (.int .i64 0)), none⟩])
 (.seq (.seq (.reg [⟨(some 7), .mov (.tmp 0), none⟩, ⟨(some 8), .mov (.tmp 1), none⟩, ⟨(some 9), .bin .lss (.node []) false (.tmp 7) (.tmp 8), none⟩, ⟨(some 10), .mov (.tmp 9), none⟩, ⟨(some 11), .mov (.tmp 0), (some (10, false))⟩, ⟨(some 12), .mov (.tmp 2), (some (10, false))⟩, ⟨(some 13), .bin .gtr (.node []) false (.tmp 11) (.tmp 12), (some (10, false))⟩, ⟨(some 14), .pick (.tmp 10) (.const (.bool true)) (.tmp 13), none⟩])
 (.cond (.tmp 14)
 (.seq (.reg [⟨(some 6), .mov (.const (.int .i64 3)), none⟩])
 (.ret))
 (.skip)))
 (.seq (.reg [⟨(some 6), .mov (.const (.int .i64 0)), none⟩])
 (.ret)))
theorem A.c53 : cFunc Tryz.prog 53 = some ⟨15, [.tmp 6], A.b53⟩ := by kernel_rfl
theorem A.k53 {K : List Kf} {Q : Rs → Prop} {f c args : List V} {st : St} (h : (f ++ args ++ c).length ≤ 15) : Run A.C K (valR (A.C.call (.func 53 f c) args st)) Q ↔ Run A.C (.fin [.tmp 6] st :: K) (exR (A.C.code none A.b53 ⟨setRegs .nil 0 (f ++ args ++ c), 15, []⟩ ⟨st.h, st.n, []⟩)) Q := run_func (A.x0 (f := 53) (by decide)) (mf := ⟨15, [.tmp 6], A.b53⟩) (by rw [A.t]; exact A.c53) h

theorem at_eq {h : T O} {N : Nat} {v : V} {g : List Stg} {n : Str} {w : List Nat} (hg : Gr h N v g) (hl : g.length < 1000000) : A.C.call (.func 20 [] []) [v, .str n] ⟨h, N, w⟩ = some (.int .i64 (posI g n), ⟨h, N, w⟩) := by
  apply Call.eq
  have lg := hg.len
  rw [call_run, A.k20 (by simp)]
  simp (disch := first | (simp; done) | omega | (simp only [dg_length, dgi_length, List.length_cons]; omega) | rfl) [-getElem?_pos, List.getElem?_cons_zero, List.getElem?_cons_succ, A.b20]
  refine run_loopD [(4, 19)] (fun e r st => st = ⟨h, N, []⟩ ∧ ((e = .exit 0 ∧ ¬ pos g n < g.length) ∨ (e = .ret ∧ pos g n < g.length ∧ r.get 4 = some (.int .i64 (pos g n : Nat))))) (fun m r st => st = ⟨h, N, []⟩ ∧ ∃ k, k + m = g.length ∧ r.get 5 = some (.int .i64 k) ∧ pos g n = k + pos (g.drop k) n) g.length ?_ ?_ ?_
  · exact ⟨rfl, 0, by omega, by simp, by simp⟩
  · rintro m r _ hr hf ⟨rfl, k, hk, h5, hp⟩
    rw [code_run]
    cases m with
    | zero =>
      have : k = g.length := by omega
      subst this
      rw [List.drop_length, pos] at hp
      simp (disch := first | (simp; done) | omega | (simp only [dg_length, dgi_length, List.length_cons]; omega) | rfl) [-getElem?_pos, List.getElem?_cons_zero, List.getElem?_cons_succ, A.lb20_0, hr, hf, h5, lg]
      omega
    | succ m =>
      have hlt : k < g.length := by omega
      obtain ⟨s, hs⟩ := get_of_lt hlt
      obtain ⟨i, o, cc, e, rw, inp, q1, q2, q3, q4, q5⟩ := hg.at hs
      obtain ⟨p0, p1, p2, p3, p4, p5⟩ := stg_parts q4
      have hk1 : (k : Int) < (g.length : Int) := by omega
      rw [get_drop_cons hs, pos] at hp
      have e1 : (s.name == n) = decide (s.name = n) := by rw [Bool.eq_iff_iff]; simp
      by_cases hn : s.name = n
      · rw [if_pos hn] at hp
        simp (disch := first | (simp; done) | omega | (simp only [dg_length, dgi_length, List.length_cons]; omega) | rfl) [-getElem?_pos, List.getElem?_cons_zero, List.getElem?_cons_succ, A.lb20_0, hr, hf, h5, hk1, hlt, lg, q1, q3, p1, e1, eqPrim, hn]
        exact ⟨by omega, by rw [hp]; simp⟩
      · rw [if_neg hn] at hp
        simp (disch := first | (simp; done) | omega | (simp only [dg_length, dgi_length, List.length_cons]; omega) | rfl) [-getElem?_pos, List.getElem?_cons_zero, List.getElem?_cons_succ, A.lb20_0, hr, hf, h5, hk1, hlt, lg, q1, q3, p1, e1, eqPrim, hn]
        exact ⟨m, by omega, k + 1, by omega, by simp, by omega⟩
  · rintro e r _ hr ⟨rfl, ⟨rfl, hp⟩ | ⟨rfl, hp, h4⟩⟩
    · simp (disch := first | (simp; done) | omega | (simp only [dg_length, dgi_length, List.length_cons]; omega) | rfl) [-getElem?_pos, List.getElem?_cons_zero, List.getElem?_cons_succ, hr, posI, hp]
    · simp (disch := first | (simp; done) | omega | (simp only [dg_length, dgi_length, List.length_cons]; omega) | rfl) [-getElem?_pos, List.getElem?_cons_zero, List.getElem?_cons_succ, hr, posI, hp, h4]
theorem rwithin_eq {x lo hi : Int} {st : St} : A.C.call (.func 53 [] []) [.int .i64 x, .int .i64 lo, .int .i64 hi] st = some (.int .i64 (if x < lo ∨ hi < x then 3 else 0), st) := by
  apply Call.eq
  rw [call_run, A.k53 (by simp)]
  by_cases h1 : x < lo
  · simp [A.b53, h1]
  · by_cases h2 : hi < x <;> simp [A.b53, h1, h2]
theorem shaped_eq (s : Str) (n : Nat) : ∃ b, (∀ st, A.C.call (.func 89 [] []) [.str s, .int .i64 n] st = some (.tup [.bool (opOf s).isSome, .bool b], st)) ∧ (n ≤ 16 → ∀ o, opOf s = some o → b = decide (o.lo ≤ n ∧ n ≤ o.hi)) := by
  by_cases h0 : s = [102, 114, 97, 109, 101]
  · subst h0
    refine ⟨decide (n = 0), fun st => ?_, ?_⟩
    · apply Call.eq
      rw [call_run, A.k89 (by simp)]
      simp [A.b89, opOf, eqPrim]
      try omega
    · intro hn o ho
      simp [opOf] at ho
      subst ho
      rw [decide_eq_decide]
      show _ ↔ (0 ≤ n ∧ n ≤ 0)
      omega
  by_cases h1 : s = [97, 100, 100]
  · subst h1
    refine ⟨decide (0 < n), fun st => ?_, ?_⟩
    · apply Call.eq
      rw [call_run, A.k89 (by simp)]
      simp [A.b89, opOf, eqPrim]
      try omega
    · intro hn o ho
      simp [opOf] at ho
      subst ho
      rw [decide_eq_decide]
      show _ ↔ (1 ≤ n ∧ n ≤ 16)
      omega
  by_cases h2 : s = [109, 97, 120]
  · subst h2
    refine ⟨decide (0 < n), fun st => ?_, ?_⟩
    · apply Call.eq
      rw [call_run, A.k89 (by simp)]
      simp [A.b89, opOf, eqPrim]
      try omega
    · intro hn o ho
      simp [opOf] at ho
      subst ho
      rw [decide_eq_decide]
      show _ ↔ (1 ≤ n ∧ n ≤ 16)
      omega
  by_cases h3 : s = [115, 99, 97, 108, 101]
  · subst h3
    refine ⟨decide (n = 1), fun st => ?_, ?_⟩
    · apply Call.eq
      rw [call_run, A.k89 (by simp)]
      simp [A.b89, opOf, eqPrim]
      try omega
    · intro hn o ho
      simp [opOf] at ho
      subst ho
      rw [decide_eq_decide]
      show _ ↔ (1 ≤ n ∧ n ≤ 1)
      omega
  by_cases h4 : s = [100, 101, 108, 97, 121]
  · subst h4
    refine ⟨decide (n = 1), fun st => ?_, ?_⟩
    · apply Call.eq
      rw [call_run, A.k89 (by simp)]
      simp [A.b89, opOf, eqPrim]
      try omega
    · intro hn o ho
      simp [opOf] at ho
      subst ho
      rw [decide_eq_decide]
      show _ ↔ (1 ≤ n ∧ n ≤ 1)
      omega
  by_cases h5 : s = [115, 117, 109]
  · subst h5
    refine ⟨decide (n = 1), fun st => ?_, ?_⟩
    · apply Call.eq
      rw [call_run, A.k89 (by simp)]
      simp [A.b89, opOf, eqPrim]
      try omega
    · intro hn o ho
      simp [opOf] at ho
      subst ho
      rw [decide_eq_decide]
      show _ ↔ (1 ≤ n ∧ n ≤ 1)
      omega
  have e0 : (s == [102, 114, 97, 109, 101]) = false := by simp [h0]
  have e1 : (s == [97, 100, 100]) = false := by simp [h1]
  have e2 : (s == [109, 97, 120]) = false := by simp [h2]
  have e3 : (s == [115, 99, 97, 108, 101]) = false := by simp [h3]
  have e4 : (s == [100, 101, 108, 97, 121]) = false := by simp [h4]
  have e5 : (s == [115, 117, 109]) = false := by simp [h5]
  have ho : opOf s = none := by simp [opOf, h0, h1, h2, h3, h4, h5]
  refine ⟨false, fun st => ?_, fun _ o h => by rw [ho] at h; cases h⟩
  apply Call.eq
  rw [call_run, A.k89 (by simp)]
  simp [A.b89, ho, eqPrim, e0, e1, e2, e3, e4, e5, h0, h1, h2, h3, h4, h5]

end Go.Mx
