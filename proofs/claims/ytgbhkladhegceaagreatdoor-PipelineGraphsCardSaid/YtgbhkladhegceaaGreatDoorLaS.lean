/-
  lensletref09.Short.
-/
import Derived.Test.YtgbhkladhegceaaGreatDoorMxGr
import Derived.Test.YtgbhkladhegceaaGreatDoorPaW
set_option linter.all false
namespace Go.Mx
open Go Go.Proofs
set_option maxRecDepth 1000000
set_option linter.unusedSimpArgs false
set_option linter.unusedVariables false
def A.lb7_0 : MCode := .seq (.seq (.reg [⟨(some 62), .mov (.tmp 4), none⟩, ⟨(some 63), .mov (.tmp 0), none⟩, ⟨(some 64), .mov (.tmp 3), none⟩, ⟨(some 65), .iaddrSl 5 (.tmp 63) (.tmp 64), none⟩, ⟨(some 66), .faddr 3 (.tmp 65), none⟩, ⟨(some 67), .load none (.tmp 66), none⟩, ⟨(some 68), .len 1 (.tmp 67), none⟩, ⟨(some 69), .bin .lss (.node []) false (.tmp 62) (.tmp 68), none⟩])
 (.cond (.tmp 69)
 (.skip)
 (.exit 2)))
 (.seq (.block 3 (.seq (.reg [⟨(some 72), .mov (.tmp 0), none⟩, ⟨(some 73), .mov (.tmp 3), none⟩, ⟨(some 74), .iaddrSl 5 (.tmp 72) (.tmp 73), none⟩, ⟨(some 75), .faddr 3 (.tmp 74), none⟩, ⟨(some 76), .load none (.tmp 75), none⟩, ⟨(some 77), .mov (.tmp 4), none⟩, ⟨(some 78), .iaddrSl 1 (.tmp 76) (.tmp 77), none⟩, ⟨(some 79), .load none (.tmp 78), none⟩, ⟨(some 80), .len 0 (.tmp 79), none⟩, ⟨(some 81), .bin .gtr (.node []) false (.tmp 80) (.const (.int .i64 40)), none⟩])
 (.cond (.tmp 81)
 (.seq (.reg [⟨(some 2), .mov (.const (.bool false)), none⟩])
 (.ret))
 (.skip))))
 (.reg [⟨(some 70), .mov (.tmp 4), none⟩, ⟨(some 71), .bin .add (.node []) false (.tmp 70) (.const (.int .i64 1)), none⟩, ⟨(some 4), .mov (.tmp 71), none⟩]))
def A.lb7_1 : MCode := .seq (.seq (.reg [⟨(some 13), .mov (.tmp 3), none⟩, ⟨(some 14), .mov (.tmp 0), none⟩, ⟨(some 15), .len 1 (.tmp 14), none⟩, ⟨(some 16), .bin .lss (.node []) false (.tmp 13) (.tmp 15), none⟩])
 (.cond (.tmp 16)
 (.skip)
 (.exit 0)))
 (.seq (.block 1 (.seq (.seq (.reg [⟨(some 19), .mov (.tmp 0), none⟩, ⟨(some 20), .mov (.tmp 3), none⟩, ⟨(some 21), .iaddrSl 5 (.tmp 19) (.tmp 20), none⟩, ⟨(some 22), .faddr 0 (.tmp 21), none⟩, ⟨(some 23), .load none (.tmp 22), none⟩, ⟨(some 24), .len 0 (.tmp 23), none⟩, ⟨(some 25), .bin .gtr (.node []) false (.tmp 24) (.const (.int .i64 40)), none⟩, ⟨(some 26), .mov (.tmp 25), none⟩, ⟨(some 27), .mov (.tmp 0), (some (26, false))⟩, ⟨(some 28), .mov (.tmp 3), (some (26, false))⟩, ⟨(some 29), .iaddrSl 5 (.tmp 27) (.tmp 28), (some (26, false))⟩, ⟨(some 30), .faddr 1 (.tmp 29), (some (26, false))⟩, ⟨(some 31), .load none (.tmp 30), (some (26, false))⟩, ⟨(some 32), .len 0 (.tmp 31), (some (26, false))⟩, ⟨(some 33), .bin .gtr (.node []) false (.tmp 32) (.const (.int .i64 40)), (some (26, false))⟩, ⟨(some 34), .pick (.tmp 26) (.const (.bool true)) (.tmp 33), none⟩, ⟨(some 35), .mov (.tmp 34), none⟩, ⟨(some 36), .mov (.tmp 0), (some (35, false))⟩, ⟨(some 37), .mov (.tmp 3), (some (35, false))⟩, ⟨(some 38), .iaddrSl 5 (.tmp 36) (.tmp 37), (some (35, false))⟩, ⟨(some 39), .faddr 2 (.tmp 38), (some (35, false))⟩, ⟨(some 40), .load none (.tmp 39), (some (35, false))⟩, ⟨(some 41), .len 0 (.tmp 40), (some (35, false))⟩, ⟨(some 42), .bin .gtr (.node []) false (.tmp 41) (.const (.int .i64 20)), (some (35, false))⟩, ⟨(some 43), .pick (.tmp 35) (.const (.bool true)) (.tmp 42), none⟩, ⟨(some 44), .mov (.tmp 43), none⟩, ⟨(some 45), .mov (.tmp 0), (some (44, false))⟩, ⟨(some 46), .mov (.tmp 3), (some (44, false))⟩, ⟨(some 47), .iaddrSl 5 (.tmp 45) (.tmp 46), (some (44, false))⟩, ⟨(some 48), .faddr 3 (.tmp 47), (some (44, false))⟩, ⟨(some 49), .load none (.tmp 48), (some (44, false))⟩, ⟨(some 50), .len 1 (.tmp 49), (some (44, false))⟩, ⟨(some 51), .bin .gtr (.node []) false (.tmp 50) (.const (.int .i64 5)), (some (44, false))⟩, ⟨(some 52), .mov (.tmp 51), (some (44, false))⟩, ⟨(some 53), .mov (.tmp 0), (some (52, true))⟩, ⟨(some 54), .mov (.tmp 3), (some (52, true))⟩, ⟨(some 55), .iaddrSl 5 (.tmp 53) (.tmp 54), (some (52, true))⟩, ⟨(some 56), .faddr 3 (.tmp 55), (some (52, true))⟩, ⟨(some 57), .load none (.tmp 56), (some (52, true))⟩, ⟨(some 58), .len 1 (.tmp 57), (some (52, true))⟩, ⟨(some 59), .bin .neq (.prim .int) true (.tmp 58) (.const (.int .i64 17)), (some (52, true))⟩, ⟨(some 60), .pick (.tmp 52) (.tmp 59) (.const (.bool false)), (some (44, false))⟩, ⟨(some 61), .pick (.tmp 44) (.const (.bool true)) (.tmp 60), none⟩])
 (.cond (.tmp 61)
 (.seq (.reg [⟨(some 2), .mov (.const (.bool false)), none⟩])
 (.ret))
 (.skip)))
 (.seq (.reg [⟨(some 4), .mov (.const (.int .i64 0)), none⟩])
 (.block 2 (.loop A.lb7_0)))))
 (.reg [⟨(some 17), .mov (.tmp 3), none⟩, ⟨(some 18), .bin .add (.node []) false (.tmp 17) (.const (.int .i64 1)), none⟩, ⟨(some 3), .mov (.tmp 18), none⟩]))
/-- lenslet/lensletref09.Short -/
def A.b7 : MCode := .seq (.reg [⟨(some 2), .mov (.const (.bool false)), none⟩])
 (.seq (.seq (.reg [⟨(some 5), .mov (.tmp 0), none⟩, ⟨(some 6), .len 1 (.tmp 5), none⟩, ⟨(some 7), .bin .gtr (.node []) false (.tmp 6) (.const (.int .i64 6)), none⟩, ⟨(some 8), .mov (.tmp 7), none⟩, ⟨(some 9), .mov (.tmp 0), (some (8, true))⟩, ⟨(some 10), .len 1 (.tmp 9), (some (8, true))⟩, ⟨(some 11), .bin .neq (.prim .int) true (.tmp 10) (.const (.int .i64 17)), (some (8, true))⟩, ⟨(some 12), .pick (.tmp 8) (.tmp 11) (.const (.bool false)), none⟩])
 (.cond (.tmp 12)
 (.seq (.reg [⟨(some 2), .mov (.const (.bool false)), none⟩])
 (.ret))
 (.skip)))
 (.seq (.seq (.reg [⟨(some 3), .mov (.const (.int .i64 0)), none⟩])
 (.block 0 (.loop A.lb7_1)))
 (.seq (.reg [⟨(some 2), .mov (.const (.bool true)), none⟩])
 (.ret))))
theorem A.c7 : cFunc Tryz.prog 7 = some ⟨82, [.tmp 2], A.b7⟩ := by kernel_rfl
theorem A.k7 {K : List Kf} {Q : Rs → Prop} {f c args : List V} {st : St} (h : (f ++ args ++ c).length ≤ 82) : Run A.C K (valR (A.C.call (.func 7 f c) args st)) Q ↔ Run A.C (.fin [.tmp 2] st :: K) (exR (A.C.code none A.b7 ⟨setRegs .nil 0 (f ++ args ++ c), 82, []⟩ ⟨st.h, st.n, []⟩)) Q := run_func (A.x0 (f := 7) (by decide)) (mf := ⟨82, [.tmp 2], A.b7⟩) (by rw [A.t]; exact A.c7) h

def ShI (h : T O) (N : Nat) (g : List Stg) (m : Nat) (r : T V) (st : St) : Prop := st = ⟨h, N, []⟩ ∧ ∃ k, k + m = g.length ∧ r.get 3 = some (.int .i64 k) ∧ g.all shortS = (g.drop k).all shortS
theorem short_loop {h : T O} {N : Nat} {v : V} {g : List Stg} (hg : Gr h N v g) (hl : g.length < 9223372036854775808) (hin : ∀ s ∈ g, s.inputs.length < 9223372036854775808) {r0 : T V} (a0 : r0.get 0 = some v) :
    ∀ k r st, (∀ t, inD [(2, 4), (13, 81)] t = false → r.get t = r0.get t) → Fx [(2, 4), (13, 81)] r0 82 ⟨r, 82, []⟩ → ShI h N g k r st → Code A.C none A.lb7_1 ⟨r, 82, []⟩ st (Rd [(2, 4), (13, 81)] r0 82 (ShI h N g) k (fun e r st => st = ⟨h, N, []⟩ ∧ ((e = .exit 0 ∧ g.all shortS = true) ∨ (e = .ret ∧ g.all shortS = false ∧ r.get 2 = some (.bool false))))) := by
  rintro m r _ hr hf ⟨rfl, k, hk, h3, hz⟩
  have lg := hg.len
  rw [code_run]
  cases m with
  | zero =>
    have : k = g.length := by omega
    subst this
    rw [List.drop_length, List.all_nil] at hz
    simp (disch := first | (simp; done) | omega | (simp only [dg_length, dgi_length, List.length_cons]; omega) | rfl) [-getElem?_pos, List.getElem?_cons_zero, List.getElem?_cons_succ, A.lb7_1, hr, hf, a0, h3, lg]
    simpa using hz
  | succ m =>
    have hlt : k < g.length := by omega
    obtain ⟨s, hs⟩ := get_of_lt hlt
    obtain ⟨i, o, cc, e, rw, inp, q1, q2, q3, q4, q5⟩ := hg.at hs
    obtain ⟨p0, p1, p2, p3, p4, p5⟩ := stg_parts q4
    have hk1 : (k : Int) < (g.length : Int) := by omega
    have lz := q5.len
    rw [strs_len] at lz
    have hinl := hin s (List.mem_of_getElem? hs)
    rw [get_drop_cons hs, List.all_cons] at hz
    have fal : ∀ (hc : shortS s = false), g.all shortS = false := fun hc => by rw [hz, hc]; rfl
    by_cases c1 : s.name.length ≤ 40
    · have c1' : ¬ 40 < (s.name.length : Int) := by omega
      by_cases c2 : s.op.length ≤ 40
      · have c2' : ¬ 40 < (s.op.length : Int) := by omega
        by_cases c3 : s.factor.length ≤ 20
        · have c3' : ¬ 20 < (s.factor.length : Int) := by omega
          by_cases c4 : s.inputs.length ≤ 5 ∨ s.inputs.length = 17
          · have hss : shortS s = s.inputs.all (fun n => decide (n.length ≤ 40)) := by simp [shortS, c1, c2, c3, c4]
            rcases c4 with c4 | c4
            · have c4' : ¬ 5 < (s.inputs.length : Int) := by omega
              simp (disch := first | (simp; done) | omega | (simp only [dg_length, dgi_length, List.length_cons]; omega) | rfl) [-getElem?_pos, List.getElem?_cons_zero, List.getElem?_cons_succ, A.lb7_1, hr, hf, a0, h3, hk1, hlt, lg, q1, q3, p1, p2, p3, p4, lz, c1', c2', c3', c4']
              refine run_loopD [(2, 2), (4, 4), (62, 81)] (fun e r st => st = ⟨h, N, []⟩ ∧ ((e = .exit 2 ∧ shortS s = true) ∨ (e = .ret ∧ shortS s = false ∧ r.get 2 = some (.bool false)))) (fun m r st => st = ⟨h, N, []⟩ ∧ ∃ t, t + m = s.inputs.length ∧ r.get 4 = some (.int .i64 t) ∧ shortS s = (s.inputs.drop t).all (fun n => decide (n.length ≤ 40))) s.inputs.length ?_ ?_ ?_
              · exact ⟨rfl, 0, by omega, by simp, by simpa using hss⟩
              · rintro m2 r2 _ hr2 hf2 ⟨rfl, t, ht, h4, hz2⟩
                rw [code_run]
                cases m2 with
                | zero =>
                  have : t = s.inputs.length := by omega
                  rw [this, List.drop_length, List.all_nil] at hz2
                  rw [this] at h4
                  simp (disch := first | (simp; done) | omega | (simp only [dg_length, dgi_length, List.length_cons]; omega) | rfl) [-getElem?_pos, List.getElem?_cons_zero, List.getElem?_cons_succ, A.lb7_0, hr, hr2, hf2, a0, h3, h4, hk1, hlt, lg, q1, q3, p4, lz, hz2]
                | succ m2 =>
                  have htl : t < s.inputs.length := by omega
                  have htl' : (t : Int) < (s.inputs.length : Int) := by omega
                  obtain ⟨n, hn⟩ := get_of_lt htl
                  obtain ⟨b1, b2, b3, b4, b5, z1, z2, z3, z4⟩ := q5.at (strs_get hn)
                  rw [get_drop_cons hn, List.all_cons] at hz2
                  by_cases cn : n.length ≤ 40
                  · have cn' : ¬ 40 < (n.length : Int) := by omega
                    simp (disch := first | (simp; done) | omega | (simp only [dg_length, dgi_length, List.length_cons]; omega) | rfl) [-getElem?_pos, List.getElem?_cons_zero, List.getElem?_cons_succ, A.lb7_0, hr, hr2, hf2, a0, h3, h4, hk1, hlt, htl, htl', lg, q1, q3, p4, lz, z1, z3, z4, cn']
                    exact ⟨m2, by omega, t + 1, by omega, by simp, by rw [hz2]; simp [cn]⟩
                  · have cn' : 40 < (n.length : Int) := by omega
                    have hq : shortS s = false := by rw [hz2]; simp [cn]
                    simp (disch := first | (simp; done) | omega | (simp only [dg_length, dgi_length, List.length_cons]; omega) | rfl) [-getElem?_pos, List.getElem?_cons_zero, List.getElem?_cons_succ, A.lb7_0, hr, hr2, hf2, a0, h3, h4, hk1, hlt, htl, htl', lg, q1, q3, p4, lz, z1, z3, z4, cn', hq]
              · rintro e r2 _ hr2 ⟨rfl, ⟨rfl, hq⟩ | ⟨rfl, hq, h2⟩⟩
                · have hfi := hf.inner (D' := [(2, 2), (4, 4), (62, 81)]) rfl (by simp) hr2
                  have hz' : g.all shortS = (g.drop (k + 1)).all shortS := by rw [hz, hq]; simp
                  simp (disch := first | (simp; done) | omega | (simp only [dg_length, dgi_length, List.length_cons]; omega) | rfl) [-getElem?_pos, List.getElem?_cons_zero, List.getElem?_cons_succ, hr, hr2, h3, hfi]
                  exact ⟨m, by omega, rfl, k + 1, by omega, by simp, hz'⟩
                · have hfi := hf.inner (D' := [(2, 2), (4, 4), (62, 81)]) rfl (by simp) hr2
                  have hq' := fal hq
                  simp (disch := first | (simp; done) | omega | (simp only [dg_length, dgi_length, List.length_cons]; omega) | rfl) [-getElem?_pos, List.getElem?_cons_zero, List.getElem?_cons_succ, hr, hr2, h2, hfi]
                  simpa using hq'
            · have c4' : 5 < (s.inputs.length : Int) := by omega
              have c5' : (s.inputs.length : Int) = 17 := by omega
              simp (disch := first | (simp; done) | omega | (simp only [dg_length, dgi_length, List.length_cons]; omega) | rfl) [-getElem?_pos, List.getElem?_cons_zero, List.getElem?_cons_succ, A.lb7_1, hr, hf, a0, h3, hk1, hlt, lg, q1, q3, p1, p2, p3, p4, lz, c1', c2', c3', c4', c4, eqPrim]
              refine run_loopD [(2, 2), (4, 4), (62, 81)] (fun e r st => st = ⟨h, N, []⟩ ∧ ((e = .exit 2 ∧ shortS s = true) ∨ (e = .ret ∧ shortS s = false ∧ r.get 2 = some (.bool false)))) (fun m r st => st = ⟨h, N, []⟩ ∧ ∃ t, t + m = s.inputs.length ∧ r.get 4 = some (.int .i64 t) ∧ shortS s = (s.inputs.drop t).all (fun n => decide (n.length ≤ 40))) s.inputs.length ?_ ?_ ?_
              · exact ⟨rfl, 0, by omega, by simp, by simpa using hss⟩
              · rintro m2 r2 _ hr2 hf2 ⟨rfl, t, ht, h4, hz2⟩
                rw [code_run]
                cases m2 with
                | zero =>
                  have : t = s.inputs.length := by omega
                  rw [this, List.drop_length, List.all_nil] at hz2
                  rw [this] at h4
                  simp (disch := first | (simp; done) | omega | (simp only [dg_length, dgi_length, List.length_cons]; omega) | rfl) [-getElem?_pos, List.getElem?_cons_zero, List.getElem?_cons_succ, A.lb7_0, hr, hr2, hf2, a0, h3, h4, hk1, hlt, lg, q1, q3, p4, lz, hz2]
                | succ m2 =>
                  have htl : t < s.inputs.length := by omega
                  have htl' : (t : Int) < (s.inputs.length : Int) := by omega
                  obtain ⟨n, hn⟩ := get_of_lt htl
                  obtain ⟨b1, b2, b3, b4, b5, z1, z2, z3, z4⟩ := q5.at (strs_get hn)
                  rw [get_drop_cons hn, List.all_cons] at hz2
                  by_cases cn : n.length ≤ 40
                  · have cn' : ¬ 40 < (n.length : Int) := by omega
                    simp (disch := first | (simp; done) | omega | (simp only [dg_length, dgi_length, List.length_cons]; omega) | rfl) [-getElem?_pos, List.getElem?_cons_zero, List.getElem?_cons_succ, A.lb7_0, hr, hr2, hf2, a0, h3, h4, hk1, hlt, htl, htl', lg, q1, q3, p4, lz, z1, z3, z4, cn']
                    exact ⟨m2, by omega, t + 1, by omega, by simp, by rw [hz2]; simp [cn]⟩
                  · have cn' : 40 < (n.length : Int) := by omega
                    have hq : shortS s = false := by rw [hz2]; simp [cn]
                    simp (disch := first | (simp; done) | omega | (simp only [dg_length, dgi_length, List.length_cons]; omega) | rfl) [-getElem?_pos, List.getElem?_cons_zero, List.getElem?_cons_succ, A.lb7_0, hr, hr2, hf2, a0, h3, h4, hk1, hlt, htl, htl', lg, q1, q3, p4, lz, z1, z3, z4, cn', hq]
              · rintro e r2 _ hr2 ⟨rfl, ⟨rfl, hq⟩ | ⟨rfl, hq, h2⟩⟩
                · have hfi := hf.inner (D' := [(2, 2), (4, 4), (62, 81)]) rfl (by simp) hr2
                  have hz' : g.all shortS = (g.drop (k + 1)).all shortS := by rw [hz, hq]; simp
                  simp (disch := first | (simp; done) | omega | (simp only [dg_length, dgi_length, List.length_cons]; omega) | rfl) [-getElem?_pos, List.getElem?_cons_zero, List.getElem?_cons_succ, hr, hr2, h3, hfi]
                  exact ⟨m, by omega, rfl, k + 1, by omega, by simp, hz'⟩
                · have hfi := hf.inner (D' := [(2, 2), (4, 4), (62, 81)]) rfl (by simp) hr2
                  have hq' := fal hq
                  simp (disch := first | (simp; done) | omega | (simp only [dg_length, dgi_length, List.length_cons]; omega) | rfl) [-getElem?_pos, List.getElem?_cons_zero, List.getElem?_cons_succ, hr, hr2, h2, hfi]
                  simpa using hq'
          · have c4' : 5 < (s.inputs.length : Int) := by omega
            have c5' : ¬ (s.inputs.length : Int) = 17 := by omega
            have c5 : ¬ s.inputs.length = 17 := by omega
            have hq := fal (by simp [shortS, c4])
            simp (disch := first | (simp; done) | omega | (simp only [dg_length, dgi_length, List.length_cons]; omega) | rfl) [-getElem?_pos, List.getElem?_cons_zero, List.getElem?_cons_succ, A.lb7_1, hr, hf, a0, h3, hk1, hlt, lg, q1, q3, p1, p2, p3, p4, lz, c1', c2', c3', c4', c5, c5', eqPrim]
            simpa using hq
        · have c3' : 20 < (s.factor.length : Int) := by omega
          have hq := fal (by simp [shortS, c3])
          simp (disch := first | (simp; done) | omega | (simp only [dg_length, dgi_length, List.length_cons]; omega) | rfl) [-getElem?_pos, List.getElem?_cons_zero, List.getElem?_cons_succ, A.lb7_1, hr, hf, a0, h3, hk1, hlt, lg, q1, q3, p1, p2, p3, p4, lz, c1', c2', c3']
          simpa using hq
      · have c2' : 40 < (s.op.length : Int) := by omega
        have hq := fal (by simp [shortS, c2])
        simp (disch := first | (simp; done) | omega | (simp only [dg_length, dgi_length, List.length_cons]; omega) | rfl) [-getElem?_pos, List.getElem?_cons_zero, List.getElem?_cons_succ, A.lb7_1, hr, hf, a0, h3, hk1, hlt, lg, q1, q3, p1, p2, p3, p4, lz, c1', c2']
        simpa using hq
    · have c1' : 40 < (s.name.length : Int) := by omega
      have hq := fal (by simp [shortS, c1])
      simp (disch := first | (simp; done) | omega | (simp only [dg_length, dgi_length, List.length_cons]; omega) | rfl) [-getElem?_pos, List.getElem?_cons_zero, List.getElem?_cons_succ, A.lb7_1, hr, hf, a0, h3, hk1, hlt, lg, q1, q3, p1, p2, p3, p4, lz, c1']
      simpa using hq

theorem short_eq {h : T O} {N : Nat} {v : V} {g : List Stg} {w : List Nat} (hg : Gr h N v g) (hl : g.length < 9223372036854775808) (hin : ∀ s ∈ g, s.inputs.length < 9223372036854775808) : A.C.call (.func 7 [] []) [v] ⟨h, N, w⟩ = some (.bool (shortG g), ⟨h, N, w⟩) := by
  apply Call.eq
  have lg := hg.len
  rw [call_run, A.k7 (by simp)]
  by_cases hlen : g.length ≤ 6 ∨ g.length = 17
  · have hsg : shortG g = g.all shortS := by simp [shortG, hlen]
    rw [hsg]
    have key : ∀ (K : List Kf) (r0 : T V) (Q : Rs → Prop), True := fun _ _ _ => trivial
    rcases hlen with hl6 | hl17
    · have a1 : ¬ 6 < (g.length : Int) := by omega
      simp (disch := first | (simp; done) | omega | (simp only [dg_length, dgi_length, List.length_cons]; omega) | rfl) [-getElem?_pos, List.getElem?_cons_zero, List.getElem?_cons_succ, A.b7, lg, a1]
      refine run_loopD [(2, 4), (13, 81)] (fun e r st => st = ⟨h, N, []⟩ ∧ ((e = .exit 0 ∧ g.all shortS = true) ∨ (e = .ret ∧ g.all shortS = false ∧ r.get 2 = some (.bool false)))) (ShI h N g) g.length ?_ ?_ ?_
      · exact ⟨rfl, 0, by omega, by simp, by simp⟩
      · exact short_loop hg hl hin (by simp)
      · rintro e r _ hr ⟨rfl, ⟨rfl, hz⟩ | ⟨rfl, hz, h2⟩⟩
        · simp (disch := first | (simp; done) | omega | (simp only [dg_length, dgi_length, List.length_cons]; omega) | rfl) [-getElem?_pos, List.getElem?_cons_zero, List.getElem?_cons_succ, hr]; simpa using hz
        · simp (disch := first | (simp; done) | omega | (simp only [dg_length, dgi_length, List.length_cons]; omega) | rfl) [-getElem?_pos, List.getElem?_cons_zero, List.getElem?_cons_succ, hr, h2]; simpa using hz
    · have a1 : 6 < (g.length : Int) := by omega
      have a2 : (g.length : Int) = 17 := by omega
      simp (disch := first | (simp; done) | omega | (simp only [dg_length, dgi_length, List.length_cons]; omega) | rfl) [-getElem?_pos, List.getElem?_cons_zero, List.getElem?_cons_succ, A.b7, lg, a1, a2, hl17, eqPrim]
      refine run_loopD [(2, 4), (13, 81)] (fun e r st => st = ⟨h, N, []⟩ ∧ ((e = .exit 0 ∧ g.all shortS = true) ∨ (e = .ret ∧ g.all shortS = false ∧ r.get 2 = some (.bool false)))) (ShI h N g) g.length ?_ ?_ ?_
      · exact ⟨rfl, 0, by omega, by simp, by simp⟩
      · exact short_loop hg hl hin (by simp)
      · rintro e r _ hr ⟨rfl, ⟨rfl, hz⟩ | ⟨rfl, hz, h2⟩⟩
        · simp (disch := first | (simp; done) | omega | (simp only [dg_length, dgi_length, List.length_cons]; omega) | rfl) [-getElem?_pos, List.getElem?_cons_zero, List.getElem?_cons_succ, hr]; simpa using hz
        · simp (disch := first | (simp; done) | omega | (simp only [dg_length, dgi_length, List.length_cons]; omega) | rfl) [-getElem?_pos, List.getElem?_cons_zero, List.getElem?_cons_succ, hr, h2]; simpa using hz
  · have hsg : shortG g = false := by simp [shortG, hlen]
    have a1 : 6 < (g.length : Int) := by omega
    have a2 : ¬ (g.length : Int) = 17 := by omega
    have a3 : ¬ g.length = 17 := by omega
    simp (disch := first | (simp; done) | omega | (simp only [dg_length, dgi_length, List.length_cons]; omega) | rfl) [-getElem?_pos, List.getElem?_cons_zero, List.getElem?_cons_succ, A.b7, lg, a1, a2, a3, hsg, eqPrim]

end Go.Mx
