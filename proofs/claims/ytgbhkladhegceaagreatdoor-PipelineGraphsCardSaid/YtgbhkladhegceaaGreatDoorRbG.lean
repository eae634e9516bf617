/-
  lensletref01.guess.
-/
import Derived.Test.YtgbhkladhegceaaGreatDoorRbM
set_option linter.all false
namespace Go.Mx
open Go Go.Proofs
set_option maxRecDepth 1000000
set_option linter.unusedSimpArgs false
set_option linter.unusedVariables false
def A.lb201_0 : MCode := .seq (.seq (.regD [⟨(some 42), .mov (.tmp 9), none⟩, ⟨(some 43), .bin .geq (.node []) false (.tmp 42) (.const (.int .i64 1000000000)), none⟩, ⟨(some 44), .mov (.tmp 43), none⟩, ⟨(some 45), .mov (.tmp 9), (some (44, false))⟩, ⟨(some 46), .mov (.tmp 1), (some (44, false))⟩, ⟨(some 47), .mov (.tmp 7), (some (44, false))⟩, ⟨(some 48), .bin .sub (.node []) false (.tmp 47) (.const (.int .i64 2)), (some (44, false))⟩, ⟨(some 49), .iaddrSl 1 (.tmp 46) (.tmp 48), (some (44, false))⟩, ⟨(some 50), .load none (.tmp 49), (some (44, false))⟩, ⟨(some 51), .bin .mul (.node []) false (.tmp 45) (.tmp 50), (some (44, false))⟩, ⟨(some 52), .mov (.tmp 10), (some (44, false))⟩, ⟨(some 53), .bin .mul (.node []) false (.tmp 52) (.const (.int .i64 1000000000)), (some (44, false))⟩, ⟨(some 54), .mov (.tmp 0), (some (44, false))⟩, ⟨(some 55), .mov (.tmp 2), (some (44, false))⟩, ⟨(some 56), .mov (.tmp 7), (some (44, false))⟩, ⟨(some 57), .bin .add (.node []) false (.tmp 55) (.tmp 56), (some (44, false))⟩, ⟨(some 58), .bin .sub (.node []) false (.tmp 57) (.const (.int .i64 2)), (some (44, false))⟩, ⟨(some 59), .iaddrSl 1 (.tmp 54) (.tmp 58), (some (44, false))⟩, ⟨(some 60), .load none (.tmp 59), (some (44, false))⟩, ⟨(some 61), .bin .add (.node []) false (.tmp 53) (.tmp 60), (some (44, false))⟩, ⟨(some 62), .bin .gtr (.node []) false (.tmp 51) (.tmp 61), (some (44, false))⟩, ⟨(some 63), .pick (.tmp 44) (.const (.bool true)) (.tmp 62), none⟩] [0, 1, 3, 7, 7, 7, 39, 119, 247, 511, 7, 1031, 7, 7, 7, 24583, 57351, 126983, 258055, 523271, 1048575, 2097151])
 (.cond (.tmp 63)
 (.skip)
 (.exit 0)))
 (.block 1 (.seq (.reg [⟨(some 64), .mov (.tmp 9), none⟩, ⟨(some 65), .bin .sub (.node []) false (.tmp 64) (.const (.int .i64 1)), none⟩, ⟨(some 9), .mov (.tmp 65), none⟩])
 (.seq (.reg [⟨(some 66), .mov (.tmp 10), none⟩, ⟨(some 67), .mov (.tmp 1), none⟩, ⟨(some 68), .mov (.tmp 7), none⟩, ⟨(some 69), .bin .sub (.node []) false (.tmp 68) (.const (.int .i64 1)), none⟩, ⟨(some 70), .iaddrSl 1 (.tmp 67) (.tmp 69), none⟩, ⟨(some 71), .load none (.tmp 70), none⟩, ⟨(some 72), .bin .add (.node []) false (.tmp 66) (.tmp 71), none⟩, ⟨(some 10), .mov (.tmp 72), none⟩])
 (.seq (.reg [⟨(some 73), .mov (.tmp 10), none⟩, ⟨(some 74), .bin .geq (.node []) false (.tmp 73) (.const (.int .i64 1000000000)), none⟩])
 (.cond (.tmp 74)
 (.seq (.reg [⟨(some 75), .mov (.tmp 9), none⟩, ⟨(some 6), .mov (.tmp 75), none⟩])
 (.ret))
 (.skip))))))
/-- lenslet/lensletref01.guess -/
def A.b201 : MCode := .seq (.reg [⟨(some 6), .mov (.const (.int .i64 0)), none⟩])
 (.seq (.reg [⟨(some 11), .mov (.tmp 1), none⟩, ⟨(some 12), .len 1 (.tmp 11), none⟩, ⟨(some 7), .mov (.tmp 12), none⟩])
 (.seq (.regD [⟨(some 13), .mov (.tmp 0), none⟩, ⟨(some 14), .mov (.tmp 2), none⟩, ⟨(some 15), .mov (.tmp 7), none⟩, ⟨(some 16), .bin .add (.node []) false (.tmp 14) (.tmp 15), none⟩, ⟨(some 17), .iaddrSl 1 (.tmp 13) (.tmp 16), none⟩, ⟨(some 18), .load none (.tmp 17), none⟩, ⟨(some 19), .bin .mul (.node []) false (.tmp 18) (.const (.int .i64 1000000000)), none⟩, ⟨(some 20), .mov (.tmp 0), none⟩, ⟨(some 21), .mov (.tmp 2), none⟩, ⟨(some 22), .mov (.tmp 7), none⟩, ⟨(some 23), .bin .add (.node []) false (.tmp 21) (.tmp 22), none⟩, ⟨(some 24), .bin .sub (.node []) false (.tmp 23) (.const (.int .i64 1)), none⟩, ⟨(some 25), .iaddrSl 1 (.tmp 20) (.tmp 24), none⟩, ⟨(some 26), .load none (.tmp 25), none⟩, ⟨(some 27), .bin .add (.node []) false (.tmp 19) (.tmp 26), none⟩, ⟨(some 8), .mov (.tmp 27), none⟩] [0, 0, 0, 6, 15, 31, 63, 0, 0, 0, 768, 1792, 3968, 8064, 16383, 32767])
 (.seq (.regD [⟨(some 28), .mov (.tmp 8), none⟩, ⟨(some 29), .mov (.tmp 1), none⟩, ⟨(some 30), .mov (.tmp 7), none⟩, ⟨(some 31), .bin .sub (.node []) false (.tmp 30) (.const (.int .i64 1)), none⟩, ⟨(some 32), .iaddrSl 1 (.tmp 29) (.tmp 31), none⟩, ⟨(some 33), .load none (.tmp 32), none⟩, ⟨(some 34), .bin .quo (.node []) false (.tmp 28) (.tmp 33), none⟩, ⟨(some 35), .mov (.tmp 8), none⟩, ⟨(some 36), .mov (.tmp 1), none⟩, ⟨(some 37), .mov (.tmp 7), none⟩, ⟨(some 38), .bin .sub (.node []) false (.tmp 37) (.const (.int .i64 1)), none⟩, ⟨(some 39), .iaddrSl 1 (.tmp 36) (.tmp 38), none⟩, ⟨(some 40), .load none (.tmp 39), none⟩, ⟨(some 41), .bin .rem (.node []) false (.tmp 35) (.tmp 40), none⟩, ⟨(some 9), .mov (.tmp 34), none⟩, ⟨(some 10), .mov (.tmp 41), none⟩] [0, 0, 0, 4, 14, 30, 63, 0, 0, 0, 512, 1792, 3840, 8064, 127, 32767])
 (.seq (.block 0 (.loop A.lb201_0))
 (.seq (.reg [⟨(some 76), .mov (.tmp 9), none⟩, ⟨(some 6), .mov (.tmp 76), none⟩])
 (.ret))))))
theorem A.c201 : cFunc Tryz.prog 201 = some ⟨77, [.tmp 6], A.b201⟩ := by kernel_rfl
theorem A.k201 {K : List Kf} {Q : Rs → Prop} {f c args : List V} {st : St} (h : (f ++ args ++ c).length ≤ 77) : Run A.C K (valR (A.C.call (.func 201 f c) args st)) Q ↔ Run A.C (.fin [.tmp 6] st :: K) (exR (A.C.code none A.b201 ⟨setRegs .nil 0 (f ++ args ++ c), 77, []⟩ ⟨st.h, st.n, []⟩)) Q := run_func (A.x0 (f := 201) (by decide)) (mf := ⟨77, [.tmp 6], A.b201⟩) (by rw [A.t]; exact A.c201) h

structure GuI (W D v1 top : Int) (m : Nat) (r : T V) : Prop where
  ex : ∃ t q : Int, t.toNat = m ∧ r.get 9 = some (.int .i64 t) ∧ r.get 10 = some (.int .i64 q) ∧ 0 ≤ t ∧ t ≤ 1000000001 ∧ 0 ≤ q ∧ q < 1000000000 ∧ top = t * v1 + q ∧ W < (t + 1) * D
set_option maxHeartbeats 2000000 in
theorem guess_eq {h : T O} {N : Nat} {u v : V} {L Y : List Int} {j k : Nat} {d1 d2 d3 v1 v2 P U' V' W D : Int} {w : List Nat} (hu : Sl h N u (dI L)) (hv : Sl h N v (dI Y)) (hY : Y.length = k + 2) (hL : L.length < 1099511627776) (e1 : L[j + k]? = some d1) (e2 : L[j + k + 1]? = some d2) (e3 : L[j + k + 2]? = some d3) (f2 : Y[k]? = some v2) (f1 : Y[k + 1]? = some v1)
    (r1 : 0 ≤ d1 ∧ d1 < 1000000000) (r2 : 0 ≤ d2 ∧ d2 < 1000000000) (r3 : 0 ≤ d3 ∧ d3 < 1000000000) (r4 : 500000000 ≤ v1 ∧ v1 < 1000000000) (r5 : 0 ≤ v2 ∧ v2 < 1000000000) (hP : 0 < P) (hU0 : 0 ≤ U') (hU : U' < P) (hV0 : 0 ≤ V') (hV : V' < P) (hW : W = U' + P * (d1 + 1000000000 * (d3 * 1000000000 + d2))) (hD : D = V' + P * (v2 + 1000000000 * v1)) (hWD : W < 1000000000 * D) :
    ∃ t, A.C.call (.func 201 [] []) [u, v, .int .i64 j] ⟨h, N, w⟩ = some (.int .i64 t, ⟨h, N, w⟩) ∧ 0 ≤ t ∧ t ≤ 1000000000 ∧ (t - 1) * D ≤ W ∧ W < (t + 1) * D := by
  have lu := hu.len
  have lv := hv.len
  rw [dI_length] at lu lv
  rw [hY] at lv
  have hjk := lt_of_get e3
  have goal : Call A.C (.func 201 [] []) [u, v, .int .i64 j] ⟨h, N, w⟩ (fun x s => s = ⟨h, N, w⟩ ∧ ∃ t, x = .int .i64 t ∧ 0 ≤ t ∧ t ≤ 1000000000 ∧ (t - 1) * D ≤ W ∧ W < (t + 1) * D) := by
    obtain ⟨a1, a2, a3, a4, a5, x1, x2, x3, x4⟩ := hu.at (dI_get e1)
    obtain ⟨a1', a2', a3', a4', a5', x1', x2', x3', x4'⟩ := hu.at (dI_get e2)
    obtain ⟨a1'', a2'', a3'', a4'', a5'', x1'', x2'', x3'', x4''⟩ := hu.at (dI_get e3)
    rw [x1] at x1' x1''
    simp only [Option.some.injEq, Prod.mk.injEq] at x1' x1''
    obtain ⟨rfl, rfl⟩ := x1'
    obtain ⟨rfl, rfl⟩ := x1''
    rw [x3] at x3' x3''
    simp only [Option.some.injEq, O.cells.injEq] at x3' x3''
    obtain ⟨rfl, rfl, rfl⟩ := x3'
    obtain ⟨rfl, _, _⟩ := x3''
    obtain ⟨b1, b2, b3, b4, b5, y1, y2, y3, y4⟩ := hv.at (dI_get f2)
    obtain ⟨b1', b2', b3', b4', b5', y1', y2', y3', y4'⟩ := hv.at (dI_get f1)
    rw [y1] at y1'
    simp only [Option.some.injEq, Prod.mk.injEq] at y1'
    obtain ⟨rfl, rfl⟩ := y1'
    rw [y3] at y3'
    simp only [Option.some.injEq, O.cells.injEq] at y3'
    obtain ⟨rfl, _, _⟩ := y3'
    have c1 : ((k : Int) + 2 - 1) = (k : Int) + 1 := by omega
    have c2 : ((j : Int) + ((k : Int) + 2) - 1) = (j : Int) + (k : Int) + 1 := by omega
    have c3 : ((j : Int) + ((k : Int) + 2) - 2) = (j : Int) + (k : Int) := by omega
    have c4 : ((k : Int) + 2 - 2) = (k : Int) := by omega
    have c5 : ((j : Int) + ((k : Int) + 2)) = (j : Int) + (k : Int) + 2 := by omega
    have i1 : (j : Int) + (k : Int) + 2 < (L.length : Int) := by omega
    have i2 : (j : Int) + (k : Int) + 1 < (L.length : Int) := by omega
    have i3 : (j : Int) + (k : Int) < (L.length : Int) := by omega
    have i4 : (0 : Int) ≤ (j : Int) + (k : Int) + 2 := by omega
    have i5 : (0 : Int) ≤ (j : Int) + (k : Int) + 1 := by omega
    have i6 : (0 : Int) ≤ (j : Int) + (k : Int) := by omega
    have n1 : ((j : Int) + (k : Int) + 2).toNat = j + k + 2 := by omega
    have n2 : ((j : Int) + (k : Int) + 1).toNat = j + k + 1 := by omega
    have n3 : ((j : Int) + (k : Int)).toNat = j + k := by omega
    have n4 : ((k : Int) + 1).toNat = k + 1 := by omega
    have k1 : (k : Int) + 1 < (k : Int) + 2 := by omega
    have k2 : (k : Int) < (k : Int) + 2 := by omega
    have k3 : (0 : Int) ≤ (k : Int) + 1 := by omega
    have u1 : wrapF .i64 (d3 * 1000000000) = d3 * 1000000000 := wrapF_i64 (by omega) (by omega)
    have u2 : wrapF .i64 (d3 * 1000000000 + d2) = d3 * 1000000000 + d2 := wrapF_i64 (by omega) (by omega)
    have s0 : 0 ≤ d3 * 1000000000 + d2 := by omega
    have v0 : ¬ v1 = 0 := by omega
    have t1 : (d3 * 1000000000 + d2).tdiv v1 = (d3 * 1000000000 + d2) / v1 := Int.tdiv_eq_ediv_of_nonneg s0
    have t2 : (d3 * 1000000000 + d2).tmod v1 = (d3 * 1000000000 + d2) % v1 := Int.tmod_eq_emod_of_nonneg s0
    have t3 := Int.mul_ediv_add_emod (d3 * 1000000000 + d2) v1
    have t4 := Int.emod_nonneg (d3 * 1000000000 + d2) v0
    have t5 := Int.emod_lt_of_pos (d3 * 1000000000 + d2) (b := v1) (by omega)
    have gi := g_init (t := (d3 * 1000000000 + d2) / v1) (r := (d3 * 1000000000 + d2) % v1) hP hU0 hU hV0 hV r1.1 r1.2 r2.1 r3.1 r4.1 r5.1 r5.2 (by rw [← hW, ← hD]; exact hWD) (by rw [Int.mul_comm (_ / _) v1]; exact t3.symm) t4 t5
    rw [← hW, ← hD] at gi
    obtain ⟨g1, g2, g3⟩ := gi
    have t6 : wrapF .i64 ((d3 * 1000000000 + d2) / v1) = (d3 * 1000000000 + d2) / v1 := wrapF_i64 (by omega) (by omega)
    rw [call_run, A.k201 (by simp)]
    simp (disch := first | (simp; done) | omega | (simp only [dg_length, dgi_length, List.length_cons]; omega) | rfl) [-getElem?_pos, List.getElem?_cons_zero, List.getElem?_cons_succ, A.b201, lv, lu, c1, c2, c3, c4, c5, i1, i2, i3, i4, i5, i6, n1, n2, n3, n4, k1, k2, k3, x1, x2, x3, x4, x4', x4'', y1, y2, y3, y4, y4', u1, u2, v0, t1, t2, t6]
    generalize hD1 : d3 * 1000000000 + d2 = D1 at *
    refine run_loopD [(6, 6), (9, 10), (42, 75)] (fun e r st => st = ⟨h, N, []⟩ ∧ ((e = .exit 0 ∧ ∃ t, r.get 9 = some (.int .i64 t) ∧ 0 ≤ t ∧ t ≤ 1000000000 ∧ (t - 1) * D ≤ W ∧ W < (t + 1) * D) ∨ (e = .ret ∧ ∃ t, r.get 6 = some (.int .i64 t) ∧ 0 ≤ t ∧ t ≤ 1000000000 ∧ (t - 1) * D ≤ W ∧ W < (t + 1) * D))) (fun m r st => st = ⟨h, N, []⟩ ∧ GuI W D v1 D1 m r) (D1 / v1).toNat ?_ ?_ ?_
    · exact ⟨rfl, ⟨D1 / v1, D1 % v1, rfl, by simp, by simp, g1, g2, t4, by omega, by rw [Int.mul_comm (_ / _) v1]; exact t3.symm, g3⟩⟩
    · rintro m r _ hr hf ⟨rfl, ⟨t, q, rfl, h9, h10, tq0, tq1, q0, q1, htop, hlt⟩⟩
      rw [code_run]
      by_cases hA : 1000000000 ≤ t
      · have hlt : W < t * D := by
          have d0 : 0 ≤ D := by
            have := Int.mul_nonneg (Int.le_of_lt hP) (show 0 ≤ v2 + 1000000000 * v1 by omega)
            omega
          have := Int.mul_le_mul_of_nonneg_right hA d0
          omega
        have tp : 1 ≤ t := by omega
        have hq2 : wrapF .i64 (q + v1) = q + v1 := wrapF_i64 (by omega) (by omega)
        have ht2 : wrapF .i64 (t - 1) = t - 1 := wrapF_i64 (by omega) (by omega)
        have e5 : D1 = t * v1 + q := htop
        have e6 : (t - 1) * v1 + (q + v1) = t * v1 + q := by grind
        by_cases hge : 1000000000 ≤ q + v1
        · simp (disch := first | (simp; done) | omega | (simp only [dg_length, dgi_length, List.length_cons]; omega) | rfl) [-getElem?_pos, List.getElem?_cons_zero, List.getElem?_cons_succ, A.lb201_0, hr, hf, h9, h10, lv, lu, c1, c2, c3, c4, c5, i1, i2, i3, i4, i5, i6, n1, n2, n3, n4, k1, k2, k3, x1, x2, x3, x4, x4', x4'', y1, y2, y3, y4, y4', hA, hq2, ht2, hge]
          refine ⟨by omega, by omega, ?_, hlt⟩
          have m1 : (t - 1) * v2 ≤ 1000000000 * v2 := Int.mul_le_mul_of_nonneg_right (by omega) r5.1
          have := kI_exit (t := t - 1) (r := q + v1) (v1 := v1) (u1 := D1) hP hU0 r1.1 s0 (by omega) r5.1 hV0 hV (by omega) (by omega) (by rw [e6]; exact htop) (by omega)
          rw [hW, hD]
          exact this
        · simp (disch := first | (simp; done) | omega | (simp only [dg_length, dgi_length, List.length_cons]; omega) | rfl) [-getElem?_pos, List.getElem?_cons_zero, List.getElem?_cons_succ, A.lb201_0, hr, hf, h9, h10, lv, lu, c1, c2, c3, c4, c5, i1, i2, i3, i4, i5, i6, n1, n2, n3, n4, k1, k2, k3, x1, x2, x3, x4, x4', x4'', y1, y2, y3, y4, y4', hA, hq2, ht2, hge]
          exact ⟨(t - 1).toNat, by omega, ⟨t - 1, q + v1, rfl, by simp, by simp, by omega, by omega, by omega, by omega, by rw [e6]; exact htop, by rw [show t - 1 + 1 = t by omega]; exact hlt⟩⟩

      · have hA' : ¬ 1000000000 ≤ t := hA
        have m0 : 0 ≤ t * v2 := Int.mul_nonneg tq0 r5.1
        have m1 : t * v2 ≤ 1000000000 * 1000000000 := Int.mul_le_mul (by omega) (by omega) r5.1 (by omega)
        have b1' : wrapF .i64 (t * v2) = t * v2 := wrapF_i64 (by omega) (by omega)
        have b2' : wrapF .i64 (q * 1000000000) = q * 1000000000 := wrapF_i64 (by omega) (by omega)
        have b3' : wrapF .i64 (q * 1000000000 + d1) = q * 1000000000 + d1 := wrapF_i64 (by omega) (by omega)
        by_cases hB : q * 1000000000 + d1 < t * v2
        · have hlt : W < t * D := by
            have := kI_step (t := t) (r := q) (v1 := v1) (u1 := D1) hP hU hV0 tq0 htop hB
            rw [hW, hD]; exact this
          have tz : t ≠ 0 := fun hc => by rw [hc] at hB; simp at hB; omega
          have tp : 1 ≤ t := by omega
          have hq2 : wrapF .i64 (q + v1) = q + v1 := wrapF_i64 (by omega) (by omega)
          have ht2 : wrapF .i64 (t - 1) = t - 1 := wrapF_i64 (by omega) (by omega)
          have e5 : D1 = t * v1 + q := htop
          have e6 : (t - 1) * v1 + (q + v1) = t * v1 + q := by grind
          by_cases hge : 1000000000 ≤ q + v1
          · simp (disch := first | (simp; done) | omega | (simp only [dg_length, dgi_length, List.length_cons]; omega) | rfl) [-getElem?_pos, List.getElem?_cons_zero, List.getElem?_cons_succ, A.lb201_0, hr, hf, h9, h10, lv, lu, c1, c2, c3, c4, c5, i1, i2, i3, i4, i5, i6, n1, n2, n3, n4, k1, k2, k3, x1, x2, x3, x4, x4', x4'', y1, y2, y3, y4, y4', hA', b1', b2', b3', hB, hq2, ht2, hge]
            refine ⟨by omega, by omega, ?_, hlt⟩
            have m1 : (t - 1) * v2 ≤ 1000000000 * v2 := Int.mul_le_mul_of_nonneg_right (by omega) r5.1
            have := kI_exit (t := t - 1) (r := q + v1) (v1 := v1) (u1 := D1) hP hU0 r1.1 s0 (by omega) r5.1 hV0 hV (by omega) (by omega) (by rw [e6]; exact htop) (by omega)
            rw [hW, hD]
            exact this
          · simp (disch := first | (simp; done) | omega | (simp only [dg_length, dgi_length, List.length_cons]; omega) | rfl) [-getElem?_pos, List.getElem?_cons_zero, List.getElem?_cons_succ, A.lb201_0, hr, hf, h9, h10, lv, lu, c1, c2, c3, c4, c5, i1, i2, i3, i4, i5, i6, n1, n2, n3, n4, k1, k2, k3, x1, x2, x3, x4, x4', x4'', y1, y2, y3, y4, y4', hA', b1', b2', b3', hB, hq2, ht2, hge]
            exact ⟨(t - 1).toNat, by omega, ⟨t - 1, q + v1, rfl, by simp, by simp, by omega, by omega, by omega, by omega, by rw [e6]; exact htop, by rw [show t - 1 + 1 = t by omega]; exact hlt⟩⟩

        · simp (disch := first | (simp; done) | omega | (simp only [dg_length, dgi_length, List.length_cons]; omega) | rfl) [-getElem?_pos, List.getElem?_cons_zero, List.getElem?_cons_succ, A.lb201_0, hr, hf, h9, h10, lv, lu, c1, c2, c3, c4, c5, i1, i2, i3, i4, i5, i6, n1, n2, n3, n4, k1, k2, k3, x1, x2, x3, x4, x4', x4'', y1, y2, y3, y4, y4', hA', b1', b2', b3', hB]
          refine ⟨tq0, by omega, ?_, hlt⟩
          have := kI_exit (t := t) (r := q) (u1 := D1) hP hU0 r1.1 s0 (by omega) r5.1 hV0 hV tq0 (by omega) htop (by omega)
          rw [hW, hD]; exact this
    · rintro e r _ hr ⟨rfl, ⟨rfl, t, h9, ht⟩ | ⟨rfl, t, h6, ht⟩⟩
      · simp (disch := first | (simp; done) | omega | (simp only [dg_length, dgi_length, List.length_cons]; omega) | rfl) [-getElem?_pos, List.getElem?_cons_zero, List.getElem?_cons_succ, hr, h9]; exact ht
      · simp (disch := first | (simp; done) | omega | (simp only [dg_length, dgi_length, List.length_cons]; omega) | rfl) [-getElem?_pos, List.getElem?_cons_zero, List.getElem?_cons_succ, hr, h6]; exact ht
  obtain ⟨x, s, hc, rfl, t, rfl, h1, h2, h3, h4⟩ := goal.ex
  exact ⟨t, hc, h1, h2, h3, h4⟩

end Go.Mx
