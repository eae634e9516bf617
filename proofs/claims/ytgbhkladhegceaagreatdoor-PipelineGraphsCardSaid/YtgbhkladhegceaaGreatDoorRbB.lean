/-
  lensletref01: trim, signed, compareDigits, divDigit.
-/
import Derived.Test.YtgbhkladhegceaaGreatDoorRbA
set_option linter.all false
namespace Go.Mx
open Go Go.Proofs
set_option maxRecDepth 1000000
set_option linter.unusedSimpArgs false
set_option linter.unusedVariables false
def A.lb199_0 : MCode := .seq (.seq (.reg [⟨(some 3), .mov (.tmp 0), none⟩, ⟨(some 4), .len 1 (.tmp 3), none⟩, ⟨(some 5), .bin .gtr (.node []) false (.tmp 4) (.const (.int .i64 0)), none⟩, ⟨(some 6), .mov (.tmp 5), none⟩, ⟨(some 7), .mov (.tmp 0), (some (6, true))⟩, ⟨(some 8), .mov (.tmp 0), (some (6, true))⟩, ⟨(some 9), .len 1 (.tmp 8), (some (6, true))⟩, ⟨(some 10), .bin .sub (.node []) false (.tmp 9) (.const (.int .i64 1)), (some (6, true))⟩, ⟨(some 11), .iaddrSl 1 (.tmp 7) (.tmp 10), (some (6, true))⟩, ⟨(some 12), .load none (.tmp 11), (some (6, true))⟩, ⟨(some 13), .bin .eql (.prim .int) true (.tmp 12) (.const (.int .i64 0)), (some (6, true))⟩, ⟨(some 14), .pick (.tmp 6) (.tmp 13) (.const (.bool false)), none⟩])
 (.cond (.tmp 14)
 (.skip)
 (.exit 0)))
 (.block 1 (.reg [⟨(some 15), .mov (.tmp 0), none⟩, ⟨(some 16), .mov (.tmp 0), none⟩, ⟨(some 17), .len 1 (.tmp 16), none⟩, ⟨(some 18), .bin .sub (.node []) false (.tmp 17) (.const (.int .i64 1)), none⟩, ⟨(some 19), .sliceSl 1 (.tmp 15) none (some (.tmp 18)) none, none⟩, ⟨(some 0), .mov (.tmp 19), none⟩]))
/-- lenslet/lensletref01.trim -/
def A.b199 : MCode := .seq (.reg [⟨(some 2), .mov (.const .nilslice), none⟩])
 (.seq (.block 0 (.loop A.lb199_0))
 (.seq (.reg [⟨(some 20), .mov (.tmp 0), none⟩, ⟨(some 2), .mov (.tmp 20), none⟩])
 (.ret)))
theorem A.c199 : cFunc Tryz.prog 199 = some ⟨21, [.tmp 2], A.b199⟩ := by kernel_rfl
theorem A.k199 {K : List Kf} {Q : Rs → Prop} {f c args : List V} {st : St} (h : (f ++ args ++ c).length ≤ 21) : Run A.C K (valR (A.C.call (.func 199 f c) args st)) Q ↔ Run A.C (.fin [.tmp 2] st :: K) (exR (A.C.code none A.b199 ⟨setRegs .nil 0 (f ++ args ++ c), 21, []⟩ ⟨st.h, st.n, []⟩)) Q := run_func (A.x0 (f := 199) (by decide)) (mf := ⟨21, [.tmp 2], A.b199⟩) (by rw [A.t]; exact A.c199) h
/-- lenslet/lensletref01.signed -/
def A.b196 : MCode := .seq (.reg [⟨(some 4), .alloc [(.bool false), .nilslice] 203, none⟩])
 (.seq (.reg [⟨(some 5), .mov (.tmp 1), none⟩, ⟨(some 6), .call (.const (.func 199 [] [])) [(.tmp 5)], none⟩, ⟨(some 1), .mov (.tmp 6), none⟩])
 (.seq (.reg [⟨(some 7), .mov (.tmp 0), none⟩, ⟨(some 8), .mov (.tmp 7), none⟩, ⟨(some 9), .mov (.tmp 1), (some (8, true))⟩, ⟨(some 10), .len 1 (.tmp 9), (some (8, true))⟩, ⟨(some 11), .bin .gtr (.node []) false (.tmp 10) (.const (.int .i64 0)), (some (8, true))⟩, ⟨(some 12), .pick (.tmp 8) (.tmp 11) (.const (.bool false)), none⟩, ⟨(some 13), .mov (.tmp 1), none⟩, ⟨(some 14), .build [(.bool false), .nilslice] [(0, 1, (.tmp 12)), (1, 1, (.tmp 13))], none⟩, ⟨none, .store 2 (.tmp 4) (.tmp 14), none⟩])
 (.ret)))
theorem A.c196 : cFunc Tryz.prog 196 = some ⟨15, [.cell 4 (some 2)], A.b196⟩ := by kernel_rfl
theorem A.k196 {K : List Kf} {Q : Rs → Prop} {f c args : List V} {st : St} (h : (f ++ args ++ c).length ≤ 15) : Run A.C K (valR (A.C.call (.func 196 f c) args st)) Q ↔ Run A.C (.fin [.cell 4 (some 2)] st :: K) (exR (A.C.code none A.b196 ⟨setRegs .nil 0 (f ++ args ++ c), 15, []⟩ ⟨st.h, st.n, []⟩)) Q := run_func (A.x0 (f := 196) (by decide)) (mf := ⟨15, [.cell 4 (some 2)], A.b196⟩) (by rw [A.t]; exact A.c196) h
def A.lb197_0 : MCode := .seq (.seq (.reg [⟨(some 19), .mov (.tmp 5), none⟩, ⟨(some 20), .bin .geq (.node []) false (.tmp 19) (.const (.int .i64 0)), none⟩])
 (.cond (.tmp 20)
 (.skip)
 (.exit 0)))
 (.seq (.block 1 (.seq (.seq (.regD [⟨(some 23), .mov (.tmp 0), none⟩, ⟨(some 24), .mov (.tmp 5), none⟩, ⟨(some 25), .iaddrSl 1 (.tmp 23) (.tmp 24), none⟩, ⟨(some 26), .load none (.tmp 25), none⟩, ⟨(some 27), .mov (.tmp 1), none⟩, ⟨(some 28), .mov (.tmp 5), none⟩, ⟨(some 29), .iaddrSl 1 (.tmp 27) (.tmp 28), none⟩, ⟨(some 30), .load none (.tmp 29), none⟩, ⟨(some 31), .bin .lss (.node []) false (.tmp 26) (.tmp 30), none⟩] [0, 0, 3, 7, 0, 0, 48, 112, 255])
 (.cond (.tmp 31)
 (.seq (.reg [⟨(some 4), .mov (.const (.int .i64 (-1))), none⟩])
 (.ret))
 (.skip)))
 (.seq (.regD [⟨(some 32), .mov (.tmp 0), none⟩, ⟨(some 33), .mov (.tmp 5), none⟩, ⟨(some 34), .iaddrSl 1 (.tmp 32) (.tmp 33), none⟩, ⟨(some 35), .load none (.tmp 34), none⟩, ⟨(some 36), .mov (.tmp 1), none⟩, ⟨(some 37), .mov (.tmp 5), none⟩, ⟨(some 38), .iaddrSl 1 (.tmp 36) (.tmp 37), none⟩, ⟨(some 39), .load none (.tmp 38), none⟩, ⟨(some 40), .bin .gtr (.node []) false (.tmp 35) (.tmp 39), none⟩] [0, 0, 3, 7, 0, 0, 48, 112, 255])
 (.cond (.tmp 40)
 (.seq (.reg [⟨(some 4), .mov (.const (.int .i64 1)), none⟩])
 (.ret))
 (.skip)))))
 (.reg [⟨(some 21), .mov (.tmp 5), none⟩, ⟨(some 22), .bin .sub (.node []) false (.tmp 21) (.const (.int .i64 1)), none⟩, ⟨(some 5), .mov (.tmp 22), none⟩]))
/-- lenslet/lensletref01.compareDigits -/
def A.b197 : MCode := .seq (.reg [⟨(some 4), .mov (.const (.int .i64 0)), none⟩])
 (.seq (.seq (.reg [⟨(some 6), .mov (.tmp 0), none⟩, ⟨(some 7), .len 1 (.tmp 6), none⟩, ⟨(some 8), .mov (.tmp 1), none⟩, ⟨(some 9), .len 1 (.tmp 8), none⟩, ⟨(some 10), .bin .neq (.prim .int) false (.tmp 7) (.tmp 9), none⟩])
 (.cond (.tmp 10)
 (.seq (.seq (.reg [⟨(some 11), .mov (.tmp 0), none⟩, ⟨(some 12), .len 1 (.tmp 11), none⟩, ⟨(some 13), .mov (.tmp 1), none⟩, ⟨(some 14), .len 1 (.tmp 13), none⟩, ⟨(some 15), .bin .lss (.node []) false (.tmp 12) (.tmp 14), none⟩])
 (.cond (.tmp 15)
 (.seq (.reg [⟨(some 4), .mov (.const (.int .i64 (-1))), none⟩])
 (.ret))
 (.skip)))
 (.seq (.reg [⟨(some 4), .mov (.const (.int .i64 1)), none⟩])
 (.ret)))
 (.skip)))
 (.seq (.seq (.reg [⟨(some 16), .mov (.tmp 0), none⟩, ⟨(some 17), .len 1 (.tmp 16), none⟩, ⟨(some 18), .bin .sub (.node []) false (.tmp 17) (.const (.int .i64 1)), none⟩, ⟨(some 5), .mov (.tmp 18), none⟩])
 (.block 0 (.loop A.lb197_0)))
 (.seq (.reg [⟨(some 4), .mov (.const (.int .i64 0)), none⟩])
 (.ret))))
theorem A.c197 : cFunc Tryz.prog 197 = some ⟨41, [.tmp 4], A.b197⟩ := by kernel_rfl
theorem A.k197 {K : List Kf} {Q : Rs → Prop} {f c args : List V} {st : St} (h : (f ++ args ++ c).length ≤ 41) : Run A.C K (valR (A.C.call (.func 197 f c) args st)) Q ↔ Run A.C (.fin [.tmp 4] st :: K) (exR (A.C.code none A.b197 ⟨setRegs .nil 0 (f ++ args ++ c), 41, []⟩ ⟨st.h, st.n, []⟩)) Q := run_func (A.x0 (f := 197) (by decide)) (mf := ⟨41, [.tmp 4], A.b197⟩) (by rw [A.t]; exact A.c197) h
def A.lb198_0 : MCode := .seq (.seq (.reg [⟨(some 16), .mov (.tmp 8), none⟩, ⟨(some 17), .bin .geq (.node []) false (.tmp 16) (.const (.int .i64 0)), none⟩])
 (.cond (.tmp 17)
 (.skip)
 (.exit 0)))
 (.seq (.block 1 (.seq (.reg [⟨(some 20), .mov (.tmp 7), none⟩, ⟨(some 21), .bin .mul (.node []) false (.tmp 20) (.const (.int .i64 1000000000)), none⟩, ⟨(some 22), .mov (.tmp 0), none⟩, ⟨(some 23), .mov (.tmp 8), none⟩, ⟨(some 24), .iaddrSl 1 (.tmp 22) (.tmp 23), none⟩, ⟨(some 25), .load none (.tmp 24), none⟩, ⟨(some 26), .bin .add (.node []) false (.tmp 21) (.tmp 25), none⟩, ⟨(some 9), .mov (.tmp 26), none⟩])
 (.seq (.reg [⟨(some 27), .mov (.tmp 6), none⟩, ⟨(some 28), .mov (.tmp 8), none⟩, ⟨(some 29), .mov (.tmp 9), none⟩, ⟨(some 30), .mov (.tmp 1), none⟩, ⟨(some 31), .bin .quo (.node []) false (.tmp 29) (.tmp 30), none⟩, ⟨(some 32), .iaddrSl 1 (.tmp 27) (.tmp 28), none⟩, ⟨none, .store 1 (.tmp 32) (.tmp 31), none⟩])
 (.reg [⟨(some 33), .mov (.tmp 9), none⟩, ⟨(some 34), .mov (.tmp 1), none⟩, ⟨(some 35), .bin .rem (.node []) false (.tmp 33) (.tmp 34), none⟩, ⟨(some 7), .mov (.tmp 35), none⟩]))))
 (.reg [⟨(some 18), .mov (.tmp 8), none⟩, ⟨(some 19), .bin .sub (.node []) false (.tmp 18) (.const (.int .i64 1)), none⟩, ⟨(some 8), .mov (.tmp 19), none⟩]))
/-- lenslet/lensletref01.divDigit -/
def A.b198 : MCode := .seq (.reg [⟨(some 4), .mov (.const .nilslice), none⟩, ⟨(some 5), .mov (.const (.int .i64 0)), none⟩])
 (.seq (.reg [⟨(some 10), .mov (.tmp 0), none⟩, ⟨(some 11), .len 1 (.tmp 10), none⟩, ⟨(some 12), .mkslice 3 1 8 [(.int .i64 0)] (.tmp 11) (.tmp 11), none⟩, ⟨(some 6), .mov (.tmp 12), none⟩])
 (.seq (.reg [⟨(some 7), .mov (.const (.int .i64 0)), none⟩])
 (.seq (.seq (.reg [⟨(some 13), .mov (.tmp 0), none⟩, ⟨(some 14), .len 1 (.tmp 13), none⟩, ⟨(some 15), .bin .sub (.node []) false (.tmp 14) (.const (.int .i64 1)), none⟩, ⟨(some 8), .mov (.tmp 15), none⟩])
 (.block 0 (.loop A.lb198_0)))
 (.seq (.reg [⟨(some 36), .mov (.tmp 6), none⟩, ⟨(some 37), .call (.const (.func 199 [] [])) [(.tmp 36)], none⟩, ⟨(some 38), .mov (.tmp 7), none⟩, ⟨(some 4), .mov (.tmp 37), none⟩, ⟨(some 5), .mov (.tmp 38), none⟩])
 (.ret)))))
theorem A.c198 : cFunc Tryz.prog 198 = some ⟨39, [.tmp 4, .tmp 5], A.b198⟩ := by kernel_rfl
theorem A.k198 {K : List Kf} {Q : Rs → Prop} {f c args : List V} {st : St} (h : (f ++ args ++ c).length ≤ 39) : Run A.C K (valR (A.C.call (.func 198 f c) args st)) Q ↔ Run A.C (.fin [.tmp 4, .tmp 5] st :: K) (exR (A.C.code none A.b198 ⟨setRegs .nil 0 (f ++ args ++ c), 39, []⟩ ⟨st.h, st.n, []⟩)) Q := run_func (A.x0 (f := 198) (by decide)) (mf := ⟨39, [.tmp 4, .tmp 5], A.b198⟩) (by rw [A.t]; exact A.c198) h

theorem rtrim_fn {h : T O} {N : Nat} {v : V} {l : List Int} (hs : Sl h N v (dI l)) (hl : l.length < 1152921504606846976) : Fn A.C 199 [v] h N (fun v' h' N' => Sl h' N' v' (dI (trimI l))) := by
  intro w
  rw [call_run, A.k199 (by simp)]
  simp (disch := first | (simp; done) | omega | (simp only [dg_length, dgi_length, List.length_cons]; omega) | rfl) [-getElem?_pos, List.getElem?_cons_zero, List.getElem?_cons_succ, A.b199]
  refine run_loopD [(0, 0), (3, 19)] (fun e r st => e = .exit 0 ∧ st = ⟨h, N, []⟩ ∧ ∃ u, r.get 0 = some u ∧ Sl h N u (dI (trimI l))) (fun m r st => st = ⟨h, N, []⟩ ∧ m ≤ l.length ∧ ∃ u, r.get 0 = some u ∧ Sl h N u (dI (l.take m)) ∧ trimI (l.take m) = trimI l) l.length ?_ ?_ ?_
  · exact ⟨rfl, Nat.le_refl _, v, rfl, by rw [List.take_length]; exact hs, by rw [List.take_length]⟩
  · rintro m r _ hr hf ⟨rfl, hm, u, h0, hu, ht⟩
    rw [code_run]
    have lu := hu.len
    rw [dI_length, List.length_take, Nat.min_eq_left hm] at lu
    cases m with
    | zero =>
      simp (disch := first | (simp; done) | omega | (simp only [dg_length, dgi_length, List.length_cons]; omega) | rfl) [-getElem?_pos, List.getElem?_cons_zero, List.getElem?_cons_succ, A.lb199_0, hr, hf, h0, lu]
      rw [← ht]; exact hu
    | succ k =>
      obtain ⟨d, hd⟩ := get_of_lt (l := l) (k := k) (by omega)
      have hd' : (l.take (k + 1))[k]? = some d := by rw [List.getElem?_take, if_pos (by omega)]; exact hd
      obtain ⟨i, o, c, e, rw, q1, q2, q3, q4⟩ := hu.at (dI_get hd')
      have e1 : l.take (k + 1) = l.take k ++ [d] := by rw [List.take_add_one, hd]; rfl
      have k1 : (0 : Int) < (k : Int) + 1 := by omega
      have k2 : (k : Int) < (k : Int) + 1 := by omega
      have k3 : (k : Int) + 1 - 1 = (k : Int) := by omega
      by_cases hz : d = 0
      · subst hz
        rw [e1, trimI_zero] at ht
        obtain ⟨v', x1, x2⟩ := sliceK_sl (w := []) hu (lo := 0) (hi := k) (Nat.zero_le _) (by rw [dI_length, List.length_take]; omega) none (some (.int .i64 k)) (.inr ⟨rfl, rfl⟩) (.inl rfl)
        have x3 : ((dI (l.take (k + 1))).take k).drop 0 = dI (l.take k) := by
          rw [List.drop_zero, dI, ← List.map_take, List.take_take, Nat.min_eq_left (by omega)]; rfl
        rw [x3] at x2
        simp (disch := first | (simp; done) | omega | (simp only [dg_length, dgi_length, List.length_cons]; omega) | rfl) [-getElem?_pos, List.getElem?_cons_zero, List.getElem?_cons_succ, A.lb199_0, hr, hf, h0, lu, k1, k2, k3, q1, q3, q4, eqPrim, op_sliceSl_K, evOpt, x1]
        exact ⟨k, by omega, by omega, x2, ht⟩
      · rw [e1, trimI_last hz, ← e1] at ht
        simp (disch := first | (simp; done) | omega | (simp only [dg_length, dgi_length, List.length_cons]; omega) | rfl) [-getElem?_pos, List.getElem?_cons_zero, List.getElem?_cons_succ, A.lb199_0, hr, hf, h0, lu, k1, k2, k3, q1, q3, q4, eqPrim, hz]
        rw [← ht]; exact hu
  · rintro _ r _ hr ⟨rfl, rfl, u, h0, hu⟩
    simp (disch := first | (simp; done) | omega | (simp only [dg_length, dgi_length, List.length_cons]; omega) | rfl) [-getElem?_pos, List.getElem?_cons_zero, List.getElem?_cons_succ, hr, h0, Ret]
    exact ⟨Keeps.refl, hu⟩
/-- An integer of the reference. -/
def Rg (h : T O) (N : Nat) (v : V) (z : Int) : Prop := ∃ u, v = .agg [.bool (decide (z < 0)), u] ∧ Dn h N u z.natAbs
theorem signed_fn {h : T O} {N : Nat} {v : V} {l : List Int} {b : Bool} {n : Nat} (hs : Sl h N v (dI l)) (hd : Di l) (hn : vI l = n) (hl : l.length < 1152921504606846976) : Fn A.C 196 [.bool b, v] h N (fun v' h' N' => Rg h' N' v' (if b = true then -(n : Int) else n)) := by
  intro w
  rw [call_run, A.k196 (by simp)]
  simp (disch := first | (simp; done) | omega | (simp only [dg_length, dgi_length, List.length_cons]; omega) | rfl) [-getElem?_pos, List.getElem?_cons_zero, List.getElem?_cons_succ, A.b196]
  refine run_fn (rtrim_fn (hs.keep (Keeps.refl.new _)) hl) ?_
  rintro u h1 n1 k1 hu
  rw [trimI_eq hd hn] at hu
  have lu := hu.len
  rw [dI_length] at lu
  have kle := k1.le
  have hrow := k1.get N (by omega)
  simp at hrow
  have huo := hu.form.one
  have huc := hu.form.cells
  unfold V.one at huo
  unfold V.cells at huc
  have k0 := (Keeps.refl (h := h) (n := N)).new (.cells [.bool false, .nilslice] 203 true)
  have kx := fun o => ((k0.trans k1).set (i := N) (o := o) (Nat.le_refl N))
  have hu2 := fun c1 (hc : c1.length = 2) => hu.setInt (i := N) (c1 := c1) (e1 := 203) (w1 := true) hrow (by intro x hx k m; simp at hx; rcases hx with rfl | rfl <;> simp) hc
  cases b with
  | false =>
    simp (disch := first | (simp; done) | omega | (simp only [dg_length, dgi_length, List.length_cons]; omega) | rfl) [-getElem?_pos, List.getElem?_cons_zero, List.getElem?_cons_succ, lu, splice, hrow, huo, huc, storeK2, partV, slc, Ret]
    refine ⟨kx _, u, ?_, ?_⟩
    · have : ¬ (n : Int) < 0 := by omega
      simp
    · exact hu2 _ rfl
  | true =>
    by_cases hz : n = 0
    · have hl0 : (ds n).length = 0 := by rw [hz, ds_zero]; rfl
      simp (disch := first | (simp; done) | omega | (simp only [dg_length, dgi_length, List.length_cons]; omega) | rfl) [-getElem?_pos, List.getElem?_cons_zero, List.getElem?_cons_succ, lu, hl0, splice, hrow, huo, huc, storeK2, partV, slc, Ret]
      refine ⟨kx _, u, ?_, ?_⟩
      · simp [hz]
      · simpa [hz, Dn] using hu2 _ rfl
    · have hl0 : ¬ (ds n).length = 0 := fun hc => hz (ds_eq_nil.1 (List.eq_nil_of_length_eq_zero hc))
      have hl1 : (0 : Int) < ((ds n).length : Int) := by omega
      have hl2 : 0 < (ds n).length := by omega
      have hl3 : ds n ≠ [] := fun hc => hz (ds_eq_nil.1 hc)
      simp (disch := first | (simp; done) | omega | (simp only [dg_length, dgi_length, List.length_cons]; omega) | rfl) [-getElem?_pos, List.getElem?_cons_zero, List.getElem?_cons_succ, lu, hl1, hl2, hl3, splice, hrow, huo, huc, storeK2, partV, slc, Ret]
      refine ⟨kx _, u, ?_, ?_⟩
      · have : -(n : Int) < 0 := by omega
        simp [this]; try omega
      · simpa [Dn] using hu2 _ rfl

end Go.Mx
