/-
  lensletlaw09.program.
-/
import Derived.Test.YtgbhkladhegceaaGreatDoorMxGr
import Derived.Test.YtgbhkladhegceaaGreatDoorPaW
import Derived.Test.YtgbhkladhegceaaGreatDoorPaQ
import Derived.Test.YtgbhkladhegceaaGreatDoorRaQ
import Derived.Test.YtgbhkladhegceaaGreatDoorLaS
set_option linter.all false
namespace Go.Mx
open Go Go.Proofs
set_option maxRecDepth 1000000
set_option linter.unusedSimpArgs false
set_option linter.unusedVariables false
def A.lb10_0 : MCode := .seq (.reg [⟨(some 10), .bin .lss (.node []) false (.tmp 9) (.tmp 8), none⟩])
 (.seq (.cond (.tmp 10)
 (.skip)
 (.exit 0))
 (.seq (.block 1 (.seq (.reg [⟨(some 11), .iaddrSl 5 (.tmp 7) (.tmp 9), none⟩, ⟨(some 12), .load (some 5) (.tmp 11), none⟩, ⟨(some 5), .alloc [(.str []), (.str []), (.str []), .nilslice, (.int .i64 0)] 57, none⟩, ⟨none, .store 5 (.tmp 5) (.tmp 12), none⟩])
 (.seq (.reg [⟨(some 13), .load (some 5) (.tmp 5), none⟩, ⟨(some 6), .alloc [(.str []), (.str []), (.str []), .nilslice, (.int .i64 0)] 126, none⟩, ⟨none, .store 5 (.tmp 6) (.tmp 13), none⟩])
 (.seq (.reg [⟨(some 14), .bslice 9 1 0 [] [], none⟩, ⟨(some 15), .faddr 3 (.tmp 5), none⟩, ⟨(some 16), .load none (.tmp 15), none⟩, ⟨(some 17), .append 1 16 9 [(.str [])] (.tmp 14) (.tmp 16), none⟩, ⟨(some 18), .faddr 3 (.tmp 6), none⟩, ⟨none, .store 1 (.tmp 18) (.tmp 17), none⟩])
 (.reg [⟨(some 19), .mov (.tmp 3), none⟩, ⟨(some 20), .load (some 5) (.tmp 6), none⟩, ⟨(some 21), .bslice 126 5 1 [(.str []), (.str []), (.str []), .nilslice, (.int .i64 0)] [(0, 5, (.tmp 20))], none⟩, ⟨(some 22), .append 5 80 126 [(.str []), (.str []), (.str []), .nilslice, (.int .i64 0)] (.tmp 19) (.tmp 21), none⟩, ⟨(some 3), .mov (.tmp 22), none⟩])))))
 (.reg [⟨(some 23), .bin .add (.node []) false (.tmp 9) (.const (.int .i64 1)), none⟩, ⟨(some 9), .mov (.tmp 23), none⟩])))
/-- lenslet/lensletlaw09.program -/
def A.b10 : MCode := .seq (.reg [⟨(some 2), .mov (.const .nilslice), none⟩])
 (.seq (.reg [⟨(some 3), .mov (.const .nilslice), none⟩])
 (.seq (.seq (.reg [⟨(some 7), .mov (.tmp 0), none⟩, ⟨(some 8), .len 1 (.tmp 7), none⟩, ⟨(some 9), .mov (.const (.int .i64 0)), none⟩])
 (.block 0 (.loop A.lb10_0)))
 (.seq (.reg [⟨(some 24), .mov (.tmp 3), none⟩, ⟨(some 2), .mov (.tmp 24), none⟩])
 (.ret))))
theorem A.c10 : cFunc Tryz.prog 10 = some ⟨25, [.tmp 2], A.b10⟩ := by kernel_rfl
theorem A.k10 {K : List Kf} {Q : Rs → Prop} {f c args : List V} {st : St} (h : (f ++ args ++ c).length ≤ 25) : Run A.C K (valR (A.C.call (.func 10 f c) args st)) Q ↔ Run A.C (.fin [.tmp 2] st :: K) (exR (A.C.code none A.b10 ⟨setRegs .nil 0 (f ++ args ++ c), 25, []⟩ ⟨st.h, st.n, []⟩)) Q := run_func (A.x0 (f := 10) (by decide)) (mf := ⟨25, [.tmp 2], A.b10⟩) (by rw [A.t]; exact A.c10) h

theorem program_fn {h : T O} {N : Nat} {v : V} {g : List Stg} (hg : Gr h N v g) (hl : g.length < 1000) (hil : ∀ s ∈ g, s.inputs.length < 1000) : Fn A.C 10 [v] h N (fun u h' n' => Gr h' n' u g) := by
  intro w
  have lg := hg.len
  rw [call_run, A.k10 (by simp)]
  simp (disch := first | (simp; done) | omega | (simp only [dg_length, dgi_length, List.length_cons]; omega) | rfl) [-getElem?_pos, List.getElem?_cons_zero, List.getElem?_cons_succ, A.b10, lg]
  refine run_loopD [(3, 3), (5, 6), (9, 23)] (fun e r st => e = .exit 0 ∧ oldIds N st.w = [] ∧ Keeps h N st.h st.n ∧ ∃ u, r.get 3 = some u ∧ PgA st.h N st.n u g g.length) (fun m r st => oldIds N st.w = [] ∧ Keeps h N st.h st.n ∧ ∃ k u, k + m = g.length ∧ r.get 9 = some (.int .i64 k) ∧ r.get 3 = some u ∧ PgA st.h N st.n u g k) g.length ?_ ?_ ?_
  · exact ⟨by simp, Keeps.refl, 0, .nilslice, by omega, by simp, by simp, [], Own.nil, rfl, fun j s hj => by omega⟩
  · rintro m r ⟨H, n1, W⟩ hr hf2 ⟨hW, hK, k, u, hk, h9, h3, ho⟩
    simp only at hW hK ho
    rw [code_run]
    cases m with
    | zero =>
      have : k = g.length := by omega
      subst this
      simp (disch := first | (simp; done) | omega | (simp only [dg_length, dgi_length, List.length_cons]; omega) | rfl) [-getElem?_pos, List.getElem?_cons_zero, List.getElem?_cons_succ, A.lb10_0, hr, hf2, h9, hW, hK]
      exact ⟨u, h3, ho⟩
    | succ m =>
      have hlt : k < g.length := by omega
      obtain ⟨s, hs⟩ := get_of_lt hlt
      obtain ⟨i, o, cc, e, rw, inp, q1, q2, q3, q4, q5⟩ := (hg.keep hK).at hs
      have hk1 : (k : Int) < (g.length : Int) := by omega
      have hio := q5.form.one
      unfold V.one at hio
      have d1 : ¬ i = n1 := by omega
      have nle := hK.le
      have hZ := stgC s inp
      simp (disch := first | (simp; done) | omega | (simp only [dg_length, dgi_length, List.length_cons]; omega) | rfl) [-getElem?_pos, List.getElem?_cons_zero, List.getElem?_cons_succ, A.lb10_0, hr, hf2, h9, h3, hk1, hlt, lg, q1, q3, q4, stgC, hio, d1, splice, storeK2]
      have K1 := ((((Keeps.refl (h := H) (n := n1)).new (.cells [.str [], .str [], .str [], .nilslice, .int .i64 0] 57 true)).set (i := n1) (o := .cells [.str s.name, .str s.op, .str s.factor, inp, .int .i64 s.cost] 57 true) (Nat.le_refl n1)).new (.cells [.str [], .str [], .str [], .nilslice, .int .i64 0] 126 true)).set (i := n1 + 1) (o := .cells [.str s.name, .str s.op, .str s.factor, inp, .int .i64 s.cost] 126 true) (by omega)
      have K2 := K1.new (.cells [] 9 true)
      obtain ⟨v2, h2, n2, e1, e2, e3⟩ := append_copy (w := (n1 + 1) :: n1 :: W) (i := n1 + 1 + 1) (by simp) (by omega) (q5.keep K2) (by rw [strs_len]; have := hil s (List.mem_of_getElem? hs); omega)
      rw [e1]
      have f6 := e2.get (n1 + 1) (by omega)
      simp at f6
      have e2le := e2.le
      have e3' := e3
      obtain ⟨j, c, rfl, j1, j2, j3⟩ := e3
      have hH2 := (K2.trans e2).set (i := n1 + 1) (o := .cells (stgC s (.slice j 0 (strs s.inputs).length c 1)) 126 true) (by omega)
      have d2 : ¬ n1 + 1 = j := fun hc => by rw [← hc, f6] at j2; simp at j2
      have d3 : n1 + 1 < n2 := by omega
      have d4 : ¬ n1 + 1 = n2 := by omega
      have d5 : ¬ n2 = n1 + 1 := by omega
      simp (disch := first | (simp; done) | omega | (simp only [dg_length, dgi_length, List.length_cons]; omega) | rfl) [-getElem?_pos, List.getElem?_cons_zero, List.getElem?_cons_succ, hr, hf2, h9, h3, f6, splice, storeK2, d3, d4, d5]
      have hc2 : Cp (h2.set (n1 + 1) (.cells [.str s.name, .str s.op, .str s.factor, .slice j 0 s.inputs.length c 1, .int .i64 s.cost] 126 true)) n2 (.slice j 0 s.inputs.length c 1) (strs s.inputs) := by
        refine ⟨j, c, by rw [strs_len], j1, ?_, j3⟩
        rw [T.get_set, if_neg (fun h => d2 h.symm)]; exact j2
      unfold stgC at hH2
      rw [strs_len] at hH2
      have ho2 := (ho.keep hH2).keep ((Keeps.refl).new (.cells [.str s.name, .str s.op, .str s.factor, .slice j 0 s.inputs.length c 1, .int .i64 s.cost] 126 true))
      obtain ⟨v3, h4, w4, a1, a2, a3, a4⟩ := ho2.step (x := .slice n2 0 1 (some 1) 5) (w := (n1 + 1) :: (n1 + 1) :: n1 :: W) (by omega) hs (hc2.keep (Keeps.refl.new _)) (by simp [srcCells, St.row, stgC, slc]) (by omega)
      rw [a1]
      have wok : ¬ n1 < N := by omega
      have wok2 : ¬ n1 + 1 < N := by omega
      have a2' : oldIds N w4 = [] := by rw [a2]; simp [oldIds, hW, wok, wok2]
      simp (disch := first | (simp; done) | omega | (simp only [dg_length, dgi_length, List.length_cons]; omega) | rfl) [-getElem?_pos, List.getElem?_cons_zero, List.getElem?_cons_succ, hr, hf2, h9, a2']
      exact ⟨m, by omega, ((hK.trans hH2).new _).then a3, k + 1, by omega, by simp, a4⟩
  · rintro _ r ⟨H, n1, W⟩ hr ⟨rfl, hW, hK, u, h3, ho⟩
    simp only at hW hK ho
    simp (disch := first | (simp; done) | omega | (simp only [dg_length, dgi_length, List.length_cons]; omega) | rfl) [-getElem?_pos, List.getElem?_cons_zero, List.getElem?_cons_succ, hr, h3, Ret, hW, hK]
    exact ho.gr

end Go.Mx
/- lensletlaw09.PipelineGraphs. -/
namespace Go.Mx
open Go Go.Proofs
set_option maxRecDepth 1000000
set_option linter.unusedSimpArgs false
set_option linter.unusedVariables false
/-- lenslet/lensletlaw09.PipelineGraphs -/
def A.b3 : MCode := .seq (.reg [⟨(some 2), .mov (.const (.bool false)), none⟩])
 (.seq (.seq (.reg [⟨(some 7), .mov (.tmp 0), none⟩, ⟨(some 8), .call (.const (.func 7 [] [])) [(.tmp 7)], none⟩, ⟨(some 9), .un .not (.tmp 8), none⟩])
 (.cond (.tmp 9)
 (.seq (.reg [⟨(some 10), .call (.const (.func 8 [] [])) [], none⟩, ⟨(some 2), .mov (.tmp 10), none⟩])
 (.ret))
 (.skip)))
 (.seq (.reg [⟨(some 12), .mov (.tmp 0), none⟩, ⟨(some 13), .call (.const (.func 10 [] [])) [(.tmp 12)], none⟩, ⟨(some 14), .call (.const (.func 9 [] [])) [(.tmp 13)], none⟩, ⟨(some 11), .mov (.tmp 14), none⟩, ⟨(some 15), .extract (.tmp 11) 0, none⟩, ⟨(some 16), .extract (.tmp 11) 1, none⟩, ⟨(some 3), .mov (.tmp 15), none⟩, ⟨(some 4), .mov (.tmp 16), none⟩])
 (.seq (.reg [⟨(some 17), .mov (.tmp 0), none⟩, ⟨(some 18), .call (.const (.func 11 [] [])) [(.tmp 17)], none⟩, ⟨(some 5), .mov (.tmp 18), none⟩])
 (.seq (.reg [⟨(some 6), .mov (.const .nilslice), none⟩])
 (.seq (.seq (.reg [⟨(some 19), .mov (.tmp 5), none⟩, ⟨(some 20), .bin .eql (.prim .int) true (.tmp 19) (.const (.int .i64 0)), none⟩])
 (.cond (.tmp 20)
 (.reg [⟨(some 21), .mov (.tmp 0), none⟩, ⟨(some 22), .call (.const (.func 12 [] [])) [(.tmp 21)], none⟩, ⟨(some 6), .mov (.tmp 22), none⟩])
 (.skip)))
 (.seq (.reg [⟨(some 23), .mov (.tmp 0), none⟩, ⟨(some 24), .call (.const (.func 10 [] [])) [(.tmp 23)], none⟩, ⟨(some 25), .call (.const (.func 13 [] [])) [(.tmp 24)], none⟩, ⟨(some 26), .mov (.tmp 5), none⟩, ⟨(some 27), .bin .eql (.prim .int) false (.tmp 25) (.tmp 26), none⟩, ⟨(some 28), .mov (.tmp 27), none⟩, ⟨(some 29), .mov (.tmp 3), (some (28, true))⟩, ⟨(some 30), .mov (.tmp 6), (some (28, true))⟩, ⟨(some 31), .call (.const (.func 14 [] [])) [(.tmp 29), (.tmp 30)], (some (28, true))⟩, ⟨(some 32), .pick (.tmp 28) (.tmp 31) (.const (.bool false)), none⟩, ⟨(some 33), .mov (.tmp 32), none⟩, ⟨(some 34), .mov (.tmp 4), (some (33, true))⟩, ⟨(some 35), .mov (.tmp 5), (some (33, true))⟩, ⟨(some 36), .bin .eql (.prim .int) false (.tmp 34) (.tmp 35), (some (33, true))⟩, ⟨(some 37), .pick (.tmp 33) (.tmp 36) (.const (.bool false)), none⟩, ⟨(some 38), .mov (.tmp 37), none⟩, ⟨(some 39), .call (.const (.func 8 [] [])) [], (some (38, true))⟩, ⟨(some 40), .pick (.tmp 38) (.tmp 39) (.const (.bool false)), none⟩, ⟨(some 2), .mov (.tmp 40), none⟩])
 (.ret)))))))
theorem A.c3 : cFunc Tryz.prog 3 = some ⟨41, [.tmp 2], A.b3⟩ := by kernel_rfl
theorem A.k3 {K : List Kf} {Q : Rs → Prop} {f c args : List V} {st : St} (h : (f ++ args ++ c).length ≤ 41) : Run A.C K (valR (A.C.call (.func 3 f c) args st)) Q ↔ Run A.C (.fin [.tmp 2] st :: K) (exR (A.C.code none A.b3 ⟨setRegs .nil 0 (f ++ args ++ c), 41, []⟩ ⟨st.h, st.n, []⟩)) Q := run_func (A.x0 (f := 3) (by decide)) (mf := ⟨41, [.tmp 2], A.b3⟩) (by rw [A.t]; exact A.c3) h

theorem awake_eq {h : T O} {N : Nat} {w : List Nat} : A.C.call (.func 8 [] []) [] ⟨h, N, w⟩ = some (.bool true, ⟨h, N, w⟩) := by
  rw [Cx.call_eq]
  rfl
theorem shortG_few {g : List Stg} (h : shortG g = true) : g.length ≤ 17 ∧ (∀ s ∈ g, s.factor.length ≤ 20 ∧ s.inputs.length ≤ 17) := by
  unfold shortG at h
  rw [Bool.and_eq_true, decide_eq_true_eq, List.all_eq_true] at h
  refine ⟨by omega, fun s hs => ?_⟩
  have := h.2 s hs
  unfold shortS at this
  rw [Bool.and_eq_true, decide_eq_true_eq] at this
  omega
theorem graphs_fn {h : T O} {N : Nat} {v : V} {g : List Stg} (hg : Gr h N v g) (hl : g.length < 9223372036854775808) (hin : ∀ s ∈ g, s.inputs.length < 9223372036854775808) : Fn A.C 3 [v] h N (fun u _ _ => u = .bool true) := by
  intro w
  rw [call_run, A.k3 (by simp)]
  have hsh := fun w => short_eq (w := w) hg hl hin
  cases hs : shortG g with
  | false =>
    rw [hs] at hsh
    simp (disch := first | (simp; done) | omega | (simp only [dg_length, dgi_length, List.length_cons]; omega) | rfl) [-getElem?_pos, List.getElem?_cons_zero, List.getElem?_cons_succ, A.b3, hsh, awake_eq, Ret]
    exact Keeps.refl
  | true =>
    rw [hs] at hsh
    obtain ⟨h17, hfew⟩ := shortG_few hs
    have hP : FewG g := fun s hs => ⟨(hfew s hs).1, by have := (hfew s hs).2; omega⟩
    have hR : FewR g := hP
    have hi3 : ∀ s ∈ g, s.inputs.length < 1000 := fun s hs => by have := (hfew s hs).2; omega
    have hi6 : ∀ s ∈ g, s.inputs.length < 1000000 := fun s hs => by have := (hfew s hs).2; omega
    simp (disch := first | (simp; done) | omega | (simp only [dg_length, dgi_length, List.length_cons]; omega) | rfl) [-getElem?_pos, List.getElem?_cons_zero, List.getElem?_cons_succ, A.b3, hsh]
    refine run_fn (program_fn hg (by omega) hi3) ?_
    rintro u1 h1 n1 k1 hg1
    simp (disch := first | (simp; done) | omega | (simp only [dg_length, dgi_length, List.length_cons]; omega) | rfl) [-getElem?_pos, List.getElem?_cons_zero, List.getElem?_cons_succ, ]
    refine run_fn (critical_fn hg1 (by omega) hP) ?_
    rintro u2 h2 n2 k2 ⟨l, rfl, hlist⟩
    simp (disch := first | (simp; done) | omega | (simp only [dg_length, dgi_length, List.length_cons]; omega) | rfl) [-getElem?_pos, List.getElem?_cons_zero, List.getElem?_cons_succ, ]
    refine run_fn (rgraph_fn ((hg.keep k1).keep k2) (by omega) hR) ?_
    rintro u3 h3 n3 k3 rfl
    have kk3 := (k1.trans k2).trans k3
    by_cases hc : chkGraph g = 0
    · obtain ⟨G, hne⟩ := chkGraph_ok hc
      rw [if_pos hc] at hlist
      simp (disch := first | (simp; done) | omega | (simp only [dg_length, dgi_length, List.length_cons]; omega) | rfl) [-getElem?_pos, List.getElem?_cons_zero, List.getElem?_cons_succ, hc, eqPrim]
      refine run_fn (rcritical_fn (hg.keep kk3) G hi6) ?_
      rintro u4 h4 n4 k4 hu4
      simp (disch := first | (simp; done) | omega | (simp only [dg_length, dgi_length, List.length_cons]; omega) | rfl) [-getElem?_pos, List.getElem?_cons_zero, List.getElem?_cons_succ, ]
      refine run_fn (program_fn (hg.keep (kk3.trans k4)) (by omega) hi3) ?_
      rintro u5 h5 n5 k5 hg5
      simp (disch := first | (simp; done) | omega | (simp only [dg_length, dgi_length, List.length_cons]; omega) | rfl) [-getElem?_pos, List.getElem?_cons_zero, List.getElem?_cons_succ, ]
      refine run_fn (checkGraph_fn hg5 (by omega) hP) ?_
      rintro u6 h6 n6 k6 rfl
      have hsi := fun w => sameInts_eq (w := w) ((((hlist.keep k3).keep k4).keep k5).keep k6) ((hu4.keep k5).keep k6) rfl (by rw [rests_len]; omega)
      simp (disch := first | (simp; done) | omega | (simp only [dg_length, dgi_length, List.length_cons]; omega) | rfl) [-getElem?_pos, List.getElem?_cons_zero, List.getElem?_cons_succ, hc, eqPrim, hsi, awake_eq, Ret]
      exact ((kk3.trans k4).trans k5).trans k6
    · rw [if_neg hc] at hlist
      simp (disch := first | (simp; done) | omega | (simp only [dg_length, dgi_length, List.length_cons]; omega) | rfl) [-getElem?_pos, List.getElem?_cons_zero, List.getElem?_cons_succ, hc, eqPrim]
      refine run_fn (program_fn (hg.keep kk3) (by omega) hi3) ?_
      rintro u5 h5 n5 k5 hg5
      simp (disch := first | (simp; done) | omega | (simp only [dg_length, dgi_length, List.length_cons]; omega) | rfl) [-getElem?_pos, List.getElem?_cons_zero, List.getElem?_cons_succ, ]
      refine run_fn (checkGraph_fn hg5 (by omega) hP) ?_
      rintro u6 h6 n6 k6 rfl
      have hsi := fun w => sameInts_eq (w := w) (a := []) (((hlist.keep k3).keep k5).keep k6) (show Sl h6 n6 .nilslice (dI []) from Sl.nil) rfl (by simp)
      simp (disch := first | (simp; done) | omega | (simp only [dg_length, dgi_length, List.length_cons]; omega) | rfl) [-getElem?_pos, List.getElem?_cons_zero, List.getElem?_cons_succ, hc, eqPrim, hsi, awake_eq, Ret]
      exact (kk3.trans k5).trans k6

end Go.Mx
