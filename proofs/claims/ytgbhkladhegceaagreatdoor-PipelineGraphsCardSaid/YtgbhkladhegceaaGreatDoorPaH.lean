/-
  pipeline.CheckGraph.
-/
import Derived.Test.YtgbhkladhegceaaGreatDoorPaN
set_option linter.all false
namespace Go.Mx
open Go Go.Proofs
set_option maxRecDepth 1000000
set_option linter.unusedSimpArgs false
set_option linter.unusedVariables false
def A.lb13_0 : MCode := .seq (.reg [⟨(some 23), .bin .lss (.node []) false (.tmp 22) (.tmp 21), none⟩])
 (.seq (.cond (.tmp 23)
 (.skip)
 (.exit 0))
 (.seq (.block 1 (.seq (.reg [⟨(some 24), .mov (.tmp 22), none⟩, ⟨(some 25), .iaddrSl 5 (.tmp 20) (.tmp 22), none⟩, ⟨(some 26), .load (some 5) (.tmp 25), none⟩, ⟨(some 5), .alloc [(.str []), (.str []), (.str []), .nilslice, (.int .i64 0)] 126, none⟩, ⟨(some 4), .mov (.tmp 24), none⟩, ⟨none, .store 5 (.tmp 5) (.tmp 26), none⟩])
 (.seq (.regD [⟨(some 27), .load (some 5) (.tmp 5), none⟩, ⟨(some 28), .mov (.tmp 0), none⟩, ⟨(some 29), .mov (.tmp 4), none⟩, ⟨(some 30), .sliceSl 5 (.tmp 28) none (some (.tmp 29)) none, none⟩, ⟨(some 31), .call (.const (.func 51 [] [])) [(.tmp 27), (.tmp 30)], none⟩, ⟨(some 6), .mov (.tmp 31), none⟩] [0, 0, 0, 6, 15, 31])
 (.seq (.reg [⟨(some 32), .mov (.tmp 6), none⟩, ⟨(some 33), .bin .neq (.prim .int) true (.tmp 32) (.const (.int .i64 0)), none⟩])
 (.cond (.tmp 33)
 (.seq (.reg [⟨(some 34), .mov (.tmp 6), none⟩, ⟨(some 2), .mov (.tmp 34), none⟩])
 (.ret))
 (.skip))))))
 (.reg [⟨(some 35), .bin .add (.node []) false (.tmp 22) (.const (.int .i64 1)), none⟩, ⟨(some 22), .mov (.tmp 35), none⟩])))
/-- lenslet/pipeline.CheckGraph -/
def A.b13 : MCode := .seq (.reg [⟨(some 2), .mov (.const (.int .i64 0)), none⟩])
 (.seq (.seq (.reg [⟨(some 7), .mov (.tmp 0), none⟩, ⟨(some 8), .len 1 (.tmp 7), none⟩, ⟨(some 9), .bin .eql (.prim .int) true (.tmp 8) (.const (.int .i64 0)), none⟩, ⟨(some 10), .call (.const (.func 50 [] [])) [(.tmp 9), (.const (.int .i64 12))], none⟩, ⟨(some 11), .mov (.tmp 0), none⟩, ⟨(some 12), .len 1 (.tmp 11), none⟩, ⟨(some 13), .bin .gtr (.node []) false (.tmp 12) (.const (.int .i64 16)), none⟩, ⟨(some 14), .call (.const (.func 50 [] [])) [(.tmp 13), (.const (.int .i64 5))], none⟩, ⟨(some 15), .bslice 26 1 2 [(.int .i64 0), (.int .i64 0)] [(0, 1, (.tmp 10)), (1, 1, (.tmp 14))], none⟩, ⟨(some 16), .call (.const (.func 49 [] [])) [(.tmp 15)], none⟩, ⟨(some 3), .mov (.tmp 16), none⟩])
 (.seq (.reg [⟨(some 17), .mov (.tmp 3), none⟩, ⟨(some 18), .bin .neq (.prim .int) true (.tmp 17) (.const (.int .i64 0)), none⟩])
 (.cond (.tmp 18)
 (.seq (.reg [⟨(some 19), .mov (.tmp 3), none⟩, ⟨(some 2), .mov (.tmp 19), none⟩])
 (.ret))
 (.skip))))
 (.seq (.seq (.reg [⟨(some 20), .mov (.tmp 0), none⟩, ⟨(some 21), .len 1 (.tmp 20), none⟩, ⟨(some 22), .mov (.const (.int .i64 0)), none⟩])
 (.block 0 (.loop A.lb13_0)))
 (.seq (.reg [⟨(some 2), .mov (.const (.int .i64 0)), none⟩])
 (.ret))))
theorem A.c13 : cFunc Tryz.prog 13 = some ⟨36, [.tmp 2], A.b13⟩ := by kernel_rfl
theorem A.k13 {K : List Kf} {Q : Rs → Prop} {f c args : List V} {st : St} (h : (f ++ args ++ c).length ≤ 36) : Run A.C K (valR (A.C.call (.func 13 f c) args st)) Q ↔ Run A.C (.fin [.tmp 2] st :: K) (exR (A.C.code none A.b13 ⟨setRegs .nil 0 (f ++ args ++ c), 36, []⟩ ⟨st.h, st.n, []⟩)) Q := run_func (A.x0 (f := 13) (by decide)) (mf := ⟨36, [.tmp 2], A.b13⟩) (by rw [A.t]; exact A.c13) h

/-- Strings that are short enough. -/
def FewG (g : List Stg) : Prop := ∀ s ∈ g, s.factor.length ≤ 20 ∧ s.inputs.length < 1000000
theorem checkGraph_fn {h : T O} {N : Nat} {v : V} {g : List Stg} (hg : Gr h N v g) (hl : g.length < 1000000) (hf : FewG g) : Fn A.C 13 [v] h N (fun u _ _ => u = .int .i64 (chkGraph g : Nat)) := by
  intro w
  rw [call_run, A.k13 (by simp)]
  have lg := hg.len
  by_cases h0 : g.length = 0
  · have h0' : (g.length : Int) = 0 := by omega
    simp (disch := first | (simp; done) | omega | (simp only [dg_length, dgi_length, List.length_cons]; omega) | rfl) [-getElem?_pos, List.getElem?_cons_zero, List.getElem?_cons_succ, A.b13, lg, h0, when_eq, eqPrim, splice, pfirst2, firstNZ, Ret, chkGraph]
    exact Keeps.refl.new _
  · have h0' : ¬ (g.length : Int) = 0 := by omega
    have hne : g ≠ [] := fun h => by rw [h] at h0; simp at h0
    by_cases h16 : 16 < g.length
    · have h16' : 16 < (g.length : Int) := by omega
      simp (disch := first | (simp; done) | omega | (simp only [dg_length, dgi_length, List.length_cons]; omega) | rfl) [-getElem?_pos, List.getElem?_cons_zero, List.getElem?_cons_succ, A.b13, lg, h0, h0', hne, h16, h16', when_eq, eqPrim, splice, pfirst2, firstNZ, Ret, chkGraph]
      exact Keeps.refl.new _
    · have h16' : ¬ 16 < (g.length : Int) := by omega
      have hc : chkGraph g = chkL [] g := by simp [chkGraph, h0, h16, hne]
      simp (disch := first | (simp; done) | omega | (simp only [dg_length, dgi_length, List.length_cons]; omega) | rfl) [-getElem?_pos, List.getElem?_cons_zero, List.getElem?_cons_succ, A.b13, lg, h0, h0', hne, h16, h16', when_eq, eqPrim, splice, pfirst2, firstNZ]
      refine run_loopD [(2, 2), (4, 6), (22, 35)] (fun e r st => oldIds N st.w = [] ∧ Keeps h N st.h st.n ∧ ((e = .exit 0 ∧ chkL [] g = 0) ∨ (e = .ret ∧ r.get 2 = some (.int .i64 (chkL [] g : Nat))))) (fun m r st => oldIds N st.w = [] ∧ Keeps h N st.h st.n ∧ ∃ k, k + m = g.length ∧ r.get 22 = some (.int .i64 k) ∧ chkL [] g = chkL (g.take k) (g.drop k)) g.length ?_ ?_ ?_
      · exact ⟨by simp, Keeps.refl.new _, 0, by omega, by simp, by simp⟩
      · rintro m r ⟨H, n1, W⟩ hr hf2 ⟨hW, hK, k, hk, h22, hz⟩
        simp only at hW hK
        rw [code_run]
        cases m with
        | zero =>
          have : k = g.length := by omega
          subst this
          rw [List.drop_length, chkL] at hz
          simp (disch := first | (simp; done) | omega | (simp only [dg_length, dgi_length, List.length_cons]; omega) | rfl) [-getElem?_pos, List.getElem?_cons_zero, List.getElem?_cons_succ, A.lb13_0, hr, hf2, h22, hW, hK, hz]
        | succ m =>
          have hlt : k < g.length := by omega
          obtain ⟨s, hs⟩ := get_of_lt hlt
          have hgH := hg.keep hK
          obtain ⟨i, o, cc, e, rw, inp, q1, q2, q3, q4, q5⟩ := hgH.at hs
          obtain ⟨ff1, ff2⟩ := hf s (List.mem_of_getElem? hs)
          rw [get_drop_cons hs, chkL] at hz
          have hk1 : (k : Int) < (g.length : Int) := by omega
          have hio := q5.form.one
          unfold V.one at hio
          have d1 : ¬ i = n1 := by omega
          simp (disch := first | (simp; done) | omega | (simp only [dg_length, dgi_length, List.length_cons]; omega) | rfl) [-getElem?_pos, List.getElem?_cons_zero, List.getElem?_cons_succ, A.lb13_0, hr, hf2, h22, hk1, hlt, lg, q1, q3, q4, stgC, hio, d1, splice, op_sliceSl_K, evOpt, storeK2]
          have hK1 := (hK.new (.cells [.str [], .str [], .str [], .nilslice, .int .i64 0] 126 true)).set (i := n1) (o := .cells (stgC s inp) 126 true) hK.le
          obtain ⟨v', e1, e2⟩ := (hg.keep hK1).slice (w := []) (lo := 0) (hi := k) (by omega) (by omega) none (some (.int .i64 k)) (.inr ⟨rfl, rfl⟩) (.inl rfl)
          rw [List.drop_zero] at e2
          unfold stgC at e1 e2
          simp (disch := first | (simp; done) | omega | (simp only [dg_length, dgi_length, List.length_cons]; omega) | rfl) [-getElem?_pos, List.getElem?_cons_zero, List.getElem?_cons_succ, e1]
          have hlt2 : (g.take k).length < 1000000 := by simp; omega
          refine run_fn (scheck_fn e2 hlt2 (q5.keep (((Keeps.refl.new _)).set (Nat.le_refl _))) ff2 ff1) ?_
          rintro u h3 n3 k3 rfl
          have kk := hK1.trans k3
          have wok : ¬ n1 < N := by have := hK.le; omega
          by_cases hz0 : chkStage (g.take k) s = 0
          · rw [hz0] at hz
            simp at hz
            simp (disch := first | (simp; done) | omega | (simp only [dg_length, dgi_length, List.length_cons]; omega) | rfl) [-getElem?_pos, List.getElem?_cons_zero, List.getElem?_cons_succ, hr, hf2, h22, hz0, eqPrim, hW, wok]
            exact ⟨m, by omega, kk, k + 1, by omega, by simp, by rw [hz, List.take_add_one, hs]; rfl⟩
          · rw [if_pos hz0] at hz
            simp (disch := first | (simp; done) | omega | (simp only [dg_length, dgi_length, List.length_cons]; omega) | rfl) [-getElem?_pos, List.getElem?_cons_zero, List.getElem?_cons_succ, hr, hf2, h22, hz0, eqPrim, hW, wok, hz]
            exact kk
      · rintro e r ⟨H, n1, W⟩ hr ⟨hW, hK, ⟨rfl, hz⟩ | ⟨rfl, h4⟩⟩
        · simp only at hW hK
          simp (disch := first | (simp; done) | omega | (simp only [dg_length, dgi_length, List.length_cons]; omega) | rfl) [-getElem?_pos, List.getElem?_cons_zero, List.getElem?_cons_succ, hr, hz, Ret, hW, hK, hc]
        · simp only at hW hK
          simp (disch := first | (simp; done) | omega | (simp only [dg_length, dgi_length, List.length_cons]; omega) | rfl) [-getElem?_pos, List.getElem?_cons_zero, List.getElem?_cons_succ, hr, h4, Ret, hW, hK, hc]

end Go.Mx
/- pipeline.mapped: stages to integers. -/
namespace Go.Mx
open Go Go.Proofs
set_option maxRecDepth 1000000
set_option linter.unusedSimpArgs false
set_option linter.unusedVariables false
/-- lenslet/pipeline.rests$1 -/
def A.b86 : MCode := .seq (.reg [⟨(some 1), .box 126 (.tmp 0), none⟩, ⟨(some 2), .mov (.const (.int .i64 0)), none⟩])
 (.seq (.reg [⟨(some 3), .faddr 4 (.tmp 1), none⟩, ⟨(some 4), .load none (.tmp 3), none⟩, ⟨(some 2), .mov (.tmp 4), none⟩])
 (.ret))
theorem A.c86 : cFunc Tryz.prog 86 = some ⟨5, [.tmp 2], A.b86⟩ := by kernel_rfl
theorem A.k86 {K : List Kf} {Q : Rs → Prop} {f c args : List V} {st : St} (h : (f ++ args ++ c).length ≤ 5) : Run A.C K (valR (A.C.call (.func 86 f c) args st)) Q ↔ Run A.C (.fin [.tmp 2] st :: K) (exR (A.C.code none A.b86 ⟨setRegs .nil 0 (f ++ args ++ c), 5, []⟩ ⟨st.h, st.n, []⟩)) Q := run_func (A.x0 (f := 86) (by decide)) (mf := ⟨5, [.tmp 2], A.b86⟩) (by rw [A.t]; exact A.c86) h
def A.lb85_0 : MCode := .seq (.reg [⟨(some 11), .bin .lss (.node []) false (.tmp 10) (.tmp 9), none⟩])
 (.seq (.cond (.tmp 11)
 (.skip)
 (.exit 0))
 (.seq (.block 1 (.seq (.reg [⟨(some 12), .iaddrSl 5 (.tmp 8) (.tmp 10), none⟩, ⟨(some 13), .load (some 5) (.tmp 12), none⟩, ⟨(some 7), .alloc [(.str []), (.str []), (.str []), .nilslice, (.int .i64 0)] 126, none⟩, ⟨none, .store 5 (.tmp 7) (.tmp 13), none⟩])
 (.reg [⟨(some 14), .mov (.tmp 5), none⟩, ⟨(some 15), .mov (.tmp 1), none⟩, ⟨(some 16), .load (some 5) (.tmp 7), none⟩, ⟨(some 17), .call (.tmp 15) [(.tmp 16)], none⟩, ⟨(some 18), .bslice 3 1 1 [(.int .i64 0)] [(0, 1, (.tmp 17))], none⟩, ⟨(some 19), .append 1 8 3 [(.int .i64 0)] (.tmp 14) (.tmp 18), none⟩, ⟨(some 5), .mov (.tmp 19), none⟩])))
 (.reg [⟨(some 20), .bin .add (.node []) false (.tmp 10) (.const (.int .i64 1)), none⟩, ⟨(some 10), .mov (.tmp 20), none⟩])))
/-- lenslet/pipeline.mapped[lenslet/pipeline.Stage,int] -/
def A.b85 : MCode := .seq (.reg [⟨(some 4), .mov (.const .nilslice), none⟩])
 (.seq (.reg [⟨(some 5), .mov (.const .nilslice), none⟩])
 (.seq (.seq (.reg [⟨(some 8), .mov (.tmp 0), none⟩, ⟨(some 9), .len 1 (.tmp 8), none⟩, ⟨(some 10), .mov (.const (.int .i64 0)), none⟩])
 (.block 0 (.loop A.lb85_0)))
 (.seq (.reg [⟨(some 21), .mov (.tmp 5), none⟩, ⟨(some 4), .mov (.tmp 21), none⟩])
 (.ret))))
theorem A.c85 : cFunc Tryz.prog 85 = some ⟨22, [.tmp 4], A.b85⟩ := by kernel_rfl
theorem A.k85 {K : List Kf} {Q : Rs → Prop} {f c args : List V} {st : St} (h : (f ++ args ++ c).length ≤ 22) : Run A.C K (valR (A.C.call (.func 85 f c) args st)) Q ↔ Run A.C (.fin [.tmp 4] st :: K) (exR (A.C.code none A.b85 ⟨setRegs .nil 0 (f ++ args ++ c), 22, []⟩ ⟨st.h, st.n, []⟩)) Q := run_func (A.x0 (f := 85) (by decide)) (mf := ⟨22, [.tmp 4], A.b85⟩) (by rw [A.t]; exact A.c85) h

theorem rests1_fn {h : T O} {N : Nat} {s : Stg} {inp : V} (hi : SlF inp) : FnV A.C (.func 86 [] []) [.agg (stgC s inp)] h N (fun u _ _ => u = .int .i64 s.cost) := by
  intro w
  rw [call_run, A.k86 (by simp)]
  have hio := hi.one
  unfold V.one at hio
  simp (disch := first | (simp; done) | omega | (simp only [dg_length, dgi_length, List.length_cons]; omega) | rfl) [-getElem?_pos, List.getElem?_cons_zero, List.getElem?_cons_succ, A.b86, stgC, hio, partV, Ret]
  exact Keeps.refl.new _
theorem mapSI_fn {h : T O} {N : Nat} {v f : V} {g : List Stg} (F : Stg → Int) (hg : Gr h N v g) (hl : g.length < 1000000) (hf : ∀ s inp, SlF inp → ∀ h' n', FnV A.C f [.agg (stgC s inp)] h' n' (fun u _ _ => u = .int .i64 (F s))) : Fn A.C 85 [v, f] h N (fun u h' n' => Own 1 3 N h' n' u (rowsI (g.map F))) := by
  intro w
  rw [call_run, A.k85 (by simp)]
  have lg := hg.len
  simp (disch := first | (simp; done) | omega | (simp only [dg_length, dgi_length, List.length_cons]; omega) | rfl) [-getElem?_pos, List.getElem?_cons_zero, List.getElem?_cons_succ, A.b85, lg]
  refine run_loopD [(5, 5), (7, 7), (10, 20)] (fun e r st => e = .exit 0 ∧ oldIds N st.w = [] ∧ Keeps h N st.h st.n ∧ ∃ u, r.get 5 = some u ∧ Own 1 3 N st.h st.n u (rowsI (g.map F))) (fun m r st => oldIds N st.w = [] ∧ Keeps h N st.h st.n ∧ ∃ k u, k + m = g.length ∧ r.get 10 = some (.int .i64 k) ∧ r.get 5 = some u ∧ Own 1 3 N st.h st.n u (rowsI ((g.take k).map F))) g.length ?_ ?_ ?_
  · exact ⟨by simp, Keeps.refl, 0, .nilslice, by omega, by simp, by simp, Own.nil⟩
  · rintro m r ⟨H, n1, W⟩ hr hf2 ⟨hW, hK, k, u, hk, h10, h5, ho⟩
    simp only at hW hK ho
    rw [code_run]
    cases m with
    | zero =>
      have : k = g.length := by omega
      subst this
      rw [List.take_length] at ho
      simp (disch := first | (simp; done) | omega | (simp only [dg_length, dgi_length, List.length_cons]; omega) | rfl) [-getElem?_pos, List.getElem?_cons_zero, List.getElem?_cons_succ, A.lb85_0, hr, hf2, h10, hW, hK]
      exact ⟨u, h5, ho⟩
    | succ m =>
      have hlt : k < g.length := by omega
      obtain ⟨s, hs⟩ := get_of_lt hlt
      obtain ⟨i, o, cc, e, rw, inp, q1, q2, q3, q4, q5⟩ := (hg.keep hK).at hs
      have hk1 : (k : Int) < (g.length : Int) := by omega
      have hio := q5.form.one
      unfold V.one at hio
      have d1 : ¬ i = n1 := by omega
      simp (disch := first | (simp; done) | omega | (simp only [dg_length, dgi_length, List.length_cons]; omega) | rfl) [-getElem?_pos, List.getElem?_cons_zero, List.getElem?_cons_succ, A.lb85_0, hr, hf2, h10, h5, hk1, hlt, lg, q1, q3, q4, stgC, hio, d1, splice, storeK2]
      refine run_fnV (hf s inp q5.form _ _) ?_
      rintro u1 h3 n3 k3 rfl
      have kle3 := k3.le
      have kn := hK.le
      have d3 : n1 < n3 := by omega
      simp (disch := first | (simp; done) | omega | (simp only [dg_length, dgi_length, List.length_cons]; omega) | rfl) [-getElem?_pos, List.getElem?_cons_zero, List.getElem?_cons_succ, hr, hf2, h10, h5, splice, d3]
      have ho3 : Own 1 3 N (h3.set n3 (.cells [.int .i64 (F s)] 3 true)) (n3 + 1) u (rowsI ((g.take k).map F)) := by
        refine (ho.keep ?_).keep (Keeps.refl.new _)
        exact (((Keeps.refl.new _).set (Nat.le_refl n1))).trans k3
      obtain ⟨v', h', w', e1, e2, e3, e4, e5⟩ := append_own (x := [.int .i64 (F s)]) (u := .slice n3 0 1 (some 1) 1) (bytes := 8) (w := n1 :: W) ho3 (by omega) (by decide) rfl (by simp [srcCells, St.row, slc]) (by simp [rowsI]; omega)
      rw [e1]
      have wok : ¬ n1 < N := by omega
      have e2' : oldIds N w' = [] := by rw [e2]; simp [oldIds, hW, wok]
      have kk := ((hK.new (.cells [.str [], .str [], .str [], .nilslice, .int .i64 0] 126 true)).set (i := n1) (o := .cells (stgC s inp) 126 true) hK.le).trans k3
      have kz := (kk.new (.cells [.int .i64 (F s)] 3 true)).then e3
      have e6 : rowsI ((g.take k).map F) ++ [[.int .i64 (F s)]] = rowsI ((g.take (k + 1)).map F) := by
        rw [List.take_add_one, hs, ← rowsI_snoc]; simp
      rw [e6] at e5
      simp (disch := first | (simp; done) | omega | (simp only [dg_length, dgi_length, List.length_cons]; omega) | rfl) [-getElem?_pos, List.getElem?_cons_zero, List.getElem?_cons_succ, hr, hf2, h10, e2']
      exact ⟨m, by omega, kz, k + 1, by omega, by simp, by simpa using e5⟩
  · rintro _ r ⟨H, n1, W⟩ hr ⟨rfl, hW, hK, u, h5, ho⟩
    simp only at hW hK ho
    simp (disch := first | (simp; done) | omega | (simp only [dg_length, dgi_length, List.length_cons]; omega) | rfl) [-getElem?_pos, List.getElem?_cons_zero, List.getElem?_cons_succ, hr, h5, Ret, hW, hK]
    exact ho

end Go.Mx
