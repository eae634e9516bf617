/-
  pipeline.rests, Critical.
-/
import Derived.Test.YtgbhkladhegceaaGreatDoorPaH
set_option linter.all false
namespace Go.Mx
open Go Go.Proofs
set_option maxRecDepth 1000000
set_option linter.unusedSimpArgs false
set_option linter.unusedVariables false
def A.lb46_0 : MCode := .seq (.reg [⟨(some 24), .bin .lss (.node []) false (.tmp 23) (.tmp 22), none⟩])
 (.seq (.cond (.tmp 24)
 (.skip)
 (.exit 2))
 (.seq (.block 3 (.seq (.reg [⟨(some 25), .iaddrSl 1 (.tmp 21) (.tmp 23), none⟩, ⟨(some 26), .load none (.tmp 25), none⟩, ⟨(some 6), .mov (.tmp 26), none⟩])
 (.seq (.reg [⟨(some 27), .mov (.tmp 0), none⟩, ⟨(some 28), .mov (.tmp 6), none⟩, ⟨(some 29), .call (.const (.func 87 [] [])) [(.tmp 27), (.tmp 28)], none⟩, ⟨(some 7), .mov (.tmp 29), none⟩])
 (.regD [⟨(some 30), .mov (.tmp 3), none⟩, ⟨(some 31), .mov (.tmp 7), none⟩, ⟨(some 32), .mov (.tmp 3), none⟩, ⟨(some 33), .mov (.tmp 7), none⟩, ⟨(some 34), .iaddrSl 1 (.tmp 32) (.tmp 33), none⟩, ⟨(some 35), .load none (.tmp 34), none⟩, ⟨(some 36), .mov (.tmp 0), none⟩, ⟨(some 37), .mov (.tmp 7), none⟩, ⟨(some 38), .iaddrSl 5 (.tmp 36) (.tmp 37), none⟩, ⟨(some 39), .faddr 4 (.tmp 38), none⟩, ⟨(some 40), .load none (.tmp 39), none⟩, ⟨(some 41), .mov (.tmp 3), none⟩, ⟨(some 42), .mov (.tmp 4), none⟩, ⟨(some 43), .iaddrSl 1 (.tmp 41) (.tmp 42), none⟩, ⟨(some 44), .load none (.tmp 43), none⟩, ⟨(some 45), .bin .add (.node []) false (.tmp 40) (.tmp 44), none⟩, ⟨(some 46), .mx [(.tmp 35), (.tmp 45)], none⟩, ⟨(some 47), .iaddrSl 1 (.tmp 30) (.tmp 31), none⟩, ⟨none, .store 1 (.tmp 47) (.tmp 46), none⟩] [0, 0, 0, 0, 12, 28, 0, 0, 192, 448, 960, 0, 0, 6144, 14336, 32704, 65532, 131071, 262143]))))
 (.reg [⟨(some 48), .bin .add (.node []) false (.tmp 23) (.const (.int .i64 1)), none⟩, ⟨(some 23), .mov (.tmp 48), none⟩])))
def A.lb46_1 : MCode := .seq (.seq (.reg [⟨(some 13), .mov (.tmp 4), none⟩, ⟨(some 14), .bin .geq (.node []) false (.tmp 13) (.const (.int .i64 0)), none⟩])
 (.cond (.tmp 14)
 (.skip)
 (.exit 0)))
 (.seq (.block 1 (.seq (.reg [⟨(some 17), .mov (.tmp 0), none⟩, ⟨(some 18), .mov (.tmp 4), none⟩, ⟨(some 19), .iaddrSl 5 (.tmp 17) (.tmp 18), none⟩, ⟨(some 20), .faddr 3 (.tmp 19), none⟩, ⟨(some 21), .load none (.tmp 20), none⟩, ⟨(some 22), .len 1 (.tmp 21), none⟩, ⟨(some 23), .mov (.const (.int .i64 0)), none⟩])
 (.block 2 (.loop A.lb46_0))))
 (.reg [⟨(some 15), .mov (.tmp 4), none⟩, ⟨(some 16), .bin .sub (.node []) false (.tmp 15) (.const (.int .i64 1)), none⟩, ⟨(some 4), .mov (.tmp 16), none⟩]))
/-- lenslet/pipeline.rests -/
def A.b46 : MCode := .seq (.reg [⟨(some 2), .mov (.const .nilslice), none⟩])
 (.seq (.reg [⟨(some 8), .mov (.tmp 0), none⟩, ⟨(some 9), .call (.const (.func 85 [] [])) [(.tmp 8), (.const (.func 86 [] []))], none⟩, ⟨(some 3), .mov (.tmp 9), none⟩])
 (.seq (.seq (.reg [⟨(some 10), .mov (.tmp 0), none⟩, ⟨(some 11), .len 1 (.tmp 10), none⟩, ⟨(some 12), .bin .sub (.node []) false (.tmp 11) (.const (.int .i64 1)), none⟩, ⟨(some 4), .mov (.tmp 12), none⟩])
 (.block 0 (.loop A.lb46_1)))
 (.seq (.reg [⟨(some 49), .mov (.tmp 3), none⟩, ⟨(some 2), .mov (.tmp 49), none⟩])
 (.ret))))
theorem A.c46 : cFunc Tryz.prog 46 = some ⟨50, [.tmp 2], A.b46⟩ := by kernel_rfl
theorem A.k46 {K : List Kf} {Q : Rs → Prop} {f c args : List V} {st : St} (h : (f ++ args ++ c).length ≤ 50) : Run A.C K (valR (A.C.call (.func 46 f c) args st)) Q ↔ Run A.C (.fin [.tmp 2] st :: K) (exR (A.C.code none A.b46 ⟨setRegs .nil 0 (f ++ args ++ c), 50, []⟩ ⟨st.h, st.n, []⟩)) Q := run_func (A.x0 (f := 46) (by decide)) (mf := ⟨50, [.tmp 2], A.b46⟩) (by rw [A.t]; exact A.c46) h
/-- lenslet/pipeline.Critical -/
def A.b9 : MCode := .seq (.reg [⟨(some 2), .mov (.const .nilslice), none⟩, ⟨(some 3), .mov (.const (.int .i64 0)), none⟩])
 (.seq (.seq (.reg [⟨(some 5), .mov (.tmp 0), none⟩, ⟨(some 6), .call (.const (.func 13 [] [])) [(.tmp 5)], none⟩, ⟨(some 4), .mov (.tmp 6), none⟩])
 (.seq (.reg [⟨(some 7), .mov (.tmp 4), none⟩, ⟨(some 8), .bin .neq (.prim .int) true (.tmp 7) (.const (.int .i64 0)), none⟩])
 (.cond (.tmp 8)
 (.seq (.reg [⟨(some 9), .mov (.tmp 4), none⟩, ⟨(some 2), .mov (.const .nilslice), none⟩, ⟨(some 3), .mov (.tmp 9), none⟩])
 (.ret))
 (.skip))))
 (.seq (.reg [⟨(some 10), .mov (.tmp 0), none⟩, ⟨(some 11), .call (.const (.func 46 [] [])) [(.tmp 10)], none⟩, ⟨(some 2), .mov (.tmp 11), none⟩, ⟨(some 3), .mov (.const (.int .i64 0)), none⟩])
 (.ret)))
theorem A.c9 : cFunc Tryz.prog 9 = some ⟨12, [.tmp 2, .tmp 3], A.b9⟩ := by kernel_rfl
theorem A.k9 {K : List Kf} {Q : Rs → Prop} {f c args : List V} {st : St} (h : (f ++ args ++ c).length ≤ 12) : Run A.C K (valR (A.C.call (.func 9 f c) args st)) Q ↔ Run A.C (.fin [.tmp 2, .tmp 3] st :: K) (exR (A.C.code none A.b9 ⟨setRegs .nil 0 (f ++ args ++ c), 12, []⟩ ⟨st.h, st.n, []⟩)) Q := run_func (A.x0 (f := 9) (by decide)) (mf := ⟨12, [.tmp 2, .tmp 3], A.b9⟩) (by rw [A.t]; exact A.c9) h

theorem maxO2 {k : IntKind} {a b : Int} : maxO [.int k a, .int k b] = some (.int k (if a < b then b else a)) := rfl
/-- What stands in the list when the stages from k on are done, and of the one before the first t inputs. -/
def RsA (g : List Stg) (k : Nat) (out : List Int) : Prop := out.length = g.length ∧ ∀ (j : Nat) (x : Stg), g[j]? = some x → out[j]? = some (x.cost + askR g k x.name)
def RsB (g : List Stg) (q : Nat) (s : Stg) (t : Nat) (out : List Int) : Prop := out.length = g.length ∧ ∀ (j : Nat) (x : Stg), g[j]? = some x → out[j]? = some (x.cost + (if x.name ∈ s.inputs.take t then max (s.cost + askR g (q + 1) s.name) (askR g (q + 1) x.name) else askR g (q + 1) x.name))
theorem RsA.toB {g : List Stg} {q : Nat} {s : Stg} {out : List Int} (h : RsA g (q + 1) out) : RsB g q s 0 out := ⟨h.1, fun j x hx => by rw [h.2 j x hx]; simp⟩
theorem RsB.toA {g : List Stg} {q : Nat} {s : Stg} {out : List Int} (hs : g[q]? = some s) (h : RsB g q s s.inputs.length out) : RsA g q out := ⟨h.1, fun j x hx => by
  rw [h.2 j x hx, askR_step hs (rests_ask hs), List.take_length]⟩
theorem RsB.step {g : List Stg} (V : ValidG g) {q : Nat} {s : Stg} {t : Nat} {out : List Int} {n : Str} (hs : g[q]? = some s) (hn : s.inputs[t]? = some n) (h : RsB g q s t out) :
    ∃ x y, g[pos g n]? = some x ∧ out[pos g n]? = some y ∧ out[q]? = some (s.cost + askR g (q + 1) s.name) ∧ 0 ≤ y ∧ y ≤ 100000 ∧ RsB g q s (t + 1) (out.set (pos g n) (if y < x.cost + (s.cost + askR g (q + 1) s.name) then x.cost + (s.cost + askR g (q + 1) s.name) else y)) := by
  have hmem : n ∈ s.inputs := List.mem_of_getElem? hn
  have hp := V.pos_inp hs hmem
  have hq := lt_of_get hs
  obtain ⟨x, hx, hxn⟩ := pos_get (g := g) (n := n) (by omega)
  have hy := h.2 _ x hx
  have ho := h.2 _ s hs
  have hnot : s.name ∉ s.inputs.take t := fun hc => V.not_needs hs hs (Nat.le_refl _) (List.mem_of_mem_take hc)
  rw [if_neg hnot] at ho
  have c1 := V.cost x (List.mem_of_getElem? hx)
  have c2 := V.cost s (List.mem_of_getElem? hs)
  have a1 := askR_nn g (q + 1) x.name
  have a2 := askR_bound V (q + 1) x.name
  have a3 := askR_nn g (q + 1) s.name
  have a4 := askR_bound V (q + 1) s.name
  refine ⟨x, _, hx, hy, ho, ?_, ?_, by simp [h.1], fun j z hz => ?_⟩
  · split <;> omega
  · split <;> omega
  · by_cases hj : j = pos g n
    · subst hj
      obtain rfl : x = z := Option.some.inj (hx.symm.trans hz)
      rw [List.getElem?_set_self (by rw [h.1]; omega)]
      have : x.name ∈ s.inputs.take (t + 1) := by rw [List.take_add_one, hn, hxn]; simp
      rw [if_pos this]
      congr 1
      split <;> split <;> omega
    · rw [List.getElem?_set_ne (fun hc => hj hc.symm), h.2 j z hz]
      have hzn : z.name ≠ n := fun hc => hj (by rw [← V.pos_self hz, hc])
      have : (z.name ∈ s.inputs.take (t + 1)) ↔ (z.name ∈ s.inputs.take t) := by
        rw [List.take_add_one, hn]; simp [hzn]
      simp only [this]
theorem RsA.done {g : List Stg} (V : ValidG g) {out : List Int} (h : RsA g 0 out) : out = rests g := by
  apply List.ext_getElem?
  intro j
  by_cases hj : j < g.length
  · obtain ⟨x, hx⟩ := get_of_lt hj
    rw [h.2 j x hx, rests_ask hx, V.ask_self hx (j + 1) 0 (by omega)]
  · rw [List.getElem?_eq_none (by rw [h.1]; omega), List.getElem?_eq_none (by rw [rests_len]; omega)]
theorem RsA.init {g : List Stg} : RsA g g.length (g.map Stg.cost) := ⟨by simp, fun j x hx => by simp [hx, askR_end]⟩

theorem rests_fn {h : T O} {N : Nat} {v : V} {g : List Stg} (hg : Gr h N v g) (V : ValidG g) (hne : g ≠ []) (hin : ∀ s ∈ g, s.inputs.length < 1000000) : Fn A.C 46 [v] h N (fun u h' n' => Sl h' n' u (dI (rests g))) := by
  intro w
  have lg := hg.len
  have hle := V.le
  rw [call_run, A.k46 (by simp)]
  simp (disch := first | (simp; done) | omega | (simp only [dg_length, dgi_length, List.length_cons]; omega) | rfl) [-getElem?_pos, List.getElem?_cons_zero, List.getElem?_cons_succ, A.b46]
  refine run_fn (mapSI_fn (fun s => s.cost) hg (by omega) (fun s inp hi h' n' => rests1_fn hi)) ?_
  rintro u h1 n1 k1 ho
  have kle1 := k1.le
  obtain ⟨_, ⟨h0, _⟩ | ⟨i, rfl, i1, i2, i3⟩⟩ := ho
  · simp [rowsI] at h0; exact absurd h0 hne
  have hln : (rowsI (g.map fun s => s.cost)).length = g.length := by simp [rowsI]
  rw [rowsI_flat] at i3
  rw [hln]
  simp (disch := first | (simp; done) | omega | (simp only [dg_length, dgi_length, List.length_cons]; omega) | rfl) [-getElem?_pos, List.getElem?_cons_zero, List.getElem?_cons_succ, lg]
  refine run_loopD [(4, 4), (6, 7), (13, 48)] (fun e r st => e = .exit 0 ∧ oldIds N st.w = [] ∧ Keeps h N st.h st.n ∧ i < st.n ∧ st.h.get i = some (.cells (dI (rests g)) 3 true)) (fun m r st => oldIds N st.w = [] ∧ Keeps h N st.h st.n ∧ i < st.n ∧ r.get 4 = some (.int .i64 ((m : Int) - 1)) ∧ m ≤ g.length ∧ ∃ out, st.h.get i = some (.cells (dI out) 3 true) ∧ RsA g m out) g.length ?_ ?_ ?_
  · exact ⟨by simp, k1, i2, by simp, Nat.le_refl _, _, i3, RsA.init⟩
  · rintro m r ⟨H, n2, W⟩ hr hf ⟨hW, hK, hi, h4, hm, out, hrow, hA⟩
    simp only at hW hK hi hrow
    rw [code_run]
    cases m with
    | zero =>
      have := hA.done V
      subst this
      simp (disch := first | (simp; done) | omega | (simp only [dg_length, dgi_length, List.length_cons]; omega) | rfl) [-getElem?_pos, List.getElem?_cons_zero, List.getElem?_cons_succ, A.lb46_1, hr, hf, h4, hW, hK]
      exact ⟨hi, hrow⟩
    | succ q =>
      obtain ⟨s, hs⟩ := get_of_lt (l := g) (k := q) (by omega)
      obtain ⟨j, o, cc, e, rw, inp, q1, q2, q30, q4, q5⟩ := hg.at hs
      have q3 := (hK.get _ q2).trans q30
      obtain ⟨p0, p1, p2, p3, p4, p5⟩ := stg_parts q4
      have hk1 : (q : Int) < (g.length : Int) := by omega
      have hk2 : q < g.length := by omega
      have hk3 : (0 : Int) ≤ (q : Int) := by omega
      have hq1 : (((q + 1 : Nat) : Int) - 1) = (q : Int) := by omega
      rw [hq1] at h4
      have lin := q5.len
      rw [strs_len] at lin
      have hinl := hin s (List.mem_of_getElem? hs)
      simp (disch := first | (simp; done) | omega | (simp only [dg_length, dgi_length, List.length_cons]; omega) | rfl) [-getElem?_pos, List.getElem?_cons_zero, List.getElem?_cons_succ, A.lb46_1, hr, hf, h4, hk1, hk2, hk3, lg, q1, q3, p4, lin]
      refine run_loopD [(6, 7), (23, 48)] (fun e r st => e = .exit 2 ∧ oldIds N st.w = [] ∧ Keeps h N st.h st.n ∧ i < st.n ∧ ∃ out, st.h.get i = some (.cells (dI out) 3 true) ∧ RsB g q s s.inputs.length out) (fun m r st => oldIds N st.w = [] ∧ Keeps h N st.h st.n ∧ i < st.n ∧ ∃ t out, t + m = s.inputs.length ∧ r.get 23 = some (.int .i64 t) ∧ st.h.get i = some (.cells (dI out) 3 true) ∧ RsB g q s t out) s.inputs.length ?_ ?_ ?_
      · exact ⟨hW, hK, hi, 0, out, by omega, by simp, hrow, hA.toB⟩
      · rintro m2 r2 ⟨H2, n3, W2⟩ hr2 hf2 ⟨hW2, hK2, hi2, t, out2, ht, h23, hrow2, hB⟩
        simp only at hW2 hK2 hi2 hrow2
        rw [code_run]
        cases m2 with
        | zero =>
          have : t = s.inputs.length := by omega
          subst this
          simp (disch := first | (simp; done) | omega | (simp only [dg_length, dgi_length, List.length_cons]; omega) | rfl) [-getElem?_pos, List.getElem?_cons_zero, List.getElem?_cons_succ, A.lb46_0, hr, hr2, hf2, h23, hW2, hK2]
          exact ⟨hi2, out2, hrow2, hB⟩
        | succ m2 =>
          have htl : t < s.inputs.length := by omega
          have htl' : (t : Int) < (s.inputs.length : Int) := by omega
          obtain ⟨n, hn⟩ := get_of_lt htl
          obtain ⟨x, y, hx, hy, hoq, y0, y1, hB'⟩ := hB.step V hs hn
          have hp := V.pos_inp hs (List.mem_of_getElem? hn)
          have hpi : posI g n = (pos g n : Int) := by unfold posI; rw [if_pos (by omega)]
          have c1 := V.cost x (List.mem_of_getElem? hx)
          have c2 := V.cost s (List.mem_of_getElem? hs)
          have a3 := askR_nn g (q + 1) s.name
          have a4 := askR_bound V (q + 1) s.name
          obtain ⟨b1, b2, b3, b4, b5, z1, z2, z3, z4⟩ := q5.at (strs_get hn)
          have z3 := (hK2.get _ z2).trans z3
          simp (disch := first | (simp; done) | omega | (simp only [dg_length, dgi_length, List.length_cons]; omega) | rfl) [-getElem?_pos, List.getElem?_cons_zero, List.getElem?_cons_succ, A.lb46_0, hr, hr2, hf2, h23, htl, htl', lin, z1, z3, z4]
          refine run_fn (find_fn (hg.keep hK2) (by omega)) ?_
          rintro u h4' n4 k4 rfl
          have kle4 := k4.le
          have hrow4 := (k4.get i hi2).trans hrow2
          obtain ⟨j5, o5, cc5, e5, rw5, inp5, x1, x2, x3, x4, x5⟩ := hg.at hx
          obtain ⟨_, _, _, _, _, x6⟩ := stg_parts x4
          have x3 := ((hK2.trans k4).get _ x2).trans x3
          have w1 : (pos g n : Int) < (g.length : Int) := by omega
          have w2 : pos g n < g.length := by omega
          have w3 : (0 : Int) ≤ (pos g n : Int) := by omega
          have hgl : (rowsI (g.map fun s => s.cost)).length = g.length := hln
          have w4 : wrapF .i64 (x.cost + (s.cost + askR g (q + 1) s.name)) = x.cost + (s.cost + askR g (q + 1) s.name) := wrapF_i64 (by omega) (by omega)
          have w5 := hB.1
          have w6 : i < n4 := by omega
          have w7 := dI_set (l := out2) (k := pos g n) (v := if y < x.cost + (s.cost + askR g (q + 1) s.name) then x.cost + (s.cost + askR g (q + 1) s.name) else y) (by omega)
          have w8 := dI_length out2
          have hK4 := hK2.trans k4
          have w9 : j5 < n4 := by have := hK4.le; omega
          have wok : ¬ i < N := by omega
          have w10 : ¬ j5 = i := by omega
          simp (disch := first | (simp; done) | omega | (simp only [dg_length, dgi_length, List.length_cons]; omega) | rfl) [-getElem?_pos, List.getElem?_cons_zero, List.getElem?_cons_succ, hr, hr2, hf2, h23, h4, hpi, w1, w2, w3, x1, x3, x6, hk1, hk2, hk3, hrow4, dI_get hy, dI_get hoq, op_mx, maxO2, w4, lg, w6, w7, w9, hW2, wok]
          exact ⟨m2, by omega, hK4.set (by omega), t + 1, by omega, by simp, _, rfl, hB'⟩
      · rintro _ r2 ⟨H2, n3, W2⟩ hr2 ⟨rfl, hW2, hK2, hi2, out2, hrow2, hB⟩
        simp only at hW2 hK2 hi2 hrow2
        have hq2 : ((q : Int) - 1) = ((q : Int) - 1) := rfl
        have hfi := hf.inner (D' := [(6, 7), (23, 48)]) rfl (by simp) hr2
        simp (disch := first | (simp; done) | omega | (simp only [dg_length, dgi_length, List.length_cons]; omega) | rfl) [-getElem?_pos, List.getElem?_cons_zero, List.getElem?_cons_succ, hr, hr2, h4, hfi, hW2]
        exact ⟨q, by omega, hK2, hi2, rfl, by omega, out2, hrow2, hB.toA hs⟩
  · rintro _ r ⟨H, n2, W⟩ hr ⟨rfl, hW, hK, hi, hrow⟩
    simp only at hW hK hi hrow
    simp (disch := first | (simp; done) | omega | (simp only [dg_length, dgi_length, List.length_cons]; omega) | rfl) [-getElem?_pos, List.getElem?_cons_zero, List.getElem?_cons_succ, hr, Ret, hW, hK]
    exact Sl.row hi hrow (by simp [rests_len]) (fun k hk => by cases hk)

theorem critical_fn {h : T O} {N : Nat} {v : V} {g : List Stg} (hg : Gr h N v g) (hl : g.length < 1000000) (hf : FewG g) : Fn A.C 9 [v] h N (fun u h' n' => ∃ l, u = .tup [l, .int .i64 (chkGraph g : Nat)] ∧ Sl h' n' l (dI (if chkGraph g = 0 then rests g else []))) := by
  intro w
  rw [call_run, A.k9 (by simp)]
  simp (disch := first | (simp; done) | omega | (simp only [dg_length, dgi_length, List.length_cons]; omega) | rfl) [-getElem?_pos, List.getElem?_cons_zero, List.getElem?_cons_succ, A.b9]
  refine run_fn (checkGraph_fn hg hl hf) ?_
  rintro u h1 n1 k1 rfl
  by_cases hc : chkGraph g = 0
  · obtain ⟨V, hne⟩ := chkGraph_ok hc
    simp (disch := first | (simp; done) | omega | (simp only [dg_length, dgi_length, List.length_cons]; omega) | rfl) [-getElem?_pos, List.getElem?_cons_zero, List.getElem?_cons_succ, hc, eqPrim]
    refine run_fn (rests_fn (hg.keep k1) V hne (fun s hs => (hf s hs).2)) ?_
    rintro u h2 n2 k2 hu
    simp (disch := first | (simp; done) | omega | (simp only [dg_length, dgi_length, List.length_cons]; omega) | rfl) [-getElem?_pos, List.getElem?_cons_zero, List.getElem?_cons_succ, Ret]
    exact ⟨k1.trans k2, by simpa [hc] using hu⟩
  · simp (disch := first | (simp; done) | omega | (simp only [dg_length, dgi_length, List.length_cons]; omega) | rfl) [-getElem?_pos, List.getElem?_cons_zero, List.getElem?_cons_succ, hc, eqPrim, Ret]
    exact ⟨k1, Sl.nil⟩

end Go.Mx
