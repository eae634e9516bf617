/-
  lensletref09: needs, Critical; SameInts.
-/
import Derived.Test.YtgbhkladhegceaaGreatDoorRaS
set_option linter.all false
namespace Go.Mx
open Go Go.Proofs
set_option maxRecDepth 1000000
set_option linter.unusedSimpArgs false
set_option linter.unusedVariables false
def A.lb48_0 : MCode := .seq (.seq (.reg [⟨(some 8), .mov (.tmp 7), none⟩, ⟨(some 9), .mov (.tmp 0), none⟩, ⟨(some 10), .mov (.tmp 1), none⟩, ⟨(some 11), .iaddrSl 5 (.tmp 9) (.tmp 10), none⟩, ⟨(some 12), .faddr 3 (.tmp 11), none⟩, ⟨(some 13), .load none (.tmp 12), none⟩, ⟨(some 14), .len 1 (.tmp 13), none⟩, ⟨(some 15), .bin .lss (.node []) false (.tmp 8) (.tmp 14), none⟩])
 (.cond (.tmp 15)
 (.skip)
 (.exit 0)))
 (.seq (.block 1 (.seq (.regD [⟨(some 18), .mov (.tmp 0), none⟩, ⟨(some 19), .mov (.tmp 1), none⟩, ⟨(some 20), .iaddrSl 5 (.tmp 18) (.tmp 19), none⟩, ⟨(some 21), .faddr 3 (.tmp 20), none⟩, ⟨(some 22), .load none (.tmp 21), none⟩, ⟨(some 23), .mov (.tmp 7), none⟩, ⟨(some 24), .iaddrSl 1 (.tmp 22) (.tmp 23), none⟩, ⟨(some 25), .load none (.tmp 24), none⟩, ⟨(some 26), .mov (.tmp 0), none⟩, ⟨(some 27), .mov (.tmp 2), none⟩, ⟨(some 28), .iaddrSl 5 (.tmp 26) (.tmp 27), none⟩, ⟨(some 29), .faddr 0 (.tmp 28), none⟩, ⟨(some 30), .load none (.tmp 29), none⟩, ⟨(some 31), .bin .eql (.prim .str) false (.tmp 25) (.tmp 30), none⟩] [0, 0, 3, 7, 15, 0, 63, 127, 0, 0, 768, 1792, 3840, 8191])
 (.cond (.tmp 31)
 (.seq (.reg [⟨(some 6), .mov (.const (.bool true)), none⟩])
 (.ret))
 (.skip))))
 (.reg [⟨(some 16), .mov (.tmp 7), none⟩, ⟨(some 17), .bin .add (.node []) false (.tmp 16) (.const (.int .i64 1)), none⟩, ⟨(some 7), .mov (.tmp 17), none⟩]))
/-- lenslet/lensletref09.needs -/
def A.b48 : MCode := .seq (.reg [⟨(some 6), .mov (.const (.bool false)), none⟩])
 (.seq (.seq (.reg [⟨(some 7), .mov (.const (.int .i64 0)), none⟩])
 (.block 0 (.loop A.lb48_0)))
 (.seq (.reg [⟨(some 6), .mov (.const (.bool false)), none⟩])
 (.ret)))
theorem A.c48 : cFunc Tryz.prog 48 = some ⟨32, [.tmp 6], A.b48⟩ := by kernel_rfl
theorem A.k48 {K : List Kf} {Q : Rs → Prop} {f c args : List V} {st : St} (h : (f ++ args ++ c).length ≤ 32) : Run A.C K (valR (A.C.call (.func 48 f c) args st)) Q ↔ Run A.C (.fin [.tmp 6] st :: K) (exR (A.C.code none A.b48 ⟨setRegs .nil 0 (f ++ args ++ c), 32, []⟩ ⟨st.h, st.n, []⟩)) Q := run_func (A.x0 (f := 48) (by decide)) (mf := ⟨32, [.tmp 6], A.b48⟩) (by rw [A.t]; exact A.c48) h
def A.lb12_0 : MCode := .seq (.seq (.reg [⟨(some 19), .mov (.tmp 6), none⟩, ⟨(some 20), .mov (.tmp 0), none⟩, ⟨(some 21), .len 1 (.tmp 20), none⟩, ⟨(some 22), .bin .lss (.node []) false (.tmp 19) (.tmp 21), none⟩])
 (.cond (.tmp 22)
 (.skip)
 (.exit 2)))
 (.seq (.block 3 (.seq (.reg [⟨(some 25), .mov (.tmp 0), none⟩, ⟨(some 26), .mov (.tmp 6), none⟩, ⟨(some 27), .mov (.tmp 4), none⟩, ⟨(some 28), .call (.const (.func 48 [] [])) [(.tmp 25), (.tmp 26), (.tmp 27)], none⟩])
 (.cond (.tmp 28)
 (.reg [⟨(some 29), .mov (.tmp 5), none⟩, ⟨(some 30), .mov (.tmp 3), none⟩, ⟨(some 31), .mov (.tmp 6), none⟩, ⟨(some 32), .iaddrSl 1 (.tmp 30) (.tmp 31), none⟩, ⟨(some 33), .load none (.tmp 32), none⟩, ⟨(some 34), .mx [(.tmp 29), (.tmp 33)], none⟩, ⟨(some 5), .mov (.tmp 34), none⟩])
 (.skip))))
 (.reg [⟨(some 23), .mov (.tmp 6), none⟩, ⟨(some 24), .bin .add (.node []) false (.tmp 23) (.const (.int .i64 1)), none⟩, ⟨(some 6), .mov (.tmp 24), none⟩]))
def A.lb12_1 : MCode := .seq (.seq (.reg [⟨(some 13), .mov (.tmp 4), none⟩, ⟨(some 14), .bin .geq (.node []) false (.tmp 13) (.const (.int .i64 0)), none⟩])
 (.cond (.tmp 14)
 (.skip)
 (.exit 0)))
 (.seq (.block 1 (.seq (.reg [⟨(some 5), .mov (.const (.int .i64 0)), none⟩])
 (.seq (.seq (.reg [⟨(some 17), .mov (.tmp 4), none⟩, ⟨(some 18), .bin .add (.node []) false (.tmp 17) (.const (.int .i64 1)), none⟩, ⟨(some 6), .mov (.tmp 18), none⟩])
 (.block 2 (.loop A.lb12_0)))
 (.reg [⟨(some 35), .mov (.tmp 3), none⟩, ⟨(some 36), .mov (.tmp 4), none⟩, ⟨(some 37), .mov (.tmp 0), none⟩, ⟨(some 38), .mov (.tmp 4), none⟩, ⟨(some 39), .iaddrSl 5 (.tmp 37) (.tmp 38), none⟩, ⟨(some 40), .faddr 4 (.tmp 39), none⟩, ⟨(some 41), .load none (.tmp 40), none⟩, ⟨(some 42), .mov (.tmp 5), none⟩, ⟨(some 43), .bin .add (.node []) false (.tmp 41) (.tmp 42), none⟩, ⟨(some 44), .iaddrSl 1 (.tmp 35) (.tmp 36), none⟩, ⟨none, .store 1 (.tmp 44) (.tmp 43), none⟩]))))
 (.reg [⟨(some 15), .mov (.tmp 4), none⟩, ⟨(some 16), .bin .sub (.node []) false (.tmp 15) (.const (.int .i64 1)), none⟩, ⟨(some 4), .mov (.tmp 16), none⟩]))
/-- lenslet/lensletref09.Critical -/
def A.b12 : MCode := .seq (.reg [⟨(some 2), .mov (.const .nilslice), none⟩])
 (.seq (.reg [⟨(some 7), .mov (.tmp 0), none⟩, ⟨(some 8), .len 1 (.tmp 7), none⟩, ⟨(some 9), .mkslice 3 1 8 [(.int .i64 0)] (.tmp 8) (.tmp 8), none⟩, ⟨(some 3), .mov (.tmp 9), none⟩])
 (.seq (.seq (.reg [⟨(some 10), .mov (.tmp 0), none⟩, ⟨(some 11), .len 1 (.tmp 10), none⟩, ⟨(some 12), .bin .sub (.node []) false (.tmp 11) (.const (.int .i64 1)), none⟩, ⟨(some 4), .mov (.tmp 12), none⟩])
 (.block 0 (.loop A.lb12_1)))
 (.seq (.reg [⟨(some 45), .mov (.tmp 3), none⟩, ⟨(some 2), .mov (.tmp 45), none⟩])
 (.ret))))
theorem A.c12 : cFunc Tryz.prog 12 = some ⟨46, [.tmp 2], A.b12⟩ := by kernel_rfl
theorem A.k12 {K : List Kf} {Q : Rs → Prop} {f c args : List V} {st : St} (h : (f ++ args ++ c).length ≤ 46) : Run A.C K (valR (A.C.call (.func 12 f c) args st)) Q ↔ Run A.C (.fin [.tmp 2] st :: K) (exR (A.C.code none A.b12 ⟨setRegs .nil 0 (f ++ args ++ c), 46, []⟩ ⟨st.h, st.n, []⟩)) Q := run_func (A.x0 (f := 12) (by decide)) (mf := ⟨46, [.tmp 2], A.b12⟩) (by rw [A.t]; exact A.c12) h
def A.lb14_0 : MCode := .seq (.seq (.reg [⟨(some 11), .mov (.tmp 5), none⟩, ⟨(some 12), .mov (.tmp 0), none⟩, ⟨(some 13), .len 1 (.tmp 12), none⟩, ⟨(some 14), .bin .lss (.node []) false (.tmp 11) (.tmp 13), none⟩])
 (.cond (.tmp 14)
 (.skip)
 (.exit 0)))
 (.seq (.block 1 (.seq (.regD [⟨(some 17), .mov (.tmp 0), none⟩, ⟨(some 18), .mov (.tmp 5), none⟩, ⟨(some 19), .iaddrSl 1 (.tmp 17) (.tmp 18), none⟩, ⟨(some 20), .load none (.tmp 19), none⟩, ⟨(some 21), .mov (.tmp 1), none⟩, ⟨(some 22), .mov (.tmp 5), none⟩, ⟨(some 23), .iaddrSl 1 (.tmp 21) (.tmp 22), none⟩, ⟨(some 24), .load none (.tmp 23), none⟩, ⟨(some 25), .bin .neq (.prim .int) false (.tmp 20) (.tmp 24), none⟩] [0, 0, 3, 7, 0, 0, 48, 112, 255])
 (.cond (.tmp 25)
 (.seq (.reg [⟨(some 4), .mov (.const (.bool false)), none⟩])
 (.ret))
 (.skip))))
 (.reg [⟨(some 15), .mov (.tmp 5), none⟩, ⟨(some 16), .bin .add (.node []) false (.tmp 15) (.const (.int .i64 1)), none⟩, ⟨(some 5), .mov (.tmp 16), none⟩]))
/-- lenslet/lensletref01.SameInts -/
def A.b14 : MCode := .seq (.reg [⟨(some 4), .mov (.const (.bool false)), none⟩])
 (.seq (.seq (.reg [⟨(some 6), .mov (.tmp 0), none⟩, ⟨(some 7), .len 1 (.tmp 6), none⟩, ⟨(some 8), .mov (.tmp 1), none⟩, ⟨(some 9), .len 1 (.tmp 8), none⟩, ⟨(some 10), .bin .neq (.prim .int) false (.tmp 7) (.tmp 9), none⟩])
 (.cond (.tmp 10)
 (.seq (.reg [⟨(some 4), .mov (.const (.bool false)), none⟩])
 (.ret))
 (.skip)))
 (.seq (.seq (.reg [⟨(some 5), .mov (.const (.int .i64 0)), none⟩])
 (.block 0 (.loop A.lb14_0)))
 (.seq (.reg [⟨(some 4), .mov (.const (.bool true)), none⟩])
 (.ret))))
theorem A.c14 : cFunc Tryz.prog 14 = some ⟨26, [.tmp 4], A.b14⟩ := by kernel_rfl
theorem A.k14 {K : List Kf} {Q : Rs → Prop} {f c args : List V} {st : St} (h : (f ++ args ++ c).length ≤ 26) : Run A.C K (valR (A.C.call (.func 14 f c) args st)) Q ↔ Run A.C (.fin [.tmp 4] st :: K) (exR (A.C.code none A.b14 ⟨setRegs .nil 0 (f ++ args ++ c), 26, []⟩ ⟨st.h, st.n, []⟩)) Q := run_func (A.x0 (f := 14) (by decide)) (mf := ⟨26, [.tmp 4], A.b14⟩) (by rw [A.t]; exact A.c14) h

theorem rmaxO2 {k : IntKind} {a b : Int} : maxO [.int k a, .int k b] = some (.int k (if a < b then b else a)) := rfl
theorem needs_eq {h : T O} {N : Nat} {v : V} {g : List Stg} {w : List Nat} {k q : Nat} {s x : Stg} (hg : Gr h N v g) (hl : g.length < 1000000) (hs : g[k]? = some s) (hx : g[q]? = some x) (hil : s.inputs.length < 1000000) : A.C.call (.func 48 [] []) [v, .int .i64 k, .int .i64 q] ⟨h, N, w⟩ = some (.bool (decide (x.name ∈ s.inputs)), ⟨h, N, w⟩) := by
  apply Call.eq
  have lg := hg.len
  obtain ⟨i, o, cc, e, rw, inp, q1, q2, q3, q4, q5⟩ := hg.at hs
  obtain ⟨p0, p1, p2, p3, p4, p5⟩ := stg_parts q4
  obtain ⟨i', o', cc', e', rw', inp', y1, y2, y3, y4, y5⟩ := hg.at hx
  rw [q1] at y1
  simp only [Option.some.injEq, Prod.mk.injEq] at y1
  obtain ⟨rfl, rfl⟩ := y1
  rw [q3] at y3
  simp only [Option.some.injEq, O.cells.injEq] at y3
  obtain ⟨rfl, rfl, rfl⟩ := y3
  obtain ⟨u0, u1, u2, u3, u4, u5⟩ := stg_parts y4
  have lz := q5.len
  rw [strs_len] at lz
  have hk := lt_of_get hs
  have hq := lt_of_get hx
  have hk1 : (k : Int) < (g.length : Int) := by omega
  have hq1 : (q : Int) < (g.length : Int) := by omega
  rw [call_run, A.k48 (by simp)]
  simp (disch := first | (simp; done) | omega | (simp only [dg_length, dgi_length, List.length_cons]; omega) | rfl) [-getElem?_pos, List.getElem?_cons_zero, List.getElem?_cons_succ, A.b48]
  refine run_loopD [(6, 31)] (fun e r st => st = ⟨h, N, []⟩ ∧ ((e = .exit 0 ∧ x.name ∉ s.inputs) ∨ (e = .ret ∧ x.name ∈ s.inputs ∧ r.get 6 = some (.bool true)))) (fun m r st => st = ⟨h, N, []⟩ ∧ ∃ t, t + m = s.inputs.length ∧ r.get 7 = some (.int .i64 t) ∧ (x.name ∈ s.inputs ↔ x.name ∈ s.inputs.drop t)) s.inputs.length ?_ ?_ ?_
  · exact ⟨rfl, 0, by omega, by simp, by simp⟩
  · rintro m r _ hr hf ⟨rfl, t, ht, h7, hz⟩
    rw [code_run]
    cases m with
    | zero =>
      have : t = s.inputs.length := by omega
      subst this
      rw [List.drop_length] at hz
      have hz' : x.name ∉ s.inputs := fun hc => by have := hz.1 hc; simp at this
      simp (disch := first | (simp; done) | omega | (simp only [dg_length, dgi_length, List.length_cons]; omega) | rfl) [-getElem?_pos, List.getElem?_cons_zero, List.getElem?_cons_succ, A.lb48_0, hr, hf, h7, hk1, hk, lg, q1, q3, p4, lz, hz']
    | succ m =>
      have hlt : t < s.inputs.length := by omega
      have hlt' : (t : Int) < (s.inputs.length : Int) := by omega
      obtain ⟨n, hn⟩ := get_of_lt hlt
      obtain ⟨b1, b2, b3, b4, b5, z1, z2, z3, z4⟩ := q5.at (strs_get hn)
      rw [get_drop_cons hn, List.mem_cons] at hz
      have e1 : (n == x.name) = decide (n = x.name) := by rw [Bool.eq_iff_iff]; simp
      by_cases hc : n = x.name
      · have hz' : x.name ∈ s.inputs := hz.2 (.inl hc.symm)
        simp (disch := first | (simp; done) | omega | (simp only [dg_length, dgi_length, List.length_cons]; omega) | rfl) [-getElem?_pos, List.getElem?_cons_zero, List.getElem?_cons_succ, A.lb48_0, hr, hf, h7, hk1, hk, hq1, hq, lg, q1, q3, p4, lz, hlt, hlt', z1, z2, z3, z4, q2, u1, eqPrim, e1, hc, hz']
      · have hc' : ¬ x.name = n := fun h => hc h.symm
        simp (disch := first | (simp; done) | omega | (simp only [dg_length, dgi_length, List.length_cons]; omega) | rfl) [-getElem?_pos, List.getElem?_cons_zero, List.getElem?_cons_succ, A.lb48_0, hr, hf, h7, hk1, hk, hq1, hq, lg, q1, q3, p4, lz, hlt, hlt', z1, z2, z3, z4, q2, u1, eqPrim, e1, hc]
        exact ⟨m, by omega, t + 1, by omega, by simp, by rw [hz]; simp [hc']⟩
  · rintro e r _ hr ⟨rfl, ⟨rfl, hp⟩ | ⟨rfl, hp, h6⟩⟩
    · simp (disch := first | (simp; done) | omega | (simp only [dg_length, dgi_length, List.length_cons]; omega) | rfl) [-getElem?_pos, List.getElem?_cons_zero, List.getElem?_cons_succ, hr, hp]
    · simp (disch := first | (simp; done) | omega | (simp only [dg_length, dgi_length, List.length_cons]; omega) | rfl) [-getElem?_pos, List.getElem?_cons_zero, List.getElem?_cons_succ, hr, hp, h6]

theorem sameInts_eq {h : T O} {N : Nat} {u v : V} {a b : List Int} {w : List Nat} (hu : Sl h N u (dI a)) (hv : Sl h N v (dI b)) (hab : a = b) (hl : a.length < 1000000) : A.C.call (.func 14 [] []) [u, v] ⟨h, N, w⟩ = some (.bool true, ⟨h, N, w⟩) := by
  subst hab
  apply Call.eq
  have lu := hu.len
  have lv := hv.len
  rw [dI_length] at lu lv
  rw [call_run, A.k14 (by simp)]
  simp (disch := first | (simp; done) | omega | (simp only [dg_length, dgi_length, List.length_cons]; omega) | rfl) [-getElem?_pos, List.getElem?_cons_zero, List.getElem?_cons_succ, A.b14, lu, lv, eqPrim]
  refine run_loopD [(4, 5), (11, 25)] (fun e r st => st = ⟨h, N, []⟩ ∧ e = .exit 0) (fun m r st => st = ⟨h, N, []⟩ ∧ ∃ t, t + m = a.length ∧ r.get 5 = some (.int .i64 t)) a.length ?_ ?_ ?_
  · exact ⟨rfl, 0, by omega, by simp⟩
  · rintro m r _ hr hf ⟨rfl, t, ht, h5⟩
    rw [code_run]
    cases m with
    | zero =>
      have : t = a.length := by omega
      subst this
      simp (disch := first | (simp; done) | omega | (simp only [dg_length, dgi_length, List.length_cons]; omega) | rfl) [-getElem?_pos, List.getElem?_cons_zero, List.getElem?_cons_succ, A.lb14_0, hr, hf, h5, lu]
    | succ m =>
      have hlt : t < a.length := by omega
      have hlt' : (t : Int) < (a.length : Int) := by omega
      obtain ⟨n, hn⟩ := get_of_lt hlt
      obtain ⟨b1, b2, b3, b4, b5, z1, z2, z3, z4⟩ := hu.at (dI_get hn)
      obtain ⟨c1, c2, c3, c4, c5, y1, y2, y3, y4⟩ := hv.at (dI_get hn)
      simp (disch := first | (simp; done) | omega | (simp only [dg_length, dgi_length, List.length_cons]; omega) | rfl) [-getElem?_pos, List.getElem?_cons_zero, List.getElem?_cons_succ, A.lb14_0, hr, hf, h5, lu, lv, hlt, hlt', z1, z2, z3, z4, y1, y2, y3, y4, eqPrim]
      exact ⟨m, by omega, t + 1, by omega, by simp⟩
  · rintro e r _ hr ⟨rfl, rfl⟩
    simp (disch := first | (simp; done) | omega | (simp only [dg_length, dgi_length, List.length_cons]; omega) | rfl) [-getElem?_pos, List.getElem?_cons_zero, List.getElem?_cons_succ, hr]

/-- What stands in the list when the stages from k on are done. -/
def RcA (g : List Stg) (k : Nat) (out : List Int) : Prop := out.length = g.length ∧ ∀ j, k ≤ j → out[j]? = (rests g)[j]?
theorem rcritical_fn {h : T O} {N : Nat} {v : V} {g : List Stg} (hg : Gr h N v g) (G : ValidG g) (hin : ∀ s ∈ g, s.inputs.length < 1000000) : Fn A.C 12 [v] h N (fun u h' n' => Sl h' n' u (dI (rests g))) := by
  intro w
  have lg := hg.len
  have hle := G.le
  rw [call_run, A.k12 (by simp)]
  simp (disch := first | (simp; done) | omega | (simp only [dg_length, dgi_length, List.length_cons]; omega) | rfl) [-getElem?_pos, List.getElem?_cons_zero, List.getElem?_cons_succ, A.b12, lg]
  refine run_loopD [(4, 6), (13, 44)] (fun e r st => e = .exit 0 ∧ oldIds N st.w = [] ∧ Keeps h N st.h st.n ∧ N < st.n ∧ st.h.get N = some (.cells (dI (rests g)) 3 true)) (fun m r st => oldIds N st.w = [] ∧ Keeps h N st.h st.n ∧ N < st.n ∧ r.get 4 = some (.int .i64 ((m : Int) - 1)) ∧ m ≤ g.length ∧ ∃ out, st.h.get N = some (.cells (dI out) 3 true) ∧ RcA g m out) g.length ?_ ?_ ?_
  · exact ⟨by simp, Keeps.refl.new _, by show N < N + 1; omega, by simp, Nat.le_refl _, List.replicate g.length 0, by simp [dI_zeros], by simp, fun j hj => by rw [List.getElem?_eq_none (by simp; omega), List.getElem?_eq_none (by rw [rests_len]; omega)]⟩
  · rintro m r ⟨H, n2, W⟩ hr hf ⟨hW, hK, hN, h4, hm, out, hrow, hA⟩
    simp only at hW hK hN hrow
    rw [code_run]
    cases m with
    | zero =>
      have : out = rests g := List.ext_getElem? fun j => hA.2 j (Nat.zero_le _)
      subst this
      simp (disch := first | (simp; done) | omega | (simp only [dg_length, dgi_length, List.length_cons]; omega) | rfl) [-getElem?_pos, List.getElem?_cons_zero, List.getElem?_cons_succ, A.lb12_1, hr, hf, h4, hW, hK]
      exact ⟨hN, hrow⟩
    | succ q =>
      obtain ⟨s, hs⟩ := get_of_lt (l := g) (k := q) (by omega)
      have hk1 : (q : Int) < (g.length : Int) := by omega
      have hk2 : q < g.length := by omega
      have hk3 : (0 : Int) ≤ (q : Int) := by omega
      have hq1 : (((q + 1 : Nat) : Int) - 1) = (q : Int) := by omega
      rw [hq1] at h4
      simp (disch := first | (simp; done) | omega | (simp only [dg_length, dgi_length, List.length_cons]; omega) | rfl) [-getElem?_pos, List.getElem?_cons_zero, List.getElem?_cons_succ, A.lb12_1, hr, hf, h4, hk1, hk2, hk3, lg]
      have ab := askR_bound G (q + 1) s.name
      have an := askR_nn g (q + 1) s.name
      refine run_loopD [(5, 6), (19, 34)] (fun e r st => e = .exit 2 ∧ st = ⟨H, n2, W⟩ ∧ r.get 5 = some (.int .i64 (askR g (q + 1) s.name))) (fun m r st => st = ⟨H, n2, W⟩ ∧ ∃ t rest, t + m = g.length ∧ q < t ∧ r.get 6 = some (.int .i64 t) ∧ r.get 5 = some (.int .i64 rest) ∧ 0 ≤ rest ∧ max rest (askR g t s.name) = askR g (q + 1) s.name) (g.length - (q + 1)) ?_ ?_ ?_
      · exact ⟨rfl, q + 1, 0, by omega, by omega, by simp, by simp, by omega, by omega⟩
      · rintro m2 r2 _ hr2 hf2 ⟨rfl, t, rest, ht, hqt, h6, h5, hr0, hmx⟩
        rw [code_run]
        cases m2 with
        | zero =>
          have : t = g.length := by omega
          subst this
          rw [askR_end] at hmx
          have : rest = askR g (q + 1) s.name := by omega
          simp (disch := first | (simp; done) | omega | (simp only [dg_length, dgi_length, List.length_cons]; omega) | rfl) [-getElem?_pos, List.getElem?_cons_zero, List.getElem?_cons_succ, A.lb12_0, hr, hr2, hf2, h6, lg]
          rw [← this]; exact h5
        | succ m2 =>
          have htl : t < g.length := by omega
          have htl' : (t : Int) < (g.length : Int) := by omega
          obtain ⟨x, hx⟩ := get_of_lt htl
          have hrx := rests_ask hx
          have hox := hA.2 t (by omega)
          rw [hrx] at hox
          rw [askR_step hx hrx] at hmx
          have hne := needs_eq (w := W) (hg.keep hK) (by omega) hx hs (hin x (List.mem_of_getElem? hx))
          by_cases hmem : s.name ∈ x.inputs
          · rw [if_pos hmem] at hmx
            simp (disch := first | (simp; done) | omega | (simp only [dg_length, dgi_length, List.length_cons]; omega) | rfl) [-getElem?_pos, List.getElem?_cons_zero, List.getElem?_cons_succ, A.lb12_0, hr, hr2, hf2, h6, h5, htl, htl', lg, hne, hmem, hrow, dI_get hox, h4, op_mx, rmaxO2, hA.1]
            exact ⟨m2, by omega, t + 1, by omega, by omega, by simp, by split <;> omega, by split <;> omega⟩
          · rw [if_neg hmem] at hmx
            simp (disch := first | (simp; done) | omega | (simp only [dg_length, dgi_length, List.length_cons]; omega) | rfl) [-getElem?_pos, List.getElem?_cons_zero, List.getElem?_cons_succ, A.lb12_0, hr, hr2, hf2, h6, h5, htl, htl', lg, hne, hmem, h4]
            exact ⟨m2, by omega, t + 1, by omega, by omega, by simp, hr0, hmx⟩
      · rintro _ r2 _ hr2 ⟨rfl, rfl, h5⟩
        obtain ⟨i, o, cc, e, rw, inp, q1, q2, q3, q4, q5⟩ := hg.at hs
        obtain ⟨p0, p1, p2, p3, p4, p5⟩ := stg_parts q4
        have q3 := (hK.get _ q2).trans q3
        have hfi := hf.inner (D' := [(5, 6), (19, 34)]) rfl (by simp) hr2
        have c1 := G.cost s (List.mem_of_getElem? hs)
        have w4 : wrapF .i64 (s.cost + askR g (q + 1) s.name) = s.cost + askR g (q + 1) s.name := wrapF_i64 (by omega) (by omega)
        have w7 := dI_set (l := out) (k := q) (v := s.cost + askR g (q + 1) s.name) (by rw [hA.1]; omega)
        have w8 := dI_length out
        have w9 := hA.1
        simp (disch := first | (simp; done) | omega | (simp only [dg_length, dgi_length, List.length_cons]; omega) | rfl) [-getElem?_pos, List.getElem?_cons_zero, List.getElem?_cons_succ, hr, hr2, h4, h5, hfi, hk1, hk2, hk3, lg, q1, q3, p5, hrow, w4, w7, hW]
        refine ⟨q, by omega, hK.set (Nat.le_refl N), hN, rfl, by omega, _, rfl, by simp [hA.1], fun j hj => ?_⟩
        by_cases hjq : j = q
        · subst hjq
          rw [List.getElem?_set_self (by rw [hA.1]; omega), rests_ask hs]
        · rw [List.getElem?_set_ne (fun h => hjq h.symm)]
          exact hA.2 j (by omega)
  · rintro _ r ⟨H, n2, W⟩ hr ⟨rfl, hW, hK, hN, hrow⟩
    simp only at hW hK hN hrow
    simp (disch := first | (simp; done) | omega | (simp only [dg_length, dgi_length, List.length_cons]; omega) | rfl) [-getElem?_pos, List.getElem?_cons_zero, List.getElem?_cons_succ, hr, Ret, hW, hK]
    exact Sl.row hN hrow (by simp [rests_len]) (fun k hk => by cases hk; omega)

end Go.Mx
