/-
  lensletref09.checkStage, CheckGraph.
-/
import Derived.Test.YtgbhkladhegceaaGreatDoorRaN
import Derived.Test.YtgbhkladhegceaaGreatDoorRbK
import Derived.Test.YtgbhkladhegceaaGreatDoorMxGr
set_option linter.all false
namespace Go.Mx
open Go Go.Proofs
set_option maxRecDepth 1000000
set_option linter.unusedSimpArgs false
set_option linter.unusedVariables false
def A.lb47_0 : MCode := .seq (.seq (.reg [⟨(some 52), .mov (.tmp 8), none⟩, ⟨(some 53), .faddr 3 (.tmp 3), none⟩, ⟨(some 54), .load none (.tmp 53), none⟩, ⟨(some 55), .len 1 (.tmp 54), none⟩, ⟨(some 56), .bin .lss (.node []) false (.tmp 52) (.tmp 55), none⟩])
 (.cond (.tmp 56)
 (.skip)
 (.exit 0)))
 (.seq (.block 1 (.seq (.reg [⟨(some 59), .mov (.tmp 0), none⟩, ⟨(some 60), .faddr 3 (.tmp 3), none⟩, ⟨(some 61), .load none (.tmp 60), none⟩, ⟨(some 62), .mov (.tmp 8), none⟩, ⟨(some 63), .iaddrSl 1 (.tmp 61) (.tmp 62), none⟩, ⟨(some 64), .load none (.tmp 63), none⟩, ⟨(some 65), .call (.const (.func 20 [] [])) [(.tmp 59), (.tmp 64)], none⟩, ⟨(some 66), .bin .lss (.node []) false (.tmp 65) (.const (.int .i64 0)), none⟩])
 (.cond (.tmp 66)
 (.seq (.reg [⟨(some 4), .mov (.const (.int .i64 10)), none⟩])
 (.ret))
 (.skip))))
 (.reg [⟨(some 57), .mov (.tmp 8), none⟩, ⟨(some 58), .bin .add (.node []) false (.tmp 57) (.const (.int .i64 1)), none⟩, ⟨(some 8), .mov (.tmp 58), none⟩]))
/-- lenslet/lensletref09.checkStage -/
def A.b47 : MCode := .seq (.reg [⟨(some 3), .box 57 (.tmp 1), none⟩, ⟨(some 4), .mov (.const (.int .i64 0)), none⟩])
 (.seq (.seq (.reg [⟨(some 9), .faddr 0 (.tmp 3), none⟩, ⟨(some 10), .load none (.tmp 9), none⟩, ⟨(some 11), .call (.const (.func 88 [] [])) [(.tmp 10)], none⟩, ⟨(some 12), .un .not (.tmp 11), none⟩])
 (.cond (.tmp 12)
 (.seq (.reg [⟨(some 4), .mov (.const (.int .i64 8)), none⟩])
 (.ret))
 (.skip)))
 (.seq (.seq (.reg [⟨(some 13), .mov (.tmp 0), none⟩, ⟨(some 14), .faddr 0 (.tmp 3), none⟩, ⟨(some 15), .load none (.tmp 14), none⟩, ⟨(some 16), .call (.const (.func 20 [] [])) [(.tmp 13), (.tmp 15)], none⟩, ⟨(some 17), .bin .geq (.node []) false (.tmp 16) (.const (.int .i64 0)), none⟩])
 (.cond (.tmp 17)
 (.seq (.reg [⟨(some 4), .mov (.const (.int .i64 9)), none⟩])
 (.ret))
 (.skip)))
 (.seq (.reg [⟨(some 19), .faddr 1 (.tmp 3), none⟩, ⟨(some 20), .load none (.tmp 19), none⟩, ⟨(some 21), .faddr 3 (.tmp 3), none⟩, ⟨(some 22), .load none (.tmp 21), none⟩, ⟨(some 23), .len 1 (.tmp 22), none⟩, ⟨(some 24), .call (.const (.func 89 [] [])) [(.tmp 20), (.tmp 23)], none⟩, ⟨(some 18), .mov (.tmp 24), none⟩, ⟨(some 25), .extract (.tmp 18) 0, none⟩, ⟨(some 26), .extract (.tmp 18) 1, none⟩, ⟨(some 5), .mov (.tmp 25), none⟩, ⟨(some 6), .mov (.tmp 26), none⟩])
 (.seq (.seq (.reg [⟨(some 27), .mov (.tmp 5), none⟩, ⟨(some 28), .un .not (.tmp 27), none⟩])
 (.cond (.tmp 28)
 (.seq (.reg [⟨(some 4), .mov (.const (.int .i64 13)), none⟩])
 (.ret))
 (.skip)))
 (.seq (.seq (.reg [⟨(some 29), .faddr 1 (.tmp 3), none⟩, ⟨(some 30), .load none (.tmp 29), none⟩, ⟨(some 31), .bin .eql (.prim .str) true (.tmp 30) (.const (.str [115, 99, 97, 108, 101])), none⟩, ⟨(some 32), .mov (.tmp 31), none⟩, ⟨(some 33), .faddr 1 (.tmp 3), (some (32, false))⟩, ⟨(some 34), .load none (.tmp 33), (some (32, false))⟩, ⟨(some 35), .bin .eql (.prim .str) true (.tmp 34) (.const (.str [115, 117, 109])), (some (32, false))⟩, ⟨(some 36), .pick (.tmp 32) (.const (.bool true)) (.tmp 35), none⟩])
 (.cond (.tmp 36)
 (.seq (.reg [⟨(some 37), .faddr 2 (.tmp 3), none⟩, ⟨(some 38), .load none (.tmp 37), none⟩, ⟨(some 39), .call (.const (.func 54 [] [])) [(.tmp 38)], none⟩, ⟨(some 7), .mov (.tmp 39), none⟩])
 (.seq (.reg [⟨(some 40), .mov (.tmp 7), none⟩, ⟨(some 41), .bin .neq (.prim .int) true (.tmp 40) (.const (.int .i64 0)), none⟩])
 (.cond (.tmp 41)
 (.seq (.reg [⟨(some 42), .mov (.tmp 7), none⟩, ⟨(some 4), .mov (.tmp 42), none⟩])
 (.ret))
 (.skip))))
 (.seq (.reg [⟨(some 43), .faddr 2 (.tmp 3), none⟩, ⟨(some 44), .load none (.tmp 43), none⟩, ⟨(some 45), .bin .neq (.prim .str) true (.tmp 44) (.const (.str [])), none⟩])
 (.cond (.tmp 45)
 (.seq (.reg [⟨(some 4), .mov (.const (.int .i64 1)), none⟩])
 (.ret))
 (.skip)))))
 (.seq (.seq (.reg [⟨(some 46), .faddr 3 (.tmp 3), none⟩, ⟨(some 47), .load none (.tmp 46), none⟩, ⟨(some 48), .len 1 (.tmp 47), none⟩, ⟨(some 49), .bin .gtr (.node []) false (.tmp 48) (.const (.int .i64 16)), none⟩])
 (.cond (.tmp 49)
 (.seq (.reg [⟨(some 4), .mov (.const (.int .i64 5)), none⟩])
 (.ret))
 (.skip)))
 (.seq (.seq (.reg [⟨(some 50), .mov (.tmp 6), none⟩, ⟨(some 51), .un .not (.tmp 50), none⟩])
 (.cond (.tmp 51)
 (.seq (.reg [⟨(some 4), .mov (.const (.int .i64 2)), none⟩])
 (.ret))
 (.skip)))
 (.seq (.seq (.reg [⟨(some 8), .mov (.const (.int .i64 0)), none⟩])
 (.block 0 (.loop A.lb47_0)))
 (.seq (.reg [⟨(some 67), .faddr 4 (.tmp 3), none⟩, ⟨(some 68), .load none (.tmp 67), none⟩, ⟨(some 69), .call (.const (.func 53 [] [])) [(.tmp 68), (.const (.int .i64 1)), (.const (.int .i64 1000))], none⟩, ⟨(some 4), .mov (.tmp 69), none⟩])
 (.ret))))))))))
theorem A.c47 : cFunc Tryz.prog 47 = some ⟨70, [.tmp 4], A.b47⟩ := by kernel_rfl
theorem A.k47 {K : List Kf} {Q : Rs → Prop} {f c args : List V} {st : St} (h : (f ++ args ++ c).length ≤ 70) : Run A.C K (valR (A.C.call (.func 47 f c) args st)) Q ↔ Run A.C (.fin [.tmp 4] st :: K) (exR (A.C.code none A.b47 ⟨setRegs .nil 0 (f ++ args ++ c), 70, []⟩ ⟨st.h, st.n, []⟩)) Q := run_func (A.x0 (f := 47) (by decide)) (mf := ⟨70, [.tmp 4], A.b47⟩) (by rw [A.t]; exact A.c47) h
def A.lb11_0 : MCode := .seq (.seq (.reg [⟨(some 11), .mov (.tmp 3), none⟩, ⟨(some 12), .mov (.tmp 0), none⟩, ⟨(some 13), .len 1 (.tmp 12), none⟩, ⟨(some 14), .bin .lss (.node []) false (.tmp 11) (.tmp 13), none⟩])
 (.cond (.tmp 14)
 (.skip)
 (.exit 0)))
 (.seq (.block 1 (.seq (.regD [⟨(some 17), .mov (.tmp 0), none⟩, ⟨(some 18), .mov (.tmp 3), none⟩, ⟨(some 19), .sliceSl 5 (.tmp 17) none (some (.tmp 18)) none, none⟩, ⟨(some 20), .mov (.tmp 0), none⟩, ⟨(some 21), .mov (.tmp 3), none⟩, ⟨(some 22), .iaddrSl 5 (.tmp 20) (.tmp 21), none⟩, ⟨(some 23), .load (some 5) (.tmp 22), none⟩, ⟨(some 24), .call (.const (.func 47 [] [])) [(.tmp 19), (.tmp 23)], none⟩, ⟨(some 4), .mov (.tmp 24), none⟩] [0, 0, 3, 0, 0, 24, 56, 127, 255])
 (.seq (.reg [⟨(some 25), .mov (.tmp 4), none⟩, ⟨(some 26), .bin .neq (.prim .int) true (.tmp 25) (.const (.int .i64 0)), none⟩])
 (.cond (.tmp 26)
 (.seq (.reg [⟨(some 27), .mov (.tmp 4), none⟩, ⟨(some 2), .mov (.tmp 27), none⟩])
 (.ret))
 (.skip)))))
 (.reg [⟨(some 15), .mov (.tmp 3), none⟩, ⟨(some 16), .bin .add (.node []) false (.tmp 15) (.const (.int .i64 1)), none⟩, ⟨(some 3), .mov (.tmp 16), none⟩]))
/-- lenslet/lensletref09.CheckGraph -/
def A.b11 : MCode := .seq (.reg [⟨(some 2), .mov (.const (.int .i64 0)), none⟩])
 (.seq (.seq (.reg [⟨(some 5), .mov (.tmp 0), none⟩, ⟨(some 6), .len 1 (.tmp 5), none⟩, ⟨(some 7), .bin .eql (.prim .int) true (.tmp 6) (.const (.int .i64 0)), none⟩])
 (.cond (.tmp 7)
 (.seq (.reg [⟨(some 2), .mov (.const (.int .i64 12)), none⟩])
 (.ret))
 (.skip)))
 (.seq (.seq (.reg [⟨(some 8), .mov (.tmp 0), none⟩, ⟨(some 9), .len 1 (.tmp 8), none⟩, ⟨(some 10), .bin .gtr (.node []) false (.tmp 9) (.const (.int .i64 16)), none⟩])
 (.cond (.tmp 10)
 (.seq (.reg [⟨(some 2), .mov (.const (.int .i64 5)), none⟩])
 (.ret))
 (.skip)))
 (.seq (.seq (.reg [⟨(some 3), .mov (.const (.int .i64 0)), none⟩])
 (.block 0 (.loop A.lb11_0)))
 (.seq (.reg [⟨(some 2), .mov (.const (.int .i64 0)), none⟩])
 (.ret)))))
theorem A.c11 : cFunc Tryz.prog 11 = some ⟨28, [.tmp 2], A.b11⟩ := by kernel_rfl
theorem A.k11 {K : List Kf} {Q : Rs → Prop} {f c args : List V} {st : St} (h : (f ++ args ++ c).length ≤ 28) : Run A.C K (valR (A.C.call (.func 11 f c) args st)) Q ↔ Run A.C (.fin [.tmp 2] st :: K) (exR (A.C.code none A.b11 ⟨setRegs .nil 0 (f ++ args ++ c), 28, []⟩ ⟨st.h, st.n, []⟩)) Q := run_func (A.x0 (f := 11) (by decide)) (mf := ⟨28, [.tmp 2], A.b11⟩) (by rw [A.t]; exact A.c11) h

theorem opOf_factor {s : Str} {o : Opn} (h : opOf s = some o) : o.factor = true ↔ (s = [115, 99, 97, 108, 101] ∨ s = [115, 117, 109]) := by
  unfold opOf at h
  repeat' (split at h)
  all_goals first | (cases h; done) | (obtain rfl := Option.some.inj h; simp_all)
def RstP (h : T O) (N : Nat) (g : List Stg) (s : Stg) (inp : V) (e : Ex) (r : T V) (st : St) : Prop := oldIds N st.w = [] ∧ Keeps h N st.h st.n ∧ N < st.n ∧ st.h.get N = some (.cells (stgC s inp) 57 true) ∧ ((e = .exit 0 ∧ s.inputs.any (fun n => decide (g.length ≤ pos g n)) = false) ∨ (e = .ret ∧ s.inputs.any (fun n => decide (g.length ≤ pos g n)) = true ∧ r.get 4 = some (.int .i64 10)))
def RstI (h : T O) (N : Nat) (g : List Stg) (s : Stg) (inp : V) (m : Nat) (r : T V) (st : St) : Prop := oldIds N st.w = [] ∧ Keeps h N st.h st.n ∧ N < st.n ∧ st.h.get N = some (.cells (stgC s inp) 57 true) ∧ ∃ k, k + m = s.inputs.length ∧ r.get 8 = some (.int .i64 k) ∧ s.inputs.any (fun n => decide (g.length ≤ pos g n)) = (s.inputs.drop k).any (fun n => decide (g.length ≤ pos g n))
theorem rstage_loop {h : T O} {N : Nat} {v inp : V} {g : List Stg} {s : Stg} (hg : Gr h N v g) (hl : g.length < 1000000) (hi : Sl h N inp (strs s.inputs)) (hil : s.inputs.length < 1000000) {r0 : T V} (a0 : r0.get 0 = some v) (a3 : r0.get 3 = some (.ptr N 0)) :
    ∀ k r st, (∀ t, inD [(4, 4), (8, 8), (52, 66)] t = false → r.get t = r0.get t) → Fx [(4, 4), (8, 8), (52, 66)] r0 70 ⟨r, 70, []⟩ → RstI h N g s inp k r st → Code A.C none A.lb47_0 ⟨r, 70, []⟩ st (Rd [(4, 4), (8, 8), (52, 66)] r0 70 (RstI h N g s inp) k (RstP h N g s inp)) := by
  rintro m r ⟨H, n1, W⟩ hr hf ⟨hW, hK, hN, hrow, k, hk, h8, hz⟩
  simp only at hW hK hN hrow
  rw [code_run]
  have lz := hi.len
  rw [strs_len] at lz
  have c3 : H.get N = some (.cells [.str s.name, .str s.op, .str s.factor, inp, .int .i64 s.cost] 57 true) := hrow
  cases m with
  | zero =>
    have : k = s.inputs.length := by omega
    subst this
    rw [List.drop_length] at hz
    simp (disch := first | (simp; done) | omega | (simp only [dg_length, dgi_length, List.length_cons]; omega) | rfl) [-getElem?_pos, List.getElem?_cons_zero, List.getElem?_cons_succ, A.lb47_0, hr, hf, a0, a3, h8, c3, lz]
    exact ⟨hW, hK, hN, hrow, .inl ⟨rfl, hz⟩⟩
  | succ m =>
    have hlt : k < s.inputs.length := by omega
    have hlt' : (k : Int) < (s.inputs.length : Int) := by omega
    obtain ⟨n, hn⟩ := get_of_lt hlt
    obtain ⟨b1, b2, b3, b4, b5, z1, z2, z3, z4⟩ := hi.at (strs_get hn)
    have z3 := (hK.get _ z2).trans z3
    rw [get_drop_cons hn, List.any_cons] at hz
    have hat := fun w => at_eq (n := n) (w := w) (hg.keep hK) hl
    by_cases hp : g.length ≤ pos g n
    · have p1 : posI g n < 0 := by unfold posI; rw [if_neg (by omega)]; omega
      rw [decide_eq_true hp, Bool.true_or] at hz
      simp (disch := first | (simp; done) | omega | (simp only [dg_length, dgi_length, List.length_cons]; omega) | rfl) [-getElem?_pos, List.getElem?_cons_zero, List.getElem?_cons_succ, A.lb47_0, hr, hf, a0, a3, h8, c3, lz, hlt, hlt', z1, z3, z4, hat, p1]
      exact ⟨hW, hK, hN, hrow, .inr ⟨rfl, hz, by simp⟩⟩
    · have p1 : ¬ posI g n < 0 := by unfold posI; rw [if_pos (by omega)]; omega
      rw [decide_eq_false hp, Bool.false_or] at hz
      simp (disch := first | (simp; done) | omega | (simp only [dg_length, dgi_length, List.length_cons]; omega) | rfl) [-getElem?_pos, List.getElem?_cons_zero, List.getElem?_cons_succ, A.lb47_0, hr, hf, a0, a3, h8, c3, lz, hlt, hlt', z1, z3, z4, hat, p1]
      exact ⟨m, by omega, hW, hK, hN, hrow, k + 1, by omega, by simp, hz⟩
theorem rstage_fn {h : T O} {N : Nat} {v inp : V} {g : List Stg} {s : Stg} (hg : Gr h N v g) (hl : g.length < 1000000) (hi : Sl h N inp (strs s.inputs)) (hil : s.inputs.length < 1000000) (hf : s.factor.length ≤ 20) : Fn A.C 47 [v, .agg (stgC s inp)] h N (fun u _ _ => u = .int .i64 (chkStage g s : Nat)) := by
  intro w
  rw [call_run, A.k47 (by simp)]
  have hio := hi.form.one
  unfold V.one at hio
  have k0 := (Keeps.refl (h := h) (n := N)).new (.cells (stgC s inp) 57 true)
  unfold stgC at k0
  have lz := hi.len
  rw [strs_len] at lz
  have hat := fun n w => at_eq (n := n) (w := w) (hg.keep k0) hl
  unfold chkStage
  by_cases c1 : isName s.name = true
  · by_cases c2 : pos g s.name < g.length
    · have p2 : (0 : Int) ≤ posI g s.name := by unfold posI; rw [if_pos c2]; omega
      simp (disch := first | (simp; done) | omega | (simp only [dg_length, dgi_length, List.length_cons]; omega) | rfl) [-getElem?_pos, List.getElem?_cons_zero, List.getElem?_cons_succ, A.b47, stgC, hio, rIsName_eq, c1, hat, p2, Ret, c2]
      exact k0
    · have p2 : ¬ (0 : Int) ≤ posI g s.name := by unfold posI; rw [if_neg c2]; omega
      obtain ⟨b, hb, hb2⟩ := shaped_eq s.op s.inputs.length
      cases ho : opOf s.op with
      | none =>
        rw [ho] at hb
        simp (disch := first | (simp; done) | omega | (simp only [dg_length, dgi_length, List.length_cons]; omega) | rfl) [-getElem?_pos, List.getElem?_cons_zero, List.getElem?_cons_succ, A.b47, stgC, hio, rIsName_eq, c1, hat, p2, Ret, c2, lz, hb, ho]
        exact k0
      | some o =>
        rw [ho] at hb
        have hof := opOf_factor ho
        by_cases hfa : o.factor = true
        · have hsc : s.op = [115, 99, 97, 108, 101] ∨ s.op = [115, 117, 109] := hof.1 hfa
          have e1 : (s.op == [115, 99, 97, 108, 101]) = true ∨ ((s.op == [115, 99, 97, 108, 101]) = false ∧ (s.op == [115, 117, 109]) = true) := by
            rcases hsc with hsc | hsc
            · exact .inl (by rw [hsc]; rfl)
            · exact .inr ⟨by rw [hsc]; rfl, by rw [hsc]; rfl⟩
          clear hsc
          rcases e1 with e1 | ⟨e1, e2⟩
          all_goals
            first | simp (disch := first | (simp; done) | omega | (simp only [dg_length, dgi_length, List.length_cons]; omega) | rfl) [-getElem?_pos, List.getElem?_cons_zero, List.getElem?_cons_succ, A.b47, stgC, hio, rIsName_eq, c1, hat, p2, c2, lz, hb, ho, eqPrim, e1, e2] | simp (disch := first | (simp; done) | omega | (simp only [dg_length, dgi_length, List.length_cons]; omega) | rfl) [-getElem?_pos, List.getElem?_cons_zero, List.getElem?_cons_succ, A.b47, stgC, hio, rIsName_eq, c1, hat, p2, c2, lz, hb, ho, eqPrim, e1]
            refine run_fn (rcheck_fn (by omega)) ?_
            rintro u h2 n2 k2 rfl
            have kle2 := k2.le
            have kk := k0.trans k2
            have r2 := k2.get N (by omega)
            simp at r2
            by_cases c4 : chkNum s.factor = 0
            · have c4' : facErr o s.factor = 0 := by simp [facErr, hfa, c4]
              by_cases c5 : 16 < s.inputs.length
              · have c5' : 16 < (s.inputs.length : Int) := by omega
                simp (disch := first | (simp; done) | omega | (simp only [dg_length, dgi_length, List.length_cons]; omega) | rfl) [-getElem?_pos, List.getElem?_cons_zero, List.getElem?_cons_succ, r2, eqPrim, c4, c5, c5', lz, Ret, c4']
                exact kk
              · have c5' : ¬ 16 < (s.inputs.length : Int) := by omega
                have hbv := hb2 (by omega) o ho
                by_cases c6 : o.lo ≤ s.inputs.length ∧ s.inputs.length ≤ o.hi
                · have c6' : ¬ (s.inputs.length < o.lo ∨ o.hi < s.inputs.length) := by omega
                  rw [decide_eq_true c6] at hbv
                  subst hbv
                  simp (disch := first | (simp; done) | omega | (simp only [dg_length, dgi_length, List.length_cons]; omega) | rfl) [-getElem?_pos, List.getElem?_cons_zero, List.getElem?_cons_succ, r2, eqPrim, c4, c5, c5', lz]
                  refine run_loopD [(4, 4), (8, 8), (52, 66)] (RstP h N g s inp) (RstI h N g s inp) s.inputs.length ?_ ?_ ?_
                  · exact ⟨by simp, kk, by show N < n2; omega, by rw [stgC]; exact r2, 0, by omega, by simp, by simp⟩
                  · exact rstage_loop hg hl hi hil (by simp) (by simp)
                  · rintro e r ⟨H, n3, W⟩ hr ⟨hW, hK, hN, hrow, ⟨rfl, hz⟩ | ⟨rfl, hz, h4⟩⟩
                    · simp only at hW hK hN hrow
                      unfold stgC at hrow
                      have hz' : ¬ ∃ x, x ∈ s.inputs ∧ g.length ≤ pos g x := by simpa using hz
                      simp (disch := first | (simp; done) | omega | (simp only [dg_length, dgi_length, List.length_cons]; omega) | rfl) [-getElem?_pos, List.getElem?_cons_zero, List.getElem?_cons_succ, hr, hrow, rwithin_eq, Ret, hW, hK, c5, c6', hz', c4']
                      split <;> rfl
                    · simp only at hW hK hN hrow
                      have hz' : ∃ x, x ∈ s.inputs ∧ g.length ≤ pos g x := by simpa using hz
                      simp (disch := first | (simp; done) | omega | (simp only [dg_length, dgi_length, List.length_cons]; omega) | rfl) [-getElem?_pos, List.getElem?_cons_zero, List.getElem?_cons_succ, hr, h4, Ret, hW, hK, c5, c6', hz', c4']
                · have c6' : s.inputs.length < o.lo ∨ o.hi < s.inputs.length := by omega
                  rw [decide_eq_false c6] at hbv
                  subst hbv
                  simp (disch := first | (simp; done) | omega | (simp only [dg_length, dgi_length, List.length_cons]; omega) | rfl) [-getElem?_pos, List.getElem?_cons_zero, List.getElem?_cons_succ, r2, eqPrim, c4, c5, c5', c6', lz, Ret, c4']
                  exact kk

            · have c4' : ¬ facErr o s.factor = 0 := by simp [facErr, hfa, c4]
              simp (disch := first | (simp; done) | omega | (simp only [dg_length, dgi_length, List.length_cons]; omega) | rfl) [-getElem?_pos, List.getElem?_cons_zero, List.getElem?_cons_succ, r2, eqPrim, c4, Ret, facErr, hfa]
              exact kk
        · have hfa : o.factor = false := by simpa using hfa
          have e1 : (s.op == [115, 99, 97, 108, 101]) = false := by
            cases h : (s.op == [115, 99, 97, 108, 101]) with
            | false => rfl
            | true => rw [hof.2 (.inl (by simpa using h))] at hfa; cases hfa
          have e2 : (s.op == [115, 117, 109]) = false := by
            cases h : (s.op == [115, 117, 109]) with
            | false => rfl
            | true => rw [hof.2 (.inr (by simpa using h))] at hfa; cases hfa
          by_cases c4 : s.factor = []
          · have c4' : facErr o s.factor = 0 := by simp [facErr, hfa, c4]
            have e3 : (s.factor == []) = true := by simp [c4]
            have e4 : s.factor.isEmpty = true := by simp [c4]
            clear c4
            by_cases c5 : 16 < s.inputs.length
            · have c5' : 16 < (s.inputs.length : Int) := by omega
              simp (disch := first | (simp; done) | omega | (simp only [dg_length, dgi_length, List.length_cons]; omega) | rfl) [-getElem?_pos, List.getElem?_cons_zero, List.getElem?_cons_succ, A.b47, stgC, hio, rIsName_eq, c1, hat, p2, c2, lz, hb, ho, eqPrim, e1, e2, e3, e4, c5, c5', lz, Ret, c4']
              exact k0
            · have c5' : ¬ 16 < (s.inputs.length : Int) := by omega
              have hbv := hb2 (by omega) o ho
              by_cases c6 : o.lo ≤ s.inputs.length ∧ s.inputs.length ≤ o.hi
              · have c6' : ¬ (s.inputs.length < o.lo ∨ o.hi < s.inputs.length) := by omega
                rw [decide_eq_true c6] at hbv
                subst hbv
                simp (disch := first | (simp; done) | omega | (simp only [dg_length, dgi_length, List.length_cons]; omega) | rfl) [-getElem?_pos, List.getElem?_cons_zero, List.getElem?_cons_succ, A.b47, stgC, hio, rIsName_eq, c1, hat, p2, c2, lz, hb, ho, eqPrim, e1, e2, e3, e4, c5, c5', lz]
                refine run_loopD [(4, 4), (8, 8), (52, 66)] (RstP h N g s inp) (RstI h N g s inp) s.inputs.length ?_ ?_ ?_
                · exact ⟨by simp, k0, by show N < N + 1; omega, by simp [stgC], 0, by omega, by simp, by simp⟩
                · exact rstage_loop hg hl hi hil (by simp) (by simp)
                · rintro e r ⟨H, n3, W⟩ hr ⟨hW, hK, hN, hrow, ⟨rfl, hz⟩ | ⟨rfl, hz, h4⟩⟩
                  · simp only at hW hK hN hrow
                    unfold stgC at hrow
                    have hz' : ¬ ∃ x, x ∈ s.inputs ∧ g.length ≤ pos g x := by simpa using hz
                    simp (disch := first | (simp; done) | omega | (simp only [dg_length, dgi_length, List.length_cons]; omega) | rfl) [-getElem?_pos, List.getElem?_cons_zero, List.getElem?_cons_succ, hr, hrow, rwithin_eq, Ret, hW, hK, c5, c6', hz', c4']
                    split <;> rfl
                  · simp only at hW hK hN hrow
                    have hz' : ∃ x, x ∈ s.inputs ∧ g.length ≤ pos g x := by simpa using hz
                    simp (disch := first | (simp; done) | omega | (simp only [dg_length, dgi_length, List.length_cons]; omega) | rfl) [-getElem?_pos, List.getElem?_cons_zero, List.getElem?_cons_succ, hr, h4, Ret, hW, hK, c5, c6', hz', c4']
              · have c6' : s.inputs.length < o.lo ∨ o.hi < s.inputs.length := by omega
                rw [decide_eq_false c6] at hbv
                subst hbv
                simp (disch := first | (simp; done) | omega | (simp only [dg_length, dgi_length, List.length_cons]; omega) | rfl) [-getElem?_pos, List.getElem?_cons_zero, List.getElem?_cons_succ, A.b47, stgC, hio, rIsName_eq, c1, hat, p2, c2, lz, hb, ho, eqPrim, e1, e2, e3, e4, c5, c5', c6', lz, Ret, c4']
                exact k0

          · have e3 : (s.factor == []) = false := by simp [c4]
            have e4 : s.factor.isEmpty = false := by simp [c4]
            simp (disch := first | (simp; done) | omega | (simp only [dg_length, dgi_length, List.length_cons]; omega) | rfl) [-getElem?_pos, List.getElem?_cons_zero, List.getElem?_cons_succ, A.b47, stgC, hio, rIsName_eq, c1, hat, p2, c2, lz, hb, ho, eqPrim, e1, e2, e3, e4, c4, Ret, facErr, hfa]
            exact k0
  · have c1 : isName s.name = false := by simpa using c1
    simp (disch := first | (simp; done) | omega | (simp only [dg_length, dgi_length, List.length_cons]; omega) | rfl) [-getElem?_pos, List.getElem?_cons_zero, List.getElem?_cons_succ, A.b47, stgC, hio, rIsName_eq, c1, Ret]
    exact k0

end Go.Mx
/- lensletref09.CheckGraph. -/
namespace Go.Mx
open Go Go.Proofs
set_option maxRecDepth 1000000
set_option linter.unusedSimpArgs false
set_option linter.unusedVariables false

/-- Strings that are short enough. -/
def FewR (g : List Stg) : Prop := ∀ s ∈ g, s.factor.length ≤ 20 ∧ s.inputs.length < 1000000
theorem rgraph_fn {h : T O} {N : Nat} {v : V} {g : List Stg} (hg : Gr h N v g) (hl : g.length < 1000000) (hf : FewR g) : Fn A.C 11 [v] h N (fun u _ _ => u = .int .i64 (chkGraph g : Nat)) := by
  intro w
  rw [call_run, A.k11 (by simp)]
  have lg := hg.len
  by_cases h0 : g.length = 0
  · have h0' : (g.length : Int) = 0 := by omega
    simp (disch := first | (simp; done) | omega | (simp only [dg_length, dgi_length, List.length_cons]; omega) | rfl) [-getElem?_pos, List.getElem?_cons_zero, List.getElem?_cons_succ, A.b11, lg, h0, eqPrim, Ret, chkGraph]
    exact Keeps.refl
  · have h0' : ¬ (g.length : Int) = 0 := by omega
    have hne : g ≠ [] := fun h => by rw [h] at h0; simp at h0
    by_cases h16 : 16 < g.length
    · have h16' : 16 < (g.length : Int) := by omega
      simp (disch := first | (simp; done) | omega | (simp only [dg_length, dgi_length, List.length_cons]; omega) | rfl) [-getElem?_pos, List.getElem?_cons_zero, List.getElem?_cons_succ, A.b11, lg, h0, h0', hne, h16, h16', eqPrim, Ret, chkGraph]
      exact Keeps.refl
    · have h16' : ¬ 16 < (g.length : Int) := by omega
      have hc : chkGraph g = chkL [] g := by simp [chkGraph, h0, h16, hne]
      simp (disch := first | (simp; done) | omega | (simp only [dg_length, dgi_length, List.length_cons]; omega) | rfl) [-getElem?_pos, List.getElem?_cons_zero, List.getElem?_cons_succ, A.b11, lg, h0, h0', hne, h16, h16', eqPrim]
      refine run_loopD [(2, 4), (11, 27)] (fun e r st => oldIds N st.w = [] ∧ Keeps h N st.h st.n ∧ ((e = .exit 0 ∧ chkL [] g = 0) ∨ (e = .ret ∧ r.get 2 = some (.int .i64 (chkL [] g : Nat))))) (fun m r st => oldIds N st.w = [] ∧ Keeps h N st.h st.n ∧ ∃ k, k + m = g.length ∧ r.get 3 = some (.int .i64 k) ∧ chkL [] g = chkL (g.take k) (g.drop k)) g.length ?_ ?_ ?_
      · exact ⟨by simp, Keeps.refl, 0, by omega, by simp, by simp⟩
      · rintro m r ⟨H, n1, W⟩ hr hf2 ⟨hW, hK, k, hk, h3, hz⟩
        simp only at hW hK
        rw [code_run]
        cases m with
        | zero =>
          have : k = g.length := by omega
          subst this
          rw [List.drop_length, chkL] at hz
          simp (disch := first | (simp; done) | omega | (simp only [dg_length, dgi_length, List.length_cons]; omega) | rfl) [-getElem?_pos, List.getElem?_cons_zero, List.getElem?_cons_succ, A.lb11_0, hr, hf2, h3, hW, hK, hz, lg]
        | succ m =>
          have hlt : k < g.length := by omega
          obtain ⟨s, hs⟩ := get_of_lt hlt
          have hgH := hg.keep hK
          obtain ⟨i, o, cc, e, rw, inp, q1, q2, q3, q4, q5⟩ := hgH.at hs
          obtain ⟨ff1, ff2⟩ := hf s (List.mem_of_getElem? hs)
          rw [get_drop_cons hs, chkL] at hz
          have hk1 : (k : Int) < (g.length : Int) := by omega
          obtain ⟨v', e1, e2⟩ := hgH.slice (w := []) (lo := 0) (hi := k) (by omega) (by omega) none (some (.int .i64 k)) (.inr ⟨rfl, rfl⟩) (.inl rfl)
          rw [List.drop_zero] at e2
          simp (disch := first | (simp; done) | omega | (simp only [dg_length, dgi_length, List.length_cons]; omega) | rfl) [-getElem?_pos, List.getElem?_cons_zero, List.getElem?_cons_succ, A.lb11_0, hr, hf2, h3, hk1, hlt, lg, q1, q3, q4, op_sliceSl_K, evOpt, e1]
          have hlt2 : (g.take k).length < 1000000 := by simp; omega
          have qi : i < n1 := q2
          refine run_fn (rstage_fn e2 hlt2 q5 ff2 ff1) ?_
          rintro u h3' n3 k3 rfl
          have kk := hK.trans k3
          by_cases hz0 : chkStage (g.take k) s = 0
          · rw [hz0] at hz
            simp at hz
            simp (disch := first | (simp; done) | omega | (simp only [dg_length, dgi_length, List.length_cons]; omega) | rfl) [-getElem?_pos, List.getElem?_cons_zero, List.getElem?_cons_succ, hr, hf2, h3, hz0, eqPrim, hW, qi]
            exact ⟨m, by omega, kk, k + 1, by omega, by simp, by rw [hz, List.take_add_one, hs]; rfl⟩
          · rw [if_pos hz0] at hz
            simp (disch := first | (simp; done) | omega | (simp only [dg_length, dgi_length, List.length_cons]; omega) | rfl) [-getElem?_pos, List.getElem?_cons_zero, List.getElem?_cons_succ, hr, hf2, h3, hz0, eqPrim, hW, hz, qi]
            exact kk
      · rintro e r ⟨H, n1, W⟩ hr ⟨hW, hK, ⟨rfl, hz⟩ | ⟨rfl, h4⟩⟩
        · simp only at hW hK
          simp (disch := first | (simp; done) | omega | (simp only [dg_length, dgi_length, List.length_cons]; omega) | rfl) [-getElem?_pos, List.getElem?_cons_zero, List.getElem?_cons_succ, hr, hz, Ret, hW, hK, hc]
        · simp only at hW hK
          simp (disch := first | (simp; done) | omega | (simp only [dg_length, dgi_length, List.length_cons]; omega) | rfl) [-getElem?_pos, List.getElem?_cons_zero, List.getElem?_cons_succ, hr, h4, Ret, hW, hK, hc]

end Go.Mx
