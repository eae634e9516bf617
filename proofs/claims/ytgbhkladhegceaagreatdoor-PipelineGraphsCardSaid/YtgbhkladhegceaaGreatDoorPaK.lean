/-
  number.Check of at most 20 bytes.
-/
import Derived.Test.YtgbhkladhegceaaGreatDoorPaG
import Derived.Test.YtgbhkladhegceaaGreatDoorPaW
set_option linter.all false
namespace Go.Mx
open Go Go.Proofs
set_option maxRecDepth 1000000
set_option linter.unusedSimpArgs false
set_option linter.unusedVariables false
/-- lenslet/number.Check -/
def A.b91 : MCode := .seq (.reg [⟨(some 2), .mov (.const (.int .i64 0)), none⟩])
 (.seq (.reg [⟨(some 12), .mov (.tmp 0), none⟩, ⟨(some 13), .call (.const (.func 146 [] [])) [(.tmp 12), (.const (.str [45]))], none⟩, ⟨(some 11), .mov (.tmp 13), none⟩, ⟨(some 14), .extract (.tmp 11) 0, none⟩, ⟨(some 15), .extract (.tmp 11) 1, none⟩, ⟨(some 3), .mov (.tmp 14), none⟩, ⟨(some 4), .mov (.tmp 15), none⟩])
 (.seq (.reg [⟨(some 17), .mov (.tmp 3), none⟩, ⟨(some 18), .call (.const (.func 147 [] [])) [(.tmp 17), (.const (.str [47]))], none⟩, ⟨(some 16), .mov (.tmp 18), none⟩, ⟨(some 19), .extract (.tmp 16) 0, none⟩, ⟨(some 20), .extract (.tmp 16) 1, none⟩, ⟨(some 21), .extract (.tmp 16) 2, none⟩, ⟨(some 5), .mov (.tmp 19), none⟩, ⟨(some 6), .mov (.tmp 20), none⟩, ⟨(some 7), .mov (.tmp 21), none⟩])
 (.seq (.reg [⟨(some 22), .mov (.tmp 5), none⟩, ⟨(some 23), .call (.const (.func 148 [] [])) [(.tmp 22)], none⟩, ⟨(some 24), .mov (.tmp 23), none⟩, ⟨(some 25), .mov (.tmp 4), (some (24, true))⟩, ⟨(some 26), .un .not (.tmp 25), (some (24, true))⟩, ⟨(some 27), .mov (.tmp 26), (some (24, true))⟩, ⟨(some 28), .mov (.tmp 5), (some (27, false))⟩, ⟨(some 29), .bin .neq (.prim .str) true (.tmp 28) (.const (.str [48])), (some (27, false))⟩, ⟨(some 30), .pick (.tmp 27) (.const (.bool true)) (.tmp 29), (some (24, true))⟩, ⟨(some 31), .pick (.tmp 24) (.tmp 30) (.const (.bool false)), none⟩, ⟨(some 8), .mov (.tmp 31), none⟩])
 (.seq (.seq (.reg [⟨(some 32), .mov (.tmp 7), none⟩])
 (.cond (.tmp 32)
 (.reg [⟨(some 33), .mov (.tmp 8), none⟩, ⟨(some 34), .mov (.tmp 33), none⟩, ⟨(some 35), .mov (.tmp 6), (some (34, true))⟩, ⟨(some 36), .call (.const (.func 148 [] [])) [(.tmp 35)], (some (34, true))⟩, ⟨(some 37), .pick (.tmp 34) (.tmp 36) (.const (.bool false)), none⟩, ⟨(some 38), .mov (.tmp 37), none⟩, ⟨(some 39), .mov (.tmp 6), (some (38, true))⟩, ⟨(some 40), .bin .neq (.prim .str) true (.tmp 39) (.const (.str [48])), (some (38, true))⟩, ⟨(some 41), .pick (.tmp 38) (.tmp 40) (.const (.bool false)), none⟩, ⟨(some 42), .mov (.tmp 41), none⟩, ⟨(some 43), .mov (.tmp 6), (some (42, true))⟩, ⟨(some 44), .bin .neq (.prim .str) true (.tmp 43) (.const (.str [49])), (some (42, true))⟩, ⟨(some 45), .pick (.tmp 42) (.tmp 44) (.const (.bool false)), none⟩, ⟨(some 8), .mov (.tmp 45), none⟩])
 (.skip)))
 (.seq (.seq (.reg [⟨(some 46), .mov (.tmp 8), none⟩, ⟨(some 47), .un .not (.tmp 46), none⟩, ⟨(some 48), .call (.const (.func 150 [] [])) [(.tmp 47), (.const (.int .i64 1))], none⟩, ⟨(some 49), .mov (.tmp 5), none⟩, ⟨(some 50), .len 0 (.tmp 49), none⟩, ⟨(some 51), .bin .gtr (.node []) false (.tmp 50) (.const (.int .i64 600)), none⟩, ⟨(some 52), .mov (.tmp 51), none⟩, ⟨(some 53), .mov (.tmp 6), (some (52, false))⟩, ⟨(some 54), .len 0 (.tmp 53), (some (52, false))⟩, ⟨(some 55), .bin .gtr (.node []) false (.tmp 54) (.const (.int .i64 600)), (some (52, false))⟩, ⟨(some 56), .pick (.tmp 52) (.const (.bool true)) (.tmp 55), none⟩, ⟨(some 57), .call (.const (.func 150 [] [])) [(.tmp 56), (.const (.int .i64 4))], none⟩, ⟨(some 58), .bslice 26 1 2 [(.int .i64 0), (.int .i64 0)] [(0, 1, (.tmp 48)), (1, 1, (.tmp 57))], none⟩, ⟨(some 59), .call (.const (.func 149 [] [])) [(.tmp 58)], none⟩, ⟨(some 9), .mov (.tmp 59), none⟩])
 (.seq (.reg [⟨(some 60), .mov (.tmp 9), none⟩, ⟨(some 61), .bin .neq (.prim .int) true (.tmp 60) (.const (.int .i64 0)), none⟩])
 (.cond (.tmp 61)
 (.seq (.reg [⟨(some 62), .mov (.tmp 9), none⟩, ⟨(some 2), .mov (.tmp 62), none⟩])
 (.ret))
 (.skip))))
 (.seq (.reg [⟨(some 63), .mov (.tmp 7), none⟩, ⟨(some 64), .mov (.tmp 63), none⟩, ⟨(some 65), .mov (.tmp 5), (some (64, true))⟩, ⟨(some 66), .call (.const (.func 152 [] [])) [(.tmp 65)], (some (64, true))⟩, ⟨(some 67), .mov (.tmp 6), (some (64, true))⟩, ⟨(some 68), .call (.const (.func 152 [] [])) [(.tmp 67)], (some (64, true))⟩, ⟨(some 69), .call (.const (.func 151 [] [])) [(.tmp 66), (.tmp 68)], (some (64, true))⟩, ⟨(some 70), .call (.const (.func 154 [] [])) [(.const (.int .i64 1))], (some (64, true))⟩, ⟨(some 71), .call (.const (.func 153 [] [])) [(.tmp 69), (.tmp 70)], (some (64, true))⟩, ⟨(some 72), .bin .neq (.prim .int) true (.tmp 71) (.const (.int .i64 0)), (some (64, true))⟩, ⟨(some 73), .pick (.tmp 64) (.tmp 72) (.const (.bool false)), none⟩, ⟨(some 10), .mov (.tmp 73), none⟩])
 (.seq (.reg [⟨(some 74), .mov (.tmp 10), none⟩, ⟨(some 75), .call (.const (.func 150 [] [])) [(.tmp 74), (.const (.int .i64 1))], none⟩, ⟨(some 2), .mov (.tmp 75), none⟩])
 (.ret))))))))
theorem A.c91 : cFunc Tryz.prog 91 = some ⟨76, [.tmp 2], A.b91⟩ := by kernel_rfl
theorem A.k91 {K : List Kf} {Q : Rs → Prop} {f c args : List V} {st : St} (h : (f ++ args ++ c).length ≤ 76) : Run A.C K (valR (A.C.call (.func 91 f c) args st)) Q ↔ Run A.C (.fin [.tmp 2] st :: K) (exR (A.C.code none A.b91 ⟨setRegs .nil 0 (f ++ args ++ c), 76, []⟩ ⟨st.h, st.n, []⟩)) Q := run_func (A.x0 (f := 91) (by decide)) (mf := ⟨76, [.tmp 2], A.b91⟩) (by rw [A.t]; exact A.c91) h

theorem isDec_all {s : Str} (h : isDec s = true) : allD s = true ∧ 1 ≤ s.length := by
  cases s with
  | nil => cases h
  | cons c s =>
    unfold isDec at h
    rw [Bool.and_eq_true] at h
    exact ⟨h.1, by simp⟩
theorem check_fn {s : Str} (hl : s.length ≤ 20) {h : T O} {N : Nat} : Fn A.C 91 [.str s] h N (fun v _ _ => v = .int .i64 (chkNum s : Nat)) := by
  intro w
  have hb : (bodyS s).length ≤ s.length := by unfold bodyS; split <;> simp
  have hc := fun st => cut_eq (s := bodyS s) (st := st) (by omega)
  rw [call_run, A.k91 (by simp)]
  show Run _ _ _ (valQ (Ret (fun v _ _ => v = .int .i64 (chkB (negS s) (bodyS s) : Nat)) h N w))
  unfold chkB
  have hle := slashAt_le (bodyS s)
  have hp1 : ((bodyS s).take (slashAt (bodyS s))).length = slashAt (bodyS s) := by simp; omega
  have hd1 : ((bodyS s).drop (slashAt (bodyS s) + 1)).length = (bodyS s).length - (slashAt (bodyS s) + 1) := by simp
  simp (disch := first | (simp; done) | omega | (simp only [dg_length, dgi_length, List.length_cons]; omega) | rfl) [-getElem?_pos, List.getElem?_cons_zero, List.getElem?_cons_succ, A.b91, cutPrefix_eq, hc]
  generalize negS s = neg at *
  generalize hbr : decide (slashAt (bodyS s) < (bodyS s).length) = br at *
  generalize hpe : (bodyS s).take (slashAt (bodyS s)) = p at *
  generalize hde : (bodyS s).drop (slashAt (bodyS s) + 1) = d at *
  have hbl : br = true → p.length + d.length + 1 ≤ 20 := by
    intro hb1
    rw [hb1] at hbr
    simp at hbr
    omega
  have hpl : p.length ≤ 20 := by omega
  have hdl : d.length ≤ 20 := by omega
  clear hbr hpe hde hp1 hd1 hc
  refine run_fn (isDecimal_fn (by omega)) ?_
  rintro v h1 n1 k1 rfl
  have l1 : ¬ (600 : Int) < (p.length : Int) := by omega
  have l2 : ¬ (600 : Int) < (d.length : Int) := by omega
  have l3 : ¬ 600 < p.length := by omega
  have l4 : ¬ 600 < d.length := by omega
  have z0 : isDec [48] = true := by decide
  have z1 : isDec [49] = true := by decide
  by_cases hA : isDec p = true
  · by_cases hB : neg = true ∧ p = [48]
    · obtain ⟨hB1, hB2⟩ := hB
      subst hB1
      subst hB2
      cases br
      · simp (disch := first | (simp; done) | omega | (simp only [dg_length, dgi_length, List.length_cons]; omega) | rfl) [-getElem?_pos, List.getElem?_cons_zero, List.getElem?_cons_succ, eqPrim, nwhen_eq, l1, l2, z0, splice, nfirst2, firstNZ, Ret, chkP, formS]
        exact (k1.set k1.le).up (Nat.le_succ _)
      · simp (disch := first | (simp; done) | omega | (simp only [dg_length, dgi_length, List.length_cons]; omega) | rfl) [-getElem?_pos, List.getElem?_cons_zero, List.getElem?_cons_succ, eqPrim, nwhen_eq, l1, l2, z0, splice, nfirst2, firstNZ, Ret, chkP, formS]
        exact (k1.set k1.le).up (Nat.le_succ _)
    · have hneg : neg = false ∨ (neg = true ∧ p ≠ [48]) := by
        cases neg
        · exact .inl rfl
        · exact .inr ⟨rfl, fun h => hB ⟨rfl, h⟩⟩
      cases br
      · rcases hneg with rfl | ⟨rfl, hpz⟩
        · simp (disch := first | (simp; done) | omega | (simp only [dg_length, dgi_length, List.length_cons]; omega) | rfl) [-getElem?_pos, List.getElem?_cons_zero, List.getElem?_cons_succ, eqPrim, nwhen_eq, l1, l2, l3, l4, hA, splice, nfirst2, firstNZ, Ret, chkP, formS]
          exact (k1.set k1.le).up (Nat.le_succ _)
        · have e1 : (p == [48]) = false := by simp [hpz]
          simp (disch := first | (simp; done) | omega | (simp only [dg_length, dgi_length, List.length_cons]; omega) | rfl) [-getElem?_pos, List.getElem?_cons_zero, List.getElem?_cons_succ, eqPrim, nwhen_eq, l1, l2, l3, l4, hA, e1, hpz, splice, nfirst2, firstNZ, Ret, chkP, formS]
          exact (k1.set k1.le).up (Nat.le_succ _)
      · have hbl := hbl rfl
        rcases hneg with rfl | ⟨rfl, hpz⟩
        · simp (disch := first | (simp; done) | omega | (simp only [dg_length, dgi_length, List.length_cons]; omega) | rfl) [-getElem?_pos, List.getElem?_cons_zero, List.getElem?_cons_succ, eqPrim, hA]
          refine run_fn (isDecimal_fn (by omega)) ?_
          rintro v h2 n2 k2 rfl
          have kk := k1.trans k2
          by_cases hD : isDec d = true
          · by_cases h48 : d = [48]
            · subst h48
              simp (disch := first | (simp; done) | omega | (simp only [dg_length, dgi_length, List.length_cons]; omega) | rfl) [-getElem?_pos, List.getElem?_cons_zero, List.getElem?_cons_succ, eqPrim, nwhen_eq, l1, l2, l3, z0, hA, splice, nfirst2, firstNZ, Ret, chkP, formS]
              exact (kk.set kk.le).up (Nat.le_succ _)
            · have e8 : (d == [48]) = false := by simp [h48]
              by_cases h49 : d = [49]
              · subst h49
                simp (disch := first | (simp; done) | omega | (simp only [dg_length, dgi_length, List.length_cons]; omega) | rfl) [-getElem?_pos, List.getElem?_cons_zero, List.getElem?_cons_succ, eqPrim, nwhen_eq, l1, l2, l3, z1, hA, splice, nfirst2, firstNZ, Ret, chkP, formS]
                exact (kk.set kk.le).up (Nat.le_succ _)
              · have e9 : (d == [49]) = false := by simp [h49]
                obtain ⟨pa, pb⟩ := isDec_all hA
                obtain ⟨da, db⟩ := isDec_all hD
                have gp : numV p < 9223372036854775808 := by
                  have b1 := numV_lt' pa; have b2 := p10_le (a := p.length) (b := 18) (by omega); omega
                have gd : numV d < 9223372036854775808 := by
                  have b1 := numV_lt' da; have b2 := p10_le (a := d.length) (b := 18) (by omega); omega
                simp (disch := first | (simp; done) | omega | (simp only [dg_length, dgi_length, List.length_cons]; omega) | rfl) [-getElem?_pos, List.getElem?_cons_zero, List.getElem?_cons_succ, eqPrim, nwhen_eq, l1, l2, l3, l4, hA, hD, h48, h49, e8, e9, splice, nfirst2, firstNZ]
                refine run_fn (read_fn pa pb (by omega)) ?_
                rintro v h3 n3 k3 rfl
                simp (disch := first | (simp; done) | omega | (simp only [dg_length, dgi_length, List.length_cons]; omega) | rfl) [-getElem?_pos, List.getElem?_cons_zero, List.getElem?_cons_succ, ]
                refine run_fn (read_fn da db (by omega)) ?_
                rintro v h4 n4 k4 rfl
                simp (disch := first | (simp; done) | omega | (simp only [dg_length, dgi_length, List.length_cons]; omega) | rfl) [-getElem?_pos, List.getElem?_cons_zero, List.getElem?_cons_succ, ]
                refine run_fn (gcd_fn gp gd) ?_
                rintro v h5 n5 k5 rfl
                simp (disch := first | (simp; done) | omega | (simp only [dg_length, dgi_length, List.length_cons]; omega) | rfl) [-getElem?_pos, List.getElem?_cons_zero, List.getElem?_cons_succ, ]
                refine run_fn of_fn ?_
                rintro v h6 n6 k6 rfl
                simp (disch := first | (simp; done) | omega | (simp only [dg_length, dgi_length, List.length_cons]; omega) | rfl) [-getElem?_pos, List.getElem?_cons_zero, List.getElem?_cons_succ, ]
                refine run_fn cmp_fn ?_
                rintro v h7 n7 k7 rfl
                have kz := ((((((kk.set (o := .cells [.int .i64 0, .int .i64 0] 26 true) kk.le).up (Nat.le_succ n2)).trans k3).trans k4).trans k5).trans k6).trans k7
                generalize hg : Nat.gcd (numV p) (numV d) = g at *
                have hf : chkP false p true d = if g = 1 then 0 else 1 := by
                  simp [chkP, formS, hA, hD, h48, h49, l3, l4, hg]
                by_cases g1 : g = 1
                · subst g1
                  simp (disch := first | (simp; done) | omega | (simp only [dg_length, dgi_length, List.length_cons]; omega) | rfl) [-getElem?_pos, List.getElem?_cons_zero, List.getElem?_cons_succ, eqPrim, nwhen_eq, Ret, hf]
                  exact kz
                · by_cases g2 : (g : Int) < 1
                  · simp (disch := first | (simp; done) | omega | (simp only [dg_length, dgi_length, List.length_cons]; omega) | rfl) [-getElem?_pos, List.getElem?_cons_zero, List.getElem?_cons_succ, eqPrim, nwhen_eq, Ret, g1, g2, hf]
                    exact kz
                  · have g3 : (1 : Int) < (g : Int) := by omega
                    simp (disch := first | (simp; done) | omega | (simp only [dg_length, dgi_length, List.length_cons]; omega) | rfl) [-getElem?_pos, List.getElem?_cons_zero, List.getElem?_cons_succ, eqPrim, nwhen_eq, Ret, g1, g2, g3, hf]
                    exact kz
          · have hD : isDec d = false := by simpa using hD
            simp (disch := first | (simp; done) | omega | (simp only [dg_length, dgi_length, List.length_cons]; omega) | rfl) [-getElem?_pos, List.getElem?_cons_zero, List.getElem?_cons_succ, eqPrim, nwhen_eq, l1, l2, l3, hA, hD, splice, nfirst2, firstNZ, Ret, chkP, formS]
            exact (kk.set kk.le).up (Nat.le_succ _)
        · have e1 : (p == [48]) = false := by simp [hpz]
          simp (disch := first | (simp; done) | omega | (simp only [dg_length, dgi_length, List.length_cons]; omega) | rfl) [-getElem?_pos, List.getElem?_cons_zero, List.getElem?_cons_succ, eqPrim, hA, e1]
          refine run_fn (isDecimal_fn (by omega)) ?_
          rintro v h2 n2 k2 rfl
          have kk := k1.trans k2
          by_cases hD : isDec d = true
          · by_cases h48 : d = [48]
            · subst h48
              simp (disch := first | (simp; done) | omega | (simp only [dg_length, dgi_length, List.length_cons]; omega) | rfl) [-getElem?_pos, List.getElem?_cons_zero, List.getElem?_cons_succ, eqPrim, nwhen_eq, l1, l2, l3, z0, hA, e1, hpz, splice, nfirst2, firstNZ, Ret, chkP, formS]
              exact (kk.set kk.le).up (Nat.le_succ _)
            · have e8 : (d == [48]) = false := by simp [h48]
              by_cases h49 : d = [49]
              · subst h49
                simp (disch := first | (simp; done) | omega | (simp only [dg_length, dgi_length, List.length_cons]; omega) | rfl) [-getElem?_pos, List.getElem?_cons_zero, List.getElem?_cons_succ, eqPrim, nwhen_eq, l1, l2, l3, z1, hA, e1, hpz, splice, nfirst2, firstNZ, Ret, chkP, formS]
                exact (kk.set kk.le).up (Nat.le_succ _)
              · have e9 : (d == [49]) = false := by simp [h49]
                obtain ⟨pa, pb⟩ := isDec_all hA
                obtain ⟨da, db⟩ := isDec_all hD
                have gp : numV p < 9223372036854775808 := by
                  have b1 := numV_lt' pa; have b2 := p10_le (a := p.length) (b := 18) (by omega); omega
                have gd : numV d < 9223372036854775808 := by
                  have b1 := numV_lt' da; have b2 := p10_le (a := d.length) (b := 18) (by omega); omega
                simp (disch := first | (simp; done) | omega | (simp only [dg_length, dgi_length, List.length_cons]; omega) | rfl) [-getElem?_pos, List.getElem?_cons_zero, List.getElem?_cons_succ, eqPrim, nwhen_eq, l1, l2, l3, l4, hA, hD, h48, h49, e8, e9, e1, hpz, splice, nfirst2, firstNZ]
                refine run_fn (read_fn pa pb (by omega)) ?_
                rintro v h3 n3 k3 rfl
                simp (disch := first | (simp; done) | omega | (simp only [dg_length, dgi_length, List.length_cons]; omega) | rfl) [-getElem?_pos, List.getElem?_cons_zero, List.getElem?_cons_succ, ]
                refine run_fn (read_fn da db (by omega)) ?_
                rintro v h4 n4 k4 rfl
                simp (disch := first | (simp; done) | omega | (simp only [dg_length, dgi_length, List.length_cons]; omega) | rfl) [-getElem?_pos, List.getElem?_cons_zero, List.getElem?_cons_succ, ]
                refine run_fn (gcd_fn gp gd) ?_
                rintro v h5 n5 k5 rfl
                simp (disch := first | (simp; done) | omega | (simp only [dg_length, dgi_length, List.length_cons]; omega) | rfl) [-getElem?_pos, List.getElem?_cons_zero, List.getElem?_cons_succ, ]
                refine run_fn of_fn ?_
                rintro v h6 n6 k6 rfl
                simp (disch := first | (simp; done) | omega | (simp only [dg_length, dgi_length, List.length_cons]; omega) | rfl) [-getElem?_pos, List.getElem?_cons_zero, List.getElem?_cons_succ, ]
                refine run_fn cmp_fn ?_
                rintro v h7 n7 k7 rfl
                have kz := ((((((kk.set (o := .cells [.int .i64 0, .int .i64 0] 26 true) kk.le).up (Nat.le_succ n2)).trans k3).trans k4).trans k5).trans k6).trans k7
                generalize hg : Nat.gcd (numV p) (numV d) = g at *
                have hf : chkP true p true d = if g = 1 then 0 else 1 := by
                  simp [chkP, formS, hA, hD, h48, h49, hpz, l3, l4, hg]
                by_cases g1 : g = 1
                · subst g1
                  simp (disch := first | (simp; done) | omega | (simp only [dg_length, dgi_length, List.length_cons]; omega) | rfl) [-getElem?_pos, List.getElem?_cons_zero, List.getElem?_cons_succ, eqPrim, nwhen_eq, Ret, hf]
                  exact kz
                · by_cases g2 : (g : Int) < 1
                  · simp (disch := first | (simp; done) | omega | (simp only [dg_length, dgi_length, List.length_cons]; omega) | rfl) [-getElem?_pos, List.getElem?_cons_zero, List.getElem?_cons_succ, eqPrim, nwhen_eq, Ret, g1, g2, hf]
                    exact kz
                  · have g3 : (1 : Int) < (g : Int) := by omega
                    simp (disch := first | (simp; done) | omega | (simp only [dg_length, dgi_length, List.length_cons]; omega) | rfl) [-getElem?_pos, List.getElem?_cons_zero, List.getElem?_cons_succ, eqPrim, nwhen_eq, Ret, g1, g2, g3, hf]
                    exact kz
          · have hD : isDec d = false := by simpa using hD
            simp (disch := first | (simp; done) | omega | (simp only [dg_length, dgi_length, List.length_cons]; omega) | rfl) [-getElem?_pos, List.getElem?_cons_zero, List.getElem?_cons_succ, eqPrim, nwhen_eq, l1, l2, l3, hA, hD, e1, hpz, splice, nfirst2, firstNZ, Ret, chkP, formS]
            exact (kk.set kk.le).up (Nat.le_succ _)
  · have hA : isDec p = false := by simpa using hA
    cases br
    · simp (disch := first | (simp; done) | omega | (simp only [dg_length, dgi_length, List.length_cons]; omega) | rfl) [-getElem?_pos, List.getElem?_cons_zero, List.getElem?_cons_succ, hA, eqPrim, nwhen_eq, l1, l2, splice, nfirst2, firstNZ, Ret, chkP, formS]
      exact (k1.set k1.le).up (Nat.le_succ _)
    · simp (disch := first | (simp; done) | omega | (simp only [dg_length, dgi_length, List.length_cons]; omega) | rfl) [-getElem?_pos, List.getElem?_cons_zero, List.getElem?_cons_succ, hA, eqPrim, nwhen_eq, l1, l2, splice, nfirst2, firstNZ, Ret, chkP, formS]
      exact (k1.set k1.le).up (Nat.le_succ _)

end Go.Mx
