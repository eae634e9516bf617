/-
  PipelineStates returns true, for every state and every act.
-/
import Derived.Test.YtkdpkgfpnimekaaGreatDoorStW
import Derived.Test.YtkdpkgfpnimekaaGreatDoorStL
import Derived.Test.YtkdpkgfpnimekaaGreatDoorAwOk
import Derived.Test.YtkdpkgfpnimekaaGreatDoorProg
set_option linter.all false
namespace Go.Mx
open Go Go.Proofs
set_option maxRecDepth 1000000
set_option linter.unusedSimpArgs false
set_option linter.unusedVariables false

theorem awake_pure : Pure Tryz.prog ⟨14, [], .bool true⟩ := (A.tab141 A.progOk).p A.p135 List.mem_cons_self

theorem orK_run {tbl : Nat → Option MFunc} {x : CallT} {F d f : Nat} {args : List V} {st : St} {mf : MFunc} (h : tbl f = some mf) : orK tbl x F d f args st none = funcRun mf (mcode (mcallX x tbl F d) F) args st := by
  unfold orK; rw [h]

theorem moves_valid {m : List UInt8} {s : Int} {l w : Bool} {b : Bool} (h : ∃ e ∈ A.L_pipelineMoves, e = ⟨7, [stV m s l w], .tup [.bool b, .int .i64 0]⟩) : Pure Tryz.prog ⟨7, [stV m s l w], .tup [.bool b, .int .i64 0]⟩ := by
  obtain ⟨e, he, rfl⟩ := h
  exact A.L_pipelineMoves_ok A.progOk A.LS_pure _ he
theorem rmoves_valid {m : List UInt8} {s : Int} {l w : Bool} {b : Bool} (h : ∃ e ∈ A.L_lensletref09Moves, e = ⟨11, [stV m s l w], .bool b⟩) : Pure Tryz.prog ⟨11, [stV m s l w], .bool b⟩ := by
  obtain ⟨e, he, rfl⟩ := h
  exact A.L_lensletref09Moves_ok A.progOk A.LS_pure _ he

theorem law_invalid_x (m a : List UInt8) (s : Int) (l w : Bool) (he : chk m s l w ≠ 0) : ∃ x, CallOk Tryz.prog x ∧ Gives (orK (cFunc Tryz.prog) x 200 10 3 [stV m s l w, .str a] (base 10) none) (.bool true) := by
  have p0 := pCheck_pure m s l w
  have p1 : Pure Tryz.prog ⟨5, [stV m s l w, .str a], .tup [zSt, .int .i64 (chk m s l w)]⟩ := Pure.of_run (mcallX_ok A.progOk.m A.progOk.e A.progOk.t (oneCall_ok p0) 100 10) A.globals (act_invalid m a s l w _ he) rfl rfl
  have p2 : Pure Tryz.prog ⟨6, [stV m s l w], .tup [.nilslice, .int .i64 (chk m s l w)]⟩ := Pure.of_run (mcallX_ok A.progOk.m A.progOk.e A.progOk.t (oneCall_ok p0) 100 10) A.globals (acts_invalid m s l w _ he) rfl rfl
  have p3 : Pure Tryz.prog ⟨7, [stV m s l w], .tup [.bool false, .int .i64 (chk m s l w)]⟩ := Pure.of_run (mcallX_ok A.progOk.m A.progOk.e A.progOk.t (oneCall_ok p0) 100 10) A.globals (moves_invalid m s l w _ he) rfl rfl
  have p4 := rCheck_pure m s l w
  refine ⟨orCall (oneCall ⟨_, _, _⟩) (orCall (oneCall ⟨_, _, _⟩) (orCall (oneCall ⟨_, _, _⟩) (orCall (oneCall ⟨_, _, _⟩) (orCall (oneCall ⟨_, _, _⟩) (oneCall ⟨_, _, _⟩))))),
    (oneCall_ok p1).or ((oneCall_ok p2).or ((oneCall_ok p3).or ((oneCall_ok p4).or ((oneCall_ok p0).or (oneCall_ok awake_pure))))), law_invalid m a s l w _ he _ ?_ ?_ ?_ ?_ ?_ ?_ ?_⟩
  all_goals intros; simp [orCall_eq, oneCall_self, oneCall_ne]

theorem law_valid_x0 (a : List UInt8) : ∃ x, CallOk Tryz.prog x ∧ Gives (orK (cFunc Tryz.prog) x 200 10 3 [stV wIdle 0 false false, .str a] (base 10) none) (.bool true) := by
  have hc : chk wIdle 0 false false = 0 := by decide
  have p0 : Pure Tryz.prog ⟨12, [stV wIdle 0 false false], .int .i64 0⟩ := hc ▸ pCheck_pure wIdle 0 false false
  have p4 : Pure Tryz.prog ⟨8, [stV wIdle 0 false false], .int .i64 0⟩ := hc ▸ rCheck_pure wIdle 0 false false
  obtain ⟨m', s', l', w', e, p1, p5⟩ := act_valid hc a
  have p3 : Pure Tryz.prog ⟨7, [stV wIdle 0 false false], .tup [.bool false, .int .i64 0]⟩ := moves_valid ⟨_, List.mem_of_getElem? (i := 0) rfl, rfl⟩
  have p6 : Pure Tryz.prog ⟨11, [stV wIdle 0 false false], .bool false⟩ := rmoves_valid ⟨_, List.mem_of_getElem? (i := 0) rfl, rfl⟩
  have c1 := A.L_pipelineActs_ok A.progOk A.LS_pure A.g0 (List.mem_of_getElem? (i := 0) rfl)
  have c2 := A.L_lensletref09Acts_ok A.progOk A.LS_pure A.g13 (List.mem_of_getElem? (i := 0) rfl)
  have g1 : ∀ h n w, gCall A.g0 (.func 6 [] []) [stV wIdle 0 false false] ⟨h, n, w⟩ = some (.tup [.slice n 0 3 none 1, .int .i64 0], ⟨h.set n (.cells [(.str [115, 116, 97, 114, 116]), (.str [108, 111, 115, 101]), (.str [103, 117, 115, 116])] 9 true), n + 1, w⟩) := fun _ _ _ => by kernel_rfl
  have g2 : ∀ h n w, gCall A.g13 (.func 10 [] []) [stV wIdle 0 false false] ⟨h, n, w⟩ = some (.slice n 0 3 none 1, ⟨h.set n (.cells [(.str [115, 116, 97, 114, 116]), (.str [108, 111, 115, 101]), (.str [103, 117, 115, 116])] 9 true), n + 1, w⟩) := fun _ _ _ => by kernel_rfl
  have g3 : ∀ args st, gCall A.g0 (.func 13 [] []) args st = none := fun _ _ => by kernel_rfl
  have g4 : ∀ args st, gCall A.g13 (.func 13 [] []) args st = none := fun _ _ => by kernel_rfl
  have g5 : ∀ args st, gCall A.g0 (.func 10 [] []) args st = none := fun _ _ => by kernel_rfl
  refine ⟨orCall (oneCall ⟨_, _, _⟩) (orCall (oneCall ⟨_, _, _⟩) (orCall (oneCall ⟨_, _, _⟩) (orCall (oneCall ⟨_, _, _⟩) (orCall (oneCall ⟨_, _, _⟩) (orCall (oneCall ⟨_, _, _⟩) (orCall (oneCall ⟨_, _, _⟩) (orCall (gCall A.g0) (gCall A.g13)))))))),
    (oneCall_ok p1).or ((oneCall_ok p3).or ((oneCall_ok p4).or ((oneCall_ok p0).or ((oneCall_ok awake_pure).or ((oneCall_ok p5).or ((oneCall_ok p6).or (c1.or c2))))))), law_valid0 a m' s' l' w' e _ ?_ ?_ ?_ ?_ ?_ ?_ ?_ ?_ ?_ ?_⟩
  all_goals intros; simp [orCall_eq, oneCall_self, oneCall_ne, g1, g2, g3, g4, g5]

theorem law_valid_x1 (a : List UInt8) : ∃ x, CallOk Tryz.prog x ∧ Gives (orK (cFunc Tryz.prog) x 200 10 3 [stV wIdle 0 true false, .str a] (base 10) none) (.bool true) := by
  have hc : chk wIdle 0 true false = 0 := by decide
  have p0 : Pure Tryz.prog ⟨12, [stV wIdle 0 true false], .int .i64 0⟩ := hc ▸ pCheck_pure wIdle 0 true false
  have p4 : Pure Tryz.prog ⟨8, [stV wIdle 0 true false], .int .i64 0⟩ := hc ▸ rCheck_pure wIdle 0 true false
  obtain ⟨m', s', l', w', e, p1, p5⟩ := act_valid hc a
  have p3 : Pure Tryz.prog ⟨7, [stV wIdle 0 true false], .tup [.bool false, .int .i64 0]⟩ := moves_valid ⟨_, List.mem_of_getElem? (i := 1) rfl, rfl⟩
  have p6 : Pure Tryz.prog ⟨11, [stV wIdle 0 true false], .bool false⟩ := rmoves_valid ⟨_, List.mem_of_getElem? (i := 1) rfl, rfl⟩
  have c1 := A.L_pipelineActs_ok A.progOk A.LS_pure A.g1 (List.mem_of_getElem? (i := 1) rfl)
  have c2 := A.L_lensletref09Acts_ok A.progOk A.LS_pure A.g14 (List.mem_of_getElem? (i := 1) rfl)
  have g1 : ∀ h n w, gCall A.g1 (.func 6 [] []) [stV wIdle 0 true false] ⟨h, n, w⟩ = some (.tup [.slice n 0 3 none 1, .int .i64 0], ⟨h.set n (.cells [(.str [115, 116, 97, 114, 116]), (.str [102, 105, 110, 100]), (.str [103, 117, 115, 116])] 9 true), n + 1, w⟩) := fun _ _ _ => by kernel_rfl
  have g2 : ∀ h n w, gCall A.g14 (.func 10 [] []) [stV wIdle 0 true false] ⟨h, n, w⟩ = some (.slice n 0 3 none 1, ⟨h.set n (.cells [(.str [115, 116, 97, 114, 116]), (.str [102, 105, 110, 100]), (.str [103, 117, 115, 116])] 9 true), n + 1, w⟩) := fun _ _ _ => by kernel_rfl
  have g3 : ∀ args st, gCall A.g1 (.func 13 [] []) args st = none := fun _ _ => by kernel_rfl
  have g4 : ∀ args st, gCall A.g14 (.func 13 [] []) args st = none := fun _ _ => by kernel_rfl
  have g5 : ∀ args st, gCall A.g1 (.func 10 [] []) args st = none := fun _ _ => by kernel_rfl
  refine ⟨orCall (oneCall ⟨_, _, _⟩) (orCall (oneCall ⟨_, _, _⟩) (orCall (oneCall ⟨_, _, _⟩) (orCall (oneCall ⟨_, _, _⟩) (orCall (oneCall ⟨_, _, _⟩) (orCall (oneCall ⟨_, _, _⟩) (orCall (oneCall ⟨_, _, _⟩) (orCall (gCall A.g1) (gCall A.g14)))))))),
    (oneCall_ok p1).or ((oneCall_ok p3).or ((oneCall_ok p4).or ((oneCall_ok p0).or ((oneCall_ok awake_pure).or ((oneCall_ok p5).or ((oneCall_ok p6).or (c1.or c2))))))), law_valid1 a m' s' l' w' e _ ?_ ?_ ?_ ?_ ?_ ?_ ?_ ?_ ?_ ?_⟩
  all_goals intros; simp [orCall_eq, oneCall_self, oneCall_ne, g1, g2, g3, g4, g5]

theorem law_valid_x2 (a : List UInt8) : ∃ x, CallOk Tryz.prog x ∧ Gives (orK (cFunc Tryz.prog) x 200 10 3 [stV wIdle 0 false true, .str a] (base 10) none) (.bool true) := by
  have hc : chk wIdle 0 false true = 0 := by decide
  have p0 : Pure Tryz.prog ⟨12, [stV wIdle 0 false true], .int .i64 0⟩ := hc ▸ pCheck_pure wIdle 0 false true
  have p4 : Pure Tryz.prog ⟨8, [stV wIdle 0 false true], .int .i64 0⟩ := hc ▸ rCheck_pure wIdle 0 false true
  obtain ⟨m', s', l', w', e, p1, p5⟩ := act_valid hc a
  have p3 : Pure Tryz.prog ⟨7, [stV wIdle 0 false true], .tup [.bool false, .int .i64 0]⟩ := moves_valid ⟨_, List.mem_of_getElem? (i := 2) rfl, rfl⟩
  have p6 : Pure Tryz.prog ⟨11, [stV wIdle 0 false true], .bool false⟩ := rmoves_valid ⟨_, List.mem_of_getElem? (i := 2) rfl, rfl⟩
  have c1 := A.L_pipelineActs_ok A.progOk A.LS_pure A.g2 (List.mem_of_getElem? (i := 2) rfl)
  have c2 := A.L_lensletref09Acts_ok A.progOk A.LS_pure A.g15 (List.mem_of_getElem? (i := 2) rfl)
  have g1 : ∀ h n w, gCall A.g2 (.func 6 [] []) [stV wIdle 0 false true] ⟨h, n, w⟩ = some (.tup [.slice n 0 2 none 1, .int .i64 0], ⟨h.set n (.cells [(.str [108, 111, 115, 101]), (.str [99, 97, 108, 109])] 9 true), n + 1, w⟩) := fun _ _ _ => by kernel_rfl
  have g2 : ∀ h n w, gCall A.g15 (.func 10 [] []) [stV wIdle 0 false true] ⟨h, n, w⟩ = some (.slice n 0 2 none 1, ⟨h.set n (.cells [(.str [108, 111, 115, 101]), (.str [99, 97, 108, 109])] 9 true), n + 1, w⟩) := fun _ _ _ => by kernel_rfl
  have g3 : ∀ args st, gCall A.g2 (.func 13 [] []) args st = none := fun _ _ => by kernel_rfl
  have g4 : ∀ args st, gCall A.g15 (.func 13 [] []) args st = none := fun _ _ => by kernel_rfl
  have g5 : ∀ args st, gCall A.g2 (.func 10 [] []) args st = none := fun _ _ => by kernel_rfl
  refine ⟨orCall (oneCall ⟨_, _, _⟩) (orCall (oneCall ⟨_, _, _⟩) (orCall (oneCall ⟨_, _, _⟩) (orCall (oneCall ⟨_, _, _⟩) (orCall (oneCall ⟨_, _, _⟩) (orCall (oneCall ⟨_, _, _⟩) (orCall (oneCall ⟨_, _, _⟩) (orCall (gCall A.g2) (gCall A.g15)))))))),
    (oneCall_ok p1).or ((oneCall_ok p3).or ((oneCall_ok p4).or ((oneCall_ok p0).or ((oneCall_ok awake_pure).or ((oneCall_ok p5).or ((oneCall_ok p6).or (c1.or c2))))))), law_valid2 a m' s' l' w' e _ ?_ ?_ ?_ ?_ ?_ ?_ ?_ ?_ ?_ ?_⟩
  all_goals intros; simp [orCall_eq, oneCall_self, oneCall_ne, g1, g2, g3, g4, g5]

theorem law_valid_x3 (a : List UInt8) : ∃ x, CallOk Tryz.prog x ∧ Gives (orK (cFunc Tryz.prog) x 200 10 3 [stV wIdle 0 true true, .str a] (base 10) none) (.bool true) := by
  have hc : chk wIdle 0 true true = 0 := by decide
  have p0 : Pure Tryz.prog ⟨12, [stV wIdle 0 true true], .int .i64 0⟩ := hc ▸ pCheck_pure wIdle 0 true true
  have p4 : Pure Tryz.prog ⟨8, [stV wIdle 0 true true], .int .i64 0⟩ := hc ▸ rCheck_pure wIdle 0 true true
  obtain ⟨m', s', l', w', e, p1, p5⟩ := act_valid hc a
  have p3 : Pure Tryz.prog ⟨7, [stV wIdle 0 true true], .tup [.bool false, .int .i64 0]⟩ := moves_valid ⟨_, List.mem_of_getElem? (i := 3) rfl, rfl⟩
  have p6 : Pure Tryz.prog ⟨11, [stV wIdle 0 true true], .bool false⟩ := rmoves_valid ⟨_, List.mem_of_getElem? (i := 3) rfl, rfl⟩
  have c1 := A.L_pipelineActs_ok A.progOk A.LS_pure A.g3 (List.mem_of_getElem? (i := 3) rfl)
  have c2 := A.L_lensletref09Acts_ok A.progOk A.LS_pure A.g16 (List.mem_of_getElem? (i := 3) rfl)
  have g1 : ∀ h n w, gCall A.g3 (.func 6 [] []) [stV wIdle 0 true true] ⟨h, n, w⟩ = some (.tup [.slice n 0 2 none 1, .int .i64 0], ⟨h.set n (.cells [(.str [102, 105, 110, 100]), (.str [99, 97, 108, 109])] 9 true), n + 1, w⟩) := fun _ _ _ => by kernel_rfl
  have g2 : ∀ h n w, gCall A.g16 (.func 10 [] []) [stV wIdle 0 true true] ⟨h, n, w⟩ = some (.slice n 0 2 none 1, ⟨h.set n (.cells [(.str [102, 105, 110, 100]), (.str [99, 97, 108, 109])] 9 true), n + 1, w⟩) := fun _ _ _ => by kernel_rfl
  have g3 : ∀ args st, gCall A.g3 (.func 13 [] []) args st = none := fun _ _ => by kernel_rfl
  have g4 : ∀ args st, gCall A.g16 (.func 13 [] []) args st = none := fun _ _ => by kernel_rfl
  have g5 : ∀ args st, gCall A.g3 (.func 10 [] []) args st = none := fun _ _ => by kernel_rfl
  refine ⟨orCall (oneCall ⟨_, _, _⟩) (orCall (oneCall ⟨_, _, _⟩) (orCall (oneCall ⟨_, _, _⟩) (orCall (oneCall ⟨_, _, _⟩) (orCall (oneCall ⟨_, _, _⟩) (orCall (oneCall ⟨_, _, _⟩) (orCall (oneCall ⟨_, _, _⟩) (orCall (gCall A.g3) (gCall A.g16)))))))),
    (oneCall_ok p1).or ((oneCall_ok p3).or ((oneCall_ok p4).or ((oneCall_ok p0).or ((oneCall_ok awake_pure).or ((oneCall_ok p5).or ((oneCall_ok p6).or (c1.or c2))))))), law_valid3 a m' s' l' w' e _ ?_ ?_ ?_ ?_ ?_ ?_ ?_ ?_ ?_ ?_⟩
  all_goals intros; simp [orCall_eq, oneCall_self, oneCall_ne, g1, g2, g3, g4, g5]

theorem law_valid_x4 (a : List UInt8) : ∃ x, CallOk Tryz.prog x ∧ Gives (orK (cFunc Tryz.prog) x 200 10 3 [stV wOpen 0 false false, .str a] (base 10) none) (.bool true) := by
  have hc : chk wOpen 0 false false = 0 := by decide
  have p0 : Pure Tryz.prog ⟨12, [stV wOpen 0 false false], .int .i64 0⟩ := hc ▸ pCheck_pure wOpen 0 false false
  have p4 : Pure Tryz.prog ⟨8, [stV wOpen 0 false false], .int .i64 0⟩ := hc ▸ rCheck_pure wOpen 0 false false
  obtain ⟨m', s', l', w', e, p1, p5⟩ := act_valid hc a
  have p3 : Pure Tryz.prog ⟨7, [stV wOpen 0 false false], .tup [.bool false, .int .i64 0]⟩ := moves_valid ⟨_, List.mem_of_getElem? (i := 4) rfl, rfl⟩
  have p6 : Pure Tryz.prog ⟨11, [stV wOpen 0 false false], .bool false⟩ := rmoves_valid ⟨_, List.mem_of_getElem? (i := 4) rfl, rfl⟩
  have c1 := A.L_pipelineActs_ok A.progOk A.LS_pure A.g4 (List.mem_of_getElem? (i := 4) rfl)
  have c2 := A.L_lensletref09Acts_ok A.progOk A.LS_pure A.g17 (List.mem_of_getElem? (i := 4) rfl)
  have g1 : ∀ h n w, gCall A.g4 (.func 6 [] []) [stV wOpen 0 false false] ⟨h, n, w⟩ = some (.tup [.slice n 0 4 none 1, .int .i64 0], ⟨h.set n (.cells [(.str [99, 108, 111, 115, 101]), (.str [115, 116, 111, 112]), (.str [108, 111, 115, 101]), (.str [103, 117, 115, 116])] 9 true), n + 1, w⟩) := fun _ _ _ => by kernel_rfl
  have g2 : ∀ h n w, gCall A.g17 (.func 10 [] []) [stV wOpen 0 false false] ⟨h, n, w⟩ = some (.slice n 0 4 none 1, ⟨h.set n (.cells [(.str [99, 108, 111, 115, 101]), (.str [115, 116, 111, 112]), (.str [108, 111, 115, 101]), (.str [103, 117, 115, 116])] 9 true), n + 1, w⟩) := fun _ _ _ => by kernel_rfl
  have g3 : ∀ args st, gCall A.g4 (.func 13 [] []) args st = none := fun _ _ => by kernel_rfl
  have g4 : ∀ args st, gCall A.g17 (.func 13 [] []) args st = none := fun _ _ => by kernel_rfl
  have g5 : ∀ args st, gCall A.g4 (.func 10 [] []) args st = none := fun _ _ => by kernel_rfl
  refine ⟨orCall (oneCall ⟨_, _, _⟩) (orCall (oneCall ⟨_, _, _⟩) (orCall (oneCall ⟨_, _, _⟩) (orCall (oneCall ⟨_, _, _⟩) (orCall (oneCall ⟨_, _, _⟩) (orCall (oneCall ⟨_, _, _⟩) (orCall (oneCall ⟨_, _, _⟩) (orCall (gCall A.g4) (gCall A.g17)))))))),
    (oneCall_ok p1).or ((oneCall_ok p3).or ((oneCall_ok p4).or ((oneCall_ok p0).or ((oneCall_ok awake_pure).or ((oneCall_ok p5).or ((oneCall_ok p6).or (c1.or c2))))))), law_valid4 a m' s' l' w' e _ ?_ ?_ ?_ ?_ ?_ ?_ ?_ ?_ ?_ ?_⟩
  all_goals intros; simp [orCall_eq, oneCall_self, oneCall_ne, g1, g2, g3, g4, g5]

theorem law_valid_x5 (a : List UInt8) : ∃ x, CallOk Tryz.prog x ∧ Gives (orK (cFunc Tryz.prog) x 200 10 3 [stV wOpen 0 true false, .str a] (base 10) none) (.bool true) := by
  have hc : chk wOpen 0 true false = 0 := by decide
  have p0 : Pure Tryz.prog ⟨12, [stV wOpen 0 true false], .int .i64 0⟩ := hc ▸ pCheck_pure wOpen 0 true false
  have p4 : Pure Tryz.prog ⟨8, [stV wOpen 0 true false], .int .i64 0⟩ := hc ▸ rCheck_pure wOpen 0 true false
  obtain ⟨m', s', l', w', e, p1, p5⟩ := act_valid hc a
  have p3 : Pure Tryz.prog ⟨7, [stV wOpen 0 true false], .tup [.bool false, .int .i64 0]⟩ := moves_valid ⟨_, List.mem_of_getElem? (i := 5) rfl, rfl⟩
  have p6 : Pure Tryz.prog ⟨11, [stV wOpen 0 true false], .bool false⟩ := rmoves_valid ⟨_, List.mem_of_getElem? (i := 5) rfl, rfl⟩
  have c1 := A.L_pipelineActs_ok A.progOk A.LS_pure A.g5 (List.mem_of_getElem? (i := 5) rfl)
  have c2 := A.L_lensletref09Acts_ok A.progOk A.LS_pure A.g18 (List.mem_of_getElem? (i := 5) rfl)
  have g1 : ∀ h n w, gCall A.g5 (.func 6 [] []) [stV wOpen 0 true false] ⟨h, n, w⟩ = some (.tup [.slice n 0 3 none 1, .int .i64 0], ⟨h.set n (.cells [(.str [115, 116, 111, 112]), (.str [102, 105, 110, 100]), (.str [103, 117, 115, 116])] 9 true), n + 1, w⟩) := fun _ _ _ => by kernel_rfl
  have g2 : ∀ h n w, gCall A.g18 (.func 10 [] []) [stV wOpen 0 true false] ⟨h, n, w⟩ = some (.slice n 0 3 none 1, ⟨h.set n (.cells [(.str [115, 116, 111, 112]), (.str [102, 105, 110, 100]), (.str [103, 117, 115, 116])] 9 true), n + 1, w⟩) := fun _ _ _ => by kernel_rfl
  have g3 : ∀ args st, gCall A.g5 (.func 13 [] []) args st = none := fun _ _ => by kernel_rfl
  have g4 : ∀ args st, gCall A.g18 (.func 13 [] []) args st = none := fun _ _ => by kernel_rfl
  have g5 : ∀ args st, gCall A.g5 (.func 10 [] []) args st = none := fun _ _ => by kernel_rfl
  refine ⟨orCall (oneCall ⟨_, _, _⟩) (orCall (oneCall ⟨_, _, _⟩) (orCall (oneCall ⟨_, _, _⟩) (orCall (oneCall ⟨_, _, _⟩) (orCall (oneCall ⟨_, _, _⟩) (orCall (oneCall ⟨_, _, _⟩) (orCall (oneCall ⟨_, _, _⟩) (orCall (gCall A.g5) (gCall A.g18)))))))),
    (oneCall_ok p1).or ((oneCall_ok p3).or ((oneCall_ok p4).or ((oneCall_ok p0).or ((oneCall_ok awake_pure).or ((oneCall_ok p5).or ((oneCall_ok p6).or (c1.or c2))))))), law_valid5 a m' s' l' w' e _ ?_ ?_ ?_ ?_ ?_ ?_ ?_ ?_ ?_ ?_⟩
  all_goals intros; simp [orCall_eq, oneCall_self, oneCall_ne, g1, g2, g3, g4, g5]

theorem law_valid_x6 (a : List UInt8) : ∃ x, CallOk Tryz.prog x ∧ Gives (orK (cFunc Tryz.prog) x 200 10 3 [stV wClosed 0 false false, .str a] (base 10) none) (.bool true) := by
  have hc : chk wClosed 0 false false = 0 := by decide
  have p0 : Pure Tryz.prog ⟨12, [stV wClosed 0 false false], .int .i64 0⟩ := hc ▸ pCheck_pure wClosed 0 false false
  have p4 : Pure Tryz.prog ⟨8, [stV wClosed 0 false false], .int .i64 0⟩ := hc ▸ rCheck_pure wClosed 0 false false
  obtain ⟨m', s', l', w', e, p1, p5⟩ := act_valid hc a
  have p3 : Pure Tryz.prog ⟨7, [stV wClosed 0 false false], .tup [.bool true, .int .i64 0]⟩ := moves_valid ⟨_, List.mem_of_getElem? (i := 6) rfl, rfl⟩
  have p6 : Pure Tryz.prog ⟨11, [stV wClosed 0 false false], .bool true⟩ := rmoves_valid ⟨_, List.mem_of_getElem? (i := 6) rfl, rfl⟩
  have c1 := A.L_pipelineActs_ok A.progOk A.LS_pure A.g6 (List.mem_of_getElem? (i := 6) rfl)
  have c2 := A.L_lensletref09Acts_ok A.progOk A.LS_pure A.g19 (List.mem_of_getElem? (i := 6) rfl)
  have g1 : ∀ h n w, gCall A.g6 (.func 6 [] []) [stV wClosed 0 false false] ⟨h, n, w⟩ = some (.tup [.slice n 0 6 none 1, .int .i64 0], ⟨h.set n (.cells [(.str [111, 112, 101, 110]), (.str [115, 116, 111, 112]), (.str [115, 97, 116, 117, 114, 97, 116, 101]), (.str [99, 108, 101, 97, 114]), (.str [108, 111, 115, 101]), (.str [103, 117, 115, 116])] 9 true), n + 1, w⟩) := fun _ _ _ => by kernel_rfl
  have g2 : ∀ h n w, gCall A.g19 (.func 10 [] []) [stV wClosed 0 false false] ⟨h, n, w⟩ = some (.slice n 0 6 none 1, ⟨h.set n (.cells [(.str [111, 112, 101, 110]), (.str [115, 116, 111, 112]), (.str [115, 97, 116, 117, 114, 97, 116, 101]), (.str [99, 108, 101, 97, 114]), (.str [108, 111, 115, 101]), (.str [103, 117, 115, 116])] 9 true), n + 1, w⟩) := fun _ _ _ => by kernel_rfl
  have g3 : ∀ args st, gCall A.g6 (.func 13 [] []) args st = none := fun _ _ => by kernel_rfl
  have g4 : ∀ args st, gCall A.g19 (.func 13 [] []) args st = none := fun _ _ => by kernel_rfl
  have g5 : ∀ args st, gCall A.g6 (.func 10 [] []) args st = none := fun _ _ => by kernel_rfl
  refine ⟨orCall (oneCall ⟨_, _, _⟩) (orCall (oneCall ⟨_, _, _⟩) (orCall (oneCall ⟨_, _, _⟩) (orCall (oneCall ⟨_, _, _⟩) (orCall (oneCall ⟨_, _, _⟩) (orCall (oneCall ⟨_, _, _⟩) (orCall (oneCall ⟨_, _, _⟩) (orCall (gCall A.g6) (gCall A.g19)))))))),
    (oneCall_ok p1).or ((oneCall_ok p3).or ((oneCall_ok p4).or ((oneCall_ok p0).or ((oneCall_ok awake_pure).or ((oneCall_ok p5).or ((oneCall_ok p6).or (c1.or c2))))))), law_valid6 a m' s' l' w' e _ ?_ ?_ ?_ ?_ ?_ ?_ ?_ ?_ ?_ ?_⟩
  all_goals intros; simp [orCall_eq, oneCall_self, oneCall_ne, g1, g2, g3, g4, g5]

theorem law_valid_x7 (a : List UInt8) : ∃ x, CallOk Tryz.prog x ∧ Gives (orK (cFunc Tryz.prog) x 200 10 3 [stV wClosed 1 false false, .str a] (base 10) none) (.bool true) := by
  have hc : chk wClosed 1 false false = 0 := by decide
  have p0 : Pure Tryz.prog ⟨12, [stV wClosed 1 false false], .int .i64 0⟩ := hc ▸ pCheck_pure wClosed 1 false false
  have p4 : Pure Tryz.prog ⟨8, [stV wClosed 1 false false], .int .i64 0⟩ := hc ▸ rCheck_pure wClosed 1 false false
  obtain ⟨m', s', l', w', e, p1, p5⟩ := act_valid hc a
  have p3 : Pure Tryz.prog ⟨7, [stV wClosed 1 false false], .tup [.bool true, .int .i64 0]⟩ := moves_valid ⟨_, List.mem_of_getElem? (i := 7) rfl, rfl⟩
  have p6 : Pure Tryz.prog ⟨11, [stV wClosed 1 false false], .bool true⟩ := rmoves_valid ⟨_, List.mem_of_getElem? (i := 7) rfl, rfl⟩
  have c1 := A.L_pipelineActs_ok A.progOk A.LS_pure A.g7 (List.mem_of_getElem? (i := 7) rfl)
  have c2 := A.L_lensletref09Acts_ok A.progOk A.LS_pure A.g20 (List.mem_of_getElem? (i := 7) rfl)
  have g1 : ∀ h n w, gCall A.g7 (.func 6 [] []) [stV wClosed 1 false false] ⟨h, n, w⟩ = some (.tup [.slice n 0 6 none 1, .int .i64 0], ⟨h.set n (.cells [(.str [111, 112, 101, 110]), (.str [115, 116, 111, 112]), (.str [115, 97, 116, 117, 114, 97, 116, 101]), (.str [99, 108, 101, 97, 114]), (.str [108, 111, 115, 101]), (.str [103, 117, 115, 116])] 9 true), n + 1, w⟩) := fun _ _ _ => by kernel_rfl
  have g2 : ∀ h n w, gCall A.g20 (.func 10 [] []) [stV wClosed 1 false false] ⟨h, n, w⟩ = some (.slice n 0 6 none 1, ⟨h.set n (.cells [(.str [111, 112, 101, 110]), (.str [115, 116, 111, 112]), (.str [115, 97, 116, 117, 114, 97, 116, 101]), (.str [99, 108, 101, 97, 114]), (.str [108, 111, 115, 101]), (.str [103, 117, 115, 116])] 9 true), n + 1, w⟩) := fun _ _ _ => by kernel_rfl
  have g3 : ∀ args st, gCall A.g7 (.func 13 [] []) args st = none := fun _ _ => by kernel_rfl
  have g4 : ∀ args st, gCall A.g20 (.func 13 [] []) args st = none := fun _ _ => by kernel_rfl
  have g5 : ∀ args st, gCall A.g7 (.func 10 [] []) args st = none := fun _ _ => by kernel_rfl
  refine ⟨orCall (oneCall ⟨_, _, _⟩) (orCall (oneCall ⟨_, _, _⟩) (orCall (oneCall ⟨_, _, _⟩) (orCall (oneCall ⟨_, _, _⟩) (orCall (oneCall ⟨_, _, _⟩) (orCall (oneCall ⟨_, _, _⟩) (orCall (oneCall ⟨_, _, _⟩) (orCall (gCall A.g7) (gCall A.g20)))))))),
    (oneCall_ok p1).or ((oneCall_ok p3).or ((oneCall_ok p4).or ((oneCall_ok p0).or ((oneCall_ok awake_pure).or ((oneCall_ok p5).or ((oneCall_ok p6).or (c1.or c2))))))), law_valid7 a m' s' l' w' e _ ?_ ?_ ?_ ?_ ?_ ?_ ?_ ?_ ?_ ?_⟩
  all_goals intros; simp [orCall_eq, oneCall_self, oneCall_ne, g1, g2, g3, g4, g5]

theorem law_valid_x8 (a : List UInt8) : ∃ x, CallOk Tryz.prog x ∧ Gives (orK (cFunc Tryz.prog) x 200 10 3 [stV wClosed 2 false false, .str a] (base 10) none) (.bool true) := by
  have hc : chk wClosed 2 false false = 0 := by decide
  have p0 : Pure Tryz.prog ⟨12, [stV wClosed 2 false false], .int .i64 0⟩ := hc ▸ pCheck_pure wClosed 2 false false
  have p4 : Pure Tryz.prog ⟨8, [stV wClosed 2 false false], .int .i64 0⟩ := hc ▸ rCheck_pure wClosed 2 false false
  obtain ⟨m', s', l', w', e, p1, p5⟩ := act_valid hc a
  have p3 : Pure Tryz.prog ⟨7, [stV wClosed 2 false false], .tup [.bool true, .int .i64 0]⟩ := moves_valid ⟨_, List.mem_of_getElem? (i := 8) rfl, rfl⟩
  have p6 : Pure Tryz.prog ⟨11, [stV wClosed 2 false false], .bool true⟩ := rmoves_valid ⟨_, List.mem_of_getElem? (i := 8) rfl, rfl⟩
  have c1 := A.L_pipelineActs_ok A.progOk A.LS_pure A.g8 (List.mem_of_getElem? (i := 8) rfl)
  have c2 := A.L_lensletref09Acts_ok A.progOk A.LS_pure A.g21 (List.mem_of_getElem? (i := 8) rfl)
  have g1 : ∀ h n w, gCall A.g8 (.func 6 [] []) [stV wClosed 2 false false] ⟨h, n, w⟩ = some (.tup [.slice n 0 6 none 1, .int .i64 0], ⟨h.set n (.cells [(.str [111, 112, 101, 110]), (.str [115, 116, 111, 112]), (.str [115, 97, 116, 117, 114, 97, 116, 101]), (.str [99, 108, 101, 97, 114]), (.str [108, 111, 115, 101]), (.str [103, 117, 115, 116])] 9 true), n + 1, w⟩) := fun _ _ _ => by kernel_rfl
  have g2 : ∀ h n w, gCall A.g21 (.func 10 [] []) [stV wClosed 2 false false] ⟨h, n, w⟩ = some (.slice n 0 6 none 1, ⟨h.set n (.cells [(.str [111, 112, 101, 110]), (.str [115, 116, 111, 112]), (.str [115, 97, 116, 117, 114, 97, 116, 101]), (.str [99, 108, 101, 97, 114]), (.str [108, 111, 115, 101]), (.str [103, 117, 115, 116])] 9 true), n + 1, w⟩) := fun _ _ _ => by kernel_rfl
  have g3 : ∀ args st, gCall A.g8 (.func 13 [] []) args st = none := fun _ _ => by kernel_rfl
  have g4 : ∀ args st, gCall A.g21 (.func 13 [] []) args st = none := fun _ _ => by kernel_rfl
  have g5 : ∀ args st, gCall A.g8 (.func 10 [] []) args st = none := fun _ _ => by kernel_rfl
  refine ⟨orCall (oneCall ⟨_, _, _⟩) (orCall (oneCall ⟨_, _, _⟩) (orCall (oneCall ⟨_, _, _⟩) (orCall (oneCall ⟨_, _, _⟩) (orCall (oneCall ⟨_, _, _⟩) (orCall (oneCall ⟨_, _, _⟩) (orCall (oneCall ⟨_, _, _⟩) (orCall (gCall A.g8) (gCall A.g21)))))))),
    (oneCall_ok p1).or ((oneCall_ok p3).or ((oneCall_ok p4).or ((oneCall_ok p0).or ((oneCall_ok awake_pure).or ((oneCall_ok p5).or ((oneCall_ok p6).or (c1.or c2))))))), law_valid8 a m' s' l' w' e _ ?_ ?_ ?_ ?_ ?_ ?_ ?_ ?_ ?_ ?_⟩
  all_goals intros; simp [orCall_eq, oneCall_self, oneCall_ne, g1, g2, g3, g4, g5]

theorem law_valid_x9 (a : List UInt8) : ∃ x, CallOk Tryz.prog x ∧ Gives (orK (cFunc Tryz.prog) x 200 10 3 [stV wSafe 0 false false, .str a] (base 10) none) (.bool true) := by
  have hc : chk wSafe 0 false false = 0 := by decide
  have p0 : Pure Tryz.prog ⟨12, [stV wSafe 0 false false], .int .i64 0⟩ := hc ▸ pCheck_pure wSafe 0 false false
  have p4 : Pure Tryz.prog ⟨8, [stV wSafe 0 false false], .int .i64 0⟩ := hc ▸ rCheck_pure wSafe 0 false false
  obtain ⟨m', s', l', w', e, p1, p5⟩ := act_valid hc a
  have p3 : Pure Tryz.prog ⟨7, [stV wSafe 0 false false], .tup [.bool false, .int .i64 0]⟩ := moves_valid ⟨_, List.mem_of_getElem? (i := 9) rfl, rfl⟩
  have p6 : Pure Tryz.prog ⟨11, [stV wSafe 0 false false], .bool false⟩ := rmoves_valid ⟨_, List.mem_of_getElem? (i := 9) rfl, rfl⟩
  have c1 := A.L_pipelineActs_ok A.progOk A.LS_pure A.g9 (List.mem_of_getElem? (i := 9) rfl)
  have c2 := A.L_lensletref09Acts_ok A.progOk A.LS_pure A.g22 (List.mem_of_getElem? (i := 9) rfl)
  have g1 : ∀ h n w, gCall A.g9 (.func 6 [] []) [stV wSafe 0 false false] ⟨h, n, w⟩ = some (.tup [.slice n 0 3 none 1, .int .i64 0], ⟨h.set n (.cells [(.str [108, 111, 115, 101]), (.str [103, 117, 115, 116]), (.str [114, 101, 115, 101, 116])] 9 true), n + 1, w⟩) := fun _ _ _ => by kernel_rfl
  have g2 : ∀ h n w, gCall A.g22 (.func 10 [] []) [stV wSafe 0 false false] ⟨h, n, w⟩ = some (.slice n 0 3 none 1, ⟨h.set n (.cells [(.str [108, 111, 115, 101]), (.str [103, 117, 115, 116]), (.str [114, 101, 115, 101, 116])] 9 true), n + 1, w⟩) := fun _ _ _ => by kernel_rfl
  have g3 : ∀ args st, gCall A.g9 (.func 13 [] []) args st = none := fun _ _ => by kernel_rfl
  have g4 : ∀ args st, gCall A.g22 (.func 13 [] []) args st = none := fun _ _ => by kernel_rfl
  have g5 : ∀ args st, gCall A.g9 (.func 10 [] []) args st = none := fun _ _ => by kernel_rfl
  refine ⟨orCall (oneCall ⟨_, _, _⟩) (orCall (oneCall ⟨_, _, _⟩) (orCall (oneCall ⟨_, _, _⟩) (orCall (oneCall ⟨_, _, _⟩) (orCall (oneCall ⟨_, _, _⟩) (orCall (oneCall ⟨_, _, _⟩) (orCall (oneCall ⟨_, _, _⟩) (orCall (gCall A.g9) (gCall A.g22)))))))),
    (oneCall_ok p1).or ((oneCall_ok p3).or ((oneCall_ok p4).or ((oneCall_ok p0).or ((oneCall_ok awake_pure).or ((oneCall_ok p5).or ((oneCall_ok p6).or (c1.or c2))))))), law_valid9 a m' s' l' w' e _ ?_ ?_ ?_ ?_ ?_ ?_ ?_ ?_ ?_ ?_⟩
  all_goals intros; simp [orCall_eq, oneCall_self, oneCall_ne, g1, g2, g3, g4, g5]

theorem law_valid_x10 (a : List UInt8) : ∃ x, CallOk Tryz.prog x ∧ Gives (orK (cFunc Tryz.prog) x 200 10 3 [stV wSafe 0 true false, .str a] (base 10) none) (.bool true) := by
  have hc : chk wSafe 0 true false = 0 := by decide
  have p0 : Pure Tryz.prog ⟨12, [stV wSafe 0 true false], .int .i64 0⟩ := hc ▸ pCheck_pure wSafe 0 true false
  have p4 : Pure Tryz.prog ⟨8, [stV wSafe 0 true false], .int .i64 0⟩ := hc ▸ rCheck_pure wSafe 0 true false
  obtain ⟨m', s', l', w', e, p1, p5⟩ := act_valid hc a
  have p3 : Pure Tryz.prog ⟨7, [stV wSafe 0 true false], .tup [.bool false, .int .i64 0]⟩ := moves_valid ⟨_, List.mem_of_getElem? (i := 10) rfl, rfl⟩
  have p6 : Pure Tryz.prog ⟨11, [stV wSafe 0 true false], .bool false⟩ := rmoves_valid ⟨_, List.mem_of_getElem? (i := 10) rfl, rfl⟩
  have c1 := A.L_pipelineActs_ok A.progOk A.LS_pure A.g10 (List.mem_of_getElem? (i := 10) rfl)
  have c2 := A.L_lensletref09Acts_ok A.progOk A.LS_pure A.g23 (List.mem_of_getElem? (i := 10) rfl)
  have g1 : ∀ h n w, gCall A.g10 (.func 6 [] []) [stV wSafe 0 true false] ⟨h, n, w⟩ = some (.tup [.slice n 0 3 none 1, .int .i64 0], ⟨h.set n (.cells [(.str [102, 105, 110, 100]), (.str [103, 117, 115, 116]), (.str [114, 101, 115, 101, 116])] 9 true), n + 1, w⟩) := fun _ _ _ => by kernel_rfl
  have g2 : ∀ h n w, gCall A.g23 (.func 10 [] []) [stV wSafe 0 true false] ⟨h, n, w⟩ = some (.slice n 0 3 none 1, ⟨h.set n (.cells [(.str [102, 105, 110, 100]), (.str [103, 117, 115, 116]), (.str [114, 101, 115, 101, 116])] 9 true), n + 1, w⟩) := fun _ _ _ => by kernel_rfl
  have g3 : ∀ args st, gCall A.g10 (.func 13 [] []) args st = none := fun _ _ => by kernel_rfl
  have g4 : ∀ args st, gCall A.g23 (.func 13 [] []) args st = none := fun _ _ => by kernel_rfl
  have g5 : ∀ args st, gCall A.g10 (.func 10 [] []) args st = none := fun _ _ => by kernel_rfl
  refine ⟨orCall (oneCall ⟨_, _, _⟩) (orCall (oneCall ⟨_, _, _⟩) (orCall (oneCall ⟨_, _, _⟩) (orCall (oneCall ⟨_, _, _⟩) (orCall (oneCall ⟨_, _, _⟩) (orCall (oneCall ⟨_, _, _⟩) (orCall (oneCall ⟨_, _, _⟩) (orCall (gCall A.g10) (gCall A.g23)))))))),
    (oneCall_ok p1).or ((oneCall_ok p3).or ((oneCall_ok p4).or ((oneCall_ok p0).or ((oneCall_ok awake_pure).or ((oneCall_ok p5).or ((oneCall_ok p6).or (c1.or c2))))))), law_valid10 a m' s' l' w' e _ ?_ ?_ ?_ ?_ ?_ ?_ ?_ ?_ ?_ ?_⟩
  all_goals intros; simp [orCall_eq, oneCall_self, oneCall_ne, g1, g2, g3, g4, g5]

theorem law_valid_x11 (a : List UInt8) : ∃ x, CallOk Tryz.prog x ∧ Gives (orK (cFunc Tryz.prog) x 200 10 3 [stV wSafe 0 false true, .str a] (base 10) none) (.bool true) := by
  have hc : chk wSafe 0 false true = 0 := by decide
  have p0 : Pure Tryz.prog ⟨12, [stV wSafe 0 false true], .int .i64 0⟩ := hc ▸ pCheck_pure wSafe 0 false true
  have p4 : Pure Tryz.prog ⟨8, [stV wSafe 0 false true], .int .i64 0⟩ := hc ▸ rCheck_pure wSafe 0 false true
  obtain ⟨m', s', l', w', e, p1, p5⟩ := act_valid hc a
  have p3 : Pure Tryz.prog ⟨7, [stV wSafe 0 false true], .tup [.bool false, .int .i64 0]⟩ := moves_valid ⟨_, List.mem_of_getElem? (i := 11) rfl, rfl⟩
  have p6 : Pure Tryz.prog ⟨11, [stV wSafe 0 false true], .bool false⟩ := rmoves_valid ⟨_, List.mem_of_getElem? (i := 11) rfl, rfl⟩
  have c1 := A.L_pipelineActs_ok A.progOk A.LS_pure A.g11 (List.mem_of_getElem? (i := 11) rfl)
  have c2 := A.L_lensletref09Acts_ok A.progOk A.LS_pure A.g24 (List.mem_of_getElem? (i := 11) rfl)
  have g1 : ∀ h n w, gCall A.g11 (.func 6 [] []) [stV wSafe 0 false true] ⟨h, n, w⟩ = some (.tup [.slice n 0 2 none 1, .int .i64 0], ⟨h.set n (.cells [(.str [108, 111, 115, 101]), (.str [99, 97, 108, 109])] 9 true), n + 1, w⟩) := fun _ _ _ => by kernel_rfl
  have g2 : ∀ h n w, gCall A.g24 (.func 10 [] []) [stV wSafe 0 false true] ⟨h, n, w⟩ = some (.slice n 0 2 none 1, ⟨h.set n (.cells [(.str [108, 111, 115, 101]), (.str [99, 97, 108, 109])] 9 true), n + 1, w⟩) := fun _ _ _ => by kernel_rfl
  have g3 : ∀ args st, gCall A.g11 (.func 13 [] []) args st = none := fun _ _ => by kernel_rfl
  have g4 : ∀ args st, gCall A.g24 (.func 13 [] []) args st = none := fun _ _ => by kernel_rfl
  have g5 : ∀ args st, gCall A.g11 (.func 10 [] []) args st = none := fun _ _ => by kernel_rfl
  refine ⟨orCall (oneCall ⟨_, _, _⟩) (orCall (oneCall ⟨_, _, _⟩) (orCall (oneCall ⟨_, _, _⟩) (orCall (oneCall ⟨_, _, _⟩) (orCall (oneCall ⟨_, _, _⟩) (orCall (oneCall ⟨_, _, _⟩) (orCall (oneCall ⟨_, _, _⟩) (orCall (gCall A.g11) (gCall A.g24)))))))),
    (oneCall_ok p1).or ((oneCall_ok p3).or ((oneCall_ok p4).or ((oneCall_ok p0).or ((oneCall_ok awake_pure).or ((oneCall_ok p5).or ((oneCall_ok p6).or (c1.or c2))))))), law_valid11 a m' s' l' w' e _ ?_ ?_ ?_ ?_ ?_ ?_ ?_ ?_ ?_ ?_⟩
  all_goals intros; simp [orCall_eq, oneCall_self, oneCall_ne, g1, g2, g3, g4, g5]

theorem law_valid_x12 (a : List UInt8) : ∃ x, CallOk Tryz.prog x ∧ Gives (orK (cFunc Tryz.prog) x 200 10 3 [stV wSafe 0 true true, .str a] (base 10) none) (.bool true) := by
  have hc : chk wSafe 0 true true = 0 := by decide
  have p0 : Pure Tryz.prog ⟨12, [stV wSafe 0 true true], .int .i64 0⟩ := hc ▸ pCheck_pure wSafe 0 true true
  have p4 : Pure Tryz.prog ⟨8, [stV wSafe 0 true true], .int .i64 0⟩ := hc ▸ rCheck_pure wSafe 0 true true
  obtain ⟨m', s', l', w', e, p1, p5⟩ := act_valid hc a
  have p3 : Pure Tryz.prog ⟨7, [stV wSafe 0 true true], .tup [.bool false, .int .i64 0]⟩ := moves_valid ⟨_, List.mem_of_getElem? (i := 12) rfl, rfl⟩
  have p6 : Pure Tryz.prog ⟨11, [stV wSafe 0 true true], .bool false⟩ := rmoves_valid ⟨_, List.mem_of_getElem? (i := 12) rfl, rfl⟩
  have c1 := A.L_pipelineActs_ok A.progOk A.LS_pure A.g12 (List.mem_of_getElem? (i := 12) rfl)
  have c2 := A.L_lensletref09Acts_ok A.progOk A.LS_pure A.g25 (List.mem_of_getElem? (i := 12) rfl)
  have g1 : ∀ h n w, gCall A.g12 (.func 6 [] []) [stV wSafe 0 true true] ⟨h, n, w⟩ = some (.tup [.slice n 0 2 none 1, .int .i64 0], ⟨h.set n (.cells [(.str [102, 105, 110, 100]), (.str [99, 97, 108, 109])] 9 true), n + 1, w⟩) := fun _ _ _ => by kernel_rfl
  have g2 : ∀ h n w, gCall A.g25 (.func 10 [] []) [stV wSafe 0 true true] ⟨h, n, w⟩ = some (.slice n 0 2 none 1, ⟨h.set n (.cells [(.str [102, 105, 110, 100]), (.str [99, 97, 108, 109])] 9 true), n + 1, w⟩) := fun _ _ _ => by kernel_rfl
  have g3 : ∀ args st, gCall A.g12 (.func 13 [] []) args st = none := fun _ _ => by kernel_rfl
  have g4 : ∀ args st, gCall A.g25 (.func 13 [] []) args st = none := fun _ _ => by kernel_rfl
  have g5 : ∀ args st, gCall A.g12 (.func 10 [] []) args st = none := fun _ _ => by kernel_rfl
  refine ⟨orCall (oneCall ⟨_, _, _⟩) (orCall (oneCall ⟨_, _, _⟩) (orCall (oneCall ⟨_, _, _⟩) (orCall (oneCall ⟨_, _, _⟩) (orCall (oneCall ⟨_, _, _⟩) (orCall (oneCall ⟨_, _, _⟩) (orCall (oneCall ⟨_, _, _⟩) (orCall (gCall A.g12) (gCall A.g25)))))))),
    (oneCall_ok p1).or ((oneCall_ok p3).or ((oneCall_ok p4).or ((oneCall_ok p0).or ((oneCall_ok awake_pure).or ((oneCall_ok p5).or ((oneCall_ok p6).or (c1.or c2))))))), law_valid12 a m' s' l' w' e _ ?_ ?_ ?_ ?_ ?_ ?_ ?_ ?_ ?_ ?_⟩
  all_goals intros; simp [orCall_eq, oneCall_self, oneCall_ne, g1, g2, g3, g4, g5]

theorem law_x (m a : List UInt8) (s : Int) (l w : Bool) : ∃ x, CallOk Tryz.prog x ∧ Gives (orK (cFunc Tryz.prog) x 200 10 3 [stV m s l w, .str a] (base 10) none) (.bool true) := by
  by_cases he : chk m s l w = 0
  · have h := chk_zero he
    simp only [states13, List.mem_cons, Prod.mk.injEq, List.mem_nil_iff, or_false] at h
    rcases h with ⟨rfl, rfl, rfl, rfl⟩ | ⟨rfl, rfl, rfl, rfl⟩ | ⟨rfl, rfl, rfl, rfl⟩ | ⟨rfl, rfl, rfl, rfl⟩ | ⟨rfl, rfl, rfl, rfl⟩ | ⟨rfl, rfl, rfl, rfl⟩ | ⟨rfl, rfl, rfl, rfl⟩ | ⟨rfl, rfl, rfl, rfl⟩ | ⟨rfl, rfl, rfl, rfl⟩ | ⟨rfl, rfl, rfl, rfl⟩ | ⟨rfl, rfl, rfl, rfl⟩ | ⟨rfl, rfl, rfl, rfl⟩ | ⟨rfl, rfl, rfl, rfl⟩
    · exact law_valid_x0 a
    · exact law_valid_x1 a
    · exact law_valid_x2 a
    · exact law_valid_x3 a
    · exact law_valid_x4 a
    · exact law_valid_x5 a
    · exact law_valid_x6 a
    · exact law_valid_x7 a
    · exact law_valid_x8 a
    · exact law_valid_x9 a
    · exact law_valid_x10 a
    · exact law_valid_x11 a
    · exact law_valid_x12 a
  · exact law_invalid_x m a s l w he

/-- PipelineStates returns true, whatever the state and the act; nothing that was there is written. -/
theorem states_calls (m a : List UInt8) (s : Int) (l w : Bool) {W : World} (hW : 10 ≤ W.heap.size) :
    Calls Tryz.prog 3 #[.agg #[.string ⟨m.toArray⟩, .int .i64 s, .bool l, .bool w], .string ⟨a.toArray⟩] W fun e W' => e = .returned (.bool true) ∧ RowKit.Below W.heap.size W W' := by
  obtain ⟨x, hx, hg⟩ := law_x m a s l w
  rw [orK_run A.c3] at hg
  refine run_calls A.progOk hx A.c3 hg (by rw [A.globals]; exact hW) (fun μ => ?_) (fun μ z hz => by simpa [VR] using hz)
  simp [VRs, VR]

end Go.Mx
