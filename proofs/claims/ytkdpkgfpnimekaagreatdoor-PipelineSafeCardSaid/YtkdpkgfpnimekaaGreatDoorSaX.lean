/-
  PipelineSafe: its callees, known in each valid state.
-/
import Derived.Test.YtkdpkgfpnimekaaGreatDoorStW
import Derived.Test.YtkdpkgfpnimekaaGreatDoorAwOk
import Derived.Test.YtkdpkgfpnimekaaGreatDoorProg
set_option linter.all false
namespace Go.Mx
open Go Go.Proofs
set_option maxRecDepth 1000000
set_option linter.unusedSimpArgs false
set_option linter.unusedVariables false

theorem awake_safe : Pure Tryz.prog ⟨14, [], .bool true⟩ := (A.tab141 A.progOk).p A.p135 List.mem_cons_self

def gsFind : List GEnt → CallT
  | [], _, _, _ => none
  | e :: l, g, args, S => match gCall e g args S with
    | some r => some r
    | none => gsFind l g args S
theorem gsFind_ok {P : Program} : ∀ {l : List GEnt}, (∀ e ∈ l, CallOk P (gCall e)) → CallOk P (gsFind l)
  | [], _ => fun _ _ _ _ _ h => by cases h
  | e :: l, h => by
    intro g args st v st' hc
    simp only [gsFind] at hc
    split at hc
    · rename_i r hr
      cases hc
      exact h e List.mem_cons_self g args st v st' hr
    · exact gsFind_ok (fun e' he => h e' (List.mem_cons_of_mem _ he)) g args st v st' hc

def A.LSafe : List PEnt := A.L_pipelineAct ++ (A.L_pipelineMoves ++ A.LS)
noncomputable def A.X : CallT := orCall (pCall A.LSafe) (orCall (gsFind A.L_pipelineActs) (oneCall ⟨14, [], .bool true⟩))
theorem A.X_ok : CallOk Tryz.prog A.X := by
  refine (pCall_ok fun e he => ?_).or ((gsFind_ok (A.L_pipelineActs_ok A.progOk A.LS_pure)).or (oneCall_ok awake_safe))
  unfold A.LSafe at he
  rcases List.mem_append.1 he with he | he
  · exact A.L_pipelineAct_ok A.progOk A.LS_pure e he
  · rcases List.mem_append.1 he with he | he
    · exact A.L_pipelineMoves_ok A.progOk A.LS_pure e he
    · exact A.LS_pure e he
theorem A.X16 (args : List V) (st : St) : A.X (.func 16 [] []) args st = none := by
  have h1 : pCall A.LSafe (.func 16 [] []) args st = none := by kernel_rfl
  have h2 : gsFind A.L_pipelineActs (.func 16 [] []) args st = none := by kernel_rfl
  simp [A.X, orCall_eq, h1, h2, oneCall_ne]
theorem A.X15 (args : List V) (st : St) : A.X (.func 15 [] []) args st = none := by
  have h1 : pCall A.LSafe (.func 15 [] []) args st = none := by kernel_rfl
  have h2 : gsFind A.L_pipelineActs (.func 15 [] []) args st = none := by kernel_rfl
  simp [A.X, orCall_eq, h1, h2, oneCall_ne]
theorem A.X14 (st : St) : A.X (.func 14 [] []) [] st = some (.bool true, st) := by
  have h1 : pCall A.LSafe (.func 14 [] []) [] st = none := by kernel_rfl
  have h2 : gsFind A.L_pipelineActs (.func 14 [] []) [] st = none := by kernel_rfl
  simp [A.X, orCall_eq, h1, h2, oneCall_self]
theorem A.X6_0 (h : T O) (n : Nat) (w : List Nat) : A.X (.func 6 [] []) [stV wIdle 0 false false] ⟨h, n, w⟩ = some (.tup [.slice n 0 3 none 1, .int .i64 0], ⟨h.set n (.cells [(.str [115, 116, 97, 114, 116]), (.str [108, 111, 115, 101]), (.str [103, 117, 115, 116])] 9 true), n + 1, w⟩) := by kernel_rfl
theorem A.X7_0 (st : St) : A.X (.func 7 [] []) [stV wIdle 0 false false] st = some (.tup [.bool false, .int .i64 0], st) := by kernel_rfl
theorem A.X8_0 (st : St) : A.X (.func 12 [] []) [stV wIdle 0 false false] st = some (.int .i64 0, st) := by kernel_rfl
theorem A.X5_0_0 (st : St) : A.X (.func 5 [] []) [stV wIdle 0 false false, .str [115, 116, 97, 114, 116]] st = some (.tup [stV wOpen 0 false false, .int .i64 0], st) := by kernel_rfl
theorem A.X5_0_1 (st : St) : A.X (.func 5 [] []) [stV wIdle 0 false false, .str [99, 108, 111, 115, 101]] st = some (.tup [zSt, .int .i64 18], st) := by kernel_rfl
theorem A.X5_0_2 (st : St) : A.X (.func 5 [] []) [stV wIdle 0 false false, .str [111, 112, 101, 110]] st = some (.tup [zSt, .int .i64 18], st) := by kernel_rfl
theorem A.X5_0_3 (st : St) : A.X (.func 5 [] []) [stV wIdle 0 false false, .str [115, 116, 111, 112]] st = some (.tup [zSt, .int .i64 18], st) := by kernel_rfl
theorem A.X5_0_4 (st : St) : A.X (.func 5 [] []) [stV wIdle 0 false false, .str [115, 97, 116, 117, 114, 97, 116, 101]] st = some (.tup [zSt, .int .i64 18], st) := by kernel_rfl
theorem A.X5_0_5 (st : St) : A.X (.func 5 [] []) [stV wIdle 0 false false, .str [99, 108, 101, 97, 114]] st = some (.tup [zSt, .int .i64 18], st) := by kernel_rfl
theorem A.X5_0_6 (st : St) : A.X (.func 5 [] []) [stV wIdle 0 false false, .str [108, 111, 115, 101]] st = some (.tup [stV wIdle 0 true false, .int .i64 0], st) := by kernel_rfl
theorem A.X5_0_7 (st : St) : A.X (.func 5 [] []) [stV wIdle 0 false false, .str [102, 105, 110, 100]] st = some (.tup [zSt, .int .i64 18], st) := by kernel_rfl
theorem A.X5_0_8 (st : St) : A.X (.func 5 [] []) [stV wIdle 0 false false, .str [103, 117, 115, 116]] st = some (.tup [stV wIdle 0 false true, .int .i64 0], st) := by kernel_rfl
theorem A.X5_0_9 (st : St) : A.X (.func 5 [] []) [stV wIdle 0 false false, .str [99, 97, 108, 109]] st = some (.tup [zSt, .int .i64 18], st) := by kernel_rfl
theorem A.X5_0_10 (st : St) : A.X (.func 5 [] []) [stV wIdle 0 false false, .str [114, 101, 115, 101, 116]] st = some (.tup [zSt, .int .i64 18], st) := by kernel_rfl
theorem A.X6_1 (h : T O) (n : Nat) (w : List Nat) : A.X (.func 6 [] []) [stV wIdle 0 true false] ⟨h, n, w⟩ = some (.tup [.slice n 0 3 none 1, .int .i64 0], ⟨h.set n (.cells [(.str [115, 116, 97, 114, 116]), (.str [102, 105, 110, 100]), (.str [103, 117, 115, 116])] 9 true), n + 1, w⟩) := by kernel_rfl
theorem A.X7_1 (st : St) : A.X (.func 7 [] []) [stV wIdle 0 true false] st = some (.tup [.bool false, .int .i64 0], st) := by kernel_rfl
theorem A.X8_1 (st : St) : A.X (.func 12 [] []) [stV wIdle 0 true false] st = some (.int .i64 0, st) := by kernel_rfl
theorem A.X5_1_0 (st : St) : A.X (.func 5 [] []) [stV wIdle 0 true false, .str [115, 116, 97, 114, 116]] st = some (.tup [stV wOpen 0 true false, .int .i64 0], st) := by kernel_rfl
theorem A.X5_1_1 (st : St) : A.X (.func 5 [] []) [stV wIdle 0 true false, .str [99, 108, 111, 115, 101]] st = some (.tup [zSt, .int .i64 18], st) := by kernel_rfl
theorem A.X5_1_2 (st : St) : A.X (.func 5 [] []) [stV wIdle 0 true false, .str [111, 112, 101, 110]] st = some (.tup [zSt, .int .i64 18], st) := by kernel_rfl
theorem A.X5_1_3 (st : St) : A.X (.func 5 [] []) [stV wIdle 0 true false, .str [115, 116, 111, 112]] st = some (.tup [zSt, .int .i64 18], st) := by kernel_rfl
theorem A.X5_1_4 (st : St) : A.X (.func 5 [] []) [stV wIdle 0 true false, .str [115, 97, 116, 117, 114, 97, 116, 101]] st = some (.tup [zSt, .int .i64 18], st) := by kernel_rfl
theorem A.X5_1_5 (st : St) : A.X (.func 5 [] []) [stV wIdle 0 true false, .str [99, 108, 101, 97, 114]] st = some (.tup [zSt, .int .i64 18], st) := by kernel_rfl
theorem A.X5_1_6 (st : St) : A.X (.func 5 [] []) [stV wIdle 0 true false, .str [108, 111, 115, 101]] st = some (.tup [zSt, .int .i64 18], st) := by kernel_rfl
theorem A.X5_1_7 (st : St) : A.X (.func 5 [] []) [stV wIdle 0 true false, .str [102, 105, 110, 100]] st = some (.tup [stV wIdle 0 false false, .int .i64 0], st) := by kernel_rfl
theorem A.X5_1_8 (st : St) : A.X (.func 5 [] []) [stV wIdle 0 true false, .str [103, 117, 115, 116]] st = some (.tup [stV wIdle 0 true true, .int .i64 0], st) := by kernel_rfl
theorem A.X5_1_9 (st : St) : A.X (.func 5 [] []) [stV wIdle 0 true false, .str [99, 97, 108, 109]] st = some (.tup [zSt, .int .i64 18], st) := by kernel_rfl
theorem A.X5_1_10 (st : St) : A.X (.func 5 [] []) [stV wIdle 0 true false, .str [114, 101, 115, 101, 116]] st = some (.tup [zSt, .int .i64 18], st) := by kernel_rfl
theorem A.X6_2 (h : T O) (n : Nat) (w : List Nat) : A.X (.func 6 [] []) [stV wIdle 0 false true] ⟨h, n, w⟩ = some (.tup [.slice n 0 2 none 1, .int .i64 0], ⟨h.set n (.cells [(.str [108, 111, 115, 101]), (.str [99, 97, 108, 109])] 9 true), n + 1, w⟩) := by kernel_rfl
theorem A.X7_2 (st : St) : A.X (.func 7 [] []) [stV wIdle 0 false true] st = some (.tup [.bool false, .int .i64 0], st) := by kernel_rfl
theorem A.X8_2 (st : St) : A.X (.func 12 [] []) [stV wIdle 0 false true] st = some (.int .i64 0, st) := by kernel_rfl
theorem A.X5_2_0 (st : St) : A.X (.func 5 [] []) [stV wIdle 0 false true, .str [115, 116, 97, 114, 116]] st = some (.tup [zSt, .int .i64 18], st) := by kernel_rfl
theorem A.X5_2_1 (st : St) : A.X (.func 5 [] []) [stV wIdle 0 false true, .str [99, 108, 111, 115, 101]] st = some (.tup [zSt, .int .i64 18], st) := by kernel_rfl
theorem A.X5_2_2 (st : St) : A.X (.func 5 [] []) [stV wIdle 0 false true, .str [111, 112, 101, 110]] st = some (.tup [zSt, .int .i64 18], st) := by kernel_rfl
theorem A.X5_2_3 (st : St) : A.X (.func 5 [] []) [stV wIdle 0 false true, .str [115, 116, 111, 112]] st = some (.tup [zSt, .int .i64 18], st) := by kernel_rfl
theorem A.X5_2_4 (st : St) : A.X (.func 5 [] []) [stV wIdle 0 false true, .str [115, 97, 116, 117, 114, 97, 116, 101]] st = some (.tup [zSt, .int .i64 18], st) := by kernel_rfl
theorem A.X5_2_5 (st : St) : A.X (.func 5 [] []) [stV wIdle 0 false true, .str [99, 108, 101, 97, 114]] st = some (.tup [zSt, .int .i64 18], st) := by kernel_rfl
theorem A.X5_2_6 (st : St) : A.X (.func 5 [] []) [stV wIdle 0 false true, .str [108, 111, 115, 101]] st = some (.tup [stV wIdle 0 true true, .int .i64 0], st) := by kernel_rfl
theorem A.X5_2_7 (st : St) : A.X (.func 5 [] []) [stV wIdle 0 false true, .str [102, 105, 110, 100]] st = some (.tup [zSt, .int .i64 18], st) := by kernel_rfl
theorem A.X5_2_8 (st : St) : A.X (.func 5 [] []) [stV wIdle 0 false true, .str [103, 117, 115, 116]] st = some (.tup [zSt, .int .i64 18], st) := by kernel_rfl
theorem A.X5_2_9 (st : St) : A.X (.func 5 [] []) [stV wIdle 0 false true, .str [99, 97, 108, 109]] st = some (.tup [stV wIdle 0 false false, .int .i64 0], st) := by kernel_rfl
theorem A.X5_2_10 (st : St) : A.X (.func 5 [] []) [stV wIdle 0 false true, .str [114, 101, 115, 101, 116]] st = some (.tup [zSt, .int .i64 18], st) := by kernel_rfl
theorem A.X6_3 (h : T O) (n : Nat) (w : List Nat) : A.X (.func 6 [] []) [stV wIdle 0 true true] ⟨h, n, w⟩ = some (.tup [.slice n 0 2 none 1, .int .i64 0], ⟨h.set n (.cells [(.str [102, 105, 110, 100]), (.str [99, 97, 108, 109])] 9 true), n + 1, w⟩) := by kernel_rfl
theorem A.X7_3 (st : St) : A.X (.func 7 [] []) [stV wIdle 0 true true] st = some (.tup [.bool false, .int .i64 0], st) := by kernel_rfl
theorem A.X8_3 (st : St) : A.X (.func 12 [] []) [stV wIdle 0 true true] st = some (.int .i64 0, st) := by kernel_rfl
theorem A.X5_3_0 (st : St) : A.X (.func 5 [] []) [stV wIdle 0 true true, .str [115, 116, 97, 114, 116]] st = some (.tup [zSt, .int .i64 18], st) := by kernel_rfl
theorem A.X5_3_1 (st : St) : A.X (.func 5 [] []) [stV wIdle 0 true true, .str [99, 108, 111, 115, 101]] st = some (.tup [zSt, .int .i64 18], st) := by kernel_rfl
theorem A.X5_3_2 (st : St) : A.X (.func 5 [] []) [stV wIdle 0 true true, .str [111, 112, 101, 110]] st = some (.tup [zSt, .int .i64 18], st) := by kernel_rfl
theorem A.X5_3_3 (st : St) : A.X (.func 5 [] []) [stV wIdle 0 true true, .str [115, 116, 111, 112]] st = some (.tup [zSt, .int .i64 18], st) := by kernel_rfl
theorem A.X5_3_4 (st : St) : A.X (.func 5 [] []) [stV wIdle 0 true true, .str [115, 97, 116, 117, 114, 97, 116, 101]] st = some (.tup [zSt, .int .i64 18], st) := by kernel_rfl
theorem A.X5_3_5 (st : St) : A.X (.func 5 [] []) [stV wIdle 0 true true, .str [99, 108, 101, 97, 114]] st = some (.tup [zSt, .int .i64 18], st) := by kernel_rfl
theorem A.X5_3_6 (st : St) : A.X (.func 5 [] []) [stV wIdle 0 true true, .str [108, 111, 115, 101]] st = some (.tup [zSt, .int .i64 18], st) := by kernel_rfl
theorem A.X5_3_7 (st : St) : A.X (.func 5 [] []) [stV wIdle 0 true true, .str [102, 105, 110, 100]] st = some (.tup [stV wIdle 0 false true, .int .i64 0], st) := by kernel_rfl
theorem A.X5_3_8 (st : St) : A.X (.func 5 [] []) [stV wIdle 0 true true, .str [103, 117, 115, 116]] st = some (.tup [zSt, .int .i64 18], st) := by kernel_rfl
theorem A.X5_3_9 (st : St) : A.X (.func 5 [] []) [stV wIdle 0 true true, .str [99, 97, 108, 109]] st = some (.tup [stV wIdle 0 true false, .int .i64 0], st) := by kernel_rfl
theorem A.X5_3_10 (st : St) : A.X (.func 5 [] []) [stV wIdle 0 true true, .str [114, 101, 115, 101, 116]] st = some (.tup [zSt, .int .i64 18], st) := by kernel_rfl
theorem A.X6_4 (h : T O) (n : Nat) (w : List Nat) : A.X (.func 6 [] []) [stV wOpen 0 false false] ⟨h, n, w⟩ = some (.tup [.slice n 0 4 none 1, .int .i64 0], ⟨h.set n (.cells [(.str [99, 108, 111, 115, 101]), (.str [115, 116, 111, 112]), (.str [108, 111, 115, 101]), (.str [103, 117, 115, 116])] 9 true), n + 1, w⟩) := by kernel_rfl
theorem A.X7_4 (st : St) : A.X (.func 7 [] []) [stV wOpen 0 false false] st = some (.tup [.bool false, .int .i64 0], st) := by kernel_rfl
theorem A.X8_4 (st : St) : A.X (.func 12 [] []) [stV wOpen 0 false false] st = some (.int .i64 0, st) := by kernel_rfl
theorem A.X5_4_0 (st : St) : A.X (.func 5 [] []) [stV wOpen 0 false false, .str [115, 116, 97, 114, 116]] st = some (.tup [zSt, .int .i64 18], st) := by kernel_rfl
theorem A.X5_4_1 (st : St) : A.X (.func 5 [] []) [stV wOpen 0 false false, .str [99, 108, 111, 115, 101]] st = some (.tup [stV wClosed 0 false false, .int .i64 0], st) := by kernel_rfl
theorem A.X5_4_2 (st : St) : A.X (.func 5 [] []) [stV wOpen 0 false false, .str [111, 112, 101, 110]] st = some (.tup [zSt, .int .i64 18], st) := by kernel_rfl
theorem A.X5_4_3 (st : St) : A.X (.func 5 [] []) [stV wOpen 0 false false, .str [115, 116, 111, 112]] st = some (.tup [stV wIdle 0 false false, .int .i64 0], st) := by kernel_rfl
theorem A.X5_4_4 (st : St) : A.X (.func 5 [] []) [stV wOpen 0 false false, .str [115, 97, 116, 117, 114, 97, 116, 101]] st = some (.tup [zSt, .int .i64 18], st) := by kernel_rfl
theorem A.X5_4_5 (st : St) : A.X (.func 5 [] []) [stV wOpen 0 false false, .str [99, 108, 101, 97, 114]] st = some (.tup [zSt, .int .i64 18], st) := by kernel_rfl
theorem A.X5_4_6 (st : St) : A.X (.func 5 [] []) [stV wOpen 0 false false, .str [108, 111, 115, 101]] st = some (.tup [stV wOpen 0 true false, .int .i64 0], st) := by kernel_rfl
theorem A.X5_4_7 (st : St) : A.X (.func 5 [] []) [stV wOpen 0 false false, .str [102, 105, 110, 100]] st = some (.tup [zSt, .int .i64 18], st) := by kernel_rfl
theorem A.X5_4_8 (st : St) : A.X (.func 5 [] []) [stV wOpen 0 false false, .str [103, 117, 115, 116]] st = some (.tup [stV wSafe 0 false true, .int .i64 0], st) := by kernel_rfl
theorem A.X5_4_9 (st : St) : A.X (.func 5 [] []) [stV wOpen 0 false false, .str [99, 97, 108, 109]] st = some (.tup [zSt, .int .i64 18], st) := by kernel_rfl
theorem A.X5_4_10 (st : St) : A.X (.func 5 [] []) [stV wOpen 0 false false, .str [114, 101, 115, 101, 116]] st = some (.tup [zSt, .int .i64 18], st) := by kernel_rfl
theorem A.X6_5 (h : T O) (n : Nat) (w : List Nat) : A.X (.func 6 [] []) [stV wOpen 0 true false] ⟨h, n, w⟩ = some (.tup [.slice n 0 3 none 1, .int .i64 0], ⟨h.set n (.cells [(.str [115, 116, 111, 112]), (.str [102, 105, 110, 100]), (.str [103, 117, 115, 116])] 9 true), n + 1, w⟩) := by kernel_rfl
theorem A.X7_5 (st : St) : A.X (.func 7 [] []) [stV wOpen 0 true false] st = some (.tup [.bool false, .int .i64 0], st) := by kernel_rfl
theorem A.X8_5 (st : St) : A.X (.func 12 [] []) [stV wOpen 0 true false] st = some (.int .i64 0, st) := by kernel_rfl
theorem A.X5_5_0 (st : St) : A.X (.func 5 [] []) [stV wOpen 0 true false, .str [115, 116, 97, 114, 116]] st = some (.tup [zSt, .int .i64 18], st) := by kernel_rfl
theorem A.X5_5_1 (st : St) : A.X (.func 5 [] []) [stV wOpen 0 true false, .str [99, 108, 111, 115, 101]] st = some (.tup [zSt, .int .i64 18], st) := by kernel_rfl
theorem A.X5_5_2 (st : St) : A.X (.func 5 [] []) [stV wOpen 0 true false, .str [111, 112, 101, 110]] st = some (.tup [zSt, .int .i64 18], st) := by kernel_rfl
theorem A.X5_5_3 (st : St) : A.X (.func 5 [] []) [stV wOpen 0 true false, .str [115, 116, 111, 112]] st = some (.tup [stV wIdle 0 true false, .int .i64 0], st) := by kernel_rfl
theorem A.X5_5_4 (st : St) : A.X (.func 5 [] []) [stV wOpen 0 true false, .str [115, 97, 116, 117, 114, 97, 116, 101]] st = some (.tup [zSt, .int .i64 18], st) := by kernel_rfl
theorem A.X5_5_5 (st : St) : A.X (.func 5 [] []) [stV wOpen 0 true false, .str [99, 108, 101, 97, 114]] st = some (.tup [zSt, .int .i64 18], st) := by kernel_rfl
theorem A.X5_5_6 (st : St) : A.X (.func 5 [] []) [stV wOpen 0 true false, .str [108, 111, 115, 101]] st = some (.tup [zSt, .int .i64 18], st) := by kernel_rfl
theorem A.X5_5_7 (st : St) : A.X (.func 5 [] []) [stV wOpen 0 true false, .str [102, 105, 110, 100]] st = some (.tup [stV wOpen 0 false false, .int .i64 0], st) := by kernel_rfl
theorem A.X5_5_8 (st : St) : A.X (.func 5 [] []) [stV wOpen 0 true false, .str [103, 117, 115, 116]] st = some (.tup [stV wSafe 0 true true, .int .i64 0], st) := by kernel_rfl
theorem A.X5_5_9 (st : St) : A.X (.func 5 [] []) [stV wOpen 0 true false, .str [99, 97, 108, 109]] st = some (.tup [zSt, .int .i64 18], st) := by kernel_rfl
theorem A.X5_5_10 (st : St) : A.X (.func 5 [] []) [stV wOpen 0 true false, .str [114, 101, 115, 101, 116]] st = some (.tup [zSt, .int .i64 18], st) := by kernel_rfl
theorem A.X6_6 (h : T O) (n : Nat) (w : List Nat) : A.X (.func 6 [] []) [stV wClosed 0 false false] ⟨h, n, w⟩ = some (.tup [.slice n 0 6 none 1, .int .i64 0], ⟨h.set n (.cells [(.str [111, 112, 101, 110]), (.str [115, 116, 111, 112]), (.str [115, 97, 116, 117, 114, 97, 116, 101]), (.str [99, 108, 101, 97, 114]), (.str [108, 111, 115, 101]), (.str [103, 117, 115, 116])] 9 true), n + 1, w⟩) := by kernel_rfl
theorem A.X7_6 (st : St) : A.X (.func 7 [] []) [stV wClosed 0 false false] st = some (.tup [.bool true, .int .i64 0], st) := by kernel_rfl
theorem A.X8_6 (st : St) : A.X (.func 12 [] []) [stV wClosed 0 false false] st = some (.int .i64 0, st) := by kernel_rfl
theorem A.X5_6_0 (st : St) : A.X (.func 5 [] []) [stV wClosed 0 false false, .str [115, 116, 97, 114, 116]] st = some (.tup [zSt, .int .i64 18], st) := by kernel_rfl
theorem A.X5_6_1 (st : St) : A.X (.func 5 [] []) [stV wClosed 0 false false, .str [99, 108, 111, 115, 101]] st = some (.tup [zSt, .int .i64 18], st) := by kernel_rfl
theorem A.X5_6_2 (st : St) : A.X (.func 5 [] []) [stV wClosed 0 false false, .str [111, 112, 101, 110]] st = some (.tup [stV wOpen 0 false false, .int .i64 0], st) := by kernel_rfl
theorem A.X5_6_3 (st : St) : A.X (.func 5 [] []) [stV wClosed 0 false false, .str [115, 116, 111, 112]] st = some (.tup [stV wIdle 0 false false, .int .i64 0], st) := by kernel_rfl
theorem A.X5_6_4 (st : St) : A.X (.func 5 [] []) [stV wClosed 0 false false, .str [115, 97, 116, 117, 114, 97, 116, 101]] st = some (.tup [stV wClosed 1 false false, .int .i64 0], st) := by kernel_rfl
theorem A.X5_6_5 (st : St) : A.X (.func 5 [] []) [stV wClosed 0 false false, .str [99, 108, 101, 97, 114]] st = some (.tup [stV wClosed 0 false false, .int .i64 0], st) := by kernel_rfl
theorem A.X5_6_6 (st : St) : A.X (.func 5 [] []) [stV wClosed 0 false false, .str [108, 111, 115, 101]] st = some (.tup [stV wSafe 0 true false, .int .i64 0], st) := by kernel_rfl
theorem A.X5_6_7 (st : St) : A.X (.func 5 [] []) [stV wClosed 0 false false, .str [102, 105, 110, 100]] st = some (.tup [zSt, .int .i64 18], st) := by kernel_rfl
theorem A.X5_6_8 (st : St) : A.X (.func 5 [] []) [stV wClosed 0 false false, .str [103, 117, 115, 116]] st = some (.tup [stV wSafe 0 false true, .int .i64 0], st) := by kernel_rfl
theorem A.X5_6_9 (st : St) : A.X (.func 5 [] []) [stV wClosed 0 false false, .str [99, 97, 108, 109]] st = some (.tup [zSt, .int .i64 18], st) := by kernel_rfl
theorem A.X5_6_10 (st : St) : A.X (.func 5 [] []) [stV wClosed 0 false false, .str [114, 101, 115, 101, 116]] st = some (.tup [zSt, .int .i64 18], st) := by kernel_rfl
theorem A.X6_7 (h : T O) (n : Nat) (w : List Nat) : A.X (.func 6 [] []) [stV wClosed 1 false false] ⟨h, n, w⟩ = some (.tup [.slice n 0 6 none 1, .int .i64 0], ⟨h.set n (.cells [(.str [111, 112, 101, 110]), (.str [115, 116, 111, 112]), (.str [115, 97, 116, 117, 114, 97, 116, 101]), (.str [99, 108, 101, 97, 114]), (.str [108, 111, 115, 101]), (.str [103, 117, 115, 116])] 9 true), n + 1, w⟩) := by kernel_rfl
theorem A.X7_7 (st : St) : A.X (.func 7 [] []) [stV wClosed 1 false false] st = some (.tup [.bool true, .int .i64 0], st) := by kernel_rfl
theorem A.X8_7 (st : St) : A.X (.func 12 [] []) [stV wClosed 1 false false] st = some (.int .i64 0, st) := by kernel_rfl
theorem A.X5_7_0 (st : St) : A.X (.func 5 [] []) [stV wClosed 1 false false, .str [115, 116, 97, 114, 116]] st = some (.tup [zSt, .int .i64 18], st) := by kernel_rfl
theorem A.X5_7_1 (st : St) : A.X (.func 5 [] []) [stV wClosed 1 false false, .str [99, 108, 111, 115, 101]] st = some (.tup [zSt, .int .i64 18], st) := by kernel_rfl
theorem A.X5_7_2 (st : St) : A.X (.func 5 [] []) [stV wClosed 1 false false, .str [111, 112, 101, 110]] st = some (.tup [stV wOpen 0 false false, .int .i64 0], st) := by kernel_rfl
theorem A.X5_7_3 (st : St) : A.X (.func 5 [] []) [stV wClosed 1 false false, .str [115, 116, 111, 112]] st = some (.tup [stV wIdle 0 false false, .int .i64 0], st) := by kernel_rfl
theorem A.X5_7_4 (st : St) : A.X (.func 5 [] []) [stV wClosed 1 false false, .str [115, 97, 116, 117, 114, 97, 116, 101]] st = some (.tup [stV wClosed 2 false false, .int .i64 0], st) := by kernel_rfl
theorem A.X5_7_5 (st : St) : A.X (.func 5 [] []) [stV wClosed 1 false false, .str [99, 108, 101, 97, 114]] st = some (.tup [stV wClosed 0 false false, .int .i64 0], st) := by kernel_rfl
theorem A.X5_7_6 (st : St) : A.X (.func 5 [] []) [stV wClosed 1 false false, .str [108, 111, 115, 101]] st = some (.tup [stV wSafe 0 true false, .int .i64 0], st) := by kernel_rfl
theorem A.X5_7_7 (st : St) : A.X (.func 5 [] []) [stV wClosed 1 false false, .str [102, 105, 110, 100]] st = some (.tup [zSt, .int .i64 18], st) := by kernel_rfl
theorem A.X5_7_8 (st : St) : A.X (.func 5 [] []) [stV wClosed 1 false false, .str [103, 117, 115, 116]] st = some (.tup [stV wSafe 0 false true, .int .i64 0], st) := by kernel_rfl
theorem A.X5_7_9 (st : St) : A.X (.func 5 [] []) [stV wClosed 1 false false, .str [99, 97, 108, 109]] st = some (.tup [zSt, .int .i64 18], st) := by kernel_rfl
theorem A.X5_7_10 (st : St) : A.X (.func 5 [] []) [stV wClosed 1 false false, .str [114, 101, 115, 101, 116]] st = some (.tup [zSt, .int .i64 18], st) := by kernel_rfl
theorem A.X6_8 (h : T O) (n : Nat) (w : List Nat) : A.X (.func 6 [] []) [stV wClosed 2 false false] ⟨h, n, w⟩ = some (.tup [.slice n 0 6 none 1, .int .i64 0], ⟨h.set n (.cells [(.str [111, 112, 101, 110]), (.str [115, 116, 111, 112]), (.str [115, 97, 116, 117, 114, 97, 116, 101]), (.str [99, 108, 101, 97, 114]), (.str [108, 111, 115, 101]), (.str [103, 117, 115, 116])] 9 true), n + 1, w⟩) := by kernel_rfl
theorem A.X7_8 (st : St) : A.X (.func 7 [] []) [stV wClosed 2 false false] st = some (.tup [.bool true, .int .i64 0], st) := by kernel_rfl
theorem A.X8_8 (st : St) : A.X (.func 12 [] []) [stV wClosed 2 false false] st = some (.int .i64 0, st) := by kernel_rfl
theorem A.X5_8_0 (st : St) : A.X (.func 5 [] []) [stV wClosed 2 false false, .str [115, 116, 97, 114, 116]] st = some (.tup [zSt, .int .i64 18], st) := by kernel_rfl
theorem A.X5_8_1 (st : St) : A.X (.func 5 [] []) [stV wClosed 2 false false, .str [99, 108, 111, 115, 101]] st = some (.tup [zSt, .int .i64 18], st) := by kernel_rfl
theorem A.X5_8_2 (st : St) : A.X (.func 5 [] []) [stV wClosed 2 false false, .str [111, 112, 101, 110]] st = some (.tup [stV wOpen 0 false false, .int .i64 0], st) := by kernel_rfl
theorem A.X5_8_3 (st : St) : A.X (.func 5 [] []) [stV wClosed 2 false false, .str [115, 116, 111, 112]] st = some (.tup [stV wIdle 0 false false, .int .i64 0], st) := by kernel_rfl
theorem A.X5_8_4 (st : St) : A.X (.func 5 [] []) [stV wClosed 2 false false, .str [115, 97, 116, 117, 114, 97, 116, 101]] st = some (.tup [stV wSafe 0 false false, .int .i64 0], st) := by kernel_rfl
theorem A.X5_8_5 (st : St) : A.X (.func 5 [] []) [stV wClosed 2 false false, .str [99, 108, 101, 97, 114]] st = some (.tup [stV wClosed 0 false false, .int .i64 0], st) := by kernel_rfl
theorem A.X5_8_6 (st : St) : A.X (.func 5 [] []) [stV wClosed 2 false false, .str [108, 111, 115, 101]] st = some (.tup [stV wSafe 0 true false, .int .i64 0], st) := by kernel_rfl
theorem A.X5_8_7 (st : St) : A.X (.func 5 [] []) [stV wClosed 2 false false, .str [102, 105, 110, 100]] st = some (.tup [zSt, .int .i64 18], st) := by kernel_rfl
theorem A.X5_8_8 (st : St) : A.X (.func 5 [] []) [stV wClosed 2 false false, .str [103, 117, 115, 116]] st = some (.tup [stV wSafe 0 false true, .int .i64 0], st) := by kernel_rfl
theorem A.X5_8_9 (st : St) : A.X (.func 5 [] []) [stV wClosed 2 false false, .str [99, 97, 108, 109]] st = some (.tup [zSt, .int .i64 18], st) := by kernel_rfl
theorem A.X5_8_10 (st : St) : A.X (.func 5 [] []) [stV wClosed 2 false false, .str [114, 101, 115, 101, 116]] st = some (.tup [zSt, .int .i64 18], st) := by kernel_rfl
theorem A.X6_9 (h : T O) (n : Nat) (w : List Nat) : A.X (.func 6 [] []) [stV wSafe 0 false false] ⟨h, n, w⟩ = some (.tup [.slice n 0 3 none 1, .int .i64 0], ⟨h.set n (.cells [(.str [108, 111, 115, 101]), (.str [103, 117, 115, 116]), (.str [114, 101, 115, 101, 116])] 9 true), n + 1, w⟩) := by kernel_rfl
theorem A.X7_9 (st : St) : A.X (.func 7 [] []) [stV wSafe 0 false false] st = some (.tup [.bool false, .int .i64 0], st) := by kernel_rfl
theorem A.X8_9 (st : St) : A.X (.func 12 [] []) [stV wSafe 0 false false] st = some (.int .i64 0, st) := by kernel_rfl
theorem A.X5_9_0 (st : St) : A.X (.func 5 [] []) [stV wSafe 0 false false, .str [115, 116, 97, 114, 116]] st = some (.tup [zSt, .int .i64 18], st) := by kernel_rfl
theorem A.X5_9_1 (st : St) : A.X (.func 5 [] []) [stV wSafe 0 false false, .str [99, 108, 111, 115, 101]] st = some (.tup [zSt, .int .i64 18], st) := by kernel_rfl
theorem A.X5_9_2 (st : St) : A.X (.func 5 [] []) [stV wSafe 0 false false, .str [111, 112, 101, 110]] st = some (.tup [zSt, .int .i64 18], st) := by kernel_rfl
theorem A.X5_9_3 (st : St) : A.X (.func 5 [] []) [stV wSafe 0 false false, .str [115, 116, 111, 112]] st = some (.tup [zSt, .int .i64 18], st) := by kernel_rfl
theorem A.X5_9_4 (st : St) : A.X (.func 5 [] []) [stV wSafe 0 false false, .str [115, 97, 116, 117, 114, 97, 116, 101]] st = some (.tup [zSt, .int .i64 18], st) := by kernel_rfl
theorem A.X5_9_5 (st : St) : A.X (.func 5 [] []) [stV wSafe 0 false false, .str [99, 108, 101, 97, 114]] st = some (.tup [zSt, .int .i64 18], st) := by kernel_rfl
theorem A.X5_9_6 (st : St) : A.X (.func 5 [] []) [stV wSafe 0 false false, .str [108, 111, 115, 101]] st = some (.tup [stV wSafe 0 true false, .int .i64 0], st) := by kernel_rfl
theorem A.X5_9_7 (st : St) : A.X (.func 5 [] []) [stV wSafe 0 false false, .str [102, 105, 110, 100]] st = some (.tup [zSt, .int .i64 18], st) := by kernel_rfl
theorem A.X5_9_8 (st : St) : A.X (.func 5 [] []) [stV wSafe 0 false false, .str [103, 117, 115, 116]] st = some (.tup [stV wSafe 0 false true, .int .i64 0], st) := by kernel_rfl
theorem A.X5_9_9 (st : St) : A.X (.func 5 [] []) [stV wSafe 0 false false, .str [99, 97, 108, 109]] st = some (.tup [zSt, .int .i64 18], st) := by kernel_rfl
theorem A.X5_9_10 (st : St) : A.X (.func 5 [] []) [stV wSafe 0 false false, .str [114, 101, 115, 101, 116]] st = some (.tup [stV wIdle 0 false false, .int .i64 0], st) := by kernel_rfl
theorem A.X6_10 (h : T O) (n : Nat) (w : List Nat) : A.X (.func 6 [] []) [stV wSafe 0 true false] ⟨h, n, w⟩ = some (.tup [.slice n 0 3 none 1, .int .i64 0], ⟨h.set n (.cells [(.str [102, 105, 110, 100]), (.str [103, 117, 115, 116]), (.str [114, 101, 115, 101, 116])] 9 true), n + 1, w⟩) := by kernel_rfl
theorem A.X7_10 (st : St) : A.X (.func 7 [] []) [stV wSafe 0 true false] st = some (.tup [.bool false, .int .i64 0], st) := by kernel_rfl
theorem A.X8_10 (st : St) : A.X (.func 12 [] []) [stV wSafe 0 true false] st = some (.int .i64 0, st) := by kernel_rfl
theorem A.X5_10_0 (st : St) : A.X (.func 5 [] []) [stV wSafe 0 true false, .str [115, 116, 97, 114, 116]] st = some (.tup [zSt, .int .i64 18], st) := by kernel_rfl
theorem A.X5_10_1 (st : St) : A.X (.func 5 [] []) [stV wSafe 0 true false, .str [99, 108, 111, 115, 101]] st = some (.tup [zSt, .int .i64 18], st) := by kernel_rfl
theorem A.X5_10_2 (st : St) : A.X (.func 5 [] []) [stV wSafe 0 true false, .str [111, 112, 101, 110]] st = some (.tup [zSt, .int .i64 18], st) := by kernel_rfl
theorem A.X5_10_3 (st : St) : A.X (.func 5 [] []) [stV wSafe 0 true false, .str [115, 116, 111, 112]] st = some (.tup [zSt, .int .i64 18], st) := by kernel_rfl
theorem A.X5_10_4 (st : St) : A.X (.func 5 [] []) [stV wSafe 0 true false, .str [115, 97, 116, 117, 114, 97, 116, 101]] st = some (.tup [zSt, .int .i64 18], st) := by kernel_rfl
theorem A.X5_10_5 (st : St) : A.X (.func 5 [] []) [stV wSafe 0 true false, .str [99, 108, 101, 97, 114]] st = some (.tup [zSt, .int .i64 18], st) := by kernel_rfl
theorem A.X5_10_6 (st : St) : A.X (.func 5 [] []) [stV wSafe 0 true false, .str [108, 111, 115, 101]] st = some (.tup [zSt, .int .i64 18], st) := by kernel_rfl
theorem A.X5_10_7 (st : St) : A.X (.func 5 [] []) [stV wSafe 0 true false, .str [102, 105, 110, 100]] st = some (.tup [stV wSafe 0 false false, .int .i64 0], st) := by kernel_rfl
theorem A.X5_10_8 (st : St) : A.X (.func 5 [] []) [stV wSafe 0 true false, .str [103, 117, 115, 116]] st = some (.tup [stV wSafe 0 true true, .int .i64 0], st) := by kernel_rfl
theorem A.X5_10_9 (st : St) : A.X (.func 5 [] []) [stV wSafe 0 true false, .str [99, 97, 108, 109]] st = some (.tup [zSt, .int .i64 18], st) := by kernel_rfl
theorem A.X5_10_10 (st : St) : A.X (.func 5 [] []) [stV wSafe 0 true false, .str [114, 101, 115, 101, 116]] st = some (.tup [stV wIdle 0 true false, .int .i64 0], st) := by kernel_rfl
theorem A.X6_11 (h : T O) (n : Nat) (w : List Nat) : A.X (.func 6 [] []) [stV wSafe 0 false true] ⟨h, n, w⟩ = some (.tup [.slice n 0 2 none 1, .int .i64 0], ⟨h.set n (.cells [(.str [108, 111, 115, 101]), (.str [99, 97, 108, 109])] 9 true), n + 1, w⟩) := by kernel_rfl
theorem A.X7_11 (st : St) : A.X (.func 7 [] []) [stV wSafe 0 false true] st = some (.tup [.bool false, .int .i64 0], st) := by kernel_rfl
theorem A.X8_11 (st : St) : A.X (.func 12 [] []) [stV wSafe 0 false true] st = some (.int .i64 0, st) := by kernel_rfl
theorem A.X5_11_0 (st : St) : A.X (.func 5 [] []) [stV wSafe 0 false true, .str [115, 116, 97, 114, 116]] st = some (.tup [zSt, .int .i64 18], st) := by kernel_rfl
theorem A.X5_11_1 (st : St) : A.X (.func 5 [] []) [stV wSafe 0 false true, .str [99, 108, 111, 115, 101]] st = some (.tup [zSt, .int .i64 18], st) := by kernel_rfl
theorem A.X5_11_2 (st : St) : A.X (.func 5 [] []) [stV wSafe 0 false true, .str [111, 112, 101, 110]] st = some (.tup [zSt, .int .i64 18], st) := by kernel_rfl
theorem A.X5_11_3 (st : St) : A.X (.func 5 [] []) [stV wSafe 0 false true, .str [115, 116, 111, 112]] st = some (.tup [zSt, .int .i64 18], st) := by kernel_rfl
theorem A.X5_11_4 (st : St) : A.X (.func 5 [] []) [stV wSafe 0 false true, .str [115, 97, 116, 117, 114, 97, 116, 101]] st = some (.tup [zSt, .int .i64 18], st) := by kernel_rfl
theorem A.X5_11_5 (st : St) : A.X (.func 5 [] []) [stV wSafe 0 false true, .str [99, 108, 101, 97, 114]] st = some (.tup [zSt, .int .i64 18], st) := by kernel_rfl
theorem A.X5_11_6 (st : St) : A.X (.func 5 [] []) [stV wSafe 0 false true, .str [108, 111, 115, 101]] st = some (.tup [stV wSafe 0 true true, .int .i64 0], st) := by kernel_rfl
theorem A.X5_11_7 (st : St) : A.X (.func 5 [] []) [stV wSafe 0 false true, .str [102, 105, 110, 100]] st = some (.tup [zSt, .int .i64 18], st) := by kernel_rfl
theorem A.X5_11_8 (st : St) : A.X (.func 5 [] []) [stV wSafe 0 false true, .str [103, 117, 115, 116]] st = some (.tup [zSt, .int .i64 18], st) := by kernel_rfl
theorem A.X5_11_9 (st : St) : A.X (.func 5 [] []) [stV wSafe 0 false true, .str [99, 97, 108, 109]] st = some (.tup [stV wSafe 0 false false, .int .i64 0], st) := by kernel_rfl
theorem A.X5_11_10 (st : St) : A.X (.func 5 [] []) [stV wSafe 0 false true, .str [114, 101, 115, 101, 116]] st = some (.tup [zSt, .int .i64 18], st) := by kernel_rfl
theorem A.X6_12 (h : T O) (n : Nat) (w : List Nat) : A.X (.func 6 [] []) [stV wSafe 0 true true] ⟨h, n, w⟩ = some (.tup [.slice n 0 2 none 1, .int .i64 0], ⟨h.set n (.cells [(.str [102, 105, 110, 100]), (.str [99, 97, 108, 109])] 9 true), n + 1, w⟩) := by kernel_rfl
theorem A.X7_12 (st : St) : A.X (.func 7 [] []) [stV wSafe 0 true true] st = some (.tup [.bool false, .int .i64 0], st) := by kernel_rfl
theorem A.X8_12 (st : St) : A.X (.func 12 [] []) [stV wSafe 0 true true] st = some (.int .i64 0, st) := by kernel_rfl
theorem A.X5_12_0 (st : St) : A.X (.func 5 [] []) [stV wSafe 0 true true, .str [115, 116, 97, 114, 116]] st = some (.tup [zSt, .int .i64 18], st) := by kernel_rfl
theorem A.X5_12_1 (st : St) : A.X (.func 5 [] []) [stV wSafe 0 true true, .str [99, 108, 111, 115, 101]] st = some (.tup [zSt, .int .i64 18], st) := by kernel_rfl
theorem A.X5_12_2 (st : St) : A.X (.func 5 [] []) [stV wSafe 0 true true, .str [111, 112, 101, 110]] st = some (.tup [zSt, .int .i64 18], st) := by kernel_rfl
theorem A.X5_12_3 (st : St) : A.X (.func 5 [] []) [stV wSafe 0 true true, .str [115, 116, 111, 112]] st = some (.tup [zSt, .int .i64 18], st) := by kernel_rfl
theorem A.X5_12_4 (st : St) : A.X (.func 5 [] []) [stV wSafe 0 true true, .str [115, 97, 116, 117, 114, 97, 116, 101]] st = some (.tup [zSt, .int .i64 18], st) := by kernel_rfl
theorem A.X5_12_5 (st : St) : A.X (.func 5 [] []) [stV wSafe 0 true true, .str [99, 108, 101, 97, 114]] st = some (.tup [zSt, .int .i64 18], st) := by kernel_rfl
theorem A.X5_12_6 (st : St) : A.X (.func 5 [] []) [stV wSafe 0 true true, .str [108, 111, 115, 101]] st = some (.tup [zSt, .int .i64 18], st) := by kernel_rfl
theorem A.X5_12_7 (st : St) : A.X (.func 5 [] []) [stV wSafe 0 true true, .str [102, 105, 110, 100]] st = some (.tup [stV wSafe 0 false true, .int .i64 0], st) := by kernel_rfl
theorem A.X5_12_8 (st : St) : A.X (.func 5 [] []) [stV wSafe 0 true true, .str [103, 117, 115, 116]] st = some (.tup [zSt, .int .i64 18], st) := by kernel_rfl
theorem A.X5_12_9 (st : St) : A.X (.func 5 [] []) [stV wSafe 0 true true, .str [99, 97, 108, 109]] st = some (.tup [stV wSafe 0 true false, .int .i64 0], st) := by kernel_rfl
theorem A.X5_12_10 (st : St) : A.X (.func 5 [] []) [stV wSafe 0 true true, .str [114, 101, 115, 101, 116]] st = some (.tup [zSt, .int .i64 18], st) := by kernel_rfl

end Go.Mx
