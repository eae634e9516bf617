/-
  The body of PipelineStates, its callees known.
-/
import Derived.Test.YtkdpkgfpnimekaaGreatDoorStK
import Derived.Test.YtkdpkgfpnimekaaGreatDoorProg
set_option linter.all false
namespace Go.Mx
open Go Go.Proofs
set_option maxRecDepth 1000000
set_option linter.unusedSimpArgs false
set_option linter.unusedVariables false
/-- lenslet/lensletlaw09.PipelineStates -/
def A.b3 : MCode := .seq (.reg [⟨(some 2), .box 23 (.tmp 0), none⟩, ⟨(some 4), .mov (.const (.bool false)), none⟩])
 (.seq (.reg [⟨(some 17), .load (some 4) (.tmp 2), none⟩, ⟨(some 18), .mov (.tmp 1), none⟩, ⟨(some 19), .call (.const (.func 5 [] [])) [(.tmp 17), (.tmp 18)], none⟩, ⟨(some 16), .mov (.tmp 19), none⟩, ⟨(some 20), .extract (.tmp 16) 0, none⟩, ⟨(some 21), .extract (.tmp 16) 1, none⟩, ⟨(some 5), .alloc [(.str []), (.int .i64 0), (.bool false), (.bool false)] 24, none⟩, ⟨none, .store 4 (.tmp 5) (.tmp 20), none⟩, ⟨(some 6), .mov (.tmp 21), none⟩])
 (.seq (.reg [⟨(some 23), .load (some 4) (.tmp 2), none⟩, ⟨(some 24), .call (.const (.func 6 [] [])) [(.tmp 23)], none⟩, ⟨(some 22), .mov (.tmp 24), none⟩, ⟨(some 25), .extract (.tmp 22) 0, none⟩, ⟨(some 26), .extract (.tmp 22) 1, none⟩, ⟨(some 7), .mov (.tmp 25), none⟩, ⟨(some 8), .mov (.tmp 26), none⟩])
 (.seq (.reg [⟨(some 28), .load (some 4) (.tmp 2), none⟩, ⟨(some 29), .call (.const (.func 7 [] [])) [(.tmp 28)], none⟩, ⟨(some 27), .mov (.tmp 29), none⟩, ⟨(some 30), .extract (.tmp 27) 0, none⟩, ⟨(some 31), .extract (.tmp 27) 1, none⟩, ⟨(some 9), .mov (.tmp 30), none⟩, ⟨(some 10), .mov (.tmp 31), none⟩])
 (.seq (.reg [⟨(some 32), .load (some 4) (.tmp 2), none⟩, ⟨(some 33), .call (.const (.func 8 [] [])) [(.tmp 32)], none⟩, ⟨(some 11), .mov (.tmp 33), none⟩])
 (.seq (.reg [⟨(some 34), .mov (.tmp 11), none⟩, ⟨(some 12), .mov (.tmp 34), none⟩])
 (.seq (.reg [⟨(some 13), .alloc [(.str []), (.int .i64 0), (.bool false), (.bool false)] 23, none⟩])
 (.seq (.reg [⟨(some 14), .mov (.const .nilslice), none⟩])
 (.seq (.reg [⟨(some 15), .mov (.const (.bool false)), none⟩])
 (.seq (.seq (.reg [⟨(some 35), .mov (.tmp 11), none⟩, ⟨(some 36), .bin .eql (.prim .int) true (.tmp 35) (.const (.int .i64 0)), none⟩])
 (.cond (.tmp 36)
 (.seq (.reg [⟨(some 38), .load (some 4) (.tmp 2), none⟩, ⟨(some 39), .mov (.tmp 1), none⟩, ⟨(some 40), .call (.const (.func 9 [] [])) [(.tmp 38), (.tmp 39)], none⟩, ⟨(some 37), .mov (.tmp 40), none⟩, ⟨(some 41), .extract (.tmp 37) 0, none⟩, ⟨(some 42), .extract (.tmp 37) 1, none⟩, ⟨none, .store 4 (.tmp 13) (.tmp 41), none⟩, ⟨(some 12), .mov (.tmp 42), none⟩])
 (.regD [⟨(some 43), .load (some 4) (.tmp 2), none⟩, ⟨(some 44), .call (.const (.func 10 [] [])) [(.tmp 43)], none⟩, ⟨(some 45), .load (some 4) (.tmp 2), none⟩, ⟨(some 46), .call (.const (.func 11 [] [])) [(.tmp 45)], none⟩, ⟨(some 14), .mov (.tmp 44), none⟩, ⟨(some 15), .mov (.tmp 46), none⟩] [0, 1, 0, 7, 15, 31]))
 (.skip)))
 (.seq (.reg [⟨(some 47), .load (some 4) (.tmp 2), none⟩, ⟨(some 48), .call (.const (.func 12 [] [])) [(.tmp 47)], none⟩, ⟨(some 49), .mov (.tmp 11), none⟩, ⟨(some 50), .bin .eql (.prim .int) false (.tmp 48) (.tmp 49), none⟩, ⟨(some 51), .mov (.tmp 50), none⟩, ⟨(some 52), .load (some 4) (.tmp 5), (some (51, true))⟩, ⟨(some 53), .load (some 4) (.tmp 13), (some (51, true))⟩, ⟨(some 54), .bin .eql (.node [(0, none, (.prim .str)), (1, none, (.prim .int)), (2, none, (.prim .bool)), (3, none, (.prim .bool))]) false (.tmp 52) (.tmp 53), (some (51, true))⟩, ⟨(some 55), .pick (.tmp 51) (.tmp 54) (.const (.bool false)), none⟩, ⟨(some 56), .mov (.tmp 55), none⟩, ⟨(some 57), .mov (.tmp 6), (some (56, true))⟩, ⟨(some 58), .mov (.tmp 12), (some (56, true))⟩, ⟨(some 59), .bin .eql (.prim .int) false (.tmp 57) (.tmp 58), (some (56, true))⟩, ⟨(some 60), .pick (.tmp 56) (.tmp 59) (.const (.bool false)), none⟩, ⟨(some 61), .mov (.tmp 60), none⟩, ⟨(some 62), .mov (.tmp 7), (some (61, true))⟩, ⟨(some 63), .mov (.tmp 14), (some (61, true))⟩, ⟨(some 64), .call (.const (.func 13 [] [])) [(.tmp 62), (.tmp 63)], (some (61, true))⟩, ⟨(some 65), .pick (.tmp 61) (.tmp 64) (.const (.bool false)), none⟩, ⟨(some 66), .mov (.tmp 65), none⟩, ⟨(some 67), .mov (.tmp 8), (some (66, true))⟩, ⟨(some 68), .mov (.tmp 11), (some (66, true))⟩, ⟨(some 69), .bin .eql (.prim .int) false (.tmp 67) (.tmp 68), (some (66, true))⟩, ⟨(some 70), .pick (.tmp 66) (.tmp 69) (.const (.bool false)), none⟩, ⟨(some 71), .mov (.tmp 70), none⟩, ⟨(some 72), .mov (.tmp 9), (some (71, true))⟩, ⟨(some 73), .mov (.tmp 15), (some (71, true))⟩, ⟨(some 74), .bin .eql (.prim .bool) false (.tmp 72) (.tmp 73), (some (71, true))⟩, ⟨(some 75), .pick (.tmp 71) (.tmp 74) (.const (.bool false)), none⟩, ⟨(some 76), .mov (.tmp 75), none⟩, ⟨(some 77), .mov (.tmp 10), (some (76, true))⟩, ⟨(some 78), .mov (.tmp 11), (some (76, true))⟩, ⟨(some 79), .bin .eql (.prim .int) false (.tmp 77) (.tmp 78), (some (76, true))⟩, ⟨(some 80), .pick (.tmp 76) (.tmp 79) (.const (.bool false)), none⟩, ⟨(some 81), .mov (.tmp 80), none⟩, ⟨(some 82), .call (.const (.func 14 [] [])) [], (some (81, true))⟩, ⟨(some 83), .pick (.tmp 81) (.tmp 82) (.const (.bool false)), none⟩, ⟨(some 4), .mov (.tmp 83), none⟩])
 (.ret)))))))))))
theorem A.c3 : cFunc Tryz.prog 3 = some ⟨84, [.tmp 4], A.b3⟩ := by kernel_rfl
theorem A.r3 {x : CallT} {F d : Nat} {args : List V} {st : St} (h : args.length ≤ 84) : orK (cFunc Tryz.prog) x F d 3 args st none = finK [.tmp 4] st (mcode (mcallX x (cFunc Tryz.prog) F d) F none A.b3 ⟨setRegs .nil 0 args, 84, []⟩ ⟨st.h, st.n, []⟩) := orK_none A.c3 h
/-- lenslet/lensletref01.SameWords -/
def A.b13 : MCode := .seq (.reg [⟨(some 4), .mov (.const (.bool false)), none⟩])
 (.seq (.seq (.reg [⟨(some 6), .mov (.tmp 0), none⟩, ⟨(some 7), .len 1 (.tmp 6), none⟩, ⟨(some 8), .mov (.tmp 1), none⟩, ⟨(some 9), .len 1 (.tmp 8), none⟩, ⟨(some 10), .bin .neq (.prim .int) false (.tmp 7) (.tmp 9), none⟩])
 (.cond (.tmp 10)
 (.seq (.reg [⟨(some 4), .mov (.const (.bool false)), none⟩])
 (.ret))
 (.skip)))
 (.seq (.seq (.reg [⟨(some 5), .mov (.const (.int .i64 0)), none⟩])
 (.block 0 (.loop (.seq (.seq (.reg [⟨(some 11), .mov (.tmp 5), none⟩, ⟨(some 12), .mov (.tmp 0), none⟩, ⟨(some 13), .len 1 (.tmp 12), none⟩, ⟨(some 14), .bin .lss (.node []) false (.tmp 11) (.tmp 13), none⟩])
 (.cond (.tmp 14)
 (.skip)
 (.exit 0)))
 (.seq (.block 1 (.seq (.regD [⟨(some 17), .mov (.tmp 0), none⟩, ⟨(some 18), .mov (.tmp 5), none⟩, ⟨(some 19), .iaddrSl 1 (.tmp 17) (.tmp 18), none⟩, ⟨(some 20), .load none (.tmp 19), none⟩, ⟨(some 21), .mov (.tmp 1), none⟩, ⟨(some 22), .mov (.tmp 5), none⟩, ⟨(some 23), .iaddrSl 1 (.tmp 21) (.tmp 22), none⟩, ⟨(some 24), .load none (.tmp 23), none⟩, ⟨(some 25), .bin .neq (.prim .str) false (.tmp 20) (.tmp 24), none⟩] [0, 0, 3, 7, 0, 0, 48, 112, 255])
 (.cond (.tmp 25)
 (.seq (.reg [⟨(some 4), .mov (.const (.bool false)), none⟩])
 (.ret))
 (.skip))))
 (.reg [⟨(some 15), .mov (.tmp 5), none⟩, ⟨(some 16), .bin .add (.node []) false (.tmp 15) (.const (.int .i64 1)), none⟩, ⟨(some 5), .mov (.tmp 16), none⟩]))))))
 (.seq (.reg [⟨(some 4), .mov (.const (.bool true)), none⟩])
 (.ret))))
theorem A.c13 : cFunc Tryz.prog 13 = some ⟨26, [.tmp 4], A.b13⟩ := by kernel_rfl
theorem A.r13 {x : CallT} {F d : Nat} {args : List V} {st : St} (h : args.length ≤ 26) : orK (cFunc Tryz.prog) x F d 13 args st none = finK [.tmp 4] st (mcode (mcallX x (cFunc Tryz.prog) F d) F none A.b13 ⟨setRegs .nil 0 args, 26, []⟩ ⟨st.h, st.n, []⟩) := orK_none A.c13 h

theorem eqV_st {m : List UInt8} {s : Int} {l w : Bool} : eqV false (.node [(0, none, .prim .str), (1, none, .prim .int), (2, none, .prim .bool), (3, none, .prim .bool)]) (stV m s l w) (stV m s l w) = some true := by
  simp [eqV, eqParts, eqPrim, partV]
theorem eqV_prim {ng k x y} : eqV ng (.prim k) x y = eqPrim ng k x y := by cases x <;> cases y <;> rfl
set_option maxHeartbeats 4000000 in
theorem law_invalid (m a : List UInt8) (s : Int) (l w : Bool) (e : Int) (he : e ≠ 0) (x : CallT)
    (h1 : ∀ st, x (.func 5 [] []) [stV m s l w, .str a] st = some (.tup [zSt, .int .i64 e], st))
    (h2 : ∀ st, x (.func 6 [] []) [stV m s l w] st = some (.tup [.nilslice, .int .i64 e], st))
    (h3 : ∀ st, x (.func 7 [] []) [stV m s l w] st = some (.tup [.bool false, .int .i64 e], st))
    (h4 : ∀ st, x (.func 8 [] []) [stV m s l w] st = some (.int .i64 e, st))
    (h5 : ∀ st, x (.func 12 [] []) [stV m s l w] st = some (.int .i64 e, st))
    (h6 : ∀ args st, x (.func 13 [] []) args st = none)
    (h7 : ∀ st, x (.func 14 [] []) [] st = some (.bool true, st)) :
    Gives (orK (cFunc Tryz.prog) x 200 10 3 [stV m s l w, .str a] (base 10) none) (.bool true) := by
  have q1 := bne_true he
  have q2 := beq_false he
  have q3 : eqV false (.node [(0, none, .prim .str), (1, none, .prim .int), (2, none, .prim .bool), (3, none, .prim .bool)]) zSt zSt = some true := eqV_st
  generalize hh : deadT 10 = h0
  simp [hh, h1, h2, h3, h4, h5, h6, h7, q1, q2, q3, eqV_prim, eqPrim, A.r3, A.b3, A.r13, A.b13]

set_option maxHeartbeats 8000000 in
theorem law_valid0 (a m' : List UInt8) (s' : Int) (l' w' : Bool) (e : Int) (x : CallT)
    (h1 : ∀ st, x (.func 5 [] []) [stV wIdle 0 false false, .str a] st = some (.tup [stV m' s' l' w', .int .i64 e], st))
    (h2 : ∀ h n w, x (.func 6 [] []) [stV wIdle 0 false false] ⟨h, n, w⟩ = some (.tup [.slice n 0 3 none 1, .int .i64 0], ⟨h.set n (.cells [(.str [115, 116, 97, 114, 116]), (.str [108, 111, 115, 101]), (.str [103, 117, 115, 116])] 9 true), n + 1, w⟩))
    (h3 : ∀ st, x (.func 7 [] []) [stV wIdle 0 false false] st = some (.tup [.bool false, .int .i64 0], st))
    (h4 : ∀ st, x (.func 8 [] []) [stV wIdle 0 false false] st = some (.int .i64 0, st))
    (h5 : ∀ st, x (.func 12 [] []) [stV wIdle 0 false false] st = some (.int .i64 0, st))
    (h6 : ∀ args st, x (.func 13 [] []) args st = none)
    (h7 : ∀ st, x (.func 14 [] []) [] st = some (.bool true, st))
    (h8 : ∀ st, x (.func 9 [] []) [stV wIdle 0 false false, .str a] st = some (.tup [stV m' s' l' w', .int .i64 e], st))
    (h9 : ∀ h n w, x (.func 10 [] []) [stV wIdle 0 false false] ⟨h, n, w⟩ = some (.slice n 0 3 none 1, ⟨h.set n (.cells [(.str [115, 116, 97, 114, 116]), (.str [108, 111, 115, 101]), (.str [103, 117, 115, 116])] 9 true), n + 1, w⟩))
    (h10 : ∀ st, x (.func 11 [] []) [stV wIdle 0 false false] st = some (.bool false, st)) :
    Gives (orK (cFunc Tryz.prog) x 200 10 3 [stV wIdle 0 false false, .str a] (base 10) none) (.bool true) := by
  have q1 : eqV false (.node [(0, none, .prim .str), (1, none, .prim .int), (2, none, .prim .bool), (3, none, .prim .bool)]) (stV m' s' l' w') (stV m' s' l' w') = some true := eqV_st
  generalize hh : deadT 10 = h0
  simp [hh, h1, h2, h3, h4, h5, h6, h7, h8, h9, h10, q1, eqV_prim, eqPrim, A.r3, A.b3, A.r13, A.b13]

set_option maxHeartbeats 8000000 in
theorem law_valid1 (a m' : List UInt8) (s' : Int) (l' w' : Bool) (e : Int) (x : CallT)
    (h1 : ∀ st, x (.func 5 [] []) [stV wIdle 0 true false, .str a] st = some (.tup [stV m' s' l' w', .int .i64 e], st))
    (h2 : ∀ h n w, x (.func 6 [] []) [stV wIdle 0 true false] ⟨h, n, w⟩ = some (.tup [.slice n 0 3 none 1, .int .i64 0], ⟨h.set n (.cells [(.str [115, 116, 97, 114, 116]), (.str [102, 105, 110, 100]), (.str [103, 117, 115, 116])] 9 true), n + 1, w⟩))
    (h3 : ∀ st, x (.func 7 [] []) [stV wIdle 0 true false] st = some (.tup [.bool false, .int .i64 0], st))
    (h4 : ∀ st, x (.func 8 [] []) [stV wIdle 0 true false] st = some (.int .i64 0, st))
    (h5 : ∀ st, x (.func 12 [] []) [stV wIdle 0 true false] st = some (.int .i64 0, st))
    (h6 : ∀ args st, x (.func 13 [] []) args st = none)
    (h7 : ∀ st, x (.func 14 [] []) [] st = some (.bool true, st))
    (h8 : ∀ st, x (.func 9 [] []) [stV wIdle 0 true false, .str a] st = some (.tup [stV m' s' l' w', .int .i64 e], st))
    (h9 : ∀ h n w, x (.func 10 [] []) [stV wIdle 0 true false] ⟨h, n, w⟩ = some (.slice n 0 3 none 1, ⟨h.set n (.cells [(.str [115, 116, 97, 114, 116]), (.str [102, 105, 110, 100]), (.str [103, 117, 115, 116])] 9 true), n + 1, w⟩))
    (h10 : ∀ st, x (.func 11 [] []) [stV wIdle 0 true false] st = some (.bool false, st)) :
    Gives (orK (cFunc Tryz.prog) x 200 10 3 [stV wIdle 0 true false, .str a] (base 10) none) (.bool true) := by
  have q1 : eqV false (.node [(0, none, .prim .str), (1, none, .prim .int), (2, none, .prim .bool), (3, none, .prim .bool)]) (stV m' s' l' w') (stV m' s' l' w') = some true := eqV_st
  generalize hh : deadT 10 = h0
  simp [hh, h1, h2, h3, h4, h5, h6, h7, h8, h9, h10, q1, eqV_prim, eqPrim, A.r3, A.b3, A.r13, A.b13]

set_option maxHeartbeats 8000000 in
theorem law_valid2 (a m' : List UInt8) (s' : Int) (l' w' : Bool) (e : Int) (x : CallT)
    (h1 : ∀ st, x (.func 5 [] []) [stV wIdle 0 false true, .str a] st = some (.tup [stV m' s' l' w', .int .i64 e], st))
    (h2 : ∀ h n w, x (.func 6 [] []) [stV wIdle 0 false true] ⟨h, n, w⟩ = some (.tup [.slice n 0 2 none 1, .int .i64 0], ⟨h.set n (.cells [(.str [108, 111, 115, 101]), (.str [99, 97, 108, 109])] 9 true), n + 1, w⟩))
    (h3 : ∀ st, x (.func 7 [] []) [stV wIdle 0 false true] st = some (.tup [.bool false, .int .i64 0], st))
    (h4 : ∀ st, x (.func 8 [] []) [stV wIdle 0 false true] st = some (.int .i64 0, st))
    (h5 : ∀ st, x (.func 12 [] []) [stV wIdle 0 false true] st = some (.int .i64 0, st))
    (h6 : ∀ args st, x (.func 13 [] []) args st = none)
    (h7 : ∀ st, x (.func 14 [] []) [] st = some (.bool true, st))
    (h8 : ∀ st, x (.func 9 [] []) [stV wIdle 0 false true, .str a] st = some (.tup [stV m' s' l' w', .int .i64 e], st))
    (h9 : ∀ h n w, x (.func 10 [] []) [stV wIdle 0 false true] ⟨h, n, w⟩ = some (.slice n 0 2 none 1, ⟨h.set n (.cells [(.str [108, 111, 115, 101]), (.str [99, 97, 108, 109])] 9 true), n + 1, w⟩))
    (h10 : ∀ st, x (.func 11 [] []) [stV wIdle 0 false true] st = some (.bool false, st)) :
    Gives (orK (cFunc Tryz.prog) x 200 10 3 [stV wIdle 0 false true, .str a] (base 10) none) (.bool true) := by
  have q1 : eqV false (.node [(0, none, .prim .str), (1, none, .prim .int), (2, none, .prim .bool), (3, none, .prim .bool)]) (stV m' s' l' w') (stV m' s' l' w') = some true := eqV_st
  generalize hh : deadT 10 = h0
  simp [hh, h1, h2, h3, h4, h5, h6, h7, h8, h9, h10, q1, eqV_prim, eqPrim, A.r3, A.b3, A.r13, A.b13]

set_option maxHeartbeats 8000000 in
theorem law_valid3 (a m' : List UInt8) (s' : Int) (l' w' : Bool) (e : Int) (x : CallT)
    (h1 : ∀ st, x (.func 5 [] []) [stV wIdle 0 true true, .str a] st = some (.tup [stV m' s' l' w', .int .i64 e], st))
    (h2 : ∀ h n w, x (.func 6 [] []) [stV wIdle 0 true true] ⟨h, n, w⟩ = some (.tup [.slice n 0 2 none 1, .int .i64 0], ⟨h.set n (.cells [(.str [102, 105, 110, 100]), (.str [99, 97, 108, 109])] 9 true), n + 1, w⟩))
    (h3 : ∀ st, x (.func 7 [] []) [stV wIdle 0 true true] st = some (.tup [.bool false, .int .i64 0], st))
    (h4 : ∀ st, x (.func 8 [] []) [stV wIdle 0 true true] st = some (.int .i64 0, st))
    (h5 : ∀ st, x (.func 12 [] []) [stV wIdle 0 true true] st = some (.int .i64 0, st))
    (h6 : ∀ args st, x (.func 13 [] []) args st = none)
    (h7 : ∀ st, x (.func 14 [] []) [] st = some (.bool true, st))
    (h8 : ∀ st, x (.func 9 [] []) [stV wIdle 0 true true, .str a] st = some (.tup [stV m' s' l' w', .int .i64 e], st))
    (h9 : ∀ h n w, x (.func 10 [] []) [stV wIdle 0 true true] ⟨h, n, w⟩ = some (.slice n 0 2 none 1, ⟨h.set n (.cells [(.str [102, 105, 110, 100]), (.str [99, 97, 108, 109])] 9 true), n + 1, w⟩))
    (h10 : ∀ st, x (.func 11 [] []) [stV wIdle 0 true true] st = some (.bool false, st)) :
    Gives (orK (cFunc Tryz.prog) x 200 10 3 [stV wIdle 0 true true, .str a] (base 10) none) (.bool true) := by
  have q1 : eqV false (.node [(0, none, .prim .str), (1, none, .prim .int), (2, none, .prim .bool), (3, none, .prim .bool)]) (stV m' s' l' w') (stV m' s' l' w') = some true := eqV_st
  generalize hh : deadT 10 = h0
  simp [hh, h1, h2, h3, h4, h5, h6, h7, h8, h9, h10, q1, eqV_prim, eqPrim, A.r3, A.b3, A.r13, A.b13]

set_option maxHeartbeats 8000000 in
theorem law_valid4 (a m' : List UInt8) (s' : Int) (l' w' : Bool) (e : Int) (x : CallT)
    (h1 : ∀ st, x (.func 5 [] []) [stV wOpen 0 false false, .str a] st = some (.tup [stV m' s' l' w', .int .i64 e], st))
    (h2 : ∀ h n w, x (.func 6 [] []) [stV wOpen 0 false false] ⟨h, n, w⟩ = some (.tup [.slice n 0 4 none 1, .int .i64 0], ⟨h.set n (.cells [(.str [99, 108, 111, 115, 101]), (.str [115, 116, 111, 112]), (.str [108, 111, 115, 101]), (.str [103, 117, 115, 116])] 9 true), n + 1, w⟩))
    (h3 : ∀ st, x (.func 7 [] []) [stV wOpen 0 false false] st = some (.tup [.bool false, .int .i64 0], st))
    (h4 : ∀ st, x (.func 8 [] []) [stV wOpen 0 false false] st = some (.int .i64 0, st))
    (h5 : ∀ st, x (.func 12 [] []) [stV wOpen 0 false false] st = some (.int .i64 0, st))
    (h6 : ∀ args st, x (.func 13 [] []) args st = none)
    (h7 : ∀ st, x (.func 14 [] []) [] st = some (.bool true, st))
    (h8 : ∀ st, x (.func 9 [] []) [stV wOpen 0 false false, .str a] st = some (.tup [stV m' s' l' w', .int .i64 e], st))
    (h9 : ∀ h n w, x (.func 10 [] []) [stV wOpen 0 false false] ⟨h, n, w⟩ = some (.slice n 0 4 none 1, ⟨h.set n (.cells [(.str [99, 108, 111, 115, 101]), (.str [115, 116, 111, 112]), (.str [108, 111, 115, 101]), (.str [103, 117, 115, 116])] 9 true), n + 1, w⟩))
    (h10 : ∀ st, x (.func 11 [] []) [stV wOpen 0 false false] st = some (.bool false, st)) :
    Gives (orK (cFunc Tryz.prog) x 200 10 3 [stV wOpen 0 false false, .str a] (base 10) none) (.bool true) := by
  have q1 : eqV false (.node [(0, none, .prim .str), (1, none, .prim .int), (2, none, .prim .bool), (3, none, .prim .bool)]) (stV m' s' l' w') (stV m' s' l' w') = some true := eqV_st
  generalize hh : deadT 10 = h0
  simp [hh, h1, h2, h3, h4, h5, h6, h7, h8, h9, h10, q1, eqV_prim, eqPrim, A.r3, A.b3, A.r13, A.b13]

set_option maxHeartbeats 8000000 in
theorem law_valid5 (a m' : List UInt8) (s' : Int) (l' w' : Bool) (e : Int) (x : CallT)
    (h1 : ∀ st, x (.func 5 [] []) [stV wOpen 0 true false, .str a] st = some (.tup [stV m' s' l' w', .int .i64 e], st))
    (h2 : ∀ h n w, x (.func 6 [] []) [stV wOpen 0 true false] ⟨h, n, w⟩ = some (.tup [.slice n 0 3 none 1, .int .i64 0], ⟨h.set n (.cells [(.str [115, 116, 111, 112]), (.str [102, 105, 110, 100]), (.str [103, 117, 115, 116])] 9 true), n + 1, w⟩))
    (h3 : ∀ st, x (.func 7 [] []) [stV wOpen 0 true false] st = some (.tup [.bool false, .int .i64 0], st))
    (h4 : ∀ st, x (.func 8 [] []) [stV wOpen 0 true false] st = some (.int .i64 0, st))
    (h5 : ∀ st, x (.func 12 [] []) [stV wOpen 0 true false] st = some (.int .i64 0, st))
    (h6 : ∀ args st, x (.func 13 [] []) args st = none)
    (h7 : ∀ st, x (.func 14 [] []) [] st = some (.bool true, st))
    (h8 : ∀ st, x (.func 9 [] []) [stV wOpen 0 true false, .str a] st = some (.tup [stV m' s' l' w', .int .i64 e], st))
    (h9 : ∀ h n w, x (.func 10 [] []) [stV wOpen 0 true false] ⟨h, n, w⟩ = some (.slice n 0 3 none 1, ⟨h.set n (.cells [(.str [115, 116, 111, 112]), (.str [102, 105, 110, 100]), (.str [103, 117, 115, 116])] 9 true), n + 1, w⟩))
    (h10 : ∀ st, x (.func 11 [] []) [stV wOpen 0 true false] st = some (.bool false, st)) :
    Gives (orK (cFunc Tryz.prog) x 200 10 3 [stV wOpen 0 true false, .str a] (base 10) none) (.bool true) := by
  have q1 : eqV false (.node [(0, none, .prim .str), (1, none, .prim .int), (2, none, .prim .bool), (3, none, .prim .bool)]) (stV m' s' l' w') (stV m' s' l' w') = some true := eqV_st
  generalize hh : deadT 10 = h0
  simp [hh, h1, h2, h3, h4, h5, h6, h7, h8, h9, h10, q1, eqV_prim, eqPrim, A.r3, A.b3, A.r13, A.b13]

set_option maxHeartbeats 8000000 in
theorem law_valid6 (a m' : List UInt8) (s' : Int) (l' w' : Bool) (e : Int) (x : CallT)
    (h1 : ∀ st, x (.func 5 [] []) [stV wClosed 0 false false, .str a] st = some (.tup [stV m' s' l' w', .int .i64 e], st))
    (h2 : ∀ h n w, x (.func 6 [] []) [stV wClosed 0 false false] ⟨h, n, w⟩ = some (.tup [.slice n 0 6 none 1, .int .i64 0], ⟨h.set n (.cells [(.str [111, 112, 101, 110]), (.str [115, 116, 111, 112]), (.str [115, 97, 116, 117, 114, 97, 116, 101]), (.str [99, 108, 101, 97, 114]), (.str [108, 111, 115, 101]), (.str [103, 117, 115, 116])] 9 true), n + 1, w⟩))
    (h3 : ∀ st, x (.func 7 [] []) [stV wClosed 0 false false] st = some (.tup [.bool true, .int .i64 0], st))
    (h4 : ∀ st, x (.func 8 [] []) [stV wClosed 0 false false] st = some (.int .i64 0, st))
    (h5 : ∀ st, x (.func 12 [] []) [stV wClosed 0 false false] st = some (.int .i64 0, st))
    (h6 : ∀ args st, x (.func 13 [] []) args st = none)
    (h7 : ∀ st, x (.func 14 [] []) [] st = some (.bool true, st))
    (h8 : ∀ st, x (.func 9 [] []) [stV wClosed 0 false false, .str a] st = some (.tup [stV m' s' l' w', .int .i64 e], st))
    (h9 : ∀ h n w, x (.func 10 [] []) [stV wClosed 0 false false] ⟨h, n, w⟩ = some (.slice n 0 6 none 1, ⟨h.set n (.cells [(.str [111, 112, 101, 110]), (.str [115, 116, 111, 112]), (.str [115, 97, 116, 117, 114, 97, 116, 101]), (.str [99, 108, 101, 97, 114]), (.str [108, 111, 115, 101]), (.str [103, 117, 115, 116])] 9 true), n + 1, w⟩))
    (h10 : ∀ st, x (.func 11 [] []) [stV wClosed 0 false false] st = some (.bool true, st)) :
    Gives (orK (cFunc Tryz.prog) x 200 10 3 [stV wClosed 0 false false, .str a] (base 10) none) (.bool true) := by
  have q1 : eqV false (.node [(0, none, .prim .str), (1, none, .prim .int), (2, none, .prim .bool), (3, none, .prim .bool)]) (stV m' s' l' w') (stV m' s' l' w') = some true := eqV_st
  generalize hh : deadT 10 = h0
  simp [hh, h1, h2, h3, h4, h5, h6, h7, h8, h9, h10, q1, eqV_prim, eqPrim, A.r3, A.b3, A.r13, A.b13]

set_option maxHeartbeats 8000000 in
theorem law_valid7 (a m' : List UInt8) (s' : Int) (l' w' : Bool) (e : Int) (x : CallT)
    (h1 : ∀ st, x (.func 5 [] []) [stV wClosed 1 false false, .str a] st = some (.tup [stV m' s' l' w', .int .i64 e], st))
    (h2 : ∀ h n w, x (.func 6 [] []) [stV wClosed 1 false false] ⟨h, n, w⟩ = some (.tup [.slice n 0 6 none 1, .int .i64 0], ⟨h.set n (.cells [(.str [111, 112, 101, 110]), (.str [115, 116, 111, 112]), (.str [115, 97, 116, 117, 114, 97, 116, 101]), (.str [99, 108, 101, 97, 114]), (.str [108, 111, 115, 101]), (.str [103, 117, 115, 116])] 9 true), n + 1, w⟩))
    (h3 : ∀ st, x (.func 7 [] []) [stV wClosed 1 false false] st = some (.tup [.bool true, .int .i64 0], st))
    (h4 : ∀ st, x (.func 8 [] []) [stV wClosed 1 false false] st = some (.int .i64 0, st))
    (h5 : ∀ st, x (.func 12 [] []) [stV wClosed 1 false false] st = some (.int .i64 0, st))
    (h6 : ∀ args st, x (.func 13 [] []) args st = none)
    (h7 : ∀ st, x (.func 14 [] []) [] st = some (.bool true, st))
    (h8 : ∀ st, x (.func 9 [] []) [stV wClosed 1 false false, .str a] st = some (.tup [stV m' s' l' w', .int .i64 e], st))
    (h9 : ∀ h n w, x (.func 10 [] []) [stV wClosed 1 false false] ⟨h, n, w⟩ = some (.slice n 0 6 none 1, ⟨h.set n (.cells [(.str [111, 112, 101, 110]), (.str [115, 116, 111, 112]), (.str [115, 97, 116, 117, 114, 97, 116, 101]), (.str [99, 108, 101, 97, 114]), (.str [108, 111, 115, 101]), (.str [103, 117, 115, 116])] 9 true), n + 1, w⟩))
    (h10 : ∀ st, x (.func 11 [] []) [stV wClosed 1 false false] st = some (.bool true, st)) :
    Gives (orK (cFunc Tryz.prog) x 200 10 3 [stV wClosed 1 false false, .str a] (base 10) none) (.bool true) := by
  have q1 : eqV false (.node [(0, none, .prim .str), (1, none, .prim .int), (2, none, .prim .bool), (3, none, .prim .bool)]) (stV m' s' l' w') (stV m' s' l' w') = some true := eqV_st
  generalize hh : deadT 10 = h0
  simp [hh, h1, h2, h3, h4, h5, h6, h7, h8, h9, h10, q1, eqV_prim, eqPrim, A.r3, A.b3, A.r13, A.b13]

set_option maxHeartbeats 8000000 in
theorem law_valid8 (a m' : List UInt8) (s' : Int) (l' w' : Bool) (e : Int) (x : CallT)
    (h1 : ∀ st, x (.func 5 [] []) [stV wClosed 2 false false, .str a] st = some (.tup [stV m' s' l' w', .int .i64 e], st))
    (h2 : ∀ h n w, x (.func 6 [] []) [stV wClosed 2 false false] ⟨h, n, w⟩ = some (.tup [.slice n 0 6 none 1, .int .i64 0], ⟨h.set n (.cells [(.str [111, 112, 101, 110]), (.str [115, 116, 111, 112]), (.str [115, 97, 116, 117, 114, 97, 116, 101]), (.str [99, 108, 101, 97, 114]), (.str [108, 111, 115, 101]), (.str [103, 117, 115, 116])] 9 true), n + 1, w⟩))
    (h3 : ∀ st, x (.func 7 [] []) [stV wClosed 2 false false] st = some (.tup [.bool true, .int .i64 0], st))
    (h4 : ∀ st, x (.func 8 [] []) [stV wClosed 2 false false] st = some (.int .i64 0, st))
    (h5 : ∀ st, x (.func 12 [] []) [stV wClosed 2 false false] st = some (.int .i64 0, st))
    (h6 : ∀ args st, x (.func 13 [] []) args st = none)
    (h7 : ∀ st, x (.func 14 [] []) [] st = some (.bool true, st))
    (h8 : ∀ st, x (.func 9 [] []) [stV wClosed 2 false false, .str a] st = some (.tup [stV m' s' l' w', .int .i64 e], st))
    (h9 : ∀ h n w, x (.func 10 [] []) [stV wClosed 2 false false] ⟨h, n, w⟩ = some (.slice n 0 6 none 1, ⟨h.set n (.cells [(.str [111, 112, 101, 110]), (.str [115, 116, 111, 112]), (.str [115, 97, 116, 117, 114, 97, 116, 101]), (.str [99, 108, 101, 97, 114]), (.str [108, 111, 115, 101]), (.str [103, 117, 115, 116])] 9 true), n + 1, w⟩))
    (h10 : ∀ st, x (.func 11 [] []) [stV wClosed 2 false false] st = some (.bool true, st)) :
    Gives (orK (cFunc Tryz.prog) x 200 10 3 [stV wClosed 2 false false, .str a] (base 10) none) (.bool true) := by
  have q1 : eqV false (.node [(0, none, .prim .str), (1, none, .prim .int), (2, none, .prim .bool), (3, none, .prim .bool)]) (stV m' s' l' w') (stV m' s' l' w') = some true := eqV_st
  generalize hh : deadT 10 = h0
  simp [hh, h1, h2, h3, h4, h5, h6, h7, h8, h9, h10, q1, eqV_prim, eqPrim, A.r3, A.b3, A.r13, A.b13]

set_option maxHeartbeats 8000000 in
theorem law_valid9 (a m' : List UInt8) (s' : Int) (l' w' : Bool) (e : Int) (x : CallT)
    (h1 : ∀ st, x (.func 5 [] []) [stV wSafe 0 false false, .str a] st = some (.tup [stV m' s' l' w', .int .i64 e], st))
    (h2 : ∀ h n w, x (.func 6 [] []) [stV wSafe 0 false false] ⟨h, n, w⟩ = some (.tup [.slice n 0 3 none 1, .int .i64 0], ⟨h.set n (.cells [(.str [108, 111, 115, 101]), (.str [103, 117, 115, 116]), (.str [114, 101, 115, 101, 116])] 9 true), n + 1, w⟩))
    (h3 : ∀ st, x (.func 7 [] []) [stV wSafe 0 false false] st = some (.tup [.bool false, .int .i64 0], st))
    (h4 : ∀ st, x (.func 8 [] []) [stV wSafe 0 false false] st = some (.int .i64 0, st))
    (h5 : ∀ st, x (.func 12 [] []) [stV wSafe 0 false false] st = some (.int .i64 0, st))
    (h6 : ∀ args st, x (.func 13 [] []) args st = none)
    (h7 : ∀ st, x (.func 14 [] []) [] st = some (.bool true, st))
    (h8 : ∀ st, x (.func 9 [] []) [stV wSafe 0 false false, .str a] st = some (.tup [stV m' s' l' w', .int .i64 e], st))
    (h9 : ∀ h n w, x (.func 10 [] []) [stV wSafe 0 false false] ⟨h, n, w⟩ = some (.slice n 0 3 none 1, ⟨h.set n (.cells [(.str [108, 111, 115, 101]), (.str [103, 117, 115, 116]), (.str [114, 101, 115, 101, 116])] 9 true), n + 1, w⟩))
    (h10 : ∀ st, x (.func 11 [] []) [stV wSafe 0 false false] st = some (.bool false, st)) :
    Gives (orK (cFunc Tryz.prog) x 200 10 3 [stV wSafe 0 false false, .str a] (base 10) none) (.bool true) := by
  have q1 : eqV false (.node [(0, none, .prim .str), (1, none, .prim .int), (2, none, .prim .bool), (3, none, .prim .bool)]) (stV m' s' l' w') (stV m' s' l' w') = some true := eqV_st
  generalize hh : deadT 10 = h0
  simp [hh, h1, h2, h3, h4, h5, h6, h7, h8, h9, h10, q1, eqV_prim, eqPrim, A.r3, A.b3, A.r13, A.b13]

set_option maxHeartbeats 8000000 in
theorem law_valid10 (a m' : List UInt8) (s' : Int) (l' w' : Bool) (e : Int) (x : CallT)
    (h1 : ∀ st, x (.func 5 [] []) [stV wSafe 0 true false, .str a] st = some (.tup [stV m' s' l' w', .int .i64 e], st))
    (h2 : ∀ h n w, x (.func 6 [] []) [stV wSafe 0 true false] ⟨h, n, w⟩ = some (.tup [.slice n 0 3 none 1, .int .i64 0], ⟨h.set n (.cells [(.str [102, 105, 110, 100]), (.str [103, 117, 115, 116]), (.str [114, 101, 115, 101, 116])] 9 true), n + 1, w⟩))
    (h3 : ∀ st, x (.func 7 [] []) [stV wSafe 0 true false] st = some (.tup [.bool false, .int .i64 0], st))
    (h4 : ∀ st, x (.func 8 [] []) [stV wSafe 0 true false] st = some (.int .i64 0, st))
    (h5 : ∀ st, x (.func 12 [] []) [stV wSafe 0 true false] st = some (.int .i64 0, st))
    (h6 : ∀ args st, x (.func 13 [] []) args st = none)
    (h7 : ∀ st, x (.func 14 [] []) [] st = some (.bool true, st))
    (h8 : ∀ st, x (.func 9 [] []) [stV wSafe 0 true false, .str a] st = some (.tup [stV m' s' l' w', .int .i64 e], st))
    (h9 : ∀ h n w, x (.func 10 [] []) [stV wSafe 0 true false] ⟨h, n, w⟩ = some (.slice n 0 3 none 1, ⟨h.set n (.cells [(.str [102, 105, 110, 100]), (.str [103, 117, 115, 116]), (.str [114, 101, 115, 101, 116])] 9 true), n + 1, w⟩))
    (h10 : ∀ st, x (.func 11 [] []) [stV wSafe 0 true false] st = some (.bool false, st)) :
    Gives (orK (cFunc Tryz.prog) x 200 10 3 [stV wSafe 0 true false, .str a] (base 10) none) (.bool true) := by
  have q1 : eqV false (.node [(0, none, .prim .str), (1, none, .prim .int), (2, none, .prim .bool), (3, none, .prim .bool)]) (stV m' s' l' w') (stV m' s' l' w') = some true := eqV_st
  generalize hh : deadT 10 = h0
  simp [hh, h1, h2, h3, h4, h5, h6, h7, h8, h9, h10, q1, eqV_prim, eqPrim, A.r3, A.b3, A.r13, A.b13]

set_option maxHeartbeats 8000000 in
theorem law_valid11 (a m' : List UInt8) (s' : Int) (l' w' : Bool) (e : Int) (x : CallT)
    (h1 : ∀ st, x (.func 5 [] []) [stV wSafe 0 false true, .str a] st = some (.tup [stV m' s' l' w', .int .i64 e], st))
    (h2 : ∀ h n w, x (.func 6 [] []) [stV wSafe 0 false true] ⟨h, n, w⟩ = some (.tup [.slice n 0 2 none 1, .int .i64 0], ⟨h.set n (.cells [(.str [108, 111, 115, 101]), (.str [99, 97, 108, 109])] 9 true), n + 1, w⟩))
    (h3 : ∀ st, x (.func 7 [] []) [stV wSafe 0 false true] st = some (.tup [.bool false, .int .i64 0], st))
    (h4 : ∀ st, x (.func 8 [] []) [stV wSafe 0 false true] st = some (.int .i64 0, st))
    (h5 : ∀ st, x (.func 12 [] []) [stV wSafe 0 false true] st = some (.int .i64 0, st))
    (h6 : ∀ args st, x (.func 13 [] []) args st = none)
    (h7 : ∀ st, x (.func 14 [] []) [] st = some (.bool true, st))
    (h8 : ∀ st, x (.func 9 [] []) [stV wSafe 0 false true, .str a] st = some (.tup [stV m' s' l' w', .int .i64 e], st))
    (h9 : ∀ h n w, x (.func 10 [] []) [stV wSafe 0 false true] ⟨h, n, w⟩ = some (.slice n 0 2 none 1, ⟨h.set n (.cells [(.str [108, 111, 115, 101]), (.str [99, 97, 108, 109])] 9 true), n + 1, w⟩))
    (h10 : ∀ st, x (.func 11 [] []) [stV wSafe 0 false true] st = some (.bool false, st)) :
    Gives (orK (cFunc Tryz.prog) x 200 10 3 [stV wSafe 0 false true, .str a] (base 10) none) (.bool true) := by
  have q1 : eqV false (.node [(0, none, .prim .str), (1, none, .prim .int), (2, none, .prim .bool), (3, none, .prim .bool)]) (stV m' s' l' w') (stV m' s' l' w') = some true := eqV_st
  generalize hh : deadT 10 = h0
  simp [hh, h1, h2, h3, h4, h5, h6, h7, h8, h9, h10, q1, eqV_prim, eqPrim, A.r3, A.b3, A.r13, A.b13]

set_option maxHeartbeats 8000000 in
theorem law_valid12 (a m' : List UInt8) (s' : Int) (l' w' : Bool) (e : Int) (x : CallT)
    (h1 : ∀ st, x (.func 5 [] []) [stV wSafe 0 true true, .str a] st = some (.tup [stV m' s' l' w', .int .i64 e], st))
    (h2 : ∀ h n w, x (.func 6 [] []) [stV wSafe 0 true true] ⟨h, n, w⟩ = some (.tup [.slice n 0 2 none 1, .int .i64 0], ⟨h.set n (.cells [(.str [102, 105, 110, 100]), (.str [99, 97, 108, 109])] 9 true), n + 1, w⟩))
    (h3 : ∀ st, x (.func 7 [] []) [stV wSafe 0 true true] st = some (.tup [.bool false, .int .i64 0], st))
    (h4 : ∀ st, x (.func 8 [] []) [stV wSafe 0 true true] st = some (.int .i64 0, st))
    (h5 : ∀ st, x (.func 12 [] []) [stV wSafe 0 true true] st = some (.int .i64 0, st))
    (h6 : ∀ args st, x (.func 13 [] []) args st = none)
    (h7 : ∀ st, x (.func 14 [] []) [] st = some (.bool true, st))
    (h8 : ∀ st, x (.func 9 [] []) [stV wSafe 0 true true, .str a] st = some (.tup [stV m' s' l' w', .int .i64 e], st))
    (h9 : ∀ h n w, x (.func 10 [] []) [stV wSafe 0 true true] ⟨h, n, w⟩ = some (.slice n 0 2 none 1, ⟨h.set n (.cells [(.str [102, 105, 110, 100]), (.str [99, 97, 108, 109])] 9 true), n + 1, w⟩))
    (h10 : ∀ st, x (.func 11 [] []) [stV wSafe 0 true true] st = some (.bool false, st)) :
    Gives (orK (cFunc Tryz.prog) x 200 10 3 [stV wSafe 0 true true, .str a] (base 10) none) (.bool true) := by
  have q1 : eqV false (.node [(0, none, .prim .str), (1, none, .prim .int), (2, none, .prim .bool), (3, none, .prim .bool)]) (stV m' s' l' w') (stV m' s' l' w') = some true := eqV_st
  generalize hh : deadT 10 = h0
  simp [hh, h1, h2, h3, h4, h5, h6, h7, h8, h9, h10, q1, eqV_prim, eqPrim, A.r3, A.b3, A.r13, A.b13]

end Go.Mx
