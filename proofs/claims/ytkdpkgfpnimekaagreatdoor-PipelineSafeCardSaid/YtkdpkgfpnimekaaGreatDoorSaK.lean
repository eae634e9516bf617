/-
  PipelineSafe: its code, what holds before each round.
-/
import Derived.Test.YtkdpkgfpnimekaaGreatDoorStK
import Derived.Test.YtkdpkgfpnimekaaGreatDoorProg
set_option linter.all false
namespace Go.Mx
open Go Go.Proofs
set_option maxRecDepth 1000000
set_option linter.unusedSimpArgs false
set_option linter.unusedVariables false
/-- the round of the loop of lenslet/lensletlaw09.PipelineSafe -/
def A.lb4 : MCode := .seq (.reg [⟨(some 24), .bin .lss (.node []) false (.tmp 23) (.tmp 22), none⟩])
 (.seq (.cond (.tmp 24)
 (.skip)
 (.exit 0))
 (.seq (.block 1 (.seq (.reg [⟨(some 25), .iaddrSl 1 (.tmp 21) (.tmp 23), none⟩, ⟨(some 26), .load none (.tmp 25), none⟩, ⟨(some 7), .mov (.tmp 26), none⟩])
 (.seq (.reg [⟨(some 27), .mov (.tmp 4), none⟩, ⟨(some 28), .mov (.tmp 7), none⟩, ⟨(some 29), .convInt .i64 (.tmp 28), none⟩, ⟨(some 30), .mov (.tmp 4), none⟩, ⟨(some 31), .len 1 (.tmp 30), none⟩, ⟨(some 32), .bin .rem (.node []) false (.tmp 29) (.tmp 31), none⟩, ⟨(some 33), .iaddrSl 1 (.tmp 27) (.tmp 32), none⟩, ⟨(some 34), .load none (.tmp 33), none⟩, ⟨(some 8), .mov (.tmp 34), none⟩])
 (.seq (.reg [⟨(some 36), .load (some 4) (.tmp 3), none⟩, ⟨(some 37), .call (.const (.func 6 [] [])) [(.tmp 36)], none⟩, ⟨(some 35), .mov (.tmp 37), none⟩, ⟨(some 38), .extract (.tmp 35) 0, none⟩, ⟨(some 39), .extract (.tmp 35) 1, none⟩, ⟨(some 9), .mov (.tmp 38), none⟩, ⟨(some 10), .mov (.tmp 39), none⟩])
 (.seq (.reg [⟨(some 41), .load (some 4) (.tmp 3), none⟩, ⟨(some 42), .mov (.tmp 8), none⟩, ⟨(some 43), .call (.const (.func 5 [] [])) [(.tmp 41), (.tmp 42)], none⟩, ⟨(some 40), .mov (.tmp 43), none⟩, ⟨(some 44), .extract (.tmp 40) 0, none⟩, ⟨(some 45), .extract (.tmp 40) 1, none⟩, ⟨(some 11), .alloc [(.str []), (.int .i64 0), (.bool false), (.bool false)] 24, none⟩, ⟨none, .store 4 (.tmp 11) (.tmp 44), none⟩, ⟨(some 12), .mov (.tmp 45), none⟩])
 (.seq (.seq (.reg [⟨(some 46), .mov (.tmp 10), none⟩, ⟨(some 47), .bin .neq (.prim .int) true (.tmp 46) (.const (.int .i64 0)), none⟩, ⟨(some 48), .mov (.tmp 47), none⟩, ⟨(some 49), .mov (.tmp 9), (some (48, false))⟩, ⟨(some 50), .mov (.tmp 8), (some (48, false))⟩, ⟨(some 51), .call (.const (.func 16 [] [])) [(.tmp 49), (.tmp 50)], (some (48, false))⟩, ⟨(some 52), .mov (.tmp 12), (some (48, false))⟩, ⟨(some 53), .bin .eql (.prim .int) true (.tmp 52) (.const (.int .i64 0)), (some (48, false))⟩, ⟨(some 54), .bin .neq (.prim .bool) false (.tmp 51) (.tmp 53), (some (48, false))⟩, ⟨(some 55), .pick (.tmp 48) (.const (.bool true)) (.tmp 54), none⟩, ⟨(some 56), .mov (.tmp 55), none⟩, ⟨(some 57), .mov (.tmp 12), (some (56, false))⟩, ⟨(some 58), .bin .neq (.prim .int) true (.tmp 57) (.const (.int .i64 0)), (some (56, false))⟩, ⟨(some 59), .mov (.tmp 58), (some (56, false))⟩, ⟨(some 60), .mov (.tmp 12), (some (59, true))⟩, ⟨(some 61), .bin .neq (.prim .int) true (.tmp 60) (.const (.int .i64 18)), (some (59, true))⟩, ⟨(some 62), .mov (.tmp 61), (some (59, true))⟩, ⟨(some 63), .load (some 4) (.tmp 11), (some (62, false))⟩, ⟨(some 64), .build [(.str []), (.int .i64 0), (.bool false), (.bool false)] [], (some (62, false))⟩, ⟨(some 65), .bin .neq (.node [(0, none, (.prim .str)), (1, none, (.prim .int)), (2, none, (.prim .bool)), (3, none, (.prim .bool))]) false (.tmp 63) (.tmp 64), (some (62, false))⟩, ⟨(some 66), .pick (.tmp 62) (.const (.bool true)) (.tmp 65), (some (59, true))⟩, ⟨(some 67), .pick (.tmp 59) (.tmp 66) (.const (.bool false)), (some (56, false))⟩, ⟨(some 68), .pick (.tmp 56) (.const (.bool true)) (.tmp 67), none⟩])
 (.cond (.tmp 68)
 (.seq (.reg [⟨(some 2), .mov (.const (.bool false)), none⟩])
 (.ret))
 (.skip)))
 (.seq (.seq (.reg [⟨(some 69), .mov (.tmp 12), none⟩, ⟨(some 70), .bin .neq (.prim .int) true (.tmp 69) (.const (.int .i64 0)), none⟩])
 (.cond (.tmp 70)
 (.exit 1)
 (.skip)))
 (.seq (.seq (.reg [⟨(some 71), .faddr 0 (.tmp 3), none⟩, ⟨(some 72), .load none (.tmp 71), none⟩, ⟨(some 73), .bin .eql (.prim .str) true (.tmp 72) (.const (.str [115, 97, 102, 101])), none⟩, ⟨(some 74), .mov (.tmp 73), none⟩, ⟨(some 75), .faddr 0 (.tmp 11), (some (74, true))⟩, ⟨(some 76), .load none (.tmp 75), (some (74, true))⟩, ⟨(some 77), .bin .neq (.prim .str) true (.tmp 76) (.const (.str [115, 97, 102, 101])), (some (74, true))⟩, ⟨(some 78), .pick (.tmp 74) (.tmp 77) (.const (.bool false)), none⟩, ⟨(some 79), .mov (.tmp 78), none⟩, ⟨(some 80), .mov (.tmp 8), (some (79, true))⟩, ⟨(some 81), .bin .neq (.prim .str) true (.tmp 80) (.const (.str [114, 101, 115, 101, 116])), (some (79, true))⟩, ⟨(some 82), .mov (.tmp 81), (some (79, true))⟩, ⟨(some 83), .faddr 0 (.tmp 11), (some (82, false))⟩, ⟨(some 84), .load none (.tmp 83), (some (82, false))⟩, ⟨(some 85), .bin .neq (.prim .str) true (.tmp 84) (.const (.str [105, 100, 108, 101])), (some (82, false))⟩, ⟨(some 86), .pick (.tmp 82) (.const (.bool true)) (.tmp 85), (some (79, true))⟩, ⟨(some 87), .pick (.tmp 79) (.tmp 86) (.const (.bool false)), none⟩])
 (.cond (.tmp 87)
 (.seq (.reg [⟨(some 2), .mov (.const (.bool false)), none⟩])
 (.ret))
 (.skip)))
 (.seq (.seq (.reg [⟨(some 88), .mov (.tmp 8), none⟩, ⟨(some 89), .bin .eql (.prim .str) true (.tmp 88) (.const (.str [115, 116, 97, 114, 116])), none⟩])
 (.cond (.tmp 89)
 (.reg [⟨(some 5), .mov (.const (.int .i64 1)), none⟩])
 (.skip)))
 (.seq (.seq (.reg [⟨(some 90), .mov (.tmp 8), none⟩, ⟨(some 91), .bin .eql (.prim .str) true (.tmp 90) (.const (.str [99, 108, 111, 115, 101])), none⟩, ⟨(some 92), .mov (.tmp 91), none⟩, ⟨(some 93), .mov (.tmp 5), (some (92, true))⟩, ⟨(some 94), .bin .eql (.prim .int) true (.tmp 93) (.const (.int .i64 1)), (some (92, true))⟩, ⟨(some 95), .pick (.tmp 92) (.tmp 94) (.const (.bool false)), none⟩])
 (.cond (.tmp 95)
 (.reg [⟨(some 5), .mov (.const (.int .i64 2)), none⟩])
 (.skip)))
 (.seq (.seq (.reg [⟨(some 96), .mov (.tmp 8), none⟩, ⟨(some 97), .bin .eql (.prim .str) true (.tmp 96) (.const (.str [111, 112, 101, 110])), none⟩])
 (.cond (.tmp 97)
 (.reg [⟨(some 5), .mov (.const (.int .i64 1)), none⟩])
 (.skip)))
 (.seq (.seq (.reg [⟨(some 98), .faddr 0 (.tmp 11), none⟩, ⟨(some 99), .load none (.tmp 98), none⟩, ⟨(some 100), .bin .eql (.prim .str) true (.tmp 99) (.const (.str [105, 100, 108, 101])), none⟩, ⟨(some 101), .mov (.tmp 100), none⟩, ⟨(some 102), .faddr 0 (.tmp 11), (some (101, false))⟩, ⟨(some 103), .load none (.tmp 102), (some (101, false))⟩, ⟨(some 104), .bin .eql (.prim .str) true (.tmp 103) (.const (.str [115, 97, 102, 101])), (some (101, false))⟩, ⟨(some 105), .pick (.tmp 101) (.const (.bool true)) (.tmp 104), none⟩])
 (.cond (.tmp 105)
 (.reg [⟨(some 5), .mov (.const (.int .i64 0)), none⟩])
 (.skip)))
 (.seq (.reg [⟨(some 106), .load (some 4) (.tmp 11), none⟩, ⟨none, .store 4 (.tmp 3) (.tmp 106), none⟩])
 (.seq (.reg [⟨(some 108), .load (some 4) (.tmp 3), none⟩, ⟨(some 109), .call (.const (.func 7 [] [])) [(.tmp 108)], none⟩, ⟨(some 107), .mov (.tmp 109), none⟩, ⟨(some 110), .extract (.tmp 107) 0, none⟩, ⟨(some 111), .extract (.tmp 107) 1, none⟩, ⟨(some 13), .mov (.tmp 110), none⟩, ⟨(some 14), .mov (.tmp 111), none⟩])
 (.seq (.reg [⟨(some 112), .mov (.tmp 14), none⟩, ⟨(some 113), .bin .neq (.prim .int) true (.tmp 112) (.const (.int .i64 0)), none⟩, ⟨(some 114), .mov (.tmp 113), none⟩, ⟨(some 115), .load (some 4) (.tmp 3), (some (114, false))⟩, ⟨(some 116), .call (.const (.func 12 [] [])) [(.tmp 115)], (some (114, false))⟩, ⟨(some 117), .bin .neq (.prim .int) true (.tmp 116) (.const (.int .i64 0)), (some (114, false))⟩, ⟨(some 118), .pick (.tmp 114) (.const (.bool true)) (.tmp 117), none⟩, ⟨(some 119), .mov (.tmp 118), none⟩, ⟨(some 120), .mov (.tmp 13), (some (119, false))⟩, ⟨(some 121), .mov (.tmp 5), (some (119, false))⟩, ⟨(some 122), .bin .eql (.prim .int) true (.tmp 121) (.const (.int .i64 2)), (some (119, false))⟩, ⟨(some 123), .bin .neq (.prim .bool) false (.tmp 120) (.tmp 122), (some (119, false))⟩, ⟨(some 124), .pick (.tmp 119) (.const (.bool true)) (.tmp 123), none⟩, ⟨(some 125), .mov (.tmp 124), none⟩, ⟨(some 126), .mov (.tmp 13), (some (125, false))⟩, ⟨(some 127), .mov (.tmp 126), (some (125, false))⟩, ⟨(some 128), .faddr 2 (.tmp 3), (some (127, true))⟩, ⟨(some 129), .load none (.tmp 128), (some (127, true))⟩, ⟨(some 130), .mov (.tmp 129), (some (127, true))⟩, ⟨(some 131), .faddr 3 (.tmp 3), (some (130, false))⟩, ⟨(some 132), .load none (.tmp 131), (some (130, false))⟩, ⟨(some 133), .pick (.tmp 130) (.const (.bool true)) (.tmp 132), (some (127, true))⟩, ⟨(some 134), .pick (.tmp 127) (.tmp 133) (.const (.bool false)), (some (125, false))⟩, ⟨(some 135), .pick (.tmp 125) (.const (.bool true)) (.tmp 134), none⟩])
 (.cond (.tmp 135)
 (.seq (.reg [⟨(some 2), .mov (.const (.bool false)), none⟩])
 (.ret))
 (.skip)))))))))))))))))
 (.reg [⟨(some 136), .bin .add (.node []) false (.tmp 23) (.const (.int .i64 1)), none⟩, ⟨(some 23), .mov (.tmp 136), none⟩])))
/-- lenslet/lensletlaw09.PipelineSafe -/
def A.b4 : MCode := .seq (.reg [⟨(some 2), .mov (.const (.bool false)), none⟩])
 (.seq (.seq (.reg [⟨(some 15), .mov (.tmp 0), none⟩, ⟨(some 16), .len 1 (.tmp 15), none⟩, ⟨(some 17), .bin .gtr (.node []) false (.tmp 16) (.const (.int .i64 40)), none⟩])
 (.cond (.tmp 17)
 (.seq (.reg [⟨(some 18), .call (.const (.func 14 [] [])) [], none⟩, ⟨(some 2), .mov (.tmp 18), none⟩])
 (.ret))
 (.skip)))
 (.seq (.reg [⟨(some 19), .build [(.str []), (.int .i64 0), (.bool false), (.bool false)] [(0, 1, (.const (.str [105, 100, 108, 101])))], none⟩, ⟨(some 3), .alloc [(.str []), (.int .i64 0), (.bool false), (.bool false)] 24, none⟩, ⟨none, .store 4 (.tmp 3) (.tmp 19), none⟩])
 (.seq (.reg [⟨(some 20), .call (.const (.func 15 [] [])) [], none⟩, ⟨(some 4), .mov (.tmp 20), none⟩])
 (.seq (.reg [⟨(some 5), .mov (.const (.int .i64 0)), none⟩])
 (.seq (.seq (.reg [⟨(some 21), .mov (.tmp 0), none⟩, ⟨(some 22), .len 1 (.tmp 21), none⟩, ⟨(some 23), .mov (.const (.int .i64 0)), none⟩])
 (.block 0 (.loop A.lb4)))
 (.seq (.reg [⟨(some 137), .call (.const (.func 14 [] [])) [], none⟩, ⟨(some 2), .mov (.tmp 137), none⟩])
 (.ret)))))))
theorem A.c4 : cFunc Tryz.prog 4 = some ⟨138, [.tmp 2], A.b4⟩ := by kernel_rfl
theorem A.r4 {x : CallT} {F d : Nat} {args : List V} {st : St} (h : args.length ≤ 138) : orK (cFunc Tryz.prog) x F d 4 args st none = finK [.tmp 2] st (mcode (mcallX x (cFunc Tryz.prog) F d) F none A.b4 ⟨setRegs .nil 0 args, 138, []⟩ ⟨st.h, st.n, []⟩) := orK_none A.c4 h
/-- lenslet/lensletref01.HasWord -/
def A.b16 : MCode := .seq (.reg [⟨(some 4), .mov (.const (.bool false)), none⟩])
 (.seq (.seq (.reg [⟨(some 5), .mov (.const (.int .i64 0)), none⟩])
 (.block 0 (.loop (.seq (.seq (.reg [⟨(some 6), .mov (.tmp 5), none⟩, ⟨(some 7), .mov (.tmp 0), none⟩, ⟨(some 8), .len 1 (.tmp 7), none⟩, ⟨(some 9), .bin .lss (.node []) false (.tmp 6) (.tmp 8), none⟩])
 (.cond (.tmp 9)
 (.skip)
 (.exit 0)))
 (.seq (.block 1 (.seq (.reg [⟨(some 12), .mov (.tmp 0), none⟩, ⟨(some 13), .mov (.tmp 5), none⟩, ⟨(some 14), .iaddrSl 1 (.tmp 12) (.tmp 13), none⟩, ⟨(some 15), .load none (.tmp 14), none⟩, ⟨(some 16), .mov (.tmp 1), none⟩, ⟨(some 17), .bin .eql (.prim .str) false (.tmp 15) (.tmp 16), none⟩])
 (.cond (.tmp 17)
 (.seq (.reg [⟨(some 4), .mov (.const (.bool true)), none⟩])
 (.ret))
 (.skip))))
 (.reg [⟨(some 10), .mov (.tmp 5), none⟩, ⟨(some 11), .bin .add (.node []) false (.tmp 10) (.const (.int .i64 1)), none⟩, ⟨(some 5), .mov (.tmp 11), none⟩]))))))
 (.seq (.reg [⟨(some 4), .mov (.const (.bool false)), none⟩])
 (.ret)))
theorem A.c16 : cFunc Tryz.prog 16 = some ⟨18, [.tmp 4], A.b16⟩ := by kernel_rfl
theorem A.r16 {x : CallT} {F d : Nat} {args : List V} {st : St} (h : args.length ≤ 18) : orK (cFunc Tryz.prog) x F d 16 args st none = finK [.tmp 4] st (mcode (mcallX x (cFunc Tryz.prog) F d) F none A.b16 ⟨setRegs .nil 0 args, 18, []⟩ ⟨st.h, st.n, []⟩) := orK_none A.c16 h

/-- What a run comes to. -/
structure Post (r : Option (Ex × Fr × St)) (Q : Ex → Fr → St → Prop) : Prop where
  ex : ∃ e fr st, r = some (e, fr, st) ∧ Q e fr st
theorem post_some {e : Ex} {fr : Fr} {st : St} {Q : Ex → Fr → St → Prop} : Post (some (e, fr, st)) Q ↔ Q e fr st :=
  ⟨fun ⟨_, _, _, h, q⟩ => by simp only [Option.some.injEq, Prod.mk.injEq] at h; obtain ⟨rfl, rfl, rfl⟩ := h; exact q, fun h => ⟨_, _, _, rfl, h⟩⟩

theorem eqV_prm {ng k x y} : eqV ng (.prim k) x y = eqPrim ng k x y := by cases x <;> cases y <;> rfl

def ready (m : List UInt8) : Int := if m = wClosed then 2 else if m = wOpen then 1 else 0

/-- Before round k, in a state: what stands in the temporaries and in the heap. -/
structure SInv (p q i : Nat) (L : Nat) (arg : V) (cs : List V) (e : TypeId) (k : Nat) (m : List UInt8) (s : Int) (l w : Bool) (fr : Fr) (st : St) : Prop where
  n : fr.n = 138
  marks : fr.marks = []
  r3 : fr.r.get 3 = some (.ptr p 0)
  r4 : fr.r.get 4 = some (.slice q 0 11 (some 11) 1)
  r5 : fr.r.get 5 = some (.int .i64 (ready m))
  r21 : fr.r.get 21 = some arg
  r22 : fr.r.get 22 = some (.int .i64 L)
  r23 : fr.r.get 23 = some (.int .i64 k)
  hp : st.h.get p = some (.cells [.str m, .int .i64 s, .bool l, .bool w] 24 true)
  hq : st.h.get q = some (.cells [.str [115, 116, 97, 114, 116], .str [99, 108, 111, 115, 101], .str [111, 112, 101, 110], .str [115, 116, 111, 112], .str [115, 97, 116, 117, 114, 97, 116, 101], .str [99, 108, 101, 97, 114], .str [108, 111, 115, 101], .str [102, 105, 110, 100], .str [103, 117, 115, 116], .str [99, 97, 108, 109], .str [114, 101, 115, 101, 116]] 9 true)
  hi : 0 < L → st.h.get i = some (.cells cs e false)
  lp : p < st.n
  lq : q < st.n
  li : i < st.n
  w : ∀ j ∈ st.w, i < j
  ip : i < p
  iq : i < q
  pq : p ≠ q

end Go.Mx
