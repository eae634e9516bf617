/-
  CheckState of the reference, for every state.
-/
import Derived.Test.YtkdpkgfpnimekaaGreatDoorStK
import Derived.Test.YtkdpkgfpnimekaaGreatDoorProg
set_option linter.all false
namespace Go.Mx
open Go Go.Proofs
set_option maxRecDepth 1000000
set_option linter.unusedSimpArgs false
set_option linter.unusedVariables false
/-- lenslet/lensletref09.CheckState -/
def A.b8 : MCode := .seq (.reg [⟨(some 1), .box 23 (.tmp 0), none⟩, ⟨(some 2), .mov (.const (.int .i64 0)), none⟩])
 (.seq (.seq (.reg [⟨(some 3), .faddr 0 (.tmp 1), none⟩, ⟨(some 4), .load none (.tmp 3), none⟩, ⟨(some 5), .bin .neq (.prim .str) true (.tmp 4) (.const (.str [105, 100, 108, 101])), none⟩, ⟨(some 6), .mov (.tmp 5), none⟩, ⟨(some 7), .faddr 0 (.tmp 1), (some (6, true))⟩, ⟨(some 8), .load none (.tmp 7), (some (6, true))⟩, ⟨(some 9), .bin .neq (.prim .str) true (.tmp 8) (.const (.str [111, 112, 101, 110])), (some (6, true))⟩, ⟨(some 10), .pick (.tmp 6) (.tmp 9) (.const (.bool false)), none⟩, ⟨(some 11), .mov (.tmp 10), none⟩, ⟨(some 12), .faddr 0 (.tmp 1), (some (11, true))⟩, ⟨(some 13), .load none (.tmp 12), (some (11, true))⟩, ⟨(some 14), .bin .neq (.prim .str) true (.tmp 13) (.const (.str [99, 108, 111, 115, 101, 100])), (some (11, true))⟩, ⟨(some 15), .pick (.tmp 11) (.tmp 14) (.const (.bool false)), none⟩, ⟨(some 16), .mov (.tmp 15), none⟩, ⟨(some 17), .faddr 0 (.tmp 1), (some (16, true))⟩, ⟨(some 18), .load none (.tmp 17), (some (16, true))⟩, ⟨(some 19), .bin .neq (.prim .str) true (.tmp 18) (.const (.str [115, 97, 102, 101])), (some (16, true))⟩, ⟨(some 20), .pick (.tmp 16) (.tmp 19) (.const (.bool false)), none⟩])
 (.cond (.tmp 20)
 (.seq (.reg [⟨(some 2), .mov (.const (.int .i64 13)), none⟩])
 (.ret))
 (.skip)))
 (.seq (.seq (.reg [⟨(some 21), .faddr 1 (.tmp 1), none⟩, ⟨(some 22), .load none (.tmp 21), none⟩, ⟨(some 23), .bin .lss (.node []) false (.tmp 22) (.const (.int .i64 0)), none⟩, ⟨(some 24), .mov (.tmp 23), none⟩, ⟨(some 25), .faddr 1 (.tmp 1), (some (24, false))⟩, ⟨(some 26), .load none (.tmp 25), (some (24, false))⟩, ⟨(some 27), .bin .geq (.node []) false (.tmp 26) (.const (.int .i64 3)), (some (24, false))⟩, ⟨(some 28), .pick (.tmp 24) (.const (.bool true)) (.tmp 27), none⟩])
 (.cond (.tmp 28)
 (.seq (.reg [⟨(some 2), .mov (.const (.int .i64 3)), none⟩])
 (.ret))
 (.skip)))
 (.seq (.seq (.reg [⟨(some 29), .faddr 1 (.tmp 1), none⟩, ⟨(some 30), .load none (.tmp 29), none⟩, ⟨(some 31), .bin .gtr (.node []) false (.tmp 30) (.const (.int .i64 0)), none⟩, ⟨(some 32), .mov (.tmp 31), none⟩, ⟨(some 33), .faddr 0 (.tmp 1), (some (32, true))⟩, ⟨(some 34), .load none (.tmp 33), (some (32, true))⟩, ⟨(some 35), .bin .neq (.prim .str) true (.tmp 34) (.const (.str [99, 108, 111, 115, 101, 100])), (some (32, true))⟩, ⟨(some 36), .pick (.tmp 32) (.tmp 35) (.const (.bool false)), none⟩, ⟨(some 37), .mov (.tmp 36), none⟩, ⟨(some 38), .faddr 2 (.tmp 1), (some (37, false))⟩, ⟨(some 39), .load none (.tmp 38), (some (37, false))⟩, ⟨(some 40), .mov (.tmp 39), (some (37, false))⟩, ⟨(some 41), .faddr 0 (.tmp 1), (some (40, true))⟩, ⟨(some 42), .load none (.tmp 41), (some (40, true))⟩, ⟨(some 43), .bin .eql (.prim .str) true (.tmp 42) (.const (.str [99, 108, 111, 115, 101, 100])), (some (40, true))⟩, ⟨(some 44), .pick (.tmp 40) (.tmp 43) (.const (.bool false)), (some (37, false))⟩, ⟨(some 45), .pick (.tmp 37) (.const (.bool true)) (.tmp 44), none⟩, ⟨(some 46), .mov (.tmp 45), none⟩, ⟨(some 47), .faddr 3 (.tmp 1), (some (46, false))⟩, ⟨(some 48), .load none (.tmp 47), (some (46, false))⟩, ⟨(some 49), .mov (.tmp 48), (some (46, false))⟩, ⟨(some 50), .faddr 0 (.tmp 1), (some (49, true))⟩, ⟨(some 51), .load none (.tmp 50), (some (49, true))⟩, ⟨(some 52), .bin .eql (.prim .str) true (.tmp 51) (.const (.str [111, 112, 101, 110])), (some (49, true))⟩, ⟨(some 53), .mov (.tmp 52), (some (49, true))⟩, ⟨(some 54), .faddr 0 (.tmp 1), (some (53, false))⟩, ⟨(some 55), .load none (.tmp 54), (some (53, false))⟩, ⟨(some 56), .bin .eql (.prim .str) true (.tmp 55) (.const (.str [99, 108, 111, 115, 101, 100])), (some (53, false))⟩, ⟨(some 57), .pick (.tmp 53) (.const (.bool true)) (.tmp 56), (some (49, true))⟩, ⟨(some 58), .pick (.tmp 49) (.tmp 57) (.const (.bool false)), (some (46, false))⟩, ⟨(some 59), .pick (.tmp 46) (.const (.bool true)) (.tmp 58), none⟩])
 (.cond (.tmp 59)
 (.seq (.reg [⟨(some 2), .mov (.const (.int .i64 18)), none⟩])
 (.ret))
 (.skip)))
 (.seq (.reg [⟨(some 2), .mov (.const (.int .i64 0)), none⟩])
 (.ret)))))
theorem A.c8 : cFunc Tryz.prog 8 = some ⟨60, [.tmp 2], A.b8⟩ := by kernel_rfl
theorem A.r8 {x : CallT} {F d : Nat} {args : List V} {st : St} (h : args.length ≤ 60) : orK (cFunc Tryz.prog) x F d 8 args st none = finK [.tmp 2] st (mcode (mcallX x (cFunc Tryz.prog) F d) F none A.b8 ⟨setRegs .nil 0 args, 60, []⟩ ⟨st.h, st.n, []⟩) := orK_none A.c8 h

set_option maxHeartbeats 2000000 in
theorem rCheck_Idle0 (s : Int) (l w : Bool) (hs : s < 0) : Gives (mcallX noCall (cFunc Tryz.prog) 100 10 (.func 8 [] []) [stV wIdle s l w] (base 10)) (.int .i64 (chk wIdle s l w)) := by
  generalize hh : deadT 10 = h0
  have e1 : ¬ (0 < s) := by omega
  cases l <;> cases w <;> simp [hh, noCall_eq, chk, hs, e1, A.r8, A.b8]

set_option maxHeartbeats 2000000 in
theorem rCheck_Idle1 (s : Int) (l w : Bool) (hs : s = 0) : Gives (mcallX noCall (cFunc Tryz.prog) 100 10 (.func 8 [] []) [stV wIdle s l w] (base 10)) (.int .i64 (chk wIdle s l w)) := by
  generalize hh : deadT 10 = h0
  subst hs
  cases l <;> cases w <;> simp [hh, noCall_eq, chk, A.r8, A.b8]

set_option maxHeartbeats 2000000 in
theorem rCheck_Idle2 (s : Int) (l w : Bool) (hs : 0 < s) (hs2 : s ≤ 2) : Gives (mcallX noCall (cFunc Tryz.prog) 100 10 (.func 8 [] []) [stV wIdle s l w] (base 10)) (.int .i64 (chk wIdle s l w)) := by
  generalize hh : deadT 10 = h0
  have e1 : ¬ (s < 0) := by omega
  have e2 : ¬ (2 < s) := by omega
  have e3 : ¬ (s > 2) := by omega
  have e4 : ¬ (s ≥ 3) := by omega
  cases l <;> cases w <;> simp [hh, noCall_eq, chk, hs, hs2, e1, e2, e3, e4, A.r8, A.b8]

set_option maxHeartbeats 2000000 in
theorem rCheck_Idle3 (s : Int) (l w : Bool) (hs : 2 < s) : Gives (mcallX noCall (cFunc Tryz.prog) 100 10 (.func 8 [] []) [stV wIdle s l w] (base 10)) (.int .i64 (chk wIdle s l w)) := by
  generalize hh : deadT 10 = h0
  have e1 : ¬ (s < 0) := by omega
  have e2 : 0 < s := by omega
  have e4 : s ≥ 3 := by omega
  cases l <;> cases w <;> simp [hh, noCall_eq, chk, hs, e1, e2, e4, A.r8, A.b8]

theorem rCheck_Idle (s : Int) (l w : Bool) : Gives (mcallX noCall (cFunc Tryz.prog) 100 10 (.func 8 [] []) [stV wIdle s l w] (base 10)) (.int .i64 (chk wIdle s l w)) :=
  match split_s s with
  | .inl h => rCheck_Idle0 s l w h
  | .inr (.inl h) => rCheck_Idle1 s l w h
  | .inr (.inr (.inl h)) => rCheck_Idle2 s l w h.1 h.2
  | .inr (.inr (.inr h)) => rCheck_Idle3 s l w h

set_option maxHeartbeats 2000000 in
theorem rCheck_Open0 (s : Int) (l w : Bool) (hs : s < 0) : Gives (mcallX noCall (cFunc Tryz.prog) 100 10 (.func 8 [] []) [stV wOpen s l w] (base 10)) (.int .i64 (chk wOpen s l w)) := by
  generalize hh : deadT 10 = h0
  have e1 : ¬ (0 < s) := by omega
  cases l <;> cases w <;> simp [hh, noCall_eq, chk, hs, e1, A.r8, A.b8]

set_option maxHeartbeats 2000000 in
theorem rCheck_Open1 (s : Int) (l w : Bool) (hs : s = 0) : Gives (mcallX noCall (cFunc Tryz.prog) 100 10 (.func 8 [] []) [stV wOpen s l w] (base 10)) (.int .i64 (chk wOpen s l w)) := by
  generalize hh : deadT 10 = h0
  subst hs
  cases l <;> cases w <;> simp [hh, noCall_eq, chk, A.r8, A.b8]

set_option maxHeartbeats 2000000 in
theorem rCheck_Open2 (s : Int) (l w : Bool) (hs : 0 < s) (hs2 : s ≤ 2) : Gives (mcallX noCall (cFunc Tryz.prog) 100 10 (.func 8 [] []) [stV wOpen s l w] (base 10)) (.int .i64 (chk wOpen s l w)) := by
  generalize hh : deadT 10 = h0
  have e1 : ¬ (s < 0) := by omega
  have e2 : ¬ (2 < s) := by omega
  have e3 : ¬ (s > 2) := by omega
  have e4 : ¬ (s ≥ 3) := by omega
  cases l <;> cases w <;> simp [hh, noCall_eq, chk, hs, hs2, e1, e2, e3, e4, A.r8, A.b8]

set_option maxHeartbeats 2000000 in
theorem rCheck_Open3 (s : Int) (l w : Bool) (hs : 2 < s) : Gives (mcallX noCall (cFunc Tryz.prog) 100 10 (.func 8 [] []) [stV wOpen s l w] (base 10)) (.int .i64 (chk wOpen s l w)) := by
  generalize hh : deadT 10 = h0
  have e1 : ¬ (s < 0) := by omega
  have e2 : 0 < s := by omega
  have e4 : s ≥ 3 := by omega
  cases l <;> cases w <;> simp [hh, noCall_eq, chk, hs, e1, e2, e4, A.r8, A.b8]

theorem rCheck_Open (s : Int) (l w : Bool) : Gives (mcallX noCall (cFunc Tryz.prog) 100 10 (.func 8 [] []) [stV wOpen s l w] (base 10)) (.int .i64 (chk wOpen s l w)) :=
  match split_s s with
  | .inl h => rCheck_Open0 s l w h
  | .inr (.inl h) => rCheck_Open1 s l w h
  | .inr (.inr (.inl h)) => rCheck_Open2 s l w h.1 h.2
  | .inr (.inr (.inr h)) => rCheck_Open3 s l w h

set_option maxHeartbeats 2000000 in
theorem rCheck_Closed0 (s : Int) (l w : Bool) (hs : s < 0) : Gives (mcallX noCall (cFunc Tryz.prog) 100 10 (.func 8 [] []) [stV wClosed s l w] (base 10)) (.int .i64 (chk wClosed s l w)) := by
  generalize hh : deadT 10 = h0
  have e1 : ¬ (0 < s) := by omega
  cases l <;> cases w <;> simp [hh, noCall_eq, chk, hs, e1, A.r8, A.b8]

set_option maxHeartbeats 2000000 in
theorem rCheck_Closed1 (s : Int) (l w : Bool) (hs : s = 0) : Gives (mcallX noCall (cFunc Tryz.prog) 100 10 (.func 8 [] []) [stV wClosed s l w] (base 10)) (.int .i64 (chk wClosed s l w)) := by
  generalize hh : deadT 10 = h0
  subst hs
  cases l <;> cases w <;> simp [hh, noCall_eq, chk, A.r8, A.b8]

set_option maxHeartbeats 2000000 in
theorem rCheck_Closed2 (s : Int) (l w : Bool) (hs : 0 < s) (hs2 : s ≤ 2) : Gives (mcallX noCall (cFunc Tryz.prog) 100 10 (.func 8 [] []) [stV wClosed s l w] (base 10)) (.int .i64 (chk wClosed s l w)) := by
  generalize hh : deadT 10 = h0
  have e1 : ¬ (s < 0) := by omega
  have e2 : ¬ (2 < s) := by omega
  have e3 : ¬ (s > 2) := by omega
  have e4 : ¬ (s ≥ 3) := by omega
  cases l <;> cases w <;> simp [hh, noCall_eq, chk, hs, hs2, e1, e2, e3, e4, A.r8, A.b8]

set_option maxHeartbeats 2000000 in
theorem rCheck_Closed3 (s : Int) (l w : Bool) (hs : 2 < s) : Gives (mcallX noCall (cFunc Tryz.prog) 100 10 (.func 8 [] []) [stV wClosed s l w] (base 10)) (.int .i64 (chk wClosed s l w)) := by
  generalize hh : deadT 10 = h0
  have e1 : ¬ (s < 0) := by omega
  have e2 : 0 < s := by omega
  have e4 : s ≥ 3 := by omega
  cases l <;> cases w <;> simp [hh, noCall_eq, chk, hs, e1, e2, e4, A.r8, A.b8]

theorem rCheck_Closed (s : Int) (l w : Bool) : Gives (mcallX noCall (cFunc Tryz.prog) 100 10 (.func 8 [] []) [stV wClosed s l w] (base 10)) (.int .i64 (chk wClosed s l w)) :=
  match split_s s with
  | .inl h => rCheck_Closed0 s l w h
  | .inr (.inl h) => rCheck_Closed1 s l w h
  | .inr (.inr (.inl h)) => rCheck_Closed2 s l w h.1 h.2
  | .inr (.inr (.inr h)) => rCheck_Closed3 s l w h

set_option maxHeartbeats 2000000 in
theorem rCheck_Safe0 (s : Int) (l w : Bool) (hs : s < 0) : Gives (mcallX noCall (cFunc Tryz.prog) 100 10 (.func 8 [] []) [stV wSafe s l w] (base 10)) (.int .i64 (chk wSafe s l w)) := by
  generalize hh : deadT 10 = h0
  have e1 : ¬ (0 < s) := by omega
  cases l <;> cases w <;> simp [hh, noCall_eq, chk, hs, e1, A.r8, A.b8]

set_option maxHeartbeats 2000000 in
theorem rCheck_Safe1 (s : Int) (l w : Bool) (hs : s = 0) : Gives (mcallX noCall (cFunc Tryz.prog) 100 10 (.func 8 [] []) [stV wSafe s l w] (base 10)) (.int .i64 (chk wSafe s l w)) := by
  generalize hh : deadT 10 = h0
  subst hs
  cases l <;> cases w <;> simp [hh, noCall_eq, chk, A.r8, A.b8]

set_option maxHeartbeats 2000000 in
theorem rCheck_Safe2 (s : Int) (l w : Bool) (hs : 0 < s) (hs2 : s ≤ 2) : Gives (mcallX noCall (cFunc Tryz.prog) 100 10 (.func 8 [] []) [stV wSafe s l w] (base 10)) (.int .i64 (chk wSafe s l w)) := by
  generalize hh : deadT 10 = h0
  have e1 : ¬ (s < 0) := by omega
  have e2 : ¬ (2 < s) := by omega
  have e3 : ¬ (s > 2) := by omega
  have e4 : ¬ (s ≥ 3) := by omega
  cases l <;> cases w <;> simp [hh, noCall_eq, chk, hs, hs2, e1, e2, e3, e4, A.r8, A.b8]

set_option maxHeartbeats 2000000 in
theorem rCheck_Safe3 (s : Int) (l w : Bool) (hs : 2 < s) : Gives (mcallX noCall (cFunc Tryz.prog) 100 10 (.func 8 [] []) [stV wSafe s l w] (base 10)) (.int .i64 (chk wSafe s l w)) := by
  generalize hh : deadT 10 = h0
  have e1 : ¬ (s < 0) := by omega
  have e2 : 0 < s := by omega
  have e4 : s ≥ 3 := by omega
  cases l <;> cases w <;> simp [hh, noCall_eq, chk, hs, e1, e2, e4, A.r8, A.b8]

theorem rCheck_Safe (s : Int) (l w : Bool) : Gives (mcallX noCall (cFunc Tryz.prog) 100 10 (.func 8 [] []) [stV wSafe s l w] (base 10)) (.int .i64 (chk wSafe s l w)) :=
  match split_s s with
  | .inl h => rCheck_Safe0 s l w h
  | .inr (.inl h) => rCheck_Safe1 s l w h
  | .inr (.inr (.inl h)) => rCheck_Safe2 s l w h.1 h.2
  | .inr (.inr (.inr h)) => rCheck_Safe3 s l w h

set_option maxHeartbeats 2000000 in
theorem rCheck_other0 (m : List UInt8) (s : Int) (l w : Bool) (h1 : m ≠ wIdle) (h2 : m ≠ wOpen) (h3 : m ≠ wClosed) (h4 : m ≠ wSafe) (hs : s < 0) : Gives (mcallX noCall (cFunc Tryz.prog) 100 10 (.func 8 [] []) [stV m s l w] (base 10)) (.int .i64 13) := by
  have d1 : (m == wIdle) = false := by simpa using h1
  have d2 : (m == wOpen) = false := by simpa using h2
  have d3 : (m == wClosed) = false := by simpa using h3
  have d4 : (m == wSafe) = false := by simpa using h4
  generalize hh : deadT 10 = h0
  have e1 : ¬ (0 < s) := by omega
  cases l <;> cases w <;> simp [hh, noCall_eq, hs, e1, d1, d2, d3, d4, A.r8, A.b8]

set_option maxHeartbeats 2000000 in
theorem rCheck_other1 (m : List UInt8) (s : Int) (l w : Bool) (h1 : m ≠ wIdle) (h2 : m ≠ wOpen) (h3 : m ≠ wClosed) (h4 : m ≠ wSafe) (hs : s = 0) : Gives (mcallX noCall (cFunc Tryz.prog) 100 10 (.func 8 [] []) [stV m s l w] (base 10)) (.int .i64 13) := by
  have d1 : (m == wIdle) = false := by simpa using h1
  have d2 : (m == wOpen) = false := by simpa using h2
  have d3 : (m == wClosed) = false := by simpa using h3
  have d4 : (m == wSafe) = false := by simpa using h4
  generalize hh : deadT 10 = h0
  subst hs
  cases l <;> cases w <;> simp [hh, noCall_eq, d1, d2, d3, d4, A.r8, A.b8]

set_option maxHeartbeats 2000000 in
theorem rCheck_other2 (m : List UInt8) (s : Int) (l w : Bool) (h1 : m ≠ wIdle) (h2 : m ≠ wOpen) (h3 : m ≠ wClosed) (h4 : m ≠ wSafe) (hs : 0 < s) (hs2 : s ≤ 2) : Gives (mcallX noCall (cFunc Tryz.prog) 100 10 (.func 8 [] []) [stV m s l w] (base 10)) (.int .i64 13) := by
  have d1 : (m == wIdle) = false := by simpa using h1
  have d2 : (m == wOpen) = false := by simpa using h2
  have d3 : (m == wClosed) = false := by simpa using h3
  have d4 : (m == wSafe) = false := by simpa using h4
  generalize hh : deadT 10 = h0
  have e1 : ¬ (s < 0) := by omega
  have e2 : ¬ (2 < s) := by omega
  have e3 : ¬ (s > 2) := by omega
  have e4 : ¬ (s ≥ 3) := by omega
  cases l <;> cases w <;> simp [hh, noCall_eq, hs, hs2, e1, e2, e3, e4, d1, d2, d3, d4, A.r8, A.b8]

set_option maxHeartbeats 2000000 in
theorem rCheck_other3 (m : List UInt8) (s : Int) (l w : Bool) (h1 : m ≠ wIdle) (h2 : m ≠ wOpen) (h3 : m ≠ wClosed) (h4 : m ≠ wSafe) (hs : 2 < s) : Gives (mcallX noCall (cFunc Tryz.prog) 100 10 (.func 8 [] []) [stV m s l w] (base 10)) (.int .i64 13) := by
  have d1 : (m == wIdle) = false := by simpa using h1
  have d2 : (m == wOpen) = false := by simpa using h2
  have d3 : (m == wClosed) = false := by simpa using h3
  have d4 : (m == wSafe) = false := by simpa using h4
  generalize hh : deadT 10 = h0
  have e1 : ¬ (s < 0) := by omega
  have e2 : 0 < s := by omega
  have e4 : s ≥ 3 := by omega
  cases l <;> cases w <;> simp [hh, noCall_eq, hs, e1, e2, e4, d1, d2, d3, d4, A.r8, A.b8]

theorem rCheck_run (m : List UInt8) (s : Int) (l w : Bool) : Gives (mcallX noCall (cFunc Tryz.prog) 100 10 (.func 8 [] []) [stV m s l w] (base 10)) (.int .i64 (chk m s l w)) := by
  by_cases h1 : m = wIdle
  · exact h1 ▸ rCheck_Idle s l w
  by_cases h2 : m = wOpen
  · exact h2 ▸ rCheck_Open s l w
  by_cases h3 : m = wClosed
  · exact h3 ▸ rCheck_Closed s l w
  by_cases h4 : m = wSafe
  · exact h4 ▸ rCheck_Safe s l w
  have hc : chk m s l w = 13 := by simp only [chk, h1, h2, h3, h4, or_self, if_false]
  rw [hc]
  exact match split_s s with
  | .inl h => rCheck_other0 m s l w h1 h2 h3 h4 h
  | .inr (.inl h) => rCheck_other1 m s l w h1 h2 h3 h4 h
  | .inr (.inr (.inl h)) => rCheck_other2 m s l w h1 h2 h3 h4 h.1 h.2
  | .inr (.inr (.inr h)) => rCheck_other3 m s l w h1 h2 h3 h4 h

end Go.Mx
