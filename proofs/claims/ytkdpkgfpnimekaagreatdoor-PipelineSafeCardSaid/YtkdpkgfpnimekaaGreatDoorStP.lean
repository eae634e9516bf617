/-
  CheckState of the program, for every state.
-/
import Derived.Test.YtkdpkgfpnimekaaGreatDoorStK
import Derived.Test.YtkdpkgfpnimekaaGreatDoorProg
set_option linter.all false
namespace Go.Mx
open Go Go.Proofs
set_option maxRecDepth 1000000
set_option linter.unusedSimpArgs false
set_option linter.unusedVariables false
/-- lenslet/pipeline.CheckState -/
def A.b12 : MCode := .seq (.reg [⟨(some 1), .box 24 (.tmp 0), none⟩, ⟨(some 2), .mov (.const (.int .i64 0)), none⟩])
 (.seq (.reg [⟨(some 5), .bslice 9 1 4 [(.str []), (.str []), (.str []), (.str [])] [(0, 1, (.const (.str [105, 100, 108, 101]))), (1, 1, (.const (.str [111, 112, 101, 110]))), (2, 1, (.const (.str [99, 108, 111, 115, 101, 100]))), (3, 1, (.const (.str [115, 97, 102, 101])))], none⟩, ⟨(some 6), .faddr 0 (.tmp 1), none⟩, ⟨(some 7), .load none (.tmp 6), none⟩, ⟨(some 8), .call (.const (.func 23 [] [])) [(.tmp 5), (.tmp 7)], none⟩, ⟨(some 3), .mov (.tmp 8), none⟩])
 (.seq (.reg [⟨(some 9), .faddr 1 (.tmp 1), none⟩, ⟨(some 10), .load none (.tmp 9), none⟩, ⟨(some 11), .bin .gtr (.node []) false (.tmp 10) (.const (.int .i64 0)), none⟩, ⟨(some 12), .mov (.tmp 11), none⟩, ⟨(some 13), .faddr 0 (.tmp 1), (some (12, true))⟩, ⟨(some 14), .load none (.tmp 13), (some (12, true))⟩, ⟨(some 15), .bin .neq (.prim .str) true (.tmp 14) (.const (.str [99, 108, 111, 115, 101, 100])), (some (12, true))⟩, ⟨(some 16), .pick (.tmp 12) (.tmp 15) (.const (.bool false)), none⟩, ⟨(some 17), .mov (.tmp 16), none⟩, ⟨(some 18), .faddr 2 (.tmp 1), (some (17, false))⟩, ⟨(some 19), .load none (.tmp 18), (some (17, false))⟩, ⟨(some 20), .mov (.tmp 19), (some (17, false))⟩, ⟨(some 21), .faddr 0 (.tmp 1), (some (20, true))⟩, ⟨(some 22), .load none (.tmp 21), (some (20, true))⟩, ⟨(some 23), .bin .eql (.prim .str) true (.tmp 22) (.const (.str [99, 108, 111, 115, 101, 100])), (some (20, true))⟩, ⟨(some 24), .pick (.tmp 20) (.tmp 23) (.const (.bool false)), (some (17, false))⟩, ⟨(some 25), .pick (.tmp 17) (.const (.bool true)) (.tmp 24), none⟩, ⟨(some 26), .mov (.tmp 25), none⟩, ⟨(some 27), .faddr 3 (.tmp 1), (some (26, false))⟩, ⟨(some 28), .load none (.tmp 27), (some (26, false))⟩, ⟨(some 29), .mov (.tmp 28), (some (26, false))⟩, ⟨(some 30), .faddr 0 (.tmp 1), (some (29, true))⟩, ⟨(some 31), .load none (.tmp 30), (some (29, true))⟩, ⟨(some 32), .bin .eql (.prim .str) true (.tmp 31) (.const (.str [111, 112, 101, 110])), (some (29, true))⟩, ⟨(some 33), .mov (.tmp 32), (some (29, true))⟩, ⟨(some 34), .faddr 0 (.tmp 1), (some (33, false))⟩, ⟨(some 35), .load none (.tmp 34), (some (33, false))⟩, ⟨(some 36), .bin .eql (.prim .str) true (.tmp 35) (.const (.str [99, 108, 111, 115, 101, 100])), (some (33, false))⟩, ⟨(some 37), .pick (.tmp 33) (.const (.bool true)) (.tmp 36), (some (29, true))⟩, ⟨(some 38), .pick (.tmp 29) (.tmp 37) (.const (.bool false)), (some (26, false))⟩, ⟨(some 39), .pick (.tmp 26) (.const (.bool true)) (.tmp 38), none⟩, ⟨(some 4), .mov (.tmp 39), none⟩])
 (.seq (.regD [⟨(some 40), .mov (.tmp 3), none⟩, ⟨(some 41), .un .not (.tmp 40), none⟩, ⟨(some 42), .call (.const (.func 25 [] [])) [(.tmp 41), (.const (.int .i64 13))], none⟩, ⟨(some 43), .faddr 1 (.tmp 1), none⟩, ⟨(some 44), .load none (.tmp 43), none⟩, ⟨(some 45), .call (.const (.func 26 [] [])) [(.tmp 44), (.const (.int .i64 0)), (.const (.int .i64 2))], none⟩, ⟨(some 46), .mov (.tmp 4), none⟩, ⟨(some 47), .call (.const (.func 25 [] [])) [(.tmp 46), (.const (.int .i64 18))], none⟩, ⟨(some 48), .bslice 25 1 3 [(.int .i64 0), (.int .i64 0), (.int .i64 0)] [(0, 1, (.tmp 42)), (1, 1, (.tmp 45)), (2, 1, (.tmp 47))], none⟩, ⟨(some 49), .call (.const (.func 24 [] [])) [(.tmp 48)], none⟩, ⟨(some 2), .mov (.tmp 49), none⟩] [0, 1, 3, 0, 8, 31, 0, 127, 255, 511, 1023])
 (.ret))))
theorem A.c12 : cFunc Tryz.prog 12 = some ⟨50, [.tmp 2], A.b12⟩ := by kernel_rfl
theorem A.r12 {x : CallT} {F d : Nat} {args : List V} {st : St} (h : args.length ≤ 50) : orK (cFunc Tryz.prog) x F d 12 args st none = finK [.tmp 2] st (mcode (mcallX x (cFunc Tryz.prog) F d) F none A.b12 ⟨setRegs .nil 0 args, 50, []⟩ ⟨st.h, st.n, []⟩) := orK_none A.c12 h
/-- slices.Contains[[]string,string] -/
def A.b23 : MCode := .seq (.reg [⟨(some 4), .mov (.const (.bool false)), none⟩])
 (.seq (.reg [⟨(some 5), .mov (.tmp 0), none⟩, ⟨(some 6), .mov (.tmp 1), none⟩, ⟨(some 7), .call (.const (.func 60 [] [])) [(.tmp 5), (.tmp 6)], none⟩, ⟨(some 8), .bin .geq (.node []) false (.tmp 7) (.const (.int .i64 0)), none⟩, ⟨(some 4), .mov (.tmp 8), none⟩])
 (.ret))
theorem A.c23 : cFunc Tryz.prog 23 = some ⟨9, [.tmp 4], A.b23⟩ := by kernel_rfl
theorem A.r23 {x : CallT} {F d : Nat} {args : List V} {st : St} (h : args.length ≤ 9) : orK (cFunc Tryz.prog) x F d 23 args st none = finK [.tmp 4] st (mcode (mcallX x (cFunc Tryz.prog) F d) F none A.b23 ⟨setRegs .nil 0 args, 9, []⟩ ⟨st.h, st.n, []⟩) := orK_none A.c23 h
/-- slices.Index[[]string,string] -/
def A.b60 : MCode := .seq (.reg [⟨(some 4), .mov (.const (.int .i64 0)), none⟩])
 (.seq (.seq (.reg [⟨(some 6), .mov (.tmp 0), none⟩, ⟨(some 7), .len 1 (.tmp 6), none⟩, ⟨(some 8), .mov (.const (.int .i64 0)), none⟩])
 (.block 0 (.loop (.seq (.reg [⟨(some 9), .bin .lss (.node []) false (.tmp 8) (.tmp 7), none⟩])
 (.seq (.cond (.tmp 9)
 (.skip)
 (.exit 0))
 (.seq (.block 1 (.seq (.reg [⟨(some 10), .mov (.tmp 8), none⟩, ⟨(some 5), .mov (.tmp 10), none⟩])
 (.seq (.reg [⟨(some 11), .mov (.tmp 1), none⟩, ⟨(some 12), .mov (.tmp 0), none⟩, ⟨(some 13), .mov (.tmp 5), none⟩, ⟨(some 14), .iaddrSl 1 (.tmp 12) (.tmp 13), none⟩, ⟨(some 15), .load none (.tmp 14), none⟩, ⟨(some 16), .bin .eql (.prim .str) false (.tmp 11) (.tmp 15), none⟩])
 (.cond (.tmp 16)
 (.seq (.reg [⟨(some 17), .mov (.tmp 5), none⟩, ⟨(some 4), .mov (.tmp 17), none⟩])
 (.ret))
 (.skip)))))
 (.reg [⟨(some 18), .bin .add (.node []) false (.tmp 8) (.const (.int .i64 1)), none⟩, ⟨(some 8), .mov (.tmp 18), none⟩])))))))
 (.seq (.reg [⟨(some 4), .mov (.const (.int .i64 (-1))), none⟩])
 (.ret)))
theorem A.c60 : cFunc Tryz.prog 60 = some ⟨19, [.tmp 4], A.b60⟩ := by kernel_rfl
theorem A.r60 {x : CallT} {F d : Nat} {args : List V} {st : St} (h : args.length ≤ 19) : orK (cFunc Tryz.prog) x F d 60 args st none = finK [.tmp 4] st (mcode (mcallX x (cFunc Tryz.prog) F d) F none A.b60 ⟨setRegs .nil 0 args, 19, []⟩ ⟨st.h, st.n, []⟩) := orK_none A.c60 h
/-- lenslet/pipeline.first -/
def A.b24 : MCode := .seq (.reg [⟨(some 2), .mov (.const (.int .i64 0)), none⟩])
 (.seq (.seq (.reg [⟨(some 5), .mov (.tmp 0), none⟩, ⟨(some 6), .len 1 (.tmp 5), none⟩, ⟨(some 7), .mov (.const (.int .i64 0)), none⟩])
 (.block 0 (.loop (.seq (.reg [⟨(some 8), .bin .lss (.node []) false (.tmp 7) (.tmp 6), none⟩])
 (.seq (.cond (.tmp 8)
 (.skip)
 (.exit 0))
 (.seq (.block 1 (.seq (.reg [⟨(some 9), .iaddrSl 1 (.tmp 5) (.tmp 7), none⟩, ⟨(some 10), .load none (.tmp 9), none⟩, ⟨(some 4), .mov (.tmp 10), none⟩])
 (.seq (.reg [⟨(some 11), .mov (.tmp 4), none⟩, ⟨(some 12), .bin .neq (.prim .int) true (.tmp 11) (.const (.int .i64 0)), none⟩])
 (.cond (.tmp 12)
 (.seq (.reg [⟨(some 13), .mov (.tmp 4), none⟩, ⟨(some 2), .mov (.tmp 13), none⟩])
 (.ret))
 (.skip)))))
 (.reg [⟨(some 14), .bin .add (.node []) false (.tmp 7) (.const (.int .i64 1)), none⟩, ⟨(some 7), .mov (.tmp 14), none⟩])))))))
 (.seq (.reg [⟨(some 2), .mov (.const (.int .i64 0)), none⟩])
 (.ret)))
theorem A.c24 : cFunc Tryz.prog 24 = some ⟨15, [.tmp 2], A.b24⟩ := by kernel_rfl
theorem A.r24 {x : CallT} {F d : Nat} {args : List V} {st : St} (h : args.length ≤ 15) : orK (cFunc Tryz.prog) x F d 24 args st none = finK [.tmp 2] st (mcode (mcallX x (cFunc Tryz.prog) F d) F none A.b24 ⟨setRegs .nil 0 args, 15, []⟩ ⟨st.h, st.n, []⟩) := orK_none A.c24 h
/-- lenslet/pipeline.when -/
def A.b25 : MCode := .seq (.reg [⟨(some 4), .mov (.const (.int .i64 0)), none⟩])
 (.seq (.seq (.reg [⟨(some 5), .mov (.tmp 0), none⟩])
 (.cond (.tmp 5)
 (.seq (.reg [⟨(some 6), .mov (.tmp 1), none⟩, ⟨(some 4), .mov (.tmp 6), none⟩])
 (.ret))
 (.skip)))
 (.seq (.reg [⟨(some 4), .mov (.const (.int .i64 0)), none⟩])
 (.ret)))
theorem A.c25 : cFunc Tryz.prog 25 = some ⟨7, [.tmp 4], A.b25⟩ := by kernel_rfl
theorem A.r25 {x : CallT} {F d : Nat} {args : List V} {st : St} (h : args.length ≤ 7) : orK (cFunc Tryz.prog) x F d 25 args st none = finK [.tmp 4] st (mcode (mcallX x (cFunc Tryz.prog) F d) F none A.b25 ⟨setRegs .nil 0 args, 7, []⟩ ⟨st.h, st.n, []⟩) := orK_none A.c25 h
/-- lenslet/pipeline.within -/
def A.b26 : MCode := .seq (.reg [⟨(some 6), .mov (.const (.int .i64 0)), none⟩])
 (.seq (.reg [⟨(some 7), .mov (.tmp 0), none⟩, ⟨(some 8), .mov (.tmp 1), none⟩, ⟨(some 9), .bin .lss (.node []) false (.tmp 7) (.tmp 8), none⟩, ⟨(some 10), .mov (.tmp 9), none⟩, ⟨(some 11), .mov (.tmp 0), (some (10, false))⟩, ⟨(some 12), .mov (.tmp 2), (some (10, false))⟩, ⟨(some 13), .bin .gtr (.node []) false (.tmp 11) (.tmp 12), (some (10, false))⟩, ⟨(some 14), .pick (.tmp 10) (.const (.bool true)) (.tmp 13), none⟩, ⟨(some 15), .call (.const (.func 25 [] [])) [(.tmp 14), (.const (.int .i64 3))], none⟩, ⟨(some 6), .mov (.tmp 15), none⟩])
 (.ret))
theorem A.c26 : cFunc Tryz.prog 26 = some ⟨16, [.tmp 6], A.b26⟩ := by kernel_rfl
theorem A.r26 {x : CallT} {F d : Nat} {args : List V} {st : St} (h : args.length ≤ 16) : orK (cFunc Tryz.prog) x F d 26 args st none = finK [.tmp 6] st (mcode (mcallX x (cFunc Tryz.prog) F d) F none A.b26 ⟨setRegs .nil 0 args, 16, []⟩ ⟨st.h, st.n, []⟩) := orK_none A.c26 h

set_option maxHeartbeats 2000000 in
theorem pCheck_Idle0 (s : Int) (l w : Bool) (hs : s < 0) : Gives (mcallX noCall (cFunc Tryz.prog) 100 10 (.func 12 [] []) [stV wIdle s l w] (base 10)) (.int .i64 (chk wIdle s l w)) := by
  generalize hh : deadT 10 = h0
  have e1 : ¬ (0 < s) := by omega
  cases l <;> cases w <;> simp [hh, noCall_eq, chk, hs, e1, A.r12, A.b12, A.r23, A.b23, A.r60, A.b60, A.r24, A.b24, A.r25, A.b25, A.r26, A.b26]

set_option maxHeartbeats 2000000 in
theorem pCheck_Idle1 (s : Int) (l w : Bool) (hs : s = 0) : Gives (mcallX noCall (cFunc Tryz.prog) 100 10 (.func 12 [] []) [stV wIdle s l w] (base 10)) (.int .i64 (chk wIdle s l w)) := by
  generalize hh : deadT 10 = h0
  subst hs
  cases l <;> cases w <;> simp [hh, noCall_eq, chk, A.r12, A.b12, A.r23, A.b23, A.r60, A.b60, A.r24, A.b24, A.r25, A.b25, A.r26, A.b26]

set_option maxHeartbeats 2000000 in
theorem pCheck_Idle2 (s : Int) (l w : Bool) (hs : 0 < s) (hs2 : s ≤ 2) : Gives (mcallX noCall (cFunc Tryz.prog) 100 10 (.func 12 [] []) [stV wIdle s l w] (base 10)) (.int .i64 (chk wIdle s l w)) := by
  generalize hh : deadT 10 = h0
  have e1 : ¬ (s < 0) := by omega
  have e2 : ¬ (2 < s) := by omega
  have e3 : ¬ (s > 2) := by omega
  have e4 : ¬ (s ≥ 3) := by omega
  cases l <;> cases w <;> simp [hh, noCall_eq, chk, hs, hs2, e1, e2, e3, e4, A.r12, A.b12, A.r23, A.b23, A.r60, A.b60, A.r24, A.b24, A.r25, A.b25, A.r26, A.b26]

set_option maxHeartbeats 2000000 in
theorem pCheck_Idle3 (s : Int) (l w : Bool) (hs : 2 < s) : Gives (mcallX noCall (cFunc Tryz.prog) 100 10 (.func 12 [] []) [stV wIdle s l w] (base 10)) (.int .i64 (chk wIdle s l w)) := by
  generalize hh : deadT 10 = h0
  have e1 : ¬ (s < 0) := by omega
  have e2 : 0 < s := by omega
  have e4 : s ≥ 3 := by omega
  cases l <;> cases w <;> simp [hh, noCall_eq, chk, hs, e1, e2, e4, A.r12, A.b12, A.r23, A.b23, A.r60, A.b60, A.r24, A.b24, A.r25, A.b25, A.r26, A.b26]

theorem pCheck_Idle (s : Int) (l w : Bool) : Gives (mcallX noCall (cFunc Tryz.prog) 100 10 (.func 12 [] []) [stV wIdle s l w] (base 10)) (.int .i64 (chk wIdle s l w)) :=
  match split_s s with
  | .inl h => pCheck_Idle0 s l w h
  | .inr (.inl h) => pCheck_Idle1 s l w h
  | .inr (.inr (.inl h)) => pCheck_Idle2 s l w h.1 h.2
  | .inr (.inr (.inr h)) => pCheck_Idle3 s l w h

set_option maxHeartbeats 2000000 in
theorem pCheck_Open0 (s : Int) (l w : Bool) (hs : s < 0) : Gives (mcallX noCall (cFunc Tryz.prog) 100 10 (.func 12 [] []) [stV wOpen s l w] (base 10)) (.int .i64 (chk wOpen s l w)) := by
  generalize hh : deadT 10 = h0
  have e1 : ¬ (0 < s) := by omega
  cases l <;> cases w <;> simp [hh, noCall_eq, chk, hs, e1, A.r12, A.b12, A.r23, A.b23, A.r60, A.b60, A.r24, A.b24, A.r25, A.b25, A.r26, A.b26]

set_option maxHeartbeats 2000000 in
theorem pCheck_Open1 (s : Int) (l w : Bool) (hs : s = 0) : Gives (mcallX noCall (cFunc Tryz.prog) 100 10 (.func 12 [] []) [stV wOpen s l w] (base 10)) (.int .i64 (chk wOpen s l w)) := by
  generalize hh : deadT 10 = h0
  subst hs
  cases l <;> cases w <;> simp [hh, noCall_eq, chk, A.r12, A.b12, A.r23, A.b23, A.r60, A.b60, A.r24, A.b24, A.r25, A.b25, A.r26, A.b26]

set_option maxHeartbeats 2000000 in
theorem pCheck_Open2 (s : Int) (l w : Bool) (hs : 0 < s) (hs2 : s ≤ 2) : Gives (mcallX noCall (cFunc Tryz.prog) 100 10 (.func 12 [] []) [stV wOpen s l w] (base 10)) (.int .i64 (chk wOpen s l w)) := by
  generalize hh : deadT 10 = h0
  have e1 : ¬ (s < 0) := by omega
  have e2 : ¬ (2 < s) := by omega
  have e3 : ¬ (s > 2) := by omega
  have e4 : ¬ (s ≥ 3) := by omega
  cases l <;> cases w <;> simp [hh, noCall_eq, chk, hs, hs2, e1, e2, e3, e4, A.r12, A.b12, A.r23, A.b23, A.r60, A.b60, A.r24, A.b24, A.r25, A.b25, A.r26, A.b26]

set_option maxHeartbeats 2000000 in
theorem pCheck_Open3 (s : Int) (l w : Bool) (hs : 2 < s) : Gives (mcallX noCall (cFunc Tryz.prog) 100 10 (.func 12 [] []) [stV wOpen s l w] (base 10)) (.int .i64 (chk wOpen s l w)) := by
  generalize hh : deadT 10 = h0
  have e1 : ¬ (s < 0) := by omega
  have e2 : 0 < s := by omega
  have e4 : s ≥ 3 := by omega
  cases l <;> cases w <;> simp [hh, noCall_eq, chk, hs, e1, e2, e4, A.r12, A.b12, A.r23, A.b23, A.r60, A.b60, A.r24, A.b24, A.r25, A.b25, A.r26, A.b26]

theorem pCheck_Open (s : Int) (l w : Bool) : Gives (mcallX noCall (cFunc Tryz.prog) 100 10 (.func 12 [] []) [stV wOpen s l w] (base 10)) (.int .i64 (chk wOpen s l w)) :=
  match split_s s with
  | .inl h => pCheck_Open0 s l w h
  | .inr (.inl h) => pCheck_Open1 s l w h
  | .inr (.inr (.inl h)) => pCheck_Open2 s l w h.1 h.2
  | .inr (.inr (.inr h)) => pCheck_Open3 s l w h

set_option maxHeartbeats 2000000 in
theorem pCheck_Closed0 (s : Int) (l w : Bool) (hs : s < 0) : Gives (mcallX noCall (cFunc Tryz.prog) 100 10 (.func 12 [] []) [stV wClosed s l w] (base 10)) (.int .i64 (chk wClosed s l w)) := by
  generalize hh : deadT 10 = h0
  have e1 : ¬ (0 < s) := by omega
  cases l <;> cases w <;> simp [hh, noCall_eq, chk, hs, e1, A.r12, A.b12, A.r23, A.b23, A.r60, A.b60, A.r24, A.b24, A.r25, A.b25, A.r26, A.b26]

set_option maxHeartbeats 2000000 in
theorem pCheck_Closed1 (s : Int) (l w : Bool) (hs : s = 0) : Gives (mcallX noCall (cFunc Tryz.prog) 100 10 (.func 12 [] []) [stV wClosed s l w] (base 10)) (.int .i64 (chk wClosed s l w)) := by
  generalize hh : deadT 10 = h0
  subst hs
  cases l <;> cases w <;> simp [hh, noCall_eq, chk, A.r12, A.b12, A.r23, A.b23, A.r60, A.b60, A.r24, A.b24, A.r25, A.b25, A.r26, A.b26]

set_option maxHeartbeats 2000000 in
theorem pCheck_Closed2 (s : Int) (l w : Bool) (hs : 0 < s) (hs2 : s ≤ 2) : Gives (mcallX noCall (cFunc Tryz.prog) 100 10 (.func 12 [] []) [stV wClosed s l w] (base 10)) (.int .i64 (chk wClosed s l w)) := by
  generalize hh : deadT 10 = h0
  have e1 : ¬ (s < 0) := by omega
  have e2 : ¬ (2 < s) := by omega
  have e3 : ¬ (s > 2) := by omega
  have e4 : ¬ (s ≥ 3) := by omega
  cases l <;> cases w <;> simp [hh, noCall_eq, chk, hs, hs2, e1, e2, e3, e4, A.r12, A.b12, A.r23, A.b23, A.r60, A.b60, A.r24, A.b24, A.r25, A.b25, A.r26, A.b26]

set_option maxHeartbeats 2000000 in
theorem pCheck_Closed3 (s : Int) (l w : Bool) (hs : 2 < s) : Gives (mcallX noCall (cFunc Tryz.prog) 100 10 (.func 12 [] []) [stV wClosed s l w] (base 10)) (.int .i64 (chk wClosed s l w)) := by
  generalize hh : deadT 10 = h0
  have e1 : ¬ (s < 0) := by omega
  have e2 : 0 < s := by omega
  have e4 : s ≥ 3 := by omega
  cases l <;> cases w <;> simp [hh, noCall_eq, chk, hs, e1, e2, e4, A.r12, A.b12, A.r23, A.b23, A.r60, A.b60, A.r24, A.b24, A.r25, A.b25, A.r26, A.b26]

theorem pCheck_Closed (s : Int) (l w : Bool) : Gives (mcallX noCall (cFunc Tryz.prog) 100 10 (.func 12 [] []) [stV wClosed s l w] (base 10)) (.int .i64 (chk wClosed s l w)) :=
  match split_s s with
  | .inl h => pCheck_Closed0 s l w h
  | .inr (.inl h) => pCheck_Closed1 s l w h
  | .inr (.inr (.inl h)) => pCheck_Closed2 s l w h.1 h.2
  | .inr (.inr (.inr h)) => pCheck_Closed3 s l w h

set_option maxHeartbeats 2000000 in
theorem pCheck_Safe0 (s : Int) (l w : Bool) (hs : s < 0) : Gives (mcallX noCall (cFunc Tryz.prog) 100 10 (.func 12 [] []) [stV wSafe s l w] (base 10)) (.int .i64 (chk wSafe s l w)) := by
  generalize hh : deadT 10 = h0
  have e1 : ¬ (0 < s) := by omega
  cases l <;> cases w <;> simp [hh, noCall_eq, chk, hs, e1, A.r12, A.b12, A.r23, A.b23, A.r60, A.b60, A.r24, A.b24, A.r25, A.b25, A.r26, A.b26]

set_option maxHeartbeats 2000000 in
theorem pCheck_Safe1 (s : Int) (l w : Bool) (hs : s = 0) : Gives (mcallX noCall (cFunc Tryz.prog) 100 10 (.func 12 [] []) [stV wSafe s l w] (base 10)) (.int .i64 (chk wSafe s l w)) := by
  generalize hh : deadT 10 = h0
  subst hs
  cases l <;> cases w <;> simp [hh, noCall_eq, chk, A.r12, A.b12, A.r23, A.b23, A.r60, A.b60, A.r24, A.b24, A.r25, A.b25, A.r26, A.b26]

set_option maxHeartbeats 2000000 in
theorem pCheck_Safe2 (s : Int) (l w : Bool) (hs : 0 < s) (hs2 : s ≤ 2) : Gives (mcallX noCall (cFunc Tryz.prog) 100 10 (.func 12 [] []) [stV wSafe s l w] (base 10)) (.int .i64 (chk wSafe s l w)) := by
  generalize hh : deadT 10 = h0
  have e1 : ¬ (s < 0) := by omega
  have e2 : ¬ (2 < s) := by omega
  have e3 : ¬ (s > 2) := by omega
  have e4 : ¬ (s ≥ 3) := by omega
  cases l <;> cases w <;> simp [hh, noCall_eq, chk, hs, hs2, e1, e2, e3, e4, A.r12, A.b12, A.r23, A.b23, A.r60, A.b60, A.r24, A.b24, A.r25, A.b25, A.r26, A.b26]

set_option maxHeartbeats 2000000 in
theorem pCheck_Safe3 (s : Int) (l w : Bool) (hs : 2 < s) : Gives (mcallX noCall (cFunc Tryz.prog) 100 10 (.func 12 [] []) [stV wSafe s l w] (base 10)) (.int .i64 (chk wSafe s l w)) := by
  generalize hh : deadT 10 = h0
  have e1 : ¬ (s < 0) := by omega
  have e2 : 0 < s := by omega
  have e4 : s ≥ 3 := by omega
  cases l <;> cases w <;> simp [hh, noCall_eq, chk, hs, e1, e2, e4, A.r12, A.b12, A.r23, A.b23, A.r60, A.b60, A.r24, A.b24, A.r25, A.b25, A.r26, A.b26]

theorem pCheck_Safe (s : Int) (l w : Bool) : Gives (mcallX noCall (cFunc Tryz.prog) 100 10 (.func 12 [] []) [stV wSafe s l w] (base 10)) (.int .i64 (chk wSafe s l w)) :=
  match split_s s with
  | .inl h => pCheck_Safe0 s l w h
  | .inr (.inl h) => pCheck_Safe1 s l w h
  | .inr (.inr (.inl h)) => pCheck_Safe2 s l w h.1 h.2
  | .inr (.inr (.inr h)) => pCheck_Safe3 s l w h

set_option maxHeartbeats 2000000 in
theorem pCheck_other0 (m : List UInt8) (s : Int) (l w : Bool) (h1 : m ≠ wIdle) (h2 : m ≠ wOpen) (h3 : m ≠ wClosed) (h4 : m ≠ wSafe) (hs : s < 0) : Gives (mcallX noCall (cFunc Tryz.prog) 100 10 (.func 12 [] []) [stV m s l w] (base 10)) (.int .i64 13) := by
  have d1 : (m == wIdle) = false := by simpa using h1
  have d2 : (m == wOpen) = false := by simpa using h2
  have d3 : (m == wClosed) = false := by simpa using h3
  have d4 : (m == wSafe) = false := by simpa using h4
  generalize hh : deadT 10 = h0
  have e1 : ¬ (0 < s) := by omega
  cases l <;> cases w <;> simp [hh, noCall_eq, hs, e1, d1, d2, d3, d4, A.r12, A.b12, A.r23, A.b23, A.r60, A.b60, A.r24, A.b24, A.r25, A.b25, A.r26, A.b26]

set_option maxHeartbeats 2000000 in
theorem pCheck_other1 (m : List UInt8) (s : Int) (l w : Bool) (h1 : m ≠ wIdle) (h2 : m ≠ wOpen) (h3 : m ≠ wClosed) (h4 : m ≠ wSafe) (hs : s = 0) : Gives (mcallX noCall (cFunc Tryz.prog) 100 10 (.func 12 [] []) [stV m s l w] (base 10)) (.int .i64 13) := by
  have d1 : (m == wIdle) = false := by simpa using h1
  have d2 : (m == wOpen) = false := by simpa using h2
  have d3 : (m == wClosed) = false := by simpa using h3
  have d4 : (m == wSafe) = false := by simpa using h4
  generalize hh : deadT 10 = h0
  subst hs
  cases l <;> cases w <;> simp [hh, noCall_eq, d1, d2, d3, d4, A.r12, A.b12, A.r23, A.b23, A.r60, A.b60, A.r24, A.b24, A.r25, A.b25, A.r26, A.b26]

set_option maxHeartbeats 2000000 in
theorem pCheck_other2 (m : List UInt8) (s : Int) (l w : Bool) (h1 : m ≠ wIdle) (h2 : m ≠ wOpen) (h3 : m ≠ wClosed) (h4 : m ≠ wSafe) (hs : 0 < s) (hs2 : s ≤ 2) : Gives (mcallX noCall (cFunc Tryz.prog) 100 10 (.func 12 [] []) [stV m s l w] (base 10)) (.int .i64 13) := by
  have d1 : (m == wIdle) = false := by simpa using h1
  have d2 : (m == wOpen) = false := by simpa using h2
  have d3 : (m == wClosed) = false := by simpa using h3
  have d4 : (m == wSafe) = false := by simpa using h4
  generalize hh : deadT 10 = h0
  have e1 : ¬ (s < 0) := by omega
  have e2 : ¬ (2 < s) := by omega
  have e3 : ¬ (s > 2) := by omega
  have e4 : ¬ (s ≥ 3) := by omega
  cases l <;> cases w <;> simp [hh, noCall_eq, hs, hs2, e1, e2, e3, e4, d1, d2, d3, d4, A.r12, A.b12, A.r23, A.b23, A.r60, A.b60, A.r24, A.b24, A.r25, A.b25, A.r26, A.b26]

set_option maxHeartbeats 2000000 in
theorem pCheck_other3 (m : List UInt8) (s : Int) (l w : Bool) (h1 : m ≠ wIdle) (h2 : m ≠ wOpen) (h3 : m ≠ wClosed) (h4 : m ≠ wSafe) (hs : 2 < s) : Gives (mcallX noCall (cFunc Tryz.prog) 100 10 (.func 12 [] []) [stV m s l w] (base 10)) (.int .i64 13) := by
  have d1 : (m == wIdle) = false := by simpa using h1
  have d2 : (m == wOpen) = false := by simpa using h2
  have d3 : (m == wClosed) = false := by simpa using h3
  have d4 : (m == wSafe) = false := by simpa using h4
  generalize hh : deadT 10 = h0
  have e1 : ¬ (s < 0) := by omega
  have e2 : 0 < s := by omega
  have e4 : s ≥ 3 := by omega
  cases l <;> cases w <;> simp [hh, noCall_eq, hs, e1, e2, e4, d1, d2, d3, d4, A.r12, A.b12, A.r23, A.b23, A.r60, A.b60, A.r24, A.b24, A.r25, A.b25, A.r26, A.b26]

theorem pCheck_run (m : List UInt8) (s : Int) (l w : Bool) : Gives (mcallX noCall (cFunc Tryz.prog) 100 10 (.func 12 [] []) [stV m s l w] (base 10)) (.int .i64 (chk m s l w)) := by
  by_cases h1 : m = wIdle
  · exact h1 ▸ pCheck_Idle s l w
  by_cases h2 : m = wOpen
  · exact h2 ▸ pCheck_Open s l w
  by_cases h3 : m = wClosed
  · exact h3 ▸ pCheck_Closed s l w
  by_cases h4 : m = wSafe
  · exact h4 ▸ pCheck_Safe s l w
  have hc : chk m s l w = 13 := by simp only [chk, h1, h2, h3, h4, or_self, if_false]
  rw [hc]
  exact match split_s s with
  | .inl h => pCheck_other0 m s l w h1 h2 h3 h4 h
  | .inr (.inl h) => pCheck_other1 m s l w h1 h2 h3 h4 h
  | .inr (.inr (.inl h)) => pCheck_other2 m s l w h1 h2 h3 h4 h.1 h.2
  | .inr (.inr (.inr h)) => pCheck_other3 m s l w h1 h2 h3 h4 h

end Go.Mx
