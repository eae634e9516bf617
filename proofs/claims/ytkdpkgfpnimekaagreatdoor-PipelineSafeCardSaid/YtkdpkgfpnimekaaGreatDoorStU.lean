/-
  The acts of a state that is not valid.
-/
import Derived.Test.YtkdpkgfpnimekaaGreatDoorStK
import Derived.Test.YtkdpkgfpnimekaaGreatDoorProg
set_option linter.all false
namespace Go.Mx
open Go Go.Proofs
set_option maxRecDepth 1000000
set_option linter.unusedSimpArgs false
set_option linter.unusedVariables false
/-- lenslet/pipeline.Act -/
def A.b5 : MCode := .seq (.reg [⟨(some 2), .box 24 (.tmp 0), none⟩, ⟨(some 3), .box 9 (.tmp 1), none⟩, ⟨(some 4), .alloc [(.str []), (.int .i64 0), (.bool false), (.bool false)] 24, none⟩, ⟨(some 5), .mov (.const (.int .i64 0)), none⟩])
 (.seq (.seq (.reg [⟨(some 9), .load (some 4) (.tmp 2), none⟩, ⟨(some 10), .call (.const (.func 12 [] [])) [(.tmp 9)], none⟩, ⟨(some 6), .mov (.tmp 10), none⟩])
 (.seq (.reg [⟨(some 11), .mov (.tmp 6), none⟩, ⟨(some 12), .bin .neq (.prim .int) true (.tmp 11) (.const (.int .i64 0)), none⟩])
 (.cond (.tmp 12)
 (.seq (.reg [⟨(some 13), .build [(.str []), (.int .i64 0), (.bool false), (.bool false)] [], none⟩, ⟨(some 14), .mov (.tmp 6), none⟩, ⟨none, .store 4 (.tmp 4) (.tmp 13), none⟩, ⟨(some 5), .mov (.tmp 14), none⟩])
 (.ret))
 (.skip))))
 (.seq (.reg [⟨(some 15), .call (.const (.func 17 [] [])) [], none⟩, ⟨(some 7), .mov (.tmp 15), none⟩])
 (.seq (.reg [⟨(some 16), .mov (.tmp 7), none⟩, ⟨(some 17), .mkfunc 19 [] [(.tmp 3)], none⟩, ⟨(some 18), .call (.const (.func 18 [] [])) [(.tmp 16), (.tmp 17)], none⟩, ⟨(some 8), .mov (.tmp 18), none⟩])
 (.seq (.seq (.reg [⟨(some 19), .mov (.tmp 8), none⟩, ⟨(some 20), .bin .lss (.node []) false (.tmp 19) (.const (.int .i64 0)), none⟩])
 (.cond (.tmp 20)
 (.seq (.reg [⟨(some 21), .build [(.str []), (.int .i64 0), (.bool false), (.bool false)] [], none⟩, ⟨none, .store 4 (.tmp 4) (.tmp 21), none⟩, ⟨(some 5), .mov (.const (.int .i64 13)), none⟩])
 (.ret))
 (.skip)))
 (.seq (.seq (.regD [⟨(some 22), .mov (.tmp 7), none⟩, ⟨(some 23), .mov (.tmp 8), none⟩, ⟨(some 24), .iaddrSl 3 (.tmp 22) (.tmp 23), none⟩, ⟨(some 25), .faddr 1 (.tmp 24), none⟩, ⟨(some 26), .load none (.tmp 25), none⟩, ⟨(some 27), .load (some 4) (.tmp 2), none⟩, ⟨(some 28), .call (.tmp 26) [(.tmp 27)], none⟩, ⟨(some 29), .un .not (.tmp 28), none⟩] [0, 0, 3, 7, 15, 0, 63, 127])
 (.cond (.tmp 29)
 (.seq (.reg [⟨(some 30), .build [(.str []), (.int .i64 0), (.bool false), (.bool false)] [], none⟩, ⟨none, .store 4 (.tmp 4) (.tmp 30), none⟩, ⟨(some 5), .mov (.const (.int .i64 18)), none⟩])
 (.ret))
 (.skip)))
 (.seq (.regD [⟨(some 31), .mov (.tmp 7), none⟩, ⟨(some 32), .mov (.tmp 8), none⟩, ⟨(some 33), .iaddrSl 3 (.tmp 31) (.tmp 32), none⟩, ⟨(some 34), .faddr 2 (.tmp 33), none⟩, ⟨(some 35), .load none (.tmp 34), none⟩, ⟨(some 36), .load (some 4) (.tmp 2), none⟩, ⟨(some 37), .call (.tmp 35) [(.tmp 36)], none⟩, ⟨none, .store 4 (.tmp 4) (.tmp 37), none⟩, ⟨(some 5), .mov (.const (.int .i64 0)), none⟩] [0, 0, 3, 7, 15, 0, 63, 127, 255])
 (.ret)))))))
theorem A.c5 : cFunc Tryz.prog 5 = some ⟨38, [.cell 4 (some 4), .tmp 5], A.b5⟩ := by kernel_rfl
theorem A.r5 {x : CallT} {F d : Nat} {args : List V} {st : St} (h : args.length ≤ 38) : orK (cFunc Tryz.prog) x F d 5 args st none = finK [.cell 4 (some 4), .tmp 5] st (mcode (mcallX x (cFunc Tryz.prog) F d) F none A.b5 ⟨setRegs .nil 0 args, 38, []⟩ ⟨st.h, st.n, []⟩) := orK_none A.c5 h
/-- lenslet/pipeline.Acts -/
def A.b6 : MCode := .seq (.reg [⟨(some 1), .box 24 (.tmp 0), none⟩, ⟨(some 2), .mov (.const .nilslice), none⟩, ⟨(some 3), .mov (.const (.int .i64 0)), none⟩])
 (.seq (.seq (.reg [⟨(some 8), .load (some 4) (.tmp 1), none⟩, ⟨(some 9), .call (.const (.func 12 [] [])) [(.tmp 8)], none⟩, ⟨(some 4), .mov (.tmp 9), none⟩])
 (.seq (.reg [⟨(some 10), .mov (.tmp 4), none⟩, ⟨(some 11), .bin .neq (.prim .int) true (.tmp 10) (.const (.int .i64 0)), none⟩])
 (.cond (.tmp 11)
 (.seq (.reg [⟨(some 12), .mov (.tmp 4), none⟩, ⟨(some 2), .mov (.const .nilslice), none⟩, ⟨(some 3), .mov (.tmp 12), none⟩])
 (.ret))
 (.skip))))
 (.seq (.reg [⟨(some 5), .mov (.const .nilslice), none⟩])
 (.seq (.seq (.reg [⟨(some 13), .call (.const (.func 17 [] [])) [], none⟩, ⟨(some 14), .len 1 (.tmp 13), none⟩, ⟨(some 15), .mov (.const (.int .i64 0)), none⟩])
 (.block 0 (.loop (.seq (.reg [⟨(some 16), .bin .lss (.node []) false (.tmp 15) (.tmp 14), none⟩])
 (.seq (.cond (.tmp 16)
 (.skip)
 (.exit 0))
 (.seq (.block 1 (.seq (.reg [⟨(some 17), .iaddrSl 3 (.tmp 13) (.tmp 15), none⟩, ⟨(some 18), .load (some 3) (.tmp 17), none⟩, ⟨(some 7), .alloc [(.str []), .nilfunc, .nilfunc] 52, none⟩, ⟨none, .store 3 (.tmp 7) (.tmp 18), none⟩])
 (.seq (.reg [⟨(some 19), .faddr 1 (.tmp 7), none⟩, ⟨(some 20), .load none (.tmp 19), none⟩, ⟨(some 21), .load (some 4) (.tmp 1), none⟩, ⟨(some 22), .call (.tmp 20) [(.tmp 21)], none⟩])
 (.cond (.tmp 22)
 (.reg [⟨(some 23), .mov (.tmp 5), none⟩, ⟨(some 24), .faddr 0 (.tmp 7), none⟩, ⟨(some 25), .load none (.tmp 24), none⟩, ⟨(some 26), .bslice 9 1 1 [(.str [])] [(0, 1, (.tmp 25))], none⟩, ⟨(some 27), .append 1 16 9 [(.str [])] (.tmp 23) (.tmp 26), none⟩, ⟨(some 5), .mov (.tmp 27), none⟩])
 (.skip)))))
 (.reg [⟨(some 28), .bin .add (.node []) false (.tmp 15) (.const (.int .i64 1)), none⟩, ⟨(some 15), .mov (.tmp 28), none⟩])))))))
 (.seq (.reg [⟨(some 29), .mov (.tmp 5), none⟩, ⟨(some 2), .mov (.tmp 29), none⟩, ⟨(some 3), .mov (.const (.int .i64 0)), none⟩])
 (.ret)))))
theorem A.c6 : cFunc Tryz.prog 6 = some ⟨30, [.tmp 2, .tmp 3], A.b6⟩ := by kernel_rfl
theorem A.r6 {x : CallT} {F d : Nat} {args : List V} {st : St} (h : args.length ≤ 30) : orK (cFunc Tryz.prog) x F d 6 args st none = finK [.tmp 2, .tmp 3] st (mcode (mcallX x (cFunc Tryz.prog) F d) F none A.b6 ⟨setRegs .nil 0 args, 30, []⟩ ⟨st.h, st.n, []⟩) := orK_none A.c6 h
/-- lenslet/pipeline.Moves -/
def A.b7 : MCode := .seq (.reg [⟨(some 1), .box 24 (.tmp 0), none⟩, ⟨(some 2), .mov (.const (.bool false)), none⟩, ⟨(some 3), .mov (.const (.int .i64 0)), none⟩])
 (.seq (.seq (.reg [⟨(some 5), .load (some 4) (.tmp 1), none⟩, ⟨(some 6), .call (.const (.func 12 [] [])) [(.tmp 5)], none⟩, ⟨(some 4), .mov (.tmp 6), none⟩])
 (.seq (.reg [⟨(some 7), .mov (.tmp 4), none⟩, ⟨(some 8), .bin .neq (.prim .int) true (.tmp 7) (.const (.int .i64 0)), none⟩])
 (.cond (.tmp 8)
 (.seq (.reg [⟨(some 9), .mov (.tmp 4), none⟩, ⟨(some 2), .mov (.const (.bool false)), none⟩, ⟨(some 3), .mov (.tmp 9), none⟩])
 (.ret))
 (.skip))))
 (.seq (.reg [⟨(some 10), .faddr 0 (.tmp 1), none⟩, ⟨(some 11), .load none (.tmp 10), none⟩, ⟨(some 12), .bin .eql (.prim .str) true (.tmp 11) (.const (.str [99, 108, 111, 115, 101, 100])), none⟩, ⟨(some 2), .mov (.tmp 12), none⟩, ⟨(some 3), .mov (.const (.int .i64 0)), none⟩])
 (.ret)))
theorem A.c7 : cFunc Tryz.prog 7 = some ⟨13, [.tmp 2, .tmp 3], A.b7⟩ := by kernel_rfl
theorem A.r7 {x : CallT} {F d : Nat} {args : List V} {st : St} (h : args.length ≤ 13) : orK (cFunc Tryz.prog) x F d 7 args st none = finK [.tmp 2, .tmp 3] st (mcode (mcallX x (cFunc Tryz.prog) F d) F none A.b7 ⟨setRegs .nil 0 args, 13, []⟩ ⟨st.h, st.n, []⟩) := orK_none A.c7 h

section
variable (m a : List UInt8) (s : Int) (l w : Bool) (e : Int) (he : e ≠ 0)
include he
set_option maxHeartbeats 2000000 in
theorem act_invalid : Gives (mcallX (oneCall ⟨12, [stV m s l w], .int .i64 e⟩) (cFunc Tryz.prog) 100 10 (.func 5 [] []) [stV m s l w, .str a] (base 10)) (.tup [zSt, .int .i64 e]) := by
  have h1 := bne_true he
  have h2 := beq_false he
  generalize hh : deadT 10 = h0
  simp [hh, oneCall_self, oneCall_ne, h1, h2, A.r5, A.b5]
set_option maxHeartbeats 2000000 in
theorem acts_invalid : Gives (mcallX (oneCall ⟨12, [stV m s l w], .int .i64 e⟩) (cFunc Tryz.prog) 100 10 (.func 6 [] []) [stV m s l w] (base 10)) (.tup [.nilslice, .int .i64 e]) := by
  have h1 := bne_true he
  have h2 := beq_false he
  generalize hh : deadT 10 = h0
  simp [hh, oneCall_self, oneCall_ne, h1, h2, A.r6, A.b6]
set_option maxHeartbeats 2000000 in
theorem moves_invalid : Gives (mcallX (oneCall ⟨12, [stV m s l w], .int .i64 e⟩) (cFunc Tryz.prog) 100 10 (.func 7 [] []) [stV m s l w] (base 10)) (.tup [.bool false, .int .i64 e]) := by
  have h1 := bne_true he
  have h2 := beq_false he
  generalize hh : deadT 10 = h0
  simp [hh, oneCall_self, oneCall_ne, h1, h2, A.r7, A.b7]
end

end Go.Mx
/- An act that is none, by the program. -/
namespace Go.Mx
open Go Go.Proofs
set_option maxRecDepth 1000000
set_option linter.unusedSimpArgs false
set_option linter.unusedVariables false
/-- lenslet/pipeline.acts -/
def A.b17 : MCode := .seq (.reg [⟨(some 0), .mov (.const .nilslice), none⟩])
 (.seq (.reg [⟨(some 1), .call (.const (.func 42 [] [])) [(.const (.str [111, 112, 101, 110]))], none⟩, ⟨(some 2), .build [(.str []), .nilfunc, .nilfunc] [(0, 1, (.const (.str [115, 116, 97, 114, 116]))), (1, 1, (.const (.func 41 [] []))), (2, 1, (.tmp 1))], none⟩, ⟨(some 3), .call (.const (.func 42 [] [])) [(.const (.str [99, 108, 111, 115, 101, 100]))], none⟩, ⟨(some 4), .build [(.str []), .nilfunc, .nilfunc] [(0, 1, (.const (.str [99, 108, 111, 115, 101]))), (1, 1, (.const (.func 43 [] []))), (2, 1, (.tmp 3))], none⟩, ⟨(some 5), .call (.const (.func 42 [] [])) [(.const (.str [111, 112, 101, 110]))], none⟩, ⟨(some 6), .build [(.str []), .nilfunc, .nilfunc] [(0, 1, (.const (.str [111, 112, 101, 110]))), (1, 1, (.const (.func 44 [] []))), (2, 1, (.tmp 5))], none⟩, ⟨(some 7), .call (.const (.func 42 [] [])) [(.const (.str [105, 100, 108, 101]))], none⟩, ⟨(some 8), .build [(.str []), .nilfunc, .nilfunc] [(0, 1, (.const (.str [115, 116, 111, 112]))), (1, 1, (.const (.func 45 [] []))), (2, 1, (.tmp 7))], none⟩, ⟨(some 9), .build [(.str []), .nilfunc, .nilfunc] [(0, 1, (.const (.str [115, 97, 116, 117, 114, 97, 116, 101]))), (1, 1, (.const (.func 46 [] []))), (2, 1, (.const (.func 47 [] [])))], none⟩, ⟨(some 10), .build [(.str []), .nilfunc, .nilfunc] [(0, 1, (.const (.str [99, 108, 101, 97, 114]))), (1, 1, (.const (.func 48 [] []))), (2, 1, (.const (.func 49 [] [])))], none⟩, ⟨(some 11), .build [(.str []), .nilfunc, .nilfunc] [(0, 1, (.const (.str [108, 111, 115, 101]))), (1, 1, (.const (.func 50 [] []))), (2, 1, (.const (.func 51 [] [])))], none⟩, ⟨(some 12), .build [(.str []), .nilfunc, .nilfunc] [(0, 1, (.const (.str [102, 105, 110, 100]))), (1, 1, (.const (.func 53 [] []))), (2, 1, (.const (.func 54 [] [])))], none⟩, ⟨(some 13), .build [(.str []), .nilfunc, .nilfunc] [(0, 1, (.const (.str [103, 117, 115, 116]))), (1, 1, (.const (.func 55 [] []))), (2, 1, (.const (.func 56 [] [])))], none⟩, ⟨(some 14), .build [(.str []), .nilfunc, .nilfunc] [(0, 1, (.const (.str [99, 97, 108, 109]))), (1, 1, (.const (.func 57 [] []))), (2, 1, (.const (.func 58 [] [])))], none⟩, ⟨(some 15), .call (.const (.func 42 [] [])) [(.const (.str [105, 100, 108, 101]))], none⟩, ⟨(some 16), .build [(.str []), .nilfunc, .nilfunc] [(0, 1, (.const (.str [114, 101, 115, 101, 116]))), (1, 1, (.const (.func 59 [] []))), (2, 1, (.tmp 15))], none⟩, ⟨(some 17), .bslice 52 3 11 [(.str []), .nilfunc, .nilfunc, (.str []), .nilfunc, .nilfunc, (.str []), .nilfunc, .nilfunc, (.str []), .nilfunc, .nilfunc, (.str []), .nilfunc, .nilfunc, (.str []), .nilfunc, .nilfunc, (.str []), .nilfunc, .nilfunc, (.str []), .nilfunc, .nilfunc, (.str []), .nilfunc, .nilfunc, (.str []), .nilfunc, .nilfunc, (.str []), .nilfunc, .nilfunc] [(0, 3, (.tmp 2)), (3, 3, (.tmp 4)), (6, 3, (.tmp 6)), (9, 3, (.tmp 8)), (12, 3, (.tmp 9)), (15, 3, (.tmp 10)), (18, 3, (.tmp 11)), (21, 3, (.tmp 12)), (24, 3, (.tmp 13)), (27, 3, (.tmp 14)), (30, 3, (.tmp 16))], none⟩, ⟨(some 0), .mov (.tmp 17), none⟩])
 (.ret))
theorem A.c17 : cFunc Tryz.prog 17 = some ⟨18, [.tmp 0], A.b17⟩ := by kernel_rfl
theorem A.r17 {x : CallT} {F d : Nat} {args : List V} {st : St} (h : args.length ≤ 18) : orK (cFunc Tryz.prog) x F d 17 args st none = finK [.tmp 0] st (mcode (mcallX x (cFunc Tryz.prog) F d) F none A.b17 ⟨setRegs .nil 0 args, 18, []⟩ ⟨st.h, st.n, []⟩) := orK_none A.c17 h
/-- lenslet/pipeline.to -/
def A.b42 : MCode := .seq (.reg [⟨(some 1), .box 9 (.tmp 0), none⟩, ⟨(some 2), .mov (.const .nilfunc), none⟩])
 (.seq (.reg [⟨(some 3), .mkfunc 80 [] [(.tmp 1)], none⟩, ⟨(some 2), .mov (.tmp 3), none⟩])
 (.ret))
theorem A.c42 : cFunc Tryz.prog 42 = some ⟨4, [.tmp 2], A.b42⟩ := by kernel_rfl
theorem A.r42 {x : CallT} {F d : Nat} {args : List V} {st : St} (h : args.length ≤ 4) : orK (cFunc Tryz.prog) x F d 42 args st none = finK [.tmp 2] st (mcode (mcallX x (cFunc Tryz.prog) F d) F none A.b42 ⟨setRegs .nil 0 args, 4, []⟩ ⟨st.h, st.n, []⟩) := orK_none A.c42 h
/-- slices.IndexFunc[[]lenslet/pipeline.act,lenslet/pipeline.act] -/
def A.b18 : MCode := .seq (.reg [⟨(some 4), .mov (.const (.int .i64 0)), none⟩])
 (.seq (.seq (.reg [⟨(some 6), .mov (.tmp 0), none⟩, ⟨(some 7), .len 1 (.tmp 6), none⟩, ⟨(some 8), .mov (.const (.int .i64 0)), none⟩])
 (.block 0 (.loop (.seq (.reg [⟨(some 9), .bin .lss (.node []) false (.tmp 8) (.tmp 7), none⟩])
 (.seq (.cond (.tmp 9)
 (.skip)
 (.exit 0))
 (.seq (.block 1 (.seq (.reg [⟨(some 10), .mov (.tmp 8), none⟩, ⟨(some 5), .mov (.tmp 10), none⟩])
 (.seq (.reg [⟨(some 11), .mov (.tmp 1), none⟩, ⟨(some 12), .mov (.tmp 0), none⟩, ⟨(some 13), .mov (.tmp 5), none⟩, ⟨(some 14), .iaddrSl 3 (.tmp 12) (.tmp 13), none⟩, ⟨(some 15), .load (some 3) (.tmp 14), none⟩, ⟨(some 16), .call (.tmp 11) [(.tmp 15)], none⟩])
 (.cond (.tmp 16)
 (.seq (.reg [⟨(some 17), .mov (.tmp 5), none⟩, ⟨(some 4), .mov (.tmp 17), none⟩])
 (.ret))
 (.skip)))))
 (.reg [⟨(some 18), .bin .add (.node []) false (.tmp 8) (.const (.int .i64 1)), none⟩, ⟨(some 8), .mov (.tmp 18), none⟩])))))))
 (.seq (.reg [⟨(some 4), .mov (.const (.int .i64 (-1))), none⟩])
 (.ret)))
theorem A.c18 : cFunc Tryz.prog 18 = some ⟨19, [.tmp 4], A.b18⟩ := by kernel_rfl
theorem A.r18 {x : CallT} {F d : Nat} {args : List V} {st : St} (h : args.length ≤ 19) : orK (cFunc Tryz.prog) x F d 18 args st none = finK [.tmp 4] st (mcode (mcallX x (cFunc Tryz.prog) F d) F none A.b18 ⟨setRegs .nil 0 args, 19, []⟩ ⟨st.h, st.n, []⟩) := orK_none A.c18 h
/-- lenslet/pipeline.Act$1 -/
def A.b19 : MCode := .seq (.reg [⟨(some 2), .box 52 (.tmp 0), none⟩, ⟨(some 3), .mov (.const (.bool false)), none⟩])
 (.seq (.reg [⟨(some 4), .faddr 0 (.tmp 2), none⟩, ⟨(some 5), .load none (.tmp 4), none⟩, ⟨(some 6), .load none (.tmp 1), none⟩, ⟨(some 7), .bin .eql (.prim .str) false (.tmp 5) (.tmp 6), none⟩, ⟨(some 3), .mov (.tmp 7), none⟩])
 (.ret))
theorem A.c19 : cFunc Tryz.prog 19 = some ⟨8, [.tmp 3], A.b19⟩ := by kernel_rfl
theorem A.r19 {x : CallT} {F d : Nat} {args : List V} {st : St} (h : args.length ≤ 8) : orK (cFunc Tryz.prog) x F d 19 args st none = finK [.tmp 3] st (mcode (mcallX x (cFunc Tryz.prog) F d) F none A.b19 ⟨setRegs .nil 0 args, 8, []⟩ ⟨st.h, st.n, []⟩) := orK_none A.c19 h

set_option maxHeartbeats 8000000 in
theorem act_other (m a : List UInt8) (s : Int) (l w : Bool) (ha : a ∉ acts11) : Gives (mcallX (oneCall ⟨12, [stV m s l w], .int .i64 0⟩) (cFunc Tryz.prog) 200 10 (.func 5 [] []) [stV m s l w, .str a] (base 10)) (.tup [zSt, .int .i64 13]) := by
  have q0 : (a == [115, 116, 97, 114, 116]) = false := (other11 ha).1 _ (by decide)
  have r0 : ([115, 116, 97, 114, 116] == a) = false := (other11 ha).2 _ (by decide)
  have q1 : (a == [99, 108, 111, 115, 101]) = false := (other11 ha).1 _ (by decide)
  have r1 : ([99, 108, 111, 115, 101] == a) = false := (other11 ha).2 _ (by decide)
  have q2 : (a == [111, 112, 101, 110]) = false := (other11 ha).1 _ (by decide)
  have r2 : ([111, 112, 101, 110] == a) = false := (other11 ha).2 _ (by decide)
  have q3 : (a == [115, 116, 111, 112]) = false := (other11 ha).1 _ (by decide)
  have r3 : ([115, 116, 111, 112] == a) = false := (other11 ha).2 _ (by decide)
  have q4 : (a == [115, 97, 116, 117, 114, 97, 116, 101]) = false := (other11 ha).1 _ (by decide)
  have r4 : ([115, 97, 116, 117, 114, 97, 116, 101] == a) = false := (other11 ha).2 _ (by decide)
  have q5 : (a == [99, 108, 101, 97, 114]) = false := (other11 ha).1 _ (by decide)
  have r5 : ([99, 108, 101, 97, 114] == a) = false := (other11 ha).2 _ (by decide)
  have q6 : (a == [108, 111, 115, 101]) = false := (other11 ha).1 _ (by decide)
  have r6 : ([108, 111, 115, 101] == a) = false := (other11 ha).2 _ (by decide)
  have q7 : (a == [102, 105, 110, 100]) = false := (other11 ha).1 _ (by decide)
  have r7 : ([102, 105, 110, 100] == a) = false := (other11 ha).2 _ (by decide)
  have q8 : (a == [103, 117, 115, 116]) = false := (other11 ha).1 _ (by decide)
  have r8 : ([103, 117, 115, 116] == a) = false := (other11 ha).2 _ (by decide)
  have q9 : (a == [99, 97, 108, 109]) = false := (other11 ha).1 _ (by decide)
  have r9 : ([99, 97, 108, 109] == a) = false := (other11 ha).2 _ (by decide)
  have q10 : (a == [114, 101, 115, 101, 116]) = false := (other11 ha).1 _ (by decide)
  have r10 : ([114, 101, 115, 101, 116] == a) = false := (other11 ha).2 _ (by decide)
  generalize hh : deadT 10 = h0
  simp [hh, oneCall_self, oneCall_ne, q0, q1, q2, q3, q4, q5, q6, q7, q8, q9, q10, r0, r1, r2, r3, r4, r5, r6, r7, r8, r9, r10, A.r5, A.b5, A.r17, A.b17, A.r42, A.b42, A.r18, A.b18, A.r19, A.b19]

end Go.Mx
/- An act that is none, by the reference. -/
namespace Go.Mx
open Go Go.Proofs
set_option maxRecDepth 1000000
set_option linter.unusedSimpArgs false
set_option linter.unusedVariables false
/-- lenslet/lensletref09.Act -/
def A.b9 : MCode := .seq (.reg [⟨(some 2), .box 23 (.tmp 0), none⟩, ⟨(some 4), .alloc [(.str []), (.int .i64 0), (.bool false), (.bool false)] 23, none⟩, ⟨(some 5), .mov (.const (.int .i64 0)), none⟩])
 (.seq (.seq (.reg [⟨(some 6), .mov (.tmp 1), none⟩, ⟨(some 7), .call (.const (.func 20 [] [])) [(.tmp 6)], none⟩, ⟨(some 8), .un .not (.tmp 7), none⟩])
 (.cond (.tmp 8)
 (.seq (.reg [⟨(some 9), .build [(.str []), (.int .i64 0), (.bool false), (.bool false)] [], none⟩, ⟨none, .store 4 (.tmp 4) (.tmp 9), none⟩, ⟨(some 5), .mov (.const (.int .i64 13)), none⟩])
 (.ret))
 (.skip)))
 (.seq (.seq (.reg [⟨(some 10), .load (some 4) (.tmp 2), none⟩, ⟨(some 11), .mov (.tmp 1), none⟩, ⟨(some 12), .call (.const (.func 21 [] [])) [(.tmp 10), (.tmp 11)], none⟩, ⟨(some 13), .un .not (.tmp 12), none⟩])
 (.cond (.tmp 13)
 (.seq (.reg [⟨(some 14), .build [(.str []), (.int .i64 0), (.bool false), (.bool false)] [], none⟩, ⟨none, .store 4 (.tmp 4) (.tmp 14), none⟩, ⟨(some 5), .mov (.const (.int .i64 18)), none⟩])
 (.ret))
 (.skip)))
 (.seq (.seq (.reg [⟨(some 15), .mov (.tmp 1), none⟩])
 (.block 0 (.seq (.seq (.reg [⟨(some 17), .bin .eql (.prim .str) true (.tmp 15) (.const (.str [115, 116, 97, 114, 116])), none⟩, ⟨(some 16), .mov (.tmp 17), none⟩])
 (.cond (.tmp 16)
 (.skip)
 (.reg [⟨(some 18), .bin .eql (.prim .str) true (.tmp 15) (.const (.str [111, 112, 101, 110])), none⟩, ⟨(some 16), .mov (.tmp 18), none⟩])))
 (.cond (.tmp 16)
 (.reg [⟨(some 19), .load (some 4) (.tmp 2), none⟩, ⟨(some 20), .call (.const (.func 22 [] [])) [(.tmp 19), (.const (.str [111, 112, 101, 110]))], none⟩, ⟨none, .store 4 (.tmp 2) (.tmp 20), none⟩])
 (.seq (.reg [⟨(some 22), .bin .eql (.prim .str) true (.tmp 15) (.const (.str [99, 108, 111, 115, 101])), none⟩, ⟨(some 21), .mov (.tmp 22), none⟩])
 (.cond (.tmp 21)
 (.reg [⟨(some 23), .load (some 4) (.tmp 2), none⟩, ⟨(some 24), .call (.const (.func 22 [] [])) [(.tmp 23), (.const (.str [99, 108, 111, 115, 101, 100]))], none⟩, ⟨none, .store 4 (.tmp 2) (.tmp 24), none⟩])
 (.seq (.seq (.reg [⟨(some 26), .bin .eql (.prim .str) true (.tmp 15) (.const (.str [115, 116, 111, 112])), none⟩, ⟨(some 25), .mov (.tmp 26), none⟩])
 (.cond (.tmp 25)
 (.skip)
 (.reg [⟨(some 27), .bin .eql (.prim .str) true (.tmp 15) (.const (.str [114, 101, 115, 101, 116])), none⟩, ⟨(some 25), .mov (.tmp 27), none⟩])))
 (.cond (.tmp 25)
 (.reg [⟨(some 28), .load (some 4) (.tmp 2), none⟩, ⟨(some 29), .call (.const (.func 22 [] [])) [(.tmp 28), (.const (.str [105, 100, 108, 101]))], none⟩, ⟨none, .store 4 (.tmp 2) (.tmp 29), none⟩])
 (.seq (.reg [⟨(some 31), .bin .eql (.prim .str) true (.tmp 15) (.const (.str [115, 97, 116, 117, 114, 97, 116, 101])), none⟩, ⟨(some 30), .mov (.tmp 31), none⟩])
 (.cond (.tmp 30)
 (.seq (.reg [⟨(some 32), .faddr 1 (.tmp 2), none⟩, ⟨(some 33), .load none (.tmp 32), none⟩, ⟨(some 34), .bin .add (.node []) false (.tmp 33) (.const (.int .i64 1)), none⟩, ⟨(some 35), .faddr 1 (.tmp 2), none⟩, ⟨none, .store 1 (.tmp 35) (.tmp 34), none⟩])
 (.seq (.reg [⟨(some 36), .faddr 1 (.tmp 2), none⟩, ⟨(some 37), .load none (.tmp 36), none⟩, ⟨(some 38), .bin .eql (.prim .int) true (.tmp 37) (.const (.int .i64 3)), none⟩])
 (.cond (.tmp 38)
 (.reg [⟨(some 39), .load (some 4) (.tmp 2), none⟩, ⟨(some 40), .call (.const (.func 22 [] [])) [(.tmp 39), (.const (.str [115, 97, 102, 101]))], none⟩, ⟨none, .store 4 (.tmp 2) (.tmp 40), none⟩])
 (.skip))))
 (.seq (.reg [⟨(some 42), .bin .eql (.prim .str) true (.tmp 15) (.const (.str [99, 108, 101, 97, 114])), none⟩, ⟨(some 41), .mov (.tmp 42), none⟩])
 (.cond (.tmp 41)
 (.reg [⟨(some 43), .faddr 1 (.tmp 2), none⟩, ⟨none, .store 1 (.tmp 43) (.const (.int .i64 0)), none⟩])
 (.seq (.reg [⟨(some 45), .bin .eql (.prim .str) true (.tmp 15) (.const (.str [108, 111, 115, 101])), none⟩, ⟨(some 44), .mov (.tmp 45), none⟩])
 (.cond (.tmp 44)
 (.seq (.reg [⟨(some 46), .faddr 2 (.tmp 2), none⟩, ⟨none, .store 1 (.tmp 46) (.const (.bool true)), none⟩])
 (.seq (.reg [⟨(some 47), .faddr 0 (.tmp 2), none⟩, ⟨(some 48), .load none (.tmp 47), none⟩, ⟨(some 49), .bin .eql (.prim .str) true (.tmp 48) (.const (.str [99, 108, 111, 115, 101, 100])), none⟩])
 (.cond (.tmp 49)
 (.reg [⟨(some 50), .load (some 4) (.tmp 2), none⟩, ⟨(some 51), .call (.const (.func 22 [] [])) [(.tmp 50), (.const (.str [115, 97, 102, 101]))], none⟩, ⟨none, .store 4 (.tmp 2) (.tmp 51), none⟩])
 (.skip))))
 (.seq (.reg [⟨(some 53), .bin .eql (.prim .str) true (.tmp 15) (.const (.str [102, 105, 110, 100])), none⟩, ⟨(some 52), .mov (.tmp 53), none⟩])
 (.cond (.tmp 52)
 (.reg [⟨(some 54), .faddr 2 (.tmp 2), none⟩, ⟨none, .store 1 (.tmp 54) (.const (.bool false)), none⟩])
 (.seq (.reg [⟨(some 56), .bin .eql (.prim .str) true (.tmp 15) (.const (.str [103, 117, 115, 116])), none⟩, ⟨(some 55), .mov (.tmp 56), none⟩])
 (.cond (.tmp 55)
 (.seq (.reg [⟨(some 57), .faddr 3 (.tmp 2), none⟩, ⟨none, .store 1 (.tmp 57) (.const (.bool true)), none⟩])
 (.seq (.reg [⟨(some 58), .faddr 0 (.tmp 2), none⟩, ⟨(some 59), .load none (.tmp 58), none⟩, ⟨(some 60), .bin .eql (.prim .str) true (.tmp 59) (.const (.str [111, 112, 101, 110])), none⟩, ⟨(some 61), .mov (.tmp 60), none⟩, ⟨(some 62), .faddr 0 (.tmp 2), (some (61, false))⟩, ⟨(some 63), .load none (.tmp 62), (some (61, false))⟩, ⟨(some 64), .bin .eql (.prim .str) true (.tmp 63) (.const (.str [99, 108, 111, 115, 101, 100])), (some (61, false))⟩, ⟨(some 65), .pick (.tmp 61) (.const (.bool true)) (.tmp 64), none⟩])
 (.cond (.tmp 65)
 (.reg [⟨(some 66), .load (some 4) (.tmp 2), none⟩, ⟨(some 67), .call (.const (.func 22 [] [])) [(.tmp 66), (.const (.str [115, 97, 102, 101]))], none⟩, ⟨none, .store 4 (.tmp 2) (.tmp 67), none⟩])
 (.skip))))
 (.seq (.reg [⟨(some 69), .bin .eql (.prim .str) true (.tmp 15) (.const (.str [99, 97, 108, 109])), none⟩, ⟨(some 68), .mov (.tmp 69), none⟩])
 (.cond (.tmp 68)
 (.reg [⟨(some 70), .faddr 3 (.tmp 2), none⟩, ⟨none, .store 1 (.tmp 70) (.const (.bool false)), none⟩])
 (.skip)))))))))))))))))))))
 (.seq (.reg [⟨(some 71), .load (some 4) (.tmp 2), none⟩, ⟨none, .store 4 (.tmp 4) (.tmp 71), none⟩, ⟨(some 5), .mov (.const (.int .i64 0)), none⟩])
 (.ret)))))
theorem A.c9 : cFunc Tryz.prog 9 = some ⟨72, [.cell 4 (some 4), .tmp 5], A.b9⟩ := by kernel_rfl
theorem A.r9 {x : CallT} {F d : Nat} {args : List V} {st : St} (h : args.length ≤ 72) : orK (cFunc Tryz.prog) x F d 9 args st none = finK [.cell 4 (some 4), .tmp 5] st (mcode (mcallX x (cFunc Tryz.prog) F d) F none A.b9 ⟨setRegs .nil 0 args, 72, []⟩ ⟨st.h, st.n, []⟩) := orK_none A.c9 h
/-- lenslet/lensletref09.IsAct -/
def A.b20 : MCode := .seq (.reg [⟨(some 2), .mov (.const (.bool false)), none⟩])
 (.seq (.reg [⟨(some 5), .call (.const (.func 15 [] [])) [], none⟩, ⟨(some 3), .mov (.tmp 5), none⟩])
 (.seq (.seq (.reg [⟨(some 4), .mov (.const (.int .i64 0)), none⟩])
 (.block 0 (.loop (.seq (.seq (.reg [⟨(some 6), .mov (.tmp 4), none⟩, ⟨(some 7), .mov (.tmp 3), none⟩, ⟨(some 8), .len 1 (.tmp 7), none⟩, ⟨(some 9), .bin .lss (.node []) false (.tmp 6) (.tmp 8), none⟩])
 (.cond (.tmp 9)
 (.skip)
 (.exit 0)))
 (.seq (.block 1 (.seq (.reg [⟨(some 12), .mov (.tmp 3), none⟩, ⟨(some 13), .mov (.tmp 4), none⟩, ⟨(some 14), .iaddrSl 1 (.tmp 12) (.tmp 13), none⟩, ⟨(some 15), .load none (.tmp 14), none⟩, ⟨(some 16), .mov (.tmp 0), none⟩, ⟨(some 17), .bin .eql (.prim .str) false (.tmp 15) (.tmp 16), none⟩])
 (.cond (.tmp 17)
 (.seq (.reg [⟨(some 2), .mov (.const (.bool true)), none⟩])
 (.ret))
 (.skip))))
 (.reg [⟨(some 10), .mov (.tmp 4), none⟩, ⟨(some 11), .bin .add (.node []) false (.tmp 10) (.const (.int .i64 1)), none⟩, ⟨(some 4), .mov (.tmp 11), none⟩]))))))
 (.seq (.reg [⟨(some 2), .mov (.const (.bool false)), none⟩])
 (.ret))))
theorem A.c20 : cFunc Tryz.prog 20 = some ⟨18, [.tmp 2], A.b20⟩ := by kernel_rfl
theorem A.r20 {x : CallT} {F d : Nat} {args : List V} {st : St} (h : args.length ≤ 18) : orK (cFunc Tryz.prog) x F d 20 args st none = finK [.tmp 2] st (mcode (mcallX x (cFunc Tryz.prog) F d) F none A.b20 ⟨setRegs .nil 0 args, 18, []⟩ ⟨st.h, st.n, []⟩) := orK_none A.c20 h
/-- lenslet/lensletref09.Names -/
def A.b15 : MCode := .seq (.reg [⟨(some 0), .mov (.const .nilslice), none⟩])
 (.seq (.reg [⟨(some 1), .bslice 9 1 11 [(.str []), (.str []), (.str []), (.str []), (.str []), (.str []), (.str []), (.str []), (.str []), (.str []), (.str [])] [(0, 1, (.const (.str [115, 116, 97, 114, 116]))), (1, 1, (.const (.str [99, 108, 111, 115, 101]))), (2, 1, (.const (.str [111, 112, 101, 110]))), (3, 1, (.const (.str [115, 116, 111, 112]))), (4, 1, (.const (.str [115, 97, 116, 117, 114, 97, 116, 101]))), (5, 1, (.const (.str [99, 108, 101, 97, 114]))), (6, 1, (.const (.str [108, 111, 115, 101]))), (7, 1, (.const (.str [102, 105, 110, 100]))), (8, 1, (.const (.str [103, 117, 115, 116]))), (9, 1, (.const (.str [99, 97, 108, 109]))), (10, 1, (.const (.str [114, 101, 115, 101, 116])))], none⟩, ⟨(some 0), .mov (.tmp 1), none⟩])
 (.ret))
theorem A.c15 : cFunc Tryz.prog 15 = some ⟨2, [.tmp 0], A.b15⟩ := by kernel_rfl
theorem A.r15 {x : CallT} {F d : Nat} {args : List V} {st : St} (h : args.length ≤ 2) : orK (cFunc Tryz.prog) x F d 15 args st none = finK [.tmp 0] st (mcode (mcallX x (cFunc Tryz.prog) F d) F none A.b15 ⟨setRegs .nil 0 args, 2, []⟩ ⟨st.h, st.n, []⟩) := orK_none A.c15 h

set_option maxHeartbeats 8000000 in
theorem ract_other (m a : List UInt8) (s : Int) (l w : Bool) (ha : a ∉ acts11) : Gives (mcallX noCall (cFunc Tryz.prog) 200 10 (.func 9 [] []) [stV m s l w, .str a] (base 10)) (.tup [zSt, .int .i64 13]) := by
  have q0 : (a == [115, 116, 97, 114, 116]) = false := (other11 ha).1 _ (by decide)
  have r0 : ([115, 116, 97, 114, 116] == a) = false := (other11 ha).2 _ (by decide)
  have q1 : (a == [99, 108, 111, 115, 101]) = false := (other11 ha).1 _ (by decide)
  have r1 : ([99, 108, 111, 115, 101] == a) = false := (other11 ha).2 _ (by decide)
  have q2 : (a == [111, 112, 101, 110]) = false := (other11 ha).1 _ (by decide)
  have r2 : ([111, 112, 101, 110] == a) = false := (other11 ha).2 _ (by decide)
  have q3 : (a == [115, 116, 111, 112]) = false := (other11 ha).1 _ (by decide)
  have r3 : ([115, 116, 111, 112] == a) = false := (other11 ha).2 _ (by decide)
  have q4 : (a == [115, 97, 116, 117, 114, 97, 116, 101]) = false := (other11 ha).1 _ (by decide)
  have r4 : ([115, 97, 116, 117, 114, 97, 116, 101] == a) = false := (other11 ha).2 _ (by decide)
  have q5 : (a == [99, 108, 101, 97, 114]) = false := (other11 ha).1 _ (by decide)
  have r5 : ([99, 108, 101, 97, 114] == a) = false := (other11 ha).2 _ (by decide)
  have q6 : (a == [108, 111, 115, 101]) = false := (other11 ha).1 _ (by decide)
  have r6 : ([108, 111, 115, 101] == a) = false := (other11 ha).2 _ (by decide)
  have q7 : (a == [102, 105, 110, 100]) = false := (other11 ha).1 _ (by decide)
  have r7 : ([102, 105, 110, 100] == a) = false := (other11 ha).2 _ (by decide)
  have q8 : (a == [103, 117, 115, 116]) = false := (other11 ha).1 _ (by decide)
  have r8 : ([103, 117, 115, 116] == a) = false := (other11 ha).2 _ (by decide)
  have q9 : (a == [99, 97, 108, 109]) = false := (other11 ha).1 _ (by decide)
  have r9 : ([99, 97, 108, 109] == a) = false := (other11 ha).2 _ (by decide)
  have q10 : (a == [114, 101, 115, 101, 116]) = false := (other11 ha).1 _ (by decide)
  have r10 : ([114, 101, 115, 101, 116] == a) = false := (other11 ha).2 _ (by decide)
  generalize hh : deadT 10 = h0
  simp [hh, noCall_eq, q0, q1, q2, q3, q4, q5, q6, q7, q8, q9, q10, r0, r1, r2, r3, r4, r5, r6, r7, r8, r9, r10, A.r9, A.b9, A.r20, A.b20, A.r15, A.b15]

end Go.Mx
