/-
  num.Int with machine integers.
-/
import Derived.Test.YtgbhkladhegceaaGreatDoorNaM
set_option linter.all false
namespace Go.Mx
open Go Go.Proofs
set_option maxRecDepth 1000000
set_option linter.unusedSimpArgs false
set_option linter.unusedVariables false
/-- lenslet/num.Of -/
def A.b154 : MCode := .seq (.reg [⟨(some 2), .alloc [(.int .i64 0), .nilslice] 224, none⟩])
 (.seq (.reg [⟨(some 3), .mov (.tmp 0), none⟩, ⟨(some 4), .build [(.int .i64 0), .nilslice] [(0, 1, (.tmp 3))], none⟩, ⟨none, .store 2 (.tmp 2) (.tmp 4), none⟩])
 (.ret))
theorem A.c154 : cFunc Tryz.prog 154 = some ⟨5, [.cell 2 (some 2)], A.b154⟩ := by kernel_rfl
theorem A.k154 {K : List Kf} {Q : Rs → Prop} {f c args : List V} {st : St} (h : (f ++ args ++ c).length ≤ 5) : Run A.C K (valR (A.C.call (.func 154 f c) args st)) Q ↔ Run A.C (.fin [.cell 2 (some 2)] st :: K) (exR (A.C.code none A.b154 ⟨setRegs .nil 0 (f ++ args ++ c), 5, []⟩ ⟨st.h, st.n, []⟩)) Q := run_func (A.x0 (f := 154) (by decide)) (mf := ⟨5, [.cell 2 (some 2)], A.b154⟩) (by rw [A.t]; exact A.c154) h
/-- (lenslet/num.Int).Sign -/
def A.b187 : MCode := .seq (.reg [⟨(some 1), .box 224 (.tmp 0), none⟩, ⟨(some 2), .mov (.const (.int .i64 0)), none⟩])
 (.seq (.reg [⟨(some 3), .faddr 0 (.tmp 1), none⟩, ⟨(some 4), .load none (.tmp 3), none⟩, ⟨(some 5), .mn [(.const (.int .i64 1)), (.tmp 4)], none⟩, ⟨(some 6), .mx [(.const (.int .i64 (-1))), (.tmp 5)], none⟩, ⟨(some 2), .mov (.tmp 6), none⟩])
 (.ret))
theorem A.c187 : cFunc Tryz.prog 187 = some ⟨7, [.tmp 2], A.b187⟩ := by kernel_rfl
theorem A.k187 {K : List Kf} {Q : Rs → Prop} {f c args : List V} {st : St} (h : (f ++ args ++ c).length ≤ 7) : Run A.C K (valR (A.C.call (.func 187 f c) args st)) Q ↔ Run A.C (.fin [.tmp 2] st :: K) (exR (A.C.code none A.b187 ⟨setRegs .nil 0 (f ++ args ++ c), 7, []⟩ ⟨st.h, st.n, []⟩)) Q := run_func (A.x0 (f := 187) (by decide)) (mf := ⟨7, [.tmp 2], A.b187⟩) (by rw [A.t]; exact A.c187) h
/-- (lenslet/num.Int).Abs -/
def A.b186 : MCode := .seq (.reg [⟨(some 1), .box 224 (.tmp 0), none⟩, ⟨(some 2), .alloc [(.int .i64 0), .nilslice] 224, none⟩])
 (.seq (.seq (.reg [⟨(some 3), .faddr 0 (.tmp 1), none⟩, ⟨(some 4), .load none (.tmp 3), none⟩, ⟨(some 5), .bin .lss (.node []) false (.tmp 4) (.const (.int .i64 0)), none⟩])
 (.cond (.tmp 5)
 (.seq (.reg [⟨(some 6), .load (some 2) (.tmp 1), none⟩, ⟨(some 7), .call (.const (.func 193 [] [])) [(.tmp 6)], none⟩, ⟨none, .store 2 (.tmp 2) (.tmp 7), none⟩])
 (.ret))
 (.skip)))
 (.seq (.reg [⟨(some 8), .load (some 2) (.tmp 1), none⟩, ⟨none, .store 2 (.tmp 2) (.tmp 8), none⟩])
 (.ret)))
theorem A.c186 : cFunc Tryz.prog 186 = some ⟨9, [.cell 2 (some 2)], A.b186⟩ := by kernel_rfl
theorem A.k186 {K : List Kf} {Q : Rs → Prop} {f c args : List V} {st : St} (h : (f ++ args ++ c).length ≤ 9) : Run A.C K (valR (A.C.call (.func 186 f c) args st)) Q ↔ Run A.C (.fin [.cell 2 (some 2)] st :: K) (exR (A.C.code none A.b186 ⟨setRegs .nil 0 (f ++ args ++ c), 9, []⟩ ⟨st.h, st.n, []⟩)) Q := run_func (A.x0 (f := 186) (by decide)) (mf := ⟨9, [.cell 2 (some 2)], A.b186⟩) (by rw [A.t]; exact A.c186) h
/-- lenslet/num.size -/
def A.b217 : MCode := .seq (.reg [⟨(some 2), .mov (.const (.int .u64 0)), none⟩])
 (.seq (.seq (.reg [⟨(some 3), .mov (.tmp 0), none⟩, ⟨(some 4), .bin .lss (.node []) false (.tmp 3) (.const (.int .i64 0)), none⟩])
 (.cond (.tmp 4)
 (.seq (.reg [⟨(some 5), .mov (.tmp 0), none⟩, ⟨(some 6), .un .neg (.tmp 5), none⟩, ⟨(some 7), .convInt .u64 (.tmp 6), none⟩, ⟨(some 2), .mov (.tmp 7), none⟩])
 (.ret))
 (.skip)))
 (.seq (.reg [⟨(some 8), .mov (.tmp 0), none⟩, ⟨(some 9), .convInt .u64 (.tmp 8), none⟩, ⟨(some 2), .mov (.tmp 9), none⟩])
 (.ret)))
theorem A.c217 : cFunc Tryz.prog 217 = some ⟨10, [.tmp 2], A.b217⟩ := by kernel_rfl
theorem A.k217 {K : List Kf} {Q : Rs → Prop} {f c args : List V} {st : St} (h : (f ++ args ++ c).length ≤ 10) : Run A.C K (valR (A.C.call (.func 217 f c) args st)) Q ↔ Run A.C (.fin [.tmp 2] st :: K) (exR (A.C.code none A.b217 ⟨setRegs .nil 0 (f ++ args ++ c), 10, []⟩ ⟨st.h, st.n, []⟩)) Q := run_func (A.x0 (f := 217) (by decide)) (mf := ⟨10, [.tmp 2], A.b217⟩) (by rw [A.t]; exact A.c217) h
/-- (lenslet/num.Int).DivMod -/
def A.b188 : MCode := .seq (.reg [⟨(some 2), .box 224 (.tmp 0), none⟩, ⟨(some 3), .box 224 (.tmp 1), none⟩, ⟨(some 4), .alloc [(.int .i64 0), .nilslice] 224, none⟩, ⟨(some 5), .alloc [(.int .i64 0), .nilslice] 224, none⟩])
 (.seq (.seq (.reg [⟨(some 16), .faddr 1 (.tmp 2), none⟩, ⟨(some 17), .load none (.tmp 16), none⟩, ⟨(some 18), .bin .eql (.prim .slice) true (.tmp 17) (.const .nilslice), none⟩, ⟨(some 19), .mov (.tmp 18), none⟩, ⟨(some 20), .faddr 1 (.tmp 3), (some (19, true))⟩, ⟨(some 21), .load none (.tmp 20), (some (19, true))⟩, ⟨(some 22), .bin .eql (.prim .slice) true (.tmp 21) (.const .nilslice), (some (19, true))⟩, ⟨(some 23), .pick (.tmp 19) (.tmp 22) (.const (.bool false)), none⟩, ⟨(some 24), .mov (.tmp 23), none⟩, ⟨(some 25), .faddr 0 (.tmp 2), (some (24, true))⟩, ⟨(some 26), .load none (.tmp 25), (some (24, true))⟩, ⟨(some 27), .bin .neq (.prim .int) true (.tmp 26) (.const (.int .i64 (-9223372036854775808))), (some (24, true))⟩, ⟨(some 28), .pick (.tmp 24) (.tmp 27) (.const (.bool false)), none⟩])
 (.cond (.tmp 28)
 (.seq (.regD [⟨(some 29), .faddr 0 (.tmp 2), none⟩, ⟨(some 30), .load none (.tmp 29), none⟩, ⟨(some 31), .faddr 0 (.tmp 3), none⟩, ⟨(some 32), .load none (.tmp 31), none⟩, ⟨(some 33), .bin .quo (.node []) false (.tmp 30) (.tmp 32), none⟩, ⟨(some 34), .faddr 0 (.tmp 2), none⟩, ⟨(some 35), .load none (.tmp 34), none⟩, ⟨(some 36), .faddr 0 (.tmp 3), none⟩, ⟨(some 37), .load none (.tmp 36), none⟩, ⟨(some 38), .bin .rem (.node []) false (.tmp 35) (.tmp 37), none⟩, ⟨(some 6), .mov (.tmp 33), none⟩, ⟨(some 7), .mov (.tmp 38), none⟩] [0, 1, 0, 4, 15, 0, 32, 0, 128, 480, 31, 2047])
 (.seq (.seq (.reg [⟨(some 39), .mov (.tmp 7), none⟩, ⟨(some 40), .bin .lss (.node []) false (.tmp 39) (.const (.int .i64 0)), none⟩])
 (.cond (.tmp 40)
 (.regD [⟨(some 41), .mov (.tmp 6), none⟩, ⟨(some 42), .bin .sub (.node []) false (.tmp 41) (.const (.int .i64 1)), none⟩, ⟨(some 43), .mov (.tmp 7), none⟩, ⟨(some 44), .faddr 0 (.tmp 3), none⟩, ⟨(some 45), .load none (.tmp 44), none⟩, ⟨(some 46), .bin .add (.node []) false (.tmp 43) (.tmp 45), none⟩, ⟨(some 6), .mov (.tmp 42), none⟩, ⟨(some 7), .mov (.tmp 46), none⟩] [0, 1, 0, 0, 8, 28, 3, 127])
 (.skip)))
 (.seq (.reg [⟨(some 47), .mov (.tmp 6), none⟩, ⟨(some 48), .build [(.int .i64 0), .nilslice] [(0, 1, (.tmp 47))], none⟩, ⟨(some 49), .mov (.tmp 7), none⟩, ⟨(some 50), .build [(.int .i64 0), .nilslice] [(0, 1, (.tmp 49))], none⟩, ⟨none, .store 2 (.tmp 4) (.tmp 48), none⟩, ⟨none, .store 2 (.tmp 5) (.tmp 50), none⟩])
 (.ret))))
 (.skip)))
 (.seq (.reg [⟨(some 52), .load (some 2) (.tmp 2), none⟩, ⟨(some 53), .call (.const (.func 209 [] [])) [(.tmp 52)], none⟩, ⟨(some 51), .mov (.tmp 53), none⟩, ⟨(some 54), .extract (.tmp 51) 0, none⟩, ⟨(some 55), .extract (.tmp 51) 1, none⟩, ⟨(some 8), .mov (.tmp 54), none⟩, ⟨(some 9), .mov (.tmp 55), none⟩])
 (.seq (.reg [⟨(some 57), .load (some 2) (.tmp 3), none⟩, ⟨(some 58), .call (.const (.func 209 [] [])) [(.tmp 57)], none⟩, ⟨(some 56), .mov (.tmp 58), none⟩, ⟨(some 59), .extract (.tmp 56) 0, none⟩, ⟨(some 60), .extract (.tmp 56) 1, none⟩, ⟨(some 10), .mov (.tmp 59), none⟩, ⟨(some 11), .mov (.tmp 60), none⟩])
 (.seq (.reg [⟨(some 62), .mov (.tmp 9), none⟩, ⟨(some 63), .mov (.tmp 11), none⟩, ⟨(some 64), .call (.const (.func 210 [] [])) [(.tmp 62), (.tmp 63)], none⟩, ⟨(some 61), .mov (.tmp 64), none⟩, ⟨(some 65), .extract (.tmp 61) 0, none⟩, ⟨(some 66), .extract (.tmp 61) 1, none⟩, ⟨(some 12), .mov (.tmp 65), none⟩, ⟨(some 13), .mov (.tmp 66), none⟩])
 (.seq (.reg [⟨(some 67), .mov (.tmp 8), none⟩, ⟨(some 68), .mov (.tmp 12), none⟩, ⟨(some 69), .call (.const (.func 218 [] [])) [(.tmp 67), (.tmp 68)], none⟩, ⟨(some 70), .mov (.tmp 8), none⟩, ⟨(some 71), .mov (.tmp 13), none⟩, ⟨(some 72), .call (.const (.func 218 [] [])) [(.tmp 70), (.tmp 71)], none⟩, ⟨(some 14), .alloc [(.int .i64 0), .nilslice] 224, none⟩, ⟨(some 15), .alloc [(.int .i64 0), .nilslice] 224, none⟩, ⟨none, .store 2 (.tmp 14) (.tmp 69), none⟩, ⟨none, .store 2 (.tmp 15) (.tmp 72), none⟩])
 (.seq (.seq (.reg [⟨(some 73), .load (some 2) (.tmp 15), none⟩, ⟨(some 74), .call (.const (.func 187 [] [])) [(.tmp 73)], none⟩, ⟨(some 75), .bin .lss (.node []) false (.tmp 74) (.const (.int .i64 0)), none⟩])
 (.cond (.tmp 75)
 (.regD [⟨(some 76), .load (some 2) (.tmp 14), none⟩, ⟨(some 77), .call (.const (.func 154 [] [])) [(.const (.int .i64 1))], none⟩, ⟨(some 78), .call (.const (.func 194 [] [])) [(.tmp 76), (.tmp 77)], none⟩, ⟨(some 79), .load (some 2) (.tmp 15), none⟩, ⟨(some 80), .load (some 2) (.tmp 3), none⟩, ⟨(some 81), .call (.const (.func 182 [] [])) [(.tmp 79), (.tmp 80)], none⟩, ⟨none, .store 2 (.tmp 14) (.tmp 78), none⟩, ⟨none, .store 2 (.tmp 15) (.tmp 81), none⟩] [0, 0, 3, 0, 0, 31, 63, 127])
 (.skip)))
 (.seq (.regD [⟨(some 82), .load (some 2) (.tmp 14), none⟩, ⟨(some 83), .load (some 2) (.tmp 15), none⟩, ⟨none, .store 2 (.tmp 4) (.tmp 82), none⟩, ⟨none, .store 2 (.tmp 5) (.tmp 83), none⟩] [0, 0, 1, 7])
 (.ret))))))))
theorem A.c188 : cFunc Tryz.prog 188 = some ⟨84, [.cell 4 (some 2), .cell 5 (some 2)], A.b188⟩ := by kernel_rfl
theorem A.k188 {K : List Kf} {Q : Rs → Prop} {f c args : List V} {st : St} (h : (f ++ args ++ c).length ≤ 84) : Run A.C K (valR (A.C.call (.func 188 f c) args st)) Q ↔ Run A.C (.fin [.cell 4 (some 2), .cell 5 (some 2)] st :: K) (exR (A.C.code none A.b188 ⟨setRegs .nil 0 (f ++ args ++ c), 84, []⟩ ⟨st.h, st.n, []⟩)) Q := run_func (A.x0 (f := 188) (by decide)) (mf := ⟨84, [.cell 4 (some 2), .cell 5 (some 2)], A.b188⟩) (by rw [A.t]; exact A.c188) h
/-- (lenslet/num.Int).Cmp -/
def A.b153 : MCode := .seq (.reg [⟨(some 2), .box 224 (.tmp 0), none⟩, ⟨(some 3), .box 224 (.tmp 1), none⟩, ⟨(some 4), .mov (.const (.int .i64 0)), none⟩])
 (.seq (.seq (.reg [⟨(some 5), .faddr 1 (.tmp 2), none⟩, ⟨(some 6), .load none (.tmp 5), none⟩, ⟨(some 7), .bin .eql (.prim .slice) true (.tmp 6) (.const .nilslice), none⟩, ⟨(some 8), .mov (.tmp 7), none⟩, ⟨(some 9), .faddr 1 (.tmp 3), (some (8, true))⟩, ⟨(some 10), .load none (.tmp 9), (some (8, true))⟩, ⟨(some 11), .bin .eql (.prim .slice) true (.tmp 10) (.const .nilslice), (some (8, true))⟩, ⟨(some 12), .pick (.tmp 8) (.tmp 11) (.const (.bool false)), none⟩])
 (.cond (.tmp 12)
 (.seq (.block 0 (.seq (.reg [⟨(some 14), .faddr 0 (.tmp 2), none⟩, ⟨(some 15), .load none (.tmp 14), none⟩, ⟨(some 16), .faddr 0 (.tmp 3), none⟩, ⟨(some 17), .load none (.tmp 16), none⟩, ⟨(some 18), .bin .lss (.node []) false (.tmp 15) (.tmp 17), none⟩, ⟨(some 13), .mov (.tmp 18), none⟩])
 (.cond (.tmp 13)
 (.seq (.reg [⟨(some 4), .mov (.const (.int .i64 (-1))), none⟩])
 (.ret))
 (.seq (.reg [⟨(some 20), .faddr 0 (.tmp 2), none⟩, ⟨(some 21), .load none (.tmp 20), none⟩, ⟨(some 22), .faddr 0 (.tmp 3), none⟩, ⟨(some 23), .load none (.tmp 22), none⟩, ⟨(some 24), .bin .gtr (.node []) false (.tmp 21) (.tmp 23), none⟩, ⟨(some 19), .mov (.tmp 24), none⟩])
 (.cond (.tmp 19)
 (.seq (.reg [⟨(some 4), .mov (.const (.int .i64 1)), none⟩])
 (.ret))
 (.skip))))))
 (.seq (.reg [⟨(some 4), .mov (.const (.int .i64 0)), none⟩])
 (.ret)))
 (.skip)))
 (.seq (.reg [⟨(some 25), .load (some 2) (.tmp 2), none⟩, ⟨(some 26), .load (some 2) (.tmp 3), none⟩, ⟨(some 27), .call (.const (.func 194 [] [])) [(.tmp 25), (.tmp 26)], none⟩, ⟨(some 28), .call (.const (.func 187 [] [])) [(.tmp 27)], none⟩, ⟨(some 4), .mov (.tmp 28), none⟩])
 (.ret)))
theorem A.c153 : cFunc Tryz.prog 153 = some ⟨29, [.tmp 4], A.b153⟩ := by kernel_rfl
theorem A.k153 {K : List Kf} {Q : Rs → Prop} {f c args : List V} {st : St} (h : (f ++ args ++ c).length ≤ 29) : Run A.C K (valR (A.C.call (.func 153 f c) args st)) Q ↔ Run A.C (.fin [.tmp 4] st :: K) (exR (A.C.code none A.b153 ⟨setRegs .nil 0 (f ++ args ++ c), 29, []⟩ ⟨st.h, st.n, []⟩)) Q := run_func (A.x0 (f := 153) (by decide)) (mf := ⟨29, [.tmp 4], A.b153⟩) (by rw [A.t]; exact A.c153) h
/-- (lenslet/num.Int).Mul -/
def A.b181 : MCode := .seq (.reg [⟨(some 2), .box 224 (.tmp 0), none⟩, ⟨(some 3), .box 224 (.tmp 1), none⟩, ⟨(some 4), .alloc [(.int .i64 0), .nilslice] 224, none⟩])
 (.seq (.seq (.reg [⟨(some 11), .faddr 1 (.tmp 2), none⟩, ⟨(some 12), .load none (.tmp 11), none⟩, ⟨(some 13), .bin .eql (.prim .slice) true (.tmp 12) (.const .nilslice), none⟩, ⟨(some 14), .mov (.tmp 13), none⟩, ⟨(some 15), .faddr 1 (.tmp 3), (some (14, true))⟩, ⟨(some 16), .load none (.tmp 15), (some (14, true))⟩, ⟨(some 17), .bin .eql (.prim .slice) true (.tmp 16) (.const .nilslice), (some (14, true))⟩, ⟨(some 18), .pick (.tmp 14) (.tmp 17) (.const (.bool false)), none⟩])
 (.cond (.tmp 18)
 (.seq (.regD [⟨(some 20), .faddr 0 (.tmp 2), none⟩, ⟨(some 21), .load none (.tmp 20), none⟩, ⟨(some 22), .call (.const (.func 217 [] [])) [(.tmp 21)], none⟩, ⟨(some 23), .faddr 0 (.tmp 3), none⟩, ⟨(some 24), .load none (.tmp 23), none⟩, ⟨(some 25), .call (.const (.func 217 [] [])) [(.tmp 24)], none⟩, ⟨(some 26), .call (.const (.func 216 [] [])) [(.tmp 22), (.tmp 25)], none⟩, ⟨(some 19), .mov (.tmp 26), none⟩, ⟨(some 27), .extract (.tmp 19) 0, none⟩, ⟨(some 28), .extract (.tmp 19) 1, none⟩, ⟨(some 5), .mov (.tmp 27), none⟩, ⟨(some 6), .mov (.tmp 28), none⟩] [0, 1, 3, 0, 8, 31, 63, 127, 255, 255, 511, 2047])
 (.seq (.reg [⟨(some 29), .mov (.tmp 5), none⟩, ⟨(some 30), .bin .eql (.prim .int) true (.tmp 29) (.const (.int .u64 0)), none⟩, ⟨(some 31), .mov (.tmp 30), none⟩, ⟨(some 32), .mov (.tmp 6), (some (31, true))⟩, ⟨(some 33), .bin .leq (.node []) false (.tmp 32) (.const (.int .u64 9223372036854775807)), (some (31, true))⟩, ⟨(some 34), .pick (.tmp 31) (.tmp 33) (.const (.bool false)), none⟩])
 (.cond (.tmp 34)
 (.seq (.seq (.reg [⟨(some 35), .faddr 0 (.tmp 2), none⟩, ⟨(some 36), .load none (.tmp 35), none⟩, ⟨(some 37), .bin .lss (.node []) false (.tmp 36) (.const (.int .i64 0)), none⟩, ⟨(some 38), .faddr 0 (.tmp 3), none⟩, ⟨(some 39), .load none (.tmp 38), none⟩, ⟨(some 40), .bin .lss (.node []) false (.tmp 39) (.const (.int .i64 0)), none⟩, ⟨(some 41), .bin .neq (.prim .bool) false (.tmp 37) (.tmp 40), none⟩])
 (.cond (.tmp 41)
 (.seq (.reg [⟨(some 42), .mov (.tmp 6), none⟩, ⟨(some 43), .convInt .i64 (.tmp 42), none⟩, ⟨(some 44), .un .neg (.tmp 43), none⟩, ⟨(some 45), .build [(.int .i64 0), .nilslice] [(0, 1, (.tmp 44))], none⟩, ⟨none, .store 2 (.tmp 4) (.tmp 45), none⟩])
 (.ret))
 (.skip)))
 (.seq (.reg [⟨(some 46), .mov (.tmp 6), none⟩, ⟨(some 47), .convInt .i64 (.tmp 46), none⟩, ⟨(some 48), .build [(.int .i64 0), .nilslice] [(0, 1, (.tmp 47))], none⟩, ⟨none, .store 2 (.tmp 4) (.tmp 48), none⟩])
 (.ret)))
 (.skip))))
 (.skip)))
 (.seq (.reg [⟨(some 50), .load (some 2) (.tmp 2), none⟩, ⟨(some 51), .call (.const (.func 209 [] [])) [(.tmp 50)], none⟩, ⟨(some 49), .mov (.tmp 51), none⟩, ⟨(some 52), .extract (.tmp 49) 0, none⟩, ⟨(some 53), .extract (.tmp 49) 1, none⟩, ⟨(some 7), .mov (.tmp 52), none⟩, ⟨(some 8), .mov (.tmp 53), none⟩])
 (.seq (.reg [⟨(some 55), .load (some 2) (.tmp 3), none⟩, ⟨(some 56), .call (.const (.func 209 [] [])) [(.tmp 55)], none⟩, ⟨(some 54), .mov (.tmp 56), none⟩, ⟨(some 57), .extract (.tmp 54) 0, none⟩, ⟨(some 58), .extract (.tmp 54) 1, none⟩, ⟨(some 9), .mov (.tmp 57), none⟩, ⟨(some 10), .mov (.tmp 58), none⟩])
 (.seq (.reg [⟨(some 59), .mov (.tmp 7), none⟩, ⟨(some 60), .mov (.tmp 9), none⟩, ⟨(some 61), .bin .neq (.prim .bool) false (.tmp 59) (.tmp 60), none⟩, ⟨(some 62), .mov (.tmp 8), none⟩, ⟨(some 63), .mov (.tmp 10), none⟩, ⟨(some 64), .call (.const (.func 219 [] [])) [(.tmp 62), (.tmp 63)], none⟩, ⟨(some 65), .call (.const (.func 218 [] [])) [(.tmp 61), (.tmp 64)], none⟩, ⟨none, .store 2 (.tmp 4) (.tmp 65), none⟩])
 (.ret)))))
theorem A.c181 : cFunc Tryz.prog 181 = some ⟨66, [.cell 4 (some 2)], A.b181⟩ := by kernel_rfl
theorem A.k181 {K : List Kf} {Q : Rs → Prop} {f c args : List V} {st : St} (h : (f ++ args ++ c).length ≤ 66) : Run A.C K (valR (A.C.call (.func 181 f c) args st)) Q ↔ Run A.C (.fin [.cell 4 (some 2)] st :: K) (exR (A.C.code none A.b181 ⟨setRegs .nil 0 (f ++ args ++ c), 66, []⟩ ⟨st.h, st.n, []⟩)) Q := run_func (A.x0 (f := 181) (by decide)) (mf := ⟨66, [.cell 4 (some 2)], A.b181⟩) (by rw [A.t]; exact A.c181) h
/-- (lenslet/num.Int).Add -/
def A.b182 : MCode := .seq (.reg [⟨(some 2), .box 224 (.tmp 0), none⟩, ⟨(some 3), .box 224 (.tmp 1), none⟩, ⟨(some 4), .alloc [(.int .i64 0), .nilslice] 224, none⟩])
 (.seq (.seq (.reg [⟨(some 10), .faddr 1 (.tmp 2), none⟩, ⟨(some 11), .load none (.tmp 10), none⟩, ⟨(some 12), .bin .eql (.prim .slice) true (.tmp 11) (.const .nilslice), none⟩, ⟨(some 13), .mov (.tmp 12), none⟩, ⟨(some 14), .faddr 1 (.tmp 3), (some (13, true))⟩, ⟨(some 15), .load none (.tmp 14), (some (13, true))⟩, ⟨(some 16), .bin .eql (.prim .slice) true (.tmp 15) (.const .nilslice), (some (13, true))⟩, ⟨(some 17), .pick (.tmp 13) (.tmp 16) (.const (.bool false)), none⟩])
 (.cond (.tmp 17)
 (.seq (.reg [⟨(some 18), .faddr 0 (.tmp 2), none⟩, ⟨(some 19), .load none (.tmp 18), none⟩, ⟨(some 20), .faddr 0 (.tmp 3), none⟩, ⟨(some 21), .load none (.tmp 20), none⟩, ⟨(some 22), .bin .add (.node []) false (.tmp 19) (.tmp 21), none⟩, ⟨(some 5), .mov (.tmp 22), none⟩])
 (.seq (.reg [⟨(some 23), .mov (.tmp 5), none⟩, ⟨(some 24), .faddr 0 (.tmp 2), none⟩, ⟨(some 25), .load none (.tmp 24), none⟩, ⟨(some 26), .bin .gtr (.node []) false (.tmp 23) (.tmp 25), none⟩, ⟨(some 27), .faddr 0 (.tmp 3), none⟩, ⟨(some 28), .load none (.tmp 27), none⟩, ⟨(some 29), .bin .gtr (.node []) false (.tmp 28) (.const (.int .i64 0)), none⟩, ⟨(some 30), .bin .eql (.prim .bool) false (.tmp 26) (.tmp 29), none⟩])
 (.cond (.tmp 30)
 (.seq (.reg [⟨(some 31), .mov (.tmp 5), none⟩, ⟨(some 32), .build [(.int .i64 0), .nilslice] [(0, 1, (.tmp 31))], none⟩, ⟨none, .store 2 (.tmp 4) (.tmp 32), none⟩])
 (.ret))
 (.skip))))
 (.skip)))
 (.seq (.reg [⟨(some 34), .load (some 2) (.tmp 2), none⟩, ⟨(some 35), .call (.const (.func 209 [] [])) [(.tmp 34)], none⟩, ⟨(some 33), .mov (.tmp 35), none⟩, ⟨(some 36), .extract (.tmp 33) 0, none⟩, ⟨(some 37), .extract (.tmp 33) 1, none⟩, ⟨(some 6), .mov (.tmp 36), none⟩, ⟨(some 7), .mov (.tmp 37), none⟩])
 (.seq (.reg [⟨(some 39), .load (some 2) (.tmp 3), none⟩, ⟨(some 40), .call (.const (.func 209 [] [])) [(.tmp 39)], none⟩, ⟨(some 38), .mov (.tmp 40), none⟩, ⟨(some 41), .extract (.tmp 38) 0, none⟩, ⟨(some 42), .extract (.tmp 38) 1, none⟩, ⟨(some 8), .mov (.tmp 41), none⟩, ⟨(some 9), .mov (.tmp 42), none⟩])
 (.seq (.block 0 (.seq (.reg [⟨(some 44), .mov (.tmp 6), none⟩, ⟨(some 45), .mov (.tmp 8), none⟩, ⟨(some 46), .bin .eql (.prim .bool) false (.tmp 44) (.tmp 45), none⟩, ⟨(some 43), .mov (.tmp 46), none⟩])
 (.cond (.tmp 43)
 (.seq (.reg [⟨(some 47), .mov (.tmp 6), none⟩, ⟨(some 48), .mov (.tmp 7), none⟩, ⟨(some 49), .mov (.tmp 9), none⟩, ⟨(some 50), .call (.const (.func 220 [] [])) [(.tmp 48), (.tmp 49)], none⟩, ⟨(some 51), .call (.const (.func 218 [] [])) [(.tmp 47), (.tmp 50)], none⟩, ⟨none, .store 2 (.tmp 4) (.tmp 51), none⟩])
 (.ret))
 (.seq (.reg [⟨(some 53), .mov (.tmp 7), none⟩, ⟨(some 54), .mov (.tmp 9), none⟩, ⟨(some 55), .call (.const (.func 221 [] [])) [(.tmp 53), (.tmp 54)], none⟩, ⟨(some 56), .bin .geq (.node []) false (.tmp 55) (.const (.int .i64 0)), none⟩, ⟨(some 52), .mov (.tmp 56), none⟩])
 (.cond (.tmp 52)
 (.seq (.reg [⟨(some 57), .mov (.tmp 6), none⟩, ⟨(some 58), .mov (.tmp 7), none⟩, ⟨(some 59), .mov (.tmp 9), none⟩, ⟨(some 60), .call (.const (.func 222 [] [])) [(.tmp 58), (.tmp 59)], none⟩, ⟨(some 61), .call (.const (.func 218 [] [])) [(.tmp 57), (.tmp 60)], none⟩, ⟨none, .store 2 (.tmp 4) (.tmp 61), none⟩])
 (.ret))
 (.skip))))))
 (.seq (.reg [⟨(some 62), .mov (.tmp 8), none⟩, ⟨(some 63), .mov (.tmp 9), none⟩, ⟨(some 64), .mov (.tmp 7), none⟩, ⟨(some 65), .call (.const (.func 222 [] [])) [(.tmp 63), (.tmp 64)], none⟩, ⟨(some 66), .call (.const (.func 218 [] [])) [(.tmp 62), (.tmp 65)], none⟩, ⟨none, .store 2 (.tmp 4) (.tmp 66), none⟩])
 (.ret))))))
theorem A.c182 : cFunc Tryz.prog 182 = some ⟨67, [.cell 4 (some 2)], A.b182⟩ := by kernel_rfl
theorem A.k182 {K : List Kf} {Q : Rs → Prop} {f c args : List V} {st : St} (h : (f ++ args ++ c).length ≤ 67) : Run A.C K (valR (A.C.call (.func 182 f c) args st)) Q ↔ Run A.C (.fin [.cell 4 (some 2)] st :: K) (exR (A.C.code none A.b182 ⟨setRegs .nil 0 (f ++ args ++ c), 67, []⟩ ⟨st.h, st.n, []⟩)) Q := run_func (A.x0 (f := 182) (by decide)) (mf := ⟨67, [.cell 4 (some 2)], A.b182⟩) (by rw [A.t]; exact A.c182) h

/-- A machine integer. -/
def sI (z : Int) : V := .agg [.int .i64 z, .nilslice]
theorem sI_cells (z : Int) : (sI z).cells = [.int .i64 z, .nilslice] := rfl
attribute [simp] sI_cells
theorem kset {h h1 : T O} {n n1 : Nat} (k : Keeps h n h1 n1) (o : O) : Keeps h n (h1.set n1 o) (n1 + 1) := (k.set k.le).up (Nat.le_succ _)
theorem of_fn {z : Int} {h : T O} {N : Nat} : Fn A.C 154 [.int .i64 z] h N (fun v _ _ => v = sI z) := by
  intro w
  rw [call_run, A.k154 (by simp)]
  simp (disch := first | (simp; done) | omega | (simp only [dg_length, dgi_length, List.length_cons]; omega) | rfl) [-getElem?_pos, List.getElem?_cons_zero, List.getElem?_cons_succ, A.b154, partV, slc, splice, Ret, sI]
  exact (((Keeps.refl.set (Nat.le_refl N)).set (Nat.le_refl N)).up (Nat.le_succ N))
theorem sign_fn {z : Int} {h : T O} {N : Nat} : Fn A.C 187 [sI z] h N (fun v _ _ => v = .int .i64 (if z < 0 then -1 else if z = 0 then 0 else 1)) := by
  intro w
  rw [call_run, A.k187 (by simp)]
  obtain h1 | h1 | h1 : z < 0 ∨ z = 0 ∨ 0 < z := by omega
  · have e1 : z < 1 := by omega
    have e2 : ¬ -1 < z := by omega
    simp (disch := first | (simp; done) | omega | (simp only [dg_length, dgi_length, List.length_cons]; omega) | rfl) [-getElem?_pos, List.getElem?_cons_zero, List.getElem?_cons_succ, A.b187, partV, slc, splice, Ret, op_mn, op_mx, minO, minF, maxO, maxF, h1, e1, e2, sI]
    exact kset Keeps.refl _
  · subst h1
    simp (disch := first | (simp; done) | omega | (simp only [dg_length, dgi_length, List.length_cons]; omega) | rfl) [-getElem?_pos, List.getElem?_cons_zero, List.getElem?_cons_succ, A.b187, partV, slc, splice, Ret, op_mn, op_mx, minO, minF, maxO, maxF, sI]
    exact kset Keeps.refl _
  · have e1 : ¬ z < 1 := by omega
    have e2 : ¬ z < 0 := by omega
    have e3 : ¬ z = 0 := by omega
    simp (disch := first | (simp; done) | omega | (simp only [dg_length, dgi_length, List.length_cons]; omega) | rfl) [-getElem?_pos, List.getElem?_cons_zero, List.getElem?_cons_succ, A.b187, partV, slc, splice, Ret, op_mn, op_mx, minO, minF, maxO, maxF, e1, e2, e3, sI]
    exact kset Keeps.refl _
theorem abs_fn {z : Int} (hz : 0 ≤ z) {h : T O} {N : Nat} : Fn A.C 186 [sI z] h N (fun v _ _ => v = sI z) := by
  intro w
  rw [call_run, A.k186 (by simp)]
  have e1 : ¬ z < 0 := by omega
  simp (disch := first | (simp; done) | omega | (simp only [dg_length, dgi_length, List.length_cons]; omega) | rfl) [-getElem?_pos, List.getElem?_cons_zero, List.getElem?_cons_succ, A.b186, partV, slc, splice, Ret, sI, e1]
  exact (kset (kset Keeps.refl _) _).set (by omega)
theorem size_eq {z : Int} (hz : 0 ≤ z) (hm : z < 9223372036854775808) {st : St} : A.C.call (.func 217 [] []) [.int .i64 z] st = some (.int .u64 z, st) := by
  apply Call.eq
  rw [call_run, A.k217 (by simp)]
  have e1 : ¬ z < 0 := by omega
  have e2 : wrapF .u64 z = z := wrapF_u64 hz (by omega)
  simp (disch := first | (simp; done) | omega | (simp only [dg_length, dgi_length, List.length_cons]; omega) | rfl) [-getElem?_pos, List.getElem?_cons_zero, List.getElem?_cons_succ, A.b217, e1, e2]
theorem cmp_fn {y z : Int} {h : T O} {N : Nat} : Fn A.C 153 [sI y, sI z] h N (fun v _ _ => v = .int .i64 (if y < z then -1 else if z < y then 1 else 0)) := by
  intro w
  rw [call_run, A.k153 (by simp)]
  by_cases h1 : y < z
  · simp (disch := first | (simp; done) | omega | (simp only [dg_length, dgi_length, List.length_cons]; omega) | rfl) [-getElem?_pos, List.getElem?_cons_zero, List.getElem?_cons_succ, A.b153, partV, slc, splice, Ret, sI, eqPrim, h1]
    exact kset (kset Keeps.refl _) _
  · by_cases h2 : z < y
    · simp (disch := first | (simp; done) | omega | (simp only [dg_length, dgi_length, List.length_cons]; omega) | rfl) [-getElem?_pos, List.getElem?_cons_zero, List.getElem?_cons_succ, A.b153, partV, slc, splice, Ret, sI, eqPrim, h1, h2]
      exact kset (kset Keeps.refl _) _
    · simp (disch := first | (simp; done) | omega | (simp only [dg_length, dgi_length, List.length_cons]; omega) | rfl) [-getElem?_pos, List.getElem?_cons_zero, List.getElem?_cons_succ, A.b153, partV, slc, splice, Ret, sI, eqPrim, h1, h2]
      exact kset (kset Keeps.refl _) _
theorem divMod_fn {y z : Int} (hy : 0 ≤ y) (hy2 : y < 9223372036854775808) (hz : 0 < z) {h : T O} {N : Nat} : Fn A.C 188 [sI y, sI z] h N (fun v _ _ => v = .tup [sI (y / z), sI (y % z)]) := by
  intro w
  rw [call_run, A.k188 (by simp)]
  have e1 : ¬ y = -9223372036854775808 := by omega
  have e2 : ¬ z = 0 := by omega
  have e3 : y.tdiv z = y / z := Int.tdiv_eq_ediv_of_nonneg hy
  have e4 : y.tmod z = y % z := Int.tmod_eq_emod_of_nonneg hy
  have e5 : 0 ≤ y / z := Int.ediv_nonneg hy (by omega)
  have e6 : y / z ≤ y := Int.ediv_le_self _ hy
  have e7 : 0 ≤ y % z := Int.emod_nonneg _ e2
  have e8 : ¬ y % z < 0 := by omega
  have e9 : wrapF .i64 (y / z) = y / z := wrapF_i64 (by omega) (by omega)
  simp (disch := first | (simp; done) | omega | (simp only [dg_length, dgi_length, List.length_cons]; omega) | rfl) [-getElem?_pos, List.getElem?_cons_zero, List.getElem?_cons_succ, A.b188, partV, slc, splice, Ret, sI, eqPrim, e1, e2, e3, e4, e8, e9]
  (refine Keeps.up (n1 := N) ?_ (by omega); repeat (refine Keeps.set (by omega) ?_)); exact Keeps.refl
theorem add_fn {y z : Int} (hy : 0 ≤ y) (hz : 0 ≤ z) (hm : y + z < 9223372036854775808) {h : T O} {N : Nat} : Fn A.C 182 [sI y, sI z] h N (fun v _ _ => v = sI (y + z)) := by
  intro w
  rw [call_run, A.k182 (by simp)]
  have e9 : wrapF .i64 (y + z) = y + z := wrapF_i64 (by omega) (by omega)
  by_cases h0 : 0 < z
  · have e1 : y < y + z := by omega
    simp (disch := first | (simp; done) | omega | (simp only [dg_length, dgi_length, List.length_cons]; omega) | rfl) [-getElem?_pos, List.getElem?_cons_zero, List.getElem?_cons_succ, A.b182, partV, slc, splice, Ret, sI, eqPrim, e9, h0, e1]
    (refine Keeps.up (n1 := N) ?_ (by omega); repeat (refine Keeps.set (by omega) ?_)); exact Keeps.refl
  · have e1 : ¬ y < y + z := by omega
    simp (disch := first | (simp; done) | omega | (simp only [dg_length, dgi_length, List.length_cons]; omega) | rfl) [-getElem?_pos, List.getElem?_cons_zero, List.getElem?_cons_succ, A.b182, partV, slc, splice, Ret, sI, eqPrim, e9, h0, e1]
    (refine Keeps.up (n1 := N) ?_ (by omega); repeat (refine Keeps.set (by omega) ?_)); exact Keeps.refl
theorem mul_fn {y z : Nat} (hm : y * z < 9223372036854775808) (hy : y < 9223372036854775808) (hz : z < 9223372036854775808) {h : T O} {N : Nat} : Fn A.C 181 [sI y, sI z] h N (fun v _ _ => v = sI ((y * z : Nat) : Int)) := by
  intro w
  rw [call_run, A.k181 (by simp)]
  have e1 : ¬ ((y : Int) < 0) := by omega
  have e2 : ¬ ((z : Int) < 0) := by omega
  have s1 := fun st => size_eq (z := y) (st := st) (by omega) (by omega)
  have s2 := fun st => size_eq (z := z) (st := st) (by omega) (by omega)
  have q1 : hi64 (y * z) = 0 := Nat.div_eq_of_lt (by omega)
  have q2 : lo64 (y * z) = y * z := Nat.mod_eq_of_lt (by omega)
  simp (disch := first | (simp; done) | omega | (simp only [dg_length, dgi_length, List.length_cons]; omega) | rfl) [-getElem?_pos, List.getElem?_cons_zero, List.getElem?_cons_succ, A.b181, partV, slc, splice, sI, eqPrim, e1, e2, s1, s2]
  refine run_fn (mul64_fn (x := y) (y := z) (by omega) (by omega)) ?_
  rintro v h1 n1 k1 ⟨rfl, rfl, rfl⟩
  rw [q1, q2]
  have c0 : ((y : Int) * (z : Int)) = ((y * z : Nat) : Int) := by simp
  have c1 : (y : Int) * (z : Int) ≤ 9223372036854775807 := by omega
  have c2 : wrapF .i64 ((y : Int) * (z : Int)) = (y : Int) * (z : Int) := wrapF_i64 (by omega) (by omega)
  simp (disch := first | (simp; done) | omega | (simp only [dg_length, dgi_length, List.length_cons]; omega) | rfl) [-getElem?_pos, List.getElem?_cons_zero, List.getElem?_cons_succ, partV, slc, splice, sI, eqPrim, e1, e2, c1, c2, Ret]
  (refine Keeps.up (n1 := N) ?_ (by omega); repeat (refine Keeps.set (by omega) ?_)); exact Keeps.refl

end Go.Mx
