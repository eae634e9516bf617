/-
  prefixes, strings.Cut.
-/
import Derived.Test.YtgbhkladhegceaaGreatDoorPaW
set_option linter.all false
namespace Go.Mx
open Go Go.Proofs
set_option maxRecDepth 1000000
set_option linter.unusedSimpArgs false
set_option linter.unusedVariables false
/-- internal/stringslite.HasPrefix -/
def A.b223 : MCode := .seq (.reg [⟨(some 4), .mov (.const (.bool false)), none⟩])
 (.seq (.reg [⟨(some 5), .mov (.tmp 0), none⟩, ⟨(some 6), .len 0 (.tmp 5), none⟩, ⟨(some 7), .mov (.tmp 1), none⟩, ⟨(some 8), .len 0 (.tmp 7), none⟩, ⟨(some 9), .bin .geq (.node []) false (.tmp 6) (.tmp 8), none⟩, ⟨(some 10), .mov (.tmp 9), none⟩, ⟨(some 11), .mov (.tmp 0), (some (10, true))⟩, ⟨(some 12), .mov (.tmp 1), (some (10, true))⟩, ⟨(some 13), .len 0 (.tmp 12), (some (10, true))⟩, ⟨(some 14), .sliceStr (.tmp 11) none (some (.tmp 13)), (some (10, true))⟩, ⟨(some 15), .mov (.tmp 1), (some (10, true))⟩, ⟨(some 16), .bin .eql (.prim .str) false (.tmp 14) (.tmp 15), (some (10, true))⟩, ⟨(some 17), .pick (.tmp 10) (.tmp 16) (.const (.bool false)), none⟩, ⟨(some 4), .mov (.tmp 17), none⟩])
 (.ret))
theorem A.c223 : cFunc Tryz.prog 223 = some ⟨18, [.tmp 4], A.b223⟩ := by kernel_rfl
theorem A.k223 {K : List Kf} {Q : Rs → Prop} {f c args : List V} {st : St} (h : (f ++ args ++ c).length ≤ 18) : Run A.C K (valR (A.C.call (.func 223 f c) args st)) Q ↔ Run A.C (.fin [.tmp 4] st :: K) (exR (A.C.code none A.b223 ⟨setRegs .nil 0 (f ++ args ++ c), 18, []⟩ ⟨st.h, st.n, []⟩)) Q := run_func (A.x0 (f := 223) (by decide)) (mf := ⟨18, [.tmp 4], A.b223⟩) (by rw [A.t]; exact A.c223) h
/-- strings.CutPrefix -/
def A.b146 : MCode := .seq (.reg [⟨(some 4), .mov (.const (.str [])), none⟩, ⟨(some 5), .mov (.const (.bool false)), none⟩])
 (.seq (.reg [⟨(some 6), .mov (.tmp 0), none⟩, ⟨(some 7), .mov (.tmp 1), none⟩, ⟨(some 8), .call (.const (.func 183 [] [])) [(.tmp 6), (.tmp 7)], none⟩, ⟨(some 9), .extract (.tmp 8) 0, none⟩, ⟨(some 10), .extract (.tmp 8) 1, none⟩, ⟨(some 4), .mov (.tmp 9), none⟩, ⟨(some 5), .mov (.tmp 10), none⟩])
 (.ret))
theorem A.c146 : cFunc Tryz.prog 146 = some ⟨11, [.tmp 4, .tmp 5], A.b146⟩ := by kernel_rfl
theorem A.k146 {K : List Kf} {Q : Rs → Prop} {f c args : List V} {st : St} (h : (f ++ args ++ c).length ≤ 11) : Run A.C K (valR (A.C.call (.func 146 f c) args st)) Q ↔ Run A.C (.fin [.tmp 4, .tmp 5] st :: K) (exR (A.C.code none A.b146 ⟨setRegs .nil 0 (f ++ args ++ c), 11, []⟩ ⟨st.h, st.n, []⟩)) Q := run_func (A.x0 (f := 146) (by decide)) (mf := ⟨11, [.tmp 4, .tmp 5], A.b146⟩) (by rw [A.t]; exact A.c146) h
/-- internal/stringslite.CutPrefix -/
def A.b183 : MCode := .seq (.reg [⟨(some 4), .mov (.const (.str [])), none⟩, ⟨(some 5), .mov (.const (.bool false)), none⟩])
 (.seq (.seq (.reg [⟨(some 6), .mov (.tmp 0), none⟩, ⟨(some 7), .mov (.tmp 1), none⟩, ⟨(some 8), .call (.const (.func 223 [] [])) [(.tmp 6), (.tmp 7)], none⟩, ⟨(some 9), .un .not (.tmp 8), none⟩])
 (.cond (.tmp 9)
 (.seq (.reg [⟨(some 10), .mov (.tmp 0), none⟩, ⟨(some 4), .mov (.tmp 10), none⟩, ⟨(some 5), .mov (.const (.bool false)), none⟩])
 (.ret))
 (.skip)))
 (.seq (.reg [⟨(some 11), .mov (.tmp 0), none⟩, ⟨(some 12), .mov (.tmp 1), none⟩, ⟨(some 13), .len 0 (.tmp 12), none⟩, ⟨(some 14), .sliceStr (.tmp 11) (some (.tmp 13)) none, none⟩, ⟨(some 4), .mov (.tmp 14), none⟩, ⟨(some 5), .mov (.const (.bool true)), none⟩])
 (.ret)))
theorem A.c183 : cFunc Tryz.prog 183 = some ⟨15, [.tmp 4, .tmp 5], A.b183⟩ := by kernel_rfl
theorem A.k183 {K : List Kf} {Q : Rs → Prop} {f c args : List V} {st : St} (h : (f ++ args ++ c).length ≤ 15) : Run A.C K (valR (A.C.call (.func 183 f c) args st)) Q ↔ Run A.C (.fin [.tmp 4, .tmp 5] st :: K) (exR (A.C.code none A.b183 ⟨setRegs .nil 0 (f ++ args ++ c), 15, []⟩ ⟨st.h, st.n, []⟩)) Q := run_func (A.x0 (f := 183) (by decide)) (mf := ⟨15, [.tmp 4, .tmp 5], A.b183⟩) (by rw [A.t]; exact A.c183) h
/-- strings.TrimPrefix -/
def A.b190 : MCode := .seq (.reg [⟨(some 4), .mov (.const (.str [])), none⟩])
 (.seq (.reg [⟨(some 5), .mov (.tmp 0), none⟩, ⟨(some 6), .mov (.tmp 1), none⟩, ⟨(some 7), .call (.const (.func 232 [] [])) [(.tmp 5), (.tmp 6)], none⟩, ⟨(some 4), .mov (.tmp 7), none⟩])
 (.ret))
theorem A.c190 : cFunc Tryz.prog 190 = some ⟨8, [.tmp 4], A.b190⟩ := by kernel_rfl
theorem A.k190 {K : List Kf} {Q : Rs → Prop} {f c args : List V} {st : St} (h : (f ++ args ++ c).length ≤ 8) : Run A.C K (valR (A.C.call (.func 190 f c) args st)) Q ↔ Run A.C (.fin [.tmp 4] st :: K) (exR (A.C.code none A.b190 ⟨setRegs .nil 0 (f ++ args ++ c), 8, []⟩ ⟨st.h, st.n, []⟩)) Q := run_func (A.x0 (f := 190) (by decide)) (mf := ⟨8, [.tmp 4], A.b190⟩) (by rw [A.t]; exact A.c190) h
/-- internal/stringslite.TrimPrefix -/
def A.b232 : MCode := .seq (.reg [⟨(some 4), .mov (.const (.str [])), none⟩])
 (.seq (.seq (.reg [⟨(some 5), .mov (.tmp 0), none⟩, ⟨(some 6), .mov (.tmp 1), none⟩, ⟨(some 7), .call (.const (.func 223 [] [])) [(.tmp 5), (.tmp 6)], none⟩])
 (.cond (.tmp 7)
 (.seq (.reg [⟨(some 8), .mov (.tmp 0), none⟩, ⟨(some 9), .mov (.tmp 1), none⟩, ⟨(some 10), .len 0 (.tmp 9), none⟩, ⟨(some 11), .sliceStr (.tmp 8) (some (.tmp 10)) none, none⟩, ⟨(some 4), .mov (.tmp 11), none⟩])
 (.ret))
 (.skip)))
 (.seq (.reg [⟨(some 12), .mov (.tmp 0), none⟩, ⟨(some 4), .mov (.tmp 12), none⟩])
 (.ret)))
theorem A.c232 : cFunc Tryz.prog 232 = some ⟨13, [.tmp 4], A.b232⟩ := by kernel_rfl
theorem A.k232 {K : List Kf} {Q : Rs → Prop} {f c args : List V} {st : St} (h : (f ++ args ++ c).length ≤ 13) : Run A.C K (valR (A.C.call (.func 232 f c) args st)) Q ↔ Run A.C (.fin [.tmp 4] st :: K) (exR (A.C.code none A.b232 ⟨setRegs .nil 0 (f ++ args ++ c), 13, []⟩ ⟨st.h, st.n, []⟩)) Q := run_func (A.x0 (f := 232) (by decide)) (mf := ⟨13, [.tmp 4], A.b232⟩) (by rw [A.t]; exact A.c232) h
/-- strings.HasPrefix -/
def A.b189 : MCode := .seq (.reg [⟨(some 4), .mov (.const (.bool false)), none⟩])
 (.seq (.reg [⟨(some 5), .mov (.tmp 0), none⟩, ⟨(some 6), .mov (.tmp 1), none⟩, ⟨(some 7), .call (.const (.func 223 [] [])) [(.tmp 5), (.tmp 6)], none⟩, ⟨(some 4), .mov (.tmp 7), none⟩])
 (.ret))
theorem A.c189 : cFunc Tryz.prog 189 = some ⟨8, [.tmp 4], A.b189⟩ := by kernel_rfl
theorem A.k189 {K : List Kf} {Q : Rs → Prop} {f c args : List V} {st : St} (h : (f ++ args ++ c).length ≤ 8) : Run A.C K (valR (A.C.call (.func 189 f c) args st)) Q ↔ Run A.C (.fin [.tmp 4] st :: K) (exR (A.C.code none A.b189 ⟨setRegs .nil 0 (f ++ args ++ c), 8, []⟩ ⟨st.h, st.n, []⟩)) Q := run_func (A.x0 (f := 189) (by decide)) (mf := ⟨8, [.tmp 4], A.b189⟩) (by rw [A.t]; exact A.c189) h
/-- internal/stringslite.IndexByte -/
def A.b254 : MCode := .seq (.reg [⟨(some 4), .mov (.const (.int .i64 0)), none⟩])
 (.seq (.reg [⟨(some 5), .mov (.tmp 0), none⟩, ⟨(some 6), .mov (.tmp 1), none⟩, ⟨(some 7), .ext .indexByteString [(.tmp 5), (.tmp 6)], none⟩, ⟨(some 4), .mov (.tmp 7), none⟩])
 (.ret))
theorem A.c254 : cFunc Tryz.prog 254 = some ⟨8, [.tmp 4], A.b254⟩ := by kernel_rfl
theorem A.k254 {K : List Kf} {Q : Rs → Prop} {f c args : List V} {st : St} (h : (f ++ args ++ c).length ≤ 8) : Run A.C K (valR (A.C.call (.func 254 f c) args st)) Q ↔ Run A.C (.fin [.tmp 4] st :: K) (exR (A.C.code none A.b254 ⟨setRegs .nil 0 (f ++ args ++ c), 8, []⟩ ⟨st.h, st.n, []⟩)) Q := run_func (A.x0 (f := 254) (by decide)) (mf := ⟨8, [.tmp 4], A.b254⟩) (by rw [A.t]; exact A.c254) h
def A.lb224_0 : MCode := .seq (.seq (.reg [⟨(some 57), .mov (.tmp 8), none⟩, ⟨(some 58), .mov (.tmp 9), none⟩, ⟨(some 59), .bin .lss (.node []) false (.tmp 57) (.tmp 58), none⟩])
 (.cond (.tmp 59)
 (.skip)
 (.exit 1)))
 (.block 2 (.seq (.seq (.reg [⟨(some 60), .mov (.tmp 0), none⟩, ⟨(some 61), .mov (.tmp 8), none⟩, ⟨(some 62), .idxStr (.tmp 60) (.tmp 61), none⟩, ⟨(some 63), .mov (.tmp 6), none⟩, ⟨(some 64), .bin .neq (.prim .int) false (.tmp 62) (.tmp 63), none⟩])
 (.cond (.tmp 64)
 (.seq (.reg [⟨(some 65), .mov (.tmp 0), none⟩, ⟨(some 66), .mov (.tmp 8), none⟩, ⟨(some 67), .bin .add (.node []) false (.tmp 66) (.const (.int .i64 1)), none⟩, ⟨(some 68), .mov (.tmp 9), none⟩, ⟨(some 69), .sliceStr (.tmp 65) (some (.tmp 67)) (some (.tmp 68)), none⟩, ⟨(some 70), .mov (.tmp 6), none⟩, ⟨(some 71), .call (.const (.func 254 [] [])) [(.tmp 69), (.tmp 70)], none⟩, ⟨(some 11), .mov (.tmp 71), none⟩])
 (.seq (.seq (.reg [⟨(some 72), .mov (.tmp 11), none⟩, ⟨(some 73), .bin .lss (.node []) false (.tmp 72) (.const (.int .i64 0)), none⟩])
 (.cond (.tmp 73)
 (.seq (.reg [⟨(some 4), .mov (.const (.int .i64 (-1))), none⟩])
 (.ret))
 (.skip)))
 (.reg [⟨(some 74), .mov (.tmp 8), none⟩, ⟨(some 75), .mov (.tmp 11), none⟩, ⟨(some 76), .bin .add (.node []) false (.tmp 75) (.const (.int .i64 1)), none⟩, ⟨(some 77), .bin .add (.node []) false (.tmp 74) (.tmp 76), none⟩, ⟨(some 8), .mov (.tmp 77), none⟩])))
 (.skip)))
 (.seq (.seq (.reg [⟨(some 78), .mov (.tmp 0), none⟩, ⟨(some 79), .mov (.tmp 8), none⟩, ⟨(some 80), .bin .add (.node []) false (.tmp 79) (.const (.int .i64 1)), none⟩, ⟨(some 81), .idxStr (.tmp 78) (.tmp 80), none⟩, ⟨(some 82), .mov (.tmp 7), none⟩, ⟨(some 83), .bin .eql (.prim .int) false (.tmp 81) (.tmp 82), none⟩, ⟨(some 84), .mov (.tmp 83), none⟩, ⟨(some 85), .mov (.tmp 0), (some (84, true))⟩, ⟨(some 86), .mov (.tmp 8), (some (84, true))⟩, ⟨(some 87), .mov (.tmp 8), (some (84, true))⟩, ⟨(some 88), .mov (.tmp 5), (some (84, true))⟩, ⟨(some 89), .bin .add (.node []) false (.tmp 87) (.tmp 88), (some (84, true))⟩, ⟨(some 90), .sliceStr (.tmp 85) (some (.tmp 86)) (some (.tmp 89)), (some (84, true))⟩, ⟨(some 91), .mov (.tmp 1), (some (84, true))⟩, ⟨(some 92), .bin .eql (.prim .str) false (.tmp 90) (.tmp 91), (some (84, true))⟩, ⟨(some 93), .pick (.tmp 84) (.tmp 92) (.const (.bool false)), none⟩])
 (.cond (.tmp 93)
 (.seq (.reg [⟨(some 94), .mov (.tmp 8), none⟩, ⟨(some 4), .mov (.tmp 94), none⟩])
 (.ret))
 (.skip)))
 (.seq (.reg [⟨(some 95), .mov (.tmp 8), none⟩, ⟨(some 96), .bin .add (.node []) false (.tmp 95) (.const (.int .i64 1)), none⟩, ⟨(some 8), .mov (.tmp 96), none⟩])
 (.seq (.reg [⟨(some 97), .mov (.tmp 10), none⟩, ⟨(some 98), .bin .add (.node []) false (.tmp 97) (.const (.int .i64 1)), none⟩, ⟨(some 10), .mov (.tmp 98), none⟩])
 (.seq (.reg [⟨(some 99), .mov (.tmp 5), none⟩, ⟨(some 100), .load none (.const (.ptr 0 0)), none⟩, ⟨(some 101), .bin .leq (.node []) false (.tmp 99) (.tmp 100), none⟩, ⟨(some 102), .mov (.tmp 101), none⟩, ⟨(some 103), .mov (.tmp 10), (some (102, true))⟩, ⟨(some 104), .mov (.tmp 8), (some (102, true))⟩, ⟨(some 105), .call (.const (.func 256 [] [])) [(.tmp 104)], (some (102, true))⟩, ⟨(some 106), .bin .gtr (.node []) false (.tmp 103) (.tmp 105), (some (102, true))⟩, ⟨(some 107), .pick (.tmp 102) (.tmp 106) (.const (.bool false)), none⟩])
 (.cond (.tmp 107)
 (.seq (.reg [⟨(some 108), .mov (.tmp 0), none⟩, ⟨(some 109), .mov (.tmp 8), none⟩, ⟨(some 110), .sliceStr (.tmp 108) (some (.tmp 109)) none, none⟩, ⟨(some 111), .mov (.tmp 1), none⟩, ⟨(some 112), .stop, none⟩, ⟨(some 12), .mov (.tmp 112), none⟩])
 (.seq (.seq (.reg [⟨(some 113), .mov (.tmp 12), none⟩, ⟨(some 114), .bin .geq (.node []) false (.tmp 113) (.const (.int .i64 0)), none⟩])
 (.cond (.tmp 114)
 (.seq (.reg [⟨(some 115), .mov (.tmp 12), none⟩, ⟨(some 116), .mov (.tmp 8), none⟩, ⟨(some 117), .bin .add (.node []) false (.tmp 115) (.tmp 116), none⟩, ⟨(some 4), .mov (.tmp 117), none⟩])
 (.ret))
 (.skip)))
 (.seq (.reg [⟨(some 4), .mov (.const (.int .i64 (-1))), none⟩])
 (.ret))))
 (.seq (.reg [⟨(some 118), .mov (.tmp 5), none⟩, ⟨(some 119), .load none (.const (.ptr 0 0)), none⟩, ⟨(some 120), .bin .gtr (.node []) false (.tmp 118) (.tmp 119), none⟩, ⟨(some 121), .mov (.tmp 120), none⟩, ⟨(some 122), .mov (.tmp 10), (some (121, true))⟩, ⟨(some 123), .mov (.tmp 8), (some (121, true))⟩, ⟨(some 124), .bin .shr (.node []) false (.tmp 123) (.const (.int .u64 4)), (some (121, true))⟩, ⟨(some 125), .bin .add (.node []) false (.const (.int .i64 4)) (.tmp 124), (some (121, true))⟩, ⟨(some 126), .bin .geq (.node []) false (.tmp 122) (.tmp 125), (some (121, true))⟩, ⟨(some 127), .pick (.tmp 121) (.tmp 126) (.const (.bool false)), none⟩, ⟨(some 128), .mov (.tmp 127), none⟩, ⟨(some 129), .mov (.tmp 8), (some (128, true))⟩, ⟨(some 130), .mov (.tmp 9), (some (128, true))⟩, ⟨(some 131), .bin .lss (.node []) false (.tmp 129) (.tmp 130), (some (128, true))⟩, ⟨(some 132), .pick (.tmp 128) (.tmp 131) (.const (.bool false)), none⟩])
 (.cond (.tmp 132)
 (.seq (.reg [⟨(some 133), .mov (.tmp 0), none⟩, ⟨(some 134), .mov (.tmp 8), none⟩, ⟨(some 135), .sliceStr (.tmp 133) (some (.tmp 134)) none, none⟩, ⟨(some 136), .mov (.tmp 1), none⟩, ⟨(some 137), .call (.const (.func 257 [] [])) [(.tmp 135), (.tmp 136)], none⟩, ⟨(some 13), .mov (.tmp 137), none⟩])
 (.seq (.seq (.reg [⟨(some 138), .mov (.tmp 13), none⟩, ⟨(some 139), .bin .lss (.node []) false (.tmp 138) (.const (.int .i64 0)), none⟩])
 (.cond (.tmp 139)
 (.seq (.reg [⟨(some 4), .mov (.const (.int .i64 (-1))), none⟩])
 (.ret))
 (.skip)))
 (.seq (.reg [⟨(some 140), .mov (.tmp 8), none⟩, ⟨(some 141), .mov (.tmp 13), none⟩, ⟨(some 142), .bin .add (.node []) false (.tmp 140) (.tmp 141), none⟩, ⟨(some 4), .mov (.tmp 142), none⟩])
 (.ret))))
 (.skip))))))))))
/-- internal/stringslite.Index -/
def A.b224 : MCode := .seq (.reg [⟨(some 4), .mov (.const (.int .i64 0)), none⟩])
 (.seq (.reg [⟨(some 14), .mov (.tmp 1), none⟩, ⟨(some 15), .len 0 (.tmp 14), none⟩, ⟨(some 5), .mov (.tmp 15), none⟩])
 (.seq (.block 0 (.seq (.reg [⟨(some 17), .mov (.tmp 5), none⟩, ⟨(some 18), .bin .eql (.prim .int) true (.tmp 17) (.const (.int .i64 0)), none⟩, ⟨(some 19), .mov (.tmp 18), none⟩, ⟨(some 20), .mov (.tmp 1), (some (19, false))⟩, ⟨(some 21), .mov (.tmp 0), (some (19, false))⟩, ⟨(some 22), .bin .eql (.prim .str) false (.tmp 20) (.tmp 21), (some (19, false))⟩, ⟨(some 23), .pick (.tmp 19) (.const (.bool true)) (.tmp 22), none⟩, ⟨(some 16), .mov (.tmp 23), none⟩])
 (.cond (.tmp 16)
 (.seq (.reg [⟨(some 4), .mov (.const (.int .i64 0)), none⟩])
 (.ret))
 (.seq (.reg [⟨(some 25), .mov (.tmp 5), none⟩, ⟨(some 26), .bin .eql (.prim .int) true (.tmp 25) (.const (.int .i64 1)), none⟩, ⟨(some 24), .mov (.tmp 26), none⟩])
 (.cond (.tmp 24)
 (.seq (.reg [⟨(some 27), .mov (.tmp 0), none⟩, ⟨(some 28), .mov (.tmp 1), none⟩, ⟨(some 29), .idxStr (.tmp 28) (.const (.int .i64 0)), none⟩, ⟨(some 30), .call (.const (.func 254 [] [])) [(.tmp 27), (.tmp 29)], none⟩, ⟨(some 4), .mov (.tmp 30), none⟩])
 (.ret))
 (.seq (.reg [⟨(some 32), .mov (.tmp 5), none⟩, ⟨(some 33), .mov (.tmp 0), none⟩, ⟨(some 34), .len 0 (.tmp 33), none⟩, ⟨(some 35), .bin .geq (.node []) false (.tmp 32) (.tmp 34), none⟩, ⟨(some 31), .mov (.tmp 35), none⟩])
 (.cond (.tmp 31)
 (.seq (.reg [⟨(some 4), .mov (.const (.int .i64 (-1))), none⟩])
 (.ret))
 (.seq (.reg [⟨(some 37), .mov (.tmp 5), none⟩, ⟨(some 38), .load none (.const (.ptr 0 0)), none⟩, ⟨(some 39), .bin .leq (.node []) false (.tmp 37) (.tmp 38), none⟩, ⟨(some 40), .mov (.tmp 39), none⟩, ⟨(some 41), .mov (.tmp 0), (some (40, true))⟩, ⟨(some 42), .len 0 (.tmp 41), (some (40, true))⟩, ⟨(some 43), .bin .leq (.node []) false (.tmp 42) (.const (.int .i64 64)), (some (40, true))⟩, ⟨(some 44), .pick (.tmp 40) (.tmp 43) (.const (.bool false)), none⟩, ⟨(some 36), .mov (.tmp 44), none⟩])
 (.cond (.tmp 36)
 (.seq (.reg [⟨(some 45), .mov (.tmp 0), none⟩, ⟨(some 46), .mov (.tmp 1), none⟩, ⟨(some 47), .stop, none⟩, ⟨(some 4), .mov (.tmp 47), none⟩])
 (.ret))
 (.skip))))))))))
 (.seq (.reg [⟨(some 48), .mov (.tmp 1), none⟩, ⟨(some 49), .idxStr (.tmp 48) (.const (.int .i64 0)), none⟩, ⟨(some 6), .mov (.tmp 49), none⟩])
 (.seq (.reg [⟨(some 50), .mov (.tmp 1), none⟩, ⟨(some 51), .idxStr (.tmp 50) (.const (.int .i64 1)), none⟩, ⟨(some 7), .mov (.tmp 51), none⟩])
 (.seq (.reg [⟨(some 8), .mov (.const (.int .i64 0)), none⟩])
 (.seq (.reg [⟨(some 52), .mov (.tmp 0), none⟩, ⟨(some 53), .len 0 (.tmp 52), none⟩, ⟨(some 54), .mov (.tmp 5), none⟩, ⟨(some 55), .bin .sub (.node []) false (.tmp 53) (.tmp 54), none⟩, ⟨(some 56), .bin .add (.node []) false (.tmp 55) (.const (.int .i64 1)), none⟩, ⟨(some 9), .mov (.tmp 56), none⟩])
 (.seq (.reg [⟨(some 10), .mov (.const (.int .i64 0)), none⟩])
 (.seq (.block 1 (.loop A.lb224_0))
 (.seq (.reg [⟨(some 4), .mov (.const (.int .i64 (-1))), none⟩])
 (.ret))))))))))
theorem A.c224 : cFunc Tryz.prog 224 = some ⟨143, [.tmp 4], A.b224⟩ := by kernel_rfl
theorem A.k224 {K : List Kf} {Q : Rs → Prop} {f c args : List V} {st : St} (h : (f ++ args ++ c).length ≤ 143) : Run A.C K (valR (A.C.call (.func 224 f c) args st)) Q ↔ Run A.C (.fin [.tmp 4] st :: K) (exR (A.C.code none A.b224 ⟨setRegs .nil 0 (f ++ args ++ c), 143, []⟩ ⟨st.h, st.n, []⟩)) Q := run_func (A.x0 (f := 224) (by decide)) (mf := ⟨143, [.tmp 4], A.b224⟩) (by rw [A.t]; exact A.c224) h
/-- internal/stringslite.Cut -/
def A.b184 : MCode := .seq (.reg [⟨(some 4), .mov (.const (.str [])), none⟩, ⟨(some 5), .mov (.const (.str [])), none⟩, ⟨(some 6), .mov (.const (.bool false)), none⟩])
 (.seq (.seq (.reg [⟨(some 8), .mov (.tmp 0), none⟩, ⟨(some 9), .mov (.tmp 1), none⟩, ⟨(some 10), .call (.const (.func 224 [] [])) [(.tmp 8), (.tmp 9)], none⟩, ⟨(some 7), .mov (.tmp 10), none⟩])
 (.seq (.reg [⟨(some 11), .mov (.tmp 7), none⟩, ⟨(some 12), .bin .geq (.node []) false (.tmp 11) (.const (.int .i64 0)), none⟩])
 (.cond (.tmp 12)
 (.seq (.regD [⟨(some 13), .mov (.tmp 0), none⟩, ⟨(some 14), .mov (.tmp 7), none⟩, ⟨(some 15), .sliceStr (.tmp 13) none (some (.tmp 14)), none⟩, ⟨(some 16), .mov (.tmp 0), none⟩, ⟨(some 17), .mov (.tmp 7), none⟩, ⟨(some 18), .mov (.tmp 1), none⟩, ⟨(some 19), .len 0 (.tmp 18), none⟩, ⟨(some 20), .bin .add (.node []) false (.tmp 17) (.tmp 19), none⟩, ⟨(some 21), .sliceStr (.tmp 16) (some (.tmp 20)) none, none⟩, ⟨(some 4), .mov (.tmp 15), none⟩, ⟨(some 5), .mov (.tmp 21), none⟩, ⟨(some 6), .mov (.const (.bool true)), none⟩] [0, 0, 3, 0, 0, 0, 32, 112, 248, 7, 1023, 2047])
 (.ret))
 (.skip))))
 (.seq (.reg [⟨(some 22), .mov (.tmp 0), none⟩, ⟨(some 4), .mov (.tmp 22), none⟩, ⟨(some 5), .mov (.const (.str [])), none⟩, ⟨(some 6), .mov (.const (.bool false)), none⟩])
 (.ret)))
theorem A.c184 : cFunc Tryz.prog 184 = some ⟨23, [.tmp 4, .tmp 5, .tmp 6], A.b184⟩ := by kernel_rfl
theorem A.k184 {K : List Kf} {Q : Rs → Prop} {f c args : List V} {st : St} (h : (f ++ args ++ c).length ≤ 23) : Run A.C K (valR (A.C.call (.func 184 f c) args st)) Q ↔ Run A.C (.fin [.tmp 4, .tmp 5, .tmp 6] st :: K) (exR (A.C.code none A.b184 ⟨setRegs .nil 0 (f ++ args ++ c), 23, []⟩ ⟨st.h, st.n, []⟩)) Q := run_func (A.x0 (f := 184) (by decide)) (mf := ⟨23, [.tmp 4, .tmp 5, .tmp 6], A.b184⟩) (by rw [A.t]; exact A.c184) h
/-- strings.Cut -/
def A.b147 : MCode := .seq (.reg [⟨(some 4), .mov (.const (.str [])), none⟩, ⟨(some 5), .mov (.const (.str [])), none⟩, ⟨(some 6), .mov (.const (.bool false)), none⟩])
 (.seq (.reg [⟨(some 7), .mov (.tmp 0), none⟩, ⟨(some 8), .mov (.tmp 1), none⟩, ⟨(some 9), .call (.const (.func 184 [] [])) [(.tmp 7), (.tmp 8)], none⟩, ⟨(some 10), .extract (.tmp 9) 0, none⟩, ⟨(some 11), .extract (.tmp 9) 1, none⟩, ⟨(some 12), .extract (.tmp 9) 2, none⟩, ⟨(some 4), .mov (.tmp 10), none⟩, ⟨(some 5), .mov (.tmp 11), none⟩, ⟨(some 6), .mov (.tmp 12), none⟩])
 (.ret))
theorem A.c147 : cFunc Tryz.prog 147 = some ⟨13, [.tmp 4, .tmp 5, .tmp 6], A.b147⟩ := by kernel_rfl
theorem A.k147 {K : List Kf} {Q : Rs → Prop} {f c args : List V} {st : St} (h : (f ++ args ++ c).length ≤ 13) : Run A.C K (valR (A.C.call (.func 147 f c) args st)) Q ↔ Run A.C (.fin [.tmp 4, .tmp 5, .tmp 6] st :: K) (exR (A.C.code none A.b147 ⟨setRegs .nil 0 (f ++ args ++ c), 13, []⟩ ⟨st.h, st.n, []⟩)) Q := run_func (A.x0 (f := 147) (by decide)) (mf := ⟨13, [.tmp 4, .tmp 5, .tmp 6], A.b147⟩) (by rw [A.t]; exact A.c147) h

theorem hasPrefix0_eq {s : Str} {st : St} : A.C.call (.func 223 [] []) [.str s, .str [45]] st = some (.bool (negS s), st) := by
  apply Call.eq
  rw [call_run, A.k223 (by simp)]
  cases s with
  | nil => simp [A.b223, negS]
  | cons c s =>
    have e : (([c] : Str) == [45]) = decide (c.toNat = 45) := by
      rw [Bool.eq_iff_iff]
      simp only [beq_iff_eq, decide_eq_true_eq, List.cons.injEq, and_true]
      exact ⟨fun h => by rw [h]; rfl, fun h => UInt8.toNat_inj.1 h⟩
    have h1 : (1 : Int) ≤ (s.length : Int) + 1 := by omega
    simp (disch := first | (simp; done) | omega | (simp only [dg_length, dgi_length, List.length_cons]; omega) | rfl) [-getElem?_pos, List.getElem?_cons_zero, List.getElem?_cons_succ, A.b223, negS, evOpt, e, h1]
theorem cutPrefix_eq {s : Str} {st : St} : A.C.call (.func 146 [] []) [.str s, .str [45]] st = some (.tup [.str (bodyS s), .bool (negS s)], st) := by
  apply Call.eq
  rw [call_run, A.k146 (by simp)]
  simp [A.b146]
  rw [A.k183 (by simp)]
  by_cases hn : negS s = true
  · have h1 : 1 ≤ s.length := by cases s <;> simp [negS] at hn ⊢
    have h1' : (1 : Int) ≤ s.length := by omega
    simp (disch := first | (simp; done) | omega | (simp only [dg_length, dgi_length, List.length_cons]; omega) | rfl) [-getElem?_pos, List.getElem?_cons_zero, List.getElem?_cons_succ, A.b183, hasPrefix0_eq, hn, evOpt, h1', bodyS]
  · simp (disch := first | (simp; done) | omega | (simp only [dg_length, dgi_length, List.length_cons]; omega) | rfl) [-getElem?_pos, List.getElem?_cons_zero, List.getElem?_cons_succ, A.b183, hasPrefix0_eq, hn, bodyS]
theorem trimPrefix_eq {s : Str} {st : St} : A.C.call (.func 190 [] []) [.str s, .str [45]] st = some (.str (bodyS s), st) := by
  apply Call.eq
  rw [call_run, A.k190 (by simp)]
  simp [A.b190]
  rw [A.k232 (by simp)]
  by_cases hn : negS s = true
  · have h1 : 1 ≤ s.length := by cases s <;> simp [negS] at hn ⊢
    have h1' : (1 : Int) ≤ s.length := by omega
    simp (disch := first | (simp; done) | omega | (simp only [dg_length, dgi_length, List.length_cons]; omega) | rfl) [-getElem?_pos, List.getElem?_cons_zero, List.getElem?_cons_succ, A.b232, hasPrefix0_eq, hn, evOpt, h1', bodyS]
  · simp (disch := first | (simp; done) | omega | (simp only [dg_length, dgi_length, List.length_cons]; omega) | rfl) [-getElem?_pos, List.getElem?_cons_zero, List.getElem?_cons_succ, A.b232, hasPrefix0_eq, hn, bodyS]
theorem hasPrefix_eq {s : Str} {st : St} : A.C.call (.func 189 [] []) [.str s, .str [45]] st = some (.bool (negS s), st) := by
  apply Call.eq
  rw [call_run, A.k189 (by simp)]
  simp (disch := first | (simp; done) | omega | (simp only [dg_length, dgi_length, List.length_cons]; omega) | rfl) [-getElem?_pos, List.getElem?_cons_zero, List.getElem?_cons_succ, A.b189, hasPrefix0_eq]
theorem indexByte_eq {s : Str} {st : St} : A.C.call (.func 254 [] []) [.str s, .int .u8 47] st = some (.int .i64 (if slashAt s < s.length then (slashAt s : Int) else -1), st) := by
  apply Call.eq
  rw [call_run, A.k254 (by simp)]
  have e := idxByte_slash s 0
  simp only [Nat.zero_add] at e
  simp (disch := first | (simp; done) | omega | (simp only [dg_length, dgi_length, List.length_cons]; omega) | rfl) [-getElem?_pos, List.getElem?_cons_zero, List.getElem?_cons_succ, A.b254, extK, extV, e]
theorem index_eq {s : Str} {st : St} : A.C.call (.func 224 [] []) [.str s, .str [47]] st = some (.int .i64 (if slashAt s < s.length then (slashAt s : Int) else -1), st) := by
  apply Call.eq
  rw [call_run, A.k224 (by simp)]
  by_cases hs : s = [47]
  · subst hs
    simp (disch := first | (simp; done) | omega | (simp only [dg_length, dgi_length, List.length_cons]; omega) | rfl) [-getElem?_pos, List.getElem?_cons_zero, List.getElem?_cons_succ, A.b224, eqPrim, slashAt]
  · have e1 : (([47] : Str) == s) = false := by simp; exact fun h => hs h.symm
    have e2 : u8I 47 = 47 := rfl
    simp (disch := first | (simp; done) | omega | (simp only [dg_length, dgi_length, List.length_cons]; omega) | rfl) [-getElem?_pos, List.getElem?_cons_zero, List.getElem?_cons_succ, A.b224, eqPrim, indexByte_eq, e1, e2]
theorem cut_eq {s : Str} {st : St} (hl : s.length < 4611686018427387904) : A.C.call (.func 147 [] []) [.str s, .str [47]] st = some (.tup [.str (s.take (slashAt s)), .str (s.drop (slashAt s + 1)), .bool (decide (slashAt s < s.length))], st) := by
  apply Call.eq
  rw [call_run, A.k147 (by simp)]
  simp [A.b147]
  rw [A.k184 (by simp)]
  have hle := slashAt_le s
  by_cases hs : slashAt s < s.length
  · simp (disch := first | (simp; done) | omega | (simp only [dg_length, dgi_length, List.length_cons]; omega) | rfl) [-getElem?_pos, List.getElem?_cons_zero, List.getElem?_cons_succ, A.b184, index_eq, hs, evOpt]
    try omega
  · have : s.take (slashAt s) = s := List.take_of_length_le (by omega)
    have h2 : s.drop (slashAt s + 1) = [] := List.drop_eq_nil_of_le (by omega)
    simp (disch := first | (simp; done) | omega | (simp only [dg_length, dgi_length, List.length_cons]; omega) | rfl) [-getElem?_pos, List.getElem?_cons_zero, List.getElem?_cons_succ, A.b184, index_eq, hs, this, h2]

end Go.Mx
