/-
  strings.Trim of digits, isDecimal.
-/
import Derived.Test.YtgbhkladhegceaaGreatDoorPaP
set_option linter.all false
namespace Go.Mx
open Go Go.Proofs
set_option maxRecDepth 1000000
set_option linter.unusedSimpArgs false
set_option linter.unusedVariables false
/-- strings.Trim -/
def A.b185 : MCode := .seq (.reg [⟨(some 4), .mov (.const (.str [])), none⟩])
 (.seq (.seq (.reg [⟨(some 7), .mov (.tmp 0), none⟩, ⟨(some 8), .bin .eql (.prim .str) true (.tmp 7) (.const (.str [])), none⟩, ⟨(some 9), .mov (.tmp 8), none⟩, ⟨(some 10), .mov (.tmp 1), (some (9, false))⟩, ⟨(some 11), .bin .eql (.prim .str) true (.tmp 10) (.const (.str [])), (some (9, false))⟩, ⟨(some 12), .pick (.tmp 9) (.const (.bool true)) (.tmp 11), none⟩])
 (.cond (.tmp 12)
 (.seq (.reg [⟨(some 13), .mov (.tmp 0), none⟩, ⟨(some 4), .mov (.tmp 13), none⟩])
 (.ret))
 (.skip)))
 (.seq (.seq (.reg [⟨(some 14), .mov (.tmp 1), none⟩, ⟨(some 15), .len 0 (.tmp 14), none⟩, ⟨(some 16), .bin .eql (.prim .int) true (.tmp 15) (.const (.int .i64 1)), none⟩, ⟨(some 17), .mov (.tmp 16), none⟩, ⟨(some 18), .mov (.tmp 1), (some (17, true))⟩, ⟨(some 19), .idxStr (.tmp 18) (.const (.int .i64 0)), (some (17, true))⟩, ⟨(some 20), .bin .lss (.node []) false (.tmp 19) (.const (.int .u8 128)), (some (17, true))⟩, ⟨(some 21), .pick (.tmp 17) (.tmp 20) (.const (.bool false)), none⟩])
 (.cond (.tmp 21)
 (.seq (.regD [⟨(some 22), .mov (.tmp 0), none⟩, ⟨(some 23), .mov (.tmp 1), none⟩, ⟨(some 24), .idxStr (.tmp 23) (.const (.int .i64 0)), none⟩, ⟨(some 25), .call (.const (.func 226 [] [])) [(.tmp 22), (.tmp 24)], none⟩, ⟨(some 26), .mov (.tmp 1), none⟩, ⟨(some 27), .idxStr (.tmp 26) (.const (.int .i64 0)), none⟩, ⟨(some 28), .call (.const (.func 225 [] [])) [(.tmp 25), (.tmp 27)], none⟩, ⟨(some 4), .mov (.tmp 28), none⟩] [0, 0, 2, 7, 0, 16, 63, 127])
 (.ret))
 (.skip)))
 (.seq (.seq (.reg [⟨(some 30), .mov (.tmp 1), none⟩, ⟨(some 31), .call (.const (.func 227 [] [])) [(.tmp 30)], none⟩, ⟨(some 29), .mov (.tmp 31), none⟩, ⟨(some 32), .extract (.tmp 29) 0, none⟩, ⟨(some 33), .extract (.tmp 29) 1, none⟩, ⟨(some 5), .alloc (aset 0) 317, none⟩, ⟨none, .store 256 (.tmp 5) (.tmp 32), none⟩, ⟨(some 6), .mov (.tmp 33), none⟩])
 (.seq (.reg [⟨(some 34), .mov (.tmp 6), none⟩])
 (.cond (.tmp 34)
 (.seq (.reg [⟨(some 35), .mov (.tmp 0), none⟩, ⟨(some 36), .call (.const (.func 229 [] [])) [(.tmp 35), (.tmp 5)], none⟩, ⟨(some 37), .call (.const (.func 228 [] [])) [(.tmp 36), (.tmp 5)], none⟩, ⟨(some 4), .mov (.tmp 37), none⟩])
 (.ret))
 (.skip))))
 (.seq (.reg [⟨(some 38), .mov (.tmp 0), none⟩, ⟨(some 39), .mov (.tmp 1), none⟩, ⟨(some 40), .call (.const (.func 231 [] [])) [(.tmp 38), (.tmp 39)], none⟩, ⟨(some 41), .mov (.tmp 1), none⟩, ⟨(some 42), .call (.const (.func 230 [] [])) [(.tmp 40), (.tmp 41)], none⟩, ⟨(some 4), .mov (.tmp 42), none⟩])
 (.ret)))))
theorem A.c185 : cFunc Tryz.prog 185 = some ⟨43, [.tmp 4], A.b185⟩ := by kernel_rfl
theorem A.k185 {K : List Kf} {Q : Rs → Prop} {f c args : List V} {st : St} (h : (f ++ args ++ c).length ≤ 43) : Run A.C K (valR (A.C.call (.func 185 f c) args st)) Q ↔ Run A.C (.fin [.tmp 4] st :: K) (exR (A.C.code none A.b185 ⟨setRegs .nil 0 (f ++ args ++ c), 43, []⟩ ⟨st.h, st.n, []⟩)) Q := run_func (A.x0 (f := 185) (by decide)) (mf := ⟨43, [.tmp 4], A.b185⟩) (by rw [A.t]; exact A.c185) h
def A.lb227_0 : MCode := .seq (.seq (.reg [⟨(some 6), .mov (.tmp 4), none⟩, ⟨(some 7), .mov (.tmp 0), none⟩, ⟨(some 8), .len 0 (.tmp 7), none⟩, ⟨(some 9), .bin .lss (.node []) false (.tmp 6) (.tmp 8), none⟩])
 (.cond (.tmp 9)
 (.skip)
 (.exit 0)))
 (.seq (.block 1 (.seq (.reg [⟨(some 12), .mov (.tmp 0), none⟩, ⟨(some 13), .mov (.tmp 4), none⟩, ⟨(some 14), .idxStr (.tmp 12) (.tmp 13), none⟩, ⟨(some 5), .mov (.tmp 14), none⟩])
 (.seq (.seq (.reg [⟨(some 15), .mov (.tmp 5), none⟩, ⟨(some 16), .bin .geq (.node []) false (.tmp 15) (.const (.int .u8 128)), none⟩])
 (.cond (.tmp 16)
 (.seq (.reg [⟨(some 17), .load (some 256) (.tmp 2), none⟩, ⟨none, .store 256 (.tmp 2) (.tmp 17), none⟩, ⟨(some 3), .mov (.const (.bool false)), none⟩])
 (.ret))
 (.skip)))
 (.reg [⟨(some 18), .mov (.tmp 5), none⟩, ⟨(some 19), .iaddrArr 256 1 (.tmp 2) (.tmp 18), none⟩, ⟨none, .store 1 (.tmp 19) (.const (.bool true)), none⟩]))))
 (.reg [⟨(some 10), .mov (.tmp 4), none⟩, ⟨(some 11), .bin .add (.node []) false (.tmp 10) (.const (.int .i64 1)), none⟩, ⟨(some 4), .mov (.tmp 11), none⟩]))
/-- strings.makeASCIISet -/
def A.b227 : MCode := .seq (.reg [⟨(some 2), .alloc (aset 0) 317, none⟩, ⟨(some 3), .mov (.const (.bool false)), none⟩])
 (.seq (.seq (.reg [⟨(some 4), .mov (.const (.int .i64 0)), none⟩])
 (.block 0 (.loop A.lb227_0)))
 (.seq (.reg [⟨(some 20), .load (some 256) (.tmp 2), none⟩, ⟨none, .store 256 (.tmp 2) (.tmp 20), none⟩, ⟨(some 3), .mov (.const (.bool true)), none⟩])
 (.ret)))
theorem A.c227 : cFunc Tryz.prog 227 = some ⟨21, [.cell 2 (some 256), .tmp 3], A.b227⟩ := by kernel_rfl
theorem A.k227 {K : List Kf} {Q : Rs → Prop} {f c args : List V} {st : St} (h : (f ++ args ++ c).length ≤ 21) : Run A.C K (valR (A.C.call (.func 227 f c) args st)) Q ↔ Run A.C (.fin [.cell 2 (some 256), .tmp 3] st :: K) (exR (A.C.code none A.b227 ⟨setRegs .nil 0 (f ++ args ++ c), 21, []⟩ ⟨st.h, st.n, []⟩)) Q := run_func (A.x0 (f := 227) (by decide)) (mf := ⟨21, [.cell 2 (some 256), .tmp 3], A.b227⟩) (by rw [A.t]; exact A.c227) h
def A.lb228_0 : MCode := .seq (.seq (.reg [⟨(some 5), .mov (.tmp 0), none⟩, ⟨(some 6), .len 0 (.tmp 5), none⟩, ⟨(some 7), .bin .gtr (.node []) false (.tmp 6) (.const (.int .i64 0)), none⟩])
 (.cond (.tmp 7)
 (.skip)
 (.exit 0)))
 (.block 1 (.seq (.seq (.reg [⟨(some 8), .mov (.tmp 1), none⟩, ⟨(some 9), .mov (.tmp 0), none⟩, ⟨(some 10), .idxStr (.tmp 9) (.const (.int .i64 0)), none⟩, ⟨(some 11), .call (.const (.func 258 [] [])) [(.tmp 8), (.tmp 10)], none⟩, ⟨(some 12), .un .not (.tmp 11), none⟩])
 (.cond (.tmp 12)
 (.exit 0)
 (.skip)))
 (.reg [⟨(some 13), .mov (.tmp 0), none⟩, ⟨(some 14), .sliceStr (.tmp 13) (some (.const (.int .i64 1))) none, none⟩, ⟨(some 0), .mov (.tmp 14), none⟩])))
/-- strings.trimLeftASCII -/
def A.b228 : MCode := .seq (.reg [⟨(some 4), .mov (.const (.str [])), none⟩])
 (.seq (.block 0 (.loop A.lb228_0))
 (.seq (.reg [⟨(some 15), .mov (.tmp 0), none⟩, ⟨(some 4), .mov (.tmp 15), none⟩])
 (.ret)))
theorem A.c228 : cFunc Tryz.prog 228 = some ⟨16, [.tmp 4], A.b228⟩ := by kernel_rfl
theorem A.k228 {K : List Kf} {Q : Rs → Prop} {f c args : List V} {st : St} (h : (f ++ args ++ c).length ≤ 16) : Run A.C K (valR (A.C.call (.func 228 f c) args st)) Q ↔ Run A.C (.fin [.tmp 4] st :: K) (exR (A.C.code none A.b228 ⟨setRegs .nil 0 (f ++ args ++ c), 16, []⟩ ⟨st.h, st.n, []⟩)) Q := run_func (A.x0 (f := 228) (by decide)) (mf := ⟨16, [.tmp 4], A.b228⟩) (by rw [A.t]; exact A.c228) h
def A.lb229_0 : MCode := .seq (.seq (.reg [⟨(some 5), .mov (.tmp 0), none⟩, ⟨(some 6), .len 0 (.tmp 5), none⟩, ⟨(some 7), .bin .gtr (.node []) false (.tmp 6) (.const (.int .i64 0)), none⟩])
 (.cond (.tmp 7)
 (.skip)
 (.exit 0)))
 (.block 1 (.seq (.seq (.reg [⟨(some 8), .mov (.tmp 1), none⟩, ⟨(some 9), .mov (.tmp 0), none⟩, ⟨(some 10), .mov (.tmp 0), none⟩, ⟨(some 11), .len 0 (.tmp 10), none⟩, ⟨(some 12), .bin .sub (.node []) false (.tmp 11) (.const (.int .i64 1)), none⟩, ⟨(some 13), .idxStr (.tmp 9) (.tmp 12), none⟩, ⟨(some 14), .call (.const (.func 258 [] [])) [(.tmp 8), (.tmp 13)], none⟩, ⟨(some 15), .un .not (.tmp 14), none⟩])
 (.cond (.tmp 15)
 (.exit 0)
 (.skip)))
 (.reg [⟨(some 16), .mov (.tmp 0), none⟩, ⟨(some 17), .mov (.tmp 0), none⟩, ⟨(some 18), .len 0 (.tmp 17), none⟩, ⟨(some 19), .bin .sub (.node []) false (.tmp 18) (.const (.int .i64 1)), none⟩, ⟨(some 20), .sliceStr (.tmp 16) none (some (.tmp 19)), none⟩, ⟨(some 0), .mov (.tmp 20), none⟩])))
/-- strings.trimRightASCII -/
def A.b229 : MCode := .seq (.reg [⟨(some 4), .mov (.const (.str [])), none⟩])
 (.seq (.block 0 (.loop A.lb229_0))
 (.seq (.reg [⟨(some 21), .mov (.tmp 0), none⟩, ⟨(some 4), .mov (.tmp 21), none⟩])
 (.ret)))
theorem A.c229 : cFunc Tryz.prog 229 = some ⟨22, [.tmp 4], A.b229⟩ := by kernel_rfl
theorem A.k229 {K : List Kf} {Q : Rs → Prop} {f c args : List V} {st : St} (h : (f ++ args ++ c).length ≤ 22) : Run A.C K (valR (A.C.call (.func 229 f c) args st)) Q ↔ Run A.C (.fin [.tmp 4] st :: K) (exR (A.C.code none A.b229 ⟨setRegs .nil 0 (f ++ args ++ c), 22, []⟩ ⟨st.h, st.n, []⟩)) Q := run_func (A.x0 (f := 229) (by decide)) (mf := ⟨22, [.tmp 4], A.b229⟩) (by rw [A.t]; exact A.c229) h
/-- (*strings.asciiSet).contains -/
def A.b258 : MCode := .seq (.reg [⟨(some 4), .mov (.const (.bool false)), none⟩])
 (.seq (.reg [⟨(some 5), .mov (.tmp 0), none⟩, ⟨(some 6), .mov (.tmp 1), none⟩, ⟨(some 7), .nilck (.tmp 5), none⟩, ⟨(some 8), .iaddrArr 256 1 (.tmp 7) (.tmp 6), none⟩, ⟨(some 9), .load none (.tmp 8), none⟩, ⟨(some 4), .mov (.tmp 9), none⟩])
 (.ret))
theorem A.c258 : cFunc Tryz.prog 258 = some ⟨10, [.tmp 4], A.b258⟩ := by kernel_rfl
theorem A.k258 {K : List Kf} {Q : Rs → Prop} {f c args : List V} {st : St} (h : (f ++ args ++ c).length ≤ 10) : Run A.C K (valR (A.C.call (.func 258 f c) args st)) Q ↔ Run A.C (.fin [.tmp 4] st :: K) (exR (A.C.code none A.b258 ⟨setRegs .nil 0 (f ++ args ++ c), 10, []⟩ ⟨st.h, st.n, []⟩)) Q := run_func (A.x0 (f := 258) (by decide)) (mf := ⟨10, [.tmp 4], A.b258⟩) (by rw [A.t]; exact A.c258) h
/-- lenslet/number.isDecimal -/
def A.b148 : MCode := .seq (.reg [⟨(some 2), .mov (.const (.bool false)), none⟩])
 (.seq (.reg [⟨(some 3), .mov (.tmp 0), none⟩, ⟨(some 4), .bin .neq (.prim .str) true (.tmp 3) (.const (.str [])), none⟩, ⟨(some 5), .mov (.tmp 4), none⟩, ⟨(some 6), .mov (.tmp 0), (some (5, true))⟩, ⟨(some 7), .call (.const (.func 185 [] [])) [(.tmp 6), (.const (.str [48, 49, 50, 51, 52, 53, 54, 55, 56, 57]))], (some (5, true))⟩, ⟨(some 8), .bin .eql (.prim .str) true (.tmp 7) (.const (.str [])), (some (5, true))⟩, ⟨(some 9), .pick (.tmp 5) (.tmp 8) (.const (.bool false)), none⟩, ⟨(some 10), .mov (.tmp 9), none⟩, ⟨(some 11), .mov (.tmp 0), (some (10, true))⟩, ⟨(some 12), .idxStr (.tmp 11) (.const (.int .i64 0)), (some (10, true))⟩, ⟨(some 13), .bin .neq (.prim .int) true (.tmp 12) (.const (.int .u8 48)), (some (10, true))⟩, ⟨(some 14), .mov (.tmp 13), (some (10, true))⟩, ⟨(some 15), .mov (.tmp 0), (some (14, false))⟩, ⟨(some 16), .bin .eql (.prim .str) true (.tmp 15) (.const (.str [48])), (some (14, false))⟩, ⟨(some 17), .pick (.tmp 14) (.const (.bool true)) (.tmp 16), (some (10, true))⟩, ⟨(some 18), .pick (.tmp 10) (.tmp 17) (.const (.bool false)), none⟩, ⟨(some 2), .mov (.tmp 18), none⟩])
 (.ret))
theorem A.c148 : cFunc Tryz.prog 148 = some ⟨19, [.tmp 2], A.b148⟩ := by kernel_rfl
theorem A.k148 {K : List Kf} {Q : Rs → Prop} {f c args : List V} {st : St} (h : (f ++ args ++ c).length ≤ 19) : Run A.C K (valR (A.C.call (.func 148 f c) args st)) Q ↔ Run A.C (.fin [.tmp 2] st :: K) (exR (A.C.code none A.b148 ⟨setRegs .nil 0 (f ++ args ++ c), 19, []⟩ ⟨st.h, st.n, []⟩)) Q := run_func (A.x0 (f := 148) (by decide)) (mf := ⟨19, [.tmp 2], A.b148⟩) (by rw [A.t]; exact A.c148) h

theorem makeSet_fn {h : T O} {N : Nat} : Fn A.C 227 [(.str [48, 49, 50, 51, 52, 53, 54, 55, 56, 57])] h N (fun v _ _ => v = .tup [.agg (aset 10), .bool true]) := by
  intro w
  rw [call_run, A.k227 (by simp)]
  simp [A.b227]
  refine run_loopD [(3, 19)] (fun e r st => e = .exit 0 ∧ st.n = N + 1 ∧ oldIds N st.w = [] ∧ Keeps h N st.h (N + 1) ∧ st.h.get N = some (.cells (aset 10) 317 true)) (fun m r st => st.n = N + 1 ∧ oldIds N st.w = [] ∧ Keeps h N st.h (N + 1) ∧ ∃ k, m = 10 - k ∧ k ≤ 10 ∧ r.get 4 = some (.int .i64 k) ∧ st.h.get N = some (.cells (aset k) 317 true)) 10 ?_ ?_ ?_
  · exact ⟨rfl, rfl, (Keeps.refl.set (Nat.le_refl _)).up (by omega), 0, by omega, by omega, by simp, by simp⟩
  · rintro m r ⟨H, n1, W⟩ hr hf ⟨hn, hW, hK, k, rfl, hk, h4, hrow⟩
    simp only at hn hW hK hrow
    subst hn
    rw [code_run]
    by_cases hlt : k < 10
    · obtain ⟨c, hc, hcu⟩ := digs_get hlt
      unfold digs at hc
      have a1 : ¬ 128 ≤ u8I c := by omega
      have a2 : u8I c < 256 := by omega
      have a3 : 0 ≤ u8I c := by omega
      have a4 : (u8I c).toNat = 48 + k := by omega
      have hlt' : (k : Int) < 10 := by omega
      have hs := aset_set hlt
      have q1 := aset_len k
      simp (disch := first | (simp; done) | omega | (simp only [dg_length, dgi_length, List.length_cons]; omega) | rfl) [-getElem?_pos, List.getElem?_cons_zero, List.getElem?_cons_succ, A.lb227_0, hr, hf, h4, hlt', hc, a1, a2, a3, a4, hs, hrow, hW]
      exact ⟨_, by omega, hK.set (Nat.le_refl N), k + 1, rfl, by omega, by simp, rfl⟩
    · have : k = 10 := by omega
      subst this
      simp (disch := first | (simp; done) | omega | (simp only [dg_length, dgi_length, List.length_cons]; omega) | rfl) [-getElem?_pos, List.getElem?_cons_zero, List.getElem?_cons_succ, A.lb227_0, hr, hf, h4, hrow, hW]
      exact hK
  · rintro e r ⟨H, n1, W⟩ hr ⟨rfl, hn, hW, hK, hrow⟩
    simp only at hn hW hK hrow
    subst hn
    have q1 := aset_len 10
    simp (disch := first | (simp; done) | omega | (simp only [dg_length, dgi_length, List.length_cons]; omega) | rfl) [-getElem?_pos, List.getElem?_cons_zero, List.getElem?_cons_succ, hr, Ret, hW, hrow, partV, slc, aset_len, aset_one]
    exact hK.set (Nat.le_refl N)
theorem contains_eq {c : UInt8} {h : T O} {N i : Nat} {w : List Nat} {e : TypeId} {rw : Bool} (hr : h.get i = some (.cells (aset 10) e rw)) : A.C.call (.func 258 [] []) [.ptr i 0, .int .u8 (u8I c)] ⟨h, N, w⟩ = some (.bool (digC c), ⟨h, N, w⟩) := by
  apply Call.eq
  rw [call_run, A.k258 (by simp)]
  have hu := u8I_range c
  have e2 : (aset 10)[(u8I c).toNat]? = some (.bool (digC c)) := by
    rw [aset_get (by omega), digC_u]
    congr 2
    rw [decide_eq_decide]; omega
  simp (disch := first | (simp; done) | omega | (simp only [dg_length, dgi_length, List.length_cons]; omega) | rfl) [-getElem?_pos, List.getElem?_cons_zero, List.getElem?_cons_succ, A.b258, hr, hu, e2]
theorem dig_last {s : Str} {k : Nat} {c : UInt8} (hl : s.length = k + 1) (hc : s[k]? = some c) : allD s = (allD (s.take k) && digC c) := by
  unfold allD
  have : s = s.take k ++ [c] := by
    conv => lhs; rw [← List.take_append_drop k s]
    rw [get_drop_cons hc, List.drop_eq_nil_of_le (by omega)]
  conv => lhs; rw [this]
  simp
theorem dig_first {s : Str} {c : UInt8} (hc : s[0]? = some c) : allD s = (digC c && allD (s.drop 1)) := by
  cases s with
  | nil => simp at hc
  | cons d s => simp at hc; subst hc; rfl
theorem dig_none {s : Str} {k : Nat} {c : UInt8} (hc : s[k]? = some c) (hd : digC c = false) : allD s = false := by
  unfold allD
  rw [List.all_eq_false]
  exact ⟨c, List.mem_of_getElem? hc, by simp [hd]⟩
def TrimP (s : Str) (v : V) : Prop := ∃ t : Str, v = .str t ∧ t.length ≤ s.length ∧ allD t = allD s ∧ (allD s = true → t = [])
theorem trimRight_fn {s : Str} {h : T O} {N i : Nat} {e : TypeId} {rw : Bool} (hr0 : h.get i = some (.cells (aset 10) e rw)) (hl : s.length < 4611686018427387904) : Fn A.C 229 [.str s, .ptr i 0] h N (fun v _ _ => TrimP s v) := by
  intro w
  rw [call_run, A.k229 (by simp)]
  simp [A.b229]
  refine run_loopD [(0, 0), (5, 20)] (fun e r st => e = .exit 0 ∧ st = ⟨h, N, []⟩ ∧ ∃ t : Str, r.get 0 = some (.str t) ∧ t.length ≤ s.length ∧ allD t = allD s ∧ (allD s = true → t = [])) (fun m r st => st = ⟨h, N, []⟩ ∧ ∃ t : Str, m = t.length ∧ t.length ≤ s.length ∧ r.get 0 = some (.str t) ∧ allD t = allD s) s.length ?_ ?_ ?_
  · exact ⟨rfl, s, rfl, by omega, by simp, rfl⟩
  · rintro m r _ hr hf ⟨rfl, t, rfl, hle, h0, ht⟩
    rw [code_run]
    by_cases hz : t.length = 0
    · have : t = [] := List.eq_nil_of_length_eq_zero hz
      subst this
      simp (disch := first | (simp; done) | omega | (simp only [dg_length, dgi_length, List.length_cons]; omega) | rfl) [-getElem?_pos, List.getElem?_cons_zero, List.getElem?_cons_succ, A.lb229_0, hr, hf, h0, ht]
    · obtain ⟨k, hk⟩ : ∃ k, t.length = k + 1 := ⟨t.length - 1, by omega⟩
      obtain ⟨c, hc⟩ := get_of_lt (l := t) (k := k) (by omega)
      have hk' : (t.length : Int) = k + 1 := by omega
      have hk0 : (0 : Int) < (k : Int) + 1 := by omega
      have hk1 : (k : Int) + 1 - 1 = k := by omega
      have hcon := fun w => contains_eq (c := c) (N := N) (w := w) hr0
      by_cases hd : digC c = true
      · simp (disch := first | (simp; done) | omega | (simp only [dg_length, dgi_length, List.length_cons]; omega) | rfl) [-getElem?_pos, List.getElem?_cons_zero, List.getElem?_cons_succ, A.lb229_0, hr, hf, h0, hk', hk0, hk1, hc, hcon, hd, evOpt]
        exact ⟨k, by omega, t.take k, by simp; omega, by simp; omega, rfl, by rw [← ht, dig_last hk hc, hd]; simp⟩
      · have hd : digC c = false := by simpa using hd
        simp (disch := first | (simp; done) | omega | (simp only [dg_length, dgi_length, List.length_cons]; omega) | rfl) [-getElem?_pos, List.getElem?_cons_zero, List.getElem?_cons_succ, A.lb229_0, hr, hf, h0, hk', hk0, hk1, hc, hcon, hd, evOpt]
        have hq := dig_none hc hd
        rw [ht] at hq
        simp [hq, hle]
        rw [ht]; exact hq
  · rintro _ r _ hr ⟨rfl, rfl, t, h0, hle, ht, he⟩
    simp (disch := first | (simp; done) | omega | (simp only [dg_length, dgi_length, List.length_cons]; omega) | rfl) [-getElem?_pos, List.getElem?_cons_zero, List.getElem?_cons_succ, hr, h0, Ret, TrimP]
    exact ⟨Keeps.refl, hle, ht, he⟩
theorem trimLeft_fn {s : Str} {h : T O} {N i : Nat} {e : TypeId} {rw : Bool} (hr0 : h.get i = some (.cells (aset 10) e rw)) (hl : s.length < 4611686018427387904) : Fn A.C 228 [.str s, .ptr i 0] h N (fun v _ _ => TrimP s v) := by
  intro w
  rw [call_run, A.k228 (by simp)]
  simp [A.b228]
  refine run_loopD [(0, 0), (5, 14)] (fun e r st => e = .exit 0 ∧ st = ⟨h, N, []⟩ ∧ ∃ t : Str, r.get 0 = some (.str t) ∧ t.length ≤ s.length ∧ allD t = allD s ∧ (allD s = true → t = [])) (fun m r st => st = ⟨h, N, []⟩ ∧ ∃ t : Str, m = t.length ∧ t.length ≤ s.length ∧ r.get 0 = some (.str t) ∧ allD t = allD s) s.length ?_ ?_ ?_
  · exact ⟨rfl, s, rfl, by omega, by simp, rfl⟩
  · rintro m r _ hr hf ⟨rfl, t, rfl, hle, h0, ht⟩
    rw [code_run]
    by_cases hz : t.length = 0
    · have : t = [] := List.eq_nil_of_length_eq_zero hz
      subst this
      simp (disch := first | (simp; done) | omega | (simp only [dg_length, dgi_length, List.length_cons]; omega) | rfl) [-getElem?_pos, List.getElem?_cons_zero, List.getElem?_cons_succ, A.lb228_0, hr, hf, h0, ht]
    · cases t with
      | nil => simp at hz
      | cons c t =>
        have hk0 : (0 : Int) < (t.length : Int) + 1 := by omega
        have hcon := fun w => contains_eq (c := c) (N := N) (w := w) hr0
        have hdf := dig_first (s := c :: t) (c := c) rfl
        by_cases hd : digC c = true
        · simp (disch := first | (simp; done) | omega | (simp only [dg_length, dgi_length, List.length_cons]; omega) | rfl) [-getElem?_pos, List.getElem?_cons_zero, List.getElem?_cons_succ, A.lb228_0, hr, hf, h0, hk0, hcon, hd, evOpt]
          simp only [List.length_cons] at hle
          rw [hd] at hdf
          exact ⟨t.length, by omega, t, rfl, by omega, rfl, by rw [← ht, hdf]; rfl⟩
        · have hd : digC c = false := by simpa using hd
          simp (disch := first | (simp; done) | omega | (simp only [dg_length, dgi_length, List.length_cons]; omega) | rfl) [-getElem?_pos, List.getElem?_cons_zero, List.getElem?_cons_succ, A.lb228_0, hr, hf, h0, hk0, hcon, hd, evOpt]
          rw [hd] at hdf
          rw [ht] at hdf
          simp only [List.length_cons] at hle
          simp [hdf, hle]
          rw [ht, hdf]; rfl
  · rintro _ r _ hr ⟨rfl, rfl, t, h0, hle, ht, he⟩
    simp (disch := first | (simp; done) | omega | (simp only [dg_length, dgi_length, List.length_cons]; omega) | rfl) [-getElem?_pos, List.getElem?_cons_zero, List.getElem?_cons_succ, hr, h0, Ret, TrimP]
    exact ⟨Keeps.refl, hle, ht, he⟩
theorem trim_fn {s : Str} {h : T O} {N : Nat} (hl : s.length < 4611686018427387904) : Fn A.C 185 [.str s, (.str [48, 49, 50, 51, 52, 53, 54, 55, 56, 57])] h N (fun v _ _ => TrimP s v) := by
  intro w
  rw [call_run, A.k185 (by simp)]
  by_cases he : s = []
  · subst he
    simp (disch := first | (simp; done) | omega | (simp only [dg_length, dgi_length, List.length_cons]; omega) | rfl) [-getElem?_pos, List.getElem?_cons_zero, List.getElem?_cons_succ, A.b185, eqPrim, Ret]
    exact ⟨Keeps.refl, [], rfl, Nat.le_refl _, rfl, fun _ => rfl⟩
  · have e1 : (s == []) = false := by simp [he]
    have e2 : s.isEmpty = false := by simp [he]
    simp (disch := first | (simp; done) | omega | (simp only [dg_length, dgi_length, List.length_cons]; omega) | rfl) [-getElem?_pos, List.getElem?_cons_zero, List.getElem?_cons_succ, A.b185, eqPrim, e1, e2]
    refine run_fn makeSet_fn ?_
    rintro v h1 n1 k1 rfl
    have q1 := aset_len 10
    simp (disch := first | (simp; done) | omega | (simp only [dg_length, dgi_length, List.length_cons]; omega) | rfl) [-getElem?_pos, List.getElem?_cons_zero, List.getElem?_cons_succ, ]
    refine run_fn (trimRight_fn (e := 317) (rw := true) ?_ hl) ?_
    · simp
    rintro v h2 n2 k2 ⟨t, rfl, hle, ht, hte⟩
    have hN1 : h2.get n1 = some (.cells (aset 10) 317 true) := by
      rw [k2.get _ (by omega)]
      simp
    simp (disch := first | (simp; done) | omega | (simp only [dg_length, dgi_length, List.length_cons]; omega) | rfl) [-getElem?_pos, List.getElem?_cons_zero, List.getElem?_cons_succ, ]
    refine run_fn (trimLeft_fn (e := 317) (rw := true) hN1 (by omega)) ?_
    rintro v h3 n3 k3 ⟨u, rfl, hle2, hu, hue⟩
    have kk : Keeps h N h3 n3 := (((k1.set k1.le).set k1.le).up (Nat.le_succ n1)).trans (k2.trans k3)
    simp (disch := first | (simp; done) | omega | (simp only [dg_length, dgi_length, List.length_cons]; omega) | rfl) [-getElem?_pos, List.getElem?_cons_zero, List.getElem?_cons_succ, Ret]
    exact ⟨k1.le, kk, u, rfl, by omega, by rw [hu, ht], fun h => hue (by rw [ht]; exact h)⟩
theorem isDecimal_fn {s : Str} {h : T O} {N : Nat} (hl : s.length < 4611686018427387904) : Fn A.C 148 [.str s] h N (fun v _ _ => v = .bool (isDec s)) := by
  intro w
  rw [call_run, A.k148 (by simp)]
  cases s with
  | nil => simp (disch := first | (simp; done) | omega | (simp only [dg_length, dgi_length, List.length_cons]; omega) | rfl) [-getElem?_pos, List.getElem?_cons_zero, List.getElem?_cons_succ, A.b148, Ret, isDec]; exact Keeps.refl
  | cons c s =>
    simp (disch := first | (simp; done) | omega | (simp only [dg_length, dgi_length, List.length_cons]; omega) | rfl) [-getElem?_pos, List.getElem?_cons_zero, List.getElem?_cons_succ, A.b148]
    refine run_fn (trim_fn hl) ?_
    rintro v h1 n1 k1 ⟨t, rfl, hle, ht, hte⟩
    have hd : isDec (c :: s) = (allD (c :: s) && (decide (u8I c ≠ 48) || decide (s = []))) := by
      have : decide (c.toNat ≠ 48) = decide (u8I c ≠ 48) := by unfold u8I; rw [decide_eq_decide]; omega
      simp only [isDec, this]; rfl
    by_cases ha : allD (c :: s) = true
    · have := hte ha
      subst this
      by_cases h0 : u8I c = 48
      · have hc : c = 48 := by unfold u8I at h0; exact UInt8.toNat_inj.1 (by show c.toNat = 48; omega)
        subst hc
        simp (disch := first | (simp; done) | omega | (simp only [dg_length, dgi_length, List.length_cons]; omega) | rfl) [-getElem?_pos, List.getElem?_cons_zero, List.getElem?_cons_succ, eqPrim, hd, ha, h0, Ret, k1]
        cases s <;> rfl
      · simp (disch := first | (simp; done) | omega | (simp only [dg_length, dgi_length, List.length_cons]; omega) | rfl) [-getElem?_pos, List.getElem?_cons_zero, List.getElem?_cons_succ, eqPrim, hd, ha, h0, Ret, k1]
    · have ha : allD (c :: s) = false := by simpa using ha
      rw [ha] at ht
      have e1 : (t == []) = false := by
        cases t with
        | nil => cases ht
        | cons => rfl
      have e2 : t.isEmpty = false := by
        cases t with
        | nil => cases ht
        | cons => rfl
      simp (disch := first | (simp; done) | omega | (simp only [dg_length, dgi_length, List.length_cons]; omega) | rfl) [-getElem?_pos, List.getElem?_cons_zero, List.getElem?_cons_succ, eqPrim, hd, ha, e1, e2, Ret, k1]

end Go.Mx
