/-
  The seat: its known calls and its functions.
-/
import Derived.Test.YtgbhkladhegceaaGreatDoorMxGr
import Derived.Test.YtgbhkladhegceaaGreatDoorProg
set_option linter.all false
namespace Go.Mx
open Go Go.Proofs
set_option maxRecDepth 1000000
set_option linter.unusedSimpArgs false
set_option linter.unusedVariables false

/-- awake is known; all others are run. -/
noncomputable def A.C : Cx := ⟨pCall [⟨8, [], .bool true⟩], cFunc Tryz.prog⟩
theorem A.t : A.C.tbl = cFunc Tryz.prog := rfl
theorem A.x0 {f : Nat} {a c args : List V} {st : St} (h : Nat.beq 8 f = false) : A.C.x (.func f a c) args st = none := by
  show pCall [⟨8, [], .bool true⟩] (.func f a c) args st = none
  unfold pCall
  split
  · rename_i heq
    simp only [V.func.injEq] at heq
    obtain ⟨rfl, rfl, rfl⟩ := heq
    simp only [pFind, h]
  · rfl

end Go.Mx
/- when, within, isLetter. -/
namespace Go.Mx
open Go Go.Proofs
set_option maxRecDepth 1000000
set_option linter.unusedSimpArgs false
set_option linter.unusedVariables false
/-- lenslet/pipeline.when -/
def A.b50 : MCode := .seq (.reg [⟨(some 4), .mov (.const (.int .i64 0)), none⟩])
 (.seq (.seq (.reg [⟨(some 5), .mov (.tmp 0), none⟩])
 (.cond (.tmp 5)
 (.seq (.reg [⟨(some 6), .mov (.tmp 1), none⟩, ⟨(some 4), .mov (.tmp 6), none⟩])
 (.ret))
 (.skip)))
 (.seq (.reg [⟨(some 4), .mov (.const (.int .i64 0)), none⟩])
 (.ret)))
theorem A.c50 : cFunc Tryz.prog 50 = some ⟨7, [.tmp 4], A.b50⟩ := by kernel_rfl
theorem A.k50 {K : List Kf} {Q : Rs → Prop} {f c args : List V} {st : St} (h : (f ++ args ++ c).length ≤ 7) : Run A.C K (valR (A.C.call (.func 50 f c) args st)) Q ↔ Run A.C (.fin [.tmp 4] st :: K) (exR (A.C.code none A.b50 ⟨setRegs .nil 0 (f ++ args ++ c), 7, []⟩ ⟨st.h, st.n, []⟩)) Q := run_func (A.x0 (f := 50) (by decide)) (mf := ⟨7, [.tmp 4], A.b50⟩) (by rw [A.t]; exact A.c50) h
/-- lenslet/number.when -/
def A.b150 : MCode := .seq (.reg [⟨(some 4), .mov (.const (.int .i64 0)), none⟩])
 (.seq (.seq (.reg [⟨(some 5), .mov (.tmp 0), none⟩])
 (.cond (.tmp 5)
 (.seq (.reg [⟨(some 6), .mov (.tmp 1), none⟩, ⟨(some 4), .mov (.tmp 6), none⟩])
 (.ret))
 (.skip)))
 (.seq (.reg [⟨(some 4), .mov (.const (.int .i64 0)), none⟩])
 (.ret)))
theorem A.c150 : cFunc Tryz.prog 150 = some ⟨7, [.tmp 4], A.b150⟩ := by kernel_rfl
theorem A.k150 {K : List Kf} {Q : Rs → Prop} {f c args : List V} {st : St} (h : (f ++ args ++ c).length ≤ 7) : Run A.C K (valR (A.C.call (.func 150 f c) args st)) Q ↔ Run A.C (.fin [.tmp 4] st :: K) (exR (A.C.code none A.b150 ⟨setRegs .nil 0 (f ++ args ++ c), 7, []⟩ ⟨st.h, st.n, []⟩)) Q := run_func (A.x0 (f := 150) (by decide)) (mf := ⟨7, [.tmp 4], A.b150⟩) (by rw [A.t]; exact A.c150) h
/-- lenslet/pipeline.within -/
def A.b58 : MCode := .seq (.reg [⟨(some 6), .mov (.const (.int .i64 0)), none⟩])
 (.seq (.reg [⟨(some 7), .mov (.tmp 0), none⟩, ⟨(some 8), .mov (.tmp 1), none⟩, ⟨(some 9), .bin .lss (.node []) false (.tmp 7) (.tmp 8), none⟩, ⟨(some 10), .mov (.tmp 9), none⟩, ⟨(some 11), .mov (.tmp 0), (some (10, false))⟩, ⟨(some 12), .mov (.tmp 2), (some (10, false))⟩, ⟨(some 13), .bin .gtr (.node []) false (.tmp 11) (.tmp 12), (some (10, false))⟩, ⟨(some 14), .pick (.tmp 10) (.const (.bool true)) (.tmp 13), none⟩, ⟨(some 15), .call (.const (.func 50 [] [])) [(.tmp 14), (.const (.int .i64 3))], none⟩, ⟨(some 6), .mov (.tmp 15), none⟩])
 (.ret))
theorem A.c58 : cFunc Tryz.prog 58 = some ⟨16, [.tmp 6], A.b58⟩ := by kernel_rfl
theorem A.k58 {K : List Kf} {Q : Rs → Prop} {f c args : List V} {st : St} (h : (f ++ args ++ c).length ≤ 16) : Run A.C K (valR (A.C.call (.func 58 f c) args st)) Q ↔ Run A.C (.fin [.tmp 6] st :: K) (exR (A.C.code none A.b58 ⟨setRegs .nil 0 (f ++ args ++ c), 16, []⟩ ⟨st.h, st.n, []⟩)) Q := run_func (A.x0 (f := 58) (by decide)) (mf := ⟨16, [.tmp 6], A.b58⟩) (by rw [A.t]; exact A.c58) h
/-- lenslet/number.isLetter -/
def A.b156 : MCode := .seq (.reg [⟨(some 2), .mov (.const (.bool false)), none⟩])
 (.seq (.reg [⟨(some 3), .mov (.tmp 0), none⟩, ⟨(some 4), .bin .geq (.node []) false (.tmp 3) (.const (.int .i32 97)), none⟩, ⟨(some 5), .mov (.tmp 4), none⟩, ⟨(some 6), .mov (.tmp 0), (some (5, true))⟩, ⟨(some 7), .bin .leq (.node []) false (.tmp 6) (.const (.int .i32 122)), (some (5, true))⟩, ⟨(some 8), .pick (.tmp 5) (.tmp 7) (.const (.bool false)), none⟩, ⟨(some 9), .mov (.tmp 8), none⟩, ⟨(some 10), .mov (.tmp 0), (some (9, false))⟩, ⟨(some 11), .bin .geq (.node []) false (.tmp 10) (.const (.int .i32 65)), (some (9, false))⟩, ⟨(some 12), .mov (.tmp 11), (some (9, false))⟩, ⟨(some 13), .mov (.tmp 0), (some (12, true))⟩, ⟨(some 14), .bin .leq (.node []) false (.tmp 13) (.const (.int .i32 90)), (some (12, true))⟩, ⟨(some 15), .pick (.tmp 12) (.tmp 14) (.const (.bool false)), (some (9, false))⟩, ⟨(some 16), .pick (.tmp 9) (.const (.bool true)) (.tmp 15), none⟩, ⟨(some 2), .mov (.tmp 16), none⟩])
 (.ret))
theorem A.c156 : cFunc Tryz.prog 156 = some ⟨17, [.tmp 2], A.b156⟩ := by kernel_rfl
theorem A.k156 {K : List Kf} {Q : Rs → Prop} {f c args : List V} {st : St} (h : (f ++ args ++ c).length ≤ 17) : Run A.C K (valR (A.C.call (.func 156 f c) args st)) Q ↔ Run A.C (.fin [.tmp 2] st :: K) (exR (A.C.code none A.b156 ⟨setRegs .nil 0 (f ++ args ++ c), 17, []⟩ ⟨st.h, st.n, []⟩)) Q := run_func (A.x0 (f := 156) (by decide)) (mf := ⟨17, [.tmp 2], A.b156⟩) (by rw [A.t]; exact A.c156) h

theorem when_eq {b : Bool} {e : Int} {st : St} : A.C.call (.func 50 [] []) [.bool b, .int .i64 e] st = some (.int .i64 (if b = true then e else 0), st) := by
  apply Call.eq
  rw [call_run, A.k50 (by simp)]
  cases b <;> simp [A.b50]

theorem nwhen_eq {b : Bool} {e : Int} {st : St} : A.C.call (.func 150 [] []) [.bool b, .int .i64 e] st = some (.int .i64 (if b = true then e else 0), st) := by
  apply Call.eq
  rw [call_run, A.k150 (by simp)]
  cases b <;> simp [A.b150]

theorem within_eq {x lo hi : Int} {st : St} : A.C.call (.func 58 [] []) [.int .i64 x, .int .i64 lo, .int .i64 hi] st = some (.int .i64 (if x < lo ∨ hi < x then 3 else 0), st) := by
  apply Call.eq
  rw [call_run, A.k58 (by simp)]
  by_cases h1 : x < lo
  · simp [A.b58, h1, when_eq]
  · by_cases h2 : hi < x <;> simp [A.b58, h1, h2, when_eq]
theorem isLetter_eq {x : Int} {st : St} : A.C.call (.func 156 [] []) [.int .i32 x] st = some (.bool (letZ x), st) := by
  apply Call.eq
  rw [call_run, A.k156 (by simp)]
  by_cases h1 : 97 ≤ x <;> by_cases h2 : x ≤ 122 <;> by_cases h3 : 65 ≤ x <;> by_cases h4 : x ≤ 90 <;> simp [A.b156, h1, h2, h3, h4, letZ]

end Go.Mx
/- first. -/
namespace Go.Mx
open Go Go.Proofs
set_option maxRecDepth 1000000
set_option linter.unusedSimpArgs false
set_option linter.unusedVariables false
def A.lb49_0 : MCode := .seq (.reg [⟨(some 8), .bin .lss (.node []) false (.tmp 7) (.tmp 6), none⟩])
 (.seq (.cond (.tmp 8)
 (.skip)
 (.exit 0))
 (.seq (.block 1 (.seq (.reg [⟨(some 9), .iaddrSl 1 (.tmp 5) (.tmp 7), none⟩, ⟨(some 10), .load none (.tmp 9), none⟩, ⟨(some 4), .mov (.tmp 10), none⟩])
 (.seq (.reg [⟨(some 11), .mov (.tmp 4), none⟩, ⟨(some 12), .bin .neq (.prim .int) true (.tmp 11) (.const (.int .i64 0)), none⟩])
 (.cond (.tmp 12)
 (.seq (.reg [⟨(some 13), .mov (.tmp 4), none⟩, ⟨(some 2), .mov (.tmp 13), none⟩])
 (.ret))
 (.skip)))))
 (.reg [⟨(some 14), .bin .add (.node []) false (.tmp 7) (.const (.int .i64 1)), none⟩, ⟨(some 7), .mov (.tmp 14), none⟩])))
/-- lenslet/pipeline.first -/
def A.b49 : MCode := .seq (.reg [⟨(some 2), .mov (.const (.int .i64 0)), none⟩])
 (.seq (.seq (.reg [⟨(some 5), .mov (.tmp 0), none⟩, ⟨(some 6), .len 1 (.tmp 5), none⟩, ⟨(some 7), .mov (.const (.int .i64 0)), none⟩])
 (.block 0 (.loop A.lb49_0)))
 (.seq (.reg [⟨(some 2), .mov (.const (.int .i64 0)), none⟩])
 (.ret)))
theorem A.c49 : cFunc Tryz.prog 49 = some ⟨15, [.tmp 2], A.b49⟩ := by kernel_rfl
theorem A.k49 {K : List Kf} {Q : Rs → Prop} {f c args : List V} {st : St} (h : (f ++ args ++ c).length ≤ 15) : Run A.C K (valR (A.C.call (.func 49 f c) args st)) Q ↔ Run A.C (.fin [.tmp 2] st :: K) (exR (A.C.code none A.b49 ⟨setRegs .nil 0 (f ++ args ++ c), 15, []⟩ ⟨st.h, st.n, []⟩)) Q := run_func (A.x0 (f := 49) (by decide)) (mf := ⟨15, [.tmp 2], A.b49⟩) (by rw [A.t]; exact A.c49) h
def A.lb149_0 : MCode := .seq (.reg [⟨(some 8), .bin .lss (.node []) false (.tmp 7) (.tmp 6), none⟩])
 (.seq (.cond (.tmp 8)
 (.skip)
 (.exit 0))
 (.seq (.block 1 (.seq (.reg [⟨(some 9), .iaddrSl 1 (.tmp 5) (.tmp 7), none⟩, ⟨(some 10), .load none (.tmp 9), none⟩, ⟨(some 4), .mov (.tmp 10), none⟩])
 (.seq (.reg [⟨(some 11), .mov (.tmp 4), none⟩, ⟨(some 12), .bin .neq (.prim .int) true (.tmp 11) (.const (.int .i64 0)), none⟩])
 (.cond (.tmp 12)
 (.seq (.reg [⟨(some 13), .mov (.tmp 4), none⟩, ⟨(some 2), .mov (.tmp 13), none⟩])
 (.ret))
 (.skip)))))
 (.reg [⟨(some 14), .bin .add (.node []) false (.tmp 7) (.const (.int .i64 1)), none⟩, ⟨(some 7), .mov (.tmp 14), none⟩])))
/-- lenslet/number.first -/
def A.b149 : MCode := .seq (.reg [⟨(some 2), .mov (.const (.int .i64 0)), none⟩])
 (.seq (.seq (.reg [⟨(some 5), .mov (.tmp 0), none⟩, ⟨(some 6), .len 1 (.tmp 5), none⟩, ⟨(some 7), .mov (.const (.int .i64 0)), none⟩])
 (.block 0 (.loop A.lb149_0)))
 (.seq (.reg [⟨(some 2), .mov (.const (.int .i64 0)), none⟩])
 (.ret)))
theorem A.c149 : cFunc Tryz.prog 149 = some ⟨15, [.tmp 2], A.b149⟩ := by kernel_rfl
theorem A.k149 {K : List Kf} {Q : Rs → Prop} {f c args : List V} {st : St} (h : (f ++ args ++ c).length ≤ 15) : Run A.C K (valR (A.C.call (.func 149 f c) args st)) Q ↔ Run A.C (.fin [.tmp 2] st :: K) (exR (A.C.code none A.b149 ⟨setRegs .nil 0 (f ++ args ++ c), 15, []⟩ ⟨st.h, st.n, []⟩)) Q := run_func (A.x0 (f := 149) (by decide)) (mf := ⟨15, [.tmp 2], A.b149⟩) (by rw [A.t]; exact A.c149) h

theorem first_eq {h : T O} {N : Nat} {v : V} {l : List Int} {w : List Nat} (hs : Sl h N v (dI l)) (hl : l.length < 1000) : A.C.call (.func 49 [] []) [v] ⟨h, N, w⟩ = some (.int .i64 (firstNZ l), ⟨h, N, w⟩) := by
  apply Call.eq
  have hlen := hs.len
  rw [dI_length] at hlen
  rw [call_run, A.k49 (by simp)]
  simp (disch := first | (simp; done) | omega | (simp only [dg_length, dgi_length, List.length_cons]; omega) | rfl) [-getElem?_pos, List.getElem?_cons_zero, List.getElem?_cons_succ, A.b49, hlen]
  refine run_loopD [(2, 2), (4, 4), (7, 14)] (fun e r st => st = ⟨h, N, []⟩ ∧ ((e = .exit 0 ∧ firstNZ l = 0) ∨ (e = .ret ∧ r.get 2 = some (.int .i64 (firstNZ l))))) (fun m r st => st = ⟨h, N, []⟩ ∧ ∃ k, m = l.length - k ∧ k ≤ l.length ∧ r.get 7 = some (.int .i64 k) ∧ firstNZ l = firstNZ (l.drop k)) l.length ?_ ?_ ?_
  · exact ⟨rfl, 0, by omega, by omega, by simp, by simp⟩
  · rintro m r _ hr hf ⟨rfl, k, rfl, hk, h7, hz⟩
    rw [code_run]
    by_cases hlt : k < l.length
    · obtain ⟨c, hc⟩ := get_of_lt hlt
      obtain ⟨i, o, cc, e, rw, q1, q2, q3, q4⟩ := hs.at (dI_get hc)
      rw [get_drop_cons hc, firstNZ] at hz
      have hk1 : (k : Int) < (l.length : Int) := by omega
      by_cases h0 : c = 0
      · rw [if_pos h0] at hz
        simp (disch := first | (simp; done) | omega | (simp only [dg_length, dgi_length, List.length_cons]; omega) | rfl) [-getElem?_pos, List.getElem?_cons_zero, List.getElem?_cons_succ, A.lb49_0, hr, hf, h7, hk1, hlt, hlen, q1, q3, q4, eqPrim, h0]
        exact ⟨_, by omega, k + 1, rfl, by omega, by simp, hz⟩
      · rw [if_neg h0] at hz
        simp (disch := first | (simp; done) | omega | (simp only [dg_length, dgi_length, List.length_cons]; omega) | rfl) [-getElem?_pos, List.getElem?_cons_zero, List.getElem?_cons_succ, A.lb49_0, hr, hf, h7, hk1, hlt, hlen, q1, q3, q4, eqPrim, h0, hz]
    · have : l.drop k = [] := List.drop_eq_nil_of_le (by omega)
      rw [this, firstNZ] at hz
      have : k = l.length := by omega
      subst this
      simp (disch := first | (simp; done) | omega | (simp only [dg_length, dgi_length, List.length_cons]; omega) | rfl) [-getElem?_pos, List.getElem?_cons_zero, List.getElem?_cons_succ, A.lb49_0, hr, hf, h7, hlen, hz]
  · rintro _ r _ hr ⟨rfl, ⟨rfl, hz⟩ | ⟨rfl, h2⟩⟩
    · simp (disch := first | (simp; done) | omega | (simp only [dg_length, dgi_length, List.length_cons]; omega) | rfl) [-getElem?_pos, List.getElem?_cons_zero, List.getElem?_cons_succ, hr, hz]
    · simp (disch := first | (simp; done) | omega | (simp only [dg_length, dgi_length, List.length_cons]; omega) | rfl) [-getElem?_pos, List.getElem?_cons_zero, List.getElem?_cons_succ, hr, h2]

theorem nfirst_eq {h : T O} {N : Nat} {v : V} {l : List Int} {w : List Nat} (hs : Sl h N v (dI l)) (hl : l.length < 1000) : A.C.call (.func 149 [] []) [v] ⟨h, N, w⟩ = some (.int .i64 (firstNZ l), ⟨h, N, w⟩) := by
  apply Call.eq
  have hlen := hs.len
  rw [dI_length] at hlen
  rw [call_run, A.k149 (by simp)]
  simp (disch := first | (simp; done) | omega | (simp only [dg_length, dgi_length, List.length_cons]; omega) | rfl) [-getElem?_pos, List.getElem?_cons_zero, List.getElem?_cons_succ, A.b149, hlen]
  refine run_loopD [(2, 2), (4, 4), (7, 14)] (fun e r st => st = ⟨h, N, []⟩ ∧ ((e = .exit 0 ∧ firstNZ l = 0) ∨ (e = .ret ∧ r.get 2 = some (.int .i64 (firstNZ l))))) (fun m r st => st = ⟨h, N, []⟩ ∧ ∃ k, m = l.length - k ∧ k ≤ l.length ∧ r.get 7 = some (.int .i64 k) ∧ firstNZ l = firstNZ (l.drop k)) l.length ?_ ?_ ?_
  · exact ⟨rfl, 0, by omega, by omega, by simp, by simp⟩
  · rintro m r _ hr hf ⟨rfl, k, rfl, hk, h7, hz⟩
    rw [code_run]
    by_cases hlt : k < l.length
    · obtain ⟨c, hc⟩ := get_of_lt hlt
      obtain ⟨i, o, cc, e, rw, q1, q2, q3, q4⟩ := hs.at (dI_get hc)
      rw [get_drop_cons hc, firstNZ] at hz
      have hk1 : (k : Int) < (l.length : Int) := by omega
      by_cases h0 : c = 0
      · rw [if_pos h0] at hz
        simp (disch := first | (simp; done) | omega | (simp only [dg_length, dgi_length, List.length_cons]; omega) | rfl) [-getElem?_pos, List.getElem?_cons_zero, List.getElem?_cons_succ, A.lb149_0, hr, hf, h7, hk1, hlt, hlen, q1, q3, q4, eqPrim, h0]
        exact ⟨_, by omega, k + 1, rfl, by omega, by simp, hz⟩
      · rw [if_neg h0] at hz
        simp (disch := first | (simp; done) | omega | (simp only [dg_length, dgi_length, List.length_cons]; omega) | rfl) [-getElem?_pos, List.getElem?_cons_zero, List.getElem?_cons_succ, A.lb149_0, hr, hf, h7, hk1, hlt, hlen, q1, q3, q4, eqPrim, h0, hz]
    · have : l.drop k = [] := List.drop_eq_nil_of_le (by omega)
      rw [this, firstNZ] at hz
      have : k = l.length := by omega
      subst this
      simp (disch := first | (simp; done) | omega | (simp only [dg_length, dgi_length, List.length_cons]; omega) | rfl) [-getElem?_pos, List.getElem?_cons_zero, List.getElem?_cons_succ, A.lb149_0, hr, hf, h7, hlen, hz]
  · rintro _ r _ hr ⟨rfl, ⟨rfl, hz⟩ | ⟨rfl, h2⟩⟩
    · simp (disch := first | (simp; done) | omega | (simp only [dg_length, dgi_length, List.length_cons]; omega) | rfl) [-getElem?_pos, List.getElem?_cons_zero, List.getElem?_cons_succ, hr, hz]
    · simp (disch := first | (simp; done) | omega | (simp only [dg_length, dgi_length, List.length_cons]; omega) | rfl) [-getElem?_pos, List.getElem?_cons_zero, List.getElem?_cons_succ, hr, h2]

theorem nfirst2 {h : T O} {N i : Nat} {w : List Nat} {a0 a1 : Int} (hi : i < N) : A.C.call (.func 149 [] []) [.slice i 0 2 (some 2) 1] ⟨h.set i (.cells [.int .i64 a0, .int .i64 a1] 26 true), N, w⟩ = some (.int .i64 (firstNZ [a0, a1]), ⟨h.set i (.cells [.int .i64 a0, .int .i64 a1] 26 true), N, w⟩) :=
  nfirst_eq (l := [a0, a1]) (Sl.row (e := 26) (rw := true) (cp := some 2) hi (by simp [dI]) rfl (by simp)) (by simp)

theorem pfirst2 {h : T O} {N i : Nat} {w : List Nat} {a0 a1 : Int} (hi : i < N) : A.C.call (.func 49 [] []) [.slice i 0 2 (some 2) 1] ⟨h.set i (.cells [.int .i64 a0, .int .i64 a1] 26 true), N, w⟩ = some (.int .i64 (firstNZ [a0, a1]), ⟨h.set i (.cells [.int .i64 a0, .int .i64 a1] 26 true), N, w⟩) :=
  first_eq (l := [a0, a1]) (Sl.row (e := 26) (rw := true) (cp := some 2) hi (by simp [dI]) rfl (by simp)) (by simp)

theorem pfirst5 {h : T O} {N i : Nat} {w : List Nat} {a0 a1 a2 a3 a4 : Int} (hi : i < N) : A.C.call (.func 49 [] []) [.slice i 0 5 (some 5) 1] ⟨h.set i (.cells [.int .i64 a0, .int .i64 a1, .int .i64 a2, .int .i64 a3, .int .i64 a4] 26 true), N, w⟩ = some (.int .i64 (firstNZ [a0, a1, a2, a3, a4]), ⟨h.set i (.cells [.int .i64 a0, .int .i64 a1, .int .i64 a2, .int .i64 a3, .int .i64 a4] 26 true), N, w⟩) :=
  first_eq (l := [a0, a1, a2, a3, a4]) (Sl.row (e := 26) (rw := true) (cp := some 5) hi (by simp [dI]) rfl (by simp)) (by simp)

theorem pfirst8 {h : T O} {N i : Nat} {w : List Nat} {a0 a1 a2 a3 a4 a5 a6 a7 : Int} (hi : i < N) : A.C.call (.func 49 [] []) [.slice i 0 8 (some 8) 1] ⟨h.set i (.cells [.int .i64 a0, .int .i64 a1, .int .i64 a2, .int .i64 a3, .int .i64 a4, .int .i64 a5, .int .i64 a6, .int .i64 a7] 26 true), N, w⟩ = some (.int .i64 (firstNZ [a0, a1, a2, a3, a4, a5, a6, a7]), ⟨h.set i (.cells [.int .i64 a0, .int .i64 a1, .int .i64 a2, .int .i64 a3, .int .i64 a4, .int .i64 a5, .int .i64 a6, .int .i64 a7] 26 true), N, w⟩) :=
  first_eq (l := [a0, a1, a2, a3, a4, a5, a6, a7]) (Sl.row (e := 26) (rw := true) (cp := some 8) hi (by simp [dI]) rfl (by simp)) (by simp)

end Go.Mx
