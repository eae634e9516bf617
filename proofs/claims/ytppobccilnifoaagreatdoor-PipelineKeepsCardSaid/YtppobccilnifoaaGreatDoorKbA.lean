/-
  lensletref09: within, First, CheckRecord, CheckRecords, CheckCapacity.
-/
import Derived.Test.YtppobccilnifoaaGreatDoorKaI
import Derived.Test.YtppobccilnifoaaGreatDoorRbK
set_option linter.all false
namespace Go.Mx
open Go Go.Proofs
set_option maxRecDepth 1000000
def A.b53 : MCode := .seq (.reg [mc 6 0])
 (.seq (.seq (.reg [mv 7 0, mv 8 1, bi 9 .lss 7 8, mv 10 9, ⟨(some 11), .mov (.tmp 0), (some (10, false))⟩, ⟨(some 12), .mov (.tmp 2), (some (10, false))⟩, ⟨(some 13), .bin .gtr (.node []) false (.tmp 11) (.tmp 12), (some (10, false))⟩, ⟨(some 14), .pick (.tmp 10) (.const (.bool true)) (.tmp 13), none⟩])
 (.cond (.tmp 14)
 (.seq (.reg [mc 6 3])
 (.ret))
 (.skip)))
 (.seq (.reg [mc 6 0])
 (.ret)))
theorem A.c53 : cFunc Tryz.prog 53 = some ⟨15, [.tmp 6], A.b53⟩ := by kernel_rfl
def A.k53 {K Q f c args st} := @A.kk 53 _ _ _ A.c53 rfl K Q f c args st
def A.lb52_0 : MCode := .seq (.seq (.reg [mv 4 3, mv 5 0, ln 6 5, bi 7 .lss 4 6])
 (.cond (.tmp 7)
 (.skip)
 (.exit 0)))
 (.seq (.block 1 (.seq (.reg [mv 10 0, mv 11 3, ia 12 1 10 11, ld 13 12, ⟨(some 14), .bin .neq (.prim .int) true (.tmp 13) (.const (.int .i64 0)), none⟩])
 (.cond (.tmp 14)
 (.seq (.reg [mv 15 0, mv 16 3, ia 17 1 15 16, ld 18 17, mv 2 18])
 (.ret))
 (.skip))))
 (.reg [mv 8 3, bc 9 .add 8 1, mv 3 9]))
def A.b52 : MCode := .seq (.reg [mc 2 0])
 (.seq (.seq (.reg [mc 3 0])
 (.block 0 (.loop A.lb52_0)))
 (.seq (.reg [mc 2 0])
 (.ret)))
theorem A.c52 : cFunc Tryz.prog 52 = some ⟨19, [.tmp 2], A.b52⟩ := by kernel_rfl
def A.k52 {K Q f c args st} := @A.kk 52 _ _ _ A.c52 rfl K Q f c args st
def A.b57 : MCode := .seq (.reg [⟨(some 1), .box 68 (.tmp 0), none⟩, mc 2 0])
 (.seq (.regD [⟨(some 4), .faddr 0 (.tmp 1), none⟩, ld 5 4, ⟨(some 6), .call (.const (.func 53 [] [])) [(.tmp 5), (.const (.int .i64 1)), (.const (.int .i64 999999999))], none⟩, ⟨(some 7), .faddr 1 (.tmp 1), none⟩, ld 8 7, ⟨(some 9), .call (.const (.func 53 [] [])) [(.tmp 8), (.const (.int .i64 0)), (.const (.int .i64 100000000))], none⟩, ⟨(some 10), .bslice 3 1 2 [(.int .i64 0), (.int .i64 0)] [(0, 1, (.tmp 6)), (1, 1, (.tmp 9))], none⟩, ⟨(some 11), .call (.const (.func 52 [] [])) [(.tmp 10)], none⟩, mv 3 11] [0, 1, 3, 0, 8, 31, 63, 127, 255])
 (.seq (.seq (.reg [mv 12 3, ⟨(some 13), .bin .eql (.prim .int) true (.tmp 12) (.const (.int .i64 0)), none⟩, mv 14 13, ⟨(some 15), .faddr 2 (.tmp 1), (some (14, true))⟩, ⟨(some 16), .load none (.tmp 15), (some (14, true))⟩, ⟨(some 17), .len 1 (.tmp 16), (some (14, true))⟩, ⟨(some 18), .bin .gtr (.node []) false (.tmp 17) (.const (.int .i64 16)), (some (14, true))⟩, ⟨(some 19), .pick (.tmp 14) (.tmp 18) (.const (.bool false)), none⟩])
 (.cond (.tmp 19)
 (.reg [mc 3 5])
 (.skip)))
 (.seq (.seq (.reg [mv 20 3, ⟨(some 21), .bin .eql (.prim .int) true (.tmp 20) (.const (.int .i64 0)), none⟩])
 (.cond (.tmp 21)
 (.reg [⟨(some 22), .faddr 2 (.tmp 1), none⟩, ld 23 22, ⟨(some 24), .call (.const (.func 103 [] [])) [(.tmp 23)], none⟩, mv 3 24])
 (.skip)))
 (.seq (.reg [mv 25 3, mv 2 25])
 (.ret)))))
theorem A.c57 : cFunc Tryz.prog 57 = some ⟨26, [.tmp 2], A.b57⟩ := by kernel_rfl
def A.k57 {K Q f c args st} := @A.kk 57 _ _ _ A.c57 rfl K Q f c args st
def A.lb22_0 : MCode := .seq (.seq (.reg [mv 8 3, mv 9 0, ln 10 9, bi 11 .lss 8 10])
 (.cond (.tmp 11)
 (.skip)
 (.exit 0)))
 (.seq (.block 1 (.seq (.reg [mv 14 0, mv 15 3, ia 16 3 14 15, ⟨(some 17), .load (some 3) (.tmp 16), none⟩, ⟨(some 18), .call (.const (.func 57 [] [])) [(.tmp 17)], none⟩, mv 4 18])
 (.seq (.reg [mv 19 4, ⟨(some 20), .bin .neq (.prim .int) true (.tmp 19) (.const (.int .i64 0)), none⟩])
 (.cond (.tmp 20)
 (.seq (.reg [mv 21 4, mv 2 21])
 (.ret))
 (.skip)))))
 (.reg [mv 12 3, bc 13 .add 12 1, mv 3 13]))
def A.b22 : MCode := .seq (.reg [mc 2 0])
 (.seq (.seq (.reg [mv 5 0, ln 6 5, bc 7 .gtr 6 256])
 (.cond (.tmp 7)
 (.seq (.reg [mc 2 5])
 (.ret))
 (.skip)))
 (.seq (.seq (.reg [mc 3 0])
 (.block 0 (.loop A.lb22_0)))
 (.seq (.reg [mc 2 0])
 (.ret))))
theorem A.c22 : cFunc Tryz.prog 22 = some ⟨22, [.tmp 2], A.b22⟩ := by kernel_rfl
def A.k22 {K Q f c args st} := @A.kk 22 _ _ _ A.c22 rfl K Q f c args st
def A.lb103_0 : MCode := .seq (.seq (.reg [mv 5 3, mv 6 0, ln 7 6, bi 8 .lss 5 7])
 (.cond (.tmp 8)
 (.skip)
 (.exit 0)))
 (.seq (.block 1 (.seq (.reg [mv 11 0, mv 12 3, ia 13 1 11 12, ld 14 13, ⟨(some 15), .call (.const (.func 54 [] [])) [(.tmp 14)], none⟩, mv 4 15])
 (.seq (.reg [mv 16 4, ⟨(some 17), .bin .neq (.prim .int) true (.tmp 16) (.const (.int .i64 0)), none⟩])
 (.cond (.tmp 17)
 (.seq (.reg [mv 18 4, mv 2 18])
 (.ret))
 (.skip)))))
 (.reg [mv 9 3, bc 10 .add 9 1, mv 3 10]))
def A.b103 : MCode := .seq (.reg [mc 2 0])
 (.seq (.seq (.reg [mc 3 0])
 (.block 0 (.loop A.lb103_0)))
 (.seq (.reg [mc 2 0])
 (.ret)))
theorem A.c103 : cFunc Tryz.prog 103 = some ⟨19, [.tmp 2], A.b103⟩ := by kernel_rfl
def A.k103 {K Q f c args st} := @A.kk 103 _ _ _ A.c103 rfl K Q f c args st
def A.b23 : MCode := .seq (.reg [mc 2 0])
 (.seq (.reg [mv 3 0, ⟨(some 4), .call (.const (.func 53 [] [])) [(.tmp 3), (.const (.int .i64 1)), (.const (.int .i64 64))], none⟩, mv 2 4])
 (.ret))
theorem A.c23 : cFunc Tryz.prog 23 = some ⟨5, [.tmp 2], A.b23⟩ := by kernel_rfl
def A.k23 {K Q f c args st} := @A.kk 23 _ _ _ A.c23 rfl K Q f c args st
theorem r9within_eq {x lo hi : Int} {st : St} : A.C.call (.func 53 [] []) [.int .i64 x, .int .i64 lo, .int .i64 hi] st = some (.int .i64 (if x < lo ∨ hi < x then 3 else 0), st) := by
 apply Call.eq
 rw [call_run, A.k53 (by simp)]
 by_cases h1 : x < lo
 ·simp (disch := first | (simp; done) | omega | rfl) [-getElem?_pos, A.b53, h1]
 ·by_cases h2 : hi < x <;> simp (disch := first | (simp; done) | omega | rfl) [-getElem?_pos, A.b53, h1, h2]
theorem ccap_eq {x : Int} {st : St} : A.C.call (.func 23 [] []) [.int .i64 x] st = some (.int .i64 (if x < 1 ∨ 64 < x then 3 else 0), st) := by
 apply Call.eq
 rw [call_run, A.k23 (by simp)]
 simp (disch := first | (simp; done) | omega | rfl) [-getElem?_pos, A.b23, r9within_eq]
theorem r9first_eq {h : T O} {N : Nat} {v : V} {l : List Int} {w : List Nat} (hs : Sl h N v (dI l)) (hl : l.length < 1000) : A.C.call (.func 52 [] []) [v] ⟨h, N, w⟩ = some (.int .i64 (firstNZ l), ⟨h, N, w⟩) := by
 apply Call.eq
 have hlen := hs.len
 rw [dI_length] at hlen
 rw [call_run, A.k52 (by simp)]
 simp (disch := first | (simp; done) | omega | rfl) [-getElem?_pos, A.b52]
 refine run_loopD [(2, 18)] (fun e r st => st = ⟨h, N, []⟩ ∧ ((e = .exit 0 ∧ firstNZ l = 0) ∨ (e = .ret ∧ r.get 2 = some (.int .i64 (firstNZ l))))) (fun m r st => st = ⟨h, N, []⟩ ∧ ∃ k, k + m = l.length ∧ r.get 3 = some (.int .i64 k) ∧ firstNZ l = firstNZ (l.drop k)) l.length ?_ ?_ ?_
 ·exact ⟨rfl, 0, by omega, by simp, by simp⟩
 ·rintro m r _ hr hf ⟨rfl, k, hk, h7, hz⟩
  rw [code_run]
  cases m with
  | zero =>
   obtain rfl : k = l.length := by omega
   rw [List.drop_length, firstNZ] at hz
   simp (disch := first | (simp; done) | omega | rfl) [-getElem?_pos, A.lb52_0, hr, hf, h7, hlen, hz]
  | succ m =>
   have hlt : k < l.length := by omega
   obtain ⟨c, hc⟩ := get_of_lt hlt
   obtain ⟨i, o, cc, e, rw, q1, q2, q3, q4⟩ := hs.at (dI_get hc)
   rw [get_drop_cons hc, firstNZ] at hz
   have hk1 : (k : Int) < (l.length : Int) := by omega
   by_cases h0 : c = 0
   ·rw [if_pos h0] at hz
    simp (disch := first | (simp; done) | omega | rfl) [-getElem?_pos, A.lb52_0, hr, hf, h7, hk1, hlt, hlen, q1, q3, q4, eqPrim, h0]
    exact ⟨m, by omega, k + 1, by omega, by simp, hz⟩
   ·rw [if_neg h0] at hz
    simp (disch := first | (simp; done) | omega | rfl) [-getElem?_pos, A.lb52_0, hr, hf, h7, hk1, hlt, hlen, q1, q3, q4, eqPrim, h0, hz]
 ·rintro _ r _ hr ⟨rfl, ⟨rfl, hz⟩ | ⟨rfl, h2⟩⟩
  ·simp (disch := first | (simp; done) | omega | rfl) [-getElem?_pos, hr, hz]
  ·simp (disch := first | (simp; done) | omega | rfl) [-getElem?_pos, hr, h2]
theorem crow_fn {h : T O} {N : Nat} {v : V} {l : List Str} (hs : Sl h N v (strs l)) (hl : l.length < 100000) (hf0 : ∀ s ∈ l, s.length ≤ 100000) : Fn A.C 103 [v] h N (fun u _ _ => u = .int .i64 (firstNZ (l.map fun s => ((chkNum s : Nat) : Int)))) := by
 intro w
 have hlen := hs.len
 rw [strs_len] at hlen
 rw [call_run, A.k103 (by simp)]
 simp (disch := first | (simp; done) | omega | rfl) [-getElem?_pos, A.b103]
 refine run_loopD [(2, 18)] (fun e r st => oldIds N st.w = [] ∧ Keeps h N st.h st.n ∧ ((e = .exit 0 ∧ firstNZ (l.map fun s => ((chkNum s : Nat) : Int)) = 0) ∨ (e = .ret ∧ r.get 2 = some (.int .i64 (firstNZ (l.map fun s => ((chkNum s : Nat) : Int))))))) (fun m r st => oldIds N st.w = [] ∧ Keeps h N st.h st.n ∧ ∃ k, k + m = l.length ∧ r.get 3 = some (.int .i64 k) ∧ firstNZ (l.map fun s => ((chkNum s : Nat) : Int)) = firstNZ ((l.drop k).map fun s => ((chkNum s : Nat) : Int))) l.length ?_ ?_ ?_
 ·exact ⟨by simp, Keeps.refl, 0, by omega, by simp, by simp⟩
 ·rintro m r ⟨H, n1, W⟩ hr hf ⟨hW, hK, k, hk, h7, hz⟩
  simp only at hW hK
  rw [code_run]
  cases m with
  | zero =>
   obtain rfl : k = l.length := by omega
   rw [List.drop_length, List.map_nil, firstNZ] at hz
   simp (disch := first | (simp; done) | omega | rfl) [-getElem?_pos, A.lb103_0, hr, hf, h7, hlen, hz, hW, hK]
  | succ m =>
   have hlt : k < l.length := by omega
   obtain ⟨s, hc⟩ := get_of_lt hlt
   obtain ⟨i, o, cc, e, rw, q1, q2, q3, q4⟩ := (hs.keep hK).at (strs_get hc)
   rw [get_drop_cons hc, List.map_cons, firstNZ] at hz
   have hk1 : (k : Int) < (l.length : Int) := by omega
   simp (disch := first | (simp; done) | omega | rfl) [-getElem?_pos, A.lb103_0, hr, hf, h7, hk1, hlt, hlen, q1, q3, q4]
   refine run_fn (rcheck_fn (hf0 s (List.mem_of_getElem? hc))) ?_
   rintro _ h3 n3 k3 rfl
   have kk := hK.trans k3
   by_cases h0 : chkNum s = 0
   ·rw [if_pos (by omega)] at hz
    simp (disch := first | (simp; done) | omega | rfl) [-getElem?_pos, hr, hf, h7, h0, hW, eqPrim]
    exact ⟨m, by omega, kk, k + 1, by omega, by simp, by simpa using hz⟩
   ·rw [if_neg (by omega)] at hz
    have h0' : ¬ ((chkNum s : Nat) : Int) = 0 := by omega
    simp (disch := first | (simp; done) | omega | rfl) [-getElem?_pos, hr, hf, h7, h0, h0', hW, eqPrim, hz]
    exact kk
 ·rintro _ r ⟨H, n1, W⟩ hr ⟨hW, hK, ⟨rfl, hz⟩ | ⟨rfl, h2⟩⟩
  ·simp only at hW hK
   simp (disch := first | (simp; done) | omega | rfl) [-getElem?_pos, hr, hz, Ret, hW, hK]
  ·simp only at hW hK
   simp (disch := first | (simp; done) | omega | rfl) [-getElem?_pos, hr, h2, Ret, hW, hK]
theorem crec_fn {h : T O} {N : Nat} {x : Rc} {u : V} (hu : Sl h N u (strs x.vs)) (hl : x.vs.length < 1000) (hs : ∀ s ∈ x.vs, s.length ≤ 100000) : Fn A.C 57 [.agg [.int .i64 x.f, .int .i64 x.t, u]] h N (fun v _ _ => v = .int .i64 (chkRc x)) := by
 intro w
 have o1 := hu.form.one
 have o2 := hu.form.cells
 unfold V.one at o1
 unfold V.cells at o2
 have hlen := hu.len
 rw [strs_len] at hlen
 have k0 : Keeps h N ((h.set N (.cells [.int .i64 x.f, .int .i64 x.t, u] 68 true)).set (N + 1) (.cells [.int .i64 (if x.f < 1 ∨ 999999999 < x.f then 3 else 0), .int .i64 (if x.t < 0 ∨ 100000000 < x.t then 3 else 0)] 3 true)) (N + 1 + 1) := (Keeps.refl.new _).new _
 have hi : (16 < (x.vs.length : Int)) = (16 < x.vs.length) := by apply propext; omega
 have hfi := fun w => r9first_eq (h := (h.set N (.cells [.int .i64 x.f, .int .i64 x.t, u] 68 true)).set (N + 1) (.cells [.int .i64 (if x.f < 1 ∨ 999999999 < x.f then 3 else 0), .int .i64 (if x.t < 0 ∨ 100000000 < x.t then 3 else 0)] 3 true)) (N := N + 1 + 1) (v := .slice (N + 1) 0 2 (some 2) 1) (l := [if x.f < 1 ∨ 999999999 < x.f then 3 else 0, if x.t < 0 ∨ 100000000 < x.t then 3 else 0]) (w := w) (Sl.row (e := 3) (rw := true) (cp := some 2) (by omega) (by simp [dI]) rfl (by simp)) (by simp)
 rw [call_run, A.k57 (by simp)]
 have fin : ∀ (r : T V), True := fun _ => trivial
 by_cases c1 : x.f < 1 ∨ 999999999 < x.f
 ·have e1 : chkRc x = 3 := by simp [chkRc, recErr, firstNZ, c1]
  simp only [if_pos c1, firstNZ] at hfi
  simp (disch := first | (simp; done) | omega | rfl) [-getElem?_pos, A.b57, o1, o2, hlen, splice, partV, slc, r9within_eq, c1, hfi, eqPrim, pairsOk.chk, Ret, e1]
  exact (Keeps.refl.new _).new _
 ·by_cases c2 : x.t < 0 ∨ 100000000 < x.t
  ·have e1 : chkRc x = 3 := by simp [chkRc, recErr, firstNZ, c1, c2]
   simp only [if_neg c1, if_pos c2, firstNZ] at hfi
   simp (disch := first | (simp; done) | omega | rfl) [-getElem?_pos, A.b57, o1, o2, hlen, splice, partV, slc, r9within_eq, c1, c2, hfi, eqPrim, pairsOk.chk, Ret, e1]
   exact (Keeps.refl.new _).new _
  ·simp only [if_neg c1, if_neg c2, firstNZ] at hfi k0
   by_cases c3 : 16 < x.vs.length
   ·have e1 : chkRc x = 5 := by simp [chkRc, recErr, firstNZ, c1, c2, c3]
    simp (disch := first | (simp; done) | omega | rfl) [-getElem?_pos, A.b57, o1, o2, hlen, splice, partV, slc, r9within_eq, c1, c2, c3, hi, hfi, eqPrim, pairsOk.chk, Ret, e1]
    exact (Keeps.refl.new _).new _
   ·have e1 : chkRc x = firstNZ (x.vs.map fun s => ((chkNum s : Nat) : Int)) := by simp [chkRc, recErr, firstNZ, c1, c2, c3]
    simp (disch := first | (simp; done) | omega | rfl) [-getElem?_pos, A.b57, o1, o2, hlen, splice, partV, slc, r9within_eq, c1, c2, c3, hi, hfi, eqPrim, pairsOk.chk]
    refine run_fn (crow_fn (hu.keep k0) (by omega) hs) ?_
    rintro _ h3 n3 k3 rfl
    simp (disch := first | (simp; done) | omega | rfl) [-getElem?_pos, Ret, e1]
    exact k0.trans k3
def chkRcs (l : List Rc) : Int := if 256 < l.length then 5 else firstNZ (l.map chkRc)
theorem crecs_fn {h : T O} {N : Nat} {v : V} {l : List Rc} (hs : RcS h N v l) (hl : l.length < 100000) (hx : ∀ x ∈ l, x.vs.length < 1000 ∧ ∀ s ∈ x.vs, s.length ≤ 100000) : Fn A.C 22 [v] h N (fun u _ _ => u = .int .i64 (chkRcs l)) := by
 intro w
 have hlen := hs.len
 rw [call_run, A.k22 (by simp)]
 by_cases c0 : 256 < l.length
 ·have c0' : 256 < (l.length : Int) := by omega
  simp (disch := first | (simp; done) | omega | rfl) [-getElem?_pos, A.b22, hlen, c0', chkRcs, c0, Ret]
  exact Keeps.refl
 have c0' : ¬ 256 < (l.length : Int) := by omega
 have e0 : chkRcs l = firstNZ (l.map chkRc) := by simp [chkRcs, c0]
 rw [e0]
 simp (disch := first | (simp; done) | omega | rfl) [-getElem?_pos, A.b22, hlen, c0']
 refine run_loopD [(2, 4), (8, 21)] (fun e r st => oldIds N st.w = [] ∧ Keeps h N st.h st.n ∧ ((e = .exit 0 ∧ firstNZ (l.map chkRc) = 0) ∨ (e = .ret ∧ r.get 2 = some (.int .i64 (firstNZ (l.map chkRc)))))) (fun m r st => oldIds N st.w = [] ∧ Keeps h N st.h st.n ∧ ∃ k, k + m = l.length ∧ r.get 3 = some (.int .i64 k) ∧ firstNZ (l.map chkRc) = firstNZ ((l.drop k).map chkRc)) l.length ?_ ?_ ?_
 ·exact ⟨by simp, Keeps.refl, 0, by omega, by simp, by simp⟩
 ·rintro m r ⟨H, n1, W⟩ hr hf ⟨hW, hK, k, hk, h7, hz⟩
  simp only at hW hK
  rw [code_run]
  cases m with
  | zero =>
   obtain rfl : k = l.length := by omega
   rw [List.drop_length, List.map_nil, firstNZ] at hz
   simp (disch := first | (simp; done) | omega | rfl) [-getElem?_pos, A.lb22_0, hr, hf, h7, hlen, hz, hW, hK]
  | succ m =>
   have hlt : k < l.length := by omega
   obtain ⟨x, hc⟩ := get_of_lt hlt
   obtain ⟨i, o, cc, e, rw, u, q1, q2, q3, q4, q5⟩ := (hs.keep hK).at hc
   obtain ⟨p1, _⟩ := rc_parts q4
   unfold rcC at p1
   rw [get_drop_cons hc, List.map_cons, firstNZ] at hz
   have hk1 : (k : Int) < (l.length : Int) := by omega
   obtain ⟨x1, x2⟩ := hx x (List.mem_of_getElem? hc)
   simp (disch := first | (simp; done) | omega | rfl) [-getElem?_pos, -partV, A.lb22_0, hr, hf, h7, hk1, hlt, hlen, q1, q3, p1]
   refine run_fn (crec_fn q5 x1 x2) ?_
   rintro _ h3 n3 k3 rfl
   have kk := hK.trans k3
   by_cases h0 : chkRc x = 0
   ·rw [if_pos h0] at hz
    simp (disch := first | (simp; done) | omega | rfl) [-getElem?_pos, hr, hf, h7, h0, hW, eqPrim]
    exact ⟨m, by omega, kk, k + 1, by omega, by simp, by simpa using hz⟩
   ·rw [if_neg h0] at hz
    simp (disch := first | (simp; done) | omega | rfl) [-getElem?_pos, hr, hf, h7, h0, hW, eqPrim, hz]
    exact kk
 ·rintro _ r ⟨H, n1, W⟩ hr ⟨hW, hK, ⟨rfl, hz⟩ | ⟨rfl, h2⟩⟩
  ·simp only at hW hK
   simp (disch := first | (simp; done) | omega | rfl) [-getElem?_pos, hr, hz, Ret, hW, hK]
  ·simp only at hW hK
   simp (disch := first | (simp; done) | omega | rfl) [-getElem?_pos, hr, h2, Ret, hW, hK]
end Go.Mx
namespace Go.Mx
open Go Go.Proofs
set_option maxRecDepth 1000000
def A.lb26_0 : MCode := .seq (.reg [bi 10 .lss 9 8])
 (.seq (.cond (.tmp 10)
 (.skip)
 (.exit 0))
 (.seq (.block 1 (.seq (.reg [ia 11 3 7 9, ⟨(some 12), .load (some 3) (.tmp 11), none⟩, ⟨(some 5), .alloc [(.int .i64 0), (.int .i64 0), .nilslice] 68, none⟩, ⟨none, .store 3 (.tmp 5) (.tmp 12), none⟩])
 (.seq (.reg [⟨(some 13), .load (some 3) (.tmp 5), none⟩, ⟨(some 6), .alloc [(.int .i64 0), (.int .i64 0), .nilslice] 78, none⟩, ⟨none, .store 3 (.tmp 6) (.tmp 13), none⟩])
 (.seq (.reg [⟨(some 14), .bslice 47 1 0 [] [], none⟩, ⟨(some 15), .faddr 2 (.tmp 5), none⟩, ld 16 15, ⟨(some 17), .append 1 16 47 [(.str [])] (.tmp 14) (.tmp 16), none⟩, ⟨(some 18), .faddr 2 (.tmp 6), none⟩, so 18 17])
 (.reg [mv 19 3, ⟨(some 20), .load (some 3) (.tmp 6), none⟩, ⟨(some 21), .bslice 78 3 1 [(.int .i64 0), (.int .i64 0), .nilslice] [(0, 3, (.tmp 20))], none⟩, ⟨(some 22), .append 3 40 78 [(.int .i64 0), (.int .i64 0), .nilslice] (.tmp 19) (.tmp 21), none⟩, mv 3 22])))))
 (.reg [bc 23 .add 9 1, mv 9 23])))
def A.b26 : MCode := .seq (.reg [⟨(some 2), .mov (.const .nilslice), none⟩])
 (.seq (.reg [⟨(some 3), .mov (.const .nilslice), none⟩])
 (.seq (.seq (.reg [mv 7 0, ln 8 7, mc 9 0])
 (.block 0 (.loop A.lb26_0)))
 (.seq (.reg [mv 24 3, mv 2 24])
 (.ret))))
theorem A.c26 : cFunc Tryz.prog 26 = some ⟨25, [.tmp 2], A.b26⟩ := by kernel_rfl
def A.k26 {K Q f c args st} := @A.kk 26 _ _ _ A.c26 rfl K Q f c args st
def A.lb32_0 : MCode := .seq (.reg [bi 9 .lss 8 7])
 (.seq (.cond (.tmp 9)
 (.skip)
 (.exit 0))
 (.seq (.block 1 (.seq (.reg [ia 10 3 6 8, ⟨(some 11), .load (some 3) (.tmp 10), none⟩, ⟨(some 5), .alloc [(.int .i64 0), (.int .i64 0), .nilslice] 78, none⟩, ⟨none, .store 3 (.tmp 5) (.tmp 11), none⟩])
 (.reg [mv 12 3, ⟨(some 13), .load (some 3) (.tmp 5), none⟩, ⟨(some 14), .bslice 68 3 1 [(.int .i64 0), (.int .i64 0), .nilslice] [(0, 3, (.tmp 13))], none⟩, ⟨(some 15), .append 3 40 68 [(.int .i64 0), (.int .i64 0), .nilslice] (.tmp 12) (.tmp 14), none⟩, mv 3 15])))
 (.reg [bc 16 .add 8 1, mv 8 16])))
def A.b32 : MCode := .seq (.reg [⟨(some 2), .mov (.const .nilslice), none⟩])
 (.seq (.reg [⟨(some 3), .mov (.const .nilslice), none⟩])
 (.seq (.seq (.reg [mv 6 0, ln 7 6, mc 8 0])
 (.block 0 (.loop A.lb32_0)))
 (.seq (.reg [mv 17 3, mv 2 17])
 (.ret))))
theorem A.c32 : cFunc Tryz.prog 32 = some ⟨18, [.tmp 2], A.b32⟩ := by kernel_rfl
def A.k32 {K Q f c args st} := @A.kk 32 _ _ _ A.c32 rfl K Q f c args st
theorem Sl.row_lt {h : T O} {N : Nat} {v : V} {l : List V} (s : Sl h N v l) : ∀ i ∈ rowV v, i < N := fun i hi => by
 rcases s with ⟨_, rfl | rfl⟩ | ⟨j, o, cp, c, e, rw, rfl, hj, _⟩
 ·simp [rowV] at hi
 ·simp [rowV] at hi
 ·simp [rowV] at hi; omega
theorem own_fn {h : T O} {N : Nat} {v : V} {l : List Rc} (hs : RcS h N v l) (hl : l.length < 100000) : Fn A.C 32 [v] h N (fun u h' n' => RcS h' n' u l) := by
 intro w
 have hlen := hs.len
 obtain ⟨cs, hs1, hs2, hs3⟩ := hs
 rw [call_run, A.k32 (by simp)]
 simp (disch := first | (simp; done) | omega | rfl) [-getElem?_pos, A.b32, hlen]
 refine run_loopD [(3, 3), (5, 5), (8, 16)] (fun e r st => e = .exit 0 ∧ oldIds N st.w = [] ∧ Keeps h N st.h st.n ∧ ∃ u, r.get 3 = some u ∧ Own 3 68 N st.h st.n u cs) (fun m r st => oldIds N st.w = [] ∧ Keeps h N st.h st.n ∧ ∃ k u, k + m = l.length ∧ r.get 8 = some (.int .i64 k) ∧ r.get 3 = some u ∧ Own 3 68 N st.h st.n u (cs.take k)) l.length ?_ ?_ ?_
 ·exact ⟨by simp, Keeps.refl, 0, .nilslice, by omega, by simp, by simp, by simpa using Own.nil⟩
 ·rintro m r ⟨H, n1, W⟩ hr hf ⟨hW, hK, k, u, hk, h8, h3, ho⟩
  simp only at hW hK ho
  rw [code_run]
  cases m with
  | zero =>
   obtain rfl : k = l.length := by omega
   rw [← hs2, List.take_length] at ho
   simp (disch := first | (simp; done) | omega | rfl) [-getElem?_pos, A.lb32_0, hr, hf, h8, hW, hK]
   exact ⟨u, h3, ho⟩
  | succ m =>
   have hlt : k < l.length := by omega
   obtain ⟨x, hx⟩ := get_of_lt hlt
   obtain ⟨v0, hc, q5⟩ := hs3 k x hx
   obtain ⟨i, o, cc, e, rw, q1, q2, q3, q4⟩ := (hs1.keep hK).at hc
   obtain ⟨p1, _⟩ := rc_parts q4
   unfold rcC at p1
   have hk1 : (k : Int) < (l.length : Int) := by omega
   have o1 := q5.form.one
   have o2 := q5.form.cells
   unfold V.one at o1
   unfold V.cells at o2
   have kn := hK.le
   simp (disch := first | (simp; done) | omega | rfl) [-getElem?_pos, -partV, A.lb32_0, hr, hf, h8, h3, hk1, hlt, hlen, q1, q3, p1, splice, storeK2, o1, o2]
   simp (disch := first | (simp; done) | omega | rfl) [-getElem?_pos, hr, hf, partV, slc, splice, o1, o2]
   generalize hH : ((H.set n1 (.cells [.int .i64 0, .int .i64 0, .nilslice] 78 true)).set n1 (.cells [.int .i64 x.f, .int .i64 x.t, v0] 78 true)).set (n1 + 1) (.cells [.int .i64 x.f, .int .i64 x.t, v0] 68 true) = H2
   have k2 : Keeps H n1 H2 (n1 + 1 + 1) := by rw [← hH]; exact ((Keeps.refl.new _).set (Nat.le_refl _)).new _
   have g2 : H2.get (n1 + 1) = some (.cells [.int .i64 x.f, .int .i64 x.t, v0] 68 true) := by rw [← hH]; simp
   obtain ⟨v', h', w', f1, f2, f3, f4, f5⟩ := append_own (x := rcC (x, v0)) (u := .slice (n1 + 1) 0 1 (some 1) 3) (bytes := 40) (w := n1 :: W) (ho.keep k2) (by omega) (by decide) rfl (by simp [srcCells, St.row, g2, slc, rcC]) (by simp; omega)
   have wok : ¬ n1 < N := by omega
   have f6 : oldIds N w' = [] := by rw [f2]; simp [oldIds, hW, wok]
   have kz := (hK.trans k2).then f3
   have f7 : cs.take k ++ [rcC (x, v0)] = cs.take (k + 1) := by rw [List.take_add_one, hc]; rfl
   rw [f7] at f5
   simp (disch := first | (simp; done) | omega | rfl) [-getElem?_pos, hr, hf, h8, f1, f6]
   exact ⟨m, by omega, kz, k + 1, by omega, by simp, f5⟩
 ·rintro _ r ⟨H, n1, W⟩ hr ⟨rfl, hW, hK, u, h3, ho⟩
  simp only at hW hK ho
  simp (disch := first | (simp; done) | omega | rfl) [-getElem?_pos, hr, h3, Ret, hW, hK]
  refine ⟨cs, ho.sn, hs2, fun j x hx => ?_⟩
  obtain ⟨y, y1, y2⟩ := hs3 j x hx
  exact ⟨y, y1, y2.keep hK⟩
def SV (h : T O) (n : Nat) (u : V) (x : Rc) : Prop := Sl h n u (strs x.vs) ∧ ∀ i ∈ rowV u, ∃ z w, h.get i = some (.cells z 47 w)
theorem SV.keep {h h' : T O} {n n' : Nat} {u : V} {x : Rc} (s : SV h n u x) (k : Keeps h n h' n') : SV h' n' u x := ⟨s.1.keep k, fun i hi => by rw [k.get i (s.1.row_lt i hi)]; exact s.2 i hi⟩
theorem SV.moved {h h' : T O} {n n' : Nat} {u v : V} {x : Rc} {Y : V → Prop} (s : SV h n u x) (k : Upd (fun i => i ∈ rowV v) h n h' n') (hd : Dies 78 Y h v) : SV h' n' u x := by
 have hn : ∀ i ∈ rowV u, i ∉ rowV v := fun i hi hc => by
  obtain ⟨z, w, hz⟩ := s.2 i hi
  obtain ⟨z2, hz2, _⟩ := hd i hc
  rw [hz] at hz2
  simp at hz2
 exact ⟨s.1.moved k hn, fun i hi => by rw [k.get i (s.1.row_lt i hi) (hn i hi)]; exact s.2 i hi⟩
def RcT (h : T O) (N : Nat) (v : V) (l : List Rc) : Prop := ∃ cs : List (List V), Sn 3 h N v cs ∧ cs.length = l.length ∧ ∀ (j : Nat) (x : Rc), l[j]? = some x → ∃ u, cs[j]? = some (rcC (x, u)) ∧ SV h N u x
theorem RcT.rcs {h : T O} {N : Nat} {v : V} {l : List Rc} (s : RcT h N v l) : RcS h N v l := by
 obtain ⟨cs, h1, h2, h3⟩ := s
 refine ⟨cs, h1, h2, fun j x hx => ?_⟩
 obtain ⟨u, h4, h5⟩ := h3 j x hx
 exact ⟨u, h4, h5.1⟩
theorem RcT.at {h : T O} {N : Nat} {v : V} {l : List Rc} (s : RcT h N v l) {j : Nat} {x : Rc} (hj : l[j]? = some x) : ∃ i o c e rw u, baseV v = some (i, o) ∧ i < N ∧ h.get i = some (.cells c e rw) ∧ slc c (o + j * 3) 3 = some (rcC (x, u)) ∧ SV h N u x := by
 obtain ⟨cs, h1, h2, h3⟩ := s
 obtain ⟨u, h4, h5⟩ := h3 j x hj
 obtain ⟨i, o, c, e, rw, q1, q2, q3, q4⟩ := h1.at h4
 exact ⟨i, o, c, e, rw, u, q1, q2, q3, q4, h5⟩
theorem lrecs_fn {h : T O} {N : Nat} {v : V} {l : List Rc} (hs : RcS h N v l) (hl : l.length < 100000) (hv : ∀ x ∈ l, x.vs.length < 100000) : Fn A.C 26 [v] h N (fun u h' n' => RcT h' n' u l ∧ ∀ i ∈ rowV u, N ≤ i) := by
 intro w
 have hlen := hs.len
 rw [call_run, A.k26 (by simp)]
 simp (disch := first | (simp; done) | omega | rfl) [-getElem?_pos, A.b26, hlen]
 refine run_loopD [(3, 3), (5, 6), (9, 23)] (fun e r st => e = .exit 0 ∧ oldIds N st.w = [] ∧ Keeps h N st.h st.n ∧ ∃ u, r.get 3 = some u ∧ RcT st.h st.n u l ∧ ∀ i ∈ rowV u, N ≤ i) (fun m r st => oldIds N st.w = [] ∧ Keeps h N st.h st.n ∧ ∃ k u cs, k + m = l.length ∧ r.get 9 = some (.int .i64 k) ∧ r.get 3 = some u ∧ Own 3 78 N st.h st.n u cs ∧ (cs = [] → u = .nilslice) ∧ cs.length = k ∧ ∀ (j : Nat) (x : Rc), j < k → l[j]? = some x → ∃ y, cs[j]? = some (rcC (x, y)) ∧ SV st.h st.n y x) l.length ?_ ?_ ?_
 ·exact ⟨by simp, Keeps.refl, 0, .nilslice, [], by omega, by simp, by simp, Own.nil, fun _ => rfl, rfl, fun j x hj => by omega⟩
 ·rintro m r ⟨H, n1, W⟩ hr hf ⟨hW, hK, k, u, cs, hk, h9, h3, ho, hnil, hcl, hcs⟩
  simp only at hW hK ho hcs
  rw [code_run]
  cases m with
  | zero =>
   obtain rfl : k = l.length := by omega
   simp (disch := first | (simp; done) | omega | rfl) [-getElem?_pos, A.lb26_0, hr, hf, h9, hW, hK]
   exact ⟨u, h3, ⟨cs, ho.sn, hcl, fun j x hx => hcs j x (lt_of_get hx) hx⟩, fun i hi => by
    obtain ⟨_, ⟨_, rfl⟩ | ⟨i2, rfl, a1, _⟩⟩ := ho
    ·simp [rowV] at hi
    ·simp [rowV] at hi; omega⟩
  | succ m =>
   have hlt : k < l.length := by omega
   obtain ⟨x, hx⟩ := get_of_lt hlt
   obtain ⟨i, o, cc, e, rw, v0, q1, q2, q3, q4, q5⟩ := (hs.keep hK).at hx
   obtain ⟨p1, _⟩ := rc_parts q4
   unfold rcC at p1
   have hk1 : (k : Int) < (l.length : Int) := by omega
   have o1 := q5.form.one
   have o2 := q5.form.cells
   unfold V.one at o1
   unfold V.cells at o2
   have kn := hK.le
   have hxl := hv x (List.mem_of_getElem? hx)
   simp (disch := first | (simp; done) | omega | rfl) [-getElem?_pos, -partV, A.lb26_0, hr, hf, h9, h3, hk1, hlt, hlen, q1, q3, p1, splice, storeK2, o1, o2]
   simp (disch := first | (simp; done) | omega | rfl) [-getElem?_pos, hr, hf, partV, slc, splice, o1, o2, storeK2]
   generalize hH : ((((H.set n1 (.cells [.int .i64 0, .int .i64 0, .nilslice] 68 true)).set n1 (.cells [.int .i64 x.f, .int .i64 x.t, v0] 68 true)).set (n1 + 1) (.cells [.int .i64 0, .int .i64 0, .nilslice] 78 true)).set (n1 + 1) (.cells [.int .i64 x.f, .int .i64 x.t, v0] 78 true)).set (n1 + 1 + 1) (.cells [] 47 true) = H2
   have k2 : Keeps H n1 H2 (n1 + 1 + 1 + 1) := by rw [← hH]; exact ((((Keeps.refl.new _).set (Nat.le_refl _)).new _).set (by omega)).new _
   have g2 : H2.get (n1 + 1) = some (.cells [.int .i64 x.f, .int .i64 x.t, v0] 78 true) := by rw [← hH]; simp
   have g3 : H2.get (n1 + 1 + 1) = some (.cells [] 47 true) := by rw [← hH]; simp
   obtain ⟨y, h5, n5, c1, c2, c3, c4, c5⟩ := copy_vals (w := (n1 + 1) :: n1 :: W) g3 (by omega) (q5.keep k2) (by rw [strs_len]; omega)
   have kle5 := c2.le
   have g4 := (c2.get (n1 + 1) (by omega)).trans g2
   have y1 := c3.form.one
   have y2 := c3.form.cells
   unfold V.one at y1
   unfold V.cells at y2
   simp (disch := first | (simp; done) | omega | rfl) [-getElem?_pos, hr, hf, h9, h3, c1, g4, partV, slc, splice, storeK2, y1, y2]
   generalize hH3 : (h5.set (n1 + 1) (.cells [.int .i64 x.f, .int .i64 x.t, y] 78 true)).set n5 (.cells [.int .i64 x.f, .int .i64 x.t, y] 78 true) = H3
   have k3 : Upd (fun i => i = n1 + 1) h5 n5 H3 (n5 + 1) := by rw [← hH3]; exact (Upd.set (D := fun i => i = n1 + 1) Upd.refl (.inl rfl)).new _
   have k4 : Keeps H n1 H3 (n5 + 1) := ⟨by omega, fun i hi => by rw [k3.get i (by omega) (by omega), c2.get i (by omega), k2.get i hi]⟩
   have g6 : H3.get n5 = some (.cells [.int .i64 x.f, .int .i64 x.t, y] 78 true) := by rw [← hH3]; simp
   have sv : SV H3 (n5 + 1) y x := by
    have hne : ∀ i ∈ rowV y, ¬ i = n1 + 1 := fun i hi => by
     rcases c4 i hi with rfl | hh <;> omega
    exact ⟨c3.moved k3 hne, fun i hi => by rw [k3.get i (c3.row_lt i hi) (hne i hi)]; exact c5 i hi⟩
   obtain ⟨v', h', w', f1, f2, f3, f4, fD, f5⟩ := append_own2 (Y := fun _ => True) (x := rcC (x, y)) (u := .slice n5 0 1 (some 1) 3) (bytes := 40) (w := (n1 + 1) :: (n1 + 1) :: n1 :: W) (ho.keep k4) hnil (fun _ _ _ _ => trivial) (by omega) (by decide) rfl (by simp [srcCells, St.row, g6, slc, rcC]) (by omega)
   have wok : ¬ n1 < N := by omega
   have wok2 : ¬ n1 + 1 < N := by omega
   have f6 : oldIds N w' = [] := by rw [f2]; simp [oldIds, hW, wok, wok2]
   have kz := (hK.trans k4).then f3
   simp (disch := first | (simp; done) | omega | rfl) [-getElem?_pos, hr, hf, h9, f1, f6]
   refine ⟨m, by omega, kz, k + 1, by omega, by simp, cs ++ [rcC (x, y)], f5, by simp, by simp [hcl], fun j z hj hz => ?_⟩
   by_cases hjk : j < k
   ·obtain ⟨a, a1, a2⟩ := hcs j z hjk hz
    exact ⟨a, by rw [List.getElem?_append_left (by omega)]; exact a1, (a2.keep k4).moved f4 fD⟩
   ·obtain rfl : j = k := by omega
    rw [hx] at hz
    obtain rfl : x = z := by simpa using hz
    exact ⟨y, by rw [List.getElem?_append_right (by omega), hcl]; simp, sv.moved f4 fD⟩
 ·rintro _ r ⟨H, n1, W⟩ hr ⟨rfl, hW, hK, u, h3, hu⟩
  simp only at hW hK hu
  simp (disch := first | (simp; done) | omega | rfl) [-getElem?_pos, hr, h3, Ret, hW, hK]
  exact hu
end Go.Mx
