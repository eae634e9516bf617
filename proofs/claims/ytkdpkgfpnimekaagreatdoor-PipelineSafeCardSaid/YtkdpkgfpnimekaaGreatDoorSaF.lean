/-
  PipelineSafe returns true, for every list of bytes.
-/
import Derived.Test.YtkdpkgfpnimekaaGreatDoorSaL
import Derived.Test.YtkdpkgfpnimekaaGreatDoorProg
set_option linter.all false
namespace Go.Mx
open Go Go.Proofs
set_option maxRecDepth 1000000
set_option linter.unusedSimpArgs false
set_option linter.unusedVariables false

theorem safe_slice (L o : Nat) (cp : Option Nat) (cs : List V) (e : TypeId) (hcs : ∀ k, k < L → ∃ b : Int, cs[o + k]? = some (.int .u8 b) ∧ 0 ≤ b ∧ b < 256) :
    Gives (orK (cFunc Tryz.prog) A.X 200 10 4 [.slice 10 o L cp 1] ⟨(deadT 10).set 10 (.cells cs e false), 10 + 1, []⟩ none) (.bool true) := by
  generalize hh : deadT 10 = h0
  by_cases h40 : 40 < L
  · have h41 : (40 : Int) < (L : Int) := by omega
    simp [-mcode_loop, A.X14, A.X15, h41, A.r4, A.b4, A.r15, A.b15]
  · have h41 : ¬ ((40 : Int) < (L : Int)) := by omega
    simp [-mcode_loop, A.X14, A.X15, h41, A.r4, A.b4, A.r15, A.b15]
    refine loop_elim (loop_run 11 12 10 L o cp cs e (by omega) hcs L 0 192 _ _ (by omega) (by omega) ⟨(wIdle, 0, false, false), by decide, ⟨rfl, rfl, by simp, by simp, by simp [ready], by simp, by simp, by simp, by simp, by simp, fun _ => by simp, by show _ < (13 : Nat); decide, by show _ < (13 : Nat); decide, by show _ < (13 : Nat); decide, by simp, by decide, by decide, by decide⟩⟩) ?_
    rintro ⟨r, n, mk⟩ ⟨hh, N, w⟩ ⟨h1, h2, h3⟩
    simp only at h1 h2 h3
    subst h1; subst h2
    have h4 : oldIds 11 w = [] := oldIds_nil h3
    simp [-oldIds, h4, A.X14]

theorem safe_nil : Gives (orK (cFunc Tryz.prog) A.X 200 10 4 [.nilslice] (base 10) none) (.bool true) := by
  generalize hh : deadT 10 = h0
  simp [-mcode_loop, hh, A.X14, A.X15, A.r4, A.b4, A.r15, A.b15]
  refine loop_elim (loop_end (p := 10) (q := 11) (i := 9) (L := 0) (arg := .nilslice) (cs := []) (e := 0) (f := 131) (by omega) ⟨(wIdle, 0, false, false), by decide, ⟨rfl, rfl, by simp, by simp, by simp [ready], by simp, by simp, by simp, by simp, by simp, fun h => by omega, by show _ < (12 : Nat); decide, by show _ < (12 : Nat); decide, by show _ < (12 : Nat); decide, by simp, by decide, by decide, by decide⟩⟩) ?_
  rintro ⟨r, n, mk⟩ ⟨hh, N, w⟩ ⟨h1, h2, h3⟩
  simp only at h1 h2 h3
  subst h1; subst h2
  have h4 : oldIds 10 w = [] := oldIds_nil h3
  simp [-oldIds, h4, A.X14]

theorem safe_empty : Gives (orK (cFunc Tryz.prog) A.X 200 10 4 [.empty] (base 10) none) (.bool true) := by
  generalize hh : deadT 10 = h0
  simp [-mcode_loop, hh, A.X14, A.X15, A.r4, A.b4, A.r15, A.b15]
  refine loop_elim (loop_end (p := 10) (q := 11) (i := 9) (L := 0) (arg := .empty) (cs := []) (e := 0) (f := 131) (by omega) ⟨(wIdle, 0, false, false), by decide, ⟨rfl, rfl, by simp, by simp, by simp [ready], by simp, by simp, by simp, by simp, by simp, fun h => by omega, by show _ < (12 : Nat); decide, by show _ < (12 : Nat); decide, by show _ < (12 : Nat); decide, by simp, by decide, by decide, by decide⟩⟩) ?_
  rintro ⟨r, n, mk⟩ ⟨hh, N, w⟩ ⟨h1, h2, h3⟩
  simp only at h1 h2 h3
  subst h1; subst h2
  have h4 : oldIds 10 w = [] := oldIds_nil h3
  simp [-oldIds, h4, A.X14]

theorem orK_run4 {x : CallT} {F d : Nat} {args : List V} {st : St} : orK (cFunc Tryz.prog) x F d 4 args st none = funcRun ⟨138, [.tmp 2], A.b4⟩ (mcode (mcallX x (cFunc Tryz.prog) F d) F) args st := by
  unfold orK; rw [A.c4]

end Go.Mx
