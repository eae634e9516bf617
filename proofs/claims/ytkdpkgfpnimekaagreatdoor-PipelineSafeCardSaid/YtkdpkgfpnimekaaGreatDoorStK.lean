/-
  The states of a loop: what CheckState answers; the states that are valid.
-/
import Derived.Test.YtkdpkgfpnimekaaGreatDoorMxUse
import Derived.Test.YtkdpkgfpnimekaaGreatDoorProg
set_option linter.all false
namespace Go.Mx
open Go Go.Proofs
set_option maxRecDepth 1000000
set_option linter.unusedSimpArgs false
set_option linter.unusedVariables false

theorem noCall_eq (g args st) : noCall g args st = none := rfl
abbrev wIdle : List UInt8 := [105, 100, 108, 101]
abbrev wOpen : List UInt8 := [111, 112, 101, 110]
abbrev wClosed : List UInt8 := [99, 108, 111, 115, 101, 100]
abbrev wSafe : List UInt8 := [115, 97, 102, 101]
def chk (m : List UInt8) (s : Int) (l w : Bool) : Int :=
  if m = wIdle ∨ m = wOpen ∨ m = wClosed ∨ m = wSafe then
    if s < 0 ∨ 2 < s then 3
    else if (0 < s ∧ m ≠ wClosed) ∨ (l = true ∧ m = wClosed) ∨ (w = true ∧ (m = wOpen ∨ m = wClosed)) then 18 else 0
  else 13
abbrev stV (m : List UInt8) (s : Int) (l w : Bool) : V := .agg [.str m, .int .i64 s, .bool l, .bool w]
theorem split_s (s : Int) : s < 0 ∨ s = 0 ∨ (0 < s ∧ s ≤ 2) ∨ 2 < s := by omega

end Go.Mx
/- One call that is known. -/
namespace Go.Mx
open Go Go.Proofs
set_option maxRecDepth 1000000
set_option linter.unusedSimpArgs false
set_option linter.unusedVariables false

open Classical in
/-- One call, whose result is known. -/
noncomputable def oneCall (e : PEnt) : CallT := fun g args st => if g = .func e.f [] [] ∧ args = e.args then some (e.v, st) else none

theorem oneCall_ok {P : Program} {e : PEnt} (h : Pure P e) : CallOk P (oneCall e) := by
  intro g args st v st' hc
  unfold oneCall at hc
  split at hc
  · rename_i hh
    obtain ⟨rfl, rfl⟩ := hh
    simp only [Option.some.injEq, Prod.mk.injEq] at hc
    obtain ⟨rfl, rfl⟩ := hc
    exact h st
  · cases hc

theorem oneCall_self {f : Nat} {args : List V} {v : V} {st : St} : oneCall ⟨f, args, v⟩ (.func f [] []) args st = some (v, st) := by simp [oneCall]
theorem oneCall_ne {f g : Nat} {a c args args' : List V} {v : V} {st : St} (h : ¬ g = f) : oneCall ⟨f, args, v⟩ (.func g a c) args' st = none := by simp [oneCall, h]
theorem orCall_eq {a b : CallT} {g : V} {args : List V} {st : St} : orCall a b g args st = match a g args st with | some r => some r | none => b g args st := rfl
theorem gCall_ne {f g : Nat} {a c args args' : List V} {v : V} {k : List (Nat × O)} {st : St} (h : Nat.beq f g = false) : gCall ⟨f, args, v, k⟩ (.func g a c) args' st = none := by
  unfold gCall
  split
  · rename_i e; cases e; simp only [h]
  · rfl
theorem beq_false {a b : Int} (h : a ≠ b) : (a == b) = false := by simpa using h
theorem bne_true {a b : Int} (h : a ≠ b) : (a != b) = true := by simpa using h
abbrev zSt : V := .agg [.str [], .int .i64 0, .bool false, .bool false]
def acts11 : List (List UInt8) := [[115, 116, 97, 114, 116], [99, 108, 111, 115, 101], [111, 112, 101, 110], [115, 116, 111, 112], [115, 97, 116, 117, 114, 97, 116, 101], [99, 108, 101, 97, 114], [108, 111, 115, 101], [102, 105, 110, 100], [103, 117, 115, 116], [99, 97, 108, 109], [114, 101, 115, 101, 116]]
theorem other11 {a : List UInt8} (h : a ∉ acts11) : (∀ b ∈ acts11, (a == b) = false) ∧ ∀ b ∈ acts11, (b == a) = false := by
  constructor
  · intro b hb; simp only [beq_eq_false_iff_ne, ne_eq]; rintro rfl; exact h hb
  · intro b hb; simp only [beq_eq_false_iff_ne, ne_eq]; rintro rfl; exact h hb

end Go.Mx
