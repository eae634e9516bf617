/-
  The acts of a valid state: program and reference agree.
-/
import Derived.Test.YtkdpkgfpnimekaaGreatDoorStO
import Derived.Test.YtkdpkgfpnimekaaGreatDoorStU
import Derived.Test.YtkdpkgfpnimekaaGreatDoorStP
import Derived.Test.YtkdpkgfpnimekaaGreatDoorStR
import Derived.Test.YtkdpkgfpnimekaaGreatDoorStQ
import Derived.Test.YtkdpkgfpnimekaaGreatDoorProg
set_option linter.all false
namespace Go.Mx
open Go Go.Proofs
set_option maxRecDepth 1000000
set_option linter.unusedSimpArgs false
set_option linter.unusedVariables false

def states13 : List (List UInt8 × Int × Bool × Bool) := [(wIdle, 0, false, false), (wIdle, 0, true, false), (wIdle, 0, false, true), (wIdle, 0, true, true), (wOpen, 0, false, false), (wOpen, 0, true, false), (wClosed, 0, false, false), (wClosed, 1, false, false), (wClosed, 2, false, false), (wSafe, 0, false, false), (wSafe, 0, true, false), (wSafe, 0, false, true), (wSafe, 0, true, true)]

theorem chk_zero {m : List UInt8} {s : Int} {l w : Bool} (h : chk m s l w = 0) : (m, s, l, w) ∈ states13 := by
  unfold chk at h
  split at h
  · rename_i hm
    split at h
    · cases h
    · rename_i hs
      split at h
      · cases h
      · rename_i hb
        have h3 : s = 0 ∨ s = 1 ∨ s = 2 := by omega
        rcases hm with rfl | rfl | rfl | rfl <;> rcases h3 with rfl | rfl | rfl <;> cases l <;> cases w <;> first | decide | (exfalso; exact hb (by decide))
  · cases h

def agree (f g : Nat) (L L' : List PEnt) (q : List UInt8 × Int × Bool × Bool) (a : List UInt8) : Bool :=
  match pFind L f [stV q.1 q.2.1 q.2.2.1 q.2.2.2, .str a], pFind L' g [stV q.1 q.2.1 q.2.2.1 q.2.2.2, .str a] with
  | some (.tup [.agg [.str m, .int .i64 s, .bool l, .bool w], .int .i64 e]), some v => V.beq v (.tup [stV m s l w, .int .i64 e])
  | _, _ => false

theorem agree_all : (states13.all fun q => acts11.all fun a => agree 5 9 A.L_pipelineAct A.L_lensletref09Act q a) = true := by decide +kernel

/-- CheckState, as calls. -/
theorem pCheck_pure (m : List UInt8) (s : Int) (l w : Bool) : Pure Tryz.prog ⟨12, [stV m s l w], .int .i64 (chk m s l w)⟩ :=
  Pure.of_run (mcallX_ok A.progOk.m A.progOk.e A.progOk.t noCall_ok 100 10) A.globals (pCheck_run m s l w) rfl rfl
theorem rCheck_pure (m : List UInt8) (s : Int) (l w : Bool) : Pure Tryz.prog ⟨8, [stV m s l w], .int .i64 (chk m s l w)⟩ :=
  Pure.of_run (mcallX_ok A.progOk.m A.progOk.e A.progOk.t noCall_ok 100 10) A.globals (rCheck_run m s l w) rfl rfl

theorem A.LS_pure : ∀ e ∈ A.LS, Pure Tryz.prog e := by
  intro e he
  simp only [A.LS, List.mem_cons, List.mem_nil_iff, or_false] at he
  rcases he with rfl | rfl | rfl | rfl | rfl | rfl | rfl | rfl | rfl | rfl | rfl | rfl | rfl
  · exact pCheck_pure wIdle 0 false false
  · exact pCheck_pure wIdle 0 true false
  · exact pCheck_pure wIdle 0 false true
  · exact pCheck_pure wIdle 0 true true
  · exact pCheck_pure wOpen 0 false false
  · exact pCheck_pure wOpen 0 true false
  · exact pCheck_pure wClosed 0 false false
  · exact pCheck_pure wClosed 1 false false
  · exact pCheck_pure wClosed 2 false false
  · exact pCheck_pure wSafe 0 false false
  · exact pCheck_pure wSafe 0 true false
  · exact pCheck_pure wSafe 0 false true
  · exact pCheck_pure wSafe 0 true true

theorem act_valid {m : List UInt8} {s : Int} {l w : Bool} (h : chk m s l w = 0) (a : List UInt8) : ∃ m' s' l' w' e,
    Pure Tryz.prog ⟨5, [stV m s l w, .str a], .tup [stV m' s' l' w', .int .i64 e]⟩ ∧ Pure Tryz.prog ⟨9, [stV m s l w, .str a], .tup [stV m' s' l' w', .int .i64 e]⟩ := by
  by_cases ha : a ∈ acts11
  · have h1 := List.all_eq_true.1 (List.all_eq_true.1 agree_all _ (chk_zero h)) a ha
    unfold agree at h1
    split at h1
    · rename_i m' s' l' w' e v hp hr
      have := V.beq_eq _ _ h1; subst this
      obtain ⟨x, x1, x2, x3, x4⟩ := pFind_mem hp
      obtain ⟨y, y1, y2, y3, y4⟩ := pFind_mem hr
      have p1 := A.L_pipelineAct_ok A.progOk A.LS_pure x x1
      have p2 := A.L_lensletref09Act_ok A.progOk A.LS_pure y y1
      obtain ⟨xf, xa, xv⟩ := x
      obtain ⟨yf, ya, yv⟩ := y
      simp only at x2 x3 x4 y2 y3 y4
      subst x2 x3 x4 y2 y3 y4
      exact ⟨m', s', l', w', e, p1, p2⟩
    · cases h1
  · refine ⟨[], 0, false, false, 13, ?_, ?_⟩
    · have h0 : Pure Tryz.prog ⟨12, [stV m s l w], .int .i64 0⟩ := h ▸ pCheck_pure m s l w
      exact Pure.of_run (mcallX_ok A.progOk.m A.progOk.e A.progOk.t (oneCall_ok h0) 200 10) A.globals (act_other m a s l w ha) rfl rfl
    · exact Pure.of_run (mcallX_ok A.progOk.m A.progOk.e A.progOk.t noCall_ok 200 10) A.globals (ract_other m a s l w ha) rfl rfl

end Go.Mx
