/-
  PipelineSafe: its loop.
-/
import Derived.Test.YtkdpkgfpnimekaaGreatDoorSaX
import Derived.Test.YtkdpkgfpnimekaaGreatDoorSaR0
import Derived.Test.YtkdpkgfpnimekaaGreatDoorSaR1
import Derived.Test.YtkdpkgfpnimekaaGreatDoorSaR2
import Derived.Test.YtkdpkgfpnimekaaGreatDoorSaR3
import Derived.Test.YtkdpkgfpnimekaaGreatDoorSaR4
import Derived.Test.YtkdpkgfpnimekaaGreatDoorSaR5
import Derived.Test.YtkdpkgfpnimekaaGreatDoorProg
set_option linter.all false
namespace Go.Mx
open Go Go.Proofs
set_option maxRecDepth 1000000
set_option linter.unusedSimpArgs false
set_option linter.unusedVariables false

theorem Post.mono {r : Option (Ex × Fr × St)} {Q Q' : Ex → Fr → St → Prop} (h : Post r Q) (hq : ∀ e fr st, Q e fr st → Q' e fr st) : Post r Q' := let ⟨e, fr, st, h1, h2⟩ := h.ex; ⟨e, fr, st, h1, hq _ _ _ h2⟩

/-- Before round k, in some valid state. -/
def SOk (p q i : Nat) (L : Nat) (arg : V) (cs : List V) (e : TypeId) (k : Nat) (fr : Fr) (st : St) : Prop :=
  ∃ t ∈ states13, SInv p q i L arg cs e k t.1 t.2.1 t.2.2.1 t.2.2.2 fr st

section
variable (g : Nat) (p q i L : Nat) (o : Nat) (cp : Option Nat) (cs : List V) (e : TypeId) (k : Nat) (b : Int) (fr : Fr) (st : St) (hk : k < L) (hb : cs[o + k]? = some (.int .u8 b)) (hb0 : 0 ≤ b) (hb1 : b < 256) (hL : L ≤ 40)
include hk hb hb0 hb1 hL

theorem step_0 (h : SInv p q i L (.slice i o L cp 1) cs e k wIdle 0 false false fr st) : Post (mcode (mcallX A.X (cFunc Tryz.prog) 200 10) (g + 60) none A.lb4 fr st) fun ex fr st => ex = .normal ∧ SOk p q i L (.slice i o L cp 1) cs e (k + 1) fr st := by
  have hm := Int.tmod_eq_emod_of_nonneg (b := 11) hb0
  have hc : b.tmod 11 = 0 ∨ b.tmod 11 = 1 ∨ b.tmod 11 = 2 ∨ b.tmod 11 = 3 ∨ b.tmod 11 = 4 ∨ b.tmod 11 = 5 ∨ b.tmod 11 = 6 ∨ b.tmod 11 = 7 ∨ b.tmod 11 = 8 ∨ b.tmod 11 = 9 ∨ b.tmod 11 = 10 := by rw [hm]; omega
  rcases hc with hc | hc | hc | hc | hc | hc | hc | hc | hc | hc | hc
  · exact (round_0_0 A.X g p q i L o cp cs e k b fr st h hk hb hb0 hb1 hc hL A.X5_0_0 A.X6_0 A.X7_4 A.X8_4 A.X16).mono fun _ _ _ ⟨h1, h2⟩ => ⟨h1, (wOpen, 0, false, false), by decide, h2⟩
  · exact (round_0_1 A.X g p q i L o cp cs e k b fr st h hk hb hb0 hb1 hc hL A.X5_0_1 A.X6_0 A.X16).mono fun _ _ _ ⟨h1, h2⟩ => ⟨h1, (wIdle, 0, false, false), by decide, h2⟩
  · exact (round_0_2 A.X g p q i L o cp cs e k b fr st h hk hb hb0 hb1 hc hL A.X5_0_2 A.X6_0 A.X16).mono fun _ _ _ ⟨h1, h2⟩ => ⟨h1, (wIdle, 0, false, false), by decide, h2⟩
  · exact (round_0_3 A.X g p q i L o cp cs e k b fr st h hk hb hb0 hb1 hc hL A.X5_0_3 A.X6_0 A.X16).mono fun _ _ _ ⟨h1, h2⟩ => ⟨h1, (wIdle, 0, false, false), by decide, h2⟩
  · exact (round_0_4 A.X g p q i L o cp cs e k b fr st h hk hb hb0 hb1 hc hL A.X5_0_4 A.X6_0 A.X16).mono fun _ _ _ ⟨h1, h2⟩ => ⟨h1, (wIdle, 0, false, false), by decide, h2⟩
  · exact (round_0_5 A.X g p q i L o cp cs e k b fr st h hk hb hb0 hb1 hc hL A.X5_0_5 A.X6_0 A.X16).mono fun _ _ _ ⟨h1, h2⟩ => ⟨h1, (wIdle, 0, false, false), by decide, h2⟩
  · exact (round_0_6 A.X g p q i L o cp cs e k b fr st h hk hb hb0 hb1 hc hL A.X5_0_6 A.X6_0 A.X7_1 A.X8_1 A.X16).mono fun _ _ _ ⟨h1, h2⟩ => ⟨h1, (wIdle, 0, true, false), by decide, h2⟩
  · exact (round_0_7 A.X g p q i L o cp cs e k b fr st h hk hb hb0 hb1 hc hL A.X5_0_7 A.X6_0 A.X16).mono fun _ _ _ ⟨h1, h2⟩ => ⟨h1, (wIdle, 0, false, false), by decide, h2⟩
  · exact (round_0_8 A.X g p q i L o cp cs e k b fr st h hk hb hb0 hb1 hc hL A.X5_0_8 A.X6_0 A.X7_2 A.X8_2 A.X16).mono fun _ _ _ ⟨h1, h2⟩ => ⟨h1, (wIdle, 0, false, true), by decide, h2⟩
  · exact (round_0_9 A.X g p q i L o cp cs e k b fr st h hk hb hb0 hb1 hc hL A.X5_0_9 A.X6_0 A.X16).mono fun _ _ _ ⟨h1, h2⟩ => ⟨h1, (wIdle, 0, false, false), by decide, h2⟩
  · exact (round_0_10 A.X g p q i L o cp cs e k b fr st h hk hb hb0 hb1 hc hL A.X5_0_10 A.X6_0 A.X16).mono fun _ _ _ ⟨h1, h2⟩ => ⟨h1, (wIdle, 0, false, false), by decide, h2⟩

theorem step_1 (h : SInv p q i L (.slice i o L cp 1) cs e k wIdle 0 true false fr st) : Post (mcode (mcallX A.X (cFunc Tryz.prog) 200 10) (g + 60) none A.lb4 fr st) fun ex fr st => ex = .normal ∧ SOk p q i L (.slice i o L cp 1) cs e (k + 1) fr st := by
  have hm := Int.tmod_eq_emod_of_nonneg (b := 11) hb0
  have hc : b.tmod 11 = 0 ∨ b.tmod 11 = 1 ∨ b.tmod 11 = 2 ∨ b.tmod 11 = 3 ∨ b.tmod 11 = 4 ∨ b.tmod 11 = 5 ∨ b.tmod 11 = 6 ∨ b.tmod 11 = 7 ∨ b.tmod 11 = 8 ∨ b.tmod 11 = 9 ∨ b.tmod 11 = 10 := by rw [hm]; omega
  rcases hc with hc | hc | hc | hc | hc | hc | hc | hc | hc | hc | hc
  · exact (round_1_0 A.X g p q i L o cp cs e k b fr st h hk hb hb0 hb1 hc hL A.X5_1_0 A.X6_1 A.X7_5 A.X8_5 A.X16).mono fun _ _ _ ⟨h1, h2⟩ => ⟨h1, (wOpen, 0, true, false), by decide, h2⟩
  · exact (round_1_1 A.X g p q i L o cp cs e k b fr st h hk hb hb0 hb1 hc hL A.X5_1_1 A.X6_1 A.X16).mono fun _ _ _ ⟨h1, h2⟩ => ⟨h1, (wIdle, 0, true, false), by decide, h2⟩
  · exact (round_1_2 A.X g p q i L o cp cs e k b fr st h hk hb hb0 hb1 hc hL A.X5_1_2 A.X6_1 A.X16).mono fun _ _ _ ⟨h1, h2⟩ => ⟨h1, (wIdle, 0, true, false), by decide, h2⟩
  · exact (round_1_3 A.X g p q i L o cp cs e k b fr st h hk hb hb0 hb1 hc hL A.X5_1_3 A.X6_1 A.X16).mono fun _ _ _ ⟨h1, h2⟩ => ⟨h1, (wIdle, 0, true, false), by decide, h2⟩
  · exact (round_1_4 A.X g p q i L o cp cs e k b fr st h hk hb hb0 hb1 hc hL A.X5_1_4 A.X6_1 A.X16).mono fun _ _ _ ⟨h1, h2⟩ => ⟨h1, (wIdle, 0, true, false), by decide, h2⟩
  · exact (round_1_5 A.X g p q i L o cp cs e k b fr st h hk hb hb0 hb1 hc hL A.X5_1_5 A.X6_1 A.X16).mono fun _ _ _ ⟨h1, h2⟩ => ⟨h1, (wIdle, 0, true, false), by decide, h2⟩
  · exact (round_1_6 A.X g p q i L o cp cs e k b fr st h hk hb hb0 hb1 hc hL A.X5_1_6 A.X6_1 A.X16).mono fun _ _ _ ⟨h1, h2⟩ => ⟨h1, (wIdle, 0, true, false), by decide, h2⟩
  · exact (round_1_7 A.X g p q i L o cp cs e k b fr st h hk hb hb0 hb1 hc hL A.X5_1_7 A.X6_1 A.X7_0 A.X8_0 A.X16).mono fun _ _ _ ⟨h1, h2⟩ => ⟨h1, (wIdle, 0, false, false), by decide, h2⟩
  · exact (round_1_8 A.X g p q i L o cp cs e k b fr st h hk hb hb0 hb1 hc hL A.X5_1_8 A.X6_1 A.X7_3 A.X8_3 A.X16).mono fun _ _ _ ⟨h1, h2⟩ => ⟨h1, (wIdle, 0, true, true), by decide, h2⟩
  · exact (round_1_9 A.X g p q i L o cp cs e k b fr st h hk hb hb0 hb1 hc hL A.X5_1_9 A.X6_1 A.X16).mono fun _ _ _ ⟨h1, h2⟩ => ⟨h1, (wIdle, 0, true, false), by decide, h2⟩
  · exact (round_1_10 A.X g p q i L o cp cs e k b fr st h hk hb hb0 hb1 hc hL A.X5_1_10 A.X6_1 A.X16).mono fun _ _ _ ⟨h1, h2⟩ => ⟨h1, (wIdle, 0, true, false), by decide, h2⟩

theorem step_2 (h : SInv p q i L (.slice i o L cp 1) cs e k wIdle 0 false true fr st) : Post (mcode (mcallX A.X (cFunc Tryz.prog) 200 10) (g + 60) none A.lb4 fr st) fun ex fr st => ex = .normal ∧ SOk p q i L (.slice i o L cp 1) cs e (k + 1) fr st := by
  have hm := Int.tmod_eq_emod_of_nonneg (b := 11) hb0
  have hc : b.tmod 11 = 0 ∨ b.tmod 11 = 1 ∨ b.tmod 11 = 2 ∨ b.tmod 11 = 3 ∨ b.tmod 11 = 4 ∨ b.tmod 11 = 5 ∨ b.tmod 11 = 6 ∨ b.tmod 11 = 7 ∨ b.tmod 11 = 8 ∨ b.tmod 11 = 9 ∨ b.tmod 11 = 10 := by rw [hm]; omega
  rcases hc with hc | hc | hc | hc | hc | hc | hc | hc | hc | hc | hc
  · exact (round_2_0 A.X g p q i L o cp cs e k b fr st h hk hb hb0 hb1 hc hL A.X5_2_0 A.X6_2 A.X16).mono fun _ _ _ ⟨h1, h2⟩ => ⟨h1, (wIdle, 0, false, true), by decide, h2⟩
  · exact (round_2_1 A.X g p q i L o cp cs e k b fr st h hk hb hb0 hb1 hc hL A.X5_2_1 A.X6_2 A.X16).mono fun _ _ _ ⟨h1, h2⟩ => ⟨h1, (wIdle, 0, false, true), by decide, h2⟩
  · exact (round_2_2 A.X g p q i L o cp cs e k b fr st h hk hb hb0 hb1 hc hL A.X5_2_2 A.X6_2 A.X16).mono fun _ _ _ ⟨h1, h2⟩ => ⟨h1, (wIdle, 0, false, true), by decide, h2⟩
  · exact (round_2_3 A.X g p q i L o cp cs e k b fr st h hk hb hb0 hb1 hc hL A.X5_2_3 A.X6_2 A.X16).mono fun _ _ _ ⟨h1, h2⟩ => ⟨h1, (wIdle, 0, false, true), by decide, h2⟩
  · exact (round_2_4 A.X g p q i L o cp cs e k b fr st h hk hb hb0 hb1 hc hL A.X5_2_4 A.X6_2 A.X16).mono fun _ _ _ ⟨h1, h2⟩ => ⟨h1, (wIdle, 0, false, true), by decide, h2⟩
  · exact (round_2_5 A.X g p q i L o cp cs e k b fr st h hk hb hb0 hb1 hc hL A.X5_2_5 A.X6_2 A.X16).mono fun _ _ _ ⟨h1, h2⟩ => ⟨h1, (wIdle, 0, false, true), by decide, h2⟩
  · exact (round_2_6 A.X g p q i L o cp cs e k b fr st h hk hb hb0 hb1 hc hL A.X5_2_6 A.X6_2 A.X7_3 A.X8_3 A.X16).mono fun _ _ _ ⟨h1, h2⟩ => ⟨h1, (wIdle, 0, true, true), by decide, h2⟩
  · exact (round_2_7 A.X g p q i L o cp cs e k b fr st h hk hb hb0 hb1 hc hL A.X5_2_7 A.X6_2 A.X16).mono fun _ _ _ ⟨h1, h2⟩ => ⟨h1, (wIdle, 0, false, true), by decide, h2⟩
  · exact (round_2_8 A.X g p q i L o cp cs e k b fr st h hk hb hb0 hb1 hc hL A.X5_2_8 A.X6_2 A.X16).mono fun _ _ _ ⟨h1, h2⟩ => ⟨h1, (wIdle, 0, false, true), by decide, h2⟩
  · exact (round_2_9 A.X g p q i L o cp cs e k b fr st h hk hb hb0 hb1 hc hL A.X5_2_9 A.X6_2 A.X7_0 A.X8_0 A.X16).mono fun _ _ _ ⟨h1, h2⟩ => ⟨h1, (wIdle, 0, false, false), by decide, h2⟩
  · exact (round_2_10 A.X g p q i L o cp cs e k b fr st h hk hb hb0 hb1 hc hL A.X5_2_10 A.X6_2 A.X16).mono fun _ _ _ ⟨h1, h2⟩ => ⟨h1, (wIdle, 0, false, true), by decide, h2⟩

theorem step_3 (h : SInv p q i L (.slice i o L cp 1) cs e k wIdle 0 true true fr st) : Post (mcode (mcallX A.X (cFunc Tryz.prog) 200 10) (g + 60) none A.lb4 fr st) fun ex fr st => ex = .normal ∧ SOk p q i L (.slice i o L cp 1) cs e (k + 1) fr st := by
  have hm := Int.tmod_eq_emod_of_nonneg (b := 11) hb0
  have hc : b.tmod 11 = 0 ∨ b.tmod 11 = 1 ∨ b.tmod 11 = 2 ∨ b.tmod 11 = 3 ∨ b.tmod 11 = 4 ∨ b.tmod 11 = 5 ∨ b.tmod 11 = 6 ∨ b.tmod 11 = 7 ∨ b.tmod 11 = 8 ∨ b.tmod 11 = 9 ∨ b.tmod 11 = 10 := by rw [hm]; omega
  rcases hc with hc | hc | hc | hc | hc | hc | hc | hc | hc | hc | hc
  · exact (round_3_0 A.X g p q i L o cp cs e k b fr st h hk hb hb0 hb1 hc hL A.X5_3_0 A.X6_3 A.X16).mono fun _ _ _ ⟨h1, h2⟩ => ⟨h1, (wIdle, 0, true, true), by decide, h2⟩
  · exact (round_3_1 A.X g p q i L o cp cs e k b fr st h hk hb hb0 hb1 hc hL A.X5_3_1 A.X6_3 A.X16).mono fun _ _ _ ⟨h1, h2⟩ => ⟨h1, (wIdle, 0, true, true), by decide, h2⟩
  · exact (round_3_2 A.X g p q i L o cp cs e k b fr st h hk hb hb0 hb1 hc hL A.X5_3_2 A.X6_3 A.X16).mono fun _ _ _ ⟨h1, h2⟩ => ⟨h1, (wIdle, 0, true, true), by decide, h2⟩
  · exact (round_3_3 A.X g p q i L o cp cs e k b fr st h hk hb hb0 hb1 hc hL A.X5_3_3 A.X6_3 A.X16).mono fun _ _ _ ⟨h1, h2⟩ => ⟨h1, (wIdle, 0, true, true), by decide, h2⟩
  · exact (round_3_4 A.X g p q i L o cp cs e k b fr st h hk hb hb0 hb1 hc hL A.X5_3_4 A.X6_3 A.X16).mono fun _ _ _ ⟨h1, h2⟩ => ⟨h1, (wIdle, 0, true, true), by decide, h2⟩
  · exact (round_3_5 A.X g p q i L o cp cs e k b fr st h hk hb hb0 hb1 hc hL A.X5_3_5 A.X6_3 A.X16).mono fun _ _ _ ⟨h1, h2⟩ => ⟨h1, (wIdle, 0, true, true), by decide, h2⟩
  · exact (round_3_6 A.X g p q i L o cp cs e k b fr st h hk hb hb0 hb1 hc hL A.X5_3_6 A.X6_3 A.X16).mono fun _ _ _ ⟨h1, h2⟩ => ⟨h1, (wIdle, 0, true, true), by decide, h2⟩
  · exact (round_3_7 A.X g p q i L o cp cs e k b fr st h hk hb hb0 hb1 hc hL A.X5_3_7 A.X6_3 A.X7_2 A.X8_2 A.X16).mono fun _ _ _ ⟨h1, h2⟩ => ⟨h1, (wIdle, 0, false, true), by decide, h2⟩
  · exact (round_3_8 A.X g p q i L o cp cs e k b fr st h hk hb hb0 hb1 hc hL A.X5_3_8 A.X6_3 A.X16).mono fun _ _ _ ⟨h1, h2⟩ => ⟨h1, (wIdle, 0, true, true), by decide, h2⟩
  · exact (round_3_9 A.X g p q i L o cp cs e k b fr st h hk hb hb0 hb1 hc hL A.X5_3_9 A.X6_3 A.X7_1 A.X8_1 A.X16).mono fun _ _ _ ⟨h1, h2⟩ => ⟨h1, (wIdle, 0, true, false), by decide, h2⟩
  · exact (round_3_10 A.X g p q i L o cp cs e k b fr st h hk hb hb0 hb1 hc hL A.X5_3_10 A.X6_3 A.X16).mono fun _ _ _ ⟨h1, h2⟩ => ⟨h1, (wIdle, 0, true, true), by decide, h2⟩

theorem step_4 (h : SInv p q i L (.slice i o L cp 1) cs e k wOpen 0 false false fr st) : Post (mcode (mcallX A.X (cFunc Tryz.prog) 200 10) (g + 60) none A.lb4 fr st) fun ex fr st => ex = .normal ∧ SOk p q i L (.slice i o L cp 1) cs e (k + 1) fr st := by
  have hm := Int.tmod_eq_emod_of_nonneg (b := 11) hb0
  have hc : b.tmod 11 = 0 ∨ b.tmod 11 = 1 ∨ b.tmod 11 = 2 ∨ b.tmod 11 = 3 ∨ b.tmod 11 = 4 ∨ b.tmod 11 = 5 ∨ b.tmod 11 = 6 ∨ b.tmod 11 = 7 ∨ b.tmod 11 = 8 ∨ b.tmod 11 = 9 ∨ b.tmod 11 = 10 := by rw [hm]; omega
  rcases hc with hc | hc | hc | hc | hc | hc | hc | hc | hc | hc | hc
  · exact (round_4_0 A.X g p q i L o cp cs e k b fr st h hk hb hb0 hb1 hc hL A.X5_4_0 A.X6_4 A.X16).mono fun _ _ _ ⟨h1, h2⟩ => ⟨h1, (wOpen, 0, false, false), by decide, h2⟩
  · exact (round_4_1 A.X g p q i L o cp cs e k b fr st h hk hb hb0 hb1 hc hL A.X5_4_1 A.X6_4 A.X7_6 A.X8_6 A.X16).mono fun _ _ _ ⟨h1, h2⟩ => ⟨h1, (wClosed, 0, false, false), by decide, h2⟩
  · exact (round_4_2 A.X g p q i L o cp cs e k b fr st h hk hb hb0 hb1 hc hL A.X5_4_2 A.X6_4 A.X16).mono fun _ _ _ ⟨h1, h2⟩ => ⟨h1, (wOpen, 0, false, false), by decide, h2⟩
  · exact (round_4_3 A.X g p q i L o cp cs e k b fr st h hk hb hb0 hb1 hc hL A.X5_4_3 A.X6_4 A.X7_0 A.X8_0 A.X16).mono fun _ _ _ ⟨h1, h2⟩ => ⟨h1, (wIdle, 0, false, false), by decide, h2⟩
  · exact (round_4_4 A.X g p q i L o cp cs e k b fr st h hk hb hb0 hb1 hc hL A.X5_4_4 A.X6_4 A.X16).mono fun _ _ _ ⟨h1, h2⟩ => ⟨h1, (wOpen, 0, false, false), by decide, h2⟩
  · exact (round_4_5 A.X g p q i L o cp cs e k b fr st h hk hb hb0 hb1 hc hL A.X5_4_5 A.X6_4 A.X16).mono fun _ _ _ ⟨h1, h2⟩ => ⟨h1, (wOpen, 0, false, false), by decide, h2⟩
  · exact (round_4_6 A.X g p q i L o cp cs e k b fr st h hk hb hb0 hb1 hc hL A.X5_4_6 A.X6_4 A.X7_5 A.X8_5 A.X16).mono fun _ _ _ ⟨h1, h2⟩ => ⟨h1, (wOpen, 0, true, false), by decide, h2⟩
  · exact (round_4_7 A.X g p q i L o cp cs e k b fr st h hk hb hb0 hb1 hc hL A.X5_4_7 A.X6_4 A.X16).mono fun _ _ _ ⟨h1, h2⟩ => ⟨h1, (wOpen, 0, false, false), by decide, h2⟩
  · exact (round_4_8 A.X g p q i L o cp cs e k b fr st h hk hb hb0 hb1 hc hL A.X5_4_8 A.X6_4 A.X7_11 A.X8_11 A.X16).mono fun _ _ _ ⟨h1, h2⟩ => ⟨h1, (wSafe, 0, false, true), by decide, h2⟩
  · exact (round_4_9 A.X g p q i L o cp cs e k b fr st h hk hb hb0 hb1 hc hL A.X5_4_9 A.X6_4 A.X16).mono fun _ _ _ ⟨h1, h2⟩ => ⟨h1, (wOpen, 0, false, false), by decide, h2⟩
  · exact (round_4_10 A.X g p q i L o cp cs e k b fr st h hk hb hb0 hb1 hc hL A.X5_4_10 A.X6_4 A.X16).mono fun _ _ _ ⟨h1, h2⟩ => ⟨h1, (wOpen, 0, false, false), by decide, h2⟩

theorem step_5 (h : SInv p q i L (.slice i o L cp 1) cs e k wOpen 0 true false fr st) : Post (mcode (mcallX A.X (cFunc Tryz.prog) 200 10) (g + 60) none A.lb4 fr st) fun ex fr st => ex = .normal ∧ SOk p q i L (.slice i o L cp 1) cs e (k + 1) fr st := by
  have hm := Int.tmod_eq_emod_of_nonneg (b := 11) hb0
  have hc : b.tmod 11 = 0 ∨ b.tmod 11 = 1 ∨ b.tmod 11 = 2 ∨ b.tmod 11 = 3 ∨ b.tmod 11 = 4 ∨ b.tmod 11 = 5 ∨ b.tmod 11 = 6 ∨ b.tmod 11 = 7 ∨ b.tmod 11 = 8 ∨ b.tmod 11 = 9 ∨ b.tmod 11 = 10 := by rw [hm]; omega
  rcases hc with hc | hc | hc | hc | hc | hc | hc | hc | hc | hc | hc
  · exact (round_5_0 A.X g p q i L o cp cs e k b fr st h hk hb hb0 hb1 hc hL A.X5_5_0 A.X6_5 A.X16).mono fun _ _ _ ⟨h1, h2⟩ => ⟨h1, (wOpen, 0, true, false), by decide, h2⟩
  · exact (round_5_1 A.X g p q i L o cp cs e k b fr st h hk hb hb0 hb1 hc hL A.X5_5_1 A.X6_5 A.X16).mono fun _ _ _ ⟨h1, h2⟩ => ⟨h1, (wOpen, 0, true, false), by decide, h2⟩
  · exact (round_5_2 A.X g p q i L o cp cs e k b fr st h hk hb hb0 hb1 hc hL A.X5_5_2 A.X6_5 A.X16).mono fun _ _ _ ⟨h1, h2⟩ => ⟨h1, (wOpen, 0, true, false), by decide, h2⟩
  · exact (round_5_3 A.X g p q i L o cp cs e k b fr st h hk hb hb0 hb1 hc hL A.X5_5_3 A.X6_5 A.X7_1 A.X8_1 A.X16).mono fun _ _ _ ⟨h1, h2⟩ => ⟨h1, (wIdle, 0, true, false), by decide, h2⟩
  · exact (round_5_4 A.X g p q i L o cp cs e k b fr st h hk hb hb0 hb1 hc hL A.X5_5_4 A.X6_5 A.X16).mono fun _ _ _ ⟨h1, h2⟩ => ⟨h1, (wOpen, 0, true, false), by decide, h2⟩
  · exact (round_5_5 A.X g p q i L o cp cs e k b fr st h hk hb hb0 hb1 hc hL A.X5_5_5 A.X6_5 A.X16).mono fun _ _ _ ⟨h1, h2⟩ => ⟨h1, (wOpen, 0, true, false), by decide, h2⟩
  · exact (round_5_6 A.X g p q i L o cp cs e k b fr st h hk hb hb0 hb1 hc hL A.X5_5_6 A.X6_5 A.X16).mono fun _ _ _ ⟨h1, h2⟩ => ⟨h1, (wOpen, 0, true, false), by decide, h2⟩
  · exact (round_5_7 A.X g p q i L o cp cs e k b fr st h hk hb hb0 hb1 hc hL A.X5_5_7 A.X6_5 A.X7_4 A.X8_4 A.X16).mono fun _ _ _ ⟨h1, h2⟩ => ⟨h1, (wOpen, 0, false, false), by decide, h2⟩
  · exact (round_5_8 A.X g p q i L o cp cs e k b fr st h hk hb hb0 hb1 hc hL A.X5_5_8 A.X6_5 A.X7_12 A.X8_12 A.X16).mono fun _ _ _ ⟨h1, h2⟩ => ⟨h1, (wSafe, 0, true, true), by decide, h2⟩
  · exact (round_5_9 A.X g p q i L o cp cs e k b fr st h hk hb hb0 hb1 hc hL A.X5_5_9 A.X6_5 A.X16).mono fun _ _ _ ⟨h1, h2⟩ => ⟨h1, (wOpen, 0, true, false), by decide, h2⟩
  · exact (round_5_10 A.X g p q i L o cp cs e k b fr st h hk hb hb0 hb1 hc hL A.X5_5_10 A.X6_5 A.X16).mono fun _ _ _ ⟨h1, h2⟩ => ⟨h1, (wOpen, 0, true, false), by decide, h2⟩

theorem step_6 (h : SInv p q i L (.slice i o L cp 1) cs e k wClosed 0 false false fr st) : Post (mcode (mcallX A.X (cFunc Tryz.prog) 200 10) (g + 60) none A.lb4 fr st) fun ex fr st => ex = .normal ∧ SOk p q i L (.slice i o L cp 1) cs e (k + 1) fr st := by
  have hm := Int.tmod_eq_emod_of_nonneg (b := 11) hb0
  have hc : b.tmod 11 = 0 ∨ b.tmod 11 = 1 ∨ b.tmod 11 = 2 ∨ b.tmod 11 = 3 ∨ b.tmod 11 = 4 ∨ b.tmod 11 = 5 ∨ b.tmod 11 = 6 ∨ b.tmod 11 = 7 ∨ b.tmod 11 = 8 ∨ b.tmod 11 = 9 ∨ b.tmod 11 = 10 := by rw [hm]; omega
  rcases hc with hc | hc | hc | hc | hc | hc | hc | hc | hc | hc | hc
  · exact (round_6_0 A.X g p q i L o cp cs e k b fr st h hk hb hb0 hb1 hc hL A.X5_6_0 A.X6_6 A.X16).mono fun _ _ _ ⟨h1, h2⟩ => ⟨h1, (wClosed, 0, false, false), by decide, h2⟩
  · exact (round_6_1 A.X g p q i L o cp cs e k b fr st h hk hb hb0 hb1 hc hL A.X5_6_1 A.X6_6 A.X16).mono fun _ _ _ ⟨h1, h2⟩ => ⟨h1, (wClosed, 0, false, false), by decide, h2⟩
  · exact (round_6_2 A.X g p q i L o cp cs e k b fr st h hk hb hb0 hb1 hc hL A.X5_6_2 A.X6_6 A.X7_4 A.X8_4 A.X16).mono fun _ _ _ ⟨h1, h2⟩ => ⟨h1, (wOpen, 0, false, false), by decide, h2⟩
  · exact (round_6_3 A.X g p q i L o cp cs e k b fr st h hk hb hb0 hb1 hc hL A.X5_6_3 A.X6_6 A.X7_0 A.X8_0 A.X16).mono fun _ _ _ ⟨h1, h2⟩ => ⟨h1, (wIdle, 0, false, false), by decide, h2⟩
  · exact (round_6_4 A.X g p q i L o cp cs e k b fr st h hk hb hb0 hb1 hc hL A.X5_6_4 A.X6_6 A.X7_7 A.X8_7 A.X16).mono fun _ _ _ ⟨h1, h2⟩ => ⟨h1, (wClosed, 1, false, false), by decide, h2⟩
  · exact (round_6_5 A.X g p q i L o cp cs e k b fr st h hk hb hb0 hb1 hc hL A.X5_6_5 A.X6_6 A.X7_6 A.X8_6 A.X16).mono fun _ _ _ ⟨h1, h2⟩ => ⟨h1, (wClosed, 0, false, false), by decide, h2⟩
  · exact (round_6_6 A.X g p q i L o cp cs e k b fr st h hk hb hb0 hb1 hc hL A.X5_6_6 A.X6_6 A.X7_10 A.X8_10 A.X16).mono fun _ _ _ ⟨h1, h2⟩ => ⟨h1, (wSafe, 0, true, false), by decide, h2⟩
  · exact (round_6_7 A.X g p q i L o cp cs e k b fr st h hk hb hb0 hb1 hc hL A.X5_6_7 A.X6_6 A.X16).mono fun _ _ _ ⟨h1, h2⟩ => ⟨h1, (wClosed, 0, false, false), by decide, h2⟩
  · exact (round_6_8 A.X g p q i L o cp cs e k b fr st h hk hb hb0 hb1 hc hL A.X5_6_8 A.X6_6 A.X7_11 A.X8_11 A.X16).mono fun _ _ _ ⟨h1, h2⟩ => ⟨h1, (wSafe, 0, false, true), by decide, h2⟩
  · exact (round_6_9 A.X g p q i L o cp cs e k b fr st h hk hb hb0 hb1 hc hL A.X5_6_9 A.X6_6 A.X16).mono fun _ _ _ ⟨h1, h2⟩ => ⟨h1, (wClosed, 0, false, false), by decide, h2⟩
  · exact (round_6_10 A.X g p q i L o cp cs e k b fr st h hk hb hb0 hb1 hc hL A.X5_6_10 A.X6_6 A.X16).mono fun _ _ _ ⟨h1, h2⟩ => ⟨h1, (wClosed, 0, false, false), by decide, h2⟩

theorem step_7 (h : SInv p q i L (.slice i o L cp 1) cs e k wClosed 1 false false fr st) : Post (mcode (mcallX A.X (cFunc Tryz.prog) 200 10) (g + 60) none A.lb4 fr st) fun ex fr st => ex = .normal ∧ SOk p q i L (.slice i o L cp 1) cs e (k + 1) fr st := by
  have hm := Int.tmod_eq_emod_of_nonneg (b := 11) hb0
  have hc : b.tmod 11 = 0 ∨ b.tmod 11 = 1 ∨ b.tmod 11 = 2 ∨ b.tmod 11 = 3 ∨ b.tmod 11 = 4 ∨ b.tmod 11 = 5 ∨ b.tmod 11 = 6 ∨ b.tmod 11 = 7 ∨ b.tmod 11 = 8 ∨ b.tmod 11 = 9 ∨ b.tmod 11 = 10 := by rw [hm]; omega
  rcases hc with hc | hc | hc | hc | hc | hc | hc | hc | hc | hc | hc
  · exact (round_7_0 A.X g p q i L o cp cs e k b fr st h hk hb hb0 hb1 hc hL A.X5_7_0 A.X6_7 A.X16).mono fun _ _ _ ⟨h1, h2⟩ => ⟨h1, (wClosed, 1, false, false), by decide, h2⟩
  · exact (round_7_1 A.X g p q i L o cp cs e k b fr st h hk hb hb0 hb1 hc hL A.X5_7_1 A.X6_7 A.X16).mono fun _ _ _ ⟨h1, h2⟩ => ⟨h1, (wClosed, 1, false, false), by decide, h2⟩
  · exact (round_7_2 A.X g p q i L o cp cs e k b fr st h hk hb hb0 hb1 hc hL A.X5_7_2 A.X6_7 A.X7_4 A.X8_4 A.X16).mono fun _ _ _ ⟨h1, h2⟩ => ⟨h1, (wOpen, 0, false, false), by decide, h2⟩
  · exact (round_7_3 A.X g p q i L o cp cs e k b fr st h hk hb hb0 hb1 hc hL A.X5_7_3 A.X6_7 A.X7_0 A.X8_0 A.X16).mono fun _ _ _ ⟨h1, h2⟩ => ⟨h1, (wIdle, 0, false, false), by decide, h2⟩
  · exact (round_7_4 A.X g p q i L o cp cs e k b fr st h hk hb hb0 hb1 hc hL A.X5_7_4 A.X6_7 A.X7_8 A.X8_8 A.X16).mono fun _ _ _ ⟨h1, h2⟩ => ⟨h1, (wClosed, 2, false, false), by decide, h2⟩
  · exact (round_7_5 A.X g p q i L o cp cs e k b fr st h hk hb hb0 hb1 hc hL A.X5_7_5 A.X6_7 A.X7_6 A.X8_6 A.X16).mono fun _ _ _ ⟨h1, h2⟩ => ⟨h1, (wClosed, 0, false, false), by decide, h2⟩
  · exact (round_7_6 A.X g p q i L o cp cs e k b fr st h hk hb hb0 hb1 hc hL A.X5_7_6 A.X6_7 A.X7_10 A.X8_10 A.X16).mono fun _ _ _ ⟨h1, h2⟩ => ⟨h1, (wSafe, 0, true, false), by decide, h2⟩
  · exact (round_7_7 A.X g p q i L o cp cs e k b fr st h hk hb hb0 hb1 hc hL A.X5_7_7 A.X6_7 A.X16).mono fun _ _ _ ⟨h1, h2⟩ => ⟨h1, (wClosed, 1, false, false), by decide, h2⟩
  · exact (round_7_8 A.X g p q i L o cp cs e k b fr st h hk hb hb0 hb1 hc hL A.X5_7_8 A.X6_7 A.X7_11 A.X8_11 A.X16).mono fun _ _ _ ⟨h1, h2⟩ => ⟨h1, (wSafe, 0, false, true), by decide, h2⟩
  · exact (round_7_9 A.X g p q i L o cp cs e k b fr st h hk hb hb0 hb1 hc hL A.X5_7_9 A.X6_7 A.X16).mono fun _ _ _ ⟨h1, h2⟩ => ⟨h1, (wClosed, 1, false, false), by decide, h2⟩
  · exact (round_7_10 A.X g p q i L o cp cs e k b fr st h hk hb hb0 hb1 hc hL A.X5_7_10 A.X6_7 A.X16).mono fun _ _ _ ⟨h1, h2⟩ => ⟨h1, (wClosed, 1, false, false), by decide, h2⟩

theorem step_8 (h : SInv p q i L (.slice i o L cp 1) cs e k wClosed 2 false false fr st) : Post (mcode (mcallX A.X (cFunc Tryz.prog) 200 10) (g + 60) none A.lb4 fr st) fun ex fr st => ex = .normal ∧ SOk p q i L (.slice i o L cp 1) cs e (k + 1) fr st := by
  have hm := Int.tmod_eq_emod_of_nonneg (b := 11) hb0
  have hc : b.tmod 11 = 0 ∨ b.tmod 11 = 1 ∨ b.tmod 11 = 2 ∨ b.tmod 11 = 3 ∨ b.tmod 11 = 4 ∨ b.tmod 11 = 5 ∨ b.tmod 11 = 6 ∨ b.tmod 11 = 7 ∨ b.tmod 11 = 8 ∨ b.tmod 11 = 9 ∨ b.tmod 11 = 10 := by rw [hm]; omega
  rcases hc with hc | hc | hc | hc | hc | hc | hc | hc | hc | hc | hc
  · exact (round_8_0 A.X g p q i L o cp cs e k b fr st h hk hb hb0 hb1 hc hL A.X5_8_0 A.X6_8 A.X16).mono fun _ _ _ ⟨h1, h2⟩ => ⟨h1, (wClosed, 2, false, false), by decide, h2⟩
  · exact (round_8_1 A.X g p q i L o cp cs e k b fr st h hk hb hb0 hb1 hc hL A.X5_8_1 A.X6_8 A.X16).mono fun _ _ _ ⟨h1, h2⟩ => ⟨h1, (wClosed, 2, false, false), by decide, h2⟩
  · exact (round_8_2 A.X g p q i L o cp cs e k b fr st h hk hb hb0 hb1 hc hL A.X5_8_2 A.X6_8 A.X7_4 A.X8_4 A.X16).mono fun _ _ _ ⟨h1, h2⟩ => ⟨h1, (wOpen, 0, false, false), by decide, h2⟩
  · exact (round_8_3 A.X g p q i L o cp cs e k b fr st h hk hb hb0 hb1 hc hL A.X5_8_3 A.X6_8 A.X7_0 A.X8_0 A.X16).mono fun _ _ _ ⟨h1, h2⟩ => ⟨h1, (wIdle, 0, false, false), by decide, h2⟩
  · exact (round_8_4 A.X g p q i L o cp cs e k b fr st h hk hb hb0 hb1 hc hL A.X5_8_4 A.X6_8 A.X7_9 A.X8_9 A.X16).mono fun _ _ _ ⟨h1, h2⟩ => ⟨h1, (wSafe, 0, false, false), by decide, h2⟩
  · exact (round_8_5 A.X g p q i L o cp cs e k b fr st h hk hb hb0 hb1 hc hL A.X5_8_5 A.X6_8 A.X7_6 A.X8_6 A.X16).mono fun _ _ _ ⟨h1, h2⟩ => ⟨h1, (wClosed, 0, false, false), by decide, h2⟩
  · exact (round_8_6 A.X g p q i L o cp cs e k b fr st h hk hb hb0 hb1 hc hL A.X5_8_6 A.X6_8 A.X7_10 A.X8_10 A.X16).mono fun _ _ _ ⟨h1, h2⟩ => ⟨h1, (wSafe, 0, true, false), by decide, h2⟩
  · exact (round_8_7 A.X g p q i L o cp cs e k b fr st h hk hb hb0 hb1 hc hL A.X5_8_7 A.X6_8 A.X16).mono fun _ _ _ ⟨h1, h2⟩ => ⟨h1, (wClosed, 2, false, false), by decide, h2⟩
  · exact (round_8_8 A.X g p q i L o cp cs e k b fr st h hk hb hb0 hb1 hc hL A.X5_8_8 A.X6_8 A.X7_11 A.X8_11 A.X16).mono fun _ _ _ ⟨h1, h2⟩ => ⟨h1, (wSafe, 0, false, true), by decide, h2⟩
  · exact (round_8_9 A.X g p q i L o cp cs e k b fr st h hk hb hb0 hb1 hc hL A.X5_8_9 A.X6_8 A.X16).mono fun _ _ _ ⟨h1, h2⟩ => ⟨h1, (wClosed, 2, false, false), by decide, h2⟩
  · exact (round_8_10 A.X g p q i L o cp cs e k b fr st h hk hb hb0 hb1 hc hL A.X5_8_10 A.X6_8 A.X16).mono fun _ _ _ ⟨h1, h2⟩ => ⟨h1, (wClosed, 2, false, false), by decide, h2⟩

theorem step_9 (h : SInv p q i L (.slice i o L cp 1) cs e k wSafe 0 false false fr st) : Post (mcode (mcallX A.X (cFunc Tryz.prog) 200 10) (g + 60) none A.lb4 fr st) fun ex fr st => ex = .normal ∧ SOk p q i L (.slice i o L cp 1) cs e (k + 1) fr st := by
  have hm := Int.tmod_eq_emod_of_nonneg (b := 11) hb0
  have hc : b.tmod 11 = 0 ∨ b.tmod 11 = 1 ∨ b.tmod 11 = 2 ∨ b.tmod 11 = 3 ∨ b.tmod 11 = 4 ∨ b.tmod 11 = 5 ∨ b.tmod 11 = 6 ∨ b.tmod 11 = 7 ∨ b.tmod 11 = 8 ∨ b.tmod 11 = 9 ∨ b.tmod 11 = 10 := by rw [hm]; omega
  rcases hc with hc | hc | hc | hc | hc | hc | hc | hc | hc | hc | hc
  · exact (round_9_0 A.X g p q i L o cp cs e k b fr st h hk hb hb0 hb1 hc hL A.X5_9_0 A.X6_9 A.X16).mono fun _ _ _ ⟨h1, h2⟩ => ⟨h1, (wSafe, 0, false, false), by decide, h2⟩
  · exact (round_9_1 A.X g p q i L o cp cs e k b fr st h hk hb hb0 hb1 hc hL A.X5_9_1 A.X6_9 A.X16).mono fun _ _ _ ⟨h1, h2⟩ => ⟨h1, (wSafe, 0, false, false), by decide, h2⟩
  · exact (round_9_2 A.X g p q i L o cp cs e k b fr st h hk hb hb0 hb1 hc hL A.X5_9_2 A.X6_9 A.X16).mono fun _ _ _ ⟨h1, h2⟩ => ⟨h1, (wSafe, 0, false, false), by decide, h2⟩
  · exact (round_9_3 A.X g p q i L o cp cs e k b fr st h hk hb hb0 hb1 hc hL A.X5_9_3 A.X6_9 A.X16).mono fun _ _ _ ⟨h1, h2⟩ => ⟨h1, (wSafe, 0, false, false), by decide, h2⟩
  · exact (round_9_4 A.X g p q i L o cp cs e k b fr st h hk hb hb0 hb1 hc hL A.X5_9_4 A.X6_9 A.X16).mono fun _ _ _ ⟨h1, h2⟩ => ⟨h1, (wSafe, 0, false, false), by decide, h2⟩
  · exact (round_9_5 A.X g p q i L o cp cs e k b fr st h hk hb hb0 hb1 hc hL A.X5_9_5 A.X6_9 A.X16).mono fun _ _ _ ⟨h1, h2⟩ => ⟨h1, (wSafe, 0, false, false), by decide, h2⟩
  · exact (round_9_6 A.X g p q i L o cp cs e k b fr st h hk hb hb0 hb1 hc hL A.X5_9_6 A.X6_9 A.X7_10 A.X8_10 A.X16).mono fun _ _ _ ⟨h1, h2⟩ => ⟨h1, (wSafe, 0, true, false), by decide, h2⟩
  · exact (round_9_7 A.X g p q i L o cp cs e k b fr st h hk hb hb0 hb1 hc hL A.X5_9_7 A.X6_9 A.X16).mono fun _ _ _ ⟨h1, h2⟩ => ⟨h1, (wSafe, 0, false, false), by decide, h2⟩
  · exact (round_9_8 A.X g p q i L o cp cs e k b fr st h hk hb hb0 hb1 hc hL A.X5_9_8 A.X6_9 A.X7_11 A.X8_11 A.X16).mono fun _ _ _ ⟨h1, h2⟩ => ⟨h1, (wSafe, 0, false, true), by decide, h2⟩
  · exact (round_9_9 A.X g p q i L o cp cs e k b fr st h hk hb hb0 hb1 hc hL A.X5_9_9 A.X6_9 A.X16).mono fun _ _ _ ⟨h1, h2⟩ => ⟨h1, (wSafe, 0, false, false), by decide, h2⟩
  · exact (round_9_10 A.X g p q i L o cp cs e k b fr st h hk hb hb0 hb1 hc hL A.X5_9_10 A.X6_9 A.X7_0 A.X8_0 A.X16).mono fun _ _ _ ⟨h1, h2⟩ => ⟨h1, (wIdle, 0, false, false), by decide, h2⟩

theorem step_10 (h : SInv p q i L (.slice i o L cp 1) cs e k wSafe 0 true false fr st) : Post (mcode (mcallX A.X (cFunc Tryz.prog) 200 10) (g + 60) none A.lb4 fr st) fun ex fr st => ex = .normal ∧ SOk p q i L (.slice i o L cp 1) cs e (k + 1) fr st := by
  have hm := Int.tmod_eq_emod_of_nonneg (b := 11) hb0
  have hc : b.tmod 11 = 0 ∨ b.tmod 11 = 1 ∨ b.tmod 11 = 2 ∨ b.tmod 11 = 3 ∨ b.tmod 11 = 4 ∨ b.tmod 11 = 5 ∨ b.tmod 11 = 6 ∨ b.tmod 11 = 7 ∨ b.tmod 11 = 8 ∨ b.tmod 11 = 9 ∨ b.tmod 11 = 10 := by rw [hm]; omega
  rcases hc with hc | hc | hc | hc | hc | hc | hc | hc | hc | hc | hc
  · exact (round_10_0 A.X g p q i L o cp cs e k b fr st h hk hb hb0 hb1 hc hL A.X5_10_0 A.X6_10 A.X16).mono fun _ _ _ ⟨h1, h2⟩ => ⟨h1, (wSafe, 0, true, false), by decide, h2⟩
  · exact (round_10_1 A.X g p q i L o cp cs e k b fr st h hk hb hb0 hb1 hc hL A.X5_10_1 A.X6_10 A.X16).mono fun _ _ _ ⟨h1, h2⟩ => ⟨h1, (wSafe, 0, true, false), by decide, h2⟩
  · exact (round_10_2 A.X g p q i L o cp cs e k b fr st h hk hb hb0 hb1 hc hL A.X5_10_2 A.X6_10 A.X16).mono fun _ _ _ ⟨h1, h2⟩ => ⟨h1, (wSafe, 0, true, false), by decide, h2⟩
  · exact (round_10_3 A.X g p q i L o cp cs e k b fr st h hk hb hb0 hb1 hc hL A.X5_10_3 A.X6_10 A.X16).mono fun _ _ _ ⟨h1, h2⟩ => ⟨h1, (wSafe, 0, true, false), by decide, h2⟩
  · exact (round_10_4 A.X g p q i L o cp cs e k b fr st h hk hb hb0 hb1 hc hL A.X5_10_4 A.X6_10 A.X16).mono fun _ _ _ ⟨h1, h2⟩ => ⟨h1, (wSafe, 0, true, false), by decide, h2⟩
  · exact (round_10_5 A.X g p q i L o cp cs e k b fr st h hk hb hb0 hb1 hc hL A.X5_10_5 A.X6_10 A.X16).mono fun _ _ _ ⟨h1, h2⟩ => ⟨h1, (wSafe, 0, true, false), by decide, h2⟩
  · exact (round_10_6 A.X g p q i L o cp cs e k b fr st h hk hb hb0 hb1 hc hL A.X5_10_6 A.X6_10 A.X16).mono fun _ _ _ ⟨h1, h2⟩ => ⟨h1, (wSafe, 0, true, false), by decide, h2⟩
  · exact (round_10_7 A.X g p q i L o cp cs e k b fr st h hk hb hb0 hb1 hc hL A.X5_10_7 A.X6_10 A.X7_9 A.X8_9 A.X16).mono fun _ _ _ ⟨h1, h2⟩ => ⟨h1, (wSafe, 0, false, false), by decide, h2⟩
  · exact (round_10_8 A.X g p q i L o cp cs e k b fr st h hk hb hb0 hb1 hc hL A.X5_10_8 A.X6_10 A.X7_12 A.X8_12 A.X16).mono fun _ _ _ ⟨h1, h2⟩ => ⟨h1, (wSafe, 0, true, true), by decide, h2⟩
  · exact (round_10_9 A.X g p q i L o cp cs e k b fr st h hk hb hb0 hb1 hc hL A.X5_10_9 A.X6_10 A.X16).mono fun _ _ _ ⟨h1, h2⟩ => ⟨h1, (wSafe, 0, true, false), by decide, h2⟩
  · exact (round_10_10 A.X g p q i L o cp cs e k b fr st h hk hb hb0 hb1 hc hL A.X5_10_10 A.X6_10 A.X7_1 A.X8_1 A.X16).mono fun _ _ _ ⟨h1, h2⟩ => ⟨h1, (wIdle, 0, true, false), by decide, h2⟩

theorem step_11 (h : SInv p q i L (.slice i o L cp 1) cs e k wSafe 0 false true fr st) : Post (mcode (mcallX A.X (cFunc Tryz.prog) 200 10) (g + 60) none A.lb4 fr st) fun ex fr st => ex = .normal ∧ SOk p q i L (.slice i o L cp 1) cs e (k + 1) fr st := by
  have hm := Int.tmod_eq_emod_of_nonneg (b := 11) hb0
  have hc : b.tmod 11 = 0 ∨ b.tmod 11 = 1 ∨ b.tmod 11 = 2 ∨ b.tmod 11 = 3 ∨ b.tmod 11 = 4 ∨ b.tmod 11 = 5 ∨ b.tmod 11 = 6 ∨ b.tmod 11 = 7 ∨ b.tmod 11 = 8 ∨ b.tmod 11 = 9 ∨ b.tmod 11 = 10 := by rw [hm]; omega
  rcases hc with hc | hc | hc | hc | hc | hc | hc | hc | hc | hc | hc
  · exact (round_11_0 A.X g p q i L o cp cs e k b fr st h hk hb hb0 hb1 hc hL A.X5_11_0 A.X6_11 A.X16).mono fun _ _ _ ⟨h1, h2⟩ => ⟨h1, (wSafe, 0, false, true), by decide, h2⟩
  · exact (round_11_1 A.X g p q i L o cp cs e k b fr st h hk hb hb0 hb1 hc hL A.X5_11_1 A.X6_11 A.X16).mono fun _ _ _ ⟨h1, h2⟩ => ⟨h1, (wSafe, 0, false, true), by decide, h2⟩
  · exact (round_11_2 A.X g p q i L o cp cs e k b fr st h hk hb hb0 hb1 hc hL A.X5_11_2 A.X6_11 A.X16).mono fun _ _ _ ⟨h1, h2⟩ => ⟨h1, (wSafe, 0, false, true), by decide, h2⟩
  · exact (round_11_3 A.X g p q i L o cp cs e k b fr st h hk hb hb0 hb1 hc hL A.X5_11_3 A.X6_11 A.X16).mono fun _ _ _ ⟨h1, h2⟩ => ⟨h1, (wSafe, 0, false, true), by decide, h2⟩
  · exact (round_11_4 A.X g p q i L o cp cs e k b fr st h hk hb hb0 hb1 hc hL A.X5_11_4 A.X6_11 A.X16).mono fun _ _ _ ⟨h1, h2⟩ => ⟨h1, (wSafe, 0, false, true), by decide, h2⟩
  · exact (round_11_5 A.X g p q i L o cp cs e k b fr st h hk hb hb0 hb1 hc hL A.X5_11_5 A.X6_11 A.X16).mono fun _ _ _ ⟨h1, h2⟩ => ⟨h1, (wSafe, 0, false, true), by decide, h2⟩
  · exact (round_11_6 A.X g p q i L o cp cs e k b fr st h hk hb hb0 hb1 hc hL A.X5_11_6 A.X6_11 A.X7_12 A.X8_12 A.X16).mono fun _ _ _ ⟨h1, h2⟩ => ⟨h1, (wSafe, 0, true, true), by decide, h2⟩
  · exact (round_11_7 A.X g p q i L o cp cs e k b fr st h hk hb hb0 hb1 hc hL A.X5_11_7 A.X6_11 A.X16).mono fun _ _ _ ⟨h1, h2⟩ => ⟨h1, (wSafe, 0, false, true), by decide, h2⟩
  · exact (round_11_8 A.X g p q i L o cp cs e k b fr st h hk hb hb0 hb1 hc hL A.X5_11_8 A.X6_11 A.X16).mono fun _ _ _ ⟨h1, h2⟩ => ⟨h1, (wSafe, 0, false, true), by decide, h2⟩
  · exact (round_11_9 A.X g p q i L o cp cs e k b fr st h hk hb hb0 hb1 hc hL A.X5_11_9 A.X6_11 A.X7_9 A.X8_9 A.X16).mono fun _ _ _ ⟨h1, h2⟩ => ⟨h1, (wSafe, 0, false, false), by decide, h2⟩
  · exact (round_11_10 A.X g p q i L o cp cs e k b fr st h hk hb hb0 hb1 hc hL A.X5_11_10 A.X6_11 A.X16).mono fun _ _ _ ⟨h1, h2⟩ => ⟨h1, (wSafe, 0, false, true), by decide, h2⟩

theorem step_12 (h : SInv p q i L (.slice i o L cp 1) cs e k wSafe 0 true true fr st) : Post (mcode (mcallX A.X (cFunc Tryz.prog) 200 10) (g + 60) none A.lb4 fr st) fun ex fr st => ex = .normal ∧ SOk p q i L (.slice i o L cp 1) cs e (k + 1) fr st := by
  have hm := Int.tmod_eq_emod_of_nonneg (b := 11) hb0
  have hc : b.tmod 11 = 0 ∨ b.tmod 11 = 1 ∨ b.tmod 11 = 2 ∨ b.tmod 11 = 3 ∨ b.tmod 11 = 4 ∨ b.tmod 11 = 5 ∨ b.tmod 11 = 6 ∨ b.tmod 11 = 7 ∨ b.tmod 11 = 8 ∨ b.tmod 11 = 9 ∨ b.tmod 11 = 10 := by rw [hm]; omega
  rcases hc with hc | hc | hc | hc | hc | hc | hc | hc | hc | hc | hc
  · exact (round_12_0 A.X g p q i L o cp cs e k b fr st h hk hb hb0 hb1 hc hL A.X5_12_0 A.X6_12 A.X16).mono fun _ _ _ ⟨h1, h2⟩ => ⟨h1, (wSafe, 0, true, true), by decide, h2⟩
  · exact (round_12_1 A.X g p q i L o cp cs e k b fr st h hk hb hb0 hb1 hc hL A.X5_12_1 A.X6_12 A.X16).mono fun _ _ _ ⟨h1, h2⟩ => ⟨h1, (wSafe, 0, true, true), by decide, h2⟩
  · exact (round_12_2 A.X g p q i L o cp cs e k b fr st h hk hb hb0 hb1 hc hL A.X5_12_2 A.X6_12 A.X16).mono fun _ _ _ ⟨h1, h2⟩ => ⟨h1, (wSafe, 0, true, true), by decide, h2⟩
  · exact (round_12_3 A.X g p q i L o cp cs e k b fr st h hk hb hb0 hb1 hc hL A.X5_12_3 A.X6_12 A.X16).mono fun _ _ _ ⟨h1, h2⟩ => ⟨h1, (wSafe, 0, true, true), by decide, h2⟩
  · exact (round_12_4 A.X g p q i L o cp cs e k b fr st h hk hb hb0 hb1 hc hL A.X5_12_4 A.X6_12 A.X16).mono fun _ _ _ ⟨h1, h2⟩ => ⟨h1, (wSafe, 0, true, true), by decide, h2⟩
  · exact (round_12_5 A.X g p q i L o cp cs e k b fr st h hk hb hb0 hb1 hc hL A.X5_12_5 A.X6_12 A.X16).mono fun _ _ _ ⟨h1, h2⟩ => ⟨h1, (wSafe, 0, true, true), by decide, h2⟩
  · exact (round_12_6 A.X g p q i L o cp cs e k b fr st h hk hb hb0 hb1 hc hL A.X5_12_6 A.X6_12 A.X16).mono fun _ _ _ ⟨h1, h2⟩ => ⟨h1, (wSafe, 0, true, true), by decide, h2⟩
  · exact (round_12_7 A.X g p q i L o cp cs e k b fr st h hk hb hb0 hb1 hc hL A.X5_12_7 A.X6_12 A.X7_11 A.X8_11 A.X16).mono fun _ _ _ ⟨h1, h2⟩ => ⟨h1, (wSafe, 0, false, true), by decide, h2⟩
  · exact (round_12_8 A.X g p q i L o cp cs e k b fr st h hk hb hb0 hb1 hc hL A.X5_12_8 A.X6_12 A.X16).mono fun _ _ _ ⟨h1, h2⟩ => ⟨h1, (wSafe, 0, true, true), by decide, h2⟩
  · exact (round_12_9 A.X g p q i L o cp cs e k b fr st h hk hb hb0 hb1 hc hL A.X5_12_9 A.X6_12 A.X7_10 A.X8_10 A.X16).mono fun _ _ _ ⟨h1, h2⟩ => ⟨h1, (wSafe, 0, true, false), by decide, h2⟩
  · exact (round_12_10 A.X g p q i L o cp cs e k b fr st h hk hb hb0 hb1 hc hL A.X5_12_10 A.X6_12 A.X16).mono fun _ _ _ ⟨h1, h2⟩ => ⟨h1, (wSafe, 0, true, true), by decide, h2⟩

theorem step (h : SOk p q i L (.slice i o L cp 1) cs e k fr st) : Post (mcode (mcallX A.X (cFunc Tryz.prog) 200 10) (g + 60) none A.lb4 fr st) fun ex fr st => ex = .normal ∧ SOk p q i L (.slice i o L cp 1) cs e (k + 1) fr st := by
  obtain ⟨t, ht, h⟩ := h
  simp only [states13, List.mem_cons, List.mem_nil_iff, or_false] at ht
  rcases ht with rfl | rfl | rfl | rfl | rfl | rfl | rfl | rfl | rfl | rfl | rfl | rfl | rfl
  · exact step_0 g p q i L o cp cs e k b fr st hk hb hb0 hb1 hL h
  · exact step_1 g p q i L o cp cs e k b fr st hk hb hb0 hb1 hL h
  · exact step_2 g p q i L o cp cs e k b fr st hk hb hb0 hb1 hL h
  · exact step_3 g p q i L o cp cs e k b fr st hk hb hb0 hb1 hL h
  · exact step_4 g p q i L o cp cs e k b fr st hk hb hb0 hb1 hL h
  · exact step_5 g p q i L o cp cs e k b fr st hk hb hb0 hb1 hL h
  · exact step_6 g p q i L o cp cs e k b fr st hk hb hb0 hb1 hL h
  · exact step_7 g p q i L o cp cs e k b fr st hk hb hb0 hb1 hL h
  · exact step_8 g p q i L o cp cs e k b fr st hk hb hb0 hb1 hL h
  · exact step_9 g p q i L o cp cs e k b fr st hk hb hb0 hb1 hL h
  · exact step_10 g p q i L o cp cs e k b fr st hk hb hb0 hb1 hL h
  · exact step_11 g p q i L o cp cs e k b fr st hk hb hb0 hb1 hL h
  · exact step_12 g p q i L o cp cs e k b fr st hk hb hb0 hb1 hL h
end

/-- The last look: no round is left. -/
theorem loop_end {call : CallT} {f : Nat} {p q i L : Nat} {arg : V} {cs : List V} {e : TypeId} {fr : Fr} {st : St} (hL : L ≤ 40) (h : SOk p q i L arg cs e L fr st) :
    Post (mcode call (f + 61) none (.loop A.lb4) fr st) fun ex fr st => ex = .exit 0 ∧ fr.n = 138 ∧ fr.marks = [] ∧ ∀ j ∈ st.w, i < j := by
  obtain ⟨t, _, h⟩ := h
  obtain ⟨r, n, mk⟩ := fr
  obtain ⟨hh, N, w⟩ := st
  have h1 := h.n
  have h2 := h.marks
  have h3 := h.r22
  have h4 := h.r23
  have h5 := h.w
  simp only at h1 h2 h3 h4 h5
  subst h1; subst h2
  simp [A.lb4, h3, h4, post_some]
  exact h5

theorem loop_run (p q i L : Nat) (o : Nat) (cp : Option Nat) (cs : List V) (e : TypeId) (hL : L ≤ 40) (hcs : ∀ k, k < L → ∃ b : Int, cs[o + k]? = some (.int .u8 b) ∧ 0 ≤ b ∧ b < 256) :
    ∀ (rest k f : Nat) (fr : Fr) (st : St), k + rest = L → rest + 61 ≤ f → SOk p q i L (.slice i o L cp 1) cs e k fr st →
      Post (mcode (mcallX A.X (cFunc Tryz.prog) 200 10) f none (.loop A.lb4) fr st) fun ex fr st => ex = .exit 0 ∧ fr.n = 138 ∧ fr.marks = [] ∧ ∀ j ∈ st.w, i < j
  | 0, k, f, fr, st, hk, hf, h => by
    obtain ⟨f', rfl⟩ : ∃ f', f = f' + 61 := ⟨f - 61, by omega⟩
    obtain rfl : k = L := by omega
    exact loop_end hL h
  | rest + 1, k, f, fr, st, hk, hf, h => by
    obtain ⟨f', rfl⟩ : ∃ f', f = (f' + 60) + 1 := ⟨f - 61, by omega⟩
    obtain ⟨b, hb, hb0, hb1⟩ := hcs k (by omega)
    obtain ⟨_, fr1, st1, h1, rfl, h2⟩ := (step f' p q i L o cp cs e k b fr st (by omega) hb hb0 hb1 hL h).ex
    rw [mcode_loop, h1, loopK_normal]
    exact loop_run p q i L o cp cs e hL hcs rest (k + 1) (f' + 60) fr1 st1 (by omega) (by omega) h2

theorem oldIds_nil {n : Nat} : ∀ {w : List Nat}, (∀ j ∈ w, n ≤ j) → oldIds n w = []
  | [], _ => rfl
  | j :: w, h => by
    have := h j List.mem_cons_self
    simp only [oldIds]
    rw [if_neg (by omega)]
    exact oldIds_nil fun k hk => h k (List.mem_cons_of_mem _ hk)

theorem loop_elim {call : CallT} {f f' : Nat} {b c : MCode} {fr : Fr} {st st0 : St} {rs : List MRes} {v : V} {Q : Fr → St → Prop} (h : Post (mcode call f none (.loop c) fr st) fun ex fr st => ex = .exit 0 ∧ Q fr st)
    (hq : ∀ fr st, Q fr st → Gives (finK rs st0 (seqK call f' none b (some (.normal, fr, st)))) v) : Gives (finK rs st0 (seqK call f' none b (blockK 0 (mcode call f none (.loop c) fr st)))) v := by
  obtain ⟨_, fr1, st1, h1, rfl, h2⟩ := h.ex
  rw [h1, blockK_exit]
  exact hq fr1 st1 h2

end Go.Mx
