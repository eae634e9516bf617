/-
  From a run over a heap that holds one slice of bytes to a call of the Go model.
-/
import Derived.Test.YtkdpkgfpnimekaaGreatDoorMxUse
set_option linter.all false
namespace Go.Mx
open Go

/-- What a run of a function's body gives for a call, from whatever heap. -/
theorem run_calls_at {P : Program} {tbl : Nat → Option MFunc} {G : Nat} (hP : ProgOk P tbl G) {x : CallT} (hx : CallOk P x) {F d : Nat} {f : FuncId} {mf : MFunc} (hf : cFunc P f = some mf) {args : List V} {xs : List Value} {v : V} {y : Value} {S : St} {μ : Mu} {W : World}
    (h : Gives (funcRun mf (mcode (mcallX x tbl F d) F) args S) v) (hh : HRel P μ W S) (hS : S.w = []) (hargs : VRs μ args xs) (hv : ∀ μ z, VR μ v z → z = y) :
    Calls P f ⟨xs⟩ W fun e W' => e = .returned y ∧ RowKit.Below W.heap.size W W' := by
  obtain ⟨s, hrun, hw⟩ := h.ex
  obtain ⟨fn, hfn, _⟩ := cFunc_fn hf
  have ih := mcallX_ok hP.m hP.e hP.t hx F d
  have := func_ok (code_ok ih hP.e (draw_ok hP.m hP.e ih) (sel_ok ih hP.e) (range_ok ih) F) hfn hf hh hargs hrun
  refine callsIn_wide.1 (CallsIn.mono (F := Fence.wide) this fun e W' he => ?_)
  cases e with
  | returned z =>
    obtain ⟨μ', ws, h1, h2⟩ := he
    have hws : ws = [] := by have := h2.wl; rw [hw, hS] at this; simpa using this.symm
    subst hws
    exact ⟨by rw [hv _ _ h1], h2.chg.os, h2.chg.tape, h2.chg.output, h2.chg.size, fun k hk => h2.chg.block k hk fun i hi => by cases hi⟩
  | panicked _ => exact he.elim
  | outgrown => exact he.elim

/-- A slice of bytes that came in, and the globals. -/
theorem bytes_hrel {P : Program} {W : World} (hW : P.globals.size ≤ W.heap.size) {a : Addr} {len cap : Nat} {ns : Nat → Int} (hl : len ≤ cap) (hp : 0 < cap) (hc : ∀ i, i < cap → W.cell? (a.add i) = some (.int .u8 (ns i))) :
    ∃ (e : TypeId) (μ : Mu), HRel P μ W ⟨(deadT P.globals.size).set P.globals.size (.cells ((List.range cap).map fun i => .int .u8 (ns i)) e false), P.globals.size + 1, []⟩ ∧
      VR μ (.slice P.globals.size 0 len (some cap) 1) (.slice (some a) len cap) := by
  have h0 := hc 0 hp
  have ha0 : a.add 0 = a := by simp [Addr.add]
  rw [ha0] at h0
  obtain ⟨c', e, fr, hb⟩ : ∃ c' e fr, W.heap[a.block]? = some (.cells c' e fr) := by
    unfold World.cell? at h0
    split at h0
    · rename_i c' e fr hb; exact ⟨c', e, fr, hb⟩
    · cases h0
  have hs : a.spot = none := by
    unfold World.cell? at h0
    rw [hb] at h0
    simp only at h0
    split at h0
    · cases h0
    · rename_i h; simpa using h
  have hcell : ∀ i, i < cap → c'[a.off + i]? = some (.int .u8 (ns i)) := fun i hi => by
    have := hc i hi
    unfold World.cell? at this
    have e1 : (a.add i).block = a.block := by unfold Addr.add; split <;> rfl
    have e2 : (a.add i).off = a.off + i := by unfold Addr.add; split <;> simp_all
    have e3 : (a.add i).spot = none := by unfold Addr.add; split <;> simp_all
    rw [e1, hb] at this
    simp only [e2, e3, Option.isSome_none, Bool.false_eq_true, if_false] at this
    exact this
  have hlt : a.block < W.heap.size := by
    rcases Nat.lt_or_ge a.block W.heap.size with h | h
    · exact h
    · rw [Array.getElem?_eq_none h] at hb; cases hb
  have hend : a.off + cap ≤ c'.size := by
    have := hcell (cap - 1) (by omega)
    have h2 := (Array.getElem?_eq_some_iff.1 this).1
    omega
  obtain ⟨lo, hi⟩ := fr
  have hget : ∀ (i : Nat) (o : O), ((deadT P.globals.size).set P.globals.size (.cells ((List.range cap).map fun i => .int .u8 (ns i)) e false)).get i = some o → i < P.globals.size → o = .dead := fun i o h1 h2 => by
    rw [T.get_set, if_neg (by omega), deadT_get _ _ h2] at h1
    cases h1; rfl
  refine ⟨e, fun i => if i < P.globals.size then some ⟨i, 0, 0⟩ else if i = P.globals.size then some ⟨a.block, a.off, cap⟩ else none, ⟨fun i l hl' => ?_, fun i l hl' => ?_, fun i j l l' o o' hi hj hne ho ho' hw hlv => ?_, fun g hg => ⟨0, by simp [hg]⟩⟩, ?_⟩
  · split at hl'
    · rename_i h; simp only [Option.some.injEq] at hl'; subst hl'
      exact ⟨by show i < P.globals.size + 1; omega, by simp only; omega⟩
    · split at hl'
      · simp only [Option.some.injEq] at hl'; subst hl'
        exact ⟨by show i < P.globals.size + 1; omega, hlt⟩
      · cases hl'
  · split at hl'
    · rename_i h
      exact ⟨.dead, by simp only [T.get_set]; rw [if_neg (by omega)]; exact deadT_get _ _ h, trivial⟩
    · split at hl'
      · rename_i h1 h2
        simp only [Option.some.injEq] at hl'; subst hl'; subst h2
        refine ⟨.cells ((List.range cap).map fun i => .int .u8 (ns i)) e false, by simp only [T.get_set, if_true], c', lo, hi, hb, hend, by simp, fun j v hv => ?_, fun j x hj hx => ?_, fun h => by cases h⟩
        · have hj : j < cap := by have := (List.getElem?_eq_some_iff.1 hv).1; simpa using this
          have hv' : v = .int .u8 (ns j) := by simpa [hj] using hv.symm
          subst hv'
          exact ⟨_, hcell j hj, by simp [VR]⟩
        · rw [hcell j hj] at hx; cases hx; rfl
      · cases hl'
  · have hd : o.wr = false := by
      have hi := hi
      split at hi
      · rename_i h; rw [hget i o ho h]; rfl
      · split at hi
        · rename_i h1 h2; subst h2
          simp only [T.get_set, if_true, Option.some.injEq] at ho; subst ho; rfl
        · cases hi
    rw [hd] at hw; cases hw
  · refine ⟨⟨a.block, a.off, cap⟩, cap, by simp, ?_, hl, by simp, fun k hk => by simpa using hk, fun h => by cases h⟩
    obtain ⟨b, off, sp⟩ := a
    simp only at hs
    subst hs
    simp

end Go.Mx
