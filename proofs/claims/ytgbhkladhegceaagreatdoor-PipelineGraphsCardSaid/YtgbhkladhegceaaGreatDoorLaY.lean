/-
  PipelineGraphs: what is known of the seat.
-/
import Derived.Test.YtgbhkladhegceaaGreatDoorLaG
import Derived.Test.YtgbhkladhegceaaGreatDoorMxIn
import Derived.Test.YtgbhkladhegceaaGreatDoorStQ
import Derived.Test.YtgbhkladhegceaaGreatDoorAwOk
import Derived.Test.YtgbhkladhegceaaGreatDoorCards
import Derived.Test.YtgbhkladhegceaaGreatDoorTie
import Derived.WalkKit
import Derived.ProofKit
import Derived.OpenShut
import Derived.Deep.DeepHandedRow
import Derived.Deep.DeepWitnessRowRef
import Derived.Lib.LaidTab
import Derived.Lib.LaidIn
import Derived.Carry
import Derived.ChangeArms
import Derived.Deep.Slices
set_option linter.all false
namespace Go.Mx
open Go Go.Proofs
set_option maxRecDepth 1000000
set_option linter.unusedSimpArgs false
set_option linter.unusedVariables false

theorem A.xOk : CallOk Tryz.prog A.C.x := pCall_ok fun e he => by
  simp only [List.mem_cons, List.not_mem_nil, or_false] at he
  subst he
  exact (A.tab141 A.progOk).p A.p135 List.mem_cons_self

end Go.Mx
/- The statement PipelineGraphs: for every graph of stages the law returns true, and its argument reads behind the call as before. No condition beside the card's own. -/
namespace Go.Proofs.YtgbhkladhegceaaGreatDoor
open Go Go.ChangeShapes Go.WideShapes Go.ChangeAt Go.RowKit
open Go.Deep
set_option maxRecDepth 1000000

theorem own : ownKnob Tryz.prog.godebug = none := by kernel_rfl
theorem laidOut : laidOutB Tryz.prog = true := by kernel_rfl
theorem cells9 : Tryz.prog.cellsOf 9 = 1 := by kernel_rfl
theorem cells3 : Tryz.prog.cellsOf 3 = 1 := by kernel_rfl
theorem cells47 : Tryz.prog.cellsOf 47 = 1 := by kernel_rfl
theorem cells55 : Tryz.prog.cellsOf 55 = 1 := by kernel_rfl
theorem cells57 : Tryz.prog.cellsOf 57 = 5 := by kernel_rfl

theorem zero9 : ((begin Tryz.prog (fun _ _ => 0) default).world.heap[9]?).bind Obj.row? = some ((((begin Tryz.prog (fun _ _ => 0) default).world.heap[9]?).bind Obj.row?).getD (#[], 0)) := by kernel_rfl

theorem globals_lt {W : World} (h : W.ShapedOpen Tryz.prog) : 10 ≤ W.heap.size := by
  obtain ⟨cs, h1, _⟩ := h.1 9 _ _ (by rw [Go.Mx.A.globals]; decide) zero9
  rcases Nat.lt_or_ge 9 W.heap.size with h2 | h2
  · omega
  · rw [Array.getElem?_eq_none h2] at h1; cases h1

theorem add_add (a : Addr) (x y : Nat) : (a.add x).add y = a.add (x + y) := by
  unfold Addr.add
  by_cases hx : x = 0
  · subst hx; simp
  · by_cases hy : y = 0
    · subst hy; simp [hx]
    · simp [hx, hy, Nat.add_assoc]

open Go.Mx in
theorem open_inp {H : Type} {enc : TypeId × Value → H} {W : World} {fuel : Nat} {c : Value} {x : DataW H × List MemPlace}
    (h : DataW.trod enc Tryz.prog W 0 (fun _ => true) true fuel 55 [c] = some x) : ∃ i : InpV, c = i.val ∧ i.ok W ∧ i.strs.length < 9223372036854775808 := by
  rcases open_slice1 Tryz.underlying55 cells9 h with ⟨hc, _⟩ | ⟨a, len, cap, m, n, Vf, D, Pl, hc, _, hl, hmx, hm, _, hx⟩
  · have hc' : c = .slice none 0 0 := by simpa using hc
    exact ⟨.nil, hc', trivial, by simp [InpV.strs]⟩
  · simp only [if_true] at hm
    subst hm
    have hc' : c = .slice (some a) len m := by simpa using hc
    rcases Nat.eq_zero_or_pos m with h0 | h0
    · subst h0
      have : len = 0 := by omega
      subst this
      exact ⟨.emp a, hc', trivial, by simp [InpV.strs]⟩
    · refine ⟨.sl a len m fun i => match Vf i with | .string s => s | _ => ⟨#[]⟩, hc', ⟨hl, h0, fun i hi => ?_⟩, by simp only [InpV.strs, List.length_map, List.length_range]; unfold maxLen at hmx; omega⟩
      obtain ⟨g1, g2⟩ := hx i hi
      obtain ⟨s, e0, _⟩ := DataW.trod_string Tryz.underlying9 g2
      simp only [List.cons.injEq, and_true] at e0
      rw [g1]
      simp only [e0]

open Go.Mx in
theorem open_stage {H : Type} {enc : TypeId × Value → H} {W : World} {fuel : Nat} {cs : List Value} {x : DataW H × List MemPlace}
    (h : DataW.trod enc Tryz.prog W 0 (fun _ => true) true fuel 57 cs = some x) : ∃ s : StgV, (∀ t, t < 5 → cs[t]? = some (s.cell t)) ∧ s.inp.ok W ∧ s.inp.strs.length < 9223372036854775808 := by
  obtain ⟨xs, n, _, rfl, hl, hlen, hf⟩ := DataW.trod_struct Tryz.underlying57 h
  rw [cells57] at hl
  match cs, hl with
  | [c0, c1, c2, c3, c4], _ =>
    match xs, hlen with
    | [y0, y1, y2, y3, y4], _ =>
      have h0 := hf 0 _ rfl
      have h1 := hf 1 _ rfl
      have h2 := hf 2 _ rfl
      have h3 := hf 3 _ rfl
      have h4 := hf 4 _ rfl
      simp [cells9, cells3, cells55, cells47] at h0 h1 h2 h3 h4
      obtain ⟨m0, e0, _⟩ := DataW.trod_string Tryz.underlying9 h0
      obtain ⟨m1, e1, _⟩ := DataW.trod_string Tryz.underlying9 h1
      obtain ⟨m2, e2, _⟩ := DataW.trod_string Tryz.underlying47 h2
      obtain ⟨i3, e3, ok⟩ := open_inp h3
      obtain ⟨m4, e4, _⟩ := DataW.trod_int Tryz.underlying3 h4
      simp only [List.cons.injEq, and_true] at e0 e1 e2 e4
      refine ⟨⟨m0, m1, m2, i3, m4⟩, fun t ht => ?_, ok⟩
      have : t = 0 ∨ t = 1 ∨ t = 2 ∨ t = 3 ∨ t = 4 := by omega
      rcases this with rfl | rfl | rfl | rfl | rfl <;> simp [StgV.cell, e0, e1, e2, e3, e4]

open Go.Mx in
theorem graphs_calls {H : Type} {enc : TypeId × Value → H} {W : World} {a : Option Addr} {len cap fuel : Nat} {x : DataW H × List MemPlace} (hW : 10 ≤ W.heap.size)
    (h : DataW.trod enc Tryz.prog W 0 (fun _ => true) true fuel 22 (Value.slice a len cap).cells.toList = some x) :
    Calls Tryz.prog 3 #[.slice a len cap] W fun e W' => e = .returned (.bool true) ∧ RowKit.Below W.heap.size W W' := by
  have hG : Tryz.prog.globals.size ≤ W.heap.size := by rw [A.globals]; exact hW
  have hret : ∀ (μ : Mu) z, VR μ (.bool true) z → z = .bool true := fun μ z hz => by simpa [VR] using hz
  have hnone : ∀ (args : List V) (st : St), A.C.x (.func 3 [] []) args st = none := fun args st => A.x0 (by decide)
  rcases open_slice Tryz.underlying22 h with ⟨hc, _⟩ | ⟨a', len', cap', m, n, D, Pl, hc, _, hl, hmx, hm, _, hx⟩
  · have hc' : Value.slice a len cap = .slice none 0 0 := by simpa [Value.cells] using hc
    rw [hc']
    exact Cx.calls (S := base Tryz.prog.globals.size) A.progOk A.xOk A.c3 A.c3 (hnone _) (graphs_fn (g := []) ⟨[], Sn.nil, rfl, fun j s hs => by simp at hs⟩ (by simp) (fun s hs => by simp at hs)) (base_hrel hG) rfl (VRs_cons.2 ⟨_, [], rfl, by simp [VR], by simp [VRs]⟩) hret
  · have hc' : Value.slice a len cap = .slice (some a') len' cap' := by simpa [Value.cells] using hc
    rw [hc']
    simp only [if_true] at hm
    subst hm
    rw [cells57] at hx
    rcases Nat.eq_zero_or_pos m with h0 | h0
    · subst h0
      have : len' = 0 := by omega
      subst this
      exact Cx.calls (S := base Tryz.prog.globals.size) A.progOk A.xOk A.c3 A.c3 (hnone _) (graphs_fn (g := []) (v := .empty) ⟨[], .inl ⟨rfl, .inr rfl⟩, rfl, fun j s hs => by simp at hs⟩ (by simp) (fun s hs => by simp at hs)) (base_hrel hG) rfl (VRs_cons.2 ⟨_, [], rfl, by simp [VR], by simp [VRs]⟩) hret
    · have hst : ∀ i, ∃ s : StgV, i < m → (∀ t, t < 5 → W.cell? (a'.add (i * 5 + t)) = some (s.cell t)) ∧ s.inp.ok W ∧ s.inp.strs.length < 9223372036854775808 := fun i => by
        by_cases hi : i < m
        · obtain ⟨cs', g1, g2⟩ := hx i hi
          obtain ⟨s, q1, q2⟩ := open_stage g2
          obtain ⟨_, _, g3⟩ := World.cells?_some g1
          exact ⟨s, fun _ => ⟨fun t ht => by rw [← add_add, g3 t ht]; exact q1 t ht, q2⟩⟩
        · exact ⟨⟨⟨#[]⟩, ⟨#[]⟩, ⟨#[]⟩, .nil, 0⟩, fun h => absurd h hi⟩
      obtain ⟨F, hF⟩ := Classical.axiomOfChoice hst
      obtain ⟨S, μ, v, q1, q2, q3, q4⟩ := graph_hrel hG (F := F) hl h0 (fun j hj => by
        have := (hF (j / 5) (by omega)).1 (j % 5) (Nat.mod_lt _ (by decide))
        rw [show j / 5 * 5 + j % 5 = j by omega] at this
        exact this) (fun i hi => (hF i hi).2.1)
      refine Cx.calls (S := S) A.progOk A.xOk A.c3 A.c3 (hnone _) (graphs_fn q4 (by simp only [List.length_map, List.length_range]; unfold maxLen at hmx; omega) (fun s hs => ?_)) q1 q2 (VRs_cons.2 ⟨_, [], rfl, q3, by simp [VRs]⟩) hret
      obtain ⟨i, hi, rfl⟩ := List.mem_map.1 hs
      have hi' : i < m := by have := List.mem_range.1 hi; omega
      exact (hF i hi').2.2

def lits : DataW Unit → List Value
  | .agg l => l.filterMap fun d => match d with
    | .lit (.int k n) => some (.int k n)
    | _ => none
  | _ => []
def lits2 : DataW Unit → List Value
  | .agg l => l.flatMap lits
  | _ => []

noncomputable def laidWorld (os : Os) : World :=
  let N := (World.settled Tryz.prog os).heap.size
  let w0 := World.holding Tryz.prog os ⟨#[.cells #[.string ⟨#[105, 110, 118, 97, 108, 105, 100, 32, 115, 121, 110, 116, 97, 120]⟩] 375, .cells #[.string ⟨#[118, 97, 108, 117, 101, 32, 111, 117, 116, 32, 111, 102, 32, 114, 97, 110, 103, 101]⟩] 375], #[], []⟩
  let put (h : Array Obj) (g : Nat) (cs : Array Value) : Array Obj := h.modify g fun
    | .cells _ t frozen => .cells cs t frozen
    | o => o
  let h0 := put (put w0.heap 3 #[.iface 373 (.pointer (some ⟨N, 0, none⟩))]) 4 #[.iface 373 (.pointer (some ⟨N + 1, 0, none⟩))]
  let h1 := put h0 5 (lits Rows.laid_internal_strconv_uint64pow10).toArray
  let h2 := put h1 6 (lits Rows.laid_unicode_utf8_first).toArray
  let h3 := put h2 7 (lits2 Rows.laid_unicode_utf8_acceptRanges).toArray
  let h4 := put h3 8 (lits Rows.laid_math_bits_deBruijn32tab).toArray
  let h5 := put h4 9 (lits Rows.laid_math_bits_deBruijn64tab).toArray
  { w0 with heap := h5 }

noncomputable abbrev N0 : Nat := (World.settled Tryz.prog default).heap.size
abbrev wit : Array Value := #[.slice none 0 0]

theorem laid_met (os : Os) : laidMet Tryz.prog Rows.pipelineGraphsRow.laid ((laidWorld os).forCall (fun _ _ => 0) ⟨#[], wit, []⟩).memory :=
  (LaidIn.of_run [8, 9, 5, 7, 4, N0 + 1, 3, N0, 6] 8 (by kernel_rfl) (by kernel_rfl) (by kernel_rfl) (by kernel_rfl)).met

theorem witness_row (os : Os) {H : Type} (enc : TypeId × Value → H) :
    (OpenSpec.ofChange Rows.pipelineGraphsSpec).preRow enc Tryz.prog Tryz.f3 Rows.pipelineGraphsRow.domain false Rows.pipelineGraphsRow.laid ((laidWorld os).forCall (fun _ _ => 0) ⟨#[], wit, []⟩).memory wit := by
  have hw : (DataW.whole enc Tryz.prog ((laidWorld os).forCall (fun _ _ => 0) ⟨#[], wit, []⟩).memory Tryz.f3.params.toList Rows.pipelineGraphsSpec.vars false wit.toList 8).map (fun x => (x.1, x.2.1)) =
      some ([.nil], []) := by kernel_rfl
  obtain ⟨⟨x1, x2, x3⟩, hx, hx1⟩ := Option.map_eq_some_iff.1 hw
  simp only [Prod.mk.injEq] at hx1
  obtain ⟨rfl, rfl⟩ := hx1
  exact OpenSpec.preRow_of_cond 8 hx (by kernel_rfl) (fun k hk => by cases hk) (by kernel_rfl) (laid_met os)

theorem lifted (os : Os) (started : os.Started) (H : Type) (enc : TypeId × Value → H) (F : Stop.Interp) :
    ReturnsInHanded {} Tryz.checked os 3 .any ((OpenSpec.ofChange Rows.pipelineGraphsSpec).preRow enc Tryz.prog Tryz.f3 Rows.pipelineGraphsRow.domain false Rows.pipelineGraphsRow.laid) (((OpenSpec.ofChange Rows.pipelineGraphsSpec).at F).post enc Tryz.prog Tryz.f3 false true false false) := by
  refine returnsInHanded_of_row (C := Tryz.checked) (s := OpenSpec.ofChange Rows.pipelineGraphsSpec) own started (by kernel_rfl) Tryz.func3
    (witness_row_atRef (enc := enc) (C := Tryz.checked) false (laidWorld os) wit rfl (by kernel_rfl) (by kernel_rfl) (by kernel_rfl) (witness_row os enc)) ?_
  intro W base args ds gs before hval0 hW _ _ _ _ hsh _
  have hval : ∀ (j : Nat) t v, Tryz.f3.params[j]? = some t → args[j]? = some v → Value.okWide Tryz.prog W .any base t v := hval0
  have hW' := hW
  obtain ⟨p, q, hA0, hV0, rfl, _, _⟩ := hW
  have hA : DataW.TrodAll enc Tryz.prog W 0 (fun _ => true) true Tryz.f3.params.toList args.toList ds p := hA0
  rw [Tryz.params3] at hA hval
  obtain ⟨v0, d0, rfl, rfl, h0⟩ := trodAll_one hA
  obtain ⟨rfl, rfl⟩ := trodVars_none hV0
  have h0k := h0
  obtain ⟨a0, lt, ct, rfl⟩ := okWide_slice Tryz.underlying22 (hval 0 22 v0 rfl rfl)
  obtain ⟨fuel, hf⟩ := h0
  clear hA0 hV0 hval0
  simp only [List.append_nil] at hW'
  have hlt : ∀ x ∈ p, x.block < W.heap.size := fun x hx => by simpa using hW'.lt x hx
  refine (graphs_calls (globals_lt hsh) hf).mono ?_
  rintro e W' ⟨rfl, bel⟩
  have e1 : ((OpenSpec.ofChange Rows.pipelineGraphsSpec).at F).fn H ([d0] ++ []) = { results := [.lit (.bool true)], args := [d0] } := rfl
  refine ⟨_, rfl, _, _, _, [], p, [], hW', ?_, ?_, ?_, bel.frame _, fun h => by cases h⟩
  · rw [e1]; exact trodAll_mk1 (shut_bool Tryz.underlying4 true)
  · rw [e1]; exact trodAll_mk1 (Below.trod laidOut (by kernel_rfl) (of_decide_eq_true (by kernel_rfl)) h0k bel hlt)
  · rw [e1]; rfl
end Go.Proofs.YtgbhkladhegceaaGreatDoor
