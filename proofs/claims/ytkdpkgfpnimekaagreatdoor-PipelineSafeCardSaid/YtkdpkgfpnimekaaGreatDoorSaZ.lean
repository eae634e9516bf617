/-
  The statement PipelineSafe: for every list of acts, by their numbers, the law returns true, and its argument reads behind the call as before. No condition beside the card's own.
-/
import Derived.Test.YtkdpkgfpnimekaaGreatDoorCards
import Derived.Test.YtkdpkgfpnimekaaGreatDoorTie
import Derived.WalkKit
import Derived.ProofKit
import Derived.OpenShut
import Derived.Deep.DeepHandedRow
import Derived.Deep.DeepWitnessRowRef
import Derived.Lib.LaidTab
import Derived.Lib.LaidIn
import Derived.Carry
import Derived.ChangeArms
import Derived.Test.YtkdpkgfpnimekaaGreatDoorSaF
import Derived.Test.YtkdpkgfpnimekaaGreatDoorSaC
import Derived.Deep.Slices
set_option linter.all false
namespace Go.Proofs.YtkdpkgfpnimekaaGreatDoor
open Go Go.ChangeShapes Go.WideShapes Go.ChangeAt Go.RowKit
open Go.Deep
set_option maxRecDepth 1000000

theorem own : ownKnob Tryz.prog.godebug = none := by kernel_rfl
theorem laidOut : laidOutB Tryz.prog = true := by kernel_rfl
theorem cells5 : Tryz.prog.cellsOf 5 = 1 := by kernel_rfl

theorem zero9 : ((begin Tryz.prog (fun _ _ => 0) default).world.heap[9]?).bind Obj.row? = some ((((begin Tryz.prog (fun _ _ => 0) default).world.heap[9]?).bind Obj.row?).getD (#[], 0)) := by kernel_rfl

theorem globals_lt {W : World} (h : W.ShapedOpen Tryz.prog) : 10 ≤ W.heap.size := by
  obtain ⟨cs, h1, _⟩ := h.1 9 _ _ (by rw [Go.Mx.A.globals]; decide) zero9
  rcases Nat.lt_or_ge 9 W.heap.size with h2 | h2
  · omega
  · rw [Array.getElem?_eq_none h2] at h1; cases h1

open Go.Mx in
theorem safe_calls {H : Type} {enc : TypeId × Value → H} {W : World} {a : Option Addr} {len cap fuel : Nat} {x : DataW H × List MemPlace} (hW : 10 ≤ W.heap.size)
    (h : DataW.trod enc Tryz.prog W 0 (fun _ => true) true fuel 42 (Value.slice a len cap).cells.toList = some x) :
    Calls Tryz.prog 4 #[.slice a len cap] W fun e W' => e = .returned (.bool true) ∧ RowKit.Below W.heap.size W W' := by
  have hG : Tryz.prog.globals.size ≤ W.heap.size := by rw [A.globals]; exact hW
  rcases open_slice1 Tryz.underlying42 cells5 h with ⟨hc, _⟩ | ⟨a', len', cap', m, n, Vf, D, Pl, hc, _, hl, _, hm, _, hx⟩
  · have hc' : Value.slice a len cap = .slice none 0 0 := by simpa [Value.cells] using hc
    rw [hc']
    have hg := safe_nil
    rw [orK_run4] at hg
    exact run_calls A.progOk A.X_ok A.c4 hg hG (fun μ => by simp [VRs, VR]) (fun μ z hz => by simpa [VR] using hz)
  · have hc' : Value.slice a len cap = .slice (some a') len' cap' := by simpa [Value.cells] using hc
    rw [hc']
    simp only [if_true] at hm
    subst hm
    rcases Nat.eq_zero_or_pos len' with h0 | h0
    · subst h0
      have hg := safe_empty
      rw [orK_run4] at hg
      exact run_calls A.progOk A.X_ok A.c4 hg hG (fun μ => by simp [VRs, VR]) (fun μ z hz => by simpa [VR] using hz)
    · have hcell : ∃ ns : Nat → Int, ∀ i, i < m → W.cell? (a'.add i) = some (.int .u8 (ns i)) ∧ 0 ≤ ns i ∧ ns i < 256 := by
        refine ⟨fun i => match Vf i with | .int _ n => n | _ => 0, fun i hi => ?_⟩
        obtain ⟨g1, g2⟩ := hx i hi
        obtain ⟨n', e1, _, hwf⟩ := DataW.trod_int Tryz.underlying5 g2
        simp only [List.cons.injEq, and_true] at e1
        have hb := bounds_u8 hwf
        have e2 : (match Vf i with | .int _ n => n | _ => 0) = n' := by rw [e1]
        show W.cell? (a'.add i) = some (.int .u8 (match Vf i with | .int _ n => n | _ => 0)) ∧ 0 ≤ (match Vf i with | .int _ n => n | _ => 0) ∧ (match Vf i with | .int _ n => n | _ => 0) < 256
        rw [e2, g1, e1]
        exact ⟨rfl, hb.1, by omega⟩
      obtain ⟨ns, hns⟩ := hcell
      obtain ⟨e, μ, hh, hv⟩ := bytes_hrel hG (len := len') hl (by omega) fun i hi => (hns i hi).1
      rw [A.globals] at hh hv
      have hg := safe_slice len' 0 (some m) ((List.range m).map fun i => .int .u8 (ns i)) e fun k hk => ⟨ns k, by rw [Nat.zero_add, List.getElem?_map, List.getElem?_range (by omega)]; rfl, (hns k (by omega)).2⟩
      rw [orK_run4] at hg
      exact run_calls_at A.progOk A.X_ok A.c4 hg hh rfl (VRs_cons.2 ⟨_, [], rfl, hv, by simp [VRs]⟩) (fun μ z hz => by simpa [VR] using hz)

def lits : DataW Unit → List Value
  | .agg l => l.filterMap fun d => match d with
    | .lit (.int k n) => some (.int k n)
    | _ => none
  | _ => []
def lits2 : DataW Unit → List Value
  | .agg l => l.flatMap lits
  | _ => []

noncomputable def laidWorld (os : Os) : World :=
  let N := (World.settled Tryz.prog os).heap.size
  let w0 := World.holding Tryz.prog os ⟨#[.cells #[.string ⟨#[105, 110, 118, 97, 108, 105, 100, 32, 115, 121, 110, 116, 97, 120]⟩] 309, .cells #[.string ⟨#[118, 97, 108, 117, 101, 32, 111, 117, 116, 32, 111, 102, 32, 114, 97, 110, 103, 101]⟩] 309], #[], []⟩
  let put (h : Array Obj) (g : Nat) (cs : Array Value) : Array Obj := h.modify g fun
    | .cells _ t frozen => .cells cs t frozen
    | o => o
  let h0 := put (put w0.heap 3 #[.iface 307 (.pointer (some ⟨N, 0, none⟩))]) 4 #[.iface 307 (.pointer (some ⟨N + 1, 0, none⟩))]
  let h1 := put h0 5 (lits Rows.laid_internal_strconv_uint64pow10).toArray
  let h2 := put h1 6 (lits Rows.laid_unicode_utf8_first).toArray
  let h3 := put h2 7 (lits2 Rows.laid_unicode_utf8_acceptRanges).toArray
  let h4 := put h3 8 (lits Rows.laid_math_bits_deBruijn32tab).toArray
  let h5 := put h4 9 (lits Rows.laid_math_bits_deBruijn64tab).toArray
  { w0 with heap := h5 }

noncomputable abbrev N0 : Nat := (World.settled Tryz.prog default).heap.size
abbrev wit : Array Value := #[.slice none 0 0]

theorem laid_met (os : Os) : laidMet Tryz.prog Rows.pipelineSafeRow.laid ((laidWorld os).forCall (fun _ _ => 0) ⟨#[], wit, []⟩).memory :=
  (LaidIn.of_run [8, 9, 5, 7, 4, N0 + 1, 3, N0, 6] 8 (by kernel_rfl) (by kernel_rfl) (by kernel_rfl) (by kernel_rfl)).met

theorem witness_row (os : Os) {H : Type} (enc : TypeId × Value → H) :
    (OpenSpec.ofChange Rows.pipelineSafeSpec).preRow enc Tryz.prog Tryz.f4 Rows.pipelineSafeRow.domain false Rows.pipelineSafeRow.laid ((laidWorld os).forCall (fun _ _ => 0) ⟨#[], wit, []⟩).memory wit := by
  have hw : (DataW.whole enc Tryz.prog ((laidWorld os).forCall (fun _ _ => 0) ⟨#[], wit, []⟩).memory Tryz.f4.params.toList Rows.pipelineSafeSpec.vars false wit.toList 8).map (fun x => (x.1, x.2.1)) =
      some ([.nil], []) := by kernel_rfl
  obtain ⟨⟨x1, x2, x3⟩, hx, hx1⟩ := Option.map_eq_some_iff.1 hw
  simp only [Prod.mk.injEq] at hx1
  obtain ⟨rfl, rfl⟩ := hx1
  exact OpenSpec.preRow_of_cond 8 hx (by kernel_rfl) (fun k hk => by cases hk) (by kernel_rfl) (laid_met os)

theorem lifted (os : Os) (started : os.Started) (H : Type) (enc : TypeId × Value → H) (F : Stop.Interp) :
    ReturnsInHanded {} Tryz.checked os 4 .any ((OpenSpec.ofChange Rows.pipelineSafeSpec).preRow enc Tryz.prog Tryz.f4 Rows.pipelineSafeRow.domain false Rows.pipelineSafeRow.laid) (((OpenSpec.ofChange Rows.pipelineSafeSpec).at F).post enc Tryz.prog Tryz.f4 false true false false) := by
  refine returnsInHanded_of_row (C := Tryz.checked) (s := OpenSpec.ofChange Rows.pipelineSafeSpec) own started (by kernel_rfl) Tryz.func4
    (witness_row_atRef (enc := enc) (C := Tryz.checked) false (laidWorld os) wit rfl (by kernel_rfl) (by kernel_rfl) (by kernel_rfl) (witness_row os enc)) ?_
  intro W base args ds gs before hval0 hW _ _ _ _ hsh _
  have hval : ∀ (j : Nat) t v, Tryz.f4.params[j]? = some t → args[j]? = some v → Value.okWide Tryz.prog W .any base t v := hval0
  have hW' := hW
  obtain ⟨p, q, hA0, hV0, rfl, _, _⟩ := hW
  have hA : DataW.TrodAll enc Tryz.prog W 0 (fun _ => true) true Tryz.f4.params.toList args.toList ds p := hA0
  rw [Tryz.params4] at hA hval
  obtain ⟨v0, d0, rfl, rfl, h0⟩ := trodAll_one hA
  obtain ⟨rfl, rfl⟩ := trodVars_none hV0
  have h0k := h0
  obtain ⟨a0, lt, ct, rfl⟩ := okWide_slice Tryz.underlying42 (hval 0 42 v0 rfl rfl)
  obtain ⟨fuel, hf⟩ := h0
  clear hA0 hV0 hval0
  simp only [List.append_nil] at hW'
  have hlt : ∀ x ∈ p, x.block < W.heap.size := fun x hx => by simpa using hW'.lt x hx
  refine (safe_calls (globals_lt hsh) hf).mono ?_
  rintro e W' ⟨rfl, bel⟩
  have e1 : ((OpenSpec.ofChange Rows.pipelineSafeSpec).at F).fn H ([d0] ++ []) = { results := [.lit (.bool true)], args := [d0] } := rfl
  refine ⟨_, rfl, _, _, _, [], p, [], hW', ?_, ?_, ?_, bel.frame _, fun h => by cases h⟩
  · rw [e1]; exact trodAll_mk1 (shut_bool Tryz.underlying4 true)
  · rw [e1]; exact trodAll_mk1 (Below.trod laidOut (by kernel_rfl) (of_decide_eq_true (by kernel_rfl)) h0k bel hlt)
  · rw [e1]; rfl

theorem said : Rows.PipelineSafeSaid :=
  OpenClaim.holds_of_cond 4 Tryz.f4 rfl rfl rfl rfl rfl rfl rfl ⟨rfl, rfl, rfl, rfl, rfl⟩ rfl rfl rfl rfl rfl (by kernel_rfl) Tryz.func4 (by kernel_rfl)
    (of_decide_eq_true (by kernel_rfl)) (by unfold Func.isWrapper; first | (rw [if_pos (by decide +kernel)]; kernel_rfl) | (rw [if_neg (by decide +kernel)]; exact ⟨rfl, rfl⟩))
    (fun os started H enc _ F => by rw [OpenClaim.pre_eq_preRow]; exact lifted os started H enc F)

/-- No parameter wants a stand-in; the program's own looks are what the card asks. -/
theorem plain (f : FuncId) (fn : Func) (hf : Tryz.pinned.checked.prog.funcNamed "lenslet/lensletlaw09.PipelineSafe" = some f) (hfn : Tryz.pinned.checked.prog.funcs[f]? = some fn) :
    true = Tryz.pinned.checked.prog.looks [] ∧ ∀ (j : Nat) t, fn.params[j]? = some t → Tryz.pinned.checked.prog.wantsStandIn t = false := by
  obtain rfl : f = 4 := Option.some.inj ((show Tryz.prog.funcNamed "lenslet/lensletlaw09.PipelineSafe" = some 4 by kernel_rfl).symm.trans hf) |>.symm
  obtain rfl : fn = Tryz.f4 := (Option.some.inj (Tryz.func4.symm.trans hfn)).symm
  refine ⟨by kernel_rfl, fun j t ht => ?_⟩
  rw [Tryz.params4] at ht
  obtain rfl : t = 42 := by simpa using Array.mem_of_getElem? ht
  exact (show Tryz.prog.wantsStandIn 42 = false by kernel_rfl)

theorem pipelineSafe_card : Rows.PipelineSafeCardSaid :=
  Claim7.holds_tied_plain_at .later [] _ _ _ _ said (fun _ h => by cases h) (by kernel_rfl) (fun _ h => by cases h) pipelineSafe_row_tie rfl ⟨rfl, rfl⟩ (by kernel_rfl) rfl plain (by kernel_rfl)
end Go.Proofs.YtkdpkgfpnimekaaGreatDoor
