/-
  Runs of the machine M with unknown values, by simp: its equations.
-/
import Derived.Test.YtgbhkladhegceaaGreatDoorMxKit
import Derived.Below
import Derived.CallsIn
set_option linter.all false
namespace Go.Mx
open Go

/-! ## The run, one step at a time: what is to be done next is data -/
def seqK (call : CallT) (f : Nat) (ro : Option Nat) (b : MCode) : Option (Ex × Fr × St) → Option (Ex × Fr × St)
  | some (.normal, fr, st) => mcode call f ro b fr st
  | x => x
def regK : Option (Fr × St) → Option (Ex × Fr × St)
  | some (fr, st) => some (.normal, fr, st)
  | none => none
def condK (call : CallT) (f : Nat) (ro : Option Nat) (a b : MCode) (fr : Fr) (st : St) : Option V → Option (Ex × Fr × St)
  | some (.bool true) => mcode call f ro a fr st
  | some (.bool false) => mcode call f ro b fr st
  | _ => none
def blockK (id : Nat) : Option (Ex × Fr × St) → Option (Ex × Fr × St)
  | some (.exit id', fr, st) => match Nat.beq id' id with
    | true => some (.normal, fr, st)
    | false => some (.exit id', fr, st)
  | x => x
def loopK (call : CallT) (f : Nat) (ro : Option Nat) (c : MCode) : Option (Ex × Fr × St) → Option (Ex × Fr × St)
  | some (.normal, fr, st) => mcode call f ro (.loop c) fr st
  | x => x
def putK (call : CallT) (d : Option Nat) (ops : List MOper) (fr : Fr) : Option (V × St) → Option (Fr × St)
  | some (v, st) => match fr.put d v with
    | some fr => mops call ops fr st
    | none => none
  | none => none
def opK (call : CallT) (o : MOper) (ops : List MOper) (fr : Fr) (st : St) : Option Bool → Option (Fr × St)
  | some true => putK call o.dst ops fr (mop o.op call fr.r st)
  | some false => putK call o.dst ops fr (some (.tup [], st))
  | none => none
def consK (fp : FP) : Option (List FP × Fr × St) → Option (List FP × Fr × St)
  | some (fps, fr, st) => some (fp :: fps, fr, st)
  | none => none
def putKD (call : CallT) (op : MOp) (d : Option Nat) (ops : List MOper) (fr : Fr) (n : Nat) (w : List Nat) : Option (V × St) → Option (List FP × Fr × St)
  | some (v, st') => match fr.put d v with
    | some fr' => consK (footOf fr.r op (oldIds n st'.w) n st'.n) (mopsD call ops fr' { st' with w := oldIds n st'.w ++ w })
    | none => none
  | none => none
def skipKD (call : CallT) (d : Option Nat) (ops : List MOper) (fr : Fr) (st : St) : Option Fr → Option (List FP × Fr × St)
  | some fr' => consK ⟨some [], [], st.n, st.n⟩ (mopsD call ops fr' st)
  | none => none
def opKD (call : CallT) (o : MOper) (ops : List MOper) (fr : Fr) (st : St) : Option Bool → Option (List FP × Fr × St)
  | some true => putKD call o.op o.dst ops fr st.n st.w (mop o.op call fr.r { st with w := [] })
  | some false => skipKD call o.dst ops fr st (fr.put o.dst (.tup []))
  | none => none
def regKD (masks : List Nat) : Option (List FP × Fr × St) → Option (Ex × Fr × St)
  | some (fps, fr, st) => match apartOk fps masks with
    | true => some (.normal, fr, st)
    | false => none
  | none => none
def orK (tbl : Nat → Option MFunc) (x : CallT) (fuel d : Nat) (f : Nat) (args : List V) (st : St) : Option (V × St) → Option (V × St)
  | some r => some r
  | none => match tbl f with
    | some mf => funcRun mf (mcode (mcallX x tbl fuel d) fuel) args st
    | none => none
def finK (rs : List MRes) (st : St) : Option (Ex × Fr × St) → Option (V × St)
  | some (.exit _, _, _) => none
  | some (_, fr, st1) => match shut st1 fr.marks with
    | none => none
    | some st2 => match resV fr.r st2 rs with
      | some vs => some (resOf vs, { st2 with w := oldIds st.n st2.w ++ st.w })
      | none => none
  | none => none

section
variable {call : CallT} {f : Nat} {ro : Option Nat} {a b c : MCode} {fr : Fr} {st : St}
theorem mcode_skip : mcode call (f + 1) ro .skip fr st = some (.normal, fr, st) := rfl
theorem mcode_reg {ops} : mcode call (f + 1) ro (.reg ops) fr st = regK (mops call ops fr st) := by
  show c_reg ops call (mcode call f) ro fr st = _
  unfold c_reg regK; cases mops call ops fr st <;> rfl
theorem mcode_regD {ops ms} : mcode call (f + 1) ro (.regD ops ms) fr st = regKD ms (mopsD call ops fr st) := by
  show c_regD ops ms call (mcode call f) ro fr st = _
  unfold c_regD regKD; rcases mopsD call ops fr st with _ | ⟨a, b, c⟩ <;> rfl
theorem mcode_seq : mcode call (f + 1) ro (.seq a b) fr st = seqK call f ro b (mcode call f ro a fr st) := by
  show c_seq a b call (mcode call f) ro fr st = _
  unfold c_seq seqK; rcases mcode call f ro a fr st with _ | ⟨e, _, _⟩ <;> (try cases e) <;> rfl
theorem mcode_cond {x} : mcode call (f + 1) ro (.cond x a b) fr st = condK call f ro a b fr st (x.ev fr.r) := by
  show c_cond x a b call (mcode call f) ro fr st = _
  unfold c_cond condK; rfl
theorem mcode_block {id} : mcode call (f + 1) ro (.block id a) fr st = blockK id (mcode call f ro a fr st) := by
  show c_block id a call (mcode call f) ro fr st = _
  unfold c_block blockK; rcases mcode call f ro a fr st with _ | ⟨e, _, _⟩ <;> (try cases e) <;> rfl
theorem mcode_loop : mcode call (f + 1) ro (.loop a) fr st = loopK call f ro a (mcode call f ro a fr st) := by
  show c_loop a call (mcode call f) ro fr st = _
  unfold c_loop loopK; rcases mcode call f ro a fr st with _ | ⟨e, _, _⟩ <;> (try cases e) <;> rfl
theorem mcode_exit {id} : mcode call (f + 1) ro (.exit id) fr st = some (.exit id, fr, st) := rfl
theorem mcode_scope : mcode call (f + 1) ro (.scope a) fr st = mcode call f ro a fr st := rfl
theorem mcode_ret : mcode call (f + 1) ro .ret fr st = some (.ret, fr, st) := rfl
theorem seqK_normal : seqK call f ro b (some (.normal, fr, st)) = mcode call f ro b fr st := rfl
theorem seqK_exit {i} : seqK call f ro b (some (.exit i, fr, st)) = some (.exit i, fr, st) := rfl
theorem seqK_ret : seqK call f ro b (some (.ret, fr, st)) = some (.ret, fr, st) := rfl
theorem regK_some : regK (some (fr, st)) = some (.normal, fr, st) := rfl
theorem condK_true : condK call f ro a b fr st (some (.bool true)) = mcode call f ro a fr st := rfl
theorem condK_false : condK call f ro a b fr st (some (.bool false)) = mcode call f ro b fr st := rfl
theorem blockK_normal {i} : blockK i (some (.normal, fr, st)) = some (.normal, fr, st) := rfl
theorem blockK_ret {i} : blockK i (some (.ret, fr, st)) = some (.ret, fr, st) := rfl
theorem blockK_exit {i} : blockK i (some (.exit i, fr, st)) = some (.normal, fr, st) := by simp [blockK, Nat.beq_refl]
theorem blockK_exit' {i j} (h : Nat.beq j i = false) : blockK i (some (.exit j, fr, st)) = some (.exit j, fr, st) := by simp [blockK, h]
theorem loopK_normal : loopK call f ro c (some (.normal, fr, st)) = mcode call f ro (.loop c) fr st := rfl
theorem loopK_exit {i} : loopK call f ro c (some (.exit i, fr, st)) = some (.exit i, fr, st) := rfl
theorem loopK_ret : loopK call f ro c (some (.ret, fr, st)) = some (.ret, fr, st) := rfl
theorem mops_nil : mops call [] fr st = some (fr, st) := rfl
theorem mops_cons {d op g ops} : mops call (⟨d, op, g⟩ :: ops) fr st = opK call ⟨d, op, g⟩ ops fr st (wantedV fr.r g) := by
  show opStep call ⟨d, op, g⟩ (mops call ops) fr st = _
  unfold opStep opK
  simp only []
  rcases wantedV fr.r g with _ | _ | _
  · rfl
  · simp only [putK]
    cases fr.put d (.tup []) <;> rfl
  · simp only [putK]
    rcases mop op call fr.r st with _ | ⟨v, st'⟩
    · rfl
    · simp only
      cases fr.put d v <;> rfl
theorem opK_true {d op g ops} : opK call ⟨d, op, g⟩ ops fr st (some true) = putK call d ops fr (mop op call fr.r st) := rfl
theorem opK_false {d op g ops} : opK call ⟨d, op, g⟩ ops fr st (some false) = putK call d ops fr (some (.tup [], st)) := rfl
theorem putK_some {d n m r ops v} (h : d < n) : putK call (some d) ops ⟨r, n, m⟩ (some (v, st)) = mops call ops ⟨r.set d v, n, m⟩ st := by simp [putK, Fr.put, h]
theorem putK_none {ops v} : putK call none ops fr (some (v, st)) = mops call ops fr st := rfl
theorem mopsD_nil : mopsD call [] fr st = some ([], fr, st) := rfl
theorem mopsD_cons {d op g ops} : mopsD call (⟨d, op, g⟩ :: ops) fr st = opKD call ⟨d, op, g⟩ ops fr st (wantedV fr.r g) := by
  show opStepD call ⟨d, op, g⟩ (mopsD call ops) fr st = _
  unfold opStepD opKD
  simp only []
  rcases wantedV fr.r g with _ | _ | _
  · rfl
  · simp only [skipKD]
    rcases fr.put d (.tup []) with _ | fr'
    · rfl
    · simp only [consK]; rcases mopsD call ops fr' st with _ | ⟨a, b, c⟩ <;> rfl
  · simp only [putKD]
    rcases mop op call fr.r { st with w := [] } with _ | ⟨v, st'⟩
    · rfl
    · simp only
      rcases fr.put d v with _ | fr'
      · rfl
      · simp only [consK]; rcases mopsD call ops fr' { st' with w := oldIds st.n st'.w ++ st.w } with _ | ⟨a, b, c⟩ <;> rfl
theorem opKD_true {d op g ops h n w} : opKD call ⟨d, op, g⟩ ops fr ⟨h, n, w⟩ (some true) = putKD call op d ops fr n w (mop op call fr.r ⟨h, n, []⟩) := rfl
theorem opKD_false {d op g ops} : opKD call ⟨d, op, g⟩ ops fr st (some false) = skipKD call d ops fr st (fr.put d (.tup [])) := rfl
theorem putKD_some {op d n m r ops v N w h' n' w'} (h : d < n) : putKD call op (some d) ops ⟨r, n, m⟩ N w (some (v, ⟨h', n', w'⟩)) = consK (footOf r op (oldIds N w') N n') (mopsD call ops ⟨r.set d v, n, m⟩ ⟨h', n', oldIds N w' ++ w⟩) := by simp [putKD, Fr.put, h]
theorem putKD_none {op ops v N w h' n' w'} : putKD call op none ops fr N w (some (v, ⟨h', n', w'⟩)) = consK (footOf fr.r op (oldIds N w') N n') (mopsD call ops fr ⟨h', n', oldIds N w' ++ w⟩) := rfl
theorem skipKD_some {d : Option Nat} {n n' : Nat} {m r ops h' w'} : skipKD call d ops fr ⟨h', n', w'⟩ (some ⟨r, n, m⟩) = consK ⟨some [], [], n', n'⟩ (mopsD call ops ⟨r, n, m⟩ ⟨h', n', w'⟩) := rfl
theorem consK_some {fp fps} : consK fp (some (fps, fr, st)) = some (fp :: fps, fr, st) := rfl
theorem regKD_some {ms fps} (h : apartOk fps ms = true) : regKD ms (some (fps, fr, st)) = some (.normal, fr, st) := by simp [regKD, h]
theorem mcallX_func {x : CallT} {tbl fuel d g first caps args} : mcallX x tbl fuel (d + 1) (.func g first caps) args st = orK tbl x fuel d g (first ++ args ++ caps) st (x (.func g first caps) args st) := by
  show orCall x (callStep tbl (mcode (mcallX x tbl fuel d) fuel)) (.func g first caps) args st = _
  unfold orCall orK
  cases x (.func g first caps) args st <;> rfl
theorem orK_some {x : CallT} {tbl fuel d g args r} : orK tbl x fuel d g args st (some r) = some r := rfl
theorem orK_none {x : CallT} {tbl fuel d g args mf} (h : tbl g = some mf) (hl : args.length ≤ mf.ntmps) : orK tbl x fuel d g args st none = finK mf.results st (mcode (mcallX x tbl fuel d) fuel none mf.body ⟨setRegs .nil 0 args, mf.ntmps, []⟩ ⟨st.h, st.n, []⟩) := by
  unfold orK
  simp only [h, funcRun, Nat.not_lt.2 hl, if_false]
  unfold funcEnd finK
  rcases mcode (mcallX x tbl fuel d) fuel none mf.body _ _ with _ | ⟨e, _, _⟩
  · rfl
  · cases e <;> rfl
theorem finK_normal {rs r n m h1 n1 w1} {st2 vs} (h : shut ⟨h1, n1, w1⟩ m = some st2) (hv : resV r st2 rs = some vs) : finK rs st (some (.normal, ⟨r, n, m⟩, ⟨h1, n1, w1⟩)) = some (resOf vs, ⟨st2.h, st2.n, oldIds st.n st2.w ++ st.w⟩) := by simp [finK, h, hv]
theorem finK_ret {rs r n h1 n1 w1} : finK rs st (some (.ret, ⟨r, n, []⟩, ⟨h1, n1, w1⟩)) = match resV r ⟨h1, n1, w1⟩ rs with
    | some vs => some (resOf vs, ⟨h1, n1, oldIds st.n w1 ++ st.w⟩)
    | none => none := rfl
theorem finK_end {rs r n h1 n1 w1} : finK rs st (some (.normal, ⟨r, n, []⟩, ⟨h1, n1, w1⟩)) = match resV r ⟨h1, n1, w1⟩ rs with
    | some vs => some (resOf vs, ⟨h1, n1, oldIds st.n w1 ++ st.w⟩)
    | none => none := rfl
end

theorem natBlt {a b : Nat} : Nat.blt a b = decide (a < b) := by
  cases h : Nat.blt a b
  · symm; simp only [decide_eq_false_iff_not]; intro hc; rw [show Nat.blt a b = true from Nat.ble_eq_true_of_le hc] at h; cases h
  · symm; simp only [decide_eq_true_eq]; exact Nat.lt_of_succ_le (Nat.le_of_ble_eq_true h)
theorem natBle {a b : Nat} : Nat.ble a b = decide (a ≤ b) := by
  cases h : Nat.ble a b
  · symm; simp only [decide_eq_false_iff_not]; intro hc; rw [Nat.ble_eq_true_of_le hc] at h; cases h
  · symm; simp only [decide_eq_true_eq]; exact Nat.le_of_ble_eq_true h
theorem wrapF_i64 {n : Int} (h1 : -9223372036854775808 ≤ n) (h2 : n < 9223372036854775808) : wrapF .i64 n = n := by
  rw [wrapF_eq]
  simp [IntKind.wrap, IntKind.bits, IntKind.signed]
  omega

theorem intBin_add {k a b} : intBin .add k a b = some (.int k (wrapF k (a + b))) := rfl
theorem intBin_sub {k a b} : intBin .sub k a b = some (.int k (wrapF k (a - b))) := rfl
theorem intBin_mul {k a b} : intBin .mul k a b = some (.int k (wrapF k (a * b))) := rfl
theorem intBin_quo {k a b} (h : ¬ b = 0) : intBin .quo k a b = some (.int k (wrapF k (a.tdiv b))) := by simp [intBin, h]
theorem intBin_rem {k a b} (h : ¬ b = 0) : intBin .rem k a b = some (.int k (a.tmod b)) := by simp [intBin, h]
theorem intBin_eql {k a b} : intBin .eql k a b = some (.bool (a == b)) := rfl
theorem intBin_neq {k a b} : intBin .neq k a b = some (.bool (a != b)) := rfl
theorem intBin_lss {k a b} : intBin .lss k a b = some (.bool (decide (a < b))) := rfl
theorem intBin_leq {k a b} : intBin .leq k a b = some (.bool (decide (a ≤ b))) := rfl
theorem intBin_gtr {k a b} : intBin .gtr k a b = some (.bool (decide (a > b))) := rfl
theorem intBin_geq {k a b} : intBin .geq k a b = some (.bool (decide (a ≥ b))) := rfl
theorem mop_mov (x) : mop (.mov x) = op_mov x := rfl
theorem mop_pick (a b c) : mop (.pick a b c) = op_pick a b c := rfl
theorem mop_alloc (a b) : mop (.alloc a b) = op_alloc a b := rfl
theorem mop_box (a b) : mop (.box a b) = op_box a b := rfl
theorem mop_build (a b) : mop (.build a b) = op_build a b := rfl
theorem mop_bslice (a b c d e) : mop (.bslice a b c d e) = op_bslice a b c d e := rfl
theorem mop_load (a b) : mop (.load a b) = op_load a b := rfl
theorem mop_store (a b c) : mop (.store a b c) = op_store a b c := rfl
theorem mop_nilck (a) : mop (.nilck a) = op_nilck a := rfl
theorem mop_bin (a b c d e) : mop (.bin a b c d e) = op_bin a b c d e := rfl
theorem mop_un (a b) : mop (.un a b) = op_un a b := rfl
theorem mop_convInt (a b) : mop (.convInt a b) = op_convInt a b := rfl
theorem mop_mkfunc (a b c) : mop (.mkfunc a b c) = op_mkfunc a b c := rfl
theorem mop_faddr (a b) : mop (.faddr a b) = op_faddr a b := rfl
theorem mop_field (a b c) : mop (.field a b c) = op_field a b c := rfl
theorem mop_iaddrArr (a b c d) : mop (.iaddrArr a b c d) = op_iaddrArr a b c d := rfl
theorem mop_iaddrSl (a b c) : mop (.iaddrSl a b c) = op_iaddrSl a b c := rfl
theorem mop_extract (a b) : mop (.extract a b) = op_extract a b := rfl
theorem mop_len (a b) : mop (.len a b) = op_len a b := rfl
theorem mop_call (a b) : mop (.call a b) = op_call a b := rfl

/-- The run ends, with this value; nothing that was there is written. (A structure: so that nobody unfolds the run by chance.) -/
structure Gives (r : Option (V × St)) (v : V) : Prop where
  ex : ∃ s, r = some (v, s) ∧ s.w = []

theorem gives_some {u v : V} {s : St} : Gives (some (u, s)) v ↔ u = v ∧ s.w = [] :=
  ⟨fun ⟨_, h1, h2⟩ => by simp only [Option.some.injEq, Prod.mk.injEq] at h1; exact ⟨h1.1, h1.2 ▸ h2⟩, fun ⟨h1, h2⟩ => ⟨s, by rw [h1], h2⟩⟩

theorem Pure.of_run {P : Program} {call : CallT} (hc : CallOk P call) {G : Nat} (hG : P.globals.size = G) {f : Nat} {args : List V} {v : V} (h : Gives (call (.func f [] []) args (base G)) v) (ha : V.frees args = true) (hv : V.free v = true) : Pure P ⟨f, args, v⟩ := by
  subst hG
  obtain ⟨s, hcall, hw⟩ := h.ex
  · intro S μ w Gv xs hh hGv hx
    have hn : P.globals.size ≤ S.n := by
      apply Nat.le_of_not_lt
      intro hlt
      obtain ⟨t, ht⟩ := hh.glob S.n hlt
      have := (hh.dom _ _ ht).1
      omega
    have F : Framed P (fun i => if i < P.globals.size then some i else none) (fun i => if i < P.globals.size then some i else none) [] (base P.globals.size) s S S := {
      dom := fun i i' hi => by
        split at hi
        · rename_i hlt; simp only [Option.some.injEq] at hi; subst hi
          exact ⟨hlt, by omega⟩
        · cases hi
      inj := fun i j i' hi hj => by
        split at hi <;> split at hj <;> simp_all
      glob := fun g hg => by simp [hg]
      obj := fun i i' hi => by
        split at hi
        · rename_i hlt
          exact ⟨.dead, .dead, deadT_get _ _ hlt, .inl rfl, .inr rfl⟩
        · cases hi
      old := fun _ _ => rfl
      new := fun i i' hi hr => by
        have : P.globals.size ≤ i := hi
        rw [if_neg (by omega)] at hr; cases hr
      ninj := fun i j i' hi _ hr _ => by
        have : P.globals.size ≤ i := hi
        rw [if_neg (by omega)] at hr; cases hr
      full := fun i' h1 h2 => by omega
      nle := Nat.le_refl _
      w0 := rfl
      W1 := fun i i' hi _ => by rw [hw] at hi; cases hi
      W2 := fun j hj => by cases hj
      wl := rfl
      keep := fun _ _ _ => rfl
      wr := fun i i' hi _ => by rw [hw] at hi; cases hi
      obn := fun i i' hi hr => by
        have : P.globals.size ≤ i := hi
        rw [if_neg (by omega)] at hr; cases hr }
    exact (SemOk.frame (hc _ _ _ _ _ hcall) F (V.free_ren _ (by rfl)) (V.frees_ren _ ha) (V.free_ren _ hv)) μ w Gv xs hh hGv hx

attribute [simp]
  mop_mov mop_pick mop_alloc mop_box mop_build mop_bslice mop_load mop_store mop_nilck mop_bin mop_un mop_convInt mop_mkfunc mop_faddr mop_field mop_iaddrArr mop_iaddrSl mop_extract mop_len mop_call
  op_mov op_pick op_alloc op_box op_build op_bslice op_load op_nilck op_bin op_un op_convInt op_mkfunc op_faddr op_field op_iaddrArr op_extract op_call
  setRegs wantedV Src.ev T.get_set resV resOf oldIds binV intBin_add intBin_sub intBin_mul intBin_quo intBin_rem intBin_eql intBin_neq intBin_lss intBin_leq intBin_gtr intBin_geq strBin unV evAll evOpt evParts fillV partV V.cells V.one St.alloc St.write St.row wrapF_i64 natBlt natBle noteId footOf MOp.silent loadId apartOk pairsOk pairsOk.go pairsOk.chk FP.free meets Nat.testBit gives_some base

end Go.Mx
/- Calls that are known, without memory before, with new blocks behind them. -/
namespace Go.Mx
open Go

mutual
theorem V.ren_comp {ρ1 ρ2 ρ : Nat → Option Nat} (h : ∀ i j k, ρ1 i = some j → ρ2 j = some k → ρ i = some k) : ∀ (v u u' : V), V.ren ρ1 v = some u → V.ren ρ2 u = some u' → V.ren ρ v = some u'
  | .bool _, u, u', h1, h2 => by simp only [V.ren, Option.some.injEq] at h1; subst h1; exact h2
  | .int _ _, u, u', h1, h2 => by simp only [V.ren, Option.some.injEq] at h1; subst h1; exact h2
  | .flt _ _, u, u', h1, h2 => by simp only [V.ren, Option.some.injEq] at h1; subst h1; exact h2
  | .str _, u, u', h1, h2 => by simp only [V.ren, Option.some.injEq] at h1; subst h1; exact h2
  | .nilptr, u, u', h1, h2 => by simp only [V.ren, Option.some.injEq] at h1; subst h1; exact h2
  | .nilslice, u, u', h1, h2 => by simp only [V.ren, Option.some.injEq] at h1; subst h1; exact h2
  | .empty, u, u', h1, h2 => by simp only [V.ren, Option.some.injEq] at h1; subst h1; exact h2
  | .nilmap, u, u', h1, h2 => by simp only [V.ren, Option.some.injEq] at h1; subst h1; exact h2
  | .nilchan, u, u', h1, h2 => by simp only [V.ren, Option.some.injEq] at h1; subst h1; exact h2
  | .nilfunc, u, u', h1, h2 => by simp only [V.ren, Option.some.injEq] at h1; subst h1; exact h2
  | .niliface, u, u', h1, h2 => by simp only [V.ren, Option.some.injEq] at h1; subst h1; exact h2
  | .ptr i o, u, u', h1, h2 => by
    simp only [V.ren] at h1; split at h1
    · rename_i j hj; simp only [Option.some.injEq] at h1; subst h1
      simp only [V.ren] at h2; split at h2
      · rename_i k hk; simp only [V.ren, h _ _ _ hj hk]; exact h2
      · cases h2
    · cases h1
  | .slice i o l c z, u, u', h1, h2 => by
    simp only [V.ren] at h1; split at h1
    · rename_i j hj; simp only [Option.some.injEq] at h1; subst h1
      simp only [V.ren] at h2; split at h2
      · rename_i k hk; simp only [V.ren, h _ _ _ hj hk]; exact h2
      · cases h2
    · cases h1
  | .map i, u, u', h1, h2 => by
    simp only [V.ren] at h1; split at h1
    · rename_i j hj; simp only [Option.some.injEq] at h1; subst h1
      simp only [V.ren] at h2; split at h2
      · rename_i k hk; simp only [V.ren, h _ _ _ hj hk]; exact h2
      · cases h2
    · cases h1
  | .chan i, u, u', h1, h2 => by
    simp only [V.ren] at h1; split at h1
    · rename_i j hj; simp only [Option.some.injEq] at h1; subst h1
      simp only [V.ren] at h2; split at h2
      · rename_i k hk; simp only [V.ren, h _ _ _ hj hk]; exact h2
      · cases h2
    · cases h1
  | .yield i, u, u', h1, h2 => by
    simp only [V.ren] at h1; split at h1
    · rename_i j hj; simp only [Option.some.injEq] at h1; subst h1
      simp only [V.ren] at h2; split at h2
      · rename_i k hk; simp only [V.ren, h _ _ _ hj hk]; exact h2
      · cases h2
    · cases h1
  | .func f a c, u, u', h1, h2 => by
    simp only [V.ren] at h1; split at h1
    · rename_i a' c' ha hc; simp only [Option.some.injEq] at h1; subst h1
      simp only [V.ren] at h2; split at h2
      · rename_i a2 c2 ha2 hc2
        simp only [V.ren, V.rens_comp h a a' a2 ha ha2, V.rens_comp h c c' c2 hc hc2]; exact h2
      · cases h2
    · cases h1
  | .iface t v, u, u', h1, h2 => by
    simp only [V.ren] at h1; split at h1
    · rename_i w hw; simp only [Option.some.injEq] at h1; subst h1
      simp only [V.ren] at h2; split at h2
      · rename_i w2 hw2
        simp only [V.ren, V.ren_comp h v w w2 hw hw2]; exact h2
      · cases h2
    · cases h1
  | .agg l, u, u', h1, h2 => by
    simp only [V.ren] at h1; split at h1
    · rename_i w hw; simp only [Option.some.injEq] at h1; subst h1
      simp only [V.ren] at h2; split at h2
      · rename_i w2 hw2
        simp only [V.ren, V.rens_comp h l w w2 hw hw2]; exact h2
      · cases h2
    · cases h1
  | .tup l, u, u', h1, h2 => by
    simp only [V.ren] at h1; split at h1
    · rename_i w hw; simp only [Option.some.injEq] at h1; subst h1
      simp only [V.ren] at h2; split at h2
      · rename_i w2 hw2
        simp only [V.ren, V.rens_comp h l w w2 hw hw2]; exact h2
      · cases h2
    · cases h1
theorem V.rens_comp {ρ1 ρ2 ρ : Nat → Option Nat} (h : ∀ i j k, ρ1 i = some j → ρ2 j = some k → ρ i = some k) : ∀ (v u u' : List V), V.rens ρ1 v = some u → V.rens ρ2 u = some u' → V.rens ρ v = some u'
  | [], u, u', h1, h2 => by simp only [V.rens, Option.some.injEq] at h1; subst h1; exact h2
  | v :: vs, u, u', h1, h2 => by
    simp only [V.rens] at h1; split at h1
    · rename_i w ws hw hws; simp only [Option.some.injEq] at h1; subst h1
      simp only [V.rens] at h2; split at h2
      · rename_i w2 ws2 hw2 hws2
        simp only [V.rens, V.ren_comp h v w w2 hw hw2, V.rens_comp h vs ws ws2 hws hws2]; exact h2
      · cases h2
    · cases h1
end

structure GEnt where
  f : Nat
  args : List V
  v : V
  kept : List (Nat × O)

def O.free : O → Bool
  | .cells c _ _ => V.frees c
  | .dead => true
  | _ => false

theorem O.free_ren {ρ : Nat → Option Nat} {o : O} (h : o.free = true) : o.ren ρ = some o := by
  cases o <;> simp only [O.free, Bool.false_eq_true] at h
  · simp only [O.ren, V.frees_ren _ h]
  · rfl

def keptG (G : Nat) (s : St) (full : List (Nat × O)) : List (Nat × O) → Nat → Bool
  | [], _ => true
  | (k, o) :: l, m => onatEq (idx k full 0) (some m) && Nat.ble G k && Nat.blt k s.n && oEq (s.h.get k) o && o.free && keptG G s full l (m + 1)

def GEnt.ok (e : GEnt) (G : Nat) (call : CallT) : Bool :=
  match call (.func e.f [] []) e.args (base G) with
  | some (v, s) => match s.w with
    | [] => vEq (V.ren (fun i => match Nat.ble G i with | true => idx i e.kept 0 | false => none) v) e.v && keptG G s e.kept e.kept 0 && V.frees e.args && Nat.ble G s.n
    | _ => false
  | none => false

def gCall (e : GEnt) : CallT
  | .func f [] [], args, S => match Nat.beq e.f f with
    | true => match V.beqs e.args args with
      | true => match V.ren (fun j => some (S.n + j)) e.v with
        | some v => some (v, ⟨setAll S.h (numFrom e.kept S.n), S.n + e.kept.length, S.w⟩)
        | none => none
      | false => none
    | false => none
  | _, _, _ => none

theorem keptG_get {G : Nat} {s : St} {full : List (Nat × O)} : ∀ {l : List (Nat × O)} {m : Nat}, keptG G s full l m = true → ∀ {j : Nat} {p : Nat × O}, l[j]? = some p → idx p.1 full 0 = some (m + j) ∧ G ≤ p.1 ∧ p.1 < s.n ∧ s.h.get p.1 = some p.2 ∧ p.2.free = true
  | [], m, _, j, p, h => by simp at h
  | (k, o) :: l, m, h, j, p, hj => by
    simp only [keptG, Bool.and_eq_true] at h
    obtain ⟨⟨⟨⟨⟨h1, h2⟩, h3⟩, h4⟩, h5⟩, h6⟩ := h
    cases j with
    | zero =>
      simp at hj; subst hj
      exact ⟨onatEq_eq h1, Nat.le_of_ble_eq_true h2, Nat.lt_of_succ_le (Nat.le_of_ble_eq_true h3), oEq_eq h4, h5⟩
    | succ j =>
      obtain ⟨q1, q2⟩ := keptG_get h6 (j := j) (by simpa using hj)
      exact ⟨by rw [q1]; congr 1; omega, q2⟩

theorem gCall_ok {P : Program} {call : CallT} (hcall : CallOk P call) {e : GEnt} (h : e.ok P.globals.size call = true) : CallOk P (gCall e) := by
  intro g args S v S' hc μ w Gv xs hh hG hx
  unfold gCall at hc
  split at hc
  · rename_i f
    split at hc
    · rename_i hf
      have hf := natEq_eq hf
      subst hf
      split at hc
      · rename_i ha
        have ha := V.beqs_eq _ _ ha
        subst ha
        split at hc
        · rename_i v' hv'
          simp only [Option.some.injEq, Prod.mk.injEq] at hc
          obtain ⟨rfl, rfl⟩ := hc
          unfold GEnt.ok at h
          split at h
          · rename_i v0 s hrun
            split at h
            · rename_i hw
              simp only [Bool.and_eq_true] at h
              obtain ⟨⟨⟨k1, k2⟩, k3⟩, k4⟩ := h
              have k1 := vEq_eq k1
              have k4 := Nat.le_of_ble_eq_true k4
              have hn : P.globals.size ≤ S.n := by
                apply Nat.le_of_not_lt
                intro hlt
                obtain ⟨t, ht⟩ := hh.glob S.n hlt
                have := (hh.dom _ _ ht).1
                omega
              have hout : ∀ j, j < S.n → (setAll S.h (numFrom e.kept S.n)).get j = S.h.get j := fun j hj => by rw [setAll_get, numFrom_none hj]
              have hρ : ∀ i, P.globals.size ≤ i → (if i < P.globals.size then some i else (idx i e.kept 0).map (S.n + ·)) = (idx i e.kept 0).map (S.n + ·) := fun i hi => by rw [if_neg (by omega)]
              have F : Framed P (fun i => if i < P.globals.size then some i else none) (fun i => if i < P.globals.size then some i else (idx i e.kept 0).map (S.n + ·)) [] (base P.globals.size) s S ⟨setAll S.h (numFrom e.kept S.n), S.n + e.kept.length, S.w⟩ := {
                dom := fun i i' hi => by
                  split at hi
                  · rename_i hlt; simp only [Option.some.injEq] at hi; subst hi
                    exact ⟨hlt, by omega⟩
                  · cases hi
                inj := fun i j i' hi hj => by
                  split at hi <;> split at hj <;> simp_all
                glob := fun g hg => by simp [hg]
                obj := fun i i' hi => by
                  split at hi
                  · rename_i hlt
                    exact ⟨.dead, .dead, deadT_get _ _ hlt, .inl rfl, .inr rfl⟩
                  · cases hi
                old := fun i hi => by
                  have : i < P.globals.size := hi
                  rw [if_pos this, if_pos this]
                new := fun i i' hi hr => by
                  rw [hρ i hi] at hr
                  simp only [Option.map_eq_some_iff] at hr
                  obtain ⟨j, hj, rfl⟩ := hr
                  obtain ⟨_, q2, o, q3⟩ := idx_spec hj
                  obtain ⟨_, _, r3, _⟩ := keptG_get k2 q3
                  exact ⟨by omega, by show S.n + j < S.n + e.kept.length; omega, r3⟩
                ninj := fun i j i' hi hj hri hrj => by
                  rw [hρ i hi] at hri
                  rw [hρ j hj] at hrj
                  simp only [Option.map_eq_some_iff] at hri hrj
                  obtain ⟨a, ha, rfl⟩ := hri
                  obtain ⟨b, hb, hab⟩ := hrj
                  have : b = a := by omega
                  subst this
                  obtain ⟨_, _, o, q3⟩ := idx_spec ha
                  obtain ⟨_, _, o', q3'⟩ := idx_spec hb
                  rw [q3] at q3'
                  cases q3'; rfl
                full := fun i' h1 h2 => by
                  have h2' : i' < S.n + e.kept.length := h2
                  obtain ⟨p, hp⟩ : ∃ p, e.kept[i' - S.n]? = some p := ⟨_, List.getElem?_eq_getElem (by omega)⟩
                  obtain ⟨r1, r2, _⟩ := keptG_get k2 hp
                  exact ⟨p.1, r2, by rw [hρ _ r2, r1]; simp; omega⟩
                nle := Nat.le_add_right _ _
                w0 := rfl
                W1 := fun i i' hi _ => by rw [hw] at hi; cases hi
                W2 := fun j hj => by cases hj
                wl := rfl
                keep := fun j hj _ => hout j hj
                wr := fun i i' hi _ => by rw [hw] at hi; cases hi
                obn := fun i i' hi hr => by
                  rw [hρ i hi] at hr
                  simp only [Option.map_eq_some_iff] at hr
                  obtain ⟨j, hj, rfl⟩ := hr
                  obtain ⟨_, q2, o, q3⟩ := idx_spec hj
                  obtain ⟨_, _, _, r4, r5⟩ := keptG_get k2 q3
                  refine ⟨o, o, r4, ?_, .inr (O.free_ren r5)⟩
                  show (setAll S.h (numFrom e.kept S.n)).get (S.n + j) = _
                  have := numFrom_lk (m := S.n) q3
                  simp only [Nat.sub_zero] at this
                  rw [setAll_get, this] }
              refine (SemOk.frame (hcall _ _ _ _ _ hrun) F (V.free_ren _ (by rfl)) (V.frees_ren _ k3) ?_) μ w Gv xs hh hG hx
              refine V.ren_comp (ρ1 := fun i => match Nat.ble P.globals.size i with | true => idx i e.kept 0 | false => none) (ρ2 := fun j => some (S.n + j)) (fun i j k hi hj => ?_) v0 e.v v' k1 hv'
              have hi := hi
              split at hi
              · rename_i hb
                have hb := Nat.le_of_ble_eq_true hb
                simp only [Option.some.injEq] at hj; subst hj
                show (if i < P.globals.size then some i else (idx i e.kept 0).map (S.n + ·)) = _
                rw [if_neg (by omega), hi]; rfl
              · cases hi
            · cases h
          · cases h
        · cases hc
      · cases hc
    · cases hc
  · cases hc

end Go.Mx
/- From a run of the machine M to a call of the Go model. -/
namespace Go.Mx
open Go

/-- The bottom of every heap: the globals, of which nothing is said. -/
theorem base_hrel {P : Program} {W : World} (hW : P.globals.size ≤ W.heap.size) : HRel P (fun i => if i < P.globals.size then some ⟨i, 0, 0⟩ else none) W (base P.globals.size) := by
  refine ⟨fun i l hl => ?_, fun i l hl => ?_, fun i j l l' o o' hi hj hne ho ho' hw hlv => ?_, fun g hg => ⟨0, by simp [hg]⟩⟩
  · split at hl
    · rename_i h; simp only [Option.some.injEq] at hl; subst hl
      exact ⟨h, by simp only; omega⟩
    · cases hl
  · split at hl
    · rename_i h
      exact ⟨.dead, deadT_get _ _ h, trivial⟩
    · cases hl
  · split at hi
    · rename_i h
      have h2 : (base P.globals.size).h.get i = some .dead := deadT_get _ _ h
      rw [h2] at ho; cases ho; simp [O.wr] at hw
    · cases hi

/-- What a run of a function's body gives for a call: it returns, and all that was there is as it was. -/
theorem run_calls {P : Program} {tbl : Nat → Option MFunc} {G : Nat} (hP : ProgOk P tbl G) {x : CallT} (hx : CallOk P x) {F d : Nat} {f : FuncId} {mf : MFunc} (hf : cFunc P f = some mf) {args : List V} {xs : List Value} {v : V} {y : Value}
    (h : Gives (funcRun mf (mcode (mcallX x tbl F d) F) args (base G)) v) {W : World} (hW : P.globals.size ≤ W.heap.size) (hargs : ∀ μ, VRs μ args xs) (hv : ∀ μ z, VR μ v z → z = y) :
    Calls P f ⟨xs⟩ W fun e W' => e = .returned y ∧ RowKit.Below W.heap.size W W' := by
  have hg := hP.g
  subst hg
  obtain ⟨s, hrun, hw⟩ := h.ex
  · obtain ⟨fn, hfn, _⟩ := cFunc_fn hf
    have ih := mcallX_ok hP.m hP.e hP.t hx F d
    have := func_ok (code_ok ih hP.e (draw_ok hP.m hP.e ih) (sel_ok ih hP.e) (range_ok ih) F) hfn hf (base_hrel hW) (hargs _) hrun
    refine callsIn_wide.1 (CallsIn.mono (F := Fence.wide) this fun e W' he => ?_)
    cases e with
    | returned z =>
      obtain ⟨μ', ws, h1, h2⟩ := he
      have hws : ws = [] := by have := h2.wl; rw [hw] at this; simpa using this.symm
      subst hws
      exact ⟨by rw [hv _ _ h1], h2.chg.os, h2.chg.tape, h2.chg.output, h2.chg.size, fun k hk => h2.chg.block k hk fun i hi => by cases hi⟩
    | panicked _ => exact he.elim
    | outgrown => exact he.elim

end Go.Mx
