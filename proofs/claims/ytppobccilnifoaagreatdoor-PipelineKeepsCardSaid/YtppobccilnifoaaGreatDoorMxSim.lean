/-
  Runs of the machine M with unknown values, by simp: its equations.
-/
import Derived.Test.YtppobccilnifoaaGreatDoorMxTab
import Derived.Below
import Derived.CallsIn
set_option linter.all false
namespace Go.Mx
open Go
section
variable {call : CallT} {f : Nat} {ro : Option Nat} {a b c : MCode} {fr : Fr} {st : St}
end
theorem natBlt {a b : Nat} : Nat.blt a b = decide (a < b) := by
 cases h : Nat.blt a b
 ·symm; simp only [decide_eq_false_iff_not]; intro hc; rw [show Nat.blt a b = true from Nat.ble_eq_true_of_le hc] at h; cases h
 ·symm; simp only [decide_eq_true_eq]; exact Nat.lt_of_succ_le (Nat.le_of_ble_eq_true h)
theorem natBle {a b : Nat} : Nat.ble a b = decide (a ≤ b) := by
 cases h : Nat.ble a b
 ·symm; simp only [decide_eq_false_iff_not]; intro hc; rw [Nat.ble_eq_true_of_le hc] at h; cases h
 ·symm; simp only [decide_eq_true_eq]; exact Nat.le_of_ble_eq_true h
theorem wrapF_i64 {n : Int} (h1 : -9223372036854775808 ≤ n) (h2 : n < 9223372036854775808) : wrapF .i64 n = n := by
 rw [wrapF_eq]
 simp [IntKind.wrap, IntKind.bits, IntKind.signed]
 omega
theorem intBin_add {k a b} : intBin .add k a b = some (.int k (wrapF k (a + b))) := rfl
theorem intBin_sub {k a b} : intBin .sub k a b = some (.int k (wrapF k (a - b))) := rfl
theorem intBin_mul {k a b} : intBin .mul k a b = some (.int k (wrapF k (a * b))) := rfl
theorem intBin_quo {k a b} (h : ¬ b = 0) : intBin .quo k a b = some (.int k (wrapF k (a.tdiv b))) := by simp [intBin, h]
theorem intBin_rem {k a b} (h : ¬ b = 0) : intBin .rem k a b = some (.int k (a.tmod b)) := by simp [intBin, h]
theorem intBin_eql {k a b} : intBin .eql k a b = some (.bool (a == b)) := rfl
theorem intBin_neq {k a b} : intBin .neq k a b = some (.bool (a != b)) := rfl
theorem intBin_lss {k a b} : intBin .lss k a b = some (.bool (decide (a < b))) := rfl
theorem intBin_leq {k a b} : intBin .leq k a b = some (.bool (decide (a ≤ b))) := rfl
theorem intBin_gtr {k a b} : intBin .gtr k a b = some (.bool (decide (a > b))) := rfl
theorem intBin_geq {k a b} : intBin .geq k a b = some (.bool (decide (a ≥ b))) := rfl
theorem mop_mov (x) : mop (.mov x) = op_mov x := rfl
theorem mop_pick (a b c) : mop (.pick a b c) = op_pick a b c := rfl
theorem mop_alloc (a b) : mop (.alloc a b) = op_alloc a b := rfl
theorem mop_box (a b) : mop (.box a b) = op_box a b := rfl
theorem mop_build (a b) : mop (.build a b) = op_build a b := rfl
theorem mop_bslice (a b c d e) : mop (.bslice a b c d e) = op_bslice a b c d e := rfl
theorem mop_load (a b) : mop (.load a b) = op_load a b := rfl
theorem mop_store (a b c) : mop (.store a b c) = op_store a b c := rfl
theorem mop_nilck (a) : mop (.nilck a) = op_nilck a := rfl
theorem mop_bin (a b c d e) : mop (.bin a b c d e) = op_bin a b c d e := rfl
theorem mop_un (a b) : mop (.un a b) = op_un a b := rfl
theorem mop_convInt (a b) : mop (.convInt a b) = op_convInt a b := rfl
theorem mop_mkfunc (a b c) : mop (.mkfunc a b c) = op_mkfunc a b c := rfl
theorem mop_faddr (a b) : mop (.faddr a b) = op_faddr a b := rfl
theorem mop_field (a b c) : mop (.field a b c) = op_field a b c := rfl
theorem mop_iaddrArr (a b c d) : mop (.iaddrArr a b c d) = op_iaddrArr a b c d := rfl
theorem mop_iaddrSl (a b c) : mop (.iaddrSl a b c) = op_iaddrSl a b c := rfl
theorem mop_extract (a b) : mop (.extract a b) = op_extract a b := rfl
theorem mop_len (a b) : mop (.len a b) = op_len a b := rfl
theorem mop_call (a b) : mop (.call a b) = op_call a b := rfl
structure Gives (r : Option (V × St)) (v : V) : Prop where
 ex : ∃ s, r = some (v, s) ∧ s.w = []
theorem gives_some {u v : V} {s : St} : Gives (some (u, s)) v ↔ u = v ∧ s.w = [] :=
 ⟨fun ⟨_, h1, h2⟩ => by simp only [Option.some.injEq, Prod.mk.injEq] at h1; exact ⟨h1.1, h1.2 ▸ h2⟩, fun ⟨h1, h2⟩ => ⟨s, by rw [h1], h2⟩⟩
theorem Pure.of_run {P : Program} {call : CallT} (hc : CallOk P call) {G : Nat} (hG : P.globals.size = G) {f : Nat} {args : List V} {v : V} (h : Gives (call (.func f [] []) args (base G)) v) (ha : V.frees args = true) (hv : V.free v = true) : Pure P ⟨f, args, v⟩ := by
 subst hG
 obtain ⟨s, hcall, hw⟩ := h.ex
 ·intro S μ w Gv xs hh hGv hx
  have hn : P.globals.size ≤ S.n := by
   apply Nat.le_of_not_lt
   intro hlt
   obtain ⟨t, ht⟩ := hh.glob S.n hlt
   have := (hh.dom _ _ ht).1
   omega
  have F : Framed P (fun i => if i < P.globals.size then some i else none) (fun i => if i < P.globals.size then some i else none) [] (base P.globals.size) s S S := {
   dom := fun i i' hi => by
    split at hi
    ·rename_i hlt; simp only [Option.some.injEq] at hi; subst hi
     exact ⟨hlt, by omega⟩
    ·cases hi
   inj := fun i j i' hi hj => by
    split at hi <;> split at hj <;> simp_all
   glob := fun g hg => by simp [hg]
   obj := fun i i' hi => by
    split at hi
    ·rename_i hlt
     exact ⟨.dead, .dead, deadT_get _ _ hlt, .inl rfl, .inr rfl⟩
    ·cases hi
   old := fun _ _ => rfl
   new := fun i i' hi hr => by
    have : P.globals.size ≤ i := hi
    rw [if_neg (by omega)] at hr; cases hr
   ninj := fun i j i' hi _ hr _ => by
    have : P.globals.size ≤ i := hi
    rw [if_neg (by omega)] at hr; cases hr
   full := fun i' h1 h2 => by omega
   nle := Nat.le_refl _
   w0 := rfl
   W1 := fun i i' hi _ => by rw [hw] at hi; cases hi
   W2 := fun j hj => by cases hj
   wl := rfl
   keep := fun _ _ _ => rfl
   wr := fun i i' hi _ => by rw [hw] at hi; cases hi
   obn := fun i i' hi hr => by
    have : P.globals.size ≤ i := hi
    rw [if_neg (by omega)] at hr; cases hr }
  exact (SemOk.frame (hc _ _ _ _ _ hcall) F (V.free_ren _ (by rfl)) (V.frees_ren _ ha) (V.free_ren _ hv)) μ w Gv xs hh hGv hx
attribute [simp]
 mop_mov mop_pick mop_alloc mop_box mop_build mop_bslice mop_load mop_store mop_nilck mop_bin mop_un mop_convInt mop_mkfunc mop_faddr mop_field mop_iaddrArr mop_iaddrSl mop_extract mop_len mop_call
 op_mov op_pick op_alloc op_box op_build op_bslice op_load op_nilck op_bin op_un op_convInt op_mkfunc op_faddr op_field op_iaddrArr op_extract op_call
 setRegs wantedV Src.ev T.get_set resV resOf oldIds binV intBin_add intBin_sub intBin_mul intBin_quo intBin_rem intBin_eql intBin_neq intBin_lss intBin_leq intBin_gtr intBin_geq strBin unV evAll evOpt evParts fillV partV V.cells V.one St.alloc St.write St.row wrapF_i64 natBlt natBle noteId footOf MOp.silent loadId apartOk pairsOk pairsOk.go pairsOk.chk FP.free meets Nat.testBit gives_some base
end Go.Mx
namespace Go.Mx
open Go
structure GEnt where
 f : Nat
 args : List V
 v : V
 kept : List (Nat × O)
def O.free : O → Bool
 | .cells c _ _ => V.frees c
 | .dead => true
 | _ => false
theorem O.free_ren {ρ : Nat → Option Nat} {o : O} (h : o.free = true) : o.ren ρ = some o := by
 cases o <;> simp only [O.free, Bool.false_eq_true] at h
 ·simp only [O.ren, V.frees_ren _ h]
 ·rfl
def keptG (G : Nat) (s : St) (full : List (Nat × O)) : List (Nat × O) → Nat → Bool
 | [], _ => true
 | (k, o) :: l, m => onatEq (idx k full 0) (some m) && Nat.ble G k && Nat.blt k s.n && oEq (s.h.get k) o && o.free && keptG G s full l (m + 1)
def GEnt.ok (e : GEnt) (G : Nat) (call : CallT) : Bool :=
 match call (.func e.f [] []) e.args (base G) with
 | some (v, s) => match s.w with
  | [] => vEq (V.ren (fun i => match Nat.ble G i with | true => idx i e.kept 0 | false => none) v) e.v && keptG G s e.kept e.kept 0 && V.frees e.args && Nat.ble G s.n
  | _ => false
 | none => false
end Go.Mx
namespace Go.Mx
open Go
theorem base_hrel {P : Program} {W : World} (hW : P.globals.size ≤ W.heap.size) : HRel P (fun i => if i < P.globals.size then some ⟨i, 0, 0⟩ else none) W (base P.globals.size) := by
 refine ⟨fun i l hl => ?_, fun i l hl => ?_, fun i j l l' o o' hi hj hne ho ho' hw hlv => ?_, fun g hg => ⟨0, by simp [hg]⟩⟩
 ·split at hl
  ·rename_i h; simp only [Option.some.injEq] at hl; subst hl
   exact ⟨h, by simp only; omega⟩
  ·cases hl
 ·split at hl
  ·rename_i h
   exact ⟨.dead, deadT_get _ _ h, trivial⟩
  ·cases hl
 ·split at hi
  ·rename_i h
   have h2 : (base P.globals.size).h.get i = some .dead := deadT_get _ _ h
   rw [h2] at ho; cases ho; simp [O.wr] at hw
  ·cases hi
end Go.Mx
namespace Go.Mx
open Go
def Le (a b : CallT) : Prop := ∀ g args st r, a g args st = some r → b g args st = some r
theorem mop_mono {a b : CallT} (h : Le a b) (op : MOp) (r : T V) (st : St) {o : V × St} (e : mop op a r st = some o) : mop op b r st = some o := by
 cases op <;> try exact e
 rename_i f args
 show op_call f args b r st = some o
 have e : op_call f args a r st = some o := e
 unfold op_call at e ⊢
 split at e
 ·exact h _ _ _ _ e
 ·cases e
theorem mops_mono {a b : CallT} (h : Le a b) : ∀ (ops : List MOper) (fr : Fr) (st : St) {o : Fr × St}, mops a ops fr st = some o → mops b ops fr st = some o
 | [], _, _, _, e => e
 | q :: ops, fr, st, o, e => by
  have e : opStep a q (mops a ops) fr st = some o := e
  show opStep b q (mops b ops) fr st = some o
  unfold opStep at e ⊢
  split at e
  ·split at e
   ·rename_i v st' h1
    rw [mop_mono h _ _ _ h1]
    simp only []
    split at e
    ·exact mops_mono h ops _ _ e
    ·cases e
   ·cases e
  ·split at e
   ·exact mops_mono h ops _ _ e
   ·cases e
  ·cases e
theorem mopsD_mono {a b : CallT} (h : Le a b) : ∀ (ops : List MOper) (fr : Fr) (st : St) {o : List FP × Fr × St}, mopsD a ops fr st = some o → mopsD b ops fr st = some o
 | [], _, _, _, e => e
 | q :: ops, fr, st, o, e => by
  have e : opStepD a q (mopsD a ops) fr st = some o := e
  show opStepD b q (mopsD b ops) fr st = some o
  unfold opStepD at e ⊢
  split at e
  ·split at e
   ·rename_i v st' h1
    rw [mop_mono h _ _ _ h1]
    simp only []
    split at e
    ·split at e
     ·rename_i h2
      rw [mopsD_mono h ops _ _ h2]
      exact e
     ·cases e
    ·cases e
   ·cases e
  ·split at e
   ·split at e
    ·rename_i h2
     rw [mopsD_mono h ops _ _ h2]
     exact e
    ·cases e
   ·cases e
  ·cases e
def LeC (a b : CodeF) : Prop := ∀ ro c fr st r, a ro c fr st = some r → b ro c fr st = some r
theorem codeStep_mono {a b : CallT} {p q : CodeF} (h : Le a b) (hc : LeC p q) (ro : Option Nat) (c : MCode) (fr : Fr) (st : St) {o : Ex × Fr × St} (e : codeStep c a p ro fr st = some o) : codeStep c b q ro fr st = some o := by
 cases c with
 | skip => exact e
 | reg ops =>
  have e : c_reg ops a p ro fr st = some o := e
  show c_reg ops b q ro fr st = some o
  unfold c_reg at e ⊢
  split at e
  ·rename_i h1; rw [mops_mono h _ _ _ h1]; exact e
  ·cases e
 | regD ops ms =>
  have e : c_regD ops ms a p ro fr st = some o := e
  show c_regD ops ms b q ro fr st = some o
  unfold c_regD at e ⊢
  split at e
  ·rename_i h1; rw [mopsD_mono h _ _ _ h1]; exact e
  ·cases e
 | regS dst ch send zero ops =>
  have e : c_regS dst ch send zero ops a p ro fr st = some o := e
  show c_regS dst ch send zero ops b q ro fr st = some o
  unfold c_regS at e ⊢
  split at e
  ·split at e
   ·split at e
    ·split at e
     ·rename_i h1; rw [mops_mono h _ _ _ h1]; exact e
     ·cases e
    ·cases e
   ·cases e
  ·cases e
 | seq x y =>
  have e : c_seq x y a p ro fr st = some o := e
  show c_seq x y b q ro fr st = some o
  unfold c_seq at e ⊢
  split at e
  ·rename_i h1; rw [hc _ _ _ _ _ h1]; exact hc _ _ _ _ _ e
  ·rename_i h1
   have := hc _ _ _ _ _ e
   rw [this]
   rcases o with ⟨_ | _ | _, _, _⟩
   ·exact absurd e (h1 _ _)
   ·rfl
   ·rfl
 | cond x y z =>
  have e : c_cond x y z a p ro fr st = some o := e
  show c_cond x y z b q ro fr st = some o
  unfold c_cond at e ⊢
  split at e
  ·exact hc _ _ _ _ _ e
  ·exact hc _ _ _ _ _ e
  ·cases e
 | block id x =>
  have e : c_block id x a p ro fr st = some o := e
  show c_block id x b q ro fr st = some o
  unfold c_block at e ⊢
  split at e
  ·rename_i h1; rw [hc _ _ _ _ _ h1]; exact e
  ·rename_i h1
   have := hc _ _ _ _ _ e
   rw [this]
   rcases o with ⟨_ | _ | _, _, _⟩
   ·rfl
   ·exact absurd e (h1 _ _ _)
   ·rfl
 | loop x =>
  have e : c_loop x a p ro fr st = some o := e
  show c_loop x b q ro fr st = some o
  unfold c_loop at e ⊢
  split at e
  ·rename_i h1; rw [hc _ _ _ _ _ h1]; exact hc _ _ _ _ _ e
  ·rename_i h1
   have := hc _ _ _ _ _ e
   rw [this]
   rcases o with ⟨_ | _ | _, _, _⟩
   ·exact absurd e (h1 _ _)
   ·rfl
   ·rfl
 | rangef g ps x y =>
  have e : c_rangef g ps x y a p ro fr st = some o := e
  show c_rangef g ps x y b q ro fr st = some o
  unfold c_rangef at e ⊢
  split at e
  ·cases e
  ·split at e
   ·cases e
   ·rename_i hy
    simp only [hy]
    split at e
    ·cases e
    ·split at e
     ·cases e
     ·rename_i h1; rw [h _ _ _ _ h1]; exact e
 | exit id => exact e
 | scope x => exact hc _ _ _ _ _ e
 | ret => exact e
 | stop => exact e
theorem mcode_mono {a b : CallT} (h : Le a b) : ∀ (F F' : Nat), F ≤ F' → LeC (mcode a F) (mcode b F')
 | 0, _, _ => fun _ _ _ _ _ e => by cases e
 | F + 1, 0, hF => by omega
 | F + 1, F' + 1, hF => fun ro c fr st _ e => codeStep_mono h (mcode_mono h F F' (by omega)) ro c fr st e
theorem funcRun_mono {p q : CodeF} (h : LeC p q) {mf : MFunc} {args : List V} {st : St} {o : V × St} (e : funcRun mf p args st = some o) : funcRun mf q args st = some o := by
 unfold funcRun at e ⊢
 split at e
 ·cases e
 ·rename_i h0
  rw [if_neg h0]
  cases h1 : p none mf.body { r := setRegs .nil 0 args, n := mf.ntmps, marks := [] } { st with w := [] } with
  | none => rw [h1] at e; cases e
  | some r => rw [h1] at e; rw [h _ _ _ _ _ h1]; exact e
theorem roundRun_mono {p q : CodeF} (h : LeC p q) {l : Nat} {args : List V} {st : St} {o : V × St} (e : roundRun p l args st = some o) : roundRun q l args st = some o := by
 unfold roundRun at e ⊢
 split at e
 ·split at e
  ·cases e
  ·split at e
   ·rename_i h1
    rw [h _ _ _ _ _ h1]
    simp only []
    split at e
    ·split at e
     ·rename_i hr
      rw [if_pos hr]
      split at e
      ·rename_i h2
       rw [h _ _ _ _ _ h2]
       exact e
      ·cases e
     ·cases e
    ·cases e
   ·cases e
 ·cases e
theorem callStep_mono {tbl : Nat → Option MFunc} {p q : CodeF} (h : LeC p q) : Le (callStep tbl p) (callStep tbl q) := by
 intro g args st o e
 unfold callStep at e ⊢
 split at e
 ·split at e
  ·exact funcRun_mono h e
  ·cases e
 ·exact roundRun_mono h e
 ·cases e
theorem orCall_mono {x a b : CallT} (h : Le a b) : Le (orCall x a) (orCall x b) := by
 intro g args st o e
 unfold orCall at e ⊢
 split at e
 ·exact e
 ·exact h _ _ _ _ e
theorem mcallX_mono {x : CallT} {tbl : Nat → Option MFunc} {F F' : Nat} (hF : F ≤ F') : ∀ (d d' : Nat), d ≤ d' → Le (mcallX x tbl F d) (mcallX x tbl F' d')
 | 0, 0, _ => fun _ _ _ _ e => e
 | 0, d' + 1, _ => fun g args st o e => by
  have e : x g args st = some o := e
  show orCall x _ g args st = some o
  unfold orCall; rw [e]
 | d + 1, 0, h => by omega
 | d + 1, d' + 1, h => orCall_mono (callStep_mono (mcode_mono (mcallX_mono hF d d' (by omega)) F F' hF))
structure Cx where
 x : CallT
 tbl : Nat → Option MFunc
def Cx.at (C : Cx) (N : Nat) : CallT := mcallX C.x C.tbl N N
theorem Cx.at_mono {C : Cx} {N M : Nat} (h : N ≤ M) : Le (C.at N) (C.at M) := mcallX_mono h N M h
open Classical in
noncomputable def Cx.call (C : Cx) : CallT := fun g args st => if h : ∃ r N, C.at N g args st = some r then some h.choose else none
theorem Cx.call_iff {C : Cx} {g args st r} : C.call g args st = some r ↔ ∃ N, C.at N g args st = some r := by
 unfold Cx.call
 constructor
 ·intro h
  split at h
  ·rename_i hc
   simp only [Option.some.injEq] at h
   exact h ▸ hc.choose_spec
  ·cases h
 ·rintro ⟨N, h⟩
  have hc : ∃ r N, C.at N g args st = some r := ⟨r, N, h⟩
  rw [dif_pos hc]
  obtain ⟨M, hM⟩ := hc.choose_spec
  have h1 := Cx.at_mono (Nat.le_max_left N M) _ _ _ _ h
  have h2 := Cx.at_mono (Nat.le_max_right N M) _ _ _ _ hM
  rw [h1] at h2
  exact congrArg some (Option.some.inj h2).symm
open Classical in
noncomputable def Cx.code (C : Cx) : CodeF := fun ro c fr st => if h : ∃ r F, mcode C.call F ro c fr st = some r then some h.choose else none
theorem Cx.code_iff {C : Cx} {ro c fr st r} : C.code ro c fr st = some r ↔ ∃ F, mcode C.call F ro c fr st = some r := by
 unfold Cx.code
 constructor
 ·intro h
  split at h
  ·rename_i hc
   simp only [Option.some.injEq] at h
   exact h ▸ hc.choose_spec
  ·cases h
 ·rintro ⟨N, h⟩
  have hc : ∃ r F, mcode C.call F ro c fr st = some r := ⟨r, N, h⟩
  rw [dif_pos hc]
  obtain ⟨M, hM⟩ := hc.choose_spec
  have h1 := mcode_mono (fun _ _ _ _ e => e) N (max N M) (Nat.le_max_left N M) _ _ _ _ _ h
  have h2 := mcode_mono (fun _ _ _ _ e => e) M (max N M) (Nat.le_max_right N M) _ _ _ _ _ hM
  rw [h1] at h2
  exact congrArg some (Option.some.inj h2).symm
theorem opt_ext {α : Type} {a b : Option α} (h : ∀ r, a = some r ↔ b = some r) : a = b := by
 cases a with
 | none => cases b with
  | none => rfl
  | some r => exact absurd ((h r).2 rfl) (by simp)
 | some r => exact ((h r).1 rfl).symm
theorem codeStep_need {a : CallT} {p : CodeF} {q : Nat → CodeF} (hq : ∀ n m, n ≤ m → LeC (q n) (q m)) (hp : ∀ ro c fr st r, p ro c fr st = some r → ∃ n, q n ro c fr st = some r) (ro : Option Nat) (c : MCode) (fr : Fr) (st : St) {o : Ex × Fr × St} (e : codeStep c a p ro fr st = some o) : ∃ n, codeStep c a (q n) ro fr st = some o := by
 cases c with
 | skip => exact ⟨0, e⟩
 | reg ops => exact ⟨0, e⟩
 | regD ops ms => exact ⟨0, e⟩
 | regS dst ch send zero ops => exact ⟨0, e⟩
 | seq x y =>
  have e : c_seq x y a p ro fr st = some o := e
  show ∃ n, c_seq x y a (q n) ro fr st = some o
  unfold c_seq at e ⊢
  split at e
  ·rename_i h1
   obtain ⟨n, hn⟩ := hp _ _ _ _ _ h1
   obtain ⟨m, hm⟩ := hp _ _ _ _ _ e
   refine ⟨max n m, ?_⟩
   rw [hq n _ (Nat.le_max_left n m) _ _ _ _ _ hn]
   exact hq m _ (Nat.le_max_right n m) _ _ _ _ _ hm
  ·rename_i h1
   obtain ⟨n, hn⟩ := hp _ _ _ _ _ e
   refine ⟨n, ?_⟩
   rw [hn]
   rcases o with ⟨_ | _ | _, _, _⟩
   ·exact absurd e (h1 _ _)
   ·rfl
   ·rfl
 | cond x y z =>
  have e : c_cond x y z a p ro fr st = some o := e
  show ∃ n, c_cond x y z a (q n) ro fr st = some o
  unfold c_cond at e ⊢
  split at e
  ·exact hp _ _ _ _ _ e
  ·exact hp _ _ _ _ _ e
  ·cases e
 | block id x =>
  have e : c_block id x a p ro fr st = some o := e
  show ∃ n, c_block id x a (q n) ro fr st = some o
  unfold c_block at e ⊢
  split at e
  ·rename_i h1
   obtain ⟨n, hn⟩ := hp _ _ _ _ _ h1
   exact ⟨n, by rw [hn]; exact e⟩
  ·rename_i h1
   obtain ⟨n, hn⟩ := hp _ _ _ _ _ e
   refine ⟨n, ?_⟩
   rw [hn]
   rcases o with ⟨_ | _ | _, _, _⟩
   ·rfl
   ·exact absurd e (h1 _ _ _)
   ·rfl
 | loop x =>
  have e : c_loop x a p ro fr st = some o := e
  show ∃ n, c_loop x a (q n) ro fr st = some o
  unfold c_loop at e ⊢
  split at e
  ·rename_i h1
   obtain ⟨n, hn⟩ := hp _ _ _ _ _ h1
   obtain ⟨m, hm⟩ := hp _ _ _ _ _ e
   refine ⟨max n m, ?_⟩
   rw [hq n _ (Nat.le_max_left n m) _ _ _ _ _ hn]
   exact hq m _ (Nat.le_max_right n m) _ _ _ _ _ hm
  ·rename_i h1
   obtain ⟨n, hn⟩ := hp _ _ _ _ _ e
   refine ⟨n, ?_⟩
   rw [hn]
   rcases o with ⟨_ | _ | _, _, _⟩
   ·exact absurd e (h1 _ _)
   ·rfl
   ·rfl
 | rangef g ps x y => exact ⟨0, e⟩
 | exit id => exact ⟨0, e⟩
 | scope x => exact hp _ _ _ _ _ e
 | ret => exact ⟨0, e⟩
 | stop => exact ⟨0, e⟩
theorem Cx.code_eq {C : Cx} (ro : Option Nat) (c : MCode) (fr : Fr) (st : St) : C.code ro c fr st = codeStep c C.call C.code ro fr st := by
 apply opt_ext
 intro r
 constructor
 ·intro h
  obtain ⟨F, hF⟩ := Cx.code_iff.1 h
  cases F with
  | zero => cases hF
  | succ F => exact codeStep_mono (fun _ _ _ _ e => e) (fun ro c fr st r e => Cx.code_iff.2 ⟨F, e⟩) ro c fr st hF
 ·intro h
  obtain ⟨n, hn⟩ := codeStep_need (q := mcode C.call) (mcode_mono fun _ _ _ _ e => e) (fun _ _ _ _ _ e => Cx.code_iff.1 e) ro c fr st h
  exact Cx.code_iff.2 ⟨n + 1, hn⟩
theorem mop_need {C : Cx} (op : MOp) (r : T V) (st : St) {o : V × St} (e : mop op C.call r st = some o) : ∃ N, mop op (C.at N) r st = some o := by
 cases op <;> try exact ⟨0, e⟩
 rename_i f args
 have e : op_call f args C.call r st = some o := e
 show ∃ N, op_call f args (C.at N) r st = some o
 unfold op_call at e ⊢
 split at e
 ·exact Cx.call_iff.1 e
 ·cases e
theorem mops_need {C : Cx} : ∀ (ops : List MOper) (fr : Fr) (st : St) {o : Fr × St}, mops C.call ops fr st = some o → ∃ N, mops (C.at N) ops fr st = some o
 | [], _, _, _, e => ⟨0, e⟩
 | q :: ops, fr, st, o, e => by
  have e : opStep C.call q (mops C.call ops) fr st = some o := e
  show ∃ N, opStep (C.at N) q (mops (C.at N) ops) fr st = some o
  unfold opStep at e ⊢
  split at e
  ·split at e
   ·rename_i v st' h1
    split at e
    ·obtain ⟨N, hN⟩ := mop_need _ _ _ h1
     obtain ⟨M, hM⟩ := mops_need ops _ _ e
     refine ⟨max N M, ?_⟩
     rw [mop_mono (Cx.at_mono (Nat.le_max_left N M)) _ _ _ hN]
     rename_i h3
     simp only [h3]
     exact mops_mono (Cx.at_mono (Nat.le_max_right N M)) _ _ _ hM
    ·cases e
   ·cases e
  ·split at e
   ·exact mops_need ops _ _ e
   ·cases e
  ·cases e
theorem mopsD_need {C : Cx} : ∀ (ops : List MOper) (fr : Fr) (st : St) {o : List FP × Fr × St}, mopsD C.call ops fr st = some o → ∃ N, mopsD (C.at N) ops fr st = some o
 | [], _, _, _, e => ⟨0, e⟩
 | q :: ops, fr, st, o, e => by
  have e : opStepD C.call q (mopsD C.call ops) fr st = some o := e
  show ∃ N, opStepD (C.at N) q (mopsD (C.at N) ops) fr st = some o
  unfold opStepD at e ⊢
  split at e
  ·split at e
   ·rename_i v st' h1
    split at e
    ·rename_i h3
     split at e
     ·rename_i h2
      obtain ⟨N, hN⟩ := mop_need _ _ _ h1
      obtain ⟨M, hM⟩ := mopsD_need ops _ _ h2
      refine ⟨max N M, ?_⟩
      rw [mop_mono (Cx.at_mono (Nat.le_max_left N M)) _ _ _ hN]
      simp only [h3]
      rw [mopsD_mono (Cx.at_mono (Nat.le_max_right N M)) _ _ _ hM]
      exact e
     ·cases e
    ·cases e
   ·cases e
  ·split at e
   ·split at e
    ·rename_i h2
     obtain ⟨M, hM⟩ := mopsD_need ops _ _ h2
     exact ⟨M, by rw [hM]; exact e⟩
    ·cases e
   ·cases e
  ·cases e
theorem mcode_need {C : Cx} : ∀ (F : Nat) (ro : Option Nat) (c : MCode) (fr : Fr) (st : St) {o : Ex × Fr × St}, mcode C.call F ro c fr st = some o → ∃ N, mcode (C.at N) F ro c fr st = some o
 | 0, _, _, _, _, _, e => by cases e
 | F + 1, ro, c, fr, st, o, e => by
  have e : codeStep c C.call (mcode C.call F) ro fr st = some o := e
  show ∃ N, codeStep c (C.at N) (mcode (C.at N) F) ro fr st = some o
  have ih := @mcode_need C F
  have up : ∀ {n m : Nat}, n ≤ m → LeC (mcode (C.at n) F) (mcode (C.at m) F) := fun h => mcode_mono (Cx.at_mono h) F F (Nat.le_refl _)
  cases c with
  | reg ops =>
   have e : c_reg ops C.call (mcode C.call F) ro fr st = some o := e
   show ∃ N, c_reg ops (C.at N) (mcode (C.at N) F) ro fr st = some o
   unfold c_reg at e ⊢
   split at e
   ·rename_i h1
    obtain ⟨N, hN⟩ := mops_need _ _ _ h1
    exact ⟨N, by rw [hN]; exact e⟩
   ·cases e
  | regD ops ms =>
   have e : c_regD ops ms C.call (mcode C.call F) ro fr st = some o := e
   show ∃ N, c_regD ops ms (C.at N) (mcode (C.at N) F) ro fr st = some o
   unfold c_regD at e ⊢
   split at e
   ·rename_i h1
    obtain ⟨N, hN⟩ := mopsD_need _ _ _ h1
    exact ⟨N, by rw [hN]; exact e⟩
   ·cases e
  | regS dst ch send zero ops =>
   have e : c_regS dst ch send zero ops C.call (mcode C.call F) ro fr st = some o := e
   show ∃ N, c_regS dst ch send zero ops (C.at N) (mcode (C.at N) F) ro fr st = some o
   unfold c_regS at e ⊢
   split at e
   ·split at e
    ·split at e
     ·split at e
      ·rename_i h1
       obtain ⟨N, hN⟩ := mops_need _ _ _ h1
       exact ⟨N, by rw [hN]; exact e⟩
      ·cases e
     ·cases e
    ·cases e
   ·cases e
  | rangef g ps x y =>
   have e : c_rangef g ps x y C.call (mcode C.call F) ro fr st = some o := e
   show ∃ N, c_rangef g ps x y (C.at N) (mcode (C.at N) F) ro fr st = some o
   unfold c_rangef at e ⊢
   split at e
   ·cases e
   ·split at e
    ·cases e
    ·rename_i hy
     simp only [hy]
     split at e
     ·cases e
     ·split at e
      ·cases e
      ·rename_i h1
       obtain ⟨N, hN⟩ := Cx.call_iff.1 h1
       exact ⟨N, by rw [hN]; exact e⟩
  | skip => exact ⟨0, e⟩
  | exit id => exact ⟨0, e⟩
  | ret => exact ⟨0, e⟩
  | stop => cases e
  | scope x => exact ih _ _ _ _ e
  | cond x y z =>
   have e : c_cond x y z C.call (mcode C.call F) ro fr st = some o := e
   show ∃ N, c_cond x y z (C.at N) (mcode (C.at N) F) ro fr st = some o
   unfold c_cond at e ⊢
   split at e
   ·exact ih _ _ _ _ e
   ·exact ih _ _ _ _ e
   ·cases e
  | seq x y => exact codeStep_need (a := C.call) (q := fun n => mcode (C.at n) F) (fun _ _ h => up h) (fun _ _ _ _ _ e => ih _ _ _ _ e) ro (.seq x y) fr st e
  | block id x => exact codeStep_need (a := C.call) (q := fun n => mcode (C.at n) F) (fun _ _ h => up h) (fun _ _ _ _ _ e => ih _ _ _ _ e) ro (.block id x) fr st e
  | loop x => exact codeStep_need (a := C.call) (q := fun n => mcode (C.at n) F) (fun _ _ h => up h) (fun _ _ _ _ _ e => ih _ _ _ _ e) ro (.loop x) fr st e
theorem Cx.code_need {C : Cx} {ro c fr st r} (h : C.code ro c fr st = some r) : ∃ N, mcode (C.at N) N ro c fr st = some r := by
 obtain ⟨F, hF⟩ := Cx.code_iff.1 h
 obtain ⟨N, hN⟩ := mcode_need F _ _ _ _ hF
 exact ⟨max F N, mcode_mono (Cx.at_mono (Nat.le_max_right F N)) _ _ (Nat.le_max_left F N) _ _ _ _ _ hN⟩
theorem callStep_need {tbl : Nat → Option MFunc} {p : CodeF} {q : Nat → CodeF} (hq : ∀ n m, n ≤ m → LeC (q n) (q m)) (hp : ∀ ro c fr st r, p ro c fr st = some r → ∃ n, q n ro c fr st = some r) {g args st} {o : V × St} (e : callStep tbl p g args st = some o) : ∃ n, callStep tbl (q n) g args st = some o := by
 unfold callStep at e ⊢
 split at e
 ·split at e
  ·rename_i mf _
   unfold funcRun at e ⊢
   split at e
   ·cases e
   ·rename_i h0
    simp only [h0, if_false]
    cases h1 : p none mf.body { r := setRegs .nil 0 _, n := mf.ntmps, marks := [] } { st with w := [] } with
    | none => rw [h1] at e; cases e
    | some r =>
     rw [h1] at e
     obtain ⟨n, hn⟩ := hp _ _ _ _ _ h1
     exact ⟨n, by rw [hn]; exact e⟩
  ·cases e
 ·unfold roundRun at e ⊢
  split at e
  ·split at e
   ·cases e
   ·split at e
    ·rename_i h1
     obtain ⟨n, hn⟩ := hp _ _ _ _ _ h1
     split at e
     ·split at e
      ·split at e
       ·rename_i h4 h5 _ _ _ _ h2
        obtain ⟨m, hm⟩ := hp _ _ _ _ _ h2
        refine ⟨max n m, ?_⟩
        rw [hq n _ (Nat.le_max_left n m) _ _ _ _ _ hn]
        simp only [h4, h5, if_true]
        rw [hq m _ (Nat.le_max_right n m) _ _ _ _ _ hm]
        exact e
       ·cases e
      ·cases e
     ·cases e
    ·cases e
  ·cases e
 ·cases e
theorem Cx.call_eq {C : Cx} (g : V) (args : List V) (st : St) : C.call g args st = orCall C.x (callStep C.tbl C.code) g args st := by
 apply opt_ext
 intro r
 constructor
 ·intro h
  obtain ⟨N, hN⟩ := Cx.call_iff.1 h
  cases N with
  | zero =>
   have e : C.x g args st = some r := hN
   unfold orCall; rw [e]
  | succ N =>
   refine orCall_mono (x := C.x) (callStep_mono (p := mcode (mcallX C.x C.tbl (N + 1) N) (N + 1)) fun ro c fr st r e => ?_) _ _ _ _ hN
   refine Cx.code_iff.2 ⟨N + 1, ?_⟩
   refine mcode_mono (fun g args st r e => ?_) (N + 1) (N + 1) (Nat.le_refl _) _ _ _ _ _ e
   exact Cx.call_iff.2 ⟨N + 1, mcallX_mono (Nat.le_refl _) N (N + 1) (by omega) _ _ _ _ e⟩
 ·intro h
  unfold orCall at h
  split at h
  ·rename_i r' e
   simp only [Option.some.injEq] at h
   subst h
   exact Cx.call_iff.2 ⟨0, e⟩
  ·rename_i hx
   obtain ⟨N, hN⟩ := callStep_need (q := fun n => mcode (C.at n) n) (fun n m h => mcode_mono (Cx.at_mono h) n m h) (fun _ _ _ _ _ e => Cx.code_need e) h
   refine Cx.call_iff.2 ⟨N + 1, ?_⟩
   show orCall C.x (callStep C.tbl (mcode (mcallX C.x C.tbl (N + 1) N) (N + 1))) g args st = some r
   unfold orCall
   rw [hx]
   exact callStep_mono (mcode_mono (mcallX_mono (by omega) N N (Nat.le_refl _)) N (N + 1) (by omega)) _ _ _ _ hN
end Go.Mx
