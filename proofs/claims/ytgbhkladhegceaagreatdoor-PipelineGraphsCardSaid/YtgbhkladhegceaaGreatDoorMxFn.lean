/-
  Runs without a count of steps: what a call and a piece of code come to, if they come to an end.
-/
import Derived.Test.YtgbhkladhegceaaGreatDoorMxUse
set_option linter.all false
namespace Go.Mx
open Go

def Le (a b : CallT) : Prop := ∀ g args st r, a g args st = some r → b g args st = some r

theorem mop_mono {a b : CallT} (h : Le a b) (op : MOp) (r : T V) (st : St) {o : V × St} (e : mop op a r st = some o) : mop op b r st = some o := by
  cases op <;> try exact e
  rename_i f args
  show op_call f args b r st = some o
  have e : op_call f args a r st = some o := e
  unfold op_call at e ⊢
  split at e
  · exact h _ _ _ _ e
  · cases e

theorem mops_mono {a b : CallT} (h : Le a b) : ∀ (ops : List MOper) (fr : Fr) (st : St) {o : Fr × St}, mops a ops fr st = some o → mops b ops fr st = some o
  | [], _, _, _, e => e
  | q :: ops, fr, st, o, e => by
    have e : opStep a q (mops a ops) fr st = some o := e
    show opStep b q (mops b ops) fr st = some o
    unfold opStep at e ⊢
    split at e
    · split at e
      · rename_i v st' h1
        rw [mop_mono h _ _ _ h1]
        simp only []
        split at e
        · exact mops_mono h ops _ _ e
        · cases e
      · cases e
    · split at e
      · exact mops_mono h ops _ _ e
      · cases e
    · cases e

theorem mopsD_mono {a b : CallT} (h : Le a b) : ∀ (ops : List MOper) (fr : Fr) (st : St) {o : List FP × Fr × St}, mopsD a ops fr st = some o → mopsD b ops fr st = some o
  | [], _, _, _, e => e
  | q :: ops, fr, st, o, e => by
    have e : opStepD a q (mopsD a ops) fr st = some o := e
    show opStepD b q (mopsD b ops) fr st = some o
    unfold opStepD at e ⊢
    split at e
    · split at e
      · rename_i v st' h1
        rw [mop_mono h _ _ _ h1]
        simp only []
        split at e
        · split at e
          · rename_i h2
            rw [mopsD_mono h ops _ _ h2]
            exact e
          · cases e
        · cases e
      · cases e
    · split at e
      · split at e
        · rename_i h2
          rw [mopsD_mono h ops _ _ h2]
          exact e
        · cases e
      · cases e
    · cases e

def LeC (a b : CodeF) : Prop := ∀ ro c fr st r, a ro c fr st = some r → b ro c fr st = some r

theorem codeStep_mono {a b : CallT} {p q : CodeF} (h : Le a b) (hc : LeC p q) (ro : Option Nat) (c : MCode) (fr : Fr) (st : St) {o : Ex × Fr × St} (e : codeStep c a p ro fr st = some o) : codeStep c b q ro fr st = some o := by
  cases c with
  | skip => exact e
  | reg ops =>
    have e : c_reg ops a p ro fr st = some o := e
    show c_reg ops b q ro fr st = some o
    unfold c_reg at e ⊢
    split at e
    · rename_i h1; rw [mops_mono h _ _ _ h1]; exact e
    · cases e
  | regD ops ms =>
    have e : c_regD ops ms a p ro fr st = some o := e
    show c_regD ops ms b q ro fr st = some o
    unfold c_regD at e ⊢
    split at e
    · rename_i h1; rw [mopsD_mono h _ _ _ h1]; exact e
    · cases e
  | regS dst ch send zero ops =>
    have e : c_regS dst ch send zero ops a p ro fr st = some o := e
    show c_regS dst ch send zero ops b q ro fr st = some o
    unfold c_regS at e ⊢
    split at e
    · split at e
      · split at e
        · split at e
          · rename_i h1; rw [mops_mono h _ _ _ h1]; exact e
          · cases e
        · cases e
      · cases e
    · cases e
  | seq x y =>
    have e : c_seq x y a p ro fr st = some o := e
    show c_seq x y b q ro fr st = some o
    unfold c_seq at e ⊢
    split at e
    · rename_i h1; rw [hc _ _ _ _ _ h1]; exact hc _ _ _ _ _ e
    · rename_i h1
      have := hc _ _ _ _ _ e
      rw [this]
      rcases o with ⟨_ | _ | _, _, _⟩
      · exact absurd e (h1 _ _)
      · rfl
      · rfl
  | cond x y z =>
    have e : c_cond x y z a p ro fr st = some o := e
    show c_cond x y z b q ro fr st = some o
    unfold c_cond at e ⊢
    split at e
    · exact hc _ _ _ _ _ e
    · exact hc _ _ _ _ _ e
    · cases e
  | block id x =>
    have e : c_block id x a p ro fr st = some o := e
    show c_block id x b q ro fr st = some o
    unfold c_block at e ⊢
    split at e
    · rename_i h1; rw [hc _ _ _ _ _ h1]; exact e
    · rename_i h1
      have := hc _ _ _ _ _ e
      rw [this]
      rcases o with ⟨_ | _ | _, _, _⟩
      · rfl
      · exact absurd e (h1 _ _ _)
      · rfl
  | loop x =>
    have e : c_loop x a p ro fr st = some o := e
    show c_loop x b q ro fr st = some o
    unfold c_loop at e ⊢
    split at e
    · rename_i h1; rw [hc _ _ _ _ _ h1]; exact hc _ _ _ _ _ e
    · rename_i h1
      have := hc _ _ _ _ _ e
      rw [this]
      rcases o with ⟨_ | _ | _, _, _⟩
      · exact absurd e (h1 _ _)
      · rfl
      · rfl
  | rangef g ps x y =>
    have e : c_rangef g ps x y a p ro fr st = some o := e
    show c_rangef g ps x y b q ro fr st = some o
    unfold c_rangef at e ⊢
    split at e
    · cases e
    · split at e
      · cases e
      · rename_i hy
        simp only [hy]
        split at e
        · cases e
        · split at e
          · cases e
          · rename_i h1; rw [h _ _ _ _ h1]; exact e
  | exit id => exact e
  | scope x => exact hc _ _ _ _ _ e
  | ret => exact e
  | stop => exact e

theorem mcode_mono {a b : CallT} (h : Le a b) : ∀ (F F' : Nat), F ≤ F' → LeC (mcode a F) (mcode b F')
  | 0, _, _ => fun _ _ _ _ _ e => by cases e
  | F + 1, 0, hF => by omega
  | F + 1, F' + 1, hF => fun ro c fr st _ e => codeStep_mono h (mcode_mono h F F' (by omega)) ro c fr st e

theorem funcRun_mono {p q : CodeF} (h : LeC p q) {mf : MFunc} {args : List V} {st : St} {o : V × St} (e : funcRun mf p args st = some o) : funcRun mf q args st = some o := by
  unfold funcRun at e ⊢
  split at e
  · cases e
  · rename_i h0
    rw [if_neg h0]
    cases h1 : p none mf.body { r := setRegs .nil 0 args, n := mf.ntmps, marks := [] } { st with w := [] } with
    | none => rw [h1] at e; cases e
    | some r => rw [h1] at e; rw [h _ _ _ _ _ h1]; exact e

theorem roundRun_mono {p q : CodeF} (h : LeC p q) {l : Nat} {args : List V} {st : St} {o : V × St} (e : roundRun p l args st = some o) : roundRun q l args st = some o := by
  unfold roundRun at e ⊢
  split at e
  · split at e
    · cases e
    · split at e
      · rename_i h1
        rw [h _ _ _ _ _ h1]
        simp only []
        split at e
        · split at e
          · rename_i hr
            rw [if_pos hr]
            split at e
            · rename_i h2
              rw [h _ _ _ _ _ h2]
              exact e
            · cases e
          · cases e
        · cases e
      · cases e
  · cases e

theorem callStep_mono {tbl : Nat → Option MFunc} {p q : CodeF} (h : LeC p q) : Le (callStep tbl p) (callStep tbl q) := by
  intro g args st o e
  unfold callStep at e ⊢
  split at e
  · split at e
    · exact funcRun_mono h e
    · cases e
  · exact roundRun_mono h e
  · cases e

theorem orCall_mono {x a b : CallT} (h : Le a b) : Le (orCall x a) (orCall x b) := by
  intro g args st o e
  unfold orCall at e ⊢
  split at e
  · exact e
  · exact h _ _ _ _ e

theorem mcallX_mono {x : CallT} {tbl : Nat → Option MFunc} {F F' : Nat} (hF : F ≤ F') : ∀ (d d' : Nat), d ≤ d' → Le (mcallX x tbl F d) (mcallX x tbl F' d')
  | 0, 0, _ => fun _ _ _ _ e => e
  | 0, d' + 1, _ => fun g args st o e => by
    have e : x g args st = some o := e
    show orCall x _ g args st = some o
    unfold orCall; rw [e]
  | d + 1, 0, h => by omega
  | d + 1, d' + 1, h => orCall_mono (callStep_mono (mcode_mono (mcallX_mono hF d d' (by omega)) F F' hF))

/-- The calls that are known, and the program's functions. -/
structure Cx where
  x : CallT
  tbl : Nat → Option MFunc

def Cx.at (C : Cx) (N : Nat) : CallT := mcallX C.x C.tbl N N
theorem Cx.at_mono {C : Cx} {N M : Nat} (h : N ≤ M) : Le (C.at N) (C.at M) := mcallX_mono h N M h

open Classical in
noncomputable def Cx.call (C : Cx) : CallT := fun g args st => if h : ∃ r N, C.at N g args st = some r then some h.choose else none
theorem Cx.call_iff {C : Cx} {g args st r} : C.call g args st = some r ↔ ∃ N, C.at N g args st = some r := by
  unfold Cx.call
  constructor
  · intro h
    split at h
    · rename_i hc
      simp only [Option.some.injEq] at h
      exact h ▸ hc.choose_spec
    · cases h
  · rintro ⟨N, h⟩
    have hc : ∃ r N, C.at N g args st = some r := ⟨r, N, h⟩
    rw [dif_pos hc]
    obtain ⟨M, hM⟩ := hc.choose_spec
    have h1 := Cx.at_mono (Nat.le_max_left N M) _ _ _ _ h
    have h2 := Cx.at_mono (Nat.le_max_right N M) _ _ _ _ hM
    rw [h1] at h2
    exact congrArg some (Option.some.inj h2).symm

open Classical in
noncomputable def Cx.code (C : Cx) : CodeF := fun ro c fr st => if h : ∃ r F, mcode C.call F ro c fr st = some r then some h.choose else none
theorem Cx.code_iff {C : Cx} {ro c fr st r} : C.code ro c fr st = some r ↔ ∃ F, mcode C.call F ro c fr st = some r := by
  unfold Cx.code
  constructor
  · intro h
    split at h
    · rename_i hc
      simp only [Option.some.injEq] at h
      exact h ▸ hc.choose_spec
    · cases h
  · rintro ⟨N, h⟩
    have hc : ∃ r F, mcode C.call F ro c fr st = some r := ⟨r, N, h⟩
    rw [dif_pos hc]
    obtain ⟨M, hM⟩ := hc.choose_spec
    have h1 := mcode_mono (fun _ _ _ _ e => e) N (max N M) (Nat.le_max_left N M) _ _ _ _ _ h
    have h2 := mcode_mono (fun _ _ _ _ e => e) M (max N M) (Nat.le_max_right N M) _ _ _ _ _ hM
    rw [h1] at h2
    exact congrArg some (Option.some.inj h2).symm

theorem opt_ext {α : Type} {a b : Option α} (h : ∀ r, a = some r ↔ b = some r) : a = b := by
  cases a with
  | none => cases b with
    | none => rfl
    | some r => exact absurd ((h r).2 rfl) (by simp)
  | some r => exact ((h r).1 rfl).symm

/-- Only so much is needed. -/
theorem codeStep_need {a : CallT} {p : CodeF} {q : Nat → CodeF} (hq : ∀ n m, n ≤ m → LeC (q n) (q m)) (hp : ∀ ro c fr st r, p ro c fr st = some r → ∃ n, q n ro c fr st = some r) (ro : Option Nat) (c : MCode) (fr : Fr) (st : St) {o : Ex × Fr × St} (e : codeStep c a p ro fr st = some o) : ∃ n, codeStep c a (q n) ro fr st = some o := by
  cases c with
  | skip => exact ⟨0, e⟩
  | reg ops => exact ⟨0, e⟩
  | regD ops ms => exact ⟨0, e⟩
  | regS dst ch send zero ops => exact ⟨0, e⟩
  | seq x y =>
    have e : c_seq x y a p ro fr st = some o := e
    show ∃ n, c_seq x y a (q n) ro fr st = some o
    unfold c_seq at e ⊢
    split at e
    · rename_i h1
      obtain ⟨n, hn⟩ := hp _ _ _ _ _ h1
      obtain ⟨m, hm⟩ := hp _ _ _ _ _ e
      refine ⟨max n m, ?_⟩
      rw [hq n _ (Nat.le_max_left n m) _ _ _ _ _ hn]
      exact hq m _ (Nat.le_max_right n m) _ _ _ _ _ hm
    · rename_i h1
      obtain ⟨n, hn⟩ := hp _ _ _ _ _ e
      refine ⟨n, ?_⟩
      rw [hn]
      rcases o with ⟨_ | _ | _, _, _⟩
      · exact absurd e (h1 _ _)
      · rfl
      · rfl
  | cond x y z =>
    have e : c_cond x y z a p ro fr st = some o := e
    show ∃ n, c_cond x y z a (q n) ro fr st = some o
    unfold c_cond at e ⊢
    split at e
    · exact hp _ _ _ _ _ e
    · exact hp _ _ _ _ _ e
    · cases e
  | block id x =>
    have e : c_block id x a p ro fr st = some o := e
    show ∃ n, c_block id x a (q n) ro fr st = some o
    unfold c_block at e ⊢
    split at e
    · rename_i h1
      obtain ⟨n, hn⟩ := hp _ _ _ _ _ h1
      exact ⟨n, by rw [hn]; exact e⟩
    · rename_i h1
      obtain ⟨n, hn⟩ := hp _ _ _ _ _ e
      refine ⟨n, ?_⟩
      rw [hn]
      rcases o with ⟨_ | _ | _, _, _⟩
      · rfl
      · exact absurd e (h1 _ _ _)
      · rfl
  | loop x =>
    have e : c_loop x a p ro fr st = some o := e
    show ∃ n, c_loop x a (q n) ro fr st = some o
    unfold c_loop at e ⊢
    split at e
    · rename_i h1
      obtain ⟨n, hn⟩ := hp _ _ _ _ _ h1
      obtain ⟨m, hm⟩ := hp _ _ _ _ _ e
      refine ⟨max n m, ?_⟩
      rw [hq n _ (Nat.le_max_left n m) _ _ _ _ _ hn]
      exact hq m _ (Nat.le_max_right n m) _ _ _ _ _ hm
    · rename_i h1
      obtain ⟨n, hn⟩ := hp _ _ _ _ _ e
      refine ⟨n, ?_⟩
      rw [hn]
      rcases o with ⟨_ | _ | _, _, _⟩
      · exact absurd e (h1 _ _)
      · rfl
      · rfl
  | rangef g ps x y => exact ⟨0, e⟩
  | exit id => exact ⟨0, e⟩
  | scope x => exact hp _ _ _ _ _ e
  | ret => exact ⟨0, e⟩
  | stop => exact ⟨0, e⟩

theorem Cx.code_eq {C : Cx} (ro : Option Nat) (c : MCode) (fr : Fr) (st : St) : C.code ro c fr st = codeStep c C.call C.code ro fr st := by
  apply opt_ext
  intro r
  constructor
  · intro h
    obtain ⟨F, hF⟩ := Cx.code_iff.1 h
    cases F with
    | zero => cases hF
    | succ F => exact codeStep_mono (fun _ _ _ _ e => e) (fun ro c fr st r e => Cx.code_iff.2 ⟨F, e⟩) ro c fr st hF
  · intro h
    obtain ⟨n, hn⟩ := codeStep_need (q := mcode C.call) (mcode_mono fun _ _ _ _ e => e) (fun _ _ _ _ _ e => Cx.code_iff.1 e) ro c fr st h
    exact Cx.code_iff.2 ⟨n + 1, hn⟩

theorem mop_need {C : Cx} (op : MOp) (r : T V) (st : St) {o : V × St} (e : mop op C.call r st = some o) : ∃ N, mop op (C.at N) r st = some o := by
  cases op <;> try exact ⟨0, e⟩
  rename_i f args
  have e : op_call f args C.call r st = some o := e
  show ∃ N, op_call f args (C.at N) r st = some o
  unfold op_call at e ⊢
  split at e
  · exact Cx.call_iff.1 e
  · cases e

theorem mops_need {C : Cx} : ∀ (ops : List MOper) (fr : Fr) (st : St) {o : Fr × St}, mops C.call ops fr st = some o → ∃ N, mops (C.at N) ops fr st = some o
  | [], _, _, _, e => ⟨0, e⟩
  | q :: ops, fr, st, o, e => by
    have e : opStep C.call q (mops C.call ops) fr st = some o := e
    show ∃ N, opStep (C.at N) q (mops (C.at N) ops) fr st = some o
    unfold opStep at e ⊢
    split at e
    · split at e
      · rename_i v st' h1
        split at e
        · obtain ⟨N, hN⟩ := mop_need _ _ _ h1
          obtain ⟨M, hM⟩ := mops_need ops _ _ e
          refine ⟨max N M, ?_⟩
          rw [mop_mono (Cx.at_mono (Nat.le_max_left N M)) _ _ _ hN]
          rename_i h3
          simp only [h3]
          exact mops_mono (Cx.at_mono (Nat.le_max_right N M)) _ _ _ hM
        · cases e
      · cases e
    · split at e
      · exact mops_need ops _ _ e
      · cases e
    · cases e

theorem mopsD_need {C : Cx} : ∀ (ops : List MOper) (fr : Fr) (st : St) {o : List FP × Fr × St}, mopsD C.call ops fr st = some o → ∃ N, mopsD (C.at N) ops fr st = some o
  | [], _, _, _, e => ⟨0, e⟩
  | q :: ops, fr, st, o, e => by
    have e : opStepD C.call q (mopsD C.call ops) fr st = some o := e
    show ∃ N, opStepD (C.at N) q (mopsD (C.at N) ops) fr st = some o
    unfold opStepD at e ⊢
    split at e
    · split at e
      · rename_i v st' h1
        split at e
        · rename_i h3
          split at e
          · rename_i h2
            obtain ⟨N, hN⟩ := mop_need _ _ _ h1
            obtain ⟨M, hM⟩ := mopsD_need ops _ _ h2
            refine ⟨max N M, ?_⟩
            rw [mop_mono (Cx.at_mono (Nat.le_max_left N M)) _ _ _ hN]
            simp only [h3]
            rw [mopsD_mono (Cx.at_mono (Nat.le_max_right N M)) _ _ _ hM]
            exact e
          · cases e
        · cases e
      · cases e
    · split at e
      · split at e
        · rename_i h2
          obtain ⟨M, hM⟩ := mopsD_need ops _ _ h2
          exact ⟨M, by rw [hM]; exact e⟩
        · cases e
      · cases e
    · cases e

theorem mcode_need {C : Cx} : ∀ (F : Nat) (ro : Option Nat) (c : MCode) (fr : Fr) (st : St) {o : Ex × Fr × St}, mcode C.call F ro c fr st = some o → ∃ N, mcode (C.at N) F ro c fr st = some o
  | 0, _, _, _, _, _, e => by cases e
  | F + 1, ro, c, fr, st, o, e => by
    have e : codeStep c C.call (mcode C.call F) ro fr st = some o := e
    show ∃ N, codeStep c (C.at N) (mcode (C.at N) F) ro fr st = some o
    have ih := @mcode_need C F
    have up : ∀ {n m : Nat}, n ≤ m → LeC (mcode (C.at n) F) (mcode (C.at m) F) := fun h => mcode_mono (Cx.at_mono h) F F (Nat.le_refl _)
    cases c with
    | reg ops =>
      have e : c_reg ops C.call (mcode C.call F) ro fr st = some o := e
      show ∃ N, c_reg ops (C.at N) (mcode (C.at N) F) ro fr st = some o
      unfold c_reg at e ⊢
      split at e
      · rename_i h1
        obtain ⟨N, hN⟩ := mops_need _ _ _ h1
        exact ⟨N, by rw [hN]; exact e⟩
      · cases e
    | regD ops ms =>
      have e : c_regD ops ms C.call (mcode C.call F) ro fr st = some o := e
      show ∃ N, c_regD ops ms (C.at N) (mcode (C.at N) F) ro fr st = some o
      unfold c_regD at e ⊢
      split at e
      · rename_i h1
        obtain ⟨N, hN⟩ := mopsD_need _ _ _ h1
        exact ⟨N, by rw [hN]; exact e⟩
      · cases e
    | regS dst ch send zero ops =>
      have e : c_regS dst ch send zero ops C.call (mcode C.call F) ro fr st = some o := e
      show ∃ N, c_regS dst ch send zero ops (C.at N) (mcode (C.at N) F) ro fr st = some o
      unfold c_regS at e ⊢
      split at e
      · split at e
        · split at e
          · split at e
            · rename_i h1
              obtain ⟨N, hN⟩ := mops_need _ _ _ h1
              exact ⟨N, by rw [hN]; exact e⟩
            · cases e
          · cases e
        · cases e
      · cases e
    | rangef g ps x y =>
      have e : c_rangef g ps x y C.call (mcode C.call F) ro fr st = some o := e
      show ∃ N, c_rangef g ps x y (C.at N) (mcode (C.at N) F) ro fr st = some o
      unfold c_rangef at e ⊢
      split at e
      · cases e
      · split at e
        · cases e
        · rename_i hy
          simp only [hy]
          split at e
          · cases e
          · split at e
            · cases e
            · rename_i h1
              obtain ⟨N, hN⟩ := Cx.call_iff.1 h1
              exact ⟨N, by rw [hN]; exact e⟩
    | skip => exact ⟨0, e⟩
    | exit id => exact ⟨0, e⟩
    | ret => exact ⟨0, e⟩
    | stop => cases e
    | scope x => exact ih _ _ _ _ e
    | cond x y z =>
      have e : c_cond x y z C.call (mcode C.call F) ro fr st = some o := e
      show ∃ N, c_cond x y z (C.at N) (mcode (C.at N) F) ro fr st = some o
      unfold c_cond at e ⊢
      split at e
      · exact ih _ _ _ _ e
      · exact ih _ _ _ _ e
      · cases e
    | seq x y => exact codeStep_need (a := C.call) (q := fun n => mcode (C.at n) F) (fun _ _ h => up h) (fun _ _ _ _ _ e => ih _ _ _ _ e) ro (.seq x y) fr st e
    | block id x => exact codeStep_need (a := C.call) (q := fun n => mcode (C.at n) F) (fun _ _ h => up h) (fun _ _ _ _ _ e => ih _ _ _ _ e) ro (.block id x) fr st e
    | loop x => exact codeStep_need (a := C.call) (q := fun n => mcode (C.at n) F) (fun _ _ h => up h) (fun _ _ _ _ _ e => ih _ _ _ _ e) ro (.loop x) fr st e

theorem Cx.code_need {C : Cx} {ro c fr st r} (h : C.code ro c fr st = some r) : ∃ N, mcode (C.at N) N ro c fr st = some r := by
  obtain ⟨F, hF⟩ := Cx.code_iff.1 h
  obtain ⟨N, hN⟩ := mcode_need F _ _ _ _ hF
  exact ⟨max F N, mcode_mono (Cx.at_mono (Nat.le_max_right F N)) _ _ (Nat.le_max_left F N) _ _ _ _ _ hN⟩

theorem callStep_need {tbl : Nat → Option MFunc} {p : CodeF} {q : Nat → CodeF} (hq : ∀ n m, n ≤ m → LeC (q n) (q m)) (hp : ∀ ro c fr st r, p ro c fr st = some r → ∃ n, q n ro c fr st = some r) {g args st} {o : V × St} (e : callStep tbl p g args st = some o) : ∃ n, callStep tbl (q n) g args st = some o := by
  unfold callStep at e ⊢
  split at e
  · split at e
    · rename_i mf _
      unfold funcRun at e ⊢
      split at e
      · cases e
      · rename_i h0
        simp only [h0, if_false]
        cases h1 : p none mf.body { r := setRegs .nil 0 _, n := mf.ntmps, marks := [] } { st with w := [] } with
        | none => rw [h1] at e; cases e
        | some r =>
          rw [h1] at e
          obtain ⟨n, hn⟩ := hp _ _ _ _ _ h1
          exact ⟨n, by rw [hn]; exact e⟩
    · cases e
  · unfold roundRun at e ⊢
    split at e
    · split at e
      · cases e
      · split at e
        · rename_i h1
          obtain ⟨n, hn⟩ := hp _ _ _ _ _ h1
          split at e
          · split at e
            · split at e
              · rename_i h4 h5 _ _ _ _ h2
                obtain ⟨m, hm⟩ := hp _ _ _ _ _ h2
                refine ⟨max n m, ?_⟩
                rw [hq n _ (Nat.le_max_left n m) _ _ _ _ _ hn]
                simp only [h4, h5, if_true]
                rw [hq m _ (Nat.le_max_right n m) _ _ _ _ _ hm]
                exact e
              · cases e
            · cases e
          · cases e
        · cases e
    · cases e
  · cases e

theorem Cx.call_eq {C : Cx} (g : V) (args : List V) (st : St) : C.call g args st = orCall C.x (callStep C.tbl C.code) g args st := by
  apply opt_ext
  intro r
  constructor
  · intro h
    obtain ⟨N, hN⟩ := Cx.call_iff.1 h
    cases N with
    | zero =>
      have e : C.x g args st = some r := hN
      unfold orCall; rw [e]
    | succ N =>
      refine orCall_mono (x := C.x) (callStep_mono (p := mcode (mcallX C.x C.tbl (N + 1) N) (N + 1)) fun ro c fr st r e => ?_) _ _ _ _ hN
      refine Cx.code_iff.2 ⟨N + 1, ?_⟩
      refine mcode_mono (fun g args st r e => ?_) (N + 1) (N + 1) (Nat.le_refl _) _ _ _ _ _ e
      exact Cx.call_iff.2 ⟨N + 1, mcallX_mono (Nat.le_refl _) N (N + 1) (by omega) _ _ _ _ e⟩
  · intro h
    unfold orCall at h
    split at h
    · rename_i r' e
      simp only [Option.some.injEq] at h
      subst h
      exact Cx.call_iff.2 ⟨0, e⟩
    · rename_i hx
      obtain ⟨N, hN⟩ := callStep_need (q := fun n => mcode (C.at n) n) (fun n m h => mcode_mono (Cx.at_mono h) n m h) (fun _ _ _ _ _ e => Cx.code_need e) h
      refine Cx.call_iff.2 ⟨N + 1, ?_⟩
      show orCall C.x (callStep C.tbl (mcode (mcallX C.x C.tbl (N + 1) N) (N + 1))) g args st = some r
      unfold orCall
      rw [hx]
      exact callStep_mono (mcode_mono (mcallX_mono (by omega) N N (Nat.le_refl _)) N (N + 1) (by omega)) _ _ _ _ hN

end Go.Mx
/- Runs with unknown values, the next step at the head: what is to be done later is a list. -/
namespace Go.Mx
open Go

inductive Rs where
  | ex (e : Ex) (fr : Fr) (st : St)
  | val (v : V) (st : St)
  | ops (fr : Fr) (st : St)
  | opsD (fps : List FP) (fr : Fr) (st : St)

inductive Kf where
  | seq (ro : Option Nat) (b : MCode)
  | block (id : Nat)
  | loop (ro : Option Nat) (c : MCode)
  | reg
  | put (d : Option Nat) (ops : List MOper) (fr : Fr)
  | regD (ms : List Nat)
  | putD (op : MOp) (d : Option Nat) (ops : List MOper) (fr : Fr) (n : Nat) (w : List Nat)
  | cons (fp : FP)
  | fin (rs : List MRes) (st : St)

def exR : Option (Ex × Fr × St) → Option Rs
  | some (e, fr, st) => some (.ex e fr st)
  | none => none
def valR : Option (V × St) → Option Rs
  | some (v, st) => some (.val v st)
  | none => none
def opsR : Option (Fr × St) → Option Rs
  | some (fr, st) => some (.ops fr st)
  | none => none
def opsDR : Option (List FP × Fr × St) → Option Rs
  | some (fps, fr, st) => some (.opsD fps fr st)
  | none => none

noncomputable def stepK (C : Cx) : Kf → Rs → Option Rs
  | .seq ro b, .ex .normal fr st => exR (C.code ro b fr st)
  | .seq _ _, .ex e fr st => some (.ex e fr st)
  | .block id, .ex (.exit id') fr st => match Nat.beq id' id with
    | true => some (.ex .normal fr st)
    | false => some (.ex (.exit id') fr st)
  | .block _, .ex e fr st => some (.ex e fr st)
  | .loop ro c, .ex .normal fr st => exR (C.code ro (.loop c) fr st)
  | .loop _ _, .ex e fr st => some (.ex e fr st)
  | .reg, .ops fr st => some (.ex .normal fr st)
  | .put d ops fr, .val v st => match fr.put d v with
    | some fr => opsR (mops C.call ops fr st)
    | none => none
  | .regD ms, .opsD fps fr st => match apartOk fps ms with
    | true => some (.ex .normal fr st)
    | false => none
  | .putD op d ops fr n w, .val v st' => match fr.put d v with
    | some fr' => match mopsD C.call ops fr' { st' with w := oldIds n st'.w ++ w } with
      | some (fps, fr'', st'') => some (.opsD (footOf fr.r op (oldIds n st'.w) n st'.n :: fps) fr'' st'')
      | none => none
    | none => none
  | .cons fp, .opsD fps fr st => some (.opsD (fp :: fps) fr st)
  | .fin _ _, .ex (.exit _) _ _ => none
  | .fin rs st0, .ex _ fr st1 => match shut st1 fr.marks with
    | none => none
    | some st2 => match resV fr.r st2 rs with
      | some vs => some (.val (resOf vs) { st2 with w := oldIds st0.n st2.w ++ st0.w })
      | none => none
  | _, _ => none

noncomputable def stepO (C : Cx) (k : Kf) : Option Rs → Option Rs
  | some r => stepK C k r
  | none => none

noncomputable def unw (C : Cx) : List Kf → Option Rs → Option Rs
  | [], r => r
  | k :: K, r => unw C K (stepO C k r)

theorem unw_none {C : Cx} : ∀ K, unw C K none = none
  | [] => rfl
  | _ :: K => unw_none K

/-- The run comes to an end, and there Q holds. -/
structure Run (C : Cx) (K : List Kf) (r : Option Rs) (Q : Rs → Prop) : Prop where
  ex : ∃ s, unw C K r = some s ∧ Q s

theorem run_congr {C : Cx} {K K' : List Kf} {r r' : Option Rs} {Q : Rs → Prop} (h : unw C K r = unw C K' r') : Run C K r Q ↔ Run C K' r' Q :=
  ⟨fun ⟨s, e, q⟩ => ⟨s, h ▸ e, q⟩, fun ⟨s, e, q⟩ => ⟨s, h.symm ▸ e, q⟩⟩

theorem run_none {C : Cx} {K : List Kf} {Q : Rs → Prop} : Run C K none Q ↔ False :=
  ⟨fun ⟨_, h, _⟩ => (by rw [unw_none] at h; cases h), fun h => h.elim⟩

theorem run_nil {C : Cx} {s : Rs} {Q : Rs → Prop} : Run C [] (some s) Q ↔ Q s :=
  ⟨fun ⟨_, h, q⟩ => by simp only [unw, Option.some.injEq] at h; exact h ▸ q, fun q => ⟨s, rfl, q⟩⟩

/-- A call comes to an end, and P holds of its value and of the heap. -/
structure Call (C : Cx) (g : V) (args : List V) (st : St) (P : V → St → Prop) : Prop where
  ex : ∃ v st', C.call g args st = some (v, st') ∧ P v st'
structure Code (C : Cx) (ro : Option Nat) (c : MCode) (fr : Fr) (st : St) (P : Ex → Fr → St → Prop) : Prop where
  ex : ∃ e fr' st', C.code ro c fr st = some (e, fr', st') ∧ P e fr' st'

def valQ (P : V → St → Prop) : Rs → Prop
  | .val v st => P v st
  | _ => False
def exQ (P : Ex → Fr → St → Prop) : Rs → Prop
  | .ex e fr st => P e fr st
  | _ => False
theorem valQ_val {P : V → St → Prop} {v st} : valQ P (.val v st) ↔ P v st := Iff.rfl
theorem exQ_ex {P : Ex → Fr → St → Prop} {e fr st} : exQ P (.ex e fr st) ↔ P e fr st := Iff.rfl

theorem call_run {C : Cx} {g args st P} : Call C g args st P ↔ Run C [] (valR (C.call g args st)) (valQ P) := by
  constructor
  · rintro ⟨v, st', h, p⟩
    exact ⟨.val v st', by rw [h]; rfl, p⟩
  · rintro ⟨s, h, q⟩
    cases hc : C.call g args st with
    | none => rw [hc] at h; cases h
    | some r =>
      rw [hc] at h
      simp only [unw, valR, Option.some.injEq] at h
      subst h
      exact ⟨_, _, hc, q⟩
theorem code_run {C : Cx} {ro c fr st P} : Code C ro c fr st P ↔ Run C [] (exR (C.code ro c fr st)) (exQ P) := by
  constructor
  · rintro ⟨e, fr', st', h, p⟩
    exact ⟨.ex e fr' st', by rw [h]; rfl, p⟩
  · rintro ⟨s, h, q⟩
    cases hc : C.code ro c fr st with
    | none => rw [hc] at h; cases h
    | some r =>
      rw [hc] at h
      simp only [unw, exR, Option.some.injEq] at h
      subst h
      exact ⟨_, _, _, hc, q⟩

theorem run_call {C : Cx} {g args st P K Q} (h : Call C g args st P) (k : ∀ v st', P v st' → Run C K (some (.val v st')) Q) : Run C K (valR (C.call g args st)) Q := by
  obtain ⟨v, st', e, p⟩ := h.ex
  rw [e]
  exact k v st' p
theorem run_code {C : Cx} {ro c fr st P K Q} (h : Code C ro c fr st P) (k : ∀ e fr' st', P e fr' st' → Run C K (some (.ex e fr' st')) Q) : Run C K (exR (C.code ro c fr st)) Q := by
  obtain ⟨e, fr', st', h, p⟩ := h.ex
  rw [h]
  exact k e fr' st' p
theorem Call.mono {C : Cx} {g args st} {P Q : V → St → Prop} (h : Call C g args st P) (k : ∀ v st', P v st' → Q v st') : Call C g args st Q := by
  obtain ⟨v, st', e, p⟩ := h.ex
  exact ⟨v, st', e, k v st' p⟩

def loopQ (I : Nat → Fr → St → Prop) (k : Nat) (P : Ex → Fr → St → Prop) : Ex → Fr → St → Prop
  | .normal, fr, st => ∃ k', k' < k ∧ I k' fr st
  | e, fr, st => P e fr st

theorem Code.loop {C : Cx} {ro c} {P : Ex → Fr → St → Prop} {I : Nat → Fr → St → Prop} (h : ∀ k fr st, I k fr st → Code C ro c fr st (loopQ I k P)) : ∀ (k : Nat) (fr : Fr) (st : St), I k fr st → Code C ro (.loop c) fr st P := by
  intro k
  induction k using Nat.strongRecOn with
  | _ k ih =>
    intro fr st hi
    obtain ⟨e, fr', st', h1, p⟩ := (h k fr st hi).ex
    have e1 : C.code ro (.loop c) fr st = c_loop c C.call C.code ro fr st := Cx.code_eq ro (.loop c) fr st
    unfold c_loop at e1
    rw [h1] at e1
    cases e with
    | normal =>
      obtain ⟨k', hk, hi'⟩ := p
      obtain ⟨e2, fr2, st2, h2, p2⟩ := (ih k' hk fr' st' hi').ex
      exact ⟨e2, fr2, st2, e1.trans h2, p2⟩
    | exit id => exact ⟨_, _, _, e1, p⟩
    | ret => exact ⟨_, _, _, e1, p⟩

theorem run_loop {C : Cx} {ro c} {K : List Kf} {Q : Rs → Prop} {fr : Fr} {st : St} (P : Ex → Fr → St → Prop) (I : Nat → Fr → St → Prop) (k : Nat) (hi : I k fr st) (h : ∀ k fr st, I k fr st → Code C ro c fr st (loopQ I k P)) (q : ∀ e fr' st', P e fr' st' → Run C K (some (.ex e fr' st')) Q) : Run C K (exR (C.code ro (.loop c) fr st)) Q :=
  run_code (Code.loop h k fr st hi) q

/-! ## The steps -/
section
variable {C : Cx} {K : List Kf} {Q : Rs → Prop} {ro : Option Nat} {a b c : MCode} {fr : Fr} {st : St}
theorem run_skip : Run C K (exR (C.code ro .skip fr st)) Q ↔ Run C K (some (.ex .normal fr st)) Q := run_congr (by rw [Cx.code_eq]; rfl)
theorem run_reg {ops} : Run C K (exR (C.code ro (.reg ops) fr st)) Q ↔ Run C (.reg :: K) (opsR (mops C.call ops fr st)) Q := run_congr (by
  rw [Cx.code_eq]
  show unw C K (exR (c_reg ops C.call C.code ro fr st)) = unw C K (stepO C .reg (opsR (mops C.call ops fr st)))
  unfold c_reg
  rcases mops C.call ops fr st with _ | ⟨_, _⟩ <;> rfl)
theorem run_regD {ops ms} : Run C K (exR (C.code ro (.regD ops ms) fr st)) Q ↔ Run C (.regD ms :: K) (opsDR (mopsD C.call ops fr st)) Q := run_congr (by
  rw [Cx.code_eq]
  show unw C K (exR (c_regD ops ms C.call C.code ro fr st)) = unw C K (stepO C (.regD ms) (opsDR (mopsD C.call ops fr st)))
  unfold c_regD
  rcases mopsD C.call ops fr st with _ | ⟨fps, _, _⟩
  · rfl
  · simp only [opsDR, stepO, stepK]
    cases apartOk fps ms <;> rfl)
theorem run_seq : Run C K (exR (C.code ro (.seq a b) fr st)) Q ↔ Run C (.seq ro b :: K) (exR (C.code ro a fr st)) Q := run_congr (by
  rw [Cx.code_eq]
  show unw C K (exR (c_seq a b C.call C.code ro fr st)) = unw C K (stepO C (.seq ro b) (exR (C.code ro a fr st)))
  unfold c_seq
  rcases C.code ro a fr st with _ | ⟨e, _, _⟩
  · rfl
  · cases e <;> rfl)
noncomputable def condR (C : Cx) (ro : Option Nat) (a b : MCode) (fr : Fr) (st : St) : Option V → Option Rs
  | some (.bool true) => exR (C.code ro a fr st)
  | some (.bool false) => exR (C.code ro b fr st)
  | _ => none
theorem run_cond {x} : Run C K (exR (C.code ro (.cond x a b) fr st)) Q ↔ Run C K (condR C ro a b fr st (x.ev fr.r)) Q := run_congr (by
  rw [Cx.code_eq]
  show unw C K (exR (c_cond x a b C.call C.code ro fr st)) = _
  unfold c_cond condR
  rcases x.ev fr.r with _ | v
  · rfl
  · cases v <;> try rfl
    rename_i b'
    cases b' <;> rfl)
theorem condR_true : condR C ro a b fr st (some (.bool true)) = exR (C.code ro a fr st) := rfl
theorem condR_false : condR C ro a b fr st (some (.bool false)) = exR (C.code ro b fr st) := rfl
theorem run_block {id} : Run C K (exR (C.code ro (.block id a) fr st)) Q ↔ Run C (.block id :: K) (exR (C.code ro a fr st)) Q := run_congr (by
  rw [Cx.code_eq]
  show unw C K (exR (c_block id a C.call C.code ro fr st)) = unw C K (stepO C (.block id) (exR (C.code ro a fr st)))
  unfold c_block
  rcases C.code ro a fr st with _ | ⟨e, _, _⟩
  · rfl
  · cases e with
    | exit id' => simp only [exR, stepO, stepK]; cases Nat.beq id' id <;> rfl
    | _ => rfl)
theorem run_exit {id} : Run C K (exR (C.code ro (.exit id) fr st)) Q ↔ Run C K (some (.ex (.exit id) fr st)) Q := run_congr (by rw [Cx.code_eq]; rfl)
theorem run_scope : Run C K (exR (C.code ro (.scope a) fr st)) Q ↔ Run C K (exR (C.code ro a fr st)) Q := run_congr (by rw [Cx.code_eq]; rfl)
theorem run_ret : Run C K (exR (C.code ro .ret fr st)) Q ↔ Run C K (some (.ex .ret fr st)) Q := run_congr (by rw [Cx.code_eq]; rfl)

theorem k_seq_normal : Run C (.seq ro b :: K) (some (.ex .normal fr st)) Q ↔ Run C K (exR (C.code ro b fr st)) Q := run_congr rfl
theorem k_seq_exit {i} : Run C (.seq ro b :: K) (some (.ex (.exit i) fr st)) Q ↔ Run C K (some (.ex (.exit i) fr st)) Q := run_congr rfl
theorem k_seq_ret : Run C (.seq ro b :: K) (some (.ex .ret fr st)) Q ↔ Run C K (some (.ex .ret fr st)) Q := run_congr rfl
theorem k_block_normal {i} : Run C (.block i :: K) (some (.ex .normal fr st)) Q ↔ Run C K (some (.ex .normal fr st)) Q := run_congr rfl
theorem k_block_ret {i} : Run C (.block i :: K) (some (.ex .ret fr st)) Q ↔ Run C K (some (.ex .ret fr st)) Q := run_congr rfl
theorem k_block_exit {i} : Run C (.block i :: K) (some (.ex (.exit i) fr st)) Q ↔ Run C K (some (.ex .normal fr st)) Q := run_congr (by simp [unw, stepO, stepK, Nat.beq_refl])
theorem k_block_exit' {i j} (h : Nat.beq j i = false) : Run C (.block i :: K) (some (.ex (.exit j) fr st)) Q ↔ Run C K (some (.ex (.exit j) fr st)) Q := run_congr (by simp [unw, stepO, stepK, h])
theorem k_reg : Run C (.reg :: K) (some (.ops fr st)) Q ↔ Run C K (some (.ex .normal fr st)) Q := run_congr rfl
theorem ops_nil : opsR (mops C.call [] fr st) = some (.ops fr st) := rfl
def opR (C : Cx) (K : List Kf) (Q : Rs → Prop) (d : Option Nat) (op : MOp) (ops : List MOper) (fr : Fr) (st : St) : Option Bool → Prop
  | some true => Run C (.put d ops fr :: K) (valR (mop op C.call fr.r st)) Q
  | some false => Run C (.put d ops fr :: K) (some (.val (.tup []) st)) Q
  | none => False
theorem ops_cons {d op g ops} : Run C K (opsR (mops C.call (⟨d, op, g⟩ :: ops) fr st)) Q ↔ opR C K Q d op ops fr st (wantedV fr.r g) := by
  have e : mops C.call (⟨d, op, g⟩ :: ops) fr st = opStep C.call ⟨d, op, g⟩ (mops C.call ops) fr st := rfl
  rw [e]
  unfold opStep
  simp only []
  rcases wantedV fr.r g with _ | b
  · exact run_none
  · cases b
    · show _ ↔ Run C (.put d ops fr :: K) (some (.val (.tup []) st)) Q
      refine run_congr ?_
      show _ = unw C K (stepK C (.put d ops fr) (.val (.tup []) st))
      simp only [stepK]
      rcases fr.put d (.tup []) with _ | _ <;> rfl
    · show _ ↔ Run C (.put d ops fr :: K) (valR (mop op C.call fr.r st)) Q
      refine run_congr ?_
      show _ = unw C K (stepO C (.put d ops fr) (valR (mop op C.call fr.r st)))
      rcases mop op C.call fr.r st with _ | ⟨v, st'⟩
      · rfl
      · simp only [valR, stepO, stepK]
        rcases fr.put d v with _ | _ <;> rfl
theorem opR_true {d op ops} : opR C K Q d op ops fr st (some true) ↔ Run C (.put d ops fr :: K) (valR (mop op C.call fr.r st)) Q := Iff.rfl
theorem opR_false {d op ops} : opR C K Q d op ops fr st (some false) ↔ Run C (.put d ops fr :: K) (some (.val (.tup []) st)) Q := Iff.rfl
theorem valR_some {v : V} : valR (some (v, st)) = some (.val v st) := rfl
theorem k_put {d n m r ops v} (h : d < n) : Run C (.put (some d) ops ⟨r, n, m⟩ :: K) (some (.val v st)) Q ↔ Run C K (opsR (mops C.call ops ⟨r.set d v, n, m⟩ st)) Q := run_congr (by simp [unw, stepO, stepK, Fr.put, h])
theorem k_put_none {ops v} : Run C (.put none ops fr :: K) (some (.val v st)) Q ↔ Run C K (opsR (mops C.call ops fr st)) Q := run_congr rfl

theorem opsD_nil : opsDR (mopsD C.call [] fr st) = some (.opsD [] fr st) := rfl
def opRD (C : Cx) (K : List Kf) (Q : Rs → Prop) (d : Option Nat) (op : MOp) (ops : List MOper) (fr : Fr) (h : T O) (n : Nat) (w : List Nat) : Option Bool → Prop
  | some true => Run C (.putD op d ops fr n w :: K) (valR (mop op C.call fr.r ⟨h, n, []⟩)) Q
  | some false => Run C (.cons ⟨some [], [], n, n⟩ :: K) (match fr.put d (.tup []) with | some fr' => opsDR (mopsD C.call ops fr' ⟨h, n, w⟩) | none => none) Q
  | none => False
theorem opsD_cons {d op g ops h n w} : Run C K (opsDR (mopsD C.call (⟨d, op, g⟩ :: ops) fr ⟨h, n, w⟩)) Q ↔ opRD C K Q d op ops fr h n w (wantedV fr.r g) := by
  have e : mopsD C.call (⟨d, op, g⟩ :: ops) fr ⟨h, n, w⟩ = opStepD C.call ⟨d, op, g⟩ (mopsD C.call ops) fr ⟨h, n, w⟩ := rfl
  rw [e]
  unfold opStepD
  simp only []
  rcases wantedV fr.r g with _ | b
  · exact run_none
  · cases b
    · show _ ↔ Run C (.cons ⟨some [], [], n, n⟩ :: K) (match fr.put d (.tup []) with | some fr' => opsDR (mopsD C.call ops fr' ⟨h, n, w⟩) | none => none) Q
      refine run_congr ?_
      show _ = unw C K (stepO C (.cons ⟨some [], [], n, n⟩) _)
      rcases fr.put d (.tup []) with _ | fr'
      · rfl
      · simp only []
        rcases mopsD C.call ops fr' ⟨h, n, w⟩ with _ | ⟨_, _, _⟩ <;> rfl
    · show _ ↔ Run C (.putD op d ops fr n w :: K) (valR (mop op C.call fr.r ⟨h, n, []⟩)) Q
      refine run_congr ?_
      show _ = unw C K (stepO C (.putD op d ops fr n w) (valR (mop op C.call fr.r ⟨h, n, []⟩)))
      rcases mop op C.call fr.r ⟨h, n, []⟩ with _ | ⟨v, st'⟩
      · rfl
      · simp only [valR, stepO, stepK]
        rcases fr.put d v with _ | fr'
        · rfl
        · simp only []
          rcases mopsD C.call ops fr' { st' with w := oldIds n st'.w ++ w } with _ | ⟨_, _, _⟩ <;> rfl
theorem opRD_true {d op ops h n w} : opRD C K Q d op ops fr h n w (some true) ↔ Run C (.putD op d ops fr n w :: K) (valR (mop op C.call fr.r ⟨h, n, []⟩)) Q := Iff.rfl
theorem opRD_false {d n m r ops op h N w} (hd : d < n) : opRD C K Q (some d) op ops ⟨r, n, m⟩ h N w (some false) ↔ Run C (.cons ⟨some [], [], N, N⟩ :: K) (opsDR (mopsD C.call ops ⟨r.set d (.tup []), n, m⟩ ⟨h, N, w⟩)) Q := by simp [opRD, Fr.put, hd]
theorem opRD_falseN {ops op h N w} : opRD C K Q none op ops fr h N w (some false) ↔ Run C (.cons ⟨some [], [], N, N⟩ :: K) (opsDR (mopsD C.call ops fr ⟨h, N, w⟩)) Q := Iff.rfl
theorem k_putD {op d n m r ops v N w h' n' w'} (h : d < n) : Run C (.putD op (some d) ops ⟨r, n, m⟩ N w :: K) (some (.val v ⟨h', n', w'⟩)) Q ↔ Run C (.cons (footOf r op (oldIds N w') N n') :: K) (opsDR (mopsD C.call ops ⟨r.set d v, n, m⟩ ⟨h', n', oldIds N w' ++ w⟩)) Q := run_congr (by
  simp only [unw, stepO, stepK, Fr.put, h, if_true]
  rcases mopsD C.call ops _ _ with _ | ⟨_, _, _⟩ <;> rfl)
theorem k_putD_none {op ops v N w h' n' w'} : Run C (.putD op none ops fr N w :: K) (some (.val v ⟨h', n', w'⟩)) Q ↔ Run C (.cons (footOf fr.r op (oldIds N w') N n') :: K) (opsDR (mopsD C.call ops fr ⟨h', n', oldIds N w' ++ w⟩)) Q := run_congr (by
  simp only [unw, stepO, stepK, Fr.put]
  rcases mopsD C.call ops _ _ with _ | ⟨_, _, _⟩ <;> rfl)
theorem k_cons {fp fps} : Run C (.cons fp :: K) (some (.opsD fps fr st)) Q ↔ Run C K (some (.opsD (fp :: fps) fr st)) Q := run_congr rfl
theorem k_regD {ms fps} (h : apartOk fps ms = true) : Run C (.regD ms :: K) (some (.opsD fps fr st)) Q ↔ Run C K (some (.ex .normal fr st)) Q := run_congr (by simp only [unw, stepO, stepK, h])

theorem run_func {g first caps args mf} (hx : C.x (.func g first caps) args st = none) (h : C.tbl g = some mf) (hl : (first ++ args ++ caps).length ≤ mf.ntmps) : Run C K (valR (C.call (.func g first caps) args st)) Q ↔ Run C (.fin mf.results st :: K) (exR (C.code none mf.body ⟨setRegs .nil 0 (first ++ args ++ caps), mf.ntmps, []⟩ ⟨st.h, st.n, []⟩)) Q := run_congr (by
  rw [Cx.call_eq]
  unfold orCall
  rw [hx]
  simp only [callStep, h, funcRun, Nat.not_lt.2 hl, if_false]
  show _ = unw C K (stepO C (.fin mf.results st) _)
  unfold funcEnd
  rcases C.code none mf.body _ _ with _ | ⟨e, fr1, st1⟩
  · rfl
  · cases e with
    | exit => rfl
    | normal =>
      simp only [exR, stepO, stepK]
      rcases shut st1 fr1.marks with _ | st2
      · rfl
      · simp only []
        rcases resV fr1.r st2 mf.results with _ | _ <;> rfl
    | ret =>
      simp only [exR, stepO, stepK]
      rcases shut st1 fr1.marks with _ | st2
      · rfl
      · simp only []
        rcases resV fr1.r st2 mf.results with _ | _ <;> rfl)
def finR (h : T O) (n : Nat) (w : List Nat) : Option (List V) → Option Rs
  | some vs => some (.val (resOf vs) ⟨h, n, w⟩)
  | none => none
theorem finR_some {h n w vs} : finR h n w (some vs) = some (.val (resOf vs) ⟨h, n, w⟩) := rfl
theorem k_fin_ret {rs r n h1 n1 w1} : Run C (.fin rs st :: K) (some (.ex .ret ⟨r, n, []⟩ ⟨h1, n1, w1⟩)) Q ↔ Run C K (finR h1 n1 (oldIds st.n w1 ++ st.w) (resV r ⟨h1, n1, w1⟩ rs)) Q := run_congr (by
  simp only [unw, stepO, stepK, shut]
  rcases resV r ⟨h1, n1, w1⟩ rs with _ | _ <;> rfl)
theorem k_fin_end {rs r n h1 n1 w1} : Run C (.fin rs st :: K) (some (.ex .normal ⟨r, n, []⟩ ⟨h1, n1, w1⟩)) Q ↔ Run C K (finR h1 n1 (oldIds st.n w1 ++ st.w) (resV r ⟨h1, n1, w1⟩ rs)) Q := run_congr (by
  simp only [unw, stepO, stepK, shut]
  rcases resV r ⟨h1, n1, w1⟩ rs with _ | _ <;> rfl)
end

theorem mop_convStr (a) : mop (.convStr a) = op_convStr a := rfl
theorem mop_strBytes (a b) : mop (.strBytes a b) = op_strBytes a b := rfl
theorem mop_bytesStr (a) : mop (.bytesStr a) = op_bytesStr a := rfl
theorem mop_mkiface (a b) : mop (.mkiface a b) = op_mkiface a b := rfl
theorem mop_mkmap : mop .mkmap = op_mkmap := rfl
theorem mop_mkchan (a b) : mop (.mkchan a b) = op_mkchan a b := rfl
theorem mop_mkslice (a b c d e f) : mop (.mkslice a b c d e f) = op_mkslice a b c d e f := rfl
theorem mop_sliceStr (a b c) : mop (.sliceStr a b c) = op_sliceStr a b c := rfl
theorem mop_sliceSl (a b c d e) : mop (.sliceSl a b c d e) = op_sliceSl a b c d e := rfl
theorem mop_sliceArr (a b c d e f) : mop (.sliceArr a b c d e f) = op_sliceArr a b c d e f := rfl
theorem mop_idxArr (a b c d e) : mop (.idxArr a b c d e) = op_idxArr a b c d e := rfl
theorem mop_idxStr (a b) : mop (.idxStr a b) = op_idxStr a b := rfl
theorem mop_lookup (a b c d e) : mop (.lookup a b c d e) = op_lookup a b c d e := rfl
theorem mop_mapset (a b c d) : mop (.mapset a b c d) = op_mapset a b c d := rfl
theorem mop_rangeStr (a) : mop (.rangeStr a) = op_rangeStr a := rfl
theorem mop_nextStr (a) : mop (.nextStr a) = op_nextStr a := rfl
theorem mop_lenArr (a) : mop (.lenArr a) = op_lenArr a := rfl
theorem mop_cap (a) : mop (.cap a) = op_cap a := rfl
theorem mop_mn (a) : mop (.mn a) = op_mn a := rfl
theorem mop_mx (a) : mop (.mx a) = op_mx a := rfl
theorem mop_append (a b c d e f) : mop (.append a b c d e f) = op_append a b c d e f := rfl
theorem mop_copy (a b c) : mop (.copy a b c) = op_copy a b c := rfl
theorem mop_clear (a b c) : mop (.clear a b c) = op_clear a b c := rfl
theorem mop_ext (a b) : mop (.ext a b) = op_ext a b := rfl

theorem eqV_prm {ng k x y} : eqV ng (.prim k) x y = eqPrim ng k x y := by cases x <;> cases y <;> rfl

attribute [simp] run_nil valQ_val exQ_ex run_skip run_reg run_regD run_seq run_cond condR_true condR_false run_block run_exit run_scope run_ret k_seq_normal k_seq_exit k_seq_ret k_block_normal k_block_ret k_block_exit k_reg ops_nil ops_cons opR_true opR_false valR_some k_put k_put_none
  opsD_nil opsD_cons opRD_true opRD_false opRD_falseN k_putD k_putD_none k_cons k_regD finR_some k_fin_ret k_fin_end
  mop_convStr mop_strBytes mop_bytesStr mop_mkiface mop_mkmap mop_mkchan mop_mkslice mop_sliceStr mop_sliceSl mop_sliceArr mop_idxArr mop_idxStr mop_lookup mop_mapset mop_rangeStr mop_nextStr mop_lenArr mop_cap mop_mn mop_mx mop_append mop_copy mop_clear mop_ext eqV_prm

/-- What was there is as it was. -/
structure Keeps (h : T O) (n : Nat) (h' : T O) (n' : Nat) : Prop where
  le : n ≤ n'
  get : ∀ i, i < n → h'.get i = h.get i
theorem Keeps.refl {h : T O} {n : Nat} : Keeps h n h n := ⟨Nat.le_refl _, fun _ _ => rfl⟩
theorem Keeps.trans {h h1 h2 : T O} {n n1 n2 : Nat} (a : Keeps h n h1 n1) (b : Keeps h1 n1 h2 n2) : Keeps h n h2 n2 :=
  ⟨Nat.le_trans a.le b.le, fun i hi => (b.get i (Nat.lt_of_lt_of_le hi a.le)).trans (a.get i hi)⟩
theorem Keeps.set {h h1 : T O} {n n1 : Nat} {i : Nat} {o : O} (hi : n ≤ i) (a : Keeps h n h1 n1) : Keeps h n (h1.set i o) n1 :=
  ⟨a.le, fun j hj => by rw [T.get_set, if_neg (by omega)]; exact a.get j hj⟩
theorem Keeps.up {h h1 : T O} {n n1 n2 : Nat} (a : Keeps h n h1 n1) (hn : n1 ≤ n2) : Keeps h n h1 n2 := ⟨Nat.le_trans a.le hn, a.get⟩

/-- A call that writes nothing that was there. -/
def Ret (P : V → T O → Nat → Prop) (h : T O) (n : Nat) (w : List Nat) (v : V) (st : St) : Prop := st.w = w ∧ Keeps h n st.h st.n ∧ P v st.h st.n
abbrev Fn (C : Cx) (f : Nat) (args : List V) (h : T O) (n : Nat) (P : V → T O → Nat → Prop) : Prop := ∀ w, Call C (.func f [] []) args ⟨h, n, w⟩ (Ret P h n w)

theorem run_fn {C : Cx} {f args h n w P K Q} (hf : Fn C f args h n P) (k : ∀ v h' n', Keeps h n h' n' → P v h' n' → Run C K (some (.val v ⟨h', n', w⟩)) Q) : Run C K (valR (C.call (.func f [] []) args ⟨h, n, w⟩)) Q :=
  run_call (hf w) fun v st' => by
    obtain ⟨h', n', w'⟩ := st'
    rintro ⟨rfl, hk, hp⟩
    exact k v h' n' hk hp

theorem oldIds_new {N : Nat} : ∀ {w : List Nat}, (∀ i ∈ w, N ≤ i) → oldIds N w = []
  | [], _ => rfl
  | i :: w, h => by
    have := h i List.mem_cons_self
    simp only [oldIds, Nat.not_lt.2 this, if_false]
    exact oldIds_new fun j hj => h j (List.mem_cons_of_mem _ hj)

end Go.Mx
