/-
  The machine M's runs stand for the Go model's: code.
-/
import Derived.Test.YtppobccilnifoaaGreatDoorMxOp11
set_option linter.all false
namespace Go.Mx
open Go
def exE : Ex → Exit
 | .normal => .normal
 | .exit id => .exit id
 | .ret => .ret
def RoR (μ : Mu) : Option Nat → Option Nat → Prop
 | none, none => True
 | some l, some b => ∃ L, μ l = some L ∧ L.b = b
 | _, _ => False
theorem RoR.mono {μ μ' : Mu} (h : ∀ i l, μ i = some l → μ' i = some l) {ro lb : Option Nat} (hr : RoR μ ro lb) : RoR μ' ro lb := by
 cases ro <;> cases lb <;> simp only [RoR] at *
 obtain ⟨L, h1, h2⟩ := hr
 exact ⟨L, h _ _ h1, h2⟩
def CPost (P : Program) (μ : Mu) (w : World) (st : St) (ex : Ex) (fr' : Fr) (st' : St) : Exit → Act → World → Prop := fun e a' w' =>
 e = exE ex ∧ ∃ μ' ws, Stp P μ w st μ' w' st' ws ∧ FrR μ' fr' a'
section
variable {P : Program} {μ : Mu} {w : World} {st st' : St} {fr fr' : Fr} {a : Act} {call : CallT} {v : V} {lb : Option Nat}
theorem mops_wp (hcall : CallOk P call) (hE : ExtsOk P) {ops : Array Oper} {Q : Exit → Act → World → Prop} : ∀ (is : List Nat) (os : List Oper), is.map (fun i => ops[i]?) = os.map some →
  ∀ {st : St} {fr : Fr} {a : Act} {w : World} {μ : Mu}, HRel P μ w st → FrR μ fr a → mops call (os.map (cOper P ops)) fr st = some (fr', st') →
   (∀ a' w' μ' ws, FrR μ' fr' a' → Stp P μ w st μ' w' st' ws → Q .normal a' w') → wpOpsIn (FE lb) 0 P ops Q is a w := by
 intro is
 induction is with
 | nil =>
  intro os hos st fr a w μ hh hf h hQ
  cases os with
  | cons o os => simp at hos
  | nil =>
   simp only [List.map_nil, mops, opsEnd, Option.some.injEq, Prod.mk.injEq] at h
   obtain ⟨rfl, rfl⟩ := h
   exact hQ a w μ [] hf (Stp.refl hh)
 | cons i is ih =>
  intro os hos st fr a w μ hh hf h hQ
  cases os with
  | nil => simp at hos
  | cons o os =>
   simp only [List.map_cons, List.cons.injEq] at hos
   obtain ⟨hoi, hos⟩ := hos
   simp only [List.map_cons, mops, opStep] at h
   unfold wpOpsIn
   rw [hoi]
   simp only []
   have go : ∀ (v : V) (st1 : St) (fr1 : Fr) (x : Value) (w1 : World) (μ1 : Mu) (ws : List Nat), VR μ1 v x → Stp P μ w st μ1 w1 st1 ws → fr.put o.dst v = some fr1 → mops call (os.map (cOper P ops)) fr1 st1 = some (fr', st') →
     wpOpsIn (FE lb) 0 P ops Q is (a.put o.dst x) w1 := by
    intro v st1 fr1 x w1 μ1 ws hv hs hp hm
    refine ih os hos hs.hr ((hf.mono (hs.mono hh)).put hv hp) hm fun a' w' μ' ws' hf' hs' => ?_
    exact hQ a' w' μ' _ hf' (hs.trans hs')
   unfold cOper at h
   cases hg : cGuard ops o.guard with
   | none =>
    rw [hg] at h
    simp only [wantedV, mop, op_stop] at h
    cases h
   | some g =>
    rw [hg] at h
    simp only at h
    cases hw : wantedV fr.r g with
    | none => rw [hw] at h; cases h
    | some b =>
     rw [hw] at h
     have hwant := wanted_sim hf.1 hg hw
     cases b with
     | true =>
      rw [if_pos hwant]
      simp only at h
      split at h
      ·rename_i v1 st1 hm
       split at h
       ·rename_i fr1 hp
        exact op_wp hcall hE hh hf hm fun x w' μ' ws q1 q2 => go v1 st1 fr1 x w' μ' ws q1 q2 hp h
       ·cases h
      ·cases h
     | false =>
      rw [if_neg (by rw [hwant]; simp)]
      simp only at h
      split at h
      ·rename_i fr1 hp
       exact ⟨fun _ _ => trivial, go (.tup []) st fr1 undef w μ [] ⟨[], rfl, by simp [VRs]⟩ (Stp.refl hh) hp h⟩
      ·cases h
theorem range_map {ops : Array Oper} : (List.range ops.size).map (fun i => ops[i]?) = ops.toList.map some := by
 apply List.ext_getElem?
 intro i
 simp only [List.getElem?_map]
 by_cases h : i < ops.size
 ·simp [h]
 ·simp [h]
theorem wpIn_loop_fuel {F : Fence} {n : Nat} {c : Code} {Q : Exit → Act → World → Prop} (J : Nat → Act → World → Prop)
  (round : ∀ f a w, J f a w → c.wpIn F n P (Exit.then (fun a' w' => ∃ f', f' < f ∧ J f' a' w') Q) a w) {f : Nat} (h₀ : J f a w) : (Code.loop c).wpIn F n P Q a w := by
 intro b k cs hro hb hr
 have key : ∀ j a w, J j a w →
   ∃ e a' w', Q e a' w' ∧ ArrivesIn (Machine.fenced P F) P (lone (b.atR a (.code c :: .inLoop c :: k)) cs w) b k cs e a' w' := by
  intro j
  induction j using Nat.strongRecOn with
  | _ j ih =>
   intro a w hI
   obtain ⟨e, a₁, w₁, hq, harr⟩ := round j a w hI b (.inLoop c :: k) cs hro hb hr
   cases e with
   | normal =>
    obtain ⟨f', hlt, hI₁⟩ := hq
    obtain ⟨e₂, a₂, w₂, hq₂, harr₂⟩ := ih f' hlt a₁ w₁ hI₁
    exact ⟨e₂, a₂, w₂, hq₂, .of_steps (StepsIn.trans harr (.one (fenced_calm hb hr rfl) stepR_inLoop)) harr₂⟩
   | exit id => exact ⟨_, a₁, w₁, hq, .pass (x := .inLoop c) rfl (fun _ _ => .inl (by simp)) harr⟩
   | goto l => exact ⟨_, a₁, w₁, hq, .pass (x := .inLoop c) rfl (fun _ _ => .inl (by simp)) harr⟩
   | ret => exact ⟨_, a₁, w₁, hq, .pass (x := .inLoop c) rfl (fun _ _ => .inl (by simp)) harr⟩
   | panic ch => exact ⟨_, a₁, w₁, hq, .pass (x := .inLoop c) rfl (fun _ _ => .inl (by simp)) harr⟩
   | outgrown => exact ⟨_, a₁, w₁, hq, .pass (x := .inLoop c) rfl (fun _ _ => .inl (by simp)) harr⟩
 obtain ⟨e, a', w', hq, harr⟩ := key _ a w h₀
 exact ⟨e, a', w', hq, .of_steps (.one (fenced_calm hb hr rfl) stepR_loop) harr⟩
theorem stepR_scope {b : Frame} {k : List Item} {cs : List Frame} {c : Code} :
  step P (lone (b.atR a (.code (.scope c) :: k)) cs w) = .next (lone (b.atR a (.code c :: .inScope c :: k)) cs w) :=
 step_lone_go (by simp [stepG, stepG.exec, Frame.atR])
theorem stepR_inScope {b : Frame} {k : List Item} {cs : List Frame} {c : Code} :
  step P (lone (b.atR a (.inScope c :: k)) cs w) = .next (lone (b.atR a k) cs w) :=
 step_lone_go (by simp [stepG, stepG.exec, Frame.atR])
theorem wpIn_scope {F : Fence} {n : Nat} {c : Code} {Q : Exit → Act → World → Prop} (h : c.wpIn F n P Q a w) (hq : ∀ l a w, ¬ Q (.goto l) a w) : (Code.scope c).wpIn F n P Q a w := by
 intro b k cs hro hb hr
 have h0 : (lone (b.atR a (.code (.scope c) :: k)) cs w).fenced P F := fenced_calm hb hr rfl
 obtain ⟨e, a₁, w₁, hQ, harr⟩ := h b (.inScope c :: k) cs hro hb hr
 cases e with
 | normal => exact ⟨.normal, a₁, w₁, hQ, .head h0 stepR_scope (StepsIn.trans harr (.one (fenced_calm hb hr rfl) stepR_inScope))⟩
 | exit id =>
  have hx : exitTo id (.inScope c :: k) = exitTo id k := by simp [exitTo]
  exact ⟨.exit id, a₁, w₁, hQ, fun k' hk => .head h0 stepR_scope (harr.1 k' (by rw [hx]; exact hk)),
   fun hr' hk => let ⟨k₁, h1, h2⟩ := harr.2 hr' (by rw [hx]; exact hk); ⟨k₁, h1, .head h0 stepR_scope h2⟩⟩
 | goto l => exact absurd hQ (hq l a₁ w₁)
 | ret => exact ⟨_, a₁, w₁, hQ, .of_steps (.one h0 stepR_scope) harr⟩
 | panic ch => exact ⟨_, a₁, w₁, hQ, .of_steps (.one h0 stepR_scope) harr⟩
 | outgrown => exact ⟨_, a₁, w₁, hQ, .of_steps (.one h0 stepR_scope) harr⟩
theorem CPost.after {μ1 : Mu} {w1 : World} {st1 : St} {ws : List Nat} (hs : Stp P μ w st μ1 w1 st1 ws) {ex : Ex} {e : Exit} {a' : Act} {w' : World} (h : CPost P μ1 w1 st1 ex fr' st' e a' w') : CPost P μ w st ex fr' st' e a' w' := by
 obtain ⟨h1, μ', ws', h2, h3⟩ := h
 exact ⟨h1, μ', _, hs.trans h2, h3⟩
theorem CPost.then {μ : Mu} {ex : Ex} {fr1 : Fr} {st1 : St} {K : Act → World → Prop} {Q : Exit → Act → World → Prop} {e : Exit} {a' : Act} {w' : World} (h : CPost P μ w st ex fr1 st1 e a' w')
  (hn : ex = .normal → K a' w') (hq : ex ≠ .normal → Q e a' w') : Exit.then K Q e a' w' := by
 obtain ⟨rfl, h⟩ := h
 cases ex <;> simp only [exE, Exit.then]
 ·exact hn rfl
 ·exact hq (by simp)
 ·exact hq (by simp)
def CodeOk (P : Program) (code : CodeF) : Prop :=
 ∀ (ro : Option Nat) (c : Code) (fr : Fr) (st : St) (ex : Ex) (fr' : Fr) (st' : St), code ro (cCode P c) fr st = some (ex, fr', st') →
  ∀ (μ : Mu) (w : World) (a : Act) (lb : Option Nat), HRel P μ w st → FrR μ fr a → RoR μ ro lb → c.wpIn (FE lb) 0 P (CPost P μ w st ex fr' st') a w
def DrawOk (P : Program) (call : CallT) : Prop :=
 ∀ (id : Nat) (ops : Array Oper) (fr : Fr) (st : St) (ex : Ex) (fr' : Fr) (st' : St), regOk P ops = true → c_regD (ops.toList.map (cOper P ops)) (masksOf ops.toList []) call codeNone none fr st = some (ex, fr', st') →
  ∀ (μ : Mu) (w : World) (a : Act) (lb : Option Nat), HRel P μ w st → FrR μ fr a → (Code.region id ops true).wpIn (FE lb) 0 P (CPost P μ w st ex fr' st') a w
def SelOk (P : Program) (call : CallT) : Prop :=
 ∀ (id : Nat) (ops : Array Oper) (o : Oper) (rest : List Oper) (d : Option Nat) (ch : Src) (s : Option Src) (z : V) (fr : Fr) (st : St) (ex : Ex) (fr' : Fr) (st' : St), ops.toList = o :: rest → cSel P o = some (d, ch, s, z) →
  c_regS d ch s z (rest.map (cOper P ops)) call codeNone none fr st = some (ex, fr', st') →
  ∀ (μ : Mu) (w : World) (a : Act) (lb : Option Nat), HRel P μ w st → FrR μ fr a → (Code.region id ops false).wpIn (FE lb) 0 P (CPost P μ w st ex fr' st') a w
def RangeOk (P : Program) (call : CallT) : Prop :=
 ∀ (ro : Option Nat) (g : Operand) (s : Src) (ps : Array Nat) (asg bod : Code) (fr : Fr) (st : St) (ex : Ex) (fr' : Fr) (st' : St), cSrc P g = some s →
  c_rangef s ps.toList (cCode P asg) (cCode P bod) call codeNone ro fr st = some (ex, fr', st') →
  ∀ (μ : Mu) (w : World) (a : Act) (lb : Option Nat), HRel P μ w st → FrR μ fr a → RoR μ ro lb → (Code.rangeFunc g ps asg bod).wpIn (FE lb) 0 P (CPost P μ w st ex fr' st') a w
theorem code_ok (hcall : CallOk P call) (hE : ExtsOk P) (hD : DrawOk P call) (hS : SelOk P call) (hR : RangeOk P call) : ∀ fuel, CodeOk P (mcode call fuel) := by
 intro fuel
 induction fuel using Nat.strongRecOn with
 | _ fuel ihs =>
 cases fuel with
 | zero => intro ro c fr st ex fr' st' h; cases h
 | succ f =>
  have ih : CodeOk P (mcode call f) := ihs f (Nat.lt_succ_self f)
  intro ro c fr st ex fr' st' h μ w a lb hh hf hro
  cases c with
  | skip =>
   simp only [cCode, mcode, codeStep, c_skip, Option.some.injEq, Prod.mk.injEq] at h
   obtain ⟨rfl, rfl, rfl⟩ := h
   exact wpIn_skip ⟨rfl, μ, [], Stp.refl hh, hf⟩
  | label l =>
   simp only [cCode, mcode, codeStep, c_skip, Option.some.injEq, Prod.mk.injEq] at h
   obtain ⟨rfl, rfl, rfl⟩ := h
   exact wpIn_label ⟨rfl, μ, [], Stp.refl hh, hf⟩
  | exit id =>
   simp only [cCode, mcode, codeStep, c_exit, Option.some.injEq, Prod.mk.injEq] at h
   obtain ⟨rfl, rfl, rfl⟩ := h
   exact wpIn_exit ⟨rfl, μ, [], Stp.refl hh, hf⟩
  | ret =>
   simp only [cCode, mcode, codeStep, c_ret, Option.some.injEq, Prod.mk.injEq] at h
   obtain ⟨rfl, rfl, rfl⟩ := h
   exact wpIn_ret ⟨rfl, μ, [], Stp.refl hh, hf⟩
  | goto l => simp only [cCode, mcode, codeStep, c_stop] at h; cases h
  | refuse why => simp only [cCode, mcode, codeStep, c_stop] at h; cases h
  | region id ops draw =>
   cases draw with
   | true =>
    simp only [cCode] at h
    split at h
    ·rename_i hp
     simp only [mcode, codeStep] at h
     exact hD id ops fr st ex fr' st' hp h μ w a lb hh hf
    ·simp only [mcode, codeStep, c_stop] at h; cases h
   | false =>
    have plain : c_reg (ops.toList.map (cOper P ops)) call (mcode call f) ro fr st = some (ex, fr', st') → (Code.region id ops false).wpIn (FE lb) 0 P (CPost P μ w st ex fr' st') a w := by
     intro h
     simp only [c_reg] at h
     split at h
     ·rename_i fr1 st1 hm
      simp only [Option.some.injEq, Prod.mk.injEq] at h
      obtain ⟨rfl, rfl, rfl⟩ := h
      exact wpIn_region (mops_wp hcall hE _ _ range_map hh hf hm fun a' w' μ' ws q1 q2 => ⟨rfl, μ', ws, q2, q1⟩)
     ·cases h
    simp only [cCode, mcode] at h
    split at h
    ·rename_i ho
     exact plain (by rw [ho]; exact h)
    ·rename_i o rest ho
     split at h
     ·rename_i d ch s z hs
      exact hS id ops o rest d ch s z fr st ex fr' st' ho hs h μ w a lb hh hf
     ·exact plain (by rw [ho]; exact h)
  | seq x y =>
   simp only [cCode, mcode, codeStep, c_seq] at h
   refine wpIn_seq ?_
   split at h
   ·rename_i fr1 st1 hx
    refine wpIn_mono (ih ro x fr st _ _ _ hx μ w a lb hh hf hro) fun e a' w' hp => ?_
    have hp0 := hp
    obtain ⟨he, μ1, ws, hs, hf1⟩ := hp
    refine hp0.then (fun _ => ?_) (fun hne => absurd rfl hne)
    exact wpIn_mono (ih ro y fr1 st1 ex fr' st' h μ1 w' a' lb hs.hr hf1 (hro.mono (hs.mono hh))) fun e2 a2 w2 hp2 => hp2.after hs
   ·rename_i hx
    refine wpIn_mono (ih ro x fr st _ _ _ h μ w a lb hh hf hro) fun e a' w' hp => ?_
    refine hp.then (fun hn => ?_) (fun _ => hp)
    subst hn
    exact absurd h (hx fr' st')
  | cond x p q =>
   simp only [cCode] at h
   split at h
   ·rename_i s hs
    simp only [mcode, codeStep, c_cond] at h
    split at h
    ·rename_i hv
     have := ev_sim hh hf.1 hs hv
     exact wpIn_cond_true (by simpa [VR] using this) (ih ro p fr st ex fr' st' h μ w a lb hh hf hro)
    ·rename_i hv
     have := ev_sim hh hf.1 hs hv
     exact wpIn_cond_false (by simpa [VR] using this) (ih ro q fr st ex fr' st' h μ w a lb hh hf hro)
    ·cases h
   ·simp only [mcode, codeStep, c_stop] at h; cases h
  | block id c =>
   simp only [cCode, mcode, codeStep, c_block] at h
   refine wpIn_block ?_
   split at h
   ·rename_i id' fr1 st1 hx
    refine wpIn_mono (ih ro c fr st _ _ _ hx μ w a lb hh hf hro) fun e a' w' hp => ?_
    obtain ⟨rfl, hp⟩ := hp
    simp only [exE, Exit.inBlock]
    split at h
    ·rename_i hid
     simp only [Option.some.injEq, Prod.mk.injEq] at h
     obtain ⟨rfl, rfl, rfl⟩ := h
     rw [if_pos (Nat.eq_of_beq_eq_true hid)]
     exact ⟨rfl, hp⟩
    ·rename_i hid
     simp only [Option.some.injEq, Prod.mk.injEq] at h
     obtain ⟨rfl, rfl, rfl⟩ := h
     rw [if_neg (Nat.ne_of_beq_eq_false hid)]
     exact ⟨rfl, hp⟩
   ·rename_i hx
    refine wpIn_mono (ih ro c fr st _ _ _ h μ w a lb hh hf hro) fun e a' w' hp => ?_
    have hp0 := hp
    obtain ⟨rfl, hp⟩ := hp
    cases ex with
    | normal => exact hp0
    | ret => exact hp0
    | exit id' => exact absurd h (hx id' fr' st')
  | loop c =>
   refine wpIn_loop_fuel (fun k a1 w1 => k ≤ f + 1 ∧ ∃ fr1 st1 μ1 ws, Stp P μ w st μ1 w1 st1 ws ∧ FrR μ1 fr1 a1 ∧ mcode call k ro (.loop (cCode P c)) fr1 st1 = some (ex, fr', st')) ?_
    (f := f + 1) ⟨Nat.le_refl _, fr, st, μ, [], Stp.refl hh, hf, h⟩
   intro k a1 w1 hJ
   obtain ⟨hk, fr1, st1, μ1, ws, hs, hf1, hm⟩ := hJ
   cases k with
   | zero => cases hm
   | succ k =>
    simp only [mcode, codeStep, c_loop] at hm
    have ihk : CodeOk P (mcode call k) := ihs k (by omega)
    split at hm
    ·rename_i fr2 st2 hx
     refine wpIn_mono (ihk ro c fr1 st1 _ _ _ hx μ1 w1 a1 lb hs.hr hf1 (hro.mono (hs.mono hh))) fun e a' w' hp => ?_
     have hp0 := hp
     obtain ⟨he, μ2, ws2, hs2, hf2⟩ := hp
     refine hp0.then (fun _ => ?_) (fun hne => absurd rfl hne)
     exact ⟨k, Nat.lt_succ_self k, by omega, fr2, st2, μ2, _, hs.trans hs2, hf2, hm⟩
    ·rename_i hx
     refine wpIn_mono (ihk ro c fr1 st1 _ _ _ hm μ1 w1 a1 lb hs.hr hf1 (hro.mono (hs.mono hh))) fun e a' w' hp => ?_
     refine hp.then (fun hn => ?_) (fun _ => hp.after hs)
     subst hn
     exact absurd hm (hx fr' st')
  | scope c =>
   simp only [cCode, mcode, codeStep, c_scope] at h
   refine wpIn_scope (ih ro c fr st ex fr' st' h μ w a lb hh hf hro) fun l a' w' hp => ?_
   obtain ⟨he, _⟩ := hp
   cases ex <;> simp [exE] at he
  | rangeFunc g ps asg bod =>
   simp only [cCode] at h
   split at h
   ·rename_i s hs
    simp only [mcode, codeStep] at h
    exact hR ro g s ps asg bod fr st ex fr' st' hs h μ w a lb hh hf hro
   ·simp only [mcode, codeStep, c_stop] at h; cases h
end
end Go.Mx
