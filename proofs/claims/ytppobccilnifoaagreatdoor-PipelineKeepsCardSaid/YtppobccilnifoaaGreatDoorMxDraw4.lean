/-
  A region that draws its order: the whole.
-/
import Derived.Test.YtppobccilnifoaaGreatDoorMxDraw
set_option linter.all false
namespace Go.Mx
open Go
section
variable {P : Program} {μ : Mu} {w : World} {st st' : St} {fr fr' : Fr} {a : Act} {call : CallT} {v : V} {lb : Option Nat}
theorem mem_oldIds : ∀ (l : List Nat) (n j : Nat), j < n → (j ∈ oldIds n l ↔ j ∈ l) := by
 intro l n i hi
 induction l with
 | nil => simp [oldIds]
 | cons j l ih =>
  simp only [oldIds]
  split
  ·unfold noteId
   split
   ·rename_i hc
    simp only [List.mem_cons, ih]
    simp only [List.contains_iff_mem] at hc
    constructor
    ·exact .inr
    ·rintro (rfl | h)
     ·exact ih.1 hc
     ·exact h
   ·simp only [List.mem_cons, ih]
  ·simp only [List.mem_cons, ih]
   constructor
   ·exact .inr
   ·rintro (rfl | h)
    ·omega
    ·exact h
theorem inv_step (hcall : CallOk P call) (hE : ExtsOk P) {ops : Array Oper} {Q : Exit → Act → World → Prop} {stI : Nat → St} {frI : Nat → Fr} {vI : Nat → V} {fpI : Nat → FP} {S : Nat → Bool} {W : List Nat} {μ' : Mu} {a' : Act} {w' : World}
  (h0 : HRel P μ w (stI 0)) (hs : ∀ i o, ops[i]? = some o → StepOk P call ops o (stI i) (frI i) (vI i) (fpI i) (stI (i + 1)) (frI (i + 1)))
  (T : Txt P μ stI frI fpI ops.size) {ds : Nat → Option Nat} {mo : Nat → MOper} (hmo : ∀ i o, ops[i]? = some o → mo i = cOper P ops o) (hds : ∀ k, k < ops.size → ds k = (mo k).dst) (Pu : Puts frI ds vI ops.size)
  {bef : Nat → Nat → Prop} (Or : Ord fpI mo ops.size bef) (I : Inv P μ w stI frI fpI ds ops.size W S μ' a' w') (hcl : ∀ k, S k = true → ∀ i, bef k i → S i = true) (hW : ∀ k, k < ops.size → ∀ j ∈ (fpI k).wr, j ∈ W)
  (hdef : ∀ i, i < ops.size → ∀ ds, DefR μ' (frI 0).marks ds → DefR (muCut μ' (stI i).n) (frI 0).marks ds)
  {i : Nat} (hi : i < ops.size) (hS : S i = false) (hb : ∀ j, bef i j → S j = true) {K : Act → World → Prop}
  (hK : ∀ μ2 a2 w2, Inv P μ w stI frI fpI ds ops.size W (addS S i) μ2 a2 w2 → K a2 w2) : wpOpIn (FE lb) 0 P ops Q i K a' w' := by
 have ho : ops[i]? = some ops[i] := Array.getElem?_eq_getElem hi
 obtain ⟨g, b, hg, hw, hp, ht, hfa⟩ := hs i _ ho
 have hmi := hmo i _ ho
 have hmi' : mo i = ⟨ops[i].dst, cOp P ops[i].op, g⟩ := by rw [hmi]; unfold cOper; rw [hg]
 have hdi : ds i = ops[i].dst := by rw [hds i hi, hmi']
 have hreads : ∀ s ∈ (cOp P ops[i].op).srcs, ∀ t ∈ s.tmps, t ∈ (mo i).reads := fun s hs t ht => by
  rw [hmi']; simp only [MOper.reads, List.mem_append, List.mem_flatMap]; exact .inr ⟨s, hs, ht⟩
 have hRR := cut_regs T Pu I Or hcl hds hi hS hb
 have hwant : wantedV (cutR (frI i).r (mo i).reads) g = wantedV (frI i).r g := by
  cases g with
  | none => rfl
  | some p =>
   obtain ⟨t, want⟩ := p
   simp only [wantedV]
   rw [cutR_get, if_pos (by rw [hmi']; simp [MOper.reads])]
 have hdn : ∀ d, ds i = some d → d < (frI 0).n := fun d hd => by
  rw [hdi] at hd
  rw [hd] at hp
  simp only [Fr.put] at hp
  split at hp
  ·rename_i hlt; rw [← (T.fn i (by omega)).1]; exact hlt
  ·cases hp
 unfold wpOpIn
 rw [ho]
 simp only []
 have hwd : Region.wanted ops[i] (yielded ops a'.tmps) = b := wanted_sim (fr := { r := cutR (frI i).r (mo i).reads, n := (frI 0).n, marks := [] }) (a := a') hRR hg (by rw [hwant]; exact hw)
 cases b with
 | true =>
  rw [if_pos hwd]
  obtain ⟨s', hm, hst1, hfp⟩ := ht rfl
  obtain ⟨σ, σ', k1, k2, k3, k4, k5, k6, k7, k8, k9⟩ := local_op (ws := oldIds (stI i).n s'.w) (lo := (stI i).n) (hi := s'.n) hm rfl
  rw [← hfp] at k6 k7 k8 k9
  obtain ⟨hrel, hcont⟩ := cut_rel h0 T I Or hcl hi hS hb k1 k6 k7
  have hfr : FrR (muCut μ' (stI i).n) { r := cutR (frI i).r (mo i).reads, n := (frI 0).n, marks := (frI 0).marks } a' := ⟨hRR, hdef i hi _ I.defs⟩
  have hm2 : mop (cOp P ops[i].op) call (cutR (frI i).r (mo i).reads) σ = some (vI i, σ') := by
   rw [mop_congr (r' := (frI i).r) fun s hs => cutR_ev (hreads s hs)]; exact k3
  refine op_wp hcall hE hrel hfr hm2 fun x w2 μ2 ws hv hst => ?_
  have hws : ws = s'.w := by
   have := hst.wl
   rw [k2, k5, List.append_nil] at this
   exact this.symm
  have hn' : (stI (i + 1)).n = s'.n := by rw [hst1]
  have hh' : (stI (i + 1)).h = s'.h := by rw [hst1]
  have hinv := inv_next h0 T Pu I Or hcl hds hW hi hS hdn hrel hcont k1 (by rw [k4, hn']) hst (fun j hj => by
   rw [hws, hfp, (foot_wr (call := call) hm _ _).1]
   exact (mem_oldIds _ _ _ hj).symm) (fun j hj => k9 j (by rw [← hws]; exact hj)) (fun j hj => by rw [hh']; exact k8 j (by rw [hn'] at hj; exact hj)) hv
  rw [hdi] at hinv
  exact hK _ _ _ hinv
 | false =>
  rw [if_neg (by rw [hwd]; simp)]
  obtain ⟨hv, hst1, hfp⟩ := hfa rfl
  refine ⟨fun _ _ => trivial, ?_⟩
  have hsee : ∀ j, ¬ (fpI i).sees j := fun j => by rw [hfp]; simp [FP.sees]
  obtain ⟨hrel, hcont⟩ := cut_rel (σ := ⟨deadBut (stI i).h [] (stI i).n, (stI i).n, []⟩) h0 T I Or hcl hi hS hb rfl (fun j _ hj => absurd hj (hsee j)) (fun j hj _ => by
   show (deadBut (stI i).h [] (stI i).n).get j = _
   rw [deadBut_get, if_pos hj]; simp)
  have hn' : (stI (i + 1)).n = (stI i).n := by rw [hst1]
  have := inv_next (x := undef) (ws := []) (σ' := ⟨deadBut (stI i).h [] (stI i).n, (stI i).n, []⟩) h0 T Pu I Or hcl hds hW hi hS hdn hrel hcont rfl hn'.symm (Stp.refl hrel) (fun j hj => by rw [hfp]) (fun j hj => by simp at hj) (fun j hj => by
   rcases hj with ⟨h, _⟩ | ⟨h1, h2⟩
   ·exact absurd h (hsee j)
   ·omega) (by rw [hv]; exact ⟨[], rfl, by simp [VRs]⟩)
  rw [hdi] at this
  exact hK _ _ _ this
theorem edgesOk_spec : ∀ {os : List Oper} {b : Nat}, edgesOk b os = true → ∀ i o, os[i]? = some o → ∀ e ∈ o.after, Region.binds .any e = true → e.on < b + i
 | [], b, _, i, o, h, _, _, _ => by simp at h
 | o0 :: os, b, h, i, o, ho, e, he, hb => by
  simp only [edgesOk, Bool.and_eq_true] at h
  cases i with
  | zero =>
   simp only [List.getElem?_cons_zero, Option.some.injEq] at ho
   subst ho
   have h1 := h.1
   rw [Array.all_eq_true_iff_forall_mem] at h1
   have := h1 e he
   rw [hb] at this
   simpa [Nat.blt_eq] using this
  | succ i =>
   have := edgesOk_spec h.2 i o (by simpa using ho) e he hb
   omega
theorem all_listed {ops : Array Oper} (he : edgesOk 0 ops.toList = true) {listed : Array Bool} (hsz : listed.size = ops.size) (hr : Region.ready .any ops listed = []) : ∀ k, k < ops.size → listed.getD k false = true := by
 intro k
 induction k using Nat.strongRecOn with
 | _ k ih =>
  intro hk
  refine Classical.byContradiction fun hn => ?_
  have hmem : k ∈ Region.ready .any ops listed := by
   unfold Region.ready
   simp only [List.mem_filter, List.mem_range, Bool.and_eq_true, Bool.not_eq_true']
   refine ⟨hk, ?_, ?_⟩
   ·have hlk : k < listed.size := by omega
    simp only [Array.getD, hlk, dif_pos] at hn ⊢
    simpa using hn
   ·have ho : ops[k]? = some ops[k] := Array.getElem?_eq_getElem hk
    rw [ho]
    simp only [Option.map_some, Option.getD_some, Array.all_eq_true_iff_forall_mem, Bool.or_eq_true, Bool.not_eq_true']
    intro e hee
    cases hb : Region.binds .any e with
    | false => exact .inl rfl
    | true =>
     have := edgesOk_spec he k ops[k] (by rw [Array.getElem?_toList]; exact ho) e hee hb
     exact .inr (ih e.on (by omega) (by omega))
  rw [hr] at hmem
  cases hmem
theorem count_one {p q : Nat → Bool} {i : Nat} (hp : p i = true) (hq : q i = false) (ho : ∀ k, k ≠ i → q k = p k) : ∀ N, i < N → (List.range N).countP q + 1 = (List.range N).countP p := by
 have same : ∀ N, N ≤ i → (List.range N).countP q = (List.range N).countP p := by
  intro N
  induction N with
  | zero => intro _; rfl
  | succ N ih =>
   intro h
   rw [List.range_succ, List.countP_append, List.countP_append, ih (by omega)]
   simp [ho N (by omega)]
 intro N
 induction N with
 | zero => intro h; omega
 | succ N ih =>
  intro h
  rw [List.range_succ, List.countP_append, List.countP_append]
  by_cases e : N = i
  ·subst e
   rw [same N (Nat.le_refl _)]
   simp [hp, hq]
  ·have := ih (by omega)
   simp only [List.countP_singleton, ho N e]
   omega
end
end Go.Mx
namespace Go.Mx
open Go
section
variable {P : Program} {μ : Mu} {w : World} {st st' : St} {fr fr' : Fr} {a : Act} {call : CallT} {v : V} {lb : Option Nat}
theorem addS_set {listed : Array Bool} {i : Nat} (hi : i < listed.size) : (fun k => (listed.setIfInBounds i true).getD k false) = addS (fun k => listed.getD k false) i := by
 funext k
 simp only [addS, Array.getD_eq_getD_getElem?]
 by_cases e : k = i
 ·subst e; simp [hi]
 ·rw [Array.getElem?_setIfInBounds_ne (Ne.symm e), if_neg e]
theorem any_wp (hcall : CallOk P call) (hE : ExtsOk P) {ops : Array Oper} {Q : Exit → Act → World → Prop} {stI : Nat → St} {frI : Nat → Fr} {vI : Nat → V} {fpI : Nat → FP} {W : List Nat}
  (h0 : HRel P μ w (stI 0)) (hs : ∀ i o, ops[i]? = some o → StepOk P call ops o (stI i) (frI i) (vI i) (fpI i) (stI (i + 1)) (frI (i + 1)))
  (T : Txt P μ stI frI fpI ops.size) {ds : Nat → Option Nat} {mo : Nat → MOper} (hmo : ∀ i o, ops[i]? = some o → mo i = cOper P ops o) (hds : ∀ k, k < ops.size → ds k = (mo k).dst) (Pu : Puts frI ds vI ops.size)
  (Or : Ord fpI mo ops.size (fun k i => ((masksOf ops.toList []).getD k 0).testBit i = true)) (hW : ∀ k, k < ops.size → ∀ j ∈ (fpI k).wr, j ∈ W) (hedge : edgesOk 0 ops.toList = true)
  (hdef : ∀ μ', (∀ j, j < (stI 0).n → μ' j = μ j) → ∀ i, i < ops.size → ∀ ds, DefR μ' (frI 0).marks ds → DefR (muCut μ' (stI i).n) (frI 0).marks ds)
  (hQ : ∀ S μ' a' w', (∀ k, k < ops.size → S k = true) → Inv P μ w stI frI fpI ds ops.size W S μ' a' w' → Q .normal a' w') :
  ∀ (fuel : Nat) (listed : Array Bool) (μ' : Mu) (a' : Act) (w' : World), listed.size = ops.size → (List.range ops.size).countP (fun k => !listed.getD k false) = fuel →
   (Closed ops fun k => listed.getD k false = true) → Inv P μ w stI frI fpI ds ops.size W (fun k => listed.getD k false) μ' a' w' → wpAnyIn (FE lb) 0 P .any ops Q fuel listed a' w' := by
 intro fuel
 induction fuel with
 | zero =>
  intro listed μ' a' w' hsz hc hcl I
  have hall : ∀ k, k < ops.size → listed.getD k false = true := fun k hk => by
   rw [List.countP_eq_zero] at hc
   have := hc k (List.mem_range.2 hk)
   simpa using this
  refine ⟨?_, hQ _ μ' a' w' hall I⟩
  refine List.eq_nil_iff_forall_not_mem.2 fun j hj => ?_
  obtain ⟨h1, h2, _⟩ := ready_mask hcl hj
  have := hall j h1
  simp only [Array.getD_eq_getD_getElem?] at h2 this
  have hj2 : j < listed.size := by omega
  simp [hj2] at h2 this
  rw [h2] at this; cases this
 | succ fuel ih =>
  intro listed μ' a' w' hsz hc hcl I
  refine ⟨fun hr => hQ _ μ' a' w' (all_listed hedge hsz hr) I, fun i hi => ?_⟩
  obtain ⟨h1, h2, h3⟩ := ready_mask hcl hi
  have hil : i < listed.size := by omega
  have hSi : listed.getD i false = false := by
   simp only [Array.getD_eq_getD_getElem?] at h2 ⊢
   simp [hil] at h2 ⊢
   exact h2
  refine inv_step (S := fun k => listed.getD k false) hcall hE h0 hs T hmo hds Pu Or I (fun k hk i hb => hcl k i hk hb) hW (hdef μ' I.ext) h1 hSi h3 fun μ2 a2 w2 I2 => ?_
  have hset := addS_set (listed := listed) hil
  refine ih (listed.setIfInBounds i true) μ2 a2 w2 (by simp [hsz]) ?_ ?_ (by rw [hset]; exact I2)
  ·have := count_one (p := fun k => !listed.getD k false) (q := fun k => !(listed.setIfInBounds i true).getD k false) (i := i) (by simp [hSi]) (by
    have := congrFun hset i
    simp only [this]; simp [addS]) (fun k hk => by
    have := congrFun hset k
    simp only [this]; simp [addS, hk]) ops.size h1
   omega
  ·intro k j hk hb
   have e1 := congrFun hset k
   have e2 := congrFun hset j
   simp only [e1, e2, addS] at hk ⊢
   by_cases ej : j = i
   ·rw [if_pos ej]
   ·rw [if_neg ej]
    by_cases ek : k = i
    ·subst ek; exact h3 j hb
    ·rw [if_neg ek] at hk; exact hcl k j hk hb
theorem DefR.cut' {μ μ' μ2 : Mu} {n : Nat} (hd : ∀ i l, μ i = some l → i < n) (h : ∀ i l, i < n → μ' i = some l → μ2 i = some l) : ∀ {ms : List Nat} {ds ds' : List Deferred}, DefR μ ms ds → DefR μ' ms ds' → DefR μ2 ms ds'
 | [], _, _, _, h2 => h2
 | m :: ms, _, _, ⟨l, _, h1, _, h3⟩, ⟨l', d', g1, g2, g3⟩ => ⟨l', d', h m l' (hd m l h1) g1, g2, DefR.cut' hd h h3 g3⟩
theorem touched_at {stI : Nat → St} {frI : Nat → Fr} {fpI : Nat → FP} {N : Nat} (T : Txt P μ stI frI fpI N) (j : Nat) : ∀ i, i ≤ N → (stI 0).n ≤ j → j < (stI i).n → ∃ k, k < i ∧ (stI k).n ≤ j ∧ j < (stI (k + 1)).n
 | 0, _, h1, h2 => by omega
 | i + 1, hi, h1, h2 => by
  by_cases e : j < (stI i).n
  ·obtain ⟨k, a1, a2⟩ := touched_at T j i (by omega) h1 e
   exact ⟨k, by omega, a2⟩
  ·exact ⟨i, by omega, by omega, h2⟩
theorem writes_at {stI : Nat → St} {frI : Nat → Fr} {fpI : Nat → FP} {N : Nat} (T : Txt P μ stI frI fpI N) : ∀ i, i ≤ N → ∃ Wi, (stI i).w = Wi ++ (stI 0).w ∧ ∀ k, k < i → ∀ j ∈ (fpI k).wr, j ∈ Wi
 | 0, _ => ⟨[], rfl, fun k hk => by omega⟩
 | i + 1, hi => by
  obtain ⟨Wi, h1, h2⟩ := writes_at T i (by omega)
  refine ⟨(fpI i).wr ++ Wi, by rw [T.wl i (by omega), h1, List.append_assoc], fun k hk j hj => ?_⟩
  by_cases e : k = i
  ·subst e; simp [hj]
  ·simp [h2 k (by omega) j hj]
theorem draw_ok (hm : P.follows .mixedOrders = true) (hE : ExtsOk P) (hcall : CallOk P call) : DrawOk P call := by
 intro id ops fr st ex fr' st' hp h μ w a lb hh hf
 unfold regOk at hp
 simp only [Bool.and_eq_true] at hp
 obtain ⟨hedge, hpt⟩ := hp
 unfold c_regD at h
 split at h
 ·rename_i fps fr1 st1 hrun
  split at h
  ·rename_i hap
   simp only [Option.some.injEq, Prod.mk.injEq] at h
   obtain ⟨rfl, rfl, rfl⟩ := h
   obtain ⟨stI, frI, vI, fpI, e1, e2, e3, e4, e5, hs⟩ := mopsD_run ops.toList fr st fps fr1 st1 hrun
   subst e1 e2
   have hN : ops.toList.length = ops.size := by simp
   rw [hN] at e3 e4 e5
   have hs' : ∀ i o, ops[i]? = some o → StepOk P call ops o (stI i) (frI i) (vI i) (fpI i) (stI (i + 1)) (frI (i + 1)) := fun i o ho => (hs i o (by rw [Array.getElem?_toList]; exact ho)).2
   have T := txt_ok hcall hE hN hh hf fun i o ho => (hs i o ho).2
   let mo : Nat → MOper := fun i => match ops[i]? with | some o => cOper P ops o | none => ⟨none, .stop, none⟩
   have hmo : ∀ i o, ops[i]? = some o → mo i = cOper P ops o := fun i o ho => by simp only [mo, ho]
   have hdst : ∀ i o, ops[i]? = some o → (mo i).dst = o.dst := fun i o ho => by rw [hmo i o ho]; unfold cOper; split <;> rfl
   have hget : ∀ i, i < ops.size → ops[i]? = some (ops[i]!) := fun i hi => by simp [hi]
   have Pu : Puts frI (fun k => (mo k).dst) vI ops.size := fun i hi t => by
    obtain ⟨g, b, _, _, hp, _⟩ := hs' i _ (hget i hi)
    show (frI (i + 1)).r.get t = if (mo i).dst = some t then some (vI i) else (frI i).r.get t
    rw [hdst i _ (hget i hi)]
    cases hd : (ops[i]!).dst with
    | none => rw [hd] at hp; simp only [Fr.put, Option.some.injEq] at hp; rw [← hp]; simp
    | some d =>
     rw [hd] at hp
     simp only [Fr.put] at hp
     split at hp
     ·simp only [Option.some.injEq] at hp
      rw [← hp, Go.Mx.T.get_set]
      by_cases e : t = d
      ·subst e; simp
      ·rw [if_neg e, if_neg (by simp [Ne.symm e])]
     ·cases hp
   have Or : Ord fpI mo ops.size (fun k i => ((masksOf ops.toList []).getD k 0).testBit i = true) := by
    refine ⟨fun i k hik hk => ?_, fun i k hik hk => ?_⟩
    ·exact pairs_ok hap hik ((hs i _ (by rw [Array.getElem?_toList]; exact hget i (by omega))).1) ((hs k _ (by rw [Array.getElem?_toList]; exact hget k hk)).1)
    ·refine pairs_ok hpt hik ?_ ?_
     ·rw [List.getElem?_map, Array.getElem?_toList, hget i (by omega), Option.map_some, hmo i _ (hget i (by omega))]
     ·rw [List.getElem?_map, Array.getElem?_toList, hget k hk, Option.map_some, hmo k _ (hget k hk)]
   obtain ⟨W, hW1, hW2⟩ := writes_at T ops.size (Nat.le_refl _)
   obtain ⟨wT, μT, aT, wsT, hT1, hT2⟩ := chain_ex hcall hE hN hh hf (fun i o ho => (hs i o ho).2) ops.size (Nat.le_refl _)
   have hwsW : wsT = W := List.append_cancel_right (hT1.wl.symm.trans hW1)
   subst hwsW
   have hsz0 : ∀ k, (Array.replicate ops.size false).getD k false = false := fun k => by
    simp only [Array.getD_eq_getD_getElem?]
    by_cases hk : k < ops.size
    ·simp [hk]
    ·simp [hk]
   have hcH : ∀ M j, contH stI fpI (fun k => (Array.replicate ops.size false).getD k false) M j = (stI 0).h.get j := fun M j => contH_stop (i := 0) (Nat.zero_le _) fun k _ _ _ => hsz0 k
   have hcR : ∀ M t, contR frI (fun k => (mo k).dst) (fun k => (Array.replicate ops.size false).getD k false) M t = (frI 0).r.get t := fun M t => contR_stop (i := 0) (Nat.zero_le _) fun k _ _ _ => hsz0 k
   have I0 : Inv P μ w stI frI fpI (fun k => (mo k).dst) ops.size wsT (fun k => (Array.replicate ops.size false).getD k false) μ a { w with drawn := w.drawn + 1 } := by
    refine ⟨fun _ _ => rfl, fun j l hj => ⟨.inl (hh.dom j l hj).1, (hh.dom j l hj).2⟩, fun k _ hk => ?_, fun j l hj => ?_, fun i j l l' o o' h1 h2 h3 h4 h5 => ?_, ⟨hf.1.1, fun t v hv => ?_⟩, hf.2, ⟨rfl, rfl, rfl, Nat.le_refl _, fun _ _ _ => rfl⟩, fun i l h1 h2 => absurd (hh.dom i l h2).1 (by omega)⟩
    ·rw [hsz0 k] at hk; cases hk
    ·obtain ⟨o, q1, q2⟩ := hh.obj j l hj
     exact ⟨o, by rw [hcH]; exact q1, OM.congr (w := w) rfl q2⟩
    ·rw [hcH] at h4 h5
     exact hh.inj i j l l' o o' h1 h2 h3 h4 h5
    ·rw [hcR] at hv
     exact hf.1.2 t v hv
   refine wpIn_region_any hm (any_wp hcall hE hh hs' T hmo (fun _ _ => rfl) Pu Or hW2 hedge ?_ ?_ ops.size _ μ a _ (by simp) ?_ ?_ I0)
   ·intro μ' hext i hi ds hds
    exact DefR.cut' (n := (stI 0).n) (fun j l hj => (hh.dom j l hj).1) (fun j l hj hl => by
     have := T.mono (i := 0) (k := i) (by omega) (by omega)
     rw [muCut_lt (by omega)]; exact hl) hf.2 hds
   ·intro S μ' a' w' hS I
    have hfH : ∀ j, j < (stI ops.size).n → contH stI fpI S ops.size j = (stI ops.size).h.get j := fun j hj => contH_eq T (Nat.le_refl _) hj fun k hk _ => hS k hk
    have hfR : ∀ t, contR frI (fun k => (mo k).dst) S ops.size t = (frI ops.size).r.get t := fun t => contR_eq Pu (Nat.le_refl _) fun k hk _ => hS k hk
    have hdom : ∀ j l, μ' j = some l → j < (stI ops.size).n := fun j l hj => by
     rcases (I.dom j l hj).1 with h | ⟨k, h1, _, _, h2⟩
     ·have := T.mono (i := 0) (k := ops.size) (by omega) (by omega); omega
     ·have := T.mono (i := k + 1) (k := ops.size) (by omega) (by omega); omega
    rw [← e3, ← e4]
    refine ⟨rfl, μ', wsT, ⟨⟨fun j l hj => ⟨hdom j l hj, (I.dom j l hj).2⟩, fun j l hj => ?_, fun i j l l' o o' h1 h2 h3 h4 h5 => ?_, fun g hg => ?_⟩, I.ext, T.mono (Nat.zero_le _) (Nat.le_refl _), hW1, I.chg, I.new, hT1.keep, hT1.grow, fun j h1 h2 => ?_, hT1.wrt⟩, ⟨?_, fun t v hv => ?_⟩, ?_⟩
    ·obtain ⟨o, q1, q2⟩ := I.obj j l hj
     exact ⟨o, by rw [← hfH j (hdom j l hj)]; exact q1, q2⟩
    ·exact I.inj i j l l' o o' h1 h2 h3 (by rw [hfH i (hdom i l h1)]; exact h4) (by rw [hfH j (hdom j l' h2)]; exact h5)
    ·obtain ⟨t, ht⟩ := hh.glob g hg
     exact ⟨t, by rw [I.ext g (hh.dom g _ ht).1]; exact ht⟩
    ·obtain ⟨k, q1, q2, q3⟩ := touched_at T j ops.size (Nat.le_refl _) h1 h2
     exact I.full k q1 (hS k q1) j q2 q3
    ·rw [(T.fn ops.size (Nat.le_refl _)).1]; exact I.regs.1
    ·exact I.regs.2 t v (by rw [hfR]; exact hv)
    ·rw [(T.fn ops.size (Nat.le_refl _)).2]; exact I.defs
   ·have : (fun k => !(Array.replicate ops.size false).getD k false) = fun _ => true := by funext k; rw [hsz0]; rfl
    rw [this]; simp
   ·intro k i hk
    rw [hsz0 k] at hk; cases hk
  ·cases h
 ·cases h
end
end Go.Mx
