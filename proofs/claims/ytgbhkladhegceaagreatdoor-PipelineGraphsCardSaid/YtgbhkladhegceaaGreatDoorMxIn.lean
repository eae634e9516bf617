/-
  The frame of a call, with views: what is new may be told in part, as a window that is not written.
-/
import Derived.Test.YtgbhkladhegceaaGreatDoorMxKit
import Derived.Test.YtgbhkladhegceaaGreatDoorMxUse
import Derived.Test.YtgbhkladhegceaaGreatDoorMxGr
import Derived.Test.YtgbhkladhegceaaGreatDoorMxFn
set_option linter.all false
namespace Go.Mx
open Go

/-- Ids and places behind a call: the small heap's (μ') and the great heap's (μ2). -/
def PlR (ρ : Nat → Option Nat) (pl : Nat → L → L) (μ' μ2 : Mu) : Prop := ∀ i i', ρ i = some i' → μ2 i' = (μ' i).map (pl i)

/-- How the great heap holds the small one: before (s, S) and behind (s', S') the call; 'W': the great heap's ids that were written. -/
structure Viewed (P : Program) (σ ρ : Nat → Option Nat) (pl : Nat → L → L) (W : List Nat) (s s' S S' : St) : Prop where
  dom : ∀ i i', σ i = some i' → i < s.n ∧ i' < S.n
  inj : ∀ i j i' o, σ i = some i' → σ j = some i' → s.h.get i = some o → o.wr = true → i = j
  glob : ∀ g, g < P.globals.size → σ g = some g
  obj : ∀ i i', σ i = some i' → ∃ o O', s.h.get i = some o ∧ Less σ o O' ∧ (S.h.get i' = some O' ∨ o = .dead)
  old : ∀ i, i < s.n → ρ i = σ i
  plo : ∀ i l, i < s.n → pl i l = l
  plb : ∀ i l, (pl i l).b = l.b
  new : ∀ i i', s.n ≤ i → ρ i = some i' → S.n ≤ i' ∧ i' < S'.n ∧ i < s'.n
  ninj : ∀ i j i', s.n ≤ i → s.n ≤ j → ρ i = some i' → ρ j = some i' → i = j
  full : ∀ i', S.n ≤ i' → i' < S'.n → ∃ i, s.n ≤ i ∧ ρ i = some i'
  nle : S.n ≤ S'.n
  w0 : s.w = []
  W1 : ∀ i i', i ∈ s'.w → σ i = some i' → i' ∈ W
  W2 : ∀ j, j ∈ W → ∃ i, i ∈ s'.w ∧ σ i = some j
  wl : S'.w = W ++ S.w
  keep : ∀ j, j < S.n → j ∉ W → S'.h.get j = S.h.get j
  wr : ∀ i i', i ∈ s'.w → σ i = some i' → ∃ o O', s'.h.get i = some o ∧ S'.h.get i' = some O' ∧ (O'.wr = true → o.wr = true) ∧ (O'.live = true → o.live = true) ∧ ∀ μ' μ2 w l, PlR ρ pl μ' μ2 → OM P μ' w o l → OM P μ2 w O' (pl i l)
  obn : ∀ i i', s.n ≤ i → ρ i = some i' → ∃ o O', s'.h.get i = some o ∧ S'.h.get i' = some O' ∧ (O'.wr = true → o.wr = true) ∧ (O'.live = true → o.live = true) ∧ ∀ μ' μ2 w l, PlR ρ pl μ' μ2 → OM P μ' w o l → OM P μ2 w O' (pl i l)

section
variable {P : Program} {σ ρ : Nat → Option Nat} {pl : Nat → L → L} {W : List Nat} {s s' S S' : St}

theorem Viewed.hrel (F : Viewed P σ ρ pl W s s' S S') {μ : Mu} {w : World} (hh : HRel P μ w S) : HRel P (fun i => (σ i).bind μ) w s := by
  have hb : ∀ i l, (σ i).bind μ = some l → ∃ i', σ i = some i' ∧ μ i' = some l := fun i l h => by
    cases hs : σ i with
    | none => rw [hs] at h; cases h
    | some i' => rw [hs] at h; exact ⟨i', rfl, h⟩
  refine ⟨fun i l hl => ?_, fun i l hl => ?_, fun i j l l' o o' hi hj hne ho ho' hw hlv => ?_, fun g hg => ?_⟩
  · obtain ⟨i', h1, h2⟩ := hb i l hl
    exact ⟨(F.dom i i' h1).1, (hh.dom i' l h2).2⟩
  · obtain ⟨i', h1, h2⟩ := hb i l hl
    obtain ⟨o, O', g1, g2, g3⟩ := F.obj i i' h1
    refine ⟨o, g1, ?_⟩
    rcases g3 with g3 | rfl
    · obtain ⟨O2, q1, q2⟩ := hh.obj i' l h2
      rw [g3] at q1; cases q1
      exact Less.om (fun i i' hi => by simp [hi]) g2 q2
    · trivial
  · obtain ⟨i', h1, h2⟩ := hb i l hi
    obtain ⟨j', h3, h4⟩ := hb j l' hj
    obtain ⟨o1, O1, a1, a2, a3⟩ := F.obj i i' h1
    obtain ⟨o2, O2, b1, b2, b3⟩ := F.obj j j' h3
    rw [ho] at a1; cases a1
    rw [ho'] at b1; cases b1
    have a3' : S.h.get i' = some O1 := a3.resolve_right fun e => by subst e; simp [O.wr] at hw
    have b3' : S.h.get j' = some O2 := b3.resolve_right fun e => by subst e; simp [O.live] at hlv
    refine hh.inj i' j' l l' O1 O2 h2 h4 (fun e => hne ?_) a3' b3' (a2.wr hw).1 (b2.live hlv)
    subst e; exact F.inj i j i' o h1 h3 ho hw
  · obtain ⟨t, ht⟩ := hh.glob g hg
    exact ⟨t, by simp [F.glob g hg, ht]⟩

/-- The step over the small heap, as one over the great heap. -/
theorem Viewed.stp (F : Viewed P σ ρ pl W s s' S S') {μ : Mu} {w w' : World} (hh : HRel P μ w S) {μ' : Mu} {ws : List Nat} (h : Stp P (fun i => (σ i).bind μ) w s μ' w' s' ws) :
    ∃ μ2, Stp P μ w S μ2 w' S' W ∧ PlR ρ pl μ' μ2 := by
  have hws : s'.w = ws := by have := h.wl; rw [F.w0] at this; simpa using this
  -- the new places
  have hinv : ∃ τ : Nat → Nat, ∀ i', S.n ≤ i' → i' < S'.n → s.n ≤ τ i' ∧ ρ (τ i') = some i' := by
    classical
    refine ⟨fun i' => if hc : ∃ i, s.n ≤ i ∧ ρ i = some i' then hc.choose else 0, fun i' h1 h2 => ?_⟩
    have hc := F.full i' h1 h2
    simp only [dif_pos hc]
    exact hc.choose_spec
  obtain ⟨τ, hτ⟩ := hinv
  let μ2 : Mu := fun i' => if i' < S.n then μ i' else if i' < S'.n then (μ' (τ i')).map (pl (τ i')) else none
  have hold : ∀ i', i' < S.n → μ2 i' = μ i' := fun i' hi => by show (if i' < S.n then _ else _) = _; rw [if_pos hi]
  have hnew : ∀ i', S.n ≤ i' → i' < S'.n → μ2 i' = (μ' (τ i')).map (pl (τ i')) := fun i' h1 h2 => by show (if i' < S.n then _ else _) = _; rw [if_neg (by omega), if_pos h2]
  have hout : ∀ i' l, μ2 i' = some l → i' < S'.n := fun i' l hl => by
    by_cases h1 : i' < S.n
    · exact Nat.lt_of_lt_of_le h1 F.nle
    · by_cases h2 : i' < S'.n
      · exact h2
      · have : μ2 i' = none := by show (if i' < S.n then _ else _) = _; rw [if_neg h1, if_neg h2]
        rw [this] at hl; cases hl
  have hμs : ∀ i, i < s.n → μ' i = (σ i).bind μ := fun i hi => h.ext i hi
  have hρ : PlR ρ pl μ' μ2 := fun i i' hi => by
    by_cases h1 : i < s.n
    · have h2 : σ i = some i' := (F.old i h1).symm.trans hi
      rw [hμs i h1, h2, hold i' (F.dom i i' h2).2]
      show μ i' = (μ i').map (pl i)
      cases μ i' with
      | none => rfl
      | some l => simp [F.plo i l h1]
    · obtain ⟨g1, g2, _⟩ := F.new i i' (by omega) hi
      obtain ⟨k1, k2⟩ := hτ i' g1 g2
      rw [hnew i' g1 g2, ← F.ninj i (τ i') i' (by omega) k1 hi k2]
  -- an old id of the great heap: written, or not
  have hwold : ∀ j, j ∈ W → ∃ i, i ∈ ws ∧ σ i = some j ∧ i < s.n ∧ j < S.n := fun j hj => by
    obtain ⟨i, h1, h2⟩ := F.W2 j hj
    exact ⟨i, hws ▸ h1, h2, F.dom i j h2⟩
  -- what was written, was there, and could be written
  have hwas : ∀ i i', i ∈ ws → σ i = some i' → ∃ O', S.h.get i' = some O' ∧ O'.wr = true := fun i i' hi hs => by
    obtain ⟨o, ho, hw⟩ := h.wrt i hi (F.dom i i' hs).1
    obtain ⟨o1, O1, a1, a2, a3⟩ := F.obj i i' hs
    rw [ho] at a1; cases a1
    exact ⟨O1, a3.resolve_right fun e => by subst e; simp [O.wr] at hw, (a2.wr hw).1⟩
  -- the blocks of what was not written
  have hblk : ∀ j l, j < S.n → j ∉ W → μ j = some l → ∀ O', S.h.get j = some O' → O'.live = true → w'.heap[l.b]? = w.heap[l.b]? := fun j l hj hnW hl O' hO hlv => by
    refine h.chg.block l.b (hh.dom j l hl).2 fun i hi li hli => ?_
    cases hs : σ i with
    | none => simp [hs] at hli
    | some i' =>
      simp only [hs, Option.bind_some] at hli
      obtain ⟨O1, q1, q2⟩ := hwas i i' hi hs
      refine hh.inj i' j li l O1 O' hli hl (fun e => hnW ?_) q1 hO q2 hlv
      subst e; exact F.W1 i i' (hws ▸ hi) hs
  -- an object behind the call
  have hobj : ∀ i i' l0, ρ i = some i' → μ' i = some l0 → (s.n ≤ i ∨ i ∈ ws) → ∃ o O', s'.h.get i = some o ∧ S'.h.get i' = some O' ∧ (O'.wr = true → o.wr = true) ∧ (O'.live = true → o.live = true) ∧ OM P μ2 w' O' (pl i l0) := fun i i' l0 hi hl hc => by
    have key : ∃ o O', s'.h.get i = some o ∧ S'.h.get i' = some O' ∧ (O'.wr = true → o.wr = true) ∧ (O'.live = true → o.live = true) ∧ ∀ μ' μ2 w l, PlR ρ pl μ' μ2 → OM P μ' w o l → OM P μ2 w O' (pl i l) := by
      by_cases h1 : i < s.n
      · rcases hc with hc | hc
        · omega
        · exact F.wr i i' (hws ▸ hc) ((F.old i h1).symm.trans hi)
      · exact F.obn i i' (by omega) hi
    obtain ⟨o, O', g1, g2, g3, g4, g5⟩ := key
    obtain ⟨o2, q1, q2⟩ := h.hr.obj i l0 hl
    rw [g1] at q1; cases q1
    exact ⟨o, O', g1, g2, g3, g4, g5 _ _ _ _ hρ q2⟩
  have hback : ∀ i i' l, ρ i = some i' → μ2 i' = some l → ∃ l0, μ' i = some l0 ∧ pl i l0 = l := fun i i' l hi hl => by
    rw [hρ i i' hi, Option.map_eq_some_iff] at hl
    exact hl
  -- each id of the great heap that has a place: as it was, or of the small heap
  have hcase : ∀ i' l, μ2 i' = some l → (i' < S.n ∧ i' ∉ W ∧ μ i' = some l ∧ S'.h.get i' = S.h.get i') ∨ ∃ i l0, ρ i = some i' ∧ μ' i = some l0 ∧ (s.n ≤ i ∨ i ∈ ws) ∧ pl i l0 = l := fun i' l hl => by
    by_cases h1 : i' < S.n
    · by_cases h2 : i' ∈ W
      · obtain ⟨i, q1, q2, q3, _⟩ := hwold i' h2
        have hr : ρ i = some i' := (F.old i q3).trans q2
        obtain ⟨l0, g1, g2⟩ := hback i i' l hr hl
        exact .inr ⟨i, l0, hr, g1, .inr q1, g2⟩
      · exact .inl ⟨h1, h2, (hold i' h1) ▸ hl, F.keep i' h1 h2⟩
    · have h2 := hout i' l hl
      obtain ⟨k1, k2⟩ := hτ i' (by omega) h2
      obtain ⟨l0, g1, g2⟩ := hback _ i' l k2 hl
      exact .inr ⟨τ i', l0, k2, g1, .inl k1, g2⟩
  -- the blocks of a kept id and of one of the small heap are apart
  have hapart : ∀ i' l O', i' < S.n → i' ∉ W → μ i' = some l → S.h.get i' = some O' → O'.live = true → ∀ k k' lk, ρ k = some k' → μ' k = some lk → (s.n ≤ k ∨ k ∈ ws) → l.b ≠ lk.b := by
    intro i' l O' hi hnW hl hO hlv k k' lk hk hlk hc
    by_cases h1 : k < s.n
    · have hkw : k ∈ ws := hc.resolve_left (by omega)
      have hs : σ k = some k' := (F.old k h1).symm.trans hk
      obtain ⟨O1, q1, q2⟩ := hwas k k' hkw hs
      have hk2 : μ k' = some lk := by rw [hμs k h1, hs] at hlk; exact hlk
      have hne : k' ≠ i' := fun e => hnW (e ▸ F.W1 k k' (hws ▸ hkw) hs)
      exact (hh.inj k' i' lk l O1 O' hk2 hl hne q1 hO q2 hlv).symm
    · rcases h.new k lk (by omega) hlk with hge | ⟨j, hj, hjn, lj, oj, hlj, hb, hoj, hjw⟩
      · have := (hh.dom i' l hl).2; omega
      · cases hs : σ j with
        | none => simp [hs] at hlj
        | some j' =>
          simp only [hs, Option.bind_some] at hlj
          obtain ⟨O1, q1, q2⟩ := hwas j j' hj hs
          have hne : j' ≠ i' := fun e => hnW (e ▸ F.W1 j j' (hws ▸ hj) hs)
          rw [← hb]
          exact (hh.inj j' i' lj l O1 O' hlj hl hne q1 hO q2 hlv).symm
  refine ⟨μ2, ⟨⟨fun i' l hl => ⟨hout i' l hl, ?_⟩, fun i' l hl => ?_, fun i' j' l l' O1 O2 hi hj hne hO1 hO2 hw hlv => ?_, fun g hg => ?_⟩, hold, F.nle, F.wl, ⟨h.chg.os, h.chg.tape, h.chg.output, h.chg.size, fun b hb hnot => ?_⟩, fun i' l hi' hl => ?_, F.keep, fun i' O' hi' hO => ?_, fun i' h1 h2 => ?_, fun i' hi' _ => ?_⟩, hρ⟩
  · rcases hcase i' l hl with ⟨_, _, g, _⟩ | ⟨i, l0, _, g, _, rfl⟩
    · exact Nat.lt_of_lt_of_le (hh.dom i' l g).2 h.chg.size
    · rw [F.plb]; exact (h.hr.dom i l0 g).2
  · rcases hcase i' l hl with ⟨g1, g2, g3, g4⟩ | ⟨i, l0, g1, g2, g3, rfl⟩
    · obtain ⟨O', q1, q2⟩ := hh.obj i' l g3
      refine ⟨O', g4.trans q1, ?_⟩
      cases hlv : O'.live with
      | false => cases O' <;> simp [O.live] at hlv; trivial
      | true =>
        refine OM.congr (w := w) (hblk i' l g1 g2 g3 O' q1 hlv) (q2.mono fun k lk hk => ?_)
        rw [hold k (hh.dom k lk hk).1]; exact hk
    · obtain ⟨o, O', q1, q2, _, _, q5⟩ := hobj i i' l0 g1 g2 g3
      exact ⟨O', q2, q5⟩
  · rcases hcase i' l hi with ⟨a1, a2, a3, a4⟩ | ⟨i, li, a1, a2, a3, rfl⟩
    · rw [a4] at hO1
      rcases hcase j' l' hj with ⟨b1, b2, b3, b4⟩ | ⟨j, lj, b1, b2, b3, rfl⟩
      · rw [b4] at hO2
        exact hh.inj i' j' l l' O1 O2 a3 b3 hne hO1 hO2 hw hlv
      · rw [F.plb]
        exact hapart i' l O1 a1 a2 a3 hO1 (O.wr_live hw) j j' lj b1 b2 b3
    · obtain ⟨o1, O1', q1, q2, q3, _, _⟩ := hobj i i' li a1 a2 a3
      rw [hO1] at q2; cases q2
      have hw1 : o1.wr = true := q3 hw
      rcases hcase j' l' hj with ⟨b1, b2, b3, b4⟩ | ⟨j, lj, b1, b2, b3, rfl⟩
      · rw [b4] at hO2
        rw [F.plb]
        exact (hapart j' l' O2 b1 b2 b3 hO2 hlv i i' li a1 a2 a3).symm
      · obtain ⟨o2, O2', r1, r2, _, r4, _⟩ := hobj j j' lj b1 b2 b3
        rw [hO2] at r2; cases r2
        rw [F.plb, F.plb]
        refine h.hr.inj i j li lj o1 o2 a2 b2 (fun e => hne ?_) q1 r1 hw1 (r4 hlv)
        subst e; rw [a1] at b1; cases b1; rfl
  · obtain ⟨t, ht⟩ := hh.glob g hg
    exact ⟨t, by rw [hold g (hh.dom g _ ht).1]; exact ht⟩
  · refine h.chg.block b hb fun i hi l hl => ?_
    cases hs : σ i with
    | none => simp [hs] at hl
    | some i' =>
      simp only [hs, Option.bind_some] at hl
      exact hnot i' (F.W1 i i' (hws ▸ hi) hs) l hl
  · have h2 := hout i' l hl
    obtain ⟨k1, k2⟩ := hτ i' hi' h2
    obtain ⟨l0, g1, rfl⟩ := hback _ i' l k2 hl
    rw [F.plb]
    rcases h.new (τ i') l0 k1 g1 with hge | ⟨j, hj, hjn, lj, oj, hlj, hb, hoj, hjw⟩
    · exact .inl hge
    · cases hs : σ j with
      | none => simp [hs] at hlj
      | some j' =>
        simp only [hs, Option.bind_some] at hlj
        obtain ⟨O1, q1, q2⟩ := hwas j j' hj hs
        exact .inr ⟨j', F.W1 j j' (hws ▸ hj) hs, (F.dom j j' hs).2, lj, O1, hlj, hb, q1, q2⟩
  · by_cases hW : i' ∈ W
    · obtain ⟨i, q1, q2, q3, q4⟩ := hwold i' hW
      obtain ⟨O1, r1, r2⟩ := hwas i i' q1 q2
      exact ⟨O1, r1, fun _ => r2, fun _ => O.wr_live r2⟩
    · exact ⟨O', (F.keep i' hi' hW).symm.trans hO, id, id⟩
  · obtain ⟨k1, k2⟩ := hτ i' h1 h2
    obtain ⟨l, hl⟩ := h.full (τ i') k1 (F.new _ _ k1 k2).2.2
    exact ⟨pl (τ i') l, (hnew i' h1 h2).trans (by rw [hl]; rfl)⟩
  · obtain ⟨i, q1, q2, _⟩ := hwold i' hi'
    exact hwas i i' q1 q2

/-- The frame of a call, with views. 'hv': what the result comes to under the new places. -/
theorem SemOk.view {g v : V} {args : List V} (h : SemOk P g args s v s') (F : Viewed P σ ρ pl W s s' S S') {g' v' : V} {args' : List V} (hg : V.ren σ g = some g') (ha : V.rens σ args = some args') (hv : ∀ μ' μ2 x, PlR ρ pl μ' μ2 → VR μ' v x → VR μ2 v' x) :
    SemOk P g' args' S v' S' := by
  intro μ w G xs hh hG hxs
  have hσ : ∀ i i', σ i = some i' → (fun i => (σ i).bind μ) i = μ i' := fun i i' hi => by simp [hi]
  have := h (fun i => (σ i).bind μ) w G xs (F.hrel hh) ((VR.ren hσ g g' G hg).2 hG) ((VRs.ren hσ args args' xs ha).2 hxs)
  rw [V.ren_isY hg]
  refine this.mono fun x w' ⟨μ', ws, h1, h2⟩ => ?_
  obtain ⟨μ2, k1, k2⟩ := F.stp hh h2
  exact ⟨μ2, W, hv _ _ x k2 h1, k1⟩

end

end Go.Mx
/- Calls over rows that came in, with rows that are new behind them: rows are told as windows that are not written. -/
namespace Go.Mx
open Go

/-- The objects, one id after the other. -/
def rowsT (h : T O) : List O → Nat → T O
  | [], _ => h
  | o :: l, n => (rowsT h l (n + 1)).set n o

theorem rowsT_get (h : T O) : ∀ (l : List O) (n i : Nat), (rowsT h l n).get i = if n ≤ i ∧ i < n + l.length then l[i - n]? else h.get i
  | [], n, i => by simp [rowsT]; omega
  | o :: l, n, i => by
    simp only [rowsT, T.get_set]
    by_cases e : i = n
    · subst e; simp
    · rw [if_neg e, rowsT_get h l (n + 1) i]
      by_cases h1 : n + 1 ≤ i ∧ i < n + 1 + l.length
      · rw [if_pos h1, if_pos (by simp; omega), show i - n = (i - (n + 1)) + 1 by omega]; simp
      · rw [if_neg h1, if_neg (by simp; omega)]

def smallSt (G : Nat) (os : List O) : St := ⟨rowsT (deadT G) os G, G + os.length, []⟩

def sigR (G : Nat) (ids : List Nat) (i : Nat) : Option Nat := if i < G then some i else ids[i - G]?

/-- A window of a new row. -/
structure View where
  k : Nat
  o : Nat
  len : Nat
  cap : Option Nat
  sz : Nat
  e : TypeId
  zs : List V

def vidx (i : Nat) : List View → Nat → Option (Nat × View)
  | [], _ => none
  | v :: l, m => if v.k = i then some (m, v) else vidx i l (m + 1)

def vobj : List View → List O
  | [] => []
  | v :: l => .cells v.zs v.e false :: vobj l

theorem vobj_length : ∀ (l : List View), (vobj l).length = l.length
  | [] => rfl
  | _ :: l => by simp [vobj, vobj_length l]

theorem vobj_get : ∀ {l : List View} {j : Nat} {v : View}, l[j]? = some v → (vobj l)[j]? = some (.cells v.zs v.e false)
  | [], j, v, h => by simp at h
  | u :: l, 0, v, h => by simp at h; subst h; simp [vobj]
  | u :: l, j + 1, v, h => by simpa [vobj] using vobj_get (l := l) (j := j) (by simpa using h)

theorem vidx_spec {i : Nat} : ∀ {l : List View} {m m' : Nat} {v : View}, vidx i l m = some (m', v) → v.k = i ∧ m ≤ m' ∧ m' < m + l.length ∧ l[m' - m]? = some v
  | [], m, m', v, h => by cases h
  | u :: l, m, m', v, h => by
    simp only [vidx] at h
    split at h
    · rename_i e
      simp only [Option.some.injEq, Prod.mk.injEq] at h
      obtain ⟨rfl, rfl⟩ := h
      exact ⟨e, Nat.le_refl _, by simp, by simp⟩
    · obtain ⟨h1, h2, h3, h4⟩ := vidx_spec h
      exact ⟨h1, by omega, by simp; omega, by rw [show m' - m = (m' - (m + 1)) + 1 by omega]; simpa using h4⟩

theorem vidx_of : ∀ {l : List View} {m j : Nat} {v : View}, (l.map (·.k)).Nodup → l[j]? = some v → vidx v.k l m = some (m + j, v)
  | [], m, j, v, _, h => by simp at h
  | u :: l, m, 0, v, _, h => by simp at h; subst h; simp [vidx]
  | u :: l, m, j + 1, v, hn, h => by
    simp only [List.map_cons, List.nodup_cons] at hn
    have hm : v ∈ l := List.mem_of_getElem? (by simpa using h)
    have hne : ¬ u.k = v.k := fun e => hn.1 (by rw [e]; exact List.mem_map_of_mem hm)
    simp only [vidx]
    rw [if_neg hne, vidx_of hn.2 (j := j) (by simpa using h)]
    congr 2; omega

def View.pl (v : View) (l : L) : L := ⟨l.b, l.d + v.o, match v.cap with | some c => min (c * v.sz) (l.tot - v.o) | none => l.tot - v.o⟩

def rhoR (G : Nat) (ids : List Nat) (n N : Nat) (vs : List View) (i : Nat) : Option Nat := if i < n then sigR G ids i else (vidx i vs 0).map fun p => N + p.1
def plR (n : Nat) (vs : List View) (i : Nat) (l : L) : L := if i < n then l else match vidx i vs 0 with | some p => p.2.pl l | none => l

/-- The result under the new places. -/
def Told (ρ : Nat → Option Nat) (pl : Nat → L → L) (v v' : V) : Prop := ∀ μ' μ2 x, PlR ρ pl μ' μ2 → VR μ' v x → VR μ2 v' x

theorem row_view {P : Program} {f : Nat} {args : List V} {os : List O} {v : V} {s' : St} (h : SemOk P (.func f [] []) args (smallSt P.globals.size os) v s') {S : St} {ids : List Nat} {vs : List View} {args' : List V} {v' : V}
    (hlen : ids.length = os.length) (hos : ∀ (j : Nat) (o : O), os[j]? = some o → ∃ c e, o = .cells c e false ∧ V.frees c = true)
    (hS : ∀ (j : Nat) (c : List V) (e : TypeId) (i : Nat), os[j]? = some (.cells c e false) → ids[j]? = some i → i < S.n ∧ ∃ rw, S.h.get i = some (.cells c e rw))
    (hw : s'.w = []) (hn : P.globals.size + os.length ≤ s'.n) (hnd : (vs.map (·.k)).Nodup)
    (hvs : ∀ u ∈ vs, P.globals.size + os.length ≤ u.k ∧ u.k < s'.n ∧ V.frees u.zs = true ∧ u.zs.length = u.len * u.sz ∧ (∀ c, u.cap = some c → u.len ≤ c) ∧ ∃ c rw, s'.h.get u.k = some (.cells c u.e rw) ∧ slc c u.o (u.len * u.sz) = some u.zs)
    (ha : V.rens (sigR P.globals.size ids) args = some args')
    (hv : Told (rhoR P.globals.size ids (P.globals.size + os.length) S.n vs) (plR (P.globals.size + os.length) vs) v v') :
    SemOk P (.func f [] []) args' S v' ⟨rowsT S.h (vobj vs) S.n, S.n + vs.length, S.w⟩ := by
  intro μ w Gv xs hh hG hx
  have hg : P.globals.size ≤ S.n := by
    apply Nat.le_of_not_lt
    intro hlt
    obtain ⟨t, ht⟩ := hh.glob S.n hlt
    have := (hh.dom _ _ ht).1
    omega
  have hsg : ∀ i i', sigR P.globals.size ids i = some i' → (i < P.globals.size ∧ i' = i) ∨ (P.globals.size ≤ i ∧ ∃ c e, os[i - P.globals.size]? = some (.cells c e false) ∧ V.frees c = true ∧ i < P.globals.size + os.length ∧ i' < S.n ∧ ∃ rw, S.h.get i' = some (.cells c e rw)) := fun i i' hi => by
    unfold sigR at hi
    split at hi
    · rename_i h1; simp only [Option.some.injEq] at hi; exact .inl ⟨h1, hi.symm⟩
    · rename_i h1
      have hlt := (List.getElem?_eq_some_iff.1 hi).1
      obtain ⟨o, ho⟩ : ∃ o, os[i - P.globals.size]? = some o := ⟨_, List.getElem?_eq_getElem (by omega)⟩
      obtain ⟨c, e, rfl, hc⟩ := hos _ o ho
      obtain ⟨q1, q2⟩ := hS _ c e i' ho hi
      exact .inr ⟨by omega, c, e, ho, hc, by omega, q1, q2⟩
  have hsh : ∀ i, P.globals.size ≤ i → i < P.globals.size + os.length → (smallSt P.globals.size os).h.get i = os[i - P.globals.size]? := fun i h1 h2 => by
    show (rowsT _ _ _).get i = _
    rw [rowsT_get, if_pos ⟨h1, h2⟩]
  have hsd : ∀ i, i < P.globals.size → (smallSt P.globals.size os).h.get i = some .dead := fun i h1 => by
    show (rowsT _ _ _).get i = _
    rw [rowsT_get, if_neg (by omega)]; exact deadT_get _ _ h1
  have F : Viewed P (sigR P.globals.size ids) (rhoR P.globals.size ids (P.globals.size + os.length) S.n vs) (plR (P.globals.size + os.length) vs) [] (smallSt P.globals.size os) s' S ⟨rowsT S.h (vobj vs) S.n, S.n + vs.length, S.w⟩ := {
    dom := fun i i' hi => by
      rcases hsg i i' hi with ⟨h1, rfl⟩ | ⟨_, c, e, _, _, h2, h3, _⟩
      · exact ⟨by show i' < P.globals.size + os.length; omega, by omega⟩
      · exact ⟨h2, h3⟩
    inj := fun i j i' o hi hj ho hwr => by
      rcases hsg i i' hi with ⟨h1, rfl⟩ | ⟨h1, c, e, hc, _, h2, _⟩
      · rw [hsd _ h1] at ho; cases ho; cases hwr
      · rw [hsh i h1 h2, hc] at ho; cases ho; cases hwr
    glob := fun g hg => by simp [sigR, hg]
    obj := fun i i' hi => by
      rcases hsg i i' hi with ⟨h1, rfl⟩ | ⟨h1, c, e, hc, hf, h2, h3, rw', hS'⟩
      · exact ⟨.dead, .dead, hsd _ h1, .inl rfl, .inr rfl⟩
      · refine ⟨.cells c e false, .cells c e rw', by rw [hsh i h1 h2, hc], ?_, .inl hS'⟩
        cases rw' with
        | false => exact .inr (.inl (by simp only [O.ren, V.frees_ren c hf]))
        | true => exact .inr (.inr ⟨c, e, c, rfl, V.frees_ren c hf, rfl⟩)
    old := fun i hi => by
      have : i < P.globals.size + os.length := hi
      simp [rhoR, this]
    plo := fun i l hi => by
      have : i < P.globals.size + os.length := hi
      simp [plR, this]
    plb := fun i l => by
      unfold plR
      split
      · rfl
      · split <;> rfl
    new := fun i i' hi hr => by
      have hi' : ¬ i < P.globals.size + os.length := Nat.not_lt.2 hi
      simp only [rhoR, hi', if_false, Option.map_eq_some_iff] at hr
      obtain ⟨⟨m, u⟩, hm, rfl⟩ := hr
      obtain ⟨h1, _, h3, h4⟩ := vidx_spec hm
      have hu := hvs u (List.mem_of_getElem? h4)
      exact ⟨by omega, by show S.n + m < S.n + vs.length; omega, by rw [← h1]; exact hu.2.1⟩
    ninj := fun i j i' hi hj hri hrj => by
      have hi' : ¬ i < P.globals.size + os.length := Nat.not_lt.2 hi
      have hj' : ¬ j < P.globals.size + os.length := Nat.not_lt.2 hj
      simp only [rhoR, hi', hj', if_false, Option.map_eq_some_iff] at hri hrj
      obtain ⟨⟨m, u⟩, hm, rfl⟩ := hri
      obtain ⟨⟨m', u'⟩, hm', he⟩ := hrj
      obtain ⟨h1, _, _, h4⟩ := vidx_spec hm
      obtain ⟨h1', _, _, h4'⟩ := vidx_spec hm'
      simp only at he
      have : m' = m := by omega
      subst this
      rw [h4] at h4'; cases h4'
      rw [← h1, ← h1']
    full := fun i' h1 h2 => by
      have h2' : i' < S.n + vs.length := h2
      obtain ⟨u, hu⟩ : ∃ u, vs[i' - S.n]? = some u := ⟨_, List.getElem?_eq_getElem (by omega)⟩
      have hk := (hvs u (List.mem_of_getElem? hu)).1
      refine ⟨u.k, hk, ?_⟩
      have : ¬ u.k < P.globals.size + os.length := by omega
      simp only [rhoR, this, if_false, vidx_of hnd hu, Option.map_some, Option.some.injEq]
      omega
    nle := Nat.le_add_right _ _
    w0 := rfl
    W1 := fun i i' hi _ => by rw [hw] at hi; cases hi
    W2 := fun j hj => by cases hj
    wl := rfl
    keep := fun j hj _ => by
      show (rowsT S.h (vobj vs) S.n).get j = _
      rw [rowsT_get, if_neg (by omega)]
    wr := fun i i' hi _ => by rw [hw] at hi; cases hi
    obn := fun i i' hi hr => by
      have hi' : ¬ i < P.globals.size + os.length := Nat.not_lt.2 hi
      simp only [rhoR, hi', if_false, Option.map_eq_some_iff] at hr
      obtain ⟨⟨m, u⟩, hm, rfl⟩ := hr
      obtain ⟨h1, _, h3, h4⟩ := vidx_spec hm
      obtain ⟨q1, q2, q3, q4, q5, c, rw', q6, q7⟩ := hvs u (List.mem_of_getElem? h4)
      subst h1
      refine ⟨.cells c u.e rw', .cells u.zs u.e false, q6, ?_, (fun h => by cases h), fun _ => rfl, fun μ' μ2 w l _ hom => ?_⟩
      · show (rowsT S.h (vobj vs) S.n).get (S.n + m) = _
        have hlt : m < vs.length := by omega
        rw [rowsT_get, vobj_length, if_pos (by omega), show S.n + m - S.n = m by omega]
        exact vobj_get (by simpa using h4)
      · obtain ⟨c', lo, hi2, p1, p2, p3, p4, p5, _⟩ := hom
        unfold slc at q7
        split at q7
        · rename_i hle
          simp only [Option.some.injEq] at q7
          have hpl : plR (P.globals.size + os.length) vs u.k l = u.pl l := by simp only [plR, hi', if_false, hm]
          rw [hpl]
          have htot : (u.pl l).tot ≤ l.tot - u.o := by unfold View.pl; simp only; split <;> omega
          have htot2 : u.zs.length ≤ (u.pl l).tot := by
            rw [q4]
            unfold View.pl
            simp only
            split
            · rename_i cc hcc
              have hlc := q5 cc hcc
              have : u.len * u.sz ≤ cc * u.sz := Nat.mul_le_mul_right _ hlc
              omega
            · omega
          refine ⟨c', lo, hi2, p1, by show l.d + u.o + (u.pl l).tot ≤ c'.size; omega, htot2, fun j v hv => ?_, fun j x hj hx => ?_, fun h => by cases h⟩
          · have hj : j < u.zs.length := (List.getElem?_eq_some_iff.1 hv).1
            have hz : c[u.o + j]? = some v := by
              rw [← q7, List.getElem?_take] at hv
              split at hv
              · simpa [List.getElem?_drop] using hv
              · cases hv
            obtain ⟨x, hx, hxv⟩ := p4 _ v hz
            refine ⟨x, by show c'[l.d + u.o + j]? = _; rw [show l.d + u.o + j = l.d + (u.o + j) by omega]; exact hx, ?_⟩
            have hfv : V.free v = true := by
              have : ∀ {l : List V} {i : Nat} {v : V}, V.frees l = true → l[i]? = some v → V.free v = true := by
                intro l
                induction l with
                | nil => intro i v _ h; simp at h
                | cons a l ih =>
                  intro i v hf h
                  simp only [V.frees, Bool.and_eq_true] at hf
                  cases i with
                  | zero => simp at h; subst h; exact hf.1
                  | succ i => exact ih hf.2 (by simpa using h)
              exact this q3 hv
            exact (VR.ren (μ := μ') (μ' := μ2) (ρ := fun _ => none) (fun _ _ h => by cases h) v v x (V.free_ren v hfv)).1 hxv
          · exact p5 (u.o + j) x (by omega) (by rw [← Nat.add_assoc]; exact hx)
        · cases q7 }
  exact (SemOk.view h F (V.free_ren _ (by rfl)) ha hv) μ w Gv xs hh hG hx

end Go.Mx
/- A graph that came in: the heap of the machine M that holds it. -/
namespace Go.Mx
open Go
set_option linter.unusedVariables false

/-- The list of inputs as it came in. -/
inductive InpV where
  | nil
  | emp (b : Addr)
  | sl (b : Addr) (l c : Nat) (f : Nat → ByteArray)
def InpV.val : InpV → Value
  | .nil => .slice none 0 0
  | .emp b => .slice (some b) 0 0
  | .sl b l c f => .slice (some b) l c
structure StgV where
  name : ByteArray
  op : ByteArray
  fac : ByteArray
  inp : InpV
  cost : Int
def StgV.cell (s : StgV) : Nat → Value
  | 0 => .string s.name
  | 1 => .string s.op
  | 2 => .string s.fac
  | 3 => s.inp.val
  | _ => .int .i64 s.cost
def InpV.ok (W : World) : InpV → Prop
  | .sl b l c f => l ≤ c ∧ 0 < c ∧ ∀ i, i < c → W.cell? (b.add i) = some (.string (f i))
  | _ => True
def InpV.strs : InpV → List Str
  | .sl b l c f => (List.range l).map fun i => (f i).data.toList
  | _ => []
def StgV.stg (s : StgV) : Stg := ⟨s.name.data.toList, s.op.data.toList, s.fac.data.toList, s.inp.strs, s.cost⟩
def eOf (W : World) (a : Addr) : TypeId := match W.heap[a.block]? with
  | some (.cells _ e _) => e
  | _ => 0
def InpV.mv (i : Nat) : InpV → V
  | .nil => .nilslice
  | .emp b => .empty
  | .sl b l c f => .slice i 0 l (some c) 1
def InpV.row (W : World) : InpV → O
  | .sl b l c f => .cells ((List.range c).map fun i => .str (f i).data.toList) (eOf W b) false
  | _ => .dead
def InpV.pl : InpV → Option L
  | .sl b l c f => some ⟨b.block, b.off, c⟩
  | _ => none
def StgV.mcell (s : StgV) (i : Nat) : Nat → V
  | 0 => .str s.name.data.toList
  | 1 => .str s.op.data.toList
  | 2 => .str s.fac.data.toList
  | 3 => s.inp.mv i
  | _ => .int .i64 s.cost

theorem cells_of {W : World} {a : Addr} {n : Nat} {f : Nat → Value} (hn : 0 < n) (hc : ∀ i, i < n → W.cell? (a.add i) = some (f i)) :
    ∃ c' lo hi, W.heap[a.block]? = some (.cells c' (eOf W a) (lo, hi)) ∧ a.spot = none ∧ (∀ i, i < n → c'[a.off + i]? = some (f i)) ∧ a.off + n ≤ c'.size ∧ a.block < W.heap.size := by
  have h0 := hc 0 hn
  have ha0 : a.add 0 = a := by simp [Addr.add]
  rw [ha0] at h0
  obtain ⟨c', e, fr, hb⟩ : ∃ c' e fr, W.heap[a.block]? = some (.cells c' e fr) := by
    unfold World.cell? at h0
    split at h0
    · rename_i c' e fr hb; exact ⟨c', e, fr, hb⟩
    · cases h0
  have hs : a.spot = none := by
    unfold World.cell? at h0
    rw [hb] at h0
    simp only at h0
    split at h0
    · cases h0
    · rename_i h; simpa using h
  have hcell : ∀ i, i < n → c'[a.off + i]? = some (f i) := fun i hi => by
    have := hc i hi
    unfold World.cell? at this
    have e1 : (a.add i).block = a.block := by unfold Addr.add; split <;> rfl
    have e2 : (a.add i).off = a.off + i := by unfold Addr.add; split <;> simp_all
    have e3 : (a.add i).spot = none := by unfold Addr.add; split <;> simp_all
    rw [e1, hb] at this
    simp only [e2, e3, Option.isSome_none, Bool.false_eq_true, if_false] at this
    exact this
  have hlt : a.block < W.heap.size := by
    rcases Nat.lt_or_ge a.block W.heap.size with h | h
    · exact h
    · rw [Array.getElem?_eq_none h] at hb; cases hb
  have hend : a.off + n ≤ c'.size := by
    have := hcell (n - 1) (by omega)
    have h2 := (Array.getElem?_eq_some_iff.1 this).1
    omega
  obtain ⟨lo, hi⟩ := fr
  exact ⟨c', lo, hi, by rw [hb]; simp [eOf, hb], hs, hcell, hend, hlt⟩

theorem graph_hrel {P : Program} {W : World} (hW : P.globals.size ≤ W.heap.size) {a : Addr} {len cap : Nat} {F : Nat → StgV} (hl : len ≤ cap) (hp : 0 < cap) (hc : ∀ j, j < cap * 5 → W.cell? (a.add j) = some ((F (j / 5)).cell (j % 5))) (hi : ∀ i, i < cap → (F i).inp.ok W) :
    ∃ (S : St) (μ : Mu) (v : V), HRel P μ W S ∧ S.w = [] ∧ VR μ v (.slice (some a) len cap) ∧ Gr S.h S.n v ((List.range len).map fun i => (F i).stg) := by
  obtain ⟨c', lo, hi', hb, hs, hcell, hend, hlt⟩ := cells_of (n := cap * 5) (by omega) hc
  let G := P.globals.size
  let os : List O := .cells ((List.range (cap * 5)).map fun j => (F (j / 5)).mcell (G + 1 + j / 5) (j % 5)) (eOf W a) false :: (List.range cap).map fun i => (F i).inp.row W
  have hos : os.length = cap + 1 := by simp [os]
  let μ : Mu := fun i => if i < G then some ⟨i, 0, 0⟩ else if i = G then some ⟨a.block, a.off, cap * 5⟩ else if i < G + 1 + cap then (F (i - (G + 1))).inp.pl else none
  have hrow0 : (rowsT (deadT G) os G).get G = some (.cells ((List.range (cap * 5)).map fun j => (F (j / 5)).mcell (G + 1 + j / 5) (j % 5)) (eOf W a) false) := by
    rw [rowsT_get, if_pos ⟨Nat.le_refl _, by omega⟩]; simp [os]
  have hrowi : ∀ i, i < cap → (rowsT (deadT G) os G).get (G + 1 + i) = some ((F i).inp.row W) := fun i hi => by
    rw [rowsT_get, if_pos ⟨by omega, by omega⟩, show G + 1 + i - G = i + 1 by omega]
    simp [os, hi]
  have hrowg : ∀ i, i < G → (rowsT (deadT G) os G).get i = some .dead := fun i hi => by
    rw [rowsT_get, if_neg (by omega)]; exact deadT_get _ _ hi
  have hvr : ∀ i t, i < cap → t < 5 → VR μ ((F i).mcell (G + 1 + i) t) ((F i).cell t) := by
    intro i t hic ht
    have hmu : μ (G + 1 + i) = (F i).inp.pl := by
      simp only [μ]
      rw [if_neg (by omega), if_neg (by omega), if_pos (by omega), show G + 1 + i - (G + 1) = i by omega]
    have : t = 0 ∨ t = 1 ∨ t = 2 ∨ t = 3 ∨ t = 4 := by omega
    rcases this with rfl | rfl | rfl | rfl | rfl
    · simp [StgV.mcell, StgV.cell, VR]
    · simp [StgV.mcell, StgV.cell, VR]
    · simp [StgV.mcell, StgV.cell, VR]
    · have hok := hi i hic
      simp only [StgV.mcell, StgV.cell]
      cases hq : (F i).inp with
      | nil => simp [InpV.mv, InpV.val, VR]
      | emp b => simp [InpV.mv, InpV.val, VR]
      | sl b l c f =>
        rw [hq] at hok hmu
        obtain ⟨g1, g2, g3⟩ := hok
        obtain ⟨_, _, _, _, hs2, _, _, _⟩ := cells_of g2 g3
        simp only [InpV.mv, InpV.val, VR]
        refine ⟨⟨b.block, b.off, c⟩, c, hmu, ?_, g1, by simp, fun k hk => by simpa using hk, fun h => by cases h⟩
        obtain ⟨b1, b2, b3⟩ := b
        simp only at hs2
        subst hs2
        simp
    · simp [StgV.mcell, StgV.cell, VR]
  have hone : ∀ i t, t < 5 → ((F i).cell t).oneCell' = true := by
    intro i t ht
    have : t = 0 ∨ t = 1 ∨ t = 2 ∨ t = 3 ∨ t = 4 := by omega
    rcases this with rfl | rfl | rfl | rfl | rfl
    · rfl
    · rfl
    · rfl
    · simp only [StgV.cell]; cases (F i).inp <;> rfl
    · rfl
  refine ⟨⟨rowsT (deadT G) os G, G + 1 + cap, []⟩, μ, .slice G 0 len (some cap) 5, ⟨fun i l hl' => ?_, fun i l hl' => ?_, fun i j l l' o o' hi hj hne ho ho' hw hlv => ?_, fun g hg => ⟨0, by simp only [μ]; rw [if_pos hg]⟩⟩, rfl, ?_, ?_⟩
  · simp only [μ] at hl'
    split at hl'
    · rename_i h; simp only [Option.some.injEq] at hl'; subst hl'
      exact ⟨by show i < G + 1 + cap; omega, by simp only; omega⟩
    · split at hl'
      · simp only [Option.some.injEq] at hl'; subst hl'
        exact ⟨by show i < G + 1 + cap; omega, hlt⟩
      · split at hl'
        · rename_i h1 h2 h3
          refine ⟨h3, ?_⟩
          have hok := hi (i - (G + 1)) (by omega)
          cases hq : (F (i - (G + 1))).inp with
          | nil => rw [hq] at hl'; cases hl'
          | emp b => rw [hq] at hl'; cases hl'
          | sl b l2 c f =>
            rw [hq] at hl' hok
            simp only [InpV.pl, Option.some.injEq] at hl'; subst hl'
            obtain ⟨g1, g2, g3⟩ := hok
            obtain ⟨_, _, _, _, _, _, _, hlt2⟩ := cells_of g2 g3
            exact hlt2
        · cases hl'
  · simp only [μ] at hl'
    split at hl'
    · rename_i h
      exact ⟨.dead, hrowg i h, trivial⟩
    · split at hl'
      · rename_i h1 h2
        simp only [Option.some.injEq] at hl'; subst hl'; subst h2
        refine ⟨_, hrow0, c', lo, hi', hb, hend, by simp, fun j v hv => ?_, fun j x hj hx => ?_, fun h => by cases h⟩
        · have hj : j < cap * 5 := by have := (List.getElem?_eq_some_iff.1 hv).1; simpa using this
          have hv' : v = (F (j / 5)).mcell (G + 1 + j / 5) (j % 5) := by simpa [hj] using hv.symm
          subst hv'
          exact ⟨_, hcell j hj, hvr _ _ (by omega) (Nat.mod_lt _ (by decide))⟩
        · have hj : j < cap * 5 := hj
          rw [hcell j hj] at hx
          simp only [Option.some.injEq] at hx
          subst hx
          exact hone _ _ (Nat.mod_lt _ (by decide))
      · split at hl'
        · rename_i h1 h2 h3
          have hok := hi (i - (G + 1)) (by omega)
          have hr := hrowi (i - (G + 1)) (by omega)
          rw [show G + 1 + (i - (G + 1)) = i by omega] at hr
          cases hq : (F (i - (G + 1))).inp with
          | nil => rw [hq] at hl'; cases hl'
          | emp b => rw [hq] at hl'; cases hl'
          | sl b l2 c f =>
            rw [hq] at hl' hok hr
            simp only [InpV.pl, Option.some.injEq] at hl'; subst hl'
            obtain ⟨g1, g2, g3⟩ := hok
            obtain ⟨c2, lo2, hi2, hb2, _, hcell2, hend2, _⟩ := cells_of g2 g3
            refine ⟨_, hr, c2, lo2, hi2, hb2, hend2, by simp, fun j v hv => ?_, fun j x hj hx => ?_, fun h => by cases h⟩
            · have hj : j < c := by have := (List.getElem?_eq_some_iff.1 hv).1; simpa using this
              have hv' : v = .str (f j).data.toList := by simpa [hj] using hv.symm
              subst hv'
              exact ⟨_, hcell2 j hj, by simp [VR]⟩
            · have hj : j < c := hj
              rw [hcell2 j hj] at hx
              simp only [Option.some.injEq] at hx
              subst hx; rfl
        · cases hl'
  · have hd : o.wr = false := by
      rcases Nat.lt_or_ge i G with h | h
      · rw [hrowg i h] at ho; cases ho; rfl
      · by_cases h2 : i = G
        · subst h2
          rw [hrow0] at ho; cases ho; rfl
        · have h3 : i < G + 1 + cap := by
            apply Nat.lt_of_not_le; intro hcc
            simp only [μ] at hi
            rw [if_neg (by omega), if_neg h2, if_neg (by omega)] at hi; cases hi
          have hr := hrowi (i - (G + 1)) (by omega)
          rw [show G + 1 + (i - (G + 1)) = i by omega] at hr
          simp only at ho
          rw [hr] at ho
          simp only [Option.some.injEq] at ho
          subst ho
          cases (F (i - (G + 1))).inp <;> rfl
    rw [hd] at hw; cases hw
  · simp only [VR]
    refine ⟨⟨a.block, a.off, cap * 5⟩, cap, by simp [μ], ?_, hl, by simp, fun k hk => by simpa using hk, fun h => by cases h⟩
    obtain ⟨b, off, sp⟩ := a
    simp only at hs
    subst hs
    simp
  · refine ⟨(List.range len).map fun i => stgC (F i).stg ((F i).inp.mv (G + 1 + i)), .inr ⟨G, 0, some cap, _, _, false, by simp, by show G < G + 1 + cap; omega, hrow0, fun j x hj => ?_, by simp; omega, fun k hk => by simp at hk ⊢; omega⟩, by simp, fun j s hj => ?_⟩
    · have hjl : j < len := by have := lt_of_get hj; simpa using this
      have hx : x = stgC (F j).stg ((F j).inp.mv (G + 1 + j)) := by simpa [hjl] using hj.symm
      subst hx
      unfold slc
      rw [if_pos (by simp; omega)]
      congr 1
      apply List.ext_getElem?
      intro t
      rw [List.getElem?_take]
      by_cases ht : t < 5
      · rw [if_pos ht, List.getElem?_drop]
        have h1 : (0 + j * 5 + t) / 5 = j := by omega
        have h2 : (0 + j * 5 + t) % 5 = t := by omega
        have h3 : 0 + j * 5 + t < cap * 5 := by omega
        rw [List.getElem?_map, List.getElem?_range h3]
        simp only [Option.map_some, h1, h2]
        have : t = 0 ∨ t = 1 ∨ t = 2 ∨ t = 3 ∨ t = 4 := by omega
        rcases this with rfl | rfl | rfl | rfl | rfl <;> rfl
      · rw [if_neg ht, List.getElem?_eq_none (by simp [stgC]; omega)]
    · have hjl : j < len := by have := lt_of_get hj; simpa using this
      have hx : s = (F j).stg := by simpa [hjl] using hj.symm
      subst hx
      refine ⟨(F j).inp.mv (G + 1 + j), by simp [hjl], ?_⟩
      have hok := hi j (by omega)
      have hr := hrowi j (by omega)
      simp only [StgV.stg]
      cases hq : (F j).inp with
      | nil => exact .inl ⟨rfl, .inl rfl⟩
      | emp b => exact .inl ⟨rfl, .inr rfl⟩
      | sl b l c f =>
        rw [hq] at hok hr
        obtain ⟨g1, g2, g3⟩ := hok
        refine .inr ⟨G + 1 + j, 0, some c, _, _, false, by simp [InpV.mv, strs, InpV.strs], by show G + 1 + j < G + 1 + cap; omega, hr, fun k hk => ?_, by simp [strs, InpV.strs]; omega, fun k hk => by simp [strs, InpV.strs] at hk ⊢; omega⟩
        have hk2 : k < l := by simpa [strs, InpV.strs] using hk
        simp [strs, InpV.strs, hk2, show k < c by omega]

end Go.Mx
/- From a contract to a call of the Go model. -/
namespace Go.Mx
open Go

/-- What a run of a function's body gives for a call, from whatever heap. -/
theorem run_calls_at {P : Program} {tbl : Nat → Option MFunc} {G : Nat} (hP : ProgOk P tbl G) {x : CallT} (hx : CallOk P x) {F d : Nat} {f : FuncId} {mf : MFunc} (hf : cFunc P f = some mf) {args : List V} {xs : List Value} {v : V} {y : Value} {S : St} {μ : Mu} {W : World}
    (h : Gives (funcRun mf (mcode (mcallX x tbl F d) F) args S) v) (hh : HRel P μ W S) (hS : S.w = []) (hargs : VRs μ args xs) (hv : ∀ μ z, VR μ v z → z = y) :
    Calls P f ⟨xs⟩ W fun e W' => e = .returned y ∧ RowKit.Below W.heap.size W W' := by
  obtain ⟨s, hrun, hw⟩ := h.ex
  obtain ⟨fn, hfn, _⟩ := cFunc_fn hf
  have ih := mcallX_ok hP.m hP.e hP.t hx F d
  have := func_ok (code_ok ih hP.e (draw_ok hP.m hP.e ih) (sel_ok ih hP.e) (range_ok ih) F) hfn hf hh hargs hrun
  refine callsIn_wide.1 (CallsIn.mono (F := Fence.wide) this fun e W' he => ?_)
  cases e with
  | returned z =>
    obtain ⟨μ', ws, h1, h2⟩ := he
    have hws : ws = [] := by have := h2.wl; rw [hw, hS] at this; simpa using this.symm
    subst hws
    exact ⟨by rw [hv _ _ h1], h2.chg.os, h2.chg.tape, h2.chg.output, h2.chg.size, fun k hk => h2.chg.block k hk fun i hi => by cases hi⟩
  | panicked _ => exact he.elim
  | outgrown => exact he.elim

theorem Cx.calls {P : Program} {C : Cx} {G : Nat} (hP : ProgOk P C.tbl G) (hx : CallOk P C.x) {f : Nat} {mf : MFunc} (hf : cFunc P f = some mf) (ht : C.tbl f = some mf) {args : List V} {xs : List Value} {v : V} {y : Value} {S : St} {μ : Mu} {W : World}
    (hn : ∀ st, C.x (.func f [] []) args st = none) (h : Fn C f args S.h S.n (fun u _ _ => u = v)) (hh : HRel P μ W S) (hS : S.w = []) (hargs : VRs μ args xs) (hv : ∀ μ z, VR μ v z → z = y) :
    Calls P f ⟨xs⟩ W fun e W' => e = .returned y ∧ RowKit.Below W.heap.size W W' := by
  obtain ⟨u, st', hc, hw, hk, hu⟩ := (h []).ex
  subst hu
  have hS' : (⟨S.h, S.n, []⟩ : St) = S := by obtain ⟨a, b, c⟩ := S; simp only at hS; subst hS; rfl
  rw [hS'] at hc
  rw [Cx.call_eq] at hc
  unfold orCall at hc
  rw [hn] at hc
  simp only at hc
  obtain ⟨n, hn'⟩ := callStep_need (q := fun n => mcode (C.at n) n) (fun n m hnm => mcode_mono (Cx.at_mono hnm) n m hnm) (fun _ _ _ _ _ e => Cx.code_need e) hc
  unfold callStep at hn'
  simp only [ht, List.nil_append, List.append_nil] at hn'
  exact run_calls_at (F := n) (d := n) hP hx hf ⟨_, hn', hw⟩ hh hS hargs hv

end Go.Mx
