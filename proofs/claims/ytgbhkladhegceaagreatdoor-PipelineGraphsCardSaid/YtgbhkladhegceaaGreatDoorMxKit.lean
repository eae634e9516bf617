/-
  The frame of a call: what a call does over a small heap, it does over every heap that holds a copy of it, under other ids.
-/
import Derived.Test.YtgbhkladhegceaaGreatDoorMxRun
import Derived.Test.YtgbhkladhegceaaGreatDoorMxDrB
set_option linter.all false
namespace Go.Mx
open Go

mutual
/-- A value under other ids. -/
def V.ren (ρ : Nat → Option Nat) : V → Option V
  | .bool b => some (.bool b)
  | .int k n => some (.int k n)
  | .flt k n => some (.flt k n)
  | .str s => some (.str s)
  | .nilptr => some .nilptr
  | .ptr i o => match ρ i with
    | some i => some (.ptr i o)
    | none => none
  | .nilslice => some .nilslice
  | .slice i o len cap sz => match ρ i with
    | some i => some (.slice i o len cap sz)
    | none => none
  | .empty => some .empty
  | .nilmap => some .nilmap
  | .map i => match ρ i with
    | some i => some (.map i)
    | none => none
  | .nilchan => some .nilchan
  | .chan i => match ρ i with
    | some i => some (.chan i)
    | none => none
  | .func f a c => match V.rens ρ a, V.rens ρ c with
    | some a, some c => some (.func f a c)
    | _, _ => none
  | .yield i => match ρ i with
    | some i => some (.yield i)
    | none => none
  | .nilfunc => some .nilfunc
  | .iface t v => match V.ren ρ v with
    | some v => some (.iface t v)
    | none => none
  | .niliface => some .niliface
  | .agg l => match V.rens ρ l with
    | some l => some (.agg l)
    | none => none
  | .tup l => match V.rens ρ l with
    | some l => some (.tup l)
    | none => none
def V.rens (ρ : Nat → Option Nat) : List V → Option (List V)
  | [] => some []
  | v :: vs => match V.ren ρ v, V.rens ρ vs with
    | some v, some vs => some (v :: vs)
    | _, _ => none
end

mutual
theorem VR.ren {μ μ' : Mu} {ρ : Nat → Option Nat} (h : ∀ i i', ρ i = some i' → μ i = μ' i') : ∀ (v v' : V) (x : Value), V.ren ρ v = some v' → (VR μ v x ↔ VR μ' v' x)
  | .bool _, v', x, hv => by simp only [V.ren, Option.some.injEq] at hv; subst hv; simp only [VR]
  | .int _ _, v', x, hv => by simp only [V.ren, Option.some.injEq] at hv; subst hv; simp only [VR]
  | .flt _ _, v', x, hv => by simp only [V.ren, Option.some.injEq] at hv; subst hv; simp only [VR]
  | .str _, v', x, hv => by simp only [V.ren, Option.some.injEq] at hv; subst hv; simp only [VR]
  | .nilptr, v', x, hv => by simp only [V.ren, Option.some.injEq] at hv; subst hv; simp only [VR]
  | .ptr _ _, v', x, hv => by
    simp only [V.ren] at hv; split at hv
    · rename_i i' hi; simp only [Option.some.injEq] at hv; subst hv; simp only [VR, h _ _ hi]
    · cases hv
  | .nilslice, v', x, hv => by simp only [V.ren, Option.some.injEq] at hv; subst hv; simp only [VR]
  | .slice _ _ _ _ _, v', x, hv => by
    simp only [V.ren] at hv; split at hv
    · rename_i i' hi; simp only [Option.some.injEq] at hv; subst hv; simp only [VR, h _ _ hi]
    · cases hv
  | .empty, v', x, hv => by simp only [V.ren, Option.some.injEq] at hv; subst hv; simp only [VR]
  | .nilmap, v', x, hv => by simp only [V.ren, Option.some.injEq] at hv; subst hv; simp only [VR]
  | .map _, v', x, hv => by
    simp only [V.ren] at hv; split at hv
    · rename_i i' hi; simp only [Option.some.injEq] at hv; subst hv; simp only [VR, h _ _ hi]
    · cases hv
  | .nilchan, v', x, hv => by simp only [V.ren, Option.some.injEq] at hv; subst hv; simp only [VR]
  | .chan _, v', x, hv => by
    simp only [V.ren] at hv; split at hv
    · rename_i i' hi; simp only [Option.some.injEq] at hv; subst hv; simp only [VR, h _ _ hi]
    · cases hv
  | .func _ a c, v', x, hv => by
    simp only [V.ren] at hv; split at hv
    · rename_i a' c' ha hc; simp only [Option.some.injEq] at hv; subst hv
      simp only [VR, fun xs => VRs.ren h a a' xs ha, fun xs => VRs.ren h c c' xs hc]
    · cases hv
  | .yield _, v', x, hv => by
    simp only [V.ren] at hv; split at hv
    · rename_i i' hi; simp only [Option.some.injEq] at hv; subst hv; simp only [VR, h _ _ hi]
    · cases hv
  | .nilfunc, v', x, hv => by simp only [V.ren, Option.some.injEq] at hv; subst hv; simp only [VR]
  | .iface _ v, v', x, hv => by
    simp only [V.ren] at hv; split at hv
    · rename_i u hu; simp only [Option.some.injEq] at hv; subst hv; simp only [VR, fun y => VR.ren h v u y hu]
    · cases hv
  | .niliface, v', x, hv => by simp only [V.ren, Option.some.injEq] at hv; subst hv; simp only [VR]
  | .agg l, v', x, hv => by
    simp only [V.ren] at hv; split at hv
    · rename_i l' hl; simp only [Option.some.injEq] at hv; subst hv; simp only [VR, fun xs => VRs.ren h l l' xs hl]
    · cases hv
  | .tup l, v', x, hv => by
    simp only [V.ren] at hv; split at hv
    · rename_i l' hl; simp only [Option.some.injEq] at hv; subst hv; simp only [VR, fun xs => VRs.ren h l l' xs hl]
    · cases hv
theorem VRs.ren {μ μ' : Mu} {ρ : Nat → Option Nat} (h : ∀ i i', ρ i = some i' → μ i = μ' i') : ∀ (vs vs' : List V) (xs : List Value), V.rens ρ vs = some vs' → (VRs μ vs xs ↔ VRs μ' vs' xs)
  | [], vs', xs, hv => by simp only [V.rens, Option.some.injEq] at hv; subst hv; simp only [VRs]
  | v :: vs, vs', xs, hv => by
    simp only [V.rens] at hv; split at hv
    · rename_i u us hu hus; simp only [Option.some.injEq] at hv; subst hv
      simp only [VRs, fun y => VR.ren h v u y hu, fun ys => VRs.ren h vs us ys hus]
    · cases hv
end

theorem V.rens_length {ρ : Nat → Option Nat} : ∀ {vs vs' : List V}, V.rens ρ vs = some vs' → vs'.length = vs.length
  | [], vs', h => by simp only [V.rens, Option.some.injEq] at h; subst h; rfl
  | v :: vs, vs', h => by
    simp only [V.rens] at h; split at h
    · rename_i u us hu hus; simp only [Option.some.injEq] at h; subst h; simp [V.rens_length hus]
    · cases h

theorem V.rens_get {ρ : Nat → Option Nat} : ∀ {vs vs' : List V} {j : Nat} {v' : V}, V.rens ρ vs = some vs' → vs'[j]? = some v' → ∃ v, vs[j]? = some v ∧ V.ren ρ v = some v'
  | [], vs', j, v', h, hj => by simp only [V.rens, Option.some.injEq] at h; subst h; simp at hj
  | v :: vs, vs', j, v', h, hj => by
    simp only [V.rens] at h; split at h
    · rename_i u us hu hus; simp only [Option.some.injEq] at h; subst h
      cases j with
      | zero => simp at hj; subst hj; exact ⟨v, by simp, hu⟩
      | succ j => simpa using V.rens_get hus (j := j) (by simpa using hj)
    · cases h

theorem V.rens_get' {ρ : Nat → Option Nat} : ∀ {vs vs' : List V} {j : Nat} {v : V}, V.rens ρ vs = some vs' → vs[j]? = some v → ∃ v', vs'[j]? = some v' ∧ V.ren ρ v = some v'
  | [], vs', j, v', h, hj => by simp at hj
  | v :: vs, vs', j, v', h, hj => by
    simp only [V.rens] at h; split at h
    · rename_i u us hu hus; simp only [Option.some.injEq] at h; subst h
      cases j with
      | zero => simp at hj; subst hj; exact ⟨u, by simp, hu⟩
      | succ j => simpa using V.rens_get' hus (j := j) (by simpa using hj)
    · cases h

theorem V.ren_isY {ρ : Nat → Option Nat} {v v' : V} (h : V.ren ρ v = some v') : v'.isY = v.isY := by
  cases v <;> simp only [V.ren] at h <;> (try split at h) <;> simp only [Option.some.injEq, reduceCtorEq] at h <;> subst h <;> rfl

def renEs (ρ : Nat → Option Nat) : List (V × V) → Option (List (V × V))
  | [] => some []
  | (k, v) :: es => match V.ren ρ k, V.ren ρ v, renEs ρ es with
    | some k, some v, some es => some ((k, v) :: es)
    | _, _, _ => none

theorem MapR.ren {μ μ' : Mu} {ρ : Nat → Option Nat} (h : ∀ i i', ρ i = some i' → μ i = μ' i') : ∀ (es es' : List (V × V)) (xs : List MapEntry) (i : Nat), renEs ρ es = some es' → (MapR μ es xs i ↔ MapR μ' es' xs i)
  | [], es', xs, i, he => by simp only [renEs, Option.some.injEq] at he; subst he; simp only [MapR]
  | (k, v) :: es, es', xs, i, he => by
    simp only [renEs] at he; split at he
    · rename_i k' v' us hk hv hus; simp only [Option.some.injEq] at he; subst he
      simp only [MapR, fun y => VR.ren h k k' y hk, fun y => VR.ren h v v' y hv, fun ys i => MapR.ren h es us ys i hus]
    · cases he

/-- An object under other ids. -/
def O.ren (ρ : Nat → Option Nat) : O → Option O
  | .cells c e rw => match V.rens ρ c with
    | some c => some (.cells c e rw)
    | none => none
  | .map es => match renEs ρ es with
    | some es => some (.map es)
    | none => none
  | .chan cap buf => match V.rens ρ buf with
    | some buf => some (.chan cap buf)
    | none => none
  | .siter s pos => some (.siter s pos)
  | .defs o => some (.defs o)
  | .loop _ => none
  | .dead => some .dead

theorem O.ren_wr {ρ : Nat → Option Nat} {o o' : O} (h : o.ren ρ = some o') : o'.wr = o.wr := by
  cases o <;> simp only [O.ren] at h <;> (try split at h) <;> simp only [Option.some.injEq, reduceCtorEq] at h <;> subst h <;> rfl

theorem O.ren_live {ρ : Nat → Option Nat} {o o' : O} (h : o.ren ρ = some o') : o'.live = o.live := by
  cases o <;> simp only [O.ren] at h <;> (try split at h) <;> simp only [Option.some.injEq, reduceCtorEq] at h <;> subst h <;> rfl

theorem OM.ren {P : Program} {μ μ' : Mu} {w : World} {ρ : Nat → Option Nat} (h : ∀ i i', ρ i = some i' → μ i = μ' i') {o o' : O} {l : L} (ho : o.ren ρ = some o') : OM P μ w o l ↔ OM P μ' w o' l := by
  cases o with
  | cells c e rw =>
    simp only [O.ren] at ho; split at ho
    · rename_i c' hc; simp only [Option.some.injEq] at ho; subst ho
      constructor
      · rintro ⟨d, lo, hi, h1, h2, h3, h4, h5⟩
        refine ⟨d, lo, hi, h1, h2, by rw [V.rens_length hc]; exact h3, fun j v' hv' => ?_, h5⟩
        obtain ⟨v, hv, hr⟩ := V.rens_get hc hv'
        obtain ⟨x, hx, hxv⟩ := h4 j v hv
        exact ⟨x, hx, (VR.ren h v v' x hr).1 hxv⟩
      · rintro ⟨d, lo, hi, h1, h2, h3, h4, h5⟩
        refine ⟨d, lo, hi, h1, h2, by rw [V.rens_length hc] at h3; exact h3, fun j v hv => ?_, h5⟩
        obtain ⟨v', hv', hr⟩ := V.rens_get' hc hv
        obtain ⟨x, hx, hxv⟩ := h4 j v' hv'
        exact ⟨x, hx, (VR.ren h v v' x hr).2 hxv⟩
    · cases ho
  | map es =>
    simp only [O.ren] at ho; split at ho
    · rename_i es' he; simp only [Option.some.injEq] at ho; subst ho
      simp only [OM, fun xs i => MapR.ren h es es' xs i he]
    · cases ho
  | chan cap buf =>
    simp only [O.ren] at ho; split at ho
    · rename_i c' hc; simp only [Option.some.injEq] at ho; subst ho
      simp only [OM, fun xs => VRs.ren h buf c' xs hc]
    · cases ho
  | siter s pos => simp only [O.ren, Option.some.injEq] at ho; subst ho; simp only [OM]
  | loop R => simp only [O.ren, reduceCtorEq] at ho
  | defs b => simp only [O.ren, Option.some.injEq] at ho; subst ho; simp only [OM]
  | dead => simp only [O.ren, Option.some.injEq] at ho; subst ho; simp only [OM]

/-- What a small heap may say of an object of the great one: nothing; the same; or the same, not to be written. -/
def Less (ρ : Nat → Option Nat) (o O' : O) : Prop :=
  o = .dead ∨ o.ren ρ = some O' ∨ ∃ c e c', o = .cells c e false ∧ V.rens ρ c = some c' ∧ O' = .cells c' e true

theorem Less.om {P : Program} {μ μ' : Mu} {w : World} {ρ : Nat → Option Nat} (h : ∀ i i', ρ i = some i' → μ i = μ' i') {o o' : O} {l : L} (ho : Less ρ o o') (hm : OM P μ' w o' l) : OM P μ w o l := by
  rcases ho with rfl | ho | ⟨c, e, c', rfl, hc, rfl⟩
  · trivial
  · exact (OM.ren h ho).2 hm
  · have h1 : (O.cells c e true).ren ρ = some (.cells c' e true) := by simp only [O.ren, hc]
    obtain ⟨d, lo, hi, q1, q2, q3, q4, q5, _⟩ := (OM.ren h h1).2 hm
    exact ⟨d, lo, hi, q1, q2, q3, q4, q5, fun hx => by cases hx⟩

theorem Less.wr {ρ : Nat → Option Nat} {o o' : O} (ho : Less ρ o o') (h : o.wr = true) : o'.wr = true ∧ o.ren ρ = some o' := by
  rcases ho with rfl | ho | ⟨c, e, c', rfl, hc, rfl⟩
  · simp [O.wr] at h
  · exact ⟨(O.ren_wr ho).trans h, ho⟩
  · simp [O.wr] at h

theorem Less.live {ρ : Nat → Option Nat} {o o' : O} (ho : Less ρ o o') (h : o.live = true) : o'.live = true := by
  rcases ho with rfl | ho | ⟨c, e, c', rfl, hc, rfl⟩
  · simp [O.live] at h
  · exact (O.ren_live ho).trans h
  · rfl

theorem O.wr_live {o : O} (h : o.wr = true) : o.live = true := by cases o <;> simp_all [O.wr, O.live]

/-- What a call comes to, from whatever memory its heap stands for. -/
def SemOk (P : Program) (g : V) (args : List V) (st : St) (v : V) (st' : St) : Prop :=
  ∀ (μ : Mu) (w : World) (G : Value) (xs : List Value), HRel P μ w st → VR μ g G → VRs μ args xs →
    InvokeOk P g.isY G ⟨xs⟩ w fun x w' => ∃ μ' ws, VR μ' v x ∧ Stp P μ w st μ' w' st' ws

theorem callOk_sem {P : Program} {call : CallT} : CallOk P call ↔ ∀ g args st v st', call g args st = some (v, st') → SemOk P g args st v st' := Iff.rfl

theorem InvokeOk.mono {P : Program} {y : Bool} {G : Value} {xs : Array Value} {w : World} {R R' : Value → World → Prop} (h : InvokeOk P y G xs w R) (hR : ∀ x w', R x w' → R' x w') : InvokeOk P y G xs w R' := by
  obtain ⟨d, hd, hrest⟩ := h
  refine ⟨d, hd, ?_⟩
  rcases hrest with ⟨hy, f, args, hinv, hci⟩ | ⟨hy, l, f, tmps, asg, bod, hinv, hri⟩
  · refine .inl ⟨hy, f, args, hinv, CallsIn.mono (F := Fence.wide) hci fun e w' he => ?_⟩
    cases e with
    | returned x => exact hR x w' he
    | panicked _ => exact he.elim
    | outgrown => exact he.elim
  · refine .inr ⟨hy, l, f, tmps, asg, bod, hinv, RoundIn.mono (F := Fence.wide) hri fun e w' he => ?_⟩
    cases e with
    | returned x => exact hR x w' he
    | panicked _ => exact he.elim
    | outgrown => exact he.elim

/-- How the great heap holds the small one: before (s, S) and behind (s', S') the call; 'W': the great heap's ids that were written. -/
structure Framed (P : Program) (σ ρ : Nat → Option Nat) (W : List Nat) (s s' S S' : St) : Prop where
  dom : ∀ i i', σ i = some i' → i < s.n ∧ i' < S.n
  inj : ∀ i j i', σ i = some i' → σ j = some i' → i = j
  glob : ∀ g, g < P.globals.size → σ g = some g
  obj : ∀ i i', σ i = some i' → ∃ o O', s.h.get i = some o ∧ Less σ o O' ∧ (S.h.get i' = some O' ∨ o = .dead)
  old : ∀ i, i < s.n → ρ i = σ i
  new : ∀ i i', s.n ≤ i → ρ i = some i' → S.n ≤ i' ∧ i' < S'.n ∧ i < s'.n
  ninj : ∀ i j i', s.n ≤ i → s.n ≤ j → ρ i = some i' → ρ j = some i' → i = j
  full : ∀ i', S.n ≤ i' → i' < S'.n → ∃ i, s.n ≤ i ∧ ρ i = some i'
  nle : S.n ≤ S'.n
  w0 : s.w = []
  W1 : ∀ i i', i ∈ s'.w → σ i = some i' → i' ∈ W
  W2 : ∀ j, j ∈ W → ∃ i, i ∈ s'.w ∧ σ i = some j
  wl : S'.w = W ++ S.w
  keep : ∀ j, j < S.n → j ∉ W → S'.h.get j = S.h.get j
  wr : ∀ i i', i ∈ s'.w → σ i = some i' → ∃ o O', s'.h.get i = some o ∧ S'.h.get i' = some O' ∧ (O' = .dead ∨ o.ren ρ = some O')
  obn : ∀ i i', s.n ≤ i → ρ i = some i' → ∃ o O', s'.h.get i = some o ∧ S'.h.get i' = some O' ∧ (O' = .dead ∨ o.ren ρ = some O')

section
variable {P : Program} {σ ρ : Nat → Option Nat} {W : List Nat} {s s' S S' : St}

theorem Framed.hrel (F : Framed P σ ρ W s s' S S') {μ : Mu} {w : World} (hh : HRel P μ w S) : HRel P (fun i => (σ i).bind μ) w s := by
  have hb : ∀ i l, (σ i).bind μ = some l → ∃ i', σ i = some i' ∧ μ i' = some l := fun i l h => by
    cases hs : σ i with
    | none => rw [hs] at h; cases h
    | some i' => rw [hs] at h; exact ⟨i', rfl, h⟩
  refine ⟨fun i l hl => ?_, fun i l hl => ?_, fun i j l l' o o' hi hj hne ho ho' hw hlv => ?_, fun g hg => ?_⟩
  · obtain ⟨i', h1, h2⟩ := hb i l hl
    exact ⟨(F.dom i i' h1).1, (hh.dom i' l h2).2⟩
  · obtain ⟨i', h1, h2⟩ := hb i l hl
    obtain ⟨o, O', g1, g2, g3⟩ := F.obj i i' h1
    refine ⟨o, g1, ?_⟩
    rcases g3 with g3 | rfl
    · obtain ⟨O2, q1, q2⟩ := hh.obj i' l h2
      rw [g3] at q1; cases q1
      exact Less.om (fun i i' hi => by simp [hi]) g2 q2
    · trivial
  · obtain ⟨i', h1, h2⟩ := hb i l hi
    obtain ⟨j', h3, h4⟩ := hb j l' hj
    obtain ⟨o1, O1, a1, a2, a3⟩ := F.obj i i' h1
    obtain ⟨o2, O2, b1, b2, b3⟩ := F.obj j j' h3
    rw [ho] at a1; cases a1
    rw [ho'] at b1; cases b1
    have a3' : S.h.get i' = some O1 := a3.resolve_right fun e => by subst e; simp [O.wr] at hw
    have b3' : S.h.get j' = some O2 := b3.resolve_right fun e => by subst e; simp [O.live] at hlv
    refine hh.inj i' j' l l' O1 O2 h2 h4 (fun e => hne ?_) a3' b3' (a2.wr hw).1 (b2.live hlv)
    subst e; exact F.inj i j i' h1 h3
  · obtain ⟨t, ht⟩ := hh.glob g hg
    exact ⟨t, by simp [F.glob g hg, ht]⟩

/-- The step over the small heap, as one over the great heap. -/
theorem Framed.stp (F : Framed P σ ρ W s s' S S') {μ : Mu} {w w' : World} (hh : HRel P μ w S) {μ' : Mu} {ws : List Nat} (h : Stp P (fun i => (σ i).bind μ) w s μ' w' s' ws) :
    ∃ μ2, Stp P μ w S μ2 w' S' W ∧ ∀ i i', ρ i = some i' → μ' i = μ2 i' := by
  have hws : s'.w = ws := by have := h.wl; rw [F.w0] at this; simpa using this
  -- the new places
  have hinv : ∃ τ : Nat → Nat, ∀ i', S.n ≤ i' → i' < S'.n → s.n ≤ τ i' ∧ ρ (τ i') = some i' := by
    classical
    refine ⟨fun i' => if hc : ∃ i, s.n ≤ i ∧ ρ i = some i' then hc.choose else 0, fun i' h1 h2 => ?_⟩
    have hc := F.full i' h1 h2
    simp only [dif_pos hc]
    exact hc.choose_spec
  obtain ⟨τ, hτ⟩ := hinv
  let μ2 : Mu := fun i' => if i' < S.n then μ i' else if i' < S'.n then μ' (τ i') else none
  have hold : ∀ i', i' < S.n → μ2 i' = μ i' := fun i' hi => by show (if i' < S.n then _ else _) = _; rw [if_pos hi]
  have hnew : ∀ i', S.n ≤ i' → i' < S'.n → μ2 i' = μ' (τ i') := fun i' h1 h2 => by show (if i' < S.n then _ else _) = _; rw [if_neg (by omega), if_pos h2]
  have hout : ∀ i' l, μ2 i' = some l → i' < S'.n := fun i' l hl => by
    by_cases h1 : i' < S.n
    · exact Nat.lt_of_lt_of_le h1 F.nle
    · by_cases h2 : i' < S'.n
      · exact h2
      · have : μ2 i' = none := by show (if i' < S.n then _ else _) = _; rw [if_neg h1, if_neg h2]
        rw [this] at hl; cases hl
  have hμs : ∀ i, i < s.n → μ' i = (σ i).bind μ := fun i hi => h.ext i hi
  have hρ : ∀ i i', ρ i = some i' → μ' i = μ2 i' := fun i i' hi => by
    by_cases h1 : i < s.n
    · have h2 : σ i = some i' := (F.old i h1).symm.trans hi
      rw [hμs i h1, h2, hold i' (F.dom i i' h2).2]; rfl
    · obtain ⟨g1, g2, _⟩ := F.new i i' (by omega) hi
      obtain ⟨k1, k2⟩ := hτ i' g1 g2
      rw [hnew i' g1 g2, F.ninj i (τ i') i' (by omega) k1 hi k2]
  -- an old id of the great heap: written, or not
  have hwold : ∀ j, j ∈ W → ∃ i, i ∈ ws ∧ σ i = some j ∧ i < s.n ∧ j < S.n := fun j hj => by
    obtain ⟨i, h1, h2⟩ := F.W2 j hj
    exact ⟨i, hws ▸ h1, h2, F.dom i j h2⟩
  -- what was written, was there, and could be written
  have hwas : ∀ i i', i ∈ ws → σ i = some i' → ∃ O', S.h.get i' = some O' ∧ O'.wr = true := fun i i' hi hs => by
    obtain ⟨o, ho, hw⟩ := h.wrt i hi (F.dom i i' hs).1
    obtain ⟨o1, O1, a1, a2, a3⟩ := F.obj i i' hs
    rw [ho] at a1; cases a1
    exact ⟨O1, a3.resolve_right fun e => by subst e; simp [O.wr] at hw, (a2.wr hw).1⟩
  -- the blocks of what was not written
  have hblk : ∀ j l, j < S.n → j ∉ W → μ j = some l → ∀ O', S.h.get j = some O' → O'.live = true → w'.heap[l.b]? = w.heap[l.b]? := fun j l hj hnW hl O' hO hlv => by
    refine h.chg.block l.b (hh.dom j l hl).2 fun i hi li hli => ?_
    cases hs : σ i with
    | none => simp [hs] at hli
    | some i' =>
      simp only [hs, Option.bind_some] at hli
      obtain ⟨O1, q1, q2⟩ := hwas i i' hi hs
      refine hh.inj i' j li l O1 O' hli hl (fun e => hnW ?_) q1 hO q2 hlv
      subst e; exact F.W1 i i' (hws ▸ hi) hs
  -- an object behind the call
  have hobj : ∀ i i' l, ρ i = some i' → μ2 i' = some l → (s.n ≤ i ∨ i ∈ ws) → ∃ o O', s'.h.get i = some o ∧ S'.h.get i' = some O' ∧ (O' = .dead ∨ o.ren ρ = some O') ∧ OM P μ2 w' O' l := fun i i' l hi hl hc => by
    have key : ∃ o O', s'.h.get i = some o ∧ S'.h.get i' = some O' ∧ (O' = .dead ∨ o.ren ρ = some O') := by
      by_cases h1 : i < s.n
      · rcases hc with hc | hc
        · omega
        · exact F.wr i i' (hws ▸ hc) ((F.old i h1).symm.trans hi)
      · exact F.obn i i' (by omega) hi
    obtain ⟨o, O', g1, g2, g3⟩ := key
    refine ⟨o, O', g1, g2, g3, ?_⟩
    rcases g3 with rfl | g3
    · trivial
    · obtain ⟨o2, q1, q2⟩ := h.hr.obj i l ((hρ i i' hi).trans hl)
      rw [g1] at q1; cases q1
      exact (OM.ren hρ g3).1 q2
  -- each id of the great heap that has a place: as it was, or of the small heap
  have hcase : ∀ i' l, μ2 i' = some l → (i' < S.n ∧ i' ∉ W ∧ μ i' = some l ∧ S'.h.get i' = S.h.get i') ∨ ∃ i, ρ i = some i' ∧ μ' i = some l ∧ (s.n ≤ i ∨ i ∈ ws) := fun i' l hl => by
    by_cases h1 : i' < S.n
    · by_cases h2 : i' ∈ W
      · obtain ⟨i, q1, q2, q3, _⟩ := hwold i' h2
        have hr : ρ i = some i' := (F.old i q3).trans q2
        exact .inr ⟨i, hr, (hρ i i' hr).trans hl, .inr q1⟩
      · exact .inl ⟨h1, h2, (hold i' h1) ▸ hl, F.keep i' h1 h2⟩
    · have h2 := hout i' l hl
      obtain ⟨k1, k2⟩ := hτ i' (by omega) h2
      exact .inr ⟨τ i', k2, (hρ _ _ k2).trans hl, .inl k1⟩
  -- the blocks of a kept id and of one of the small heap are apart
  have hapart : ∀ i' l O', i' < S.n → i' ∉ W → μ i' = some l → S.h.get i' = some O' → O'.live = true → ∀ k k' lk, ρ k = some k' → μ' k = some lk → (s.n ≤ k ∨ k ∈ ws) → (O'.wr = true ∨ ∃ o, s'.h.get k = some o ∧ o.wr = true) → l.b ≠ lk.b := by
    intro i' l O' hi hnW hl hO hlv k k' lk hk hlk hc hor
    by_cases h1 : k < s.n
    · have hkw : k ∈ ws := hc.resolve_left (by omega)
      have hs : σ k = some k' := (F.old k h1).symm.trans hk
      obtain ⟨O1, q1, q2⟩ := hwas k k' hkw hs
      have hk2 : μ k' = some lk := by rw [hμs k h1, hs] at hlk; exact hlk
      have hne : k' ≠ i' := fun e => hnW (e ▸ F.W1 k k' (hws ▸ hkw) hs)
      exact (hh.inj k' i' lk l O1 O' hk2 hl hne q1 hO q2 hlv).symm
    · rcases h.new k lk (by omega) hlk with hge | ⟨j, hj, hjn, lj, oj, hlj, hb, hoj, hjw⟩
      · have := (hh.dom i' l hl).2; omega
      · cases hs : σ j with
        | none => simp [hs] at hlj
        | some j' =>
          simp only [hs, Option.bind_some] at hlj
          obtain ⟨O1, q1, q2⟩ := hwas j j' hj hs
          have hne : j' ≠ i' := fun e => hnW (e ▸ F.W1 j j' (hws ▸ hj) hs)
          rw [← hb]
          exact (hh.inj j' i' lj l O1 O' hlj hl hne q1 hO q2 hlv).symm
  refine ⟨μ2, ⟨⟨fun i' l hl => ⟨hout i' l hl, ?_⟩, fun i' l hl => ?_, fun i' j' l l' O1 O2 hi hj hne hO1 hO2 hw hlv => ?_, fun g hg => ?_⟩, hold, F.nle, F.wl, ⟨h.chg.os, h.chg.tape, h.chg.output, h.chg.size, fun b hb hnot => ?_⟩, fun i' l hi' hl => ?_, F.keep, fun i' O' hi' hO => ?_, fun i' h1 h2 => ?_, fun i' hi' _ => ?_⟩, hρ⟩
  · rcases hcase i' l hl with ⟨_, _, g, _⟩ | ⟨i, _, g, _⟩
    · exact Nat.lt_of_lt_of_le (hh.dom i' l g).2 h.chg.size
    · exact (h.hr.dom i l g).2
  · rcases hcase i' l hl with ⟨g1, g2, g3, g4⟩ | ⟨i, g1, g2, g3⟩
    · obtain ⟨O', q1, q2⟩ := hh.obj i' l g3
      refine ⟨O', g4.trans q1, ?_⟩
      cases hlv : O'.live with
      | false => cases O' <;> simp [O.live] at hlv; trivial
      | true =>
        refine OM.congr (w := w) (hblk i' l g1 g2 g3 O' q1 hlv) (q2.mono fun k lk hk => ?_)
        rw [hold k (hh.dom k lk hk).1]; exact hk
    · obtain ⟨o, O', q1, q2, q3, q4⟩ := hobj i i' l g1 hl g3
      exact ⟨O', q2, q4⟩
  · rcases hcase i' l hi with ⟨a1, a2, a3, a4⟩ | ⟨i, a1, a2, a3⟩
    · rw [a4] at hO1
      rcases hcase j' l' hj with ⟨b1, b2, b3, b4⟩ | ⟨j, b1, b2, b3⟩
      · rw [b4] at hO2
        exact hh.inj i' j' l l' O1 O2 a3 b3 hne hO1 hO2 hw hlv
      · exact hapart i' l O1 a1 a2 a3 hO1 (O.wr_live hw) j j' l' b1 b2 b3 (.inl hw)
    · obtain ⟨o1, O1', q1, q2, q3, _⟩ := hobj i i' l a1 hi a3
      rw [hO1] at q2; cases q2
      have q3' : o1.ren ρ = some O1 := q3.resolve_left fun e => by subst e; simp [O.wr] at hw
      have hw1 : o1.wr = true := (O.ren_wr q3').symm.trans hw
      rcases hcase j' l' hj with ⟨b1, b2, b3, b4⟩ | ⟨j, b1, b2, b3⟩
      · rw [b4] at hO2
        exact (hapart j' l' O2 b1 b2 b3 hO2 hlv i i' l a1 a2 a3 (.inr ⟨o1, q1, hw1⟩)).symm
      · obtain ⟨o2, O2', r1, r2, r3, _⟩ := hobj j j' l' b1 hj b3
        rw [hO2] at r2; cases r2
        have r3' : o2.ren ρ = some O2 := r3.resolve_left fun e => by subst e; simp [O.live] at hlv
        refine h.hr.inj i j l l' o1 o2 a2 b2 (fun e => hne ?_) q1 r1 hw1 ((O.ren_live r3').symm.trans hlv)
        subst e; rw [a1] at b1; cases b1; rfl
  · obtain ⟨t, ht⟩ := hh.glob g hg
    exact ⟨t, by rw [hold g (hh.dom g _ ht).1]; exact ht⟩
  · refine h.chg.block b hb fun i hi l hl => ?_
    cases hs : σ i with
    | none => simp [hs] at hl
    | some i' =>
      simp only [hs, Option.bind_some] at hl
      exact hnot i' (F.W1 i i' (hws ▸ hi) hs) l hl
  · have h2 := hout i' l hl
    obtain ⟨k1, k2⟩ := hτ i' hi' h2
    rcases h.new (τ i') l k1 ((hρ _ _ k2).trans hl) with hge | ⟨j, hj, hjn, lj, oj, hlj, hb, hoj, hjw⟩
    · exact .inl hge
    · cases hs : σ j with
      | none => simp [hs] at hlj
      | some j' =>
        simp only [hs, Option.bind_some] at hlj
        obtain ⟨O1, q1, q2⟩ := hwas j j' hj hs
        exact .inr ⟨j', F.W1 j j' (hws ▸ hj) hs, (F.dom j j' hs).2, lj, O1, hlj, hb, q1, q2⟩
  · by_cases hW : i' ∈ W
    · obtain ⟨i, q1, q2, q3, q4⟩ := hwold i' hW
      obtain ⟨O1, r1, r2⟩ := hwas i i' q1 q2
      exact ⟨O1, r1, fun _ => r2, fun _ => O.wr_live r2⟩
    · exact ⟨O', (F.keep i' hi' hW).symm.trans hO, id, id⟩
  · obtain ⟨k1, k2⟩ := hτ i' h1 h2
    obtain ⟨l, hl⟩ := h.full (τ i') k1 (F.new _ _ k1 k2).2.2
    exact ⟨l, (hnew i' h1 h2).trans hl⟩
  · obtain ⟨i, q1, q2, _⟩ := hwold i' hi'
    exact hwas i i' q1 q2

/-- The frame of a call. -/
theorem SemOk.frame {g v : V} {args : List V} (h : SemOk P g args s v s') (F : Framed P σ ρ W s s' S S') {g' v' : V} {args' : List V} (hg : V.ren σ g = some g') (ha : V.rens σ args = some args') (hv : V.ren ρ v = some v') :
    SemOk P g' args' S v' S' := by
  intro μ w G xs hh hG hxs
  have hσ : ∀ i i', σ i = some i' → (fun i => (σ i).bind μ) i = μ i' := fun i i' hi => by simp [hi]
  have := h (fun i => (σ i).bind μ) w G xs (F.hrel hh) ((VR.ren hσ g g' G hg).2 hG) ((VRs.ren hσ args args' xs ha).2 hxs)
  rw [V.ren_isY hg]
  refine this.mono fun x w' ⟨μ', ws, h1, h2⟩ => ?_
  obtain ⟨μ2, k1, k2⟩ := F.stp hh h2
  exact ⟨μ2, W, (VR.ren k2 v v' x hv).1 h1, k1⟩

end

/-- One table of calls after the other. -/
def orCall (a b : CallT) : CallT := fun g args st => match a g args st with
  | some r => some r
  | none => b g args st

theorem CallOk.or {P : Program} {a b : CallT} (ha : CallOk P a) (hb : CallOk P b) : CallOk P (orCall a b) := by
  intro g args st v st' h
  unfold orCall at h
  split at h
  · rename_i r hr
    cases h
    exact ha g args st v st' hr
  · exact hb g args st v st' h

end Go.Mx
/- Calls that are known: a table of runs over small heaps stands in for the runs themselves. -/
namespace Go.Mx
open Go

/-! ## Equality of values and objects, by Booleans -/
def boolEq : Bool → Bool → Bool
  | true, b => b
  | false, true => false
  | false, false => true

def ikNum : IntKind → Nat
  | .i8 => 0 | .i16 => 1 | .i32 => 2 | .i64 => 3 | .u8 => 4 | .u16 => 5 | .u32 => 6 | .u64 => 7

def intEq : Int → Int → Bool
  | .ofNat a, b => match b with
    | .ofNat b => Nat.beq a b
    | .negSucc _ => false
  | .negSucc a, b => match b with
    | .ofNat _ => false
    | .negSucc b => Nat.beq a b

def strEq : List UInt8 → List UInt8 → Bool
  | [], l => match l with
    | [] => true
    | _ :: _ => false
  | a :: xs, l => match l with
    | [] => false
    | b :: ys => match Nat.beq a.toNat b.toNat with
      | true => strEq xs ys
      | false => false

def onatEq : Option Nat → Option Nat → Bool
  | none, b => match b with
    | none => true
    | some _ => false
  | some a, b => match b with
    | none => false
    | some b => Nat.beq a b

theorem boolEq_eq {a b : Bool} (h : boolEq a b = true) : a = b := by cases a <;> cases b <;> simp_all [boolEq]
theorem natEq_eq {a b : Nat} (h : Nat.beq a b = true) : a = b := Nat.eq_of_beq_eq_true h
theorem ikEq_eq {a b : IntKind} (h : Nat.beq (ikNum a) (ikNum b) = true) : a = b := by cases a <;> cases b <;> first | rfl | (exact absurd h (by decide))
theorem intEq_eq {a b : Int} (h : intEq a b = true) : a = b := by
  cases a <;> cases b <;> simp only [intEq, Bool.false_eq_true] at h
  · rw [natEq_eq h]
  · rw [natEq_eq h]
theorem strEq_eq : ∀ {a b : List UInt8}, strEq a b = true → a = b
  | [], [], _ => rfl
  | [], _ :: _, h => by simp [strEq] at h
  | _ :: _, [], h => by simp [strEq] at h
  | a :: xs, b :: ys, h => by
    simp only [strEq] at h
    split at h
    · rename_i e
      rw [strEq_eq h, UInt8.toNat_inj.1 (natEq_eq e)]
    · cases h
theorem onatEq_eq {a b : Option Nat} (h : onatEq a b = true) : a = b := by
  cases a <;> cases b <;> simp only [onatEq, Bool.false_eq_true] at h
  · rfl
  · rw [natEq_eq h]

def fkNum : FloatKind → Nat
  | .f32 => 0 | .f64 => 1
theorem fkEq_eq {a b : FloatKind} (h : Nat.beq (fkNum a) (fkNum b) = true) : a = b := by cases a <;> cases b <;> first | rfl | (exact absurd h (by decide))

def V.isBool (x : Bool) : V → Bool | .bool y => boolEq x y | _ => false
def V.isInt (k : IntKind) (n : Int) : V → Bool | .int k' n' => (match Nat.beq (ikNum k) (ikNum k') with | true => intEq n n' | false => false) | _ => false
def V.isFlt (k : FloatKind) (n : Nat) : V → Bool | .flt k' n' => (match Nat.beq (fkNum k) (fkNum k') with | true => Nat.beq n n' | false => false) | _ => false
def V.isStr (s : List UInt8) : V → Bool | .str t => strEq s t | _ => false
def V.isNilptr : V → Bool | .nilptr => true | _ => false
def V.isPtr (i o : Nat) : V → Bool | .ptr i' o' => (match Nat.beq i i' with | true => Nat.beq o o' | false => false) | _ => false
def V.isNilslice : V → Bool | .nilslice => true | _ => false
def V.isSlice (i o l : Nat) (c : Option Nat) (z : Nat) : V → Bool | .slice i' o' l' c' z' => Nat.beq i i' && Nat.beq o o' && Nat.beq l l' && onatEq c c' && Nat.beq z z' | _ => false
def V.isEmpty : V → Bool | .empty => true | _ => false
def V.isNilmap : V → Bool | .nilmap => true | _ => false
def V.isMap (i : Nat) : V → Bool | .map j => Nat.beq i j | _ => false
def V.isNilchan : V → Bool | .nilchan => true | _ => false
def V.isChan (i : Nat) : V → Bool | .chan j => Nat.beq i j | _ => false
def V.isYield (i : Nat) : V → Bool | .yield j => Nat.beq i j | _ => false
def V.isNilfunc : V → Bool | .nilfunc => true | _ => false
def V.isNiliface : V → Bool | .niliface => true | _ => false

mutual
def V.beq : V → V → Bool
  | .bool x, b => b.isBool x
  | .int k n, b => b.isInt k n
  | .flt k n, b => b.isFlt k n
  | .str s, b => b.isStr s
  | .nilptr, b => b.isNilptr
  | .ptr i o, b => b.isPtr i o
  | .nilslice, b => b.isNilslice
  | .slice i o l c z, b => b.isSlice i o l c z
  | .empty, b => b.isEmpty
  | .nilmap, b => b.isNilmap
  | .map i, b => b.isMap i
  | .nilchan, b => b.isNilchan
  | .chan i, b => b.isChan i
  | .func f a c, b => match b with
    | .func f' a' c' => Nat.beq f f' && V.beqs a a' && V.beqs c c'
    | _ => false
  | .yield i, b => b.isYield i
  | .nilfunc, b => b.isNilfunc
  | .iface t v, b => match b with
    | .iface t' v' => Nat.beq t t' && V.beq v v'
    | _ => false
  | .niliface, b => b.isNiliface
  | .agg l, b => match b with
    | .agg l' => V.beqs l l'
    | _ => false
  | .tup l, b => match b with
    | .tup l' => V.beqs l l'
    | _ => false
def V.beqs : List V → List V → Bool
  | [], l => match l with
    | [] => true
    | _ :: _ => false
  | a :: xs, l => match l with
    | [] => false
    | b :: ys => match V.beq a b with
      | true => V.beqs xs ys
      | false => false
end

mutual
theorem V.beq_eq : ∀ (a b : V), V.beq a b = true → a = b
  | .bool x, b, h => by cases b <;> simp only [V.beq, V.isBool, Bool.false_eq_true] at h; rw [boolEq_eq h]
  | .int k n, b, h => by
    cases b <;> simp only [V.beq, V.isInt, Bool.false_eq_true] at h
    split at h
    · rename_i e; rw [ikEq_eq e, intEq_eq h]
    · cases h
  | .flt k n, b, h => by
    cases b <;> simp only [V.beq, V.isFlt, Bool.false_eq_true] at h
    split at h
    · rename_i e; rw [fkEq_eq e, natEq_eq h]
    · cases h
  | .str s, b, h => by cases b <;> simp only [V.beq, V.isStr, Bool.false_eq_true] at h; rw [strEq_eq h]
  | .nilptr, b, h => by cases b <;> simp only [V.beq, V.isNilptr, Bool.false_eq_true] at h; rfl
  | .ptr i o, b, h => by
    cases b <;> simp only [V.beq, V.isPtr, Bool.false_eq_true] at h
    split at h
    · rename_i e; rw [natEq_eq e, natEq_eq h]
    · cases h
  | .nilslice, b, h => by cases b <;> simp only [V.beq, V.isNilslice, Bool.false_eq_true] at h; rfl
  | .slice i o l c z, b, h => by
    cases b <;> simp only [V.beq, V.isSlice, Bool.false_eq_true, Bool.and_eq_true] at h
    obtain ⟨⟨⟨⟨h1, h2⟩, h3⟩, h4⟩, h5⟩ := h
    rw [natEq_eq h1, natEq_eq h2, natEq_eq h3, onatEq_eq h4, natEq_eq h5]
  | .empty, b, h => by cases b <;> simp only [V.beq, V.isEmpty, Bool.false_eq_true] at h; rfl
  | .nilmap, b, h => by cases b <;> simp only [V.beq, V.isNilmap, Bool.false_eq_true] at h; rfl
  | .map i, b, h => by cases b <;> simp only [V.beq, V.isMap, Bool.false_eq_true] at h; rw [natEq_eq h]
  | .nilchan, b, h => by cases b <;> simp only [V.beq, V.isNilchan, Bool.false_eq_true] at h; rfl
  | .chan i, b, h => by cases b <;> simp only [V.beq, V.isChan, Bool.false_eq_true] at h; rw [natEq_eq h]
  | .func f a c, b, h => by
    cases b <;> simp only [V.beq, Bool.false_eq_true, Bool.and_eq_true] at h
    obtain ⟨⟨h1, h2⟩, h3⟩ := h
    rw [natEq_eq h1, V.beqs_eq _ _ h2, V.beqs_eq _ _ h3]
  | .yield i, b, h => by cases b <;> simp only [V.beq, V.isYield, Bool.false_eq_true] at h; rw [natEq_eq h]
  | .nilfunc, b, h => by cases b <;> simp only [V.beq, V.isNilfunc, Bool.false_eq_true] at h; rfl
  | .iface t v, b, h => by
    cases b <;> simp only [V.beq, Bool.false_eq_true, Bool.and_eq_true] at h
    rw [natEq_eq h.1, V.beq_eq _ _ h.2]
  | .niliface, b, h => by cases b <;> simp only [V.beq, V.isNiliface, Bool.false_eq_true] at h; rfl
  | .agg l, b, h => by cases b <;> simp only [V.beq, Bool.false_eq_true] at h; rw [V.beqs_eq _ _ h]
  | .tup l, b, h => by cases b <;> simp only [V.beq, Bool.false_eq_true] at h; rw [V.beqs_eq _ _ h]
theorem V.beqs_eq : ∀ (a b : List V), V.beqs a b = true → a = b
  | [], [], _ => rfl
  | [], _ :: _, h => by simp [V.beqs] at h
  | _ :: _, [], h => by simp [V.beqs] at h
  | a :: xs, b :: ys, h => by
    simp only [V.beqs] at h
    split at h
    · rename_i e; rw [V.beq_eq a b e, V.beqs_eq xs ys h]
    · cases h
end

def esEq : List (V × V) → List (V × V) → Bool
  | [], l => match l with
    | [] => true
    | _ :: _ => false
  | (k, v) :: xs, l => match l with
    | [] => false
    | (k', v') :: ys => V.beq k k' && V.beq v v' && esEq xs ys

theorem esEq_eq : ∀ {a b : List (V × V)}, esEq a b = true → a = b
  | [], [], _ => rfl
  | [], _ :: _, h => by simp [esEq] at h
  | _ :: _, [], h => by simp [esEq] at h
  | (k, v) :: xs, (k', v') :: ys, h => by
    simp only [esEq, Bool.and_eq_true] at h
    rw [V.beq_eq _ _ h.1.1, V.beq_eq _ _ h.1.2, esEq_eq h.2]

def O.beq : O → O → Bool
  | .cells c e rw, b => match b with
    | .cells c' e' rw' => Nat.beq e e' && boolEq rw rw' && V.beqs c c'
    | _ => false
  | .map es, b => match b with
    | .map es' => esEq es es'
    | _ => false
  | .chan cap buf, b => match b with
    | .chan cap' buf' => Nat.beq cap cap' && V.beqs buf buf'
    | _ => false
  | .siter s pos, b => match b with
    | .siter s' pos' => strEq s s' && Nat.beq pos pos'
    | _ => false
  | .defs o, b => match b with
    | .defs o' => boolEq o o'
    | _ => false
  | .loop _, _ => false
  | .dead, b => match b with
    | .dead => true
    | _ => false

theorem O.beq_eq {a b : O} (h : O.beq a b = true) : a = b := by
  cases a <;> simp only [O.beq, Bool.false_eq_true] at h <;> cases b <;> simp only [Bool.false_eq_true, Bool.and_eq_true] at h
  · obtain ⟨⟨h1, h2⟩, h3⟩ := h; rw [natEq_eq h1, boolEq_eq h2, V.beqs_eq _ _ h3]
  · rw [esEq_eq h]
  · rw [natEq_eq h.1, V.beqs_eq _ _ h.2]
  · rw [strEq_eq h.1, natEq_eq h.2]
  · rw [boolEq_eq h]
  · rfl

def oEq : Option O → O → Bool
  | some a, b => O.beq a b
  | none, _ => false
theorem oEq_eq {a : Option O} {b : O} (h : oEq a b = true) : a = some b := by
  cases a with
  | none => cases h
  | some a => rw [O.beq_eq h]

def vEq : Option V → V → Bool
  | some a, b => V.beq a b
  | none, _ => false
theorem vEq_eq {a : Option V} {b : V} (h : vEq a b = true) : a = some b := by
  cases a with
  | none => cases h
  | some a => rw [V.beq_eq _ _ h]

def vsEq : Option (List V) → List V → Bool
  | some a, b => V.beqs a b
  | none, _ => false
theorem vsEq_eq {a : Option (List V)} {b : List V} (h : vsEq a b = true) : a = some b := by
  cases a with
  | none => cases h
  | some a => rw [V.beqs_eq _ _ h]

/-! ## Values without ids -/
mutual
def V.free : V → Bool
  | .ptr .. | .slice .. | .map _ | .chan _ | .yield _ => false
  | .func _ a c => V.frees a && V.frees c
  | .iface _ v => V.free v
  | .agg l => V.frees l
  | .tup l => V.frees l
  | _ => true
def V.frees : List V → Bool
  | [] => true
  | v :: vs => V.free v && V.frees vs
end

mutual
theorem V.free_ren {ρ : Nat → Option Nat} : ∀ (v : V), V.free v = true → V.ren ρ v = some v
  | .bool _, _ => rfl
  | .int _ _, _ => rfl
  | .flt _ _, _ => rfl
  | .str _, _ => rfl
  | .nilptr, _ => rfl
  | .ptr _ _, h => by simp [V.free] at h
  | .nilslice, _ => rfl
  | .slice _ _ _ _ _, h => by simp [V.free] at h
  | .empty, _ => rfl
  | .nilmap, _ => rfl
  | .map _, h => by simp [V.free] at h
  | .nilchan, _ => rfl
  | .chan _, h => by simp [V.free] at h
  | .func f a c, h => by
    simp only [V.free, Bool.and_eq_true] at h
    simp only [V.ren, V.frees_ren a h.1, V.frees_ren c h.2]
  | .yield _, h => by simp [V.free] at h
  | .nilfunc, _ => rfl
  | .iface t v, h => by
    simp only [V.free] at h
    simp only [V.ren, V.free_ren v h]
  | .niliface, _ => rfl
  | .agg l, h => by
    simp only [V.free] at h
    simp only [V.ren, V.frees_ren l h]
  | .tup l, h => by
    simp only [V.free] at h
    simp only [V.ren, V.frees_ren l h]
theorem V.frees_ren {ρ : Nat → Option Nat} : ∀ (l : List V), V.frees l = true → V.rens ρ l = some l
  | [], _ => rfl
  | v :: vs, h => by
    simp only [V.frees, Bool.and_eq_true] at h
    simp only [V.rens, V.free_ren v h.1, V.frees_ren vs h.2]
end

/-! ## Heaps -/
def deadT : Nat → T O
  | 0 => .nil
  | n + 1 => (deadT n).set n .dead

theorem deadT_get : ∀ (n i : Nat), i < n → (deadT n).get i = some .dead
  | 0, i, h => by omega
  | n + 1, i, h => by
    simp only [deadT, T.get_set]
    by_cases e : i = n
    · rw [if_pos e]
    · rw [if_neg e]; exact deadT_get n i (by omega)

/-- All of the globals, and nothing said of them. -/
def base (G : Nat) : St := ⟨deadT G, G, []⟩

def lk : List (Nat × O) → Nat → Option O
  | [], _ => none
  | (j, o) :: l, i => match Nat.beq j i with
    | true => some o
    | false => lk l i

def setAll (h : T O) : List (Nat × O) → T O
  | [] => h
  | (j, o) :: l => (setAll h l).set j o

theorem setAll_get (h : T O) : ∀ (l : List (Nat × O)) (i : Nat), (setAll h l).get i = match lk l i with | some o => some o | none => h.get i
  | [], i => rfl
  | (j, o) :: l, i => by
    simp only [setAll, T.get_set, lk]
    by_cases e : i = j
    · subst e
      rw [if_pos rfl, Nat.beq_refl _]
    · rw [if_neg e]
      have : Nat.beq j i = false := by
        cases hb : Nat.beq j i with
        | false => rfl
        | true => exact absurd (Nat.eq_of_beq_eq_true hb).symm e
      rw [this]
      exact setAll_get h l i

theorem lk_mem : ∀ {l : List (Nat × O)} {i : Nat} {o : O}, lk l i = some o → (i, o) ∈ l
  | (j, o') :: l, i, o, h => by
    simp only [lk] at h
    split at h
    · rename_i e
      have := natEq_eq e
      simp only [Option.some.injEq] at h
      subst h; subst this; exact List.mem_cons_self
    · exact List.mem_cons_of_mem _ (lk_mem h)

theorem lk_none : ∀ {l : List (Nat × O)} {i : Nat}, lk l i = none → ∀ p ∈ l, p.1 ≠ i
  | [], _, _, p, hp => by cases hp
  | (j, o') :: l, i, h, p, hp => by
    simp only [lk] at h
    split at h
    · cases h
    · rename_i e
      rcases List.mem_cons.1 hp with rfl | hp
      · intro hc
        simp only at hc
        subst hc
        have : Nat.beq j j = true := Nat.beq_refl _
        rw [this] at e; cases e
      · exact lk_none h p hp

theorem lk_some {l : List (Nat × O)} {i : Nat} {o : O} (h : (i, o) ∈ l) : ∃ o', lk l i = some o' := by
  cases hc : lk l i with
  | some o' => exact ⟨o', rfl⟩
  | none => exact absurd rfl (lk_none hc _ h)

def memN (i : Nat) : List Nat → Bool
  | [] => false
  | j :: l => match Nat.beq j i with
    | true => true
    | false => memN i l

theorem memN_iff {i : Nat} : ∀ {l : List Nat}, memN i l = true ↔ i ∈ l
  | [] => by simp [memN]
  | j :: l => by
    simp only [memN]
    split
    · rename_i e; simp [natEq_eq e]
    · rename_i e
      have : i ≠ j := by
        rintro rfl
        have : Nat.beq i i = true := Nat.beq_refl _
        rw [this] at e; cases e
      simp [memN_iff, this]

/-! ## Runs without memory: whatever the heap, the same result -/
structure PEnt where
  f : Nat
  args : List V
  v : V

def PEnt.ok (e : PEnt) (G : Nat) (call : CallT) : Bool :=
  match call (.func e.f [] []) e.args (base G) with
  | some (v, s) => match s.w with
    | [] => V.beq v e.v && V.free e.v && V.frees e.args && Nat.ble G s.n
    | _ => false
  | none => false

def Pure (P : Program) (e : PEnt) : Prop := ∀ S, SemOk P (.func e.f [] []) e.args S e.v S

theorem PEnt.pure {P : Program} {call : CallT} (hc : CallOk P call) {e : PEnt} (h : e.ok P.globals.size call = true) : Pure P e := by
  unfold PEnt.ok at h
  split at h
  · rename_i v s hcall
    split at h
    · rename_i hw
      simp only [Bool.and_eq_true] at h
      obtain ⟨⟨⟨h1, h2⟩, h3⟩, h4⟩ := h
      have hv := V.beq_eq _ _ h1
      subst hv
      intro S μ w Gv xs hh hG hx
      have hn : P.globals.size ≤ S.n := by
        apply Nat.le_of_not_lt
        intro hlt
        obtain ⟨t, ht⟩ := hh.glob S.n hlt
        have := (hh.dom _ _ ht).1
        omega
      have F : Framed P (fun i => if i < P.globals.size then some i else none) (fun i => if i < P.globals.size then some i else none) [] (base P.globals.size) s S S := {
        dom := fun i i' hi => by
          split at hi
          · rename_i hlt; simp only [Option.some.injEq] at hi; subst hi
            exact ⟨hlt, by omega⟩
          · cases hi
        inj := fun i j i' hi hj => by
          split at hi <;> split at hj <;> simp_all
        glob := fun g hg => by simp [hg]
        obj := fun i i' hi => by
          split at hi
          · rename_i hlt
            exact ⟨.dead, .dead, deadT_get _ _ hlt, .inl rfl, .inr rfl⟩
          · cases hi
        old := fun _ _ => rfl
        new := fun i i' hi hr => by
          have : P.globals.size ≤ i := hi
          rw [if_neg (by omega)] at hr; cases hr
        ninj := fun i j i' hi _ hr _ => by
          have : P.globals.size ≤ i := hi
          rw [if_neg (by omega)] at hr; cases hr
        full := fun i' h1 h2 => by omega
        nle := Nat.le_refl _
        w0 := rfl
        W1 := fun i i' hi _ => by rw [hw] at hi; cases hi
        W2 := fun j hj => by cases hj
        wl := rfl
        keep := fun _ _ _ => rfl
        wr := fun i i' hi _ => by rw [hw] at hi; cases hi
        obn := fun i i' hi hr => by
          have : P.globals.size ≤ i := hi
          rw [if_neg (by omega)] at hr; cases hr }
      exact (SemOk.frame (hc _ _ _ _ _ hcall) F (V.free_ren _ (by rfl)) (V.frees_ren _ h3) (V.free_ren _ h2)) μ w Gv xs hh hG hx
    · cases h
  · cases h

def pFind : List PEnt → Nat → List V → Option V
  | [], _, _ => none
  | e :: l, f, args => match Nat.beq e.f f with
    | true => match V.beqs e.args args with
      | true => some e.v
      | false => pFind l f args
    | false => pFind l f args

def pCall (l : List PEnt) : CallT
  | .func f [] [], args, st => match pFind l f args with
    | some v => some (v, st)
    | none => none
  | _, _, _ => none

theorem pFind_mem : ∀ {l : List PEnt} {f : Nat} {args : List V} {v : V}, pFind l f args = some v → ∃ e ∈ l, e.f = f ∧ e.args = args ∧ e.v = v
  | [], _, _, _, h => by cases h
  | e :: l, f, args, v, h => by
    simp only [pFind] at h
    split at h
    · rename_i e1
      split at h
      · rename_i e2
        simp only [Option.some.injEq] at h
        exact ⟨e, List.mem_cons_self, natEq_eq e1, V.beqs_eq _ _ e2, h⟩
      · obtain ⟨e', h1, h2⟩ := pFind_mem h; exact ⟨e', List.mem_cons_of_mem _ h1, h2⟩
    · obtain ⟨e', h1, h2⟩ := pFind_mem h; exact ⟨e', List.mem_cons_of_mem _ h1, h2⟩

theorem pCall_ok {P : Program} {l : List PEnt} (h : ∀ e ∈ l, Pure P e) : CallOk P (pCall l) := by
  intro g args st v st' hc
  unfold pCall at hc
  split at hc
  · rename_i f
    split at hc
    · rename_i u hu
      simp only [Option.some.injEq, Prod.mk.injEq] at hc
      obtain ⟨rfl, rfl⟩ := hc
      obtain ⟨e, h1, rfl, rfl, rfl⟩ := pFind_mem hu
      exact h e h1 st
    · cases hc
  · cases hc

/-! ## Runs over a part of the heap -/
structure Ent where
  f : Nat
  first : List V
  caps : List V
  args : List V
  part : List (Nat × O)
  n : Nat
  v : V
  kept : List (Nat × O)
  wrs : List (Nat × O)

def Ent.st (e : Ent) (G : Nat) : St := ⟨setAll (deadT G) e.part, e.n, []⟩

def sig (G : Nat) (part : List (Nat × O)) (i : Nat) : Option Nat :=
  match Nat.blt i G with
  | true => some i
  | false => match lk part i with
    | some _ => some i
    | none => none

def idx (i : Nat) : List (Nat × O) → Nat → Option Nat
  | [], _ => none
  | (k, _) :: l, m => match Nat.beq k i with
    | true => some m
    | false => idx i l (m + 1)

def rho (G : Nat) (part : List (Nat × O)) (n : Nat) (kept : List (Nat × O)) (i : Nat) : Option Nat :=
  match Nat.blt i n with
  | true => sig G part i
  | false => idx i kept n

def numFrom : List (Nat × O) → Nat → List (Nat × O)
  | [], _ => []
  | (_, o) :: l, m => (m, o) :: numFrom l (m + 1)

def objOk (ρ : Nat → Option Nat) (s : St) (i : Nat) (o' : O) : Bool :=
  match s.h.get i with
  | some o => match o' with
    | .dead => true
    | o' => oEq (o.ren ρ) o'
  | none => false

def keptOk (ρ : Nat → Option Nat) (s : St) (n : Nat) : List (Nat × O) → Nat → Bool
  | [], _ => true
  | (k, o) :: l, m => onatEq (ρ k) (some m) && Nat.ble n k && Nat.blt k s.n && objOk ρ s k o && keptOk ρ s n l (m + 1)

def Ent.chk (e : Ent) (G : Nat) (v : V) (s : St) : Bool :=
  Nat.ble G e.n && Nat.ble e.n s.n && (e.part.all fun p => Nat.blt p.1 e.n && oEq (p.2.ren (sig G e.part)) p.2) &&
  vsEq (V.rens (sig G e.part) e.first) e.first && vsEq (V.rens (sig G e.part) e.caps) e.caps && vsEq (V.rens (sig G e.part) e.args) e.args &&
  vEq (V.ren (rho G e.part e.n e.kept) v) e.v &&
  keptOk (rho G e.part e.n e.kept) s e.n e.kept e.n &&
  (s.w.all fun i => match sig G e.part i with | some _ => memN i (e.wrs.map (·.1)) | none => true) &&
  (e.wrs.all fun p => memN p.1 s.w && onatEq (sig G e.part p.1) (some p.1) && objOk (rho G e.part e.n e.kept) s p.1 p.2)

def Ent.ok (e : Ent) (G : Nat) (call : CallT) : Bool :=
  match call (.func e.f e.first e.caps) e.args (e.st G) with
  | some (v, s) => e.chk G v s
  | none => false

def partIn (S : St) : List (Nat × O) → Bool
  | [] => true
  | (i, o) :: l => match oEq (S.h.get i) o with
    | true => partIn S l
    | false => false

def Ent.out (e : Ent) (S : St) : St := ⟨setAll (setAll S.h e.wrs) (numFrom e.kept e.n), e.n + e.kept.length, e.wrs.map (·.1) ++ S.w⟩

def entCall (e : Ent) : CallT
  | .func f a c, args, S => match Nat.beq e.f f with
    | true => match V.beqs e.args args && V.beqs e.first a && V.beqs e.caps c && Nat.beq S.n e.n && partIn S e.part with
      | true => some (e.v, e.out S)
      | false => none
    | false => none
  | _, _, _ => none

theorem partIn_get {S : St} : ∀ {l : List (Nat × O)}, partIn S l = true → ∀ p ∈ l, S.h.get p.1 = some p.2
  | [], _, p, hp => by cases hp
  | (i, o) :: l, h, p, hp => by
    simp only [partIn] at h
    split at h
    · rename_i e
      rcases List.mem_cons.1 hp with rfl | hp
      · exact oEq_eq e
      · exact partIn_get h p hp
    · cases h

theorem idx_spec {i : Nat} : ∀ {l : List (Nat × O)} {m i' : Nat}, idx i l m = some i' → m ≤ i' ∧ i' < m + l.length ∧ ∃ o, l[i' - m]? = some (i, o)
  | [], m, i', h => by cases h
  | (k, o) :: l, m, i', h => by
    simp only [idx] at h
    split at h
    · rename_i e
      simp only [Option.some.injEq] at h; subst h
      have := natEq_eq e; subst this
      exact ⟨Nat.le_refl _, by simp, o, by simp⟩
    · obtain ⟨h1, h2, o', h3⟩ := idx_spec h
      refine ⟨by omega, by simp; omega, o', ?_⟩
      rw [show i' - m = (i' - (m + 1)) + 1 by omega]
      simpa using h3

theorem numFrom_lk : ∀ {l : List (Nat × O)} {m j : Nat} {p : Nat × O}, l[j]? = some p → lk (numFrom l m) (m + j) = some p.2
  | [], m, j, p, h => by simp at h
  | (k, o) :: l, m, 0, p, h => by
    simp at h; subst h
    simp [numFrom, lk]
  | (k, o) :: l, m, j + 1, p, h => by
    simp only [numFrom, lk]
    have : Nat.beq m (m + (j + 1)) = false := by
      cases hb : Nat.beq m (m + (j + 1)) with
      | false => rfl
      | true => have := natEq_eq hb; omega
    rw [this, show m + (j + 1) = (m + 1) + j by omega]
    exact numFrom_lk (by simpa using h)

theorem numFrom_none : ∀ {l : List (Nat × O)} {m i : Nat}, i < m → lk (numFrom l m) i = none
  | [], _, _, _ => rfl
  | (k, o) :: l, m, i, h => by
    simp only [numFrom, lk]
    have : Nat.beq m i = false := by
      cases hb : Nat.beq m i with
      | false => rfl
      | true => have := natEq_eq hb; omega
    rw [this]
    exact numFrom_none (by omega)

theorem keptOk_get {ρ : Nat → Option Nat} {s : St} {n : Nat} : ∀ {l : List (Nat × O)} {m : Nat}, keptOk ρ s n l m = true → ∀ {j : Nat} {p : Nat × O}, l[j]? = some p → ρ p.1 = some (m + j) ∧ n ≤ p.1 ∧ p.1 < s.n ∧ objOk ρ s p.1 p.2 = true
  | [], m, _, j, p, h => by simp at h
  | (k, o) :: l, m, h, j, p, hj => by
    simp only [keptOk, Bool.and_eq_true] at h
    obtain ⟨⟨⟨⟨h1, h2⟩, h3⟩, h4⟩, h5⟩ := h
    cases j with
    | zero =>
      simp at hj; subst hj
      exact ⟨onatEq_eq h1, Nat.le_of_ble_eq_true h2, Nat.lt_of_succ_le (Nat.le_of_ble_eq_true h3), h4⟩
    | succ j =>
      obtain ⟨q1, q2⟩ := keptOk_get h5 (j := j) (by simpa using hj)
      exact ⟨by rw [q1]; congr 1; omega, q2⟩

theorem objOk_spec {ρ : Nat → Option Nat} {s : St} {i : Nat} {o' : O} (h : objOk ρ s i o' = true) : ∃ o, s.h.get i = some o ∧ (o' = .dead ∨ o.ren ρ = some o') := by
  unfold objOk at h
  split at h
  · rename_i o ho
    refine ⟨o, ho, ?_⟩
    split at h
    · exact .inl rfl
    · exact .inr (oEq_eq h)
  · cases h

theorem sig_spec {G : Nat} {part : List (Nat × O)} {i i' : Nat} (h : sig G part i = some i') : i' = i ∧ (i < G ∨ ∃ o, lk part i = some o) := by
  unfold sig at h
  split at h
  · rename_i e
    simp only [Option.some.injEq] at h
    exact ⟨h.symm, .inl (Nat.lt_of_succ_le (Nat.le_of_ble_eq_true e))⟩
  · split at h
    · rename_i o ho
      simp only [Option.some.injEq] at h
      exact ⟨h.symm, .inr ⟨o, ho⟩⟩
    · cases h

theorem entCall_ok {P : Program} {call : CallT} (hcall : CallOk P call) {e : Ent} (h : e.ok P.globals.size call = true) : CallOk P (entCall e) := by
  intro g args S v S' hc
  unfold entCall at hc
  split at hc
  · rename_i f a c
    split at hc
    · rename_i hf
      have hf := natEq_eq hf
      subst hf
      split at hc
      · rename_i hcond
        simp only [Bool.and_eq_true] at hcond
        obtain ⟨⟨⟨⟨c1, c2⟩, c3⟩, c4⟩, c5⟩ := hcond
        have c1 := V.beqs_eq _ _ c1
        have c2 := V.beqs_eq _ _ c2
        have c3 := V.beqs_eq _ _ c3
        have c4 := natEq_eq c4
        have c5 := partIn_get c5
        simp only [Option.some.injEq, Prod.mk.injEq] at hc
        obtain ⟨rfl, rfl⟩ := hc
        subst c1; subst c2; subst c3
        unfold Ent.ok at h
        split at h
        · rename_i v0 s hrun
          unfold Ent.chk at h
          simp only [Bool.and_eq_true, List.all_eq_true] at h
          obtain ⟨⟨⟨⟨⟨⟨⟨⟨⟨k1, k2⟩, k3⟩, k4⟩, k5⟩, k6⟩, k7⟩, k8⟩, k9⟩, k10⟩ := h
          have k1 := Nat.le_of_ble_eq_true k1
          have k2 := Nat.le_of_ble_eq_true k2
          have hpart : ∀ i o, lk e.part i = some o → i < e.n ∧ o.ren (sig P.globals.size e.part) = some o ∧ S.h.get i = some o := fun i o ho => by
            have hm := lk_mem ho
            obtain ⟨q1, q2⟩ := k3 _ hm
            exact ⟨Nat.lt_of_succ_le (Nat.le_of_ble_eq_true q1), oEq_eq q2, c5 _ hm⟩
          have hρn : ∀ i, e.n ≤ i → rho P.globals.size e.part e.n e.kept i = idx i e.kept e.n := fun i hi => by
            unfold rho
            have : Nat.blt i e.n = false := by
              cases hb : Nat.blt i e.n with
              | false => rfl
              | true => have := Nat.lt_of_succ_le (Nat.le_of_ble_eq_true hb); omega
            rw [this]
          have hkept : ∀ j p, e.kept[j]? = some p → rho P.globals.size e.part e.n e.kept p.1 = some (e.n + j) ∧ e.n ≤ p.1 ∧ p.1 < s.n ∧ objOk (rho P.globals.size e.part e.n e.kept) s p.1 p.2 = true := fun j p hj => keptOk_get k8 hj
          have hlkn : ∀ j, j < e.n → (e.out S).h.get j = match lk e.wrs j with | some o => some o | none => S.h.get j := fun j hj => by
            show (setAll (setAll S.h e.wrs) (numFrom e.kept e.n)).get j = _
            rw [setAll_get, numFrom_none hj, setAll_get]
          have F : Framed P (sig P.globals.size e.part) (rho P.globals.size e.part e.n e.kept) (e.wrs.map (·.1)) (e.st P.globals.size) s S (e.out S) := {
            dom := fun i i' hi => by
              obtain ⟨rfl, hor⟩ := sig_spec hi
              have : i' < e.n := by
                rcases hor with h | ⟨o, ho⟩
                · omega
                · exact (hpart _ _ ho).1
              exact ⟨this, by omega⟩
            inj := fun i j i' hi hj => by rw [← (sig_spec hi).1, ← (sig_spec hj).1]
            glob := fun g hg => by
              unfold sig
              have : Nat.blt g P.globals.size = true := Nat.ble_eq_true_of_le hg
              rw [this]
            obj := fun i i' hi => by
              obtain ⟨rfl, hor⟩ := sig_spec hi
              cases hl : lk e.part i' with
              | some o =>
                obtain ⟨q1, q2, q3⟩ := hpart _ _ hl
                refine ⟨o, o, ?_, .inr (.inl q2), .inl q3⟩
                show (setAll (deadT P.globals.size) e.part).get i' = _
                rw [setAll_get, hl]
              | none =>
                have hg : i' < P.globals.size := by
                  rcases hor with h | ⟨o, ho⟩
                  · exact h
                  · rw [hl] at ho; cases ho
                refine ⟨.dead, .dead, ?_, .inl rfl, .inr rfl⟩
                show (setAll (deadT P.globals.size) e.part).get i' = _
                rw [setAll_get, hl]
                exact deadT_get _ _ hg
            old := fun i hi => by
              have : Nat.blt i e.n = true := Nat.ble_eq_true_of_le hi
              unfold rho; rw [this]
            new := fun i i' hi hr => by
              rw [hρn i hi] at hr
              obtain ⟨q1, q2, o, q3⟩ := idx_spec hr
              obtain ⟨_, _, r3, _⟩ := hkept _ _ q3
              exact ⟨by omega, q2, r3⟩
            ninj := fun i j i' hi hj hri hrj => by
              rw [hρn i hi] at hri
              rw [hρn j hj] at hrj
              obtain ⟨_, _, o, q3⟩ := idx_spec hri
              obtain ⟨_, _, o', q3'⟩ := idx_spec hrj
              rw [q3] at q3'
              cases q3'; rfl
            full := fun i' h1 h2 => by
              have h2' : i' < e.n + e.kept.length := h2
              obtain ⟨p, hp⟩ : ∃ p, e.kept[i' - e.n]? = some p := ⟨_, List.getElem?_eq_getElem (by omega)⟩
              obtain ⟨r1, r2, _, _⟩ := hkept _ _ hp
              exact ⟨p.1, r2, by rw [r1]; congr 1; omega⟩
            nle := by show S.n ≤ e.n + e.kept.length; omega
            w0 := rfl
            W1 := fun i i' hi hs => by
              obtain ⟨rfl, _⟩ := sig_spec hs
              have := k9 _ hi
              rw [hs] at this
              exact memN_iff.1 this
            W2 := fun j hj => by
              obtain ⟨p, hp, rfl⟩ := List.mem_map.1 hj
              obtain ⟨⟨q1, q2⟩, _⟩ := k10 _ hp
              exact ⟨p.1, memN_iff.1 q1, onatEq_eq q2⟩
            wl := rfl
            keep := fun j hj hn => by
              rw [hlkn j (by omega)]
              cases hl : lk e.wrs j with
              | none => rfl
              | some o => exact absurd (List.mem_map.2 ⟨_, lk_mem hl, rfl⟩) hn
            wr := fun i i' hi hs => by
              obtain ⟨rfl, hor⟩ := sig_spec hs
              have hlt : i' < e.n := by
                rcases hor with h | ⟨o, ho⟩
                · omega
                · exact (hpart _ _ ho).1
              have := k9 _ hi
              rw [hs] at this
              obtain ⟨p, hp, hpe⟩ := List.mem_map.1 (memN_iff.1 this)
              obtain ⟨o', ho'⟩ := lk_some (l := e.wrs) (i := i') (o := p.2) (by rw [← hpe]; exact hp)
              obtain ⟨_, q3⟩ := k10 _ (lk_mem ho')
              obtain ⟨o, r1, r2⟩ := objOk_spec q3
              exact ⟨o, o', r1, by rw [hlkn _ hlt, ho'], r2⟩
            obn := fun i i' hi hr => by
              rw [hρn i hi] at hr
              obtain ⟨q1, q2, o, q3⟩ := idx_spec hr
              obtain ⟨_, _, _, r4⟩ := hkept _ _ q3
              obtain ⟨o2, t1, t2⟩ := objOk_spec r4
              refine ⟨o2, o, t1, ?_, t2⟩
              show (setAll (setAll S.h e.wrs) (numFrom e.kept e.n)).get i' = _
              have := numFrom_lk (m := e.n) q3
              rw [show e.n + (i' - e.n) = i' by omega] at this
              rw [setAll_get, this] }
          refine SemOk.frame (hcall _ _ _ _ _ hrun) F ?_ (vsEq_eq k6) (vEq_eq k7)
          simp only [V.ren, vsEq_eq k4, vsEq_eq k5]
        · cases h
      · cases hc
    · cases hc
  · cases hc

/-! ## Calls, by depth, with a table of known ones -/
def mcallX (x : CallT) (tbl : Nat → Option MFunc) (fuel : Nat) : Nat → CallT
  | 0 => x
  | d + 1 => orCall x (callStep tbl (mcode (mcallX x tbl fuel d) fuel))

theorem mcallX_ok {P : Program} {tbl : Nat → Option MFunc} (hm : P.follows .mixedOrders = true) (hE : ExtsOk P) (ht : TableOk P tbl) {x : CallT} (hx : CallOk P x) (fuel : Nat) : ∀ d, CallOk P (mcallX x tbl fuel d)
  | 0 => hx
  | d + 1 => by
    have ih := mcallX_ok hm hE ht hx fuel d
    exact hx.or (callStep_ok ht (code_ok ih hE (draw_ok hm hE ih) (sel_ok ih hE) (range_ok ih) fuel))

def eFind : List Ent → Nat → List V → List V → List V → St → Option (V × St)
  | [], _, _, _, _, _ => none
  | e :: l, f, a, c, args, S => match Nat.beq e.f f with
    | true => match entCall e (.func f a c) args S with
      | some r => some r
      | none => eFind l f a c args S
    | false => eFind l f a c args S

def eCall (l : List Ent) : CallT
  | .func f a c, args, S => eFind l f a c args S
  | _, _, _ => none

theorem eCall_ok {P : Program} {l : List Ent} (h : ∀ e ∈ l, CallOk P (entCall e)) : CallOk P (eCall l) := by
  intro g args S v S' hc
  unfold eCall at hc
  split at hc
  · rename_i f a c
    induction l with
    | nil => cases hc
    | cons e l ih =>
      simp only [eFind] at hc
      split at hc
      · split at hc
        · rename_i r hr
          cases hc
          exact h e List.mem_cons_self _ _ _ _ _ hr
        · exact ih (fun e he => h e (List.mem_cons_of_mem _ he)) hc
      · exact ih (fun e he => h e (List.mem_cons_of_mem _ he)) hc
  · cases hc

/-- The known calls: those without memory, those over a part of the heap. -/
def xCall (L : List PEnt) (E : List Ent) : CallT := orCall (pCall L) (eCall E)

structure TabOk (P : Program) (L : List PEnt) (E : List Ent) : Prop where
  p : ∀ e ∈ L, Pure P e
  e : ∀ e ∈ E, CallOk P (entCall e)

theorem TabOk.call {P : Program} {L : List PEnt} {E : List Ent} (h : TabOk P L E) : CallOk P (xCall L E) := (pCall_ok h.p).or (eCall_ok h.e)
theorem TabOk.nil {P : Program} : TabOk P [] [] := ⟨fun _ h => (by cases h), fun _ h => (by cases h)⟩

/-- What is asked of the program. -/
structure ProgOk (P : Program) (tbl : Nat → Option MFunc) (G : Nat) : Prop where
  m : P.follows .mixedOrders = true
  e : ExtsOk P
  t : TableOk P tbl
  g : P.globals.size = G

theorem TabOk.addP {P : Program} {tbl : Nat → Option MFunc} {G fuel d : Nat} (hP : ProgOk P tbl G) {L : List PEnt} {E : List Ent} (h : TabOk P L E) {e : PEnt} (he : e.ok G (mcallX (xCall L E) tbl fuel d) = true) : TabOk P (e :: L) E :=
  ⟨fun e' hm => by
    rcases List.mem_cons.1 hm with rfl | hm
    · exact PEnt.pure (mcallX_ok hP.m hP.e hP.t h.call fuel d) (by rw [hP.g]; exact he)
    · exact h.p e' hm, h.e⟩

theorem TabOk.addE {P : Program} {tbl : Nat → Option MFunc} {G fuel d : Nat} (hP : ProgOk P tbl G) {L : List PEnt} {E : List Ent} (h : TabOk P L E) {e : Ent} (he : e.ok G (mcallX (xCall L E) tbl fuel d) = true) : TabOk P L (e :: E) :=
  ⟨h.p, fun e' hm => by
    rcases List.mem_cons.1 hm with rfl | hm
    · exact entCall_ok (mcallX_ok hP.m hP.e hP.t h.call fuel d) (by rw [hP.g]; exact he)
    · exact h.e e' hm⟩

def noCall : CallT := fun _ _ _ => none
theorem noCall_ok {P : Program} : CallOk P noCall := fun _ _ _ _ _ h => by cases h

end Go.Mx
