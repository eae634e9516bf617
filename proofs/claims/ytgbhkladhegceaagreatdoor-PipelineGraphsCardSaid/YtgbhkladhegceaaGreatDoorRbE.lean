/-
  lensletref01.divDigits: the outer loop.
-/
import Derived.Test.YtgbhkladhegceaaGreatDoorRbD
set_option linter.all false
namespace Go.Mx
open Go Go.Proofs
set_option maxRecDepth 1000000
set_option linter.unusedSimpArgs false
set_option linter.unusedVariables false

theorem mem_get {l : List Int} {d : Int} (h : d ∈ l) : ∃ s : Nat, l[s]? = some d := List.getElem?_of_mem h
theorem di_of {l : List Int} (h : ∀ (s : Nat) (d : Int), l[s]? = some d → 0 ≤ d ∧ d < 1000000000) : Di l := fun d hd => by
  obtain ⟨s, hs⟩ := mem_get hd
  exact h s d hs
theorem drop_val {U U2 : List Int} {j : Nat} {X : Int} (hj : j ≤ U.length) (hl : U2.length = U.length) (hs : ∀ s, s < j → U2[s]? = U[s]?) (hv : vI U2 = vI U - pI j * X) : vI (U2.drop j) = vI (U.drop j) - X := by
  have h1 := vI_split U j hj
  have h2 := vI_split U2 j (by omega)
  have h3 : U2.take j = U.take j := by
    apply List.ext_getElem?
    intro s
    rw [List.getElem?_take, List.getElem?_take]
    by_cases h : s < j
    · rw [if_pos h, if_pos h]; exact hs s h
    · rw [if_neg h, if_neg h]
  rw [h3] at h2
  have h4 : pI j * vI (U2.drop j) = pI j * (vI (U.drop j) - X) := by
    have : pI j * (vI (U.drop j) - X) = pI j * vI (U.drop j) - pI j * X := by grind
    omega
  exact Int.eq_of_mul_eq_mul_left (Int.ne_of_gt (pI_pos j)) h4
theorem top_of {U : List Int} {j L : Nat} {tt : Int} (hd : ∀ (s : Nat) (d : Int), s < j + L → U[s]? = some d → 0 ≤ d ∧ d < 1000000000) (ht : U[j + L]? = some tt) (hz : ∀ s, j + L < s → s < U.length → U[s]? = some 0) (hlt : vI (U.drop j) < pI L) : (0 ≤ vI (U.drop j) → tt = 0) ∧ (vI (U.drop j) < 0 → tt < 0) := by
  refine top_zero (w := U.drop j) (n := L) ?_ (by rw [List.getElem?_drop]; exact ht) ?_ hlt
  · refine di_of fun s d hs => ?_
    by_cases h : s < L
    · rw [List.getElem?_take, if_pos h, List.getElem?_drop] at hs
      exact hd (j + s) d (by omega) hs
    · rw [List.getElem?_take, if_neg h] at hs; cases hs
  · intro s h1 h2
    rw [List.getElem?_drop]
    exact hz (j + s) (by omega) (by simp at h2; omega)
structure OuI (N : Nat) (h2 : T O) (n2 iu iq n lu L : Nat) (A0 : Int) (Y : List Int) (m : Nat) (r : T V) (st : St) : Prop where
  ex : ∃ U Q, DvS N h2 n2 iu iq n U Q st ∧ r.get 13 = some (.int .i64 ((m : Int) - 1)) ∧ U.length = lu ∧ Q.length = lu - L ∧ m ≤ lu - L ∧ Di U ∧ Di Q ∧ (∀ s, m + L ≤ s → s < lu → U[s]? = some 0) ∧ vI (U.drop m) < vI Y ∧ (∀ s, s < m → Q[s]? = some 0) ∧ vI U + vI Y * vI Q = A0
theorem out_loop {N : Nat} {h2 : T O} {n2 iu iq n lu k : Nat} {A0 v1 : Int} {Y : List Int} {v : V} {r0 : T V} (hv : Sl h2 n2 v (dI Y)) (hY : Y.length = k + 2) (dY : Di Y) (hv1 : Y[k + 1]? = some v1) (h5 : 500000000 ≤ v1) (hlu : k + 2 < lu) (hul : lu < 1099511627776) (r9 : r0.get 9 = some v) (r10 : r0.get 10 = some (.int .i64 (k + 2 : Nat))) (r11 : r0.get 11 = some (.slice iu 0 lu none 1)) (r12 : r0.get 12 = some (.slice iq 0 (lu - (k + 2)) (some (lu - (k + 2))) 1)) (a1 : N ≤ n2) (a2 : n2 ≤ iu) (a3 : iu < iq) (a4 : iq < n) :
    ∀ m r st, (∀ t, inD [(13, 21), (82, 191)] t = false → r.get t = r0.get t) → Fx [(13, 21), (82, 191)] r0 206 ⟨r, 206, []⟩ → OuI N h2 n2 iu iq n lu (k + 2) A0 Y m r st → Code A.C none A.lb160_2 ⟨r, 206, []⟩ st (Rd [(13, 21), (82, 191)] r0 206 (OuI N h2 n2 iu iq n lu (k + 2) A0 Y) m (fun e r st => e = .exit 2 ∧ OuI N h2 n2 iu iq n lu (k + 2) A0 Y 0 r st)) := by
  rintro m r ⟨H, n1, W⟩ hr hf ⟨U, Q, ⟨hW, hK, hn, ru, rq⟩, r13, hul', hql, hm, dU, dQ, hz, hdr, hqz, hval⟩
  simp only at hW hK hn ru rq
  subst hn
  rw [code_run]
  cases m with
  | zero =>
    simp (disch := first | (simp; done) | omega | (simp only [dg_length, dgi_length, List.length_cons]; omega) | rfl) [-getElem?_pos, List.getElem?_cons_zero, List.getElem?_cons_succ, A.lb160_2, hr, hf, r13]
    exact ⟨U, Q, ⟨hW, hK, rfl, ru, rq⟩, by simp [r13], hul', hql, hm, dU, dQ, hz, hdr, hqz, hval⟩
  | succ j =>
    have hj1 : (((j + 1 : Nat) : Int) - 1) = (j : Int) := by omega
    rw [hj1] at r13
    have hj0 : (0 : Int) ≤ (j : Int) := by omega
    obtain ⟨v2, hv2⟩ := get_of_lt (l := Y) (k := k) (by omega)
    obtain ⟨d1, e1⟩ := get_of_lt (l := U) (k := j + k) (by omega)
    obtain ⟨d2, e2⟩ := get_of_lt (l := U) (k := j + k + 1) (by omega)
    obtain ⟨d3, e3⟩ := get_of_lt (l := U) (k := j + k + 2) (by omega)
    obtain ⟨x0, hx0⟩ := get_of_lt (l := U) (k := j) (by omega)
    have hWt := vI_top3 (w := U.drop j) (k := k) (a := d1) (c := d2) (d := d3) (by rw [List.getElem?_drop]; exact e1) (by rw [List.getElem?_drop, ← Nat.add_assoc]; exact e2) (by rw [List.getElem?_drop, ← Nat.add_assoc]; exact e3) (fun t h1 h2 => by rw [List.getElem?_drop]; exact hz _ (by omega) (by simp at h2; omega))
    have hDt := vI_top2 hv2 hv1 hY
    have hWd : vI (U.drop j) < 1000000000 * vI Y := by
      rw [get_drop_cons hx0, vI]
      have := dU.get hx0
      omega
    have hUk := vI_lt ((dU.drop j).take k)
    rw [List.length_take, List.length_drop, Nat.min_eq_left (by omega)] at hUk
    have hVk := vI_lt (dY.take k)
    rw [List.length_take, Nat.min_eq_left (by omega)] at hVk
    obtain ⟨t, hg, t0, t1, hlo, hhi⟩ := guess_eq (w := W) (Sl.row (cp := none) (L := lu) (show iu < n1 by omega) ru (by simp [hul']) (fun k hk => by cases hk)) (hv.keep hK) hY (by omega) e1 e2 e3 hv2 hv1 (dU.get e1) (dU.get e2) (dU.get e3) ⟨h5, (dY.get hv1).2⟩ (dY.get hv2) (pI_pos k) (vI_nn ((dU.drop j).take k)) hUk (vI_nn (dY.take k)) hVk hWt hDt hWd
    have hVl := vI_lt dY
    rw [hY] at hVl
    have hVp : 0 < vI Y := by have := vI_nn (dU.drop (j + 1)); omega
    simp (disch := first | (simp; done) | omega | (simp only [dg_length, dgi_length, List.length_cons]; omega) | rfl) [-getElem?_pos, List.getElem?_cons_zero, List.getElem?_cons_succ, A.lb160_2, hr, hf, r13, hj0, r9, r10, r11, r12, hg]
    refine run_loopD [(15, 18), (90, 125)] (fun e r st => e = .exit 4 ∧ SbI N h2 n2 iu iq n1 U Q Y (k + 2) j t 0 r st) (SbI N h2 n2 iu iq n1 U Q Y (k + 2) j t) (k + 2) ?_ ?_ ?_
    · exact ⟨0, U, 0, by omega, by simp, by simp, by omega, by omega, ⟨hW, hK, rfl, ru, rq⟩, rfl, fun _ _ => rfl, dU, by simp [vI]⟩
    · exact sub_loop hv hY dY (by omega) (by omega) ⟨by simp [hr, r9], by simp [hr, r10], by simp [hr, r11, hul'], by simp [hr, r13]⟩ (by simp) t0 t1 a1 a2 a3 a4
    · rintro _ r2 ⟨H2, n3, W2⟩ hr2 ⟨rfl, i, U', c, hi, h16, h15, c0, c1, ⟨hW2, hK2, hn2, ru2, rq2⟩, hul2, hsame, hdi2, hval2⟩
      simp only at hW2 hK2 hn2 ru2 rq2
      subst hn2
      obtain rfl : i = k + 2 := by omega
      have hfi := hf.inner (D' := [(15, 18), (90, 125)]) rfl (by simp) hr2
      rw [← hY, List.take_length, hY] at hval2
      have e3' : U'[j + (k + 2)]? = some d3 := by rw [hsame _ (.inr (Nat.le_refl _))]; rw [← Nat.add_assoc]; exact e3
      have hd3 := dU.get e3
      have q1 : (j : Int) + ((k : Int) + 2) < (lu : Int) := by omega
      have q2 : j + (k + 2) < lu := by omega
      have q3 : (0 : Int) ≤ (j : Int) + ((k : Int) + 2) := by omega
      have q4 : ((j : Int) + ((k : Int) + 2)).toNat = j + (k + 2) := by omega
      have w8 := dI_length U'
      have b1' : wrapF .i64 (d3 - c) = d3 - c := wrapF_i64 (by omega) (by omega)
      have w7 := dI_set (l := U') (k := j + (k + 2)) (v := d3 - c) (by omega)
      have nn : ¬ iu < N := by omega
      have d5 : ¬ iq = iu := by omega
      have d6 : ¬ iu = iq := by omega
      have nq : ¬ iq < N := by omega
      -- the value after the subtraction
      have v2e : vI (U'.set (j + (k + 2)) (d3 - c)) = vI U - pI j * (t * vI Y) := by
        rw [vI_set e3']
        have : pI (j + (k + 2)) * (d3 - c - d3) = - (pI (j + (k + 2)) * c) := by grind
        omega
      have hs2 : ∀ s, s < j → (U'.set (j + (k + 2)) (d3 - c))[s]? = U[s]? := fun s hs => by
        rw [List.getElem?_set_ne (by omega)]; exact hsame s (.inl hs)
      have hz2 : ∀ s, j + (k + 2) < s → s < lu → (U'.set (j + (k + 2)) (d3 - c))[s]? = some 0 := fun s h1 h2 => by
        rw [List.getElem?_set_ne (by omega), hsame s (.inr (by omega))]; exact hz s (by omega) h2
      have hdv := drop_val (by omega) (by simp [hul2]) hs2 v2e
      have htop : (U'.set (j + (k + 2)) (d3 - c))[j + (k + 2)]? = some (d3 - c) := List.getElem?_set_self (by omega)
      have hlt2 : vI ((U'.set (j + (k + 2)) (d3 - c)).drop j) < vI Y := by
        rw [hdv]
        have : (t + 1) * vI Y = t * vI Y + vI Y := by grind
        omega
      have hto := top_of (U := U'.set (j + (k + 2)) (d3 - c)) (fun s d hs hd => by
        rw [List.getElem?_set_ne (by omega)] at hd; exact hdi2.get hd) htop (fun s h1 h2 => hz2 s h1 (by simp at h2; omega)) (by omega)
      have qj1 : (j : Int) < ((lu - (k + 2) : Nat) : Int) := by omega
      have qj2 : j < lu - (k + 2) := by omega
      have wq8 := dI_length Q
      by_cases hneg : d3 - c < 0
      · have t1w : wrapF .i64 (t - 1) = t - 1 := wrapF_i64 (by omega) (by omega)
        simp (disch := first | (simp; done) | omega | (simp only [dg_length, dgi_length, List.length_cons]; omega) | rfl) [-getElem?_pos, List.getElem?_cons_zero, List.getElem?_cons_succ, hr, hr2, hfi, h15, r9, r10, r11, r12, r13, q1, q2, q3, q4, ru2, dI_get e3', b1', w7, dI_get htop, hneg, t1w]
        generalize hU2 : U'.set (j + (k + 2)) (d3 - c) = U2 at *
        have hl2 : U2.length = lu := by rw [← hU2]; simp [hul2, hul']
        have hWlt : vI (U2.drop j) < 0 := by
          apply Int.lt_of_not_ge; intro hc
          have := hto.1 hc
          omega
        have hdig : ∀ (s : Nat) (d : Int), s ≠ j + (k + 2) → U2[s]? = some d → 0 ≤ d ∧ d < 1000000000 := fun s d hs hd => by
          rw [← hU2, List.getElem?_set_ne (by omega)] at hd; exact hdi2.get hd
        refine run_loopD [(19, 21), (148, 174)] (fun e r st => e = .exit 6 ∧ AbI N h2 n2 iu iq n3 U2 Q Y (k + 2) j 0 r st) (AbI N h2 n2 iu iq n3 U2 Q Y (k + 2) j) (k + 2) ?_ ?_ ?_
        · exact ⟨0, U2, 0, by omega, by simp, by simp, by omega, by omega, ⟨by simp [oldIds, hW2, nn], hK2.set (by omega), rfl, by simp, by simp [d5, rq2]⟩, rfl, fun _ _ => rfl, hdig, by simp [vI]⟩
        · exact add_loop hv hY dY (by omega) (by omega) ⟨by simp [hr, hr2, r9], by simp [hr, hr2, r10], by simp [hr, hr2, r11, hl2], by simp [hr, hr2, r13]⟩ a1 a2 a3 a4
        · rintro _ r4 ⟨H4, n4, W4⟩ hr4 ⟨rfl, i4, U3, c4, hi4, h20, h19, c40, c41, ⟨hW4, hK4, hn4, ru4, rq4⟩, hul4, hsame4, hdi4, hval4⟩
          simp only at hW4 hK4 hn4 ru4 rq4
          subst hn4
          obtain rfl : i4 = k + 2 := by omega
          have hfi4 := hfi.inner (D' := [(19, 21), (148, 174)]) rfl (by simp) hr4
          rw [← hY, List.take_length, hY] at hval4
          have e4 : U3[j + (k + 2)]? = some (d3 - c) := by rw [hsame4 _ (.inr (Nat.le_refl _))]; exact htop
          have x8 := dI_length U3
          have b4' : wrapF .i64 (d3 - c + c4) = d3 - c + c4 := wrapF_i64 (by omega) (by omega)
          have x7 := dI_set (l := U3) (k := j + (k + 2)) (v := d3 - c + c4) (by omega)
          have v4e : vI (U3.set (j + (k + 2)) (d3 - c + c4)) = vI U - pI j * ((t - 1) * vI Y) := by
            rw [vI_set e4]
            have x1 : pI (j + (k + 2)) * (d3 - c + c4 - (d3 - c)) = pI (j + (k + 2)) * c4 := by grind
            have x2 : pI j * ((t - 1) * vI Y) = pI j * (t * vI Y) - pI j * vI Y := by grind
            omega
          have hs4 : ∀ s, s < j → (U3.set (j + (k + 2)) (d3 - c + c4))[s]? = U[s]? := fun s hs => by
            rw [List.getElem?_set_ne (by omega), hsame4 s (.inl hs)]; exact hs2 s hs
          have hz4 : ∀ s, j + (k + 2) < s → s < lu → (U3.set (j + (k + 2)) (d3 - c + c4))[s]? = some 0 := fun s h1 h2 => by
            rw [List.getElem?_set_ne (by omega), hsame4 s (.inr (by omega))]; exact hz2 s h1 h2
          have hdv4 := drop_val (by omega) (by simp [hul4, hl2, hul']) hs4 v4e
          have htop4 : (U3.set (j + (k + 2)) (d3 - c + c4))[j + (k + 2)]? = some (d3 - c + c4) := List.getElem?_set_self (by omega)
          have xt : (t - 1) * vI Y = t * vI Y - vI Y := by grind
          have hlt4 : vI ((U3.set (j + (k + 2)) (d3 - c + c4)).drop j) < vI Y := by
            rw [hdv4]; omega
          have hge4 : 0 ≤ vI ((U3.set (j + (k + 2)) (d3 - c + c4)).drop j) := by
            rw [hdv4]; omega
          have hto4 := top_of (U := U3.set (j + (k + 2)) (d3 - c + c4)) (fun s d hs hd => by
            rw [List.getElem?_set_ne (by omega)] at hd; exact hdi4 s d (by omega) hd) htop4 (fun s h1 h2 => hz4 s h1 (by simp at h2; omega)) (by omega)
          have hz0 := hto4.1 hge4
          have w9 := dI_set (l := Q) (k := j) (v := t - 1) (by omega)
          have hq0 := hqz j (by omega)
          have tpos : 1 ≤ t := by
            apply Int.le_of_not_gt; intro hc
            have : t = 0 := by omega
            rw [this] at hdv
            have := vI_nn (dU.drop j)
            omega
          simp (disch := first | (simp; done) | omega | (simp only [dg_length, dgi_length, List.length_cons]; omega) | rfl) [-getElem?_pos, List.getElem?_cons_zero, List.getElem?_cons_succ, hr, hr2, hr4, hfi4, h19, r9, r10, r11, r12, r13, q1, q2, q3, q4, ru4, rq4, dI_get e4, b4', x7, qj1, qj2, d5, d6, w9]
          refine ⟨j, by omega, ⟨U3.set (j + (k + 2)) (d3 - c + c4), Q.set j (t - 1), ⟨by simp [oldIds, hW4, nn, nq], ?_, rfl, by simp [d6], by simp⟩, by simp, by simp [hul4, hl2], by simp [hql], by omega, ?_, dQ.set (by omega) (by omega), ?_, ?_, ?_, ?_⟩⟩
          · exact (hK4.set (by omega)).set (by omega)
          · refine di_of fun s d hd => ?_
            by_cases hs : s = j + (k + 2)
            · subst hs
              rw [htop4, hz0] at hd
              simp at hd
              omega
            · rw [List.getElem?_set_ne (fun h => hs h.symm)] at hd
              exact hdi4 s d hs hd
          · intro s h1 h2
            by_cases hs : s = j + (k + 2)
            · rw [hs, htop4, hz0]
            · exact hz4 s (by omega) h2
          · exact hlt4
          · intro s hs
            rw [List.getElem?_set_ne (by omega)]; exact hqz s (by omega)
          · rw [v4e, vI_set hq0, ← hval]
            grind
      · have hnn : 0 ≤ vI ((U'.set (j + (k + 2)) (d3 - c)).drop j) := by
          apply Int.le_of_not_gt; intro hc; exact hneg (hto.2 hc)
        have hz0 := hto.1 hnn
        have w9 := dI_set (l := Q) (k := j) (v := t) (by omega)
        have hq0 := hqz j (by omega)
        rw [hdv] at hnn hlt2
        have tlt : t < 1000000000 := by
          apply Int.lt_of_not_ge; intro hc
          have := Int.mul_le_mul_of_nonneg_right hc (Int.le_of_lt hVp)
          omega
        simp (disch := first | (simp; done) | omega | (simp only [dg_length, dgi_length, List.length_cons]; omega) | rfl) [-getElem?_pos, List.getElem?_cons_zero, List.getElem?_cons_succ, hr, hr2, hfi, h15, r9, r10, r11, r12, r13, q1, q2, q3, q4, ru2, rq2, dI_get e3', b1', w7, dI_get htop, hneg, qj1, qj2, d5, d6, w9]
        refine ⟨j, by omega, ⟨U'.set (j + (k + 2)) (d3 - c), Q.set j t, ⟨by simp [oldIds, hW2, nn, nq], ?_, rfl, by simp [d6], by simp⟩, by simp, by simp [hul2, hul'], by simp [hql], by omega, ?_, dQ.set t0 tlt, ?_, ?_, ?_, ?_⟩⟩
        · exact (hK2.set (by omega)).set (by omega)
        · rw [hz0]; exact hdi2.set (by omega) (by omega)
        · intro s h1 h2
          by_cases hs : s = j + (k + 2)
          · rw [hs, htop, hz0]
          · exact hz2 s (by omega) h2
        · rw [hdv]; exact hlt2
        · intro s hs
          rw [List.getElem?_set_ne (by omega)]; exact hqz s (by omega)
        · rw [v2e, vI_set hq0, ← hval]
          grind

end Go.Mx
/- lensletref01.divDigits. -/
namespace Go.Mx
open Go Go.Proofs
set_option maxRecDepth 1000000
set_option linter.unusedSimpArgs false
set_option linter.unusedVariables false

theorem oldIds_le {N n2 : Nat} (h : N ≤ n2) : ∀ {w : List Nat}, oldIds n2 w = [] → oldIds N w = []
  | [], _ => rfl
  | i :: w, hw => by
    simp only [oldIds] at hw ⊢
    by_cases h1 : i < n2
    · rw [if_pos h1] at hw
      unfold noteId at hw
      split at hw
      · rename_i hc
        rw [hw] at hc; simp at hc
      · cases hw
    · rw [if_neg h1] at hw
      rw [if_neg (by omega)]
      exact oldIds_le h hw
theorem append_first {h : T O} {N i : Nat} {w : List Nat} {v : V} {l : List Int} (hr : h.get i = some (.cells [] 3 true)) (hs : Sl h N v (dI l)) (hne : l ≠ []) (hl : l.length < 1099511627776) :
    appendV ⟨h, N, w⟩ 1 8 3 (.slice i 0 0 (some 0) 1) v = some (.slice N 0 l.length none 1, ⟨h.set N (.cells (dI l) 3 true), N + 1, w⟩) := by
  have h0 : l.length ≠ 0 := fun hc => hne (List.eq_nil_of_length_eq_zero hc)
  have hs' := src_sl (w := w) hs
  rw [dI_length] at hs'
  have hb : ¬ (maxBytes < (2 * (0 + l.length) + 1000) * 8) := by unfold maxBytes; omega
  simp only [appendV, hs']
  rw [if_neg h0, if_neg (by rintro (h | h | h) <;> omega)]
  simp only [St.row, hr]
  rw [if_neg (by omega)]
  simp [slc, St.alloc]
theorem pI_nat (k : Nat) : pI k = ((1000000000 ^ k : Nat) : Int) := by unfold pI; simp
theorem ds_bounds {b k : Nat} (h : (ds b).length = k + 1) : ∃ x, (ds b)[k]? = some x ∧ 0 < x ∧ x < 1000000000 ∧ pI k * x ≤ b ∧ (b : Int) < pI k * (x + 1) := by
  have hb : b ≠ 0 := fun hc => by rw [hc, ds_zero] at h; simp at h
  obtain ⟨x, hx, hx0⟩ := ds_last hb
  rw [h, Nat.add_sub_cancel] at hx
  have hd := (ds_di b).get hx
  have hv := ds_val b
  rw [vI_at hx, List.drop_eq_nil_of_le (by omega), vI, Int.mul_zero, Int.add_zero] at hv
  have h1 := vI_nn ((ds_di b).take k)
  have h2 := vI_lt ((ds_di b).take k)
  rw [List.length_take, Nat.min_eq_left (by omega)] at h2
  have h3 : pI k * (x + 1) = pI k * x + pI k := by grind
  exact ⟨x, hx, hx0, hd.2, by omega, by omega⟩
/-- What norming does: as many digits, the first one great. -/
theorem norm_ok {b k : Nat} (h : (ds b).length = k + 1) {x : Int} (hx : (ds b)[k]? = some x) : ∃ f : Nat, (f : Int) = 1000000000 / (x + 1) ∧ 0 < f ∧ f < 1000000000 ∧ (ds (b * f)).length = k + 1 ∧ ∃ y, (ds (b * f))[k]? = some y ∧ 500000000 ≤ y := by
  obtain ⟨x', hx', x0, x1, lo, hi⟩ := ds_bounds h
  obtain rfl : x = x' := Option.some.inj (hx.symm.trans hx')
  have hd : (x + 1) * (1000000000 / (x + 1)) + 1000000000 % (x + 1) = 1000000000 := Int.mul_ediv_add_emod ..
  have hr0 : 0 ≤ 1000000000 % (x + 1) := Int.emod_nonneg _ (by omega)
  have hr1 : 1000000000 % (x + 1) < x + 1 := Int.emod_lt_of_pos _ (by omega)
  have hh := norm_half (x := x) (by omega) x1
  have f0 : 0 < 1000000000 / (x + 1) := by
    apply Int.lt_of_not_ge; intro hc
    have := Int.mul_nonpos_of_nonneg_of_nonpos (a := x) (by omega) hc
    omega
  have f1 : 1000000000 / (x + 1) < 1000000000 := Int.ediv_lt_of_lt_mul (by omega) (by omega)
  obtain ⟨f, hf⟩ := Int.eq_ofNat_of_zero_le (Int.le_of_lt f0)
  rw [hf] at hd hh f0 f1
  have hp := pI_pos k
  have hb1 : ((b * f : Nat) : Int) = (b : Int) * f := by simp
  have up : (b : Int) * f < 1000000000 * pI k := by
    have g1 : (b : Int) * f < pI k * (x + 1) * f := Int.mul_lt_mul_of_pos_right hi f0
    have g2 : pI k * (x + 1) * f = pI k * ((x + 1) * f) := by grind
    have g3 : pI k * ((x + 1) * f) ≤ pI k * 1000000000 := Int.mul_le_mul_of_nonneg_left (by omega) (Int.le_of_lt hp)
    omega
  have low : 500000000 * pI k ≤ (b : Int) * f := by
    have g1 : pI k * x * f ≤ (b : Int) * f := Int.mul_le_mul_of_nonneg_right lo (Int.le_of_lt f0)
    have g2 : pI k * x * f = pI k * (x * f) := by grind
    have g3 : pI k * 500000000 ≤ pI k * (x * f) := Int.mul_le_mul_of_nonneg_left hh (Int.le_of_lt hp)
    omega
  have len1 : (ds (b * f)).length ≤ k + 1 := ds_len_lt (by
    have : ((b * f : Nat) : Int) < ((1000000000 ^ (k + 1) : Nat) : Int) := by rw [← pI_nat, pI_succ, hb1]; exact up
    exact_mod_cast this)
  have len2 : (ds b).length ≤ (ds (b * f)).length := ds_mono (Nat.le_mul_of_pos_right b (by omega))
  have len : (ds (b * f)).length = k + 1 := by omega
  obtain ⟨y, hy, y0, y1, ylo, yhi⟩ := ds_bounds len
  refine ⟨f, hf.symm, by omega, by omega, len, y, hy, ?_⟩
  apply Int.le_of_not_gt
  intro hc
  have : pI k * (y + 1) ≤ pI k * 500000000 := Int.mul_le_mul_of_nonneg_left (by omega) (Int.le_of_lt hp)
  omega
def PdI (N : Nat) (h2 : T O) (n2 la : Nat) (A0 : Int) (m : Nat) (r : T V) (st : St) : Prop := oldIds n2 st.w = [] ∧ Keeps h2 n2 st.h st.n ∧ ∃ u l, r.get 11 = some u ∧ Own 1 3 n2 st.h st.n u (rowsI l) ∧ l.length + m = la + 1 ∧ vI l = A0 ∧ Di l
theorem pad_loop {N : Nat} {h2 : T O} {n2 la : Nat} {A0 : Int} {u0 : V} {r0 : T V} {la' : List Int} (hu0 : Sl h2 n2 u0 (dI la')) (hla : la'.length = la) (hl : la < 1099511627776) (r0e : r0.get 0 = some u0) :
    ∀ m r st, (∀ t, inD [(11, 11), (63, 71)] t = false → r.get t = r0.get t) → Fx [(11, 11), (63, 71)] r0 206 ⟨r, 206, []⟩ → PdI N h2 n2 la A0 m r st → Code A.C none A.lb160_3 ⟨r, 206, []⟩ st (Rd [(11, 11), (63, 71)] r0 206 (PdI N h2 n2 la A0) m (fun e r st => e = .exit 0 ∧ PdI N h2 n2 la A0 0 r st)) := by
  rintro m r ⟨H, n1, W⟩ hr hf ⟨hW, hK, u, l, h11, ho, hm, hv, hd⟩
  simp only at hW hK ho
  have lu := hu0.len
  rw [dI_length, hla] at lu
  have lo := ho.len
  rw [rowsI_len] at lo
  rw [code_run]
  cases m with
  | zero =>
    have : ¬ (l.length : Int) < (la : Int) + 1 := by omega
    simp (disch := first | (simp; done) | omega | (simp only [dg_length, dgi_length, List.length_cons]; omega) | rfl) [-getElem?_pos, List.getElem?_cons_zero, List.getElem?_cons_succ, A.lb160_3, hr, hf, r0e, h11, lu, lo, this]
    exact ⟨hW, hK, u, l, by simp [h11], ho, hm, hv, hd⟩
  | succ m =>
    have h1 : (l.length : Int) < (la : Int) + 1 := by omega
    have nle := hK.le
    obtain ⟨v', h', w', e1, e2, e3, e4, e5⟩ := append_own (x := [.int .i64 0]) (u := .slice n1 0 1 (some 1) 1) (bytes := 8) (w := W) (ho.keep (Keeps.refl.new (.cells [.int .i64 0] 3 true))) (by omega) (by decide) rfl (by simp [srcCells, St.row, slc]) (by rw [rowsI_len]; omega)
    rw [← rowsI_snoc] at e5
    simp (disch := first | (simp; done) | omega | (simp only [dg_length, dgi_length, List.length_cons]; omega) | rfl) [-getElem?_pos, List.getElem?_cons_zero, List.getElem?_cons_succ, A.lb160_3, hr, hf, r0e, h11, lu, lo, h1, splice, e1]
    refine ⟨m, by omega, ⟨by rw [e2]; exact hW, ((hK.new _).then e3), v', l ++ [0], by simp, e5, by simp; omega, by rw [vI_snoc, hv]; simp, hd.app (Di.one (by omega) (by omega))⟩⟩

end Go.Mx
