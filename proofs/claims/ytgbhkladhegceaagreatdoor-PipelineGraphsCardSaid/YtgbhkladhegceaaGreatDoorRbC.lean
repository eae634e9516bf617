/-
  lensletref01: compareDigits, divDigit.
-/
import Derived.Test.YtgbhkladhegceaaGreatDoorRbB
set_option linter.all false
namespace Go.Mx
open Go Go.Proofs
set_option maxRecDepth 1000000
set_option linter.unusedSimpArgs false
set_option linter.unusedVariables false

theorem ds_mono : ∀ {b a : Nat}, a ≤ b → (ds a).length ≤ (ds b).length := by
  intro b
  induction b using Nat.strongRecOn with
  | _ b ih =>
    intro a h
    by_cases h0 : a = 0
    · rw [h0, ds_zero]; simp
    · rw [ds_pos h0, ds_pos (n := b) (by omega)]
      have := ih (b / 1000000000) (Nat.div_lt_self (by omega) (by decide)) (a := a / 1000000000) (Nat.div_le_div_right h)
      simp only [List.length_cons]; omega
theorem vI_at {A : List Int} {k : Nat} {x : Int} (hx : A[k]? = some x) : vI A = vI (A.take k) + pI k * (x + 1000000000 * vI (A.drop (k + 1))) := by
  have hk := lt_of_get hx
  rw [vI_split A k (by omega), get_drop_cons hx, vI]
theorem cmp_at {A B : List Int} {k : Nat} {x y : Int} (hA : Di A) (hB : Di B) (hx : A[k]? = some x) (hy : B[k]? = some y) (he : A.drop (k + 1) = B.drop (k + 1)) (hxy : x < y) : vI A < vI B := by
  have hk := lt_of_get hx
  rw [vI_at hx, vI_at hy, he]
  have h1 := vI_lt (hA.take k)
  have h2 := vI_nn (hB.take k)
  rw [List.length_take, Nat.min_eq_left (by omega)] at h1
  have h3 : pI k * (x + 1000000000 * vI (B.drop (k + 1)) + 1) ≤ pI k * (y + 1000000000 * vI (B.drop (k + 1))) := Int.mul_le_mul_of_nonneg_left (by omega) (Int.le_of_lt (pI_pos k))
  have h4 : pI k * (x + 1000000000 * vI (B.drop (k + 1)) + 1) = pI k * (x + 1000000000 * vI (B.drop (k + 1))) + pI k := by grind
  omega
def cmpN (a b : Nat) : Int := if a < b then -1 else if b < a then 1 else 0
theorem cmpD_eq {h : T O} {N : Nat} {u v : V} {a b : Nat} {w : List Nat} (hu : Dn h N u a) (hv : Dn h N v b) (hl : (ds a).length < 1152921504606846976) (hl2 : (ds b).length < 1152921504606846976) : A.C.call (.func 197 [] []) [u, v] ⟨h, N, w⟩ = some (.int .i64 (cmpN a b), ⟨h, N, w⟩) := by
  apply Call.eq
  have lu := hu.len
  have lv := hv.len
  rw [dI_length] at lu lv
  have va := ds_val a
  have vb := ds_val b
  have da := ds_di a
  have db := ds_di b
  rw [call_run, A.k197 (by simp)]
  unfold cmpN
  by_cases h1 : (ds a).length = (ds b).length
  · have h1' : ((ds a).length : Int) = ((ds b).length : Int) := by omega
    simp (disch := first | (simp; done) | omega | (simp only [dg_length, dgi_length, List.length_cons]; omega) | rfl) [-getElem?_pos, List.getElem?_cons_zero, List.getElem?_cons_succ, A.b197, lu, lv, eqPrim, h1]
    generalize hA : ds a = X at *
    generalize hB : ds b = Y at *
    refine run_loopD [(4, 5), (19, 40)] (fun e r st => st = ⟨h, N, []⟩ ∧ ((e = .exit 0 ∧ a = b) ∨ (e = .ret ∧ a < b ∧ r.get 4 = some (.int .i64 (-1))) ∨ (e = .ret ∧ b < a ∧ r.get 4 = some (.int .i64 1)))) (fun m r st => st = ⟨h, N, []⟩ ∧ m ≤ X.length ∧ r.get 5 = some (.int .i64 ((m : Int) - 1)) ∧ X.drop m = Y.drop m) X.length ?_ ?_ ?_
    · exact ⟨rfl, Nat.le_refl _, by simp [h1], by rw [List.drop_length, h1, List.drop_length]⟩
    · rintro m r _ hr hf ⟨rfl, hm, h5, he⟩
      rw [code_run]
      cases m with
      | zero =>
        have : a = b := by
          simp at he; rw [he] at va; omega
        simp (disch := first | (simp; done) | omega | (simp only [dg_length, dgi_length, List.length_cons]; omega) | rfl) [-getElem?_pos, List.getElem?_cons_zero, List.getElem?_cons_succ, A.lb197_0, hr, hf, h5, this]
      | succ k =>
        obtain ⟨x, hx⟩ := get_of_lt (l := X) (k := k) (by omega)
        obtain ⟨y, hy⟩ := get_of_lt (l := Y) (k := k) (by omega)
        obtain ⟨b1, b2, b3, b4, b5, z1, z2, z3, z4⟩ := Sl.at (show Sl h N u (dI (ds a)) from hu) (by rw [hA]; exact dI_get hx)
        obtain ⟨c1, c2, c3, c4, c5, y1, y2, y3, y4⟩ := Sl.at (show Sl h N v (dI (ds b)) from hv) (by rw [hB]; exact dI_get hy)
        have hq1 : (((k + 1 : Nat) : Int) - 1) = (k : Int) := by omega
        rw [hq1] at h5
        have hk1 : (k : Int) < (X.length : Int) := by omega
        have hk2 : (k : Int) < (Y.length : Int) := by omega
        have hk3 : (0 : Int) ≤ (k : Int) := by omega
        have hk4 : k < Y.length := by omega
        by_cases hlt : x < y
        · have := cmp_at da db hx hy he hlt
          have hab : a < b := by omega
          simp (disch := first | (simp; done) | omega | (simp only [dg_length, dgi_length, List.length_cons]; omega) | rfl) [-getElem?_pos, List.getElem?_cons_zero, List.getElem?_cons_succ, A.lb197_0, hr, hf, h5, lu, lv, hk1, hk2, hk3, hk4, z1, z2, z3, z4, y1, y2, y3, y4, hlt, hab]
        · by_cases hgt : y < x
          · have := cmp_at db da hy hx he.symm hgt
            have hab : b < a := by omega
            have hab2 : ¬ a < b := by omega
            simp (disch := first | (simp; done) | omega | (simp only [dg_length, dgi_length, List.length_cons]; omega) | rfl) [-getElem?_pos, List.getElem?_cons_zero, List.getElem?_cons_succ, A.lb197_0, hr, hf, h5, lu, lv, hk1, hk2, hk3, hk4, z1, z2, z3, z4, y1, y2, y3, y4, hlt, hgt, hab, hab2]
          · have hxy : x = y := by omega
            simp (disch := first | (simp; done) | omega | (simp only [dg_length, dgi_length, List.length_cons]; omega) | rfl) [-getElem?_pos, List.getElem?_cons_zero, List.getElem?_cons_succ, A.lb197_0, hr, hf, h5, lu, lv, hk1, hk2, hk3, hk4, z1, z2, z3, z4, y1, y2, y3, y4, hlt, hgt]
            exact ⟨k, by omega, by omega, rfl, by rw [get_drop_cons hx, get_drop_cons hy, he, hxy]⟩
    · rintro e r _ hr ⟨rfl, ⟨rfl, hz⟩ | ⟨rfl, hz, h4⟩ | ⟨rfl, hz, h4⟩⟩
      · simp (disch := first | (simp; done) | omega | (simp only [dg_length, dgi_length, List.length_cons]; omega) | rfl) [-getElem?_pos, List.getElem?_cons_zero, List.getElem?_cons_succ, hr, hz]
      · simp (disch := first | (simp; done) | omega | (simp only [dg_length, dgi_length, List.length_cons]; omega) | rfl) [-getElem?_pos, List.getElem?_cons_zero, List.getElem?_cons_succ, hr, h4, hz]
      · have : ¬ a < b := by omega
        simp (disch := first | (simp; done) | omega | (simp only [dg_length, dgi_length, List.length_cons]; omega) | rfl) [-getElem?_pos, List.getElem?_cons_zero, List.getElem?_cons_succ, hr, h4, hz, this]
  · have h1' : ¬ ((ds a).length : Int) = ((ds b).length : Int) := by omega
    by_cases h2 : (ds a).length < (ds b).length
    · have hab : a < b := by
        apply Nat.lt_of_not_le; intro hc; have := ds_mono hc; omega
      simp (disch := first | (simp; done) | omega | (simp only [dg_length, dgi_length, List.length_cons]; omega) | rfl) [-getElem?_pos, List.getElem?_cons_zero, List.getElem?_cons_succ, A.b197, lu, lv, eqPrim, h1, h2, hab]
    · have hab : b < a := by
        apply Nat.lt_of_not_le; intro hc; have := ds_mono hc; omega
      have hab2 : ¬ a < b := by omega
      simp (disch := first | (simp; done) | omega | (simp only [dg_length, dgi_length, List.length_cons]; omega) | rfl) [-getElem?_pos, List.getElem?_cons_zero, List.getElem?_cons_succ, A.b197, lu, lv, eqPrim, h1, h2, hab, hab2]
structure DdA (h : T O) (N : Nat) (l : List Int) (d : Int) (m : Nat) (r : T V) (st : St) : Prop where
  w : oldIds N st.w = []
  keep : Keeps h N st.h (N + 1)
  n : st.n = N + 1
  r8 : r.get 8 = some (.int .i64 ((m : Int) - 1))
  hm : m ≤ l.length
  ex : ∃ out rest, st.h.get N = some (.cells (dI out) 3 true) ∧ out.length = l.length ∧ r.get 7 = some (.int .i64 rest) ∧ 0 ≤ rest ∧ rest < d ∧ Di (out.drop m) ∧ vI (out.drop m) * d + rest = vI (l.drop m)
theorem divDigit_fn {h : T O} {N : Nat} {v : V} {l : List Int} {d : Int} (hs : Sl h N v (dI l)) (hd : Di l) (hl : l.length < 1099511627776) (h0 : 0 < d) (h1 : d < 1000000000) : Fn A.C 198 [v, .int .i64 d] h N (fun u h' n' => ∃ q, u = .tup [q, .int .i64 ((vI l).toNat % d.toNat : Nat)] ∧ Dn h' n' q ((vI l).toNat / d.toNat)) := by
  intro w
  have lv := hs.len
  rw [dI_length] at lv
  rw [call_run, A.k198 (by simp)]
  simp (disch := first | (simp; done) | omega | (simp only [dg_length, dgi_length, List.length_cons]; omega) | rfl) [-getElem?_pos, List.getElem?_cons_zero, List.getElem?_cons_succ, A.b198, lv]
  refine run_loopD [(7, 9), (16, 35)] (fun e r st => e = .exit 0 ∧ DdA h N l d 0 r st) (DdA h N l d) l.length ?_ ?_ ?_
  · refine ⟨by simp, Keeps.refl.new _, rfl, by simp, Nat.le_refl _, List.replicate l.length 0, 0, by simp [dI_zeros], by simp, by simp, by omega, h0, ?_, ?_⟩
    · rw [List.drop_eq_nil_of_le (by simp)]; exact Di.nil
    · rw [List.drop_eq_nil_of_le (by simp), List.drop_length]; simp [vI]
  · rintro m r ⟨H, n1, W⟩ hr hf ⟨hW, hK, hn, h8, hm, out, rest, hrow, hol, h7, hr0, hrd, hdi, hv⟩
    simp only at hW hK hn hrow
    subst hn
    rw [code_run]
    cases m with
    | zero =>
      simp (disch := first | (simp; done) | omega | (simp only [dg_length, dgi_length, List.length_cons]; omega) | rfl) [-getElem?_pos, List.getElem?_cons_zero, List.getElem?_cons_succ, A.lb198_0, hr, hf, h8]
      exact ⟨hW, hK, rfl, by simpa using h8, hm, out, rest, hrow, hol, by simp [h7], hr0, hrd, hdi, hv⟩
    | succ k =>
      obtain ⟨x, hx⟩ := get_of_lt (l := l) (k := k) (by omega)
      obtain ⟨b1, b2, b3, b4, b5, z1, z2, z3, z4⟩ := hs.at (dI_get hx)
      have z3 := (hK.get _ z2).trans z3
      have hxd := hd.get hx
      have hq1 : (((k + 1 : Nat) : Int) - 1) = (k : Int) := by omega
      rw [hq1] at h8
      have hk1 : (k : Int) < (l.length : Int) := by omega
      have hk2 : k < l.length := by omega
      have hk3 : (0 : Int) ≤ (k : Int) := by omega
      have w1 : wrapF .i64 (rest * 1000000000) = rest * 1000000000 := wrapF_i64 (by omega) (by omega)
      have w2 : wrapF .i64 (rest * 1000000000 + x) = rest * 1000000000 + x := wrapF_i64 (by omega) (by omega)
      have s0 : 0 ≤ rest * 1000000000 + x := by omega
      have hd0 : ¬ d = 0 := by omega
      have t1 : (rest * 1000000000 + x).tdiv d = (rest * 1000000000 + x) / d := Int.tdiv_eq_ediv_of_nonneg s0
      have t2 : (rest * 1000000000 + x).tmod d = (rest * 1000000000 + x) % d := Int.tmod_eq_emod_of_nonneg s0
      have t3 := Int.mul_ediv_add_emod (rest * 1000000000 + x) d
      have t4 : 0 ≤ (rest * 1000000000 + x) / d := Int.ediv_nonneg s0 (by omega)
      have t5 : (rest * 1000000000 + x) / d < 1000000000 := by
        apply Int.ediv_lt_of_lt_mul h0
        omega
      have t6 := Int.emod_nonneg (rest * 1000000000 + x) hd0
      have t7 := Int.emod_lt_of_pos (rest * 1000000000 + x) h0
      have w3 : wrapF .i64 ((rest * 1000000000 + x) / d) = (rest * 1000000000 + x) / d := wrapF_i64 (by omega) (by omega)
      have w8 := dI_length out
      have w7 := dI_set (l := out) (k := k) (v := (rest * 1000000000 + x) / d) (by omega)
      simp (disch := first | (simp; done) | omega | (simp only [dg_length, dgi_length, List.length_cons]; omega) | rfl) [-getElem?_pos, List.getElem?_cons_zero, List.getElem?_cons_succ, A.lb198_0, hr, hf, h8, h7, hk1, hk2, hk3, lv, z1, z3, z4, w1, w2, w3, hd0, t1, t2, hrow, w7]
      have e1 : (out.set k ((rest * 1000000000 + x) / d)).drop k = ((rest * 1000000000 + x) / d) :: out.drop (k + 1) := by
        rw [get_drop_cons (d := (rest * 1000000000 + x) / d) (by rw [List.getElem?_set_self (by omega)])]
        rw [List.drop_set_of_lt (by omega)]
      generalize (rest * 1000000000 + x) / d = q at *
      generalize (rest * 1000000000 + x) % d = r' at *
      refine ⟨k, by omega, ⟨by simp [oldIds, hW], hK.set (Nat.le_refl N), rfl, by simp, by omega, out.set k q, r', by simp, by simp [hol], by simp, t6, t7, ?_, ?_⟩⟩
      · rw [e1]; exact Di.app (Di.one t4 t5) hdi
      · rw [e1, get_drop_cons hx, vI, vI, ← hv]
        grind
  · rintro _ r ⟨H, n1, W⟩ hr ⟨rfl, hW, hK, hn, h8, hm, out, rest, hrow, hol, h7, hr0, hrd, hdi, hv⟩
    simp only at hW hK hn hrow
    subst hn
    rw [List.drop_zero, List.drop_zero] at *
    have hs2 : Sl H (N + 1) (.slice N 0 l.length (some l.length) 1) (dI out) := Sl.row (by omega) hrow (by simp [hol]) (fun k hk => by simp at hk; omega)
    simp (disch := first | (simp; done) | omega | (simp only [dg_length, dgi_length, List.length_cons]; omega) | rfl) [-getElem?_pos, List.getElem?_cons_zero, List.getElem?_cons_succ, hr, h7]
    refine run_fn (rtrim_fn hs2 (by omega)) ?_
    rintro u h2 n2 k2 hu
    have hvo := vI_nn hdi
    have hvl := vI_nn hd
    have m1 : (vI l).toNat / d.toNat = (vI out).toNat := by
      have : (vI l) / d = vI out := by
        rw [← hv, Int.mul_comm, Int.add_comm, Int.add_mul_ediv_left _ _ (by omega), Int.ediv_eq_zero_of_lt hr0 hrd]; omega
      rw [← this]
      obtain ⟨a, ha⟩ := Int.eq_ofNat_of_zero_le hvl
      obtain ⟨b, hb⟩ := Int.eq_ofNat_of_zero_le (Int.le_of_lt h0)
      rw [ha, hb]; rfl
    have m2 : (((vI l).toNat % d.toNat : Nat) : Int) = rest := by
      have : (vI l) % d = rest := by
        rw [← hv, Int.mul_comm, Int.add_comm, Int.add_mul_emod_self_left, Int.emod_eq_of_lt hr0 hrd]
      rw [← this]
      obtain ⟨a, ha⟩ := Int.eq_ofNat_of_zero_le hvl
      obtain ⟨b, hb⟩ := Int.eq_ofNat_of_zero_le (Int.le_of_lt h0)
      rw [ha, hb]; rfl
    rw [trimI_ds hdi] at hu
    have m2' : rest = max (vI l) 0 % max d 0 := by rw [← m2]; simp
    simp (disch := first | (simp; done) | omega | (simp only [dg_length, dgi_length, List.length_cons]; omega) | rfl) [-getElem?_pos, List.getElem?_cons_zero, List.getElem?_cons_succ, hr, h7, Ret, hW]
    refine ⟨hK.trans k2, u, ⟨rfl, m2'⟩, ?_⟩
    rw [m1]
    exact hu

end Go.Mx
