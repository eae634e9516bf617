/-
  lensletref01.divDigits: the quotient and the rest.
-/
import Derived.Test.YtgbhkladhegceaaGreatDoorRbE
set_option linter.all false
namespace Go.Mx
open Go Go.Proofs
set_option maxRecDepth 1000000
set_option linter.unusedSimpArgs false
set_option linter.unusedVariables false

theorem ds_one {r : Nat} (h : r < 1000000000) : trimI [(r : Int)] = ds r := trimI_eq (Di.one (by omega) (by omega)) (by simp [vI])
theorem rdiv_fn {h : T O} {N : Nat} {u v : V} {a b : Nat} (hu : Dn h N u a) (hv : Dn h N v b) (hb : 0 < b) (hl : (ds a).length < 1000000000) (hl2 : (ds b).length < 1000000000) : Fn A.C 160 [u, v] h N (fun x h' n' => ∃ q r, x = .tup [q, r] ∧ Dn h' n' q (a / b) ∧ Dn h' n' r (a % b)) := by
  intro w
  have lu := hu.len
  have lv := hv.len
  rw [dI_length] at lu lv
  rw [call_run, A.k160 (by simp)]
  by_cases hab : a < b
  · have hc0 : cmpN a b = -1 := by simp [cmpN, hab]
    have hc := fun w => cmpD_eq (w := w) hu hv (by omega) (by omega)
    simp (disch := first | (simp; done) | omega | (simp only [dg_length, dgi_length, List.length_cons]; omega) | rfl) [-getElem?_pos, List.getElem?_cons_zero, List.getElem?_cons_succ, A.b160, hc, hc0, Ret]
    refine ⟨Keeps.refl, .nilslice, u, ⟨rfl, rfl⟩, ?_, ?_⟩
    · rw [Nat.div_eq_of_lt hab]; unfold Dn; rw [ds_zero]; exact Sl.nil
    · rw [Nat.mod_eq_of_lt hab]; exact hu
  · have hba : b ≤ a := by omega
    have hlb := ds_mono hba
    have hc := fun w => cmpD_eq (w := w) hu hv (by omega) (by omega)
    have hcn : ¬ cmpN a b < 0 := by unfold cmpN; rw [if_neg hab]; split <;> omega
    have hL1 : 1 ≤ (ds b).length := by
      have : ds b ≠ [] := fun hc => by rw [ds_eq_nil] at hc; omega
      exact List.length_pos_iff.2 this
    by_cases hL : (ds b).length = 1
    · obtain ⟨x, hx⟩ := get_of_lt (l := ds b) (k := 0) (by omega)
      have hbx : ds b = [x] := by
        cases hq : ds b with
        | nil => rw [hq] at hL; simp at hL
        | cons y l =>
          rw [hq] at hL hx
          simp at hL hx
          rw [hL, hx]
      have hxv := ds_val b
      rw [hbx] at hxv
      simp [vI] at hxv
      have hxd := (ds_di b).get hx
      obtain ⟨b1, b2, b3, b4, b5, z1, z2, z3, z4⟩ := Sl.at (show Sl h N v (dI (ds b)) from hv) (dI_get hx)
      simp at z4
      simp (disch := first | (simp; done) | omega | (simp only [dg_length, dgi_length, List.length_cons]; omega) | rfl) [-getElem?_pos, List.getElem?_cons_zero, List.getElem?_cons_succ, A.b160, hc, hcn, lv, hL, eqPrim, z1, z3, z4]
      refine run_fn (divDigit_fn (show Sl h N u (dI (ds a)) from hu) (ds_di a) (by omega) (by omega) hxd.2) ?_
      rintro y h1 n1 k1 ⟨q, rfl, hq⟩
      rw [ds_val] at hq
      simp only [ds_val]
      have e1 : (a : Int).toNat = a := by omega
      have e2 : x.toNat = b := by omega
      rw [e1, e2] at hq
      rw [e1, e2]
      have hRb := Nat.mod_lt a hb
      have hb9 : b < 1000000000 := by omega
      generalize hQ : a / b = Q at *
      generalize hR : a % b = R at *
      simp (disch := first | (simp; done) | omega | (simp only [dg_length, dgi_length, List.length_cons]; omega) | rfl) [-getElem?_pos, List.getElem?_cons_zero, List.getElem?_cons_succ, splice]
      refine run_fn (rtrim_fn (l := [(R : Int)]) (Sl.row (e := 3) (rw := true) (cp := some 1) (Nat.lt_succ_self n1) (by simp [dI]) rfl (fun k hk => by simp at hk; omega)) (by simp)) ?_
      rintro y2 h2 n2 k2 hy2
      rw [ds_one (by omega)] at hy2
      have kk := (Keeps.refl (h := h1) (n := n1)).new (.cells [.int .i64 (R : Int)] 3 true)
      simp (disch := first | (simp; done) | omega | (simp only [dg_length, dgi_length, List.length_cons]; omega) | rfl) [-getElem?_pos, List.getElem?_cons_zero, List.getElem?_cons_succ, Ret]
      exact ⟨(k1.trans kk).trans k2, q, y2, ⟨rfl, rfl⟩, hq.keep (kk.trans k2), hy2⟩
    · obtain ⟨k, hk⟩ : ∃ k, (ds b).length = k + 2 := ⟨(ds b).length - 2, by omega⟩
      obtain ⟨x, hx⟩ := get_of_lt (l := ds b) (k := k + 1) (by omega)
      have hxd := (ds_di b).get hx
      obtain ⟨f, hf, f0, f1, hlen, y1, hy1, hy5⟩ := norm_ok (k := k + 1) (by omega) hx
      obtain ⟨b1, b2, b3, b4, b5, z1, z2, z3, z4⟩ := Sl.at (show Sl h N v (dI (ds b)) from hv) (dI_get hx)
      have c1 : ((k : Int) + 2 - 1) = (k : Int) + 1 := by omega
      have c2 : (k : Int) + 1 < (k : Int) + 2 := by omega
      have c3 : ¬ ((k : Int) + 2 = 1) := by omega
      have c4 : ((k : Int) + 1).toNat = k + 1 := by omega
      have c5 : (0 : Int) ≤ (k : Int) + 1 := by omega
      have w1 : wrapF .i64 (x + 1) = x + 1 := wrapF_i64 (by omega) (by omega)
      have w2 : (1000000000 : Int).tdiv (x + 1) = f := by rw [hf]; exact Int.tdiv_eq_ediv_of_nonneg (by decide)
      have w3 : wrapF .i64 (f : Int) = f := wrapF_i64 (by omega) (by omega)
      have c6 : ¬ x + 1 = 0 := by omega
      rw [hk] at lv
      simp (disch := first | (simp; done) | omega | (simp only [dg_length, dgi_length, List.length_cons]; omega) | rfl) [-getElem?_pos, List.getElem?_cons_zero, List.getElem?_cons_succ, A.b160, hc, hcn, lv, eqPrim, c1, c2, c3, c4, c5, c6, z1, z3, z4, w1, w2, w3, splice]
      have k0 := (Keeps.refl (h := h) (n := N)).new (.cells [.int .i64 (f : Int)] 3 true)
      have hfr : Sl (h.set N (.cells [.int .i64 (f : Int)] 3 true)) (N + 1) (.slice N 0 1 (some 1) 1) (dI [(f : Int)]) := Sl.row (e := 3) (rw := true) (Nat.lt_succ_self N) (by simp [dI]) rfl (fun k hk => by simp at hk; omega)
      have dF : Di [(f : Int)] := Di.one (by omega) (by omega)
      refine run_fn (rmul_fn (a := b) (b := f) (Sl.keep hv k0) hfr (ds_di b) dF (ds_val b) (by simp [vI]) (by simp; omega)) ?_
      rintro vv h1 n1 k1 hvv
      have kle1 := k1.le
      have lvv := hvv.len
      have hlen' : (ds (b * f)).length = k + 2 := by omega
      rw [dI_length, hlen'] at lvv
      simp (disch := first | (simp; done) | omega | (simp only [dg_length, dgi_length, List.length_cons]; omega) | rfl) [-getElem?_pos, List.getElem?_cons_zero, List.getElem?_cons_succ, lvv]
      have k1a := (Keeps.refl (h := h1) (n := n1)).new (.cells [] 3 true)
      refine run_fn (rmul_fn (a := a) (b := f) (((Sl.keep hu k0).keep k1).keep k1a) ((hfr.keep k1).keep k1a) (ds_di a) dF (ds_val a) (by simp [vI]) (by simp; omega)) ?_
      rintro uu h2 n2 k2 huu
      have kle2 := k2.le
      have hne : ds (a * f) ≠ [] := fun hc => by
        rw [ds_eq_nil] at hc
        have : 0 < a * f := Nat.mul_pos (by omega) f0
        omega
      have hlaf : (ds (a * f)).length ≤ (ds a).length + 1 := by
        apply ds_len_lt
        have g1 := vI_lt (ds_di a)
        rw [ds_val, pI_nat] at g1
        have g2 : a < 1000000000 ^ (ds a).length := by exact_mod_cast g1
        rw [Nat.pow_succ]
        exact Nat.mul_lt_mul'' g2 f1
      have hemp := (k2.get n1 (by omega)).trans (show _ = some (.cells [] 3 true) by simp)
      have hap := append_first (w := []) hemp huu hne (by omega)
      simp (disch := first | (simp; done) | omega | (simp only [dg_length, dgi_length, List.length_cons]; omega) | rfl) [-getElem?_pos, List.getElem?_cons_zero, List.getElem?_cons_succ, hap, lu]
      have hN2 : N ≤ n2 := by omega
      have kk2 := (((k0.trans k1).trans k1a).trans k2)
      refine run_loopD [(11, 11), (63, 71)] (fun e r st => e = .exit 0 ∧ PdI N h2 n2 (ds a).length ((a * f : Nat) : Int) 0 r st) (PdI N h2 n2 (ds a).length ((a * f : Nat) : Int)) ((ds a).length + 1 - (ds (a * f)).length) ?_ ?_ ?_
      · refine ⟨by simp, Keeps.refl.new _, _, ds (a * f), by simp; rfl, ⟨fun q hq => ?_, .inr ⟨n2, by rw [rowsI_len], Nat.le_refl _, by show n2 < n2 + 1; omega, by simp [rowsI_flat]⟩⟩, by omega, ds_val _, ds_di _⟩
        simp [rowsI] at hq
        obtain ⟨q', _, rfl⟩ := hq
        rfl
      · exact pad_loop (((Sl.keep hu k0).keep k1).keep k1a |>.keep k2) rfl (by omega) (by simp)
      · rintro _ r ⟨H, n3, W⟩ hr ⟨rfl, hW, hK, u3, l, h11, ho, hm, hval, hdl⟩
        simp only at hW hK ho
        obtain ⟨_, ⟨h0, _⟩ | ⟨iu, hu3, i1, i2, i3⟩⟩ := ho
        · simp [rowsI] at h0; rw [h0] at hm; simp at hm
        · rw [rowsI_len] at hu3
          rw [rowsI_flat] at i3
          subst hu3
          have hlu : l.length = (ds a).length + 1 := by omega
          have hka : k + 2 < l.length := by omega
          obtain ⟨S, hS⟩ : ∃ S, S = l.length - (k + 2) := ⟨_, rfl⟩
          have cS : ((l.length : Int) - ((k : Int) + 2)) = (S : Int) := by omega
          have oN := oldIds_le hN2 hW
          have kH := hK.new (.cells (dI (List.replicate S 0)) 3 true)
          have nle := hK.le
          have mz : (zrep [.int .i64 0] S : List V) = dI (List.replicate S 0) := dI_zeros
          simp (disch := first | (simp; done) | omega | (simp only [dg_length, dgi_length, List.length_cons]; omega) | rfl) [-getElem?_pos, List.getElem?_cons_zero, List.getElem?_cons_succ, hr, h11, cS, mz]
          have hvY := Dn.keep hvv (k1a.trans k2)
          have hval' : vI l = (a * f : Nat) := hval
          refine run_loopD [(13, 21), (82, 191)] (fun e r st => e = .exit 2 ∧ OuI N h2 n2 iu n3 (n3 + 1) l.length (k + 2) ((a * f : Nat) : Int) (ds (b * f)) 0 r st) (OuI N h2 n2 iu n3 (n3 + 1) l.length (k + 2) ((a * f : Nat) : Int) (ds (b * f))) S ?_ ?_ ?_
          · refine ⟨l, List.replicate S 0, ⟨oN, kH, rfl, ?_, by simp⟩, by simp, rfl, by simp [hS], by omega, hdl, Di.zeros _, fun s h1 h2 => by omega, ?_, fun s hs => by simp [hs], by rw [vI_zeros, hval]; simp⟩
            · rw [T.get_set, if_neg (by omega)]; exact i3
            · obtain ⟨x', hx', x0, x1, lo, hi⟩ := ds_bounds (b := b) (k := k + 1) (by omega)
              have g1 := vI_lt (ds_di a)
              rw [ds_val, show (ds a).length = S + (k + 1) by omega, pI_add] at g1
              have g2 := vI_split l S (by omega)
              have g3 := vI_nn (hdl.take S)
              have g4 : pI (k + 1) * 1 ≤ pI (k + 1) * x' := Int.mul_le_mul_of_nonneg_left (by omega) (Int.le_of_lt (pI_pos _))
              have g5 : pI S * pI (k + 1) ≤ pI S * b := Int.mul_le_mul_of_nonneg_left (by omega) (Int.le_of_lt (pI_pos _))
              have g6 : (a : Int) * f < pI S * b * f := Int.mul_lt_mul_of_pos_right (by omega) (by omega)
              rw [ds_val]
              apply Int.lt_of_not_ge
              intro hc
              have g7 : pI S * ((b * f : Nat) : Int) ≤ pI S * vI (l.drop S) := Int.mul_le_mul_of_nonneg_left hc (Int.le_of_lt (pI_pos _))
              have g8 : pI S * ((b * f : Nat) : Int) = pI S * b * f := by push_cast; grind
              have g9 : ((a * f : Nat) : Int) = (a : Int) * f := by push_cast; rfl
              omega
          · exact out_loop hvY hlen' (ds_di _) hy1 hy5 hka (by omega) (by simp [hr]) (by simp [hr]) (by simp [hr, h11]) (by simp [hS]) hN2 i1 i2 (Nat.lt_succ_self n3)
          · rintro _ r4 ⟨H4, n4, W4⟩ hr4 ⟨rfl, U, Q, ⟨hW4, hK4, hn4, ru4, rq4⟩, r13, hUl, hQl, _, dU, dQ, hz, hdr, _, hfin⟩
            simp only at hW4 hK4 hn4 ru4 rq4
            subst hn4
            rw [List.drop_zero] at hdr
            rw [ds_val] at hdr hfin
            obtain ⟨qn, hqn⟩ := Int.eq_ofNat_of_zero_le (vI_nn dQ)
            obtain ⟨un, hun⟩ := Int.eq_ofNat_of_zero_le (vI_nn dU)
            rw [hqn, hun] at hfin
            rw [hun] at hdr
            have hfn : un + b * f * qn = a * f := by exact_mod_cast hfin
            have hdn : un < b * f := by exact_mod_cast hdr
            have m1 : a / b = qn := by
              have : a * f / (b * f) = qn := by
                rw [← hfn, Nat.add_mul_div_left _ _ (by omega), Nat.div_eq_of_lt hdn, Nat.zero_add]
              rw [← this, Nat.mul_div_mul_right _ _ f0]
            have m2 : un / f = a % b := by
              have : a * f % (b * f) = un := by rw [← hfn, Nat.add_mul_mod_self_left, Nat.mod_eq_of_lt hdn]
              rw [← this, Nat.mul_mod_mul_right, Nat.mul_div_cancel _ f0]
            have hsU : Sl H4 (n3 + 1) (.slice iu 0 l.length none 1) (dI U) := Sl.row (by omega) ru4 (by simp [hUl]) (fun k hk => by cases hk)
            have hsQ : Sl H4 (n3 + 1) (.slice n3 0 S (some S) 1) (dI Q) := Sl.row (by omega) rq4 (by simp [hQl, hS]) (fun k hk => by simp at hk; omega)
            obtain ⟨v', e1, e2⟩ := sliceK_sl (w := []) hsU (lo := 0) (hi := k + 2) (by omega) (by rw [dI_length]; omega) none (some (.int .i64 ((k + 2 : Nat) : Int))) (.inr ⟨rfl, rfl⟩) (.inl rfl)
            have e3 : ((dI U).take (k + 2)).drop 0 = dI (U.take (k + 2)) := by rw [List.drop_zero, dI, ← List.map_take]; rfl
            rw [e3] at e2
            have ck : ((k + 2 : Nat) : Int) = (k : Int) + 2 := by omega
            rw [ck] at e1
            have frow := (hK4.get N (by omega)).trans ((k2.get N (by omega)).trans ((show _ = h1.get N by simp; omega).trans ((k1.get N (by omega)).trans (show _ = some (.cells [.int .i64 (f : Int)] 3 true) by simp))))
            have hdU2 : vI (U.take (k + 2)) = un := by
              rw [← hun]
              exact (vI_take_zero (fun t h1 h2 => hz t (by omega) (by omega))).symm
            simp (disch := first | (simp; done) | omega | (simp only [dg_length, dgi_length, List.length_cons]; omega) | rfl) [-getElem?_pos, List.getElem?_cons_zero, List.getElem?_cons_succ, hr, hr4, h11, op_sliceSl_K, evOpt, e1]
            refine run_fn (rtrim_fn e2 (by simp; omega)) ?_
            rintro y5 h5 n5 k5 hy5'
            rw [trimI_eq (dU.take _) hdU2] at hy5'
            have kle5 := k5.le
            have frow5 := (k5.get N (by omega)).trans frow
            have lt5 : N < n5 := by omega
            have lt4 : iu < n3 + 1 := by omega
            have lenun : (ds un).length < 1099511627776 := by
              have : (ds un).length ≤ (ds (b * f)).length := ds_mono (by omega)
              omega
            simp (disch := first | (simp; done) | omega | (simp only [dg_length, dgi_length, List.length_cons]; omega) | rfl) [-getElem?_pos, List.getElem?_cons_zero, List.getElem?_cons_succ, hr, hr4, frow5]
            refine run_fn (divDigit_fn (d := (f : Int)) hy5' (ds_di un) lenun (by omega) (by omega)) ?_
            rintro y6 h6 n6 k6 ⟨q6, rfl, hq6⟩
            have t1 : (vI (ds un)).toNat = un := by rw [ds_val]; omega
            have t2 : ((f : Nat) : Int).toNat = f := by omega
            rw [t1, t2] at hq6
            rw [m2] at hq6
            generalize ((vI (ds un)).toNat % (f : Int).toNat) = ZZ
            simp (disch := first | (simp; done) | omega | (simp only [dg_length, dgi_length, List.length_cons]; omega) | rfl) [-getElem?_pos, List.getElem?_cons_zero, List.getElem?_cons_succ, hr, hr4, lt4, lt5]
            refine run_fn (rtrim_fn ((hsQ.keep k5).keep k6) (by omega)) ?_
            rintro y7 h7 n7 k7 hy7
            rw [trimI_eq dQ hqn] at hy7
            have oN4 : oldIds N W4 = [] := hW4
            have kall := (((kk2.trans hK4).trans k5).trans k6).trans k7
            simp (disch := first | (simp; done) | omega | (simp only [dg_length, dgi_length, List.length_cons]; omega) | rfl) [-getElem?_pos, List.getElem?_cons_zero, List.getElem?_cons_succ, hr, hr4, Ret, oN4]
            refine ⟨kall, y7, q6, ⟨rfl, rfl⟩, ?_, ?_⟩
            · rw [m1]; exact hy7
            · exact Sl.keep hq6 k7

end Go.Mx
