/-
  lensletref01.mulDigits.
-/
import Derived.Test.YtgbhkladhegceaaGreatDoorRbC
import Derived.Test.YtgbhkladhegceaaGreatDoorMxDec
set_option linter.all false
namespace Go.Mx
open Go Go.Proofs
set_option maxRecDepth 1000000
set_option linter.unusedSimpArgs false
set_option linter.unusedVariables false
def A.lb200_0 : MCode := .seq (.seq (.reg [⟨(some 22), .mov (.tmp 8), none⟩, ⟨(some 23), .mov (.tmp 1), none⟩, ⟨(some 24), .len 1 (.tmp 23), none⟩, ⟨(some 25), .bin .lss (.node []) false (.tmp 22) (.tmp 24), none⟩])
 (.cond (.tmp 25)
 (.skip)
 (.exit 2)))
 (.seq (.block 3 (.seq (.regD [⟨(some 28), .mov (.tmp 5), none⟩, ⟨(some 29), .mov (.tmp 6), none⟩, ⟨(some 30), .mov (.tmp 8), none⟩, ⟨(some 31), .bin .add (.node []) false (.tmp 29) (.tmp 30), none⟩, ⟨(some 32), .iaddrSl 1 (.tmp 28) (.tmp 31), none⟩, ⟨(some 33), .load none (.tmp 32), none⟩, ⟨(some 34), .mov (.tmp 0), none⟩, ⟨(some 35), .mov (.tmp 6), none⟩, ⟨(some 36), .iaddrSl 1 (.tmp 34) (.tmp 35), none⟩, ⟨(some 37), .load none (.tmp 36), none⟩, ⟨(some 38), .mov (.tmp 1), none⟩, ⟨(some 39), .mov (.tmp 8), none⟩, ⟨(some 40), .iaddrSl 1 (.tmp 38) (.tmp 39), none⟩, ⟨(some 41), .load none (.tmp 40), none⟩, ⟨(some 42), .bin .mul (.node []) false (.tmp 37) (.tmp 41), none⟩, ⟨(some 43), .bin .add (.node []) false (.tmp 33) (.tmp 42), none⟩, ⟨(some 44), .mov (.tmp 7), none⟩, ⟨(some 45), .bin .add (.node []) false (.tmp 43) (.tmp 44), none⟩, ⟨(some 9), .mov (.tmp 45), none⟩] [0, 0, 0, 6, 15, 31, 0, 0, 192, 448, 0, 0, 3072, 7168, 16320, 32767, 0, 131071, 262143])
 (.seq (.reg [⟨(some 46), .mov (.tmp 5), none⟩, ⟨(some 47), .mov (.tmp 6), none⟩, ⟨(some 48), .mov (.tmp 8), none⟩, ⟨(some 49), .bin .add (.node []) false (.tmp 47) (.tmp 48), none⟩, ⟨(some 50), .mov (.tmp 9), none⟩, ⟨(some 51), .bin .rem (.node []) false (.tmp 50) (.const (.int .i64 1000000000)), none⟩, ⟨(some 52), .iaddrSl 1 (.tmp 46) (.tmp 49), none⟩, ⟨none, .store 1 (.tmp 52) (.tmp 51), none⟩])
 (.reg [⟨(some 53), .mov (.tmp 9), none⟩, ⟨(some 54), .bin .quo (.node []) false (.tmp 53) (.const (.int .i64 1000000000)), none⟩, ⟨(some 7), .mov (.tmp 54), none⟩]))))
 (.reg [⟨(some 26), .mov (.tmp 8), none⟩, ⟨(some 27), .bin .add (.node []) false (.tmp 26) (.const (.int .i64 1)), none⟩, ⟨(some 8), .mov (.tmp 27), none⟩]))
def A.lb200_1 : MCode := .seq (.seq (.reg [⟨(some 16), .mov (.tmp 6), none⟩, ⟨(some 17), .mov (.tmp 0), none⟩, ⟨(some 18), .len 1 (.tmp 17), none⟩, ⟨(some 19), .bin .lss (.node []) false (.tmp 16) (.tmp 18), none⟩])
 (.cond (.tmp 19)
 (.skip)
 (.exit 0)))
 (.seq (.block 1 (.seq (.reg [⟨(some 7), .mov (.const (.int .i64 0)), none⟩])
 (.seq (.seq (.reg [⟨(some 8), .mov (.const (.int .i64 0)), none⟩])
 (.block 2 (.loop A.lb200_0)))
 (.reg [⟨(some 55), .mov (.tmp 5), none⟩, ⟨(some 56), .mov (.tmp 6), none⟩, ⟨(some 57), .mov (.tmp 1), none⟩, ⟨(some 58), .len 1 (.tmp 57), none⟩, ⟨(some 59), .bin .add (.node []) false (.tmp 56) (.tmp 58), none⟩, ⟨(some 60), .mov (.tmp 5), none⟩, ⟨(some 61), .mov (.tmp 6), none⟩, ⟨(some 62), .mov (.tmp 1), none⟩, ⟨(some 63), .len 1 (.tmp 62), none⟩, ⟨(some 64), .bin .add (.node []) false (.tmp 61) (.tmp 63), none⟩, ⟨(some 65), .iaddrSl 1 (.tmp 60) (.tmp 64), none⟩, ⟨(some 66), .load none (.tmp 65), none⟩, ⟨(some 67), .mov (.tmp 7), none⟩, ⟨(some 68), .bin .add (.node []) false (.tmp 66) (.tmp 67), none⟩, ⟨(some 69), .iaddrSl 1 (.tmp 55) (.tmp 59), none⟩, ⟨none, .store 1 (.tmp 69) (.tmp 68), none⟩]))))
 (.reg [⟨(some 20), .mov (.tmp 6), none⟩, ⟨(some 21), .bin .add (.node []) false (.tmp 20) (.const (.int .i64 1)), none⟩, ⟨(some 6), .mov (.tmp 21), none⟩]))
/-- lenslet/lensletref01.mulDigits -/
def A.b200 : MCode := .seq (.reg [⟨(some 4), .mov (.const .nilslice), none⟩])
 (.seq (.reg [⟨(some 10), .mov (.tmp 0), none⟩, ⟨(some 11), .len 1 (.tmp 10), none⟩, ⟨(some 12), .mov (.tmp 1), none⟩, ⟨(some 13), .len 1 (.tmp 12), none⟩, ⟨(some 14), .bin .add (.node []) false (.tmp 11) (.tmp 13), none⟩, ⟨(some 15), .mkslice 3 1 8 [(.int .i64 0)] (.tmp 14) (.tmp 14), none⟩, ⟨(some 5), .mov (.tmp 15), none⟩])
 (.seq (.seq (.reg [⟨(some 6), .mov (.const (.int .i64 0)), none⟩])
 (.block 0 (.loop A.lb200_1)))
 (.seq (.reg [⟨(some 70), .mov (.tmp 5), none⟩, ⟨(some 71), .call (.const (.func 199 [] [])) [(.tmp 70)], none⟩, ⟨(some 4), .mov (.tmp 71), none⟩])
 (.ret))))
theorem A.c200 : cFunc Tryz.prog 200 = some ⟨72, [.tmp 4], A.b200⟩ := by kernel_rfl
theorem A.k200 {K : List Kf} {Q : Rs → Prop} {f c args : List V} {st : St} (h : (f ++ args ++ c).length ≤ 72) : Run A.C K (valR (A.C.call (.func 200 f c) args st)) Q ↔ Run A.C (.fin [.tmp 4] st :: K) (exR (A.C.code none A.b200 ⟨setRegs .nil 0 (f ++ args ++ c), 72, []⟩ ⟨st.h, st.n, []⟩)) Q := run_func (A.x0 (f := 200) (by decide)) (mf := ⟨72, [.tmp 4], A.b200⟩) (by rw [A.t]; exact A.c200) h

structure MuB (h : T O) (N : Nat) (la lb : List Int) (i : Nat) (out0 : List Int) (a : Int) (m : Nat) (r : T V) (st : St) : Prop where
  w : oldIds N st.w = []
  keep : Keeps h N st.h (N + 1)
  n : st.n = N + 1
  ex : ∃ k out c, k + m = lb.length ∧ r.get 8 = some (.int .i64 k) ∧ st.h.get N = some (.cells (dI out) 3 true) ∧ out.length = la.length + lb.length ∧ r.get 7 = some (.int .i64 c) ∧ 0 ≤ c ∧ c < 1000000000 ∧ Di out ∧ (∀ t, i + lb.length ≤ t → t < out.length → out[t]? = some 0) ∧ vI out + pI (i + k) * c = vI out0 + pI i * (a * vI (lb.take k))
structure MuA (h : T O) (N : Nat) (la lb : List Int) (m : Nat) (r : T V) (st : St) : Prop where
  w : oldIds N st.w = []
  keep : Keeps h N st.h (N + 1)
  n : st.n = N + 1
  ex : ∃ i out, i + m = la.length ∧ r.get 6 = some (.int .i64 i) ∧ st.h.get N = some (.cells (dI out) 3 true) ∧ out.length = la.length + lb.length ∧ Di out ∧ (∀ t, i + lb.length ≤ t → t < out.length → out[t]? = some 0) ∧ vI out = vI (la.take i) * vI lb
theorem rmul_fn {h : T O} {N : Nat} {u v : V} {la lb : List Int} {a b : Nat} (hu : Sl h N u (dI la)) (hv : Sl h N v (dI lb)) (da : Di la) (db : Di lb) (ea : vI la = a) (eb : vI lb = b) (hl : la.length + lb.length < 1099511627776) : Fn A.C 200 [u, v] h N (fun x h' n' => Dn h' n' x (a * b)) := by
  intro w
  have lu := hu.len
  have lv := hv.len
  rw [dI_length] at lu lv
  rw [call_run, A.k200 (by simp)]
  have cs : ((la.length : Int) + (lb.length : Int)).toNat = la.length + lb.length := by omega
  simp (disch := first | (simp; done) | omega | (simp only [dg_length, dgi_length, List.length_cons]; omega) | rfl) [-getElem?_pos, List.getElem?_cons_zero, List.getElem?_cons_succ, A.b200, lu, lv, cs]
  refine run_loopD [(6, 9), (16, 69)] (fun e r st => e = .exit 0 ∧ MuA h N la lb 0 r st) (MuA h N la lb) la.length ?_ ?_ ?_
  · refine ⟨by simp, Keeps.refl.new _, rfl, 0, List.replicate (la.length + lb.length) 0, by omega, by simp, by simp [dI_zeros], by simp, Di.zeros _, fun t _ ht => ?_, by simp [vI_zeros, vI]⟩
    simp at ht
    simp [ht]
  · rintro m r ⟨H, n1, W⟩ hr hf ⟨hW, hK, hn, i, out, hi, h6, hrow, hol, hdi, hz, hv0⟩
    simp only at hW hK hn hrow
    subst hn
    rw [code_run]
    cases m with
    | zero =>
      have : i = la.length := by omega
      subst this
      simp (disch := first | (simp; done) | omega | (simp only [dg_length, dgi_length, List.length_cons]; omega) | rfl) [-getElem?_pos, List.getElem?_cons_zero, List.getElem?_cons_succ, A.lb200_1, hr, hf, h6, lu]
      exact ⟨hW, hK, rfl, la.length, out, by omega, by simp [h6], hrow, hol, hdi, hz, hv0⟩
    | succ m =>
      obtain ⟨x, hx⟩ := get_of_lt (l := la) (k := i) (by omega)
      obtain ⟨b1, b2, b3, b4, b5, z1, z2, z3, z4⟩ := hu.at (dI_get hx)
      have z3 := (hK.get _ z2).trans z3
      have hxd := da.get hx
      have hi1 : (i : Int) < (la.length : Int) := by omega
      have hi2 : i < la.length := by omega
      simp (disch := first | (simp; done) | omega | (simp only [dg_length, dgi_length, List.length_cons]; omega) | rfl) [-getElem?_pos, List.getElem?_cons_zero, List.getElem?_cons_succ, A.lb200_1, hr, hf, h6, hi1, hi2, lu]
      refine run_loopD [(7, 9), (22, 54)] (fun e r st => e = .exit 2 ∧ MuB h N la lb i out x 0 r st) (MuB h N la lb i out x) lb.length ?_ ?_ ?_
      · exact ⟨hW, hK, rfl, 0, out, 0, by omega, by simp, hrow, hol, by simp, by omega, by omega, hdi, hz, by simp [vI]⟩
      · rintro m2 r2 ⟨H2, n2, W2⟩ hr2 hf2 ⟨hW2, hK2, hn2, k, out2, c, hk, h8, hrow2, hol2, h7, c0, c1, hdi2, hz2, hv2⟩
        simp only at hW2 hK2 hn2 hrow2
        subst hn2
        rw [code_run]
        cases m2 with
        | zero =>
          have : k = lb.length := by omega
          subst this
          simp (disch := first | (simp; done) | omega | (simp only [dg_length, dgi_length, List.length_cons]; omega) | rfl) [-getElem?_pos, List.getElem?_cons_zero, List.getElem?_cons_succ, A.lb200_0, hr, hr2, hf2, h8, lv]
          exact ⟨hW2, hK2, rfl, lb.length, out2, c, by omega, by simp [h8], hrow2, hol2, by simp [h7], c0, c1, hdi2, hz2, hv2⟩
        | succ m2 =>
          obtain ⟨y, hy⟩ := get_of_lt (l := lb) (k := k) (by omega)
          obtain ⟨g1, g2, g3, g4, g5, y1, y2, y3, y4⟩ := hv.at (dI_get hy)
          have y3 := (hK2.get _ y2).trans y3
          have z3 := (hK2.get _ z2).trans ((hK.get _ z2).symm.trans z3)
          have hyd := db.get hy
          obtain ⟨o, ho⟩ := get_of_lt (l := out2) (k := i + k) (by omega)
          have hod := hdi2.get ho
          have hk1 : (k : Int) < (lb.length : Int) := by omega
          have hk2 : k < lb.length := by omega
          have p0 : 0 ≤ x * y := Int.mul_nonneg hxd.1 hyd.1
          have p1 : x * y ≤ 999999999 * 999999999 := Int.mul_le_mul (by omega) (by omega) hyd.1 (by omega)
          have q1 : (i : Int) + (k : Int) < (la.length : Int) + (lb.length : Int) := by omega
          have q2 : i + k < la.length + lb.length := by omega
          have q3 : (0 : Int) ≤ (i : Int) + (k : Int) := by omega
          have t1 : (o + x * y + c).tmod 1000000000 = (o + x * y + c) % 1000000000 := Int.tmod_eq_emod_of_nonneg (by omega)
          have t2 : (o + x * y + c).tdiv 1000000000 = (o + x * y + c) / 1000000000 := Int.tdiv_eq_ediv_of_nonneg (by omega)
          have w8 := dI_length out2
          have w7 := dI_set (l := out2) (k := i + k) (v := (o + x * y + c) % 1000000000) (by omega)
          have e1 : vI (out2.set (i + k) ((o + x * y + c) % 1000000000)) + pI (i + (k + 1)) * ((o + x * y + c) / 1000000000) = vI out + pI i * (x * vI (lb.take (k + 1))) := by
            have hm := Int.mul_ediv_add_emod (o + x * y + c) 1000000000
            rw [vI_set ho, vI_take_succ hy, show i + (k + 1) = (i + k) + 1 by omega, pI_succ]
            have hp := pI_add i k
            generalize (o + x * y + c) / 1000000000 = Q at *
            generalize (o + x * y + c) % 1000000000 = R at *
            have : R = o + x * y + c - 1000000000 * Q := by omega
            rw [this]
            have h3 : vI out2 = vI out + pI i * (x * vI (lb.take k)) - pI (i + k) * c := by omega
            rw [h3, hp]
            grind
          generalize hP : x * y = P at *
          have b1' : wrapF .i64 P = P := wrapF_i64 (by omega) (by omega)
          have b2' : wrapF .i64 (o + P) = o + P := wrapF_i64 (by omega) (by omega)
          have b3' : wrapF .i64 (o + P + c) = o + P + c := wrapF_i64 (by omega) (by omega)
          have b4' : wrapF .i64 ((o + P + c) / 1000000000) = (o + P + c) / 1000000000 := wrapF_i64 (by omega) (by omega)
          have f1 : b1 < N + 1 := by omega
          have f2 : g1 < N + 1 := by omega
          have r0 := Int.emod_nonneg (o + P + c) (b := 1000000000) (by decide)
          have r1 := Int.emod_lt_of_pos (o + P + c) (b := 1000000000) (by decide)
          have d0 : 0 ≤ (o + P + c) / 1000000000 := Int.ediv_nonneg (by omega) (by decide)
          have d1 : (o + P + c) / 1000000000 < 1000000000 := Int.ediv_lt_of_lt_mul (by decide) (by omega)
          simp (disch := first | (simp; done) | omega | (simp only [dg_length, dgi_length, List.length_cons]; omega) | rfl) [-getElem?_pos, List.getElem?_cons_zero, List.getElem?_cons_succ, A.lb200_0, hr, hr2, hf2, h6, h7, h8, lu, lv, hk1, hk2, hi1, hi2, q1, q2, q3, hrow2, dI_get ho, z1, z2, z3, z4, y1, y2, y3, y4, hP, b1', b2', b3', b4', t1, t2, w7, cs, f1, f2]
          refine ⟨m2, by omega, ⟨by simp [oldIds, hW2], hK2.set (Nat.le_refl N), rfl, k + 1, _, _, by omega, by simp, by simp, by simp [hol2], by simp, d0, d1, hdi2.set r0 r1, fun t ht1 ht2 => ?_, e1⟩⟩
          rw [List.getElem?_set_ne (by omega)]
          exact hz2 t ht1 (by simpa using ht2)
      · rintro _ r2 ⟨H2, n2, W2⟩ hr2 ⟨rfl, hW2, hK2, hn2, k, out2, c, hk, h8, hrow2, hol2, h7, c0, c1, hdi2, hz2, hv2⟩
        simp only at hW2 hK2 hn2 hrow2
        subst hn2
        have : k = lb.length := by omega
        subst this
        have ho := hz2 (i + lb.length) (by omega) (by omega)
        have hfi := hf.inner (D' := [(7, 9), (22, 54)]) rfl (by simp) hr2
        have q1 : (i : Int) + (lb.length : Int) < (la.length : Int) + (lb.length : Int) := by omega
        have q2 : i + lb.length < la.length + lb.length := by omega
        have q3 : (0 : Int) ≤ (i : Int) + (lb.length : Int) := by omega
        have w8 := dI_length out2
        have w7 := dI_set (l := out2) (k := i + lb.length) (v := c) (by omega)
        rw [List.take_length] at hv2
        have e1 : vI (out2.set (i + lb.length) c) = vI (la.take (i + 1)) * vI lb := by
          rw [vI_set ho, vI_take_succ hx]
          have : vI out2 + pI (i + lb.length) * (c - 0) = vI out + pI i * (x * vI lb) := by rw [Int.sub_zero]; exact hv2
          rw [this, hv0]
          grind
        simp (disch := first | (simp; done) | omega | (simp only [dg_length, dgi_length, List.length_cons]; omega) | rfl) [-getElem?_pos, List.getElem?_cons_zero, List.getElem?_cons_succ, hr, hr2, h6, h7, lv, hrow2, dI_get ho, q1, q2, q3, w7, hfi, cs]
        refine ⟨m, by omega, ⟨by simp [oldIds, hW2], hK2.set (Nat.le_refl N), rfl, i + 1, _, by omega, by simp, by simp, by simp [hol2], hdi2.set c0 c1, fun t ht1 ht2 => ?_, e1⟩⟩
        rw [List.getElem?_set_ne (by omega)]
        exact hz2 t (by omega) (by simpa using ht2)
  · rintro _ r ⟨H, n1, W⟩ hr ⟨rfl, hW, hK, hn, i, out, hi, h6, hrow, hol, hdi, hz, hv0⟩
    simp only at hW hK hn hrow
    subst hn
    have : i = la.length := by omega
    subst this
    rw [List.take_length, ea, eb] at hv0
    have hs2 : Sl H (N + 1) (.slice N 0 (la.length + lb.length) (some (la.length + lb.length)) 1) (dI out) := Sl.row (by omega) hrow (by simp [hol]) (fun k hk => by simp at hk; omega)
    simp (disch := first | (simp; done) | omega | (simp only [dg_length, dgi_length, List.length_cons]; omega) | rfl) [-getElem?_pos, List.getElem?_cons_zero, List.getElem?_cons_succ, hr]
    refine run_fn (rtrim_fn hs2 (by omega)) ?_
    rintro y h2 n2 k2 hy
    rw [trimI_eq hdi (n := a * b) (by rw [hv0]; simp)] at hy
    simp (disch := first | (simp; done) | omega | (simp only [dg_length, dgi_length, List.length_cons]; omega) | rfl) [-getElem?_pos, List.getElem?_cons_zero, List.getElem?_cons_succ, hr, Ret, hW]
    exact ⟨hK.trans k2, hy⟩

end Go.Mx
/- The first guess of a digit. -/
namespace Go.Mx
open Go
set_option linter.unusedVariables false

theorem g_init {P d1 d2 d3 v1 v2 U' V' t r : Int} (hP : 0 < P) (hU0 : 0 ≤ U') (hU : U' < P) (hV0 : 0 ≤ V') (hV : V' < P) (h1 : 0 ≤ d1) (h1' : d1 < 1000000000) (h2 : 0 ≤ d2) (h3 : 0 ≤ d3) (w1 : 500000000 ≤ v1) (w2 : 0 ≤ v2) (w2' : v2 < 1000000000)
    (hW : U' + P * (d1 + 1000000000 * (d3 * 1000000000 + d2)) < 1000000000 * (V' + P * (v2 + 1000000000 * v1))) (ht : d3 * 1000000000 + d2 = t * v1 + r) (hr0 : 0 ≤ r) (hr1 : r < v1) :
    0 ≤ t ∧ t ≤ 1000000001 ∧ U' + P * (d1 + 1000000000 * (d3 * 1000000000 + d2)) < (t + 1) * (V' + P * (v2 + 1000000000 * v1)) := by
  generalize hT : d3 * 1000000000 + d2 = T at *
  have hT0 : 0 ≤ T := by omega
  have t0 : 0 ≤ t := by
    apply Int.le_of_not_gt; intro hc
    have : t * v1 ≤ (-1) * v1 := Int.mul_le_mul_of_nonneg_right (by omega) (by omega)
    omega
  have a1 : T < 1000000000 * (v1 + 1) := by
    apply Int.lt_of_not_ge; intro hc
    have b1 : P * (1000000000 * (v1 + 1)) ≤ P * T := Int.mul_le_mul_of_nonneg_left hc (by omega)
    have b2 : 0 ≤ P * d1 := Int.mul_nonneg (by omega) h1
    have b3 : P * v2 ≤ P * 999999999 := Int.mul_le_mul_of_nonneg_left (by omega) (by omega)
    have b4 : P * (d1 + 1000000000 * T) = P * d1 + 1000000000 * (P * T) := by grind
    have b5 : P * (v2 + 1000000000 * v1) = P * v2 + 1000000000 * (P * v1) := by grind
    have b6 : P * (1000000000 * (v1 + 1)) = 1000000000 * (P * v1) + 1000000000 * P := by grind
    omega
  have a2 : t ≤ 1000000001 := by
    apply Int.le_of_not_gt; intro hc
    have b1 : 1000000002 * v1 ≤ t * v1 := Int.mul_le_mul_of_nonneg_right (by omega) (by omega)
    omega
  refine ⟨t0, a2, ?_⟩
  have c1 : (t + 1) * v1 = t * v1 + v1 := by grind
  have b1 : P * (T + 1) ≤ P * ((t + 1) * v1) := Int.mul_le_mul_of_nonneg_left (by omega) (by omega)
  have b2 : P * d1 ≤ P * 999999999 := Int.mul_le_mul_of_nonneg_left (by omega) (by omega)
  have b3 : 0 ≤ (t + 1) * V' := Int.mul_nonneg (by omega) hV0
  have b4 : 0 ≤ (t + 1) * (P * v2) := Int.mul_nonneg (by omega) (Int.mul_nonneg (by omega) w2)
  have b5 : P * (d1 + 1000000000 * T) = P * d1 + 1000000000 * (P * T) := by grind
  have b6 : (t + 1) * (V' + P * (v2 + 1000000000 * v1)) = (t + 1) * V' + (t + 1) * (P * v2) + 1000000000 * (P * ((t + 1) * v1)) := by grind
  have b7 : P * (T + 1) = P * T + P := by grind
  omega

end Go.Mx
