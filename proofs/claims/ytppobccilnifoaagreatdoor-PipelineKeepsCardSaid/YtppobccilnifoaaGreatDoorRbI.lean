/-
  lensletref01: common, parse.
-/
import Derived.Test.YtppobccilnifoaaGreatDoorRbE
set_option linter.all false
namespace Go.Mx
open Go Go.Proofs
set_option maxRecDepth 1000000
def A.lb98_0 : MCode := .seq (.seq (.reg [mv 7 1, ln 8 7, bc 9 .gtr 8 0])
 (.cond (.tmp 9)
 (.skip)
 (.exit 0)))
 (.block 1 (.seq (.reg [mv 11 0, mv 12 1, ⟨(some 13), .call (.const (.func 160 [] [])) [(.tmp 11), (.tmp 12)], none⟩, mv 10 13, xt 14 10 0, xt 15 10 1, mv 5 14, mv 6 15])
 (.reg [mv 16 1, mv 17 6, mv 0 16, mv 1 17])))
def A.b98 : MCode := .seq (.reg [⟨(some 4), .mov (.const .nilslice), none⟩])
 (.seq (.block 0 (.loop A.lb98_0))
 (.seq (.reg [mv 18 0, mv 4 18])
 (.ret)))
theorem A.c98 : cFunc Tryz.prog 98 = some ⟨19, [.tmp 4], A.b98⟩ := by kernel_rfl
def A.k98 {K Q f c args st} := @A.kk 98 _ _ _ A.c98 rfl K Q f c args st
def A.lb158_0 : MCode := .seq (.seq (.reg [mv 16 0, ⟨(some 17), .len 0 (.tmp 16), none⟩, bc 18 .gtr 17 9])
 (.cond (.tmp 18)
 (.skip)
 (.exit 0)))
 (.block 1 (.seq (.reg [mv 19 4, mv 20 0, mv 21 0, ⟨(some 22), .len 0 (.tmp 21), none⟩, bc 23 .sub 22 9, ⟨(some 24), .sliceStr (.tmp 20) (some (.tmp 23)) none, none⟩, ⟨(some 25), .call (.const (.func 195 [] [])) [(.tmp 24)], none⟩, ⟨(some 26), .bslice 3 1 1 [(.int .i64 0)] [(0, 1, (.tmp 25))], none⟩, ⟨(some 27), .append 1 8 3 [(.int .i64 0)] (.tmp 19) (.tmp 26), none⟩, mv 4 27])
 (.reg [mv 28 0, mv 29 0, ⟨(some 30), .len 0 (.tmp 29), none⟩, bc 31 .sub 30 9, ⟨(some 32), .sliceStr (.tmp 28) none (some (.tmp 31)), none⟩, mv 0 32])))
def A.b158 : MCode := .seq (.reg [⟨(some 2), .alloc [(.bool false), .nilslice] 203, none⟩])
 (.seq (.reg [mv 5 0, ⟨(some 6), .len 0 (.tmp 5), none⟩, bc 7 .gtr 6 0, mv 8 7, ⟨(some 9), .mov (.tmp 0), (some (8, true))⟩, ⟨(some 10), .idxStr (.tmp 9) (.const (.int .i64 0)), (some (8, true))⟩, ⟨(some 11), .bin .eql (.prim .int) true (.tmp 10) (.const (.int .u8 45)), (some (8, true))⟩, ⟨(some 12), .pick (.tmp 8) (.tmp 11) (.const (.bool false)), none⟩, mv 3 12])
 (.seq (.seq (.reg [mv 13 3])
 (.cond (.tmp 13)
 (.reg [mv 14 0, ⟨(some 15), .sliceStr (.tmp 14) (some (.const (.int .i64 1))) none, none⟩, mv 0 15])
 (.skip)))
 (.seq (.reg [⟨(some 4), .mov (.const .nilslice), none⟩])
 (.seq (.block 0 (.loop A.lb158_0))
 (.seq (.reg [mv 33 3, mv 34 4, mv 35 0, ⟨(some 36), .call (.const (.func 195 [] [])) [(.tmp 35)], none⟩, ⟨(some 37), .bslice 3 1 1 [(.int .i64 0)] [(0, 1, (.tmp 36))], none⟩, ⟨(some 38), .append 1 8 3 [(.int .i64 0)] (.tmp 34) (.tmp 37), none⟩, ⟨(some 39), .call (.const (.func 196 [] [])) [(.tmp 33), (.tmp 38)], none⟩, ⟨none, .store 2 (.tmp 2) (.tmp 39), none⟩])
 (.ret))))))
theorem A.c158 : cFunc Tryz.prog 158 = some ⟨40, [.cell 2 (some 2)], A.b158⟩ := by kernel_rfl
def A.k158 {K Q f c args st} := @A.kk 158 _ _ _ A.c158 rfl K Q f c args st
theorem common_fn {h : T O} {N : Nat} {u v : V} {a b : Nat} (hu : Dn h N u a) (hv : Dn h N v b) (hl : (ds a).length < 1000000000) (hl2 : (ds b).length < 1000000000) : Fn A.C 98 [u, v] h N (fun x h' n' => Dn h' n' x (Nat.gcd a b)) := by
 intro w
 rw [call_run, A.k98 (by simp)]
 simp (disch := first | (simp; done) | omega | rfl) [-getElem?_pos, A.b98]
 refine run_loopD [(0, 1), (5, 17)] (fun e r st => e = .exit 0 ∧ oldIds N st.w = [] ∧ Keeps h N st.h st.n ∧ ∃ x, r.get 0 = some x ∧ Dn st.h st.n x (Nat.gcd a b)) (fun m r st => oldIds N st.w = [] ∧ Keeps h N st.h st.n ∧ ∃ x y c, r.get 0 = some x ∧ r.get 1 = some y ∧ Dn st.h st.n x c ∧ Dn st.h st.n y m ∧ Nat.gcd c m = Nat.gcd a b ∧ (ds c).length < 1000000000 ∧ (ds m).length < 1000000000) b ?_ ?_ ?_
 ·exact ⟨by simp, Keeps.refl, u, v, a, by simp, by simp, hu, hv, rfl, hl, hl2⟩
 ·rintro m r ⟨H, n1, W⟩ hr hf ⟨hW, hK, x, y, c, h0, h1, hx, hy, hg, l1, l2⟩
  simp only at hW hK hx hy
  have ly := hy.len
  rw [dI_length] at ly
  rw [code_run]
  by_cases hm : m = 0
  ·subst hm
   have z0 : (ds 0).length = 0 := by rw [ds_zero]; rfl
   rw [z0] at ly
   simp at hg
   simp (disch := first | (simp; done) | omega | rfl) [-getElem?_pos, A.lb98_0, hr, hf, h0, h1, ly, hW, hK]
   rw [← hg]; exact hx
  ·have hne : (ds m).length ≠ 0 := fun hc => hm (ds_eq_nil.1 (List.eq_nil_of_length_eq_zero hc))
   have p1 : (0 : Int) < ((ds m).length : Int) := by omega
   have p2 : 0 < (ds m).length := by omega
   have p3 : ds m ≠ [] := fun hc => hne (by rw [hc]; rfl)
   simp (disch := first | (simp; done) | omega | rfl) [-getElem?_pos, A.lb98_0, hr, hf, h0, h1, ly, p1, p2, p3]
   refine run_fn (rdiv_fn hx hy (by omega) l1 l2) ?_
   rintro z h3 n3 k3 ⟨q, r', rfl, hq, hr'⟩
   simp (disch := first | (simp; done) | omega | rfl) [-getElem?_pos, hr, hf, h0, h1, hW]
   refine ⟨c % m, Nat.mod_lt _ (by omega), hK.trans k3, m, hy.keep k3, hr', ?_, l2, ?_⟩
   ·rw [← hg, Nat.gcd_comm c m, Nat.gcd_rec m c, Nat.gcd_comm]
   ·have := ds_mono (a := c % m) (b := m) (Nat.le_of_lt (Nat.mod_lt _ (by omega))); omega
 ·rintro _ r ⟨H, n1, W⟩ hr ⟨rfl, hW, hK, x, h0, hx⟩
  simp only at hW hK hx
  simp (disch := first | (simp; done) | omega | rfl) [-getElem?_pos, hr, h0, Ret, hW, hK]
  exact hx
theorem numV_app (x : Str) : ∀ (y : Str), numV (x ++ y) = numV x * 10 ^ y.length + numV y := by
 have key : ∀ (y : Str) (n : Nat), y.foldl (fun n (c : UInt8) => 10 * n + (c.toNat - 48)) n = n * 10 ^ y.length + y.foldl (fun n (c : UInt8) => 10 * n + (c.toNat - 48)) 0 := by
  intro y
  induction y with
  | nil => simp
  | cons c y ih =>
   intro n
   rw [List.foldl_cons, List.foldl_cons, ih, ih (10 * 0 + (c.toNat - 48)), List.length_cons, Nat.pow_succ]
   grind
 intro y
 unfold numV
 rw [List.foldl_append, key]
theorem allD_take {s : Str} (h : allD s = true) (k : Nat) : allD (s.take k) = true := by
 unfold allD at *
 rw [List.all_eq_true] at *
 exact fun c hc => h c (List.mem_of_mem_take hc)
theorem allD_drop {s : Str} (h : allD s = true) (k : Nat) : allD (s.drop k) = true := by
 unfold allD at *
 rw [List.all_eq_true] at *
 exact fun c hc => h c (List.mem_of_mem_drop hc)
def PsI (h0 : T O) (N : Nat) (s : Str) (m : Nat) (r : T V) (st : St) : Prop := oldIds N st.w = [] ∧ Keeps h0 N st.h st.n ∧ ∃ cur w l, r.get 0 = some (.str cur) ∧ cur.length = m ∧ 1 ≤ m ∧ m ≤ s.length ∧ allD cur = true ∧ r.get 4 = some w ∧ Own 1 3 N st.h st.n w (rowsI l) ∧ Di l ∧ l.length + m ≤ s.length ∧ vI l + pI l.length * (numV cur : Nat) = (numV s : Nat)
theorem parse_fn {s : Str} (hd : allD s = true) (h1 : 1 ≤ s.length) (h2 : s.length ≤ 100000) {h : T O} {N : Nat} : Fn A.C 158 [.str s] h N (fun v h' n' => Rg h' n' v (numV s : Nat)) := by
 intro w
 obtain ⟨c, hc⟩ := get_of_lt (l := s) (k := 0) (by omega)
 have hcd := allD_get hd hc
 have hc0 : s.head? = some c := by cases s with
  | nil => simp at hc
  | cons => simpa using hc
 have a1 : ¬ u8I c = 45 := by omega
 have a2 : (0 : Int) < (s.length : Int) := by omega
 have a3 : 0 < s.length := by omega
 have hne : s ≠ [] := fun h => by rw [h] at h1; simp at h1
 rw [call_run, A.k158 (by simp)]
 simp (disch := first | (simp; done) | omega | rfl) [-getElem?_pos, A.b158, a1, a2, a3, hne, hc0, hc, eqPrim]
 refine run_loopD [(0, 0), (4, 4), (16, 32)] (fun e r st => e = .exit 0 ∧ ∃ m, m ≤ 9 ∧ PsI (h.set N (.cells [.bool false, .nilslice] 203 true)) (N + 1) s m r st) (PsI (h.set N (.cells [.bool false, .nilslice] 203 true)) (N + 1) s) s.length ?_ ?_ ?_
 ·exact ⟨by simp, Keeps.refl, s, .nilslice, [], by simp, rfl, h1, Nat.le_refl _, hd, by simp, Own.nil, Di.nil, by simp, by simp [vI, pI]⟩
 ·rintro m r ⟨H, n1, W⟩ hr hf ⟨hW, hK, cur, u, l, g0, hcl, m1, m2, hcd, g4, ho, hdi, hll, hv⟩
  simp only at hW hK ho
  subst hcl
  rw [code_run]
  by_cases h9 : 9 < cur.length
  ·have h9' : (9 : Int) < (cur.length : Int) := by omega
   have nle := hK.le
   have hvd := value_eq (s := cur.drop (cur.length - 9)) (st := ⟨H, n1, W⟩) (allD_drop hcd _) (by simp; omega)
   have hcn : ((cur.length : Int) - 9).toNat = cur.length - 9 := by omega
   have hnv := numV_lt' (allD_drop hcd (cur.length - 9))
   have hdl : (cur.drop (cur.length - 9)).length = 9 := by simp; omega
   rw [hdl] at hnv
   have hsp := numV_app (cur.take (cur.length - 9)) (cur.drop (cur.length - 9))
   rw [List.take_append_drop, hdl, show (10 : Nat) ^ 9 = 1000000000 by decide] at hsp
   generalize hD : numV (cur.drop (cur.length - 9)) = D at *
   obtain ⟨v', h', w', e1, e2, e3, e4, e5⟩ := append_own (x := [.int .i64 (D : Int)]) (u := .slice n1 0 1 (some 1) 1) (bytes := 8) (w := W) (ho.keep (Keeps.refl.new (.cells [.int .i64 (D : Int)] 3 true))) (by omega) (by decide) rfl (by simp [srcCells, St.row, slc]) (by rw [rowsI_len]; omega)
   rw [← rowsI_snoc] at e5
   simp (disch := first | (simp; done) | omega | rfl) [-getElem?_pos, A.lb158_0, hr, hf, g0, g4, h9, h9', hcn, evOpt, hvd, splice, e1]
   refine ⟨cur.length - 9, by omega, ⟨by rw [e2]; exact hW, (hK.new _).then e3, cur.take (cur.length - 9), v', l ++ [(D : Int)], by simp, by simp, by omega, by omega, allD_take hcd _, by simp, e5, hdi.app (Di.one (by omega) (by omega)), by simp; omega, ?_⟩⟩
   rw [vI_snoc, List.length_append, List.length_singleton, pI_succ, ← hv]
   have hsp' : ((numV cur : Nat) : Int) = (numV (cur.take (cur.length - 9)) : Nat) * 1000000000 + D := by omega
   rw [hsp']
   generalize ((numV (cur.take (cur.length - 9)) : Nat) : Int) = X
   generalize pI l.length = P
   grind
  ·have h9' : ¬ (9 : Int) < (cur.length : Int) := by omega
   simp (disch := first | (simp; done) | omega | rfl) [-getElem?_pos, A.lb158_0, hr, hf, g0, h9, h9']
   exact ⟨cur.length, by omega, hW, hK, cur, u, l, by simp [g0], rfl, m1, m2, hcd, by simp [g4], ho, hdi, hll, hv⟩
 ·rintro _ r ⟨H, n1, W⟩ hr ⟨rfl, m, m9, hW, hK, cur, u, l, g0, hcl, m1, m2, hcd, g4, ho, hdi, hll, hv⟩
  simp only at hW hK ho
  subst hcl
  have nle := hK.le
  have hvd := value_eq (s := cur) (st := ⟨H, n1, W⟩) hcd (by omega)
  have hnv := numV_lt' hcd
  have hp9 := p10_le m9
  generalize hD : numV cur = D at *
  obtain ⟨v', h', w', e1, e2, e3, e4, e5⟩ := append_own (x := [.int .i64 (D : Int)]) (u := .slice n1 0 1 (some 1) 1) (bytes := 8) (w := W) (ho.keep (Keeps.refl.new (.cells [.int .i64 (D : Int)] 3 true))) (by omega) (by decide) rfl (by simp [srcCells, St.row, slc]) (by rw [rowsI_len]; omega)
  rw [← rowsI_snoc] at e5
  simp (disch := first | (simp; done) | omega | rfl) [-getElem?_pos, hr, g0, g4, hvd, splice, e1]
  have hdi2 : Di (l ++ [(D : Int)]) := hdi.app (Di.one (by omega) (by omega))
  refine run_fn (signed_fn (n := numV s) e5.sl hdi2 (by rw [vI_snoc]; exact hv) (by simp; omega)) ?_
  rintro y h5 n5 k5 hy
  have kk := ((hK.new (.cells [.int .i64 (D : Int)] 3 true)).then e3).trans k5
  have kle := kk.le
  have nrow := kk.get N (by omega)
  simp at nrow
  obtain ⟨u5, rfl, hu5⟩ := hy
  have hu6 := fun c1 (hc : c1.length = 2) => Sl.setInt (i := N) (c1 := c1) (e1 := 203) (w1 := true) hu5 nrow (by intro x hx k m; simp at hx; rcases hx with rfl | rfl <;> simp) hc
  have huo := Sl.form hu5 |>.one
  unfold V.one at huo
  have ow : oldIds N w' = [] := oldIds_le (Nat.le_succ N) (by rw [e2]; exact hW)
  have k0 := (Keeps.refl (h := h) (n := N)).new (.cells [.bool false, .nilslice] 203 true)
  simp (disch := first | (simp; done) | omega | rfl) [-getElem?_pos, hr, nrow, splice, storeK2, huo, partV, slc, Ret, ow]
  exact ⟨(k0.trans kk).set (Nat.le_refl N), u5, by simp, by simpa [Dn] using hu6 _ rfl⟩
end Go.Mx
