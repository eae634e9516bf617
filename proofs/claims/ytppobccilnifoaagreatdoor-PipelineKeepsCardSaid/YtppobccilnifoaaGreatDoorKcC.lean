/-
  PipelineKeeps.
-/
import Derived.Test.YtppobccilnifoaaGreatDoorKcA
import Derived.Test.YtppobccilnifoaaGreatDoorMxFrame
import Derived.Test.YtppobccilnifoaaGreatDoorMxSim
import Derived.Test.YtppobccilnifoaaGreatDoorMxAux
import Derived.Test.YtppobccilnifoaaGreatDoorMxRun
set_option linter.all false
namespace Go.Mx
open Go Go.Proofs
set_option maxRecDepth 1000000
theorem lr_ne {h : T O} {N : Nat} {S : RS} (I : RI h N S) {a b : Lr} (ha : S.ls[0]? = some a) (hb : S.ls[1]? = some b) : (a.C == b.C) = false := by
 have := (nd_flat I.ndL ha hb (by omega)).2.1
 simpa using this
set_option maxHeartbeats 8000000 in
theorem keeps_mid {h H : T O} {N n cap b : Nat} {v : V} {l : List Rc} {W : List Nat} {r : T V} (hs : RcS h N v l) (hl : l.length ≤ 20) (hx : ∀ x ∈ l, x.vs.length < 1000 ∧ (∀ s ∈ x.vs, s.length ≤ 100000) ∧ chkRc x = 0) (hasc : ∀ (j : Nat) (x y : Rc), l[j]? = some x → l[j + 1]? = some y → x.f < y.f) (hc1 : 1 ≤ cap) (hc2 : cap ≤ 64) (hb1 : 1 ≤ b) (hb2 : b ≤ 16) (hW : ∀ i ∈ W, N ≤ i) (hK : Keeps h N H n) (a0 : r.get 0 = some v) (a1 : r.get 1 = some (.int .i64 cap)) (a2 : r.get 2 = some (.int .i64 b)) :
  Code A.C none A.ta5_1 ⟨r, 249, []⟩ ⟨H, n, W⟩ (Ends h N) := by
 rw [code_run]
 have kn := hK.le
 simp (disch := first | (simp; done) | omega | rfl) [-getElem?_pos, -oldIds, A.ta5_1, a0, a1, a2]
 refine run_fn (new_ok (c := cap) (by omega) (by omega)) ?_
 rintro _ h1 n1 k1 ⟨rfl, rfl, I1⟩
 simp (disch := first | (simp; done) | omega | rfl) [-getElem?_pos, -oldIds, eqPrim, a0, a1, a2]
 have f1 := sub_ok (c := 1) I1 (by omega) (by omega) (by simp)
 refine run_fnD f1 ?_
 rintro _ h2 n2 w2 hw2 U2 ⟨L1, C1, vl1, hL1, hC1, rfl, hv1, I2⟩
 simp (disch := first | (simp; done) | omega | rfl) [-getElem?_pos, -oldIds, eqPrim, a0, a1, a2]
 have f2 := sub_ok (c := b) I2 (by omega) (by omega) (by simp)
 refine run_fnD f2 ?_
 rintro _ h3 n3 w3 hw3 U3 ⟨L2, C2, vl2, hL2, hC2, rfl, hv2, I3⟩
 have hne := lr_ne I3 (a := ⟨L1, C1, 1, [], (0, 0), 0⟩) (b := ⟨L2, C2, b, [], (0, 0), 0⟩) (by simp) (by simp)
 simp only at hne
 have g1 := (I3.l ⟨L1, C1, 1, [], (0, 0), 0⟩ (by simp)).2
 have g2 := (I3.l ⟨L2, C2, b, [], (0, 0), 0⟩ (by simp)).2
 simp only at g1 g2
 have le2 := U2.le
 have le3 := U3.le
 have le1 := k1.le
 have hid : ∀ i ∈ RS.ids ⟨n, cap, false, .nilslice, [], 0, 0, 0, vl2, [⟨L1, C1, 1, [], (0, 0), 0⟩, ⟨L2, C2, b, [], (0, 0), 0⟩]⟩, n ≤ i := fun i hi => by
  simp only [RS.ids, rowV, List.mem_cons, List.mem_append, List.flatMap_cons, List.flatMap_nil, Lr.ids, List.not_mem_nil, or_false, false_or] at hi
  rcases hi with rfl | hi | hi | hi | hi | hi
  ·omega
  ·rcases hv2 i hi with hi | hi
   ·rcases hv1 i hi with hi | hi
    ·simp [rowV] at hi
    ·omega
   ·omega
  all_goals omega
 have kk3 : Keeps H n h3 n3 := by
  refine ⟨by omega, fun i hi => ?_⟩
  rw [U3.get i (by omega), U2.get i (by omega), k1.get i hi]
  ·simp [RS.ids, rowV]; omega
  ·intro hc
   simp only [RS.ids, rowV, List.mem_cons, List.mem_append, List.nil_append, List.flatMap_cons, List.flatMap_nil, Lr.ids, List.not_mem_nil, or_false, false_or] at hc
   rcases hc with rfl | hc | hc | hc
   ·omega
   ·rcases hv1 i hc with hc | hc
    ·simp [rowV] at hc
    ·omega
   ·omega
   ·omega
 have hK3 := hK.trans kk3
 have hw3' : ∀ i ∈ w3, N ≤ i := fun i hi => by
  rcases hw3 i hi with hi | hi
  ·rcases hw2 i hi with hi | hi
   ·exact hW i hi
   ·simp [RS.ids, rowV] at hi; omega
  ·simp only [RS.ids, rowV, List.mem_cons, List.mem_append, List.nil_append, List.flatMap_cons, List.flatMap_nil, Lr.ids, List.not_mem_nil, or_false, false_or] at hi
   rcases hi with rfl | hi | hi | hi
   ·omega
   ·rcases hv1 i hi with hi | hi
    ·simp [rowV] at hi
    ·omega
   ·omega
   ·omega
 have wz : wrapF .i64 ((0 : Int) + 0) = 0 := rfl
 simp (disch := first | (simp; done) | omega | rfl) [-getElem?_pos, -oldIds, eqPrim, wz, chanEq, g1, g2, hne, a0]
 refine run_fn (lrecs_fn (hs.keep hK3) (by omega) (fun x hm => by have := (hx x hm).1; omega)) ?_
 rintro u0 h4 n4 k4 ⟨hT, hTr⟩
 have I4 := I3.keep (D := fun _ => False) k4.upd (by simp) (by simp)
 have hlT := hT.rcs.len
 simp (disch := first | (simp; done) | omega | rfl) [-getElem?_pos, -oldIds, hlT]
 have hTlt : ∀ i ∈ rowV u0, i < n4 := fun i hi => by
  obtain ⟨cs, h1, _⟩ := hT
  rcases h1 with ⟨_, rfl | rfl⟩ | ⟨j, o, cp, c, e, rw, rfl, hj, _⟩
  ·simp [rowV] at hi
  ·simp [rowV] at hi
  ·simp [rowV] at hi; omega
 refine run_loopD [(6, 6), (15, 18), (110, 169)] (fun e r st => e = .exit 2 ∧ KmI h N n L1 C1 L2 C2 cap b u0 l 0 r st) (KmI h N n L1 C1 L2 C2 cap b u0 l) l.length ?_ ?_ ?_
 ·refine ⟨0, ⟨n, cap, false, .nilslice, [], 0, 0, 0, vl2, [⟨L1, C1, 1, [], (0, 0), 0⟩, ⟨L2, C2, b, [], (0, 0), 0⟩]⟩, by omega, by simp, hw3', hK3.trans k4, ?_, fun i hi => by have := hid i hi; omega, hT, fun i hi => ⟨fun hc => ?_, hTlt i hi⟩, ⟨rfl, rfl, rfl, by simp, ?_, by simp, rfl, (0, 0), (0, 0), Int.le_refl _, Int.le_refl _, by simp⟩⟩
  ·simpa using I4
  ·have h1 := hTr i hi
   have h2 := I3.lt i (by simpa using hc)
   omega
  ·intro x h0
   have := (hx x (List.mem_of_getElem? h0)).2.2
   show (0 : Int) < x.f
   apply Int.lt_of_not_ge
   intro hc
   have hc1 : x.f < 1 ∨ 999999999 < x.f := by omega
   simp [chkRc, recErr, firstNZ, hc1] at this
 ·exact keeps_round (v := v) hl hx hasc hc1 hc2 hb1 hb2 ⟨⟨by simp [a0], by simp [a1], by simp [a2], by simp, by simp⟩, by simp, by simp, by simp⟩
 ·rintro _ r2 ⟨H5, n5, W5⟩ hr2 ⟨rfl, k, S, hk, h110, hW5, hK5, I5, hid5, hT5, hu5, K5⟩
  simp only at hW5 hK5 I5 hT5 hu5
  obtain rfl : k = l.length := by omega
  simp (disch := first | (simp; done) | omega | rfl) [-getElem?_pos, -oldIds]
  exact code_run.1 (keeps_tail hs hl (fun x hm => (hx x hm).1) hW5 hK5 I5 hid5 K5 ⟨by simp [hr2, a0], by simp [hr2, a1], by simp [hr2, a2], by simp [hr2], by simp [hr2]⟩ hc1 hc2 hb1 hb2)
def asc (l : List Rc) : Prop := ∀ (j : Nat) (x y : Rc), l[j]? = some x → l[j + 1]? = some y → x.f < y.f
set_option maxHeartbeats 8000000 in
theorem keeps_fn {h : T O} {N : Nat} {v : V} {l : List Rc} {cap b : Int} (hs : RcS h N v l) (hl : l.length < 9223372036854775808) (hin : ∀ x ∈ l, x.vs.length < 9223372036854775808) : Fn A.C 5 [v, .int .i64 cap, .int .i64 b] h N (fun u _ _ => u = .bool true) := by
 intro w
 have hlen := hs.len
 have hsh : ∀ w, A.C.call (.func 21 [] []) [v, .int .i64 20] ⟨h, N, w⟩ = some (.bool (shortRcs l 20), ⟨h, N, w⟩) := fun w => shr_eq (n := 20) hs hl hin (by omega)
 rw [call_run, A.k5 (by simp)]
 by_cases c1 : 20 < l.length
 ·have c1' : 20 < (l.length : Int) := by omega
  simp (disch := first | (simp; done) | omega | rfl) [-getElem?_pos, -oldIds, A.b5, hlen, c1', awake_eq, Ret]
  exact Keeps.refl
 have c1' : ¬ 20 < (l.length : Int) := by omega
 cases hq : shortRcs l 20 with
 | false =>
  rw [hq] at hsh
  simp (disch := first | (simp; done) | omega | rfl) [-getElem?_pos, -oldIds, A.b5, hlen, c1', hsh, awake_eq, Ret]
  exact Keeps.refl
 | true =>
 rw [hq] at hsh
 have hfew : ∀ x ∈ l, x.vs.length < 1000 ∧ ∀ s ∈ x.vs, s.length ≤ 100000 := fun x hx => by
  unfold shortRcs at hq
  rw [Bool.and_eq_true, List.all_eq_true] at hq
  have := hq.2 x hx
  unfold shortRc at this
  rw [Bool.and_eq_true, decide_eq_true_eq, List.all_eq_true] at this
  refine ⟨by omega, fun s hs => ?_⟩
  have := this.2 s hs
  simp at this; omega
 simp (disch := first | (simp; done) | omega | rfl) [-getElem?_pos, -oldIds, A.b5, hlen, c1', hsh]
 refine run_fn (crecs_fn hs (by omega) hfew) ?_
 rintro _ h1 n1 k1 rfl
 by_cases c2 : chkRcs l = 0
 ·by_cases c3 : cap < 1 ∨ 64 < cap
  ·simp (disch := first | (simp; done) | omega | rfl) [-getElem?_pos, -oldIds, c2, c3, ccap_eq, eqPrim, awake_eq, Ret]
   exact k1
  ·by_cases c4 : b < 1
   ·simp (disch := first | (simp; done) | omega | rfl) [-getElem?_pos, -oldIds, c2, c3, c4, ccap_eq, eqPrim, awake_eq, Ret]
    exact k1
   ·by_cases c5 : 16 < b
    ·simp (disch := first | (simp; done) | omega | rfl) [-getElem?_pos, -oldIds, c2, c3, c4, c5, ccap_eq, eqPrim, awake_eq, Ret]
     exact k1
    ·obtain ⟨cap', rfl⟩ : ∃ c : Nat, cap = c := ⟨cap.toNat, by omega⟩
     obtain ⟨b', rfl⟩ : ∃ c : Nat, b = c := ⟨b.toNat, by omega⟩
     have hch : ∀ x ∈ l, chkRc x = 0 := by
      have h256 : ¬ 256 < l.length := by omega
      simp only [chkRcs, h256, if_false] at c2
      have nz : ∀ m : List Int, firstNZ m = 0 → ∀ y ∈ m, y = 0 := by
       intro m
       induction m with
       | nil => intro _ y hy; simp at hy
       | cons a m ih =>
        intro h0 y hy
        simp only [firstNZ] at h0
        by_cases ha : a = 0
        ·rw [if_pos ha] at h0
         rcases List.mem_cons.1 hy with rfl | hy
         ·exact ha
         ·exact ih h0 y hy
        ·rw [if_neg ha] at h0; exact absurd h0 ha
      exact fun x hx => nz _ c2 _ (List.mem_map.2 ⟨x, hx, rfl⟩)
     have hs1 := hs.keep k1
     simp (disch := first | (simp; done) | omega | rfl) [-getElem?_pos, -oldIds, c2, c3, c4, c5, ccap_eq, eqPrim, hlen]
     refine run_loopD [(6, 7), (55, 75)] (fun e r st => st = ⟨h1, n1, []⟩ ∧ ((e = .exit 0 ∧ asc l) ∨ (e = .ret ∧ r.get 6 = some (.bool true)))) (fun m r st => st = ⟨h1, n1, []⟩ ∧ ∃ k, k + m = l.length ∧ r.get 55 = some (.int .i64 k) ∧ ∀ (j : Nat) (x y : Rc), j + 1 < k → l[j]? = some x → l[j + 1]? = some y → x.f < y.f) l.length ?_ ?_ ?_
     ·exact ⟨rfl, 0, by omega, by simp, fun j x y hj => by omega⟩
     ·rintro m r _ hr hf ⟨rfl, k, hk, h55, ha⟩
      rw [code_run]
      cases m with
      | zero =>
       obtain rfl : k = l.length := by omega
       simp (disch := first | (simp; done) | omega | rfl) [-getElem?_pos, A.lb5_2, hr, hf, h55]
       exact fun j x y hx hy => ha j x y (lt_of_get hy) hx hy
      | succ m =>
       have hlt : k < l.length := by omega
       have hk1 : (k : Int) < (l.length : Int) := by omega
       obtain ⟨y, hy⟩ := get_of_lt hlt
       obtain ⟨i, o, c, e, rw, u, q1, q2, q3, q4, q5⟩ := hs1.at hy
       obtain ⟨_, t1, _, _⟩ := rc_parts q4
       cases k with
       | zero =>
        simp (disch := first | (simp; done) | omega | rfl) [-getElem?_pos, A.lb5_2, hr, hf, h55, hlt, hk1, pairsOk.chk]
        exact ⟨m, by omega, 1, by omega, by simp, fun j x y hj => by omega⟩
       | succ k =>
        obtain ⟨x, hx⟩ := get_of_lt (l := l) (k := k) (by omega)
        obtain ⟨i', o', c', e', rw', u', p1, p2, p3, p4, p5⟩ := hs1.at hx
        obtain ⟨_, s1, _, _⟩ := rc_parts p4
        rw [q1] at p1
        simp only [Option.some.injEq, Prod.mk.injEq] at p1
        obtain ⟨rfl, rfl⟩ := p1
        rw [q3] at p3
        simp only [Option.some.injEq, O.cells.injEq] at p3
        obtain ⟨rfl, rfl, rfl⟩ := p3
        have a3 : (0 : Int) < (k : Int) + 1 := by omega
        have a4 : (k : Int) + 1 < (l.length : Int) := by omega
        have a5 : (k : Int) < (l.length : Int) := by omega
        have a6 : (k : Int) + 1 - 1 = (k : Int) := by omega
        have a7 : k < l.length := by omega
        have a8 : ((k : Int) + 1).toNat = k + 1 := by omega
        by_cases hxy : y.f ≤ x.f
        ·simp (disch := first | (simp; done) | omega | rfl) [-getElem?_pos, A.lb5_2, hr, hf, h55, hlt, hk1, a3, a4, a5, a6, a7, a8, hlen, q1, q2, q3, t1, s1, hxy, pairsOk.chk, awake_eq]
        ·simp (disch := first | (simp; done) | omega | rfl) [-getElem?_pos, A.lb5_2, hr, hf, h55, hlt, hk1, a3, a4, a5, a6, a7, a8, hlen, q1, q2, q3, t1, s1, hxy, pairsOk.chk]
         refine ⟨m, by omega, k + 2, by omega, by simp; omega, fun j a b' hj ha1 hb1 => ?_⟩
         by_cases hjk : j + 1 < k + 1
         ·exact ha j a b' hjk ha1 hb1
         ·obtain rfl : j = k := by omega
          rw [hx] at ha1
          rw [hy] at hb1
          simp only [Option.some.injEq] at ha1 hb1
          subst ha1 hb1
          omega
     ·rintro e r _ hr ⟨rfl, ⟨rfl, ha⟩ | ⟨rfl, h6⟩⟩
      ·simp (disch := first | (simp; done) | omega | rfl) [-getElem?_pos, -oldIds]
       refine run_code (keeps_mid (h := h) (N := N) (cap := cap') (b := b') hs (by omega) (fun x hx => ⟨(hfew x hx).1, (hfew x hx).2, hch x hx⟩) ha (by omega) (by omega) (by omega) (by omega) (by simp) k1 (by simp [hr]) (by simp [hr]) (by simp [hr])) ?_
       rintro e fr ⟨H6, n6, W6⟩ ⟨rfl, r6, rfl, g6, hw6, hk6⟩
       simp only at hw6 hk6
       simp (disch := first | (simp; done) | omega | rfl) [-getElem?_pos, -oldIds, g6, Ret]
       exact ⟨old_nil hw6, hk6⟩
      ·simp (disch := first | (simp; done) | omega | rfl) [-getElem?_pos, -oldIds, h6, Ret]
       exact k1
 ·simp (disch := first | (simp; done) | omega | rfl) [-getElem?_pos, -oldIds, c2, eqPrim, awake_eq, Ret]
  exact k1
end Go.Mx
namespace Go.Mx
open Go
end Go.Mx
namespace Go.Mx
open Go
def rowsT (h : T O) : List O → Nat → T O
 | [], _ => h
 | o :: l, n => (rowsT h l (n + 1)).set n o
theorem rowsT_get (h : T O) : ∀ (l : List O) (n i : Nat), (rowsT h l n).get i = if n ≤ i ∧ i < n + l.length then l[i - n]? else h.get i
 | [], n, i => by simp [rowsT]; omega
 | o :: l, n, i => by
  simp only [rowsT, T.get_set]
  by_cases e : i = n
  ·subst e; simp
  ·rw [if_neg e, rowsT_get h l (n + 1) i]
   by_cases h1 : n + 1 ≤ i ∧ i < n + 1 + l.length
   ·rw [if_pos h1, if_pos (by simp; omega), show i - n = (i - (n + 1)) + 1 by omega]; simp
   ·rw [if_neg h1, if_neg (by simp; omega)]
end Go.Mx
namespace Go.Mx
open Go
inductive InpV where
 | nil
 | emp (b : Addr)
 | sl (b : Addr) (l c : Nat) (f : Nat → ByteArray)
def InpV.val : InpV → Value
 | .nil => .slice none 0 0
 | .emp b => .slice (some b) 0 0
 | .sl b l c f => .slice (some b) l c
def InpV.ok (W : World) : InpV → Prop
 | .sl b l c f => l ≤ c ∧ 0 < c ∧ ∀ i, i < c → W.cell? (b.add i) = some (.string (f i))
 | _ => True
def InpV.strs : InpV → List Str
 | .sl b l c f => (List.range l).map fun i => (f i).data.toList
 | _ => []
def eOf (W : World) (a : Addr) : TypeId := match W.heap[a.block]? with
 | some (.cells _ e _) => e
 | _ => 0
def InpV.mv (i : Nat) : InpV → V
 | .nil => .nilslice
 | .emp b => .empty
 | .sl b l c f => .slice i 0 l (some c) 1
theorem cells_of {W : World} {a : Addr} {n : Nat} {f : Nat → Value} (hn : 0 < n) (hc : ∀ i, i < n → W.cell? (a.add i) = some (f i)) :
  ∃ c' lo hi, W.heap[a.block]? = some (.cells c' (eOf W a) (lo, hi)) ∧ a.spot = none ∧ (∀ i, i < n → c'[a.off + i]? = some (f i)) ∧ a.off + n ≤ c'.size ∧ a.block < W.heap.size := by
 have h0 := hc 0 hn
 have ha0 : a.add 0 = a := by simp [Addr.add]
 rw [ha0] at h0
 obtain ⟨c', e, fr, hb⟩ : ∃ c' e fr, W.heap[a.block]? = some (.cells c' e fr) := by
  unfold World.cell? at h0
  split at h0
  ·rename_i c' e fr hb; exact ⟨c', e, fr, hb⟩
  ·cases h0
 have hs : a.spot = none := by
  unfold World.cell? at h0
  rw [hb] at h0
  simp only at h0
  split at h0
  ·cases h0
  ·rename_i h; simpa using h
 have hcell : ∀ i, i < n → c'[a.off + i]? = some (f i) := fun i hi => by
  have := hc i hi
  unfold World.cell? at this
  have e1 : (a.add i).block = a.block := by unfold Addr.add; split <;> rfl
  have e2 : (a.add i).off = a.off + i := by unfold Addr.add; split <;> simp_all
  have e3 : (a.add i).spot = none := by unfold Addr.add; split <;> simp_all
  rw [e1, hb] at this
  simp only [e2, e3, Option.isSome_none, Bool.false_eq_true, if_false] at this
  exact this
 have hlt : a.block < W.heap.size := by
  rcases Nat.lt_or_ge a.block W.heap.size with h | h
  ·exact h
  ·rw [Array.getElem?_eq_none h] at hb; cases hb
 have hend : a.off + n ≤ c'.size := by
  have := hcell (n - 1) (by omega)
  have h2 := (Array.getElem?_eq_some_iff.1 this).1
  omega
 obtain ⟨lo, hi⟩ := fr
 exact ⟨c', lo, hi, by rw [hb]; simp [eOf, hb], hs, hcell, hend, hlt⟩
end Go.Mx
namespace Go.Mx
open Go
structure RowV where
 a : Addr
 n : Nat
 f : Nat → Value
 g : Nat → V
def RowV.ok (W : World) (r : RowV) : Prop := 0 < r.n ∧ (∀ i, i < r.n → W.cell? (r.a.add i) = some (r.f i)) ∧ ∀ i, i < r.n → (r.f i).oneCell' = true
def rowO (W : World) : Option RowV → O
 | some r => .cells ((List.range r.n).map r.g) (eOf W r.a) false
 | none => .dead
def muR (G m : Nat) (rows : Nat → Option RowV) : Mu := fun i => if i < G then some ⟨i, 0, 0⟩ else if i < G + m then (rows (i - G)).map fun r => ⟨r.a.block, r.a.off, r.n⟩ else none
def heapR (W : World) (G m : Nat) (rows : Nat → Option RowV) : T O := rowsT (deadT G) ((List.range m).map fun k => rowO W (rows k)) G
theorem muR_row {G m k : Nat} {rows : Nat → Option RowV} {r : RowV} (hk : k < m) (hr : rows k = some r) : muR G m rows (G + k) = some ⟨r.a.block, r.a.off, r.n⟩ := by
 unfold muR
 rw [if_neg (by omega), if_pos (by omega), show G + k - G = k by omega, hr]; rfl
theorem heapR_row {W : World} {G m k : Nat} {rows : Nat → Option RowV} (hk : k < m) : (heapR W G m rows).get (G + k) = some (rowO W (rows k)) := by
 unfold heapR
 rw [rowsT_get, if_pos ⟨by omega, by simp; omega⟩, show G + k - G = k by omega]
 simp [hk]
theorem heapR_old {W : World} {G m i : Nat} {rows : Nat → Option RowV} (hi : i < G) : (heapR W G m rows).get i = some .dead := by
 unfold heapR
 rw [rowsT_get, if_neg (by omega)]; exact deadT_get _ _ hi
theorem rows_hrel {P : Program} {W : World} (hW : P.globals.size ≤ W.heap.size) {m : Nat} {rows : Nat → Option RowV} (hok : ∀ k r, k < m → rows k = some r → r.ok W) (hv : ∀ k r i, k < m → rows k = some r → i < r.n → VR (muR P.globals.size m rows) (r.g i) (r.f i)) :
  HRel P (muR P.globals.size m rows) W ⟨heapR W P.globals.size m rows, P.globals.size + m, []⟩ := by
 have split : ∀ i l, muR P.globals.size m rows i = some l → (i < P.globals.size ∧ l = ⟨i, 0, 0⟩) ∨ ∃ k r, k < m ∧ i = P.globals.size + k ∧ rows k = some r ∧ l = ⟨r.a.block, r.a.off, r.n⟩ := fun i l h => by
  unfold muR at h
  split at h
  ·rename_i h1; simp only [Option.some.injEq] at h; exact .inl ⟨h1, h.symm⟩
  ·split at h
   ·rename_i h1 h2
    cases hr : rows (i - P.globals.size) with
    | none => rw [hr] at h; cases h
    | some r =>
     rw [hr] at h
     simp only [Option.map_some, Option.some.injEq] at h
     exact .inr ⟨i - P.globals.size, r, by omega, by omega, hr, h.symm⟩
   ·cases h
 refine ⟨fun i l hl => ?_, fun i l hl => ?_, fun i j l l' o o' hi hj hne ho ho' hw hlv => ?_, fun g hg => ⟨0, by unfold muR; rw [if_pos hg]⟩⟩
 ·rcases split i l hl with ⟨h, rfl⟩ | ⟨k, r, hk, rfl, hr, rfl⟩
  ·exact ⟨by show i < P.globals.size + m; omega, by simp only; omega⟩
  ·obtain ⟨g1, g2, _⟩ := hok k r hk hr
   obtain ⟨_, _, _, _, _, _, _, hlt⟩ := cells_of g1 g2
   exact ⟨by show P.globals.size + k < P.globals.size + m; omega, hlt⟩
 ·rcases split i l hl with ⟨h, rfl⟩ | ⟨k, r, hk, rfl, hr, rfl⟩
  ·exact ⟨.dead, heapR_old h, trivial⟩
  ·obtain ⟨g1, g2, g3⟩ := hok k r hk hr
   obtain ⟨c', lo, hi, hb, hs, hcell, hend, hlt⟩ := cells_of g1 g2
   refine ⟨_, heapR_row hk, ?_⟩
   rw [hr]
   refine ⟨c', lo, hi, hb, hend, by simp, fun j v hvj => ?_, fun j x hj hx => ?_, fun h => by cases h⟩
   ·have hj : j < r.n := by have := (List.getElem?_eq_some_iff.1 hvj).1; simpa using this
    have hv' : v = r.g j := by simpa [hj] using hvj.symm
    subst hv'
    exact ⟨_, hcell j hj, hv k r j hk hr hj⟩
   ·have hj : j < r.n := hj
    rw [hcell j hj] at hx
    simp only [Option.some.injEq] at hx
    subst hx
    exact g3 j hj
 ·have hd : o.wr = false := by
   rcases split i l hi with ⟨h, rfl⟩ | ⟨k, r, hk, rfl, hr, rfl⟩
   ·simp only [heapR_old h, Option.some.injEq] at ho; subst ho; rfl
   ·simp only [heapR_row hk, hr, Option.some.injEq] at ho; subst ho; rfl
  rw [hd] at hw; cases hw
theorem slice_vr {W : World} {G m k len cap z : Nat} {rows : Nat → Option RowV} {r : RowV} (hk : k < m) (hr : rows k = some r) (ok : r.ok W) (hn : r.n = cap * z) (hl : len ≤ cap) (hz : 0 < z) : VR (muR G m rows) (.slice (G + k) 0 len (some cap) z) (.slice (some r.a) len cap) := by
 obtain ⟨⟨b, off, sp⟩, n, f, g⟩ := r
 obtain ⟨g1, g2, _⟩ := ok
 obtain ⟨_, _, _, _, hs, _, _, _⟩ := cells_of g1 g2
 simp only at hs hn
 simp only [VR]
 refine ⟨⟨b, off, n⟩, cap, muR_row hk hr, ?_, hl, by simp [hn], fun k hk => by simpa using hk, fun h => by cases h⟩
 subst hs
 simp
end Go.Mx
namespace Go.Mx
open Go
theorem run_calls_at {P : Program} {tbl : Nat → Option MFunc} {G : Nat} (hP : ProgOk P tbl G) {x : CallT} (hx : CallOk P x) {F d : Nat} {f : FuncId} {mf : MFunc} (hf : cFunc P f = some mf) {args : List V} {xs : List Value} {v : V} {y : Value} {S : St} {μ : Mu} {W : World}
  (h : Gives (funcRun mf (mcode (mcallX x tbl F d) F) args S) v) (hh : HRel P μ W S) (hS : S.w = []) (hargs : VRs μ args xs) (hv : ∀ μ z, VR μ v z → z = y) :
  Calls P f ⟨xs⟩ W fun e W' => e = .returned y ∧ RowKit.Below W.heap.size W W' := by
 obtain ⟨s, hrun, hw⟩ := h.ex
 obtain ⟨fn, hfn, _⟩ := cFunc_fn hf
 have ih := mcallX_ok hP.m hP.e hP.t hx F d
 have := func_ok (code_ok ih hP.e (draw_ok hP.m hP.e ih) (sel_ok ih hP.e) (range_ok ih) F) hfn hf hh hargs hrun
 refine callsIn_wide.1 (CallsIn.mono (F := Fence.wide) this fun e W' he => ?_)
 cases e with
 | returned z =>
  obtain ⟨μ', ws, h1, h2⟩ := he
  have hws : ws = [] := by have := h2.wl; rw [hw, hS] at this; simpa using this.symm
  subst hws
  exact ⟨by rw [hv _ _ h1], h2.chg.os, h2.chg.tape, h2.chg.output, h2.chg.size, fun k hk => h2.chg.block k hk fun i hi => by cases hi⟩
 | panicked _ => exact he.elim
 | outgrown => exact he.elim
theorem Cx.calls {P : Program} {C : Cx} {G : Nat} (hP : ProgOk P C.tbl G) (hx : CallOk P C.x) {f : Nat} {mf : MFunc} (hf : cFunc P f = some mf) (ht : C.tbl f = some mf) {args : List V} {xs : List Value} {v : V} {y : Value} {S : St} {μ : Mu} {W : World}
  (hn : ∀ st, C.x (.func f [] []) args st = none) (h : Fn C f args S.h S.n (fun u _ _ => u = v)) (hh : HRel P μ W S) (hS : S.w = []) (hargs : VRs μ args xs) (hv : ∀ μ z, VR μ v z → z = y) :
  Calls P f ⟨xs⟩ W fun e W' => e = .returned y ∧ RowKit.Below W.heap.size W W' := by
 obtain ⟨u, st', hc, hw, hk, hu⟩ := (h []).ex
 subst hu
 have hS' : (⟨S.h, S.n, []⟩ : St) = S := by obtain ⟨a, b, c⟩ := S; simp only at hS; subst hS; rfl
 rw [hS'] at hc
 rw [Cx.call_eq] at hc
 unfold orCall at hc
 rw [hn] at hc
 simp only at hc
 obtain ⟨n, hn'⟩ := callStep_need (q := fun n => mcode (C.at n) n) (fun n m hnm => mcode_mono (Cx.at_mono hnm) n m hnm) (fun _ _ _ _ _ e => Cx.code_need e) hc
 unfold callStep at hn'
 simp only [ht, List.nil_append, List.append_nil] at hn'
 exact run_calls_at (F := n) (d := n) hP hx hf ⟨_, hn', hw⟩ hh hS hargs hv
end Go.Mx
