/-
  PipelineSafe: the rounds of its loop.
-/
import Derived.Test.YtkdpkgfpnimekaaGreatDoorSaK
import Derived.Test.YtkdpkgfpnimekaaGreatDoorProg
set_option linter.all false
namespace Go.Mx
open Go Go.Proofs
set_option maxRecDepth 1000000
set_option linter.unusedSimpArgs false
set_option linter.unusedVariables false

set_option maxHeartbeats 4000000 in
theorem round_0_0 (x : CallT) (g : Nat) (p q i L : Nat) (o : Nat) (cp : Option Nat) (cs : List V) (e : TypeId) (k : Nat) (b : Int) (fr : Fr) (st : St)
    (h : SInv p q i L (.slice i o L cp 1) cs e k wIdle 0 false false fr st) (hk : k < L) (hb : cs[o + k]? = some (.int .u8 b)) (hb0 : 0 ≤ b) (hb1 : b < 256) (hm : b.tmod 11 = 0) (hL : L ≤ 40)
    (h5 : ∀ st, x (.func 5 [] []) [stV wIdle 0 false false, .str [115, 116, 97, 114, 116]] st = some (.tup [stV wOpen 0 false false, .int .i64 0], st))
    (h6 : ∀ h n w, x (.func 6 [] []) [stV wIdle 0 false false] ⟨h, n, w⟩ = some (.tup [.slice n 0 3 none 1, .int .i64 0], ⟨h.set n (.cells [(.str [115, 116, 97, 114, 116]), (.str [108, 111, 115, 101]), (.str [103, 117, 115, 116])] 9 true), n + 1, w⟩))
    (h7 : ∀ st, x (.func 7 [] []) [stV wOpen 0 false false] st = some (.tup [.bool false, .int .i64 0], st))
    (h8 : ∀ st, x (.func 12 [] []) [stV wOpen 0 false false] st = some (.int .i64 0, st))
    (h16 : ∀ args st, x (.func 16 [] []) args st = none) :
    Post (mcode (mcallX x (cFunc Tryz.prog) 200 10) (g + 60) none A.lb4 fr st) fun ex fr st => ex = .normal ∧ SInv p q i L (.slice i o L cp 1) cs e (k + 1) wOpen 0 false false fr st := by
  obtain ⟨r, n, mk⟩ := fr
  obtain ⟨hh, N, w⟩ := st
  obtain ⟨f1, f2, f3, f4, f5, f6, f7, f8, e1, e2, e3, l1, l2, l3, hw, i1, i2, i3⟩ := h
  simp only at f1 f2 f3 f4 f5 f6 f7 f8 e1 e2 e3 l1 l2 l3 hw
  subst f1; subst f2
  have e3 := e3 (by omega)
  have d1 : ¬ p = N := by omega
  have d2 : ¬ q = N := by omega
  have d3 : ¬ i = N := by omega
  have d4 : ¬ p = N + 1 := by omega
  have d5 : ¬ q = N + 1 := by omega
  have d6 : ¬ i = N + 1 := by omega
  have d7 : ¬ i = p := by omega
  have d8 : ¬ i = q := by omega
  have d9 : ¬ q = p := fun h => i3 h.symm
  have d10 : ¬ N = p := by omega
  have d11 : ¬ N + 1 = p := by omega
  have b1 : -9223372036854775808 ≤ b := by omega
  have b2 : b < 9223372036854775808 := by omega
  have k1 : (k : Int) < (L : Int) := by omega
  have k2 : -9223372036854775808 ≤ (k : Int) + 1 := by omega
  have k3 : (k : Int) + 1 < 9223372036854775808 := by omega
  have g1 : 200 = 199 + 1 := rfl
  have w1 : i < N := l3
  have w2 : i < N + 1 := by omega
  have q0 : eqV false (.node [(0, none, .prim .str), (1, none, .prim .int), (2, none, .prim .bool), (3, none, .prim .bool)]) zSt zSt = some true := by simp [eqV, eqParts, eqPrim, partV]
  simp [ready] at f5
  simp [A.lb4, f3, f4, f5, f6, f7, f8, e1, e2, e3, d1, d2, d3, d4, d5, d6, d7, d8, d9, d10, d11, b1, b2, k1, k2, k3, hb, hm, h5, h6, h7, h8, h16, A.r16, A.b16, post_some, eqV_prm, eqPrim, q0]
  exact ⟨rfl, rfl, by simp [f3], by simp [f4], by simp [f5, ready], by simp [f6], by simp [f7], by simp, by simp [e1, d1, d4, d9, d10, d11], by simp [e2, d2, d5, d9], fun _ => by simp [e3, d3, d6, d7], by simp only; omega, by simp only; omega, by simp only; omega, by simpa [i1, w1, w2] using hw, i1, i2, i3⟩

set_option maxHeartbeats 4000000 in
theorem round_0_6 (x : CallT) (g : Nat) (p q i L : Nat) (o : Nat) (cp : Option Nat) (cs : List V) (e : TypeId) (k : Nat) (b : Int) (fr : Fr) (st : St)
    (h : SInv p q i L (.slice i o L cp 1) cs e k wIdle 0 false false fr st) (hk : k < L) (hb : cs[o + k]? = some (.int .u8 b)) (hb0 : 0 ≤ b) (hb1 : b < 256) (hm : b.tmod 11 = 6) (hL : L ≤ 40)
    (h5 : ∀ st, x (.func 5 [] []) [stV wIdle 0 false false, .str [108, 111, 115, 101]] st = some (.tup [stV wIdle 0 true false, .int .i64 0], st))
    (h6 : ∀ h n w, x (.func 6 [] []) [stV wIdle 0 false false] ⟨h, n, w⟩ = some (.tup [.slice n 0 3 none 1, .int .i64 0], ⟨h.set n (.cells [(.str [115, 116, 97, 114, 116]), (.str [108, 111, 115, 101]), (.str [103, 117, 115, 116])] 9 true), n + 1, w⟩))
    (h7 : ∀ st, x (.func 7 [] []) [stV wIdle 0 true false] st = some (.tup [.bool false, .int .i64 0], st))
    (h8 : ∀ st, x (.func 12 [] []) [stV wIdle 0 true false] st = some (.int .i64 0, st))
    (h16 : ∀ args st, x (.func 16 [] []) args st = none) :
    Post (mcode (mcallX x (cFunc Tryz.prog) 200 10) (g + 60) none A.lb4 fr st) fun ex fr st => ex = .normal ∧ SInv p q i L (.slice i o L cp 1) cs e (k + 1) wIdle 0 true false fr st := by
  obtain ⟨r, n, mk⟩ := fr
  obtain ⟨hh, N, w⟩ := st
  obtain ⟨f1, f2, f3, f4, f5, f6, f7, f8, e1, e2, e3, l1, l2, l3, hw, i1, i2, i3⟩ := h
  simp only at f1 f2 f3 f4 f5 f6 f7 f8 e1 e2 e3 l1 l2 l3 hw
  subst f1; subst f2
  have e3 := e3 (by omega)
  have d1 : ¬ p = N := by omega
  have d2 : ¬ q = N := by omega
  have d3 : ¬ i = N := by omega
  have d4 : ¬ p = N + 1 := by omega
  have d5 : ¬ q = N + 1 := by omega
  have d6 : ¬ i = N + 1 := by omega
  have d7 : ¬ i = p := by omega
  have d8 : ¬ i = q := by omega
  have d9 : ¬ q = p := fun h => i3 h.symm
  have d10 : ¬ N = p := by omega
  have d11 : ¬ N + 1 = p := by omega
  have b1 : -9223372036854775808 ≤ b := by omega
  have b2 : b < 9223372036854775808 := by omega
  have k1 : (k : Int) < (L : Int) := by omega
  have k2 : -9223372036854775808 ≤ (k : Int) + 1 := by omega
  have k3 : (k : Int) + 1 < 9223372036854775808 := by omega
  have g1 : 200 = 199 + 1 := rfl
  have w1 : i < N := l3
  have w2 : i < N + 1 := by omega
  have q0 : eqV false (.node [(0, none, .prim .str), (1, none, .prim .int), (2, none, .prim .bool), (3, none, .prim .bool)]) zSt zSt = some true := by simp [eqV, eqParts, eqPrim, partV]
  simp [ready] at f5
  simp [A.lb4, f3, f4, f5, f6, f7, f8, e1, e2, e3, d1, d2, d3, d4, d5, d6, d7, d8, d9, d10, d11, b1, b2, k1, k2, k3, hb, hm, h5, h6, h7, h8, h16, A.r16, A.b16, post_some, eqV_prm, eqPrim, q0]
  exact ⟨rfl, rfl, by simp [f3], by simp [f4], by simp [f5, ready], by simp [f6], by simp [f7], by simp, by simp [e1, d1, d4, d9, d10, d11], by simp [e2, d2, d5, d9], fun _ => by simp [e3, d3, d6, d7], by simp only; omega, by simp only; omega, by simp only; omega, by simpa [i1, w1, w2] using hw, i1, i2, i3⟩

set_option maxHeartbeats 4000000 in
theorem round_1_1 (x : CallT) (g : Nat) (p q i L : Nat) (o : Nat) (cp : Option Nat) (cs : List V) (e : TypeId) (k : Nat) (b : Int) (fr : Fr) (st : St)
    (h : SInv p q i L (.slice i o L cp 1) cs e k wIdle 0 true false fr st) (hk : k < L) (hb : cs[o + k]? = some (.int .u8 b)) (hb0 : 0 ≤ b) (hb1 : b < 256) (hm : b.tmod 11 = 1) (hL : L ≤ 40)
    (h5 : ∀ st, x (.func 5 [] []) [stV wIdle 0 true false, .str [99, 108, 111, 115, 101]] st = some (.tup [zSt, .int .i64 18], st))
    (h6 : ∀ h n w, x (.func 6 [] []) [stV wIdle 0 true false] ⟨h, n, w⟩ = some (.tup [.slice n 0 3 none 1, .int .i64 0], ⟨h.set n (.cells [(.str [115, 116, 97, 114, 116]), (.str [102, 105, 110, 100]), (.str [103, 117, 115, 116])] 9 true), n + 1, w⟩))
    (h16 : ∀ args st, x (.func 16 [] []) args st = none) :
    Post (mcode (mcallX x (cFunc Tryz.prog) 200 10) (g + 60) none A.lb4 fr st) fun ex fr st => ex = .normal ∧ SInv p q i L (.slice i o L cp 1) cs e (k + 1) wIdle 0 true false fr st := by
  obtain ⟨r, n, mk⟩ := fr
  obtain ⟨hh, N, w⟩ := st
  obtain ⟨f1, f2, f3, f4, f5, f6, f7, f8, e1, e2, e3, l1, l2, l3, hw, i1, i2, i3⟩ := h
  simp only at f1 f2 f3 f4 f5 f6 f7 f8 e1 e2 e3 l1 l2 l3 hw
  subst f1; subst f2
  have e3 := e3 (by omega)
  have d1 : ¬ p = N := by omega
  have d2 : ¬ q = N := by omega
  have d3 : ¬ i = N := by omega
  have d4 : ¬ p = N + 1 := by omega
  have d5 : ¬ q = N + 1 := by omega
  have d6 : ¬ i = N + 1 := by omega
  have d7 : ¬ i = p := by omega
  have d8 : ¬ i = q := by omega
  have d9 : ¬ q = p := fun h => i3 h.symm
  have d10 : ¬ N = p := by omega
  have d11 : ¬ N + 1 = p := by omega
  have b1 : -9223372036854775808 ≤ b := by omega
  have b2 : b < 9223372036854775808 := by omega
  have k1 : (k : Int) < (L : Int) := by omega
  have k2 : -9223372036854775808 ≤ (k : Int) + 1 := by omega
  have k3 : (k : Int) + 1 < 9223372036854775808 := by omega
  have g1 : 200 = 199 + 1 := rfl
  have w1 : i < N := l3
  have w2 : i < N + 1 := by omega
  have q0 : eqV false (.node [(0, none, .prim .str), (1, none, .prim .int), (2, none, .prim .bool), (3, none, .prim .bool)]) zSt zSt = some true := by simp [eqV, eqParts, eqPrim, partV]
  simp [ready] at f5
  simp [A.lb4, f3, f4, f5, f6, f7, f8, e1, e2, e3, d1, d2, d3, d4, d5, d6, d7, d8, d9, d10, d11, b1, b2, k1, k2, k3, hb, hm, h5, h6, h16, A.r16, A.b16, post_some, eqV_prm, eqPrim, q0]
  exact ⟨rfl, rfl, by simp [f3], by simp [f4], by simp [f5, ready], by simp [f6], by simp [f7], by simp, by simp [e1, d1, d4, d9, d10, d11], by simp [e2, d2, d5, d9], fun _ => by simp [e3, d3, d6, d7], by simp only; omega, by simp only; omega, by simp only; omega, by simpa [i1, w1, w2] using hw, i1, i2, i3⟩

set_option maxHeartbeats 4000000 in
theorem round_1_7 (x : CallT) (g : Nat) (p q i L : Nat) (o : Nat) (cp : Option Nat) (cs : List V) (e : TypeId) (k : Nat) (b : Int) (fr : Fr) (st : St)
    (h : SInv p q i L (.slice i o L cp 1) cs e k wIdle 0 true false fr st) (hk : k < L) (hb : cs[o + k]? = some (.int .u8 b)) (hb0 : 0 ≤ b) (hb1 : b < 256) (hm : b.tmod 11 = 7) (hL : L ≤ 40)
    (h5 : ∀ st, x (.func 5 [] []) [stV wIdle 0 true false, .str [102, 105, 110, 100]] st = some (.tup [stV wIdle 0 false false, .int .i64 0], st))
    (h6 : ∀ h n w, x (.func 6 [] []) [stV wIdle 0 true false] ⟨h, n, w⟩ = some (.tup [.slice n 0 3 none 1, .int .i64 0], ⟨h.set n (.cells [(.str [115, 116, 97, 114, 116]), (.str [102, 105, 110, 100]), (.str [103, 117, 115, 116])] 9 true), n + 1, w⟩))
    (h7 : ∀ st, x (.func 7 [] []) [stV wIdle 0 false false] st = some (.tup [.bool false, .int .i64 0], st))
    (h8 : ∀ st, x (.func 12 [] []) [stV wIdle 0 false false] st = some (.int .i64 0, st))
    (h16 : ∀ args st, x (.func 16 [] []) args st = none) :
    Post (mcode (mcallX x (cFunc Tryz.prog) 200 10) (g + 60) none A.lb4 fr st) fun ex fr st => ex = .normal ∧ SInv p q i L (.slice i o L cp 1) cs e (k + 1) wIdle 0 false false fr st := by
  obtain ⟨r, n, mk⟩ := fr
  obtain ⟨hh, N, w⟩ := st
  obtain ⟨f1, f2, f3, f4, f5, f6, f7, f8, e1, e2, e3, l1, l2, l3, hw, i1, i2, i3⟩ := h
  simp only at f1 f2 f3 f4 f5 f6 f7 f8 e1 e2 e3 l1 l2 l3 hw
  subst f1; subst f2
  have e3 := e3 (by omega)
  have d1 : ¬ p = N := by omega
  have d2 : ¬ q = N := by omega
  have d3 : ¬ i = N := by omega
  have d4 : ¬ p = N + 1 := by omega
  have d5 : ¬ q = N + 1 := by omega
  have d6 : ¬ i = N + 1 := by omega
  have d7 : ¬ i = p := by omega
  have d8 : ¬ i = q := by omega
  have d9 : ¬ q = p := fun h => i3 h.symm
  have d10 : ¬ N = p := by omega
  have d11 : ¬ N + 1 = p := by omega
  have b1 : -9223372036854775808 ≤ b := by omega
  have b2 : b < 9223372036854775808 := by omega
  have k1 : (k : Int) < (L : Int) := by omega
  have k2 : -9223372036854775808 ≤ (k : Int) + 1 := by omega
  have k3 : (k : Int) + 1 < 9223372036854775808 := by omega
  have g1 : 200 = 199 + 1 := rfl
  have w1 : i < N := l3
  have w2 : i < N + 1 := by omega
  have q0 : eqV false (.node [(0, none, .prim .str), (1, none, .prim .int), (2, none, .prim .bool), (3, none, .prim .bool)]) zSt zSt = some true := by simp [eqV, eqParts, eqPrim, partV]
  simp [ready] at f5
  simp [A.lb4, f3, f4, f5, f6, f7, f8, e1, e2, e3, d1, d2, d3, d4, d5, d6, d7, d8, d9, d10, d11, b1, b2, k1, k2, k3, hb, hm, h5, h6, h7, h8, h16, A.r16, A.b16, post_some, eqV_prm, eqPrim, q0]
  exact ⟨rfl, rfl, by simp [f3], by simp [f4], by simp [f5, ready], by simp [f6], by simp [f7], by simp, by simp [e1, d1, d4, d9, d10, d11], by simp [e2, d2, d5, d9], fun _ => by simp [e3, d3, d6, d7], by simp only; omega, by simp only; omega, by simp only; omega, by simpa [i1, w1, w2] using hw, i1, i2, i3⟩

set_option maxHeartbeats 4000000 in
theorem round_2_2 (x : CallT) (g : Nat) (p q i L : Nat) (o : Nat) (cp : Option Nat) (cs : List V) (e : TypeId) (k : Nat) (b : Int) (fr : Fr) (st : St)
    (h : SInv p q i L (.slice i o L cp 1) cs e k wIdle 0 false true fr st) (hk : k < L) (hb : cs[o + k]? = some (.int .u8 b)) (hb0 : 0 ≤ b) (hb1 : b < 256) (hm : b.tmod 11 = 2) (hL : L ≤ 40)
    (h5 : ∀ st, x (.func 5 [] []) [stV wIdle 0 false true, .str [111, 112, 101, 110]] st = some (.tup [zSt, .int .i64 18], st))
    (h6 : ∀ h n w, x (.func 6 [] []) [stV wIdle 0 false true] ⟨h, n, w⟩ = some (.tup [.slice n 0 2 none 1, .int .i64 0], ⟨h.set n (.cells [(.str [108, 111, 115, 101]), (.str [99, 97, 108, 109])] 9 true), n + 1, w⟩))
    (h16 : ∀ args st, x (.func 16 [] []) args st = none) :
    Post (mcode (mcallX x (cFunc Tryz.prog) 200 10) (g + 60) none A.lb4 fr st) fun ex fr st => ex = .normal ∧ SInv p q i L (.slice i o L cp 1) cs e (k + 1) wIdle 0 false true fr st := by
  obtain ⟨r, n, mk⟩ := fr
  obtain ⟨hh, N, w⟩ := st
  obtain ⟨f1, f2, f3, f4, f5, f6, f7, f8, e1, e2, e3, l1, l2, l3, hw, i1, i2, i3⟩ := h
  simp only at f1 f2 f3 f4 f5 f6 f7 f8 e1 e2 e3 l1 l2 l3 hw
  subst f1; subst f2
  have e3 := e3 (by omega)
  have d1 : ¬ p = N := by omega
  have d2 : ¬ q = N := by omega
  have d3 : ¬ i = N := by omega
  have d4 : ¬ p = N + 1 := by omega
  have d5 : ¬ q = N + 1 := by omega
  have d6 : ¬ i = N + 1 := by omega
  have d7 : ¬ i = p := by omega
  have d8 : ¬ i = q := by omega
  have d9 : ¬ q = p := fun h => i3 h.symm
  have d10 : ¬ N = p := by omega
  have d11 : ¬ N + 1 = p := by omega
  have b1 : -9223372036854775808 ≤ b := by omega
  have b2 : b < 9223372036854775808 := by omega
  have k1 : (k : Int) < (L : Int) := by omega
  have k2 : -9223372036854775808 ≤ (k : Int) + 1 := by omega
  have k3 : (k : Int) + 1 < 9223372036854775808 := by omega
  have g1 : 200 = 199 + 1 := rfl
  have w1 : i < N := l3
  have w2 : i < N + 1 := by omega
  have q0 : eqV false (.node [(0, none, .prim .str), (1, none, .prim .int), (2, none, .prim .bool), (3, none, .prim .bool)]) zSt zSt = some true := by simp [eqV, eqParts, eqPrim, partV]
  simp [ready] at f5
  simp [A.lb4, f3, f4, f5, f6, f7, f8, e1, e2, e3, d1, d2, d3, d4, d5, d6, d7, d8, d9, d10, d11, b1, b2, k1, k2, k3, hb, hm, h5, h6, h16, A.r16, A.b16, post_some, eqV_prm, eqPrim, q0]
  exact ⟨rfl, rfl, by simp [f3], by simp [f4], by simp [f5, ready], by simp [f6], by simp [f7], by simp, by simp [e1, d1, d4, d9, d10, d11], by simp [e2, d2, d5, d9], fun _ => by simp [e3, d3, d6, d7], by simp only; omega, by simp only; omega, by simp only; omega, by simpa [i1, w1, w2] using hw, i1, i2, i3⟩

set_option maxHeartbeats 4000000 in
theorem round_2_8 (x : CallT) (g : Nat) (p q i L : Nat) (o : Nat) (cp : Option Nat) (cs : List V) (e : TypeId) (k : Nat) (b : Int) (fr : Fr) (st : St)
    (h : SInv p q i L (.slice i o L cp 1) cs e k wIdle 0 false true fr st) (hk : k < L) (hb : cs[o + k]? = some (.int .u8 b)) (hb0 : 0 ≤ b) (hb1 : b < 256) (hm : b.tmod 11 = 8) (hL : L ≤ 40)
    (h5 : ∀ st, x (.func 5 [] []) [stV wIdle 0 false true, .str [103, 117, 115, 116]] st = some (.tup [zSt, .int .i64 18], st))
    (h6 : ∀ h n w, x (.func 6 [] []) [stV wIdle 0 false true] ⟨h, n, w⟩ = some (.tup [.slice n 0 2 none 1, .int .i64 0], ⟨h.set n (.cells [(.str [108, 111, 115, 101]), (.str [99, 97, 108, 109])] 9 true), n + 1, w⟩))
    (h16 : ∀ args st, x (.func 16 [] []) args st = none) :
    Post (mcode (mcallX x (cFunc Tryz.prog) 200 10) (g + 60) none A.lb4 fr st) fun ex fr st => ex = .normal ∧ SInv p q i L (.slice i o L cp 1) cs e (k + 1) wIdle 0 false true fr st := by
  obtain ⟨r, n, mk⟩ := fr
  obtain ⟨hh, N, w⟩ := st
  obtain ⟨f1, f2, f3, f4, f5, f6, f7, f8, e1, e2, e3, l1, l2, l3, hw, i1, i2, i3⟩ := h
  simp only at f1 f2 f3 f4 f5 f6 f7 f8 e1 e2 e3 l1 l2 l3 hw
  subst f1; subst f2
  have e3 := e3 (by omega)
  have d1 : ¬ p = N := by omega
  have d2 : ¬ q = N := by omega
  have d3 : ¬ i = N := by omega
  have d4 : ¬ p = N + 1 := by omega
  have d5 : ¬ q = N + 1 := by omega
  have d6 : ¬ i = N + 1 := by omega
  have d7 : ¬ i = p := by omega
  have d8 : ¬ i = q := by omega
  have d9 : ¬ q = p := fun h => i3 h.symm
  have d10 : ¬ N = p := by omega
  have d11 : ¬ N + 1 = p := by omega
  have b1 : -9223372036854775808 ≤ b := by omega
  have b2 : b < 9223372036854775808 := by omega
  have k1 : (k : Int) < (L : Int) := by omega
  have k2 : -9223372036854775808 ≤ (k : Int) + 1 := by omega
  have k3 : (k : Int) + 1 < 9223372036854775808 := by omega
  have g1 : 200 = 199 + 1 := rfl
  have w1 : i < N := l3
  have w2 : i < N + 1 := by omega
  have q0 : eqV false (.node [(0, none, .prim .str), (1, none, .prim .int), (2, none, .prim .bool), (3, none, .prim .bool)]) zSt zSt = some true := by simp [eqV, eqParts, eqPrim, partV]
  simp [ready] at f5
  simp [A.lb4, f3, f4, f5, f6, f7, f8, e1, e2, e3, d1, d2, d3, d4, d5, d6, d7, d8, d9, d10, d11, b1, b2, k1, k2, k3, hb, hm, h5, h6, h16, A.r16, A.b16, post_some, eqV_prm, eqPrim, q0]
  exact ⟨rfl, rfl, by simp [f3], by simp [f4], by simp [f5, ready], by simp [f6], by simp [f7], by simp, by simp [e1, d1, d4, d9, d10, d11], by simp [e2, d2, d5, d9], fun _ => by simp [e3, d3, d6, d7], by simp only; omega, by simp only; omega, by simp only; omega, by simpa [i1, w1, w2] using hw, i1, i2, i3⟩

set_option maxHeartbeats 4000000 in
theorem round_3_3 (x : CallT) (g : Nat) (p q i L : Nat) (o : Nat) (cp : Option Nat) (cs : List V) (e : TypeId) (k : Nat) (b : Int) (fr : Fr) (st : St)
    (h : SInv p q i L (.slice i o L cp 1) cs e k wIdle 0 true true fr st) (hk : k < L) (hb : cs[o + k]? = some (.int .u8 b)) (hb0 : 0 ≤ b) (hb1 : b < 256) (hm : b.tmod 11 = 3) (hL : L ≤ 40)
    (h5 : ∀ st, x (.func 5 [] []) [stV wIdle 0 true true, .str [115, 116, 111, 112]] st = some (.tup [zSt, .int .i64 18], st))
    (h6 : ∀ h n w, x (.func 6 [] []) [stV wIdle 0 true true] ⟨h, n, w⟩ = some (.tup [.slice n 0 2 none 1, .int .i64 0], ⟨h.set n (.cells [(.str [102, 105, 110, 100]), (.str [99, 97, 108, 109])] 9 true), n + 1, w⟩))
    (h16 : ∀ args st, x (.func 16 [] []) args st = none) :
    Post (mcode (mcallX x (cFunc Tryz.prog) 200 10) (g + 60) none A.lb4 fr st) fun ex fr st => ex = .normal ∧ SInv p q i L (.slice i o L cp 1) cs e (k + 1) wIdle 0 true true fr st := by
  obtain ⟨r, n, mk⟩ := fr
  obtain ⟨hh, N, w⟩ := st
  obtain ⟨f1, f2, f3, f4, f5, f6, f7, f8, e1, e2, e3, l1, l2, l3, hw, i1, i2, i3⟩ := h
  simp only at f1 f2 f3 f4 f5 f6 f7 f8 e1 e2 e3 l1 l2 l3 hw
  subst f1; subst f2
  have e3 := e3 (by omega)
  have d1 : ¬ p = N := by omega
  have d2 : ¬ q = N := by omega
  have d3 : ¬ i = N := by omega
  have d4 : ¬ p = N + 1 := by omega
  have d5 : ¬ q = N + 1 := by omega
  have d6 : ¬ i = N + 1 := by omega
  have d7 : ¬ i = p := by omega
  have d8 : ¬ i = q := by omega
  have d9 : ¬ q = p := fun h => i3 h.symm
  have d10 : ¬ N = p := by omega
  have d11 : ¬ N + 1 = p := by omega
  have b1 : -9223372036854775808 ≤ b := by omega
  have b2 : b < 9223372036854775808 := by omega
  have k1 : (k : Int) < (L : Int) := by omega
  have k2 : -9223372036854775808 ≤ (k : Int) + 1 := by omega
  have k3 : (k : Int) + 1 < 9223372036854775808 := by omega
  have g1 : 200 = 199 + 1 := rfl
  have w1 : i < N := l3
  have w2 : i < N + 1 := by omega
  have q0 : eqV false (.node [(0, none, .prim .str), (1, none, .prim .int), (2, none, .prim .bool), (3, none, .prim .bool)]) zSt zSt = some true := by simp [eqV, eqParts, eqPrim, partV]
  simp [ready] at f5
  simp [A.lb4, f3, f4, f5, f6, f7, f8, e1, e2, e3, d1, d2, d3, d4, d5, d6, d7, d8, d9, d10, d11, b1, b2, k1, k2, k3, hb, hm, h5, h6, h16, A.r16, A.b16, post_some, eqV_prm, eqPrim, q0]
  exact ⟨rfl, rfl, by simp [f3], by simp [f4], by simp [f5, ready], by simp [f6], by simp [f7], by simp, by simp [e1, d1, d4, d9, d10, d11], by simp [e2, d2, d5, d9], fun _ => by simp [e3, d3, d6, d7], by simp only; omega, by simp only; omega, by simp only; omega, by simpa [i1, w1, w2] using hw, i1, i2, i3⟩

set_option maxHeartbeats 4000000 in
theorem round_3_9 (x : CallT) (g : Nat) (p q i L : Nat) (o : Nat) (cp : Option Nat) (cs : List V) (e : TypeId) (k : Nat) (b : Int) (fr : Fr) (st : St)
    (h : SInv p q i L (.slice i o L cp 1) cs e k wIdle 0 true true fr st) (hk : k < L) (hb : cs[o + k]? = some (.int .u8 b)) (hb0 : 0 ≤ b) (hb1 : b < 256) (hm : b.tmod 11 = 9) (hL : L ≤ 40)
    (h5 : ∀ st, x (.func 5 [] []) [stV wIdle 0 true true, .str [99, 97, 108, 109]] st = some (.tup [stV wIdle 0 true false, .int .i64 0], st))
    (h6 : ∀ h n w, x (.func 6 [] []) [stV wIdle 0 true true] ⟨h, n, w⟩ = some (.tup [.slice n 0 2 none 1, .int .i64 0], ⟨h.set n (.cells [(.str [102, 105, 110, 100]), (.str [99, 97, 108, 109])] 9 true), n + 1, w⟩))
    (h7 : ∀ st, x (.func 7 [] []) [stV wIdle 0 true false] st = some (.tup [.bool false, .int .i64 0], st))
    (h8 : ∀ st, x (.func 12 [] []) [stV wIdle 0 true false] st = some (.int .i64 0, st))
    (h16 : ∀ args st, x (.func 16 [] []) args st = none) :
    Post (mcode (mcallX x (cFunc Tryz.prog) 200 10) (g + 60) none A.lb4 fr st) fun ex fr st => ex = .normal ∧ SInv p q i L (.slice i o L cp 1) cs e (k + 1) wIdle 0 true false fr st := by
  obtain ⟨r, n, mk⟩ := fr
  obtain ⟨hh, N, w⟩ := st
  obtain ⟨f1, f2, f3, f4, f5, f6, f7, f8, e1, e2, e3, l1, l2, l3, hw, i1, i2, i3⟩ := h
  simp only at f1 f2 f3 f4 f5 f6 f7 f8 e1 e2 e3 l1 l2 l3 hw
  subst f1; subst f2
  have e3 := e3 (by omega)
  have d1 : ¬ p = N := by omega
  have d2 : ¬ q = N := by omega
  have d3 : ¬ i = N := by omega
  have d4 : ¬ p = N + 1 := by omega
  have d5 : ¬ q = N + 1 := by omega
  have d6 : ¬ i = N + 1 := by omega
  have d7 : ¬ i = p := by omega
  have d8 : ¬ i = q := by omega
  have d9 : ¬ q = p := fun h => i3 h.symm
  have d10 : ¬ N = p := by omega
  have d11 : ¬ N + 1 = p := by omega
  have b1 : -9223372036854775808 ≤ b := by omega
  have b2 : b < 9223372036854775808 := by omega
  have k1 : (k : Int) < (L : Int) := by omega
  have k2 : -9223372036854775808 ≤ (k : Int) + 1 := by omega
  have k3 : (k : Int) + 1 < 9223372036854775808 := by omega
  have g1 : 200 = 199 + 1 := rfl
  have w1 : i < N := l3
  have w2 : i < N + 1 := by omega
  have q0 : eqV false (.node [(0, none, .prim .str), (1, none, .prim .int), (2, none, .prim .bool), (3, none, .prim .bool)]) zSt zSt = some true := by simp [eqV, eqParts, eqPrim, partV]
  simp [ready] at f5
  simp [A.lb4, f3, f4, f5, f6, f7, f8, e1, e2, e3, d1, d2, d3, d4, d5, d6, d7, d8, d9, d10, d11, b1, b2, k1, k2, k3, hb, hm, h5, h6, h7, h8, h16, A.r16, A.b16, post_some, eqV_prm, eqPrim, q0]
  exact ⟨rfl, rfl, by simp [f3], by simp [f4], by simp [f5, ready], by simp [f6], by simp [f7], by simp, by simp [e1, d1, d4, d9, d10, d11], by simp [e2, d2, d5, d9], fun _ => by simp [e3, d3, d6, d7], by simp only; omega, by simp only; omega, by simp only; omega, by simpa [i1, w1, w2] using hw, i1, i2, i3⟩

set_option maxHeartbeats 4000000 in
theorem round_4_4 (x : CallT) (g : Nat) (p q i L : Nat) (o : Nat) (cp : Option Nat) (cs : List V) (e : TypeId) (k : Nat) (b : Int) (fr : Fr) (st : St)
    (h : SInv p q i L (.slice i o L cp 1) cs e k wOpen 0 false false fr st) (hk : k < L) (hb : cs[o + k]? = some (.int .u8 b)) (hb0 : 0 ≤ b) (hb1 : b < 256) (hm : b.tmod 11 = 4) (hL : L ≤ 40)
    (h5 : ∀ st, x (.func 5 [] []) [stV wOpen 0 false false, .str [115, 97, 116, 117, 114, 97, 116, 101]] st = some (.tup [zSt, .int .i64 18], st))
    (h6 : ∀ h n w, x (.func 6 [] []) [stV wOpen 0 false false] ⟨h, n, w⟩ = some (.tup [.slice n 0 4 none 1, .int .i64 0], ⟨h.set n (.cells [(.str [99, 108, 111, 115, 101]), (.str [115, 116, 111, 112]), (.str [108, 111, 115, 101]), (.str [103, 117, 115, 116])] 9 true), n + 1, w⟩))
    (h16 : ∀ args st, x (.func 16 [] []) args st = none) :
    Post (mcode (mcallX x (cFunc Tryz.prog) 200 10) (g + 60) none A.lb4 fr st) fun ex fr st => ex = .normal ∧ SInv p q i L (.slice i o L cp 1) cs e (k + 1) wOpen 0 false false fr st := by
  obtain ⟨r, n, mk⟩ := fr
  obtain ⟨hh, N, w⟩ := st
  obtain ⟨f1, f2, f3, f4, f5, f6, f7, f8, e1, e2, e3, l1, l2, l3, hw, i1, i2, i3⟩ := h
  simp only at f1 f2 f3 f4 f5 f6 f7 f8 e1 e2 e3 l1 l2 l3 hw
  subst f1; subst f2
  have e3 := e3 (by omega)
  have d1 : ¬ p = N := by omega
  have d2 : ¬ q = N := by omega
  have d3 : ¬ i = N := by omega
  have d4 : ¬ p = N + 1 := by omega
  have d5 : ¬ q = N + 1 := by omega
  have d6 : ¬ i = N + 1 := by omega
  have d7 : ¬ i = p := by omega
  have d8 : ¬ i = q := by omega
  have d9 : ¬ q = p := fun h => i3 h.symm
  have d10 : ¬ N = p := by omega
  have d11 : ¬ N + 1 = p := by omega
  have b1 : -9223372036854775808 ≤ b := by omega
  have b2 : b < 9223372036854775808 := by omega
  have k1 : (k : Int) < (L : Int) := by omega
  have k2 : -9223372036854775808 ≤ (k : Int) + 1 := by omega
  have k3 : (k : Int) + 1 < 9223372036854775808 := by omega
  have g1 : 200 = 199 + 1 := rfl
  have w1 : i < N := l3
  have w2 : i < N + 1 := by omega
  have q0 : eqV false (.node [(0, none, .prim .str), (1, none, .prim .int), (2, none, .prim .bool), (3, none, .prim .bool)]) zSt zSt = some true := by simp [eqV, eqParts, eqPrim, partV]
  simp [ready] at f5
  simp [A.lb4, f3, f4, f5, f6, f7, f8, e1, e2, e3, d1, d2, d3, d4, d5, d6, d7, d8, d9, d10, d11, b1, b2, k1, k2, k3, hb, hm, h5, h6, h16, A.r16, A.b16, post_some, eqV_prm, eqPrim, q0]
  exact ⟨rfl, rfl, by simp [f3], by simp [f4], by simp [f5, ready], by simp [f6], by simp [f7], by simp, by simp [e1, d1, d4, d9, d10, d11], by simp [e2, d2, d5, d9], fun _ => by simp [e3, d3, d6, d7], by simp only; omega, by simp only; omega, by simp only; omega, by simpa [i1, w1, w2] using hw, i1, i2, i3⟩

set_option maxHeartbeats 4000000 in
theorem round_4_10 (x : CallT) (g : Nat) (p q i L : Nat) (o : Nat) (cp : Option Nat) (cs : List V) (e : TypeId) (k : Nat) (b : Int) (fr : Fr) (st : St)
    (h : SInv p q i L (.slice i o L cp 1) cs e k wOpen 0 false false fr st) (hk : k < L) (hb : cs[o + k]? = some (.int .u8 b)) (hb0 : 0 ≤ b) (hb1 : b < 256) (hm : b.tmod 11 = 10) (hL : L ≤ 40)
    (h5 : ∀ st, x (.func 5 [] []) [stV wOpen 0 false false, .str [114, 101, 115, 101, 116]] st = some (.tup [zSt, .int .i64 18], st))
    (h6 : ∀ h n w, x (.func 6 [] []) [stV wOpen 0 false false] ⟨h, n, w⟩ = some (.tup [.slice n 0 4 none 1, .int .i64 0], ⟨h.set n (.cells [(.str [99, 108, 111, 115, 101]), (.str [115, 116, 111, 112]), (.str [108, 111, 115, 101]), (.str [103, 117, 115, 116])] 9 true), n + 1, w⟩))
    (h16 : ∀ args st, x (.func 16 [] []) args st = none) :
    Post (mcode (mcallX x (cFunc Tryz.prog) 200 10) (g + 60) none A.lb4 fr st) fun ex fr st => ex = .normal ∧ SInv p q i L (.slice i o L cp 1) cs e (k + 1) wOpen 0 false false fr st := by
  obtain ⟨r, n, mk⟩ := fr
  obtain ⟨hh, N, w⟩ := st
  obtain ⟨f1, f2, f3, f4, f5, f6, f7, f8, e1, e2, e3, l1, l2, l3, hw, i1, i2, i3⟩ := h
  simp only at f1 f2 f3 f4 f5 f6 f7 f8 e1 e2 e3 l1 l2 l3 hw
  subst f1; subst f2
  have e3 := e3 (by omega)
  have d1 : ¬ p = N := by omega
  have d2 : ¬ q = N := by omega
  have d3 : ¬ i = N := by omega
  have d4 : ¬ p = N + 1 := by omega
  have d5 : ¬ q = N + 1 := by omega
  have d6 : ¬ i = N + 1 := by omega
  have d7 : ¬ i = p := by omega
  have d8 : ¬ i = q := by omega
  have d9 : ¬ q = p := fun h => i3 h.symm
  have d10 : ¬ N = p := by omega
  have d11 : ¬ N + 1 = p := by omega
  have b1 : -9223372036854775808 ≤ b := by omega
  have b2 : b < 9223372036854775808 := by omega
  have k1 : (k : Int) < (L : Int) := by omega
  have k2 : -9223372036854775808 ≤ (k : Int) + 1 := by omega
  have k3 : (k : Int) + 1 < 9223372036854775808 := by omega
  have g1 : 200 = 199 + 1 := rfl
  have w1 : i < N := l3
  have w2 : i < N + 1 := by omega
  have q0 : eqV false (.node [(0, none, .prim .str), (1, none, .prim .int), (2, none, .prim .bool), (3, none, .prim .bool)]) zSt zSt = some true := by simp [eqV, eqParts, eqPrim, partV]
  simp [ready] at f5
  simp [A.lb4, f3, f4, f5, f6, f7, f8, e1, e2, e3, d1, d2, d3, d4, d5, d6, d7, d8, d9, d10, d11, b1, b2, k1, k2, k3, hb, hm, h5, h6, h16, A.r16, A.b16, post_some, eqV_prm, eqPrim, q0]
  exact ⟨rfl, rfl, by simp [f3], by simp [f4], by simp [f5, ready], by simp [f6], by simp [f7], by simp, by simp [e1, d1, d4, d9, d10, d11], by simp [e2, d2, d5, d9], fun _ => by simp [e3, d3, d6, d7], by simp only; omega, by simp only; omega, by simp only; omega, by simpa [i1, w1, w2] using hw, i1, i2, i3⟩

set_option maxHeartbeats 4000000 in
theorem round_5_5 (x : CallT) (g : Nat) (p q i L : Nat) (o : Nat) (cp : Option Nat) (cs : List V) (e : TypeId) (k : Nat) (b : Int) (fr : Fr) (st : St)
    (h : SInv p q i L (.slice i o L cp 1) cs e k wOpen 0 true false fr st) (hk : k < L) (hb : cs[o + k]? = some (.int .u8 b)) (hb0 : 0 ≤ b) (hb1 : b < 256) (hm : b.tmod 11 = 5) (hL : L ≤ 40)
    (h5 : ∀ st, x (.func 5 [] []) [stV wOpen 0 true false, .str [99, 108, 101, 97, 114]] st = some (.tup [zSt, .int .i64 18], st))
    (h6 : ∀ h n w, x (.func 6 [] []) [stV wOpen 0 true false] ⟨h, n, w⟩ = some (.tup [.slice n 0 3 none 1, .int .i64 0], ⟨h.set n (.cells [(.str [115, 116, 111, 112]), (.str [102, 105, 110, 100]), (.str [103, 117, 115, 116])] 9 true), n + 1, w⟩))
    (h16 : ∀ args st, x (.func 16 [] []) args st = none) :
    Post (mcode (mcallX x (cFunc Tryz.prog) 200 10) (g + 60) none A.lb4 fr st) fun ex fr st => ex = .normal ∧ SInv p q i L (.slice i o L cp 1) cs e (k + 1) wOpen 0 true false fr st := by
  obtain ⟨r, n, mk⟩ := fr
  obtain ⟨hh, N, w⟩ := st
  obtain ⟨f1, f2, f3, f4, f5, f6, f7, f8, e1, e2, e3, l1, l2, l3, hw, i1, i2, i3⟩ := h
  simp only at f1 f2 f3 f4 f5 f6 f7 f8 e1 e2 e3 l1 l2 l3 hw
  subst f1; subst f2
  have e3 := e3 (by omega)
  have d1 : ¬ p = N := by omega
  have d2 : ¬ q = N := by omega
  have d3 : ¬ i = N := by omega
  have d4 : ¬ p = N + 1 := by omega
  have d5 : ¬ q = N + 1 := by omega
  have d6 : ¬ i = N + 1 := by omega
  have d7 : ¬ i = p := by omega
  have d8 : ¬ i = q := by omega
  have d9 : ¬ q = p := fun h => i3 h.symm
  have d10 : ¬ N = p := by omega
  have d11 : ¬ N + 1 = p := by omega
  have b1 : -9223372036854775808 ≤ b := by omega
  have b2 : b < 9223372036854775808 := by omega
  have k1 : (k : Int) < (L : Int) := by omega
  have k2 : -9223372036854775808 ≤ (k : Int) + 1 := by omega
  have k3 : (k : Int) + 1 < 9223372036854775808 := by omega
  have g1 : 200 = 199 + 1 := rfl
  have w1 : i < N := l3
  have w2 : i < N + 1 := by omega
  have q0 : eqV false (.node [(0, none, .prim .str), (1, none, .prim .int), (2, none, .prim .bool), (3, none, .prim .bool)]) zSt zSt = some true := by simp [eqV, eqParts, eqPrim, partV]
  simp [ready] at f5
  simp [A.lb4, f3, f4, f5, f6, f7, f8, e1, e2, e3, d1, d2, d3, d4, d5, d6, d7, d8, d9, d10, d11, b1, b2, k1, k2, k3, hb, hm, h5, h6, h16, A.r16, A.b16, post_some, eqV_prm, eqPrim, q0]
  exact ⟨rfl, rfl, by simp [f3], by simp [f4], by simp [f5, ready], by simp [f6], by simp [f7], by simp, by simp [e1, d1, d4, d9, d10, d11], by simp [e2, d2, d5, d9], fun _ => by simp [e3, d3, d6, d7], by simp only; omega, by simp only; omega, by simp only; omega, by simpa [i1, w1, w2] using hw, i1, i2, i3⟩

set_option maxHeartbeats 4000000 in
theorem round_6_0 (x : CallT) (g : Nat) (p q i L : Nat) (o : Nat) (cp : Option Nat) (cs : List V) (e : TypeId) (k : Nat) (b : Int) (fr : Fr) (st : St)
    (h : SInv p q i L (.slice i o L cp 1) cs e k wClosed 0 false false fr st) (hk : k < L) (hb : cs[o + k]? = some (.int .u8 b)) (hb0 : 0 ≤ b) (hb1 : b < 256) (hm : b.tmod 11 = 0) (hL : L ≤ 40)
    (h5 : ∀ st, x (.func 5 [] []) [stV wClosed 0 false false, .str [115, 116, 97, 114, 116]] st = some (.tup [zSt, .int .i64 18], st))
    (h6 : ∀ h n w, x (.func 6 [] []) [stV wClosed 0 false false] ⟨h, n, w⟩ = some (.tup [.slice n 0 6 none 1, .int .i64 0], ⟨h.set n (.cells [(.str [111, 112, 101, 110]), (.str [115, 116, 111, 112]), (.str [115, 97, 116, 117, 114, 97, 116, 101]), (.str [99, 108, 101, 97, 114]), (.str [108, 111, 115, 101]), (.str [103, 117, 115, 116])] 9 true), n + 1, w⟩))
    (h16 : ∀ args st, x (.func 16 [] []) args st = none) :
    Post (mcode (mcallX x (cFunc Tryz.prog) 200 10) (g + 60) none A.lb4 fr st) fun ex fr st => ex = .normal ∧ SInv p q i L (.slice i o L cp 1) cs e (k + 1) wClosed 0 false false fr st := by
  obtain ⟨r, n, mk⟩ := fr
  obtain ⟨hh, N, w⟩ := st
  obtain ⟨f1, f2, f3, f4, f5, f6, f7, f8, e1, e2, e3, l1, l2, l3, hw, i1, i2, i3⟩ := h
  simp only at f1 f2 f3 f4 f5 f6 f7 f8 e1 e2 e3 l1 l2 l3 hw
  subst f1; subst f2
  have e3 := e3 (by omega)
  have d1 : ¬ p = N := by omega
  have d2 : ¬ q = N := by omega
  have d3 : ¬ i = N := by omega
  have d4 : ¬ p = N + 1 := by omega
  have d5 : ¬ q = N + 1 := by omega
  have d6 : ¬ i = N + 1 := by omega
  have d7 : ¬ i = p := by omega
  have d8 : ¬ i = q := by omega
  have d9 : ¬ q = p := fun h => i3 h.symm
  have d10 : ¬ N = p := by omega
  have d11 : ¬ N + 1 = p := by omega
  have b1 : -9223372036854775808 ≤ b := by omega
  have b2 : b < 9223372036854775808 := by omega
  have k1 : (k : Int) < (L : Int) := by omega
  have k2 : -9223372036854775808 ≤ (k : Int) + 1 := by omega
  have k3 : (k : Int) + 1 < 9223372036854775808 := by omega
  have g1 : 200 = 199 + 1 := rfl
  have w1 : i < N := l3
  have w2 : i < N + 1 := by omega
  have q0 : eqV false (.node [(0, none, .prim .str), (1, none, .prim .int), (2, none, .prim .bool), (3, none, .prim .bool)]) zSt zSt = some true := by simp [eqV, eqParts, eqPrim, partV]
  simp [ready] at f5
  simp [A.lb4, f3, f4, f5, f6, f7, f8, e1, e2, e3, d1, d2, d3, d4, d5, d6, d7, d8, d9, d10, d11, b1, b2, k1, k2, k3, hb, hm, h5, h6, h16, A.r16, A.b16, post_some, eqV_prm, eqPrim, q0]
  exact ⟨rfl, rfl, by simp [f3], by simp [f4], by simp [f5, ready], by simp [f6], by simp [f7], by simp, by simp [e1, d1, d4, d9, d10, d11], by simp [e2, d2, d5, d9], fun _ => by simp [e3, d3, d6, d7], by simp only; omega, by simp only; omega, by simp only; omega, by simpa [i1, w1, w2] using hw, i1, i2, i3⟩

set_option maxHeartbeats 4000000 in
theorem round_6_6 (x : CallT) (g : Nat) (p q i L : Nat) (o : Nat) (cp : Option Nat) (cs : List V) (e : TypeId) (k : Nat) (b : Int) (fr : Fr) (st : St)
    (h : SInv p q i L (.slice i o L cp 1) cs e k wClosed 0 false false fr st) (hk : k < L) (hb : cs[o + k]? = some (.int .u8 b)) (hb0 : 0 ≤ b) (hb1 : b < 256) (hm : b.tmod 11 = 6) (hL : L ≤ 40)
    (h5 : ∀ st, x (.func 5 [] []) [stV wClosed 0 false false, .str [108, 111, 115, 101]] st = some (.tup [stV wSafe 0 true false, .int .i64 0], st))
    (h6 : ∀ h n w, x (.func 6 [] []) [stV wClosed 0 false false] ⟨h, n, w⟩ = some (.tup [.slice n 0 6 none 1, .int .i64 0], ⟨h.set n (.cells [(.str [111, 112, 101, 110]), (.str [115, 116, 111, 112]), (.str [115, 97, 116, 117, 114, 97, 116, 101]), (.str [99, 108, 101, 97, 114]), (.str [108, 111, 115, 101]), (.str [103, 117, 115, 116])] 9 true), n + 1, w⟩))
    (h7 : ∀ st, x (.func 7 [] []) [stV wSafe 0 true false] st = some (.tup [.bool false, .int .i64 0], st))
    (h8 : ∀ st, x (.func 12 [] []) [stV wSafe 0 true false] st = some (.int .i64 0, st))
    (h16 : ∀ args st, x (.func 16 [] []) args st = none) :
    Post (mcode (mcallX x (cFunc Tryz.prog) 200 10) (g + 60) none A.lb4 fr st) fun ex fr st => ex = .normal ∧ SInv p q i L (.slice i o L cp 1) cs e (k + 1) wSafe 0 true false fr st := by
  obtain ⟨r, n, mk⟩ := fr
  obtain ⟨hh, N, w⟩ := st
  obtain ⟨f1, f2, f3, f4, f5, f6, f7, f8, e1, e2, e3, l1, l2, l3, hw, i1, i2, i3⟩ := h
  simp only at f1 f2 f3 f4 f5 f6 f7 f8 e1 e2 e3 l1 l2 l3 hw
  subst f1; subst f2
  have e3 := e3 (by omega)
  have d1 : ¬ p = N := by omega
  have d2 : ¬ q = N := by omega
  have d3 : ¬ i = N := by omega
  have d4 : ¬ p = N + 1 := by omega
  have d5 : ¬ q = N + 1 := by omega
  have d6 : ¬ i = N + 1 := by omega
  have d7 : ¬ i = p := by omega
  have d8 : ¬ i = q := by omega
  have d9 : ¬ q = p := fun h => i3 h.symm
  have d10 : ¬ N = p := by omega
  have d11 : ¬ N + 1 = p := by omega
  have b1 : -9223372036854775808 ≤ b := by omega
  have b2 : b < 9223372036854775808 := by omega
  have k1 : (k : Int) < (L : Int) := by omega
  have k2 : -9223372036854775808 ≤ (k : Int) + 1 := by omega
  have k3 : (k : Int) + 1 < 9223372036854775808 := by omega
  have g1 : 200 = 199 + 1 := rfl
  have w1 : i < N := l3
  have w2 : i < N + 1 := by omega
  have q0 : eqV false (.node [(0, none, .prim .str), (1, none, .prim .int), (2, none, .prim .bool), (3, none, .prim .bool)]) zSt zSt = some true := by simp [eqV, eqParts, eqPrim, partV]
  simp [ready] at f5
  simp [A.lb4, f3, f4, f5, f6, f7, f8, e1, e2, e3, d1, d2, d3, d4, d5, d6, d7, d8, d9, d10, d11, b1, b2, k1, k2, k3, hb, hm, h5, h6, h7, h8, h16, A.r16, A.b16, post_some, eqV_prm, eqPrim, q0]
  exact ⟨rfl, rfl, by simp [f3], by simp [f4], by simp [f5, ready], by simp [f6], by simp [f7], by simp, by simp [e1, d1, d4, d9, d10, d11], by simp [e2, d2, d5, d9], fun _ => by simp [e3, d3, d6, d7], by simp only; omega, by simp only; omega, by simp only; omega, by simpa [i1, w1, w2] using hw, i1, i2, i3⟩

set_option maxHeartbeats 4000000 in
theorem round_7_1 (x : CallT) (g : Nat) (p q i L : Nat) (o : Nat) (cp : Option Nat) (cs : List V) (e : TypeId) (k : Nat) (b : Int) (fr : Fr) (st : St)
    (h : SInv p q i L (.slice i o L cp 1) cs e k wClosed 1 false false fr st) (hk : k < L) (hb : cs[o + k]? = some (.int .u8 b)) (hb0 : 0 ≤ b) (hb1 : b < 256) (hm : b.tmod 11 = 1) (hL : L ≤ 40)
    (h5 : ∀ st, x (.func 5 [] []) [stV wClosed 1 false false, .str [99, 108, 111, 115, 101]] st = some (.tup [zSt, .int .i64 18], st))
    (h6 : ∀ h n w, x (.func 6 [] []) [stV wClosed 1 false false] ⟨h, n, w⟩ = some (.tup [.slice n 0 6 none 1, .int .i64 0], ⟨h.set n (.cells [(.str [111, 112, 101, 110]), (.str [115, 116, 111, 112]), (.str [115, 97, 116, 117, 114, 97, 116, 101]), (.str [99, 108, 101, 97, 114]), (.str [108, 111, 115, 101]), (.str [103, 117, 115, 116])] 9 true), n + 1, w⟩))
    (h16 : ∀ args st, x (.func 16 [] []) args st = none) :
    Post (mcode (mcallX x (cFunc Tryz.prog) 200 10) (g + 60) none A.lb4 fr st) fun ex fr st => ex = .normal ∧ SInv p q i L (.slice i o L cp 1) cs e (k + 1) wClosed 1 false false fr st := by
  obtain ⟨r, n, mk⟩ := fr
  obtain ⟨hh, N, w⟩ := st
  obtain ⟨f1, f2, f3, f4, f5, f6, f7, f8, e1, e2, e3, l1, l2, l3, hw, i1, i2, i3⟩ := h
  simp only at f1 f2 f3 f4 f5 f6 f7 f8 e1 e2 e3 l1 l2 l3 hw
  subst f1; subst f2
  have e3 := e3 (by omega)
  have d1 : ¬ p = N := by omega
  have d2 : ¬ q = N := by omega
  have d3 : ¬ i = N := by omega
  have d4 : ¬ p = N + 1 := by omega
  have d5 : ¬ q = N + 1 := by omega
  have d6 : ¬ i = N + 1 := by omega
  have d7 : ¬ i = p := by omega
  have d8 : ¬ i = q := by omega
  have d9 : ¬ q = p := fun h => i3 h.symm
  have d10 : ¬ N = p := by omega
  have d11 : ¬ N + 1 = p := by omega
  have b1 : -9223372036854775808 ≤ b := by omega
  have b2 : b < 9223372036854775808 := by omega
  have k1 : (k : Int) < (L : Int) := by omega
  have k2 : -9223372036854775808 ≤ (k : Int) + 1 := by omega
  have k3 : (k : Int) + 1 < 9223372036854775808 := by omega
  have g1 : 200 = 199 + 1 := rfl
  have w1 : i < N := l3
  have w2 : i < N + 1 := by omega
  have q0 : eqV false (.node [(0, none, .prim .str), (1, none, .prim .int), (2, none, .prim .bool), (3, none, .prim .bool)]) zSt zSt = some true := by simp [eqV, eqParts, eqPrim, partV]
  simp [ready] at f5
  simp [A.lb4, f3, f4, f5, f6, f7, f8, e1, e2, e3, d1, d2, d3, d4, d5, d6, d7, d8, d9, d10, d11, b1, b2, k1, k2, k3, hb, hm, h5, h6, h16, A.r16, A.b16, post_some, eqV_prm, eqPrim, q0]
  exact ⟨rfl, rfl, by simp [f3], by simp [f4], by simp [f5, ready], by simp [f6], by simp [f7], by simp, by simp [e1, d1, d4, d9, d10, d11], by simp [e2, d2, d5, d9], fun _ => by simp [e3, d3, d6, d7], by simp only; omega, by simp only; omega, by simp only; omega, by simpa [i1, w1, w2] using hw, i1, i2, i3⟩

set_option maxHeartbeats 4000000 in
theorem round_7_7 (x : CallT) (g : Nat) (p q i L : Nat) (o : Nat) (cp : Option Nat) (cs : List V) (e : TypeId) (k : Nat) (b : Int) (fr : Fr) (st : St)
    (h : SInv p q i L (.slice i o L cp 1) cs e k wClosed 1 false false fr st) (hk : k < L) (hb : cs[o + k]? = some (.int .u8 b)) (hb0 : 0 ≤ b) (hb1 : b < 256) (hm : b.tmod 11 = 7) (hL : L ≤ 40)
    (h5 : ∀ st, x (.func 5 [] []) [stV wClosed 1 false false, .str [102, 105, 110, 100]] st = some (.tup [zSt, .int .i64 18], st))
    (h6 : ∀ h n w, x (.func 6 [] []) [stV wClosed 1 false false] ⟨h, n, w⟩ = some (.tup [.slice n 0 6 none 1, .int .i64 0], ⟨h.set n (.cells [(.str [111, 112, 101, 110]), (.str [115, 116, 111, 112]), (.str [115, 97, 116, 117, 114, 97, 116, 101]), (.str [99, 108, 101, 97, 114]), (.str [108, 111, 115, 101]), (.str [103, 117, 115, 116])] 9 true), n + 1, w⟩))
    (h16 : ∀ args st, x (.func 16 [] []) args st = none) :
    Post (mcode (mcallX x (cFunc Tryz.prog) 200 10) (g + 60) none A.lb4 fr st) fun ex fr st => ex = .normal ∧ SInv p q i L (.slice i o L cp 1) cs e (k + 1) wClosed 1 false false fr st := by
  obtain ⟨r, n, mk⟩ := fr
  obtain ⟨hh, N, w⟩ := st
  obtain ⟨f1, f2, f3, f4, f5, f6, f7, f8, e1, e2, e3, l1, l2, l3, hw, i1, i2, i3⟩ := h
  simp only at f1 f2 f3 f4 f5 f6 f7 f8 e1 e2 e3 l1 l2 l3 hw
  subst f1; subst f2
  have e3 := e3 (by omega)
  have d1 : ¬ p = N := by omega
  have d2 : ¬ q = N := by omega
  have d3 : ¬ i = N := by omega
  have d4 : ¬ p = N + 1 := by omega
  have d5 : ¬ q = N + 1 := by omega
  have d6 : ¬ i = N + 1 := by omega
  have d7 : ¬ i = p := by omega
  have d8 : ¬ i = q := by omega
  have d9 : ¬ q = p := fun h => i3 h.symm
  have d10 : ¬ N = p := by omega
  have d11 : ¬ N + 1 = p := by omega
  have b1 : -9223372036854775808 ≤ b := by omega
  have b2 : b < 9223372036854775808 := by omega
  have k1 : (k : Int) < (L : Int) := by omega
  have k2 : -9223372036854775808 ≤ (k : Int) + 1 := by omega
  have k3 : (k : Int) + 1 < 9223372036854775808 := by omega
  have g1 : 200 = 199 + 1 := rfl
  have w1 : i < N := l3
  have w2 : i < N + 1 := by omega
  have q0 : eqV false (.node [(0, none, .prim .str), (1, none, .prim .int), (2, none, .prim .bool), (3, none, .prim .bool)]) zSt zSt = some true := by simp [eqV, eqParts, eqPrim, partV]
  simp [ready] at f5
  simp [A.lb4, f3, f4, f5, f6, f7, f8, e1, e2, e3, d1, d2, d3, d4, d5, d6, d7, d8, d9, d10, d11, b1, b2, k1, k2, k3, hb, hm, h5, h6, h16, A.r16, A.b16, post_some, eqV_prm, eqPrim, q0]
  exact ⟨rfl, rfl, by simp [f3], by simp [f4], by simp [f5, ready], by simp [f6], by simp [f7], by simp, by simp [e1, d1, d4, d9, d10, d11], by simp [e2, d2, d5, d9], fun _ => by simp [e3, d3, d6, d7], by simp only; omega, by simp only; omega, by simp only; omega, by simpa [i1, w1, w2] using hw, i1, i2, i3⟩

set_option maxHeartbeats 4000000 in
theorem round_8_2 (x : CallT) (g : Nat) (p q i L : Nat) (o : Nat) (cp : Option Nat) (cs : List V) (e : TypeId) (k : Nat) (b : Int) (fr : Fr) (st : St)
    (h : SInv p q i L (.slice i o L cp 1) cs e k wClosed 2 false false fr st) (hk : k < L) (hb : cs[o + k]? = some (.int .u8 b)) (hb0 : 0 ≤ b) (hb1 : b < 256) (hm : b.tmod 11 = 2) (hL : L ≤ 40)
    (h5 : ∀ st, x (.func 5 [] []) [stV wClosed 2 false false, .str [111, 112, 101, 110]] st = some (.tup [stV wOpen 0 false false, .int .i64 0], st))
    (h6 : ∀ h n w, x (.func 6 [] []) [stV wClosed 2 false false] ⟨h, n, w⟩ = some (.tup [.slice n 0 6 none 1, .int .i64 0], ⟨h.set n (.cells [(.str [111, 112, 101, 110]), (.str [115, 116, 111, 112]), (.str [115, 97, 116, 117, 114, 97, 116, 101]), (.str [99, 108, 101, 97, 114]), (.str [108, 111, 115, 101]), (.str [103, 117, 115, 116])] 9 true), n + 1, w⟩))
    (h7 : ∀ st, x (.func 7 [] []) [stV wOpen 0 false false] st = some (.tup [.bool false, .int .i64 0], st))
    (h8 : ∀ st, x (.func 12 [] []) [stV wOpen 0 false false] st = some (.int .i64 0, st))
    (h16 : ∀ args st, x (.func 16 [] []) args st = none) :
    Post (mcode (mcallX x (cFunc Tryz.prog) 200 10) (g + 60) none A.lb4 fr st) fun ex fr st => ex = .normal ∧ SInv p q i L (.slice i o L cp 1) cs e (k + 1) wOpen 0 false false fr st := by
  obtain ⟨r, n, mk⟩ := fr
  obtain ⟨hh, N, w⟩ := st
  obtain ⟨f1, f2, f3, f4, f5, f6, f7, f8, e1, e2, e3, l1, l2, l3, hw, i1, i2, i3⟩ := h
  simp only at f1 f2 f3 f4 f5 f6 f7 f8 e1 e2 e3 l1 l2 l3 hw
  subst f1; subst f2
  have e3 := e3 (by omega)
  have d1 : ¬ p = N := by omega
  have d2 : ¬ q = N := by omega
  have d3 : ¬ i = N := by omega
  have d4 : ¬ p = N + 1 := by omega
  have d5 : ¬ q = N + 1 := by omega
  have d6 : ¬ i = N + 1 := by omega
  have d7 : ¬ i = p := by omega
  have d8 : ¬ i = q := by omega
  have d9 : ¬ q = p := fun h => i3 h.symm
  have d10 : ¬ N = p := by omega
  have d11 : ¬ N + 1 = p := by omega
  have b1 : -9223372036854775808 ≤ b := by omega
  have b2 : b < 9223372036854775808 := by omega
  have k1 : (k : Int) < (L : Int) := by omega
  have k2 : -9223372036854775808 ≤ (k : Int) + 1 := by omega
  have k3 : (k : Int) + 1 < 9223372036854775808 := by omega
  have g1 : 200 = 199 + 1 := rfl
  have w1 : i < N := l3
  have w2 : i < N + 1 := by omega
  have q0 : eqV false (.node [(0, none, .prim .str), (1, none, .prim .int), (2, none, .prim .bool), (3, none, .prim .bool)]) zSt zSt = some true := by simp [eqV, eqParts, eqPrim, partV]
  simp [ready] at f5
  simp [A.lb4, f3, f4, f5, f6, f7, f8, e1, e2, e3, d1, d2, d3, d4, d5, d6, d7, d8, d9, d10, d11, b1, b2, k1, k2, k3, hb, hm, h5, h6, h7, h8, h16, A.r16, A.b16, post_some, eqV_prm, eqPrim, q0]
  exact ⟨rfl, rfl, by simp [f3], by simp [f4], by simp [f5, ready], by simp [f6], by simp [f7], by simp, by simp [e1, d1, d4, d9, d10, d11], by simp [e2, d2, d5, d9], fun _ => by simp [e3, d3, d6, d7], by simp only; omega, by simp only; omega, by simp only; omega, by simpa [i1, w1, w2] using hw, i1, i2, i3⟩

set_option maxHeartbeats 4000000 in
theorem round_8_8 (x : CallT) (g : Nat) (p q i L : Nat) (o : Nat) (cp : Option Nat) (cs : List V) (e : TypeId) (k : Nat) (b : Int) (fr : Fr) (st : St)
    (h : SInv p q i L (.slice i o L cp 1) cs e k wClosed 2 false false fr st) (hk : k < L) (hb : cs[o + k]? = some (.int .u8 b)) (hb0 : 0 ≤ b) (hb1 : b < 256) (hm : b.tmod 11 = 8) (hL : L ≤ 40)
    (h5 : ∀ st, x (.func 5 [] []) [stV wClosed 2 false false, .str [103, 117, 115, 116]] st = some (.tup [stV wSafe 0 false true, .int .i64 0], st))
    (h6 : ∀ h n w, x (.func 6 [] []) [stV wClosed 2 false false] ⟨h, n, w⟩ = some (.tup [.slice n 0 6 none 1, .int .i64 0], ⟨h.set n (.cells [(.str [111, 112, 101, 110]), (.str [115, 116, 111, 112]), (.str [115, 97, 116, 117, 114, 97, 116, 101]), (.str [99, 108, 101, 97, 114]), (.str [108, 111, 115, 101]), (.str [103, 117, 115, 116])] 9 true), n + 1, w⟩))
    (h7 : ∀ st, x (.func 7 [] []) [stV wSafe 0 false true] st = some (.tup [.bool false, .int .i64 0], st))
    (h8 : ∀ st, x (.func 12 [] []) [stV wSafe 0 false true] st = some (.int .i64 0, st))
    (h16 : ∀ args st, x (.func 16 [] []) args st = none) :
    Post (mcode (mcallX x (cFunc Tryz.prog) 200 10) (g + 60) none A.lb4 fr st) fun ex fr st => ex = .normal ∧ SInv p q i L (.slice i o L cp 1) cs e (k + 1) wSafe 0 false true fr st := by
  obtain ⟨r, n, mk⟩ := fr
  obtain ⟨hh, N, w⟩ := st
  obtain ⟨f1, f2, f3, f4, f5, f6, f7, f8, e1, e2, e3, l1, l2, l3, hw, i1, i2, i3⟩ := h
  simp only at f1 f2 f3 f4 f5 f6 f7 f8 e1 e2 e3 l1 l2 l3 hw
  subst f1; subst f2
  have e3 := e3 (by omega)
  have d1 : ¬ p = N := by omega
  have d2 : ¬ q = N := by omega
  have d3 : ¬ i = N := by omega
  have d4 : ¬ p = N + 1 := by omega
  have d5 : ¬ q = N + 1 := by omega
  have d6 : ¬ i = N + 1 := by omega
  have d7 : ¬ i = p := by omega
  have d8 : ¬ i = q := by omega
  have d9 : ¬ q = p := fun h => i3 h.symm
  have d10 : ¬ N = p := by omega
  have d11 : ¬ N + 1 = p := by omega
  have b1 : -9223372036854775808 ≤ b := by omega
  have b2 : b < 9223372036854775808 := by omega
  have k1 : (k : Int) < (L : Int) := by omega
  have k2 : -9223372036854775808 ≤ (k : Int) + 1 := by omega
  have k3 : (k : Int) + 1 < 9223372036854775808 := by omega
  have g1 : 200 = 199 + 1 := rfl
  have w1 : i < N := l3
  have w2 : i < N + 1 := by omega
  have q0 : eqV false (.node [(0, none, .prim .str), (1, none, .prim .int), (2, none, .prim .bool), (3, none, .prim .bool)]) zSt zSt = some true := by simp [eqV, eqParts, eqPrim, partV]
  simp [ready] at f5
  simp [A.lb4, f3, f4, f5, f6, f7, f8, e1, e2, e3, d1, d2, d3, d4, d5, d6, d7, d8, d9, d10, d11, b1, b2, k1, k2, k3, hb, hm, h5, h6, h7, h8, h16, A.r16, A.b16, post_some, eqV_prm, eqPrim, q0]
  exact ⟨rfl, rfl, by simp [f3], by simp [f4], by simp [f5, ready], by simp [f6], by simp [f7], by simp, by simp [e1, d1, d4, d9, d10, d11], by simp [e2, d2, d5, d9], fun _ => by simp [e3, d3, d6, d7], by simp only; omega, by simp only; omega, by simp only; omega, by simpa [i1, w1, w2] using hw, i1, i2, i3⟩

set_option maxHeartbeats 4000000 in
theorem round_9_3 (x : CallT) (g : Nat) (p q i L : Nat) (o : Nat) (cp : Option Nat) (cs : List V) (e : TypeId) (k : Nat) (b : Int) (fr : Fr) (st : St)
    (h : SInv p q i L (.slice i o L cp 1) cs e k wSafe 0 false false fr st) (hk : k < L) (hb : cs[o + k]? = some (.int .u8 b)) (hb0 : 0 ≤ b) (hb1 : b < 256) (hm : b.tmod 11 = 3) (hL : L ≤ 40)
    (h5 : ∀ st, x (.func 5 [] []) [stV wSafe 0 false false, .str [115, 116, 111, 112]] st = some (.tup [zSt, .int .i64 18], st))
    (h6 : ∀ h n w, x (.func 6 [] []) [stV wSafe 0 false false] ⟨h, n, w⟩ = some (.tup [.slice n 0 3 none 1, .int .i64 0], ⟨h.set n (.cells [(.str [108, 111, 115, 101]), (.str [103, 117, 115, 116]), (.str [114, 101, 115, 101, 116])] 9 true), n + 1, w⟩))
    (h16 : ∀ args st, x (.func 16 [] []) args st = none) :
    Post (mcode (mcallX x (cFunc Tryz.prog) 200 10) (g + 60) none A.lb4 fr st) fun ex fr st => ex = .normal ∧ SInv p q i L (.slice i o L cp 1) cs e (k + 1) wSafe 0 false false fr st := by
  obtain ⟨r, n, mk⟩ := fr
  obtain ⟨hh, N, w⟩ := st
  obtain ⟨f1, f2, f3, f4, f5, f6, f7, f8, e1, e2, e3, l1, l2, l3, hw, i1, i2, i3⟩ := h
  simp only at f1 f2 f3 f4 f5 f6 f7 f8 e1 e2 e3 l1 l2 l3 hw
  subst f1; subst f2
  have e3 := e3 (by omega)
  have d1 : ¬ p = N := by omega
  have d2 : ¬ q = N := by omega
  have d3 : ¬ i = N := by omega
  have d4 : ¬ p = N + 1 := by omega
  have d5 : ¬ q = N + 1 := by omega
  have d6 : ¬ i = N + 1 := by omega
  have d7 : ¬ i = p := by omega
  have d8 : ¬ i = q := by omega
  have d9 : ¬ q = p := fun h => i3 h.symm
  have d10 : ¬ N = p := by omega
  have d11 : ¬ N + 1 = p := by omega
  have b1 : -9223372036854775808 ≤ b := by omega
  have b2 : b < 9223372036854775808 := by omega
  have k1 : (k : Int) < (L : Int) := by omega
  have k2 : -9223372036854775808 ≤ (k : Int) + 1 := by omega
  have k3 : (k : Int) + 1 < 9223372036854775808 := by omega
  have g1 : 200 = 199 + 1 := rfl
  have w1 : i < N := l3
  have w2 : i < N + 1 := by omega
  have q0 : eqV false (.node [(0, none, .prim .str), (1, none, .prim .int), (2, none, .prim .bool), (3, none, .prim .bool)]) zSt zSt = some true := by simp [eqV, eqParts, eqPrim, partV]
  simp [ready] at f5
  simp [A.lb4, f3, f4, f5, f6, f7, f8, e1, e2, e3, d1, d2, d3, d4, d5, d6, d7, d8, d9, d10, d11, b1, b2, k1, k2, k3, hb, hm, h5, h6, h16, A.r16, A.b16, post_some, eqV_prm, eqPrim, q0]
  exact ⟨rfl, rfl, by simp [f3], by simp [f4], by simp [f5, ready], by simp [f6], by simp [f7], by simp, by simp [e1, d1, d4, d9, d10, d11], by simp [e2, d2, d5, d9], fun _ => by simp [e3, d3, d6, d7], by simp only; omega, by simp only; omega, by simp only; omega, by simpa [i1, w1, w2] using hw, i1, i2, i3⟩

set_option maxHeartbeats 4000000 in
theorem round_9_9 (x : CallT) (g : Nat) (p q i L : Nat) (o : Nat) (cp : Option Nat) (cs : List V) (e : TypeId) (k : Nat) (b : Int) (fr : Fr) (st : St)
    (h : SInv p q i L (.slice i o L cp 1) cs e k wSafe 0 false false fr st) (hk : k < L) (hb : cs[o + k]? = some (.int .u8 b)) (hb0 : 0 ≤ b) (hb1 : b < 256) (hm : b.tmod 11 = 9) (hL : L ≤ 40)
    (h5 : ∀ st, x (.func 5 [] []) [stV wSafe 0 false false, .str [99, 97, 108, 109]] st = some (.tup [zSt, .int .i64 18], st))
    (h6 : ∀ h n w, x (.func 6 [] []) [stV wSafe 0 false false] ⟨h, n, w⟩ = some (.tup [.slice n 0 3 none 1, .int .i64 0], ⟨h.set n (.cells [(.str [108, 111, 115, 101]), (.str [103, 117, 115, 116]), (.str [114, 101, 115, 101, 116])] 9 true), n + 1, w⟩))
    (h16 : ∀ args st, x (.func 16 [] []) args st = none) :
    Post (mcode (mcallX x (cFunc Tryz.prog) 200 10) (g + 60) none A.lb4 fr st) fun ex fr st => ex = .normal ∧ SInv p q i L (.slice i o L cp 1) cs e (k + 1) wSafe 0 false false fr st := by
  obtain ⟨r, n, mk⟩ := fr
  obtain ⟨hh, N, w⟩ := st
  obtain ⟨f1, f2, f3, f4, f5, f6, f7, f8, e1, e2, e3, l1, l2, l3, hw, i1, i2, i3⟩ := h
  simp only at f1 f2 f3 f4 f5 f6 f7 f8 e1 e2 e3 l1 l2 l3 hw
  subst f1; subst f2
  have e3 := e3 (by omega)
  have d1 : ¬ p = N := by omega
  have d2 : ¬ q = N := by omega
  have d3 : ¬ i = N := by omega
  have d4 : ¬ p = N + 1 := by omega
  have d5 : ¬ q = N + 1 := by omega
  have d6 : ¬ i = N + 1 := by omega
  have d7 : ¬ i = p := by omega
  have d8 : ¬ i = q := by omega
  have d9 : ¬ q = p := fun h => i3 h.symm
  have d10 : ¬ N = p := by omega
  have d11 : ¬ N + 1 = p := by omega
  have b1 : -9223372036854775808 ≤ b := by omega
  have b2 : b < 9223372036854775808 := by omega
  have k1 : (k : Int) < (L : Int) := by omega
  have k2 : -9223372036854775808 ≤ (k : Int) + 1 := by omega
  have k3 : (k : Int) + 1 < 9223372036854775808 := by omega
  have g1 : 200 = 199 + 1 := rfl
  have w1 : i < N := l3
  have w2 : i < N + 1 := by omega
  have q0 : eqV false (.node [(0, none, .prim .str), (1, none, .prim .int), (2, none, .prim .bool), (3, none, .prim .bool)]) zSt zSt = some true := by simp [eqV, eqParts, eqPrim, partV]
  simp [ready] at f5
  simp [A.lb4, f3, f4, f5, f6, f7, f8, e1, e2, e3, d1, d2, d3, d4, d5, d6, d7, d8, d9, d10, d11, b1, b2, k1, k2, k3, hb, hm, h5, h6, h16, A.r16, A.b16, post_some, eqV_prm, eqPrim, q0]
  exact ⟨rfl, rfl, by simp [f3], by simp [f4], by simp [f5, ready], by simp [f6], by simp [f7], by simp, by simp [e1, d1, d4, d9, d10, d11], by simp [e2, d2, d5, d9], fun _ => by simp [e3, d3, d6, d7], by simp only; omega, by simp only; omega, by simp only; omega, by simpa [i1, w1, w2] using hw, i1, i2, i3⟩

set_option maxHeartbeats 4000000 in
theorem round_10_4 (x : CallT) (g : Nat) (p q i L : Nat) (o : Nat) (cp : Option Nat) (cs : List V) (e : TypeId) (k : Nat) (b : Int) (fr : Fr) (st : St)
    (h : SInv p q i L (.slice i o L cp 1) cs e k wSafe 0 true false fr st) (hk : k < L) (hb : cs[o + k]? = some (.int .u8 b)) (hb0 : 0 ≤ b) (hb1 : b < 256) (hm : b.tmod 11 = 4) (hL : L ≤ 40)
    (h5 : ∀ st, x (.func 5 [] []) [stV wSafe 0 true false, .str [115, 97, 116, 117, 114, 97, 116, 101]] st = some (.tup [zSt, .int .i64 18], st))
    (h6 : ∀ h n w, x (.func 6 [] []) [stV wSafe 0 true false] ⟨h, n, w⟩ = some (.tup [.slice n 0 3 none 1, .int .i64 0], ⟨h.set n (.cells [(.str [102, 105, 110, 100]), (.str [103, 117, 115, 116]), (.str [114, 101, 115, 101, 116])] 9 true), n + 1, w⟩))
    (h16 : ∀ args st, x (.func 16 [] []) args st = none) :
    Post (mcode (mcallX x (cFunc Tryz.prog) 200 10) (g + 60) none A.lb4 fr st) fun ex fr st => ex = .normal ∧ SInv p q i L (.slice i o L cp 1) cs e (k + 1) wSafe 0 true false fr st := by
  obtain ⟨r, n, mk⟩ := fr
  obtain ⟨hh, N, w⟩ := st
  obtain ⟨f1, f2, f3, f4, f5, f6, f7, f8, e1, e2, e3, l1, l2, l3, hw, i1, i2, i3⟩ := h
  simp only at f1 f2 f3 f4 f5 f6 f7 f8 e1 e2 e3 l1 l2 l3 hw
  subst f1; subst f2
  have e3 := e3 (by omega)
  have d1 : ¬ p = N := by omega
  have d2 : ¬ q = N := by omega
  have d3 : ¬ i = N := by omega
  have d4 : ¬ p = N + 1 := by omega
  have d5 : ¬ q = N + 1 := by omega
  have d6 : ¬ i = N + 1 := by omega
  have d7 : ¬ i = p := by omega
  have d8 : ¬ i = q := by omega
  have d9 : ¬ q = p := fun h => i3 h.symm
  have d10 : ¬ N = p := by omega
  have d11 : ¬ N + 1 = p := by omega
  have b1 : -9223372036854775808 ≤ b := by omega
  have b2 : b < 9223372036854775808 := by omega
  have k1 : (k : Int) < (L : Int) := by omega
  have k2 : -9223372036854775808 ≤ (k : Int) + 1 := by omega
  have k3 : (k : Int) + 1 < 9223372036854775808 := by omega
  have g1 : 200 = 199 + 1 := rfl
  have w1 : i < N := l3
  have w2 : i < N + 1 := by omega
  have q0 : eqV false (.node [(0, none, .prim .str), (1, none, .prim .int), (2, none, .prim .bool), (3, none, .prim .bool)]) zSt zSt = some true := by simp [eqV, eqParts, eqPrim, partV]
  simp [ready] at f5
  simp [A.lb4, f3, f4, f5, f6, f7, f8, e1, e2, e3, d1, d2, d3, d4, d5, d6, d7, d8, d9, d10, d11, b1, b2, k1, k2, k3, hb, hm, h5, h6, h16, A.r16, A.b16, post_some, eqV_prm, eqPrim, q0]
  exact ⟨rfl, rfl, by simp [f3], by simp [f4], by simp [f5, ready], by simp [f6], by simp [f7], by simp, by simp [e1, d1, d4, d9, d10, d11], by simp [e2, d2, d5, d9], fun _ => by simp [e3, d3, d6, d7], by simp only; omega, by simp only; omega, by simp only; omega, by simpa [i1, w1, w2] using hw, i1, i2, i3⟩

set_option maxHeartbeats 4000000 in
theorem round_10_10 (x : CallT) (g : Nat) (p q i L : Nat) (o : Nat) (cp : Option Nat) (cs : List V) (e : TypeId) (k : Nat) (b : Int) (fr : Fr) (st : St)
    (h : SInv p q i L (.slice i o L cp 1) cs e k wSafe 0 true false fr st) (hk : k < L) (hb : cs[o + k]? = some (.int .u8 b)) (hb0 : 0 ≤ b) (hb1 : b < 256) (hm : b.tmod 11 = 10) (hL : L ≤ 40)
    (h5 : ∀ st, x (.func 5 [] []) [stV wSafe 0 true false, .str [114, 101, 115, 101, 116]] st = some (.tup [stV wIdle 0 true false, .int .i64 0], st))
    (h6 : ∀ h n w, x (.func 6 [] []) [stV wSafe 0 true false] ⟨h, n, w⟩ = some (.tup [.slice n 0 3 none 1, .int .i64 0], ⟨h.set n (.cells [(.str [102, 105, 110, 100]), (.str [103, 117, 115, 116]), (.str [114, 101, 115, 101, 116])] 9 true), n + 1, w⟩))
    (h7 : ∀ st, x (.func 7 [] []) [stV wIdle 0 true false] st = some (.tup [.bool false, .int .i64 0], st))
    (h8 : ∀ st, x (.func 12 [] []) [stV wIdle 0 true false] st = some (.int .i64 0, st))
    (h16 : ∀ args st, x (.func 16 [] []) args st = none) :
    Post (mcode (mcallX x (cFunc Tryz.prog) 200 10) (g + 60) none A.lb4 fr st) fun ex fr st => ex = .normal ∧ SInv p q i L (.slice i o L cp 1) cs e (k + 1) wIdle 0 true false fr st := by
  obtain ⟨r, n, mk⟩ := fr
  obtain ⟨hh, N, w⟩ := st
  obtain ⟨f1, f2, f3, f4, f5, f6, f7, f8, e1, e2, e3, l1, l2, l3, hw, i1, i2, i3⟩ := h
  simp only at f1 f2 f3 f4 f5 f6 f7 f8 e1 e2 e3 l1 l2 l3 hw
  subst f1; subst f2
  have e3 := e3 (by omega)
  have d1 : ¬ p = N := by omega
  have d2 : ¬ q = N := by omega
  have d3 : ¬ i = N := by omega
  have d4 : ¬ p = N + 1 := by omega
  have d5 : ¬ q = N + 1 := by omega
  have d6 : ¬ i = N + 1 := by omega
  have d7 : ¬ i = p := by omega
  have d8 : ¬ i = q := by omega
  have d9 : ¬ q = p := fun h => i3 h.symm
  have d10 : ¬ N = p := by omega
  have d11 : ¬ N + 1 = p := by omega
  have b1 : -9223372036854775808 ≤ b := by omega
  have b2 : b < 9223372036854775808 := by omega
  have k1 : (k : Int) < (L : Int) := by omega
  have k2 : -9223372036854775808 ≤ (k : Int) + 1 := by omega
  have k3 : (k : Int) + 1 < 9223372036854775808 := by omega
  have g1 : 200 = 199 + 1 := rfl
  have w1 : i < N := l3
  have w2 : i < N + 1 := by omega
  have q0 : eqV false (.node [(0, none, .prim .str), (1, none, .prim .int), (2, none, .prim .bool), (3, none, .prim .bool)]) zSt zSt = some true := by simp [eqV, eqParts, eqPrim, partV]
  simp [ready] at f5
  simp [A.lb4, f3, f4, f5, f6, f7, f8, e1, e2, e3, d1, d2, d3, d4, d5, d6, d7, d8, d9, d10, d11, b1, b2, k1, k2, k3, hb, hm, h5, h6, h7, h8, h16, A.r16, A.b16, post_some, eqV_prm, eqPrim, q0]
  exact ⟨rfl, rfl, by simp [f3], by simp [f4], by simp [f5, ready], by simp [f6], by simp [f7], by simp, by simp [e1, d1, d4, d9, d10, d11], by simp [e2, d2, d5, d9], fun _ => by simp [e3, d3, d6, d7], by simp only; omega, by simp only; omega, by simp only; omega, by simpa [i1, w1, w2] using hw, i1, i2, i3⟩

set_option maxHeartbeats 4000000 in
theorem round_11_5 (x : CallT) (g : Nat) (p q i L : Nat) (o : Nat) (cp : Option Nat) (cs : List V) (e : TypeId) (k : Nat) (b : Int) (fr : Fr) (st : St)
    (h : SInv p q i L (.slice i o L cp 1) cs e k wSafe 0 false true fr st) (hk : k < L) (hb : cs[o + k]? = some (.int .u8 b)) (hb0 : 0 ≤ b) (hb1 : b < 256) (hm : b.tmod 11 = 5) (hL : L ≤ 40)
    (h5 : ∀ st, x (.func 5 [] []) [stV wSafe 0 false true, .str [99, 108, 101, 97, 114]] st = some (.tup [zSt, .int .i64 18], st))
    (h6 : ∀ h n w, x (.func 6 [] []) [stV wSafe 0 false true] ⟨h, n, w⟩ = some (.tup [.slice n 0 2 none 1, .int .i64 0], ⟨h.set n (.cells [(.str [108, 111, 115, 101]), (.str [99, 97, 108, 109])] 9 true), n + 1, w⟩))
    (h16 : ∀ args st, x (.func 16 [] []) args st = none) :
    Post (mcode (mcallX x (cFunc Tryz.prog) 200 10) (g + 60) none A.lb4 fr st) fun ex fr st => ex = .normal ∧ SInv p q i L (.slice i o L cp 1) cs e (k + 1) wSafe 0 false true fr st := by
  obtain ⟨r, n, mk⟩ := fr
  obtain ⟨hh, N, w⟩ := st
  obtain ⟨f1, f2, f3, f4, f5, f6, f7, f8, e1, e2, e3, l1, l2, l3, hw, i1, i2, i3⟩ := h
  simp only at f1 f2 f3 f4 f5 f6 f7 f8 e1 e2 e3 l1 l2 l3 hw
  subst f1; subst f2
  have e3 := e3 (by omega)
  have d1 : ¬ p = N := by omega
  have d2 : ¬ q = N := by omega
  have d3 : ¬ i = N := by omega
  have d4 : ¬ p = N + 1 := by omega
  have d5 : ¬ q = N + 1 := by omega
  have d6 : ¬ i = N + 1 := by omega
  have d7 : ¬ i = p := by omega
  have d8 : ¬ i = q := by omega
  have d9 : ¬ q = p := fun h => i3 h.symm
  have d10 : ¬ N = p := by omega
  have d11 : ¬ N + 1 = p := by omega
  have b1 : -9223372036854775808 ≤ b := by omega
  have b2 : b < 9223372036854775808 := by omega
  have k1 : (k : Int) < (L : Int) := by omega
  have k2 : -9223372036854775808 ≤ (k : Int) + 1 := by omega
  have k3 : (k : Int) + 1 < 9223372036854775808 := by omega
  have g1 : 200 = 199 + 1 := rfl
  have w1 : i < N := l3
  have w2 : i < N + 1 := by omega
  have q0 : eqV false (.node [(0, none, .prim .str), (1, none, .prim .int), (2, none, .prim .bool), (3, none, .prim .bool)]) zSt zSt = some true := by simp [eqV, eqParts, eqPrim, partV]
  simp [ready] at f5
  simp [A.lb4, f3, f4, f5, f6, f7, f8, e1, e2, e3, d1, d2, d3, d4, d5, d6, d7, d8, d9, d10, d11, b1, b2, k1, k2, k3, hb, hm, h5, h6, h16, A.r16, A.b16, post_some, eqV_prm, eqPrim, q0]
  exact ⟨rfl, rfl, by simp [f3], by simp [f4], by simp [f5, ready], by simp [f6], by simp [f7], by simp, by simp [e1, d1, d4, d9, d10, d11], by simp [e2, d2, d5, d9], fun _ => by simp [e3, d3, d6, d7], by simp only; omega, by simp only; omega, by simp only; omega, by simpa [i1, w1, w2] using hw, i1, i2, i3⟩

set_option maxHeartbeats 4000000 in
theorem round_12_0 (x : CallT) (g : Nat) (p q i L : Nat) (o : Nat) (cp : Option Nat) (cs : List V) (e : TypeId) (k : Nat) (b : Int) (fr : Fr) (st : St)
    (h : SInv p q i L (.slice i o L cp 1) cs e k wSafe 0 true true fr st) (hk : k < L) (hb : cs[o + k]? = some (.int .u8 b)) (hb0 : 0 ≤ b) (hb1 : b < 256) (hm : b.tmod 11 = 0) (hL : L ≤ 40)
    (h5 : ∀ st, x (.func 5 [] []) [stV wSafe 0 true true, .str [115, 116, 97, 114, 116]] st = some (.tup [zSt, .int .i64 18], st))
    (h6 : ∀ h n w, x (.func 6 [] []) [stV wSafe 0 true true] ⟨h, n, w⟩ = some (.tup [.slice n 0 2 none 1, .int .i64 0], ⟨h.set n (.cells [(.str [102, 105, 110, 100]), (.str [99, 97, 108, 109])] 9 true), n + 1, w⟩))
    (h16 : ∀ args st, x (.func 16 [] []) args st = none) :
    Post (mcode (mcallX x (cFunc Tryz.prog) 200 10) (g + 60) none A.lb4 fr st) fun ex fr st => ex = .normal ∧ SInv p q i L (.slice i o L cp 1) cs e (k + 1) wSafe 0 true true fr st := by
  obtain ⟨r, n, mk⟩ := fr
  obtain ⟨hh, N, w⟩ := st
  obtain ⟨f1, f2, f3, f4, f5, f6, f7, f8, e1, e2, e3, l1, l2, l3, hw, i1, i2, i3⟩ := h
  simp only at f1 f2 f3 f4 f5 f6 f7 f8 e1 e2 e3 l1 l2 l3 hw
  subst f1; subst f2
  have e3 := e3 (by omega)
  have d1 : ¬ p = N := by omega
  have d2 : ¬ q = N := by omega
  have d3 : ¬ i = N := by omega
  have d4 : ¬ p = N + 1 := by omega
  have d5 : ¬ q = N + 1 := by omega
  have d6 : ¬ i = N + 1 := by omega
  have d7 : ¬ i = p := by omega
  have d8 : ¬ i = q := by omega
  have d9 : ¬ q = p := fun h => i3 h.symm
  have d10 : ¬ N = p := by omega
  have d11 : ¬ N + 1 = p := by omega
  have b1 : -9223372036854775808 ≤ b := by omega
  have b2 : b < 9223372036854775808 := by omega
  have k1 : (k : Int) < (L : Int) := by omega
  have k2 : -9223372036854775808 ≤ (k : Int) + 1 := by omega
  have k3 : (k : Int) + 1 < 9223372036854775808 := by omega
  have g1 : 200 = 199 + 1 := rfl
  have w1 : i < N := l3
  have w2 : i < N + 1 := by omega
  have q0 : eqV false (.node [(0, none, .prim .str), (1, none, .prim .int), (2, none, .prim .bool), (3, none, .prim .bool)]) zSt zSt = some true := by simp [eqV, eqParts, eqPrim, partV]
  simp [ready] at f5
  simp [A.lb4, f3, f4, f5, f6, f7, f8, e1, e2, e3, d1, d2, d3, d4, d5, d6, d7, d8, d9, d10, d11, b1, b2, k1, k2, k3, hb, hm, h5, h6, h16, A.r16, A.b16, post_some, eqV_prm, eqPrim, q0]
  exact ⟨rfl, rfl, by simp [f3], by simp [f4], by simp [f5, ready], by simp [f6], by simp [f7], by simp, by simp [e1, d1, d4, d9, d10, d11], by simp [e2, d2, d5, d9], fun _ => by simp [e3, d3, d6, d7], by simp only; omega, by simp only; omega, by simp only; omega, by simpa [i1, w1, w2] using hw, i1, i2, i3⟩

set_option maxHeartbeats 4000000 in
theorem round_12_6 (x : CallT) (g : Nat) (p q i L : Nat) (o : Nat) (cp : Option Nat) (cs : List V) (e : TypeId) (k : Nat) (b : Int) (fr : Fr) (st : St)
    (h : SInv p q i L (.slice i o L cp 1) cs e k wSafe 0 true true fr st) (hk : k < L) (hb : cs[o + k]? = some (.int .u8 b)) (hb0 : 0 ≤ b) (hb1 : b < 256) (hm : b.tmod 11 = 6) (hL : L ≤ 40)
    (h5 : ∀ st, x (.func 5 [] []) [stV wSafe 0 true true, .str [108, 111, 115, 101]] st = some (.tup [zSt, .int .i64 18], st))
    (h6 : ∀ h n w, x (.func 6 [] []) [stV wSafe 0 true true] ⟨h, n, w⟩ = some (.tup [.slice n 0 2 none 1, .int .i64 0], ⟨h.set n (.cells [(.str [102, 105, 110, 100]), (.str [99, 97, 108, 109])] 9 true), n + 1, w⟩))
    (h16 : ∀ args st, x (.func 16 [] []) args st = none) :
    Post (mcode (mcallX x (cFunc Tryz.prog) 200 10) (g + 60) none A.lb4 fr st) fun ex fr st => ex = .normal ∧ SInv p q i L (.slice i o L cp 1) cs e (k + 1) wSafe 0 true true fr st := by
  obtain ⟨r, n, mk⟩ := fr
  obtain ⟨hh, N, w⟩ := st
  obtain ⟨f1, f2, f3, f4, f5, f6, f7, f8, e1, e2, e3, l1, l2, l3, hw, i1, i2, i3⟩ := h
  simp only at f1 f2 f3 f4 f5 f6 f7 f8 e1 e2 e3 l1 l2 l3 hw
  subst f1; subst f2
  have e3 := e3 (by omega)
  have d1 : ¬ p = N := by omega
  have d2 : ¬ q = N := by omega
  have d3 : ¬ i = N := by omega
  have d4 : ¬ p = N + 1 := by omega
  have d5 : ¬ q = N + 1 := by omega
  have d6 : ¬ i = N + 1 := by omega
  have d7 : ¬ i = p := by omega
  have d8 : ¬ i = q := by omega
  have d9 : ¬ q = p := fun h => i3 h.symm
  have d10 : ¬ N = p := by omega
  have d11 : ¬ N + 1 = p := by omega
  have b1 : -9223372036854775808 ≤ b := by omega
  have b2 : b < 9223372036854775808 := by omega
  have k1 : (k : Int) < (L : Int) := by omega
  have k2 : -9223372036854775808 ≤ (k : Int) + 1 := by omega
  have k3 : (k : Int) + 1 < 9223372036854775808 := by omega
  have g1 : 200 = 199 + 1 := rfl
  have w1 : i < N := l3
  have w2 : i < N + 1 := by omega
  have q0 : eqV false (.node [(0, none, .prim .str), (1, none, .prim .int), (2, none, .prim .bool), (3, none, .prim .bool)]) zSt zSt = some true := by simp [eqV, eqParts, eqPrim, partV]
  simp [ready] at f5
  simp [A.lb4, f3, f4, f5, f6, f7, f8, e1, e2, e3, d1, d2, d3, d4, d5, d6, d7, d8, d9, d10, d11, b1, b2, k1, k2, k3, hb, hm, h5, h6, h16, A.r16, A.b16, post_some, eqV_prm, eqPrim, q0]
  exact ⟨rfl, rfl, by simp [f3], by simp [f4], by simp [f5, ready], by simp [f6], by simp [f7], by simp, by simp [e1, d1, d4, d9, d10, d11], by simp [e2, d2, d5, d9], fun _ => by simp [e3, d3, d6, d7], by simp only; omega, by simp only; omega, by simp only; omega, by simpa [i1, w1, w2] using hw, i1, i2, i3⟩

end Go.Mx
