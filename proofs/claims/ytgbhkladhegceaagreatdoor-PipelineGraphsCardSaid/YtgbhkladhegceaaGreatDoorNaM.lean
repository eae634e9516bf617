/-
  bits.Mul64: the product of two words.
-/
import Derived.Test.YtgbhkladhegceaaGreatDoorPaW
set_option linter.all false
namespace Go.Mx
open Go Go.Proofs
set_option maxRecDepth 1000000
set_option linter.unusedSimpArgs false
set_option linter.unusedVariables false
/-- math/bits.Mul64 -/
def A.b216 : MCode := .seq (.reg [⟨(some 4), .mov (.const (.int .u64 0)), none⟩, ⟨(some 5), .mov (.const (.int .u64 0)), none⟩])
 (.seq (.reg [⟨(some 14), .mov (.tmp 0), none⟩, ⟨(some 15), .bin .and (.node []) false (.tmp 14) (.const (.int .u64 4294967295)), none⟩, ⟨(some 6), .mov (.tmp 15), none⟩])
 (.seq (.reg [⟨(some 16), .mov (.tmp 0), none⟩, ⟨(some 17), .bin .shr (.node []) false (.tmp 16) (.const (.int .u64 32)), none⟩, ⟨(some 7), .mov (.tmp 17), none⟩])
 (.seq (.reg [⟨(some 18), .mov (.tmp 1), none⟩, ⟨(some 19), .bin .and (.node []) false (.tmp 18) (.const (.int .u64 4294967295)), none⟩, ⟨(some 8), .mov (.tmp 19), none⟩])
 (.seq (.reg [⟨(some 20), .mov (.tmp 1), none⟩, ⟨(some 21), .bin .shr (.node []) false (.tmp 20) (.const (.int .u64 32)), none⟩, ⟨(some 9), .mov (.tmp 21), none⟩])
 (.seq (.reg [⟨(some 22), .mov (.tmp 6), none⟩, ⟨(some 23), .mov (.tmp 8), none⟩, ⟨(some 24), .bin .mul (.node []) false (.tmp 22) (.tmp 23), none⟩, ⟨(some 10), .mov (.tmp 24), none⟩])
 (.seq (.reg [⟨(some 25), .mov (.tmp 7), none⟩, ⟨(some 26), .mov (.tmp 8), none⟩, ⟨(some 27), .bin .mul (.node []) false (.tmp 25) (.tmp 26), none⟩, ⟨(some 28), .mov (.tmp 10), none⟩, ⟨(some 29), .bin .shr (.node []) false (.tmp 28) (.const (.int .u64 32)), none⟩, ⟨(some 30), .bin .add (.node []) false (.tmp 27) (.tmp 29), none⟩, ⟨(some 11), .mov (.tmp 30), none⟩])
 (.seq (.reg [⟨(some 31), .mov (.tmp 11), none⟩, ⟨(some 32), .bin .and (.node []) false (.tmp 31) (.const (.int .u64 4294967295)), none⟩, ⟨(some 12), .mov (.tmp 32), none⟩])
 (.seq (.reg [⟨(some 33), .mov (.tmp 11), none⟩, ⟨(some 34), .bin .shr (.node []) false (.tmp 33) (.const (.int .u64 32)), none⟩, ⟨(some 13), .mov (.tmp 34), none⟩])
 (.seq (.reg [⟨(some 35), .mov (.tmp 12), none⟩, ⟨(some 36), .mov (.tmp 6), none⟩, ⟨(some 37), .mov (.tmp 9), none⟩, ⟨(some 38), .bin .mul (.node []) false (.tmp 36) (.tmp 37), none⟩, ⟨(some 39), .bin .add (.node []) false (.tmp 35) (.tmp 38), none⟩, ⟨(some 12), .mov (.tmp 39), none⟩])
 (.seq (.reg [⟨(some 40), .mov (.tmp 7), none⟩, ⟨(some 41), .mov (.tmp 9), none⟩, ⟨(some 42), .bin .mul (.node []) false (.tmp 40) (.tmp 41), none⟩, ⟨(some 43), .mov (.tmp 13), none⟩, ⟨(some 44), .bin .add (.node []) false (.tmp 42) (.tmp 43), none⟩, ⟨(some 45), .mov (.tmp 12), none⟩, ⟨(some 46), .bin .shr (.node []) false (.tmp 45) (.const (.int .u64 32)), none⟩, ⟨(some 47), .bin .add (.node []) false (.tmp 44) (.tmp 46), none⟩, ⟨(some 4), .mov (.tmp 47), none⟩])
 (.seq (.reg [⟨(some 48), .mov (.tmp 0), none⟩, ⟨(some 49), .mov (.tmp 1), none⟩, ⟨(some 50), .bin .mul (.node []) false (.tmp 48) (.tmp 49), none⟩, ⟨(some 5), .mov (.tmp 50), none⟩])
 (.ret))))))))))))
theorem A.c216 : cFunc Tryz.prog 216 = some ⟨51, [.tmp 4, .tmp 5], A.b216⟩ := by kernel_rfl
theorem A.k216 {K : List Kf} {Q : Rs → Prop} {f c args : List V} {st : St} (h : (f ++ args ++ c).length ≤ 51) : Run A.C K (valR (A.C.call (.func 216 f c) args st)) Q ↔ Run A.C (.fin [.tmp 4, .tmp 5] st :: K) (exR (A.C.code none A.b216 ⟨setRegs .nil 0 (f ++ args ++ c), 51, []⟩ ⟨st.h, st.n, []⟩)) Q := run_func (A.x0 (f := 216) (by decide)) (mf := ⟨51, [.tmp 4, .tmp 5], A.b216⟩) (by rw [A.t]; exact A.c216) h

theorem mul_hi {x y : Nat} (hx : x < 18446744073709551616) (hy : y < 18446744073709551616) : addu (addu (mulu (shr64 x 32) (shr64 y 32)) (shr64 (addu (mulu (shr64 x 32) (and32 y)) (shr64 (mulu (and32 x) (and32 y)) 32)) 32)) (shr64 (addu (and32 (addu (mulu (shr64 x 32) (and32 y)) (shr64 (mulu (and32 x) (and32 y)) 32))) (mulu (and32 x) (shr64 y 32))) 32) = hi64 (x * y) := by
  simp only [addu, mulu, shr64, and32, hi64, Nat.reducePow]
  have ex : x = x / 4294967296 * 4294967296 + x % 4294967296 := by omega
  have ey : y = y / 4294967296 * 4294967296 + y % 4294967296 := by omega
  have hx0 : x % 4294967296 < 4294967296 := Nat.mod_lt _ (by decide)
  have hy0 : y % 4294967296 < 4294967296 := Nat.mod_lt _ (by decide)
  have hx1 : x / 4294967296 < 4294967296 := by omega
  have hy1 : y / 4294967296 < 4294967296 := by omega
  generalize x / 4294967296 = x1 at *
  generalize x % 4294967296 = x0 at *
  generalize y / 4294967296 = y1 at *
  generalize y % 4294967296 = y0 at *
  have a1 : x0 * y0 ≤ 4294967295 * 4294967295 := Nat.mul_le_mul (by omega) (by omega)
  have a2 : x1 * y0 ≤ 4294967295 * 4294967295 := Nat.mul_le_mul (by omega) (by omega)
  have a3 : x0 * y1 ≤ 4294967295 * 4294967295 := Nat.mul_le_mul (by omega) (by omega)
  have a4 : x1 * y1 ≤ 4294967295 * 4294967295 := Nat.mul_le_mul (by omega) (by omega)
  have e : x * y = x1 * y1 * 18446744073709551616 + (x1 * y0 + x0 * y1) * 4294967296 + x0 * y0 := by
    subst ex; subst ey
    grind
  rw [e]
  generalize x0 * y0 = p at *
  generalize x1 * y0 = q at *
  generalize x0 * y1 = u at *
  generalize x1 * y1 = z at *
  omega

set_option maxHeartbeats 2000000 in
theorem mul64_fn {h : T O} {N : Nat} {x y : Nat} (hx : x < 18446744073709551616) (hy : y < 18446744073709551616) : Fn A.C 216 [.int .u64 x, .int .u64 y] h N (fun v' h' N' => h' = h ∧ N' = N ∧ v' = .tup [.int .u64 (hi64 (x * y) : Nat), .int .u64 (lo64 (x * y) : Nat)]) := by
  intro w
  rw [call_run, A.k216 (by simp)]
  simp (disch := first | (simp; done) | omega | (simp only [dg_length, dgi_length, List.length_cons]; omega) | rfl) [-getElem?_pos, List.getElem?_cons_zero, List.getElem?_cons_succ, A.b216]
  rw [mul_hi hx hy]
  exact ⟨rfl, Keeps.refl, rfl, rfl, rfl⟩

end Go.Mx
