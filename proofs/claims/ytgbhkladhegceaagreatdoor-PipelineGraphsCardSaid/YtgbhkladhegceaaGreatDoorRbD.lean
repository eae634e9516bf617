/-
  lensletref01.divDigits: the inner loops.
-/
import Derived.Test.YtgbhkladhegceaaGreatDoorRbG
set_option linter.all false
namespace Go.Mx
open Go Go.Proofs
set_option maxRecDepth 1000000
set_option linter.unusedSimpArgs false
set_option linter.unusedVariables false
def A.lb160_0 : MCode := .seq (.seq (.reg [⟨(some 148), .mov (.tmp 20), none⟩, ⟨(some 149), .mov (.tmp 10), none⟩, ⟨(some 150), .bin .lss (.node []) false (.tmp 148) (.tmp 149), none⟩])
 (.cond (.tmp 150)
 (.skip)
 (.exit 6)))
 (.seq (.block 7 (.seq (.regD [⟨(some 153), .mov (.tmp 11), none⟩, ⟨(some 154), .mov (.tmp 20), none⟩, ⟨(some 155), .mov (.tmp 13), none⟩, ⟨(some 156), .bin .add (.node []) false (.tmp 154) (.tmp 155), none⟩, ⟨(some 157), .iaddrSl 1 (.tmp 153) (.tmp 156), none⟩, ⟨(some 158), .load none (.tmp 157), none⟩, ⟨(some 159), .mov (.tmp 9), none⟩, ⟨(some 160), .mov (.tmp 20), none⟩, ⟨(some 161), .iaddrSl 1 (.tmp 159) (.tmp 160), none⟩, ⟨(some 162), .load none (.tmp 161), none⟩, ⟨(some 163), .bin .add (.node []) false (.tmp 158) (.tmp 162), none⟩, ⟨(some 164), .mov (.tmp 19), none⟩, ⟨(some 165), .bin .add (.node []) false (.tmp 163) (.tmp 164), none⟩, ⟨(some 21), .mov (.tmp 165), none⟩] [0, 0, 0, 6, 15, 31, 0, 0, 192, 448, 1023, 0, 4095, 8191])
 (.seq (.reg [⟨(some 166), .mov (.tmp 11), none⟩, ⟨(some 167), .mov (.tmp 20), none⟩, ⟨(some 168), .mov (.tmp 13), none⟩, ⟨(some 169), .bin .add (.node []) false (.tmp 167) (.tmp 168), none⟩, ⟨(some 170), .mov (.tmp 21), none⟩, ⟨(some 171), .bin .rem (.node []) false (.tmp 170) (.const (.int .i64 1000000000)), none⟩, ⟨(some 172), .iaddrSl 1 (.tmp 166) (.tmp 169), none⟩, ⟨none, .store 1 (.tmp 172) (.tmp 171), none⟩])
 (.reg [⟨(some 173), .mov (.tmp 21), none⟩, ⟨(some 174), .bin .quo (.node []) false (.tmp 173) (.const (.int .i64 1000000000)), none⟩, ⟨(some 19), .mov (.tmp 174), none⟩]))))
 (.reg [⟨(some 151), .mov (.tmp 20), none⟩, ⟨(some 152), .bin .add (.node []) false (.tmp 151) (.const (.int .i64 1)), none⟩, ⟨(some 20), .mov (.tmp 152), none⟩]))
def A.lb160_1 : MCode := .seq (.seq (.reg [⟨(some 90), .mov (.tmp 16), none⟩, ⟨(some 91), .mov (.tmp 10), none⟩, ⟨(some 92), .bin .lss (.node []) false (.tmp 90) (.tmp 91), none⟩])
 (.cond (.tmp 92)
 (.skip)
 (.exit 4)))
 (.seq (.block 5 (.seq (.reg [⟨(some 95), .mov (.tmp 14), none⟩, ⟨(some 96), .mov (.tmp 9), none⟩, ⟨(some 97), .mov (.tmp 16), none⟩, ⟨(some 98), .iaddrSl 1 (.tmp 96) (.tmp 97), none⟩, ⟨(some 99), .load none (.tmp 98), none⟩, ⟨(some 100), .bin .mul (.node []) false (.tmp 95) (.tmp 99), none⟩, ⟨(some 101), .mov (.tmp 15), none⟩, ⟨(some 102), .bin .add (.node []) false (.tmp 100) (.tmp 101), none⟩, ⟨(some 17), .mov (.tmp 102), none⟩])
 (.seq (.reg [⟨(some 103), .mov (.tmp 11), none⟩, ⟨(some 104), .mov (.tmp 16), none⟩, ⟨(some 105), .mov (.tmp 13), none⟩, ⟨(some 106), .bin .add (.node []) false (.tmp 104) (.tmp 105), none⟩, ⟨(some 107), .iaddrSl 1 (.tmp 103) (.tmp 106), none⟩, ⟨(some 108), .load none (.tmp 107), none⟩, ⟨(some 109), .mov (.tmp 17), none⟩, ⟨(some 110), .bin .rem (.node []) false (.tmp 109) (.const (.int .i64 1000000000)), none⟩, ⟨(some 111), .bin .sub (.node []) false (.tmp 108) (.tmp 110), none⟩, ⟨(some 18), .mov (.tmp 111), none⟩])
 (.seq (.reg [⟨(some 112), .mov (.tmp 17), none⟩, ⟨(some 113), .bin .quo (.node []) false (.tmp 112) (.const (.int .i64 1000000000)), none⟩, ⟨(some 15), .mov (.tmp 113), none⟩])
 (.seq (.seq (.reg [⟨(some 114), .mov (.tmp 18), none⟩, ⟨(some 115), .bin .lss (.node []) false (.tmp 114) (.const (.int .i64 0)), none⟩])
 (.cond (.tmp 115)
 (.seq (.reg [⟨(some 116), .mov (.tmp 18), none⟩, ⟨(some 117), .bin .add (.node []) false (.tmp 116) (.const (.int .i64 1000000000)), none⟩, ⟨(some 18), .mov (.tmp 117), none⟩])
 (.reg [⟨(some 118), .mov (.tmp 15), none⟩, ⟨(some 119), .bin .add (.node []) false (.tmp 118) (.const (.int .i64 1)), none⟩, ⟨(some 15), .mov (.tmp 119), none⟩]))
 (.skip)))
 (.reg [⟨(some 120), .mov (.tmp 11), none⟩, ⟨(some 121), .mov (.tmp 16), none⟩, ⟨(some 122), .mov (.tmp 13), none⟩, ⟨(some 123), .bin .add (.node []) false (.tmp 121) (.tmp 122), none⟩, ⟨(some 124), .mov (.tmp 18), none⟩, ⟨(some 125), .iaddrSl 1 (.tmp 120) (.tmp 123), none⟩, ⟨none, .store 1 (.tmp 125) (.tmp 124), none⟩]))))))
 (.reg [⟨(some 93), .mov (.tmp 16), none⟩, ⟨(some 94), .bin .add (.node []) false (.tmp 93) (.const (.int .i64 1)), none⟩, ⟨(some 16), .mov (.tmp 94), none⟩]))
def A.lb160_2 : MCode := .seq (.seq (.reg [⟨(some 82), .mov (.tmp 13), none⟩, ⟨(some 83), .bin .geq (.node []) false (.tmp 82) (.const (.int .i64 0)), none⟩])
 (.cond (.tmp 83)
 (.skip)
 (.exit 2)))
 (.seq (.block 3 (.seq (.reg [⟨(some 86), .mov (.tmp 11), none⟩, ⟨(some 87), .mov (.tmp 9), none⟩, ⟨(some 88), .mov (.tmp 13), none⟩, ⟨(some 89), .call (.const (.func 201 [] [])) [(.tmp 86), (.tmp 87), (.tmp 88)], none⟩, ⟨(some 14), .mov (.tmp 89), none⟩])
 (.seq (.reg [⟨(some 15), .mov (.const (.int .i64 0)), none⟩])
 (.seq (.seq (.reg [⟨(some 16), .mov (.const (.int .i64 0)), none⟩])
 (.block 4 (.loop A.lb160_1)))
 (.seq (.reg [⟨(some 126), .mov (.tmp 11), none⟩, ⟨(some 127), .mov (.tmp 13), none⟩, ⟨(some 128), .mov (.tmp 10), none⟩, ⟨(some 129), .bin .add (.node []) false (.tmp 127) (.tmp 128), none⟩, ⟨(some 130), .mov (.tmp 11), none⟩, ⟨(some 131), .mov (.tmp 13), none⟩, ⟨(some 132), .mov (.tmp 10), none⟩, ⟨(some 133), .bin .add (.node []) false (.tmp 131) (.tmp 132), none⟩, ⟨(some 134), .iaddrSl 1 (.tmp 130) (.tmp 133), none⟩, ⟨(some 135), .load none (.tmp 134), none⟩, ⟨(some 136), .mov (.tmp 15), none⟩, ⟨(some 137), .bin .sub (.node []) false (.tmp 135) (.tmp 136), none⟩, ⟨(some 138), .iaddrSl 1 (.tmp 126) (.tmp 129), none⟩, ⟨none, .store 1 (.tmp 138) (.tmp 137), none⟩])
 (.seq (.seq (.reg [⟨(some 139), .mov (.tmp 11), none⟩, ⟨(some 140), .mov (.tmp 13), none⟩, ⟨(some 141), .mov (.tmp 10), none⟩, ⟨(some 142), .bin .add (.node []) false (.tmp 140) (.tmp 141), none⟩, ⟨(some 143), .iaddrSl 1 (.tmp 139) (.tmp 142), none⟩, ⟨(some 144), .load none (.tmp 143), none⟩, ⟨(some 145), .bin .lss (.node []) false (.tmp 144) (.const (.int .i64 0)), none⟩])
 (.cond (.tmp 145)
 (.seq (.reg [⟨(some 146), .mov (.tmp 14), none⟩, ⟨(some 147), .bin .sub (.node []) false (.tmp 146) (.const (.int .i64 1)), none⟩, ⟨(some 14), .mov (.tmp 147), none⟩])
 (.seq (.reg [⟨(some 19), .mov (.const (.int .i64 0)), none⟩])
 (.seq (.seq (.reg [⟨(some 20), .mov (.const (.int .i64 0)), none⟩])
 (.block 6 (.loop A.lb160_0)))
 (.reg [⟨(some 175), .mov (.tmp 11), none⟩, ⟨(some 176), .mov (.tmp 13), none⟩, ⟨(some 177), .mov (.tmp 10), none⟩, ⟨(some 178), .bin .add (.node []) false (.tmp 176) (.tmp 177), none⟩, ⟨(some 179), .mov (.tmp 11), none⟩, ⟨(some 180), .mov (.tmp 13), none⟩, ⟨(some 181), .mov (.tmp 10), none⟩, ⟨(some 182), .bin .add (.node []) false (.tmp 180) (.tmp 181), none⟩, ⟨(some 183), .iaddrSl 1 (.tmp 179) (.tmp 182), none⟩, ⟨(some 184), .load none (.tmp 183), none⟩, ⟨(some 185), .mov (.tmp 19), none⟩, ⟨(some 186), .bin .add (.node []) false (.tmp 184) (.tmp 185), none⟩, ⟨(some 187), .iaddrSl 1 (.tmp 175) (.tmp 178), none⟩, ⟨none, .store 1 (.tmp 187) (.tmp 186), none⟩]))))
 (.skip)))
 (.reg [⟨(some 188), .mov (.tmp 12), none⟩, ⟨(some 189), .mov (.tmp 13), none⟩, ⟨(some 190), .mov (.tmp 14), none⟩, ⟨(some 191), .iaddrSl 1 (.tmp 188) (.tmp 189), none⟩, ⟨none, .store 1 (.tmp 191) (.tmp 190), none⟩])))))))
 (.reg [⟨(some 84), .mov (.tmp 13), none⟩, ⟨(some 85), .bin .sub (.node []) false (.tmp 84) (.const (.int .i64 1)), none⟩, ⟨(some 13), .mov (.tmp 85), none⟩]))
def A.lb160_3 : MCode := .seq (.seq (.reg [⟨(some 63), .mov (.tmp 11), none⟩, ⟨(some 64), .len 1 (.tmp 63), none⟩, ⟨(some 65), .mov (.tmp 0), none⟩, ⟨(some 66), .len 1 (.tmp 65), none⟩, ⟨(some 67), .bin .add (.node []) false (.tmp 66) (.const (.int .i64 1)), none⟩, ⟨(some 68), .bin .lss (.node []) false (.tmp 64) (.tmp 67), none⟩])
 (.cond (.tmp 68)
 (.skip)
 (.exit 0)))
 (.block 1 (.reg [⟨(some 69), .mov (.tmp 11), none⟩, ⟨(some 70), .bslice 3 1 1 [(.int .i64 0)] [(0, 1, (.const (.int .i64 0)))], none⟩, ⟨(some 71), .append 1 8 3 [(.int .i64 0)] (.tmp 69) (.tmp 70), none⟩, ⟨(some 11), .mov (.tmp 71), none⟩]))
/-- lenslet/lensletref01.divDigits -/
def A.b160 : MCode := .seq (.reg [⟨(some 4), .mov (.const .nilslice), none⟩, ⟨(some 5), .mov (.const .nilslice), none⟩])
 (.seq (.seq (.reg [⟨(some 24), .mov (.tmp 0), none⟩, ⟨(some 25), .mov (.tmp 1), none⟩, ⟨(some 26), .call (.const (.func 197 [] [])) [(.tmp 24), (.tmp 25)], none⟩, ⟨(some 27), .bin .lss (.node []) false (.tmp 26) (.const (.int .i64 0)), none⟩])
 (.cond (.tmp 27)
 (.seq (.reg [⟨(some 28), .mov (.tmp 0), none⟩, ⟨(some 4), .mov (.const .nilslice), none⟩, ⟨(some 5), .mov (.tmp 28), none⟩])
 (.ret))
 (.skip)))
 (.seq (.seq (.reg [⟨(some 29), .mov (.tmp 1), none⟩, ⟨(some 30), .len 1 (.tmp 29), none⟩, ⟨(some 31), .bin .eql (.prim .int) true (.tmp 30) (.const (.int .i64 1)), none⟩])
 (.cond (.tmp 31)
 (.seq (.reg [⟨(some 33), .mov (.tmp 0), none⟩, ⟨(some 34), .mov (.tmp 1), none⟩, ⟨(some 35), .iaddrSl 1 (.tmp 34) (.const (.int .i64 0)), none⟩, ⟨(some 36), .load none (.tmp 35), none⟩, ⟨(some 37), .call (.const (.func 198 [] [])) [(.tmp 33), (.tmp 36)], none⟩, ⟨(some 32), .mov (.tmp 37), none⟩, ⟨(some 38), .extract (.tmp 32) 0, none⟩, ⟨(some 39), .extract (.tmp 32) 1, none⟩, ⟨(some 6), .mov (.tmp 38), none⟩, ⟨(some 7), .mov (.tmp 39), none⟩])
 (.seq (.reg [⟨(some 40), .mov (.tmp 6), none⟩, ⟨(some 41), .mov (.tmp 7), none⟩, ⟨(some 42), .bslice 3 1 1 [(.int .i64 0)] [(0, 1, (.tmp 41))], none⟩, ⟨(some 43), .call (.const (.func 199 [] [])) [(.tmp 42)], none⟩, ⟨(some 4), .mov (.tmp 40), none⟩, ⟨(some 5), .mov (.tmp 43), none⟩])
 (.ret)))
 (.skip)))
 (.seq (.reg [⟨(some 44), .mov (.tmp 1), none⟩, ⟨(some 45), .mov (.tmp 1), none⟩, ⟨(some 46), .len 1 (.tmp 45), none⟩, ⟨(some 47), .bin .sub (.node []) false (.tmp 46) (.const (.int .i64 1)), none⟩, ⟨(some 48), .iaddrSl 1 (.tmp 44) (.tmp 47), none⟩, ⟨(some 49), .load none (.tmp 48), none⟩, ⟨(some 50), .bin .add (.node []) false (.tmp 49) (.const (.int .i64 1)), none⟩, ⟨(some 51), .bin .quo (.node []) false (.const (.int .i64 1000000000)) (.tmp 50), none⟩, ⟨(some 52), .bslice 3 1 1 [(.int .i64 0)] [(0, 1, (.tmp 51))], none⟩, ⟨(some 8), .mov (.tmp 52), none⟩])
 (.seq (.reg [⟨(some 53), .mov (.tmp 1), none⟩, ⟨(some 54), .mov (.tmp 8), none⟩, ⟨(some 55), .call (.const (.func 200 [] [])) [(.tmp 53), (.tmp 54)], none⟩, ⟨(some 9), .mov (.tmp 55), none⟩])
 (.seq (.reg [⟨(some 56), .mov (.tmp 9), none⟩, ⟨(some 57), .len 1 (.tmp 56), none⟩, ⟨(some 10), .mov (.tmp 57), none⟩])
 (.seq (.reg [⟨(some 58), .bslice 3 1 0 [] [], none⟩, ⟨(some 59), .mov (.tmp 0), none⟩, ⟨(some 60), .mov (.tmp 8), none⟩, ⟨(some 61), .call (.const (.func 200 [] [])) [(.tmp 59), (.tmp 60)], none⟩, ⟨(some 62), .append 1 8 3 [(.int .i64 0)] (.tmp 58) (.tmp 61), none⟩, ⟨(some 11), .mov (.tmp 62), none⟩])
 (.seq (.block 0 (.loop A.lb160_3))
 (.seq (.reg [⟨(some 72), .mov (.tmp 11), none⟩, ⟨(some 73), .len 1 (.tmp 72), none⟩, ⟨(some 74), .mov (.tmp 10), none⟩, ⟨(some 75), .bin .sub (.node []) false (.tmp 73) (.tmp 74), none⟩, ⟨(some 76), .mkslice 3 1 8 [(.int .i64 0)] (.tmp 75) (.tmp 75), none⟩, ⟨(some 12), .mov (.tmp 76), none⟩])
 (.seq (.seq (.reg [⟨(some 77), .mov (.tmp 11), none⟩, ⟨(some 78), .len 1 (.tmp 77), none⟩, ⟨(some 79), .mov (.tmp 10), none⟩, ⟨(some 80), .bin .sub (.node []) false (.tmp 78) (.tmp 79), none⟩, ⟨(some 81), .bin .sub (.node []) false (.tmp 80) (.const (.int .i64 1)), none⟩, ⟨(some 13), .mov (.tmp 81), none⟩])
 (.block 2 (.loop A.lb160_2)))
 (.seq (.regD [⟨(some 193), .mov (.tmp 11), none⟩, ⟨(some 194), .mov (.tmp 10), none⟩, ⟨(some 195), .sliceSl 1 (.tmp 193) none (some (.tmp 194)) none, none⟩, ⟨(some 196), .call (.const (.func 199 [] [])) [(.tmp 195)], none⟩, ⟨(some 197), .mov (.tmp 8), none⟩, ⟨(some 198), .iaddrSl 1 (.tmp 197) (.const (.int .i64 0)), none⟩, ⟨(some 199), .load none (.tmp 198), none⟩, ⟨(some 200), .call (.const (.func 198 [] [])) [(.tmp 196), (.tmp 199)], none⟩, ⟨(some 192), .mov (.tmp 200), none⟩, ⟨(some 201), .extract (.tmp 192) 0, none⟩, ⟨(some 202), .extract (.tmp 192) 1, none⟩, ⟨(some 22), .mov (.tmp 201), none⟩, ⟨(some 23), .mov (.tmp 202), none⟩] [0, 0, 3, 7, 0, 16, 48, 127, 255, 511, 511, 1023, 4095])
 (.seq (.reg [⟨(some 203), .mov (.tmp 12), none⟩, ⟨(some 204), .call (.const (.func 199 [] [])) [(.tmp 203)], none⟩, ⟨(some 205), .mov (.tmp 22), none⟩, ⟨(some 4), .mov (.tmp 204), none⟩, ⟨(some 5), .mov (.tmp 205), none⟩])
 (.ret))))))))))))
theorem A.c160 : cFunc Tryz.prog 160 = some ⟨206, [.tmp 4, .tmp 5], A.b160⟩ := by kernel_rfl
theorem A.k160 {K : List Kf} {Q : Rs → Prop} {f c args : List V} {st : St} (h : (f ++ args ++ c).length ≤ 206) : Run A.C K (valR (A.C.call (.func 160 f c) args st)) Q ↔ Run A.C (.fin [.tmp 4, .tmp 5] st :: K) (exR (A.C.code none A.b160 ⟨setRegs .nil 0 (f ++ args ++ c), 206, []⟩ ⟨st.h, st.n, []⟩)) Q := run_func (A.x0 (f := 160) (by decide)) (mf := ⟨206, [.tmp 4, .tmp 5], A.b160⟩) (by rw [A.t]; exact A.c160) h

structure DvS (N : Nat) (h2 : T O) (n2 iu iq n : Nat) (U Q : List Int) (st : St) : Prop where
  w : oldIds N st.w = []
  keep : Keeps h2 n2 st.h n
  n : st.n = n
  ru : st.h.get iu = some (.cells (dI U) 3 true)
  rq : st.h.get iq = some (.cells (dI Q) 3 true)
structure DvR (r0 : T V) (v : V) (iu lu L j : Nat) : Prop where
  r9 : r0.get 9 = some v
  r10 : r0.get 10 = some (.int .i64 L)
  r11 : r0.get 11 = some (.slice iu 0 lu none 1)
  r13 : r0.get 13 = some (.int .i64 j)
structure SbI (N : Nat) (h2 : T O) (n2 iu iq n : Nat) (U Q Y : List Int) (L j : Nat) (t : Int) (m : Nat) (r : T V) (st : St) : Prop where
  ex : ∃ i U' c, i + m = L ∧ r.get 16 = some (.int .i64 i) ∧ r.get 15 = some (.int .i64 c) ∧ 0 ≤ c ∧ c ≤ 1000000000 ∧ DvS N h2 n2 iu iq n U' Q st ∧ U'.length = U.length ∧ (∀ s, (s < j ∨ j + i ≤ s) → U'[s]? = U[s]?) ∧ Di U' ∧ vI U' - pI (j + i) * c = vI U - pI j * (t * vI (Y.take i))
theorem sub_loop {N : Nat} {h2 : T O} {n2 iu iq n : Nat} {U Q Y : List Int} {L j : Nat} {t : Int} {v : V} {r0 : T V} (hv : Sl h2 n2 v (dI Y)) (hY : Y.length = L) (dY : Di Y) (hjl : j + L < U.length) (hul : U.length < 1099511627776) (R : DvR r0 v iu U.length L j) (r14 : r0.get 14 = some (.int .i64 t)) (t0 : 0 ≤ t) (t1 : t ≤ 1000000000) (a1 : N ≤ n2) (a2 : n2 ≤ iu) (a3 : iu < iq) (a4 : iq < n) :
    ∀ k r st, (∀ t, inD [(15, 18), (90, 125)] t = false → r.get t = r0.get t) → Fx [(15, 18), (90, 125)] r0 206 ⟨r, 206, []⟩ → SbI N h2 n2 iu iq n U Q Y L j t k r st → Code A.C none A.lb160_1 ⟨r, 206, []⟩ st (Rd [(15, 18), (90, 125)] r0 206 (SbI N h2 n2 iu iq n U Q Y L j t) k (fun e r st => e = .exit 4 ∧ SbI N h2 n2 iu iq n U Q Y L j t 0 r st)) := by
  rintro m r ⟨H, n1, W⟩ hr hf ⟨i, U', c, hi, h16, h15, c0, c1, ⟨hW, hK, hn, ru, rq⟩, hul', hsame, hdi, hval⟩
  simp only at hW hK hn ru rq
  subst hn
  obtain ⟨r9, r10, r11, r13⟩ := R
  rw [code_run]
  cases m with
  | zero =>
    have : i = L := by omega
    subst this
    simp (disch := first | (simp; done) | omega | (simp only [dg_length, dgi_length, List.length_cons]; omega) | rfl) [-getElem?_pos, List.getElem?_cons_zero, List.getElem?_cons_succ, A.lb160_1, hr, hf, h16, r10]
    exact ⟨i, U', c, by omega, by simp [h16], by simp [h15], c0, c1, ⟨hW, hK, rfl, ru, rq⟩, hul', hsame, hdi, hval⟩
  | succ m =>
    obtain ⟨y, hy⟩ := get_of_lt (l := Y) (k := i) (by omega)
    have lv := hv.len
    rw [dI_length, hY] at lv
    obtain ⟨b1, b2, b3, b4, b5, z1, z2, z3, z4⟩ := hv.at (dI_get hy)
    have z3 := (hK.get _ z2).trans z3
    have hyd := dY.get hy
    obtain ⟨o, ho⟩ := get_of_lt (l := U') (k := i + j) (by omega)
    have hod := hdi.get ho
    have hi1 : (i : Int) < (L : Int) := by omega
    have hi2 : i < L := by omega
    have p0 : 0 ≤ t * y := Int.mul_nonneg t0 hyd.1
    have p1 : t * y ≤ 1000000000 * 999999999 := Int.mul_le_mul t1 (by omega) hyd.1 (by omega)
    have q1 : (i : Int) + (j : Int) < (U.length : Int) := by omega
    have q2 : i + j < U.length := by omega
    have q3 : (0 : Int) ≤ (i : Int) + (j : Int) := by omega
    have nn : ¬ iu < N := by omega
    have w8 := dI_length U'
    have hsu := vI_set ho
    have hty := vI_take_succ hy
    have hp := pI_add i j
    have hps := pI_succ (j + i)
    generalize hP : t * y = P at *
    have b1' : wrapF .i64 P = P := wrapF_i64 (by omega) (by omega)
    have b2' : wrapF .i64 (P + c) = P + c := wrapF_i64 (by omega) (by omega)
    have t1' : (P + c).tmod 1000000000 = (P + c) % 1000000000 := Int.tmod_eq_emod_of_nonneg (by omega)
    have t2' : (P + c).tdiv 1000000000 = (P + c) / 1000000000 := Int.tdiv_eq_ediv_of_nonneg (by omega)
    have hm := Int.mul_ediv_add_emod (P + c) 1000000000
    have e0 := Int.emod_nonneg (P + c) (b := 1000000000) (by decide)
    have e1 := Int.emod_lt_of_pos (P + c) (b := 1000000000) (by decide)
    have key : ∀ (x' c' : Int), x' - 1000000000 * c' = o - (P + c) → vI (U'.set (i + j) x') - pI (j + (i + 1)) * c' = vI U - pI j * (t * vI (Y.take (i + 1))) := by
      intro x' c' hx
      rw [hsu, hty, show j + (i + 1) = j + i + 1 by omega, hps, show i + j = j + i by omega]
      have h3 : vI U' = vI U - pI j * (t * vI (Y.take i)) + pI (j + i) * c := by omega
      have h4 : x' = o - (P + c) + 1000000000 * c' := by omega
      rw [h3, h4, show j + i = i + j by omega, hp, ← hP]
      grind
    have same : ∀ (x' : Int) (s : Nat), (s < j ∨ j + (i + 1) ≤ s) → (U'.set (i + j) x')[s]? = U[s]? := by
      intro x' s hs
      rw [List.getElem?_set_ne (by omega)]
      exact hsame s (by omega)
    generalize (P + c) / 1000000000 = D at *
    generalize (P + c) % 1000000000 = M at *
    have b3' : wrapF .i64 D = D := wrapF_i64 (by omega) (by omega)
    have b4' : wrapF .i64 (o - M) = o - M := wrapF_i64 (by omega) (by omega)
    have d4 : b1 < n1 := by have := hK.le; omega
    have d5 : ¬ iq = iu := by omega
    by_cases hneg : o - M < 0
    · have b5' : wrapF .i64 (o - M + 1000000000) = o - M + 1000000000 := wrapF_i64 (by omega) (by omega)
      have b6' : wrapF .i64 (D + 1) = D + 1 := wrapF_i64 (by omega) (by omega)
      have w7 := dI_set (l := U') (k := i + j) (v := o - M + 1000000000) (by omega)
      simp (disch := first | (simp; done) | omega | (simp only [dg_length, dgi_length, List.length_cons]; omega) | rfl) [-getElem?_pos, List.getElem?_cons_zero, List.getElem?_cons_succ, A.lb160_1, hr, hf, h16, h15, r9, r10, r11, r13, r14, hi1, hi2, lv, q1, q2, q3, ru, dI_get ho, z1, z2, z3, z4, hP, b1', b2', b3', b4', b5', b6', t1', t2', hneg, w7]
      refine ⟨m, by omega, ⟨i + 1, U'.set (i + j) (o - M + 1000000000), D + 1, by omega, by simp, by simp, by omega, by omega, ⟨by simp [oldIds, hW, nn], hK.set (by omega), rfl, by simp, by simp [d5, rq]⟩, by simp [hul'], same _, hdi.set (by omega) (by omega), key _ _ (by omega)⟩⟩
    · have w7 := dI_set (l := U') (k := i + j) (v := o - M) (by omega)
      simp (disch := first | (simp; done) | omega | (simp only [dg_length, dgi_length, List.length_cons]; omega) | rfl) [-getElem?_pos, List.getElem?_cons_zero, List.getElem?_cons_succ, A.lb160_1, hr, hf, h16, h15, r9, r10, r11, r13, r14, hi1, hi2, lv, q1, q2, q3, ru, dI_get ho, z1, z2, z3, z4, hP, b1', b2', b3', b4', t1', t2', hneg, w7]
      refine ⟨m, by omega, ⟨i + 1, U'.set (i + j) (o - M), D, by omega, by simp, by simp, by omega, by omega, ⟨by simp [oldIds, hW, nn], hK.set (by omega), rfl, by simp, by simp [d5, rq]⟩, by simp [hul'], same _, hdi.set (by omega) (by omega), key _ _ (by omega)⟩⟩
structure AbI (N : Nat) (h2 : T O) (n2 iu iq n : Nat) (U Q Y : List Int) (L j : Nat) (m : Nat) (r : T V) (st : St) : Prop where
  ex : ∃ i U' c, i + m = L ∧ r.get 20 = some (.int .i64 i) ∧ r.get 19 = some (.int .i64 c) ∧ 0 ≤ c ∧ c ≤ 1 ∧ DvS N h2 n2 iu iq n U' Q st ∧ U'.length = U.length ∧ (∀ s, (s < j ∨ j + i ≤ s) → U'[s]? = U[s]?) ∧ (∀ (s : Nat) (d : Int), s ≠ j + L → U'[s]? = some d → 0 ≤ d ∧ d < 1000000000) ∧ vI U' + pI (j + i) * c = vI U + pI j * vI (Y.take i)
theorem add_loop {N : Nat} {h2 : T O} {n2 iu iq n : Nat} {U Q Y : List Int} {L j : Nat} {v : V} {r0 : T V} (hv : Sl h2 n2 v (dI Y)) (hY : Y.length = L) (dY : Di Y) (hjl : j + L < U.length) (hul : U.length < 1099511627776) (R : DvR r0 v iu U.length L j) (a1 : N ≤ n2) (a2 : n2 ≤ iu) (a3 : iu < iq) (a4 : iq < n) :
    ∀ k r st, (∀ t, inD [(19, 21), (148, 174)] t = false → r.get t = r0.get t) → Fx [(19, 21), (148, 174)] r0 206 ⟨r, 206, []⟩ → AbI N h2 n2 iu iq n U Q Y L j k r st → Code A.C none A.lb160_0 ⟨r, 206, []⟩ st (Rd [(19, 21), (148, 174)] r0 206 (AbI N h2 n2 iu iq n U Q Y L j) k (fun e r st => e = .exit 6 ∧ AbI N h2 n2 iu iq n U Q Y L j 0 r st)) := by
  rintro m r ⟨H, n1, W⟩ hr hf ⟨i, U', c, hi, h20, h19, c0, c1, ⟨hW, hK, hn, ru, rq⟩, hul', hsame, hdi, hval⟩
  simp only at hW hK hn ru rq
  subst hn
  obtain ⟨r9, r10, r11, r13⟩ := R
  rw [code_run]
  cases m with
  | zero =>
    have : i = L := by omega
    subst this
    simp (disch := first | (simp; done) | omega | (simp only [dg_length, dgi_length, List.length_cons]; omega) | rfl) [-getElem?_pos, List.getElem?_cons_zero, List.getElem?_cons_succ, A.lb160_0, hr, hf, h20, r10]
    exact ⟨i, U', c, by omega, by simp [h20], by simp [h19], c0, c1, ⟨hW, hK, rfl, ru, rq⟩, hul', hsame, hdi, hval⟩
  | succ m =>
    obtain ⟨y, hy⟩ := get_of_lt (l := Y) (k := i) (by omega)
    have lv := hv.len
    rw [dI_length, hY] at lv
    obtain ⟨b1, b2, b3, b4, b5, z1, z2, z3, z4⟩ := hv.at (dI_get hy)
    have z3 := (hK.get _ z2).trans z3
    have hyd := dY.get hy
    obtain ⟨o, ho⟩ := get_of_lt (l := U') (k := i + j) (by omega)
    have hod := hdi _ _ (by omega) ho
    have hi1 : (i : Int) < (L : Int) := by omega
    have hi2 : i < L := by omega
    have q1 : (i : Int) + (j : Int) < (U.length : Int) := by omega
    have q2 : i + j < U.length := by omega
    have q3 : (0 : Int) ≤ (i : Int) + (j : Int) := by omega
    have nn : ¬ iu < N := by omega
    have w8 := dI_length U'
    have hsu := vI_set ho
    have hty := vI_take_succ hy
    have hp := pI_add i j
    have hps := pI_succ (j + i)
    have b1' : wrapF .i64 (o + y) = o + y := wrapF_i64 (by omega) (by omega)
    have b2' : wrapF .i64 (o + y + c) = o + y + c := wrapF_i64 (by omega) (by omega)
    have t1' : (o + y + c).tmod 1000000000 = (o + y + c) % 1000000000 := Int.tmod_eq_emod_of_nonneg (by omega)
    have t2' : (o + y + c).tdiv 1000000000 = (o + y + c) / 1000000000 := Int.tdiv_eq_ediv_of_nonneg (by omega)
    have hm := Int.mul_ediv_add_emod (o + y + c) 1000000000
    have e0 := Int.emod_nonneg (o + y + c) (b := 1000000000) (by decide)
    have e1 := Int.emod_lt_of_pos (o + y + c) (b := 1000000000) (by decide)
    have w7 := dI_set (l := U') (k := i + j) (v := (o + y + c) % 1000000000) (by omega)
    have d4 : b1 < n1 := by have := hK.le; omega
    have d5 : ¬ iq = iu := by omega
    have d6 : iu < n1 := by omega
    have b3' : wrapF .i64 ((o + y + c) / 1000000000) = (o + y + c) / 1000000000 := wrapF_i64 (by omega) (by omega)
    simp (disch := first | (simp; done) | omega | (simp only [dg_length, dgi_length, List.length_cons]; omega) | rfl) [-getElem?_pos, List.getElem?_cons_zero, List.getElem?_cons_succ, A.lb160_0, hr, hf, h20, h19, r9, r10, r11, r13, hi1, hi2, lv, q1, q2, q3, ru, dI_get ho, z1, z2, z3, z4, b1', b2', b3', t1', t2', w7, d4, d6]
    generalize (o + y + c) / 1000000000 = D at *
    generalize (o + y + c) % 1000000000 = M at *
    refine ⟨m, by omega, ⟨i + 1, U'.set (i + j) M, D, by omega, by simp, by simp, by omega, by omega, ⟨by simp [oldIds, hW, nn], hK.set (by omega), rfl, by simp, by simp [d5, rq]⟩, by simp [hul'], fun s hs => ?_, fun s d hs hd => ?_, ?_⟩⟩
    · rw [List.getElem?_set_ne (by omega)]
      exact hsame s (by omega)
    · by_cases hsi : s = i + j
      · subst hsi
        rw [List.getElem?_set_self (by omega)] at hd
        simp at hd
        omega
      · rw [List.getElem?_set_ne (fun h => hsi h.symm)] at hd
        exact hdi s d hs hd
    · rw [hsu, hty, show j + (i + 1) = j + i + 1 by omega, hps, show i + j = j + i by omega]
      have h3 : vI U' = vI U + pI j * vI (Y.take i) - pI (j + i) * c := by omega
      have h4 : M = o + y + c - 1000000000 * D := by omega
      rw [h3, h4, show j + i = i + j by omega, hp]
      grind

end Go.Mx
