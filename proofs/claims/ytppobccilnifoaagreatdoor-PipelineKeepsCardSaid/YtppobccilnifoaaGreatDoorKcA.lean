/-
  PipelineKeeps: behind the records.
-/
import Derived.Test.YtppobccilnifoaaGreatDoorKbC
set_option linter.all false
namespace Go.Mx
open Go Go.Proofs
set_option maxRecDepth 1000000
def A.lb5_0 : MCode := .seq (.reg [bi 200 .lss 199 198])
 (.seq (.cond (.tmp 200)
 (.skip)
 (.exit 4))
 (.seq (.block 5 (.seq (.reg [mv 201 199, mv 22 201])
 (.seq (.regD [mv 202 19, mv 203 22, ia 204 2 202 203, ⟨(some 205), .faddr 0 (.tmp 204), none⟩, ld 206 205, mv 207 0, mv 208 22, ia 209 3 207 208, ⟨(some 210), .faddr 0 (.tmp 209), none⟩, ld 211 210, ⟨(some 212), .bin .neq (.prim .int) false (.tmp 206) (.tmp 211), none⟩] [0, 0, 3, 7, 15, 0, 0, 96, 224, 480, 1023])
 (.cond (.tmp 212)
 (.seq (.reg [⟨(some 6), .mov (.const (.bool false)), none⟩])
 (.ret))
 (.skip)))))
 (.reg [bc 213 .add 199 1, mv 199 213])))
def A.lb5_1 : MCode := .seq (.reg [bi 111 .lss 110 109])
 (.seq (.cond (.tmp 111)
 (.skip)
 (.exit 2))
 (.seq (.block 3 (.seq (.reg [ia 112 3 108 110, ⟨(some 113), .load (some 3) (.tmp 112), none⟩, ⟨(some 15), .alloc [(.int .i64 0), (.int .i64 0), .nilslice] 78, none⟩, ⟨none, .store 3 (.tmp 15) (.tmp 113), none⟩])
 (.seq (.seq (.reg [mv 114 8, ⟨(some 115), .call (.const (.func 27 [] [])) [(.tmp 114), (.const (.bool true))], none⟩, ⟨(some 116), .bin .neq (.prim .int) true (.tmp 115) (.const (.int .i64 0)), none⟩, mv 117 116, ⟨(some 118), .mov (.tmp 8), (some (117, false))⟩, ⟨(some 119), .load (some 3) (.tmp 15), (some (117, false))⟩, ⟨(some 120), .call (.const (.func 28 [] [])) [(.tmp 118), (.tmp 119)], (some (117, false))⟩, ⟨(some 121), .bin .neq (.prim .int) true (.tmp 120) (.const (.int .i64 18)), (some (117, false))⟩, ⟨(some 122), .pick (.tmp 117) (.const (.bool true)) (.tmp 121), none⟩, mv 123 122, ⟨(some 124), .mov (.tmp 8), (some (123, false))⟩, ⟨(some 125), .call (.const (.func 27 [] [])) [(.tmp 124), (.const (.bool false))], (some (123, false))⟩, ⟨(some 126), .bin .neq (.prim .int) true (.tmp 125) (.const (.int .i64 0)), (some (123, false))⟩, ⟨(some 127), .pick (.tmp 123) (.const (.bool true)) (.tmp 126), none⟩, mv 128 127, ⟨(some 129), .mov (.tmp 8), (some (128, false))⟩, ⟨(some 130), .load (some 3) (.tmp 15), (some (128, false))⟩, ⟨(some 131), .call (.const (.func 28 [] [])) [(.tmp 129), (.tmp 130)], (some (128, false))⟩, ⟨(some 132), .bin .neq (.prim .int) true (.tmp 131) (.const (.int .i64 0)), (some (128, false))⟩, ⟨(some 133), .pick (.tmp 128) (.const (.bool true)) (.tmp 132), none⟩, mv 134 133, ⟨(some 135), .mov (.tmp 8), (some (134, false))⟩, ⟨(some 136), .load (some 3) (.tmp 15), (some (134, false))⟩, ⟨(some 137), .call (.const (.func 28 [] [])) [(.tmp 135), (.tmp 136)], (some (134, false))⟩, ⟨(some 138), .bin .neq (.prim .int) true (.tmp 137) (.const (.int .i64 11)), (some (134, false))⟩, ⟨(some 139), .pick (.tmp 134) (.const (.bool true)) (.tmp 138), none⟩])
 (.cond (.tmp 139)
 (.seq (.reg [⟨(some 6), .mov (.const (.bool false)), none⟩])
 (.ret))
 (.skip)))
 (.seq (.reg [mv 141 8, mv 142 10, ⟨(some 143), .call (.const (.func 29 [] [])) [(.tmp 141), (.tmp 142)], none⟩, mv 140 143, xt 144 140 0, xt 145 140 1, xt 146 140 2, mv 16 144, mv 17 145, mv 18 146])
 (.seq (.regD [mv 147 18, ⟨(some 148), .bin .neq (.prim .int) true (.tmp 147) (.const (.int .i64 0)), none⟩, mv 149 148, ⟨(some 150), .mov (.tmp 17), (some (149, false))⟩, ⟨(some 151), .bin .neq (.prim .int) true (.tmp 150) (.const (.int .i64 0)), (some (149, false))⟩, ⟨(some 152), .pick (.tmp 149) (.const (.bool true)) (.tmp 151), none⟩, mv 153 152, ⟨(some 154), .mov (.tmp 16), (some (153, false))⟩, ⟨(some 155), .len 1 (.tmp 154), (some (153, false))⟩, ⟨(some 156), .bin .neq (.prim .int) true (.tmp 155) (.const (.int .i64 1)), (some (153, false))⟩, ⟨(some 157), .pick (.tmp 153) (.const (.bool true)) (.tmp 156), none⟩, mv 158 157, ⟨(some 159), .mov (.tmp 16), (some (158, false))⟩, ⟨(some 160), .iaddrSl 2 (.tmp 159) (.const (.int .i64 0)), (some (158, false))⟩, ⟨(some 161), .load (some 2) (.tmp 160), (some (158, false))⟩, ⟨(some 162), .faddr 0 (.tmp 15), (some (158, false))⟩, ⟨(some 163), .load none (.tmp 162), (some (158, false))⟩, ⟨(some 164), .faddr 1 (.tmp 15), (some (158, false))⟩, ⟨(some 165), .load none (.tmp 164), (some (158, false))⟩, ⟨(some 166), .build [(.int .i64 0), (.int .i64 0)] [(0, 1, (.tmp 163)), (1, 1, (.tmp 165))], (some (158, false))⟩, ⟨(some 167), .bin .neq (.node [(0, none, (.prim .int)), (1, none, (.prim .int))]) false (.tmp 161) (.tmp 166), (some (158, false))⟩, ⟨(some 168), .pick (.tmp 158) (.const (.bool true)) (.tmp 167), none⟩] [0, 1, 3, 7, 15, 31, 63, 127, 255, 511, 1023, 2047, 4095, 8191, 16383, 4095, 36863, 4095, 135167, 495615, 1048575, 2097151])
 (.cond (.tmp 168)
 (.seq (.reg [⟨(some 6), .mov (.const (.bool false)), none⟩])
 (.ret))
 (.skip)))))))
 (.reg [bc 169 .add 110 1, mv 110 169])))
def A.lb5_2 : MCode := .seq (.reg [bi 56 .lss 55 54])
 (.seq (.cond (.tmp 56)
 (.skip)
 (.exit 0))
 (.seq (.block 1 (.seq (.reg [mv 57 55, mv 7 57])
 (.seq (.regD [mv 58 7, bc 59 .gtr 58 0, mv 60 59, ⟨(some 61), .mov (.tmp 0), (some (60, true))⟩, ⟨(some 62), .mov (.tmp 7), (some (60, true))⟩, ⟨(some 63), .iaddrSl 3 (.tmp 61) (.tmp 62), (some (60, true))⟩, ⟨(some 64), .faddr 0 (.tmp 63), (some (60, true))⟩, ⟨(some 65), .load none (.tmp 64), (some (60, true))⟩, ⟨(some 66), .mov (.tmp 0), (some (60, true))⟩, ⟨(some 67), .mov (.tmp 7), (some (60, true))⟩, ⟨(some 68), .bin .sub (.node []) false (.tmp 67) (.const (.int .i64 1)), (some (60, true))⟩, ⟨(some 69), .iaddrSl 3 (.tmp 66) (.tmp 68), (some (60, true))⟩, ⟨(some 70), .faddr 0 (.tmp 69), (some (60, true))⟩, ⟨(some 71), .load none (.tmp 70), (some (60, true))⟩, ⟨(some 72), .bin .leq (.node []) false (.tmp 65) (.tmp 71), (some (60, true))⟩, ⟨(some 73), .pick (.tmp 60) (.tmp 72) (.const (.bool false)), none⟩] [0, 1, 3, 7, 7, 31, 63, 127, 7, 7, 519, 1799, 3847, 7943, 16383, 32767])
 (.cond (.tmp 73)
 (.seq (.reg [⟨(some 74), .call (.const (.func 8 [] [])) [], none⟩, mv 6 74])
 (.ret))
 (.skip)))))
 (.reg [bc 75 .add 55 1, mv 55 75])))
def A.ta5_0 : MCode := .seq (.reg [mv 171 8, mv 172 12, ⟨(some 173), .call (.const (.func 29 [] [])) [(.tmp 171), (.tmp 172)], none⟩, mv 170 173, xt 174 170 0, xt 175 170 1, xt 176 170 2, mv 19 174, mv 20 175, mv 21 176])
 (.seq (.seq (.reg [mv 177 21, ⟨(some 178), .bin .neq (.prim .int) true (.tmp 177) (.const (.int .i64 0)), none⟩, mv 179 178, ⟨(some 180), .mov (.tmp 19), (some (179, false))⟩, ⟨(some 181), .len 1 (.tmp 180), (some (179, false))⟩, ⟨(some 182), .mov (.tmp 2), (some (179, false))⟩, ⟨(some 183), .mov (.tmp 0), (some (179, false))⟩, ⟨(some 184), .len 1 (.tmp 183), (some (179, false))⟩, ⟨(some 185), .mn [(.tmp 182), (.tmp 184)], (some (179, false))⟩, ⟨(some 186), .bin .neq (.prim .int) false (.tmp 181) (.tmp 185), (some (179, false))⟩, ⟨(some 187), .pick (.tmp 179) (.const (.bool true)) (.tmp 186), none⟩, mv 188 187, ⟨(some 189), .mov (.tmp 20), (some (188, false))⟩, ⟨(some 190), .mov (.tmp 0), (some (188, false))⟩, ⟨(some 191), .len 1 (.tmp 190), (some (188, false))⟩, ⟨(some 192), .mov (.tmp 19), (some (188, false))⟩, ⟨(some 193), .len 1 (.tmp 192), (some (188, false))⟩, ⟨(some 194), .bin .sub (.node []) false (.tmp 191) (.tmp 193), (some (188, false))⟩, ⟨(some 195), .bin .neq (.prim .int) false (.tmp 189) (.tmp 194), (some (188, false))⟩, ⟨(some 196), .pick (.tmp 188) (.const (.bool true)) (.tmp 195), none⟩])
 (.cond (.tmp 196)
 (.seq (.reg [⟨(some 6), .mov (.const (.bool false)), none⟩])
 (.ret))
 (.skip)))
 (.seq (.seq (.reg [mv 197 19, ln 198 197, mc 199 0])
 (.block 4 (.loop A.lb5_0)))
 (.seq (.reg [mv 214 0, mv 215 0, ln 216 215, mv 217 1, bi 218 .sub 216 217, ⟨(some 219), .mx [(.const (.int .i64 0)), (.tmp 218)], none⟩, ⟨(some 220), .sliceSl 3 (.tmp 214) (some (.tmp 219)) none none, none⟩, mv 23 220])
 (.seq (.reg [mv 222 8, ⟨(some 223), .call (.const (.func 30 [] [])) [(.tmp 222)], none⟩, mv 221 223, xt 224 221 0, xt 225 221 1, mv 24 224, mv 25 225])
 (.seq (.reg [mv 226 8, ⟨(some 227), .call (.const (.func 33 [] [])) [(.tmp 226)], none⟩, ⟨(some 228), .call (.const (.func 32 [] [])) [(.tmp 227)], none⟩, mv 229 23, ⟨(some 230), .call (.const (.func 31 [] [])) [(.tmp 228), (.tmp 229)], none⟩, mv 231 230, ⟨(some 232), .mov (.tmp 24), (some (231, true))⟩, ⟨(some 233), .mov (.tmp 0), (some (231, true))⟩, ⟨(some 234), .len 1 (.tmp 233), (some (231, true))⟩, ⟨(some 235), .mov (.tmp 23), (some (231, true))⟩, ⟨(some 236), .len 1 (.tmp 235), (some (231, true))⟩, ⟨(some 237), .bin .sub (.node []) false (.tmp 234) (.tmp 236), (some (231, true))⟩, ⟨(some 238), .bin .eql (.prim .int) false (.tmp 232) (.tmp 237), (some (231, true))⟩, ⟨(some 239), .pick (.tmp 231) (.tmp 238) (.const (.bool false)), none⟩, mv 240 239, ⟨(some 241), .mov (.tmp 25), (some (240, true))⟩, ⟨(some 242), .mov (.tmp 0), (some (240, true))⟩, ⟨(some 243), .len 1 (.tmp 242), (some (240, true))⟩, ⟨(some 244), .bin .eql (.prim .int) false (.tmp 241) (.tmp 243), (some (240, true))⟩, ⟨(some 245), .pick (.tmp 240) (.tmp 244) (.const (.bool false)), none⟩, mv 246 245, ⟨(some 247), .call (.const (.func 8 [] [])) [], (some (246, true))⟩, ⟨(some 248), .pick (.tmp 246) (.tmp 247) (.const (.bool false)), none⟩, mv 6 248])
 (.ret))))))
def A.ta5_1 : MCode := .seq (.reg [mv 77 1, ⟨(some 78), .call (.const (.func 24 [] [])) [(.tmp 77)], none⟩, mv 76 78, xt 79 76 0, xt 80 76 1, mv 8 79, mv 9 80])
 (.seq (.seq (.reg [mv 81 9, ⟨(some 82), .bin .neq (.prim .int) true (.tmp 81) (.const (.int .i64 0)), none⟩, mv 83 82, ⟨(some 84), .mov (.tmp 8), (some (83, false))⟩, ⟨(some 85), .bin .eql (.prim .ptr) true (.tmp 84) (.const .nilptr), (some (83, false))⟩, ⟨(some 86), .pick (.tmp 83) (.const (.bool true)) (.tmp 85), none⟩])
 (.cond (.tmp 86)
 (.seq (.reg [⟨(some 6), .mov (.const (.bool false)), none⟩])
 (.ret))
 (.skip)))
 (.seq (.reg [mv 88 8, ⟨(some 89), .call (.const (.func 25 [] [])) [(.tmp 88), (.const (.int .i64 1))], none⟩, mv 87 89, xt 90 87 0, xt 91 87 1, mv 10 90, mv 11 91])
 (.seq (.reg [mv 93 8, mv 94 2, ⟨(some 95), .call (.const (.func 25 [] [])) [(.tmp 93), (.tmp 94)], none⟩, mv 92 95, xt 96 92 0, xt 97 92 1, mv 12 96, mv 13 97])
 (.seq (.seq (.reg [mv 98 11, mv 99 13, bi 100 .add 98 99, ⟨(some 101), .bin .neq (.prim .int) true (.tmp 100) (.const (.int .i64 0)), none⟩, mv 102 101, ⟨(some 103), .mov (.tmp 10), (some (102, false))⟩, ⟨(some 104), .mov (.tmp 12), (some (102, false))⟩, ⟨(some 105), .bin .eql (.prim .chan) false (.tmp 103) (.tmp 104), (some (102, false))⟩, ⟨(some 106), .pick (.tmp 102) (.const (.bool true)) (.tmp 105), none⟩])
 (.cond (.tmp 106)
 (.seq (.reg [⟨(some 6), .mov (.const (.bool false)), none⟩])
 (.ret))
 (.skip)))
 (.seq (.seq (.reg [mv 107 0, ⟨(some 108), .call (.const (.func 26 [] [])) [(.tmp 107)], none⟩, ln 109 108, mc 110 0])
 (.block 2 (.loop A.lb5_1)))
 A.ta5_0)))))
def A.b5 : MCode := .seq (.reg [⟨(some 6), .mov (.const (.bool false)), none⟩])
 (.seq (.seq (.reg [mv 26 0, ln 27 26, bc 28 .gtr 27 20, mv 29 28, ⟨(some 30), .mov (.tmp 0), (some (29, false))⟩, ⟨(some 31), .call (.const (.func 21 [] [])) [(.tmp 30), (.const (.int .i64 20))], (some (29, false))⟩, ⟨(some 32), .un .not (.tmp 31), (some (29, false))⟩, ⟨(some 33), .pick (.tmp 29) (.const (.bool true)) (.tmp 32), none⟩, mv 34 33, ⟨(some 35), .mov (.tmp 0), (some (34, false))⟩, ⟨(some 36), .call (.const (.func 22 [] [])) [(.tmp 35)], (some (34, false))⟩, ⟨(some 37), .bin .neq (.prim .int) true (.tmp 36) (.const (.int .i64 0)), (some (34, false))⟩, ⟨(some 38), .pick (.tmp 34) (.const (.bool true)) (.tmp 37), none⟩, mv 39 38, ⟨(some 40), .mov (.tmp 1), (some (39, false))⟩, ⟨(some 41), .call (.const (.func 23 [] [])) [(.tmp 40)], (some (39, false))⟩, ⟨(some 42), .bin .neq (.prim .int) true (.tmp 41) (.const (.int .i64 0)), (some (39, false))⟩, ⟨(some 43), .pick (.tmp 39) (.const (.bool true)) (.tmp 42), none⟩, mv 44 43, ⟨(some 45), .mov (.tmp 2), (some (44, false))⟩, ⟨(some 46), .bin .lss (.node []) false (.tmp 45) (.const (.int .i64 1)), (some (44, false))⟩, ⟨(some 47), .pick (.tmp 44) (.const (.bool true)) (.tmp 46), none⟩, mv 48 47, ⟨(some 49), .mov (.tmp 2), (some (48, false))⟩, ⟨(some 50), .bin .gtr (.node []) false (.tmp 49) (.const (.int .i64 16)), (some (48, false))⟩, ⟨(some 51), .pick (.tmp 48) (.const (.bool true)) (.tmp 50), none⟩])
 (.cond (.tmp 51)
 (.seq (.reg [⟨(some 52), .call (.const (.func 8 [] [])) [], none⟩, mv 6 52])
 (.ret))
 (.skip)))
 (.seq (.seq (.reg [mv 53 0, ln 54 53, mc 55 0])
 (.block 0 (.loop A.lb5_2)))
 A.ta5_1))
theorem A.c5 : cFunc Tryz.prog 5 = some ⟨249, [.tmp 6], A.b5⟩ := by kernel_rfl
def A.k5 {K Q f c args st} := @A.kk 5 _ _ _ A.c5 rfl K Q f c args st
theorem awake_eq {h : T O} {N : Nat} {w : List Nat} : A.C.call (.func 8 [] []) [] ⟨h, N, w⟩ = some (.bool true, ⟨h, N, w⟩) := by
 rw [Cx.call_eq]
 rfl
theorem minO2 {k : IntKind} {a b : Int} : minO [.int k a, .int k b] = some (.int k (if b < a then b else a)) := rfl
theorem maxO2 {k : IntKind} {a b : Int} : maxO [.int k a, .int k b] = some (.int k (if a < b then b else a)) := rfl
theorem RcS.slice {h : T O} {N : Nat} {v : V} {l : List Rc} {w : List Nat} (s : RcS h N v l) {lo : Nat} (h1 : lo ≤ l.length) : ∃ v', sliceK ⟨h, N, w⟩ 3 (some v) (some (some (.int .i64 lo))) (some none) (some none) = some (v', ⟨h, N, w⟩) ∧ RcS h N v' (l.drop lo) := by
 obtain ⟨cs, g1, g2, g3⟩ := s
 obtain ⟨v', e1, e2⟩ := sliceK_sn (z := 3) (w := w) (by decide) g1 (lo := lo) (hi := cs.length) (by omega) (Nat.le_refl _) (some (.int .i64 lo)) none (.inl rfl) (.inr ⟨rfl, rfl⟩)
 rw [List.take_length] at e2
 refine ⟨v', e1, cs.drop lo, e2, by simp [g2], fun j x hx => ?_⟩
 rw [List.getElem?_drop] at hx
 obtain ⟨u, q1, q2⟩ := g3 _ x hx
 exact ⟨u, by rw [List.getElem?_drop]; exact q1, q2⟩
def prR (x : Rc) : Int × Int := (x.f, x.t)
structure KS (R L1 C1 L2 C2 cap b : Nat) (l : List Rc) (k : Nat) (S : RS) : Prop where
 kR : S.R = R
 kcap : S.cap = cap
 kfz : S.fz = false
 krc : S.rc.map Prod.fst = (l.take k).drop (k - cap)
 klast : ∀ x, l[k]? = some x → S.last < x.f
 kover : S.over = ((k - cap : Nat) : Int)
 kref : S.ref = k
 kls : ∃ q1 q2 : Int × Int, q1.1 ≤ S.last ∧ q2.1 ≤ S.last ∧ S.ls = [⟨L1, C1, 1, [], q1, 0⟩, ⟨L2, C2, b, ((l.take k).take b).map prR, q2, ((k - b : Nat) : Int)⟩]
structure KpA (v : V) (R C2 cap b : Nat) (r : T V) : Prop where
 r0 : r.get 0 = some v
 r1 : r.get 1 = some (.int .i64 cap)
 r2 : r.get 2 = some (.int .i64 b)
 r8 : r.get 8 = some (.ptr R 0)
 r12 : r.get 12 = some (.chan C2)
def Ends (h : T O) (N : Nat) (e : Ex) (fr : Fr) (st : St) : Prop := e = .ret ∧ ∃ r', fr = ⟨r', 249, []⟩ ∧ r'.get 6 = some (.bool true) ∧ (∀ i ∈ st.w, N ≤ i) ∧ Keeps h N st.h st.n
set_option maxHeartbeats 4000000 in
theorem keeps_tail {h H : T O} {N n R L1 C1 L2 C2 cap b : Nat} {v : V} {l : List Rc} {W : List Nat} {S : RS} {r : T V} (hs : RcS h N v l) (hl : l.length ≤ 20) (hx : ∀ x ∈ l, x.vs.length < 1000) (hW : ∀ i ∈ W, N ≤ i) (hK : Keeps h N H n) (I : RI H n S) (hid : ∀ i ∈ S.ids, N ≤ i) (K : KS R L1 C1 L2 C2 cap b l l.length S) (A0 : KpA v R C2 cap b r) (hc1 : 1 ≤ cap) (hc2 : cap ≤ 64) (hb1 : 1 ≤ b) (hb2 : b ≤ 16) :
  Code A.C none A.ta5_0 ⟨r, 249, []⟩ ⟨H, n, W⟩ (Ends h N) := by
 rw [code_run]
 obtain ⟨q1, q2, hq1, hq2, hls⟩ := K.kls
 obtain ⟨a0, a1, a2, a8, a12⟩ := A0
 rw [List.take_length] at hls
 have hlen := hs.len
 have hbl : ((l.take b).map prR).length = min b l.length := by simp
 have hdr := drain_ok (j := 1) (l := ⟨L2, C2, b, (l.take b).map prR, q2, ((l.length - b : Nat) : Int)⟩) I (by rw [hls]; rfl) (by rw [hls]; simp) (by show ((l.take b).map prR).length < 1000; rw [hbl]; omega)
 rw [K.kR] at hdr
 simp (disch := first | (simp; done) | omega | rfl) [-getElem?_pos, A.ta5_0, a8, a12]
 refine run_fnD hdr ?_
 rintro _ h1 n1 w1 hw1 U1 ⟨u, rfl, hu, I1⟩
 have k1 : Keeps h N h1 n1 := ⟨by have := hK.le; have := U1.le; omega, fun i hi => (U1.get i (by have := hK.le; omega) fun hc => by have := hid i hc; omega).trans (hK.get i hi)⟩
 have hlu := hu.len
 rw [List.length_map, hbl] at hlu
 have hs1 := hs.keep k1
 obtain ⟨mm, hmm⟩ : ∃ mm, mm = min b l.length := ⟨_, rfl⟩
 rw [← hmm] at hlu
 have m1 : (if l.length < b then (l.length : Int) else (b : Int)) = (mm : Int) := by split <;> omega
 have m2 : ((l.length - b : Nat) : Int) = (l.length : Int) - (mm : Int) := by omega
 have m3 : mm ≤ l.length := by omega
 have e1 : wrapF .i64 ((l.length : Int) - (mm : Int)) = (l.length : Int) - (mm : Int) := wrapF_i64 (by omega) (by omega)
 rw [m2]
 simp (disch := first | (simp; done) | omega | rfl) [-getElem?_pos, -oldIds, a0, a1, a2, a8, a12, hlu, hlen, eqPrim, op_mn, minO2, m1, e1]
 have hlf : ∀ (f : Nat) (j : Nat) (x : Rc) (c : List V) (o : Nat), True := fun _ _ _ _ _ => trivial
 refine run_loopD [(6, 6), (22, 22), (199, 213)] (fun e r st => st = ⟨h1, n1, w1⟩ ∧ e = .exit 4) (fun m r st => st = ⟨h1, n1, w1⟩ ∧ ∃ k, k + m = mm ∧ r.get 199 = some (.int .i64 k)) mm ?_ ?_ ?_
 ·exact ⟨rfl, 0, by omega, by simp⟩
 ·rintro m r2 _ hr hf ⟨rfl, k, hk, h199⟩
  rw [code_run]
  cases m with
  | zero =>
   obtain rfl : k = mm := by omega
   simp (disch := first | (simp; done) | omega | rfl) [-getElem?_pos, A.lb5_0, hr, hf, h199]
  | succ m =>
   have hlt : k < mm := by omega
   have hk1 : (k : Int) < (mm : Int) := by omega
   have hk2 : (k : Int) < (l.length : Int) := by omega
   have hk3 : k < l.length := by omega
   obtain ⟨x, hx1⟩ := get_of_lt hk3
   have hux : (((l.take b).map prR).map ncC)[k]? = some (ncC (prR x)) := by
    rw [List.getElem?_map, List.getElem?_map, List.getElem?_take, if_pos (by omega), hx1]; rfl
   obtain ⟨i, o, c, e, rw, p1, p2, p3, p4⟩ := hu.at hux
   have p5 := slc_get p4 (f := 0) (by omega)
   simp [ncC, prR] at p5
   obtain ⟨i', o', c', e', rw', y', q1, q2, q3, q4, q5⟩ := hs1.at hx1
   obtain ⟨_, t1, t2, t3⟩ := rc_parts q4
   simp (disch := first | (simp; done) | omega | rfl) [-getElem?_pos, A.lb5_0, hr, hf, h199, hlt, hk1, hk2, hk3, a0, hlu, hlen, p1, p2, p3, p5, q1, q2, q3, t1, eqPrim, pairsOk.chk]
   exact ⟨m, by omega, k + 1, by omega, by simp⟩
 ·rintro _ r2 _ hr ⟨rfl, rfl⟩
  obtain ⟨v', z1, z2⟩ := hs1.slice (w := w1) (lo := l.length - cap) (by omega)
  have e2 : wrapF .i64 ((l.length : Int) - (cap : Int)) = (l.length : Int) - (cap : Int) := wrapF_i64 (by omega) (by omega)
  have e3 : (if cap < l.length then (l.length : Int) - (cap : Int) else 0) = ((l.length - cap : Nat) : Int) := by split <;> omega
  have hlo : A.C.call (.func 30 [] []) [.ptr R 0] ⟨h1, n1, w1⟩ = some (.tup [.int .i64 S.over, .int .i64 S.ref], ⟨h1, n1, w1⟩) := lost_eq I1
  have hkl := z2.len
  rw [List.length_drop] at hkl
  have hrl : (S.rc.map Prod.fst) = l.drop (l.length - cap) := by rw [K.krc, List.take_length]
  have hrn : S.rc.length = l.length - (l.length - cap) := by have := congrArg List.length hrl; simpa using this
  have hrec := records_fn I1 (by show S.rc.length < 1000; omega) (fun p hp => by
   have : p.1 ∈ l.drop (l.length - cap) := by rw [← hrl]; exact List.mem_map.2 ⟨p, hp, rfl⟩
   exact hx _ (List.mem_of_mem_drop this))
  rw [hrl] at hrec
  have e4 : ((l.length - (l.length - cap) : Nat) : Int) = (l.length : Int) - ((l.length - cap : Nat) : Int) := by omega
  simp (disch := first | (simp; done) | omega | rfl) [-getElem?_pos, -oldIds, hr, a0, a1, a2, a8, a12, hlu, hlen, e2, op_mx, maxO2, e3, op_sliceSl_K, evOpt, z1, hlo]
  refine run_fn hrec ?_
  rintro u2 h3 n3 k3 g3
  simp (disch := first | (simp; done) | omega | rfl) [-getElem?_pos, -oldIds]
  refine run_fn (own_fn g3 (by rw [List.length_drop]; omega)) ?_
  rintro u4 h4 n4 k4 g4
  have hsr := fun w => srec_eq (w := w) g4 ((z2.keep k3).keep k4) (by rw [List.length_drop]; omega) (fun x hxm => by have := hx x (List.mem_of_mem_drop hxm); omega)
  have o1 := K.kover
  have o2 := K.kref
  obtain ⟨d, hd⟩ : ∃ d, d = l.length - (l.length - cap) := ⟨_, rfl⟩
  rw [← hd] at hkl
  have e5 : wrapF .i64 ((l.length : Int) - (d : Int)) = S.over := by
   rw [o1, wrapF_i64 (by omega) (by omega)]; omega
  simp (disch := first | (simp; done) | omega | rfl) [-getElem?_pos, -oldIds, hr, a0, hsr, hlen, hkl, e5, o2, eqPrim, awake_eq]
  refine ⟨rfl, _, rfl, by simp, ?_, ?_⟩
  ·intro i hi
   rcases hw1 i hi with hi | hi
   ·exact hW i hi
   ·exact hid i hi
  ·exact (k1.trans k3).trans k4
end Go.Mx
namespace Go.Mx
open Go Go.Proofs
set_option maxRecDepth 1000000
theorem RI.types {h : T O} {N : Nat} {S : RS} (I : RI h N S) {i : Nat} (hi : i ∈ S.ids) {z : List V} {w : Bool} : h.get i ≠ some (.cells z 47 w) := by
 simp only [RS.ids, List.mem_cons, List.mem_append, List.mem_flatMap] at hi
 intro hc
 rcases hi with rfl | hi | hi | ⟨l, hl, hi⟩
 ·rw [I.r] at hc; simp at hc
 ·obtain ⟨_, ⟨_, hv⟩ | ⟨j, x, m, hv, _, hg⟩⟩ := I.vr
  ·rw [hv] at hi; simp [rowV] at hi
  ·rw [hv] at hi; simp [rowV] at hi; subst hi; rw [hg] at hc; simp at hc
 ·obtain ⟨_, ⟨_, hv⟩ | ⟨j, x, m, hv, _, hg⟩⟩ := I.vl
  ·rw [hv] at hi; simp [rowV] at hi
  ·rw [hv] at hi; simp [rowV] at hi; subst hi; rw [hg] at hc; simp at hc
 ·obtain ⟨g1, g2⟩ := I.l l hl
  simp [Lr.ids] at hi
  rcases hi with rfl | rfl
  ·rw [g1] at hc; simp at hc
  ·rw [g2] at hc; simp at hc
theorem RI.sv {h : T O} {N : Nat} {S : RS} (I : RI h N S) {u : V} {x : Rc} (s : SV h N u x) : ∀ i ∈ rowV u, i ∉ S.ids := fun i hi hc => by
 obtain ⟨z, w, hz⟩ := s.2 i hi
 exact I.types hc hz
theorem RI.svm {h h' : T O} {N N' : Nat} {S : RS} (I : RI h N S) {u : V} {x : Rc} (s : SV h N u x) (k : Upd (· ∈ S.ids) h N h' N') : SV h' N' u x :=
 ⟨s.1.moved k (I.sv s), fun i hi => by rw [k.get i (s.1.row_lt i hi) (I.sv s i hi)]; exact s.2 i hi⟩
theorem RI.rctm {h h' : T O} {N N' : Nat} {S : RS} (I : RI h N S) {u : V} {l : List Rc} (s : RcT h N u l) (k : Upd (· ∈ S.ids) h N h' N') (hu : ∀ i ∈ rowV u, i ∉ S.ids) : RcT h' N' u l := by
 obtain ⟨cs, h1, h2, h3⟩ := s
 refine ⟨cs, ?_, h2, fun j x hx => ?_⟩
 ·rcases h1 with h1 | ⟨i, o, cp, c, e, rw, rfl, q2, q3, q4⟩
  ·exact .inl h1
  ·exact .inr ⟨i, o, cp, c, e, rw, rfl, Nat.lt_of_lt_of_le q2 k.le, (k.get i q2 (hu i (by simp [rowV]))).trans q3, q4⟩
 ·obtain ⟨u', a, b⟩ := h3 j x hx
  exact ⟨u', a, I.svm b k⟩
theorem take_two {l : List Rc} {k b : Nat} {x : Rc} (hx : l[k]? = some x) : ((l.take (k + 1)).take b).map prR = if k < b then ((l.take k).take b).map prR ++ [prR x] else ((l.take k).take b).map prR := by
 have hk := lt_of_get hx
 rw [List.take_take, List.take_take]
 split
 ·rw [Nat.min_eq_right (by omega), Nat.min_eq_right (by omega), List.take_add_one, hx]; simp
 ·rw [Nat.min_eq_left (by omega), Nat.min_eq_left (by omega)]
theorem ks_step {R L1 C1 L2 C2 cap b k : Nat} {l : List Rc} {S : RS} {x : Rc} {u vr : V} (K : KS R L1 C1 L2 C2 cap b l k S) (hx : l[k]? = some x) (hasc : ∀ y, l[k + 1]? = some y → x.f < y.f) : KS R L1 C1 L2 C2 cap b l (k + 1) { S with fz := false, ref := S.ref + 1, vr := vr, rc := pushed S.cap S.rc (x, u), last := x.f, over := if S.cap < ((S.rc.length + 1 : Nat) : Int) then S.over + 1 else S.over, ls := (S.ls.map fun l => l.tell (x.f, x.t)).set 0 ⟨L1, C1, 1, [], (x.f, x.t), 0⟩ } := by
 have hk := lt_of_get hx
 obtain ⟨q1, q2, h1, h2, hls⟩ := K.kls
 have hlt := K.klast x hx
 have hrn : S.rc.length = k - (k - cap) := by have := congrArg List.length K.krc; simp at this; omega
 have e1 : l.take (k + 1) = l.take k ++ [x] := by rw [List.take_add_one, hx]; rfl
 refine ⟨K.kR, K.kcap, rfl, ?_, hasc, ?_, by simp [K.kref], (x.f, x.t), if k < b then (x.f, x.t) else q2, Int.le_refl _, by show (if k < b then (x.f, x.t) else q2).1 ≤ x.f; split <;> first | exact Int.le_refl _ | (show q2.1 ≤ x.f; omega), ?_⟩
 ·simp only [pushed, K.kcap, hrn]
  by_cases hc : (cap : Int) < ((k - (k - cap) + 1 : Nat) : Int)
  ·rw [if_pos hc, List.map_drop, List.map_append, K.krc, List.map_singleton, e1]
   have hd : (l.take k).drop (k - cap) ++ [x] = (l.take k ++ [x]).drop (k - cap) := by rw [List.drop_append_of_le_length (by simp; omega)]
   rw [hd, List.drop_drop]
   congr 1; omega
  ·rw [if_neg hc, List.map_append, K.krc, e1]
   have : k + 1 - cap = 0 := by omega
   have h2 : k - cap = 0 := by omega
   simp [this, h2]
 ·simp only [K.kcap, hrn, K.kover]
  split <;> omega
 ·simp only [hls, List.map_cons, List.map_nil, List.set_cons_zero]
  congr 2
  unfold Lr.tell
  have hbl : (((l.take k).take b).map prR).length = min b k := by simp; omega
  simp only [hbl, take_two hx]
  by_cases hkb : k < b
  ·rw [if_pos (by omega), if_pos hkb, if_pos hkb]
   simp only [prR, Lr.mk.injEq, true_and, and_true]
   omega
  ·rw [if_neg (by omega), if_neg hkb, if_neg hkb]
   simp only [Lr.mk.injEq, true_and]
   omega
structure KpB (v u0 : V) (R C1 C2 cap b n : Nat) (r : T V) : Prop extends KpA v R C2 cap b r where
 r10 : r.get 10 = some (.chan C1)
 r108 : r.get 108 = some u0
 r109 : r.get 109 = some (.int .i64 n)
structure KmI (h : T O) (N R L1 C1 L2 C2 cap b : Nat) (u0 : V) (l : List Rc) (m : Nat) (r : T V) (st : St) : Prop where
 ex : ∃ k S, k + m = l.length ∧ r.get 110 = some (.int .i64 k) ∧ (∀ i ∈ st.w, N ≤ i) ∧ Keeps h N st.h st.n ∧ RI st.h st.n S ∧ (∀ i ∈ S.ids, N ≤ i) ∧ RcT st.h st.n u0 l ∧ (∀ i ∈ rowV u0, i ∉ S.ids ∧ i < st.n) ∧ KS R L1 C1 L2 C2 cap b l k S
set_option maxHeartbeats 8000000 in
theorem keeps_round {h : T O} {N R L1 C1 L2 C2 cap b : Nat} {v u0 : V} {l : List Rc} {r0 : T V} (hl : l.length ≤ 20) (hx : ∀ x ∈ l, x.vs.length < 1000 ∧ (∀ s ∈ x.vs, s.length ≤ 100000) ∧ chkRc x = 0) (hasc : ∀ (j : Nat) (x y : Rc), l[j]? = some x → l[j + 1]? = some y → x.f < y.f) (hc1 : 1 ≤ cap) (hc2 : cap ≤ 64) (hb1 : 1 ≤ b) (hb2 : b ≤ 16) (B : KpB v u0 R C1 C2 cap b l.length r0) :
  ∀ m r st, (∀ t, inD [(6, 6), (15, 18), (110, 169)] t = false → r.get t = r0.get t) → Fx [(6, 6), (15, 18), (110, 169)] r0 249 ⟨r, 249, []⟩ → KmI h N R L1 C1 L2 C2 cap b u0 l m r st → Code A.C none A.lb5_1 ⟨r, 249, []⟩ st (Rd [(6, 6), (15, 18), (110, 169)] r0 249 (KmI h N R L1 C1 L2 C2 cap b u0 l) m (fun e r st => e = .exit 2 ∧ KmI h N R L1 C1 L2 C2 cap b u0 l 0 r st)) := by
 rintro m r ⟨H, n1, W⟩ hr hf ⟨k, S, hk, h110, hW, hK, I, hid, hT, hu0, K⟩
 simp only at hW hK I hT hu0
 obtain ⟨⟨b0, b1, b2, b8, b12⟩, b10, b108, b109⟩ := B
 rw [code_run]
 cases m with
 | zero =>
  obtain rfl : k = l.length := by omega
  simp (disch := first | (simp; done) | omega | rfl) [-getElem?_pos, A.lb5_1, hr, hf, h110, b109]
  exact ⟨l.length, S, by omega, by simp [h110], hW, hK, I, hid, hT, hu0, K⟩
 | succ m =>
  have hlt : k < l.length := by omega
  have hk1 : (k : Int) < (l.length : Int) := by omega
  obtain ⟨x, hx1⟩ := get_of_lt hlt
  obtain ⟨x1, x2, x3⟩ := hx x (List.mem_of_getElem? hx1)
  obtain ⟨i, o, c, e, rw, u, q1, q2, q3, q4, q5⟩ := hT.at hx1
  obtain ⟨p1, _⟩ := rc_parts q4
  unfold rcC at p1
  have hlenT := hT.rcs.len
  have o1 := q5.1.form.one
  have o2 := q5.1.form.cells
  unfold V.one at o1
  unfold V.cells at o2
  have kn := hK.le
  obtain ⟨t1, t2, ht1, ht2, hls⟩ := K.kls
  have hkR := K.kR
  subst hkR
  simp (disch := first | (simp; done) | omega | rfl) [-getElem?_pos, -partV, -oldIds, A.lb5_1, hr, hf, h110, b108, b109, b8, hk1, hlt, hlenT, q1, q3, p1, splice, storeK2, o1, o2]
  generalize hHa : (H.set n1 (.cells [.int .i64 0, .int .i64 0, .nilslice] 78 true)).set n1 (.cells [.int .i64 x.f, .int .i64 x.t, u] 78 true) = Ha
  have ka : Keeps H n1 Ha (n1 + 1) := by rw [← hHa]; exact (Keeps.refl.new _).set (Nat.le_refl _)
  have ga : Ha.get n1 = some (.cells [.int .i64 x.f, .int .i64 x.t, u] 78 true) := by rw [← hHa]; simp
  have Ia := I.keep (D := fun _ => False) ka.upd (by simp) (by simp)
  have sa := q5.keep ka
  have hq1 : n1 ∉ S.ids := fun hc => by have := I.lt _ hc; omega
  refine run_fnD (freeze_fn (b := true) Ia) ?_
  rintro _ Hb nb wb hwb Ub ⟨rfl, rfl, Ib⟩
  have gb := (Ub.get n1 (by omega) hq1).trans ga
  have sb := Ia.svm sa Ub
  simp (disch := first | (simp; done) | omega | rfl) [-getElem?_pos, -oldIds, hr, hf, b8, gb, eqPrim, partV, slc]
  have hlast := K.klast x hx1
  have href := K.kref
  have hrn : S.rc.length = k - (k - cap) := by have := congrArg List.length K.krc; simp at this; omega
  have fb := put_frozen Ib sb.1 x1 x2 x3 (by show ¬ x.f ≤ S.last; omega) rfl (by show 0 ≤ S.ref; omega) (by show S.ref < 1000000; omega)
  refine run_fnD fb ?_
  rintro _ Hc nc wc hwc Uc ⟨rfl, Ic⟩
  have lec := Uc.le
  have gc := (Uc.get n1 (by omega) hq1).trans gb
  have sc := Ib.svm sb Uc
  simp (disch := first | (simp; done) | omega | rfl) [-getElem?_pos, -oldIds, hr, hf, b8, eqPrim]
  have fc := freeze_fn (b := false) Ic
  refine run_fnD fc ?_
  rintro _ Hd nd wd hwd Ud ⟨rfl, rfl, Id⟩
  have gd := (Ud.get n1 (by omega) hq1).trans gc
  have sd := Ic.svm sc Ud
  simp (disch := first | (simp; done) | omega | rfl) [-getElem?_pos, -oldIds, hr, hf, b8, gd, eqPrim, partV, slc]
  have fd := put_ok Id sd.1 x1 x2 x3 (by show ¬ x.f ≤ S.last; omega) rfl (by show 0 ≤ S.over; rw [K.kover]; omega) (by show S.over < 1000000; rw [K.kover]; omega) (by show S.rc.length < 1000; omega) (Id.sv sd) (by show S.ls.length < 1000; rw [hls]; simp) (by
   show ∀ l ∈ S.ls, 0 ≤ l.lost ∧ l.lost < 1000000 ∧ l.last.1 < x.f
   rw [hls]
   intro q hq
   simp only [List.mem_cons, List.not_mem_nil, or_false] at hq
   rcases hq with rfl | rfl
   ·exact ⟨Int.le_refl 0, by show (0 : Int) < 1000000; omega, by show t1.1 < x.f; omega⟩
   ·exact ⟨by show (0 : Int) ≤ ((k - b : Nat) : Int); omega, by show ((k - b : Nat) : Int) < 1000000; omega, by show t2.1 < x.f; omega⟩)
  refine run_fnD fd ?_
  rintro _ He ne we hwe Ue ⟨rfl, vr, u', Ie, hvr⟩
  have lee := Ue.le
  have ge := (Ue.get n1 (by omega) hq1).trans gd
  have se := Id.svm sd Ue
  have hide : ∀ i ∈ RS.ids { S with fz := false, ref := S.ref + 1, vr := vr, rc := pushed S.cap S.rc (x, u'), last := x.f, over := if S.cap < ((S.rc.length + 1 : Nat) : Int) then S.over + 1 else S.over, ls := S.ls.map fun l => l.tell (x.f, x.t) }, i ∈ S.ids ∨ nd ≤ i := fun i hi => by
   have e1 := toldL_ids S.ls (x.f, x.t) S.ls.length
   simp only [toldL, List.take_length, List.drop_length, List.append_nil] at e1
   simp only [RS.ids, e1, List.mem_cons, List.mem_append] at hi ⊢
   rcases hi with hi | hi | hi | hi
   ·exact .inl (.inl hi)
   ·rcases hvr i hi with hi | hi
    ·exact .inl (.inr (.inl hi))
    ·exact .inr hi
   ·exact .inl (.inr (.inr (.inl hi)))
   ·exact .inl (.inr (.inr (.inr hi)))
  simp (disch := first | (simp; done) | omega | rfl) [-getElem?_pos, -oldIds, hr, hf, b8, ge, eqPrim, partV, slc]
  have fe := put_bad Ie se.1 x1 x2 (.inr (by show x.f ≤ x.f; omega))
  refine run_fn fe ?_
  rintro _ Hg ng kg rfl
  have leg := kg.le
  have Ig := Ie.keep (D := fun _ => False) kg.upd (by simp) (by simp)
  simp (disch := first | (simp; done) | omega | rfl) [-getElem?_pos, -oldIds, hr, hf, b8, b10, x3, eqPrim]
  have hj0 : (S.ls.map fun l => l.tell (x.f, x.t))[0]? = some ⟨L1, C1, 1, [(x.f, x.t)], (x.f, x.t), 0⟩ := by rw [hls]; simp [Lr.tell]
  have fg := drain_ok (j := 0) Ig hj0 (by show (S.ls.map fun l => l.tell (x.f, x.t)).length < 1000; rw [hls]; simp) (by simp)
  refine run_fnD fg ?_
  rintro _ Hh nh wh hwh Uh ⟨u7, rfl, hu7, Ih⟩
  have leh := Uh.le
  have gh : Hh.get n1 = some (.cells [.int .i64 x.f, .int .i64 x.t, u] 78 true) := by
   rw [Uh.get n1 (by omega) (fun hc => by rcases hide _ hc with hc | hc; exact hq1 hc; omega), kg.get n1 (by omega)]; exact ge
  have hl7 := hu7.len
  obtain ⟨i7, o7, c7, e7, rw7, y1, y2, y3, y4⟩ := hu7.at (j := 0) (x := [.int .i64 x.f, .int .i64 x.t]) rfl
  have y5 := partV_slc y4
  simp only [List.map_cons, List.map_nil, List.length_cons, List.length_nil] at hl7
  have hn1h : n1 < nh := by omega
  simp only [Nat.zero_mul, Nat.add_zero] at y5
  have KK := ks_step (u := u') (vr := vr) K hx1 (hasc k x · hx1)
  simp (disch := first | (simp; done) | omega | rfl) [-getElem?_pos, -oldIds, -partV, hr, hf, eqPrim, hl7, y1, y2, y3, y5, gh, hn1h]
  simp (disch := first | (simp; done) | omega | rfl) [-getElem?_pos, -oldIds, hr, hf, h110, eqPrim, partV, gh, hn1h, splice, eqV, eqParts, pairsOk.chk]
  have UU : Upd (· ∈ S.ids) H n1 He ne := by
   have a1 : Upd (· ∈ S.ids) H n1 Hb (n1 + 1) := ka.upd.trans Ub
   have a2 : Upd (· ∈ S.ids) H n1 Hc nd := a1.trans Uc
   have a3 : Upd (· ∈ S.ids) H n1 Hd nd := a2.trans Ud
   exact a3.trans Ue
  have Ue2 : Upd (· ∈ S.ids) H n1 Hg ng := UU.trans kg.upd
  have UF : Upd (· ∈ S.ids) H n1 Hh nh := Ue2.then Uh fun i hi hc => by
   rcases hide i hc with hc | hc
   ·exact hc
   ·have := lec; omega
  have hTe : RcT He ne u0 l := by
   have a1 := I.rctm hT (ka.upd (D := (· ∈ S.ids))) (fun i hi => (hu0 i hi).1)
   have a2 := Ia.rctm a1 Ub (fun i hi => (hu0 i hi).1)
   have a3 := Ib.rctm a2 Uc (fun i hi => (hu0 i hi).1)
   have a4 := Ic.rctm a3 Ud (fun i hi => (hu0 i hi).1)
   exact Id.rctm a4 Ue (fun i hi => (hu0 i hi).1)
  have hu2 : ∀ i ∈ rowV u0, i ∉ RS.ids { S with fz := false, ref := S.ref + 1, vr := vr, rc := pushed S.cap S.rc (x, u'), last := x.f, over := if S.cap < ((S.rc.length + 1 : Nat) : Int) then S.over + 1 else S.over, ls := S.ls.map fun l => l.tell (x.f, x.t) } := fun i hi hc => by
   have h1 := hu0 i hi
   rcases hide i hc with hc | hc
   ·exact h1.1 hc
   ·have := lec; omega
  have hTg := Ie.rctm hTe (kg.upd (D := fun i => i ∈ RS.ids { S with fz := false, ref := S.ref + 1, vr := vr, rc := pushed S.cap S.rc (x, u'), last := x.f, over := if S.cap < ((S.rc.length + 1 : Nat) : Int) then S.over + 1 else S.over, ls := S.ls.map fun l => l.tell (x.f, x.t) })) hu2
  have hTh := Ig.rctm hTg Uh hu2
  have hidh : ∀ i ∈ RS.ids { S with fz := false, ref := S.ref + 1, vr := vr, rc := pushed S.cap S.rc (x, u'), last := x.f, over := if S.cap < ((S.rc.length + 1 : Nat) : Int) then S.over + 1 else S.over, ls := (S.ls.map fun l => l.tell (x.f, x.t)).set 0 ⟨L1, C1, 1, [], (x.f, x.t), 0⟩ }, i ∈ S.ids ∨ nd ≤ i := fun i hi => by
   refine hide i ?_
   have e : ((S.ls.map fun l => l.tell (x.f, x.t)).set 0 ⟨L1, C1, 1, [], (x.f, x.t), 0⟩).flatMap Lr.ids = (S.ls.map fun l => l.tell (x.f, x.t)).flatMap Lr.ids := by
    rw [hls]; simp [Lr.ids, Lr.tell_ids, Lr.tell]
   simp only [RS.ids, e] at hi ⊢
   exact hi
  refine ⟨m, by omega, k + 1, _, by omega, by simp, ?_, ?_, Ih, fun i hi => ?_, hTh, fun i hi => ⟨fun hc => ?_, ?_⟩, KK⟩
  ·intro i hi
   rcases hwh i hi with hi | hi
   ·rcases hwe i hi with hi | hi
    ·rcases hwd i hi with hi | hi
     ·rcases hwc i hi with hi | hi
      ·rcases hwb i hi with hi | hi
       ·rcases List.mem_cons.1 hi with rfl | hi
        ·omega
        ·exact hW i hi
       ·exact hid i hi
      ·exact hid i hi
     ·exact hid i hi
    ·exact hid i hi
   ·rcases hide i hi with hi | hi
    ·exact hid i hi
    ·have := lec; omega
  ·exact ⟨by have := UF.le; show N ≤ nh; omega, fun i hi => (UF.get i (by omega) fun hc => by have := hid i hc; omega).trans (hK.get i hi)⟩
  ·rcases hidh i hi with hi | hi
   ·exact hid i hi
   ·have := lec; omega
  ·rcases hidh i hc with hc | hc
   ·exact (hu0 i hi).1 hc
   ·have := lec; have := hu0 i hi; omega
  ·have := hu0 i hi; have := UF.le; show i < nh; omega
end Go.Mx
