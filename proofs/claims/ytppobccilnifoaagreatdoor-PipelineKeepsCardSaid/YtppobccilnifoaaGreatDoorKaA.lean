/-
  A ring in a heap; Freeze, Lost, New.
-/
import Derived.Test.YtppobccilnifoaaGreatDoorMxAux
import Derived.Test.YtppobccilnifoaaGreatDoorMxRg
set_option linter.all false
namespace Go.Mx
open Go Go.Proofs
set_option maxRecDepth 1000000
def A.b27 : MCode := .seq (.reg [mc 4 0])
 (.seq (.seq (.reg [mv 5 0, ⟨(some 6), .bin .eql (.prim .ptr) true (.tmp 5) (.const .nilptr), none⟩])
 (.cond (.tmp 6)
 (.seq (.reg [mc 4 19])
 (.ret))
 (.skip)))
 (.seq (.reg [mv 7 0, mv 8 1, ⟨(some 9), .nilck (.tmp 7), none⟩, ⟨(some 10), .faddr 1 (.tmp 9), none⟩, so 10 8])
 (.seq (.reg [mc 4 0])
 (.ret))))
theorem A.c27 : cFunc Tryz.prog 27 = some ⟨11, [.tmp 4], A.b27⟩ := by kernel_rfl
def A.k27 {K Q f c args st} := @A.kk 27 _ _ _ A.c27 rfl K Q f c args st
def A.b30 : MCode := .seq (.reg [mc 2 0, mc 3 0])
 (.seq (.seq (.reg [mv 4 0, ⟨(some 5), .bin .eql (.prim .ptr) true (.tmp 4) (.const .nilptr), none⟩])
 (.cond (.tmp 5)
 (.seq (.reg [mc 2 0, mc 3 0])
 (.ret))
 (.skip)))
 (.seq (.regD [mv 6 0, ⟨(some 7), .nilck (.tmp 6), none⟩, ⟨(some 8), .faddr 4 (.tmp 7), none⟩, ld 9 8, mv 10 0, ⟨(some 11), .nilck (.tmp 10), none⟩, ⟨(some 12), .faddr 5 (.tmp 11), none⟩, ld 13 12, mv 2 9, mv 3 13] [0, 1, 3, 7, 0, 16, 48, 112, 15, 511])
 (.ret)))
theorem A.c30 : cFunc Tryz.prog 30 = some ⟨14, [.tmp 2, .tmp 3], A.b30⟩ := by kernel_rfl
def A.k30 {K Q f c args st} := @A.kk 30 _ _ _ A.c30 rfl K Q f c args st
def A.b24 : MCode := .seq (.reg [⟨(some 2), .mov (.const .nilptr), none⟩, mc 3 0])
 (.seq (.seq (.reg [mv 5 0, ⟨(some 6), .call (.const (.func 58 [] [])) [(.tmp 5), (.const (.int .i64 1)), (.const (.int .i64 64))], none⟩, mv 4 6])
 (.seq (.reg [mv 7 4, ⟨(some 8), .bin .neq (.prim .int) true (.tmp 7) (.const (.int .i64 0)), none⟩])
 (.cond (.tmp 8)
 (.seq (.reg [mv 9 4, ⟨(some 2), .mov (.const .nilptr), none⟩, mv 3 9])
 (.ret))
 (.skip))))
 (.seq (.reg [mv 10 0, ⟨(some 11), .build [(.int .i64 0), (.bool false), .nilslice, (.int .i64 0), (.int .i64 0), (.int .i64 0), .nilslice] [(0, 1, (.tmp 10))], none⟩, ⟨(some 12), .box 147 (.tmp 11), none⟩, mv 2 12, mc 3 0])
 (.ret)))
theorem A.c24 : cFunc Tryz.prog 24 = some ⟨13, [.tmp 2, .tmp 3], A.b24⟩ := by kernel_rfl
def A.k24 {K Q f c args st} := @A.kk 24 _ _ _ A.c24 rfl K Q f c args st
structure Rc where
 f : Int
 t : Int
 vs : List Str
structure Lr where
 L : Nat
 C : Nat
 cap : Nat
 buf : List (Int × Int)
 last : Int × Int
 lost : Int
def ntc (p : Int × Int) : V := .agg [.int .i64 p.1, .int .i64 p.2]
def Lr.cells (l : Lr) : List V := [.chan l.C, .int .i64 l.last.1, .int .i64 l.last.2, .int .i64 l.lost]
def Lr.ids (l : Lr) : List Nat := [l.L, l.C]
def rcC (p : Rc × V) : List V := [.int .i64 p.1.f, .int .i64 p.1.t, p.2]
def ptC (l : Lr) : List V := [.ptr l.L 0]
structure RS where
 R : Nat
 cap : Int
 fz : Bool
 vr : V
 rc : List (Rc × V)
 last : Int
 over : Int
 ref : Int
 vl : V
 ls : List Lr
def RS.cells (S : RS) : List V := [.int .i64 S.cap, .bool S.fz, S.vr, .int .i64 S.last, .int .i64 S.over, .int .i64 S.ref, S.vl]
def RS.ids (S : RS) : List Nat := S.R :: (rowV S.vr ++ (rowV S.vl ++ S.ls.flatMap Lr.ids))
structure RI (h : T O) (N : Nat) (S : RS) : Prop where
 r : h.get S.R = some (.cells S.cells 147 true)
 vr : Row 3 78 h S.vr (S.rc.map rcC)
 vl : Row 1 148 h S.vl (S.ls.map ptC)
 l : ∀ l ∈ S.ls, h.get l.L = some (.cells l.cells 151 true) ∧ h.get l.C = some (.chan l.cap (l.buf.map ntc))
 nd : S.ids.Nodup
 lt : ∀ i ∈ S.ids, i < N
 sl : ∀ p ∈ S.rc, Sl h N p.2 (strs p.1.vs) ∧ ∀ i ∈ rowV p.2, i ∉ S.ids
theorem RI.keep {h h' : T O} {N N' : Nat} {S : RS} {D : Nat → Prop} (I : RI h N S) (k : Upd D h N h' N') (hd : ∀ i ∈ S.ids, ¬ D i) (hs : ∀ p ∈ S.rc, ∀ i ∈ rowV p.2, ¬ D i) : RI h' N' S := by
 have g : ∀ i ∈ S.ids, h'.get i = h.get i := fun i hi => k.get i (I.lt i hi) (hd i hi)
 have m1 : ∀ i ∈ rowV S.vr, i ∈ S.ids := fun i hi => by simp [RS.ids, hi]
 have m2 : ∀ i ∈ rowV S.vl, i ∈ S.ids := fun i hi => by simp [RS.ids, hi]
 have m3 : ∀ l ∈ S.ls, ∀ i ∈ l.ids, i ∈ S.ids := fun l hl i hi => by
  simp only [RS.ids, List.mem_cons, List.mem_append, List.mem_flatMap]
  exact .inr (.inr (.inr ⟨l, hl, hi⟩))
 refine ⟨(g _ (by simp [RS.ids])).trans I.r, I.vr.eq fun i hi => g i (m1 i hi), I.vl.eq fun i hi => g i (m2 i hi), fun l hl => ⟨(g _ (m3 l hl _ (by simp [Lr.ids]))).trans (I.l l hl).1, (g _ (m3 l hl _ (by simp [Lr.ids]))).trans (I.l l hl).2⟩, I.nd, fun i hi => Nat.lt_of_lt_of_le (I.lt i hi) k.le, fun p hp => ⟨(I.sl p hp).1.moved k (hs p hp), (I.sl p hp).2⟩⟩
theorem RI.mR {S : RS} : S.R ∈ S.ids := by simp [RS.ids]
theorem RI.mr {S : RS} {i : Nat} (hi : i ∈ rowV S.vr) : i ∈ S.ids := by simp [RS.ids, hi]
theorem RI.ml {S : RS} {i : Nat} (hi : i ∈ rowV S.vl) : i ∈ S.ids := by simp [RS.ids, hi]
theorem RI.mL {S : RS} {l : Lr} (hl : l ∈ S.ls) : l.L ∈ S.ids ∧ l.C ∈ S.ids := by
 simp only [RS.ids, List.mem_cons, List.mem_append, List.mem_flatMap]
 exact ⟨.inr (.inr (.inr ⟨l, hl, by simp [Lr.ids]⟩)), .inr (.inr (.inr ⟨l, hl, by simp [Lr.ids]⟩))⟩
theorem RI.nR {h : T O} {N : Nat} {S : RS} (I : RI h N S) : S.R ∉ rowV S.vr ∧ S.R ∉ rowV S.vl ∧ ∀ l ∈ S.ls, S.R ≠ l.L ∧ S.R ≠ l.C := by
 have := (List.nodup_cons.1 I.nd).1
 simp only [List.mem_append, List.mem_flatMap, not_or, not_exists, not_and] at this
 exact ⟨this.1, this.2.1, fun l hl => ⟨fun hc => this.2.2 l hl (by simp [Lr.ids, hc]), fun hc => this.2.2 l hl (by simp [Lr.ids, hc])⟩⟩
theorem RI.setR {h : T O} {N : Nat} {S : RS} (I : RI h N S) (cap : Int) (fz : Bool) (last over ref : Int) : RI (h.set S.R (.cells (RS.cells { S with cap := cap, fz := fz, last := last, over := over, ref := ref }) 147 true)) N { S with cap := cap, fz := fz, last := last, over := over, ref := ref } := by
 obtain ⟨n1, n2, n3⟩ := I.nR
 refine ⟨by rw [T.get_set, if_pos rfl], I.vr.eq fun i hi => ?_, I.vl.eq fun i hi => ?_, fun l hl => ⟨?_, ?_⟩, I.nd, I.lt, fun p hp => ⟨(I.sl p hp).1.moved (D := fun i => i = S.R) (Upd.refl.set (.inl rfl)) fun i hi hc => (I.sl p hp).2 i hi (hc ▸ RI.mR), (I.sl p hp).2⟩⟩
 ·rw [T.get_set, if_neg (by rintro rfl; exact n1 hi)]
 ·rw [T.get_set, if_neg (by rintro rfl; exact n2 hi)]
 ·rw [T.get_set, if_neg (fun hc => (n3 l hl).1 hc.symm)]; exact (I.l l hl).1
 ·rw [T.get_set, if_neg (fun hc => (n3 l hl).2 hc.symm)]; exact (I.l l hl).2
theorem Row.one {z : Nat} {e : TypeId} {h : T O} {v : V} {l : List (List V)} (s : Row z e h v l) : V.one v = true ∧ V.cells v = [v] := by
 obtain ⟨_, ⟨rfl, rfl⟩ | ⟨i, x, m, rfl, _⟩⟩ := s <;> exact ⟨rfl, rfl⟩
theorem freeze_fn {h : T O} {N : Nat} {S : RS} {b : Bool} (I : RI h N S) : FnD A.C (· ∈ S.ids) 27 [.ptr S.R 0, .bool b] h N (fun v h' n' => v = .int .i64 0 ∧ n' = N ∧ RI h' n' { S with fz := b }) := by
 intro w
 have hI := I.setR S.cap b S.last S.over S.ref
 have hr := I.r
 have o1 := I.vr.one
 have o2 := I.vl.one
 unfold V.one at o1 o2
 unfold V.cells at o1 o2
 unfold RS.cells at hr
 simp only [RS.cells] at hI
 rw [call_run, A.k27 (by simp)]
 simp (disch := first | (simp; done) | omega | rfl) [-getElem?_pos, -oldIds, A.b27, eqPrim, hr, splice, storeK2]
 refine retD_fin ?_ ?_ ?_
 ·simp [RS.ids]
 ·exact Upd.refl.set (.inl (by simp [RS.ids]))
 ·exact ⟨rfl, rfl, hI⟩
theorem lost_eq {h : T O} {N : Nat} {S : RS} (I : RI h N S) {w : List Nat} : A.C.call (.func 30 [] []) [.ptr S.R 0] ⟨h, N, w⟩ = some (.tup [.int .i64 S.over, .int .i64 S.ref], ⟨h, N, w⟩) := by
 apply Call.eq
 have hr := I.r
 have hl := I.lt _ RI.mR
 unfold RS.cells at hr
 rw [call_run, A.k30 (by simp)]
 simp (disch := first | (simp; done) | omega | rfl) [-getElem?_pos, A.b30, eqPrim, hr, partV, pairsOk.chk, hl]
theorem new_ok {c : Int} (h1 : 1 ≤ c) (h2 : c ≤ 64) {h : T O} {N : Nat} : Fn A.C 24 [.int .i64 c] h N (fun v h' n' => v = .tup [.ptr N 0, .int .i64 0] ∧ n' = N + 1 ∧ RI h' n' ⟨N, c, false, .nilslice, [], 0, 0, 0, .nilslice, []⟩) := by
 intro w
 rw [call_run, A.k24 (by simp)]
 have a1 : ¬ (c < 1 ∨ 64 < c) := by omega
 simp (disch := first | (simp; done) | omega | rfl) [-getElem?_pos, A.b24, within_eq, a1, eqPrim, splice, Ret]
 refine ⟨Keeps.refl.new _, ⟨?_, ⟨by simp, .inl ⟨rfl, rfl⟩⟩, ⟨by simp, .inl ⟨rfl, rfl⟩⟩, by simp, by simp [RS.ids, rowV], by simp [RS.ids, rowV], by simp⟩⟩
 simp [RS.cells]
end Go.Mx
namespace Go.Mx
open Go Go.Proofs
set_option maxRecDepth 1000000
def A.lb105_0 : MCode := .seq (.reg [bi 9 .lss 8 7])
 (.seq (.cond (.tmp 9)
 (.skip)
 (.exit 0))
 (.seq (.block 1 (.seq (.reg [mv 10 8, mv 5 10])
 (.seq (.reg [mv 11 1, mv 12 0, mv 13 5, ia 14 1 12 13, ld 15 14, ⟨(some 16), .call (.tmp 11) [(.tmp 15)], none⟩])
 (.cond (.tmp 16)
 (.seq (.reg [mv 17 5, mv 4 17])
 (.ret))
 (.skip)))))
 (.reg [bc 18 .add 8 1, mv 8 18])))
def A.b105 : MCode := .seq (.reg [mc 4 0])
 (.seq (.seq (.reg [mv 6 0, ln 7 6, mc 8 0])
 (.block 0 (.loop A.lb105_0)))
 (.seq (.reg [⟨(some 4), .mov (.const (.int .i64 (-1))), none⟩])
 (.ret)))
theorem A.c105 : cFunc Tryz.prog 105 = some ⟨19, [.tmp 4], A.b105⟩ := by kernel_rfl
def A.k105 {K Q f c args st} := @A.kk 105 _ _ _ A.c105 rfl K Q f c args st
theorem idxLs_fn {h : T O} {N : Nat} {v f : V} (l : List V) (p : Nat → Bool) (hs : Sl h N v l) (hl : l.length < 1152921504606846976) (hf : ∀ (j : Nat) (x : V), l[j]? = some x → ∀ h' n', Keeps h N h' n' → FnV A.C f [x] h' n' (fun u _ _ => u = .bool (p j))) : Fn A.C 105 [v, f] h N (fun u _ _ => u = .int .i64 (firstP p 0 l.length)) := by
 intro w
 have hlen := hs.len
 rw [call_run, A.k105 (by simp)]
 simp (disch := first | (simp; done) | omega | rfl) [-getElem?_pos, A.b105, hlen]
 refine run_loopD [(4, 5), (8, 18)] (fun e r st => oldIds N st.w = [] ∧ Keeps h N st.h st.n ∧ ((e = .exit 0 ∧ firstP p 0 l.length = -1) ∨ (e = .ret ∧ r.get 4 = some (.int .i64 (firstP p 0 l.length))))) (fun m r st => oldIds N st.w = [] ∧ Keeps h N st.h st.n ∧ ∃ k, k + m = l.length ∧ r.get 8 = some (.int .i64 k) ∧ firstP p 0 l.length = firstP p k m) l.length ?_ ?_ ?_
 ·exact ⟨by simp, Keeps.refl, 0, by omega, by simp, rfl⟩
 ·rintro m r ⟨H, n1, W⟩ hr hf2 ⟨hW, hK, k, hk, h8, hz⟩
  simp only at hW hK
  rw [code_run]
  cases m with
  | zero =>
   have : k = l.length := by omega
   subst this
   simp only [firstP] at hz
   simp (disch := first | (simp; done) | omega | rfl) [-getElem?_pos, A.lb105_0, hr, hf2, h8, hW, hK, hz]
  | succ m =>
   have hlt : k < l.length := by omega
   obtain ⟨c, hc⟩ := get_of_lt hlt
   obtain ⟨i, o, cc, e, rw, q1, q2, q3, q4⟩ := hs.at hc
   have q3 := (hK.get _ q2).trans q3
   have hk1 : (k : Int) < (l.length : Int) := by omega
   simp only [firstP] at hz
   simp (disch := first | (simp; done) | omega | rfl) [-getElem?_pos, A.lb105_0, hr, hf2, h8, hk1, hlt, hlen, q1, q3, q4, hW]
   refine run_fnV (hf k c hc _ _ hK) ?_
   rintro v h2 n2 k2 rfl
   have kk := hK.trans k2
   cases hp : p k
   ·rw [hp] at hz
    simp (disch := first | (simp; done) | omega | rfl) [-getElem?_pos, hr, hf2, h8, hW, kk]
    exact ⟨m, by omega, k + 1, by omega, by simp, by simpa using hz⟩
   ·rw [hp] at hz
    simp (disch := first | (simp; done) | omega | rfl) [-getElem?_pos, hr, hf2, h8, hW, kk]
    simpa using hz.symm
 ·rintro e r ⟨H, n1, W⟩ hr ⟨hW, hK, ⟨rfl, hz⟩ | ⟨rfl, h4⟩⟩
  ·simp only at hW hK
   simp (disch := first | (simp; done) | omega | rfl) [-getElem?_pos, hr, hz, Ret, hW, hK]
  ·simp only at hW hK
   simp (disch := first | (simp; done) | omega | rfl) [-getElem?_pos, hr, h4, Ret, hW, hK]
def A.b63 : MCode := .seq (.reg [⟨(some 3), .box 73 (.tmp 1), none⟩, mc 4 0, mc 5 0])
 (.seq (.seq (.reg [mv 7 0, ⟨(some 8), .bin .eql (.prim .ptr) true (.tmp 7) (.const .nilptr), none⟩])
 (.cond (.tmp 8)
 (.seq (.reg [mc 4 0, mc 5 19])
 (.ret))
 (.skip)))
 (.seq (.reg [mv 9 0, ⟨(some 10), .nilck (.tmp 9), none⟩, ⟨(some 11), .faddr 6 (.tmp 10), none⟩, ld 12 11, ⟨(some 13), .mkfunc 106 [] [(.tmp 3)], none⟩, ⟨(some 14), .call (.const (.func 105 [] [])) [(.tmp 12), (.tmp 13)], none⟩, mv 6 14])
 (.seq (.reg [mv 15 6, mv 16 6, bc 17 .lss 16 0, ⟨(some 18), .call (.const (.func 50 [] [])) [(.tmp 17), (.const (.int .i64 10))], none⟩, mv 4 15, mv 5 18])
 (.ret))))
theorem A.c63 : cFunc Tryz.prog 63 = some ⟨19, [.tmp 4, .tmp 5], A.b63⟩ := by kernel_rfl
def A.k63 {K Q f c args st} := @A.kk 63 _ _ _ A.c63 rfl K Q f c args st
def A.b106 : MCode := .seq (.reg [⟨(some 3), .mov (.const (.bool false)), none⟩])
 (.seq (.regD [mv 4 0, ⟨(some 5), .nilck (.tmp 4), none⟩, ⟨(some 6), .faddr 0 (.tmp 5), none⟩, ld 7 6, ld 8 1, ⟨(some 9), .bin .eql (.prim .chan) false (.tmp 7) (.tmp 8), none⟩, mv 3 9] [0, 1, 3, 7, 0, 31, 63])
 (.ret))
theorem A.c106 : cFunc Tryz.prog 106 = some ⟨10, [.tmp 3], A.b106⟩ := by kernel_rfl
def A.k106 {K Q f c args st} := @A.kk 106 _ _ _ A.c106 rfl K Q f c args st
def A.b25 : MCode := .seq (.reg [⟨(some 4), .mov (.const .nilchan), none⟩, mc 5 0])
 (.seq (.seq (.reg [mv 8 0, ⟨(some 9), .bin .eql (.prim .ptr) true (.tmp 8) (.const .nilptr), none⟩])
 (.cond (.tmp 9)
 (.seq (.reg [⟨(some 4), .mov (.const .nilchan), none⟩, mc 5 19])
 (.ret))
 (.skip)))
 (.seq (.seq (.regD [mv 10 1, ⟨(some 11), .call (.const (.func 58 [] [])) [(.tmp 10), (.const (.int .i64 1)), (.const (.int .i64 16))], none⟩, mv 12 0, ⟨(some 13), .nilck (.tmp 12), none⟩, ⟨(some 14), .faddr 6 (.tmp 13), none⟩, ld 15 14, ln 16 15, bc 17 .geq 16 8, ⟨(some 18), .call (.const (.func 50 [] [])) [(.tmp 17), (.const (.int .i64 5))], none⟩, ⟨(some 19), .bslice 26 1 2 [(.int .i64 0), (.int .i64 0)] [(0, 1, (.tmp 11)), (1, 1, (.tmp 18))], none⟩, ⟨(some 20), .call (.const (.func 49 [] [])) [(.tmp 19)], none⟩, mv 6 20] [0, 1, 0, 4, 12, 28, 60, 124, 255, 511, 1023, 2047])
 (.seq (.reg [mv 21 6, ⟨(some 22), .bin .neq (.prim .int) true (.tmp 21) (.const (.int .i64 0)), none⟩])
 (.cond (.tmp 22)
 (.seq (.reg [mv 23 6, ⟨(some 4), .mov (.const .nilchan), none⟩, mv 5 23])
 (.ret))
 (.skip))))
 (.seq (.reg [mv 24 1, ⟨(some 25), .mkchan 16 (.tmp 24), none⟩, ⟨(some 26), .build [.nilchan, (.int .i64 0), (.int .i64 0), (.int .i64 0)] [(0, 1, (.tmp 25))], none⟩, ⟨(some 27), .box 151 (.tmp 26), none⟩, mv 7 27])
 (.seq (.reg [mv 28 0, mv 29 0, ⟨(some 30), .nilck (.tmp 29), none⟩, ⟨(some 31), .faddr 6 (.tmp 30), none⟩, ld 32 31, mv 33 7, ⟨(some 34), .bslice 148 1 1 [.nilptr] [(0, 1, (.tmp 33))], none⟩, ⟨(some 35), .append 1 8 148 [.nilptr] (.tmp 32) (.tmp 34), none⟩, ⟨(some 36), .nilck (.tmp 28), none⟩, ⟨(some 37), .faddr 6 (.tmp 36), none⟩, so 37 35])
 (.seq (.reg [mv 38 7, ⟨(some 39), .nilck (.tmp 38), none⟩, ⟨(some 40), .faddr 0 (.tmp 39), none⟩, ld 41 40, mv 4 41, mc 5 0])
 (.ret))))))
theorem A.c25 : cFunc Tryz.prog 25 = some ⟨42, [.tmp 4, .tmp 5], A.b25⟩ := by kernel_rfl
def A.k25 {K Q f c args st} := @A.kk 25 _ _ _ A.c25 rfl K Q f c args st
def ChOk (h : T O) (N : Nat) (u : V) : Prop := u = .nilchan ∨ ∃ C c b, u = .chan C ∧ C < N ∧ h.get C = some (.chan c b)
theorem ChOk.keep {h h' : T O} {N N' : Nat} {u : V} (s : ChOk h N u) (k : Keeps h N h' N') : ChOk h' N' u := by
 rcases s with s | ⟨C, c, b, h1, h2, h3⟩
 ·exact .inl s
 ·exact .inr ⟨C, c, b, h1, Nat.lt_of_lt_of_le h2 k.le, (k.get C h2).trans h3⟩
def isC (u : V) (C : Nat) : Bool := match u with
 | .chan D => D == C
 | _ => false
def lsAt (ls : List Lr) (u : V) : Int := firstP (fun j => match ls[j]? with | some l => isC u l.C | none => false) 0 ls.length
theorem at1_fn {h : T O} {N q L C cap : Nat} {u : V} {e : TypeId} {rw : Bool} {buf a : List V} {e2 : TypeId} {rw2 : Bool} (hq : h.get q = some (.cells [u] e rw)) (hu : ChOk h N u) (hL : h.get L = some (.cells (.chan C :: a) e2 rw2)) (hC : h.get C = some (.chan cap buf)) (hqN : q < N) (hLN : L < N) : FnV A.C (.func 106 [] [.ptr q 0]) [.ptr L 0] h N (fun v _ _ => v = .bool (isC u C)) := by
 intro w
 rw [call_run, A.k106 (by simp)]
 rcases hu with rfl | ⟨D, c, b, rfl, h2, h3⟩
 ·simp (disch := first | (simp; done) | omega | rfl) [-getElem?_pos, A.b106, hq, hL, partV, eqPrim, pairsOk.chk, Ret, isC, hqN, hLN]
  exact Keeps.refl
 ·have e1 : (C == D) = (D == C) := by rw [Bool.eq_iff_iff, beq_iff_eq, beq_iff_eq]; exact eq_comm
  simp (disch := first | (simp; done) | omega | rfl) [-getElem?_pos, A.b106, hq, hL, partV, chanEq, hC, h3, pairsOk.chk, Ret, isC, hqN, hLN, e1]
  exact Keeps.refl
theorem at_fn {h : T O} {N : Nat} {S : RS} {u : V} (I : RI h N S) (hu : ChOk h N u) (hl : S.ls.length < 1000) : Fn A.C 63 [.ptr S.R 0, u] h N (fun v _ _ => v = .tup [.int .i64 (lsAt S.ls u), .int .i64 (if lsAt S.ls u < 0 then 10 else 0)]) := by
 intro w
 have hR := I.lt S.R RI.mR
 have hvl := I.vl.sn (N := N) fun i hi => I.lt i (RI.ml hi)
 have e1 : S.ls.map ptC = (S.ls.map fun l => V.ptr l.L 0).map fun x => [x] := by simp [ptC]
 rw [e1, Sn.one] at hvl
 have hr := I.r
 unfold RS.cells at hr
 have ho : V.one u = true := by rcases hu with rfl | ⟨_, _, _, rfl, _, _⟩ <;> rfl
 have hoc : V.cells u = [u] := by rcases hu with rfl | ⟨_, _, _, rfl, _, _⟩ <;> rfl
 unfold V.one at ho
 unfold V.cells at hoc
 have kk := Keeps.refl.new (h1 := h) (n1 := N) (.cells [u] 73 true)
 have d1 : ¬ S.R = N := by omega
 rw [call_run, A.k63 (by simp)]
 simp (disch := first | (simp; done) | omega | rfl) [-getElem?_pos, A.b63, eqPrim, ho, hoc, hr, d1, partV]
 refine run_fn (idxLs_fn _ (fun j => match S.ls[j]? with | some l => isC u l.C | none => false) (hvl.keep kk) (by rw [List.length_map]; omega) ?_) ?_
 ·intro j x hx h' n' k'
  have hj : j < S.ls.length := by have := lt_of_get hx; simpa using this
  obtain ⟨l, hl2⟩ := get_of_lt hj
  obtain rfl : V.ptr l.L 0 = x := by simpa [hl2] using hx
  have hm := List.mem_of_getElem? hl2
  obtain ⟨l1, l2⟩ := I.l l hm
  obtain ⟨m1, m2⟩ := RI.mL hm
  have i1 := I.lt _ m1
  have i2 := I.lt _ m2
  have k2 := kk.trans k'
  have := at1_fn (q := N) (u := u) (h := h') (N := n') (L := l.L) (C := l.C) ((k'.get N (by omega)).trans (by rw [T.get_set, if_pos rfl])) (hu.keep k2) ((k2.get _ i1).trans l1) ((k2.get _ i2).trans l2) (by have := k'.le; omega) (by have := k2.le; omega)
  simp only [hl2]
  exact this
 ·rintro _ h2 n2 k2 rfl
  have e2 : firstP (fun j => match S.ls[j]? with | some l => isC u l.C | none => false) 0 (S.ls.map fun l => V.ptr l.L 0).length = lsAt S.ls u := by rw [List.length_map]; rfl
  rw [e2]
  by_cases hz : lsAt S.ls u < 0
  ·simp (disch := first | (simp; done) | omega | rfl) [-getElem?_pos, when_eq, hz, Ret]
   exact kk.trans k2
  ·simp (disch := first | (simp; done) | omega | rfl) [-getElem?_pos, when_eq, hz, Ret]
   exact kk.trans k2
end Go.Mx
namespace Go.Mx
open Go Go.Proofs
set_option maxRecDepth 1000000
theorem sub_ok {h : T O} {N : Nat} {S : RS} {c : Int} (I : RI h N S) (h1 : 1 ≤ c) (h2 : c ≤ 16) (h8 : S.ls.length < 8) : FnD A.C (· ∈ S.ids) 25 [.ptr S.R 0, .int .i64 c] h N (fun v h' n' => ∃ L C vl', N ≤ L ∧ N ≤ C ∧ v = .tup [.chan C, .int .i64 0] ∧ (∀ i ∈ rowV vl', i ∈ rowV S.vl ∨ N ≤ i) ∧ RI h' n' { S with vl := vl', ls := S.ls ++ [⟨L, C, c.toNat, [], (0, 0), 0⟩] }) := by
 intro w
 have hR := I.lt S.R RI.mR
 have hlen := I.vl.len
 have hr := I.r
 unfold RS.cells at hr
 rw [List.length_map] at hlen
 rw [call_run, A.k25 (by simp)]
 have a1 : ¬ (c < 1 ∨ 16 < c) := by omega
 have a2 : ¬ (8 : Int) ≤ S.ls.length := by omega
 have a3 : ¬ 8 ≤ S.ls.length := by omega
 have d0 : ¬ S.R = N := by omega
 have d1 : ¬ S.R = N + 1 := by omega
 have d2 : ¬ S.R = N + 1 + 1 := by omega
 have d3 : ¬ S.R = N + 1 + 1 + 1 := by omega
 simp (disch := first | (simp; done) | omega | rfl) [-getElem?_pos, -oldIds, d0, d1, d2, d3, A.b25, eqPrim, within_eq, when_eq, a1, a2, a3, hr, hR, hlen, splice, pfirst2, firstNZ, partV, pairsOk.chk]
 generalize hH : (((h.set N (.cells [.int .i64 0, .int .i64 0] 26 true)).set (N + 1) (.chan c.toNat [])).set (N + 1 + 1) (.cells [.chan (N + 1), .int .i64 0, .int .i64 0, .int .i64 0] 151 true)).set (N + 1 + 1 + 1) (.cells [.ptr (N + 1 + 1) 0] 148 true) = H
 have kH : Keeps h N H (N + 1 + 1 + 1 + 1) := by
  rw [← hH]
  exact (((Keeps.refl.new _).new _).new _).new _
 have g2 : H.get (N + 1 + 1) = some (.cells [.chan (N + 1), .int .i64 0, .int .i64 0, .int .i64 0] 151 true) := by rw [← hH]; simp
 have g1 : H.get (N + 1) = some (.chan c.toNat []) := by rw [← hH]; simp
 have g3 : H.get (N + 1 + 1 + 1) = some (.cells [.ptr (N + 1 + 1) 0] 148 true) := by rw [← hH]; simp
 obtain ⟨n1, n2, n3⟩ := I.nR
 have lv : ∀ i ∈ rowV S.vl, i < N := fun i hi => I.lt i (RI.ml hi)
 obtain ⟨v', h', N', w', e, q1, q2, q3, q4, q5⟩ := append_row (w := []) (N := N + 1 + 1 + 1 + 1) (bytes := 8) (u := .slice (N + 1 + 1 + 1) 0 1 (some 1) 1) (x := [.ptr (N + 1 + 1) 0]) (I.vl.eq fun i hi => kH.get i (lv i hi)) (fun i hi => by have := lv i hi; omega) (by decide) rfl (by simp [srcCells, St.row, g3, slc]) (by rw [List.length_map]; omega)
 have f0 := (q2.get S.R (by omega) n2).trans ((kH.get _ hR).trans hr)
 have f2 := (q2.get (N + 1 + 1) (by omega) fun hc => by have := lv _ hc; omega).trans g2
 have f1 := (q2.get (N + 1) (by omega) fun hc => by have := lv _ hc; omega).trans g1
 obtain ⟨o1, o2⟩ := q5.one
 unfold V.one at o1
 unfold V.cells at o2
 have kle := q2.le
 have d5 : ¬ N + 1 + 1 = S.R := by omega
 simp (disch := first | (simp; done) | omega | rfl) [-getElem?_pos, -oldIds, e, f0, f2, d5, o1, o2, splice, storeK2, partV]
 have nR' : S.R ∉ rowV v' := fun hc => by
  rcases q3 _ hc with hc | hc
  ·exact n2 hc
  ·omega
 have hm : S.ls.map ptC ++ [[.ptr (N + 1 + 1) 0]] = (S.ls ++ [(⟨N + 1 + 1, N + 1, c.toNat, [], (0, 0), 0⟩ : Lr)]).map ptC := by simp [ptC]
 have U : Upd (fun i => i = S.R ∨ i ∈ rowV S.vl) h N (h'.set S.R (.cells (RS.cells { S with vl := v' }) 147 true)) N' := ((kH.upd.trans (q2.mono fun i _ hi => .inr hi)).set (.inl (.inl rfl)))
 have mL : ∀ l ∈ S.ls, ∀ i ∈ l.ids, i ∈ S.ids ∧ i ≠ S.R ∧ i ∉ rowV S.vl := fun l hl i hi => by
  have nd := I.nd
  have hi2 : i ∈ S.ls.flatMap Lr.ids := List.mem_flatMap.2 ⟨l, hl, hi⟩
  simp only [RS.ids, List.nodup_cons, List.nodup_append, List.mem_append, List.mem_cons, not_or] at nd ⊢
  grind
 refine retD_fin ?_ ?_ ?_
 ·intro i hi hN
  rcases List.mem_cons.1 hi with rfl | hi
  ·exact RI.mR
  ·rcases q1 i hi with hi | hi
   ·simp at hi
   ·exact RI.ml hi
 ·exact U.mono fun i _ hi => by
   rcases hi with rfl | hi
   ·exact RI.mR
   ·exact RI.ml hi
 refine ⟨N + 1 + 1, by omega, N + 1, by omega, rfl, v', fun i hi => (q3 i hi).imp id (by omega), ⟨by rw [T.get_set, if_pos rfl]; rfl, ?_, ?_, ?_, ?_, ?_, ?_⟩⟩
 ·refine I.vr.eq fun i hi => U.get i (I.lt i (RI.mr hi)) ?_
  have nd := I.nd
  simp only [RS.ids, List.nodup_cons, List.nodup_append, List.mem_append, List.mem_cons, not_or] at nd
  grind
 ·rw [← hm]
  exact q5.eq fun i hi => by rw [T.get_set, if_neg (by rintro rfl; exact nR' hi)]
 ·intro l hl
  rcases List.mem_append.1 hl with hl | hl
  ·have a := mL l hl l.L (by simp [Lr.ids])
   have b := mL l hl l.C (by simp [Lr.ids])
   exact ⟨(U.get _ (I.lt _ a.1) (by grind)).trans (I.l l hl).1, (U.get _ (I.lt _ b.1) (by grind)).trans (I.l l hl).2⟩
  ·simp only [List.mem_singleton] at hl
   subst hl
   exact ⟨by rw [T.get_set, if_neg (show ¬ N + 1 + 1 = S.R by omega)]; exact f2, by rw [T.get_set, if_neg (show ¬ N + 1 = S.R by omega)]; exact f1⟩
 ·have := nd_gen (A' := rowV S.vr) (B' := rowV v') (X := [N + 1 + 1, N + 1]) I.nd I.lt (fun i hi => .inl hi) (fun i hi => (q3 i hi).imp id (by omega)) (by have nd := I.nd; simp only [RS.ids, List.nodup_cons, List.nodup_append] at nd; grind) q4 (by simp) (by simp; omega) (fun i hi hn => by have := I.lt i (RI.mr hi); omega) (fun i hi => by have := I.lt i (RI.mr hi); simp; omega) (fun i hi => by
   rcases q3 i hi with hi | hi
   ·have := lv i hi; simp; omega
   ·simp; omega)
  simpa [RS.ids, Lr.ids] using this
 ·intro i hi
  simp only [RS.ids, List.mem_cons, List.mem_append, List.flatMap_append, List.flatMap_cons, List.flatMap_nil, Lr.ids, List.not_mem_nil, or_false] at hi
  rcases hi with rfl | hi | hi | hi | rfl | rfl
  ·omega
  ·have := I.lt i (RI.mr hi); omega
  ·rcases q3 i hi with hi | hi
   ·have := lv i hi; omega
   ·omega
  ·have := I.lt i (by simp only [RS.ids, List.mem_cons, List.mem_append]; exact .inr (.inr (.inr hi))); omega
  ·omega
  ·omega
 ·intro p hp
  obtain ⟨s1, s2⟩ := I.sl p hp
  refine ⟨s1.moved U fun i hi hc => ?_, fun i hi hc => ?_⟩
  ·rcases hc with rfl | hc
   ·exact s2 _ hi RI.mR
   ·exact s2 _ hi (RI.ml hc)
  ·have hiN : i < N := by
    rcases s1 with ⟨_, hv | hv⟩ | ⟨j, _, _, _, _, _, hv, hj, _⟩
    ·rw [hv] at hi; simp [rowV] at hi
    ·rw [hv] at hi; simp [rowV] at hi
    ·rw [hv] at hi; simp [rowV] at hi; omega
   have h2 := s2 i hi
   simp only [RS.ids, List.mem_cons, List.mem_append, List.flatMap_append, List.flatMap_cons, List.flatMap_nil, Lr.ids, List.not_mem_nil, or_false, not_or] at hc h2
   have := q3 i
   grind
end Go.Mx
