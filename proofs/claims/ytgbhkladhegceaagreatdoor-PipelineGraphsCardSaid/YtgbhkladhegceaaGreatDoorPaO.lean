/-
  pipeline.operations.
-/
import Derived.Test.YtgbhkladhegceaaGreatDoorPaW
set_option linter.all false
namespace Go.Mx
open Go Go.Proofs
set_option maxRecDepth 1000000
set_option linter.unusedSimpArgs false
set_option linter.unusedVariables false
/-- lenslet/pipeline.operations -/
def A.b90 : MCode := .seq (.reg [⟨(some 0), .mov (.const .nilmap), none⟩])
 (.seq (.reg [⟨(some 1), .mkmap, none⟩, ⟨(some 2), .build [(.int .i64 0), (.int .i64 0)] [(0, 1, (.const (.int .i64 0))), (1, 1, (.const (.int .i64 0)))], none⟩, ⟨(some 3), .build [(.bool false), (.int .i64 0), (.int .i64 0), .nilfunc] [(0, 1, (.const (.bool false))), (1, 2, (.tmp 2)), (3, 1, (.const (.func 135 [] [])))], none⟩, ⟨none, .mapset .str (.tmp 1) (.const (.str [102, 114, 97, 109, 101])) (.tmp 3), none⟩, ⟨(some 4), .build [(.int .i64 0), (.int .i64 0)] [(0, 1, (.const (.int .i64 1))), (1, 1, (.const (.int .i64 16)))], none⟩, ⟨(some 5), .build [(.bool false), (.int .i64 0), (.int .i64 0), .nilfunc] [(0, 1, (.const (.bool false))), (1, 2, (.tmp 4)), (3, 1, (.const (.func 136 [] [])))], none⟩, ⟨none, .mapset .str (.tmp 1) (.const (.str [97, 100, 100])) (.tmp 5), none⟩, ⟨(some 6), .build [(.int .i64 0), (.int .i64 0)] [(0, 1, (.const (.int .i64 1))), (1, 1, (.const (.int .i64 1)))], none⟩, ⟨(some 7), .build [(.bool false), (.int .i64 0), (.int .i64 0), .nilfunc] [(0, 1, (.const (.bool true))), (1, 2, (.tmp 6)), (3, 1, (.const (.func 138 [] [])))], none⟩, ⟨none, .mapset .str (.tmp 1) (.const (.str [115, 99, 97, 108, 101])) (.tmp 7), none⟩, ⟨(some 8), .build [(.int .i64 0), (.int .i64 0)] [(0, 1, (.const (.int .i64 1))), (1, 1, (.const (.int .i64 16)))], none⟩, ⟨(some 9), .build [(.bool false), (.int .i64 0), (.int .i64 0), .nilfunc] [(0, 1, (.const (.bool false))), (1, 2, (.tmp 8)), (3, 1, (.const (.func 140 [] [])))], none⟩, ⟨none, .mapset .str (.tmp 1) (.const (.str [109, 97, 120])) (.tmp 9), none⟩, ⟨(some 10), .build [(.int .i64 0), (.int .i64 0)] [(0, 1, (.const (.int .i64 1))), (1, 1, (.const (.int .i64 1)))], none⟩, ⟨(some 11), .build [(.bool false), (.int .i64 0), (.int .i64 0), .nilfunc] [(0, 1, (.const (.bool false))), (1, 2, (.tmp 10)), (3, 1, (.const (.func 143 [] [])))], none⟩, ⟨none, .mapset .str (.tmp 1) (.const (.str [100, 101, 108, 97, 121])) (.tmp 11), none⟩, ⟨(some 12), .build [(.int .i64 0), (.int .i64 0)] [(0, 1, (.const (.int .i64 1))), (1, 1, (.const (.int .i64 1)))], none⟩, ⟨(some 13), .build [(.bool false), (.int .i64 0), (.int .i64 0), .nilfunc] [(0, 1, (.const (.bool true))), (1, 2, (.tmp 12)), (3, 1, (.const (.func 144 [] [])))], none⟩, ⟨none, .mapset .str (.tmp 1) (.const (.str [115, 117, 109])) (.tmp 13), none⟩, ⟨(some 14), .mov (.tmp 1), none⟩, ⟨(some 0), .mov (.tmp 14), none⟩])
 (.ret))
theorem A.c90 : cFunc Tryz.prog 90 = some ⟨15, [.tmp 0], A.b90⟩ := by kernel_rfl
theorem A.k90 {K : List Kf} {Q : Rs → Prop} {f c args : List V} {st : St} (h : (f ++ args ++ c).length ≤ 15) : Run A.C K (valR (A.C.call (.func 90 f c) args st)) Q ↔ Run A.C (.fin [.tmp 0] st :: K) (exR (A.C.code none A.b90 ⟨setRegs .nil 0 (f ++ args ++ c), 15, []⟩ ⟨st.h, st.n, []⟩)) Q := run_func (A.x0 (f := 90) (by decide)) (mf := ⟨15, [.tmp 0], A.b90⟩) (by rw [A.t]; exact A.c90) h

/-- The map of the operations. -/
def opsM : List (V × V) := [(.str [102, 114, 97, 109, 101], .agg [.bool false, .int .i64 0, .int .i64 0, .func 135 [] []]), (.str [97, 100, 100], .agg [.bool false, .int .i64 1, .int .i64 16, .func 136 [] []]), (.str [115, 99, 97, 108, 101], .agg [.bool true, .int .i64 1, .int .i64 1, .func 138 [] []]), (.str [109, 97, 120], .agg [.bool false, .int .i64 1, .int .i64 16, .func 140 [] []]), (.str [100, 101, 108, 97, 121], .agg [.bool false, .int .i64 1, .int .i64 1, .func 143 [] []]), (.str [115, 117, 109], .agg [.bool true, .int .i64 1, .int .i64 1, .func 144 [] []])]
theorem ops_fn {h : T O} {N : Nat} : Fn A.C 90 [] h N (fun v h' n' => ∃ i, N ≤ i ∧ i < n' ∧ v = .map i ∧ h'.get i = some (.map opsM)) := by
  intro w
  rw [call_run, A.k90 (by simp)]
  simp (disch := first | (simp; done) | omega | (simp only [dg_length, dgi_length, List.length_cons]; omega) | rfl) [-getElem?_pos, List.getElem?_cons_zero, List.getElem?_cons_succ, A.b90, splice, findV, keyEq, Ret, opsM]
  refine ⟨?_, N, Nat.le_refl _, by omega, rfl, by simp⟩
  (refine Keeps.up (n1 := N) ?_ (by omega); repeat (refine Keeps.set (by omega) ?_)); exact Keeps.refl
/-- What is found under a name: its value, and whether there is any. -/
theorem ops_look {st : St} (s : Str) : ∃ f, (f = .nilfunc ∨ ∃ k, f = .func k [] []) ∧ lookR st (.agg [.bool false, .int .i64 0, .int .i64 0, .nilfunc]) true (findV .str (.str s) opsM 0) = some (.tup [.agg [.bool ((opOf s).getD ⟨false, 0, 0⟩).factor, .int .i64 (((opOf s).getD ⟨false, 0, 0⟩).lo : Nat), .int .i64 (((opOf s).getD ⟨false, 0, 0⟩).hi : Nat), f], .bool (opOf s).isSome], st) := by
  unfold opOf opsM
  by_cases h1 : s = [102, 114, 97, 109, 101]
  · subst h1; exact ⟨_, .inr ⟨_, rfl⟩, rfl⟩
  by_cases h2 : s = [97, 100, 100]
  · subst h2; exact ⟨_, .inr ⟨_, rfl⟩, rfl⟩
  by_cases h3 : s = [115, 99, 97, 108, 101]
  · subst h3; exact ⟨_, .inr ⟨_, rfl⟩, rfl⟩
  by_cases h4 : s = [109, 97, 120]
  · subst h4; exact ⟨_, .inr ⟨_, rfl⟩, rfl⟩
  by_cases h5 : s = [100, 101, 108, 97, 121]
  · subst h5; exact ⟨_, .inr ⟨_, rfl⟩, rfl⟩
  by_cases h6 : s = [115, 117, 109]
  · subst h6; exact ⟨_, .inr ⟨_, rfl⟩, rfl⟩
  have e1 : (s == [102, 114, 97, 109, 101]) = false := by simp [h1]
  have e2 : (s == [97, 100, 100]) = false := by simp [h2]
  have e3 : (s == [115, 99, 97, 108, 101]) = false := by simp [h3]
  have e4 : (s == [109, 97, 120]) = false := by simp [h4]
  have e5 : (s == [100, 101, 108, 97, 121]) = false := by simp [h5]
  have e6 : (s == [115, 117, 109]) = false := by simp [h6]
  refine ⟨.nilfunc, .inl rfl, ?_⟩
  simp only [findV, keyEq, e1, e2, e3, e4, e5, e6, h1, h2, h3, h4, h5, h6, if_false]
  rfl

end Go.Mx
/- slices.IndexFunc of stages and strings. -/
namespace Go.Mx
open Go Go.Proofs
set_option maxRecDepth 1000000
set_option linter.unusedSimpArgs false
set_option linter.unusedVariables false
def A.lb133_0 : MCode := .seq (.reg [⟨(some 9), .bin .lss (.node []) false (.tmp 8) (.tmp 7), none⟩])
 (.seq (.cond (.tmp 9)
 (.skip)
 (.exit 0))
 (.seq (.block 1 (.seq (.reg [⟨(some 10), .mov (.tmp 8), none⟩, ⟨(some 5), .mov (.tmp 10), none⟩])
 (.seq (.reg [⟨(some 11), .mov (.tmp 1), none⟩, ⟨(some 12), .mov (.tmp 0), none⟩, ⟨(some 13), .mov (.tmp 5), none⟩, ⟨(some 14), .iaddrSl 5 (.tmp 12) (.tmp 13), none⟩, ⟨(some 15), .load (some 5) (.tmp 14), none⟩, ⟨(some 16), .call (.tmp 11) [(.tmp 15)], none⟩])
 (.cond (.tmp 16)
 (.seq (.reg [⟨(some 17), .mov (.tmp 5), none⟩, ⟨(some 4), .mov (.tmp 17), none⟩])
 (.ret))
 (.skip)))))
 (.reg [⟨(some 18), .bin .add (.node []) false (.tmp 8) (.const (.int .i64 1)), none⟩, ⟨(some 8), .mov (.tmp 18), none⟩])))
/-- slices.IndexFunc[[]lenslet/pipeline.Stage,lenslet/pipeline.Stage] -/
def A.b133 : MCode := .seq (.reg [⟨(some 4), .mov (.const (.int .i64 0)), none⟩])
 (.seq (.seq (.reg [⟨(some 6), .mov (.tmp 0), none⟩, ⟨(some 7), .len 1 (.tmp 6), none⟩, ⟨(some 8), .mov (.const (.int .i64 0)), none⟩])
 (.block 0 (.loop A.lb133_0)))
 (.seq (.reg [⟨(some 4), .mov (.const (.int .i64 (-1))), none⟩])
 (.ret)))
theorem A.c133 : cFunc Tryz.prog 133 = some ⟨19, [.tmp 4], A.b133⟩ := by kernel_rfl
theorem A.k133 {K : List Kf} {Q : Rs → Prop} {f c args : List V} {st : St} (h : (f ++ args ++ c).length ≤ 19) : Run A.C K (valR (A.C.call (.func 133 f c) args st)) Q ↔ Run A.C (.fin [.tmp 4] st :: K) (exR (A.C.code none A.b133 ⟨setRegs .nil 0 (f ++ args ++ c), 19, []⟩ ⟨st.h, st.n, []⟩)) Q := run_func (A.x0 (f := 133) (by decide)) (mf := ⟨19, [.tmp 4], A.b133⟩) (by rw [A.t]; exact A.c133) h

theorem idxStage_fn {h : T O} {N : Nat} {v f : V} (l : List (List V)) (p : Nat → Bool) (hs : Sn 5 h N v l) (hl : l.length < 1152921504606846976) (hf : ∀ (j : Nat) (x : List V), l[j]? = some x → ∀ h' n', Keeps h N h' n' → FnV A.C f [.agg x] h' n' (fun u _ _ => u = .bool (p j))) : Fn A.C 133 [v, f] h N (fun u _ _ => u = .int .i64 (firstP p 0 l.length)) := by
  intro w
  have hlen := hs.len
  rw [call_run, A.k133 (by simp)]
  simp (disch := first | (simp; done) | omega | (simp only [dg_length, dgi_length, List.length_cons]; omega) | rfl) [-getElem?_pos, List.getElem?_cons_zero, List.getElem?_cons_succ, A.b133, hlen]
  refine run_loopD [(4, 5), (8, 18)] (fun e r st => oldIds N st.w = [] ∧ Keeps h N st.h st.n ∧ ((e = .exit 0 ∧ firstP p 0 l.length = -1) ∨ (e = .ret ∧ r.get 4 = some (.int .i64 (firstP p 0 l.length))))) (fun m r st => oldIds N st.w = [] ∧ Keeps h N st.h st.n ∧ ∃ k, k + m = l.length ∧ r.get 8 = some (.int .i64 k) ∧ firstP p 0 l.length = firstP p k m) l.length ?_ ?_ ?_
  · exact ⟨by simp, Keeps.refl, 0, by omega, by simp, rfl⟩
  · rintro m r ⟨H, n1, W⟩ hr hf2 ⟨hW, hK, k, hk, h8, hz⟩
    simp only at hW hK
    rw [code_run]
    cases m with
    | zero =>
      have : k = l.length := by omega
      subst this
      simp only [firstP] at hz
      simp (disch := first | (simp; done) | omega | (simp only [dg_length, dgi_length, List.length_cons]; omega) | rfl) [-getElem?_pos, List.getElem?_cons_zero, List.getElem?_cons_succ, A.lb133_0, hr, hf2, h8, hW, hK, hz]
    | succ m =>
      have hlt : k < l.length := by omega
      obtain ⟨c, hc⟩ := get_of_lt hlt
      obtain ⟨i, o, cc, e, rw, q1, q2, q3, q4⟩ := hs.at hc
      
      have q3 := (hK.get _ q2).trans q3
      have hk1 : (k : Int) < (l.length : Int) := by omega
      simp only [firstP] at hz
      simp (disch := first | (simp; done) | omega | (simp only [dg_length, dgi_length, List.length_cons]; omega) | rfl) [-getElem?_pos, List.getElem?_cons_zero, List.getElem?_cons_succ, A.lb133_0, hr, hf2, h8, hk1, hlt, hlen, q1, q3, q4, hW]
      refine run_fnV (hf k c hc _ _ hK) ?_
      rintro v h2 n2 k2 rfl
      have kk := hK.trans k2
      cases hp : p k
      · rw [hp] at hz
        simp (disch := first | (simp; done) | omega | (simp only [dg_length, dgi_length, List.length_cons]; omega) | rfl) [-getElem?_pos, List.getElem?_cons_zero, List.getElem?_cons_succ, hr, hf2, h8, hW, kk]
        exact ⟨m, by omega, k + 1, by omega, by simp, by simpa using hz⟩
      · rw [hp] at hz
        simp (disch := first | (simp; done) | omega | (simp only [dg_length, dgi_length, List.length_cons]; omega) | rfl) [-getElem?_pos, List.getElem?_cons_zero, List.getElem?_cons_succ, hr, hf2, h8, hW, kk]
        simpa using hz.symm
  · rintro e r ⟨H, n1, W⟩ hr ⟨hW, hK, ⟨rfl, hz⟩ | ⟨rfl, h4⟩⟩
    · simp only at hW hK
      simp (disch := first | (simp; done) | omega | (simp only [dg_length, dgi_length, List.length_cons]; omega) | rfl) [-getElem?_pos, List.getElem?_cons_zero, List.getElem?_cons_succ, hr, hz, Ret, hW, hK]
    · simp only at hW hK
      simp (disch := first | (simp; done) | omega | (simp only [dg_length, dgi_length, List.length_cons]; omega) | rfl) [-getElem?_pos, List.getElem?_cons_zero, List.getElem?_cons_succ, hr, h4, Ret, hW, hK]
def A.lb155_0 : MCode := .seq (.reg [⟨(some 9), .bin .lss (.node []) false (.tmp 8) (.tmp 7), none⟩])
 (.seq (.cond (.tmp 9)
 (.skip)
 (.exit 0))
 (.seq (.block 1 (.seq (.reg [⟨(some 10), .mov (.tmp 8), none⟩, ⟨(some 5), .mov (.tmp 10), none⟩])
 (.seq (.reg [⟨(some 11), .mov (.tmp 1), none⟩, ⟨(some 12), .mov (.tmp 0), none⟩, ⟨(some 13), .mov (.tmp 5), none⟩, ⟨(some 14), .iaddrSl 1 (.tmp 12) (.tmp 13), none⟩, ⟨(some 15), .load none (.tmp 14), none⟩, ⟨(some 16), .call (.tmp 11) [(.tmp 15)], none⟩])
 (.cond (.tmp 16)
 (.seq (.reg [⟨(some 17), .mov (.tmp 5), none⟩, ⟨(some 4), .mov (.tmp 17), none⟩])
 (.ret))
 (.skip)))))
 (.reg [⟨(some 18), .bin .add (.node []) false (.tmp 8) (.const (.int .i64 1)), none⟩, ⟨(some 8), .mov (.tmp 18), none⟩])))
/-- slices.IndexFunc[[]string,string] -/
def A.b155 : MCode := .seq (.reg [⟨(some 4), .mov (.const (.int .i64 0)), none⟩])
 (.seq (.seq (.reg [⟨(some 6), .mov (.tmp 0), none⟩, ⟨(some 7), .len 1 (.tmp 6), none⟩, ⟨(some 8), .mov (.const (.int .i64 0)), none⟩])
 (.block 0 (.loop A.lb155_0)))
 (.seq (.reg [⟨(some 4), .mov (.const (.int .i64 (-1))), none⟩])
 (.ret)))
theorem A.c155 : cFunc Tryz.prog 155 = some ⟨19, [.tmp 4], A.b155⟩ := by kernel_rfl
theorem A.k155 {K : List Kf} {Q : Rs → Prop} {f c args : List V} {st : St} (h : (f ++ args ++ c).length ≤ 19) : Run A.C K (valR (A.C.call (.func 155 f c) args st)) Q ↔ Run A.C (.fin [.tmp 4] st :: K) (exR (A.C.code none A.b155 ⟨setRegs .nil 0 (f ++ args ++ c), 19, []⟩ ⟨st.h, st.n, []⟩)) Q := run_func (A.x0 (f := 155) (by decide)) (mf := ⟨19, [.tmp 4], A.b155⟩) (by rw [A.t]; exact A.c155) h

theorem idxStr_fn {h : T O} {N : Nat} {v f : V} (l : List V) (p : Nat → Bool) (hs : Sl h N v l) (hl : l.length < 1152921504606846976) (hf : ∀ (j : Nat) (x : V), l[j]? = some x → ∀ h' n', Keeps h N h' n' → FnV A.C f [x] h' n' (fun u _ _ => u = .bool (p j))) : Fn A.C 155 [v, f] h N (fun u _ _ => u = .int .i64 (firstP p 0 l.length)) := by
  intro w
  have hlen := hs.len
  rw [call_run, A.k155 (by simp)]
  simp (disch := first | (simp; done) | omega | (simp only [dg_length, dgi_length, List.length_cons]; omega) | rfl) [-getElem?_pos, List.getElem?_cons_zero, List.getElem?_cons_succ, A.b155, hlen]
  refine run_loopD [(4, 5), (8, 18)] (fun e r st => oldIds N st.w = [] ∧ Keeps h N st.h st.n ∧ ((e = .exit 0 ∧ firstP p 0 l.length = -1) ∨ (e = .ret ∧ r.get 4 = some (.int .i64 (firstP p 0 l.length))))) (fun m r st => oldIds N st.w = [] ∧ Keeps h N st.h st.n ∧ ∃ k, k + m = l.length ∧ r.get 8 = some (.int .i64 k) ∧ firstP p 0 l.length = firstP p k m) l.length ?_ ?_ ?_
  · exact ⟨by simp, Keeps.refl, 0, by omega, by simp, rfl⟩
  · rintro m r ⟨H, n1, W⟩ hr hf2 ⟨hW, hK, k, hk, h8, hz⟩
    simp only at hW hK
    rw [code_run]
    cases m with
    | zero =>
      have : k = l.length := by omega
      subst this
      simp only [firstP] at hz
      simp (disch := first | (simp; done) | omega | (simp only [dg_length, dgi_length, List.length_cons]; omega) | rfl) [-getElem?_pos, List.getElem?_cons_zero, List.getElem?_cons_succ, A.lb155_0, hr, hf2, h8, hW, hK, hz]
    | succ m =>
      have hlt : k < l.length := by omega
      obtain ⟨c, hc⟩ := get_of_lt hlt
      obtain ⟨i, o, cc, e, rw, q1, q2, q3, q4⟩ := hs.at hc
      
      have q3 := (hK.get _ q2).trans q3
      have hk1 : (k : Int) < (l.length : Int) := by omega
      simp only [firstP] at hz
      simp (disch := first | (simp; done) | omega | (simp only [dg_length, dgi_length, List.length_cons]; omega) | rfl) [-getElem?_pos, List.getElem?_cons_zero, List.getElem?_cons_succ, A.lb155_0, hr, hf2, h8, hk1, hlt, hlen, q1, q3, q4, hW]
      refine run_fnV (hf k c hc _ _ hK) ?_
      rintro v h2 n2 k2 rfl
      have kk := hK.trans k2
      cases hp : p k
      · rw [hp] at hz
        simp (disch := first | (simp; done) | omega | (simp only [dg_length, dgi_length, List.length_cons]; omega) | rfl) [-getElem?_pos, List.getElem?_cons_zero, List.getElem?_cons_succ, hr, hf2, h8, hW, kk]
        exact ⟨m, by omega, k + 1, by omega, by simp, by simpa using hz⟩
      · rw [hp] at hz
        simp (disch := first | (simp; done) | omega | (simp only [dg_length, dgi_length, List.length_cons]; omega) | rfl) [-getElem?_pos, List.getElem?_cons_zero, List.getElem?_cons_succ, hr, hf2, h8, hW, kk]
        simpa using hz.symm
  · rintro e r ⟨H, n1, W⟩ hr ⟨hW, hK, ⟨rfl, hz⟩ | ⟨rfl, h4⟩⟩
    · simp only at hW hK
      simp (disch := first | (simp; done) | omega | (simp only [dg_length, dgi_length, List.length_cons]; omega) | rfl) [-getElem?_pos, List.getElem?_cons_zero, List.getElem?_cons_succ, hr, hz, Ret, hW, hK]
    · simp only at hW hK
      simp (disch := first | (simp; done) | omega | (simp only [dg_length, dgi_length, List.length_cons]; omega) | rfl) [-getElem?_pos, List.getElem?_cons_zero, List.getElem?_cons_succ, hr, h4, Ret, hW, hK]
/-- slices.ContainsFunc[[]string,string] -/
def A.b92 : MCode := .seq (.reg [⟨(some 4), .mov (.const (.bool false)), none⟩])
 (.seq (.reg [⟨(some 5), .mov (.tmp 0), none⟩, ⟨(some 6), .mov (.tmp 1), none⟩, ⟨(some 7), .call (.const (.func 155 [] [])) [(.tmp 5), (.tmp 6)], none⟩, ⟨(some 8), .bin .geq (.node []) false (.tmp 7) (.const (.int .i64 0)), none⟩, ⟨(some 4), .mov (.tmp 8), none⟩])
 (.ret))
theorem A.c92 : cFunc Tryz.prog 92 = some ⟨9, [.tmp 4], A.b92⟩ := by kernel_rfl
theorem A.k92 {K : List Kf} {Q : Rs → Prop} {f c args : List V} {st : St} (h : (f ++ args ++ c).length ≤ 9) : Run A.C K (valR (A.C.call (.func 92 f c) args st)) Q ↔ Run A.C (.fin [.tmp 4] st :: K) (exR (A.C.code none A.b92 ⟨setRegs .nil 0 (f ++ args ++ c), 9, []⟩ ⟨st.h, st.n, []⟩)) Q := run_func (A.x0 (f := 92) (by decide)) (mf := ⟨9, [.tmp 4], A.b92⟩) (by rw [A.t]; exact A.c92) h

theorem contStr_fn {h : T O} {N : Nat} {v f : V} (l : List V) (p : Nat → Bool) (hs : Sl h N v l) (hl : l.length < 1152921504606846976) (hf : ∀ (j : Nat) (x : V), l[j]? = some x → ∀ h' n', Keeps h N h' n' → FnV A.C f [x] h' n' (fun u _ _ => u = .bool (p j))) : Fn A.C 92 [v, f] h N (fun u _ _ => u = .bool (decide (0 ≤ firstP p 0 l.length))) := by
  intro w
  rw [call_run, A.k92 (by simp)]
  simp (disch := first | (simp; done) | omega | (simp only [dg_length, dgi_length, List.length_cons]; omega) | rfl) [-getElem?_pos, List.getElem?_cons_zero, List.getElem?_cons_succ, A.b92]
  refine run_fn (idxStr_fn l p hs hl hf) ?_
  rintro v h2 n2 k2 rfl
  simp (disch := first | (simp; done) | omega | (simp only [dg_length, dgi_length, List.length_cons]; omega) | rfl) [-getElem?_pos, List.getElem?_cons_zero, List.getElem?_cons_succ, Ret, k2]

end Go.Mx
/- pipeline.find. -/
namespace Go.Mx
open Go Go.Proofs
set_option maxRecDepth 1000000
set_option linter.unusedSimpArgs false
set_option linter.unusedVariables false
/-- lenslet/pipeline.find -/
def A.b87 : MCode := .seq (.reg [⟨(some 3), .box 9 (.tmp 1), none⟩, ⟨(some 4), .mov (.const (.int .i64 0)), none⟩])
 (.seq (.reg [⟨(some 5), .mov (.tmp 0), none⟩, ⟨(some 6), .mkfunc 134 [] [(.tmp 3)], none⟩, ⟨(some 7), .call (.const (.func 133 [] [])) [(.tmp 5), (.tmp 6)], none⟩, ⟨(some 4), .mov (.tmp 7), none⟩])
 (.ret))
theorem A.c87 : cFunc Tryz.prog 87 = some ⟨8, [.tmp 4], A.b87⟩ := by kernel_rfl
theorem A.k87 {K : List Kf} {Q : Rs → Prop} {f c args : List V} {st : St} (h : (f ++ args ++ c).length ≤ 8) : Run A.C K (valR (A.C.call (.func 87 f c) args st)) Q ↔ Run A.C (.fin [.tmp 4] st :: K) (exR (A.C.code none A.b87 ⟨setRegs .nil 0 (f ++ args ++ c), 8, []⟩ ⟨st.h, st.n, []⟩)) Q := run_func (A.x0 (f := 87) (by decide)) (mf := ⟨8, [.tmp 4], A.b87⟩) (by rw [A.t]; exact A.c87) h
/-- lenslet/pipeline.find$1 -/
def A.b134 : MCode := .seq (.reg [⟨(some 2), .box 126 (.tmp 0), none⟩, ⟨(some 3), .mov (.const (.bool false)), none⟩])
 (.seq (.reg [⟨(some 4), .faddr 0 (.tmp 2), none⟩, ⟨(some 5), .load none (.tmp 4), none⟩, ⟨(some 6), .load none (.tmp 1), none⟩, ⟨(some 7), .bin .eql (.prim .str) false (.tmp 5) (.tmp 6), none⟩, ⟨(some 3), .mov (.tmp 7), none⟩])
 (.ret))
theorem A.c134 : cFunc Tryz.prog 134 = some ⟨8, [.tmp 3], A.b134⟩ := by kernel_rfl
theorem A.k134 {K : List Kf} {Q : Rs → Prop} {f c args : List V} {st : St} (h : (f ++ args ++ c).length ≤ 8) : Run A.C K (valR (A.C.call (.func 134 f c) args st)) Q ↔ Run A.C (.fin [.tmp 3] st :: K) (exR (A.C.code none A.b134 ⟨setRegs .nil 0 (f ++ args ++ c), 8, []⟩ ⟨st.h, st.n, []⟩)) Q := run_func (A.x0 (f := 134) (by decide)) (mf := ⟨8, [.tmp 3], A.b134⟩) (by rw [A.t]; exact A.c134) h

theorem find1_fn {h : T O} {N : Nat} {s : Stg} {inp : V} {n : Str} {q : Nat} {e : TypeId} {rw : Bool} (hq : h.get q = some (.cells [.str n] e rw)) (hlt : q < N) (hi : SlF inp) : FnV A.C (.func 134 [] [.ptr q 0]) [.agg (stgC s inp)] h N (fun u _ _ => u = .bool (decide (s.name = n))) := by
  intro w
  rw [call_run, A.k134 (by simp)]
  have d1 : ¬ q = N := by omega
  have e1 : (s.name == n) = decide (s.name = n) := by rw [Bool.eq_iff_iff]; simp
  rcases hi with rfl | rfl | ⟨_, _, _, _, _, rfl⟩
  all_goals
    simp (disch := first | (simp; done) | omega | (simp only [dg_length, dgi_length, List.length_cons]; omega) | rfl) [-getElem?_pos, List.getElem?_cons_zero, List.getElem?_cons_succ, A.b134, stgC, hq, d1, partV, Ret, eqPrim, e1]
    exact Keeps.refl.new _
theorem find_fn {h : T O} {N : Nat} {v : V} {g : List Stg} {n : Str} (hg : Gr h N v g) (hl : g.length < 1000000) : Fn A.C 87 [v, .str n] h N (fun u _ _ => u = .int .i64 (posI g n)) := by
  intro w
  obtain ⟨l, g1, g2, g3⟩ := hg
  rw [call_run, A.k87 (by simp)]
  simp (disch := first | (simp; done) | omega | (simp only [dg_length, dgi_length, List.length_cons]; omega) | rfl) [-getElem?_pos, List.getElem?_cons_zero, List.getElem?_cons_succ, A.b87]
  have k0 : Keeps h N (h.set N (.cells [.str n] 9 true)) (N + 1) := (Keeps.refl.set (Nat.le_refl N)).up (Nat.le_succ N)
  refine run_fn (idxStage_fn l (fun j => decide ((g[j]?.map Stg.name) = some n)) (g1.keep k0) (by omega) ?_) ?_
  · intro j x hx h' n' hk
    have hj : j < g.length := by rw [← g2]; exact lt_of_get hx
    obtain ⟨s, hs⟩ := get_of_lt hj
    obtain ⟨inp, i1, i2⟩ := g3 j s hs
    rw [hx] at i1
    obtain rfl : x = stgC s inp := by simpa using i1
    have := find1_fn (s := s) (inp := inp) (n := n) (q := N) (h := h') (N := n') (e := 9) (rw := true) (by rw [hk.get _ (by omega)]; simp) (by have := hk.le; omega) i2.form
    simpa [hs] using this
  · rintro v h2 n2 k2 rfl
    rw [g2, firstP_pos (n := n) g 0 (fun j s hs => by simp [hs])]
    simp (disch := first | (simp; done) | omega | (simp only [dg_length, dgi_length, List.length_cons]; omega) | rfl) [-getElem?_pos, List.getElem?_cons_zero, List.getElem?_cons_succ, Ret, posI]
    exact k0.trans k2

end Go.Mx
