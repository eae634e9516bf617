/-
  The operations of M stand for the Go model's: strings and bytes; the builtins that only read.
-/
import Derived.Test.YtgbhkladhegceaaGreatDoorMxOpB
import Derived.Laws.IdiomStrings
import Derived.Lib.Bytealg
import Derived.Shelf.Spec.BitsCarry
set_option linter.all false
namespace Go.Mx
open Go

section
variable {P : Program} {μ : Mu} {w : World} {st st' : St} {r : T V} {n : Nat} {a : Act} {call : CallT} {v : V}

theorem HRel.drew' (h : HRel P μ w st) : HRel P μ w.drew st := h.drew (w.drawn + 1)

theorem Stp.undrew {μ' : Mu} {w' : World} {ws : List Nat} (h : Stp P μ w.drew st μ' w' st' ws) : Stp P μ w st μ' w' st' ws :=
  ⟨h.hr, h.ext, h.nle, h.wl, ⟨h.chg.os, h.chg.tape, h.chg.output, h.chg.size, h.chg.block⟩, h.new, h.keep, h.grow, h.full, h.wrt⟩

theorem Stp.newRow (hh : HRel P μ w st) {cs : List V} {xs : List Value} {e : TypeId} {lo hi : Nat}
    (hle : cs.length ≤ xs.length) (hc : ∀ (j : Nat) (u : V), cs[j]? = some u → ∃ x, xs[j]? = some x ∧ VR μ u x) (h1 : ∀ x ∈ xs, x.oneCell' = true) (hf : xs.length ≤ lo ∨ hi ≤ lo) :
    Stp P μ w st (fun i => if i = st.n then some ⟨w.heap.size, 0, xs.length⟩ else μ i) (w.alloc (.cells ⟨xs⟩ e (lo, hi))) (st.alloc (.cells cs e true)) [] := by
  have hmono : ∀ i l, μ i = some l → (fun i => if i = st.n then some (⟨w.heap.size, 0, xs.length⟩ : L) else μ i) i = some l := fun i l hl => by
    have := (hh.dom i l hl).1
    simp only
    rw [if_neg (by omega)]; exact hl
  refine Stp.alloc hh (.cells cs e true) (.cells ⟨xs⟩ e (lo, hi)) 0 xs.length ⟨⟨xs⟩, lo, hi, ?_, by simp, hle, fun j u hu => ?_, fun j y _ hy => ?_, fun _ j hj => by simp only at hj ⊢; omega⟩
  · simp
  · obtain ⟨y, hy, hr⟩ := hc j u hu
    exact ⟨y, by simpa using hy, VR.mono hmono u y hr⟩
  · exact h1 y (List.mem_of_getElem? (by simpa using hy))

theorem OpOk.newRowD (hh : HRel P μ w st) {s : Sem Value} {x : Value} {cs : List V} {xs : List Value} {e : TypeId} {lo hi : Nat} (hs : s.run P w = .ok x (w.drew.alloc (.cells ⟨xs⟩ e (lo, hi))))
    (hle : cs.length ≤ xs.length) (hc : ∀ (j : Nat) (u : V), cs[j]? = some u → ∃ x, xs[j]? = some x ∧ VR μ u x) (h1 : ∀ x ∈ xs, x.oneCell' = true) (hf : xs.length ≤ lo ∨ hi ≤ lo)
    (hv : VR (fun i => if i = st.n then some ⟨w.heap.size, 0, xs.length⟩ else μ i) v x) :
    OpOk P μ w st (do pure (.value (← s))) v (st.alloc (.cells cs e true)) :=
  ⟨Next.value x, x, _, _, [], by simp only [Sem.run_bind, hs, Result.andThen, Sem.run_pure], .inl rfl, hv, (Stp.newRow hh.drew' hle hc h1 hf (hi := hi)).undrew⟩

theorem strBytes_ok (hh : HRel P μ w st) (hr : RR μ r n a.tmps) {src dst e : TypeId} {x : Operand} {s : Src} (hs : P.underlying src = some .string) (hd : P.underlying dst = some (.slice e)) (he : P.underlying e = some (.int .u8)) (hx : cSrc P x = some s)
    (h : op_strBytes e s call r st = some (v, st')) : OpOk P μ w st (do pure (.value (← convert src dst (a.eval x)))) v st' := by
  unfold op_strBytes at h
  split at h
  · rename_i m hm
    simp only [Option.some.injEq, Prod.mk.injEq] at h
    obtain ⟨rfl, rfl⟩ := h
    have h1 := ev_sim hh hr hx hm
    simp only [VR] at h1
    have hrun := run_bytes_of_string (P := P) w src dst e ⟨m.toArray⟩ hs hd he
    rw [← h1] at hrun
    have hcap := grownCap_ge w m.length 0 e
    have hsz : (⟨m.toArray⟩ : ByteArray).size = m.length := by simp [ByteArray.size]
    rw [hsz] at hrun
    have hl : (bytesRow ⟨m.toArray⟩ (grownCap w m.length 0 e)).toList = m.map (fun b => Value.int .u8 b.toNat) ++ List.replicate (grownCap w m.length 0 e - m.length) (.int .u8 0) := by
      simp [bytesRow, hsz]
    have hsz' : (bytesRow ⟨m.toArray⟩ (grownCap w m.length 0 e)).size = m.length + (grownCap w m.length 0 e - m.length) := by
      rw [← Array.length_toList, hl]; simp
    refine OpOk.newRowD hh (v := .slice st.n 0 m.length none 1) (xs := (bytesRow ⟨m.toArray⟩ (grownCap w m.length 0 e)).toList) (lo := _) (hi := _) hrun ?_ ?_ ?_ (.inl (by simp)) ?_
    · rw [hl]; simp
    · intro j u hu
      rw [hl]
      have hj : j < m.length := by
        have := (List.getElem?_eq_some_iff.1 hu).1
        simpa using this
      refine ⟨_, List.getElem?_append_left (by simpa using hj) |>.trans (List.getElem?_map ..) |>.trans (by rw [List.getElem?_eq_getElem hj]; rfl), ?_⟩
      simp only [List.getElem?_map, List.getElem?_eq_getElem hj, Option.map_some, Option.some.injEq] at hu
      rw [← hu]; simp [VR]
    · intro y hy
      rw [hl] at hy
      simp only [List.mem_append, List.mem_map, List.mem_replicate] at hy
      rcases hy with ⟨b, _, rfl⟩ | ⟨_, rfl⟩ <;> rfl
    · simp only [VR]
      refine ⟨⟨w.heap.size, 0, _⟩, grownCap w m.length 0 e, by simp; rfl, by simp, hcap, ?_, by simp, fun _ => ?_⟩
      · simp only [hsz']; omega
      · simp only [hsz']; omega
  · cases h

theorem bytes_of {l : List V} {s : List UInt8} {xs : List Value} (h : VRs μ l xs) (hm : l.mapM (fun v => match v with | .int .u8 n => some (UInt8.ofNat n.toNat) | _ => none) = some s) :
    ∃ ns : List Int, xs = ns.map (Value.int .u8) ∧ s = ns.map (fun n => UInt8.ofNat n.toNat) := by
  induction l generalizing s xs with
  | nil =>
    simp only [List.mapM_nil, pure, Option.some.injEq] at hm
    subst hm
    simp only [VRs] at h
    exact ⟨[], by simp [h], rfl⟩
  | cons u l ih =>
    obtain ⟨y, ys, rfl, h1, h2⟩ := VRs_cons.1 h
    simp only [List.mapM_cons] at hm
    cases u <;> simp only [bind, Option.bind, reduceCtorEq] at hm
    rename_i k q
    cases k <;> simp only [reduceCtorEq] at hm
    split at hm
    · cases hm
    · rename_i s' hs'
      simp only [pure, Option.some.injEq] at hm
      subst hm
      obtain ⟨ns, rfl, rfl⟩ := ih h2 hs'
      simp only [VR] at h1
      exact ⟨q :: ns, by simp [h1], by simp⟩

theorem foldl_push_ints : ∀ (l : List Int) (r : ByteArray), l.foldl (fun r n => r.push (UInt8.ofNat n.toNat)) r = ⟨r.data ++ (l.map (fun n => UInt8.ofNat n.toNat)).toArray⟩
  | [], r => by simp
  | b :: l, r => by
    simp only [List.foldl_cons]
    rw [foldl_push_ints l]
    simp [ByteArray.push]

theorem bytesStr_ok (hh : HRel P μ w st) (hr : RR μ r n a.tmps) {src dst e : TypeId} {x : Operand} {s : Src} (hs : P.underlying src = some (.slice e)) (hd : P.underlying dst = some .string) (he : P.underlying e = some (.int .u8)) (hx : cSrc P x = some s)
    (h : op_bytesStr s call r st = some (v, st')) : OpOk P μ w st (do pure (.value (← convert src dst (a.eval x)))) v st' := by
  unfold op_bytesStr at h
  split at h
  · rename_i hm
    simp only [Option.some.injEq, Prod.mk.injEq] at h
    obtain ⟨rfl, rfl⟩ := h
    have h1 := ev_sim hh hr hx hm
    simp only [VR] at h1
    refine OpOk.value hh (x := .string ByteArray.empty) ?_ (by simp only [VR]; rfl)
    rw [h1, run_convert_bytes_string w src dst e none 0 0 hs he hd]
    simp [Conv.bytesToString]
  · rename_i i o len cap hm
    obtain ⟨l, c, hl, h1, _⟩ := ev_sim hh hr hx hm
    split at h
    · rename_i cs e' rw' hrow
      split at h
      · rename_i seg hseg
        split at h
        · rename_i s' hmm
          simp only [Option.some.injEq, Prod.mk.injEq] at h
          obtain ⟨rfl, rfl⟩ := h
          obtain ⟨xs, hxs, hxl, hload, _, _⟩ := (hh.row hl hrow).seg hseg
          obtain ⟨ns, rfl, rfl⟩ := bytes_of hxs hmm
          refine OpOk.value hh (x := .string ⟨(ns.map (fun n => UInt8.ofNat n.toNat)).toArray⟩) ?_ (by simp [VR])
          rw [h1, run_convert_bytes_string w src dst e _ _ _ hs he hd, run_bytesToString w _ len c ns hload, foldl_push_ints]
          have he0 : ByteArray.empty.data = #[] := rfl
          rw [he0]; simp
        · cases h
      · cases h
    · cases h
  · cases h

theorem run_getObj' {i : Nat} {o : Obj} (h : w.heap[i]? = some o) (ho : ∀ c e f, o ≠ .cells c e f) : (getObj i).run P w = .ok o w := by
  simp only [getObj, Sem.run, h]

theorem MapR.length : ∀ {es : List (V × V)} {xs : List MapEntry} {i : Nat}, MapR μ es xs i → xs.length = es.length
  | [], _, _, h => by simp [MapR] at h; simp [h]
  | (k, u) :: es, _, i, h => by
    obtain ⟨e, ys, rfl, _, _, _, h5⟩ := h
    simp [MapR.length h5]

theorem len_str_ok (hh : HRel P μ w st) (hr : RR μ r n a.tmps) {t ty : TypeId} {x : Operand} {s : Src} (ht : P.underlying t = some .string) (hx : cSrc P x = some s)
    (h : op_len 0 s call r st = some (v, st')) : OpOk P μ w st (do pure (.value (← Builtin.len_ #[t] ty #[a.eval x]))) v st' := by
  unfold op_len at h
  cases hm : s.ev r with
  | none => simp [hm] at h
  | some q =>
    have h1 := ev_sim hh hr hx hm
    cases q <;> simp [hm] at h
    rename_i q
    obtain ⟨rfl, rfl⟩ := h
    simp only [VR] at h1
    have h2 : (⟨q.toArray⟩ : ByteArray).size = q.length := rfl
    exact OpOk.value hh (x := .int .i64 q.length) (by simp [Builtin.len_, h1, run_underlying ht, goInt, h2, -ByteArray.size_data]) (by simp [VR])

theorem len_slice_ok (hh : HRel P μ w st) (hr : RR μ r n a.tmps) {t ty e : TypeId} {x : Operand} {s : Src} (ht : P.underlying t = some (.slice e)) (hx : cSrc P x = some s)
    (h : op_len 1 s call r st = some (v, st')) : OpOk P μ w st (do pure (.value (← Builtin.len_ #[t] ty #[a.eval x]))) v st' := by
  unfold op_len at h
  cases hm : s.ev r with
  | none => simp [hm] at h
  | some q =>
    have h1 := ev_sim hh hr hx hm
    cases q <;> simp [hm] at h
    case nilslice =>
      obtain ⟨rfl, rfl⟩ := h
      simp only [VR] at h1
      exact OpOk.value hh (x := .int .i64 0) (by simp [Builtin.len_, h1, run_underlying ht, goInt]) (by simp [VR])
    case empty =>
      obtain ⟨rfl, rfl⟩ := h
      obtain ⟨b, c, h1⟩ := h1
      exact OpOk.value hh (x := .int .i64 0) (by simp [Builtin.len_, h1, run_underlying ht, goInt]) (by simp [VR])
    case slice i o len cap sz =>
      obtain ⟨rfl, rfl⟩ := h
      obtain ⟨l, c, _, h1, _⟩ := h1
      exact OpOk.value hh (x := .int .i64 len) (by simp [Builtin.len_, h1, run_underlying ht, goInt]) (by simp [VR])

theorem len_map_ok (hh : HRel P μ w st) (hr : RR μ r n a.tmps) {t ty k e : TypeId} {x : Operand} {s : Src} (ht : P.underlying t = some (.map k e)) (hx : cSrc P x = some s)
    (h : op_len 2 s call r st = some (v, st')) : OpOk P μ w st (do pure (.value (← Builtin.len_ #[t] ty #[a.eval x]))) v st' := by
  unfold op_len at h
  cases hm : s.ev r with
  | none => simp [hm] at h
  | some q =>
    have h1 := ev_sim hh hr hx hm
    cases q <;> simp [hm] at h
    case nilmap =>
      obtain ⟨rfl, rfl⟩ := h
      simp only [VR] at h1
      exact OpOk.value hh (x := .int .i64 0) (by simp [Builtin.len_, h1, run_underlying ht, goInt]) (by simp [VR])
    case map i =>
      split at h
      · rename_i es hes
        simp only [Option.some.injEq, Prod.mk.injEq] at h
        obtain ⟨rfl, rfl⟩ := h
        obtain ⟨l, hl, h1⟩ := h1
        obtain ⟨es', g1, g2⟩ := hh.get hl hes
        have hg := run_getObj' (P := P) g1 (by simp)
        exact OpOk.value hh (x := .int .i64 es.length) (by simp [Builtin.len_, h1, run_underlying ht, goInt, hg, Result.andThen, g2.length]) (by simp [VR])
      · cases h

theorem lenArr_ok (hh : HRel P μ w st) {t ty : TypeId} {k : Nat} {x : Value} (ht : (∃ e, P.underlying t = some (.array k e)) ∨ ∃ u e, P.underlying t = some (.pointer u) ∧ P.underlying u = some (.array k e))
    (h : op_lenArr k call r st = some (v, st')) : OpOk P μ w st (do pure (.value (← Builtin.len_ #[t] ty #[x]))) v st' := by
  unfold op_lenArr at h
  simp only [Option.some.injEq, Prod.mk.injEq] at h
  obtain ⟨rfl, rfl⟩ := h
  refine OpOk.value hh (x := .int .i64 k) ?_ (by simp [VR])
  rcases ht with ⟨e, h1⟩ | ⟨u, e, h1, h2⟩
  · simp [Builtin.len_, run_underlying h1, goInt]
  · simp [Builtin.len_, run_underlying h1, run_underlying h2, goInt]

theorem cap_ok (hh : HRel P μ w st) (hr : RR μ r n a.tmps) {t ty e : TypeId} {x : Operand} {s : Src} (ht : P.underlying t = some (.slice e)) (hx : cSrc P x = some s)
    (h : op_cap s call r st = some (v, st')) : OpOk P μ w st (do pure (.value (← Builtin.cap_ #[t] ty #[a.eval x]))) v st' := by
  unfold op_cap at h
  split at h
  · rename_i hm
    simp only [Option.some.injEq, Prod.mk.injEq] at h
    obtain ⟨rfl, rfl⟩ := h
    have h1 := ev_sim hh hr hx hm
    simp only [VR] at h1
    exact OpOk.value hh (x := .int .i64 0) (by simp [Builtin.cap_, h1, run_underlying ht, goInt]) (by simp [VR])
  · rename_i i o len k sz hm
    simp only [Option.some.injEq, Prod.mk.injEq] at h
    obtain ⟨rfl, rfl⟩ := h
    obtain ⟨l, c, _, h1, _, _, h5, _⟩ := ev_sim hh hr hx hm
    have hk := h5 k rfl
    subst hk
    exact OpOk.value hh (x := .int .i64 c) (by simp [Builtin.cap_, h1, run_underlying ht, goInt]) (by simp [VR])
  · cases h

theorem minV_fold : ∀ {l : List V} {u : V} {xs : List Value}, minV (l) = some u → VRs μ l xs → ∃ y ys z, xs = y :: ys ∧ (ys.foldlM Builtin.min2 y).run P w = .ok z w ∧ VR μ u z := by
  intro l
  induction l using minV.induct <;> intro u xs h hx
  case case1 => simp [minV] at h
  case case2 x =>
    simp only [minV, Option.some.injEq] at h; subst h
    obtain ⟨y, ys, rfl, h1, h2⟩ := VRs_cons.1 hx
    simp only [VRs] at h2; subst h2
    exact ⟨y, [], y, rfl, by simp, h1⟩
  case case3 k p k' q rest ih =>
    simp only [minV] at h
    obtain ⟨y, ys, rfl, h1, h2⟩ := VRs_cons.1 hx
    obtain ⟨y', ys', rfl, h3, h4⟩ := VRs_cons.1 h2
    simp only [VR] at h1 h3
    subst h1; subst h3
    obtain ⟨y, ys, z, e, hz, hv⟩ := ih h (xs := .int k (if q < p then q else p) :: ys') (VRs_cons.2 ⟨_, _, rfl, by simp [VR], h4⟩)
    simp only [List.cons.injEq] at e
    obtain ⟨rfl, rfl⟩ := e
    exact ⟨_, _, z, rfl, by simpa [Builtin.min2] using hz, hv⟩
  case case4 h1 h2 h3 => unfold minV at h; split at h <;> simp_all <;> exact absurd rfl (h3 _ _ _ _ _ rfl rfl rfl rfl)

theorem maxV_fold : ∀ {l : List V} {u : V} {xs : List Value}, maxV (l) = some u → VRs μ l xs → ∃ y ys z, xs = y :: ys ∧ (ys.foldlM Builtin.max2 y).run P w = .ok z w ∧ VR μ u z := by
  intro l
  induction l using maxV.induct <;> intro u xs h hx
  case case1 => simp [maxV] at h
  case case2 x =>
    simp only [maxV, Option.some.injEq] at h; subst h
    obtain ⟨y, ys, rfl, h1, h2⟩ := VRs_cons.1 hx
    simp only [VRs] at h2; subst h2
    exact ⟨y, [], y, rfl, by simp, h1⟩
  case case3 k p k' q rest ih =>
    simp only [maxV] at h
    obtain ⟨y, ys, rfl, h1, h2⟩ := VRs_cons.1 hx
    obtain ⟨y', ys', rfl, h3, h4⟩ := VRs_cons.1 h2
    simp only [VR] at h1 h3
    subst h1; subst h3
    obtain ⟨y, ys, z, e, hz, hv⟩ := ih h (xs := .int k (if p < q then q else p) :: ys') (VRs_cons.2 ⟨_, _, rfl, by simp [VR], h4⟩)
    simp only [List.cons.injEq] at e
    obtain ⟨rfl, rfl⟩ := e
    exact ⟨_, _, z, rfl, by simpa [Builtin.max2] using hz, hv⟩
  case case4 h1 h2 h3 => unfold maxV at h; split at h <;> simp_all <;> exact absurd rfl (h3 _ _ _ _ _ rfl rfl rfl rfl)

theorem mn_ok (hh : HRel P μ w st) (hr : RR μ r n a.tmps) {ts : Array TypeId} {ty : TypeId} {xs : Array Operand} {ss : List Src} (hx : cSrcs P xs.toList = some ss)
    (h : op_mn ss call r st = some (v, st')) : OpOk P μ w st (do pure (.value (← Builtin.min_ ts ty (xs.map a.eval)))) v st' := by
  unfold op_mn at h
  split at h
  · rename_i l hl
    split at h
    · rename_i u hu
      simp only [Option.some.injEq, Prod.mk.injEq] at h
      obtain ⟨rfl, rfl⟩ := h
      obtain ⟨y, ys, z, e, hz, hv⟩ := minV_fold (P := P) (w := w) (minO_eq l ▸ hu) (evAll_sim hh hr hx hl)
      refine OpOk.value hh (x := z) ?_ hv
      simp only [Builtin.min_, Array.toList_map, e]
      exact hz
    · cases h
  · cases h

theorem mx_ok (hh : HRel P μ w st) (hr : RR μ r n a.tmps) {ts : Array TypeId} {ty : TypeId} {xs : Array Operand} {ss : List Src} (hx : cSrcs P xs.toList = some ss)
    (h : op_mx ss call r st = some (v, st')) : OpOk P μ w st (do pure (.value (← Builtin.max_ ts ty (xs.map a.eval)))) v st' := by
  unfold op_mx at h
  split at h
  · rename_i l hl
    split at h
    · rename_i u hu
      simp only [Option.some.injEq, Prod.mk.injEq] at h
      obtain ⟨rfl, rfl⟩ := h
      obtain ⟨y, ys, z, e, hz, hv⟩ := maxV_fold (P := P) (w := w) (maxO_eq l ▸ hu) (evAll_sim hh hr hx hl)
      refine OpOk.value hh (x := z) ?_ hv
      simp only [Builtin.max_, Array.toList_map, e]
      exact hz
    · cases h
  · cases h

end
end Go.Mx
/- The operations of M stand for the Go model's: maps, string iterators, externs, copy, clear. -/
namespace Go.Mx
open Go

section
variable {P : Program} {μ : Mu} {w : World} {st st' : St} {r : T V} {n : Nat} {a : Act} {call : CallT} {v : V}

/-! ## Maps -/
theorem keyP_spec {t : TypeId} {kd : KeyD} (h : keyP P t = some kd) : (∃ k, kd = .int k ∧ P.underlying t = some (.int k)) ∨ (kd = .str ∧ P.underlying t = some .string) := by
  unfold keyP at h
  split at h
  · simp only [Option.some.injEq] at h; subst h; rename_i k hk; exact .inl ⟨k, rfl, hk⟩
  · simp only [Option.some.injEq] at h; subst h; rename_i hk; exact .inr ⟨rfl, hk⟩
  · cases h

theorem keyEq_sim {t : TypeId} {kd : KeyD} {d : TypeDesc} (hd : P.underlying t = some d) (h : keyP P t = some kd) {k q : V} {x y : Value} (hx : VR μ k x) (hy : VR μ q y) {b : Bool} (hb : keyEq kd k q = some b) :
    Instr.sameNow d x y = some b ∧ (b = true → x = y ∧ Instr.sameBits 10000 y x = true) := by
  rcases keyP_spec h with ⟨kk, rfl, h1⟩ | ⟨rfl, h1⟩
  · rw [hd, Option.some.injEq] at h1; subst h1
    cases k <;> cases q <;> simp only [keyEq, reduceCtorEq] at hb
    split at hb
    · rename_i hc
      obtain ⟨rfl, rfl⟩ := hc
      simp only [Option.some.injEq] at hb; subst hb
      simp only [VR] at hx hy
      subst hx; subst hy
      refine ⟨by simp [Instr.sameNow], fun hb => ?_⟩
      simp only [beq_iff_eq] at hb
      subst hb
      simp [Instr.sameBits]
    · cases hb
  · rw [hd, Option.some.injEq] at h1; subst h1
    cases k <;> cases q <;> simp only [keyEq, reduceCtorEq] at hb
    rename_i s s'
    simp only [Option.some.injEq] at hb; subst hb
    simp only [VR] at hx hy
    subst hx; subst hy
    have e : ((⟨s.toArray⟩ : ByteArray) == ⟨s'.toArray⟩) = (s == s') := by
      show (s.toArray == s'.toArray) = (s == s')
      simp
    refine ⟨by simp only [Instr.sameNow, e], fun hb => ?_⟩
    simp only [beq_iff_eq] at hb
    subst hb
    exact ⟨rfl, by simp only [Instr.sameBits]; rw [e]; simp⟩

theorem findV_sim {t : TypeId} {kd : KeyD} {d : TypeDesc} (hd : P.underlying t = some d) (h : keyP P t = some kd) {k : V} {x : Value} (hx : VR μ k x) :
    ∀ {es : List (V × V)} {xs : List MapEntry} {i b : Nat} {o : Option (Nat × V)}, MapR μ es xs b → findV kd k es i = some o →
      match o with
      | none => Instr.findNow d x xs i = some none
      | some (j, u) => ∃ e : MapEntry, i ≤ j ∧ xs[j - i]? = some e ∧ VR μ u e.val ∧ Instr.findNow d x xs i = some (some (j, e.val)) ∧ x = e.key ∧ Instr.sameBits 10000 e.key x = true := by
  intro es
  induction es with
  | nil =>
    intro xs i b o hm hf
    simp only [MapR] at hm; subst hm
    simp only [findV, Option.some.injEq] at hf; subst hf
    simp [Instr.findNow]
  | cons p es ih =>
    intro xs i b o hm hf
    obtain ⟨q, u⟩ := p
    obtain ⟨e, ys, rfl, h1, h2, h3, h4⟩ := hm
    simp only [findV] at hf
    split at hf
    · rename_i hb
      simp only [Option.some.injEq] at hf; subst hf
      obtain ⟨g1, g2⟩ := keyEq_sim hd h hx h1 hb
      exact ⟨e, Nat.le_refl _, by simp, h2, by simp [Instr.findNow, g1], (g2 rfl).1, (g2 rfl).2⟩
    · rename_i hb
      obtain ⟨g1, _⟩ := keyEq_sim hd h hx h1 hb
      have := ih h4 hf
      cases o with
      | none => simpa [Instr.findNow, g1] using this
      | some ju =>
        obtain ⟨j, u'⟩ := ju
        obtain ⟨e', k1, k2, k3, k4, k5⟩ := this
        refine ⟨e', by omega, ?_, k3, by simpa [Instr.findNow, g1] using k4, k5⟩
        rw [show j - i = (j - (i + 1)) + 1 by omega]
        simpa using k2
    · cases hf

theorem run_checkKey' {t : TypeId} {kd : KeyD} (h : keyP P t = some kd) {b : Bool} {x : Value} (q : Nat) : (Instr.checkKey b (q + 1) t x).run P w = .ok () w := by
  rcases keyP_spec h with ⟨kk, rfl, h1⟩ | ⟨rfl, h1⟩
  · cases x <;> simp only [Instr.checkKey, Sem.run_bind, run_underlying h1, Result.andThen_ok, Sem.run_pure]
  · cases x <;> simp only [Instr.checkKey, Sem.run_bind, run_underlying h1, Result.andThen_ok, Sem.run_pure]

theorem run_checkKey {t : TypeId} {kd : KeyD} (h : keyP P t = some kd) {b : Bool} {x : Value} : (Instr.checkKey b 10000 t x).run P w = .ok () w := run_checkKey' h 9999

theorem keyP_und {t : TypeId} {kd : KeyD} (h : keyP P t = some kd) : ∃ d, P.underlying t = some d := by
  rcases keyP_spec h with ⟨kk, _, h1⟩ | ⟨_, h1⟩ <;> exact ⟨_, h1⟩

theorem lookup_ok (hh : HRel P μ w st) (hr : RR μ r n a.tmps) {t kt e : TypeId} {x y : Operand} {sm sk : Src} {kd : KeyD} {z : V} {ok : Bool} (ht : P.underlying t = some (.map kt e)) (hk : keyP P kt = some kd) (hz : zeroP P e = some z)
    (hx : cSrc P x = some sm) (hy : cSrc P y = some sk) (h : op_lookup kd z sm sk ok call r st = some (v, st')) :
    OpOk P μ w st (do pure (.value (← Instr.lookup t (a.eval x) (a.eval y) ok))) v st' := by
  unfold op_lookup at h
  split at h
  · rename_i m k hm hkk
    have h1 := ev_sim hh hr hx hm
    have h2 := ev_sim hh hr hy hkk
    obtain ⟨d, hd⟩ := keyP_und hk
    obtain ⟨zx, hzr, hzv⟩ := run_zeroP (w := w) hz
    split at h
    · cases m <;> simp at h
      case nilmap =>
        simp only [VR] at h1
        simp only [findV, Option.some.injEq, Prod.mk.injEq] at h
        obtain ⟨rfl, rfl⟩ := h
        refine OpOk.value hh (x := if ok then .tuple #[zx, .bool false] else zx) ?_ ?_
        · simp [Instr.lookup, run_underlying ht, h1, run_checkKey hk, Instr.findKey, run_underlying hd, Instr.findNow, hzr, Result.andThen]
        · cases ok
          · simpa using hzv μ
          · simp only [if_true, VR]; exact ⟨_, rfl, by simp [VRs, VR]; exact hzv μ⟩
      case map i =>
        obtain ⟨l, hl, h1⟩ := h1
        split at h
        · rename_i es hes
          split at hes
          · rename_i es0 hg
            simp only [Option.some.injEq] at hes; subst hes
            obtain ⟨es', g1, g2⟩ := hh.get hl hg
            have hgo := run_getObj' (P := P) g1 (by simp)
            split at h
            · rename_i j u ho
              simp only [Option.some.injEq, Prod.mk.injEq] at h
              obtain ⟨rfl, rfl⟩ := h
              obtain ⟨en, _, _, k3, k4, _⟩ := findV_sim hd hk h2 g2 ho
              refine OpOk.value hh (x := if ok then .tuple #[en.val, .bool true] else en.val) ?_ ?_
              · simp [Instr.lookup, run_underlying ht, h1, hgo, run_checkKey hk, Instr.findKey, run_underlying hd, k4, Result.andThen]
              · cases ok
                · simpa using k3
                · simp only [if_true, VR]; exact ⟨_, rfl, by simp [VRs, VR]; exact k3⟩
            · rename_i ho
              simp only [Option.some.injEq, Prod.mk.injEq] at h
              obtain ⟨rfl, rfl⟩ := h
              have k4 := findV_sim hd hk h2 g2 ho
              simp only at k4
              refine OpOk.value hh (x := if ok then .tuple #[zx, .bool false] else zx) ?_ ?_
              · simp [Instr.lookup, run_underlying ht, h1, hgo, run_checkKey hk, Instr.findKey, run_underlying hd, k4, hzr, Result.andThen]
              · cases ok
                · simpa using hzv μ
                · simp only [if_true, VR]; exact ⟨_, rfl, by simp [VRs, VR]; exact hzv μ⟩
            · cases h
          · cases hes
        · cases h
    · cases h
  · cases h

theorem setObj_heap (w : World) (b : Nat) (o : Obj) : ({ w with heap := w.heap.setIfInBounds b o } : World).heap[b]? = if b < w.heap.size then some o else none := by
  show (w.heap.setIfInBounds b o)[b]? = _
  rw [Array.getElem?_setIfInBounds]
  simp

theorem run_setObj' {i : Nat} {o o' : Obj} (h : w.heap[i]? = some o) (ho : ∀ c e f, o ≠ .cells c e f) : (setObj i o').run P w = .ok () { w with heap := w.heap.setIfInBounds i o' } := by
  simp only [setObj, Sem.run, h]

theorem Stp.setObj (hh : HRel P μ w st) {i : Nat} {l : L} (hl : μ i = some l) {o o' : O} (hg : st.h.get i = some o) (hw : o.wr = true) {ob : Obj}
    (hm : OM P μ { w with heap := w.heap.setIfInBounds l.b ob } o' l) : Stp P μ w st μ { w with heap := w.heap.setIfInBounds l.b ob } (st.write i o') [i] :=
  Stp.write hh hl hg hw rfl rfl rfl (by simp) (fun b hb => by
    show (w.heap.setIfInBounds l.b ob)[b]? = _
    rw [Array.getElem?_setIfInBounds_ne (Ne.symm hb)]) hm

theorem MapR.set : ∀ {es : List (V × V)} {xs : List MapEntry} {b : Nat}, MapR μ es xs b → ∀ {j : Nat} {k u : V} {x y : Value}, VR μ k x → VR μ u y → ∀ {e : MapEntry}, xs[j]? = some e →
    MapR μ (es.set j (k, u)) (xs.set j { e with key := x, val := y }) b
  | [], xs, b, h, j, k, u, x, y, _, _, e, he => by simp [MapR] at h; subst h; simp at he
  | (k0, u0) :: es, xs, b, h, j, k, u, x, y, h1, h2, e, he => by
    obtain ⟨e0, ys, rfl, g1, g2, g3, g4⟩ := h
    cases j with
    | zero => simp at he; subst he; exact ⟨_, _, rfl, h1, h2, g3, g4⟩
    | succ j => exact ⟨e0, _, rfl, g1, g2, g3, MapR.set g4 h1 h2 (by simpa using he)⟩

theorem MapR.push : ∀ {es : List (V × V)} {xs : List MapEntry} {b : Nat}, MapR μ es xs b → ∀ {k u : V} {x y : Value}, VR μ k x → VR μ u y → ∀ {c : Nat}, c = b + xs.length →
    MapR μ (es ++ [(k, u)]) (xs ++ [{ key := x, val := y, born := c }]) b
  | [], xs, b, h, k, u, x, y, h1, h2, c, hc => by simp [MapR] at h; subst h; exact ⟨_, _, rfl, h1, h2, by simpa using hc, rfl⟩
  | (k0, u0) :: es, xs, b, h, k, u, x, y, h1, h2, c, hc => by
    obtain ⟨e0, ys, rfl, g1, g2, g3, g4⟩ := h
    exact ⟨e0, _, rfl, g1, g2, g3, MapR.push g4 h1 h2 (by simp at hc; omega)⟩

theorem OpOk.skip {s : Sem Unit} {w' : World} {μ' : Mu} {ws : List Nat} (hs : s.run P w = .ok () w') (h : Stp P μ w st μ' w' st' ws) : OpOk P μ w st (do s; pure .skip) (.tup []) st' :=
  ⟨.skip, undef, w', μ', ws, by simp [hs, Result.andThen], .inr ⟨rfl, rfl⟩, ⟨[], rfl, by simp [VRs]⟩, h⟩

theorem mapset_ok (hh : HRel P μ w st) (hr : RR μ r n a.tmps) {t kt e : TypeId} {x y z : Operand} {sm sk sv : Src} {kd : KeyD} (ht : P.underlying t = some (.map kt e)) (hk : keyP P kt = some kd)
    (hx : cSrc P x = some sm) (hy : cSrc P y = some sk) (hz : cSrc P z = some sv) (h : op_mapset kd sm sk sv call r st = some (v, st')) :
    OpOk P μ w st (do Instr.mapUpdate t (a.eval x) (a.eval y) (a.eval z); pure .skip) v st' := by
  unfold op_mapset at h
  split at h
  · rename_i i k u hm hkk hu
    obtain ⟨l, hl, h1⟩ := ev_sim hh hr hx hm
    have h2 := ev_sim hh hr hy hkk
    have h3 := ev_sim hh hr hz hu
    obtain ⟨d, hd⟩ := keyP_und hk
    split at h
    · split at h
      · rename_i es hes
        obtain ⟨es', g1, g2⟩ := hh.get hl hes
        have hgo := run_getObj' (P := P) g1 (by simp)
        have hb : l.b < w.heap.size := (hh.dom i l hl).2
        split at h
        · rename_i j _ hf
          simp only [Option.some.injEq, Prod.mk.injEq] at h
          obtain ⟨rfl, rfl⟩ := h
          obtain ⟨en, k1, k2, k3, k4, k5, k6⟩ := findV_sim hd hk h2 g2 hf
          simp only [Nat.sub_zero] at k2
          have hso := run_setObj' (P := P) (o' := .map ((⟨es'⟩ : Array MapEntry).modify j fun e => { e with key := a.eval y, val := a.eval z }) es'.length) g1 (by simp)
          refine OpOk.skip (μ' := μ) (ws := [i]) (w' := { w with heap := w.heap.setIfInBounds l.b (.map ((⟨es'⟩ : Array MapEntry).modify j fun e => { e with key := a.eval y, val := a.eval z }) es'.length) }) ?_ (Stp.setObj hh hl hes rfl ⟨es'.set j { en with key := a.eval y, val := a.eval z }, ?_, ?_⟩)
          · have hkeep : (Instr.keyThatStays en.key (a.eval y)).run P w = .ok (a.eval y) w := by
              simp [Instr.keyThatStays, k6]
            have hget : (((⟨es'⟩ : Array MapEntry)[j]?).map (·.key)).getD (a.eval y) = en.key := by simp [k2]
            simp only [Instr.mapUpdate, Sem.run_bind, run_underlying ht, Result.andThen, h1, hgo, run_checkKey hk, Instr.findKey, run_underlying hd, k4, Sem.run_pure, hget, hkeep, hso]
          · rw [setObj_heap, if_pos hb]
            congr 2
            · apply Array.ext'
              apply List.ext_getElem?
              intro q
              rw [Array.getElem?_toList, Array.getElem?_modify]
              by_cases e : j = q
              · subst e
                obtain ⟨hj, hje⟩ := List.getElem?_eq_some_iff.1 k2
                simp [hj, hje]
              · simp [e, List.getElem?_set_ne e]
            · simp
          · exact g2.set h2 h3 k2
        · rename_i hf
          simp only [Option.some.injEq, Prod.mk.injEq] at h
          obtain ⟨rfl, rfl⟩ := h
          have k4 := findV_sim hd hk h2 g2 hf
          simp only at k4
          have hso := run_setObj' (P := P) (o' := .map ((⟨es'⟩ : Array MapEntry).push { key := a.eval y, val := a.eval z, born := es'.length }) (es'.length + 1)) g1 (by simp)
          refine OpOk.skip (μ' := μ) (ws := [i]) (w' := { w with heap := w.heap.setIfInBounds l.b (.map ((⟨es'⟩ : Array MapEntry).push { key := a.eval y, val := a.eval z, born := es'.length }) (es'.length + 1)) }) ?_ (Stp.setObj hh hl hes rfl ⟨es' ++ [{ key := a.eval y, val := a.eval z, born := es'.length }], ?_, ?_⟩)
          · simp only [Instr.mapUpdate, Sem.run_bind, run_underlying ht, Result.andThen, h1, hgo, run_checkKey hk, Instr.findKey, run_underlying hd, k4, Sem.run_pure, hso]
          · rw [setObj_heap, if_pos hb]
            simp
          · exact g2.push h2 h3 (by simp)
        · cases h
      · cases h
    · cases h
  · cases h

/-! ## Iterators over strings -/
theorem nextStr_ok (hh : HRel P μ w st) (hr : RR μ r n a.tmps) {ty : TypeId} {x : Operand} {s : Src} (hx : cSrc P x = some s)
    (h : op_nextStr s call r st = some (v, st')) : OpOk P μ w st (do pure (.value (← Instr.next (a.eval x) true ty))) v st' := by
  unfold op_nextStr at h
  split at h
  · rename_i i hm
    obtain ⟨l, hl, h1⟩ := ev_sim hh hr hx hm
    split at h
    · rename_i q pos hg
      obtain ⟨g1, g2⟩ := hh.get hl hg
      rw [g2] at h1
      have hgo := run_getObj' (P := P) g1 (by simp)
      have hb : l.b < w.heap.size := (hh.dom i l hl).2
      have hsz : (⟨q.toArray⟩ : ByteArray).size = q.length := rfl
      split at h
      · rename_i hp
        simp only [Option.some.injEq, Prod.mk.injEq] at h
        obtain ⟨rfl, rfl⟩ := h
        have hso := run_setObj' (P := P) (o' := .stringIter ⟨q.toArray⟩ (pos + (Utf8.decode ⟨q.toArray⟩ pos).2)) g1 (by simp)
        refine ⟨.value (.tuple #[.bool true, .int .i64 pos, .int .i32 (Utf8.decode ⟨q.toArray⟩ pos).1]), _, _, μ, [i], ?_, .inl rfl, ?_, Stp.setObj hh hl hg rfl (ob := .stringIter ⟨q.toArray⟩ (pos + (Utf8.decode ⟨q.toArray⟩ pos).2)) ⟨?_, g2⟩⟩
        · simp [Instr.next, h1, hgo, Result.andThen, hsz, hp, hso, goInt, -ByteArray.size_data]
        · simp only [VR]; exact ⟨_, rfl, by simp [VRs, VR]⟩
        · rw [setObj_heap, if_pos hb]
      · rename_i hp
        simp only [Option.some.injEq, Prod.mk.injEq] at h
        obtain ⟨rfl, rfl⟩ := h
        refine OpOk.value hh (x := .tuple #[.bool false]) ?_ (by simp only [VR]; exact ⟨_, rfl, by simp [VRs, VR]⟩)
        simp [Instr.next, h1, hgo, Result.andThen, hsz, hp, -ByteArray.size_data]
    · cases h
  · cases h

end
end Go.Mx
/- The operations of M stand for the Go model's: externs, copy, clear, append. -/
namespace Go.Mx
open Go

/-! ## Externs -/
def entryOf : Ext → Array Value → Sem Value
  | .add64 => add64Entry
  | .sub64 => Go.Proofs.sub64Entry
  | .same => Extern.AbiNoEscape.same
  | .indexByteString => Extern.BytealgIndexByte.indexByte
  | .indexString => fun _ => stuck "not taken"

def ExtsOk (P : Program) : Prop := ∀ (g : FuncId) (fn : Func) (e : Ext), P.funcs[g]? = some fn → fn.body.isSome = false → extOf fn.name = some e →
  (fn.name == "runtime.NumGoroutine") = false ∧ Extern.findNext fn = none ∧ Extern.find fn = some (entryOf e)

theorem indexByte_neg (c : UInt8) : ∀ (l : List UInt8), Go.Lib.indexByte l c = -1 ∨ 0 ≤ Go.Lib.indexByte l c
  | [] => .inl rfl
  | b :: l => by
    rcases indexByte_neg c l with h | h <;> simp only [Go.Lib.indexByte] <;> split <;> first | omega | (split <;> omega)

theorem idxByte_sim (c : UInt8) : ∀ (l : List UInt8) (i : Nat), idxByte c l i = if Go.Lib.indexByte l c = -1 then -1 else Go.Lib.indexByte l c + i
  | [], i => by simp [idxByte, Go.Lib.indexByte]
  | b :: l, i => by
    have h := indexByte_neg c l
    simp only [idxByte, Go.Lib.indexByte]
    split
    · simp
    · rw [idxByte_sim c l (i + 1)]
      by_cases e : Go.Lib.indexByte l c = -1
      · simp [e]
      · have e' : (Go.Lib.indexByte l c == -1) = false := by simpa using e
        rw [if_neg e, e']
        simp only [Bool.false_eq_true, if_false]
        rw [if_neg (by omega)]
        omega

section
variable {P : Program} {μ : Mu} {w : World} {st st' : St} {r : T V} {n : Nat} {a : Act} {call : CallT} {v : V}

theorem ext_ok (hh : HRel P μ w st) (hr : RR μ r n a.tmps) (hE : ExtsOk P) {g : Nat} {fn : Func} {e : Ext} {xs : List Operand} {ss : List Src} (hg : P.funcs[g]? = some fn) (hb : fn.body.isSome = false) (he : extOf fn.name = some e)
    (hx : cSrcs P xs = some ss) (h : op_ext e ss call r st = some (v, st')) : OpOk P μ w st (callFunc g ⟨xs.map a.eval⟩) v st' := by
  obtain ⟨e1, e2, e3⟩ := hE g fn e hg hb he
  have hrun := run_callFunc_extern hg e1 (by simpa using hb) e2 e3 ⟨xs.map a.eval⟩ w
  have fin : ∀ x, (entryOf e ⟨xs.map a.eval⟩).run P w = .ok x w → VR μ v x → st' = st → OpOk P μ w st (callFunc g ⟨xs.map a.eval⟩) v st' := by
    intro x hx hv hs
    subst hs
    exact ⟨.value x, x, w, μ, [], by rw [hrun, hx]; rfl, .inl rfl, hv, Stp.refl hh⟩
  unfold op_ext at h
  cases hl : evAll r ss with
  | none => cases e <;> simp [hl] at h
  | some l =>
    have hv := evAll_sim hh hr hx hl
    have hext : ∀ u, extV e l = some u → (entryOf e ⟨xs.map a.eval⟩).run P w = .ok (match u with | .tup [.int .u64 p, .int .u64 q] => .tuple #[.int .u64 p, .int .u64 q] | .int k m => .int k m | _ => undef) w ∧
        VR μ u (match u with | .tup [.int .u64 p, .int .u64 q] => .tuple #[.int .u64 p, .int .u64 q] | .int k m => .int k m | _ => undef) := by
      intro u hu
      unfold extV at hu
      split at hu
      · rename_i x y c
        split at hu
        · cases hu
        · rename_i hc
          simp only [Option.some.injEq] at hu; subst hu
          simp only [VRs, VR] at hv
          obtain ⟨_, _, h1, rfl, _, _, rfl, rfl, _, _, rfl, rfl, rfl⟩ := hv
          rw [h1]
          refine ⟨?_, by simp [VR, VRs]⟩
          have hc' : c = 0 ∨ c = 1 := Decidable.not_not.1 hc
          rcases hc' with rfl | rfl <;> rfl
      · rename_i x y c
        split at hu
        · cases hu
        · rename_i hc
          simp only [Option.some.injEq] at hu; subst hu
          simp only [VRs, VR] at hv
          obtain ⟨_, _, h1, rfl, _, _, rfl, rfl, _, _, rfl, rfl, rfl⟩ := hv
          rw [h1]
          refine ⟨?_, by simp [VR, VRs]⟩
          have hc' : c = 0 ∨ c = 1 := Decidable.not_not.1 hc
          have hi : ∀ (p : Prop) [Decidable p], ((if p then 1 else 0 : Int)) = Int.ofNat (if p then 1 else 0) := fun p _ => by split <;> rfl
          rcases hc' with rfl | rfl <;> rw [hi] <;> rfl
      · rename_i s c
        simp only [Option.some.injEq] at hu; subst hu
        simp only [VRs, VR] at hv
        obtain ⟨_, _, h1, rfl, _, _, rfl, rfl, rfl⟩ := hv
        rw [h1]
        refine ⟨?_, by simp [VR]⟩
        have := Go.Lib.run_indexByteString (P := P) ⟨s.toArray⟩ c w
        show (Extern.BytealgIndexByte.indexByte #[.string ⟨s.toArray⟩, .int .u8 c]).run P w = _
        rw [this, idxByte_sim]
        simp only []
        congr 2
        split
        · rename_i e; exact e
        · simp
      · cases hu
    cases e with
    | same =>
      rcases l with _ | ⟨u, _ | ⟨u', l⟩⟩ <;> simp [hl, extV] at h
      obtain ⟨rfl, rfl⟩ := h
      obtain ⟨y, ys, hxs, h1, h2⟩ := VRs_cons.1 hv
      simp only [VRs] at h2; subst h2
      refine fin y ?_ h1 rfl
      rw [hxs]; rfl
    | add64 =>
      simp only [hl] at h
      split at h
      · rename_i u hu
        simp only [Option.some.injEq, Prod.mk.injEq] at h
        obtain ⟨rfl, rfl⟩ := h
        exact fin _ (hext _ hu).1 (hext _ hu).2 rfl
      · cases h
    | sub64 =>
      simp only [hl] at h
      split at h
      · rename_i u hu
        simp only [Option.some.injEq, Prod.mk.injEq] at h
        obtain ⟨rfl, rfl⟩ := h
        exact fin _ (hext _ hu).1 (hext _ hu).2 rfl
      · cases h
    | indexByteString =>
      simp only [hl] at h
      split at h
      · rename_i u hu
        simp only [Option.some.injEq, Prod.mk.injEq] at h
        obtain ⟨rfl, rfl⟩ := h
        exact fin _ (hext _ hu).1 (hext _ hu).2 rfl
      · cases h
    | indexString => simp [hl, extV] at h

/-! ## What is appended or copied -/
theorem srcCells_sim (hh : HRel P μ w st) {size : Nat} {u : V} {X : Value} (hx : VR μ u X) {m : Nat} {xs : List V} (h : srcCells st size u = some (m, xs)) :
    (Builtin.lenOf X).run P w = .ok m w ∧ xs.length = m * size ∧ ∃ ys, VRs μ xs ys ∧ (∀ y ∈ ys, y.oneCell' = true) ∧
      ∀ w' : World, w'.heap = w.heap → ∀ k, k ≤ m → (Builtin.firstCells size k X).run P w' = .ok ⟨ys.take (k * size)⟩ w' := by
  unfold srcCells at h
  split at h
  · simp only [Option.some.injEq, Prod.mk.injEq] at h
    obtain ⟨rfl, rfl⟩ := h
    simp only [VR] at hx; subst hx
    exact ⟨by simp [Builtin.lenOf], by simp, [], by simp [VRs], by simp, fun w' _ k hk => by simp [Builtin.firstCells]⟩
  · simp only [Option.some.injEq, Prod.mk.injEq] at h
    obtain ⟨rfl, rfl⟩ := h
    obtain ⟨b, c, rfl⟩ := hx
    refine ⟨by simp [Builtin.lenOf], by simp, [], by simp [VRs], by simp, fun w' _ k hk => ?_⟩
    have hk0 : k = 0 := by omega
    subst hk0
    have := run_firstCells_some (P := P) w' size 0 b 0 c [] (by simp) (by simp)
    simpa using this
  · rename_i j p m' _ sz
    obtain ⟨l, c, hl, rfl, _⟩ := hx
    split at h
    · split at h
      · rename_i cs _ _ hrow
        split at h
        · rename_i seg hseg
          simp only [Option.some.injEq, Prod.mk.injEq] at h
          obtain ⟨rfl, rfl⟩ := h
          obtain ⟨ys, g1, g2, g3, g4, g5⟩ := (hh.row hl hrow).seg hseg
          refine ⟨by simp [Builtin.lenOf], by rw [← g1.length, g2], ys, g1, g5, fun w' hw' k hk => ?_⟩
          have hkm : k * size ≤ m' * size := Nat.mul_le_mul_right _ hk
          refine run_firstCells_some (P := P) w' size k _ m' c (ys.take (k * size)) (by rw [List.length_take, g2]; exact Nat.min_eq_left hkm) fun i y hy => ?_
          rw [add_none]
          rw [List.getElem?_take] at hy
          split at hy
          · have := g4 i y hy
            simpa [World.cell?, hw'] using this
          · cases hy
        · cases h
      · cases h
    · cases h
  · rename_i s
    split at h
    · rename_i hs1
      subst hs1
      simp only [Option.some.injEq, Prod.mk.injEq] at h
      obtain ⟨rfl, rfl⟩ := h
      simp only [VR] at hx; subst hx
      have hsz : (⟨s.toArray⟩ : ByteArray).size = s.length := rfl
      refine ⟨by simp [Builtin.lenOf, hsz, -ByteArray.size_data], by simp, s.map (fun b => .int .u8 b.toNat), ?_, by simp; intro y _; rfl, fun w' _ k hk => ?_⟩
      · refine VRs.of_get (by simp) fun i y hy => ?_
        simp only [List.getElem?_map, Option.map_eq_some_iff] at hy
        obtain ⟨b, hb, rfl⟩ := hy
        exact ⟨_, by simp [hb]; rfl, by simp [VR]⟩
      · simp only [Builtin.firstCells, Sem.run_pure, Nat.mul_one]
        congr 1
        apply Array.ext'
        simp
    · cases h
  · cases h


theorem run_storeCells_nil (a : Addr) (i : Nat) : (storeCells a [] i).run P w = .ok () w := by simp [storeCells]

theorem copy_ok (hh : HRel P μ w st) (hr : RR μ r n a.tmps) {ts : Array TypeId} {t ty e : TypeId} {size : Nat} {x y : Operand} {sd ss : Src} (ht0 : ts[0]? = some t) (ht : P.underlying t = some (.slice e)) (hs : sizeP P e = some size)
    (hx : cSrc P x = some sd) (hy : cSrc P y = some ss) (h : op_copy size sd ss call r st = some (v, st')) :
    OpOk P μ w st (do pure (.value (← Builtin.copy_ ts ty #[a.eval x, a.eval y]))) v st' := by
  unfold op_copy at h
  split at h
  · rename_i d s hd hss
    have h1 := ev_sim hh hr hx hd
    have h2 := ev_sim hh hr hy hss
    split at h
    · rename_i m xs hsc
      obtain ⟨g1, g2, ys, g3, g4, g5⟩ := srcCells_sim hh h2 hsc
      have hyl := g3.length
      split at h
      · simp only [Option.some.injEq, Prod.mk.injEq] at h
        obtain ⟨rfl, rfl⟩ := h
        simp only [VR] at h1
        refine OpOk.value hh (x := .int .i64 0) ?_ (by simp [VR])
        have hf := g5 w rfl 0 (Nat.zero_le _)
        simp [Builtin.copy_, ht0, h1, run_underlying ht, g1, run_sizeP hs, hf, Result.andThen, goInt]
      · rename_i i o len cap sz
        obtain ⟨l, c, hl, h1, hlc, htot, _⟩ := h1
        split at h
        · cases h
        · rename_i hsz
          have hf := g5 w rfl (min m len) (Nat.min_le_left _ _)
          simp only at h
          split at h
          · rename_i hk
            simp only [Option.some.injEq, Prod.mk.injEq] at h
            obtain ⟨rfl, rfl⟩ := h
            refine OpOk.value hh (x := .int .i64 0) ?_ (by simp [VR])
            have hmin : Nat.min m len = 0 := hk
            rw [hk] at hf
            simp [Builtin.copy_, ht0, h1, run_underlying ht, g1, run_sizeP hs, hf, Result.andThen, goInt, hmin, run_storeCells_nil]
          · rename_i hk
            split at h
            · rename_i cs e' hrow
              split at h
              · rename_i hle
                simp only [Option.some.injEq, Prod.mk.injEq] at h
                obtain ⟨rfl, rfl⟩ := h
                have hkm : min m len * size ≤ m * size := Nat.mul_le_mul_right _ (Nat.min_le_left _ _)
                obtain ⟨w', hw, hst⟩ := row_write (o := o) hh hl hrow (g3.take (min m len * size)) (fun q hq => g4 q (List.mem_of_mem_take hq)) (by rw [List.length_take, g2, Nat.min_eq_left hkm]; exact hle)
                refine ⟨.value (.int .i64 (min m len : Nat)), _, w', μ, [i], ?_, .inl rfl, by simp [VR], hst⟩
                have hmin : Nat.min m len = min m len := rfl
                simp only [Builtin.copy_, ht0, h1, Sem.run_bind, run_underlying ht, g1, run_sizeP hs, Result.andThen_ok, hmin, hf, hw, goInt, Sem.run_pure, List.getElem?_toArray, List.getElem?_cons_zero, List.getElem?_cons_succ]
              · cases h
            · cases h
      · cases h
    · cases h
  · cases h

theorem zeroCells_made (z : Array Value) (k : Nat) : Builtin.zeroCells z k = madeCells z (k * z.size) := rfl

theorem clear_ok (hh : HRel P μ w st) (hr : RR μ r n a.tmps) {t ty e : TypeId} {size : Nat} {z : V} {x : Operand} {s : Src} (ht : P.underlying t = some (.slice e)) (hz : zeroP P e = some z) (hone : z.cells.all V.one = true)
    (hx : cSrc P x = some s) (h : op_clear size z.cells s call r st = some (v, st')) :
    OpOk P μ w st (do pure (.value (← Builtin.clear_ #[t] ty #[a.eval x]))) v st' := by
  unfold op_clear at h
  split at h
  · rename_i hm
    simp only [Option.some.injEq, Prod.mk.injEq] at h
    obtain ⟨rfl, rfl⟩ := h
    have h1 := ev_sim hh hr hx hm
    simp only [VR] at h1
    exact OpOk.value hh (x := .tuple #[]) (by simp [Builtin.clear_, h1, run_underlying ht]) ⟨[], rfl, by simp [VRs]⟩
  · rename_i hm
    simp only [Option.some.injEq, Prod.mk.injEq] at h
    obtain ⟨rfl, rfl⟩ := h
    obtain ⟨b, c, h1⟩ := ev_sim hh hr hx hm
    exact OpOk.value hh (x := .tuple #[]) (by simp [Builtin.clear_, h1, run_underlying ht]) ⟨[], rfl, by simp [VRs]⟩
  · rename_i i o len cap sz hm
    obtain ⟨l, c, hl, h1, _⟩ := ev_sim hh hr hx hm
    split at h
    · rename_i h0
      subst h0
      simp only [Option.some.injEq, Prod.mk.injEq] at h
      obtain ⟨rfl, rfl⟩ := h
      exact OpOk.value hh (x := .tuple #[]) (by simp [Builtin.clear_, h1, run_underlying ht]) ⟨[], rfl, by simp [VRs]⟩
    · rename_i h0
      split at h
      · cases h
      · rename_i hcond
        simp only [not_or, Decidable.not_not] at hcond
        split at h
        · rename_i cs e' hrow
          split at h
          · rename_i hle
            simp only [Option.some.injEq, Prod.mk.injEq] at h
            obtain ⟨rfl, rfl⟩ := h
            obtain ⟨inf, zx, hi, hzx, hzv⟩ := zeroP_info hz
            have hsim := zrep_sim (hzv μ).cells len
            have hlen : z.cells.length = zx.cells.size := by rw [← (hzv μ).cells.length]; simp
            obtain ⟨w', hw, hst⟩ := row_write (o := o) hh hl hrow hsim (zrep_one hone len hsim) (by rw [zrep_length, hcond.2.2]; exact hle)
            refine ⟨.value (.tuple #[]), _, w', μ, [i], ?_, .inl rfl, ⟨[], rfl, by simp [VRs]⟩, hst⟩
            have hzc : Builtin.zeroCells zx.cells len = madeCells ⟨zx.cells.toList⟩ (len * z.cells.length) := by rw [zeroCells_made, hlen]
            have hrz : (zeroValue e).run P w = .ok zx w := by simp [zeroValue, typeInfo, hi, hzx]
            obtain ⟨len', rfl⟩ : ∃ q, len = q + 1 := ⟨len - 1, by omega⟩
            simp [Builtin.clear_, h1, run_underlying ht, hrz, hzc, hw, Result.andThen]
          · cases h
        · cases h
  · cases h

/-! ## append -/
theorem run_append_fits {ts : Array TypeId} {t u ty e : TypeId} {d : TypeDesc} {size m sLen sCap : Nat} {base : Option Addr} {X : Value} {ys : List Value} (ht0 : ts[0]? = some t) (ht : P.underlying t = some (.slice e)) (hu0 : ts[1]? = some u) (hu : P.underlying u = some d)
    (hd : ∀ k, d ≠ .int k) (hs : sizeP P e = some size) (hlen : (Builtin.lenOf X).run P w = .ok m w) (hf : (Builtin.firstCells size m X).run P w = .ok ⟨ys⟩ w) (hle : sLen + m ≤ sCap)
    {w' : World} (hst : (match base with | some a => storeCells (a.add (sLen * size)) ys | none => pure () : Sem Unit).run P w = .ok () w') :
    (Builtin.append_ ts ty #[.slice base sLen sCap, X]).run P w = .ok (.slice base (sLen + m) sCap) w' := by
  cases base with
  | none =>
    simp only [Sem.run_pure, Result.ok.injEq, true_and] at hst
    subst hst
    cases d <;> first | exact absurd rfl (hd _) | simp [Builtin.append_, ht0, run_underlying ht, hu0, run_underlying hu, run_sizeP hs, Result.andThen, hlen, hf, hle]
  | some b =>
    simp only at hst
    cases d <;> first | exact absurd rfl (hd _) | simp [Builtin.append_, ht0, run_underlying ht, hu0, run_underlying hu, run_sizeP hs, Result.andThen, hlen, hf, hle, hst]

set_option maxHeartbeats 2000000 in
theorem run_append_grows {ts : Array TypeId} {t u ty e : TypeId} {d : TypeDesc} {inf : TypeInfo} {zx : Value} {m sLen sCap : Nat} {base : Option Addr} {X : Value} {os ys : List Value} (ht0 : ts[0]? = some t) (ht : P.underlying t = some (.slice e)) (hu0 : ts[1]? = some u) (hu : P.underlying u = some d)
    (hd : ∀ k, d ≠ .int k) (hi : P.info? e = some inf) (hz : inf.zero = some zx) (hlen : (Builtin.lenOf X).run P w = .ok m w) (hf : (Builtin.firstCells inf.size m X).run P w.drew = .ok ⟨ys⟩ w.drew)
    (hfo : (Builtin.firstCells inf.size sLen (.slice base sLen sCap)).run P w.drew = .ok ⟨os⟩ w.drew) (hle : ¬ sLen + m ≤ sCap) (hb : inf.bytes ≠ 0) (hfit : (2 * (sLen + m) + 1000) * inf.bytes ≤ 2 ^ 48) :
    (Builtin.append_ ts ty #[.slice base sLen sCap, X]).run P w = .ok (.slice (some ⟨w.heap.size, 0, none⟩) (sLen + m) (grownCap w (sLen + m) sCap e))
      (w.drew.alloc (.cells ⟨os ++ ys ++ (Builtin.zeroCells zx.cells (grownCap w (sLen + m) sCap e - (sLen + m))).toList⟩ e)) := by
  have hgr : Builtin.nextslicecap (sLen + m) sCap * inf.bytes ≤ 2 ^ 48 := by
    have h1 : Builtin.nextslicecap (sLen + m) sCap * inf.bytes ≤ 2 * (sLen + m) * inf.bytes := Nat.mul_le_mul_right _ (nextslicecap_le (by omega))
    have h2 : 2 * (sLen + m) * inf.bytes ≤ (2 * (sLen + m) + 1000) * inf.bytes := Nat.mul_le_mul_right _ (by omega)
    omega
  have hgr' : ¬ (281474976710656 < Builtin.nextslicecap (sLen + m) sCap * inf.bytes) := by omega
  cases d <;> first | exact absurd rfl (hd _) | simp [Builtin.append_, ht0, run_underlying ht, hu0, run_underlying hu, sizeOf, typeInfo, zeroValue, hi, hz, Result.andThen, hlen, hf, hfo, hle, hb, hgr', Question.forced, newRow, grownCap] <;> (congr 2; apply Array.ext'; simp)

/-- A new row, out of the old elements and the new ones. -/
theorem append_new (hh : HRel P μ w st) {ts : Array TypeId} {t u ty e : TypeId} {d : TypeDesc} {size b m sLen sCap : Nat} {z : V} {base : Option Addr} {X : Value} {os ys : List Value} {co cx : List V}
    (ht0 : ts[0]? = some t) (ht : P.underlying t = some (.slice e)) (hu0 : ts[1]? = some u) (hu : P.underlying u = some d) (hd : ∀ k, d ≠ .int k)
    (hs : sizeP P e = some size) (hb : bytesP P e = some b) (hz : zeroP P e = some z) (hzl : z.cells.length = size) (hone : z.cells.all V.one = true) (hs0 : size ≠ 0)
    (hlen : (Builtin.lenOf X).run P w = .ok m w) (hf : (Builtin.firstCells size m X).run P w.drew = .ok ⟨ys⟩ w.drew)
    (hfo : (Builtin.firstCells size sLen (.slice base sLen sCap)).run P w.drew = .ok ⟨os⟩ w.drew) (hle : ¬ sLen + m ≤ sCap) (hb0 : b ≠ 0) (hfit : (2 * (sLen + m) + 1000) * b ≤ 2 ^ 48)
    (ho : VRs μ co os) (hx : VRs μ cx ys) (ho1 : ∀ y ∈ os, y.oneCell' = true) (hx1 : ∀ y ∈ ys, y.oneCell' = true) (hol : co.length = sLen * size) (hxl : cx.length = m * size) :
    ∃ μ' w' c, (Builtin.append_ ts ty #[.slice base sLen sCap, X]).run P w = .ok (.slice (some ⟨w.heap.size, 0, none⟩) (sLen + m) c) w' ∧ VR μ' (.slice st.n 0 (sLen + m) none size) (.slice (some ⟨w.heap.size, 0, none⟩) (sLen + m) c) ∧
      Stp P μ w st μ' w' (st.alloc (.cells (co ++ cx) e true)) [] := by
  obtain ⟨inf, zx, hi, hzx, hzv⟩ := zeroP_info hz
  have hsz : inf.size = size := by unfold sizeP at hs; simpa [hi] using hs
  have hbz : inf.bytes = b := by unfold bytesP at hb; simpa [hi] using hb
  have hzs : zx.cells.size = size := by rw [← hzl, ← (hzv μ).cells.length]; simp
  subst hsz hbz
  have hrun := run_append_grows (P := P) (w := w) (ty := ty) ht0 ht hu0 hu hd hi hzx hlen hf hfo hle hb0 hfit
  have hcap := grownCap_ge w (sLen + m) sCap e
  generalize grownCap w (sLen + m) sCap e = cap at hrun hcap
  have hzc : (Builtin.zeroCells zx.cells (cap - (sLen + m))).toList.length = (cap - (sLen + m)) * inf.size := by simp [Builtin.zeroCells, hzs]
  have hsim : VRs μ (zrep z.cells (cap - (sLen + m))) (Builtin.zeroCells zx.cells (cap - (sLen + m))).toList := by
    have := zrep_sim (hzv μ).cells (cap - (sLen + m))
    rw [zeroCells_made]
    have e1 : zx.cells.size = z.cells.length := by rw [hzs, hzl]
    rw [e1]
    simpa using this
  have hol' := ho.length
  have hxl' := hx.length
  have htot : (os ++ ys ++ (Builtin.zeroCells zx.cells (cap - (sLen + m))).toList).length = cap * inf.size := by
    rw [List.length_append, List.length_append, hzc, hol', hxl', hol, hxl, ← Nat.add_mul, ← Nat.add_mul]
    congr 1; omega
  refine ⟨_, _, cap, hrun, ?_, (Stp.newRow hh.drew' (cs := co ++ cx) (xs := os ++ ys ++ (Builtin.zeroCells zx.cells (cap - (sLen + m))).toList) (lo := 0) (hi := 0) ?_ ?_ ?_ ?_).undrew⟩
  · simp only [VR]
    refine ⟨⟨w.heap.size, 0, (os ++ ys ++ (Builtin.zeroCells zx.cells (cap - (sLen + m))).toList).length⟩, cap, by exact if_pos trivial, by simp, hcap, ?_, by simp, fun _ => ?_⟩
    · show 0 + cap * inf.size ≤ (os ++ ys ++ (Builtin.zeroCells zx.cells (cap - (sLen + m))).toList).length
      omega
    · show 0 + cap * inf.size = (os ++ ys ++ (Builtin.zeroCells zx.cells (cap - (sLen + m))).toList).length
      omega
  · rw [List.length_append, List.length_append, List.length_append, hol', hxl']; omega
  · intro j u' hu'
    obtain ⟨y, h1, h2⟩ := (ho.append hx).get hu'
    exact ⟨y, by rw [List.getElem?_append_left (List.getElem?_eq_some_iff.1 h1).1]; exact h1, h2⟩
  · intro y hy
    simp only [List.mem_append] at hy
    rcases hy with (hy | hy) | hy
    · exact ho1 y hy
    · exact hx1 y hy
    · exact zrep_one hone _ hsim y hy
  · exact .inr (Nat.le_refl _)

/-- A row grown in place, above what is known of it: the old id is gone. -/
theorem Stp.regrow {w' : World} (h : HRel P μ w st) {i : Nat} {l l' : L} {o o' : O} (hi : μ i = some l) (ho : st.h.get i = some o) (hw : o.wr = true)
    (hos : w'.os = w.os) (htp : w'.tape = w.tape) (hou : w'.output = w.output) (hsz : w'.heap.size = w.heap.size) (hblk : ∀ b, b ≠ l.b → w'.heap[b]? = w.heap[b]?) (hb' : l'.b = l.b)
    (ho' : OM P (fun j => if j = st.n then some l' else μ j) w' o' l') :
    Stp P μ w st (fun j => if j = st.n then some l' else μ j) w' ((st.write i .dead).alloc o') [i] := by
  have hlive : o.live = true := by cases o <;> simp_all [O.wr, O.live]
  have hin := (h.dom i l hi).1
  have hlb := (h.dom i l hi).2
  have hmono : ∀ j lj, μ j = some lj → (fun j => if j = st.n then some l' else μ j) j = some lj := fun j lj hj => by
    have := (h.dom j lj hj).1
    show (if j = st.n then some l' else μ j) = some lj
    rw [if_neg (by omega)]; exact hj
  have hget : ∀ j, ((st.write i .dead).alloc o').h.get j = if j = st.n then some o' else if j = i then some .dead else st.h.get j := fun j => by
    simp only [St.alloc, St.write, T.get_set]
  refine ⟨⟨fun j lj hj => ?_, fun j lj hj => ?_, fun j k lj lk oj ok hj hk hne h1 h2 hwj hlk => ?_, fun g hg => let ⟨t, ht⟩ := h.glob g hg; ⟨t, hmono g _ ht⟩⟩, fun j hj => ?_, by simp [St.alloc, St.write], rfl, ⟨hos, htp, hou, by omega, fun b _ hnot => hblk b ?_⟩,
    fun j lj hn hj => ?_, fun j hj hnot => ?_, fun j oj hn hj => ?_, fun j h1 h2 => ⟨l', by simp only [St.alloc, St.write] at h2; show (if j = st.n then some l' else μ j) = some l'; rw [if_pos (by omega)]⟩, fun j hj _ => by simp only [List.mem_singleton] at hj; subst hj; exact ⟨o, ho, hw⟩⟩
  · replace hj : (if j = st.n then some l' else μ j) = some lj := hj
    split at hj
    · rename_i e
      simp only [Option.some.injEq] at hj; subst hj
      simp [St.alloc, St.write]; omega
    · have := h.dom j lj hj
      simp [St.alloc, St.write]; omega
  · replace hj : (if j = st.n then some l' else μ j) = some lj := hj
    split at hj
    · rename_i e
      simp only [Option.some.injEq] at hj; subst hj
      exact ⟨o', by rw [hget, if_pos e], ho'⟩
    · rename_i e
      by_cases e2 : j = i
      · exact ⟨.dead, by rw [hget, if_neg e, if_pos e2], trivial⟩
      · obtain ⟨oj, h1, h2⟩ := h.obj j lj hj
        refine ⟨oj, by rw [hget, if_neg e, if_neg e2]; exact h1, ?_⟩
        cases hl : oj.live
        · cases oj <;> simp [O.live] at hl
          trivial
        · exact (h2.mono hmono).congr (hblk lj.b (Ne.symm (h.inj i j l lj o oj hi hj (Ne.symm e2) ho h1 hw hl)))
  · rw [hget] at h1 h2
    replace hj : (if j = st.n then some l' else μ j) = some lj := hj
    replace hk : (if k = st.n then some l' else μ k) = some lk := hk
    by_cases e1 : j = st.n
    · rw [if_pos e1] at hj h1
      simp only [Option.some.injEq] at hj h1
      subst hj h1
      by_cases e2 : k = st.n
      · exact absurd (e1.trans e2.symm) hne
      · rw [if_neg e2] at hk h2
        by_cases e3 : k = i
        · rw [if_pos e3, Option.some.injEq] at h2; subst h2; simp [O.live] at hlk
        · rw [if_neg e3] at h2
          rw [hb']
          exact h.inj i k l lk o ok hi hk (Ne.symm e3) ho h2 hw hlk
    · rw [if_neg e1] at hj h1
      by_cases e3 : j = i
      · rw [if_pos e3, Option.some.injEq] at h1; subst h1; simp [O.wr] at hwj
      · rw [if_neg e3] at h1
        by_cases e2 : k = st.n
        · rw [if_pos e2] at hk h2
          simp only [Option.some.injEq] at hk h2
          subst hk h2
          rw [hb']
          exact h.inj j i lj l oj o hj hi e3 h1 ho hwj hlive
        · rw [if_neg e2] at hk h2
          by_cases e4 : k = i
          · rw [if_pos e4, Option.some.injEq] at h2; subst h2; simp [O.live] at hlk
          · rw [if_neg e4] at h2
            exact h.inj j k lj lk oj ok hj hk hne h1 h2 hwj hlk
  · show (if j = st.n then some l' else μ j) = μ j
    rw [if_neg (by omega)]
  · exact Ne.symm (hnot i (by simp) l hi)
  · replace hj : (if j = st.n then some l' else μ j) = some lj := hj
    split at hj
    · simp only [Option.some.injEq] at hj; subst hj
      exact .inr ⟨i, by simp, hin, l, o, hi, hb'.symm, ho, hw⟩
    · exact absurd (h.dom j lj hj).1 (by omega)
  · simp only [List.mem_singleton] at hnot
    rw [hget, if_neg (by omega), if_neg hnot]
  · rw [hget, if_neg (by omega)] at hj
    split at hj
    · rename_i e
      subst e
      simp only [Option.some.injEq] at hj; subst hj
      exact ⟨o, ho, by simp [O.wr], by simp [O.live]⟩
    · exact ⟨oj, hj, id, id⟩

theorem Stp.kill (h : HRel P μ w st) {i : Nat} {l : L} {o : O} (hi : μ i = some l) (ho : st.h.get i = some o) (hw : o.wr = true) : Stp P μ w st μ w (st.write i .dead) [i] :=
  Stp.write h hi ho hw rfl rfl rfl rfl (fun _ _ => rfl) trivial

theorem append_ok (hh : HRel P μ w st) (hr : RR μ r n a.tmps) {ts : Array TypeId} {t u ty e : TypeId} {d : TypeDesc} {size b : Nat} {z : V} {x y : Operand} {s sx : Src}
    (ht0 : ts[0]? = some t) (ht : P.underlying t = some (.slice e)) (hu0 : ts[1]? = some u) (hu : P.underlying u = some d) (hd : ∀ k, d ≠ .int k)
    (hs : sizeP P e = some size) (hb : bytesP P e = some b) (hz : zeroP P e = some z) (hzl : z.cells.length = size) (hone : z.cells.all V.one = true) (hb0 : b ≠ 0)
    (hx : cSrc P x = some s) (hy : cSrc P y = some sx) (h : op_append size b e z.cells s sx call r st = some (v, st')) :
    OpOk P μ w st (do pure (.value (← Builtin.append_ ts ty #[a.eval x, a.eval y]))) v st' := by
  unfold op_append at h
  split at h
  · rename_i sv xv hsv hxv
    have h1 := ev_sim hh hr hx hsv
    have h2 := ev_sim hh hr hy hxv
    unfold appendV at h
    split at h
    · cases h
    · rename_i m xs hsc
      obtain ⟨g1, g2, ys, g3, g4, g5⟩ := srcCells_sim hh h2 hsc
      have hyl := g3.length
      have hyt : ys.take (m * size) = ys := List.take_of_length_le (by omega)
      have gf : ∀ w' : World, w'.heap = w.heap → (Builtin.firstCells size m (a.eval y)).run P w' = .ok ⟨ys⟩ w' := fun w' hw' => by rw [g5 w' hw' m (Nat.le_refl _), hyt]
      split at h
      · -- a nil slice
        simp only [VR] at h1
        split at h
        · rename_i hm0
          subst hm0
          simp only [Option.some.injEq, Prod.mk.injEq] at h
          obtain ⟨rfl, rfl⟩ := h
          refine OpOk.value hh (x := .slice none 0 0) ?_ (by simp [VR])
          rw [h1]
          exact run_append_fits (base := none) ht0 ht hu0 hu hd hs g1 (gf w rfl) (Nat.le_refl _) (by simp)
        · rename_i hm0
          split at h
          · rename_i hc
            simp only [Option.some.injEq, Prod.mk.injEq] at h
            obtain ⟨rfl, rfl⟩ := h
            obtain ⟨μ', w', c, k1, k2, k3⟩ := append_new (P := P) (w := w) (ty := ty) (sLen := 0) (sCap := 0) (base := none) (X := a.eval y) (os := []) (co := []) hh ht0 ht hu0 hu hd hs hb hz hzl hone hc.2 g1 (gf w.drew rfl) (by simp [Builtin.firstCells]) (by omega) hb0
              (by have := hc.1; unfold maxBytes at this; simpa using this) (by simp [VRs]) g3 (by simp) g4 (by simp) g2
            refine ⟨.value (.slice (some ⟨w.heap.size, 0, none⟩) (0 + m) c), _, w', μ', [], ?_, .inl rfl, ?_, ?_⟩
            · rw [h1]; simp only [Sem.run_bind, k1, Result.andThen_ok, Sem.run_pure]
            · simpa using k2
            · simpa using k3
          · cases h
      · -- a slice
        rename_i i o len cap sz
        have h1' := h1
        obtain ⟨l, c, hl, h1, hlc, htot, hk, hcn⟩ := h1
        split at h
        · rename_i hm0
          subst hm0
          split at h
          · simp only [Option.some.injEq, Prod.mk.injEq] at h
            obtain ⟨rfl, rfl⟩ := h
            refine OpOk.value hh (x := a.eval x) ?_ h1'
            have hys : ys = [] := by
              apply List.eq_nil_of_length_eq_zero
              omega
            rw [h1]
            have := run_append_fits (P := P) (w := w) (w' := w) (ty := ty) (base := some ⟨l.b, l.d + o, none⟩) (sLen := len) (sCap := c) ht0 ht hu0 hu hd hs g1 (gf w rfl) (by omega) (by simp only [hys]; exact run_storeCells_nil _ _)
            simpa using this
          · cases h
        · rename_i hm0
          split at h
          · cases h
          · rename_i hcond
            simp only [not_or, Decidable.not_not, Nat.not_lt] at hcond
            obtain ⟨hsz, hs0, hfit⟩ := hcond
            subst hsz
            unfold maxBytes at hfit
            -- in place, below what is known
            have inPlace : ∀ (cs : List V) (e' : TypeId), st.row i = some (cs, e', true) → o + (len + m) * sz ≤ cs.length → len + m ≤ c → (∀ k, cap = some k → c = k) →
                OpOk P μ w st (do pure (.value (← Builtin.append_ ts ty #[a.eval x, a.eval y]))) (.slice i o (len + m) cap sz) (st.write i (.cells (splice cs (o + len * sz) xs) e' true)) := by
              intro cs e' hrow hle hlm _
              have hadd : (len + m) * sz = len * sz + m * sz := Nat.add_mul ..
              obtain ⟨w', hw, hst⟩ := row_write (o := o + len * sz) hh hl hrow g3 g4 (by rw [g2]; omega)
              have hrun := run_append_fits (P := P) (w := w) (w' := w') (ty := ty) (base := some ⟨l.b, l.d + o, none⟩) (sLen := len) (sCap := c) ht0 ht hu0 hu hd hs g1 (gf w rfl) hlm (by
                simp only [add_none]; rw [Nat.add_assoc]; exact hw)
              refine ⟨.value (.slice (some ⟨l.b, l.d + o, none⟩) (len + m) c), _, w', μ, [i], ?_, .inl rfl, ?_, hst⟩
              · rw [h1]; simp only [Sem.run_bind, hrun, Result.andThen_ok, Sem.run_pure]
              · simp only [VR]; exact ⟨l, c, hl, rfl, hlm, htot, hk, hcn⟩
            -- a new row
            have fresh : ∀ (st1 : St) (ws : List Nat) (cs old : List V) (e' : TypeId) (rw' : Bool), Stp P μ w st μ w st1 ws → st1.n = st.n → st.row i = some (cs, e', rw') → slc cs o (len * sz) = some old → ¬ len + m ≤ c →
                OpOk P μ w st (do pure (.value (← Builtin.append_ ts ty #[a.eval x, a.eval y]))) (.slice st.n 0 (len + m) none sz) (st1.alloc (.cells (old ++ xs) e true)) := by
              intro st1 ws cs old e' rw' hst1 hn1 hrow hold hnot
              have hom := hh.row hl hrow
              obtain ⟨os, q1, q2, q3, q4, q5⟩ := hom.seg hold
              have hfo : (Builtin.firstCells sz len (.slice (some ⟨l.b, l.d + o, none⟩) len c)).run P w.drew = .ok ⟨os⟩ w.drew := by
                refine run_firstCells_some (P := P) w.drew sz len _ len c os q2 fun j y hy => ?_
                rw [add_none]
                exact q4 j y hy
              obtain ⟨μ', w', c', k1, k2, k3⟩ := append_new (P := P) (w := w) (ty := ty) (base := some ⟨l.b, l.d + o, none⟩) (sLen := len) (sCap := c) hst1.hr ht0 ht hu0 hu hd hs hb hz hzl hone hs0 g1 (gf w.drew rfl) hfo hnot hb0 hfit q1 g3 q5 g4 (by rw [← q1.length, q2]) g2
              refine ⟨.value (.slice (some ⟨w.heap.size, 0, none⟩) (len + m) c'), _, w', μ', [] ++ ws, ?_, .inl rfl, ?_, hst1.trans k3⟩
              · rw [h1]; simp only [Sem.run_bind, k1, Result.andThen_ok, Sem.run_pure]
              · rw [← hn1]; exact k2
            split at h
            · cases h
            · rename_i cs e' rw' hrow
              split at h
              · rename_i k
                have hck := hk k rfl
                split at h
                · rename_i hle
                  split at h
                  · rename_i hc
                    simp only [Option.some.injEq, Prod.mk.injEq] at h
                    obtain ⟨rfl, rfl⟩ := h
                    obtain ⟨rfl, hc2⟩ := hc
                    exact inPlace cs e' hrow hc2 (by omega) hk
                  · cases h
                · rename_i hle
                  split at h
                  · rename_i old hold
                    simp only [Option.some.injEq, Prod.mk.injEq] at h
                    obtain ⟨rfl, rfl⟩ := h
                    exact fresh st [] cs old e' rw' (Stp.refl hh) rfl hrow hold (by omega)
                  · cases h
              · split at h
                · rename_i hrw
                  subst hrw
                  have hom := hh.row hl hrow
                  have hct : cs.length ≤ l.tot := by obtain ⟨_, _, _, _, _, h3, _⟩ := hom; exact h3
                  have htot' := hcn rfl
                  have hadd : (len + m) * sz = len * sz + m * sz := Nat.add_mul ..
                  split at h
                  · rename_i hle
                    simp only [Option.some.injEq, Prod.mk.injEq] at h
                    obtain ⟨rfl, rfl⟩ := h
                    refine inPlace cs e' hrow hle ?_ hk
                    have : (len + m) * sz ≤ c * sz := by omega
                    exact Nat.le_of_mul_le_mul_right this (by omega)
                  · split at h
                    · rename_i hle hc
                      obtain ⟨hc1, rfl⟩ := hc
                      simp only [Option.some.injEq, Prod.mk.injEq] at h
                      obtain ⟨rfl, rfl⟩ := h
                      have hold : slc cs o (len * sz) = some (cs.drop o) := by
                        unfold slc
                        rw [if_pos (by omega), List.take_of_length_le (by simp; omega)]
                      by_cases hlm : len + m ≤ c
                      · -- in place, above what is known
                        obtain ⟨c', lo, hi, q1, q2, q3, q4, q5, q6⟩ := hom
                        obtain ⟨cur⟩ := c'
                        simp only [List.size_toArray] at q2
                        have hcm : (len + m) * sz ≤ c * sz := Nat.mul_le_mul_right _ hlm
                        have hrs := run_storeCells_row (P := P) l.b (l.d + (o + len * sz)) e' lo hi ys 0 cur w q1 (by omega) g4 (fun j hj1 hj2 => by
                          have := q6 rfl (j - l.d) (by omega)
                          rw [show l.d + (j - l.d) = j by omega] at this
                          exact this)
                        have hrun := run_append_fits (P := P) (w := w) (ty := ty) (base := some ⟨l.b, l.d + o, none⟩) (sLen := len) (sCap := c) ht0 ht hu0 hu hd hs g1 (gf w rfl) hlm (by
                          simp only [add_none]; rw [Nat.add_assoc]; exact hrs)
                        have hblk := setRow_heap w l.b _ (⟨splice cur (l.d + (o + len * sz) + 0) ys⟩ : Array Value) e' _ q1
                        have hmono : ∀ j lj, μ j = some lj → (fun j => if j = st.n then some (⟨l.b, l.d + o, l.tot - o⟩ : L) else μ j) j = some lj := fun j lj hj => by
                          have := (hh.dom j lj hj).1
                          simp only
                          rw [if_neg (by omega)]; exact hj
                        refine ⟨.value (.slice (some ⟨l.b, l.d + o, none⟩) (len + m) c), _, w.setRow l.b ⟨splice cur (l.d + (o + len * sz) + 0) ys⟩, fun j => if j = st.n then some ⟨l.b, l.d + o, l.tot - o⟩ else μ j, [i], ?_, .inl rfl, ?_, Stp.regrow hh hl (row_spec hrow) rfl rfl rfl rfl (by simp) (fun b hb => setRow_other w l.b b _ hb) rfl ⟨_, lo, hi, hblk, ?_, ?_, ?_, ?_, ?_⟩⟩
                        · rw [h1]; simp only [Sem.run_bind, hrun, Result.andThen_ok, Sem.run_pure]
                        · simp only [VR]
                          refine ⟨⟨l.b, l.d + o, l.tot - o⟩, c, by simp, by simp, hlm, ?_, by simp, fun _ => ?_⟩
                          · show 0 + c * sz ≤ l.tot - o
                            omega
                          · show 0 + c * sz = l.tot - o
                            omega
                        · simp only [List.size_toArray]
                          rw [splice_length (by omega)]; omega
                        · simp only [List.length_append, List.length_drop]; omega
                        · intro j u' hu'
                          have e1 : ∀ k : Nat, (⟨splice cur (l.d + (o + len * sz) + 0) ys⟩ : Array Value)[k]? = (splice cur (l.d + (o + len * sz) + 0) ys)[k]? := fun k => by simp
                          simp only
                          rw [e1, splice_get (by omega)]
                          rw [List.getElem?_append] at hu'
                          split at hu'
                          · rename_i hj
                            simp only [List.length_drop] at hj
                            rw [List.getElem?_drop] at hu'
                            obtain ⟨y', p1, p2⟩ := q4 (o + j) u' hu'
                            rw [if_neg (by omega)]
                            refine ⟨y', ?_, VR.mono hmono u' y' p2⟩
                            rw [show l.d + o + j = l.d + (o + j) by omega]
                            simpa using p1
                          · rename_i hj
                            simp only [List.length_drop] at hj hu'
                            obtain ⟨y', p1, p2⟩ := g3.get hu'
                            have hlt := (List.getElem?_eq_some_iff.1 p1).1
                            rw [if_pos (by omega)]
                            refine ⟨y', ?_, VR.mono hmono u' y' p2⟩
                            rw [show l.d + o + j - (l.d + (o + len * sz) + 0) = j - (cs.length - o) by omega]
                            exact p1
                        · intro j y' hlt' hy'
                          simp only at hlt' hy'
                          have e1 : (⟨splice cur (l.d + (o + len * sz) + 0) ys⟩ : Array Value)[l.d + o + j]? = (splice cur (l.d + (o + len * sz) + 0) ys)[l.d + o + j]? := by simp
                          rw [e1, splice_get (by omega)] at hy'
                          split at hy'
                          · exact g4 y' (List.mem_of_getElem? hy')
                          · exact q5 (o + j) y' (by omega) (by rw [show l.d + (o + j) = l.d + o + j by omega]; simpa using hy')
                        · intro _ j hj
                          have := q6 rfl (o + j) (by simp only at hj; omega)
                          rw [show l.d + (o + j) = l.d + o + j by omega] at this
                          exact this
                      · have hkill := Stp.kill hh hl (row_spec hrow) rfl
                        exact fresh (st.write i .dead) [i] cs (cs.drop o) e' true hkill rfl hrow hold hlm
                    · cases h
                · cases h
      · cases h
  · cases h

end
end Go.Mx
/- Every operation of M that calls no function stands for the Go model's. -/
namespace Go.Mx
open Go

section
variable {P : Program} {μ : Mu} {w : World} {st st' : St} {r : T V} {n : Nat} {a : Act} {call : CallT} {v : V}

def MOp.isCall : MOp → Bool
  | .call _ _ => true
  | _ => false

theorem list1 {α : Type} {a : Array α} {x : α} (h : a.toList = [x]) : a = #[x] := by
  apply Array.ext'; simpa using h
theorem list2 {α : Type} {a : Array α} {x y : α} (h : a.toList = [x, y]) : a = #[x, y] := by
  apply Array.ext'; simpa using h

theorem builtin_sim (hh : HRel P μ w st) (hr : RR μ r n a.tmps) {b : Builtin} {ts : Array TypeId} {xs : Array Operand} {ty : TypeId} {cs : Array Bool} {m : MOp} (hc : cCall P ⟨.builtin b, xs, ts⟩ = some m)
    (h : mop m call r st = some (v, st')) : OpOk P μ w st (builtin b ts ty cs (xs.map a.eval)) v st' := by
  simp only [cCall] at hc
  split at hc
  · rename_i t x ht hx
    have e1 := list1 ht
    have e2 := list1 hx
    subst e1 e2
    simp only [builtin, List.map_toArray, List.map_cons, List.map_nil]
    split at hc
    · rename_i s hu hs
      simp only [Option.some.injEq] at hc; subst hc
      exact len_str_ok (call := call) hh hr hu hs h
    · rename_i e s hu hs
      simp only [Option.some.injEq] at hc; subst hc
      exact len_slice_ok (call := call) hh hr hu hs h
    · rename_i k e s hu hs
      simp only [Option.some.injEq] at hc; subst hc
      exact len_map_ok (call := call) hh hr hu hs h
    · rename_i k e s hu
      simp only [Option.some.injEq] at hc; subst hc
      exact lenArr_ok (call := call) (r := r) hh (.inl ⟨_, hu⟩) h
    · rename_i u s hu
      split at hc
      · rename_i k e hu2
        simp only [Option.some.injEq] at hc; subst hc
        exact lenArr_ok (call := call) (r := r) hh (.inr ⟨_, _, hu, hu2⟩) h
      · cases hc
    · cases hc
  · rename_i t x ht hx
    have e1 := list1 ht
    have e2 := list1 hx
    subst e1 e2
    simp only [builtin, List.map_toArray, List.map_cons, List.map_nil]
    split at hc
    · rename_i e s hu hs
      simp only [Option.some.injEq] at hc; subst hc
      exact cap_ok (call := call) hh hr hu hs h
    · cases hc
  · split at hc
    · rename_i l hl
      simp only [Option.some.injEq] at hc; subst hc
      exact mn_ok (call := call) hh hr hl h
    · cases hc
  · split at hc
    · rename_i l hl
      simp only [Option.some.injEq] at hc; subst hc
      exact mx_ok (call := call) hh hr hl h
    · cases hc
  · rename_i t u s x ht hx
    have e1 := list2 ht
    have e2 := list2 hx
    subst e1 e2
    simp only [builtin, List.map_toArray, List.map_cons, List.map_nil]
    split at hc
    · rename_i e hu
      split at hc
      · rename_i n' b' z s' x' d hs hb hz hs' hx' hd
        rw [Option.ite_none_left_eq_some] at hc
        obtain ⟨hcond, hc⟩ := hc
        simp only [not_or, Decidable.not_not] at hcond
        obtain ⟨c1, c2, c3, c4⟩ := hcond
        simp only [Option.some.injEq] at hc; subst hc
        have c4' : z.cells.all V.one = true := by simpa using c4
        exact append_ok (call := call) hh hr (by rfl) hu (by rfl) hd (fun k hk => by subst hk; simp at c1) hs hb hz c3 c4' c2 hs' hx' h
      · cases hc
    · cases hc
  · rename_i t ts' d s ht hx
    have e2 := list2 hx
    subst e2
    simp only [builtin, List.map_toArray, List.map_cons, List.map_nil]
    split at hc
    · rename_i e hu
      split at hc
      · rename_i n' d' s' hs hd hs'
        simp only [Option.some.injEq] at hc; subst hc
        exact copy_ok (call := call) hh hr (by rw [← Array.getElem?_toList, ht]; rfl) hu hs hd hs' h
      · cases hc
    · cases hc
  · rename_i t s ht hx
    have e1 := list1 ht
    have e2 := list1 hx
    subst e1 e2
    simp only [builtin, List.map_toArray, List.map_cons, List.map_nil]
    split at hc
    · rename_i e hu
      split at hc
      · rename_i n' z s' hs hz hs'
        split at hc
        · rename_i hone
          simp only [Option.some.injEq] at hc; subst hc
          exact clear_ok (call := call) hh hr hu hz hone hs' h
        · cases hc
      · cases hc
    · cases hc
  · cases hc

theorem op_sim (hh : HRel P μ w st) (hr : RR μ r n a.tmps) (hE : ExtsOk P) {o : Oper} {m : MOp} (hc : cOp? P o.op = some m) (hn : m.isCall = false) (h : mop m call r st = some (v, st')) :
    OpOk P μ w st (execOp a.eval o) v st' := by
  obtain ⟨dst, op, ty, pos, af, g⟩ := o
  cases op <;> simp only [cOp?] at hc <;> try (cases hc; done)
  case move x => simp only [Option.map_eq_some_iff] at hc; obtain ⟨s, h1, rfl⟩ := hc; exact mov_ok (call := call) hh hr h1 h
  case assign x => simp only [Option.map_eq_some_iff] at hc; obtain ⟨s, h1, rfl⟩ := hc; exact mov_ok (call := call) hh hr h1 h
  case pick c x y =>
    split at hc
    · rename_i h1 h2 h3
      simp only [Option.some.injEq] at hc; subst hc
      exact pick_ok (call := call) hh hr h1 h2 h3 h
    · cases hc
  case alloc e =>
    split at hc
    · rename_i z hz
      split at hc
      · rename_i hone
        simp only [Option.some.injEq] at hc; subst hc
        exact alloc_ok (call := call) (r := r) hh hz hone h
      · cases hc
    · cases hc
  case box e x => simp only [Option.map_eq_some_iff] at hc; obtain ⟨s, h1, rfl⟩ := hc; exact box_ok (call := call) hh hr h1 h
  case build t parts =>
    split at hc
    · cases hc
    · rename_i z hz
      split at hc
      · rename_i fs hfs
        split at hc
        · rename_i pl hpl
          simp only [Option.map_eq_some_iff] at hc
          obtain ⟨cps, h1, rfl⟩ := hc
          exact build_struct_ok (call := call) hh hr hz hfs hpl h1 h
        · cases hc
      · rename_i k e hu
        split at hc
        · rename_i s hs
          simp only [Option.map_eq_some_iff] at hc
          obtain ⟨cps, h1, rfl⟩ := hc
          exact build_array_ok (call := call) hh hr hz hu hs h1 h
        · cases hc
      · cases hc
  case buildSlice t len parts =>
    split at hc
    · rename_i e hu
      split at hc
      · rename_i s z hs hz
        split at hc
        · cases hc
        · rename_i hcond
          simp only [not_or, Decidable.not_not] at hcond
          simp only [Option.map_eq_some_iff] at hc
          obtain ⟨cps, h1, rfl⟩ := hc
          exact bslice_ok (call := call) hh hr hu hs hz hcond.1 hcond.2.1 h1 h
      · cases hc
    · cases hc
  case load t x =>
    split at hc
    · rename_i h1 h2
      simp only [Option.some.injEq] at hc; subst hc
      exact load_ok (call := call) hh hr h1 h2 h
    · cases hc
  case store t x y =>
    split at hc
    · rename_i h1 h2 h3
      simp only [Option.some.injEq] at hc; subst hc
      exact store_ok (call := call) hh hr h1 h2 h3 h
    · cases hc
  case nilCheck x => simp only [Option.map_eq_some_iff] at hc; obtain ⟨s, h1, rfl⟩ := hc; exact nilck_ok (call := call) hh hr h1 h
  case binOp op t x y p =>
    split at hc
    · rename_i s u h1 h2
      have fin : ∀ q ng, CmpOk P op t x y q ng → m = .bin op q ng s u → OpOk P μ w st (execOp a.eval ⟨dst, .binOp op t x y p, ty, pos, af, g⟩) v st' := by
        intro q ng hq hm
        subst hm
        exact bin_ok (call := call) hh hr h1 h2 hq h
      cases op
      case eql =>
        simp only at hc
        split at hc
        · rename_i q hq
          rw [Option.ite_none_left_eq_some] at hc
          obtain ⟨hcond, hc⟩ := hc
          simp only [Option.some.injEq] at hc
          exact fin _ _ (fun _ => ⟨hq, by rw [Bool.not_eq_true] at hcond; exact hcond, rfl⟩) hc.symm
        · cases hc
      case neq =>
        simp only at hc
        split at hc
        · rename_i q hq
          rw [Option.ite_none_left_eq_some] at hc
          obtain ⟨hcond, hc⟩ := hc
          simp only [Option.some.injEq] at hc
          exact fin _ _ (fun _ => ⟨hq, by rw [Bool.not_eq_true] at hcond; exact hcond, rfl⟩) hc.symm
        · cases hc
      all_goals
        simp only [Option.some.injEq] at hc
        exact fin _ _ (fun hq => by rcases hq with hq | hq <;> cases hq) hc.symm
    · cases hc
  case unOp op t x => simp only [Option.map_eq_some_iff] at hc; obtain ⟨s, h1, rfl⟩ := hc; exact un_ok (call := call) hh hr h1 h
  case convert src dst' x =>
    split at hc
    · cases hc
    · rename_i s h1
      split at hc
      · rename_i q k hq hk
        simp only [Option.some.injEq] at hc; subst hc
        exact convInt_ok (call := call) hh hr ⟨_, hq⟩ hk h1 h
      · rename_i hq hk
        simp only [Option.some.injEq] at hc; subst hc
        exact convStr_ok (call := call) hh hr hq hk h1 h
      · rename_i e hq hk
        split at hc
        · rename_i he
          simp only [Option.some.injEq] at hc; subst hc
          exact strBytes_ok (call := call) hh hr hq hk he h1 h
        · cases hc
      · rename_i e hq hk
        split at hc
        · rename_i he
          simp only [Option.some.injEq] at hc; subst hc
          exact bytesStr_ok (call := call) hh hr hq hk he h1 h
        · cases hc
      · cases hc
  case makeInterface t x =>
    split at hc
    · cases hc
    · rename_i d hne hd
      simp only [Option.map_eq_some_iff] at hc; obtain ⟨s, h1, rfl⟩ := hc
      exact mkiface_ok (call := call) hh hr hd (fun k hk => hne k hk) h1 h
    · cases hc
  case makeFunc f first caps =>
    cases f <;> simp only [reduceCtorEq] at hc
    split at hc
    · rename_i h1 h2
      simp only [Option.some.injEq] at hc; subst hc
      exact mkfunc_ok (call := call) hh hr h1 h2 h
    · cases hc
  case makeMap t rsv =>
    cases rsv <;> simp only [reduceCtorEq] at hc
    simp only [Option.some.injEq] at hc; subst hc
    exact mkmap_ok (call := call) (r := r) hh h
  case makeChan t x =>
    split at hc
    · rename_i d e hu
      split at hc
      · rename_i hb hx
        simp only [Option.some.injEq] at hc; subst hc
        exact mkchan_ok (call := call) hh hr hu hb hx h
      · cases hc
    · cases hc
  case makeSlice t x y =>
    split at hc
    · rename_i e hu
      split at hc
      · rename_i hs hb hz hx hy
        split at hc
        · rename_i hone
          simp only [Option.some.injEq] at hc; subst hc
          exact mkslice_ok (call := call) hh hr hu hs hb hz hone hx hy h
        · cases hc
      · cases hc
    · cases hc
  case slice t x lo hi mx =>
    split at hc
    · rename_i hx hlo hhi hmx
      split at hc
      · rename_i hu
        split at hc
        · cases hc
        · rename_i hnone
          simp only [Option.some.injEq] at hc; subst hc
          have hm : mx = none := by
            cases mx with
            | none => rfl
            | some q =>
              simp only [cOpt] at hmx
              split at hmx
              · simp only [Option.some.injEq] at hmx
                subst hmx; simp at hnone
              · cases hmx
          subst hm
          exact sliceStr_ok (call := call) hh hr hu hx hlo hhi h
      · rename_i e hu
        simp only [Option.map_eq_some_iff] at hc; obtain ⟨s, h1, rfl⟩ := hc
        exact sliceSl_ok (call := call) hh hr hu h1 hx hlo hhi hmx h
      · rename_i k e hu
        simp only [Option.map_eq_some_iff] at hc; obtain ⟨s, h1, rfl⟩ := hc
        exact sliceArr_ok (call := call) hh hr hu h1 hx hlo hhi hmx h
      · cases hc
    · cases hc
  case fieldAddr t x i =>
    split at hc
    · rename_i hu hx
      split at hc
      · rename_i f hf
        split at hc
        · rename_i hk
          simp only [Option.some.injEq] at hc; subst hc
          exact faddr_ok (call := call) hh hr hu hf hk hx h
        · cases hc
      · cases hc
    · cases hc
  case field t x i =>
    split at hc
    · rename_i hu hx
      split at hc
      · rename_i f hf
        simp only [Option.map_eq_some_iff] at hc; obtain ⟨s, h1, rfl⟩ := hc
        exact field_ok (call := call) hh hr hu hf h1 hx h
      · cases hc
    · cases hc
  case indexAddr t x i =>
    split at hc
    · rename_i hu hx hi
      simp only [Option.map_eq_some_iff] at hc; obtain ⟨s, h1, rfl⟩ := hc
      exact iaddrArr_ok (call := call) hh hr hu h1 hx hi h
    · rename_i hu hx hi
      simp only [Option.map_eq_some_iff] at hc; obtain ⟨s, h1, rfl⟩ := hc
      exact iaddrSl_ok (call := call) hh hr hu h1 hx hi h
    · cases hc
  case index t x i =>
    split at hc
    · rename_i hu hx hi
      split at hc
      · rename_i hs ha
        simp only [Option.some.injEq] at hc; subst hc
        exact idxArr_ok (call := call) hh hr hu hs ha hx hi h
      · cases hc
    · rename_i hu hx hi
      simp only [Option.some.injEq] at hc; subst hc
      exact idxStr_ok (call := call) hh hr hu hx hi h
    · cases hc
  case lookup t x k ok =>
    split at hc
    · rename_i hu hx hk
      split at hc
      · rename_i h1 h2
        simp only [Option.some.injEq] at hc; subst hc
        exact lookup_ok (call := call) hh hr hu h1 h2 hx hk h
      · cases hc
    · cases hc
  case mapUpdate t x k y =>
    split at hc
    · rename_i hu hx hk hy
      simp only [Option.map_eq_some_iff] at hc; obtain ⟨s, h1, rfl⟩ := hc
      exact mapset_ok (call := call) hh hr hu h1 hx hk hy h
    · cases hc
  case insert t x k y =>
    split at hc
    · rename_i hu hx hk hy
      simp only [Option.map_eq_some_iff] at hc; obtain ⟨s, h1, rfl⟩ := hc
      exact mapset_ok (call := call) hh hr hu h1 hx hk hy h
    · cases hc
  case range t x =>
    split at hc
    · rename_i hu hx
      simp only [Option.some.injEq] at hc; subst hc
      exact rangeStr_ok (call := call) hh hr hu hx h
    · cases hc
  case next it isS =>
    cases isS <;> simp only [reduceCtorEq] at hc
    simp only [Option.map_eq_some_iff] at hc; obtain ⟨s, h1, rfl⟩ := hc
    exact nextStr_ok (call := call) hh hr h1 h
  case extract x i => simp only [Option.map_eq_some_iff] at hc; obtain ⟨s, h1, rfl⟩ := hc; exact extract_ok (call := call) hh hr h1 h
  case call c =>
    obtain ⟨callee, args, ats⟩ := c
    cases callee with
    | invoke r' nm => simp only [cCall, reduceCtorEq] at hc
    | builtin b =>
      have := builtin_sim (ty := ty) (cs := args.map fun | .const _ => true | _ => false) hh hr hc h
      obtain ⟨nx, x, w', μ', ws, k1, k2⟩ := this
      refine ⟨nx, x, w', μ', ws, ?_, k2⟩
      rw [← k1]
      simp [execOp, resolve, invoke]
      rfl
    | value f =>
      simp only [cCall] at hc
      split at hc
      · cases hc
      · rename_i ss hss
        cases f <;> simp only at hc
        case func gid =>
          split at hc
          · rename_i fn hfn
            split at hc
            · simp only [Option.some.injEq] at hc; subst hc; simp [MOp.isCall] at hn
            · rename_i hb
              split at hc
              · rename_i e he
                simp only [Option.some.injEq] at hc; subst hc
                have := ext_ok (call := call) hh hr hE hfn (by simpa using hb) he hss h
                obtain ⟨nx, x, w', μ', ws, k1, k2⟩ := this
                refine ⟨nx, x, w', μ', ws, ?_, k2⟩
                rw [← k1]
                have e0 : (⟨List.map a.eval args.toList⟩ : Array Value) = args.map a.eval := by apply Array.ext'; simp
                rw [e0]
                simp [execOp, resolve, invoke, Deferred.ofValue, Act.eval]
              · cases hc
          · cases hc
        all_goals
          split at hc
          · simp only [Option.some.injEq] at hc; subst hc; simp [MOp.isCall] at hn
          · cases hc

end
end Go.Mx
