/-
  The operations of M stand for the Go model's: lengths, look-ups, new blocks, aggregates.
-/
import Derived.Test.YtppobccilnifoaaGreatDoorMxOp4
set_option linter.all false
namespace Go.Mx
open Go
section
variable {P : Program} {μ : Mu} {w : World} {st st' : St} {r : T V} {n : Nat} {a : Act} {call : CallT} {v : V}
theorem splice_length {α : Type} {c vs : List α} {o : Nat} (h : o + vs.length ≤ c.length) : (splice c o vs).length = c.length := by
 simp [splice]; omega
theorem splice_get {α : Type} {c vs : List α} {o : Nat} (h : o + vs.length ≤ c.length) (j : Nat) : (splice c o vs)[j]? = if o ≤ j ∧ j < o + vs.length then vs[j - o]? else c[j]? := by
 have hlt : (c.take o).length = o := by simp; omega
 unfold splice
 rw [List.append_assoc]
 by_cases h1 : j < o
 ·rw [List.getElem?_append_left (by omega), if_neg (by omega), List.getElem?_take, if_pos h1]
 ·rw [List.getElem?_append_right (by omega), hlt]
  by_cases h2 : j < o + vs.length
  ·rw [List.getElem?_append_left (by omega), if_pos ⟨by omega, h2⟩]
  ·rw [List.getElem?_append_right (by omega), if_neg (by omega), List.getElem?_drop]
   congr 1; omega
theorem VRs.splice {c vs : List V} {c' vs' : List Value} (h : VRs μ c c') (h' : VRs μ vs vs') (o : Nat) : VRs μ (splice c o vs) (splice c' o vs') := by
 unfold Mx.splice
 rw [h'.length]
 exact ((h.take o).append h').append (h.drop _)
theorem splice_step {α : Type} (c : List α) (o : Nat) (x : α) (vs : List α) (h : o < c.length) : Mx.splice (c.set o x) (o + 1) vs = Mx.splice c o (x :: vs) := by
 unfold Mx.splice
 have e1 : (c.set o x).take (o + 1) = c.take o ++ [x] := by
  rw [List.take_add_one, List.take_set_of_le (Nat.le_refl _)]
  simp [h]
 have e2 : (c.set o x).drop (o + 1 + vs.length) = c.drop (o + (vs.length + 1)) := by
  rw [List.drop_set_of_lt (by omega)]
  congr 1; omega
 rw [e1, e2]
 simp
theorem fold_set (off : Nat) : ∀ (vs : List Value) (k : Nat) (cs : List Value), off + k + vs.length ≤ cs.length →
  (vs.zipIdx k).foldl (fun (cs : Array Value) (p : Value × Nat) => cs.setIfInBounds (off + p.2) p.1) ⟨cs⟩ = ⟨splice cs (off + k) vs⟩ := by
 intro vs
 induction vs with
 | nil => intro k cs h; simp [splice]
 | cons x vs ih =>
  intro k cs h
  simp only [List.length_cons] at h
  simp only [List.zipIdx_cons, List.foldl_cons]
  have e : (⟨cs⟩ : Array Value).setIfInBounds (off + k) x = ⟨cs.set (off + k) x⟩ := by
   apply Array.ext'
   simp
  rw [e, ih (k + 1) (cs.set (off + k) x) (by simp; omega), ← Nat.add_assoc, splice_step _ _ _ _ (by omega)]
theorem fill_sim (hh : HRel P μ w st) (hr : RR μ r n a.tmps) {place : Nat → Option (Nat × Nat)} : ∀ {parts : List (Nat × Operand)} {cps : List (Nat × Nat × Src)}, cParts P place parts = some cps →
  ∀ {ps : List (Nat × Nat × V)}, evParts r cps = some ps → ∀ {cs : List V} {cs' : List Value}, VRs μ cs cs' → ∀ {l : List V}, fillV cs ps = some l →
  ∃ l', Instr.fill place ⟨cs'⟩ (parts.map fun p => (p.1, a.eval p.2)) = some ⟨l'⟩ ∧ VRs μ l l' := by
 intro parts
 induction parts with
 | nil =>
  intro cps hc ps he cs cs' hcs l hl
  simp only [cParts, Option.some.injEq] at hc; subst hc
  simp only [evParts, Option.some.injEq] at he; subst he
  simp only [fillV, Option.some.injEq] at hl; subst hl
  exact ⟨cs', by simp [Instr.fill], hcs⟩
 | cons p parts ih =>
  intro cps hc ps he cs cs' hcs l hl
  obtain ⟨i, x⟩ := p
  simp only [cParts] at hc
  split at hc
  ·rename_i o s sx l' hp hx hrest
   simp only [Option.some.injEq] at hc; subst hc
   simp only [evParts] at he
   split at he
   ·rename_i u vs hu hvs
    simp only [Option.some.injEq] at he; subst he
    simp only [fillV] at hl
    split at hl
    ·rename_i hcond
     have hux := ev_sim hh hr hx hu
     have hcells := hux.cells
     have hlen : (a.eval x).cells.size = s := by
      have := hcells.length
      rw [← hcond.1, ← this]; simp
     have hlen' : (a.eval x).cells.toList.length = s := by simpa using hlen
     obtain ⟨l'', h1, h2⟩ := ih hrest hvs (hcs.splice hcells o) hl
     refine ⟨l'', ?_, h2⟩
     simp only [List.map_cons, Instr.fill, hp]
     rw [if_neg]
     ·have e : ((a.eval x).cells.zipIdx.foldl (fun (cs : Array Value) (p : Value × Nat) => cs.setIfInBounds (o + p.2) p.1) ⟨cs'⟩) = ⟨splice cs' o (a.eval x).cells.toList⟩ := by
       rw [← Array.foldl_toList, Array.toList_zipIdx]
       have := fold_set o (a.eval x).cells.toList 0 cs' (by rw [hlen', hcs.length]; omega)
       simpa using this
      rw [← h1]
      congr 1
     ·have hcl := hcs.length
      simp only [hlen, ne_eq, not_true_eq_false, decide_false, Bool.false_or, decide_eq_true_eq]
      simp [hcl]; omega
    ·cases hl
   ·cases he
  ·cases hc
theorem places_run : ∀ {fs : List Field} {pl : List (Nat × Nat)}, places P fs = some pl → fs.mapM (fun f => (P.info? f.type).map fun i => (f.offset, i.size)) = some pl := by
 intro fs
 induction fs with
 | nil => intro pl h; simp only [places, Option.some.injEq] at h; subst h; simp
 | cons f fs ih =>
  intro pl h
  simp only [places] at h
  split at h
  ·rename_i s l hs hl
   simp only [Option.some.injEq] at h; subst h
   unfold sizeP at hs
   simp only [Option.map_eq_some_iff] at hs
   obtain ⟨i, hi, rfl⟩ := hs
   simp [List.mapM_cons, hi, ih hl]
  ·cases h
theorem zeroP_info {t : TypeId} {z : V} (h : zeroP P t = some z) : ∃ i x, P.info? t = some i ∧ i.zero = some x ∧ ∀ μ, VR μ z x := by
 unfold zeroP at h
 split at h
 ·rename_i i hi
  split at h
  ·rename_i x hx
   exact ⟨i, x, hi, hx, fun μ => cV_sim μ x z h⟩
  ·cases h
 ·cases h
theorem build_struct_ok (hh : HRel P μ w st) (hr : RR μ r n a.tmps) {t : TypeId} {fs : Array Field} {pl : List (Nat × Nat)} {z : V} {parts : Array (Nat × Operand)} {cps : List (Nat × Nat × Src)}
  (hz : zeroP P t = some z) (ht : P.underlying t = some (.struct fs)) (hp : places P fs.toList = some pl) (hc : cParts P (pl[·]?) parts.toList = some cps) (h : op_build z.cells cps call r st = some (v, st')) :
  OpOk P μ w st (do pure (.value (← Instr.build t (parts.map fun (i, x) => (i, a.eval x))))) v st' := by
 unfold op_build at h
 split at h
 ·rename_i ps hps
  split at h
  ·rename_i l hl
   simp only [Option.some.injEq, Prod.mk.injEq] at h
   obtain ⟨rfl, rfl⟩ := h
   obtain ⟨i, x, hi, hx, hzx⟩ := zeroP_info hz
   obtain ⟨l', h1, h2⟩ := fill_sim hh hr hc hps (hzx μ).cells hl
   refine OpOk.value hh (x := .agg ⟨l'⟩) (run_build w t _ _ ?_) ⟨l', rfl, h2⟩
   simp only [Program.built, hi, ht, hx, places_run hp]
   rw [← h1]
   simp
  ·cases h
 ·cases h
theorem build_array_ok (hh : HRel P μ w st) (hr : RR μ r n a.tmps) {t e : TypeId} {k s : Nat} {z : V} {parts : Array (Nat × Operand)} {cps : List (Nat × Nat × Src)}
  (hz : zeroP P t = some z) (ht : P.underlying t = some (.array k e)) (hs : sizeP P e = some s) (hc : cParts P (fun i => some (i * s, s)) parts.toList = some cps) (h : op_build z.cells cps call r st = some (v, st')) :
  OpOk P μ w st (do pure (.value (← Instr.build t (parts.map fun (i, x) => (i, a.eval x))))) v st' := by
 unfold op_build at h
 split at h
 ·rename_i ps hps
  split at h
  ·rename_i l hl
   simp only [Option.some.injEq, Prod.mk.injEq] at h
   obtain ⟨rfl, rfl⟩ := h
   obtain ⟨i, x, hi, hx, hzx⟩ := zeroP_info hz
   unfold sizeP at hs
   simp only [Option.map_eq_some_iff] at hs
   obtain ⟨ie, hie, rfl⟩ := hs
   obtain ⟨l', h1, h2⟩ := fill_sim hh hr hc hps (hzx μ).cells hl
   refine OpOk.value hh (x := .agg ⟨l'⟩) (run_build w t _ _ ?_) ⟨l', rfl, h2⟩
   simp only [Program.built, hi, ht, hx, hie]
   rw [← h1]
   simp
  ·cases h
 ·cases h
theorem all_one {vs : List V} {xs : List Value} (h : VRs μ vs xs) (hv : vs.all V.one = true) : ∀ x ∈ xs, x.oneCell' = true := by
 intro x hx
 obtain ⟨j, hj⟩ := List.getElem?_of_mem hx
 have hl := h.length
 have hjl : j < xs.length := (List.getElem?_eq_some_iff.1 hj).1
 have : ∃ u, vs[j]? = some u := ⟨vs[j]'(by omega), by simp⟩
 obtain ⟨u, hu⟩ := this
 obtain ⟨y, h1, h2⟩ := h.get hu
 rw [hj] at h1; cases h1
 have hu1 : u.one = true := by
  rw [List.all_eq_true] at hv
  exact hv u (List.mem_of_getElem? hu)
 have := h2.one hu1
 cases x <;> simp_all [Value.oneCell']
theorem OpOk.newRow (hh : HRel P μ w st) {s : Sem Value} {x : Value} {cs : List V} {xs : List Value} {e : TypeId} (hs : s.run P w = .ok x (w.alloc (.cells ⟨xs⟩ e)))
  (hc : VRs μ cs xs) (h1 : ∀ x ∈ xs, x.oneCell' = true) (hv : VR (fun i => if i = st.n then some ⟨w.heap.size, 0, xs.length⟩ else μ i) v x) :
  OpOk P μ w st (do pure (.value (← s))) v (st.alloc (.cells cs e true)) := by
 have hmono : ∀ i l, μ i = some l → (fun i => if i = st.n then some (⟨w.heap.size, 0, xs.length⟩ : L) else μ i) i = some l := fun i l hl => by
  have := (hh.dom i l hl).1
  simp only
  rw [if_neg (by omega)]; exact hl
 refine ⟨Next.value x, x, _, _, [], by simp [hs, Result.andThen], .inl rfl, hv, Stp.alloc hh (.cells cs e true) (.cells ⟨xs⟩ e) 0 xs.length ⟨⟨xs⟩, 0, 0, ?_, by simp, by simp [hc.length], fun j u hu => ?_, fun j y _ hy => ?_, fun _ => ⟨rfl, fun j hj => by omega⟩⟩⟩
 ·simp
 ·obtain ⟨y, hy, hr⟩ := hc.get hu
  exact ⟨y, by simpa using hy, VR.mono hmono u y hr⟩
 ·exact h1 y (List.mem_of_getElem? (by simpa using hy))
theorem alloc_ok (hh : HRel P μ w st) {e : TypeId} {z : V} (hz : zeroP P e = some z) (hone : z.cells.all V.one = true) (h : op_alloc z.cells e call r st = some (v, st')) :
  OpOk P μ w st (do pure (.value (← Instr.alloc e true (.tuple #[])))) v st' := by
 unfold op_alloc at h
 simp only [Option.some.injEq, Prod.mk.injEq] at h
 obtain ⟨rfl, rfl⟩ := h
 obtain ⟨i, x, hi, hx, hzx⟩ := zeroP_info hz
 refine OpOk.newRow hh (v := .ptr st.n 0) (xs := x.cells.toList) (x := .pointer (some ⟨w.heap.size, 0, none⟩)) ?_ (hzx μ).cells (all_one (hzx μ).cells hone) (by simp only [VR]; exact ⟨⟨w.heap.size, 0, x.cells.toList.length⟩, by simp, by simp⟩)
 simp [Instr.alloc, zeroValue, typeInfo, hi, hx, newVar, Go.newRow, Result.andThen]
theorem box_ok (hh : HRel P μ w st) (hr : RR μ r n a.tmps) {e : TypeId} {x : Operand} {s : Src} (hx : cSrc P x = some s) (h : op_box e s call r st = some (v, st')) :
  OpOk P μ w st (do pure (.value (← Instr.box e (a.eval x)))) v st' := by
 unfold op_box at h
 split at h
 ·rename_i u hu
  split at h
  ·rename_i hone
   simp only [Option.some.injEq, Prod.mk.injEq] at h
   obtain ⟨rfl, rfl⟩ := h
   have hux := ev_sim hh hr hx hu
   refine OpOk.newRow hh (v := .ptr st.n 0) (xs := (a.eval x).cells.toList) (x := .pointer (some ⟨w.heap.size, 0, none⟩)) ?_ hux.cells (all_one hux.cells hone) (by simp only [VR]; exact ⟨⟨w.heap.size, 0, _⟩, by simp; rfl, by simp⟩)
   simp [Instr.box, newVar, Go.newRow, Result.andThen]
  ·cases h
 ·cases h
end
end Go.Mx
namespace Go.Mx
open Go
section
variable {P : Program} {μ : Mu} {w : World} {st st' : St} {r : T V} {n : Nat} {a : Act} {call : CallT} {v : V}
theorem zrep_length (zs : List V) (k : Nat) : (zrep zs k).length = k * zs.length := by simp [zrep]
theorem zrep_sim {zs : List V} {xs : List Value} (h : VRs μ zs xs) (k : Nat) : VRs μ (zrep zs k) (madeCells ⟨xs⟩ (k * zs.length)).toList := by
 have hl := h.length
 refine VRs.of_get (by simp [zrep, madeCells]) fun j u hu => ?_
 have hj : j < k * zs.length := by
  have := (List.getElem?_eq_some_iff.1 hu).1
  simpa [zrep] using this
 have hz : 0 < zs.length := by
  rcases Nat.eq_zero_or_pos zs.length with e | e
  ·rw [e] at hj; simp at hj
  ·exact e
 have hmod : j % zs.length < zs.length := Nat.mod_lt _ hz
 simp only [zrep, List.getElem?_map, List.getElem?_range hj, Option.map_some, Option.some.injEq] at hu
 obtain ⟨y, h1, h2⟩ := h.get (i := j % zs.length) (v := zs[j % zs.length]) (by simp [hmod])
 refine ⟨y, ?_, ?_⟩
 ·simp only [madeCells, Array.toList_map, Array.toList_range, List.getElem?_map, List.getElem?_range hj, Option.map_some, Option.some.injEq]
  have h1' : (⟨xs⟩ : Array Value)[j % xs.length]? = some y := by rw [hl]; simpa using h1
  simp only [Array.size, getElem!_def, h1']
 ·rw [← hu]
  simpa [List.getD, hmod] using h2
theorem zrep_one {zs : List V} (h : zs.all V.one = true) (k : Nat) : ∀ {xs : List Value}, VRs μ (zrep zs k) xs → ∀ x ∈ xs, x.oneCell' = true := by
 intro xs hx
 refine all_one hx ?_
 rw [List.all_eq_true]
 intro u hu
 simp only [zrep, List.mem_map, List.mem_range] at hu
 obtain ⟨j, hj, rfl⟩ := hu
 have hz : 0 < zs.length := by
  rcases Nat.eq_zero_or_pos zs.length with e | e
  ·rw [e] at hj; simp at hj
  ·exact e
 have hmod : j % zs.length < zs.length := Nat.mod_lt _ hz
 rw [List.all_eq_true] at h
 simpa [List.getD, hmod] using h zs[j % zs.length] (by simp)
theorem bslice_ok (hh : HRel P μ w st) (hr : RR μ r n a.tmps) {t e : TypeId} {s len : Nat} {z : V} {parts : Array (Nat × Operand)} {cps : List (Nat × Nat × Src)}
  (ht : P.underlying t = some (.slice e)) (hs : sizeP P e = some s) (hz : zeroP P e = some z) (hle : ¬ len * s > 2 ^ 24) (hzs : z.cells.length = s)
  (hc : cParts P (fun i => some (i * s, s)) parts.toList = some cps) (h : op_bslice e s len (zrep z.cells len) cps call r st = some (v, st')) :
  OpOk P μ w st (do pure (.value (← Instr.buildSlice t len (parts.map fun (i, x) => (i, a.eval x))))) v st' := by
 unfold op_bslice at h
 split at h
 ·rename_i ps hps
  split at h
  ·rename_i l hl
   split at h
   ·rename_i hone
    simp only [Option.some.injEq, Prod.mk.injEq] at h
    obtain ⟨rfl, rfl⟩ := h
    obtain ⟨i, x, hi, hx, hzx⟩ := zeroP_info hz
    have hz1 := (hzx μ).cells
    have hsim := zrep_sim hz1 len
    rw [hzs] at hsim
    obtain ⟨l', h1, h2⟩ := fill_sim hh hr hc hps hsim hl
    have hll := h2.length
    refine OpOk.newRow hh (v := .slice st.n 0 len (some len) s) (xs := l') (x := .slice (some ⟨w.heap.size, 0, none⟩) len len) ?_ h2 (all_one h2 hone) ?_
    ·have h1' : Instr.fill (fun i => some (i * s, s)) (madeCells x.cells (len * s)) (parts.map fun p => (p.1, a.eval p.2)).toList = some ⟨l'⟩ := by
      rw [← h1]
      simp
     simp only [Instr.buildSlice, Sem.run_bind, run_underlying ht, Result.andThen, run_sizeP hs, if_neg hle]
     split
     ·rename_i e0
      have hcells : ((Array.range (len * s)).map ((#[] : Array Value)[· % (#[] : Array Value).size]!)) = madeCells x.cells (len * s) := by
       simp [madeCells, e0]
      simp only [Sem.run_bind, Sem.run_pure, Result.andThen, hcells]
      rw [h1']
      simp [Go.newRow, Result.andThen]
     ·have hcells : ((Array.range (len * s)).map (x.cells[· % x.cells.size]!)) = madeCells x.cells (len * s) := rfl
      simp only [zeroValue, typeInfo, Sem.run_bind, Sem.run_pure, Result.andThen, hi, hx, run_program]
      simp only [hcells]
      rw [h1']
      simp [Go.newRow, Result.andThen]
    ·have hfill : l.length = len * s := by
      have : ∀ (ps : List (Nat × Nat × V)) (cs l : List V), fillV cs ps = some l → l.length = cs.length := by
       intro ps
       induction ps with
       | nil => intro cs l h; simp only [fillV, Option.some.injEq] at h; rw [h]
       | cons p ps ih =>
        intro cs l h
        obtain ⟨o, s, u⟩ := p
        simp only [fillV] at h
        split at h
        ·rename_i hc
         rw [ih _ _ h, splice_length (by omega)]
        ·cases h
      rw [this ps _ l hl, zrep_length, hzs]
     simp only [VR]
     exact ⟨⟨w.heap.size, 0, l'.length⟩, len, by simp, by simp, Nat.le_refl _, by simp [hll, hfill], by simp, by simp⟩
   ·cases h
  ·cases h
 ·cases h
theorem mkslice_ok (hh : HRel P μ w st) (hr : RR μ r n a.tmps) {t e : TypeId} {s b : Nat} {z : V} {x y : Operand} {sx sy : Src} (ht : P.underlying t = some (.slice e)) (hs : sizeP P e = some s) (hb : bytesP P e = some b) (hz : zeroP P e = some z)
  (hone : z.cells.all V.one = true) (hx : cSrc P x = some sx) (hy : cSrc P y = some sy) (h : op_mkslice e s b z.cells sx sy call r st = some (v, st')) :
  OpOk P μ w st (do pure (.value (← Instr.makeSlice t (a.eval x) (a.eval y)))) v st' := by
 unfold op_mkslice at h
 split at h
 ·rename_i k l k' c h1 h2
  have e1 := ev_sim hh hr hx h1
  have e2 := ev_sim hh hr hy h2
  simp only [VR] at e1 e2
  split at h
  ·rename_i hc
   obtain ⟨hl0, hlc, hbc, hc62, hsz, hs0⟩ := hc
   simp only [Option.some.injEq, Prod.mk.injEq] at h
   obtain ⟨rfl, rfl⟩ := h
   obtain ⟨i, zx, hi, hzx, hzr⟩ := zeroP_info hz
   unfold sizeP at hs
   unfold bytesP at hb
   simp only [hi, Option.map_some, Option.some.injEq] at hs hb
   have hz1 := (hzr μ).cells
   have hsim := zrep_sim hz1 c.toNat
   rw [← hsz] at hsim
   have hrun := run_make (P := P) w t e i zx ht hi hzx k k' l c hl0 hlc (by rw [hb]; omega) (by omega)
   rw [hs] at hrun
   refine OpOk.newRow hh (v := .slice st.n 0 l.toNat (some c.toNat) s) (xs := (madeCells zx.cells (c.toNat * s)).toList) (x := .slice (some ⟨w.heap.size, 0, none⟩) l.toNat c.toNat) ?_ hsim (zrep_one hone c.toNat hsim) ?_
   ·rw [e1, e2, hrun]
   ·simp only [VR]
    exact ⟨⟨w.heap.size, 0, _⟩, c.toNat, by simp; rfl, by simp, by omega, by simp [madeCells], by simp, by simp⟩
  ·cases h
 ·cases h
theorem OpOk.newObj (hh : HRel P μ w st) {s : Sem Value} {x : Value} {o : O} {ob : Obj} (hs : s.run P w = .ok x (w.alloc ob))
  (ho : OM P (fun i => if i = st.n then some ⟨w.heap.size, 0, 0⟩ else μ i) (w.alloc ob) o ⟨w.heap.size, 0, 0⟩) (hv : VR (fun i => if i = st.n then some ⟨w.heap.size, 0, 0⟩ else μ i) v x) :
  OpOk P μ w st (do pure (.value (← s))) v (st.alloc o) :=
 ⟨Next.value x, x, _, _, [], by simp [hs, Result.andThen], .inl rfl, hv, Stp.alloc hh o ob 0 0 ho⟩
theorem alloc_new (w : World) (o : Obj) : (w.alloc o).heap[w.heap.size]? = some o := by
 show (w.heap.push o)[w.heap.size]? = some o
 simp
theorem mkmap_ok (hh : HRel P μ w st) {t : TypeId} (h : op_mkmap call r st = some (v, st')) : OpOk P μ w st (do pure (.value (← Instr.makeMap t none))) v st' := by
 unfold op_mkmap at h
 simp only [Option.some.injEq, Prod.mk.injEq] at h
 obtain ⟨rfl, rfl⟩ := h
 refine OpOk.newObj hh (v := .map st.n) (x := .map (some w.heap.size)) (ob := .map #[] 0) ?_ ⟨[], by simpa using alloc_new w _, rfl⟩ ?_
 ·simp [Instr.makeMap, Result.andThen]
 ·simp only [VR]; exact ⟨⟨w.heap.size, 0, 0⟩, by simp, rfl⟩
theorem mkchan_ok (hh : HRel P μ w st) (hr : RR μ r n a.tmps) {t e : TypeId} {d : ChanDir} {b : Nat} {x : Operand} {s : Src} (ht : P.underlying t = some (.chan d e)) (hb : bytesP P e = some b) (hx : cSrc P x = some s)
  (h : op_mkchan b s call r st = some (v, st')) : OpOk P μ w st (do pure (.value (← Instr.makeChan t (a.eval x)))) v st' := by
 unfold op_mkchan at h
 split at h
 ·rename_i q k hk
  have e1 := ev_sim hh hr hx hk
  simp only [VR] at e1
  split at h
  ·cases h
  ·rename_i hc
   simp only [Option.some.injEq, Prod.mk.injEq] at h
   obtain ⟨rfl, rfl⟩ := h
   unfold bytesP at hb
   simp only [Option.map_eq_some_iff] at hb
   obtain ⟨i, hi, rfl⟩ := hb
   refine OpOk.newObj hh (v := .chan st.n) (x := .chan (some w.heap.size)) (ob := .chan k.toNat #[] false 0 0 false) ?_ ⟨[], 0, 0, by simpa using alloc_new w _, by simp [VRs]⟩ ?_
   ·simp only [Instr.makeChan, e1, asInt, asIntOf, run_underlying ht, typeInfo, hi, if_neg hc, Result.andThen, Sem.run_bind, Sem.run_pure, run_program, run_newObj]
    rfl
   ·simp only [VR]; exact ⟨⟨w.heap.size, 0, 0⟩, by simp, rfl⟩
 ·cases h
theorem rangeStr_ok (hh : HRel P μ w st) (hr : RR μ r n a.tmps) {t : TypeId} {x : Operand} {s : Src} (ht : P.underlying t = some .string) (hx : cSrc P x = some s)
  (h : op_rangeStr s call r st = some (v, st')) : OpOk P μ w st (do pure (.value (← Instr.range t (a.eval x)))) v st' := by
 unfold op_rangeStr at h
 split at h
 ·rename_i q hk
  have e1 := ev_sim hh hr hx hk
  simp only [VR] at e1
  simp only [Option.some.injEq, Prod.mk.injEq] at h
  obtain ⟨rfl, rfl⟩ := h
  refine OpOk.newObj hh (v := .ptr st.n 0) (x := .pointer (some ⟨w.heap.size, 0, none⟩)) (ob := .stringIter ⟨q.toArray⟩ 0) ?_ (by simp only [OM]; exact ⟨alloc_new w _, trivial⟩) ?_
  ·simp [Instr.range, e1, run_underlying ht, Result.andThen]
  ·simp only [VR]; exact ⟨⟨w.heap.size, 0, 0⟩, by simp, rfl⟩
 ·cases h
theorem run_storeCells_row (g o : Nat) (t : TypeId) (lo hi : Nat) : ∀ (vs : List Value) (i : Nat) (cur : List Value) (w : World), w.heap[g]? = some (.cells ⟨cur⟩ t (lo, hi)) → o + i + vs.length ≤ cur.length → (∀ v ∈ vs, v.oneCell' = true) →
  (∀ j, o + i ≤ j → j < o + i + vs.length → ¬ (lo ≤ j ∧ j < hi)) → (storeCells ⟨g, o, none⟩ vs i).run P w = .ok () (w.setRow g ⟨splice cur (o + i) vs⟩)
 | [], i, cur, w, hg, _, _, _ => by
  have e : splice cur (o + i) [] = cur := by simp [splice]
  rw [e, setRow_self w g _ t _ hg]
  simp [storeCells]
 | v :: rest, i, cur, w, hg, hl, h1, hf => by
  simp only [List.length_cons] at hl
  have hi' : o + i < cur.length := by omega
  have hcell : w.cell? ⟨g, o + i, none⟩ = some cur[o + i] := by simp [World.cell?, hg, hi']
  have hfro : w.frozen? ⟨g, o + i, none⟩ = false := by
   have := hf (o + i) (Nat.le_refl _) (by simp)
   simp only [World.frozen?, hg]
   simp; omega
  have hst : (store ((⟨g, o, none⟩ : Addr).add i) v).run P w = .ok () (w.setRow g ⟨cur.set (o + i) v⟩) := by
   rw [add_none, run_store P w _ v _ (h1 v (by simp)), hcell]
   simp [hfro, setCell_eq_setRow w g (o + i) _ t _ v hg]
  have ih := run_storeCells_row g o t lo hi rest (i + 1) (cur.set (o + i) v) (w.setRow g ⟨cur.set (o + i) v⟩) (setRow_heap w g _ _ t _ hg) (by simp; omega) (fun x hx => h1 x (by simp [hx]))
   (fun j hj1 hj2 => hf j (by omega) (by simp only [List.length_cons]; omega))
  simp only [storeCells, Sem.run_bind, hst, Result.andThen_ok, ih, setRow_setRow]
  rw [← Nat.add_assoc, splice_step _ _ _ _ hi']
theorem row_write (hh : HRel P μ w st) {i o : Nat} {l : L} (hl : μ i = some l) {c : List V} {e : TypeId} (hrow : st.row i = some (c, e, true)) {vs : List V} {xs : List Value} (hv : VRs μ vs xs) (h1 : ∀ x ∈ xs, x.oneCell' = true)
  (hlen : o + vs.length ≤ c.length) :
  ∃ w', (storeCells ⟨l.b, l.d + o, none⟩ xs).run P w = .ok () w' ∧ Stp P μ w st μ w' (st.write i (.cells (splice c o vs) e true)) [i] := by
 obtain ⟨c', lo, hi, g1, g2, g3, g4, g5, g6⟩ := hh.row hl hrow
 obtain ⟨cur⟩ := c'
 have hxl := hv.length
 simp only [List.size_toArray] at g2
 have hrun := run_storeCells_row (P := P) l.b (l.d + o) e lo hi xs 0 cur w g1 (by omega) h1 (fun j hj1 hj2 => by
  have := (g6 rfl).2 (j - l.d) (by omega)
  rw [show l.d + (j - l.d) = j by omega] at this
  exact this)
 refine ⟨_, hrun, ?_⟩
 have hb := setRow_heap w l.b _ (⟨splice cur (l.d + o + 0) xs⟩ : Array Value) e _ g1
 refine Stp.write hh hl (row_spec hrow) rfl rfl rfl rfl (by simp) (fun b hb => setRow_other w l.b b _ hb) ⟨_, lo, hi, hb, ?_, ?_, ?_, ?_, g6⟩
 ·simp only [List.size_toArray]
  rw [splice_length (by omega)]; exact g2
 ·rw [splice_length hlen]; exact g3
 ·intro j u hu
  rw [splice_get hlen] at hu
  have e' : ∀ k : Nat, (⟨splice cur (l.d + o + 0) xs⟩ : Array Value)[k]? = (splice cur (l.d + o + 0) xs)[k]? := fun k => by simp
  rw [e', splice_get (by omega)]
  split at hu
  ·rename_i hj
   rw [if_pos (by omega)]
   obtain ⟨y, hy, hr⟩ := hv.get hu
   exact ⟨y, by rw [show l.d + j - (l.d + o + 0) = j - o by omega]; exact hy, hr⟩
  ·rename_i hj
   rw [if_neg (by omega)]
   obtain ⟨y, hy, hr⟩ := g4 j u hu
   exact ⟨y, by simpa using hy, hr⟩
 ·intro j x hlt hx
  have e' : (⟨splice cur (l.d + o + 0) xs⟩ : Array Value)[l.d + j]? = (splice cur (l.d + o + 0) xs)[l.d + j]? := by simp
  rw [e', splice_get (by omega)] at hx
  split at hx
  ·exact h1 x (List.mem_of_getElem? hx)
  ·exact g5 j x hlt (by simpa using hx)
theorem store_ok (hh : HRel P μ w st) (hr : RR μ r n a.tmps) {t : TypeId} {k : Nat} {x y : Operand} {sx sy : Src} (hk : sizeP P t = some k) (hx : cSrc P x = some sx) (hy : cSrc P y = some sy)
  (h : op_store k sx sy call r st = some (v, st')) : OpOk P μ w st (do Instr.storeAt t (a.eval x) (a.eval y); pure .skip) v st' := by
 unfold op_store at h
 split at h
 ·rename_i i o u h1 h2
  obtain ⟨l, hl, e1⟩ := ev_sim hh hr hx h1
  have e2 := ev_sim hh hr hy h2
  split at h
  ·rename_i c e hrow
   split at h
   ·rename_i hc
    simp only [Option.some.injEq, Prod.mk.injEq] at h
    obtain ⟨rfl, rfl⟩ := h
    have hcl := e2.cells
    have hlen := hcl.length
    obtain ⟨w', hw, hs⟩ := row_write hh hl hrow hcl (all_one hcl hc.2.2) (o := o) (by omega)
    refine ⟨.skip, undef, w', μ, [i], ?_, .inr ⟨rfl, rfl⟩, ⟨[], rfl, by simp [VRs]⟩, hs⟩
    have hsz : (a.eval y).cells.size = k := by
     rw [← hc.1, ← hlen]; simp
    simp [Instr.storeAt, Instr.sureAddr, e1, storeVar, run_sizeP hk, hsz, hw, Result.andThen]
   ·cases h
  ·cases h
 ·cases h
end
end Go.Mx
