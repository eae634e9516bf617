/-
  What an operation of M looks at.
-/
import Derived.Test.YtlbophlgohokkaaGreatDoorMxFun
set_option linter.all false
namespace Go.Mx
open Go
section
variable {r r' : T V} {st : St} {call : cm}
theorem DN : ∀ {l : List Src}, (∀ s ∈ l, s.ev r = s.ev r') -> rj r l = rj r' l
  | [], _ => rfl
  | s :: l, h => by
    simp only [rj]
    rw [h s (by simp), DN fun s hs => h s (by simp [hs])]
theorem BU {o : Option Src} (h : ∀ s ∈ yO o, s.ev r = s.ev r') : ay r o = ay r' o := by
  cases o with
  | none => rfl
  | some s => simp only [ay]; rw [h s (by simp [yO])]
theorem Si : ∀ {l : List (Nat × Nat × Src)}, (∀ s ∈ l.map (·.2.2), s.ev r = s.ev r') -> yJ r l = yJ r' l
  | [], _ => rfl
  | (o, k, s) :: l, h => by
    simp only [yJ]
    rw [h s (by simp), Si fun s hs => h s (by simp only [kg, kb]; exact .inr hs)]
theorem Ybn {op : gG} (h : ∀ s ∈ op.zR, s.ev r = s.ev r') : bZ op call r st = bZ op call r' st := by
  cases op <;> simp only [gG.zR, kb, List.not_mem_nil, or_false, forall_eq_or_imp, forall_eq, oF] at h <;> simp only [bZ]
  case build z ps => simp only [zM, Si h]
  case aO e s l z ps => simp only [C7, Si h]
  case bM f a c => simp only [De, DN fun s hs => h s (.inl hs), DN fun s hs => h s (.inr hs)]
  case az x lo hi => simp only [vT, h.1, BU fun s hs => h.2 s (.inl hs), BU fun s hs => h.2 s (.inr hs)]
  case dX z x lo hi m => simp only [oK, h.1, BU fun s hs => h.2 s (.inl (.inl hs)), BU fun s hs => h.2 s (.inl (.inr hs)), BU fun s hs => h.2 s (.inr hs)]
  case cP k z x lo hi m => simp only [xb, h.1, BU fun s hs => h.2 s (.inl (.inl hs)), BU fun s hs => h.2 s (.inl (.inr hs)), BU fun s hs => h.2 s (.inr hs)]
  case mn l => simp only [vU, DN h]
  case mx l => simp only [oL, DN h]
  case call f l => simp only [vV, h.1, DN fun s hs => h.2 s hs]
  case ext e l => simp only [Dp, DN h]
  all_goals
    first
      | rfl
      | (simp only [C5, C6, C8, C9, Db, Dc, F3, Bu, Dd, F4, Bv, Df, Dh, Dk, Dl, Dm, uY, F7, F8, BA, F9, h]; done)
      | (simp only [Bs, Bt, Da, zN, zO, Bw, F6, Bx, Dj, By, WH, Q9, zP, Bz, Ga, h.1, h.2]; done)
      | (simp only [Bs, By, Q9, h.1, h.2.1, h.2.2]; done)
theorem XQ {op : gG} (hs : op.l8 = true) (h' : T O) (l' : List Nat) {v : V} {av : St} (h : bZ op call r st = some (v, av)) :
    (av = st /\ bZ op call r ⟨h', st.n, l'⟩ = some (v, ⟨h', st.n, l'⟩)) \/ ∃ o, av = st.alloc o /\ bZ op call r ⟨h', st.n, l'⟩ = some (v, St.alloc ⟨h', st.n, l'⟩ o) := by
  cases op <;> simp only [gG.l8, fx] at hs <;> simp only [bZ] at h ⊢
  case bO e z b zs x y =>
    unfold zN at *
    split at h
    · rename_i ha hb
      split at h
      · rename_i hc
        simp only [aj, bq] at h
        obtain ⟨rfl, rfl⟩ := h
        refine .inr ⟨_, rfl, ?_⟩
        rw [aF hc]
      · cases h
    · cases h
  case bin b t ng x y =>
    refine .inl ?_
    unfold Da at *
    split at h
    · cases b <;> first | (cases hs; done) | (simp only [LL, reduceCtorEq] at h)
    · split at h
      · rename_i hm
        simp only [aj, bq] at h
        obtain ⟨rfl, rfl⟩ := h
        exact ⟨rfl, by simp_all⟩
      · cases h
    · cases h
  all_goals
    first
      | unfold C5 at * | unfold Bs at * | unfold F0 at * | unfold C6 at * | unfold zM at * | unfold C7 at * | unfold C9 at * | unfold Db at * | unfold Dc at * | unfold F3 at * | unfold Bu at * | unfold F4 at * | unfold De at * | unfold F5 at * | unfold Bv at * | unfold zN at * | unfold vT at * | unfold Df at * | unfold Dh at * | unfold zO at * | unfold Bw at * | unfold F6 at * | unfold Bx at * | unfold Dk at * | unfold Dm at * | unfold HQ at * | unfold F7 at * | unfold vU at * | unfold oL at * | unfold Dp at *
  all_goals
    repeat' split at h
    all_goals
      first
        | (cases h; done)
        | (simp only [aj, bq] at h
           obtain ⟨rfl, rfl⟩ := h
           first
             | (refine .inl ⟨rfl, ?_⟩; simp_all; done)
             | (refine .inr ⟨_, rfl, ?_⟩; simp_all; done))
theorem XR {α : Type} {p : α -> α -> Bool} {f : α} {m : Nat} : ∀ {seen : List α} {j : Nat}, seen.length = j -> dw.dB p f m (j - 1) seen = true -> ∀ i, i < j -> ∀ g, seen[j - 1 - i]? = some g -> m.testBit i = true \/ p g f = true
  | [], j, hl, _, i, hi, g, hg => by simp at hg
  | g0 :: seen, j, hl, h, i, hi, g, hg => by
    simp only [dw.dB, gW, CZ] at h
    simp only [bh] at hl
    by_cases e : i = j - 1
    · subst e
      simp only [Nat.sub_self, yC, aj] at hg
      subst hg
      exact h.1
    · have h2 := XR (j := j - 1) (by omega) h.2 i (by omega) g
      refine h2 ?_
      rw [show j - 1 - i = (j - 1 - 1 - i) + 1 by omega] at hg
      simpa using hg
theorem XT {α : Type} {p : α -> α -> Bool} : ∀ {fs : List α} {ms : List Nat} {j : Nat} {seen : List α}, seen.length = j -> dw.go p fs ms j seen = true ->
    ∀ (b i : Nat) (f g : α), fs[b]? = some f -> i < j + b -> (seen.reverse ++ fs)[i]? = some g -> (ms.getD b 0).testBit i = true \/ p g f = true
  | [], ms, j, seen, hl, _, b, i, f, g, hf, _, _ => by simp at hf
  | f0 :: fs, ms, j, seen, hl, h, b, i, f, g, hf, hi, hg => by
    simp only [dw.go, gW] at h
    cases b with
    | zero =>
      simp only [yC, aj] at hf
      subst hf
      have hm : ms.getD 0 0 = ms.headD 0 := by cases ms <;> rfl
      rw [hm]
      refine XR hl h.1 i (by omega) g ?_
      rw [lX (by simp; omega), List.getElem?_reverse (by omega)] at hg
      rw [<- hl]; exact hg
    | succ b =>
      have hm : ms.getD (b + 1) 0 = ms.tail.getD b 0 := by cases ms <;> simp
      rw [hm]
      refine XT (j := j + 1) (seen := f0 :: seen) (by simp [hl]) h.2 b i f g (by simpa using hf) (by omega) ?_
      simpa using hg
theorem Xj {α : Type} {p : α -> α -> Bool} {xs : List α} {ms : List Nat} (h : dw p xs ms = true) {i j : Nat} {a b : α} (hij : i < j) (ha : xs[i]? = some a) (hb : xs[j]? = some b) : (ms.getD j 0).testBit i = true \/ p a b = true :=
  XT (seen := []) rfl h j i b a hb (by omega) (by simpa using ha)
theorem Sj : ∀ (os : List Oper) (acc : List Nat) (k : Nat), k < acc.length -> (rO os acc).getD k 0 = acc.getD k 0
  | [], acc, k, _ => rfl
  | o :: os, acc, k, h => by
    simp only [rO]
    rw [Sj os _ k (by simp; omega)]
    simp only [List.getD_eq_getElem?_getD]
    rw [lX h]
theorem XU : ∀ (os : List Oper) (acc : List Nat) (j : Nat) (o : Oper), os[j]? = some o ->
    ∃ pre : List Nat, pre.length = acc.length + j /\ (rO os acc).getD (acc.length + j) 0 = HJ o pre /\ ∀ k, k < acc.length + j -> (rO os acc).getD k 0 = pre.getD k 0
  | [], acc, j, o, h => by simp at h
  | o0 :: os, acc, 0, o, h => by
    simp only [yC, aj] at h
    subst h
    refine ⟨acc, rfl, ?_, fun k hk => ?_⟩
    · simp only [rO]
      rw [Sj os _ _ (by simp)]
      simp [List.getD_eq_getElem?_getD]
    · exact Sj (o0 :: os) acc k hk
  | o0 :: os, acc, j + 1, o, h => by
    obtain ⟨pre, h1, h2, h3⟩ := XU os (acc ++ [HJ o0 acc]) j o (by simpa using h)
    simp only [fQ, bh, List.length_nil] at h1 h2 h3
    refine ⟨pre, by omega, ?_, ?_⟩
    · rw [show acc.length + (j + 1) = acc.length + (0 + 1) + j by omega]; exact h2
    · intro k hk; exact h3 k (by omega)
theorem Zx5 {o : Oper} {ms : List Nat} {i : Nat} (h : (HJ o ms).testBit i = true) : ∃ e ∈ o.after, Region.binds .any e = true /\ (i = e.on \/ (ms.getD e.on 0).testBit i = true) := by
  have key : ∀ (l : List Edge) (s : Nat), (l.foldl (fun s e => if Region.binds .any e then s ||| 2 ^ e.on ||| ms.getD e.on 0 else s) s).testBit i = true ->
      s.testBit i = true \/ ∃ e ∈ l, Region.binds .any e = true /\ (i = e.on \/ (ms.getD e.on 0).testBit i = true) := by
    intro l
    induction l with
    | nil => intro s h; exact .inl h
    | cons e l ih =>
      intro s h
      simp only [List.foldl_cons] at h
      rcases ih _ h with h | ⟨e', h1, h2⟩
      · split at h
        · rename_i hb
          simp only [Nat.testBit_or, CZ] at h
          rcases h with (h | h) | h
          · exact .inl h
          · rw [Nat.testBit_two_pow] at h
            exact .inr ⟨e, by simp, hb, .inl (by simpa using (of_decide_eq_true h).symm)⟩
          · exact .inr ⟨e, by simp, hb, .inr h⟩
        · exact .inl h
      · exact .inr ⟨e', by simp [h1], h2⟩
  unfold HJ at h
  rw [<- Array.foldl_toList] at h
  rcases key _ _ h with h | ⟨e, h1, h2⟩
  · simp at h
  · exact ⟨e, by simpa using h1, h2⟩
theorem Yf2 {ops : Array Oper} {j i : Nat} {o : Oper} (ho : ops[j]? = some o) (h : ((rO ops.toList []).getD j 0).testBit i = true) :
    ∃ e ∈ o.after, Region.binds .any e = true /\ (i = e.on \/ ((rO ops.toList []).getD e.on 0).testBit i = true) := by
  obtain ⟨pre, h1, h2, h3⟩ := XU ops.toList [] j o (by rw [wV]; exact ho)
  simp only [List.length_nil, rT] at h1 h2 h3
  rw [h2] at h
  obtain ⟨e, g1, g2, g3⟩ := Zx5 h
  refine ⟨e, g1, g2, g3.imp id fun hb => ?_⟩
  by_cases he : e.on < j
  · rw [h3 _ he]; exact hb
  · have : pre.getD e.on 0 = 0 := by simp [List.getD_eq_getElem?_getD, h1, vN he]
    rw [this] at hb; simp at hb
def Xb (ops : Array Oper) (S : Nat -> Prop) : Prop := ∀ k i, S k -> ((rO ops.toList []).getD k 0).testBit i = true -> S i
theorem Xc {ops : Array Oper} {listed : Array Bool} (hc : Xb ops (fun k => listed.getD k false = true)) {j : Nat} (hj : j ∈ Region.ready .any ops listed) :
    j < ops.size /\ listed.getD j true = false /\ ∀ i, ((rO ops.toList []).getD j 0).testBit i = true -> listed.getD i false = true := by
  unfold Region.ready at hj
  simp only [List.mem_filter, zB, gW, CU] at hj
  obtain ⟨h1, h2, h3⟩ := hj
  refine ⟨h1, h2, fun i hi => ?_⟩
  have ho : ops[j]? = some ops[j] := Array.getElem?_eq_getElem h1
  obtain ⟨e, g1, g2, g3⟩ := Yf2 ho hi
  rw [ho] at h3
  simp only [wK, Bb, Q3, CZ, CU] at h3
  have he : listed.getD e.on false = true := by
    rcases h3 e g1 with h | h
    · rw [g2] at h; cases h
    · exact h
  rcases g3 with rfl | g3
  · exact he
  · exact hc _ _ he g3
mutual
def Sc (n : Nat) : V -> Prop
  | .ptr i _ => i < n
  | .slice i _ _ _ _ => i < n
  | .map i => i < n
  | .chan i => i < n
  | .func _ a c => BV n a /\ BV n c
  | .yield i => i < n
  | .iface _ v => Sc n v
  | .agg l => BV n l
  | .aZ l => BV n l
  | _ => True
def BV (n : Nat) : List V -> Prop
  | [] => True
  | v :: vs => Sc n v /\ BV n vs
end
mutual
theorem VR.sc {μ : Mu} {n : Nat} (h : ∀ i l, μ i = some l -> i < n) : ∀ (v : V) (x : Value), VR μ v x -> Sc n v
  | .bool _, _, _ => by simp [Sc]
  | .int _ _, _, _ => by simp [Sc]
  | .rM _ _, _, _ => by simp [Sc]
  | .str _, _, _ => by simp [Sc]
  | .bD, _, _ => by simp [Sc]
  | .ptr _ _, _, hx => by simp only [VR] at hx; obtain ⟨l, h1, _⟩ := hx; exact h _ _ h1
  | .aa, _, _ => by simp [Sc]
  | .slice _ _ _ _ _, _, hx => by simp only [VR] at hx; obtain ⟨l, c, h1, _⟩ := hx; exact h _ _ h1
  | .empty, _, _ => by simp [Sc]
  | .bH, _, _ => by simp [Sc]
  | .map _, _, hx => by simp only [VR] at hx; obtain ⟨l, h1, _⟩ := hx; exact h _ _ h1
  | .bN, _, _ => by simp [Sc]
  | .chan _, _, hx => by simp only [VR] at hx; obtain ⟨l, h1, _⟩ := hx; exact h _ _ h1
  | .func _ a c, _, hx => by
    simp only [VR] at hx; obtain ⟨a', c', _, h2, h3⟩ := hx
    exact ⟨aX.sc h a a' h2, aX.sc h c c' h3⟩
  | .yield _, _, hx => by simp only [VR] at hx; obtain ⟨l, h1, _⟩ := hx; exact h _ _ h1
  | .aG, _, _ => by simp [Sc]
  | .iface _ v, _, hx => by simp only [VR] at hx; obtain ⟨y, _, h2⟩ := hx; exact VR.sc h v y h2
  | .aP, _, _ => by simp [Sc]
  | .agg vs, _, hx => by simp only [VR] at hx; obtain ⟨a, _, h2⟩ := hx; exact aX.sc h vs a h2
  | .aZ vs, _, hx => by simp only [VR] at hx; obtain ⟨a, _, h2⟩ := hx; exact aX.sc h vs a h2
theorem aX.sc {μ : Mu} {n : Nat} (h : ∀ i l, μ i = some l -> i < n) : ∀ (vs : List V) (xs : List Value), aX μ vs xs -> BV n vs
  | [], _, _ => trivial
  | v :: vs, _, hx => by
    simp only [aX] at hx
    obtain ⟨y, ys, _, h2, h3⟩ := hx
    exact ⟨VR.sc h v y h2, aX.sc h vs ys h3⟩
end
mutual
theorem VR.cut {μ μ' : Mu} {n : Nat} (h : ∀ i l, i < n -> μ i = some l -> μ' i = some l) : ∀ (v : V) (x : Value), Sc n v -> VR μ v x -> VR μ' v x
  | .bool _, _, _, hx => by simpa [VR] using hx
  | .int _ _, _, _, hx => by simpa [VR] using hx
  | .rM _ _, _, _, hx => by simpa [VR] using hx
  | .str _, _, _, hx => by simpa [VR] using hx
  | .bD, _, _, hx => by simpa [VR] using hx
  | .ptr _ _, _, hs, hx => by simp only [VR, Sc] at *; obtain ⟨l, h1, h2⟩ := hx; exact ⟨l, h _ _ hs h1, h2⟩
  | .aa, _, _, hx => by simpa [VR] using hx
  | .slice _ _ _ _ _, _, hs, hx => by simp only [VR, Sc] at *; obtain ⟨l, c, h1, h2⟩ := hx; exact ⟨l, c, h _ _ hs h1, h2⟩
  | .empty, _, _, hx => by simpa [VR] using hx
  | .bH, _, _, hx => by simpa [VR] using hx
  | .map _, _, hs, hx => by simp only [VR, Sc] at *; obtain ⟨l, h1, h2⟩ := hx; exact ⟨l, h _ _ hs h1, h2⟩
  | .bN, _, _, hx => by simpa [VR] using hx
  | .chan _, _, hs, hx => by simp only [VR, Sc] at *; obtain ⟨l, h1, h2⟩ := hx; exact ⟨l, h _ _ hs h1, h2⟩
  | .func _ a c, _, hs, hx => by
    simp only [VR, Sc] at *; obtain ⟨a', c', h1, h2, h3⟩ := hx
    exact ⟨a', c', h1, aX.cut h a a' hs.1 h2, aX.cut h c c' hs.2 h3⟩
  | .yield _, _, hs, hx => by simp only [VR, Sc] at *; obtain ⟨l, h1, h2⟩ := hx; exact ⟨l, h _ _ hs h1, h2⟩
  | .aG, _, _, hx => by simpa [VR] using hx
  | .iface _ v, _, hs, hx => by simp only [VR, Sc] at *; obtain ⟨y, h1, h2⟩ := hx; exact ⟨y, h1, VR.cut h v y hs h2⟩
  | .aP, _, _, hx => by simpa [VR] using hx
  | .agg vs, _, hs, hx => by simp only [VR, Sc] at *; obtain ⟨a, h1, h2⟩ := hx; exact ⟨a, h1, aX.cut h vs a hs h2⟩
  | .aZ vs, _, hs, hx => by simp only [VR, Sc] at *; obtain ⟨a, h1, h2⟩ := hx; exact ⟨a, h1, aX.cut h vs a hs h2⟩
theorem aX.cut {μ μ' : Mu} {n : Nat} (h : ∀ i l, i < n -> μ i = some l -> μ' i = some l) : ∀ (vs : List V) (xs : List Value), BV n vs -> aX μ vs xs -> aX μ' vs xs
  | [], _, _, hx => by simpa [aX] using hx
  | v :: vs, _, hs, hx => by
    simp only [aX, BV] at *
    obtain ⟨y, ys, h1, h2, h3⟩ := hx
    exact ⟨y, ys, h1, VR.cut h v y hs.1 h2, aX.cut h vs ys hs.2 h3⟩
end
theorem OM.cut {P : Program} {μ μ' μT : Mu} {w wT : World} {n : Nat} (h : ∀ i l, i < n -> μ i = some l -> μ' i = some l) (hT : ∀ i l, μT i = some l -> i < n) {o : O} {l lT : L} (ht : OM P μT wT o lT) (ho : OM P μ w o l) : OM P μ' w o l := by
  cases o with
  | cells c e rw =>
    obtain ⟨c', lo, hi, h1, h2, h3, h4, h5⟩ := ho
    obtain ⟨cT, _, _, _, _, _, t4, _⟩ := ht
    exact ⟨c', lo, hi, h1, h2, h3, fun j v hv => by
      obtain ⟨x, a, b⟩ := h4 j v hv
      obtain ⟨xT, _, bT⟩ := t4 j v hv
      exact ⟨x, a, VR.cut h v x (VR.sc hT v xT bT) b⟩, h5⟩
  | map es =>
    obtain ⟨fP, h1, h2⟩ := ho
    obtain ⟨esT, _, t2⟩ := ht
    refine ⟨fP, h1, ?_⟩
    have : ∀ (es : List (V × V)) (xs xT : List MapEntry) (b bT : Nat), gH μ es xs b -> gH μT es xT bT -> gH μ' es xs b := by
      intro es
      induction es with
      | nil => intro xs xT b bT h1 _; exact h1
      | cons p es ih =>
        intro xs xT b bT h1 h2
        obtain ⟨k, u⟩ := p
        obtain ⟨e, ys, rfl, a1, a2, a3, a4⟩ := h1
        obtain ⟨eT, yT, rfl, b1, b2, _, b4⟩ := h2
        exact ⟨e, ys, rfl, VR.cut h k _ (VR.sc hT k _ b1) a1, VR.cut h u _ (VR.sc hT u _ b2) a2, a3, ih ys yT _ _ a4 b4⟩
    exact this _ _ _ _ _ h2 t2
  | chan cap buf =>
    obtain ⟨b', s, r, h1, h2⟩ := ho
    obtain ⟨bT, _, _, _, t2⟩ := ht
    exact ⟨b', s, r, h1, aX.cut h _ _ (aX.sc hT _ _ t2) h2⟩
  | dT s pos => simp only [OM] at *; exact ho
  | loop R =>
    obtain ⟨fn, tmps, fg, fh, ld, h1, h2, h3, h4, h5⟩ := ho
    obtain ⟨_, tT, _, _, ldT, _, t2, _, _, t5⟩ := ht
    refine ⟨fn, tmps, fg, fh, ld, h1, ⟨h2.1, fun t v hv => ?_⟩, h3, h4, h _ _ (hT _ _ t5) h5⟩
    obtain ⟨x, a, b⟩ := h2.2 t v hv
    obtain ⟨xT, _, bT⟩ := t2.2 t v hv
    exact ⟨x, a, VR.cut h v x (VR.sc hT v xT bT) b⟩
  | defs b => simp only [OM] at *; exact ho
  | dead => trivial
end
section
variable {P:Program} {μ:Mu} {w:World} {st av:St} {fr bC:Fr} {a:Act} {call:cm} {v:V} {lb:Option Nat}
theorem Ypy(bR:ix P call)(hE:rm P)(hh:bo P μ w st)(hf:jW μ fr a){o:Oper}(h:bZ (wP P o.op) call fr.r st=some (v,av)):∃x w' μ' ws,VR μ' v x/\bB P μ w st μ' w' av ws:=by
 have Sb:=RE (lb:=none) (Q:=fun _ _ _=>False) (K:=fun _ _=>∃x w' μ' ws,VR μ' v x/\bB P μ w st μ' w' av ws) bR hE hh hf h (fun x w' μ' ws h1 h2=>⟨x,w',μ',ws,h1,h2⟩)
 obtain⟨_,hu⟩:=Sb
 generalize (o.semAt (FE none).round a.eval).run P w=res at hu
 cases res with
 |halt x w'=>cases x<;>simp only[Oper.uponIn]at hu
 |ok x w'=>
  cases x<;>simp only[Oper.uponIn]at hu
  case value=>exact hu
  case skip=>exact hu
  case defer=>exact hu
  case enter f args=>
   obtain⟨e,w',fr,hR,_⟩:=hu.2.2 [] (fun d hd=>by simp[Fence.wide]at hd)
   cases e with
   |returned v=>exact hR
   |panicked c=>exact hR.elim
   |outgrown=>obtain⟨_,_,hq⟩:=hR;exact hq.elim
  case row r args=>
   obtain⟨v',w',hR,_⟩:=hu.2 default [] (fun d hd=>by simp[Fence.wide]at hd)
   exact hR
  case round l f tmps fg fh=>
   obtain⟨e,w',hR,_⟩:=hu.2.2 default [] (fun d hd=>by simp[Fence.wide]at hd)
   cases e with
   |returned v=>exact hR
   |panicked c=>exact hR.elim
   |outgrown=>obtain⟨_,_,hq⟩:=hR;exact hq.elim
def xp(P:Program)(call:cm)(ops:Array Oper)(o:Oper)(st:St)(fr:Fr)(v:V)(f:FP)(bS:St)(dh:Fr):Prop:=
 ∃g b,CO ops o.guard=some g/\bP fr.r g=some b/\fr.put o.dst v=some dh/\
  (b=true->∃s',bZ (wP P o.op) call fr.r {st with w:=[]}=some (v,s')/\bS={s' with w:=ad st.n s'.w++st.w}/\f=mL fr.r (wP P o.op) (ad st.n s'.w) st.n s'.n)/\
  (b=false->v=.aZ []/\bS=st/\f=⟨some [],[],st.n,st.n⟩)
theorem Xi{ops:Array Oper}:∀(os:List Oper) (fr:Fr) (st:St) (fS:List FP) (bC:Fr) (av:St),bK call (os.map (oB P ops)) fr st=some (fS,bC,av)->
  ∃(aH:Nat->St) (bs:Nat->Fr) (vI:Nat->V) (bj:Nat->FP),aH 0=st/\bs 0=fr/\aH os.length=av/\bs os.length=bC/\fS.length=os.length/\
   ∀i o,os[i]?=some o->fS[i]?=some (bj i)/\xp P call ops o (aH i) (bs i) (vI i) (bj i) (aH (i+1)) (bs (i+1))
 |[],fr,st,fS,bC,av,h=>by
  simp only[vP,bK,WJ,aj,bq]at h
  obtain⟨rfl,rfl,rfl⟩:=h
  exact⟨fun _=>st,fun _=>fr,fun _=>.bD,fun _=>⟨none,[],0,0⟩,rfl,rfl,rfl,rfl,rfl,fun i o h=>by simp at h⟩
 |o::os,fr,st,fS,bC,av,h=>by
  simp only[kg,bK,yN]at h
  have go:∀(v:V) (f:FP) (bS:St) (dh:Fr) (qJ:List FP),xp P call ops o st fr v f bS dh->bK call (os.map (oB P ops)) dh bS=some (qJ,bC,av)->fS=f::qJ->
    ∃(aH:Nat->St) (bs:Nat->Fr) (vI:Nat->V) (bj:Nat->FP),aH 0=st/\bs 0=fr/\aH (o::os).length=av/\bs (o::os).length=bC/\fS.length=(o::os).length/\
     ∀i o',(o::os)[i]?=some o'->fS[i]?=some (bj i)/\xp P call ops o' (aH i) (bs i) (vI i) (bj i) (aH (i+1)) (bs (i+1)):=by
   intro v f bS dh qJ hs hm hf
   obtain⟨aH,bs,vI,bj,h1,h2,h3,h4,h5,h6⟩:=Xi os dh bS qJ bC av hm
   refine⟨fun|0=>st|i+1=>aH i,fun|0=>fr|i+1=>bs i,fun|0=>v|i+1=>vI i,fun|0=>f|i+1=>bj i,rfl,rfl,h3,h4,by simp[hf,h5],fun i o' ho=>?_⟩
   cases i with
   |zero=>
    simp only[yC,aj]at ho
    subst ho
    refine⟨by simp[hf],?_⟩
    show xp P call ops o st fr v f (aH 0) (bs 0)
    rw[h1,h2];exact hs
   |succ i=>
    obtain⟨g1,g2⟩:=h6 i o' (by simpa using ho)
    exact⟨by simpa[hf]using g1,g2⟩
  unfold oB at h
  cases hg:CO ops o.guard with
  |none=>
   rw[hg]at h
   simp only[bP,bZ,Ra]at h
   cases h
  |some g=>
   rw[hg]at h
   simp only at h
   cases hw:bP fr.r g with
   |none=>rw[hw]at h;cases h
   |some b=>
    rw[hw]at h
    cases b with
    |true=>
     simp only at h
     split at h
     ·rename_i v1 s1 hm
      split at h
      ·rename_i dh hp
       split at h
       ·rename_i qJ vZ eD fW
        simp only[aj,bq]at h
        obtain⟨rfl,rfl,rfl⟩:=h
        exact go v1 _ _ dh qJ ⟨g,true,hg,hw,hp,fun _=>⟨s1,hm,rfl,rfl⟩,fun hc=>by cases hc⟩ fW rfl
       ·cases h
      ·cases h
     ·cases h
    |false=>
     simp only at h
     split at h
     ·rename_i dh hp
      split at h
      ·rename_i qJ vZ eD fW
       simp only[aj,bq]at h
       obtain⟨rfl,rfl,rfl⟩:=h
       exact go (.aZ []) _ st dh qJ ⟨g,false,hg,hw,hp,(fun hc=>by cases hc),fun _=>⟨rfl,rfl,rfl⟩⟩ fW rfl
      ·cases h
     ·cases h
theorem RF{op:gG}{s':St}(hm:bZ op call fr.r {st with w:=[]}=some (v,s'))(lo hi:Nat):(mL fr.r op (ad st.n s'.w) lo hi).wr=ad st.n s'.w/\(mL fr.r op (ad st.n s'.w) lo hi).lo=lo/\(mL fr.r op (ad st.n s'.w) lo hi).hi=hi:=by
 unfold mL
 split
 ·rename_i hs
  rcases XQ hs .nil [] hm with⟨h1,_⟩|⟨o,h1,_⟩
  ·subst h1;exact⟨rfl,rfl,rfl⟩
  ·subst h1;exact⟨rfl,rfl,rfl⟩
 ·split
  ·split<;>exact⟨rfl,rfl,rfl⟩
  ·exact⟨rfl,rfl,rfl⟩
theorem XV(bR:ix P call)(hE:rm P)(hh:bo P μ w st)(hf:jW μ fr a){ops:Array Oper}{o:Oper}{f:FP}{bS:St}{dh:Fr}(h:xp P call ops o st fr v f bS dh):
  ∃w' μ' a',bB P μ w st μ' w' bS f.wr/\jW μ' dh a'/\f.lo=st.n/\f.hi=bS.n:=by
 obtain⟨g,b,hg,hw,hp,ht,Ih⟩:=h
 cases b with
 |true=>
  obtain⟨s',hm,rfl,rfl⟩:=ht rfl
  obtain⟨x,w',μ',ws,h1,h2⟩:=Ypy bR hE (hh.now []) hf hm
  have h3:=h2.fold hh
  obtain⟨e1,e2,e3⟩:=RF (call:=call) hm st.n s'.n
  rw[e1,e2,e3]
  exact⟨w',μ',_,h3,(hf.mono (h3.mono hh)).put h1 hp,rfl,rfl⟩
 |false=>
  obtain⟨rfl,rfl,rfl⟩:=Ih rfl
  exact⟨w,μ,_,bB.refl hh,hf.put (v:=.aZ []) (x:=undef) ⟨[],rfl,by simp[aX]⟩ hp,rfl,rfl⟩
structure rZ (P:Program) (μ:Mu) (aH:Nat->St) (bs:Nat->Fr) (bj:Nat->FP) (N:Nat):Prop where
 eX:∀i,i<N->(aH i).n<=(aH (i+1)).n
 lo:∀i,i<N->(bj i).lo=(aH i).n
 hi:∀i,i<N->(bj i).hi=(aH (i+1)).n
 wl:∀i,i<N->(aH (i+1)).w=(bj i).wr++(aH i).w
 Ry:∀i,i<N->∀j∈(bj i).wr,j<(aH i).n
 ae:∀i,i<N->∀j,j<(aH i).n->j∉(bj i).wr->(aH (i+1)).h.get j=(aH i).h.get j
 grow:∀i,i<N->∀j o',j<(aH i).n->(aH (i+1)).h.get j=some o'->∃o,(aH i).h.get j=some o/\(o'.wr=true->o.wr=true)/\(o'.live=true->o.live=true)
 tK:∀i,i<N->∀j∈(bj i).wr,∃o,(aH i).h.get j=some o/\o.wr=true
 scr:∀i,i<=N->∀t v,(bs i).r.get t=some v->Sc (aH i).n v
 sch:∀i,i<=N->∀j,(j<(aH 0).n->∃l,μ j=some l)->j<(aH i).n->∃o μT wT lT,(aH i).h.get j=some o/\OM P μT wT o lT/\∀k l,μT k=some l->k<(aH i).n
 fn:∀i,i<=N->(bs i).n=(bs 0).n/\(bs i).marks=(bs 0).marks
theorem XW{ops:Array Oper}{o:Oper}{f:FP}{bS:St}{dh:Fr}(h:xp P call ops o st fr v f bS dh):∀j∈f.wr,j<st.n:=by
 have key:∀(l:List Nat) (n j:Nat),j∈ad n l->j<n:=by
  intro l n j hj
  induction l with
  |nil=>simp[ad]at hj
  |cons i l ih=>
   simp only[ad]at hj
   split at hj
   ·unfold uZ at hj
    split at hj
    ·exact ih hj
    ·simp only[kb]at hj
     rcases hj with rfl|hj
     ·assumption
     ·exact ih hj
   ·exact ih hj
 obtain⟨g,b,hg,hw,hp,ht,Ih⟩:=h
 cases b with
 |true=>
  obtain⟨s',hm,rfl,rfl⟩:=ht rfl
  rw[(RF (call:=call) hm _ _).1]
  exact key _ _
 |false=>
  obtain⟨rfl,rfl,rfl⟩:=Ih rfl
  intro j hj
  simp at hj
theorem Yfa{d:Option Nat}(h:fr.put d v=some bC):bC.n=fr.n/\bC.marks=fr.marks:=by
 cases d with
 |none=>simp only[Fr.put,aj]at h;subst h;exact⟨rfl,rfl⟩
 |some d=>
  simp only[Fr.put]at h
  split at h
  ·simp only[aj]at h;subst h;exact⟨rfl,rfl⟩
  ·cases h
theorem Xk(bR:ix P call)(hE:rm P){ops:Array Oper}{aH:Nat->St}{bs:Nat->Fr}{vI:Nat->V}{bj:Nat->FP}{N:Nat}{os:List Oper}(hN:os.length=N)
  (hh:bo P μ w (aH 0)) (hf:jW μ (bs 0) a) (hs:∀i o,os[i]?=some o->xp P call ops o (aH i) (bs i) (vI i) (bj i) (aH (i+1)) (bs (i+1))):
  ∀i,i<=N->∃w' μ' a' ws,bB P μ w (aH 0) μ' w' (aH i) ws/\jW μ' (bs i) a':=by
 intro i
 induction i with
 |zero=>exact fun _=>⟨w,μ,a,[],bB.refl hh,hf⟩
 |succ i ih=>
  intro hi
  obtain⟨w',μ',a',ws,h1,h2⟩:=ih (by omega)
  have ho:os[i]?=some (os[i]'(by omega)):=dk (by omega)
  obtain⟨w2,μ2,a2,h3,h4,_⟩:=XV bR hE h1.hr h2 (hs i _ ho)
  exact⟨w2,μ2,a2,_,h1.trans h3,h4⟩
theorem Yne(bR:ix P call)(hE:rm P){ops:Array Oper}{aH:Nat->St}{bs:Nat->Fr}{vI:Nat->V}{bj:Nat->FP}{N:Nat}{os:List Oper}(hN:os.length=N)
  (hh:bo P μ w (aH 0)) (hf:jW μ (bs 0) a) (hs:∀i o,os[i]?=some o->xp P call ops o (aH i) (bs i) (vI i) (bj i) (aH (i+1)) (bs (i+1))):rZ P μ aH bs bj N:=by
 have Iu:=Xk bR hE hN hh hf hs
 have cC:∀i,i<N->∃o,os[i]?=some o:=fun i hi=>⟨_,dk (by omega)⟩
 have dH:∀i,i<N->∃w1 μ1 w2 μ2 a2,bB P μ1 w1 (aH i) μ2 w2 (aH (i+1)) (bj i).wr/\jW μ2 (bs (i+1)) a2/\(bj i).lo=(aH i).n/\(bj i).hi=(aH (i+1)).n:=fun i hi=>by
  obtain⟨w',μ',a',ws,h1,h2⟩:=Iu i (by omega)
  obtain⟨o,ho⟩:=cC i hi
  obtain⟨w2,μ2,a2,h3,h4,h5,h6⟩:=XV bR hE h1.hr h2 (hs i o ho)
  exact⟨w',μ',w2,μ2,a2,h3,h4,h5,h6⟩
 refine⟨fun i hi=>?_,fun i hi=>?_,fun i hi=>?_,fun i hi=>?_,fun i hi=>?_,fun i hi=>?_,fun i hi=>?_,fun i hi=>?_,fun i hi t v hv=>?_,fun i hi j hj yy=>?_,fun i=>?_⟩
 ·obtain⟨_,_,_,_,_,h,_⟩:=dH i hi;exact h.eX
 ·obtain⟨_,_,_,_,_,_,_,h,_⟩:=dH i hi;exact h
 ·obtain⟨_,_,_,_,_,_,_,_,h⟩:=dH i hi;exact h
 ·obtain⟨_,_,_,_,_,h,_⟩:=dH i hi;exact h.wl
 ·obtain⟨o,ho⟩:=cC i hi;exact XW (hs i o ho)
 ·obtain⟨_,_,_,_,_,h,_⟩:=dH i hi;exact h.ae
 ·obtain⟨_,_,_,_,_,h,_⟩:=dH i hi;exact h.grow
 ·obtain⟨o,ho⟩:=cC i hi
  obtain⟨_,_,_,_,_,h,_⟩:=dH i hi
  exact fun j hj=>h.tK j hj (XW (hs i o ho) j hj)
 ·obtain⟨w',μ',a',ws,h1,h2⟩:=Iu i hi
  obtain⟨x,_,hx⟩:=h2.1.2 t v hv
  exact VR.sc (fun k l hk=>(h1.hr.cG k l hk).1) v x hx
 ·obtain⟨w',μ',a',ws,h1,h2⟩:=Iu i hi
  have hl:∃l,μ' j=some l:=by
   by_cases h0:j<(aH 0).n
   ·obtain⟨l,hl⟩:=hj h0
    exact⟨l,(h1.ext j h0).trans hl⟩
   ·exact h1.full j (by omega) yy
  obtain⟨l,hl⟩:=hl
  obtain⟨o,yz,uQ⟩:=h1.hr.obj j l hl
  exact⟨o,μ',w',l,yz,uQ,fun k l hk=>(h1.hr.cG k l hk).1⟩
 ·induction i with
  |zero=>exact fun _=>⟨rfl,rfl⟩
  |succ i ih=>
   intro hi
   obtain⟨o,ho⟩:=cC i (by omega)
   obtain⟨g,b,_,_,hp,_⟩:=hs i o ho
   obtain⟨e1,e2⟩:=Yfa hp
   obtain⟨f1,f2⟩:=ih (by omega)
   exact⟨e1.trans f1,e2.trans f2⟩
end
def r_(aH:Nat->St)(bj:Nat->FP)(k j:Nat):Prop:=j∈(bj k).wr\/((aH k).n<=j/\j<(aH (k+1)).n)
instance (aH:Nat->St) (bj:Nat->FP) (k j:Nat):Decidable (r_ aH bj k j):=by unfold r_;infer_instance
def iI(aH:Nat->St)(bj:Nat->FP)(S:Nat->Bool):Nat->Nat->Option O
 |0,j=>(aH 0).h.get j
 |k+1,j=>if S k=true/\r_ aH bj k j then (aH (k+1)).h.get j else iI aH bj S k j
def rY(bs:Nat->Fr)(ds:Nat->Option Nat)(S:Nat->Bool):Nat->Nat->Option V
 |0,t=>(bs 0).r.get t
 |k+1,t=>if S k=true/\ds k=some t then (bs (k+1)).r.get t else rY bs ds S k t
def jV(S:Nat->Bool)(i:Nat):Nat->Bool:=fun k=>if k=i then true else S k
section
variable {P:Program} {μ:Mu} {aH:Nat->St} {bs:Nat->Fr} {bj:Nat->FP} {ds:Nat->Option Nat} {S:Nat->Bool} {N:Nat}
theorem RB(T:rZ P μ aH bs bj N):∀{i j:Nat},i<=N->j<(aH i).n->(∀k,k<i->r_ aH bj k j->S k=true)->iI aH bj S i j=(aH i).h.get j
 |0,j,_,_,_=>rfl
 |i+1,j,hi,hj,h=>by
  simp only[iI]
  by_cases ht:r_ aH bj i j
  ·rw[aF ⟨h i (by omega) ht,ht⟩]
  ·rw[au (fun hc=>ht hc.2)]
   simp only[r_,not_or,not_and,uV]at ht
   have aD:j<(aH i).n:=by
    rcases Nat.lt_or_ge j (aH i).n with h1|h1
    ·exact h1
    ·have:=ht.2 h1;omega
   rw[RB T (by omega) aD fun k hk=>h k (by omega),T.ae i (by omega) j aD ht.1]
theorem LY:∀{M i j:Nat},i<=M->(∀k,i<=k->k<M->r_ aH bj k j->S k=false)->iI aH bj S M j=iI aH bj S i j
 |0,i,j,hi,_=>by rw[Nat.le_zero.1 hi]
 |M+1,i,j,hi,h=>by
  by_cases e:i=M+1
  ·rw[e]
  ·simp only[iI]
   rw[au,LY (by omega) fun k h1 h2=>h k h1 (by omega)]
   rintro⟨h1,h2⟩
   rw[h M (by omega) (by omega) h2]at h1;cases h1
theorem WV{i:Nat}:∀{M j:Nat},¬r_ aH bj i j->iI aH bj (jV S i) M j=iI aH bj S M j
 |0,j,_=>rfl
 |M+1,j,h=>by
  simp only[iI]
  rw[WV h]
  by_cases e:M=i
  ·subst e
   rw[au (fun hc=>h hc.2),au (fun hc=>h hc.2)]
  ·simp only[jV,e,if_false]
theorem Ydj{i j:Nat}(hi:i<N)(ht:r_ aH bj i j)(h:∀k,i<k->k<N->r_ aH bj k j->S k=false):iI aH bj (jV S i) N j=(aH (i+1)).h.get j:=by
 rw[LY (i:=i+1) (by omega) fun k h1 h2 h3=>by simp only[jV];rw[au (by omega)];exact h k (by omega) h2 h3]
 simp only[iI,jV]
 rw[aF ⟨by simp,ht⟩]
def Dv(bs:Nat->Fr)(ds:Nat->Option Nat)(vI:Nat->V)(N:Nat):Prop:=∀i,i<N->∀t,(bs (i+1)).r.get t=if ds i=some t then some (vI i) else (bs i).r.get t
theorem RC{vI:Nat->V}(T:Dv bs ds vI N):∀{i t:Nat},i<=N->(∀k,k<i->ds k=some t->S k=true)->rY bs ds S i t=(bs i).r.get t
 |0,t,_,_=>rfl
 |i+1,t,hi,h=>by
  simp only[rY]
  by_cases ht:ds i=some t
  ·rw[aF ⟨h i (by omega) ht,ht⟩]
  ·rw[au (fun hc=>ht hc.2),RC T (by omega) fun k hk=>h k (by omega),T i (by omega) t,au ht]
theorem LZ:∀{M i t:Nat},i<=M->(∀k,i<=k->k<M->ds k=some t->S k=false)->rY bs ds S M t=rY bs ds S i t
 |0,i,t,hi,_=>by rw[Nat.le_zero.1 hi]
 |M+1,i,t,hi,h=>by
  by_cases e:i=M+1
  ·rw[e]
  ·simp only[rY]
   rw[au,LZ (by omega) fun k h1 h2=>h k h1 (by omega)]
   rintro⟨h1,h2⟩
   rw[h M (by omega) (by omega) h2]at h1;cases h1
theorem WZ{i:Nat}:∀{M t:Nat},ds i≠some t->rY bs ds (jV S i) M t=rY bs ds S M t
 |0,t,_=>rfl
 |M+1,t,h=>by
  simp only[rY]
  rw[WZ h]
  by_cases e:M=i
  ·subst e
   rw[au (fun hc=>h hc.2),au (fun hc=>h hc.2)]
  ·simp only[jV,e,if_false]
theorem Ydi{vI:Nat->V}(T:Dv bs ds vI N){i t:Nat}(hi:i<N)(ht:ds i=some t)(h:∀k,i<k->k<N->ds k=some t->S k=false):rY bs ds (jV S i) N t=some (vI i):=by
 rw[LZ (i:=i+1) (by omega) fun k h1 h2 h3=>by simp only[jV];rw[au (by omega)];exact h k (by omega) h2 h3]
 simp only[rY,jV]
 rw[aF ⟨by simp,ht⟩,T i hi t,aF ht]
def xn(r:T V):List Nat->T V
 |[]=>.nil
 |t::ts=>match r.get t with
  |some v=>(xn r ts).set t v
  |none=>xn r ts
theorem Ic(r:T V):∀(ts:List Nat) (t:Nat),(xn r ts).get t=if t∈ts then r.get t else none
 |[],t=>by simp[xn,T.get]
 |u::ts,t=>by
  simp only[xn]
  split
  ·rename_i v hv
   rw[T.ai,Ic r ts t]
   by_cases e:t=u
   ·subst e;simp[hv]
   ·simp[e]
  ·rename_i hv
   rw[Ic r ts t]
   by_cases e:t=u
   ·subst e;simp[hv]
   ·simp[e]
theorem Yl7{r:T V}{ts:List Nat}{s:Src}(h:∀t∈s.tmps,t∈ts):s.ev (xn r ts)=s.ev r:=by
 cases s with
 |const v=>rfl
 |tmp t=>simp only[Src.ev];rw[Ic,aF (h t (by simp[Src.tmps]))]
def oR(h:T O)(ae:List Nat):Nat->T O
 |0=>.nil
 |n+1=>match h.get n with
  |some o=>(oR h ae n).set n (if n∈ae then o else .dead)
  |none=>oR h ae n
theorem Gk(h:T O)(ae:List Nat):∀(n j:Nat),(oR h ae n).get j=if j<n then (h.get j).map fun o=>if j∈ae then o else .dead else none
 |0,j=>by simp[oR,T.get]
 |n+1,j=>by
  simp only[oR]
  split
  ·rename_i o ho
   rw[T.ai,Gk h ae n j]
   by_cases e:j=n
   ·subst e;simp[ho]
   ·rw[au e]
    by_cases e2:j<n
    ·rw[aF e2,aF (by omega)]
    ·rw[au e2,au (by omega)]
  ·rename_i ho
   rw[Gk h ae n j]
   by_cases e:j=n
   ·subst e;simp[ho]
   ·by_cases e2:j<n
    ·rw[aF e2,aF (by omega)]
    ·rw[au e2,au (by omega)]
def FP.cM(f:FP)(j:Nat):Prop:=
 match f.rd with
 |none=>True
 |some l=>j∈l
theorem Yal{st σ:St}{i:Nat}(h:σ.h.get i=st.h.get i):σ.row i=st.row i:=by unfold St.row;rw[h]
theorem Yf8{call:cm}{r:T V}{op:gG}{st s':St}{v:V}{ws:List Nat}{lo hi:Nat}(hm:bZ op call r {st with w:=[]}=some (v,s'))(fj:lo=st.n):
  ∃σ σ',σ.n=st.n/\σ.w=[]/\bZ op call r σ=some (v,σ')/\σ'.n=s'.n/\σ'.w=s'.w/\
   (∀j,j<st.n->(mL r op ws lo hi).cM j->σ.h.get j=st.h.get j)/\(∀j,j<st.n->¬(mL r op ws lo hi).cM j->σ.h.get j=(st.h.get j).map fun _=>.dead)/\
   (∀j,((mL r op ws lo hi).cM j/\j<st.n)\/(st.n<=j/\j<s'.n)->σ'.h.get j=s'.h.get j)/\(∀j∈s'.w,(mL r op ws lo hi).cM j):=by
 by_cases hs:op.l8=true
 ·have hf:mL r op ws lo hi=⟨some [],[],lo,hi⟩:=by unfold mL;rw[aF hs]
  rw[hf]
  have hd:∀j,j<st.n->(oR st.h [] st.n).get j=(st.h.get j).map fun _=>.dead:=fun j hj=>by
   rw[Gk,aF hj];simp
  rcases XQ hs (oR st.h [] st.n) [] hm with⟨h1,h2⟩|⟨o,h1,h2⟩
  ·subst h1
   exact⟨⟨oR st.h [] st.n,st.n,[]⟩,_,rfl,rfl,h2,rfl,rfl,fun j _ hj=>by simp[FP.cM]at hj,fun j hj _=>hd j hj,fun j hj=>by
    rcases hj with⟨hj,_⟩|⟨h1,h2⟩
    ·simp[FP.cM]at hj
    ·simp only at h2;omega,fun j hj=>by simp at hj⟩
  ·subst h1
   refine⟨⟨oR st.h [] st.n,st.n,[]⟩,_,rfl,rfl,h2,rfl,rfl,fun j _ hj=>by simp[FP.cM]at hj,fun j hj _=>hd j hj,fun j hj=>?_,fun j hj=>by simp[St.alloc]at hj⟩
   rcases hj with⟨hj,_⟩|⟨h1,h2⟩
   ·simp[FP.cM]at hj
   ·simp only[St.alloc]at h2 ⊢
    have:j=st.n:=by omega
    subst this
    rw[T.ai,T.ai,aF rfl,aF rfl]
 ·cases hl:LN r op with
  |none=>
   have hf:mL r op ws lo hi=⟨none,ws,lo,hi⟩:=by unfold mL;rw[au hs,hl]
   rw[hf]
   exact⟨{st with w:=[]},s',rfl,rfl,hm,rfl,rfl,fun _ _ _=>rfl,fun _ _ hj=>absurd trivial hj,fun _ _=>rfl,fun _ _=>trivial⟩
  |some i=>
   by_cases g_:i<st.n
   case neg=>
    have hf:mL r op ws lo hi=⟨none,ws,lo,hi⟩:=by unfold mL;rw[au hs,hl];simp only[];rw[au (by rw[fj];simpa[Nat.blt_eq]using g_)]
    rw[hf]
    exact⟨{st with w:=[]},s',rfl,rfl,hm,rfl,rfl,fun _ _ _=>rfl,fun _ _ hj=>absurd trivial hj,fun _ _=>rfl,fun _ _=>trivial⟩
   have hf:mL r op ws lo hi=⟨some [i],ws,lo,hi⟩:=by unfold mL;rw[au hs,hl];simp only[];rw[aF (by rw[fj];simpa[Nat.blt_eq]using g_)]
   rw[hf]
   have hk:(oR st.h [i] st.n).get i=st.h.get i:=by
    rw[Gk,aF g_]
    cases st.h.get i<;>simp
   have hd:∀j,j<st.n->¬(j∈[i])->(oR st.h [i] st.n).get j=(st.h.get j).map fun _=>.dead:=fun j hj hn=>by
    rw[Gk,aF hj];simp only[hn,if_false]
   have ar:(⟨oR st.h [i] st.n,st.n,[]⟩:St).row i=St.row {st with w:=[]} i:=Yal hk
   cases op<;>simp only[LN,reduceCtorEq]at hl
   case load k x=>
    split at hl
    ·rename_i i' o hx
     simp only[aj]at hl;subst hl
     simp only[bZ,C8,hx]at hm ⊢
     split at hm
     ·rename_i c e vf hr
      split at hm
      ·rename_i u hu
       simp only[aj,bq]at hm
       obtain⟨rfl,rfl⟩:=hm
       refine⟨⟨oR st.h [i'] st.n,st.n,[]⟩,⟨oR st.h [i'] st.n,st.n,[]⟩,rfl,rfl,?_,rfl,rfl,fun j _ hj=>?_,fun j hj hn=>hd j hj hn,fun j hj=>?_,fun j hj=>by simp at hj⟩
       ·rw[ar,hr];simp only[hu]
       ·simp only[FP.cM,vM]at hj;subst hj;exact hk
       ·rcases hj with⟨hj,_⟩|⟨h1,h2⟩
        ·simp only[FP.cM,vM]at hj;subst hj;exact hk
        ·simp only at h2;omega
      ·cases hm
     ·cases hm
    ·cases hl
   case store k x y=>
    split at hl
    ·rename_i i' o hx
     simp only[aj]at hl;subst hl
     simp only[bZ,Bt,hx]at hm ⊢
     split at hm
     ·rename_i i2 o2 u Gt hu
      simp only[aj,V.ptr.injEq]at Gt
      obtain⟨rfl,rfl⟩:=Gt
      split at hm
      ·rename_i c e hr
       split at hm
       ·rename_i hc
        simp only[aj,bq]at hm
        obtain⟨rfl,rfl⟩:=hm
        refine⟨⟨oR st.h [i'] st.n,st.n,[]⟩,St.write ⟨oR st.h [i'] st.n,st.n,[]⟩ i' (.cells (ag c o u.cells) e true),rfl,rfl,?_,rfl,rfl,fun j _ hj=>?_,fun j hj hn=>hd j hj hn,fun j hj=>?_,fun j hj=>?_⟩
        ·rw[ar,hr]
         simp only[aF hc]
        ·simp only[FP.cM,vM]at hj;subst hj;exact hk
        ·rcases hj with⟨hj,_⟩|⟨h1,h2⟩
         ·simp only[FP.cM,vM]at hj;subst hj
          simp only[St.write,T.ai,if_true]
         ·simp only[St.write]at h2;omega
        ·simpa[FP.cM,St.write]using hj
       ·cases hm
      ·cases hm
     ·cases hm
    ·cases hl
end
end Go.Mx
