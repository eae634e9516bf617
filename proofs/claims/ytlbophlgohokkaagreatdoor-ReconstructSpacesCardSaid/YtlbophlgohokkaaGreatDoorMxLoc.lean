/-
  What an operation of M looks at.
-/
import Derived.Test.YtlbophlgohokkaaGreatDoorMxFun
set_option linter.all false
namespace Go.Mx
open Go
section
variable {r r' : T V} {st : St} {call : cA}
theorem B6 : ∀ {l : List Src}, (∀ s ∈ l, s.ev r = s.ev r') -> pJ r l = pJ r' l
  | [], _ => rfl
  | s :: l, h => by
    simp only [pJ]
    rw [h s (by simp), B6 fun s hs => h s (by simp [hs])]
theorem Ak {o : Option Src} (h : ∀ s ∈ wY o, s.ev r = s.ev r') : ay r o = ay r' o := by
  cases o with
  | none => rfl
  | some s => simp only [ay]; rw [h s (by simp [wY])]
theorem Pk : ∀ {l : List (Nat × Nat × Src)}, (∀ s ∈ l.map (·.2.2), s.ev r = s.ev r') -> wS r l = wS r' l
  | [], _ => rfl
  | (o, k, s) :: l, h => by
    simp only [wS]
    rw [h s (by simp), Pk fun s hs => h s (by simp only [jU, jN]; exact .inr hs)]
theorem Yb6 {op : gp} (h : ∀ s ∈ op.yh, s.ev r = s.ev r') : bZ op call r st = bZ op call r' st := by
  cases op <;> simp only [gp.yh, jN, List.not_mem_nil, or_false, forall_eq_or_imp, forall_eq, pw] at h <;> simp only [bZ]
  case build z ps => simp only [yd, Pk h]
  case aY e s l z ps => simp only [Bx, Pk h]
  case cI f a c => simp only [BE, B6 fun s hs => h s (.inl hs), B6 fun s hs => h s (.inr hs)]
  case az x lo hi => simp only [tF, h.1, Ak fun s hs => h.2 s (.inl hs), Ak fun s hs => h.2 s (.inr hs)]
  case cP z x lo hi m => simp only [mA, h.1, Ak fun s hs => h.2 s (.inl (.inl hs)), Ak fun s hs => h.2 s (.inl (.inr hs)), Ak fun s hs => h.2 s (.inr hs)]
  case c_ k z x lo hi m => simp only [uQ, h.1, Ak fun s hs => h.2 s (.inl (.inl hs)), Ak fun s hs => h.2 s (.inl (.inr hs)), Ak fun s hs => h.2 s (.inr hs)]
  case mn l => simp only [tG, B6 h]
  case mx l => simp only [np, B6 h]
  case call f l => simp only [tH, h.1, B6 fun s hs => h.2 s hs]
  case ext e l => simp only [BL, B6 h]
  all_goals
    first
      | rfl
      | (simp only [Bv, Bw, By, Bz, BB, BC, DV, zO, BD, DW, zP, BF, BG, BI, BJ, BK, sP, DZ, D3, zT, D4, h]; done)
      | (simp only [zM, zN, BA, ye, yf, zQ, DY, zR, BH, zS, TQ, Oe, yg, wV, D5, h.1, h.2]; done)
      | (simp only [zM, zS, Oe, h.1, h.2.1, h.2.2]; done)
theorem UP {op : gp} (hs : op.km = true) (h' : T O) (l' : List Nat) {v : V} {av : St} (h : bZ op call r st = some (v, av)) :
    (av = st /\ bZ op call r ⟨h', st.n, l'⟩ = some (v, ⟨h', st.n, l'⟩)) \/ ∃ o, av = st.alloc o /\ bZ op call r ⟨h', st.n, l'⟩ = some (v, St.alloc ⟨h', st.n, l'⟩ o) := by
  cases op <;> simp only [gp.km, eL] at hs <;> simp only [bZ] at h ⊢
  case bD e z b zs x y =>
    unfold ye at *
    split at h
    · rename_i ha hb
      split at h
      · rename_i hc
        simp only [ai, bo] at h
        obtain ⟨rfl, rfl⟩ := h
        refine .inr ⟨_, rfl, ?_⟩
        rw [aF hc]
      · cases h
    · cases h
  case bin b t ng x y =>
    refine .inl ?_
    unfold BA at *
    split at h
    · cases b <;> first | (cases hs; done) | (simp only [JL, reduceCtorEq] at h)
    · split at h
      · rename_i hm
        simp only [ai, bo] at h
        obtain ⟨rfl, rfl⟩ := h
        exact ⟨rfl, by simp_all⟩
      · cases h
    · cases h
  all_goals
    first
      | unfold Bv at * | unfold zM at * | unfold DU at * | unfold Bw at * | unfold yd at * | unfold Bx at * | unfold Bz at * | unfold BB at * | unfold BC at * | unfold DV at * | unfold zO at * | unfold DW at * | unfold BE at * | unfold DX at * | unfold zP at * | unfold ye at * | unfold tF at * | unfold BF at * | unfold BG at * | unfold yf at * | unfold zQ at * | unfold DY at * | unfold zR at * | unfold BI at * | unfold BK at * | unfold FQ at * | unfold DZ at * | unfold tG at * | unfold np at * | unfold BL at *
  all_goals
    repeat' split at h
    all_goals
      first
        | (cases h; done)
        | (simp only [ai, bo] at h
           obtain ⟨rfl, rfl⟩ := h
           first
             | (refine .inl ⟨rfl, ?_⟩; simp_all; done)
             | (refine .inr ⟨_, rfl, ?_⟩; simp_all; done))
theorem UQ {α : Type} {p : α -> α -> Bool} {f : α} {m : Nat} : ∀ {seen : List α} {j : Nat}, seen.length = j -> dn.dp p f m (j - 1) seen = true -> ∀ i, i < j -> ∀ g, seen[j - 1 - i]? = some g -> m.testBit i = true \/ p g f = true
  | [], j, hl, _, i, hi, g, hg => by simp at hg
  | g0 :: seen, j, hl, h, i, hi, g, hg => by
    simp only [dn.dp, iB, Bq] at h
    simp only [bq] at hl
    by_cases e : i = j - 1
    · subst e
      simp only [Nat.sub_self, wM, ai] at hg
      subst hg
      exact h.1
    · have h2 := UQ (j := j - 1) (by omega) h.2 i (by omega) g
      refine h2 ?_
      rw [show j - 1 - i = (j - 1 - 1 - i) + 1 by omega] at hg
      simpa using hg
theorem UR {α : Type} {p : α -> α -> Bool} : ∀ {fs : List α} {ms : List Nat} {j : Nat} {seen : List α}, seen.length = j -> dn.go p fs ms j seen = true ->
    ∀ (b i : Nat) (f g : α), fs[b]? = some f -> i < j + b -> (seen.reverse ++ fs)[i]? = some g -> (ms.getD b 0).testBit i = true \/ p g f = true
  | [], ms, j, seen, hl, _, b, i, f, g, hf, _, _ => by simp at hf
  | f0 :: fs, ms, j, seen, hl, h, b, i, f, g, hf, hi, hg => by
    simp only [dn.go, iB] at h
    cases b with
    | zero =>
      simp only [wM, ai] at hf
      subst hf
      have hm : ms.getD 0 0 = ms.headD 0 := by cases ms <;> rfl
      rw [hm]
      refine UQ hl h.1 i (by omega) g ?_
      rw [jO (by simp; omega), List.getElem?_reverse (by omega)] at hg
      rw [<- hl]; exact hg
    | succ b =>
      have hm : ms.getD (b + 1) 0 = ms.tail.getD b 0 := by cases ms <;> simp
      rw [hm]
      refine UR (j := j + 1) (seen := f0 :: seen) (by simp [hl]) h.2 b i f g (by simpa using hf) (by omega) ?_
      simpa using hg
theorem Uj {α : Type} {p : α -> α -> Bool} {xs : List α} {ms : List Nat} (h : dn p xs ms = true) {i j : Nat} {a b : α} (hij : i < j) (ha : xs[i]? = some a) (hb : xs[j]? = some b) : (ms.getD j 0).testBit i = true \/ p a b = true :=
  UR (seen := []) rfl h j i b a hb (by omega) (by simpa using ha)
theorem Pm : ∀ (os : List Oper) (acc : List Nat) (k : Nat), k < acc.length -> (qi os acc).getD k 0 = acc.getD k 0
  | [], acc, k, _ => rfl
  | o :: os, acc, k, h => by
    simp only [qi]
    rw [Pm os _ k (by simp; omega)]
    simp only [List.getD_eq_getElem?_getD]
    rw [jO h]
theorem US : ∀ (os : List Oper) (acc : List Nat) (j : Nat) (o : Oper), os[j]? = some o ->
    ∃ pre : List Nat, pre.length = acc.length + j /\ (qi os acc).getD (acc.length + j) 0 = FH o pre /\ ∀ k, k < acc.length + j -> (qi os acc).getD k 0 = pre.getD k 0
  | [], acc, j, o, h => by simp at h
  | o0 :: os, acc, 0, o, h => by
    simp only [wM, ai] at h
    subst h
    refine ⟨acc, rfl, ?_, fun k hk => ?_⟩
    · simp only [qi]
      rw [Pm os _ _ (by simp)]
      simp [List.getD_eq_getElem?_getD]
    · exact Pm (o0 :: os) acc k hk
  | o0 :: os, acc, j + 1, o, h => by
    obtain ⟨pre, h1, h2, h3⟩ := US os (acc ++ [FH o0 acc]) j o (by simpa using h)
    simp only [fK, bq, List.length_nil] at h1 h2 h3
    refine ⟨pre, by omega, ?_, ?_⟩
    · rw [show acc.length + (j + 1) = acc.length + (0 + 1) + j by omega]; exact h2
    · intro k hk; exact h3 k (by omega)
theorem Zym {o : Oper} {ms : List Nat} {i : Nat} (h : (FH o ms).testBit i = true) : ∃ e ∈ o.after, Region.binds .any e = true /\ (i = e.on \/ (ms.getD e.on 0).testBit i = true) := by
  have key : ∀ (l : List Edge) (s : Nat), (l.foldl (fun s e => if Region.binds .any e then s ||| 2 ^ e.on ||| ms.getD e.on 0 else s) s).testBit i = true ->
      s.testBit i = true \/ ∃ e ∈ l, Region.binds .any e = true /\ (i = e.on \/ (ms.getD e.on 0).testBit i = true) := by
    intro l
    induction l with
    | nil => intro s h; exact .inl h
    | cons e l ih =>
      intro s h
      simp only [List.foldl_cons] at h
      rcases ih _ h with h | ⟨e', h1, h2⟩
      · split at h
        · rename_i hb
          simp only [Nat.testBit_or, Bq] at h
          rcases h with (h | h) | h
          · exact .inl h
          · rw [Nat.testBit_two_pow] at h
            exact .inr ⟨e, by simp, hb, .inl (by simpa using (of_decide_eq_true h).symm)⟩
          · exact .inr ⟨e, by simp, hb, .inr h⟩
        · exact .inl h
      · exact .inr ⟨e', by simp [h1], h2⟩
  unfold FH at h
  rw [<- Array.foldl_toList] at h
  rcases key _ _ h with h | ⟨e, h1, h2⟩
  · simp at h
  · exact ⟨e, by simpa using h1, h2⟩
theorem Ygu {ops : Array Oper} {j i : Nat} {o : Oper} (ho : ops[j]? = some o) (h : ((qi ops.toList []).getD j 0).testBit i = true) :
    ∃ e ∈ o.after, Region.binds .any e = true /\ (i = e.on \/ ((qi ops.toList []).getD e.on 0).testBit i = true) := by
  obtain ⟨pre, h1, h2, h3⟩ := US ops.toList [] j o (by rw [uI]; exact ho)
  simp only [List.length_nil, qm] at h1 h2 h3
  rw [h2] at h
  obtain ⟨e, g1, g2, g3⟩ := Zym h
  refine ⟨e, g1, g2, g3.imp id fun hb => ?_⟩
  by_cases he : e.on < j
  · rw [h3 _ he]; exact hb
  · have : pre.getD e.on 0 = 0 := by simp [List.getD_eq_getElem?_getD, h1, tA he]
    rw [this] at hb; simp at hb
def Ub (ops : Array Oper) (S : Nat -> Prop) : Prop := ∀ k i, S k -> ((qi ops.toList []).getD k 0).testBit i = true -> S i
theorem Uc {ops : Array Oper} {listed : Array Bool} (hc : Ub ops (fun k => listed.getD k false = true)) {j : Nat} (hj : j ∈ Region.ready .any ops listed) :
    j < ops.size /\ listed.getD j true = false /\ ∀ i, ((qi ops.toList []).getD j 0).testBit i = true -> listed.getD i false = true := by
  unfold Region.ready at hj
  simp only [List.mem_filter, wm, iB, Bo] at hj
  obtain ⟨h1, h2, h3⟩ := hj
  refine ⟨h1, h2, fun i hi => ?_⟩
  have ho : ops[j]? = some ops[j] := Array.getElem?_eq_getElem h1
  obtain ⟨e, g1, g2, g3⟩ := Ygu ho hi
  rw [ho] at h3
  simp only [wE, og, N6, Bq, Bo] at h3
  have he : listed.getD e.on false = true := by
    rcases h3 e g1 with h | h
    · rw [g2] at h; cases h
    · exact h
  rcases g3 with rfl | g3
  · exact he
  · exact hc _ _ he g3
mutual
def Sc (n : Nat) : V -> Prop
  | .ptr i _ => i < n
  | .slice i _ _ _ _ => i < n
  | .map i => i < n
  | .chan i => i < n
  | .func _ a c => Al n a /\ Al n c
  | .yield i => i < n
  | .iface _ v => Sc n v
  | .agg l => Al n l
  | .bb l => Al n l
  | _ => True
def Al (n : Nat) : List V -> Prop
  | [] => True
  | v :: vs => Sc n v /\ Al n vs
end
mutual
theorem VR.sc {μ : Mu} {n : Nat} (h : ∀ i l, μ i = some l -> i < n) : ∀ (v : V) (x : Value), VR μ v x -> Sc n v
  | .bool _, _, _ => by simp [Sc]
  | .int _ _, _, _ => by simp [Sc]
  | .qf _ _, _, _ => by simp [Sc]
  | .str _, _, _ => by simp [Sc]
  | .bG, _, _ => by simp [Sc]
  | .ptr _ _, _, hx => by simp only [VR] at hx; obtain ⟨l, h1, _⟩ := hx; exact h _ _ h1
  | .aa, _, _ => by simp [Sc]
  | .slice _ _ _ _ _, _, hx => by simp only [VR] at hx; obtain ⟨l, c, h1, _⟩ := hx; exact h _ _ h1
  | .empty, _, _ => by simp [Sc]
  | .bM, _, _ => by simp [Sc]
  | .map _, _, hx => by simp only [VR] at hx; obtain ⟨l, h1, _⟩ := hx; exact h _ _ h1
  | .bO, _, _ => by simp [Sc]
  | .chan _, _, hx => by simp only [VR] at hx; obtain ⟨l, h1, _⟩ := hx; exact h _ _ h1
  | .func _ a c, _, hx => by
    simp only [VR] at hx; obtain ⟨a', c', _, h2, h3⟩ := hx
    exact ⟨aW.sc h a a' h2, aW.sc h c c' h3⟩
  | .yield _, _, hx => by simp only [VR] at hx; obtain ⟨l, h1, _⟩ := hx; exact h _ _ h1
  | .bg, _, _ => by simp [Sc]
  | .iface _ v, _, hx => by simp only [VR] at hx; obtain ⟨y, _, h2⟩ := hx; exact VR.sc h v y h2
  | .aR, _, _ => by simp [Sc]
  | .agg vs, _, hx => by simp only [VR] at hx; obtain ⟨a, _, h2⟩ := hx; exact aW.sc h vs a h2
  | .bb vs, _, hx => by simp only [VR] at hx; obtain ⟨a, _, h2⟩ := hx; exact aW.sc h vs a h2
theorem aW.sc {μ : Mu} {n : Nat} (h : ∀ i l, μ i = some l -> i < n) : ∀ (vs : List V) (xs : List Value), aW μ vs xs -> Al n vs
  | [], _, _ => trivial
  | v :: vs, _, hx => by
    simp only [aW] at hx
    obtain ⟨y, ys, _, h2, h3⟩ := hx
    exact ⟨VR.sc h v y h2, aW.sc h vs ys h3⟩
end
mutual
theorem VR.cut {μ μ' : Mu} {n : Nat} (h : ∀ i l, i < n -> μ i = some l -> μ' i = some l) : ∀ (v : V) (x : Value), Sc n v -> VR μ v x -> VR μ' v x
  | .bool _, _, _, hx => by simpa [VR] using hx
  | .int _ _, _, _, hx => by simpa [VR] using hx
  | .qf _ _, _, _, hx => by simpa [VR] using hx
  | .str _, _, _, hx => by simpa [VR] using hx
  | .bG, _, _, hx => by simpa [VR] using hx
  | .ptr _ _, _, hs, hx => by simp only [VR, Sc] at *; obtain ⟨l, h1, h2⟩ := hx; exact ⟨l, h _ _ hs h1, h2⟩
  | .aa, _, _, hx => by simpa [VR] using hx
  | .slice _ _ _ _ _, _, hs, hx => by simp only [VR, Sc] at *; obtain ⟨l, c, h1, h2⟩ := hx; exact ⟨l, c, h _ _ hs h1, h2⟩
  | .empty, _, _, hx => by simpa [VR] using hx
  | .bM, _, _, hx => by simpa [VR] using hx
  | .map _, _, hs, hx => by simp only [VR, Sc] at *; obtain ⟨l, h1, h2⟩ := hx; exact ⟨l, h _ _ hs h1, h2⟩
  | .bO, _, _, hx => by simpa [VR] using hx
  | .chan _, _, hs, hx => by simp only [VR, Sc] at *; obtain ⟨l, h1, h2⟩ := hx; exact ⟨l, h _ _ hs h1, h2⟩
  | .func _ a c, _, hs, hx => by
    simp only [VR, Sc] at *; obtain ⟨a', c', h1, h2, h3⟩ := hx
    exact ⟨a', c', h1, aW.cut h a a' hs.1 h2, aW.cut h c c' hs.2 h3⟩
  | .yield _, _, hs, hx => by simp only [VR, Sc] at *; obtain ⟨l, h1, h2⟩ := hx; exact ⟨l, h _ _ hs h1, h2⟩
  | .bg, _, _, hx => by simpa [VR] using hx
  | .iface _ v, _, hs, hx => by simp only [VR, Sc] at *; obtain ⟨y, h1, h2⟩ := hx; exact ⟨y, h1, VR.cut h v y hs h2⟩
  | .aR, _, _, hx => by simpa [VR] using hx
  | .agg vs, _, hs, hx => by simp only [VR, Sc] at *; obtain ⟨a, h1, h2⟩ := hx; exact ⟨a, h1, aW.cut h vs a hs h2⟩
  | .bb vs, _, hs, hx => by simp only [VR, Sc] at *; obtain ⟨a, h1, h2⟩ := hx; exact ⟨a, h1, aW.cut h vs a hs h2⟩
theorem aW.cut {μ μ' : Mu} {n : Nat} (h : ∀ i l, i < n -> μ i = some l -> μ' i = some l) : ∀ (vs : List V) (xs : List Value), Al n vs -> aW μ vs xs -> aW μ' vs xs
  | [], _, _, hx => by simpa [aW] using hx
  | v :: vs, _, hs, hx => by
    simp only [aW, Al] at *
    obtain ⟨y, ys, h1, h2, h3⟩ := hx
    exact ⟨y, ys, h1, VR.cut h v y hs.1 h2, aW.cut h vs ys hs.2 h3⟩
end
theorem OM.cut {P : Program} {μ μ' μT : Mu} {w wT : World} {n : Nat} (h : ∀ i l, i < n -> μ i = some l -> μ' i = some l) (hT : ∀ i l, μT i = some l -> i < n) {o : O} {l lT : L} (ht : OM P μT wT o lT) (ho : OM P μ w o l) : OM P μ' w o l := by
  cases o with
  | cells c e rw =>
    obtain ⟨c', lo, hi, h1, h2, h3, h4, h5⟩ := ho
    obtain ⟨cT, _, _, _, _, _, t4, _⟩ := ht
    exact ⟨c', lo, hi, h1, h2, h3, fun j v hv => by
      obtain ⟨x, a, b⟩ := h4 j v hv
      obtain ⟨xT, _, bT⟩ := t4 j v hv
      exact ⟨x, a, VR.cut h v x (VR.sc hT v xT bT) b⟩, h5⟩
  | map es =>
    obtain ⟨fS, h1, h2⟩ := ho
    obtain ⟨esT, _, t2⟩ := ht
    refine ⟨fS, h1, ?_⟩
    have : ∀ (es : List (V × V)) (xs xT : List MapEntry) (b bT : Nat), gw μ es xs b -> gw μT es xT bT -> gw μ' es xs b := by
      intro es
      induction es with
      | nil => intro xs xT b bT h1 _; exact h1
      | cons p es ih =>
        intro xs xT b bT h1 h2
        obtain ⟨k, u⟩ := p
        obtain ⟨e, ys, rfl, a1, a2, a3, a4⟩ := h1
        obtain ⟨eT, yT, rfl, b1, b2, _, b4⟩ := h2
        exact ⟨e, ys, rfl, VR.cut h k _ (VR.sc hT k _ b1) a1, VR.cut h u _ (VR.sc hT u _ b2) a2, a3, ih ys yT _ _ a4 b4⟩
    exact this _ _ _ _ _ h2 t2
  | chan cap buf =>
    obtain ⟨b', s, r, h1, h2⟩ := ho
    obtain ⟨bT, _, _, _, t2⟩ := ht
    exact ⟨b', s, r, h1, aW.cut h _ _ (aW.sc hT _ _ t2) h2⟩
  | dV s pos => simp only [OM] at *; exact ho
  | loop R =>
    obtain ⟨fn, tmps, fj, fk, ld, h1, h2, h3, h4, h5⟩ := ho
    obtain ⟨_, tT, _, _, ldT, _, t2, _, _, t5⟩ := ht
    refine ⟨fn, tmps, fj, fk, ld, h1, ⟨h2.1, fun t v hv => ?_⟩, h3, h4, h _ _ (hT _ _ t5) h5⟩
    obtain ⟨x, a, b⟩ := h2.2 t v hv
    obtain ⟨xT, _, bT⟩ := t2.2 t v hv
    exact ⟨x, a, VR.cut h v x (VR.sc hT v xT bT) b⟩
  | defs b => simp only [OM] at *; exact ho
  | dead => trivial
end
section
variable {P:Program} {μ:Mu} {w:World} {st av:St} {fr bE:Fr} {a:Act} {call:cA} {v:V} {lb:Option Nat}
theorem Yqb(bQ:ik P call)(hE:pr P)(hh:bm P μ w st)(hf:jI μ fr a){o:Oper}(h:bZ (uE P o.op) call fr.r st=some (v,av)):∃x w' μ' ws,VR μ' v x/\bB P μ w st μ' w' av ws:=by
 have Pd:=OK (lb:=none) (Q:=fun _ _ _=>False) (K:=fun _ _=>∃x w' μ' ws,VR μ' v x/\bB P μ w st μ' w' av ws) bQ hE hh hf h (fun x w' μ' ws h1 h2=>⟨x,w',μ',ws,h1,h2⟩)
 obtain⟨_,hu⟩:=Pd
 generalize (o.semAt (FE none).round a.eval).run P w=res at hu
 cases res with
 |halt x w'=>cases x<;>simp only[Oper.uponIn]at hu
 |ok x w'=>
  cases x<;>simp only[Oper.uponIn]at hu
  case value=>exact hu
  case skip=>exact hu
  case defer=>exact hu
  case enter f args=>
   obtain⟨e,w',fr,hR,_⟩:=hu.2.2 [] (fun d hd=>by simp[Fence.wide]at hd)
   cases e with
   |returned v=>exact hR
   |panicked c=>exact hR.elim
   |outgrown=>obtain⟨_,_,hq⟩:=hR;exact hq.elim
  case row r args=>
   obtain⟨v',w',hR,_⟩:=hu.2 default [] (fun d hd=>by simp[Fence.wide]at hd)
   exact hR
  case round l f tmps fj fk=>
   obtain⟨e,w',hR,_⟩:=hu.2.2 default [] (fun d hd=>by simp[Fence.wide]at hd)
   cases e with
   |returned v=>exact hR
   |panicked c=>exact hR.elim
   |outgrown=>obtain⟨_,_,hq⟩:=hR;exact hq.elim
def vg(P:Program)(call:cA)(ops:Array Oper)(o:Oper)(st:St)(fr:Fr)(v:V)(f:FP)(bR:St)(dw:Fr):Prop:=
 ∃g b,Bf ops o.guard=some g/\bP fr.r g=some b/\fr.put o.dst v=some dw/\
  (b=true->∃s',bZ (uE P o.op) call fr.r {st with w:=[]}=some (v,s')/\bR={s' with w:=au st.n s'.w++st.w}/\f=lE fr.r (uE P o.op) (au st.n s'.w) st.n s'.n)/\
  (b=false->v=.bb []/\bR=st/\f=⟨some [],[],st.n,st.n⟩)
theorem Ui{ops:Array Oper}:∀(os:List Oper) (fr:Fr) (st:St) (fT:List FP) (bE:Fr) (av:St),bJ call (os.map (m_ P ops)) fr st=some (fT,bE,av)->
  ∃(aG:Nat->St) (bp:Nat->Fr) (vI:Nat->V) (bh:Nat->FP),aG 0=st/\bp 0=fr/\aG os.length=av/\bp os.length=bE/\fT.length=os.length/\
   ∀i o,os[i]?=some o->fT[i]?=some (bh i)/\vg P call ops o (aG i) (bp i) (vI i) (bh i) (aG (i+1)) (bp (i+1))
 |[],fr,st,fT,bE,av,h=>by
  simp only[ql,bJ,TS,ai,bo]at h
  obtain⟨rfl,rfl,rfl⟩:=h
  exact⟨fun _=>st,fun _=>fr,fun _=>.bG,fun _=>⟨none,[],0,0⟩,rfl,rfl,rfl,rfl,rfl,fun i o h=>by simp at h⟩
 |o::os,fr,st,fT,bE,av,h=>by
  simp only[jU,bJ,wX]at h
  have go:∀(v:V) (f:FP) (bR:St) (dw:Fr) (oT:List FP),vg P call ops o st fr v f bR dw->bJ call (os.map (m_ P ops)) dw bR=some (oT,bE,av)->fT=f::oT->
    ∃(aG:Nat->St) (bp:Nat->Fr) (vI:Nat->V) (bh:Nat->FP),aG 0=st/\bp 0=fr/\aG (o::os).length=av/\bp (o::os).length=bE/\fT.length=(o::os).length/\
     ∀i o',(o::os)[i]?=some o'->fT[i]?=some (bh i)/\vg P call ops o' (aG i) (bp i) (vI i) (bh i) (aG (i+1)) (bp (i+1)):=by
   intro v f bR dw oT hs hm hf
   obtain⟨aG,bp,vI,bh,h1,h2,h3,h4,h5,h6⟩:=Ui os dw bR oT bE av hm
   refine⟨fun|0=>st|i+1=>aG i,fun|0=>fr|i+1=>bp i,fun|0=>v|i+1=>vI i,fun|0=>f|i+1=>bh i,rfl,rfl,h3,h4,by simp[hf,h5],fun i o' ho=>?_⟩
   cases i with
   |zero=>
    simp only[wM,ai]at ho
    subst ho
    refine⟨by simp[hf],?_⟩
    show vg P call ops o st fr v f (aG 0) (bp 0)
    rw[h1,h2];exact hs
   |succ i=>
    obtain⟨g1,g2⟩:=h6 i o' (by simpa using ho)
    exact⟨by simpa[hf]using g1,g2⟩
  unfold m_ at h
  cases hg:Bf ops o.guard with
  |none=>
   rw[hg]at h
   simp only[bP,bZ,Of]at h
   cases h
  |some g=>
   rw[hg]at h
   simp only at h
   cases hw:bP fr.r g with
   |none=>rw[hw]at h;cases h
   |some b=>
    rw[hw]at h
    cases b with
    |true=>
     simp only at h
     split at h
     ·rename_i v1 s1 hm
      split at h
      ·rename_i dw hp
       split at h
       ·rename_i oT tN eh fX
        simp only[ai,bo]at h
        obtain⟨rfl,rfl,rfl⟩:=h
        exact go v1 _ _ dw oT ⟨g,true,hg,hw,hp,fun _=>⟨s1,hm,rfl,rfl⟩,fun hc=>by cases hc⟩ fX rfl
       ·cases h
      ·cases h
     ·cases h
    |false=>
     simp only at h
     split at h
     ·rename_i dw hp
      split at h
      ·rename_i oT tN eh fX
       simp only[ai,bo]at h
       obtain⟨rfl,rfl,rfl⟩:=h
       exact go (.bb []) _ st dw oT ⟨g,false,hg,hw,hp,(fun hc=>by cases hc),fun _=>⟨rfl,rfl,rfl⟩⟩ fX rfl
      ·cases h
     ·cases h
theorem OL{op:gp}{s':St}(hm:bZ op call fr.r {st with w:=[]}=some (v,s'))(lo hi:Nat):(lE fr.r op (au st.n s'.w) lo hi).wr=au st.n s'.w/\(lE fr.r op (au st.n s'.w) lo hi).lo=lo/\(lE fr.r op (au st.n s'.w) lo hi).hi=hi:=by
 unfold lE
 split
 ·rename_i hs
  rcases UP hs .nil [] hm with⟨h1,_⟩|⟨o,h1,_⟩
  ·subst h1;exact⟨rfl,rfl,rfl⟩
  ·subst h1;exact⟨rfl,rfl,rfl⟩
 ·split
  ·split<;>exact⟨rfl,rfl,rfl⟩
  ·exact⟨rfl,rfl,rfl⟩
theorem UT(bQ:ik P call)(hE:pr P)(hh:bm P μ w st)(hf:jI μ fr a){ops:Array Oper}{o:Oper}{f:FP}{bR:St}{dw:Fr}(h:vg P call ops o st fr v f bR dw):
  ∃w' μ' a',bB P μ w st μ' w' bR f.wr/\jI μ' dw a'/\f.lo=st.n/\f.hi=bR.n:=by
 obtain⟨g,b,hg,hw,hp,ht,F6⟩:=h
 cases b with
 |true=>
  obtain⟨s',hm,rfl,rfl⟩:=ht rfl
  obtain⟨x,w',μ',ws,h1,h2⟩:=Yqb bQ hE (hh.now []) hf hm
  have h3:=h2.fold hh
  obtain⟨e1,e2,e3⟩:=OL (call:=call) hm st.n s'.n
  rw[e1,e2,e3]
  exact⟨w',μ',_,h3,(hf.mono (h3.mono hh)).put h1 hp,rfl,rfl⟩
 |false=>
  obtain⟨rfl,rfl,rfl⟩:=F6 rfl
  exact⟨w,μ,_,bB.refl hh,hf.put (v:=.bb []) (x:=undef) ⟨[],rfl,by simp[aW]⟩ hp,rfl,rfl⟩
structure qw (P:Program) (μ:Mu) (aG:Nat->St) (bp:Nat->Fr) (bh:Nat->FP) (N:Nat):Prop where
 fi:∀i,i<N->(aG i).n<=(aG (i+1)).n
 lo:∀i,i<N->(bh i).lo=(aG i).n
 hi:∀i,i<N->(bh i).hi=(aG (i+1)).n
 wl:∀i,i<N->(aG (i+1)).w=(bh i).wr++(aG i).w
 OE:∀i,i<N->∀j∈(bh i).wr,j<(aG i).n
 ad:∀i,i<N->∀j,j<(aG i).n->j∉(bh i).wr->(aG (i+1)).h.get j=(aG i).h.get j
 grow:∀i,i<N->∀j o',j<(aG i).n->(aG (i+1)).h.get j=some o'->∃o,(aG i).h.get j=some o/\(o'.wr=true->o.wr=true)/\(o'.live=true->o.live=true)
 rk:∀i,i<N->∀j∈(bh i).wr,∃o,(aG i).h.get j=some o/\o.wr=true
 scr:∀i,i<=N->∀t v,(bp i).r.get t=some v->Sc (aG i).n v
 sch:∀i,i<=N->∀j,(j<(aG 0).n->∃l,μ j=some l)->j<(aG i).n->∃o μT wT lT,(aG i).h.get j=some o/\OM P μT wT o lT/\∀k l,μT k=some l->k<(aG i).n
 fn:∀i,i<=N->(bp i).n=(bp 0).n/\(bp i).marks=(bp 0).marks
theorem UU{ops:Array Oper}{o:Oper}{f:FP}{bR:St}{dw:Fr}(h:vg P call ops o st fr v f bR dw):∀j∈f.wr,j<st.n:=by
 have key:∀(l:List Nat) (n j:Nat),j∈au n l->j<n:=by
  intro l n j hj
  induction l with
  |nil=>simp[au]at hj
  |cons i l ih=>
   simp only[au]at hj
   split at hj
   ·unfold qo at hj
    split at hj
    ·exact ih hj
    ·simp only[jN]at hj
     rcases hj with rfl|hj
     ·assumption
     ·exact ih hj
   ·exact ih hj
 obtain⟨g,b,hg,hw,hp,ht,F6⟩:=h
 cases b with
 |true=>
  obtain⟨s',hm,rfl,rfl⟩:=ht rfl
  rw[(OL (call:=call) hm _ _).1]
  exact key _ _
 |false=>
  obtain⟨rfl,rfl,rfl⟩:=F6 rfl
  intro j hj
  simp at hj
theorem Yfz{d:Option Nat}(h:fr.put d v=some bE):bE.n=fr.n/\bE.marks=fr.marks:=by
 cases d with
 |none=>simp only[Fr.put,ai]at h;subst h;exact⟨rfl,rfl⟩
 |some d=>
  simp only[Fr.put]at h
  split at h
  ·simp only[ai]at h;subst h;exact⟨rfl,rfl⟩
  ·cases h
theorem Uk(bQ:ik P call)(hE:pr P){ops:Array Oper}{aG:Nat->St}{bp:Nat->Fr}{vI:Nat->V}{bh:Nat->FP}{N:Nat}{os:List Oper}(hN:os.length=N)
  (hh:bm P μ w (aG 0)) (hf:jI μ (bp 0) a) (hs:∀i o,os[i]?=some o->vg P call ops o (aG i) (bp i) (vI i) (bh i) (aG (i+1)) (bp (i+1))):
  ∀i,i<=N->∃w' μ' a' ws,bB P μ w (aG 0) μ' w' (aG i) ws/\jI μ' (bp i) a':=by
 intro i
 induction i with
 |zero=>exact fun _=>⟨w,μ,a,[],bB.refl hh,hf⟩
 |succ i ih=>
  intro hi
  obtain⟨w',μ',a',ws,h1,h2⟩:=ih (by omega)
  have ho:os[i]?=some (os[i]'(by omega)):=cW (by omega)
  obtain⟨w2,μ2,a2,h3,h4,_⟩:=UT bQ hE h1.hr h2 (hs i _ ho)
  exact⟨w2,μ2,a2,_,h1.trans h3,h4⟩
theorem Yns(bQ:ik P call)(hE:pr P){ops:Array Oper}{aG:Nat->St}{bp:Nat->Fr}{vI:Nat->V}{bh:Nat->FP}{N:Nat}{os:List Oper}(hN:os.length=N)
  (hh:bm P μ w (aG 0)) (hf:jI μ (bp 0) a) (hs:∀i o,os[i]?=some o->vg P call ops o (aG i) (bp i) (vI i) (bh i) (aG (i+1)) (bp (i+1))):qw P μ aG bp bh N:=by
 have Gj:=Uk bQ hE hN hh hf hs
 have cF:∀i,i<N->∃o,os[i]?=some o:=fun i hi=>⟨_,cW (by omega)⟩
 have dL:∀i,i<N->∃w1 μ1 w2 μ2 a2,bB P μ1 w1 (aG i) μ2 w2 (aG (i+1)) (bh i).wr/\jI μ2 (bp (i+1)) a2/\(bh i).lo=(aG i).n/\(bh i).hi=(aG (i+1)).n:=fun i hi=>by
  obtain⟨w',μ',a',ws,h1,h2⟩:=Gj i (by omega)
  obtain⟨o,ho⟩:=cF i hi
  obtain⟨w2,μ2,a2,h3,h4,h5,h6⟩:=UT bQ hE h1.hr h2 (hs i o ho)
  exact⟨w',μ',w2,μ2,a2,h3,h4,h5,h6⟩
 refine⟨fun i hi=>?_,fun i hi=>?_,fun i hi=>?_,fun i hi=>?_,fun i hi=>?_,fun i hi=>?_,fun i hi=>?_,fun i hi=>?_,fun i hi t v hv=>?_,fun i hi j hj wK=>?_,fun i=>?_⟩
 ·obtain⟨_,_,_,_,_,h,_⟩:=dL i hi;exact h.fi
 ·obtain⟨_,_,_,_,_,_,_,h,_⟩:=dL i hi;exact h
 ·obtain⟨_,_,_,_,_,_,_,_,h⟩:=dL i hi;exact h
 ·obtain⟨_,_,_,_,_,h,_⟩:=dL i hi;exact h.wl
 ·obtain⟨o,ho⟩:=cF i hi;exact UU (hs i o ho)
 ·obtain⟨_,_,_,_,_,h,_⟩:=dL i hi;exact h.ad
 ·obtain⟨_,_,_,_,_,h,_⟩:=dL i hi;exact h.grow
 ·obtain⟨o,ho⟩:=cF i hi
  obtain⟨_,_,_,_,_,h,_⟩:=dL i hi
  exact fun j hj=>h.rk j hj (UU (hs i o ho) j hj)
 ·obtain⟨w',μ',a',ws,h1,h2⟩:=Gj i hi
  obtain⟨x,_,hx⟩:=h2.1.2 t v hv
  exact VR.sc (fun k l hk=>(h1.hr.cK k l hk).1) v x hx
 ·obtain⟨w',μ',a',ws,h1,h2⟩:=Gj i hi
  have hl:∃l,μ' j=some l:=by
   by_cases h0:j<(aG 0).n
   ·obtain⟨l,hl⟩:=hj h0
    exact⟨l,(h1.ext j h0).trans hl⟩
   ·exact h1.full j (by omega) wK
  obtain⟨l,hl⟩:=hl
  obtain⟨o,wL,sI⟩:=h1.hr.obj j l hl
  exact⟨o,μ',w',l,wL,sI,fun k l hk=>(h1.hr.cK k l hk).1⟩
 ·induction i with
  |zero=>exact fun _=>⟨rfl,rfl⟩
  |succ i ih=>
   intro hi
   obtain⟨o,ho⟩:=cF i (by omega)
   obtain⟨g,b,_,_,hp,_⟩:=hs i o ho
   obtain⟨e1,e2⟩:=Yfz hp
   obtain⟨f1,f2⟩:=ih (by omega)
   exact⟨e1.trans f1,e2.trans f2⟩
end
def qx(aG:Nat->St)(bh:Nat->FP)(k j:Nat):Prop:=j∈(bh k).wr\/((aG k).n<=j/\j<(aG (k+1)).n)
instance (aG:Nat->St) (bh:Nat->FP) (k j:Nat):Decidable (qx aG bh k j):=by unfold qx;infer_instance
def iE(aG:Nat->St)(bh:Nat->FP)(S:Nat->Bool):Nat->Nat->Option O
 |0,j=>(aG 0).h.get j
 |k+1,j=>if S k=true/\qx aG bh k j then (aG (k+1)).h.get j else iE aG bh S k j
def qu(bp:Nat->Fr)(ds:Nat->Option Nat)(S:Nat->Bool):Nat->Nat->Option V
 |0,t=>(bp 0).r.get t
 |k+1,t=>if S k=true/\ds k=some t then (bp (k+1)).r.get t else qu bp ds S k t
def jH(S:Nat->Bool)(i:Nat):Nat->Bool:=fun k=>if k=i then true else S k
section
variable {P:Program} {μ:Mu} {aG:Nat->St} {bp:Nat->Fr} {bh:Nat->FP} {ds:Nat->Option Nat} {S:Nat->Bool} {N:Nat}
theorem OH(T:qw P μ aG bp bh N):∀{i j:Nat},i<=N->j<(aG i).n->(∀k,k<i->qx aG bh k j->S k=true)->iE aG bh S i j=(aG i).h.get j
 |0,j,_,_,_=>rfl
 |i+1,j,hi,hj,h=>by
  simp only[iE]
  by_cases ht:qx aG bh i j
  ·rw[aF ⟨h i (by omega) ht,ht⟩]
  ·rw[ar (fun hc=>ht hc.2)]
   simp only[qx,not_or,not_and,oo]at ht
   have aB:j<(aG i).n:=by
    rcases Nat.lt_or_ge j (aG i).n with h1|h1
    ·exact h1
    ·have:=ht.2 h1;omega
   rw[OH T (by omega) aB fun k hk=>h k (by omega),T.ad i (by omega) j aB ht.1]
theorem JX:∀{M i j:Nat},i<=M->(∀k,i<=k->k<M->qx aG bh k j->S k=false)->iE aG bh S M j=iE aG bh S i j
 |0,i,j,hi,_=>by rw[Nat.le_zero.1 hi]
 |M+1,i,j,hi,h=>by
  by_cases e:i=M+1
  ·rw[e]
  ·simp only[iE]
   rw[ar,JX (by omega) fun k h1 h2=>h k h1 (by omega)]
   rintro⟨h1,h2⟩
   rw[h M (by omega) (by omega) h2]at h1;cases h1
theorem T3{i:Nat}:∀{M j:Nat},¬qx aG bh i j->iE aG bh (jH S i) M j=iE aG bh S M j
 |0,j,_=>rfl
 |M+1,j,h=>by
  simp only[iE]
  rw[T3 h]
  by_cases e:M=i
  ·subst e
   rw[ar (fun hc=>h hc.2),ar (fun hc=>h hc.2)]
  ·simp only[jH,e,if_false]
theorem Yd5{i j:Nat}(hi:i<N)(ht:qx aG bh i j)(h:∀k,i<k->k<N->qx aG bh k j->S k=false):iE aG bh (jH S i) N j=(aG (i+1)).h.get j:=by
 rw[JX (i:=i+1) (by omega) fun k h1 h2 h3=>by simp only[jH];rw[ar (by omega)];exact h k (by omega) h2 h3]
 simp only[iE,jH]
 rw[aF ⟨by simp,ht⟩]
def BR(bp:Nat->Fr)(ds:Nat->Option Nat)(vI:Nat->V)(N:Nat):Prop:=∀i,i<N->∀t,(bp (i+1)).r.get t=if ds i=some t then some (vI i) else (bp i).r.get t
theorem OI{vI:Nat->V}(T:BR bp ds vI N):∀{i t:Nat},i<=N->(∀k,k<i->ds k=some t->S k=true)->qu bp ds S i t=(bp i).r.get t
 |0,t,_,_=>rfl
 |i+1,t,hi,h=>by
  simp only[qu]
  by_cases ht:ds i=some t
  ·rw[aF ⟨h i (by omega) ht,ht⟩]
  ·rw[ar (fun hc=>ht hc.2),OI T (by omega) fun k hk=>h k (by omega),T i (by omega) t,ar ht]
theorem JY:∀{M i t:Nat},i<=M->(∀k,i<=k->k<M->ds k=some t->S k=false)->qu bp ds S M t=qu bp ds S i t
 |0,i,t,hi,_=>by rw[Nat.le_zero.1 hi]
 |M+1,i,t,hi,h=>by
  by_cases e:i=M+1
  ·rw[e]
  ·simp only[qu]
   rw[ar,JY (by omega) fun k h1 h2=>h k h1 (by omega)]
   rintro⟨h1,h2⟩
   rw[h M (by omega) (by omega) h2]at h1;cases h1
theorem T6{i:Nat}:∀{M t:Nat},ds i≠some t->qu bp ds (jH S i) M t=qu bp ds S M t
 |0,t,_=>rfl
 |M+1,t,h=>by
  simp only[qu]
  rw[T6 h]
  by_cases e:M=i
  ·subst e
   rw[ar (fun hc=>h hc.2),ar (fun hc=>h hc.2)]
  ·simp only[jH,e,if_false]
theorem Yd4{vI:Nat->V}(T:BR bp ds vI N){i t:Nat}(hi:i<N)(ht:ds i=some t)(h:∀k,i<k->k<N->ds k=some t->S k=false):qu bp ds (jH S i) N t=some (vI i):=by
 rw[JY (i:=i+1) (by omega) fun k h1 h2 h3=>by simp only[jH];rw[ar (by omega)];exact h k (by omega) h2 h3]
 simp only[qu,jH]
 rw[aF ⟨by simp,ht⟩,T i hi t,aF ht]
def ve(r:T V):List Nat->T V
 |[]=>.nil
 |t::ts=>match r.get t with
  |some v=>(ve r ts).set t v
  |none=>ve r ts
theorem F3(r:T V):∀(ts:List Nat) (t:Nat),(ve r ts).get t=if t∈ts then r.get t else none
 |[],t=>by simp[ve,T.get]
 |u::ts,t=>by
  simp only[ve]
  split
  ·rename_i v hv
   rw[T.ah,F3 r ts t]
   by_cases e:t=u
   ·subst e;simp[hv]
   ·simp[e]
  ·rename_i hv
   rw[F3 r ts t]
   by_cases e:t=u
   ·subst e;simp[hv]
   ·simp[e]
theorem Ymo{r:T V}{ts:List Nat}{s:Src}(h:∀t∈s.tmps,t∈ts):s.ev (ve r ts)=s.ev r:=by
 cases s with
 |const v=>rfl
 |tmp t=>simp only[Src.ev];rw[F3,aF (h t (by simp[Src.tmps]))]
def nA(h:T O)(ad:List Nat):Nat->T O
 |0=>.nil
 |n+1=>match h.get n with
  |some o=>(nA h ad n).set n (if n∈ad then o else .dead)
  |none=>nA h ad n
theorem Ee(h:T O)(ad:List Nat):∀(n j:Nat),(nA h ad n).get j=if j<n then (h.get j).map fun o=>if j∈ad then o else .dead else none
 |0,j=>by simp[nA,T.get]
 |n+1,j=>by
  simp only[nA]
  split
  ·rename_i o ho
   rw[T.ah,Ee h ad n j]
   by_cases e:j=n
   ·subst e;simp[ho]
   ·rw[ar e]
    by_cases e2:j<n
    ·rw[aF e2,aF (by omega)]
    ·rw[ar e2,ar (by omega)]
  ·rename_i ho
   rw[Ee h ad n j]
   by_cases e:j=n
   ·subst e;simp[ho]
   ·by_cases e2:j<n
    ·rw[aF e2,aF (by omega)]
    ·rw[ar e2,ar (by omega)]
def FP.cU(f:FP)(j:Nat):Prop:=
 match f.rd with
 |none=>True
 |some l=>j∈l
theorem Ya0{st σ:St}{i:Nat}(h:σ.h.get i=st.h.get i):σ.row i=st.row i:=by unfold St.row;rw[h]
theorem Ygy{call:cA}{r:T V}{op:gp}{st s':St}{v:V}{ws:List Nat}{lo hi:Nat}(hm:bZ op call r {st with w:=[]}=some (v,s'))(fl:lo=st.n):
  ∃σ σ',σ.n=st.n/\σ.w=[]/\bZ op call r σ=some (v,σ')/\σ'.n=s'.n/\σ'.w=s'.w/\
   (∀j,j<st.n->(lE r op ws lo hi).cU j->σ.h.get j=st.h.get j)/\(∀j,j<st.n->¬(lE r op ws lo hi).cU j->σ.h.get j=(st.h.get j).map fun _=>.dead)/\
   (∀j,((lE r op ws lo hi).cU j/\j<st.n)\/(st.n<=j/\j<s'.n)->σ'.h.get j=s'.h.get j)/\(∀j∈s'.w,(lE r op ws lo hi).cU j):=by
 by_cases hs:op.km=true
 ·have hf:lE r op ws lo hi=⟨some [],[],lo,hi⟩:=by unfold lE;rw[aF hs]
  rw[hf]
  have hd:∀j,j<st.n->(nA st.h [] st.n).get j=(st.h.get j).map fun _=>.dead:=fun j hj=>by
   rw[Ee,aF hj];simp
  rcases UP hs (nA st.h [] st.n) [] hm with⟨h1,h2⟩|⟨o,h1,h2⟩
  ·subst h1
   exact⟨⟨nA st.h [] st.n,st.n,[]⟩,_,rfl,rfl,h2,rfl,rfl,fun j _ hj=>by simp[FP.cU]at hj,fun j hj _=>hd j hj,fun j hj=>by
    rcases hj with⟨hj,_⟩|⟨h1,h2⟩
    ·simp[FP.cU]at hj
    ·simp only at h2;omega,fun j hj=>by simp at hj⟩
  ·subst h1
   refine⟨⟨nA st.h [] st.n,st.n,[]⟩,_,rfl,rfl,h2,rfl,rfl,fun j _ hj=>by simp[FP.cU]at hj,fun j hj _=>hd j hj,fun j hj=>?_,fun j hj=>by simp[St.alloc]at hj⟩
   rcases hj with⟨hj,_⟩|⟨h1,h2⟩
   ·simp[FP.cU]at hj
   ·simp only[St.alloc]at h2 ⊢
    have:j=st.n:=by omega
    subst this
    rw[T.ah,T.ah,aF rfl,aF rfl]
 ·cases hl:JN r op with
  |none=>
   have hf:lE r op ws lo hi=⟨none,ws,lo,hi⟩:=by unfold lE;rw[ar hs,hl]
   rw[hf]
   exact⟨{st with w:=[]},s',rfl,rfl,hm,rfl,rfl,fun _ _ _=>rfl,fun _ _ hj=>absurd trivial hj,fun _ _=>rfl,fun _ _=>trivial⟩
  |some i=>
   by_cases gZ:i<st.n
   case neg=>
    have hf:lE r op ws lo hi=⟨none,ws,lo,hi⟩:=by unfold lE;rw[ar hs,hl];simp only[];rw[ar (by rw[fl];simpa[Nat.blt_eq]using gZ)]
    rw[hf]
    exact⟨{st with w:=[]},s',rfl,rfl,hm,rfl,rfl,fun _ _ _=>rfl,fun _ _ hj=>absurd trivial hj,fun _ _=>rfl,fun _ _=>trivial⟩
   have hf:lE r op ws lo hi=⟨some [i],ws,lo,hi⟩:=by unfold lE;rw[ar hs,hl];simp only[];rw[aF (by rw[fl];simpa[Nat.blt_eq]using gZ)]
   rw[hf]
   have hk:(nA st.h [i] st.n).get i=st.h.get i:=by
    rw[Ee,aF gZ]
    cases st.h.get i<;>simp
   have hd:∀j,j<st.n->¬(j∈[i])->(nA st.h [i] st.n).get j=(st.h.get j).map fun _=>.dead:=fun j hj hn=>by
    rw[Ee,aF hj];simp only[hn,if_false]
   have aj:(⟨nA st.h [i] st.n,st.n,[]⟩:St).row i=St.row {st with w:=[]} i:=Ya0 hk
   cases op<;>simp only[JN,reduceCtorEq]at hl
   case load k x=>
    split at hl
    ·rename_i i' o hx
     simp only[ai]at hl;subst hl
     simp only[bZ,By,hx]at hm ⊢
     split at hm
     ·rename_i c e oD hr
      split at hm
      ·rename_i u hu
       simp only[ai,bo]at hm
       obtain⟨rfl,rfl⟩:=hm
       refine⟨⟨nA st.h [i'] st.n,st.n,[]⟩,⟨nA st.h [i'] st.n,st.n,[]⟩,rfl,rfl,?_,rfl,rfl,fun j _ hj=>?_,fun j hj hn=>hd j hj hn,fun j hj=>?_,fun j hj=>by simp at hj⟩
       ·rw[aj,hr];simp only[hu]
       ·simp only[FP.cU,uf]at hj;subst hj;exact hk
       ·rcases hj with⟨hj,_⟩|⟨h1,h2⟩
        ·simp only[FP.cU,uf]at hj;subst hj;exact hk
        ·simp only at h2;omega
      ·cases hm
     ·cases hm
    ·cases hl
   case store k x y=>
    split at hl
    ·rename_i i' o hx
     simp only[ai]at hl;subst hl
     simp only[bZ,zN,hx]at hm ⊢
     split at hm
     ·rename_i i2 o2 u El hu
      simp only[ai,V.ptr.injEq]at El
      obtain⟨rfl,rfl⟩:=El
      split at hm
      ·rename_i c e hr
       split at hm
       ·rename_i hc
        simp only[ai,bo]at hm
        obtain⟨rfl,rfl⟩:=hm
        refine⟨⟨nA st.h [i'] st.n,st.n,[]⟩,St.write ⟨nA st.h [i'] st.n,st.n,[]⟩ i' (.cells (ag c o u.cells) e true),rfl,rfl,?_,rfl,rfl,fun j _ hj=>?_,fun j hj hn=>hd j hj hn,fun j hj=>?_,fun j hj=>?_⟩
        ·rw[aj,hr]
         simp only[aF hc]
        ·simp only[FP.cU,uf]at hj;subst hj;exact hk
        ·rcases hj with⟨hj,_⟩|⟨h1,h2⟩
         ·simp only[FP.cU,uf]at hj;subst hj
          simp only[St.write,T.ah,if_true]
         ·simp only[St.write]at h2;omega
        ·simpa[FP.cU,St.write]using hj
       ·cases hm
      ·cases hm
     ·cases hm
    ·cases hl
end
end Go.Mx
