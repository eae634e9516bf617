/-What an operation of M looks at-/
import Derived.Test.YtlbnjhhebffhdaaGreatDoorMxFun
set_option linter.all false
namespace Go.Mx
open Go
section
variable {r r' : T V} {st : St} {call : cP}
def Ju : ∀ {l : List Src}, (∀ s ∈ l, s.ev r = s.ev r') -> tB r l = tB r' l
  | [], _ => rfl
  | s :: l, h => by
    simp only [tB]
    rw [h s (by simp), Ju fun s hs => h s (by simp [hs])]
def Ed {o : Option Src} (h : ∀ s ∈ AX o, s.ev r = s.ev r') : aH r o = aH r' o := by
  cases o with
  | none => rfl
  | some s => simp only [aH]; rw [h s (by simp [AX])]
def Zgw : ∀ {l : List (Nat × Nat × Src)}, (∀ s ∈ l.map (·.2.2), s.ev r = s.ev r') -> AT r l = AT r' l
  | [], _ => rfl
  | (o, k, s) :: l, h => by
    simp only [AT]
    rw [h s (by simp), Zgw fun s hs => h s (by simp only [Yw1, kV]; exact .inr hs)]
def Yd1 {op : fZ} (h : ∀ s ∈ op.B5, s.ev r = s.ev r') : cJ op call r st = cJ op call r' st := by
  cases op <;> simp only [fZ.B5, kV, List.not_mem_nil, or_false, forall_eq_or_imp, forall_eq, tg] at h <;> simp only [cJ]
  case build z ps => simp only [B1, Zgw h]
  case kb e s l z ps => simp only [IL, Zgw h]
  case np f a c => simp only [IU, Ju fun s hs => h s (.inl hs), Ju fun s hs => h s (.inr hs)]
  case cI x lo hi => simp only [xW, h.1, Ed fun s hs => h.2 s (.inl hs), Ed fun s hs => h.2 s (.inr hs)]
  case lY z x lo hi m => simp only [qH, h.1, Ed fun s hs => h.2 s (.inl (.inl hs)), Ed fun s hs => h.2 s (.inl (.inr hs)), Ed fun s hs => h.2 s (.inr hs)]
  case zgp k z x lo hi m => simp only [zk, h.1, Ed fun s hs => h.2 s (.inl (.inl hs)), Ed fun s hs => h.2 s (.inl (.inr hs)), Ed fun s hs => h.2 s (.inr hs)]
  case mn l => simp only [wU, Ju h]
  case mx l => simp only [o9, Ju h]
  case call f l => simp only [xX, h.1, Ju fun s hs => h.2 s hs]
  case ext e l => simp only [I3, Ju h]
  all_goals
    first
      | rfl
      | (simp only [IJ, IK, IM, IN, IQ, IS, Ze9, DL, IT, LI, DM, IV, IW, IY, IZ, I1, xd, LL, LM, DR, LN, Oc, I5, h]; done)
      | (simp only [DJ, DK, IP, B2, B3, DN, LK, DO, IX, DP, Zr9, Znv, B4, DQ, LP, Ob, h.1, h.2]; done)
      | (simp only [DJ, DP, Znv, h.1, h.2.1, h.2.2]; done)
def Znf {op : fZ} (hs : op.nt = true) (h' : T O) (l' : List Nat) {v : V} {st' : St} (h : cJ op call r st = some (v, st')) :
    (st' = st /\ cJ op call r ⟨h', st.n, l'⟩ = some (v, ⟨h', st.n, l'⟩)) \/ ∃ o, st' = st.alloc o /\ cJ op call r ⟨h', st.n, l'⟩ = some (v, St.alloc ⟨h', st.n, l'⟩ o) := by
  cases op <;> simp only [fZ.nt, gj] at hs <;> simp only [cJ] at h ⊢
  case jj e z b zs x y =>
    unfold B2 at *
    split at h
    · rename_i ha hb
      split at h
      · rename_i hc
        simp only [au, bE] at h
        obtain ⟨rfl, rfl⟩ := h
        refine .inr ⟨_, rfl, ?_⟩
        rw [aR hc]
      · cases h
    · cases h
  case bin b t ng x y =>
    refine .inl ?_
    unfold IP at *
    split at h
    · cases b <;> first | (cases hs; done) | (simp only [Th, reduceCtorEq] at h)
    · split at h
      · rename_i hm
        simp only [au, bE] at h
        obtain ⟨rfl, rfl⟩ := h
        exact ⟨rfl, by simp_all⟩
      · cases h
    · cases h
  all_goals
    first
      | unfold IJ at * | unfold DJ at * | unfold LG at * | unfold IK at * | unfold B1 at * | unfold IL at * | unfold IN at * | unfold IQ at * | unfold IS at * | unfold Ze9 at * | unfold DL at * | unfold LI at * | unfold IU at * | unfold LJ at * | unfold DM at * | unfold B2 at * | unfold xW at * | unfold IV at * | unfold IW at * | unfold B3 at * | unfold DN at * | unfold LK at * | unfold DO at * | unfold IY at * | unfold I1 at * | unfold Oa at * | unfold LL at * | unfold wU at * | unfold o9 at * | unfold I3 at * | unfold Ob at * | unfold Oc at * | unfold I5 at *
  all_goals
    repeat' split at h
    all_goals
      first
        | (cases h; done)
        | (simp only [au, bE] at h
           obtain ⟨rfl, rfl⟩ := h
           first
             | (refine .inl ⟨rfl, ?_⟩; simp_all; done)
             | (refine .inr ⟨_, rfl, ?_⟩; simp_all; done))
def Zr6 {α : Type} {p : α -> α -> Bool} {f : α} {m : Nat} : ∀ {seen : List α} {j : Nat}, seen.length = j -> b_.chk p f m (j - 1) seen = true -> ∀ i, i < j -> ∀ g, seen[j - 1 - i]? = some g -> m.testBit i = true \/ p g f = true
  | [], j, hl, _, i, hi, g, hg => by simp at hg
  | g0 :: seen, j, hl, h, i, hi, g, hg => by
    simp only [b_.chk, jc, IF] at h
    simp only [bC] at hl
    by_cases e : i = j - 1
    · subst e
      simp only [Nat.sub_self, AN, au] at hg
      subst hg
      exact h.1
    · have h2 := Zr6 (j := j - 1) (by omega) h.2 i (by omega) g
      refine h2 ?_
      rw [show j - 1 - i = (j - 1 - 1 - i) + 1 by omega] at hg
      simpa using hg
def Zw6 {α : Type} {p : α -> α -> Bool} : ∀ {fs : List α} {ms : List Nat} {j : Nat} {seen : List α}, seen.length = j -> b_.go p fs ms j seen = true ->
    ∀ (b i : Nat) (f g : α), fs[b]? = some f -> i < j + b -> (seen.reverse ++ fs)[i]? = some g -> (ms.getD b 0).testBit i = true \/ p g f = true
  | [], ms, j, seen, hl, _, b, i, f, g, hf, _, _ => by simp at hf
  | f0 :: fs, ms, j, seen, hl, h, b, i, f, g, hf, hi, hg => by
    simp only [b_.go, jc] at h
    cases b with
    | zero =>
      simp only [AN, au] at hf
      subst hf
      have hm : ms.getD 0 0 = ms.headD 0 := by cases ms <;> rfl
      rw [hm]
      refine Zr6 hl h.1 i (by omega) g ?_
      rw [xJ (by simp; omega), List.getElem?_reverse (by omega)] at hg
      rw [<- hl]; exact hg
    | succ b =>
      have hm : ms.getD (b + 1) 0 = ms.tail.getD b 0 := by cases ms <;> simp
      rw [hm]
      refine Zw6 (j := j + 1) (seen := f0 :: seen) (by simp [hl]) h.2 b i f g (by simpa using hf) (by omega) ?_
      simpa using hg
def Zw5 {α : Type} {p : α -> α -> Bool} {xs : List α} {ms : List Nat} (h : b_ p xs ms = true) {i j : Nat} {a b : α} (hij : i < j) (ha : xs[i]? = some a) (hb : xs[j]? = some b) : (ms.getD j 0).testBit i = true \/ p a b = true :=
  Zw6 (seen := []) rfl h j i b a hb (by omega) (by simpa using ha)
def Zjk : ∀ (os : List Oper) (acc : List Nat) (k : Nat), k < acc.length -> (uo os acc).getD k 0 = acc.getD k 0
  | [], acc, k, _ => rfl
  | o :: os, acc, k, h => by
    simp only [uo]
    rw [Zjk os _ k (by simp; omega)]
    simp only [List.getD_eq_getElem?_getD]
    rw [xJ h]
def Zn4 : ∀ (os : List Oper) (acc : List Nat) (j : Nat) (o : Oper), os[j]? = some o ->
    ∃ pre : List Nat, pre.length = acc.length + j /\ (uo os acc).getD (acc.length + j) 0 = NP o pre /\ ∀ k, k < acc.length + j -> (uo os acc).getD k 0 = pre.getD k 0
  | [], acc, j, o, h => by simp at h
  | o0 :: os, acc, 0, o, h => by
    simp only [AN, au] at h
    subst h
    refine ⟨acc, rfl, ?_, fun k hk => ?_⟩
    · simp only [uo]
      rw [Zjk os _ _ (by simp)]
      simp [List.getD_eq_getElem?_getD]
    · exact Zjk (o0 :: os) acc k hk
  | o0 :: os, acc, j + 1, o, h => by
    obtain ⟨pre, h1, h2, h3⟩ := Zn4 os (acc ++ [NP o0 acc]) j o (by simpa using h)
    simp only [iJ, bC, List.length_nil] at h1 h2 h3
    refine ⟨pre, by omega, ?_, ?_⟩
    · rw [show acc.length + (j + 1) = acc.length + (0 + 1) + j by omega]; exact h2
    · intro k hk; exact h3 k (by omega)
def Zz0 {o : Oper} {ms : List Nat} {i : Nat} (h : (NP o ms).testBit i = true) : ∃ e ∈ o.after, Region.binds .any e = true /\ (i = e.on \/ (ms.getD e.on 0).testBit i = true) := by
  have key : ∀ (l : List Edge) (s : Nat), (l.foldl (fun s e => if Region.binds .any e then s ||| 2 ^ e.on ||| ms.getD e.on 0 else s) s).testBit i = true ->
      s.testBit i = true \/ ∃ e ∈ l, Region.binds .any e = true /\ (i = e.on \/ (ms.getD e.on 0).testBit i = true) := by
    intro l
    induction l with
    | nil => intro s h; exact .inl h
    | cons e l ih =>
      intro s h
      simp only [List.foldl_cons] at h
      rcases ih _ h with h | ⟨e', h1, h2⟩
      · split at h
        · rename_i hb
          simp only [Nat.testBit_or, IF] at h
          rcases h with (h | h) | h
          · exact .inl h
          · rw [Nat.testBit_two_pow] at h
            exact .inr ⟨e, by simp, hb, .inl (by simpa using (of_decide_eq_true h).symm)⟩
          · exact .inr ⟨e, by simp, hb, .inr h⟩
        · exact .inl h
      · exact .inr ⟨e', by simp [h1], h2⟩
  unfold NP at h
  rw [<- Array.foldl_toList] at h
  rcases key _ _ h with h | ⟨e, h1, h2⟩
  · simp at h
  · exact ⟨e, by simpa using h1, h2⟩
def Yiq {ops : Array Oper} {j i : Nat} {o : Oper} (ho : ops[j]? = some o) (h : ((uo ops.toList []).getD j 0).testBit i = true) :
    ∃ e ∈ o.after, Region.binds .any e = true /\ (i = e.on \/ ((uo ops.toList []).getD e.on 0).testBit i = true) := by
  obtain ⟨pre, h1, h2, h3⟩ := Zn4 ops.toList [] j o (by rw [ze]; exact ho)
  simp only [List.length_nil, oJ] at h1 h2 h3
  rw [h2] at h
  obtain ⟨e, g1, g2, g3⟩ := Zz0 h
  refine ⟨e, g1, g2, g3.imp id fun hb => ?_⟩
  by_cases he : e.on < j
  · rw [h3 _ he]; exact hb
  · have : pre.getD e.on 0 = 0 := by simp [List.getD_eq_getElem?_getD, h1, vD he]
    rw [this] at hb; simp at hb
def Ylq (ops : Array Oper) (S : Nat -> Prop) : Prop := ∀ k i, S k -> ((uo ops.toList []).getD k 0).testBit i = true -> S i
def Zph {ops : Array Oper} {listed : Array Bool} (hc : Ylq ops (fun k => listed.getD k false = true)) {j : Nat} (hj : j ∈ Region.ready .any ops listed) :
    j < ops.size /\ listed.getD j true = false /\ ∀ i, ((uo ops.toList []).getD j 0).testBit i = true -> listed.getD i false = true := by
  unfold Region.ready at hj
  simp only [List.mem_filter, Dh, jc, IE] at hj
  obtain ⟨h1, h2, h3⟩ := hj
  refine ⟨h1, h2, fun i hi => ?_⟩
  have ho : ops[j]? = some ops[j] := Array.getElem?_eq_getElem h1
  obtain ⟨e, g1, g2, g3⟩ := Yiq ho hi
  rw [ho] at h3
  simp only [BX, C8, Yzl, IF, IE] at h3
  have he : listed.getD e.on false = true := by
    rcases h3 e g1 with h | h
    · rw [g2] at h; cases h
    · exact h
  rcases g3 with rfl | g3
  · exact he
  · exact hc _ _ he g3
mutual
def Sc (n : Nat) : V -> Prop
  | .ptr i _ => i < n
  | .slice i _ _ _ _ => i < n
  | .map i => i < n
  | .chan i => i < n
  | .func _ a c => Ee n a /\ Ee n c
  | .yield i => i < n
  | .iface _ v => Sc n v
  | .agg l => Ee n l
  | .aX l => Ee n l
  | _ => True
def Ee (n : Nat) : List V -> Prop
  | [] => True
  | v :: vs => Sc n v /\ Ee n vs
end
mutual
def VR.sc {μ : Mu} {n : Nat} (h : ∀ i l, μ i = some l -> i < n) : ∀ (v : V) (x : Value), VR μ v x -> Sc n v
  | .bool _, _, _ => by simp [Sc]
  | .int _ _, _, _ => by simp [Sc]
  | .jM _ _, _, _ => by simp [Sc]
  | .rp _ _ _, _, _ => by simp [Sc]
  | .str _, _, _ => by simp [Sc]
  | .bO, _, _ => by simp [Sc]
  | .ptr _ _, _, hx => by simp only [VR] at hx; obtain ⟨l, h1, _⟩ := hx; exact h _ _ h1
  | .ziA, _, _ => by simp [Sc]
  | .slice _ _ _ _ _, _, hx => by simp only [VR] at hx; obtain ⟨l, c, h1, _⟩ := hx; exact h _ _ h1
  | .empty, _, _ => by simp [Sc]
  | .bU, _, _ => by simp [Sc]
  | .map _, _, hx => by simp only [VR] at hx; obtain ⟨l, h1, _⟩ := hx; exact h _ _ h1
  | .bV, _, _ => by simp [Sc]
  | .chan _, _, hx => by simp only [VR] at hx; obtain ⟨l, h1, _⟩ := hx; exact h _ _ h1
  | .func _ a c, _, hx => by
    simp only [VR] at hx; obtain ⟨a', c', _, h2, h3⟩ := hx
    exact ⟨bf.sc h a a' h2, bf.sc h c c' h3⟩
  | .yield _, _, hx => by simp only [VR] at hx; obtain ⟨l, h1, _⟩ := hx; exact h _ _ h1
  | .bW, _, _ => by simp [Sc]
  | .iface _ v, _, hx => by simp only [VR] at hx; obtain ⟨y, _, h2⟩ := hx; exact VR.sc h v y h2
  | .bh, _, _ => by simp [Sc]
  | .agg vs, _, hx => by simp only [VR] at hx; obtain ⟨a, _, h2⟩ := hx; exact bf.sc h vs a h2
  | .aX vs, _, hx => by simp only [VR] at hx; obtain ⟨a, _, h2⟩ := hx; exact bf.sc h vs a h2
def bf.sc {μ : Mu} {n : Nat} (h : ∀ i l, μ i = some l -> i < n) : ∀ (vs : List V) (xs : List Value), bf μ vs xs -> Ee n vs
  | [], _, _ => trivial
  | v :: vs, _, hx => by
    simp only [bf] at hx
    obtain ⟨y, ys, _, h2, h3⟩ := hx
    exact ⟨VR.sc h v y h2, bf.sc h vs ys h3⟩
end
mutual
def VR.cut {μ μ' : Mu} {n : Nat} (h : ∀ i l, i < n -> μ i = some l -> μ' i = some l) : ∀ (v : V) (x : Value), Sc n v -> VR μ v x -> VR μ' v x
  | .bool _, _, _, hx => by simpa [VR] using hx
  | .int _ _, _, _, hx => by simpa [VR] using hx
  | .jM _ _, _, _, hx => by simpa [VR] using hx
  | .rp _ _ _, _, _, hx => by simpa [VR] using hx
  | .str _, _, _, hx => by simpa [VR] using hx
  | .bO, _, _, hx => by simpa [VR] using hx
  | .ptr _ _, _, hs, hx => by simp only [VR, Sc] at *; obtain ⟨l, h1, h2⟩ := hx; exact ⟨l, h _ _ hs h1, h2⟩
  | .ziA, _, _, hx => by simpa [VR] using hx
  | .slice _ _ _ _ _, _, hs, hx => by simp only [VR, Sc] at *; obtain ⟨l, c, h1, h2⟩ := hx; exact ⟨l, c, h _ _ hs h1, h2⟩
  | .empty, _, _, hx => by simpa [VR] using hx
  | .bU, _, _, hx => by simpa [VR] using hx
  | .map _, _, hs, hx => by simp only [VR, Sc] at *; obtain ⟨l, h1, h2⟩ := hx; exact ⟨l, h _ _ hs h1, h2⟩
  | .bV, _, _, hx => by simpa [VR] using hx
  | .chan _, _, hs, hx => by simp only [VR, Sc] at *; obtain ⟨l, h1, h2⟩ := hx; exact ⟨l, h _ _ hs h1, h2⟩
  | .func _ a c, _, hs, hx => by
    simp only [VR, Sc] at *; obtain ⟨a', c', h1, h2, h3⟩ := hx
    exact ⟨a', c', h1, bf.cut h a a' hs.1 h2, bf.cut h c c' hs.2 h3⟩
  | .yield _, _, hs, hx => by simp only [VR, Sc] at *; obtain ⟨l, h1, h2⟩ := hx; exact ⟨l, h _ _ hs h1, h2⟩
  | .bW, _, _, hx => by simpa [VR] using hx
  | .iface _ v, _, hs, hx => by simp only [VR, Sc] at *; obtain ⟨y, h1, h2⟩ := hx; exact ⟨y, h1, VR.cut h v y hs h2⟩
  | .bh, _, _, hx => by simpa [VR] using hx
  | .agg vs, _, hs, hx => by simp only [VR, Sc] at *; obtain ⟨a, h1, h2⟩ := hx; exact ⟨a, h1, bf.cut h vs a hs h2⟩
  | .aX vs, _, hs, hx => by simp only [VR, Sc] at *; obtain ⟨a, h1, h2⟩ := hx; exact ⟨a, h1, bf.cut h vs a hs h2⟩
def bf.cut {μ μ' : Mu} {n : Nat} (h : ∀ i l, i < n -> μ i = some l -> μ' i = some l) : ∀ (vs : List V) (xs : List Value), Ee n vs -> bf μ vs xs -> bf μ' vs xs
  | [], _, _, hx => by simpa [bf] using hx
  | v :: vs, _, hs, hx => by
    simp only [bf, Ee] at *
    obtain ⟨y, ys, h1, h2, h3⟩ := hx
    exact ⟨y, ys, h1, VR.cut h v y hs.1 h2, bf.cut h vs ys hs.2 h3⟩
end
def OM.cut {P : Program} {μ μ' μT : Mu} {w wT : World} {n : Nat} (h : ∀ i l, i < n -> μ i = some l -> μ' i = some l) (hT : ∀ i l, μT i = some l -> i < n) {o : O} {l lT : L} (ht : OM P μT wT o lT) (ho : OM P μ w o l) : OM P μ' w o l := by
  cases o with
  | cells c e rw =>
    obtain ⟨c', lo, hi, h1, h2, h3, h4, h5⟩ := ho
    obtain ⟨cT, _, _, _, _, _, t4, _⟩ := ht
    exact ⟨c', lo, hi, h1, h2, h3, fun j v hv => by
      obtain ⟨x, a, b⟩ := h4 j v hv
      obtain ⟨xT, _, bT⟩ := t4 j v hv
      exact ⟨x, a, VR.cut h v x (VR.sc hT v xT bT) b⟩, h5⟩
  | map es =>
    obtain ⟨es', h1, h2⟩ := ho
    obtain ⟨esT, _, t2⟩ := ht
    refine ⟨es', h1, ?_⟩
    have : ∀ (es : List (V × V)) (xs xT : List MapEntry) (b bT : Nat), iC μ es xs b -> iC μT es xT bT -> iC μ' es xs b := by
      intro es
      induction es with
      | nil => intro xs xT b bT h1 _; exact h1
      | cons p es ih =>
        intro xs xT b bT h1 h2
        obtain ⟨k, u⟩ := p
        obtain ⟨e, ys, rfl, a1, a2, a3, a4⟩ := h1
        obtain ⟨eT, yT, rfl, b1, b2, _, b4⟩ := h2
        exact ⟨e, ys, rfl, VR.cut h k _ (VR.sc hT k _ b1) a1, VR.cut h u _ (VR.sc hT u _ b2) a2, a3, ih ys yT _ _ a4 b4⟩
    exact this _ _ _ _ _ h2 t2
  | chan cap buf =>
    obtain ⟨b', s, r, h1, h2⟩ := ho
    obtain ⟨bT, _, _, _, t2⟩ := ht
    exact ⟨b', s, r, h1, bf.cut h _ _ (bf.sc hT _ _ t2) h2⟩
  | eK s pos => simp only [OM] at *; exact ho
  | loop R =>
    obtain ⟨fn, tmps, fL, bod, ld, h1, h2, h3, h4, h5⟩ := ho
    obtain ⟨_, tT, _, _, ldT, _, t2, _, _, t5⟩ := ht
    refine ⟨fn, tmps, fL, bod, ld, h1, ⟨h2.1, fun t v hv => ?_⟩, h3, h4, h _ _ (hT _ _ t5) h5⟩
    obtain ⟨x, a, b⟩ := h2.2 t v hv
    obtain ⟨xT, _, bT⟩ := t2.2 t v hv
    exact ⟨x, a, VR.cut h v x (VR.sc hT v xT bT) b⟩
  | defs b => simp only [OM] at *; exact ho
  | dead => trivial
end
section
variable {P:Program} {μ:Mu} {w:World} {st st':St} {fr bL:Fr} {a:Act} {call:cP} {v:V} {lb:Option Nat}
def Ysd(bY:i_ P call)(hE:tE P)(hh:Za9 P μ w st)(hf:FrR μ fr a){o:Oper}(h:cJ (za P o.op) call fr.r st=some (v,st')):∃x w' μ' ws,VR μ' v x/\bK P μ w st μ' w' st' ws:=by
 have hwp:=Ymw (lb:=none) (Q:=fun _ _ _=>False) (K:=fun _ _=>∃x w' μ' ws,VR μ' v x/\bK P μ w st μ' w' st' ws) bY hE hh hf h (fun x w' μ' ws h1 h2=>⟨x,w',μ',ws,h1,h2⟩)
 obtain⟨_,hu⟩:=hwp
 generalize (o.semAt (FE none).round a.eval).run P w=res at hu
 cases res with
 |halt x w'=>cases x<;>simp only[Oper.uponIn]at hu
 |ok x w'=>
  cases x<;>simp only[Oper.uponIn]at hu
  case value=>exact hu
  case skip=>exact hu
  case defer=>exact hu
  case enter f args=>
   obtain⟨e,w',fr,hR,_⟩:=hu.2.2 [] (fun d hd=>by simp[Fence.wide]at hd)
   cases e with
   |returned v=>exact hR
   |panicked c=>exact hR.elim
   |outgrown=>obtain⟨_,_,hq⟩:=hR;exact hq.elim
  case row r args=>
   obtain⟨v',w',hR,_⟩:=hu.2 default [] (fun d hd=>by simp[Fence.wide]at hd)
   exact hR
  case round l f tmps fL bod=>
   obtain⟨e,w',hR,_⟩:=hu.2.2 default [] (fun d hd=>by simp[Fence.wide]at hd)
   cases e with
   |returned v=>exact hR
   |panicked c=>exact hR.elim
   |outgrown=>obtain⟨_,_,hq⟩:=hR;exact hq.elim
def zz(P:Program)(call:cP)(ops:Array Oper)(o:Oper)(st:St)(fr:Fr)(v:V)(f:FP)(cj:St)(dP:Fr):Prop:=
 ∃g b,Iv ops o.guard=some g/\bX fr.r g=some b/\fr.put o.dst v=some dP/\
  (b=true->∃s',cJ (za P o.op) call fr.r {st with w:=[]}=some (v,s')/\cj={s' with w:=aL st.n s'.w++st.w}/\f=Zcy fr.r (za P o.op) (aL st.n s'.w) st.n s'.n)/\
  (b=false->v=.aX []/\cj=st/\f=⟨some [],[],st.n,st.n⟩)
def Zsf{ops:Array Oper}:∀(os:List Oper) (fr:Fr) (st:St) (gI:List FP) (bL:Fr) (st':St),bR call (os.map (qk P ops)) fr st=some (gI,bL,st')->
  ∃(stI:Nat->St) (bI:Nat->Fr) (vI:Nat->V) (bu:Nat->FP),stI 0=st/\bI 0=fr/\stI os.length=st'/\bI os.length=bL/\gI.length=os.length/\
   ∀i o,os[i]?=some o->gI[i]?=some (bu i)/\zz P call ops o (stI i) (bI i) (vI i) (bu i) (stI (i+1)) (bI (i+1))
 |[],fr,st,gI,bL,st',h=>by
  simp only[tV,bR,Yc7,au,bE]at h
  obtain⟨rfl,rfl,rfl⟩:=h
  exact⟨fun _=>st,fun _=>fr,fun _=>.bO,fun _=>⟨none,[],0,0⟩,rfl,rfl,rfl,rfl,rfl,fun i o h=>by simp at h⟩
 |o::os,fr,st,gI,bL,st',h=>by
  simp only[Yw1,bR,AW]at h
  have go:∀(v:V) (f:FP) (cj:St) (dP:Fr) (sF:List FP),zz P call ops o st fr v f cj dP->bR call (os.map (qk P ops)) dP cj=some (sF,bL,st')->gI=f::sF->
    ∃(stI:Nat->St) (bI:Nat->Fr) (vI:Nat->V) (bu:Nat->FP),stI 0=st/\bI 0=fr/\stI (o::os).length=st'/\bI (o::os).length=bL/\gI.length=(o::os).length/\
     ∀i o',(o::os)[i]?=some o'->gI[i]?=some (bu i)/\zz P call ops o' (stI i) (bI i) (vI i) (bu i) (stI (i+1)) (bI (i+1)):=by
   intro v f cj dP sF hs hm hf
   obtain⟨stI,bI,vI,bu,h1,h2,h3,h4,h5,h6⟩:=Zsf os dP cj sF bL st' hm
   refine⟨fun|0=>st|i+1=>stI i,fun|0=>fr|i+1=>bI i,fun|0=>v|i+1=>vI i,fun|0=>f|i+1=>bu i,rfl,rfl,h3,h4,by simp[hf,h5],fun i o' ho=>?_⟩
   cases i with
   |zero=>
    simp only[AN,au]at ho
    subst ho
    refine⟨by simp[hf],?_⟩
    show zz P call ops o st fr v f (stI 0) (bI 0)
    rw[h1,h2];exact hs
   |succ i=>
    obtain⟨g1,g2⟩:=h6 i o' (by simpa using ho)
    exact⟨by simpa[hf]using g1,g2⟩
  unfold qk at h
  cases hg:Iv ops o.guard with
  |none=>
   rw[hg]at h
   simp only[bX,cJ,Zur]at h
   cases h
  |some g=>
   rw[hg]at h
   simp only at h
   cases hw:bX fr.r g with
   |none=>rw[hw]at h;cases h
   |some b=>
    rw[hw]at h
    cases b with
    |true=>
     simp only at h
     split at h
     ·rename_i v1 s1 hm
      split at h
      ·rename_i dP hp
       split at h
       ·rename_i sF yc fh gK
        simp only[au,bE]at h
        obtain⟨rfl,rfl,rfl⟩:=h
        exact go v1 _ _ dP sF ⟨g,true,hg,hw,hp,fun _=>⟨s1,hm,rfl,rfl⟩,fun hc=>by cases hc⟩ gK rfl
       ·cases h
      ·cases h
     ·cases h
    |false=>
     simp only at h
     split at h
     ·rename_i dP hp
      split at h
      ·rename_i sF yc fh gK
       simp only[au,bE]at h
       obtain⟨rfl,rfl,rfl⟩:=h
       exact go (.aX []) _ st dP sF ⟨g,false,hg,hw,hp,(fun hc=>by cases hc),fun _=>⟨rfl,rfl,rfl⟩⟩ gK rfl
      ·cases h
     ·cases h
def Zvq{op:fZ}{s':St}(hm:cJ op call fr.r {st with w:=[]}=some (v,s'))(lo hi:Nat):(Zcy fr.r op (aL st.n s'.w) lo hi).wr=aL st.n s'.w/\(Zcy fr.r op (aL st.n s'.w) lo hi).lo=lo/\(Zcy fr.r op (aL st.n s'.w) lo hi).hi=hi:=by
 unfold Zcy
 split
 ·rename_i hs
  rcases Znf hs .nil [] hm with⟨h1,_⟩|⟨o,h1,_⟩
  ·subst h1;exact⟨rfl,rfl,rfl⟩
  ·subst h1;exact⟨rfl,rfl,rfl⟩
 ·split
  ·split<;>exact⟨rfl,rfl,rfl⟩
  ·exact⟨rfl,rfl,rfl⟩
def Yb4(bY:i_ P call)(hE:tE P)(hh:Za9 P μ w st)(hf:FrR μ fr a){ops:Array Oper}{o:Oper}{f:FP}{cj:St}{dP:Fr}(h:zz P call ops o st fr v f cj dP):
  ∃w' μ' a',bK P μ w st μ' w' cj f.wr/\FrR μ' dP a'/\f.lo=st.n/\f.hi=cj.n:=by
 obtain⟨g,b,hg,hw,hp,ht,On⟩:=h
 cases b with
 |true=>
  obtain⟨s',hm,rfl,rfl⟩:=ht rfl
  obtain⟨x,w',μ',ws,h1,h2⟩:=Ysd bY hE (hh.now []) hf hm
  have h3:=h2.fold hh
  obtain⟨e1,e2,e3⟩:=Zvq (call:=call) hm st.n s'.n
  rw[e1,e2,e3]
  exact⟨w',μ',_,h3,(hf.mono (h3.mono hh)).put h1 hp,rfl,rfl⟩
 |false=>
  obtain⟨rfl,rfl,rfl⟩:=On rfl
  exact⟨w,μ,_,bK.refl hh,hf.put (v:=.aX []) (x:=undef) ⟨[],rfl,by simp[bf]⟩ hp,rfl,rfl⟩
structure uB (P:Program) (μ:Mu) (stI:Nat->St) (bI:Nat->Fr) (bu:Nat->FP) (N:Nat):Prop where
 gW:∀i,i<N->(stI i).n<=(stI (i+1)).n
 lo:∀i,i<N->(bu i).lo=(stI i).n
 hi:∀i,i<N->(bu i).hi=(stI (i+1)).n
 wl:∀i,i<N->(stI (i+1)).w=(bu i).wr++(stI i).w
 wlt:∀i,i<N->∀j∈(bu i).wr,j<(stI i).n
 ai:∀i,i<N->∀j,j<(stI i).n->j∉(bu i).wr->(stI (i+1)).h.get j=(stI i).h.get j
 grow:∀i,i<N->∀j o',j<(stI i).n->(stI (i+1)).h.get j=some o'->∃o,(stI i).h.get j=some o/\(o'.wr=true->o.wr=true)/\(o'.live=true->o.live=true)
 xQ:∀i,i<N->∀j∈(bu i).wr,∃o,(stI i).h.get j=some o/\o.wr=true
 scr:∀i,i<=N->∀t v,(bI i).r.get t=some v->Sc (stI i).n v
 NN:∀i,i<=N->∀j,(j<(stI 0).n->∃l,μ j=some l)->j<(stI i).n->∃o μT wT lT,(stI i).h.get j=some o/\OM P μT wT o lT/\∀k l,μT k=some l->k<(stI i).n
 fn:∀i,i<=N->(bI i).n=(bI 0).n/\(bI i).marks=(bI 0).marks
def Ypr{ops:Array Oper}{o:Oper}{f:FP}{cj:St}{dP:Fr}(h:zz P call ops o st fr v f cj dP):∀j∈f.wr,j<st.n:=by
 have key:∀(l:List Nat) (n j:Nat),j∈aL n l->j<n:=by
  intro l n j hj
  induction l with
  |nil=>simp[aL]at hj
  |cons i l ih=>
   simp only[aL]at hj
   split at hj
   ·unfold xe at hj
    split at hj
    ·exact ih hj
    ·simp only[kV]at hj
     rcases hj with rfl|hj
     ·assumption
     ·exact ih hj
   ·exact ih hj
 obtain⟨g,b,hg,hw,hp,ht,On⟩:=h
 cases b with
 |true=>
  obtain⟨s',hm,rfl,rfl⟩:=ht rfl
  rw[(Zvq (call:=call) hm _ _).1]
  exact key _ _
 |false=>
  obtain⟨rfl,rfl,rfl⟩:=On rfl
  intro j hj
  simp at hj
def Yhv{d:Option Nat}(h:fr.put d v=some bL):bL.n=fr.n/\bL.marks=fr.marks:=by
 cases d with
 |none=>simp only[Fr.put,au]at h;subst h;exact⟨rfl,rfl⟩
 |some d=>
  simp only[Fr.put]at h
  split at h
  ·simp only[au]at h;subst h;exact⟨rfl,rfl⟩
  ·cases h
def Zx9(bY:i_ P call)(hE:tE P){ops:Array Oper}{stI:Nat->St}{bI:Nat->Fr}{vI:Nat->V}{bu:Nat->FP}{N:Nat}{os:List Oper}(hN:os.length=N)
  (hh:Za9 P μ w (stI 0)) (hf:FrR μ (bI 0) a) (hs:∀i o,os[i]?=some o->zz P call ops o (stI i) (bI i) (vI i) (bu i) (stI (i+1)) (bI (i+1))):
  ∀i,i<=N->∃w' μ' a' ws,bK P μ w (stI 0) μ' w' (stI i) ws/\FrR μ' (bI i) a':=by
 intro i
 induction i with
 |zero=>exact fun _=>⟨w,μ,a,[],bK.refl hh,hf⟩
 |succ i ih=>
  intro hi
  obtain⟨w',μ',a',ws,h1,h2⟩:=ih (by omega)
  have ho:os[i]?=some (os[i]'(by omega)):=Yv8 (by omega)
  obtain⟨w2,μ2,a2,h3,h4,_⟩:=Yb4 bY hE h1.hr h2 (hs i _ ho)
  exact⟨w2,μ2,a2,_,h1.trans h3,h4⟩
def Ypx(bY:i_ P call)(hE:tE P){ops:Array Oper}{stI:Nat->St}{bI:Nat->Fr}{vI:Nat->V}{bu:Nat->FP}{N:Nat}{os:List Oper}(hN:os.length=N)
  (hh:Za9 P μ w (stI 0)) (hf:FrR μ (bI 0) a) (hs:∀i o,os[i]?=some o->zz P call ops o (stI i) (bI i) (vI i) (bu i) (stI (i+1)) (bI (i+1))):uB P μ stI bI bu N:=by
 have OI:=Zx9 bY hE hN hh hf hs
 have cY:∀i,i<N->∃o,os[i]?=some o:=fun i hi=>⟨_,Yv8 (by omega)⟩
 have ew:∀i,i<N->∃w1 μ1 w2 μ2 a2,bK P μ1 w1 (stI i) μ2 w2 (stI (i+1)) (bu i).wr/\FrR μ2 (bI (i+1)) a2/\(bu i).lo=(stI i).n/\(bu i).hi=(stI (i+1)).n:=fun i hi=>by
  obtain⟨w',μ',a',ws,h1,h2⟩:=OI i (by omega)
  obtain⟨o,ho⟩:=cY i hi
  obtain⟨w2,μ2,a2,h3,h4,h5,h6⟩:=Yb4 bY hE h1.hr h2 (hs i o ho)
  exact⟨w',μ',w2,μ2,a2,h3,h4,h5,h6⟩
 refine⟨fun i hi=>?_,fun i hi=>?_,fun i hi=>?_,fun i hi=>?_,fun i hi=>?_,fun i hi=>?_,fun i hi=>?_,fun i hi=>?_,fun i hi t v hv=>?_,fun i hi j hj Iy=>?_,fun i=>?_⟩
 ·obtain⟨_,_,_,_,_,h,_⟩:=ew i hi;exact h.gW
 ·obtain⟨_,_,_,_,_,_,_,h,_⟩:=ew i hi;exact h
 ·obtain⟨_,_,_,_,_,_,_,_,h⟩:=ew i hi;exact h
 ·obtain⟨_,_,_,_,_,h,_⟩:=ew i hi;exact h.wl
 ·obtain⟨o,ho⟩:=cY i hi;exact Ypr (hs i o ho)
 ·obtain⟨_,_,_,_,_,h,_⟩:=ew i hi;exact h.ai
 ·obtain⟨_,_,_,_,_,h,_⟩:=ew i hi;exact h.grow
 ·obtain⟨o,ho⟩:=cY i hi
  obtain⟨_,_,_,_,_,h,_⟩:=ew i hi
  exact fun j hj=>h.xQ j hj (Ypr (hs i o ho) j hj)
 ·obtain⟨w',μ',a',ws,h1,h2⟩:=OI i hi
  obtain⟨x,_,hx⟩:=h2.1.2 t v hv
  exact VR.sc (fun k l hk=>(h1.hr.dom k l hk).1) v x hx
 ·obtain⟨w',μ',a',ws,h1,h2⟩:=OI i hi
  have hl:∃l,μ' j=some l:=by
   by_cases h0:j<(stI 0).n
   ·obtain⟨l,hl⟩:=hj h0
    exact⟨l,(h1.ext j h0).trans hl⟩
   ·exact h1.full j (by omega) Iy
  obtain⟨l,hl⟩:=hl
  obtain⟨o,ho1,wX⟩:=h1.hr.obj j l hl
  exact⟨o,μ',w',l,ho1,wX,fun k l hk=>(h1.hr.dom k l hk).1⟩
 ·induction i with
  |zero=>exact fun _=>⟨rfl,rfl⟩
  |succ i ih=>
   intro hi
   obtain⟨o,ho⟩:=cY i (by omega)
   obtain⟨g,b,_,_,hp,_⟩:=hs i o ho
   obtain⟨e1,e2⟩:=Yhv hp
   obtain⟨f1,f2⟩:=ih (by omega)
   exact⟨e1.trans f1,e2.trans f2⟩
end
def uC(stI:Nat->St)(bu:Nat->FP)(k j:Nat):Prop:=j∈(bu k).wr\/((stI k).n<=j/\j<(stI (k+1)).n)
instance (stI:Nat->St) (bu:Nat->FP) (k j:Nat):Decidable (uC stI bu k j):=by unfold uC;infer_instance
def jn(stI:Nat->St)(bu:Nat->FP)(S:Nat->Bool):Nat->Nat->Option O
 |0,j=>(stI 0).h.get j
 |k+1,j=>if S k=true/\uC stI bu k j then (stI (k+1)).h.get j else jn stI bu S k j
def uA(bI:Nat->Fr)(ds:Nat->Option Nat)(S:Nat->Bool):Nat->Nat->Option V
 |0,t=>(bI 0).r.get t
 |k+1,t=>if S k=true/\ds k=some t then (bI (k+1)).r.get t else uA bI ds S k t
def Zml(S:Nat->Bool)(i:Nat):Nat->Bool:=fun k=>if k=i then true else S k
section
variable {P:Program} {μ:Mu} {stI:Nat->St} {bI:Nat->Fr} {bu:Nat->FP} {ds:Nat->Option Nat} {S:Nat->Bool} {N:Nat}
def Zrb(T:uB P μ stI bI bu N):∀{i j:Nat},i<=N->j<(stI i).n->(∀k,k<i->uC stI bu k j->S k=true)->jn stI bu S i j=(stI i).h.get j
 |0,j,_,_,_=>rfl
 |i+1,j,hi,hj,h=>by
  simp only[jn]
  by_cases ht:uC stI bu i j
  ·rw[aR ⟨h i (by omega) ht,ht⟩]
  ·rw[aA (fun hc=>ht hc.2)]
   simp only[uC,not_or,not_and,w_]at ht
   have aW:j<(stI i).n:=by
    rcases Nat.lt_or_ge j (stI i).n with h1|h1
    ·exact h1
    ·have:=ht.2 h1;omega
   rw[Zrb T (by omega) aW fun k hk=>h k (by omega),T.ai i (by omega) j aW ht.1]
def Tu:∀{M i j:Nat},i<=M->(∀k,i<=k->k<M->uC stI bu k j->S k=false)->jn stI bu S M j=jn stI bu S i j
 |0,i,j,hi,_=>by rw[Nat.le_zero.1 hi]
 |M+1,i,j,hi,h=>by
  by_cases e:i=M+1
  ·rw[e]
  ·simp only[jn]
   rw[aA,Tu (by omega) fun k h1 h2=>h k h1 (by omega)]
   rintro⟨h1,h2⟩
   rw[h M (by omega) (by omega) h2]at h1;cases h1
def Zhw{i:Nat}:∀{M j:Nat},¬uC stI bu i j->jn stI bu (Zml S i) M j=jn stI bu S M j
 |0,j,_=>rfl
 |M+1,j,h=>by
  simp only[jn]
  rw[Zhw h]
  by_cases e:M=i
  ·subst e
   rw[aA (fun hc=>h hc.2),aA (fun hc=>h hc.2)]
  ·simp only[Zml,e,if_false]
def Yf0{i j:Nat}(hi:i<N)(ht:uC stI bu i j)(h:∀k,i<k->k<N->uC stI bu k j->S k=false):jn stI bu (Zml S i) N j=(stI (i+1)).h.get j:=by
 rw[Tu (i:=i+1) (by omega) fun k h1 h2 h3=>by simp only[Zml];rw[aA (by omega)];exact h k (by omega) h2 h3]
 simp only[jn,Zml]
 rw[aR ⟨by simp,ht⟩]
def Jd(bI:Nat->Fr)(ds:Nat->Option Nat)(vI:Nat->V)(N:Nat):Prop:=∀i,i<N->∀t,(bI (i+1)).r.get t=if ds i=some t then some (vI i) else (bI i).r.get t
def Zra{vI:Nat->V}(T:Jd bI ds vI N):∀{i t:Nat},i<=N->(∀k,k<i->ds k=some t->S k=true)->uA bI ds S i t=(bI i).r.get t
 |0,t,_,_=>rfl
 |i+1,t,hi,h=>by
  simp only[uA]
  by_cases ht:ds i=some t
  ·rw[aR ⟨h i (by omega) ht,ht⟩]
  ·rw[aA (fun hc=>ht hc.2),Zra T (by omega) fun k hk=>h k (by omega),T i (by omega) t,aA ht]
def Tv:∀{M i t:Nat},i<=M->(∀k,i<=k->k<M->ds k=some t->S k=false)->uA bI ds S M t=uA bI ds S i t
 |0,i,t,hi,_=>by rw[Nat.le_zero.1 hi]
 |M+1,i,t,hi,h=>by
  by_cases e:i=M+1
  ·rw[e]
  ·simp only[uA]
   rw[aA,Tv (by omega) fun k h1 h2=>h k h1 (by omega)]
   rintro⟨h1,h2⟩
   rw[h M (by omega) (by omega) h2]at h1;cases h1
def Zhv{i:Nat}:∀{M t:Nat},ds i≠some t->uA bI ds (Zml S i) M t=uA bI ds S M t
 |0,t,_=>rfl
 |M+1,t,h=>by
  simp only[uA]
  rw[Zhv h]
  by_cases e:M=i
  ·subst e
   rw[aA (fun hc=>h hc.2),aA (fun hc=>h hc.2)]
  ·simp only[Zml,e,if_false]
def Yfz{vI:Nat->V}(T:Jd bI ds vI N){i t:Nat}(hi:i<N)(ht:ds i=some t)(h:∀k,i<k->k<N->ds k=some t->S k=false):uA bI ds (Zml S i) N t=some (vI i):=by
 rw[Tv (i:=i+1) (by omega) fun k h1 h2 h3=>by simp only[Zml];rw[aA (by omega)];exact h k (by omega) h2 h3]
 simp only[uA,Zml]
 rw[aR ⟨by simp,ht⟩,T i hi t,aR ht]
def zw(r:T V):List Nat->T V
 |[]=>.nil
 |t::ts=>match r.get t with
  |some v=>(zw r ts).set t v
  |none=>zw r ts
def Ol(r:T V):∀(ts:List Nat) (t:Nat),(zw r ts).get t=if t∈ts then r.get t else none
 |[],t=>by simp[zw,T.get]
 |u::ts,t=>by
  simp only[zw]
  split
  ·rename_i v hv
   rw[T.al,Ol r ts t]
   by_cases e:t=u
   ·subst e;simp[hv]
   ·simp[e]
  ·rename_i hv
   rw[Ol r ts t]
   by_cases e:t=u
   ·subst e;simp[hv]
   ·simp[e]
def Yom{r:T V}{ts:List Nat}{s:Src}(h:∀t∈s.tmps,t∈ts):s.ev (zw r ts)=s.ev r:=by
 cases s with
 |const v=>rfl
 |tmp t=>simp only[Src.ev];rw[Ol,aR (h t (by simp[Src.tmps]))]
def qK(h:T O)(ai:List Nat):Nat->T O
 |0=>.nil
 |n+1=>match h.get n with
  |some o=>(qK h ai n).set n (if n∈ai then o else .dead)
  |none=>qK h ai n
def LY(h:T O)(ai:List Nat):∀(n j:Nat),(qK h ai n).get j=if j<n then (h.get j).map fun o=>if j∈ai then o else .dead else none
 |0,j=>by simp[qK,T.get]
 |n+1,j=>by
  simp only[qK]
  split
  ·rename_i o ho
   rw[T.al,LY h ai n j]
   by_cases e:j=n
   ·subst e;simp[ho]
   ·rw[aA e]
    by_cases e2:j<n
    ·rw[aR e2,aR (by omega)]
    ·rw[aA e2,aA (by omega)]
  ·rename_i ho
   rw[LY h ai n j]
   by_cases e:j=n
   ·subst e;simp[ho]
   ·by_cases e2:j<n
    ·rw[aR e2,aR (by omega)]
    ·rw[aA e2,aA (by omega)]
def FP.dq(f:FP)(j:Nat):Prop:=
 match f.rd with
 |none=>True
 |some l=>j∈l
def Yco{st σ:St}{i:Nat}(h:σ.h.get i=st.h.get i):σ.row i=st.row i:=by unfold St.row;rw[h]
def Yir{call:cP}{r:T V}{op:fZ}{st s':St}{v:V}{ws:List Nat}{lo hi:Nat}(hm:cJ op call r {st with w:=[]}=some (v,s'))(fO:lo=st.n):
  ∃σ σ',σ.n=st.n/\σ.w=[]/\cJ op call r σ=some (v,σ')/\σ'.n=s'.n/\σ'.w=s'.w/\
   (∀j,j<st.n->(Zcy r op ws lo hi).dq j->σ.h.get j=st.h.get j)/\(∀j,j<st.n->¬(Zcy r op ws lo hi).dq j->σ.h.get j=(st.h.get j).map fun _=>.dead)/\
   (∀j,((Zcy r op ws lo hi).dq j/\j<st.n)\/(st.n<=j/\j<s'.n)->σ'.h.get j=s'.h.get j)/\(∀j∈s'.w,(Zcy r op ws lo hi).dq j):=by
 by_cases hs:op.nt=true
 ·have hf:Zcy r op ws lo hi=⟨some [],[],lo,hi⟩:=by unfold Zcy;rw[aR hs]
  rw[hf]
  have hd:∀j,j<st.n->(qK st.h [] st.n).get j=(st.h.get j).map fun _=>.dead:=fun j hj=>by
   rw[LY,aR hj];simp
  rcases Znf hs (qK st.h [] st.n) [] hm with⟨h1,h2⟩|⟨o,h1,h2⟩
  ·subst h1
   exact⟨⟨qK st.h [] st.n,st.n,[]⟩,_,rfl,rfl,h2,rfl,rfl,fun j _ hj=>by simp[FP.dq]at hj,fun j hj _=>hd j hj,fun j hj=>by
    rcases hj with⟨hj,_⟩|⟨h1,h2⟩
    ·simp[FP.dq]at hj
    ·simp only at h2;omega,fun j hj=>by simp at hj⟩
  ·subst h1
   refine⟨⟨qK st.h [] st.n,st.n,[]⟩,_,rfl,rfl,h2,rfl,rfl,fun j _ hj=>by simp[FP.dq]at hj,fun j hj _=>hd j hj,fun j hj=>?_,fun j hj=>by simp[St.alloc]at hj⟩
   rcases hj with⟨hj,_⟩|⟨h1,h2⟩
   ·simp[FP.dq]at hj
   ·simp only[St.alloc]at h2 ⊢
    have:j=st.n:=by omega
    subst this
    rw[T.al,T.al,aR rfl,aR rfl]
 ·cases hl:Tj r op with
  |none=>
   have hf:Zcy r op ws lo hi=⟨none,ws,lo,hi⟩:=by unfold Zcy;rw[aA hs,hl]
   rw[hf]
   exact⟨{st with w:=[]},s',rfl,rfl,hm,rfl,rfl,fun _ _ _=>rfl,fun _ _ hj=>absurd trivial hj,fun _ _=>rfl,fun _ _=>trivial⟩
  |some i=>
   by_cases gZ:i<st.n
   case neg=>
    have hf:Zcy r op ws lo hi=⟨none,ws,lo,hi⟩:=by unfold Zcy;rw[aA hs,hl];simp only[];rw[aA (by rw[fO];simpa[Nat.blt_eq]using gZ)]
    rw[hf]
    exact⟨{st with w:=[]},s',rfl,rfl,hm,rfl,rfl,fun _ _ _=>rfl,fun _ _ hj=>absurd trivial hj,fun _ _=>rfl,fun _ _=>trivial⟩
   have hf:Zcy r op ws lo hi=⟨some [i],ws,lo,hi⟩:=by unfold Zcy;rw[aA hs,hl];simp only[];rw[aR (by rw[fO];simpa[Nat.blt_eq]using gZ)]
   rw[hf]
   have hk:(qK st.h [i] st.n).get i=st.h.get i:=by
    rw[LY,aR gZ]
    cases st.h.get i<;>simp
   have hd:∀j,j<st.n->¬(j∈[i])->(qK st.h [i] st.n).get j=(st.h.get j).map fun _=>.dead:=fun j hj hn=>by
    rw[LY,aR hj];simp only[hn,if_false]
   have zgc:(⟨qK st.h [i] st.n,st.n,[]⟩:St).row i=St.row {st with w:=[]} i:=Yco hk
   cases op<;>simp only[Tj,reduceCtorEq]at hl
   case load k x=>
    split at hl
    ·rename_i i' o hx
     simp only[au]at hl;subst hl
     simp only[cJ,IM,hx]at hm ⊢
     split at hm
     ·rename_i c e yL hr
      split at hm
      ·rename_i u hu
       simp only[au,bE]at hm
       obtain⟨rfl,rfl⟩:=hm
       refine⟨⟨qK st.h [i'] st.n,st.n,[]⟩,⟨qK st.h [i'] st.n,st.n,[]⟩,rfl,rfl,?_,rfl,rfl,fun j _ hj=>?_,fun j hj hn=>hd j hj hn,fun j hj=>?_,fun j hj=>by simp at hj⟩
       ·rw[zgc,hr];simp only[hu]
       ·simp only[FP.dq,yW]at hj;subst hj;exact hk
       ·rcases hj with⟨hj,_⟩|⟨h1,h2⟩
        ·simp only[FP.dq,yW]at hj;subst hj;exact hk
        ·simp only at h2;omega
      ·cases hm
     ·cases hm
    ·cases hl
   case store k x y=>
    split at hl
    ·rename_i i' o hx
     simp only[au]at hl;subst hl
     simp only[cJ,DK,hx]at hm ⊢
     split at hm
     ·rename_i i2 o2 u Mh hu
      simp only[au,V.ptr.injEq]at Mh
      obtain⟨rfl,rfl⟩:=Mh
      split at hm
      ·rename_i c e hr
       split at hm
       ·rename_i hc
        simp only[au,bE]at hm
        obtain⟨rfl,rfl⟩:=hm
        refine⟨⟨qK st.h [i'] st.n,st.n,[]⟩,St.write ⟨qK st.h [i'] st.n,st.n,[]⟩ i' (.cells (aj c o u.cells) e true),rfl,rfl,?_,rfl,rfl,fun j _ hj=>?_,fun j hj hn=>hd j hj hn,fun j hj=>?_,fun j hj=>?_⟩
        ·rw[zgc,hr]
         simp only[aR hc]
        ·simp only[FP.dq,yW]at hj;subst hj;exact hk
        ·rcases hj with⟨hj,_⟩|⟨h1,h2⟩
         ·simp only[FP.dq,yW]at hj;subst hj
          simp only[St.write,T.al,if_true]
         ·simp only[St.write]at h2;omega
        ·simpa[FP.dq,St.write]using hj
       ·cases hm
      ·cases hm
     ·cases hm
    ·cases hl
end
end Go.Mx
