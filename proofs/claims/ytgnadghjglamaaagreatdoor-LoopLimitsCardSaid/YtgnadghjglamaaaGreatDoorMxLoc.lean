/-What an operation of M looks at-/
import Derived.Test.YtgnadghjglamaaaGreatDoorMxFun
set_option linter.all false
namespace Go.Mx
open Go
section
variable {r r' : T V} {st : St} {call : cM}
def JE : ∀ {l : List Src}, (∀ s ∈ l, s.ev r = s.ev r') -> tY r l = tY r' l
  | [], _ => rfl
  | s :: l, h => by
    simp only [tY]
    rw [h s (by simp), JE fun s hs => h s (by simp [hs])]
def Ed {o : Option Src} (h : ∀ s ∈ Iu o, s.ev r = s.ev r') : aC r o = aC r' o := by
  cases o with
  | none => rfl
  | some s => simp only [aC]; rw [h s (by simp [Iu])]
def Zgg : ∀ {l : List (Nat × Nat × Src)}, (∀ s ∈ l.map (·.2.2), s.ev r = s.ev r') -> A9 r l = A9 r' l
  | [], _ => rfl
  | (o, k, s) :: l, h => by
    simp only [A9]
    rw [h s (by simp), Zgg fun s hs => h s (by simp only [lF, ku]; exact .inr hs)]
def Ybj {op : gF} (h : ∀ s ∈ op.Cf, s.ev r = s.ev r') : cG op call r st = cG op call r' st := by
  cases op <;> simp only [gF.Cf, ku, List.not_mem_nil, or_false, forall_eq_or_imp, forall_eq, l7] at h <;> simp only [cG]
  case build z ps => simp only [Ca, Zgg h]
  case kP e s l z ps => simp only [I4, Zgg h]
  case nX f a c => simp only [Ja, JE fun s hs => h s (.inl hs), JE fun s hs => h s (.inr hs)]
  case cH x lo hi => simp only [yq, h.1, Ed fun s hs => h.2 s (.inl hs), Ed fun s hs => h.2 s (.inr hs)]
  case mR z x lo hi m => simp only [qU, h.1, Ed fun s hs => h.2 s (.inl (.inl hs)), Ed fun s hs => h.2 s (.inl (.inr hs)), Ed fun s hs => h.2 s (.inr hs)]
  case jH k z x lo hi m => simp only [zC, h.1, Ed fun s hs => h.2 s (.inl (.inl hs)), Ed fun s hs => h.2 s (.inl (.inr hs)), Ed fun s hs => h.2 s (.inr hs)]
  case mn l => simp only [yr, JE h]
  case mx l => simp only [qV, JE h]
  case call f l => simp only [yt, h.1, JE fun s hs => h.2 s hs]
  case ext e l => simp only [Jh, JE h]
  all_goals
    first
      | rfl
      | (simp only [I1, I3, Zip, I5, I7, I8, LN, DP, I9, LP, DQ, Jb, Jc, Je, Jf, Jg, xE, LS, LU, Ce, LV, Ol, Jj, h]; done)
      | (simp only [DN, DO, I6, Cb, Cc, DR, LR, DS, Jd, DT, Zqy, Zmw, Cd, DU, LW, Ok, h.1, h.2]; done)
      | (simp only [DN, DT, Zmw, h.1, h.2.1, h.2.2]; done)
def Zmh {op : gF} (hs : op.nY = true) (h' : T O) (l' : List Nat) {v : V} {aB : St} (h : cG op call r st = some (v, aB)) :
    (aB = st /\ cG op call r ⟨h', st.n, l'⟩ = some (v, ⟨h', st.n, l'⟩)) \/ ∃ o, aB = st.alloc o /\ cG op call r ⟨h', st.n, l'⟩ = some (v, St.alloc ⟨h', st.n, l'⟩ o) := by
  cases op <;> simp only [gF.nY, gV] at hs <;> simp only [cG] at h ⊢
  case jG e z b zs x y =>
    unfold Cb at *
    split at h
    · rename_i ha hb
      split at h
      · rename_i hc
        simp only [au, bj] at h
        obtain ⟨rfl, rfl⟩ := h
        refine .inr ⟨_, rfl, ?_⟩
        rw [aQ hc]
      · cases h
    · cases h
  case bin b t ng x y =>
    refine .inl ?_
    unfold I6 at *
    split at h
    · cases b <;> first | (cases hs; done) | (simp only [SN, reduceCtorEq] at h)
    · split at h
      · rename_i hm
        simp only [au, bj] at h
        obtain ⟨rfl, rfl⟩ := h
        exact ⟨rfl, by simp_all⟩
      · cases h
    · cases h
  all_goals
    first
      | unfold I1 at * | unfold DN at * | unfold LM at * | unfold I3 at * | unfold Ca at * | unfold I4 at * | unfold I5 at * | unfold I7 at * | unfold I8 at * | unfold LN at * | unfold DP at * | unfold LP at * | unfold Ja at * | unfold LQ at * | unfold DQ at * | unfold Cb at * | unfold yq at * | unfold Jb at * | unfold Jc at * | unfold Cc at * | unfold DR at * | unfold LR at * | unfold DS at * | unfold Je at * | unfold Jg at * | unfold Oj at * | unfold LS at * | unfold yr at * | unfold qV at * | unfold Jh at * | unfold Ok at * | unfold Ol at * | unfold Jj at *
  all_goals
    repeat' split at h
    all_goals
      first
        | (cases h; done)
        | (simp only [au, bj] at h
           obtain ⟨rfl, rfl⟩ := h
           first
             | (refine .inl ⟨rfl, ?_⟩; simp_all; done)
             | (refine .inr ⟨_, rfl, ?_⟩; simp_all; done))
def Zqv {α : Type} {p : α -> α -> Bool} {f : α} {m : Nat} : ∀ {seen : List α} {j : Nat}, seen.length = j -> bU.bZ p f m (j - 1) seen = true -> ∀ i, i < j -> ∀ g, seen[j - 1 - i]? = some g -> m.testBit i = true \/ p g f = true
  | [], j, hl, _, i, hi, g, hg => by simp at hg
  | g0 :: seen, j, hl, h, i, hi, g, hg => by
    simp only [bU.bZ, ji, IV] at h
    simp only [ak] at hl
    by_cases e : i = j - 1
    · subst e
      simp only [Nat.sub_self, A5, au] at hg
      subst hg
      exact h.1
    · have h2 := Zqv (j := j - 1) (by omega) h.2 i (by omega) g
      refine h2 ?_
      rw [show j - 1 - i = (j - 1 - 1 - i) + 1 by omega] at hg
      simpa using hg
def Zvc {α : Type} {p : α -> α -> Bool} : ∀ {fs : List α} {ms : List Nat} {j : Nat} {seen : List α}, seen.length = j -> bU.go p fs ms j seen = true ->
    ∀ (b i : Nat) (f g : α), fs[b]? = some f -> i < j + b -> (seen.reverse ++ fs)[i]? = some g -> (ms.getD b 0).testBit i = true \/ p g f = true
  | [], ms, j, seen, hl, _, b, i, f, g, hf, _, _ => by simp at hf
  | f0 :: fs, ms, j, seen, hl, h, b, i, f, g, hf, hi, hg => by
    simp only [bU.go, ji] at h
    cases b with
    | zero =>
      simp only [A5, au] at hf
      subst hf
      have hm : ms.getD 0 0 = ms.headD 0 := by cases ms <;> rfl
      rw [hm]
      refine Zqv hl h.1 i (by omega) g ?_
      rw [rR (by simp; omega), List.getElem?_reverse (by omega)] at hg
      rw [<- hl]; exact hg
    | succ b =>
      have hm : ms.getD (b + 1) 0 = ms.tail.getD b 0 := by cases ms <;> simp
      rw [hm]
      refine Zvc (j := j + 1) (seen := f0 :: seen) (by simp [hl]) h.2 b i f g (by simpa using hf) (by omega) ?_
      simpa using hg
def Zvb {α : Type} {p : α -> α -> Bool} {xs : List α} {ms : List Nat} (h : bU p xs ms = true) {i j : Nat} {a b : α} (hij : i < j) (ha : xs[i]? = some a) (hb : xs[j]? = some b) : (ms.getD j 0).testBit i = true \/ p a b = true :=
  Zvc (seen := []) rfl h j i b a hb (by omega) (by simpa using ha)
def Zis : ∀ (os : List Oper) (acc : List Nat) (k : Nat), k < acc.length -> (uP os acc).getD k 0 = acc.getD k 0
  | [], acc, k, _ => rfl
  | o :: os, acc, k, h => by
    simp only [uP]
    rw [Zis os _ k (by simp; omega)]
    simp only [List.getD_eq_getElem?_getD]
    rw [rR h]
def Zm5 : ∀ (os : List Oper) (acc : List Nat) (j : Nat) (o : Oper), os[j]? = some o ->
    ∃ pre : List Nat, pre.length = acc.length + j /\ (uP os acc).getD (acc.length + j) 0 = Oc o pre /\ ∀ k, k < acc.length + j -> (uP os acc).getD k 0 = pre.getD k 0
  | [], acc, j, o, h => by simp at h
  | o0 :: os, acc, 0, o, h => by
    simp only [A5, au] at h
    subst h
    refine ⟨acc, rfl, ?_, fun k hk => ?_⟩
    · simp only [uP]
      rw [Zis os _ _ (by simp)]
      simp [List.getD_eq_getElem?_getD]
    · exact Zis (o0 :: os) acc k hk
  | o0 :: os, acc, j + 1, o, h => by
    obtain ⟨pre, h1, h2, h3⟩ := Zm5 os (acc ++ [Oc o0 acc]) j o (by simpa using h)
    simp only [jb, ak, List.length_nil] at h1 h2 h3
    refine ⟨pre, by omega, ?_, ?_⟩
    · rw [show acc.length + (j + 1) = acc.length + (0 + 1) + j by omega]; exact h2
    · intro k hk; exact h3 k (by omega)
def Zxz {o : Oper} {ms : List Nat} {i : Nat} (h : (Oc o ms).testBit i = true) : ∃ e ∈ o.after, Region.binds .any e = true /\ (i = e.on \/ (ms.getD e.on 0).testBit i = true) := by
  have key : ∀ (l : List Edge) (s : Nat), (l.foldl (fun s e => if Region.binds .any e then s ||| 2 ^ e.on ||| ms.getD e.on 0 else s) s).testBit i = true ->
      s.testBit i = true \/ ∃ e ∈ l, Region.binds .any e = true /\ (i = e.on \/ (ms.getD e.on 0).testBit i = true) := by
    intro l
    induction l with
    | nil => intro s h; exact .inl h
    | cons e l ih =>
      intro s h
      simp only [List.foldl_cons] at h
      rcases ih _ h with h | ⟨e', h1, h2⟩
      · split at h
        · rename_i hb
          simp only [Nat.testBit_or, IV] at h
          rcases h with (h | h) | h
          · exact .inl h
          · rw [Nat.testBit_two_pow] at h
            exact .inr ⟨e, by simp, hb, .inl (by simpa using (of_decide_eq_true h).symm)⟩
          · exact .inr ⟨e, by simp, hb, .inr h⟩
        · exact .inl h
      · exact .inr ⟨e', by simp [h1], h2⟩
  unfold Oc at h
  rw [<- Array.foldl_toList] at h
  rcases key _ _ h with h | ⟨e, h1, h2⟩
  · simp at h
  · exact ⟨e, by simpa using h1, h2⟩
def Yfv {ops : Array Oper} {j i : Nat} {o : Oper} (ho : ops[j]? = some o) (h : ((uP ops.toList []).getD j 0).testBit i = true) :
    ∃ e ∈ o.after, Region.binds .any e = true /\ (i = e.on \/ ((uP ops.toList []).getD e.on 0).testBit i = true) := by
  obtain ⟨pre, h1, h2, h3⟩ := Zm5 ops.toList [] j o (by rw [zw]; exact ho)
  simp only [List.length_nil, vW] at h1 h2 h3
  rw [h2] at h
  obtain ⟨e, g1, g2, g3⟩ := Zxz h
  refine ⟨e, g1, g2, g3.imp id fun hb => ?_⟩
  by_cases he : e.on < j
  · rw [h3 _ he]; exact hb
  · have : pre.getD e.on 0 = 0 := by simp [List.getD_eq_getElem?_getD, h1, yl he]
    rw [this] at hb; simp at hb
def Yig (ops : Array Oper) (S : Nat -> Prop) : Prop := ∀ k i, S k -> ((uP ops.toList []).getD k 0).testBit i = true -> S i
def Zok {ops : Array Oper} {listed : Array Bool} (hc : Yig ops (fun k => listed.getD k false = true)) {j : Nat} (hj : j ∈ Region.ready .any ops listed) :
    j < ops.size /\ listed.getD j true = false /\ ∀ i, ((uP ops.toList []).getD j 0).testBit i = true -> listed.getD i false = true := by
  unfold Region.ready at hj
  simp only [List.mem_filter, Sa, ji, IU] at hj
  obtain ⟨h1, h2, h3⟩ := hj
  refine ⟨h1, h2, fun i hi => ?_⟩
  have ho : ops[j]? = some ops[j] := Array.getElem?_eq_getElem h1
  obtain ⟨e, g1, g2, g3⟩ := Yfv ho hi
  rw [ho] at h3
  simp only [B5, Yxv, Yva, IV, IU] at h3
  have he : listed.getD e.on false = true := by
    rcases h3 e g1 with h | h
    · rw [g2] at h; cases h
    · exact h
  rcases g3 with rfl | g3
  · exact he
  · exact hc _ _ he g3
mutual
def Sc (n : Nat) : V -> Prop
  | .ptr i _ => i < n
  | .slice i _ _ _ _ => i < n
  | .map i => i < n
  | .chan i => i < n
  | .func _ a c => Ee n a /\ Ee n c
  | .yield i => i < n
  | .iface _ v => Sc n v
  | .agg l => Ee n l
  | .aS l => Ee n l
  | _ => True
def Ee (n : Nat) : List V -> Prop
  | [] => True
  | v :: vs => Sc n v /\ Ee n vs
end
mutual
def VR.sc {μ : Mu} {n : Nat} (h : ∀ i l, μ i = some l -> i < n) : ∀ (v : V) (x : Value), VR μ v x -> Sc n v
  | .bool _, _, _ => by simp [Sc]
  | .int _ _, _, _ => by simp [Sc]
  | .kg _ _, _, _ => by simp [Sc]
  | .rO _ _ _, _, _ => by simp [Sc]
  | .str _, _, _ => by simp [Sc]
  | .zgi, _, _ => by simp [Sc]
  | .ptr _ _, _, hx => by simp only [VR] at hx; obtain ⟨l, h1, _⟩ := hx; exact h _ _ h1
  | .aa, _, _ => by simp [Sc]
  | .slice _ _ _ _ _, _, hx => by simp only [VR] at hx; obtain ⟨l, c, h1, _⟩ := hx; exact h _ _ h1
  | .empty, _, _ => by simp [Sc]
  | .bV, _, _ => by simp [Sc]
  | .map _, _, hx => by simp only [VR] at hx; obtain ⟨l, h1, _⟩ := hx; exact h _ _ h1
  | .bX, _, _ => by simp [Sc]
  | .chan _, _, hx => by simp only [VR] at hx; obtain ⟨l, h1, _⟩ := hx; exact h _ _ h1
  | .func _ a c, _, hx => by
    simp only [VR] at hx; obtain ⟨a', c', _, h2, h3⟩ := hx
    exact ⟨aW.sc h a a' h2, aW.sc h c c' h3⟩
  | .yield _, _, hx => by simp only [VR] at hx; obtain ⟨l, h1, _⟩ := hx; exact h _ _ h1
  | .bY, _, _ => by simp [Sc]
  | .iface _ v, _, hx => by simp only [VR] at hx; obtain ⟨y, _, h2⟩ := hx; exact VR.sc h v y h2
  | .aX, _, _ => by simp [Sc]
  | .agg vs, _, hx => by simp only [VR] at hx; obtain ⟨a, _, h2⟩ := hx; exact aW.sc h vs a h2
  | .aS vs, _, hx => by simp only [VR] at hx; obtain ⟨a, _, h2⟩ := hx; exact aW.sc h vs a h2
def aW.sc {μ : Mu} {n : Nat} (h : ∀ i l, μ i = some l -> i < n) : ∀ (vs : List V) (xs : List Value), aW μ vs xs -> Ee n vs
  | [], _, _ => trivial
  | v :: vs, _, hx => by
    simp only [aW] at hx
    obtain ⟨y, ys, _, h2, h3⟩ := hx
    exact ⟨VR.sc h v y h2, aW.sc h vs ys h3⟩
end
mutual
def VR.cut {μ μ' : Mu} {n : Nat} (h : ∀ i l, i < n -> μ i = some l -> μ' i = some l) : ∀ (v : V) (x : Value), Sc n v -> VR μ v x -> VR μ' v x
  | .bool _, _, _, hx => by simpa [VR] using hx
  | .int _ _, _, _, hx => by simpa [VR] using hx
  | .kg _ _, _, _, hx => by simpa [VR] using hx
  | .rO _ _ _, _, _, hx => by simpa [VR] using hx
  | .str _, _, _, hx => by simpa [VR] using hx
  | .zgi, _, _, hx => by simpa [VR] using hx
  | .ptr _ _, _, hs, hx => by simp only [VR, Sc] at *; obtain ⟨l, h1, h2⟩ := hx; exact ⟨l, h _ _ hs h1, h2⟩
  | .aa, _, _, hx => by simpa [VR] using hx
  | .slice _ _ _ _ _, _, hs, hx => by simp only [VR, Sc] at *; obtain ⟨l, c, h1, h2⟩ := hx; exact ⟨l, c, h _ _ hs h1, h2⟩
  | .empty, _, _, hx => by simpa [VR] using hx
  | .bV, _, _, hx => by simpa [VR] using hx
  | .map _, _, hs, hx => by simp only [VR, Sc] at *; obtain ⟨l, h1, h2⟩ := hx; exact ⟨l, h _ _ hs h1, h2⟩
  | .bX, _, _, hx => by simpa [VR] using hx
  | .chan _, _, hs, hx => by simp only [VR, Sc] at *; obtain ⟨l, h1, h2⟩ := hx; exact ⟨l, h _ _ hs h1, h2⟩
  | .func _ a c, _, hs, hx => by
    simp only [VR, Sc] at *; obtain ⟨a', c', h1, h2, h3⟩ := hx
    exact ⟨a', c', h1, aW.cut h a a' hs.1 h2, aW.cut h c c' hs.2 h3⟩
  | .yield _, _, hs, hx => by simp only [VR, Sc] at *; obtain ⟨l, h1, h2⟩ := hx; exact ⟨l, h _ _ hs h1, h2⟩
  | .bY, _, _, hx => by simpa [VR] using hx
  | .iface _ v, _, hs, hx => by simp only [VR, Sc] at *; obtain ⟨y, h1, h2⟩ := hx; exact ⟨y, h1, VR.cut h v y hs h2⟩
  | .aX, _, _, hx => by simpa [VR] using hx
  | .agg vs, _, hs, hx => by simp only [VR, Sc] at *; obtain ⟨a, h1, h2⟩ := hx; exact ⟨a, h1, aW.cut h vs a hs h2⟩
  | .aS vs, _, hs, hx => by simp only [VR, Sc] at *; obtain ⟨a, h1, h2⟩ := hx; exact ⟨a, h1, aW.cut h vs a hs h2⟩
def aW.cut {μ μ' : Mu} {n : Nat} (h : ∀ i l, i < n -> μ i = some l -> μ' i = some l) : ∀ (vs : List V) (xs : List Value), Ee n vs -> aW μ vs xs -> aW μ' vs xs
  | [], _, _, hx => by simpa [aW] using hx
  | v :: vs, _, hs, hx => by
    simp only [aW, Ee] at *
    obtain ⟨y, ys, h1, h2, h3⟩ := hx
    exact ⟨y, ys, h1, VR.cut h v y hs.1 h2, aW.cut h vs ys hs.2 h3⟩
end
def OM.cut {P : Program} {μ μ' μT : Mu} {w wT : World} {n : Nat} (h : ∀ i l, i < n -> μ i = some l -> μ' i = some l) (hT : ∀ i l, μT i = some l -> i < n) {o : O} {l lT : L} (ht : OM P μT wT o lT) (ho : OM P μ w o l) : OM P μ' w o l := by
  cases o with
  | cells c e rw =>
    obtain ⟨c', lo, hi, h1, h2, h3, h4, h5⟩ := ho
    obtain ⟨cT, _, _, _, _, _, t4, _⟩ := ht
    exact ⟨c', lo, hi, h1, h2, h3, fun j v hv => by
      obtain ⟨x, a, b⟩ := h4 j v hv
      obtain ⟨xT, _, bT⟩ := t4 j v hv
      exact ⟨x, a, VR.cut h v x (VR.sc hT v xT bT) b⟩, h5⟩
  | map es =>
    obtain ⟨es', h1, h2⟩ := ho
    obtain ⟨esT, _, t2⟩ := ht
    refine ⟨es', h1, ?_⟩
    have : ∀ (es : List (V × V)) (xs xT : List MapEntry) (b bT : Nat), iV μ es xs b -> iV μT es xT bT -> iV μ' es xs b := by
      intro es
      induction es with
      | nil => intro xs xT b bT h1 _; exact h1
      | cons p es ih =>
        intro xs xT b bT h1 h2
        obtain ⟨k, u⟩ := p
        obtain ⟨e, ys, rfl, a1, a2, a3, a4⟩ := h1
        obtain ⟨eT, yT, rfl, b1, b2, _, b4⟩ := h2
        exact ⟨e, ys, rfl, VR.cut h k _ (VR.sc hT k _ b1) a1, VR.cut h u _ (VR.sc hT u _ b2) a2, a3, ih ys yT _ _ a4 b4⟩
    exact this _ _ _ _ _ h2 t2
  | chan cap buf =>
    obtain ⟨b', s, r, h1, h2⟩ := ho
    obtain ⟨bT, _, _, _, t2⟩ := ht
    exact ⟨b', s, r, h1, aW.cut h _ _ (aW.sc hT _ _ t2) h2⟩
  | eP s pos => simp only [OM] at *; exact ho
  | loop R =>
    obtain ⟨fn, tmps, fU, fV, ld, h1, h2, h3, h4, h5⟩ := ho
    obtain ⟨_, tT, _, _, ldT, _, t2, _, _, t5⟩ := ht
    refine ⟨fn, tmps, fU, fV, ld, h1, ⟨h2.1, fun t v hv => ?_⟩, h3, h4, h _ _ (hT _ _ t5) h5⟩
    obtain ⟨x, a, b⟩ := h2.2 t v hv
    obtain ⟨xT, _, bT⟩ := t2.2 t v hv
    exact ⟨x, a, VR.cut h v x (VR.sc hT v xT bT) b⟩
  | defs b => simp only [OM] at *; exact ho
  | dead => trivial
end
section
variable {P:Program} {μ:Mu} {w:World} {st aB:St} {fr bG:Fr} {a:Act} {call:cM} {v:V} {lb:Option Nat}
def Yog(b_:js P call)(hE:tN P)(hh:bk P μ w st)(hf:l9 μ fr a){o:Oper}(h:cG (zt P o.op) call fr.r st=some (v,aB)):∃x w' μ' ws,VR μ' v x/\bD P μ w st μ' w' aB ws:=by
 have hwp:=Yjm (lb:=none) (Q:=fun _ _ _=>False) (K:=fun _ _=>∃x w' μ' ws,VR μ' v x/\bD P μ w st μ' w' aB ws) b_ hE hh hf h (fun x w' μ' ws h1 h2=>⟨x,w',μ',ws,h1,h2⟩)
 obtain⟨_,hu⟩:=hwp
 generalize (o.semAt (FE none).round a.eval).run P w=res at hu
 cases res with
 |halt x w'=>cases x<;>simp only[Oper.uponIn]at hu
 |ok x w'=>
  cases x<;>simp only[Oper.uponIn]at hu
  case value=>exact hu
  case skip=>exact hu
  case defer=>exact hu
  case enter f args=>
   obtain⟨e,w',fr,hR,_⟩:=hu.2.2 [] (fun d hd=>by simp[Fence.wide]at hd)
   cases e with
   |returned v=>exact hR
   |panicked c=>exact hR.elim
   |outgrown=>obtain⟨_,_,hq⟩:=hR;exact hq.elim
  case row r args=>
   obtain⟨v',w',hR,_⟩:=hu.2 default [] (fun d hd=>by simp[Fence.wide]at hd)
   exact hR
  case round l f tmps fU fV=>
   obtain⟨e,w',hR,_⟩:=hu.2.2 default [] (fun d hd=>by simp[Fence.wide]at hd)
   cases e with
   |returned v=>exact hR
   |panicked c=>exact hR.elim
   |outgrown=>obtain⟨_,_,hq⟩:=hR;exact hq.elim
def zH(P:Program)(call:cM)(ops:Array Oper)(o:Oper)(st:St)(fr:Fr)(v:V)(f:FP)(cr:St)(dS:Fr):Prop:=
 ∃g b,IB ops o.guard=some g/\bW fr.r g=some b/\fr.put o.dst v=some dS/\
  (b=true->∃s',cG (zt P o.op) call fr.r {st with w:=[]}=some (v,s')/\cr={s' with w:=aD st.n s'.w++st.w}/\f=oU fr.r (zt P o.op) (aD st.n s'.w) st.n s'.n)/\
  (b=false->v=.aS []/\cr=st/\f=⟨some [],[],st.n,st.n⟩)
def Zq2{ops:Array Oper}:∀(os:List Oper) (fr:Fr) (st:St) (iy:List FP) (bG:Fr) (aB:St),bQ call (os.map (qF P ops)) fr st=some (iy,bG,aB)->
  ∃(aO:Nat->St) (bA:Nat->Fr) (vI:Nat->V) (bh:Nat->FP),aO 0=st/\bA 0=fr/\aO os.length=aB/\bA os.length=bG/\iy.length=os.length/\
   ∀i o,os[i]?=some o->iy[i]?=some (bh i)/\zH P call ops o (aO i) (bA i) (vI i) (bh i) (aO (i+1)) (bA (i+1))
 |[],fr,st,iy,bG,aB,h=>by
  simp only[uH,bQ,Yat,au,bj]at h
  obtain⟨rfl,rfl,rfl⟩:=h
  exact⟨fun _=>st,fun _=>fr,fun _=>.zgi,fun _=>⟨none,[],0,0⟩,rfl,rfl,rfl,rfl,rfl,fun i o h=>by simp at h⟩
 |o::os,fr,st,iy,bG,aB,h=>by
  simp only[lF,bQ,Bb]at h
  have go:∀(v:V) (f:FP) (cr:St) (dS:Fr) (tj:List FP),zH P call ops o st fr v f cr dS->bQ call (os.map (qF P ops)) dS cr=some (tj,bG,aB)->iy=f::tj->
    ∃(aO:Nat->St) (bA:Nat->Fr) (vI:Nat->V) (bh:Nat->FP),aO 0=st/\bA 0=fr/\aO (o::os).length=aB/\bA (o::os).length=bG/\iy.length=(o::os).length/\
     ∀i o',(o::os)[i]?=some o'->iy[i]?=some (bh i)/\zH P call ops o' (aO i) (bA i) (vI i) (bh i) (aO (i+1)) (bA (i+1)):=by
   intro v f cr dS tj hs hm hf
   obtain⟨aO,bA,vI,bh,h1,h2,h3,h4,h5,h6⟩:=Zq2 os dS cr tj bG aB hm
   refine⟨fun|0=>st|i+1=>aO i,fun|0=>fr|i+1=>bA i,fun|0=>v|i+1=>vI i,fun|0=>f|i+1=>bh i,rfl,rfl,h3,h4,by simp[hf,h5],fun i o' ho=>?_⟩
   cases i with
   |zero=>
    simp only[A5,au]at ho
    subst ho
    refine⟨by simp[hf],?_⟩
    show zH P call ops o st fr v f (aO 0) (bA 0)
    rw[h1,h2];exact hs
   |succ i=>
    obtain⟨g1,g2⟩:=h6 i o' (by simpa using ho)
    exact⟨by simpa[hf]using g1,g2⟩
  unfold qF at h
  cases hg:IB ops o.guard with
  |none=>
   rw[hg]at h
   simp only[bW,cG,Ztb]at h
   cases h
  |some g=>
   rw[hg]at h
   simp only at h
   cases hw:bW fr.r g with
   |none=>rw[hw]at h;cases h
   |some b=>
    rw[hw]at h
    cases b with
    |true=>
     simp only at h
     split at h
     ·rename_i v1 s1 hm
      split at h
      ·rename_i dS hp
       split at h
       ·rename_i tj yf fi ik
        simp only[au,bj]at h
        obtain⟨rfl,rfl,rfl⟩:=h
        exact go v1 _ _ dS tj ⟨g,true,hg,hw,hp,fun _=>⟨s1,hm,rfl,rfl⟩,fun hc=>by cases hc⟩ ik rfl
       ·cases h
      ·cases h
     ·cases h
    |false=>
     simp only at h
     split at h
     ·rename_i dS hp
      split at h
      ·rename_i tj yf fi ik
       simp only[au,bj]at h
       obtain⟨rfl,rfl,rfl⟩:=h
       exact go (.aS []) _ st dS tj ⟨g,false,hg,hw,hp,(fun hc=>by cases hc),fun _=>⟨rfl,rfl,rfl⟩⟩ ik rfl
      ·cases h
     ·cases h
def Zt6{op:gF}{s':St}(hm:cG op call fr.r {st with w:=[]}=some (v,s'))(lo hi:Nat):(oU fr.r op (aD st.n s'.w) lo hi).wr=aD st.n s'.w/\(oU fr.r op (aD st.n s'.w) lo hi).lo=lo/\(oU fr.r op (aD st.n s'.w) lo hi).hi=hi:=by
 unfold oU
 split
 ·rename_i hs
  rcases Zmh hs .nil [] hm with⟨h1,_⟩|⟨o,h1,_⟩
  ·subst h1;exact⟨rfl,rfl,rfl⟩
  ·subst h1;exact⟨rfl,rfl,rfl⟩
 ·split
  ·split<;>exact⟨rfl,rfl,rfl⟩
  ·exact⟨rfl,rfl,rfl⟩
def Zzu(b_:js P call)(hE:tN P)(hh:bk P μ w st)(hf:l9 μ fr a){ops:Array Oper}{o:Oper}{f:FP}{cr:St}{dS:Fr}(h:zH P call ops o st fr v f cr dS):
  ∃w' μ' a',bD P μ w st μ' w' cr f.wr/\l9 μ' dS a'/\f.lo=st.n/\f.hi=cr.n:=by
 obtain⟨g,b,hg,hw,hp,ht,Ou⟩:=h
 cases b with
 |true=>
  obtain⟨s',hm,rfl,rfl⟩:=ht rfl
  obtain⟨x,w',μ',ws,h1,h2⟩:=Yog b_ hE (hh.now []) hf hm
  have h3:=h2.fold hh
  obtain⟨e1,e2,e3⟩:=Zt6 (call:=call) hm st.n s'.n
  rw[e1,e2,e3]
  exact⟨w',μ',_,h3,(hf.mono (h3.mono hh)).put h1 hp,rfl,rfl⟩
 |false=>
  obtain⟨rfl,rfl,rfl⟩:=Ou rfl
  exact⟨w,μ,_,bD.refl hh,hf.put (v:=.aS []) (x:=undef) ⟨[],rfl,by simp[aW]⟩ hp,rfl,rfl⟩
structure vc (P:Program) (μ:Mu) (aO:Nat->St) (bA:Nat->Fr) (bh:Nat->FP) (N:Nat):Prop where
 iT:∀i,i<N->(aO i).n<=(aO (i+1)).n
 lo:∀i,i<N->(bh i).lo=(aO i).n
 hi:∀i,i<N->(bh i).hi=(aO (i+1)).n
 wl:∀i,i<N->(aO (i+1)).w=(bh i).wr++(aO i).w
 wlt:∀i,i<N->∀j∈(bh i).wr,j<(aO i).n
 ah:∀i,i<N->∀j,j<(aO i).n->j∉(bh i).wr->(aO (i+1)).h.get j=(aO i).h.get j
 grow:∀i,i<N->∀j o',j<(aO i).n->(aO (i+1)).h.get j=some o'->∃o,(aO i).h.get j=some o/\(o'.wr=true->o.wr=true)/\(o'.live=true->o.live=true)
 yk:∀i,i<N->∀j∈(bh i).wr,∃o,(aO i).h.get j=some o/\o.wr=true
 scr:∀i,i<=N->∀t v,(bA i).r.get t=some v->Sc (aO i).n v
 sch:∀i,i<=N->∀j,(j<(aO 0).n->∃l,μ j=some l)->j<(aO i).n->∃o μT wT lT,(aO i).h.get j=some o/\OM P μT wT o lT/\∀k l,μT k=some l->k<(aO i).n
 fn:∀i,i<=N->(bA i).n=(bA 0).n/\(bA i).marks=(bA 0).marks
def Yly{ops:Array Oper}{o:Oper}{f:FP}{cr:St}{dS:Fr}(h:zH P call ops o st fr v f cr dS):∀j∈f.wr,j<st.n:=by
 have key:∀(l:List Nat) (n j:Nat),j∈aD n l->j<n:=by
  intro l n j hj
  induction l with
  |nil=>simp[aD]at hj
  |cons i l ih=>
   simp only[aD]at hj
   split at hj
   ·unfold xr at hj
    split at hj
    ·exact ih hj
    ·simp only[ku]at hj
     rcases hj with rfl|hj
     ·assumption
     ·exact ih hj
   ·exact ih hj
 obtain⟨g,b,hg,hw,hp,ht,Ou⟩:=h
 cases b with
 |true=>
  obtain⟨s',hm,rfl,rfl⟩:=ht rfl
  rw[(Zt6 (call:=call) hm _ _).1]
  exact key _ _
 |false=>
  obtain⟨rfl,rfl,rfl⟩:=Ou rfl
  intro j hj
  simp at hj
def Ye6{d:Option Nat}(h:fr.put d v=some bG):bG.n=fr.n/\bG.marks=fr.marks:=by
 cases d with
 |none=>simp only[Fr.put,au]at h;subst h;exact⟨rfl,rfl⟩
 |some d=>
  simp only[Fr.put]at h
  split at h
  ·simp only[au]at h;subst h;exact⟨rfl,rfl⟩
  ·cases h
def Zwf(b_:js P call)(hE:tN P){ops:Array Oper}{aO:Nat->St}{bA:Nat->Fr}{vI:Nat->V}{bh:Nat->FP}{N:Nat}{os:List Oper}(hN:os.length=N)
  (hh:bk P μ w (aO 0)) (hf:l9 μ (bA 0) a) (hs:∀i o,os[i]?=some o->zH P call ops o (aO i) (bA i) (vI i) (bh i) (aO (i+1)) (bA (i+1))):
  ∀i,i<=N->∃w' μ' a' ws,bD P μ w (aO 0) μ' w' (aO i) ws/\l9 μ' (bA i) a':=by
 intro i
 induction i with
 |zero=>exact fun _=>⟨w,μ,a,[],bD.refl hh,hf⟩
 |succ i ih=>
  intro hi
  obtain⟨w',μ',a',ws,h1,h2⟩:=ih (by omega)
  have ho:os[i]?=some (os[i]'(by omega)):=eA (by omega)
  obtain⟨w2,μ2,a2,h3,h4,_⟩:=Zzu b_ hE h1.hr h2 (hs i _ ho)
  exact⟨w2,μ2,a2,_,h1.trans h3,h4⟩
def Yl3(b_:js P call)(hE:tN P){ops:Array Oper}{aO:Nat->St}{bA:Nat->Fr}{vI:Nat->V}{bh:Nat->FP}{N:Nat}{os:List Oper}(hN:os.length=N)
  (hh:bk P μ w (aO 0)) (hf:l9 μ (bA 0) a) (hs:∀i o,os[i]?=some o->zH P call ops o (aO i) (bA i) (vI i) (bh i) (aO (i+1)) (bA (i+1))):vc P μ aO bA bh N:=by
 have Pk:=Zwf b_ hE hN hh hf hs
 have cU:∀i,i<N->∃o,os[i]?=some o:=fun i hi=>⟨_,eA (by omega)⟩
 have eh:∀i,i<N->∃w1 μ1 w2 μ2 a2,bD P μ1 w1 (aO i) μ2 w2 (aO (i+1)) (bh i).wr/\l9 μ2 (bA (i+1)) a2/\(bh i).lo=(aO i).n/\(bh i).hi=(aO (i+1)).n:=fun i hi=>by
  obtain⟨w',μ',a',ws,h1,h2⟩:=Pk i (by omega)
  obtain⟨o,ho⟩:=cU i hi
  obtain⟨w2,μ2,a2,h3,h4,h5,h6⟩:=Zzu b_ hE h1.hr h2 (hs i o ho)
  exact⟨w',μ',w2,μ2,a2,h3,h4,h5,h6⟩
 refine⟨fun i hi=>?_,fun i hi=>?_,fun i hi=>?_,fun i hi=>?_,fun i hi=>?_,fun i hi=>?_,fun i hi=>?_,fun i hi=>?_,fun i hi t v hv=>?_,fun i hi j hj IE=>?_,fun i=>?_⟩
 ·obtain⟨_,_,_,_,_,h,_⟩:=eh i hi;exact h.iT
 ·obtain⟨_,_,_,_,_,_,_,h,_⟩:=eh i hi;exact h
 ·obtain⟨_,_,_,_,_,_,_,_,h⟩:=eh i hi;exact h
 ·obtain⟨_,_,_,_,_,h,_⟩:=eh i hi;exact h.wl
 ·obtain⟨o,ho⟩:=cU i hi;exact Yly (hs i o ho)
 ·obtain⟨_,_,_,_,_,h,_⟩:=eh i hi;exact h.ah
 ·obtain⟨_,_,_,_,_,h,_⟩:=eh i hi;exact h.grow
 ·obtain⟨o,ho⟩:=cU i hi
  obtain⟨_,_,_,_,_,h,_⟩:=eh i hi
  exact fun j hj=>h.yk j hj (Yly (hs i o ho) j hj)
 ·obtain⟨w',μ',a',ws,h1,h2⟩:=Pk i hi
  obtain⟨x,_,hx⟩:=h2.1.2 t v hv
  exact VR.sc (fun k l hk=>(h1.hr.dc k l hk).1) v x hx
 ·obtain⟨w',μ',a',ws,h1,h2⟩:=Pk i hi
  have hl:∃l,μ' j=some l:=by
   by_cases h0:j<(aO 0).n
   ·obtain⟨l,hl⟩:=hj h0
    exact⟨l,(h1.ext j h0).trans hl⟩
   ·exact h1.full j (by omega) IE
  obtain⟨l,hl⟩:=hl
  obtain⟨o,A1,xz⟩:=h1.hr.obj j l hl
  exact⟨o,μ',w',l,A1,xz,fun k l hk=>(h1.hr.dc k l hk).1⟩
 ·induction i with
  |zero=>exact fun _=>⟨rfl,rfl⟩
  |succ i ih=>
   intro hi
   obtain⟨o,ho⟩:=cU i (by omega)
   obtain⟨g,b,_,_,hp,_⟩:=hs i o ho
   obtain⟨e1,e2⟩:=Ye6 hp
   obtain⟨f1,f2⟩:=ih (by omega)
   exact⟨e1.trans f1,e2.trans f2⟩
end
def u9(aO:Nat->St)(bh:Nat->FP)(k j:Nat):Prop:=j∈(bh k).wr\/((aO k).n<=j/\j<(aO (k+1)).n)
instance (aO:Nat->St) (bh:Nat->FP) (k j:Nat):Decidable (u9 aO bh k j):=by unfold u9;infer_instance
def jK(aO:Nat->St)(bh:Nat->FP)(S:Nat->Bool):Nat->Nat->Option O
 |0,j=>(aO 0).h.get j
 |k+1,j=>if S k=true/\u9 aO bh k j then (aO (k+1)).h.get j else jK aO bh S k j
def u_(bA:Nat->Fr)(ds:Nat->Option Nat)(S:Nat->Bool):Nat->Nat->Option V
 |0,t=>(bA 0).r.get t
 |k+1,t=>if S k=true/\ds k=some t then (bA (k+1)).r.get t else u_ bA ds S k t
def me(S:Nat->Bool)(i:Nat):Nat->Bool:=fun k=>if k=i then true else S k
section
variable {P:Program} {μ:Mu} {aO:Nat->St} {bA:Nat->Fr} {bh:Nat->FP} {ds:Nat->Option Nat} {S:Nat->Bool} {N:Nat}
def Zp4(T:vc P μ aO bA bh N):∀{i j:Nat},i<=N->j<(aO i).n->(∀k,k<i->u9 aO bh k j->S k=true)->jK aO bh S i j=(aO i).h.get j
 |0,j,_,_,_=>rfl
 |i+1,j,hi,hj,h=>by
  simp only[jK]
  by_cases ht:u9 aO bh i j
  ·rw[aQ ⟨h i (by omega) ht,ht⟩]
  ·rw[aA (fun hc=>ht hc.2)]
   simp only[u9,not_or,not_and,xC]at ht
   have aP:j<(aO i).n:=by
    rcases Nat.lt_or_ge j (aO i).n with h1|h1
    ·exact h1
    ·have:=ht.2 h1;omega
   rw[Zp4 T (by omega) aP fun k hk=>h k (by omega),T.ah i (by omega) j aP ht.1]
def SR:∀{M i j:Nat},i<=M->(∀k,i<=k->k<M->u9 aO bh k j->S k=false)->jK aO bh S M j=jK aO bh S i j
 |0,i,j,hi,_=>by rw[Nat.le_zero.1 hi]
 |M+1,i,j,hi,h=>by
  by_cases e:i=M+1
  ·rw[e]
  ·simp only[jK]
   rw[aA,SR (by omega) fun k h1 h2=>h k h1 (by omega)]
   rintro⟨h1,h2⟩
   rw[h M (by omega) (by omega) h2]at h1;cases h1
def Zhh{i:Nat}:∀{M j:Nat},¬u9 aO bh i j->jK aO bh (me S i) M j=jK aO bh S M j
 |0,j,_=>rfl
 |M+1,j,h=>by
  simp only[jK]
  rw[Zhh h]
  by_cases e:M=i
  ·subst e
   rw[aA (fun hc=>h hc.2),aA (fun hc=>h hc.2)]
  ·simp only[me,e,if_false]
def Ydc{i j:Nat}(hi:i<N)(ht:u9 aO bh i j)(h:∀k,i<k->k<N->u9 aO bh k j->S k=false):jK aO bh (me S i) N j=(aO (i+1)).h.get j:=by
 rw[SR (i:=i+1) (by omega) fun k h1 h2 h3=>by simp only[me];rw[aA (by omega)];exact h k (by omega) h2 h3]
 simp only[jK,me]
 rw[aQ ⟨by simp,ht⟩]
def Jk(bA:Nat->Fr)(ds:Nat->Option Nat)(vI:Nat->V)(N:Nat):Prop:=∀i,i<N->∀t,(bA (i+1)).r.get t=if ds i=some t then some (vI i) else (bA i).r.get t
def Zp3{vI:Nat->V}(T:Jk bA ds vI N):∀{i t:Nat},i<=N->(∀k,k<i->ds k=some t->S k=true)->u_ bA ds S i t=(bA i).r.get t
 |0,t,_,_=>rfl
 |i+1,t,hi,h=>by
  simp only[u_]
  by_cases ht:ds i=some t
  ·rw[aQ ⟨h i (by omega) ht,ht⟩]
  ·rw[aA (fun hc=>ht hc.2),Zp3 T (by omega) fun k hk=>h k (by omega),T i (by omega) t,aA ht]
def SS:∀{M i t:Nat},i<=M->(∀k,i<=k->k<M->ds k=some t->S k=false)->u_ bA ds S M t=u_ bA ds S i t
 |0,i,t,hi,_=>by rw[Nat.le_zero.1 hi]
 |M+1,i,t,hi,h=>by
  by_cases e:i=M+1
  ·rw[e]
  ·simp only[u_]
   rw[aA,SS (by omega) fun k h1 h2=>h k h1 (by omega)]
   rintro⟨h1,h2⟩
   rw[h M (by omega) (by omega) h2]at h1;cases h1
def Zhg{i:Nat}:∀{M t:Nat},ds i≠some t->u_ bA ds (me S i) M t=u_ bA ds S M t
 |0,t,_=>rfl
 |M+1,t,h=>by
  simp only[u_]
  rw[Zhg h]
  by_cases e:M=i
  ·subst e
   rw[aA (fun hc=>h hc.2),aA (fun hc=>h hc.2)]
  ·simp only[me,e,if_false]
def Ydb{vI:Nat->V}(T:Jk bA ds vI N){i t:Nat}(hi:i<N)(ht:ds i=some t)(h:∀k,i<k->k<N->ds k=some t->S k=false):u_ bA ds (me S i) N t=some (vI i):=by
 rw[SS (i:=i+1) (by omega) fun k h1 h2 h3=>by simp only[me];rw[aA (by omega)];exact h k (by omega) h2 h3]
 simp only[u_,me]
 rw[aQ ⟨by simp,ht⟩,T i hi t,aQ ht]
def zD(r:T V):List Nat->T V
 |[]=>.nil
 |t::ts=>match r.get t with
  |some v=>(zD r ts).set t v
  |none=>zD r ts
def On(r:T V):∀(ts:List Nat) (t:Nat),(zD r ts).get t=if t∈ts then r.get t else none
 |[],t=>by simp[zD,T.get]
 |u::ts,t=>by
  simp only[zD]
  split
  ·rename_i v hv
   rw[T.aj,On r ts t]
   by_cases e:t=u
   ·subst e;simp[hv]
   ·simp[e]
  ·rename_i hv
   rw[On r ts t]
   by_cases e:t=u
   ·subst e;simp[hv]
   ·simp[e]
def Yk5{r:T V}{ts:List Nat}{s:Src}(h:∀t∈s.tmps,t∈ts):s.ev (zD r ts)=s.ev r:=by
 cases s with
 |const v=>rfl
 |tmp t=>simp only[Src.ev];rw[On,aQ (h t (by simp[Src.tmps]))]
def qW(h:T O)(ah:List Nat):Nat->T O
 |0=>.nil
 |n+1=>match h.get n with
  |some o=>(qW h ah n).set n (if n∈ah then o else .dead)
  |none=>qW h ah n
def LX(h:T O)(ah:List Nat):∀(n j:Nat),(qW h ah n).get j=if j<n then (h.get j).map fun o=>if j∈ah then o else .dead else none
 |0,j=>by simp[qW,T.get]
 |n+1,j=>by
  simp only[qW]
  split
  ·rename_i o ho
   rw[T.aj,LX h ah n j]
   by_cases e:j=n
   ·subst e;simp[ho]
   ·rw[aA e]
    by_cases e2:j<n
    ·rw[aQ e2,aQ (by omega)]
    ·rw[aA e2,aA (by omega)]
  ·rename_i ho
   rw[LX h ah n j]
   by_cases e:j=n
   ·subst e;simp[ho]
   ·by_cases e2:j<n
    ·rw[aQ e2,aQ (by omega)]
    ·rw[aA e2,aA (by omega)]
def FP.du(f:FP)(j:Nat):Prop:=
 match f.rd with
 |none=>True
 |some l=>j∈l
def Yab{st σ:St}{i:Nat}(h:σ.h.get i=st.h.get i):σ.row i=st.row i:=by unfold St.row;rw[h]
def Yfw{call:cM}{r:T V}{op:gF}{st s':St}{v:V}{ws:List Nat}{lo hi:Nat}(hm:cG op call r {st with w:=[]}=some (v,s'))(fZ:lo=st.n):
  ∃σ σ',σ.n=st.n/\σ.w=[]/\cG op call r σ=some (v,σ')/\σ'.n=s'.n/\σ'.w=s'.w/\
   (∀j,j<st.n->(oU r op ws lo hi).du j->σ.h.get j=st.h.get j)/\(∀j,j<st.n->¬(oU r op ws lo hi).du j->σ.h.get j=(st.h.get j).map fun _=>.dead)/\
   (∀j,((oU r op ws lo hi).du j/\j<st.n)\/(st.n<=j/\j<s'.n)->σ'.h.get j=s'.h.get j)/\(∀j∈s'.w,(oU r op ws lo hi).du j):=by
 by_cases hs:op.nY=true
 ·have hf:oU r op ws lo hi=⟨some [],[],lo,hi⟩:=by unfold oU;rw[aQ hs]
  rw[hf]
  have hd:∀j,j<st.n->(qW st.h [] st.n).get j=(st.h.get j).map fun _=>.dead:=fun j hj=>by
   rw[LX,aQ hj];simp
  rcases Zmh hs (qW st.h [] st.n) [] hm with⟨h1,h2⟩|⟨o,h1,h2⟩
  ·subst h1
   exact⟨⟨qW st.h [] st.n,st.n,[]⟩,_,rfl,rfl,h2,rfl,rfl,fun j _ hj=>by simp[FP.du]at hj,fun j hj _=>hd j hj,fun j hj=>by
    rcases hj with⟨hj,_⟩|⟨h1,h2⟩
    ·simp[FP.du]at hj
    ·simp only at h2;omega,fun j hj=>by simp at hj⟩
  ·subst h1
   refine⟨⟨qW st.h [] st.n,st.n,[]⟩,_,rfl,rfl,h2,rfl,rfl,fun j _ hj=>by simp[FP.du]at hj,fun j hj _=>hd j hj,fun j hj=>?_,fun j hj=>by simp[St.alloc]at hj⟩
   rcases hj with⟨hj,_⟩|⟨h1,h2⟩
   ·simp[FP.du]at hj
   ·simp only[St.alloc]at h2 ⊢
    have:j=st.n:=by omega
    subst this
    rw[T.aj,T.aj,aQ rfl,aQ rfl]
 ·cases hl:SP r op with
  |none=>
   have hf:oU r op ws lo hi=⟨none,ws,lo,hi⟩:=by unfold oU;rw[aA hs,hl]
   rw[hf]
   exact⟨{st with w:=[]},s',rfl,rfl,hm,rfl,rfl,fun _ _ _=>rfl,fun _ _ hj=>absurd trivial hj,fun _ _=>rfl,fun _ _=>trivial⟩
  |some i=>
   by_cases jx:i<st.n
   case neg=>
    have hf:oU r op ws lo hi=⟨none,ws,lo,hi⟩:=by unfold oU;rw[aA hs,hl];simp only[];rw[aA (by rw[fZ];simpa[Nat.blt_eq]using jx)]
    rw[hf]
    exact⟨{st with w:=[]},s',rfl,rfl,hm,rfl,rfl,fun _ _ _=>rfl,fun _ _ hj=>absurd trivial hj,fun _ _=>rfl,fun _ _=>trivial⟩
   have hf:oU r op ws lo hi=⟨some [i],ws,lo,hi⟩:=by unfold oU;rw[aA hs,hl];simp only[];rw[aQ (by rw[fZ];simpa[Nat.blt_eq]using jx)]
   rw[hf]
   have hk:(qW st.h [i] st.n).get i=st.h.get i:=by
    rw[LX,aQ jx]
    cases st.h.get i<;>simp
   have hd:∀j,j<st.n->¬(j∈[i])->(qW st.h [i] st.n).get j=(st.h.get j).map fun _=>.dead:=fun j hj hn=>by
    rw[LX,aQ hj];simp only[hn,if_false]
   have aM:(⟨qW st.h [i] st.n,st.n,[]⟩:St).row i=St.row {st with w:=[]} i:=Yab hk
   cases op<;>simp only[SP,reduceCtorEq]at hl
   case load k x=>
    split at hl
    ·rename_i i' o hx
     simp only[au]at hl;subst hl
     simp only[cG,Zip,hx]at hm ⊢
     split at hm
     ·rename_i c e BW hr
      split at hm
      ·rename_i u hu
       simp only[au,bj]at hm
       obtain⟨rfl,rfl⟩:=hm
       refine⟨⟨qW st.h [i'] st.n,st.n,[]⟩,⟨qW st.h [i'] st.n,st.n,[]⟩,rfl,rfl,?_,rfl,rfl,fun j _ hj=>?_,fun j hj hn=>hd j hj hn,fun j hj=>?_,fun j hj=>by simp at hj⟩
       ·rw[aM,hr];simp only[hu]
       ·simp only[FP.du,xZ]at hj;subst hj;exact hk
       ·rcases hj with⟨hj,_⟩|⟨h1,h2⟩
        ·simp only[FP.du,xZ]at hj;subst hj;exact hk
        ·simp only at h2;omega
      ·cases hm
     ·cases hm
    ·cases hl
   case store k x y=>
    split at hl
    ·rename_i i' o hx
     simp only[au]at hl;subst hl
     simp only[cG,DO,hx]at hm ⊢
     split at hm
     ·rename_i i2 o2 u Lu hu
      simp only[au,V.ptr.injEq]at Lu
      obtain⟨rfl,rfl⟩:=Lu
      split at hm
      ·rename_i c e hr
       split at hm
       ·rename_i hc
        simp only[au,bj]at hm
        obtain⟨rfl,rfl⟩:=hm
        refine⟨⟨qW st.h [i'] st.n,st.n,[]⟩,St.write ⟨qW st.h [i'] st.n,st.n,[]⟩ i' (.cells (ag c o u.cells) e true),rfl,rfl,?_,rfl,rfl,fun j _ hj=>?_,fun j hj hn=>hd j hj hn,fun j hj=>?_,fun j hj=>?_⟩
        ·rw[aM,hr]
         simp only[aQ hc]
        ·simp only[FP.du,xZ]at hj;subst hj;exact hk
        ·rcases hj with⟨hj,_⟩|⟨h1,h2⟩
         ·simp only[FP.du,xZ]at hj;subst hj
          simp only[St.write,T.aj,if_true]
         ·simp only[St.write]at h2;omega
        ·simpa[FP.du,St.write]using hj
       ·cases hm
      ·cases hm
     ·cases hm
    ·cases hl
end
end Go.Mx
