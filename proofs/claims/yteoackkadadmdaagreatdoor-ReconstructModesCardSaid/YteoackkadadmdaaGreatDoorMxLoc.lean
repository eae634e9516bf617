/-What an operation of M looks at-/
import Derived.Test.YteoackkadadmdaaGreatDoorMxWp
set_option linter.all false
namespace Go.Mx
open Go
section
variable {r r' : T V} {st : St} {call : cG}
def Gs : ∀ {l : List Src}, (∀ s ∈ l, s.ev r = s.ev r') -> tN r l = tN r' l
  | [], _ => rfl
  | s :: l, h => by
    simp only [tN]
    rw [h s (by simp), Gs fun s hs => h s (by simp [hs])]
def D6 {o : Option Src} (h : ∀ s ∈ AR o, s.ev r = s.ev r') : aC r o = aC r' o := by
  cases o with
  | none => rfl
  | some s => simp only [aC]; rw [h s (by simp [AR])]
def UR : ∀ {l : List (Nat × Nat × Src)}, (∀ s ∈ l.map (·.2.2), s.ev r = s.ev r') -> AN r l = AN r' l
  | [], _ => rfl
  | (o, k, s) :: l, h => by
    simp only [AN]
    rw [h s (by simp), UR fun s hs => h s (by simp only [my, kv]; exact .inr hs)]
def Yc3 {op : fX} (h : ∀ s ∈ op.B2, s.ev r = s.ev r') : ct op call r st = ct op call r' st := by
  cases op <;> simp only [fX.B2, kv, List.not_mem_nil, or_false, forall_eq_or_imp, forall_eq, kb] at h <;> simp only [ct]
  case build z ps => simp only [BV, UR h]
  case aV e s l z ps => simp only [FU, UR h]
  case cP f a c => simp only [F3, Gs fun s hs => h s (.inl hs), Gs fun s hs => h s (.inr hs)]
  case aD x lo hi => simp only [yt, h.1, D6 fun s hs => h.2 s (.inl hs), D6 fun s hs => h.2 s (.inr hs)]
  case cQ z x lo hi m => simp only [pC, h.1, D6 fun s hs => h.2 s (.inl (.inl hs)), D6 fun s hs => h.2 s (.inl (.inr hs)), D6 fun s hs => h.2 s (.inr hs)]
  case du k z x lo hi m => simp only [zr, h.1, D6 fun s hs => h.2 s (.inl (.inl hs)), D6 fun s hs => h.2 s (.inl (.inr hs)), D6 fun s hs => h.2 s (.inr hs)]
  case mn l => simp only [yu, Gs h]
  case mx l => simp only [qy, Gs h]
  case call f l => simp only [yv, h.1, Gs fun s hs => h.2 s hs]
  case ext e l => simp only [Ga, Gs h]
  all_goals
    first
      | rfl
      | (simp only [FR, FT, FV, FW, FY, FZ, Iu, DF, F0, Iv, DG, F4, F5, F7, F8, F9, xL, Iy, Iz, B0, IA, h]; done)
      | (simp only [DD, DE, FX, BW, BX, DH, Ix, DI, F6, DJ, ZP, T3, BY, BZ, IB, h.1, h.2]; done)
      | (simp only [DD, DJ, T3, h.1, h.2.1, h.2.2]; done)
def Zng {op : fX} (hs : op.nJ = true) (h' : T O) (l' : List Nat) {v : V} {aB : St} (h : ct op call r st = some (v, aB)) :
    (aB = st /\ ct op call r ⟨h', st.n, l'⟩ = some (v, ⟨h', st.n, l'⟩)) \/ ∃ o, aB = st.alloc o /\ ct op call r ⟨h', st.n, l'⟩ = some (v, St.alloc ⟨h', st.n, l'⟩ o) := by
  cases op <;> simp only [fX.nJ, fF] at hs <;> simp only [ct] at h ⊢
  case bY e z b zs x y =>
    unfold BW at *
    split at h
    · rename_i ha hb
      split at h
      · rename_i hc
        simp only [al, bF] at h
        obtain ⟨rfl, rfl⟩ := h
        refine .inr ⟨_, rfl, ?_⟩
        rw [aF hc]
      · cases h
    · cases h
  case bin b t ng x y =>
    refine .inl ?_
    unfold FX at *
    split at h
    · cases b <;> first | (cases hs; done) | (simp only [OA, reduceCtorEq] at h)
    · split at h
      · rename_i hm
        simp only [al, bF] at h
        obtain ⟨rfl, rfl⟩ := h
        exact ⟨rfl, by simp_all⟩
      · cases h
    · cases h
  all_goals
    first
      | unfold FR at * | unfold DD at * | unfold It at * | unfold FT at * | unfold BV at * | unfold FU at * | unfold FW at * | unfold FY at * | unfold FZ at * | unfold Iu at * | unfold DF at * | unfold Iv at * | unfold F3 at * | unfold Iw at * | unfold DG at * | unfold BW at * | unfold yt at * | unfold F4 at * | unfold F5 at * | unfold BX at * | unfold DH at * | unfold Ix at * | unfold DI at * | unfold F7 at * | unfold F9 at * | unfold Ki at * | unfold Iy at * | unfold yu at * | unfold qy at * | unfold Ga at *
  all_goals
    repeat' split at h
    all_goals
      first
        | (cases h; done)
        | (simp only [al, bF] at h
           obtain ⟨rfl, rfl⟩ := h
           first
             | (refine .inl ⟨rfl, ?_⟩; simp_all; done)
             | (refine .inr ⟨_, rfl, ?_⟩; simp_all; done))
def Zsg {α : Type} {p : α -> α -> Bool} {f : α} {m : Nat} : ∀ {seen : List α} {j : Nat}, seen.length = j -> cA.cB p f m (j - 1) seen = true -> ∀ i, i < j -> ∀ g, seen[j - 1 - i]? = some g -> m.testBit i = true \/ p g f = true
  | [], j, hl, _, i, hi, g, hg => by simp at hg
  | g0 :: seen, j, hl, h, i, hi, g, hg => by
    simp only [cA.cB, ib, FM] at h
    simp only [bD] at hl
    by_cases e : i = j - 1
    · subst e
      simp only [Nat.sub_self, AL, al] at hg
      subst hg
      exact h.1
    · have h2 := Zsg (j := j - 1) (by omega) h.2 i (by omega) g
      refine h2 ?_
      rw [show j - 1 - i = (j - 1 - 1 - i) + 1 by omega] at hg
      simpa using hg
def Zwm {α : Type} {p : α -> α -> Bool} : ∀ {fs : List α} {ms : List Nat} {j : Nat} {seen : List α}, seen.length = j -> cA.go p fs ms j seen = true ->
    ∀ (b i : Nat) (f g : α), fs[b]? = some f -> i < j + b -> (seen.reverse ++ fs)[i]? = some g -> (ms.getD b 0).testBit i = true \/ p g f = true
  | [], ms, j, seen, hl, _, b, i, f, g, hf, _, _ => by simp at hf
  | f0 :: fs, ms, j, seen, hl, h, b, i, f, g, hf, hi, hg => by
    simp only [cA.go, ib] at h
    cases b with
    | zero =>
      simp only [AL, al] at hf
      subst hf
      have hm : ms.getD 0 0 = ms.headD 0 := by cases ms <;> rfl
      rw [hm]
      refine Zsg hl h.1 i (by omega) g ?_
      rw [lE (by simp; omega), List.getElem?_reverse (by omega)] at hg
      rw [<- hl]; exact hg
    | succ b =>
      have hm : ms.getD (b + 1) 0 = ms.tail.getD b 0 := by cases ms <;> simp
      rw [hm]
      refine Zwm (j := j + 1) (seen := f0 :: seen) (by simp [hl]) h.2 b i f g (by simpa using hf) (by omega) ?_
      simpa using hg
def Vi {α : Type} {p : α -> α -> Bool} {xs : List α} {ms : List Nat} (h : cA p xs ms = true) {i j : Nat} {a b : α} (hij : i < j) (ha : xs[i]? = some a) (hb : xs[j]? = some b) : (ms.getD j 0).testBit i = true \/ p a b = true :=
  Zwm (seen := []) rfl h j i b a hb (by omega) (by simpa using ha)
def US : ∀ (os : List Oper) (acc : List Nat) (k : Nat), k < acc.length -> (uE os acc).getD k 0 = acc.getD k 0
  | [], acc, k, _ => rfl
  | o :: os, acc, k, h => by
    simp only [uE]
    rw [US os _ k (by simp; omega)]
    simp only [List.getD_eq_getElem?_getD]
    rw [lE h]
def Zn5 : ∀ (os : List Oper) (acc : List Nat) (j : Nat) (o : Oper), os[j]? = some o ->
    ∃ pre : List Nat, pre.length = acc.length + j /\ (uE os acc).getD (acc.length + j) 0 = J9 o pre /\ ∀ k, k < acc.length + j -> (uE os acc).getD k 0 = pre.getD k 0
  | [], acc, j, o, h => by simp at h
  | o0 :: os, acc, 0, o, h => by
    simp only [AL, al] at h
    subst h
    refine ⟨acc, rfl, ?_, fun k hk => ?_⟩
    · simp only [uE]
      rw [US os _ _ (by simp)]
      simp [List.getD_eq_getElem?_getD]
    · exact US (o0 :: os) acc k hk
  | o0 :: os, acc, j + 1, o, h => by
    obtain ⟨pre, h1, h2, h3⟩ := Zn5 os (acc ++ [J9 o0 acc]) j o (by simpa using h)
    simp only [iN, bD, List.length_nil] at h1 h2 h3
    refine ⟨pre, by omega, ?_, ?_⟩
    · rw [show acc.length + (j + 1) = acc.length + (0 + 1) + j by omega]; exact h2
    · intro k hk; exact h3 k (by omega)
def Zzh {o : Oper} {ms : List Nat} {i : Nat} (h : (J9 o ms).testBit i = true) : ∃ e ∈ o.after, Region.binds .any e = true /\ (i = e.on \/ (ms.getD e.on 0).testBit i = true) := by
  have key : ∀ (l : List Edge) (s : Nat), (l.foldl (fun s e => if Region.binds .any e then s ||| 2 ^ e.on ||| ms.getD e.on 0 else s) s).testBit i = true ->
      s.testBit i = true \/ ∃ e ∈ l, Region.binds .any e = true /\ (i = e.on \/ (ms.getD e.on 0).testBit i = true) := by
    intro l
    induction l with
    | nil => intro s h; exact .inl h
    | cons e l ih =>
      intro s h
      simp only [List.foldl_cons] at h
      rcases ih _ h with h | ⟨e', h1, h2⟩
      · split at h
        · rename_i hb
          simp only [Nat.testBit_or, FM] at h
          rcases h with (h | h) | h
          · exact .inl h
          · rw [Nat.testBit_two_pow] at h
            exact .inr ⟨e, by simp, hb, .inl (by simpa using (of_decide_eq_true h).symm)⟩
          · exact .inr ⟨e, by simp, hb, .inr h⟩
        · exact .inl h
      · exact .inr ⟨e', by simp [h1], h2⟩
  unfold J9 at h
  rw [<- Array.foldl_toList] at h
  rcases key _ _ h with h | ⟨e, h1, h2⟩
  · simp at h
  · exact ⟨e, by simpa using h1, h2⟩
def Yh7 {ops : Array Oper} {j i : Nat} {o : Oper} (ho : ops[j]? = some o) (h : ((uE ops.toList []).getD j 0).testBit i = true) :
    ∃ e ∈ o.after, Region.binds .any e = true /\ (i = e.on \/ ((uE ops.toList []).getD e.on 0).testBit i = true) := by
  obtain ⟨pre, h1, h2, h3⟩ := Zn5 ops.toList [] j o (by rw [BK]; exact ho)
  simp only [List.length_nil, xJ] at h1 h2 h3
  rw [h2] at h
  obtain ⟨e, g1, g2, g3⟩ := Zzh h
  refine ⟨e, g1, g2, g3.imp id fun hb => ?_⟩
  by_cases he : e.on < j
  · rw [h3 _ he]; exact hb
  · have : pre.getD e.on 0 = 0 := by simp [List.getD_eq_getElem?_getD, h1, yp he]
    rw [this] at hb; simp at hb
def UO (ops : Array Oper) (S : Nat -> Prop) : Prop := ∀ k i, S k -> ((uE ops.toList []).getD k 0).testBit i = true -> S i
def UP {ops : Array Oper} {listed : Array Bool} (hc : UO ops (fun k => listed.getD k false = true)) {j : Nat} (hj : j ∈ Region.ready .any ops listed) :
    j < ops.size /\ listed.getD j true = false /\ ∀ i, ((uE ops.toList []).getD j 0).testBit i = true -> listed.getD i false = true := by
  unfold Region.ready at hj
  simp only [List.mem_filter, yb, ib, FL] at hj
  obtain ⟨h1, h2, h3⟩ := hj
  refine ⟨h1, h2, fun i hi => ?_⟩
  have ho : ops[j]? = some ops[j] := Array.getElem?_eq_getElem h1
  obtain ⟨e, g1, g2, g3⟩ := Yh7 ho hi
  rw [ho] at h3
  simp only [xz, rM, TX, FM, FL] at h3
  have he : listed.getD e.on false = true := by
    rcases h3 e g1 with h | h
    · rw [g2] at h; cases h
    · exact h
  rcases g3 with rfl | g3
  · exact he
  · exact hc _ _ he g3
mutual
def Sc (n : Nat) : V -> Prop
  | .ptr i _ => i < n
  | .slice i _ _ _ _ => i < n
  | .map i => i < n
  | .chan i => i < n
  | .func _ a c => D7 n a /\ D7 n c
  | .yield i => i < n
  | .iface _ v => Sc n v
  | .agg l => D7 n l
  | .bg l => D7 n l
  | _ => True
def D7 (n : Nat) : List V -> Prop
  | [] => True
  | v :: vs => Sc n v /\ D7 n vs
end
mutual
def VR.sc {μ : Mu} {n : Nat} (h : ∀ i l, μ i = some l -> i < n) : ∀ (v : V) (x : Value), VR μ v x -> Sc n v
  | .bool _, _, _ => by simp [Sc]
  | .int _ _, _, _ => by simp [Sc]
  | .uB _ _, _, _ => by simp [Sc]
  | .str _, _, _ => by simp [Sc]
  | .bN, _, _ => by simp [Sc]
  | .ptr _ _, _, hx => by simp only [VR] at hx; obtain ⟨l, h1, _⟩ := hx; exact h _ _ h1
  | .aa, _, _ => by simp [Sc]
  | .slice _ _ _ _ _, _, hx => by simp only [VR] at hx; obtain ⟨l, c, h1, _⟩ := hx; exact h _ _ h1
  | .empty, _, _ => by simp [Sc]
  | .bW, _, _ => by simp [Sc]
  | .map _, _, hx => by simp only [VR] at hx; obtain ⟨l, h1, _⟩ := hx; exact h _ _ h1
  | .bZ, _, _ => by simp [Sc]
  | .chan _, _, hx => by simp only [VR] at hx; obtain ⟨l, h1, _⟩ := hx; exact h _ _ h1
  | .func _ a c, _, hx => by
    simp only [VR] at hx; obtain ⟨a', c', _, h2, h3⟩ := hx
    exact ⟨bb.sc h a a' h2, bb.sc h c c' h3⟩
  | .yield _, _, hx => by simp only [VR] at hx; obtain ⟨l, h1, _⟩ := hx; exact h _ _ h1
  | .bs, _, _ => by simp [Sc]
  | .iface _ v, _, hx => by simp only [VR] at hx; obtain ⟨y, _, h2⟩ := hx; exact VR.sc h v y h2
  | .aY, _, _ => by simp [Sc]
  | .agg vs, _, hx => by simp only [VR] at hx; obtain ⟨a, _, h2⟩ := hx; exact bb.sc h vs a h2
  | .bg vs, _, hx => by simp only [VR] at hx; obtain ⟨a, _, h2⟩ := hx; exact bb.sc h vs a h2
def bb.sc {μ : Mu} {n : Nat} (h : ∀ i l, μ i = some l -> i < n) : ∀ (vs : List V) (xs : List Value), bb μ vs xs -> D7 n vs
  | [], _, _ => trivial
  | v :: vs, _, hx => by
    simp only [bb] at hx
    obtain ⟨y, ys, _, h2, h3⟩ := hx
    exact ⟨VR.sc h v y h2, bb.sc h vs ys h3⟩
end
mutual
def VR.cut {μ μ' : Mu} {n : Nat} (h : ∀ i l, i < n -> μ i = some l -> μ' i = some l) : ∀ (v : V) (x : Value), Sc n v -> VR μ v x -> VR μ' v x
  | .bool _, _, _, hx => by simpa [VR] using hx
  | .int _ _, _, _, hx => by simpa [VR] using hx
  | .uB _ _, _, _, hx => by simpa [VR] using hx
  | .str _, _, _, hx => by simpa [VR] using hx
  | .bN, _, _, hx => by simpa [VR] using hx
  | .ptr _ _, _, hs, hx => by simp only [VR, Sc] at *; obtain ⟨l, h1, h2⟩ := hx; exact ⟨l, h _ _ hs h1, h2⟩
  | .aa, _, _, hx => by simpa [VR] using hx
  | .slice _ _ _ _ _, _, hs, hx => by simp only [VR, Sc] at *; obtain ⟨l, c, h1, h2⟩ := hx; exact ⟨l, c, h _ _ hs h1, h2⟩
  | .empty, _, _, hx => by simpa [VR] using hx
  | .bW, _, _, hx => by simpa [VR] using hx
  | .map _, _, hs, hx => by simp only [VR, Sc] at *; obtain ⟨l, h1, h2⟩ := hx; exact ⟨l, h _ _ hs h1, h2⟩
  | .bZ, _, _, hx => by simpa [VR] using hx
  | .chan _, _, hs, hx => by simp only [VR, Sc] at *; obtain ⟨l, h1, h2⟩ := hx; exact ⟨l, h _ _ hs h1, h2⟩
  | .func _ a c, _, hs, hx => by
    simp only [VR, Sc] at *; obtain ⟨a', c', h1, h2, h3⟩ := hx
    exact ⟨a', c', h1, bb.cut h a a' hs.1 h2, bb.cut h c c' hs.2 h3⟩
  | .yield _, _, hs, hx => by simp only [VR, Sc] at *; obtain ⟨l, h1, h2⟩ := hx; exact ⟨l, h _ _ hs h1, h2⟩
  | .bs, _, _, hx => by simpa [VR] using hx
  | .iface _ v, _, hs, hx => by simp only [VR, Sc] at *; obtain ⟨y, h1, h2⟩ := hx; exact ⟨y, h1, VR.cut h v y hs h2⟩
  | .aY, _, _, hx => by simpa [VR] using hx
  | .agg vs, _, hs, hx => by simp only [VR, Sc] at *; obtain ⟨a, h1, h2⟩ := hx; exact ⟨a, h1, bb.cut h vs a hs h2⟩
  | .bg vs, _, hs, hx => by simp only [VR, Sc] at *; obtain ⟨a, h1, h2⟩ := hx; exact ⟨a, h1, bb.cut h vs a hs h2⟩
def bb.cut {μ μ' : Mu} {n : Nat} (h : ∀ i l, i < n -> μ i = some l -> μ' i = some l) : ∀ (vs : List V) (xs : List Value), D7 n vs -> bb μ vs xs -> bb μ' vs xs
  | [], _, _, hx => by simpa [bb] using hx
  | v :: vs, _, hs, hx => by
    simp only [bb, D7] at *
    obtain ⟨y, ys, h1, h2, h3⟩ := hx
    exact ⟨y, ys, h1, VR.cut h v y hs.1 h2, bb.cut h vs ys hs.2 h3⟩
end
def OM.cut {P : Program} {μ μ' μT : Mu} {w wT : World} {n : Nat} (h : ∀ i l, i < n -> μ i = some l -> μ' i = some l) (hT : ∀ i l, μT i = some l -> i < n) {o : O} {l lT : L} (ht : OM P μT wT o lT) (ho : OM P μ w o l) : OM P μ' w o l := by
  cases o with
  | cells c e rw =>
    obtain ⟨c', lo, hi, h1, h2, h3, h4, h5⟩ := ho
    obtain ⟨cT, _, _, _, _, _, t4, _⟩ := ht
    exact ⟨c', lo, hi, h1, h2, h3, fun j v hv => by
      obtain ⟨x, a, b⟩ := h4 j v hv
      obtain ⟨xT, _, bT⟩ := t4 j v hv
      exact ⟨x, a, VR.cut h v x (VR.sc hT v xT bT) b⟩, h5⟩
  | map es =>
    obtain ⟨gJ, h1, h2⟩ := ho
    obtain ⟨esT, _, t2⟩ := ht
    refine ⟨gJ, h1, ?_⟩
    have : ∀ (es : List (V × V)) (xs xT : List MapEntry) (b bT : Nat), iD μ es xs b -> iD μT es xT bT -> iD μ' es xs b := by
      intro es
      induction es with
      | nil => intro xs xT b bT h1 _; exact h1
      | cons p es ih =>
        intro xs xT b bT h1 h2
        obtain ⟨k, u⟩ := p
        obtain ⟨e, ys, rfl, a1, a2, a3, a4⟩ := h1
        obtain ⟨eT, yT, rfl, b1, b2, _, b4⟩ := h2
        exact ⟨e, ys, rfl, VR.cut h k _ (VR.sc hT k _ b1) a1, VR.cut h u _ (VR.sc hT u _ b2) a2, a3, ih ys yT _ _ a4 b4⟩
    exact this _ _ _ _ _ h2 t2
  | chan cap buf =>
    obtain ⟨b', s, r, h1, h2⟩ := ho
    obtain ⟨bT, _, _, _, t2⟩ := ht
    exact ⟨b', s, r, h1, bb.cut h _ _ (bb.sc hT _ _ t2) h2⟩
  | ew s pos => simp only [OM] at *; exact ho
  | loop R =>
    obtain ⟨fn, tmps, fI, fJ, ld, h1, h2, h3, h4, h5⟩ := ho
    obtain ⟨_, tT, _, _, ldT, _, t2, _, _, t5⟩ := ht
    refine ⟨fn, tmps, fI, fJ, ld, h1, ⟨h2.1, fun t v hv => ?_⟩, h3, h4, h _ _ (hT _ _ t5) h5⟩
    obtain ⟨x, a, b⟩ := h2.2 t v hv
    obtain ⟨xT, _, bT⟩ := t2.2 t v hv
    exact ⟨x, a, VR.cut h v x (VR.sc hT v xT bT) b⟩
  | defs b => simp only [OM] at *; exact ho
  | dead => trivial
end
section
variable {P:Program} {μ:Mu} {w:World} {st aB:St} {fr bL:Fr} {a:Act} {call:cG} {v:V} {lb:Option Nat}
def Ysv(cj:ji P call)(hE:tC P)(hh:bA P μ w st)(hf:mD μ fr a){o:Oper}(h:ct (zf P o.op) call fr.r st=some (v,aB)):∃x w' μ' ws,VR μ' v x/\bQ P μ w st μ' w' aB ws:=by
 have hwp:=Uw (lb:=none) (Q:=fun _ _ _=>False) (K:=fun _ _=>∃x w' μ' ws,VR μ' v x/\bQ P μ w st μ' w' aB ws) cj hE hh hf h (fun x w' μ' ws h1 h2=>⟨x,w',μ',ws,h1,h2⟩)
 obtain⟨_,hu⟩:=hwp
 generalize (o.semAt (FE none).round a.eval).run P w=res at hu
 cases res with
 |halt x w'=>cases x<;>simp only[Oper.uponIn]at hu
 |ok x w'=>
  cases x<;>simp only[Oper.uponIn]at hu
  case value=>exact hu
  case skip=>exact hu
  case defer=>exact hu
  case enter f args=>
   obtain⟨e,w',fr,hR,_⟩:=hu.2.2 [] (fun d hd=>by simp[Fence.wide]at hd)
   cases e with
   |returned v=>exact hR
   |panicked c=>exact hR.elim
   |outgrown=>obtain⟨_,_,hq⟩:=hR;exact hq.elim
  case row r args=>
   obtain⟨v',w',hR,_⟩:=hu.2 default [] (fun d hd=>by simp[Fence.wide]at hd)
   exact hR
  case round l f tmps fI fJ=>
   obtain⟨e,w',hR,_⟩:=hu.2.2 default [] (fun d hd=>by simp[Fence.wide]at hd)
   cases e with
   |returned v=>exact hR
   |panicked c=>exact hR.elim
   |outgrown=>obtain⟨_,_,hq⟩:=hR;exact hq.elim
def zD(P:Program)(call:cG)(ops:Array Oper)(o:Oper)(st:St)(fr:Fr)(v:V)(f:FP)(cf:St)(dS:Fr):Prop:=
 ∃g b,Fw ops o.guard=some g/\b_ fr.r g=some b/\fr.put o.dst v=some dS/\
  (b=true->∃s',ct (zf P o.op) call fr.r {st with w:=[]}=some (v,s')/\cf={s' with w:=ax st.n s'.w++st.w}/\f=oF fr.r (zf P o.op) (ax st.n s'.w) st.n s'.n)/\
  (b=false->v=.bg []/\cf=st/\f=⟨some [],[],st.n,st.n⟩)
def UN{ops:Array Oper}:∀(os:List Oper) (fr:Fr) (st:St) (gS:List FP) (bL:Fr) (aB:St),bS call (os.map (qo P ops)) fr st=some (gS,bL,aB)->
  ∃(aL:Nat->St) (bE:Nat->Fr) (vI:Nat->V) (bo:Nat->FP),aL 0=st/\bE 0=fr/\aL os.length=aB/\bE os.length=bL/\gS.length=os.length/\
   ∀i o,os[i]?=some o->gS[i]?=some (bo i)/\zD P call ops o (aL i) (bE i) (vI i) (bo i) (aL (i+1)) (bE (i+1))
 |[],fr,st,gS,bL,aB,h=>by
  simp only[uJ,bS,ZR,al,bF]at h
  obtain⟨rfl,rfl,rfl⟩:=h
  exact⟨fun _=>st,fun _=>fr,fun _=>.bN,fun _=>⟨none,[],0,0⟩,rfl,rfl,rfl,rfl,rfl,fun i o h=>by simp at h⟩
 |o::os,fr,st,gS,bL,aB,h=>by
  simp only[my,bS,AQ]at h
  have go:∀(v:V) (f:FP) (cf:St) (dS:Fr) (tj:List FP),zD P call ops o st fr v f cf dS->bS call (os.map (qo P ops)) dS cf=some (tj,bL,aB)->gS=f::tj->
    ∃(aL:Nat->St) (bE:Nat->Fr) (vI:Nat->V) (bo:Nat->FP),aL 0=st/\bE 0=fr/\aL (o::os).length=aB/\bE (o::os).length=bL/\gS.length=(o::os).length/\
     ∀i o',(o::os)[i]?=some o'->gS[i]?=some (bo i)/\zD P call ops o' (aL i) (bE i) (vI i) (bo i) (aL (i+1)) (bE (i+1)):=by
   intro v f cf dS tj hs hm hf
   obtain⟨aL,bE,vI,bo,h1,h2,h3,h4,h5,h6⟩:=UN os dS cf tj bL aB hm
   refine⟨fun|0=>st|i+1=>aL i,fun|0=>fr|i+1=>bE i,fun|0=>v|i+1=>vI i,fun|0=>f|i+1=>bo i,rfl,rfl,h3,h4,by simp[hf,h5],fun i o' ho=>?_⟩
   cases i with
   |zero=>
    simp only[AL,al]at ho
    subst ho
    refine⟨by simp[hf],?_⟩
    show zD P call ops o st fr v f (aL 0) (bE 0)
    rw[h1,h2];exact hs
   |succ i=>
    obtain⟨g1,g2⟩:=h6 i o' (by simpa using ho)
    exact⟨by simpa[hf]using g1,g2⟩
  unfold qo at h
  cases hg:Fw ops o.guard with
  |none=>
   rw[hg]at h
   simp only[b_,ct,T4]at h
   cases h
  |some g=>
   rw[hg]at h
   simp only at h
   cases hw:b_ fr.r g with
   |none=>rw[hw]at h;cases h
   |some b=>
    rw[hw]at h
    cases b with
    |true=>
     simp only at h
     split at h
     ·rename_i v1 s1 hm
      split at h
      ·rename_i dS hp
       split at h
       ·rename_i tj yZ eF gU
        simp only[al,bF]at h
        obtain⟨rfl,rfl,rfl⟩:=h
        exact go v1 _ _ dS tj ⟨g,true,hg,hw,hp,fun _=>⟨s1,hm,rfl,rfl⟩,fun hc=>by cases hc⟩ gU rfl
       ·cases h
      ·cases h
     ·cases h
    |false=>
     simp only at h
     split at h
     ·rename_i dS hp
      split at h
      ·rename_i tj yZ eF gU
       simp only[al,bF]at h
       obtain⟨rfl,rfl,rfl⟩:=h
       exact go (.bg []) _ st dS tj ⟨g,false,hg,hw,hp,(fun hc=>by cases hc),fun _=>⟨rfl,rfl,rfl⟩⟩ gU rfl
      ·cases h
     ·cases h
def Ux{op:fX}{s':St}(hm:ct op call fr.r {st with w:=[]}=some (v,s'))(lo hi:Nat):(oF fr.r op (ax st.n s'.w) lo hi).wr=ax st.n s'.w/\(oF fr.r op (ax st.n s'.w) lo hi).lo=lo/\(oF fr.r op (ax st.n s'.w) lo hi).hi=hi:=by
 unfold oF
 split
 ·rename_i hs
  rcases Zng hs .nil [] hm with⟨h1,_⟩|⟨o,h1,_⟩
  ·subst h1;exact⟨rfl,rfl,rfl⟩
  ·subst h1;exact⟨rfl,rfl,rfl⟩
 ·split
  ·split<;>exact⟨rfl,rfl,rfl⟩
  ·exact⟨rfl,rfl,rfl⟩
def Ybh(cj:ji P call)(hE:tC P)(hh:bA P μ w st)(hf:mD μ fr a){ops:Array Oper}{o:Oper}{f:FP}{cf:St}{dS:Fr}(h:zD P call ops o st fr v f cf dS):
  ∃w' μ' a',bQ P μ w st μ' w' cf f.wr/\mD μ' dS a'/\f.lo=st.n/\f.hi=cf.n:=by
 obtain⟨g,b,hg,hw,hp,ht,Kt⟩:=h
 cases b with
 |true=>
  obtain⟨s',hm,rfl,rfl⟩:=ht rfl
  obtain⟨x,w',μ',ws,h1,h2⟩:=Ysv cj hE (hh.now []) hf hm
  have h3:=h2.fold hh
  obtain⟨e1,e2,e3⟩:=Ux (call:=call) hm st.n s'.n
  rw[e1,e2,e3]
  exact⟨w',μ',_,h3,(hf.mono (h3.mono hh)).put h1 hp,rfl,rfl⟩
 |false=>
  obtain⟨rfl,rfl,rfl⟩:=Kt rfl
  exact⟨w,μ,_,bQ.refl hh,hf.put (v:=.bg []) (x:=undef) ⟨[],rfl,by simp[bb]⟩ hp,rfl,rfl⟩
structure uR (P:Program) (μ:Mu) (aL:Nat->St) (bE:Nat->Fr) (bo:Nat->FP) (N:Nat):Prop where
 fi:∀i,i<N->(aL i).n<=(aL (i+1)).n
 lo:∀i,i<N->(bo i).lo=(aL i).n
 hi:∀i,i<N->(bo i).hi=(aL (i+1)).n
 wl:∀i,i<N->(aL (i+1)).w=(bo i).wr++(aL i).w
 Uu:∀i,i<N->∀j∈(bo i).wr,j<(aL i).n
 ae:∀i,i<N->∀j,j<(aL i).n->j∉(bo i).wr->(aL (i+1)).h.get j=(aL i).h.get j
 grow:∀i,i<N->∀j o',j<(aL i).n->(aL (i+1)).h.get j=some o'->∃o,(aL i).h.get j=some o/\(o'.wr=true->o.wr=true)/\(o'.live=true->o.live=true)
 yo:∀i,i<N->∀j∈(bo i).wr,∃o,(aL i).h.get j=some o/\o.wr=true
 scr:∀i,i<=N->∀t v,(bE i).r.get t=some v->Sc (aL i).n v
 sch:∀i,i<=N->∀j,(j<(aL 0).n->∃l,μ j=some l)->j<(aL i).n->∃o μT wT lT,(aL i).h.get j=some o/\OM P μT wT o lT/\∀k l,μT k=some l->k<(aL i).n
 fn:∀i,i<=N->(bE i).n=(bE 0).n/\(bE i).marks=(bE 0).marks
def Ypu{ops:Array Oper}{o:Oper}{f:FP}{cf:St}{dS:Fr}(h:zD P call ops o st fr v f cf dS):∀j∈f.wr,j<st.n:=by
 have key:∀(l:List Nat) (n j:Nat),j∈ax n l->j<n:=by
  intro l n j hj
  induction l with
  |nil=>simp[ax]at hj
  |cons i l ih=>
   simp only[ax]at hj
   split at hj
   ·unfold uN at hj
    split at hj
    ·exact ih hj
    ·simp only[kv]at hj
     rcases hj with rfl|hj
     ·assumption
     ·exact ih hj
   ·exact ih hj
 obtain⟨g,b,hg,hw,hp,ht,Kt⟩:=h
 cases b with
 |true=>
  obtain⟨s',hm,rfl,rfl⟩:=ht rfl
  rw[(Ux (call:=call) hm _ _).1]
  exact key _ _
 |false=>
  obtain⟨rfl,rfl,rfl⟩:=Kt rfl
  intro j hj
  simp at hj
def Yg6{d:Option Nat}(h:fr.put d v=some bL):bL.n=fr.n/\bL.marks=fr.marks:=by
 cases d with
 |none=>simp only[Fr.put,al]at h;subst h;exact⟨rfl,rfl⟩
 |some d=>
  simp only[Fr.put]at h
  split at h
  ·simp only[al]at h;subst h;exact⟨rfl,rfl⟩
  ·cases h
def HZ(cj:ji P call)(hE:tC P){ops:Array Oper}{aL:Nat->St}{bE:Nat->Fr}{vI:Nat->V}{bo:Nat->FP}{N:Nat}{os:List Oper}(hN:os.length=N)
  (hh:bA P μ w (aL 0)) (hf:mD μ (bE 0) a) (hs:∀i o,os[i]?=some o->zD P call ops o (aL i) (bE i) (vI i) (bo i) (aL (i+1)) (bE (i+1))):
  ∀i,i<=N->∃w' μ' a' ws,bQ P μ w (aL 0) μ' w' (aL i) ws/\mD μ' (bE i) a':=by
 intro i
 induction i with
 |zero=>exact fun _=>⟨w,μ,a,[],bQ.refl hh,hf⟩
 |succ i ih=>
  intro hi
  obtain⟨w',μ',a',ws,h1,h2⟩:=ih (by omega)
  have ho:os[i]?=some (os[i]'(by omega)):=cZ (by omega)
  obtain⟨w2,μ2,a2,h3,h4,_⟩:=Ybh cj hE h1.hr h2 (hs i _ ho)
  exact⟨w2,μ2,a2,_,h1.trans h3,h4⟩
def Yp0(cj:ji P call)(hE:tC P){ops:Array Oper}{aL:Nat->St}{bE:Nat->Fr}{vI:Nat->V}{bo:Nat->FP}{N:Nat}{os:List Oper}(hN:os.length=N)
  (hh:bA P μ w (aL 0)) (hf:mD μ (bE 0) a) (hs:∀i o,os[i]?=some o->zD P call ops o (aL i) (bE i) (vI i) (bo i) (aL (i+1)) (bE (i+1))):uR P μ aL bE bo N:=by
 have VI:=HZ cj hE hN hh hf hs
 have cL:∀i,i<N->∃o,os[i]?=some o:=fun i hi=>⟨_,cZ (by omega)⟩
 have nW:∀i,i<N->∃w1 μ1 w2 μ2 a2,bQ P μ1 w1 (aL i) μ2 w2 (aL (i+1)) (bo i).wr/\mD μ2 (bE (i+1)) a2/\(bo i).lo=(aL i).n/\(bo i).hi=(aL (i+1)).n:=fun i hi=>by
  obtain⟨w',μ',a',ws,h1,h2⟩:=VI i (by omega)
  obtain⟨o,ho⟩:=cL i hi
  obtain⟨w2,μ2,a2,h3,h4,h5,h6⟩:=Ybh cj hE h1.hr h2 (hs i o ho)
  exact⟨w',μ',w2,μ2,a2,h3,h4,h5,h6⟩
 refine⟨fun i hi=>?_,fun i hi=>?_,fun i hi=>?_,fun i hi=>?_,fun i hi=>?_,fun i hi=>?_,fun i hi=>?_,fun i hi=>?_,fun i hi t v hv=>?_,fun i hi j hj Fz=>?_,fun i=>?_⟩
 ·obtain⟨_,_,_,_,_,h,_⟩:=nW i hi;exact h.fi
 ·obtain⟨_,_,_,_,_,_,_,h,_⟩:=nW i hi;exact h
 ·obtain⟨_,_,_,_,_,_,_,_,h⟩:=nW i hi;exact h
 ·obtain⟨_,_,_,_,_,h,_⟩:=nW i hi;exact h.wl
 ·obtain⟨o,ho⟩:=cL i hi;exact Ypu (hs i o ho)
 ·obtain⟨_,_,_,_,_,h,_⟩:=nW i hi;exact h.ae
 ·obtain⟨_,_,_,_,_,h,_⟩:=nW i hi;exact h.grow
 ·obtain⟨o,ho⟩:=cL i hi
  obtain⟨_,_,_,_,_,h,_⟩:=nW i hi
  exact fun j hj=>h.yo j hj (Ypu (hs i o ho) j hj)
 ·obtain⟨w',μ',a',ws,h1,h2⟩:=VI i hi
  obtain⟨x,_,hx⟩:=h2.1.2 t v hv
  exact VR.sc (fun k l hk=>(h1.hr.df k l hk).1) v x hx
 ·obtain⟨w',μ',a',ws,h1,h2⟩:=VI i hi
  have hl:∃l,μ' j=some l:=by
   by_cases h0:j<(aL 0).n
   ·obtain⟨l,hl⟩:=hj h0
    exact⟨l,(h1.ext j h0).trans hl⟩
   ·exact h1.full j (by omega) Fz
  obtain⟨l,hl⟩:=hl
  obtain⟨o,AJ,xG⟩:=h1.hr.obj j l hl
  exact⟨o,μ',w',l,AJ,xG,fun k l hk=>(h1.hr.df k l hk).1⟩
 ·induction i with
  |zero=>exact fun _=>⟨rfl,rfl⟩
  |succ i ih=>
   intro hi
   obtain⟨o,ho⟩:=cL i (by omega)
   obtain⟨g,b,_,_,hp,_⟩:=hs i o ho
   obtain⟨e1,e2⟩:=Yg6 hp
   obtain⟨f1,f2⟩:=ih (by omega)
   exact⟨e1.trans f1,e2.trans f2⟩
end
def uX(aL:Nat->St)(bo:Nat->FP)(k j:Nat):Prop:=j∈(bo k).wr\/((aL k).n<=j/\j<(aL (k+1)).n)
instance (aL:Nat->St) (bo:Nat->FP) (k j:Nat):Decidable (uX aL bo k j):=by unfold uX;infer_instance
def jv(aL:Nat->St)(bo:Nat->FP)(S:Nat->Bool):Nat->Nat->Option O
 |0,j=>(aL 0).h.get j
 |k+1,j=>if S k=true/\uX aL bo k j then (aL (k+1)).h.get j else jv aL bo S k j
def uU(bE:Nat->Fr)(ds:Nat->Option Nat)(S:Nat->Bool):Nat->Nat->Option V
 |0,t=>(bE 0).r.get t
 |k+1,t=>if S k=true/\ds k=some t then (bE (k+1)).r.get t else uU bE ds S k t
def lY(S:Nat->Bool)(i:Nat):Nat->Bool:=fun k=>if k=i then true else S k
section
variable {P:Program} {μ:Mu} {aL:Nat->St} {bE:Nat->Fr} {bo:Nat->FP} {ds:Nat->Option Nat} {S:Nat->Bool} {N:Nat}
def Us(T:uR P μ aL bE bo N):∀{i j:Nat},i<=N->j<(aL i).n->(∀k,k<i->uX aL bo k j->S k=true)->jv aL bo S i j=(aL i).h.get j
 |0,j,_,_,_=>rfl
 |i+1,j,hi,hj,h=>by
  simp only[jv]
  by_cases ht:uX aL bo i j
  ·rw[aF ⟨h i (by omega) ht,ht⟩]
  ·rw[ar (fun hc=>ht hc.2)]
   simp only[uX,not_or,not_and,sH]at ht
   have ay:j<(aL i).n:=by
    rcases Nat.lt_or_ge j (aL i).n with h1|h1
    ·exact h1
    ·have:=ht.2 h1;omega
   rw[Us T (by omega) ay fun k hk=>h k (by omega),T.ae i (by omega) j ay ht.1]
def OK:∀{M i j:Nat},i<=M->(∀k,i<=k->k<M->uX aL bo k j->S k=false)->jv aL bo S M j=jv aL bo S i j
 |0,i,j,hi,_=>by rw[Nat.le_zero.1 hi]
 |M+1,i,j,hi,h=>by
  by_cases e:i=M+1
  ·rw[e]
  ·simp only[jv]
   rw[ar,OK (by omega) fun k h1 h2=>h k h1 (by omega)]
   rintro⟨h1,h2⟩
   rw[h M (by omega) (by omega) h2]at h1;cases h1
def Z3{i:Nat}:∀{M j:Nat},¬uX aL bo i j->jv aL bo (lY S i) M j=jv aL bo S M j
 |0,j,_=>rfl
 |M+1,j,h=>by
  simp only[jv]
  rw[Z3 h]
  by_cases e:M=i
  ·subst e
   rw[ar (fun hc=>h hc.2),ar (fun hc=>h hc.2)]
  ·simp only[lY,e,if_false]
def Yfa{i j:Nat}(hi:i<N)(ht:uX aL bo i j)(h:∀k,i<k->k<N->uX aL bo k j->S k=false):jv aL bo (lY S i) N j=(aL (i+1)).h.get j:=by
 rw[OK (i:=i+1) (by omega) fun k h1 h2 h3=>by simp only[lY];rw[ar (by omega)];exact h k (by omega) h2 h3]
 simp only[jv,lY]
 rw[aF ⟨by simp,ht⟩]
def Gf(bE:Nat->Fr)(ds:Nat->Option Nat)(vI:Nat->V)(N:Nat):Prop:=∀i,i<N->∀t,(bE (i+1)).r.get t=if ds i=some t then some (vI i) else (bE i).r.get t
def Ut{vI:Nat->V}(T:Gf bE ds vI N):∀{i t:Nat},i<=N->(∀k,k<i->ds k=some t->S k=true)->uU bE ds S i t=(bE i).r.get t
 |0,t,_,_=>rfl
 |i+1,t,hi,h=>by
  simp only[uU]
  by_cases ht:ds i=some t
  ·rw[aF ⟨h i (by omega) ht,ht⟩]
  ·rw[ar (fun hc=>ht hc.2),Ut T (by omega) fun k hk=>h k (by omega),T i (by omega) t,ar ht]
def OL:∀{M i t:Nat},i<=M->(∀k,i<=k->k<M->ds k=some t->S k=false)->uU bE ds S M t=uU bE ds S i t
 |0,i,t,hi,_=>by rw[Nat.le_zero.1 hi]
 |M+1,i,t,hi,h=>by
  by_cases e:i=M+1
  ·rw[e]
  ·simp only[uU]
   rw[ar,OL (by omega) fun k h1 h2=>h k h1 (by omega)]
   rintro⟨h1,h2⟩
   rw[h M (by omega) (by omega) h2]at h1;cases h1
def Z7{i:Nat}:∀{M t:Nat},ds i≠some t->uU bE ds (lY S i) M t=uU bE ds S M t
 |0,t,_=>rfl
 |M+1,t,h=>by
  simp only[uU]
  rw[Z7 h]
  by_cases e:M=i
  ·subst e
   rw[ar (fun hc=>h hc.2),ar (fun hc=>h hc.2)]
  ·simp only[lY,e,if_false]
def Ye9{vI:Nat->V}(T:Gf bE ds vI N){i t:Nat}(hi:i<N)(ht:ds i=some t)(h:∀k,i<k->k<N->ds k=some t->S k=false):uU bE ds (lY S i) N t=some (vI i):=by
 rw[OL (i:=i+1) (by omega) fun k h1 h2 h3=>by simp only[lY];rw[ar (by omega)];exact h k (by omega) h2 h3]
 simp only[uU,lY]
 rw[aF ⟨by simp,ht⟩,T i hi t,aF ht]
def zB(r:T V):List Nat->T V
 |[]=>.nil
 |t::ts=>match r.get t with
  |some v=>(zB r ts).set t v
  |none=>zB r ts
def Kq(r:T V):∀(ts:List Nat) (t:Nat),(zB r ts).get t=if t∈ts then r.get t else none
 |[],t=>by simp[zB,T.get]
 |u::ts,t=>by
  simp only[zB]
  split
  ·rename_i v hv
   rw[T.ag,Kq r ts t]
   by_cases e:t=u
   ·subst e;simp[hv]
   ·simp[e]
  ·rename_i hv
   rw[Kq r ts t]
   by_cases e:t=u
   ·subst e;simp[hv]
   ·simp[e]
def Yoo{r:T V}{ts:List Nat}{s:Src}(h:∀t∈s.tmps,t∈ts):s.ev (zB r ts)=s.ev r:=by
 cases s with
 |const v=>rfl
 |tmp t=>simp only[Src.ev];rw[Kq,aF (h t (by simp[Src.tmps]))]
def qE(h:T O)(ae:List Nat):Nat->T O
 |0=>.nil
 |n+1=>match h.get n with
  |some o=>(qE h ae n).set n (if n∈ae then o else .dead)
  |none=>qE h ae n
def II(h:T O)(ae:List Nat):∀(n j:Nat),(qE h ae n).get j=if j<n then (h.get j).map fun o=>if j∈ae then o else .dead else none
 |0,j=>by simp[qE,T.get]
 |n+1,j=>by
  simp only[qE]
  split
  ·rename_i o ho
   rw[T.ag,II h ae n j]
   by_cases e:j=n
   ·subst e;simp[ho]
   ·rw[ar e]
    by_cases e2:j<n
    ·rw[aF e2,aF (by omega)]
    ·rw[ar e2,ar (by omega)]
  ·rename_i ho
   rw[II h ae n j]
   by_cases e:j=n
   ·subst e;simp[ho]
   ·by_cases e2:j<n
    ·rw[aF e2,aF (by omega)]
    ·rw[ar e2,ar (by omega)]
def FP.dm(f:FP)(j:Nat):Prop:=
 match f.rd with
 |none=>True
 |some l=>j∈l
def Yb1{st σ:St}{i:Nat}(h:σ.h.get i=st.h.get i):σ.row i=st.row i:=by unfold St.row;rw[h]
def Yid{call:cG}{r:T V}{op:fX}{st s':St}{v:V}{ws:List Nat}{lo hi:Nat}(hm:ct op call r {st with w:=[]}=some (v,s'))(fL:lo=st.n):
  ∃σ σ',σ.n=st.n/\σ.w=[]/\ct op call r σ=some (v,σ')/\σ'.n=s'.n/\σ'.w=s'.w/\
   (∀j,j<st.n->(oF r op ws lo hi).dm j->σ.h.get j=st.h.get j)/\(∀j,j<st.n->¬(oF r op ws lo hi).dm j->σ.h.get j=(st.h.get j).map fun _=>.dead)/\
   (∀j,((oF r op ws lo hi).dm j/\j<st.n)\/(st.n<=j/\j<s'.n)->σ'.h.get j=s'.h.get j)/\(∀j∈s'.w,(oF r op ws lo hi).dm j):=by
 by_cases hs:op.nJ=true
 ·have hf:oF r op ws lo hi=⟨some [],[],lo,hi⟩:=by unfold oF;rw[aF hs]
  rw[hf]
  have hd:∀j,j<st.n->(qE st.h [] st.n).get j=(st.h.get j).map fun _=>.dead:=fun j hj=>by
   rw[II,aF hj];simp
  rcases Zng hs (qE st.h [] st.n) [] hm with⟨h1,h2⟩|⟨o,h1,h2⟩
  ·subst h1
   exact⟨⟨qE st.h [] st.n,st.n,[]⟩,_,rfl,rfl,h2,rfl,rfl,fun j _ hj=>by simp[FP.dm]at hj,fun j hj _=>hd j hj,fun j hj=>by
    rcases hj with⟨hj,_⟩|⟨h1,h2⟩
    ·simp[FP.dm]at hj
    ·simp only at h2;omega,fun j hj=>by simp at hj⟩
  ·subst h1
   refine⟨⟨qE st.h [] st.n,st.n,[]⟩,_,rfl,rfl,h2,rfl,rfl,fun j _ hj=>by simp[FP.dm]at hj,fun j hj _=>hd j hj,fun j hj=>?_,fun j hj=>by simp[St.alloc]at hj⟩
   rcases hj with⟨hj,_⟩|⟨h1,h2⟩
   ·simp[FP.dm]at hj
   ·simp only[St.alloc]at h2 ⊢
    have:j=st.n:=by omega
    subst this
    rw[T.ag,T.ag,aF rfl,aF rfl]
 ·cases hl:OC r op with
  |none=>
   have hf:oF r op ws lo hi=⟨none,ws,lo,hi⟩:=by unfold oF;rw[ar hs,hl]
   rw[hf]
   exact⟨{st with w:=[]},s',rfl,rfl,hm,rfl,rfl,fun _ _ _=>rfl,fun _ _ hj=>absurd trivial hj,fun _ _=>rfl,fun _ _=>trivial⟩
  |some i=>
   by_cases iF:i<st.n
   case neg=>
    have hf:oF r op ws lo hi=⟨none,ws,lo,hi⟩:=by unfold oF;rw[ar hs,hl];simp only[];rw[ar (by rw[fL];simpa[Nat.blt_eq]using iF)]
    rw[hf]
    exact⟨{st with w:=[]},s',rfl,rfl,hm,rfl,rfl,fun _ _ _=>rfl,fun _ _ hj=>absurd trivial hj,fun _ _=>rfl,fun _ _=>trivial⟩
   have hf:oF r op ws lo hi=⟨some [i],ws,lo,hi⟩:=by unfold oF;rw[ar hs,hl];simp only[];rw[aF (by rw[fL];simpa[Nat.blt_eq]using iF)]
   rw[hf]
   have hk:(qE st.h [i] st.n).get i=st.h.get i:=by
    rw[II,aF iF]
    cases st.h.get i<;>simp
   have hd:∀j,j<st.n->¬(j∈[i])->(qE st.h [i] st.n).get j=(st.h.get j).map fun _=>.dead:=fun j hj hn=>by
    rw[II,aF hj];simp only[hn,if_false]
   have ak:(⟨qE st.h [i] st.n,st.n,[]⟩:St).row i=St.row {st with w:=[]} i:=Yb1 hk
   cases op<;>simp only[OC,reduceCtorEq]at hl
   case load k x=>
    split at hl
    ·rename_i i' o hx
     simp only[al]at hl;subst hl
     simp only[ct,FV,hx]at hm ⊢
     split at hm
     ·rename_i c e oC hr
      split at hm
      ·rename_i u hu
       simp only[al,bF]at hm
       obtain⟨rfl,rfl⟩:=hm
       refine⟨⟨qE st.h [i'] st.n,st.n,[]⟩,⟨qE st.h [i'] st.n,st.n,[]⟩,rfl,rfl,?_,rfl,rfl,fun j _ hj=>?_,fun j hj hn=>hd j hj hn,fun j hj=>?_,fun j hj=>by simp at hj⟩
       ·rw[ak,hr];simp only[hu]
       ·simp only[FP.dm,wC]at hj;subst hj;exact hk
       ·rcases hj with⟨hj,_⟩|⟨h1,h2⟩
        ·simp only[FP.dm,wC]at hj;subst hj;exact hk
        ·simp only at h2;omega
      ·cases hm
     ·cases hm
    ·cases hl
   case store k x y=>
    split at hl
    ·rename_i i' o hx
     simp only[al]at hl;subst hl
     simp only[ct,DE,hx]at hm ⊢
     split at hm
     ·rename_i i2 o2 u u_ hu
      simp only[al,V.ptr.injEq]at u_
      obtain⟨rfl,rfl⟩:=u_
      split at hm
      ·rename_i c e hr
       split at hm
       ·rename_i hc
        simp only[al,bF]at hm
        obtain⟨rfl,rfl⟩:=hm
        refine⟨⟨qE st.h [i'] st.n,st.n,[]⟩,St.write ⟨qE st.h [i'] st.n,st.n,[]⟩ i' (.cells (ad c o u.cells) e true),rfl,rfl,?_,rfl,rfl,fun j _ hj=>?_,fun j hj hn=>hd j hj hn,fun j hj=>?_,fun j hj=>?_⟩
        ·rw[ak,hr]
         simp only[aF hc]
        ·simp only[FP.dm,wC]at hj;subst hj;exact hk
        ·rcases hj with⟨hj,_⟩|⟨h1,h2⟩
         ·simp only[FP.dm,wC]at hj;subst hj
          simp only[St.write,T.ag,if_true]
         ·simp only[St.write]at h2;omega
        ·simpa[FP.dm,St.write]using hj
       ·cases hm
      ·cases hm
     ·cases hm
    ·cases hl
end
structure Inv (P:Program) (μ:Mu) (w:World) (aL:Nat->St) (bE:Nat->Fr) (bo:Nat->FP) (ds:Nat->Option Nat) (N:Nat) (W:List Nat) (S:Nat->Bool) (μ':Mu) (a':Act) (w':World):Prop where
 ext:∀j,j<(aL 0).n->μ' j=μ j
 df:∀j l,μ' j=some l->(j<(aL 0).n\/∃k,k<N/\S k=true/\(aL k).n<=j/\j<(aL (k+1)).n)/\l.b<w'.heap.size
 full:∀k,k<N->S k=true->∀j,(aL k).n<=j->j<(aL (k+1)).n->∃l,μ' j=some l
 obj:∀j l,μ' j=some l->∃o,jv aL bo S N j=some o/\OM P μ' w' o l
 inj:∀i j l l' o o',μ' i=some l->μ' j=some l'->i≠j->jv aL bo S N i=some o->jv aL bo S N j=some o'->o.wr=true->o'.live=true->l.b≠l'.b
 uT:a'.tmps.size=(bE 0).n/\∀t v,uU bE ds S N t=some v->∃x,a'.tmps[t]?=some x/\VR μ' v x
 defs:pc μ' (bE 0).marks a'.defers
 d_:Ka μ W w w'
 new:∀i l,(aL 0).n<=i->μ' i=some l->w.heap.size<=l.b\/∃j∈W,j<(aL 0).n/\∃lj oj,μ j=some lj/\lj.b=l.b/\(aL 0).h.get j=some oj/\oj.wr=true
structure Ord (bo:Nat->FP) (mo:Nat->dt) (N:Nat) (kl:Nat->Nat->Prop):Prop where
 free:∀i k,i<k->k<N->kl k i\/FP.free (bo i) (bo k)=true
 tmp:∀i k,i<k->k<N->kl k i\/Ol (mo i) (mo k)=true
section
variable {P:Program} {μ μ':Mu} {w w':World} {aL:Nat->St} {bE:Nat->Fr} {bo:Nat->FP} {ds:Nat->Option Nat} {S:Nat->Bool} {N:Nat} {W:List Nat} {a a':Act} {mo:Nat->dt} {kl:Nat->Nat->Prop}
def uR.mono(T:uR P μ aL bE bo N):∀{i k:Nat},i<=k->k<=N->(aL i).n<=(aL k).n
 |i,0,h,_=>by rw[Nat.le_zero.1 h];exact aW _
 |i,k+1,h,hk=>by
  by_cases e:i=k+1
  ·rw[e];exact aW _
  ·exact sJ (T.mono (i:=i) (k:=k) (by omega) (by omega)) (T.fi k (by omega))
def Pw{a b:FP}(h:FP.free a b=true):(∀j∈a.wr,¬b.dm j)/\(∀j∈a.wr,j∉b.wr)/\(∀j∈b.wr,¬a.dm j)/\∀j∈b.wr,¬(a.lo<=j/\j<a.hi):=by
 unfold FP.free at h
 simp only[FL,Bool.or_eq_false_iff]at h
 obtain⟨⟨⟨h1,h2⟩,h3⟩,h4⟩:=h
 have key:∀(l:List Nat) (o:Option (List Nat)),B1 l o=false->∀j∈l,¬(match o with|none=>True|some q=>j∈q):=by
  intro l o h j hj
  cases o with
  |none=>
   simp only[B1,Bool.not_eq_false',List.isEmpty_iff]at h
   subst h;simp at hj
  |some q=>
   simp only[B1,List.any_eq_false,Ov]at h
   exact h j hj
 refine⟨fun j hj=>?_,fun j hj=>?_,fun j hj=>?_,fun j hj=>?_⟩
 ·have:=key _ _ h1 j hj
  unfold FP.dm
  exact this
 ·exact key _ _ h2 j hj
 ·have:=key _ _ h3 j hj
  unfold FP.dm
  exact this
 ·simp only[List.any_eq_false]at h4
  have:=h4 j hj
  intro hc
  apply this
  simp[Nat.ble_eq,Nat.blt_eq,hc.1,hc.2]
def Zyj(T:uR P μ aL bE bo N)(I:Inv P μ w aL bE bo ds N W S μ' a' w')(Or:Ord bo mo N kl)(cO:∀k,S k=true->∀i,kl k i->S i=true){i:Nat}(hi:i<N)(hS:S i=false)(hb:∀j,kl i j->S j=true)
  {j:Nat} {l:L} (hj:μ' j=some l) (ay:j<(aL i).n) (hs:(bo i).dm j):
  (∀k,k<i->uX aL bo k j->S k=true)/\(∀k,i<=k->k<N->uX aL bo k j->S k=false):=by
 refine⟨fun k hk ht=>?_,fun k hk Cy ht=>?_⟩
 ·rcases ht with ht|⟨h1,h2⟩
  ·rcases Or.free k i hk hi with h|h
   ·exact hb k h
   ·exact absurd hs ((Pw h).1 j ht)
  ·rcases(I.df j l hj).1 with h0|⟨k',h3,h4,h5,h6⟩
   ·have:=T.mono (i:=0) (k:=k) (by omega) (by omega)
    omega
   ·have:k'=k:=by
     rcases Nat.lt_trichotomy k k' with h|h|h
     ·have:=T.mono (i:=k+1) (k:=k') (by omega) (by omega);omega
     ·exact h.symm
     ·have:=T.mono (i:=k'+1) (k:=k) (by omega) (by omega);omega
    subst this;exact h4
 ·by_cases e:k=i
  ·rw[e];exact hS
  ·rcases ht with ht|⟨h1,h2⟩
   ·rcases Or.free i k (by omega) Cy with h|h
    ·cases hq:S k with
     |false=>rfl
     |true=>rw[cO k hq i h]at hS;cases hS
    ·exact absurd hs ((Pw h).2.2.1 j ht)
   ·have:=T.mono (i:=i) (k:=k) hk (by omega)
    omega
def Zt6(T:uR P μ aL bE bo N)(Or:Ord bo mo N kl)(cO:∀k,S k=true->∀i,kl k i->S i=true){i:Nat}(hi:i<N)(hS:S i=false)
  {j:Nat} (ht:uX aL bo i j):∀k,i<k->k<N->uX aL bo k j->S k=false:=by
 intro k hk Cy hk2
 have Lv:=Or.free i k hk Cy
 have J7:kl k i->S k=false:=fun h=>by
  cases hq:S k with
  |false=>rfl
  |true=>rw[cO k hq i h]at hS;cases hS
 rcases Lv with h|h
 ·exact J7 h
 ·exfalso
  have hm:=T.mono (i:=i+1) (k:=k) (by omega) (by omega)
  have fV:=T.fi i hi
  rcases ht with ht|⟨h1,h2⟩
  ·rcases hk2 with hk2|⟨h3,h4⟩
   ·exact(Pw h).2.1 j ht hk2
   ·have:=T.Uu i hi j ht;omega
  ·rcases hk2 with hk2|⟨h3,h4⟩
   ·refine(Pw h).2.2.2 j hk2 ⟨?_,?_⟩
    ·rw[T.lo i hi];exact h1
    ·rw[T.hi i hi];exact h2
   ·omega
def VJ{d:Option Nat}{l:List Nat}(h:Kj d l=false):∀t,d=some t->t∉l:=by
 intro t ht hm
 subst ht
 simp only[Kj]at h
 have:l.contains t=true:=Ov.2 hm
 rw[this]at h;cases h
def VK{a b:dt}(h:Ol a b=true):(∀t,a.dst=some t->t∉b.reads)/\(∀t,b.dst=some t->t∉a.reads)/\∀t,a.dst=some t->b.dst≠some t:=by
 unfold Ol at h
 simp only[FL,Bool.or_eq_false_iff]at h
 obtain⟨⟨h1,h2⟩,h3⟩:=h
 exact⟨VJ h1,VJ h2,fun t ht hb=>VJ h3 t ht (by rw[hb];simp)⟩
def Zyo(Or:Ord bo mo N kl)(cO:∀k,S k=true->∀i,kl k i->S i=true)(pF:∀k,k<N->ds k=(mo k).dst){i:Nat}(hi:i<N)(hS:S i=false)(hb:∀j,kl i j->S j=true)
  {t:Nat} (ht:t∈(mo i).reads):(∀k,k<i->ds k=some t->S k=true)/\(∀k,i<=k->k<N->ds k=some t->S k=false):=by
 refine⟨fun k hk hd=>?_,fun k hk Cy hd=>?_⟩
 ·rcases Or.tmp k i hk hi with h|h
  ·exact hb k h
  ·rw[pF k (by omega)]at hd
   exact absurd ht ((VK h).1 t hd)
 ·by_cases e:k=i
  ·rw[e];exact hS
  ·rcases Or.tmp i k (by omega) Cy with h|h
   ·cases hq:S k with
    |false=>rfl
    |true=>rw[cO k hq i h]at hS;cases hS
   ·rw[pF k Cy]at hd
    exact absurd ht ((VK h).2.1 t hd)
def Yep(Or:Ord bo mo N kl)(cO:∀k,S k=true->∀i,kl k i->S i=true)(pF:∀k,k<N->ds k=(mo k).dst){i:Nat}(hi:i<N)(hS:S i=false)
  {t:Nat} (ht:ds i=some t):∀k,i<k->k<N->ds k=some t->S k=false:=by
 intro k hk Cy hd
 rcases Or.tmp i k hk Cy with h|h
 ·cases hq:S k with
  |false=>rfl
  |true=>rw[cO k hq i h]at hS;cases hS
 ·rw[pF i hi]at ht
  rw[pF k Cy]at hd
  exact absurd hd ((VK h).2.2 t ht)
end
end Go.Mx
