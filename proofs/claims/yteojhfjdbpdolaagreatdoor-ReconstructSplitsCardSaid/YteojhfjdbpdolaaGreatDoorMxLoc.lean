/-What an operation of M looks at-/
import Derived.Test.YteojhfjdbpdolaaGreatDoorMxFun
set_option linter.all false
namespace Go.Mx
open Go
section
variable {r r' : T V} {st : St} {call : cI}
def G5 : ∀ {l : List Src}, (∀ s ∈ l, s.ev r = s.ev r') -> uw r l = uw r' l
  | [], _ => rfl
  | s :: l, h => by
    simp only [uw]
    rw [h s (by simp), G5 fun s hs => h s (by simp [hs])]
def ED {o : Option Src} (h : ∀ s ∈ Bt o, s.ev r = s.ev r') : aB r o = aB r' o := by
  cases o with
  | none => rfl
  | some s => simp only [aB]; rw [h s (by simp [Bt])]
def Xm : ∀ {l : List (Nat × Nat × Src)}, (∀ s ∈ l.map (·.2.2), s.ev r = s.ev r') -> Bo r l = Bo r' l
  | [], _ => rfl
  | (o, k, s) :: l, h => by
    simp only [Bo]
    rw [h s (by simp), Xm fun s hs => h s (by simp only [py, kW]; exact .inr hs)]
def Yeu {op : gh} (h : ∀ s ∈ op.CC, s.ev r = s.ev r') : cm op call r st = cm op call r' st := by
  cases op <;> simp only [gh.CC, kW, List.not_mem_nil, or_false, forall_eq_or_imp, forall_eq, mE] at h <;> simp only [cm]
  case build z ps => simp only [Cu, Xm h]
  case eN e s l z ps => simp only [Gm, Xm h]
  case ja f a c => simp only [Gw, G5 fun s hs => h s (.inl hs), G5 fun s hs => h s (.inr hs)]
  case cj x lo hi => simp only [zb, h.1, ED fun s hs => h.2 s (.inl hs), ED fun s hs => h.2 s (.inr hs)]
  case mK z x lo hi m => simp only [po, h.1, ED fun s hs => h.2 s (.inl (.inl hs)), ED fun s hs => h.2 s (.inl (.inr hs)), ED fun s hs => h.2 s (.inr hs)]
  case jF k z x lo hi m => simp only [Ac, h.1, ED fun s hs => h.2 s (.inl (.inl hs)), ED fun s hs => h.2 s (.inl (.inr hs)), ED fun s hs => h.2 s (.inr hs)]
  case mn l => simp only [zc, G5 h]
  case mx l => simp only [ri, G5 h]
  case call f l => simp only [zd, h.1, G5 fun s hs => h.2 s hs]
  case ext e l => simp only [GD, G5 h]
  all_goals
    first
      | rfl
      | (simp only [Gk, Gl, Gn, Gp, Gs, Gt, Jj, Ee, Gu, Jk, Ef, Gx, Gy, GA, GB, GC, yp, Jn, Jo, CA, Jp, h]; done)
      | (simp only [Ec, Ed, Gq, Cv, Cw, Eg, Jm, Eh, Gz, Ei, Zth, Wf, Cy, Cz, Jq, h.1, h.2]; done)
      | (simp only [Ec, Ei, Wf, h.1, h.2.1, h.2.2]; done)
def Zn1 {op : gh} (hs : op.oa = true) (h' : T O) (l' : List Nat) {v : V} {aC : St} (h : cm op call r st = some (v, aC)) :
    (aC = st /\ cm op call r ⟨h', st.n, l'⟩ = some (v, ⟨h', st.n, l'⟩)) \/ ∃ o, aC = st.alloc o /\ cm op call r ⟨h', st.n, l'⟩ = some (v, St.alloc ⟨h', st.n, l'⟩ o) := by
  cases op <;> simp only [gh.oa, fH] at hs <;> simp only [cm] at h ⊢
  case jE e z b zs x y =>
    unfold Cv at *
    split at h
    · rename_i ha hb
      split at h
      · rename_i hc
        simp only [al, bu] at h
        obtain ⟨rfl, rfl⟩ := h
        refine .inr ⟨_, rfl, ?_⟩
        rw [av hc]
      · cases h
    · cases h
  case bin b t ng x y =>
    refine .inl ?_
    unfold Gq at *
    split at h
    · cases b <;> first | (cases hs; done) | (simp only [Qq, reduceCtorEq] at h)
    · split at h
      · rename_i hm
        simp only [al, bu] at h
        obtain ⟨rfl, rfl⟩ := h
        exact ⟨rfl, by simp_all⟩
      · cases h
    · cases h
  all_goals
    first
      | unfold Gk at * | unfold Ec at * | unfold Ji at * | unfold Gl at * | unfold Cu at * | unfold Gm at * | unfold Gp at * | unfold Gs at * | unfold Gt at * | unfold Jj at * | unfold Ee at * | unfold Jk at * | unfold Gw at * | unfold Jl at * | unfold Ef at * | unfold Cv at * | unfold zb at * | unfold Gx at * | unfold Gy at * | unfold Cw at * | unfold Eg at * | unfold Jm at * | unfold Eh at * | unfold GA at * | unfold GC at * | unfold K9 at * | unfold Jn at * | unfold zc at * | unfold ri at * | unfold GD at *
  all_goals
    repeat' split at h
    all_goals
      first
        | (cases h; done)
        | (simp only [al, bu] at h
           obtain ⟨rfl, rfl⟩ := h
           first
             | (refine .inl ⟨rfl, ?_⟩; simp_all; done)
             | (refine .inr ⟨_, rfl, ?_⟩; simp_all; done))
def Zte {α : Type} {p : α -> α -> Bool} {f : α} {m : Nat} : ∀ {seen : List α} {j : Nat}, seen.length = j -> ct.cv p f m (j - 1) seen = true -> ∀ i, i < j -> ∀ g, seen[j - 1 - i]? = some g -> m.testBit i = true \/ p g f = true
  | [], j, hl, _, i, hi, g, hg => by simp at hg
  | g0 :: seen, j, hl, h, i, hi, g, hg => by
    simp only [ct.cv, iE, Gg] at h
    simp only [bo] at hl
    by_cases e : i = j - 1
    · subst e
      simp only [Nat.sub_self, Bl, al] at hg
      subst hg
      exact h.1
    · have h2 := Zte (j := j - 1) (by omega) h.2 i (by omega) g
      refine h2 ?_
      rw [show j - 1 - i = (j - 1 - 1 - i) + 1 by omega] at hg
      simpa using hg
def Zx5 {α : Type} {p : α -> α -> Bool} : ∀ {fs : List α} {ms : List Nat} {j : Nat} {seen : List α}, seen.length = j -> ct.go p fs ms j seen = true ->
    ∀ (b i : Nat) (f g : α), fs[b]? = some f -> i < j + b -> (seen.reverse ++ fs)[i]? = some g -> (ms.getD b 0).testBit i = true \/ p g f = true
  | [], ms, j, seen, hl, _, b, i, f, g, hf, _, _ => by simp at hf
  | f0 :: fs, ms, j, seen, hl, h, b, i, f, g, hf, hi, hg => by
    simp only [ct.go, iE] at h
    cases b with
    | zero =>
      simp only [Bl, al] at hf
      subst hf
      have hm : ms.getD 0 0 = ms.headD 0 := by cases ms <;> rfl
      rw [hm]
      refine Zte hl h.1 i (by omega) g ?_
      rw [iM (by simp; omega), List.getElem?_reverse (by omega)] at hg
      rw [<- hl]; exact hg
    | succ b =>
      have hm : ms.getD (b + 1) 0 = ms.tail.getD b 0 := by cases ms <;> simp
      rw [hm]
      refine Zx5 (j := j + 1) (seen := f0 :: seen) (by simp [hl]) h.2 b i f g (by simpa using hf) (by omega) ?_
      simpa using hg
def Zx4 {α : Type} {p : α -> α -> Bool} {xs : List α} {ms : List Nat} (h : ct p xs ms = true) {i j : Nat} {a b : α} (hij : i < j) (ha : xs[i]? = some a) (hb : xs[j]? = some b) : (ms.getD j 0).testBit i = true \/ p a b = true :=
  Zx5 (seen := []) rfl h j i b a hb (by omega) (by simpa using ha)
def Xn : ∀ (os : List Oper) (acc : List Nat) (k : Nat), k < acc.length -> (vj os acc).getD k 0 = acc.getD k 0
  | [], acc, k, _ => rfl
  | o :: os, acc, k, h => by
    simp only [vj]
    rw [Xn os _ k (by simp; omega)]
    simp only [List.getD_eq_getElem?_getD]
    rw [iM h]
def Zot : ∀ (os : List Oper) (acc : List Nat) (j : Nat) (o : Oper), os[j]? = some o ->
    ∃ pre : List Nat, pre.length = acc.length + j /\ (vj os acc).getD (acc.length + j) 0 = K0 o pre /\ ∀ k, k < acc.length + j -> (vj os acc).getD k 0 = pre.getD k 0
  | [], acc, j, o, h => by simp at h
  | o0 :: os, acc, 0, o, h => by
    simp only [Bl, al] at h
    subst h
    refine ⟨acc, rfl, ?_, fun k hk => ?_⟩
    · simp only [vj]
      rw [Xn os _ _ (by simp)]
      simp [List.getD_eq_getElem?_getD]
    · exact Xn (o0 :: os) acc k hk
  | o0 :: os, acc, j + 1, o, h => by
    obtain ⟨pre, h1, h2, h3⟩ := Zot os (acc ++ [K0 o0 acc]) j o (by simpa using h)
    simp only [iI, bo, List.length_nil] at h1 h2 h3
    refine ⟨pre, by omega, ?_, ?_⟩
    · rw [show acc.length + (j + 1) = acc.length + (0 + 1) + j by omega]; exact h2
    · intro k hk; exact h3 k (by omega)
def Yaz {o : Oper} {ms : List Nat} {i : Nat} (h : (K0 o ms).testBit i = true) : ∃ e ∈ o.after, Region.binds .any e = true /\ (i = e.on \/ (ms.getD e.on 0).testBit i = true) := by
  have key : ∀ (l : List Edge) (s : Nat), (l.foldl (fun s e => if Region.binds .any e then s ||| 2 ^ e.on ||| ms.getD e.on 0 else s) s).testBit i = true ->
      s.testBit i = true \/ ∃ e ∈ l, Region.binds .any e = true /\ (i = e.on \/ (ms.getD e.on 0).testBit i = true) := by
    intro l
    induction l with
    | nil => intro s h; exact .inl h
    | cons e l ih =>
      intro s h
      simp only [List.foldl_cons] at h
      rcases ih _ h with h | ⟨e', h1, h2⟩
      · split at h
        · rename_i hb
          simp only [Nat.testBit_or, Gg] at h
          rcases h with (h | h) | h
          · exact .inl h
          · rw [Nat.testBit_two_pow] at h
            exact .inr ⟨e, by simp, hb, .inl (by simpa using (of_decide_eq_true h).symm)⟩
          · exact .inr ⟨e, by simp, hb, .inr h⟩
        · exact .inl h
      · exact .inr ⟨e', by simp [h1], h2⟩
  unfold K0 at h
  rw [<- Array.foldl_toList] at h
  rcases key _ _ h with h | ⟨e, h1, h2⟩
  · simp at h
  · exact ⟨e, by simpa using h1, h2⟩
def Yjt {ops : Array Oper} {j i : Nat} {o : Oper} (ho : ops[j]? = some o) (h : ((vj ops.toList []).getD j 0).testBit i = true) :
    ∃ e ∈ o.after, Region.binds .any e = true /\ (i = e.on \/ ((vj ops.toList []).getD e.on 0).testBit i = true) := by
  obtain ⟨pre, h1, h2, h3⟩ := Zot ops.toList [] j o (by rw [Ck]; exact ho)
  simp only [List.length_nil, xg] at h1 h2 h3
  rw [h2] at h
  obtain ⟨e, g1, g2, g3⟩ := Yaz h
  refine ⟨e, g1, g2, g3.imp id fun hb => ?_⟩
  by_cases he : e.on < j
  · rw [h3 _ he]; exact hb
  · have : pre.getD e.on 0 = 0 := by simp [List.getD_eq_getElem?_getD, h1, yX he]
    rw [this] at hb; simp at hb
def Ynb (ops : Array Oper) (S : Nat -> Prop) : Prop := ∀ k i, S k -> ((vj ops.toList []).getD k 0).testBit i = true -> S i
def Zqj {ops : Array Oper} {listed : Array Bool} (hc : Ynb ops (fun k => listed.getD k false = true)) {j : Nat} (hj : j ∈ Region.ready .any ops listed) :
    j < ops.size /\ listed.getD j true = false /\ ∀ i, ((vj ops.toList []).getD j 0).testBit i = true -> listed.getD i false = true := by
  unfold Region.ready at hj
  simp only [List.mem_filter, u9, iE, Gf] at hj
  obtain ⟨h1, h2, h3⟩ := hj
  refine ⟨h1, h2, fun i hi => ?_⟩
  have ho : ops[j]? = some ops[j] := Array.getElem?_eq_getElem h1
  obtain ⟨e, g1, g2, g3⟩ := Yjt ho hi
  rw [ho] at h3
  simp only [pL, fX, Wa, Gg, Gf] at h3
  have he : listed.getD e.on false = true := by
    rcases h3 e g1 with h | h
    · rw [g2] at h; cases h
    · exact h
  rcases g3 with rfl | g3
  · exact he
  · exact hc _ _ he g3
mutual
def Sc (n : Nat) : V -> Prop
  | .ptr i _ => i < n
  | .slice i _ _ _ _ => i < n
  | .map i => i < n
  | .chan i => i < n
  | .func _ a c => EE n a /\ EE n c
  | .yield i => i < n
  | .iface _ v => Sc n v
  | .agg l => EE n l
  | .aX l => EE n l
  | _ => True
def EE (n : Nat) : List V -> Prop
  | [] => True
  | v :: vs => Sc n v /\ EE n vs
end
mutual
def VR.sc {μ : Mu} {n : Nat} (h : ∀ i l, μ i = some l -> i < n) : ∀ (v : V) (x : Value), VR μ v x -> Sc n v
  | .bool _, _, _ => by simp [Sc]
  | .int _ _, _, _ => by simp [Sc]
  | .vf _ _, _, _ => by simp [Sc]
  | .str _, _, _ => by simp [Sc]
  | .bF, _, _ => by simp [Sc]
  | .ptr _ _, _, hx => by simp only [VR] at hx; obtain ⟨l, h1, _⟩ := hx; exact h _ _ h1
  | .aa, _, _ => by simp [Sc]
  | .slice _ _ _ _ _, _, hx => by simp only [VR] at hx; obtain ⟨l, c, h1, _⟩ := hx; exact h _ _ h1
  | .empty, _, _ => by simp [Sc]
  | .bN, _, _ => by simp [Sc]
  | .map _, _, hx => by simp only [VR] at hx; obtain ⟨l, h1, _⟩ := hx; exact h _ _ h1
  | .bR, _, _ => by simp [Sc]
  | .chan _, _, hx => by simp only [VR] at hx; obtain ⟨l, h1, _⟩ := hx; exact h _ _ h1
  | .func _ a c, _, hx => by
    simp only [VR] at hx; obtain ⟨a', c', _, h2, h3⟩ := hx
    exact ⟨aV.sc h a a' h2, aV.sc h c c' h3⟩
  | .yield _, _, hx => by simp only [VR] at hx; obtain ⟨l, h1, _⟩ := hx; exact h _ _ h1
  | .bD, _, _ => by simp [Sc]
  | .iface _ v, _, hx => by simp only [VR] at hx; obtain ⟨y, _, h2⟩ := hx; exact VR.sc h v y h2
  | .a_, _, _ => by simp [Sc]
  | .agg vs, _, hx => by simp only [VR] at hx; obtain ⟨a, _, h2⟩ := hx; exact aV.sc h vs a h2
  | .aX vs, _, hx => by simp only [VR] at hx; obtain ⟨a, _, h2⟩ := hx; exact aV.sc h vs a h2
def aV.sc {μ : Mu} {n : Nat} (h : ∀ i l, μ i = some l -> i < n) : ∀ (vs : List V) (xs : List Value), aV μ vs xs -> EE n vs
  | [], _, _ => trivial
  | v :: vs, _, hx => by
    simp only [aV] at hx
    obtain ⟨y, ys, _, h2, h3⟩ := hx
    exact ⟨VR.sc h v y h2, aV.sc h vs ys h3⟩
end
mutual
def VR.cut {μ μ' : Mu} {n : Nat} (h : ∀ i l, i < n -> μ i = some l -> μ' i = some l) : ∀ (v : V) (x : Value), Sc n v -> VR μ v x -> VR μ' v x
  | .bool _, _, _, hx => by simpa [VR] using hx
  | .int _ _, _, _, hx => by simpa [VR] using hx
  | .vf _ _, _, _, hx => by simpa [VR] using hx
  | .str _, _, _, hx => by simpa [VR] using hx
  | .bF, _, _, hx => by simpa [VR] using hx
  | .ptr _ _, _, hs, hx => by simp only [VR, Sc] at *; obtain ⟨l, h1, h2⟩ := hx; exact ⟨l, h _ _ hs h1, h2⟩
  | .aa, _, _, hx => by simpa [VR] using hx
  | .slice _ _ _ _ _, _, hs, hx => by simp only [VR, Sc] at *; obtain ⟨l, c, h1, h2⟩ := hx; exact ⟨l, c, h _ _ hs h1, h2⟩
  | .empty, _, _, hx => by simpa [VR] using hx
  | .bN, _, _, hx => by simpa [VR] using hx
  | .map _, _, hs, hx => by simp only [VR, Sc] at *; obtain ⟨l, h1, h2⟩ := hx; exact ⟨l, h _ _ hs h1, h2⟩
  | .bR, _, _, hx => by simpa [VR] using hx
  | .chan _, _, hs, hx => by simp only [VR, Sc] at *; obtain ⟨l, h1, h2⟩ := hx; exact ⟨l, h _ _ hs h1, h2⟩
  | .func _ a c, _, hs, hx => by
    simp only [VR, Sc] at *; obtain ⟨a', c', h1, h2, h3⟩ := hx
    exact ⟨a', c', h1, aV.cut h a a' hs.1 h2, aV.cut h c c' hs.2 h3⟩
  | .yield _, _, hs, hx => by simp only [VR, Sc] at *; obtain ⟨l, h1, h2⟩ := hx; exact ⟨l, h _ _ hs h1, h2⟩
  | .bD, _, _, hx => by simpa [VR] using hx
  | .iface _ v, _, hs, hx => by simp only [VR, Sc] at *; obtain ⟨y, h1, h2⟩ := hx; exact ⟨y, h1, VR.cut h v y hs h2⟩
  | .a_, _, _, hx => by simpa [VR] using hx
  | .agg vs, _, hs, hx => by simp only [VR, Sc] at *; obtain ⟨a, h1, h2⟩ := hx; exact ⟨a, h1, aV.cut h vs a hs h2⟩
  | .aX vs, _, hs, hx => by simp only [VR, Sc] at *; obtain ⟨a, h1, h2⟩ := hx; exact ⟨a, h1, aV.cut h vs a hs h2⟩
def aV.cut {μ μ' : Mu} {n : Nat} (h : ∀ i l, i < n -> μ i = some l -> μ' i = some l) : ∀ (vs : List V) (xs : List Value), EE n vs -> aV μ vs xs -> aV μ' vs xs
  | [], _, _, hx => by simpa [aV] using hx
  | v :: vs, _, hs, hx => by
    simp only [aV, EE] at *
    obtain ⟨y, ys, h1, h2, h3⟩ := hx
    exact ⟨y, ys, h1, VR.cut h v y hs.1 h2, aV.cut h vs ys hs.2 h3⟩
end
def OM.cut {P : Program} {μ μ' μT : Mu} {w wT : World} {n : Nat} (h : ∀ i l, i < n -> μ i = some l -> μ' i = some l) (hT : ∀ i l, μT i = some l -> i < n) {o : O} {l lT : L} (ht : OM P μT wT o lT) (ho : OM P μ w o l) : OM P μ' w o l := by
  cases o with
  | cells c e rw =>
    obtain ⟨c', lo, hi, h1, h2, h3, h4, h5⟩ := ho
    obtain ⟨cT, _, _, _, _, _, t4, _⟩ := ht
    exact ⟨c', lo, hi, h1, h2, h3, fun j v hv => by
      obtain ⟨x, a, b⟩ := h4 j v hv
      obtain ⟨xT, _, bT⟩ := t4 j v hv
      exact ⟨x, a, VR.cut h v x (VR.sc hT v xT bT) b⟩, h5⟩
  | map es =>
    obtain ⟨gJ, h1, h2⟩ := ho
    obtain ⟨esT, _, t2⟩ := ht
    refine ⟨gJ, h1, ?_⟩
    have : ∀ (es : List (V × V)) (xs xT : List MapEntry) (b bT : Nat), iG μ es xs b -> iG μT es xT bT -> iG μ' es xs b := by
      intro es
      induction es with
      | nil => intro xs xT b bT h1 _; exact h1
      | cons p es ih =>
        intro xs xT b bT h1 h2
        obtain ⟨k, u⟩ := p
        obtain ⟨e, ys, rfl, a1, a2, a3, a4⟩ := h1
        obtain ⟨eT, yT, rfl, b1, b2, _, b4⟩ := h2
        exact ⟨e, ys, rfl, VR.cut h k _ (VR.sc hT k _ b1) a1, VR.cut h u _ (VR.sc hT u _ b2) a2, a3, ih ys yT _ _ a4 b4⟩
    exact this _ _ _ _ _ h2 t2
  | chan cap buf =>
    obtain ⟨b', s, r, h1, h2⟩ := ho
    obtain ⟨bT, _, _, _, t2⟩ := ht
    exact ⟨b', s, r, h1, aV.cut h _ _ (aV.sc hT _ _ t2) h2⟩
  | eG s pos => simp only [OM] at *; exact ho
  | loop R =>
    obtain ⟨fn, tmps, fK, fL, ld, h1, h2, h3, h4, h5⟩ := ho
    obtain ⟨_, tT, _, _, ldT, _, t2, _, _, t5⟩ := ht
    refine ⟨fn, tmps, fK, fL, ld, h1, ⟨h2.1, fun t v hv => ?_⟩, h3, h4, h _ _ (hT _ _ t5) h5⟩
    obtain ⟨x, a, b⟩ := h2.2 t v hv
    obtain ⟨xT, _, bT⟩ := t2.2 t v hv
    exact ⟨x, a, VR.cut h v x (VR.sc hT v xT bT) b⟩
  | defs b => simp only [OM] at *; exact ho
  | dead => trivial
end
section
variable {P:Program} {μ:Mu} {w:World} {st aC:St} {fr bE:Fr} {a:Act} {call:cI} {v:V} {lb:Option Nat}
def Yu9(bZ:jm P call)(hE:uy P)(hh:bm P μ w st)(hf:mO μ fr a){o:Oper}(h:cm (zV P o.op) call fr.r st=some (v,aC)):∃x w' μ' ws,VR μ' v x/\bH P μ w st μ' w' aC ws:=by
 have hwp:=WQ (lb:=none) (Q:=fun _ _ _=>False) (K:=fun _ _=>∃x w' μ' ws,VR μ' v x/\bH P μ w st μ' w' aC ws) bZ hE hh hf h (fun x w' μ' ws h1 h2=>⟨x,w',μ',ws,h1,h2⟩)
 obtain⟨_,hu⟩:=hwp
 generalize (o.semAt (FE none).round a.eval).run P w=res at hu
 cases res with
 |halt x w'=>cases x<;>simp only[Oper.uponIn]at hu
 |ok x w'=>
  cases x<;>simp only[Oper.uponIn]at hu
  case value=>exact hu
  case skip=>exact hu
  case defer=>exact hu
  case enter f args=>
   obtain⟨e,w',fr,hR,_⟩:=hu.2.2 [] (fun d hd=>by simp[Fence.wide]at hd)
   cases e with
   |returned v=>exact hR
   |panicked c=>exact hR.elim
   |outgrown=>obtain⟨_,_,hq⟩:=hR;exact hq.elim
  case row r args=>
   obtain⟨v',w',hR,_⟩:=hu.2 default [] (fun d hd=>by simp[Fence.wide]at hd)
   exact hR
  case round l f tmps fK fL=>
   obtain⟨e,w',hR,_⟩:=hu.2.2 default [] (fun d hd=>by simp[Fence.wide]at hd)
   cases e with
   |returned v=>exact hR
   |panicked c=>exact hR.elim
   |outgrown=>obtain⟨_,_,hq⟩:=hR;exact hq.elim
def An(P:Program)(call:cI)(ops:Array Oper)(o:Oper)(st:St)(fr:Fr)(v:V)(f:FP)(bY:St)(ec:Fr):Prop:=
 ∃g b,F3 ops o.guard=some g/\bS fr.r g=some b/\fr.put o.dst v=some ec/\
  (b=true->∃s',cm (zV P o.op) call fr.r {st with w:=[]}=some (v,s')/\bY={s' with w:=ax st.n s'.w++st.w}/\f=oY fr.r (zV P o.op) (ax st.n s'.w) st.n s'.n)/\
  (b=false->v=.aX []/\bY=st/\f=⟨some [],[],st.n,st.n⟩)
def Ztl{ops:Array Oper}:∀(os:List Oper) (fr:Fr) (st:St) (gO:List FP) (bE:Fr) (aC:St),bJ call (os.map (qZ P ops)) fr st=some (gO,bE,aC)->
  ∃(aL:Nat->St) (bq:Nat->Fr) (vI:Nat->V) (bf:Nat->FP),aL 0=st/\bq 0=fr/\aL os.length=aC/\bq os.length=bE/\gO.length=os.length/\
   ∀i o,os[i]?=some o->gO[i]?=some (bf i)/\An P call ops o (aL i) (bq i) (vI i) (bf i) (aL (i+1)) (bq (i+1))
 |[],fr,st,gO,bE,aC,h=>by
  simp only[yY,bJ,Yd7,al,bu]at h
  obtain⟨rfl,rfl,rfl⟩:=h
  exact⟨fun _=>st,fun _=>fr,fun _=>.bF,fun _=>⟨none,[],0,0⟩,rfl,rfl,rfl,rfl,rfl,fun i o h=>by simp at h⟩
 |o::os,fr,st,gO,bE,aC,h=>by
  simp only[py,bJ,Br]at h
  have go:∀(v:V) (f:FP) (bY:St) (ec:Fr) (tv:List FP),An P call ops o st fr v f bY ec->bJ call (os.map (qZ P ops)) ec bY=some (tv,bE,aC)->gO=f::tv->
    ∃(aL:Nat->St) (bq:Nat->Fr) (vI:Nat->V) (bf:Nat->FP),aL 0=st/\bq 0=fr/\aL (o::os).length=aC/\bq (o::os).length=bE/\gO.length=(o::os).length/\
     ∀i o',(o::os)[i]?=some o'->gO[i]?=some (bf i)/\An P call ops o' (aL i) (bq i) (vI i) (bf i) (aL (i+1)) (bq (i+1)):=by
   intro v f bY ec tv hs hm hf
   obtain⟨aL,bq,vI,bf,h1,h2,h3,h4,h5,h6⟩:=Ztl os ec bY tv bE aC hm
   refine⟨fun|0=>st|i+1=>aL i,fun|0=>fr|i+1=>bq i,fun|0=>v|i+1=>vI i,fun|0=>f|i+1=>bf i,rfl,rfl,h3,h4,by simp[hf,h5],fun i o' ho=>?_⟩
   cases i with
   |zero=>
    simp only[Bl,al]at ho
    subst ho
    refine⟨by simp[hf],?_⟩
    show An P call ops o st fr v f (aL 0) (bq 0)
    rw[h1,h2];exact hs
   |succ i=>
    obtain⟨g1,g2⟩:=h6 i o' (by simpa using ho)
    exact⟨by simpa[hf]using g1,g2⟩
  unfold qZ at h
  cases hg:F3 ops o.guard with
  |none=>
   rw[hg]at h
   simp only[bS,cm,Wg]at h
   cases h
  |some g=>
   rw[hg]at h
   simp only at h
   cases hw:bS fr.r g with
   |none=>rw[hw]at h;cases h
   |some b=>
    rw[hw]at h
    cases b with
    |true=>
     simp only at h
     split at h
     ·rename_i v1 s1 hm
      split at h
      ·rename_i ec hp
       split at h
       ·rename_i tv BD fh gU
        simp only[al,bu]at h
        obtain⟨rfl,rfl,rfl⟩:=h
        exact go v1 _ _ ec tv ⟨g,true,hg,hw,hp,fun _=>⟨s1,hm,rfl,rfl⟩,fun hc=>by cases hc⟩ gU rfl
       ·cases h
      ·cases h
     ·cases h
    |false=>
     simp only at h
     split at h
     ·rename_i ec hp
      split at h
      ·rename_i tv BD fh gU
       simp only[al,bu]at h
       obtain⟨rfl,rfl,rfl⟩:=h
       exact go (.aX []) _ st ec tv ⟨g,false,hg,hw,hp,(fun hc=>by cases hc),fun _=>⟨rfl,rfl,rfl⟩⟩ gU rfl
      ·cases h
     ·cases h
def WR{op:gh}{s':St}(hm:cm op call fr.r {st with w:=[]}=some (v,s'))(lo hi:Nat):(oY fr.r op (ax st.n s'.w) lo hi).wr=ax st.n s'.w/\(oY fr.r op (ax st.n s'.w) lo hi).lo=lo/\(oY fr.r op (ax st.n s'.w) lo hi).hi=hi:=by
 unfold oY
 split
 ·rename_i hs
  rcases Zn1 hs .nil [] hm with⟨h1,_⟩|⟨o,h1,_⟩
  ·subst h1;exact⟨rfl,rfl,rfl⟩
  ·subst h1;exact⟨rfl,rfl,rfl⟩
 ·split
  ·split<;>exact⟨rfl,rfl,rfl⟩
  ·exact⟨rfl,rfl,rfl⟩
def Ycx(bZ:jm P call)(hE:uy P)(hh:bm P μ w st)(hf:mO μ fr a){ops:Array Oper}{o:Oper}{f:FP}{bY:St}{ec:Fr}(h:An P call ops o st fr v f bY ec):
  ∃w' μ' a',bH P μ w st μ' w' bY f.wr/\mO μ' ec a'/\f.lo=st.n/\f.hi=bY.n:=by
 obtain⟨g,b,hg,hw,hp,ht,Lo⟩:=h
 cases b with
 |true=>
  obtain⟨s',hm,rfl,rfl⟩:=ht rfl
  obtain⟨x,w',μ',ws,h1,h2⟩:=Yu9 bZ hE (hh.now []) hf hm
  have h3:=h2.fold hh
  obtain⟨e1,e2,e3⟩:=WR (call:=call) hm st.n s'.n
  rw[e1,e2,e3]
  exact⟨w',μ',_,h3,(hf.mono (h3.mono hh)).put h1 hp,rfl,rfl⟩
 |false=>
  obtain⟨rfl,rfl,rfl⟩:=Lo rfl
  exact⟨w,μ,_,bH.refl hh,hf.put (v:=.aX []) (x:=undef) ⟨[],rfl,by simp[aV]⟩ hp,rfl,rfl⟩
structure vF (P:Program) (μ:Mu) (aL:Nat->St) (bq:Nat->Fr) (bf:Nat->FP) (N:Nat):Prop where
 fx:∀i,i<N->(aL i).n<=(aL (i+1)).n
 lo:∀i,i<N->(bf i).lo=(aL i).n
 hi:∀i,i<N->(bf i).hi=(aL (i+1)).n
 wl:∀i,i<N->(aL (i+1)).w=(bf i).wr++(aL i).w
 WJ:∀i,i<N->∀j∈(bf i).wr,j<(aL i).n
 ae:∀i,i<N->∀j,j<(aL i).n->j∉(bf i).wr->(aL (i+1)).h.get j=(aL i).h.get j
 grow:∀i,i<N->∀j o',j<(aL i).n->(aL (i+1)).h.get j=some o'->∃o,(aL i).h.get j=some o/\(o'.wr=true->o.wr=true)/\(o'.live=true->o.live=true)
 yW:∀i,i<N->∀j∈(bf i).wr,∃o,(aL i).h.get j=some o/\o.wr=true
 scr:∀i,i<=N->∀t v,(bq i).r.get t=some v->Sc (aL i).n v
 sch:∀i,i<=N->∀j,(j<(aL 0).n->∃l,μ j=some l)->j<(aL i).n->∃o μT wT lT,(aL i).h.get j=some o/\OM P μT wT o lT/\∀k l,μT k=some l->k<(aL i).n
 fn:∀i,i<=N->(bq i).n=(bq 0).n/\(bq i).marks=(bq 0).marks
def Yry{ops:Array Oper}{o:Oper}{f:FP}{bY:St}{ec:Fr}(h:An P call ops o st fr v f bY ec):∀j∈f.wr,j<st.n:=by
 have key:∀(l:List Nat) (n j:Nat),j∈ax n l->j<n:=by
  intro l n j hj
  induction l with
  |nil=>simp[ax]at hj
  |cons i l ih=>
   simp only[ax]at hj
   split at hj
   ·unfold uW at hj
    split at hj
    ·exact ih hj
    ·simp only[kW]at hj
     rcases hj with rfl|hj
     ·assumption
     ·exact ih hj
   ·exact ih hj
 obtain⟨g,b,hg,hw,hp,ht,Lo⟩:=h
 cases b with
 |true=>
  obtain⟨s',hm,rfl,rfl⟩:=ht rfl
  rw[(WR (call:=call) hm _ _).1]
  exact key _ _
 |false=>
  obtain⟨rfl,rfl,rfl⟩:=Lo rfl
  intro j hj
  simp at hj
def Yi0{d:Option Nat}(h:fr.put d v=some bE):bE.n=fr.n/\bE.marks=fr.marks:=by
 cases d with
 |none=>simp only[Fr.put,al]at h;subst h;exact⟨rfl,rfl⟩
 |some d=>
  simp only[Fr.put]at h
  split at h
  ·simp only[al]at h;subst h;exact⟨rfl,rfl⟩
  ·cases h
def Zzb(bZ:jm P call)(hE:uy P){ops:Array Oper}{aL:Nat->St}{bq:Nat->Fr}{vI:Nat->V}{bf:Nat->FP}{N:Nat}{os:List Oper}(hN:os.length=N)
  (hh:bm P μ w (aL 0)) (hf:mO μ (bq 0) a) (hs:∀i o,os[i]?=some o->An P call ops o (aL i) (bq i) (vI i) (bf i) (aL (i+1)) (bq (i+1))):
  ∀i,i<=N->∃w' μ' a' ws,bH P μ w (aL 0) μ' w' (aL i) ws/\mO μ' (bq i) a':=by
 intro i
 induction i with
 |zero=>exact fun _=>⟨w,μ,a,[],bH.refl hh,hf⟩
 |succ i ih=>
  intro hi
  obtain⟨w',μ',a',ws,h1,h2⟩:=ih (by omega)
  have ho:os[i]?=some (os[i]'(by omega)):=cy (by omega)
  obtain⟨w2,μ2,a2,h3,h4,_⟩:=Ycx bZ hE h1.hr h2 (hs i _ ho)
  exact⟨w2,μ2,a2,_,h1.trans h3,h4⟩
def Yr3(bZ:jm P call)(hE:uy P){ops:Array Oper}{aL:Nat->St}{bq:Nat->Fr}{vI:Nat->V}{bf:Nat->FP}{N:Nat}{os:List Oper}(hN:os.length=N)
  (hh:bm P μ w (aL 0)) (hf:mO μ (bq 0) a) (hs:∀i o,os[i]?=some o->An P call ops o (aL i) (bq i) (vI i) (bf i) (aL (i+1)) (bq (i+1))):vF P μ aL bq bf N:=by
 have Xo:=Zzb bZ hE hN hh hf hs
 have cO:∀i,i<N->∃o,os[i]?=some o:=fun i hi=>⟨_,cy (by omega)⟩
 have oh:∀i,i<N->∃w1 μ1 w2 μ2 a2,bH P μ1 w1 (aL i) μ2 w2 (aL (i+1)) (bf i).wr/\mO μ2 (bq (i+1)) a2/\(bf i).lo=(aL i).n/\(bf i).hi=(aL (i+1)).n:=fun i hi=>by
  obtain⟨w',μ',a',ws,h1,h2⟩:=Xo i (by omega)
  obtain⟨o,ho⟩:=cO i hi
  obtain⟨w2,μ2,a2,h3,h4,h5,h6⟩:=Ycx bZ hE h1.hr h2 (hs i o ho)
  exact⟨w',μ',w2,μ2,a2,h3,h4,h5,h6⟩
 refine⟨fun i hi=>?_,fun i hi=>?_,fun i hi=>?_,fun i hi=>?_,fun i hi=>?_,fun i hi=>?_,fun i hi=>?_,fun i hi=>?_,fun i hi t v hv=>?_,fun i hi j hj F6=>?_,fun i=>?_⟩
 ·obtain⟨_,_,_,_,_,h,_⟩:=oh i hi;exact h.fx
 ·obtain⟨_,_,_,_,_,_,_,h,_⟩:=oh i hi;exact h
 ·obtain⟨_,_,_,_,_,_,_,_,h⟩:=oh i hi;exact h
 ·obtain⟨_,_,_,_,_,h,_⟩:=oh i hi;exact h.wl
 ·obtain⟨o,ho⟩:=cO i hi;exact Yry (hs i o ho)
 ·obtain⟨_,_,_,_,_,h,_⟩:=oh i hi;exact h.ae
 ·obtain⟨_,_,_,_,_,h,_⟩:=oh i hi;exact h.grow
 ·obtain⟨o,ho⟩:=cO i hi
  obtain⟨_,_,_,_,_,h,_⟩:=oh i hi
  exact fun j hj=>h.yW j hj (Yry (hs i o ho) j hj)
 ·obtain⟨w',μ',a',ws,h1,h2⟩:=Xo i hi
  obtain⟨x,_,hx⟩:=h2.1.2 t v hv
  exact VR.sc (fun k l hk=>(h1.hr.dc k l hk).1) v x hx
 ·obtain⟨w',μ',a',ws,h1,h2⟩:=Xo i hi
  have hl:∃l,μ' j=some l:=by
   by_cases h0:j<(aL 0).n
   ·obtain⟨l,hl⟩:=hj h0
    exact⟨l,(h1.ext j h0).trans hl⟩
   ·exact h1.full j (by omega) F6
  obtain⟨l,hl⟩:=hl
  obtain⟨o,Bk,ym⟩:=h1.hr.obj j l hl
  exact⟨o,μ',w',l,Bk,ym,fun k l hk=>(h1.hr.dc k l hk).1⟩
 ·induction i with
  |zero=>exact fun _=>⟨rfl,rfl⟩
  |succ i ih=>
   intro hi
   obtain⟨o,ho⟩:=cO i (by omega)
   obtain⟨g,b,_,_,hp,_⟩:=hs i o ho
   obtain⟨e1,e2⟩:=Yi0 hp
   obtain⟨f1,f2⟩:=ih (by omega)
   exact⟨e1.trans f1,e2.trans f2⟩
end
def vG(aL:Nat->St)(bf:Nat->FP)(k j:Nat):Prop:=j∈(bf k).wr\/((aL k).n<=j/\j<(aL (k+1)).n)
instance (aL:Nat->St) (bf:Nat->FP) (k j:Nat):Decidable (vG aL bf k j):=by unfold vG;infer_instance
def jI(aL:Nat->St)(bf:Nat->FP)(S:Nat->Bool):Nat->Nat->Option O
 |0,j=>(aL 0).h.get j
 |k+1,j=>if S k=true/\vG aL bf k j then (aL (k+1)).h.get j else jI aL bf S k j
def vE(bq:Nat->Fr)(ds:Nat->Option Nat)(S:Nat->Bool):Nat->Nat->Option V
 |0,t=>(bq 0).r.get t
 |k+1,t=>if S k=true/\ds k=some t then (bq (k+1)).r.get t else vE bq ds S k t
def mi(S:Nat->Bool)(i:Nat):Nat->Bool:=fun k=>if k=i then true else S k
section
variable {P:Program} {μ:Mu} {aL:Nat->St} {bq:Nat->Fr} {bf:Nat->FP} {ds:Nat->Option Nat} {S:Nat->Bool} {N:Nat}
def WM(T:vF P μ aL bq bf N):∀{i j:Nat},i<=N->j<(aL i).n->(∀k,k<i->vG aL bf k j->S k=true)->jI aL bf S i j=(aL i).h.get j
 |0,j,_,_,_=>rfl
 |i+1,j,hi,hj,h=>by
  simp only[jI]
  by_cases ht:vG aL bf i j
  ·rw[av ⟨h i (by omega) ht,ht⟩]
  ·rw[ak (fun hc=>ht hc.2)]
   simp only[vG,not_or,not_and,s_]at ht
   have ay:j<(aL i).n:=by
    rcases Nat.lt_or_ge j (aL i).n with h1|h1
    ·exact h1
    ·have:=ht.2 h1;omega
   rw[WM T (by omega) ay fun k hk=>h k (by omega),T.ae i (by omega) j ay ht.1]
def QC:∀{M i j:Nat},i<=M->(∀k,i<=k->k<M->vG aL bf k j->S k=false)->jI aL bf S M j=jI aL bf S i j
 |0,i,j,hi,_=>by rw[Nat.le_zero.1 hi]
 |M+1,i,j,hi,h=>by
  by_cases e:i=M+1
  ·rw[e]
  ·simp only[jI]
   rw[ak,QC (by omega) fun k h1 h2=>h k h1 (by omega)]
   rintro⟨h1,h2⟩
   rw[h M (by omega) (by omega) h2]at h1;cases h1
def Zij{i:Nat}:∀{M j:Nat},¬vG aL bf i j->jI aL bf (mi S i) M j=jI aL bf S M j
 |0,j,_=>rfl
 |M+1,j,h=>by
  simp only[jI]
  rw[Zij h]
  by_cases e:M=i
  ·subst e
   rw[ak (fun hc=>h hc.2),ak (fun hc=>h hc.2)]
  ·simp only[mi,e,if_false]
def Ygz{i j:Nat}(hi:i<N)(ht:vG aL bf i j)(h:∀k,i<k->k<N->vG aL bf k j->S k=false):jI aL bf (mi S i) N j=(aL (i+1)).h.get j:=by
 rw[QC (i:=i+1) (by omega) fun k h1 h2 h3=>by simp only[mi];rw[ak (by omega)];exact h k (by omega) h2 h3]
 simp only[jI,mi]
 rw[av ⟨by simp,ht⟩]
def GL(bq:Nat->Fr)(ds:Nat->Option Nat)(vI:Nat->V)(N:Nat):Prop:=∀i,i<N->∀t,(bq (i+1)).r.get t=if ds i=some t then some (vI i) else (bq i).r.get t
def WN{vI:Nat->V}(T:GL bq ds vI N):∀{i t:Nat},i<=N->(∀k,k<i->ds k=some t->S k=true)->vE bq ds S i t=(bq i).r.get t
 |0,t,_,_=>rfl
 |i+1,t,hi,h=>by
  simp only[vE]
  by_cases ht:ds i=some t
  ·rw[av ⟨h i (by omega) ht,ht⟩]
  ·rw[ak (fun hc=>ht hc.2),WN T (by omega) fun k hk=>h k (by omega),T i (by omega) t,ak ht]
def QD:∀{M i t:Nat},i<=M->(∀k,i<=k->k<M->ds k=some t->S k=false)->vE bq ds S M t=vE bq ds S i t
 |0,i,t,hi,_=>by rw[Nat.le_zero.1 hi]
 |M+1,i,t,hi,h=>by
  by_cases e:i=M+1
  ·rw[e]
  ·simp only[vE]
   rw[ak,QD (by omega) fun k h1 h2=>h k h1 (by omega)]
   rintro⟨h1,h2⟩
   rw[h M (by omega) (by omega) h2]at h1;cases h1
def Zii{i:Nat}:∀{M t:Nat},ds i≠some t->vE bq ds (mi S i) M t=vE bq ds S M t
 |0,t,_=>rfl
 |M+1,t,h=>by
  simp only[vE]
  rw[Zii h]
  by_cases e:M=i
  ·subst e
   rw[ak (fun hc=>h hc.2),ak (fun hc=>h hc.2)]
  ·simp only[mi,e,if_false]
def Ygy{vI:Nat->V}(T:GL bq ds vI N){i t:Nat}(hi:i<N)(ht:ds i=some t)(h:∀k,i<k->k<N->ds k=some t->S k=false):vE bq ds (mi S i) N t=some (vI i):=by
 rw[QD (i:=i+1) (by omega) fun k h1 h2 h3=>by simp only[mi];rw[ak (by omega)];exact h k (by omega) h2 h3]
 simp only[vE,mi]
 rw[av ⟨by simp,ht⟩,T i hi t,av ht]
def Al(r:T V):List Nat->T V
 |[]=>.nil
 |t::ts=>match r.get t with
  |some v=>(Al r ts).set t v
  |none=>Al r ts
def Ll(r:T V):∀(ts:List Nat) (t:Nat),(Al r ts).get t=if t∈ts then r.get t else none
 |[],t=>by simp[Al,T.get]
 |u::ts,t=>by
  simp only[Al]
  split
  ·rename_i v hv
   rw[T.ag,Ll r ts t]
   by_cases e:t=u
   ·subst e;simp[hv]
   ·simp[e]
  ·rename_i hv
   rw[Ll r ts t]
   by_cases e:t=u
   ·subst e;simp[hv]
   ·simp[e]
def Yqw{r:T V}{ts:List Nat}{s:Src}(h:∀t∈s.tmps,t∈ts):s.ev (Al r ts)=s.ev r:=by
 cases s with
 |const v=>rfl
 |tmp t=>simp only[Src.ev];rw[Ll,av (h t (by simp[Src.tmps]))]
def rn(h:T O)(ae:List Nat):Nat->T O
 |0=>.nil
 |n+1=>match h.get n with
  |some o=>(rn h ae n).set n (if n∈ae then o else .dead)
  |none=>rn h ae n
def Jy(h:T O)(ae:List Nat):∀(n j:Nat),(rn h ae n).get j=if j<n then (h.get j).map fun o=>if j∈ae then o else .dead else none
 |0,j=>by simp[rn,T.get]
 |n+1,j=>by
  simp only[rn]
  split
  ·rename_i o ho
   rw[T.ag,Jy h ae n j]
   by_cases e:j=n
   ·subst e;simp[ho]
   ·rw[ak e]
    by_cases e2:j<n
    ·rw[av e2,av (by omega)]
    ·rw[ak e2,ak (by omega)]
  ·rename_i ho
   rw[Jy h ae n j]
   by_cases e:j=n
   ·subst e;simp[ho]
   ·by_cases e2:j<n
    ·rw[av e2,av (by omega)]
    ·rw[ak e2,ak (by omega)]
def FP.dk(f:FP)(j:Nat):Prop:=
 match f.rd with
 |none=>True
 |some l=>j∈l
def Ydo{st σ:St}{i:Nat}(h:σ.h.get i=st.h.get i):σ.row i=st.row i:=by unfold St.row;rw[h]
def Yjy{call:cI}{r:T V}{op:gh}{st s':St}{v:V}{ws:List Nat}{lo hi:Nat}(hm:cm op call r {st with w:=[]}=some (v,s'))(fN:lo=st.n):
  ∃σ σ',σ.n=st.n/\σ.w=[]/\cm op call r σ=some (v,σ')/\σ'.n=s'.n/\σ'.w=s'.w/\
   (∀j,j<st.n->(oY r op ws lo hi).dk j->σ.h.get j=st.h.get j)/\(∀j,j<st.n->¬(oY r op ws lo hi).dk j->σ.h.get j=(st.h.get j).map fun _=>.dead)/\
   (∀j,((oY r op ws lo hi).dk j/\j<st.n)\/(st.n<=j/\j<s'.n)->σ'.h.get j=s'.h.get j)/\(∀j∈s'.w,(oY r op ws lo hi).dk j):=by
 by_cases hs:op.oa=true
 ·have hf:oY r op ws lo hi=⟨some [],[],lo,hi⟩:=by unfold oY;rw[av hs]
  rw[hf]
  have hd:∀j,j<st.n->(rn st.h [] st.n).get j=(st.h.get j).map fun _=>.dead:=fun j hj=>by
   rw[Jy,av hj];simp
  rcases Zn1 hs (rn st.h [] st.n) [] hm with⟨h1,h2⟩|⟨o,h1,h2⟩
  ·subst h1
   exact⟨⟨rn st.h [] st.n,st.n,[]⟩,_,rfl,rfl,h2,rfl,rfl,fun j _ hj=>by simp[FP.dk]at hj,fun j hj _=>hd j hj,fun j hj=>by
    rcases hj with⟨hj,_⟩|⟨h1,h2⟩
    ·simp[FP.dk]at hj
    ·simp only at h2;omega,fun j hj=>by simp at hj⟩
  ·subst h1
   refine⟨⟨rn st.h [] st.n,st.n,[]⟩,_,rfl,rfl,h2,rfl,rfl,fun j _ hj=>by simp[FP.dk]at hj,fun j hj _=>hd j hj,fun j hj=>?_,fun j hj=>by simp[St.alloc]at hj⟩
   rcases hj with⟨hj,_⟩|⟨h1,h2⟩
   ·simp[FP.dk]at hj
   ·simp only[St.alloc]at h2 ⊢
    have:j=st.n:=by omega
    subst this
    rw[T.ag,T.ag,av rfl,av rfl]
 ·cases hl:Qs r op with
  |none=>
   have hf:oY r op ws lo hi=⟨none,ws,lo,hi⟩:=by unfold oY;rw[ak hs,hl]
   rw[hf]
   exact⟨{st with w:=[]},s',rfl,rfl,hm,rfl,rfl,fun _ _ _=>rfl,fun _ _ hj=>absurd trivial hj,fun _ _=>rfl,fun _ _=>trivial⟩
  |some i=>
   by_cases iB:i<st.n
   case neg=>
    have hf:oY r op ws lo hi=⟨none,ws,lo,hi⟩:=by unfold oY;rw[ak hs,hl];simp only[];rw[ak (by rw[fN];simpa[Nat.blt_eq]using iB)]
    rw[hf]
    exact⟨{st with w:=[]},s',rfl,rfl,hm,rfl,rfl,fun _ _ _=>rfl,fun _ _ hj=>absurd trivial hj,fun _ _=>rfl,fun _ _=>trivial⟩
   have hf:oY r op ws lo hi=⟨some [i],ws,lo,hi⟩:=by unfold oY;rw[ak hs,hl];simp only[];rw[av (by rw[fN];simpa[Nat.blt_eq]using iB)]
   rw[hf]
   have hk:(rn st.h [i] st.n).get i=st.h.get i:=by
    rw[Jy,av iB]
    cases st.h.get i<;>simp
   have hd:∀j,j<st.n->¬(j∈[i])->(rn st.h [i] st.n).get j=(st.h.get j).map fun _=>.dead:=fun j hj hn=>by
    rw[Jy,av hj];simp only[hn,if_false]
   have aq:(⟨rn st.h [i] st.n,st.n,[]⟩:St).row i=St.row {st with w:=[]} i:=Ydo hk
   cases op<;>simp only[Qs,reduceCtorEq]at hl
   case load k x=>
    split at hl
    ·rename_i i' o hx
     simp only[al]at hl;subst hl
     simp only[cm,Gn,hx]at hm ⊢
     split at hm
     ·rename_i c e pO hr
      split at hm
      ·rename_i u hu
       simp only[al,bu]at hm
       obtain⟨rfl,rfl⟩:=hm
       refine⟨⟨rn st.h [i'] st.n,st.n,[]⟩,⟨rn st.h [i'] st.n,st.n,[]⟩,rfl,rfl,?_,rfl,rfl,fun j _ hj=>?_,fun j hj hn=>hd j hj hn,fun j hj=>?_,fun j hj=>by simp at hj⟩
       ·rw[aq,hr];simp only[hu]
       ·simp only[FP.dk,wR]at hj;subst hj;exact hk
       ·rcases hj with⟨hj,_⟩|⟨h1,h2⟩
        ·simp only[FP.dk,wR]at hj;subst hj;exact hk
        ·simp only at h2;omega
      ·cases hm
     ·cases hm
    ·cases hl
   case store k x y=>
    split at hl
    ·rename_i i' o hx
     simp only[al]at hl;subst hl
     simp only[cm,Ed,hx]at hm ⊢
     split at hm
     ·rename_i i2 o2 u yP hu
      simp only[al,V.ptr.injEq]at yP
      obtain⟨rfl,rfl⟩:=yP
      split at hm
      ·rename_i c e hr
       split at hm
       ·rename_i hc
        simp only[al,bu]at hm
        obtain⟨rfl,rfl⟩:=hm
        refine⟨⟨rn st.h [i'] st.n,st.n,[]⟩,St.write ⟨rn st.h [i'] st.n,st.n,[]⟩ i' (.cells (ad c o u.cells) e true),rfl,rfl,?_,rfl,rfl,fun j _ hj=>?_,fun j hj hn=>hd j hj hn,fun j hj=>?_,fun j hj=>?_⟩
        ·rw[aq,hr]
         simp only[av hc]
        ·simp only[FP.dk,wR]at hj;subst hj;exact hk
        ·rcases hj with⟨hj,_⟩|⟨h1,h2⟩
         ·simp only[FP.dk,wR]at hj;subst hj
          simp only[St.write,T.ag,if_true]
         ·simp only[St.write]at h2;omega
        ·simpa[FP.dk,St.write]using hj
       ·cases hm
      ·cases hm
     ·cases hm
    ·cases hl
end
end Go.Mx
