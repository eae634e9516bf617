/-What an operation of M looks at-/
import Derived.Test.YtlfdeoomaccciaaGreatDoorMxFun
set_option linter.all false
namespace Go.Mx
open Go
section
variable {r r' : T V} {st : St} {call : cD}
def Ha : ∀ {l : List Src}, (∀ s ∈ l, s.ev r = s.ev r') -> uF r l = uF r' l
  | [], _ => rfl
  | s :: l, h => by
    simp only [uF]
    rw [h s (by simp), Ha fun s hs => h s (by simp [hs])]
def EE {o : Option Src} (h : ∀ s ∈ Bt o, s.ev r = s.ev r') : aC r o = aC r' o := by
  cases o with
  | none => rfl
  | some s => simp only [aC]; rw [h s (by simp [Bt])]
def W8 : ∀ {l : List (Nat × Nat × Src)}, (∀ s ∈ l.map (·.2.2), s.ev r = s.ev r') -> Bo r l = Bo r' l
  | [], _ => rfl
  | (o, k, s) :: l, h => by
    simp only [Bo]
    rw [h s (by simp), W8 fun s hs => h s (by simp only [nZ, kv]; exact .inr hs)]
def Ydf {op : gk} (h : ∀ s ∈ op.CC, s.ev r = s.ev r') : cj op call r st = cj op call r' st := by
  cases op <;> simp only [gk.CC, kv, List.not_mem_nil, or_false, forall_eq_or_imp, forall_eq, kh] at h <;> simp only [cj]
  case build z ps => simp only [Cu, W8 h]
  case fG e s l z ps => simp only [Gt, W8 h]
  case ot f a c => simp only [GB, Ha fun s hs => h s (.inl hs), Ha fun s hs => h s (.inr hs)]
  case cg x lo hi => simp only [za, h.1, EE fun s hs => h.2 s (.inl hs), EE fun s hs => h.2 s (.inr hs)]
  case mQ z x lo hi m => simp only [qe, h.1, EE fun s hs => h.2 s (.inl (.inl hs)), EE fun s hs => h.2 s (.inl (.inr hs)), EE fun s hs => h.2 s (.inr hs)]
  case jI k z x lo hi m => simp only [z_, h.1, EE fun s hs => h.2 s (.inl (.inl hs)), EE fun s hs => h.2 s (.inl (.inr hs)), EE fun s hs => h.2 s (.inr hs)]
  case mn l => simp only [zb, Ha h]
  case mx l => simp only [rb, Ha h]
  case call f l => simp only [zc, h.1, Ha fun s hs => h.2 s hs]
  case ext e l => simp only [GJ, Ha h]
  all_goals
    first
      | rfl
      | (simp only [Gq, Gs, Gu, Gw, Gy, Gz, Jl, Ed, GA, Jm, Ee, GC, GD, GG, GH, GI, ym, Jp, Jq, CA, Jr, h]; done)
      | (simp only [Eb, Ec, Gx, Cv, Cw, Ef, Jo, Eg, GF, Eh, Zsv, V3, Cy, Cz, Js, h.1, h.2]; done)
      | (simp only [Eb, Eh, V3, h.1, h.2.1, h.2.2]; done)
def Znd {op : gk} (hs : op.oz = true) (h' : T O) (l' : List Nat) {v : V} {az : St} (h : cj op call r st = some (v, az)) :
    (az = st /\ cj op call r ⟨h', st.n, l'⟩ = some (v, ⟨h', st.n, l'⟩)) \/ ∃ o, az = st.alloc o /\ cj op call r ⟨h', st.n, l'⟩ = some (v, St.alloc ⟨h', st.n, l'⟩ o) := by
  cases op <;> simp only [gk.oz, fI] at hs <;> simp only [cj] at h ⊢
  case jH e z b zs x y =>
    unfold Cv at *
    split at h
    · rename_i ha hb
      split at h
      · rename_i hc
        simp only [aq, bs] at h
        obtain ⟨rfl, rfl⟩ := h
        refine .inr ⟨_, rfl, ?_⟩
        rw [ay hc]
      · cases h
    · cases h
  case bin b t ng x y =>
    refine .inl ?_
    unfold Gx at *
    split at h
    · cases b <;> first | (cases hs; done) | (simp only [Qd, reduceCtorEq] at h)
    · split at h
      · rename_i hm
        simp only [aq, bs] at h
        obtain ⟨rfl, rfl⟩ := h
        exact ⟨rfl, by simp_all⟩
      · cases h
    · cases h
  all_goals
    first
      | unfold Gq at * | unfold Eb at * | unfold Jk at * | unfold Gs at * | unfold Cu at * | unfold Gt at * | unfold Gw at * | unfold Gy at * | unfold Gz at * | unfold Jl at * | unfold Ed at * | unfold Jm at * | unfold GB at * | unfold Jn at * | unfold Ee at * | unfold Cv at * | unfold za at * | unfold GC at * | unfold GD at * | unfold Cw at * | unfold Ef at * | unfold Jo at * | unfold Eg at * | unfold GG at * | unfold GI at * | unfold K6 at * | unfold Jp at * | unfold zb at * | unfold rb at * | unfold GJ at *
  all_goals
    repeat' split at h
    all_goals
      first
        | (cases h; done)
        | (simp only [aq, bs] at h
           obtain ⟨rfl, rfl⟩ := h
           first
             | (refine .inl ⟨rfl, ?_⟩; simp_all; done)
             | (refine .inr ⟨_, rfl, ?_⟩; simp_all; done))
def Zss {α : Type} {p : α -> α -> Bool} {f : α} {m : Nat} : ∀ {seen : List α} {j : Nat}, seen.length = j -> ct.cv p f m (j - 1) seen = true -> ∀ i, i < j -> ∀ g, seen[j - 1 - i]? = some g -> m.testBit i = true \/ p g f = true
  | [], j, hl, _, i, hi, g, hg => by simp at hg
  | g0 :: seen, j, hl, h, i, hi, g, hg => by
    simp only [ct.cv, iy, Gj] at h
    simp only [bp] at hl
    by_cases e : i = j - 1
    · subst e
      simp only [Nat.sub_self, Bm, aq] at hg
      subst hg
      exact h.1
    · have h2 := Zss (j := j - 1) (by omega) h.2 i (by omega) g
      refine h2 ?_
      rw [show j - 1 - i = (j - 1 - 1 - i) + 1 by omega] at hg
      simpa using hg
def Zw1 {α : Type} {p : α -> α -> Bool} : ∀ {fs : List α} {ms : List Nat} {j : Nat} {seen : List α}, seen.length = j -> ct.go p fs ms j seen = true ->
    ∀ (b i : Nat) (f g : α), fs[b]? = some f -> i < j + b -> (seen.reverse ++ fs)[i]? = some g -> (ms.getD b 0).testBit i = true \/ p g f = true
  | [], ms, j, seen, hl, _, b, i, f, g, hf, _, _ => by simp at hf
  | f0 :: fs, ms, j, seen, hl, h, b, i, f, g, hf, hi, hg => by
    simp only [ct.go, iy] at h
    cases b with
    | zero =>
      simp only [Bm, aq] at hf
      subst hf
      have hm : ms.getD 0 0 = ms.headD 0 := by cases ms <;> rfl
      rw [hm]
      refine Zss hl h.1 i (by omega) g ?_
      rw [kJ (by simp; omega), List.getElem?_reverse (by omega)] at hg
      rw [<- hl]; exact hg
    | succ b =>
      have hm : ms.getD (b + 1) 0 = ms.tail.getD b 0 := by cases ms <;> simp
      rw [hm]
      refine Zw1 (j := j + 1) (seen := f0 :: seen) (by simp [hl]) h.2 b i f g (by simpa using hf) (by omega) ?_
      simpa using hg
def Zw0 {α : Type} {p : α -> α -> Bool} {xs : List α} {ms : List Nat} (h : ct p xs ms = true) {i j : Nat} {a b : α} (hij : i < j) (ha : xs[i]? = some a) (hb : xs[j]? = some b) : (ms.getD j 0).testBit i = true \/ p a b = true :=
  Zw1 (seen := []) rfl h j i b a hb (by omega) (by simpa using ha)
def W9 : ∀ (os : List Oper) (acc : List Nat) (k : Nat), k < acc.length -> (vn os acc).getD k 0 = acc.getD k 0
  | [], acc, k, _ => rfl
  | o :: os, acc, k, h => by
    simp only [vn]
    rw [W9 os _ k (by simp; omega)]
    simp only [List.getD_eq_getElem?_getD]
    rw [kJ h]
def Zn4 : ∀ (os : List Oper) (acc : List Nat) (j : Nat) (o : Oper), os[j]? = some o ->
    ∃ pre : List Nat, pre.length = acc.length + j /\ (vn os acc).getD (acc.length + j) 0 = KX o pre /\ ∀ k, k < acc.length + j -> (vn os acc).getD k 0 = pre.getD k 0
  | [], acc, j, o, h => by simp at h
  | o0 :: os, acc, 0, o, h => by
    simp only [Bm, aq] at h
    subst h
    refine ⟨acc, rfl, ?_, fun k hk => ?_⟩
    · simp only [vn]
      rw [W9 os _ _ (by simp)]
      simp [List.getD_eq_getElem?_getD]
    · exact W9 (o0 :: os) acc k hk
  | o0 :: os, acc, j + 1, o, h => by
    obtain ⟨pre, h1, h2, h3⟩ := Zn4 os (acc ++ [KX o0 acc]) j o (by simpa using h)
    simp only [i_, bp, List.length_nil] at h1 h2 h3
    refine ⟨pre, by omega, ?_, ?_⟩
    · rw [show acc.length + (j + 1) = acc.length + (0 + 1) + j by omega]; exact h2
    · intro k hk; exact h3 k (by omega)
def Zzv {o : Oper} {ms : List Nat} {i : Nat} (h : (KX o ms).testBit i = true) : ∃ e ∈ o.after, Region.binds .any e = true /\ (i = e.on \/ (ms.getD e.on 0).testBit i = true) := by
  have key : ∀ (l : List Edge) (s : Nat), (l.foldl (fun s e => if Region.binds .any e then s ||| 2 ^ e.on ||| ms.getD e.on 0 else s) s).testBit i = true ->
      s.testBit i = true \/ ∃ e ∈ l, Region.binds .any e = true /\ (i = e.on \/ (ms.getD e.on 0).testBit i = true) := by
    intro l
    induction l with
    | nil => intro s h; exact .inl h
    | cons e l ih =>
      intro s h
      simp only [List.foldl_cons] at h
      rcases ih _ h with h | ⟨e', h1, h2⟩
      · split at h
        · rename_i hb
          simp only [Nat.testBit_or, Gj] at h
          rcases h with (h | h) | h
          · exact .inl h
          · rw [Nat.testBit_two_pow] at h
            exact .inr ⟨e, by simp, hb, .inl (by simpa using (of_decide_eq_true h).symm)⟩
          · exact .inr ⟨e, by simp, hb, .inr h⟩
        · exact .inl h
      · exact .inr ⟨e', by simp [h1], h2⟩
  unfold KX at h
  rw [<- Array.foldl_toList] at h
  rcases key _ _ h with h | ⟨e, h1, h2⟩
  · simp at h
  · exact ⟨e, by simpa using h1, h2⟩
def Yid {ops : Array Oper} {j i : Nat} {o : Oper} (ho : ops[j]? = some o) (h : ((vn ops.toList []).getD j 0).testBit i = true) :
    ∃ e ∈ o.after, Region.binds .any e = true /\ (i = e.on \/ ((vn ops.toList []).getD e.on 0).testBit i = true) := by
  obtain ⟨pre, h1, h2, h3⟩ := Zn4 ops.toList [] j o (by rw [Ck]; exact ho)
  simp only [List.length_nil, wX] at h1 h2 h3
  rw [h2] at h
  obtain ⟨e, g1, g2, g3⟩ := Zzv h
  refine ⟨e, g1, g2, g3.imp id fun hb => ?_⟩
  by_cases he : e.on < j
  · rw [h3 _ he]; exact hb
  · have : pre.getD e.on 0 = 0 := by simp [List.getD_eq_getElem?_getD, h1, yY he]
    rw [this] at hb; simp at hb
def Ylr (ops : Array Oper) (S : Nat -> Prop) : Prop := ∀ k i, S k -> ((vn ops.toList []).getD k 0).testBit i = true -> S i
def Zpr {ops : Array Oper} {listed : Array Bool} (hc : Ylr ops (fun k => listed.getD k false = true)) {j : Nat} (hj : j ∈ Region.ready .any ops listed) :
    j < ops.size /\ listed.getD j true = false /\ ∀ i, ((vn ops.toList []).getD j 0).testBit i = true -> listed.getD i false = true := by
  unfold Region.ready at hj
  simp only [List.mem_filter, zq, iy, Gi] at hj
  obtain ⟨h1, h2, h3⟩ := hj
  refine ⟨h1, h2, fun i hi => ?_⟩
  have ho : ops[j]? = some ops[j] := Array.getElem?_eq_getElem h1
  obtain ⟨e, g1, g2, g3⟩ := Yid ho hi
  rw [ho] at h3
  simp only [xV, pd, VX, Gj, Gi] at h3
  have he : listed.getD e.on false = true := by
    rcases h3 e g1 with h | h
    · rw [g2] at h; cases h
    · exact h
  rcases g3 with rfl | g3
  · exact he
  · exact hc _ _ he g3
mutual
def Sc (n : Nat) : V -> Prop
  | .ptr i _ => i < n
  | .slice i _ _ _ _ => i < n
  | .map i => i < n
  | .chan i => i < n
  | .func _ a c => EF n a /\ EF n c
  | .yield i => i < n
  | .iface _ v => Sc n v
  | .agg l => EF n l
  | .aV l => EF n l
  | _ => True
def EF (n : Nat) : List V -> Prop
  | [] => True
  | v :: vs => Sc n v /\ EF n vs
end
mutual
def VR.sc {μ : Mu} {n : Nat} (h : ∀ i l, μ i = some l -> i < n) : ∀ (v : V) (x : Value), VR μ v x -> Sc n v
  | .bool _, _, _ => by simp [Sc]
  | .int _ _, _, _ => by simp [Sc]
  | .vi _ _, _, _ => by simp [Sc]
  | .str _, _, _ => by simp [Sc]
  | .bF, _, _ => by simp [Sc]
  | .ptr _ _, _, hx => by simp only [VR] at hx; obtain ⟨l, h1, _⟩ := hx; exact h _ _ h1
  | .aa, _, _ => by simp [Sc]
  | .slice _ _ _ _ _, _, hx => by simp only [VR] at hx; obtain ⟨l, c, h1, _⟩ := hx; exact h _ _ h1
  | .empty, _, _ => by simp [Sc]
  | .bN, _, _ => by simp [Sc]
  | .map _, _, hx => by simp only [VR] at hx; obtain ⟨l, h1, _⟩ := hx; exact h _ _ h1
  | .bP, _, _ => by simp [Sc]
  | .chan _, _, hx => by simp only [VR] at hx; obtain ⟨l, h1, _⟩ := hx; exact h _ _ h1
  | .func _ a c, _, hx => by
    simp only [VR] at hx; obtain ⟨a', c', _, h2, h3⟩ := hx
    exact ⟨aS.sc h a a' h2, aS.sc h c c' h3⟩
  | .yield _, _, hx => by simp only [VR] at hx; obtain ⟨l, h1, _⟩ := hx; exact h _ _ h1
  | .bQ, _, _ => by simp [Sc]
  | .iface _ v, _, hx => by simp only [VR] at hx; obtain ⟨y, _, h2⟩ := hx; exact VR.sc h v y h2
  | .aY, _, _ => by simp [Sc]
  | .agg vs, _, hx => by simp only [VR] at hx; obtain ⟨a, _, h2⟩ := hx; exact aS.sc h vs a h2
  | .aV vs, _, hx => by simp only [VR] at hx; obtain ⟨a, _, h2⟩ := hx; exact aS.sc h vs a h2
def aS.sc {μ : Mu} {n : Nat} (h : ∀ i l, μ i = some l -> i < n) : ∀ (vs : List V) (xs : List Value), aS μ vs xs -> EF n vs
  | [], _, _ => trivial
  | v :: vs, _, hx => by
    simp only [aS] at hx
    obtain ⟨y, ys, _, h2, h3⟩ := hx
    exact ⟨VR.sc h v y h2, aS.sc h vs ys h3⟩
end
mutual
def VR.cut {μ μ' : Mu} {n : Nat} (h : ∀ i l, i < n -> μ i = some l -> μ' i = some l) : ∀ (v : V) (x : Value), Sc n v -> VR μ v x -> VR μ' v x
  | .bool _, _, _, hx => by simpa [VR] using hx
  | .int _ _, _, _, hx => by simpa [VR] using hx
  | .vi _ _, _, _, hx => by simpa [VR] using hx
  | .str _, _, _, hx => by simpa [VR] using hx
  | .bF, _, _, hx => by simpa [VR] using hx
  | .ptr _ _, _, hs, hx => by simp only [VR, Sc] at *; obtain ⟨l, h1, h2⟩ := hx; exact ⟨l, h _ _ hs h1, h2⟩
  | .aa, _, _, hx => by simpa [VR] using hx
  | .slice _ _ _ _ _, _, hs, hx => by simp only [VR, Sc] at *; obtain ⟨l, c, h1, h2⟩ := hx; exact ⟨l, c, h _ _ hs h1, h2⟩
  | .empty, _, _, hx => by simpa [VR] using hx
  | .bN, _, _, hx => by simpa [VR] using hx
  | .map _, _, hs, hx => by simp only [VR, Sc] at *; obtain ⟨l, h1, h2⟩ := hx; exact ⟨l, h _ _ hs h1, h2⟩
  | .bP, _, _, hx => by simpa [VR] using hx
  | .chan _, _, hs, hx => by simp only [VR, Sc] at *; obtain ⟨l, h1, h2⟩ := hx; exact ⟨l, h _ _ hs h1, h2⟩
  | .func _ a c, _, hs, hx => by
    simp only [VR, Sc] at *; obtain ⟨a', c', h1, h2, h3⟩ := hx
    exact ⟨a', c', h1, aS.cut h a a' hs.1 h2, aS.cut h c c' hs.2 h3⟩
  | .yield _, _, hs, hx => by simp only [VR, Sc] at *; obtain ⟨l, h1, h2⟩ := hx; exact ⟨l, h _ _ hs h1, h2⟩
  | .bQ, _, _, hx => by simpa [VR] using hx
  | .iface _ v, _, hs, hx => by simp only [VR, Sc] at *; obtain ⟨y, h1, h2⟩ := hx; exact ⟨y, h1, VR.cut h v y hs h2⟩
  | .aY, _, _, hx => by simpa [VR] using hx
  | .agg vs, _, hs, hx => by simp only [VR, Sc] at *; obtain ⟨a, h1, h2⟩ := hx; exact ⟨a, h1, aS.cut h vs a hs h2⟩
  | .aV vs, _, hs, hx => by simp only [VR, Sc] at *; obtain ⟨a, h1, h2⟩ := hx; exact ⟨a, h1, aS.cut h vs a hs h2⟩
def aS.cut {μ μ' : Mu} {n : Nat} (h : ∀ i l, i < n -> μ i = some l -> μ' i = some l) : ∀ (vs : List V) (xs : List Value), EF n vs -> aS μ vs xs -> aS μ' vs xs
  | [], _, _, hx => by simpa [aS] using hx
  | v :: vs, _, hs, hx => by
    simp only [aS, EF] at *
    obtain ⟨y, ys, h1, h2, h3⟩ := hx
    exact ⟨y, ys, h1, VR.cut h v y hs.1 h2, aS.cut h vs ys hs.2 h3⟩
end
def OM.cut {P : Program} {μ μ' μT : Mu} {w wT : World} {n : Nat} (h : ∀ i l, i < n -> μ i = some l -> μ' i = some l) (hT : ∀ i l, μT i = some l -> i < n) {o : O} {l lT : L} (ht : OM P μT wT o lT) (ho : OM P μ w o l) : OM P μ' w o l := by
  cases o with
  | cells c e rw =>
    obtain ⟨c', lo, hi, h1, h2, h3, h4, h5⟩ := ho
    obtain ⟨cT, _, _, _, _, _, t4, _⟩ := ht
    exact ⟨c', lo, hi, h1, h2, h3, fun j v hv => by
      obtain ⟨x, a, b⟩ := h4 j v hv
      obtain ⟨xT, _, bT⟩ := t4 j v hv
      exact ⟨x, a, VR.cut h v x (VR.sc hT v xT bT) b⟩, h5⟩
  | map es =>
    obtain ⟨gZ, h1, h2⟩ := ho
    obtain ⟨esT, _, t2⟩ := ht
    refine ⟨gZ, h1, ?_⟩
    have : ∀ (es : List (V × V)) (xs xT : List MapEntry) (b bT : Nat), iP μ es xs b -> iP μT es xT bT -> iP μ' es xs b := by
      intro es
      induction es with
      | nil => intro xs xT b bT h1 _; exact h1
      | cons p es ih =>
        intro xs xT b bT h1 h2
        obtain ⟨k, u⟩ := p
        obtain ⟨e, ys, rfl, a1, a2, a3, a4⟩ := h1
        obtain ⟨eT, yT, rfl, b1, b2, _, b4⟩ := h2
        exact ⟨e, ys, rfl, VR.cut h k _ (VR.sc hT k _ b1) a1, VR.cut h u _ (VR.sc hT u _ b2) a2, a3, ih ys yT _ _ a4 b4⟩
    exact this _ _ _ _ _ h2 t2
  | chan cap buf =>
    obtain ⟨b', s, r, h1, h2⟩ := ho
    obtain ⟨bT, _, _, _, t2⟩ := ht
    exact ⟨b', s, r, h1, aS.cut h _ _ (aS.sc hT _ _ t2) h2⟩
  | eC s pos => simp only [OM] at *; exact ho
  | loop R =>
    obtain ⟨fn, tmps, fM, fN, ld, h1, h2, h3, h4, h5⟩ := ho
    obtain ⟨_, tT, _, _, ldT, _, t2, _, _, t5⟩ := ht
    refine ⟨fn, tmps, fM, fN, ld, h1, ⟨h2.1, fun t v hv => ?_⟩, h3, h4, h _ _ (hT _ _ t5) h5⟩
    obtain ⟨x, a, b⟩ := h2.2 t v hv
    obtain ⟨xT, _, bT⟩ := t2.2 t v hv
    exact ⟨x, a, VR.cut h v x (VR.sc hT v xT bT) b⟩
  | defs b => simp only [OM] at *; exact ho
  | dead => trivial
end
section
variable {P:Program} {μ:Mu} {w:World} {st az:St} {fr bE:Fr} {a:Act} {call:cD} {v:V} {lb:Option Nat}
def Ytk(bY:jv P call)(hE:ue P)(hh:bm P μ w st)(hf:mT μ fr a){o:Oper}(h:cj (zR P o.op) call fr.r st=some (v,az)):∃x w' μ' ws,VR μ' v x/\bH P μ w st μ' w' az ws:=by
 have hwp:=WB (lb:=none) (Q:=fun _ _ _=>False) (K:=fun _ _=>∃x w' μ' ws,VR μ' v x/\bH P μ w st μ' w' az ws) bY hE hh hf h (fun x w' μ' ws h1 h2=>⟨x,w',μ',ws,h1,h2⟩)
 obtain⟨_,hu⟩:=hwp
 generalize (o.semAt (FE none).round a.eval).run P w=res at hu
 cases res with
 |halt x w'=>cases x<;>simp only[Oper.uponIn]at hu
 |ok x w'=>
  cases x<;>simp only[Oper.uponIn]at hu
  case value=>exact hu
  case skip=>exact hu
  case defer=>exact hu
  case enter f args=>
   obtain⟨e,w',fr,hR,_⟩:=hu.2.2 [] (fun d hd=>by simp[Fence.wide]at hd)
   cases e with
   |returned v=>exact hR
   |panicked c=>exact hR.elim
   |outgrown=>obtain⟨_,_,hq⟩:=hR;exact hq.elim
  case row r args=>
   obtain⟨v',w',hR,_⟩:=hu.2 default [] (fun d hd=>by simp[Fence.wide]at hd)
   exact hR
  case round l f tmps fM fN=>
   obtain⟨e,w',hR,_⟩:=hu.2.2 default [] (fun d hd=>by simp[Fence.wide]at hd)
   cases e with
   |returned v=>exact hR
   |panicked c=>exact hR.elim
   |outgrown=>obtain⟨_,_,hq⟩:=hR;exact hq.elim
def Al(P:Program)(call:cD)(ops:Array Oper)(o:Oper)(st:St)(fr:Fr)(v:V)(f:FP)(bS:St)(dT:Fr):Prop:=
 ∃g b,Gc ops o.guard=some g/\bR fr.r g=some b/\fr.put o.dst v=some dT/\
  (b=true->∃s',cj (zR P o.op) call fr.r {st with w:=[]}=some (v,s')/\bS={s' with w:=av st.n s'.w++st.w}/\f=po fr.r (zR P o.op) (av st.n s'.w) st.n s'.n)/\
  (b=false->v=.aV []/\bS=st/\f=⟨some [],[],st.n,st.n⟩)
def Zsz{ops:Array Oper}:∀(os:List Oper) (fr:Fr) (st:St) (h_:List FP) (bE:Fr) (az:St),bJ call (os.map (qW P ops)) fr st=some (h_,bE,az)->
  ∃(aJ:Nat->St) (bq:Nat->Fr) (vI:Nat->V) (bg:Nat->FP),aJ 0=st/\bq 0=fr/\aJ os.length=az/\bq os.length=bE/\h_.length=os.length/\
   ∀i o,os[i]?=some o->h_[i]?=some (bg i)/\Al P call ops o (aJ i) (bq i) (vI i) (bg i) (aJ (i+1)) (bq (i+1))
 |[],fr,st,h_,bE,az,h=>by
  simp only[wW,bJ,Ycu,aq,bs]at h
  obtain⟨rfl,rfl,rfl⟩:=h
  exact⟨fun _=>st,fun _=>fr,fun _=>.bF,fun _=>⟨none,[],0,0⟩,rfl,rfl,rfl,rfl,rfl,fun i o h=>by simp at h⟩
 |o::os,fr,st,h_,bE,az,h=>by
  simp only[nZ,bJ,Br]at h
  have go:∀(v:V) (f:FP) (bS:St) (dT:Fr) (tH:List FP),Al P call ops o st fr v f bS dT->bJ call (os.map (qW P ops)) dT bS=some (tH,bE,az)->h_=f::tH->
    ∃(aJ:Nat->St) (bq:Nat->Fr) (vI:Nat->V) (bg:Nat->FP),aJ 0=st/\bq 0=fr/\aJ (o::os).length=az/\bq (o::os).length=bE/\h_.length=(o::os).length/\
     ∀i o',(o::os)[i]?=some o'->h_[i]?=some (bg i)/\Al P call ops o' (aJ i) (bq i) (vI i) (bg i) (aJ (i+1)) (bq (i+1)):=by
   intro v f bS dT tH hs hm hf
   obtain⟨aJ,bq,vI,bg,h1,h2,h3,h4,h5,h6⟩:=Zsz os dT bS tH bE az hm
   refine⟨fun|0=>st|i+1=>aJ i,fun|0=>fr|i+1=>bq i,fun|0=>v|i+1=>vI i,fun|0=>f|i+1=>bg i,rfl,rfl,h3,h4,by simp[hf,h5],fun i o' ho=>?_⟩
   cases i with
   |zero=>
    simp only[Bm,aq]at ho
    subst ho
    refine⟨by simp[hf],?_⟩
    show Al P call ops o st fr v f (aJ 0) (bq 0)
    rw[h1,h2];exact hs
   |succ i=>
    obtain⟨g1,g2⟩:=h6 i o' (by simpa using ho)
    exact⟨by simpa[hf]using g1,g2⟩
  unfold qW at h
  cases hg:Gc ops o.guard with
  |none=>
   rw[hg]at h
   simp only[bR,cj,V4]at h
   cases h
  |some g=>
   rw[hg]at h
   simp only at h
   cases hw:bR fr.r g with
   |none=>rw[hw]at h;cases h
   |some b=>
    rw[hw]at h
    cases b with
    |true=>
     simp only at h
     split at h
     ·rename_i v1 s1 hm
      split at h
      ·rename_i dT hp
       split at h
       ·rename_i tH Au eI ij
        simp only[aq,bs]at h
        obtain⟨rfl,rfl,rfl⟩:=h
        exact go v1 _ _ dT tH ⟨g,true,hg,hw,hp,fun _=>⟨s1,hm,rfl,rfl⟩,fun hc=>by cases hc⟩ ij rfl
       ·cases h
      ·cases h
     ·cases h
    |false=>
     simp only at h
     split at h
     ·rename_i dT hp
      split at h
      ·rename_i tH Au eI ij
       simp only[aq,bs]at h
       obtain⟨rfl,rfl,rfl⟩:=h
       exact go (.aV []) _ st dT tH ⟨g,false,hg,hw,hp,(fun hc=>by cases hc),fun _=>⟨rfl,rfl,rfl⟩⟩ ij rfl
      ·cases h
     ·cases h
def WC{op:gk}{s':St}(hm:cj op call fr.r {st with w:=[]}=some (v,s'))(lo hi:Nat):(po fr.r op (av st.n s'.w) lo hi).wr=av st.n s'.w/\(po fr.r op (av st.n s'.w) lo hi).lo=lo/\(po fr.r op (av st.n s'.w) lo hi).hi=hi:=by
 unfold po
 split
 ·rename_i hs
  rcases Znd hs .nil [] hm with⟨h1,_⟩|⟨o,h1,_⟩
  ·subst h1;exact⟨rfl,rfl,rfl⟩
  ·subst h1;exact⟨rfl,rfl,rfl⟩
 ·split
  ·split<;>exact⟨rfl,rfl,rfl⟩
  ·exact⟨rfl,rfl,rfl⟩
def Ybw(bY:jv P call)(hE:ue P)(hh:bm P μ w st)(hf:mT μ fr a){ops:Array Oper}{o:Oper}{f:FP}{bS:St}{dT:Fr}(h:Al P call ops o st fr v f bS dT):
  ∃w' μ' a',bH P μ w st μ' w' bS f.wr/\mT μ' dT a'/\f.lo=st.n/\f.hi=bS.n:=by
 obtain⟨g,b,hg,hw,hp,ht,Li⟩:=h
 cases b with
 |true=>
  obtain⟨s',hm,rfl,rfl⟩:=ht rfl
  obtain⟨x,w',μ',ws,h1,h2⟩:=Ytk bY hE (hh.now []) hf hm
  have h3:=h2.fold hh
  obtain⟨e1,e2,e3⟩:=WC (call:=call) hm st.n s'.n
  rw[e1,e2,e3]
  exact⟨w',μ',_,h3,(hf.mono (h3.mono hh)).put h1 hp,rfl,rfl⟩
 |false=>
  obtain⟨rfl,rfl,rfl⟩:=Li rfl
  exact⟨w,μ,_,bH.refl hh,hf.put (v:=.aV []) (x:=undef) ⟨[],rfl,by simp[aS]⟩ hp,rfl,rfl⟩
structure vK (P:Program) (μ:Mu) (aJ:Nat->St) (bq:Nat->Fr) (bg:Nat->FP) (N:Nat):Prop where
 fh:∀i,i<N->(aJ i).n<=(aJ (i+1)).n
 lo:∀i,i<N->(bg i).lo=(aJ i).n
 hi:∀i,i<N->(bg i).hi=(aJ (i+1)).n
 wl:∀i,i<N->(aJ (i+1)).w=(bg i).wr++(aJ i).w
 Wv:∀i,i<N->∀j∈(bg i).wr,j<(aJ i).n
 ae:∀i,i<N->∀j,j<(aJ i).n->j∉(bg i).wr->(aJ (i+1)).h.get j=(aJ i).h.get j
 grow:∀i,i<N->∀j o',j<(aJ i).n->(aJ (i+1)).h.get j=some o'->∃o,(aJ i).h.get j=some o/\(o'.wr=true->o.wr=true)/\(o'.live=true->o.live=true)
 yX:∀i,i<N->∀j∈(bg i).wr,∃o,(aJ i).h.get j=some o/\o.wr=true
 scr:∀i,i<=N->∀t v,(bq i).r.get t=some v->Sc (aJ i).n v
 sch:∀i,i<=N->∀j,(j<(aJ 0).n->∃l,μ j=some l)->j<(aJ i).n->∃o μT wT lT,(aJ i).h.get j=some o/\OM P μT wT o lT/\∀k l,μT k=some l->k<(aJ i).n
 fn:∀i,i<=N->(bq i).n=(bq 0).n/\(bq i).marks=(bq 0).marks
def Yqh{ops:Array Oper}{o:Oper}{f:FP}{bS:St}{dT:Fr}(h:Al P call ops o st fr v f bS dT):∀j∈f.wr,j<st.n:=by
 have key:∀(l:List Nat) (n j:Nat),j∈av n l->j<n:=by
  intro l n j hj
  induction l with
  |nil=>simp[av]at hj
  |cons i l ih=>
   simp only[av]at hj
   split at hj
   ·unfold vD at hj
    split at hj
    ·exact ih hj
    ·simp only[kv]at hj
     rcases hj with rfl|hj
     ·assumption
     ·exact ih hj
   ·exact ih hj
 obtain⟨g,b,hg,hw,hp,ht,Li⟩:=h
 cases b with
 |true=>
  obtain⟨s',hm,rfl,rfl⟩:=ht rfl
  rw[(WC (call:=call) hm _ _).1]
  exact key _ _
 |false=>
  obtain⟨rfl,rfl,rfl⟩:=Li rfl
  intro j hj
  simp at hj
def Yhf{d:Option Nat}(h:fr.put d v=some bE):bE.n=fr.n/\bE.marks=fr.marks:=by
 cases d with
 |none=>simp only[Fr.put,aq]at h;subst h;exact⟨rfl,rfl⟩
 |some d=>
  simp only[Fr.put]at h
  split at h
  ·simp only[aq]at h;subst h;exact⟨rfl,rfl⟩
  ·cases h
def Zx8(bY:jv P call)(hE:ue P){ops:Array Oper}{aJ:Nat->St}{bq:Nat->Fr}{vI:Nat->V}{bg:Nat->FP}{N:Nat}{os:List Oper}(hN:os.length=N)
  (hh:bm P μ w (aJ 0)) (hf:mT μ (bq 0) a) (hs:∀i o,os[i]?=some o->Al P call ops o (aJ i) (bq i) (vI i) (bg i) (aJ (i+1)) (bq (i+1))):
  ∀i,i<=N->∃w' μ' a' ws,bH P μ w (aJ 0) μ' w' (aJ i) ws/\mT μ' (bq i) a':=by
 intro i
 induction i with
 |zero=>exact fun _=>⟨w,μ,a,[],bH.refl hh,hf⟩
 |succ i ih=>
  intro hi
  obtain⟨w',μ',a',ws,h1,h2⟩:=ih (by omega)
  have ho:os[i]?=some (os[i]'(by omega)):=c9 (by omega)
  obtain⟨w2,μ2,a2,h3,h4,_⟩:=Ybw bY hE h1.hr h2 (hs i _ ho)
  exact⟨w2,μ2,a2,_,h1.trans h3,h4⟩
def Yqo(bY:jv P call)(hE:ue P){ops:Array Oper}{aJ:Nat->St}{bq:Nat->Fr}{vI:Nat->V}{bg:Nat->FP}{N:Nat}{os:List Oper}(hN:os.length=N)
  (hh:bm P μ w (aJ 0)) (hf:mT μ (bq 0) a) (hs:∀i o,os[i]?=some o->Al P call ops o (aJ i) (bq i) (vI i) (bg i) (aJ (i+1)) (bq (i+1))):vK P μ aJ bq bg N:=by
 have Xa:=Zx8 bY hE hN hh hf hs
 have cK:∀i,i<N->∃o,os[i]?=some o:=fun i hi=>⟨_,c9 (by omega)⟩
 have oH:∀i,i<N->∃w1 μ1 w2 μ2 a2,bH P μ1 w1 (aJ i) μ2 w2 (aJ (i+1)) (bg i).wr/\mT μ2 (bq (i+1)) a2/\(bg i).lo=(aJ i).n/\(bg i).hi=(aJ (i+1)).n:=fun i hi=>by
  obtain⟨w',μ',a',ws,h1,h2⟩:=Xa i (by omega)
  obtain⟨o,ho⟩:=cK i hi
  obtain⟨w2,μ2,a2,h3,h4,h5,h6⟩:=Ybw bY hE h1.hr h2 (hs i o ho)
  exact⟨w',μ',w2,μ2,a2,h3,h4,h5,h6⟩
 refine⟨fun i hi=>?_,fun i hi=>?_,fun i hi=>?_,fun i hi=>?_,fun i hi=>?_,fun i hi=>?_,fun i hi=>?_,fun i hi=>?_,fun i hi t v hv=>?_,fun i hi j hj Ge=>?_,fun i=>?_⟩
 ·obtain⟨_,_,_,_,_,h,_⟩:=oH i hi;exact h.fh
 ·obtain⟨_,_,_,_,_,_,_,h,_⟩:=oH i hi;exact h
 ·obtain⟨_,_,_,_,_,_,_,_,h⟩:=oH i hi;exact h
 ·obtain⟨_,_,_,_,_,h,_⟩:=oH i hi;exact h.wl
 ·obtain⟨o,ho⟩:=cK i hi;exact Yqh (hs i o ho)
 ·obtain⟨_,_,_,_,_,h,_⟩:=oH i hi;exact h.ae
 ·obtain⟨_,_,_,_,_,h,_⟩:=oH i hi;exact h.grow
 ·obtain⟨o,ho⟩:=cK i hi
  obtain⟨_,_,_,_,_,h,_⟩:=oH i hi
  exact fun j hj=>h.yX j hj (Yqh (hs i o ho) j hj)
 ·obtain⟨w',μ',a',ws,h1,h2⟩:=Xa i hi
  obtain⟨x,_,hx⟩:=h2.1.2 t v hv
  exact VR.sc (fun k l hk=>(h1.hr.c_ k l hk).1) v x hx
 ·obtain⟨w',μ',a',ws,h1,h2⟩:=Xa i hi
  have hl:∃l,μ' j=some l:=by
   by_cases h0:j<(aJ 0).n
   ·obtain⟨l,hl⟩:=hj h0
    exact⟨l,(h1.ext j h0).trans hl⟩
   ·exact h1.full j (by omega) Ge
  obtain⟨l,hl⟩:=hl
  obtain⟨o,Bk,yi⟩:=h1.hr.obj j l hl
  exact⟨o,μ',w',l,Bk,yi,fun k l hk=>(h1.hr.c_ k l hk).1⟩
 ·induction i with
  |zero=>exact fun _=>⟨rfl,rfl⟩
  |succ i ih=>
   intro hi
   obtain⟨o,ho⟩:=cK i (by omega)
   obtain⟨g,b,_,_,hp,_⟩:=hs i o ho
   obtain⟨e1,e2⟩:=Yhf hp
   obtain⟨f1,f2⟩:=ih (by omega)
   exact⟨e1.trans f1,e2.trans f2⟩
end
def vL(aJ:Nat->St)(bg:Nat->FP)(k j:Nat):Prop:=j∈(bg k).wr\/((aJ k).n<=j/\j<(aJ (k+1)).n)
instance (aJ:Nat->St) (bg:Nat->FP) (k j:Nat):Decidable (vL aJ bg k j):=by unfold vL;infer_instance
def jM(aJ:Nat->St)(bg:Nat->FP)(S:Nat->Bool):Nat->Nat->Option O
 |0,j=>(aJ 0).h.get j
 |k+1,j=>if S k=true/\vL aJ bg k j then (aJ (k+1)).h.get j else jM aJ bg S k j
def vJ(bq:Nat->Fr)(ds:Nat->Option Nat)(S:Nat->Bool):Nat->Nat->Option V
 |0,t=>(bq 0).r.get t
 |k+1,t=>if S k=true/\ds k=some t then (bq (k+1)).r.get t else vJ bq ds S k t
def mw(S:Nat->Bool)(i:Nat):Nat->Bool:=fun k=>if k=i then true else S k
section
variable {P:Program} {μ:Mu} {aJ:Nat->St} {bq:Nat->Fr} {bg:Nat->FP} {ds:Nat->Option Nat} {S:Nat->Bool} {N:Nat}
def Wy(T:vK P μ aJ bq bg N):∀{i j:Nat},i<=N->j<(aJ i).n->(∀k,k<i->vL aJ bg k j->S k=true)->jM aJ bg S i j=(aJ i).h.get j
 |0,j,_,_,_=>rfl
 |i+1,j,hi,hj,h=>by
  simp only[jM]
  by_cases ht:vL aJ bg i j
  ·rw[ay ⟨h i (by omega) ht,ht⟩]
  ·rw[ak (fun hc=>ht hc.2)]
   simp only[vL,not_or,not_and,tr]at ht
   have ax:j<(aJ i).n:=by
    rcases Nat.lt_or_ge j (aJ i).n with h1|h1
    ·exact h1
    ·have:=ht.2 h1;omega
   rw[Wy T (by omega) ax fun k hk=>h k (by omega),T.ae i (by omega) j ax ht.1]
def Zip:∀{M i j:Nat},i<=M->(∀k,i<=k->k<M->vL aJ bg k j->S k=false)->jM aJ bg S M j=jM aJ bg S i j
 |0,i,j,hi,_=>by rw[Nat.le_zero.1 hi]
 |M+1,i,j,hi,h=>by
  by_cases e:i=M+1
  ·rw[e]
  ·simp only[jM]
   rw[ak,Zip (by omega) fun k h1 h2=>h k h1 (by omega)]
   rintro⟨h1,h2⟩
   rw[h M (by omega) (by omega) h2]at h1;cases h1
def Zh5{i:Nat}:∀{M j:Nat},¬vL aJ bg i j->jM aJ bg (mw S i) M j=jM aJ bg S M j
 |0,j,_=>rfl
 |M+1,j,h=>by
  simp only[jM]
  rw[Zh5 h]
  by_cases e:M=i
  ·subst e
   rw[ak (fun hc=>h hc.2),ak (fun hc=>h hc.2)]
  ·simp only[mw,e,if_false]
def Yfe{i j:Nat}(hi:i<N)(ht:vL aJ bg i j)(h:∀k,i<k->k<N->vL aJ bg k j->S k=false):jM aJ bg (mw S i) N j=(aJ (i+1)).h.get j:=by
 rw[Zip (i:=i+1) (by omega) fun k h1 h2 h3=>by simp only[mw];rw[ak (by omega)];exact h k (by omega) h2 h3]
 simp only[jM,mw]
 rw[ay ⟨by simp,ht⟩]
def GP(bq:Nat->Fr)(ds:Nat->Option Nat)(vI:Nat->V)(N:Nat):Prop:=∀i,i<N->∀t,(bq (i+1)).r.get t=if ds i=some t then some (vI i) else (bq i).r.get t
def Wz{vI:Nat->V}(T:GP bq ds vI N):∀{i t:Nat},i<=N->(∀k,k<i->ds k=some t->S k=true)->vJ bq ds S i t=(bq i).r.get t
 |0,t,_,_=>rfl
 |i+1,t,hi,h=>by
  simp only[vJ]
  by_cases ht:ds i=some t
  ·rw[ay ⟨h i (by omega) ht,ht⟩]
  ·rw[ak (fun hc=>ht hc.2),Wz T (by omega) fun k hk=>h k (by omega),T i (by omega) t,ak ht]
def Qp:∀{M i t:Nat},i<=M->(∀k,i<=k->k<M->ds k=some t->S k=false)->vJ bq ds S M t=vJ bq ds S i t
 |0,i,t,hi,_=>by rw[Nat.le_zero.1 hi]
 |M+1,i,t,hi,h=>by
  by_cases e:i=M+1
  ·rw[e]
  ·simp only[vJ]
   rw[ak,Qp (by omega) fun k h1 h2=>h k h1 (by omega)]
   rintro⟨h1,h2⟩
   rw[h M (by omega) (by omega) h2]at h1;cases h1
def Zh4{i:Nat}:∀{M t:Nat},ds i≠some t->vJ bq ds (mw S i) M t=vJ bq ds S M t
 |0,t,_=>rfl
 |M+1,t,h=>by
  simp only[vJ]
  rw[Zh4 h]
  by_cases e:M=i
  ·subst e
   rw[ak (fun hc=>h hc.2),ak (fun hc=>h hc.2)]
  ·simp only[mw,e,if_false]
def Yfd{vI:Nat->V}(T:GP bq ds vI N){i t:Nat}(hi:i<N)(ht:ds i=some t)(h:∀k,i<k->k<N->ds k=some t->S k=false):vJ bq ds (mw S i) N t=some (vI i):=by
 rw[Qp (i:=i+1) (by omega) fun k h1 h2 h3=>by simp only[mw];rw[ak (by omega)];exact h k (by omega) h2 h3]
 simp only[vJ,mw]
 rw[ay ⟨by simp,ht⟩,T i hi t,ay ht]
def Aj(r:T V):List Nat->T V
 |[]=>.nil
 |t::ts=>match r.get t with
  |some v=>(Aj r ts).set t v
  |none=>Aj r ts
def Lf(r:T V):∀(ts:List Nat) (t:Nat),(Aj r ts).get t=if t∈ts then r.get t else none
 |[],t=>by simp[Aj,T.get]
 |u::ts,t=>by
  simp only[Aj]
  split
  ·rename_i v hv
   rw[T.ag,Lf r ts t]
   by_cases e:t=u
   ·subst e;simp[hv]
   ·simp[e]
  ·rename_i hv
   rw[Lf r ts t]
   by_cases e:t=u
   ·subst e;simp[hv]
   ·simp[e]
def Ypa{r:T V}{ts:List Nat}{s:Src}(h:∀t∈s.tmps,t∈ts):s.ev (Aj r ts)=s.ev r:=by
 cases s with
 |const v=>rfl
 |tmp t=>simp only[Src.ev];rw[Lf,ay (h t (by simp[Src.tmps]))]
def rj(h:T O)(ae:List Nat):Nat->T O
 |0=>.nil
 |n+1=>match h.get n with
  |some o=>(rj h ae n).set n (if n∈ae then o else .dead)
  |none=>rj h ae n
def JA(h:T O)(ae:List Nat):∀(n j:Nat),(rj h ae n).get j=if j<n then (h.get j).map fun o=>if j∈ae then o else .dead else none
 |0,j=>by simp[rj,T.get]
 |n+1,j=>by
  simp only[rj]
  split
  ·rename_i o ho
   rw[T.ag,JA h ae n j]
   by_cases e:j=n
   ·subst e;simp[ho]
   ·rw[ak e]
    by_cases e2:j<n
    ·rw[ay e2,ay (by omega)]
    ·rw[ak e2,ak (by omega)]
  ·rename_i ho
   rw[JA h ae n j]
   by_cases e:j=n
   ·subst e;simp[ho]
   ·by_cases e2:j<n
    ·rw[ay e2,ay (by omega)]
    ·rw[ak e2,ak (by omega)]
def FP.dk(f:FP)(j:Nat):Prop:=
 match f.rd with
 |none=>True
 |some l=>j∈l
def Ycf{st σ:St}{i:Nat}(h:σ.h.get i=st.h.get i):σ.row i=st.row i:=by unfold St.row;rw[h]
def Yil{call:cD}{r:T V}{op:gk}{st s':St}{v:V}{ws:List Nat}{lo hi:Nat}(hm:cj op call r {st with w:=[]}=some (v,s'))(fO:lo=st.n):
  ∃σ σ',σ.n=st.n/\σ.w=[]/\cj op call r σ=some (v,σ')/\σ'.n=s'.n/\σ'.w=s'.w/\
   (∀j,j<st.n->(po r op ws lo hi).dk j->σ.h.get j=st.h.get j)/\(∀j,j<st.n->¬(po r op ws lo hi).dk j->σ.h.get j=(st.h.get j).map fun _=>.dead)/\
   (∀j,((po r op ws lo hi).dk j/\j<st.n)\/(st.n<=j/\j<s'.n)->σ'.h.get j=s'.h.get j)/\(∀j∈s'.w,(po r op ws lo hi).dk j):=by
 by_cases hs:op.oz=true
 ·have hf:po r op ws lo hi=⟨some [],[],lo,hi⟩:=by unfold po;rw[ay hs]
  rw[hf]
  have hd:∀j,j<st.n->(rj st.h [] st.n).get j=(st.h.get j).map fun _=>.dead:=fun j hj=>by
   rw[JA,ay hj];simp
  rcases Znd hs (rj st.h [] st.n) [] hm with⟨h1,h2⟩|⟨o,h1,h2⟩
  ·subst h1
   exact⟨⟨rj st.h [] st.n,st.n,[]⟩,_,rfl,rfl,h2,rfl,rfl,fun j _ hj=>by simp[FP.dk]at hj,fun j hj _=>hd j hj,fun j hj=>by
    rcases hj with⟨hj,_⟩|⟨h1,h2⟩
    ·simp[FP.dk]at hj
    ·simp only at h2;omega,fun j hj=>by simp at hj⟩
  ·subst h1
   refine⟨⟨rj st.h [] st.n,st.n,[]⟩,_,rfl,rfl,h2,rfl,rfl,fun j _ hj=>by simp[FP.dk]at hj,fun j hj _=>hd j hj,fun j hj=>?_,fun j hj=>by simp[St.alloc]at hj⟩
   rcases hj with⟨hj,_⟩|⟨h1,h2⟩
   ·simp[FP.dk]at hj
   ·simp only[St.alloc]at h2 ⊢
    have:j=st.n:=by omega
    subst this
    rw[T.ag,T.ag,ay rfl,ay rfl]
 ·cases hl:Qf r op with
  |none=>
   have hf:po r op ws lo hi=⟨none,ws,lo,hi⟩:=by unfold po;rw[ak hs,hl]
   rw[hf]
   exact⟨{st with w:=[]},s',rfl,rfl,hm,rfl,rfl,fun _ _ _=>rfl,fun _ _ hj=>absurd trivial hj,fun _ _=>rfl,fun _ _=>trivial⟩
  |some i=>
   by_cases iK:i<st.n
   case neg=>
    have hf:po r op ws lo hi=⟨none,ws,lo,hi⟩:=by unfold po;rw[ak hs,hl];simp only[];rw[ak (by rw[fO];simpa[Nat.blt_eq]using iK)]
    rw[hf]
    exact⟨{st with w:=[]},s',rfl,rfl,hm,rfl,rfl,fun _ _ _=>rfl,fun _ _ hj=>absurd trivial hj,fun _ _=>rfl,fun _ _=>trivial⟩
   have hf:po r op ws lo hi=⟨some [i],ws,lo,hi⟩:=by unfold po;rw[ak hs,hl];simp only[];rw[ay (by rw[fO];simpa[Nat.blt_eq]using iK)]
   rw[hf]
   have hk:(rj st.h [i] st.n).get i=st.h.get i:=by
    rw[JA,ay iK]
    cases st.h.get i<;>simp
   have hd:∀j,j<st.n->¬(j∈[i])->(rj st.h [i] st.n).get j=(st.h.get j).map fun _=>.dead:=fun j hj hn=>by
    rw[JA,ay hj];simp only[hn,if_false]
   have al:(⟨rj st.h [i] st.n,st.n,[]⟩:St).row i=St.row {st with w:=[]} i:=Ycf hk
   cases op<;>simp only[Qf,reduceCtorEq]at hl
   case load k x=>
    split at hl
    ·rename_i i' o hx
     simp only[aq]at hl;subst hl
     simp only[cj,Gu,hx]at hm ⊢
     split at hm
     ·rename_i c e pn hr
      split at hm
      ·rename_i u hu
       simp only[aq,bs]at hm
       obtain⟨rfl,rfl⟩:=hm
       refine⟨⟨rj st.h [i'] st.n,st.n,[]⟩,⟨rj st.h [i'] st.n,st.n,[]⟩,rfl,rfl,?_,rfl,rfl,fun j _ hj=>?_,fun j hj hn=>hd j hj hn,fun j hj=>?_,fun j hj=>by simp at hj⟩
       ·rw[al,hr];simp only[hu]
       ·simp only[FP.dk,uz]at hj;subst hj;exact hk
       ·rcases hj with⟨hj,_⟩|⟨h1,h2⟩
        ·simp only[FP.dk,uz]at hj;subst hj;exact hk
        ·simp only at h2;omega
      ·cases hm
     ·cases hm
    ·cases hl
   case store k x y=>
    split at hl
    ·rename_i i' o hx
     simp only[aq]at hl;subst hl
     simp only[cj,Ec,hx]at hm ⊢
     split at hm
     ·rename_i i2 o2 u yE hu
      simp only[aq,V.ptr.injEq]at yE
      obtain⟨rfl,rfl⟩:=yE
      split at hm
      ·rename_i c e hr
       split at hm
       ·rename_i hc
        simp only[aq,bs]at hm
        obtain⟨rfl,rfl⟩:=hm
        refine⟨⟨rj st.h [i'] st.n,st.n,[]⟩,St.write ⟨rj st.h [i'] st.n,st.n,[]⟩ i' (.cells (ad c o u.cells) e true),rfl,rfl,?_,rfl,rfl,fun j _ hj=>?_,fun j hj hn=>hd j hj hn,fun j hj=>?_,fun j hj=>?_⟩
        ·rw[al,hr]
         simp only[ay hc]
        ·simp only[FP.dk,uz]at hj;subst hj;exact hk
        ·rcases hj with⟨hj,_⟩|⟨h1,h2⟩
         ·simp only[FP.dk,uz]at hj;subst hj
          simp only[St.write,T.ag,if_true]
         ·simp only[St.write]at h2;omega
        ·simpa[FP.dk,St.write]using hj
       ·cases hm
      ·cases hm
     ·cases hm
    ·cases hl
end
end Go.Mx
