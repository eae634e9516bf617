/-What an operation of M looks at-/
import Derived.Test.YthekjfgljafnaaaGreatDoorMxFun
set_option linter.all false
namespace Go.Mx
open Go
section
variable {r r' : T V} {st : St} {call : Za4}
def Zdi : ∀ {l : List Src}, (∀ s ∈ l, s.ev r = s.ev r') → Ziq r l = Ziq r' l
  | [], _ => rfl
  | s :: l, h => by
    simp only [Ziq]
    rw [h s (by simp), Zdi fun s hs => h s (by simp [hs])]
def Zcu {o : Option Src} (h : ∀ s ∈ Yfx o, s.ev r = s.ev r') : evOpt r o = evOpt r' o := by
  cases o with
  | none => rfl
  | some s => simp only [evOpt]; rw [h s (by simp [Yfx])]
def Zg4 : ∀ {l : List (Nat × Nat × Src)}, (∀ s ∈ l.map (·.2.2), s.ev r = s.ev r') → Zfw r l = Zfw r' l
  | [], _ => rfl
  | (o, k, s) :: l, h => by
    simp only [Zfw]
    rw [h s (by simp), Zg4 fun s hs => h s (by simp only [Yxk, Yxa]; exact .inr hs)]
def Yc8 {op : MOp} (h : ∀ s ∈ op.srcs, s.ev r = s.ev r') : mop op call r st = mop op call r' st := by
  cases op <;> simp only [MOp.srcs, Yxa, List.not_mem_nil, or_false, forall_eq_or_imp, forall_eq, Yxs] at h <;> simp only [mop]
  case build z ps => simp only [Ze3, Zg4 h]
  case bslice e s l z ps => simp only [Zfi, Zg4 h]
  case mkfunc f a c => simp only [Zfg, Zdi fun s hs => h s (.inl hs), Zdi fun s hs => h s (.inr hs)]
  case sliceStr x lo hi => simp only [Zbn, h.1, Zcu fun s hs => h.2 s (.inl hs), Zcu fun s hs => h.2 s (.inr hs)]
  case sliceSl z x lo hi m => simp only [Za7, h.1, Zcu fun s hs => h.2 s (.inl (.inl hs)), Zcu fun s hs => h.2 s (.inl (.inr hs)), Zcu fun s hs => h.2 s (.inr hs)]
  case sliceArr k z x lo hi m => simp only [Zbv, h.1, Zcu fun s hs => h.2 s (.inl (.inl hs)), Zcu fun s hs => h.2 s (.inl (.inr hs)), Zcu fun s hs => h.2 s (.inr hs)]
  case mn l => simp only [Zl6, Zdi h]
  case mx l => simp only [Zgv, Zdi h]
  case call f l => simp only [Zex, h.1, Zdi fun s hs => h.2 s hs]
  case ext e l => simp only [Zno, Zdi h]
  all_goals
    first
      | rfl
      | (simp only [Znn, Znq, Zi6, Zgu, Zuj, Zed, Zfb, Zcr, Zde, Zfa, Zes, Zgx, Zgw, Zdd, Zeb, Zec, Zf2, Zpm, Zih, Zkb, Zif, h]; done)
      | (simp only [Zhp, Zfr, Znr, Zcy, Zcg, Zdo, Zf3, Zeu, Zfh, Zet, Zsb, Znp, Zdy, Zft, Zlg, h.1, h.2]; done)
      | (simp only [Zhp, Zet, Znp, h.1, h.2.1, h.2.2]; done)
def Zm7 {op : MOp} (hs : op.silent = true) (h' : T O) (l' : List Nat) {v : V} {st' : St} (h : mop op call r st = some (v, st')) :
    (st' = st ∧ mop op call r ⟨h', st.n, l'⟩ = some (v, ⟨h', st.n, l'⟩)) ∨ ∃ o, st' = st.alloc o ∧ mop op call r ⟨h', st.n, l'⟩ = some (v, St.alloc ⟨h', st.n, l'⟩ o) := by
  cases op <;> simp only [MOp.silent, Ywi] at hs <;> simp only [mop] at h ⊢
  case mkslice e z b zs x y =>
    unfold Zcy at *
    split at h
    · rename_i ha hb
      split at h
      · rename_i hc
        simp only [Yv3, Ywa] at h
        obtain ⟨rfl, rfl⟩ := h
        refine .inr ⟨_, rfl, ?_⟩
        rw [Yv6 hc]
      · cases h
    · cases h
  case bin b t ng x y =>
    refine .inl ?_
    unfold Znr at *
    split at h
    · cases b <;> first | (cases hs; done) | (simp only [Zxw, reduceCtorEq] at h)
    · split at h
      · rename_i hm
        simp only [Yv3, Ywa] at h
        obtain ⟨rfl, rfl⟩ := h
        exact ⟨rfl, by simp_all⟩
      · cases h
    · cases h
  all_goals
    first
      | unfold Znn at * | unfold Zhp at * | unfold Zii at * | unfold Znq at * | unfold Ze3 at * | unfold Zfi at * | unfold Zgu at * | unfold Zuj at * | unfold Zed at * | unfold Zfb at * | unfold Zcr at * | unfold Zfa at * | unfold Zfg at * | unfold Zig at * | unfold Zes at * | unfold Zcy at * | unfold Zbn at * | unfold Zgx at * | unfold Zgw at * | unfold Zcg at * | unfold Zdo at * | unfold Zf3 at * | unfold Zeu at * | unfold Zdd at * | unfold Zec at * | unfold Zhq at * | unfold Zpm at * | unfold Zl6 at * | unfold Zgv at * | unfold Zno at *
  all_goals
    repeat' split at h
    all_goals
      first
        | (cases h; done)
        | (simp only [Yv3, Ywa] at h
           obtain ⟨rfl, rfl⟩ := h
           first
             | (refine .inl ⟨rfl, ?_⟩; simp_all; done)
             | (refine .inr ⟨_, rfl, ?_⟩; simp_all; done))
def Zr8 {α : Type} {p : α → α → Bool} {f : α} {m : Nat} : ∀ {seen : List α} {j : Nat}, seen.length = j → Zao.chk p f m (j - 1) seen = true → ∀ i, i < j → ∀ g, seen[j - 1 - i]? = some g → m.testBit i = true ∨ p g f = true
  | [], j, hl, _, i, hi, g, hg => by simp at hg
  | g0 :: seen, j, hl, h, i, hi, g, hg => by
    simp only [Zao.chk, Ywo, Yzl] at h
    simp only [Yv8] at hl
    by_cases e : i = j - 1
    · subst e
      simp only [Nat.sub_self, Yxy, Yv3] at hg
      subst hg
      exact h.1
    · have h2 := Zr8 (j := j - 1) (by omega) h.2 i (by omega) g
      refine h2 ?_
      rw [show j - 1 - i = (j - 1 - 1 - i) + 1 by omega] at hg
      simpa using hg
def Zwo {α : Type} {p : α → α → Bool} : ∀ {fs : List α} {ms : List Nat} {j : Nat} {seen : List α}, seen.length = j → Zao.go p fs ms j seen = true →
    ∀ (b i : Nat) (f g : α), fs[b]? = some f → i < j + b → (seen.reverse ++ fs)[i]? = some g → (ms.getD b 0).testBit i = true ∨ p g f = true
  | [], ms, j, seen, hl, _, b, i, f, g, hf, _, _ => by simp at hf
  | f0 :: fs, ms, j, seen, hl, h, b, i, f, g, hf, hi, hg => by
    simp only [Zao.go, Ywo] at h
    cases b with
    | zero =>
      simp only [Yxy, Yv3] at hf
      subst hf
      have hm : ms.getD 0 0 = ms.headD 0 := by cases ms <;> rfl
      rw [hm]
      refine Zr8 hl h.1 i (by omega) g ?_
      rw [Ywp (by simp; omega), List.getElem?_reverse (by omega)] at hg
      rw [← hl]; exact hg
    | succ b =>
      have hm : ms.getD (b + 1) 0 = ms.tail.getD b 0 := by cases ms <;> simp
      rw [hm]
      refine Zwo (j := j + 1) (seen := f0 :: seen) (by simp [hl]) h.2 b i f g (by simpa using hf) (by omega) ?_
      simpa using hg
def Zwn {α : Type} {p : α → α → Bool} {xs : List α} {ms : List Nat} (h : Zao p xs ms = true) {i j : Nat} {a b : α} (hij : i < j) (ha : xs[i]? = some a) (hb : xs[j]? = some b) : (ms.getD j 0).testBit i = true ∨ p a b = true :=
  Zwo (seen := []) rfl h j i b a hb (by omega) (by simpa using ha)
def Zi9 : ∀ (os : List Oper) (acc : List Nat) (k : Nat), k < acc.length → (Zdf os acc).getD k 0 = acc.getD k 0
  | [], acc, k, _ => rfl
  | o :: os, acc, k, h => by
    simp only [Zdf]
    rw [Zi9 os _ k (by simp; omega)]
    simp only [List.getD_eq_getElem?_getD]
    rw [Ywp h]
def Znw : ∀ (os : List Oper) (acc : List Nat) (j : Nat) (o : Oper), os[j]? = some o →
    ∃ pre : List Nat, pre.length = acc.length + j ∧ (Zdf os acc).getD (acc.length + j) 0 = Zsn o pre ∧ ∀ k, k < acc.length + j → (Zdf os acc).getD k 0 = pre.getD k 0
  | [], acc, j, o, h => by simp at h
  | o0 :: os, acc, 0, o, h => by
    simp only [Yxy, Yv3] at h
    subst h
    refine ⟨acc, rfl, ?_, fun k hk => ?_⟩
    · simp only [Zdf]
      rw [Zi9 os _ _ (by simp)]
      simp [List.getD_eq_getElem?_getD]
    · exact Zi9 (o0 :: os) acc k hk
  | o0 :: os, acc, j + 1, o, h => by
    obtain ⟨pre, h1, h2, h3⟩ := Znw os (acc ++ [Zsn o0 acc]) j o (by simpa using h)
    simp only [Ywl, Yv8, List.length_nil] at h1 h2 h3
    refine ⟨pre, by omega, ?_, ?_⟩
    · rw [show acc.length + (j + 1) = acc.length + (0 + 1) + j by omega]; exact h2
    · intro k hk; exact h3 k (by omega)
def Zzh {o : Oper} {ms : List Nat} {i : Nat} (h : (Zsn o ms).testBit i = true) : ∃ e ∈ o.after, Region.binds .any e = true ∧ (i = e.on ∨ (ms.getD e.on 0).testBit i = true) := by
  have key : ∀ (l : List Edge) (s : Nat), (l.foldl (fun s e => if Region.binds .any e then s ||| 2 ^ e.on ||| ms.getD e.on 0 else s) s).testBit i = true →
      s.testBit i = true ∨ ∃ e ∈ l, Region.binds .any e = true ∧ (i = e.on ∨ (ms.getD e.on 0).testBit i = true) := by
    intro l
    induction l with
    | nil => intro s h; exact .inl h
    | cons e l ih =>
      intro s h
      simp only [List.foldl_cons] at h
      rcases ih _ h with h | ⟨e', h1, h2⟩
      · split at h
        · rename_i hb
          simp only [Nat.testBit_or, Yzl] at h
          rcases h with (h | h) | h
          · exact .inl h
          · rw [Nat.testBit_two_pow] at h
            exact .inr ⟨e, by simp, hb, .inl (by simpa using (of_decide_eq_true h).symm)⟩
          · exact .inr ⟨e, by simp, hb, .inr h⟩
        · exact .inl h
      · exact .inr ⟨e', by simp [h1], h2⟩
  unfold Zsn at h
  rw [← Array.foldl_toList] at h
  rcases key _ _ h with h | ⟨e, h1, h2⟩
  · simp at h
  · exact ⟨e, by simpa using h1, h2⟩
def Yhz {ops : Array Oper} {j i : Nat} {o : Oper} (ho : ops[j]? = some o) (h : ((Zdf ops.toList []).getD j 0).testBit i = true) :
    ∃ e ∈ o.after, Region.binds .any e = true ∧ (i = e.on ∨ ((Zdf ops.toList []).getD e.on 0).testBit i = true) := by
  obtain ⟨pre, h1, h2, h3⟩ := Znw ops.toList [] j o (by rw [Yyf]; exact ho)
  simp only [List.length_nil, Yyt] at h1 h2 h3
  rw [h2] at h
  obtain ⟨e, g1, g2, g3⟩ := Zzh h
  refine ⟨e, g1, g2, g3.imp id fun hb => ?_⟩
  by_cases he : e.on < j
  · rw [h3 _ he]; exact hb
  · have : pre.getD e.on 0 = 0 := by simp [List.getD_eq_getElem?_getD, h1, Yyc he]
    rw [this] at hb; simp at hb
def Yk8 (ops : Array Oper) (S : Nat → Prop) : Prop := ∀ k i, S k → ((Zdf ops.toList []).getD k 0).testBit i = true → S i
def Zpj {ops : Array Oper} {listed : Array Bool} (hc : Yk8 ops (fun k => listed.getD k false = true)) {j : Nat} (hj : j ∈ Region.ready .any ops listed) :
    j < ops.size ∧ listed.getD j true = false ∧ ∀ i, ((Zdf ops.toList []).getD j 0).testBit i = true → listed.getD i false = true := by
  unfold Region.ready at hj
  simp only [List.mem_filter, Yx1, Ywo, Yzi] at hj
  obtain ⟨h1, h2, h3⟩ := hj
  refine ⟨h1, h2, fun i hi => ?_⟩
  have ho : ops[j]? = some ops[j] := Array.getElem?_eq_getElem h1
  obtain ⟨e, g1, g2, g3⟩ := Yhz ho hi
  rw [ho] at h3
  simp only [Yya, Yxg, Yzq, Yzl, Yzi] at h3
  have he : listed.getD e.on false = true := by
    rcases h3 e g1 with h | h
    · rw [g2] at h; cases h
    · exact h
  rcases g3 with rfl | g3
  · exact he
  · exact hc _ _ he g3
mutual
def Sc (n : Nat) : V → Prop
  | .ptr i _ => i < n
  | .slice i _ _ _ _ => i < n
  | .map i => i < n
  | .chan i => i < n
  | .func _ a c => Scs n a ∧ Scs n c
  | .yield i => i < n
  | .iface _ v => Sc n v
  | .agg l => Scs n l
  | .tup l => Scs n l
  | _ => True
def Scs (n : Nat) : List V → Prop
  | [] => True
  | v :: vs => Sc n v ∧ Scs n vs
end
mutual
def VR.sc {μ : Mu} {n : Nat} (h : ∀ i l, μ i = some l → i < n) : ∀ (v : V) (x : Value), VR μ v x → Sc n v
  | .bool _, _, _ => by simp [Sc]
  | .int _ _, _, _ => by simp [Sc]
  | .flt _ _, _, _ => by simp [Sc]
  | .str _, _, _ => by simp [Sc]
  | .nilptr, _, _ => by simp [Sc]
  | .ptr _ _, _, hx => by simp only [VR] at hx; obtain ⟨l, h1, _⟩ := hx; exact h _ _ h1
  | .nilslice, _, _ => by simp [Sc]
  | .slice _ _ _ _ _, _, hx => by simp only [VR] at hx; obtain ⟨l, c, h1, _⟩ := hx; exact h _ _ h1
  | .empty, _, _ => by simp [Sc]
  | .nilmap, _, _ => by simp [Sc]
  | .map _, _, hx => by simp only [VR] at hx; obtain ⟨l, h1, _⟩ := hx; exact h _ _ h1
  | .nilchan, _, _ => by simp [Sc]
  | .chan _, _, hx => by simp only [VR] at hx; obtain ⟨l, h1, _⟩ := hx; exact h _ _ h1
  | .func _ a c, _, hx => by
    simp only [VR] at hx; obtain ⟨a', c', _, h2, h3⟩ := hx
    exact ⟨VRs.sc h a a' h2, VRs.sc h c c' h3⟩
  | .yield _, _, hx => by simp only [VR] at hx; obtain ⟨l, h1, _⟩ := hx; exact h _ _ h1
  | .nilfunc, _, _ => by simp [Sc]
  | .iface _ v, _, hx => by simp only [VR] at hx; obtain ⟨y, _, h2⟩ := hx; exact VR.sc h v y h2
  | .niliface, _, _ => by simp [Sc]
  | .agg vs, _, hx => by simp only [VR] at hx; obtain ⟨a, _, h2⟩ := hx; exact VRs.sc h vs a h2
  | .tup vs, _, hx => by simp only [VR] at hx; obtain ⟨a, _, h2⟩ := hx; exact VRs.sc h vs a h2
def VRs.sc {μ : Mu} {n : Nat} (h : ∀ i l, μ i = some l → i < n) : ∀ (vs : List V) (xs : List Value), VRs μ vs xs → Scs n vs
  | [], _, _ => trivial
  | v :: vs, _, hx => by
    simp only [VRs] at hx
    obtain ⟨y, ys, _, h2, h3⟩ := hx
    exact ⟨VR.sc h v y h2, VRs.sc h vs ys h3⟩
end
mutual
def VR.cut {μ μ' : Mu} {n : Nat} (h : ∀ i l, i < n → μ i = some l → μ' i = some l) : ∀ (v : V) (x : Value), Sc n v → VR μ v x → VR μ' v x
  | .bool _, _, _, hx => by simpa [VR] using hx
  | .int _ _, _, _, hx => by simpa [VR] using hx
  | .flt _ _, _, _, hx => by simpa [VR] using hx
  | .str _, _, _, hx => by simpa [VR] using hx
  | .nilptr, _, _, hx => by simpa [VR] using hx
  | .ptr _ _, _, hs, hx => by simp only [VR, Sc] at *; obtain ⟨l, h1, h2⟩ := hx; exact ⟨l, h _ _ hs h1, h2⟩
  | .nilslice, _, _, hx => by simpa [VR] using hx
  | .slice _ _ _ _ _, _, hs, hx => by simp only [VR, Sc] at *; obtain ⟨l, c, h1, h2⟩ := hx; exact ⟨l, c, h _ _ hs h1, h2⟩
  | .empty, _, _, hx => by simpa [VR] using hx
  | .nilmap, _, _, hx => by simpa [VR] using hx
  | .map _, _, hs, hx => by simp only [VR, Sc] at *; obtain ⟨l, h1, h2⟩ := hx; exact ⟨l, h _ _ hs h1, h2⟩
  | .nilchan, _, _, hx => by simpa [VR] using hx
  | .chan _, _, hs, hx => by simp only [VR, Sc] at *; obtain ⟨l, h1, h2⟩ := hx; exact ⟨l, h _ _ hs h1, h2⟩
  | .func _ a c, _, hs, hx => by
    simp only [VR, Sc] at *; obtain ⟨a', c', h1, h2, h3⟩ := hx
    exact ⟨a', c', h1, VRs.cut h a a' hs.1 h2, VRs.cut h c c' hs.2 h3⟩
  | .yield _, _, hs, hx => by simp only [VR, Sc] at *; obtain ⟨l, h1, h2⟩ := hx; exact ⟨l, h _ _ hs h1, h2⟩
  | .nilfunc, _, _, hx => by simpa [VR] using hx
  | .iface _ v, _, hs, hx => by simp only [VR, Sc] at *; obtain ⟨y, h1, h2⟩ := hx; exact ⟨y, h1, VR.cut h v y hs h2⟩
  | .niliface, _, _, hx => by simpa [VR] using hx
  | .agg vs, _, hs, hx => by simp only [VR, Sc] at *; obtain ⟨a, h1, h2⟩ := hx; exact ⟨a, h1, VRs.cut h vs a hs h2⟩
  | .tup vs, _, hs, hx => by simp only [VR, Sc] at *; obtain ⟨a, h1, h2⟩ := hx; exact ⟨a, h1, VRs.cut h vs a hs h2⟩
def VRs.cut {μ μ' : Mu} {n : Nat} (h : ∀ i l, i < n → μ i = some l → μ' i = some l) : ∀ (vs : List V) (xs : List Value), Scs n vs → VRs μ vs xs → VRs μ' vs xs
  | [], _, _, hx => by simpa [VRs] using hx
  | v :: vs, _, hs, hx => by
    simp only [VRs, Scs] at *
    obtain ⟨y, ys, h1, h2, h3⟩ := hx
    exact ⟨y, ys, h1, VR.cut h v y hs.1 h2, VRs.cut h vs ys hs.2 h3⟩
end
def OM.cut {P : Program} {μ μ' μT : Mu} {w wT : World} {n : Nat} (h : ∀ i l, i < n → μ i = some l → μ' i = some l) (hT : ∀ i l, μT i = some l → i < n) {o : O} {l lT : L} (ht : OM P μT wT o lT) (ho : OM P μ w o l) : OM P μ' w o l := by
  cases o with
  | cells c e rw =>
    obtain ⟨c', lo, hi, h1, h2, h3, h4, h5⟩ := ho
    obtain ⟨cT, _, _, _, _, _, t4, _⟩ := ht
    exact ⟨c', lo, hi, h1, h2, h3, fun j v hv => by
      obtain ⟨x, a, b⟩ := h4 j v hv
      obtain ⟨xT, _, bT⟩ := t4 j v hv
      exact ⟨x, a, VR.cut h v x (VR.sc hT v xT bT) b⟩, h5⟩
  | map es =>
    obtain ⟨es', h1, h2⟩ := ho
    obtain ⟨esT, _, t2⟩ := ht
    refine ⟨es', h1, ?_⟩
    have : ∀ (es : List (V × V)) (xs xT : List MapEntry) (b bT : Nat), Zir μ es xs b → Zir μT es xT bT → Zir μ' es xs b := by
      intro es
      induction es with
      | nil => intro xs xT b bT h1 _; exact h1
      | cons p es ih =>
        intro xs xT b bT h1 h2
        obtain ⟨k, u⟩ := p
        obtain ⟨e, ys, rfl, a1, a2, a3, a4⟩ := h1
        obtain ⟨eT, yT, rfl, b1, b2, _, b4⟩ := h2
        exact ⟨e, ys, rfl, VR.cut h k _ (VR.sc hT k _ b1) a1, VR.cut h u _ (VR.sc hT u _ b2) a2, a3, ih ys yT _ _ a4 b4⟩
    exact this _ _ _ _ _ h2 t2
  | chan cap buf =>
    obtain ⟨b', s, r, h1, h2⟩ := ho
    obtain ⟨bT, _, _, _, t2⟩ := ht
    exact ⟨b', s, r, h1, VRs.cut h _ _ (VRs.sc hT _ _ t2) h2⟩
  | siter s pos => simp only [OM] at *; exact ho
  | loop R =>
    obtain ⟨fn, tmps, asg, bod, ld, h1, h2, h3, h4, h5⟩ := ho
    obtain ⟨_, tT, _, _, ldT, _, t2, _, _, t5⟩ := ht
    refine ⟨fn, tmps, asg, bod, ld, h1, ⟨h2.1, fun t v hv => ?_⟩, h3, h4, h _ _ (hT _ _ t5) h5⟩
    obtain ⟨x, a, b⟩ := h2.2 t v hv
    obtain ⟨xT, _, bT⟩ := t2.2 t v hv
    exact ⟨x, a, VR.cut h v x (VR.sc hT v xT bT) b⟩
  | defs b => simp only [OM] at *; exact ho
  | dead => trivial
end
section
variable {P:Program} {μ:Mu} {w:World} {st st':St} {fr fr':Fr} {a:Act} {call:Za4} {v:V} {lb:Option Nat}
def Ysu(hcall:Zbx P call)(hE:Zez P)(hh:Zbb P μ w st)(hf:FrR μ fr a){o:Oper}(h:mop (cOp P o.op) call fr.r st=some (v,st')):∃x w' μ' ws,VR μ' v x∧Stp P μ w st μ' w' st' ws:=by
 have hwp:=Ymo (lb:=none) (Q:=fun _ _ _=>False) (K:=fun _ _=>∃x w' μ' ws,VR μ' v x∧Stp P μ w st μ' w' st' ws) hcall hE hh hf h (fun x w' μ' ws h1 h2=>⟨x,w',μ',ws,h1,h2⟩)
 obtain⟨_,hu⟩:=hwp
 generalize (o.semAt (FE none).round a.eval).run P w=res at hu
 cases res with
 |halt x w'=>cases x<;>simp only[Oper.uponIn]at hu
 |ok x w'=>
  cases x<;>simp only[Oper.uponIn]at hu
  case value=>exact hu
  case skip=>exact hu
  case defer=>exact hu
  case enter f args=>
   obtain⟨e,w',fr,hR,_⟩:=hu.2.2 [] (fun d hd=>by simp[Fence.wide]at hd)
   cases e with
   |returned v=>exact hR
   |panicked c=>exact hR.elim
   |outgrown=>obtain⟨_,_,hq⟩:=hR;exact hq.elim
  case row r args=>
   obtain⟨v',w',hR,_⟩:=hu.2 default [] (fun d hd=>by simp[Fence.wide]at hd)
   exact hR
  case round l f tmps asg bod=>
   obtain⟨e,w',hR,_⟩:=hu.2.2 default [] (fun d hd=>by simp[Fence.wide]at hd)
   cases e with
   |returned v=>exact hR
   |panicked c=>exact hR.elim
   |outgrown=>obtain⟨_,_,hq⟩:=hR;exact hq.elim
def Zh7(P:Program)(call:Za4)(ops:Array Oper)(o:Oper)(st:St)(fr:Fr)(v:V)(f:FP)(st1:St)(fr1:Fr):Prop:=
 ∃g b,Zoj ops o.guard=some g∧wantedV fr.r g=some b∧fr.put o.dst v=some fr1∧
  (b=true→∃s',mop (cOp P o.op) call fr.r {st with w:=[]}=some (v,s')∧st1={s' with w:=Zaa st.n s'.w++st.w}∧f=Zc1 fr.r (cOp P o.op) (Zaa st.n s'.w) st.n s'.n)∧
  (b=false→v=.tup []∧st1=st∧f=⟨some [],[],st.n,st.n⟩)
def Zsf{ops:Array Oper}:∀(os:List Oper) (fr:Fr) (st:St) (fps:List FP) (fr':Fr) (st':St),mopsD call (os.map (Zhb P ops)) fr st=some (fps,fr',st')→
  ∃(stI:Nat→St) (frI:Nat→Fr) (vI:Nat→V) (fpI:Nat→FP),stI 0=st∧frI 0=fr∧stI os.length=st'∧frI os.length=fr'∧fps.length=os.length∧
   ∀i o,os[i]?=some o→fps[i]?=some (fpI i)∧Zh7 P call ops o (stI i) (frI i) (vI i) (fpI i) (stI (i+1)) (frI (i+1))
 |[],fr,st,fps,fr',st',h=>by
  simp only[Yyr,mopsD,Ycm,Yv3,Ywa]at h
  obtain⟨rfl,rfl,rfl⟩:=h
  exact⟨fun _=>st,fun _=>fr,fun _=>.nilptr,fun _=>⟨none,[],0,0⟩,rfl,rfl,rfl,rfl,rfl,fun i o h=>by simp at h⟩
 |o::os,fr,st,fps,fr',st',h=>by
  simp only[Yxk,mopsD,Zfu]at h
  have go:∀(v:V) (f:FP) (st1:St) (fr1:Fr) (fps1:List FP),Zh7 P call ops o st fr v f st1 fr1→mopsD call (os.map (Zhb P ops)) fr1 st1=some (fps1,fr',st')→fps=f::fps1→
    ∃(stI:Nat→St) (frI:Nat→Fr) (vI:Nat→V) (fpI:Nat→FP),stI 0=st∧frI 0=fr∧stI (o::os).length=st'∧frI (o::os).length=fr'∧fps.length=(o::os).length∧
     ∀i o',(o::os)[i]?=some o'→fps[i]?=some (fpI i)∧Zh7 P call ops o' (stI i) (frI i) (vI i) (fpI i) (stI (i+1)) (frI (i+1)):=by
   intro v f st1 fr1 fps1 hs hm hf
   obtain⟨stI,frI,vI,fpI,h1,h2,h3,h4,h5,h6⟩:=Zsf os fr1 st1 fps1 fr' st' hm
   refine⟨fun|0=>st|i+1=>stI i,fun|0=>fr|i+1=>frI i,fun|0=>v|i+1=>vI i,fun|0=>f|i+1=>fpI i,rfl,rfl,h3,h4,by simp[hf,h5],fun i o' ho=>?_⟩
   cases i with
   |zero=>
    simp only[Yxy,Yv3]at ho
    subst ho
    refine⟨by simp[hf],?_⟩
    show Zh7 P call ops o st fr v f (stI 0) (frI 0)
    rw[h1,h2];exact hs
   |succ i=>
    obtain⟨g1,g2⟩:=h6 i o' (by simpa using ho)
    exact⟨by simpa[hf]using g1,g2⟩
  unfold Zhb at h
  cases hg:Zoj ops o.guard with
  |none=>
   rw[hg]at h
   simp only[wantedV,mop,Zuk]at h
   cases h
  |some g=>
   rw[hg]at h
   simp only at h
   cases hw:wantedV fr.r g with
   |none=>rw[hw]at h;cases h
   |some b=>
    rw[hw]at h
    cases b with
    |true=>
     simp only at h
     split at h
     ·rename_i v1 s1 hm
      split at h
      ·rename_i fr1 hp
       split at h
       ·rename_i fps1 fr2 st2 hrest
        simp only[Yv3,Ywa]at h
        obtain⟨rfl,rfl,rfl⟩:=h
        exact go v1 _ _ fr1 fps1 ⟨g,true,hg,hw,hp,fun _=>⟨s1,hm,rfl,rfl⟩,fun hc=>by cases hc⟩ hrest rfl
       ·cases h
      ·cases h
     ·cases h
    |false=>
     simp only at h
     split at h
     ·rename_i fr1 hp
      split at h
      ·rename_i fps1 fr2 st2 hrest
       simp only[Yv3,Ywa]at h
       obtain⟨rfl,rfl,rfl⟩:=h
       exact go (.tup []) _ st fr1 fps1 ⟨g,false,hg,hw,hp,(fun hc=>by cases hc),fun _=>⟨rfl,rfl,rfl⟩⟩ hrest rfl
      ·cases h
     ·cases h
def Zvf{op:MOp}{s':St}(hm:mop op call fr.r {st with w:=[]}=some (v,s'))(lo hi:Nat):(Zc1 fr.r op (Zaa st.n s'.w) lo hi).wr=Zaa st.n s'.w∧(Zc1 fr.r op (Zaa st.n s'.w) lo hi).lo=lo∧(Zc1 fr.r op (Zaa st.n s'.w) lo hi).hi=hi:=by
 unfold Zc1
 split
 ·rename_i hs
  rcases Zm7 hs .nil [] hm with⟨h1,_⟩|⟨o,h1,_⟩
  ·subst h1;exact⟨rfl,rfl,rfl⟩
  ·subst h1;exact⟨rfl,rfl,rfl⟩
 ·split
  ·split<;>exact⟨rfl,rfl,rfl⟩
  ·exact⟨rfl,rfl,rfl⟩
def Ybg(hcall:Zbx P call)(hE:Zez P)(hh:Zbb P μ w st)(hf:FrR μ fr a){ops:Array Oper}{o:Oper}{f:FP}{st1:St}{fr1:Fr}(h:Zh7 P call ops o st fr v f st1 fr1):
  ∃w' μ' a',Stp P μ w st μ' w' st1 f.wr∧FrR μ' fr1 a'∧f.lo=st.n∧f.hi=st1.n:=by
 obtain⟨g,b,hg,hw,hp,ht,hfa⟩:=h
 cases b with
 |true=>
  obtain⟨s',hm,rfl,rfl⟩:=ht rfl
  obtain⟨x,w',μ',ws,h1,h2⟩:=Ysu hcall hE (hh.now []) hf hm
  have h3:=h2.fold hh
  obtain⟨e1,e2,e3⟩:=Zvf (call:=call) hm st.n s'.n
  rw[e1,e2,e3]
  exact⟨w',μ',_,h3,(hf.mono (h3.mono hh)).put h1 hp,rfl,rfl⟩
 |false=>
  obtain⟨rfl,rfl,rfl⟩:=hfa rfl
  exact⟨w,μ,_,Stp.refl hh,hf.put (v:=.tup []) (x:=undef) ⟨[],rfl,by simp[VRs]⟩ hp,rfl,rfl⟩
structure Txt (P:Program) (μ:Mu) (stI:Nat→St) (frI:Nat→Fr) (fpI:Nat→FP) (N:Nat):Prop where
 nle:∀i,i<N→(stI i).n≤(stI (i+1)).n
 lo:∀i,i<N→(fpI i).lo=(stI i).n
 hi:∀i,i<N→(fpI i).hi=(stI (i+1)).n
 wl:∀i,i<N→(stI (i+1)).w=(fpI i).wr++(stI i).w
 wlt:∀i,i<N→∀j∈(fpI i).wr,j<(stI i).n
 keep:∀i,i<N→∀j,j<(stI i).n→j∉(fpI i).wr→(stI (i+1)).h.get j=(stI i).h.get j
 grow:∀i,i<N→∀j o',j<(stI i).n→(stI (i+1)).h.get j=some o'→∃o,(stI i).h.get j=some o∧(o'.wr=true→o.wr=true)∧(o'.live=true→o.live=true)
 wrt:∀i,i<N→∀j∈(fpI i).wr,∃o,(stI i).h.get j=some o∧o.wr=true
 scr:∀i,i≤N→∀t v,(frI i).r.get t=some v→Sc (stI i).n v
 sch:∀i,i≤N→∀j,(j<(stI 0).n→∃l,μ j=some l)→j<(stI i).n→∃o μT wT lT,(stI i).h.get j=some o∧OM P μT wT o lT∧∀k l,μT k=some l→k<(stI i).n
 fn:∀i,i≤N→(frI i).n=(frI 0).n∧(frI i).marks=(frI 0).marks
def Ypv{ops:Array Oper}{o:Oper}{f:FP}{st1:St}{fr1:Fr}(h:Zh7 P call ops o st fr v f st1 fr1):∀j∈f.wr,j<st.n:=by
 have key:∀(l:List Nat) (n j:Nat),j∈Zaa n l→j<n:=by
  intro l n j hj
  induction l with
  |nil=>simp[Zaa]at hj
  |cons i l ih=>
   simp only[Zaa]at hj
   split at hj
   ·unfold Zf7 at hj
    split at hj
    ·exact ih hj
    ·simp only[Yxa]at hj
     rcases hj with rfl|hj
     ·assumption
     ·exact ih hj
   ·exact ih hj
 obtain⟨g,b,hg,hw,hp,ht,hfa⟩:=h
 cases b with
 |true=>
  obtain⟨s',hm,rfl,rfl⟩:=ht rfl
  rw[(Zvf (call:=call) hm _ _).1]
  exact key _ _
 |false=>
  obtain⟨rfl,rfl,rfl⟩:=hfa rfl
  intro j hj
  simp at hj
def Yg7{d:Option Nat}(h:fr.put d v=some fr'):fr'.n=fr.n∧fr'.marks=fr.marks:=by
 cases d with
 |none=>simp only[Fr.put,Yv3]at h;subst h;exact⟨rfl,rfl⟩
 |some d=>
  simp only[Fr.put]at h
  split at h
  ·simp only[Yv3]at h;subst h;exact⟨rfl,rfl⟩
  ·cases h
def Zxx(hcall:Zbx P call)(hE:Zez P){ops:Array Oper}{stI:Nat→St}{frI:Nat→Fr}{vI:Nat→V}{fpI:Nat→FP}{N:Nat}{os:List Oper}(hN:os.length=N)
  (hh:Zbb P μ w (stI 0)) (hf:FrR μ (frI 0) a) (hs:∀i o,os[i]?=some o→Zh7 P call ops o (stI i) (frI i) (vI i) (fpI i) (stI (i+1)) (frI (i+1))):
  ∀i,i≤N→∃w' μ' a' ws,Stp P μ w (stI 0) μ' w' (stI i) ws∧FrR μ' (frI i) a':=by
 intro i
 induction i with
 |zero=>exact fun _=>⟨w,μ,a,[],Stp.refl hh,hf⟩
 |succ i ih=>
  intro hi
  obtain⟨w',μ',a',ws,h1,h2⟩:=ih (by omega)
  have ho:os[i]?=some (os[i]'(by omega)):=Yv9 (by omega)
  obtain⟨w2,μ2,a2,h3,h4,_⟩:=Ybg hcall hE h1.hr h2 (hs i _ ho)
  exact⟨w2,μ2,a2,_,h1.trans h3,h4⟩
def Yp0(hcall:Zbx P call)(hE:Zez P){ops:Array Oper}{stI:Nat→St}{frI:Nat→Fr}{vI:Nat→V}{fpI:Nat→FP}{N:Nat}{os:List Oper}(hN:os.length=N)
  (hh:Zbb P μ w (stI 0)) (hf:FrR μ (frI 0) a) (hs:∀i o,os[i]?=some o→Zh7 P call ops o (stI i) (frI i) (vI i) (fpI i) (stI (i+1)) (frI (i+1))):Txt P μ stI frI fpI N:=by
 have hch:=Zxx hcall hE hN hh hf hs
 have hget:∀i,i<N→∃o,os[i]?=some o:=fun i hi=>⟨_,Yv9 (by omega)⟩
 have hstep:∀i,i<N→∃w1 μ1 w2 μ2 a2,Stp P μ1 w1 (stI i) μ2 w2 (stI (i+1)) (fpI i).wr∧FrR μ2 (frI (i+1)) a2∧(fpI i).lo=(stI i).n∧(fpI i).hi=(stI (i+1)).n:=fun i hi=>by
  obtain⟨w',μ',a',ws,h1,h2⟩:=hch i (by omega)
  obtain⟨o,ho⟩:=hget i hi
  obtain⟨w2,μ2,a2,h3,h4,h5,h6⟩:=Ybg hcall hE h1.hr h2 (hs i o ho)
  exact⟨w',μ',w2,μ2,a2,h3,h4,h5,h6⟩
 refine⟨fun i hi=>?_,fun i hi=>?_,fun i hi=>?_,fun i hi=>?_,fun i hi=>?_,fun i hi=>?_,fun i hi=>?_,fun i hi=>?_,fun i hi t v hv=>?_,fun i hi j hj hjn=>?_,fun i=>?_⟩
 ·obtain⟨_,_,_,_,_,h,_⟩:=hstep i hi;exact h.nle
 ·obtain⟨_,_,_,_,_,_,_,h,_⟩:=hstep i hi;exact h
 ·obtain⟨_,_,_,_,_,_,_,_,h⟩:=hstep i hi;exact h
 ·obtain⟨_,_,_,_,_,h,_⟩:=hstep i hi;exact h.wl
 ·obtain⟨o,ho⟩:=hget i hi;exact Ypv (hs i o ho)
 ·obtain⟨_,_,_,_,_,h,_⟩:=hstep i hi;exact h.keep
 ·obtain⟨_,_,_,_,_,h,_⟩:=hstep i hi;exact h.grow
 ·obtain⟨o,ho⟩:=hget i hi
  obtain⟨_,_,_,_,_,h,_⟩:=hstep i hi
  exact fun j hj=>h.wrt j hj (Ypv (hs i o ho) j hj)
 ·obtain⟨w',μ',a',ws,h1,h2⟩:=hch i hi
  obtain⟨x,_,hx⟩:=h2.1.2 t v hv
  exact VR.sc (fun k l hk=>(h1.hr.dom k l hk).1) v x hx
 ·obtain⟨w',μ',a',ws,h1,h2⟩:=hch i hi
  have hl:∃l,μ' j=some l:=by
   by_cases h0:j<(stI 0).n
   ·obtain⟨l,hl⟩:=hj h0
    exact⟨l,(h1.ext j h0).trans hl⟩
   ·exact h1.full j (by omega) hjn
  obtain⟨l,hl⟩:=hl
  obtain⟨o,ho1,ho2⟩:=h1.hr.obj j l hl
  exact⟨o,μ',w',l,ho1,ho2,fun k l hk=>(h1.hr.dom k l hk).1⟩
 ·induction i with
  |zero=>exact fun _=>⟨rfl,rfl⟩
  |succ i ih=>
   intro hi
   obtain⟨o,ho⟩:=hget i (by omega)
   obtain⟨g,b,_,_,hp,_⟩:=hs i o ho
   obtain⟨e1,e2⟩:=Yg7 hp
   obtain⟨f1,f2⟩:=ih (by omega)
   exact⟨e1.trans f1,e2.trans f2⟩
end
def Zi1(stI:Nat→St)(fpI:Nat→FP)(k j:Nat):Prop:=j∈(fpI k).wr∨((stI k).n≤j∧j<(stI (k+1)).n)
instance (stI:Nat→St) (fpI:Nat→FP) (k j:Nat):Decidable (Zi1 stI fpI k j):=by unfold Zi1;infer_instance
def Zd3(stI:Nat→St)(fpI:Nat→FP)(S:Nat→Bool):Nat→Nat→Option O
 |0,j=>(stI 0).h.get j
 |k+1,j=>if S k=true∧Zi1 stI fpI k j then (stI (k+1)).h.get j else Zd3 stI fpI S k j
def Zjj(frI:Nat→Fr)(ds:Nat→Option Nat)(S:Nat→Bool):Nat→Nat→Option V
 |0,t=>(frI 0).r.get t
 |k+1,t=>if S k=true∧ds k=some t then (frI (k+1)).r.get t else Zjj frI ds S k t
def Zma(S:Nat→Bool)(i:Nat):Nat→Bool:=fun k=>if k=i then true else S k
section
variable {P:Program} {μ:Mu} {stI:Nat→St} {frI:Nat→Fr} {fpI:Nat→FP} {ds:Nat→Option Nat} {S:Nat→Bool} {N:Nat}
def Zrf(T:Txt P μ stI frI fpI N):∀{i j:Nat},i≤N→j<(stI i).n→(∀k,k<i→Zi1 stI fpI k j→S k=true)→Zd3 stI fpI S i j=(stI i).h.get j
 |0,j,_,_,_=>rfl
 |i+1,j,hi,hj,h=>by
  simp only[Zd3]
  by_cases ht:Zi1 stI fpI i j
  ·rw[Yv6 ⟨h i (by omega) ht,ht⟩]
  ·rw[Yv4 (fun hc=>ht hc.2)]
   simp only[Zi1,not_or,not_and,Yy2]at ht
   have hlt:j<(stI i).n:=by
    rcases Nat.lt_or_ge j (stI i).n with h1|h1
    ·exact h1
    ·have:=ht.2 h1;omega
   rw[Zrf T (by omega) hlt fun k hk=>h k (by omega),T.keep i (by omega) j hlt ht.1]
def Zio:∀{M i j:Nat},i≤M→(∀k,i≤k→k<M→Zi1 stI fpI k j→S k=false)→Zd3 stI fpI S M j=Zd3 stI fpI S i j
 |0,i,j,hi,_=>by rw[Nat.le_zero.1 hi]
 |M+1,i,j,hi,h=>by
  by_cases e:i=M+1
  ·rw[e]
  ·simp only[Zd3]
   rw[Yv4,Zio (by omega) fun k h1 h2=>h k h1 (by omega)]
   rintro⟨h1,h2⟩
   rw[h M (by omega) (by omega) h2]at h1;cases h1
def Zh3{i:Nat}:∀{M j:Nat},¬Zi1 stI fpI i j→Zd3 stI fpI (Zma S i) M j=Zd3 stI fpI S M j
 |0,j,_=>rfl
 |M+1,j,h=>by
  simp only[Zd3]
  rw[Zh3 h]
  by_cases e:M=i
  ·subst e
   rw[Yv4 (fun hc=>h hc.2),Yv4 (fun hc=>h hc.2)]
  ·simp only[Zma,e,if_false]
def Ye9{i j:Nat}(hi:i<N)(ht:Zi1 stI fpI i j)(h:∀k,i<k→k<N→Zi1 stI fpI k j→S k=false):Zd3 stI fpI (Zma S i) N j=(stI (i+1)).h.get j:=by
 rw[Zio (i:=i+1) (by omega) fun k h1 h2 h3=>by simp only[Zma];rw[Yv4 (by omega)];exact h k (by omega) h2 h3]
 simp only[Zd3,Zma]
 rw[Yv6 ⟨by simp,ht⟩]
def Ypl(frI:Nat→Fr)(ds:Nat→Option Nat)(vI:Nat→V)(N:Nat):Prop:=∀i,i<N→∀t,(frI (i+1)).r.get t=if ds i=some t then some (vI i) else (frI i).r.get t
def Zre{vI:Nat→V}(T:Ypl frI ds vI N):∀{i t:Nat},i≤N→(∀k,k<i→ds k=some t→S k=true)→Zjj frI ds S i t=(frI i).r.get t
 |0,t,_,_=>rfl
 |i+1,t,hi,h=>by
  simp only[Zjj]
  by_cases ht:ds i=some t
  ·rw[Yv6 ⟨h i (by omega) ht,ht⟩]
  ·rw[Yv4 (fun hc=>ht hc.2),Zre T (by omega) fun k hk=>h k (by omega),T i (by omega) t,Yv4 ht]
def Zin:∀{M i t:Nat},i≤M→(∀k,i≤k→k<M→ds k=some t→S k=false)→Zjj frI ds S M t=Zjj frI ds S i t
 |0,i,t,hi,_=>by rw[Nat.le_zero.1 hi]
 |M+1,i,t,hi,h=>by
  by_cases e:i=M+1
  ·rw[e]
  ·simp only[Zjj]
   rw[Yv4,Zin (by omega) fun k h1 h2=>h k h1 (by omega)]
   rintro⟨h1,h2⟩
   rw[h M (by omega) (by omega) h2]at h1;cases h1
def Zh2{i:Nat}:∀{M t:Nat},ds i≠some t→Zjj frI ds (Zma S i) M t=Zjj frI ds S M t
 |0,t,_=>rfl
 |M+1,t,h=>by
  simp only[Zjj]
  rw[Zh2 h]
  by_cases e:M=i
  ·subst e
   rw[Yv4 (fun hc=>h hc.2),Yv4 (fun hc=>h hc.2)]
  ·simp only[Zma,e,if_false]
def Ye8{vI:Nat→V}(T:Ypl frI ds vI N){i t:Nat}(hi:i<N)(ht:ds i=some t)(h:∀k,i<k→k<N→ds k=some t→S k=false):Zjj frI ds (Zma S i) N t=some (vI i):=by
 rw[Zin (i:=i+1) (by omega) fun k h1 h2 h3=>by simp only[Zma];rw[Yv4 (by omega)];exact h k (by omega) h2 h3]
 simp only[Zjj,Zma]
 rw[Yv6 ⟨by simp,ht⟩,T i hi t,Yv6 ht]
def Ye5(r:T V):List Nat→T V
 |[]=>.nil
 |t::ts=>match r.get t with
  |some v=>(Ye5 r ts).set t v
  |none=>Ye5 r ts
def Zkw(r:T V):∀(ts:List Nat) (t:Nat),(Ye5 r ts).get t=if t∈ts then r.get t else none
 |[],t=>by simp[Ye5,T.get]
 |u::ts,t=>by
  simp only[Ye5]
  split
  ·rename_i v hv
   rw[T.get_set,Zkw r ts t]
   by_cases e:t=u
   ·subst e;simp[hv]
   ·simp[e]
  ·rename_i hv
   rw[Zkw r ts t]
   by_cases e:t=u
   ·subst e;simp[hv]
   ·simp[e]
def Yop{r:T V}{ts:List Nat}{s:Src}(h:∀t∈s.tmps,t∈ts):s.ev (Ye5 r ts)=s.ev r:=by
 cases s with
 |const v=>rfl
 |tmp t=>simp only[Src.ev];rw[Zkw,Yv6 (h t (by simp[Src.tmps]))]
def Zcj(h:T O)(keep:List Nat):Nat→T O
 |0=>.nil
 |n+1=>match h.get n with
  |some o=>(Zcj h keep n).set n (if n∈keep then o else .dead)
  |none=>Zcj h keep n
def Zeg(h:T O)(keep:List Nat):∀(n j:Nat),(Zcj h keep n).get j=if j<n then (h.get j).map fun o=>if j∈keep then o else .dead else none
 |0,j=>by simp[Zcj,T.get]
 |n+1,j=>by
  simp only[Zcj]
  split
  ·rename_i o ho
   rw[T.get_set,Zeg h keep n j]
   by_cases e:j=n
   ·subst e;simp[ho]
   ·rw[Yv4 e]
    by_cases e2:j<n
    ·rw[Yv6 e2,Yv6 (by omega)]
    ·rw[Yv4 e2,Yv4 (by omega)]
  ·rename_i ho
   rw[Zeg h keep n j]
   by_cases e:j=n
   ·subst e;simp[ho]
   ·by_cases e2:j<n
    ·rw[Yv6 e2,Yv6 (by omega)]
    ·rw[Yv4 e2,Yv4 (by omega)]
def FP.sees(f:FP)(j:Nat):Prop:=
 match f.rd with
 |none=>True
 |some l=>j∈l
def Yb2{st σ:St}{i:Nat}(h:σ.h.get i=st.h.get i):σ.row i=st.row i:=by unfold St.row;rw[h]
def Yh3{call:Za4}{r:T V}{op:MOp}{st s':St}{v:V}{ws:List Nat}{lo hi:Nat}(hm:mop op call r {st with w:=[]}=some (v,s'))(hlo:lo=st.n):
  ∃σ σ',σ.n=st.n∧σ.w=[]∧mop op call r σ=some (v,σ')∧σ'.n=s'.n∧σ'.w=s'.w∧
   (∀j,j<st.n→(Zc1 r op ws lo hi).sees j→σ.h.get j=st.h.get j)∧(∀j,j<st.n→¬(Zc1 r op ws lo hi).sees j→σ.h.get j=(st.h.get j).map fun _=>.dead)∧
   (∀j,((Zc1 r op ws lo hi).sees j∧j<st.n)∨(st.n≤j∧j<s'.n)→σ'.h.get j=s'.h.get j)∧(∀j∈s'.w,(Zc1 r op ws lo hi).sees j):=by
 by_cases hs:op.silent=true
 ·have hf:Zc1 r op ws lo hi=⟨some [],[],lo,hi⟩:=by unfold Zc1;rw[Yv6 hs]
  rw[hf]
  have hd:∀j,j<st.n→(Zcj st.h [] st.n).get j=(st.h.get j).map fun _=>.dead:=fun j hj=>by
   rw[Zeg,Yv6 hj];simp
  rcases Zm7 hs (Zcj st.h [] st.n) [] hm with⟨h1,h2⟩|⟨o,h1,h2⟩
  ·subst h1
   exact⟨⟨Zcj st.h [] st.n,st.n,[]⟩,_,rfl,rfl,h2,rfl,rfl,fun j _ hj=>by simp[FP.sees]at hj,fun j hj _=>hd j hj,fun j hj=>by
    rcases hj with⟨hj,_⟩|⟨h1,h2⟩
    ·simp[FP.sees]at hj
    ·simp only at h2;omega,fun j hj=>by simp at hj⟩
  ·subst h1
   refine⟨⟨Zcj st.h [] st.n,st.n,[]⟩,_,rfl,rfl,h2,rfl,rfl,fun j _ hj=>by simp[FP.sees]at hj,fun j hj _=>hd j hj,fun j hj=>?_,fun j hj=>by simp[St.alloc]at hj⟩
   rcases hj with⟨hj,_⟩|⟨h1,h2⟩
   ·simp[FP.sees]at hj
   ·simp only[St.alloc]at h2 ⊢
    have:j=st.n:=by omega
    subst this
    rw[T.get_set,T.get_set,Yv6 rfl,Yv6 rfl]
 ·cases hl:Zw6 r op with
  |none=>
   have hf:Zc1 r op ws lo hi=⟨none,ws,lo,hi⟩:=by unfold Zc1;rw[Yv4 hs,hl]
   rw[hf]
   exact⟨{st with w:=[]},s',rfl,rfl,hm,rfl,rfl,fun _ _ _=>rfl,fun _ _ hj=>absurd trivial hj,fun _ _=>rfl,fun _ _=>trivial⟩
  |some i=>
   by_cases hi':i<st.n
   case neg=>
    have hf:Zc1 r op ws lo hi=⟨none,ws,lo,hi⟩:=by unfold Zc1;rw[Yv4 hs,hl];simp only[];rw[Yv4 (by rw[hlo];simpa[Nat.blt_eq]using hi')]
    rw[hf]
    exact⟨{st with w:=[]},s',rfl,rfl,hm,rfl,rfl,fun _ _ _=>rfl,fun _ _ hj=>absurd trivial hj,fun _ _=>rfl,fun _ _=>trivial⟩
   have hf:Zc1 r op ws lo hi=⟨some [i],ws,lo,hi⟩:=by unfold Zc1;rw[Yv4 hs,hl];simp only[];rw[Yv6 (by rw[hlo];simpa[Nat.blt_eq]using hi')]
   rw[hf]
   have hk:(Zcj st.h [i] st.n).get i=st.h.get i:=by
    rw[Zeg,Yv6 hi']
    cases st.h.get i<;>simp
   have hd:∀j,j<st.n→¬(j∈[i])→(Zcj st.h [i] st.n).get j=(st.h.get j).map fun _=>.dead:=fun j hj hn=>by
    rw[Zeg,Yv6 hj];simp only[hn,if_false]
   have hrow:(⟨Zcj st.h [i] st.n,st.n,[]⟩:St).row i=St.row {st with w:=[]} i:=Yb2 hk
   cases op<;>simp only[Zw6,reduceCtorEq]at hl
   case load k x=>
    split at hl
    ·rename_i i' o hx
     simp only[Yv3]at hl;subst hl
     simp only[mop,Zi6,hx]at hm ⊢
     split at hm
     ·rename_i c e rw' hr
      split at hm
      ·rename_i u hu
       simp only[Yv3,Ywa]at hm
       obtain⟨rfl,rfl⟩:=hm
       refine⟨⟨Zcj st.h [i'] st.n,st.n,[]⟩,⟨Zcj st.h [i'] st.n,st.n,[]⟩,rfl,rfl,?_,rfl,rfl,fun j _ hj=>?_,fun j hj hn=>hd j hj hn,fun j hj=>?_,fun j hj=>by simp at hj⟩
       ·rw[hrow,hr];simp only[hu]
       ·simp only[FP.sees,Yx0]at hj;subst hj;exact hk
       ·rcases hj with⟨hj,_⟩|⟨h1,h2⟩
        ·simp only[FP.sees,Yx0]at hj;subst hj;exact hk
        ·simp only at h2;omega
      ·cases hm
     ·cases hm
    ·cases hl
   case store k x y=>
    split at hl
    ·rename_i i' o hx
     simp only[Yv3]at hl;subst hl
     simp only[mop,Zfr,hx]at hm ⊢
     split at hm
     ·rename_i i2 o2 u hx2 hu
      simp only[Yv3,V.ptr.injEq]at hx2
      obtain⟨rfl,rfl⟩:=hx2
      split at hm
      ·rename_i c e hr
       split at hm
       ·rename_i hc
        simp only[Yv3,Ywa]at hm
        obtain⟨rfl,rfl⟩:=hm
        refine⟨⟨Zcj st.h [i'] st.n,st.n,[]⟩,St.write ⟨Zcj st.h [i'] st.n,st.n,[]⟩ i' (.cells (splice c o u.cells) e true),rfl,rfl,?_,rfl,rfl,fun j _ hj=>?_,fun j hj hn=>hd j hj hn,fun j hj=>?_,fun j hj=>?_⟩
        ·rw[hrow,hr]
         simp only[Yv6 hc]
        ·simp only[FP.sees,Yx0]at hj;subst hj;exact hk
        ·rcases hj with⟨hj,_⟩|⟨h1,h2⟩
         ·simp only[FP.sees,Yx0]at hj;subst hj
          simp only[St.write,T.get_set,if_true]
         ·simp only[St.write]at h2;omega
        ·simpa[FP.sees,St.write]using hj
       ·cases hm
      ·cases hm
     ·cases hm
    ·cases hl
end
end Go.Mx
