/-The machine M's runs stand for the Go mo-/
import Derived.Test.YtgnadghjglamaaaGreatDoorMxCode
import Derived.Conc.LoneSelect
set_option linter.all false
namespace Go.Mx
open Go Go.Conc
section
variable {P:Program} {μ:Mu} {w:World} {st st':St} {fr fr':Fr} {a:Act} {call:Za1} {v:V} {lb:Option Nat}
def Ydm{o:Oper}{d:Option Nat}{ch:Src}{s:Option Src}{z:V}(h:Yn4 P o=some (d,ch,s,z)):
  ∃c,o.op=.select #[c] false∧o.guard=none∧o.dst=d∧Zbe P c.chan=some ch∧Zqc P c.send=some s∧Ze6 P c.elem=some z:=by
 unfold Yn4 at h
 split at h
 ·rename_i cs hop hg
  split at h
  ·rename_i c hcs
   split at h
   ·rename_i ch' s' z' h1 h2 h3
    simp only[Yrs,Yrv]at h
    obtain⟨rfl,rfl,rfl,rfl⟩:=h
    have:=Zkz hcs
    subst this
    exact⟨c,hop,hg,rfl,h1,h2,h3⟩
   ·cases h
  ·cases h
 ·cases h
def Zjl{b:Frame}{ops:Array Oper}{i:Nat}{rest:List Nat}{k:List Item}{cs:List Frame}{o:Oper}{cases:Array CommCase}(ho:ops[i]?=some o)(hg:o.guard=none)(hnd:∀c,o.op≠.defer c)
  (hrun:(execOp a.eval o).run P w=.ok (.comm cases false .select) w):
  ∃es,stepG P true (G (b.atR a (.inRegion ops (i::rest)::k)) cs) w=.comm (G (b.atR a (.inRegion ops (i::rest)::k)) cs) cases false .select w es:=by
 have hw:Region.wanted o (yielded ops a.tmps)=true:=by simp[Region.wanted,hg]
 have h:=stepGR_op (P:=P) (b:=b) (a:=a) (k:=k) (cs:=cs) (w:=w) (rest:=rest) ho hw
 have hrun':((o.semAt b.roundOf a.eval).runT P w #[]).1=.ok (.comm cases false .select) w:=by
  rw[Sem.runT_fst,Oper.semAt_eq _ _ _ hnd];exact hrun
 unfold G
 rw[h]
 unfold stepG.apply
 generalize hr:(o.semAt b.roundOf a.eval).runT P w #[]=r at hrun'
 obtain⟨r1,r2⟩:=r
 simp only at hrun'
 subst hrun'
 exact⟨_,rfl⟩
def Zs0{o:Oper}{c:SelectCase}(hop:o.op=.select #[c] false){zx:Value}(hz:(zeroValue c.elem).run P w=.ok zx w):
  (execOp a.eval o).run P w=.ok (.comm #[{chan:=a.eval c.chan,send:=c.send.map a.eval,zero:=zx}] false .select) w:=by
 unfold execOp
 rw[hop]
 simp[hz,Result.andThen]
def Yhh(hcall:Zbx P call)(hE:Zeo P):Ynn P call:=by
 intro id ops o rest d ch s z fr st ex fr' st' hops hsel h μ w a lb hh hf
 obtain⟨c,hop,hg,rfl,h1,h2,h3⟩:=Ydm hsel
 have ho:ops[0]?=some o:=by rw[←Ytf,hops];rfl
 have hnd:∀c',o.op≠.defer c':=fun c' hc=>by rw[hop]at hc;cases hc
 have hab:o.about P w a.eval=none:=by unfold Oper.about;rw[hop]
 have hsz:ops.size=rest.length+1:=by rw[←Array.length_toList,hops];rfl
 obtain⟨zx,hzr,hzv⟩:=Zqo (w:=w) h3
 have hexec:=Zs0 (a:=a) hop hzr
 unfold Zhj at h
 split at h
 ·rename_i i sv hch hsv
  obtain⟨l,hl,e1⟩:=Zar hh hf.1 h1 hch
  rw[e1]at hexec
  have hse:=Zru hh hf.1 h2 hsv
  split at h
  ·rename_i v1 st1 hv
   split at h
   ·rename_i fr1 hput
    split at h
    ·rename_i fr2 st2 hm
     simp only[Yrs,Yrv]at h
     obtain⟨rfl,rfl,rfl⟩:=h
     have key:∃x w1 μ1 ws,VR μ1 v1 x∧Stp P μ w st μ1 w1 st1 ws∧∀(b:Frame) (k:List Item) (cs:List Frame) (is:List Nat),
       step P (lone (b.atR a (.inRegion ops (0::is)::k)) cs w)=.next (lone ((b.atR a (.inRegion ops (0::is)::k)).finish x) cs w1):=by
      unfold Ynw at hv
      split at hv
      ·-- a send
       rename_i cap buf u hg1
       obtain⟨u',x',hu',hx',hvr⟩:=hse.resolve_left (by rintro⟨hq,_⟩;cases hq)
       simp only[Yrs]at hu'
       subst hu'
       rw[hx']at hexec
       obtain⟨buf',s',r',q1,q2⟩:=hh.get hl hg1
       have hbl:=q2.length
       split at hv
       ·rename_i hroom
        simp only[Yrs,Yrv]at hv
        obtain⟨rfl,rfl⟩:=hv
        refine⟨.tuple #[goInt 0,.bool false],w.setChan l.b cap ((⟨buf'⟩:Array Value).push (a.eval x')) false (s'+1) r' false,μ,[i],?_,?_,fun b k cs is=>?_⟩
        rotate_left 2
        ·obtain⟨es,hstep⟩:=Zjl (b:=b) (k:=k) (cs:=cs) (rest:=is) ho hg hnd hexec
         exact step_lone_select_send_room hstep q1 (by simp;omega)
        ·exact⟨_,rfl,by simp[VRs,VR,goInt]⟩
        ·refine Stp.write hh hl hg1 rfl rfl rfl rfl (by simp[size_setChan]) (fun b hb=>?_) ⟨buf'++[a.eval x'],s'+1,r',?_,q2.append (Zau.2 ⟨_,[],rfl,hvr,by simp[VRs]⟩)⟩
         ·simp only[World.setChan];rw[Ytu (Ne.symm hb)]
         ·rw[heap_setChan _ _ _ _ _ _ _ _ (hh.dom i l hl).2];simp
       ·rename_i hroom
        simp only[Yrs,Yrv]at hv
        obtain⟨rfl,rfl⟩:=hv
        refine⟨.tuple #[goInt (-1),.bool false],w,μ,[],?_,Stp.refl hh,fun b k cs is=>?_⟩
        rotate_left
        ·obtain⟨es,hstep⟩:=Zjl (b:=b) (k:=k) (cs:=cs) (rest:=is) ho hg hnd hexec
         exact step_lone_select_send_full hstep q1 (by simp;omega)
        ·exact⟨_,rfl,by simp[VRs,VR,goInt]⟩
      ·-- a receive
       rename_i cap u buf hg1
       rcases hse with⟨_,hx'⟩|⟨_,_,hq,_⟩
       ·rw[hx']at hexec
        obtain⟨buf',s',r',q1,q2⟩:=hh.get hl hg1
        obtain⟨y,ys,rfl,g1,g2⟩:=Zau.1 q2
        simp only[Yrs,Yrv]at hv
        obtain⟨rfl,rfl⟩:=hv
        refine⟨.tuple #[goInt 0,.bool true,(⟨y::ys⟩:Array Value).getD 0 undef],w.setChan l.b cap ((⟨y::ys⟩:Array Value).extract 1 (⟨y::ys⟩:Array Value).size) false s' (r'+1) false,μ,[i],?_,?_,fun b k cs is=>?_⟩
        rotate_left 2
        ·obtain⟨es,hstep⟩:=Zjl (b:=b) (k:=k) (cs:=cs) (rest:=is) ho hg hnd hexec
         exact step_lone_select_recv_buf hstep q1 (by simp)
        ·exact⟨_,rfl,Zau.2 ⟨_,_,rfl,by simp[VR,goInt],Zau.2 ⟨_,_,rfl,by simp[VR],Zau.2 ⟨_,_,rfl,by simpa using g1,by simp[VRs]⟩⟩⟩⟩
        ·refine Stp.write hh hl hg1 rfl rfl rfl rfl (by simp[size_setChan]) (fun b hb=>?_) ⟨ys,s',r'+1,?_,g2⟩
         ·simp only[World.setChan];rw[Ytu (Ne.symm hb)]
         ·rw[heap_setChan _ _ _ _ _ _ _ _ (hh.dom i l hl).2]
          congr 2
          apply Yu3
          simp
       ·cases hq
      ·rename_i cap hg1
       rcases hse with⟨_,hx'⟩|⟨_,_,hq,_⟩
       ·rw[hx']at hexec
        obtain⟨buf',s',r',q1,q2⟩:=hh.get hl hg1
        simp only[VRs]at q2;subst q2
        simp only[Yrs,Yrv]at hv
        obtain⟨rfl,rfl⟩:=hv
        refine⟨.tuple #[goInt (-1),.bool false,zx],w,μ,[],?_,Stp.refl hh,fun b k cs is=>?_⟩
        rotate_left
        ·obtain⟨es,hstep⟩:=Zjl (b:=b) (k:=k) (cs:=cs) (rest:=is) ho hg hnd hexec
         exact step_lone_select_default hstep q1
        ·exact⟨_,rfl,Zau.2 ⟨_,_,rfl,by simp[VR,goInt],Zau.2 ⟨_,_,rfl,by simp[VR],Zau.2 ⟨_,_,rfl,hzv μ,by simp[VRs]⟩⟩⟩⟩
       ·cases hq
      ·cases hv
     obtain⟨x,w1,μ1,ws,hx,hs1,hstep⟩:=key
     have hm1:=hs1.mono hh
     have hf1:FrR μ1 fr1 (a.put o.dst x):=(hf.mono hm1).put hx hput
     have hlist:List.range ops.size=0::(List.range rest.length).map (·+1):=by
      rw[hsz,List.range_succ_eq_map]
     have hmap:((List.range rest.length).map (·+1)).map (fun i=>ops[i]?)=rest.map some:=by
      apply Ysw
      intro j
      simp only[List.map_map,Yso]
      by_cases hj:j<rest.length
      ·have:ops[j+1]?=rest[j]?:=by rw[←Ytf,hops];rfl
       simp[hj,this]
      ·simp[hj]
     have hwp:=Ybc (lb:=lb) (Q:=Zh8 P μ w st .normal fr2 st2) hcall hE _ _ hmap hs1.hr hf1 hm (fun a' w' μ' ws' q1 q2=>⟨rfl,μ',_,hs1.trans q2,q1⟩)
     intro b k cs hro hb hr
     obtain⟨e,a',w',q,harr⟩:=wp_opsIn _ _ _ hwp b k cs hro hb hr
     refine⟨e,a',w',q,.of_steps (.one (fenced_calm hb hr rfl) stepR_region) ?_⟩
     rw[hlist]
     refine .of_steps (.one (fenced_oper hb hr ho fun f hf=>by rw[hab]at hf;cases hf) (hstep b k cs _)) ?_
     rw[Frame.finish_atR,ho]
     exact harr
    ·cases h
   ·cases h
  ·cases h
 ·cases h
end
open Go
section
variable {r r' : T V} {st : St} {call : Za1}
def Zc7 : ∀ {l : List Src}, (∀ s ∈ l, s.ev r = s.ev r') → Zhd r l = Zhd r' l
  | [], _ => rfl
  | s :: l, h => by
    simp only [Zhd]
    rw [h s (by simp), Zc7 fun s hs => h s (by simp [hs])]
def Zcl {o : Option Src} (h : ∀ s ∈ Ydy o, s.ev r = s.ev r') : evOpt r o = evOpt r' o := by
  cases o with
  | none => rfl
  | some s => simp only [evOpt]; rw [h s (by simp [Ydy])]
def Zgg : ∀ {l : List (Nat × Nat × Src)}, (∀ s ∈ l.map (·.2.2), s.ev r = s.ev r') → Zfe r l = Zfe r' l
  | [], _ => rfl
  | (o, k, s) :: l, h => by
    simp only [Zfe]
    rw [h s (by simp), Zgg fun s hs => h s (by simp only [Ys1, Yss]; exact .inr hs)]
def Ybj {op : MOp} (h : ∀ s ∈ op.srcs, s.ev r = s.ev r') : mop op call r st = mop op call r' st := by
  cases op <;> simp only [MOp.srcs, Yss, List.not_mem_nil, or_false, forall_eq_or_imp, forall_eq, Ysq] at h <;> simp only [mop]
  case build z ps => simp only [Zer, Zgg h]
  case bslice e s l z ps => simp only [Ze1, Zgg h]
  case mkfunc f a c => simp only [Zez, Zc7 fun s hs => h s (.inl hs), Zc7 fun s hs => h s (.inr hs)]
  case sliceStr x lo hi => simp only [Zbn, h.1, Zcl fun s hs => h.2 s (.inl hs), Zcl fun s hs => h.2 s (.inr hs)]
  case sliceSl z x lo hi m => simp only [Za6, h.1, Zcl fun s hs => h.2 s (.inl (.inl hs)), Zcl fun s hs => h.2 s (.inl (.inr hs)), Zcl fun s hs => h.2 s (.inr hs)]
  case sliceArr k z x lo hi m => simp only [Zbv, h.1, Zcl fun s hs => h.2 s (.inl (.inl hs)), Zcl fun s hs => h.2 s (.inl (.inr hs)), Zcl fun s hs => h.2 s (.inr hs)]
  case mn l => simp only [Zjv, Zc7 h]
  case mx l => simp only [Zf9, Zc7 h]
  case call f l => simp only [Zem, h.1, Zc7 fun s hs => h.2 s hs]
  case ext e l => simp only [Zmv, Zc7 h]
  all_goals
    first
      | rfl
      | (simp only [Zms, Zmx, Zip, Zf8, Zta, Zd0, Zew, Zcj, Zc4, Zev, Zeg, Zgb, Zga, Zc3, Zdy, Zdz, Zfh, Zon, Zhy, Zju, Zhw, Zmu, Zio, h]; done)
      | (simp only [Zgz, Zfb, Zmy, Zcp, Zca, Zde, Zfi, Zei, Ze0, Zeh, Zqy, Zmw, Zdm, Zg1, Zkx, Zmt, h.1, h.2]; done)
      | (simp only [Zgz, Zeh, Zmw, h.1, h.2.1, h.2.2]; done)
def Zmh {op : MOp} (hs : op.silent = true) (h' : T O) (l' : List Nat) {v : V} {st' : St} (h : mop op call r st = some (v, st')) :
    (st' = st ∧ mop op call r ⟨h', st.n, l'⟩ = some (v, ⟨h', st.n, l'⟩)) ∨ ∃ o, st' = st.alloc o ∧ mop op call r ⟨h', st.n, l'⟩ = some (v, St.alloc ⟨h', st.n, l'⟩ o) := by
  cases op <;> simp only [MOp.silent, Yr3] at hs <;> simp only [mop] at h ⊢
  case mkslice e z b zs x y =>
    unfold Zcp at *
    split at h
    · rename_i ha hb
      split at h
      · rename_i hc
        simp only [Yrs, Yrv] at h
        obtain ⟨rfl, rfl⟩ := h
        refine .inr ⟨_, rfl, ?_⟩
        rw [Yrw hc]
      · cases h
    · cases h
  case bin b t ng x y =>
    refine .inl ?_
    unfold Zmy at *
    split at h
    · cases b <;> first | (cases hs; done) | (simp only [Zwe, reduceCtorEq] at h)
    · split at h
      · rename_i hm
        simp only [Yrs, Yrv] at h
        obtain ⟨rfl, rfl⟩ := h
        exact ⟨rfl, by simp_all⟩
      · cases h
    · cases h
  all_goals
    first
      | unfold Zms at * | unfold Zgz at * | unfold Zhz at * | unfold Zmx at * | unfold Zer at * | unfold Ze1 at * | unfold Zf8 at * | unfold Zta at * | unfold Zd0 at * | unfold Zew at * | unfold Zcj at * | unfold Zev at * | unfold Zez at * | unfold Zhx at * | unfold Zeg at * | unfold Zcp at * | unfold Zbn at * | unfold Zgb at * | unfold Zga at * | unfold Zca at * | unfold Zde at * | unfold Zfi at * | unfold Zei at * | unfold Zc3 at * | unfold Zdz at * | unfold Zg0 at * | unfold Zon at * | unfold Zjv at * | unfold Zf9 at * | unfold Zmv at * | unfold Zmt at * | unfold Zmu at * | unfold Zio at *
  all_goals
    repeat' split at h
    all_goals
      first
        | (cases h; done)
        | (simp only [Yrs, Yrv] at h
           obtain ⟨rfl, rfl⟩ := h
           first
             | (refine .inl ⟨rfl, ?_⟩; simp_all; done)
             | (refine .inr ⟨_, rfl, ?_⟩; simp_all; done))
def Zqv {α : Type} {p : α → α → Bool} {f : α} {m : Nat} : ∀ {seen : List α} {j : Nat}, seen.length = j → Zal.chk p f m (j - 1) seen = true → ∀ i, i < j → ∀ g, seen[j - 1 - i]? = some g → m.testBit i = true ∨ p g f = true
  | [], j, hl, _, i, hi, g, hg => by simp at hg
  | g0 :: seen, j, hl, h, i, hi, g, hg => by
    simp only [Zal.chk, Ysd, Yu6] at h
    simp only [Yrr] at hl
    by_cases e : i = j - 1
    · subst e
      simp only [Nat.sub_self, Yth, Yrs] at hg
      subst hg
      exact h.1
    · have h2 := Zqv (j := j - 1) (by omega) h.2 i (by omega) g
      refine h2 ?_
      rw [show j - 1 - i = (j - 1 - 1 - i) + 1 by omega] at hg
      simpa using hg
def Zvc {α : Type} {p : α → α → Bool} : ∀ {fs : List α} {ms : List Nat} {j : Nat} {seen : List α}, seen.length = j → Zal.go p fs ms j seen = true →
    ∀ (b i : Nat) (f g : α), fs[b]? = some f → i < j + b → (seen.reverse ++ fs)[i]? = some g → (ms.getD b 0).testBit i = true ∨ p g f = true
  | [], ms, j, seen, hl, _, b, i, f, g, hf, _, _ => by simp at hf
  | f0 :: fs, ms, j, seen, hl, h, b, i, f, g, hf, hi, hg => by
    simp only [Zal.go, Ysd] at h
    cases b with
    | zero =>
      simp only [Yth, Yrs] at hf
      subst hf
      have hm : ms.getD 0 0 = ms.headD 0 := by cases ms <;> rfl
      rw [hm]
      refine Zqv hl h.1 i (by omega) g ?_
      rw [Ysc (by simp; omega), List.getElem?_reverse (by omega)] at hg
      rw [← hl]; exact hg
    | succ b =>
      have hm : ms.getD (b + 1) 0 = ms.tail.getD b 0 := by cases ms <;> simp
      rw [hm]
      refine Zvc (j := j + 1) (seen := f0 :: seen) (by simp [hl]) h.2 b i f g (by simpa using hf) (by omega) ?_
      simpa using hg
def Zvb {α : Type} {p : α → α → Bool} {xs : List α} {ms : List Nat} (h : Zal p xs ms = true) {i j : Nat} {a b : α} (hij : i < j) (ha : xs[i]? = some a) (hb : xs[j]? = some b) : (ms.getD j 0).testBit i = true ∨ p a b = true :=
  Zvc (seen := []) rfl h j i b a hb (by omega) (by simpa using ha)
def Zis : ∀ (os : List Oper) (acc : List Nat) (k : Nat), k < acc.length → (Zc5 os acc).getD k 0 = acc.getD k 0
  | [], acc, k, _ => rfl
  | o :: os, acc, k, h => by
    simp only [Zc5]
    rw [Zis os _ k (by simp; omega)]
    simp only [List.getD_eq_getElem?_getD]
    rw [Ysc h]
def Zm5 : ∀ (os : List Oper) (acc : List Nat) (j : Nat) (o : Oper), os[j]? = some o →
    ∃ pre : List Nat, pre.length = acc.length + j ∧ (Zc5 os acc).getD (acc.length + j) 0 = Zrb o pre ∧ ∀ k, k < acc.length + j → (Zc5 os acc).getD k 0 = pre.getD k 0
  | [], acc, j, o, h => by simp at h
  | o0 :: os, acc, 0, o, h => by
    simp only [Yth, Yrs] at h
    subst h
    refine ⟨acc, rfl, ?_, fun k hk => ?_⟩
    · simp only [Zc5]
      rw [Zis os _ _ (by simp)]
      simp [List.getD_eq_getElem?_getD]
    · exact Zis (o0 :: os) acc k hk
  | o0 :: os, acc, j + 1, o, h => by
    obtain ⟨pre, h1, h2, h3⟩ := Zm5 os (acc ++ [Zrb o0 acc]) j o (by simpa using h)
    simp only [Yr8, Yrr, List.length_nil] at h1 h2 h3
    refine ⟨pre, by omega, ?_, ?_⟩
    · rw [show acc.length + (j + 1) = acc.length + (0 + 1) + j by omega]; exact h2
    · intro k hk; exact h3 k (by omega)
def Zxz {o : Oper} {ms : List Nat} {i : Nat} (h : (Zrb o ms).testBit i = true) : ∃ e ∈ o.after, Region.binds .any e = true ∧ (i = e.on ∨ (ms.getD e.on 0).testBit i = true) := by
  have key : ∀ (l : List Edge) (s : Nat), (l.foldl (fun s e => if Region.binds .any e then s ||| 2 ^ e.on ||| ms.getD e.on 0 else s) s).testBit i = true →
      s.testBit i = true ∨ ∃ e ∈ l, Region.binds .any e = true ∧ (i = e.on ∨ (ms.getD e.on 0).testBit i = true) := by
    intro l
    induction l with
    | nil => intro s h; exact .inl h
    | cons e l ih =>
      intro s h
      simp only [List.foldl_cons] at h
      rcases ih _ h with h | ⟨e', h1, h2⟩
      · split at h
        · rename_i hb
          simp only [Nat.testBit_or, Yu6] at h
          rcases h with (h | h) | h
          · exact .inl h
          · rw [Nat.testBit_two_pow] at h
            exact .inr ⟨e, by simp, hb, .inl (by simpa using (of_decide_eq_true h).symm)⟩
          · exact .inr ⟨e, by simp, hb, .inr h⟩
        · exact .inl h
      · exact .inr ⟨e', by simp [h1], h2⟩
  unfold Zrb at h
  rw [← Array.foldl_toList] at h
  rcases key _ _ h with h | ⟨e, h1, h2⟩
  · simp at h
  · exact ⟨e, by simpa using h1, h2⟩
def Yfv {ops : Array Oper} {j i : Nat} {o : Oper} (ho : ops[j]? = some o) (h : ((Zc5 ops.toList []).getD j 0).testBit i = true) :
    ∃ e ∈ o.after, Region.binds .any e = true ∧ (i = e.on ∨ ((Zc5 ops.toList []).getD e.on 0).testBit i = true) := by
  obtain ⟨pre, h1, h2, h3⟩ := Zm5 ops.toList [] j o (by rw [Ytf]; exact ho)
  simp only [List.length_nil, Yt5] at h1 h2 h3
  rw [h2] at h
  obtain ⟨e, g1, g2, g3⟩ := Zxz h
  refine ⟨e, g1, g2, g3.imp id fun hb => ?_⟩
  by_cases he : e.on < j
  · rw [h3 _ he]; exact hb
  · have : pre.getD e.on 0 = 0 := by simp [List.getD_eq_getElem?_getD, h1, Ytr he]
    rw [this] at hb; simp at hb
def Yig (ops : Array Oper) (S : Nat → Prop) : Prop := ∀ k i, S k → ((Zc5 ops.toList []).getD k 0).testBit i = true → S i
def Zok {ops : Array Oper} {listed : Array Bool} (hc : Yig ops (fun k => listed.getD k false = true)) {j : Nat} (hj : j ∈ Region.ready .any ops listed) :
    j < ops.size ∧ listed.getD j true = false ∧ ∀ i, ((Zc5 ops.toList []).getD j 0).testBit i = true → listed.getD i false = true := by
  unfold Region.ready at hj
  simp only [List.mem_filter, List.mem_range, Ysd, Yu2] at hj
  obtain ⟨h1, h2, h3⟩ := hj
  refine ⟨h1, h2, fun i hi => ?_⟩
  have ho : ops[j]? = some ops[j] := Array.getElem?_eq_getElem h1
  obtain ⟨e, g1, g2, g3⟩ := Yfv ho hi
  rw [ho] at h3
  simp only [Yuq, Yux, Yva, Yu6, Yu2] at h3
  have he : listed.getD e.on false = true := by
    rcases h3 e g1 with h | h
    · rw [g2] at h; cases h
    · exact h
  rcases g3 with rfl | g3
  · exact he
  · exact hc _ _ he g3
mutual
def Sc (n : Nat) : V → Prop
  | .ptr i _ => i < n
  | .slice i _ _ _ _ => i < n
  | .map i => i < n
  | .chan i => i < n
  | .func _ a c => Scs n a ∧ Scs n c
  | .yield i => i < n
  | .iface _ v => Sc n v
  | .agg l => Scs n l
  | .tup l => Scs n l
  | _ => True
def Scs (n : Nat) : List V → Prop
  | [] => True
  | v :: vs => Sc n v ∧ Scs n vs
end
mutual
def VR.sc {μ : Mu} {n : Nat} (h : ∀ i l, μ i = some l → i < n) : ∀ (v : V) (x : Value), VR μ v x → Sc n v
  | .bool _, _, _ => by simp [Sc]
  | .int _ _, _, _ => by simp [Sc]
  | .flt _ _, _, _ => by simp [Sc]
  | .cpl _ _ _, _, _ => by simp [Sc]
  | .str _, _, _ => by simp [Sc]
  | .nilptr, _, _ => by simp [Sc]
  | .ptr _ _, _, hx => by simp only [VR] at hx; obtain ⟨l, h1, _⟩ := hx; exact h _ _ h1
  | .nilslice, _, _ => by simp [Sc]
  | .slice _ _ _ _ _, _, hx => by simp only [VR] at hx; obtain ⟨l, c, h1, _⟩ := hx; exact h _ _ h1
  | .empty, _, _ => by simp [Sc]
  | .nilmap, _, _ => by simp [Sc]
  | .map _, _, hx => by simp only [VR] at hx; obtain ⟨l, h1, _⟩ := hx; exact h _ _ h1
  | .nilchan, _, _ => by simp [Sc]
  | .chan _, _, hx => by simp only [VR] at hx; obtain ⟨l, h1, _⟩ := hx; exact h _ _ h1
  | .func _ a c, _, hx => by
    simp only [VR] at hx; obtain ⟨a', c', _, h2, h3⟩ := hx
    exact ⟨VRs.sc h a a' h2, VRs.sc h c c' h3⟩
  | .yield _, _, hx => by simp only [VR] at hx; obtain ⟨l, h1, _⟩ := hx; exact h _ _ h1
  | .nilfunc, _, _ => by simp [Sc]
  | .iface _ v, _, hx => by simp only [VR] at hx; obtain ⟨y, _, h2⟩ := hx; exact VR.sc h v y h2
  | .niliface, _, _ => by simp [Sc]
  | .agg vs, _, hx => by simp only [VR] at hx; obtain ⟨a, _, h2⟩ := hx; exact VRs.sc h vs a h2
  | .tup vs, _, hx => by simp only [VR] at hx; obtain ⟨a, _, h2⟩ := hx; exact VRs.sc h vs a h2
def VRs.sc {μ : Mu} {n : Nat} (h : ∀ i l, μ i = some l → i < n) : ∀ (vs : List V) (xs : List Value), VRs μ vs xs → Scs n vs
  | [], _, _ => trivial
  | v :: vs, _, hx => by
    simp only [VRs] at hx
    obtain ⟨y, ys, _, h2, h3⟩ := hx
    exact ⟨VR.sc h v y h2, VRs.sc h vs ys h3⟩
end
mutual
def VR.cut {μ μ' : Mu} {n : Nat} (h : ∀ i l, i < n → μ i = some l → μ' i = some l) : ∀ (v : V) (x : Value), Sc n v → VR μ v x → VR μ' v x
  | .bool _, _, _, hx => by simpa [VR] using hx
  | .int _ _, _, _, hx => by simpa [VR] using hx
  | .flt _ _, _, _, hx => by simpa [VR] using hx
  | .cpl _ _ _, _, _, hx => by simpa [VR] using hx
  | .str _, _, _, hx => by simpa [VR] using hx
  | .nilptr, _, _, hx => by simpa [VR] using hx
  | .ptr _ _, _, hs, hx => by simp only [VR, Sc] at *; obtain ⟨l, h1, h2⟩ := hx; exact ⟨l, h _ _ hs h1, h2⟩
  | .nilslice, _, _, hx => by simpa [VR] using hx
  | .slice _ _ _ _ _, _, hs, hx => by simp only [VR, Sc] at *; obtain ⟨l, c, h1, h2⟩ := hx; exact ⟨l, c, h _ _ hs h1, h2⟩
  | .empty, _, _, hx => by simpa [VR] using hx
  | .nilmap, _, _, hx => by simpa [VR] using hx
  | .map _, _, hs, hx => by simp only [VR, Sc] at *; obtain ⟨l, h1, h2⟩ := hx; exact ⟨l, h _ _ hs h1, h2⟩
  | .nilchan, _, _, hx => by simpa [VR] using hx
  | .chan _, _, hs, hx => by simp only [VR, Sc] at *; obtain ⟨l, h1, h2⟩ := hx; exact ⟨l, h _ _ hs h1, h2⟩
  | .func _ a c, _, hs, hx => by
    simp only [VR, Sc] at *; obtain ⟨a', c', h1, h2, h3⟩ := hx
    exact ⟨a', c', h1, VRs.cut h a a' hs.1 h2, VRs.cut h c c' hs.2 h3⟩
  | .yield _, _, hs, hx => by simp only [VR, Sc] at *; obtain ⟨l, h1, h2⟩ := hx; exact ⟨l, h _ _ hs h1, h2⟩
  | .nilfunc, _, _, hx => by simpa [VR] using hx
  | .iface _ v, _, hs, hx => by simp only [VR, Sc] at *; obtain ⟨y, h1, h2⟩ := hx; exact ⟨y, h1, VR.cut h v y hs h2⟩
  | .niliface, _, _, hx => by simpa [VR] using hx
  | .agg vs, _, hs, hx => by simp only [VR, Sc] at *; obtain ⟨a, h1, h2⟩ := hx; exact ⟨a, h1, VRs.cut h vs a hs h2⟩
  | .tup vs, _, hs, hx => by simp only [VR, Sc] at *; obtain ⟨a, h1, h2⟩ := hx; exact ⟨a, h1, VRs.cut h vs a hs h2⟩
def VRs.cut {μ μ' : Mu} {n : Nat} (h : ∀ i l, i < n → μ i = some l → μ' i = some l) : ∀ (vs : List V) (xs : List Value), Scs n vs → VRs μ vs xs → VRs μ' vs xs
  | [], _, _, hx => by simpa [VRs] using hx
  | v :: vs, _, hs, hx => by
    simp only [VRs, Scs] at *
    obtain ⟨y, ys, h1, h2, h3⟩ := hx
    exact ⟨y, ys, h1, VR.cut h v y hs.1 h2, VRs.cut h vs ys hs.2 h3⟩
end
def OM.cut {P : Program} {μ μ' μT : Mu} {w wT : World} {n : Nat} (h : ∀ i l, i < n → μ i = some l → μ' i = some l) (hT : ∀ i l, μT i = some l → i < n) {o : O} {l lT : L} (ht : OM P μT wT o lT) (ho : OM P μ w o l) : OM P μ' w o l := by
  cases o with
  | cells c e rw =>
    obtain ⟨c', lo, hi, h1, h2, h3, h4, h5⟩ := ho
    obtain ⟨cT, _, _, _, _, _, t4, _⟩ := ht
    exact ⟨c', lo, hi, h1, h2, h3, fun j v hv => by
      obtain ⟨x, a, b⟩ := h4 j v hv
      obtain ⟨xT, _, bT⟩ := t4 j v hv
      exact ⟨x, a, VR.cut h v x (VR.sc hT v xT bT) b⟩, h5⟩
  | map es =>
    obtain ⟨es', h1, h2⟩ := ho
    obtain ⟨esT, _, t2⟩ := ht
    refine ⟨es', h1, ?_⟩
    have : ∀ (es : List (V × V)) (xs xT : List MapEntry) (b bT : Nat), Zh7 μ es xs b → Zh7 μT es xT bT → Zh7 μ' es xs b := by
      intro es
      induction es with
      | nil => intro xs xT b bT h1 _; exact h1
      | cons p es ih =>
        intro xs xT b bT h1 h2
        obtain ⟨k, u⟩ := p
        obtain ⟨e, ys, rfl, a1, a2, a3, a4⟩ := h1
        obtain ⟨eT, yT, rfl, b1, b2, _, b4⟩ := h2
        exact ⟨e, ys, rfl, VR.cut h k _ (VR.sc hT k _ b1) a1, VR.cut h u _ (VR.sc hT u _ b2) a2, a3, ih ys yT _ _ a4 b4⟩
    exact this _ _ _ _ _ h2 t2
  | chan cap buf =>
    obtain ⟨b', s, r, h1, h2⟩ := ho
    obtain ⟨bT, _, _, _, t2⟩ := ht
    exact ⟨b', s, r, h1, VRs.cut h _ _ (VRs.sc hT _ _ t2) h2⟩
  | siter s pos => simp only [OM] at *; exact ho
  | loop R =>
    obtain ⟨fn, tmps, asg, bod, ld, h1, h2, h3, h4, h5⟩ := ho
    obtain ⟨_, tT, _, _, ldT, _, t2, _, _, t5⟩ := ht
    refine ⟨fn, tmps, asg, bod, ld, h1, ⟨h2.1, fun t v hv => ?_⟩, h3, h4, h _ _ (hT _ _ t5) h5⟩
    obtain ⟨x, a, b⟩ := h2.2 t v hv
    obtain ⟨xT, _, bT⟩ := t2.2 t v hv
    exact ⟨x, a, VR.cut h v x (VR.sc hT v xT bT) b⟩
  | defs b => simp only [OM] at *; exact ho
  | dead => trivial
end
section
variable {P:Program} {μ:Mu} {w:World} {st st':St} {fr fr':Fr} {a:Act} {call:Za1} {v:V} {lb:Option Nat}
def Yog(hcall:Zbx P call)(hE:Zeo P)(hh:Zba P μ w st)(hf:FrR μ fr a){o:Oper}(h:mop (cOp P o.op) call fr.r st=some (v,st')):∃x w' μ' ws,VR μ' v x∧Stp P μ w st μ' w' st' ws:=by
 have hwp:=Yjm (lb:=none) (Q:=fun _ _ _=>False) (K:=fun _ _=>∃x w' μ' ws,VR μ' v x∧Stp P μ w st μ' w' st' ws) hcall hE hh hf h (fun x w' μ' ws h1 h2=>⟨x,w',μ',ws,h1,h2⟩)
 obtain⟨_,hu⟩:=hwp
 generalize (o.semAt (FE none).round a.eval).run P w=res at hu
 cases res with
 |halt x w'=>cases x<;>simp only[Oper.uponIn]at hu
 |ok x w'=>
  cases x<;>simp only[Oper.uponIn]at hu
  case value=>exact hu
  case skip=>exact hu
  case defer=>exact hu
  case enter f args=>
   obtain⟨e,w',fr,hR,_⟩:=hu.2.2 [] (fun d hd=>by simp[Fence.wide]at hd)
   cases e with
   |returned v=>exact hR
   |panicked c=>exact hR.elim
   |outgrown=>obtain⟨_,_,hq⟩:=hR;exact hq.elim
  case row r args=>
   obtain⟨v',w',hR,_⟩:=hu.2 default [] (fun d hd=>by simp[Fence.wide]at hd)
   exact hR
  case round l f tmps asg bod=>
   obtain⟨e,w',hR,_⟩:=hu.2.2 default [] (fun d hd=>by simp[Fence.wide]at hd)
   cases e with
   |returned v=>exact hR
   |panicked c=>exact hR.elim
   |outgrown=>obtain⟨_,_,hq⟩:=hR;exact hq.elim
def Zhn(P:Program)(call:Za1)(ops:Array Oper)(o:Oper)(st:St)(fr:Fr)(v:V)(f:FP)(st1:St)(fr1:Fr):Prop:=
 ∃g b,Znn ops o.guard=some g∧wantedV fr.r g=some b∧fr.put o.dst v=some fr1∧
  (b=true→∃s',mop (cOp P o.op) call fr.r {st with w:=[]}=some (v,s')∧st1={s' with w:=Zae st.n s'.w++st.w}∧f=Zcr fr.r (cOp P o.op) (Zae st.n s'.w) st.n s'.n)∧
  (b=false→v=.tup []∧st1=st∧f=⟨some [],[],st.n,st.n⟩)
def Zq2{ops:Array Oper}:∀(os:List Oper) (fr:Fr) (st:St) (fps:List FP) (fr':Fr) (st':St),mopsD call (os.map (Zgn P ops)) fr st=some (fps,fr',st')→
  ∃(stI:Nat→St) (frI:Nat→Fr) (vI:Nat→V) (fpI:Nat→FP),stI 0=st∧frI 0=fr∧stI os.length=st'∧frI os.length=fr'∧fps.length=os.length∧
   ∀i o,os[i]?=some o→fps[i]?=some (fpI i)∧Zhn P call ops o (stI i) (frI i) (vI i) (fpI i) (stI (i+1)) (frI (i+1))
 |[],fr,st,fps,fr',st',h=>by
  simp only[Yua,mopsD,Yat,Yrs,Yrv]at h
  obtain⟨rfl,rfl,rfl⟩:=h
  exact⟨fun _=>st,fun _=>fr,fun _=>.nilptr,fun _=>⟨none,[],0,0⟩,rfl,rfl,rfl,rfl,rfl,fun i o h=>by simp at h⟩
 |o::os,fr,st,fps,fr',st',h=>by
  simp only[Ys1,mopsD,Zfd]at h
  have go:∀(v:V) (f:FP) (st1:St) (fr1:Fr) (fps1:List FP),Zhn P call ops o st fr v f st1 fr1→mopsD call (os.map (Zgn P ops)) fr1 st1=some (fps1,fr',st')→fps=f::fps1→
    ∃(stI:Nat→St) (frI:Nat→Fr) (vI:Nat→V) (fpI:Nat→FP),stI 0=st∧frI 0=fr∧stI (o::os).length=st'∧frI (o::os).length=fr'∧fps.length=(o::os).length∧
     ∀i o',(o::os)[i]?=some o'→fps[i]?=some (fpI i)∧Zhn P call ops o' (stI i) (frI i) (vI i) (fpI i) (stI (i+1)) (frI (i+1)):=by
   intro v f st1 fr1 fps1 hs hm hf
   obtain⟨stI,frI,vI,fpI,h1,h2,h3,h4,h5,h6⟩:=Zq2 os fr1 st1 fps1 fr' st' hm
   refine⟨fun|0=>st|i+1=>stI i,fun|0=>fr|i+1=>frI i,fun|0=>v|i+1=>vI i,fun|0=>f|i+1=>fpI i,rfl,rfl,h3,h4,by simp[hf,h5],fun i o' ho=>?_⟩
   cases i with
   |zero=>
    simp only[Yth,Yrs]at ho
    subst ho
    refine⟨by simp[hf],?_⟩
    show Zhn P call ops o st fr v f (stI 0) (frI 0)
    rw[h1,h2];exact hs
   |succ i=>
    obtain⟨g1,g2⟩:=h6 i o' (by simpa using ho)
    exact⟨by simpa[hf]using g1,g2⟩
  unfold Zgn at h
  cases hg:Znn ops o.guard with
  |none=>
   rw[hg]at h
   simp only[wantedV,mop,Ztb]at h
   cases h
  |some g=>
   rw[hg]at h
   simp only at h
   cases hw:wantedV fr.r g with
   |none=>rw[hw]at h;cases h
   |some b=>
    rw[hw]at h
    cases b with
    |true=>
     simp only at h
     split at h
     ·rename_i v1 s1 hm
      split at h
      ·rename_i fr1 hp
       split at h
       ·rename_i fps1 fr2 st2 hrest
        simp only[Yrs,Yrv]at h
        obtain⟨rfl,rfl,rfl⟩:=h
        exact go v1 _ _ fr1 fps1 ⟨g,true,hg,hw,hp,fun _=>⟨s1,hm,rfl,rfl⟩,fun hc=>by cases hc⟩ hrest rfl
       ·cases h
      ·cases h
     ·cases h
    |false=>
     simp only at h
     split at h
     ·rename_i fr1 hp
      split at h
      ·rename_i fps1 fr2 st2 hrest
       simp only[Yrs,Yrv]at h
       obtain⟨rfl,rfl,rfl⟩:=h
       exact go (.tup []) _ st fr1 fps1 ⟨g,false,hg,hw,hp,(fun hc=>by cases hc),fun _=>⟨rfl,rfl,rfl⟩⟩ hrest rfl
      ·cases h
     ·cases h
def Zt6{op:MOp}{s':St}(hm:mop op call fr.r {st with w:=[]}=some (v,s'))(lo hi:Nat):(Zcr fr.r op (Zae st.n s'.w) lo hi).wr=Zae st.n s'.w∧(Zcr fr.r op (Zae st.n s'.w) lo hi).lo=lo∧(Zcr fr.r op (Zae st.n s'.w) lo hi).hi=hi:=by
 unfold Zcr
 split
 ·rename_i hs
  rcases Zmh hs .nil [] hm with⟨h1,_⟩|⟨o,h1,_⟩
  ·subst h1;exact⟨rfl,rfl,rfl⟩
  ·subst h1;exact⟨rfl,rfl,rfl⟩
 ·split
  ·split<;>exact⟨rfl,rfl,rfl⟩
  ·exact⟨rfl,rfl,rfl⟩
def Zzu(hcall:Zbx P call)(hE:Zeo P)(hh:Zba P μ w st)(hf:FrR μ fr a){ops:Array Oper}{o:Oper}{f:FP}{st1:St}{fr1:Fr}(h:Zhn P call ops o st fr v f st1 fr1):
  ∃w' μ' a',Stp P μ w st μ' w' st1 f.wr∧FrR μ' fr1 a'∧f.lo=st.n∧f.hi=st1.n:=by
 obtain⟨g,b,hg,hw,hp,ht,hfa⟩:=h
 cases b with
 |true=>
  obtain⟨s',hm,rfl,rfl⟩:=ht rfl
  obtain⟨x,w',μ',ws,h1,h2⟩:=Yog hcall hE (hh.now []) hf hm
  have h3:=h2.fold hh
  obtain⟨e1,e2,e3⟩:=Zt6 (call:=call) hm st.n s'.n
  rw[e1,e2,e3]
  exact⟨w',μ',_,h3,(hf.mono (h3.mono hh)).put h1 hp,rfl,rfl⟩
 |false=>
  obtain⟨rfl,rfl,rfl⟩:=hfa rfl
  exact⟨w,μ,_,Stp.refl hh,hf.put (v:=.tup []) (x:=undef) ⟨[],rfl,by simp[VRs]⟩ hp,rfl,rfl⟩
structure Txt (P:Program) (μ:Mu) (stI:Nat→St) (frI:Nat→Fr) (fpI:Nat→FP) (N:Nat):Prop where
 nle:∀i,i<N→(stI i).n≤(stI (i+1)).n
 lo:∀i,i<N→(fpI i).lo=(stI i).n
 hi:∀i,i<N→(fpI i).hi=(stI (i+1)).n
 wl:∀i,i<N→(stI (i+1)).w=(fpI i).wr++(stI i).w
 wlt:∀i,i<N→∀j∈(fpI i).wr,j<(stI i).n
 keep:∀i,i<N→∀j,j<(stI i).n→j∉(fpI i).wr→(stI (i+1)).h.get j=(stI i).h.get j
 grow:∀i,i<N→∀j o',j<(stI i).n→(stI (i+1)).h.get j=some o'→∃o,(stI i).h.get j=some o∧(o'.wr=true→o.wr=true)∧(o'.live=true→o.live=true)
 wrt:∀i,i<N→∀j∈(fpI i).wr,∃o,(stI i).h.get j=some o∧o.wr=true
 scr:∀i,i≤N→∀t v,(frI i).r.get t=some v→Sc (stI i).n v
 sch:∀i,i≤N→∀j,(j<(stI 0).n→∃l,μ j=some l)→j<(stI i).n→∃o μT wT lT,(stI i).h.get j=some o∧OM P μT wT o lT∧∀k l,μT k=some l→k<(stI i).n
 fn:∀i,i≤N→(frI i).n=(frI 0).n∧(frI i).marks=(frI 0).marks
def Yly{ops:Array Oper}{o:Oper}{f:FP}{st1:St}{fr1:Fr}(h:Zhn P call ops o st fr v f st1 fr1):∀j∈f.wr,j<st.n:=by
 have key:∀(l:List Nat) (n j:Nat),j∈Zae n l→j<n:=by
  intro l n j hj
  induction l with
  |nil=>simp[Zae]at hj
  |cons i l ih=>
   simp only[Zae]at hj
   split at hj
   ·unfold Zfm at hj
    split at hj
    ·exact ih hj
    ·simp only[Yss]at hj
     rcases hj with rfl|hj
     ·assumption
     ·exact ih hj
   ·exact ih hj
 obtain⟨g,b,hg,hw,hp,ht,hfa⟩:=h
 cases b with
 |true=>
  obtain⟨s',hm,rfl,rfl⟩:=ht rfl
  rw[(Zt6 (call:=call) hm _ _).1]
  exact key _ _
 |false=>
  obtain⟨rfl,rfl,rfl⟩:=hfa rfl
  intro j hj
  simp at hj
def Ye6{d:Option Nat}(h:fr.put d v=some fr'):fr'.n=fr.n∧fr'.marks=fr.marks:=by
 cases d with
 |none=>simp only[Fr.put,Yrs]at h;subst h;exact⟨rfl,rfl⟩
 |some d=>
  simp only[Fr.put]at h
  split at h
  ·simp only[Yrs]at h;subst h;exact⟨rfl,rfl⟩
  ·cases h
def Zwf(hcall:Zbx P call)(hE:Zeo P){ops:Array Oper}{stI:Nat→St}{frI:Nat→Fr}{vI:Nat→V}{fpI:Nat→FP}{N:Nat}{os:List Oper}(hN:os.length=N)
  (hh:Zba P μ w (stI 0)) (hf:FrR μ (frI 0) a) (hs:∀i o,os[i]?=some o→Zhn P call ops o (stI i) (frI i) (vI i) (fpI i) (stI (i+1)) (frI (i+1))):
  ∀i,i≤N→∃w' μ' a' ws,Stp P μ w (stI 0) μ' w' (stI i) ws∧FrR μ' (frI i) a':=by
 intro i
 induction i with
 |zero=>exact fun _=>⟨w,μ,a,[],Stp.refl hh,hf⟩
 |succ i ih=>
  intro hi
  obtain⟨w',μ',a',ws,h1,h2⟩:=ih (by omega)
  have ho:os[i]?=some (os[i]'(by omega)):=Yrx (by omega)
  obtain⟨w2,μ2,a2,h3,h4,_⟩:=Zzu hcall hE h1.hr h2 (hs i _ ho)
  exact⟨w2,μ2,a2,_,h1.trans h3,h4⟩
def Yl3(hcall:Zbx P call)(hE:Zeo P){ops:Array Oper}{stI:Nat→St}{frI:Nat→Fr}{vI:Nat→V}{fpI:Nat→FP}{N:Nat}{os:List Oper}(hN:os.length=N)
  (hh:Zba P μ w (stI 0)) (hf:FrR μ (frI 0) a) (hs:∀i o,os[i]?=some o→Zhn P call ops o (stI i) (frI i) (vI i) (fpI i) (stI (i+1)) (frI (i+1))):Txt P μ stI frI fpI N:=by
 have hch:=Zwf hcall hE hN hh hf hs
 have hget:∀i,i<N→∃o,os[i]?=some o:=fun i hi=>⟨_,Yrx (by omega)⟩
 have hstep:∀i,i<N→∃w1 μ1 w2 μ2 a2,Stp P μ1 w1 (stI i) μ2 w2 (stI (i+1)) (fpI i).wr∧FrR μ2 (frI (i+1)) a2∧(fpI i).lo=(stI i).n∧(fpI i).hi=(stI (i+1)).n:=fun i hi=>by
  obtain⟨w',μ',a',ws,h1,h2⟩:=hch i (by omega)
  obtain⟨o,ho⟩:=hget i hi
  obtain⟨w2,μ2,a2,h3,h4,h5,h6⟩:=Zzu hcall hE h1.hr h2 (hs i o ho)
  exact⟨w',μ',w2,μ2,a2,h3,h4,h5,h6⟩
 refine⟨fun i hi=>?_,fun i hi=>?_,fun i hi=>?_,fun i hi=>?_,fun i hi=>?_,fun i hi=>?_,fun i hi=>?_,fun i hi=>?_,fun i hi t v hv=>?_,fun i hi j hj hjn=>?_,fun i=>?_⟩
 ·obtain⟨_,_,_,_,_,h,_⟩:=hstep i hi;exact h.nle
 ·obtain⟨_,_,_,_,_,_,_,h,_⟩:=hstep i hi;exact h
 ·obtain⟨_,_,_,_,_,_,_,_,h⟩:=hstep i hi;exact h
 ·obtain⟨_,_,_,_,_,h,_⟩:=hstep i hi;exact h.wl
 ·obtain⟨o,ho⟩:=hget i hi;exact Yly (hs i o ho)
 ·obtain⟨_,_,_,_,_,h,_⟩:=hstep i hi;exact h.keep
 ·obtain⟨_,_,_,_,_,h,_⟩:=hstep i hi;exact h.grow
 ·obtain⟨o,ho⟩:=hget i hi
  obtain⟨_,_,_,_,_,h,_⟩:=hstep i hi
  exact fun j hj=>h.wrt j hj (Yly (hs i o ho) j hj)
 ·obtain⟨w',μ',a',ws,h1,h2⟩:=hch i hi
  obtain⟨x,_,hx⟩:=h2.1.2 t v hv
  exact VR.sc (fun k l hk=>(h1.hr.dom k l hk).1) v x hx
 ·obtain⟨w',μ',a',ws,h1,h2⟩:=hch i hi
  have hl:∃l,μ' j=some l:=by
   by_cases h0:j<(stI 0).n
   ·obtain⟨l,hl⟩:=hj h0
    exact⟨l,(h1.ext j h0).trans hl⟩
   ·exact h1.full j (by omega) hjn
  obtain⟨l,hl⟩:=hl
  obtain⟨o,ho1,ho2⟩:=h1.hr.obj j l hl
  exact⟨o,μ',w',l,ho1,ho2,fun k l hk=>(h1.hr.dom k l hk).1⟩
 ·induction i with
  |zero=>exact fun _=>⟨rfl,rfl⟩
  |succ i ih=>
   intro hi
   obtain⟨o,ho⟩:=hget i (by omega)
   obtain⟨g,b,_,_,hp,_⟩:=hs i o ho
   obtain⟨e1,e2⟩:=Ye6 hp
   obtain⟨f1,f2⟩:=ih (by omega)
   exact⟨e1.trans f1,e2.trans f2⟩
end
end Go.Mx
