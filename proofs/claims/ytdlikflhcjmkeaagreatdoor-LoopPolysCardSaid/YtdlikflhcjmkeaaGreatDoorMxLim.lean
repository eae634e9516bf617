/-Runs without a count of steps-/
import Derived.Test.YtdlikflhcjmkeaaGreatDoorMxTab
set_option linter.all false
namespace Go.Mx
noncomputable section
open Go
def Le(a b:Za0):Prop:=∀g args st r,a g args st=some r→b g args st=some r
def Zlm{a b:Za0}(h:Le a b)(op:MOp)(r:T V)(st:St){o:V×St}(e:mop op a r st=some o):mop op b r st=some o:=by
 cases op<;>try exact e
 rename_i f args
 show Zeg f args b r st=some o
 have e:Zeg f args a r st=some o:=e
 unfold Zeg at e ⊢
 split at e
 ·exact h _ _ _ _ e
 ·cases e
def Zg0{a b:Za0}(h:Le a b):∀(ops:List Za9) (fr:Fr) (st:St) {o:Fr×St},mops a ops fr st=some o→mops b ops fr st=some o
 |[],_,_,_,e=>e
 |q::ops,fr,st,o,e=>by
  have e:Zh1 a q (mops a ops) fr st=some o:=e
  show Zh1 b q (mops b ops) fr st=some o
  unfold Zh1 at e ⊢
  split at e
  ·split at e
   ·rename_i v st' h1
    rw[Zlm h _ _ _ h1]
    simp only[]
    split at e
    ·exact Zg0 h ops _ _ e
    ·cases e
   ·cases e
  ·split at e
   ·exact Zg0 h ops _ _ e
   ·cases e
  ·cases e
def Zhq{a b:Za0}(h:Le a b):∀(ops:List Za9) (fr:Fr) (st:St) {o:List FP×Fr×St},mopsD a ops fr st=some o→mopsD b ops fr st=some o
 |[],_,_,_,e=>e
 |q::ops,fr,st,o,e=>by
  have e:Ze8 a q (mopsD a ops) fr st=some o:=e
  show Ze8 b q (mopsD b ops) fr st=some o
  unfold Ze8 at e ⊢
  split at e
  ·split at e
   ·rename_i v st' h1
    rw[Zlm h _ _ _ h1]
    simp only[]
    split at e
    ·split at e
     ·rename_i h2
      rw[Zhq h ops _ _ h2]
      exact e
     ·cases e
    ·cases e
   ·cases e
  ·split at e
   ·split at e
    ·rename_i h2
     rw[Zhq h ops _ _ h2]
     exact e
    ·cases e
   ·cases e
  ·cases e
def LeC(a b:Zfp):Prop:=∀ro c fr st r,a ro c fr st=some r→b ro c fr st=some r
def Zj1{a b:Za0}{p q:Zfp}(h:Le a b)(hc:LeC p q)(ro:Option Nat)(c:Zaz)(fr:Fr)(st:St){o:Ex×Fr×St}(e:Za8 c a p ro fr st=some o):Za8 c b q ro fr st=some o:=by
 cases c with
 |skip=>exact e
 |reg ops=>
  have e:Zm5 ops a p ro fr st=some o:=e
  show Zm5 ops b q ro fr st=some o
  unfold Zm5 at e ⊢
  split at e
  ·rename_i h1;rw[Zg0 h _ _ _ h1];exact e
  ·cases e
 |regD ops ms=>
  have e:Zhb ops ms a p ro fr st=some o:=e
  show Zhb ops ms b q ro fr st=some o
  unfold Zhb at e ⊢
  split at e
  ·rename_i h1;rw[Zhq h _ _ _ h1];exact e
  ·cases e
 |regS dst ch send zero ops=>
  have e:Zha dst ch send zero ops a p ro fr st=some o:=e
  show Zha dst ch send zero ops b q ro fr st=some o
  unfold Zha at e ⊢
  split at e
  ·split at e
   ·split at e
    ·split at e
     ·rename_i h1;rw[Zg0 h _ _ _ h1];exact e
     ·cases e
    ·cases e
   ·cases e
  ·cases e
 |seq x y=>
  have e:Znm x y a p ro fr st=some o:=e
  show Znm x y b q ro fr st=some o
  unfold Znm at e ⊢
  split at e
  ·rename_i h1;rw[hc _ _ _ _ _ h1];exact hc _ _ _ _ _ e
  ·rename_i h1
   have:=hc _ _ _ _ _ e
   rw[this]
   rcases o with⟨_|_|_,_,_⟩
   ·exact absurd e (h1 _ _)
   ·rfl
   ·rfl
 |cond x y z=>
  have e:Zfn x y z a p ro fr st=some o:=e
  show Zfn x y z b q ro fr st=some o
  unfold Zfn at e ⊢
  split at e
  ·exact hc _ _ _ _ _ e
  ·exact hc _ _ _ _ _ e
  ·cases e
 |block id x=>
  have e:Zfa id x a p ro fr st=some o:=e
  show Zfa id x b q ro fr st=some o
  unfold Zfa at e ⊢
  split at e
  ·rename_i h1;rw[hc _ _ _ _ _ h1];exact e
  ·rename_i h1
   have:=hc _ _ _ _ _ e
   rw[this]
   rcases o with⟨_|_|_,_,_⟩
   ·rfl
   ·exact absurd e (h1 _ _ _)
   ·rfl
 |loop x=>
  have e:Zh3 x a p ro fr st=some o:=e
  show Zh3 x b q ro fr st=some o
  unfold Zh3 at e ⊢
  split at e
  ·rename_i h1;rw[hc _ _ _ _ _ h1];exact hc _ _ _ _ _ e
  ·rename_i h1
   have:=hc _ _ _ _ _ e
   rw[this]
   rcases o with⟨_|_|_,_,_⟩
   ·exact absurd e (h1 _ _)
   ·rfl
   ·rfl
 |rangef g ps x y=>
  have e:Zep g ps x y a p ro fr st=some o:=e
  show Zep g ps x y b q ro fr st=some o
  unfold Zep at e ⊢
  split at e
  ·cases e
  ·split at e
   ·cases e
   ·rename_i hy
    simp only[hy]
    split at e
    ·cases e
    ·split at e
     ·cases e
     ·rename_i h1;rw[h _ _ _ _ h1];exact e
 |exit id=>exact e
 |scope x=>exact hc _ _ _ _ _ e
 |ret=>exact e
 |stop=>exact e
def Zb1{a b:Za0}(h:Le a b):∀(F F':Nat),F≤F'→LeC (Zbe a F) (Zbe b F')
 |0,_,_=>fun _ _ _ _ _ e=>by cases e
 |F+1,0,hF=>by omega
 |F+1,F'+1,hF=>fun ro c fr st _ e=>Zj1 h (Zb1 h F F' (by omega)) ro c fr st e
def Zq6{p q:Zfp}(h:LeC p q){mf:Zee}{args:List V}{st:St}{o:V×St}(e:Zf8 mf p args st=some o):Zf8 mf q args st=some o:=by
 unfold Zf8 at e ⊢
 split at e
 ·cases e
 ·rename_i h0
  rw[Yqe h0]
  cases h1:p none mf.body {r:=Zef .nil 0 args,n:=mf.ntmps,marks:=[]} {st with w:=[]} with
  |none=>rw[h1]at e;cases e
  |some r=>rw[h1]at e;rw[h _ _ _ _ _ h1];exact e
def Zo0{p q:Zfp}(h:LeC p q){l:Nat}{args:List V}{st:St}{o:V×St}(e:Zf0 p l args st=some o):Zf0 q l args st=some o:=by
 unfold Zf0 at e ⊢
 split at e
 ·split at e
  ·cases e
  ·split at e
   ·rename_i h1
    rw[h _ _ _ _ _ h1]
    simp only[]
    split at e
    ·split at e
     ·rename_i hr
      rw[Yqi hr]
      split at e
      ·rename_i h2
       rw[h _ _ _ _ _ h2]
       exact e
      ·cases e
     ·cases e
    ·cases e
   ·cases e
 ·cases e
def Zgh{tbl:Nat→Option Zee}{p q:Zfp}(h:LeC p q):Le (Zcl tbl p) (Zcl tbl q):=by
 intro g args st o e
 unfold Zcl at e ⊢
 split at e
 ·split at e
  ·exact Zq6 h e
  ·cases e
 ·exact Zo0 h e
 ·cases e
def Zmb{x a b:Za0}(h:Le a b):Le (Zd9 x a) (Zd9 x b):=by
 intro g args st o e
 unfold Zd9 at e ⊢
 split at e
 ·exact e
 ·exact h _ _ _ _ e
def Zf7{x:Za0}{tbl:Nat→Option Zee}{F F':Nat}(hF:F≤F'):∀(d d':Nat),d≤d'→Le (Zgl x tbl F d) (Zgl x tbl F' d')
 |0,0,_=>fun _ _ _ _ e=>e
 |0,d'+1,_=>fun g args st o e=>by
  have e:x g args st=some o:=e
  show Zd9 x _ g args st=some o
  unfold Zd9;rw[e]
 |d+1,0,h=>by omega
 |d+1,d'+1,h=>Zmb (Zgh (Zb1 (Zf7 hF d d' (by omega)) F F' hF))
structure Cx where
 x:Za0
 tbl:Nat→Option Zee
def Cx.at(C:Cx)(N:Nat):Za0:=Zgl C.x C.tbl N N
def Cx.at_mono{C:Cx}{N M:Nat}(h:N≤M):Le (C.at N) (C.at M):=Zf7 h N M h
open Classical in
def Cx.call(C:Cx):Za0:=fun g args st=>if h:∃r N,C.at N g args st=some r then some h.choose else none
def Cx.call_iff{C:Cx}{g args st r}:C.call g args st=some r↔∃N,C.at N g args st=some r:=by
 unfold Cx.call
 constructor
 ·intro h
  split at h
  ·rename_i hc
   simp only[Yqc]at h
   exact h▸hc.choose_spec
  ·cases h
 ·rintro⟨N,h⟩
  have hc:∃r N,C.at N g args st=some r:=⟨r,N,h⟩
  rw[dif_pos hc]
  obtain⟨M,hM⟩:=hc.choose_spec
  have h1:=Cx.at_mono (Ys6 N M) _ _ _ _ h
  have h2:=Cx.at_mono (Ysu N M) _ _ _ _ hM
  rw[h1]at h2
  exact congrArg some (Yrc h2).symm
open Classical in
def Cx.code(C:Cx):Zfp:=fun ro c fr st=>if h:∃r F,Zbe C.call F ro c fr st=some r then some h.choose else none
def Cx.code_iff{C:Cx}{ro c fr st r}:C.code ro c fr st=some r↔∃F,Zbe C.call F ro c fr st=some r:=by
 unfold Cx.code
 constructor
 ·intro h
  split at h
  ·rename_i hc
   simp only[Yqc]at h
   exact h▸hc.choose_spec
  ·cases h
 ·rintro⟨N,h⟩
  have hc:∃r F,Zbe C.call F ro c fr st=some r:=⟨r,N,h⟩
  rw[dif_pos hc]
  obtain⟨M,hM⟩:=hc.choose_spec
  have h1:=Zb1 (fun _ _ _ _ e=>e) N (max N M) (Ys6 N M) _ _ _ _ _ h
  have h2:=Zb1 (fun _ _ _ _ e=>e) M (max N M) (Ysu N M) _ _ _ _ _ hM
  rw[h1]at h2
  exact congrArg some (Yrc h2).symm
def Zzq{α:Type}{a b:Option α}(h:∀r,a=some r↔b=some r):a=b:=by
 cases a with
 |none=>cases b with
  |none=>rfl
  |some r=>exact absurd ((h r).2 rfl) (by simp)
 |some r=>exact((h r).1 rfl).symm
def Zeo{a:Za0}{p:Zfp}{q:Nat→Zfp}(hq:∀n m,n≤m→LeC (q n) (q m))(hp:∀ro c fr st r,p ro c fr st=some r→∃n,q n ro c fr st=some r)(ro:Option Nat)(c:Zaz)(fr:Fr)(st:St){o:Ex×Fr×St}(e:Za8 c a p ro fr st=some o):∃n,Za8 c a (q n) ro fr st=some o:=by
 cases c with
 |skip=>exact⟨0,e⟩
 |reg ops=>exact⟨0,e⟩
 |regD ops ms=>exact⟨0,e⟩
 |regS dst ch send zero ops=>exact⟨0,e⟩
 |seq x y=>
  have e:Znm x y a p ro fr st=some o:=e
  show ∃n,Znm x y a (q n) ro fr st=some o
  unfold Znm at e ⊢
  split at e
  ·rename_i h1
   obtain⟨n,hn⟩:=hp _ _ _ _ _ h1
   obtain⟨m,hm⟩:=hp _ _ _ _ _ e
   refine⟨max n m,?_⟩
   rw[hq n _ (Ys6 n m) _ _ _ _ _ hn]
   exact hq m _ (Ysu n m) _ _ _ _ _ hm
  ·rename_i h1
   obtain⟨n,hn⟩:=hp _ _ _ _ _ e
   refine⟨n,?_⟩
   rw[hn]
   rcases o with⟨_|_|_,_,_⟩
   ·exact absurd e (h1 _ _)
   ·rfl
   ·rfl
 |cond x y z=>
  have e:Zfn x y z a p ro fr st=some o:=e
  show ∃n,Zfn x y z a (q n) ro fr st=some o
  unfold Zfn at e ⊢
  split at e
  ·exact hp _ _ _ _ _ e
  ·exact hp _ _ _ _ _ e
  ·cases e
 |block id x=>
  have e:Zfa id x a p ro fr st=some o:=e
  show ∃n,Zfa id x a (q n) ro fr st=some o
  unfold Zfa at e ⊢
  split at e
  ·rename_i h1
   obtain⟨n,hn⟩:=hp _ _ _ _ _ h1
   exact⟨n,by rw[hn];exact e⟩
  ·rename_i h1
   obtain⟨n,hn⟩:=hp _ _ _ _ _ e
   refine⟨n,?_⟩
   rw[hn]
   rcases o with⟨_|_|_,_,_⟩
   ·rfl
   ·exact absurd e (h1 _ _ _)
   ·rfl
 |loop x=>
  have e:Zh3 x a p ro fr st=some o:=e
  show ∃n,Zh3 x a (q n) ro fr st=some o
  unfold Zh3 at e ⊢
  split at e
  ·rename_i h1
   obtain⟨n,hn⟩:=hp _ _ _ _ _ h1
   obtain⟨m,hm⟩:=hp _ _ _ _ _ e
   refine⟨max n m,?_⟩
   rw[hq n _ (Ys6 n m) _ _ _ _ _ hn]
   exact hq m _ (Ysu n m) _ _ _ _ _ hm
  ·rename_i h1
   obtain⟨n,hn⟩:=hp _ _ _ _ _ e
   refine⟨n,?_⟩
   rw[hn]
   rcases o with⟨_|_|_,_,_⟩
   ·exact absurd e (h1 _ _)
   ·rfl
   ·rfl
 |rangef g ps x y=>exact⟨0,e⟩
 |exit id=>exact⟨0,e⟩
 |scope x=>exact hp _ _ _ _ _ e
 |ret=>exact⟨0,e⟩
 |stop=>exact⟨0,e⟩
def Cx.code_eq{C:Cx}(ro:Option Nat)(c:Zaz)(fr:Fr)(st:St):C.code ro c fr st=Za8 c C.call C.code ro fr st:=by
 apply Zzq
 intro r
 constructor
 ·intro h
  obtain⟨F,hF⟩:=Cx.code_iff.1 h
  cases F with
  |zero=>cases hF
  |succ F=>exact Zj1 (fun _ _ _ _ e=>e) (fun ro c fr st r e=>Cx.code_iff.2 ⟨F,e⟩) ro c fr st hF
 ·intro h
  obtain⟨n,hn⟩:=Zeo (q:=Zbe C.call) (Zb1 fun _ _ _ _ e=>e) (fun _ _ _ _ _ e=>Cx.code_iff.1 e) ro c fr st h
  exact Cx.code_iff.2 ⟨n+1,hn⟩
def Zut{C:Cx}(op:MOp)(r:T V)(st:St){o:V×St}(e:mop op C.call r st=some o):∃N,mop op (C.at N) r st=some o:=by
 cases op<;>try exact⟨0,e⟩
 rename_i f args
 have e:Zeg f args C.call r st=some o:=e
 show ∃N,Zeg f args (C.at N) r st=some o
 unfold Zeg at e ⊢
 split at e
 ·exact Cx.call_iff.1 e
 ·cases e
def Zjp{C:Cx}:∀(ops:List Za9) (fr:Fr) (st:St) {o:Fr×St},mops C.call ops fr st=some o→∃N,mops (C.at N) ops fr st=some o
 |[],_,_,_,e=>⟨0,e⟩
 |q::ops,fr,st,o,e=>by
  have e:Zh1 C.call q (mops C.call ops) fr st=some o:=e
  show ∃N,Zh1 (C.at N) q (mops (C.at N) ops) fr st=some o
  unfold Zh1 at e ⊢
  split at e
  ·split at e
   ·rename_i v st' h1
    split at e
    ·obtain⟨N,hN⟩:=Zut _ _ _ h1
     obtain⟨M,hM⟩:=Zjp ops _ _ e
     refine⟨max N M,?_⟩
     rw[Zlm (Cx.at_mono (Ys6 N M)) _ _ _ hN]
     rename_i h3
     simp only[h3]
     exact Zg0 (Cx.at_mono (Ysu N M)) _ _ _ hM
    ·cases e
   ·cases e
  ·split at e
   ·exact Zjp ops _ _ e
   ·cases e
  ·cases e
def Zkj{C:Cx}:∀(ops:List Za9) (fr:Fr) (st:St) {o:List FP×Fr×St},mopsD C.call ops fr st=some o→∃N,mopsD (C.at N) ops fr st=some o
 |[],_,_,_,e=>⟨0,e⟩
 |q::ops,fr,st,o,e=>by
  have e:Ze8 C.call q (mopsD C.call ops) fr st=some o:=e
  show ∃N,Ze8 (C.at N) q (mopsD (C.at N) ops) fr st=some o
  unfold Ze8 at e ⊢
  split at e
  ·split at e
   ·rename_i v st' h1
    split at e
    ·rename_i h3
     split at e
     ·rename_i h2
      obtain⟨N,hN⟩:=Zut _ _ _ h1
      obtain⟨M,hM⟩:=Zkj ops _ _ h2
      refine⟨max N M,?_⟩
      rw[Zlm (Cx.at_mono (Ys6 N M)) _ _ _ hN]
      simp only[h3]
      rw[Zhq (Cx.at_mono (Ysu N M)) _ _ _ hM]
      exact e
     ·cases e
    ·cases e
   ·cases e
  ·split at e
   ·split at e
    ·rename_i h2
     obtain⟨M,hM⟩:=Zkj ops _ _ h2
     exact⟨M,by rw[hM];exact e⟩
    ·cases e
   ·cases e
  ·cases e
def Zoa{C:Cx}:∀(F:Nat) (ro:Option Nat) (c:Zaz) (fr:Fr) (st:St) {o:Ex×Fr×St},Zbe C.call F ro c fr st=some o→∃N,Zbe (C.at N) F ro c fr st=some o
 |0,_,_,_,_,_,e=>by cases e
 |F+1,ro,c,fr,st,o,e=>by
  have e:Za8 c C.call (Zbe C.call F) ro fr st=some o:=e
  show ∃N,Za8 c (C.at N) (Zbe (C.at N) F) ro fr st=some o
  have ih:=@Zoa C F
  have up:∀{n m:Nat},n≤m→LeC (Zbe (C.at n) F) (Zbe (C.at m) F):=fun h=>Zb1 (Cx.at_mono h) F F (Yqg _)
  cases c with
  |reg ops=>
   have e:Zm5 ops C.call (Zbe C.call F) ro fr st=some o:=e
   show ∃N,Zm5 ops (C.at N) (Zbe (C.at N) F) ro fr st=some o
   unfold Zm5 at e ⊢
   split at e
   ·rename_i h1
    obtain⟨N,hN⟩:=Zjp _ _ _ h1
    exact⟨N,by rw[hN];exact e⟩
   ·cases e
  |regD ops ms=>
   have e:Zhb ops ms C.call (Zbe C.call F) ro fr st=some o:=e
   show ∃N,Zhb ops ms (C.at N) (Zbe (C.at N) F) ro fr st=some o
   unfold Zhb at e ⊢
   split at e
   ·rename_i h1
    obtain⟨N,hN⟩:=Zkj _ _ _ h1
    exact⟨N,by rw[hN];exact e⟩
   ·cases e
  |regS dst ch send zero ops=>
   have e:Zha dst ch send zero ops C.call (Zbe C.call F) ro fr st=some o:=e
   show ∃N,Zha dst ch send zero ops (C.at N) (Zbe (C.at N) F) ro fr st=some o
   unfold Zha at e ⊢
   split at e
   ·split at e
    ·split at e
     ·split at e
      ·rename_i h1
       obtain⟨N,hN⟩:=Zjp _ _ _ h1
       exact⟨N,by rw[hN];exact e⟩
      ·cases e
     ·cases e
    ·cases e
   ·cases e
  |rangef g ps x y=>
   have e:Zep g ps x y C.call (Zbe C.call F) ro fr st=some o:=e
   show ∃N,Zep g ps x y (C.at N) (Zbe (C.at N) F) ro fr st=some o
   unfold Zep at e ⊢
   split at e
   ·cases e
   ·split at e
    ·cases e
    ·rename_i hy
     simp only[hy]
     split at e
     ·cases e
     ·split at e
      ·cases e
      ·rename_i h1
       obtain⟨N,hN⟩:=Cx.call_iff.1 h1
       exact⟨N,by rw[hN];exact e⟩
  |skip=>exact⟨0,e⟩
  |exit id=>exact⟨0,e⟩
  |ret=>exact⟨0,e⟩
  |stop=>cases e
  |scope x=>exact ih _ _ _ _ e
  |cond x y z=>
   have e:Zfn x y z C.call (Zbe C.call F) ro fr st=some o:=e
   show ∃N,Zfn x y z (C.at N) (Zbe (C.at N) F) ro fr st=some o
   unfold Zfn at e ⊢
   split at e
   ·exact ih _ _ _ _ e
   ·exact ih _ _ _ _ e
   ·cases e
  |seq x y=>exact Zeo (a:=C.call) (q:=fun n=>Zbe (C.at n) F) (fun _ _ h=>up h) (fun _ _ _ _ _ e=>ih _ _ _ _ e) ro (.seq x y) fr st e
  |block id x=>exact Zeo (a:=C.call) (q:=fun n=>Zbe (C.at n) F) (fun _ _ h=>up h) (fun _ _ _ _ _ e=>ih _ _ _ _ e) ro (.block id x) fr st e
  |loop x=>exact Zeo (a:=C.call) (q:=fun n=>Zbe (C.at n) F) (fun _ _ h=>up h) (fun _ _ _ _ _ e=>ih _ _ _ _ e) ro (.loop x) fr st e
def Cx.code_need{C:Cx}{ro c fr st r}(h:C.code ro c fr st=some r):∃N,Zbe (C.at N) N ro c fr st=some r:=by
 obtain⟨F,hF⟩:=Cx.code_iff.1 h
 obtain⟨N,hN⟩:=Zoa F _ _ _ _ hF
 exact⟨max F N,Zb1 (Cx.at_mono (Ysu F N)) _ _ (Ys6 F N) _ _ _ _ _ hN⟩
def Zj3{tbl:Nat→Option Zee}{p:Zfp}{q:Nat→Zfp}(hq:∀n m,n≤m→LeC (q n) (q m))(hp:∀ro c fr st r,p ro c fr st=some r→∃n,q n ro c fr st=some r){g args st}{o:V×St}(e:Zcl tbl p g args st=some o):∃n,Zcl tbl (q n) g args st=some o:=by
 unfold Zcl at e ⊢
 split at e
 ·split at e
  ·rename_i mf _
   unfold Zf8 at e ⊢
   split at e
   ·cases e
   ·rename_i h0
    simp only[h0,if_false]
    cases h1:p none mf.body {r:=Zef .nil 0 _,n:=mf.ntmps,marks:=[]} {st with w:=[]} with
    |none=>rw[h1]at e;cases e
    |some r=>
     rw[h1]at e
     obtain⟨n,hn⟩:=hp _ _ _ _ _ h1
     exact⟨n,by rw[hn];exact e⟩
  ·cases e
 ·unfold Zf0 at e ⊢
  split at e
  ·split at e
   ·cases e
   ·split at e
    ·rename_i h1
     obtain⟨n,hn⟩:=hp _ _ _ _ _ h1
     split at e
     ·split at e
      ·split at e
       ·rename_i h4 h5 _ _ _ _ h2
        obtain⟨m,hm⟩:=hp _ _ _ _ _ h2
        refine⟨max n m,?_⟩
        rw[hq n _ (Ys6 n m) _ _ _ _ _ hn]
        simp only[h4,h5,if_true]
        rw[hq m _ (Ysu n m) _ _ _ _ _ hm]
        exact e
       ·cases e
      ·cases e
     ·cases e
    ·cases e
  ·cases e
 ·cases e
def Cx.call_eq{C:Cx}(g:V)(args:List V)(st:St):C.call g args st=Zd9 C.x (Zcl C.tbl C.code) g args st:=by
 apply Zzq
 intro r
 constructor
 ·intro h
  obtain⟨N,hN⟩:=Cx.call_iff.1 h
  cases N with
  |zero=>
   have e:C.x g args st=some r:=hN
   unfold Zd9;rw[e]
  |succ N=>
   refine Zmb (x:=C.x) (Zgh (p:=Zbe (Zgl C.x C.tbl (N+1) N) (N+1)) fun ro c fr st r e=>?_) _ _ _ _ hN
   refine Cx.code_iff.2 ⟨N+1,?_⟩
   refine Zb1 (fun g args st r e=>?_) (N+1) (N+1) (Yqg _) _ _ _ _ _ e
   exact Cx.call_iff.2 ⟨N+1,Zf7 (Yqg _) N (N+1) (by omega) _ _ _ _ e⟩
 ·intro h
  unfold Zd9 at h
  split at h
  ·rename_i r' e
   simp only[Yqc]at h
   subst h
   exact Cx.call_iff.2 ⟨0,e⟩
  ·rename_i hx
   obtain⟨N,hN⟩:=Zj3 (q:=fun n=>Zbe (C.at n) n) (fun n m h=>Zb1 (Cx.at_mono h) n m h) (fun _ _ _ _ _ e=>Cx.code_need e) h
   refine Cx.call_iff.2 ⟨N+1,?_⟩
   show Zd9 C.x (Zcl C.tbl (Zbe (Zgl C.x C.tbl (N+1) N) (N+1))) g args st=some r
   unfold Zd9
   rw[hx]
   exact Zgh (Zb1 (Zf7 (by omega) N N (Yqg _)) N (N+1) (by omega)) _ _ _ _ hN
inductive Rs where
 |ex (e:Ex) (fr:Fr) (st:St)
 |val (v:V) (st:St)
 |ops (fr:Fr) (st:St)
 |opsD (fps:List FP) (fr:Fr) (st:St)
inductive Kf where
 |seq (ro:Option Nat) (b:Zaz)
 |block (id:Nat)
 |loop (ro:Option Nat) (c:Zaz)
 |reg
 |put (d:Option Nat) (ops:List Za9) (fr:Fr)
 |regD (ms:List Nat)
 |putD (op:MOp) (d:Option Nat) (ops:List Za9) (fr:Fr) (n:Nat) (w:List Nat)
 |cons (fp:FP)
 |fin (rs:List Ykp) (st:St)
def exR:Option (Ex×Fr×St)→Option Rs
 |some (e,fr,st)=>some (.ex e fr st)
 |none=>none
def Zpr:Option (V×St)→Option Rs
 |some (v,st)=>some (.val v st)
 |none=>none
def Ycx:Option (Fr×St)→Option Rs
 |some (fr,st)=>some (.ops fr st)
 |none=>none
def Zmc:Option (List FP×Fr×St)→Option Rs
 |some (fps,fr,st)=>some (.opsD fps fr st)
 |none=>none
def Zgq(C:Cx):Kf→Rs→Option Rs
 |.seq ro b,.ex .normal fr st=>exR (C.code ro b fr st)
 |.seq _ _,.ex e fr st=>some (.ex e fr st)
 |.block id,.ex (.exit id') fr st=>match Nat.beq id' id with
  |true=>some (.ex .normal fr st)
  |false=>some (.ex (.exit id') fr st)
 |.block _,.ex e fr st=>some (.ex e fr st)
 |.loop ro c,.ex .normal fr st=>exR (C.code ro (.loop c) fr st)
 |.loop _ _,.ex e fr st=>some (.ex e fr st)
 |.reg,.ops fr st=>some (.ex .normal fr st)
 |.put d ops fr,.val v st=>match fr.put d v with
  |some fr=>Ycx (mops C.call ops fr st)
  |none=>none
 |.regD ms,.opsD fps fr st=>match apartOk fps ms with
  |true=>some (.ex .normal fr st)
  |false=>none
 |.putD op d ops fr n w,.val v st'=>match fr.put d v with
  |some fr'=>match mopsD C.call ops fr' {st' with w:=Zac n st'.w++w} with
   |some (fps,fr'',st'')=>some (.opsD (Zcm fr.r op (Zac n st'.w) n st'.n::fps) fr'' st'')
   |none=>none
  |none=>none
 |.cons fp,.opsD fps fr st=>some (.opsD (fp::fps) fr st)
 |.fin _ _,.ex (.exit _) _ _=>none
 |.fin rs st0,.ex _ fr st1=>match shut st1 fr.marks with
  |none=>none
  |some st2=>match resV fr.r st2 rs with
   |some vs=>some (.val (Zqa vs) {st2 with w:=Zac st0.n st2.w++st0.w})
   |none=>none
 |_,_=>none
def Zek(C:Cx)(k:Kf):Option Rs→Option Rs
 |some r=>Zgq C k r
 |none=>none
def unw(C:Cx):List Kf→Option Rs→Option Rs
 |[],r=>r
 |k::K,r=>unw C K (Zek C k r)
def Zt0{C:Cx}:∀K,unw C K none=none
 |[]=>rfl
 |_::K=>Zt0 K
structure Run (C:Cx) (K:List Kf) (r:Option Rs) (Q:Rs→Prop):Prop where
 ex:∃s,unw C K r=some s∧Q s
def Zav{C:Cx}{K K':List Kf}{r r':Option Rs}{Q:Rs→Prop}(h:unw C K r=unw C K' r'):Run C K r Q↔Run C K' r' Q:=
 ⟨fun ⟨s,e,q⟩=>⟨s,h▸e,q⟩,fun ⟨s,e,q⟩=>⟨s,h.symm▸e,q⟩⟩
def Zhj{C:Cx}{K:List Kf}{Q:Rs→Prop}:Run C K none Q↔False:=
 ⟨fun ⟨_,h,_⟩=>(by rw[Zt0]at h;cases h),fun h=>h.elim⟩
def Yhx{C:Cx}{s:Rs}{Q:Rs→Prop}:Run C [] (some s) Q↔Q s:=
 ⟨fun ⟨_,h,q⟩=>by simp only[unw,Yqc]at h;exact h▸q,fun q=>⟨s,rfl,q⟩⟩
structure Call (C:Cx) (g:V) (args:List V) (st:St) (P:V→St→Prop):Prop where
 ex:∃v st',C.call g args st=some (v,st')∧P v st'
structure Code (C:Cx) (ro:Option Nat) (c:Zaz) (fr:Fr) (st:St) (P:Ex→Fr→St→Prop):Prop where
 ex:∃e fr' st',C.code ro c fr st=some (e,fr',st')∧P e fr' st'
def Yc5(P:V→St→Prop):Rs→Prop
 |.val v st=>P v st
 |_=>False
def exQ(P:Ex→Fr→St→Prop):Rs→Prop
 |.ex e fr st=>P e fr st
 |_=>False
def Yc4{P:V→St→Prop}{v st}:Yc5 P (.val v st)↔P v st:=Iff.rfl
def Yl6{P:Ex→Fr→St→Prop}{e fr st}:exQ P (.ex e fr st)↔P e fr st:=Iff.rfl
def Zab{C:Cx}{g args st P}:Call C g args st P↔Run C [] (Zpr (C.call g args st)) (Yc5 P):=by
 constructor
 ·rintro⟨v,st',h,p⟩
  exact⟨.val v st',by rw[h];rfl,p⟩
 ·rintro⟨s,h,q⟩
  cases hc:C.call g args st with
  |none=>rw[hc]at h;cases h
  |some r=>
   rw[hc]at h
   simp only[unw,Zpr,Yqc]at h
   subst h
   exact⟨_,_,hc,q⟩
def Zai{C:Cx}{ro c fr st P}:Code C ro c fr st P↔Run C [] (exR (C.code ro c fr st)) (exQ P):=by
 constructor
 ·rintro⟨e,fr',st',h,p⟩
  exact⟨.ex e fr' st',by rw[h];rfl,p⟩
 ·rintro⟨s,h,q⟩
  cases hc:C.code ro c fr st with
  |none=>rw[hc]at h;cases h
  |some r=>
   rw[hc]at h
   simp only[unw,exR,Yqc]at h
   subst h
   exact⟨_,_,_,hc,q⟩
def Zd3{C:Cx}{g args st P K Q}(h:Call C g args st P)(k:∀v st',P v st'→Run C K (some (.val v st')) Q):Run C K (Zpr (C.call g args st)) Q:=by
 obtain⟨v,st',e,p⟩:=h.ex
 rw[e]
 exact k v st' p
def Zbo{C:Cx}{ro c fr st P K Q}(h:Code C ro c fr st P)(k:∀e fr' st',P e fr' st'→Run C K (some (.ex e fr' st')) Q):Run C K (exR (C.code ro c fr st)) Q:=by
 obtain⟨e,fr',st',h,p⟩:=h.ex
 rw[h]
 exact k e fr' st' p
def Call.mono{C:Cx}{g args st}{P Q:V→St→Prop}(h:Call C g args st P)(k:∀v st',P v st'→Q v st'):Call C g args st Q:=by
 obtain⟨v,st',e,p⟩:=h.ex
 exact⟨v,st',e,k v st' p⟩
def Ylt(I:Nat→Fr→St→Prop)(k:Nat)(P:Ex→Fr→St→Prop):Ex→Fr→St→Prop
 |.normal,fr,st=>∃k',k'<k∧I k' fr st
 |e,fr,st=>P e fr st
def Code.loop{C:Cx}{ro c}{P:Ex→Fr→St→Prop}{I:Nat→Fr→St→Prop}(h:∀k fr st,I k fr st→Code C ro c fr st (Ylt I k P)):∀(k:Nat) (fr:Fr) (st:St),I k fr st→Code C ro (.loop c) fr st P:=by
 intro k
 induction k using Nat.strongRecOn with
 |_ k ih=>
  intro fr st hi
  obtain⟨e,fr',st',h1,p⟩:=(h k fr st hi).ex
  have e1:C.code ro (.loop c) fr st=Zh3 c C.call C.code ro fr st:=Cx.code_eq ro (.loop c) fr st
  unfold Zh3 at e1
  rw[h1]at e1
  cases e with
  |normal=>
   obtain⟨k',hk,hi'⟩:=p
   obtain⟨e2,fr2,st2,h2,p2⟩:=(ih k' hk fr' st' hi').ex
   exact⟨e2,fr2,st2,e1.trans h2,p2⟩
  |exit id=>exact⟨_,_,_,e1,p⟩
  |ret=>exact⟨_,_,_,e1,p⟩
def Ydr{C:Cx}{ro c}{K:List Kf}{Q:Rs→Prop}{fr:Fr}{st:St}(P:Ex→Fr→St→Prop)(I:Nat→Fr→St→Prop)(k:Nat)(hi:I k fr st)(h:∀k fr st,I k fr st→Code C ro c fr st (Ylt I k P))(q:∀e fr' st',P e fr' st'→Run C K (some (.ex e fr' st')) Q):Run C K (exR (C.code ro (.loop c) fr st)) Q:=
 Zbo (Code.loop h k fr st hi) q
section
variable {C:Cx} {K:List Kf} {Q:Rs→Prop} {ro:Option Nat} {a b c:Zaz} {fr:Fr} {st:St}
def Ydo:Run C K (exR (C.code ro .skip fr st)) Q↔Run C K (some (.ex .normal fr st)) Q:=Zav (by rw[Cx.code_eq];rfl)
def Yhw{ops}:Run C K (exR (C.code ro (.reg ops) fr st)) Q↔Run C (.reg::K) (Ycx (mops C.call ops fr st)) Q:=Zav (by
 rw[Cx.code_eq]
 show unw C K (exR (Zm5 ops C.call C.code ro fr st))=unw C K (Zek C .reg (Ycx (mops C.call ops fr st)))
 unfold Zm5
 rcases mops C.call ops fr st with _|⟨_,_⟩<;>rfl)
def Ydq{ops ms}:Run C K (exR (C.code ro (.regD ops ms) fr st)) Q↔Run C (.regD ms::K) (Zmc (mopsD C.call ops fr st)) Q:=Zav (by
 rw[Cx.code_eq]
 show unw C K (exR (Zhb ops ms C.call C.code ro fr st))=unw C K (Zek C (.regD ms) (Zmc (mopsD C.call ops fr st)))
 unfold Zhb
 rcases mopsD C.call ops fr st with _|⟨fps,_,_⟩
 ·rfl
 ·simp only[Zmc,Zek,Zgq]
  cases apartOk fps ms<;>rfl)
def Yhu:Run C K (exR (C.code ro (.seq a b) fr st)) Q↔Run C (.seq ro b::K) (exR (C.code ro a fr st)) Q:=Zav (by
 rw[Cx.code_eq]
 show unw C K (exR (Znm a b C.call C.code ro fr st))=unw C K (Zek C (.seq ro b) (exR (C.code ro a fr st)))
 unfold Znm
 rcases C.code ro a fr st with _|⟨e,_,_⟩
 ·rfl
 ·cases e<;>rfl)
def Yfk(C:Cx)(ro:Option Nat)(a b:Zaz)(fr:Fr)(st:St):Option V→Option Rs
 |some (.bool true)=>exR (C.code ro a fr st)
 |some (.bool false)=>exR (C.code ro b fr st)
 |_=>none
def Ydu{x}:Run C K (exR (C.code ro (.cond x a b) fr st)) Q↔Run C K (Yfk C ro a b fr st (x.ev fr.r)) Q:=Zav (by
 rw[Cx.code_eq]
 show unw C K (exR (Zfn x a b C.call C.code ro fr st))=_
 unfold Zfn Yfk
 rcases x.ev fr.r with _|v
 ·rfl
 ·cases v<;>try rfl
  rename_i b'
  cases b'<;>rfl)
def Zx7:Yfk C ro a b fr st (some (.bool true))=exR (C.code ro a fr st):=rfl
def Ztk:Yfk C ro a b fr st (some (.bool false))=exR (C.code ro b fr st):=rfl
def Zzb{id}:Run C K (exR (C.code ro (.block id a) fr st)) Q↔Run C (.block id::K) (exR (C.code ro a fr st)) Q:=Zav (by
 rw[Cx.code_eq]
 show unw C K (exR (Zfa id a C.call C.code ro fr st))=unw C K (Zek C (.block id) (exR (C.code ro a fr st)))
 unfold Zfa
 rcases C.code ro a fr st with _|⟨e,_,_⟩
 ·rfl
 ·cases e with
  |exit id'=>simp only[exR,Zek,Zgq];cases Nat.beq id' id<;>rfl
  |_=>rfl)
def Ydt{id}:Run C K (exR (C.code ro (.exit id) fr st)) Q↔Run C K (some (.ex (.exit id) fr st)) Q:=Zav (by rw[Cx.code_eq];rfl)
def Zza:Run C K (exR (C.code ro (.scope a) fr st)) Q↔Run C K (exR (C.code ro a fr st)) Q:=Zav (by rw[Cx.code_eq];rfl)
def Yhv:Run C K (exR (C.code ro .ret fr st)) Q↔Run C K (some (.ex .ret fr st)) Q:=Zav (by rw[Cx.code_eq];rfl)
def Zqz:Run C (.seq ro b::K) (some (.ex .normal fr st)) Q↔Run C K (exR (C.code ro b fr st)) Q:=Zav rfl
def Zxb{i}:Run C (.seq ro b::K) (some (.ex (.exit i) fr st)) Q↔Run C K (some (.ex (.exit i) fr st)) Q:=Zav rfl
def Ya2:Run C (.seq ro b::K) (some (.ex .ret fr st)) Q↔Run C K (some (.ex .ret fr st)) Q:=Zav rfl
def Znk{i}:Run C (.block i::K) (some (.ex .normal fr st)) Q↔Run C K (some (.ex .normal fr st)) Q:=Zav rfl
def Ztc{i}:Run C (.block i::K) (some (.ex .ret fr st)) Q↔Run C K (some (.ex .ret fr st)) Q:=Zav rfl
def Zq0{i}:Run C (.block i::K) (some (.ex (.exit i) fr st)) Q↔Run C K (some (.ex .normal fr st)) Q:=Zav (by simp[unw,Zek,Zgq,Nat.beq_refl])
def Zpa{i j}(h:Nat.beq j i=false):Run C (.block i::K) (some (.ex (.exit j) fr st)) Q↔Run C K (some (.ex (.exit j) fr st)) Q:=Zav (by simp[unw,Zek,Zgq,h])
def Ynz:Run C (.reg::K) (some (.ops fr st)) Q↔Run C K (some (.ex .normal fr st)) Q:=Zav rfl
def Yig:Ycx (mops C.call [] fr st)=some (.ops fr st):=rfl
def opR(C:Cx)(K:List Kf)(Q:Rs→Prop)(d:Option Nat)(op:MOp)(ops:List Za9)(fr:Fr)(st:St):Option Bool→Prop
 |some true=>Run C (.put d ops fr::K) (Zpr (mop op C.call fr.r st)) Q
 |some false=>Run C (.put d ops fr::K) (some (.val (.tup []) st)) Q
 |none=>False
def Yd3{d op g ops}:Run C K (Ycx (mops C.call (⟨d,op,g⟩::ops) fr st)) Q↔opR C K Q d op ops fr st (wantedV fr.r g):=by
 have e:mops C.call (⟨d,op,g⟩::ops) fr st=Zh1 C.call ⟨d,op,g⟩ (mops C.call ops) fr st:=rfl
 rw[e]
 unfold Zh1
 simp only[]
 rcases wantedV fr.r g with _|b
 ·exact Zhj
 ·cases b
  ·show _↔Run C (.put d ops fr::K) (some (.val (.tup []) st)) Q
   refine Zav ?_
   show _=unw C K (Zgq C (.put d ops fr) (.val (.tup []) st))
   simp only[Zgq]
   rcases fr.put d (.tup [])with _|_<;>rfl
  ·show _↔Run C (.put d ops fr::K) (Zpr (mop op C.call fr.r st)) Q
   refine Zav ?_
   show _=unw C K (Zek C (.put d ops fr) (Zpr (mop op C.call fr.r st)))
   rcases mop op C.call fr.r st with _|⟨v,st'⟩
   ·rfl
   ·simp only[Zpr,Zek,Zgq]
    rcases fr.put d v with _|_<;>rfl
def Yd8{d op ops}:opR C K Q d op ops fr st (some true)↔Run C (.put d ops fr::K) (Zpr (mop op C.call fr.r st)) Q:=Iff.rfl
def Zzu{d op ops}:opR C K Q d op ops fr st (some false)↔Run C (.put d ops fr::K) (some (.val (.tup []) st)) Q:=Iff.rfl
def Zym{v:V}:Zpr (some (v,st))=some (.val v st):=rfl
def Yn0{d n m r ops v}(h:d<n):Run C (.put (some d) ops ⟨r,n,m⟩::K) (some (.val v st)) Q↔Run C K (Ycx (mops C.call ops ⟨r.set d v,n,m⟩ st)) Q:=Zav (by simp[unw,Zek,Zgq,Fr.put,h])
def Zxc{ops v}:Run C (.put none ops fr::K) (some (.val v st)) Q↔Run C K (Ycx (mops C.call ops fr st)) Q:=Zav rfl
def Yd4:Zmc (mopsD C.call [] fr st)=some (.opsD [] fr st):=rfl
def Yli(C:Cx)(K:List Kf)(Q:Rs→Prop)(d:Option Nat)(op:MOp)(ops:List Za9)(fr:Fr)(h:T O)(n:Nat)(w:List Nat):Option Bool→Prop
 |some true=>Run C (.putD op d ops fr n w::K) (Zpr (mop op C.call fr.r ⟨h,n,[]⟩)) Q
 |some false=>Run C (.cons ⟨some [],[],n,n⟩::K) (match fr.put d (.tup [])with|some fr'=>Zmc (mopsD C.call ops fr' ⟨h,n,w⟩)|none=>none) Q
 |none=>False
def Zzs{d op g ops h n w}:Run C K (Zmc (mopsD C.call (⟨d,op,g⟩::ops) fr ⟨h,n,w⟩)) Q↔Yli C K Q d op ops fr h n w (wantedV fr.r g):=by
 have e:mopsD C.call (⟨d,op,g⟩::ops) fr ⟨h,n,w⟩=Ze8 C.call ⟨d,op,g⟩ (mopsD C.call ops) fr ⟨h,n,w⟩:=rfl
 rw[e]
 unfold Ze8
 simp only[]
 rcases wantedV fr.r g with _|b
 ·exact Zhj
 ·cases b
  ·show _↔Run C (.cons ⟨some [],[],n,n⟩::K) (match fr.put d (.tup [])with|some fr'=>Zmc (mopsD C.call ops fr' ⟨h,n,w⟩)|none=>none) Q
   refine Zav ?_
   show _=unw C K (Zek C (.cons ⟨some [],[],n,n⟩) _)
   rcases fr.put d (.tup [])with _|fr'
   ·rfl
   ·simp only[]
    rcases mopsD C.call ops fr' ⟨h,n,w⟩with _|⟨_,_,_⟩<;>rfl
  ·show _↔Run C (.putD op d ops fr n w::K) (Zpr (mop op C.call fr.r ⟨h,n,[]⟩)) Q
   refine Zav ?_
   show _=unw C K (Zek C (.putD op d ops fr n w) (Zpr (mop op C.call fr.r ⟨h,n,[]⟩)))
   rcases mop op C.call fr.r ⟨h,n,[]⟩with _|⟨v,st'⟩
   ·rfl
   ·simp only[Zpr,Zek,Zgq]
    rcases fr.put d v with _|fr'
    ·rfl
    ·simp only[]
     rcases mopsD C.call ops fr' {st' with w:=Zac n st'.w++w} with _|⟨_,_,_⟩<;>rfl
def Zzv{d op ops h n w}:Yli C K Q d op ops fr h n w (some true)↔Run C (.putD op d ops fr n w::K) (Zpr (mop op C.call fr.r ⟨h,n,[]⟩)) Q:=Iff.rfl
def Zwj{d n m r ops op h N w}(hd:d<n):Yli C K Q (some d) op ops ⟨r,n,m⟩ h N w (some false)↔Run C (.cons ⟨some [],[],N,N⟩::K) (Zmc (mopsD C.call ops ⟨r.set d (.tup []),n,m⟩ ⟨h,N,w⟩)) Q:=by simp[Yli,Fr.put,hd]
def Zsr{ops op h N w}:Yli C K Q none op ops fr h N w (some false)↔Run C (.cons ⟨some [],[],N,N⟩::K) (Zmc (mopsD C.call ops fr ⟨h,N,w⟩)) Q:=Iff.rfl
def Ylw{op d n m r ops v N w h' n' w'}(h:d<n):Run C (.putD op (some d) ops ⟨r,n,m⟩ N w::K) (some (.val v ⟨h',n',w'⟩)) Q↔Run C (.cons (Zcm r op (Zac N w') N n')::K) (Zmc (mopsD C.call ops ⟨r.set d v,n,m⟩ ⟨h',n',Zac N w'++w⟩)) Q:=Zav (by
 simp only[unw,Zek,Zgq,Fr.put,h,if_true]
 rcases mopsD C.call ops _ _ with _|⟨_,_,_⟩<;>rfl)
def Ztb{op ops v N w h' n' w'}:Run C (.putD op none ops fr N w::K) (some (.val v ⟨h',n',w'⟩)) Q↔Run C (.cons (Zcm fr.r op (Zac N w') N n')::K) (Zmc (mopsD C.call ops fr ⟨h',n',Zac N w'++w⟩)) Q:=Zav (by
 simp only[unw,Zek,Zgq,Fr.put]
 rcases mopsD C.call ops _ _ with _|⟨_,_,_⟩<;>rfl)
def Ylx{fp fps}:Run C (.cons fp::K) (some (.opsD fps fr st)) Q↔Run C K (some (.opsD (fp::fps) fr st)) Q:=Zav rfl
def Zu1{ms fps}(h:apartOk fps ms=true):Run C (.regD ms::K) (some (.opsD fps fr st)) Q↔Run C K (some (.ex .normal fr st)) Q:=Zav (by simp only[unw,Zek,Zgq,h])
def Yds{g first caps args mf}(hx:C.x (.func g first caps) args st=none)(h:C.tbl g=some mf)(hl:(first++args++caps).length≤mf.ntmps):Run C K (Zpr (C.call (.func g first caps) args st)) Q↔Run C (.fin mf.results st::K) (exR (C.code none mf.body ⟨Zef .nil 0 (first++args++caps),mf.ntmps,[]⟩ ⟨st.h,st.n,[]⟩)) Q:=Zav (by
 rw[Cx.call_eq]
 unfold Zd9
 rw[hx]
 simp only[Zcl,h,Zf8,Yte.2 hl,if_false]
 show _=unw C K (Zek C (.fin mf.results st) _)
 unfold Ztf
 rcases C.code none mf.body _ _ with _|⟨e,fr1,st1⟩
 ·rfl
 ·cases e with
  |exit=>rfl
  |normal=>
   simp only[exR,Zek,Zgq]
   rcases shut st1 fr1.marks with _|st2
   ·rfl
   ·simp only[]
    rcases resV fr1.r st2 mf.results with _|_<;>rfl
  |ret=>
   simp only[exR,Zek,Zgq]
   rcases shut st1 fr1.marks with _|st2
   ·rfl
   ·simp only[]
    rcases resV fr1.r st2 mf.results with _|_<;>rfl)
def Yn4(h:T O)(n:Nat)(w:List Nat):Option (List V)→Option Rs
 |some vs=>some (.val (Zqa vs) ⟨h,n,w⟩)
 |none=>none
def Ybk{h n w vs}:Yn4 h n w (some vs)=some (.val (Zqa vs) ⟨h,n,w⟩):=rfl
def Ya3{rs r n h1 n1 w1}:Run C (.fin rs st::K) (some (.ex .ret ⟨r,n,[]⟩ ⟨h1,n1,w1⟩)) Q↔Run C K (Yn4 h1 n1 (Zac st.n w1++st.w) (resV r ⟨h1,n1,w1⟩ rs)) Q:=Zav (by
 simp only[unw,Zek,Zgq,shut]
 rcases resV r ⟨h1,n1,w1⟩ rs with _|_<;>rfl)
def Ya4{rs r n h1 n1 w1}:Run C (.fin rs st::K) (some (.ex .normal ⟨r,n,[]⟩ ⟨h1,n1,w1⟩)) Q↔Run C K (Yn4 h1 n1 (Zac st.n w1++st.w) (resV r ⟨h1,n1,w1⟩ rs)) Q:=Zav (by
 simp only[unw,Zek,Zgq,shut]
 rcases resV r ⟨h1,n1,w1⟩ rs with _|_<;>rfl)
end
def Zs4(a):mop (.convStr a)=Zes a:=rfl
def Zqm(a b):mop (.strBytes a b)=Zcf a b:=rfl
def Zqr(a):mop (.bytesStr a)=Zc3 a:=rfl
def Zs1(a b):mop (.mkiface a b)=Zer a b:=rfl
def Yae:mop .mkmap=Zhn:=rfl
def Zwr(a b):mop (.mkchan a b)=Zeb a b:=rfl
def Zs0(a b c d e f):mop (.mkslice a b c d e f)=Zck a b c d e f:=rfl
def Zqn(a b c):mop (.sliceStr a b c)=Zbi a b c:=rfl
def Zsy(a b c d e):mop (.sliceSl a b c d e)=Za4 a b c d e:=rfl
def Zqo(a b c d e f):mop (.sliceArr a b c d e f)=Zbt a b c d e f:=rfl
def Zww(a b c d e):mop (.idxArr a b c d e)=Zfe a b c d e:=rfl
def Zwv(a b):mop (.idxStr a b)=Zed a b:=rfl
def Zwt(a b c d e):mop (.lookup a b c d e)=Zew a b c d e:=rfl
def Zws(a b c d):mop (.mapset a b c d)=Zec a b c d:=rfl
def Zqp(a):mop (.rangeStr a)=Zc2 a:=rfl
def Zsz(a):mop (.nextStr a)=Zdv a:=rfl
def Zwu(a):mop (.lenArr a)=Zgu a:=rfl
def Yiw(a):mop (.cap a)=Zn4 a:=rfl
def Yls(a):mop (.mn a)=Zk6 a:=rfl
def Ylr(a):mop (.mx a)=Zf2 a:=rfl
def Zwy(a b c d e f):mop (.append a b c d e f)=Zdk a b c d e f:=rfl
def Yei(a b c):mop (.copy a b c)=Zgv a b c:=rfl
def Yai(a b c):mop (.clear a b c)=Zho a b c:=rfl
def Yis(a b):mop (.uns a b)=Zkw a b:=rfl
def Yac(a):mop (.sdata a)=Zhm a:=rfl
def Yef(a b c):mop (.ustr a b c)=Zki a b c:=rfl
def Yiv(a b):mop (.ext a b)=Zmg a b:=rfl
def Yjr{ng k x y}:eqV ng (.prim k) x y=Zak ng k x y:=by cases x<;>cases y<;>rfl
attribute [simp] Yhx Yc4 Yl6 Ydo Yhw Ydq Yhu Ydu Zx7 Ztk Zzb Ydt Zza Yhv Zqz Zxb Ya2 Znk Ztc Zq0 Ynz Yig Yd3 Yd8 Zzu Zym Yn0 Zxc
 Yd4 Zzs Zzv Zwj Zsr Ylw Ztb Ylx Zu1 Ybk Ya3 Ya4
 Zs4 Zqm Zqr Zs1 Yae Zwr Zs0 Zqn Zsy Zqo Zww Zwv Zwt Zws Zqp Zsz Zwu Yiw Yls Ylr Zwy Yei Yai Yis Yac Yef Yiv Yjr
structure Keeps (h:T O) (n:Nat) (h':T O) (n':Nat):Prop where
 le:n≤n'
 get:∀i,i<n→h'.get i=h.get i
def Keeps.refl{h:T O}{n:Nat}:Keeps h n h n:=⟨Yqg _,fun _ _=>rfl⟩
def Keeps.trans{h h1 h2:T O}{n n1 n2:Nat}(a:Keeps h n h1 n1)(b:Keeps h1 n1 h2 n2):Keeps h n h2 n2:=
 ⟨Yr4 a.le b.le,fun i hi=>(b.get i (Yqq hi a.le)).trans (a.get i hi)⟩
def Keeps.set{h h1:T O}{n n1:Nat}{i:Nat}{o:O}(hi:n≤i)(a:Keeps h n h1 n1):Keeps h n (h1.set i o) n1:=
 ⟨a.le,fun j hj=>by rw[T.get_set,Yqe (by omega)];exact a.get j hj⟩
def Keeps.up{h h1:T O}{n n1 n2:Nat}(a:Keeps h n h1 n1)(hn:n1≤n2):Keeps h n h1 n2:=⟨Yr4 a.le hn,a.get⟩
def Ret(P:V→T O→Nat→Prop)(h:T O)(n:Nat)(w:List Nat)(v:V)(st:St):Prop:=st.w=w∧Keeps h n st.h st.n∧P v st.h st.n
abbrev Fn(C:Cx)(f:Nat)(args:List V)(h:T O)(n:Nat)(P:V→T O→Nat→Prop):Prop:=∀w,Call C (.func f [] []) args ⟨h,n,w⟩ (Ret P h n w)
def Zaa{C:Cx}{f args h n w P K Q}(hf:Fn C f args h n P)(k:∀v h' n',Keeps h n h' n'→P v h' n'→Run C K (some (.val v ⟨h',n',w⟩)) Q):Run C K (Zpr (C.call (.func f [] []) args ⟨h,n,w⟩)) Q:=
 Zd3 (hf w) fun v st'=>by
  obtain⟨h',n',w'⟩:=st'
  rintro⟨rfl,hk,hp⟩
  exact k v h' n' hk hp
def Zn5{N:Nat}:∀{w:List Nat},(∀i∈w,N≤i)→Zac N w=[]
 |[],_=>rfl
 |i::w,h=>by
  have:=h i Yq8
  simp only[Zac,Yte.2 this,if_false]
  exact Zn5 fun j hj=>h j (Yq6 _ hj)
end
end Go.Mx
