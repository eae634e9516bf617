/-Runs without a count of steps-/
import Derived.Test.YtdlikflhcjmkeaaGreatDoorMxTab
set_option linter.all false
namespace Go.Mx
open Go
def Le(a b:Za0):Prop:=∀g args st r,a g args st=some r→b g args st=some r
def Zlm{a b:Za0}(h:Le a b)(op:MOp)(r:T V)(st:St){o:V×St}(e:mop op a r st=some o):mop op b r st=some o:=by
 cases op<;>try exact e
 rename_i f args
 show Zeg f args b r st=some o
 have e:Zeg f args a r st=some o:=e
 unfold Zeg at e ⊢
 split at e
 ·exact h _ _ _ _ e
 ·cases e
def Zg0{a b:Za0}(h:Le a b):∀(ops:List Za9) (fr:Fr) (st:St) {o:Fr×St},mops a ops fr st=some o→mops b ops fr st=some o
 |[],_,_,_,e=>e
 |q::ops,fr,st,o,e=>by
  have e:Zh1 a q (mops a ops) fr st=some o:=e
  show Zh1 b q (mops b ops) fr st=some o
  unfold Zh1 at e ⊢
  split at e
  ·split at e
   ·rename_i v st' h1
    rw[Zlm h _ _ _ h1]
    simp only[]
    split at e
    ·exact Zg0 h ops _ _ e
    ·cases e
   ·cases e
  ·split at e
   ·exact Zg0 h ops _ _ e
   ·cases e
  ·cases e
def Zhq{a b:Za0}(h:Le a b):∀(ops:List Za9) (fr:Fr) (st:St) {o:List FP×Fr×St},mopsD a ops fr st=some o→mopsD b ops fr st=some o
 |[],_,_,_,e=>e
 |q::ops,fr,st,o,e=>by
  have e:Ze8 a q (mopsD a ops) fr st=some o:=e
  show Ze8 b q (mopsD b ops) fr st=some o
  unfold Ze8 at e ⊢
  split at e
  ·split at e
   ·rename_i v st' h1
    rw[Zlm h _ _ _ h1]
    simp only[]
    split at e
    ·split at e
     ·rename_i h2
      rw[Zhq h ops _ _ h2]
      exact e
     ·cases e
    ·cases e
   ·cases e
  ·split at e
   ·split at e
    ·rename_i h2
     rw[Zhq h ops _ _ h2]
     exact e
    ·cases e
   ·cases e
  ·cases e
def LeC(a b:Zfp):Prop:=∀ro c fr st r,a ro c fr st=some r→b ro c fr st=some r
def Zj1{a b:Za0}{p q:Zfp}(h:Le a b)(hc:LeC p q)(ro:Option Nat)(c:Zaz)(fr:Fr)(st:St){o:Ex×Fr×St}(e:Za8 c a p ro fr st=some o):Za8 c b q ro fr st=some o:=by
 cases c with
 |skip=>exact e
 |reg ops=>
  have e:Zm5 ops a p ro fr st=some o:=e
  show Zm5 ops b q ro fr st=some o
  unfold Zm5 at e ⊢
  split at e
  ·rename_i h1;rw[Zg0 h _ _ _ h1];exact e
  ·cases e
 |regD ops ms=>
  have e:Zhb ops ms a p ro fr st=some o:=e
  show Zhb ops ms b q ro fr st=some o
  unfold Zhb at e ⊢
  split at e
  ·rename_i h1;rw[Zhq h _ _ _ h1];exact e
  ·cases e
 |regS dst ch send zero ops=>
  have e:Zha dst ch send zero ops a p ro fr st=some o:=e
  show Zha dst ch send zero ops b q ro fr st=some o
  unfold Zha at e ⊢
  split at e
  ·split at e
   ·split at e
    ·split at e
     ·rename_i h1;rw[Zg0 h _ _ _ h1];exact e
     ·cases e
    ·cases e
   ·cases e
  ·cases e
 |seq x y=>
  have e:Znm x y a p ro fr st=some o:=e
  show Znm x y b q ro fr st=some o
  unfold Znm at e ⊢
  split at e
  ·rename_i h1;rw[hc _ _ _ _ _ h1];exact hc _ _ _ _ _ e
  ·rename_i h1
   have:=hc _ _ _ _ _ e
   rw[this]
   rcases o with⟨_|_|_,_,_⟩
   ·exact absurd e (h1 _ _)
   ·rfl
   ·rfl
 |cond x y z=>
  have e:Zfn x y z a p ro fr st=some o:=e
  show Zfn x y z b q ro fr st=some o
  unfold Zfn at e ⊢
  split at e
  ·exact hc _ _ _ _ _ e
  ·exact hc _ _ _ _ _ e
  ·cases e
 |block id x=>
  have e:Zfa id x a p ro fr st=some o:=e
  show Zfa id x b q ro fr st=some o
  unfold Zfa at e ⊢
  split at e
  ·rename_i h1;rw[hc _ _ _ _ _ h1];exact e
  ·rename_i h1
   have:=hc _ _ _ _ _ e
   rw[this]
   rcases o with⟨_|_|_,_,_⟩
   ·rfl
   ·exact absurd e (h1 _ _ _)
   ·rfl
 |loop x=>
  have e:Zh3 x a p ro fr st=some o:=e
  show Zh3 x b q ro fr st=some o
  unfold Zh3 at e ⊢
  split at e
  ·rename_i h1;rw[hc _ _ _ _ _ h1];exact hc _ _ _ _ _ e
  ·rename_i h1
   have:=hc _ _ _ _ _ e
   rw[this]
   rcases o with⟨_|_|_,_,_⟩
   ·exact absurd e (h1 _ _)
   ·rfl
   ·rfl
 |rangef g ps x y=>
  have e:Zep g ps x y a p ro fr st=some o:=e
  show Zep g ps x y b q ro fr st=some o
  unfold Zep at e ⊢
  split at e
  ·cases e
  ·split at e
   ·cases e
   ·rename_i hy
    simp only[hy]
    split at e
    ·cases e
    ·split at e
     ·cases e
     ·rename_i h1;rw[h _ _ _ _ h1];exact e
 |exit id=>exact e
 |scope x=>exact hc _ _ _ _ _ e
 |ret=>exact e
 |stop=>exact e
def Zb1{a b:Za0}(h:Le a b):∀(F F':Nat),F≤F'→LeC (Zbe a F) (Zbe b F')
 |0,_,_=>fun _ _ _ _ _ e=>by cases e
 |F+1,0,hF=>by omega
 |F+1,F'+1,hF=>fun ro c fr st _ e=>Zj1 h (Zb1 h F F' (by omega)) ro c fr st e
def Zq6{p q:Zfp}(h:LeC p q){mf:Zee}{args:List V}{st:St}{o:V×St}(e:Zf8 mf p args st=some o):Zf8 mf q args st=some o:=by
 unfold Zf8 at e ⊢
 split at e
 ·cases e
 ·rename_i h0
  rw[Yqe h0]
  cases h1:p none mf.body {r:=Zef .nil 0 args,n:=mf.ntmps,marks:=[]} {st with w:=[]} with
  |none=>rw[h1]at e;cases e
  |some r=>rw[h1]at e;rw[h _ _ _ _ _ h1];exact e
def Zo0{p q:Zfp}(h:LeC p q){l:Nat}{args:List V}{st:St}{o:V×St}(e:Zf0 p l args st=some o):Zf0 q l args st=some o:=by
 unfold Zf0 at e ⊢
 split at e
 ·split at e
  ·cases e
  ·split at e
   ·rename_i h1
    rw[h _ _ _ _ _ h1]
    simp only[]
    split at e
    ·split at e
     ·rename_i hr
      rw[Yqi hr]
      split at e
      ·rename_i h2
       rw[h _ _ _ _ _ h2]
       exact e
      ·cases e
     ·cases e
    ·cases e
   ·cases e
 ·cases e
def Zgh{tbl:Nat→Option Zee}{p q:Zfp}(h:LeC p q):Le (Zcl tbl p) (Zcl tbl q):=by
 intro g args st o e
 unfold Zcl at e ⊢
 split at e
 ·split at e
  ·exact Zq6 h e
  ·cases e
 ·exact Zo0 h e
 ·cases e
def Zmb{x a b:Za0}(h:Le a b):Le (Zd9 x a) (Zd9 x b):=by
 intro g args st o e
 unfold Zd9 at e ⊢
 split at e
 ·exact e
 ·exact h _ _ _ _ e
def Zf7{x:Za0}{tbl:Nat→Option Zee}{F F':Nat}(hF:F≤F'):∀(d d':Nat),d≤d'→Le (Zgl x tbl F d) (Zgl x tbl F' d')
 |0,0,_=>fun _ _ _ _ e=>e
 |0,d'+1,_=>fun g args st o e=>by
  have e:x g args st=some o:=e
  show Zd9 x _ g args st=some o
  unfold Zd9;rw[e]
 |d+1,0,h=>by omega
 |d+1,d'+1,h=>Zmb (Zgh (Zb1 (Zf7 hF d d' (by omega)) F F' hF))
structure Cx where
 x:Za0
 tbl:Nat→Option Zee
def Cx.at(C:Cx)(N:Nat):Za0:=Zgl C.x C.tbl N N
def Cx.at_mono{C:Cx}{N M:Nat}(h:N≤M):Le (C.at N) (C.at M):=Zf7 h N M h
open Classical in
noncomputable def Cx.call(C:Cx):Za0:=fun g args st=>if h:∃r N,C.at N g args st=some r then some h.choose else none
def Cx.call_iff{C:Cx}{g args st r}:C.call g args st=some r↔∃N,C.at N g args st=some r:=by
 unfold Cx.call
 constructor
 ·intro h
  split at h
  ·rename_i hc
   simp only[Yqc]at h
   exact h▸hc.choose_spec
  ·cases h
 ·rintro⟨N,h⟩
  have hc:∃r N,C.at N g args st=some r:=⟨r,N,h⟩
  rw[dif_pos hc]
  obtain⟨M,hM⟩:=hc.choose_spec
  have h1:=Cx.at_mono (Ys6 N M) _ _ _ _ h
  have h2:=Cx.at_mono (Ysu N M) _ _ _ _ hM
  rw[h1]at h2
  exact congrArg some (Yrc h2).symm
open Classical in
noncomputable def Cx.code(C:Cx):Zfp:=fun ro c fr st=>if h:∃r F,Zbe C.call F ro c fr st=some r then some h.choose else none
def Cx.code_iff{C:Cx}{ro c fr st r}:C.code ro c fr st=some r↔∃F,Zbe C.call F ro c fr st=some r:=by
 unfold Cx.code
 constructor
 ·intro h
  split at h
  ·rename_i hc
   simp only[Yqc]at h
   exact h▸hc.choose_spec
  ·cases h
 ·rintro⟨N,h⟩
  have hc:∃r F,Zbe C.call F ro c fr st=some r:=⟨r,N,h⟩
  rw[dif_pos hc]
  obtain⟨M,hM⟩:=hc.choose_spec
  have h1:=Zb1 (fun _ _ _ _ e=>e) N (max N M) (Ys6 N M) _ _ _ _ _ h
  have h2:=Zb1 (fun _ _ _ _ e=>e) M (max N M) (Ysu N M) _ _ _ _ _ hM
  rw[h1]at h2
  exact congrArg some (Yrc h2).symm
def Zzq{α:Type}{a b:Option α}(h:∀r,a=some r↔b=some r):a=b:=by
 cases a with
 |none=>cases b with
  |none=>rfl
  |some r=>exact absurd ((h r).2 rfl) (by simp)
 |some r=>exact((h r).1 rfl).symm
def Zeo{a:Za0}{p:Zfp}{q:Nat→Zfp}(hq:∀n m,n≤m→LeC (q n) (q m))(hp:∀ro c fr st r,p ro c fr st=some r→∃n,q n ro c fr st=some r)(ro:Option Nat)(c:Zaz)(fr:Fr)(st:St){o:Ex×Fr×St}(e:Za8 c a p ro fr st=some o):∃n,Za8 c a (q n) ro fr st=some o:=by
 cases c with
 |skip=>exact⟨0,e⟩
 |reg ops=>exact⟨0,e⟩
 |regD ops ms=>exact⟨0,e⟩
 |regS dst ch send zero ops=>exact⟨0,e⟩
 |seq x y=>
  have e:Znm x y a p ro fr st=some o:=e
  show ∃n,Znm x y a (q n) ro fr st=some o
  unfold Znm at e ⊢
  split at e
  ·rename_i h1
   obtain⟨n,hn⟩:=hp _ _ _ _ _ h1
   obtain⟨m,hm⟩:=hp _ _ _ _ _ e
   refine⟨max n m,?_⟩
   rw[hq n _ (Ys6 n m) _ _ _ _ _ hn]
   exact hq m _ (Ysu n m) _ _ _ _ _ hm
  ·rename_i h1
   obtain⟨n,hn⟩:=hp _ _ _ _ _ e
   refine⟨n,?_⟩
   rw[hn]
   rcases o with⟨_|_|_,_,_⟩
   ·exact absurd e (h1 _ _)
   ·rfl
   ·rfl
 |cond x y z=>
  have e:Zfn x y z a p ro fr st=some o:=e
  show ∃n,Zfn x y z a (q n) ro fr st=some o
  unfold Zfn at e ⊢
  split at e
  ·exact hp _ _ _ _ _ e
  ·exact hp _ _ _ _ _ e
  ·cases e
 |block id x=>
  have e:Zfa id x a p ro fr st=some o:=e
  show ∃n,Zfa id x a (q n) ro fr st=some o
  unfold Zfa at e ⊢
  split at e
  ·rename_i h1
   obtain⟨n,hn⟩:=hp _ _ _ _ _ h1
   exact⟨n,by rw[hn];exact e⟩
  ·rename_i h1
   obtain⟨n,hn⟩:=hp _ _ _ _ _ e
   refine⟨n,?_⟩
   rw[hn]
   rcases o with⟨_|_|_,_,_⟩
   ·rfl
   ·exact absurd e (h1 _ _ _)
   ·rfl
 |loop x=>
  have e:Zh3 x a p ro fr st=some o:=e
  show ∃n,Zh3 x a (q n) ro fr st=some o
  unfold Zh3 at e ⊢
  split at e
  ·rename_i h1
   obtain⟨n,hn⟩:=hp _ _ _ _ _ h1
   obtain⟨m,hm⟩:=hp _ _ _ _ _ e
   refine⟨max n m,?_⟩
   rw[hq n _ (Ys6 n m) _ _ _ _ _ hn]
   exact hq m _ (Ysu n m) _ _ _ _ _ hm
  ·rename_i h1
   obtain⟨n,hn⟩:=hp _ _ _ _ _ e
   refine⟨n,?_⟩
   rw[hn]
   rcases o with⟨_|_|_,_,_⟩
   ·exact absurd e (h1 _ _)
   ·rfl
   ·rfl
 |rangef g ps x y=>exact⟨0,e⟩
 |exit id=>exact⟨0,e⟩
 |scope x=>exact hp _ _ _ _ _ e
 |ret=>exact⟨0,e⟩
 |stop=>exact⟨0,e⟩
def Cx.code_eq{C:Cx}(ro:Option Nat)(c:Zaz)(fr:Fr)(st:St):C.code ro c fr st=Za8 c C.call C.code ro fr st:=by
 apply Zzq
 intro r
 constructor
 ·intro h
  obtain⟨F,hF⟩:=Cx.code_iff.1 h
  cases F with
  |zero=>cases hF
  |succ F=>exact Zj1 (fun _ _ _ _ e=>e) (fun ro c fr st r e=>Cx.code_iff.2 ⟨F,e⟩) ro c fr st hF
 ·intro h
  obtain⟨n,hn⟩:=Zeo (q:=Zbe C.call) (Zb1 fun _ _ _ _ e=>e) (fun _ _ _ _ _ e=>Cx.code_iff.1 e) ro c fr st h
  exact Cx.code_iff.2 ⟨n+1,hn⟩
def Zut{C:Cx}(op:MOp)(r:T V)(st:St){o:V×St}(e:mop op C.call r st=some o):∃N,mop op (C.at N) r st=some o:=by
 cases op<;>try exact⟨0,e⟩
 rename_i f args
 have e:Zeg f args C.call r st=some o:=e
 show ∃N,Zeg f args (C.at N) r st=some o
 unfold Zeg at e ⊢
 split at e
 ·exact Cx.call_iff.1 e
 ·cases e
def Zjp{C:Cx}:∀(ops:List Za9) (fr:Fr) (st:St) {o:Fr×St},mops C.call ops fr st=some o→∃N,mops (C.at N) ops fr st=some o
 |[],_,_,_,e=>⟨0,e⟩
 |q::ops,fr,st,o,e=>by
  have e:Zh1 C.call q (mops C.call ops) fr st=some o:=e
  show ∃N,Zh1 (C.at N) q (mops (C.at N) ops) fr st=some o
  unfold Zh1 at e ⊢
  split at e
  ·split at e
   ·rename_i v st' h1
    split at e
    ·obtain⟨N,hN⟩:=Zut _ _ _ h1
     obtain⟨M,hM⟩:=Zjp ops _ _ e
     refine⟨max N M,?_⟩
     rw[Zlm (Cx.at_mono (Ys6 N M)) _ _ _ hN]
     rename_i h3
     simp only[h3]
     exact Zg0 (Cx.at_mono (Ysu N M)) _ _ _ hM
    ·cases e
   ·cases e
  ·split at e
   ·exact Zjp ops _ _ e
   ·cases e
  ·cases e
def Zkj{C:Cx}:∀(ops:List Za9) (fr:Fr) (st:St) {o:List FP×Fr×St},mopsD C.call ops fr st=some o→∃N,mopsD (C.at N) ops fr st=some o
 |[],_,_,_,e=>⟨0,e⟩
 |q::ops,fr,st,o,e=>by
  have e:Ze8 C.call q (mopsD C.call ops) fr st=some o:=e
  show ∃N,Ze8 (C.at N) q (mopsD (C.at N) ops) fr st=some o
  unfold Ze8 at e ⊢
  split at e
  ·split at e
   ·rename_i v st' h1
    split at e
    ·rename_i h3
     split at e
     ·rename_i h2
      obtain⟨N,hN⟩:=Zut _ _ _ h1
      obtain⟨M,hM⟩:=Zkj ops _ _ h2
      refine⟨max N M,?_⟩
      rw[Zlm (Cx.at_mono (Ys6 N M)) _ _ _ hN]
      simp only[h3]
      rw[Zhq (Cx.at_mono (Ysu N M)) _ _ _ hM]
      exact e
     ·cases e
    ·cases e
   ·cases e
  ·split at e
   ·split at e
    ·rename_i h2
     obtain⟨M,hM⟩:=Zkj ops _ _ h2
     exact⟨M,by rw[hM];exact e⟩
    ·cases e
   ·cases e
  ·cases e
def Zoa{C:Cx}:∀(F:Nat) (ro:Option Nat) (c:Zaz) (fr:Fr) (st:St) {o:Ex×Fr×St},Zbe C.call F ro c fr st=some o→∃N,Zbe (C.at N) F ro c fr st=some o
 |0,_,_,_,_,_,e=>by cases e
 |F+1,ro,c,fr,st,o,e=>by
  have e:Za8 c C.call (Zbe C.call F) ro fr st=some o:=e
  show ∃N,Za8 c (C.at N) (Zbe (C.at N) F) ro fr st=some o
  have ih:=@Zoa C F
  have up:∀{n m:Nat},n≤m→LeC (Zbe (C.at n) F) (Zbe (C.at m) F):=fun h=>Zb1 (Cx.at_mono h) F F (Yqg _)
  cases c with
  |reg ops=>
   have e:Zm5 ops C.call (Zbe C.call F) ro fr st=some o:=e
   show ∃N,Zm5 ops (C.at N) (Zbe (C.at N) F) ro fr st=some o
   unfold Zm5 at e ⊢
   split at e
   ·rename_i h1
    obtain⟨N,hN⟩:=Zjp _ _ _ h1
    exact⟨N,by rw[hN];exact e⟩
   ·cases e
  |regD ops ms=>
   have e:Zhb ops ms C.call (Zbe C.call F) ro fr st=some o:=e
   show ∃N,Zhb ops ms (C.at N) (Zbe (C.at N) F) ro fr st=some o
   unfold Zhb at e ⊢
   split at e
   ·rename_i h1
    obtain⟨N,hN⟩:=Zkj _ _ _ h1
    exact⟨N,by rw[hN];exact e⟩
   ·cases e
  |regS dst ch send zero ops=>
   have e:Zha dst ch send zero ops C.call (Zbe C.call F) ro fr st=some o:=e
   show ∃N,Zha dst ch send zero ops (C.at N) (Zbe (C.at N) F) ro fr st=some o
   unfold Zha at e ⊢
   split at e
   ·split at e
    ·split at e
     ·split at e
      ·rename_i h1
       obtain⟨N,hN⟩:=Zjp _ _ _ h1
       exact⟨N,by rw[hN];exact e⟩
      ·cases e
     ·cases e
    ·cases e
   ·cases e
  |rangef g ps x y=>
   have e:Zep g ps x y C.call (Zbe C.call F) ro fr st=some o:=e
   show ∃N,Zep g ps x y (C.at N) (Zbe (C.at N) F) ro fr st=some o
   unfold Zep at e ⊢
   split at e
   ·cases e
   ·split at e
    ·cases e
    ·rename_i hy
     simp only[hy]
     split at e
     ·cases e
     ·split at e
      ·cases e
      ·rename_i h1
       obtain⟨N,hN⟩:=Cx.call_iff.1 h1
       exact⟨N,by rw[hN];exact e⟩
  |skip=>exact⟨0,e⟩
  |exit id=>exact⟨0,e⟩
  |ret=>exact⟨0,e⟩
  |stop=>cases e
  |scope x=>exact ih _ _ _ _ e
  |cond x y z=>
   have e:Zfn x y z C.call (Zbe C.call F) ro fr st=some o:=e
   show ∃N,Zfn x y z (C.at N) (Zbe (C.at N) F) ro fr st=some o
   unfold Zfn at e ⊢
   split at e
   ·exact ih _ _ _ _ e
   ·exact ih _ _ _ _ e
   ·cases e
  |seq x y=>exact Zeo (a:=C.call) (q:=fun n=>Zbe (C.at n) F) (fun _ _ h=>up h) (fun _ _ _ _ _ e=>ih _ _ _ _ e) ro (.seq x y) fr st e
  |block id x=>exact Zeo (a:=C.call) (q:=fun n=>Zbe (C.at n) F) (fun _ _ h=>up h) (fun _ _ _ _ _ e=>ih _ _ _ _ e) ro (.block id x) fr st e
  |loop x=>exact Zeo (a:=C.call) (q:=fun n=>Zbe (C.at n) F) (fun _ _ h=>up h) (fun _ _ _ _ _ e=>ih _ _ _ _ e) ro (.loop x) fr st e
def Cx.code_need{C:Cx}{ro c fr st r}(h:C.code ro c fr st=some r):∃N,Zbe (C.at N) N ro c fr st=some r:=by
 obtain⟨F,hF⟩:=Cx.code_iff.1 h
 obtain⟨N,hN⟩:=Zoa F _ _ _ _ hF
 exact⟨max F N,Zb1 (Cx.at_mono (Ysu F N)) _ _ (Ys6 F N) _ _ _ _ _ hN⟩
def Zj3{tbl:Nat→Option Zee}{p:Zfp}{q:Nat→Zfp}(hq:∀n m,n≤m→LeC (q n) (q m))(hp:∀ro c fr st r,p ro c fr st=some r→∃n,q n ro c fr st=some r){g args st}{o:V×St}(e:Zcl tbl p g args st=some o):∃n,Zcl tbl (q n) g args st=some o:=by
 unfold Zcl at e ⊢
 split at e
 ·split at e
  ·rename_i mf _
   unfold Zf8 at e ⊢
   split at e
   ·cases e
   ·rename_i h0
    simp only[h0,if_false]
    cases h1:p none mf.body {r:=Zef .nil 0 _,n:=mf.ntmps,marks:=[]} {st with w:=[]} with
    |none=>rw[h1]at e;cases e
    |some r=>
     rw[h1]at e
     obtain⟨n,hn⟩:=hp _ _ _ _ _ h1
     exact⟨n,by rw[hn];exact e⟩
  ·cases e
 ·unfold Zf0 at e ⊢
  split at e
  ·split at e
   ·cases e
   ·split at e
    ·rename_i h1
     obtain⟨n,hn⟩:=hp _ _ _ _ _ h1
     split at e
     ·split at e
      ·split at e
       ·rename_i h4 h5 _ _ _ _ h2
        obtain⟨m,hm⟩:=hp _ _ _ _ _ h2
        refine⟨max n m,?_⟩
        rw[hq n _ (Ys6 n m) _ _ _ _ _ hn]
        simp only[h4,h5,if_true]
        rw[hq m _ (Ysu n m) _ _ _ _ _ hm]
        exact e
       ·cases e
      ·cases e
     ·cases e
    ·cases e
  ·cases e
 ·cases e
def Cx.call_eq{C:Cx}(g:V)(args:List V)(st:St):C.call g args st=Zd9 C.x (Zcl C.tbl C.code) g args st:=by
 apply Zzq
 intro r
 constructor
 ·intro h
  obtain⟨N,hN⟩:=Cx.call_iff.1 h
  cases N with
  |zero=>
   have e:C.x g args st=some r:=hN
   unfold Zd9;rw[e]
  |succ N=>
   refine Zmb (x:=C.x) (Zgh (p:=Zbe (Zgl C.x C.tbl (N+1) N) (N+1)) fun ro c fr st r e=>?_) _ _ _ _ hN
   refine Cx.code_iff.2 ⟨N+1,?_⟩
   refine Zb1 (fun g args st r e=>?_) (N+1) (N+1) (Yqg _) _ _ _ _ _ e
   exact Cx.call_iff.2 ⟨N+1,Zf7 (Yqg _) N (N+1) (by omega) _ _ _ _ e⟩
 ·intro h
  unfold Zd9 at h
  split at h
  ·rename_i r' e
   simp only[Yqc]at h
   subst h
   exact Cx.call_iff.2 ⟨0,e⟩
  ·rename_i hx
   obtain⟨N,hN⟩:=Zj3 (q:=fun n=>Zbe (C.at n) n) (fun n m h=>Zb1 (Cx.at_mono h) n m h) (fun _ _ _ _ _ e=>Cx.code_need e) h
   refine Cx.call_iff.2 ⟨N+1,?_⟩
   show Zd9 C.x (Zcl C.tbl (Zbe (Zgl C.x C.tbl (N+1) N) (N+1))) g args st=some r
   unfold Zd9
   rw[hx]
   exact Zgh (Zb1 (Zf7 (by omega) N N (Yqg _)) N (N+1) (by omega)) _ _ _ _ hN
end Go.Mx
