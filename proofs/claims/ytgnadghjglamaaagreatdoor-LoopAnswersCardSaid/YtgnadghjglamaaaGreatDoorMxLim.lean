/-Runs without a count of steps-/
import Derived.Test.YtgnadghjglamaaaGreatDoorMxTab
set_option linter.all false
namespace Go.Mx
noncomputable section
open Go
def Le(a b:Za1):Prop:=∀g args st r,a g args st=some r→b g args st=some r
def Zly{a b:Za1}(h:Le a b)(op:MOp)(r:T V)(st:St){o:V×St}(e:mop op a r st=some o):mop op b r st=some o:=by
 cases op<;>try exact e
 rename_i f args
 show Zem f args b r st=some o
 have e:Zem f args a r st=some o:=e
 unfold Zem at e ⊢
 split at e
 ·exact h _ _ _ _ e
 ·cases e
def Zg5{a b:Za1}(h:Le a b):∀(ops:List Zbc) (fr:Fr) (st:St) {o:Fr×St},mops a ops fr st=some o→mops b ops fr st=some o
 |[],_,_,_,e=>e
 |q::ops,fr,st,o,e=>by
  have e:Zic a q (mops a ops) fr st=some o:=e
  show Zic b q (mops b ops) fr st=some o
  unfold Zic at e ⊢
  split at e
  ·split at e
   ·rename_i v st' h1
    rw[Zly h _ _ _ h1]
    simp only[]
    split at e
    ·exact Zg5 h ops _ _ e
    ·cases e
   ·cases e
  ·split at e
   ·exact Zg5 h ops _ _ e
   ·cases e
  ·cases e
def Zh0{a b:Za1}(h:Le a b):∀(ops:List Zbc) (fr:Fr) (st:St) {o:List FP×Fr×St},mopsD a ops fr st=some o→mopsD b ops fr st=some o
 |[],_,_,_,e=>e
 |q::ops,fr,st,o,e=>by
  have e:Zfd a q (mopsD a ops) fr st=some o:=e
  show Zfd b q (mopsD b ops) fr st=some o
  unfold Zfd at e ⊢
  split at e
  ·split at e
   ·rename_i v st' h1
    rw[Zly h _ _ _ h1]
    simp only[]
    split at e
    ·split at e
     ·rename_i h2
      rw[Zh0 h ops _ _ h2]
      exact e
     ·cases e
    ·cases e
   ·cases e
  ·split at e
   ·split at e
    ·rename_i h2
     rw[Zh0 h ops _ _ h2]
     exact e
    ·cases e
   ·cases e
  ·cases e
def LeC(a b:Zfu):Prop:=∀ro c fr st r,a ro c fr st=some r→b ro c fr st=some r
def Zkg{a b:Za1}{p q:Zfu}(h:Le a b)(hc:LeC p q)(ro:Option Nat)(c:Zaw)(fr:Fr)(st:St){o:Ex×Fr×St}(e:Zbb c a p ro fr st=some o):Zbb c b q ro fr st=some o:=by
 cases c with
 |skip=>exact e
 |reg ops=>
  have e:Znm ops a p ro fr st=some o:=e
  show Znm ops b q ro fr st=some o
  unfold Znm at e ⊢
  split at e
  ·rename_i h1;rw[Zg5 h _ _ _ h1];exact e
  ·cases e
 |regD ops ms=>
  have e:Zhk ops ms a p ro fr st=some o:=e
  show Zhk ops ms b q ro fr st=some o
  unfold Zhk at e ⊢
  split at e
  ·rename_i h1;rw[Zh0 h _ _ _ h1];exact e
  ·cases e
 |regS dst ch send zero ops=>
  have e:Zhj dst ch send zero ops a p ro fr st=some o:=e
  show Zhj dst ch send zero ops b q ro fr st=some o
  unfold Zhj at e ⊢
  split at e
  ·split at e
   ·split at e
    ·split at e
     ·rename_i h1;rw[Zg5 h _ _ _ h1];exact e
     ·cases e
    ·cases e
   ·cases e
  ·cases e
 |seq x y=>
  have e:Zn6 x y a p ro fr st=some o:=e
  show Zn6 x y b q ro fr st=some o
  unfold Zn6 at e ⊢
  split at e
  ·rename_i h1;rw[hc _ _ _ _ _ h1];exact hc _ _ _ _ _ e
  ·rename_i h1
   have:=hc _ _ _ _ _ e
   rw[this]
   rcases o with⟨_|_|_,_,_⟩
   ·exact absurd e (h1 _ _)
   ·rfl
   ·rfl
 |cond x y z=>
  have e:Zfs x y z a p ro fr st=some o:=e
  show Zfs x y z b q ro fr st=some o
  unfold Zfs at e ⊢
  split at e
  ·exact hc _ _ _ _ _ e
  ·exact hc _ _ _ _ _ e
  ·cases e
 |block id x=>
  have e:Zff id x a p ro fr st=some o:=e
  show Zff id x b q ro fr st=some o
  unfold Zff at e ⊢
  split at e
  ·rename_i h1;rw[hc _ _ _ _ _ h1];exact e
  ·rename_i h1
   have:=hc _ _ _ _ _ e
   rw[this]
   rcases o with⟨_|_|_,_,_⟩
   ·rfl
   ·exact absurd e (h1 _ _ _)
   ·rfl
 |loop x=>
  have e:Zie x a p ro fr st=some o:=e
  show Zie x b q ro fr st=some o
  unfold Zie at e ⊢
  split at e
  ·rename_i h1;rw[hc _ _ _ _ _ h1];exact hc _ _ _ _ _ e
  ·rename_i h1
   have:=hc _ _ _ _ _ e
   rw[this]
   rcases o with⟨_|_|_,_,_⟩
   ·exact absurd e (h1 _ _)
   ·rfl
   ·rfl
 |rangef g ps x y=>
  have e:Zet g ps x y a p ro fr st=some o:=e
  show Zet g ps x y b q ro fr st=some o
  unfold Zet at e ⊢
  split at e
  ·cases e
  ·split at e
   ·cases e
   ·rename_i hy
    simp only[hy]
    split at e
    ·cases e
    ·split at e
     ·cases e
     ·rename_i h1;rw[h _ _ _ _ h1];exact e
 |exit id=>exact e
 |scope x=>exact hc _ _ _ _ _ e
 |ret=>exact e
 |stop=>exact e
def Zb3{a b:Za1}(h:Le a b):∀(F F':Nat),F≤F'→LeC (Zbh a F) (Zbh b F')
 |0,_,_=>fun _ _ _ _ _ e=>by cases e
 |F+1,0,hF=>by omega
 |F+1,F'+1,hF=>fun ro c fr st _ e=>Zkg h (Zb3 h F F' (by omega)) ro c fr st e
def Zrp{p q:Zfu}(h:LeC p q){mf:Zej}{args:List V}{st:St}{o:V×St}(e:Zgf mf p args st=some o):Zgf mf q args st=some o:=by
 unfold Zgf at e ⊢
 split at e
 ·cases e
 ·rename_i h0
  rw[Yrt h0]
  cases h1:p none mf.body {r:=Zek .nil 0 args,n:=mf.ntmps,marks:=[]} {st with w:=[]} with
  |none=>rw[h1]at e;cases e
  |some r=>rw[h1]at e;rw[h _ _ _ _ _ h1];exact e
def Zpl{p q:Zfu}(h:LeC p q){l:Nat}{args:List V}{st:St}{o:V×St}(e:Zf6 p l args st=some o):Zf6 q l args st=some o:=by
 unfold Zf6 at e ⊢
 split at e
 ·split at e
  ·cases e
  ·split at e
   ·rename_i h1
    rw[h _ _ _ _ _ h1]
    simp only[]
    split at e
    ·split at e
     ·rename_i hr
      rw[Yrw hr]
      split at e
      ·rename_i h2
       rw[h _ _ _ _ _ h2]
       exact e
      ·cases e
     ·cases e
    ·cases e
   ·cases e
 ·cases e
def Zgm{tbl:Nat→Option Zej}{p q:Zfu}(h:LeC p q):Le (Zcq tbl p) (Zcq tbl q):=by
 intro g args st o e
 unfold Zcq at e ⊢
 split at e
 ·split at e
  ·exact Zrp h e
  ·cases e
 ·exact Zpl h e
 ·cases e
def Zmq{x a b:Za1}(h:Le a b):Le (Zee x a) (Zee x b):=by
 intro g args st o e
 unfold Zee at e ⊢
 split at e
 ·exact e
 ·exact h _ _ _ _ e
def Zge{x:Za1}{tbl:Nat→Option Zej}{F F':Nat}(hF:F≤F'):∀(d d':Nat),d≤d'→Le (Zgr x tbl F d) (Zgr x tbl F' d')
 |0,0,_=>fun _ _ _ _ e=>e
 |0,d'+1,_=>fun g args st o e=>by
  have e:x g args st=some o:=e
  show Zee x _ g args st=some o
  unfold Zee;rw[e]
 |d+1,0,h=>by omega
 |d+1,d'+1,h=>Zmq (Zgm (Zb3 (Zge hF d d' (by omega)) F F' hF))
structure Cx where
 x:Za1
 tbl:Nat→Option Zej
def Cx.at(C:Cx)(N:Nat):Za1:=Zgr C.x C.tbl N N
def Cx.at_mono{C:Cx}{N M:Nat}(h:N≤M):Le (C.at N) (C.at M):=Zge h N M h
open Classical in
def Cx.call(C:Cx):Za1:=fun g args st=>if h:∃r N,C.at N g args st=some r then some h.choose else none
def Cx.call_iff{C:Cx}{g args st r}:C.call g args st=some r↔∃N,C.at N g args st=some r:=by
 unfold Cx.call
 constructor
 ·intro h
  split at h
  ·rename_i hc
   simp only[Yrs]at h
   exact h▸hc.choose_spec
  ·cases h
 ·rintro⟨N,h⟩
  have hc:∃r N,C.at N g args st=some r:=⟨r,N,h⟩
  rw[dif_pos hc]
  obtain⟨M,hM⟩:=hc.choose_spec
  have h1:=Cx.at_mono (Yur N M) _ _ _ _ h
  have h2:=Cx.at_mono (Yui N M) _ _ _ _ hM
  rw[h1]at h2
  exact congrArg some (Ys0 h2).symm
open Classical in
def Cx.code(C:Cx):Zfu:=fun ro c fr st=>if h:∃r F,Zbh C.call F ro c fr st=some r then some h.choose else none
def Cx.code_iff{C:Cx}{ro c fr st r}:C.code ro c fr st=some r↔∃F,Zbh C.call F ro c fr st=some r:=by
 unfold Cx.code
 constructor
 ·intro h
  split at h
  ·rename_i hc
   simp only[Yrs]at h
   exact h▸hc.choose_spec
  ·cases h
 ·rintro⟨N,h⟩
  have hc:∃r F,Zbh C.call F ro c fr st=some r:=⟨r,N,h⟩
  rw[dif_pos hc]
  obtain⟨M,hM⟩:=hc.choose_spec
  have h1:=Zb3 (fun _ _ _ _ e=>e) N (max N M) (Yur N M) _ _ _ _ _ h
  have h2:=Zb3 (fun _ _ _ _ e=>e) M (max N M) (Yui N M) _ _ _ _ _ hM
  rw[h1]at h2
  exact congrArg some (Ys0 h2).symm
def Yas{α:Type}{a b:Option α}(h:∀r,a=some r↔b=some r):a=b:=by
 cases a with
 |none=>cases b with
  |none=>rfl
  |some r=>exact absurd ((h r).2 rfl) (by simp)
 |some r=>exact((h r).1 rfl).symm
def Zes{a:Za1}{p:Zfu}{q:Nat→Zfu}(hq:∀n m,n≤m→LeC (q n) (q m))(hp:∀ro c fr st r,p ro c fr st=some r→∃n,q n ro c fr st=some r)(ro:Option Nat)(c:Zaw)(fr:Fr)(st:St){o:Ex×Fr×St}(e:Zbb c a p ro fr st=some o):∃n,Zbb c a (q n) ro fr st=some o:=by
 cases c with
 |skip=>exact⟨0,e⟩
 |reg ops=>exact⟨0,e⟩
 |regD ops ms=>exact⟨0,e⟩
 |regS dst ch send zero ops=>exact⟨0,e⟩
 |seq x y=>
  have e:Zn6 x y a p ro fr st=some o:=e
  show ∃n,Zn6 x y a (q n) ro fr st=some o
  unfold Zn6 at e ⊢
  split at e
  ·rename_i h1
   obtain⟨n,hn⟩:=hp _ _ _ _ _ h1
   obtain⟨m,hm⟩:=hp _ _ _ _ _ e
   refine⟨max n m,?_⟩
   rw[hq n _ (Yur n m) _ _ _ _ _ hn]
   exact hq m _ (Yui n m) _ _ _ _ _ hm
  ·rename_i h1
   obtain⟨n,hn⟩:=hp _ _ _ _ _ e
   refine⟨n,?_⟩
   rw[hn]
   rcases o with⟨_|_|_,_,_⟩
   ·exact absurd e (h1 _ _)
   ·rfl
   ·rfl
 |cond x y z=>
  have e:Zfs x y z a p ro fr st=some o:=e
  show ∃n,Zfs x y z a (q n) ro fr st=some o
  unfold Zfs at e ⊢
  split at e
  ·exact hp _ _ _ _ _ e
  ·exact hp _ _ _ _ _ e
  ·cases e
 |block id x=>
  have e:Zff id x a p ro fr st=some o:=e
  show ∃n,Zff id x a (q n) ro fr st=some o
  unfold Zff at e ⊢
  split at e
  ·rename_i h1
   obtain⟨n,hn⟩:=hp _ _ _ _ _ h1
   exact⟨n,by rw[hn];exact e⟩
  ·rename_i h1
   obtain⟨n,hn⟩:=hp _ _ _ _ _ e
   refine⟨n,?_⟩
   rw[hn]
   rcases o with⟨_|_|_,_,_⟩
   ·rfl
   ·exact absurd e (h1 _ _ _)
   ·rfl
 |loop x=>
  have e:Zie x a p ro fr st=some o:=e
  show ∃n,Zie x a (q n) ro fr st=some o
  unfold Zie at e ⊢
  split at e
  ·rename_i h1
   obtain⟨n,hn⟩:=hp _ _ _ _ _ h1
   obtain⟨m,hm⟩:=hp _ _ _ _ _ e
   refine⟨max n m,?_⟩
   rw[hq n _ (Yur n m) _ _ _ _ _ hn]
   exact hq m _ (Yui n m) _ _ _ _ _ hm
  ·rename_i h1
   obtain⟨n,hn⟩:=hp _ _ _ _ _ e
   refine⟨n,?_⟩
   rw[hn]
   rcases o with⟨_|_|_,_,_⟩
   ·exact absurd e (h1 _ _)
   ·rfl
   ·rfl
 |rangef g ps x y=>exact⟨0,e⟩
 |exit id=>exact⟨0,e⟩
 |scope x=>exact hp _ _ _ _ _ e
 |ret=>exact⟨0,e⟩
 |stop=>exact⟨0,e⟩
def Cx.code_eq{C:Cx}(ro:Option Nat)(c:Zaw)(fr:Fr)(st:St):C.code ro c fr st=Zbb c C.call C.code ro fr st:=by
 apply Yas
 intro r
 constructor
 ·intro h
  obtain⟨F,hF⟩:=Cx.code_iff.1 h
  cases F with
  |zero=>cases hF
  |succ F=>exact Zkg (fun _ _ _ _ e=>e) (fun ro c fr st r e=>Cx.code_iff.2 ⟨F,e⟩) ro c fr st hF
 ·intro h
  obtain⟨n,hn⟩:=Zes (q:=Zbh C.call) (Zb3 fun _ _ _ _ e=>e) (fun _ _ _ _ _ e=>Cx.code_iff.1 e) ro c fr st h
  exact Cx.code_iff.2 ⟨n+1,hn⟩
def Zvp{C:Cx}(op:MOp)(r:T V)(st:St){o:V×St}(e:mop op C.call r st=some o):∃N,mop op (C.at N) r st=some o:=by
 cases op<;>try exact⟨0,e⟩
 rename_i f args
 have e:Zem f args C.call r st=some o:=e
 show ∃N,Zem f args (C.at N) r st=some o
 unfold Zem at e ⊢
 split at e
 ·exact Cx.call_iff.1 e
 ·cases e
def Zj0{C:Cx}:∀(ops:List Zbc) (fr:Fr) (st:St) {o:Fr×St},mops C.call ops fr st=some o→∃N,mops (C.at N) ops fr st=some o
 |[],_,_,_,e=>⟨0,e⟩
 |q::ops,fr,st,o,e=>by
  have e:Zic C.call q (mops C.call ops) fr st=some o:=e
  show ∃N,Zic (C.at N) q (mops (C.at N) ops) fr st=some o
  unfold Zic at e ⊢
  split at e
  ·split at e
   ·rename_i v st' h1
    split at e
    ·obtain⟨N,hN⟩:=Zvp _ _ _ h1
     obtain⟨M,hM⟩:=Zj0 ops _ _ e
     refine⟨max N M,?_⟩
     rw[Zly (Cx.at_mono (Yur N M)) _ _ _ hN]
     rename_i h3
     simp only[h3]
     exact Zg5 (Cx.at_mono (Yui N M)) _ _ _ hM
    ·cases e
   ·cases e
  ·split at e
   ·exact Zj0 ops _ _ e
   ·cases e
  ·cases e
def Zky{C:Cx}:∀(ops:List Zbc) (fr:Fr) (st:St) {o:List FP×Fr×St},mopsD C.call ops fr st=some o→∃N,mopsD (C.at N) ops fr st=some o
 |[],_,_,_,e=>⟨0,e⟩
 |q::ops,fr,st,o,e=>by
  have e:Zfd C.call q (mopsD C.call ops) fr st=some o:=e
  show ∃N,Zfd (C.at N) q (mopsD (C.at N) ops) fr st=some o
  unfold Zfd at e ⊢
  split at e
  ·split at e
   ·rename_i v st' h1
    split at e
    ·rename_i h3
     split at e
     ·rename_i h2
      obtain⟨N,hN⟩:=Zvp _ _ _ h1
      obtain⟨M,hM⟩:=Zky ops _ _ h2
      refine⟨max N M,?_⟩
      rw[Zly (Cx.at_mono (Yur N M)) _ _ _ hN]
      simp only[h3]
      rw[Zh0 (Cx.at_mono (Yui N M)) _ _ _ hM]
      exact e
     ·cases e
    ·cases e
   ·cases e
  ·split at e
   ·split at e
    ·rename_i h2
     obtain⟨M,hM⟩:=Zky ops _ _ h2
     exact⟨M,by rw[hM];exact e⟩
    ·cases e
   ·cases e
  ·cases e
def Zot{C:Cx}:∀(F:Nat) (ro:Option Nat) (c:Zaw) (fr:Fr) (st:St) {o:Ex×Fr×St},Zbh C.call F ro c fr st=some o→∃N,Zbh (C.at N) F ro c fr st=some o
 |0,_,_,_,_,_,e=>by cases e
 |F+1,ro,c,fr,st,o,e=>by
  have e:Zbb c C.call (Zbh C.call F) ro fr st=some o:=e
  show ∃N,Zbb c (C.at N) (Zbh (C.at N) F) ro fr st=some o
  have ih:=@Zot C F
  have up:∀{n m:Nat},n≤m→LeC (Zbh (C.at n) F) (Zbh (C.at m) F):=fun h=>Zb3 (Cx.at_mono h) F F (Yru _)
  cases c with
  |reg ops=>
   have e:Znm ops C.call (Zbh C.call F) ro fr st=some o:=e
   show ∃N,Znm ops (C.at N) (Zbh (C.at N) F) ro fr st=some o
   unfold Znm at e ⊢
   split at e
   ·rename_i h1
    obtain⟨N,hN⟩:=Zj0 _ _ _ h1
    exact⟨N,by rw[hN];exact e⟩
   ·cases e
  |regD ops ms=>
   have e:Zhk ops ms C.call (Zbh C.call F) ro fr st=some o:=e
   show ∃N,Zhk ops ms (C.at N) (Zbh (C.at N) F) ro fr st=some o
   unfold Zhk at e ⊢
   split at e
   ·rename_i h1
    obtain⟨N,hN⟩:=Zky _ _ _ h1
    exact⟨N,by rw[hN];exact e⟩
   ·cases e
  |regS dst ch send zero ops=>
   have e:Zhj dst ch send zero ops C.call (Zbh C.call F) ro fr st=some o:=e
   show ∃N,Zhj dst ch send zero ops (C.at N) (Zbh (C.at N) F) ro fr st=some o
   unfold Zhj at e ⊢
   split at e
   ·split at e
    ·split at e
     ·split at e
      ·rename_i h1
       obtain⟨N,hN⟩:=Zj0 _ _ _ h1
       exact⟨N,by rw[hN];exact e⟩
      ·cases e
     ·cases e
    ·cases e
   ·cases e
  |rangef g ps x y=>
   have e:Zet g ps x y C.call (Zbh C.call F) ro fr st=some o:=e
   show ∃N,Zet g ps x y (C.at N) (Zbh (C.at N) F) ro fr st=some o
   unfold Zet at e ⊢
   split at e
   ·cases e
   ·split at e
    ·cases e
    ·rename_i hy
     simp only[hy]
     split at e
     ·cases e
     ·split at e
      ·cases e
      ·rename_i h1
       obtain⟨N,hN⟩:=Cx.call_iff.1 h1
       exact⟨N,by rw[hN];exact e⟩
  |skip=>exact⟨0,e⟩
  |exit id=>exact⟨0,e⟩
  |ret=>exact⟨0,e⟩
  |stop=>cases e
  |scope x=>exact ih _ _ _ _ e
  |cond x y z=>
   have e:Zfs x y z C.call (Zbh C.call F) ro fr st=some o:=e
   show ∃N,Zfs x y z (C.at N) (Zbh (C.at N) F) ro fr st=some o
   unfold Zfs at e ⊢
   split at e
   ·exact ih _ _ _ _ e
   ·exact ih _ _ _ _ e
   ·cases e
  |seq x y=>exact Zes (a:=C.call) (q:=fun n=>Zbh (C.at n) F) (fun _ _ h=>up h) (fun _ _ _ _ _ e=>ih _ _ _ _ e) ro (.seq x y) fr st e
  |block id x=>exact Zes (a:=C.call) (q:=fun n=>Zbh (C.at n) F) (fun _ _ h=>up h) (fun _ _ _ _ _ e=>ih _ _ _ _ e) ro (.block id x) fr st e
  |loop x=>exact Zes (a:=C.call) (q:=fun n=>Zbh (C.at n) F) (fun _ _ h=>up h) (fun _ _ _ _ _ e=>ih _ _ _ _ e) ro (.loop x) fr st e
def Cx.code_need{C:Cx}{ro c fr st r}(h:C.code ro c fr st=some r):∃N,Zbh (C.at N) N ro c fr st=some r:=by
 obtain⟨F,hF⟩:=Cx.code_iff.1 h
 obtain⟨N,hN⟩:=Zot F _ _ _ _ hF
 exact⟨max F N,Zb3 (Cx.at_mono (Yui F N)) _ _ (Yur F N) _ _ _ _ _ hN⟩
def Zkj{tbl:Nat→Option Zej}{p:Zfu}{q:Nat→Zfu}(hq:∀n m,n≤m→LeC (q n) (q m))(hp:∀ro c fr st r,p ro c fr st=some r→∃n,q n ro c fr st=some r){g args st}{o:V×St}(e:Zcq tbl p g args st=some o):∃n,Zcq tbl (q n) g args st=some o:=by
 unfold Zcq at e ⊢
 split at e
 ·split at e
  ·rename_i mf _
   unfold Zgf at e ⊢
   split at e
   ·cases e
   ·rename_i h0
    simp only[h0,if_false]
    cases h1:p none mf.body {r:=Zek .nil 0 _,n:=mf.ntmps,marks:=[]} {st with w:=[]} with
    |none=>rw[h1]at e;cases e
    |some r=>
     rw[h1]at e
     obtain⟨n,hn⟩:=hp _ _ _ _ _ h1
     exact⟨n,by rw[hn];exact e⟩
  ·cases e
 ·unfold Zf6 at e ⊢
  split at e
  ·split at e
   ·cases e
   ·split at e
    ·rename_i h1
     obtain⟨n,hn⟩:=hp _ _ _ _ _ h1
     split at e
     ·split at e
      ·split at e
       ·rename_i h4 h5 _ _ _ _ h2
        obtain⟨m,hm⟩:=hp _ _ _ _ _ h2
        refine⟨max n m,?_⟩
        rw[hq n _ (Yur n m) _ _ _ _ _ hn]
        simp only[h4,h5,if_true]
        rw[hq m _ (Yui n m) _ _ _ _ _ hm]
        exact e
       ·cases e
      ·cases e
     ·cases e
    ·cases e
  ·cases e
 ·cases e
def Cx.call_eq{C:Cx}(g:V)(args:List V)(st:St):C.call g args st=Zee C.x (Zcq C.tbl C.code) g args st:=by
 apply Yas
 intro r
 constructor
 ·intro h
  obtain⟨N,hN⟩:=Cx.call_iff.1 h
  cases N with
  |zero=>
   have e:C.x g args st=some r:=hN
   unfold Zee;rw[e]
  |succ N=>
   refine Zmq (x:=C.x) (Zgm (p:=Zbh (Zgr C.x C.tbl (N+1) N) (N+1)) fun ro c fr st r e=>?_) _ _ _ _ hN
   refine Cx.code_iff.2 ⟨N+1,?_⟩
   refine Zb3 (fun g args st r e=>?_) (N+1) (N+1) (Yru _) _ _ _ _ _ e
   exact Cx.call_iff.2 ⟨N+1,Zge (Yru _) N (N+1) (by omega) _ _ _ _ e⟩
 ·intro h
  unfold Zee at h
  split at h
  ·rename_i r' e
   simp only[Yrs]at h
   subst h
   exact Cx.call_iff.2 ⟨0,e⟩
  ·rename_i hx
   obtain⟨N,hN⟩:=Zkj (q:=fun n=>Zbh (C.at n) n) (fun n m h=>Zb3 (Cx.at_mono h) n m h) (fun _ _ _ _ _ e=>Cx.code_need e) h
   refine Cx.call_iff.2 ⟨N+1,?_⟩
   show Zee C.x (Zcq C.tbl (Zbh (Zgr C.x C.tbl (N+1) N) (N+1))) g args st=some r
   unfold Zee
   rw[hx]
   exact Zgm (Zb3 (Zge (by omega) N N (Yru _)) N (N+1) (by omega)) _ _ _ _ hN
inductive Rs where
 |ex (e:Ex) (fr:Fr) (st:St)
 |val (v:V) (st:St)
 |ops (fr:Fr) (st:St)
 |opsD (fps:List FP) (fr:Fr) (st:St)
inductive Kf where
 |seq (ro:Option Nat) (b:Zaw)
 |block (id:Nat)
 |loop (ro:Option Nat) (c:Zaw)
 |reg
 |put (d:Option Nat) (ops:List Zbc) (fr:Fr)
 |regD (ms:List Nat)
 |putD (op:MOp) (d:Option Nat) (ops:List Zbc) (fr:Fr) (n:Nat) (w:List Nat)
 |cons (fp:FP)
 |fin (rs:List Ylt) (st:St)
def exR:Option (Ex×Fr×St)→Option Rs
 |some (e,fr,st)=>some (.ex e fr st)
 |none=>none
def Zp9:Option (V×St)→Option Rs
 |some (v,st)=>some (.val v st)
 |none=>none
def Ydz:Option (Fr×St)→Option Rs
 |some (fr,st)=>some (.ops fr st)
 |none=>none
def Zmr:Option (List FP×Fr×St)→Option Rs
 |some (fps,fr,st)=>some (.opsD fps fr st)
 |none=>none
def Zgy(C:Cx):Kf→Rs→Option Rs
 |.seq ro b,.ex .normal fr st=>exR (C.code ro b fr st)
 |.seq _ _,.ex e fr st=>some (.ex e fr st)
 |.block id,.ex (.exit id') fr st=>match Nat.beq id' id with
  |true=>some (.ex .normal fr st)
  |false=>some (.ex (.exit id') fr st)
 |.block _,.ex e fr st=>some (.ex e fr st)
 |.loop ro c,.ex .normal fr st=>exR (C.code ro (.loop c) fr st)
 |.loop _ _,.ex e fr st=>some (.ex e fr st)
 |.reg,.ops fr st=>some (.ex .normal fr st)
 |.put d ops fr,.val v st=>match fr.put d v with
  |some fr=>Ydz (mops C.call ops fr st)
  |none=>none
 |.regD ms,.opsD fps fr st=>match apartOk fps ms with
  |true=>some (.ex .normal fr st)
  |false=>none
 |.putD op d ops fr n w,.val v st'=>match fr.put d v with
  |some fr'=>match mopsD C.call ops fr' {st' with w:=Zae n st'.w++w} with
   |some (fps,fr'',st'')=>some (.opsD (Zcr fr.r op (Zae n st'.w) n st'.n::fps) fr'' st'')
   |none=>none
  |none=>none
 |.cons fp,.opsD fps fr st=>some (.opsD (fp::fps) fr st)
 |.fin _ _,.ex (.exit _) _ _=>none
 |.fin rs st0,.ex _ fr st1=>match shut st1 fr.marks with
  |none=>none
  |some st2=>match resV fr.r st2 rs with
   |some vs=>some (.val (Zqr vs) {st2 with w:=Zae st0.n st2.w++st0.w})
   |none=>none
 |_,_=>none
def Zep(C:Cx)(k:Kf):Option Rs→Option Rs
 |some r=>Zgy C k r
 |none=>none
def unw(C:Cx):List Kf→Option Rs→Option Rs
 |[],r=>r
 |k::K,r=>unw C K (Zep C k r)
def Zuw{C:Cx}:∀K,unw C K none=none
 |[]=>rfl
 |_::K=>Zuw K
structure Run (C:Cx) (K:List Kf) (r:Option Rs) (Q:Rs→Prop):Prop where
 ex:∃s,unw C K r=some s∧Q s
def Zav{C:Cx}{K K':List Kf}{r r':Option Rs}{Q:Rs→Prop}(h:unw C K r=unw C K' r'):Run C K r Q↔Run C K' r' Q:=
 ⟨fun ⟨s,e,q⟩=>⟨s,h▸e,q⟩,fun ⟨s,e,q⟩=>⟨s,h.symm▸e,q⟩⟩
def Zhu{C:Cx}{K:List Kf}{Q:Rs→Prop}:Run C K none Q↔False:=
 ⟨fun ⟨_,h,_⟩=>(by rw[Zuw]at h;cases h),fun h=>h.elim⟩
def Yi4{C:Cx}{s:Rs}{Q:Rs→Prop}:Run C [] (some s) Q↔Q s:=
 ⟨fun ⟨_,h,q⟩=>by simp only[unw,Yrs]at h;exact h▸q,fun q=>⟨s,rfl,q⟩⟩
structure Call (C:Cx) (g:V) (args:List V) (st:St) (P:V→St→Prop):Prop where
 ex:∃v st',C.call g args st=some (v,st')∧P v st'
structure Code (C:Cx) (ro:Option Nat) (c:Zaw) (fr:Fr) (st:St) (P:Ex→Fr→St→Prop):Prop where
 ex:∃e fr' st',C.code ro c fr st=some (e,fr',st')∧P e fr' st'
def Yed(P:V→St→Prop):Rs→Prop
 |.val v st=>P v st
 |_=>False
def exQ(P:Ex→Fr→St→Prop):Rs→Prop
 |.ex e fr st=>P e fr st
 |_=>False
def Yec{P:V→St→Prop}{v st}:Yed P (.val v st)↔P v st:=Iff.rfl
def Ynb{P:Ex→Fr→St→Prop}{e fr st}:exQ P (.ex e fr st)↔P e fr st:=Iff.rfl
def Zaf{C:Cx}{g args st P}:Call C g args st P↔Run C [] (Zp9 (C.call g args st)) (Yed P):=by
 constructor
 ·rintro⟨v,st',h,p⟩
  exact⟨.val v st',by rw[h];rfl,p⟩
 ·rintro⟨s,h,q⟩
  cases hc:C.call g args st with
  |none=>rw[hc]at h;cases h
  |some r=>
   rw[hc]at h
   simp only[unw,Zp9,Yrs]at h
   subst h
   exact⟨_,_,hc,q⟩
def Zai{C:Cx}{ro c fr st P}:Code C ro c fr st P↔Run C [] (exR (C.code ro c fr st)) (exQ P):=by
 constructor
 ·rintro⟨e,fr',st',h,p⟩
  exact⟨.ex e fr' st',by rw[h];rfl,p⟩
 ·rintro⟨s,h,q⟩
  cases hc:C.code ro c fr st with
  |none=>rw[hc]at h;cases h
  |some r=>
   rw[hc]at h
   simp only[unw,exR,Yrs]at h
   subst h
   exact⟨_,_,_,hc,q⟩
def Zd7{C:Cx}{g args st P K Q}(h:Call C g args st P)(k:∀v st',P v st'→Run C K (some (.val v st')) Q):Run C K (Zp9 (C.call g args st)) Q:=by
 obtain⟨v,st',e,p⟩:=h.ex
 rw[e]
 exact k v st' p
def Za7{C:Cx}{ro c fr st P K Q}(h:Code C ro c fr st P)(k:∀e fr' st',P e fr' st'→Run C K (some (.ex e fr' st')) Q):Run C K (exR (C.code ro c fr st)) Q:=by
 obtain⟨e,fr',st',h,p⟩:=h.ex
 rw[h]
 exact k e fr' st' p
def Call.mono{C:Cx}{g args st}{P Q:V→St→Prop}(h:Call C g args st P)(k:∀v st',P v st'→Q v st'):Call C g args st Q:=by
 obtain⟨v,st',e,p⟩:=h.ex
 exact⟨v,st',e,k v st' p⟩
def Ymu(I:Nat→Fr→St→Prop)(k:Nat)(P:Ex→Fr→St→Prop):Ex→Fr→St→Prop
 |.normal,fr,st=>∃k',k'<k∧I k' fr st
 |e,fr,st=>P e fr st
def Code.loop{C:Cx}{ro c}{P:Ex→Fr→St→Prop}{I:Nat→Fr→St→Prop}(h:∀k fr st,I k fr st→Code C ro c fr st (Ymu I k P)):∀(k:Nat) (fr:Fr) (st:St),I k fr st→Code C ro (.loop c) fr st P:=by
 intro k
 induction k using Nat.strongRecOn with
 |_ k ih=>
  intro fr st hi
  obtain⟨e,fr',st',h1,p⟩:=(h k fr st hi).ex
  have e1:C.code ro (.loop c) fr st=Zie c C.call C.code ro fr st:=Cx.code_eq ro (.loop c) fr st
  unfold Zie at e1
  rw[h1]at e1
  cases e with
  |normal=>
   obtain⟨k',hk,hi'⟩:=p
   obtain⟨e2,fr2,st2,h2,p2⟩:=(ih k' hk fr' st' hi').ex
   exact⟨e2,fr2,st2,e1.trans h2,p2⟩
  |exit id=>exact⟨_,_,_,e1,p⟩
  |ret=>exact⟨_,_,_,e1,p⟩
def Yex{C:Cx}{ro c}{K:List Kf}{Q:Rs→Prop}{fr:Fr}{st:St}(P:Ex→Fr→St→Prop)(I:Nat→Fr→St→Prop)(k:Nat)(hi:I k fr st)(h:∀k fr st,I k fr st→Code C ro c fr st (Ymu I k P))(q:∀e fr' st',P e fr' st'→Run C K (some (.ex e fr' st')) Q):Run C K (exR (C.code ro (.loop c) fr st)) Q:=
 Za7 (Code.loop h k fr st hi) q
section
variable {C:Cx} {K:List Kf} {Q:Rs→Prop} {ro:Option Nat} {a b c:Zaw} {fr:Fr} {st:St}
def Yeu:Run C K (exR (C.code ro .skip fr st)) Q↔Run C K (some (.ex .normal fr st)) Q:=Zav (by rw[Cx.code_eq];rfl)
def Yi3{ops}:Run C K (exR (C.code ro (.reg ops) fr st)) Q↔Run C (.reg::K) (Ydz (mops C.call ops fr st)) Q:=Zav (by
 rw[Cx.code_eq]
 show unw C K (exR (Znm ops C.call C.code ro fr st))=unw C K (Zep C .reg (Ydz (mops C.call ops fr st)))
 unfold Znm
 rcases mops C.call ops fr st with _|⟨_,_⟩<;>rfl)
def Yew{ops ms}:Run C K (exR (C.code ro (.regD ops ms) fr st)) Q↔Run C (.regD ms::K) (Zmr (mopsD C.call ops fr st)) Q:=Zav (by
 rw[Cx.code_eq]
 show unw C K (exR (Zhk ops ms C.call C.code ro fr st))=unw C K (Zep C (.regD ms) (Zmr (mopsD C.call ops fr st)))
 unfold Zhk
 rcases mopsD C.call ops fr st with _|⟨fps,_,_⟩
 ·rfl
 ·simp only[Zmr,Zep,Zgy]
  cases apartOk fps ms<;>rfl)
def Yi1:Run C K (exR (C.code ro (.seq a b) fr st)) Q↔Run C (.seq ro b::K) (exR (C.code ro a fr st)) Q:=Zav (by
 rw[Cx.code_eq]
 show unw C K (exR (Zn6 a b C.call C.code ro fr st))=unw C K (Zep C (.seq ro b) (exR (C.code ro a fr st)))
 unfold Zn6
 rcases C.code ro a fr st with _|⟨e,_,_⟩
 ·rfl
 ·cases e<;>rfl)
def Ygu(C:Cx)(ro:Option Nat)(a b:Zaw)(fr:Fr)(st:St):Option V→Option Rs
 |some (.bool true)=>exR (C.code ro a fr st)
 |some (.bool false)=>exR (C.code ro b fr st)
 |_=>none
def Ye1{x}:Run C K (exR (C.code ro (.cond x a b) fr st)) Q↔Run C K (Ygu C ro a b fr st (x.ev fr.r)) Q:=Zav (by
 rw[Cx.code_eq]
 show unw C K (exR (Zfs x a b C.call C.code ro fr st))=_
 unfold Zfs Ygu
 rcases x.ev fr.r with _|v
 ·rfl
 ·cases v<;>try rfl
  rename_i b'
  cases b'<;>rfl)
def Zy5:Ygu C ro a b fr st (some (.bool true))=exR (C.code ro a fr st):=rfl
def Zuh:Ygu C ro a b fr st (some (.bool false))=exR (C.code ro b fr st):=rfl
def Zz7{id}:Run C K (exR (C.code ro (.block id a) fr st)) Q↔Run C (.block id::K) (exR (C.code ro a fr st)) Q:=Zav (by
 rw[Cx.code_eq]
 show unw C K (exR (Zff id a C.call C.code ro fr st))=unw C K (Zep C (.block id) (exR (C.code ro a fr st)))
 unfold Zff
 rcases C.code ro a fr st with _|⟨e,_,_⟩
 ·rfl
 ·cases e with
  |exit id'=>simp only[exR,Zep,Zgy];cases Nat.beq id' id<;>rfl
  |_=>rfl)
def Yez{id}:Run C K (exR (C.code ro (.exit id) fr st)) Q↔Run C K (some (.ex (.exit id) fr st)) Q:=Zav (by rw[Cx.code_eq];rfl)
def Zz6:Run C K (exR (C.code ro (.scope a) fr st)) Q↔Run C K (exR (C.code ro a fr st)) Q:=Zav (by rw[Cx.code_eq];rfl)
def Yi2:Run C K (exR (C.code ro .ret fr st)) Q↔Run C K (some (.ex .ret fr st)) Q:=Zav (by rw[Cx.code_eq];rfl)
def Zrh:Run C (.seq ro b::K) (some (.ex .normal fr st)) Q↔Run C K (exR (C.code ro b fr st)) Q:=Zav rfl
def Zx6{i}:Run C (.seq ro b::K) (some (.ex (.exit i) fr st)) Q↔Run C K (some (.ex (.exit i) fr st)) Q:=Zav rfl
def Yb5:Run C (.seq ro b::K) (some (.ex .ret fr st)) Q↔Run C K (some (.ex .ret fr st)) Q:=Zav rfl
def Zn4{i}:Run C (.block i::K) (some (.ex .normal fr st)) Q↔Run C K (some (.ex .normal fr st)) Q:=Zav rfl
def Zt2{i}:Run C (.block i::K) (some (.ex .ret fr st)) Q↔Run C K (some (.ex .ret fr st)) Q:=Zav rfl
def Zrj{i}:Run C (.block i::K) (some (.ex (.exit i) fr st)) Q↔Run C K (some (.ex .normal fr st)) Q:=Zav (by simp[unw,Zep,Zgy,Nat.beq_refl])
def Zpw{i j}(h:Nat.beq j i=false):Run C (.block i::K) (some (.ex (.exit j) fr st)) Q↔Run C K (some (.ex (.exit j) fr st)) Q:=Zav (by simp[unw,Zep,Zgy,h])
def Ypa:Run C (.reg::K) (some (.ops fr st)) Q↔Run C K (some (.ex .normal fr st)) Q:=Zav rfl
def Yjl:Ydz (mops C.call [] fr st)=some (.ops fr st):=rfl
def opR(C:Cx)(K:List Kf)(Q:Rs→Prop)(d:Option Nat)(op:MOp)(ops:List Zbc)(fr:Fr)(st:St):Option Bool→Prop
 |some true=>Run C (.put d ops fr::K) (Zp9 (mop op C.call fr.r st)) Q
 |some false=>Run C (.put d ops fr::K) (some (.val (.tup []) st)) Q
 |none=>False
def Yfc{d op g ops}:Run C K (Ydz (mops C.call (⟨d,op,g⟩::ops) fr st)) Q↔opR C K Q d op ops fr st (wantedV fr.r g):=by
 have e:mops C.call (⟨d,op,g⟩::ops) fr st=Zic C.call ⟨d,op,g⟩ (mops C.call ops) fr st:=rfl
 rw[e]
 unfold Zic
 simp only[]
 rcases wantedV fr.r g with _|b
 ·exact Zhu
 ·cases b
  ·show _↔Run C (.put d ops fr::K) (some (.val (.tup []) st)) Q
   refine Zav ?_
   show _=unw C K (Zgy C (.put d ops fr) (.val (.tup []) st))
   simp only[Zgy]
   rcases fr.put d (.tup [])with _|_<;>rfl
  ·show _↔Run C (.put d ops fr::K) (Zp9 (mop op C.call fr.r st)) Q
   refine Zav ?_
   show _=unw C K (Zep C (.put d ops fr) (Zp9 (mop op C.call fr.r st)))
   rcases mop op C.call fr.r st with _|⟨v,st'⟩
   ·rfl
   ·simp only[Zp9,Zep,Zgy]
    rcases fr.put d v with _|_<;>rfl
def Yfh{d op ops}:opR C K Q d op ops fr st (some true)↔Run C (.put d ops fr::K) (Zp9 (mop op C.call fr.r st)) Q:=Iff.rfl
def Yaw{d op ops}:opR C K Q d op ops fr st (some false)↔Run C (.put d ops fr::K) (some (.val (.tup []) st)) Q:=Iff.rfl
def Zzl{v:V}:Zp9 (some (v,st))=some (.val v st):=rfl
def Ypb{d n m r ops v}(h:d<n):Run C (.put (some d) ops ⟨r,n,m⟩::K) (some (.val v st)) Q↔Run C K (Ydz (mops C.call ops ⟨r.set d v,n,m⟩ st)) Q:=Zav (by simp[unw,Zep,Zgy,Fr.put,h])
def Zx7{ops v}:Run C (.put none ops fr::K) (some (.val v st)) Q↔Run C K (Ydz (mops C.call ops fr st)) Q:=Zav rfl
def Yfd:Zmr (mopsD C.call [] fr st)=some (.opsD [] fr st):=rfl
def Ymj(C:Cx)(K:List Kf)(Q:Rs→Prop)(d:Option Nat)(op:MOp)(ops:List Zbc)(fr:Fr)(h:T O)(n:Nat)(w:List Nat):Option Bool→Prop
 |some true=>Run C (.putD op d ops fr n w::K) (Zp9 (mop op C.call fr.r ⟨h,n,[]⟩)) Q
 |some false=>Run C (.cons ⟨some [],[],n,n⟩::K) (match fr.put d (.tup [])with|some fr'=>Zmr (mopsD C.call ops fr' ⟨h,n,w⟩)|none=>none) Q
 |none=>False
def Yau{d op g ops h n w}:Run C K (Zmr (mopsD C.call (⟨d,op,g⟩::ops) fr ⟨h,n,w⟩)) Q↔Ymj C K Q d op ops fr h n w (wantedV fr.r g):=by
 have e:mopsD C.call (⟨d,op,g⟩::ops) fr ⟨h,n,w⟩=Zfd C.call ⟨d,op,g⟩ (mopsD C.call ops) fr ⟨h,n,w⟩:=rfl
 rw[e]
 unfold Zfd
 simp only[]
 rcases wantedV fr.r g with _|b
 ·exact Zhu
 ·cases b
  ·show _↔Run C (.cons ⟨some [],[],n,n⟩::K) (match fr.put d (.tup [])with|some fr'=>Zmr (mopsD C.call ops fr' ⟨h,n,w⟩)|none=>none) Q
   refine Zav ?_
   show _=unw C K (Zep C (.cons ⟨some [],[],n,n⟩) _)
   rcases fr.put d (.tup [])with _|fr'
   ·rfl
   ·simp only[]
    rcases mopsD C.call ops fr' ⟨h,n,w⟩with _|⟨_,_,_⟩<;>rfl
  ·show _↔Run C (.putD op d ops fr n w::K) (Zp9 (mop op C.call fr.r ⟨h,n,[]⟩)) Q
   refine Zav ?_
   show _=unw C K (Zep C (.putD op d ops fr n w) (Zp9 (mop op C.call fr.r ⟨h,n,[]⟩)))
   rcases mop op C.call fr.r ⟨h,n,[]⟩with _|⟨v,st'⟩
   ·rfl
   ·simp only[Zp9,Zep,Zgy]
    rcases fr.put d v with _|fr'
    ·rfl
    ·simp only[]
     rcases mopsD C.call ops fr' {st' with w:=Zae n st'.w++w} with _|⟨_,_,_⟩<;>rfl
def Yax{d op ops h n w}:Ymj C K Q d op ops fr h n w (some true)↔Run C (.putD op d ops fr n w::K) (Zp9 (mop op C.call fr.r ⟨h,n,[]⟩)) Q:=Iff.rfl
def Zxf{d n m r ops op h N w}(hd:d<n):Ymj C K Q (some d) op ops ⟨r,n,m⟩ h N w (some false)↔Run C (.cons ⟨some [],[],N,N⟩::K) (Zmr (mopsD C.call ops ⟨r.set d (.tup []),n,m⟩ ⟨h,N,w⟩)) Q:=by simp[Ymj,Fr.put,hd]
def Zth{ops op h N w}:Ymj C K Q none op ops fr h N w (some false)↔Run C (.cons ⟨some [],[],N,N⟩::K) (Zmr (mopsD C.call ops fr ⟨h,N,w⟩)) Q:=Iff.rfl
def Ymx{op d n m r ops v N w h' n' w'}(h:d<n):Run C (.putD op (some d) ops ⟨r,n,m⟩ N w::K) (some (.val v ⟨h',n',w'⟩)) Q↔Run C (.cons (Zcr r op (Zae N w') N n')::K) (Zmr (mopsD C.call ops ⟨r.set d v,n,m⟩ ⟨h',n',Zae N w'++w⟩)) Q:=Zav (by
 simp only[unw,Zep,Zgy,Fr.put,h,if_true]
 rcases mopsD C.call ops _ _ with _|⟨_,_,_⟩<;>rfl)
def Zt1{op ops v N w h' n' w'}:Run C (.putD op none ops fr N w::K) (some (.val v ⟨h',n',w'⟩)) Q↔Run C (.cons (Zcr fr.r op (Zae N w') N n')::K) (Zmr (mopsD C.call ops fr ⟨h',n',Zae N w'++w⟩)) Q:=Zav (by
 simp only[unw,Zep,Zgy,Fr.put]
 rcases mopsD C.call ops _ _ with _|⟨_,_,_⟩<;>rfl)
def Ymy{fp fps}:Run C (.cons fp::K) (some (.opsD fps fr st)) Q↔Run C K (some (.opsD (fp::fps) fr st)) Q:=Zav rfl
def Zri{ms fps}(h:apartOk fps ms=true):Run C (.regD ms::K) (some (.opsD fps fr st)) Q↔Run C K (some (.ex .normal fr st)) Q:=Zav (by simp only[unw,Zep,Zgy,h])
def Yey{g first caps args mf}(hx:C.x (.func g first caps) args st=none)(h:C.tbl g=some mf)(hl:(first++args++caps).length≤mf.ntmps):Run C K (Zp9 (C.call (.func g first caps) args st)) Q↔Run C (.fin mf.results st::K) (exR (C.code none mf.body ⟨Zek .nil 0 (first++args++caps),mf.ntmps,[]⟩ ⟨st.h,st.n,[]⟩)) Q:=Zav (by
 rw[Cx.call_eq]
 unfold Zee
 rw[hx]
 simp only[Zcq,h,Zgf,Yuw.2 hl,if_false]
 show _=unw C K (Zep C (.fin mf.results st) _)
 unfold Zt5
 rcases C.code none mf.body _ _ with _|⟨e,fr1,st1⟩
 ·rfl
 ·cases e with
  |exit=>rfl
  |normal=>
   simp only[exR,Zep,Zgy]
   rcases shut st1 fr1.marks with _|st2
   ·rfl
   ·simp only[]
    rcases resV fr1.r st2 mf.results with _|_<;>rfl
  |ret=>
   simp only[exR,Zep,Zgy]
   rcases shut st1 fr1.marks with _|st2
   ·rfl
   ·simp only[]
    rcases resV fr1.r st2 mf.results with _|_<;>rfl)
def Ype(h:T O)(n:Nat)(w:List Nat):Option (List V)→Option Rs
 |some vs=>some (.val (Zqr vs) ⟨h,n,w⟩)
 |none=>none
def Yco{h n w vs}:Ype h n w (some vs)=some (.val (Zqr vs) ⟨h,n,w⟩):=rfl
def Yb6{rs r n h1 n1 w1}:Run C (.fin rs st::K) (some (.ex .ret ⟨r,n,[]⟩ ⟨h1,n1,w1⟩)) Q↔Run C K (Ype h1 n1 (Zae st.n w1++st.w) (resV r ⟨h1,n1,w1⟩ rs)) Q:=Zav (by
 simp only[unw,Zep,Zgy,shut]
 rcases resV r ⟨h1,n1,w1⟩ rs with _|_<;>rfl)
def Yb7{rs r n h1 n1 w1}:Run C (.fin rs st::K) (some (.ex .normal ⟨r,n,[]⟩ ⟨h1,n1,w1⟩)) Q↔Run C K (Ype h1 n1 (Zae st.n w1++st.w) (resV r ⟨h1,n1,w1⟩ rs)) Q:=Zav (by
 simp only[unw,Zep,Zgy,shut]
 rcases resV r ⟨h1,n1,w1⟩ rs with _|_<;>rfl)
end
def Ztw(a):mop (.convStr a)=Zew a:=rfl
def Zq3(a b):mop (.strBytes a b)=Zcj a b:=rfl
def Zq8(a):mop (.bytesStr a)=Zc4 a:=rfl
def Ztt(a b):mop (.mkiface a b)=Zev a b:=rfl
def Ybg:mop .mkmap=Zhx:=rfl
def Zxn(a b):mop (.mkchan a b)=Zeg a b:=rfl
def Zts(a b c d e f):mop (.mkslice a b c d e f)=Zcp a b c d e f:=rfl
def Zq4(a b c):mop (.sliceStr a b c)=Zbn a b c:=rfl
def Ztq(a b c d e):mop (.sliceSl a b c d e)=Za6 a b c d e:=rfl
def Zq5(a b c d e f):mop (.sliceArr a b c d e f)=Zbv a b c d e f:=rfl
def Zxs(a b c d e):mop (.idxArr a b c d e)=Zfi a b c d e:=rfl
def Zxr(a b):mop (.idxStr a b)=Zei a b:=rfl
def Zxp(a b c d e):mop (.lookup a b c d e)=Ze0 a b c d e:=rfl
def Zxo(a b c d):mop (.mapset a b c d)=Zeh a b c d:=rfl
def Zq6(a):mop (.rangeStr a)=Zc3 a:=rfl
def Ztr(a):mop (.nextStr a)=Zdy a:=rfl
def Zxq(a):mop (.lenArr a)=Zg0 a:=rfl
def Yj1(a):mop (.cap a)=Zon a:=rfl
def Ymt(a):mop (.mn a)=Zjv a:=rfl
def Yms(a):mop (.mx a)=Zf9 a:=rfl
def Zxu(a b c d e f):mop (.append a b c d e f)=Zdm a b c d e f:=rfl
def Yfq(a b c):mop (.copy a b c)=Zg1 a b c:=rfl
def Ybk(a b c):mop (.clear a b c)=Zhy a b c:=rfl
def Yjx(a b):mop (.uns a b)=Zju a b:=rfl
def Ybe(a):mop (.sdata a)=Zhw a:=rfl
def Yfn(a b c):mop (.ustr a b c)=Zkx a b c:=rfl
def Yj0(a b):mop (.ext a b)=Zmv a b:=rfl
def Ykw{ng k x y}:eqV ng (.prim k) x y=Zag ng k x y:=by cases x<;>cases y<;>rfl
attribute [simp] Yi4 Yec Ynb Yeu Yi3 Yew Yi1 Ye1 Zy5 Zuh Zz7 Yez Zz6 Yi2 Zrh Zx6 Yb5 Zn4 Zt2 Zrj Ypa Yjl Yfc Yfh Yaw Zzl Ypb Zx7
 Yfd Yau Yax Zxf Zth Ymx Zt1 Ymy Zri Yco Yb6 Yb7
 Ztw Zq3 Zq8 Ztt Ybg Zxn Zts Zq4 Ztq Zq5 Zxs Zxr Zxp Zxo Zq6 Ztr Zxq Yj1 Ymt Yms Zxu Yfq Ybk Yjx Ybe Yfn Yj0 Ykw
structure Keeps (h:T O) (n:Nat) (h':T O) (n':Nat):Prop where
 le:n≤n'
 get:∀i,i<n→h'.get i=h.get i
def Keeps.refl{h:T O}{n:Nat}:Keeps h n h n:=⟨Yru _,fun _ _=>rfl⟩
def Keeps.trans{h h1 h2:T O}{n n1 n2:Nat}(a:Keeps h n h1 n1)(b:Keeps h1 n1 h2 n2):Keeps h n h2 n2:=
 ⟨Ytp a.le b.le,fun i hi=>(b.get i (Yr5 hi a.le)).trans (a.get i hi)⟩
def Keeps.set{h h1:T O}{n n1:Nat}{i:Nat}{o:O}(hi:n≤i)(a:Keeps h n h1 n1):Keeps h n (h1.set i o) n1:=
 ⟨a.le,fun j hj=>by rw[T.get_set,Yrt (by omega)];exact a.get j hj⟩
def Keeps.up{h h1:T O}{n n1 n2:Nat}(a:Keeps h n h1 n1)(hn:n1≤n2):Keeps h n h1 n2:=⟨Ytp a.le hn,a.get⟩
def Ret(P:V→T O→Nat→Prop)(h:T O)(n:Nat)(w:List Nat)(v:V)(st:St):Prop:=st.w=w∧Keeps h n st.h st.n∧P v st.h st.n
abbrev Fn(C:Cx)(f:Nat)(args:List V)(h:T O)(n:Nat)(P:V→T O→Nat→Prop):Prop:=∀w,Call C (.func f [] []) args ⟨h,n,w⟩ (Ret P h n w)
def Zac{C:Cx}{f args h n w P K Q}(hf:Fn C f args h n P)(k:∀v h' n',Keeps h n h' n'→P v h' n'→Run C K (some (.val v ⟨h',n',w⟩)) Q):Run C K (Zp9 (C.call (.func f [] []) args ⟨h,n,w⟩)) Q:=
 Zd7 (hf w) fun v st'=>by
  obtain⟨h',n',w'⟩:=st'
  rintro⟨rfl,hk,hp⟩
  exact k v h' n' hk hp
def Zoo{N:Nat}:∀{w:List Nat},(∀i∈w,N≤i)→Zae N w=[]
 |[],_=>rfl
 |i::w,h=>by
  have:=h i Yst
  simp only[Zae,Yuw.2 this,if_false]
  exact Zoo fun j hj=>h j (Ysj _ hj)
end
end Go.Mx
