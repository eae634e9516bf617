/-Runs without a count of steps-/
import Derived.Test.YthekjfgljafnaaaGreatDoorMxTab
set_option linter.all false
namespace Go.Mx
open Go
def Le(a b:Za4):Prop:=∀g args st r,a g args st=some r→b g args st=some r
def Zml{a b:Za4}(h:Le a b)(op:MOp)(r:T V)(st:St){o:V×St}(e:mop op a r st=some o):mop op b r st=some o:=by
 cases op<;>try exact e
 rename_i f args
 show Zex f args b r st=some o
 have e:Zex f args a r st=some o:=e
 unfold Zex at e ⊢
 split at e
 ·exact h _ _ _ _ e
 ·cases e
def Zhu{a b:Za4}(h:Le a b):∀(ops:List Zbc) (fr:Fr) (st:St) {o:Fr×St},mops a ops fr st=some o→mops b ops fr st=some o
 |[],_,_,_,e=>e
 |q::ops,fr,st,o,e=>by
  have e:Ziu a q (mops a ops) fr st=some o:=e
  show Ziu b q (mops b ops) fr st=some o
  unfold Ziu at e ⊢
  split at e
  ·split at e
   ·rename_i v st' h1
    rw[Zml h _ _ _ h1]
    simp only[]
    split at e
    ·exact Zhu h ops _ _ e
    ·cases e
   ·cases e
  ·split at e
   ·exact Zhu h ops _ _ e
   ·cases e
  ·cases e
def Zij{a b:Za4}(h:Le a b):∀(ops:List Zbc) (fr:Fr) (st:St) {o:List FP×Fr×St},mopsD a ops fr st=some o→mopsD b ops fr st=some o
 |[],_,_,_,e=>e
 |q::ops,fr,st,o,e=>by
  have e:Zfu a q (mopsD a ops) fr st=some o:=e
  show Zfu b q (mopsD b ops) fr st=some o
  unfold Zfu at e ⊢
  split at e
  ·split at e
   ·rename_i v st' h1
    rw[Zml h _ _ _ h1]
    simp only[]
    split at e
    ·split at e
     ·rename_i h2
      rw[Zij h ops _ _ h2]
      exact e
     ·cases e
    ·cases e
   ·cases e
  ·split at e
   ·split at e
    ·rename_i h2
     rw[Zij h ops _ _ h2]
     exact e
    ·cases e
   ·cases e
  ·cases e
def LeC(a b:Zgf):Prop:=∀ro c fr st r,a ro c fr st=some r→b ro c fr st=some r
def Zky{a b:Za4}{p q:Zgf}(h:Le a b)(hc:LeC p q)(ro:Option Nat)(c:Zaw)(fr:Fr)(st:St){o:Ex×Fr×St}(e:Zba c a p ro fr st=some o):Zba c b q ro fr st=some o:=by
 cases c with
 |skip=>exact e
 |reg ops=>
  have e:Zoi ops a p ro fr st=some o:=e
  show Zoi ops b q ro fr st=some o
  unfold Zoi at e ⊢
  split at e
  ·rename_i h1;rw[Zhu h _ _ _ h1];exact e
  ·cases e
 |regD ops ms=>
  have e:Zh5 ops ms a p ro fr st=some o:=e
  show Zh5 ops ms b q ro fr st=some o
  unfold Zh5 at e ⊢
  split at e
  ·rename_i h1;rw[Zij h _ _ _ h1];exact e
  ·cases e
 |regS dst ch send zero ops=>
  have e:Ziw dst ch send zero ops a p ro fr st=some o:=e
  show Ziw dst ch send zero ops b q ro fr st=some o
  unfold Ziw at e ⊢
  split at e
  ·split at e
   ·split at e
    ·split at e
     ·rename_i h1;rw[Zhu h _ _ _ h1];exact e
     ·cases e
    ·cases e
   ·cases e
  ·cases e
 |seq x y=>
  have e:Zo6 x y a p ro fr st=some o:=e
  show Zo6 x y b q ro fr st=some o
  unfold Zo6 at e ⊢
  split at e
  ·rename_i h1;rw[hc _ _ _ _ _ h1];exact hc _ _ _ _ _ e
  ·rename_i h1
   have:=hc _ _ _ _ _ e
   rw[this]
   rcases o with⟨_|_|_,_,_⟩
   ·exact absurd e (h1 _ _)
   ·rfl
   ·rfl
 |cond x y z=>
  have e:Zgd x y z a p ro fr st=some o:=e
  show Zgd x y z b q ro fr st=some o
  unfold Zgd at e ⊢
  split at e
  ·exact hc _ _ _ _ _ e
  ·exact hc _ _ _ _ _ e
  ·cases e
 |block id x=>
  have e:Zfz id x a p ro fr st=some o:=e
  show Zfz id x b q ro fr st=some o
  unfold Zfz at e ⊢
  split at e
  ·rename_i h1;rw[hc _ _ _ _ _ h1];exact e
  ·rename_i h1
   have:=hc _ _ _ _ _ e
   rw[this]
   rcases o with⟨_|_|_,_,_⟩
   ·rfl
   ·exact absurd e (h1 _ _ _)
   ·rfl
 |loop x=>
  have e:Zix x a p ro fr st=some o:=e
  show Zix x b q ro fr st=some o
  unfold Zix at e ⊢
  split at e
  ·rename_i h1;rw[hc _ _ _ _ _ h1];exact hc _ _ _ _ _ e
  ·rename_i h1
   have:=hc _ _ _ _ _ e
   rw[this]
   rcases o with⟨_|_|_,_,_⟩
   ·exact absurd e (h1 _ _)
   ·rfl
   ·rfl
 |rangef g ps x y=>
  have e:Ze5 g ps x y a p ro fr st=some o:=e
  show Ze5 g ps x y b q ro fr st=some o
  unfold Ze5 at e ⊢
  split at e
  ·cases e
  ·split at e
   ·cases e
   ·rename_i hy
    simp only[hy]
    split at e
    ·cases e
    ·split at e
     ·cases e
     ·rename_i h1;rw[h _ _ _ _ h1];exact e
 |exit id=>exact e
 |scope x=>exact hc _ _ _ _ _ e
 |ret=>exact e
 |stop=>exact e
def Zb8{a b:Za4}(h:Le a b):∀(F F':Nat),F≤F'→LeC (Zbh a F) (Zbh b F')
 |0,_,_=>fun _ _ _ _ _ e=>by cases e
 |F+1,0,hF=>by omega
 |F+1,F'+1,hF=>fun ro c fr st _ e=>Zky h (Zb8 h F F' (by omega)) ro c fr st e
def Zs1{p q:Zgf}(h:LeC p q){mf:Zev}{args:List V}{st:St}{o:V×St}(e:Zg3 mf p args st=some o):Zg3 mf q args st=some o:=by
 unfold Zg3 at e ⊢
 split at e
 ·cases e
 ·rename_i h0
  rw[Yv4 h0]
  cases h1:p none mf.body {r:=Zew .nil 0 args,n:=mf.ntmps,marks:=[]} {st with w:=[]} with
  |none=>rw[h1]at e;cases e
  |some r=>rw[h1]at e;rw[h _ _ _ _ _ h1];exact e
def Zqp{p q:Zgf}(h:LeC p q){l:Nat}{args:List V}{st:St}{o:V×St}(e:Zgt p l args st=some o):Zgt q l args st=some o:=by
 unfold Zgt at e ⊢
 split at e
 ·split at e
  ·cases e
  ·split at e
   ·rename_i h1
    rw[h _ _ _ _ _ h1]
    simp only[]
    split at e
    ·split at e
     ·rename_i hr
      rw[Yv6 hr]
      split at e
      ·rename_i h2
       rw[h _ _ _ _ _ h2]
       exact e
      ·cases e
     ·cases e
    ·cases e
   ·cases e
 ·cases e
def Zha{tbl:Nat→Option Zev}{p q:Zgf}(h:LeC p q):Le (Zcz tbl p) (Zcz tbl q):=by
 intro g args st o e
 unfold Zcz at e ⊢
 split at e
 ·split at e
  ·exact Zs1 h e
  ·cases e
 ·exact Zqp h e
 ·cases e
def Znl{x a b:Za4}(h:Le a b):Le (Zer x a) (Zer x b):=by
 intro g args st o e
 unfold Zer at e ⊢
 split at e
 ·exact e
 ·exact h _ _ _ _ e
def Zg0{x:Za4}{tbl:Nat→Option Zev}{F F':Nat}(hF:F≤F'):∀(d d':Nat),d≤d'→Le (Zhe x tbl F d) (Zhe x tbl F' d')
 |0,0,_=>fun _ _ _ _ e=>e
 |0,d'+1,_=>fun g args st o e=>by
  have e:x g args st=some o:=e
  show Zer x _ g args st=some o
  unfold Zer;rw[e]
 |d+1,0,h=>by omega
 |d+1,d'+1,h=>Znl (Zha (Zb8 (Zg0 hF d d' (by omega)) F F' hF))
structure Cx where
 x:Za4
 tbl:Nat→Option Zev
def Cx.at(C:Cx)(N:Nat):Za4:=Zhe C.x C.tbl N N
def Cx.at_mono{C:Cx}{N M:Nat}(h:N≤M):Le (C.at N) (C.at M):=Zg0 h N M h
open Classical in
noncomputable def Cx.call(C:Cx):Za4:=fun g args st=>if h:∃r N,C.at N g args st=some r then some h.choose else none
def Cx.call_iff{C:Cx}{g args st r}:C.call g args st=some r↔∃N,C.at N g args st=some r:=by
 unfold Cx.call
 constructor
 ·intro h
  split at h
  ·rename_i hc
   simp only[Yv3]at h
   exact h▸hc.choose_spec
  ·cases h
 ·rintro⟨N,h⟩
  have hc:∃r N,C.at N g args st=some r:=⟨r,N,h⟩
  rw[dif_pos hc]
  obtain⟨M,hM⟩:=hc.choose_spec
  have h1:=Cx.at_mono (Yy7 N M) _ _ _ _ h
  have h2:=Cx.at_mono (Yy3 N M) _ _ _ _ hM
  rw[h1]at h2
  exact congrArg some (Yxj h2).symm
open Classical in
noncomputable def Cx.code(C:Cx):Zgf:=fun ro c fr st=>if h:∃r F,Zbh C.call F ro c fr st=some r then some h.choose else none
def Cx.code_iff{C:Cx}{ro c fr st r}:C.code ro c fr st=some r↔∃F,Zbh C.call F ro c fr st=some r:=by
 unfold Cx.code
 constructor
 ·intro h
  split at h
  ·rename_i hc
   simp only[Yv3]at h
   exact h▸hc.choose_spec
  ·cases h
 ·rintro⟨N,h⟩
  have hc:∃r F,Zbh C.call F ro c fr st=some r:=⟨r,N,h⟩
  rw[dif_pos hc]
  obtain⟨M,hM⟩:=hc.choose_spec
  have h1:=Zb8 (fun _ _ _ _ e=>e) N (max N M) (Yy7 N M) _ _ _ _ _ h
  have h2:=Zb8 (fun _ _ _ _ e=>e) M (max N M) (Yy3 N M) _ _ _ _ _ hM
  rw[h1]at h2
  exact congrArg some (Yxj h2).symm
def Ycl{α:Type}{a b:Option α}(h:∀r,a=some r↔b=some r):a=b:=by
 cases a with
 |none=>cases b with
  |none=>rfl
  |some r=>exact absurd ((h r).2 rfl) (by simp)
 |some r=>exact((h r).1 rfl).symm
def Ze4{a:Za4}{p:Zgf}{q:Nat→Zgf}(hq:∀n m,n≤m→LeC (q n) (q m))(hp:∀ro c fr st r,p ro c fr st=some r→∃n,q n ro c fr st=some r)(ro:Option Nat)(c:Zaw)(fr:Fr)(st:St){o:Ex×Fr×St}(e:Zba c a p ro fr st=some o):∃n,Zba c a (q n) ro fr st=some o:=by
 cases c with
 |skip=>exact⟨0,e⟩
 |reg ops=>exact⟨0,e⟩
 |regD ops ms=>exact⟨0,e⟩
 |regS dst ch send zero ops=>exact⟨0,e⟩
 |seq x y=>
  have e:Zo6 x y a p ro fr st=some o:=e
  show ∃n,Zo6 x y a (q n) ro fr st=some o
  unfold Zo6 at e ⊢
  split at e
  ·rename_i h1
   obtain⟨n,hn⟩:=hp _ _ _ _ _ h1
   obtain⟨m,hm⟩:=hp _ _ _ _ _ e
   refine⟨max n m,?_⟩
   rw[hq n _ (Yy7 n m) _ _ _ _ _ hn]
   exact hq m _ (Yy3 n m) _ _ _ _ _ hm
  ·rename_i h1
   obtain⟨n,hn⟩:=hp _ _ _ _ _ e
   refine⟨n,?_⟩
   rw[hn]
   rcases o with⟨_|_|_,_,_⟩
   ·exact absurd e (h1 _ _)
   ·rfl
   ·rfl
 |cond x y z=>
  have e:Zgd x y z a p ro fr st=some o:=e
  show ∃n,Zgd x y z a (q n) ro fr st=some o
  unfold Zgd at e ⊢
  split at e
  ·exact hp _ _ _ _ _ e
  ·exact hp _ _ _ _ _ e
  ·cases e
 |block id x=>
  have e:Zfz id x a p ro fr st=some o:=e
  show ∃n,Zfz id x a (q n) ro fr st=some o
  unfold Zfz at e ⊢
  split at e
  ·rename_i h1
   obtain⟨n,hn⟩:=hp _ _ _ _ _ h1
   exact⟨n,by rw[hn];exact e⟩
  ·rename_i h1
   obtain⟨n,hn⟩:=hp _ _ _ _ _ e
   refine⟨n,?_⟩
   rw[hn]
   rcases o with⟨_|_|_,_,_⟩
   ·rfl
   ·exact absurd e (h1 _ _ _)
   ·rfl
 |loop x=>
  have e:Zix x a p ro fr st=some o:=e
  show ∃n,Zix x a (q n) ro fr st=some o
  unfold Zix at e ⊢
  split at e
  ·rename_i h1
   obtain⟨n,hn⟩:=hp _ _ _ _ _ h1
   obtain⟨m,hm⟩:=hp _ _ _ _ _ e
   refine⟨max n m,?_⟩
   rw[hq n _ (Yy7 n m) _ _ _ _ _ hn]
   exact hq m _ (Yy3 n m) _ _ _ _ _ hm
  ·rename_i h1
   obtain⟨n,hn⟩:=hp _ _ _ _ _ e
   refine⟨n,?_⟩
   rw[hn]
   rcases o with⟨_|_|_,_,_⟩
   ·exact absurd e (h1 _ _)
   ·rfl
   ·rfl
 |rangef g ps x y=>exact⟨0,e⟩
 |exit id=>exact⟨0,e⟩
 |scope x=>exact hp _ _ _ _ _ e
 |ret=>exact⟨0,e⟩
 |stop=>exact⟨0,e⟩
def Cx.code_eq{C:Cx}(ro:Option Nat)(c:Zaw)(fr:Fr)(st:St):C.code ro c fr st=Zba c C.call C.code ro fr st:=by
 apply Ycl
 intro r
 constructor
 ·intro h
  obtain⟨F,hF⟩:=Cx.code_iff.1 h
  cases F with
  |zero=>cases hF
  |succ F=>exact Zky (fun _ _ _ _ e=>e) (fun ro c fr st r e=>Cx.code_iff.2 ⟨F,e⟩) ro c fr st hF
 ·intro h
  obtain⟨n,hn⟩:=Ze4 (q:=Zbh C.call) (Zb8 fun _ _ _ _ e=>e) (fun _ _ _ _ _ e=>Cx.code_iff.1 e) ro c fr st h
  exact Cx.code_iff.2 ⟨n+1,hn⟩
def Zw1{C:Cx}(op:MOp)(r:T V)(st:St){o:V×St}(e:mop op C.call r st=some o):∃N,mop op (C.at N) r st=some o:=by
 cases op<;>try exact⟨0,e⟩
 rename_i f args
 have e:Zex f args C.call r st=some o:=e
 show ∃N,Zex f args (C.at N) r st=some o
 unfold Zex at e ⊢
 split at e
 ·exact Cx.call_iff.1 e
 ·cases e
def Zkf{C:Cx}:∀(ops:List Zbc) (fr:Fr) (st:St) {o:Fr×St},mops C.call ops fr st=some o→∃N,mops (C.at N) ops fr st=some o
 |[],_,_,_,e=>⟨0,e⟩
 |q::ops,fr,st,o,e=>by
  have e:Ziu C.call q (mops C.call ops) fr st=some o:=e
  show ∃N,Ziu (C.at N) q (mops (C.at N) ops) fr st=some o
  unfold Ziu at e ⊢
  split at e
  ·split at e
   ·rename_i v st' h1
    split at e
    ·obtain⟨N,hN⟩:=Zw1 _ _ _ h1
     obtain⟨M,hM⟩:=Zkf ops _ _ e
     refine⟨max N M,?_⟩
     rw[Zml (Cx.at_mono (Yy7 N M)) _ _ _ hN]
     rename_i h3
     simp only[h3]
     exact Zhu (Cx.at_mono (Yy3 N M)) _ _ _ hM
    ·cases e
   ·cases e
  ·split at e
   ·exact Zkf ops _ _ e
   ·cases e
  ·cases e
def Zli{C:Cx}:∀(ops:List Zbc) (fr:Fr) (st:St) {o:List FP×Fr×St},mopsD C.call ops fr st=some o→∃N,mopsD (C.at N) ops fr st=some o
 |[],_,_,_,e=>⟨0,e⟩
 |q::ops,fr,st,o,e=>by
  have e:Zfu C.call q (mopsD C.call ops) fr st=some o:=e
  show ∃N,Zfu (C.at N) q (mopsD (C.at N) ops) fr st=some o
  unfold Zfu at e ⊢
  split at e
  ·split at e
   ·rename_i v st' h1
    split at e
    ·rename_i h3
     split at e
     ·rename_i h2
      obtain⟨N,hN⟩:=Zw1 _ _ _ h1
      obtain⟨M,hM⟩:=Zli ops _ _ h2
      refine⟨max N M,?_⟩
      rw[Zml (Cx.at_mono (Yy7 N M)) _ _ _ hN]
      simp only[h3]
      rw[Zij (Cx.at_mono (Yy3 N M)) _ _ _ hM]
      exact e
     ·cases e
    ·cases e
   ·cases e
  ·split at e
   ·split at e
    ·rename_i h2
     obtain⟨M,hM⟩:=Zli ops _ _ h2
     exact⟨M,by rw[hM];exact e⟩
    ·cases e
   ·cases e
  ·cases e
def Zps{C:Cx}:∀(F:Nat) (ro:Option Nat) (c:Zaw) (fr:Fr) (st:St) {o:Ex×Fr×St},Zbh C.call F ro c fr st=some o→∃N,Zbh (C.at N) F ro c fr st=some o
 |0,_,_,_,_,_,e=>by cases e
 |F+1,ro,c,fr,st,o,e=>by
  have e:Zba c C.call (Zbh C.call F) ro fr st=some o:=e
  show ∃N,Zba c (C.at N) (Zbh (C.at N) F) ro fr st=some o
  have ih:=@Zps C F
  have up:∀{n m:Nat},n≤m→LeC (Zbh (C.at n) F) (Zbh (C.at m) F):=fun h=>Zb8 (Cx.at_mono h) F F (Yv5 _)
  cases c with
  |reg ops=>
   have e:Zoi ops C.call (Zbh C.call F) ro fr st=some o:=e
   show ∃N,Zoi ops (C.at N) (Zbh (C.at N) F) ro fr st=some o
   unfold Zoi at e ⊢
   split at e
   ·rename_i h1
    obtain⟨N,hN⟩:=Zkf _ _ _ h1
    exact⟨N,by rw[hN];exact e⟩
   ·cases e
  |regD ops ms=>
   have e:Zh5 ops ms C.call (Zbh C.call F) ro fr st=some o:=e
   show ∃N,Zh5 ops ms (C.at N) (Zbh (C.at N) F) ro fr st=some o
   unfold Zh5 at e ⊢
   split at e
   ·rename_i h1
    obtain⟨N,hN⟩:=Zli _ _ _ h1
    exact⟨N,by rw[hN];exact e⟩
   ·cases e
  |regS dst ch send zero ops=>
   have e:Ziw dst ch send zero ops C.call (Zbh C.call F) ro fr st=some o:=e
   show ∃N,Ziw dst ch send zero ops (C.at N) (Zbh (C.at N) F) ro fr st=some o
   unfold Ziw at e ⊢
   split at e
   ·split at e
    ·split at e
     ·split at e
      ·rename_i h1
       obtain⟨N,hN⟩:=Zkf _ _ _ h1
       exact⟨N,by rw[hN];exact e⟩
      ·cases e
     ·cases e
    ·cases e
   ·cases e
  |rangef g ps x y=>
   have e:Ze5 g ps x y C.call (Zbh C.call F) ro fr st=some o:=e
   show ∃N,Ze5 g ps x y (C.at N) (Zbh (C.at N) F) ro fr st=some o
   unfold Ze5 at e ⊢
   split at e
   ·cases e
   ·split at e
    ·cases e
    ·rename_i hy
     simp only[hy]
     split at e
     ·cases e
     ·split at e
      ·cases e
      ·rename_i h1
       obtain⟨N,hN⟩:=Cx.call_iff.1 h1
       exact⟨N,by rw[hN];exact e⟩
  |skip=>exact⟨0,e⟩
  |exit id=>exact⟨0,e⟩
  |ret=>exact⟨0,e⟩
  |stop=>cases e
  |scope x=>exact ih _ _ _ _ e
  |cond x y z=>
   have e:Zgd x y z C.call (Zbh C.call F) ro fr st=some o:=e
   show ∃N,Zgd x y z (C.at N) (Zbh (C.at N) F) ro fr st=some o
   unfold Zgd at e ⊢
   split at e
   ·exact ih _ _ _ _ e
   ·exact ih _ _ _ _ e
   ·cases e
  |seq x y=>exact Ze4 (a:=C.call) (q:=fun n=>Zbh (C.at n) F) (fun _ _ h=>up h) (fun _ _ _ _ _ e=>ih _ _ _ _ e) ro (.seq x y) fr st e
  |block id x=>exact Ze4 (a:=C.call) (q:=fun n=>Zbh (C.at n) F) (fun _ _ h=>up h) (fun _ _ _ _ _ e=>ih _ _ _ _ e) ro (.block id x) fr st e
  |loop x=>exact Ze4 (a:=C.call) (q:=fun n=>Zbh (C.at n) F) (fun _ _ h=>up h) (fun _ _ _ _ _ e=>ih _ _ _ _ e) ro (.loop x) fr st e
def Cx.code_need{C:Cx}{ro c fr st r}(h:C.code ro c fr st=some r):∃N,Zbh (C.at N) N ro c fr st=some r:=by
 obtain⟨F,hF⟩:=Cx.code_iff.1 h
 obtain⟨N,hN⟩:=Zps F _ _ _ _ hF
 exact⟨max F N,Zb8 (Cx.at_mono (Yy3 F N)) _ _ (Yy7 F N) _ _ _ _ _ hN⟩
def Zk1{tbl:Nat→Option Zev}{p:Zgf}{q:Nat→Zgf}(hq:∀n m,n≤m→LeC (q n) (q m))(hp:∀ro c fr st r,p ro c fr st=some r→∃n,q n ro c fr st=some r){g args st}{o:V×St}(e:Zcz tbl p g args st=some o):∃n,Zcz tbl (q n) g args st=some o:=by
 unfold Zcz at e ⊢
 split at e
 ·split at e
  ·rename_i mf _
   unfold Zg3 at e ⊢
   split at e
   ·cases e
   ·rename_i h0
    simp only[h0,if_false]
    cases h1:p none mf.body {r:=Zew .nil 0 _,n:=mf.ntmps,marks:=[]} {st with w:=[]} with
    |none=>rw[h1]at e;cases e
    |some r=>
     rw[h1]at e
     obtain⟨n,hn⟩:=hp _ _ _ _ _ h1
     exact⟨n,by rw[hn];exact e⟩
  ·cases e
 ·unfold Zgt at e ⊢
  split at e
  ·split at e
   ·cases e
   ·split at e
    ·rename_i h1
     obtain⟨n,hn⟩:=hp _ _ _ _ _ h1
     split at e
     ·split at e
      ·split at e
       ·rename_i h4 h5 _ _ _ _ h2
        obtain⟨m,hm⟩:=hp _ _ _ _ _ h2
        refine⟨max n m,?_⟩
        rw[hq n _ (Yy7 n m) _ _ _ _ _ hn]
        simp only[h4,h5,if_true]
        rw[hq m _ (Yy3 n m) _ _ _ _ _ hm]
        exact e
       ·cases e
      ·cases e
     ·cases e
    ·cases e
  ·cases e
 ·cases e
def Cx.call_eq{C:Cx}(g:V)(args:List V)(st:St):C.call g args st=Zer C.x (Zcz C.tbl C.code) g args st:=by
 apply Ycl
 intro r
 constructor
 ·intro h
  obtain⟨N,hN⟩:=Cx.call_iff.1 h
  cases N with
  |zero=>
   have e:C.x g args st=some r:=hN
   unfold Zer;rw[e]
  |succ N=>
   refine Znl (x:=C.x) (Zha (p:=Zbh (Zhe C.x C.tbl (N+1) N) (N+1)) fun ro c fr st r e=>?_) _ _ _ _ hN
   refine Cx.code_iff.2 ⟨N+1,?_⟩
   refine Zb8 (fun g args st r e=>?_) (N+1) (N+1) (Yv5 _) _ _ _ _ _ e
   exact Cx.call_iff.2 ⟨N+1,Zg0 (Yv5 _) N (N+1) (by omega) _ _ _ _ e⟩
 ·intro h
  unfold Zer at h
  split at h
  ·rename_i r' e
   simp only[Yv3]at h
   subst h
   exact Cx.call_iff.2 ⟨0,e⟩
  ·rename_i hx
   obtain⟨N,hN⟩:=Zk1 (q:=fun n=>Zbh (C.at n) n) (fun n m h=>Zb8 (Cx.at_mono h) n m h) (fun _ _ _ _ _ e=>Cx.code_need e) h
   refine Cx.call_iff.2 ⟨N+1,?_⟩
   show Zer C.x (Zcz C.tbl (Zbh (Zhe C.x C.tbl (N+1) N) (N+1))) g args st=some r
   unfold Zer
   rw[hx]
   exact Zha (Zb8 (Zg0 (by omega) N N (Yv5 _)) N (N+1) (by omega)) _ _ _ _ hN
inductive Rs where
 |ex (e:Ex) (fr:Fr) (st:St)
 |val (v:V) (st:St)
 |ops (fr:Fr) (st:St)
 |opsD (fps:List FP) (fr:Fr) (st:St)
inductive Kf where
 |seq (ro:Option Nat) (b:Zaw)
 |block (id:Nat)
 |loop (ro:Option Nat) (c:Zaw)
 |reg
 |put (d:Option Nat) (ops:List Zbc) (fr:Fr)
 |regD (ms:List Nat)
 |putD (op:MOp) (d:Option Nat) (ops:List Zbc) (fr:Fr) (n:Nat) (w:List Nat)
 |cons (fp:FP)
 |fin (rs:List Ypn) (st:St)
def exR:Option (Ex×Fr×St)→Option Rs
 |some (e,fr,st)=>some (.ex e fr st)
 |none=>none
def Zrj:Option (V×St)→Option Rs
 |some (v,st)=>some (.val v st)
 |none=>none
def Yfy:Option (Fr×St)→Option Rs
 |some (fr,st)=>some (.ops fr st)
 |none=>none
def Znm:Option (List FP×Fr×St)→Option Rs
 |some (fps,fr,st)=>some (.opsD fps fr st)
 |none=>none
noncomputable def Zhl(C:Cx):Kf→Rs→Option Rs
 |.seq ro b,.ex .normal fr st=>exR (C.code ro b fr st)
 |.seq _ _,.ex e fr st=>some (.ex e fr st)
 |.block id,.ex (.exit id') fr st=>match Nat.beq id' id with
  |true=>some (.ex .normal fr st)
  |false=>some (.ex (.exit id') fr st)
 |.block _,.ex e fr st=>some (.ex e fr st)
 |.loop ro c,.ex .normal fr st=>exR (C.code ro (.loop c) fr st)
 |.loop _ _,.ex e fr st=>some (.ex e fr st)
 |.reg,.ops fr st=>some (.ex .normal fr st)
 |.put d ops fr,.val v st=>match fr.put d v with
  |some fr=>Yfy (mops C.call ops fr st)
  |none=>none
 |.regD ms,.opsD fps fr st=>match apartOk fps ms with
  |true=>some (.ex .normal fr st)
  |false=>none
 |.putD op d ops fr n w,.val v st'=>match fr.put d v with
  |some fr'=>match mopsD C.call ops fr' {st' with w:=Zaa n st'.w++w} with
   |some (fps,fr'',st'')=>some (.opsD (Zc1 fr.r op (Zaa n st'.w) n st'.n::fps) fr'' st'')
   |none=>none
  |none=>none
 |.cons fp,.opsD fps fr st=>some (.opsD (fp::fps) fr st)
 |.fin _ _,.ex (.exit _) _ _=>none
 |.fin rs st0,.ex _ fr st1=>match shut st1 fr.marks with
  |none=>none
  |some st2=>match resV fr.r st2 rs with
   |some vs=>some (.val (Zr2 vs) {st2 with w:=Zaa st0.n st2.w++st0.w})
   |none=>none
 |_,_=>none
noncomputable def Ze0(C:Cx)(k:Kf):Option Rs→Option Rs
 |some r=>Zhl C k r
 |none=>none
noncomputable def unw(C:Cx):List Kf→Option Rs→Option Rs
 |[],r=>r
 |k::K,r=>unw C K (Ze0 C k r)
def Zv6{C:Cx}:∀K,unw C K none=none
 |[]=>rfl
 |_::K=>Zv6 K
structure Run (C:Cx) (K:List Kf) (r:Option Rs) (Q:Rs→Prop):Prop where
 ex:∃s,unw C K r=some s∧Q s
def Zay{C:Cx}{K K':List Kf}{r r':Option Rs}{Q:Rs→Prop}(h:unw C K r=unw C K' r'):Run C K r Q↔Run C K' r' Q:=
 ⟨fun ⟨s,e,q⟩=>⟨s,h▸e,q⟩,fun ⟨s,e,q⟩=>⟨s,h.symm▸e,q⟩⟩
def Zic{C:Cx}{K:List Kf}{Q:Rs→Prop}:Run C K none Q↔False:=
 ⟨fun ⟨_,h,_⟩=>(by rw[Zv6]at h;cases h),fun h=>h.elim⟩
def Yl2{C:Cx}{s:Rs}{Q:Rs→Prop}:Run C [] (some s) Q↔Q s:=
 ⟨fun ⟨_,h,q⟩=>by simp only[unw,Yv3]at h;exact h▸q,fun q=>⟨s,rfl,q⟩⟩
structure Call (C:Cx) (g:V) (args:List V) (st:St) (P:V→St→Prop):Prop where
 ex:∃v st',C.call g args st=some (v,st')∧P v st'
structure Code (C:Cx) (ro:Option Nat) (c:Zaw) (fr:Fr) (st:St) (P:Ex→Fr→St→Prop):Prop where
 ex:∃e fr' st',C.code ro c fr st=some (e,fr',st')∧P e fr' st'
def Yf7(P:V→St→Prop):Rs→Prop
 |.val v st=>P v st
 |_=>False
def exQ(P:Ex→Fr→St→Prop):Rs→Prop
 |.ex e fr st=>P e fr st
 |_=>False
def Yf6{P:V→St→Prop}{v st}:Yf7 P (.val v st)↔P v st:=Iff.rfl
def Yri{P:Ex→Fr→St→Prop}{e fr st}:exQ P (.ex e fr st)↔P e fr st:=Iff.rfl
def Zab{C:Cx}{g args st P}:Call C g args st P↔Run C [] (Zrj (C.call g args st)) (Yf7 P):=by
 constructor
 ·rintro⟨v,st',h,p⟩
  exact⟨.val v st',by rw[h];rfl,p⟩
 ·rintro⟨s,h,q⟩
  cases hc:C.call g args st with
  |none=>rw[hc]at h;cases h
  |some r=>
   rw[hc]at h
   simp only[unw,Zrj,Yv3]at h
   subst h
   exact⟨_,_,hc,q⟩
def Zah{C:Cx}{ro c fr st P}:Code C ro c fr st P↔Run C [] (exR (C.code ro c fr st)) (exQ P):=by
 constructor
 ·rintro⟨e,fr',st',h,p⟩
  exact⟨.ex e fr' st',by rw[h];rfl,p⟩
 ·rintro⟨s,h,q⟩
  cases hc:C.code ro c fr st with
  |none=>rw[hc]at h;cases h
  |some r=>
   rw[hc]at h
   simp only[unw,exR,Yv3]at h
   subst h
   exact⟨_,_,_,hc,q⟩
def Zek{C:Cx}{g args st P K Q}(h:Call C g args st P)(k:∀v st',P v st'→Run C K (some (.val v st')) Q):Run C K (Zrj (C.call g args st)) Q:=by
 obtain⟨v,st',e,p⟩:=h.ex
 rw[e]
 exact k v st' p
def Zbd{C:Cx}{ro c fr st P K Q}(h:Code C ro c fr st P)(k:∀e fr' st',P e fr' st'→Run C K (some (.ex e fr' st')) Q):Run C K (exR (C.code ro c fr st)) Q:=by
 obtain⟨e,fr',st',h,p⟩:=h.ex
 rw[h]
 exact k e fr' st' p
def Call.mono{C:Cx}{g args st}{P Q:V→St→Prop}(h:Call C g args st P)(k:∀v st',P v st'→Q v st'):Call C g args st Q:=by
 obtain⟨v,st',e,p⟩:=h.ex
 exact⟨v,st',e,k v st' p⟩
def Yqz(I:Nat→Fr→St→Prop)(k:Nat)(P:Ex→Fr→St→Prop):Ex→Fr→St→Prop
 |.normal,fr,st=>∃k',k'<k∧I k' fr st
 |e,fr,st=>P e fr st
def Code.loop{C:Cx}{ro c}{P:Ex→Fr→St→Prop}{I:Nat→Fr→St→Prop}(h:∀k fr st,I k fr st→Code C ro c fr st (Yqz I k P)):∀(k:Nat) (fr:Fr) (st:St),I k fr st→Code C ro (.loop c) fr st P:=by
 intro k
 induction k using Nat.strongRecOn with
 |_ k ih=>
  intro fr st hi
  obtain⟨e,fr',st',h1,p⟩:=(h k fr st hi).ex
  have e1:C.code ro (.loop c) fr st=Zix c C.call C.code ro fr st:=Cx.code_eq ro (.loop c) fr st
  unfold Zix at e1
  rw[h1]at e1
  cases e with
  |normal=>
   obtain⟨k',hk,hi'⟩:=p
   obtain⟨e2,fr2,st2,h2,p2⟩:=(ih k' hk fr' st' hi').ex
   exact⟨e2,fr2,st2,e1.trans h2,p2⟩
  |exit id=>exact⟨_,_,_,e1,p⟩
  |ret=>exact⟨_,_,_,e1,p⟩
def Ygy{C:Cx}{ro c}{K:List Kf}{Q:Rs→Prop}{fr:Fr}{st:St}(P:Ex→Fr→St→Prop)(I:Nat→Fr→St→Prop)(k:Nat)(hi:I k fr st)(h:∀k fr st,I k fr st→Code C ro c fr st (Yqz I k P))(q:∀e fr' st',P e fr' st'→Run C K (some (.ex e fr' st')) Q):Run C K (exR (C.code ro (.loop c) fr st)) Q:=
 Zbd (Code.loop h k fr st hi) q
section
variable {C:Cx} {K:List Kf} {Q:Rs→Prop} {ro:Option Nat} {a b c:Zaw} {fr:Fr} {st:St}
def Ygv:Run C K (exR (C.code ro .skip fr st)) Q↔Run C K (some (.ex .normal fr st)) Q:=Zay (by rw[Cx.code_eq];rfl)
def Yl1{ops}:Run C K (exR (C.code ro (.reg ops) fr st)) Q↔Run C (.reg::K) (Yfy (mops C.call ops fr st)) Q:=Zay (by
 rw[Cx.code_eq]
 show unw C K (exR (Zoi ops C.call C.code ro fr st))=unw C K (Ze0 C .reg (Yfy (mops C.call ops fr st)))
 unfold Zoi
 rcases mops C.call ops fr st with _|⟨_,_⟩<;>rfl)
def Ygx{ops ms}:Run C K (exR (C.code ro (.regD ops ms) fr st)) Q↔Run C (.regD ms::K) (Znm (mopsD C.call ops fr st)) Q:=Zay (by
 rw[Cx.code_eq]
 show unw C K (exR (Zh5 ops ms C.call C.code ro fr st))=unw C K (Ze0 C (.regD ms) (Znm (mopsD C.call ops fr st)))
 unfold Zh5
 rcases mopsD C.call ops fr st with _|⟨fps,_,_⟩
 ·rfl
 ·simp only[Znm,Ze0,Zhl]
  cases apartOk fps ms<;>rfl)
def Ylz:Run C K (exR (C.code ro (.seq a b) fr st)) Q↔Run C (.seq ro b::K) (exR (C.code ro a fr st)) Q:=Zay (by
 rw[Cx.code_eq]
 show unw C K (exR (Zo6 a b C.call C.code ro fr st))=unw C K (Ze0 C (.seq ro b) (exR (C.code ro a fr st)))
 unfold Zo6
 rcases C.code ro a fr st with _|⟨e,_,_⟩
 ·rfl
 ·cases e<;>rfl)
noncomputable def Yjb(C:Cx)(ro:Option Nat)(a b:Zaw)(fr:Fr)(st:St):Option V→Option Rs
 |some (.bool true)=>exR (C.code ro a fr st)
 |some (.bool false)=>exR (C.code ro b fr st)
 |_=>none
def Yg1{x}:Run C K (exR (C.code ro (.cond x a b) fr st)) Q↔Run C K (Yjb C ro a b fr st (x.ev fr.r)) Q:=Zay (by
 rw[Cx.code_eq]
 show unw C K (exR (Zgd x a b C.call C.code ro fr st))=_
 unfold Zgd Yjb
 rcases x.ev fr.r with _|v
 ·rfl
 ·cases v<;>try rfl
  rename_i b'
  cases b'<;>rfl)
def Yaj:Yjb C ro a b fr st (some (.bool true))=exR (C.code ro a fr st):=rfl
def Zvq:Yjb C ro a b fr st (some (.bool false))=exR (C.code ro b fr st):=rfl
def Ybz{id}:Run C K (exR (C.code ro (.block id a) fr st)) Q↔Run C (.block id::K) (exR (C.code ro a fr st)) Q:=Zay (by
 rw[Cx.code_eq]
 show unw C K (exR (Zfz id a C.call C.code ro fr st))=unw C K (Ze0 C (.block id) (exR (C.code ro a fr st)))
 unfold Zfz
 rcases C.code ro a fr st with _|⟨e,_,_⟩
 ·rfl
 ·cases e with
  |exit id'=>simp only[exR,Ze0,Zhl];cases Nat.beq id' id<;>rfl
  |_=>rfl)
def Yg0{id}:Run C K (exR (C.code ro (.exit id) fr st)) Q↔Run C K (some (.ex (.exit id) fr st)) Q:=Zay (by rw[Cx.code_eq];rfl)
def Yby:Run C K (exR (C.code ro (.scope a) fr st)) Q↔Run C K (exR (C.code ro a fr st)) Q:=Zay (by rw[Cx.code_eq];rfl)
def Yl0:Run C K (exR (C.code ro .ret fr st)) Q↔Run C K (some (.ex .ret fr st)) Q:=Zay (by rw[Cx.code_eq];rfl)
def Zsu:Run C (.seq ro b::K) (some (.ex .normal fr st)) Q↔Run C K (exR (C.code ro b fr st)) Q:=Zay rfl
def Zzp{i}:Run C (.seq ro b::K) (some (.ex (.exit i) fr st)) Q↔Run C K (some (.ex (.exit i) fr st)) Q:=Zay rfl
def Ydw:Run C (.seq ro b::K) (some (.ex .ret fr st)) Q↔Run C K (some (.ex .ret fr st)) Q:=Zay rfl
def Zo4{i}:Run C (.block i::K) (some (.ex .normal fr st)) Q↔Run C K (some (.ex .normal fr st)) Q:=Zay rfl
def Zvb{i}:Run C (.block i::K) (some (.ex .ret fr st)) Q↔Run C K (some (.ex .ret fr st)) Q:=Zay rfl
def Zsv{i}:Run C (.block i::K) (some (.ex (.exit i) fr st)) Q↔Run C K (some (.ex .normal fr st)) Q:=Zay (by simp[unw,Ze0,Zhl,Nat.beq_refl])
def Zq2{i j}(h:Nat.beq j i=false):Run C (.block i::K) (some (.ex (.exit j) fr st)) Q↔Run C K (some (.ex (.exit j) fr st)) Q:=Zay (by simp[unw,Ze0,Zhl,h])
def Yto:Run C (.reg::K) (some (.ops fr st)) Q↔Run C K (some (.ex .normal fr st)) Q:=Zay rfl
def Ymm:Yfy (mops C.call [] fr st)=some (.ops fr st):=rfl
def opR(C:Cx)(K:List Kf)(Q:Rs→Prop)(d:Option Nat)(op:MOp)(ops:List Zbc)(fr:Fr)(st:St):Option Bool→Prop
 |some true=>Run C (.put d ops fr::K) (Zrj (mop op C.call fr.r st)) Q
 |some false=>Run C (.put d ops fr::K) (some (.val (.tup []) st)) Q
 |none=>False
def Yhf{d op g ops}:Run C K (Yfy (mops C.call (⟨d,op,g⟩::ops) fr st)) Q↔opR C K Q d op ops fr st (wantedV fr.r g):=by
 have e:mops C.call (⟨d,op,g⟩::ops) fr st=Ziu C.call ⟨d,op,g⟩ (mops C.call ops) fr st:=rfl
 rw[e]
 unfold Ziu
 simp only[]
 rcases wantedV fr.r g with _|b
 ·exact Zic
 ·cases b
  ·show _↔Run C (.put d ops fr::K) (some (.val (.tup []) st)) Q
   refine Zay ?_
   show _=unw C K (Zhl C (.put d ops fr) (.val (.tup []) st))
   simp only[Zhl]
   rcases fr.put d (.tup [])with _|_<;>rfl
  ·show _↔Run C (.put d ops fr::K) (Zrj (mop op C.call fr.r st)) Q
   refine Zay ?_
   show _=unw C K (Ze0 C (.put d ops fr) (Zrj (mop op C.call fr.r st)))
   rcases mop op C.call fr.r st with _|⟨v,st'⟩
   ·rfl
   ·simp only[Zrj,Ze0,Zhl]
    rcases fr.put d v with _|_<;>rfl
def Yhk{d op ops}:opR C K Q d op ops fr st (some true)↔Run C (.put d ops fr::K) (Zrj (mop op C.call fr.r st)) Q:=Iff.rfl
def Ycq{d op ops}:opR C K Q d op ops fr st (some false)↔Run C (.put d ops fr::K) (some (.val (.tup []) st)) Q:=Iff.rfl
def Ya2{v:V}:Zrj (some (v,st))=some (.val v st):=rfl
def Ytp{d n m r ops v}(h:d<n):Run C (.put (some d) ops ⟨r,n,m⟩::K) (some (.val v st)) Q↔Run C K (Yfy (mops C.call ops ⟨r.set d v,n,m⟩ st)) Q:=Zay (by simp[unw,Ze0,Zhl,Fr.put,h])
def Zzq{ops v}:Run C (.put none ops fr::K) (some (.val v st)) Q↔Run C K (Yfy (mops C.call ops fr st)) Q:=Zay rfl
def Yhg:Znm (mopsD C.call [] fr st)=some (.opsD [] fr st):=rfl
def Yqn(C:Cx)(K:List Kf)(Q:Rs→Prop)(d:Option Nat)(op:MOp)(ops:List Zbc)(fr:Fr)(h:T O)(n:Nat)(w:List Nat):Option Bool→Prop
 |some true=>Run C (.putD op d ops fr n w::K) (Zrj (mop op C.call fr.r ⟨h,n,[]⟩)) Q
 |some false=>Run C (.cons ⟨some [],[],n,n⟩::K) (match fr.put d (.tup [])with|some fr'=>Znm (mopsD C.call ops fr' ⟨h,n,w⟩)|none=>none) Q
 |none=>False
def Ycn{d op g ops h n w}:Run C K (Znm (mopsD C.call (⟨d,op,g⟩::ops) fr ⟨h,n,w⟩)) Q↔Yqn C K Q d op ops fr h n w (wantedV fr.r g):=by
 have e:mopsD C.call (⟨d,op,g⟩::ops) fr ⟨h,n,w⟩=Zfu C.call ⟨d,op,g⟩ (mopsD C.call ops) fr ⟨h,n,w⟩:=rfl
 rw[e]
 unfold Zfu
 simp only[]
 rcases wantedV fr.r g with _|b
 ·exact Zic
 ·cases b
  ·show _↔Run C (.cons ⟨some [],[],n,n⟩::K) (match fr.put d (.tup [])with|some fr'=>Znm (mopsD C.call ops fr' ⟨h,n,w⟩)|none=>none) Q
   refine Zay ?_
   show _=unw C K (Ze0 C (.cons ⟨some [],[],n,n⟩) _)
   rcases fr.put d (.tup [])with _|fr'
   ·rfl
   ·simp only[]
    rcases mopsD C.call ops fr' ⟨h,n,w⟩with _|⟨_,_,_⟩<;>rfl
  ·show _↔Run C (.putD op d ops fr n w::K) (Zrj (mop op C.call fr.r ⟨h,n,[]⟩)) Q
   refine Zay ?_
   show _=unw C K (Ze0 C (.putD op d ops fr n w) (Zrj (mop op C.call fr.r ⟨h,n,[]⟩)))
   rcases mop op C.call fr.r ⟨h,n,[]⟩with _|⟨v,st'⟩
   ·rfl
   ·simp only[Zrj,Ze0,Zhl]
    rcases fr.put d v with _|fr'
    ·rfl
    ·simp only[]
     rcases mopsD C.call ops fr' {st' with w:=Zaa n st'.w++w} with _|⟨_,_,_⟩<;>rfl
def Ycr{d op ops h n w}:Yqn C K Q d op ops fr h n w (some true)↔Run C (.putD op d ops fr n w::K) (Zrj (mop op C.call fr.r ⟨h,n,[]⟩)) Q:=Iff.rfl
def Zyw{d n m r ops op h N w}(hd:d<n):Yqn C K Q (some d) op ops ⟨r,n,m⟩ h N w (some false)↔Run C (.cons ⟨some [],[],N,N⟩::K) (Znm (mopsD C.call ops ⟨r.set d (.tup []),n,m⟩ ⟨h,N,w⟩)) Q:=by simp[Yqn,Fr.put,hd]
def Zuq{ops op h N w}:Yqn C K Q none op ops fr h N w (some false)↔Run C (.cons ⟨some [],[],N,N⟩::K) (Znm (mopsD C.call ops fr ⟨h,N,w⟩)) Q:=Iff.rfl
def Yq4{op d n m r ops v N w h' n' w'}(h:d<n):Run C (.putD op (some d) ops ⟨r,n,m⟩ N w::K) (some (.val v ⟨h',n',w'⟩)) Q↔Run C (.cons (Zc1 r op (Zaa N w') N n')::K) (Znm (mopsD C.call ops ⟨r.set d v,n,m⟩ ⟨h',n',Zaa N w'++w⟩)) Q:=Zay (by
 simp only[unw,Ze0,Zhl,Fr.put,h,if_true]
 rcases mopsD C.call ops _ _ with _|⟨_,_,_⟩<;>rfl)
def Zva{op ops v N w h' n' w'}:Run C (.putD op none ops fr N w::K) (some (.val v ⟨h',n',w'⟩)) Q↔Run C (.cons (Zc1 fr.r op (Zaa N w') N n')::K) (Znm (mopsD C.call ops fr ⟨h',n',Zaa N w'++w⟩)) Q:=Zay (by
 simp only[unw,Ze0,Zhl,Fr.put]
 rcases mopsD C.call ops _ _ with _|⟨_,_,_⟩<;>rfl)
def Yq5{fp fps}:Run C (.cons fp::K) (some (.opsD fps fr st)) Q↔Run C K (some (.opsD (fp::fps) fr st)) Q:=Zay rfl
def Zl0{ms fps}(h:apartOk fps ms=true):Run C (.regD ms::K) (some (.opsD fps fr st)) Q↔Run C K (some (.ex .normal fr st)) Q:=Zay (by simp only[unw,Ze0,Zhl,h])
def Ygz{g first caps args mf}(hx:C.x (.func g first caps) args st=none)(h:C.tbl g=some mf)(hl:(first++args++caps).length≤mf.ntmps):Run C K (Zrj (C.call (.func g first caps) args st)) Q↔Run C (.fin mf.results st::K) (exR (C.code none mf.body ⟨Zew .nil 0 (first++args++caps),mf.ntmps,[]⟩ ⟨st.h,st.n,[]⟩)) Q:=Zay (by
 rw[Cx.call_eq]
 unfold Zer
 rw[hx]
 simp only[Zcz,h,Zg3,Yy2.2 hl,if_false]
 show _=unw C K (Ze0 C (.fin mf.results st) _)
 unfold Zve
 rcases C.code none mf.body _ _ with _|⟨e,fr1,st1⟩
 ·rfl
 ·cases e with
  |exit=>rfl
  |normal=>
   simp only[exR,Ze0,Zhl]
   rcases shut st1 fr1.marks with _|st2
   ·rfl
   ·simp only[]
    rcases resV fr1.r st2 mf.results with _|_<;>rfl
  |ret=>
   simp only[exR,Ze0,Zhl]
   rcases shut st1 fr1.marks with _|st2
   ·rfl
   ·simp only[]
    rcases resV fr1.r st2 mf.results with _|_<;>rfl)
def Ytt(h:T O)(n:Nat)(w:List Nat):Option (List V)→Option Rs
 |some vs=>some (.val (Zr2 vs) ⟨h,n,w⟩)
 |none=>none
def Yeg{h n w vs}:Ytt h n w (some vs)=some (.val (Zr2 vs) ⟨h,n,w⟩):=rfl
def Ydx{rs r n h1 n1 w1}:Run C (.fin rs st::K) (some (.ex .ret ⟨r,n,[]⟩ ⟨h1,n1,w1⟩)) Q↔Run C K (Ytt h1 n1 (Zaa st.n w1++st.w) (resV r ⟨h1,n1,w1⟩ rs)) Q:=Zay (by
 simp only[unw,Ze0,Zhl,shut]
 rcases resV r ⟨h1,n1,w1⟩ rs with _|_<;>rfl)
def Ydy{rs r n h1 n1 w1}:Run C (.fin rs st::K) (some (.ex .normal ⟨r,n,[]⟩ ⟨h1,n1,w1⟩)) Q↔Run C K (Ytt h1 n1 (Zaa st.n w1++st.w) (resV r ⟨h1,n1,w1⟩ rs)) Q:=Zay (by
 simp only[unw,Ze0,Zhl,shut]
 rcases resV r ⟨h1,n1,w1⟩ rs with _|_<;>rfl)
end
def Zu3(a):mop (.convStr a)=Zfb a:=rfl
def Zsg(a b):mop (.strBytes a b)=Zcr a b:=rfl
def Zsl(a):mop (.bytesStr a)=Zde a:=rfl
def Zu0(a b):mop (.mkiface a b)=Zfa a b:=rfl
def Yc5:mop .mkmap=Zig:=rfl
def Zy4(a b):mop (.mkchan a b)=Zes a b:=rfl
def Zuz(a b c d e f):mop (.mkslice a b c d e f)=Zcy a b c d e f:=rfl
def Zsh(a b c):mop (.sliceStr a b c)=Zbn a b c:=rfl
def Zux(a b c d e):mop (.sliceSl a b c d e)=Za7 a b c d e:=rfl
def Zsi(a b c d e f):mop (.sliceArr a b c d e f)=Zbv a b c d e f:=rfl
def Zy9(a b c d e):mop (.idxArr a b c d e)=Zf3 a b c d e:=rfl
def Zy8(a b):mop (.idxStr a b)=Zeu a b:=rfl
def Zy6(a b c d e):mop (.lookup a b c d e)=Zfh a b c d e:=rfl
def Zy5(a b c d):mop (.mapset a b c d)=Zet a b c d:=rfl
def Zsj(a):mop (.rangeStr a)=Zdd a:=rfl
def Zuy(a):mop (.nextStr a)=Zeb a:=rfl
def Zy7(a):mop (.lenArr a)=Zhq a:=rfl
def Ym3(a):mop (.cap a)=Zpm a:=rfl
def Yqx(a):mop (.mn a)=Zl6 a:=rfl
def Yqw(a):mop (.mx a)=Zgv a:=rfl
def Zzb(a b c d e f):mop (.append a b c d e f)=Zdy a b c d e f:=rfl
def Yht(a b c):mop (.copy a b c)=Zft a b c:=rfl
def Yc9(a b c):mop (.clear a b c)=Zih a b c:=rfl
def Ymz(a b):mop (.uns a b)=Zkb a b:=rfl
def Yc3(a):mop (.sdata a)=Zif a:=rfl
def Yhq(a b c):mop (.ustr a b c)=Zlg a b c:=rfl
def Ym2(a b):mop (.ext a b)=Zno a b:=rfl
def Yod{ng k x y}:eqV ng (.prim k) x y=Zad ng k x y:=by cases x<;>cases y<;>rfl
attribute [simp] Yl2 Yf6 Yri Ygv Yl1 Ygx Ylz Yg1 Yaj Zvq Ybz Yg0 Yby Yl0 Zsu Zzp Ydw Zo4 Zvb Zsv Yto Ymm Yhf Yhk Ycq Ya2 Ytp Zzq
 Yhg Ycn Ycr Zyw Zuq Yq4 Zva Yq5 Zl0 Yeg Ydx Ydy
 Zu3 Zsg Zsl Zu0 Yc5 Zy4 Zuz Zsh Zux Zsi Zy9 Zy8 Zy6 Zy5 Zsj Zuy Zy7 Ym3 Yqx Yqw Zzb Yht Yc9 Ymz Yc3 Yhq Ym2 Yod
structure Keeps (h:T O) (n:Nat) (h':T O) (n':Nat):Prop where
 le:n≤n'
 get:∀i,i<n→h'.get i=h.get i
def Keeps.refl{h:T O}{n:Nat}:Keeps h n h n:=⟨Yv5 _,fun _ _=>rfl⟩
def Keeps.trans{h h1 h2:T O}{n n1 n2:Nat}(a:Keeps h n h1 n1)(b:Keeps h1 n1 h2 n2):Keeps h n h2 n2:=
 ⟨Yxt a.le b.le,fun i hi=>(b.get i (Ywf hi a.le)).trans (a.get i hi)⟩
def Keeps.set{h h1:T O}{n n1:Nat}{i:Nat}{o:O}(hi:n≤i)(a:Keeps h n h1 n1):Keeps h n (h1.set i o) n1:=
 ⟨a.le,fun j hj=>by rw[T.get_set,Yv4 (by omega)];exact a.get j hj⟩
def Keeps.up{h h1:T O}{n n1 n2:Nat}(a:Keeps h n h1 n1)(hn:n1≤n2):Keeps h n h1 n2:=⟨Yxt a.le hn,a.get⟩
def Ret(P:V→T O→Nat→Prop)(h:T O)(n:Nat)(w:List Nat)(v:V)(st:St):Prop:=st.w=w∧Keeps h n st.h st.n∧P v st.h st.n
abbrev Fn(C:Cx)(f:Nat)(args:List V)(h:T O)(n:Nat)(P:V→T O→Nat→Prop):Prop:=∀w,Call C (.func f [] []) args ⟨h,n,w⟩ (Ret P h n w)
def Zac{C:Cx}{f args h n w P K Q}(hf:Fn C f args h n P)(k:∀v h' n',Keeps h n h' n'→P v h' n'→Run C K (some (.val v ⟨h',n',w⟩)) Q):Run C K (Zrj (C.call (.func f [] []) args ⟨h,n,w⟩)) Q:=
 Zek (hf w) fun v st'=>by
  obtain⟨h',n',w'⟩:=st'
  rintro⟨rfl,hk,hp⟩
  exact k v h' n' hk hp
def Zpn{N:Nat}:∀{w:List Nat},(∀i∈w,N≤i)→Zaa N w=[]
 |[],_=>rfl
 |i::w,h=>by
  have:=h i Yw6
  simp only[Zaa,Yy2.2 this,if_false]
  exact Zpn fun j hj=>h j (Yw2 _ hj)
end Go.Mx
