/-Runs without a count of steps-/
import Derived.Test.YtmoaaooccjbecaaGreatDoorMxTab
set_option linter.all false
namespace Go.Mx
open Go
def Le(a b:Za1):Prop:=∀g args st r,a g args st=some r→b g args st=some r
def Zl6{a b:Za1}(h:Le a b)(op:MOp)(r:T V)(st:St){o:V×St}(e:mop op a r st=some o):mop op b r st=some o:=by
 cases op<;>try exact e
 rename_i f args
 show Zeq f args b r st=some o
 have e:Zeq f args a r st=some o:=e
 unfold Zeq at e ⊢
 split at e
 ·exact h _ _ _ _ e
 ·cases e
def Zhf{a b:Za1}(h:Le a b):∀(ops:List Zbd) (fr:Fr) (st:St) {o:Fr×St},mops a ops fr st=some o→mops b ops fr st=some o
 |[],_,_,_,e=>e
 |q::ops,fr,st,o,e=>by
  have e:Zie a q (mops a ops) fr st=some o:=e
  show Zie b q (mops b ops) fr st=some o
  unfold Zie at e ⊢
  split at e
  ·split at e
   ·rename_i v st' h1
    rw[Zl6 h _ _ _ h1]
    simp only[]
    split at e
    ·exact Zhf h ops _ _ e
    ·cases e
   ·cases e
  ·split at e
   ·exact Zhf h ops _ _ e
   ·cases e
  ·cases e
def Zh2{a b:Za1}(h:Le a b):∀(ops:List Zbd) (fr:Fr) (st:St) {o:List FP×Fr×St},mopsD a ops fr st=some o→mopsD b ops fr st=some o
 |[],_,_,_,e=>e
 |q::ops,fr,st,o,e=>by
  have e:Zfm a q (mopsD a ops) fr st=some o:=e
  show Zfm b q (mopsD b ops) fr st=some o
  unfold Zfm at e ⊢
  split at e
  ·split at e
   ·rename_i v st' h1
    rw[Zl6 h _ _ _ h1]
    simp only[]
    split at e
    ·split at e
     ·rename_i h2
      rw[Zh2 h ops _ _ h2]
      exact e
     ·cases e
    ·cases e
   ·cases e
  ·split at e
   ·split at e
    ·rename_i h2
     rw[Zh2 h ops _ _ h2]
     exact e
    ·cases e
   ·cases e
  ·cases e
def LeC(a b:Zf2):Prop:=∀ro c fr st r,a ro c fr st=some r→b ro c fr st=some r
def Zkj{a b:Za1}{p q:Zf2}(h:Le a b)(hc:LeC p q)(ro:Option Nat)(c:Zaw)(fr:Fr)(st:St){o:Ex×Fr×St}(e:Zba c a p ro fr st=some o):Zba c b q ro fr st=some o:=by
 cases c with
 |skip=>exact e
 |reg ops=>
  have e:Znu ops a p ro fr st=some o:=e
  show Znu ops b q ro fr st=some o
  unfold Znu at e ⊢
  split at e
  ·rename_i h1;rw[Zhf h _ _ _ h1];exact e
  ·cases e
 |regD ops ms=>
  have e:Zhp ops ms a p ro fr st=some o:=e
  show Zhp ops ms b q ro fr st=some o
  unfold Zhp at e ⊢
  split at e
  ·rename_i h1;rw[Zh2 h _ _ _ h1];exact e
  ·cases e
 |regS dst ch send zero ops=>
  have e:Zho dst ch send zero ops a p ro fr st=some o:=e
  show Zho dst ch send zero ops b q ro fr st=some o
  unfold Zho at e ⊢
  split at e
  ·split at e
   ·split at e
    ·split at e
     ·rename_i h1;rw[Zhf h _ _ _ h1];exact e
     ·cases e
    ·cases e
   ·cases e
  ·cases e
 |seq x y=>
  have e:Zod x y a p ro fr st=some o:=e
  show Zod x y b q ro fr st=some o
  unfold Zod at e ⊢
  split at e
  ·rename_i h1;rw[hc _ _ _ _ _ h1];exact hc _ _ _ _ _ e
  ·rename_i h1
   have:=hc _ _ _ _ _ e
   rw[this]
   rcases o with⟨_|_|_,_,_⟩
   ·exact absurd e (h1 _ _)
   ·rfl
   ·rfl
 |cond x y z=>
  have e:Zf0 x y z a p ro fr st=some o:=e
  show Zf0 x y z b q ro fr st=some o
  unfold Zf0 at e ⊢
  split at e
  ·exact hc _ _ _ _ _ e
  ·exact hc _ _ _ _ _ e
  ·cases e
 |block id x=>
  have e:Zfp id x a p ro fr st=some o:=e
  show Zfp id x b q ro fr st=some o
  unfold Zfp at e ⊢
  split at e
  ·rename_i h1;rw[hc _ _ _ _ _ h1];exact e
  ·rename_i h1
   have:=hc _ _ _ _ _ e
   rw[this]
   rcases o with⟨_|_|_,_,_⟩
   ·rfl
   ·exact absurd e (h1 _ _ _)
   ·rfl
 |loop x=>
  have e:Zih x a p ro fr st=some o:=e
  show Zih x b q ro fr st=some o
  unfold Zih at e ⊢
  split at e
  ·rename_i h1;rw[hc _ _ _ _ _ h1];exact hc _ _ _ _ _ e
  ·rename_i h1
   have:=hc _ _ _ _ _ e
   rw[this]
   rcases o with⟨_|_|_,_,_⟩
   ·exact absurd e (h1 _ _)
   ·rfl
   ·rfl
 |rangef g ps x y=>
  have e:Ze2 g ps x y a p ro fr st=some o:=e
  show Ze2 g ps x y b q ro fr st=some o
  unfold Ze2 at e ⊢
  split at e
  ·cases e
  ·split at e
   ·cases e
   ·rename_i hy
    simp only[hy]
    split at e
    ·cases e
    ·split at e
     ·cases e
     ·rename_i h1;rw[h _ _ _ _ h1];exact e
 |exit id=>exact e
 |scope x=>exact hc _ _ _ _ _ e
 |ret=>exact e
 |stop=>exact e
def Zb9{a b:Za1}(h:Le a b):∀(F F':Nat),F≤F'→LeC (Zbk a F) (Zbk b F')
 |0,_,_=>fun _ _ _ _ _ e=>by cases e
 |F+1,0,hF=>by omega
 |F+1,F'+1,hF=>fun ro c fr st _ e=>Zkj h (Zb9 h F F' (by omega)) ro c fr st e
def Zr9{p q:Zf2}(h:LeC p q){mf:Zen}{args:List V}{st:St}{o:V×St}(e:Zgm mf p args st=some o):Zgm mf q args st=some o:=by
 unfold Zgm at e ⊢
 split at e
 ·cases e
 ·rename_i h0
  rw[Yte h0]
  cases h1:p none mf.body {r:=Zeo .nil 0 args,n:=mf.ntmps,marks:=[]} {st with w:=[]} with
  |none=>rw[h1]at e;cases e
  |some r=>rw[h1]at e;rw[h _ _ _ _ _ h1];exact e
def Zpv{p q:Zf2}(h:LeC p q){l:Nat}{args:List V}{st:St}{o:V×St}(e:Zgc p l args st=some o):Zgc q l args st=some o:=by
 unfold Zgc at e ⊢
 split at e
 ·split at e
  ·cases e
  ·split at e
   ·rename_i h1
    rw[h _ _ _ _ _ h1]
    simp only[]
    split at e
    ·split at e
     ·rename_i hr
      rw[Ytg hr]
      split at e
      ·rename_i h2
       rw[h _ _ _ _ _ h2]
       exact e
      ·cases e
     ·cases e
    ·cases e
   ·cases e
 ·cases e
def Zgt{tbl:Nat→Option Zen}{p q:Zf2}(h:LeC p q):Le (Zcu tbl p) (Zcu tbl q):=by
 intro g args st o e
 unfold Zcu at e ⊢
 split at e
 ·split at e
  ·exact Zr9 h e
  ·cases e
 ·exact Zpv h e
 ·cases e
def Zm0{x a b:Za1}(h:Le a b):Le (Zej x a) (Zej x b):=by
 intro g args st o e
 unfold Zej at e ⊢
 split at e
 ·exact e
 ·exact h _ _ _ _ e
def Zgk{x:Za1}{tbl:Nat→Option Zen}{F F':Nat}(hF:F≤F'):∀(d d':Nat),d≤d'→Le (Zgx x tbl F d) (Zgx x tbl F' d')
 |0,0,_=>fun _ _ _ _ e=>e
 |0,d'+1,_=>fun g args st o e=>by
  have e:x g args st=some o:=e
  show Zej x _ g args st=some o
  unfold Zej;rw[e]
 |d+1,0,h=>by omega
 |d+1,d'+1,h=>Zm0 (Zgt (Zb9 (Zgk hF d d' (by omega)) F F' hF))
structure Cx where
 x:Za1
 tbl:Nat→Option Zen
def Cx.at(C:Cx)(N:Nat):Za1:=Zgx C.x C.tbl N N
def Cx.at_mono{C:Cx}{N M:Nat}(h:N≤M):Le (C.at N) (C.at M):=Zgk h N M h
open Classical in
noncomputable def Cx.call(C:Cx):Za1:=fun g args st=>if h:∃r N,C.at N g args st=some r then some h.choose else none
def Cx.call_iff{C:Cx}{g args st r}:C.call g args st=some r↔∃N,C.at N g args st=some r:=by
 unfold Cx.call
 constructor
 ·intro h
  split at h
  ·rename_i hc
   simp only[Ytc]at h
   exact h▸hc.choose_spec
  ·cases h
 ·rintro⟨N,h⟩
  have hc:∃r N,C.at N g args st=some r:=⟨r,N,h⟩
  rw[dif_pos hc]
  obtain⟨M,hM⟩:=hc.choose_spec
  have h1:=Cx.at_mono (Ywb N M) _ _ _ _ h
  have h2:=Cx.at_mono (Yv5 N M) _ _ _ _ hM
  rw[h1]at h2
  exact congrArg some (Yt4 h2).symm
open Classical in
noncomputable def Cx.code(C:Cx):Zf2:=fun ro c fr st=>if h:∃r F,Zbk C.call F ro c fr st=some r then some h.choose else none
def Cx.code_iff{C:Cx}{ro c fr st r}:C.code ro c fr st=some r↔∃F,Zbk C.call F ro c fr st=some r:=by
 unfold Cx.code
 constructor
 ·intro h
  split at h
  ·rename_i hc
   simp only[Ytc]at h
   exact h▸hc.choose_spec
  ·cases h
 ·rintro⟨N,h⟩
  have hc:∃r F,Zbk C.call F ro c fr st=some r:=⟨r,N,h⟩
  rw[dif_pos hc]
  obtain⟨M,hM⟩:=hc.choose_spec
  have h1:=Zb9 (fun _ _ _ _ e=>e) N (max N M) (Ywb N M) _ _ _ _ _ h
  have h2:=Zb9 (fun _ _ _ _ e=>e) M (max N M) (Yv5 N M) _ _ _ _ _ hM
  rw[h1]at h2
  exact congrArg some (Yt4 h2).symm
def Ybq{α:Type}{a b:Option α}(h:∀r,a=some r↔b=some r):a=b:=by
 cases a with
 |none=>cases b with
  |none=>rfl
  |some r=>exact absurd ((h r).2 rfl) (by simp)
 |some r=>exact((h r).1 rfl).symm
def Ze0{a:Za1}{p:Zf2}{q:Nat→Zf2}(hq:∀n m,n≤m→LeC (q n) (q m))(hp:∀ro c fr st r,p ro c fr st=some r→∃n,q n ro c fr st=some r)(ro:Option Nat)(c:Zaw)(fr:Fr)(st:St){o:Ex×Fr×St}(e:Zba c a p ro fr st=some o):∃n,Zba c a (q n) ro fr st=some o:=by
 cases c with
 |skip=>exact⟨0,e⟩
 |reg ops=>exact⟨0,e⟩
 |regD ops ms=>exact⟨0,e⟩
 |regS dst ch send zero ops=>exact⟨0,e⟩
 |seq x y=>
  have e:Zod x y a p ro fr st=some o:=e
  show ∃n,Zod x y a (q n) ro fr st=some o
  unfold Zod at e ⊢
  split at e
  ·rename_i h1
   obtain⟨n,hn⟩:=hp _ _ _ _ _ h1
   obtain⟨m,hm⟩:=hp _ _ _ _ _ e
   refine⟨max n m,?_⟩
   rw[hq n _ (Ywb n m) _ _ _ _ _ hn]
   exact hq m _ (Yv5 n m) _ _ _ _ _ hm
  ·rename_i h1
   obtain⟨n,hn⟩:=hp _ _ _ _ _ e
   refine⟨n,?_⟩
   rw[hn]
   rcases o with⟨_|_|_,_,_⟩
   ·exact absurd e (h1 _ _)
   ·rfl
   ·rfl
 |cond x y z=>
  have e:Zf0 x y z a p ro fr st=some o:=e
  show ∃n,Zf0 x y z a (q n) ro fr st=some o
  unfold Zf0 at e ⊢
  split at e
  ·exact hp _ _ _ _ _ e
  ·exact hp _ _ _ _ _ e
  ·cases e
 |block id x=>
  have e:Zfp id x a p ro fr st=some o:=e
  show ∃n,Zfp id x a (q n) ro fr st=some o
  unfold Zfp at e ⊢
  split at e
  ·rename_i h1
   obtain⟨n,hn⟩:=hp _ _ _ _ _ h1
   exact⟨n,by rw[hn];exact e⟩
  ·rename_i h1
   obtain⟨n,hn⟩:=hp _ _ _ _ _ e
   refine⟨n,?_⟩
   rw[hn]
   rcases o with⟨_|_|_,_,_⟩
   ·rfl
   ·exact absurd e (h1 _ _ _)
   ·rfl
 |loop x=>
  have e:Zih x a p ro fr st=some o:=e
  show ∃n,Zih x a (q n) ro fr st=some o
  unfold Zih at e ⊢
  split at e
  ·rename_i h1
   obtain⟨n,hn⟩:=hp _ _ _ _ _ h1
   obtain⟨m,hm⟩:=hp _ _ _ _ _ e
   refine⟨max n m,?_⟩
   rw[hq n _ (Ywb n m) _ _ _ _ _ hn]
   exact hq m _ (Yv5 n m) _ _ _ _ _ hm
  ·rename_i h1
   obtain⟨n,hn⟩:=hp _ _ _ _ _ e
   refine⟨n,?_⟩
   rw[hn]
   rcases o with⟨_|_|_,_,_⟩
   ·exact absurd e (h1 _ _)
   ·rfl
   ·rfl
 |rangef g ps x y=>exact⟨0,e⟩
 |exit id=>exact⟨0,e⟩
 |scope x=>exact hp _ _ _ _ _ e
 |ret=>exact⟨0,e⟩
 |stop=>exact⟨0,e⟩
def Cx.code_eq{C:Cx}(ro:Option Nat)(c:Zaw)(fr:Fr)(st:St):C.code ro c fr st=Zba c C.call C.code ro fr st:=by
 apply Ybq
 intro r
 constructor
 ·intro h
  obtain⟨F,hF⟩:=Cx.code_iff.1 h
  cases F with
  |zero=>cases hF
  |succ F=>exact Zkj (fun _ _ _ _ e=>e) (fun ro c fr st r e=>Cx.code_iff.2 ⟨F,e⟩) ro c fr st hF
 ·intro h
  obtain⟨n,hn⟩:=Ze0 (q:=Zbk C.call) (Zb9 fun _ _ _ _ e=>e) (fun _ _ _ _ _ e=>Cx.code_iff.1 e) ro c fr st h
  exact Cx.code_iff.2 ⟨n+1,hn⟩
def Zwg{C:Cx}(op:MOp)(r:T V)(st:St){o:V×St}(e:mop op C.call r st=some o):∃N,mop op (C.at N) r st=some o:=by
 cases op<;>try exact⟨0,e⟩
 rename_i f args
 have e:Zeq f args C.call r st=some o:=e
 show ∃N,Zeq f args (C.at N) r st=some o
 unfold Zeq at e ⊢
 split at e
 ·exact Cx.call_iff.1 e
 ·cases e
def Zj5{C:Cx}:∀(ops:List Zbd) (fr:Fr) (st:St) {o:Fr×St},mops C.call ops fr st=some o→∃N,mops (C.at N) ops fr st=some o
 |[],_,_,_,e=>⟨0,e⟩
 |q::ops,fr,st,o,e=>by
  have e:Zie C.call q (mops C.call ops) fr st=some o:=e
  show ∃N,Zie (C.at N) q (mops (C.at N) ops) fr st=some o
  unfold Zie at e ⊢
  split at e
  ·split at e
   ·rename_i v st' h1
    split at e
    ·obtain⟨N,hN⟩:=Zwg _ _ _ h1
     obtain⟨M,hM⟩:=Zj5 ops _ _ e
     refine⟨max N M,?_⟩
     rw[Zl6 (Cx.at_mono (Ywb N M)) _ _ _ hN]
     rename_i h3
     simp only[h3]
     exact Zhf (Cx.at_mono (Yv5 N M)) _ _ _ hM
    ·cases e
   ·cases e
  ·split at e
   ·exact Zj5 ops _ _ e
   ·cases e
  ·cases e
def Zk1{C:Cx}:∀(ops:List Zbd) (fr:Fr) (st:St) {o:List FP×Fr×St},mopsD C.call ops fr st=some o→∃N,mopsD (C.at N) ops fr st=some o
 |[],_,_,_,e=>⟨0,e⟩
 |q::ops,fr,st,o,e=>by
  have e:Zfm C.call q (mopsD C.call ops) fr st=some o:=e
  show ∃N,Zfm (C.at N) q (mopsD (C.at N) ops) fr st=some o
  unfold Zfm at e ⊢
  split at e
  ·split at e
   ·rename_i v st' h1
    split at e
    ·rename_i h3
     split at e
     ·rename_i h2
      obtain⟨N,hN⟩:=Zwg _ _ _ h1
      obtain⟨M,hM⟩:=Zk1 ops _ _ h2
      refine⟨max N M,?_⟩
      rw[Zl6 (Cx.at_mono (Ywb N M)) _ _ _ hN]
      simp only[h3]
      rw[Zh2 (Cx.at_mono (Yv5 N M)) _ _ _ hM]
      exact e
     ·cases e
    ·cases e
   ·cases e
  ·split at e
   ·split at e
    ·rename_i h2
     obtain⟨M,hM⟩:=Zk1 ops _ _ h2
     exact⟨M,by rw[hM];exact e⟩
    ·cases e
   ·cases e
  ·cases e
def Zo0{C:Cx}:∀(F:Nat) (ro:Option Nat) (c:Zaw) (fr:Fr) (st:St) {o:Ex×Fr×St},Zbk C.call F ro c fr st=some o→∃N,Zbk (C.at N) F ro c fr st=some o
 |0,_,_,_,_,_,e=>by cases e
 |F+1,ro,c,fr,st,o,e=>by
  have e:Zba c C.call (Zbk C.call F) ro fr st=some o:=e
  show ∃N,Zba c (C.at N) (Zbk (C.at N) F) ro fr st=some o
  have ih:=@Zo0 C F
  have up:∀{n m:Nat},n≤m→LeC (Zbk (C.at n) F) (Zbk (C.at m) F):=fun h=>Zb9 (Cx.at_mono h) F F (Ytf _)
  cases c with
  |reg ops=>
   have e:Znu ops C.call (Zbk C.call F) ro fr st=some o:=e
   show ∃N,Znu ops (C.at N) (Zbk (C.at N) F) ro fr st=some o
   unfold Znu at e ⊢
   split at e
   ·rename_i h1
    obtain⟨N,hN⟩:=Zj5 _ _ _ h1
    exact⟨N,by rw[hN];exact e⟩
   ·cases e
  |regD ops ms=>
   have e:Zhp ops ms C.call (Zbk C.call F) ro fr st=some o:=e
   show ∃N,Zhp ops ms (C.at N) (Zbk (C.at N) F) ro fr st=some o
   unfold Zhp at e ⊢
   split at e
   ·rename_i h1
    obtain⟨N,hN⟩:=Zk1 _ _ _ h1
    exact⟨N,by rw[hN];exact e⟩
   ·cases e
  |regS dst ch send zero ops=>
   have e:Zho dst ch send zero ops C.call (Zbk C.call F) ro fr st=some o:=e
   show ∃N,Zho dst ch send zero ops (C.at N) (Zbk (C.at N) F) ro fr st=some o
   unfold Zho at e ⊢
   split at e
   ·split at e
    ·split at e
     ·split at e
      ·rename_i h1
       obtain⟨N,hN⟩:=Zj5 _ _ _ h1
       exact⟨N,by rw[hN];exact e⟩
      ·cases e
     ·cases e
    ·cases e
   ·cases e
  |rangef g ps x y=>
   have e:Ze2 g ps x y C.call (Zbk C.call F) ro fr st=some o:=e
   show ∃N,Ze2 g ps x y (C.at N) (Zbk (C.at N) F) ro fr st=some o
   unfold Ze2 at e ⊢
   split at e
   ·cases e
   ·split at e
    ·cases e
    ·rename_i hy
     simp only[hy]
     split at e
     ·cases e
     ·split at e
      ·cases e
      ·rename_i h1
       obtain⟨N,hN⟩:=Cx.call_iff.1 h1
       exact⟨N,by rw[hN];exact e⟩
  |skip=>exact⟨0,e⟩
  |exit id=>exact⟨0,e⟩
  |ret=>exact⟨0,e⟩
  |stop=>cases e
  |scope x=>exact ih _ _ _ _ e
  |cond x y z=>
   have e:Zf0 x y z C.call (Zbk C.call F) ro fr st=some o:=e
   show ∃N,Zf0 x y z (C.at N) (Zbk (C.at N) F) ro fr st=some o
   unfold Zf0 at e ⊢
   split at e
   ·exact ih _ _ _ _ e
   ·exact ih _ _ _ _ e
   ·cases e
  |seq x y=>exact Ze0 (a:=C.call) (q:=fun n=>Zbk (C.at n) F) (fun _ _ h=>up h) (fun _ _ _ _ _ e=>ih _ _ _ _ e) ro (.seq x y) fr st e
  |block id x=>exact Ze0 (a:=C.call) (q:=fun n=>Zbk (C.at n) F) (fun _ _ h=>up h) (fun _ _ _ _ _ e=>ih _ _ _ _ e) ro (.block id x) fr st e
  |loop x=>exact Ze0 (a:=C.call) (q:=fun n=>Zbk (C.at n) F) (fun _ _ h=>up h) (fun _ _ _ _ _ e=>ih _ _ _ _ e) ro (.loop x) fr st e
def Cx.code_need{C:Cx}{ro c fr st r}(h:C.code ro c fr st=some r):∃N,Zbk (C.at N) N ro c fr st=some r:=by
 obtain⟨F,hF⟩:=Cx.code_iff.1 h
 obtain⟨N,hN⟩:=Zo0 F _ _ _ _ hF
 exact⟨max F N,Zb9 (Cx.at_mono (Yv5 F N)) _ _ (Ywb F N) _ _ _ _ _ hN⟩
def Zkl{tbl:Nat→Option Zen}{p:Zf2}{q:Nat→Zf2}(hq:∀n m,n≤m→LeC (q n) (q m))(hp:∀ro c fr st r,p ro c fr st=some r→∃n,q n ro c fr st=some r){g args st}{o:V×St}(e:Zcu tbl p g args st=some o):∃n,Zcu tbl (q n) g args st=some o:=by
 unfold Zcu at e ⊢
 split at e
 ·split at e
  ·rename_i mf _
   unfold Zgm at e ⊢
   split at e
   ·cases e
   ·rename_i h0
    simp only[h0,if_false]
    cases h1:p none mf.body {r:=Zeo .nil 0 _,n:=mf.ntmps,marks:=[]} {st with w:=[]} with
    |none=>rw[h1]at e;cases e
    |some r=>
     rw[h1]at e
     obtain⟨n,hn⟩:=hp _ _ _ _ _ h1
     exact⟨n,by rw[hn];exact e⟩
  ·cases e
 ·unfold Zgc at e ⊢
  split at e
  ·split at e
   ·cases e
   ·split at e
    ·rename_i h1
     obtain⟨n,hn⟩:=hp _ _ _ _ _ h1
     split at e
     ·split at e
      ·split at e
       ·rename_i h4 h5 _ _ _ _ h2
        obtain⟨m,hm⟩:=hp _ _ _ _ _ h2
        refine⟨max n m,?_⟩
        rw[hq n _ (Ywb n m) _ _ _ _ _ hn]
        simp only[h4,h5,if_true]
        rw[hq m _ (Yv5 n m) _ _ _ _ _ hm]
        exact e
       ·cases e
      ·cases e
     ·cases e
    ·cases e
  ·cases e
 ·cases e
def Cx.call_eq{C:Cx}(g:V)(args:List V)(st:St):C.call g args st=Zej C.x (Zcu C.tbl C.code) g args st:=by
 apply Ybq
 intro r
 constructor
 ·intro h
  obtain⟨N,hN⟩:=Cx.call_iff.1 h
  cases N with
  |zero=>
   have e:C.x g args st=some r:=hN
   unfold Zej;rw[e]
  |succ N=>
   refine Zm0 (x:=C.x) (Zgt (p:=Zbk (Zgx C.x C.tbl (N+1) N) (N+1)) fun ro c fr st r e=>?_) _ _ _ _ hN
   refine Cx.code_iff.2 ⟨N+1,?_⟩
   refine Zb9 (fun g args st r e=>?_) (N+1) (N+1) (Ytf _) _ _ _ _ _ e
   exact Cx.call_iff.2 ⟨N+1,Zgk (Ytf _) N (N+1) (by omega) _ _ _ _ e⟩
 ·intro h
  unfold Zej at h
  split at h
  ·rename_i r' e
   simp only[Ytc]at h
   subst h
   exact Cx.call_iff.2 ⟨0,e⟩
  ·rename_i hx
   obtain⟨N,hN⟩:=Zkl (q:=fun n=>Zbk (C.at n) n) (fun n m h=>Zb9 (Cx.at_mono h) n m h) (fun _ _ _ _ _ e=>Cx.code_need e) h
   refine Cx.call_iff.2 ⟨N+1,?_⟩
   show Zej C.x (Zcu C.tbl (Zbk (Zgx C.x C.tbl (N+1) N) (N+1))) g args st=some r
   unfold Zej
   rw[hx]
   exact Zgt (Zb9 (Zgk (by omega) N N (Ytf _)) N (N+1) (by omega)) _ _ _ _ hN
inductive Rs where
 |ex (e:Ex) (fr:Fr) (st:St)
 |val (v:V) (st:St)
 |ops (fr:Fr) (st:St)
 |opsD (fps:List FP) (fr:Fr) (st:St)
inductive Kf where
 |seq (ro:Option Nat) (b:Zaw)
 |block (id:Nat)
 |loop (ro:Option Nat) (c:Zaw)
 |reg
 |put (d:Option Nat) (ops:List Zbd) (fr:Fr)
 |regD (ms:List Nat)
 |putD (op:MOp) (d:Option Nat) (ops:List Zbd) (fr:Fr) (n:Nat) (w:List Nat)
 |cons (fp:FP)
 |fin (rs:List Ynb) (st:St)
def exR:Option (Ex×Fr×St)→Option Rs
 |some (e,fr,st)=>some (.ex e fr st)
 |none=>none
def Zqr:Option (V×St)→Option Rs
 |some (v,st)=>some (.val v st)
 |none=>none
def Yey:Option (Fr×St)→Option Rs
 |some (fr,st)=>some (.ops fr st)
 |none=>none
def Zm1:Option (List FP×Fr×St)→Option Rs
 |some (fps,fr,st)=>some (.opsD fps fr st)
 |none=>none
noncomputable def Zg3(C:Cx):Kf→Rs→Option Rs
 |.seq ro b,.ex .normal fr st=>exR (C.code ro b fr st)
 |.seq _ _,.ex e fr st=>some (.ex e fr st)
 |.block id,.ex (.exit id') fr st=>match Nat.beq id' id with
  |true=>some (.ex .normal fr st)
  |false=>some (.ex (.exit id') fr st)
 |.block _,.ex e fr st=>some (.ex e fr st)
 |.loop ro c,.ex .normal fr st=>exR (C.code ro (.loop c) fr st)
 |.loop _ _,.ex e fr st=>some (.ex e fr st)
 |.reg,.ops fr st=>some (.ex .normal fr st)
 |.put d ops fr,.val v st=>match fr.put d v with
  |some fr=>Yey (mops C.call ops fr st)
  |none=>none
 |.regD ms,.opsD fps fr st=>match apartOk fps ms with
  |true=>some (.ex .normal fr st)
  |false=>none
 |.putD op d ops fr n w,.val v st'=>match fr.put d v with
  |some fr'=>match mopsD C.call ops fr' {st' with w:=Zaa n st'.w++w} with
   |some (fps,fr'',st'')=>some (.opsD (Zcv fr.r op (Zaa n st'.w) n st'.n::fps) fr'' st'')
   |none=>none
  |none=>none
 |.cons fp,.opsD fps fr st=>some (.opsD (fp::fps) fr st)
 |.fin _ _,.ex (.exit _) _ _=>none
 |.fin rs st0,.ex _ fr st1=>match shut st1 fr.marks with
  |none=>none
  |some st2=>match resV fr.r st2 rs with
   |some vs=>some (.val (Zq8 vs) {st2 with w:=Zaa st0.n st2.w++st0.w})
   |none=>none
 |_,_=>none
noncomputable def Zeu(C:Cx)(k:Kf):Option Rs→Option Rs
 |some r=>Zg3 C k r
 |none=>none
noncomputable def unw(C:Cx):List Kf→Option Rs→Option Rs
 |[],r=>r
 |k::K,r=>unw C K (Zeu C k r)
def Zvq{C:Cx}:∀K,unw C K none=none
 |[]=>rfl
 |_::K=>Zvq K
structure Run (C:Cx) (K:List Kf) (r:Option Rs) (Q:Rs→Prop):Prop where
 ex:∃s,unw C K r=some s∧Q s
def Zav{C:Cx}{K K':List Kf}{r r':Option Rs}{Q:Rs→Prop}(h:unw C K r=unw C K' r'):Run C K r Q↔Run C K' r' Q:=
 ⟨fun ⟨s,e,q⟩=>⟨s,h▸e,q⟩,fun ⟨s,e,q⟩=>⟨s,h.symm▸e,q⟩⟩
def Zhw{C:Cx}{K:List Kf}{Q:Rs→Prop}:Run C K none Q↔False:=
 ⟨fun ⟨_,h,_⟩=>(by rw[Zvq]at h;cases h),fun h=>h.elim⟩
def Ykn{C:Cx}{s:Rs}{Q:Rs→Prop}:Run C [] (some s) Q↔Q s:=
 ⟨fun ⟨_,h,q⟩=>by simp only[unw,Ytc]at h;exact h▸q,fun q=>⟨s,rfl,q⟩⟩
structure Call (C:Cx) (g:V) (args:List V) (st:St) (P:V→St→Prop):Prop where
 ex:∃v st',C.call g args st=some (v,st')∧P v st'
structure Code (C:Cx) (ro:Option Nat) (c:Zaw) (fr:Fr) (st:St) (P:Ex→Fr→St→Prop):Prop where
 ex:∃e fr' st',C.code ro c fr st=some (e,fr',st')∧P e fr' st'
def Ye6(P:V→St→Prop):Rs→Prop
 |.val v st=>P v st
 |_=>False
def exQ(P:Ex→Fr→St→Prop):Rs→Prop
 |.ex e fr st=>P e fr st
 |_=>False
def Ye5{P:V→St→Prop}{v st}:Ye6 P (.val v st)↔P v st:=Iff.rfl
def Yo4{P:Ex→Fr→St→Prop}{e fr st}:exQ P (.ex e fr st)↔P e fr st:=Iff.rfl
def Zad{C:Cx}{g args st P}:Call C g args st P↔Run C [] (Zqr (C.call g args st)) (Ye6 P):=by
 constructor
 ·rintro⟨v,st',h,p⟩
  exact⟨.val v st',by rw[h];rfl,p⟩
 ·rintro⟨s,h,q⟩
  cases hc:C.call g args st with
  |none=>rw[hc]at h;cases h
  |some r=>
   rw[hc]at h
   simp only[unw,Zqr,Ytc]at h
   subst h
   exact⟨_,_,hc,q⟩
def Zai{C:Cx}{ro c fr st P}:Code C ro c fr st P↔Run C [] (exR (C.code ro c fr st)) (exQ P):=by
 constructor
 ·rintro⟨e,fr',st',h,p⟩
  exact⟨.ex e fr' st',by rw[h];rfl,p⟩
 ·rintro⟨s,h,q⟩
  cases hc:C.code ro c fr st with
  |none=>rw[hc]at h;cases h
  |some r=>
   rw[hc]at h
   simp only[unw,exR,Ytc]at h
   subst h
   exact⟨_,_,_,hc,q⟩
def Zed{C:Cx}{g args st P K Q}(h:Call C g args st P)(k:∀v st',P v st'→Run C K (some (.val v st')) Q):Run C K (Zqr (C.call g args st)) Q:=by
 obtain⟨v,st',e,p⟩:=h.ex
 rw[e]
 exact k v st' p
def Zbv{C:Cx}{ro c fr st P K Q}(h:Code C ro c fr st P)(k:∀e fr' st',P e fr' st'→Run C K (some (.ex e fr' st')) Q):Run C K (exR (C.code ro c fr st)) Q:=by
 obtain⟨e,fr',st',h,p⟩:=h.ex
 rw[h]
 exact k e fr' st' p
def Call.mono{C:Cx}{g args st}{P Q:V→St→Prop}(h:Call C g args st P)(k:∀v st',P v st'→Q v st'):Call C g args st Q:=by
 obtain⟨v,st',e,p⟩:=h.ex
 exact⟨v,st',e,k v st' p⟩
def Yop(I:Nat→Fr→St→Prop)(k:Nat)(P:Ex→Fr→St→Prop):Ex→Fr→St→Prop
 |.normal,fr,st=>∃k',k'<k∧I k' fr st
 |e,fr,st=>P e fr st
def Code.loop{C:Cx}{ro c}{P:Ex→Fr→St→Prop}{I:Nat→Fr→St→Prop}(h:∀k fr st,I k fr st→Code C ro c fr st (Yop I k P)):∀(k:Nat) (fr:Fr) (st:St),I k fr st→Code C ro (.loop c) fr st P:=by
 intro k
 induction k using Nat.strongRecOn with
 |_ k ih=>
  intro fr st hi
  obtain⟨e,fr',st',h1,p⟩:=(h k fr st hi).ex
  have e1:C.code ro (.loop c) fr st=Zih c C.call C.code ro fr st:=Cx.code_eq ro (.loop c) fr st
  unfold Zih at e1
  rw[h1]at e1
  cases e with
  |normal=>
   obtain⟨k',hk,hi'⟩:=p
   obtain⟨e2,fr2,st2,h2,p2⟩:=(ih k' hk fr' st' hi').ex
   exact⟨e2,fr2,st2,e1.trans h2,p2⟩
  |exit id=>exact⟨_,_,_,e1,p⟩
  |ret=>exact⟨_,_,_,e1,p⟩
def Yfv{C:Cx}{ro c}{K:List Kf}{Q:Rs→Prop}{fr:Fr}{st:St}(P:Ex→Fr→St→Prop)(I:Nat→Fr→St→Prop)(k:Nat)(hi:I k fr st)(h:∀k fr st,I k fr st→Code C ro c fr st (Yop I k P))(q:∀e fr' st',P e fr' st'→Run C K (some (.ex e fr' st')) Q):Run C K (exR (C.code ro (.loop c) fr st)) Q:=
 Zbv (Code.loop h k fr st hi) q
section
variable {C:Cx} {K:List Kf} {Q:Rs→Prop} {ro:Option Nat} {a b c:Zaw} {fr:Fr} {st:St}
def Yfs:Run C K (exR (C.code ro .skip fr st)) Q↔Run C K (some (.ex .normal fr st)) Q:=Zav (by rw[Cx.code_eq];rfl)
def Ykm{ops}:Run C K (exR (C.code ro (.reg ops) fr st)) Q↔Run C (.reg::K) (Yey (mops C.call ops fr st)) Q:=Zav (by
 rw[Cx.code_eq]
 show unw C K (exR (Znu ops C.call C.code ro fr st))=unw C K (Zeu C .reg (Yey (mops C.call ops fr st)))
 unfold Znu
 rcases mops C.call ops fr st with _|⟨_,_⟩<;>rfl)
def Yfu{ops ms}:Run C K (exR (C.code ro (.regD ops ms) fr st)) Q↔Run C (.regD ms::K) (Zm1 (mopsD C.call ops fr st)) Q:=Zav (by
 rw[Cx.code_eq]
 show unw C K (exR (Zhp ops ms C.call C.code ro fr st))=unw C K (Zeu C (.regD ms) (Zm1 (mopsD C.call ops fr st)))
 unfold Zhp
 rcases mopsD C.call ops fr st with _|⟨fps,_,_⟩
 ·rfl
 ·simp only[Zm1,Zeu,Zg3]
  cases apartOk fps ms<;>rfl)
def Ykk:Run C K (exR (C.code ro (.seq a b) fr st)) Q↔Run C (.seq ro b::K) (exR (C.code ro a fr st)) Q:=Zav (by
 rw[Cx.code_eq]
 show unw C K (exR (Zod a b C.call C.code ro fr st))=unw C K (Zeu C (.seq ro b) (exR (C.code ro a fr st)))
 unfold Zod
 rcases C.code ro a fr st with _|⟨e,_,_⟩
 ·rfl
 ·cases e<;>rfl)
noncomputable def Yh3(C:Cx)(ro:Option Nat)(a b:Zaw)(fr:Fr)(st:St):Option V→Option Rs
 |some (.bool true)=>exR (C.code ro a fr st)
 |some (.bool false)=>exR (C.code ro b fr st)
 |_=>none
def Yfy{x}:Run C K (exR (C.code ro (.cond x a b) fr st)) Q↔Run C K (Yh3 C ro a b fr st (x.ev fr.r)) Q:=Zav (by
 rw[Cx.code_eq]
 show unw C K (exR (Zf0 x a b C.call C.code ro fr st))=_
 unfold Zf0 Yh3
 rcases x.ev fr.r with _|v
 ·rfl
 ·cases v<;>try rfl
  rename_i b'
  cases b'<;>rfl)
def Zzx:Yh3 C ro a b fr st (some (.bool true))=exR (C.code ro a fr st):=rfl
def Zuy:Yh3 C ro a b fr st (some (.bool false))=exR (C.code ro b fr st):=rfl
def Ya5{id}:Run C K (exR (C.code ro (.block id a) fr st)) Q↔Run C (.block id::K) (exR (C.code ro a fr st)) Q:=Zav (by
 rw[Cx.code_eq]
 show unw C K (exR (Zfp id a C.call C.code ro fr st))=unw C K (Zeu C (.block id) (exR (C.code ro a fr st)))
 unfold Zfp
 rcases C.code ro a fr st with _|⟨e,_,_⟩
 ·rfl
 ·cases e with
  |exit id'=>simp only[exR,Zeu,Zg3];cases Nat.beq id' id<;>rfl
  |_=>rfl)
def Yfx{id}:Run C K (exR (C.code ro (.exit id) fr st)) Q↔Run C K (some (.ex (.exit id) fr st)) Q:=Zav (by rw[Cx.code_eq];rfl)
def Ya4:Run C K (exR (C.code ro (.scope a) fr st)) Q↔Run C K (exR (C.code ro a fr st)) Q:=Zav (by rw[Cx.code_eq];rfl)
def Ykl:Run C K (exR (C.code ro .ret fr st)) Q↔Run C K (some (.ex .ret fr st)) Q:=Zav (by rw[Cx.code_eq];rfl)
def Zr1:Run C (.seq ro b::K) (some (.ex .normal fr st)) Q↔Run C K (exR (C.code ro b fr st)) Q:=Zav rfl
def Zy3{i}:Run C (.seq ro b::K) (some (.ex (.exit i) fr st)) Q↔Run C K (some (.ex (.exit i) fr st)) Q:=Zav rfl
def Yc4:Run C (.seq ro b::K) (some (.ex .ret fr st)) Q↔Run C K (some (.ex .ret fr st)) Q:=Zav rfl
def Zob{i}:Run C (.block i::K) (some (.ex .normal fr st)) Q↔Run C K (some (.ex .normal fr st)) Q:=Zav rfl
def Zun{i}:Run C (.block i::K) (some (.ex .ret fr st)) Q↔Run C K (some (.ex .ret fr st)) Q:=Zav rfl
def Zr3{i}:Run C (.block i::K) (some (.ex (.exit i) fr st)) Q↔Run C K (some (.ex .normal fr st)) Q:=Zav (by simp[unw,Zeu,Zg3,Nat.beq_refl])
def Zp9{i j}(h:Nat.beq j i=false):Run C (.block i::K) (some (.ex (.exit j) fr st)) Q↔Run C K (some (.ex (.exit j) fr st)) Q:=Zav (by simp[unw,Zeu,Zg3,h])
def Yq3:Run C (.reg::K) (some (.ops fr st)) Q↔Run C K (some (.ex .normal fr st)) Q:=Zav rfl
def Yk5:Yey (mops C.call [] fr st)=some (.ops fr st):=rfl
def opR(C:Cx)(K:List Kf)(Q:Rs→Prop)(d:Option Nat)(op:MOp)(ops:List Zbd)(fr:Fr)(st:St):Option Bool→Prop
 |some true=>Run C (.put d ops fr::K) (Zqr (mop op C.call fr.r st)) Q
 |some false=>Run C (.put d ops fr::K) (some (.val (.tup []) st)) Q
 |none=>False
def Yge{d op g ops}:Run C K (Yey (mops C.call (⟨d,op,g⟩::ops) fr st)) Q↔opR C K Q d op ops fr st (wantedV fr.r g):=by
 have e:mops C.call (⟨d,op,g⟩::ops) fr st=Zie C.call ⟨d,op,g⟩ (mops C.call ops) fr st:=rfl
 rw[e]
 unfold Zie
 simp only[]
 rcases wantedV fr.r g with _|b
 ·exact Zhw
 ·cases b
  ·show _↔Run C (.put d ops fr::K) (some (.val (.tup []) st)) Q
   refine Zav ?_
   show _=unw C K (Zg3 C (.put d ops fr) (.val (.tup []) st))
   simp only[Zg3]
   rcases fr.put d (.tup [])with _|_<;>rfl
  ·show _↔Run C (.put d ops fr::K) (Zqr (mop op C.call fr.r st)) Q
   refine Zav ?_
   show _=unw C K (Zeu C (.put d ops fr) (Zqr (mop op C.call fr.r st)))
   rcases mop op C.call fr.r st with _|⟨v,st'⟩
   ·rfl
   ·simp only[Zqr,Zeu,Zg3]
    rcases fr.put d v with _|_<;>rfl
def Ygk{d op ops}:opR C K Q d op ops fr st (some true)↔Run C (.put d ops fr::K) (Zqr (mop op C.call fr.r st)) Q:=Iff.rfl
def Ybv{d op ops}:opR C K Q d op ops fr st (some false)↔Run C (.put d ops fr::K) (some (.val (.tup []) st)) Q:=Iff.rfl
def Yad{v:V}:Zqr (some (v,st))=some (.val v st):=rfl
def Yq4{d n m r ops v}(h:d<n):Run C (.put (some d) ops ⟨r,n,m⟩::K) (some (.val v st)) Q↔Run C K (Yey (mops C.call ops ⟨r.set d v,n,m⟩ st)) Q:=Zav (by simp[unw,Zeu,Zg3,Fr.put,h])
def Zy4{ops v}:Run C (.put none ops fr::K) (some (.val v st)) Q↔Run C K (Yey (mops C.call ops fr st)) Q:=Zav rfl
def Ygf:Zm1 (mopsD C.call [] fr st)=some (.opsD [] fr st):=rfl
def Yn6(C:Cx)(K:List Kf)(Q:Rs→Prop)(d:Option Nat)(op:MOp)(ops:List Zbd)(fr:Fr)(h:T O)(n:Nat)(w:List Nat):Option Bool→Prop
 |some true=>Run C (.putD op d ops fr n w::K) (Zqr (mop op C.call fr.r ⟨h,n,[]⟩)) Q
 |some false=>Run C (.cons ⟨some [],[],n,n⟩::K) (match fr.put d (.tup [])with|some fr'=>Zm1 (mopsD C.call ops fr' ⟨h,n,w⟩)|none=>none) Q
 |none=>False
def Ybt{d op g ops h n w}:Run C K (Zm1 (mopsD C.call (⟨d,op,g⟩::ops) fr ⟨h,n,w⟩)) Q↔Yn6 C K Q d op ops fr h n w (wantedV fr.r g):=by
 have e:mopsD C.call (⟨d,op,g⟩::ops) fr ⟨h,n,w⟩=Zfm C.call ⟨d,op,g⟩ (mopsD C.call ops) fr ⟨h,n,w⟩:=rfl
 rw[e]
 unfold Zfm
 simp only[]
 rcases wantedV fr.r g with _|b
 ·exact Zhw
 ·cases b
  ·show _↔Run C (.cons ⟨some [],[],n,n⟩::K) (match fr.put d (.tup [])with|some fr'=>Zm1 (mopsD C.call ops fr' ⟨h,n,w⟩)|none=>none) Q
   refine Zav ?_
   show _=unw C K (Zeu C (.cons ⟨some [],[],n,n⟩) _)
   rcases fr.put d (.tup [])with _|fr'
   ·rfl
   ·simp only[]
    rcases mopsD C.call ops fr' ⟨h,n,w⟩with _|⟨_,_,_⟩<;>rfl
  ·show _↔Run C (.putD op d ops fr n w::K) (Zqr (mop op C.call fr.r ⟨h,n,[]⟩)) Q
   refine Zav ?_
   show _=unw C K (Zeu C (.putD op d ops fr n w) (Zqr (mop op C.call fr.r ⟨h,n,[]⟩)))
   rcases mop op C.call fr.r ⟨h,n,[]⟩with _|⟨v,st'⟩
   ·rfl
   ·simp only[Zqr,Zeu,Zg3]
    rcases fr.put d v with _|fr'
    ·rfl
    ·simp only[]
     rcases mopsD C.call ops fr' {st' with w:=Zaa n st'.w++w} with _|⟨_,_,_⟩<;>rfl
def Ybw{d op ops h n w}:Yn6 C K Q d op ops fr h n w (some true)↔Run C (.putD op d ops fr n w::K) (Zqr (mop op C.call fr.r ⟨h,n,[]⟩)) Q:=Iff.rfl
def Zya{d n m r ops op h N w}(hd:d<n):Yn6 C K Q (some d) op ops ⟨r,n,m⟩ h N w (some false)↔Run C (.cons ⟨some [],[],N,N⟩::K) (Zm1 (mopsD C.call ops ⟨r.set d (.tup []),n,m⟩ ⟨h,N,w⟩)) Q:=by simp[Yn6,Fr.put,hd]
def Zt3{ops op h N w}:Yn6 C K Q none op ops fr h N w (some false)↔Run C (.cons ⟨some [],[],N,N⟩::K) (Zm1 (mopsD C.call ops fr ⟨h,N,w⟩)) Q:=Iff.rfl
def Yot{op d n m r ops v N w h' n' w'}(h:d<n):Run C (.putD op (some d) ops ⟨r,n,m⟩ N w::K) (some (.val v ⟨h',n',w'⟩)) Q↔Run C (.cons (Zcv r op (Zaa N w') N n')::K) (Zm1 (mopsD C.call ops ⟨r.set d v,n,m⟩ ⟨h',n',Zaa N w'++w⟩)) Q:=Zav (by
 simp only[unw,Zeu,Zg3,Fr.put,h,if_true]
 rcases mopsD C.call ops _ _ with _|⟨_,_,_⟩<;>rfl)
def Zum{op ops v N w h' n' w'}:Run C (.putD op none ops fr N w::K) (some (.val v ⟨h',n',w'⟩)) Q↔Run C (.cons (Zcv fr.r op (Zaa N w') N n')::K) (Zm1 (mopsD C.call ops fr ⟨h',n',Zaa N w'++w⟩)) Q:=Zav (by
 simp only[unw,Zeu,Zg3,Fr.put]
 rcases mopsD C.call ops _ _ with _|⟨_,_,_⟩<;>rfl)
def You{fp fps}:Run C (.cons fp::K) (some (.opsD fps fr st)) Q↔Run C K (some (.opsD (fp::fps) fr st)) Q:=Zav rfl
def Zr2{ms fps}(h:apartOk fps ms=true):Run C (.regD ms::K) (some (.opsD fps fr st)) Q↔Run C K (some (.ex .normal fr st)) Q:=Zav (by simp only[unw,Zeu,Zg3,h])
def Yfw{g first caps args mf}(hx:C.x (.func g first caps) args st=none)(h:C.tbl g=some mf)(hl:(first++args++caps).length≤mf.ntmps):Run C K (Zqr (C.call (.func g first caps) args st)) Q↔Run C (.fin mf.results st::K) (exR (C.code none mf.body ⟨Zeo .nil 0 (first++args++caps),mf.ntmps,[]⟩ ⟨st.h,st.n,[]⟩)) Q:=Zav (by
 rw[Cx.call_eq]
 unfold Zej
 rw[hx]
 simp only[Zcu,h,Zgm,Ywg.2 hl,if_false]
 show _=unw C K (Zeu C (.fin mf.results st) _)
 unfold Zur
 rcases C.code none mf.body _ _ with _|⟨e,fr1,st1⟩
 ·rfl
 ·cases e with
  |exit=>rfl
  |normal=>
   simp only[exR,Zeu,Zg3]
   rcases shut st1 fr1.marks with _|st2
   ·rfl
   ·simp only[]
    rcases resV fr1.r st2 mf.results with _|_<;>rfl
  |ret=>
   simp only[exR,Zeu,Zg3]
   rcases shut st1 fr1.marks with _|st2
   ·rfl
   ·simp only[]
    rcases resV fr1.r st2 mf.results with _|_<;>rfl)
def Yq7(h:T O)(n:Nat)(w:List Nat):Option (List V)→Option Rs
 |some vs=>some (.val (Zq8 vs) ⟨h,n,w⟩)
 |none=>none
def Ydl{h n w vs}:Yq7 h n w (some vs)=some (.val (Zq8 vs) ⟨h,n,w⟩):=rfl
def Yc5{rs r n h1 n1 w1}:Run C (.fin rs st::K) (some (.ex .ret ⟨r,n,[]⟩ ⟨h1,n1,w1⟩)) Q↔Run C K (Yq7 h1 n1 (Zaa st.n w1++st.w) (resV r ⟨h1,n1,w1⟩ rs)) Q:=Zav (by
 simp only[unw,Zeu,Zg3,shut]
 rcases resV r ⟨h1,n1,w1⟩ rs with _|_<;>rfl)
def Yc6{rs r n h1 n1 w1}:Run C (.fin rs st::K) (some (.ex .normal ⟨r,n,[]⟩ ⟨h1,n1,w1⟩)) Q↔Run C K (Yq7 h1 n1 (Zaa st.n w1++st.w) (resV r ⟨h1,n1,w1⟩ rs)) Q:=Zav (by
 simp only[unw,Zeu,Zg3,shut]
 rcases resV r ⟨h1,n1,w1⟩ rs with _|_<;>rfl)
end
def Zuh(a):mop (.convStr a)=Ze5 a:=rfl
def Zro(a b):mop (.strBytes a b)=Zcm a b:=rfl
def Zrt(a):mop (.bytesStr a)=Zdb a:=rfl
def Zue(a b):mop (.mkiface a b)=Ze4 a b:=rfl
def Yca:mop .mkmap=Zhz:=rfl
def Zyi(a b):mop (.mkchan a b)=Zek a b:=rfl
def Zud(a b c d e f):mop (.mkslice a b c d e f)=Zct a b c d e f:=rfl
def Zrp(a b c):mop (.sliceStr a b c)=Zbq a b c:=rfl
def Zub(a b c d e):mop (.sliceSl a b c d e)=Za5 a b c d e:=rfl
def Zrq(a b c d e f):mop (.sliceArr a b c d e f)=Zb0 a b c d e f:=rfl
def Zyn(a b c d e):mop (.idxArr a b c d e)=Zft a b c d e:=rfl
def Zym(a b):mop (.idxStr a b)=Zem a b:=rfl
def Zyk(a b c d e):mop (.lookup a b c d e)=Ze9 a b c d e:=rfl
def Zyj(a b c d):mop (.mapset a b c d)=Zel a b c d:=rfl
def Zrr(a):mop (.rangeStr a)=Zda a:=rfl
def Zuc(a):mop (.nextStr a)=Zd5 a:=rfl
def Zyl(a):mop (.lenArr a)=Zg8 a:=rfl
def Yll(a):mop (.cap a)=Zou a:=rfl
def Yon(a):mop (.mn a)=Zlr a:=rfl
def Yom(a):mop (.mx a)=Zep a:=rfl
def Zyp(a b c d e f):mop (.append a b c d e f)=Zdr a b c d e f:=rfl
def Ygs(a b c):mop (.copy a b c)=Zg9 a b c:=rfl
def Yce(a b c):mop (.clear a b c)=Zh0 a b c:=rfl
def Ylh(a b):mop (.uns a b)=Zj1 a b:=rfl
def Yb8(a):mop (.sdata a)=Zhy a:=rfl
def Ygp(a b c):mop (.ustr a b c)=Zk0 a b c:=rfl
def Ylk(a b):mop (.ext a b)=Zm3 a b:=rfl
def Ymd{ng k x y}:eqV ng (.prim k) x y=Zae ng k x y:=by cases x<;>cases y<;>rfl
attribute [simp] Ykn Ye5 Yo4 Yfs Ykm Yfu Ykk Yfy Zzx Zuy Ya5 Yfx Ya4 Ykl Zr1 Zy3 Yc4 Zob Zun Zr3 Yq3 Yk5 Yge Ygk Ybv Yad Yq4 Zy4
 Ygf Ybt Ybw Zya Zt3 Yot Zum You Zr2 Ydl Yc5 Yc6
 Zuh Zro Zrt Zue Yca Zyi Zud Zrp Zub Zrq Zyn Zym Zyk Zyj Zrr Zuc Zyl Yll Yon Yom Zyp Ygs Yce Ylh Yb8 Ygp Ylk Ymd
structure Keeps (h:T O) (n:Nat) (h':T O) (n':Nat):Prop where
 le:n≤n'
 get:∀i,i<n→h'.get i=h.get i
def Keeps.refl{h:T O}{n:Nat}:Keeps h n h n:=⟨Ytf _,fun _ _=>rfl⟩
def Keeps.trans{h h1 h2:T O}{n n1 n2:Nat}(a:Keeps h n h1 n1)(b:Keeps h1 n1 h2 n2):Keeps h n h2 n2:=
 ⟨Yve a.le b.le,fun i hi=>(b.get i (Yts hi a.le)).trans (a.get i hi)⟩
def Keeps.set{h h1:T O}{n n1:Nat}{i:Nat}{o:O}(hi:n≤i)(a:Keeps h n h1 n1):Keeps h n (h1.set i o) n1:=
 ⟨a.le,fun j hj=>by rw[T.get_set,Yte (by omega)];exact a.get j hj⟩
def Keeps.up{h h1:T O}{n n1 n2:Nat}(a:Keeps h n h1 n1)(hn:n1≤n2):Keeps h n h1 n2:=⟨Yve a.le hn,a.get⟩
def Ret(P:V→T O→Nat→Prop)(h:T O)(n:Nat)(w:List Nat)(v:V)(st:St):Prop:=st.w=w∧Keeps h n st.h st.n∧P v st.h st.n
abbrev Fn(C:Cx)(f:Nat)(args:List V)(h:T O)(n:Nat)(P:V→T O→Nat→Prop):Prop:=∀w,Call C (.func f [] []) args ⟨h,n,w⟩ (Ret P h n w)
def Zaf{C:Cx}{f args h n w P K Q}(hf:Fn C f args h n P)(k:∀v h' n',Keeps h n h' n'→P v h' n'→Run C K (some (.val v ⟨h',n',w⟩)) Q):Run C K (Zqr (C.call (.func f [] []) args ⟨h,n,w⟩)) Q:=
 Zed (hf w) fun v st'=>by
  obtain⟨h',n',w'⟩:=st'
  rintro⟨rfl,hk,hp⟩
  exact k v h' n' hk hp
def Zov{N:Nat}:∀{w:List Nat},(∀i∈w,N≤i)→Zaa N w=[]
 |[],_=>rfl
 |i::w,h=>by
  have:=h i Yuj
  simp only[Zaa,Ywg.2 this,if_false]
  exact Zov fun j hj=>h j (Yub _ hj)
end Go.Mx
