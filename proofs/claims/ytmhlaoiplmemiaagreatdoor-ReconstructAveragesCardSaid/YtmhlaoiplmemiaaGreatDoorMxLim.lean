/-Runs without a count of steps-/
import Derived.Test.YtmhlaoiplmemiaaGreatDoorMxTab
set_option linter.all false
namespace Go.Mx
open Go
def Le(a b:Za1):Prop:=∀g args st r,a g args st=some r→b g args st=some r
def Zma{a b:Za1}(h:Le a b)(op:MOp)(r:T V)(st:St){o:V×St}(e:mop op a r st=some o):mop op b r st=some o:=by
 cases op<;>try exact e
 rename_i f args
 show Zeo f args b r st=some o
 have e:Zeo f args a r st=some o:=e
 unfold Zeo at e ⊢
 split at e
 ·exact h _ _ _ _ e
 ·cases e
def Zhh{a b:Za1}(h:Le a b):∀(ops:List Zbd) (fr:Fr) (st:St) {o:Fr×St},mops a ops fr st=some o→mops b ops fr st=some o
 |[],_,_,_,e=>e
 |q::ops,fr,st,o,e=>by
  have e:Zii a q (mops a ops) fr st=some o:=e
  show Zii b q (mops b ops) fr st=some o
  unfold Zii at e ⊢
  split at e
  ·split at e
   ·rename_i v st' h1
    rw[Zma h _ _ _ h1]
    simp only[]
    split at e
    ·exact Zhh h ops _ _ e
    ·cases e
   ·cases e
  ·split at e
   ·exact Zhh h ops _ _ e
   ·cases e
  ·cases e
def Zh6{a b:Za1}(h:Le a b):∀(ops:List Zbd) (fr:Fr) (st:St) {o:List FP×Fr×St},mopsD a ops fr st=some o→mopsD b ops fr st=some o
 |[],_,_,_,e=>e
 |q::ops,fr,st,o,e=>by
  have e:Zfl a q (mopsD a ops) fr st=some o:=e
  show Zfl b q (mopsD b ops) fr st=some o
  unfold Zfl at e ⊢
  split at e
  ·split at e
   ·rename_i v st' h1
    rw[Zma h _ _ _ h1]
    simp only[]
    split at e
    ·split at e
     ·rename_i h2
      rw[Zh6 h ops _ _ h2]
      exact e
     ·cases e
    ·cases e
   ·cases e
  ·split at e
   ·split at e
    ·rename_i h2
     rw[Zh6 h ops _ _ h2]
     exact e
    ·cases e
   ·cases e
  ·cases e
def LeC(a b:Zf4):Prop:=∀ro c fr st r,a ro c fr st=some r→b ro c fr st=some r
def Zki{a b:Za1}{p q:Zf4}(h:Le a b)(hc:LeC p q)(ro:Option Nat)(c:Zaw)(fr:Fr)(st:St){o:Ex×Fr×St}(e:Zba c a p ro fr st=some o):Zba c b q ro fr st=some o:=by
 cases c with
 |skip=>exact e
 |reg ops=>
  have e:Zn4 ops a p ro fr st=some o:=e
  show Zn4 ops b q ro fr st=some o
  unfold Zn4 at e ⊢
  split at e
  ·rename_i h1;rw[Zhh h _ _ _ h1];exact e
  ·cases e
 |regD ops ms=>
  have e:Zhs ops ms a p ro fr st=some o:=e
  show Zhs ops ms b q ro fr st=some o
  unfold Zhs at e ⊢
  split at e
  ·rename_i h1;rw[Zh6 h _ _ _ h1];exact e
  ·cases e
 |regS dst ch send zero ops=>
  have e:Zil dst ch send zero ops a p ro fr st=some o:=e
  show Zil dst ch send zero ops b q ro fr st=some o
  unfold Zil at e ⊢
  split at e
  ·split at e
   ·split at e
    ·split at e
     ·rename_i h1;rw[Zhh h _ _ _ h1];exact e
     ·cases e
    ·cases e
   ·cases e
  ·cases e
 |seq x y=>
  have e:Zop x y a p ro fr st=some o:=e
  show Zop x y b q ro fr st=some o
  unfold Zop at e ⊢
  split at e
  ·rename_i h1;rw[hc _ _ _ _ _ h1];exact hc _ _ _ _ _ e
  ·rename_i h1
   have:=hc _ _ _ _ _ e
   rw[this]
   rcases o with⟨_|_|_,_,_⟩
   ·exact absurd e (h1 _ _)
   ·rfl
   ·rfl
 |cond x y z=>
  have e:Zf2 x y z a p ro fr st=some o:=e
  show Zf2 x y z b q ro fr st=some o
  unfold Zf2 at e ⊢
  split at e
  ·exact hc _ _ _ _ _ e
  ·exact hc _ _ _ _ _ e
  ·cases e
 |block id x=>
  have e:Zfn id x a p ro fr st=some o:=e
  show Zfn id x b q ro fr st=some o
  unfold Zfn at e ⊢
  split at e
  ·rename_i h1;rw[hc _ _ _ _ _ h1];exact e
  ·rename_i h1
   have:=hc _ _ _ _ _ e
   rw[this]
   rcases o with⟨_|_|_,_,_⟩
   ·rfl
   ·exact absurd e (h1 _ _ _)
   ·rfl
 |loop x=>
  have e:Zim x a p ro fr st=some o:=e
  show Zim x b q ro fr st=some o
  unfold Zim at e ⊢
  split at e
  ·rename_i h1;rw[hc _ _ _ _ _ h1];exact hc _ _ _ _ _ e
  ·rename_i h1
   have:=hc _ _ _ _ _ e
   rw[this]
   rcases o with⟨_|_|_,_,_⟩
   ·exact absurd e (h1 _ _)
   ·rfl
   ·rfl
 |rangef g ps x y=>
  have e:Zex g ps x y a p ro fr st=some o:=e
  show Zex g ps x y b q ro fr st=some o
  unfold Zex at e ⊢
  split at e
  ·cases e
  ·split at e
   ·cases e
   ·rename_i hy
    simp only[hy]
    split at e
    ·cases e
    ·split at e
     ·cases e
     ·rename_i h1;rw[h _ _ _ _ h1];exact e
 |exit id=>exact e
 |scope x=>exact hc _ _ _ _ _ e
 |ret=>exact e
 |stop=>exact e
def Zb5{a b:Za1}(h:Le a b):∀(F F':Nat),F≤F'→LeC (Zbg a F) (Zbg b F')
 |0,_,_=>fun _ _ _ _ _ e=>by cases e
 |F+1,0,hF=>by omega
 |F+1,F'+1,hF=>fun ro c fr st _ e=>Zki h (Zb5 h F F' (by omega)) ro c fr st e
def Zsk{p q:Zf4}(h:LeC p q){mf:Zem}{args:List V}{st:St}{o:V×St}(e:Zgs mf p args st=some o):Zgs mf q args st=some o:=by
 unfold Zgs at e ⊢
 split at e
 ·cases e
 ·rename_i h0
  rw[Yur h0]
  cases h1:p none mf.body {r:=Zen .nil 0 args,n:=mf.ntmps,marks:=[]} {st with w:=[]} with
  |none=>rw[h1]at e;cases e
  |some r=>rw[h1]at e;rw[h _ _ _ _ _ h1];exact e
def Zqb{p q:Zf4}(h:LeC p q){l:Nat}{args:List V}{st:St}{o:V×St}(e:Zgj p l args st=some o):Zgj q l args st=some o:=by
 unfold Zgj at e ⊢
 split at e
 ·split at e
  ·cases e
  ·split at e
   ·rename_i h1
    rw[h _ _ _ _ _ h1]
    simp only[]
    split at e
    ·split at e
     ·rename_i hr
      rw[Yuu hr]
      split at e
      ·rename_i h2
       rw[h _ _ _ _ _ h2]
       exact e
      ·cases e
     ·cases e
    ·cases e
   ·cases e
 ·cases e
def Zgz{tbl:Nat→Option Zem}{p q:Zf4}(h:LeC p q):Le (Zcr tbl p) (Zcr tbl q):=by
 intro g args st o e
 unfold Zcr at e ⊢
 split at e
 ·split at e
  ·exact Zsk h e
  ·cases e
 ·exact Zqb h e
 ·cases e
def Zm7{x a b:Za1}(h:Le a b):Le (Zeh x a) (Zeh x b):=by
 intro g args st o e
 unfold Zeh at e ⊢
 split at e
 ·exact e
 ·exact h _ _ _ _ e
def Zgr{x:Za1}{tbl:Nat→Option Zem}{F F':Nat}(hF:F≤F'):∀(d d':Nat),d≤d'→Le (Zg3 x tbl F d) (Zg3 x tbl F' d')
 |0,0,_=>fun _ _ _ _ e=>e
 |0,d'+1,_=>fun g args st o e=>by
  have e:x g args st=some o:=e
  show Zeh x _ g args st=some o
  unfold Zeh;rw[e]
 |d+1,0,h=>by omega
 |d+1,d'+1,h=>Zm7 (Zgz (Zb5 (Zgr hF d d' (by omega)) F F' hF))
structure Cx where
 x:Za1
 tbl:Nat→Option Zem
def Cx.at(C:Cx)(N:Nat):Za1:=Zg3 C.x C.tbl N N
def Cx.at_mono{C:Cx}{N M:Nat}(h:N≤M):Le (C.at N) (C.at M):=Zgr h N M h
open Classical in
noncomputable def Cx.call(C:Cx):Za1:=fun g args st=>if h:∃r N,C.at N g args st=some r then some h.choose else none
def Cx.call_iff{C:Cx}{g args st r}:C.call g args st=some r↔∃N,C.at N g args st=some r:=by
 unfold Cx.call
 constructor
 ·intro h
  split at h
  ·rename_i hc
   simp only[Yup]at h
   exact h▸hc.choose_spec
  ·cases h
 ·rintro⟨N,h⟩
  have hc:∃r N,C.at N g args st=some r:=⟨r,N,h⟩
  rw[dif_pos hc]
  obtain⟨M,hM⟩:=hc.choose_spec
  have h1:=Cx.at_mono (Yxo N M) _ _ _ _ h
  have h2:=Cx.at_mono (Yxk N M) _ _ _ _ hM
  rw[h1]at h2
  exact congrArg some (Yvr h2).symm
open Classical in
noncomputable def Cx.code(C:Cx):Zf4:=fun ro c fr st=>if h:∃r F,Zbg C.call F ro c fr st=some r then some h.choose else none
def Cx.code_iff{C:Cx}{ro c fr st r}:C.code ro c fr st=some r↔∃F,Zbg C.call F ro c fr st=some r:=by
 unfold Cx.code
 constructor
 ·intro h
  split at h
  ·rename_i hc
   simp only[Yup]at h
   exact h▸hc.choose_spec
  ·cases h
 ·rintro⟨N,h⟩
  have hc:∃r F,Zbg C.call F ro c fr st=some r:=⟨r,N,h⟩
  rw[dif_pos hc]
  obtain⟨M,hM⟩:=hc.choose_spec
  have h1:=Zb5 (fun _ _ _ _ e=>e) N (max N M) (Yxo N M) _ _ _ _ _ h
  have h2:=Zb5 (fun _ _ _ _ e=>e) M (max N M) (Yxk N M) _ _ _ _ _ hM
  rw[h1]at h2
  exact congrArg some (Yvr h2).symm
def Yby{α:Type}{a b:Option α}(h:∀r,a=some r↔b=some r):a=b:=by
 cases a with
 |none=>cases b with
  |none=>rfl
  |some r=>exact absurd ((h r).2 rfl) (by simp)
 |some r=>exact((h r).1 rfl).symm
def Zew{a:Za1}{p:Zf4}{q:Nat→Zf4}(hq:∀n m,n≤m→LeC (q n) (q m))(hp:∀ro c fr st r,p ro c fr st=some r→∃n,q n ro c fr st=some r)(ro:Option Nat)(c:Zaw)(fr:Fr)(st:St){o:Ex×Fr×St}(e:Zba c a p ro fr st=some o):∃n,Zba c a (q n) ro fr st=some o:=by
 cases c with
 |skip=>exact⟨0,e⟩
 |reg ops=>exact⟨0,e⟩
 |regD ops ms=>exact⟨0,e⟩
 |regS dst ch send zero ops=>exact⟨0,e⟩
 |seq x y=>
  have e:Zop x y a p ro fr st=some o:=e
  show ∃n,Zop x y a (q n) ro fr st=some o
  unfold Zop at e ⊢
  split at e
  ·rename_i h1
   obtain⟨n,hn⟩:=hp _ _ _ _ _ h1
   obtain⟨m,hm⟩:=hp _ _ _ _ _ e
   refine⟨max n m,?_⟩
   rw[hq n _ (Yxo n m) _ _ _ _ _ hn]
   exact hq m _ (Yxk n m) _ _ _ _ _ hm
  ·rename_i h1
   obtain⟨n,hn⟩:=hp _ _ _ _ _ e
   refine⟨n,?_⟩
   rw[hn]
   rcases o with⟨_|_|_,_,_⟩
   ·exact absurd e (h1 _ _)
   ·rfl
   ·rfl
 |cond x y z=>
  have e:Zf2 x y z a p ro fr st=some o:=e
  show ∃n,Zf2 x y z a (q n) ro fr st=some o
  unfold Zf2 at e ⊢
  split at e
  ·exact hp _ _ _ _ _ e
  ·exact hp _ _ _ _ _ e
  ·cases e
 |block id x=>
  have e:Zfn id x a p ro fr st=some o:=e
  show ∃n,Zfn id x a (q n) ro fr st=some o
  unfold Zfn at e ⊢
  split at e
  ·rename_i h1
   obtain⟨n,hn⟩:=hp _ _ _ _ _ h1
   exact⟨n,by rw[hn];exact e⟩
  ·rename_i h1
   obtain⟨n,hn⟩:=hp _ _ _ _ _ e
   refine⟨n,?_⟩
   rw[hn]
   rcases o with⟨_|_|_,_,_⟩
   ·rfl
   ·exact absurd e (h1 _ _ _)
   ·rfl
 |loop x=>
  have e:Zim x a p ro fr st=some o:=e
  show ∃n,Zim x a (q n) ro fr st=some o
  unfold Zim at e ⊢
  split at e
  ·rename_i h1
   obtain⟨n,hn⟩:=hp _ _ _ _ _ h1
   obtain⟨m,hm⟩:=hp _ _ _ _ _ e
   refine⟨max n m,?_⟩
   rw[hq n _ (Yxo n m) _ _ _ _ _ hn]
   exact hq m _ (Yxk n m) _ _ _ _ _ hm
  ·rename_i h1
   obtain⟨n,hn⟩:=hp _ _ _ _ _ e
   refine⟨n,?_⟩
   rw[hn]
   rcases o with⟨_|_|_,_,_⟩
   ·exact absurd e (h1 _ _)
   ·rfl
   ·rfl
 |rangef g ps x y=>exact⟨0,e⟩
 |exit id=>exact⟨0,e⟩
 |scope x=>exact hp _ _ _ _ _ e
 |ret=>exact⟨0,e⟩
 |stop=>exact⟨0,e⟩
def Cx.code_eq{C:Cx}(ro:Option Nat)(c:Zaw)(fr:Fr)(st:St):C.code ro c fr st=Zba c C.call C.code ro fr st:=by
 apply Yby
 intro r
 constructor
 ·intro h
  obtain⟨F,hF⟩:=Cx.code_iff.1 h
  cases F with
  |zero=>cases hF
  |succ F=>exact Zki (fun _ _ _ _ e=>e) (fun ro c fr st r e=>Cx.code_iff.2 ⟨F,e⟩) ro c fr st hF
 ·intro h
  obtain⟨n,hn⟩:=Zew (q:=Zbg C.call) (Zb5 fun _ _ _ _ e=>e) (fun _ _ _ _ _ e=>Cx.code_iff.1 e) ro c fr st h
  exact Cx.code_iff.2 ⟨n+1,hn⟩
def Zwg{C:Cx}(op:MOp)(r:T V)(st:St){o:V×St}(e:mop op C.call r st=some o):∃N,mop op (C.at N) r st=some o:=by
 cases op<;>try exact⟨0,e⟩
 rename_i f args
 have e:Zeo f args C.call r st=some o:=e
 show ∃N,Zeo f args (C.at N) r st=some o
 unfold Zeo at e ⊢
 split at e
 ·exact Cx.call_iff.1 e
 ·cases e
def Zj2{C:Cx}:∀(ops:List Zbd) (fr:Fr) (st:St) {o:Fr×St},mops C.call ops fr st=some o→∃N,mops (C.at N) ops fr st=some o
 |[],_,_,_,e=>⟨0,e⟩
 |q::ops,fr,st,o,e=>by
  have e:Zii C.call q (mops C.call ops) fr st=some o:=e
  show ∃N,Zii (C.at N) q (mops (C.at N) ops) fr st=some o
  unfold Zii at e ⊢
  split at e
  ·split at e
   ·rename_i v st' h1
    split at e
    ·obtain⟨N,hN⟩:=Zwg _ _ _ h1
     obtain⟨M,hM⟩:=Zj2 ops _ _ e
     refine⟨max N M,?_⟩
     rw[Zma (Cx.at_mono (Yxo N M)) _ _ _ hN]
     rename_i h3
     simp only[h3]
     exact Zhh (Cx.at_mono (Yxk N M)) _ _ _ hM
    ·cases e
   ·cases e
  ·split at e
   ·exact Zj2 ops _ _ e
   ·cases e
  ·cases e
def Zk4{C:Cx}:∀(ops:List Zbd) (fr:Fr) (st:St) {o:List FP×Fr×St},mopsD C.call ops fr st=some o→∃N,mopsD (C.at N) ops fr st=some o
 |[],_,_,_,e=>⟨0,e⟩
 |q::ops,fr,st,o,e=>by
  have e:Zfl C.call q (mopsD C.call ops) fr st=some o:=e
  show ∃N,Zfl (C.at N) q (mopsD (C.at N) ops) fr st=some o
  unfold Zfl at e ⊢
  split at e
  ·split at e
   ·rename_i v st' h1
    split at e
    ·rename_i h3
     split at e
     ·rename_i h2
      obtain⟨N,hN⟩:=Zwg _ _ _ h1
      obtain⟨M,hM⟩:=Zk4 ops _ _ h2
      refine⟨max N M,?_⟩
      rw[Zma (Cx.at_mono (Yxo N M)) _ _ _ hN]
      simp only[h3]
      rw[Zh6 (Cx.at_mono (Yxk N M)) _ _ _ hM]
      exact e
     ·cases e
    ·cases e
   ·cases e
  ·split at e
   ·split at e
    ·rename_i h2
     obtain⟨M,hM⟩:=Zk4 ops _ _ h2
     exact⟨M,by rw[hM];exact e⟩
    ·cases e
   ·cases e
  ·cases e
def Zpg{C:Cx}:∀(F:Nat) (ro:Option Nat) (c:Zaw) (fr:Fr) (st:St) {o:Ex×Fr×St},Zbg C.call F ro c fr st=some o→∃N,Zbg (C.at N) F ro c fr st=some o
 |0,_,_,_,_,_,e=>by cases e
 |F+1,ro,c,fr,st,o,e=>by
  have e:Zba c C.call (Zbg C.call F) ro fr st=some o:=e
  show ∃N,Zba c (C.at N) (Zbg (C.at N) F) ro fr st=some o
  have ih:=@Zpg C F
  have up:∀{n m:Nat},n≤m→LeC (Zbg (C.at n) F) (Zbg (C.at m) F):=fun h=>Zb5 (Cx.at_mono h) F F (Yus _)
  cases c with
  |reg ops=>
   have e:Zn4 ops C.call (Zbg C.call F) ro fr st=some o:=e
   show ∃N,Zn4 ops (C.at N) (Zbg (C.at N) F) ro fr st=some o
   unfold Zn4 at e ⊢
   split at e
   ·rename_i h1
    obtain⟨N,hN⟩:=Zj2 _ _ _ h1
    exact⟨N,by rw[hN];exact e⟩
   ·cases e
  |regD ops ms=>
   have e:Zhs ops ms C.call (Zbg C.call F) ro fr st=some o:=e
   show ∃N,Zhs ops ms (C.at N) (Zbg (C.at N) F) ro fr st=some o
   unfold Zhs at e ⊢
   split at e
   ·rename_i h1
    obtain⟨N,hN⟩:=Zk4 _ _ _ h1
    exact⟨N,by rw[hN];exact e⟩
   ·cases e
  |regS dst ch send zero ops=>
   have e:Zil dst ch send zero ops C.call (Zbg C.call F) ro fr st=some o:=e
   show ∃N,Zil dst ch send zero ops (C.at N) (Zbg (C.at N) F) ro fr st=some o
   unfold Zil at e ⊢
   split at e
   ·split at e
    ·split at e
     ·split at e
      ·rename_i h1
       obtain⟨N,hN⟩:=Zj2 _ _ _ h1
       exact⟨N,by rw[hN];exact e⟩
      ·cases e
     ·cases e
    ·cases e
   ·cases e
  |rangef g ps x y=>
   have e:Zex g ps x y C.call (Zbg C.call F) ro fr st=some o:=e
   show ∃N,Zex g ps x y (C.at N) (Zbg (C.at N) F) ro fr st=some o
   unfold Zex at e ⊢
   split at e
   ·cases e
   ·split at e
    ·cases e
    ·rename_i hy
     simp only[hy]
     split at e
     ·cases e
     ·split at e
      ·cases e
      ·rename_i h1
       obtain⟨N,hN⟩:=Cx.call_iff.1 h1
       exact⟨N,by rw[hN];exact e⟩
  |skip=>exact⟨0,e⟩
  |exit id=>exact⟨0,e⟩
  |ret=>exact⟨0,e⟩
  |stop=>cases e
  |scope x=>exact ih _ _ _ _ e
  |cond x y z=>
   have e:Zf2 x y z C.call (Zbg C.call F) ro fr st=some o:=e
   show ∃N,Zf2 x y z (C.at N) (Zbg (C.at N) F) ro fr st=some o
   unfold Zf2 at e ⊢
   split at e
   ·exact ih _ _ _ _ e
   ·exact ih _ _ _ _ e
   ·cases e
  |seq x y=>exact Zew (a:=C.call) (q:=fun n=>Zbg (C.at n) F) (fun _ _ h=>up h) (fun _ _ _ _ _ e=>ih _ _ _ _ e) ro (.seq x y) fr st e
  |block id x=>exact Zew (a:=C.call) (q:=fun n=>Zbg (C.at n) F) (fun _ _ h=>up h) (fun _ _ _ _ _ e=>ih _ _ _ _ e) ro (.block id x) fr st e
  |loop x=>exact Zew (a:=C.call) (q:=fun n=>Zbg (C.at n) F) (fun _ _ h=>up h) (fun _ _ _ _ _ e=>ih _ _ _ _ e) ro (.loop x) fr st e
def Cx.code_need{C:Cx}{ro c fr st r}(h:C.code ro c fr st=some r):∃N,Zbg (C.at N) N ro c fr st=some r:=by
 obtain⟨F,hF⟩:=Cx.code_iff.1 h
 obtain⟨N,hN⟩:=Zpg F _ _ _ _ hF
 exact⟨max F N,Zb5 (Cx.at_mono (Yxk F N)) _ _ (Yxo F N) _ _ _ _ _ hN⟩
def Zkm{tbl:Nat→Option Zem}{p:Zf4}{q:Nat→Zf4}(hq:∀n m,n≤m→LeC (q n) (q m))(hp:∀ro c fr st r,p ro c fr st=some r→∃n,q n ro c fr st=some r){g args st}{o:V×St}(e:Zcr tbl p g args st=some o):∃n,Zcr tbl (q n) g args st=some o:=by
 unfold Zcr at e ⊢
 split at e
 ·split at e
  ·rename_i mf _
   unfold Zgs at e ⊢
   split at e
   ·cases e
   ·rename_i h0
    simp only[h0,if_false]
    cases h1:p none mf.body {r:=Zen .nil 0 _,n:=mf.ntmps,marks:=[]} {st with w:=[]} with
    |none=>rw[h1]at e;cases e
    |some r=>
     rw[h1]at e
     obtain⟨n,hn⟩:=hp _ _ _ _ _ h1
     exact⟨n,by rw[hn];exact e⟩
  ·cases e
 ·unfold Zgj at e ⊢
  split at e
  ·split at e
   ·cases e
   ·split at e
    ·rename_i h1
     obtain⟨n,hn⟩:=hp _ _ _ _ _ h1
     split at e
     ·split at e
      ·split at e
       ·rename_i h4 h5 _ _ _ _ h2
        obtain⟨m,hm⟩:=hp _ _ _ _ _ h2
        refine⟨max n m,?_⟩
        rw[hq n _ (Yxo n m) _ _ _ _ _ hn]
        simp only[h4,h5,if_true]
        rw[hq m _ (Yxk n m) _ _ _ _ _ hm]
        exact e
       ·cases e
      ·cases e
     ·cases e
    ·cases e
  ·cases e
 ·cases e
def Cx.call_eq{C:Cx}(g:V)(args:List V)(st:St):C.call g args st=Zeh C.x (Zcr C.tbl C.code) g args st:=by
 apply Yby
 intro r
 constructor
 ·intro h
  obtain⟨N,hN⟩:=Cx.call_iff.1 h
  cases N with
  |zero=>
   have e:C.x g args st=some r:=hN
   unfold Zeh;rw[e]
  |succ N=>
   refine Zm7 (x:=C.x) (Zgz (p:=Zbg (Zg3 C.x C.tbl (N+1) N) (N+1)) fun ro c fr st r e=>?_) _ _ _ _ hN
   refine Cx.code_iff.2 ⟨N+1,?_⟩
   refine Zb5 (fun g args st r e=>?_) (N+1) (N+1) (Yus _) _ _ _ _ _ e
   exact Cx.call_iff.2 ⟨N+1,Zgr (Yus _) N (N+1) (by omega) _ _ _ _ e⟩
 ·intro h
  unfold Zeh at h
  split at h
  ·rename_i r' e
   simp only[Yup]at h
   subst h
   exact Cx.call_iff.2 ⟨0,e⟩
  ·rename_i hx
   obtain⟨N,hN⟩:=Zkm (q:=fun n=>Zbg (C.at n) n) (fun n m h=>Zb5 (Cx.at_mono h) n m h) (fun _ _ _ _ _ e=>Cx.code_need e) h
   refine Cx.call_iff.2 ⟨N+1,?_⟩
   show Zeh C.x (Zcr C.tbl (Zbg (Zg3 C.x C.tbl (N+1) N) (N+1))) g args st=some r
   unfold Zeh
   rw[hx]
   exact Zgz (Zb5 (Zgr (by omega) N N (Yus _)) N (N+1) (by omega)) _ _ _ _ hN
inductive Rs where
 |ex (e:Ex) (fr:Fr) (st:St)
 |val (v:V) (st:St)
 |ops (fr:Fr) (st:St)
 |opsD (fps:List FP) (fr:Fr) (st:St)
inductive Kf where
 |seq (ro:Option Nat) (b:Zaw)
 |block (id:Nat)
 |loop (ro:Option Nat) (c:Zaw)
 |reg
 |put (d:Option Nat) (ops:List Zbd) (fr:Fr)
 |regD (ms:List Nat)
 |putD (op:MOp) (d:Option Nat) (ops:List Zbd) (fr:Fr) (n:Nat) (w:List Nat)
 |cons (fp:FP)
 |fin (rs:List Yoh) (st:St)
def exR:Option (Ex×Fr×St)→Option Rs
 |some (e,fr,st)=>some (.ex e fr st)
 |none=>none
def Zq0:Option (V×St)→Option Rs
 |some (v,st)=>some (.val v st)
 |none=>none
def Ye8:Option (Fr×St)→Option Rs
 |some (fr,st)=>some (.ops fr st)
 |none=>none
def Zm8:Option (List FP×Fr×St)→Option Rs
 |some (fps,fr,st)=>some (.opsD fps fr st)
 |none=>none
noncomputable def Zg9(C:Cx):Kf→Rs→Option Rs
 |.seq ro b,.ex .normal fr st=>exR (C.code ro b fr st)
 |.seq _ _,.ex e fr st=>some (.ex e fr st)
 |.block id,.ex (.exit id') fr st=>match Nat.beq id' id with
  |true=>some (.ex .normal fr st)
  |false=>some (.ex (.exit id') fr st)
 |.block _,.ex e fr st=>some (.ex e fr st)
 |.loop ro c,.ex .normal fr st=>exR (C.code ro (.loop c) fr st)
 |.loop _ _,.ex e fr st=>some (.ex e fr st)
 |.reg,.ops fr st=>some (.ex .normal fr st)
 |.put d ops fr,.val v st=>match fr.put d v with
  |some fr=>Ye8 (mops C.call ops fr st)
  |none=>none
 |.regD ms,.opsD fps fr st=>match apartOk fps ms with
  |true=>some (.ex .normal fr st)
  |false=>none
 |.putD op d ops fr n w,.val v st'=>match fr.put d v with
  |some fr'=>match mopsD C.call ops fr' {st' with w:=oldIds n st'.w++w} with
   |some (fps,fr'',st'')=>some (.opsD (Zcs fr.r op (oldIds n st'.w) n st'.n::fps) fr'' st'')
   |none=>none
  |none=>none
 |.cons fp,.opsD fps fr st=>some (.opsD (fp::fps) fr st)
 |.fin _ _,.ex (.exit _) _ _=>none
 |.fin rs st0,.ex _ fr st1=>match shut st1 fr.marks with
  |none=>none
  |some st2=>match resV fr.r st2 rs with
   |some vs=>some (.val (Zrm vs) {st2 with w:=oldIds st0.n st2.w++st0.w})
   |none=>none
 |_,_=>none
noncomputable def Zer(C:Cx)(k:Kf):Option Rs→Option Rs
 |some r=>Zg9 C k r
 |none=>none
noncomputable def unw(C:Cx):List Kf→Option Rs→Option Rs
 |[],r=>r
 |k::K,r=>unw C K (Zer C k r)
def Zvq{C:Cx}:∀K,unw C K none=none
 |[]=>rfl
 |_::K=>Zvq K
structure Run (C:Cx) (K:List Kf) (r:Option Rs) (Q:Rs→Prop):Prop where
 ex:∃s,unw C K r=some s∧Q s
def Zav{C:Cx}{K K':List Kf}{r r':Option Rs}{Q:Rs→Prop}(h:unw C K r=unw C K' r'):Run C K r Q↔Run C K' r' Q:=
 ⟨fun ⟨s,e,q⟩=>⟨s,h▸e,q⟩,fun ⟨s,e,q⟩=>⟨s,h.symm▸e,q⟩⟩
def Zh0{C:Cx}{K:List Kf}{Q:Rs→Prop}:Run C K none Q↔False:=
 ⟨fun ⟨_,h,_⟩=>(by rw[Zvq]at h;cases h),fun h=>h.elim⟩
def Ylb{C:Cx}{s:Rs}{Q:Rs→Prop}:Run C [] (some s) Q↔Q s:=
 ⟨fun ⟨_,h,q⟩=>by simp only[unw,Yup]at h;exact h▸q,fun q=>⟨s,rfl,q⟩⟩
structure Call (C:Cx) (g:V) (args:List V) (st:St) (P:V→St→Prop):Prop where
 ex:∃v st',C.call g args st=some (v,st')∧P v st'
structure Code (C:Cx) (ro:Option Nat) (c:Zaw) (fr:Fr) (st:St) (P:Ex→Fr→St→Prop):Prop where
 ex:∃e fr' st',C.code ro c fr st=some (e,fr',st')∧P e fr' st'
def Yfj(P:V→St→Prop):Rs→Prop
 |.val v st=>P v st
 |_=>False
def exQ(P:Ex→Fr→St→Prop):Rs→Prop
 |.ex e fr st=>P e fr st
 |_=>False
def Yfi{P:V→St→Prop}{v st}:Yfj P (.val v st)↔P v st:=Iff.rfl
def Yp5{P:Ex→Fr→St→Prop}{e fr st}:exQ P (.ex e fr st)↔P e fr st:=Iff.rfl
def Zaa{C:Cx}{g args st P}:Call C g args st P↔Run C [] (Zq0 (C.call g args st)) (Yfj P):=by
 constructor
 ·rintro⟨v,st',h,p⟩
  exact⟨.val v st',by rw[h];rfl,p⟩
 ·rintro⟨s,h,q⟩
  cases hc:C.call g args st with
  |none=>rw[hc]at h;cases h
  |some r=>
   rw[hc]at h
   simp only[unw,Zq0,Yup]at h
   subst h
   exact⟨_,_,hc,q⟩
def Zah{C:Cx}{ro c fr st P}:Code C ro c fr st P↔Run C [] (exR (C.code ro c fr st)) (exQ P):=by
 constructor
 ·rintro⟨e,fr',st',h,p⟩
  exact⟨.ex e fr' st',by rw[h];rfl,p⟩
 ·rintro⟨s,h,q⟩
  cases hc:C.code ro c fr st with
  |none=>rw[hc]at h;cases h
  |some r=>
   rw[hc]at h
   simp only[unw,exR,Yup]at h
   subst h
   exact⟨_,_,_,hc,q⟩
def Zea{C:Cx}{g args st P K Q}(h:Call C g args st P)(k:∀v st',P v st'→Run C K (some (.val v st')) Q):Run C K (Zq0 (C.call g args st)) Q:=by
 obtain⟨v,st',e,p⟩:=h.ex
 rw[e]
 exact k v st' p
def Zbn{C:Cx}{ro c fr st P K Q}(h:Code C ro c fr st P)(k:∀e fr' st',P e fr' st'→Run C K (some (.ex e fr' st')) Q):Run C K (exR (C.code ro c fr st)) Q:=by
 obtain⟨e,fr',st',h,p⟩:=h.ex
 rw[h]
 exact k e fr' st' p
def Call.mono{C:Cx}{g args st}{P Q:V→St→Prop}(h:Call C g args st P)(k:∀v st',P v st'→Q v st'):Call C g args st Q:=by
 obtain⟨v,st',e,p⟩:=h.ex
 exact⟨v,st',e,k v st' p⟩
def Ypo(I:Nat→Fr→St→Prop)(k:Nat)(P:Ex→Fr→St→Prop):Ex→Fr→St→Prop
 |.normal,fr,st=>∃k',k'<k∧I k' fr st
 |e,fr,st=>P e fr st
def Code.loop{C:Cx}{ro c}{P:Ex→Fr→St→Prop}{I:Nat→Fr→St→Prop}(h:∀k fr st,I k fr st→Code C ro c fr st (Ypo I k P)):∀(k:Nat) (fr:Fr) (st:St),I k fr st→Code C ro (.loop c) fr st P:=by
 intro k
 induction k using Nat.strongRecOn with
 |_ k ih=>
  intro fr st hi
  obtain⟨e,fr',st',h1,p⟩:=(h k fr st hi).ex
  have e1:C.code ro (.loop c) fr st=Zim c C.call C.code ro fr st:=Cx.code_eq ro (.loop c) fr st
  unfold Zim at e1
  rw[h1]at e1
  cases e with
  |normal=>
   obtain⟨k',hk,hi'⟩:=p
   obtain⟨e2,fr2,st2,h2,p2⟩:=(ih k' hk fr' st' hi').ex
   exact⟨e2,fr2,st2,e1.trans h2,p2⟩
  |exit id=>exact⟨_,_,_,e1,p⟩
  |ret=>exact⟨_,_,_,e1,p⟩
def Yf9{C:Cx}{ro c}{K:List Kf}{Q:Rs→Prop}{fr:Fr}{st:St}(P:Ex→Fr→St→Prop)(I:Nat→Fr→St→Prop)(k:Nat)(hi:I k fr st)(h:∀k fr st,I k fr st→Code C ro c fr st (Ypo I k P))(q:∀e fr' st',P e fr' st'→Run C K (some (.ex e fr' st')) Q):Run C K (exR (C.code ro (.loop c) fr st)) Q:=
 Zbn (Code.loop h k fr st hi) q
section
variable {C:Cx} {K:List Kf} {Q:Rs→Prop} {ro:Option Nat} {a b c:Zaw} {fr:Fr} {st:St}
def Yf6:Run C K (exR (C.code ro .skip fr st)) Q↔Run C K (some (.ex .normal fr st)) Q:=Zav (by rw[Cx.code_eq];rfl)
def Yla{ops}:Run C K (exR (C.code ro (.reg ops) fr st)) Q↔Run C (.reg::K) (Ye8 (mops C.call ops fr st)) Q:=Zav (by
 rw[Cx.code_eq]
 show unw C K (exR (Zn4 ops C.call C.code ro fr st))=unw C K (Zer C .reg (Ye8 (mops C.call ops fr st)))
 unfold Zn4
 rcases mops C.call ops fr st with _|⟨_,_⟩<;>rfl)
def Yf8{ops ms}:Run C K (exR (C.code ro (.regD ops ms) fr st)) Q↔Run C (.regD ms::K) (Zm8 (mopsD C.call ops fr st)) Q:=Zav (by
 rw[Cx.code_eq]
 show unw C K (exR (Zhs ops ms C.call C.code ro fr st))=unw C K (Zer C (.regD ms) (Zm8 (mopsD C.call ops fr st)))
 unfold Zhs
 rcases mopsD C.call ops fr st with _|⟨fps,_,_⟩
 ·rfl
 ·simp only[Zm8,Zer,Zg9]
  cases apartOk fps ms<;>rfl)
def Yk8:Run C K (exR (C.code ro (.seq a b) fr st)) Q↔Run C (.seq ro b::K) (exR (C.code ro a fr st)) Q:=Zav (by
 rw[Cx.code_eq]
 show unw C K (exR (Zop a b C.call C.code ro fr st))=unw C K (Zer C (.seq ro b) (exR (C.code ro a fr st)))
 unfold Zop
 rcases C.code ro a fr st with _|⟨e,_,_⟩
 ·rfl
 ·cases e<;>rfl)
noncomputable def Yio(C:Cx)(ro:Option Nat)(a b:Zaw)(fr:Fr)(st:St):Option V→Option Rs
 |some (.bool true)=>exR (C.code ro a fr st)
 |some (.bool false)=>exR (C.code ro b fr st)
 |_=>none
def Ygc{x}:Run C K (exR (C.code ro (.cond x a b) fr st)) Q↔Run C K (Yio C ro a b fr st (x.ev fr.r)) Q:=Zav (by
 rw[Cx.code_eq]
 show unw C K (exR (Zf2 x a b C.call C.code ro fr st))=_
 unfold Zf2 Yio
 rcases x.ev fr.r with _|v
 ·rfl
 ·cases v<;>try rfl
  rename_i b'
  cases b'<;>rfl)
def Zzy:Yio C ro a b fr st (some (.bool true))=exR (C.code ro a fr st):=rfl
def Zu9:Yio C ro a b fr st (some (.bool false))=exR (C.code ro b fr st):=rfl
def Ybj{id}:Run C K (exR (C.code ro (.block id a) fr st)) Q↔Run C (.block id::K) (exR (C.code ro a fr st)) Q:=Zav (by
 rw[Cx.code_eq]
 show unw C K (exR (Zfn id a C.call C.code ro fr st))=unw C K (Zer C (.block id) (exR (C.code ro a fr st)))
 unfold Zfn
 rcases C.code ro a fr st with _|⟨e,_,_⟩
 ·rfl
 ·cases e with
  |exit id'=>simp only[exR,Zer,Zg9];cases Nat.beq id' id<;>rfl
  |_=>rfl)
def Ygb{id}:Run C K (exR (C.code ro (.exit id) fr st)) Q↔Run C K (some (.ex (.exit id) fr st)) Q:=Zav (by rw[Cx.code_eq];rfl)
def Ybi:Run C K (exR (C.code ro (.scope a) fr st)) Q↔Run C K (exR (C.code ro a fr st)) Q:=Zav (by rw[Cx.code_eq];rfl)
def Yk9:Run C K (exR (C.code ro .ret fr st)) Q↔Run C K (some (.ex .ret fr st)) Q:=Zav (by rw[Cx.code_eq];rfl)
def Zsd:Run C (.seq ro b::K) (some (.ex .normal fr st)) Q↔Run C K (exR (C.code ro b fr st)) Q:=Zav rfl
def Zy4{i}:Run C (.seq ro b::K) (some (.ex (.exit i) fr st)) Q↔Run C K (some (.ex (.exit i) fr st)) Q:=Zav rfl
def Yc7:Run C (.seq ro b::K) (some (.ex .ret fr st)) Q↔Run C K (some (.ex .ret fr st)) Q:=Zav rfl
def Zon{i}:Run C (.block i::K) (some (.ex .normal fr st)) Q↔Run C K (some (.ex .normal fr st)) Q:=Zav rfl
def Zuy{i}:Run C (.block i::K) (some (.ex .ret fr st)) Q↔Run C K (some (.ex .ret fr st)) Q:=Zav rfl
def Zse{i}:Run C (.block i::K) (some (.ex (.exit i) fr st)) Q↔Run C K (some (.ex .normal fr st)) Q:=Zav (by simp[unw,Zer,Zg9,Nat.beq_refl])
def Zql{i j}(h:Nat.beq j i=false):Run C (.block i::K) (some (.ex (.exit j) fr st)) Q↔Run C K (some (.ex (.exit j) fr st)) Q:=Zav (by simp[unw,Zer,Zg9,h])
def Ysh:Run C (.reg::K) (some (.ops fr st)) Q↔Run C K (some (.ex .normal fr st)) Q:=Zav rfl
def Ylq:Ye8 (mops C.call [] fr st)=some (.ops fr st):=rfl
def opR(C:Cx)(K:List Kf)(Q:Rs→Prop)(d:Option Nat)(op:MOp)(ops:List Zbd)(fr:Fr)(st:St):Option Bool→Prop
 |some true=>Run C (.put d ops fr::K) (Zq0 (mop op C.call fr.r st)) Q
 |some false=>Run C (.put d ops fr::K) (some (.val (.tup []) st)) Q
 |none=>False
def Ygu{d op g ops}:Run C K (Ye8 (mops C.call (⟨d,op,g⟩::ops) fr st)) Q↔opR C K Q d op ops fr st (wantedV fr.r g):=by
 have e:mops C.call (⟨d,op,g⟩::ops) fr st=Zii C.call ⟨d,op,g⟩ (mops C.call ops) fr st:=rfl
 rw[e]
 unfold Zii
 simp only[]
 rcases wantedV fr.r g with _|b
 ·exact Zh0
 ·cases b
  ·show _↔Run C (.put d ops fr::K) (some (.val (.tup []) st)) Q
   refine Zav ?_
   show _=unw C K (Zg9 C (.put d ops fr) (.val (.tup []) st))
   simp only[Zg9]
   rcases fr.put d (.tup [])with _|_<;>rfl
  ·show _↔Run C (.put d ops fr::K) (Zq0 (mop op C.call fr.r st)) Q
   refine Zav ?_
   show _=unw C K (Zer C (.put d ops fr) (Zq0 (mop op C.call fr.r st)))
   rcases mop op C.call fr.r st with _|⟨v,st'⟩
   ·rfl
   ·simp only[Zq0,Zer,Zg9]
    rcases fr.put d v with _|_<;>rfl
def Ygz{d op ops}:opR C K Q d op ops fr st (some true)↔Run C (.put d ops fr::K) (Zq0 (mop op C.call fr.r st)) Q:=Iff.rfl
def Yb3{d op ops}:opR C K Q d op ops fr st (some false)↔Run C (.put d ops fr::K) (some (.val (.tup []) st)) Q:=Iff.rfl
def Yaj{v:V}:Zq0 (some (v,st))=some (.val v st):=rfl
def Ysi{d n m r ops v}(h:d<n):Run C (.put (some d) ops ⟨r,n,m⟩::K) (some (.val v st)) Q↔Run C K (Ye8 (mops C.call ops ⟨r.set d v,n,m⟩ st)) Q:=Zav (by simp[unw,Zer,Zg9,Fr.put,h])
def Zy5{ops v}:Run C (.put none ops fr::K) (some (.val v st)) Q↔Run C K (Ye8 (mops C.call ops fr st)) Q:=Zav rfl
def Ygv:Zm8 (mopsD C.call [] fr st)=some (.opsD [] fr st):=rfl
def Ypb(C:Cx)(K:List Kf)(Q:Rs→Prop)(d:Option Nat)(op:MOp)(ops:List Zbd)(fr:Fr)(h:T O)(n:Nat)(w:List Nat):Option Bool→Prop
 |some true=>Run C (.putD op d ops fr n w::K) (Zq0 (mop op C.call fr.r ⟨h,n,[]⟩)) Q
 |some false=>Run C (.cons ⟨some [],[],n,n⟩::K) (match fr.put d (.tup [])with|some fr'=>Zm8 (mopsD C.call ops fr' ⟨h,n,w⟩)|none=>none) Q
 |none=>False
def Yb0{d op g ops h n w}:Run C K (Zm8 (mopsD C.call (⟨d,op,g⟩::ops) fr ⟨h,n,w⟩)) Q↔Ypb C K Q d op ops fr h n w (wantedV fr.r g):=by
 have e:mopsD C.call (⟨d,op,g⟩::ops) fr ⟨h,n,w⟩=Zfl C.call ⟨d,op,g⟩ (mopsD C.call ops) fr ⟨h,n,w⟩:=rfl
 rw[e]
 unfold Zfl
 simp only[]
 rcases wantedV fr.r g with _|b
 ·exact Zh0
 ·cases b
  ·show _↔Run C (.cons ⟨some [],[],n,n⟩::K) (match fr.put d (.tup [])with|some fr'=>Zm8 (mopsD C.call ops fr' ⟨h,n,w⟩)|none=>none) Q
   refine Zav ?_
   show _=unw C K (Zer C (.cons ⟨some [],[],n,n⟩) _)
   rcases fr.put d (.tup [])with _|fr'
   ·rfl
   ·simp only[]
    rcases mopsD C.call ops fr' ⟨h,n,w⟩with _|⟨_,_,_⟩<;>rfl
  ·show _↔Run C (.putD op d ops fr n w::K) (Zq0 (mop op C.call fr.r ⟨h,n,[]⟩)) Q
   refine Zav ?_
   show _=unw C K (Zer C (.putD op d ops fr n w) (Zq0 (mop op C.call fr.r ⟨h,n,[]⟩)))
   rcases mop op C.call fr.r ⟨h,n,[]⟩with _|⟨v,st'⟩
   ·rfl
   ·simp only[Zq0,Zer,Zg9]
    rcases fr.put d v with _|fr'
    ·rfl
    ·simp only[]
     rcases mopsD C.call ops fr' {st' with w:=oldIds n st'.w++w} with _|⟨_,_,_⟩<;>rfl
def Yb4{d op ops h n w}:Ypb C K Q d op ops fr h n w (some true)↔Run C (.putD op d ops fr n w::K) (Zq0 (mop op C.call fr.r ⟨h,n,[]⟩)) Q:=Iff.rfl
def Zya{d n m r ops op h N w}(hd:d<n):Ypb C K Q (some d) op ops ⟨r,n,m⟩ h N w (some false)↔Run C (.cons ⟨some [],[],N,N⟩::K) (Zm8 (mopsD C.call ops ⟨r.set d (.tup []),n,m⟩ ⟨h,N,w⟩)) Q:=by simp[Ypb,Fr.put,hd]
def Zue{ops op h N w}:Ypb C K Q none op ops fr h N w (some false)↔Run C (.cons ⟨some [],[],N,N⟩::K) (Zm8 (mopsD C.call ops fr ⟨h,N,w⟩)) Q:=Iff.rfl
def Yps{op d n m r ops v N w h' n' w'}(h:d<n):Run C (.putD op (some d) ops ⟨r,n,m⟩ N w::K) (some (.val v ⟨h',n',w'⟩)) Q↔Run C (.cons (Zcs r op (oldIds N w') N n')::K) (Zm8 (mopsD C.call ops ⟨r.set d v,n,m⟩ ⟨h',n',oldIds N w'++w⟩)) Q:=Zav (by
 simp only[unw,Zer,Zg9,Fr.put,h,if_true]
 rcases mopsD C.call ops _ _ with _|⟨_,_,_⟩<;>rfl)
def Zux{op ops v N w h' n' w'}:Run C (.putD op none ops fr N w::K) (some (.val v ⟨h',n',w'⟩)) Q↔Run C (.cons (Zcs fr.r op (oldIds N w') N n')::K) (Zm8 (mopsD C.call ops fr ⟨h',n',oldIds N w'++w⟩)) Q:=Zav (by
 simp only[unw,Zer,Zg9,Fr.put]
 rcases mopsD C.call ops _ _ with _|⟨_,_,_⟩<;>rfl)
def Ypt{fp fps}:Run C (.cons fp::K) (some (.opsD fps fr st)) Q↔Run C K (some (.opsD (fp::fps) fr st)) Q:=Zav rfl
def Zij{ms fps}(h:apartOk fps ms=true):Run C (.regD ms::K) (some (.opsD fps fr st)) Q↔Run C K (some (.ex .normal fr st)) Q:=Zav (by simp only[unw,Zer,Zg9,h])
def Yga{g first caps args mf}(hx:C.x (.func g first caps) args st=none)(h:C.tbl g=some mf)(hl:(first++args++caps).length≤mf.ntmps):Run C K (Zq0 (C.call (.func g first caps) args st)) Q↔Run C (.fin mf.results st::K) (exR (C.code none mf.body ⟨Zen .nil 0 (first++args++caps),mf.ntmps,[]⟩ ⟨st.h,st.n,[]⟩)) Q:=Zav (by
 rw[Cx.call_eq]
 unfold Zeh
 rw[hx]
 simp only[Zcr,h,Zgs,Yxu.2 hl,if_false]
 show _=unw C K (Zer C (.fin mf.results st) _)
 unfold Zu1
 rcases C.code none mf.body _ _ with _|⟨e,fr1,st1⟩
 ·rfl
 ·cases e with
  |exit=>rfl
  |normal=>
   simp only[exR,Zer,Zg9]
   rcases shut st1 fr1.marks with _|st2
   ·rfl
   ·simp only[]
    rcases resV fr1.r st2 mf.results with _|_<;>rfl
  |ret=>
   simp only[exR,Zer,Zg9]
   rcases shut st1 fr1.marks with _|st2
   ·rfl
   ·simp only[]
    rcases resV fr1.r st2 mf.results with _|_<;>rfl)
def Ysl(h:T O)(n:Nat)(w:List Nat):Option (List V)→Option Rs
 |some vs=>some (.val (Zrm vs) ⟨h,n,w⟩)
 |none=>none
def Ydr{h n w vs}:Ysl h n w (some vs)=some (.val (Zrm vs) ⟨h,n,w⟩):=rfl
def Yc8{rs r n h1 n1 w1}:Run C (.fin rs st::K) (some (.ex .ret ⟨r,n,[]⟩ ⟨h1,n1,w1⟩)) Q↔Run C K (Ysl h1 n1 (oldIds st.n w1++st.w) (resV r ⟨h1,n1,w1⟩ rs)) Q:=Zav (by
 simp only[unw,Zer,Zg9,shut]
 rcases resV r ⟨h1,n1,w1⟩ rs with _|_<;>rfl)
def Yc9{rs r n h1 n1 w1}:Run C (.fin rs st::K) (some (.ex .normal ⟨r,n,[]⟩ ⟨h1,n1,w1⟩)) Q↔Run C K (Ysl h1 n1 (oldIds st.n w1++st.w) (resV r ⟨h1,n1,w1⟩ rs)) Q:=Zav (by
 simp only[unw,Zer,Zg9,shut]
 rcases resV r ⟨h1,n1,w1⟩ rs with _|_<;>rfl)
end
def Zur(a):mop (.convStr a)=Ze1 a:=rfl
def Zr0(a b):mop (.strBytes a b)=Zck a b:=rfl
def Zr5(a):mop (.bytesStr a)=Zc6 a:=rfl
def Zuo(a b):mop (.mkiface a b)=Ze0 a b:=rfl
def Ycj:mop .mkmap=Zh3:=rfl
def Zyi(a b):mop (.mkchan a b)=Zej a b:=rfl
def Zun(a b c d e f):mop (.mkslice a b c d e f)=Zcq a b c d e f:=rfl
def Zr1(a b c):mop (.sliceStr a b c)=Zbo a b c:=rfl
def Zul(a b c d e):mop (.sliceSl a b c d e)=Za4 a b c d e:=rfl
def Zr2(a b c d e f):mop (.sliceArr a b c d e f)=Zbv a b c d e f:=rfl
def Zyn(a b c d e):mop (.idxArr a b c d e)=Zfr a b c d e:=rfl
def Zym(a b):mop (.idxStr a b)=Zel a b:=rfl
def Zyk(a b c d e):mop (.lookup a b c d e)=Ze8 a b c d e:=rfl
def Zyj(a b c d):mop (.mapset a b c d)=Zek a b c d:=rfl
def Zr3(a):mop (.rangeStr a)=Zc5 a:=rfl
def Zum(a):mop (.nextStr a)=Zd2 a:=rfl
def Zyl(a):mop (.lenArr a)=Zhd a:=rfl
def Yl7(a):mop (.cap a)=Zo9 a:=rfl
def Ypl(a):mop (.mn a)=Zlu a:=rfl
def Ypk(a):mop (.mx a)=Zgl a:=rfl
def Zyp(a b c d e f):mop (.append a b c d e f)=Zdo a b c d e f:=rfl
def Yg7(a b c):mop (.copy a b c)=Zhe a b c:=rfl
def Ycn(a b c):mop (.clear a b c)=Zh4 a b c:=rfl
def Yl3(a b):mop (.uns a b)=Zjx a b:=rfl
def Ych(a):mop (.sdata a)=Zh2 a:=rfl
def Yg4(a b c):mop (.ustr a b c)=Zk3 a b c:=rfl
def Yl6(a b):mop (.ext a b)=Zna a b:=rfl
def Ym8{ng k x y}:eqV ng (.prim k) x y=Zae ng k x y:=by cases x<;>cases y<;>rfl
attribute [simp] Ylb Yfi Yp5 Yf6 Yla Yf8 Yk8 Ygc Zzy Zu9 Ybj Ygb Ybi Yk9 Zsd Zy4 Yc7 Zon Zuy Zse Ysh Ylq Ygu Ygz Yb3 Yaj Ysi Zy5
 Ygv Yb0 Yb4 Zya Zue Yps Zux Ypt Zij Ydr Yc8 Yc9
 Zur Zr0 Zr5 Zuo Ycj Zyi Zun Zr1 Zul Zr2 Zyn Zym Zyk Zyj Zr3 Zum Zyl Yl7 Ypl Ypk Zyp Yg7 Ycn Yl3 Ych Yg4 Yl6 Ym8
structure Keeps (h:T O) (n:Nat) (h':T O) (n':Nat):Prop where
 le:n≤n'
 get:∀i,i<n→h'.get i=h.get i
def Keeps.refl{h:T O}{n:Nat}:Keeps h n h n:=⟨Yus _,fun _ _=>rfl⟩
def Keeps.trans{h h1 h2:T O}{n n1 n2:Nat}(a:Keeps h n h1 n1)(b:Keeps h1 n1 h2 n2):Keeps h n h2 n2:=
 ⟨Yv4 a.le b.le,fun i hi=>(b.get i (Yu0 hi a.le)).trans (a.get i hi)⟩
def Keeps.set{h h1:T O}{n n1:Nat}{i:Nat}{o:O}(hi:n≤i)(a:Keeps h n h1 n1):Keeps h n (h1.set i o) n1:=
 ⟨a.le,fun j hj=>by rw[T.get_set,Yur (by omega)];exact a.get j hj⟩
def Keeps.up{h h1:T O}{n n1 n2:Nat}(a:Keeps h n h1 n1)(hn:n1≤n2):Keeps h n h1 n2:=⟨Yv4 a.le hn,a.get⟩
def Ret(P:V→T O→Nat→Prop)(h:T O)(n:Nat)(w:List Nat)(v:V)(st:St):Prop:=st.w=w∧Keeps h n st.h st.n∧P v st.h st.n
abbrev Fn(C:Cx)(f:Nat)(args:List V)(h:T O)(n:Nat)(P:V→T O→Nat→Prop):Prop:=∀w,Call C (.func f [] []) args ⟨h,n,w⟩ (Ret P h n w)
def Zab{C:Cx}{f args h n w P K Q}(hf:Fn C f args h n P)(k:∀v h' n',Keeps h n h' n'→P v h' n'→Run C K (some (.val v ⟨h',n',w⟩)) Q):Run C K (Zq0 (C.call (.func f [] []) args ⟨h,n,w⟩)) Q:=
 Zea (hf w) fun v st'=>by
  obtain⟨h',n',w'⟩:=st'
  rintro⟨rfl,hk,hp⟩
  exact k v h' n' hk hp
def Zpa{N:Nat}:∀{w:List Nat},(∀i∈w,N≤i)→oldIds N w=[]
 |[],_=>rfl
 |i::w,h=>by
  have:=h i Yvg
  simp only[oldIds,Yxu.2 this,if_false]
  exact Zpa fun j hj=>h j (Yu1 _ hj)
end Go.Mx
