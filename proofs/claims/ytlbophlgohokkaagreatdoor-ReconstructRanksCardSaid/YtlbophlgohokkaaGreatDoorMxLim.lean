/-
  Runs without a count of steps: what a call and a piece of code come to, if they come to an end.
-/
import Derived.Test.YtlbophlgohokkaaGreatDoorMxTab
set_option linter.all false
namespace Go.Mx
open Go
def Le(a b:Zay):Prop:=∀g args st r,a g args st=some r→b g args st=some r
theorem Zk2{a b:Zay}(h:Le a b)(op:MOp)(r:T V)(st:St){o:V×St}(e:mop op a r st=some o):mop op b r st=some o:=by
 cases op<;>try exact e
 rename_i f args
 show Zea f args b r st=some o
 have e:Zea f args a r st=some o:=e
 unfold Zea at e ⊢
 split at e
 ·exact h _ _ _ _ e
 ·cases e
theorem Zgn{a b:Zay}(h:Le a b):∀(ops:List Zbc) (fr:Fr) (st:St) {o:Fr×St},mops a ops fr st=some o→mops b ops fr st=some o
 |[],_,_,_,e=>e
 |q::ops,fr,st,o,e=>by
  have e:Zhp a q (mops a ops) fr st=some o:=e
  show Zhp b q (mops b ops) fr st=some o
  unfold Zhp at e ⊢
  split at e
  ·split at e
   ·rename_i v st' h1
    rw[Zk2 h _ _ _ h1]
    simp only[]
    split at e
    ·exact Zgn h ops _ _ e
    ·cases e
   ·cases e
  ·split at e
   ·exact Zgn h ops _ _ e
   ·cases e
  ·cases e
theorem Zhd{a b:Zay}(h:Le a b):∀(ops:List Zbc) (fr:Fr) (st:St) {o:List FP×Fr×St},mopsD a ops fr st=some o→mopsD b ops fr st=some o
 |[],_,_,_,e=>e
 |q::ops,fr,st,o,e=>by
  have e:Ze2 a q (mopsD a ops) fr st=some o:=e
  show Ze2 b q (mopsD b ops) fr st=some o
  unfold Ze2 at e ⊢
  split at e
  ·split at e
   ·rename_i v st' h1
    rw[Zk2 h _ _ _ h1]
    simp only[]
    split at e
    ·split at e
     ·rename_i h2
      rw[Zhd h ops _ _ h2]
      exact e
     ·cases e
    ·cases e
   ·cases e
  ·split at e
   ·split at e
    ·rename_i h2
     rw[Zhd h ops _ _ h2]
     exact e
    ·cases e
   ·cases e
  ·cases e
def LeC(a b:Zfh):Prop:=∀ro c fr st r,a ro c fr st=some r→b ro c fr st=some r
theorem Zjk{a b:Zay}{p q:Zfh}(h:Le a b)(hc:LeC p q)(ro:Option Nat)(c:Zae)(fr:Fr)(st:St){o:Ex×Fr×St}(e:Za7 c a p ro fr st=some o):Za7 c b q ro fr st=some o:=by
 cases c with
 |skip=>exact e
 |reg ops=>
  have e:Zmi ops a p ro fr st=some o:=e
  show Zmi ops b q ro fr st=some o
  unfold Zmi at e ⊢
  split at e
  ·rename_i h1;rw[Zgn h _ _ _ h1];exact e
  ·cases e
 |regD ops ms=>
  have e:Zgz ops ms a p ro fr st=some o:=e
  show Zgz ops ms b q ro fr st=some o
  unfold Zgz at e ⊢
  split at e
  ·rename_i h1;rw[Zhd h _ _ _ h1];exact e
  ·cases e
 |regS dst ch send zero ops=>
  have e:Zgy dst ch send zero ops a p ro fr st=some o:=e
  show Zgy dst ch send zero ops b q ro fr st=some o
  unfold Zgy at e ⊢
  split at e
  ·split at e
   ·split at e
    ·split at e
     ·rename_i h1;rw[Zgn h _ _ _ h1];exact e
     ·cases e
    ·cases e
   ·cases e
  ·cases e
 |seq x y=>
  have e:Zmz x y a p ro fr st=some o:=e
  show Zmz x y b q ro fr st=some o
  unfold Zmz at e ⊢
  split at e
  ·rename_i h1;rw[hc _ _ _ _ _ h1];exact hc _ _ _ _ _ e
  ·rename_i h1
   have:=hc _ _ _ _ _ e
   rw[this]
   rcases o with⟨_|_|_,_,_⟩
   ·exact absurd e (h1 _ _)
   ·rfl
   ·rfl
 |cond x y z=>
  have e:Zfe x y z a p ro fr st=some o:=e
  show Zfe x y z b q ro fr st=some o
  unfold Zfe at e ⊢
  split at e
  ·exact hc _ _ _ _ _ e
  ·exact hc _ _ _ _ _ e
  ·cases e
 |block id x=>
  have e:Ze5 id x a p ro fr st=some o:=e
  show Ze5 id x b q ro fr st=some o
  unfold Ze5 at e ⊢
  split at e
  ·rename_i h1;rw[hc _ _ _ _ _ h1];exact e
  ·rename_i h1
   have:=hc _ _ _ _ _ e
   rw[this]
   rcases o with⟨_|_|_,_,_⟩
   ·rfl
   ·exact absurd e (h1 _ _ _)
   ·rfl
 |loop x=>
  have e:Zhr x a p ro fr st=some o:=e
  show Zhr x b q ro fr st=some o
  unfold Zhr at e ⊢
  split at e
  ·rename_i h1;rw[hc _ _ _ _ _ h1];exact hc _ _ _ _ _ e
  ·rename_i h1
   have:=hc _ _ _ _ _ e
   rw[this]
   rcases o with⟨_|_|_,_,_⟩
   ·exact absurd e (h1 _ _)
   ·rfl
   ·rfl
 |rangef g ps x y=>
  have e:Zdk g ps x y a p ro fr st=some o:=e
  show Zdk g ps x y b q ro fr st=some o
  unfold Zdk at e ⊢
  split at e
  ·cases e
  ·split at e
   ·cases e
   ·rename_i hy
    simp only[hy]
    split at e
    ·cases e
    ·split at e
     ·cases e
     ·rename_i h1;rw[h _ _ _ _ h1];exact e
 |exit id=>exact e
 |scope x=>exact hc _ _ _ _ _ e
 |ret=>exact e
 |stop=>exact e
theorem Zbt{a b:Zay}(h:Le a b):∀(F F':Nat),F≤F'→LeC (Zbe a F) (Zbe b F')
 |0,_,_=>fun _ _ _ _ _ e=>by cases e
 |F+1,0,hF=>by omega
 |F+1,F'+1,hF=>fun ro c fr st _ e=>Zjk h (Zbt h F F' (by omega)) ro c fr st e
theorem Zqq{p q:Zfh}(h:LeC p q){mf:Zd8}{args:List V}{st:St}{o:V×St}(e:Zf1 mf p args st=some o):Zf1 mf q args st=some o:=by
 unfold Zf1 at e ⊢
 split at e
 ·cases e
 ·rename_i h0
  rw[Yo0 h0]
  cases h1:p none mf.body {r:=Zd9 .nil 0 args,n:=mf.ntmps,marks:=[]} {st with w:=[]} with
  |none=>rw[h1]at e;cases e
  |some r=>rw[h1]at e;rw[h _ _ _ _ _ h1];exact e
theorem Zog{p q:Zfh}(h:LeC p q){l:Nat}{args:List V}{st:St}{o:V×St}(e:Zee p l args st=some o):Zee q l args st=some o:=by
 unfold Zee at e ⊢
 split at e
 ·split at e
  ·cases e
  ·split at e
   ·rename_i h1
    rw[h _ _ _ _ _ h1]
    simp only[]
    split at e
    ·split at e
     ·rename_i hr
      rw[Yo4 hr]
      split at e
      ·rename_i h2
       rw[h _ _ _ _ _ h2]
       exact e
      ·cases e
     ·cases e
    ·cases e
   ·cases e
 ·cases e
theorem Zf6{tbl:Nat→Option Zd8}{p q:Zfh}(h:LeC p q):Le (Zcg tbl p) (Zcg tbl q):=by
 intro g args st o e
 unfold Zcg at e ⊢
 split at e
 ·split at e
  ·exact Zqq h e
  ·cases e
 ·exact Zog h e
 ·cases e
theorem Zlq{x a b:Zay}(h:Le a b):Le (Zdm x a) (Zdm x b):=by
 intro g args st o e
 unfold Zdm at e ⊢
 split at e
 ·exact e
 ·exact h _ _ _ _ e
theorem Zf0{x:Zay}{tbl:Nat→Option Zd8}{F F':Nat}(hF:F≤F'):∀(d d':Nat),d≤d'→Le (Zf8 x tbl F d) (Zf8 x tbl F' d')
 |0,0,_=>fun _ _ _ _ e=>e
 |0,d'+1,_=>fun g args st o e=>by
  have e:x g args st=some o:=e
  show Zdm x _ g args st=some o
  unfold Zdm;rw[e]
 |d+1,0,h=>by omega
 |d+1,d'+1,h=>Zlq (Zf6 (Zbt (Zf0 hF d d' (by omega)) F F' hF))
structure Cx where
 x:Zay
 tbl:Nat→Option Zd8
def Cx.at(C:Cx)(N:Nat):Zay:=Zf8 C.x C.tbl N N
theorem Cx.at_mono{C:Cx}{N M:Nat}(h:N≤M):Le (C.at N) (C.at M):=Zf0 h N M h
open Classical in
noncomputable def Cx.call(C:Cx):Zay:=fun g args st=>if h:∃r N,C.at N g args st=some r then some h.choose else none
theorem Cx.call_iff{C:Cx}{g args st r}:C.call g args st=some r↔∃N,C.at N g args st=some r:=by
 unfold Cx.call
 constructor
 ·intro h
  split at h
  ·rename_i hc
   simp only[Yox]at h
   exact h▸hc.choose_spec
  ·cases h
 ·rintro⟨N,h⟩
  have hc:∃r N,C.at N g args st=some r:=⟨r,N,h⟩
  rw[dif_pos hc]
  obtain⟨M,hM⟩:=hc.choose_spec
  have h1:=Cx.at_mono (Yrt N M) _ _ _ _ h
  have h2:=Cx.at_mono (Yrm N M) _ _ _ _ hM
  rw[h1]at h2
  exact congrArg some (Yp8 h2).symm
open Classical in
noncomputable def Cx.code(C:Cx):Zfh:=fun ro c fr st=>if h:∃r F,Zbe C.call F ro c fr st=some r then some h.choose else none
theorem Cx.code_iff{C:Cx}{ro c fr st r}:C.code ro c fr st=some r↔∃F,Zbe C.call F ro c fr st=some r:=by
 unfold Cx.code
 constructor
 ·intro h
  split at h
  ·rename_i hc
   simp only[Yox]at h
   exact h▸hc.choose_spec
  ·cases h
 ·rintro⟨N,h⟩
  have hc:∃r F,Zbe C.call F ro c fr st=some r:=⟨r,N,h⟩
  rw[dif_pos hc]
  obtain⟨M,hM⟩:=hc.choose_spec
  have h1:=Zbt (fun _ _ _ _ e=>e) N (max N M) (Yrt N M) _ _ _ _ _ h
  have h2:=Zbt (fun _ _ _ _ e=>e) M (max N M) (Yrm N M) _ _ _ _ _ hM
  rw[h1]at h2
  exact congrArg some (Yp8 h2).symm
theorem Zyx{α:Type}{a b:Option α}(h:∀r,a=some r↔b=some r):a=b:=by
 cases a with
 |none=>cases b with
  |none=>rfl
  |some r=>exact absurd ((h r).2 rfl) (by simp)
 |some r=>exact((h r).1 rfl).symm
theorem Zej{a:Zay}{p:Zfh}{q:Nat→Zfh}(hq:∀n m,n≤m→LeC (q n) (q m))(hp:∀ro c fr st r,p ro c fr st=some r→∃n,q n ro c fr st=some r)(ro:Option Nat)(c:Zae)(fr:Fr)(st:St){o:Ex×Fr×St}(e:Za7 c a p ro fr st=some o):∃n,Za7 c a (q n) ro fr st=some o:=by
 cases c with
 |skip=>exact⟨0,e⟩
 |reg ops=>exact⟨0,e⟩
 |regD ops ms=>exact⟨0,e⟩
 |regS dst ch send zero ops=>exact⟨0,e⟩
 |seq x y=>
  have e:Zmz x y a p ro fr st=some o:=e
  show ∃n,Zmz x y a (q n) ro fr st=some o
  unfold Zmz at e ⊢
  split at e
  ·rename_i h1
   obtain⟨n,hn⟩:=hp _ _ _ _ _ h1
   obtain⟨m,hm⟩:=hp _ _ _ _ _ e
   refine⟨max n m,?_⟩
   rw[hq n _ (Yrt n m) _ _ _ _ _ hn]
   exact hq m _ (Yrm n m) _ _ _ _ _ hm
  ·rename_i h1
   obtain⟨n,hn⟩:=hp _ _ _ _ _ e
   refine⟨n,?_⟩
   rw[hn]
   rcases o with⟨_|_|_,_,_⟩
   ·exact absurd e (h1 _ _)
   ·rfl
   ·rfl
 |cond x y z=>
  have e:Zfe x y z a p ro fr st=some o:=e
  show ∃n,Zfe x y z a (q n) ro fr st=some o
  unfold Zfe at e ⊢
  split at e
  ·exact hp _ _ _ _ _ e
  ·exact hp _ _ _ _ _ e
  ·cases e
 |block id x=>
  have e:Ze5 id x a p ro fr st=some o:=e
  show ∃n,Ze5 id x a (q n) ro fr st=some o
  unfold Ze5 at e ⊢
  split at e
  ·rename_i h1
   obtain⟨n,hn⟩:=hp _ _ _ _ _ h1
   exact⟨n,by rw[hn];exact e⟩
  ·rename_i h1
   obtain⟨n,hn⟩:=hp _ _ _ _ _ e
   refine⟨n,?_⟩
   rw[hn]
   rcases o with⟨_|_|_,_,_⟩
   ·rfl
   ·exact absurd e (h1 _ _ _)
   ·rfl
 |loop x=>
  have e:Zhr x a p ro fr st=some o:=e
  show ∃n,Zhr x a (q n) ro fr st=some o
  unfold Zhr at e ⊢
  split at e
  ·rename_i h1
   obtain⟨n,hn⟩:=hp _ _ _ _ _ h1
   obtain⟨m,hm⟩:=hp _ _ _ _ _ e
   refine⟨max n m,?_⟩
   rw[hq n _ (Yrt n m) _ _ _ _ _ hn]
   exact hq m _ (Yrm n m) _ _ _ _ _ hm
  ·rename_i h1
   obtain⟨n,hn⟩:=hp _ _ _ _ _ e
   refine⟨n,?_⟩
   rw[hn]
   rcases o with⟨_|_|_,_,_⟩
   ·exact absurd e (h1 _ _)
   ·rfl
   ·rfl
 |rangef g ps x y=>exact⟨0,e⟩
 |exit id=>exact⟨0,e⟩
 |scope x=>exact hp _ _ _ _ _ e
 |ret=>exact⟨0,e⟩
 |stop=>exact⟨0,e⟩
theorem Cx.code_eq{C:Cx}(ro:Option Nat)(c:Zae)(fr:Fr)(st:St):C.code ro c fr st=Za7 c C.call C.code ro fr st:=by
 apply Zyx
 intro r
 constructor
 ·intro h
  obtain⟨F,hF⟩:=Cx.code_iff.1 h
  cases F with
  |zero=>cases hF
  |succ F=>exact Zjk (fun _ _ _ _ e=>e) (fun ro c fr st r e=>Cx.code_iff.2 ⟨F,e⟩) ro c fr st hF
 ·intro h
  obtain⟨n,hn⟩:=Zej (q:=Zbe C.call) (Zbt fun _ _ _ _ e=>e) (fun _ _ _ _ _ e=>Cx.code_iff.1 e) ro c fr st h
  exact Cx.code_iff.2 ⟨n+1,hn⟩
theorem Zt4{C:Cx}(op:MOp)(r:T V)(st:St){o:V×St}(e:mop op C.call r st=some o):∃N,mop op (C.at N) r st=some o:=by
 cases op<;>try exact⟨0,e⟩
 rename_i f args
 have e:Zea f args C.call r st=some o:=e
 show ∃N,Zea f args (C.at N) r st=some o
 unfold Zea at e ⊢
 split at e
 ·exact Cx.call_iff.1 e
 ·cases e
theorem Zi8{C:Cx}:∀(ops:List Zbc) (fr:Fr) (st:St) {o:Fr×St},mops C.call ops fr st=some o→∃N,mops (C.at N) ops fr st=some o
 |[],_,_,_,e=>⟨0,e⟩
 |q::ops,fr,st,o,e=>by
  have e:Zhp C.call q (mops C.call ops) fr st=some o:=e
  show ∃N,Zhp (C.at N) q (mops (C.at N) ops) fr st=some o
  unfold Zhp at e ⊢
  split at e
  ·split at e
   ·rename_i v st' h1
    split at e
    ·obtain⟨N,hN⟩:=Zt4 _ _ _ h1
     obtain⟨M,hM⟩:=Zi8 ops _ _ e
     refine⟨max N M,?_⟩
     rw[Zk2 (Cx.at_mono (Yrt N M)) _ _ _ hN]
     rename_i h3
     simp only[h3]
     exact Zgn (Cx.at_mono (Yrm N M)) _ _ _ hM
    ·cases e
   ·cases e
  ·split at e
   ·exact Zi8 ops _ _ e
   ·cases e
  ·cases e
theorem Zj1{C:Cx}:∀(ops:List Zbc) (fr:Fr) (st:St) {o:List FP×Fr×St},mopsD C.call ops fr st=some o→∃N,mopsD (C.at N) ops fr st=some o
 |[],_,_,_,e=>⟨0,e⟩
 |q::ops,fr,st,o,e=>by
  have e:Ze2 C.call q (mopsD C.call ops) fr st=some o:=e
  show ∃N,Ze2 (C.at N) q (mopsD (C.at N) ops) fr st=some o
  unfold Ze2 at e ⊢
  split at e
  ·split at e
   ·rename_i v st' h1
    split at e
    ·rename_i h3
     split at e
     ·rename_i h2
      obtain⟨N,hN⟩:=Zt4 _ _ _ h1
      obtain⟨M,hM⟩:=Zj1 ops _ _ h2
      refine⟨max N M,?_⟩
      rw[Zk2 (Cx.at_mono (Yrt N M)) _ _ _ hN]
      simp only[h3]
      rw[Zhd (Cx.at_mono (Yrm N M)) _ _ _ hM]
      exact e
     ·cases e
    ·cases e
   ·cases e
  ·split at e
   ·split at e
    ·rename_i h2
     obtain⟨M,hM⟩:=Zj1 ops _ _ h2
     exact⟨M,by rw[hM];exact e⟩
    ·cases e
   ·cases e
  ·cases e
theorem Znq{C:Cx}:∀(F:Nat) (ro:Option Nat) (c:Zae) (fr:Fr) (st:St) {o:Ex×Fr×St},Zbe C.call F ro c fr st=some o→∃N,Zbe (C.at N) F ro c fr st=some o
 |0,_,_,_,_,_,e=>by cases e
 |F+1,ro,c,fr,st,o,e=>by
  have e:Za7 c C.call (Zbe C.call F) ro fr st=some o:=e
  show ∃N,Za7 c (C.at N) (Zbe (C.at N) F) ro fr st=some o
  have ih:=@Znq C F
  have up:∀{n m:Nat},n≤m→LeC (Zbe (C.at n) F) (Zbe (C.at m) F):=fun h=>Zbt (Cx.at_mono h) F F (Yoy _)
  cases c with
  |reg ops=>
   have e:Zmi ops C.call (Zbe C.call F) ro fr st=some o:=e
   show ∃N,Zmi ops (C.at N) (Zbe (C.at N) F) ro fr st=some o
   unfold Zmi at e ⊢
   split at e
   ·rename_i h1
    obtain⟨N,hN⟩:=Zi8 _ _ _ h1
    exact⟨N,by rw[hN];exact e⟩
   ·cases e
  |regD ops ms=>
   have e:Zgz ops ms C.call (Zbe C.call F) ro fr st=some o:=e
   show ∃N,Zgz ops ms (C.at N) (Zbe (C.at N) F) ro fr st=some o
   unfold Zgz at e ⊢
   split at e
   ·rename_i h1
    obtain⟨N,hN⟩:=Zj1 _ _ _ h1
    exact⟨N,by rw[hN];exact e⟩
   ·cases e
  |regS dst ch send zero ops=>
   have e:Zgy dst ch send zero ops C.call (Zbe C.call F) ro fr st=some o:=e
   show ∃N,Zgy dst ch send zero ops (C.at N) (Zbe (C.at N) F) ro fr st=some o
   unfold Zgy at e ⊢
   split at e
   ·split at e
    ·split at e
     ·split at e
      ·rename_i h1
       obtain⟨N,hN⟩:=Zi8 _ _ _ h1
       exact⟨N,by rw[hN];exact e⟩
      ·cases e
     ·cases e
    ·cases e
   ·cases e
  |rangef g ps x y=>
   have e:Zdk g ps x y C.call (Zbe C.call F) ro fr st=some o:=e
   show ∃N,Zdk g ps x y (C.at N) (Zbe (C.at N) F) ro fr st=some o
   unfold Zdk at e ⊢
   split at e
   ·cases e
   ·split at e
    ·cases e
    ·rename_i hy
     simp only[hy]
     split at e
     ·cases e
     ·split at e
      ·cases e
      ·rename_i h1
       obtain⟨N,hN⟩:=Cx.call_iff.1 h1
       exact⟨N,by rw[hN];exact e⟩
  |skip=>exact⟨0,e⟩
  |exit id=>exact⟨0,e⟩
  |ret=>exact⟨0,e⟩
  |stop=>cases e
  |scope x=>exact ih _ _ _ _ e
  |cond x y z=>
   have e:Zfe x y z C.call (Zbe C.call F) ro fr st=some o:=e
   show ∃N,Zfe x y z (C.at N) (Zbe (C.at N) F) ro fr st=some o
   unfold Zfe at e ⊢
   split at e
   ·exact ih _ _ _ _ e
   ·exact ih _ _ _ _ e
   ·cases e
  |seq x y=>exact Zej (a:=C.call) (q:=fun n=>Zbe (C.at n) F) (fun _ _ h=>up h) (fun _ _ _ _ _ e=>ih _ _ _ _ e) ro (.seq x y) fr st e
  |block id x=>exact Zej (a:=C.call) (q:=fun n=>Zbe (C.at n) F) (fun _ _ h=>up h) (fun _ _ _ _ _ e=>ih _ _ _ _ e) ro (.block id x) fr st e
  |loop x=>exact Zej (a:=C.call) (q:=fun n=>Zbe (C.at n) F) (fun _ _ h=>up h) (fun _ _ _ _ _ e=>ih _ _ _ _ e) ro (.loop x) fr st e
theorem Cx.code_need{C:Cx}{ro c fr st r}(h:C.code ro c fr st=some r):∃N,Zbe (C.at N) N ro c fr st=some r:=by
 obtain⟨F,hF⟩:=Cx.code_iff.1 h
 obtain⟨N,hN⟩:=Znq F _ _ _ _ hF
 exact⟨max F N,Zbt (Cx.at_mono (Yrm F N)) _ _ (Yrt F N) _ _ _ _ _ hN⟩
theorem Zjm{tbl:Nat→Option Zd8}{p:Zfh}{q:Nat→Zfh}(hq:∀n m,n≤m→LeC (q n) (q m))(hp:∀ro c fr st r,p ro c fr st=some r→∃n,q n ro c fr st=some r){g args st}{o:V×St}(e:Zcg tbl p g args st=some o):∃n,Zcg tbl (q n) g args st=some o:=by
 unfold Zcg at e ⊢
 split at e
 ·split at e
  ·rename_i mf _
   unfold Zf1 at e ⊢
   split at e
   ·cases e
   ·rename_i h0
    simp only[h0,if_false]
    cases h1:p none mf.body {r:=Zd9 .nil 0 _,n:=mf.ntmps,marks:=[]} {st with w:=[]} with
    |none=>rw[h1]at e;cases e
    |some r=>
     rw[h1]at e
     obtain⟨n,hn⟩:=hp _ _ _ _ _ h1
     exact⟨n,by rw[hn];exact e⟩
  ·cases e
 ·unfold Zee at e ⊢
  split at e
  ·split at e
   ·cases e
   ·split at e
    ·rename_i h1
     obtain⟨n,hn⟩:=hp _ _ _ _ _ h1
     split at e
     ·split at e
      ·split at e
       ·rename_i h4 h5 _ _ _ _ h2
        obtain⟨m,hm⟩:=hp _ _ _ _ _ h2
        refine⟨max n m,?_⟩
        rw[hq n _ (Yrt n m) _ _ _ _ _ hn]
        simp only[h4,h5,if_true]
        rw[hq m _ (Yrm n m) _ _ _ _ _ hm]
        exact e
       ·cases e
      ·cases e
     ·cases e
    ·cases e
  ·cases e
 ·cases e
theorem Cx.call_eq{C:Cx}(g:V)(args:List V)(st:St):C.call g args st=Zdm C.x (Zcg C.tbl C.code) g args st:=by
 apply Zyx
 intro r
 constructor
 ·intro h
  obtain⟨N,hN⟩:=Cx.call_iff.1 h
  cases N with
  |zero=>
   have e:C.x g args st=some r:=hN
   unfold Zdm;rw[e]
  |succ N=>
   refine Zlq (x:=C.x) (Zf6 (p:=Zbe (Zf8 C.x C.tbl (N+1) N) (N+1)) fun ro c fr st r e=>?_) _ _ _ _ hN
   refine Cx.code_iff.2 ⟨N+1,?_⟩
   refine Zbt (fun g args st r e=>?_) (N+1) (N+1) (Yoy _) _ _ _ _ _ e
   exact Cx.call_iff.2 ⟨N+1,Zf0 (Yoy _) N (N+1) (by omega) _ _ _ _ e⟩
 ·intro h
  unfold Zdm at h
  split at h
  ·rename_i r' e
   simp only[Yox]at h
   subst h
   exact Cx.call_iff.2 ⟨0,e⟩
  ·rename_i hx
   obtain⟨N,hN⟩:=Zjm (q:=fun n=>Zbe (C.at n) n) (fun n m h=>Zbt (Cx.at_mono h) n m h) (fun _ _ _ _ _ e=>Cx.code_need e) h
   refine Cx.call_iff.2 ⟨N+1,?_⟩
   show Zdm C.x (Zcg C.tbl (Zbe (Zf8 C.x C.tbl (N+1) N) (N+1))) g args st=some r
   unfold Zdm
   rw[hx]
   exact Zf6 (Zbt (Zf0 (by omega) N N (Yoy _)) N (N+1) (by omega)) _ _ _ _ hN
inductive Rs where
 |ex (e:Ex) (fr:Fr) (st:St)
 |val (v:V) (st:St)
 |ops (fr:Fr) (st:St)
 |opsD (fps:List FP) (fr:Fr) (st:St)
inductive Kf where
 |seq (ro:Option Nat) (b:Zae)
 |block (id:Nat)
 |loop (ro:Option Nat) (c:Zae)
 |reg
 |put (d:Option Nat) (ops:List Zbc) (fr:Fr)
 |regD (ms:List Nat)
 |putD (op:MOp) (d:Option Nat) (ops:List Zbc) (fr:Fr) (n:Nat) (w:List Nat)
 |cons (fp:FP)
 |fin (rs:List Yf3) (st:St)
def exR:Option (Ex×Fr×St)→Option Rs
 |some (e,fr,st)=>some (.ex e fr st)
 |none=>none
def Zo8:Option (V×St)→Option Rs
 |some (v,st)=>some (.val v st)
 |none=>none
def Ybn:Option (Fr×St)→Option Rs
 |some (fr,st)=>some (.ops fr st)
 |none=>none
def Zlr:Option (List FP×Fr×St)→Option Rs
 |some (fps,fr,st)=>some (.opsD fps fr st)
 |none=>none
noncomputable def Zfq(C:Cx):Kf→Rs→Option Rs
 |.seq ro b,.ex .normal fr st=>exR (C.code ro b fr st)
 |.seq _ _,.ex e fr st=>some (.ex e fr st)
 |.block id,.ex (.exit id') fr st=>match Nat.beq id' id with
  |true=>some (.ex .normal fr st)
  |false=>some (.ex (.exit id') fr st)
 |.block _,.ex e fr st=>some (.ex e fr st)
 |.loop ro c,.ex .normal fr st=>exR (C.code ro (.loop c) fr st)
 |.loop _ _,.ex e fr st=>some (.ex e fr st)
 |.reg,.ops fr st=>some (.ex .normal fr st)
 |.put d ops fr,.val v st=>match fr.put d v with
  |some fr=>Ybn (mops C.call ops fr st)
  |none=>none
 |.regD ms,.opsD fps fr st=>match apartOk fps ms with
  |true=>some (.ex .normal fr st)
  |false=>none
 |.putD op d ops fr n w,.val v st'=>match fr.put d v with
  |some fr'=>match mopsD C.call ops fr' {st' with w:=Zaa n st'.w++w} with
   |some (fps,fr'',st'')=>some (.opsD (Zch fr.r op (Zaa n st'.w) n st'.n::fps) fr'' st'')
   |none=>none
  |none=>none
 |.cons fp,.opsD fps fr st=>some (.opsD (fp::fps) fr st)
 |.fin _ _,.ex (.exit _) _ _=>none
 |.fin rs st0,.ex _ fr st1=>match shut st1 fr.marks with
  |none=>none
  |some st2=>match resV fr.r st2 rs with
   |some vs=>some (.val (Zps vs) {st2 with w:=Zaa st0.n st2.w++st0.w})
   |none=>none
 |_,_=>none
noncomputable def Zd1(C:Cx)(k:Kf):Option Rs→Option Rs
 |some r=>Zfq C k r
 |none=>none
noncomputable def unw(C:Cx):List Kf→Option Rs→Option Rs
 |[],r=>r
 |k::K,r=>unw C K (Zd1 C k r)
theorem Ztf{C:Cx}:∀K,unw C K none=none
 |[]=>rfl
 |_::K=>Ztf K
structure Run (C:Cx) (K:List Kf) (r:Option Rs) (Q:Rs→Prop):Prop where
 ex:∃s,unw C K r=some s∧Q s
theorem Zat{C:Cx}{K K':List Kf}{r r':Option Rs}{Q:Rs→Prop}(h:unw C K r=unw C K' r'):Run C K r Q↔Run C K' r' Q:=
 ⟨fun ⟨s,e,q⟩=>⟨s,h▸e,q⟩,fun ⟨s,e,q⟩=>⟨s,h.symm▸e,q⟩⟩
theorem Zg8{C:Cx}{K:List Kf}{Q:Rs→Prop}:Run C K none Q↔False:=
 ⟨fun ⟨_,h,_⟩=>(by rw[Ztf]at h;cases h),fun h=>h.elim⟩
theorem Ygw{C:Cx}{s:Rs}{Q:Rs→Prop}:Run C [] (some s) Q↔Q s:=
 ⟨fun ⟨_,h,q⟩=>by simp only[unw,Yox]at h;exact h▸q,fun q=>⟨s,rfl,q⟩⟩
structure Call (C:Cx) (g:V) (args:List V) (st:St) (P:V→St→Prop):Prop where
 ex:∃v st',C.call g args st=some (v,st')∧P v st'
structure Code (C:Cx) (ro:Option Nat) (c:Zae) (fr:Fr) (st:St) (P:Ex→Fr→St→Prop):Prop where
 ex:∃e fr' st',C.code ro c fr st=some (e,fr',st')∧P e fr' st'
def Ybv(P:V→St→Prop):Rs→Prop
 |.val v st=>P v st
 |_=>False
def exQ(P:Ex→Fr→St→Prop):Rs→Prop
 |.ex e fr st=>P e fr st
 |_=>False
theorem Ybu{P:V→St→Prop}{v st}:Ybv P (.val v st)↔P v st:=Iff.rfl
theorem Yky{P:Ex→Fr→St→Prop}{e fr st}:exQ P (.ex e fr st)↔P e fr st:=Iff.rfl
theorem Zab{C:Cx}{g args st P}:Call C g args st P↔Run C [] (Zo8 (C.call g args st)) (Ybv P):=by
 constructor
 ·rintro⟨v,st',h,p⟩
  exact⟨.val v st',by rw[h];rfl,p⟩
 ·rintro⟨s,h,q⟩
  cases hc:C.call g args st with
  |none=>rw[hc]at h;cases h
  |some r=>
   rw[hc]at h
   simp only[unw,Zo8,Yox]at h
   subst h
   exact⟨_,_,hc,q⟩
theorem Zah{C:Cx}{ro c fr st P}:Code C ro c fr st P↔Run C [] (exR (C.code ro c fr st)) (exQ P):=by
 constructor
 ·rintro⟨e,fr',st',h,p⟩
  exact⟨.ex e fr' st',by rw[h];rfl,p⟩
 ·rintro⟨s,h,q⟩
  cases hc:C.code ro c fr st with
  |none=>rw[hc]at h;cases h
  |some r=>
   rw[hc]at h
   simp only[unw,exR,Yox]at h
   subst h
   exact⟨_,_,_,hc,q⟩
theorem Zkw{C:Cx}{g args st P K Q}(h:Call C g args st P)(k:∀v st',P v st'→Run C K (some (.val v st')) Q):Run C K (Zo8 (C.call g args st)) Q:=by
 obtain⟨v,st',e,p⟩:=h.ex
 rw[e]
 exact k v st' p
theorem Zbl{C:Cx}{ro c fr st P K Q}(h:Code C ro c fr st P)(k:∀e fr' st',P e fr' st'→Run C K (some (.ex e fr' st')) Q):Run C K (exR (C.code ro c fr st)) Q:=by
 obtain⟨e,fr',st',h,p⟩:=h.ex
 rw[h]
 exact k e fr' st' p
theorem Call.mono{C:Cx}{g args st}{P Q:V→St→Prop}(h:Call C g args st P)(k:∀v st',P v st'→Q v st'):Call C g args st Q:=by
 obtain⟨v,st',e,p⟩:=h.ex
 exact⟨v,st',e,k v st' p⟩
def Ykm(I:Nat→Fr→St→Prop)(k:Nat)(P:Ex→Fr→St→Prop):Ex→Fr→St→Prop
 |.normal,fr,st=>∃k',k'<k∧I k' fr st
 |e,fr,st=>P e fr st
theorem Code.loop{C:Cx}{ro c}{P:Ex→Fr→St→Prop}{I:Nat→Fr→St→Prop}(h:∀k fr st,I k fr st→Code C ro c fr st (Ykm I k P)):∀(k:Nat) (fr:Fr) (st:St),I k fr st→Code C ro (.loop c) fr st P:=by
 intro k
 induction k using Nat.strongRecOn with
 |_ k ih=>
  intro fr st hi
  obtain⟨e,fr',st',h1,p⟩:=(h k fr st hi).ex
  have e1:C.code ro (.loop c) fr st=Zhr c C.call C.code ro fr st:=Cx.code_eq ro (.loop c) fr st
  unfold Zhr at e1
  rw[h1]at e1
  cases e with
  |normal=>
   obtain⟨k',hk,hi'⟩:=p
   obtain⟨e2,fr2,st2,h2,p2⟩:=(ih k' hk fr' st' hi').ex
   exact⟨e2,fr2,st2,e1.trans h2,p2⟩
  |exit id=>exact⟨_,_,_,e1,p⟩
  |ret=>exact⟨_,_,_,e1,p⟩
theorem Ycg{C:Cx}{ro c}{K:List Kf}{Q:Rs→Prop}{fr:Fr}{st:St}(P:Ex→Fr→St→Prop)(I:Nat→Fr→St→Prop)(k:Nat)(hi:I k fr st)(h:∀k fr st,I k fr st→Code C ro c fr st (Ykm I k P))(q:∀e fr' st',P e fr' st'→Run C K (some (.ex e fr' st')) Q):Run C K (exR (C.code ro (.loop c) fr st)) Q:=
 Zbl (Code.loop h k fr st hi) q
section
variable {C:Cx} {K:List Kf} {Q:Rs→Prop} {ro:Option Nat} {a b c:Zae} {fr:Fr} {st:St}
theorem Ycd:Run C K (exR (C.code ro .skip fr st)) Q↔Run C K (some (.ex .normal fr st)) Q:=Zat (by rw[Cx.code_eq];rfl)
theorem Ygv{ops}:Run C K (exR (C.code ro (.reg ops) fr st)) Q↔Run C (.reg::K) (Ybn (mops C.call ops fr st)) Q:=Zat (by
 rw[Cx.code_eq]
 show unw C K (exR (Zmi ops C.call C.code ro fr st))=unw C K (Zd1 C .reg (Ybn (mops C.call ops fr st)))
 unfold Zmi
 rcases mops C.call ops fr st with _|⟨_,_⟩<;>rfl)
theorem Ycf{ops ms}:Run C K (exR (C.code ro (.regD ops ms) fr st)) Q↔Run C (.regD ms::K) (Zlr (mopsD C.call ops fr st)) Q:=Zat (by
 rw[Cx.code_eq]
 show unw C K (exR (Zgz ops ms C.call C.code ro fr st))=unw C K (Zd1 C (.regD ms) (Zlr (mopsD C.call ops fr st)))
 unfold Zgz
 rcases mopsD C.call ops fr st with _|⟨fps,_,_⟩
 ·rfl
 ·simp only[Zlr,Zd1,Zfq]
  cases apartOk fps ms<;>rfl)
theorem Ygt:Run C K (exR (C.code ro (.seq a b) fr st)) Q↔Run C (.seq ro b::K) (exR (C.code ro a fr st)) Q:=Zat (by
 rw[Cx.code_eq]
 show unw C K (exR (Zmz a b C.call C.code ro fr st))=unw C K (Zd1 C (.seq ro b) (exR (C.code ro a fr st)))
 unfold Zmz
 rcases C.code ro a fr st with _|⟨e,_,_⟩
 ·rfl
 ·cases e<;>rfl)
noncomputable def Yej(C:Cx)(ro:Option Nat)(a b:Zae)(fr:Fr)(st:St):Option V→Option Rs
 |some (.bool true)=>exR (C.code ro a fr st)
 |some (.bool false)=>exR (C.code ro b fr st)
 |_=>none
theorem Ycj{x}:Run C K (exR (C.code ro (.cond x a b) fr st)) Q↔Run C K (Yej C ro a b fr st (x.ev fr.r)) Q:=Zat (by
 rw[Cx.code_eq]
 show unw C K (exR (Zfe x a b C.call C.code ro fr st))=_
 unfold Zfe Yej
 rcases x.ev fr.r with _|v
 ·rfl
 ·cases v<;>try rfl
  rename_i b'
  cases b'<;>rfl)
theorem Zxg:Yej C ro a b fr st (some (.bool true))=exR (C.code ro a fr st):=rfl
theorem Zsw:Yej C ro a b fr st (some (.bool false))=exR (C.code ro b fr st):=rfl
theorem Zyl{id}:Run C K (exR (C.code ro (.block id a) fr st)) Q↔Run C (.block id::K) (exR (C.code ro a fr st)) Q:=Zat (by
 rw[Cx.code_eq]
 show unw C K (exR (Ze5 id a C.call C.code ro fr st))=unw C K (Zd1 C (.block id) (exR (C.code ro a fr st)))
 unfold Ze5
 rcases C.code ro a fr st with _|⟨e,_,_⟩
 ·rfl
 ·cases e with
  |exit id'=>simp only[exR,Zd1,Zfq];cases Nat.beq id' id<;>rfl
  |_=>rfl)
theorem Yci{id}:Run C K (exR (C.code ro (.exit id) fr st)) Q↔Run C K (some (.ex (.exit id) fr st)) Q:=Zat (by rw[Cx.code_eq];rfl)
theorem Zyk:Run C K (exR (C.code ro (.scope a) fr st)) Q↔Run C K (exR (C.code ro a fr st)) Q:=Zat (by rw[Cx.code_eq];rfl)
theorem Ygu:Run C K (exR (C.code ro .ret fr st)) Q↔Run C K (some (.ex .ret fr st)) Q:=Zat (by rw[Cx.code_eq];rfl)
theorem Zqi:Run C (.seq ro b::K) (some (.ex .normal fr st)) Q↔Run C K (exR (C.code ro b fr st)) Q:=Zat rfl
theorem Zwk{i}:Run C (.seq ro b::K) (some (.ex (.exit i) fr st)) Q↔Run C K (some (.ex (.exit i) fr st)) Q:=Zat rfl
theorem Zz4:Run C (.seq ro b::K) (some (.ex .ret fr st)) Q↔Run C K (some (.ex .ret fr st)) Q:=Zat rfl
theorem Zmx{i}:Run C (.block i::K) (some (.ex .normal fr st)) Q↔Run C K (some (.ex .normal fr st)) Q:=Zat rfl
theorem Zsp{i}:Run C (.block i::K) (some (.ex .ret fr st)) Q↔Run C K (some (.ex .ret fr st)) Q:=Zat rfl
theorem Zqj{i}:Run C (.block i::K) (some (.ex (.exit i) fr st)) Q↔Run C K (some (.ex .normal fr st)) Q:=Zat (by simp[unw,Zd1,Zfq,Nat.beq_refl])
theorem Zop{i j}(h:Nat.beq j i=false):Run C (.block i::K) (some (.ex (.exit j) fr st)) Q↔Run C K (some (.ex (.exit j) fr st)) Q:=Zat (by simp[unw,Zd1,Zfq,h])
theorem Ym0:Run C (.reg::K) (some (.ops fr st)) Q↔Run C K (some (.ex .normal fr st)) Q:=Zat rfl
theorem Yha:Ybn (mops C.call [] fr st)=some (.ops fr st):=rfl
def opR(C:Cx)(K:List Kf)(Q:Rs→Prop)(d:Option Nat)(op:MOp)(ops:List Zbc)(fr:Fr)(st:St):Option Bool→Prop
 |some true=>Run C (.put d ops fr::K) (Zo8 (mop op C.call fr.r st)) Q
 |some false=>Run C (.put d ops fr::K) (some (.val (.tup []) st)) Q
 |none=>False
theorem Ycx{d op g ops}:Run C K (Ybn (mops C.call (⟨d,op,g⟩::ops) fr st)) Q↔opR C K Q d op ops fr st (wantedV fr.r g):=by
 have e:mops C.call (⟨d,op,g⟩::ops) fr st=Zhp C.call ⟨d,op,g⟩ (mops C.call ops) fr st:=rfl
 rw[e]
 unfold Zhp
 simp only[]
 rcases wantedV fr.r g with _|b
 ·exact Zg8
 ·cases b
  ·show _↔Run C (.put d ops fr::K) (some (.val (.tup []) st)) Q
   refine Zat ?_
   show _=unw C K (Zfq C (.put d ops fr) (.val (.tup []) st))
   simp only[Zfq]
   rcases fr.put d (.tup [])with _|_<;>rfl
  ·show _↔Run C (.put d ops fr::K) (Zo8 (mop op C.call fr.r st)) Q
   refine Zat ?_
   show _=unw C K (Zd1 C (.put d ops fr) (Zo8 (mop op C.call fr.r st)))
   rcases mop op C.call fr.r st with _|⟨v,st'⟩
   ·rfl
   ·simp only[Zo8,Zd1,Zfq]
    rcases fr.put d v with _|_<;>rfl
theorem Yc2{d op ops}:opR C K Q d op ops fr st (some true)↔Run C (.put d ops fr::K) (Zo8 (mop op C.call fr.r st)) Q:=Iff.rfl
theorem Zy2{d op ops}:opR C K Q d op ops fr st (some false)↔Run C (.put d ops fr::K) (some (.val (.tup []) st)) Q:=Iff.rfl
theorem Zxw{v:V}:Zo8 (some (v,st))=some (.val v st):=rfl
theorem Ym1{d n m r ops v}(h:d<n):Run C (.put (some d) ops ⟨r,n,m⟩::K) (some (.val v st)) Q↔Run C K (Ybn (mops C.call ops ⟨r.set d v,n,m⟩ st)) Q:=Zat (by simp[unw,Zd1,Zfq,Fr.put,h])
theorem Zwl{ops v}:Run C (.put none ops fr::K) (some (.val v st)) Q↔Run C K (Ybn (mops C.call ops fr st)) Q:=Zat rfl
theorem Ycy:Zlr (mopsD C.call [] fr st)=some (.opsD [] fr st):=rfl
def Ykb(C:Cx)(K:List Kf)(Q:Rs→Prop)(d:Option Nat)(op:MOp)(ops:List Zbc)(fr:Fr)(h:T O)(n:Nat)(w:List Nat):Option Bool→Prop
 |some true=>Run C (.putD op d ops fr n w::K) (Zo8 (mop op C.call fr.r ⟨h,n,[]⟩)) Q
 |some false=>Run C (.cons ⟨some [],[],n,n⟩::K) (match fr.put d (.tup [])with|some fr'=>Zlr (mopsD C.call ops fr' ⟨h,n,w⟩)|none=>none) Q
 |none=>False
theorem Zyz{d op g ops h n w}:Run C K (Zlr (mopsD C.call (⟨d,op,g⟩::ops) fr ⟨h,n,w⟩)) Q↔Ykb C K Q d op ops fr h n w (wantedV fr.r g):=by
 have e:mopsD C.call (⟨d,op,g⟩::ops) fr ⟨h,n,w⟩=Ze2 C.call ⟨d,op,g⟩ (mopsD C.call ops) fr ⟨h,n,w⟩:=rfl
 rw[e]
 unfold Ze2
 simp only[]
 rcases wantedV fr.r g with _|b
 ·exact Zg8
 ·cases b
  ·show _↔Run C (.cons ⟨some [],[],n,n⟩::K) (match fr.put d (.tup [])with|some fr'=>Zlr (mopsD C.call ops fr' ⟨h,n,w⟩)|none=>none) Q
   refine Zat ?_
   show _=unw C K (Zd1 C (.cons ⟨some [],[],n,n⟩) _)
   rcases fr.put d (.tup [])with _|fr'
   ·rfl
   ·simp only[]
    rcases mopsD C.call ops fr' ⟨h,n,w⟩with _|⟨_,_,_⟩<;>rfl
  ·show _↔Run C (.putD op d ops fr n w::K) (Zo8 (mop op C.call fr.r ⟨h,n,[]⟩)) Q
   refine Zat ?_
   show _=unw C K (Zd1 C (.putD op d ops fr n w) (Zo8 (mop op C.call fr.r ⟨h,n,[]⟩)))
   rcases mop op C.call fr.r ⟨h,n,[]⟩with _|⟨v,st'⟩
   ·rfl
   ·simp only[Zo8,Zd1,Zfq]
    rcases fr.put d v with _|fr'
    ·rfl
    ·simp only[]
     rcases mopsD C.call ops fr' {st' with w:=Zaa n st'.w++w} with _|⟨_,_,_⟩<;>rfl
theorem Zy3{d op ops h n w}:Ykb C K Q d op ops fr h n w (some true)↔Run C (.putD op d ops fr n w::K) (Zo8 (mop op C.call fr.r ⟨h,n,[]⟩)) Q:=Iff.rfl
theorem Zvr{d n m r ops op h N w}(hd:d<n):Ykb C K Q (some d) op ops ⟨r,n,m⟩ h N w (some false)↔Run C (.cons ⟨some [],[],N,N⟩::K) (Zlr (mopsD C.call ops ⟨r.set d (.tup []),n,m⟩ ⟨h,N,w⟩)) Q:=by simp[Ykb,Fr.put,hd]
theorem Zr6{ops op h N w}:Ykb C K Q none op ops fr h N w (some false)↔Run C (.cons ⟨some [],[],N,N⟩::K) (Zlr (mopsD C.call ops fr ⟨h,N,w⟩)) Q:=Iff.rfl
theorem Ykp{op d n m r ops v N w h' n' w'}(h:d<n):Run C (.putD op (some d) ops ⟨r,n,m⟩ N w::K) (some (.val v ⟨h',n',w'⟩)) Q↔Run C (.cons (Zch r op (Zaa N w') N n')::K) (Zlr (mopsD C.call ops ⟨r.set d v,n,m⟩ ⟨h',n',Zaa N w'++w⟩)) Q:=Zat (by
 simp only[unw,Zd1,Zfq,Fr.put,h,if_true]
 rcases mopsD C.call ops _ _ with _|⟨_,_,_⟩<;>rfl)
theorem Zso{op ops v N w h' n' w'}:Run C (.putD op none ops fr N w::K) (some (.val v ⟨h',n',w'⟩)) Q↔Run C (.cons (Zch fr.r op (Zaa N w') N n')::K) (Zlr (mopsD C.call ops fr ⟨h',n',Zaa N w'++w⟩)) Q:=Zat (by
 simp only[unw,Zd1,Zfq,Fr.put]
 rcases mopsD C.call ops _ _ with _|⟨_,_,_⟩<;>rfl)
theorem Ykq{fp fps}:Run C (.cons fp::K) (some (.opsD fps fr st)) Q↔Run C K (some (.opsD (fp::fps) fr st)) Q:=Zat rfl
theorem Zud{ms fps}(h:apartOk fps ms=true):Run C (.regD ms::K) (some (.opsD fps fr st)) Q↔Run C K (some (.ex .normal fr st)) Q:=Zat (by simp only[unw,Zd1,Zfq,h])
theorem Ych{g first caps args mf}(hx:C.x (.func g first caps) args st=none)(h:C.tbl g=some mf)(hl:(first++args++caps).length≤mf.ntmps):Run C K (Zo8 (C.call (.func g first caps) args st)) Q↔Run C (.fin mf.results st::K) (exR (C.code none mf.body ⟨Zd9 .nil 0 (first++args++caps),mf.ntmps,[]⟩ ⟨st.h,st.n,[]⟩)) Q:=Zat (by
 rw[Cx.call_eq]
 unfold Zdm
 rw[hx]
 simp only[Zcg,h,Zf1,Yr9.2 hl,if_false]
 show _=unw C K (Zd1 C (.fin mf.results st) _)
 unfold Zss
 rcases C.code none mf.body _ _ with _|⟨e,fr1,st1⟩
 ·rfl
 ·cases e with
  |exit=>rfl
  |normal=>
   simp only[exR,Zd1,Zfq]
   rcases shut st1 fr1.marks with _|st2
   ·rfl
   ·simp only[]
    rcases resV fr1.r st2 mf.results with _|_<;>rfl
  |ret=>
   simp only[exR,Zd1,Zfq]
   rcases shut st1 fr1.marks with _|st2
   ·rfl
   ·simp only[]
    rcases resV fr1.r st2 mf.results with _|_<;>rfl)
def Ylr(h:T O)(n:Nat)(w:List Nat):Option (List V)→Option Rs
 |some vs=>some (.val (Zps vs) ⟨h,n,w⟩)
 |none=>none
theorem Yag{h n w vs}:Ylr h n w (some vs)=some (.val (Zps vs) ⟨h,n,w⟩):=rfl
theorem Zz5{rs r n h1 n1 w1}:Run C (.fin rs st::K) (some (.ex .ret ⟨r,n,[]⟩ ⟨h1,n1,w1⟩)) Q↔Run C K (Ylr h1 n1 (Zaa st.n w1++st.w) (resV r ⟨h1,n1,w1⟩ rs)) Q:=Zat (by
 simp only[unw,Zd1,Zfq,shut]
 rcases resV r ⟨h1,n1,w1⟩ rs with _|_<;>rfl)
theorem Zz6{rs r n h1 n1 w1}:Run C (.fin rs st::K) (some (.ex .normal ⟨r,n,[]⟩ ⟨h1,n1,w1⟩)) Q↔Run C K (Ylr h1 n1 (Zaa st.n w1++st.w) (resV r ⟨h1,n1,w1⟩ rs)) Q:=Zat (by
 simp only[unw,Zd1,Zfq,shut]
 rcases resV r ⟨h1,n1,w1⟩ rs with _|_<;>rfl)
end
theorem Zsi(a):mop (.convStr a)=Zel a:=rfl
theorem Zp5(a b):mop (.strBytes a b)=Zcb a b:=rfl
theorem Zqa(a):mop (.bytesStr a)=Zer a:=rfl
theorem Zsf(a b):mop (.mkiface a b)=Zek a b:=rfl
theorem Zzg:mop .mkmap=Zha:=rfl
theorem Zv0(a b):mop (.mkchan a b)=Zd4 a b:=rfl
theorem Zse(a b c d e f):mop (.mkslice a b c d e f)=Zcf a b c d e f:=rfl
theorem Zp6(a b c):mop (.sliceStr a b c)=Zcc a b c:=rfl
theorem Zsc(a b c d e):mop (.sliceSl a b c d e)=Za5 a b c d e:=rfl
theorem Zp7(a b c d e f):mop (.sliceArr a b c d e f)=Zeo a b c d e f:=rfl
theorem Zv5(a b c d e):mop (.idxArr a b c d e)=Ze8 a b c d e:=rfl
theorem Zv4(a b):mop (.idxStr a b)=Zd6 a b:=rfl
theorem Zv2(a b c d e):mop (.lookup a b c d e)=Zeq a b c d e:=rfl
theorem Zv1(a b c d):mop (.mapset a b c d)=Zd5 a b c d:=rfl
theorem Zp8(a):mop (.rangeStr a)=Zct a:=rfl
theorem Zsd(a):mop (.nextStr a)=Zds a:=rfl
theorem Zv3(a):mop (.lenArr a)=Zgj a:=rfl
theorem Yhq(a):mop (.cap a)=Zni a:=rfl
theorem Ykl(a):mop (.mn a)=Zkl a:=rfl
theorem Ykk(a):mop (.mx a)=Zfv a:=rfl
theorem Zv7(a b c d e f):mop (.append a b c d e f)=Zet a b c d e f:=rfl
theorem Ydc(a b c):mop (.copy a b c)=Zfy a b c:=rfl
theorem Zzk(a b c):mop (.clear a b c)=Zhb a b c:=rfl
theorem Yhm(a b):mop (.uns a b)=Zlt a b:=rfl
theorem Zze(a):mop (.sdata a)=Zi3 a:=rfl
theorem Yc9(a b c):mop (.ustr a b c)=Zls a b c:=rfl
theorem Yhp(a b):mop (.ext a b)=Zlv a b:=rfl
theorem Yip{ng k x y}:eqV ng (.prim k) x y=Za3 ng k x y:=by cases x<;>cases y<;>rfl
attribute [simp] Ygw Ybu Yky Ycd Ygv Ycf Ygt Ycj Zxg Zsw Zyl Yci Zyk Ygu Zqi Zwk Zz4 Zmx Zsp Zqj Ym0 Yha Ycx Yc2 Zy2 Zxw Ym1 Zwl
 Ycy Zyz Zy3 Zvr Zr6 Ykp Zso Ykq Zud Yag Zz5 Zz6
 Zsi Zp5 Zqa Zsf Zzg Zv0 Zse Zp6 Zsc Zp7 Zv5 Zv4 Zv2 Zv1 Zp8 Zsd Zv3 Yhq Ykl Ykk Zv7 Ydc Zzk Yhm Zze Yc9 Yhp Yip
structure Keeps (h:T O) (n:Nat) (h':T O) (n':Nat):Prop where
 le:n≤n'
 get:∀i,i<n→h'.get i=h.get i
theorem Keeps.refl{h:T O}{n:Nat}:Keeps h n h n:=⟨Yoy _,fun _ _=>rfl⟩
theorem Keeps.trans{h h1 h2:T O}{n n1 n2:Nat}(a:Keeps h n h1 n1)(b:Keeps h1 n1 h2 n2):Keeps h n h2 n2:=
 ⟨Yqk a.le b.le,fun i hi=>(b.get i (Yo8 hi a.le)).trans (a.get i hi)⟩
theorem Keeps.set{h h1:T O}{n n1:Nat}{i:Nat}{o:O}(hi:n≤i)(a:Keeps h n h1 n1):Keeps h n (h1.set i o) n1:=
 ⟨a.le,fun j hj=>by rw[T.get_set,Yo0 (by omega)];exact a.get j hj⟩
theorem Keeps.up{h h1:T O}{n n1 n2:Nat}(a:Keeps h n h1 n1)(hn:n1≤n2):Keeps h n h1 n2:=⟨Yqk a.le hn,a.get⟩
def Ret(P:V→T O→Nat→Prop)(h:T O)(n:Nat)(w:List Nat)(v:V)(st:St):Prop:=st.w=w∧Keeps h n st.h st.n∧P v st.h st.n
abbrev Fn(C:Cx)(f:Nat)(args:List V)(h:T O)(n:Nat)(P:V→T O→Nat→Prop):Prop:=∀w,Call C (.func f [] []) args ⟨h,n,w⟩ (Ret P h n w)
theorem Zac{C:Cx}{f args h n w P K Q}(hf:Fn C f args h n P)(k:∀v h' n',Keeps h n h' n'→P v h' n'→Run C K (some (.val v ⟨h',n',w⟩)) Q):Run C K (Zo8 (C.call (.func f [] []) args ⟨h,n,w⟩)) Q:=
 Zkw (hf w) fun v st'=>by
  obtain⟨h',n',w'⟩:=st'
  rintro⟨rfl,hk,hp⟩
  exact k v h' n' hk hp
theorem Znk{N:Nat}:∀{w:List Nat},(∀i∈w,N≤i)→Zaa N w=[]
 |[],_=>rfl
 |i::w,h=>by
  have:=h i Ypw
  simp only[Zaa,Yr9.2 this,if_false]
  exact Znk fun j hj=>h j (Ypo _ hj)
end Go.Mx
