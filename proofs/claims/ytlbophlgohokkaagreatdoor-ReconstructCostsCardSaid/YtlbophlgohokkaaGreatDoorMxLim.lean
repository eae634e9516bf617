/-
  Runs without a count of steps: what a call and a piece of code come to, if they come to an end.
-/
import Derived.Test.YtlbophlgohokkaaGreatDoorMxTab
set_option linter.all false
namespace Go.Mx
open Go
def Le(a b:Za3):Prop:=∀g args st r,a g args st=some r→b g args st=some r
theorem Zlt{a b:Za3}(h:Le a b)(op:MOp)(r:T V)(st:St){o:V×St}(e:mop op a r st=some o):mop op b r st=some o:=by
 cases op<;>try exact e
 rename_i f args
 show Zei f args b r st=some o
 have e:Zei f args a r st=some o:=e
 unfold Zei at e ⊢
 split at e
 ·exact h _ _ _ _ e
 ·cases e
theorem Zg7{a b:Za3}(h:Le a b):∀(ops:List Zbg) (fr:Fr) (st:St) {o:Fr×St},mops a ops fr st=some o→mops b ops fr st=some o
 |[],_,_,_,e=>e
 |q::ops,fr,st,o,e=>by
  have e:Zia a q (mops a ops) fr st=some o:=e
  show Zia b q (mops b ops) fr st=some o
  unfold Zia at e ⊢
  split at e
  ·split at e
   ·rename_i v st' h1
    rw[Zlt h _ _ _ h1]
    simp only[]
    split at e
    ·exact Zg7 h ops _ _ e
    ·cases e
   ·cases e
  ·split at e
   ·exact Zg7 h ops _ _ e
   ·cases e
  ·cases e
theorem Zhy{a b:Za3}(h:Le a b):∀(ops:List Zbg) (fr:Fr) (st:St) {o:List FP×Fr×St},mopsD a ops fr st=some o→mopsD b ops fr st=some o
 |[],_,_,_,e=>e
 |q::ops,fr,st,o,e=>by
  have e:Zfd a q (mopsD a ops) fr st=some o:=e
  show Zfd b q (mopsD b ops) fr st=some o
  unfold Zfd at e ⊢
  split at e
  ·split at e
   ·rename_i v st' h1
    rw[Zlt h _ _ _ h1]
    simp only[]
    split at e
    ·split at e
     ·rename_i h2
      rw[Zhy h ops _ _ h2]
      exact e
     ·cases e
    ·cases e
   ·cases e
  ·split at e
   ·split at e
    ·rename_i h2
     rw[Zhy h ops _ _ h2]
     exact e
    ·cases e
   ·cases e
  ·cases e
def LeC(a b:Zfu):Prop:=∀ro c fr st r,a ro c fr st=some r→b ro c fr st=some r
theorem Zj8{a b:Za3}{p q:Zfu}(h:Le a b)(hc:LeC p q)(ro:Option Nat)(c:Zae)(fr:Fr)(st:St){o:Ex×Fr×St}(e:Zbc c a p ro fr st=some o):Zbc c b q ro fr st=some o:=by
 cases c with
 |skip=>exact e
 |reg ops=>
  have e:Znj ops a p ro fr st=some o:=e
  show Znj ops b q ro fr st=some o
  unfold Znj at e ⊢
  split at e
  ·rename_i h1;rw[Zg7 h _ _ _ h1];exact e
  ·cases e
 |regD ops ms=>
  have e:Zhj ops ms a p ro fr st=some o:=e
  show Zhj ops ms b q ro fr st=some o
  unfold Zhj at e ⊢
  split at e
  ·rename_i h1;rw[Zhy h _ _ _ h1];exact e
  ·cases e
 |regS dst ch send zero ops=>
  have e:Zhi dst ch send zero ops a p ro fr st=some o:=e
  show Zhi dst ch send zero ops b q ro fr st=some o
  unfold Zhi at e ⊢
  split at e
  ·split at e
   ·split at e
    ·split at e
     ·rename_i h1;rw[Zg7 h _ _ _ h1];exact e
     ·cases e
    ·cases e
   ·cases e
  ·cases e
 |seq x y=>
  have e:Zn3 x y a p ro fr st=some o:=e
  show Zn3 x y b q ro fr st=some o
  unfold Zn3 at e ⊢
  split at e
  ·rename_i h1;rw[hc _ _ _ _ _ h1];exact hc _ _ _ _ _ e
  ·rename_i h1
   have:=hc _ _ _ _ _ e
   rw[this]
   rcases o with⟨_|_|_,_,_⟩
   ·exact absurd e (h1 _ _)
   ·rfl
   ·rfl
 |cond x y z=>
  have e:Zfs x y z a p ro fr st=some o:=e
  show Zfs x y z b q ro fr st=some o
  unfold Zfs at e ⊢
  split at e
  ·exact hc _ _ _ _ _ e
  ·exact hc _ _ _ _ _ e
  ·cases e
 |block id x=>
  have e:Zff id x a p ro fr st=some o:=e
  show Zff id x b q ro fr st=some o
  unfold Zff at e ⊢
  split at e
  ·rename_i h1;rw[hc _ _ _ _ _ h1];exact e
  ·rename_i h1
   have:=hc _ _ _ _ _ e
   rw[this]
   rcases o with⟨_|_|_,_,_⟩
   ·rfl
   ·exact absurd e (h1 _ _ _)
   ·rfl
 |loop x=>
  have e:Zic x a p ro fr st=some o:=e
  show Zic x b q ro fr st=some o
  unfold Zic at e ⊢
  split at e
  ·rename_i h1;rw[hc _ _ _ _ _ h1];exact hc _ _ _ _ _ e
  ·rename_i h1
   have:=hc _ _ _ _ _ e
   rw[this]
   rcases o with⟨_|_|_,_,_⟩
   ·exact absurd e (h1 _ _)
   ·rfl
   ·rfl
 |rangef g ps x y=>
  have e:Zer g ps x y a p ro fr st=some o:=e
  show Zer g ps x y b q ro fr st=some o
  unfold Zer at e ⊢
  split at e
  ·cases e
  ·split at e
   ·cases e
   ·rename_i hy
    simp only[hy]
    split at e
    ·cases e
    ·split at e
     ·cases e
     ·rename_i h1;rw[h _ _ _ _ h1];exact e
 |exit id=>exact e
 |scope x=>exact hc _ _ _ _ _ e
 |ret=>exact e
 |stop=>exact e
theorem Zb6{a b:Za3}(h:Le a b):∀(F F':Nat),F≤F'→LeC (Zbi a F) (Zbi b F')
 |0,_,_=>fun _ _ _ _ _ e=>by cases e
 |F+1,0,hF=>by omega
 |F+1,F'+1,hF=>fun ro c fr st _ e=>Zj8 h (Zb6 h F F' (by omega)) ro c fr st e
theorem Zrw{p q:Zfu}(h:LeC p q){mf:Zee}{args:List V}{st:St}{o:V×St}(e:Zgd mf p args st=some o):Zgd mf q args st=some o:=by
 unfold Zgd at e ⊢
 split at e
 ·cases e
 ·rename_i h0
  rw[Yrq h0]
  cases h1:p none mf.body {r:=Zef .nil 0 args,n:=mf.ntmps,marks:=[]} {st with w:=[]} with
  |none=>rw[h1]at e;cases e
  |some r=>rw[h1]at e;rw[h _ _ _ _ _ h1];exact e
theorem Zpl{p q:Zfu}(h:LeC p q){l:Nat}{args:List V}{st:St}{o:V×St}(e:Zf5 p l args st=some o):Zf5 q l args st=some o:=by
 unfold Zf5 at e ⊢
 split at e
 ·split at e
  ·cases e
  ·split at e
   ·rename_i h1
    rw[h _ _ _ _ _ h1]
    simp only[]
    split at e
    ·split at e
     ·rename_i hr
      rw[Yru hr]
      split at e
      ·rename_i h2
       rw[h _ _ _ _ _ h2]
       exact e
      ·cases e
     ·cases e
    ·cases e
   ·cases e
 ·cases e
theorem Zgk{tbl:Nat→Option Zee}{p q:Zfu}(h:LeC p q):Le (Zcn tbl p) (Zcn tbl q):=by
 intro g args st o e
 unfold Zcn at e ⊢
 split at e
 ·split at e
  ·exact Zrw h e
  ·cases e
 ·exact Zpl h e
 ·cases e
theorem Zmp{x a b:Za3}(h:Le a b):Le (Zd9 x a) (Zd9 x b):=by
 intro g args st o e
 unfold Zd9 at e ⊢
 split at e
 ·exact e
 ·exact h _ _ _ _ e
theorem Zgc{x:Za3}{tbl:Nat→Option Zee}{F F':Nat}(hF:F≤F'):∀(d d':Nat),d≤d'→Le (Zgp x tbl F d) (Zgp x tbl F' d')
 |0,0,_=>fun _ _ _ _ e=>e
 |0,d'+1,_=>fun g args st o e=>by
  have e:x g args st=some o:=e
  show Zd9 x _ g args st=some o
  unfold Zd9;rw[e]
 |d+1,0,h=>by omega
 |d+1,d'+1,h=>Zmp (Zgk (Zb6 (Zgc hF d d' (by omega)) F F' hF))
structure Cx where
 x:Za3
 tbl:Nat→Option Zee
def Cx.at(C:Cx)(N:Nat):Za3:=Zgp C.x C.tbl N N
theorem Cx.at_mono{C:Cx}{N M:Nat}(h:N≤M):Le (C.at N) (C.at M):=Zgc h N M h
open Classical in
noncomputable def Cx.call(C:Cx):Za3:=fun g args st=>if h:∃r N,C.at N g args st=some r then some h.choose else none
theorem Cx.call_iff{C:Cx}{g args st r}:C.call g args st=some r↔∃N,C.at N g args st=some r:=by
 unfold Cx.call
 constructor
 ·intro h
  split at h
  ·rename_i hc
   simp only[Yro]at h
   exact h▸hc.choose_spec
  ·cases h
 ·rintro⟨N,h⟩
  have hc:∃r N,C.at N g args st=some r:=⟨r,N,h⟩
  rw[dif_pos hc]
  obtain⟨M,hM⟩:=hc.choose_spec
  have h1:=Cx.at_mono (Yul N M) _ _ _ _ h
  have h2:=Cx.at_mono (Yuc N M) _ _ _ _ hM
  rw[h1]at h2
  exact congrArg some (Ys4 h2).symm
open Classical in
noncomputable def Cx.code(C:Cx):Zfu:=fun ro c fr st=>if h:∃r F,Zbi C.call F ro c fr st=some r then some h.choose else none
theorem Cx.code_iff{C:Cx}{ro c fr st r}:C.code ro c fr st=some r↔∃F,Zbi C.call F ro c fr st=some r:=by
 unfold Cx.code
 constructor
 ·intro h
  split at h
  ·rename_i hc
   simp only[Yro]at h
   exact h▸hc.choose_spec
  ·cases h
 ·rintro⟨N,h⟩
  have hc:∃r F,Zbi C.call F ro c fr st=some r:=⟨r,N,h⟩
  rw[dif_pos hc]
  obtain⟨M,hM⟩:=hc.choose_spec
  have h1:=Zb6 (fun _ _ _ _ e=>e) N (max N M) (Yul N M) _ _ _ _ _ h
  have h2:=Zb6 (fun _ _ _ _ e=>e) M (max N M) (Yuc N M) _ _ _ _ _ hM
  rw[h1]at h2
  exact congrArg some (Ys4 h2).symm
theorem Yai{α:Type}{a b:Option α}(h:∀r,a=some r↔b=some r):a=b:=by
 cases a with
 |none=>cases b with
  |none=>rfl
  |some r=>exact absurd ((h r).2 rfl) (by simp)
 |some r=>exact((h r).1 rfl).symm
theorem Zeq{a:Za3}{p:Zfu}{q:Nat→Zfu}(hq:∀n m,n≤m→LeC (q n) (q m))(hp:∀ro c fr st r,p ro c fr st=some r→∃n,q n ro c fr st=some r)(ro:Option Nat)(c:Zae)(fr:Fr)(st:St){o:Ex×Fr×St}(e:Zbc c a p ro fr st=some o):∃n,Zbc c a (q n) ro fr st=some o:=by
 cases c with
 |skip=>exact⟨0,e⟩
 |reg ops=>exact⟨0,e⟩
 |regD ops ms=>exact⟨0,e⟩
 |regS dst ch send zero ops=>exact⟨0,e⟩
 |seq x y=>
  have e:Zn3 x y a p ro fr st=some o:=e
  show ∃n,Zn3 x y a (q n) ro fr st=some o
  unfold Zn3 at e ⊢
  split at e
  ·rename_i h1
   obtain⟨n,hn⟩:=hp _ _ _ _ _ h1
   obtain⟨m,hm⟩:=hp _ _ _ _ _ e
   refine⟨max n m,?_⟩
   rw[hq n _ (Yul n m) _ _ _ _ _ hn]
   exact hq m _ (Yuc n m) _ _ _ _ _ hm
  ·rename_i h1
   obtain⟨n,hn⟩:=hp _ _ _ _ _ e
   refine⟨n,?_⟩
   rw[hn]
   rcases o with⟨_|_|_,_,_⟩
   ·exact absurd e (h1 _ _)
   ·rfl
   ·rfl
 |cond x y z=>
  have e:Zfs x y z a p ro fr st=some o:=e
  show ∃n,Zfs x y z a (q n) ro fr st=some o
  unfold Zfs at e ⊢
  split at e
  ·exact hp _ _ _ _ _ e
  ·exact hp _ _ _ _ _ e
  ·cases e
 |block id x=>
  have e:Zff id x a p ro fr st=some o:=e
  show ∃n,Zff id x a (q n) ro fr st=some o
  unfold Zff at e ⊢
  split at e
  ·rename_i h1
   obtain⟨n,hn⟩:=hp _ _ _ _ _ h1
   exact⟨n,by rw[hn];exact e⟩
  ·rename_i h1
   obtain⟨n,hn⟩:=hp _ _ _ _ _ e
   refine⟨n,?_⟩
   rw[hn]
   rcases o with⟨_|_|_,_,_⟩
   ·rfl
   ·exact absurd e (h1 _ _ _)
   ·rfl
 |loop x=>
  have e:Zic x a p ro fr st=some o:=e
  show ∃n,Zic x a (q n) ro fr st=some o
  unfold Zic at e ⊢
  split at e
  ·rename_i h1
   obtain⟨n,hn⟩:=hp _ _ _ _ _ h1
   obtain⟨m,hm⟩:=hp _ _ _ _ _ e
   refine⟨max n m,?_⟩
   rw[hq n _ (Yul n m) _ _ _ _ _ hn]
   exact hq m _ (Yuc n m) _ _ _ _ _ hm
  ·rename_i h1
   obtain⟨n,hn⟩:=hp _ _ _ _ _ e
   refine⟨n,?_⟩
   rw[hn]
   rcases o with⟨_|_|_,_,_⟩
   ·exact absurd e (h1 _ _)
   ·rfl
   ·rfl
 |rangef g ps x y=>exact⟨0,e⟩
 |exit id=>exact⟨0,e⟩
 |scope x=>exact hp _ _ _ _ _ e
 |ret=>exact⟨0,e⟩
 |stop=>exact⟨0,e⟩
theorem Cx.code_eq{C:Cx}(ro:Option Nat)(c:Zae)(fr:Fr)(st:St):C.code ro c fr st=Zbc c C.call C.code ro fr st:=by
 apply Yai
 intro r
 constructor
 ·intro h
  obtain⟨F,hF⟩:=Cx.code_iff.1 h
  cases F with
  |zero=>cases hF
  |succ F=>exact Zj8 (fun _ _ _ _ e=>e) (fun ro c fr st r e=>Cx.code_iff.2 ⟨F,e⟩) ro c fr st hF
 ·intro h
  obtain⟨n,hn⟩:=Zeq (q:=Zbi C.call) (Zb6 fun _ _ _ _ e=>e) (fun _ _ _ _ _ e=>Cx.code_iff.1 e) ro c fr st h
  exact Cx.code_iff.2 ⟨n+1,hn⟩
theorem Zvk{C:Cx}(op:MOp)(r:T V)(st:St){o:V×St}(e:mop op C.call r st=some o):∃N,mop op (C.at N) r st=some o:=by
 cases op<;>try exact⟨0,e⟩
 rename_i f args
 have e:Zei f args C.call r st=some o:=e
 show ∃N,Zei f args (C.at N) r st=some o
 unfold Zei at e ⊢
 split at e
 ·exact Cx.call_iff.1 e
 ·cases e
theorem Zjv{C:Cx}:∀(ops:List Zbg) (fr:Fr) (st:St) {o:Fr×St},mops C.call ops fr st=some o→∃N,mops (C.at N) ops fr st=some o
 |[],_,_,_,e=>⟨0,e⟩
 |q::ops,fr,st,o,e=>by
  have e:Zia C.call q (mops C.call ops) fr st=some o:=e
  show ∃N,Zia (C.at N) q (mops (C.at N) ops) fr st=some o
  unfold Zia at e ⊢
  split at e
  ·split at e
   ·rename_i v st' h1
    split at e
    ·obtain⟨N,hN⟩:=Zvk _ _ _ h1
     obtain⟨M,hM⟩:=Zjv ops _ _ e
     refine⟨max N M,?_⟩
     rw[Zlt (Cx.at_mono (Yul N M)) _ _ _ hN]
     rename_i h3
     simp only[h3]
     exact Zg7 (Cx.at_mono (Yuc N M)) _ _ _ hM
    ·cases e
   ·cases e
  ·split at e
   ·exact Zjv ops _ _ e
   ·cases e
  ·cases e
theorem Zkr{C:Cx}:∀(ops:List Zbg) (fr:Fr) (st:St) {o:List FP×Fr×St},mopsD C.call ops fr st=some o→∃N,mopsD (C.at N) ops fr st=some o
 |[],_,_,_,e=>⟨0,e⟩
 |q::ops,fr,st,o,e=>by
  have e:Zfd C.call q (mopsD C.call ops) fr st=some o:=e
  show ∃N,Zfd (C.at N) q (mopsD (C.at N) ops) fr st=some o
  unfold Zfd at e ⊢
  split at e
  ·split at e
   ·rename_i v st' h1
    split at e
    ·rename_i h3
     split at e
     ·rename_i h2
      obtain⟨N,hN⟩:=Zvk _ _ _ h1
      obtain⟨M,hM⟩:=Zkr ops _ _ h2
      refine⟨max N M,?_⟩
      rw[Zlt (Cx.at_mono (Yul N M)) _ _ _ hN]
      simp only[h3]
      rw[Zhy (Cx.at_mono (Yuc N M)) _ _ _ hM]
      exact e
     ·cases e
    ·cases e
   ·cases e
  ·split at e
   ·split at e
    ·rename_i h2
     obtain⟨M,hM⟩:=Zkr ops _ _ h2
     exact⟨M,by rw[hM];exact e⟩
    ·cases e
   ·cases e
  ·cases e
theorem Zos{C:Cx}:∀(F:Nat) (ro:Option Nat) (c:Zae) (fr:Fr) (st:St) {o:Ex×Fr×St},Zbi C.call F ro c fr st=some o→∃N,Zbi (C.at N) F ro c fr st=some o
 |0,_,_,_,_,_,e=>by cases e
 |F+1,ro,c,fr,st,o,e=>by
  have e:Zbc c C.call (Zbi C.call F) ro fr st=some o:=e
  show ∃N,Zbc c (C.at N) (Zbi (C.at N) F) ro fr st=some o
  have ih:=@Zos C F
  have up:∀{n m:Nat},n≤m→LeC (Zbi (C.at n) F) (Zbi (C.at m) F):=fun h=>Zb6 (Cx.at_mono h) F F (Yrr _)
  cases c with
  |reg ops=>
   have e:Znj ops C.call (Zbi C.call F) ro fr st=some o:=e
   show ∃N,Znj ops (C.at N) (Zbi (C.at N) F) ro fr st=some o
   unfold Znj at e ⊢
   split at e
   ·rename_i h1
    obtain⟨N,hN⟩:=Zjv _ _ _ h1
    exact⟨N,by rw[hN];exact e⟩
   ·cases e
  |regD ops ms=>
   have e:Zhj ops ms C.call (Zbi C.call F) ro fr st=some o:=e
   show ∃N,Zhj ops ms (C.at N) (Zbi (C.at N) F) ro fr st=some o
   unfold Zhj at e ⊢
   split at e
   ·rename_i h1
    obtain⟨N,hN⟩:=Zkr _ _ _ h1
    exact⟨N,by rw[hN];exact e⟩
   ·cases e
  |regS dst ch send zero ops=>
   have e:Zhi dst ch send zero ops C.call (Zbi C.call F) ro fr st=some o:=e
   show ∃N,Zhi dst ch send zero ops (C.at N) (Zbi (C.at N) F) ro fr st=some o
   unfold Zhi at e ⊢
   split at e
   ·split at e
    ·split at e
     ·split at e
      ·rename_i h1
       obtain⟨N,hN⟩:=Zjv _ _ _ h1
       exact⟨N,by rw[hN];exact e⟩
      ·cases e
     ·cases e
    ·cases e
   ·cases e
  |rangef g ps x y=>
   have e:Zer g ps x y C.call (Zbi C.call F) ro fr st=some o:=e
   show ∃N,Zer g ps x y (C.at N) (Zbi (C.at N) F) ro fr st=some o
   unfold Zer at e ⊢
   split at e
   ·cases e
   ·split at e
    ·cases e
    ·rename_i hy
     simp only[hy]
     split at e
     ·cases e
     ·split at e
      ·cases e
      ·rename_i h1
       obtain⟨N,hN⟩:=Cx.call_iff.1 h1
       exact⟨N,by rw[hN];exact e⟩
  |skip=>exact⟨0,e⟩
  |exit id=>exact⟨0,e⟩
  |ret=>exact⟨0,e⟩
  |stop=>cases e
  |scope x=>exact ih _ _ _ _ e
  |cond x y z=>
   have e:Zfs x y z C.call (Zbi C.call F) ro fr st=some o:=e
   show ∃N,Zfs x y z (C.at N) (Zbi (C.at N) F) ro fr st=some o
   unfold Zfs at e ⊢
   split at e
   ·exact ih _ _ _ _ e
   ·exact ih _ _ _ _ e
   ·cases e
  |seq x y=>exact Zeq (a:=C.call) (q:=fun n=>Zbi (C.at n) F) (fun _ _ h=>up h) (fun _ _ _ _ _ e=>ih _ _ _ _ e) ro (.seq x y) fr st e
  |block id x=>exact Zeq (a:=C.call) (q:=fun n=>Zbi (C.at n) F) (fun _ _ h=>up h) (fun _ _ _ _ _ e=>ih _ _ _ _ e) ro (.block id x) fr st e
  |loop x=>exact Zeq (a:=C.call) (q:=fun n=>Zbi (C.at n) F) (fun _ _ h=>up h) (fun _ _ _ _ _ e=>ih _ _ _ _ e) ro (.loop x) fr st e
theorem Cx.code_need{C:Cx}{ro c fr st r}(h:C.code ro c fr st=some r):∃N,Zbi (C.at N) N ro c fr st=some r:=by
 obtain⟨F,hF⟩:=Cx.code_iff.1 h
 obtain⟨N,hN⟩:=Zos F _ _ _ _ hF
 exact⟨max F N,Zb6 (Cx.at_mono (Yuc F N)) _ _ (Yul F N) _ _ _ _ _ hN⟩
theorem Zkb{tbl:Nat→Option Zee}{p:Zfu}{q:Nat→Zfu}(hq:∀n m,n≤m→LeC (q n) (q m))(hp:∀ro c fr st r,p ro c fr st=some r→∃n,q n ro c fr st=some r){g args st}{o:V×St}(e:Zcn tbl p g args st=some o):∃n,Zcn tbl (q n) g args st=some o:=by
 unfold Zcn at e ⊢
 split at e
 ·split at e
  ·rename_i mf _
   unfold Zgd at e ⊢
   split at e
   ·cases e
   ·rename_i h0
    simp only[h0,if_false]
    cases h1:p none mf.body {r:=Zef .nil 0 _,n:=mf.ntmps,marks:=[]} {st with w:=[]} with
    |none=>rw[h1]at e;cases e
    |some r=>
     rw[h1]at e
     obtain⟨n,hn⟩:=hp _ _ _ _ _ h1
     exact⟨n,by rw[hn];exact e⟩
  ·cases e
 ·unfold Zf5 at e ⊢
  split at e
  ·split at e
   ·cases e
   ·split at e
    ·rename_i h1
     obtain⟨n,hn⟩:=hp _ _ _ _ _ h1
     split at e
     ·split at e
      ·split at e
       ·rename_i h4 h5 _ _ _ _ h2
        obtain⟨m,hm⟩:=hp _ _ _ _ _ h2
        refine⟨max n m,?_⟩
        rw[hq n _ (Yul n m) _ _ _ _ _ hn]
        simp only[h4,h5,if_true]
        rw[hq m _ (Yuc n m) _ _ _ _ _ hm]
        exact e
       ·cases e
      ·cases e
     ·cases e
    ·cases e
  ·cases e
 ·cases e
theorem Cx.call_eq{C:Cx}(g:V)(args:List V)(st:St):C.call g args st=Zd9 C.x (Zcn C.tbl C.code) g args st:=by
 apply Yai
 intro r
 constructor
 ·intro h
  obtain⟨N,hN⟩:=Cx.call_iff.1 h
  cases N with
  |zero=>
   have e:C.x g args st=some r:=hN
   unfold Zd9;rw[e]
  |succ N=>
   refine Zmp (x:=C.x) (Zgk (p:=Zbi (Zgp C.x C.tbl (N+1) N) (N+1)) fun ro c fr st r e=>?_) _ _ _ _ hN
   refine Cx.code_iff.2 ⟨N+1,?_⟩
   refine Zb6 (fun g args st r e=>?_) (N+1) (N+1) (Yrr _) _ _ _ _ _ e
   exact Cx.call_iff.2 ⟨N+1,Zgc (Yrr _) N (N+1) (by omega) _ _ _ _ e⟩
 ·intro h
  unfold Zd9 at h
  split at h
  ·rename_i r' e
   simp only[Yro]at h
   subst h
   exact Cx.call_iff.2 ⟨0,e⟩
  ·rename_i hx
   obtain⟨N,hN⟩:=Zkb (q:=fun n=>Zbi (C.at n) n) (fun n m h=>Zb6 (Cx.at_mono h) n m h) (fun _ _ _ _ _ e=>Cx.code_need e) h
   refine Cx.call_iff.2 ⟨N+1,?_⟩
   show Zd9 C.x (Zcn C.tbl (Zbi (Zgp C.x C.tbl (N+1) N) (N+1))) g args st=some r
   unfold Zd9
   rw[hx]
   exact Zgk (Zb6 (Zgc (by omega) N N (Yrr _)) N (N+1) (by omega)) _ _ _ _ hN
inductive Rs where
 |ex (e:Ex) (fr:Fr) (st:St)
 |val (v:V) (st:St)
 |ops (fr:Fr) (st:St)
 |opsD (fps:List FP) (fr:Fr) (st:St)
inductive Kf where
 |seq (ro:Option Nat) (b:Zae)
 |block (id:Nat)
 |loop (ro:Option Nat) (c:Zae)
 |reg
 |put (d:Option Nat) (ops:List Zbg) (fr:Fr)
 |regD (ms:List Nat)
 |putD (op:MOp) (d:Option Nat) (ops:List Zbg) (fr:Fr) (n:Nat) (w:List Nat)
 |cons (fp:FP)
 |fin (rs:List Yl6) (st:St)
def exR:Option (Ex×Fr×St)→Option Rs
 |some (e,fr,st)=>some (.ex e fr st)
 |none=>none
def Zqd:Option (V×St)→Option Rs
 |some (v,st)=>some (.val v st)
 |none=>none
def Ydo:Option (Fr×St)→Option Rs
 |some (fr,st)=>some (.ops fr st)
 |none=>none
def Zmq:Option (List FP×Fr×St)→Option Rs
 |some (fps,fr,st)=>some (.opsD fps fr st)
 |none=>none
noncomputable def Zgw(C:Cx):Kf→Rs→Option Rs
 |.seq ro b,.ex .normal fr st=>exR (C.code ro b fr st)
 |.seq _ _,.ex e fr st=>some (.ex e fr st)
 |.block id,.ex (.exit id') fr st=>match Nat.beq id' id with
  |true=>some (.ex .normal fr st)
  |false=>some (.ex (.exit id') fr st)
 |.block _,.ex e fr st=>some (.ex e fr st)
 |.loop ro c,.ex .normal fr st=>exR (C.code ro (.loop c) fr st)
 |.loop _ _,.ex e fr st=>some (.ex e fr st)
 |.reg,.ops fr st=>some (.ex .normal fr st)
 |.put d ops fr,.val v st=>match fr.put d v with
  |some fr=>Ydo (mops C.call ops fr st)
  |none=>none
 |.regD ms,.opsD fps fr st=>match apartOk fps ms with
  |true=>some (.ex .normal fr st)
  |false=>none
 |.putD op d ops fr n w,.val v st'=>match fr.put d v with
  |some fr'=>match mopsD C.call ops fr' {st' with w:=Zac n st'.w++w} with
   |some (fps,fr'',st'')=>some (.opsD (Zcp fr.r op (Zac n st'.w) n st'.n::fps) fr'' st'')
   |none=>none
  |none=>none
 |.cons fp,.opsD fps fr st=>some (.opsD (fp::fps) fr st)
 |.fin _ _,.ex (.exit _) _ _=>none
 |.fin rs st0,.ex _ fr st1=>match shut st1 fr.marks with
  |none=>none
  |some st2=>match resV fr.r st2 rs with
   |some vs=>some (.val (Zqw vs) {st2 with w:=Zac st0.n st2.w++st0.w})
   |none=>none
 |_,_=>none
noncomputable def Zel(C:Cx)(k:Kf):Option Rs→Option Rs
 |some r=>Zgw C k r
 |none=>none
noncomputable def unw(C:Cx):List Kf→Option Rs→Option Rs
 |[],r=>r
 |k::K,r=>unw C K (Zel C k r)
theorem Zux{C:Cx}:∀K,unw C K none=none
 |[]=>rfl
 |_::K=>Zux K
structure Run (C:Cx) (K:List Kf) (r:Option Rs) (Q:Rs→Prop):Prop where
 ex:∃s,unw C K r=some s∧Q s
theorem Zax{C:Cx}{K K':List Kf}{r r':Option Rs}{Q:Rs→Prop}(h:unw C K r=unw C K' r'):Run C K r Q↔Run C K' r' Q:=
 ⟨fun ⟨s,e,q⟩=>⟨s,h▸e,q⟩,fun ⟨s,e,q⟩=>⟨s,h.symm▸e,q⟩⟩
theorem Zhs{C:Cx}{K:List Kf}{Q:Rs→Prop}:Run C K none Q↔False:=
 ⟨fun ⟨_,h,_⟩=>(by rw[Zux]at h;cases h),fun h=>h.elim⟩
theorem Yi9{C:Cx}{s:Rs}{Q:Rs→Prop}:Run C [] (some s) Q↔Q s:=
 ⟨fun ⟨_,h,q⟩=>by simp only[unw,Yro]at h;exact h▸q,fun q=>⟨s,rfl,q⟩⟩
structure Call (C:Cx) (g:V) (args:List V) (st:St) (P:V→St→Prop):Prop where
 ex:∃v st',C.call g args st=some (v,st')∧P v st'
structure Code (C:Cx) (ro:Option Nat) (c:Zae) (fr:Fr) (st:St) (P:Ex→Fr→St→Prop):Prop where
 ex:∃e fr' st',C.code ro c fr st=some (e,fr',st')∧P e fr' st'
def Ydv(P:V→St→Prop):Rs→Prop
 |.val v st=>P v st
 |_=>False
def exQ(P:Ex→Fr→St→Prop):Rs→Prop
 |.ex e fr st=>P e fr st
 |_=>False
theorem Ydu{P:V→St→Prop}{v st}:Ydv P (.val v st)↔P v st:=Iff.rfl
theorem Ynn{P:Ex→Fr→St→Prop}{e fr st}:exQ P (.ex e fr st)↔P e fr st:=Iff.rfl
theorem Zaa{C:Cx}{g args st P}:Call C g args st P↔Run C [] (Zqd (C.call g args st)) (Ydv P):=by
 constructor
 ·rintro⟨v,st',h,p⟩
  exact⟨.val v st',by rw[h];rfl,p⟩
 ·rintro⟨s,h,q⟩
  cases hc:C.call g args st with
  |none=>rw[hc]at h;cases h
  |some r=>
   rw[hc]at h
   simp only[unw,Zqd,Yro]at h
   subst h
   exact⟨_,_,hc,q⟩
theorem Zah{C:Cx}{ro c fr st P}:Code C ro c fr st P↔Run C [] (exR (C.code ro c fr st)) (exQ P):=by
 constructor
 ·rintro⟨e,fr',st',h,p⟩
  exact⟨.ex e fr' st',by rw[h];rfl,p⟩
 ·rintro⟨s,h,q⟩
  cases hc:C.code ro c fr st with
  |none=>rw[hc]at h;cases h
  |some r=>
   rw[hc]at h
   simp only[unw,exR,Yro]at h
   subst h
   exact⟨_,_,_,hc,q⟩
theorem Zd3{C:Cx}{g args st P K Q}(h:Call C g args st P)(k:∀v st',P v st'→Run C K (some (.val v st')) Q):Run C K (Zqd (C.call g args st)) Q:=by
 obtain⟨v,st',e,p⟩:=h.ex
 rw[e]
 exact k v st' p
theorem Za7{C:Cx}{ro c fr st P K Q}(h:Code C ro c fr st P)(k:∀e fr' st',P e fr' st'→Run C K (some (.ex e fr' st')) Q):Run C K (exR (C.code ro c fr st)) Q:=by
 obtain⟨e,fr',st',h,p⟩:=h.ex
 rw[h]
 exact k e fr' st' p
theorem Call.mono{C:Cx}{g args st}{P Q:V→St→Prop}(h:Call C g args st P)(k:∀v st',P v st'→Q v st'):Call C g args st Q:=by
 obtain⟨v,st',e,p⟩:=h.ex
 exact⟨v,st',e,k v st' p⟩
def Ym9(I:Nat→Fr→St→Prop)(k:Nat)(P:Ex→Fr→St→Prop):Ex→Fr→St→Prop
 |.normal,fr,st=>∃k',k'<k∧I k' fr st
 |e,fr,st=>P e fr st
theorem Code.loop{C:Cx}{ro c}{P:Ex→Fr→St→Prop}{I:Nat→Fr→St→Prop}(h:∀k fr st,I k fr st→Code C ro c fr st (Ym9 I k P)):∀(k:Nat) (fr:Fr) (st:St),I k fr st→Code C ro (.loop c) fr st P:=by
 intro k
 induction k using Nat.strongRecOn with
 |_ k ih=>
  intro fr st hi
  obtain⟨e,fr',st',h1,p⟩:=(h k fr st hi).ex
  have e1:C.code ro (.loop c) fr st=Zic c C.call C.code ro fr st:=Cx.code_eq ro (.loop c) fr st
  unfold Zic at e1
  rw[h1]at e1
  cases e with
  |normal=>
   obtain⟨k',hk,hi'⟩:=p
   obtain⟨e2,fr2,st2,h2,p2⟩:=(ih k' hk fr' st' hi').ex
   exact⟨e2,fr2,st2,e1.trans h2,p2⟩
  |exit id=>exact⟨_,_,_,e1,p⟩
  |ret=>exact⟨_,_,_,e1,p⟩
theorem Yei{C:Cx}{ro c}{K:List Kf}{Q:Rs→Prop}{fr:Fr}{st:St}(P:Ex→Fr→St→Prop)(I:Nat→Fr→St→Prop)(k:Nat)(hi:I k fr st)(h:∀k fr st,I k fr st→Code C ro c fr st (Ym9 I k P))(q:∀e fr' st',P e fr' st'→Run C K (some (.ex e fr' st')) Q):Run C K (exR (C.code ro (.loop c) fr st)) Q:=
 Za7 (Code.loop h k fr st hi) q
section
variable {C:Cx} {K:List Kf} {Q:Rs→Prop} {ro:Option Nat} {a b c:Zae} {fr:Fr} {st:St}
theorem Yef:Run C K (exR (C.code ro .skip fr st)) Q↔Run C K (some (.ex .normal fr st)) Q:=Zax (by rw[Cx.code_eq];rfl)
theorem Yi8{ops}:Run C K (exR (C.code ro (.reg ops) fr st)) Q↔Run C (.reg::K) (Ydo (mops C.call ops fr st)) Q:=Zax (by
 rw[Cx.code_eq]
 show unw C K (exR (Znj ops C.call C.code ro fr st))=unw C K (Zel C .reg (Ydo (mops C.call ops fr st)))
 unfold Znj
 rcases mops C.call ops fr st with _|⟨_,_⟩<;>rfl)
theorem Yeh{ops ms}:Run C K (exR (C.code ro (.regD ops ms) fr st)) Q↔Run C (.regD ms::K) (Zmq (mopsD C.call ops fr st)) Q:=Zax (by
 rw[Cx.code_eq]
 show unw C K (exR (Zhj ops ms C.call C.code ro fr st))=unw C K (Zel C (.regD ms) (Zmq (mopsD C.call ops fr st)))
 unfold Zhj
 rcases mopsD C.call ops fr st with _|⟨fps,_,_⟩
 ·rfl
 ·simp only[Zmq,Zel,Zgw]
  cases apartOk fps ms<;>rfl)
theorem Yi6:Run C K (exR (C.code ro (.seq a b) fr st)) Q↔Run C (.seq ro b::K) (exR (C.code ro a fr st)) Q:=Zax (by
 rw[Cx.code_eq]
 show unw C K (exR (Zn3 a b C.call C.code ro fr st))=unw C K (Zel C (.seq ro b) (exR (C.code ro a fr st)))
 unfold Zn3
 rcases C.code ro a fr st with _|⟨e,_,_⟩
 ·rfl
 ·cases e<;>rfl)
noncomputable def Ygn(C:Cx)(ro:Option Nat)(a b:Zae)(fr:Fr)(st:St):Option V→Option Rs
 |some (.bool true)=>exR (C.code ro a fr st)
 |some (.bool false)=>exR (C.code ro b fr st)
 |_=>none
theorem Yel{x}:Run C K (exR (C.code ro (.cond x a b) fr st)) Q↔Run C K (Ygn C ro a b fr st (x.ev fr.r)) Q:=Zax (by
 rw[Cx.code_eq]
 show unw C K (exR (Zfs x a b C.call C.code ro fr st))=_
 unfold Zfs Ygn
 rcases x.ev fr.r with _|v
 ·rfl
 ·cases v<;>try rfl
  rename_i b'
  cases b'<;>rfl)
theorem Zyv:Ygn C ro a b fr st (some (.bool true))=exR (C.code ro a fr st):=rfl
theorem Zug:Ygn C ro a b fr st (some (.bool false))=exR (C.code ro b fr st):=rfl
theorem Zz0{id}:Run C K (exR (C.code ro (.block id a) fr st)) Q↔Run C (.block id::K) (exR (C.code ro a fr st)) Q:=Zax (by
 rw[Cx.code_eq]
 show unw C K (exR (Zff id a C.call C.code ro fr st))=unw C K (Zel C (.block id) (exR (C.code ro a fr st)))
 unfold Zff
 rcases C.code ro a fr st with _|⟨e,_,_⟩
 ·rfl
 ·cases e with
  |exit id'=>simp only[exR,Zel,Zgw];cases Nat.beq id' id<;>rfl
  |_=>rfl)
theorem Yek{id}:Run C K (exR (C.code ro (.exit id) fr st)) Q↔Run C K (some (.ex (.exit id) fr st)) Q:=Zax (by rw[Cx.code_eq];rfl)
theorem Zzz:Run C K (exR (C.code ro (.scope a) fr st)) Q↔Run C K (exR (C.code ro a fr st)) Q:=Zax (by rw[Cx.code_eq];rfl)
theorem Yi7:Run C K (exR (C.code ro .ret fr st)) Q↔Run C K (some (.ex .ret fr st)) Q:=Zax (by rw[Cx.code_eq];rfl)
theorem Zrp:Run C (.seq ro b::K) (some (.ex .normal fr st)) Q↔Run C K (exR (C.code ro b fr st)) Q:=Zax rfl
theorem Zx1{i}:Run C (.seq ro b::K) (some (.ex (.exit i) fr st)) Q↔Run C K (some (.ex (.exit i) fr st)) Q:=Zax rfl
theorem Ybv:Run C (.seq ro b::K) (some (.ex .ret fr st)) Q↔Run C K (some (.ex .ret fr st)) Q:=Zax rfl
theorem Zn1{i}:Run C (.block i::K) (some (.ex .normal fr st)) Q↔Run C K (some (.ex .normal fr st)) Q:=Zax rfl
theorem Zt7{i}:Run C (.block i::K) (some (.ex .ret fr st)) Q↔Run C K (some (.ex .ret fr st)) Q:=Zax rfl
theorem Zrq{i}:Run C (.block i::K) (some (.ex (.exit i) fr st)) Q↔Run C K (some (.ex .normal fr st)) Q:=Zax (by simp[unw,Zel,Zgw,Nat.beq_refl])
theorem Zpy{i j}(h:Nat.beq j i=false):Run C (.block i::K) (some (.ex (.exit j) fr st)) Q↔Run C K (some (.ex (.exit j) fr st)) Q:=Zax (by simp[unw,Zel,Zgw,h])
theorem Ypi:Run C (.reg::K) (some (.ops fr st)) Q↔Run C K (some (.ex .normal fr st)) Q:=Zax rfl
theorem Yjp:Ydo (mops C.call [] fr st)=some (.ops fr st):=rfl
def opR(C:Cx)(K:List Kf)(Q:Rs→Prop)(d:Option Nat)(op:MOp)(ops:List Zbg)(fr:Fr)(st:St):Option Bool→Prop
 |some true=>Run C (.put d ops fr::K) (Zqd (mop op C.call fr.r st)) Q
 |some false=>Run C (.put d ops fr::K) (some (.val (.tup []) st)) Q
 |none=>False
theorem Yex{d op g ops}:Run C K (Ydo (mops C.call (⟨d,op,g⟩::ops) fr st)) Q↔opR C K Q d op ops fr st (wantedV fr.r g):=by
 have e:mops C.call (⟨d,op,g⟩::ops) fr st=Zia C.call ⟨d,op,g⟩ (mops C.call ops) fr st:=rfl
 rw[e]
 unfold Zia
 simp only[]
 rcases wantedV fr.r g with _|b
 ·exact Zhs
 ·cases b
  ·show _↔Run C (.put d ops fr::K) (some (.val (.tup []) st)) Q
   refine Zax ?_
   show _=unw C K (Zgw C (.put d ops fr) (.val (.tup []) st))
   simp only[Zgw]
   rcases fr.put d (.tup [])with _|_<;>rfl
  ·show _↔Run C (.put d ops fr::K) (Zqd (mop op C.call fr.r st)) Q
   refine Zax ?_
   show _=unw C K (Zel C (.put d ops fr) (Zqd (mop op C.call fr.r st)))
   rcases mop op C.call fr.r st with _|⟨v,st'⟩
   ·rfl
   ·simp only[Zqd,Zel,Zgw]
    rcases fr.put d v with _|_<;>rfl
theorem Ye2{d op ops}:opR C K Q d op ops fr st (some true)↔Run C (.put d ops fr::K) (Zqd (mop op C.call fr.r st)) Q:=Iff.rfl
theorem Yam{d op ops}:opR C K Q d op ops fr st (some false)↔Run C (.put d ops fr::K) (some (.val (.tup []) st)) Q:=Iff.rfl
theorem Zzb{v:V}:Zqd (some (v,st))=some (.val v st):=rfl
theorem Ypj{d n m r ops v}(h:d<n):Run C (.put (some d) ops ⟨r,n,m⟩::K) (some (.val v st)) Q↔Run C K (Ydo (mops C.call ops ⟨r.set d v,n,m⟩ st)) Q:=Zax (by simp[unw,Zel,Zgw,Fr.put,h])
theorem Zx2{ops v}:Run C (.put none ops fr::K) (some (.val v st)) Q↔Run C K (Ydo (mops C.call ops fr st)) Q:=Zax rfl
theorem Yey:Zmq (mopsD C.call [] fr st)=some (.opsD [] fr st):=rfl
def Ymy(C:Cx)(K:List Kf)(Q:Rs→Prop)(d:Option Nat)(op:MOp)(ops:List Zbg)(fr:Fr)(h:T O)(n:Nat)(w:List Nat):Option Bool→Prop
 |some true=>Run C (.putD op d ops fr n w::K) (Zqd (mop op C.call fr.r ⟨h,n,[]⟩)) Q
 |some false=>Run C (.cons ⟨some [],[],n,n⟩::K) (match fr.put d (.tup [])with|some fr'=>Zmq (mopsD C.call ops fr' ⟨h,n,w⟩)|none=>none) Q
 |none=>False
theorem Yak{d op g ops h n w}:Run C K (Zmq (mopsD C.call (⟨d,op,g⟩::ops) fr ⟨h,n,w⟩)) Q↔Ymy C K Q d op ops fr h n w (wantedV fr.r g):=by
 have e:mopsD C.call (⟨d,op,g⟩::ops) fr ⟨h,n,w⟩=Zfd C.call ⟨d,op,g⟩ (mopsD C.call ops) fr ⟨h,n,w⟩:=rfl
 rw[e]
 unfold Zfd
 simp only[]
 rcases wantedV fr.r g with _|b
 ·exact Zhs
 ·cases b
  ·show _↔Run C (.cons ⟨some [],[],n,n⟩::K) (match fr.put d (.tup [])with|some fr'=>Zmq (mopsD C.call ops fr' ⟨h,n,w⟩)|none=>none) Q
   refine Zax ?_
   show _=unw C K (Zel C (.cons ⟨some [],[],n,n⟩) _)
   rcases fr.put d (.tup [])with _|fr'
   ·rfl
   ·simp only[]
    rcases mopsD C.call ops fr' ⟨h,n,w⟩with _|⟨_,_,_⟩<;>rfl
  ·show _↔Run C (.putD op d ops fr n w::K) (Zqd (mop op C.call fr.r ⟨h,n,[]⟩)) Q
   refine Zax ?_
   show _=unw C K (Zel C (.putD op d ops fr n w) (Zqd (mop op C.call fr.r ⟨h,n,[]⟩)))
   rcases mop op C.call fr.r ⟨h,n,[]⟩with _|⟨v,st'⟩
   ·rfl
   ·simp only[Zqd,Zel,Zgw]
    rcases fr.put d v with _|fr'
    ·rfl
    ·simp only[]
     rcases mopsD C.call ops fr' {st' with w:=Zac n st'.w++w} with _|⟨_,_,_⟩<;>rfl
theorem Yan{d op ops h n w}:Ymy C K Q d op ops fr h n w (some true)↔Run C (.putD op d ops fr n w::K) (Zqd (mop op C.call fr.r ⟨h,n,[]⟩)) Q:=Iff.rfl
theorem Zw8{d n m r ops op h N w}(hd:d<n):Ymy C K Q (some d) op ops ⟨r,n,m⟩ h N w (some false)↔Run C (.cons ⟨some [],[],N,N⟩::K) (Zmq (mopsD C.call ops ⟨r.set d (.tup []),n,m⟩ ⟨h,N,w⟩)) Q:=by simp[Ymy,Fr.put,hd]
theorem Ztn{ops op h N w}:Ymy C K Q none op ops fr h N w (some false)↔Run C (.cons ⟨some [],[],N,N⟩::K) (Zmq (mopsD C.call ops fr ⟨h,N,w⟩)) Q:=Iff.rfl
theorem Ync{op d n m r ops v N w h' n' w'}(h:d<n):Run C (.putD op (some d) ops ⟨r,n,m⟩ N w::K) (some (.val v ⟨h',n',w'⟩)) Q↔Run C (.cons (Zcp r op (Zac N w') N n')::K) (Zmq (mopsD C.call ops ⟨r.set d v,n,m⟩ ⟨h',n',Zac N w'++w⟩)) Q:=Zax (by
 simp only[unw,Zel,Zgw,Fr.put,h,if_true]
 rcases mopsD C.call ops _ _ with _|⟨_,_,_⟩<;>rfl)
theorem Zt6{op ops v N w h' n' w'}:Run C (.putD op none ops fr N w::K) (some (.val v ⟨h',n',w'⟩)) Q↔Run C (.cons (Zcp fr.r op (Zac N w') N n')::K) (Zmq (mopsD C.call ops fr ⟨h',n',Zac N w'++w⟩)) Q:=Zax (by
 simp only[unw,Zel,Zgw,Fr.put]
 rcases mopsD C.call ops _ _ with _|⟨_,_,_⟩<;>rfl)
theorem Ynd{fp fps}:Run C (.cons fp::K) (some (.opsD fps fr st)) Q↔Run C K (some (.opsD (fp::fps) fr st)) Q:=Zax rfl
theorem Zfo{ms fps}(h:apartOk fps ms=true):Run C (.regD ms::K) (some (.opsD fps fr st)) Q↔Run C K (some (.ex .normal fr st)) Q:=Zax (by simp only[unw,Zel,Zgw,h])
theorem Yej{g first caps args mf}(hx:C.x (.func g first caps) args st=none)(h:C.tbl g=some mf)(hl:(first++args++caps).length≤mf.ntmps):Run C K (Zqd (C.call (.func g first caps) args st)) Q↔Run C (.fin mf.results st::K) (exR (C.code none mf.body ⟨Zef .nil 0 (first++args++caps),mf.ntmps,[]⟩ ⟨st.h,st.n,[]⟩)) Q:=Zax (by
 rw[Cx.call_eq]
 unfold Zd9
 rw[hx]
 simp only[Zcn,h,Zgd,Yuq.2 hl,if_false]
 show _=unw C K (Zel C (.fin mf.results st) _)
 unfold Zua
 rcases C.code none mf.body _ _ with _|⟨e,fr1,st1⟩
 ·rfl
 ·cases e with
  |exit=>rfl
  |normal=>
   simp only[exR,Zel,Zgw]
   rcases shut st1 fr1.marks with _|st2
   ·rfl
   ·simp only[]
    rcases resV fr1.r st2 mf.results with _|_<;>rfl
  |ret=>
   simp only[exR,Zel,Zgw]
   rcases shut st1 fr1.marks with _|st2
   ·rfl
   ·simp only[]
    rcases resV fr1.r st2 mf.results with _|_<;>rfl)
def Ypm(h:T O)(n:Nat)(w:List Nat):Option (List V)→Option Rs
 |some vs=>some (.val (Zqw vs) ⟨h,n,w⟩)
 |none=>none
theorem Ycd{h n w vs}:Ypm h n w (some vs)=some (.val (Zqw vs) ⟨h,n,w⟩):=rfl
theorem Ybw{rs r n h1 n1 w1}:Run C (.fin rs st::K) (some (.ex .ret ⟨r,n,[]⟩ ⟨h1,n1,w1⟩)) Q↔Run C K (Ypm h1 n1 (Zac st.n w1++st.w) (resV r ⟨h1,n1,w1⟩ rs)) Q:=Zax (by
 simp only[unw,Zel,Zgw,shut]
 rcases resV r ⟨h1,n1,w1⟩ rs with _|_<;>rfl)
theorem Ybx{rs r n h1 n1 w1}:Run C (.fin rs st::K) (some (.ex .normal ⟨r,n,[]⟩ ⟨h1,n1,w1⟩)) Q↔Run C K (Ypm h1 n1 (Zac st.n w1++st.w) (resV r ⟨h1,n1,w1⟩ rs)) Q:=Zax (by
 simp only[unw,Zel,Zgw,shut]
 rcases resV r ⟨h1,n1,w1⟩ rs with _|_<;>rfl)
end
theorem Zt0(a):mop (.convStr a)=Zev a:=rfl
theorem Zra(a b):mop (.strBytes a b)=Zci a b:=rfl
theorem Zrf(a):mop (.bytesStr a)=Zc2 a:=rfl
theorem Ztx(a b):mop (.mkiface a b)=Zeu a b:=rfl
theorem Ya2:mop .mkmap=Zhv:=rfl
theorem Zxg(a b):mop (.mkchan a b)=Zeb a b:=rfl
theorem Ztw(a b c d e f):mop (.mkslice a b c d e f)=Zcm a b c d e f:=rfl
theorem Zrb(a b c):mop (.sliceStr a b c)=Zbn a b c:=rfl
theorem Ztu(a b c d e):mop (.sliceSl a b c d e)=Za8 a b c d e:=rfl
theorem Zrc(a b c d e f):mop (.sliceArr a b c d e f)=Zbv a b c d e f:=rfl
theorem Zxl(a b c d e):mop (.idxArr a b c d e)=Zfi a b c d e:=rfl
theorem Zxk(a b):mop (.idxStr a b)=Zed a b:=rfl
theorem Zxi(a b c d e):mop (.lookup a b c d e)=Ze2 a b c d e:=rfl
theorem Zxh(a b c d):mop (.mapset a b c d)=Zec a b c d:=rfl
theorem Zrd(a):mop (.rangeStr a)=Zc1 a:=rfl
theorem Ztv(a):mop (.nextStr a)=Zdv a:=rfl
theorem Zxj(a):mop (.lenArr a)=Zg2 a:=rfl
theorem Yj6(a):mop (.cap a)=Zom a:=rfl
theorem Ym8(a):mop (.mn a)=Zlg a:=rfl
theorem Ym7(a):mop (.mx a)=Zeh a:=rfl
theorem Zxn(a b c d e f):mop (.append a b c d e f)=Zdj a b c d e f:=rfl
theorem Yfb(a b c):mop (.copy a b c)=Zg3 a b c:=rfl
theorem Ya6(a b c):mop (.clear a b c)=Zhw a b c:=rfl
theorem Yj2(a b):mop (.uns a b)=Zk6 a b:=rfl
theorem Ya0(a):mop (.sdata a)=Zhu a:=rfl
theorem Ye8(a b c):mop (.ustr a b c)=Zkq a b c:=rfl
theorem Yj5(a b):mop (.ext a b)=Zms a b:=rfl
theorem Yk0{ng k x y}:eqV ng (.prim k) x y=Zaq ng k x y:=by cases x<;>cases y<;>rfl
attribute [simp] Yi9 Ydu Ynn Yef Yi8 Yeh Yi6 Yel Zyv Zug Zz0 Yek Zzz Yi7 Zrp Zx1 Ybv Zn1 Zt7 Zrq Ypi Yjp Yex Ye2 Yam Zzb Ypj Zx2
 Yey Yak Yan Zw8 Ztn Ync Zt6 Ynd Zfo Ycd Ybw Ybx
 Zt0 Zra Zrf Ztx Ya2 Zxg Ztw Zrb Ztu Zrc Zxl Zxk Zxi Zxh Zrd Ztv Zxj Yj6 Ym8 Ym7 Zxn Yfb Ya6 Yj2 Ya0 Ye8 Yj5 Yk0
structure Keeps (h:T O) (n:Nat) (h':T O) (n':Nat):Prop where
 le:n≤n'
 get:∀i,i<n→h'.get i=h.get i
theorem Keeps.refl{h:T O}{n:Nat}:Keeps h n h n:=⟨Yrr _,fun _ _=>rfl⟩
theorem Keeps.trans{h h1 h2:T O}{n n1 n2:Nat}(a:Keeps h n h1 n1)(b:Keeps h1 n1 h2 n2):Keeps h n h2 n2:=
 ⟨Ytg a.le b.le,fun i hi=>(b.get i (Yr3 hi a.le)).trans (a.get i hi)⟩
theorem Keeps.set{h h1:T O}{n n1:Nat}{i:Nat}{o:O}(hi:n≤i)(a:Keeps h n h1 n1):Keeps h n (h1.set i o) n1:=
 ⟨a.le,fun j hj=>by rw[T.get_set,Yrq (by omega)];exact a.get j hj⟩
theorem Keeps.up{h h1:T O}{n n1 n2:Nat}(a:Keeps h n h1 n1)(hn:n1≤n2):Keeps h n h1 n2:=⟨Ytg a.le hn,a.get⟩
def Ret(P:V→T O→Nat→Prop)(h:T O)(n:Nat)(w:List Nat)(v:V)(st:St):Prop:=st.w=w∧Keeps h n st.h st.n∧P v st.h st.n
abbrev Fn(C:Cx)(f:Nat)(args:List V)(h:T O)(n:Nat)(P:V→T O→Nat→Prop):Prop:=∀w,Call C (.func f [] []) args ⟨h,n,w⟩ (Ret P h n w)
theorem Zab{C:Cx}{f args h n w P K Q}(hf:Fn C f args h n P)(k:∀v h' n',Keeps h n h' n'→P v h' n'→Run C K (some (.val v ⟨h',n',w⟩)) Q):Run C K (Zqd (C.call (.func f [] []) args ⟨h,n,w⟩)) Q:=
 Zd3 (hf w) fun v st'=>by
  obtain⟨h',n',w'⟩:=st'
  rintro⟨rfl,hk,hp⟩
  exact k v h' n' hk hp
theorem Zon{N:Nat}:∀{w:List Nat},(∀i∈w,N≤i)→Zac N w=[]
 |[],_=>rfl
 |i::w,h=>by
  have:=h i Ysj
  simp only[Zac,Yuq.2 this,if_false]
  exact Zon fun j hj=>h j (Ysh _ hj)
end Go.Mx
