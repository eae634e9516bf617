/-
  Runs without a count of steps: what a call and a piece of code come to, if they come to an end.
-/
import Derived.Test.YtlbophlgohokkaaGreatDoorMxTab
set_option linter.all false
namespace Go.Mx
open Go
def Le(a b:Za1):Prop:=∀g args st r,a g args st=some r→b g args st=some r
theorem Zlr{a b:Za1}(h:Le a b)(op:MOp)(r:T V)(st:St){o:V×St}(e:mop op a r st=some o):mop op b r st=some o:=by
 cases op<;>try exact e
 rename_i f args
 show Zeg f args b r st=some o
 have e:Zeg f args a r st=some o:=e
 unfold Zeg at e ⊢
 split at e
 ·exact h _ _ _ _ e
 ·cases e
theorem Zg3{a b:Za1}(h:Le a b):∀(ops:List Zbe) (fr:Fr) (st:St) {o:Fr×St},mops a ops fr st=some o→mops b ops fr st=some o
 |[],_,_,_,e=>e
 |q::ops,fr,st,o,e=>by
  have e:Zh5 a q (mops a ops) fr st=some o:=e
  show Zh5 b q (mops b ops) fr st=some o
  unfold Zh5 at e ⊢
  split at e
  ·split at e
   ·rename_i v st' h1
    rw[Zlr h _ _ _ h1]
    simp only[]
    split at e
    ·exact Zg3 h ops _ _ e
    ·cases e
   ·cases e
  ·split at e
   ·exact Zg3 h ops _ _ e
   ·cases e
  ·cases e
theorem Zht{a b:Za1}(h:Le a b):∀(ops:List Zbe) (fr:Fr) (st:St) {o:List FP×Fr×St},mopsD a ops fr st=some o→mopsD b ops fr st=some o
 |[],_,_,_,e=>e
 |q::ops,fr,st,o,e=>by
  have e:Zfe a q (mopsD a ops) fr st=some o:=e
  show Zfe b q (mopsD b ops) fr st=some o
  unfold Zfe at e ⊢
  split at e
  ·split at e
   ·rename_i v st' h1
    rw[Zlr h _ _ _ h1]
    simp only[]
    split at e
    ·split at e
     ·rename_i h2
      rw[Zht h ops _ _ h2]
      exact e
     ·cases e
    ·cases e
   ·cases e
  ·split at e
   ·split at e
    ·rename_i h2
     rw[Zht h ops _ _ h2]
     exact e
    ·cases e
   ·cases e
  ·cases e
def LeC(a b:Zfu):Prop:=∀ro c fr st r,a ro c fr st=some r→b ro c fr st=some r
theorem Zj6{a b:Za1}{p q:Zfu}(h:Le a b)(hc:LeC p q)(ro:Option Nat)(c:Zae)(fr:Fr)(st:St){o:Ex×Fr×St}(e:Zba c a p ro fr st=some o):Zba c b q ro fr st=some o:=by
 cases c with
 |skip=>exact e
 |reg ops=>
  have e:Znf ops a p ro fr st=some o:=e
  show Znf ops b q ro fr st=some o
  unfold Znf at e ⊢
  split at e
  ·rename_i h1;rw[Zg3 h _ _ _ h1];exact e
  ·cases e
 |regD ops ms=>
  have e:Zhe ops ms a p ro fr st=some o:=e
  show Zhe ops ms b q ro fr st=some o
  unfold Zhe at e ⊢
  split at e
  ·rename_i h1;rw[Zht h _ _ _ h1];exact e
  ·cases e
 |regS dst ch send zero ops=>
  have e:Zhd dst ch send zero ops a p ro fr st=some o:=e
  show Zhd dst ch send zero ops b q ro fr st=some o
  unfold Zhd at e ⊢
  split at e
  ·split at e
   ·split at e
    ·split at e
     ·rename_i h1;rw[Zg3 h _ _ _ h1];exact e
     ·cases e
    ·cases e
   ·cases e
  ·cases e
 |seq x y=>
  have e:Znx x y a p ro fr st=some o:=e
  show Znx x y b q ro fr st=some o
  unfold Znx at e ⊢
  split at e
  ·rename_i h1;rw[hc _ _ _ _ _ h1];exact hc _ _ _ _ _ e
  ·rename_i h1
   have:=hc _ _ _ _ _ e
   rw[this]
   rcases o with⟨_|_|_,_,_⟩
   ·exact absurd e (h1 _ _)
   ·rfl
   ·rfl
 |cond x y z=>
  have e:Zfs x y z a p ro fr st=some o:=e
  show Zfs x y z b q ro fr st=some o
  unfold Zfs at e ⊢
  split at e
  ·exact hc _ _ _ _ _ e
  ·exact hc _ _ _ _ _ e
  ·cases e
 |block id x=>
  have e:Zfg id x a p ro fr st=some o:=e
  show Zfg id x b q ro fr st=some o
  unfold Zfg at e ⊢
  split at e
  ·rename_i h1;rw[hc _ _ _ _ _ h1];exact e
  ·rename_i h1
   have:=hc _ _ _ _ _ e
   rw[this]
   rcases o with⟨_|_|_,_,_⟩
   ·rfl
   ·exact absurd e (h1 _ _ _)
   ·rfl
 |loop x=>
  have e:Zh7 x a p ro fr st=some o:=e
  show Zh7 x b q ro fr st=some o
  unfold Zh7 at e ⊢
  split at e
  ·rename_i h1;rw[hc _ _ _ _ _ h1];exact hc _ _ _ _ _ e
  ·rename_i h1
   have:=hc _ _ _ _ _ e
   rw[this]
   rcases o with⟨_|_|_,_,_⟩
   ·exact absurd e (h1 _ _)
   ·rfl
   ·rfl
 |rangef g ps x y=>
  have e:Zeq g ps x y a p ro fr st=some o:=e
  show Zeq g ps x y b q ro fr st=some o
  unfold Zeq at e ⊢
  split at e
  ·cases e
  ·split at e
   ·cases e
   ·rename_i hy
    simp only[hy]
    split at e
    ·cases e
    ·split at e
     ·cases e
     ·rename_i h1;rw[h _ _ _ _ h1];exact e
 |exit id=>exact e
 |scope x=>exact hc _ _ _ _ _ e
 |ret=>exact e
 |stop=>exact e
theorem Zb4{a b:Za1}(h:Le a b):∀(F F':Nat),F≤F'→LeC (Zbg a F) (Zbg b F')
 |0,_,_=>fun _ _ _ _ _ e=>by cases e
 |F+1,0,hF=>by omega
 |F+1,F'+1,hF=>fun ro c fr st _ e=>Zj6 h (Zb4 h F F' (by omega)) ro c fr st e
theorem Zrm{p q:Zfu}(h:LeC p q){mf:Zee}{args:List V}{st:St}{o:V×St}(e:Zge mf p args st=some o):Zge mf q args st=some o:=by
 unfold Zge at e ⊢
 split at e
 ·cases e
 ·rename_i h0
  rw[if_neg h0]
  cases h1:p none mf.body {r:=Zef .nil 0 args,n:=mf.ntmps,marks:=[]} {st with w:=[]} with
  |none=>rw[h1]at e;cases e
  |some r=>rw[h1]at e;rw[h _ _ _ _ _ h1];exact e
theorem Zpc{p q:Zfu}(h:LeC p q){l:Nat}{args:List V}{st:St}{o:V×St}(e:Zf4 p l args st=some o):Zf4 q l args st=some o:=by
 unfold Zf4 at e ⊢
 split at e
 ·split at e
  ·cases e
  ·split at e
   ·rename_i h1
    rw[h _ _ _ _ _ h1]
    simp only[]
    split at e
    ·split at e
     ·rename_i hr
      rw[if_pos hr]
      split at e
      ·rename_i h2
       rw[h _ _ _ _ _ h2]
       exact e
      ·cases e
     ·cases e
    ·cases e
   ·cases e
 ·cases e
theorem Zgk{tbl:Nat→Option Zee}{p q:Zfu}(h:LeC p q):Le (Zcl tbl p) (Zcl tbl q):=by
 intro g args st o e
 unfold Zcl at e ⊢
 split at e
 ·split at e
  ·exact Zrm h e
  ·cases e
 ·exact Zpc h e
 ·cases e
theorem Zmm{x a b:Za1}(h:Le a b):Le (Zd9 x a) (Zd9 x b):=by
 intro g args st o e
 unfold Zd9 at e ⊢
 split at e
 ·exact e
 ·exact h _ _ _ _ e
theorem Zgc{x:Za1}{tbl:Nat→Option Zee}{F F':Nat}(hF:F≤F'):∀(d d':Nat),d≤d'→Le (Zgo x tbl F d) (Zgo x tbl F' d')
 |0,0,_=>fun _ _ _ _ e=>e
 |0,d'+1,_=>fun g args st o e=>by
  have e:x g args st=some o:=e
  show Zd9 x _ g args st=some o
  unfold Zd9;rw[e]
 |d+1,0,h=>by omega
 |d+1,d'+1,h=>Zmm (Zgk (Zb4 (Zgc hF d d' (by omega)) F F' hF))
structure Cx where
 x:Za1
 tbl:Nat→Option Zee
def Cx.at(C:Cx)(N:Nat):Za1:=Zgo C.x C.tbl N N
theorem Cx.at_mono{C:Cx}{N M:Nat}(h:N≤M):Le (C.at N) (C.at M):=Zgc h N M h
open Classical in
noncomputable def Cx.call(C:Cx):Za1:=fun g args st=>if h:∃r N,C.at N g args st=some r then some h.choose else none
theorem Cx.call_iff{C:Cx}{g args st r}:C.call g args st=some r↔∃N,C.at N g args st=some r:=by
 unfold Cx.call
 constructor
 ·intro h
  split at h
  ·rename_i hc
   simp only[Option.some.injEq]at h
   exact h▸hc.choose_spec
  ·cases h
 ·rintro⟨N,h⟩
  have hc:∃r N,C.at N g args st=some r:=⟨r,N,h⟩
  rw[dif_pos hc]
  obtain⟨M,hM⟩:=hc.choose_spec
  have h1:=Cx.at_mono (Nat.le_max_left N M) _ _ _ _ h
  have h2:=Cx.at_mono (Nat.le_max_right N M) _ _ _ _ hM
  rw[h1]at h2
  exact congrArg some (Option.some.inj h2).symm
open Classical in
noncomputable def Cx.code(C:Cx):Zfu:=fun ro c fr st=>if h:∃r F,Zbg C.call F ro c fr st=some r then some h.choose else none
theorem Cx.code_iff{C:Cx}{ro c fr st r}:C.code ro c fr st=some r↔∃F,Zbg C.call F ro c fr st=some r:=by
 unfold Cx.code
 constructor
 ·intro h
  split at h
  ·rename_i hc
   simp only[Option.some.injEq]at h
   exact h▸hc.choose_spec
  ·cases h
 ·rintro⟨N,h⟩
  have hc:∃r F,Zbg C.call F ro c fr st=some r:=⟨r,N,h⟩
  rw[dif_pos hc]
  obtain⟨M,hM⟩:=hc.choose_spec
  have h1:=Zb4 (fun _ _ _ _ e=>e) N (max N M) (Nat.le_max_left N M) _ _ _ _ _ h
  have h2:=Zb4 (fun _ _ _ _ e=>e) M (max N M) (Nat.le_max_right N M) _ _ _ _ _ hM
  rw[h1]at h2
  exact congrArg some (Option.some.inj h2).symm
theorem Zz1{α:Type}{a b:Option α}(h:∀r,a=some r↔b=some r):a=b:=by
 cases a with
 |none=>cases b with
  |none=>rfl
  |some r=>exact absurd ((h r).2 rfl) (by simp)
 |some r=>exact((h r).1 rfl).symm
theorem Zeo{a:Za1}{p:Zfu}{q:Nat→Zfu}(hq:∀n m,n≤m→LeC (q n) (q m))(hp:∀ro c fr st r,p ro c fr st=some r→∃n,q n ro c fr st=some r)(ro:Option Nat)(c:Zae)(fr:Fr)(st:St){o:Ex×Fr×St}(e:Zba c a p ro fr st=some o):∃n,Zba c a (q n) ro fr st=some o:=by
 cases c with
 |skip=>exact⟨0,e⟩
 |reg ops=>exact⟨0,e⟩
 |regD ops ms=>exact⟨0,e⟩
 |regS dst ch send zero ops=>exact⟨0,e⟩
 |seq x y=>
  have e:Znx x y a p ro fr st=some o:=e
  show ∃n,Znx x y a (q n) ro fr st=some o
  unfold Znx at e ⊢
  split at e
  ·rename_i h1
   obtain⟨n,hn⟩:=hp _ _ _ _ _ h1
   obtain⟨m,hm⟩:=hp _ _ _ _ _ e
   refine⟨max n m,?_⟩
   rw[hq n _ (Nat.le_max_left n m) _ _ _ _ _ hn]
   exact hq m _ (Nat.le_max_right n m) _ _ _ _ _ hm
  ·rename_i h1
   obtain⟨n,hn⟩:=hp _ _ _ _ _ e
   refine⟨n,?_⟩
   rw[hn]
   rcases o with⟨_|_|_,_,_⟩
   ·exact absurd e (h1 _ _)
   ·rfl
   ·rfl
 |cond x y z=>
  have e:Zfs x y z a p ro fr st=some o:=e
  show ∃n,Zfs x y z a (q n) ro fr st=some o
  unfold Zfs at e ⊢
  split at e
  ·exact hp _ _ _ _ _ e
  ·exact hp _ _ _ _ _ e
  ·cases e
 |block id x=>
  have e:Zfg id x a p ro fr st=some o:=e
  show ∃n,Zfg id x a (q n) ro fr st=some o
  unfold Zfg at e ⊢
  split at e
  ·rename_i h1
   obtain⟨n,hn⟩:=hp _ _ _ _ _ h1
   exact⟨n,by rw[hn];exact e⟩
  ·rename_i h1
   obtain⟨n,hn⟩:=hp _ _ _ _ _ e
   refine⟨n,?_⟩
   rw[hn]
   rcases o with⟨_|_|_,_,_⟩
   ·rfl
   ·exact absurd e (h1 _ _ _)
   ·rfl
 |loop x=>
  have e:Zh7 x a p ro fr st=some o:=e
  show ∃n,Zh7 x a (q n) ro fr st=some o
  unfold Zh7 at e ⊢
  split at e
  ·rename_i h1
   obtain⟨n,hn⟩:=hp _ _ _ _ _ h1
   obtain⟨m,hm⟩:=hp _ _ _ _ _ e
   refine⟨max n m,?_⟩
   rw[hq n _ (Nat.le_max_left n m) _ _ _ _ _ hn]
   exact hq m _ (Nat.le_max_right n m) _ _ _ _ _ hm
  ·rename_i h1
   obtain⟨n,hn⟩:=hp _ _ _ _ _ e
   refine⟨n,?_⟩
   rw[hn]
   rcases o with⟨_|_|_,_,_⟩
   ·exact absurd e (h1 _ _)
   ·rfl
   ·rfl
 |rangef g ps x y=>exact⟨0,e⟩
 |exit id=>exact⟨0,e⟩
 |scope x=>exact hp _ _ _ _ _ e
 |ret=>exact⟨0,e⟩
 |stop=>exact⟨0,e⟩
theorem Cx.code_eq{C:Cx}(ro:Option Nat)(c:Zae)(fr:Fr)(st:St):C.code ro c fr st=Zba c C.call C.code ro fr st:=by
 apply Zz1
 intro r
 constructor
 ·intro h
  obtain⟨F,hF⟩:=Cx.code_iff.1 h
  cases F with
  |zero=>cases hF
  |succ F=>exact Zj6 (fun _ _ _ _ e=>e) (fun ro c fr st r e=>Cx.code_iff.2 ⟨F,e⟩) ro c fr st hF
 ·intro h
  obtain⟨n,hn⟩:=Zeo (q:=Zbg C.call) (Zb4 fun _ _ _ _ e=>e) (fun _ _ _ _ _ e=>Cx.code_iff.1 e) ro c fr st h
  exact Cx.code_iff.2 ⟨n+1,hn⟩
theorem Zu9{C:Cx}(op:MOp)(r:T V)(st:St){o:V×St}(e:mop op C.call r st=some o):∃N,mop op (C.at N) r st=some o:=by
 cases op<;>try exact⟨0,e⟩
 rename_i f args
 have e:Zeg f args C.call r st=some o:=e
 show ∃N,Zeg f args (C.at N) r st=some o
 unfold Zeg at e ⊢
 split at e
 ·exact Cx.call_iff.1 e
 ·cases e
theorem Zjt{C:Cx}:∀(ops:List Zbe) (fr:Fr) (st:St) {o:Fr×St},mops C.call ops fr st=some o→∃N,mops (C.at N) ops fr st=some o
 |[],_,_,_,e=>⟨0,e⟩
 |q::ops,fr,st,o,e=>by
  have e:Zh5 C.call q (mops C.call ops) fr st=some o:=e
  show ∃N,Zh5 (C.at N) q (mops (C.at N) ops) fr st=some o
  unfold Zh5 at e ⊢
  split at e
  ·split at e
   ·rename_i v st' h1
    split at e
    ·obtain⟨N,hN⟩:=Zu9 _ _ _ h1
     obtain⟨M,hM⟩:=Zjt ops _ _ e
     refine⟨max N M,?_⟩
     rw[Zlr (Cx.at_mono (Nat.le_max_left N M)) _ _ _ hN]
     rename_i h3
     simp only[h3]
     exact Zg3 (Cx.at_mono (Nat.le_max_right N M)) _ _ _ hM
    ·cases e
   ·cases e
  ·split at e
   ·exact Zjt ops _ _ e
   ·cases e
  ·cases e
theorem Zkr{C:Cx}:∀(ops:List Zbe) (fr:Fr) (st:St) {o:List FP×Fr×St},mopsD C.call ops fr st=some o→∃N,mopsD (C.at N) ops fr st=some o
 |[],_,_,_,e=>⟨0,e⟩
 |q::ops,fr,st,o,e=>by
  have e:Zfe C.call q (mopsD C.call ops) fr st=some o:=e
  show ∃N,Zfe (C.at N) q (mopsD (C.at N) ops) fr st=some o
  unfold Zfe at e ⊢
  split at e
  ·split at e
   ·rename_i v st' h1
    split at e
    ·rename_i h3
     split at e
     ·rename_i h2
      obtain⟨N,hN⟩:=Zu9 _ _ _ h1
      obtain⟨M,hM⟩:=Zkr ops _ _ h2
      refine⟨max N M,?_⟩
      rw[Zlr (Cx.at_mono (Nat.le_max_left N M)) _ _ _ hN]
      simp only[h3]
      rw[Zht (Cx.at_mono (Nat.le_max_right N M)) _ _ _ hM]
      exact e
     ·cases e
    ·cases e
   ·cases e
  ·split at e
   ·split at e
    ·rename_i h2
     obtain⟨M,hM⟩:=Zkr ops _ _ h2
     exact⟨M,by rw[hM];exact e⟩
    ·cases e
   ·cases e
  ·cases e
theorem Zoj{C:Cx}:∀(F:Nat) (ro:Option Nat) (c:Zae) (fr:Fr) (st:St) {o:Ex×Fr×St},Zbg C.call F ro c fr st=some o→∃N,Zbg (C.at N) F ro c fr st=some o
 |0,_,_,_,_,_,e=>by cases e
 |F+1,ro,c,fr,st,o,e=>by
  have e:Zba c C.call (Zbg C.call F) ro fr st=some o:=e
  show ∃N,Zba c (C.at N) (Zbg (C.at N) F) ro fr st=some o
  have ih:=@Zoj C F
  have up:∀{n m:Nat},n≤m→LeC (Zbg (C.at n) F) (Zbg (C.at m) F):=fun h=>Zb4 (Cx.at_mono h) F F (Nat.le_refl _)
  cases c with
  |reg ops=>
   have e:Znf ops C.call (Zbg C.call F) ro fr st=some o:=e
   show ∃N,Znf ops (C.at N) (Zbg (C.at N) F) ro fr st=some o
   unfold Znf at e ⊢
   split at e
   ·rename_i h1
    obtain⟨N,hN⟩:=Zjt _ _ _ h1
    exact⟨N,by rw[hN];exact e⟩
   ·cases e
  |regD ops ms=>
   have e:Zhe ops ms C.call (Zbg C.call F) ro fr st=some o:=e
   show ∃N,Zhe ops ms (C.at N) (Zbg (C.at N) F) ro fr st=some o
   unfold Zhe at e ⊢
   split at e
   ·rename_i h1
    obtain⟨N,hN⟩:=Zkr _ _ _ h1
    exact⟨N,by rw[hN];exact e⟩
   ·cases e
  |regS dst ch send zero ops=>
   have e:Zhd dst ch send zero ops C.call (Zbg C.call F) ro fr st=some o:=e
   show ∃N,Zhd dst ch send zero ops (C.at N) (Zbg (C.at N) F) ro fr st=some o
   unfold Zhd at e ⊢
   split at e
   ·split at e
    ·split at e
     ·split at e
      ·rename_i h1
       obtain⟨N,hN⟩:=Zjt _ _ _ h1
       exact⟨N,by rw[hN];exact e⟩
      ·cases e
     ·cases e
    ·cases e
   ·cases e
  |rangef g ps x y=>
   have e:Zeq g ps x y C.call (Zbg C.call F) ro fr st=some o:=e
   show ∃N,Zeq g ps x y (C.at N) (Zbg (C.at N) F) ro fr st=some o
   unfold Zeq at e ⊢
   split at e
   ·cases e
   ·split at e
    ·cases e
    ·rename_i hy
     simp only[hy]
     split at e
     ·cases e
     ·split at e
      ·cases e
      ·rename_i h1
       obtain⟨N,hN⟩:=Cx.call_iff.1 h1
       exact⟨N,by rw[hN];exact e⟩
  |skip=>exact⟨0,e⟩
  |exit id=>exact⟨0,e⟩
  |ret=>exact⟨0,e⟩
  |stop=>cases e
  |scope x=>exact ih _ _ _ _ e
  |cond x y z=>
   have e:Zfs x y z C.call (Zbg C.call F) ro fr st=some o:=e
   show ∃N,Zfs x y z (C.at N) (Zbg (C.at N) F) ro fr st=some o
   unfold Zfs at e ⊢
   split at e
   ·exact ih _ _ _ _ e
   ·exact ih _ _ _ _ e
   ·cases e
  |seq x y=>exact Zeo (a:=C.call) (q:=fun n=>Zbg (C.at n) F) (fun _ _ h=>up h) (fun _ _ _ _ _ e=>ih _ _ _ _ e) ro (.seq x y) fr st e
  |block id x=>exact Zeo (a:=C.call) (q:=fun n=>Zbg (C.at n) F) (fun _ _ h=>up h) (fun _ _ _ _ _ e=>ih _ _ _ _ e) ro (.block id x) fr st e
  |loop x=>exact Zeo (a:=C.call) (q:=fun n=>Zbg (C.at n) F) (fun _ _ h=>up h) (fun _ _ _ _ _ e=>ih _ _ _ _ e) ro (.loop x) fr st e
theorem Cx.code_need{C:Cx}{ro c fr st r}(h:C.code ro c fr st=some r):∃N,Zbg (C.at N) N ro c fr st=some r:=by
 obtain⟨F,hF⟩:=Cx.code_iff.1 h
 obtain⟨N,hN⟩:=Zoj F _ _ _ _ hF
 exact⟨max F N,Zb4 (Cx.at_mono (Nat.le_max_right F N)) _ _ (Nat.le_max_left F N) _ _ _ _ _ hN⟩
theorem Zj9{tbl:Nat→Option Zee}{p:Zfu}{q:Nat→Zfu}(hq:∀n m,n≤m→LeC (q n) (q m))(hp:∀ro c fr st r,p ro c fr st=some r→∃n,q n ro c fr st=some r){g args st}{o:V×St}(e:Zcl tbl p g args st=some o):∃n,Zcl tbl (q n) g args st=some o:=by
 unfold Zcl at e ⊢
 split at e
 ·split at e
  ·rename_i mf _
   unfold Zge at e ⊢
   split at e
   ·cases e
   ·rename_i h0
    simp only[h0,if_false]
    cases h1:p none mf.body {r:=Zef .nil 0 _,n:=mf.ntmps,marks:=[]} {st with w:=[]} with
    |none=>rw[h1]at e;cases e
    |some r=>
     rw[h1]at e
     obtain⟨n,hn⟩:=hp _ _ _ _ _ h1
     exact⟨n,by rw[hn];exact e⟩
  ·cases e
 ·unfold Zf4 at e ⊢
  split at e
  ·split at e
   ·cases e
   ·split at e
    ·rename_i h1
     obtain⟨n,hn⟩:=hp _ _ _ _ _ h1
     split at e
     ·split at e
      ·split at e
       ·rename_i h4 h5 _ _ _ _ h2
        obtain⟨m,hm⟩:=hp _ _ _ _ _ h2
        refine⟨max n m,?_⟩
        rw[hq n _ (Nat.le_max_left n m) _ _ _ _ _ hn]
        simp only[h4,h5,if_true]
        rw[hq m _ (Nat.le_max_right n m) _ _ _ _ _ hm]
        exact e
       ·cases e
      ·cases e
     ·cases e
    ·cases e
  ·cases e
 ·cases e
theorem Cx.call_eq{C:Cx}(g:V)(args:List V)(st:St):C.call g args st=Zd9 C.x (Zcl C.tbl C.code) g args st:=by
 apply Zz1
 intro r
 constructor
 ·intro h
  obtain⟨N,hN⟩:=Cx.call_iff.1 h
  cases N with
  |zero=>
   have e:C.x g args st=some r:=hN
   unfold Zd9;rw[e]
  |succ N=>
   refine Zmm (x:=C.x) (Zgk (p:=Zbg (Zgo C.x C.tbl (N+1) N) (N+1)) fun ro c fr st r e=>?_) _ _ _ _ hN
   refine Cx.code_iff.2 ⟨N+1,?_⟩
   refine Zb4 (fun g args st r e=>?_) (N+1) (N+1) (Nat.le_refl _) _ _ _ _ _ e
   exact Cx.call_iff.2 ⟨N+1,Zgc (Nat.le_refl _) N (N+1) (by omega) _ _ _ _ e⟩
 ·intro h
  unfold Zd9 at h
  split at h
  ·rename_i r' e
   simp only[Option.some.injEq]at h
   subst h
   exact Cx.call_iff.2 ⟨0,e⟩
  ·rename_i hx
   obtain⟨N,hN⟩:=Zj9 (q:=fun n=>Zbg (C.at n) n) (fun n m h=>Zb4 (Cx.at_mono h) n m h) (fun _ _ _ _ _ e=>Cx.code_need e) h
   refine Cx.call_iff.2 ⟨N+1,?_⟩
   show Zd9 C.x (Zcl C.tbl (Zbg (Zgo C.x C.tbl (N+1) N) (N+1))) g args st=some r
   unfold Zd9
   rw[hx]
   exact Zgk (Zb4 (Zgc (by omega) N N (Nat.le_refl _)) N (N+1) (by omega)) _ _ _ _ hN
end Go.Mx
namespace Go.Mx
open Go
inductive Rs where
 |ex (e:Ex) (fr:Fr) (st:St)
 |val (v:V) (st:St)
 |ops (fr:Fr) (st:St)
 |opsD (fps:List FP) (fr:Fr) (st:St)
inductive Kf where
 |seq (ro:Option Nat) (b:Zae)
 |block (id:Nat)
 |loop (ro:Option Nat) (c:Zae)
 |reg
 |put (d:Option Nat) (ops:List Zbe) (fr:Fr)
 |regD (ms:List Nat)
 |putD (op:MOp) (d:Option Nat) (ops:List Zbe) (fr:Fr) (n:Nat) (w:List Nat)
 |cons (fp:FP)
 |fin (rs:List Yle) (st:St)
def exR:Option (Ex×Fr×St)→Option Rs
 |some (e,fr,st)=>some (.ex e fr st)
 |none=>none
def Zp4:Option (V×St)→Option Rs
 |some (v,st)=>some (.val v st)
 |none=>none
def Yc2:Option (Fr×St)→Option Rs
 |some (fr,st)=>some (.ops fr st)
 |none=>none
def Zmn:Option (List FP×Fr×St)→Option Rs
 |some (fps,fr,st)=>some (.opsD fps fr st)
 |none=>none
noncomputable def Zgu(C:Cx):Kf→Rs→Option Rs
 |.seq ro b,.ex .normal fr st=>exR (C.code ro b fr st)
 |.seq _ _,.ex e fr st=>some (.ex e fr st)
 |.block id,.ex (.exit id') fr st=>match Nat.beq id' id with
  |true=>some (.ex .normal fr st)
  |false=>some (.ex (.exit id') fr st)
 |.block _,.ex e fr st=>some (.ex e fr st)
 |.loop ro c,.ex .normal fr st=>exR (C.code ro (.loop c) fr st)
 |.loop _ _,.ex e fr st=>some (.ex e fr st)
 |.reg,.ops fr st=>some (.ex .normal fr st)
 |.put d ops fr,.val v st=>match fr.put d v with
  |some fr=>Yc2 (mops C.call ops fr st)
  |none=>none
 |.regD ms,.opsD fps fr st=>match apartOk fps ms with
  |true=>some (.ex .normal fr st)
  |false=>none
 |.putD op d ops fr n w,.val v st'=>match fr.put d v with
  |some fr'=>match mopsD C.call ops fr' {st' with w:=Zaa n st'.w++w} with
   |some (fps,fr'',st'')=>some (.opsD (Zcn fr.r op (Zaa n st'.w) n st'.n::fps) fr'' st'')
   |none=>none
  |none=>none
 |.cons fp,.opsD fps fr st=>some (.opsD (fp::fps) fr st)
 |.fin _ _,.ex (.exit _) _ _=>none
 |.fin rs st0,.ex _ fr st1=>match shut st1 fr.marks with
  |none=>none
  |some st2=>match resV fr.r st2 rs with
   |some vs=>some (.val (Zql vs) {st2 with w:=Zaa st0.n st2.w++st0.w})
   |none=>none
 |_,_=>none
noncomputable def Zej(C:Cx)(k:Kf):Option Rs→Option Rs
 |some r=>Zgu C k r
 |none=>none
noncomputable def unw(C:Cx):List Kf→Option Rs→Option Rs
 |[],r=>r
 |k::K,r=>unw C K (Zej C k r)
theorem Zuk{C:Cx}:∀K,unw C K none=none
 |[]=>rfl
 |_::K=>Zuk K
structure Run (C:Cx) (K:List Kf) (r:Option Rs) (Q:Rs→Prop):Prop where
 ex:∃s,unw C K r=some s∧Q s
theorem Zaw{C:Cx}{K K':List Kf}{r r':Option Rs}{Q:Rs→Prop}(h:unw C K r=unw C K' r'):Run C K r Q↔Run C K' r' Q:=
 ⟨fun ⟨s,e,q⟩=>⟨s,h▸e,q⟩,fun ⟨s,e,q⟩=>⟨s,h.symm▸e,q⟩⟩
theorem Zhn{C:Cx}{K:List Kf}{Q:Rs→Prop}:Run C K none Q↔False:=
 ⟨fun ⟨_,h,_⟩=>(by rw[Zuk]at h;cases h),fun h=>h.elim⟩
theorem Yif{C:Cx}{s:Rs}{Q:Rs→Prop}:Run C [] (some s) Q↔Q s:=
 ⟨fun ⟨_,h,q⟩=>by simp only[unw,Option.some.injEq]at h;exact h▸q,fun q=>⟨s,rfl,q⟩⟩
structure Call (C:Cx) (g:V) (args:List V) (st:St) (P:V→St→Prop):Prop where
 ex:∃v st',C.call g args st=some (v,st')∧P v st'
structure Code (C:Cx) (ro:Option Nat) (c:Zae) (fr:Fr) (st:St) (P:Ex→Fr→St→Prop):Prop where
 ex:∃e fr' st',C.code ro c fr st=some (e,fr',st')∧P e fr' st'
def Ydc(P:V→St→Prop):Rs→Prop
 |.val v st=>P v st
 |_=>False
def exQ(P:Ex→Fr→St→Prop):Rs→Prop
 |.ex e fr st=>P e fr st
 |_=>False
theorem Ydb{P:V→St→Prop}{v st}:Ydc P (.val v st)↔P v st:=Iff.rfl
theorem Yms{P:Ex→Fr→St→Prop}{e fr st}:exQ P (.ex e fr st)↔P e fr st:=Iff.rfl
theorem Zab{C:Cx}{g args st P}:Call C g args st P↔Run C [] (Zp4 (C.call g args st)) (Ydc P):=by
 constructor
 ·rintro⟨v,st',h,p⟩
  exact⟨.val v st',by rw[h];rfl,p⟩
 ·rintro⟨s,h,q⟩
  cases hc:C.call g args st with
  |none=>rw[hc]at h;cases h
  |some r=>
   rw[hc]at h
   simp only[unw,Zp4,Option.some.injEq]at h
   subst h
   exact⟨_,_,hc,q⟩
theorem Zah{C:Cx}{ro c fr st P}:Code C ro c fr st P↔Run C [] (exR (C.code ro c fr st)) (exQ P):=by
 constructor
 ·rintro⟨e,fr',st',h,p⟩
  exact⟨.ex e fr' st',by rw[h];rfl,p⟩
 ·rintro⟨s,h,q⟩
  cases hc:C.code ro c fr st with
  |none=>rw[hc]at h;cases h
  |some r=>
   rw[hc]at h
   simp only[unw,exR,Option.some.injEq]at h
   subst h
   exact⟨_,_,_,hc,q⟩
theorem Zd2{C:Cx}{g args st P K Q}(h:Call C g args st P)(k:∀v st',P v st'→Run C K (some (.val v st')) Q):Run C K (Zp4 (C.call g args st)) Q:=by
 obtain⟨v,st',e,p⟩:=h.ex
 rw[e]
 exact k v st' p
theorem Za4{C:Cx}{ro c fr st P K Q}(h:Code C ro c fr st P)(k:∀e fr' st',P e fr' st'→Run C K (some (.ex e fr' st')) Q):Run C K (exR (C.code ro c fr st)) Q:=by
 obtain⟨e,fr',st',h,p⟩:=h.ex
 rw[h]
 exact k e fr' st' p
theorem Call.mono{C:Cx}{g args st}{P Q:V→St→Prop}(h:Call C g args st P)(k:∀v st',P v st'→Q v st'):Call C g args st Q:=by
 obtain⟨v,st',e,p⟩:=h.ex
 exact⟨v,st',e,k v st' p⟩
def Ymf(I:Nat→Fr→St→Prop)(k:Nat)(P:Ex→Fr→St→Prop):Ex→Fr→St→Prop
 |.normal,fr,st=>∃k',k'<k∧I k' fr st
 |e,fr,st=>P e fr st
theorem Code.loop{C:Cx}{ro c}{P:Ex→Fr→St→Prop}{I:Nat→Fr→St→Prop}(h:∀k fr st,I k fr st→Code C ro c fr st (Ymf I k P)):∀(k:Nat) (fr:Fr) (st:St),I k fr st→Code C ro (.loop c) fr st P:=by
 intro k
 induction k using Nat.strongRecOn with
 |_ k ih=>
  intro fr st hi
  obtain⟨e,fr',st',h1,p⟩:=(h k fr st hi).ex
  have e1:C.code ro (.loop c) fr st=Zh7 c C.call C.code ro fr st:=Cx.code_eq ro (.loop c) fr st
  unfold Zh7 at e1
  rw[h1]at e1
  cases e with
  |normal=>
   obtain⟨k',hk,hi'⟩:=p
   obtain⟨e2,fr2,st2,h2,p2⟩:=(ih k' hk fr' st' hi').ex
   exact⟨e2,fr2,st2,e1.trans h2,p2⟩
  |exit id=>exact⟨_,_,_,e1,p⟩
  |ret=>exact⟨_,_,_,e1,p⟩
theorem Ydy{C:Cx}{ro c}{K:List Kf}{Q:Rs→Prop}{fr:Fr}{st:St}(P:Ex→Fr→St→Prop)(I:Nat→Fr→St→Prop)(k:Nat)(hi:I k fr st)(h:∀k fr st,I k fr st→Code C ro c fr st (Ymf I k P))(q:∀e fr' st',P e fr' st'→Run C K (some (.ex e fr' st')) Q):Run C K (exR (C.code ro (.loop c) fr st)) Q:=
 Za4 (Code.loop h k fr st hi) q
section
variable {C:Cx} {K:List Kf} {Q:Rs→Prop} {ro:Option Nat} {a b c:Zae} {fr:Fr} {st:St}
theorem Ydv:Run C K (exR (C.code ro .skip fr st)) Q↔Run C K (some (.ex .normal fr st)) Q:=Zaw (by rw[Cx.code_eq];rfl)
theorem Yie{ops}:Run C K (exR (C.code ro (.reg ops) fr st)) Q↔Run C (.reg::K) (Yc2 (mops C.call ops fr st)) Q:=Zaw (by
 rw[Cx.code_eq]
 show unw C K (exR (Znf ops C.call C.code ro fr st))=unw C K (Zej C .reg (Yc2 (mops C.call ops fr st)))
 unfold Znf
 rcases mops C.call ops fr st with _|⟨_,_⟩<;>rfl)
theorem Ydx{ops ms}:Run C K (exR (C.code ro (.regD ops ms) fr st)) Q↔Run C (.regD ms::K) (Zmn (mopsD C.call ops fr st)) Q:=Zaw (by
 rw[Cx.code_eq]
 show unw C K (exR (Zhe ops ms C.call C.code ro fr st))=unw C K (Zej C (.regD ms) (Zmn (mopsD C.call ops fr st)))
 unfold Zhe
 rcases mopsD C.call ops fr st with _|⟨fps,_,_⟩
 ·rfl
 ·simp only[Zmn,Zej,Zgu]
  cases apartOk fps ms<;>rfl)
theorem Yic:Run C K (exR (C.code ro (.seq a b) fr st)) Q↔Run C (.seq ro b::K) (exR (C.code ro a fr st)) Q:=Zaw (by
 rw[Cx.code_eq]
 show unw C K (exR (Znx a b C.call C.code ro fr st))=unw C K (Zej C (.seq ro b) (exR (C.code ro a fr st)))
 unfold Znx
 rcases C.code ro a fr st with _|⟨e,_,_⟩
 ·rfl
 ·cases e<;>rfl)
noncomputable def Yf2(C:Cx)(ro:Option Nat)(a b:Zae)(fr:Fr)(st:St):Option V→Option Rs
 |some (.bool true)=>exR (C.code ro a fr st)
 |some (.bool false)=>exR (C.code ro b fr st)
 |_=>none
theorem Yd1{x}:Run C K (exR (C.code ro (.cond x a b) fr st)) Q↔Run C K (Yf2 C ro a b fr st (x.ev fr.r)) Q:=Zaw (by
 rw[Cx.code_eq]
 show unw C K (exR (Zfs x a b C.call C.code ro fr st))=_
 unfold Zfs Yf2
 rcases x.ev fr.r with _|v
 ·rfl
 ·cases v<;>try rfl
  rename_i b'
  cases b'<;>rfl)
theorem Zyh:Yf2 C ro a b fr st (some (.bool true))=exR (C.code ro a fr st):=rfl
theorem Zt3:Yf2 C ro a b fr st (some (.bool false))=exR (C.code ro b fr st):=rfl
theorem Zzm{id}:Run C K (exR (C.code ro (.block id a) fr st)) Q↔Run C (.block id::K) (exR (C.code ro a fr st)) Q:=Zaw (by
 rw[Cx.code_eq]
 show unw C K (exR (Zfg id a C.call C.code ro fr st))=unw C K (Zej C (.block id) (exR (C.code ro a fr st)))
 unfold Zfg
 rcases C.code ro a fr st with _|⟨e,_,_⟩
 ·rfl
 ·cases e with
  |exit id'=>simp only[exR,Zej,Zgu];cases Nat.beq id' id<;>rfl
  |_=>rfl)
theorem Yd0{id}:Run C K (exR (C.code ro (.exit id) fr st)) Q↔Run C K (some (.ex (.exit id) fr st)) Q:=Zaw (by rw[Cx.code_eq];rfl)
theorem Zzl:Run C K (exR (C.code ro (.scope a) fr st)) Q↔Run C K (exR (C.code ro a fr st)) Q:=Zaw (by rw[Cx.code_eq];rfl)
theorem Yid:Run C K (exR (C.code ro .ret fr st)) Q↔Run C K (some (.ex .ret fr st)) Q:=Zaw (by rw[Cx.code_eq];rfl)
theorem Zrf:Run C (.seq ro b::K) (some (.ex .normal fr st)) Q↔Run C K (exR (C.code ro b fr st)) Q:=Zaw rfl
theorem Zxn{i}:Run C (.seq ro b::K) (some (.ex (.exit i) fr st)) Q↔Run C K (some (.ex (.exit i) fr st)) Q:=Zaw rfl
theorem Ybb:Run C (.seq ro b::K) (some (.ex .ret fr st)) Q↔Run C K (some (.ex .ret fr st)) Q:=Zaw rfl
theorem Znv{i}:Run C (.block i::K) (some (.ex .normal fr st)) Q↔Run C K (some (.ex .normal fr st)) Q:=Zaw rfl
theorem Ztu{i}:Run C (.block i::K) (some (.ex .ret fr st)) Q↔Run C K (some (.ex .ret fr st)) Q:=Zaw rfl
theorem Zrg{i}:Run C (.block i::K) (some (.ex (.exit i) fr st)) Q↔Run C K (some (.ex .normal fr st)) Q:=Zaw (by simp[unw,Zej,Zgu,Nat.beq_refl])
theorem Zpn{i j}(h:Nat.beq j i=false):Run C (.block i::K) (some (.ex (.exit j) fr st)) Q↔Run C K (some (.ex (.exit j) fr st)) Q:=Zaw (by simp[unw,Zej,Zgu,h])
theorem Yop:Run C (.reg::K) (some (.ops fr st)) Q↔Run C K (some (.ex .normal fr st)) Q:=Zaw rfl
theorem Yir:Yc2 (mops C.call [] fr st)=some (.ops fr st):=rfl
def opR(C:Cx)(K:List Kf)(Q:Rs→Prop)(d:Option Nat)(op:MOp)(ops:List Zbe)(fr:Fr)(st:St):Option Bool→Prop
 |some true=>Run C (.put d ops fr::K) (Zp4 (mop op C.call fr.r st)) Q
 |some false=>Run C (.put d ops fr::K) (some (.val (.tup []) st)) Q
 |none=>False
theorem Yef{d op g ops}:Run C K (Yc2 (mops C.call (⟨d,op,g⟩::ops) fr st)) Q↔opR C K Q d op ops fr st (wantedV fr.r g):=by
 have e:mops C.call (⟨d,op,g⟩::ops) fr st=Zh5 C.call ⟨d,op,g⟩ (mops C.call ops) fr st:=rfl
 rw[e]
 unfold Zh5
 simp only[]
 rcases wantedV fr.r g with _|b
 ·exact Zhn
 ·cases b
  ·show _↔Run C (.put d ops fr::K) (some (.val (.tup []) st)) Q
   refine Zaw ?_
   show _=unw C K (Zgu C (.put d ops fr) (.val (.tup []) st))
   simp only[Zgu]
   rcases fr.put d (.tup [])with _|_<;>rfl
  ·show _↔Run C (.put d ops fr::K) (Zp4 (mop op C.call fr.r st)) Q
   refine Zaw ?_
   show _=unw C K (Zej C (.put d ops fr) (Zp4 (mop op C.call fr.r st)))
   rcases mop op C.call fr.r st with _|⟨v,st'⟩
   ·rfl
   ·simp only[Zp4,Zej,Zgu]
    rcases fr.put d v with _|_<;>rfl
theorem Yek{d op ops}:opR C K Q d op ops fr st (some true)↔Run C (.put d ops fr::K) (Zp4 (mop op C.call fr.r st)) Q:=Iff.rfl
theorem Zz5{d op ops}:opR C K Q d op ops fr st (some false)↔Run C (.put d ops fr::K) (some (.val (.tup []) st)) Q:=Iff.rfl
theorem Zyz{v:V}:Zp4 (some (v,st))=some (.val v st):=rfl
theorem Yoq{d n m r ops v}(h:d<n):Run C (.put (some d) ops ⟨r,n,m⟩::K) (some (.val v st)) Q↔Run C K (Yc2 (mops C.call ops ⟨r.set d v,n,m⟩ st)) Q:=Zaw (by simp[unw,Zej,Zgu,Fr.put,h])
theorem Zxo{ops v}:Run C (.put none ops fr::K) (some (.val v st)) Q↔Run C K (Yc2 (mops C.call ops fr st)) Q:=Zaw rfl
theorem Yeg:Zmn (mopsD C.call [] fr st)=some (.opsD [] fr st):=rfl
def Yl4(C:Cx)(K:List Kf)(Q:Rs→Prop)(d:Option Nat)(op:MOp)(ops:List Zbe)(fr:Fr)(h:T O)(n:Nat)(w:List Nat):Option Bool→Prop
 |some true=>Run C (.putD op d ops fr n w::K) (Zp4 (mop op C.call fr.r ⟨h,n,[]⟩)) Q
 |some false=>Run C (.cons ⟨some [],[],n,n⟩::K) (match fr.put d (.tup [])with|some fr'=>Zmn (mopsD C.call ops fr' ⟨h,n,w⟩)|none=>none) Q
 |none=>False
theorem Zz3{d op g ops h n w}:Run C K (Zmn (mopsD C.call (⟨d,op,g⟩::ops) fr ⟨h,n,w⟩)) Q↔Yl4 C K Q d op ops fr h n w (wantedV fr.r g):=by
 have e:mopsD C.call (⟨d,op,g⟩::ops) fr ⟨h,n,w⟩=Zfe C.call ⟨d,op,g⟩ (mopsD C.call ops) fr ⟨h,n,w⟩:=rfl
 rw[e]
 unfold Zfe
 simp only[]
 rcases wantedV fr.r g with _|b
 ·exact Zhn
 ·cases b
  ·show _↔Run C (.cons ⟨some [],[],n,n⟩::K) (match fr.put d (.tup [])with|some fr'=>Zmn (mopsD C.call ops fr' ⟨h,n,w⟩)|none=>none) Q
   refine Zaw ?_
   show _=unw C K (Zej C (.cons ⟨some [],[],n,n⟩) _)
   rcases fr.put d (.tup [])with _|fr'
   ·rfl
   ·simp only[]
    rcases mopsD C.call ops fr' ⟨h,n,w⟩with _|⟨_,_,_⟩<;>rfl
  ·show _↔Run C (.putD op d ops fr n w::K) (Zp4 (mop op C.call fr.r ⟨h,n,[]⟩)) Q
   refine Zaw ?_
   show _=unw C K (Zej C (.putD op d ops fr n w) (Zp4 (mop op C.call fr.r ⟨h,n,[]⟩)))
   rcases mop op C.call fr.r ⟨h,n,[]⟩with _|⟨v,st'⟩
   ·rfl
   ·simp only[Zp4,Zej,Zgu]
    rcases fr.put d v with _|fr'
    ·rfl
    ·simp only[]
     rcases mopsD C.call ops fr' {st' with w:=Zaa n st'.w++w} with _|⟨_,_,_⟩<;>rfl
theorem Zz6{d op ops h n w}:Yl4 C K Q d op ops fr h n w (some true)↔Run C (.putD op d ops fr n w::K) (Zp4 (mop op C.call fr.r ⟨h,n,[]⟩)) Q:=Iff.rfl
theorem Zwu{d n m r ops op h N w}(hd:d<n):Yl4 C K Q (some d) op ops ⟨r,n,m⟩ h N w (some false)↔Run C (.cons ⟨some [],[],N,N⟩::K) (Zmn (mopsD C.call ops ⟨r.set d (.tup []),n,m⟩ ⟨h,N,w⟩)) Q:=by simp[Yl4,Fr.put,hd]
theorem Zs9{ops op h N w}:Yl4 C K Q none op ops fr h N w (some false)↔Run C (.cons ⟨some [],[],N,N⟩::K) (Zmn (mopsD C.call ops fr ⟨h,N,w⟩)) Q:=Iff.rfl
theorem Ymi{op d n m r ops v N w h' n' w'}(h:d<n):Run C (.putD op (some d) ops ⟨r,n,m⟩ N w::K) (some (.val v ⟨h',n',w'⟩)) Q↔Run C (.cons (Zcn r op (Zaa N w') N n')::K) (Zmn (mopsD C.call ops ⟨r.set d v,n,m⟩ ⟨h',n',Zaa N w'++w⟩)) Q:=Zaw (by
 simp only[unw,Zej,Zgu,Fr.put,h,if_true]
 rcases mopsD C.call ops _ _ with _|⟨_,_,_⟩<;>rfl)
theorem Ztt{op ops v N w h' n' w'}:Run C (.putD op none ops fr N w::K) (some (.val v ⟨h',n',w'⟩)) Q↔Run C (.cons (Zcn fr.r op (Zaa N w') N n')::K) (Zmn (mopsD C.call ops fr ⟨h',n',Zaa N w'++w⟩)) Q:=Zaw (by
 simp only[unw,Zej,Zgu,Fr.put]
 rcases mopsD C.call ops _ _ with _|⟨_,_,_⟩<;>rfl)
theorem Ymj{fp fps}:Run C (.cons fp::K) (some (.opsD fps fr st)) Q↔Run C K (some (.opsD (fp::fps) fr st)) Q:=Zaw rfl
theorem Zdk{ms fps}(h:apartOk fps ms=true):Run C (.regD ms::K) (some (.opsD fps fr st)) Q↔Run C K (some (.ex .normal fr st)) Q:=Zaw (by simp only[unw,Zej,Zgu,h])
theorem Ydz{g first caps args mf}(hx:C.x (.func g first caps) args st=none)(h:C.tbl g=some mf)(hl:(first++args++caps).length≤mf.ntmps):Run C K (Zp4 (C.call (.func g first caps) args st)) Q↔Run C (.fin mf.results st::K) (exR (C.code none mf.body ⟨Zef .nil 0 (first++args++caps),mf.ntmps,[]⟩ ⟨st.h,st.n,[]⟩)) Q:=Zaw (by
 rw[Cx.call_eq]
 unfold Zd9
 rw[hx]
 simp only[Zcl,h,Zge,Nat.not_lt.2 hl,if_false]
 show _=unw C K (Zej C (.fin mf.results st) _)
 unfold Ztx
 rcases C.code none mf.body _ _ with _|⟨e,fr1,st1⟩
 ·rfl
 ·cases e with
  |exit=>rfl
  |normal=>
   simp only[exR,Zej,Zgu]
   rcases shut st1 fr1.marks with _|st2
   ·rfl
   ·simp only[]
    rcases resV fr1.r st2 mf.results with _|_<;>rfl
  |ret=>
   simp only[exR,Zej,Zgu]
   rcases shut st1 fr1.marks with _|st2
   ·rfl
   ·simp only[]
    rcases resV fr1.r st2 mf.results with _|_<;>rfl)
def Yos(h:T O)(n:Nat)(w:List Nat):Option (List V)→Option Rs
 |some vs=>some (.val (Zql vs) ⟨h,n,w⟩)
 |none=>none
theorem Ybt{h n w vs}:Yos h n w (some vs)=some (.val (Zql vs) ⟨h,n,w⟩):=rfl
theorem Ybc{rs r n h1 n1 w1}:Run C (.fin rs st::K) (some (.ex .ret ⟨r,n,[]⟩ ⟨h1,n1,w1⟩)) Q↔Run C K (Yos h1 n1 (Zaa st.n w1++st.w) (resV r ⟨h1,n1,w1⟩ rs)) Q:=Zaw (by
 simp only[unw,Zej,Zgu,shut]
 rcases resV r ⟨h1,n1,w1⟩ rs with _|_<;>rfl)
theorem Ybd{rs r n h1 n1 w1}:Run C (.fin rs st::K) (some (.ex .normal ⟨r,n,[]⟩ ⟨h1,n1,w1⟩)) Q↔Run C K (Yos h1 n1 (Zaa st.n w1++st.w) (resV r ⟨h1,n1,w1⟩ rs)) Q:=Zaw (by
 simp only[unw,Zej,Zgu,shut]
 rcases resV r ⟨h1,n1,w1⟩ rs with _|_<;>rfl)
end
theorem Ztm(a):mop (.convStr a)=Zex a:=rfl
theorem Zq2(a b):mop (.strBytes a b)=Zcg a b:=rfl
theorem Zq7(a):mop (.bytesStr a)=Zc1 a:=rfl
theorem Ztj(a b):mop (.mkiface a b)=Zew a b:=rfl
theorem Yal:mop .mkmap=Zhq:=rfl
theorem Zw3(a b):mop (.mkchan a b)=Zeb a b:=rfl
theorem Zti(a b c d e f):mop (.mkslice a b c d e f)=Zck a b c d e f:=rfl
theorem Zq3(a b c):mop (.sliceStr a b c)=Zbo a b c:=rfl
theorem Ztg(a b c d e):mop (.sliceSl a b c d e)=Za7 a b c d e:=rfl
theorem Zq4(a b c d e f):mop (.sliceArr a b c d e f)=Zbw a b c d e f:=rfl
theorem Zw8(a b c d e):mop (.idxArr a b c d e)=Zfj a b c d e:=rfl
theorem Zw7(a b):mop (.idxStr a b)=Zed a b:=rfl
theorem Zw5(a b c d e):mop (.lookup a b c d e)=Ze1 a b c d e:=rfl
theorem Zw4(a b c d):mop (.mapset a b c d)=Zec a b c d:=rfl
theorem Zq5(a):mop (.rangeStr a)=Zc0 a:=rfl
theorem Zth(a):mop (.nextStr a)=Zdu a:=rfl
theorem Zw6(a):mop (.lenArr a)=Zgy a:=rfl
theorem Yjd(a):mop (.cap a)=Zod a:=rfl
theorem Yme(a):mop (.mn a)=Zle a:=rfl
theorem Ymd(a):mop (.mx a)=Zf7 a:=rfl
theorem Zxa(a b c d e f):mop (.append a b c d e f)=Zdi a b c d e f:=rfl
theorem Yeu(a b c):mop (.copy a b c)=Zgz a b c:=rfl
theorem Yap(a b c):mop (.clear a b c)=Zhr a b c:=rfl
theorem Yi9(a b):mop (.uns a b)=Zk3 a b:=rfl
theorem Yaj(a):mop (.sdata a)=Zhp a:=rfl
theorem Yer(a b c):mop (.ustr a b c)=Zkq a b c:=rfl
theorem Yjc(a b):mop (.ext a b)=Zmp a b:=rfl
theorem Yj7{ng k x y}:eqV ng (.prim k) x y=Za2 ng k x y:=by cases x<;>cases y<;>rfl
attribute [simp] Yif Ydb Yms Ydv Yie Ydx Yic Yd1 Zyh Zt3 Zzm Yd0 Zzl Yid Zrf Zxn Ybb Znv Ztu Zrg Yop Yir Yef Yek Zz5 Zyz Yoq Zxo
 Yeg Zz3 Zz6 Zwu Zs9 Ymi Ztt Ymj Zdk Ybt Ybc Ybd
 Ztm Zq2 Zq7 Ztj Yal Zw3 Zti Zq3 Ztg Zq4 Zw8 Zw7 Zw5 Zw4 Zq5 Zth Zw6 Yjd Yme Ymd Zxa Yeu Yap Yi9 Yaj Yer Yjc Yj7
structure Keeps (h:T O) (n:Nat) (h':T O) (n':Nat):Prop where
 le:n≤n'
 get:∀i,i<n→h'.get i=h.get i
theorem Keeps.refl{h:T O}{n:Nat}:Keeps h n h n:=⟨Nat.le_refl _,fun _ _=>rfl⟩
theorem Keeps.trans{h h1 h2:T O}{n n1 n2:Nat}(a:Keeps h n h1 n1)(b:Keeps h1 n1 h2 n2):Keeps h n h2 n2:=
 ⟨Nat.le_trans a.le b.le,fun i hi=>(b.get i (Nat.lt_of_lt_of_le hi a.le)).trans (a.get i hi)⟩
theorem Keeps.set{h h1:T O}{n n1:Nat}{i:Nat}{o:O}(hi:n≤i)(a:Keeps h n h1 n1):Keeps h n (h1.set i o) n1:=
 ⟨a.le,fun j hj=>by rw[T.get_set,if_neg (by omega)];exact a.get j hj⟩
theorem Keeps.up{h h1:T O}{n n1 n2:Nat}(a:Keeps h n h1 n1)(hn:n1≤n2):Keeps h n h1 n2:=⟨Nat.le_trans a.le hn,a.get⟩
def Ret(P:V→T O→Nat→Prop)(h:T O)(n:Nat)(w:List Nat)(v:V)(st:St):Prop:=st.w=w∧Keeps h n st.h st.n∧P v st.h st.n
abbrev Fn(C:Cx)(f:Nat)(args:List V)(h:T O)(n:Nat)(P:V→T O→Nat→Prop):Prop:=∀w,Call C (.func f [] []) args ⟨h,n,w⟩ (Ret P h n w)
theorem Zac{C:Cx}{f args h n w P K Q}(hf:Fn C f args h n P)(k:∀v h' n',Keeps h n h' n'→P v h' n'→Run C K (some (.val v ⟨h',n',w⟩)) Q):Run C K (Zp4 (C.call (.func f [] []) args ⟨h,n,w⟩)) Q:=
 Zd2 (hf w) fun v st'=>by
  obtain⟨h',n',w'⟩:=st'
  rintro⟨rfl,hk,hp⟩
  exact k v h' n' hk hp
theorem Zoe{N:Nat}:∀{w:List Nat},(∀i∈w,N≤i)→Zaa N w=[]
 |[],_=>rfl
 |i::w,h=>by
  have:=h i List.mem_cons_self
  simp only[Zaa,Nat.not_lt.2 this,if_false]
  exact Zoe fun j hj=>h j (List.mem_cons_of_mem _ hj)
end Go.Mx
