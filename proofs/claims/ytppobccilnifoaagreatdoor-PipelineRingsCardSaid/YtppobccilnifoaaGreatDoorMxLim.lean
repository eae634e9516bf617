/-
  Runs without a count of steps: what a call and a piece of code come to, if they come to an end.
-/
import Derived.Test.YtppobccilnifoaaGreatDoorMxTab
set_option linter.all false
namespace Go.Mx
open Go
def Le(a b:CallT):Prop:=∀g args st r,a g args st=some r→b g args st=some r
theorem mop_mono{a b:CallT}(h:Le a b)(op:MOp)(r:T V)(st:St){o:V×St}(e:mop op a r st=some o):mop op b r st=some o:=by
 cases op<;>try exact e
 rename_i f args
 show op_call f args b r st=some o
 have e:op_call f args a r st=some o:=e
 unfold op_call at e ⊢
 split at e
 ·exact h _ _ _ _ e
 ·cases e
theorem mops_mono{a b:CallT}(h:Le a b):∀(ops:List MOper) (fr:Fr) (st:St) {o:Fr×St},mops a ops fr st=some o→mops b ops fr st=some o
 |[],_,_,_,e=>e
 |q::ops,fr,st,o,e=>by
  have e:opStep a q (mops a ops) fr st=some o:=e
  show opStep b q (mops b ops) fr st=some o
  unfold opStep at e ⊢
  split at e
  ·split at e
   ·rename_i v st' h1
    rw[mop_mono h _ _ _ h1]
    simp only[]
    split at e
    ·exact mops_mono h ops _ _ e
    ·cases e
   ·cases e
  ·split at e
   ·exact mops_mono h ops _ _ e
   ·cases e
  ·cases e
theorem mopsD_mono{a b:CallT}(h:Le a b):∀(ops:List MOper) (fr:Fr) (st:St) {o:List FP×Fr×St},mopsD a ops fr st=some o→mopsD b ops fr st=some o
 |[],_,_,_,e=>e
 |q::ops,fr,st,o,e=>by
  have e:opStepD a q (mopsD a ops) fr st=some o:=e
  show opStepD b q (mopsD b ops) fr st=some o
  unfold opStepD at e ⊢
  split at e
  ·split at e
   ·rename_i v st' h1
    rw[mop_mono h _ _ _ h1]
    simp only[]
    split at e
    ·split at e
     ·rename_i h2
      rw[mopsD_mono h ops _ _ h2]
      exact e
     ·cases e
    ·cases e
   ·cases e
  ·split at e
   ·split at e
    ·rename_i h2
     rw[mopsD_mono h ops _ _ h2]
     exact e
    ·cases e
   ·cases e
  ·cases e
def LeC(a b:CodeF):Prop:=∀ro c fr st r,a ro c fr st=some r→b ro c fr st=some r
theorem codeStep_mono{a b:CallT}{p q:CodeF}(h:Le a b)(hc:LeC p q)(ro:Option Nat)(c:MCode)(fr:Fr)(st:St){o:Ex×Fr×St}(e:codeStep c a p ro fr st=some o):codeStep c b q ro fr st=some o:=by
 cases c with
 |skip=>exact e
 |reg ops=>
  have e:c_reg ops a p ro fr st=some o:=e
  show c_reg ops b q ro fr st=some o
  unfold c_reg at e ⊢
  split at e
  ·rename_i h1;rw[mops_mono h _ _ _ h1];exact e
  ·cases e
 |regD ops ms=>
  have e:c_regD ops ms a p ro fr st=some o:=e
  show c_regD ops ms b q ro fr st=some o
  unfold c_regD at e ⊢
  split at e
  ·rename_i h1;rw[mopsD_mono h _ _ _ h1];exact e
  ·cases e
 |regS dst ch send zero ops=>
  have e:c_regS dst ch send zero ops a p ro fr st=some o:=e
  show c_regS dst ch send zero ops b q ro fr st=some o
  unfold c_regS at e ⊢
  split at e
  ·split at e
   ·split at e
    ·split at e
     ·rename_i h1;rw[mops_mono h _ _ _ h1];exact e
     ·cases e
    ·cases e
   ·cases e
  ·cases e
 |seq x y=>
  have e:c_seq x y a p ro fr st=some o:=e
  show c_seq x y b q ro fr st=some o
  unfold c_seq at e ⊢
  split at e
  ·rename_i h1;rw[hc _ _ _ _ _ h1];exact hc _ _ _ _ _ e
  ·rename_i h1
   have:=hc _ _ _ _ _ e
   rw[this]
   rcases o with⟨_|_|_,_,_⟩
   ·exact absurd e (h1 _ _)
   ·rfl
   ·rfl
 |cond x y z=>
  have e:c_cond x y z a p ro fr st=some o:=e
  show c_cond x y z b q ro fr st=some o
  unfold c_cond at e ⊢
  split at e
  ·exact hc _ _ _ _ _ e
  ·exact hc _ _ _ _ _ e
  ·cases e
 |block id x=>
  have e:c_block id x a p ro fr st=some o:=e
  show c_block id x b q ro fr st=some o
  unfold c_block at e ⊢
  split at e
  ·rename_i h1;rw[hc _ _ _ _ _ h1];exact e
  ·rename_i h1
   have:=hc _ _ _ _ _ e
   rw[this]
   rcases o with⟨_|_|_,_,_⟩
   ·rfl
   ·exact absurd e (h1 _ _ _)
   ·rfl
 |loop x=>
  have e:c_loop x a p ro fr st=some o:=e
  show c_loop x b q ro fr st=some o
  unfold c_loop at e ⊢
  split at e
  ·rename_i h1;rw[hc _ _ _ _ _ h1];exact hc _ _ _ _ _ e
  ·rename_i h1
   have:=hc _ _ _ _ _ e
   rw[this]
   rcases o with⟨_|_|_,_,_⟩
   ·exact absurd e (h1 _ _)
   ·rfl
   ·rfl
 |rangef g ps x y=>
  have e:c_rangef g ps x y a p ro fr st=some o:=e
  show c_rangef g ps x y b q ro fr st=some o
  unfold c_rangef at e ⊢
  split at e
  ·cases e
  ·split at e
   ·cases e
   ·rename_i hy
    simp only[hy]
    split at e
    ·cases e
    ·split at e
     ·cases e
     ·rename_i h1;rw[h _ _ _ _ h1];exact e
 |exit id=>exact e
 |scope x=>exact hc _ _ _ _ _ e
 |ret=>exact e
 |stop=>exact e
theorem mcode_mono{a b:CallT}(h:Le a b):∀(F F':Nat),F≤F'→LeC (mcode a F) (mcode b F')
 |0,_,_=>fun _ _ _ _ _ e=>by cases e
 |F+1,0,hF=>by omega
 |F+1,F'+1,hF=>fun ro c fr st _ e=>codeStep_mono h (mcode_mono h F F' (by omega)) ro c fr st e
theorem funcRun_mono{p q:CodeF}(h:LeC p q){mf:MFunc}{args:List V}{st:St}{o:V×St}(e:funcRun mf p args st=some o):funcRun mf q args st=some o:=by
 unfold funcRun at e ⊢
 split at e
 ·cases e
 ·rename_i h0
  rw[if_neg h0]
  cases h1:p none mf.body {r:=setRegs .nil 0 args,n:=mf.ntmps,marks:=[]} {st with w:=[]} with
  |none=>rw[h1]at e;cases e
  |some r=>rw[h1]at e;rw[h _ _ _ _ _ h1];exact e
theorem roundRun_mono{p q:CodeF}(h:LeC p q){l:Nat}{args:List V}{st:St}{o:V×St}(e:roundRun p l args st=some o):roundRun q l args st=some o:=by
 unfold roundRun at e ⊢
 split at e
 ·split at e
  ·cases e
  ·split at e
   ·rename_i h1
    rw[h _ _ _ _ _ h1]
    simp only[]
    split at e
    ·split at e
     ·rename_i hr
      rw[if_pos hr]
      split at e
      ·rename_i h2
       rw[h _ _ _ _ _ h2]
       exact e
      ·cases e
     ·cases e
    ·cases e
   ·cases e
 ·cases e
theorem callStep_mono{tbl:Nat→Option MFunc}{p q:CodeF}(h:LeC p q):Le (callStep tbl p) (callStep tbl q):=by
 intro g args st o e
 unfold callStep at e ⊢
 split at e
 ·split at e
  ·exact funcRun_mono h e
  ·cases e
 ·exact roundRun_mono h e
 ·cases e
theorem orCall_mono{x a b:CallT}(h:Le a b):Le (orCall x a) (orCall x b):=by
 intro g args st o e
 unfold orCall at e ⊢
 split at e
 ·exact e
 ·exact h _ _ _ _ e
theorem mcallX_mono{x:CallT}{tbl:Nat→Option MFunc}{F F':Nat}(hF:F≤F'):∀(d d':Nat),d≤d'→Le (mcallX x tbl F d) (mcallX x tbl F' d')
 |0,0,_=>fun _ _ _ _ e=>e
 |0,d'+1,_=>fun g args st o e=>by
  have e:x g args st=some o:=e
  show orCall x _ g args st=some o
  unfold orCall;rw[e]
 |d+1,0,h=>by omega
 |d+1,d'+1,h=>orCall_mono (callStep_mono (mcode_mono (mcallX_mono hF d d' (by omega)) F F' hF))
structure Cx where
 x:CallT
 tbl:Nat→Option MFunc
def Cx.at(C:Cx)(N:Nat):CallT:=mcallX C.x C.tbl N N
theorem Cx.at_mono{C:Cx}{N M:Nat}(h:N≤M):Le (C.at N) (C.at M):=mcallX_mono h N M h
open Classical in
noncomputable def Cx.call(C:Cx):CallT:=fun g args st=>if h:∃r N,C.at N g args st=some r then some h.choose else none
theorem Cx.call_iff{C:Cx}{g args st r}:C.call g args st=some r↔∃N,C.at N g args st=some r:=by
 unfold Cx.call
 constructor
 ·intro h
  split at h
  ·rename_i hc
   simp only[Option.some.injEq]at h
   exact h▸hc.choose_spec
  ·cases h
 ·rintro⟨N,h⟩
  have hc:∃r N,C.at N g args st=some r:=⟨r,N,h⟩
  rw[dif_pos hc]
  obtain⟨M,hM⟩:=hc.choose_spec
  have h1:=Cx.at_mono (Nat.le_max_left N M) _ _ _ _ h
  have h2:=Cx.at_mono (Nat.le_max_right N M) _ _ _ _ hM
  rw[h1]at h2
  exact congrArg some (Option.some.inj h2).symm
open Classical in
noncomputable def Cx.code(C:Cx):CodeF:=fun ro c fr st=>if h:∃r F,mcode C.call F ro c fr st=some r then some h.choose else none
theorem Cx.code_iff{C:Cx}{ro c fr st r}:C.code ro c fr st=some r↔∃F,mcode C.call F ro c fr st=some r:=by
 unfold Cx.code
 constructor
 ·intro h
  split at h
  ·rename_i hc
   simp only[Option.some.injEq]at h
   exact h▸hc.choose_spec
  ·cases h
 ·rintro⟨N,h⟩
  have hc:∃r F,mcode C.call F ro c fr st=some r:=⟨r,N,h⟩
  rw[dif_pos hc]
  obtain⟨M,hM⟩:=hc.choose_spec
  have h1:=mcode_mono (fun _ _ _ _ e=>e) N (max N M) (Nat.le_max_left N M) _ _ _ _ _ h
  have h2:=mcode_mono (fun _ _ _ _ e=>e) M (max N M) (Nat.le_max_right N M) _ _ _ _ _ hM
  rw[h1]at h2
  exact congrArg some (Option.some.inj h2).symm
theorem opt_ext{α:Type}{a b:Option α}(h:∀r,a=some r↔b=some r):a=b:=by
 cases a with
 |none=>cases b with
  |none=>rfl
  |some r=>exact absurd ((h r).2 rfl) (by simp)
 |some r=>exact((h r).1 rfl).symm
theorem codeStep_need{a:CallT}{p:CodeF}{q:Nat→CodeF}(hq:∀n m,n≤m→LeC (q n) (q m))(hp:∀ro c fr st r,p ro c fr st=some r→∃n,q n ro c fr st=some r)(ro:Option Nat)(c:MCode)(fr:Fr)(st:St){o:Ex×Fr×St}(e:codeStep c a p ro fr st=some o):∃n,codeStep c a (q n) ro fr st=some o:=by
 cases c with
 |skip=>exact⟨0,e⟩
 |reg ops=>exact⟨0,e⟩
 |regD ops ms=>exact⟨0,e⟩
 |regS dst ch send zero ops=>exact⟨0,e⟩
 |seq x y=>
  have e:c_seq x y a p ro fr st=some o:=e
  show ∃n,c_seq x y a (q n) ro fr st=some o
  unfold c_seq at e ⊢
  split at e
  ·rename_i h1
   obtain⟨n,hn⟩:=hp _ _ _ _ _ h1
   obtain⟨m,hm⟩:=hp _ _ _ _ _ e
   refine⟨max n m,?_⟩
   rw[hq n _ (Nat.le_max_left n m) _ _ _ _ _ hn]
   exact hq m _ (Nat.le_max_right n m) _ _ _ _ _ hm
  ·rename_i h1
   obtain⟨n,hn⟩:=hp _ _ _ _ _ e
   refine⟨n,?_⟩
   rw[hn]
   rcases o with⟨_|_|_,_,_⟩
   ·exact absurd e (h1 _ _)
   ·rfl
   ·rfl
 |cond x y z=>
  have e:c_cond x y z a p ro fr st=some o:=e
  show ∃n,c_cond x y z a (q n) ro fr st=some o
  unfold c_cond at e ⊢
  split at e
  ·exact hp _ _ _ _ _ e
  ·exact hp _ _ _ _ _ e
  ·cases e
 |block id x=>
  have e:c_block id x a p ro fr st=some o:=e
  show ∃n,c_block id x a (q n) ro fr st=some o
  unfold c_block at e ⊢
  split at e
  ·rename_i h1
   obtain⟨n,hn⟩:=hp _ _ _ _ _ h1
   exact⟨n,by rw[hn];exact e⟩
  ·rename_i h1
   obtain⟨n,hn⟩:=hp _ _ _ _ _ e
   refine⟨n,?_⟩
   rw[hn]
   rcases o with⟨_|_|_,_,_⟩
   ·rfl
   ·exact absurd e (h1 _ _ _)
   ·rfl
 |loop x=>
  have e:c_loop x a p ro fr st=some o:=e
  show ∃n,c_loop x a (q n) ro fr st=some o
  unfold c_loop at e ⊢
  split at e
  ·rename_i h1
   obtain⟨n,hn⟩:=hp _ _ _ _ _ h1
   obtain⟨m,hm⟩:=hp _ _ _ _ _ e
   refine⟨max n m,?_⟩
   rw[hq n _ (Nat.le_max_left n m) _ _ _ _ _ hn]
   exact hq m _ (Nat.le_max_right n m) _ _ _ _ _ hm
  ·rename_i h1
   obtain⟨n,hn⟩:=hp _ _ _ _ _ e
   refine⟨n,?_⟩
   rw[hn]
   rcases o with⟨_|_|_,_,_⟩
   ·exact absurd e (h1 _ _)
   ·rfl
   ·rfl
 |rangef g ps x y=>exact⟨0,e⟩
 |exit id=>exact⟨0,e⟩
 |scope x=>exact hp _ _ _ _ _ e
 |ret=>exact⟨0,e⟩
 |stop=>exact⟨0,e⟩
theorem Cx.code_eq{C:Cx}(ro:Option Nat)(c:MCode)(fr:Fr)(st:St):C.code ro c fr st=codeStep c C.call C.code ro fr st:=by
 apply opt_ext
 intro r
 constructor
 ·intro h
  obtain⟨F,hF⟩:=Cx.code_iff.1 h
  cases F with
  |zero=>cases hF
  |succ F=>exact codeStep_mono (fun _ _ _ _ e=>e) (fun ro c fr st r e=>Cx.code_iff.2 ⟨F,e⟩) ro c fr st hF
 ·intro h
  obtain⟨n,hn⟩:=codeStep_need (q:=mcode C.call) (mcode_mono fun _ _ _ _ e=>e) (fun _ _ _ _ _ e=>Cx.code_iff.1 e) ro c fr st h
  exact Cx.code_iff.2 ⟨n+1,hn⟩
theorem mop_need{C:Cx}(op:MOp)(r:T V)(st:St){o:V×St}(e:mop op C.call r st=some o):∃N,mop op (C.at N) r st=some o:=by
 cases op<;>try exact⟨0,e⟩
 rename_i f args
 have e:op_call f args C.call r st=some o:=e
 show ∃N,op_call f args (C.at N) r st=some o
 unfold op_call at e ⊢
 split at e
 ·exact Cx.call_iff.1 e
 ·cases e
theorem mops_need{C:Cx}:∀(ops:List MOper) (fr:Fr) (st:St) {o:Fr×St},mops C.call ops fr st=some o→∃N,mops (C.at N) ops fr st=some o
 |[],_,_,_,e=>⟨0,e⟩
 |q::ops,fr,st,o,e=>by
  have e:opStep C.call q (mops C.call ops) fr st=some o:=e
  show ∃N,opStep (C.at N) q (mops (C.at N) ops) fr st=some o
  unfold opStep at e ⊢
  split at e
  ·split at e
   ·rename_i v st' h1
    split at e
    ·obtain⟨N,hN⟩:=mop_need _ _ _ h1
     obtain⟨M,hM⟩:=mops_need ops _ _ e
     refine⟨max N M,?_⟩
     rw[mop_mono (Cx.at_mono (Nat.le_max_left N M)) _ _ _ hN]
     rename_i h3
     simp only[h3]
     exact mops_mono (Cx.at_mono (Nat.le_max_right N M)) _ _ _ hM
    ·cases e
   ·cases e
  ·split at e
   ·exact mops_need ops _ _ e
   ·cases e
  ·cases e
theorem mopsD_need{C:Cx}:∀(ops:List MOper) (fr:Fr) (st:St) {o:List FP×Fr×St},mopsD C.call ops fr st=some o→∃N,mopsD (C.at N) ops fr st=some o
 |[],_,_,_,e=>⟨0,e⟩
 |q::ops,fr,st,o,e=>by
  have e:opStepD C.call q (mopsD C.call ops) fr st=some o:=e
  show ∃N,opStepD (C.at N) q (mopsD (C.at N) ops) fr st=some o
  unfold opStepD at e ⊢
  split at e
  ·split at e
   ·rename_i v st' h1
    split at e
    ·rename_i h3
     split at e
     ·rename_i h2
      obtain⟨N,hN⟩:=mop_need _ _ _ h1
      obtain⟨M,hM⟩:=mopsD_need ops _ _ h2
      refine⟨max N M,?_⟩
      rw[mop_mono (Cx.at_mono (Nat.le_max_left N M)) _ _ _ hN]
      simp only[h3]
      rw[mopsD_mono (Cx.at_mono (Nat.le_max_right N M)) _ _ _ hM]
      exact e
     ·cases e
    ·cases e
   ·cases e
  ·split at e
   ·split at e
    ·rename_i h2
     obtain⟨M,hM⟩:=mopsD_need ops _ _ h2
     exact⟨M,by rw[hM];exact e⟩
    ·cases e
   ·cases e
  ·cases e
theorem mcode_need{C:Cx}:∀(F:Nat) (ro:Option Nat) (c:MCode) (fr:Fr) (st:St) {o:Ex×Fr×St},mcode C.call F ro c fr st=some o→∃N,mcode (C.at N) F ro c fr st=some o
 |0,_,_,_,_,_,e=>by cases e
 |F+1,ro,c,fr,st,o,e=>by
  have e:codeStep c C.call (mcode C.call F) ro fr st=some o:=e
  show ∃N,codeStep c (C.at N) (mcode (C.at N) F) ro fr st=some o
  have ih:=@mcode_need C F
  have up:∀{n m:Nat},n≤m→LeC (mcode (C.at n) F) (mcode (C.at m) F):=fun h=>mcode_mono (Cx.at_mono h) F F (Nat.le_refl _)
  cases c with
  |reg ops=>
   have e:c_reg ops C.call (mcode C.call F) ro fr st=some o:=e
   show ∃N,c_reg ops (C.at N) (mcode (C.at N) F) ro fr st=some o
   unfold c_reg at e ⊢
   split at e
   ·rename_i h1
    obtain⟨N,hN⟩:=mops_need _ _ _ h1
    exact⟨N,by rw[hN];exact e⟩
   ·cases e
  |regD ops ms=>
   have e:c_regD ops ms C.call (mcode C.call F) ro fr st=some o:=e
   show ∃N,c_regD ops ms (C.at N) (mcode (C.at N) F) ro fr st=some o
   unfold c_regD at e ⊢
   split at e
   ·rename_i h1
    obtain⟨N,hN⟩:=mopsD_need _ _ _ h1
    exact⟨N,by rw[hN];exact e⟩
   ·cases e
  |regS dst ch send zero ops=>
   have e:c_regS dst ch send zero ops C.call (mcode C.call F) ro fr st=some o:=e
   show ∃N,c_regS dst ch send zero ops (C.at N) (mcode (C.at N) F) ro fr st=some o
   unfold c_regS at e ⊢
   split at e
   ·split at e
    ·split at e
     ·split at e
      ·rename_i h1
       obtain⟨N,hN⟩:=mops_need _ _ _ h1
       exact⟨N,by rw[hN];exact e⟩
      ·cases e
     ·cases e
    ·cases e
   ·cases e
  |rangef g ps x y=>
   have e:c_rangef g ps x y C.call (mcode C.call F) ro fr st=some o:=e
   show ∃N,c_rangef g ps x y (C.at N) (mcode (C.at N) F) ro fr st=some o
   unfold c_rangef at e ⊢
   split at e
   ·cases e
   ·split at e
    ·cases e
    ·rename_i hy
     simp only[hy]
     split at e
     ·cases e
     ·split at e
      ·cases e
      ·rename_i h1
       obtain⟨N,hN⟩:=Cx.call_iff.1 h1
       exact⟨N,by rw[hN];exact e⟩
  |skip=>exact⟨0,e⟩
  |exit id=>exact⟨0,e⟩
  |ret=>exact⟨0,e⟩
  |stop=>cases e
  |scope x=>exact ih _ _ _ _ e
  |cond x y z=>
   have e:c_cond x y z C.call (mcode C.call F) ro fr st=some o:=e
   show ∃N,c_cond x y z (C.at N) (mcode (C.at N) F) ro fr st=some o
   unfold c_cond at e ⊢
   split at e
   ·exact ih _ _ _ _ e
   ·exact ih _ _ _ _ e
   ·cases e
  |seq x y=>exact codeStep_need (a:=C.call) (q:=fun n=>mcode (C.at n) F) (fun _ _ h=>up h) (fun _ _ _ _ _ e=>ih _ _ _ _ e) ro (.seq x y) fr st e
  |block id x=>exact codeStep_need (a:=C.call) (q:=fun n=>mcode (C.at n) F) (fun _ _ h=>up h) (fun _ _ _ _ _ e=>ih _ _ _ _ e) ro (.block id x) fr st e
  |loop x=>exact codeStep_need (a:=C.call) (q:=fun n=>mcode (C.at n) F) (fun _ _ h=>up h) (fun _ _ _ _ _ e=>ih _ _ _ _ e) ro (.loop x) fr st e
theorem Cx.code_need{C:Cx}{ro c fr st r}(h:C.code ro c fr st=some r):∃N,mcode (C.at N) N ro c fr st=some r:=by
 obtain⟨F,hF⟩:=Cx.code_iff.1 h
 obtain⟨N,hN⟩:=mcode_need F _ _ _ _ hF
 exact⟨max F N,mcode_mono (Cx.at_mono (Nat.le_max_right F N)) _ _ (Nat.le_max_left F N) _ _ _ _ _ hN⟩
theorem callStep_need{tbl:Nat→Option MFunc}{p:CodeF}{q:Nat→CodeF}(hq:∀n m,n≤m→LeC (q n) (q m))(hp:∀ro c fr st r,p ro c fr st=some r→∃n,q n ro c fr st=some r){g args st}{o:V×St}(e:callStep tbl p g args st=some o):∃n,callStep tbl (q n) g args st=some o:=by
 unfold callStep at e ⊢
 split at e
 ·split at e
  ·rename_i mf _
   unfold funcRun at e ⊢
   split at e
   ·cases e
   ·rename_i h0
    simp only[h0,if_false]
    cases h1:p none mf.body {r:=setRegs .nil 0 _,n:=mf.ntmps,marks:=[]} {st with w:=[]} with
    |none=>rw[h1]at e;cases e
    |some r=>
     rw[h1]at e
     obtain⟨n,hn⟩:=hp _ _ _ _ _ h1
     exact⟨n,by rw[hn];exact e⟩
  ·cases e
 ·unfold roundRun at e ⊢
  split at e
  ·split at e
   ·cases e
   ·split at e
    ·rename_i h1
     obtain⟨n,hn⟩:=hp _ _ _ _ _ h1
     split at e
     ·split at e
      ·split at e
       ·rename_i h4 h5 _ _ _ _ h2
        obtain⟨m,hm⟩:=hp _ _ _ _ _ h2
        refine⟨max n m,?_⟩
        rw[hq n _ (Nat.le_max_left n m) _ _ _ _ _ hn]
        simp only[h4,h5,if_true]
        rw[hq m _ (Nat.le_max_right n m) _ _ _ _ _ hm]
        exact e
       ·cases e
      ·cases e
     ·cases e
    ·cases e
  ·cases e
 ·cases e
theorem Cx.call_eq{C:Cx}(g:V)(args:List V)(st:St):C.call g args st=orCall C.x (callStep C.tbl C.code) g args st:=by
 apply opt_ext
 intro r
 constructor
 ·intro h
  obtain⟨N,hN⟩:=Cx.call_iff.1 h
  cases N with
  |zero=>
   have e:C.x g args st=some r:=hN
   unfold orCall;rw[e]
  |succ N=>
   refine orCall_mono (x:=C.x) (callStep_mono (p:=mcode (mcallX C.x C.tbl (N+1) N) (N+1)) fun ro c fr st r e=>?_) _ _ _ _ hN
   refine Cx.code_iff.2 ⟨N+1,?_⟩
   refine mcode_mono (fun g args st r e=>?_) (N+1) (N+1) (Nat.le_refl _) _ _ _ _ _ e
   exact Cx.call_iff.2 ⟨N+1,mcallX_mono (Nat.le_refl _) N (N+1) (by omega) _ _ _ _ e⟩
 ·intro h
  unfold orCall at h
  split at h
  ·rename_i r' e
   simp only[Option.some.injEq]at h
   subst h
   exact Cx.call_iff.2 ⟨0,e⟩
  ·rename_i hx
   obtain⟨N,hN⟩:=callStep_need (q:=fun n=>mcode (C.at n) n) (fun n m h=>mcode_mono (Cx.at_mono h) n m h) (fun _ _ _ _ _ e=>Cx.code_need e) h
   refine Cx.call_iff.2 ⟨N+1,?_⟩
   show orCall C.x (callStep C.tbl (mcode (mcallX C.x C.tbl (N+1) N) (N+1))) g args st=some r
   unfold orCall
   rw[hx]
   exact callStep_mono (mcode_mono (mcallX_mono (by omega) N N (Nat.le_refl _)) N (N+1) (by omega)) _ _ _ _ hN
end Go.Mx
