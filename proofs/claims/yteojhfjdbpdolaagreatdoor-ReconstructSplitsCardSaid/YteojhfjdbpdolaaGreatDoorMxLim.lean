/-Runs without a count of steps-/
import Derived.Test.YteojhfjdbpdolaaGreatDoorMxTab
set_option linter.all false
namespace Go.Mx
noncomputable section
open Go
def Le(a b:cI):Prop:=∀g args st r,a g args st=some r->b g args st=some r
def QJ{a b:cI}(h:Le a b)(op:gh)(r:T V)(st:St){o:V×St}(e:cm op a r st=some o):cm op b r st=some o:=by
 cases op<;>try exact e
 rename_i f args
 show zd f args b r st=some o
 have e:zd f args a r st=some o:=e
 unfold zd at e ⊢
 split at e
 ·exact h _ _ _ _ e
 ·cases e
def LC{a b:cI}(h:Le a b):∀(ops:List dw) (fr:Fr) (st:St) {o:Fr×St},dE a ops fr st=some o->dE b ops fr st=some o
 |[],_,_,_,e=>e
 |q::ops,fr,st,o,e=>by
  have e:Bq a q (dE a ops) fr st=some o:=e
  show Bq b q (dE b ops) fr st=some o
  unfold Bq at e ⊢
  split at e
  ·split at e
   ·rename_i v aC h1
    rw[QJ h _ _ _ h1]
    simp only[]
    split at e
    ·exact LC h ops _ _ e
    ·cases e
   ·cases e
  ·split at e
   ·exact LC h ops _ _ e
   ·cases e
  ·cases e
def QK{a b:cI}(h:Le a b):∀(ops:List dw) (fr:Fr) (st:St) {o:List FP×Fr×St},bJ a ops fr st=some o->bJ b ops fr st=some o
 |[],_,_,_,e=>e
 |q::ops,fr,st,o,e=>by
  have e:Br a q (bJ a ops) fr st=some o:=e
  show Br b q (bJ b ops) fr st=some o
  unfold Br at e ⊢
  split at e
  ·split at e
   ·rename_i v aC h1
    rw[QJ h _ _ _ h1]
    simp only[]
    split at e
    ·split at e
     ·rename_i h2
      rw[QK h ops _ _ h2]
      exact e
     ·cases e
    ·cases e
   ·cases e
  ·split at e
   ·split at e
    ·rename_i h2
     rw[QK h ops _ _ h2]
     exact e
    ·cases e
   ·cases e
  ·cases e
def EC(a b:pX):Prop:=∀ro c fr st r,a ro c fr st=some r->b ro c fr st=some r
def Zlh{a b:cI}{p q:pX}(h:Le a b)(hc:EC p q)(ro:Option Nat)(c:bU)(fr:Fr)(st:St){o:Ex×Fr×St}(e:mL c a p ro fr st=some o):mL c b q ro fr st=some o:=by
 cases c with
 |skip=>exact e
 |dN ops=>
  have e:Ae ops a p ro fr st=some o:=e
  show Ae ops b q ro fr st=some o
  unfold Ae at e ⊢
  split at e
  ·rename_i h1;rw[LC h _ _ _ h1];exact e
  ·cases e
 |du ops ms=>
  have e:Af ops ms a p ro fr st=some o:=e
  show Af ops ms b q ro fr st=some o
  unfold Af at e ⊢
  split at e
  ·rename_i h1;rw[QK h _ _ _ h1];exact e
  ·cases e
 |yl dst ch send zero ops=>
  have e:Bu dst ch send zero ops a p ro fr st=some o:=e
  show Bu dst ch send zero ops b q ro fr st=some o
  unfold Bu at e ⊢
  split at e
  ·split at e
   ·split at e
    ·split at e
     ·rename_i h1;rw[LC h _ _ _ h1];exact e
     ·cases e
    ·cases e
   ·cases e
  ·cases e
 |seq x y=>
  have e:Bv x y a p ro fr st=some o:=e
  show Bv x y b q ro fr st=some o
  unfold Bv at e ⊢
  split at e
  ·rename_i h1;rw[hc _ _ _ _ _ h1];exact hc _ _ _ _ _ e
  ·rename_i h1
   have:=hc _ _ _ _ _ e
   rw[this]
   rcases o with⟨_|_|_,_,_⟩
   ·exact absurd e (h1 _ _)
   ·rfl
   ·rfl
 |cond x y z=>
  have e:yq x y z a p ro fr st=some o:=e
  show yq x y z b q ro fr st=some o
  unfold yq at e ⊢
  split at e
  ·exact hc _ _ _ _ _ e
  ·exact hc _ _ _ _ _ e
  ·cases e
 |block id x=>
  have e:Bw id x a p ro fr st=some o:=e
  show Bw id x b q ro fr st=some o
  unfold Bw at e ⊢
  split at e
  ·rename_i h1;rw[hc _ _ _ _ _ h1];exact e
  ·rename_i h1
   have:=hc _ _ _ _ _ e
   rw[this]
   rcases o with⟨_|_|_,_,_⟩
   ·rfl
   ·exact absurd e (h1 _ _ _)
   ·rfl
 |loop x=>
  have e:By x a p ro fr st=some o:=e
  show By x b q ro fr st=some o
  unfold By at e ⊢
  split at e
  ·rename_i h1;rw[hc _ _ _ _ _ h1];exact hc _ _ _ _ _ e
  ·rename_i h1
   have:=hc _ _ _ _ _ e
   rw[this]
   rcases o with⟨_|_|_,_,_⟩
   ·exact absurd e (h1 _ _)
   ·rfl
   ·rfl
 |q8 g ps x y=>
  have e:CD g ps x y a p ro fr st=some o:=e
  show CD g ps x y b q ro fr st=some o
  unfold CD at e ⊢
  split at e
  ·cases e
  ·split at e
   ·cases e
   ·rename_i hy
    simp only[hy]
    split at e
    ·cases e
    ·split at e
     ·cases e
     ·rename_i h1;rw[h _ _ _ _ h1];exact e
 |exit id=>exact e
 |scope x=>exact hc _ _ _ _ _ e
 |ret=>exact e
 |stop=>exact e
def Aw{a b:cI}(h:Le a b):∀(F F':Nat),F<=F'->EC (dW a F) (dW b F')
 |0,_,_=>fun _ _ _ _ _ e=>by cases e
 |F+1,0,hF=>by omega
 |F+1,F'+1,hF=>fun ro c fr st _ e=>Zlh h (Aw h F F' (by omega)) ro c fr st e
def Zt8{p q:pX}(h:EC p q){mf:lC}{args:List V}{st:St}{o:V×St}(e:CE mf p args st=some o):CE mf q args st=some o:=by
 unfold CE at e ⊢
 split at e
 ·cases e
 ·rename_i h0
  rw[ak h0]
  cases h1:p none mf.body {r:=ze .nil 0 args,n:=mf.ntmps,marks:=[]} {st with w:=[]} with
  |none=>rw[h1]at e;cases e
  |some r=>rw[h1]at e;rw[h _ _ _ _ _ h1];exact e
def Zrt{p q:pX}(h:EC p q){l:Nat}{args:List V}{st:St}{o:V×St}(e:GH p l args st=some o):GH q l args st=some o:=by
 unfold GH at e ⊢
 split at e
 ·split at e
  ·cases e
  ·split at e
   ·rename_i h1
    rw[h _ _ _ _ _ h1]
    simp only[]
    split at e
    ·split at e
     ·rename_i hr
      rw[av hr]
      split at e
      ·rename_i h2
       rw[h _ _ _ _ _ h2]
       exact e
      ·cases e
     ·cases e
    ·cases e
   ·cases e
 ·cases e
def Xh{dK:Nat->Option lC}{p q:pX}(h:EC p q):Le (yr dK p) (yr dK q):=by
 intro g args st o e
 unfold yr at e ⊢
 split at e
 ·split at e
  ·exact Zt8 h e
  ·cases e
 ·exact Zrt h e
 ·cases e
def Zoh{x a b:cI}(h:Le a b):Le (ti x a) (ti x b):=by
 intro g args st o e
 unfold ti at e ⊢
 split at e
 ·exact e
 ·exact h _ _ _ _ e
def QL{x:cI}{dK:Nat->Option lC}{F F':Nat}(hF:F<=F'):∀(d d':Nat),d<=d'->Le (zk x dK F d) (zk x dK F' d')
 |0,0,_=>fun _ _ _ _ e=>e
 |0,d'+1,_=>fun g args st o e=>by
  have e:x g args st=some o:=e
  show ti x _ g args st=some o
  unfold ti;rw[e]
 |d+1,0,h=>by omega
 |d+1,d'+1,h=>Zoh (Xh (Aw (QL hF d d' (by omega)) F F' hF))
structure Cx where
 x:cI
 dK:Nat->Option lC
def Cx.at(C:Cx)(N:Nat):cI:=zk C.x C.dK N N
def Cx.ed{C:Cx}{N M:Nat}(h:N<=M):Le (C.at N) (C.at M):=QL h N M h
open Classical in
def Cx.call(C:Cx):cI:=fun g args st=>if h:∃r N,C.at N g args st=some r then some h.choose else none
def Cx.fz{C:Cx}{g args st r}:C.call g args st=some r↔∃N,C.at N g args st=some r:=by
 unfold Cx.call
 constructor
 ·intro h
  split at h
  ·rename_i hc
   simp only[al]at h
   exact h▸hc.choose_spec
  ·cases h
 ·rintro⟨N,h⟩
  have hc:∃r N,C.at N g args st=some r:=⟨r,N,h⟩
  rw[dif_pos hc]
  obtain⟨M,hM⟩:=hc.choose_spec
  have h1:=Cx.ed (Cq N M) _ _ _ _ h
  have h2:=Cx.ed (Cn N M) _ _ _ _ hM
  rw[h1]at h2
  exact congrArg some (oV h2).symm
open Classical in
def Cx.code(C:Cx):pX:=fun ro c fr st=>if h:∃r F,dW C.call F ro c fr st=some r then some h.choose else none
def Cx.fA{C:Cx}{ro c fr st r}:C.code ro c fr st=some r↔∃F,dW C.call F ro c fr st=some r:=by
 unfold Cx.code
 constructor
 ·intro h
  split at h
  ·rename_i hc
   simp only[al]at h
   exact h▸hc.choose_spec
  ·cases h
 ·rintro⟨N,h⟩
  have hc:∃r F,dW C.call F ro c fr st=some r:=⟨r,N,h⟩
  rw[dif_pos hc]
  obtain⟨M,hM⟩:=hc.choose_spec
  have h1:=Aw (fun _ _ _ _ e=>e) N (max N M) (Cq N M) _ _ _ _ _ h
  have h2:=Aw (fun _ _ _ _ e=>e) M (max N M) (Cn N M) _ _ _ _ _ hM
  rw[h1]at h2
  exact congrArg some (oV h2).symm
def Yd6{α:Type}{a b:Option α}(h:∀r,a=some r↔b=some r):a=b:=by
 cases a with
 |none=>cases b with
  |none=>rfl
  |some r=>exact absurd ((h r).2 rfl) (by simp)
 |some r=>exact((h r).1 rfl).symm
def QM{a:cI}{p:pX}{q:Nat->pX}(hq:∀n m,n<=m->EC (q n) (q m))(hp:∀ro c fr st r,p ro c fr st=some r->∃n,q n ro c fr st=some r)(ro:Option Nat)(c:bU)(fr:Fr)(st:St){o:Ex×Fr×St}(e:mL c a p ro fr st=some o):∃n,mL c a (q n) ro fr st=some o:=by
 cases c with
 |skip=>exact⟨0,e⟩
 |dN ops=>exact⟨0,e⟩
 |du ops ms=>exact⟨0,e⟩
 |yl dst ch send zero ops=>exact⟨0,e⟩
 |seq x y=>
  have e:Bv x y a p ro fr st=some o:=e
  show ∃n,Bv x y a (q n) ro fr st=some o
  unfold Bv at e ⊢
  split at e
  ·rename_i h1
   obtain⟨n,hn⟩:=hp _ _ _ _ _ h1
   obtain⟨m,hm⟩:=hp _ _ _ _ _ e
   refine⟨max n m,?_⟩
   rw[hq n _ (Cq n m) _ _ _ _ _ hn]
   exact hq m _ (Cn n m) _ _ _ _ _ hm
  ·rename_i h1
   obtain⟨n,hn⟩:=hp _ _ _ _ _ e
   refine⟨n,?_⟩
   rw[hn]
   rcases o with⟨_|_|_,_,_⟩
   ·exact absurd e (h1 _ _)
   ·rfl
   ·rfl
 |cond x y z=>
  have e:yq x y z a p ro fr st=some o:=e
  show ∃n,yq x y z a (q n) ro fr st=some o
  unfold yq at e ⊢
  split at e
  ·exact hp _ _ _ _ _ e
  ·exact hp _ _ _ _ _ e
  ·cases e
 |block id x=>
  have e:Bw id x a p ro fr st=some o:=e
  show ∃n,Bw id x a (q n) ro fr st=some o
  unfold Bw at e ⊢
  split at e
  ·rename_i h1
   obtain⟨n,hn⟩:=hp _ _ _ _ _ h1
   exact⟨n,by rw[hn];exact e⟩
  ·rename_i h1
   obtain⟨n,hn⟩:=hp _ _ _ _ _ e
   refine⟨n,?_⟩
   rw[hn]
   rcases o with⟨_|_|_,_,_⟩
   ·rfl
   ·exact absurd e (h1 _ _ _)
   ·rfl
 |loop x=>
  have e:By x a p ro fr st=some o:=e
  show ∃n,By x a (q n) ro fr st=some o
  unfold By at e ⊢
  split at e
  ·rename_i h1
   obtain⟨n,hn⟩:=hp _ _ _ _ _ h1
   obtain⟨m,hm⟩:=hp _ _ _ _ _ e
   refine⟨max n m,?_⟩
   rw[hq n _ (Cq n m) _ _ _ _ _ hn]
   exact hq m _ (Cn n m) _ _ _ _ _ hm
  ·rename_i h1
   obtain⟨n,hn⟩:=hp _ _ _ _ _ e
   refine⟨n,?_⟩
   rw[hn]
   rcases o with⟨_|_|_,_,_⟩
   ·exact absurd e (h1 _ _)
   ·rfl
   ·rfl
 |q8 g ps x y=>exact⟨0,e⟩
 |exit id=>exact⟨0,e⟩
 |scope x=>exact hp _ _ _ _ _ e
 |ret=>exact⟨0,e⟩
 |stop=>exact⟨0,e⟩
def Cx.dG{C:Cx}(ro:Option Nat)(c:bU)(fr:Fr)(st:St):C.code ro c fr st=mL c C.call C.code ro fr st:=by
 apply Yd6
 intro r
 constructor
 ·intro h
  obtain⟨F,hF⟩:=Cx.fA.1 h
  cases F with
  |zero=>cases hF
  |succ F=>exact Zlh (fun _ _ _ _ e=>e) (fun ro c fr st r e=>Cx.fA.2 ⟨F,e⟩) ro c fr st hF
 ·intro h
  obtain⟨n,hn⟩:=QM (q:=dW C.call) (Aw fun _ _ _ _ e=>e) (fun _ _ _ _ _ e=>Cx.fA.1 e) ro c fr st h
  exact Cx.fA.2 ⟨n+1,hn⟩
def Zyh{C:Cx}(op:gh)(r:T V)(st:St){o:V×St}(e:cm op C.call r st=some o):∃N,cm op (C.at N) r st=some o:=by
 cases op<;>try exact⟨0,e⟩
 rename_i f args
 have e:zd f args C.call r st=some o:=e
 show ∃N,zd f args (C.at N) r st=some o
 unfold zd at e ⊢
 split at e
 ·exact Cx.fz.1 e
 ·cases e
def QN{C:Cx}:∀(ops:List dw) (fr:Fr) (st:St) {o:Fr×St},dE C.call ops fr st=some o->∃N,dE (C.at N) ops fr st=some o
 |[],_,_,_,e=>⟨0,e⟩
 |q::ops,fr,st,o,e=>by
  have e:Bq C.call q (dE C.call ops) fr st=some o:=e
  show ∃N,Bq (C.at N) q (dE (C.at N) ops) fr st=some o
  unfold Bq at e ⊢
  split at e
  ·split at e
   ·rename_i v aC h1
    split at e
    ·obtain⟨N,hN⟩:=Zyh _ _ _ h1
     obtain⟨M,hM⟩:=QN ops _ _ e
     refine⟨max N M,?_⟩
     rw[QJ (Cx.ed (Cq N M)) _ _ _ hN]
     rename_i h3
     simp only[h3]
     exact LC (Cx.ed (Cn N M)) _ _ _ hM
    ·cases e
   ·cases e
  ·split at e
   ·exact QN ops _ _ e
   ·cases e
  ·cases e
def Xi{C:Cx}:∀(ops:List dw) (fr:Fr) (st:St) {o:List FP×Fr×St},bJ C.call ops fr st=some o->∃N,bJ (C.at N) ops fr st=some o
 |[],_,_,_,e=>⟨0,e⟩
 |q::ops,fr,st,o,e=>by
  have e:Br C.call q (bJ C.call ops) fr st=some o:=e
  show ∃N,Br (C.at N) q (bJ (C.at N) ops) fr st=some o
  unfold Br at e ⊢
  split at e
  ·split at e
   ·rename_i v aC h1
    split at e
    ·rename_i h3
     split at e
     ·rename_i h2
      obtain⟨N,hN⟩:=Zyh _ _ _ h1
      obtain⟨M,hM⟩:=Xi ops _ _ h2
      refine⟨max N M,?_⟩
      rw[QJ (Cx.ed (Cq N M)) _ _ _ hN]
      simp only[h3]
      rw[QK (Cx.ed (Cn N M)) _ _ _ hM]
      exact e
     ·cases e
    ·cases e
   ·cases e
  ·split at e
   ·split at e
    ·rename_i h2
     obtain⟨M,hM⟩:=Xi ops _ _ h2
     exact⟨M,by rw[hM];exact e⟩
    ·cases e
   ·cases e
  ·cases e
def Zqt{C:Cx}:∀(F:Nat) (ro:Option Nat) (c:bU) (fr:Fr) (st:St) {o:Ex×Fr×St},dW C.call F ro c fr st=some o->∃N,dW (C.at N) F ro c fr st=some o
 |0,_,_,_,_,_,e=>by cases e
 |F+1,ro,c,fr,st,o,e=>by
  have e:mL c C.call (dW C.call F) ro fr st=some o:=e
  show ∃N,mL c (C.at N) (dW (C.at N) F) ro fr st=some o
  have ih:=@Zqt C F
  have up:∀{n m:Nat},n<=m->EC (dW (C.at n) F) (dW (C.at m) F):=fun h=>Aw (Cx.ed h) F F (aM _)
  cases c with
  |dN ops=>
   have e:Ae ops C.call (dW C.call F) ro fr st=some o:=e
   show ∃N,Ae ops (C.at N) (dW (C.at N) F) ro fr st=some o
   unfold Ae at e ⊢
   split at e
   ·rename_i h1
    obtain⟨N,hN⟩:=QN _ _ _ h1
    exact⟨N,by rw[hN];exact e⟩
   ·cases e
  |du ops ms=>
   have e:Af ops ms C.call (dW C.call F) ro fr st=some o:=e
   show ∃N,Af ops ms (C.at N) (dW (C.at N) F) ro fr st=some o
   unfold Af at e ⊢
   split at e
   ·rename_i h1
    obtain⟨N,hN⟩:=Xi _ _ _ h1
    exact⟨N,by rw[hN];exact e⟩
   ·cases e
  |yl dst ch send zero ops=>
   have e:Bu dst ch send zero ops C.call (dW C.call F) ro fr st=some o:=e
   show ∃N,Bu dst ch send zero ops (C.at N) (dW (C.at N) F) ro fr st=some o
   unfold Bu at e ⊢
   split at e
   ·split at e
    ·split at e
     ·split at e
      ·rename_i h1
       obtain⟨N,hN⟩:=QN _ _ _ h1
       exact⟨N,by rw[hN];exact e⟩
      ·cases e
     ·cases e
    ·cases e
   ·cases e
  |q8 g ps x y=>
   have e:CD g ps x y C.call (dW C.call F) ro fr st=some o:=e
   show ∃N,CD g ps x y (C.at N) (dW (C.at N) F) ro fr st=some o
   unfold CD at e ⊢
   split at e
   ·cases e
   ·split at e
    ·cases e
    ·rename_i hy
     simp only[hy]
     split at e
     ·cases e
     ·split at e
      ·cases e
      ·rename_i h1
       obtain⟨N,hN⟩:=Cx.fz.1 h1
       exact⟨N,by rw[hN];exact e⟩
  |skip=>exact⟨0,e⟩
  |exit id=>exact⟨0,e⟩
  |ret=>exact⟨0,e⟩
  |stop=>cases e
  |scope x=>exact ih _ _ _ _ e
  |cond x y z=>
   have e:yq x y z C.call (dW C.call F) ro fr st=some o:=e
   show ∃N,yq x y z (C.at N) (dW (C.at N) F) ro fr st=some o
   unfold yq at e ⊢
   split at e
   ·exact ih _ _ _ _ e
   ·exact ih _ _ _ _ e
   ·cases e
  |seq x y=>exact QM (a:=C.call) (q:=fun n=>dW (C.at n) F) (fun _ _ h=>up h) (fun _ _ _ _ _ e=>ih _ _ _ _ e) ro (.seq x y) fr st e
  |block id x=>exact QM (a:=C.call) (q:=fun n=>dW (C.at n) F) (fun _ _ h=>up h) (fun _ _ _ _ _ e=>ih _ _ _ _ e) ro (.block id x) fr st e
  |loop x=>exact QM (a:=C.call) (q:=fun n=>dW (C.at n) F) (fun _ _ h=>up h) (fun _ _ _ _ _ e=>ih _ _ _ _ e) ro (.loop x) fr st e
def Cx.p_{C:Cx}{ro c fr st r}(h:C.code ro c fr st=some r):∃N,dW (C.at N) N ro c fr st=some r:=by
 obtain⟨F,hF⟩:=Cx.fA.1 h
 obtain⟨N,hN⟩:=Zqt F _ _ _ _ hF
 exact⟨max F N,Aw (Cx.ed (Cn F N)) _ _ (Cq F N) _ _ _ _ _ hN⟩
def Zlj{dK:Nat->Option lC}{p:pX}{q:Nat->pX}(hq:∀n m,n<=m->EC (q n) (q m))(hp:∀ro c fr st r,p ro c fr st=some r->∃n,q n ro c fr st=some r){g args st}{o:V×St}(e:yr dK p g args st=some o):∃n,yr dK (q n) g args st=some o:=by
 unfold yr at e ⊢
 split at e
 ·split at e
  ·rename_i mf _
   unfold CE at e ⊢
   split at e
   ·cases e
   ·rename_i h0
    simp only[h0,if_false]
    cases h1:p none mf.body {r:=ze .nil 0 _,n:=mf.ntmps,marks:=[]} {st with w:=[]} with
    |none=>rw[h1]at e;cases e
    |some r=>
     rw[h1]at e
     obtain⟨n,hn⟩:=hp _ _ _ _ _ h1
     exact⟨n,by rw[hn];exact e⟩
  ·cases e
 ·unfold GH at e ⊢
  split at e
  ·split at e
   ·cases e
   ·split at e
    ·rename_i h1
     obtain⟨n,hn⟩:=hp _ _ _ _ _ h1
     split at e
     ·split at e
      ·split at e
       ·rename_i h4 h5 _ _ _ _ h2
        obtain⟨m,hm⟩:=hp _ _ _ _ _ h2
        refine⟨max n m,?_⟩
        rw[hq n _ (Cq n m) _ _ _ _ _ hn]
        simp only[h4,h5,if_true]
        rw[hq m _ (Cn n m) _ _ _ _ _ hm]
        exact e
       ·cases e
      ·cases e
     ·cases e
    ·cases e
  ·cases e
 ·cases e
def Cx.rm{C:Cx}(g:V)(args:List V)(st:St):C.call g args st=ti C.x (yr C.dK C.code) g args st:=by
 apply Yd6
 intro r
 constructor
 ·intro h
  obtain⟨N,hN⟩:=Cx.fz.1 h
  cases N with
  |zero=>
   have e:C.x g args st=some r:=hN
   unfold ti;rw[e]
  |succ N=>
   refine Zoh (x:=C.x) (Xh (p:=dW (zk C.x C.dK (N+1) N) (N+1)) fun ro c fr st r e=>?_) _ _ _ _ hN
   refine Cx.fA.2 ⟨N+1,?_⟩
   refine Aw (fun g args st r e=>?_) (N+1) (N+1) (aM _) _ _ _ _ _ e
   exact Cx.fz.2 ⟨N+1,QL (aM _) N (N+1) (by omega) _ _ _ _ e⟩
 ·intro h
  unfold ti at h
  split at h
  ·rename_i r' e
   simp only[al]at h
   subst h
   exact Cx.fz.2 ⟨0,e⟩
  ·rename_i hx
   obtain⟨N,hN⟩:=Zlj (q:=fun n=>dW (C.at n) n) (fun n m h=>Aw (Cx.ed h) n m h) (fun _ _ _ _ _ e=>Cx.p_ e) h
   refine Cx.fz.2 ⟨N+1,?_⟩
   show ti C.x (yr C.dK (dW (zk C.x C.dK (N+1) N) (N+1))) g args st=some r
   unfold ti
   rw[hx]
   exact Xh (Aw (QL (by omega) N N (aM _)) N (N+1) (by omega)) _ _ _ _ hN
inductive Rs where
 |ex (e:Ex) (fr:Fr) (st:St)
 |val (v:V) (st:St)
 |ops (fr:Fr) (st:St)
 |rz (gO:List FP) (fr:Fr) (st:St)
inductive Kf where
 |seq (ro:Option Nat) (b:bU)
 |block (id:Nat)
 |loop (ro:Option Nat) (c:bU)
 |dN
 |put (d:Option Nat) (ops:List dw) (fr:Fr)
 |du (ms:List Nat)
 |vP (op:gh) (d:Option Nat) (ops:List dw) (fr:Fr) (n:Nat) (w:List Nat)
 |cons (fp:FP)
 |fin (rs:List F4) (st:St)
def fj:Option (Ex×Fr×St)->Option Rs
 |some (e,fr,st)=>some (.ex e fr st)
 |none=>none
def sP:Option (V×St)->Option Rs
 |some (v,st)=>some (.val v st)
 |none=>none
def BE:Option (Fr×St)->Option Rs
 |some (fr,st)=>some (.ops fr st)
 |none=>none
def Ax:Option (List FP×Fr×St)->Option Rs
 |some (gO,fr,st)=>some (.rz gO fr st)
 |none=>none
def tu(C:Cx):Kf->Rs->Option Rs
 |.seq ro b,.ex .normal fr st=>fj (C.code ro b fr st)
 |.seq _ _,.ex e fr st=>some (.ex e fr st)
 |.block id,.ex (.exit Bx) fr st=>match Nat.beq Bx id with
  |true=>some (.ex .normal fr st)
  |false=>some (.ex (.exit Bx) fr st)
 |.block _,.ex e fr st=>some (.ex e fr st)
 |.loop ro c,.ex .normal fr st=>fj (C.code ro (.loop c) fr st)
 |.loop _ _,.ex e fr st=>some (.ex e fr st)
 |.dN,.ops fr st=>some (.ex .normal fr st)
 |.put d ops fr,.val v st=>match fr.put d v with
  |some fr=>BE (dE C.call ops fr st)
  |none=>none
 |.du ms,.rz gO fr st=>match jH gO ms with
  |true=>some (.ex .normal fr st)
  |false=>none
 |.vP op d ops fr n w,.val v aC=>match fr.put d v with
  |some bE=>match bJ C.call ops bE {aC with w:=ax n aC.w++w} with
   |some (gO,fr'',st'')=>some (.rz (oY fr.r op (ax n aC.w) n aC.n::gO) fr'' st'')
   |none=>none
  |none=>none
 |.cons fp,.rz gO fr st=>some (.rz (fp::gO) fr st)
 |.fin _ _,.ex (.exit _) _ _=>none
 |.fin rs LD,.ex _ fr bY=>match shut bY fr.marks with
  |none=>none
  |some fh=>match gS fr.r fh rs with
   |some vs=>some (.val (Ej vs) {fh with w:=ax LD.n fh.w++LD.w})
   |none=>none
 |_,_=>none
def mP(C:Cx)(k:Kf):Option Rs->Option Rs
 |some r=>tu C k r
 |none=>none
def jd(C:Cx):List Kf->Option Rs->Option Rs
 |[],r=>r
 |k::K,r=>jd C K (mP C k r)
def Zxj{C:Cx}:∀K,jd C K none=none
 |[]=>rfl
 |_::K=>Zxj K
structure bG (C:Cx) (K:List Kf) (r:Option Rs) (Q:Rs->Prop):Prop where
 ex:∃s,jd C K r=some s/\Q s
def je{C:Cx}{K K':List Kf}{r r':Option Rs}{Q:Rs->Prop}(h:jd C K r=jd C K' r'):bG C K r Q↔bG C K' r' Q:=
 ⟨fun ⟨s,e,q⟩=>⟨s,h▸e,q⟩,fun ⟨s,e,q⟩=>⟨s,h.symm▸e,q⟩⟩
def JF{C:Cx}{K:List Kf}{Q:Rs->Prop}:bG C K none Q↔False:=
 ⟨fun ⟨_,h,_⟩=>(by rw[Zxj]at h;cases h),fun h=>h.elim⟩
def Yob{C:Cx}{s:Rs}{Q:Rs->Prop}:bG C [] (some s) Q↔Q s:=
 ⟨fun ⟨_,h,q⟩=>by simp only[jd,al]at h;exact h▸q,fun q=>⟨s,rfl,q⟩⟩
structure Call (C:Cx) (g:V) (args:List V) (st:St) (P:V->St->Prop):Prop where
 ex:∃v aC,C.call g args st=some (v,aC)/\P v aC
structure Code (C:Cx) (ro:Option Nat) (c:bU) (fr:Fr) (st:St) (P:Ex->Fr->St->Prop):Prop where
 ex:∃e bE aC,C.code ro c fr st=some (e,bE,aC)/\P e bE aC
def CV(P:V->St->Prop):Rs->Prop
 |.val v st=>P v st
 |_=>False
def Xj(P:Ex->Fr->St->Prop):Rs->Prop
 |.ex e fr st=>P e fr st
 |_=>False
def Yhx{P:V->St->Prop}{v st}:CV P (.val v st)↔P v st:=Iff.rfl
def Ytv{P:Ex->Fr->St->Prop}{e fr st}:Xj P (.ex e fr st)↔P e fr st:=Iff.rfl
def aR{C:Cx}{g args st P}:Call C g args st P↔bG C [] (sP (C.call g args st)) (CV P):=by
 constructor
 ·rintro⟨v,aC,h,p⟩
  exact⟨.val v aC,by rw[h];rfl,p⟩
 ·rintro⟨s,h,q⟩
  cases hc:C.call g args st with
  |none=>rw[hc]at h;cases h
  |some r=>
   rw[hc]at h
   simp only[jd,sP,al]at h
   subst h
   exact⟨_,_,hc,q⟩
def bl{C:Cx}{ro c fr st P}:Code C ro c fr st P↔bG C [] (fj (C.code ro c fr st)) (Xj P):=by
 constructor
 ·rintro⟨e,bE,aC,h,p⟩
  exact⟨.ex e bE aC,by rw[h];rfl,p⟩
 ·rintro⟨s,h,q⟩
  cases hc:C.code ro c fr st with
  |none=>rw[hc]at h;cases h
  |some r=>
   rw[hc]at h
   simp only[jd,fj,al]at h
   subst h
   exact⟨_,_,_,hc,q⟩
def BB{C:Cx}{g args st P K Q}(h:Call C g args st P)(k:∀v aC,P v aC->bG C K (some (.val v aC)) Q):bG C K (sP (C.call g args st)) Q:=by
 obtain⟨v,aC,e,p⟩:=h.ex
 rw[e]
 exact k v aC p
def jy{C:Cx}{ro c fr st P K Q}(h:Code C ro c fr st P)(k:∀e bE aC,P e bE aC->bG C K (some (.ex e bE aC)) Q):bG C K (fj (C.code ro c fr st)) Q:=by
 obtain⟨e,bE,aC,h,p⟩:=h.ex
 rw[h]
 exact k e bE aC p
def Call.mono{C:Cx}{g args st}{P Q:V->St->Prop}(h:Call C g args st P)(k:∀v aC,P v aC->Q v aC):Call C g args st Q:=by
 obtain⟨v,aC,e,p⟩:=h.ex
 exact⟨v,aC,e,k v aC p⟩
def Ys6(I:Nat->Fr->St->Prop)(k:Nat)(P:Ex->Fr->St->Prop):Ex->Fr->St->Prop
 |.normal,fr,st=>∃k',k'<k/\I k' fr st
 |e,fr,st=>P e fr st
def Code.loop{C:Cx}{ro c}{P:Ex->Fr->St->Prop}{I:Nat->Fr->St->Prop}(h:∀k fr st,I k fr st->Code C ro c fr st (Ys6 I k P)):∀(k:Nat) (fr:Fr) (st:St),I k fr st->Code C ro (.loop c) fr st P:=by
 intro k
 induction k using Nat.strongRecOn with
 |_ k ih=>
  intro fr st hi
  obtain⟨e,bE,aC,h1,p⟩:=(h k fr st hi).ex
  have e1:C.code ro (.loop c) fr st=By c C.call C.code ro fr st:=Cx.dG ro (.loop c) fr st
  unfold By at e1
  rw[h1]at e1
  cases e with
  |normal=>
   obtain⟨k',hk,iB⟩:=p
   obtain⟨e2,BD,fh,h2,p2⟩:=(ih k' hk bE aC iB).ex
   exact⟨e2,BD,fh,e1.trans h2,p2⟩
  |exit id=>exact⟨_,_,_,e1,p⟩
  |ret=>exact⟨_,_,_,e1,p⟩
def Yiq{C:Cx}{ro c}{K:List Kf}{Q:Rs->Prop}{fr:Fr}{st:St}(P:Ex->Fr->St->Prop)(I:Nat->Fr->St->Prop)(k:Nat)(hi:I k fr st)(h:∀k fr st,I k fr st->Code C ro c fr st (Ys6 I k P))(q:∀e bE aC,P e bE aC->bG C K (some (.ex e bE aC)) Q):bG C K (fj (C.code ro (.loop c) fr st)) Q:=
 jy (Code.loop h k fr st hi) q
section
variable {C:Cx} {K:List Kf} {Q:Rs->Prop} {ro:Option Nat} {a b c:bU} {fr:Fr} {st:St}
def Yin:bG C K (fj (C.code ro .skip fr st)) Q↔bG C K (some (.ex .normal fr st)) Q:=je (by rw[Cx.dG];rfl)
def Yoa{ops}:bG C K (fj (C.code ro (.dN ops) fr st)) Q↔bG C (.dN::K) (BE (dE C.call ops fr st)) Q:=je (by
 rw[Cx.dG]
 show jd C K (fj (Ae ops C.call C.code ro fr st))=jd C K (mP C .dN (BE (dE C.call ops fr st)))
 unfold Ae
 rcases dE C.call ops fr st with _|⟨_,_⟩<;>rfl)
def Yip{ops ms}:bG C K (fj (C.code ro (.du ops ms) fr st)) Q↔bG C (.du ms::K) (Ax (bJ C.call ops fr st)) Q:=je (by
 rw[Cx.dG]
 show jd C K (fj (Af ops ms C.call C.code ro fr st))=jd C K (mP C (.du ms) (Ax (bJ C.call ops fr st)))
 unfold Af
 rcases bJ C.call ops fr st with _|⟨gO,_,_⟩
 ·rfl
 ·simp only[Ax,mP,tu]
  cases jH gO ms<;>rfl)
def Yn8:bG C K (fj (C.code ro (.seq a b) fr st)) Q↔bG C (.seq ro b::K) (fj (C.code ro a fr st)) Q:=je (by
 rw[Cx.dG]
 show jd C K (fj (Bv a b C.call C.code ro fr st))=jd C K (mP C (.seq ro b) (fj (C.code ro a fr st)))
 unfold Bv
 rcases C.code ro a fr st with _|⟨e,_,_⟩
 ·rfl
 ·cases e<;>rfl)
def QO(C:Cx)(ro:Option Nat)(a b:bU)(fr:Fr)(st:St):Option V->Option Rs
 |some (.bool true)=>fj (C.code ro a fr st)
 |some (.bool false)=>fj (C.code ro b fr st)
 |_=>none
def Yit{x}:bG C K (fj (C.code ro (.cond x a b) fr st)) Q↔bG C K (QO C ro a b fr st (x.ev fr.r)) Q:=je (by
 rw[Cx.dG]
 show jd C K (fj (yq x a b C.call C.code ro fr st))=_
 unfold yq QO
 rcases x.ev fr.r with _|v
 ·rfl
 ·cases v<;>try rfl
  rename_i b'
  cases b'<;>rfl)
def Yb2:QO C ro a b fr st (some (.bool true))=fj (C.code ro a fr st):=rfl
def Zwz:QO C ro a b fr st (some (.bool false))=fj (C.code ro b fr st):=rfl
def Ydj{id}:bG C K (fj (C.code ro (.block id a) fr st)) Q↔bG C (.block id::K) (fj (C.code ro a fr st)) Q:=je (by
 rw[Cx.dG]
 show jd C K (fj (Bw id a C.call C.code ro fr st))=jd C K (mP C (.block id) (fj (C.code ro a fr st)))
 unfold Bw
 rcases C.code ro a fr st with _|⟨e,_,_⟩
 ·rfl
 ·cases e with
  |exit Bx=>simp only[fj,mP,tu];cases Nat.beq Bx id<;>rfl
  |_=>rfl)
def Yis{id}:bG C K (fj (C.code ro (.exit id) fr st)) Q↔bG C K (some (.ex (.exit id) fr st)) Q:=je (by rw[Cx.dG];rfl)
def Ydi:bG C K (fj (C.code ro (.scope a) fr st)) Q↔bG C K (fj (C.code ro a fr st)) Q:=je (by rw[Cx.dG];rfl)
def Yn9:bG C K (fj (C.code ro .ret fr st)) Q↔bG C K (some (.ex .ret fr st)) Q:=je (by rw[Cx.dG];rfl)
def Zt0:bG C (.seq ro b::K) (some (.ex .normal fr st)) Q↔bG C K (fj (C.code ro b fr st)) Q:=je rfl
def Ya7{i}:bG C (.seq ro b::K) (some (.ex (.exit i) fr st)) Q↔bG C K (some (.ex (.exit i) fr st)) Q:=je rfl
def Yfk:bG C (.seq ro b::K) (some (.ex .ret fr st)) Q↔bG C K (some (.ex .ret fr st)) Q:=je rfl
def Zpz{i}:bG C (.block i::K) (some (.ex .normal fr st)) Q↔bG C K (some (.ex .normal fr st)) Q:=je rfl
def Zwj{i}:bG C (.block i::K) (some (.ex .ret fr st)) Q↔bG C K (some (.ex .ret fr st)) Q:=je rfl
def Zt1{i}:bG C (.block i::K) (some (.ex (.exit i) fr st)) Q↔bG C K (some (.ex .normal fr st)) Q:=je (by simp[jd,mP,tu,Nat.beq_refl])
def Zr9{i j}(h:Nat.beq j i=false):bG C (.block i::K) (some (.ex (.exit j) fr st)) Q↔bG C K (some (.ex (.exit j) fr st)) Q:=je (by simp[jd,mP,tu,h])
def Yv3:bG C (.dN::K) (some (.ops fr st)) Q↔bG C K (some (.ex .normal fr st)) Q:=je rfl
def Yow:BE (dE C.call [] fr st)=some (.ops fr st):=rfl
def Xk(C:Cx)(K:List Kf)(Q:Rs->Prop)(d:Option Nat)(op:gh)(ops:List dw)(fr:Fr)(st:St):Option Bool->Prop
 |some true=>bG C (.put d ops fr::K) (sP (cm op C.call fr.r st)) Q
 |some false=>bG C (.put d ops fr::K) (some (.val (.aX []) st)) Q
 |none=>False
def Yi9{d op g ops}:bG C K (BE (dE C.call (⟨d,op,g⟩::ops) fr st)) Q↔Xk C K Q d op ops fr st (bS fr.r g):=by
 have e:dE C.call (⟨d,op,g⟩::ops) fr st=Bq C.call ⟨d,op,g⟩ (dE C.call ops) fr st:=rfl
 rw[e]
 unfold Bq
 simp only[]
 rcases bS fr.r g with _|b
 ·exact JF
 ·cases b
  ·show _↔bG C (.put d ops fr::K) (some (.val (.aX []) st)) Q
   refine je ?_
   show _=jd C K (tu C (.put d ops fr) (.val (.aX []) st))
   simp only[tu]
   rcases fr.put d (.aX [])with _|_<;>rfl
  ·show _↔bG C (.put d ops fr::K) (sP (cm op C.call fr.r st)) Q
   refine je ?_
   show _=jd C K (mP C (.put d ops fr) (sP (cm op C.call fr.r st)))
   rcases cm op C.call fr.r st with _|⟨v,aC⟩
   ·rfl
   ·simp only[sP,mP,tu]
    rcases fr.put d v with _|_<;>rfl
def Yje{d op ops}:Xk C K Q d op ops fr st (some true)↔bG C (.put d ops fr::K) (sP (cm op C.call fr.r st)) Q:=Iff.rfl
def Yea{d op ops}:Xk C K Q d op ops fr st (some false)↔bG C (.put d ops fr::K) (some (.val (.aX []) st)) Q:=Iff.rfl
def Yci{v:V}:sP (some (v,st))=some (.val v st):=rfl
def Yv4{d n m r ops v}(h:d<n):bG C (.put (some d) ops ⟨r,n,m⟩::K) (some (.val v st)) Q↔bG C K (BE (dE C.call ops ⟨r.set d v,n,m⟩ st)) Q:=je (by simp[jd,mP,tu,Fr.put,h])
def Ya8{ops v}:bG C (.put none ops fr::K) (some (.val v st)) Q↔bG C K (BE (dE C.call ops fr st)) Q:=je rfl
def Yja:Ax (bJ C.call [] fr st)=some (.rz [] fr st):=rfl
def LF(C:Cx)(K:List Kf)(Q:Rs->Prop)(d:Option Nat)(op:gh)(ops:List dw)(fr:Fr)(h:T O)(n:Nat)(w:List Nat):Option Bool->Prop
 |some true=>bG C (.vP op d ops fr n w::K) (sP (cm op C.call fr.r ⟨h,n,[]⟩)) Q
 |some false=>bG C (.cons ⟨some [],[],n,n⟩::K) (match fr.put d (.aX [])with|some bE=>Ax (bJ C.call ops bE ⟨h,n,w⟩)|none=>none) Q
 |none=>False
def Yd8{d op g ops h n w}:bG C K (Ax (bJ C.call (⟨d,op,g⟩::ops) fr ⟨h,n,w⟩)) Q↔LF C K Q d op ops fr h n w (bS fr.r g):=by
 have e:bJ C.call (⟨d,op,g⟩::ops) fr ⟨h,n,w⟩=Br C.call ⟨d,op,g⟩ (bJ C.call ops) fr ⟨h,n,w⟩:=rfl
 rw[e]
 unfold Br
 simp only[]
 rcases bS fr.r g with _|b
 ·exact JF
 ·cases b
  ·show _↔bG C (.cons ⟨some [],[],n,n⟩::K) (match fr.put d (.aX [])with|some bE=>Ax (bJ C.call ops bE ⟨h,n,w⟩)|none=>none) Q
   refine je ?_
   show _=jd C K (mP C (.cons ⟨some [],[],n,n⟩) _)
   rcases fr.put d (.aX [])with _|bE
   ·rfl
   ·simp only[]
    rcases bJ C.call ops bE ⟨h,n,w⟩with _|⟨_,_,_⟩<;>rfl
  ·show _↔bG C (.vP op d ops fr n w::K) (sP (cm op C.call fr.r ⟨h,n,[]⟩)) Q
   refine je ?_
   show _=jd C K (mP C (.vP op d ops fr n w) (sP (cm op C.call fr.r ⟨h,n,[]⟩)))
   rcases cm op C.call fr.r ⟨h,n,[]⟩with _|⟨v,aC⟩
   ·rfl
   ·simp only[sP,mP,tu]
    rcases fr.put d v with _|bE
    ·rfl
    ·simp only[]
     rcases bJ C.call ops bE {aC with w:=ax n aC.w++w} with _|⟨_,_,_⟩<;>rfl
def Yeb{d op ops h n w}:LF C K Q d op ops fr h n w (some true)↔bG C (.vP op d ops fr n w::K) (sP (cm op C.call fr.r ⟨h,n,[]⟩)) Q:=Iff.rfl
def Yae{d n m r ops op h N w}(hd:d<n):LF C K Q (some d) op ops ⟨r,n,m⟩ h N w (some false)↔bG C (.cons ⟨some [],[],N,N⟩::K) (Ax (bJ C.call ops ⟨r.set d (.aX []),n,m⟩ ⟨h,N,w⟩)) Q:=by simp[LF,Fr.put,hd]
def Zvx{ops op h N w}:LF C K Q none op ops fr h N w (some false)↔bG C (.cons ⟨some [],[],N,N⟩::K) (Ax (bJ C.call ops fr ⟨h,N,w⟩)) Q:=Iff.rfl
def Ytd{op d n m r ops v N w h' n' w'}(h:d<n):bG C (.vP op (some d) ops ⟨r,n,m⟩ N w::K) (some (.val v ⟨h',n',w'⟩)) Q↔bG C (.cons (oY r op (ax N w') N n')::K) (Ax (bJ C.call ops ⟨r.set d v,n,m⟩ ⟨h',n',ax N w'++w⟩)) Q:=je (by
 simp only[jd,mP,tu,Fr.put,h,if_true]
 rcases bJ C.call ops _ _ with _|⟨_,_,_⟩<;>rfl)
def Zwi{op ops v N w h' n' w'}:bG C (.vP op none ops fr N w::K) (some (.val v ⟨h',n',w'⟩)) Q↔bG C (.cons (oY fr.r op (ax N w') N n')::K) (Ax (bJ C.call ops fr ⟨h',n',ax N w'++w⟩)) Q:=je (by
 simp only[jd,mP,tu,Fr.put]
 rcases bJ C.call ops _ _ with _|⟨_,_,_⟩<;>rfl)
def Yte{fp gO}:bG C (.cons fp::K) (some (.rz gO fr st)) Q↔bG C K (some (.rz (fp::gO) fr st)) Q:=je rfl
def IX{ms gO}(h:jH gO ms=true):bG C (.du ms::K) (some (.rz gO fr st)) Q↔bG C K (some (.ex .normal fr st)) Q:=je (by simp only[jd,mP,tu,h])
def Yir{g first gj args mf}(hx:C.x (.func g first gj) args st=none)(h:C.dK g=some mf)(hl:(first++args++gj).length<=mf.ntmps):bG C K (sP (C.call (.func g first gj) args st)) Q↔bG C (.fin mf.results st::K) (fj (C.code none mf.body ⟨ze .nil 0 (first++args++gj),mf.ntmps,[]⟩ ⟨st.h,st.n,[]⟩)) Q:=je (by
 rw[Cx.rm]
 unfold ti
 rw[hx]
 simp only[yr,h,CE,s_.2 hl,if_false]
 show _=jd C K (mP C (.fin mf.results st) _)
 unfold Wl
 rcases C.code none mf.body _ _ with _|⟨e,ec,bY⟩
 ·rfl
 ·cases e with
  |exit=>rfl
  |normal=>
   simp only[fj,mP,tu]
   rcases shut bY ec.marks with _|fh
   ·rfl
   ·simp only[]
    rcases gS ec.r fh mf.results with _|_<;>rfl
  |ret=>
   simp only[fj,mP,tu]
   rcases shut bY ec.marks with _|fh
   ·rfl
   ·simp only[]
    rcases gS ec.r fh mf.results with _|_<;>rfl)
def Xl(h:T O)(n:Nat)(w:List Nat):Option (List V)->Option Rs
 |some vs=>some (.val (Ej vs) ⟨h,n,w⟩)
 |none=>none
def Yf3{h n w vs}:Xl h n w (some vs)=some (.val (Ej vs) ⟨h,n,w⟩):=rfl
def Yfl{rs r n h1 n1 w1}:bG C (.fin rs st::K) (some (.ex .ret ⟨r,n,[]⟩ ⟨h1,n1,w1⟩)) Q↔bG C K (Xl h1 n1 (ax st.n w1++st.w) (gS r ⟨h1,n1,w1⟩ rs)) Q:=je (by
 simp only[jd,mP,tu,shut]
 rcases gS r ⟨h1,n1,w1⟩ rs with _|_<;>rfl)
def Yfm{rs r n h1 n1 w1}:bG C (.fin rs st::K) (some (.ex .normal ⟨r,n,[]⟩ ⟨h1,n1,w1⟩)) Q↔bG C K (Xl h1 n1 (ax st.n w1++st.w) (gS r ⟨h1,n1,w1⟩ rs)) Q:=je (by
 simp only[jd,mP,tu,shut]
 rcases gS r ⟨h1,n1,w1⟩ rs with _|_<;>rfl)
end
def Zwa(a):cm (.re a)=Jj a:=rfl
def Ztm(a b):cm (.jD a b)=Ee a b:=rfl
def Ztr(a):cm (.n_ a)=Gu a:=rfl
def Zv7(a b):cm (.g_ a b)=Jk a b:=rfl
def Yer:cm .xd=Jl:=rfl
def Yam(a b):cm (.vt a b)=Ef a b:=rfl
def Zv6(a b c d e f):cm (.jE a b c d e f)=Cv a b c d e f:=rfl
def Ztn(a b c):cm (.cj a b c)=zb a b c:=rfl
def Zv4(a b c d e):cm (.mK a b c d e)=po a b c d e:=rfl
def Zto(a b c d e f):cm (.jF a b c d e f)=Ac a b c d e f:=rfl
def Yar(a b c d e):cm (.vu a b c d e)=Jm a b c d e:=rfl
def Yaq(a b):cm (.bI a b)=Eh a b:=rfl
def Yao(a b c d e):cm (.lookup a b c d e)=Gz a b c d e:=rfl
def Yan(a b c d):cm (.vi a b c d)=Ei a b c d:=rfl
def Ztp(a):cm (.jG a)=GA a:=rfl
def Zv5(a):cm (.qY a)=GB a:=rfl
def Yap(a):cm (.vw a)=K9 a:=rfl
def Ype(a):cm (.cap a)=Jn a:=rfl
def Ys4(a):cm (.mn a)=zc a:=rfl
def Ys3(a):cm (.mx a)=ri a:=rfl
def Yat(a b c d e f):cm (.append a b c d e f)=Cy a b c d e f:=rfl
def Yjn(a b c):cm (.copy a b c)=Cz a b c:=rfl
def Yev(a b c):cm (.clear a b c)=Jo a b c:=rfl
def Ypa(a b):cm (.I9 a b)=CA a b:=rfl
def Yep(a):cm (.zU a)=Jp a:=rfl
def Yjk(a b c):cm (.F0 a b c)=Jq a b c:=rfl
def Ypd(a b):cm (.ext a b)=GD a b:=rfl
def Yqk{ng k x y}:xj ng (.bX k) x y=aG ng k x y:=by cases x<;>cases y<;>rfl
attribute [simp] Yob Yhx Ytv Yin Yoa Yip Yn8 Yit Yb2 Zwz Ydj Yis Ydi Yn9 Zt0 Ya7 Yfk Zpz Zwj Zt1 Yv3 Yow Yi9 Yje Yea Yci Yv4 Ya8
 Yja Yd8 Yeb Yae Zvx Ytd Zwi Yte IX Yf3 Yfl Yfm
 Zwa Ztm Ztr Zv7 Yer Yam Zv6 Ztn Zv4 Zto Yar Yaq Yao Yan Ztp Zv5 Yap Ype Ys4 Ys3 Yat Yjn Yev Ypa Yep Yjk Ypd Yqk
structure ab (h:T O) (n:Nat) (h':T O) (n':Nat):Prop where
 le:n<=n'
 get:∀i,i<n->h'.get i=h.get i
def ab.refl{h:T O}{n:Nat}:ab h n h n:=⟨aM _,fun _ _=>rfl⟩
def ab.trans{h h1 h2:T O}{n n1 n2:Nat}(a:ab h n h1 n1)(b:ab h1 n1 h2 n2):ab h n h2 n2:=
 ⟨k_ a.le b.le,fun i hi=>(b.get i (eX hi a.le)).trans (a.get i hi)⟩
def ab.set{h h1:T O}{n n1:Nat}{i:Nat}{o:O}(hi:n<=i)(a:ab h n h1 n1):ab h n (h1.set i o) n1:=
 ⟨a.le,fun j hj=>by rw[T.ag,ak (by omega)];exact a.get j hj⟩
def ab.up{h h1:T O}{n n1 n2:Nat}(a:ab h n h1 n1)(hn:n1<=n2):ab h n h1 n2:=⟨k_ a.le hn,a.get⟩
def aE(P:V->T O->Nat->Prop)(h:T O)(n:Nat)(w:List Nat)(v:V)(st:St):Prop:=st.w=w/\ab h n st.h st.n/\P v st.h st.n
abbrev Fn(C:Cx)(f:Nat)(args:List V)(h:T O)(n:Nat)(P:V->T O->Nat->Prop):Prop:=∀w,Call C (.func f [] []) args ⟨h,n,w⟩ (aE P h n w)
def aA{C:Cx}{f args h n w P K Q}(hf:Fn C f args h n P)(k:∀v h' n',ab h n h' n'->P v h' n'->bG C K (some (.val v ⟨h',n',w⟩)) Q):bG C K (sP (C.call (.func f [] []) args ⟨h,n,w⟩)) Q:=
 BB (hf w) fun v aC=>by
  obtain⟨h',n',w'⟩:=aC
  rintro⟨rfl,hk,hp⟩
  exact k v h' n' hk hp
def Zqo{N:Nat}:∀{w:List Nat},(∀i∈w,N<=i)->ax N w=[]
 |[],_=>rfl
 |i::w,h=>by
  have:=h i ph
  simp only[ax,s_.2 this,if_false]
  exact Zqo fun j hj=>h j (oU _ hj)
end
end Go.Mx
