/-Runs without a count of steps-/
import Derived.Test.YtlfdeoomaccciaaGreatDoorMxTab
set_option linter.all false
namespace Go.Mx
noncomputable section
open Go
def Le(a b:cD):Prop:=∀g args st r,a g args st=some r->b g args st=some r
def Qu{a b:cD}(h:Le a b)(op:gk)(r:T V)(st:St){o:V×St}(e:cj op a r st=some o):cj op b r st=some o:=by
 cases op<;>try exact e
 rename_i f args
 show zc f args b r st=some o
 have e:zc f args a r st=some o:=e
 unfold zc at e ⊢
 split at e
 ·exact h _ _ _ _ e
 ·cases e
def Lv{a b:cD}(h:Le a b):∀(ops:List dq) (fr:Fr) (st:St) {o:Fr×St},dw a ops fr st=some o->dw b ops fr st=some o
 |[],_,_,_,e=>e
 |q::ops,fr,st,o,e=>by
  have e:Bq a q (dw a ops) fr st=some o:=e
  show Bq b q (dw b ops) fr st=some o
  unfold Bq at e ⊢
  split at e
  ·split at e
   ·rename_i v az h1
    rw[Qu h _ _ _ h1]
    simp only[]
    split at e
    ·exact Lv h ops _ _ e
    ·cases e
   ·cases e
  ·split at e
   ·exact Lv h ops _ _ e
   ·cases e
  ·cases e
def Qv{a b:cD}(h:Le a b):∀(ops:List dq) (fr:Fr) (st:St) {o:List FP×Fr×St},bJ a ops fr st=some o->bJ b ops fr st=some o
 |[],_,_,_,e=>e
 |q::ops,fr,st,o,e=>by
  have e:Br a q (bJ a ops) fr st=some o:=e
  show Br b q (bJ b ops) fr st=some o
  unfold Br at e ⊢
  split at e
  ·split at e
   ·rename_i v az h1
    rw[Qu h _ _ _ h1]
    simp only[]
    split at e
    ·split at e
     ·rename_i h2
      rw[Qv h ops _ _ h2]
      exact e
     ·cases e
    ·cases e
   ·cases e
  ·split at e
   ·split at e
    ·rename_i h2
     rw[Qv h ops _ _ h2]
     exact e
    ·cases e
   ·cases e
  ·cases e
def ED(a b:qf):Prop:=∀ro c fr st r,a ro c fr st=some r->b ro c fr st=some r
def Zky{a b:cD}{p q:qf}(h:Le a b)(hc:ED p q)(ro:Option Nat)(c:bO)(fr:Fr)(st:St){o:Ex×Fr×St}(e:mR c a p ro fr st=some o):mR c b q ro fr st=some o:=by
 cases c with
 |skip=>exact e
 |dP ops=>
  have e:Ab ops a p ro fr st=some o:=e
  show Ab ops b q ro fr st=some o
  unfold Ab at e ⊢
  split at e
  ·rename_i h1;rw[Lv h _ _ _ h1];exact e
  ·cases e
 |dj ops ms=>
  have e:Ac ops ms a p ro fr st=some o:=e
  show Ac ops ms b q ro fr st=some o
  unfold Ac at e ⊢
  split at e
  ·rename_i h1;rw[Qv h _ _ _ h1];exact e
  ·cases e
 |yh dst ch send zero ops=>
  have e:Bu dst ch send zero ops a p ro fr st=some o:=e
  show Bu dst ch send zero ops b q ro fr st=some o
  unfold Bu at e ⊢
  split at e
  ·split at e
   ·split at e
    ·split at e
     ·rename_i h1;rw[Lv h _ _ _ h1];exact e
     ·cases e
    ·cases e
   ·cases e
  ·cases e
 |seq x y=>
  have e:Bv x y a p ro fr st=some o:=e
  show Bv x y b q ro fr st=some o
  unfold Bv at e ⊢
  split at e
  ·rename_i h1;rw[hc _ _ _ _ _ h1];exact hc _ _ _ _ _ e
  ·rename_i h1
   have:=hc _ _ _ _ _ e
   rw[this]
   rcases o with⟨_|_|_,_,_⟩
   ·exact absurd e (h1 _ _)
   ·rfl
   ·rfl
 |cond x y z=>
  have e:yn x y z a p ro fr st=some o:=e
  show yn x y z b q ro fr st=some o
  unfold yn at e ⊢
  split at e
  ·exact hc _ _ _ _ _ e
  ·exact hc _ _ _ _ _ e
  ·cases e
 |block id x=>
  have e:Bw id x a p ro fr st=some o:=e
  show Bw id x b q ro fr st=some o
  unfold Bw at e ⊢
  split at e
  ·rename_i h1;rw[hc _ _ _ _ _ h1];exact e
  ·rename_i h1
   have:=hc _ _ _ _ _ e
   rw[this]
   rcases o with⟨_|_|_,_,_⟩
   ·rfl
   ·exact absurd e (h1 _ _ _)
   ·rfl
 |loop x=>
  have e:By x a p ro fr st=some o:=e
  show By x b q ro fr st=some o
  unfold By at e ⊢
  split at e
  ·rename_i h1;rw[hc _ _ _ _ _ h1];exact hc _ _ _ _ _ e
  ·rename_i h1
   have:=hc _ _ _ _ _ e
   rw[this]
   rcases o with⟨_|_|_,_,_⟩
   ·exact absurd e (h1 _ _)
   ·rfl
   ·rfl
 |jf g ps x y=>
  have e:Ad g ps x y a p ro fr st=some o:=e
  show Ad g ps x y b q ro fr st=some o
  unfold Ad at e ⊢
  split at e
  ·cases e
  ·split at e
   ·cases e
   ·rename_i hy
    simp only[hy]
    split at e
    ·cases e
    ·split at e
     ·cases e
     ·rename_i h1;rw[h _ _ _ _ h1];exact e
 |exit id=>exact e
 |scope x=>exact hc _ _ _ _ _ e
 |ret=>exact e
 |stop=>exact e
def zG{a b:cD}(h:Le a b):∀(F F':Nat),F<=F'->ED (dK a F) (dK b F')
 |0,_,_=>fun _ _ _ _ _ e=>by cases e
 |F+1,0,hF=>by omega
 |F+1,F'+1,hF=>fun ro c fr st _ e=>Zky h (zG h F F' (by omega)) ro c fr st e
def Ztk{p q:qf}(h:ED p q){mf:lF}{args:List V}{st:St}{o:V×St}(e:Ca mf p args st=some o):Ca mf q args st=some o:=by
 unfold Ca at e ⊢
 split at e
 ·cases e
 ·rename_i h0
  rw[ak h0]
  cases h1:p none mf.body {r:=zd .nil 0 args,n:=mf.ntmps,marks:=[]} {st with w:=[]} with
  |none=>rw[h1]at e;cases e
  |some r=>rw[h1]at e;rw[h _ _ _ _ _ h1];exact e
def Zqz{p q:qf}(h:ED p q){l:Nat}{args:List V}{st:St}{o:V×St}(e:CD p l args st=some o):CD q l args st=some o:=by
 unfold CD at e ⊢
 split at e
 ·split at e
  ·cases e
  ·split at e
   ·rename_i h1
    rw[h _ _ _ _ _ h1]
    simp only[]
    split at e
    ·split at e
     ·rename_i hr
      rw[ay hr]
      split at e
      ·rename_i h2
       rw[h _ _ _ _ _ h2]
       exact e
      ·cases e
     ·cases e
    ·cases e
   ·cases e
 ·cases e
def WX{dE:Nat->Option lF}{p q:qf}(h:ED p q):Le (yb dE p) (yb dE q):=by
 intro g args st o e
 unfold yb at e ⊢
 split at e
 ·split at e
  ·exact Ztk h e
  ·cases e
 ·exact Zqz h e
 ·cases e
def Znq{x a b:cD}(h:Le a b):Le (sX x a) (sX x b):=by
 intro g args st o e
 unfold sX at e ⊢
 split at e
 ·exact e
 ·exact h _ _ _ _ e
def Qw{x:cD}{dE:Nat->Option lF}{F F':Nat}(hF:F<=F'):∀(d d':Nat),d<=d'->Le (yO x dE F d) (yO x dE F' d')
 |0,0,_=>fun _ _ _ _ e=>e
 |0,d'+1,_=>fun g args st o e=>by
  have e:x g args st=some o:=e
  show sX x _ g args st=some o
  unfold sX;rw[e]
 |d+1,0,h=>by omega
 |d+1,d'+1,h=>Znq (WX (zG (Qw hF d d' (by omega)) F F' hF))
structure Cx where
 x:cD
 dE:Nat->Option lF
def Cx.at(C:Cx)(N:Nat):cD:=yO C.x C.dE N N
def Cx.dS{C:Cx}{N M:Nat}(h:N<=M):Le (C.at N) (C.at M):=Qw h N M h
open Classical in
def Cx.call(C:Cx):cD:=fun g args st=>if h:∃r N,C.at N g args st=some r then some h.choose else none
def Cx.fA{C:Cx}{g args st r}:C.call g args st=some r↔∃N,C.at N g args st=some r:=by
 unfold Cx.call
 constructor
 ·intro h
  split at h
  ·rename_i hc
   simp only[aq]at h
   exact h▸hc.choose_spec
  ·cases h
 ·rintro⟨N,h⟩
  have hc:∃r N,C.at N g args st=some r:=⟨r,N,h⟩
  rw[dif_pos hc]
  obtain⟨M,hM⟩:=hc.choose_spec
  have h1:=Cx.dS (Cq N M) _ _ _ _ h
  have h2:=Cx.dS (Cn N M) _ _ _ _ hM
  rw[h1]at h2
  exact congrArg some (pc h2).symm
open Classical in
def Cx.code(C:Cx):qf:=fun ro c fr st=>if h:∃r F,dK C.call F ro c fr st=some r then some h.choose else none
def Cx.fB{C:Cx}{ro c fr st r}:C.code ro c fr st=some r↔∃F,dK C.call F ro c fr st=some r:=by
 unfold Cx.code
 constructor
 ·intro h
  split at h
  ·rename_i hc
   simp only[aq]at h
   exact h▸hc.choose_spec
  ·cases h
 ·rintro⟨N,h⟩
  have hc:∃r F,dK C.call F ro c fr st=some r:=⟨r,N,h⟩
  rw[dif_pos hc]
  obtain⟨M,hM⟩:=hc.choose_spec
  have h1:=zG (fun _ _ _ _ e=>e) N (max N M) (Cq N M) _ _ _ _ _ h
  have h2:=zG (fun _ _ _ _ e=>e) M (max N M) (Cn N M) _ _ _ _ _ hM
  rw[h1]at h2
  exact congrArg some (pc h2).symm
def Ycs{α:Type}{a b:Option α}(h:∀r,a=some r↔b=some r):a=b:=by
 cases a with
 |none=>cases b with
  |none=>rfl
  |some r=>exact absurd ((h r).2 rfl) (by simp)
 |some r=>exact((h r).1 rfl).symm
def Qx{a:cD}{p:qf}{q:Nat->qf}(hq:∀n m,n<=m->ED (q n) (q m))(hp:∀ro c fr st r,p ro c fr st=some r->∃n,q n ro c fr st=some r)(ro:Option Nat)(c:bO)(fr:Fr)(st:St){o:Ex×Fr×St}(e:mR c a p ro fr st=some o):∃n,mR c a (q n) ro fr st=some o:=by
 cases c with
 |skip=>exact⟨0,e⟩
 |dP ops=>exact⟨0,e⟩
 |dj ops ms=>exact⟨0,e⟩
 |yh dst ch send zero ops=>exact⟨0,e⟩
 |seq x y=>
  have e:Bv x y a p ro fr st=some o:=e
  show ∃n,Bv x y a (q n) ro fr st=some o
  unfold Bv at e ⊢
  split at e
  ·rename_i h1
   obtain⟨n,hn⟩:=hp _ _ _ _ _ h1
   obtain⟨m,hm⟩:=hp _ _ _ _ _ e
   refine⟨max n m,?_⟩
   rw[hq n _ (Cq n m) _ _ _ _ _ hn]
   exact hq m _ (Cn n m) _ _ _ _ _ hm
  ·rename_i h1
   obtain⟨n,hn⟩:=hp _ _ _ _ _ e
   refine⟨n,?_⟩
   rw[hn]
   rcases o with⟨_|_|_,_,_⟩
   ·exact absurd e (h1 _ _)
   ·rfl
   ·rfl
 |cond x y z=>
  have e:yn x y z a p ro fr st=some o:=e
  show ∃n,yn x y z a (q n) ro fr st=some o
  unfold yn at e ⊢
  split at e
  ·exact hp _ _ _ _ _ e
  ·exact hp _ _ _ _ _ e
  ·cases e
 |block id x=>
  have e:Bw id x a p ro fr st=some o:=e
  show ∃n,Bw id x a (q n) ro fr st=some o
  unfold Bw at e ⊢
  split at e
  ·rename_i h1
   obtain⟨n,hn⟩:=hp _ _ _ _ _ h1
   exact⟨n,by rw[hn];exact e⟩
  ·rename_i h1
   obtain⟨n,hn⟩:=hp _ _ _ _ _ e
   refine⟨n,?_⟩
   rw[hn]
   rcases o with⟨_|_|_,_,_⟩
   ·rfl
   ·exact absurd e (h1 _ _ _)
   ·rfl
 |loop x=>
  have e:By x a p ro fr st=some o:=e
  show ∃n,By x a (q n) ro fr st=some o
  unfold By at e ⊢
  split at e
  ·rename_i h1
   obtain⟨n,hn⟩:=hp _ _ _ _ _ h1
   obtain⟨m,hm⟩:=hp _ _ _ _ _ e
   refine⟨max n m,?_⟩
   rw[hq n _ (Cq n m) _ _ _ _ _ hn]
   exact hq m _ (Cn n m) _ _ _ _ _ hm
  ·rename_i h1
   obtain⟨n,hn⟩:=hp _ _ _ _ _ e
   refine⟨n,?_⟩
   rw[hn]
   rcases o with⟨_|_|_,_,_⟩
   ·exact absurd e (h1 _ _)
   ·rfl
   ·rfl
 |jf g ps x y=>exact⟨0,e⟩
 |exit id=>exact⟨0,e⟩
 |scope x=>exact hp _ _ _ _ _ e
 |ret=>exact⟨0,e⟩
 |stop=>exact⟨0,e⟩
def Cx.dh{C:Cx}(ro:Option Nat)(c:bO)(fr:Fr)(st:St):C.code ro c fr st=mR c C.call C.code ro fr st:=by
 apply Ycs
 intro r
 constructor
 ·intro h
  obtain⟨F,hF⟩:=Cx.fB.1 h
  cases F with
  |zero=>cases hF
  |succ F=>exact Zky (fun _ _ _ _ e=>e) (fun ro c fr st r e=>Cx.fB.2 ⟨F,e⟩) ro c fr st hF
 ·intro h
  obtain⟨n,hn⟩:=Qx (q:=dK C.call) (zG fun _ _ _ _ e=>e) (fun _ _ _ _ _ e=>Cx.fB.1 e) ro c fr st h
  exact Cx.fB.2 ⟨n+1,hn⟩
def Zxd{C:Cx}(op:gk)(r:T V)(st:St){o:V×St}(e:cj op C.call r st=some o):∃N,cj op (C.at N) r st=some o:=by
 cases op<;>try exact⟨0,e⟩
 rename_i f args
 have e:zc f args C.call r st=some o:=e
 show ∃N,zc f args (C.at N) r st=some o
 unfold zc at e ⊢
 split at e
 ·exact Cx.fA.1 e
 ·cases e
def Qy{C:Cx}:∀(ops:List dq) (fr:Fr) (st:St) {o:Fr×St},dw C.call ops fr st=some o->∃N,dw (C.at N) ops fr st=some o
 |[],_,_,_,e=>⟨0,e⟩
 |q::ops,fr,st,o,e=>by
  have e:Bq C.call q (dw C.call ops) fr st=some o:=e
  show ∃N,Bq (C.at N) q (dw (C.at N) ops) fr st=some o
  unfold Bq at e ⊢
  split at e
  ·split at e
   ·rename_i v az h1
    split at e
    ·obtain⟨N,hN⟩:=Zxd _ _ _ h1
     obtain⟨M,hM⟩:=Qy ops _ _ e
     refine⟨max N M,?_⟩
     rw[Qu (Cx.dS (Cq N M)) _ _ _ hN]
     rename_i h3
     simp only[h3]
     exact Lv (Cx.dS (Cn N M)) _ _ _ hM
    ·cases e
   ·cases e
  ·split at e
   ·exact Qy ops _ _ e
   ·cases e
  ·cases e
def WY{C:Cx}:∀(ops:List dq) (fr:Fr) (st:St) {o:List FP×Fr×St},bJ C.call ops fr st=some o->∃N,bJ (C.at N) ops fr st=some o
 |[],_,_,_,e=>⟨0,e⟩
 |q::ops,fr,st,o,e=>by
  have e:Br C.call q (bJ C.call ops) fr st=some o:=e
  show ∃N,Br (C.at N) q (bJ (C.at N) ops) fr st=some o
  unfold Br at e ⊢
  split at e
  ·split at e
   ·rename_i v az h1
    split at e
    ·rename_i h3
     split at e
     ·rename_i h2
      obtain⟨N,hN⟩:=Zxd _ _ _ h1
      obtain⟨M,hM⟩:=WY ops _ _ h2
      refine⟨max N M,?_⟩
      rw[Qu (Cx.dS (Cq N M)) _ _ _ hN]
      simp only[h3]
      rw[Qv (Cx.dS (Cn N M)) _ _ _ hM]
      exact e
     ·cases e
    ·cases e
   ·cases e
  ·split at e
   ·split at e
    ·rename_i h2
     obtain⟨M,hM⟩:=WY ops _ _ h2
     exact⟨M,by rw[hM];exact e⟩
    ·cases e
   ·cases e
  ·cases e
def Zp2{C:Cx}:∀(F:Nat) (ro:Option Nat) (c:bO) (fr:Fr) (st:St) {o:Ex×Fr×St},dK C.call F ro c fr st=some o->∃N,dK (C.at N) F ro c fr st=some o
 |0,_,_,_,_,_,e=>by cases e
 |F+1,ro,c,fr,st,o,e=>by
  have e:mR c C.call (dK C.call F) ro fr st=some o:=e
  show ∃N,mR c (C.at N) (dK (C.at N) F) ro fr st=some o
  have ih:=@Zp2 C F
  have up:∀{n m:Nat},n<=m->ED (dK (C.at n) F) (dK (C.at m) F):=fun h=>zG (Cx.dS h) F F (aQ _)
  cases c with
  |dP ops=>
   have e:Ab ops C.call (dK C.call F) ro fr st=some o:=e
   show ∃N,Ab ops (C.at N) (dK (C.at N) F) ro fr st=some o
   unfold Ab at e ⊢
   split at e
   ·rename_i h1
    obtain⟨N,hN⟩:=Qy _ _ _ h1
    exact⟨N,by rw[hN];exact e⟩
   ·cases e
  |dj ops ms=>
   have e:Ac ops ms C.call (dK C.call F) ro fr st=some o:=e
   show ∃N,Ac ops ms (C.at N) (dK (C.at N) F) ro fr st=some o
   unfold Ac at e ⊢
   split at e
   ·rename_i h1
    obtain⟨N,hN⟩:=WY _ _ _ h1
    exact⟨N,by rw[hN];exact e⟩
   ·cases e
  |yh dst ch send zero ops=>
   have e:Bu dst ch send zero ops C.call (dK C.call F) ro fr st=some o:=e
   show ∃N,Bu dst ch send zero ops (C.at N) (dK (C.at N) F) ro fr st=some o
   unfold Bu at e ⊢
   split at e
   ·split at e
    ·split at e
     ·split at e
      ·rename_i h1
       obtain⟨N,hN⟩:=Qy _ _ _ h1
       exact⟨N,by rw[hN];exact e⟩
      ·cases e
     ·cases e
    ·cases e
   ·cases e
  |jf g ps x y=>
   have e:Ad g ps x y C.call (dK C.call F) ro fr st=some o:=e
   show ∃N,Ad g ps x y (C.at N) (dK (C.at N) F) ro fr st=some o
   unfold Ad at e ⊢
   split at e
   ·cases e
   ·split at e
    ·cases e
    ·rename_i hy
     simp only[hy]
     split at e
     ·cases e
     ·split at e
      ·cases e
      ·rename_i h1
       obtain⟨N,hN⟩:=Cx.fA.1 h1
       exact⟨N,by rw[hN];exact e⟩
  |skip=>exact⟨0,e⟩
  |exit id=>exact⟨0,e⟩
  |ret=>exact⟨0,e⟩
  |stop=>cases e
  |scope x=>exact ih _ _ _ _ e
  |cond x y z=>
   have e:yn x y z C.call (dK C.call F) ro fr st=some o:=e
   show ∃N,yn x y z (C.at N) (dK (C.at N) F) ro fr st=some o
   unfold yn at e ⊢
   split at e
   ·exact ih _ _ _ _ e
   ·exact ih _ _ _ _ e
   ·cases e
  |seq x y=>exact Qx (a:=C.call) (q:=fun n=>dK (C.at n) F) (fun _ _ h=>up h) (fun _ _ _ _ _ e=>ih _ _ _ _ e) ro (.seq x y) fr st e
  |block id x=>exact Qx (a:=C.call) (q:=fun n=>dK (C.at n) F) (fun _ _ h=>up h) (fun _ _ _ _ _ e=>ih _ _ _ _ e) ro (.block id x) fr st e
  |loop x=>exact Qx (a:=C.call) (q:=fun n=>dK (C.at n) F) (fun _ _ h=>up h) (fun _ _ _ _ _ e=>ih _ _ _ _ e) ro (.loop x) fr st e
def Cx.pU{C:Cx}{ro c fr st r}(h:C.code ro c fr st=some r):∃N,dK (C.at N) N ro c fr st=some r:=by
 obtain⟨F,hF⟩:=Cx.fB.1 h
 obtain⟨N,hN⟩:=Zp2 F _ _ _ _ hF
 exact⟨max F N,zG (Cx.dS (Cn F N)) _ _ (Cq F N) _ _ _ _ _ hN⟩
def Zk0{dE:Nat->Option lF}{p:qf}{q:Nat->qf}(hq:∀n m,n<=m->ED (q n) (q m))(hp:∀ro c fr st r,p ro c fr st=some r->∃n,q n ro c fr st=some r){g args st}{o:V×St}(e:yb dE p g args st=some o):∃n,yb dE (q n) g args st=some o:=by
 unfold yb at e ⊢
 split at e
 ·split at e
  ·rename_i mf _
   unfold Ca at e ⊢
   split at e
   ·cases e
   ·rename_i h0
    simp only[h0,if_false]
    cases h1:p none mf.body {r:=zd .nil 0 _,n:=mf.ntmps,marks:=[]} {st with w:=[]} with
    |none=>rw[h1]at e;cases e
    |some r=>
     rw[h1]at e
     obtain⟨n,hn⟩:=hp _ _ _ _ _ h1
     exact⟨n,by rw[hn];exact e⟩
  ·cases e
 ·unfold CD at e ⊢
  split at e
  ·split at e
   ·cases e
   ·split at e
    ·rename_i h1
     obtain⟨n,hn⟩:=hp _ _ _ _ _ h1
     split at e
     ·split at e
      ·split at e
       ·rename_i h4 h5 _ _ _ _ h2
        obtain⟨m,hm⟩:=hp _ _ _ _ _ h2
        refine⟨max n m,?_⟩
        rw[hq n _ (Cq n m) _ _ _ _ _ hn]
        simp only[h4,h5,if_true]
        rw[hq m _ (Cn n m) _ _ _ _ _ hm]
        exact e
       ·cases e
      ·cases e
     ·cases e
    ·cases e
  ·cases e
 ·cases e
def Cx.mK{C:Cx}(g:V)(args:List V)(st:St):C.call g args st=sX C.x (yb C.dE C.code) g args st:=by
 apply Ycs
 intro r
 constructor
 ·intro h
  obtain⟨N,hN⟩:=Cx.fA.1 h
  cases N with
  |zero=>
   have e:C.x g args st=some r:=hN
   unfold sX;rw[e]
  |succ N=>
   refine Znq (x:=C.x) (WX (p:=dK (yO C.x C.dE (N+1) N) (N+1)) fun ro c fr st r e=>?_) _ _ _ _ hN
   refine Cx.fB.2 ⟨N+1,?_⟩
   refine zG (fun g args st r e=>?_) (N+1) (N+1) (aQ _) _ _ _ _ _ e
   exact Cx.fA.2 ⟨N+1,Qw (aQ _) N (N+1) (by omega) _ _ _ _ e⟩
 ·intro h
  unfold sX at h
  split at h
  ·rename_i r' e
   simp only[aq]at h
   subst h
   exact Cx.fA.2 ⟨0,e⟩
  ·rename_i hx
   obtain⟨N,hN⟩:=Zk0 (q:=fun n=>dK (C.at n) n) (fun n m h=>zG (Cx.dS h) n m h) (fun _ _ _ _ _ e=>Cx.pU e) h
   refine Cx.fA.2 ⟨N+1,?_⟩
   show sX C.x (yb C.dE (dK (yO C.x C.dE (N+1) N) (N+1))) g args st=some r
   unfold sX
   rw[hx]
   exact WX (zG (Qw (by omega) N N (aQ _)) N (N+1) (by omega)) _ _ _ _ hN
inductive Rs where
 |ex (e:Ex) (fr:Fr) (st:St)
 |val (v:V) (st:St)
 |ops (fr:Fr) (st:St)
 |rm (h_:List FP) (fr:Fr) (st:St)
inductive Kf where
 |seq (ro:Option Nat) (b:bO)
 |block (id:Nat)
 |loop (ro:Option Nat) (c:bO)
 |dP
 |put (d:Option Nat) (ops:List dq) (fr:Fr)
 |dj (ms:List Nat)
 |vT (op:gk) (d:Option Nat) (ops:List dq) (fr:Fr) (n:Nat) (w:List Nat)
 |cons (fp:FP)
 |fin (rs:List DX) (st:St)
def eJ:Option (Ex×Fr×St)->Option Rs
 |some (e,fr,st)=>some (.ex e fr st)
 |none=>none
def tc:Option (V×St)->Option Rs
 |some (v,st)=>some (.val v st)
 |none=>none
def BD:Option (Fr×St)->Option Rs
 |some (fr,st)=>some (.ops fr st)
 |none=>none
def Av:Option (List FP×Fr×St)->Option Rs
 |some (h_,fr,st)=>some (.rm h_ fr st)
 |none=>none
def rn(C:Cx):Kf->Rs->Option Rs
 |.seq ro b,.ex .normal fr st=>eJ (C.code ro b fr st)
 |.seq _ _,.ex e fr st=>some (.ex e fr st)
 |.block id,.ex (.exit Bx) fr st=>match Nat.beq Bx id with
  |true=>some (.ex .normal fr st)
  |false=>some (.ex (.exit Bx) fr st)
 |.block _,.ex e fr st=>some (.ex e fr st)
 |.loop ro c,.ex .normal fr st=>eJ (C.code ro (.loop c) fr st)
 |.loop _ _,.ex e fr st=>some (.ex e fr st)
 |.dP,.ops fr st=>some (.ex .normal fr st)
 |.put d ops fr,.val v st=>match fr.put d v with
  |some fr=>BD (dw C.call ops fr st)
  |none=>none
 |.dj ms,.rm h_ fr st=>match jK h_ ms with
  |true=>some (.ex .normal fr st)
  |false=>none
 |.vT op d ops fr n w,.val v az=>match fr.put d v with
  |some bE=>match bJ C.call ops bE {az with w:=av n az.w++w} with
   |some (h_,fr'',st'')=>some (.rm (po fr.r op (av n az.w) n az.n::h_) fr'' st'')
   |none=>none
  |none=>none
 |.cons fp,.rm h_ fr st=>some (.rm (fp::h_) fr st)
 |.fin _ _,.ex (.exit _) _ _=>none
 |.fin rs Lw,.ex _ fr bS=>match shut bS fr.marks with
  |none=>none
  |some eI=>match fz fr.r eI rs with
   |some vs=>some (.val (Ei vs) {eI with w:=av Lw.n eI.w++Lw.w})
   |none=>none
 |_,_=>none
def lK(C:Cx)(k:Kf):Option Rs->Option Rs
 |some r=>rn C k r
 |none=>none
def iR(C:Cx):List Kf->Option Rs->Option Rs
 |[],r=>r
 |k::K,r=>iR C K (lK C k r)
def Zwn{C:Cx}:∀K,iR C K none=none
 |[]=>rfl
 |_::K=>Zwn K
structure bA (C:Cx) (K:List Kf) (r:Option Rs) (Q:Rs->Prop):Prop where
 ex:∃s,iR C K r=some s/\Q s
def jb{C:Cx}{K K':List Kf}{r r':Option Rs}{Q:Rs->Prop}(h:iR C K r=iR C K' r'):bA C K r Q↔bA C K' r' Q:=
 ⟨fun ⟨s,e,q⟩=>⟨s,h▸e,q⟩,fun ⟨s,e,q⟩=>⟨s,h.symm▸e,q⟩⟩
def JH{C:Cx}{K:List Kf}{Q:Rs->Prop}:bA C K none Q↔False:=
 ⟨fun ⟨_,h,_⟩=>(by rw[Zwn]at h;cases h),fun h=>h.elim⟩
def Ymq{C:Cx}{s:Rs}{Q:Rs->Prop}:bA C [] (some s) Q↔Q s:=
 ⟨fun ⟨_,h,q⟩=>by simp only[iR,aq]at h;exact h▸q,fun q=>⟨s,rfl,q⟩⟩
structure Call (C:Cx) (g:V) (args:List V) (st:St) (P:V->St->Prop):Prop where
 ex:∃v az,C.call g args st=some (v,az)/\P v az
structure Code (C:Cx) (ro:Option Nat) (c:bO) (fr:Fr) (st:St) (P:Ex->Fr->St->Prop):Prop where
 ex:∃e bE az,C.code ro c fr st=some (e,bE,az)/\P e bE az
def CR(P:V->St->Prop):Rs->Prop
 |.val v st=>P v st
 |_=>False
def WZ(P:Ex->Fr->St->Prop):Rs->Prop
 |.ex e fr st=>P e fr st
 |_=>False
def Yge{P:V->St->Prop}{v st}:CR P (.val v st)↔P v st:=Iff.rfl
def Yr4{P:Ex->Fr->St->Prop}{e fr st}:WZ P (.ex e fr st)↔P e fr st:=Iff.rfl
def aN{C:Cx}{g args st P}:Call C g args st P↔bA C [] (tc (C.call g args st)) (CR P):=by
 constructor
 ·rintro⟨v,az,h,p⟩
  exact⟨.val v az,by rw[h];rfl,p⟩
 ·rintro⟨s,h,q⟩
  cases hc:C.call g args st with
  |none=>rw[hc]at h;cases h
  |some r=>
   rw[hc]at h
   simp only[iR,tc,aq]at h
   subst h
   exact⟨_,_,hc,q⟩
def bk{C:Cx}{ro c fr st P}:Code C ro c fr st P↔bA C [] (eJ (C.code ro c fr st)) (WZ P):=by
 constructor
 ·rintro⟨e,bE,az,h,p⟩
  exact⟨.ex e bE az,by rw[h];rfl,p⟩
 ·rintro⟨s,h,q⟩
  cases hc:C.code ro c fr st with
  |none=>rw[hc]at h;cases h
  |some r=>
   rw[hc]at h
   simp only[iR,eJ,aq]at h
   subst h
   exact⟨_,_,_,hc,q⟩
def Ag{C:Cx}{g args st P K Q}(h:Call C g args st P)(k:∀v az,P v az->bA C K (some (.val v az)) Q):bA C K (tc (C.call g args st)) Q:=by
 obtain⟨v,az,e,p⟩:=h.ex
 rw[e]
 exact k v az p
def mi{C:Cx}{ro c fr st P K Q}(h:Code C ro c fr st P)(k:∀e bE az,P e bE az->bA C K (some (.ex e bE az)) Q):bA C K (eJ (C.code ro c fr st)) Q:=by
 obtain⟨e,bE,az,h,p⟩:=h.ex
 rw[h]
 exact k e bE az p
def Call.mono{C:Cx}{g args st}{P Q:V->St->Prop}(h:Call C g args st P)(k:∀v az,P v az->Q v az):Call C g args st Q:=by
 obtain⟨v,az,e,p⟩:=h.ex
 exact⟨v,az,e,k v az p⟩
def Yrl(I:Nat->Fr->St->Prop)(k:Nat)(P:Ex->Fr->St->Prop):Ex->Fr->St->Prop
 |.normal,fr,st=>∃k',k'<k/\I k' fr st
 |e,fr,st=>P e fr st
def Code.loop{C:Cx}{ro c}{P:Ex->Fr->St->Prop}{I:Nat->Fr->St->Prop}(h:∀k fr st,I k fr st->Code C ro c fr st (Yrl I k P)):∀(k:Nat) (fr:Fr) (st:St),I k fr st->Code C ro (.loop c) fr st P:=by
 intro k
 induction k using Nat.strongRecOn with
 |_ k ih=>
  intro fr st hi
  obtain⟨e,bE,az,h1,p⟩:=(h k fr st hi).ex
  have e1:C.code ro (.loop c) fr st=By c C.call C.code ro fr st:=Cx.dh ro (.loop c) fr st
  unfold By at e1
  rw[h1]at e1
  cases e with
  |normal=>
   obtain⟨k',hk,iK⟩:=p
   obtain⟨e2,Au,eI,h2,p2⟩:=(ih k' hk bE az iK).ex
   exact⟨e2,Au,eI,e1.trans h2,p2⟩
  |exit id=>exact⟨_,_,_,e1,p⟩
  |ret=>exact⟨_,_,_,e1,p⟩
def Yg4{C:Cx}{ro c}{K:List Kf}{Q:Rs->Prop}{fr:Fr}{st:St}(P:Ex->Fr->St->Prop)(I:Nat->Fr->St->Prop)(k:Nat)(hi:I k fr st)(h:∀k fr st,I k fr st->Code C ro c fr st (Yrl I k P))(q:∀e bE az,P e bE az->bA C K (some (.ex e bE az)) Q):bA C K (eJ (C.code ro (.loop c) fr st)) Q:=
 mi (Code.loop h k fr st hi) q
section
variable {C:Cx} {K:List Kf} {Q:Rs->Prop} {ro:Option Nat} {a b c:bO} {fr:Fr} {st:St}
def Yg1:bA C K (eJ (C.code ro .skip fr st)) Q↔bA C K (some (.ex .normal fr st)) Q:=jb (by rw[Cx.dh];rfl)
def Ymp{ops}:bA C K (eJ (C.code ro (.dP ops) fr st)) Q↔bA C (.dP::K) (BD (dw C.call ops fr st)) Q:=jb (by
 rw[Cx.dh]
 show iR C K (eJ (Ab ops C.call C.code ro fr st))=iR C K (lK C .dP (BD (dw C.call ops fr st)))
 unfold Ab
 rcases dw C.call ops fr st with _|⟨_,_⟩<;>rfl)
def Yg3{ops ms}:bA C K (eJ (C.code ro (.dj ops ms) fr st)) Q↔bA C (.dj ms::K) (Av (bJ C.call ops fr st)) Q:=jb (by
 rw[Cx.dh]
 show iR C K (eJ (Ac ops ms C.call C.code ro fr st))=iR C K (lK C (.dj ms) (Av (bJ C.call ops fr st)))
 unfold Ac
 rcases bJ C.call ops fr st with _|⟨h_,_,_⟩
 ·rfl
 ·simp only[Av,lK,rn]
  cases jK h_ ms<;>rfl)
def Ymn:bA C K (eJ (C.code ro (.seq a b) fr st)) Q↔bA C (.seq ro b::K) (eJ (C.code ro a fr st)) Q:=jb (by
 rw[Cx.dh]
 show iR C K (eJ (Bv a b C.call C.code ro fr st))=iR C K (lK C (.seq ro b) (eJ (C.code ro a fr st)))
 unfold Bv
 rcases C.code ro a fr st with _|⟨e,_,_⟩
 ·rfl
 ·cases e<;>rfl)
def Qz(C:Cx)(ro:Option Nat)(a b:bO)(fr:Fr)(st:St):Option V->Option Rs
 |some (.bool true)=>eJ (C.code ro a fr st)
 |some (.bool false)=>eJ (C.code ro b fr st)
 |_=>none
def Yg7{x}:bA C K (eJ (C.code ro (.cond x a b) fr st)) Q↔bA C K (Qz C ro a b fr st (x.ev fr.r)) Q:=jb (by
 rw[Cx.dh]
 show iR C K (eJ (yn x a b C.call C.code ro fr st))=_
 unfold yn Qz
 rcases x.ev fr.r with _|v
 ·rfl
 ·cases v<;>try rfl
  rename_i b'
  cases b'<;>rfl)
def Yaz:Qz C ro a b fr st (some (.bool true))=eJ (C.code ro a fr st):=rfl
def Zv7:Qz C ro a b fr st (some (.bool false))=eJ (C.code ro b fr st):=rfl
def Ycc{id}:bA C K (eJ (C.code ro (.block id a) fr st)) Q↔bA C (.block id::K) (eJ (C.code ro a fr st)) Q:=jb (by
 rw[Cx.dh]
 show iR C K (eJ (Bw id a C.call C.code ro fr st))=iR C K (lK C (.block id) (eJ (C.code ro a fr st)))
 unfold Bw
 rcases C.code ro a fr st with _|⟨e,_,_⟩
 ·rfl
 ·cases e with
  |exit Bx=>simp only[eJ,lK,rn];cases Nat.beq Bx id<;>rfl
  |_=>rfl)
def Yg6{id}:bA C K (eJ (C.code ro (.exit id) fr st)) Q↔bA C K (some (.ex (.exit id) fr st)) Q:=jb (by rw[Cx.dh];rfl)
def Ycb:bA C K (eJ (C.code ro (.scope a) fr st)) Q↔bA C K (eJ (C.code ro a fr st)) Q:=jb (by rw[Cx.dh];rfl)
def Ymo:bA C K (eJ (C.code ro .ret fr st)) Q↔bA C K (some (.ex .ret fr st)) Q:=jb (by rw[Cx.dh];rfl)
def Ztc:bA C (.seq ro b::K) (some (.ex .normal fr st)) Q↔bA C K (eJ (C.code ro b fr st)) Q:=jb rfl
def Zz3{i}:bA C (.seq ro b::K) (some (.ex (.exit i) fr st)) Q↔bA C K (some (.ex (.exit i) fr st)) Q:=jb rfl
def Yd1:bA C (.seq ro b::K) (some (.ex .ret fr st)) Q↔bA C K (some (.ex .ret fr st)) Q:=jb rfl
def Zo5{i}:bA C (.block i::K) (some (.ex .normal fr st)) Q↔bA C K (some (.ex .normal fr st)) Q:=jb rfl
def Zvs{i}:bA C (.block i::K) (some (.ex .ret fr st)) Q↔bA C K (some (.ex .ret fr st)) Q:=jb rfl
def Ztd{i}:bA C (.block i::K) (some (.ex (.exit i) fr st)) Q↔bA C K (some (.ex .normal fr st)) Q:=jb (by simp[iR,lK,rn,Nat.beq_refl])
def Zrf{i j}(h:Nat.beq j i=false):bA C (.block i::K) (some (.ex (.exit j) fr st)) Q↔bA C K (some (.ex (.exit j) fr st)) Q:=jb (by simp[iR,lK,rn,h])
def Yue:bA C (.dP::K) (some (.ops fr st)) Q↔bA C K (some (.ex .normal fr st)) Q:=jb rfl
def Ynb:BD (dw C.call [] fr st)=some (.ops fr st):=rfl
def W7(C:Cx)(K:List Kf)(Q:Rs->Prop)(d:Option Nat)(op:gk)(ops:List dq)(fr:Fr)(st:St):Option Bool->Prop
 |some true=>bA C (.put d ops fr::K) (tc (cj op C.call fr.r st)) Q
 |some false=>bA C (.put d ops fr::K) (some (.val (.aV []) st)) Q
 |none=>False
def Yht{d op g ops}:bA C K (BD (dw C.call (⟨d,op,g⟩::ops) fr st)) Q↔W7 C K Q d op ops fr st (bR fr.r g):=by
 have e:dw C.call (⟨d,op,g⟩::ops) fr st=Bq C.call ⟨d,op,g⟩ (dw C.call ops) fr st:=rfl
 rw[e]
 unfold Bq
 simp only[]
 rcases bR fr.r g with _|b
 ·exact JH
 ·cases b
  ·show _↔bA C (.put d ops fr::K) (some (.val (.aV []) st)) Q
   refine jb ?_
   show _=iR C K (rn C (.put d ops fr) (.val (.aV []) st))
   simp only[rn]
   rcases fr.put d (.aV [])with _|_<;>rfl
  ·show _↔bA C (.put d ops fr::K) (tc (cj op C.call fr.r st)) Q
   refine jb ?_
   show _=iR C K (lK C (.put d ops fr) (tc (cj op C.call fr.r st)))
   rcases cj op C.call fr.r st with _|⟨v,az⟩
   ·rfl
   ·simp only[tc,lK,rn]
    rcases fr.put d v with _|_<;>rfl
def Yhy{d op ops}:W7 C K Q d op ops fr st (some true)↔bA C (.put d ops fr::K) (tc (cj op C.call fr.r st)) Q:=Iff.rfl
def Ycx{d op ops}:W7 C K Q d op ops fr st (some false)↔bA C (.put d ops fr::K) (some (.val (.aV []) st)) Q:=Iff.rfl
def Ybi{v:V}:tc (some (v,st))=some (.val v st):=rfl
def Yuf{d n m r ops v}(h:d<n):bA C (.put (some d) ops ⟨r,n,m⟩::K) (some (.val v st)) Q↔bA C K (BD (dw C.call ops ⟨r.set d v,n,m⟩ st)) Q:=jb (by simp[iR,lK,rn,Fr.put,h])
def Zz4{ops v}:bA C (.put none ops fr::K) (some (.val v st)) Q↔bA C K (BD (dw C.call ops fr st)) Q:=jb rfl
def Yhu:Av (bJ C.call [] fr st)=some (.rm [] fr st):=rfl
def Lx(C:Cx)(K:List Kf)(Q:Rs->Prop)(d:Option Nat)(op:gk)(ops:List dq)(fr:Fr)(h:T O)(n:Nat)(w:List Nat):Option Bool->Prop
 |some true=>bA C (.vT op d ops fr n w::K) (tc (cj op C.call fr.r ⟨h,n,[]⟩)) Q
 |some false=>bA C (.cons ⟨some [],[],n,n⟩::K) (match fr.put d (.aV [])with|some bE=>Av (bJ C.call ops bE ⟨h,n,w⟩)|none=>none) Q
 |none=>False
def Ycv{d op g ops h n w}:bA C K (Av (bJ C.call (⟨d,op,g⟩::ops) fr ⟨h,n,w⟩)) Q↔Lx C K Q d op ops fr h n w (bR fr.r g):=by
 have e:bJ C.call (⟨d,op,g⟩::ops) fr ⟨h,n,w⟩=Br C.call ⟨d,op,g⟩ (bJ C.call ops) fr ⟨h,n,w⟩:=rfl
 rw[e]
 unfold Br
 simp only[]
 rcases bR fr.r g with _|b
 ·exact JH
 ·cases b
  ·show _↔bA C (.cons ⟨some [],[],n,n⟩::K) (match fr.put d (.aV [])with|some bE=>Av (bJ C.call ops bE ⟨h,n,w⟩)|none=>none) Q
   refine jb ?_
   show _=iR C K (lK C (.cons ⟨some [],[],n,n⟩) _)
   rcases fr.put d (.aV [])with _|bE
   ·rfl
   ·simp only[]
    rcases bJ C.call ops bE ⟨h,n,w⟩with _|⟨_,_,_⟩<;>rfl
  ·show _↔bA C (.vT op d ops fr n w::K) (tc (cj op C.call fr.r ⟨h,n,[]⟩)) Q
   refine jb ?_
   show _=iR C K (lK C (.vT op d ops fr n w) (tc (cj op C.call fr.r ⟨h,n,[]⟩)))
   rcases cj op C.call fr.r ⟨h,n,[]⟩with _|⟨v,az⟩
   ·rfl
   ·simp only[tc,lK,rn]
    rcases fr.put d v with _|bE
    ·rfl
    ·simp only[]
     rcases bJ C.call ops bE {az with w:=av n az.w++w} with _|⟨_,_,_⟩<;>rfl
def Ycy{d op ops h n w}:Lx C K Q d op ops fr h n w (some true)↔bA C (.vT op d ops fr n w::K) (tc (cj op C.call fr.r ⟨h,n,[]⟩)) Q:=Iff.rfl
def Zza{d n m r ops op h N w}(hd:d<n):Lx C K Q (some d) op ops ⟨r,n,m⟩ h N w (some false)↔bA C (.cons ⟨some [],[],N,N⟩::K) (Av (bJ C.call ops ⟨r.set d (.aV []),n,m⟩ ⟨h,N,w⟩)) Q:=by simp[Lx,Fr.put,hd]
def Zu7{ops op h N w}:Lx C K Q none op ops fr h N w (some false)↔bA C (.cons ⟨some [],[],N,N⟩::K) (Av (bJ C.call ops fr ⟨h,N,w⟩)) Q:=Iff.rfl
def Yrp{op d n m r ops v N w h' n' w'}(h:d<n):bA C (.vT op (some d) ops ⟨r,n,m⟩ N w::K) (some (.val v ⟨h',n',w'⟩)) Q↔bA C (.cons (po r op (av N w') N n')::K) (Av (bJ C.call ops ⟨r.set d v,n,m⟩ ⟨h',n',av N w'++w⟩)) Q:=jb (by
 simp only[iR,lK,rn,Fr.put,h,if_true]
 rcases bJ C.call ops _ _ with _|⟨_,_,_⟩<;>rfl)
def Zvr{op ops v N w h' n' w'}:bA C (.vT op none ops fr N w::K) (some (.val v ⟨h',n',w'⟩)) Q↔bA C (.cons (po fr.r op (av N w') N n')::K) (Av (bJ C.call ops fr ⟨h',n',av N w'++w⟩)) Q:=jb (by
 simp only[iR,lK,rn,Fr.put]
 rcases bJ C.call ops _ _ with _|⟨_,_,_⟩<;>rfl)
def Yrq{fp h_}:bA C (.cons fp::K) (some (.rm h_ fr st)) Q↔bA C K (some (.rm (fp::h_) fr st)) Q:=jb rfl
def G9{ms h_}(h:jK h_ ms=true):bA C (.dj ms::K) (some (.rm h_ fr st)) Q↔bA C K (some (.ex .normal fr st)) Q:=jb (by simp only[iR,lK,rn,h])
def Yg5{g first gl args mf}(hx:C.x (.func g first gl) args st=none)(h:C.dE g=some mf)(hl:(first++args++gl).length<=mf.ntmps):bA C K (tc (C.call (.func g first gl) args st)) Q↔bA C (.fin mf.results st::K) (eJ (C.code none mf.body ⟨zd .nil 0 (first++args++gl),mf.ntmps,[]⟩ ⟨st.h,st.n,[]⟩)) Q:=jb (by
 rw[Cx.mK]
 unfold sX
 rw[hx]
 simp only[yb,h,Ca,tr.2 hl,if_false]
 show _=iR C K (lK C (.fin mf.results st) _)
 unfold V7
 rcases C.code none mf.body _ _ with _|⟨e,dT,bS⟩
 ·rfl
 ·cases e with
  |exit=>rfl
  |normal=>
   simp only[eJ,lK,rn]
   rcases shut bS dT.marks with _|eI
   ·rfl
   ·simp only[]
    rcases fz dT.r eI mf.results with _|_<;>rfl
  |ret=>
   simp only[eJ,lK,rn]
   rcases shut bS dT.marks with _|eI
   ·rfl
   ·simp only[]
    rcases fz dT.r eI mf.results with _|_<;>rfl)
def QA(h:T O)(n:Nat)(w:List Nat):Option (List V)->Option Rs
 |some vs=>some (.val (Ei vs) ⟨h,n,w⟩)
 |none=>none
def Yeg{h n w vs}:QA h n w (some vs)=some (.val (Ei vs) ⟨h,n,w⟩):=rfl
def Yd2{rs r n h1 n1 w1}:bA C (.fin rs st::K) (some (.ex .ret ⟨r,n,[]⟩ ⟨h1,n1,w1⟩)) Q↔bA C K (QA h1 n1 (av st.n w1++st.w) (fz r ⟨h1,n1,w1⟩ rs)) Q:=jb (by
 simp only[iR,lK,rn,shut]
 rcases fz r ⟨h1,n1,w1⟩ rs with _|_<;>rfl)
def Yd3{rs r n h1 n1 w1}:bA C (.fin rs st::K) (some (.ex .normal ⟨r,n,[]⟩ ⟨h1,n1,w1⟩)) Q↔bA C K (QA h1 n1 (av st.n w1++st.w) (fz r ⟨h1,n1,w1⟩ rs)) Q:=jb (by
 simp only[iR,lK,rn,shut]
 rcases fz r ⟨h1,n1,w1⟩ rs with _|_<;>rfl)
end
def Zvl(a):cj (.q_ a)=Jl a:=rfl
def Zs0(a b):cj (.jG a b)=Ed a b:=rfl
def Zs5(a):cj (.oo a)=GA a:=rfl
def Zvi(a b):cj (.iz a b)=Jm a b:=rfl
def Ydc:cj .xe=Jn:=rfl
def Zzi(a b):cj (.vz a b)=Ee a b:=rfl
def Zvh(a b c d e f):cj (.jH a b c d e f)=Cv a b c d e f:=rfl
def Zs1(a b c):cj (.cg a b c)=za a b c:=rfl
def Zvf(a b c d e):cj (.mQ a b c d e)=qe a b c d e:=rfl
def Zs2(a b c d e f):cj (.jI a b c d e f)=z_ a b c d e f:=rfl
def Zzn(a b c d e):cj (.vA a b c d e)=Jo a b c d e:=rfl
def Zzm(a b):cj (.bI a b)=Eg a b:=rfl
def Zzk(a b c d e):cj (.lookup a b c d e)=GF a b c d e:=rfl
def Zzj(a b c d):cj (.vk a b c d)=Eh a b c d:=rfl
def Zs3(a):cj (.jJ a)=GG a:=rfl
def Zvg(a):cj (.qV a)=GH a:=rfl
def Zzl(a):cj (.vC a)=K6 a:=rfl
def Yns(a):cj (.cap a)=Jp a:=rfl
def Yrj(a):cj (.mn a)=zb a:=rfl
def Yri(a):cj (.mx a)=rb a:=rfl
def Zzp(a b c d e f):cj (.append a b c d e f)=Cy a b c d e f:=rfl
def Yh7(a b c):cj (.copy a b c)=Cz a b c:=rfl
def Ydg(a b c):cj (.clear a b c)=Jq a b c:=rfl
def Yno(a b):cj (.Ja a b)=CA a b:=rfl
def Yda(a):cj (.zQ a)=Jr a:=rfl
def Yh4(a b c):cj (.Gb a b c)=Js a b c:=rfl
def Ynr(a b):cj (.ext a b)=GJ a b:=rfl
def Yot{ng k x y}:xj ng (.bX k) x y=aE ng k x y:=by cases x<;>cases y<;>rfl
attribute [simp] Ymq Yge Yr4 Yg1 Ymp Yg3 Ymn Yg7 Yaz Zv7 Ycc Yg6 Ycb Ymo Ztc Zz3 Yd1 Zo5 Zvs Ztd Yue Ynb Yht Yhy Ycx Ybi Yuf Zz4
 Yhu Ycv Ycy Zza Zu7 Yrp Zvr Yrq G9 Yeg Yd2 Yd3
 Zvl Zs0 Zs5 Zvi Ydc Zzi Zvh Zs1 Zvf Zs2 Zzn Zzm Zzk Zzj Zs3 Zvg Zzl Yns Yrj Yri Zzp Yh7 Ydg Yno Yda Yh4 Ynr Yot
structure ab (h:T O) (n:Nat) (h':T O) (n':Nat):Prop where
 le:n<=n'
 get:∀i,i<n->h'.get i=h.get i
def ab.refl{h:T O}{n:Nat}:ab h n h n:=⟨aQ _,fun _ _=>rfl⟩
def ab.trans{h h1 h2:T O}{n n1 n2:Nat}(a:ab h n h1 n1)(b:ab h1 n1 h2 n2):ab h n h2 n2:=
 ⟨tk a.le b.le,fun i hi=>(b.get i (eY hi a.le)).trans (a.get i hi)⟩
def ab.set{h h1:T O}{n n1:Nat}{i:Nat}{o:O}(hi:n<=i)(a:ab h n h1 n1):ab h n (h1.set i o) n1:=
 ⟨a.le,fun j hj=>by rw[T.ag,ak (by omega)];exact a.get j hj⟩
def ab.up{h h1:T O}{n n1 n2:Nat}(a:ab h n h1 n1)(hn:n1<=n2):ab h n h1 n2:=⟨tk a.le hn,a.get⟩
def aA(P:V->T O->Nat->Prop)(h:T O)(n:Nat)(w:List Nat)(v:V)(st:St):Prop:=st.w=w/\ab h n st.h st.n/\P v st.h st.n
abbrev Fn(C:Cx)(f:Nat)(args:List V)(h:T O)(n:Nat)(P:V->T O->Nat->Prop):Prop:=∀w,Call C (.func f [] []) args ⟨h,n,w⟩ (aA P h n w)
def aB{C:Cx}{f args h n w P K Q}(hf:Fn C f args h n P)(k:∀v h' n',ab h n h' n'->P v h' n'->bA C K (some (.val v ⟨h',n',w⟩)) Q):bA C K (tc (C.call (.func f [] []) args ⟨h,n,w⟩)) Q:=
 Ag (hf w) fun v az=>by
  obtain⟨h',n',w'⟩:=az
  rintro⟨rfl,hk,hp⟩
  exact k v h' n' hk hp
def Zpw{N:Nat}:∀{w:List Nat},(∀i∈w,N<=i)->av N w=[]
 |[],_=>rfl
 |i::w,h=>by
  have:=h i nR
  simp only[av,tr.2 this,if_false]
  exact Zpw fun j hj=>h j (nS _ hj)
end
end Go.Mx
