/-Runs without a count of steps-/
import Derived.Test.YtokjleejipaidaaGreatDoorMxTab
set_option linter.all false
namespace Go.Mx
noncomputable section
open Go
def Le(a b:cH):Prop:=∀g args st r,a g args st=some r->b g args st=some r
def Rk{a b:cH}(h:Le a b)(op:gm)(r:T V)(st:St){o:V×St}(e:cv op a r st=some o):cv op b r st=some o:=by
 cases op<;>try exact e
 rename_i f args
 show zH f args b r st=some o
 have e:zH f args a r st=some o:=e
 unfold zH at e ⊢
 split at e
 ·exact h _ _ _ _ e
 ·cases e
def Ms{a b:cH}(h:Le a b):∀(ops:List dr) (fr:Fr) (st:St) {o:Fr×St},dC a ops fr st=some o->dC b ops fr st=some o
 |[],_,_,_,e=>e
 |q::ops,fr,st,o,e=>by
  have e:BX a q (dC a ops) fr st=some o:=e
  show BX b q (dC b ops) fr st=some o
  unfold BX at e ⊢
  split at e
  ·split at e
   ·rename_i v aA h1
    rw[Rk h _ _ _ h1]
    simp only[]
    split at e
    ·exact Ms h ops _ _ e
    ·cases e
   ·cases e
  ·split at e
   ·exact Ms h ops _ _ e
   ·cases e
  ·cases e
def Rl{a b:cH}(h:Le a b):∀(ops:List dr) (fr:Fr) (st:St) {o:List FP×Fr×St},bK a ops fr st=some o->bK b ops fr st=some o
 |[],_,_,_,e=>e
 |q::ops,fr,st,o,e=>by
  have e:BY a q (bK a ops) fr st=some o:=e
  show BY b q (bK b ops) fr st=some o
  unfold BY at e ⊢
  split at e
  ·split at e
   ·rename_i v aA h1
    rw[Rk h _ _ _ h1]
    simp only[]
    split at e
    ·split at e
     ·rename_i h2
      rw[Rl h ops _ _ h2]
      exact e
     ·cases e
    ·cases e
   ·cases e
  ·split at e
   ·split at e
    ·rename_i h2
     rw[Rl h ops _ _ h2]
     exact e
    ·cases e
   ·cases e
  ·cases e
def Fz(a b:qx):Prop:=∀ro c fr st r,a ro c fr st=some r->b ro c fr st=some r
def Zlf{a b:cH}{p q:qx}(h:Le a b)(hc:Fz p q)(ro:Option Nat)(c:bN)(fr:Fr)(st:St){o:Ex×Fr×St}(e:mV c a p ro fr st=some o):mV c b q ro fr st=some o:=by
 cases c with
 |skip=>exact e
 |dN ops=>
  have e:AE ops a p ro fr st=some o:=e
  show AE ops b q ro fr st=some o
  unfold AE at e ⊢
  split at e
  ·rename_i h1;rw[Ms h _ _ _ h1];exact e
  ·cases e
 |dc ops ms=>
  have e:AF ops ms a p ro fr st=some o:=e
  show AF ops ms b q ro fr st=some o
  unfold AF at e ⊢
  split at e
  ·rename_i h1;rw[Rl h _ _ _ h1];exact e
  ·cases e
 |yN dst ch send zero ops=>
  have e:B0 dst ch send zero ops a p ro fr st=some o:=e
  show B0 dst ch send zero ops b q ro fr st=some o
  unfold B0 at e ⊢
  split at e
  ·split at e
   ·split at e
    ·split at e
     ·rename_i h1;rw[Ms h _ _ _ h1];exact e
     ·cases e
    ·cases e
   ·cases e
  ·cases e
 |seq x y=>
  have e:B1 x y a p ro fr st=some o:=e
  show B1 x y b q ro fr st=some o
  unfold B1 at e ⊢
  split at e
  ·rename_i h1;rw[hc _ _ _ _ _ h1];exact hc _ _ _ _ _ e
  ·rename_i h1
   have:=hc _ _ _ _ _ e
   rw[this]
   rcases o with⟨_|_|_,_,_⟩
   ·exact absurd e (h1 _ _)
   ·rfl
   ·rfl
 |cond x y z=>
  have e:yU x y z a p ro fr st=some o:=e
  show yU x y z b q ro fr st=some o
  unfold yU at e ⊢
  split at e
  ·exact hc _ _ _ _ _ e
  ·exact hc _ _ _ _ _ e
  ·cases e
 |block id x=>
  have e:B2 id x a p ro fr st=some o:=e
  show B2 id x b q ro fr st=some o
  unfold B2 at e ⊢
  split at e
  ·rename_i h1;rw[hc _ _ _ _ _ h1];exact e
  ·rename_i h1
   have:=hc _ _ _ _ _ e
   rw[this]
   rcases o with⟨_|_|_,_,_⟩
   ·rfl
   ·exact absurd e (h1 _ _ _)
   ·rfl
 |loop x=>
  have e:B4 x a p ro fr st=some o:=e
  show B4 x b q ro fr st=some o
  unfold B4 at e ⊢
  split at e
  ·rename_i h1;rw[hc _ _ _ _ _ h1];exact hc _ _ _ _ _ e
  ·rename_i h1
   have:=hc _ _ _ _ _ e
   rw[this]
   rcases o with⟨_|_|_,_,_⟩
   ·exact absurd e (h1 _ _)
   ·rfl
   ·rfl
 |jd g ps x y=>
  have e:Ab g ps x y a p ro fr st=some o:=e
  show Ab g ps x y b q ro fr st=some o
  unfold Ab at e ⊢
  split at e
  ·cases e
  ·split at e
   ·cases e
   ·rename_i hy
    simp only[hy]
    split at e
    ·cases e
    ·split at e
     ·cases e
     ·rename_i h1;rw[h _ _ _ _ h1];exact e
 |exit id=>exact e
 |scope x=>exact hc _ _ _ _ _ e
 |ret=>exact e
 |stop=>exact e
def AW{a b:cH}(h:Le a b):∀(F F':Nat),F<=F'->Fz (dP a F) (dP b F')
 |0,_,_=>fun _ _ _ _ _ e=>by cases e
 |F+1,0,hF=>by omega
 |F+1,F'+1,hF=>fun ro c fr st _ e=>Zlf h (AW h F F' (by omega)) ro c fr st e
def Zue{p q:qx}(h:Fz p q){mf:lA}{args:List V}{st:St}{o:V×St}(e:C6 mf p args st=some o):C6 mf q args st=some o:=by
 unfold C6 at e ⊢
 split at e
 ·cases e
 ·rename_i h0
  rw[ak h0]
  cases h1:p none mf.body {r:=zJ .nil 0 args,n:=mf.ntmps,marks:=[]} {st with w:=[]} with
  |none=>rw[h1]at e;cases e
  |some r=>rw[h1]at e;rw[h _ _ _ _ _ h1];exact e
def Zrk{p q:qx}(h:Fz p q){l:Nat}{args:List V}{st:St}{o:V×St}(e:CC p l args st=some o):CC q l args st=some o:=by
 unfold CC at e ⊢
 split at e
 ·split at e
  ·cases e
  ·split at e
   ·rename_i h1
    rw[h _ _ _ _ _ h1]
    simp only[]
    split at e
    ·split at e
     ·rename_i hr
      rw[ax hr]
      split at e
      ·rename_i h2
       rw[h _ _ _ _ _ h2]
       exact e
      ·cases e
     ·cases e
    ·cases e
   ·cases e
 ·cases e
def XI{dJ:Nat->Option lA}{p q:qx}(h:Fz p q):Le (yV dJ p) (yV dJ q):=by
 intro g args st o e
 unfold yV at e ⊢
 split at e
 ·split at e
  ·exact Zue h e
  ·cases e
 ·exact Zrk h e
 ·cases e
def Zod{x a b:cH}(h:Le a b):Le (tk x a) (tk x b):=by
 intro g args st o e
 unfold tk at e ⊢
 split at e
 ·exact e
 ·exact h _ _ _ _ e
def Rm{x:cH}{dJ:Nat->Option lA}{F F':Nat}(hF:F<=F'):∀(d d':Nat),d<=d'->Le (zO x dJ F d) (zO x dJ F' d')
 |0,0,_=>fun _ _ _ _ e=>e
 |0,d'+1,_=>fun g args st o e=>by
  have e:x g args st=some o:=e
  show tk x _ g args st=some o
  unfold tk;rw[e]
 |d+1,0,h=>by omega
 |d+1,d'+1,h=>Zod (XI (AW (Rm hF d d' (by omega)) F F' hF))
structure Cx where
 x:cH
 dJ:Nat->Option lA
def Cx.at(C:Cx)(N:Nat):cH:=zO C.x C.dJ N N
def Cx.dW{C:Cx}{N M:Nat}(h:N<=M):Le (C.at N) (C.at M):=Rm h N M h
open Classical in
def Cx.call(C:Cx):cH:=fun g args st=>if h:∃r N,C.at N g args st=some r then some h.choose else none
def Cx.fF{C:Cx}{g args st r}:C.call g args st=some r↔∃N,C.at N g args st=some r:=by
 unfold Cx.call
 constructor
 ·intro h
  split at h
  ·rename_i hc
   simp only[an]at h
   exact h▸hc.choose_spec
  ·cases h
 ·rintro⟨N,h⟩
  have hc:∃r N,C.at N g args st=some r:=⟨r,N,h⟩
  rw[dif_pos hc]
  obtain⟨M,hM⟩:=hc.choose_spec
  have h1:=Cx.dW (CU N M) _ _ _ _ h
  have h2:=Cx.dW (CQ N M) _ _ _ _ hM
  rw[h1]at h2
  exact congrArg some (mJ h2).symm
open Classical in
def Cx.code(C:Cx):qx:=fun ro c fr st=>if h:∃r F,dP C.call F ro c fr st=some r then some h.choose else none
def Cx.fG{C:Cx}{ro c fr st r}:C.code ro c fr st=some r↔∃F,dP C.call F ro c fr st=some r:=by
 unfold Cx.code
 constructor
 ·intro h
  split at h
  ·rename_i hc
   simp only[an]at h
   exact h▸hc.choose_spec
  ·cases h
 ·rintro⟨N,h⟩
  have hc:∃r F,dP C.call F ro c fr st=some r:=⟨r,N,h⟩
  rw[dif_pos hc]
  obtain⟨M,hM⟩:=hc.choose_spec
  have h1:=AW (fun _ _ _ _ e=>e) N (max N M) (CU N M) _ _ _ _ _ h
  have h2:=AW (fun _ _ _ _ e=>e) M (max N M) (CQ N M) _ _ _ _ _ hM
  rw[h1]at h2
  exact congrArg some (mJ h2).symm
def Yd2{α:Type}{a b:Option α}(h:∀r,a=some r↔b=some r):a=b:=by
 cases a with
 |none=>cases b with
  |none=>rfl
  |some r=>exact absurd ((h r).2 rfl) (by simp)
 |some r=>exact((h r).1 rfl).symm
def Rn{a:cH}{p:qx}{q:Nat->qx}(hq:∀n m,n<=m->Fz (q n) (q m))(hp:∀ro c fr st r,p ro c fr st=some r->∃n,q n ro c fr st=some r)(ro:Option Nat)(c:bN)(fr:Fr)(st:St){o:Ex×Fr×St}(e:mV c a p ro fr st=some o):∃n,mV c a (q n) ro fr st=some o:=by
 cases c with
 |skip=>exact⟨0,e⟩
 |dN ops=>exact⟨0,e⟩
 |dc ops ms=>exact⟨0,e⟩
 |yN dst ch send zero ops=>exact⟨0,e⟩
 |seq x y=>
  have e:B1 x y a p ro fr st=some o:=e
  show ∃n,B1 x y a (q n) ro fr st=some o
  unfold B1 at e ⊢
  split at e
  ·rename_i h1
   obtain⟨n,hn⟩:=hp _ _ _ _ _ h1
   obtain⟨m,hm⟩:=hp _ _ _ _ _ e
   refine⟨max n m,?_⟩
   rw[hq n _ (CU n m) _ _ _ _ _ hn]
   exact hq m _ (CQ n m) _ _ _ _ _ hm
  ·rename_i h1
   obtain⟨n,hn⟩:=hp _ _ _ _ _ e
   refine⟨n,?_⟩
   rw[hn]
   rcases o with⟨_|_|_,_,_⟩
   ·exact absurd e (h1 _ _)
   ·rfl
   ·rfl
 |cond x y z=>
  have e:yU x y z a p ro fr st=some o:=e
  show ∃n,yU x y z a (q n) ro fr st=some o
  unfold yU at e ⊢
  split at e
  ·exact hp _ _ _ _ _ e
  ·exact hp _ _ _ _ _ e
  ·cases e
 |block id x=>
  have e:B2 id x a p ro fr st=some o:=e
  show ∃n,B2 id x a (q n) ro fr st=some o
  unfold B2 at e ⊢
  split at e
  ·rename_i h1
   obtain⟨n,hn⟩:=hp _ _ _ _ _ h1
   exact⟨n,by rw[hn];exact e⟩
  ·rename_i h1
   obtain⟨n,hn⟩:=hp _ _ _ _ _ e
   refine⟨n,?_⟩
   rw[hn]
   rcases o with⟨_|_|_,_,_⟩
   ·rfl
   ·exact absurd e (h1 _ _ _)
   ·rfl
 |loop x=>
  have e:B4 x a p ro fr st=some o:=e
  show ∃n,B4 x a (q n) ro fr st=some o
  unfold B4 at e ⊢
  split at e
  ·rename_i h1
   obtain⟨n,hn⟩:=hp _ _ _ _ _ h1
   obtain⟨m,hm⟩:=hp _ _ _ _ _ e
   refine⟨max n m,?_⟩
   rw[hq n _ (CU n m) _ _ _ _ _ hn]
   exact hq m _ (CQ n m) _ _ _ _ _ hm
  ·rename_i h1
   obtain⟨n,hn⟩:=hp _ _ _ _ _ e
   refine⟨n,?_⟩
   rw[hn]
   rcases o with⟨_|_|_,_,_⟩
   ·exact absurd e (h1 _ _)
   ·rfl
   ·rfl
 |jd g ps x y=>exact⟨0,e⟩
 |exit id=>exact⟨0,e⟩
 |scope x=>exact hp _ _ _ _ _ e
 |ret=>exact⟨0,e⟩
 |stop=>exact⟨0,e⟩
def Cx.df{C:Cx}(ro:Option Nat)(c:bN)(fr:Fr)(st:St):C.code ro c fr st=mV c C.call C.code ro fr st:=by
 apply Yd2
 intro r
 constructor
 ·intro h
  obtain⟨F,hF⟩:=Cx.fG.1 h
  cases F with
  |zero=>cases hF
  |succ F=>exact Zlf (fun _ _ _ _ e=>e) (fun ro c fr st r e=>Cx.fG.2 ⟨F,e⟩) ro c fr st hF
 ·intro h
  obtain⟨n,hn⟩:=Rn (q:=dP C.call) (AW fun _ _ _ _ e=>e) (fun _ _ _ _ _ e=>Cx.fG.1 e) ro c fr st h
  exact Cx.fG.2 ⟨n+1,hn⟩
def Zx9{C:Cx}(op:gm)(r:T V)(st:St){o:V×St}(e:cv op C.call r st=some o):∃N,cv op (C.at N) r st=some o:=by
 cases op<;>try exact⟨0,e⟩
 rename_i f args
 have e:zH f args C.call r st=some o:=e
 show ∃N,zH f args (C.at N) r st=some o
 unfold zH at e ⊢
 split at e
 ·exact Cx.fF.1 e
 ·cases e
def Ro{C:Cx}:∀(ops:List dr) (fr:Fr) (st:St) {o:Fr×St},dC C.call ops fr st=some o->∃N,dC (C.at N) ops fr st=some o
 |[],_,_,_,e=>⟨0,e⟩
 |q::ops,fr,st,o,e=>by
  have e:BX C.call q (dC C.call ops) fr st=some o:=e
  show ∃N,BX (C.at N) q (dC (C.at N) ops) fr st=some o
  unfold BX at e ⊢
  split at e
  ·split at e
   ·rename_i v aA h1
    split at e
    ·obtain⟨N,hN⟩:=Zx9 _ _ _ h1
     obtain⟨M,hM⟩:=Ro ops _ _ e
     refine⟨max N M,?_⟩
     rw[Rk (Cx.dW (CU N M)) _ _ _ hN]
     rename_i h3
     simp only[h3]
     exact Ms (Cx.dW (CQ N M)) _ _ _ hM
    ·cases e
   ·cases e
  ·split at e
   ·exact Ro ops _ _ e
   ·cases e
  ·cases e
def XJ{C:Cx}:∀(ops:List dr) (fr:Fr) (st:St) {o:List FP×Fr×St},bK C.call ops fr st=some o->∃N,bK (C.at N) ops fr st=some o
 |[],_,_,_,e=>⟨0,e⟩
 |q::ops,fr,st,o,e=>by
  have e:BY C.call q (bK C.call ops) fr st=some o:=e
  show ∃N,BY (C.at N) q (bK (C.at N) ops) fr st=some o
  unfold BY at e ⊢
  split at e
  ·split at e
   ·rename_i v aA h1
    split at e
    ·rename_i h3
     split at e
     ·rename_i h2
      obtain⟨N,hN⟩:=Zx9 _ _ _ h1
      obtain⟨M,hM⟩:=XJ ops _ _ h2
      refine⟨max N M,?_⟩
      rw[Rk (Cx.dW (CU N M)) _ _ _ hN]
      simp only[h3]
      rw[Rl (Cx.dW (CQ N M)) _ _ _ hM]
      exact e
     ·cases e
    ·cases e
   ·cases e
  ·split at e
   ·split at e
    ·rename_i h2
     obtain⟨M,hM⟩:=XJ ops _ _ h2
     exact⟨M,by rw[hM];exact e⟩
    ·cases e
   ·cases e
  ·cases e
def Zqo{C:Cx}:∀(F:Nat) (ro:Option Nat) (c:bN) (fr:Fr) (st:St) {o:Ex×Fr×St},dP C.call F ro c fr st=some o->∃N,dP (C.at N) F ro c fr st=some o
 |0,_,_,_,_,_,e=>by cases e
 |F+1,ro,c,fr,st,o,e=>by
  have e:mV c C.call (dP C.call F) ro fr st=some o:=e
  show ∃N,mV c (C.at N) (dP (C.at N) F) ro fr st=some o
  have ih:=@Zqo C F
  have up:∀{n m:Nat},n<=m->Fz (dP (C.at n) F) (dP (C.at m) F):=fun h=>AW (Cx.dW h) F F (aO _)
  cases c with
  |dN ops=>
   have e:AE ops C.call (dP C.call F) ro fr st=some o:=e
   show ∃N,AE ops (C.at N) (dP (C.at N) F) ro fr st=some o
   unfold AE at e ⊢
   split at e
   ·rename_i h1
    obtain⟨N,hN⟩:=Ro _ _ _ h1
    exact⟨N,by rw[hN];exact e⟩
   ·cases e
  |dc ops ms=>
   have e:AF ops ms C.call (dP C.call F) ro fr st=some o:=e
   show ∃N,AF ops ms (C.at N) (dP (C.at N) F) ro fr st=some o
   unfold AF at e ⊢
   split at e
   ·rename_i h1
    obtain⟨N,hN⟩:=XJ _ _ _ h1
    exact⟨N,by rw[hN];exact e⟩
   ·cases e
  |yN dst ch send zero ops=>
   have e:B0 dst ch send zero ops C.call (dP C.call F) ro fr st=some o:=e
   show ∃N,B0 dst ch send zero ops (C.at N) (dP (C.at N) F) ro fr st=some o
   unfold B0 at e ⊢
   split at e
   ·split at e
    ·split at e
     ·split at e
      ·rename_i h1
       obtain⟨N,hN⟩:=Ro _ _ _ h1
       exact⟨N,by rw[hN];exact e⟩
      ·cases e
     ·cases e
    ·cases e
   ·cases e
  |jd g ps x y=>
   have e:Ab g ps x y C.call (dP C.call F) ro fr st=some o:=e
   show ∃N,Ab g ps x y (C.at N) (dP (C.at N) F) ro fr st=some o
   unfold Ab at e ⊢
   split at e
   ·cases e
   ·split at e
    ·cases e
    ·rename_i hy
     simp only[hy]
     split at e
     ·cases e
     ·split at e
      ·cases e
      ·rename_i h1
       obtain⟨N,hN⟩:=Cx.fF.1 h1
       exact⟨N,by rw[hN];exact e⟩
  |skip=>exact⟨0,e⟩
  |exit id=>exact⟨0,e⟩
  |ret=>exact⟨0,e⟩
  |stop=>cases e
  |scope x=>exact ih _ _ _ _ e
  |cond x y z=>
   have e:yU x y z C.call (dP C.call F) ro fr st=some o:=e
   show ∃N,yU x y z (C.at N) (dP (C.at N) F) ro fr st=some o
   unfold yU at e ⊢
   split at e
   ·exact ih _ _ _ _ e
   ·exact ih _ _ _ _ e
   ·cases e
  |seq x y=>exact Rn (a:=C.call) (q:=fun n=>dP (C.at n) F) (fun _ _ h=>up h) (fun _ _ _ _ _ e=>ih _ _ _ _ e) ro (.seq x y) fr st e
  |block id x=>exact Rn (a:=C.call) (q:=fun n=>dP (C.at n) F) (fun _ _ h=>up h) (fun _ _ _ _ _ e=>ih _ _ _ _ e) ro (.block id x) fr st e
  |loop x=>exact Rn (a:=C.call) (q:=fun n=>dP (C.at n) F) (fun _ _ h=>up h) (fun _ _ _ _ _ e=>ih _ _ _ _ e) ro (.loop x) fr st e
def Cx.qE{C:Cx}{ro c fr st r}(h:C.code ro c fr st=some r):∃N,dP (C.at N) N ro c fr st=some r:=by
 obtain⟨F,hF⟩:=Cx.fG.1 h
 obtain⟨N,hN⟩:=Zqo F _ _ _ _ hF
 exact⟨max F N,AW (Cx.dW (CQ F N)) _ _ (CU F N) _ _ _ _ _ hN⟩
def Zlh{dJ:Nat->Option lA}{p:qx}{q:Nat->qx}(hq:∀n m,n<=m->Fz (q n) (q m))(hp:∀ro c fr st r,p ro c fr st=some r->∃n,q n ro c fr st=some r){g args st}{o:V×St}(e:yV dJ p g args st=some o):∃n,yV dJ (q n) g args st=some o:=by
 unfold yV at e ⊢
 split at e
 ·split at e
  ·rename_i mf _
   unfold C6 at e ⊢
   split at e
   ·cases e
   ·rename_i h0
    simp only[h0,if_false]
    cases h1:p none mf.body {r:=zJ .nil 0 _,n:=mf.ntmps,marks:=[]} {st with w:=[]} with
    |none=>rw[h1]at e;cases e
    |some r=>
     rw[h1]at e
     obtain⟨n,hn⟩:=hp _ _ _ _ _ h1
     exact⟨n,by rw[hn];exact e⟩
  ·cases e
 ·unfold CC at e ⊢
  split at e
  ·split at e
   ·cases e
   ·split at e
    ·rename_i h1
     obtain⟨n,hn⟩:=hp _ _ _ _ _ h1
     split at e
     ·split at e
      ·split at e
       ·rename_i h4 h5 _ _ _ _ h2
        obtain⟨m,hm⟩:=hp _ _ _ _ _ h2
        refine⟨max n m,?_⟩
        rw[hq n _ (CU n m) _ _ _ _ _ hn]
        simp only[h4,h5,if_true]
        rw[hq m _ (CQ n m) _ _ _ _ _ hm]
        exact e
       ·cases e
      ·cases e
     ·cases e
    ·cases e
  ·cases e
 ·cases e
def Cx.mO{C:Cx}(g:V)(args:List V)(st:St):C.call g args st=tk C.x (yV C.dJ C.code) g args st:=by
 apply Yd2
 intro r
 constructor
 ·intro h
  obtain⟨N,hN⟩:=Cx.fF.1 h
  cases N with
  |zero=>
   have e:C.x g args st=some r:=hN
   unfold tk;rw[e]
  |succ N=>
   refine Zod (x:=C.x) (XI (p:=dP (zO C.x C.dJ (N+1) N) (N+1)) fun ro c fr st r e=>?_) _ _ _ _ hN
   refine Cx.fG.2 ⟨N+1,?_⟩
   refine AW (fun g args st r e=>?_) (N+1) (N+1) (aO _) _ _ _ _ _ e
   exact Cx.fF.2 ⟨N+1,Rm (aO _) N (N+1) (by omega) _ _ _ _ e⟩
 ·intro h
  unfold tk at h
  split at h
  ·rename_i r' e
   simp only[an]at h
   subst h
   exact Cx.fF.2 ⟨0,e⟩
  ·rename_i hx
   obtain⟨N,hN⟩:=Zlh (q:=fun n=>dP (C.at n) n) (fun n m h=>AW (Cx.dW h) n m h) (fun _ _ _ _ _ e=>Cx.qE e) h
   refine Cx.fF.2 ⟨N+1,?_⟩
   show tk C.x (yV C.dJ (dP (zO C.x C.dJ (N+1) N) (N+1))) g args st=some r
   unfold tk
   rw[hx]
   exact XI (AW (Rm (by omega) N N (aO _)) N (N+1) (by omega)) _ _ _ _ hN
inductive Rs where
 |ex (e:Ex) (fr:Fr) (st:St)
 |val (v:V) (st:St)
 |ops (fr:Fr) (st:St)
 |rU (ig:List FP) (fr:Fr) (st:St)
inductive Kf where
 |seq (ro:Option Nat) (b:bN)
 |block (id:Nat)
 |loop (ro:Option Nat) (c:bN)
 |dN
 |put (d:Option Nat) (ops:List dr) (fr:Fr)
 |dc (ms:List Nat)
 |wA (op:gm) (d:Option Nat) (ops:List dr) (fr:Fr) (n:Nat) (w:List Nat)
 |cons (fp:FP)
 |fin (rs:List Eo) (st:St)
def eK:Option (Ex×Fr×St)->Option Rs
 |some (e,fr,st)=>some (.ex e fr st)
 |none=>none
def tB:Option (V×St)->Option Rs
 |some (v,st)=>some (.val v st)
 |none=>none
def Ca:Option (Fr×St)->Option Rs
 |some (fr,st)=>some (.ops fr st)
 |none=>none
def AX:Option (List FP×Fr×St)->Option Rs
 |some (ig,fr,st)=>some (.rU ig fr st)
 |none=>none
def q8(C:Cx):Kf->Rs->Option Rs
 |.seq ro b,.ex .normal fr st=>eK (C.code ro b fr st)
 |.seq _ _,.ex e fr st=>some (.ex e fr st)
 |.block id,.ex (.exit B3) fr st=>match Nat.beq B3 id with
  |true=>some (.ex .normal fr st)
  |false=>some (.ex (.exit B3) fr st)
 |.block _,.ex e fr st=>some (.ex e fr st)
 |.loop ro c,.ex .normal fr st=>eK (C.code ro (.loop c) fr st)
 |.loop _ _,.ex e fr st=>some (.ex e fr st)
 |.dN,.ops fr st=>some (.ex .normal fr st)
 |.put d ops fr,.val v st=>match fr.put d v with
  |some fr=>Ca (dC C.call ops fr st)
  |none=>none
 |.dc ms,.rU ig fr st=>match jK ig ms with
  |true=>some (.ex .normal fr st)
  |false=>none
 |.wA op d ops fr n w,.val v aA=>match fr.put d v with
  |some bE=>match bK C.call ops bE {aA with w:=ar n aA.w++w} with
   |some (ig,fr'',st'')=>some (.rU (pH fr.r op (ar n aA.w) n aA.n::ig) fr'' st'')
   |none=>none
  |none=>none
 |.cons fp,.rU ig fr st=>some (.rU (fp::ig) fr st)
 |.fin _ _,.ex (.exit _) _ _=>none
 |.fin rs Mt,.ex _ fr bV=>match shut bV fr.marks with
  |none=>none
  |some eI=>match fB fr.r eI rs with
   |some vs=>some (.val (Fa vs) {eI with w:=ar Mt.n eI.w++Mt.w})
   |none=>none
 |_,_=>none
def lH(C:Cx)(k:Kf):Option Rs->Option Rs
 |some r=>q8 C k r
 |none=>none
def iH(C:Cx):List Kf->Option Rs->Option Rs
 |[],r=>r
 |k::K,r=>iH C K (lH C k r)
def Zxj{C:Cx}:∀K,iH C K none=none
 |[]=>rfl
 |_::K=>Zxj K
structure bz (C:Cx) (K:List Kf) (r:Option Rs) (Q:Rs->Prop):Prop where
 ex:∃s,iH C K r=some s/\Q s
def iW{C:Cx}{K K':List Kf}{r r':Option Rs}{Q:Rs->Prop}(h:iH C K r=iH C K' r'):bz C K r Q↔bz C K' r' Q:=
 ⟨fun ⟨s,e,q⟩=>⟨s,h▸e,q⟩,fun ⟨s,e,q⟩=>⟨s,h.symm▸e,q⟩⟩
def Ki{C:Cx}{K:List Kf}{Q:Rs->Prop}:bz C K none Q↔False:=
 ⟨fun ⟨_,h,_⟩=>(by rw[Zxj]at h;cases h),fun h=>h.elim⟩
def Yn9{C:Cx}{s:Rs}{Q:Rs->Prop}:bz C [] (some s) Q↔Q s:=
 ⟨fun ⟨_,h,q⟩=>by simp only[iH,an]at h;exact h▸q,fun q=>⟨s,rfl,q⟩⟩
structure Call (C:Cx) (g:V) (args:List V) (st:St) (P:V->St->Prop):Prop where
 ex:∃v aA,C.call g args st=some (v,aA)/\P v aA
structure Code (C:Cx) (ro:Option Nat) (c:bN) (fr:Fr) (st:St) (P:Ex->Fr->St->Prop):Prop where
 ex:∃e bE aA,C.code ro c fr st=some (e,bE,aA)/\P e bE aA
def Dl(P:V->St->Prop):Rs->Prop
 |.val v st=>P v st
 |_=>False
def XK(P:Ex->Fr->St->Prop):Rs->Prop
 |.ex e fr st=>P e fr st
 |_=>False
def Yhq{P:V->St->Prop}{v st}:Dl P (.val v st)↔P v st:=Iff.rfl
def Ytr{P:Ex->Fr->St->Prop}{e fr st}:XK P (.ex e fr st)↔P e fr st:=Iff.rfl
def aM{C:Cx}{g args st P}:Call C g args st P↔bz C [] (tB (C.call g args st)) (Dl P):=by
 constructor
 ·rintro⟨v,aA,h,p⟩
  exact⟨.val v aA,by rw[h];rfl,p⟩
 ·rintro⟨s,h,q⟩
  cases hc:C.call g args st with
  |none=>rw[hc]at h;cases h
  |some r=>
   rw[hc]at h
   simp only[iH,tB,an]at h
   subst h
   exact⟨_,_,hc,q⟩
def bb{C:Cx}{ro c fr st P}:Code C ro c fr st P↔bz C [] (eK (C.code ro c fr st)) (XK P):=by
 constructor
 ·rintro⟨e,bE,aA,h,p⟩
  exact⟨.ex e bE aA,by rw[h];rfl,p⟩
 ·rintro⟨s,h,q⟩
  cases hc:C.code ro c fr st with
  |none=>rw[hc]at h;cases h
  |some r=>
   rw[hc]at h
   simp only[iH,eK,an]at h
   subst h
   exact⟨_,_,_,hc,q⟩
def An{C:Cx}{g args st P K Q}(h:Call C g args st P)(k:∀v aA,P v aA->bz C K (some (.val v aA)) Q):bz C K (tB (C.call g args st)) Q:=by
 obtain⟨v,aA,e,p⟩:=h.ex
 rw[e]
 exact k v aA p
def lG{C:Cx}{ro c fr st P K Q}(h:Code C ro c fr st P)(k:∀e bE aA,P e bE aA->bz C K (some (.ex e bE aA)) Q):bz C K (eK (C.code ro c fr st)) Q:=by
 obtain⟨e,bE,aA,h,p⟩:=h.ex
 rw[h]
 exact k e bE aA p
def Call.mono{C:Cx}{g args st}{P Q:V->St->Prop}(h:Call C g args st P)(k:∀v aA,P v aA->Q v aA):Call C g args st Q:=by
 obtain⟨v,aA,e,p⟩:=h.ex
 exact⟨v,aA,e,k v aA p⟩
def Ys7(I:Nat->Fr->St->Prop)(k:Nat)(P:Ex->Fr->St->Prop):Ex->Fr->St->Prop
 |.normal,fr,st=>∃k',k'<k/\I k' fr st
 |e,fr,st=>P e fr st
def Code.loop{C:Cx}{ro c}{P:Ex->Fr->St->Prop}{I:Nat->Fr->St->Prop}(h:∀k fr st,I k fr st->Code C ro c fr st (Ys7 I k P)):∀(k:Nat) (fr:Fr) (st:St),I k fr st->Code C ro (.loop c) fr st P:=by
 intro k
 induction k using Nat.strongRecOn with
 |_ k ih=>
  intro fr st hi
  obtain⟨e,bE,aA,h1,p⟩:=(h k fr st hi).ex
  have e1:C.code ro (.loop c) fr st=B4 c C.call C.code ro fr st:=Cx.df ro (.loop c) fr st
  unfold B4 at e1
  rw[h1]at e1
  cases e with
  |normal=>
   obtain⟨k',hk,iP⟩:=p
   obtain⟨e2,Ac,eI,h2,p2⟩:=(ih k' hk bE aA iP).ex
   exact⟨e2,Ac,eI,e1.trans h2,p2⟩
  |exit id=>exact⟨_,_,_,e1,p⟩
  |ret=>exact⟨_,_,_,e1,p⟩
def Yij{C:Cx}{ro c}{K:List Kf}{Q:Rs->Prop}{fr:Fr}{st:St}(P:Ex->Fr->St->Prop)(I:Nat->Fr->St->Prop)(k:Nat)(hi:I k fr st)(h:∀k fr st,I k fr st->Code C ro c fr st (Ys7 I k P))(q:∀e bE aA,P e bE aA->bz C K (some (.ex e bE aA)) Q):bz C K (eK (C.code ro (.loop c) fr st)) Q:=
 lG (Code.loop h k fr st hi) q
section
variable {C:Cx} {K:List Kf} {Q:Rs->Prop} {ro:Option Nat} {a b c:bN} {fr:Fr} {st:St}
def Yig:bz C K (eK (C.code ro .skip fr st)) Q↔bz C K (some (.ex .normal fr st)) Q:=iW (by rw[Cx.df];rfl)
def Yn8{ops}:bz C K (eK (C.code ro (.dN ops) fr st)) Q↔bz C (.dN::K) (Ca (dC C.call ops fr st)) Q:=iW (by
 rw[Cx.df]
 show iH C K (eK (AE ops C.call C.code ro fr st))=iH C K (lH C .dN (Ca (dC C.call ops fr st)))
 unfold AE
 rcases dC C.call ops fr st with _|⟨_,_⟩<;>rfl)
def Yii{ops ms}:bz C K (eK (C.code ro (.dc ops ms) fr st)) Q↔bz C (.dc ms::K) (AX (bK C.call ops fr st)) Q:=iW (by
 rw[Cx.df]
 show iH C K (eK (AF ops ms C.call C.code ro fr st))=iH C K (lH C (.dc ms) (AX (bK C.call ops fr st)))
 unfold AF
 rcases bK C.call ops fr st with _|⟨ig,_,_⟩
 ·rfl
 ·simp only[AX,lH,q8]
  cases jK ig ms<;>rfl)
def Yn6:bz C K (eK (C.code ro (.seq a b) fr st)) Q↔bz C (.seq ro b::K) (eK (C.code ro a fr st)) Q:=iW (by
 rw[Cx.df]
 show iH C K (eK (B1 a b C.call C.code ro fr st))=iH C K (lH C (.seq ro b) (eK (C.code ro a fr st)))
 unfold B1
 rcases C.code ro a fr st with _|⟨e,_,_⟩
 ·rfl
 ·cases e<;>rfl)
def Rp(C:Cx)(ro:Option Nat)(a b:bN)(fr:Fr)(st:St):Option V->Option Rs
 |some (.bool true)=>eK (C.code ro a fr st)
 |some (.bool false)=>eK (C.code ro b fr st)
 |_=>none
def Yim{x}:bz C K (eK (C.code ro (.cond x a b) fr st)) Q↔bz C K (Rp C ro a b fr st (x.ev fr.r)) Q:=iW (by
 rw[Cx.df]
 show iH C K (eK (yU x a b C.call C.code ro fr st))=_
 unfold yU Rp
 rcases x.ev fr.r with _|v
 ·rfl
 ·cases v<;>try rfl
  rename_i b'
  cases b'<;>rfl)
def Ybx:Rp C ro a b fr st (some (.bool true))=eK (C.code ro a fr st):=rfl
def Zw3:Rp C ro a b fr st (some (.bool false))=eK (C.code ro b fr st):=rfl
def Ydd{id}:bz C K (eK (C.code ro (.block id a) fr st)) Q↔bz C (.block id::K) (eK (C.code ro a fr st)) Q:=iW (by
 rw[Cx.df]
 show iH C K (eK (B2 id a C.call C.code ro fr st))=iH C K (lH C (.block id) (eK (C.code ro a fr st)))
 unfold B2
 rcases C.code ro a fr st with _|⟨e,_,_⟩
 ·rfl
 ·cases e with
  |exit B3=>simp only[eK,lH,q8];cases Nat.beq B3 id<;>rfl
  |_=>rfl)
def Yil{id}:bz C K (eK (C.code ro (.exit id) fr st)) Q↔bz C K (some (.ex (.exit id) fr st)) Q:=iW (by rw[Cx.df];rfl)
def Ydc:bz C K (eK (C.code ro (.scope a) fr st)) Q↔bz C K (eK (C.code ro a fr st)) Q:=iW (by rw[Cx.df];rfl)
def Yn7:bz C K (eK (C.code ro .ret fr st)) Q↔bz C K (some (.ex .ret fr st)) Q:=iW (by rw[Cx.df];rfl)
def Zt6:bz C (.seq ro b::K) (some (.ex .normal fr st)) Q↔bz C K (eK (C.code ro b fr st)) Q:=iW rfl
def Ya2{i}:bz C (.seq ro b::K) (some (.ex (.exit i) fr st)) Q↔bz C K (some (.ex (.exit i) fr st)) Q:=iW rfl
def Yfe:bz C (.seq ro b::K) (some (.ex .ret fr st)) Q↔bz C K (some (.ex .ret fr st)) Q:=iW rfl
def Zpw{i}:bz C (.block i::K) (some (.ex .normal fr st)) Q↔bz C K (some (.ex .normal fr st)) Q:=iW rfl
def Zwq{i}:bz C (.block i::K) (some (.ex .ret fr st)) Q↔bz C K (some (.ex .ret fr st)) Q:=iW rfl
def Zt7{i}:bz C (.block i::K) (some (.ex (.exit i) fr st)) Q↔bz C K (some (.ex .normal fr st)) Q:=iW (by simp[iH,lH,q8,Nat.beq_refl])
def Zr1{i j}(h:Nat.beq j i=false):bz C (.block i::K) (some (.ex (.exit j) fr st)) Q↔bz C K (some (.ex (.exit j) fr st)) Q:=iW (by simp[iH,lH,q8,h])
def Yvz:bz C (.dN::K) (some (.ops fr st)) Q↔bz C K (some (.ex .normal fr st)) Q:=iW rfl
def Yov:Ca (dC C.call [] fr st)=some (.ops fr st):=rfl
def XL(C:Cx)(K:List Kf)(Q:Rs->Prop)(d:Option Nat)(op:gm)(ops:List dr)(fr:Fr)(st:St):Option Bool->Prop
 |some true=>bz C (.put d ops fr::K) (tB (cv op C.call fr.r st)) Q
 |some false=>bz C (.put d ops fr::K) (some (.val (.aV []) st)) Q
 |none=>False
def Yi5{d op g ops}:bz C K (Ca (dC C.call (⟨d,op,g⟩::ops) fr st)) Q↔XL C K Q d op ops fr st (bU fr.r g):=by
 have e:dC C.call (⟨d,op,g⟩::ops) fr st=BX C.call ⟨d,op,g⟩ (dC C.call ops) fr st:=rfl
 rw[e]
 unfold BX
 simp only[]
 rcases bU fr.r g with _|b
 ·exact Ki
 ·cases b
  ·show _↔bz C (.put d ops fr::K) (some (.val (.aV []) st)) Q
   refine iW ?_
   show _=iH C K (q8 C (.put d ops fr) (.val (.aV []) st))
   simp only[q8]
   rcases fr.put d (.aV [])with _|_<;>rfl
  ·show _↔bz C (.put d ops fr::K) (tB (cv op C.call fr.r st)) Q
   refine iW ?_
   show _=iH C K (lH C (.put d ops fr) (tB (cv op C.call fr.r st)))
   rcases cv op C.call fr.r st with _|⟨v,aA⟩
   ·rfl
   ·simp only[tB,lH,q8]
    rcases fr.put d v with _|_<;>rfl
def Yja{d op ops}:XL C K Q d op ops fr st (some true)↔bz C (.put d ops fr::K) (tB (cv op C.call fr.r st)) Q:=Iff.rfl
def Yd6{d op ops}:XL C K Q d op ops fr st (some false)↔bz C (.put d ops fr::K) (some (.val (.aV []) st)) Q:=Iff.rfl
def Ycg{v:V}:tB (some (v,st))=some (.val v st):=rfl
def Yv0{d n m r ops v}(h:d<n):bz C (.put (some d) ops ⟨r,n,m⟩::K) (some (.val v st)) Q↔bz C K (Ca (dC C.call ops ⟨r.set d v,n,m⟩ st)) Q:=iW (by simp[iH,lH,q8,Fr.put,h])
def Ya3{ops v}:bz C (.put none ops fr::K) (some (.val v st)) Q↔bz C K (Ca (dC C.call ops fr st)) Q:=iW rfl
def Yi6:AX (bK C.call [] fr st)=some (.rU [] fr st):=rfl
def Mv(C:Cx)(K:List Kf)(Q:Rs->Prop)(d:Option Nat)(op:gm)(ops:List dr)(fr:Fr)(h:T O)(n:Nat)(w:List Nat):Option Bool->Prop
 |some true=>bz C (.wA op d ops fr n w::K) (tB (cv op C.call fr.r ⟨h,n,[]⟩)) Q
 |some false=>bz C (.cons ⟨some [],[],n,n⟩::K) (match fr.put d (.aV [])with|some bE=>AX (bK C.call ops bE ⟨h,n,w⟩)|none=>none) Q
 |none=>False
def Yd4{d op g ops h n w}:bz C K (AX (bK C.call (⟨d,op,g⟩::ops) fr ⟨h,n,w⟩)) Q↔Mv C K Q d op ops fr h n w (bU fr.r g):=by
 have e:bK C.call (⟨d,op,g⟩::ops) fr ⟨h,n,w⟩=BY C.call ⟨d,op,g⟩ (bK C.call ops) fr ⟨h,n,w⟩:=rfl
 rw[e]
 unfold BY
 simp only[]
 rcases bU fr.r g with _|b
 ·exact Ki
 ·cases b
  ·show _↔bz C (.cons ⟨some [],[],n,n⟩::K) (match fr.put d (.aV [])with|some bE=>AX (bK C.call ops bE ⟨h,n,w⟩)|none=>none) Q
   refine iW ?_
   show _=iH C K (lH C (.cons ⟨some [],[],n,n⟩) _)
   rcases fr.put d (.aV [])with _|bE
   ·rfl
   ·simp only[]
    rcases bK C.call ops bE ⟨h,n,w⟩with _|⟨_,_,_⟩<;>rfl
  ·show _↔bz C (.wA op d ops fr n w::K) (tB (cv op C.call fr.r ⟨h,n,[]⟩)) Q
   refine iW ?_
   show _=iH C K (lH C (.wA op d ops fr n w) (tB (cv op C.call fr.r ⟨h,n,[]⟩)))
   rcases cv op C.call fr.r ⟨h,n,[]⟩with _|⟨v,aA⟩
   ·rfl
   ·simp only[tB,lH,q8]
    rcases fr.put d v with _|bE
    ·rfl
    ·simp only[]
     rcases bK C.call ops bE {aA with w:=ar n aA.w++w} with _|⟨_,_,_⟩<;>rfl
def Yd7{d op ops h n w}:Mv C K Q d op ops fr h n w (some true)↔bz C (.wA op d ops fr n w::K) (tB (cv op C.call fr.r ⟨h,n,[]⟩)) Q:=Iff.rfl
def Zz9{d n m r ops op h N w}(hd:d<n):Mv C K Q (some d) op ops ⟨r,n,m⟩ h N w (some false)↔bz C (.cons ⟨some [],[],N,N⟩::K) (AX (bK C.call ops ⟨r.set d (.aV []),n,m⟩ ⟨h,N,w⟩)) Q:=by simp[Mv,Fr.put,hd]
def Zv3{ops op h N w}:Mv C K Q none op ops fr h N w (some false)↔bz C (.cons ⟨some [],[],N,N⟩::K) (AX (bK C.call ops fr ⟨h,N,w⟩)) Q:=Iff.rfl
def Ytc{op d n m r ops v N w h' n' w'}(h:d<n):bz C (.wA op (some d) ops ⟨r,n,m⟩ N w::K) (some (.val v ⟨h',n',w'⟩)) Q↔bz C (.cons (pH r op (ar N w') N n')::K) (AX (bK C.call ops ⟨r.set d v,n,m⟩ ⟨h',n',ar N w'++w⟩)) Q:=iW (by
 simp only[iH,lH,q8,Fr.put,h,if_true]
 rcases bK C.call ops _ _ with _|⟨_,_,_⟩<;>rfl)
def Zwp{op ops v N w h' n' w'}:bz C (.wA op none ops fr N w::K) (some (.val v ⟨h',n',w'⟩)) Q↔bz C (.cons (pH fr.r op (ar N w') N n')::K) (AX (bK C.call ops fr ⟨h',n',ar N w'++w⟩)) Q:=iW (by
 simp only[iH,lH,q8,Fr.put]
 rcases bK C.call ops _ _ with _|⟨_,_,_⟩<;>rfl)
def Ytd{fp ig}:bz C (.cons fp::K) (some (.rU ig fr st)) Q↔bz C K (some (.rU (fp::ig) fr st)) Q:=iW rfl
def HM{ms ig}(h:jK ig ms=true):bz C (.dc ms::K) (some (.rU ig fr st)) Q↔bz C K (some (.ex .normal fr st)) Q:=iW (by simp only[iH,lH,q8,h])
def Yik{g first gp args mf}(hx:C.x (.func g first gp) args st=none)(h:C.dJ g=some mf)(hl:(first++args++gp).length<=mf.ntmps):bz C K (tB (C.call (.func g first gp) args st)) Q↔bz C (.fin mf.results st::K) (eK (C.code none mf.body ⟨zJ .nil 0 (first++args++gp),mf.ntmps,[]⟩ ⟨st.h,st.n,[]⟩)) Q:=iW (by
 rw[Cx.mO]
 unfold tk
 rw[hx]
 simp only[yV,h,C6,tK.2 hl,if_false]
 show _=iH C K (lH C (.fin mf.results st) _)
 unfold WR
 rcases C.code none mf.body _ _ with _|⟨e,dV,bV⟩
 ·rfl
 ·cases e with
  |exit=>rfl
  |normal=>
   simp only[eK,lH,q8]
   rcases shut bV dV.marks with _|eI
   ·rfl
   ·simp only[]
    rcases fB dV.r eI mf.results with _|_<;>rfl
  |ret=>
   simp only[eK,lH,q8]
   rcases shut bV dV.marks with _|eI
   ·rfl
   ·simp only[]
    rcases fB dV.r eI mf.results with _|_<;>rfl)
def Qp(h:T O)(n:Nat)(w:List Nat):Option (List V)->Option Rs
 |some vs=>some (.val (Fa vs) ⟨h,n,w⟩)
 |none=>none
def Yfv{h n w vs}:Qp h n w (some vs)=some (.val (Fa vs) ⟨h,n,w⟩):=rfl
def Yff{rs r n h1 n1 w1}:bz C (.fin rs st::K) (some (.ex .ret ⟨r,n,[]⟩ ⟨h1,n1,w1⟩)) Q↔bz C K (Qp h1 n1 (ar st.n w1++st.w) (fB r ⟨h1,n1,w1⟩ rs)) Q:=iW (by
 simp only[iH,lH,q8,shut]
 rcases fB r ⟨h1,n1,w1⟩ rs with _|_<;>rfl)
def Yfg{rs r n h1 n1 w1}:bz C (.fin rs st::K) (some (.ex .normal ⟨r,n,[]⟩ ⟨h1,n1,w1⟩)) Q↔bz C K (Qp h1 n1 (ar st.n w1++st.w) (fB r ⟨h1,n1,w1⟩ rs)) Q:=iW (by
 simp only[iH,lH,q8,shut]
 rcases fB r ⟨h1,n1,w1⟩ rs with _|_<;>rfl)
end
def Zwh(a):cv (.rM a)=JV a:=rfl
def Ztu(a b):cv (.jG a b)=EU a b:=rfl
def Ztz(a):cv (.oJ a)=Hl a:=rfl
def Zwe(a b):cv (.iy a b)=JW a b:=rfl
def Yel:cv .xK=JX:=rfl
def Yah(a b):cv (.vV a b)=EV a b:=rfl
def Zwd(a b c d e f):cv (.jH a b c d e f)=C0 a b c d e f:=rfl
def Ztv(a b c):cv (.ct a b c)=zE a b c:=rfl
def Zwb(a b c d e):cv (.mT a b c d e)=qp a b c d e:=rfl
def Ztw(a b c d e f):cv (.jI a b c d e f)=AD a b c d e f:=rfl
def Yam(a b c d e):cv (.vW a b c d e)=JY a b c d e:=rfl
def Yal(a b):cv (.bJ a b)=EX a b:=rfl
def Yaj(a b c d e):cv (.lookup a b c d e)=Hp a b c d e:=rfl
def Yai(a b c d):cv (.vP a b c d)=EY a b c d:=rfl
def Ztx(a):cv (.jJ a)=Hq a:=rfl
def Zwc(a):cv (.rD a)=Hr a:=rfl
def Yak(a):cv (.vX a)=LS a:=rfl
def Ypd(a):cv (.cap a)=JZ a:=rfl
def Ys5(a):cv (.mn a)=zG a:=rfl
def Ys4(a):cv (.mx a)=rO a:=rfl
def Yao(a b c d e f):cv (.append a b c d e f)=C2 a b c d e f:=rfl
def Yjl(a b c):cv (.copy a b c)=C3 a b c:=rfl
def Yep(a b c):cv (.clear a b c)=J0 a b c:=rfl
def Yo9(a b):cv (.JG a b)=EZ a b:=rfl
def Yej(a):cv (.Ar a)=J1 a:=rfl
def Yji(a b c):cv (.GO a b c)=J3 a b c:=rfl
def Ypc(a b):cv (.ext a b)=Ht a b:=rfl
def Yf1{ng k x y}:vY ng (.bI k) x y=aJ ng k x y:=by cases x<;>cases y<;>rfl
attribute [simp] Yn9 Yhq Ytr Yig Yn8 Yii Yn6 Yim Ybx Zw3 Ydd Yil Ydc Yn7 Zt6 Ya2 Yfe Zpw Zwq Zt7 Yvz Yov Yi5 Yja Yd6 Ycg Yv0 Ya3
 Yi6 Yd4 Yd7 Zz9 Zv3 Ytc Zwp Ytd HM Yfv Yff Yfg
 Zwh Ztu Ztz Zwe Yel Yah Zwd Ztv Zwb Ztw Yam Yal Yaj Yai Ztx Zwc Yak Ypd Ys5 Ys4 Yao Yjl Yep Yo9 Yej Yji Ypc Yf1
structure ab (h:T O) (n:Nat) (h':T O) (n':Nat):Prop where
 le:n<=n'
 get:∀i,i<n->h'.get i=h.get i
def ab.refl{h:T O}{n:Nat}:ab h n h n:=⟨aO _,fun _ _=>rfl⟩
def ab.trans{h h1 h2:T O}{n n1 n2:Nat}(a:ab h n h1 n1)(b:ab h1 n1 h2 n2):ab h n h2 n2:=
 ⟨p9 a.le b.le,fun i hi=>(b.get i (e_ hi a.le)).trans (a.get i hi)⟩
def ab.set{h h1:T O}{n n1:Nat}{i:Nat}{o:O}(hi:n<=i)(a:ab h n h1 n1):ab h n (h1.set i o) n1:=
 ⟨a.le,fun j hj=>by rw[T.ag,ak (by omega)];exact a.get j hj⟩
def ab.up{h h1:T O}{n n1 n2:Nat}(a:ab h n h1 n1)(hn:n1<=n2):ab h n h1 n2:=⟨p9 a.le hn,a.get⟩
def az(P:V->T O->Nat->Prop)(h:T O)(n:Nat)(w:List Nat)(v:V)(st:St):Prop:=st.w=w/\ab h n st.h st.n/\P v st.h st.n
abbrev Fn(C:Cx)(f:Nat)(args:List V)(h:T O)(n:Nat)(P:V->T O->Nat->Prop):Prop:=∀w,Call C (.func f [] []) args ⟨h,n,w⟩ (az P h n w)
def ay{C:Cx}{f args h n w P K Q}(hf:Fn C f args h n P)(k:∀v h' n',ab h n h' n'->P v h' n'->bz C K (some (.val v ⟨h',n',w⟩)) Q):bz C K (tB (C.call (.func f [] []) args ⟨h,n,w⟩)) Q:=
 An (hf w) fun v aA=>by
  obtain⟨h',n',w'⟩:=aA
  rintro⟨rfl,hk,hp⟩
  exact k v h' n' hk hp
def Zqj{N:Nat}:∀{w:List Nat},(∀i∈w,N<=i)->ar N w=[]
 |[],_=>rfl
 |i::w,h=>by
  have:=h i pR
  simp only[ar,tK.2 this,if_false]
  exact Zqj fun j hj=>h j (pG _ hj)
end
end Go.Mx
