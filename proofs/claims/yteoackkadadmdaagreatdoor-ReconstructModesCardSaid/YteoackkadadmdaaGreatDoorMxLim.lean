/-Runs without a count of steps-/
import Derived.Test.YteoackkadadmdaaGreatDoorMxTab
set_option linter.all false
namespace Go.Mx
open Go
def Le(a b:cG):Prop:=∀g args st r,a g args st=some r->b g args st=some r
def OS{a b:cG}(h:Le a b)(op:fX)(r:T V)(st:St){o:V×St}(e:ct op a r st=some o):ct op b r st=some o:=by
 cases op<;>try exact e
 rename_i f args
 show yv f args b r st=some o
 have e:yv f args a r st=some o:=e
 unfold yv at e ⊢
 split at e
 ·exact h _ _ _ _ e
 ·cases e
def KJ{a b:cG}(h:Le a b):∀(ops:List dt) (fr:Fr) (st:St) {o:Fr×St},dC a ops fr st=some o->dC b ops fr st=some o
 |[],_,_,_,e=>e
 |q::ops,fr,st,o,e=>by
  have e:AP a q (dC a ops) fr st=some o:=e
  show AP b q (dC b ops) fr st=some o
  unfold AP at e ⊢
  split at e
  ·split at e
   ·rename_i v aB h1
    rw[OS h _ _ _ h1]
    simp only[]
    split at e
    ·exact KJ h ops _ _ e
    ·cases e
   ·cases e
  ·split at e
   ·exact KJ h ops _ _ e
   ·cases e
  ·cases e
def OT{a b:cG}(h:Le a b):∀(ops:List dt) (fr:Fr) (st:St) {o:List FP×Fr×St},bS a ops fr st=some o->bS b ops fr st=some o
 |[],_,_,_,e=>e
 |q::ops,fr,st,o,e=>by
  have e:AQ a q (bS a ops) fr st=some o:=e
  show AQ b q (bS b ops) fr st=some o
  unfold AQ at e ⊢
  split at e
  ·split at e
   ·rename_i v aB h1
    rw[OS h _ _ _ h1]
    simp only[]
    split at e
    ·split at e
     ·rename_i h2
      rw[OT h ops _ _ h2]
      exact e
     ·cases e
    ·cases e
   ·cases e
  ·split at e
   ·split at e
    ·rename_i h2
     rw[OT h ops _ _ h2]
     exact e
    ·cases e
   ·cases e
  ·cases e
def D8(a b:pD):Prop:=∀ro c fr st r,a ro c fr st=some r->b ro c fr st=some r
def Zkv{a b:cG}{p q:pD}(h:Le a b)(hc:D8 p q)(ro:Option Nat)(c:av)(fr:Fr)(st:St){o:Ex×Fr×St}(e:mA c a p ro fr st=some o):mA c b q ro fr st=some o:=by
 cases c with
 |skip=>exact e
 |aR ops=>
  have e:zt ops a p ro fr st=some o:=e
  show zt ops b q ro fr st=some o
  unfold zt at e ⊢
  split at e
  ·rename_i h1;rw[KJ h _ _ _ h1];exact e
  ·cases e
 |aX ops ms=>
  have e:zu ops ms a p ro fr st=some o:=e
  show zu ops ms b q ro fr st=some o
  unfold zu at e ⊢
  split at e
  ·rename_i h1;rw[OT h _ _ _ h1];exact e
  ·cases e
 |xF dst ch send zero ops=>
  have e:AS dst ch send zero ops a p ro fr st=some o:=e
  show AS dst ch send zero ops b q ro fr st=some o
  unfold AS at e ⊢
  split at e
  ·split at e
   ·split at e
    ·split at e
     ·rename_i h1;rw[KJ h _ _ _ h1];exact e
     ·cases e
    ·cases e
   ·cases e
  ·cases e
 |seq x y=>
  have e:AT x y a p ro fr st=some o:=e
  show AT x y b q ro fr st=some o
  unfold AT at e ⊢
  split at e
  ·rename_i h1;rw[hc _ _ _ _ _ h1];exact hc _ _ _ _ _ e
  ·rename_i h1
   have:=hc _ _ _ _ _ e
   rw[this]
   rcases o with⟨_|_|_,_,_⟩
   ·exact absurd e (h1 _ _)
   ·rfl
   ·rfl
 |cond x y z=>
  have e:xM x y z a p ro fr st=some o:=e
  show xM x y z b q ro fr st=some o
  unfold xM at e ⊢
  split at e
  ·exact hc _ _ _ _ _ e
  ·exact hc _ _ _ _ _ e
  ·cases e
 |block id x=>
  have e:AU id x a p ro fr st=some o:=e
  show AU id x b q ro fr st=some o
  unfold AU at e ⊢
  split at e
  ·rename_i h1;rw[hc _ _ _ _ _ h1];exact e
  ·rename_i h1
   have:=hc _ _ _ _ _ e
   rw[this]
   rcases o with⟨_|_|_,_,_⟩
   ·rfl
   ·exact absurd e (h1 _ _ _)
   ·rfl
 |loop x=>
  have e:AW x a p ro fr st=some o:=e
  show AW x b q ro fr st=some o
  unfold AW at e ⊢
  split at e
  ·rename_i h1;rw[hc _ _ _ _ _ h1];exact hc _ _ _ _ _ e
  ·rename_i h1
   have:=hc _ _ _ _ _ e
   rw[this]
   rcases o with⟨_|_|_,_,_⟩
   ·exact absurd e (h1 _ _)
   ·rfl
   ·rfl
 |iV g ps x y=>
  have e:yY g ps x y a p ro fr st=some o:=e
  show yY g ps x y b q ro fr st=some o
  unfold yY at e ⊢
  split at e
  ·cases e
  ·split at e
   ·cases e
   ·rename_i hy
    simp only[hy]
    split at e
    ·cases e
    ·split at e
     ·cases e
     ·rename_i h1;rw[h _ _ _ _ h1];exact e
 |exit id=>exact e
 |scope x=>exact hc _ _ _ _ _ e
 |ret=>exact e
 |stop=>exact e
def zP{a b:cG}(h:Le a b):∀(F F':Nat),F<=F'->D8 (dL a F) (dL b F')
 |0,_,_=>fun _ _ _ _ _ e=>by cases e
 |F+1,0,hF=>by omega
 |F+1,F'+1,hF=>fun ro c fr st _ e=>Zkv h (zP h F F' (by omega)) ro c fr st e
def Zta{p q:pD}(h:D8 p q){mf:ku}{args:List V}{st:St}{o:V×St}(e:B3 mf p args st=some o):B3 mf q args st=some o:=by
 unfold B3 at e ⊢
 split at e
 ·cases e
 ·rename_i h0
  rw[ar h0]
  cases h1:p none mf.body {r:=yw .nil 0 args,n:=mf.ntmps,marks:=[]} {st with w:=[]} with
  |none=>rw[h1]at e;cases e
  |some r=>rw[h1]at e;rw[h _ _ _ _ _ h1];exact e
def Zqt{p q:pD}(h:D8 p q){l:Nat}{args:List V}{st:St}{o:V×St}(e:BD p l args st=some o):BD q l args st=some o:=by
 unfold BD at e ⊢
 split at e
 ·split at e
  ·cases e
  ·split at e
   ·rename_i h1
    rw[h _ _ _ _ _ h1]
    simp only[]
    split at e
    ·split at e
     ·rename_i hr
      rw[aF hr]
      split at e
      ·rename_i h2
       rw[h _ _ _ _ _ h2]
       exact e
      ·cases e
     ·cases e
    ·cases e
   ·cases e
 ·cases e
def UT{dG:Nat->Option ku}{p q:pD}(h:D8 p q):Le (xN dG p) (xN dG q):=by
 intro g args st o e
 unfold xN at e ⊢
 split at e
 ·split at e
  ·exact Zta h e
  ·cases e
 ·exact Zqt h e
 ·cases e
def Znt{x a b:cG}(h:Le a b):Le (rP x a) (rP x b):=by
 intro g args st o e
 unfold rP at e ⊢
 split at e
 ·exact e
 ·exact h _ _ _ _ e
def OU{x:cG}{dG:Nat->Option ku}{F F':Nat}(hF:F<=F'):∀(d d':Nat),d<=d'->Le (yA x dG F d) (yA x dG F' d')
 |0,0,_=>fun _ _ _ _ e=>e
 |0,d'+1,_=>fun g args st o e=>by
  have e:x g args st=some o:=e
  show rP x _ g args st=some o
  unfold rP;rw[e]
 |d+1,0,h=>by omega
 |d+1,d'+1,h=>Znt (UT (zP (OU hF d d' (by omega)) F F' hF))
structure Cx where
 x:cG
 dG:Nat->Option ku
def Cx.at(C:Cx)(N:Nat):cG:=yA C.x C.dG N N
def Cx.dT{C:Cx}{N M:Nat}(h:N<=M):Le (C.at N) (C.at M):=OU h N M h
open Classical in
noncomputable def Cx.call(C:Cx):cG:=fun g args st=>if h:∃r N,C.at N g args st=some r then some h.choose else none
def Cx.fy{C:Cx}{g args st r}:C.call g args st=some r↔∃N,C.at N g args st=some r:=by
 unfold Cx.call
 constructor
 ·intro h
  split at h
  ·rename_i hc
   simp only[al]at h
   exact h▸hc.choose_spec
  ·cases h
 ·rintro⟨N,h⟩
  have hc:∃r N,C.at N g args st=some r:=⟨r,N,h⟩
  rw[dif_pos hc]
  obtain⟨M,hM⟩:=hc.choose_spec
  have h1:=Cx.dT (BR N M) _ _ _ _ h
  have h2:=Cx.dT (BO N M) _ _ _ _ hM
  rw[h1]at h2
  exact congrArg some (pk h2).symm
open Classical in
noncomputable def Cx.code(C:Cx):pD:=fun ro c fr st=>if h:∃r F,dL C.call F ro c fr st=some r then some h.choose else none
def Cx.fz{C:Cx}{ro c fr st r}:C.code ro c fr st=some r↔∃F,dL C.call F ro c fr st=some r:=by
 unfold Cx.code
 constructor
 ·intro h
  split at h
  ·rename_i hc
   simp only[al]at h
   exact h▸hc.choose_spec
  ·cases h
 ·rintro⟨N,h⟩
  have hc:∃r F,dL C.call F ro c fr st=some r:=⟨r,N,h⟩
  rw[dif_pos hc]
  obtain⟨M,hM⟩:=hc.choose_spec
  have h1:=zP (fun _ _ _ _ e=>e) N (max N M) (BR N M) _ _ _ _ _ h
  have h2:=zP (fun _ _ _ _ e=>e) M (max N M) (BO N M) _ _ _ _ _ hM
  rw[h1]at h2
  exact congrArg some (pk h2).symm
def Ych{α:Type}{a b:Option α}(h:∀r,a=some r↔b=some r):a=b:=by
 cases a with
 |none=>cases b with
  |none=>rfl
  |some r=>exact absurd ((h r).2 rfl) (by simp)
 |some r=>exact((h r).1 rfl).symm
def OV{a:cG}{p:pD}{q:Nat->pD}(hq:∀n m,n<=m->D8 (q n) (q m))(hp:∀ro c fr st r,p ro c fr st=some r->∃n,q n ro c fr st=some r)(ro:Option Nat)(c:av)(fr:Fr)(st:St){o:Ex×Fr×St}(e:mA c a p ro fr st=some o):∃n,mA c a (q n) ro fr st=some o:=by
 cases c with
 |skip=>exact⟨0,e⟩
 |aR ops=>exact⟨0,e⟩
 |aX ops ms=>exact⟨0,e⟩
 |xF dst ch send zero ops=>exact⟨0,e⟩
 |seq x y=>
  have e:AT x y a p ro fr st=some o:=e
  show ∃n,AT x y a (q n) ro fr st=some o
  unfold AT at e ⊢
  split at e
  ·rename_i h1
   obtain⟨n,hn⟩:=hp _ _ _ _ _ h1
   obtain⟨m,hm⟩:=hp _ _ _ _ _ e
   refine⟨max n m,?_⟩
   rw[hq n _ (BR n m) _ _ _ _ _ hn]
   exact hq m _ (BO n m) _ _ _ _ _ hm
  ·rename_i h1
   obtain⟨n,hn⟩:=hp _ _ _ _ _ e
   refine⟨n,?_⟩
   rw[hn]
   rcases o with⟨_|_|_,_,_⟩
   ·exact absurd e (h1 _ _)
   ·rfl
   ·rfl
 |cond x y z=>
  have e:xM x y z a p ro fr st=some o:=e
  show ∃n,xM x y z a (q n) ro fr st=some o
  unfold xM at e ⊢
  split at e
  ·exact hp _ _ _ _ _ e
  ·exact hp _ _ _ _ _ e
  ·cases e
 |block id x=>
  have e:AU id x a p ro fr st=some o:=e
  show ∃n,AU id x a (q n) ro fr st=some o
  unfold AU at e ⊢
  split at e
  ·rename_i h1
   obtain⟨n,hn⟩:=hp _ _ _ _ _ h1
   exact⟨n,by rw[hn];exact e⟩
  ·rename_i h1
   obtain⟨n,hn⟩:=hp _ _ _ _ _ e
   refine⟨n,?_⟩
   rw[hn]
   rcases o with⟨_|_|_,_,_⟩
   ·rfl
   ·exact absurd e (h1 _ _ _)
   ·rfl
 |loop x=>
  have e:AW x a p ro fr st=some o:=e
  show ∃n,AW x a (q n) ro fr st=some o
  unfold AW at e ⊢
  split at e
  ·rename_i h1
   obtain⟨n,hn⟩:=hp _ _ _ _ _ h1
   obtain⟨m,hm⟩:=hp _ _ _ _ _ e
   refine⟨max n m,?_⟩
   rw[hq n _ (BR n m) _ _ _ _ _ hn]
   exact hq m _ (BO n m) _ _ _ _ _ hm
  ·rename_i h1
   obtain⟨n,hn⟩:=hp _ _ _ _ _ e
   refine⟨n,?_⟩
   rw[hn]
   rcases o with⟨_|_|_,_,_⟩
   ·exact absurd e (h1 _ _)
   ·rfl
   ·rfl
 |iV g ps x y=>exact⟨0,e⟩
 |exit id=>exact⟨0,e⟩
 |scope x=>exact hp _ _ _ _ _ e
 |ret=>exact⟨0,e⟩
 |stop=>exact⟨0,e⟩
def Cx.dj{C:Cx}(ro:Option Nat)(c:av)(fr:Fr)(st:St):C.code ro c fr st=mA c C.call C.code ro fr st:=by
 apply Ych
 intro r
 constructor
 ·intro h
  obtain⟨F,hF⟩:=Cx.fz.1 h
  cases F with
  |zero=>cases hF
  |succ F=>exact Zkv (fun _ _ _ _ e=>e) (fun ro c fr st r e=>Cx.fz.2 ⟨F,e⟩) ro c fr st hF
 ·intro h
  obtain⟨n,hn⟩:=OV (q:=dL C.call) (zP fun _ _ _ _ e=>e) (fun _ _ _ _ _ e=>Cx.fz.1 e) ro c fr st h
  exact Cx.fz.2 ⟨n+1,hn⟩
def Zwx{C:Cx}(op:fX)(r:T V)(st:St){o:V×St}(e:ct op C.call r st=some o):∃N,ct op (C.at N) r st=some o:=by
 cases op<;>try exact⟨0,e⟩
 rename_i f args
 have e:yv f args C.call r st=some o:=e
 show ∃N,yv f args (C.at N) r st=some o
 unfold yv at e ⊢
 split at e
 ·exact Cx.fy.1 e
 ·cases e
def OW{C:Cx}:∀(ops:List dt) (fr:Fr) (st:St) {o:Fr×St},dC C.call ops fr st=some o->∃N,dC (C.at N) ops fr st=some o
 |[],_,_,_,e=>⟨0,e⟩
 |q::ops,fr,st,o,e=>by
  have e:AP C.call q (dC C.call ops) fr st=some o:=e
  show ∃N,AP (C.at N) q (dC (C.at N) ops) fr st=some o
  unfold AP at e ⊢
  split at e
  ·split at e
   ·rename_i v aB h1
    split at e
    ·obtain⟨N,hN⟩:=Zwx _ _ _ h1
     obtain⟨M,hM⟩:=OW ops _ _ e
     refine⟨max N M,?_⟩
     rw[OS (Cx.dT (BR N M)) _ _ _ hN]
     rename_i h3
     simp only[h3]
     exact KJ (Cx.dT (BO N M)) _ _ _ hM
    ·cases e
   ·cases e
  ·split at e
   ·exact OW ops _ _ e
   ·cases e
  ·cases e
def UU{C:Cx}:∀(ops:List dt) (fr:Fr) (st:St) {o:List FP×Fr×St},bS C.call ops fr st=some o->∃N,bS (C.at N) ops fr st=some o
 |[],_,_,_,e=>⟨0,e⟩
 |q::ops,fr,st,o,e=>by
  have e:AQ C.call q (bS C.call ops) fr st=some o:=e
  show ∃N,AQ (C.at N) q (bS (C.at N) ops) fr st=some o
  unfold AQ at e ⊢
  split at e
  ·split at e
   ·rename_i v aB h1
    split at e
    ·rename_i h3
     split at e
     ·rename_i h2
      obtain⟨N,hN⟩:=Zwx _ _ _ h1
      obtain⟨M,hM⟩:=UU ops _ _ h2
      refine⟨max N M,?_⟩
      rw[OS (Cx.dT (BR N M)) _ _ _ hN]
      simp only[h3]
      rw[OT (Cx.dT (BO N M)) _ _ _ hM]
      exact e
     ·cases e
    ·cases e
   ·cases e
  ·split at e
   ·split at e
    ·rename_i h2
     obtain⟨M,hM⟩:=UU ops _ _ h2
     exact⟨M,by rw[hM];exact e⟩
    ·cases e
   ·cases e
  ·cases e
def Zpy{C:Cx}:∀(F:Nat) (ro:Option Nat) (c:av) (fr:Fr) (st:St) {o:Ex×Fr×St},dL C.call F ro c fr st=some o->∃N,dL (C.at N) F ro c fr st=some o
 |0,_,_,_,_,_,e=>by cases e
 |F+1,ro,c,fr,st,o,e=>by
  have e:mA c C.call (dL C.call F) ro fr st=some o:=e
  show ∃N,mA c (C.at N) (dL (C.at N) F) ro fr st=some o
  have ih:=@Zpy C F
  have up:∀{n m:Nat},n<=m->D8 (dL (C.at n) F) (dL (C.at m) F):=fun h=>zP (Cx.dT h) F F (aW _)
  cases c with
  |aR ops=>
   have e:zt ops C.call (dL C.call F) ro fr st=some o:=e
   show ∃N,zt ops (C.at N) (dL (C.at N) F) ro fr st=some o
   unfold zt at e ⊢
   split at e
   ·rename_i h1
    obtain⟨N,hN⟩:=OW _ _ _ h1
    exact⟨N,by rw[hN];exact e⟩
   ·cases e
  |aX ops ms=>
   have e:zu ops ms C.call (dL C.call F) ro fr st=some o:=e
   show ∃N,zu ops ms (C.at N) (dL (C.at N) F) ro fr st=some o
   unfold zu at e ⊢
   split at e
   ·rename_i h1
    obtain⟨N,hN⟩:=UU _ _ _ h1
    exact⟨N,by rw[hN];exact e⟩
   ·cases e
  |xF dst ch send zero ops=>
   have e:AS dst ch send zero ops C.call (dL C.call F) ro fr st=some o:=e
   show ∃N,AS dst ch send zero ops (C.at N) (dL (C.at N) F) ro fr st=some o
   unfold AS at e ⊢
   split at e
   ·split at e
    ·split at e
     ·split at e
      ·rename_i h1
       obtain⟨N,hN⟩:=OW _ _ _ h1
       exact⟨N,by rw[hN];exact e⟩
      ·cases e
     ·cases e
    ·cases e
   ·cases e
  |iV g ps x y=>
   have e:yY g ps x y C.call (dL C.call F) ro fr st=some o:=e
   show ∃N,yY g ps x y (C.at N) (dL (C.at N) F) ro fr st=some o
   unfold yY at e ⊢
   split at e
   ·cases e
   ·split at e
    ·cases e
    ·rename_i hy
     simp only[hy]
     split at e
     ·cases e
     ·split at e
      ·cases e
      ·rename_i h1
       obtain⟨N,hN⟩:=Cx.fy.1 h1
       exact⟨N,by rw[hN];exact e⟩
  |skip=>exact⟨0,e⟩
  |exit id=>exact⟨0,e⟩
  |ret=>exact⟨0,e⟩
  |stop=>cases e
  |scope x=>exact ih _ _ _ _ e
  |cond x y z=>
   have e:xM x y z C.call (dL C.call F) ro fr st=some o:=e
   show ∃N,xM x y z (C.at N) (dL (C.at N) F) ro fr st=some o
   unfold xM at e ⊢
   split at e
   ·exact ih _ _ _ _ e
   ·exact ih _ _ _ _ e
   ·cases e
  |seq x y=>exact OV (a:=C.call) (q:=fun n=>dL (C.at n) F) (fun _ _ h=>up h) (fun _ _ _ _ _ e=>ih _ _ _ _ e) ro (.seq x y) fr st e
  |block id x=>exact OV (a:=C.call) (q:=fun n=>dL (C.at n) F) (fun _ _ h=>up h) (fun _ _ _ _ _ e=>ih _ _ _ _ e) ro (.block id x) fr st e
  |loop x=>exact OV (a:=C.call) (q:=fun n=>dL (C.at n) F) (fun _ _ h=>up h) (fun _ _ _ _ _ e=>ih _ _ _ _ e) ro (.loop x) fr st e
def Cx.pK{C:Cx}{ro c fr st r}(h:C.code ro c fr st=some r):∃N,dL (C.at N) N ro c fr st=some r:=by
 obtain⟨F,hF⟩:=Cx.fz.1 h
 obtain⟨N,hN⟩:=Zpy F _ _ _ _ hF
 exact⟨max F N,zP (Cx.dT (BO F N)) _ _ (BR F N) _ _ _ _ _ hN⟩
def Zkx{dG:Nat->Option ku}{p:pD}{q:Nat->pD}(hq:∀n m,n<=m->D8 (q n) (q m))(hp:∀ro c fr st r,p ro c fr st=some r->∃n,q n ro c fr st=some r){g args st}{o:V×St}(e:xN dG p g args st=some o):∃n,xN dG (q n) g args st=some o:=by
 unfold xN at e ⊢
 split at e
 ·split at e
  ·rename_i mf _
   unfold B3 at e ⊢
   split at e
   ·cases e
   ·rename_i h0
    simp only[h0,if_false]
    cases h1:p none mf.body {r:=yw .nil 0 _,n:=mf.ntmps,marks:=[]} {st with w:=[]} with
    |none=>rw[h1]at e;cases e
    |some r=>
     rw[h1]at e
     obtain⟨n,hn⟩:=hp _ _ _ _ _ h1
     exact⟨n,by rw[hn];exact e⟩
  ·cases e
 ·unfold BD at e ⊢
  split at e
  ·split at e
   ·cases e
   ·split at e
    ·rename_i h1
     obtain⟨n,hn⟩:=hp _ _ _ _ _ h1
     split at e
     ·split at e
      ·split at e
       ·rename_i h4 h5 _ _ _ _ h2
        obtain⟨m,hm⟩:=hp _ _ _ _ _ h2
        refine⟨max n m,?_⟩
        rw[hq n _ (BR n m) _ _ _ _ _ hn]
        simp only[h4,h5,if_true]
        rw[hq m _ (BO n m) _ _ _ _ _ hm]
        exact e
       ·cases e
      ·cases e
     ·cases e
    ·cases e
  ·cases e
 ·cases e
def Cx.mw{C:Cx}(g:V)(args:List V)(st:St):C.call g args st=rP C.x (xN C.dG C.code) g args st:=by
 apply Ych
 intro r
 constructor
 ·intro h
  obtain⟨N,hN⟩:=Cx.fy.1 h
  cases N with
  |zero=>
   have e:C.x g args st=some r:=hN
   unfold rP;rw[e]
  |succ N=>
   refine Znt (x:=C.x) (UT (p:=dL (yA C.x C.dG (N+1) N) (N+1)) fun ro c fr st r e=>?_) _ _ _ _ hN
   refine Cx.fz.2 ⟨N+1,?_⟩
   refine zP (fun g args st r e=>?_) (N+1) (N+1) (aW _) _ _ _ _ _ e
   exact Cx.fy.2 ⟨N+1,OU (aW _) N (N+1) (by omega) _ _ _ _ e⟩
 ·intro h
  unfold rP at h
  split at h
  ·rename_i r' e
   simp only[al]at h
   subst h
   exact Cx.fy.2 ⟨0,e⟩
  ·rename_i hx
   obtain⟨N,hN⟩:=Zkx (q:=fun n=>dL (C.at n) n) (fun n m h=>zP (Cx.dT h) n m h) (fun _ _ _ _ _ e=>Cx.pK e) h
   refine Cx.fy.2 ⟨N+1,?_⟩
   show rP C.x (xN C.dG (dL (yA C.x C.dG (N+1) N) (N+1))) g args st=some r
   unfold rP
   rw[hx]
   exact UT (zP (OU (by omega) N N (aW _)) N (N+1) (by omega)) _ _ _ _ hN
inductive Rs where
 |ex (e:Ex) (fr:Fr) (st:St)
 |val (v:V) (st:St)
 |ops (fr:Fr) (st:St)
 |qF (gS:List FP) (fr:Fr) (st:St)
inductive Kf where
 |seq (ro:Option Nat) (b:av)
 |block (id:Nat)
 |loop (ro:Option Nat) (c:av)
 |aR
 |put (d:Option Nat) (ops:List dt) (fr:Fr)
 |aX (ms:List Nat)
 |vf (op:fX) (d:Option Nat) (ops:List dt) (fr:Fr) (n:Nat) (w:List Nat)
 |cons (fp:FP)
 |fin (rs:List Df) (st:St)
def eH:Option (Ex×Fr×St)->Option Rs
 |some (e,fr,st)=>some (.ex e fr st)
 |none=>none
def rX:Option (V×St)->Option Rs
 |some (v,st)=>some (.val v st)
 |none=>none
def A4:Option (Fr×St)->Option Rs
 |some (fr,st)=>some (.ops fr st)
 |none=>none
def zQ:Option (List FP×Fr×St)->Option Rs
 |some (gS,fr,st)=>some (.qF gS fr st)
 |none=>none
noncomputable def qf(C:Cx):Kf->Rs->Option Rs
 |.seq ro b,.ex .normal fr st=>eH (C.code ro b fr st)
 |.seq _ _,.ex e fr st=>some (.ex e fr st)
 |.block id,.ex (.exit AV) fr st=>match Nat.beq AV id with
  |true=>some (.ex .normal fr st)
  |false=>some (.ex (.exit AV) fr st)
 |.block _,.ex e fr st=>some (.ex e fr st)
 |.loop ro c,.ex .normal fr st=>eH (C.code ro (.loop c) fr st)
 |.loop _ _,.ex e fr st=>some (.ex e fr st)
 |.aR,.ops fr st=>some (.ex .normal fr st)
 |.put d ops fr,.val v st=>match fr.put d v with
  |some fr=>A4 (dC C.call ops fr st)
  |none=>none
 |.aX ms,.qF gS fr st=>match js gS ms with
  |true=>some (.ex .normal fr st)
  |false=>none
 |.vf op d ops fr n w,.val v aB=>match fr.put d v with
  |some bL=>match bS C.call ops bL {aB with w:=ax n aB.w++w} with
   |some (gS,fr'',st'')=>some (.qF (oF fr.r op (ax n aB.w) n aB.n::gS) fr'' st'')
   |none=>none
  |none=>none
 |.cons fp,.qF gS fr st=>some (.qF (fp::gS) fr st)
 |.fin _ _,.ex (.exit _) _ _=>none
 |.fin rs KK,.ex _ fr cf=>match shut cf fr.marks with
  |none=>none
  |some eF=>match fw fr.r eF rs with
   |some vs=>some (.val (DK vs) {eF with w:=ax KK.n eF.w++KK.w})
   |none=>none
 |_,_=>none
noncomputable def kL(C:Cx)(k:Kf):Option Rs->Option Rs
 |some r=>qf C k r
 |none=>none
noncomputable def iA(C:Cx):List Kf->Option Rs->Option Rs
 |[],r=>r
 |k::K,r=>iA C K (kL C k r)
def Zv5{C:Cx}:∀K,iA C K none=none
 |[]=>rfl
 |_::K=>Zv5 K
structure bH (C:Cx) (K:List Kf) (r:Option Rs) (Q:Rs->Prop):Prop where
 ex:∃s,iA C K r=some s/\Q s
def iL{C:Cx}{K K':List Kf}{r r':Option Rs}{Q:Rs->Prop}(h:iA C K r=iA C K' r'):bH C K r Q↔bH C K' r' Q:=
 ⟨fun ⟨s,e,q⟩=>⟨s,h▸e,q⟩,fun ⟨s,e,q⟩=>⟨s,h.symm▸e,q⟩⟩
def IQ{C:Cx}{K:List Kf}{Q:Rs->Prop}:bH C K none Q↔False:=
 ⟨fun ⟨_,h,_⟩=>(by rw[Zv5]at h;cases h),fun h=>h.elim⟩
def Yl9{C:Cx}{s:Rs}{Q:Rs->Prop}:bH C [] (some s) Q↔Q s:=
 ⟨fun ⟨_,h,q⟩=>by simp only[iA,al]at h;exact h▸q,fun q=>⟨s,rfl,q⟩⟩
structure Call (C:Cx) (g:V) (args:List V) (st:St) (P:V->St->Prop):Prop where
 ex:∃v aB,C.call g args st=some (v,aB)/\P v aB
structure Code (C:Cx) (ro:Option Nat) (c:av) (fr:Fr) (st:St) (P:Ex->Fr->St->Prop):Prop where
 ex:∃e bL aB,C.code ro c fr st=some (e,bL,aB)/\P e bL aB
def Ci(P:V->St->Prop):Rs->Prop
 |.val v st=>P v st
 |_=>False
def UW(P:Ex->Fr->St->Prop):Rs->Prop
 |.ex e fr st=>P e fr st
 |_=>False
def Yf8{P:V->St->Prop}{v st}:Ci P (.val v st)↔P v st:=Iff.rfl
def Yrf{P:Ex->Fr->St->Prop}{e fr st}:UW P (.ex e fr st)↔P e fr st:=Iff.rfl
def aO{C:Cx}{g args st P}:Call C g args st P↔bH C [] (rX (C.call g args st)) (Ci P):=by
 constructor
 ·rintro⟨v,aB,h,p⟩
  exact⟨.val v aB,by rw[h];rfl,p⟩
 ·rintro⟨s,h,q⟩
  cases hc:C.call g args st with
  |none=>rw[hc]at h;cases h
  |some r=>
   rw[hc]at h
   simp only[iA,rX,al]at h
   subst h
   exact⟨_,_,hc,q⟩
def bq{C:Cx}{ro c fr st P}:Code C ro c fr st P↔bH C [] (eH (C.code ro c fr st)) (UW P):=by
 constructor
 ·rintro⟨e,bL,aB,h,p⟩
  exact⟨.ex e bL aB,by rw[h];rfl,p⟩
 ·rintro⟨s,h,q⟩
  cases hc:C.code ro c fr st with
  |none=>rw[hc]at h;cases h
  |some r=>
   rw[hc]at h
   simp only[iA,eH,al]at h
   subst h
   exact⟨_,_,_,hc,q⟩
def zy{C:Cx}{g args st P K Q}(h:Call C g args st P)(k:∀v aB,P v aB->bH C K (some (.val v aB)) Q):bH C K (rX (C.call g args st)) Q:=by
 obtain⟨v,aB,e,p⟩:=h.ex
 rw[e]
 exact k v aB p
def jZ{C:Cx}{ro c fr st P K Q}(h:Code C ro c fr st P)(k:∀e bL aB,P e bL aB->bH C K (some (.ex e bL aB)) Q):bH C K (eH (C.code ro c fr st)) Q:=by
 obtain⟨e,bL,aB,h,p⟩:=h.ex
 rw[h]
 exact k e bL aB p
def Call.mono{C:Cx}{g args st}{P Q:V->St->Prop}(h:Call C g args st P)(k:∀v aB,P v aB->Q v aB):Call C g args st Q:=by
 obtain⟨v,aB,e,p⟩:=h.ex
 exact⟨v,aB,e,k v aB p⟩
def Yqw(I:Nat->Fr->St->Prop)(k:Nat)(P:Ex->Fr->St->Prop):Ex->Fr->St->Prop
 |.normal,fr,st=>∃k',k'<k/\I k' fr st
 |e,fr,st=>P e fr st
def Code.loop{C:Cx}{ro c}{P:Ex->Fr->St->Prop}{I:Nat->Fr->St->Prop}(h:∀k fr st,I k fr st->Code C ro c fr st (Yqw I k P)):∀(k:Nat) (fr:Fr) (st:St),I k fr st->Code C ro (.loop c) fr st P:=by
 intro k
 induction k using Nat.strongRecOn with
 |_ k ih=>
  intro fr st hi
  obtain⟨e,bL,aB,h1,p⟩:=(h k fr st hi).ex
  have e1:C.code ro (.loop c) fr st=AW c C.call C.code ro fr st:=Cx.dj ro (.loop c) fr st
  unfold AW at e1
  rw[h1]at e1
  cases e with
  |normal=>
   obtain⟨k',hk,iF⟩:=p
   obtain⟨e2,yZ,eF,h2,p2⟩:=(ih k' hk bL aB iF).ex
   exact⟨e2,yZ,eF,e1.trans h2,p2⟩
  |exit id=>exact⟨_,_,_,e1,p⟩
  |ret=>exact⟨_,_,_,e1,p⟩
def Ygx{C:Cx}{ro c}{K:List Kf}{Q:Rs->Prop}{fr:Fr}{st:St}(P:Ex->Fr->St->Prop)(I:Nat->Fr->St->Prop)(k:Nat)(hi:I k fr st)(h:∀k fr st,I k fr st->Code C ro c fr st (Yqw I k P))(q:∀e bL aB,P e bL aB->bH C K (some (.ex e bL aB)) Q):bH C K (eH (C.code ro (.loop c) fr st)) Q:=
 jZ (Code.loop h k fr st hi) q
section
variable {C:Cx} {K:List Kf} {Q:Rs->Prop} {ro:Option Nat} {a b c:av} {fr:Fr} {st:St}
def Ygu:bH C K (eH (C.code ro .skip fr st)) Q↔bH C K (some (.ex .normal fr st)) Q:=iL (by rw[Cx.dj];rfl)
def Yl8{ops}:bH C K (eH (C.code ro (.aR ops) fr st)) Q↔bH C (.aR::K) (A4 (dC C.call ops fr st)) Q:=iL (by
 rw[Cx.dj]
 show iA C K (eH (zt ops C.call C.code ro fr st))=iA C K (kL C .aR (A4 (dC C.call ops fr st)))
 unfold zt
 rcases dC C.call ops fr st with _|⟨_,_⟩<;>rfl)
def Ygw{ops ms}:bH C K (eH (C.code ro (.aX ops ms) fr st)) Q↔bH C (.aX ms::K) (zQ (bS C.call ops fr st)) Q:=iL (by
 rw[Cx.dj]
 show iA C K (eH (zu ops ms C.call C.code ro fr st))=iA C K (kL C (.aX ms) (zQ (bS C.call ops fr st)))
 unfold zu
 rcases bS C.call ops fr st with _|⟨gS,_,_⟩
 ·rfl
 ·simp only[zQ,kL,qf]
  cases js gS ms<;>rfl)
def Yl6:bH C K (eH (C.code ro (.seq a b) fr st)) Q↔bH C (.seq ro b::K) (eH (C.code ro a fr st)) Q:=iL (by
 rw[Cx.dj]
 show iA C K (eH (AT a b C.call C.code ro fr st))=iA C K (kL C (.seq ro b) (eH (C.code ro a fr st)))
 unfold AT
 rcases C.code ro a fr st with _|⟨e,_,_⟩
 ·rfl
 ·cases e<;>rfl)
noncomputable def OX(C:Cx)(ro:Option Nat)(a b:av)(fr:Fr)(st:St):Option V->Option Rs
 |some (.bool true)=>eH (C.code ro a fr st)
 |some (.bool false)=>eH (C.code ro b fr st)
 |_=>none
def Yg0{x}:bH C K (eH (C.code ro (.cond x a b) fr st)) Q↔bH C K (OX C ro a b fr st (x.ev fr.r)) Q:=iL (by
 rw[Cx.dj]
 show iA C K (eH (xM x a b C.call C.code ro fr st))=_
 unfold xM OX
 rcases x.ev fr.r with _|v
 ·rfl
 ·cases v<;>try rfl
  rename_i b'
  cases b'<;>rfl)
def Yal:OX C ro a b fr st (some (.bool true))=eH (C.code ro a fr st):=rfl
def Zvq:OX C ro a b fr st (some (.bool false))=eH (C.code ro b fr st):=rfl
def Ybz{id}:bH C K (eH (C.code ro (.block id a) fr st)) Q↔bH C (.block id::K) (eH (C.code ro a fr st)) Q:=iL (by
 rw[Cx.dj]
 show iA C K (eH (AU id a C.call C.code ro fr st))=iA C K (kL C (.block id) (eH (C.code ro a fr st)))
 unfold AU
 rcases C.code ro a fr st with _|⟨e,_,_⟩
 ·rfl
 ·cases e with
  |exit AV=>simp only[eH,kL,qf];cases Nat.beq AV id<;>rfl
  |_=>rfl)
def Ygz{id}:bH C K (eH (C.code ro (.exit id) fr st)) Q↔bH C K (some (.ex (.exit id) fr st)) Q:=iL (by rw[Cx.dj];rfl)
def Yby:bH C K (eH (C.code ro (.scope a) fr st)) Q↔bH C K (eH (C.code ro a fr st)) Q:=iL (by rw[Cx.dj];rfl)
def Yl7:bH C K (eH (C.code ro .ret fr st)) Q↔bH C K (some (.ex .ret fr st)) Q:=iL (by rw[Cx.dj];rfl)
def Zs0:bH C (.seq ro b::K) (some (.ex .normal fr st)) Q↔bH C K (eH (C.code ro b fr st)) Q:=iL rfl
def Zzp{i}:bH C (.seq ro b::K) (some (.ex (.exit i) fr st)) Q↔bH C K (some (.ex (.exit i) fr st)) Q:=iL rfl
def Ydt:bH C (.seq ro b::K) (some (.ex .ret fr st)) Q↔bH C K (some (.ex .ret fr st)) Q:=iL rfl
def Zo5{i}:bH C (.block i::K) (some (.ex .normal fr st)) Q↔bH C K (some (.ex .normal fr st)) Q:=iL rfl
def Zvi{i}:bH C (.block i::K) (some (.ex .ret fr st)) Q↔bH C K (some (.ex .ret fr st)) Q:=iL rfl
def Zs1{i}:bH C (.block i::K) (some (.ex (.exit i) fr st)) Q↔bH C K (some (.ex .normal fr st)) Q:=iL (by simp[iA,kL,qf,Nat.beq_refl])
def Zq8{i j}(h:Nat.beq j i=false):bH C (.block i::K) (some (.ex (.exit j) fr st)) Q↔bH C K (some (.ex (.exit j) fr st)) Q:=iL (by simp[iA,kL,qf,h])
def Ytp:bH C (.aR::K) (some (.ops fr st)) Q↔bH C K (some (.ex .normal fr st)) Q:=iL rfl
def Ymt:A4 (dC C.call [] fr st)=some (.ops fr st):=rfl
def UX(C:Cx)(K:List Kf)(Q:Rs->Prop)(d:Option Nat)(op:fX)(ops:List dt)(fr:Fr)(st:St):Option Bool->Prop
 |some true=>bH C (.put d ops fr::K) (rX (ct op C.call fr.r st)) Q
 |some false=>bH C (.put d ops fr::K) (some (.val (.bg []) st)) Q
 |none=>False
def Yhi{d op g ops}:bH C K (A4 (dC C.call (⟨d,op,g⟩::ops) fr st)) Q↔UX C K Q d op ops fr st (b_ fr.r g):=by
 have e:dC C.call (⟨d,op,g⟩::ops) fr st=AP C.call ⟨d,op,g⟩ (dC C.call ops) fr st:=rfl
 rw[e]
 unfold AP
 simp only[]
 rcases b_ fr.r g with _|b
 ·exact IQ
 ·cases b
  ·show _↔bH C (.put d ops fr::K) (some (.val (.bg []) st)) Q
   refine iL ?_
   show _=iA C K (qf C (.put d ops fr) (.val (.bg []) st))
   simp only[qf]
   rcases fr.put d (.bg [])with _|_<;>rfl
  ·show _↔bH C (.put d ops fr::K) (rX (ct op C.call fr.r st)) Q
   refine iL ?_
   show _=iA C K (kL C (.put d ops fr) (rX (ct op C.call fr.r st)))
   rcases ct op C.call fr.r st with _|⟨v,aB⟩
   ·rfl
   ·simp only[rX,kL,qf]
    rcases fr.put d v with _|_<;>rfl
def Yhn{d op ops}:UX C K Q d op ops fr st (some true)↔bH C (.put d ops fr::K) (rX (ct op C.call fr.r st)) Q:=Iff.rfl
def Ycm{d op ops}:UX C K Q d op ops fr st (some false)↔bH C (.put d ops fr::K) (some (.val (.bg []) st)) Q:=Iff.rfl
def Ya4{v:V}:rX (some (v,st))=some (.val v st):=rfl
def Ytq{d n m r ops v}(h:d<n):bH C (.put (some d) ops ⟨r,n,m⟩::K) (some (.val v st)) Q↔bH C K (A4 (dC C.call ops ⟨r.set d v,n,m⟩ st)) Q:=iL (by simp[iA,kL,qf,Fr.put,h])
def Zzq{ops v}:bH C (.put none ops fr::K) (some (.val v st)) Q↔bH C K (A4 (dC C.call ops fr st)) Q:=iL rfl
def Yhj:zQ (bS C.call [] fr st)=some (.qF [] fr st):=rfl
def KL(C:Cx)(K:List Kf)(Q:Rs->Prop)(d:Option Nat)(op:fX)(ops:List dt)(fr:Fr)(h:T O)(n:Nat)(w:List Nat):Option Bool->Prop
 |some true=>bH C (.vf op d ops fr n w::K) (rX (ct op C.call fr.r ⟨h,n,[]⟩)) Q
 |some false=>bH C (.cons ⟨some [],[],n,n⟩::K) (match fr.put d (.bg [])with|some bL=>zQ (bS C.call ops bL ⟨h,n,w⟩)|none=>none) Q
 |none=>False
def Yck{d op g ops h n w}:bH C K (zQ (bS C.call (⟨d,op,g⟩::ops) fr ⟨h,n,w⟩)) Q↔KL C K Q d op ops fr h n w (b_ fr.r g):=by
 have e:bS C.call (⟨d,op,g⟩::ops) fr ⟨h,n,w⟩=AQ C.call ⟨d,op,g⟩ (bS C.call ops) fr ⟨h,n,w⟩:=rfl
 rw[e]
 unfold AQ
 simp only[]
 rcases b_ fr.r g with _|b
 ·exact IQ
 ·cases b
  ·show _↔bH C (.cons ⟨some [],[],n,n⟩::K) (match fr.put d (.bg [])with|some bL=>zQ (bS C.call ops bL ⟨h,n,w⟩)|none=>none) Q
   refine iL ?_
   show _=iA C K (kL C (.cons ⟨some [],[],n,n⟩) _)
   rcases fr.put d (.bg [])with _|bL
   ·rfl
   ·simp only[]
    rcases bS C.call ops bL ⟨h,n,w⟩with _|⟨_,_,_⟩<;>rfl
  ·show _↔bH C (.vf op d ops fr n w::K) (rX (ct op C.call fr.r ⟨h,n,[]⟩)) Q
   refine iL ?_
   show _=iA C K (kL C (.vf op d ops fr n w) (rX (ct op C.call fr.r ⟨h,n,[]⟩)))
   rcases ct op C.call fr.r ⟨h,n,[]⟩with _|⟨v,aB⟩
   ·rfl
   ·simp only[rX,kL,qf]
    rcases fr.put d v with _|bL
    ·rfl
    ·simp only[]
     rcases bS C.call ops bL {aB with w:=ax n aB.w++w} with _|⟨_,_,_⟩<;>rfl
def Ycn{d op ops h n w}:KL C K Q d op ops fr h n w (some true)↔bH C (.vf op d ops fr n w::K) (rX (ct op C.call fr.r ⟨h,n,[]⟩)) Q:=Iff.rfl
def Zyw{d n m r ops op h N w}(hd:d<n):KL C K Q (some d) op ops ⟨r,n,m⟩ h N w (some false)↔bH C (.cons ⟨some [],[],N,N⟩::K) (zQ (bS C.call ops ⟨r.set d (.bg []),n,m⟩ ⟨h,N,w⟩)) Q:=by simp[KL,Fr.put,hd]
def Zuw{ops op h N w}:KL C K Q none op ops fr h N w (some false)↔bH C (.cons ⟨some [],[],N,N⟩::K) (zQ (bS C.call ops fr ⟨h,N,w⟩)) Q:=Iff.rfl
def Yq0{op d n m r ops v N w h' n' w'}(h:d<n):bH C (.vf op (some d) ops ⟨r,n,m⟩ N w::K) (some (.val v ⟨h',n',w'⟩)) Q↔bH C (.cons (oF r op (ax N w') N n')::K) (zQ (bS C.call ops ⟨r.set d v,n,m⟩ ⟨h',n',ax N w'++w⟩)) Q:=iL (by
 simp only[iA,kL,qf,Fr.put,h,if_true]
 rcases bS C.call ops _ _ with _|⟨_,_,_⟩<;>rfl)
def Zvh{op ops v N w h' n' w'}:bH C (.vf op none ops fr N w::K) (some (.val v ⟨h',n',w'⟩)) Q↔bH C (.cons (oF fr.r op (ax N w') N n')::K) (zQ (bS C.call ops fr ⟨h',n',ax N w'++w⟩)) Q:=iL (by
 simp only[iA,kL,qf,Fr.put]
 rcases bS C.call ops _ _ with _|⟨_,_,_⟩<;>rfl)
def Yq1{fp gS}:bH C (.cons fp::K) (some (.qF gS fr st)) Q↔bH C K (some (.qF (fp::gS) fr st)) Q:=iL rfl
def D9{ms gS}(h:js gS ms=true):bH C (.aX ms::K) (some (.qF gS fr st)) Q↔bH C K (some (.ex .normal fr st)) Q:=iL (by simp only[iA,kL,qf,h])
def Ygy{g first fY args mf}(hx:C.x (.func g first fY) args st=none)(h:C.dG g=some mf)(hl:(first++args++fY).length<=mf.ntmps):bH C K (rX (C.call (.func g first fY) args st)) Q↔bH C (.fin mf.results st::K) (eH (C.code none mf.body ⟨yw .nil 0 (first++args++fY),mf.ntmps,[]⟩ ⟨st.h,st.n,[]⟩)) Q:=iL (by
 rw[Cx.mw]
 unfold rP
 rw[hx]
 simp only[xN,h,B3,sH.2 hl,if_false]
 show _=iA C K (kL C (.fin mf.results st) _)
 unfold T7
 rcases C.code none mf.body _ _ with _|⟨e,dS,cf⟩
 ·rfl
 ·cases e with
  |exit=>rfl
  |normal=>
   simp only[eH,kL,qf]
   rcases shut cf dS.marks with _|eF
   ·rfl
   ·simp only[]
    rcases fw dS.r eF mf.results with _|_<;>rfl
  |ret=>
   simp only[eH,kL,qf]
   rcases shut cf dS.marks with _|eF
   ·rfl
   ·simp only[]
    rcases fw dS.r eF mf.results with _|_<;>rfl)
def Oc(h:T O)(n:Nat)(w:List Nat):Option (List V)->Option Rs
 |some vs=>some (.val (DK vs) ⟨h,n,w⟩)
 |none=>none
def Yee{h n w vs}:Oc h n w (some vs)=some (.val (DK vs) ⟨h,n,w⟩):=rfl
def Ydu{rs r n h1 n1 w1}:bH C (.fin rs st::K) (some (.ex .ret ⟨r,n,[]⟩ ⟨h1,n1,w1⟩)) Q↔bH C K (Oc h1 n1 (ax st.n w1++st.w) (fw r ⟨h1,n1,w1⟩ rs)) Q:=iL (by
 simp only[iA,kL,qf,shut]
 rcases fw r ⟨h1,n1,w1⟩ rs with _|_<;>rfl)
def Ydv{rs r n h1 n1 w1}:bH C (.fin rs st::K) (some (.ex .normal ⟨r,n,[]⟩ ⟨h1,n1,w1⟩)) Q↔bH C K (Oc h1 n1 (ax st.n w1++st.w) (fw r ⟨h1,n1,w1⟩ rs)) Q:=iL (by
 simp only[iA,kL,qf,shut]
 rcases fw r ⟨h1,n1,w1⟩ rs with _|_<;>rfl)
end
def Zva(a):ct (.qu a)=Iu a:=rfl
def Zso(a b):ct (.gI a b)=DF a b:=rfl
def Zst(a):ct (.fx a)=F0 a:=rfl
def Zu7(a b):ct (.e_ a b)=Iv a b:=rfl
def Yc0:ct .wG=Iw:=rfl
def Zy4(a b):ct (.uK a b)=DG a b:=rfl
def Zu6(a b c d e f):ct (.bY a b c d e f)=BW a b c d e f:=rfl
def Zsp(a b c):ct (.aD a b c)=yt a b c:=rfl
def Zu4(a b c d e):ct (.cQ a b c d e)=pC a b c d e:=rfl
def Zsq(a b c d e f):ct (.du a b c d e f)=zr a b c d e f:=rfl
def Zy9(a b c d e):ct (.uL a b c d e)=Ix a b c d e:=rfl
def Zy8(a b):ct (.aZ a b)=DI a b:=rfl
def Zy6(a b c d e):ct (.lookup a b c d e)=F6 a b c d e:=rfl
def Zy5(a b c d):ct (.uD a b c d)=DJ a b c d:=rfl
def Zsr(a):ct (.jr a)=F7 a:=rfl
def Zu5(a):ct (.qm a)=F8 a:=rfl
def Zy7(a):ct (.uM a)=Ki a:=rfl
def Yna(a):ct (.cap a)=Iy a:=rfl
def Yqs(a):ct (.mn a)=yu a:=rfl
def Yqr(a):ct (.mx a)=qy a:=rfl
def Zzb(a b c d e f):ct (.append a b c d e f)=BY a b c d e f:=rfl
def Yhx(a b c):ct (.copy a b c)=BZ a b c:=rfl
def Yc4(a b c):ct (.clear a b c)=Iz a b c:=rfl
def Ym6(a b):ct (.Ie a b)=B0 a b:=rfl
def Ycy(a):ct (.wF a)=IA a:=rfl
def Yhu(a b c):ct (.BI a b c)=IB a b c:=rfl
def Ym9(a b):ct (.ext a b)=Ga a b:=rfl
def Yod{ng k x y}:wM ng (.aM k) x y=aI ng k x y:=by cases x<;>cases y<;>rfl
attribute [simp] Yl9 Yf8 Yrf Ygu Yl8 Ygw Yl6 Yg0 Yal Zvq Ybz Ygz Yby Yl7 Zs0 Zzp Ydt Zo5 Zvi Zs1 Ytp Ymt Yhi Yhn Ycm Ya4 Ytq Zzq
 Yhj Yck Ycn Zyw Zuw Yq0 Zvh Yq1 D9 Yee Ydu Ydv
 Zva Zso Zst Zu7 Yc0 Zy4 Zu6 Zsp Zu4 Zsq Zy9 Zy8 Zy6 Zy5 Zsr Zu5 Zy7 Yna Yqs Yqr Zzb Yhx Yc4 Ym6 Ycy Yhu Ym9 Yod
structure ab (h:T O) (n:Nat) (h':T O) (n':Nat):Prop where
 le:n<=n'
 get:∀i,i<n->h'.get i=h.get i
def ab.refl{h:T O}{n:Nat}:ab h n h n:=⟨aW _,fun _ _=>rfl⟩
def ab.trans{h h1 h2:T O}{n n1 n2:Nat}(a:ab h n h1 n1)(b:ab h1 n1 h2 n2):ab h n h2 n2:=
 ⟨sJ a.le b.le,fun i hi=>(b.get i (fE hi a.le)).trans (a.get i hi)⟩
def ab.set{h h1:T O}{n n1:Nat}{i:Nat}{o:O}(hi:n<=i)(a:ab h n h1 n1):ab h n (h1.set i o) n1:=
 ⟨a.le,fun j hj=>by rw[T.ag,ar (by omega)];exact a.get j hj⟩
def ab.up{h h1:T O}{n n1 n2:Nat}(a:ab h n h1 n1)(hn:n1<=n2):ab h n h1 n2:=⟨sJ a.le hn,a.get⟩
def az(P:V->T O->Nat->Prop)(h:T O)(n:Nat)(w:List Nat)(v:V)(st:St):Prop:=st.w=w/\ab h n st.h st.n/\P v st.h st.n
abbrev Fn(C:Cx)(f:Nat)(args:List V)(h:T O)(n:Nat)(P:V->T O->Nat->Prop):Prop:=∀w,Call C (.func f [] []) args ⟨h,n,w⟩ (az P h n w)
def aA{C:Cx}{f args h n w P K Q}(hf:Fn C f args h n P)(k:∀v h' n',ab h n h' n'->P v h' n'->bH C K (some (.val v ⟨h',n',w⟩)) Q):bH C K (rX (C.call (.func f [] []) args ⟨h,n,w⟩)) Q:=
 zy (hf w) fun v aB=>by
  obtain⟨h',n',w'⟩:=aB
  rintro⟨rfl,hk,hp⟩
  exact k v h' n' hk hp
def Zpt{N:Nat}:∀{w:List Nat},(∀i∈w,N<=i)->ax N w=[]
 |[],_=>rfl
 |i::w,h=>by
  have:=h i pn
  simp only[ax,sH.2 this,if_false]
  exact Zpt fun j hj=>h j (o9 _ hj)
end Go.Mx
