/-
  Runs without a count of steps: what a call and a piece of code come to, if they come to an end.
-/
import Derived.Test.YtlbophlgohokkaaGreatDoorMxTab
set_option linter.all false
namespace Go.Mx
open Go
def Le(a b:cm):Prop:=∀g args st r,a g args st=some r->b g args st=some r
theorem Mh{a b:cm}(h:Le a b)(op:gG)(r:T V)(st:St){o:V×St}(e:bZ op a r st=some o):bZ op b r st=some o:=by
 cases op<;>try exact e
 rename_i f args
 show vV f args b r st=some o
 have e:vV f args a r st=some o:=e
 unfold vV at e ⊢
 split at e
 ·exact h _ _ _ _ e
 ·cases e
theorem Ix{a b:cm}(h:Le a b):∀(ops:List df) (fr:Fr) (st:St) {o:Fr×St},cU a ops fr st=some o->cU b ops fr st=some o
 |[],_,_,_,e=>e
 |q::ops,fr,st,o,e=>by
  have e:yM a q (cU a ops) fr st=some o:=e
  show yM b q (cU b ops) fr st=some o
  unfold yM at e ⊢
  split at e
  ·split at e
   ·rename_i v av h1
    rw[Mh h _ _ _ h1]
    simp only[]
    split at e
    ·exact Ix h ops _ _ e
    ·cases e
   ·cases e
  ·split at e
   ·exact Ix h ops _ _ e
   ·cases e
  ·cases e
theorem Mi{a b:cm}(h:Le a b):∀(ops:List df) (fr:Fr) (st:St) {o:List FP×Fr×St},bK a ops fr st=some o->bK b ops fr st=some o
 |[],_,_,_,e=>e
 |q::ops,fr,st,o,e=>by
  have e:yN a q (bK a ops) fr st=some o:=e
  show yN b q (bK b ops) fr st=some o
  unfold yN at e ⊢
  split at e
  ·split at e
   ·rename_i v av h1
    rw[Mh h _ _ _ h1]
    simp only[]
    split at e
    ·split at e
     ·rename_i h2
      rw[Mi h ops _ _ h2]
      exact e
     ·cases e
    ·cases e
   ·cases e
  ·split at e
   ·split at e
    ·rename_i h2
     rw[Mi h ops _ _ h2]
     exact e
    ·cases e
   ·cases e
  ·cases e
def BT(a b:nF):Prop:=∀ro c fr st r,a ro c fr st=some r->b ro c fr st=some r
theorem XH{a b:cm}{p q:nF}(h:Le a b)(hc:BT p q)(ro:Option Nat)(c:aq)(fr:Fr)(st:St){o:Ex×Fr×St}(e:kh c a p ro fr st=some o):kh c b q ro fr st=some o:=by
 cases c with
 |skip=>exact e
 |aM ops=>
  have e:xd ops a p ro fr st=some o:=e
  show xd ops b q ro fr st=some o
  unfold xd at e ⊢
  split at e
  ·rename_i h1;rw[Ix h _ _ _ h1];exact e
  ·cases e
 |aV ops ms=>
  have e:xe ops ms a p ro fr st=some o:=e
  show xe ops ms b q ro fr st=some o
  unfold xe at e ⊢
  split at e
  ·rename_i h1;rw[Mi h _ _ _ h1];exact e
  ·cases e
 |uP dst ch send zero ops=>
  have e:xf dst ch send zero ops a p ro fr st=some o:=e
  show xf dst ch send zero ops b q ro fr st=some o
  unfold xf at e ⊢
  split at e
  ·split at e
   ·split at e
    ·split at e
     ·rename_i h1;rw[Ix h _ _ _ h1];exact e
     ·cases e
    ·cases e
   ·cases e
  ·cases e
 |seq x y=>
  have e:yP x y a p ro fr st=some o:=e
  show yP x y b q ro fr st=some o
  unfold yP at e ⊢
  split at e
  ·rename_i h1;rw[hc _ _ _ _ _ h1];exact hc _ _ _ _ _ e
  ·rename_i h1
   have:=hc _ _ _ _ _ e
   rw[this]
   rcases o with⟨_|_|_,_,_⟩
   ·exact absurd e (h1 _ _)
   ·rfl
   ·rfl
 |cond x y z=>
  have e:u9 x y z a p ro fr st=some o:=e
  show u9 x y z b q ro fr st=some o
  unfold u9 at e ⊢
  split at e
  ·exact hc _ _ _ _ _ e
  ·exact hc _ _ _ _ _ e
  ·cases e
 |block id x=>
  have e:yQ id x a p ro fr st=some o:=e
  show yQ id x b q ro fr st=some o
  unfold yQ at e ⊢
  split at e
  ·rename_i h1;rw[hc _ _ _ _ _ h1];exact e
  ·rename_i h1
   have:=hc _ _ _ _ _ e
   rw[this]
   rcases o with⟨_|_|_,_,_⟩
   ·rfl
   ·exact absurd e (h1 _ _ _)
   ·rfl
 |loop x=>
  have e:yS x a p ro fr st=some o:=e
  show yS x b q ro fr st=some o
  unfold yS at e ⊢
  split at e
  ·rename_i h1;rw[hc _ _ _ _ _ h1];exact hc _ _ _ _ _ e
  ·rename_i h1
   have:=hc _ _ _ _ _ e
   rw[this]
   rcases o with⟨_|_|_,_,_⟩
   ·exact absurd e (h1 _ _)
   ·rfl
   ·rfl
 |oC g ps x y=>
  have e:zS g ps x y a p ro fr st=some o:=e
  show zS g ps x y b q ro fr st=some o
  unfold zS at e ⊢
  split at e
  ·cases e
  ·split at e
   ·cases e
   ·rename_i hy
    simp only[hy]
    split at e
    ·cases e
    ·split at e
     ·cases e
     ·rename_i h1;rw[h _ _ _ _ h1];exact e
 |exit id=>exact e
 |scope x=>exact hc _ _ _ _ _ e
 |ret=>exact e
 |stop=>exact e
theorem xD{a b:cm}(h:Le a b):∀(F F':Nat),F<=F'->BT (dn a F) (dn b F')
 |0,_,_=>fun _ _ _ _ _ e=>by cases e
 |F+1,0,hF=>by omega
 |F+1,F'+1,hF=>fun ro c fr st _ e=>XH h (xD h F F' (by omega)) ro c fr st e
theorem Zr7{p q:nF}(h:BT p q){mf:jE}{args:List V}{st:St}{o:V×St}(e:zT mf p args st=some o):zT mf q args st=some o:=by
 unfold zT at e ⊢
 split at e
 ·cases e
 ·rename_i h0
  rw[au h0]
  cases h1:p none mf.body {r:=vW .nil 0 args,n:=mf.ntmps,marks:=[]} {st with w:=[]} with
  |none=>rw[h1]at e;cases e
  |some r=>rw[h1]at e;rw[h _ _ _ _ _ h1];exact e
theorem Zpu{p q:nF}(h:BT p q){l:Nat}{args:List V}{st:St}{o:V×St}(e:Ds p l args st=some o):Ds q l args st=some o:=by
 unfold Ds at e ⊢
 split at e
 ·split at e
  ·cases e
  ·split at e
   ·rename_i h1
    rw[h _ _ _ _ _ h1]
    simp only[]
    split at e
    ·split at e
     ·rename_i hr
      rw[aF hr]
      split at e
      ·rename_i h2
       rw[h _ _ _ _ _ h2]
       exact e
      ·cases e
     ·cases e
    ·cases e
   ·cases e
 ·cases e
theorem Sd{dc:Nat->Option jE}{p q:nF}(h:BT p q):Le (u_ dc p) (u_ dc q):=by
 intro g args st o e
 unfold u_ at e ⊢
 split at e
 ·split at e
  ·exact Zr7 h e
  ·cases e
 ·exact Zpu h e
 ·cases e
theorem XI{x a b:cm}(h:Le a b):Le (qB x a) (qB x b):=by
 intro g args st o e
 unfold qB at e ⊢
 split at e
 ·exact e
 ·exact h _ _ _ _ e
theorem Mj{x:cm}{dc:Nat->Option jE}{F F':Nat}(hF:F<=F'):∀(d d':Nat),d<=d'->Le (we x dc F d) (we x dc F' d')
 |0,0,_=>fun _ _ _ _ e=>e
 |0,d'+1,_=>fun g args st o e=>by
  have e:x g args st=some o:=e
  show qB x _ g args st=some o
  unfold qB;rw[e]
 |d+1,0,h=>by omega
 |d+1,d'+1,h=>XI (Sd (xD (Mj hF d d' (by omega)) F F' hF))
structure Cx where
 x:cm
 dc:Nat->Option jE
def Cx.at(C:Cx)(N:Nat):cm:=we C.x C.dc N N
theorem Cx.dC{C:Cx}{N M:Nat}(h:N<=M):Le (C.at N) (C.at M):=Mj h N M h
open Classical in
noncomputable def Cx.call(C:Cx):cm:=fun g args st=>if h:∃r N,C.at N g args st=some r then some h.choose else none
theorem Cx.e_{C:Cx}{g args st r}:C.call g args st=some r↔∃N,C.at N g args st=some r:=by
 unfold Cx.call
 constructor
 ·intro h
  split at h
  ·rename_i hc
   simp only[aj]at h
   exact h▸hc.choose_spec
  ·cases h
 ·rintro⟨N,h⟩
  have hc:∃r N,C.at N g args st=some r:=⟨r,N,h⟩
  rw[dif_pos hc]
  obtain⟨M,hM⟩:=hc.choose_spec
  have h1:=Cx.dC (zH N M) _ _ _ _ h
  have h2:=Cx.dC (zE N M) _ _ _ _ hM
  rw[h1]at h2
  exact congrArg some (p_ h2).symm
open Classical in
noncomputable def Cx.code(C:Cx):nF:=fun ro c fr st=>if h:∃r F,dn C.call F ro c fr st=some r then some h.choose else none
theorem Cx.fb{C:Cx}{ro c fr st r}:C.code ro c fr st=some r↔∃F,dn C.call F ro c fr st=some r:=by
 unfold Cx.code
 constructor
 ·intro h
  split at h
  ·rename_i hc
   simp only[aj]at h
   exact h▸hc.choose_spec
  ·cases h
 ·rintro⟨N,h⟩
  have hc:∃r F,dn C.call F ro c fr st=some r:=⟨r,N,h⟩
  rw[dif_pos hc]
  obtain⟨M,hM⟩:=hc.choose_spec
  have h1:=xD (fun _ _ _ _ e=>e) N (max N M) (zH N M) _ _ _ _ _ h
  have h2:=xD (fun _ _ _ _ e=>e) M (max N M) (zE N M) _ _ _ _ _ hM
  rw[h1]at h2
  exact congrArg some (p_ h2).symm
theorem XJ{α:Type}{a b:Option α}(h:∀r,a=some r↔b=some r):a=b:=by
 cases a with
 |none=>cases b with
  |none=>rfl
  |some r=>exact absurd ((h r).2 rfl) (by simp)
 |some r=>exact((h r).1 rfl).symm
theorem Mk{a:cm}{p:nF}{q:Nat->nF}(hq:∀n m,n<=m->BT (q n) (q m))(hp:∀ro c fr st r,p ro c fr st=some r->∃n,q n ro c fr st=some r)(ro:Option Nat)(c:aq)(fr:Fr)(st:St){o:Ex×Fr×St}(e:kh c a p ro fr st=some o):∃n,kh c a (q n) ro fr st=some o:=by
 cases c with
 |skip=>exact⟨0,e⟩
 |aM ops=>exact⟨0,e⟩
 |aV ops ms=>exact⟨0,e⟩
 |uP dst ch send zero ops=>exact⟨0,e⟩
 |seq x y=>
  have e:yP x y a p ro fr st=some o:=e
  show ∃n,yP x y a (q n) ro fr st=some o
  unfold yP at e ⊢
  split at e
  ·rename_i h1
   obtain⟨n,hn⟩:=hp _ _ _ _ _ h1
   obtain⟨m,hm⟩:=hp _ _ _ _ _ e
   refine⟨max n m,?_⟩
   rw[hq n _ (zH n m) _ _ _ _ _ hn]
   exact hq m _ (zE n m) _ _ _ _ _ hm
  ·rename_i h1
   obtain⟨n,hn⟩:=hp _ _ _ _ _ e
   refine⟨n,?_⟩
   rw[hn]
   rcases o with⟨_|_|_,_,_⟩
   ·exact absurd e (h1 _ _)
   ·rfl
   ·rfl
 |cond x y z=>
  have e:u9 x y z a p ro fr st=some o:=e
  show ∃n,u9 x y z a (q n) ro fr st=some o
  unfold u9 at e ⊢
  split at e
  ·exact hp _ _ _ _ _ e
  ·exact hp _ _ _ _ _ e
  ·cases e
 |block id x=>
  have e:yQ id x a p ro fr st=some o:=e
  show ∃n,yQ id x a (q n) ro fr st=some o
  unfold yQ at e ⊢
  split at e
  ·rename_i h1
   obtain⟨n,hn⟩:=hp _ _ _ _ _ h1
   exact⟨n,by rw[hn];exact e⟩
  ·rename_i h1
   obtain⟨n,hn⟩:=hp _ _ _ _ _ e
   refine⟨n,?_⟩
   rw[hn]
   rcases o with⟨_|_|_,_,_⟩
   ·rfl
   ·exact absurd e (h1 _ _ _)
   ·rfl
 |loop x=>
  have e:yS x a p ro fr st=some o:=e
  show ∃n,yS x a (q n) ro fr st=some o
  unfold yS at e ⊢
  split at e
  ·rename_i h1
   obtain⟨n,hn⟩:=hp _ _ _ _ _ h1
   obtain⟨m,hm⟩:=hp _ _ _ _ _ e
   refine⟨max n m,?_⟩
   rw[hq n _ (zH n m) _ _ _ _ _ hn]
   exact hq m _ (zE n m) _ _ _ _ _ hm
  ·rename_i h1
   obtain⟨n,hn⟩:=hp _ _ _ _ _ e
   refine⟨n,?_⟩
   rw[hn]
   rcases o with⟨_|_|_,_,_⟩
   ·exact absurd e (h1 _ _)
   ·rfl
   ·rfl
 |oC g ps x y=>exact⟨0,e⟩
 |exit id=>exact⟨0,e⟩
 |scope x=>exact hp _ _ _ _ _ e
 |ret=>exact⟨0,e⟩
 |stop=>exact⟨0,e⟩
theorem Cx.cW{C:Cx}(ro:Option Nat)(c:aq)(fr:Fr)(st:St):C.code ro c fr st=kh c C.call C.code ro fr st:=by
 apply XJ
 intro r
 constructor
 ·intro h
  obtain⟨F,hF⟩:=Cx.fb.1 h
  cases F with
  |zero=>cases hF
  |succ F=>exact XH (fun _ _ _ _ e=>e) (fun ro c fr st r e=>Cx.fb.2 ⟨F,e⟩) ro c fr st hF
 ·intro h
  obtain⟨n,hn⟩:=Mk (q:=dn C.call) (xD fun _ _ _ _ e=>e) (fun _ _ _ _ _ e=>Cx.fb.1 e) ro c fr st h
  exact Cx.fb.2 ⟨n+1,hn⟩
theorem XK{C:Cx}(op:gG)(r:T V)(st:St){o:V×St}(e:bZ op C.call r st=some o):∃N,bZ op (C.at N) r st=some o:=by
 cases op<;>try exact⟨0,e⟩
 rename_i f args
 have e:vV f args C.call r st=some o:=e
 show ∃N,vV f args (C.at N) r st=some o
 unfold vV at e ⊢
 split at e
 ·exact Cx.e_.1 e
 ·cases e
theorem Ml{C:Cx}:∀(ops:List df) (fr:Fr) (st:St) {o:Fr×St},cU C.call ops fr st=some o->∃N,cU (C.at N) ops fr st=some o
 |[],_,_,_,e=>⟨0,e⟩
 |q::ops,fr,st,o,e=>by
  have e:yM C.call q (cU C.call ops) fr st=some o:=e
  show ∃N,yM (C.at N) q (cU (C.at N) ops) fr st=some o
  unfold yM at e ⊢
  split at e
  ·split at e
   ·rename_i v av h1
    split at e
    ·obtain⟨N,hN⟩:=XK _ _ _ h1
     obtain⟨M,hM⟩:=Ml ops _ _ e
     refine⟨max N M,?_⟩
     rw[Mh (Cx.dC (zH N M)) _ _ _ hN]
     rename_i h3
     simp only[h3]
     exact Ix (Cx.dC (zE N M)) _ _ _ hM
    ·cases e
   ·cases e
  ·split at e
   ·exact Ml ops _ _ e
   ·cases e
  ·cases e
theorem Se{C:Cx}:∀(ops:List df) (fr:Fr) (st:St) {o:List FP×Fr×St},bK C.call ops fr st=some o->∃N,bK (C.at N) ops fr st=some o
 |[],_,_,_,e=>⟨0,e⟩
 |q::ops,fr,st,o,e=>by
  have e:yN C.call q (bK C.call ops) fr st=some o:=e
  show ∃N,yN (C.at N) q (bK (C.at N) ops) fr st=some o
  unfold yN at e ⊢
  split at e
  ·split at e
   ·rename_i v av h1
    split at e
    ·rename_i h3
     split at e
     ·rename_i h2
      obtain⟨N,hN⟩:=XK _ _ _ h1
      obtain⟨M,hM⟩:=Se ops _ _ h2
      refine⟨max N M,?_⟩
      rw[Mh (Cx.dC (zH N M)) _ _ _ hN]
      simp only[h3]
      rw[Mi (Cx.dC (zE N M)) _ _ _ hM]
      exact e
     ·cases e
    ·cases e
   ·cases e
  ·split at e
   ·split at e
    ·rename_i h2
     obtain⟨M,hM⟩:=Se ops _ _ h2
     exact⟨M,by rw[hM];exact e⟩
    ·cases e
   ·cases e
  ·cases e
theorem XL{C:Cx}:∀(F:Nat) (ro:Option Nat) (c:aq) (fr:Fr) (st:St) {o:Ex×Fr×St},dn C.call F ro c fr st=some o->∃N,dn (C.at N) F ro c fr st=some o
 |0,_,_,_,_,_,e=>by cases e
 |F+1,ro,c,fr,st,o,e=>by
  have e:kh c C.call (dn C.call F) ro fr st=some o:=e
  show ∃N,kh c (C.at N) (dn (C.at N) F) ro fr st=some o
  have ih:=@XL C F
  have up:∀{n m:Nat},n<=m->BT (dn (C.at n) F) (dn (C.at m) F):=fun h=>xD (Cx.dC h) F F (aS _)
  cases c with
  |aM ops=>
   have e:xd ops C.call (dn C.call F) ro fr st=some o:=e
   show ∃N,xd ops (C.at N) (dn (C.at N) F) ro fr st=some o
   unfold xd at e ⊢
   split at e
   ·rename_i h1
    obtain⟨N,hN⟩:=Ml _ _ _ h1
    exact⟨N,by rw[hN];exact e⟩
   ·cases e
  |aV ops ms=>
   have e:xe ops ms C.call (dn C.call F) ro fr st=some o:=e
   show ∃N,xe ops ms (C.at N) (dn (C.at N) F) ro fr st=some o
   unfold xe at e ⊢
   split at e
   ·rename_i h1
    obtain⟨N,hN⟩:=Se _ _ _ h1
    exact⟨N,by rw[hN];exact e⟩
   ·cases e
  |uP dst ch send zero ops=>
   have e:xf dst ch send zero ops C.call (dn C.call F) ro fr st=some o:=e
   show ∃N,xf dst ch send zero ops (C.at N) (dn (C.at N) F) ro fr st=some o
   unfold xf at e ⊢
   split at e
   ·split at e
    ·split at e
     ·split at e
      ·rename_i h1
       obtain⟨N,hN⟩:=Ml _ _ _ h1
       exact⟨N,by rw[hN];exact e⟩
      ·cases e
     ·cases e
    ·cases e
   ·cases e
  |oC g ps x y=>
   have e:zS g ps x y C.call (dn C.call F) ro fr st=some o:=e
   show ∃N,zS g ps x y (C.at N) (dn (C.at N) F) ro fr st=some o
   unfold zS at e ⊢
   split at e
   ·cases e
   ·split at e
    ·cases e
    ·rename_i hy
     simp only[hy]
     split at e
     ·cases e
     ·split at e
      ·cases e
      ·rename_i h1
       obtain⟨N,hN⟩:=Cx.e_.1 h1
       exact⟨N,by rw[hN];exact e⟩
  |skip=>exact⟨0,e⟩
  |exit id=>exact⟨0,e⟩
  |ret=>exact⟨0,e⟩
  |stop=>cases e
  |scope x=>exact ih _ _ _ _ e
  |cond x y z=>
   have e:u9 x y z C.call (dn C.call F) ro fr st=some o:=e
   show ∃N,u9 x y z (C.at N) (dn (C.at N) F) ro fr st=some o
   unfold u9 at e ⊢
   split at e
   ·exact ih _ _ _ _ e
   ·exact ih _ _ _ _ e
   ·cases e
  |seq x y=>exact Mk (a:=C.call) (q:=fun n=>dn (C.at n) F) (fun _ _ h=>up h) (fun _ _ _ _ _ e=>ih _ _ _ _ e) ro (.seq x y) fr st e
  |block id x=>exact Mk (a:=C.call) (q:=fun n=>dn (C.at n) F) (fun _ _ h=>up h) (fun _ _ _ _ _ e=>ih _ _ _ _ e) ro (.block id x) fr st e
  |loop x=>exact Mk (a:=C.call) (q:=fun n=>dn (C.at n) F) (fun _ _ h=>up h) (fun _ _ _ _ _ e=>ih _ _ _ _ e) ro (.loop x) fr st e
theorem Cx.nN{C:Cx}{ro c fr st r}(h:C.code ro c fr st=some r):∃N,dn (C.at N) N ro c fr st=some r:=by
 obtain⟨F,hF⟩:=Cx.fb.1 h
 obtain⟨N,hN⟩:=XL F _ _ _ _ hF
 exact⟨max F N,xD (Cx.dC (zE F N)) _ _ (zH F N) _ _ _ _ _ hN⟩
theorem XM{dc:Nat->Option jE}{p:nF}{q:Nat->nF}(hq:∀n m,n<=m->BT (q n) (q m))(hp:∀ro c fr st r,p ro c fr st=some r->∃n,q n ro c fr st=some r){g args st}{o:V×St}(e:u_ dc p g args st=some o):∃n,u_ dc (q n) g args st=some o:=by
 unfold u_ at e ⊢
 split at e
 ·split at e
  ·rename_i mf _
   unfold zT at e ⊢
   split at e
   ·cases e
   ·rename_i h0
    simp only[h0,if_false]
    cases h1:p none mf.body {r:=vW .nil 0 _,n:=mf.ntmps,marks:=[]} {st with w:=[]} with
    |none=>rw[h1]at e;cases e
    |some r=>
     rw[h1]at e
     obtain⟨n,hn⟩:=hp _ _ _ _ _ h1
     exact⟨n,by rw[hn];exact e⟩
  ·cases e
 ·unfold Ds at e ⊢
  split at e
  ·split at e
   ·cases e
   ·split at e
    ·rename_i h1
     obtain⟨n,hn⟩:=hp _ _ _ _ _ h1
     split at e
     ·split at e
      ·split at e
       ·rename_i h4 h5 _ _ _ _ h2
        obtain⟨m,hm⟩:=hp _ _ _ _ _ h2
        refine⟨max n m,?_⟩
        rw[hq n _ (zH n m) _ _ _ _ _ hn]
        simp only[h4,h5,if_true]
        rw[hq m _ (zE n m) _ _ _ _ _ hm]
        exact e
       ·cases e
      ·cases e
     ·cases e
    ·cases e
  ·cases e
 ·cases e
theorem Cx.oQ{C:Cx}(g:V)(args:List V)(st:St):C.call g args st=qB C.x (u_ C.dc C.code) g args st:=by
 apply XJ
 intro r
 constructor
 ·intro h
  obtain⟨N,hN⟩:=Cx.e_.1 h
  cases N with
  |zero=>
   have e:C.x g args st=some r:=hN
   unfold qB;rw[e]
  |succ N=>
   refine XI (x:=C.x) (Sd (p:=dn (we C.x C.dc (N+1) N) (N+1)) fun ro c fr st r e=>?_) _ _ _ _ hN
   refine Cx.fb.2 ⟨N+1,?_⟩
   refine xD (fun g args st r e=>?_) (N+1) (N+1) (aS _) _ _ _ _ _ e
   exact Cx.e_.2 ⟨N+1,Mj (aS _) N (N+1) (by omega) _ _ _ _ e⟩
 ·intro h
  unfold qB at h
  split at h
  ·rename_i r' e
   simp only[aj]at h
   subst h
   exact Cx.e_.2 ⟨0,e⟩
  ·rename_i hx
   obtain⟨N,hN⟩:=XM (q:=fun n=>dn (C.at n) n) (fun n m h=>xD (Cx.dC h) n m h) (fun _ _ _ _ _ e=>Cx.nN e) h
   refine Cx.e_.2 ⟨N+1,?_⟩
   show qB C.x (u_ C.dc (dn (we C.x C.dc (N+1) N) (N+1))) g args st=some r
   unfold qB
   rw[hx]
   exact Sd (xD (Mj (by omega) N N (aS _)) N (N+1) (by omega)) _ _ _ _ hN
inductive Rs where
 |ex (e:Ex) (fr:Fr) (st:St)
 |val (v:V) (st:St)
 |ops (fr:Fr) (st:St)
 |oT (fS:List FP) (fr:Fr) (st:St)
inductive Kf where
 |seq (ro:Option Nat) (b:aq)
 |block (id:Nat)
 |loop (ro:Option Nat) (c:aq)
 |aM
 |put (d:Option Nat) (ops:List df) (fr:Fr)
 |aV (ms:List Nat)
 |sD (op:gG) (d:Option Nat) (ops:List df) (fr:Fr) (n:Nat) (w:List Nat)
 |cons (fp:FP)
 |fin (rs:List CP) (st:St)
def eL:Option (Ex×Fr×St)->Option Rs
 |some (e,fr,st)=>some (.ex e fr st)
 |none=>none
def qe:Option (V×St)->Option Rs
 |some (v,st)=>some (.val v st)
 |none=>none
def za:Option (Fr×St)->Option Rs
 |some (fr,st)=>some (.ops fr st)
 |none=>none
def xE:Option (List FP×Fr×St)->Option Rs
 |some (fS,fr,st)=>some (.oT fS fr st)
 |none=>none
noncomputable def qI(C:Cx):Kf->Rs->Option Rs
 |.seq ro b,.ex .normal fr st=>eL (C.code ro b fr st)
 |.seq _ _,.ex e fr st=>some (.ex e fr st)
 |.block id,.ex (.exit yR) fr st=>match Nat.beq yR id with
  |true=>some (.ex .normal fr st)
  |false=>some (.ex (.exit yR) fr st)
 |.block _,.ex e fr st=>some (.ex e fr st)
 |.loop ro c,.ex .normal fr st=>eL (C.code ro (.loop c) fr st)
 |.loop _ _,.ex e fr st=>some (.ex e fr st)
 |.aM,.ops fr st=>some (.ex .normal fr st)
 |.put d ops fr,.val v st=>match fr.put d v with
  |some fr=>za (cU C.call ops fr st)
  |none=>none
 |.aV ms,.oT fS fr st=>match iG fS ms with
  |true=>some (.ex .normal fr st)
  |false=>none
 |.sD op d ops fr n w,.val v av=>match fr.put d v with
  |some bC=>match bK C.call ops bC {av with w:=ad n av.w++w} with
   |some (fS,fr'',st'')=>some (.oT (mL fr.r op (ad n av.w) n av.n::fS) fr'' st'')
   |none=>none
  |none=>none
 |.cons fp,.oT fS fr st=>some (.oT (fp::fS) fr st)
 |.fin _ _,.ex (.exit _) _ _=>none
 |.fin rs Iy,.ex _ fr bS=>match shut bS fr.marks with
  |none=>none
  |some eD=>match fT fr.r eD rs with
   |some vs=>some (.val (BB vs) {eD with w:=ad Iy.n eD.w++Iy.w})
   |none=>none
 |_,_=>none
noncomputable def ko(C:Cx)(k:Kf):Option Rs->Option Rs
 |some r=>qI C k r
 |none=>none
noncomputable def h_(C:Cx):List Kf->Option Rs->Option Rs
 |[],r=>r
 |k::K,r=>h_ C K (ko C k r)
theorem XN{C:Cx}:∀K,h_ C K none=none
 |[]=>rfl
 |_::K=>XN K
structure bF (C:Cx) (K:List Kf) (r:Option Rs) (Q:Rs->Prop):Prop where
 ex:∃s,h_ C K r=some s/\Q s
theorem ib{C:Cx}{K K':List Kf}{r r':Option Rs}{Q:Rs->Prop}(h:h_ C K r=h_ C K' r'):bF C K r Q↔bF C K' r' Q:=
 ⟨fun ⟨s,e,q⟩=>⟨s,h▸e,q⟩,fun ⟨s,e,q⟩=>⟨s,h.symm▸e,q⟩⟩
theorem Gx{C:Cx}{K:List Kf}{Q:Rs->Prop}:bF C K none Q↔False:=
 ⟨fun ⟨_,h,_⟩=>(by rw[XN]at h;cases h),fun h=>h.elim⟩
theorem Yju{C:Cx}{s:Rs}{Q:Rs->Prop}:bF C [] (some s) Q↔Q s:=
 ⟨fun ⟨_,h,q⟩=>by simp only[h_,aj]at h;exact h▸q,fun q=>⟨s,rfl,q⟩⟩
structure Call (C:Cx) (g:V) (args:List V) (st:St) (P:V->St->Prop):Prop where
 ex:∃v av,C.call g args st=some (v,av)/\P v av
structure Code (C:Cx) (ro:Option Nat) (c:aq) (fr:Fr) (st:St) (P:Ex->Fr->St->Prop):Prop where
 ex:∃e bC av,C.code ro c fr st=some (e,bC,av)/\P e bC av
def Ak(P:V->St->Prop):Rs->Prop
 |.val v st=>P v st
 |_=>False
def Sf(P:Ex->Fr->St->Prop):Rs->Prop
 |.ex e fr st=>P e fr st
 |_=>False
theorem Yec{P:V->St->Prop}{v st}:Ak P (.val v st)↔P v st:=Iff.rfl
theorem Yom{P:Ex->Fr->St->Prop}{e fr st}:Sf P (.ex e fr st)↔P e fr st:=Iff.rfl
theorem aR{C:Cx}{g args st P}:Call C g args st P↔bF C [] (qe (C.call g args st)) (Ak P):=by
 constructor
 ·rintro⟨v,av,h,p⟩
  exact⟨.val v av,by rw[h];rfl,p⟩
 ·rintro⟨s,h,q⟩
  cases hc:C.call g args st with
  |none=>rw[hc]at h;cases h
  |some r=>
   rw[hc]at h
   simp only[h_,qe,aj]at h
   subst h
   exact⟨_,_,hc,q⟩
theorem bA{C:Cx}{ro c fr st P}:Code C ro c fr st P↔bF C [] (eL (C.code ro c fr st)) (Sf P):=by
 constructor
 ·rintro⟨e,bC,av,h,p⟩
  exact⟨.ex e bC av,by rw[h];rfl,p⟩
 ·rintro⟨s,h,q⟩
  cases hc:C.code ro c fr st with
  |none=>rw[hc]at h;cases h
  |some r=>
   rw[hc]at h
   simp only[h_,eL,aj]at h
   subst h
   exact⟨_,_,_,hc,q⟩
theorem yX{C:Cx}{g args st P K Q}(h:Call C g args st P)(k:∀v av,P v av->bF C K (some (.val v av)) Q):bF C K (qe (C.call g args st)) Q:=by
 obtain⟨v,av,e,p⟩:=h.ex
 rw[e]
 exact k v av p
theorem oU{C:Cx}{ro c fr st P K Q}(h:Code C ro c fr st P)(k:∀e bC av,P e bC av->bF C K (some (.ex e bC av)) Q):bF C K (eL (C.code ro c fr st)) Q:=by
 obtain⟨e,bC,av,h,p⟩:=h.ex
 rw[h]
 exact k e bC av p
theorem Call.mono{C:Cx}{g args st}{P Q:V->St->Prop}(h:Call C g args st P)(k:∀v av,P v av->Q v av):Call C g args st Q:=by
 obtain⟨v,av,e,p⟩:=h.ex
 exact⟨v,av,e,k v av p⟩
def XO(I:Nat->Fr->St->Prop)(k:Nat)(P:Ex->Fr->St->Prop):Ex->Fr->St->Prop
 |.normal,fr,st=>∃k',k'<k/\I k' fr st
 |e,fr,st=>P e fr st
theorem Code.loop{C:Cx}{ro c}{P:Ex->Fr->St->Prop}{I:Nat->Fr->St->Prop}(h:∀k fr st,I k fr st->Code C ro c fr st (XO I k P)):∀(k:Nat) (fr:Fr) (st:St),I k fr st->Code C ro (.loop c) fr st P:=by
 intro k
 induction k using Nat.strongRecOn with
 |_ k ih=>
  intro fr st hi
  obtain⟨e,bC,av,h1,p⟩:=(h k fr st hi).ex
  have e1:C.code ro (.loop c) fr st=yS c C.call C.code ro fr st:=Cx.cW ro (.loop c) fr st
  unfold yS at e1
  rw[h1]at e1
  cases e with
  |normal=>
   obtain⟨k',hk,g_⟩:=p
   obtain⟨e2,vZ,eD,h2,p2⟩:=(ih k' hk bC av g_).ex
   exact⟨e2,vZ,eD,e1.trans h2,p2⟩
  |exit id=>exact⟨_,_,_,e1,p⟩
  |ret=>exact⟨_,_,_,e1,p⟩
theorem Ye3{C:Cx}{ro c}{K:List Kf}{Q:Rs->Prop}{fr:Fr}{st:St}(P:Ex->Fr->St->Prop)(I:Nat->Fr->St->Prop)(k:Nat)(hi:I k fr st)(h:∀k fr st,I k fr st->Code C ro c fr st (XO I k P))(q:∀e bC av,P e bC av->bF C K (some (.ex e bC av)) Q):bF C K (eL (C.code ro (.loop c) fr st)) Q:=
 oU (Code.loop h k fr st hi) q
section
variable {C:Cx} {K:List Kf} {Q:Rs->Prop} {ro:Option Nat} {a b c:aq} {fr:Fr} {st:St}
theorem Ye0:bF C K (eL (C.code ro .skip fr st)) Q↔bF C K (some (.ex .normal fr st)) Q:=ib (by rw[Cx.cW];rfl)
theorem Yjt{ops}:bF C K (eL (C.code ro (.aM ops) fr st)) Q↔bF C (.aM::K) (za (cU C.call ops fr st)) Q:=ib (by
 rw[Cx.cW]
 show h_ C K (eL (xd ops C.call C.code ro fr st))=h_ C K (ko C .aM (za (cU C.call ops fr st)))
 unfold xd
 rcases cU C.call ops fr st with _|⟨_,_⟩<;>rfl)
theorem Ye2{ops ms}:bF C K (eL (C.code ro (.aV ops ms) fr st)) Q↔bF C (.aV ms::K) (xE (bK C.call ops fr st)) Q:=ib (by
 rw[Cx.cW]
 show h_ C K (eL (xe ops ms C.call C.code ro fr st))=h_ C K (ko C (.aV ms) (xE (bK C.call ops fr st)))
 unfold xe
 rcases bK C.call ops fr st with _|⟨fS,_,_⟩
 ·rfl
 ·simp only[xE,ko,qI]
  cases iG fS ms<;>rfl)
theorem Yjr:bF C K (eL (C.code ro (.seq a b) fr st)) Q↔bF C (.seq ro b::K) (eL (C.code ro a fr st)) Q:=ib (by
 rw[Cx.cW]
 show h_ C K (eL (yP a b C.call C.code ro fr st))=h_ C K (ko C (.seq ro b) (eL (C.code ro a fr st)))
 unfold yP
 rcases C.code ro a fr st with _|⟨e,_,_⟩
 ·rfl
 ·cases e<;>rfl)
noncomputable def Mm(C:Cx)(ro:Option Nat)(a b:aq)(fr:Fr)(st:St):Option V->Option Rs
 |some (.bool true)=>eL (C.code ro a fr st)
 |some (.bool false)=>eL (C.code ro b fr st)
 |_=>none
theorem Ye6{x}:bF C K (eL (C.code ro (.cond x a b) fr st)) Q↔bF C K (Mm C ro a b fr st (x.ev fr.r)) Q:=ib (by
 rw[Cx.cW]
 show h_ C K (eL (u9 x a b C.call C.code ro fr st))=_
 unfold u9 Mm
 rcases x.ev fr.r with _|v
 ·rfl
 ·cases v<;>try rfl
  rename_i b'
  cases b'<;>rfl)
theorem Zy8:Mm C ro a b fr st (some (.bool true))=eL (C.code ro a fr st):=rfl
theorem Zuq:Mm C ro a b fr st (some (.bool false))=eL (C.code ro b fr st):=rfl
theorem Yaj{id}:bF C K (eL (C.code ro (.block id a) fr st)) Q↔bF C (.block id::K) (eL (C.code ro a fr st)) Q:=ib (by
 rw[Cx.cW]
 show h_ C K (eL (yQ id a C.call C.code ro fr st))=h_ C K (ko C (.block id) (eL (C.code ro a fr st)))
 unfold yQ
 rcases C.code ro a fr st with _|⟨e,_,_⟩
 ·rfl
 ·cases e with
  |exit yR=>simp only[eL,ko,qI];cases Nat.beq yR id<;>rfl
  |_=>rfl)
theorem Ye5{id}:bF C K (eL (C.code ro (.exit id) fr st)) Q↔bF C K (some (.ex (.exit id) fr st)) Q:=ib (by rw[Cx.cW];rfl)
theorem Yai:bF C K (eL (C.code ro (.scope a) fr st)) Q↔bF C K (eL (C.code ro a fr st)) Q:=ib (by rw[Cx.cW];rfl)
theorem Yjs:bF C K (eL (C.code ro .ret fr st)) Q↔bF C K (some (.ex .ret fr st)) Q:=ib (by rw[Cx.cW];rfl)
theorem Zr0:bF C (.seq ro b::K) (some (.ex .normal fr st)) Q↔bF C K (eL (C.code ro b fr st)) Q:=ib rfl
theorem Zyd{i}:bF C (.seq ro b::K) (some (.ex (.exit i) fr st)) Q↔bF C K (some (.ex (.exit i) fr st)) Q:=ib rfl
theorem Yca:bF C (.seq ro b::K) (some (.ex .ret fr st)) Q↔bF C K (some (.ex .ret fr st)) Q:=ib rfl
theorem Zob{i}:bF C (.block i::K) (some (.ex .normal fr st)) Q↔bF C K (some (.ex .normal fr st)) Q:=ib rfl
theorem Zue{i}:bF C (.block i::K) (some (.ex .ret fr st)) Q↔bF C K (some (.ex .ret fr st)) Q:=ib rfl
theorem Zr1{i}:bF C (.block i::K) (some (.ex (.exit i) fr st)) Q↔bF C K (some (.ex .normal fr st)) Q:=ib (by simp[h_,ko,qI,Nat.beq_refl])
theorem Zp6{i j}(h:Nat.beq j i=false):bF C (.block i::K) (some (.ex (.exit j) fr st)) Q↔bF C K (some (.ex (.exit j) fr st)) Q:=ib (by simp[h_,ko,qI,h])
theorem Yqt:bF C (.aM::K) (some (.ops fr st)) Q↔bF C K (some (.ex .normal fr st)) Q:=ib rfl
theorem Ykg:za (cU C.call [] fr st)=some (.ops fr st):=rfl
def Sg(C:Cx)(K:List Kf)(Q:Rs->Prop)(d:Option Nat)(op:gG)(ops:List df)(fr:Fr)(st:St):Option Bool->Prop
 |some true=>bF C (.put d ops fr::K) (qe (bZ op C.call fr.r st)) Q
 |some false=>bF C (.put d ops fr::K) (some (.val (.aZ []) st)) Q
 |none=>False
theorem Yfi{d op g ops}:bF C K (za (cU C.call (⟨d,op,g⟩::ops) fr st)) Q↔Sg C K Q d op ops fr st (bP fr.r g):=by
 have e:cU C.call (⟨d,op,g⟩::ops) fr st=yM C.call ⟨d,op,g⟩ (cU C.call ops) fr st:=rfl
 rw[e]
 unfold yM
 simp only[]
 rcases bP fr.r g with _|b
 ·exact Gx
 ·cases b
  ·show _↔bF C (.put d ops fr::K) (some (.val (.aZ []) st)) Q
   refine ib ?_
   show _=h_ C K (qI C (.put d ops fr) (.val (.aZ []) st))
   simp only[qI]
   rcases fr.put d (.aZ [])with _|_<;>rfl
  ·show _↔bF C (.put d ops fr::K) (qe (bZ op C.call fr.r st)) Q
   refine ib ?_
   show _=h_ C K (ko C (.put d ops fr) (qe (bZ op C.call fr.r st)))
   rcases bZ op C.call fr.r st with _|⟨v,av⟩
   ·rfl
   ·simp only[qe,ko,qI]
    rcases fr.put d v with _|_<;>rfl
theorem Yfn{d op ops}:Sg C K Q d op ops fr st (some true)↔bF C (.put d ops fr::K) (qe (bZ op C.call fr.r st)) Q:=Iff.rfl
theorem Ya3{d op ops}:Sg C K Q d op ops fr st (some false)↔bF C (.put d ops fr::K) (some (.val (.aZ []) st)) Q:=Iff.rfl
theorem Zzs{v:V}:qe (some (v,st))=some (.val v st):=rfl
theorem Yqu{d n m r ops v}(h:d<n):bF C (.put (some d) ops ⟨r,n,m⟩::K) (some (.val v st)) Q↔bF C K (za (cU C.call ops ⟨r.set d v,n,m⟩ st)) Q:=ib (by simp[h_,ko,qI,Fr.put,h])
theorem Zye{ops v}:bF C (.put none ops fr::K) (some (.val v st)) Q↔bF C K (za (cU C.call ops fr st)) Q:=ib rfl
theorem Yfj:xE (bK C.call [] fr st)=some (.oT [] fr st):=rfl
def Iz(C:Cx)(K:List Kf)(Q:Rs->Prop)(d:Option Nat)(op:gG)(ops:List df)(fr:Fr)(h:T O)(n:Nat)(w:List Nat):Option Bool->Prop
 |some true=>bF C (.sD op d ops fr n w::K) (qe (bZ op C.call fr.r ⟨h,n,[]⟩)) Q
 |some false=>bF C (.cons ⟨some [],[],n,n⟩::K) (match fr.put d (.aZ [])with|some bC=>xE (bK C.call ops bC ⟨h,n,w⟩)|none=>none) Q
 |none=>False
theorem Yaz{d op g ops h n w}:bF C K (xE (bK C.call (⟨d,op,g⟩::ops) fr ⟨h,n,w⟩)) Q↔Iz C K Q d op ops fr h n w (bP fr.r g):=by
 have e:bK C.call (⟨d,op,g⟩::ops) fr ⟨h,n,w⟩=yN C.call ⟨d,op,g⟩ (bK C.call ops) fr ⟨h,n,w⟩:=rfl
 rw[e]
 unfold yN
 simp only[]
 rcases bP fr.r g with _|b
 ·exact Gx
 ·cases b
  ·show _↔bF C (.cons ⟨some [],[],n,n⟩::K) (match fr.put d (.aZ [])with|some bC=>xE (bK C.call ops bC ⟨h,n,w⟩)|none=>none) Q
   refine ib ?_
   show _=h_ C K (ko C (.cons ⟨some [],[],n,n⟩) _)
   rcases fr.put d (.aZ [])with _|bC
   ·rfl
   ·simp only[]
    rcases bK C.call ops bC ⟨h,n,w⟩with _|⟨_,_,_⟩<;>rfl
  ·show _↔bF C (.sD op d ops fr n w::K) (qe (bZ op C.call fr.r ⟨h,n,[]⟩)) Q
   refine ib ?_
   show _=h_ C K (ko C (.sD op d ops fr n w) (qe (bZ op C.call fr.r ⟨h,n,[]⟩)))
   rcases bZ op C.call fr.r ⟨h,n,[]⟩with _|⟨v,av⟩
   ·rfl
   ·simp only[qe,ko,qI]
    rcases fr.put d v with _|bC
    ·rfl
    ·simp only[]
     rcases bK C.call ops bC {av with w:=ad n av.w++w} with _|⟨_,_,_⟩<;>rfl
theorem Ya4{d op ops h n w}:Iz C K Q d op ops fr h n w (some true)↔bF C (.sD op d ops fr n w::K) (qe (bZ op C.call fr.r ⟨h,n,[]⟩)) Q:=Iff.rfl
theorem Zxk{d n m r ops op h N w}(hd:d<n):Iz C K Q (some d) op ops ⟨r,n,m⟩ h N w (some false)↔bF C (.cons ⟨some [],[],N,N⟩::K) (xE (bK C.call ops ⟨r.set d (.aZ []),n,m⟩ ⟨h,N,w⟩)) Q:=by simp[Iz,Fr.put,hd]
theorem Ztu{ops op h N w}:Iz C K Q none op ops fr h N w (some false)↔bF C (.cons ⟨some [],[],N,N⟩::K) (xE (bK C.call ops fr ⟨h,N,w⟩)) Q:=Iff.rfl
theorem Yob{op d n m r ops v N w h' n' w'}(h:d<n):bF C (.sD op (some d) ops ⟨r,n,m⟩ N w::K) (some (.val v ⟨h',n',w'⟩)) Q↔bF C (.cons (mL r op (ad N w') N n')::K) (xE (bK C.call ops ⟨r.set d v,n,m⟩ ⟨h',n',ad N w'++w⟩)) Q:=ib (by
 simp only[h_,ko,qI,Fr.put,h,if_true]
 rcases bK C.call ops _ _ with _|⟨_,_,_⟩<;>rfl)
theorem Zud{op ops v N w h' n' w'}:bF C (.sD op none ops fr N w::K) (some (.val v ⟨h',n',w'⟩)) Q↔bF C (.cons (mL fr.r op (ad N w') N n')::K) (xE (bK C.call ops fr ⟨h',n',ad N w'++w⟩)) Q:=ib (by
 simp only[h_,ko,qI,Fr.put]
 rcases bK C.call ops _ _ with _|⟨_,_,_⟩<;>rfl)
theorem Yoc{fp fS}:bF C (.cons fp::K) (some (.oT fS fr st)) Q↔bF C K (some (.oT (fp::fS) fr st)) Q:=ib rfl
theorem DM{ms fS}(h:iG fS ms=true):bF C (.aV ms::K) (some (.oT fS fr st)) Q↔bF C K (some (.ex .normal fr st)) Q:=ib (by simp only[h_,ko,qI,h])
theorem Ye4{g first fE args mf}(hx:C.x (.func g first fE) args st=none)(h:C.dc g=some mf)(hl:(first++args++fE).length<=mf.ntmps):bF C K (qe (C.call (.func g first fE) args st)) Q↔bF C (.fin mf.results st::K) (eL (C.code none mf.body ⟨vW .nil 0 (first++args++fE),mf.ntmps,[]⟩ ⟨st.h,st.n,[]⟩)) Q:=ib (by
 rw[Cx.oQ]
 unfold qB
 rw[hx]
 simp only[u_,h,zT,uV.2 hl,if_false]
 show _=h_ C K (ko C (.fin mf.results st) _)
 unfold Re
 rcases C.code none mf.body _ _ with _|⟨e,dh,bS⟩
 ·rfl
 ·cases e with
  |exit=>rfl
  |normal=>
   simp only[eL,ko,qI]
   rcases shut bS dh.marks with _|eD
   ·rfl
   ·simp only[]
    rcases fT dh.r eD mf.results with _|_<;>rfl
  |ret=>
   simp only[eL,ko,qI]
   rcases shut bS dh.marks with _|eD
   ·rfl
   ·simp only[]
    rcases fT dh.r eD mf.results with _|_<;>rfl)
def Sh(h:T O)(n:Nat)(w:List Nat):Option (List V)->Option Rs
 |some vs=>some (.val (BB vs) ⟨h,n,w⟩)
 |none=>none
theorem Ycu{h n w vs}:Sh h n w (some vs)=some (.val (BB vs) ⟨h,n,w⟩):=rfl
theorem Ycb{rs r n h1 n1 w1}:bF C (.fin rs st::K) (some (.ex .ret ⟨r,n,[]⟩ ⟨h1,n1,w1⟩)) Q↔bF C K (Sh h1 n1 (ad st.n w1++st.w) (fT r ⟨h1,n1,w1⟩ rs)) Q:=ib (by
 simp only[h_,ko,qI,shut]
 rcases fT r ⟨h1,n1,w1⟩ rs with _|_<;>rfl)
theorem Ycc{rs r n h1 n1 w1}:bF C (.fin rs st::K) (some (.ex .normal ⟨r,n,[]⟩ ⟨h1,n1,w1⟩)) Q↔bF C K (Sh h1 n1 (ad st.n w1++st.w) (fT r ⟨h1,n1,w1⟩ rs)) Q:=ib (by
 simp only[h_,ko,qI,shut]
 rcases fT r ⟨h1,n1,w1⟩ rs with _|_<;>rfl)
end
theorem Zt7(a):bZ (.kf a)=F3 a:=rfl
theorem Zrm(a b):bZ (.fN a b)=Bu a b:=rfl
theorem Zrr(a):bZ (.eZ a)=Dd a:=rfl
theorem Zt4(a b):bZ (.eK a b)=F4 a b:=rfl
theorem Ybk:bZ .qu=F5:=rfl
theorem Zxs(a b):bZ (.oh a b)=Bv a b:=rfl
theorem Zt3(a b c d e f):bZ (.bO a b c d e f)=zN a b c d e f:=rfl
theorem Zrn(a b c):bZ (.az a b c)=vT a b c:=rfl
theorem Zt1(a b c d e):bZ (.dX a b c d e)=oK a b c d e:=rfl
theorem Zro(a b c d e f):bZ (.cP a b c d e f)=xb a b c d e f:=rfl
theorem Zxx(a b c d e):bZ (.oo a b c d e)=F6 a b c d e:=rfl
theorem Zxw(a b):bZ (.aQ a b)=Bx a b:=rfl
theorem Zxu(a b c d e):bZ (.lookup a b c d e)=Dj a b c d e:=rfl
theorem Zxt(a b c d):bZ (.ot a b c d)=By a b c d:=rfl
theorem Zrp(a):bZ (.iD a)=Dk a:=rfl
theorem Zt2(a):bZ (.oA a)=Dl a:=rfl
theorem Zxv(a):bZ (.lY a)=HQ a:=rfl
theorem Ykv(a):bZ (.cap a)=F7 a:=rfl
theorem Yn6(a):bZ (.mn a)=vU a:=rfl
theorem Yn5(a):bZ (.mx a)=oL a:=rfl
theorem Zxz(a b c d e f):bZ (.append a b c d e f)=zP a b c d e f:=rfl
theorem Yfv(a b c):bZ (.copy a b c)=Bz a b c:=rfl
theorem Ybo(a b c):bZ (.clear a b c)=F8 a b c:=rfl
theorem Ykr(a b):bZ (.FM a b)=BA a b:=rfl
theorem Ybi(a):bZ (.tJ a)=F9 a:=rfl
theorem Yfs(a b c):bZ (.zz a b c)=Ga a b c:=rfl
theorem Yku(a b):bZ (.ext a b)=Dp a b:=rfl
theorem Ylv{ng k x y}:tR ng (.aI k) x y=dJ ng k x y:=by cases x<;>cases y<;>rfl
attribute [simp] Yju Yec Yom Ye0 Yjt Ye2 Yjr Ye6 Zy8 Zuq Yaj Ye5 Yai Yjs Zr0 Zyd Yca Zob Zue Zr1 Yqt Ykg Yfi Yfn Ya3 Zzs Yqu Zye
 Yfj Yaz Ya4 Zxk Ztu Yob Zud Yoc DM Ycu Ycb Ycc
 Zt7 Zrm Zrr Zt4 Ybk Zxs Zt3 Zrn Zt1 Zro Zxx Zxw Zxu Zxt Zrp Zt2 Zxv Ykv Yn6 Yn5 Zxz Yfv Ybo Ykr Ybi Yfs Yku Ylv
structure ab (h:T O) (n:Nat) (h':T O) (n':Nat):Prop where
 le:n<=n'
 get:∀i,i<n->h'.get i=h.get i
theorem ab.refl{h:T O}{n:Nat}:ab h n h n:=⟨aS _,fun _ _=>rfl⟩
theorem ab.trans{h h1 h2:T O}{n n1 n2:Nat}(a:ab h n h1 n1)(b:ab h1 n1 h2 n2):ab h n h2 n2:=
 ⟨p9 a.le b.le,fun i hi=>(b.get i (eY hi a.le)).trans (a.get i hi)⟩
theorem ab.set{h h1:T O}{n n1:Nat}{i:Nat}{o:O}(hi:n<=i)(a:ab h n h1 n1):ab h n (h1.set i o) n1:=
 ⟨a.le,fun j hj=>by rw[T.ai,au (by omega)];exact a.get j hj⟩
theorem ab.up{h h1:T O}{n n1 n2:Nat}(a:ab h n h1 n1)(hn:n1<=n2):ab h n h1 n2:=⟨p9 a.le hn,a.get⟩
def aA(P:V->T O->Nat->Prop)(h:T O)(n:Nat)(w:List Nat)(v:V)(st:St):Prop:=st.w=w/\ab h n st.h st.n/\P v st.h st.n
abbrev Fn(C:Cx)(f:Nat)(args:List V)(h:T O)(n:Nat)(P:V->T O->Nat->Prop):Prop:=∀w,Call C (.func f [] []) args ⟨h,n,w⟩ (aA P h n w)
theorem ax{C:Cx}{f args h n w P K Q}(hf:Fn C f args h n P)(k:∀v h' n',ab h n h' n'->P v h' n'->bF C K (some (.val v ⟨h',n',w⟩)) Q):bF C K (qe (C.call (.func f [] []) args ⟨h,n,w⟩)) Q:=
 yX (hf w) fun v av=>by
  obtain⟨h',n',w'⟩:=av
  rintro⟨rfl,hk,hp⟩
  exact k v h' n' hk hp
theorem XP{N:Nat}:∀{w:List Nat},(∀i∈w,N<=i)->ad N w=[]
 |[],_=>rfl
 |i::w,h=>by
  have:=h i jk
  simp only[ad,uV.2 this,if_false]
  exact XP fun j hj=>h j (iz _ hj)
end Go.Mx
