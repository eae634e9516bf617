/-
  Runs without a count of steps: what a call and a piece of code come to, if they come to an end.
-/
import Derived.Test.YtlbophlgohokkaaGreatDoorMxTab
set_option linter.all false
namespace Go.Mx
open Go
def Le(a b:cA):Prop:=∀g args st r,a g args st=some r->b g args st=some r
theorem J6{a b:cA}(h:Le a b)(op:gp)(r:T V)(st:St){o:V×St}(e:bZ op a r st=some o):bZ op b r st=some o:=by
 cases op<;>try exact e
 rename_i f args
 show tH f args b r st=some o
 have e:tH f args a r st=some o:=e
 unfold tH at e ⊢
 split at e
 ·exact h _ _ _ _ e
 ·cases e
theorem Gm{a b:cA}(h:Le a b):∀(ops:List du) (fr:Fr) (st:St) {o:Fr×St},de a ops fr st=some o->de b ops fr st=some o
 |[],_,_,_,e=>e
 |q::ops,fr,st,o,e=>by
  have e:wW a q (de a ops) fr st=some o:=e
  show wW b q (de b ops) fr st=some o
  unfold wW at e ⊢
  split at e
  ·split at e
   ·rename_i v av h1
    rw[J6 h _ _ _ h1]
    simp only[]
    split at e
    ·exact Gm h ops _ _ e
    ·cases e
   ·cases e
  ·split at e
   ·exact Gm h ops _ _ e
   ·cases e
  ·cases e
theorem J7{a b:cA}(h:Le a b):∀(ops:List du) (fr:Fr) (st:St) {o:List FP×Fr×St},bJ a ops fr st=some o->bJ b ops fr st=some o
 |[],_,_,_,e=>e
 |q::ops,fr,st,o,e=>by
  have e:wX a q (bJ a ops) fr st=some o:=e
  show wX b q (bJ b ops) fr st=some o
  unfold wX at e ⊢
  split at e
  ·split at e
   ·rename_i v av h1
    rw[J6 h _ _ _ h1]
    simp only[]
    split at e
    ·split at e
     ·rename_i h2
      rw[J7 h ops _ _ h2]
      exact e
     ·cases e
    ·cases e
   ·cases e
  ·split at e
   ·split at e
    ·rename_i h2
     rw[J7 h ops _ _ h2]
     exact e
    ·cases e
   ·cases e
  ·cases e
def Aj(a b:mB):Prop:=∀ro c fr st r,a ro c fr st=some r->b ro c fr st=some r
theorem UG{a b:cA}{p q:mB}(h:Le a b)(hc:Aj p q)(ro:Option Nat)(c:aq)(fr:Fr)(st:St){o:Ex×Fr×St}(e:jV c a p ro fr st=some o):jV c b q ro fr st=some o:=by
 cases c with
 |skip=>exact e
 |aL ops=>
  have e:uS ops a p ro fr st=some o:=e
  show uS ops b q ro fr st=some o
  unfold uS at e ⊢
  split at e
  ·rename_i h1;rw[Gm h _ _ _ h1];exact e
  ·cases e
 |aS ops ms=>
  have e:uT ops ms a p ro fr st=some o:=e
  show uT ops ms b q ro fr st=some o
  unfold uT at e ⊢
  split at e
  ·rename_i h1;rw[J7 h _ _ _ h1];exact e
  ·cases e
 |sH dst ch send zero ops=>
  have e:uU dst ch send zero ops a p ro fr st=some o:=e
  show uU dst ch send zero ops b q ro fr st=some o
  unfold uU at e ⊢
  split at e
  ·split at e
   ·split at e
    ·split at e
     ·rename_i h1;rw[Gm h _ _ _ h1];exact e
     ·cases e
    ·cases e
   ·cases e
  ·cases e
 |seq x y=>
  have e:wZ x y a p ro fr st=some o:=e
  show wZ x y b q ro fr st=some o
  unfold wZ at e ⊢
  split at e
  ·rename_i h1;rw[hc _ _ _ _ _ h1];exact hc _ _ _ _ _ e
  ·rename_i h1
   have:=hc _ _ _ _ _ e
   rw[this]
   rcases o with⟨_|_|_,_,_⟩
   ·exact absurd e (h1 _ _)
   ·rfl
   ·rfl
 |cond x y z=>
  have e:sQ x y z a p ro fr st=some o:=e
  show sQ x y z b q ro fr st=some o
  unfold sQ at e ⊢
  split at e
  ·exact hc _ _ _ _ _ e
  ·exact hc _ _ _ _ _ e
  ·cases e
 |block id x=>
  have e:w6 id x a p ro fr st=some o:=e
  show w6 id x b q ro fr st=some o
  unfold w6 at e ⊢
  split at e
  ·rename_i h1;rw[hc _ _ _ _ _ h1];exact e
  ·rename_i h1
   have:=hc _ _ _ _ _ e
   rw[this]
   rcases o with⟨_|_|_,_,_⟩
   ·rfl
   ·exact absurd e (h1 _ _ _)
   ·rfl
 |loop x=>
  have e:xa x a p ro fr st=some o:=e
  show xa x b q ro fr st=some o
  unfold xa at e ⊢
  split at e
  ·rename_i h1;rw[hc _ _ _ _ _ h1];exact hc _ _ _ _ _ e
  ·rename_i h1
   have:=hc _ _ _ _ _ e
   rw[this]
   rcases o with⟨_|_|_,_,_⟩
   ·exact absurd e (h1 _ _)
   ·rfl
   ·rfl
 |na g ps x y=>
  have e:yi g ps x y a p ro fr st=some o:=e
  show yi g ps x y b q ro fr st=some o
  unfold yi at e ⊢
  split at e
  ·cases e
  ·split at e
   ·cases e
   ·rename_i hy
    simp only[hy]
    split at e
    ·cases e
    ·split at e
     ·cases e
     ·rename_i h1;rw[h _ _ _ _ h1];exact e
 |exit id=>exact e
 |scope x=>exact hc _ _ _ _ _ e
 |ret=>exact e
 |stop=>exact e
theorem vA{a b:cA}(h:Le a b):∀(F F':Nat),F<=F'->Aj (dE a F) (dE b F')
 |0,_,_=>fun _ _ _ _ _ e=>by cases e
 |F+1,0,hF=>by omega
 |F+1,F'+1,hF=>fun ro c fr st _ e=>UG h (vA h F F' (by omega)) ro c fr st e
theorem Zsb{p q:mB}(h:Aj p q){mf:ji}{args:List V}{st:St}{o:V×St}(e:yk mf p args st=some o):yk mf q args st=some o:=by
 unfold yk at e ⊢
 split at e
 ·cases e
 ·rename_i h0
  rw[ar h0]
  cases h1:p none mf.body {r:=tI .nil 0 args,n:=mf.ntmps,marks:=[]} {st with w:=[]} with
  |none=>rw[h1]at e;cases e
  |some r=>rw[h1]at e;rw[h _ _ _ _ _ h1];exact e
theorem Zpx{p q:mB}(h:Aj p q){l:Nat}{args:List V}{st:St}{o:V×St}(e:BP p l args st=some o):BP q l args st=some o:=by
 unfold BP at e ⊢
 split at e
 ·split at e
  ·cases e
  ·split at e
   ·rename_i h1
    rw[h _ _ _ _ _ h1]
    simp only[]
    split at e
    ·split at e
     ·rename_i hr
      rw[aF hr]
      split at e
      ·rename_i h2
       rw[h _ _ _ _ _ h2]
       exact e
      ·cases e
     ·cases e
    ·cases e
   ·cases e
 ·cases e
theorem Pe{dm:Nat->Option ji}{p q:mB}(h:Aj p q):Le (sS dm p) (sS dm q):=by
 intro g args st o e
 unfold sS at e ⊢
 split at e
 ·split at e
  ·exact Zsb h e
  ·cases e
 ·exact Zpx h e
 ·cases e
theorem UH{x a b:cA}(h:Le a b):Le (oK x a) (oK x b):=by
 intro g args st o e
 unfold oK at e ⊢
 split at e
 ·exact e
 ·exact h _ _ _ _ e
theorem J8{x:cA}{dm:Nat->Option ji}{F F':Nat}(hF:F<=F'):∀(d d':Nat),d<=d'->Le (tQ x dm F d) (tQ x dm F' d')
 |0,0,_=>fun _ _ _ _ e=>e
 |0,d'+1,_=>fun g args st o e=>by
  have e:x g args st=some o:=e
  show oK x _ g args st=some o
  unfold oK;rw[e]
 |d+1,0,h=>by omega
 |d+1,d'+1,h=>UH (Pe (vA (J8 hF d d' (by omega)) F F' hF))
structure Cx where
 x:cA
 dm:Nat->Option ji
def Cx.at(C:Cx)(N:Nat):cA:=tQ C.x C.dm N N
theorem Cx.dJ{C:Cx}{N M:Nat}(h:N<=M):Le (C.at N) (C.at M):=J8 h N M h
open Classical in
noncomputable def Cx.call(C:Cx):cA:=fun g args st=>if h:∃r N,C.at N g args st=some r then some h.choose else none
theorem Cx.eS{C:Cx}{g args st r}:C.call g args st=some r↔∃N,C.at N g args st=some r:=by
 unfold Cx.call
 constructor
 ·intro h
  split at h
  ·rename_i hc
   simp only[ai]at h
   exact h▸hc.choose_spec
  ·cases h
 ·rintro⟨N,h⟩
  have hc:∃r N,C.at N g args st=some r:=⟨r,N,h⟩
  rw[dif_pos hc]
  obtain⟨M,hM⟩:=hc.choose_spec
  have h1:=Cx.dJ (x_ N M) _ _ _ _ h
  have h2:=Cx.dJ (xY N M) _ _ _ _ hM
  rw[h1]at h2
  exact congrArg some (pq h2).symm
open Classical in
noncomputable def Cx.code(C:Cx):mB:=fun ro c fr st=>if h:∃r F,dE C.call F ro c fr st=some r then some h.choose else none
theorem Cx.eW{C:Cx}{ro c fr st r}:C.code ro c fr st=some r↔∃F,dE C.call F ro c fr st=some r:=by
 unfold Cx.code
 constructor
 ·intro h
  split at h
  ·rename_i hc
   simp only[ai]at h
   exact h▸hc.choose_spec
  ·cases h
 ·rintro⟨N,h⟩
  have hc:∃r F,dE C.call F ro c fr st=some r:=⟨r,N,h⟩
  rw[dif_pos hc]
  obtain⟨M,hM⟩:=hc.choose_spec
  have h1:=vA (fun _ _ _ _ e=>e) N (max N M) (x_ N M) _ _ _ _ _ h
  have h2:=vA (fun _ _ _ _ e=>e) M (max N M) (xY N M) _ _ _ _ _ hM
  rw[h1]at h2
  exact congrArg some (pq h2).symm
theorem UI{α:Type}{a b:Option α}(h:∀r,a=some r↔b=some r):a=b:=by
 cases a with
 |none=>cases b with
  |none=>rfl
  |some r=>exact absurd ((h r).2 rfl) (by simp)
 |some r=>exact((h r).1 rfl).symm
theorem J9{a:cA}{p:mB}{q:Nat->mB}(hq:∀n m,n<=m->Aj (q n) (q m))(hp:∀ro c fr st r,p ro c fr st=some r->∃n,q n ro c fr st=some r)(ro:Option Nat)(c:aq)(fr:Fr)(st:St){o:Ex×Fr×St}(e:jV c a p ro fr st=some o):∃n,jV c a (q n) ro fr st=some o:=by
 cases c with
 |skip=>exact⟨0,e⟩
 |aL ops=>exact⟨0,e⟩
 |aS ops ms=>exact⟨0,e⟩
 |sH dst ch send zero ops=>exact⟨0,e⟩
 |seq x y=>
  have e:wZ x y a p ro fr st=some o:=e
  show ∃n,wZ x y a (q n) ro fr st=some o
  unfold wZ at e ⊢
  split at e
  ·rename_i h1
   obtain⟨n,hn⟩:=hp _ _ _ _ _ h1
   obtain⟨m,hm⟩:=hp _ _ _ _ _ e
   refine⟨max n m,?_⟩
   rw[hq n _ (x_ n m) _ _ _ _ _ hn]
   exact hq m _ (xY n m) _ _ _ _ _ hm
  ·rename_i h1
   obtain⟨n,hn⟩:=hp _ _ _ _ _ e
   refine⟨n,?_⟩
   rw[hn]
   rcases o with⟨_|_|_,_,_⟩
   ·exact absurd e (h1 _ _)
   ·rfl
   ·rfl
 |cond x y z=>
  have e:sQ x y z a p ro fr st=some o:=e
  show ∃n,sQ x y z a (q n) ro fr st=some o
  unfold sQ at e ⊢
  split at e
  ·exact hp _ _ _ _ _ e
  ·exact hp _ _ _ _ _ e
  ·cases e
 |block id x=>
  have e:w6 id x a p ro fr st=some o:=e
  show ∃n,w6 id x a (q n) ro fr st=some o
  unfold w6 at e ⊢
  split at e
  ·rename_i h1
   obtain⟨n,hn⟩:=hp _ _ _ _ _ h1
   exact⟨n,by rw[hn];exact e⟩
  ·rename_i h1
   obtain⟨n,hn⟩:=hp _ _ _ _ _ e
   refine⟨n,?_⟩
   rw[hn]
   rcases o with⟨_|_|_,_,_⟩
   ·rfl
   ·exact absurd e (h1 _ _ _)
   ·rfl
 |loop x=>
  have e:xa x a p ro fr st=some o:=e
  show ∃n,xa x a (q n) ro fr st=some o
  unfold xa at e ⊢
  split at e
  ·rename_i h1
   obtain⟨n,hn⟩:=hp _ _ _ _ _ h1
   obtain⟨m,hm⟩:=hp _ _ _ _ _ e
   refine⟨max n m,?_⟩
   rw[hq n _ (x_ n m) _ _ _ _ _ hn]
   exact hq m _ (xY n m) _ _ _ _ _ hm
  ·rename_i h1
   obtain⟨n,hn⟩:=hp _ _ _ _ _ e
   refine⟨n,?_⟩
   rw[hn]
   rcases o with⟨_|_|_,_,_⟩
   ·exact absurd e (h1 _ _)
   ·rfl
   ·rfl
 |na g ps x y=>exact⟨0,e⟩
 |exit id=>exact⟨0,e⟩
 |scope x=>exact hp _ _ _ _ _ e
 |ret=>exact⟨0,e⟩
 |stop=>exact⟨0,e⟩
theorem Cx.df{C:Cx}(ro:Option Nat)(c:aq)(fr:Fr)(st:St):C.code ro c fr st=jV c C.call C.code ro fr st:=by
 apply UI
 intro r
 constructor
 ·intro h
  obtain⟨F,hF⟩:=Cx.eW.1 h
  cases F with
  |zero=>cases hF
  |succ F=>exact UG (fun _ _ _ _ e=>e) (fun ro c fr st r e=>Cx.eW.2 ⟨F,e⟩) ro c fr st hF
 ·intro h
  obtain⟨n,hn⟩:=J9 (q:=dE C.call) (vA fun _ _ _ _ e=>e) (fun _ _ _ _ _ e=>Cx.eW.1 e) ro c fr st h
  exact Cx.eW.2 ⟨n+1,hn⟩
theorem UJ{C:Cx}(op:gp)(r:T V)(st:St){o:V×St}(e:bZ op C.call r st=some o):∃N,bZ op (C.at N) r st=some o:=by
 cases op<;>try exact⟨0,e⟩
 rename_i f args
 have e:tH f args C.call r st=some o:=e
 show ∃N,tH f args (C.at N) r st=some o
 unfold tH at e ⊢
 split at e
 ·exact Cx.eS.1 e
 ·cases e
theorem Ka{C:Cx}:∀(ops:List du) (fr:Fr) (st:St) {o:Fr×St},de C.call ops fr st=some o->∃N,de (C.at N) ops fr st=some o
 |[],_,_,_,e=>⟨0,e⟩
 |q::ops,fr,st,o,e=>by
  have e:wW C.call q (de C.call ops) fr st=some o:=e
  show ∃N,wW (C.at N) q (de (C.at N) ops) fr st=some o
  unfold wW at e ⊢
  split at e
  ·split at e
   ·rename_i v av h1
    split at e
    ·obtain⟨N,hN⟩:=UJ _ _ _ h1
     obtain⟨M,hM⟩:=Ka ops _ _ e
     refine⟨max N M,?_⟩
     rw[J6 (Cx.dJ (x_ N M)) _ _ _ hN]
     rename_i h3
     simp only[h3]
     exact Gm (Cx.dJ (xY N M)) _ _ _ hM
    ·cases e
   ·cases e
  ·split at e
   ·exact Ka ops _ _ e
   ·cases e
  ·cases e
theorem Pf{C:Cx}:∀(ops:List du) (fr:Fr) (st:St) {o:List FP×Fr×St},bJ C.call ops fr st=some o->∃N,bJ (C.at N) ops fr st=some o
 |[],_,_,_,e=>⟨0,e⟩
 |q::ops,fr,st,o,e=>by
  have e:wX C.call q (bJ C.call ops) fr st=some o:=e
  show ∃N,wX (C.at N) q (bJ (C.at N) ops) fr st=some o
  unfold wX at e ⊢
  split at e
  ·split at e
   ·rename_i v av h1
    split at e
    ·rename_i h3
     split at e
     ·rename_i h2
      obtain⟨N,hN⟩:=UJ _ _ _ h1
      obtain⟨M,hM⟩:=Pf ops _ _ h2
      refine⟨max N M,?_⟩
      rw[J6 (Cx.dJ (x_ N M)) _ _ _ hN]
      simp only[h3]
      rw[J7 (Cx.dJ (xY N M)) _ _ _ hM]
      exact e
     ·cases e
    ·cases e
   ·cases e
  ·split at e
   ·split at e
    ·rename_i h2
     obtain⟨M,hM⟩:=Pf ops _ _ h2
     exact⟨M,by rw[hM];exact e⟩
    ·cases e
   ·cases e
  ·cases e
theorem UK{C:Cx}:∀(F:Nat) (ro:Option Nat) (c:aq) (fr:Fr) (st:St) {o:Ex×Fr×St},dE C.call F ro c fr st=some o->∃N,dE (C.at N) F ro c fr st=some o
 |0,_,_,_,_,_,e=>by cases e
 |F+1,ro,c,fr,st,o,e=>by
  have e:jV c C.call (dE C.call F) ro fr st=some o:=e
  show ∃N,jV c (C.at N) (dE (C.at N) F) ro fr st=some o
  have ih:=@UK C F
  have up:∀{n m:Nat},n<=m->Aj (dE (C.at n) F) (dE (C.at m) F):=fun h=>vA (Cx.dJ h) F F (aV _)
  cases c with
  |aL ops=>
   have e:uS ops C.call (dE C.call F) ro fr st=some o:=e
   show ∃N,uS ops (C.at N) (dE (C.at N) F) ro fr st=some o
   unfold uS at e ⊢
   split at e
   ·rename_i h1
    obtain⟨N,hN⟩:=Ka _ _ _ h1
    exact⟨N,by rw[hN];exact e⟩
   ·cases e
  |aS ops ms=>
   have e:uT ops ms C.call (dE C.call F) ro fr st=some o:=e
   show ∃N,uT ops ms (C.at N) (dE (C.at N) F) ro fr st=some o
   unfold uT at e ⊢
   split at e
   ·rename_i h1
    obtain⟨N,hN⟩:=Pf _ _ _ h1
    exact⟨N,by rw[hN];exact e⟩
   ·cases e
  |sH dst ch send zero ops=>
   have e:uU dst ch send zero ops C.call (dE C.call F) ro fr st=some o:=e
   show ∃N,uU dst ch send zero ops (C.at N) (dE (C.at N) F) ro fr st=some o
   unfold uU at e ⊢
   split at e
   ·split at e
    ·split at e
     ·split at e
      ·rename_i h1
       obtain⟨N,hN⟩:=Ka _ _ _ h1
       exact⟨N,by rw[hN];exact e⟩
      ·cases e
     ·cases e
    ·cases e
   ·cases e
  |na g ps x y=>
   have e:yi g ps x y C.call (dE C.call F) ro fr st=some o:=e
   show ∃N,yi g ps x y (C.at N) (dE (C.at N) F) ro fr st=some o
   unfold yi at e ⊢
   split at e
   ·cases e
   ·split at e
    ·cases e
    ·rename_i hy
     simp only[hy]
     split at e
     ·cases e
     ·split at e
      ·cases e
      ·rename_i h1
       obtain⟨N,hN⟩:=Cx.eS.1 h1
       exact⟨N,by rw[hN];exact e⟩
  |skip=>exact⟨0,e⟩
  |exit id=>exact⟨0,e⟩
  |ret=>exact⟨0,e⟩
  |stop=>cases e
  |scope x=>exact ih _ _ _ _ e
  |cond x y z=>
   have e:sQ x y z C.call (dE C.call F) ro fr st=some o:=e
   show ∃N,sQ x y z (C.at N) (dE (C.at N) F) ro fr st=some o
   unfold sQ at e ⊢
   split at e
   ·exact ih _ _ _ _ e
   ·exact ih _ _ _ _ e
   ·cases e
  |seq x y=>exact J9 (a:=C.call) (q:=fun n=>dE (C.at n) F) (fun _ _ h=>up h) (fun _ _ _ _ _ e=>ih _ _ _ _ e) ro (.seq x y) fr st e
  |block id x=>exact J9 (a:=C.call) (q:=fun n=>dE (C.at n) F) (fun _ _ h=>up h) (fun _ _ _ _ _ e=>ih _ _ _ _ e) ro (.block id x) fr st e
  |loop x=>exact J9 (a:=C.call) (q:=fun n=>dE (C.at n) F) (fun _ _ h=>up h) (fun _ _ _ _ _ e=>ih _ _ _ _ e) ro (.loop x) fr st e
theorem Cx.mG{C:Cx}{ro c fr st r}(h:C.code ro c fr st=some r):∃N,dE (C.at N) N ro c fr st=some r:=by
 obtain⟨F,hF⟩:=Cx.eW.1 h
 obtain⟨N,hN⟩:=UK F _ _ _ _ hF
 exact⟨max F N,vA (Cx.dJ (xY F N)) _ _ (x_ F N) _ _ _ _ _ hN⟩
theorem UL{dm:Nat->Option ji}{p:mB}{q:Nat->mB}(hq:∀n m,n<=m->Aj (q n) (q m))(hp:∀ro c fr st r,p ro c fr st=some r->∃n,q n ro c fr st=some r){g args st}{o:V×St}(e:sS dm p g args st=some o):∃n,sS dm (q n) g args st=some o:=by
 unfold sS at e ⊢
 split at e
 ·split at e
  ·rename_i mf _
   unfold yk at e ⊢
   split at e
   ·cases e
   ·rename_i h0
    simp only[h0,if_false]
    cases h1:p none mf.body {r:=tI .nil 0 _,n:=mf.ntmps,marks:=[]} {st with w:=[]} with
    |none=>rw[h1]at e;cases e
    |some r=>
     rw[h1]at e
     obtain⟨n,hn⟩:=hp _ _ _ _ _ h1
     exact⟨n,by rw[hn];exact e⟩
  ·cases e
 ·unfold BP at e ⊢
  split at e
  ·split at e
   ·cases e
   ·split at e
    ·rename_i h1
     obtain⟨n,hn⟩:=hp _ _ _ _ _ h1
     split at e
     ·split at e
      ·split at e
       ·rename_i h4 h5 _ _ _ _ h2
        obtain⟨m,hm⟩:=hp _ _ _ _ _ h2
        refine⟨max n m,?_⟩
        rw[hq n _ (x_ n m) _ _ _ _ _ hn]
        simp only[h4,h5,if_true]
        rw[hq m _ (xY n m) _ _ _ _ _ hm]
        exact e
       ·cases e
      ·cases e
     ·cases e
    ·cases e
  ·cases e
 ·cases e
theorem Cx.nz{C:Cx}(g:V)(args:List V)(st:St):C.call g args st=oK C.x (sS C.dm C.code) g args st:=by
 apply UI
 intro r
 constructor
 ·intro h
  obtain⟨N,hN⟩:=Cx.eS.1 h
  cases N with
  |zero=>
   have e:C.x g args st=some r:=hN
   unfold oK;rw[e]
  |succ N=>
   refine UH (x:=C.x) (Pe (p:=dE (tQ C.x C.dm (N+1) N) (N+1)) fun ro c fr st r e=>?_) _ _ _ _ hN
   refine Cx.eW.2 ⟨N+1,?_⟩
   refine vA (fun g args st r e=>?_) (N+1) (N+1) (aV _) _ _ _ _ _ e
   exact Cx.eS.2 ⟨N+1,J8 (aV _) N (N+1) (by omega) _ _ _ _ e⟩
 ·intro h
  unfold oK at h
  split at h
  ·rename_i r' e
   simp only[ai]at h
   subst h
   exact Cx.eS.2 ⟨0,e⟩
  ·rename_i hx
   obtain⟨N,hN⟩:=UL (q:=fun n=>dE (C.at n) n) (fun n m h=>vA (Cx.dJ h) n m h) (fun _ _ _ _ _ e=>Cx.mG e) h
   refine Cx.eS.2 ⟨N+1,?_⟩
   show oK C.x (sS C.dm (dE (tQ C.x C.dm (N+1) N) (N+1))) g args st=some r
   unfold oK
   rw[hx]
   exact Pe (vA (J8 (by omega) N N (aV _)) N (N+1) (by omega)) _ _ _ _ hN
inductive Rs where
 |ex (e:Ex) (fr:Fr) (st:St)
 |val (v:V) (st:St)
 |ops (fr:Fr) (st:St)
 |nC (fT:List FP) (fr:Fr) (st:St)
inductive Kf where
 |seq (ro:Option Nat) (b:aq)
 |block (id:Nat)
 |loop (ro:Option Nat) (c:aq)
 |aL
 |put (d:Option Nat) (ops:List du) (fr:Fr)
 |aS (ms:List Nat)
 |qG (op:gp) (d:Option Nat) (ops:List du) (fr:Fr) (n:Nat) (w:List Nat)
 |cons (fp:FP)
 |fin (rs:List Bg) (st:St)
def eE:Option (Ex×Fr×St)->Option Rs
 |some (e,fr,st)=>some (.ex e fr st)
 |none=>none
def nW:Option (V×St)->Option Rs
 |some (v,st)=>some (.val v st)
 |none=>none
def xg:Option (Fr×St)->Option Rs
 |some (fr,st)=>some (.ops fr st)
 |none=>none
def vC:Option (List FP×Fr×St)->Option Rs
 |some (fT,fr,st)=>some (.nC fT fr st)
 |none=>none
noncomputable def oS(C:Cx):Kf->Rs->Option Rs
 |.seq ro b,.ex .normal fr st=>eE (C.code ro b fr st)
 |.seq _ _,.ex e fr st=>some (.ex e fr st)
 |.block id,.ex (.exit w_) fr st=>match Nat.beq w_ id with
  |true=>some (.ex .normal fr st)
  |false=>some (.ex (.exit w_) fr st)
 |.block _,.ex e fr st=>some (.ex e fr st)
 |.loop ro c,.ex .normal fr st=>eE (C.code ro (.loop c) fr st)
 |.loop _ _,.ex e fr st=>some (.ex e fr st)
 |.aL,.ops fr st=>some (.ex .normal fr st)
 |.put d ops fr,.val v st=>match fr.put d v with
  |some fr=>xg (de C.call ops fr st)
  |none=>none
 |.aS ms,.nC fT fr st=>match iC fT ms with
  |true=>some (.ex .normal fr st)
  |false=>none
 |.qG op d ops fr n w,.val v av=>match fr.put d v with
  |some bE=>match bJ C.call ops bE {av with w:=au n av.w++w} with
   |some (fT,fr'',st'')=>some (.nC (lE fr.r op (au n av.w) n av.n::fT) fr'' st'')
   |none=>none
  |none=>none
 |.cons fp,.nC fT fr st=>some (.nC (fp::fT) fr st)
 |.fin _ _,.ex (.exit _) _ _=>none
 |.fin rs Gn,.ex _ fr bR=>match shut bR fr.marks with
  |none=>none
  |some eh=>match fU fr.r eh rs with
   |some vs=>some (.val (zU vs) {eh with w:=au Gn.n eh.w++Gn.w})
   |none=>none
 |_,_=>none
noncomputable def jY(C:Cx)(k:Kf):Option Rs->Option Rs
 |some r=>oS C k r
 |none=>none
noncomputable def hC(C:Cx):List Kf->Option Rs->Option Rs
 |[],r=>r
 |k::K,r=>hC C K (jY C k r)
theorem UM{C:Cx}:∀K,hC C K none=none
 |[]=>rfl
 |_::K=>UM K
structure bH (C:Cx) (K:List Kf) (r:Option Rs) (Q:Rs->Prop):Prop where
 ex:∃s,hC C K r=some s/\Q s
theorem h_{C:Cx}{K K':List Kf}{r r':Option Rs}{Q:Rs->Prop}(h:hC C K r=hC C K' r'):bH C K r Q↔bH C K' r' Q:=
 ⟨fun ⟨s,e,q⟩=>⟨s,h▸e,q⟩,fun ⟨s,e,q⟩=>⟨s,h.symm▸e,q⟩⟩
theorem Eo{C:Cx}{K:List Kf}{Q:Rs->Prop}:bH C K none Q↔False:=
 ⟨fun ⟨_,h,_⟩=>(by rw[UM]at h;cases h),fun h=>h.elim⟩
theorem Ykf{C:Cx}{s:Rs}{Q:Rs->Prop}:bH C [] (some s) Q↔Q s:=
 ⟨fun ⟨_,h,q⟩=>by simp only[hC,ai]at h;exact h▸q,fun q=>⟨s,rfl,q⟩⟩
structure Call (C:Cx) (g:V) (args:List V) (st:St) (P:V->St->Prop):Prop where
 ex:∃v av,C.call g args st=some (v,av)/\P v av
structure Code (C:Cx) (ro:Option Nat) (c:aq) (fr:Fr) (st:St) (P:Ex->Fr->St->Prop):Prop where
 ex:∃e bE av,C.code ro c fr st=some (e,bE,av)/\P e bE av
def yE(P:V->St->Prop):Rs->Prop
 |.val v st=>P v st
 |_=>False
def Pg(P:Ex->Fr->St->Prop):Rs->Prop
 |.ex e fr st=>P e fr st
 |_=>False
theorem Yey{P:V->St->Prop}{v st}:yE P (.val v st)↔P v st:=Iff.rfl
theorem Yoy{P:Ex->Fr->St->Prop}{e fr st}:Pg P (.ex e fr st)↔P e fr st:=Iff.rfl
theorem aP{C:Cx}{g args st P}:Call C g args st P↔bH C [] (nW (C.call g args st)) (yE P):=by
 constructor
 ·rintro⟨v,av,h,p⟩
  exact⟨.val v av,by rw[h];rfl,p⟩
 ·rintro⟨s,h,q⟩
  cases hc:C.call g args st with
  |none=>rw[hc]at h;cases h
  |some r=>
   rw[hc]at h
   simp only[hC,nW,ai]at h
   subst h
   exact⟨_,_,hc,q⟩
theorem bn{C:Cx}{ro c fr st P}:Code C ro c fr st P↔bH C [] (eE (C.code ro c fr st)) (Pg P):=by
 constructor
 ·rintro⟨e,bE,av,h,p⟩
  exact⟨.ex e bE av,by rw[h];rfl,p⟩
 ·rintro⟨s,h,q⟩
  cases hc:C.code ro c fr st with
  |none=>rw[hc]at h;cases h
  |some r=>
   rw[hc]at h
   simp only[hC,eE,ai]at h
   subst h
   exact⟨_,_,_,hc,q⟩
theorem xd{C:Cx}{g args st P K Q}(h:Call C g args st P)(k:∀v av,P v av->bH C K (some (.val v av)) Q):bH C K (nW (C.call g args st)) Q:=by
 obtain⟨v,av,e,p⟩:=h.ex
 rw[e]
 exact k v av p
theorem iY{C:Cx}{ro c fr st P K Q}(h:Code C ro c fr st P)(k:∀e bE av,P e bE av->bH C K (some (.ex e bE av)) Q):bH C K (eE (C.code ro c fr st)) Q:=by
 obtain⟨e,bE,av,h,p⟩:=h.ex
 rw[h]
 exact k e bE av p
theorem Call.mono{C:Cx}{g args st}{P Q:V->St->Prop}(h:Call C g args st P)(k:∀v av,P v av->Q v av):Call C g args st Q:=by
 obtain⟨v,av,e,p⟩:=h.ex
 exact⟨v,av,e,k v av p⟩
def UN(I:Nat->Fr->St->Prop)(k:Nat)(P:Ex->Fr->St->Prop):Ex->Fr->St->Prop
 |.normal,fr,st=>∃k',k'<k/\I k' fr st
 |e,fr,st=>P e fr st
theorem Code.loop{C:Cx}{ro c}{P:Ex->Fr->St->Prop}{I:Nat->Fr->St->Prop}(h:∀k fr st,I k fr st->Code C ro c fr st (UN I k P)):∀(k:Nat) (fr:Fr) (st:St),I k fr st->Code C ro (.loop c) fr st P:=by
 intro k
 induction k using Nat.strongRecOn with
 |_ k ih=>
  intro fr st hi
  obtain⟨e,bE,av,h1,p⟩:=(h k fr st hi).ex
  have e1:C.code ro (.loop c) fr st=xa c C.call C.code ro fr st:=Cx.df ro (.loop c) fr st
  unfold xa at e1
  rw[h1]at e1
  cases e with
  |normal=>
   obtain⟨k',hk,gZ⟩:=p
   obtain⟨e2,tN,eh,h2,p2⟩:=(ih k' hk bE av gZ).ex
   exact⟨e2,tN,eh,e1.trans h2,p2⟩
  |exit id=>exact⟨_,_,_,e1,p⟩
  |ret=>exact⟨_,_,_,e1,p⟩
theorem Yfo{C:Cx}{ro c}{K:List Kf}{Q:Rs->Prop}{fr:Fr}{st:St}(P:Ex->Fr->St->Prop)(I:Nat->Fr->St->Prop)(k:Nat)(hi:I k fr st)(h:∀k fr st,I k fr st->Code C ro c fr st (UN I k P))(q:∀e bE av,P e bE av->bH C K (some (.ex e bE av)) Q):bH C K (eE (C.code ro (.loop c) fr st)) Q:=
 iY (Code.loop h k fr st hi) q
section
variable {C:Cx} {K:List Kf} {Q:Rs->Prop} {ro:Option Nat} {a b c:aq} {fr:Fr} {st:St}
theorem Yfl:bH C K (eE (C.code ro .skip fr st)) Q↔bH C K (some (.ex .normal fr st)) Q:=h_ (by rw[Cx.df];rfl)
theorem Yke{ops}:bH C K (eE (C.code ro (.aL ops) fr st)) Q↔bH C (.aL::K) (xg (de C.call ops fr st)) Q:=h_ (by
 rw[Cx.df]
 show hC C K (eE (uS ops C.call C.code ro fr st))=hC C K (jY C .aL (xg (de C.call ops fr st)))
 unfold uS
 rcases de C.call ops fr st with _|⟨_,_⟩<;>rfl)
theorem Yfn{ops ms}:bH C K (eE (C.code ro (.aS ops ms) fr st)) Q↔bH C (.aS ms::K) (vC (bJ C.call ops fr st)) Q:=h_ (by
 rw[Cx.df]
 show hC C K (eE (uT ops ms C.call C.code ro fr st))=hC C K (jY C (.aS ms) (vC (bJ C.call ops fr st)))
 unfold uT
 rcases bJ C.call ops fr st with _|⟨fT,_,_⟩
 ·rfl
 ·simp only[vC,jY,oS]
  cases iC fT ms<;>rfl)
theorem Ykc:bH C K (eE (C.code ro (.seq a b) fr st)) Q↔bH C (.seq ro b::K) (eE (C.code ro a fr st)) Q:=h_ (by
 rw[Cx.df]
 show hC C K (eE (wZ a b C.call C.code ro fr st))=hC C K (jY C (.seq ro b) (eE (C.code ro a fr st)))
 unfold wZ
 rcases C.code ro a fr st with _|⟨e,_,_⟩
 ·rfl
 ·cases e<;>rfl)
noncomputable def Kb(C:Cx)(ro:Option Nat)(a b:aq)(fr:Fr)(st:St):Option V->Option Rs
 |some (.bool true)=>eE (C.code ro a fr st)
 |some (.bool false)=>eE (C.code ro b fr st)
 |_=>none
theorem Yfr{x}:bH C K (eE (C.code ro (.cond x a b) fr st)) Q↔bH C K (Kb C ro a b fr st (x.ev fr.r)) Q:=h_ (by
 rw[Cx.df]
 show hC C K (eE (sQ x a b C.call C.code ro fr st))=_
 unfold sQ Kb
 rcases x.ev fr.r with _|v
 ·rfl
 ·cases v<;>try rfl
  rename_i b'
  cases b'<;>rfl)
theorem Zzq:Kb C ro a b fr st (some (.bool true))=eE (C.code ro a fr st):=rfl
theorem Zuy:Kb C ro a b fr st (some (.bool false))=eE (C.code ro b fr st):=rfl
theorem Yax{id}:bH C K (eE (C.code ro (.block id a) fr st)) Q↔bH C (.block id::K) (eE (C.code ro a fr st)) Q:=h_ (by
 rw[Cx.df]
 show hC C K (eE (w6 id a C.call C.code ro fr st))=hC C K (jY C (.block id) (eE (C.code ro a fr st)))
 unfold w6
 rcases C.code ro a fr st with _|⟨e,_,_⟩
 ·rfl
 ·cases e with
  |exit w_=>simp only[eE,jY,oS];cases Nat.beq w_ id<;>rfl
  |_=>rfl)
theorem Yfq{id}:bH C K (eE (C.code ro (.exit id) fr st)) Q↔bH C K (some (.ex (.exit id) fr st)) Q:=h_ (by rw[Cx.df];rfl)
theorem Yaw:bH C K (eE (C.code ro (.scope a) fr st)) Q↔bH C K (eE (C.code ro a fr st)) Q:=h_ (by rw[Cx.df];rfl)
theorem Ykd:bH C K (eE (C.code ro .ret fr st)) Q↔bH C K (some (.ex .ret fr st)) Q:=h_ (by rw[Cx.df];rfl)
theorem Zr3:bH C (.seq ro b::K) (some (.ex .normal fr st)) Q↔bH C K (eE (C.code ro b fr st)) Q:=h_ rfl
theorem Zyu{i}:bH C (.seq ro b::K) (some (.ex (.exit i) fr st)) Q↔bH C K (some (.ex (.exit i) fr st)) Q:=h_ rfl
theorem Ycx:bH C (.seq ro b::K) (some (.ex .ret fr st)) Q↔bH C K (some (.ex .ret fr st)) Q:=h_ rfl
theorem Zoh{i}:bH C (.block i::K) (some (.ex .normal fr st)) Q↔bH C K (some (.ex .normal fr st)) Q:=h_ rfl
theorem Zuo{i}:bH C (.block i::K) (some (.ex .ret fr st)) Q↔bH C K (some (.ex .ret fr st)) Q:=h_ rfl
theorem Zr4{i}:bH C (.block i::K) (some (.ex (.exit i) fr st)) Q↔bH C K (some (.ex .normal fr st)) Q:=h_ (by simp[hC,jY,oS,Nat.beq_refl])
theorem Zqa{i j}(h:Nat.beq j i=false):bH C (.block i::K) (some (.ex (.exit j) fr st)) Q↔bH C K (some (.ex (.exit j) fr st)) Q:=h_ (by simp[hC,jY,oS,h])
theorem Yq5:bH C (.aL::K) (some (.ops fr st)) Q↔bH C K (some (.ex .normal fr st)) Q:=h_ rfl
theorem Ykw:xg (de C.call [] fr st)=some (.ops fr st):=rfl
def Ph(C:Cx)(K:List Kf)(Q:Rs->Prop)(d:Option Nat)(op:gp)(ops:List du)(fr:Fr)(st:St):Option Bool->Prop
 |some true=>bH C (.put d ops fr::K) (nW (bZ op C.call fr.r st)) Q
 |some false=>bH C (.put d ops fr::K) (some (.val (.bb []) st)) Q
 |none=>False
theorem Yf8{d op g ops}:bH C K (xg (de C.call (⟨d,op,g⟩::ops) fr st)) Q↔Ph C K Q d op ops fr st (bP fr.r g):=by
 have e:de C.call (⟨d,op,g⟩::ops) fr st=wW C.call ⟨d,op,g⟩ (de C.call ops) fr st:=rfl
 rw[e]
 unfold wW
 simp only[]
 rcases bP fr.r g with _|b
 ·exact Eo
 ·cases b
  ·show _↔bH C (.put d ops fr::K) (some (.val (.bb []) st)) Q
   refine h_ ?_
   show _=hC C K (oS C (.put d ops fr) (.val (.bb []) st))
   simp only[oS]
   rcases fr.put d (.bb [])with _|_<;>rfl
  ·show _↔bH C (.put d ops fr::K) (nW (bZ op C.call fr.r st)) Q
   refine h_ ?_
   show _=hC C K (jY C (.put d ops fr) (nW (bZ op C.call fr.r st)))
   rcases bZ op C.call fr.r st with _|⟨v,av⟩
   ·rfl
   ·simp only[nW,jY,oS]
    rcases fr.put d v with _|_<;>rfl
theorem Ygd{d op ops}:Ph C K Q d op ops fr st (some true)↔bH C (.put d ops fr::K) (nW (bZ op C.call fr.r st)) Q:=Iff.rfl
theorem Ybo{d op ops}:Ph C K Q d op ops fr st (some false)↔bH C (.put d ops fr::K) (some (.val (.bb []) st)) Q:=Iff.rfl
theorem Zz6{v:V}:nW (some (v,st))=some (.val v st):=rfl
theorem Yq6{d n m r ops v}(h:d<n):bH C (.put (some d) ops ⟨r,n,m⟩::K) (some (.val v st)) Q↔bH C K (xg (de C.call ops ⟨r.set d v,n,m⟩ st)) Q:=h_ (by simp[hC,jY,oS,Fr.put,h])
theorem Zyv{ops v}:bH C (.put none ops fr::K) (some (.val v st)) Q↔bH C K (xg (de C.call ops fr st)) Q:=h_ rfl
theorem Yf9:vC (bJ C.call [] fr st)=some (.nC [] fr st):=rfl
def Gp(C:Cx)(K:List Kf)(Q:Rs->Prop)(d:Option Nat)(op:gp)(ops:List du)(fr:Fr)(h:T O)(n:Nat)(w:List Nat):Option Bool->Prop
 |some true=>bH C (.qG op d ops fr n w::K) (nW (bZ op C.call fr.r ⟨h,n,[]⟩)) Q
 |some false=>bH C (.cons ⟨some [],[],n,n⟩::K) (match fr.put d (.bb [])with|some bE=>vC (bJ C.call ops bE ⟨h,n,w⟩)|none=>none) Q
 |none=>False
theorem Ybl{d op g ops h n w}:bH C K (vC (bJ C.call (⟨d,op,g⟩::ops) fr ⟨h,n,w⟩)) Q↔Gp C K Q d op ops fr h n w (bP fr.r g):=by
 have e:bJ C.call (⟨d,op,g⟩::ops) fr ⟨h,n,w⟩=wX C.call ⟨d,op,g⟩ (bJ C.call ops) fr ⟨h,n,w⟩:=rfl
 rw[e]
 unfold wX
 simp only[]
 rcases bP fr.r g with _|b
 ·exact Eo
 ·cases b
  ·show _↔bH C (.cons ⟨some [],[],n,n⟩::K) (match fr.put d (.bb [])with|some bE=>vC (bJ C.call ops bE ⟨h,n,w⟩)|none=>none) Q
   refine h_ ?_
   show _=hC C K (jY C (.cons ⟨some [],[],n,n⟩) _)
   rcases fr.put d (.bb [])with _|bE
   ·rfl
   ·simp only[]
    rcases bJ C.call ops bE ⟨h,n,w⟩with _|⟨_,_,_⟩<;>rfl
  ·show _↔bH C (.qG op d ops fr n w::K) (nW (bZ op C.call fr.r ⟨h,n,[]⟩)) Q
   refine h_ ?_
   show _=hC C K (jY C (.qG op d ops fr n w) (nW (bZ op C.call fr.r ⟨h,n,[]⟩)))
   rcases bZ op C.call fr.r ⟨h,n,[]⟩with _|⟨v,av⟩
   ·rfl
   ·simp only[nW,jY,oS]
    rcases fr.put d v with _|bE
    ·rfl
    ·simp only[]
     rcases bJ C.call ops bE {av with w:=au n av.w++w} with _|⟨_,_,_⟩<;>rfl
theorem Ybp{d op ops h n w}:Gp C K Q d op ops fr h n w (some true)↔bH C (.qG op d ops fr n w::K) (nW (bZ op C.call fr.r ⟨h,n,[]⟩)) Q:=Iff.rfl
theorem Zx1{d n m r ops op h N w}(hd:d<n):Gp C K Q (some d) op ops ⟨r,n,m⟩ h N w (some false)↔bH C (.cons ⟨some [],[],N,N⟩::K) (vC (bJ C.call ops ⟨r.set d (.bb []),n,m⟩ ⟨h,N,w⟩)) Q:=by simp[Gp,Fr.put,hd]
theorem Zt0{ops op h N w}:Gp C K Q none op ops fr h N w (some false)↔bH C (.cons ⟨some [],[],N,N⟩::K) (vC (bJ C.call ops fr ⟨h,N,w⟩)) Q:=Iff.rfl
theorem Yom{op d n m r ops v N w h' n' w'}(h:d<n):bH C (.qG op (some d) ops ⟨r,n,m⟩ N w::K) (some (.val v ⟨h',n',w'⟩)) Q↔bH C (.cons (lE r op (au N w') N n')::K) (vC (bJ C.call ops ⟨r.set d v,n,m⟩ ⟨h',n',au N w'++w⟩)) Q:=h_ (by
 simp only[hC,jY,oS,Fr.put,h,if_true]
 rcases bJ C.call ops _ _ with _|⟨_,_,_⟩<;>rfl)
theorem Zun{op ops v N w h' n' w'}:bH C (.qG op none ops fr N w::K) (some (.val v ⟨h',n',w'⟩)) Q↔bH C (.cons (lE fr.r op (au N w') N n')::K) (vC (bJ C.call ops fr ⟨h',n',au N w'++w⟩)) Q:=h_ (by
 simp only[hC,jY,oS,Fr.put]
 rcases bJ C.call ops _ _ with _|⟨_,_,_⟩<;>rfl)
theorem Yon{fp fT}:bH C (.cons fp::K) (some (.nC fT fr st)) Q↔bH C K (some (.nC (fp::fT) fr st)) Q:=h_ rfl
theorem Kc{ms fT}(h:iC fT ms=true):bH C (.aS ms::K) (some (.nC fT fr st)) Q↔bH C K (some (.ex .normal fr st)) Q:=h_ (by simp only[hC,jY,oS,h])
theorem Yfp{g first fC args mf}(hx:C.x (.func g first fC) args st=none)(h:C.dm g=some mf)(hl:(first++args++fC).length<=mf.ntmps):bH C K (nW (C.call (.func g first fC) args st)) Q↔bH C (.fin mf.results st::K) (eE (C.code none mf.body ⟨tI .nil 0 (first++args++fC),mf.ntmps,[]⟩ ⟨st.h,st.n,[]⟩)) Q:=h_ (by
 rw[Cx.nz]
 unfold oK
 rw[hx]
 simp only[sS,h,yk,oo.2 hl,if_false]
 show _=hC C K (jY C (.fin mf.results st) _)
 unfold Oi
 rcases C.code none mf.body _ _ with _|⟨e,dw,bR⟩
 ·rfl
 ·cases e with
  |exit=>rfl
  |normal=>
   simp only[eE,jY,oS]
   rcases shut bR dw.marks with _|eh
   ·rfl
   ·simp only[]
    rcases fU dw.r eh mf.results with _|_<;>rfl
  |ret=>
   simp only[eE,jY,oS]
   rcases shut bR dw.marks with _|eh
   ·rfl
   ·simp only[]
    rcases fU dw.r eh mf.results with _|_<;>rfl)
def Pj(h:T O)(n:Nat)(w:List Nat):Option (List V)->Option Rs
 |some vs=>some (.val (zU vs) ⟨h,n,w⟩)
 |none=>none
theorem Ydh{h n w vs}:Pj h n w (some vs)=some (.val (zU vs) ⟨h,n,w⟩):=rfl
theorem Ycy{rs r n h1 n1 w1}:bH C (.fin rs st::K) (some (.ex .ret ⟨r,n,[]⟩ ⟨h1,n1,w1⟩)) Q↔bH C K (Pj h1 n1 (au st.n w1++st.w) (fU r ⟨h1,n1,w1⟩ rs)) Q:=h_ (by
 simp only[hC,jY,oS,shut]
 rcases fU r ⟨h1,n1,w1⟩ rs with _|_<;>rfl)
theorem Ycz{rs r n h1 n1 w1}:bH C (.fin rs st::K) (some (.ex .normal ⟨r,n,[]⟩ ⟨h1,n1,w1⟩)) Q↔bH C K (Pj h1 n1 (au st.n w1++st.w) (fU r ⟨h1,n1,w1⟩ rs)) Q:=h_ (by
 simp only[hC,jY,oS,shut]
 rcases fU r ⟨h1,n1,w1⟩ rs with _|_<;>rfl)
end
theorem Zud(a):bZ (.jT a)=DV a:=rfl
theorem Zro(a b):bZ (.fR a b)=zO a b:=rfl
theorem Zrt(a):bZ (.eR a)=BD a:=rfl
theorem Zua(a b):bZ (.eC a b)=DW a b:=rfl
theorem Yb3:bZ .rj=DX:=rfl
theorem Zx9(a b):bZ (.mZ a b)=zP a b:=rfl
theorem Zt9(a b c d e f):bZ (.bD a b c d e f)=ye a b c d e f:=rfl
theorem Zrp(a b c):bZ (.az a b c)=tF a b c:=rfl
theorem Zt7(a b c d e):bZ (.cP a b c d e)=mA a b c d e:=rfl
theorem Zrq(a b c d e f):bZ (.c_ a b c d e f)=uQ a b c d e f:=rfl
theorem Zye(a b c d e):bZ (.m7 a b c d e)=DY a b c d e:=rfl
theorem Zyd(a b):bZ (.aQ a b)=zR a b:=rfl
theorem Zyb(a b c d e):bZ (.lookup a b c d e)=BH a b c d e:=rfl
theorem Zya(a b c d):bZ (.qh a b c d)=zS a b c d:=rfl
theorem Zrr(a):bZ (.iy a)=BI a:=rfl
theorem Zt8(a):bZ (.m8 a)=BJ a:=rfl
theorem Zyc(a):bZ (.ki a)=FQ a:=rfl
theorem Ylc(a):bZ (.cap a)=DZ a:=rfl
theorem Yoi(a):bZ (.mn a)=tG a:=rfl
theorem Yoh(a):bZ (.mx a)=np a:=rfl
theorem Zyg(a b c d e f):bZ (.append a b c d e f)=yg a b c d e f:=rfl
theorem Ygo(a b c):bZ (.copy a b c)=wV a b c:=rfl
theorem Yb7(a b c):bZ (.clear a b c)=D3 a b c:=rfl
theorem Yk8(a b):bZ (.DK a b)=zT a b:=rfl
theorem Yb1(a):bZ (.ri a)=D4 a:=rfl
theorem Ygl(a b c):bZ (.xV a b c)=D5 a b c:=rfl
theorem Ylb(a b):bZ (.ext a b)=BL a b:=rfl
theorem Yme{ng k x y}:ry ng (.aH k) x y=dM ng k x y:=by cases x<;>cases y<;>rfl
attribute [simp] Ykf Yey Yoy Yfl Yke Yfn Ykc Yfr Zzq Zuy Yax Yfq Yaw Ykd Zr3 Zyu Ycx Zoh Zuo Zr4 Yq5 Ykw Yf8 Ygd Ybo Zz6 Yq6 Zyv
 Yf9 Ybl Ybp Zx1 Zt0 Yom Zun Yon Kc Ydh Ycy Ycz
 Zud Zro Zrt Zua Yb3 Zx9 Zt9 Zrp Zt7 Zrq Zye Zyd Zyb Zya Zrr Zt8 Zyc Ylc Yoi Yoh Zyg Ygo Yb7 Yk8 Yb1 Ygl Ylb Yme
structure ab (h:T O) (n:Nat) (h':T O) (n':Nat):Prop where
 le:n<=n'
 get:∀i,i<n->h'.get i=h.get i
theorem ab.refl{h:T O}{n:Nat}:ab h n h n:=⟨aV _,fun _ _=>rfl⟩
theorem ab.trans{h h1 h2:T O}{n n1 n2:Nat}(a:ab h n h1 n1)(b:ab h1 n1 h2 n2):ab h n h2 n2:=
 ⟨lS a.le b.le,fun i hi=>(b.get i (dZ hi a.le)).trans (a.get i hi)⟩
theorem ab.set{h h1:T O}{n n1:Nat}{i:Nat}{o:O}(hi:n<=i)(a:ab h n h1 n1):ab h n (h1.set i o) n1:=
 ⟨a.le,fun j hj=>by rw[T.ah,ar (by omega)];exact a.get j hj⟩
theorem ab.up{h h1:T O}{n n1 n2:Nat}(a:ab h n h1 n1)(hn:n1<=n2):ab h n h1 n2:=⟨lS a.le hn,a.get⟩
def aA(P:V->T O->Nat->Prop)(h:T O)(n:Nat)(w:List Nat)(v:V)(st:St):Prop:=st.w=w/\ab h n st.h st.n/\P v st.h st.n
abbrev Fn(C:Cx)(f:Nat)(args:List V)(h:T O)(n:Nat)(P:V->T O->Nat->Prop):Prop:=∀w,Call C (.func f [] []) args ⟨h,n,w⟩ (aA P h n w)
theorem ax{C:Cx}{f args h n w P K Q}(hf:Fn C f args h n P)(k:∀v h' n',ab h n h' n'->P v h' n'->bH C K (some (.val v ⟨h',n',w⟩)) Q):bH C K (nW (C.call (.func f [] []) args ⟨h,n,w⟩)) Q:=
 xd (hf w) fun v av=>by
  obtain⟨h',n',w'⟩:=av
  rintro⟨rfl,hk,hp⟩
  exact k v h' n' hk hp
theorem UO{N:Nat}:∀{w:List Nat},(∀i∈w,N<=i)->au N w=[]
 |[],_=>rfl
 |i::w,h=>by
  have:=h i mS
  simp only[au,oo.2 this,if_false]
  exact UO fun j hj=>h j (mr _ hj)
end Go.Mx
