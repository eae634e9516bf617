/-Runs without a count of steps-/
import Derived.Test.YtjjmkflbfpeagaaGreatDoorMxTab
set_option linter.all false
namespace Go.Mx
open Go
def Le(a b:cH):Prop:=∀g args st r,a g args st=some r->b g args st=some r
def Nw{a b:cH}(h:Le a b)(op:fS)(r:T V)(st:St){o:V×St}(e:bX op a r st=some o):bX op b r st=some o:=by
 cases op<;>try exact e
 rename_i f args
 show wI f args b r st=some o
 have e:wI f args a r st=some o:=e
 unfold wI at e ⊢
 split at e
 ·exact h _ _ _ _ e
 ·cases e
def Je{a b:cH}(h:Le a b):∀(ops:List dk) (fr:Fr) (st:St) {o:Fr×St},dm a ops fr st=some o->dm b ops fr st=some o
 |[],_,_,_,e=>e
 |q::ops,fr,st,o,e=>by
  have e:zg a q (dm a ops) fr st=some o:=e
  show zg b q (dm b ops) fr st=some o
  unfold zg at e ⊢
  split at e
  ·split at e
   ·rename_i v ax h1
    rw[Nw h _ _ _ h1]
    simp only[]
    split at e
    ·exact Je h ops _ _ e
    ·cases e
   ·cases e
  ·split at e
   ·exact Je h ops _ _ e
   ·cases e
  ·cases e
def Nx{a b:cH}(h:Le a b):∀(ops:List dk) (fr:Fr) (st:St) {o:List FP×Fr×St},bI a ops fr st=some o->bI b ops fr st=some o
 |[],_,_,_,e=>e
 |q::ops,fr,st,o,e=>by
  have e:zy a q (bI a ops) fr st=some o:=e
  show zy b q (bI b ops) fr st=some o
  unfold zy at e ⊢
  split at e
  ·split at e
   ·rename_i v ax h1
    rw[Nw h _ _ _ h1]
    simp only[]
    split at e
    ·split at e
     ·rename_i h2
      rw[Nx h ops _ _ h2]
      exact e
     ·cases e
    ·cases e
   ·cases e
  ·split at e
   ·split at e
    ·rename_i h2
     rw[Nx h ops _ _ h2]
     exact e
    ·cases e
   ·cases e
  ·cases e
def Cc(a b:n_):Prop:=∀ro c fr st r,a ro c fr st=some r->b ro c fr st=some r
def Zl{a b:cH}{p q:n_}(h:Le a b)(hc:Cc p q)(ro:Option Nat)(c:cj)(fr:Fr)(st:St){o:Ex×Fr×St}(e:kV c a p ro fr st=some o):kV c b q ro fr st=some o:=by
 cases c with
 |skip=>exact e
 |fL ops=>
  have e:xr ops a p ro fr st=some o:=e
  show xr ops b q ro fr st=some o
  unfold xr at e ⊢
  split at e
  ·rename_i h1;rw[Je h _ _ _ h1];exact e
  ·cases e
 |fy ops ms=>
  have e:xp ops ms a p ro fr st=some o:=e
  show xp ops ms b q ro fr st=some o
  unfold xp at e ⊢
  split at e
  ·rename_i h1;rw[Nx h _ _ _ h1];exact e
  ·cases e
 |vo dst ch send zero ops=>
  have e:xq dst ch send zero ops a p ro fr st=some o:=e
  show xq dst ch send zero ops b q ro fr st=some o
  unfold xq at e ⊢
  split at e
  ·split at e
   ·split at e
    ·split at e
     ·rename_i h1;rw[Je h _ _ _ h1];exact e
     ·cases e
    ·cases e
   ·cases e
  ·cases e
 |seq x y=>
  have e:zh x y a p ro fr st=some o:=e
  show zh x y b q ro fr st=some o
  unfold zh at e ⊢
  split at e
  ·rename_i h1;rw[hc _ _ _ _ _ h1];exact hc _ _ _ _ _ e
  ·rename_i h1
   have:=hc _ _ _ _ _ e
   rw[this]
   rcases o with⟨_|_|_,_,_⟩
   ·exact absurd e (h1 _ _)
   ·rfl
   ·rfl
 |cond x y z=>
  have e:vk x y z a p ro fr st=some o:=e
  show vk x y z b q ro fr st=some o
  unfold vk at e ⊢
  split at e
  ·exact hc _ _ _ _ _ e
  ·exact hc _ _ _ _ _ e
  ·cases e
 |block id x=>
  have e:zi id x a p ro fr st=some o:=e
  show zi id x b q ro fr st=some o
  unfold zi at e ⊢
  split at e
  ·rename_i h1;rw[hc _ _ _ _ _ h1];exact e
  ·rename_i h1
   have:=hc _ _ _ _ _ e
   rw[this]
   rcases o with⟨_|_|_,_,_⟩
   ·rfl
   ·exact absurd e (h1 _ _ _)
   ·rfl
 |loop x=>
  have e:zk x a p ro fr st=some o:=e
  show zk x b q ro fr st=some o
  unfold zk at e ⊢
  split at e
  ·rename_i h1;rw[hc _ _ _ _ _ h1];exact hc _ _ _ _ _ e
  ·rename_i h1
   have:=hc _ _ _ _ _ e
   rw[this]
   rcases o with⟨_|_|_,_,_⟩
   ·exact absurd e (h1 _ _)
   ·rfl
   ·rfl
 |o_ g ps x y=>
  have e:Ak g ps x y a p ro fr st=some o:=e
  show Ak g ps x y b q ro fr st=some o
  unfold Ak at e ⊢
  split at e
  ·cases e
  ·split at e
   ·cases e
   ·rename_i hy
    simp only[hy]
    split at e
    ·cases e
    ·split at e
     ·cases e
     ·rename_i h1;rw[h _ _ _ _ h1];exact e
 |exit id=>exact e
 |scope x=>exact hc _ _ _ _ _ e
 |ret=>exact e
 |stop=>exact e
def xY{a b:cH}(h:Le a b):∀(F F':Nat),F<=F'->Cc (dH a F) (dH b F')
 |0,_,_=>fun _ _ _ _ _ e=>by cases e
 |F+1,0,hF=>by omega
 |F+1,F'+1,hF=>fun ro c fr st _ e=>Zl h (xY h F F' (by omega)) ro c fr st e
def Zrx{p q:n_}(h:Cc p q){mf:jX}{args:List V}{st:St}{o:V×St}(e:Az mf p args st=some o):Az mf q args st=some o:=by
 unfold Az at e ⊢
 split at e
 ·cases e
 ·rename_i h0
  rw[aq h0]
  cases h1:p none mf.body {r:=wJ .nil 0 args,n:=mf.ntmps,marks:=[]} {st with w:=[]} with
  |none=>rw[h1]at e;cases e
  |some r=>rw[h1]at e;rw[h _ _ _ _ _ h1];exact e
def Zpk{p q:n_}(h:Cc p q){l:Nat}{args:List V}{st:St}{o:V×St}(e:DU p l args st=some o):DU q l args st=some o:=by
 unfold DU at e ⊢
 split at e
 ·split at e
  ·cases e
  ·split at e
   ·rename_i h1
    rw[h _ _ _ _ _ h1]
    simp only[]
    split at e
    ·split at e
     ·rename_i hr
      rw[aJ hr]
      split at e
      ·rename_i h2
       rw[h _ _ _ _ _ h2]
       exact e
      ·cases e
     ·cases e
    ·cases e
   ·cases e
 ·cases e
def SR{dw:Nat->Option jX}{p q:n_}(h:Cc p q):Le (vE dw p) (vE dw q):=by
 intro g args st o e
 unfold vE at e ⊢
 split at e
 ·split at e
  ·exact Zrx h e
  ·cases e
 ·exact Zpk h e
 ·cases e
def Zm{x a b:cH}(h:Le a b):Le (qG x a) (qG x b):=by
 intro g args st o e
 unfold qG at e ⊢
 split at e
 ·exact e
 ·exact h _ _ _ _ e
def Ny{x:cH}{dw:Nat->Option jX}{F F':Nat}(hF:F<=F'):∀(d d':Nat),d<=d'->Le (wQ x dw F d) (wQ x dw F' d')
 |0,0,_=>fun _ _ _ _ e=>e
 |0,d'+1,_=>fun g args st o e=>by
  have e:x g args st=some o:=e
  show qG x _ g args st=some o
  unfold qG;rw[e]
 |d+1,0,h=>by omega
 |d+1,d'+1,h=>Zm (SR (xY (Ny hF d d' (by omega)) F F' hF))
structure Cx where
 x:cH
 dw:Nat->Option jX
def Cx.at(C:Cx)(N:Nat):cH:=wQ C.x C.dw N N
def Cx.dN{C:Cx}{N M:Nat}(h:N<=M):Le (C.at N) (C.at M):=Ny h N M h
open Classical in
noncomputable def Cx.call(C:Cx):cH:=fun g args st=>if h:∃r N,C.at N g args st=some r then some h.choose else none
def Cx.fh{C:Cx}{g args st r}:C.call g args st=some r↔∃N,C.at N g args st=some r:=by
 unfold Cx.call
 constructor
 ·intro h
  split at h
  ·rename_i hc
   simp only[ak]at h
   exact h▸hc.choose_spec
  ·cases h
 ·rintro⟨N,h⟩
  have hc:∃r N,C.at N g args st=some r:=⟨r,N,h⟩
  rw[dif_pos hc]
  obtain⟨M,hM⟩:=hc.choose_spec
  have h1:=Cx.dN (Ar N M) _ _ _ _ h
  have h2:=Cx.dN (An N M) _ _ _ _ hM
  rw[h1]at h2
  exact congrArg some (uz h2).symm
open Classical in
noncomputable def Cx.code(C:Cx):n_:=fun ro c fr st=>if h:∃r F,dH C.call F ro c fr st=some r then some h.choose else none
def Cx.fi{C:Cx}{ro c fr st r}:C.code ro c fr st=some r↔∃F,dH C.call F ro c fr st=some r:=by
 unfold Cx.code
 constructor
 ·intro h
  split at h
  ·rename_i hc
   simp only[ak]at h
   exact h▸hc.choose_spec
  ·cases h
 ·rintro⟨N,h⟩
  have hc:∃r F,dH C.call F ro c fr st=some r:=⟨r,N,h⟩
  rw[dif_pos hc]
  obtain⟨M,hM⟩:=hc.choose_spec
  have h1:=xY (fun _ _ _ _ e=>e) N (max N M) (Ar N M) _ _ _ _ _ h
  have h2:=xY (fun _ _ _ _ e=>e) M (max N M) (An N M) _ _ _ _ _ hM
  rw[h1]at h2
  exact congrArg some (uz h2).symm
def Zn{α:Type}{a b:Option α}(h:∀r,a=some r↔b=some r):a=b:=by
 cases a with
 |none=>cases b with
  |none=>rfl
  |some r=>exact absurd ((h r).2 rfl) (by simp)
 |some r=>exact((h r).1 rfl).symm
def Nz{a:cH}{p:n_}{q:Nat->n_}(hq:∀n m,n<=m->Cc (q n) (q m))(hp:∀ro c fr st r,p ro c fr st=some r->∃n,q n ro c fr st=some r)(ro:Option Nat)(c:cj)(fr:Fr)(st:St){o:Ex×Fr×St}(e:kV c a p ro fr st=some o):∃n,kV c a (q n) ro fr st=some o:=by
 cases c with
 |skip=>exact⟨0,e⟩
 |fL ops=>exact⟨0,e⟩
 |fy ops ms=>exact⟨0,e⟩
 |vo dst ch send zero ops=>exact⟨0,e⟩
 |seq x y=>
  have e:zh x y a p ro fr st=some o:=e
  show ∃n,zh x y a (q n) ro fr st=some o
  unfold zh at e ⊢
  split at e
  ·rename_i h1
   obtain⟨n,hn⟩:=hp _ _ _ _ _ h1
   obtain⟨m,hm⟩:=hp _ _ _ _ _ e
   refine⟨max n m,?_⟩
   rw[hq n _ (Ar n m) _ _ _ _ _ hn]
   exact hq m _ (An n m) _ _ _ _ _ hm
  ·rename_i h1
   obtain⟨n,hn⟩:=hp _ _ _ _ _ e
   refine⟨n,?_⟩
   rw[hn]
   rcases o with⟨_|_|_,_,_⟩
   ·exact absurd e (h1 _ _)
   ·rfl
   ·rfl
 |cond x y z=>
  have e:vk x y z a p ro fr st=some o:=e
  show ∃n,vk x y z a (q n) ro fr st=some o
  unfold vk at e ⊢
  split at e
  ·exact hp _ _ _ _ _ e
  ·exact hp _ _ _ _ _ e
  ·cases e
 |block id x=>
  have e:zi id x a p ro fr st=some o:=e
  show ∃n,zi id x a (q n) ro fr st=some o
  unfold zi at e ⊢
  split at e
  ·rename_i h1
   obtain⟨n,hn⟩:=hp _ _ _ _ _ h1
   exact⟨n,by rw[hn];exact e⟩
  ·rename_i h1
   obtain⟨n,hn⟩:=hp _ _ _ _ _ e
   refine⟨n,?_⟩
   rw[hn]
   rcases o with⟨_|_|_,_,_⟩
   ·rfl
   ·exact absurd e (h1 _ _ _)
   ·rfl
 |loop x=>
  have e:zk x a p ro fr st=some o:=e
  show ∃n,zk x a (q n) ro fr st=some o
  unfold zk at e ⊢
  split at e
  ·rename_i h1
   obtain⟨n,hn⟩:=hp _ _ _ _ _ h1
   obtain⟨m,hm⟩:=hp _ _ _ _ _ e
   refine⟨max n m,?_⟩
   rw[hq n _ (Ar n m) _ _ _ _ _ hn]
   exact hq m _ (An n m) _ _ _ _ _ hm
  ·rename_i h1
   obtain⟨n,hn⟩:=hp _ _ _ _ _ e
   refine⟨n,?_⟩
   rw[hn]
   rcases o with⟨_|_|_,_,_⟩
   ·exact absurd e (h1 _ _)
   ·rfl
   ·rfl
 |o_ g ps x y=>exact⟨0,e⟩
 |exit id=>exact⟨0,e⟩
 |scope x=>exact hp _ _ _ _ _ e
 |ret=>exact⟨0,e⟩
 |stop=>exact⟨0,e⟩
def Cx.du{C:Cx}(ro:Option Nat)(c:cj)(fr:Fr)(st:St):C.code ro c fr st=kV c C.call C.code ro fr st:=by
 apply Zn
 intro r
 constructor
 ·intro h
  obtain⟨F,hF⟩:=Cx.fi.1 h
  cases F with
  |zero=>cases hF
  |succ F=>exact Zl (fun _ _ _ _ e=>e) (fun ro c fr st r e=>Cx.fi.2 ⟨F,e⟩) ro c fr st hF
 ·intro h
  obtain⟨n,hn⟩:=Nz (q:=dH C.call) (xY fun _ _ _ _ e=>e) (fun _ _ _ _ _ e=>Cx.fi.1 e) ro c fr st h
  exact Cx.fi.2 ⟨n+1,hn⟩
def Zo{C:Cx}(op:fS)(r:T V)(st:St){o:V×St}(e:bX op C.call r st=some o):∃N,bX op (C.at N) r st=some o:=by
 cases op<;>try exact⟨0,e⟩
 rename_i f args
 have e:wI f args C.call r st=some o:=e
 show ∃N,wI f args (C.at N) r st=some o
 unfold wI at e ⊢
 split at e
 ·exact Cx.fh.1 e
 ·cases e
def NA{C:Cx}:∀(ops:List dk) (fr:Fr) (st:St) {o:Fr×St},dm C.call ops fr st=some o->∃N,dm (C.at N) ops fr st=some o
 |[],_,_,_,e=>⟨0,e⟩
 |q::ops,fr,st,o,e=>by
  have e:zg C.call q (dm C.call ops) fr st=some o:=e
  show ∃N,zg (C.at N) q (dm (C.at N) ops) fr st=some o
  unfold zg at e ⊢
  split at e
  ·split at e
   ·rename_i v ax h1
    split at e
    ·obtain⟨N,hN⟩:=Zo _ _ _ h1
     obtain⟨M,hM⟩:=NA ops _ _ e
     refine⟨max N M,?_⟩
     rw[Nw (Cx.dN (Ar N M)) _ _ _ hN]
     rename_i h3
     simp only[h3]
     exact Je (Cx.dN (An N M)) _ _ _ hM
    ·cases e
   ·cases e
  ·split at e
   ·exact NA ops _ _ e
   ·cases e
  ·cases e
def SS{C:Cx}:∀(ops:List dk) (fr:Fr) (st:St) {o:List FP×Fr×St},bI C.call ops fr st=some o->∃N,bI (C.at N) ops fr st=some o
 |[],_,_,_,e=>⟨0,e⟩
 |q::ops,fr,st,o,e=>by
  have e:zy C.call q (bI C.call ops) fr st=some o:=e
  show ∃N,zy (C.at N) q (bI (C.at N) ops) fr st=some o
  unfold zy at e ⊢
  split at e
  ·split at e
   ·rename_i v ax h1
    split at e
    ·rename_i h3
     split at e
     ·rename_i h2
      obtain⟨N,hN⟩:=Zo _ _ _ h1
      obtain⟨M,hM⟩:=SS ops _ _ h2
      refine⟨max N M,?_⟩
      rw[Nw (Cx.dN (Ar N M)) _ _ _ hN]
      simp only[h3]
      rw[Nx (Cx.dN (An N M)) _ _ _ hM]
      exact e
     ·cases e
    ·cases e
   ·cases e
  ·split at e
   ·split at e
    ·rename_i h2
     obtain⟨M,hM⟩:=SS ops _ _ h2
     exact⟨M,by rw[hM];exact e⟩
    ·cases e
   ·cases e
  ·cases e
def Zp{C:Cx}:∀(F:Nat) (ro:Option Nat) (c:cj) (fr:Fr) (st:St) {o:Ex×Fr×St},dH C.call F ro c fr st=some o->∃N,dH (C.at N) F ro c fr st=some o
 |0,_,_,_,_,_,e=>by cases e
 |F+1,ro,c,fr,st,o,e=>by
  have e:kV c C.call (dH C.call F) ro fr st=some o:=e
  show ∃N,kV c (C.at N) (dH (C.at N) F) ro fr st=some o
  have ih:=@Zp C F
  have up:∀{n m:Nat},n<=m->Cc (dH (C.at n) F) (dH (C.at m) F):=fun h=>xY (Cx.dN h) F F (aR _)
  cases c with
  |fL ops=>
   have e:xr ops C.call (dH C.call F) ro fr st=some o:=e
   show ∃N,xr ops (C.at N) (dH (C.at N) F) ro fr st=some o
   unfold xr at e ⊢
   split at e
   ·rename_i h1
    obtain⟨N,hN⟩:=NA _ _ _ h1
    exact⟨N,by rw[hN];exact e⟩
   ·cases e
  |fy ops ms=>
   have e:xp ops ms C.call (dH C.call F) ro fr st=some o:=e
   show ∃N,xp ops ms (C.at N) (dH (C.at N) F) ro fr st=some o
   unfold xp at e ⊢
   split at e
   ·rename_i h1
    obtain⟨N,hN⟩:=SS _ _ _ h1
    exact⟨N,by rw[hN];exact e⟩
   ·cases e
  |vo dst ch send zero ops=>
   have e:xq dst ch send zero ops C.call (dH C.call F) ro fr st=some o:=e
   show ∃N,xq dst ch send zero ops (C.at N) (dH (C.at N) F) ro fr st=some o
   unfold xq at e ⊢
   split at e
   ·split at e
    ·split at e
     ·split at e
      ·rename_i h1
       obtain⟨N,hN⟩:=NA _ _ _ h1
       exact⟨N,by rw[hN];exact e⟩
      ·cases e
     ·cases e
    ·cases e
   ·cases e
  |o_ g ps x y=>
   have e:Ak g ps x y C.call (dH C.call F) ro fr st=some o:=e
   show ∃N,Ak g ps x y (C.at N) (dH (C.at N) F) ro fr st=some o
   unfold Ak at e ⊢
   split at e
   ·cases e
   ·split at e
    ·cases e
    ·rename_i hy
     simp only[hy]
     split at e
     ·cases e
     ·split at e
      ·cases e
      ·rename_i h1
       obtain⟨N,hN⟩:=Cx.fh.1 h1
       exact⟨N,by rw[hN];exact e⟩
  |skip=>exact⟨0,e⟩
  |exit id=>exact⟨0,e⟩
  |ret=>exact⟨0,e⟩
  |stop=>cases e
  |scope x=>exact ih _ _ _ _ e
  |cond x y z=>
   have e:vk x y z C.call (dH C.call F) ro fr st=some o:=e
   show ∃N,vk x y z (C.at N) (dH (C.at N) F) ro fr st=some o
   unfold vk at e ⊢
   split at e
   ·exact ih _ _ _ _ e
   ·exact ih _ _ _ _ e
   ·cases e
  |seq x y=>exact Nz (a:=C.call) (q:=fun n=>dH (C.at n) F) (fun _ _ h=>up h) (fun _ _ _ _ _ e=>ih _ _ _ _ e) ro (.seq x y) fr st e
  |block id x=>exact Nz (a:=C.call) (q:=fun n=>dH (C.at n) F) (fun _ _ h=>up h) (fun _ _ _ _ _ e=>ih _ _ _ _ e) ro (.block id x) fr st e
  |loop x=>exact Nz (a:=C.call) (q:=fun n=>dH (C.at n) F) (fun _ _ h=>up h) (fun _ _ _ _ _ e=>ih _ _ _ _ e) ro (.loop x) fr st e
def Cx.oD{C:Cx}{ro c fr st r}(h:C.code ro c fr st=some r):∃N,dH (C.at N) N ro c fr st=some r:=by
 obtain⟨F,hF⟩:=Cx.fi.1 h
 obtain⟨N,hN⟩:=Zp F _ _ _ _ hF
 exact⟨max F N,xY (Cx.dN (An F N)) _ _ (Ar F N) _ _ _ _ _ hN⟩
def Zq{dw:Nat->Option jX}{p:n_}{q:Nat->n_}(hq:∀n m,n<=m->Cc (q n) (q m))(hp:∀ro c fr st r,p ro c fr st=some r->∃n,q n ro c fr st=some r){g args st}{o:V×St}(e:vE dw p g args st=some o):∃n,vE dw (q n) g args st=some o:=by
 unfold vE at e ⊢
 split at e
 ·split at e
  ·rename_i mf _
   unfold Az at e ⊢
   split at e
   ·cases e
   ·rename_i h0
    simp only[h0,if_false]
    cases h1:p none mf.body {r:=wJ .nil 0 _,n:=mf.ntmps,marks:=[]} {st with w:=[]} with
    |none=>rw[h1]at e;cases e
    |some r=>
     rw[h1]at e
     obtain⟨n,hn⟩:=hp _ _ _ _ _ h1
     exact⟨n,by rw[hn];exact e⟩
  ·cases e
 ·unfold DU at e ⊢
  split at e
  ·split at e
   ·cases e
   ·split at e
    ·rename_i h1
     obtain⟨n,hn⟩:=hp _ _ _ _ _ h1
     split at e
     ·split at e
      ·split at e
       ·rename_i h4 h5 _ _ _ _ h2
        obtain⟨m,hm⟩:=hp _ _ _ _ _ h2
        refine⟨max n m,?_⟩
        rw[hq n _ (Ar n m) _ _ _ _ _ hn]
        simp only[h4,h5,if_true]
        rw[hq m _ (An n m) _ _ _ _ _ hm]
        exact e
       ·cases e
      ·cases e
     ·cases e
    ·cases e
  ·cases e
 ·cases e
def Cx.px{C:Cx}(g:V)(args:List V)(st:St):C.call g args st=qG C.x (vE C.dw C.code) g args st:=by
 apply Zn
 intro r
 constructor
 ·intro h
  obtain⟨N,hN⟩:=Cx.fh.1 h
  cases N with
  |zero=>
   have e:C.x g args st=some r:=hN
   unfold qG;rw[e]
  |succ N=>
   refine Zm (x:=C.x) (SR (p:=dH (wQ C.x C.dw (N+1) N) (N+1)) fun ro c fr st r e=>?_) _ _ _ _ hN
   refine Cx.fi.2 ⟨N+1,?_⟩
   refine xY (fun g args st r e=>?_) (N+1) (N+1) (aR _) _ _ _ _ _ e
   exact Cx.fh.2 ⟨N+1,Ny (aR _) N (N+1) (by omega) _ _ _ _ e⟩
 ·intro h
  unfold qG at h
  split at h
  ·rename_i r' e
   simp only[ak]at h
   subst h
   exact Cx.fh.2 ⟨0,e⟩
  ·rename_i hx
   obtain⟨N,hN⟩:=Zq (q:=fun n=>dH (C.at n) n) (fun n m h=>xY (Cx.dN h) n m h) (fun _ _ _ _ _ e=>Cx.oD e) h
   refine Cx.fh.2 ⟨N+1,?_⟩
   show qG C.x (vE C.dw (dH (wQ C.x C.dw (N+1) N) (N+1))) g args st=some r
   unfold qG
   rw[hx]
   exact SR (xY (Ny (by omega) N N (aR _)) N (N+1) (by omega)) _ _ _ _ hN
end Go.Mx
