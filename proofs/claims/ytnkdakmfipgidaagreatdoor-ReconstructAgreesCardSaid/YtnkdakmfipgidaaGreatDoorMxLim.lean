/-Runs without a count of steps-/
import Derived.Test.YtnkdakmfipgidaaGreatDoorMxTab
set_option linter.all false
namespace Go.Mx
noncomputable section
open Go
def Le(a b:cM):Prop:=∀g args st r,a g args st=some r->b g args st=some r
def T6{a b:cM}(h:Le a b)(op:iA)(r:T V)(st:St){o:V×St}(e:cC op a r st=some o):cC op b r st=some o:=by
 cases op<;>try exact e
 rename_i f args;show An f args b r st=some o;have e:An f args a r st=some o:=e;unfold An at e ⊢;split at e
 ·exact h _ _ _ _ e
 cases e
def O0{a b:cM}(h:Le a b):∀(ops:List dK) (fr:Fr) (st:St) {o:Fr×St},dR a ops fr st=some o->dR b ops fr st=some o
 |[],_,_,_,e=>e
 |q::ops,fr,st,o,e=>by
  have e:C8 a q (dR a ops) fr st=some o:=e
  show C8 b q (dR b ops) fr st=some o
  unfold C8 at e ⊢
  split at e
  ·split at e
   ·rename_i v aA h1
    rw[T6 h _ _ _ h1]
    simp only[]
    split at e
    ·exact O0 h ops _ _ e
    ·cases e
   ·cases e
  ·split at e
   ·exact O0 h ops _ _ e
   ·cases e
  ·cases e
def T7{a b:cM}(h:Le a b):∀(ops:List dK) (fr:Fr) (st:St) {o:List FP×Fr×St},bM a ops fr st=some o->bM b ops fr st=some o
 |[],_,_,_,e=>e
 |q::ops,fr,st,o,e=>by
  have e:C9 a q (bM a ops) fr st=some o:=e
  show C9 b q (bM b ops) fr st=some o
  unfold C9 at e ⊢
  split at e
  ·split at e
   ·rename_i v aA h1
    rw[T6 h _ _ _ h1]
    simp only[]
    split at e
    ·split at e
     ·rename_i h2
      rw[T7 h ops _ _ h2]
      exact e
     ·cases e
    ·cases e
   ·cases e
  ·split at e
   ·split at e
    ·rename_i h2
     rw[T7 h ops _ _ h2]
     exact e
    ·cases e
   ·cases e
  ·cases e
def GZ(a b:rn):Prop:=∀ro c fr st r,a ro c fr st=some r->b ro c fr st=some r
def Zl3{a b:cM}{p q:rn}(h:Le a b)(hc:GZ p q)(ro:Option Nat)(c:bW)(fr:Fr)(st:St){o:Ex×Fr×St}(e:oc c a p ro fr st=some o):oc c b q ro fr st=some o:=by
 cases c with
 |skip=>exact e
 |fY ops=>
  have e:By ops a p ro fr st=some o:=e;show By ops b q ro fr st=some o;unfold By at e ⊢;split at e
  ·rename_i h1;rw[O0 h _ _ _ h1];exact e
  cases e
 |fN ops ms=>
  have e:Bz ops ms a p ro fr st=some o:=e;show Bz ops ms b q ro fr st=some o;unfold Bz at e ⊢;split at e
  ·rename_i h1;rw[T7 h _ _ _ h1];exact e
  cases e
 |zy dst ch send zero ops=>
  have e:Db dst ch send zero ops a p ro fr st=some o:=e;show Db dst ch send zero ops b q ro fr st=some o;unfold Db at e ⊢;split at e
  ·split at e
   ·split at e
    ·split at e
     ·rename_i h1;rw[O0 h _ _ _ h1];exact e
     cases e
    cases e
   cases e
  cases e
 |seq x y=>
  have e:Dc x y a p ro fr st=some o:=e;show Dc x y b q ro fr st=some o;unfold Dc at e ⊢;split at e
  ·rename_i h1;rw[hc _ _ _ _ _ h1];exact hc _ _ _ _ _ e
  rename_i h1;have:=hc _ _ _ _ _ e;rw[this];rcases o with⟨_|_|_,_,_⟩
  ·exact absurd e (h1 _ _)
  ·rfl
  rfl
 |cond x y z=>
  have e:zG x y z a p ro fr st=some o:=e;show zG x y z b q ro fr st=some o;unfold zG at e ⊢;split at e
  ·exact hc _ _ _ _ _ e
  ·exact hc _ _ _ _ _ e
  cases e
 |block id x=>
  have e:Dd id x a p ro fr st=some o:=e;show Dd id x b q ro fr st=some o;unfold Dd at e ⊢;split at e
  ·rename_i h1;rw[hc _ _ _ _ _ h1];exact e
  rename_i h1;have:=hc _ _ _ _ _ e;rw[this];rcases o with⟨_|_|_,_,_⟩
  ·rfl
  ·exact absurd e (h1 _ _ _)
  rfl
 |loop x=>
  have e:Df x a p ro fr st=some o:=e;show Df x b q ro fr st=some o;unfold Df at e ⊢;split at e
  ·rename_i h1;rw[hc _ _ _ _ _ h1];exact hc _ _ _ _ _ e
  rename_i h1;have:=hc _ _ _ _ _ e;rw[this];rcases o with⟨_|_|_,_,_⟩
  ·exact absurd e (h1 _ _)
  ·rfl
  rfl
 |jK g ps x y=>
  have e:AP g ps x y a p ro fr st=some o:=e;show AP g ps x y b q ro fr st=some o;unfold AP at e ⊢;split at e
  ·cases e
  split at e
  ·cases e
  rename_i hy;simp only[hy];split at e
  ·cases e
  split at e
  ·cases e
  rename_i h1;rw[h _ _ _ _ h1];exact e
 |exit id=>exact e
 |scope x=>exact hc _ _ _ _ _ e
 |ret=>exact e
 |stop=>exact e
def Bj{a b:cM}(h:Le a b):∀(F F':Nat),F<=F'->GZ (dZ a F) (dZ b F')
 |0,_,_=>fun _ _ _ _ _ e=>by cases e
 |F+1,0,hF=>by omega
 |F+1,F'+1,hF=>fun ro c fr st _ e=>Zl3 h (Bj h F F' (by omega)) ro c fr st e
def Zu1{p q:rn}(h:GZ p q){mf:mV}{args:List V}{st:St}{o:V×St}(e:Ei mf p args st=some o):Ei mf q args st=some o:=by
 unfold Ei at e ⊢;split at e
 ·cases e
 rename_i h0;rw[ak h0];cases h1:p none mf.body {r:=Ao .nil 0 args,n:=mf.ntmps,marks:=[]} {st with w:=[]} with
 |none=>rw[h1]at e;cases e
 |some r=>rw[h1]at e;rw[h _ _ _ _ _ h1];exact e
def Zr9{p q:rn}(h:GZ p q){l:Nat}{args:List V}{st:St}{o:V×St}(e:DV p l args st=some o):DV q l args st=some o:=by
 unfold DV at e ⊢;split at e
 ·split at e
  ·cases e
  split at e
  ·rename_i h1;rw[h _ _ _ _ _ h1];simp only[];split at e
   ·split at e
    ·rename_i hr;rw[ar hr];split at e
     ·rename_i h2;rw[h _ _ _ _ _ h2];exact e
     cases e
    cases e
   cases e
  cases e
 cases e
def Zh8{dV:Nat->Option mV}{p q:rn}(h:GZ p q):Le (zw dV p) (zw dV q):=by
 intro g args st o e;unfold zw at e ⊢;split at e
 ·split at e
  ·exact Zu1 h e
  cases e
 ·exact Zr9 h e
 cases e
def Zo6{x a b:cM}(h:Le a b):Le (t_ x a) (t_ x b):=by
 intro g args st o e;unfold t_ at e ⊢;split at e
 ·exact e
 exact h _ _ _ _ e
def T8{x:cM}{dV:Nat->Option mV}{F F':Nat}(hF:F<=F'):∀(d d':Nat),d<=d'->Le (Ah x dV F d) (Ah x dV F' d')
 |0,0,_=>fun _ _ _ _ e=>e
 |0,d'+1,_=>fun g args st o e=>by
  have e:x g args st=some o:=e
  show t_ x _ g args st=some o
  unfold t_;rw[e]
 |d+1,0,h=>by omega
 |d+1,d'+1,h=>Zo6 (Zh8 (Bj (T8 hF d d' (by omega)) F F' hF))
structure Cx where
 x:cM
 dV:Nat->Option mV
def Cx.at(C:Cx)(N:Nat):cM:=Ah C.x C.dV N N
def Cx.ed{C:Cx}{N M:Nat}(h:N<=M):Le (C.at N) (C.at M):=T8 h N M h
open Classical in
def Cx.call(C:Cx):cM:=fun g args st=>if h:∃r N,C.at N g args st=some r then some h.choose else none
def Cx.gj{C:Cx}{g args st r}:C.call g args st=some r↔∃N,C.at N g args st=some r:=by
 unfold Cx.call;constructor
 ·intro h;split at h
  ·rename_i hc;simp only[aq]at h;exact h▸hc.choose_spec
  cases h
 rintro⟨N,h⟩;have hc:∃r N,C.at N g args st=some r:=⟨r,N,h⟩;rw[dif_pos hc];obtain⟨M,hM⟩:=hc.choose_spec;have h1:=Cx.ed (Es N M) _ _ _ _ h;have h2:=Cx.ed (Ep N M) _ _ _ _ hM;rw[h1]at h2;exact congrArg some (mC h2).symm
open Classical in
def Cx.code(C:Cx):rn:=fun ro c fr st=>if h:∃r F,dZ C.call F ro c fr st=some r then some h.choose else none
def Cx.gk{C:Cx}{ro c fr st r}:C.code ro c fr st=some r↔∃F,dZ C.call F ro c fr st=some r:=by
 unfold Cx.code;constructor
 ·intro h;split at h
  ·rename_i hc;simp only[aq]at h;exact h▸hc.choose_spec
  cases h
 rintro⟨N,h⟩;have hc:∃r F,dZ C.call F ro c fr st=some r:=⟨r,N,h⟩;rw[dif_pos hc];obtain⟨M,hM⟩:=hc.choose_spec;have h1:=Bj (fun _ _ _ _ e=>e) N (max N M) (Es N M) _ _ _ _ _ h;have h2:=Bj (fun _ _ _ _ e=>e) M (max N M) (Ep N M) _ _ _ _ _ hM;rw[h1]at h2;exact congrArg some (mC h2).symm
def Yfm{α:Type}{a b:Option α}(h:∀r,a=some r↔b=some r):a=b:=by
 cases a with
 |none=>cases b with
  |none=>rfl
  |some r=>exact absurd ((h r).2 rfl) (by simp)
 |some r=>exact((h r).1 rfl).symm
def T9{a:cM}{p:rn}{q:Nat->rn}(hq:∀n m,n<=m->GZ (q n) (q m))(hp:∀ro c fr st r,p ro c fr st=some r->∃n,q n ro c fr st=some r)(ro:Option Nat)(c:bW)(fr:Fr)(st:St){o:Ex×Fr×St}(e:oc c a p ro fr st=some o):∃n,oc c a (q n) ro fr st=some o:=by
 cases c with
 |skip=>exact⟨0,e⟩
 |fY ops=>exact⟨0,e⟩
 |fN ops ms=>exact⟨0,e⟩
 |zy dst ch send zero ops=>exact⟨0,e⟩
 |seq x y=>
  have e:Dc x y a p ro fr st=some o:=e;show ∃n,Dc x y a (q n) ro fr st=some o;unfold Dc at e ⊢;split at e
  ·rename_i h1;obtain⟨n,hn⟩:=hp _ _ _ _ _ h1;obtain⟨m,hm⟩:=hp _ _ _ _ _ e;refine⟨max n m,?_⟩;rw[hq n _ (Es n m) _ _ _ _ _ hn];exact hq m _ (Ep n m) _ _ _ _ _ hm
  rename_i h1;obtain⟨n,hn⟩:=hp _ _ _ _ _ e;refine⟨n,?_⟩;rw[hn];rcases o with⟨_|_|_,_,_⟩
  ·exact absurd e (h1 _ _)
  ·rfl
  rfl
 |cond x y z=>
  have e:zG x y z a p ro fr st=some o:=e;show ∃n,zG x y z a (q n) ro fr st=some o;unfold zG at e ⊢;split at e
  ·exact hp _ _ _ _ _ e
  ·exact hp _ _ _ _ _ e
  cases e
 |block id x=>
  have e:Dd id x a p ro fr st=some o:=e;show ∃n,Dd id x a (q n) ro fr st=some o;unfold Dd at e ⊢;split at e
  ·rename_i h1;obtain⟨n,hn⟩:=hp _ _ _ _ _ h1;exact⟨n,by rw[hn];exact e⟩
  rename_i h1;obtain⟨n,hn⟩:=hp _ _ _ _ _ e;refine⟨n,?_⟩;rw[hn];rcases o with⟨_|_|_,_,_⟩
  ·rfl
  ·exact absurd e (h1 _ _ _)
  rfl
 |loop x=>
  have e:Df x a p ro fr st=some o:=e;show ∃n,Df x a (q n) ro fr st=some o;unfold Df at e ⊢;split at e
  ·rename_i h1;obtain⟨n,hn⟩:=hp _ _ _ _ _ h1;obtain⟨m,hm⟩:=hp _ _ _ _ _ e;refine⟨max n m,?_⟩;rw[hq n _ (Es n m) _ _ _ _ _ hn];exact hq m _ (Ep n m) _ _ _ _ _ hm
  rename_i h1;obtain⟨n,hn⟩:=hp _ _ _ _ _ e;refine⟨n,?_⟩;rw[hn];rcases o with⟨_|_|_,_,_⟩
  ·exact absurd e (h1 _ _)
  ·rfl
  rfl
 |jK g ps x y=>exact⟨0,e⟩
 |exit id=>exact⟨0,e⟩
 |scope x=>exact hp _ _ _ _ _ e
 |ret=>exact⟨0,e⟩
 |stop=>exact⟨0,e⟩
def Cx.dw{C:Cx}(ro:Option Nat)(c:bW)(fr:Fr)(st:St):C.code ro c fr st=oc c C.call C.code ro fr st:=by
 apply Yfm;intro r;constructor
 ·intro h;obtain⟨F,hF⟩:=Cx.gk.1 h;cases F with
  |zero=>cases hF
  |succ F=>exact Zl3 (fun _ _ _ _ e=>e) (fun ro c fr st r e=>Cx.gk.2 ⟨F,e⟩) ro c fr st hF
 intro h;obtain⟨n,hn⟩:=T9 (q:=dZ C.call) (Bj fun _ _ _ _ e=>e) (fun _ _ _ _ _ e=>Cx.gk.1 e) ro c fr st h;exact Cx.gk.2 ⟨n+1,hn⟩
def Zzj{C:Cx}(op:iA)(r:T V)(st:St){o:V×St}(e:cC op C.call r st=some o):∃N,cC op (C.at N) r st=some o:=by
 cases op<;>try exact⟨0,e⟩
 rename_i f args;have e:An f args C.call r st=some o:=e;show ∃N,An f args (C.at N) r st=some o;unfold An at e ⊢;split at e
 ·exact Cx.gj.1 e
 cases e
def Ua{C:Cx}:∀(ops:List dK) (fr:Fr) (st:St) {o:Fr×St},dR C.call ops fr st=some o->∃N,dR (C.at N) ops fr st=some o
 |[],_,_,_,e=>⟨0,e⟩
 |q::ops,fr,st,o,e=>by
  have e:C8 C.call q (dR C.call ops) fr st=some o:=e
  show ∃N,C8 (C.at N) q (dR (C.at N) ops) fr st=some o
  unfold C8 at e ⊢
  split at e
  ·split at e
   ·rename_i v aA h1
    split at e
    ·obtain⟨N,hN⟩:=Zzj _ _ _ h1
     obtain⟨M,hM⟩:=Ua ops _ _ e
     refine⟨max N M,?_⟩
     rw[T6 (Cx.ed (Es N M)) _ _ _ hN]
     rename_i h3
     simp only[h3]
     exact O0 (Cx.ed (Ep N M)) _ _ _ hM
    ·cases e
   ·cases e
  ·split at e
   ·exact Ua ops _ _ e
   ·cases e
  ·cases e
def Zmr{C:Cx}:∀(ops:List dK) (fr:Fr) (st:St) {o:List FP×Fr×St},bM C.call ops fr st=some o->∃N,bM (C.at N) ops fr st=some o
 |[],_,_,_,e=>⟨0,e⟩
 |q::ops,fr,st,o,e=>by
  have e:C9 C.call q (bM C.call ops) fr st=some o:=e
  show ∃N,C9 (C.at N) q (bM (C.at N) ops) fr st=some o
  unfold C9 at e ⊢
  split at e
  ·split at e
   ·rename_i v aA h1
    split at e
    ·rename_i h3
     split at e
     ·rename_i h2
      obtain⟨N,hN⟩:=Zzj _ _ _ h1
      obtain⟨M,hM⟩:=Zmr ops _ _ h2
      refine⟨max N M,?_⟩
      rw[T6 (Cx.ed (Es N M)) _ _ _ hN]
      simp only[h3]
      rw[T7 (Cx.ed (Ep N M)) _ _ _ hM]
      exact e
     ·cases e
    ·cases e
   ·cases e
  ·split at e
   ·split at e
    ·rename_i h2
     obtain⟨M,hM⟩:=Zmr ops _ _ h2
     exact⟨M,by rw[hM];exact e⟩
    ·cases e
   ·cases e
  ·cases e
def Zra{C:Cx}:∀(F:Nat) (ro:Option Nat) (c:bW) (fr:Fr) (st:St) {o:Ex×Fr×St},dZ C.call F ro c fr st=some o->∃N,dZ (C.at N) F ro c fr st=some o
 |0,_,_,_,_,_,e=>by cases e
 |F+1,ro,c,fr,st,o,e=>by
  have e:oc c C.call (dZ C.call F) ro fr st=some o:=e
  show ∃N,oc c (C.at N) (dZ (C.at N) F) ro fr st=some o
  have ih:=@Zra C F
  have up:∀{n m:Nat},n<=m->GZ (dZ (C.at n) F) (dZ (C.at m) F):=fun h=>Bj (Cx.ed h) F F (aO _)
  cases c with
  |fY ops=>
   have e:By ops C.call (dZ C.call F) ro fr st=some o:=e
   show ∃N,By ops (C.at N) (dZ (C.at N) F) ro fr st=some o
   unfold By at e ⊢
   split at e
   ·rename_i h1
    obtain⟨N,hN⟩:=Ua _ _ _ h1
    exact⟨N,by rw[hN];exact e⟩
   ·cases e
  |fN ops ms=>
   have e:Bz ops ms C.call (dZ C.call F) ro fr st=some o:=e
   show ∃N,Bz ops ms (C.at N) (dZ (C.at N) F) ro fr st=some o
   unfold Bz at e ⊢
   split at e
   ·rename_i h1
    obtain⟨N,hN⟩:=Zmr _ _ _ h1
    exact⟨N,by rw[hN];exact e⟩
   ·cases e
  |zy dst ch send zero ops=>
   have e:Db dst ch send zero ops C.call (dZ C.call F) ro fr st=some o:=e
   show ∃N,Db dst ch send zero ops (C.at N) (dZ (C.at N) F) ro fr st=some o
   unfold Db at e ⊢
   split at e
   ·split at e
    ·split at e
     ·split at e
      ·rename_i h1
       obtain⟨N,hN⟩:=Ua _ _ _ h1
       exact⟨N,by rw[hN];exact e⟩
      ·cases e
     ·cases e
    ·cases e
   ·cases e
  |jK g ps x y=>
   have e:AP g ps x y C.call (dZ C.call F) ro fr st=some o:=e
   show ∃N,AP g ps x y (C.at N) (dZ (C.at N) F) ro fr st=some o
   unfold AP at e ⊢
   split at e
   ·cases e
   ·split at e
    ·cases e
    ·rename_i hy
     simp only[hy]
     split at e
     ·cases e
     ·split at e
      ·cases e
      ·rename_i h1
       obtain⟨N,hN⟩:=Cx.gj.1 h1
       exact⟨N,by rw[hN];exact e⟩
  |skip=>exact⟨0,e⟩
  |exit id=>exact⟨0,e⟩
  |ret=>exact⟨0,e⟩
  |stop=>cases e
  |scope x=>exact ih _ _ _ _ e
  |cond x y z=>
   have e:zG x y z C.call (dZ C.call F) ro fr st=some o:=e
   show ∃N,zG x y z (C.at N) (dZ (C.at N) F) ro fr st=some o
   unfold zG at e ⊢
   split at e
   ·exact ih _ _ _ _ e
   ·exact ih _ _ _ _ e
   ·cases e
  |seq x y=>exact T9 (a:=C.call) (q:=fun n=>dZ (C.at n) F) (fun _ _ h=>up h) (fun _ _ _ _ _ e=>ih _ _ _ _ e) ro (.seq x y) fr st e
  |block id x=>exact T9 (a:=C.call) (q:=fun n=>dZ (C.at n) F) (fun _ _ h=>up h) (fun _ _ _ _ _ e=>ih _ _ _ _ e) ro (.block id x) fr st e
  |loop x=>exact T9 (a:=C.call) (q:=fun n=>dZ (C.at n) F) (fun _ _ h=>up h) (fun _ _ _ _ _ e=>ih _ _ _ _ e) ro (.loop x) fr st e
def Cx.rf{C:Cx}{ro c fr st r}(h:C.code ro c fr st=some r):∃N,dZ (C.at N) N ro c fr st=some r:=by obtain⟨F,hF⟩:=Cx.gk.1 h;obtain⟨N,hN⟩:=Zra F _ _ _ _ hF;exact⟨max F N,Bj (Cx.ed (Ep F N)) _ _ (Es F N) _ _ _ _ _ hN⟩
def Zl6{dV:Nat->Option mV}{p:rn}{q:Nat->rn}(hq:∀n m,n<=m->GZ (q n) (q m))(hp:∀ro c fr st r,p ro c fr st=some r->∃n,q n ro c fr st=some r){g args st}{o:V×St}(e:zw dV p g args st=some o):∃n,zw dV (q n) g args st=some o:=by
 unfold zw at e ⊢;split at e
 ·split at e
  ·rename_i mf _;unfold Ei at e ⊢;split at e
   ·cases e
   rename_i h0;simp only[h0,if_false];cases h1:p none mf.body {r:=Ao .nil 0 _,n:=mf.ntmps,marks:=[]} {st with w:=[]} with
   |none=>rw[h1]at e;cases e
   |some r=> rw[h1]at e;obtain⟨n,hn⟩:=hp _ _ _ _ _ h1;exact⟨n,by rw[hn];exact e⟩
  cases e
 ·unfold DV at e ⊢;split at e
  ·split at e
   ·cases e
   split at e
   ·rename_i h1;obtain⟨n,hn⟩:=hp _ _ _ _ _ h1;split at e
    ·split at e
     ·split at e
      ·rename_i h4 h5 _ _ _ _ h2;obtain⟨m,hm⟩:=hp _ _ _ _ _ h2;refine⟨max n m,?_⟩;rw[hq n _ (Es n m) _ _ _ _ _ hn];simp only[h4,h5,if_true];rw[hq m _ (Ep n m) _ _ _ _ _ hm];exact e
      cases e
     cases e
    cases e
   cases e
  cases e
 cases e
def Cx.nX{C:Cx}(g:V)(args:List V)(st:St):C.call g args st=t_ C.x (zw C.dV C.code) g args st:=by
 apply Yfm;intro r;constructor
 ·intro h;obtain⟨N,hN⟩:=Cx.gj.1 h;cases N with
  |zero=> have e:C.x g args st=some r:=hN;unfold t_;rw[e]
  |succ N=> refine Zo6 (x:=C.x) (Zh8 (p:=dZ (Ah C.x C.dV (N+1) N) (N+1)) fun ro c fr st r e=>?_) _ _ _ _ hN;refine Cx.gk.2 ⟨N+1,?_⟩;refine Bj (fun g args st r e=>?_) (N+1) (N+1) (aO _) _ _ _ _ _ e;exact Cx.gj.2 ⟨N+1,T8 (aO _) N (N+1) (by omega) _ _ _ _ e⟩
 intro h;unfold t_ at h;split at h
 ·rename_i r' e;simp only[aq]at h;subst h;exact Cx.gj.2 ⟨0,e⟩
 rename_i hx;obtain⟨N,hN⟩:=Zl6 (q:=fun n=>dZ (C.at n) n) (fun n m h=>Bj (Cx.ed h) n m h) (fun _ _ _ _ _ e=>Cx.rf e) h;refine Cx.gj.2 ⟨N+1,?_⟩;show t_ C.x (zw C.dV (dZ (Ah C.x C.dV (N+1) N) (N+1))) g args st=some r;unfold t_;rw[hx];exact Zh8 (Bj (T8 (by omega) N N (aO _)) N (N+1) (by omega)) _ _ _ _ hN
inductive Rs where
 |ex (e:Ex) (fr:Fr) (st:St)
 |val (v:V) (st:St)
 |ops (fr:Fr) (st:St)
 |sW (iO:List FP) (fr:Fr) (st:St)
inductive Kf where
 |seq (ro:Option Nat) (b:bW)
 |block (id:Nat)
 |loop (ro:Option Nat) (c:bW)
 |fY
 |put (d:Option Nat) (ops:List dK) (fr:Fr)
 |fN (ms:List Nat)
 |xu (op:iA) (d:Option Nat) (ops:List dK) (fr:Fr) (n:Nat) (w:List Nat)
 |cons (fp:FP)
 |fin (rs:List F5) (st:St)
def ff:Option (Ex×Fr×St)->Option Rs
 |some (e,fr,st)=>some (.ex e fr st)
 |none=>none
def ue:Option (V×St)->Option Rs
 |some (v,st)=>some (.val v st)
 |none=>none
def Dq:Option (Fr×St)->Option Rs
 |some (fr,st)=>some (.ops fr st)
 |none=>none
def BX:Option (List FP×Fr×St)->Option Rs
 |some (iO,fr,st)=>some (.sW iO fr st)
 |none=>none
def rW(C:Cx):Kf->Rs->Option Rs
 |.seq ro b,.ex .normal fr st=>ff (C.code ro b fr st)
 |.seq _ _,.ex e fr st=>some (.ex e fr st)
 |.block id,.ex (.exit De) fr st=>match Nat.beq De id with
  |true=>some (.ex .normal fr st)
  |false=>some (.ex (.exit De) fr st)
 |.block _,.ex e fr st=>some (.ex e fr st)
 |.loop ro c,.ex .normal fr st=>ff (C.code ro (.loop c) fr st)
 |.loop _ _,.ex e fr st=>some (.ex e fr st)
 |.fY,.ops fr st=>some (.ex .normal fr st)
 |.put d ops fr,.val v st=>match fr.put d v with
  |some fr=>Dq (dR C.call ops fr st)
  |none=>none
 |.fN ms,.sW iO fr st=>match kJ iO ms with
  |true=>some (.ex .normal fr st)
  |false=>none
 |.xu op d ops fr n w,.val v aA=>match fr.put d v with
  |some bH=>match bM C.call ops bH {aA with w:=ay n aA.w++w} with
   |some (iO,fr'',st'')=>some (.sW (qm fr.r op (ay n aA.w) n aA.n::iO) fr'' st'')
   |none=>none
  |none=>none
 |.cons fp,.sW iO fr st=>some (.sW (fp::iO) fr st)
 |.fin _ _,.ex (.exit _) _ _=>none
 |.fin rs O3,.ex _ fr bX=>match shut bX fr.marks with
  |none=>none
  |some fb=>match gg fr.r fb rs with
   |some vs=>some (.val (GF vs) {fb with w:=ay O3.n fb.w++O3.w})
   |none=>none
 |_,_=>none
def mY(C:Cx)(k:Kf):Option Rs->Option Rs
 |some r=>rW C k r
 |none=>none
def jl(C:Cx):List Kf->Option Rs->Option Rs
 |[],r=>r
 |k::K,r=>jl C K (mY C k r)
def Zyl{C:Cx}:∀K,jl C K none=none
 |[]=>rfl
 |_::K=>Zyl K
structure bD (C:Cx) (K:List Kf) (r:Option Rs) (Q:Rs->Prop):Prop where
 ex:∃s,jl C K r=some s/\Q s
def jC{C:Cx}{K K':List Kf}{r r':Option Rs}{Q:Rs->Prop}(h:jl C K r=jl C K' r'):bD C K r Q↔bD C K' r' Q:=
 ⟨fun ⟨s,e,q⟩=>⟨s,h▸e,q⟩,fun ⟨s,e,q⟩=>⟨s,h.symm▸e,q⟩⟩
def Ml{C:Cx}{K:List Kf}{Q:Rs->Prop}:bD C K none Q↔False:=
 ⟨fun ⟨_,h,_⟩=>(by rw[Zyl]at h;cases h),fun h=>h.elim⟩
def Yqc{C:Cx}{s:Rs}{Q:Rs->Prop}:bD C [] (some s) Q↔Q s:=
 ⟨fun ⟨_,h,q⟩=>by simp only[jl,aq]at h;exact h▸q,fun q=>⟨s,rfl,q⟩⟩
structure Call (C:Cx) (g:V) (args:List V) (st:St) (P:V->St->Prop):Prop where
 ex:∃v aA,C.call g args st=some (v,aA)/\P v aA
structure Code (C:Cx) (ro:Option Nat) (c:bW) (fr:Fr) (st:St) (P:Ex->Fr->St->Prop):Prop where
 ex:∃e bH aA,C.code ro c fr st=some (e,bH,aA)/\P e bH aA
def EU(P:V->St->Prop):Rs->Prop
 |.val v st=>P v st
 |_=>False
def exQ(P:Ex->Fr->St->Prop):Rs->Prop
 |.ex e fr st=>P e fr st
 |_=>False
def Yji{P:V->St->Prop}{v st}:EU P (.val v st)↔P v st:=Iff.rfl
def Ywd{P:Ex->Fr->St->Prop}{e fr st}:exQ P (.ex e fr st)↔P e fr st:=Iff.rfl
def aN{C:Cx}{g args st P}:Call C g args st P↔bD C [] (ue (C.call g args st)) (EU P):=by
 constructor
 ·rintro⟨v,aA,h,p⟩;exact⟨.val v aA,by rw[h];rfl,p⟩
 rintro⟨s,h,q⟩;cases hc:C.call g args st with
 |none=>rw[hc]at h;cases h
 |some r=> rw[hc]at h;simp only[jl,ue,aq]at h;subst h;exact⟨_,_,hc,q⟩
def bu{C:Cx}{ro c fr st P}:Code C ro c fr st P↔bD C [] (ff (C.code ro c fr st)) (exQ P):=by
 constructor
 ·rintro⟨e,bH,aA,h,p⟩;exact⟨.ex e bH aA,by rw[h];rfl,p⟩
 rintro⟨s,h,q⟩;cases hc:C.code ro c fr st with
 |none=>rw[hc]at h;cases h
 |some r=> rw[hc]at h;simp only[jl,ff,aq]at h;subst h;exact⟨_,_,_,hc,q⟩
def AS{C:Cx}{g args st P K Q}(h:Call C g args st P)(k:∀v aA,P v aA->bD C K (some (.val v aA)) Q):bD C K (ue (C.call g args st)) Q:=by obtain⟨v,aA,e,p⟩:=h.ex;rw[e];exact k v aA p
def mJ{C:Cx}{ro c fr st P K Q}(h:Code C ro c fr st P)(k:∀e bH aA,P e bH aA->bD C K (some (.ex e bH aA)) Q):bD C K (ff (C.code ro c fr st)) Q:=by obtain⟨e,bH,aA,h,p⟩:=h.ex;rw[h];exact k e bH aA p
def Call.mono{C:Cx}{g args st}{P Q:V->St->Prop}(h:Call C g args st P)(k:∀v aA,P v aA->Q v aA):Call C g args st Q:=by obtain⟨v,aA,e,p⟩:=h.ex;exact⟨v,aA,e,k v aA p⟩
def Yvo(I:Nat->Fr->St->Prop)(k:Nat)(P:Ex->Fr->St->Prop):Ex->Fr->St->Prop
 |.normal,fr,st=>∃k',k'<k/\I k' fr st
 |e,fr,st=>P e fr st
def Code.loop{C:Cx}{ro c}{P:Ex->Fr->St->Prop}{I:Nat->Fr->St->Prop}(h:∀k fr st,I k fr st->Code C ro c fr st (Yvo I k P)):∀(k:Nat) (fr:Fr) (st:St),I k fr st->Code C ro (.loop c) fr st P:=by
 intro k;induction k using Nat.strongRecOn with
 |_ k ih=>
  intro fr st hi;obtain⟨e,bH,aA,h1,p⟩:=(h k fr st hi).ex;have e1:C.code ro (.loop c) fr st=Df c C.call C.code ro fr st:=Cx.dw ro (.loop c) fr st;unfold Df at e1;rw[h1]at e1;cases e with
  |normal=> obtain⟨k',hk,jn⟩:=p;obtain⟨e2,AQ,fb,h2,p2⟩:=(ih k' hk bH aA jn).ex;exact⟨e2,AQ,fb,e1.trans h2,p2⟩
  |exit id=>exact⟨_,_,_,e1,p⟩
  |ret=>exact⟨_,_,_,e1,p⟩
def Yj9{C:Cx}{ro c}{K:List Kf}{Q:Rs->Prop}{fr:Fr}{st:St}(P:Ex->Fr->St->Prop)(I:Nat->Fr->St->Prop)(k:Nat)(hi:I k fr st)(h:∀k fr st,I k fr st->Code C ro c fr st (Yvo I k P))(q:∀e bH aA,P e bH aA->bD C K (some (.ex e bH aA)) Q):bD C K (ff (C.code ro (.loop c) fr st)) Q:=
 mJ (Code.loop h k fr st hi) q
section
variable {C:Cx} {K:List Kf} {Q:Rs->Prop} {ro:Option Nat} {a b c:bW} {fr:Fr} {st:St}
def Yj6:bD C K (ff (C.code ro .skip fr st)) Q↔bD C K (some (.ex .normal fr st)) Q:=jC (by rw[Cx.dw];rfl)
def Yqb{ops}:bD C K (ff (C.code ro (.fY ops) fr st)) Q↔bD C (.fY::K) (Dq (dR C.call ops fr st)) Q:=jC (by
 rw[Cx.dw]
 show jl C K (ff (By ops C.call C.code ro fr st))=jl C K (mY C .fY (Dq (dR C.call ops fr st)))
 unfold By
 rcases dR C.call ops fr st with _|⟨_,_⟩<;>rfl)
def Yj8{ops ms}:bD C K (ff (C.code ro (.fN ops ms) fr st)) Q↔bD C (.fN ms::K) (BX (bM C.call ops fr st)) Q:=jC (by
 rw[Cx.dw]
 show jl C K (ff (Bz ops ms C.call C.code ro fr st))=jl C K (mY C (.fN ms) (BX (bM C.call ops fr st)))
 unfold Bz
 rcases bM C.call ops fr st with _|⟨iO,_,_⟩
 ·rfl
 ·simp only[BX,mY,rW]
  cases kJ iO ms<;>rfl)
def Yp9:bD C K (ff (C.code ro (.seq a b) fr st)) Q↔bD C (.seq ro b::K) (ff (C.code ro a fr st)) Q:=jC (by
 rw[Cx.dw]
 show jl C K (ff (Dc a b C.call C.code ro fr st))=jl C K (mY C (.seq ro b) (ff (C.code ro a fr st)))
 unfold Dc
 rcases C.code ro a fr st with _|⟨e,_,_⟩
 ·rfl
 ·cases e<;>rfl)
def Ub(C:Cx)(ro:Option Nat)(a b:bW)(fr:Fr)(st:St):Option V->Option Rs
 |some (.bool true)=>ff (C.code ro a fr st)
 |some (.bool false)=>ff (C.code ro b fr st)
 |_=>none
def Ykc{x}:bD C K (ff (C.code ro (.cond x a b) fr st)) Q↔bD C K (Ub C ro a b fr st (x.ev fr.r)) Q:=jC (by
 rw[Cx.dw]
 show jl C K (ff (zG x a b C.call C.code ro fr st))=_
 unfold zG Ub
 rcases x.ev fr.r with _|v
 ·rfl
 ·cases v<;>try rfl
  rename_i b'
  cases b'<;>rfl)
def Ydf:Ub C ro a b fr st (some (.bool true))=ff (C.code ro a fr st):=rfl
def Zx2:Ub C ro a b fr st (some (.bool false))=ff (C.code ro b fr st):=rfl
def Yez{id}:bD C K (ff (C.code ro (.block id a) fr st)) Q↔bD C (.block id::K) (ff (C.code ro a fr st)) Q:=jC (by
 rw[Cx.dw]
 show jl C K (ff (Dd id a C.call C.code ro fr st))=jl C K (mY C (.block id) (ff (C.code ro a fr st)))
 unfold Dd
 rcases C.code ro a fr st with _|⟨e,_,_⟩
 ·rfl
 ·cases e with
  |exit De=>simp only[ff,mY,rW];cases Nat.beq De id<;>rfl
  |_=>rfl)
def Ykb{id}:bD C K (ff (C.code ro (.exit id) fr st)) Q↔bD C K (some (.ex (.exit id) fr st)) Q:=jC (by rw[Cx.dw];rfl)
def Yey:bD C K (ff (C.code ro (.scope a) fr st)) Q↔bD C K (ff (C.code ro a fr st)) Q:=jC (by rw[Cx.dw];rfl)
def Yqa:bD C K (ff (C.code ro .ret fr st)) Q↔bD C K (some (.ex .ret fr st)) Q:=jC (by rw[Cx.dw];rfl)
def Zuu:bD C (.seq ro b::K) (some (.ex .normal fr st)) Q↔bD C K (ff (C.code ro b fr st)) Q:=jC rfl
def Ycl{i}:bD C (.seq ro b::K) (some (.ex (.exit i) fr st)) Q↔bD C K (some (.ex (.exit i) fr st)) Q:=jC rfl
def Yg0:bD C (.seq ro b::K) (some (.ex .ret fr st)) Q↔bD C K (some (.ex .ret fr st)) Q:=jC rfl
def Zqi{i}:bD C (.block i::K) (some (.ex .normal fr st)) Q↔bD C K (some (.ex .normal fr st)) Q:=jC rfl
def Zxh{i}:bD C (.block i::K) (some (.ex .ret fr st)) Q↔bD C K (some (.ex .ret fr st)) Q:=jC rfl
def Zuv{i}:bD C (.block i::K) (some (.ex (.exit i) fr st)) Q↔bD C K (some (.ex .normal fr st)) Q:=jC (by simp[jl,mY,rW,Nat.beq_refl])
def Zsp{i j}(h:Nat.beq j i=false):bD C (.block i::K) (some (.ex (.exit j) fr st)) Q↔bD C K (some (.ex (.exit j) fr st)) Q:=jC (by simp[jl,mY,rW,h])
def Yyx:bD C (.fY::K) (some (.ops fr st)) Q↔bD C K (some (.ex .normal fr st)) Q:=jC rfl
def Yqu:Dq (dR C.call [] fr st)=some (.ops fr st):=rfl
def opR(C:Cx)(K:List Kf)(Q:Rs->Prop)(d:Option Nat)(op:iA)(ops:List dK)(fr:Fr)(st:St):Option Bool->Prop
 |some true=>bD C (.put d ops fr::K) (ue (cC op C.call fr.r st)) Q
 |some false=>bD C (.put d ops fr::K) (some (.val (.aV []) st)) Q
 |none=>False
def Yks{d op g ops}:bD C K (Dq (dR C.call (⟨d,op,g⟩::ops) fr st)) Q↔opR C K Q d op ops fr st (bU fr.r g):=by
 have e:dR C.call (⟨d,op,g⟩::ops) fr st=C8 C.call ⟨d,op,g⟩ (dR C.call ops) fr st:=rfl;rw[e];unfold C8;simp only[];rcases bU fr.r g with _|b
 ·exact Ml
 cases b
 ·show _↔bD C (.put d ops fr::K) (some (.val (.aV []) st)) Q;refine jC ?_;show _=jl C K (rW C (.put d ops fr) (.val (.aV []) st));simp only[rW];rcases fr.put d (.aV [])with _|_<;>rfl
 show _↔bD C (.put d ops fr::K) (ue (cC op C.call fr.r st)) Q;refine jC ?_;show _=jl C K (mY C (.put d ops fr) (ue (cC op C.call fr.r st)));rcases cC op C.call fr.r st with _|⟨v,aA⟩
 ·rfl
 simp only[ue,mY,rW];rcases fr.put d v with _|_<;>rfl
def Ykx{d op ops}:opR C K Q d op ops fr st (some true)↔bD C (.put d ops fr::K) (ue (cC op C.call fr.r st)) Q:=Iff.rfl
def Yfq{d op ops}:opR C K Q d op ops fr st (some false)↔bD C (.put d ops fr::K) (some (.val (.aV []) st)) Q:=Iff.rfl
def Yd2{v:V}:ue (some (v,st))=some (.val v st):=rfl
def Yyy{d n m r ops v}(h:d<n):bD C (.put (some d) ops ⟨r,n,m⟩::K) (some (.val v st)) Q↔bD C K (Dq (dR C.call ops ⟨r.set d v,n,m⟩ st)) Q:=jC (by simp[jl,mY,rW,Fr.put,h])
def Ycm{ops v}:bD C (.put none ops fr::K) (some (.val v st)) Q↔bD C K (Dq (dR C.call ops fr st)) Q:=jC rfl
def Ykt:BX (bM C.call [] fr st)=some (.sW [] fr st):=rfl
def O4(C:Cx)(K:List Kf)(Q:Rs->Prop)(d:Option Nat)(op:iA)(ops:List dK)(fr:Fr)(h:T O)(n:Nat)(w:List Nat):Option Bool->Prop
 |some true=>bD C (.xu op d ops fr n w::K) (ue (cC op C.call fr.r ⟨h,n,[]⟩)) Q
 |some false=>bD C (.cons ⟨some [],[],n,n⟩::K) (match fr.put d (.aV [])with|some bH=>BX (bM C.call ops bH ⟨h,n,w⟩)|none=>none) Q
 |none=>False
def Yfo{d op g ops h n w}:bD C K (BX (bM C.call (⟨d,op,g⟩::ops) fr ⟨h,n,w⟩)) Q↔O4 C K Q d op ops fr h n w (bU fr.r g):=by
 have e:bM C.call (⟨d,op,g⟩::ops) fr ⟨h,n,w⟩=C9 C.call ⟨d,op,g⟩ (bM C.call ops) fr ⟨h,n,w⟩:=rfl;rw[e];unfold C9;simp only[];rcases bU fr.r g with _|b
 ·exact Ml
 cases b
 ·show _↔bD C (.cons ⟨some [],[],n,n⟩::K) (match fr.put d (.aV [])with|some bH=>BX (bM C.call ops bH ⟨h,n,w⟩)|none=>none) Q;refine jC ?_;show _=jl C K (mY C (.cons ⟨some [],[],n,n⟩) _);rcases fr.put d (.aV [])with _|bH
  ·rfl
  simp only[];rcases bM C.call ops bH ⟨h,n,w⟩with _|⟨_,_,_⟩<;>rfl
 show _↔bD C (.xu op d ops fr n w::K) (ue (cC op C.call fr.r ⟨h,n,[]⟩)) Q;refine jC ?_;show _=jl C K (mY C (.xu op d ops fr n w) (ue (cC op C.call fr.r ⟨h,n,[]⟩)));rcases cC op C.call fr.r ⟨h,n,[]⟩with _|⟨v,aA⟩
 ·rfl
 simp only[ue,mY,rW];rcases fr.put d v with _|bH
 ·rfl
 simp only[];rcases bM C.call ops bH {aA with w:=ay n aA.w++w} with _|⟨_,_,_⟩<;>rfl
def Yfr{d op ops h n w}:O4 C K Q d op ops fr h n w (some true)↔bD C (.xu op d ops fr n w::K) (ue (cC op C.call fr.r ⟨h,n,[]⟩)) Q:=Iff.rfl
def Ybq{d n m r ops op h N w}(hd:d<n):O4 C K Q (some d) op ops ⟨r,n,m⟩ h N w (some false)↔bD C (.cons ⟨some [],[],N,N⟩::K) (BX (bM C.call ops ⟨r.set d (.aV []),n,m⟩ ⟨h,N,w⟩)) Q:=by simp[O4,Fr.put,hd]
def Zwt{ops op h N w}:O4 C K Q none op ops fr h N w (some false)↔bD C (.cons ⟨some [],[],N,N⟩::K) (BX (bM C.call ops fr ⟨h,N,w⟩)) Q:=Iff.rfl
def Yvt{op d n m r ops v N w h' n' w'}(h:d<n):bD C (.xu op (some d) ops ⟨r,n,m⟩ N w::K) (some (.val v ⟨h',n',w'⟩)) Q↔bD C (.cons (qm r op (ay N w') N n')::K) (BX (bM C.call ops ⟨r.set d v,n,m⟩ ⟨h',n',ay N w'++w⟩)) Q:=jC (by
 simp only[jl,mY,rW,Fr.put,h,if_true]
 rcases bM C.call ops _ _ with _|⟨_,_,_⟩<;>rfl)
def Zxg{op ops v N w h' n' w'}:bD C (.xu op none ops fr N w::K) (some (.val v ⟨h',n',w'⟩)) Q↔bD C (.cons (qm fr.r op (ay N w') N n')::K) (BX (bM C.call ops fr ⟨h',n',ay N w'++w⟩)) Q:=jC (by
 simp only[jl,mY,rW,Fr.put]
 rcases bM C.call ops _ _ with _|⟨_,_,_⟩<;>rfl)
def Yvu{fp iO}:bD C (.cons fp::K) (some (.sW iO fr st)) Q↔bD C K (some (.sW (fp::iO) fr st)) Q:=jC rfl
def vE{ms iO}(h:kJ iO ms=true):bD C (.fN ms::K) (some (.sW iO fr st)) Q↔bD C K (some (.ex .normal fr st)) Q:=jC (by simp only[jl,mY,rW,h])
def Yka{g first iB args mf}(hx:C.x (.func g first iB) args st=none)(h:C.dV g=some mf)(hl:(first++args++iB).length<=mf.ntmps):bD C K (ue (C.call (.func g first iB) args st)) Q↔bD C (.fin mf.results st::K) (ff (C.code none mf.body ⟨Ao .nil 0 (first++args++iB),mf.ntmps,[]⟩ ⟨st.h,st.n,[]⟩)) Q:=jC (by
 rw[Cx.nX]
 unfold t_
 rw[hx]
 simp only[zw,h,Ei,wx.2 hl,if_false]
 show _=jl C K (mY C (.fin mf.results st) _)
 unfold Z2
 rcases C.code none mf.body _ _ with _|⟨e,ef,bX⟩
 ·rfl
 ·cases e with
  |exit=>rfl
  |normal=>
   simp only[ff,mY,rW]
   rcases shut bX ef.marks with _|fb
   ·rfl
   ·simp only[]
    rcases gg ef.r fb mf.results with _|_<;>rfl
  |ret=>
   simp only[ff,mY,rW]
   rcases shut bX ef.marks with _|fb
   ·rfl
   ·simp only[]
    rcases gg ef.r fb mf.results with _|_<;>rfl)
def SE(h:T O)(n:Nat)(w:List Nat):Option (List V)->Option Rs
 |some vs=>some (.val (GF vs) ⟨h,n,w⟩)
 |none=>none
def Yhh{h n w vs}:SE h n w (some vs)=some (.val (GF vs) ⟨h,n,w⟩):=rfl
def Yg1{rs r n h1 n1 w1}:bD C (.fin rs st::K) (some (.ex .ret ⟨r,n,[]⟩ ⟨h1,n1,w1⟩)) Q↔bD C K (SE h1 n1 (ay st.n w1++st.w) (gg r ⟨h1,n1,w1⟩ rs)) Q:=jC (by
 simp only[jl,mY,rW,shut]
 rcases gg r ⟨h1,n1,w1⟩ rs with _|_<;>rfl)
def Yg2{rs r n h1 n1 w1}:bD C (.fin rs st::K) (some (.ex .normal ⟨r,n,[]⟩ ⟨h1,n1,w1⟩)) Q↔bD C K (SE h1 n1 (ay st.n w1++st.w) (gg r ⟨h1,n1,w1⟩ rs)) Q:=jC (by
 simp only[jl,mY,rW,shut]
 rcases gg r ⟨h1,n1,w1⟩ rs with _|_<;>rfl)
end
def Zw7(a):cC (.sJ a)=LM a:=rfl
def Zuh(a b):cC (.ku a b)=Gy a b:=rfl
def Zum(a):cC (.py a)=Jg a:=rfl
def Zw4(a b):cC (.iZ a b)=LN a b:=rfl
def Yf4:cC .yA=LP:=rfl
def Ybz(a b):cC (.wU a b)=Gz a b:=rfl
def Zw3(a b c d e f):cC (.kv a b c d e f)=Ez a b c d e f:=rfl
def Zui(a b c):cC (.cB a b c)=Al a b c:=rfl
def Zw1(a b c d e):cC (.oa a b c d e)=qV a b c d e:=rfl
def Zuj(a b c d e f):cC (.ky a b c d e f)=Bx a b c d e f:=rfl
def Yb4(a b c d e):cC (.wV a b c d e)=LQ a b c d e:=rfl
def Yb3(a b):cC (.bL a b)=GB a b:=rfl
def Yb1(a b c d e):cC (.lookup a b c d e)=Jk a b c d e:=rfl
def Yb0(a b c d):cC (.wM a b c d)=GC a b c d:=rfl
def Zuk(a):cC (.kI a)=Jl a:=rfl
def Zw2(a):cC (.sD a)=Jm a:=rfl
def Yb2(a):cC (.wW a)=Om a:=rfl
def Yrd(a):cC (.cap a)=LR a:=rfl
def Yvi(a):cC (.mn a)=Am a:=rfl
def Yvh(a):cC (.mx a)=sL a:=rfl
def Yb6(a b c d e f):cC (.append a b c d e f)=EB a b c d e f:=rfl
def Yk7(a b c):cC (.copy a b c)=EC a b c:=rfl
def Yf8(a b c):cC (.clear a b c)=LS a b c:=rfl
def Yq9(a b):cC (.LB a b)=GD a b:=rfl
def Yf2(a):cC (.Bm a)=LU a:=rfl
def Yk4(a b c):cC (.IP a b c)=LV a b c:=rfl
def Yrc(a b):cC (.ext a b)=Jo a b:=rfl
def Yhp{ng k x y}:wI ng (.cL k) x y=bh ng k x y:=by cases x<;>cases y<;>rfl
attribute [simp] Yqc Yji Ywd Yj6 Yqb Yj8 Yp9 Ykc Ydf Zx2 Yez Ykb Yey Yqa Zuu Ycl Yg0 Zqi Zxh Zuv Yyx Yqu Yks Ykx Yfq Yd2 Yyy Ycm
 Ykt Yfo Yfr Ybq Zwt Yvt Zxg Yvu vE Yhh Yg1 Yg2
 Zw7 Zuh Zum Zw4 Yf4 Ybz Zw3 Zui Zw1 Zuj Yb4 Yb3 Yb1 Yb0 Zuk Zw2 Yb2 Yrd Yvi Yvh Yb6 Yk7 Yf8 Yq9 Yf2 Yk4 Yrc Yhp
structure ab (h:T O) (n:Nat) (h':T O) (n':Nat):Prop where
 le:n<=n'
 get:∀i,i<n->h'.get i=h.get i
def ab.refl{h:T O}{n:Nat}:ab h n h n:=⟨aO _,fun _ _=>rfl⟩
def ab.trans{h h1 h2:T O}{n n1 n2:Nat}(a:ab h n h1 n1)(b:ab h1 n1 h2 n2):ab h n h2 n2:=
 ⟨j_ a.le b.le,fun i hi=>(b.get i (fm hi a.le)).trans (a.get i hi)⟩
def ab.set{h h1:T O}{n n1:Nat}{i:Nat}{o:O}(hi:n<=i)(a:ab h n h1 n1):ab h n (h1.set i o) n1:=
 ⟨a.le,fun j hj=>by rw[T.ae,ak (by omega)];exact a.get j hj⟩
def ab.up{h h1:T O}{n n1 n2:Nat}(a:ab h n h1 n1)(hn:n1<=n2):ab h n h1 n2:=⟨j_ a.le hn,a.get⟩
def ax(P:V->T O->Nat->Prop)(h:T O)(n:Nat)(w:List Nat)(v:V)(st:St):Prop:=st.w=w/\ab h n st.h st.n/\P v st.h st.n
abbrev Fn(C:Cx)(f:Nat)(args:List V)(h:T O)(n:Nat)(P:V->T O->Nat->Prop):Prop:=∀w,Call C (.func f [] []) args ⟨h,n,w⟩ (ax P h n w)
def av{C:Cx}{f args h n w P K Q}(hf:Fn C f args h n P)(k:∀v h' n',ab h n h' n'->P v h' n'->bD C K (some (.val v ⟨h',n',w⟩)) Q):bD C K (ue (C.call (.func f [] []) args ⟨h,n,w⟩)) Q:=
 AS (hf w) fun v aA=>by
  obtain⟨h',n',w'⟩:=aA
  rintro⟨rfl,hk,hp⟩
  exact k v h' n' hk hp
def Zq6{N:Nat}:∀{w:List Nat},(∀i∈w,N<=i)->ay N w=[]
 |[],_=>rfl
 |i::w,h=>by
  have:=h i qQ
  simp only[ay,wx.2 this,if_false]
  exact Zq6 fun j hj=>h j (qz _ hj)
end
end Go.Mx
