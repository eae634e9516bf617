/-Runs without a count of steps-/
import Derived.Test.YtgccnjdneojagaaGreatDoorMxTab
set_option linter.all false
namespace Go.Mx
noncomputable section
open Go
def Le(a b:cO):Prop:=∀g args st r,a g args st=some r->b g args st=some r
def Ug{a b:cO}(h:Le a b)(op:iz)(r:T V)(st:St){o:V×St}(e:cH op a r st=some o):cH op b r st=some o:=by
 cases op<;>try exact e
 rename_i f args;show AM f args b r st=some o;have e:AM f args a r st=some o:=e;unfold AM at e ⊢;split at e
 ·exact h _ _ _ _ e
 cases e
def OY{a b:cO}(h:Le a b):∀(ops:List dP) (fr:Fr) (st:St) {o:Fr×St},dX a ops fr st=some o->dX b ops fr st=some o
 |[],_,_,_,e=>e
 |q::ops,fr,st,o,e=>by
  have e:Dq a q (dX a ops) fr st=some o:=e
  show Dq b q (dX b ops) fr st=some o
  unfold Dq at e ⊢
  split at e
  ·split at e
   ·rename_i v aB h1
    rw[Ug h _ _ _ h1]
    simp only[]
    split at e
    ·exact OY h ops _ _ e
    ·cases e
   ·cases e
  ·split at e
   ·exact OY h ops _ _ e
   ·cases e
  ·cases e
def Uh{a b:cO}(h:Le a b):∀(ops:List dP) (fr:Fr) (st:St) {o:List FP×Fr×St},bP a ops fr st=some o->bP b ops fr st=some o
 |[],_,_,_,e=>e
 |q::ops,fr,st,o,e=>by
  have e:Dr a q (bP a ops) fr st=some o:=e
  show Dr b q (bP b ops) fr st=some o
  unfold Dr at e ⊢
  split at e
  ·split at e
   ·rename_i v aB h1
    rw[Ug h _ _ _ h1]
    simp only[]
    split at e
    ·split at e
     ·rename_i h2
      rw[Uh h ops _ _ h2]
      exact e
     ·cases e
    ·cases e
   ·cases e
  ·split at e
   ·split at e
    ·rename_i h2
     rw[Uh h ops _ _ h2]
     exact e
    ·cases e
   ·cases e
  ·cases e
def GN(a b:sE):Prop:=∀ro c fr st r,a ro c fr st=some r->b ro c fr st=some r
def Zmp{a b:cO}{p q:sE}(h:Le a b)(hc:GN p q)(ro:Option Nat)(c:cF)(fr:Fr)(st:St){o:Ex×Fr×St}(e:oJ c a p ro fr st=some o):oJ c b q ro fr st=some o:=by
 cases c with
 |skip=>exact e
 |gw ops=>
  have e:BH ops a p ro fr st=some o:=e;show BH ops b q ro fr st=some o;unfold BH at e ⊢;split at e
  ·rename_i h1;rw[OY h _ _ _ h1];exact e
  cases e
 |gK ops ms=>
  have e:BI ops ms a p ro fr st=some o:=e;show BI ops ms b q ro fr st=some o;unfold BI at e ⊢;split at e
  ·rename_i h1;rw[Uh h _ _ _ h1];exact e
  cases e
 |zW dst ch send zero ops=>
  have e:Dt dst ch send zero ops a p ro fr st=some o:=e;show Dt dst ch send zero ops b q ro fr st=some o;unfold Dt at e ⊢;split at e
  ·split at e
   ·split at e
    ·split at e
     ·rename_i h1;rw[OY h _ _ _ h1];exact e
     cases e
    cases e
   cases e
  cases e
 |seq x y=>
  have e:Du x y a p ro fr st=some o:=e;show Du x y b q ro fr st=some o;unfold Du at e ⊢;split at e
  ·rename_i h1;rw[hc _ _ _ _ _ h1];exact hc _ _ _ _ _ e
  rename_i h1;have:=hc _ _ _ _ _ e;rw[this];rcases o with⟨_|_|_,_,_⟩
  ·exact absurd e (h1 _ _)
  ·rfl
  rfl
 |cond x y z=>
  have e:Ad x y z a p ro fr st=some o:=e;show Ad x y z b q ro fr st=some o;unfold Ad at e ⊢;split at e
  ·exact hc _ _ _ _ _ e
  ·exact hc _ _ _ _ _ e
  cases e
 |block id x=>
  have e:Dv id x a p ro fr st=some o:=e;show Dv id x b q ro fr st=some o;unfold Dv at e ⊢;split at e
  ·rename_i h1;rw[hc _ _ _ _ _ h1];exact e
  rename_i h1;have:=hc _ _ _ _ _ e;rw[this];rcases o with⟨_|_|_,_,_⟩
  ·rfl
  ·exact absurd e (h1 _ _ _)
  rfl
 |loop x=>
  have e:Dx x a p ro fr st=some o:=e;show Dx x b q ro fr st=some o;unfold Dx at e ⊢;split at e
  ·rename_i h1;rw[hc _ _ _ _ _ h1];exact hc _ _ _ _ _ e
  rename_i h1;have:=hc _ _ _ _ _ e;rw[this];rcases o with⟨_|_|_,_,_⟩
  ·exact absurd e (h1 _ _)
  ·rfl
  rfl
 |jY g ps x y=>
  have e:A8 g ps x y a p ro fr st=some o:=e;show A8 g ps x y b q ro fr st=some o;unfold A8 at e ⊢;split at e
  ·cases e
  split at e
  ·cases e
  rename_i hy;simp only[hy];split at e
  ·cases e
  split at e
  ·cases e
  rename_i h1;rw[h _ _ _ _ h1];exact e
 |exit id=>exact e
 |scope x=>exact hc _ _ _ _ _ e
 |ret=>exact e
 |stop=>exact e
def Bq{a b:cO}(h:Le a b):∀(F F':Nat),F<=F'->GN (eF a F) (eF b F')
 |0,_,_=>fun _ _ _ _ _ e=>by cases e
 |F+1,0,hF=>by omega
 |F+1,F'+1,hF=>fun ro c fr st _ e=>Zmp h (Bq h F F' (by omega)) ro c fr st e
def Zv2{p q:sE}(h:GN p q){mf:nA}{args:List V}{st:St}{o:V×St}(e:Ep mf p args st=some o):Ep mf q args st=some o:=by
 unfold Ep at e ⊢;split at e
 ·cases e
 rename_i h0;rw[ak h0];cases h1:p none mf.body {r:=AN .nil 0 args,n:=mf.ntmps,marks:=[]} {st with w:=[]} with
 |none=>rw[h1]at e;cases e
 |some r=>rw[h1]at e;rw[h _ _ _ _ _ h1];exact e
def Zs8{p q:sE}(h:GN p q){l:Nat}{args:List V}{st:St}{o:V×St}(e:Eb p l args st=some o):Eb q l args st=some o:=by
 unfold Eb at e ⊢;split at e
 ·split at e
  ·cases e
  split at e
  ·rename_i h1;rw[h _ _ _ _ _ h1];simp only[];split at e
   ·split at e
    ·rename_i hr;rw[av hr];split at e
     ·rename_i h2;rw[h _ _ _ _ _ h2];exact e
     cases e
    cases e
   cases e
  cases e
 cases e
def Zic{ec:Nat->Option nA}{p q:sE}(h:GN p q):Le (zV ec p) (zV ec q):=by
 intro g args st o e;unfold zV at e ⊢;split at e
 ·split at e
  ·exact Zv2 h e
  cases e
 ·exact Zs8 h e
 cases e
def Zpq{x a b:cO}(h:Le a b):Le (uK x a) (uK x b):=by
 intro g args st o e;unfold uK at e ⊢;split at e
 ·exact e
 exact h _ _ _ _ e
def Ui{x:cO}{ec:Nat->Option nA}{F F':Nat}(hF:F<=F'):∀(d d':Nat),d<=d'->Le (AD x ec F d) (AD x ec F' d')
 |0,0,_=>fun _ _ _ _ e=>e
 |0,d'+1,_=>fun g args st o e=>by
  have e:x g args st=some o:=e
  show uK x _ g args st=some o
  unfold uK;rw[e]
 |d+1,0,h=>by omega
 |d+1,d'+1,h=>Zpq (Zic (Bq (Ui hF d d' (by omega)) F F' hF))
structure Cx where
 x:cO
 ec:Nat->Option nA
def Cx.at(C:Cx)(N:Nat):cO:=AD C.x C.ec N N
def Cx.eJ{C:Cx}{N M:Nat}(h:N<=M):Le (C.at N) (C.at M):=Ui h N M h
open Classical in
def Cx.call(C:Cx):cO:=fun g args st=>if h:∃r N,C.at N g args st=some r then some h.choose else none
def Cx.gh{C:Cx}{g args st r}:C.call g args st=some r↔∃N,C.at N g args st=some r:=by
 unfold Cx.call;constructor
 ·intro h;split at h
  ·rename_i hc;simp only[au]at h;exact h▸hc.choose_spec
  cases h
 rintro⟨N,h⟩;have hc:∃r N,C.at N g args st=some r:=⟨r,N,h⟩;rw[dif_pos hc];obtain⟨M,hM⟩:=hc.choose_spec;have h1:=Cx.eJ (Ey N M) _ _ _ _ h;have h2:=Cx.eJ (Eu N M) _ _ _ _ hM;rw[h1]at h2;exact congrArg some (pC h2).symm
open Classical in
def Cx.code(C:Cx):sE:=fun ro c fr st=>if h:∃r F,eF C.call F ro c fr st=some r then some h.choose else none
def Cx.gj{C:Cx}{ro c fr st r}:C.code ro c fr st=some r↔∃F,eF C.call F ro c fr st=some r:=by
 unfold Cx.code;constructor
 ·intro h;split at h
  ·rename_i hc;simp only[au]at h;exact h▸hc.choose_spec
  cases h
 rintro⟨N,h⟩;have hc:∃r F,eF C.call F ro c fr st=some r:=⟨r,N,h⟩;rw[dif_pos hc];obtain⟨M,hM⟩:=hc.choose_spec;have h1:=Bq (fun _ _ _ _ e=>e) N (max N M) (Ey N M) _ _ _ _ _ h;have h2:=Bq (fun _ _ _ _ e=>e) M (max N M) (Eu N M) _ _ _ _ _ hM;rw[h1]at h2;exact congrArg some (pC h2).symm
def Ygz{α:Type}{a b:Option α}(h:∀r,a=some r↔b=some r):a=b:=by
 cases a with
 |none=>cases b with
  |none=>rfl
  |some r=>exact absurd ((h r).2 rfl) (by simp)
 |some r=>exact((h r).1 rfl).symm
def Uj{a:cO}{p:sE}{q:Nat->sE}(hq:∀n m,n<=m->GN (q n) (q m))(hp:∀ro c fr st r,p ro c fr st=some r->∃n,q n ro c fr st=some r)(ro:Option Nat)(c:cF)(fr:Fr)(st:St){o:Ex×Fr×St}(e:oJ c a p ro fr st=some o):∃n,oJ c a (q n) ro fr st=some o:=by
 cases c with
 |skip=>exact⟨0,e⟩
 |gw ops=>exact⟨0,e⟩
 |gK ops ms=>exact⟨0,e⟩
 |zW dst ch send zero ops=>exact⟨0,e⟩
 |seq x y=>
  have e:Du x y a p ro fr st=some o:=e;show ∃n,Du x y a (q n) ro fr st=some o;unfold Du at e ⊢;split at e
  ·rename_i h1;obtain⟨n,hn⟩:=hp _ _ _ _ _ h1;obtain⟨m,hm⟩:=hp _ _ _ _ _ e;refine⟨max n m,?_⟩;rw[hq n _ (Ey n m) _ _ _ _ _ hn];exact hq m _ (Eu n m) _ _ _ _ _ hm
  rename_i h1;obtain⟨n,hn⟩:=hp _ _ _ _ _ e;refine⟨n,?_⟩;rw[hn];rcases o with⟨_|_|_,_,_⟩
  ·exact absurd e (h1 _ _)
  ·rfl
  rfl
 |cond x y z=>
  have e:Ad x y z a p ro fr st=some o:=e;show ∃n,Ad x y z a (q n) ro fr st=some o;unfold Ad at e ⊢;split at e
  ·exact hp _ _ _ _ _ e
  ·exact hp _ _ _ _ _ e
  cases e
 |block id x=>
  have e:Dv id x a p ro fr st=some o:=e;show ∃n,Dv id x a (q n) ro fr st=some o;unfold Dv at e ⊢;split at e
  ·rename_i h1;obtain⟨n,hn⟩:=hp _ _ _ _ _ h1;exact⟨n,by rw[hn];exact e⟩
  rename_i h1;obtain⟨n,hn⟩:=hp _ _ _ _ _ e;refine⟨n,?_⟩;rw[hn];rcases o with⟨_|_|_,_,_⟩
  ·rfl
  ·exact absurd e (h1 _ _ _)
  rfl
 |loop x=>
  have e:Dx x a p ro fr st=some o:=e;show ∃n,Dx x a (q n) ro fr st=some o;unfold Dx at e ⊢;split at e
  ·rename_i h1;obtain⟨n,hn⟩:=hp _ _ _ _ _ h1;obtain⟨m,hm⟩:=hp _ _ _ _ _ e;refine⟨max n m,?_⟩;rw[hq n _ (Ey n m) _ _ _ _ _ hn];exact hq m _ (Eu n m) _ _ _ _ _ hm
  rename_i h1;obtain⟨n,hn⟩:=hp _ _ _ _ _ e;refine⟨n,?_⟩;rw[hn];rcases o with⟨_|_|_,_,_⟩
  ·exact absurd e (h1 _ _)
  ·rfl
  rfl
 |jY g ps x y=>exact⟨0,e⟩
 |exit id=>exact⟨0,e⟩
 |scope x=>exact hp _ _ _ _ _ e
 |ret=>exact⟨0,e⟩
 |stop=>exact⟨0,e⟩
def Cx.dB{C:Cx}(ro:Option Nat)(c:cF)(fr:Fr)(st:St):C.code ro c fr st=oJ c C.call C.code ro fr st:=by
 apply Ygz;intro r;constructor
 ·intro h;obtain⟨F,hF⟩:=Cx.gj.1 h;cases F with
  |zero=>cases hF
  |succ F=>exact Zmp (fun _ _ _ _ e=>e) (fun ro c fr st r e=>Cx.gj.2 ⟨F,e⟩) ro c fr st hF
 intro h;obtain⟨n,hn⟩:=Uj (q:=eF C.call) (Bq fun _ _ _ _ e=>e) (fun _ _ _ _ _ e=>Cx.gj.1 e) ro c fr st h;exact Cx.gj.2 ⟨n+1,hn⟩
def Yas{C:Cx}(op:iz)(r:T V)(st:St){o:V×St}(e:cH op C.call r st=some o):∃N,cH op (C.at N) r st=some o:=by
 cases op<;>try exact⟨0,e⟩
 rename_i f args;have e:AM f args C.call r st=some o:=e;show ∃N,AM f args (C.at N) r st=some o;unfold AM at e ⊢;split at e
 ·exact Cx.gh.1 e
 cases e
def Uk{C:Cx}:∀(ops:List dP) (fr:Fr) (st:St) {o:Fr×St},dX C.call ops fr st=some o->∃N,dX (C.at N) ops fr st=some o
 |[],_,_,_,e=>⟨0,e⟩
 |q::ops,fr,st,o,e=>by
  have e:Dq C.call q (dX C.call ops) fr st=some o:=e
  show ∃N,Dq (C.at N) q (dX (C.at N) ops) fr st=some o
  unfold Dq at e ⊢
  split at e
  ·split at e
   ·rename_i v aB h1
    split at e
    ·obtain⟨N,hN⟩:=Yas _ _ _ h1
     obtain⟨M,hM⟩:=Uk ops _ _ e
     refine⟨max N M,?_⟩
     rw[Ug (Cx.eJ (Ey N M)) _ _ _ hN]
     rename_i h3
     simp only[h3]
     exact OY (Cx.eJ (Eu N M)) _ _ _ hM
    ·cases e
   ·cases e
  ·split at e
   ·exact Uk ops _ _ e
   ·cases e
  ·cases e
def Zne{C:Cx}:∀(ops:List dP) (fr:Fr) (st:St) {o:List FP×Fr×St},bP C.call ops fr st=some o->∃N,bP (C.at N) ops fr st=some o
 |[],_,_,_,e=>⟨0,e⟩
 |q::ops,fr,st,o,e=>by
  have e:Dr C.call q (bP C.call ops) fr st=some o:=e
  show ∃N,Dr (C.at N) q (bP (C.at N) ops) fr st=some o
  unfold Dr at e ⊢
  split at e
  ·split at e
   ·rename_i v aB h1
    split at e
    ·rename_i h3
     split at e
     ·rename_i h2
      obtain⟨N,hN⟩:=Yas _ _ _ h1
      obtain⟨M,hM⟩:=Zne ops _ _ h2
      refine⟨max N M,?_⟩
      rw[Ug (Cx.eJ (Ey N M)) _ _ _ hN]
      simp only[h3]
      rw[Uh (Cx.eJ (Eu N M)) _ _ _ hM]
      exact e
     ·cases e
    ·cases e
   ·cases e
  ·split at e
   ·split at e
    ·rename_i h2
     obtain⟨M,hM⟩:=Zne ops _ _ h2
     exact⟨M,by rw[hM];exact e⟩
    ·cases e
   ·cases e
  ·cases e
def Zr6{C:Cx}:∀(F:Nat) (ro:Option Nat) (c:cF) (fr:Fr) (st:St) {o:Ex×Fr×St},eF C.call F ro c fr st=some o->∃N,eF (C.at N) F ro c fr st=some o
 |0,_,_,_,_,_,e=>by cases e
 |F+1,ro,c,fr,st,o,e=>by
  have e:oJ c C.call (eF C.call F) ro fr st=some o:=e
  show ∃N,oJ c (C.at N) (eF (C.at N) F) ro fr st=some o
  have ih:=@Zr6 C F
  have up:∀{n m:Nat},n<=m->GN (eF (C.at n) F) (eF (C.at m) F):=fun h=>Bq (Cx.eJ h) F F (aM _)
  cases c with
  |gw ops=>
   have e:BH ops C.call (eF C.call F) ro fr st=some o:=e
   show ∃N,BH ops (C.at N) (eF (C.at N) F) ro fr st=some o
   unfold BH at e ⊢
   split at e
   ·rename_i h1
    obtain⟨N,hN⟩:=Uk _ _ _ h1
    exact⟨N,by rw[hN];exact e⟩
   ·cases e
  |gK ops ms=>
   have e:BI ops ms C.call (eF C.call F) ro fr st=some o:=e
   show ∃N,BI ops ms (C.at N) (eF (C.at N) F) ro fr st=some o
   unfold BI at e ⊢
   split at e
   ·rename_i h1
    obtain⟨N,hN⟩:=Zne _ _ _ h1
    exact⟨N,by rw[hN];exact e⟩
   ·cases e
  |zW dst ch send zero ops=>
   have e:Dt dst ch send zero ops C.call (eF C.call F) ro fr st=some o:=e
   show ∃N,Dt dst ch send zero ops (C.at N) (eF (C.at N) F) ro fr st=some o
   unfold Dt at e ⊢
   split at e
   ·split at e
    ·split at e
     ·split at e
      ·rename_i h1
       obtain⟨N,hN⟩:=Uk _ _ _ h1
       exact⟨N,by rw[hN];exact e⟩
      ·cases e
     ·cases e
    ·cases e
   ·cases e
  |jY g ps x y=>
   have e:A8 g ps x y C.call (eF C.call F) ro fr st=some o:=e
   show ∃N,A8 g ps x y (C.at N) (eF (C.at N) F) ro fr st=some o
   unfold A8 at e ⊢
   split at e
   ·cases e
   ·split at e
    ·cases e
    ·rename_i hy
     simp only[hy]
     split at e
     ·cases e
     ·split at e
      ·cases e
      ·rename_i h1
       obtain⟨N,hN⟩:=Cx.gh.1 h1
       exact⟨N,by rw[hN];exact e⟩
  |skip=>exact⟨0,e⟩
  |exit id=>exact⟨0,e⟩
  |ret=>exact⟨0,e⟩
  |stop=>cases e
  |scope x=>exact ih _ _ _ _ e
  |cond x y z=>
   have e:Ad x y z C.call (eF C.call F) ro fr st=some o:=e
   show ∃N,Ad x y z (C.at N) (eF (C.at N) F) ro fr st=some o
   unfold Ad at e ⊢
   split at e
   ·exact ih _ _ _ _ e
   ·exact ih _ _ _ _ e
   ·cases e
  |seq x y=>exact Uj (a:=C.call) (q:=fun n=>eF (C.at n) F) (fun _ _ h=>up h) (fun _ _ _ _ _ e=>ih _ _ _ _ e) ro (.seq x y) fr st e
  |block id x=>exact Uj (a:=C.call) (q:=fun n=>eF (C.at n) F) (fun _ _ h=>up h) (fun _ _ _ _ _ e=>ih _ _ _ _ e) ro (.block id x) fr st e
  |loop x=>exact Uj (a:=C.call) (q:=fun n=>eF (C.at n) F) (fun _ _ h=>up h) (fun _ _ _ _ _ e=>ih _ _ _ _ e) ro (.loop x) fr st e
def Cx.r_{C:Cx}{ro c fr st r}(h:C.code ro c fr st=some r):∃N,eF (C.at N) N ro c fr st=some r:=by obtain⟨F,hF⟩:=Cx.gj.1 h;obtain⟨N,hN⟩:=Zr6 F _ _ _ _ hF;exact⟨max F N,Bq (Cx.eJ (Eu F N)) _ _ (Ey F N) _ _ _ _ _ hN⟩
def Zms{ec:Nat->Option nA}{p:sE}{q:Nat->sE}(hq:∀n m,n<=m->GN (q n) (q m))(hp:∀ro c fr st r,p ro c fr st=some r->∃n,q n ro c fr st=some r){g args st}{o:V×St}(e:zV ec p g args st=some o):∃n,zV ec (q n) g args st=some o:=by
 unfold zV at e ⊢;split at e
 ·split at e
  ·rename_i mf _;unfold Ep at e ⊢;split at e
   ·cases e
   rename_i h0;simp only[h0,if_false];cases h1:p none mf.body {r:=AN .nil 0 _,n:=mf.ntmps,marks:=[]} {st with w:=[]} with
   |none=>rw[h1]at e;cases e
   |some r=> rw[h1]at e;obtain⟨n,hn⟩:=hp _ _ _ _ _ h1;exact⟨n,by rw[hn];exact e⟩
  cases e
 ·unfold Eb at e ⊢;split at e
  ·split at e
   ·cases e
   split at e
   ·rename_i h1;obtain⟨n,hn⟩:=hp _ _ _ _ _ h1;split at e
    ·split at e
     ·split at e
      ·rename_i h4 h5 _ _ _ _ h2;obtain⟨m,hm⟩:=hp _ _ _ _ _ h2;refine⟨max n m,?_⟩;rw[hq n _ (Ey n m) _ _ _ _ _ hn];simp only[h4,h5,if_true];rw[hq m _ (Eu n m) _ _ _ _ _ hm];exact e
      cases e
     cases e
    cases e
   cases e
  cases e
 cases e
def Cx.od{C:Cx}(g:V)(args:List V)(st:St):C.call g args st=uK C.x (zV C.ec C.code) g args st:=by
 apply Ygz;intro r;constructor
 ·intro h;obtain⟨N,hN⟩:=Cx.gh.1 h;cases N with
  |zero=> have e:C.x g args st=some r:=hN;unfold uK;rw[e]
  |succ N=> refine Zpq (x:=C.x) (Zic (p:=eF (AD C.x C.ec (N+1) N) (N+1)) fun ro c fr st r e=>?_) _ _ _ _ hN;refine Cx.gj.2 ⟨N+1,?_⟩;refine Bq (fun g args st r e=>?_) (N+1) (N+1) (aM _) _ _ _ _ _ e;exact Cx.gh.2 ⟨N+1,Ui (aM _) N (N+1) (by omega) _ _ _ _ e⟩
 intro h;unfold uK at h;split at h
 ·rename_i r' e;simp only[au]at h;subst h;exact Cx.gh.2 ⟨0,e⟩
 rename_i hx;obtain⟨N,hN⟩:=Zms (q:=fun n=>eF (C.at n) n) (fun n m h=>Bq (Cx.eJ h) n m h) (fun _ _ _ _ _ e=>Cx.r_ e) h;refine Cx.gh.2 ⟨N+1,?_⟩;show uK C.x (zV C.ec (eF (AD C.x C.ec (N+1) N) (N+1))) g args st=some r;unfold uK;rw[hx];exact Zic (Bq (Ui (by omega) N N (aM _)) N (N+1) (by omega)) _ _ _ _ hN
inductive Rs where
 |ex (e:Ex) (fr:Fr) (st:St)
 |val (v:V) (st:St)
 |ops (fr:Fr) (st:St)
 |tI (iR:List FP) (fr:Fr) (st:St)
inductive Kf where
 |seq (ro:Option Nat) (b:cF)
 |block (id:Nat)
 |loop (ro:Option Nat) (c:cF)
 |gw
 |put (d:Option Nat) (ops:List dP) (fr:Fr)
 |gK (ms:List Nat)
 |xR (op:iz) (d:Option Nat) (ops:List dP) (fr:Fr) (n:Nat) (w:List Nat)
 |cons (fp:FP)
 |fin (rs:List F3) (st:St)
def fl:Option (Ex×Fr×St)->Option Rs
 |some (e,fr,st)=>some (.ex e fr st)
 |none=>none
def uR:Option (V×St)->Option Rs
 |some (v,st)=>some (.val v st)
 |none=>none
def DE:Option (Fr×St)->Option Rs
 |some (fr,st)=>some (.ops fr st)
 |none=>none
def BZ:Option (List FP×Fr×St)->Option Rs
 |some (iR,fr,st)=>some (.tI iR fr st)
 |none=>none
def tc(C:Cx):Kf->Rs->Option Rs
 |.seq ro b,.ex .normal fr st=>fl (C.code ro b fr st)
 |.seq _ _,.ex e fr st=>some (.ex e fr st)
 |.block id,.ex (.exit Dw) fr st=>match Nat.beq Dw id with
  |true=>some (.ex .normal fr st)
  |false=>some (.ex (.exit Dw) fr st)
 |.block _,.ex e fr st=>some (.ex e fr st)
 |.loop ro c,.ex .normal fr st=>fl (C.code ro (.loop c) fr st)
 |.loop _ _,.ex e fr st=>some (.ex e fr st)
 |.gw,.ops fr st=>some (.ex .normal fr st)
 |.put d ops fr,.val v st=>match fr.put d v with
  |some fr=>DE (dX C.call ops fr st)
  |none=>none
 |.gK ms,.tI iR fr st=>match lG iR ms with
  |true=>some (.ex .normal fr st)
  |false=>none
 |.xR op d ops fr n w,.val v aB=>match fr.put d v with
  |some bJ=>match bP C.call ops bJ {aB with w:=ay n aB.w++w} with
   |some (iR,fr'',st'')=>some (.tI (q8 fr.r op (ay n aB.w) n aB.n::iR) fr'' st'')
   |none=>none
  |none=>none
 |.cons fp,.tI iR fr st=>some (.tI (fp::iR) fr st)
 |.fin _ _,.ex (.exit _) _ _=>none
 |.fin rs OZ,.ex _ fr b9=>match shut b9 fr.marks with
  |none=>none
  |some fi=>match gb fr.r fi rs with
   |some vs=>some (.val (Gz vs) {fi with w:=ay OZ.n fi.w++OZ.w})
   |none=>none
 |_,_=>none
def nC(C:Cx)(k:Kf):Option Rs->Option Rs
 |some r=>tc C k r
 |none=>none
def jt(C:Cx):List Kf->Option Rs->Option Rs
 |[],r=>r
 |k::K,r=>jt C K (nC C k r)
def Zzt{C:Cx}:∀K,jt C K none=none
 |[]=>rfl
 |_::K=>Zzt K
structure bE (C:Cx) (K:List Kf) (r:Option Rs) (Q:Rs->Prop):Prop where
 ex:∃s,jt C K r=some s/\Q s
def jM{C:Cx}{K K':List Kf}{r r':Option Rs}{Q:Rs->Prop}(h:jt C K r=jt C K' r'):bE C K r Q↔bE C K' r' Q:=
 ⟨fun ⟨s,e,q⟩=>⟨s,h▸e,q⟩,fun ⟨s,e,q⟩=>⟨s,h.symm▸e,q⟩⟩
def Mn{C:Cx}{K:List Kf}{Q:Rs->Prop}:bE C K none Q↔False:=
 ⟨fun ⟨_,h,_⟩=>(by rw[Zzt]at h;cases h),fun h=>h.elim⟩
def Yr6{C:Cx}{s:Rs}{Q:Rs->Prop}:bE C [] (some s) Q↔Q s:=
 ⟨fun ⟨_,h,q⟩=>by simp only[jt,au]at h;exact h▸q,fun q=>⟨s,rfl,q⟩⟩
structure Call (C:Cx) (g:V) (args:List V) (st:St) (P:V->St->Prop):Prop where
 ex:∃v aB,C.call g args st=some (v,aB)/\P v aB
structure Code (C:Cx) (ro:Option Nat) (c:cF) (fr:Fr) (st:St) (P:Ex->Fr->St->Prop):Prop where
 ex:∃e bJ aB,C.code ro c fr st=some (e,bJ,aB)/\P e bJ aB
def EU(P:V->St->Prop):Rs->Prop
 |.val v st=>P v st
 |_=>False
def exQ(P:Ex->Fr->St->Prop):Rs->Prop
 |.ex e fr st=>P e fr st
 |_=>False
def Ykz{P:V->St->Prop}{v st}:EU P (.val v st)↔P v st:=Iff.rfl
def Yyb{P:Ex->Fr->St->Prop}{e fr st}:exQ P (.ex e fr st)↔P e fr st:=Iff.rfl
def aQ{C:Cx}{g args st P}:Call C g args st P↔bE C [] (uR (C.call g args st)) (EU P):=by
 constructor
 ·rintro⟨v,aB,h,p⟩;exact⟨.val v aB,by rw[h];rfl,p⟩
 rintro⟨s,h,q⟩;cases hc:C.call g args st with
 |none=>rw[hc]at h;cases h
 |some r=> rw[hc]at h;simp only[jt,uR,au]at h;subst h;exact⟨_,_,hc,q⟩
def bu{C:Cx}{ro c fr st P}:Code C ro c fr st P↔bE C [] (fl (C.code ro c fr st)) (exQ P):=by
 constructor
 ·rintro⟨e,bJ,aB,h,p⟩;exact⟨.ex e bJ aB,by rw[h];rfl,p⟩
 rintro⟨s,h,q⟩;cases hc:C.code ro c fr st with
 |none=>rw[hc]at h;cases h
 |some r=> rw[hc]at h;simp only[jt,fl,au]at h;subst h;exact⟨_,_,_,hc,q⟩
def BL{C:Cx}{g args st P K Q}(h:Call C g args st P)(k:∀v aB,P v aB->bE C K (some (.val v aB)) Q):bE C K (uR (C.call g args st)) Q:=by obtain⟨v,aB,e,p⟩:=h.ex;rw[e];exact k v aB p
def mO{C:Cx}{ro c fr st P K Q}(h:Code C ro c fr st P)(k:∀e bJ aB,P e bJ aB->bE C K (some (.ex e bJ aB)) Q):bE C K (fl (C.code ro c fr st)) Q:=by obtain⟨e,bJ,aB,h,p⟩:=h.ex;rw[h];exact k e bJ aB p
def Call.mono{C:Cx}{g args st}{P Q:V->St->Prop}(h:Call C g args st P)(k:∀v aB,P v aB->Q v aB):Call C g args st Q:=by obtain⟨v,aB,e,p⟩:=h.ex;exact⟨v,aB,e,k v aB p⟩
def Yxo(I:Nat->Fr->St->Prop)(k:Nat)(P:Ex->Fr->St->Prop):Ex->Fr->St->Prop
 |.normal,fr,st=>∃k',k'<k/\I k' fr st
 |e,fr,st=>P e fr st
def Code.loop{C:Cx}{ro c}{P:Ex->Fr->St->Prop}{I:Nat->Fr->St->Prop}(h:∀k fr st,I k fr st->Code C ro c fr st (Yxo I k P)):∀(k:Nat) (fr:Fr) (st:St),I k fr st->Code C ro (.loop c) fr st P:=by
 intro k;induction k using Nat.strongRecOn with
 |_ k ih=>
  intro fr st hi;obtain⟨e,bJ,aB,h1,p⟩:=(h k fr st hi).ex;have e1:C.code ro (.loop c) fr st=Dx c C.call C.code ro fr st:=Cx.dB ro (.loop c) fr st;unfold Dx at e1;rw[h1]at e1;cases e with
  |normal=> obtain⟨k',hk,kf⟩:=p;obtain⟨e2,A9,fi,h2,p2⟩:=(ih k' hk bJ aB kf).ex;exact⟨e2,A9,fi,e1.trans h2,p2⟩
  |exit id=>exact⟨_,_,_,e1,p⟩
  |ret=>exact⟨_,_,_,e1,p⟩
def Ylr{C:Cx}{ro c}{K:List Kf}{Q:Rs->Prop}{fr:Fr}{st:St}(P:Ex->Fr->St->Prop)(I:Nat->Fr->St->Prop)(k:Nat)(hi:I k fr st)(h:∀k fr st,I k fr st->Code C ro c fr st (Yxo I k P))(q:∀e bJ aB,P e bJ aB->bE C K (some (.ex e bJ aB)) Q):bE C K (fl (C.code ro (.loop c) fr st)) Q:=
 mO (Code.loop h k fr st hi) q
section
variable {C:Cx} {K:List Kf} {Q:Rs->Prop} {ro:Option Nat} {a b c:cF} {fr:Fr} {st:St}
def Ylo:bE C K (fl (C.code ro .skip fr st)) Q↔bE C K (some (.ex .normal fr st)) Q:=jM (by rw[Cx.dB];rfl)
def Yr5{ops}:bE C K (fl (C.code ro (.gw ops) fr st)) Q↔bE C (.gw::K) (DE (dX C.call ops fr st)) Q:=jM (by
 rw[Cx.dB]
 show jt C K (fl (BH ops C.call C.code ro fr st))=jt C K (nC C .gw (DE (dX C.call ops fr st)))
 unfold BH
 rcases dX C.call ops fr st with _|⟨_,_⟩<;>rfl)
def Ylq{ops ms}:bE C K (fl (C.code ro (.gK ops ms) fr st)) Q↔bE C (.gK ms::K) (BZ (bP C.call ops fr st)) Q:=jM (by
 rw[Cx.dB]
 show jt C K (fl (BI ops ms C.call C.code ro fr st))=jt C K (nC C (.gK ms) (BZ (bP C.call ops fr st)))
 unfold BI
 rcases bP C.call ops fr st with _|⟨iR,_,_⟩
 ·rfl
 ·simp only[BZ,nC,tc]
  cases lG iR ms<;>rfl)
def Yr3:bE C K (fl (C.code ro (.seq a b) fr st)) Q↔bE C (.seq ro b::K) (fl (C.code ro a fr st)) Q:=jM (by
 rw[Cx.dB]
 show jt C K (fl (Du a b C.call C.code ro fr st))=jt C K (nC C (.seq ro b) (fl (C.code ro a fr st)))
 unfold Du
 rcases C.code ro a fr st with _|⟨e,_,_⟩
 ·rfl
 ·cases e<;>rfl)
def Ul(C:Cx)(ro:Option Nat)(a b:cF)(fr:Fr)(st:St):Option V->Option Rs
 |some (.bool true)=>fl (C.code ro a fr st)
 |some (.bool false)=>fl (C.code ro b fr st)
 |_=>none
def Ylu{x}:bE C K (fl (C.code ro (.cond x a b) fr st)) Q↔bE C K (Ul C ro a b fr st (x.ev fr.r)) Q:=jM (by
 rw[Cx.dB]
 show jt C K (fl (Ad x a b C.call C.code ro fr st))=_
 unfold Ad Ul
 rcases x.ev fr.r with _|v
 ·rfl
 ·cases v<;>try rfl
  rename_i b'
  cases b'<;>rfl)
def Yei:Ul C ro a b fr st (some (.bool true))=fl (C.code ro a fr st):=rfl
def Zy8:Ul C ro a b fr st (some (.bool false))=fl (C.code ro b fr st):=rfl
def Yf6{id}:bE C K (fl (C.code ro (.block id a) fr st)) Q↔bE C (.block id::K) (fl (C.code ro a fr st)) Q:=jM (by
 rw[Cx.dB]
 show jt C K (fl (Dv id a C.call C.code ro fr st))=jt C K (nC C (.block id) (fl (C.code ro a fr st)))
 unfold Dv
 rcases C.code ro a fr st with _|⟨e,_,_⟩
 ·rfl
 ·cases e with
  |exit Dw=>simp only[fl,nC,tc];cases Nat.beq Dw id<;>rfl
  |_=>rfl)
def Ylt{id}:bE C K (fl (C.code ro (.exit id) fr st)) Q↔bE C K (some (.ex (.exit id) fr st)) Q:=jM (by rw[Cx.dB];rfl)
def Yf5:bE C K (fl (C.code ro (.scope a) fr st)) Q↔bE C K (fl (C.code ro a fr st)) Q:=jM (by rw[Cx.dB];rfl)
def Yr4:bE C K (fl (C.code ro .ret fr st)) Q↔bE C K (some (.ex .ret fr st)) Q:=jM (by rw[Cx.dB];rfl)
def Zvv:bE C (.seq ro b::K) (some (.ex .normal fr st)) Q↔bE C K (fl (C.code ro b fr st)) Q:=jM rfl
def Ydo{i}:bE C (.seq ro b::K) (some (.ex (.exit i) fr st)) Q↔bE C K (some (.ex (.exit i) fr st)) Q:=jM rfl
def Yie:bE C (.seq ro b::K) (some (.ex .ret fr st)) Q↔bE C K (some (.ex .ret fr st)) Q:=jM rfl
def Zrc{i}:bE C (.block i::K) (some (.ex .normal fr st)) Q↔bE C K (some (.ex .normal fr st)) Q:=jM rfl
def Zyq{i}:bE C (.block i::K) (some (.ex .ret fr st)) Q↔bE C K (some (.ex .ret fr st)) Q:=jM rfl
def Zvw{i}:bE C (.block i::K) (some (.ex (.exit i) fr st)) Q↔bE C K (some (.ex .normal fr st)) Q:=jM (by simp[jt,nC,tc,Nat.beq_refl])
def Ztq{i j}(h:Nat.beq j i=false):bE C (.block i::K) (some (.ex (.exit j) fr st)) Q↔bE C K (some (.ex (.exit j) fr st)) Q:=jM (by simp[jt,nC,tc,h])
def Xam:bE C (.gw::K) (some (.ops fr st)) Q↔bE C K (some (.ex .normal fr st)) Q:=jM rfl
def Ysu:DE (dX C.call [] fr st)=some (.ops fr st):=rfl
def opR(C:Cx)(K:List Kf)(Q:Rs->Prop)(d:Option Nat)(op:iz)(ops:List dP)(fr:Fr)(st:St):Option Bool->Prop
 |some true=>bE C (.put d ops fr::K) (uR (cH op C.call fr.r st)) Q
 |some false=>bE C (.put d ops fr::K) (some (.val (.aX []) st)) Q
 |none=>False
def Ymb{d op g ops}:bE C K (DE (dX C.call (⟨d,op,g⟩::ops) fr st)) Q↔opR C K Q d op ops fr st (bZ fr.r g):=by
 have e:dX C.call (⟨d,op,g⟩::ops) fr st=Dq C.call ⟨d,op,g⟩ (dX C.call ops) fr st:=rfl;rw[e];unfold Dq;simp only[];rcases bZ fr.r g with _|b
 ·exact Mn
 cases b
 ·show _↔bE C (.put d ops fr::K) (some (.val (.aX []) st)) Q;refine jM ?_;show _=jt C K (tc C (.put d ops fr) (.val (.aX []) st));simp only[tc];rcases fr.put d (.aX [])with _|_<;>rfl
 show _↔bE C (.put d ops fr::K) (uR (cH op C.call fr.r st)) Q;refine jM ?_;show _=jt C K (nC C (.put d ops fr) (uR (cH op C.call fr.r st)));rcases cH op C.call fr.r st with _|⟨v,aB⟩
 ·rfl
 simp only[uR,nC,tc];rcases fr.put d v with _|_<;>rfl
def Ymg{d op ops}:opR C K Q d op ops fr st (some true)↔bE C (.put d ops fr::K) (uR (cH op C.call fr.r st)) Q:=Iff.rfl
def Yg3{d op ops}:opR C K Q d op ops fr st (some false)↔bE C (.put d ops fr::K) (some (.val (.aX []) st)) Q:=Iff.rfl
def Ye7{v:V}:uR (some (v,st))=some (.val v st):=rfl
def Xan{d n m r ops v}(h:d<n):bE C (.put (some d) ops ⟨r,n,m⟩::K) (some (.val v st)) Q↔bE C K (DE (dX C.call ops ⟨r.set d v,n,m⟩ st)) Q:=jM (by simp[jt,nC,tc,Fr.put,h])
def Ydp{ops v}:bE C (.put none ops fr::K) (some (.val v st)) Q↔bE C K (DE (dX C.call ops fr st)) Q:=jM rfl
def Ymc:BZ (bP C.call [] fr st)=some (.tI [] fr st):=rfl
def O0(C:Cx)(K:List Kf)(Q:Rs->Prop)(d:Option Nat)(op:iz)(ops:List dP)(fr:Fr)(h:T O)(n:Nat)(w:List Nat):Option Bool->Prop
 |some true=>bE C (.xR op d ops fr n w::K) (uR (cH op C.call fr.r ⟨h,n,[]⟩)) Q
 |some false=>bE C (.cons ⟨some [],[],n,n⟩::K) (match fr.put d (.aX [])with|some bJ=>BZ (bP C.call ops bJ ⟨h,n,w⟩)|none=>none) Q
 |none=>False
def Yg1{d op g ops h n w}:bE C K (BZ (bP C.call (⟨d,op,g⟩::ops) fr ⟨h,n,w⟩)) Q↔O0 C K Q d op ops fr h n w (bZ fr.r g):=by
 have e:bP C.call (⟨d,op,g⟩::ops) fr ⟨h,n,w⟩=Dr C.call ⟨d,op,g⟩ (bP C.call ops) fr ⟨h,n,w⟩:=rfl;rw[e];unfold Dr;simp only[];rcases bZ fr.r g with _|b
 ·exact Mn
 cases b
 ·show _↔bE C (.cons ⟨some [],[],n,n⟩::K) (match fr.put d (.aX [])with|some bJ=>BZ (bP C.call ops bJ ⟨h,n,w⟩)|none=>none) Q;refine jM ?_;show _=jt C K (nC C (.cons ⟨some [],[],n,n⟩) _);rcases fr.put d (.aX [])with _|bJ
  ·rfl
  simp only[];rcases bP C.call ops bJ ⟨h,n,w⟩with _|⟨_,_,_⟩<;>rfl
 show _↔bE C (.xR op d ops fr n w::K) (uR (cH op C.call fr.r ⟨h,n,[]⟩)) Q;refine jM ?_;show _=jt C K (nC C (.xR op d ops fr n w) (uR (cH op C.call fr.r ⟨h,n,[]⟩)));rcases cH op C.call fr.r ⟨h,n,[]⟩with _|⟨v,aB⟩
 ·rfl
 simp only[uR,nC,tc];rcases fr.put d v with _|bJ
 ·rfl
 simp only[];rcases bP C.call ops bJ {aB with w:=ay n aB.w++w} with _|⟨_,_,_⟩<;>rfl
def Yg4{d op ops h n w}:O0 C K Q d op ops fr h n w (some true)↔bE C (.xR op d ops fr n w::K) (uR (cH op C.call fr.r ⟨h,n,[]⟩)) Q:=Iff.rfl
def Ycv{d n m r ops op h N w}(hd:d<n):O0 C K Q (some d) op ops ⟨r,n,m⟩ h N w (some false)↔bE C (.cons ⟨some [],[],N,N⟩::K) (BZ (bP C.call ops ⟨r.set d (.aX []),n,m⟩ ⟨h,N,w⟩)) Q:=by simp[O0,Fr.put,hd]
def Zx2{ops op h N w}:O0 C K Q none op ops fr h N w (some false)↔bE C (.cons ⟨some [],[],N,N⟩::K) (BZ (bP C.call ops fr ⟨h,N,w⟩)) Q:=Iff.rfl
def Yxu{op d n m r ops v N w h' n' w'}(h:d<n):bE C (.xR op (some d) ops ⟨r,n,m⟩ N w::K) (some (.val v ⟨h',n',w'⟩)) Q↔bE C (.cons (q8 r op (ay N w') N n')::K) (BZ (bP C.call ops ⟨r.set d v,n,m⟩ ⟨h',n',ay N w'++w⟩)) Q:=jM (by
 simp only[jt,nC,tc,Fr.put,h,if_true]
 rcases bP C.call ops _ _ with _|⟨_,_,_⟩<;>rfl)
def Zyp{op ops v N w h' n' w'}:bE C (.xR op none ops fr N w::K) (some (.val v ⟨h',n',w'⟩)) Q↔bE C (.cons (q8 fr.r op (ay N w') N n')::K) (BZ (bP C.call ops fr ⟨h',n',ay N w'++w⟩)) Q:=jM (by
 simp only[jt,nC,tc,Fr.put]
 rcases bP C.call ops _ _ with _|⟨_,_,_⟩<;>rfl)
def Yxv{fp iR}:bE C (.cons fp::K) (some (.tI iR fr st)) Q↔bE C K (some (.tI (fp::iR) fr st)) Q:=jM rfl
def wD{ms iR}(h:lG iR ms=true):bE C (.gK ms::K) (some (.tI iR fr st)) Q↔bE C K (some (.ex .normal fr st)) Q:=jM (by simp only[jt,nC,tc,h])
def Yls{g first iA args mf}(hx:C.x (.func g first iA) args st=none)(h:C.ec g=some mf)(hl:(first++args++iA).length<=mf.ntmps):bE C K (uR (C.call (.func g first iA) args st)) Q↔bE C (.fin mf.results st::K) (fl (C.code none mf.body ⟨AN .nil 0 (first++args++iA),mf.ntmps,[]⟩ ⟨st.h,st.n,[]⟩)) Q:=jM (by
 rw[Cx.od]
 unfold uK
 rw[hx]
 simp only[zV,h,Ep,wz.2 hl,if_false]
 show _=jt C K (nC C (.fin mf.results st) _)
 unfold Zyu
 rcases C.code none mf.body _ _ with _|⟨e,eK,b9⟩
 ·rfl
 ·cases e with
  |exit=>rfl
  |normal=>
   simp only[fl,nC,tc]
   rcases shut b9 eK.marks with _|fi
   ·rfl
   ·simp only[]
    rcases gb eK.r fi mf.results with _|_<;>rfl
  |ret=>
   simp only[fl,nC,tc]
   rcases shut b9 eK.marks with _|fi
   ·rfl
   ·simp only[]
    rcases gb eK.r fi mf.results with _|_<;>rfl)
def S6(h:T O)(n:Nat)(w:List Nat):Option (List V)->Option Rs
 |some vs=>some (.val (Gz vs) ⟨h,n,w⟩)
 |none=>none
def Yiz{h n w vs}:S6 h n w (some vs)=some (.val (Gz vs) ⟨h,n,w⟩):=rfl
def Yif{rs r n h1 n1 w1}:bE C (.fin rs st::K) (some (.ex .ret ⟨r,n,[]⟩ ⟨h1,n1,w1⟩)) Q↔bE C K (S6 h1 n1 (ay st.n w1++st.w) (gb r ⟨h1,n1,w1⟩ rs)) Q:=jM (by
 simp only[jt,nC,tc,shut]
 rcases gb r ⟨h1,n1,w1⟩ rs with _|_<;>rfl)
def Yig{rs r n h1 n1 w1}:bE C (.fin rs st::K) (some (.ex .normal ⟨r,n,[]⟩ ⟨h1,n1,w1⟩)) Q↔bE C K (S6 h1 n1 (ay st.n w1++st.w) (gb r ⟨h1,n1,w1⟩ rs)) Q:=jM (by
 simp only[jt,nC,tc,shut]
 rcases gb r ⟨h1,n1,w1⟩ rs with _|_<;>rfl)
end
def Zyg(a):cH (.tC a)=LR a:=rfl
def Zvj(a b):cH (.lf a b)=Gs a b:=rfl
def Zvo(a):cH (.pV a)=Jg a:=rfl
def Zyd(a b):cH (.je a b)=LS a b:=rfl
def Yhh:cH .yV=LU:=rfl
def Yc3(a b):cH (.xE a b)=Gt a b:=rfl
def Zyc(a b c d e f):cH (.lh a b c d e f)=EE a b c d e f:=rfl
def Zvk(a b c):cH (.cG a b c)=AK a b c:=rfl
def Zya(a b c d e):cH (.oH a b c d e)=rQ a b c d e:=rfl
def Zvl(a b c d e f):cH (.lA a b c d e f)=BG a b c d e f:=rfl
def Yc8(a b c d e):cH (.xF a b c d e)=LV a b c d e:=rfl
def Yc7(a b):cH (.bN a b)=Gw a b:=rfl
def Yc5(a b c d e):cH (.lookup a b c d e)=Jk a b c d e:=rfl
def Yc4(a b c d):cH (.xA a b c d)=Gx a b c d:=rfl
def Zvm(a):cH (.lE a)=Jl a:=rfl
def Zyb(a):cH (.tn a)=Jm a:=rfl
def Yc6(a):cH (.xG a)=Oz a:=rfl
def Yte(a):cH (.cap a)=LW a:=rfl
def Yxm(a):cH (.mn a)=AL a:=rfl
def Yxl(a):cH (.mx a)=tE a:=rfl
def Yda(a b c d e f):cH (.append a b c d e f)=EG a b c d e f:=rfl
def Yms(a b c):cH (.copy a b c)=Dp a b c:=rfl
def Yhl(a b c):cH (.clear a b c)=LX a b c:=rfl
def Yta(a b):cH (.LF a b)=Gy a b:=rfl
def Yhf(a):cH (.Bv a)=LY a:=rfl
def Ymp(a b c):cH (.IQ a b c)=LZ a b c:=rfl
def Ytd(a b):cH (.ext a b)=Jo a b:=rfl
def Yuq{ng k x y}:y8 ng (.fF k) x y=bA ng k x y:=by cases x<;>cases y<;>rfl
attribute [simp] Yr6 Ykz Yyb Ylo Yr5 Ylq Yr3 Ylu Yei Zy8 Yf6 Ylt Yf5 Yr4 Zvv Ydo Yie Zrc Zyq Zvw Xam Ysu Ymb Ymg Yg3 Ye7 Xan Ydp
 Ymc Yg1 Yg4 Ycv Zx2 Yxu Zyp Yxv wD Yiz Yif Yig
 Zyg Zvj Zvo Zyd Yhh Yc3 Zyc Zvk Zya Zvl Yc8 Yc7 Yc5 Yc4 Zvm Zyb Yc6 Yte Yxm Yxl Yda Yms Yhl Yta Yhf Ymp Ytd Yuq
structure ab (h:T O) (n:Nat) (h':T O) (n':Nat):Prop where
 le:n<=n'
 get:∀i,i<n->h'.get i=h.get i
def ab.refl{h:T O}{n:Nat}:ab h n h n:=⟨aM _,fun _ _=>rfl⟩
def ab.trans{h h1 h2:T O}{n n1 n2:Nat}(a:ab h n h1 n1)(b:ab h1 n1 h2 n2):ab h n h2 n2:=
 ⟨iZ a.le b.le,fun i hi=>(b.get i (fg hi a.le)).trans (a.get i hi)⟩
def ab.set{h h1:T O}{n n1:Nat}{i:Nat}{o:O}(hi:n<=i)(a:ab h n h1 n1):ab h n (h1.set i o) n1:=
 ⟨a.le,fun j hj=>by rw[T.ag,ak (by omega)];exact a.get j hj⟩
def ab.up{h h1:T O}{n n1 n2:Nat}(a:ab h n h1 n1)(hn:n1<=n2):ab h n h1 n2:=⟨iZ a.le hn,a.get⟩
def az(P:V->T O->Nat->Prop)(h:T O)(n:Nat)(w:List Nat)(v:V)(st:St):Prop:=st.w=w/\ab h n st.h st.n/\P v st.h st.n
abbrev Fn(C:Cx)(f:Nat)(args:List V)(h:T O)(n:Nat)(P:V->T O->Nat->Prop):Prop:=∀w,Call C (.func f [] []) args ⟨h,n,w⟩ (az P h n w)
def ar{C:Cx}{f args h n w P K Q}(hf:Fn C f args h n P)(k:∀v h' n',ab h n h' n'->P v h' n'->bE C K (some (.val v ⟨h',n',w⟩)) Q):bE C K (uR (C.call (.func f [] []) args ⟨h,n,w⟩)) Q:=
 BL (hf w) fun v aB=>by
  obtain⟨h',n',w'⟩:=aB
  rintro⟨rfl,hk,hp⟩
  exact k v h' n' hk hp
def Zr1{N:Nat}:∀{w:List Nat},(∀i∈w,N<=i)->ay N w=[]
 |[],_=>rfl
 |i::w,h=>by
  have:=h i rI
  simp only[ay,wz.2 this,if_false]
  exact Zr1 fun j hj=>h j (ri _ hj)
end
end Go.Mx
