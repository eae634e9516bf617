/-Runs without a count of steps-/
import Derived.Test.YtfeehbdhikiikaaGreatDoorMxTab
set_option linter.all false
namespace Go.Mx
variable{args:List V}{M N l n:Nat}{h h1:T O}{P:V->St->Prop}{o:V×St}
noncomputable section
open Go
def Le(a b:cQ):Prop:=∀g args st r,a g args st=some r->b g args st=some r
def Us{a b:cQ}(h:Le a b)(op:iH)(r:T V)(st:St)(e:cH op a r st=some o):cH op b r st=some o:=by
 cases op<;>try exact e
 rename_i f args;show AQ f args b r st=some o;have e:AQ f args a r st=some o:=e;unfold AQ at e ⊢;split at e
 ·exact h _ _ _ _ e
 cases e
def PJ{a b:cQ}(h:Le a b):∀(ops:List dS) (fr:Fr) (st:St) {o:Fr×St},dZ a ops fr st=some o->dZ b ops fr st=some o
 |[],_,_,_,e=>e
 |q::ops,fr,st,o,e=>by
  have e:Dm a q (dZ a ops) fr st=some o:=e
  show Dm b q (dZ b ops) fr st=some o
  unfold Dm at e ⊢
  split at e
  ·split at e
   ·rename_i v aB h1
    rw[Us h _ _ _ h1]
    simp only[]
    split at e
    ·exact PJ h ops _ _ e
    ·cases e
   ·cases e
  ·split at e
   ·exact PJ h ops _ _ e
   ·cases e
  ·cases e
def Ut{a b:cQ}(h:Le a b):∀(ops:List dS) (fr:Fr) (st:St) {o:List FP×Fr×St},bS a ops fr st=some o->bS b ops fr st=some o
 |[],_,_,_,e=>e
 |q::ops,fr,st,o,e=>by
  have e:Dp a q (bS a ops) fr st=some o:=e
  show Dp b q (bS b ops) fr st=some o
  unfold Dp at e ⊢
  split at e
  ·split at e
   ·rename_i v aB h1
    rw[Us h _ _ _ h1]
    simp only[]
    split at e
    ·split at e
     ·rename_i h2
      rw[Ut h ops _ _ h2]
      exact e
     ·cases e
    ·cases e
   ·cases e
  ·split at e
   ·split at e
    ·rename_i h2
     rw[Ut h ops _ _ h2]
     exact e
    ·cases e
   ·cases e
  ·cases e
def Hn(a b:rY):Prop:=∀ro c fr st r,a ro c fr st=some r->b ro c fr st=some r
def Zl8{a b:cQ}{p q:rY}(h:Le a b)(hc:Hn p q)(ro:Option Nat)(c:ct)(fr:Fr)(st:St){o:Ex×Fr×St}(e:oE c a p ro fr st=some o):oE c b q ro fr st=some o:=by
 cases c with
 |skip=>exact e
 |fV ops=>
  have e:BR ops a p ro fr st=some o:=e;show BR ops b q ro fr st=some o;unfold BR at e ⊢;split at e
  ·rename_i h1;rw[PJ h _ _ _ h1];exact e
  cases e
 |f_ ops ms=>
  have e:BS ops ms a p ro fr st=some o:=e;show BS ops ms b q ro fr st=some o;unfold BS at e ⊢;split at e
  ·rename_i h1;rw[Ut h _ _ _ h1];exact e
  cases e
 |Aa dst ch send zero ops=>
  have e:Dr dst ch send zero ops a p ro fr st=some o:=e;show Dr dst ch send zero ops b q ro fr st=some o;unfold Dr at e ⊢;split at e
  ·split at e
   ·split at e
    ·split at e
     ·rename_i h1;rw[PJ h _ _ _ h1];exact e
     cases e
    cases e
   cases e
  cases e
 |seq x y=>
  have e:Ds x y a p ro fr st=some o:=e;show Ds x y b q ro fr st=some o;unfold Ds at e ⊢;split at e
  ·rename_i h1;rw[hc _ _ _ _ _ h1];exact hc _ _ _ _ _ e
  rename_i h1;have:=hc _ _ _ _ _ e;rw[this];rcases o with⟨_|_|_,_,_⟩
  ·exact absurd e (h1 _ _)
  ·rfl
  rfl
 |cond x y z=>
  have e:Ah x y z a p ro fr st=some o:=e;show Ah x y z b q ro fr st=some o;unfold Ah at e ⊢;split at e
  ·exact hc _ _ _ _ _ e
  ·exact hc _ _ _ _ _ e
  cases e
 |block id x=>
  have e:Dt id x a p ro fr st=some o:=e;show Dt id x b q ro fr st=some o;unfold Dt at e ⊢;split at e
  ·rename_i h1;rw[hc _ _ _ _ _ h1];exact e
  rename_i h1;have:=hc _ _ _ _ _ e;rw[this];rcases o with⟨_|_|_,_,_⟩
  ·rfl
  ·exact absurd e (h1 _ _ _)
  rfl
 |loop x=>
  have e:Dv x a p ro fr st=some o:=e;show Dv x b q ro fr st=some o;unfold Dv at e ⊢;split at e
  ·rename_i h1;rw[hc _ _ _ _ _ h1];exact hc _ _ _ _ _ e
  rename_i h1;have:=hc _ _ _ _ _ e;rw[this];rcases o with⟨_|_|_,_,_⟩
  ·exact absurd e (h1 _ _)
  ·rfl
  rfl
 |jY g ps x y=>
  have e:Bb g ps x y a p ro fr st=some o:=e;show Bb g ps x y b q ro fr st=some o;unfold Bb at e ⊢;split at e
  ·cases e
  split at e
  ·cases e
  rename_i hy;simp only[hy];split at e
  ·cases e
  split at e
  ·cases e
  rename_i h1;rw[h _ _ _ _ h1];exact e
 |exit id=>exact e
 |scope x=>exact hc _ _ _ _ _ e
 |ret=>exact e
 |stop=>exact e
def Ca{a b:cQ}(h:Le a b):∀(F F':Nat),F<=F'->Hn (eJ a F) (eJ b F')
 |0,_,_=>fun _ _ _ _ _ e=>by cases e
 |F+1,0,hF=>by omega
 |F+1,F'+1,hF=>fun ro c fr st _ e=>Zl8 h (Ca h F F' (by omega)) ro c fr st e
def Zvg{p q:rY}(h:Hn p q){mf:nD}{st:St}(e:EJ mf p args st=some o):EJ mf q args st=some o:=by
 unfold EJ at e ⊢;split at e
 ·cases e
 rename_i h0;rw[ak h0];cases h1:p none mf.body {r:=AR .nil 0 args,n:=mf.ntmps,marks:=[]} {st with w:=[]} with
 |none=>rw[h1]at e;cases e
 |some r=>rw[h1]at e;rw[h _ _ _ _ _ h1];exact e
def Zsr{p q:rY}(h:Hn p q){st:St}(e:DY p l args st=some o):DY q l args st=some o:=by
 unfold DY at e ⊢;split at e
 ·split at e
  ·cases e
  split at e
  ·rename_i h1;rw[h _ _ _ _ _ h1];simp only[];split at e
   ·split at e
    ·rename_i hr;rw[av hr];split at e
     ·rename_i h2;rw[h _ _ _ _ _ h2];exact e
     cases e
    cases e
   cases e
  cases e
 cases e
def Zh4{eg:Nat->Option nD}{p q:rY}(h:Hn p q):Le (Ai eg p) (Ai eg q):=by
 intro g args st o e;unfold Ai at e ⊢;split at e
 ·split at e
  ·exact Zvg h e
  cases e
 ·exact Zsr h e
 cases e
def Zo8{x a b:cQ}(h:Le a b):Le (uD x a) (uD x b):=by
 intro g args st o e;unfold uD at e ⊢;split at e
 ·exact e
 exact h _ _ _ _ e
def Uu{x:cQ}{eg:Nat->Option nD}{F F':Nat}(hF:F<=F'):∀(d d':Nat),d<=d'->Le (AV x eg F d) (AV x eg F' d')
 |0,0,_=>fun _ _ _ _ e=>e
 |0,d'+1,_=>fun g args st o e=>by
  have e:x g args st=some o:=e
  show uD x _ g args st=some o
  unfold uD;rw[e]
 |d+1,0,h=>by omega
 |d+1,d'+1,h=>Zo8 (Zh4 (Ca (Uu hF d d' (by omega)) F F' hF))
structure Cx where
 x:cQ
 eg:Nat->Option nD
def Cx.at(C:Cx)(N:Nat):cQ:=AV C.x C.eg N N
def Cx.eR{C:Cx}(h:N<=M):Le (C.at N) (C.at M):=Uu h N M h
open Classical in
def Cx.call(C:Cx):cQ:=fun g args st=>if h:∃r N,C.at N g args st=some r then some h.choose else none
def Cx.gO{C:Cx}{g args st r}:C.call g args st=some r↔∃N,C.at N g args st=some r:=by
 unfold Cx.call;constructor
 ·intro h;split at h
  ·rename_i hc;simp only[ar]at h;exact h▸hc.choose_spec
  cases h
 rintro⟨N,h⟩;have hc:∃r N,C.at N g args st=some r:=⟨r,N,h⟩;rw[dif_pos hc];obtain⟨M,hM⟩:=hc.choose_spec;have h1:=Cx.eR (Ey N M) _ _ _ _ h;have h2:=Cx.eR (Ev N M) _ _ _ _ hM;rw[h1]at h2;exact congrArg some (px h2).symm
open Classical in
def Cx.code(C:Cx):rY:=fun ro c fr st=>if h:∃r F,eJ C.call F ro c fr st=some r then some h.choose else none
def Cx.gS{C:Cx}{ro c fr st r}:C.code ro c fr st=some r↔∃F,eJ C.call F ro c fr st=some r:=by
 unfold Cx.code;constructor
 ·intro h;split at h
  ·rename_i hc;simp only[ar]at h;exact h▸hc.choose_spec
  cases h
 rintro⟨N,h⟩;have hc:∃r F,eJ C.call F ro c fr st=some r:=⟨r,N,h⟩;rw[dif_pos hc];obtain⟨M,hM⟩:=hc.choose_spec;have h1:=Ca (fun _ _ _ _ e=>e) N (max N M) (Ey N M) _ _ _ _ _ h;have h2:=Ca (fun _ _ _ _ e=>e) M (max N M) (Ev N M) _ _ _ _ _ hM;rw[h1]at h2;exact congrArg some (px h2).symm
def Ygb{α:Type}{a b:Option α}(h:∀r,a=some r↔b=some r):a=b:=by
 cases a with
 |none=>cases b with
  |none=>rfl
  |some r=>exact absurd ((h r).2 rfl) (by simp)
 |some r=>exact((h r).1 rfl).symm
def Uv{a:cQ}{p:rY}{q:Nat->rY}(hq:∀n m,n<=m->Hn (q n) (q m))(hp:∀ro c fr st r,p ro c fr st=some r->∃n,q n ro c fr st=some r)(ro:Option Nat)(c:ct)(fr:Fr)(st:St){o:Ex×Fr×St}(e:oE c a p ro fr st=some o):∃n,oE c a (q n) ro fr st=some o:=by
 cases c with
 |skip=>exact⟨0,e⟩
 |fV ops=>exact⟨0,e⟩
 |f_ ops ms=>exact⟨0,e⟩
 |Aa dst ch send zero ops=>exact⟨0,e⟩
 |seq x y=>
  have e:Ds x y a p ro fr st=some o:=e;show ∃n,Ds x y a (q n) ro fr st=some o;unfold Ds at e ⊢;split at e
  ·rename_i h1;obtain⟨n,hn⟩:=hp _ _ _ _ _ h1;obtain⟨m,hm⟩:=hp _ _ _ _ _ e;refine⟨max n m,?_⟩;rw[hq n _ (Ey n m) _ _ _ _ _ hn];exact hq m _ (Ev n m) _ _ _ _ _ hm
  rename_i h1;obtain⟨n,hn⟩:=hp _ _ _ _ _ e;refine⟨n,?_⟩;rw[hn];rcases o with⟨_|_|_,_,_⟩
  ·exact absurd e (h1 _ _)
  ·rfl
  rfl
 |cond x y z=>
  have e:Ah x y z a p ro fr st=some o:=e;show ∃n,Ah x y z a (q n) ro fr st=some o;unfold Ah at e ⊢;split at e
  ·exact hp _ _ _ _ _ e
  ·exact hp _ _ _ _ _ e
  cases e
 |block id x=>
  have e:Dt id x a p ro fr st=some o:=e;show ∃n,Dt id x a (q n) ro fr st=some o;unfold Dt at e ⊢;split at e
  ·rename_i h1;obtain⟨n,hn⟩:=hp _ _ _ _ _ h1;exact⟨n,by rw[hn];exact e⟩
  rename_i h1;obtain⟨n,hn⟩:=hp _ _ _ _ _ e;refine⟨n,?_⟩;rw[hn];rcases o with⟨_|_|_,_,_⟩
  ·rfl
  ·exact absurd e (h1 _ _ _)
  rfl
 |loop x=>
  have e:Dv x a p ro fr st=some o:=e;show ∃n,Dv x a (q n) ro fr st=some o;unfold Dv at e ⊢;split at e
  ·rename_i h1;obtain⟨n,hn⟩:=hp _ _ _ _ _ h1;obtain⟨m,hm⟩:=hp _ _ _ _ _ e;refine⟨max n m,?_⟩;rw[hq n _ (Ey n m) _ _ _ _ _ hn];exact hq m _ (Ev n m) _ _ _ _ _ hm
  rename_i h1;obtain⟨n,hn⟩:=hp _ _ _ _ _ e;refine⟨n,?_⟩;rw[hn];rcases o with⟨_|_|_,_,_⟩
  ·exact absurd e (h1 _ _)
  ·rfl
  rfl
 |jY g ps x y=>exact⟨0,e⟩
 |exit id=>exact⟨0,e⟩
 |scope x=>exact hp _ _ _ _ _ e
 |ret=>exact⟨0,e⟩
 |stop=>exact⟨0,e⟩
def Cx.dE{C:Cx}(ro:Option Nat)(c:ct)(fr:Fr)(st:St):C.code ro c fr st=oE c C.call C.code ro fr st:=by
 apply Ygb;intro r;constructor
 ·intro h;obtain⟨F,hF⟩:=Cx.gS.1 h;cases F with
  |zero=>cases hF
  |succ F=>exact Zl8 (fun _ _ _ _ e=>e) (fun ro c fr st r e=>Cx.gS.2 ⟨F,e⟩) ro c fr st hF
 intro h;obtain⟨n,hn⟩:=Uv (q:=eJ C.call) (Ca fun _ _ _ _ e=>e) (fun _ _ _ _ _ e=>Cx.gS.1 e) ro c fr st h;exact Cx.gS.2 ⟨n+1,hn⟩
def Yac{C:Cx}(op:iH)(r:T V)(st:St)(e:cH op C.call r st=some o):∃N,cH op (C.at N) r st=some o:=by
 cases op<;>try exact⟨0,e⟩
 rename_i f args;have e:AQ f args C.call r st=some o:=e;show ∃N,AQ f args (C.at N) r st=some o;unfold AQ at e ⊢;split at e
 ·exact Cx.gO.1 e
 cases e
def Uw{C:Cx}:∀(ops:List dS) (fr:Fr) (st:St) {o:Fr×St},dZ C.call ops fr st=some o->∃N,dZ (C.at N) ops fr st=some o
 |[],_,_,_,e=>⟨0,e⟩
 |q::ops,fr,st,o,e=>by
  have e:Dm C.call q (dZ C.call ops) fr st=some o:=e
  show ∃N,Dm (C.at N) q (dZ (C.at N) ops) fr st=some o
  unfold Dm at e ⊢
  split at e
  ·split at e
   ·rename_i v aB h1
    split at e
    ·obtain⟨N,hN⟩:=Yac _ _ _ h1
     obtain⟨M,hM⟩:=Uw ops _ _ e
     refine⟨max N M,?_⟩
     rw[Us (Cx.eR (Ey N M)) _ _ _ hN]
     rename_i h3
     simp only[h3]
     exact PJ (Cx.eR (Ev N M)) _ _ _ hM
    ·cases e
   ·cases e
  ·split at e
   ·exact Uw ops _ _ e
   ·cases e
  ·cases e
def Zmv{C:Cx}:∀(ops:List dS) (fr:Fr) (st:St) {o:List FP×Fr×St},bS C.call ops fr st=some o->∃N,bS (C.at N) ops fr st=some o
 |[],_,_,_,e=>⟨0,e⟩
 |q::ops,fr,st,o,e=>by
  have e:Dp C.call q (bS C.call ops) fr st=some o:=e
  show ∃N,Dp (C.at N) q (bS (C.at N) ops) fr st=some o
  unfold Dp at e ⊢
  split at e
  ·split at e
   ·rename_i v aB h1
    split at e
    ·rename_i h3
     split at e
     ·rename_i h2
      obtain⟨N,hN⟩:=Yac _ _ _ h1
      obtain⟨M,hM⟩:=Zmv ops _ _ h2
      refine⟨max N M,?_⟩
      rw[Us (Cx.eR (Ey N M)) _ _ _ hN]
      simp only[h3]
      rw[Ut (Cx.eR (Ev N M)) _ _ _ hM]
      exact e
     ·cases e
    ·cases e
   ·cases e
  ·split at e
   ·split at e
    ·rename_i h2
     obtain⟨M,hM⟩:=Zmv ops _ _ h2
     exact⟨M,by rw[hM];exact e⟩
    ·cases e
   ·cases e
  ·cases e
def Zrq{C:Cx}:∀(F:Nat) (ro:Option Nat) (c:ct) (fr:Fr) (st:St) {o:Ex×Fr×St},eJ C.call F ro c fr st=some o->∃N,eJ (C.at N) F ro c fr st=some o
 |0,_,_,_,_,_,e=>by cases e
 |F+1,ro,c,fr,st,o,e=>by
  have e:oE c C.call (eJ C.call F) ro fr st=some o:=e
  show ∃N,oE c (C.at N) (eJ (C.at N) F) ro fr st=some o
  have ih:=@Zrq C F
  have up:∀{n m:Nat},n<=m->Hn (eJ (C.at n) F) (eJ (C.at m) F):=fun h=>Ca (Cx.eR h) F F (aN _)
  cases c with
  |fV ops=>
   have e:BR ops C.call (eJ C.call F) ro fr st=some o:=e
   show ∃N,BR ops (C.at N) (eJ (C.at N) F) ro fr st=some o
   unfold BR at e ⊢
   split at e
   ·rename_i h1
    obtain⟨N,hN⟩:=Uw _ _ _ h1
    exact⟨N,by rw[hN];exact e⟩
   ·cases e
  |f_ ops ms=>
   have e:BS ops ms C.call (eJ C.call F) ro fr st=some o:=e
   show ∃N,BS ops ms (C.at N) (eJ (C.at N) F) ro fr st=some o
   unfold BS at e ⊢
   split at e
   ·rename_i h1
    obtain⟨N,hN⟩:=Zmv _ _ _ h1
    exact⟨N,by rw[hN];exact e⟩
   ·cases e
  |Aa dst ch send zero ops=>
   have e:Dr dst ch send zero ops C.call (eJ C.call F) ro fr st=some o:=e
   show ∃N,Dr dst ch send zero ops (C.at N) (eJ (C.at N) F) ro fr st=some o
   unfold Dr at e ⊢
   split at e
   ·split at e
    ·split at e
     ·split at e
      ·rename_i h1
       obtain⟨N,hN⟩:=Uw _ _ _ h1
       exact⟨N,by rw[hN];exact e⟩
      ·cases e
     ·cases e
    ·cases e
   ·cases e
  |jY g ps x y=>
   have e:Bb g ps x y C.call (eJ C.call F) ro fr st=some o:=e
   show ∃N,Bb g ps x y (C.at N) (eJ (C.at N) F) ro fr st=some o
   unfold Bb at e ⊢
   split at e
   ·cases e
   ·split at e
    ·cases e
    ·rename_i hy
     simp only[hy]
     split at e
     ·cases e
     ·split at e
      ·cases e
      ·rename_i h1
       obtain⟨N,hN⟩:=Cx.gO.1 h1
       exact⟨N,by rw[hN];exact e⟩
  |skip=>exact⟨0,e⟩
  |exit id=>exact⟨0,e⟩
  |ret=>exact⟨0,e⟩
  |stop=>cases e
  |scope x=>exact ih _ _ _ _ e
  |cond x y z=>
   have e:Ah x y z C.call (eJ C.call F) ro fr st=some o:=e
   show ∃N,Ah x y z (C.at N) (eJ (C.at N) F) ro fr st=some o
   unfold Ah at e ⊢
   split at e
   ·exact ih _ _ _ _ e
   ·exact ih _ _ _ _ e
   ·cases e
  |seq x y=>exact Uv (a:=C.call) (q:=fun n=>eJ (C.at n) F) (fun _ _ h=>up h) (fun _ _ _ _ _ e=>ih _ _ _ _ e) ro (.seq x y) fr st e
  |block id x=>exact Uv (a:=C.call) (q:=fun n=>eJ (C.at n) F) (fun _ _ h=>up h) (fun _ _ _ _ _ e=>ih _ _ _ _ e) ro (.block id x) fr st e
  |loop x=>exact Uv (a:=C.call) (q:=fun n=>eJ (C.at n) F) (fun _ _ h=>up h) (fun _ _ _ _ _ e=>ih _ _ _ _ e) ro (.loop x) fr st e
def Cx.su{C:Cx}{ro c fr st r}(h:C.code ro c fr st=some r):∃N,eJ (C.at N) N ro c fr st=some r:=by obtain⟨F,hF⟩:=Cx.gS.1 h;obtain⟨N,hN⟩:=Zrq F _ _ _ _ hF;exact⟨max F N,Ca (Cx.eR (Ev F N)) _ _ (Ey F N) _ _ _ _ _ hN⟩
def Zmb{eg:Nat->Option nD}{p:rY}{q:Nat->rY}(hq:∀n m,n<=m->Hn (q n) (q m))(hp:∀ro c fr st r,p ro c fr st=some r->∃n,q n ro c fr st=some r){g args st}(e:Ai eg p g args st=some o):∃n,Ai eg (q n) g args st=some o:=by
 unfold Ai at e ⊢;split at e
 ·split at e
  ·rename_i mf _;unfold EJ at e ⊢;split at e
   ·cases e
   rename_i h0;simp only[h0,if_false];cases h1:p none mf.body {r:=AR .nil 0 _,n:=mf.ntmps,marks:=[]} {st with w:=[]} with
   |none=>rw[h1]at e;cases e
   |some r=> rw[h1]at e;obtain⟨n,hn⟩:=hp _ _ _ _ _ h1;exact⟨n,by rw[hn];exact e⟩
  cases e
 ·unfold DY at e ⊢;split at e
  ·split at e
   ·cases e
   split at e
   ·rename_i h1;obtain⟨n,hn⟩:=hp _ _ _ _ _ h1;split at e
    ·split at e
     ·split at e
      ·rename_i h4 h5 _ _ _ _ h2;obtain⟨m,hm⟩:=hp _ _ _ _ _ h2;refine⟨max n m,?_⟩;rw[hq n _ (Ey n m) _ _ _ _ _ hn];simp only[h4,h5,if_true];rw[hq m _ (Ev n m) _ _ _ _ _ hm];exact e
      cases e
     cases e
    cases e
   cases e
  cases e
 cases e
def Cx.od{C:Cx}(g:V)(args:List V)(st:St):C.call g args st=uD C.x (Ai C.eg C.code) g args st:=by
 apply Ygb;intro r;constructor
 ·intro h;obtain⟨N,hN⟩:=Cx.gO.1 h;cases N with
  |zero=> have e:C.x g args st=some r:=hN;unfold uD;rw[e]
  |succ N=> refine Zo8 (x:=C.x) (Zh4 (p:=eJ (AV C.x C.eg (N+1) N) (N+1)) fun ro c fr st r e=>?_) _ _ _ _ hN;refine Cx.gS.2 ⟨N+1,?_⟩;refine Ca (fun g args st r e=>?_) (N+1) (N+1) (aN _) _ _ _ _ _ e;exact Cx.gO.2 ⟨N+1,Uu (aN _) N (N+1) (by omega) _ _ _ _ e⟩
 intro h;unfold uD at h;split at h
 ·rename_i r' e;simp only[ar]at h;subst h;exact Cx.gO.2 ⟨0,e⟩
 rename_i hx;obtain⟨N,hN⟩:=Zmb (q:=fun n=>eJ (C.at n) n) (fun n m h=>Ca (Cx.eR h) n m h) (fun _ _ _ _ _ e=>Cx.su e) h;refine Cx.gO.2 ⟨N+1,?_⟩;show uD C.x (Ai C.eg (eJ (AV C.x C.eg (N+1) N) (N+1))) g args st=some r;unfold uD;rw[hx];exact Zh4 (Ca (Uu (by omega) N N (aN _)) N (N+1) (by omega)) _ _ _ _ hN
inductive Rs where
 |ex (e:Ex) (fr:Fr) (st:St)
 |val (v:V) (st:St)
 |ops (fr:Fr) (st:St)
 |tQ (jf:List FP) (fr:Fr) (st:St)
inductive Kf where
 |seq (ro:Option Nat) (b:ct)
 |block (id:Nat)
 |loop (ro:Option Nat) (c:ct)
 |fV
 |put (d:Option Nat) (ops:List dS) (fr:Fr)
 |f_ (ms:List Nat)
 |xQ (op:iH) (d:Option Nat) (ops:List dS) (fr:Fr) (n:Nat) (w:List Nat)
 |cons (fp:FP)
 |fin (rs:List FY) (st:St)
def fy:Option (Ex×Fr×St)->Option Rs
 |some (e,fr,st)=>some (.ex e fr st)
 |none=>none
def uM:Option (V×St)->Option Rs
 |some (v,st)=>some (.val v st)
 |none=>none
def DG:Option (Fr×St)->Option Rs
 |some (fr,st)=>some (.ops fr st)
 |none=>none
def Ck:Option (List FP×Fr×St)->Option Rs
 |some (jf,fr,st)=>some (.tQ jf fr st)
 |none=>none
def sL(C:Cx):Kf->Rs->Option Rs
 |.seq ro b,.ex .normal fr st=>fy (C.code ro b fr st)
 |.seq _ _,.ex e fr st=>some (.ex e fr st)
 |.block id,.ex (.exit Du) fr st=>match Nat.beq Du id with
  |true=>some (.ex .normal fr st)
  |false=>some (.ex (.exit Du) fr st)
 |.block _,.ex e fr st=>some (.ex e fr st)
 |.loop ro c,.ex .normal fr st=>fy (C.code ro (.loop c) fr st)
 |.loop _ _,.ex e fr st=>some (.ex e fr st)
 |.fV,.ops fr st=>some (.ex .normal fr st)
 |.put d ops fr,.val v st=>match fr.put d v with
  |some fr=>DG (dZ C.call ops fr st)
  |none=>none
 |.f_ ms,.tQ jf fr st=>match l7 jf ms with
  |true=>some (.ex .normal fr st)
  |false=>none
 |.xQ op d ops fr n w,.val v aB=>match fr.put d v with
  |some bK=>match bS C.call ops bK {aB with w:=az n aB.w++w} with
   |some (jf,fr'',st'')=>some (.tQ (q9 fr.r op (az n aB.w) n aB.n::jf) fr'' st'')
   |none=>none
  |none=>none
 |.cons fp,.tQ jf fr st=>some (.tQ (fp::jf) fr st)
 |.fin _ _,.ex (.exit _) _ _=>none
 |.fin rs PL,.ex _ fr cg=>match shut cg fr.marks with
  |none=>none
  |some fz=>match gF fr.r fz rs with
   |some vs=>some (.val (GL vs) {fz with w:=az PL.n fz.w++PL.w})
   |none=>none
 |_,_=>none
def nE(C:Cx)(k:Kf):Option Rs->Option Rs
 |some r=>sL C k r
 |none=>none
def jB(C:Cx):List Kf->Option Rs->Option Rs
 |[],r=>r
 |k::K,r=>jB C K (nE C k r)
def Zy8{C:Cx}:∀K,jB C K none=none
 |[]=>rfl
 |_::K=>Zy8 K
structure bD (C:Cx) (K:List Kf) (r:Option Rs) (Q:Rs->Prop):Prop where
 ex:∃s,jB C K r=some s/\Q s
def jQ{C:Cx}{K K':List Kf}{r r':Option Rs}{Q:Rs->Prop}(h:jB C K r=jB C K' r'):bD C K r Q↔bD C K' r' Q:=
 ⟨fun ⟨s,e,q⟩=>⟨s,h▸e,q⟩,fun ⟨s,e,q⟩=>⟨s,h.symm▸e,q⟩⟩
def MN{C:Cx}{K:List Kf}{Q:Rs->Prop}:bD C K none Q↔False:=
 ⟨fun ⟨_,h,_⟩=>(by rw[Zy8]at h;cases h),fun h=>h.elim⟩
def Yqy{C:Cx}{s:Rs}{Q:Rs->Prop}:bD C [] (some s) Q↔Q s:=
 ⟨fun ⟨_,h,q⟩=>by simp only[jB,ar]at h;exact h▸q,fun q=>⟨s,rfl,q⟩⟩
structure Call (C:Cx) (g:V) (args:List V) (st:St) (P:V->St->Prop):Prop where
 ex:∃v aB,C.call g args st=some (v,aB)/\P v aB
structure Code (C:Cx) (ro:Option Nat) (c:ct) (fr:Fr) (st:St) (P:Ex->Fr->St->Prop):Prop where
 ex:∃e bK aB,C.code ro c fr st=some (e,bK,aB)/\P e bK aB
def Fa(P:V->St->Prop):Rs->Prop
 |.val v st=>P v st
 |_=>False
def TI(P:Ex->Fr->St->Prop):Rs->Prop
 |.ex e fr st=>P e fr st
 |_=>False
def Yj1{v st}:Fa P (.val v st)↔P v st:=Iff.rfl
def Yxf{P:Ex->Fr->St->Prop}{e fr st}:TI P (.ex e fr st)↔P e fr st:=Iff.rfl
def aP{C:Cx}{g args st P}:Call C g args st P↔bD C [] (uM (C.call g args st)) (Fa P):=by
 constructor
 ·rintro⟨v,aB,h,p⟩;exact⟨.val v aB,by rw[h];rfl,p⟩
 rintro⟨s,h,q⟩;cases hc:C.call g args st with
 |none=>rw[hc]at h;cases h
 |some r=> rw[hc]at h;simp only[jB,uM,ar]at h;subst h;exact⟨_,_,hc,q⟩
def bG{C:Cx}{ro c fr st P}:Code C ro c fr st P↔bD C [] (fy (C.code ro c fr st)) (TI P):=by
 constructor
 ·rintro⟨e,bK,aB,h,p⟩;exact⟨.ex e bK aB,by rw[h];rfl,p⟩
 rintro⟨s,h,q⟩;cases hc:C.code ro c fr st with
 |none=>rw[hc]at h;cases h
 |some r=> rw[hc]at h;simp only[jB,fy,ar]at h;subst h;exact⟨_,_,_,hc,q⟩
def BV{C:Cx}{g args st P K Q}(h:Call C g args st P)(k:∀v aB,P v aB->bD C K (some (.val v aB)) Q):bD C K (uM (C.call g args st)) Q:=by obtain⟨v,aB,e,p⟩:=h.ex;rw[e];exact k v aB p
def qV{C:Cx}{ro c fr st P K Q}(h:Code C ro c fr st P)(k:∀e bK aB,P e bK aB->bD C K (some (.ex e bK aB)) Q):bD C K (fy (C.code ro c fr st)) Q:=by obtain⟨e,bK,aB,h,p⟩:=h.ex;rw[h];exact k e bK aB p
def Call.mono{C:Cx}{g args st}{Q:V->St->Prop}(h:Call C g args st P)(k:∀v aB,P v aB->Q v aB):Call C g args st Q:=by obtain⟨v,aB,e,p⟩:=h.ex;exact⟨v,aB,e,k v aB p⟩
def Yws(I:Nat->Fr->St->Prop)(k:Nat)(P:Ex->Fr->St->Prop):Ex->Fr->St->Prop
 |.normal,fr,st=>∃k',k'<k/\I k' fr st
 |e,fr,st=>P e fr st
def Code.loop{C:Cx}{ro c}{P:Ex->Fr->St->Prop}{I:Nat->Fr->St->Prop}(h:∀k fr st,I k fr st->Code C ro c fr st (Yws I k P)):∀(k:Nat) (fr:Fr) (st:St),I k fr st->Code C ro (.loop c) fr st P:=by
 intro k;induction k using Nat.strongRecOn with
 |_ k ih=>
  intro fr st hi;obtain⟨e,bK,aB,h1,p⟩:=(h k fr st hi).ex;have e1:C.code ro (.loop c) fr st=Dv c C.call C.code ro fr st:=Cx.dE ro (.loop c) fr st;unfold Dv at e1;rw[h1]at e1;cases e with
  |normal=> obtain⟨k',hk,kl⟩:=p;obtain⟨e2,Bc,fz,h2,p2⟩:=(ih k' hk bK aB kl).ex;exact⟨e2,Bc,fz,e1.trans h2,p2⟩
  |exit id=>exact⟨_,_,_,e1,p⟩
  |ret=>exact⟨_,_,_,e1,p⟩
def Yks{C:Cx}{ro c}{K:List Kf}{Q:Rs->Prop}{fr:Fr}{st:St}(P:Ex->Fr->St->Prop)(I:Nat->Fr->St->Prop)(k:Nat)(hi:I k fr st)(h:∀k fr st,I k fr st->Code C ro c fr st (Yws I k P))(q:∀e bK aB,P e bK aB->bD C K (some (.ex e bK aB)) Q):bD C K (fy (C.code ro (.loop c) fr st)) Q:=
 qV (Code.loop h k fr st hi) q
section
variable {C:Cx} {K:List Kf} {Q:Rs->Prop} {ro:Option Nat} {a b c:ct} {fr:Fr} {st:St}
def Ykp:bD C K (fy (C.code ro .skip fr st)) Q↔bD C K (some (.ex .normal fr st)) Q:=jQ (by rw[Cx.dE];rfl)
def Yqx{ops}:bD C K (fy (C.code ro (.fV ops) fr st)) Q↔bD C (.fV::K) (DG (dZ C.call ops fr st)) Q:=jQ (by
 rw[Cx.dE]
 show jB C K (fy (BR ops C.call C.code ro fr st))=jB C K (nE C .fV (DG (dZ C.call ops fr st)))
 unfold BR
 rcases dZ C.call ops fr st with _|⟨_,_⟩<;>rfl)
def Ykr{ops ms}:bD C K (fy (C.code ro (.f_ ops ms) fr st)) Q↔bD C (.f_ ms::K) (Ck (bS C.call ops fr st)) Q:=jQ (by
 rw[Cx.dE]
 show jB C K (fy (BS ops ms C.call C.code ro fr st))=jB C K (nE C (.f_ ms) (Ck (bS C.call ops fr st)))
 unfold BS
 rcases bS C.call ops fr st with _|⟨jf,_,_⟩
 ·rfl
 ·simp only[Ck,nE,sL]
  cases l7 jf ms<;>rfl)
def Yqv:bD C K (fy (C.code ro (.seq a b) fr st)) Q↔bD C (.seq ro b::K) (fy (C.code ro a fr st)) Q:=jQ (by
 rw[Cx.dE]
 show jB C K (fy (Ds a b C.call C.code ro fr st))=jB C K (nE C (.seq ro b) (fy (C.code ro a fr st)))
 unfold Ds
 rcases C.code ro a fr st with _|⟨e,_,_⟩
 ·rfl
 ·cases e<;>rfl)
def Ux(C:Cx)(ro:Option Nat)(a b:ct)(fr:Fr)(st:St):Option V->Option Rs
 |some (.bool true)=>fy (C.code ro a fr st)
 |some (.bool false)=>fy (C.code ro b fr st)
 |_=>none
def Ykv{x}:bD C K (fy (C.code ro (.cond x a b) fr st)) Q↔bD C K (Ux C ro a b fr st (x.ev fr.r)) Q:=jQ (by
 rw[Cx.dE]
 show jB C K (fy (Ah x a b C.call C.code ro fr st))=_
 unfold Ah Ux
 rcases x.ev fr.r with _|v
 ·rfl
 ·cases v<;>try rfl
  rename_i b'
  cases b'<;>rfl)
def Yec:Ux C ro a b fr st (some (.bool true))=fy (C.code ro a fr st):=rfl
def Zyq:Ux C ro a b fr st (some (.bool false))=fy (C.code ro b fr st):=rfl
def Yfr{id}:bD C K (fy (C.code ro (.block id a) fr st)) Q↔bD C (.block id::K) (fy (C.code ro a fr st)) Q:=jQ (by
 rw[Cx.dE]
 show jB C K (fy (Dt id a C.call C.code ro fr st))=jB C K (nE C (.block id) (fy (C.code ro a fr st)))
 unfold Dt
 rcases C.code ro a fr st with _|⟨e,_,_⟩
 ·rfl
 ·cases e with
  |exit Du=>simp only[fy,nE,sL];cases Nat.beq Du id<;>rfl
  |_=>rfl)
def Yku{id}:bD C K (fy (C.code ro (.exit id) fr st)) Q↔bD C K (some (.ex (.exit id) fr st)) Q:=jQ (by rw[Cx.dE];rfl)
def Yfq:bD C K (fy (C.code ro (.scope a) fr st)) Q↔bD C K (fy (C.code ro a fr st)) Q:=jQ (by rw[Cx.dE];rfl)
def Yqw:bD C K (fy (C.code ro .ret fr st)) Q↔bD C K (some (.ex .ret fr st)) Q:=jQ (by rw[Cx.dE];rfl)
def Zu9:bD C (.seq ro b::K) (some (.ex .normal fr st)) Q↔bD C K (fy (C.code ro b fr st)) Q:=jQ rfl
def Ydi{i}:bD C (.seq ro b::K) (some (.ex (.exit i) fr st)) Q↔bD C K (some (.ex (.exit i) fr st)) Q:=jQ rfl
def Yhj:bD C (.seq ro b::K) (some (.ex .ret fr st)) Q↔bD C K (some (.ex .ret fr st)) Q:=jQ rfl
def Zqt{i}:bD C (.block i::K) (some (.ex .normal fr st)) Q↔bD C K (some (.ex .normal fr st)) Q:=jQ rfl
def Zx5{i}:bD C (.block i::K) (some (.ex .ret fr st)) Q↔bD C K (some (.ex .ret fr st)) Q:=jQ rfl
def Zva{i}:bD C (.block i::K) (some (.ex (.exit i) fr st)) Q↔bD C K (some (.ex .normal fr st)) Q:=jQ (by simp[jB,nE,sL,Nat.beq_refl])
def Zs8{i j}(h:Nat.beq j i=false):bD C (.block i::K) (some (.ex (.exit j) fr st)) Q↔bD C K (some (.ex (.exit j) fr st)) Q:=jQ (by simp[jB,nE,sL,h])
def Yz0:bD C (.fV::K) (some (.ops fr st)) Q↔bD C K (some (.ex .normal fr st)) Q:=jQ rfl
def Yrj:DG (dZ C.call [] fr st)=some (.ops fr st):=rfl
def opR(C:Cx)(K:List Kf)(Q:Rs->Prop)(d:Option Nat)(op:iH)(ops:List dS)(fr:Fr)(st:St):Option Bool->Prop
 |some true=>bD C (.put d ops fr::K) (uM (cH op C.call fr.r st)) Q
 |some false=>bD C (.put d ops fr::K) (some (.val (.aU []) st)) Q
 |none=>False
def Ylb{d op g ops}:bD C K (DG (dZ C.call (⟨d,op,g⟩::ops) fr st)) Q↔opR C K Q d op ops fr st (cf fr.r g):=by
 have e:dZ C.call (⟨d,op,g⟩::ops) fr st=Dm C.call ⟨d,op,g⟩ (dZ C.call ops) fr st:=rfl;rw[e];unfold Dm;simp only[];rcases cf fr.r g with _|b
 ·exact MN
 cases b
 ·show _↔bD C (.put d ops fr::K) (some (.val (.aU []) st)) Q;refine jQ ?_;show _=jB C K (sL C (.put d ops fr) (.val (.aU []) st));simp only[sL];rcases fr.put d (.aU [])with _|_<;>rfl
 show _↔bD C (.put d ops fr::K) (uM (cH op C.call fr.r st)) Q;refine jQ ?_;show _=jB C K (nE C (.put d ops fr) (uM (cH op C.call fr.r st)));rcases cH op C.call fr.r st with _|⟨v,aB⟩
 ·rfl
 simp only[uM,nE,sL];rcases fr.put d v with _|_<;>rfl
def Ylg{d op ops}:opR C K Q d op ops fr st (some true)↔bD C (.put d ops fr::K) (uM (cH op C.call fr.r st)) Q:=Iff.rfl
def Ygf{d op ops}:opR C K Q d op ops fr st (some false)↔bD C (.put d ops fr::K) (some (.val (.aU []) st)) Q:=Iff.rfl
def Yex{v:V}:uM (some (v,st))=some (.val v st):=rfl
def Yz1{d n m r ops v}(h:d<n):bD C (.put (some d) ops ⟨r,n,m⟩::K) (some (.val v st)) Q↔bD C K (DG (dZ C.call ops ⟨r.set d v,n,m⟩ st)) Q:=jQ (by simp[jB,nE,sL,Fr.put,h])
def Ydj{ops v}:bD C (.put none ops fr::K) (some (.val v st)) Q↔bD C K (DG (dZ C.call ops fr st)) Q:=jQ rfl
def Ylc:Ck (bS C.call [] fr st)=some (.tQ [] fr st):=rfl
def PM(C:Cx)(K:List Kf)(Q:Rs->Prop)(d:Option Nat)(op:iH)(ops:List dS)(fr:Fr)(h:T O)(n:Nat)(w:List Nat):Option Bool->Prop
 |some true=>bD C (.xQ op d ops fr n w::K) (uM (cH op C.call fr.r ⟨h,n,[]⟩)) Q
 |some false=>bD C (.cons ⟨some [],[],n,n⟩::K) (match fr.put d (.aU [])with|some bK=>Ck (bS C.call ops bK ⟨h,n,w⟩)|none=>none) Q
 |none=>False
def Ygd{d op g ops h n w}:bD C K (Ck (bS C.call (⟨d,op,g⟩::ops) fr ⟨h,n,w⟩)) Q↔PM C K Q d op ops fr h n w (cf fr.r g):=by
 have e:bS C.call (⟨d,op,g⟩::ops) fr ⟨h,n,w⟩=Dp C.call ⟨d,op,g⟩ (bS C.call ops) fr ⟨h,n,w⟩:=rfl;rw[e];unfold Dp;simp only[];rcases cf fr.r g with _|b
 ·exact MN
 cases b
 ·show _↔bD C (.cons ⟨some [],[],n,n⟩::K) (match fr.put d (.aU [])with|some bK=>Ck (bS C.call ops bK ⟨h,n,w⟩)|none=>none) Q;refine jQ ?_;show _=jB C K (nE C (.cons ⟨some [],[],n,n⟩) _);rcases fr.put d (.aU [])with _|bK
  ·rfl
  simp only[];rcases bS C.call ops bK ⟨h,n,w⟩with _|⟨_,_,_⟩<;>rfl
 show _↔bD C (.xQ op d ops fr n w::K) (uM (cH op C.call fr.r ⟨h,n,[]⟩)) Q;refine jQ ?_;show _=jB C K (nE C (.xQ op d ops fr n w) (uM (cH op C.call fr.r ⟨h,n,[]⟩)));rcases cH op C.call fr.r ⟨h,n,[]⟩with _|⟨v,aB⟩
 ·rfl
 simp only[uM,nE,sL];rcases fr.put d v with _|bK
 ·rfl
 simp only[];rcases bS C.call ops bK {aB with w:=az n aB.w++w} with _|⟨_,_,_⟩<;>rfl
def Ygg{d op ops h n w}:PM C K Q d op ops fr h n w (some true)↔bD C (.xQ op d ops fr n w::K) (uM (cH op C.call fr.r ⟨h,n,[]⟩)) Q:=Iff.rfl
def Ycn{d n m r ops op h N w}(hd:d<n):PM C K Q (some d) op ops ⟨r,n,m⟩ h N w (some false)↔bD C (.cons ⟨some [],[],N,N⟩::K) (Ck (bS C.call ops ⟨r.set d (.aU []),n,m⟩ ⟨h,N,w⟩)) Q:=by simp[PM,Fr.put,hd]
def Zxi{ops op h N w}:PM C K Q none op ops fr h N w (some false)↔bD C (.cons ⟨some [],[],N,N⟩::K) (Ck (bS C.call ops fr ⟨h,N,w⟩)) Q:=Iff.rfl
def Ywx{op d n m r ops v N w h' n' w'}(h:d<n):bD C (.xQ op (some d) ops ⟨r,n,m⟩ N w::K) (some (.val v ⟨h',n',w'⟩)) Q↔bD C (.cons (q9 r op (az N w') N n')::K) (Ck (bS C.call ops ⟨r.set d v,n,m⟩ ⟨h',n',az N w'++w⟩)) Q:=jQ (by
 simp only[jB,nE,sL,Fr.put,h,if_true]
 rcases bS C.call ops _ _ with _|⟨_,_,_⟩<;>rfl)
def Zx4{op ops v N w h' n' w'}:bD C (.xQ op none ops fr N w::K) (some (.val v ⟨h',n',w'⟩)) Q↔bD C (.cons (q9 fr.r op (az N w') N n')::K) (Ck (bS C.call ops fr ⟨h',n',az N w'++w⟩)) Q:=jQ (by
 simp only[jB,nE,sL,Fr.put]
 rcases bS C.call ops _ _ with _|⟨_,_,_⟩<;>rfl)
def Ywy{fp jf}:bD C (.cons fp::K) (some (.tQ jf fr st)) Q↔bD C K (some (.tQ (fp::jf) fr st)) Q:=jQ rfl
def wP{ms jf}(h:l7 jf ms=true):bD C (.f_ ms::K) (some (.tQ jf fr st)) Q↔bD C K (some (.ex .normal fr st)) Q:=jQ (by simp only[jB,nE,sL,h])
def Ykt{g first iI args mf}(hx:C.x (.func g first iI) args st=none)(h:C.eg g=some mf)(hl:(first++args++iI).length<=mf.ntmps):bD C K (uM (C.call (.func g first iI) args st)) Q↔bD C (.fin mf.results st::K) (fy (C.code none mf.body ⟨AR .nil 0 (first++args++iI),mf.ntmps,[]⟩ ⟨st.h,st.n,[]⟩)) Q:=jQ (by
 rw[Cx.od]
 unfold uD
 rw[hx]
 simp only[Ai,h,EJ,xb.2 hl,if_false]
 show _=jB C K (nE C (.fin mf.results st) _)
 unfold Zx9
 rcases C.code none mf.body _ _ with _|⟨e,eN,cg⟩
 ·rfl
 ·cases e with
  |exit=>rfl
  |normal=>
   simp only[fy,nE,sL]
   rcases shut cg eN.marks with _|fz
   ·rfl
   ·simp only[]
    rcases gF eN.r fz mf.results with _|_<;>rfl
  |ret=>
   simp only[fy,nE,sL]
   rcases shut cg eN.marks with _|fz
   ·rfl
   ·simp only[]
    rcases gF eN.r fz mf.results with _|_<;>rfl)
def SW(h:T O)(n:Nat)(w:List Nat):Option (List V)->Option Rs
 |some vs=>some (.val (GL vs) ⟨h,n,w⟩)
 |none=>none
def Yh0{h n w vs}:SW h n w (some vs)=some (.val (GL vs) ⟨h,n,w⟩):=rfl
def Yhk{rs r n h1 n1 w1}:bD C (.fin rs st::K) (some (.ex .ret ⟨r,n,[]⟩ ⟨h1,n1,w1⟩)) Q↔bD C K (SW h1 n1 (az st.n w1++st.w) (gF r ⟨h1,n1,w1⟩ rs)) Q:=jQ (by
 simp only[jB,nE,sL,shut]
 rcases gF r ⟨h1,n1,w1⟩ rs with _|_<;>rfl)
def Yhl{rs r n h1 n1 w1}:bD C (.fin rs st::K) (some (.ex .normal ⟨r,n,[]⟩ ⟨h1,n1,w1⟩)) Q↔bD C K (SW h1 n1 (az st.n w1++st.w) (gF r ⟨h1,n1,w1⟩ rs)) Q:=jQ (by
 simp only[jB,nE,sL,shut]
 rcases gF r ⟨h1,n1,w1⟩ rs with _|_<;>rfl)
end
def Zxw(a):cH (.tE a)=Mo a:=rfl
def Zuw(a b):cH (.lK a b)=GF a b:=rfl
def Zu1(a):cH (.pR a)=Jt a:=rfl
def Zxt(a b):cH (.jn a b)=Mp a b:=rfl
def Ygt:cH .yS=Mq:=rfl
def Ycw(a b):cH (.xz a b)=GG a b:=rfl
def Zxs(a b c d e f):cH (.lV a b c d e f)=ED a b c d e f:=rfl
def Zux(a b c):cH (.cG a b c)=AO a b c:=rfl
def Zxq(a b c d e):cH (.oD a b c d e)=rX a b c d e:=rfl
def Zuy(a b c d e f):cH (.lY a b c d e f)=BQ a b c d e f:=rfl
def Yc1(a b c d e):cH (.xA a b c d e)=Mr a b c d e:=rfl
def Yc0(a b):cH (.bQ a b)=GI a b:=rfl
def Ycy(a b c d e):cH (.lookup a b c d e)=Jx a b c d e:=rfl
def Ycx(a b c d):cH (.xr a b c d)=GJ a b c d:=rfl
def Zuz(a):cH (.lZ a)=Jy a:=rfl
def Zxr(a):cH (.tr a)=Jz a:=rfl
def Ycz(a):cH (.xB a)=OZ a:=rfl
def Yr7(a):cH (.cap a)=Ms a:=rfl
def Ywq(a):cH (.mn a)=AP a:=rfl
def Ywp(a):cH (.mx a)=tG a:=rfl
def Yc3(a b c d e f):cH (.append a b c d e f)=EF a b c d e f:=rfl
def Ylr(a b c):cH (.copy a b c)=EG a b c:=rfl
def Ygx(a b c):cH (.clear a b c)=Mt a b c:=rfl
def Yr3(a b):cH (.Mc a b)=GK a b:=rfl
def Ygr(a):cH (.BH a)=Mv a:=rfl
def Ylo(a b c):cH (.I3 a b c)=Mw a b c:=rfl
def Yr6(a b):cH (.ext a b)=JB a b:=rfl
def Ytd{ng k x y}:yZ ng (.dJ k) x y=bz ng k x y:=by cases x<;>cases y<;>rfl
attribute [simp] Yqy Yj1 Yxf Ykp Yqx Ykr Yqv Ykv Yec Zyq Yfr Yku Yfq Yqw Zu9 Ydi Yhj Zqt Zx5 Zva Yz0 Yrj Ylb Ylg Ygf Yex Yz1 Ydj
 Ylc Ygd Ygg Ycn Zxi Ywx Zx4 Ywy wP Yh0 Yhk Yhl
 Zxw Zuw Zu1 Zxt Ygt Ycw Zxs Zux Zxq Zuy Yc1 Yc0 Ycy Ycx Zuz Zxr Ycz Yr7 Ywq Ywp Yc3 Ylr Ygx Yr3 Ygr Ylo Yr6 Ytd
structure ab (h:T O) (n:Nat) (h':T O) (n':Nat):Prop where
 le:n<=n'
 get:∀i,i<n->h'.get i=h.get i
def ab.refl:ab h n h n:=⟨aN _,fun _ _=>rfl⟩
def ab.trans{h h1 h2:T O}{n n1 n2:Nat}(a:ab h n h1 n1)(b:ab h1 n1 h2 n2):ab h n h2 n2:=
 ⟨nI a.le b.le,fun i hi=>(b.get i (fH hi a.le)).trans (a.get i hi)⟩
def ab.set{h h1:T O}{n n1:Nat}{i:Nat}{o:O}(hi:n<=i)(a:ab h n h1 n1):ab h n (h1.set i o) n1:=
 ⟨a.le,fun j hj=>by rw[T.ag,ak (by omega)];exact a.get j hj⟩
def ab.up{n1 n2:Nat}(a:ab h n h1 n1)(hn:n1<=n2):ab h n h1 n2:=⟨nI a.le hn,a.get⟩
def ay(P:V->T O->Nat->Prop)(h:T O)(n:Nat)(w:List Nat)(v:V)(st:St):Prop:=st.w=w/\ab h n st.h st.n/\P v st.h st.n
abbrev Fn(C:Cx)(f:Nat)(args:List V)(h:T O)(n:Nat)(P:V->T O->Nat->Prop):Prop:=∀w,Call C (.func f [] []) args ⟨h,n,w⟩ (ay P h n w)
def au{C:Cx}{f args h n w P K Q}(hf:Fn C f args h n P)(k:∀v h' n',ab h n h' n'->P v h' n'->bD C K (some (.val v ⟨h',n',w⟩)) Q):bD C K (uM (C.call (.func f [] []) args ⟨h,n,w⟩)) Q:=
 BV (hf w) fun v aB=>by
  obtain⟨h',n',w'⟩:=aB
  rintro⟨rfl,hk,hp⟩
  exact k v h' n' hk hp
def Zrk{N:Nat}:∀{w:List Nat},(∀i∈w,N<=i)->az N w=[]
 |[],_=>rfl
 |i::w,h=>by
  have:=h i oa
  simp only[az,xb.2 this,if_false]
  exact Zrk fun j hj=>h j (pA _ hj)
end
end Go.Mx
