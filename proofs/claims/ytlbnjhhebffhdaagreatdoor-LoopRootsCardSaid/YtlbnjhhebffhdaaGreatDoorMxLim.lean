/-Runs without a count of steps-/
import Derived.Test.YtlbnjhhebffhdaaGreatDoorMxTab
set_option linter.all false
namespace Go.Mx
noncomputable section
open Go
def Le(a b:cP):Prop:=∀g args st r,a g args st=some r->b g args st=some r
def TH{a b:cP}(h:Le a b)(op:fZ)(r:T V)(st:St){o:V×St}(e:cJ op a r st=some o):cJ op b r st=some o:=by
 cases op<;>try exact e
 rename_i f args
 show xX f args b r st=some o
 have e:xX f args a r st=some o:=e
 unfold xX at e ⊢
 split at e
 ·exact h _ _ _ _ e
 ·cases e
def OP{a b:cP}(h:Le a b):∀(ops:List du) (fr:Fr) (st:St) {o:Fr×St},dH a ops fr st=some o->dH b ops fr st=some o
 |[],_,_,_,e=>e
 |q::ops,fr,st,o,e=>by
  have e:AV a q (dH a ops) fr st=some o:=e
  show AV b q (dH b ops) fr st=some o
  unfold AV at e ⊢
  split at e
  ·split at e
   ·rename_i v st' h1
    rw[TH h _ _ _ h1]
    simp only[]
    split at e
    ·exact OP h ops _ _ e
    ·cases e
   ·cases e
  ·split at e
   ·exact OP h ops _ _ e
   ·cases e
  ·cases e
def TI{a b:cP}(h:Le a b):∀(ops:List du) (fr:Fr) (st:St) {o:List FP×Fr×St},bR a ops fr st=some o->bR b ops fr st=some o
 |[],_,_,_,e=>e
 |q::ops,fr,st,o,e=>by
  have e:AW a q (bR a ops) fr st=some o:=e
  show AW b q (bR b ops) fr st=some o
  unfold AW at e ⊢
  split at e
  ·split at e
   ·rename_i v st' h1
    rw[TH h _ _ _ h1]
    simp only[]
    split at e
    ·split at e
     ·rename_i h2
      rw[TI h ops _ _ h2]
      exact e
     ·cases e
    ·cases e
   ·cases e
  ·split at e
   ·split at e
    ·rename_i h2
     rw[TI h ops _ _ h2]
     exact e
    ·cases e
   ·cases e
  ·cases e
def Ec(a b:ph):Prop:=∀ro c fr st r,a ro c fr st=some r->b ro c fr st=some r
def Zk8{a b:cP}{p q:ph}(h:Le a b)(hc:Ec p q)(ro:Option Nat)(c:cC)(fr:Fr)(st:St){o:Ex×Fr×St}(e:lZ c a p ro fr st=some o):lZ c b q ro fr st=some o:=by
 cases c with
 |skip=>exact e
 |fk ops=>
  have e:Zok ops a p ro fr st=some o:=e
  show Zok ops b q ro fr st=some o
  unfold Zok at e ⊢
  split at e
  ·rename_i h1;rw[OP h _ _ _ h1];exact e
  ·cases e
 |eY ops ms=>
  have e:zn ops ms a p ro fr st=some o:=e
  show zn ops ms b q ro fr st=some o
  unfold zn at e ⊢
  split at e
  ·rename_i h1;rw[TI h _ _ _ h1];exact e
  ·cases e
 |wW dst ch send zero ops=>
  have e:zo dst ch send zero ops a p ro fr st=some o:=e
  show zo dst ch send zero ops b q ro fr st=some o
  unfold zo at e ⊢
  split at e
  ·split at e
   ·split at e
    ·split at e
     ·rename_i h1;rw[OP h _ _ _ h1];exact e
     ·cases e
    ·cases e
   ·cases e
  ·cases e
 |seq x y=>
  have e:AY x y a p ro fr st=some o:=e
  show AY x y b q ro fr st=some o
  unfold AY at e ⊢
  split at e
  ·rename_i h1;rw[hc _ _ _ _ _ h1];exact hc _ _ _ _ _ e
  ·rename_i h1
   have:=hc _ _ _ _ _ e
   rw[this]
   rcases o with⟨_|_|_,_,_⟩
   ·exact absurd e (h1 _ _)
   ·rfl
   ·rfl
 |cond x y z=>
  have e:xf x y z a p ro fr st=some o:=e
  show xf x y z b q ro fr st=some o
  unfold xf at e ⊢
  split at e
  ·exact hc _ _ _ _ _ e
  ·exact hc _ _ _ _ _ e
  ·cases e
 |block id x=>
  have e:AZ id x a p ro fr st=some o:=e
  show AZ id x b q ro fr st=some o
  unfold AZ at e ⊢
  split at e
  ·rename_i h1;rw[hc _ _ _ _ _ h1];exact e
  ·rename_i h1
   have:=hc _ _ _ _ _ e
   rw[this]
   rcases o with⟨_|_|_,_,_⟩
   ·rfl
   ·exact absurd e (h1 _ _ _)
   ·rfl
 |loop x=>
  have e:Zi3 x a p ro fr st=some o:=e
  show Zi3 x b q ro fr st=some o
  unfold Zi3 at e ⊢
  split at e
  ·rename_i h1;rw[hc _ _ _ _ _ h1];exact hc _ _ _ _ _ e
  ·rename_i h1
   have:=hc _ _ _ _ _ e
   rw[this]
   rcases o with⟨_|_|_,_,_⟩
   ·exact absurd e (h1 _ _)
   ·rfl
   ·rfl
 |zim g ps x y=>
  have e:B6 g ps x y a p ro fr st=some o:=e
  show B6 g ps x y b q ro fr st=some o
  unfold B6 at e ⊢
  split at e
  ·cases e
  ·split at e
   ·cases e
   ·rename_i hy
    simp only[hy]
    split at e
    ·cases e
    ·split at e
     ·cases e
     ·rename_i h1;rw[h _ _ _ _ h1];exact e
 |exit id=>exact e
 |scope x=>exact hc _ _ _ _ _ e
 |ret=>exact e
 |stop=>exact e
def zu{a b:cP}(h:Le a b):∀(F F':Nat),F<=F'->Ec (dS a F) (dS b F')
 |0,_,_=>fun _ _ _ _ _ e=>by cases e
 |F+1,0,hF=>by omega
 |F+1,F'+1,hF=>fun ro c fr st _ e=>Zk8 h (zu h F F' (by omega)) ro c fr st e
def Zs2{p q:ph}(h:Ec p q){mf:kp}{args:List V}{st:St}{o:V×St}(e:B7 mf p args st=some o):B7 mf q args st=some o:=by
 unfold B7 at e ⊢
 split at e
 ·cases e
 ·rename_i h0
  rw[aA h0]
  cases h1:p none mf.body {r:=xY .nil 0 args,n:=mf.ntmps,marks:=[]} {st with w:=[]} with
  |none=>rw[h1]at e;cases e
  |some r=>rw[h1]at e;rw[h _ _ _ _ _ h1];exact e
def Zqj{p q:ph}(h:Ec p q){l:Nat}{args:List V}{st:St}{o:V×St}(e:I8 p l args st=some o):I8 q l args st=some o:=by
 unfold I8 at e ⊢
 split at e
 ·split at e
  ·cases e
  ·split at e
   ·rename_i h1
    rw[h _ _ _ _ _ h1]
    simp only[]
    split at e
    ·split at e
     ·rename_i hr
      rw[aR hr]
      split at e
      ·rename_i h2
       rw[h _ _ _ _ _ h2]
       exact e
      ·cases e
     ·cases e
    ·cases e
   ·cases e
 ·cases e
def Zg2{dL:Nat->Option kp}{p q:ph}(h:Ec p q):Le (xg dL p) (xg dL q):=by
 intro g args st o e
 unfold xg at e ⊢
 split at e
 ·split at e
  ·exact Zs2 h e
  ·cases e
 ·exact Zqj h e
 ·cases e
def Znp{x a b:cP}(h:Le a b):Le (rZ x a) (rZ x b):=by
 intro g args st o e
 unfold rZ at e ⊢
 split at e
 ·exact e
 ·exact h _ _ _ _ e
def TJ{x:cP}{dL:Nat->Option kp}{F F':Nat}(hF:F<=F'):∀(d d':Nat),d<=d'->Le (x_ x dL F d) (x_ x dL F' d')
 |0,0,_=>fun _ _ _ _ e=>e
 |0,d'+1,_=>fun g args st o e=>by
  have e:x g args st=some o:=e
  show rZ x _ g args st=some o
  unfold rZ;rw[e]
 |d+1,0,h=>by omega
 |d+1,d'+1,h=>Znp (Zg2 (zu (TJ hF d d' (by omega)) F F' hF))
structure Cx where
 x:cP
 dL:Nat->Option kp
def Cx.at(C:Cx)(N:Nat):cP:=x_ C.x C.dL N N
def Cx.d_{C:Cx}{N M:Nat}(h:N<=M):Le (C.at N) (C.at M):=TJ h N M h
open Classical in
def Cx.call(C:Cx):cP:=fun g args st=>if h:∃r N,C.at N g args st=some r then some h.choose else none
def Cx.fE{C:Cx}{g args st r}:C.call g args st=some r↔∃N,C.at N g args st=some r:=by
 unfold Cx.call
 constructor
 ·intro h
  split at h
  ·rename_i hc
   simp only[au]at h
   exact h▸hc.choose_spec
  ·cases h
 ·rintro⟨N,h⟩
  have hc:∃r N,C.at N g args st=some r:=⟨r,N,h⟩
  rw[dif_pos hc]
  obtain⟨M,hM⟩:=hc.choose_spec
  have h1:=Cx.d_ (BY N M) _ _ _ _ h
  have h2:=Cx.d_ (BU N M) _ _ _ _ hM
  rw[h1]at h2
  exact congrArg some (rL h2).symm
open Classical in
def Cx.code(C:Cx):ph:=fun ro c fr st=>if h:∃r F,dS C.call F ro c fr st=some r then some h.choose else none
def Cx.fF{C:Cx}{ro c fr st r}:C.code ro c fr st=some r↔∃F,dS C.call F ro c fr st=some r:=by
 unfold Cx.code
 constructor
 ·intro h
  split at h
  ·rename_i hc
   simp only[au]at h
   exact h▸hc.choose_spec
  ·cases h
 ·rintro⟨N,h⟩
  have hc:∃r F,dS C.call F ro c fr st=some r:=⟨r,N,h⟩
  rw[dif_pos hc]
  obtain⟨M,hM⟩:=hc.choose_spec
  have h1:=zu (fun _ _ _ _ e=>e) N (max N M) (BY N M) _ _ _ _ _ h
  have h2:=zu (fun _ _ _ _ e=>e) M (max N M) (BU N M) _ _ _ _ _ hM
  rw[h1]at h2
  exact congrArg some (rL h2).symm
def Yc6{α:Type}{a b:Option α}(h:∀r,a=some r↔b=some r):a=b:=by
 cases a with
 |none=>cases b with
  |none=>rfl
  |some r=>exact absurd ((h r).2 rfl) (by simp)
 |some r=>exact((h r).1 rfl).symm
def TK{a:cP}{p:ph}{q:Nat->ph}(hq:∀n m,n<=m->Ec (q n) (q m))(hp:∀ro c fr st r,p ro c fr st=some r->∃n,q n ro c fr st=some r)(ro:Option Nat)(c:cC)(fr:Fr)(st:St){o:Ex×Fr×St}(e:lZ c a p ro fr st=some o):∃n,lZ c a (q n) ro fr st=some o:=by
 cases c with
 |skip=>exact⟨0,e⟩
 |fk ops=>exact⟨0,e⟩
 |eY ops ms=>exact⟨0,e⟩
 |wW dst ch send zero ops=>exact⟨0,e⟩
 |seq x y=>
  have e:AY x y a p ro fr st=some o:=e
  show ∃n,AY x y a (q n) ro fr st=some o
  unfold AY at e ⊢
  split at e
  ·rename_i h1
   obtain⟨n,hn⟩:=hp _ _ _ _ _ h1
   obtain⟨m,hm⟩:=hp _ _ _ _ _ e
   refine⟨max n m,?_⟩
   rw[hq n _ (BY n m) _ _ _ _ _ hn]
   exact hq m _ (BU n m) _ _ _ _ _ hm
  ·rename_i h1
   obtain⟨n,hn⟩:=hp _ _ _ _ _ e
   refine⟨n,?_⟩
   rw[hn]
   rcases o with⟨_|_|_,_,_⟩
   ·exact absurd e (h1 _ _)
   ·rfl
   ·rfl
 |cond x y z=>
  have e:xf x y z a p ro fr st=some o:=e
  show ∃n,xf x y z a (q n) ro fr st=some o
  unfold xf at e ⊢
  split at e
  ·exact hp _ _ _ _ _ e
  ·exact hp _ _ _ _ _ e
  ·cases e
 |block id x=>
  have e:AZ id x a p ro fr st=some o:=e
  show ∃n,AZ id x a (q n) ro fr st=some o
  unfold AZ at e ⊢
  split at e
  ·rename_i h1
   obtain⟨n,hn⟩:=hp _ _ _ _ _ h1
   exact⟨n,by rw[hn];exact e⟩
  ·rename_i h1
   obtain⟨n,hn⟩:=hp _ _ _ _ _ e
   refine⟨n,?_⟩
   rw[hn]
   rcases o with⟨_|_|_,_,_⟩
   ·rfl
   ·exact absurd e (h1 _ _ _)
   ·rfl
 |loop x=>
  have e:Zi3 x a p ro fr st=some o:=e
  show ∃n,Zi3 x a (q n) ro fr st=some o
  unfold Zi3 at e ⊢
  split at e
  ·rename_i h1
   obtain⟨n,hn⟩:=hp _ _ _ _ _ h1
   obtain⟨m,hm⟩:=hp _ _ _ _ _ e
   refine⟨max n m,?_⟩
   rw[hq n _ (BY n m) _ _ _ _ _ hn]
   exact hq m _ (BU n m) _ _ _ _ _ hm
  ·rename_i h1
   obtain⟨n,hn⟩:=hp _ _ _ _ _ e
   refine⟨n,?_⟩
   rw[hn]
   rcases o with⟨_|_|_,_,_⟩
   ·exact absurd e (h1 _ _)
   ·rfl
   ·rfl
 |zim g ps x y=>exact⟨0,e⟩
 |exit id=>exact⟨0,e⟩
 |scope x=>exact hp _ _ _ _ _ e
 |ret=>exact⟨0,e⟩
 |stop=>exact⟨0,e⟩
def Cx.dJ{C:Cx}(ro:Option Nat)(c:cC)(fr:Fr)(st:St):C.code ro c fr st=lZ c C.call C.code ro fr st:=by
 apply Yc6
 intro r
 constructor
 ·intro h
  obtain⟨F,hF⟩:=Cx.fF.1 h
  cases F with
  |zero=>cases hF
  |succ F=>exact Zk8 (fun _ _ _ _ e=>e) (fun ro c fr st r e=>Cx.fF.2 ⟨F,e⟩) ro c fr st hF
 ·intro h
  obtain⟨n,hn⟩:=TK (q:=dS C.call) (zu fun _ _ _ _ e=>e) (fun _ _ _ _ _ e=>Cx.fF.1 e) ro c fr st h
  exact Cx.fF.2 ⟨n+1,hn⟩
def Zxl{C:Cx}(op:fZ)(r:T V)(st:St){o:V×St}(e:cJ op C.call r st=some o):∃N,cJ op (C.at N) r st=some o:=by
 cases op<;>try exact⟨0,e⟩
 rename_i f args
 have e:xX f args C.call r st=some o:=e
 show ∃N,xX f args (C.at N) r st=some o
 unfold xX at e ⊢
 split at e
 ·exact Cx.fE.1 e
 ·cases e
def TL{C:Cx}:∀(ops:List du) (fr:Fr) (st:St) {o:Fr×St},dH C.call ops fr st=some o->∃N,dH (C.at N) ops fr st=some o
 |[],_,_,_,e=>⟨0,e⟩
 |q::ops,fr,st,o,e=>by
  have e:AV C.call q (dH C.call ops) fr st=some o:=e
  show ∃N,AV (C.at N) q (dH (C.at N) ops) fr st=some o
  unfold AV at e ⊢
  split at e
  ·split at e
   ·rename_i v st' h1
    split at e
    ·obtain⟨N,hN⟩:=Zxl _ _ _ h1
     obtain⟨M,hM⟩:=TL ops _ _ e
     refine⟨max N M,?_⟩
     rw[TH (Cx.d_ (BY N M)) _ _ _ hN]
     rename_i h3
     simp only[h3]
     exact OP (Cx.d_ (BU N M)) _ _ _ hM
    ·cases e
   ·cases e
  ·split at e
   ·exact TL ops _ _ e
   ·cases e
  ·cases e
def Zlu{C:Cx}:∀(ops:List du) (fr:Fr) (st:St) {o:List FP×Fr×St},bR C.call ops fr st=some o->∃N,bR (C.at N) ops fr st=some o
 |[],_,_,_,e=>⟨0,e⟩
 |q::ops,fr,st,o,e=>by
  have e:AW C.call q (bR C.call ops) fr st=some o:=e
  show ∃N,AW (C.at N) q (bR (C.at N) ops) fr st=some o
  unfold AW at e ⊢
  split at e
  ·split at e
   ·rename_i v st' h1
    split at e
    ·rename_i h3
     split at e
     ·rename_i h2
      obtain⟨N,hN⟩:=Zxl _ _ _ h1
      obtain⟨M,hM⟩:=Zlu ops _ _ h2
      refine⟨max N M,?_⟩
      rw[TH (Cx.d_ (BY N M)) _ _ _ hN]
      simp only[h3]
      rw[TI (Cx.d_ (BU N M)) _ _ _ hM]
      exact e
     ·cases e
    ·cases e
   ·cases e
  ·split at e
   ·split at e
    ·rename_i h2
     obtain⟨M,hM⟩:=Zlu ops _ _ h2
     exact⟨M,by rw[hM];exact e⟩
    ·cases e
   ·cases e
  ·cases e
def Zpq{C:Cx}:∀(F:Nat) (ro:Option Nat) (c:cC) (fr:Fr) (st:St) {o:Ex×Fr×St},dS C.call F ro c fr st=some o->∃N,dS (C.at N) F ro c fr st=some o
 |0,_,_,_,_,_,e=>by cases e
 |F+1,ro,c,fr,st,o,e=>by
  have e:lZ c C.call (dS C.call F) ro fr st=some o:=e
  show ∃N,lZ c (C.at N) (dS (C.at N) F) ro fr st=some o
  have ih:=@Zpq C F
  have up:∀{n m:Nat},n<=m->Ec (dS (C.at n) F) (dS (C.at m) F):=fun h=>zu (Cx.d_ h) F F (Yv5 _)
  cases c with
  |fk ops=>
   have e:Zok ops C.call (dS C.call F) ro fr st=some o:=e
   show ∃N,Zok ops (C.at N) (dS (C.at N) F) ro fr st=some o
   unfold Zok at e ⊢
   split at e
   ·rename_i h1
    obtain⟨N,hN⟩:=TL _ _ _ h1
    exact⟨N,by rw[hN];exact e⟩
   ·cases e
  |eY ops ms=>
   have e:zn ops ms C.call (dS C.call F) ro fr st=some o:=e
   show ∃N,zn ops ms (C.at N) (dS (C.at N) F) ro fr st=some o
   unfold zn at e ⊢
   split at e
   ·rename_i h1
    obtain⟨N,hN⟩:=Zlu _ _ _ h1
    exact⟨N,by rw[hN];exact e⟩
   ·cases e
  |wW dst ch send zero ops=>
   have e:zo dst ch send zero ops C.call (dS C.call F) ro fr st=some o:=e
   show ∃N,zo dst ch send zero ops (C.at N) (dS (C.at N) F) ro fr st=some o
   unfold zo at e ⊢
   split at e
   ·split at e
    ·split at e
     ·split at e
      ·rename_i h1
       obtain⟨N,hN⟩:=TL _ _ _ h1
       exact⟨N,by rw[hN];exact e⟩
      ·cases e
     ·cases e
    ·cases e
   ·cases e
  |zim g ps x y=>
   have e:B6 g ps x y C.call (dS C.call F) ro fr st=some o:=e
   show ∃N,B6 g ps x y (C.at N) (dS (C.at N) F) ro fr st=some o
   unfold B6 at e ⊢
   split at e
   ·cases e
   ·split at e
    ·cases e
    ·rename_i hy
     simp only[hy]
     split at e
     ·cases e
     ·split at e
      ·cases e
      ·rename_i h1
       obtain⟨N,hN⟩:=Cx.fE.1 h1
       exact⟨N,by rw[hN];exact e⟩
  |skip=>exact⟨0,e⟩
  |exit id=>exact⟨0,e⟩
  |ret=>exact⟨0,e⟩
  |stop=>cases e
  |scope x=>exact ih _ _ _ _ e
  |cond x y z=>
   have e:xf x y z C.call (dS C.call F) ro fr st=some o:=e
   show ∃N,xf x y z (C.at N) (dS (C.at N) F) ro fr st=some o
   unfold xf at e ⊢
   split at e
   ·exact ih _ _ _ _ e
   ·exact ih _ _ _ _ e
   ·cases e
  |seq x y=>exact TK (a:=C.call) (q:=fun n=>dS (C.at n) F) (fun _ _ h=>up h) (fun _ _ _ _ _ e=>ih _ _ _ _ e) ro (.seq x y) fr st e
  |block id x=>exact TK (a:=C.call) (q:=fun n=>dS (C.at n) F) (fun _ _ h=>up h) (fun _ _ _ _ _ e=>ih _ _ _ _ e) ro (.block id x) fr st e
  |loop x=>exact TK (a:=C.call) (q:=fun n=>dS (C.at n) F) (fun _ _ h=>up h) (fun _ _ _ _ _ e=>ih _ _ _ _ e) ro (.loop x) fr st e
def Cx.pk{C:Cx}{ro c fr st r}(h:C.code ro c fr st=some r):∃N,dS (C.at N) N ro c fr st=some r:=by
 obtain⟨F,hF⟩:=Cx.fF.1 h
 obtain⟨N,hN⟩:=Zpq F _ _ _ _ hF
 exact⟨max F N,zu (Cx.d_ (BU F N)) _ _ (BY F N) _ _ _ _ _ hN⟩
def Zlc{dL:Nat->Option kp}{p:ph}{q:Nat->ph}(hq:∀n m,n<=m->Ec (q n) (q m))(hp:∀ro c fr st r,p ro c fr st=some r->∃n,q n ro c fr st=some r){g args st}{o:V×St}(e:xg dL p g args st=some o):∃n,xg dL (q n) g args st=some o:=by
 unfold xg at e ⊢
 split at e
 ·split at e
  ·rename_i mf _
   unfold B7 at e ⊢
   split at e
   ·cases e
   ·rename_i h0
    simp only[h0,if_false]
    cases h1:p none mf.body {r:=xY .nil 0 _,n:=mf.ntmps,marks:=[]} {st with w:=[]} with
    |none=>rw[h1]at e;cases e
    |some r=>
     rw[h1]at e
     obtain⟨n,hn⟩:=hp _ _ _ _ _ h1
     exact⟨n,by rw[hn];exact e⟩
  ·cases e
 ·unfold I8 at e ⊢
  split at e
  ·split at e
   ·cases e
   ·split at e
    ·rename_i h1
     obtain⟨n,hn⟩:=hp _ _ _ _ _ h1
     split at e
     ·split at e
      ·split at e
       ·rename_i h4 h5 _ _ _ _ h2
        obtain⟨m,hm⟩:=hp _ _ _ _ _ h2
        refine⟨max n m,?_⟩
        rw[hq n _ (BY n m) _ _ _ _ _ hn]
        simp only[h4,h5,if_true]
        rw[hq m _ (BU n m) _ _ _ _ _ hm]
        exact e
       ·cases e
      ·cases e
     ·cases e
    ·cases e
  ·cases e
 ·cases e
def Cx.qI{C:Cx}(g:V)(args:List V)(st:St):C.call g args st=rZ C.x (xg C.dL C.code) g args st:=by
 apply Yc6
 intro r
 constructor
 ·intro h
  obtain⟨N,hN⟩:=Cx.fE.1 h
  cases N with
  |zero=>
   have e:C.x g args st=some r:=hN
   unfold rZ;rw[e]
  |succ N=>
   refine Znp (x:=C.x) (Zg2 (p:=dS (x_ C.x C.dL (N+1) N) (N+1)) fun ro c fr st r e=>?_) _ _ _ _ hN
   refine Cx.fF.2 ⟨N+1,?_⟩
   refine zu (fun g args st r e=>?_) (N+1) (N+1) (Yv5 _) _ _ _ _ _ e
   exact Cx.fE.2 ⟨N+1,TJ (Yv5 _) N (N+1) (by omega) _ _ _ _ e⟩
 ·intro h
  unfold rZ at h
  split at h
  ·rename_i r' e
   simp only[au]at h
   subst h
   exact Cx.fE.2 ⟨0,e⟩
  ·rename_i hx
   obtain⟨N,hN⟩:=Zlc (q:=fun n=>dS (C.at n) n) (fun n m h=>zu (Cx.d_ h) n m h) (fun _ _ _ _ _ e=>Cx.pk e) h
   refine Cx.fE.2 ⟨N+1,?_⟩
   show rZ C.x (xg C.dL (dS (x_ C.x C.dL (N+1) N) (N+1))) g args st=some r
   unfold rZ
   rw[hx]
   exact Zg2 (zu (TJ (by omega) N N (Yv5 _)) N (N+1) (by omega)) _ _ _ _ hN
inductive Rs where
 |ex (e:Ex) (fr:Fr) (st:St)
 |val (v:V) (st:St)
 |ops (fr:Fr) (st:St)
 |qM (gI:List FP) (fr:Fr) (st:St)
inductive Kf where
 |seq (ro:Option Nat) (b:cC)
 |block (id:Nat)
 |loop (ro:Option Nat) (c:cC)
 |fk
 |put (d:Option Nat) (ops:List du) (fr:Fr)
 |eY (ms:List Nat)
 |uO (op:fZ) (d:Option Nat) (ops:List du) (fr:Fr) (n:Nat) (w:List Nat)
 |cons (fp:FP)
 |fin (rs:List Iw) (st:St)
def fx:Option (Ex×Fr×St)->Option Rs
 |some (e,fr,st)=>some (.ex e fr st)
 |none=>none
def rM:Option (V×St)->Option Rs
 |some (v,st)=>some (.val v st)
 |none=>none
def Bf:Option (Fr×St)->Option Rs
 |some (fr,st)=>some (.ops fr st)
 |none=>none
def zM:Option (List FP×Fr×St)->Option Rs
 |some (gI,fr,st)=>some (.qM gI fr st)
 |none=>none
def sE(C:Cx):Kf->Rs->Option Rs
 |.seq ro b,.ex .normal fr st=>fx (C.code ro b fr st)
 |.seq _ _,.ex e fr st=>some (.ex e fr st)
 |.block id,.ex (.exit id') fr st=>match Nat.beq id' id with
  |true=>some (.ex .normal fr st)
  |false=>some (.ex (.exit id') fr st)
 |.block _,.ex e fr st=>some (.ex e fr st)
 |.loop ro c,.ex .normal fr st=>fx (C.code ro (.loop c) fr st)
 |.loop _ _,.ex e fr st=>some (.ex e fr st)
 |.fk,.ops fr st=>some (.ex .normal fr st)
 |.put d ops fr,.val v st=>match fr.put d v with
  |some fr=>Bf (dH C.call ops fr st)
  |none=>none
 |.eY ms,.qM gI fr st=>match gY gI ms with
  |true=>some (.ex .normal fr st)
  |false=>none
 |.uO op d ops fr n w,.val v st'=>match fr.put d v with
  |some bL=>match bR C.call ops bL {st' with w:=aL n st'.w++w} with
   |some (gI,fr'',st'')=>some (.qM (Zcy fr.r op (aL n st'.w) n st'.n::gI) fr'' st'')
   |none=>none
  |none=>none
 |.cons fp,.qM gI fr st=>some (.qM (fp::gI) fr st)
 |.fin _ _,.ex (.exit _) _ _=>none
 |.fin rs OQ,.ex _ fr cj=>match shut cj fr.marks with
  |none=>none
  |some fh=>match gJ fr.r fh rs with
   |some vs=>some (.val (DS vs) {fh with w:=aL OQ.n fh.w++OQ.w})
   |none=>none
 |_,_=>none
def l9(C:Cx)(k:Kf):Option Rs->Option Rs
 |some r=>sE C k r
 |none=>none
def iV(C:Cx):List Kf->Option Rs->Option Rs
 |[],r=>r
 |k::K,r=>iV C K (l9 C k r)
def Zwi{C:Cx}:∀K,iV C K none=none
 |[]=>rfl
 |_::K=>Zwi K
structure Run (C:Cx) (K:List Kf) (r:Option Rs) (Q:Rs->Prop):Prop where
 ex:∃s,iV C K r=some s/\Q s
def iW{C:Cx}{K K':List Kf}{r r':Option Rs}{Q:Rs->Prop}(h:iV C K r=iV C K' r'):Run C K r Q↔Run C K' r' Q:=
 ⟨fun ⟨s,e,q⟩=>⟨s,h▸e,q⟩,fun ⟨s,e,q⟩=>⟨s,h.symm▸e,q⟩⟩
def Mk{C:Cx}{K:List Kf}{Q:Rs->Prop}:Run C K none Q↔False:=
 ⟨fun ⟨_,h,_⟩=>(by rw[Zwi]at h;cases h),fun h=>h.elim⟩
def Yme{C:Cx}{s:Rs}{Q:Rs->Prop}:Run C [] (some s) Q↔Q s:=
 ⟨fun ⟨_,h,q⟩=>by simp only[iV,au]at h;exact h▸q,fun q=>⟨s,rfl,q⟩⟩
structure Call (C:Cx) (g:V) (args:List V) (st:St) (P:V->St->Prop):Prop where
 ex:∃v st',C.call g args st=some (v,st')/\P v st'
structure Code (C:Cx) (ro:Option Nat) (c:cC) (fr:Fr) (st:St) (P:Ex->Fr->St->Prop):Prop where
 ex:∃e bL st',C.code ro c fr st=some (e,bL,st')/\P e bL st'
def Cv(P:V->St->Prop):Rs->Prop
 |.val v st=>P v st
 |_=>False
def exQ(P:Ex->Fr->St->Prop):Rs->Prop
 |.ex e fr st=>P e fr st
 |_=>False
def Ygx{P:V->St->Prop}{v st}:Cv P (.val v st)↔P v st:=Iff.rfl
def Yq9{P:Ex->Fr->St->Prop}{e fr st}:exQ P (.ex e fr st)↔P e fr st:=Iff.rfl
def aZ{C:Cx}{g args st P}:Call C g args st P↔Run C [] (rM (C.call g args st)) (Cv P):=by
 constructor
 ·rintro⟨v,st',h,p⟩
  exact⟨.val v st',by rw[h];rfl,p⟩
 ·rintro⟨s,h,q⟩
  cases hc:C.call g args st with
  |none=>rw[hc]at h;cases h
  |some r=>
   rw[hc]at h
   simp only[iV,rM,au]at h
   subst h
   exact⟨_,_,hc,q⟩
def cn{C:Cx}{ro c fr st P}:Code C ro c fr st P↔Run C [] (fx (C.code ro c fr st)) (exQ P):=by
 constructor
 ·rintro⟨e,bL,st',h,p⟩
  exact⟨.ex e bL st',by rw[h];rfl,p⟩
 ·rintro⟨s,h,q⟩
  cases hc:C.code ro c fr st with
  |none=>rw[hc]at h;cases h
  |some r=>
   rw[hc]at h
   simp only[iV,fx,au]at h
   subst h
   exact⟨_,_,_,hc,q⟩
def A6{C:Cx}{g args st P K Q}(h:Call C g args st P)(k:∀v st',P v st'->Run C K (some (.val v st')) Q):Run C K (rM (C.call g args st)) Q:=by
 obtain⟨v,st',e,p⟩:=h.ex
 rw[e]
 exact k v st' p
def nc{C:Cx}{ro c fr st P K Q}(h:Code C ro c fr st P)(k:∀e bL st',P e bL st'->Run C K (some (.ex e bL st')) Q):Run C K (fx (C.code ro c fr st)) Q:=by
 obtain⟨e,bL,st',h,p⟩:=h.ex
 rw[h]
 exact k e bL st' p
def Call.mono{C:Cx}{g args st}{P Q:V->St->Prop}(h:Call C g args st P)(k:∀v st',P v st'->Q v st'):Call C g args st Q:=by
 obtain⟨v,st',e,p⟩:=h.ex
 exact⟨v,st',e,k v st' p⟩
def Yqu(I:Nat->Fr->St->Prop)(k:Nat)(P:Ex->Fr->St->Prop):Ex->Fr->St->Prop
 |.normal,fr,st=>∃k',k'<k/\I k' fr st
 |e,fr,st=>P e fr st
def Code.loop{C:Cx}{ro c}{P:Ex->Fr->St->Prop}{I:Nat->Fr->St->Prop}(h:∀k fr st,I k fr st->Code C ro c fr st (Yqu I k P)):∀(k:Nat) (fr:Fr) (st:St),I k fr st->Code C ro (.loop c) fr st P:=by
 intro k
 induction k using Nat.strongRecOn with
 |_ k ih=>
  intro fr st hi
  obtain⟨e,bL,st',h1,p⟩:=(h k fr st hi).ex
  have e1:C.code ro (.loop c) fr st=Zi3 c C.call C.code ro fr st:=Cx.dJ ro (.loop c) fr st
  unfold Zi3 at e1
  rw[h1]at e1
  cases e with
  |normal=>
   obtain⟨k',hk,gZ⟩:=p
   obtain⟨e2,yc,fh,h2,p2⟩:=(ih k' hk bL st' gZ).ex
   exact⟨e2,yc,fh,e1.trans h2,p2⟩
  |exit id=>exact⟨_,_,_,e1,p⟩
  |ret=>exact⟨_,_,_,e1,p⟩
def Yhn{C:Cx}{ro c}{K:List Kf}{Q:Rs->Prop}{fr:Fr}{st:St}(P:Ex->Fr->St->Prop)(I:Nat->Fr->St->Prop)(k:Nat)(hi:I k fr st)(h:∀k fr st,I k fr st->Code C ro c fr st (Yqu I k P))(q:∀e bL st',P e bL st'->Run C K (some (.ex e bL st')) Q):Run C K (fx (C.code ro (.loop c) fr st)) Q:=
 nc (Code.loop h k fr st hi) q
section
variable {C:Cx} {K:List Kf} {Q:Rs->Prop} {ro:Option Nat} {a b c:cC} {fr:Fr} {st:St}
def Yhk:Run C K (fx (C.code ro .skip fr st)) Q↔Run C K (some (.ex .normal fr st)) Q:=iW (by rw[Cx.dJ];rfl)
def Ymd{ops}:Run C K (fx (C.code ro (.fk ops) fr st)) Q↔Run C (.fk::K) (Bf (dH C.call ops fr st)) Q:=iW (by
 rw[Cx.dJ]
 show iV C K (fx (Zok ops C.call C.code ro fr st))=iV C K (l9 C .fk (Bf (dH C.call ops fr st)))
 unfold Zok
 rcases dH C.call ops fr st with _|⟨_,_⟩<;>rfl)
def Yhm{ops ms}:Run C K (fx (C.code ro (.eY ops ms) fr st)) Q↔Run C (.eY ms::K) (zM (bR C.call ops fr st)) Q:=iW (by
 rw[Cx.dJ]
 show iV C K (fx (zn ops ms C.call C.code ro fr st))=iV C K (l9 C (.eY ms) (zM (bR C.call ops fr st)))
 unfold zn
 rcases bR C.call ops fr st with _|⟨gI,_,_⟩
 ·rfl
 ·simp only[zM,l9,sE]
  cases gY gI ms<;>rfl)
def Ymb:Run C K (fx (C.code ro (.seq a b) fr st)) Q↔Run C (.seq ro b::K) (fx (C.code ro a fr st)) Q:=iW (by
 rw[Cx.dJ]
 show iV C K (fx (AY a b C.call C.code ro fr st))=iV C K (l9 C (.seq ro b) (fx (C.code ro a fr st)))
 unfold AY
 rcases C.code ro a fr st with _|⟨e,_,_⟩
 ·rfl
 ·cases e<;>rfl)
def TM(C:Cx)(ro:Option Nat)(a b:cC)(fr:Fr)(st:St):Option V->Option Rs
 |some (.bool true)=>fx (C.code ro a fr st)
 |some (.bool false)=>fx (C.code ro b fr st)
 |_=>none
def Yhq{x}:Run C K (fx (C.code ro (.cond x a b) fr st)) Q↔Run C K (TM C ro a b fr st (x.ev fr.r)) Q:=iW (by
 rw[Cx.dJ]
 show iV C K (fx (xf x a b C.call C.code ro fr st))=_
 unfold xf TM
 rcases x.ev fr.r with _|v
 ·rfl
 ·cases v<;>try rfl
  rename_i b'
  cases b'<;>rfl)
def Ya8:TM C ro a b fr st (some (.bool true))=fx (C.code ro a fr st):=rfl
def Zvx:TM C ro a b fr st (some (.bool false))=fx (C.code ro b fr st):=rfl
def Ycm{id}:Run C K (fx (C.code ro (.block id a) fr st)) Q↔Run C (.block id::K) (fx (C.code ro a fr st)) Q:=iW (by
 rw[Cx.dJ]
 show iV C K (fx (AZ id a C.call C.code ro fr st))=iV C K (l9 C (.block id) (fx (C.code ro a fr st)))
 unfold AZ
 rcases C.code ro a fr st with _|⟨e,_,_⟩
 ·rfl
 ·cases e with
  |exit id'=>simp only[fx,l9,sE];cases Nat.beq id' id<;>rfl
  |_=>rfl)
def Yhp{id}:Run C K (fx (C.code ro (.exit id) fr st)) Q↔Run C K (some (.ex (.exit id) fr st)) Q:=iW (by rw[Cx.dJ];rfl)
def Ycl:Run C K (fx (C.code ro (.scope a) fr st)) Q↔Run C K (fx (C.code ro a fr st)) Q:=iW (by rw[Cx.dJ];rfl)
def Ymc:Run C K (fx (C.code ro .ret fr st)) Q↔Run C K (some (.ex .ret fr st)) Q:=iW (by rw[Cx.dJ];rfl)
def Zst:Run C (.seq ro b::K) (some (.ex .normal fr st)) Q↔Run C K (fx (C.code ro b fr st)) Q:=iW rfl
def Zz7{i}:Run C (.seq ro b::K) (some (.ex (.exit i) fr st)) Q↔Run C K (some (.ex (.exit i) fr st)) Q:=iW rfl
def Yer:Run C (.seq ro b::K) (some (.ex .ret fr st)) Q↔Run C K (some (.ex .ret fr st)) Q:=iW rfl
def Zo2{i}:Run C (.block i::K) (some (.ex .normal fr st)) Q↔Run C K (some (.ex .normal fr st)) Q:=iW rfl
def Zvk{i}:Run C (.block i::K) (some (.ex .ret fr st)) Q↔Run C K (some (.ex .ret fr st)) Q:=iW rfl
def Zsv{i}:Run C (.block i::K) (some (.ex (.exit i) fr st)) Q↔Run C K (some (.ex .normal fr st)) Q:=iW (by simp[iV,l9,sE,Nat.beq_refl])
def Zqz{i j}(h:Nat.beq j i=false):Run C (.block i::K) (some (.ex (.exit j) fr st)) Q↔Run C K (some (.ex (.exit j) fr st)) Q:=iW (by simp[iV,l9,sE,h])
def Ys8:Run C (.fk::K) (some (.ops fr st)) Q↔Run C K (some (.ex .normal fr st)) Q:=iW rfl
def Ymv:Bf (dH C.call [] fr st)=some (.ops fr st):=rfl
def opR(C:Cx)(K:List Kf)(Q:Rs->Prop)(d:Option Nat)(op:fZ)(ops:List du)(fr:Fr)(st:St):Option Bool->Prop
 |some true=>Run C (.put d ops fr::K) (rM (cJ op C.call fr.r st)) Q
 |some false=>Run C (.put d ops fr::K) (some (.val (.aX []) st)) Q
 |none=>False
def Yh5{d op g ops}:Run C K (Bf (dH C.call (⟨d,op,g⟩::ops) fr st)) Q↔opR C K Q d op ops fr st (bX fr.r g):=by
 have e:dH C.call (⟨d,op,g⟩::ops) fr st=AV C.call ⟨d,op,g⟩ (dH C.call ops) fr st:=rfl
 rw[e]
 unfold AV
 simp only[]
 rcases bX fr.r g with _|b
 ·exact Mk
 ·cases b
  ·show _↔Run C (.put d ops fr::K) (some (.val (.aX []) st)) Q
   refine iW ?_
   show _=iV C K (sE C (.put d ops fr) (.val (.aX []) st))
   simp only[sE]
   rcases fr.put d (.aX [])with _|_<;>rfl
  ·show _↔Run C (.put d ops fr::K) (rM (cJ op C.call fr.r st)) Q
   refine iW ?_
   show _=iV C K (l9 C (.put d ops fr) (rM (cJ op C.call fr.r st)))
   rcases cJ op C.call fr.r st with _|⟨v,st'⟩
   ·rfl
   ·simp only[rM,l9,sE]
    rcases fr.put d v with _|_<;>rfl
def Yia{d op ops}:opR C K Q d op ops fr st (some true)↔Run C (.put d ops fr::K) (rM (cJ op C.call fr.r st)) Q:=Iff.rfl
def Yda{d op ops}:opR C K Q d op ops fr st (some false)↔Run C (.put d ops fr::K) (some (.val (.aX []) st)) Q:=Iff.rfl
def Ybq{v:V}:rM (some (v,st))=some (.val v st):=rfl
def Ys9{d n m r ops v}(h:d<n):Run C (.put (some d) ops ⟨r,n,m⟩::K) (some (.val v st)) Q↔Run C K (Bf (dH C.call ops ⟨r.set d v,n,m⟩ st)) Q:=iW (by simp[iV,l9,sE,Fr.put,h])
def Zz8{ops v}:Run C (.put none ops fr::K) (some (.val v st)) Q↔Run C K (Bf (dH C.call ops fr st)) Q:=iW rfl
def Yh6:zM (bR C.call [] fr st)=some (.qM [] fr st):=rfl
def OR(C:Cx)(K:List Kf)(Q:Rs->Prop)(d:Option Nat)(op:fZ)(ops:List du)(fr:Fr)(h:T O)(n:Nat)(w:List Nat):Option Bool->Prop
 |some true=>Run C (.uO op d ops fr n w::K) (rM (cJ op C.call fr.r ⟨h,n,[]⟩)) Q
 |some false=>Run C (.cons ⟨some [],[],n,n⟩::K) (match fr.put d (.aX [])with|some bL=>zM (bR C.call ops bL ⟨h,n,w⟩)|none=>none) Q
 |none=>False
def Yc8{d op g ops h n w}:Run C K (zM (bR C.call (⟨d,op,g⟩::ops) fr ⟨h,n,w⟩)) Q↔OR C K Q d op ops fr h n w (bX fr.r g):=by
 have e:bR C.call (⟨d,op,g⟩::ops) fr ⟨h,n,w⟩=AW C.call ⟨d,op,g⟩ (bR C.call ops) fr ⟨h,n,w⟩:=rfl
 rw[e]
 unfold AW
 simp only[]
 rcases bX fr.r g with _|b
 ·exact Mk
 ·cases b
  ·show _↔Run C (.cons ⟨some [],[],n,n⟩::K) (match fr.put d (.aX [])with|some bL=>zM (bR C.call ops bL ⟨h,n,w⟩)|none=>none) Q
   refine iW ?_
   show _=iV C K (l9 C (.cons ⟨some [],[],n,n⟩) _)
   rcases fr.put d (.aX [])with _|bL
   ·rfl
   ·simp only[]
    rcases bR C.call ops bL ⟨h,n,w⟩with _|⟨_,_,_⟩<;>rfl
  ·show _↔Run C (.uO op d ops fr n w::K) (rM (cJ op C.call fr.r ⟨h,n,[]⟩)) Q
   refine iW ?_
   show _=iV C K (l9 C (.uO op d ops fr n w) (rM (cJ op C.call fr.r ⟨h,n,[]⟩)))
   rcases cJ op C.call fr.r ⟨h,n,[]⟩with _|⟨v,st'⟩
   ·rfl
   ·simp only[rM,l9,sE]
    rcases fr.put d v with _|bL
    ·rfl
    ·simp only[]
     rcases bR C.call ops bL {st' with w:=aL n st'.w++w} with _|⟨_,_,_⟩<;>rfl
def Ydb{d op ops h n w}:OR C K Q d op ops fr h n w (some true)↔Run C (.uO op d ops fr n w::K) (rM (cJ op C.call fr.r ⟨h,n,[]⟩)) Q:=Iff.rfl
def Zzf{d n m r ops op h N w}(hd:d<n):OR C K Q (some d) op ops ⟨r,n,m⟩ h N w (some false)↔Run C (.cons ⟨some [],[],N,N⟩::K) (zM (bR C.call ops ⟨r.set d (.aX []),n,m⟩ ⟨h,N,w⟩)) Q:=by simp[OR,Fr.put,hd]
def Zux{ops op h N w}:OR C K Q none op ops fr h N w (some false)↔Run C (.cons ⟨some [],[],N,N⟩::K) (zM (bR C.call ops fr ⟨h,N,w⟩)) Q:=Iff.rfl
def Yqy{op d n m r ops v N w h' n' w'}(h:d<n):Run C (.uO op (some d) ops ⟨r,n,m⟩ N w::K) (some (.val v ⟨h',n',w'⟩)) Q↔Run C (.cons (Zcy r op (aL N w') N n')::K) (zM (bR C.call ops ⟨r.set d v,n,m⟩ ⟨h',n',aL N w'++w⟩)) Q:=iW (by
 simp only[iV,l9,sE,Fr.put,h,if_true]
 rcases bR C.call ops _ _ with _|⟨_,_,_⟩<;>rfl)
def Zvj{op ops v N w h' n' w'}:Run C (.uO op none ops fr N w::K) (some (.val v ⟨h',n',w'⟩)) Q↔Run C (.cons (Zcy fr.r op (aL N w') N n')::K) (zM (bR C.call ops fr ⟨h',n',aL N w'++w⟩)) Q:=iW (by
 simp only[iV,l9,sE,Fr.put]
 rcases bR C.call ops _ _ with _|⟨_,_,_⟩<;>rfl)
def Yqz{fp gI}:Run C (.cons fp::K) (some (.qM gI fr st)) Q↔Run C K (some (.qM (fp::gI) fr st)) Q:=iW rfl
def Ny{ms gI}(h:gY gI ms=true):Run C (.eY ms::K) (some (.qM gI fr st)) Q↔Run C K (some (.ex .normal fr st)) Q:=iW (by simp only[iV,l9,sE,h])
def Yho{g first f_ args mf}(hx:C.x (.func g first f_) args st=none)(h:C.dL g=some mf)(hl:(first++args++f_).length<=mf.ntmps):Run C K (rM (C.call (.func g first f_) args st)) Q↔Run C (.fin mf.results st::K) (fx (C.code none mf.body ⟨xY .nil 0 (first++args++f_),mf.ntmps,[]⟩ ⟨st.h,st.n,[]⟩)) Q:=iW (by
 rw[Cx.qI]
 unfold rZ
 rw[hx]
 simp only[xg,h,B7,w_.2 hl,if_false]
 show _=iV C K (l9 C (.fin mf.results st) _)
 unfold Zvn
 rcases C.code none mf.body _ _ with _|⟨e,dP,cj⟩
 ·rfl
 ·cases e with
  |exit=>rfl
  |normal=>
   simp only[fx,l9,sE]
   rcases shut cj dP.marks with _|fh
   ·rfl
   ·simp only[]
    rcases gJ dP.r fh mf.results with _|_<;>rfl
  |ret=>
   simp only[fx,l9,sE]
   rcases shut cj dP.marks with _|fh
   ·rfl
   ·simp only[]
    rcases gJ dP.r fh mf.results with _|_<;>rfl)
def Ytc(h:T O)(n:Nat)(w:List Nat):Option (List V)->Option Rs
 |some vs=>some (.val (DS vs) ⟨h,n,w⟩)
 |none=>none
def Yfb{h n w vs}:Ytc h n w (some vs)=some (.val (DS vs) ⟨h,n,w⟩):=rfl
def Yes{rs r n h1 n1 w1}:Run C (.fin rs st::K) (some (.ex .ret ⟨r,n,[]⟩ ⟨h1,n1,w1⟩)) Q↔Run C K (Ytc h1 n1 (aL st.n w1++st.w) (gJ r ⟨h1,n1,w1⟩ rs)) Q:=iW (by
 simp only[iV,l9,sE,shut]
 rcases gJ r ⟨h1,n1,w1⟩ rs with _|_<;>rfl)
def Yet{rs r n h1 n1 w1}:Run C (.fin rs st::K) (some (.ex .normal ⟨r,n,[]⟩ ⟨h1,n1,w1⟩)) Q↔Run C K (Ytc h1 n1 (aL st.n w1++st.w) (gJ r ⟨h1,n1,w1⟩ rs)) Q:=iW (by
 simp only[iV,l9,sE,shut]
 rcases gJ r ⟨h1,n1,w1⟩ rs with _|_<;>rfl)
end
def Zvb(a):cJ (.lX a)=Ze9 a:=rfl
def Zsg(a b):cJ (.ji a b)=DL a b:=rfl
def Zsl(a):cJ (.nk a)=IT a:=rfl
def Zu8(a b):cJ (.fm a b)=LI a b:=rfl
def Ydy:cJ .vK=LJ:=rfl
def Zzn(a b):cJ (.qf a b)=DM a b:=rfl
def Zu7(a b c d e f):cJ (.jj a b c d e f)=B2 a b c d e f:=rfl
def Zsh(a b c):cJ (.cI a b c)=xW a b c:=rfl
def Zu5(a b c d e):cJ (.lY a b c d e)=qH a b c d e:=rfl
def Zsi(a b c d e f):cJ (.zgp a b c d e f)=zk a b c d e f:=rfl
def Zzs(a b c d e):cJ (.zgE a b c d e)=LK a b c d e:=rfl
def Zzr(a b):cJ (.bP a b)=DO a b:=rfl
def Zzp(a b c d e):cJ (.lookup a b c d e)=IX a b c d e:=rfl
def Zzo(a b c d):cJ (.uk a b c d)=DP a b c d:=rfl
def Zsj(a):cJ (.jl a)=IY a:=rfl
def Zu6(a):cJ (.qj a)=IZ a:=rfl
def Zzq(a):cJ (.nh a)=Oa a:=rfl
def Ync(a):cJ (.cap a)=LL a:=rfl
def Yqt(a):cJ (.mn a)=wU a:=rfl
def Yqs(a):cJ (.mx a)=o9 a:=rfl
def Zzu(a b c d e f):cJ (.append a b c d e f)=B4 a b c d e f:=rfl
def Yil(a b c):cJ (.copy a b c)=DQ a b c:=rfl
def Yd2(a b c):cJ (.clear a b c)=LM a b c:=rfl
def Ym8(a b):cJ (.Lu a b)=DR a b:=rfl
def Ydw(a):cJ (.y_ a)=LN a:=rfl
def Yii(a b c):cJ (.Is a b c)=LP a b c:=rfl
def Ynb(a b):cJ (.ext a b)=I3 a b:=rfl
def Yoc{ng k x y}:tC ng (.zgf k) x y=a_ ng k x y:=by cases x<;>cases y<;>rfl
attribute [simp] Yme Ygx Yq9 Yhk Ymd Yhm Ymb Yhq Ya8 Zvx Ycm Yhp Ycl Ymc Zst Zz7 Yer Zo2 Zvk Zsv Ys8 Ymv Yh5 Yia Yda Ybq Ys9 Zz8
 Yh6 Yc8 Ydb Zzf Zux Yqy Zvj Yqz Ny Yfb Yes Yet
 Zvb Zsg Zsl Zu8 Ydy Zzn Zu7 Zsh Zu5 Zsi Zzs Zzr Zzp Zzo Zsj Zu6 Zzq Ync Yqt Yqs Zzu Yil Yd2 Ym8 Ydw Yii Ynb Yoc
structure ah (h:T O) (n:Nat) (h':T O) (n':Nat):Prop where
 le:n<=n'
 get:∀i,i<n->h'.get i=h.get i
def ah.refl{h:T O}{n:Nat}:ah h n h n:=⟨Yv5 _,fun _ _=>rfl⟩
def ah.trans{h h1 h2:T O}{n n1 n2:Nat}(a:ah h n h1 n1)(b:ah h1 n1 h2 n2):ah h n h2 n2:=
 ⟨p9 a.le b.le,fun i hi=>(b.get i (iL hi a.le)).trans (a.get i hi)⟩
def ah.set{h h1:T O}{n n1:Nat}{i:Nat}{o:O}(hi:n<=i)(a:ah h n h1 n1):ah h n (h1.set i o) n1:=
 ⟨a.le,fun j hj=>by rw[T.al,aA (by omega)];exact a.get j hj⟩
def ah.up{h h1:T O}{n n1 n2:Nat}(a:ah h n h1 n1)(hn:n1<=n2):ah h n h1 n2:=⟨p9 a.le hn,a.get⟩
def Ret(P:V->T O->Nat->Prop)(h:T O)(n:Nat)(w:List Nat)(v:V)(st:St):Prop:=st.w=w/\ah h n st.h st.n/\P v st.h st.n
abbrev Fn(C:Cx)(f:Nat)(args:List V)(h:T O)(n:Nat)(P:V->T O->Nat->Prop):Prop:=∀w,Call C (.func f [] []) args ⟨h,n,w⟩ (Ret P h n w)
def av{C:Cx}{f args h n w P K Q}(hf:Fn C f args h n P)(k:∀v h' n',ah h n h' n'->P v h' n'->Run C K (some (.val v ⟨h',n',w⟩)) Q):Run C K (rM (C.call (.func f [] []) args ⟨h,n,w⟩)) Q:=
 A6 (hf w) fun v st'=>by
  obtain⟨h',n',w'⟩:=st'
  rintro⟨rfl,hk,hp⟩
  exact k v h' n' hk hp
def Zpl{N:Nat}:∀{w:List Nat},(∀i∈w,N<=i)->aL N w=[]
 |[],_=>rfl
 |i::w,h=>by
  have:=h i oV
  simp only[aL,w_.2 this,if_false]
  exact Zpl fun j hj=>h j (oY _ hj)
end
end Go.Mx
