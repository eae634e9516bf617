/-Runs without a count of steps-/
import Derived.Test.YtgnadghjglamaaaGreatDoorMxTab
set_option linter.all false
namespace Go.Mx
noncomputable section
open Go
def Le(a b:cM):Prop:=∀g args st r,a g args st=some r->b g args st=some r
def S6{a b:cM}(h:Le a b)(op:gF)(r:T V)(st:St){o:V×St}(e:cG op a r st=some o):cG op b r st=some o:=by
 cases op<;>try exact e
 rename_i f args
 show yt f args b r st=some o
 have e:yt f args a r st=some o:=e
 unfold yt at e ⊢
 split at e
 ·exact h _ _ _ _ e
 ·cases e
def OF{a b:cM}(h:Le a b):∀(ops:List dC) (fr:Fr) (st:St) {o:Fr×St},dG a ops fr st=some o->dG b ops fr st=some o
 |[],_,_,_,e=>e
 |q::ops,fr,st,o,e=>by
  have e:AS a q (dG a ops) fr st=some o:=e
  show AS b q (dG b ops) fr st=some o
  unfold AS at e ⊢
  split at e
  ·split at e
   ·rename_i v aB h1
    rw[S6 h _ _ _ h1]
    simp only[]
    split at e
    ·exact OF h ops _ _ e
    ·cases e
   ·cases e
  ·split at e
   ·exact OF h ops _ _ e
   ·cases e
  ·cases e
def S7{a b:cM}(h:Le a b):∀(ops:List dC) (fr:Fr) (st:St) {o:List FP×Fr×St},bQ a ops fr st=some o->bQ b ops fr st=some o
 |[],_,_,_,e=>e
 |q::ops,fr,st,o,e=>by
  have e:Bb a q (bQ a ops) fr st=some o:=e
  show Bb b q (bQ b ops) fr st=some o
  unfold Bb at e ⊢
  split at e
  ·split at e
   ·rename_i v aB h1
    rw[S6 h _ _ _ h1]
    simp only[]
    split at e
    ·split at e
     ·rename_i h2
      rw[S7 h ops _ _ h2]
      exact e
     ·cases e
    ·cases e
   ·cases e
  ·split at e
   ·split at e
    ·rename_i h2
     rw[S7 h ops _ _ h2]
     exact e
    ·cases e
   ·cases e
  ·cases e
def D7(a b:pF):Prop:=∀ro c fr st r,a ro c fr st=some r->b ro c fr st=some r
def Zkg{a b:cM}{p q:pF}(h:Le a b)(hc:D7 p q)(ro:Option Nat)(c:cF)(fr:Fr)(st:St){o:Ex×Fr×St}(e:mO c a p ro fr st=some o):mO c b q ro fr st=some o:=by
 cases c with
 |skip=>exact e
 |reg ops=>
  have e:zl ops a p ro fr st=some o:=e
  show zl ops b q ro fr st=some o
  unfold zl at e ⊢
  split at e
  ·rename_i h1;rw[OF h _ _ _ h1];exact e
  ·cases e
 |fT ops ms=>
  have e:zj ops ms a p ro fr st=some o:=e
  show zj ops ms b q ro fr st=some o
  unfold zj at e ⊢
  split at e
  ·rename_i h1;rw[S7 h _ _ _ h1];exact e
  ·cases e
 |xy dst ch send zero ops=>
  have e:zk dst ch send zero ops a p ro fr st=some o:=e
  show zk dst ch send zero ops b q ro fr st=some o
  unfold zk at e ⊢
  split at e
  ·split at e
   ·split at e
    ·split at e
     ·rename_i h1;rw[OF h _ _ _ h1];exact e
     ·cases e
    ·cases e
   ·cases e
  ·cases e
 |seq x y=>
  have e:AT x y a p ro fr st=some o:=e
  show AT x y b q ro fr st=some o
  unfold AT at e ⊢
  split at e
  ·rename_i h1;rw[hc _ _ _ _ _ h1];exact hc _ _ _ _ _ e
  ·rename_i h1
   have:=hc _ _ _ _ _ e
   rw[this]
   rcases o with⟨_|_|_,_,_⟩
   ·exact absurd e (h1 _ _)
   ·rfl
   ·rfl
 |cond x y z=>
  have e:xq x y z a p ro fr st=some o:=e
  show xq x y z b q ro fr st=some o
  unfold xq at e ⊢
  split at e
  ·exact hc _ _ _ _ _ e
  ·exact hc _ _ _ _ _ e
  ·cases e
 |block id x=>
  have e:AU id x a p ro fr st=some o:=e
  show AU id x b q ro fr st=some o
  unfold AU at e ⊢
  split at e
  ·rename_i h1;rw[hc _ _ _ _ _ h1];exact e
  ·rename_i h1
   have:=hc _ _ _ _ _ e
   rw[this]
   rcases o with⟨_|_|_,_,_⟩
   ·rfl
   ·exact absurd e (h1 _ _ _)
   ·rfl
 |loop x=>
  have e:AW x a p ro fr st=some o:=e
  show AW x b q ro fr st=some o
  unfold AW at e ⊢
  split at e
  ·rename_i h1;rw[hc _ _ _ _ _ h1];exact hc _ _ _ _ _ e
  ·rename_i h1
   have:=hc _ _ _ _ _ e
   rw[this]
   rcases o with⟨_|_|_,_,_⟩
   ·exact absurd e (h1 _ _)
   ·rfl
   ·rfl
 |qK g ps x y=>
  have e:BU g ps x y a p ro fr st=some o:=e
  show BU g ps x y b q ro fr st=some o
  unfold BU at e ⊢
  split at e
  ·cases e
  ·split at e
   ·cases e
   ·rename_i hy
    simp only[hy]
    split at e
    ·cases e
    ·split at e
     ·cases e
     ·rename_i h1;rw[h _ _ _ _ h1];exact e
 |exit id=>exact e
 |scope x=>exact hc _ _ _ _ _ e
 |ret=>exact e
 |stop=>exact e
def zR{a b:cM}(h:Le a b):∀(F F':Nat),F<=F'->D7 (dV a F) (dV b F')
 |0,_,_=>fun _ _ _ _ _ e=>by cases e
 |F+1,0,hF=>by omega
 |F+1,F'+1,hF=>fun ro c fr st _ e=>Zkg h (zR h F F' (by omega)) ro c fr st e
def Zrp{p q:pF}(h:D7 p q){mf:lC}{args:List V}{st:St}{o:V×St}(e:BY mf p args st=some o):BY mf q args st=some o:=by
 unfold BY at e ⊢
 split at e
 ·cases e
 ·rename_i h0
  rw[aA h0]
  cases h1:p none mf.body {r:=yg .nil 0 args,n:=mf.ntmps,marks:=[]} {st with w:=[]} with
  |none=>rw[h1]at e;cases e
  |some r=>rw[h1]at e;rw[h _ _ _ _ _ h1];exact e
def Zpl{p q:pF}(h:D7 p q){l:Nat}{args:List V}{st:St}{o:V×St}(e:II p l args st=some o):II q l args st=some o:=by
 unfold II at e ⊢
 split at e
 ·split at e
  ·cases e
  ·split at e
   ·rename_i h1
    rw[h _ _ _ _ _ h1]
    simp only[]
    split at e
    ·split at e
     ·rename_i hr
      rw[aQ hr]
      split at e
      ·rename_i h2
       rw[h _ _ _ _ _ h2]
       exact e
      ·cases e
     ·cases e
    ·cases e
   ·cases e
 ·cases e
def Zgm{dN:Nat->Option lC}{p q:pF}(h:D7 p q):Le (xw dN p) (xw dN q):=by
 intro g args st o e
 unfold xw at e ⊢
 split at e
 ·split at e
  ·exact Zrp h e
  ·cases e
 ·exact Zpl h e
 ·cases e
def Zmq{x a b:cM}(h:Le a b):Le (sY x a) (sY x b):=by
 intro g args st o e
 unfold sY at e ⊢
 split at e
 ·exact e
 ·exact h _ _ _ _ e
def S8{x:cM}{dN:Nat->Option lC}{F F':Nat}(hF:F<=F'):∀(d d':Nat),d<=d'->Le (yu x dN F d) (yu x dN F' d')
 |0,0,_=>fun _ _ _ _ e=>e
 |0,d'+1,_=>fun g args st o e=>by
  have e:x g args st=some o:=e
  show sY x _ g args st=some o
  unfold sY;rw[e]
 |d+1,0,h=>by omega
 |d+1,d'+1,h=>Zmq (Zgm (zR (S8 hF d d' (by omega)) F F' hF))
structure Cx where
 x:cM
 dN:Nat->Option lC
def Cx.at(C:Cx)(N:Nat):cM:=yu C.x C.dN N N
def Cx.d_{C:Cx}{N M:Nat}(h:N<=M):Le (C.at N) (C.at M):=S8 h N M h
open Classical in
def Cx.call(C:Cx):cM:=fun g args st=>if h:∃r N,C.at N g args st=some r then some h.choose else none
def Cx.fI{C:Cx}{g args st r}:C.call g args st=some r↔∃N,C.at N g args st=some r:=by
 unfold Cx.call
 constructor
 ·intro h
  split at h
  ·rename_i hc
   simp only[au]at h
   exact h▸hc.choose_spec
  ·cases h
 ·rintro⟨N,h⟩
  have hc:∃r N,C.at N g args st=some r:=⟨r,N,h⟩
  rw[dif_pos hc]
  obtain⟨M,hM⟩:=hc.choose_spec
  have h1:=Cx.d_ (B6 N M) _ _ _ _ h
  have h2:=Cx.d_ (B3 N M) _ _ _ _ hM
  rw[h1]at h2
  exact congrArg some (rY h2).symm
open Classical in
def Cx.code(C:Cx):pF:=fun ro c fr st=>if h:∃r F,dV C.call F ro c fr st=some r then some h.choose else none
def Cx.fJ{C:Cx}{ro c fr st r}:C.code ro c fr st=some r↔∃F,dV C.call F ro c fr st=some r:=by
 unfold Cx.code
 constructor
 ·intro h
  split at h
  ·rename_i hc
   simp only[au]at h
   exact h▸hc.choose_spec
  ·cases h
 ·rintro⟨N,h⟩
  have hc:∃r F,dV C.call F ro c fr st=some r:=⟨r,N,h⟩
  rw[dif_pos hc]
  obtain⟨M,hM⟩:=hc.choose_spec
  have h1:=zR (fun _ _ _ _ e=>e) N (max N M) (B6 N M) _ _ _ _ _ h
  have h2:=zR (fun _ _ _ _ e=>e) M (max N M) (B3 N M) _ _ _ _ _ hM
  rw[h1]at h2
  exact congrArg some (rY h2).symm
def Yas{α:Type}{a b:Option α}(h:∀r,a=some r↔b=some r):a=b:=by
 cases a with
 |none=>cases b with
  |none=>rfl
  |some r=>exact absurd ((h r).2 rfl) (by simp)
 |some r=>exact((h r).1 rfl).symm
def S9{a:cM}{p:pF}{q:Nat->pF}(hq:∀n m,n<=m->D7 (q n) (q m))(hp:∀ro c fr st r,p ro c fr st=some r->∃n,q n ro c fr st=some r)(ro:Option Nat)(c:cF)(fr:Fr)(st:St){o:Ex×Fr×St}(e:mO c a p ro fr st=some o):∃n,mO c a (q n) ro fr st=some o:=by
 cases c with
 |skip=>exact⟨0,e⟩
 |reg ops=>exact⟨0,e⟩
 |fT ops ms=>exact⟨0,e⟩
 |xy dst ch send zero ops=>exact⟨0,e⟩
 |seq x y=>
  have e:AT x y a p ro fr st=some o:=e
  show ∃n,AT x y a (q n) ro fr st=some o
  unfold AT at e ⊢
  split at e
  ·rename_i h1
   obtain⟨n,hn⟩:=hp _ _ _ _ _ h1
   obtain⟨m,hm⟩:=hp _ _ _ _ _ e
   refine⟨max n m,?_⟩
   rw[hq n _ (B6 n m) _ _ _ _ _ hn]
   exact hq m _ (B3 n m) _ _ _ _ _ hm
  ·rename_i h1
   obtain⟨n,hn⟩:=hp _ _ _ _ _ e
   refine⟨n,?_⟩
   rw[hn]
   rcases o with⟨_|_|_,_,_⟩
   ·exact absurd e (h1 _ _)
   ·rfl
   ·rfl
 |cond x y z=>
  have e:xq x y z a p ro fr st=some o:=e
  show ∃n,xq x y z a (q n) ro fr st=some o
  unfold xq at e ⊢
  split at e
  ·exact hp _ _ _ _ _ e
  ·exact hp _ _ _ _ _ e
  ·cases e
 |block id x=>
  have e:AU id x a p ro fr st=some o:=e
  show ∃n,AU id x a (q n) ro fr st=some o
  unfold AU at e ⊢
  split at e
  ·rename_i h1
   obtain⟨n,hn⟩:=hp _ _ _ _ _ h1
   exact⟨n,by rw[hn];exact e⟩
  ·rename_i h1
   obtain⟨n,hn⟩:=hp _ _ _ _ _ e
   refine⟨n,?_⟩
   rw[hn]
   rcases o with⟨_|_|_,_,_⟩
   ·rfl
   ·exact absurd e (h1 _ _ _)
   ·rfl
 |loop x=>
  have e:AW x a p ro fr st=some o:=e
  show ∃n,AW x a (q n) ro fr st=some o
  unfold AW at e ⊢
  split at e
  ·rename_i h1
   obtain⟨n,hn⟩:=hp _ _ _ _ _ h1
   obtain⟨m,hm⟩:=hp _ _ _ _ _ e
   refine⟨max n m,?_⟩
   rw[hq n _ (B6 n m) _ _ _ _ _ hn]
   exact hq m _ (B3 n m) _ _ _ _ _ hm
  ·rename_i h1
   obtain⟨n,hn⟩:=hp _ _ _ _ _ e
   refine⟨n,?_⟩
   rw[hn]
   rcases o with⟨_|_|_,_,_⟩
   ·exact absurd e (h1 _ _)
   ·rfl
   ·rfl
 |qK g ps x y=>exact⟨0,e⟩
 |exit id=>exact⟨0,e⟩
 |scope x=>exact hp _ _ _ _ _ e
 |ret=>exact⟨0,e⟩
 |stop=>exact⟨0,e⟩
def Cx.dL{C:Cx}(ro:Option Nat)(c:cF)(fr:Fr)(st:St):C.code ro c fr st=mO c C.call C.code ro fr st:=by
 apply Yas
 intro r
 constructor
 ·intro h
  obtain⟨F,hF⟩:=Cx.fJ.1 h
  cases F with
  |zero=>cases hF
  |succ F=>exact Zkg (fun _ _ _ _ e=>e) (fun ro c fr st r e=>Cx.fJ.2 ⟨F,e⟩) ro c fr st hF
 ·intro h
  obtain⟨n,hn⟩:=S9 (q:=dV C.call) (zR fun _ _ _ _ e=>e) (fun _ _ _ _ _ e=>Cx.fJ.1 e) ro c fr st h
  exact Cx.fJ.2 ⟨n+1,hn⟩
def Zvp{C:Cx}(op:gF)(r:T V)(st:St){o:V×St}(e:cG op C.call r st=some o):∃N,cG op (C.at N) r st=some o:=by
 cases op<;>try exact⟨0,e⟩
 rename_i f args
 have e:yt f args C.call r st=some o:=e
 show ∃N,yt f args (C.at N) r st=some o
 unfold yt at e ⊢
 split at e
 ·exact Cx.fI.1 e
 ·cases e
def Ta{C:Cx}:∀(ops:List dC) (fr:Fr) (st:St) {o:Fr×St},dG C.call ops fr st=some o->∃N,dG (C.at N) ops fr st=some o
 |[],_,_,_,e=>⟨0,e⟩
 |q::ops,fr,st,o,e=>by
  have e:AS C.call q (dG C.call ops) fr st=some o:=e
  show ∃N,AS (C.at N) q (dG (C.at N) ops) fr st=some o
  unfold AS at e ⊢
  split at e
  ·split at e
   ·rename_i v aB h1
    split at e
    ·obtain⟨N,hN⟩:=Zvp _ _ _ h1
     obtain⟨M,hM⟩:=Ta ops _ _ e
     refine⟨max N M,?_⟩
     rw[S6 (Cx.d_ (B6 N M)) _ _ _ hN]
     rename_i h3
     simp only[h3]
     exact OF (Cx.d_ (B3 N M)) _ _ _ hM
    ·cases e
   ·cases e
  ·split at e
   ·exact Ta ops _ _ e
   ·cases e
  ·cases e
def Zky{C:Cx}:∀(ops:List dC) (fr:Fr) (st:St) {o:List FP×Fr×St},bQ C.call ops fr st=some o->∃N,bQ (C.at N) ops fr st=some o
 |[],_,_,_,e=>⟨0,e⟩
 |q::ops,fr,st,o,e=>by
  have e:Bb C.call q (bQ C.call ops) fr st=some o:=e
  show ∃N,Bb (C.at N) q (bQ (C.at N) ops) fr st=some o
  unfold Bb at e ⊢
  split at e
  ·split at e
   ·rename_i v aB h1
    split at e
    ·rename_i h3
     split at e
     ·rename_i h2
      obtain⟨N,hN⟩:=Zvp _ _ _ h1
      obtain⟨M,hM⟩:=Zky ops _ _ h2
      refine⟨max N M,?_⟩
      rw[S6 (Cx.d_ (B6 N M)) _ _ _ hN]
      simp only[h3]
      rw[S7 (Cx.d_ (B3 N M)) _ _ _ hM]
      exact e
     ·cases e
    ·cases e
   ·cases e
  ·split at e
   ·split at e
    ·rename_i h2
     obtain⟨M,hM⟩:=Zky ops _ _ h2
     exact⟨M,by rw[hM];exact e⟩
    ·cases e
   ·cases e
  ·cases e
def Zot{C:Cx}:∀(F:Nat) (ro:Option Nat) (c:cF) (fr:Fr) (st:St) {o:Ex×Fr×St},dV C.call F ro c fr st=some o->∃N,dV (C.at N) F ro c fr st=some o
 |0,_,_,_,_,_,e=>by cases e
 |F+1,ro,c,fr,st,o,e=>by
  have e:mO c C.call (dV C.call F) ro fr st=some o:=e
  show ∃N,mO c (C.at N) (dV (C.at N) F) ro fr st=some o
  have ih:=@Zot C F
  have up:∀{n m:Nat},n<=m->D7 (dV (C.at n) F) (dV (C.at m) F):=fun h=>zR (Cx.d_ h) F F (aZ _)
  cases c with
  |reg ops=>
   have e:zl ops C.call (dV C.call F) ro fr st=some o:=e
   show ∃N,zl ops (C.at N) (dV (C.at N) F) ro fr st=some o
   unfold zl at e ⊢
   split at e
   ·rename_i h1
    obtain⟨N,hN⟩:=Ta _ _ _ h1
    exact⟨N,by rw[hN];exact e⟩
   ·cases e
  |fT ops ms=>
   have e:zj ops ms C.call (dV C.call F) ro fr st=some o:=e
   show ∃N,zj ops ms (C.at N) (dV (C.at N) F) ro fr st=some o
   unfold zj at e ⊢
   split at e
   ·rename_i h1
    obtain⟨N,hN⟩:=Zky _ _ _ h1
    exact⟨N,by rw[hN];exact e⟩
   ·cases e
  |xy dst ch send zero ops=>
   have e:zk dst ch send zero ops C.call (dV C.call F) ro fr st=some o:=e
   show ∃N,zk dst ch send zero ops (C.at N) (dV (C.at N) F) ro fr st=some o
   unfold zk at e ⊢
   split at e
   ·split at e
    ·split at e
     ·split at e
      ·rename_i h1
       obtain⟨N,hN⟩:=Ta _ _ _ h1
       exact⟨N,by rw[hN];exact e⟩
      ·cases e
     ·cases e
    ·cases e
   ·cases e
  |qK g ps x y=>
   have e:BU g ps x y C.call (dV C.call F) ro fr st=some o:=e
   show ∃N,BU g ps x y (C.at N) (dV (C.at N) F) ro fr st=some o
   unfold BU at e ⊢
   split at e
   ·cases e
   ·split at e
    ·cases e
    ·rename_i hy
     simp only[hy]
     split at e
     ·cases e
     ·split at e
      ·cases e
      ·rename_i h1
       obtain⟨N,hN⟩:=Cx.fI.1 h1
       exact⟨N,by rw[hN];exact e⟩
  |skip=>exact⟨0,e⟩
  |exit id=>exact⟨0,e⟩
  |ret=>exact⟨0,e⟩
  |stop=>cases e
  |scope x=>exact ih _ _ _ _ e
  |cond x y z=>
   have e:xq x y z C.call (dV C.call F) ro fr st=some o:=e
   show ∃N,xq x y z (C.at N) (dV (C.at N) F) ro fr st=some o
   unfold xq at e ⊢
   split at e
   ·exact ih _ _ _ _ e
   ·exact ih _ _ _ _ e
   ·cases e
  |seq x y=>exact S9 (a:=C.call) (q:=fun n=>dV (C.at n) F) (fun _ _ h=>up h) (fun _ _ _ _ _ e=>ih _ _ _ _ e) ro (.seq x y) fr st e
  |block id x=>exact S9 (a:=C.call) (q:=fun n=>dV (C.at n) F) (fun _ _ h=>up h) (fun _ _ _ _ _ e=>ih _ _ _ _ e) ro (.block id x) fr st e
  |loop x=>exact S9 (a:=C.call) (q:=fun n=>dV (C.at n) F) (fun _ _ h=>up h) (fun _ _ _ _ _ e=>ih _ _ _ _ e) ro (.loop x) fr st e
def Cx.pP{C:Cx}{ro c fr st r}(h:C.code ro c fr st=some r):∃N,dV (C.at N) N ro c fr st=some r:=by
 obtain⟨F,hF⟩:=Cx.fJ.1 h
 obtain⟨N,hN⟩:=Zot F _ _ _ _ hF
 exact⟨max F N,zR (Cx.d_ (B3 F N)) _ _ (B6 F N) _ _ _ _ _ hN⟩
def Zkj{dN:Nat->Option lC}{p:pF}{q:Nat->pF}(hq:∀n m,n<=m->D7 (q n) (q m))(hp:∀ro c fr st r,p ro c fr st=some r->∃n,q n ro c fr st=some r){g args st}{o:V×St}(e:xw dN p g args st=some o):∃n,xw dN (q n) g args st=some o:=by
 unfold xw at e ⊢
 split at e
 ·split at e
  ·rename_i mf _
   unfold BY at e ⊢
   split at e
   ·cases e
   ·rename_i h0
    simp only[h0,if_false]
    cases h1:p none mf.body {r:=yg .nil 0 _,n:=mf.ntmps,marks:=[]} {st with w:=[]} with
    |none=>rw[h1]at e;cases e
    |some r=>
     rw[h1]at e
     obtain⟨n,hn⟩:=hp _ _ _ _ _ h1
     exact⟨n,by rw[hn];exact e⟩
  ·cases e
 ·unfold II at e ⊢
  split at e
  ·split at e
   ·cases e
   ·split at e
    ·rename_i h1
     obtain⟨n,hn⟩:=hp _ _ _ _ _ h1
     split at e
     ·split at e
      ·split at e
       ·rename_i h4 h5 _ _ _ _ h2
        obtain⟨m,hm⟩:=hp _ _ _ _ _ h2
        refine⟨max n m,?_⟩
        rw[hq n _ (B6 n m) _ _ _ _ _ hn]
        simp only[h4,h5,if_true]
        rw[hq m _ (B3 n m) _ _ _ _ _ hm]
        exact e
       ·cases e
      ·cases e
     ·cases e
    ·cases e
  ·cases e
 ·cases e
def Cx.sL{C:Cx}(g:V)(args:List V)(st:St):C.call g args st=sY C.x (xw C.dN C.code) g args st:=by
 apply Yas
 intro r
 constructor
 ·intro h
  obtain⟨N,hN⟩:=Cx.fI.1 h
  cases N with
  |zero=>
   have e:C.x g args st=some r:=hN
   unfold sY;rw[e]
  |succ N=>
   refine Zmq (x:=C.x) (Zgm (p:=dV (yu C.x C.dN (N+1) N) (N+1)) fun ro c fr st r e=>?_) _ _ _ _ hN
   refine Cx.fJ.2 ⟨N+1,?_⟩
   refine zR (fun g args st r e=>?_) (N+1) (N+1) (aZ _) _ _ _ _ _ e
   exact Cx.fI.2 ⟨N+1,S8 (aZ _) N (N+1) (by omega) _ _ _ _ e⟩
 ·intro h
  unfold sY at h
  split at h
  ·rename_i r' e
   simp only[au]at h
   subst h
   exact Cx.fI.2 ⟨0,e⟩
  ·rename_i hx
   obtain⟨N,hN⟩:=Zkj (q:=fun n=>dV (C.at n) n) (fun n m h=>zR (Cx.d_ h) n m h) (fun _ _ _ _ _ e=>Cx.pP e) h
   refine Cx.fI.2 ⟨N+1,?_⟩
   show sY C.x (xw C.dN (dV (yu C.x C.dN (N+1) N) (N+1))) g args st=some r
   unfold sY
   rw[hx]
   exact Zgm (zR (S8 (by omega) N N (aZ _)) N (N+1) (by omega)) _ _ _ _ hN
inductive Rs where
 |ex (e:Ex) (fr:Fr) (st:St)
 |val (v:V) (st:St)
 |ops (fr:Fr) (st:St)
 |kI (iy:List FP) (fr:Fr) (st:St)
inductive Kf where
 |seq (ro:Option Nat) (b:cF)
 |block (id:Nat)
 |loop (ro:Option Nat) (c:cF)
 |reg
 |put (d:Option Nat) (ops:List dC) (fr:Fr)
 |fT (ms:List Nat)
 |vo (op:gF) (d:Option Nat) (ops:List dC) (fr:Fr) (n:Nat) (w:List Nat)
 |cons (fp:FP)
 |fin (rs:List IC) (st:St)
def fx:Option (Ex×Fr×St)->Option Rs
 |some (e,fr,st)=>some (.ex e fr st)
 |none=>none
def rZ:Option (V×St)->Option Rs
 |some (v,st)=>some (.val v st)
 |none=>none
def Bh:Option (Fr×St)->Option Rs
 |some (fr,st)=>some (.ops fr st)
 |none=>none
def zT:Option (List FP×Fr×St)->Option Rs
 |some (iy,fr,st)=>some (.kI iy fr st)
 |none=>none
def s_(C:Cx):Kf->Rs->Option Rs
 |.seq ro b,.ex .normal fr st=>fx (C.code ro b fr st)
 |.seq _ _,.ex e fr st=>some (.ex e fr st)
 |.block id,.ex (.exit AV) fr st=>match Nat.beq AV id with
  |true=>some (.ex .normal fr st)
  |false=>some (.ex (.exit AV) fr st)
 |.block _,.ex e fr st=>some (.ex e fr st)
 |.loop ro c,.ex .normal fr st=>fx (C.code ro (.loop c) fr st)
 |.loop _ _,.ex e fr st=>some (.ex e fr st)
 |.reg,.ops fr st=>some (.ex .normal fr st)
 |.put d ops fr,.val v st=>match fr.put d v with
  |some fr=>Bh (dG C.call ops fr st)
  |none=>none
 |.fT ms,.kI iy fr st=>match iG iy ms with
  |true=>some (.ex .normal fr st)
  |false=>none
 |.vo op d ops fr n w,.val v aB=>match fr.put d v with
  |some bG=>match bQ C.call ops bG {aB with w:=aD n aB.w++w} with
   |some (iy,fr'',st'')=>some (.kI (oU fr.r op (aD n aB.w) n aB.n::iy) fr'' st'')
   |none=>none
  |none=>none
 |.cons fp,.kI iy fr st=>some (.kI (fp::iy) fr st)
 |.fin _ _,.ex (.exit _) _ _=>none
 |.fin rs OG,.ex _ fr cr=>match shut cr fr.marks with
  |none=>none
  |some fi=>match ic fr.r fi rs with
   |some vs=>some (.val (Dx vs) {fi with w:=aD OG.n fi.w++OG.w})
   |none=>none
 |_,_=>none
def mT(C:Cx)(k:Kf):Option Rs->Option Rs
 |some r=>s_ C k r
 |none=>none
def jm(C:Cx):List Kf->Option Rs->Option Rs
 |[],r=>r
 |k::K,r=>jm C K (mT C k r)
def Zuw{C:Cx}:∀K,jm C K none=none
 |[]=>rfl
 |_::K=>Zuw K
structure bH (C:Cx) (K:List Kf) (r:Option Rs) (Q:Rs->Prop):Prop where
 ex:∃s,jm C K r=some s/\Q s
def jn{C:Cx}{K K':List Kf}{r r':Option Rs}{Q:Rs->Prop}(h:jm C K r=jm C K' r'):bH C K r Q↔bH C K' r' Q:=
 ⟨fun ⟨s,e,q⟩=>⟨s,h▸e,q⟩,fun ⟨s,e,q⟩=>⟨s,h.symm▸e,q⟩⟩
def Mb{C:Cx}{K:List Kf}{Q:Rs->Prop}:bH C K none Q↔False:=
 ⟨fun ⟨_,h,_⟩=>(by rw[Zuw]at h;cases h),fun h=>h.elim⟩
def Yi4{C:Cx}{s:Rs}{Q:Rs->Prop}:bH C [] (some s) Q↔Q s:=
 ⟨fun ⟨_,h,q⟩=>by simp only[jm,au]at h;exact h▸q,fun q=>⟨s,rfl,q⟩⟩
structure Call (C:Cx) (g:V) (args:List V) (st:St) (P:V->St->Prop):Prop where
 ex:∃v aB,C.call g args st=some (v,aB)/\P v aB
structure Code (C:Cx) (ro:Option Nat) (c:cF) (fr:Fr) (st:St) (P:Ex->Fr->St->Prop):Prop where
 ex:∃e bG aB,C.code ro c fr st=some (e,bG,aB)/\P e bG aB
def Co(P:V->St->Prop):Rs->Prop
 |.val v st=>P v st
 |_=>False
def exQ(P:Ex->Fr->St->Prop):Rs->Prop
 |.ex e fr st=>P e fr st
 |_=>False
def Yec{P:V->St->Prop}{v st}:Co P (.val v st)↔P v st:=Iff.rfl
def Ynb{P:Ex->Fr->St->Prop}{e fr st}:exQ P (.ex e fr st)↔P e fr st:=Iff.rfl
def aV{C:Cx}{g args st P}:Call C g args st P↔bH C [] (rZ (C.call g args st)) (Co P):=by
 constructor
 ·rintro⟨v,aB,h,p⟩
  exact⟨.val v aB,by rw[h];rfl,p⟩
 ·rintro⟨s,h,q⟩
  cases hc:C.call g args st with
  |none=>rw[hc]at h;cases h
  |some r=>
   rw[hc]at h
   simp only[jm,rZ,au]at h
   subst h
   exact⟨_,_,hc,q⟩
def dk{C:Cx}{ro c fr st P}:Code C ro c fr st P↔bH C [] (fx (C.code ro c fr st)) (exQ P):=by
 constructor
 ·rintro⟨e,bG,aB,h,p⟩
  exact⟨.ex e bG aB,by rw[h];rfl,p⟩
 ·rintro⟨s,h,q⟩
  cases hc:C.code ro c fr st with
  |none=>rw[hc]at h;cases h
  |some r=>
   rw[hc]at h
   simp only[jm,fx,au]at h
   subst h
   exact⟨_,_,_,hc,q⟩
def Bi{C:Cx}{g args st P K Q}(h:Call C g args st P)(k:∀v aB,P v aB->bH C K (some (.val v aB)) Q):bH C K (rZ (C.call g args st)) Q:=by
 obtain⟨v,aB,e,p⟩:=h.ex
 rw[e]
 exact k v aB p
def mJ{C:Cx}{ro c fr st P K Q}(h:Code C ro c fr st P)(k:∀e bG aB,P e bG aB->bH C K (some (.ex e bG aB)) Q):bH C K (fx (C.code ro c fr st)) Q:=by
 obtain⟨e,bG,aB,h,p⟩:=h.ex
 rw[h]
 exact k e bG aB p
def Call.mono{C:Cx}{g args st}{P Q:V->St->Prop}(h:Call C g args st P)(k:∀v aB,P v aB->Q v aB):Call C g args st Q:=by
 obtain⟨v,aB,e,p⟩:=h.ex
 exact⟨v,aB,e,k v aB p⟩
def Ymu(I:Nat->Fr->St->Prop)(k:Nat)(P:Ex->Fr->St->Prop):Ex->Fr->St->Prop
 |.normal,fr,st=>∃k',k'<k/\I k' fr st
 |e,fr,st=>P e fr st
def Code.loop{C:Cx}{ro c}{P:Ex->Fr->St->Prop}{I:Nat->Fr->St->Prop}(h:∀k fr st,I k fr st->Code C ro c fr st (Ymu I k P)):∀(k:Nat) (fr:Fr) (st:St),I k fr st->Code C ro (.loop c) fr st P:=by
 intro k
 induction k using Nat.strongRecOn with
 |_ k ih=>
  intro fr st hi
  obtain⟨e,bG,aB,h1,p⟩:=(h k fr st hi).ex
  have e1:C.code ro (.loop c) fr st=AW c C.call C.code ro fr st:=Cx.dL ro (.loop c) fr st
  unfold AW at e1
  rw[h1]at e1
  cases e with
  |normal=>
   obtain⟨k',hk,jx⟩:=p
   obtain⟨e2,yf,fi,h2,p2⟩:=(ih k' hk bG aB jx).ex
   exact⟨e2,yf,fi,e1.trans h2,p2⟩
  |exit id=>exact⟨_,_,_,e1,p⟩
  |ret=>exact⟨_,_,_,e1,p⟩
def Yex{C:Cx}{ro c}{K:List Kf}{Q:Rs->Prop}{fr:Fr}{st:St}(P:Ex->Fr->St->Prop)(I:Nat->Fr->St->Prop)(k:Nat)(hi:I k fr st)(h:∀k fr st,I k fr st->Code C ro c fr st (Ymu I k P))(q:∀e bG aB,P e bG aB->bH C K (some (.ex e bG aB)) Q):bH C K (fx (C.code ro (.loop c) fr st)) Q:=
 mJ (Code.loop h k fr st hi) q
section
variable {C:Cx} {K:List Kf} {Q:Rs->Prop} {ro:Option Nat} {a b c:cF} {fr:Fr} {st:St}
def Yeu:bH C K (fx (C.code ro .skip fr st)) Q↔bH C K (some (.ex .normal fr st)) Q:=jn (by rw[Cx.dL];rfl)
def Yi3{ops}:bH C K (fx (C.code ro (.reg ops) fr st)) Q↔bH C (.reg::K) (Bh (dG C.call ops fr st)) Q:=jn (by
 rw[Cx.dL]
 show jm C K (fx (zl ops C.call C.code ro fr st))=jm C K (mT C .reg (Bh (dG C.call ops fr st)))
 unfold zl
 rcases dG C.call ops fr st with _|⟨_,_⟩<;>rfl)
def Yew{ops ms}:bH C K (fx (C.code ro (.fT ops ms) fr st)) Q↔bH C (.fT ms::K) (zT (bQ C.call ops fr st)) Q:=jn (by
 rw[Cx.dL]
 show jm C K (fx (zj ops ms C.call C.code ro fr st))=jm C K (mT C (.fT ms) (zT (bQ C.call ops fr st)))
 unfold zj
 rcases bQ C.call ops fr st with _|⟨iy,_,_⟩
 ·rfl
 ·simp only[zT,mT,s_]
  cases iG iy ms<;>rfl)
def Yi1:bH C K (fx (C.code ro (.seq a b) fr st)) Q↔bH C (.seq ro b::K) (fx (C.code ro a fr st)) Q:=jn (by
 rw[Cx.dL]
 show jm C K (fx (AT a b C.call C.code ro fr st))=jm C K (mT C (.seq ro b) (fx (C.code ro a fr st)))
 unfold AT
 rcases C.code ro a fr st with _|⟨e,_,_⟩
 ·rfl
 ·cases e<;>rfl)
def Tb(C:Cx)(ro:Option Nat)(a b:cF)(fr:Fr)(st:St):Option V->Option Rs
 |some (.bool true)=>fx (C.code ro a fr st)
 |some (.bool false)=>fx (C.code ro b fr st)
 |_=>none
def Ye1{x}:bH C K (fx (C.code ro (.cond x a b) fr st)) Q↔bH C K (Tb C ro a b fr st (x.ev fr.r)) Q:=jn (by
 rw[Cx.dL]
 show jm C K (fx (xq x a b C.call C.code ro fr st))=_
 unfold xq Tb
 rcases x.ev fr.r with _|v
 ·rfl
 ·cases v<;>try rfl
  rename_i b'
  cases b'<;>rfl)
def Zy5:Tb C ro a b fr st (some (.bool true))=fx (C.code ro a fr st):=rfl
def Zuh:Tb C ro a b fr st (some (.bool false))=fx (C.code ro b fr st):=rfl
def Zz7{id}:bH C K (fx (C.code ro (.block id a) fr st)) Q↔bH C (.block id::K) (fx (C.code ro a fr st)) Q:=jn (by
 rw[Cx.dL]
 show jm C K (fx (AU id a C.call C.code ro fr st))=jm C K (mT C (.block id) (fx (C.code ro a fr st)))
 unfold AU
 rcases C.code ro a fr st with _|⟨e,_,_⟩
 ·rfl
 ·cases e with
  |exit AV=>simp only[fx,mT,s_];cases Nat.beq AV id<;>rfl
  |_=>rfl)
def Yez{id}:bH C K (fx (C.code ro (.exit id) fr st)) Q↔bH C K (some (.ex (.exit id) fr st)) Q:=jn (by rw[Cx.dL];rfl)
def Zz6:bH C K (fx (C.code ro (.scope a) fr st)) Q↔bH C K (fx (C.code ro a fr st)) Q:=jn (by rw[Cx.dL];rfl)
def Yi2:bH C K (fx (C.code ro .ret fr st)) Q↔bH C K (some (.ex .ret fr st)) Q:=jn (by rw[Cx.dL];rfl)
def Zrh:bH C (.seq ro b::K) (some (.ex .normal fr st)) Q↔bH C K (fx (C.code ro b fr st)) Q:=jn rfl
def Zx6{i}:bH C (.seq ro b::K) (some (.ex (.exit i) fr st)) Q↔bH C K (some (.ex (.exit i) fr st)) Q:=jn rfl
def Yb5:bH C (.seq ro b::K) (some (.ex .ret fr st)) Q↔bH C K (some (.ex .ret fr st)) Q:=jn rfl
def Zn4{i}:bH C (.block i::K) (some (.ex .normal fr st)) Q↔bH C K (some (.ex .normal fr st)) Q:=jn rfl
def Zt2{i}:bH C (.block i::K) (some (.ex .ret fr st)) Q↔bH C K (some (.ex .ret fr st)) Q:=jn rfl
def Zrj{i}:bH C (.block i::K) (some (.ex (.exit i) fr st)) Q↔bH C K (some (.ex .normal fr st)) Q:=jn (by simp[jm,mT,s_,Nat.beq_refl])
def Zpw{i j}(h:Nat.beq j i=false):bH C (.block i::K) (some (.ex (.exit j) fr st)) Q↔bH C K (some (.ex (.exit j) fr st)) Q:=jn (by simp[jm,mT,s_,h])
def Ypa:bH C (.reg::K) (some (.ops fr st)) Q↔bH C K (some (.ex .normal fr st)) Q:=jn rfl
def Yjl:Bh (dG C.call [] fr st)=some (.ops fr st):=rfl
def opR(C:Cx)(K:List Kf)(Q:Rs->Prop)(d:Option Nat)(op:gF)(ops:List dC)(fr:Fr)(st:St):Option Bool->Prop
 |some true=>bH C (.put d ops fr::K) (rZ (cG op C.call fr.r st)) Q
 |some false=>bH C (.put d ops fr::K) (some (.val (.aS []) st)) Q
 |none=>False
def Yfc{d op g ops}:bH C K (Bh (dG C.call (⟨d,op,g⟩::ops) fr st)) Q↔opR C K Q d op ops fr st (bW fr.r g):=by
 have e:dG C.call (⟨d,op,g⟩::ops) fr st=AS C.call ⟨d,op,g⟩ (dG C.call ops) fr st:=rfl
 rw[e]
 unfold AS
 simp only[]
 rcases bW fr.r g with _|b
 ·exact Mb
 ·cases b
  ·show _↔bH C (.put d ops fr::K) (some (.val (.aS []) st)) Q
   refine jn ?_
   show _=jm C K (s_ C (.put d ops fr) (.val (.aS []) st))
   simp only[s_]
   rcases fr.put d (.aS [])with _|_<;>rfl
  ·show _↔bH C (.put d ops fr::K) (rZ (cG op C.call fr.r st)) Q
   refine jn ?_
   show _=jm C K (mT C (.put d ops fr) (rZ (cG op C.call fr.r st)))
   rcases cG op C.call fr.r st with _|⟨v,aB⟩
   ·rfl
   ·simp only[rZ,mT,s_]
    rcases fr.put d v with _|_<;>rfl
def Yfh{d op ops}:opR C K Q d op ops fr st (some true)↔bH C (.put d ops fr::K) (rZ (cG op C.call fr.r st)) Q:=Iff.rfl
def Yaw{d op ops}:opR C K Q d op ops fr st (some false)↔bH C (.put d ops fr::K) (some (.val (.aS []) st)) Q:=Iff.rfl
def Zzl{v:V}:rZ (some (v,st))=some (.val v st):=rfl
def Ypb{d n m r ops v}(h:d<n):bH C (.put (some d) ops ⟨r,n,m⟩::K) (some (.val v st)) Q↔bH C K (Bh (dG C.call ops ⟨r.set d v,n,m⟩ st)) Q:=jn (by simp[jm,mT,s_,Fr.put,h])
def Zx7{ops v}:bH C (.put none ops fr::K) (some (.val v st)) Q↔bH C K (Bh (dG C.call ops fr st)) Q:=jn rfl
def Yfd:zT (bQ C.call [] fr st)=some (.kI [] fr st):=rfl
def OH(C:Cx)(K:List Kf)(Q:Rs->Prop)(d:Option Nat)(op:gF)(ops:List dC)(fr:Fr)(h:T O)(n:Nat)(w:List Nat):Option Bool->Prop
 |some true=>bH C (.vo op d ops fr n w::K) (rZ (cG op C.call fr.r ⟨h,n,[]⟩)) Q
 |some false=>bH C (.cons ⟨some [],[],n,n⟩::K) (match fr.put d (.aS [])with|some bG=>zT (bQ C.call ops bG ⟨h,n,w⟩)|none=>none) Q
 |none=>False
def Yau{d op g ops h n w}:bH C K (zT (bQ C.call (⟨d,op,g⟩::ops) fr ⟨h,n,w⟩)) Q↔OH C K Q d op ops fr h n w (bW fr.r g):=by
 have e:bQ C.call (⟨d,op,g⟩::ops) fr ⟨h,n,w⟩=Bb C.call ⟨d,op,g⟩ (bQ C.call ops) fr ⟨h,n,w⟩:=rfl
 rw[e]
 unfold Bb
 simp only[]
 rcases bW fr.r g with _|b
 ·exact Mb
 ·cases b
  ·show _↔bH C (.cons ⟨some [],[],n,n⟩::K) (match fr.put d (.aS [])with|some bG=>zT (bQ C.call ops bG ⟨h,n,w⟩)|none=>none) Q
   refine jn ?_
   show _=jm C K (mT C (.cons ⟨some [],[],n,n⟩) _)
   rcases fr.put d (.aS [])with _|bG
   ·rfl
   ·simp only[]
    rcases bQ C.call ops bG ⟨h,n,w⟩with _|⟨_,_,_⟩<;>rfl
  ·show _↔bH C (.vo op d ops fr n w::K) (rZ (cG op C.call fr.r ⟨h,n,[]⟩)) Q
   refine jn ?_
   show _=jm C K (mT C (.vo op d ops fr n w) (rZ (cG op C.call fr.r ⟨h,n,[]⟩)))
   rcases cG op C.call fr.r ⟨h,n,[]⟩with _|⟨v,aB⟩
   ·rfl
   ·simp only[rZ,mT,s_]
    rcases fr.put d v with _|bG
    ·rfl
    ·simp only[]
     rcases bQ C.call ops bG {aB with w:=aD n aB.w++w} with _|⟨_,_,_⟩<;>rfl
def Yax{d op ops h n w}:OH C K Q d op ops fr h n w (some true)↔bH C (.vo op d ops fr n w::K) (rZ (cG op C.call fr.r ⟨h,n,[]⟩)) Q:=Iff.rfl
def Zxf{d n m r ops op h N w}(hd:d<n):OH C K Q (some d) op ops ⟨r,n,m⟩ h N w (some false)↔bH C (.cons ⟨some [],[],N,N⟩::K) (zT (bQ C.call ops ⟨r.set d (.aS []),n,m⟩ ⟨h,N,w⟩)) Q:=by simp[OH,Fr.put,hd]
def Zth{ops op h N w}:OH C K Q none op ops fr h N w (some false)↔bH C (.cons ⟨some [],[],N,N⟩::K) (zT (bQ C.call ops fr ⟨h,N,w⟩)) Q:=Iff.rfl
def Ymx{op d n m r ops v N w h' n' w'}(h:d<n):bH C (.vo op (some d) ops ⟨r,n,m⟩ N w::K) (some (.val v ⟨h',n',w'⟩)) Q↔bH C (.cons (oU r op (aD N w') N n')::K) (zT (bQ C.call ops ⟨r.set d v,n,m⟩ ⟨h',n',aD N w'++w⟩)) Q:=jn (by
 simp only[jm,mT,s_,Fr.put,h,if_true]
 rcases bQ C.call ops _ _ with _|⟨_,_,_⟩<;>rfl)
def Zt1{op ops v N w h' n' w'}:bH C (.vo op none ops fr N w::K) (some (.val v ⟨h',n',w'⟩)) Q↔bH C (.cons (oU fr.r op (aD N w') N n')::K) (zT (bQ C.call ops fr ⟨h',n',aD N w'++w⟩)) Q:=jn (by
 simp only[jm,mT,s_,Fr.put]
 rcases bQ C.call ops _ _ with _|⟨_,_,_⟩<;>rfl)
def Ymy{fp iy}:bH C (.cons fp::K) (some (.kI iy fr st)) Q↔bH C K (some (.kI (fp::iy) fr st)) Q:=jn rfl
def NA{ms iy}(h:iG iy ms=true):bH C (.fT ms::K) (some (.kI iy fr st)) Q↔bH C K (some (.ex .normal fr st)) Q:=jn (by simp only[jm,mT,s_,h])
def Yey{g first gD args mf}(hx:C.x (.func g first gD) args st=none)(h:C.dN g=some mf)(hl:(first++args++gD).length<=mf.ntmps):bH C K (rZ (C.call (.func g first gD) args st)) Q↔bH C (.fin mf.results st::K) (fx (C.code none mf.body ⟨yg .nil 0 (first++args++gD),mf.ntmps,[]⟩ ⟨st.h,st.n,[]⟩)) Q:=jn (by
 rw[Cx.sL]
 unfold sY
 rw[hx]
 simp only[xw,h,BY,xC.2 hl,if_false]
 show _=jm C K (mT C (.fin mf.results st) _)
 unfold Zt5
 rcases C.code none mf.body _ _ with _|⟨e,dS,cr⟩
 ·rfl
 ·cases e with
  |exit=>rfl
  |normal=>
   simp only[fx,mT,s_]
   rcases shut cr dS.marks with _|fi
   ·rfl
   ·simp only[]
    rcases ic dS.r fi mf.results with _|_<;>rfl
  |ret=>
   simp only[fx,mT,s_]
   rcases shut cr dS.marks with _|fi
   ·rfl
   ·simp only[]
    rcases ic dS.r fi mf.results with _|_<;>rfl)
def Ype(h:T O)(n:Nat)(w:List Nat):Option (List V)->Option Rs
 |some vs=>some (.val (Dx vs) ⟨h,n,w⟩)
 |none=>none
def Yco{h n w vs}:Ype h n w (some vs)=some (.val (Dx vs) ⟨h,n,w⟩):=rfl
def Yb6{rs r n h1 n1 w1}:bH C (.fin rs st::K) (some (.ex .ret ⟨r,n,[]⟩ ⟨h1,n1,w1⟩)) Q↔bH C K (Ype h1 n1 (aD st.n w1++st.w) (ic r ⟨h1,n1,w1⟩ rs)) Q:=jn (by
 simp only[jm,mT,s_,shut]
 rcases ic r ⟨h1,n1,w1⟩ rs with _|_<;>rfl)
def Yb7{rs r n h1 n1 w1}:bH C (.fin rs st::K) (some (.ex .normal ⟨r,n,[]⟩ ⟨h1,n1,w1⟩)) Q↔bH C K (Ype h1 n1 (aD st.n w1++st.w) (ic r ⟨h1,n1,w1⟩ rs)) Q:=jn (by
 simp only[jm,mT,s_,shut]
 rcases ic r ⟨h1,n1,w1⟩ rs with _|_<;>rfl)
end
def Ztw(a):cG (.mQ a)=LN a:=rfl
def Zq3(a b):cG (.jF a b)=DP a b:=rfl
def Zq8(a):cG (.nW a)=I9 a:=rfl
def Ztt(a b):cG (.iH a b)=LP a b:=rfl
def Ybg:cG .yY=LQ:=rfl
def Zxn(a b):cG (.qH a b)=DQ a b:=rfl
def Zts(a b c d e f):cG (.jG a b c d e f)=Cb a b c d e f:=rfl
def Zq4(a b c):cG (.cH a b c)=yq a b c:=rfl
def Ztq(a b c d e):cG (.mR a b c d e)=qU a b c d e:=rfl
def Zq5(a b c d e f):cG (.jH a b c d e f)=zC a b c d e f:=rfl
def Zxs(a b c d e):cG (.qI a b c d e)=LR a b c d e:=rfl
def Zxr(a b):cG (.bO a b)=DS a b:=rfl
def Zxp(a b c d e):cG (.lookup a b c d e)=Jd a b c d e:=rfl
def Zxo(a b c d):cG (.uX a b c d)=DT a b c d:=rfl
def Zq6(a):cG (.jI a)=Je a:=rfl
def Ztr(a):cG (.qJ a)=Jf a:=rfl
def Zxq(a):cG (.nU a)=Oj a:=rfl
def Yj1(a):cG (.cap a)=LS a:=rfl
def Ymt(a):cG (.mn a)=yr a:=rfl
def Yms(a):cG (.mx a)=qV a:=rfl
def Zxu(a b c d e f):cG (.append a b c d e f)=Cd a b c d e f:=rfl
def Yfq(a b c):cG (.copy a b c)=DU a b c:=rfl
def Ybk(a b c):cG (.clear a b c)=LU a b c:=rfl
def Yjx(a b):cG (.LB a b)=Ce a b:=rfl
def Ybe(a):cG (.zr a)=LV a:=rfl
def Yfn(a b c):cG (.IM a b c)=LW a b c:=rfl
def Yj0(a b):cG (.ext a b)=Jh a b:=rfl
def Ykw{ng k x y}:oR ng (.dm k) x y=aL ng k x y:=by cases x<;>cases y<;>rfl
attribute [simp] Yi4 Yec Ynb Yeu Yi3 Yew Yi1 Ye1 Zy5 Zuh Zz7 Yez Zz6 Yi2 Zrh Zx6 Yb5 Zn4 Zt2 Zrj Ypa Yjl Yfc Yfh Yaw Zzl Ypb Zx7
 Yfd Yau Yax Zxf Zth Ymx Zt1 Ymy NA Yco Yb6 Yb7
 Ztw Zq3 Zq8 Ztt Ybg Zxn Zts Zq4 Ztq Zq5 Zxs Zxr Zxp Zxo Zq6 Ztr Zxq Yj1 Ymt Yms Zxu Yfq Ybk Yjx Ybe Yfn Yj0 Ykw
structure ae (h:T O) (n:Nat) (h':T O) (n':Nat):Prop where
 le:n<=n'
 get:∀i,i<n->h'.get i=h.get i
def ae.refl{h:T O}{n:Nat}:ae h n h n:=⟨aZ _,fun _ _=>rfl⟩
def ae.trans{h h1 h2:T O}{n n1 n2:Nat}(a:ae h n h1 n1)(b:ae h1 n1 h2 n2):ae h n h2 n2:=
 ⟨sF a.le b.le,fun i hi=>(b.get i (h_ hi a.le)).trans (a.get i hi)⟩
def ae.set{h h1:T O}{n n1:Nat}{i:Nat}{o:O}(hi:n<=i)(a:ae h n h1 n1):ae h n (h1.set i o) n1:=
 ⟨a.le,fun j hj=>by rw[T.aj,aA (by omega)];exact a.get j hj⟩
def ae.up{h h1:T O}{n n1 n2:Nat}(a:ae h n h1 n1)(hn:n1<=n2):ae h n h1 n2:=⟨sF a.le hn,a.get⟩
def aF(P:V->T O->Nat->Prop)(h:T O)(n:Nat)(w:List Nat)(v:V)(st:St):Prop:=st.w=w/\ae h n st.h st.n/\P v st.h st.n
abbrev Fn(C:Cx)(f:Nat)(args:List V)(h:T O)(n:Nat)(P:V->T O->Nat->Prop):Prop:=∀w,Call C (.func f [] []) args ⟨h,n,w⟩ (aF P h n w)
def az{C:Cx}{f args h n w P K Q}(hf:Fn C f args h n P)(k:∀v h' n',ae h n h' n'->P v h' n'->bH C K (some (.val v ⟨h',n',w⟩)) Q):bH C K (rZ (C.call (.func f [] []) args ⟨h,n,w⟩)) Q:=
 Bi (hf w) fun v aB=>by
  obtain⟨h',n',w'⟩:=aB
  rintro⟨rfl,hk,hp⟩
  exact k v h' n' hk hp
def Zoo{N:Nat}:∀{w:List Nat},(∀i∈w,N<=i)->aD N w=[]
 |[],_=>rfl
 |i::w,h=>by
  have:=h i oM
  simp only[aD,xC.2 this,if_false]
  exact Zoo fun j hj=>h j (mD _ hj)
end
end Go.Mx
