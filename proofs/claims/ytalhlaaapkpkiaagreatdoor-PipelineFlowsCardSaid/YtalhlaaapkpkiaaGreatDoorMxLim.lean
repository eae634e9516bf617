/-Runs without a count of steps-/
import Derived.Test.YtalhlaaapkpkiaaGreatDoorMxTab
set_option linter.all false
namespace Go.Mx
open Go
def Le(a b:Za1):Prop:=∀g args st r,a g args st=some r→b g args st=some r
def Zmb{a b:Za1}(h:Le a b)(op:MOp)(r:T V)(st:St){o:V×St}(e:mop op a r st=some o):mop op b r st=some o:=by
 cases op<;>try exact e
 rename_i f args
 show Zek f args b r st=some o
 have e:Zek f args a r st=some o:=e
 unfold Zek at e ⊢
 split at e
 ·exact h _ _ _ _ e
 ·cases e
def Zg8{a b:Za1}(h:Le a b):∀(ops:List Za9) (fr:Fr) (st:St) {o:Fr×St},mops a ops fr st=some o→mops b ops fr st=some o
 |[],_,_,_,e=>e
 |q::ops,fr,st,o,e=>by
  have e:Zib a q (mops a ops) fr st=some o:=e
  show Zib b q (mops b ops) fr st=some o
  unfold Zib at e ⊢
  split at e
  ·split at e
   ·rename_i v st' h1
    rw[Zmb h _ _ _ h1]
    simp only[]
    split at e
    ·exact Zg8 h ops _ _ e
    ·cases e
   ·cases e
  ·split at e
   ·exact Zg8 h ops _ _ e
   ·cases e
  ·cases e
def Zhy{a b:Za1}(h:Le a b):∀(ops:List Za9) (fr:Fr) (st:St) {o:List FP×Fr×St},mopsD a ops fr st=some o→mopsD b ops fr st=some o
 |[],_,_,_,e=>e
 |q::ops,fr,st,o,e=>by
  have e:Zfa a q (mopsD a ops) fr st=some o:=e
  show Zfa b q (mopsD b ops) fr st=some o
  unfold Zfa at e ⊢
  split at e
  ·split at e
   ·rename_i v st' h1
    rw[Zmb h _ _ _ h1]
    simp only[]
    split at e
    ·split at e
     ·rename_i h2
      rw[Zhy h ops _ _ h2]
      exact e
     ·cases e
    ·cases e
   ·cases e
  ·split at e
   ·split at e
    ·rename_i h2
     rw[Zhy h ops _ _ h2]
     exact e
    ·cases e
   ·cases e
  ·cases e
def LeC(a b:Zfv):Prop:=∀ro c fr st r,a ro c fr st=some r→b ro c fr st=some r
def Zkd{a b:Za1}{p q:Zfv}(h:Le a b)(hc:LeC p q)(ro:Option Nat)(c:Zav)(fr:Fr)(st:St){o:Ex×Fr×St}(e:Za6 c a p ro fr st=some o):Za6 c b q ro fr st=some o:=by
 cases c with
 |skip=>exact e
 |reg ops=>
  have e:Zn1 ops a p ro fr st=some o:=e
  show Zn1 ops b q ro fr st=some o
  unfold Zn1 at e ⊢
  split at e
  ·rename_i h1;rw[Zg8 h _ _ _ h1];exact e
  ·cases e
 |regD ops ms=>
  have e:Zhj ops ms a p ro fr st=some o:=e
  show Zhj ops ms b q ro fr st=some o
  unfold Zhj at e ⊢
  split at e
  ·rename_i h1;rw[Zhy h _ _ _ h1];exact e
  ·cases e
 |regS dst ch send zero ops=>
  have e:Zhi dst ch send zero ops a p ro fr st=some o:=e
  show Zhi dst ch send zero ops b q ro fr st=some o
  unfold Zhi at e ⊢
  split at e
  ·split at e
   ·split at e
    ·split at e
     ·rename_i h1;rw[Zg8 h _ _ _ h1];exact e
     ·cases e
    ·cases e
   ·cases e
  ·cases e
 |seq x y=>
  have e:Zoj x y a p ro fr st=some o:=e
  show Zoj x y b q ro fr st=some o
  unfold Zoj at e ⊢
  split at e
  ·rename_i h1;rw[hc _ _ _ _ _ h1];exact hc _ _ _ _ _ e
  ·rename_i h1
   have:=hc _ _ _ _ _ e
   rw[this]
   rcases o with⟨_|_|_,_,_⟩
   ·exact absurd e (h1 _ _)
   ·rfl
   ·rfl
 |cond x y z=>
  have e:Zfs x y z a p ro fr st=some o:=e
  show Zfs x y z b q ro fr st=some o
  unfold Zfs at e ⊢
  split at e
  ·exact hc _ _ _ _ _ e
  ·exact hc _ _ _ _ _ e
  ·cases e
 |block id x=>
  have e:Zfc id x a p ro fr st=some o:=e
  show Zfc id x b q ro fr st=some o
  unfold Zfc at e ⊢
  split at e
  ·rename_i h1;rw[hc _ _ _ _ _ h1];exact e
  ·rename_i h1
   have:=hc _ _ _ _ _ e
   rw[this]
   rcases o with⟨_|_|_,_,_⟩
   ·rfl
   ·exact absurd e (h1 _ _ _)
   ·rfl
 |loop x=>
  have e:Zid x a p ro fr st=some o:=e
  show Zid x b q ro fr st=some o
  unfold Zid at e ⊢
  split at e
  ·rename_i h1;rw[hc _ _ _ _ _ h1];exact hc _ _ _ _ _ e
  ·rename_i h1
   have:=hc _ _ _ _ _ e
   rw[this]
   rcases o with⟨_|_|_,_,_⟩
   ·exact absurd e (h1 _ _)
   ·rfl
   ·rfl
 |rangef g ps x y=>
  have e:Zes g ps x y a p ro fr st=some o:=e
  show Zes g ps x y b q ro fr st=some o
  unfold Zes at e ⊢
  split at e
  ·cases e
  ·split at e
   ·cases e
   ·rename_i hy
    simp only[hy]
    split at e
    ·cases e
    ·split at e
     ·cases e
     ·rename_i h1;rw[h _ _ _ _ h1];exact e
 |exit id=>exact e
 |scope x=>exact hc _ _ _ _ _ e
 |ret=>exact e
 |stop=>exact e
def Zb5{a b:Za1}(h:Le a b):∀(F F':Nat),F≤F'→LeC (Zbd a F) (Zbd b F')
 |0,_,_=>fun _ _ _ _ _ e=>by cases e
 |F+1,0,hF=>by omega
 |F+1,F'+1,hF=>fun ro c fr st _ e=>Zkd h (Zb5 h F F' (by omega)) ro c fr st e
def Zsc{p q:Zfv}(h:LeC p q){mf:Zei}{args:List V}{st:St}{o:V×St}(e:Zge mf p args st=some o):Zge mf q args st=some o:=by
 unfold Zge at e ⊢
 split at e
 ·cases e
 ·rename_i h0
  rw[Ys5 h0]
  cases h1:p none mf.body {r:=Zej .nil 0 args,n:=mf.ntmps,marks:=[]} {st with w:=[]} with
  |none=>rw[h1]at e;cases e
  |some r=>rw[h1]at e;rw[h _ _ _ _ _ h1];exact e
def Zp1{p q:Zfv}(h:LeC p q){l:Nat}{args:List V}{st:St}{o:V×St}(e:Zf6 p l args st=some o):Zf6 q l args st=some o:=by
 unfold Zf6 at e ⊢
 split at e
 ·split at e
  ·cases e
  ·split at e
   ·rename_i h1
    rw[h _ _ _ _ _ h1]
    simp only[]
    split at e
    ·split at e
     ·rename_i hr
      rw[Ys8 hr]
      split at e
      ·rename_i h2
       rw[h _ _ _ _ _ h2]
       exact e
      ·cases e
     ·cases e
    ·cases e
   ·cases e
 ·cases e
def Zgk{tbl:Nat→Option Zei}{p q:Zfv}(h:LeC p q):Le (Zcr tbl p) (Zcr tbl q):=by
 intro g args st o e
 unfold Zcr at e ⊢
 split at e
 ·split at e
  ·exact Zsc h e
  ·cases e
 ·exact Zp1 h e
 ·cases e
def Zm8{x a b:Za1}(h:Le a b):Le (Zee x a) (Zee x b):=by
 intro g args st o e
 unfold Zee at e ⊢
 split at e
 ·exact e
 ·exact h _ _ _ _ e
def Zgc{x:Za1}{tbl:Nat→Option Zei}{F F':Nat}(hF:F≤F'):∀(d d':Nat),d≤d'→Le (Zgq x tbl F d) (Zgq x tbl F' d')
 |0,0,_=>fun _ _ _ _ e=>e
 |0,d'+1,_=>fun g args st o e=>by
  have e:x g args st=some o:=e
  show Zee x _ g args st=some o
  unfold Zee;rw[e]
 |d+1,0,h=>by omega
 |d+1,d'+1,h=>Zm8 (Zgk (Zb5 (Zgc hF d d' (by omega)) F F' hF))
structure Cx where
 x:Za1
 tbl:Nat→Option Zei
def Cx.at(C:Cx)(N:Nat):Za1:=Zgq C.x C.tbl N N
def Cx.at_mono{C:Cx}{N M:Nat}(h:N≤M):Le (C.at N) (C.at M):=Zgc h N M h
open Classical in
noncomputable def Cx.call(C:Cx):Za1:=fun g args st=>if h:∃r N,C.at N g args st=some r then some h.choose else none
def Cx.call_iff{C:Cx}{g args st r}:C.call g args st=some r↔∃N,C.at N g args st=some r:=by
 unfold Cx.call
 constructor
 ·intro h
  split at h
  ·rename_i hc
   simp only[Ys3]at h
   exact h▸hc.choose_spec
  ·cases h
 ·rintro⟨N,h⟩
  have hc:∃r N,C.at N g args st=some r:=⟨r,N,h⟩
  rw[dif_pos hc]
  obtain⟨M,hM⟩:=hc.choose_spec
  have h1:=Cx.at_mono (Yv1 N M) _ _ _ _ h
  have h2:=Cx.at_mono (Yvu N M) _ _ _ _ hM
  rw[h1]at h2
  exact congrArg some (Ytz h2).symm
open Classical in
noncomputable def Cx.code(C:Cx):Zfv:=fun ro c fr st=>if h:∃r F,Zbd C.call F ro c fr st=some r then some h.choose else none
def Cx.code_iff{C:Cx}{ro c fr st r}:C.code ro c fr st=some r↔∃F,Zbd C.call F ro c fr st=some r:=by
 unfold Cx.code
 constructor
 ·intro h
  split at h
  ·rename_i hc
   simp only[Ys3]at h
   exact h▸hc.choose_spec
  ·cases h
 ·rintro⟨N,h⟩
  have hc:∃r F,Zbd C.call F ro c fr st=some r:=⟨r,N,h⟩
  rw[dif_pos hc]
  obtain⟨M,hM⟩:=hc.choose_spec
  have h1:=Zb5 (fun _ _ _ _ e=>e) N (max N M) (Yv1 N M) _ _ _ _ _ h
  have h2:=Zb5 (fun _ _ _ _ e=>e) M (max N M) (Yvu N M) _ _ _ _ _ hM
  rw[h1]at h2
  exact congrArg some (Ytz h2).symm
def Ybo{α:Type}{a b:Option α}(h:∀r,a=some r↔b=some r):a=b:=by
 cases a with
 |none=>cases b with
  |none=>rfl
  |some r=>exact absurd ((h r).2 rfl) (by simp)
 |some r=>exact((h r).1 rfl).symm
def Zer{a:Za1}{p:Zfv}{q:Nat→Zfv}(hq:∀n m,n≤m→LeC (q n) (q m))(hp:∀ro c fr st r,p ro c fr st=some r→∃n,q n ro c fr st=some r)(ro:Option Nat)(c:Zav)(fr:Fr)(st:St){o:Ex×Fr×St}(e:Za6 c a p ro fr st=some o):∃n,Za6 c a (q n) ro fr st=some o:=by
 cases c with
 |skip=>exact⟨0,e⟩
 |reg ops=>exact⟨0,e⟩
 |regD ops ms=>exact⟨0,e⟩
 |regS dst ch send zero ops=>exact⟨0,e⟩
 |seq x y=>
  have e:Zoj x y a p ro fr st=some o:=e
  show ∃n,Zoj x y a (q n) ro fr st=some o
  unfold Zoj at e ⊢
  split at e
  ·rename_i h1
   obtain⟨n,hn⟩:=hp _ _ _ _ _ h1
   obtain⟨m,hm⟩:=hp _ _ _ _ _ e
   refine⟨max n m,?_⟩
   rw[hq n _ (Yv1 n m) _ _ _ _ _ hn]
   exact hq m _ (Yvu n m) _ _ _ _ _ hm
  ·rename_i h1
   obtain⟨n,hn⟩:=hp _ _ _ _ _ e
   refine⟨n,?_⟩
   rw[hn]
   rcases o with⟨_|_|_,_,_⟩
   ·exact absurd e (h1 _ _)
   ·rfl
   ·rfl
 |cond x y z=>
  have e:Zfs x y z a p ro fr st=some o:=e
  show ∃n,Zfs x y z a (q n) ro fr st=some o
  unfold Zfs at e ⊢
  split at e
  ·exact hp _ _ _ _ _ e
  ·exact hp _ _ _ _ _ e
  ·cases e
 |block id x=>
  have e:Zfc id x a p ro fr st=some o:=e
  show ∃n,Zfc id x a (q n) ro fr st=some o
  unfold Zfc at e ⊢
  split at e
  ·rename_i h1
   obtain⟨n,hn⟩:=hp _ _ _ _ _ h1
   exact⟨n,by rw[hn];exact e⟩
  ·rename_i h1
   obtain⟨n,hn⟩:=hp _ _ _ _ _ e
   refine⟨n,?_⟩
   rw[hn]
   rcases o with⟨_|_|_,_,_⟩
   ·rfl
   ·exact absurd e (h1 _ _ _)
   ·rfl
 |loop x=>
  have e:Zid x a p ro fr st=some o:=e
  show ∃n,Zid x a (q n) ro fr st=some o
  unfold Zid at e ⊢
  split at e
  ·rename_i h1
   obtain⟨n,hn⟩:=hp _ _ _ _ _ h1
   obtain⟨m,hm⟩:=hp _ _ _ _ _ e
   refine⟨max n m,?_⟩
   rw[hq n _ (Yv1 n m) _ _ _ _ _ hn]
   exact hq m _ (Yvu n m) _ _ _ _ _ hm
  ·rename_i h1
   obtain⟨n,hn⟩:=hp _ _ _ _ _ e
   refine⟨n,?_⟩
   rw[hn]
   rcases o with⟨_|_|_,_,_⟩
   ·exact absurd e (h1 _ _)
   ·rfl
   ·rfl
 |rangef g ps x y=>exact⟨0,e⟩
 |exit id=>exact⟨0,e⟩
 |scope x=>exact hp _ _ _ _ _ e
 |ret=>exact⟨0,e⟩
 |stop=>exact⟨0,e⟩
def Cx.code_eq{C:Cx}(ro:Option Nat)(c:Zav)(fr:Fr)(st:St):C.code ro c fr st=Za6 c C.call C.code ro fr st:=by
 apply Ybo
 intro r
 constructor
 ·intro h
  obtain⟨F,hF⟩:=Cx.code_iff.1 h
  cases F with
  |zero=>cases hF
  |succ F=>exact Zkd (fun _ _ _ _ e=>e) (fun ro c fr st r e=>Cx.code_iff.2 ⟨F,e⟩) ro c fr st hF
 ·intro h
  obtain⟨n,hn⟩:=Zer (q:=Zbd C.call) (Zb5 fun _ _ _ _ e=>e) (fun _ _ _ _ _ e=>Cx.code_iff.1 e) ro c fr st h
  exact Cx.code_iff.2 ⟨n+1,hn⟩
def Zwi{C:Cx}(op:MOp)(r:T V)(st:St){o:V×St}(e:mop op C.call r st=some o):∃N,mop op (C.at N) r st=some o:=by
 cases op<;>try exact⟨0,e⟩
 rename_i f args
 have e:Zek f args C.call r st=some o:=e
 show ∃N,Zek f args (C.at N) r st=some o
 unfold Zek at e ⊢
 split at e
 ·exact Cx.call_iff.1 e
 ·cases e
def Zjw{C:Cx}:∀(ops:List Za9) (fr:Fr) (st:St) {o:Fr×St},mops C.call ops fr st=some o→∃N,mops (C.at N) ops fr st=some o
 |[],_,_,_,e=>⟨0,e⟩
 |q::ops,fr,st,o,e=>by
  have e:Zib C.call q (mops C.call ops) fr st=some o:=e
  show ∃N,Zib (C.at N) q (mops (C.at N) ops) fr st=some o
  unfold Zib at e ⊢
  split at e
  ·split at e
   ·rename_i v st' h1
    split at e
    ·obtain⟨N,hN⟩:=Zwi _ _ _ h1
     obtain⟨M,hM⟩:=Zjw ops _ _ e
     refine⟨max N M,?_⟩
     rw[Zmb (Cx.at_mono (Yv1 N M)) _ _ _ hN]
     rename_i h3
     simp only[h3]
     exact Zg8 (Cx.at_mono (Yvu N M)) _ _ _ hM
    ·cases e
   ·cases e
  ·split at e
   ·exact Zjw ops _ _ e
   ·cases e
  ·cases e
def Zky{C:Cx}:∀(ops:List Za9) (fr:Fr) (st:St) {o:List FP×Fr×St},mopsD C.call ops fr st=some o→∃N,mopsD (C.at N) ops fr st=some o
 |[],_,_,_,e=>⟨0,e⟩
 |q::ops,fr,st,o,e=>by
  have e:Zfa C.call q (mopsD C.call ops) fr st=some o:=e
  show ∃N,Zfa (C.at N) q (mopsD (C.at N) ops) fr st=some o
  unfold Zfa at e ⊢
  split at e
  ·split at e
   ·rename_i v st' h1
    split at e
    ·rename_i h3
     split at e
     ·rename_i h2
      obtain⟨N,hN⟩:=Zwi _ _ _ h1
      obtain⟨M,hM⟩:=Zky ops _ _ h2
      refine⟨max N M,?_⟩
      rw[Zmb (Cx.at_mono (Yv1 N M)) _ _ _ hN]
      simp only[h3]
      rw[Zhy (Cx.at_mono (Yvu N M)) _ _ _ hM]
      exact e
     ·cases e
    ·cases e
   ·cases e
  ·split at e
   ·split at e
    ·rename_i h2
     obtain⟨M,hM⟩:=Zky ops _ _ h2
     exact⟨M,by rw[hM];exact e⟩
    ·cases e
   ·cases e
  ·cases e
def Zo8{C:Cx}:∀(F:Nat) (ro:Option Nat) (c:Zav) (fr:Fr) (st:St) {o:Ex×Fr×St},Zbd C.call F ro c fr st=some o→∃N,Zbd (C.at N) F ro c fr st=some o
 |0,_,_,_,_,_,e=>by cases e
 |F+1,ro,c,fr,st,o,e=>by
  have e:Za6 c C.call (Zbd C.call F) ro fr st=some o:=e
  show ∃N,Za6 c (C.at N) (Zbd (C.at N) F) ro fr st=some o
  have ih:=@Zo8 C F
  have up:∀{n m:Nat},n≤m→LeC (Zbd (C.at n) F) (Zbd (C.at m) F):=fun h=>Zb5 (Cx.at_mono h) F F (Ys6 _)
  cases c with
  |reg ops=>
   have e:Zn1 ops C.call (Zbd C.call F) ro fr st=some o:=e
   show ∃N,Zn1 ops (C.at N) (Zbd (C.at N) F) ro fr st=some o
   unfold Zn1 at e ⊢
   split at e
   ·rename_i h1
    obtain⟨N,hN⟩:=Zjw _ _ _ h1
    exact⟨N,by rw[hN];exact e⟩
   ·cases e
  |regD ops ms=>
   have e:Zhj ops ms C.call (Zbd C.call F) ro fr st=some o:=e
   show ∃N,Zhj ops ms (C.at N) (Zbd (C.at N) F) ro fr st=some o
   unfold Zhj at e ⊢
   split at e
   ·rename_i h1
    obtain⟨N,hN⟩:=Zky _ _ _ h1
    exact⟨N,by rw[hN];exact e⟩
   ·cases e
  |regS dst ch send zero ops=>
   have e:Zhi dst ch send zero ops C.call (Zbd C.call F) ro fr st=some o:=e
   show ∃N,Zhi dst ch send zero ops (C.at N) (Zbd (C.at N) F) ro fr st=some o
   unfold Zhi at e ⊢
   split at e
   ·split at e
    ·split at e
     ·split at e
      ·rename_i h1
       obtain⟨N,hN⟩:=Zjw _ _ _ h1
       exact⟨N,by rw[hN];exact e⟩
      ·cases e
     ·cases e
    ·cases e
   ·cases e
  |rangef g ps x y=>
   have e:Zes g ps x y C.call (Zbd C.call F) ro fr st=some o:=e
   show ∃N,Zes g ps x y (C.at N) (Zbd (C.at N) F) ro fr st=some o
   unfold Zes at e ⊢
   split at e
   ·cases e
   ·split at e
    ·cases e
    ·rename_i hy
     simp only[hy]
     split at e
     ·cases e
     ·split at e
      ·cases e
      ·rename_i h1
       obtain⟨N,hN⟩:=Cx.call_iff.1 h1
       exact⟨N,by rw[hN];exact e⟩
  |skip=>exact⟨0,e⟩
  |exit id=>exact⟨0,e⟩
  |ret=>exact⟨0,e⟩
  |stop=>cases e
  |scope x=>exact ih _ _ _ _ e
  |cond x y z=>
   have e:Zfs x y z C.call (Zbd C.call F) ro fr st=some o:=e
   show ∃N,Zfs x y z (C.at N) (Zbd (C.at N) F) ro fr st=some o
   unfold Zfs at e ⊢
   split at e
   ·exact ih _ _ _ _ e
   ·exact ih _ _ _ _ e
   ·cases e
  |seq x y=>exact Zer (a:=C.call) (q:=fun n=>Zbd (C.at n) F) (fun _ _ h=>up h) (fun _ _ _ _ _ e=>ih _ _ _ _ e) ro (.seq x y) fr st e
  |block id x=>exact Zer (a:=C.call) (q:=fun n=>Zbd (C.at n) F) (fun _ _ h=>up h) (fun _ _ _ _ _ e=>ih _ _ _ _ e) ro (.block id x) fr st e
  |loop x=>exact Zer (a:=C.call) (q:=fun n=>Zbd (C.at n) F) (fun _ _ h=>up h) (fun _ _ _ _ _ e=>ih _ _ _ _ e) ro (.loop x) fr st e
def Cx.code_need{C:Cx}{ro c fr st r}(h:C.code ro c fr st=some r):∃N,Zbd (C.at N) N ro c fr st=some r:=by
 obtain⟨F,hF⟩:=Cx.code_iff.1 h
 obtain⟨N,hN⟩:=Zo8 F _ _ _ _ hF
 exact⟨max F N,Zb5 (Cx.at_mono (Yvu F N)) _ _ (Yv1 F N) _ _ _ _ _ hN⟩
def Zkg{tbl:Nat→Option Zei}{p:Zfv}{q:Nat→Zfv}(hq:∀n m,n≤m→LeC (q n) (q m))(hp:∀ro c fr st r,p ro c fr st=some r→∃n,q n ro c fr st=some r){g args st}{o:V×St}(e:Zcr tbl p g args st=some o):∃n,Zcr tbl (q n) g args st=some o:=by
 unfold Zcr at e ⊢
 split at e
 ·split at e
  ·rename_i mf _
   unfold Zge at e ⊢
   split at e
   ·cases e
   ·rename_i h0
    simp only[h0,if_false]
    cases h1:p none mf.body {r:=Zej .nil 0 _,n:=mf.ntmps,marks:=[]} {st with w:=[]} with
    |none=>rw[h1]at e;cases e
    |some r=>
     rw[h1]at e
     obtain⟨n,hn⟩:=hp _ _ _ _ _ h1
     exact⟨n,by rw[hn];exact e⟩
  ·cases e
 ·unfold Zf6 at e ⊢
  split at e
  ·split at e
   ·cases e
   ·split at e
    ·rename_i h1
     obtain⟨n,hn⟩:=hp _ _ _ _ _ h1
     split at e
     ·split at e
      ·split at e
       ·rename_i h4 h5 _ _ _ _ h2
        obtain⟨m,hm⟩:=hp _ _ _ _ _ h2
        refine⟨max n m,?_⟩
        rw[hq n _ (Yv1 n m) _ _ _ _ _ hn]
        simp only[h4,h5,if_true]
        rw[hq m _ (Yvu n m) _ _ _ _ _ hm]
        exact e
       ·cases e
      ·cases e
     ·cases e
    ·cases e
  ·cases e
 ·cases e
def Cx.call_eq{C:Cx}(g:V)(args:List V)(st:St):C.call g args st=Zee C.x (Zcr C.tbl C.code) g args st:=by
 apply Ybo
 intro r
 constructor
 ·intro h
  obtain⟨N,hN⟩:=Cx.call_iff.1 h
  cases N with
  |zero=>
   have e:C.x g args st=some r:=hN
   unfold Zee;rw[e]
  |succ N=>
   refine Zm8 (x:=C.x) (Zgk (p:=Zbd (Zgq C.x C.tbl (N+1) N) (N+1)) fun ro c fr st r e=>?_) _ _ _ _ hN
   refine Cx.code_iff.2 ⟨N+1,?_⟩
   refine Zb5 (fun g args st r e=>?_) (N+1) (N+1) (Ys6 _) _ _ _ _ _ e
   exact Cx.call_iff.2 ⟨N+1,Zgc (Ys6 _) N (N+1) (by omega) _ _ _ _ e⟩
 ·intro h
  unfold Zee at h
  split at h
  ·rename_i r' e
   simp only[Ys3]at h
   subst h
   exact Cx.call_iff.2 ⟨0,e⟩
  ·rename_i hx
   obtain⟨N,hN⟩:=Zkg (q:=fun n=>Zbd (C.at n) n) (fun n m h=>Zb5 (Cx.at_mono h) n m h) (fun _ _ _ _ _ e=>Cx.code_need e) h
   refine Cx.call_iff.2 ⟨N+1,?_⟩
   show Zee C.x (Zcr C.tbl (Zbd (Zgq C.x C.tbl (N+1) N) (N+1))) g args st=some r
   unfold Zee
   rw[hx]
   exact Zgk (Zb5 (Zgc (by omega) N N (Ys6 _)) N (N+1) (by omega)) _ _ _ _ hN
inductive Rs where
 |ex (e:Ex) (fr:Fr) (st:St)
 |val (v:V) (st:St)
 |ops (fr:Fr) (st:St)
 |opsD (fps:List FP) (fr:Fr) (st:St)
inductive Kf where
 |seq (ro:Option Nat) (b:Zav)
 |block (id:Nat)
 |loop (ro:Option Nat) (c:Zav)
 |reg
 |put (d:Option Nat) (ops:List Za9) (fr:Fr)
 |regD (ms:List Nat)
 |putD (op:MOp) (d:Option Nat) (ops:List Za9) (fr:Fr) (n:Nat) (w:List Nat)
 |cons (fp:FP)
 |fin (rs:List Ym6) (st:St)
def exR:Option (Ex×Fr×St)→Option Rs
 |some (e,fr,st)=>some (.ex e fr st)
 |none=>none
def Zqw:Option (V×St)→Option Rs
 |some (v,st)=>some (.val v st)
 |none=>none
def Yev:Option (Fr×St)→Option Rs
 |some (fr,st)=>some (.ops fr st)
 |none=>none
def Zm9:Option (List FP×Fr×St)→Option Rs
 |some (fps,fr,st)=>some (.opsD fps fr st)
 |none=>none
noncomputable def Zgx(C:Cx):Kf→Rs→Option Rs
 |.seq ro b,.ex .normal fr st=>exR (C.code ro b fr st)
 |.seq _ _,.ex e fr st=>some (.ex e fr st)
 |.block id,.ex (.exit id') fr st=>match Nat.beq id' id with
  |true=>some (.ex .normal fr st)
  |false=>some (.ex (.exit id') fr st)
 |.block _,.ex e fr st=>some (.ex e fr st)
 |.loop ro c,.ex .normal fr st=>exR (C.code ro (.loop c) fr st)
 |.loop _ _,.ex e fr st=>some (.ex e fr st)
 |.reg,.ops fr st=>some (.ex .normal fr st)
 |.put d ops fr,.val v st=>match fr.put d v with
  |some fr=>Yev (mops C.call ops fr st)
  |none=>none
 |.regD ms,.opsD fps fr st=>match apartOk fps ms with
  |true=>some (.ex .normal fr st)
  |false=>none
 |.putD op d ops fr n w,.val v st'=>match fr.put d v with
  |some fr'=>match mopsD C.call ops fr' {st' with w:=Zac n st'.w++w} with
   |some (fps,fr'',st'')=>some (.opsD (Zcs fr.r op (Zac n st'.w) n st'.n::fps) fr'' st'')
   |none=>none
  |none=>none
 |.cons fp,.opsD fps fr st=>some (.opsD (fp::fps) fr st)
 |.fin _ _,.ex (.exit _) _ _=>none
 |.fin rs st0,.ex _ fr st1=>match shut st1 fr.marks with
  |none=>none
  |some st2=>match resV fr.r st2 rs with
   |some vs=>some (.val (Zrd vs) {st2 with w:=Zac st0.n st2.w++st0.w})
   |none=>none
 |_,_=>none
noncomputable def Zen(C:Cx)(k:Kf):Option Rs→Option Rs
 |some r=>Zgx C k r
 |none=>none
noncomputable def unw(C:Cx):List Kf→Option Rs→Option Rs
 |[],r=>r
 |k::K,r=>unw C K (Zen C k r)
def Zvn{C:Cx}:∀K,unw C K none=none
 |[]=>rfl
 |_::K=>Zvn K
structure Run (C:Cx) (K:List Kf) (r:Option Rs) (Q:Rs→Prop):Prop where
 ex:∃s,unw C K r=some s∧Q s
def Zau{C:Cx}{K K':List Kf}{r r':Option Rs}{Q:Rs→Prop}(h:unw C K r=unw C K' r'):Run C K r Q↔Run C K' r' Q:=
 ⟨fun ⟨s,e,q⟩=>⟨s,h▸e,q⟩,fun ⟨s,e,q⟩=>⟨s,h.symm▸e,q⟩⟩
def Zhs{C:Cx}{K:List Kf}{Q:Rs→Prop}:Run C K none Q↔False:=
 ⟨fun ⟨_,h,_⟩=>(by rw[Zvn]at h;cases h),fun h=>h.elim⟩
def Ykm{C:Cx}{s:Rs}{Q:Rs→Prop}:Run C [] (some s) Q↔Q s:=
 ⟨fun ⟨_,h,q⟩=>by simp only[unw,Ys3]at h;exact h▸q,fun q=>⟨s,rfl,q⟩⟩
structure Call (C:Cx) (g:V) (args:List V) (st:St) (P:V→St→Prop):Prop where
 ex:∃v st',C.call g args st=some (v,st')∧P v st'
structure Code (C:Cx) (ro:Option Nat) (c:Zav) (fr:Fr) (st:St) (P:Ex→Fr→St→Prop):Prop where
 ex:∃e fr' st',C.code ro c fr st=some (e,fr',st')∧P e fr' st'
def Ye3(P:V→St→Prop):Rs→Prop
 |.val v st=>P v st
 |_=>False
def exQ(P:Ex→Fr→St→Prop):Rs→Prop
 |.ex e fr st=>P e fr st
 |_=>False
def Ye2{P:V→St→Prop}{v st}:Ye3 P (.val v st)↔P v st:=Iff.rfl
def Yot{P:Ex→Fr→St→Prop}{e fr st}:exQ P (.ex e fr st)↔P e fr st:=Iff.rfl
def Zae{C:Cx}{g args st P}:Call C g args st P↔Run C [] (Zqw (C.call g args st)) (Ye3 P):=by
 constructor
 ·rintro⟨v,st',h,p⟩
  exact⟨.val v st',by rw[h];rfl,p⟩
 ·rintro⟨s,h,q⟩
  cases hc:C.call g args st with
  |none=>rw[hc]at h;cases h
  |some r=>
   rw[hc]at h
   simp only[unw,Zqw,Ys3]at h
   subst h
   exact⟨_,_,hc,q⟩
def Zai{C:Cx}{ro c fr st P}:Code C ro c fr st P↔Run C [] (exR (C.code ro c fr st)) (exQ P):=by
 constructor
 ·rintro⟨e,fr',st',h,p⟩
  exact⟨.ex e fr' st',by rw[h];rfl,p⟩
 ·rintro⟨s,h,q⟩
  cases hc:C.code ro c fr st with
  |none=>rw[hc]at h;cases h
  |some r=>
   rw[hc]at h
   simp only[unw,exR,Ys3]at h
   subst h
   exact⟨_,_,_,hc,q⟩
def Zd8{C:Cx}{g args st P K Q}(h:Call C g args st P)(k:∀v st',P v st'→Run C K (some (.val v st')) Q):Run C K (Zqw (C.call g args st)) Q:=by
 obtain⟨v,st',e,p⟩:=h.ex
 rw[e]
 exact k v st' p
def Zbo{C:Cx}{ro c fr st P K Q}(h:Code C ro c fr st P)(k:∀e fr' st',P e fr' st'→Run C K (some (.ex e fr' st')) Q):Run C K (exR (C.code ro c fr st)) Q:=by
 obtain⟨e,fr',st',h,p⟩:=h.ex
 rw[h]
 exact k e fr' st' p
def Call.mono{C:Cx}{g args st}{P Q:V→St→Prop}(h:Call C g args st P)(k:∀v st',P v st'→Q v st'):Call C g args st Q:=by
 obtain⟨v,st',e,p⟩:=h.ex
 exact⟨v,st',e,k v st' p⟩
def Yod(I:Nat→Fr→St→Prop)(k:Nat)(P:Ex→Fr→St→Prop):Ex→Fr→St→Prop
 |.normal,fr,st=>∃k',k'<k∧I k' fr st
 |e,fr,st=>P e fr st
def Code.loop{C:Cx}{ro c}{P:Ex→Fr→St→Prop}{I:Nat→Fr→St→Prop}(h:∀k fr st,I k fr st→Code C ro c fr st (Yod I k P)):∀(k:Nat) (fr:Fr) (st:St),I k fr st→Code C ro (.loop c) fr st P:=by
 intro k
 induction k using Nat.strongRecOn with
 |_ k ih=>
  intro fr st hi
  obtain⟨e,fr',st',h1,p⟩:=(h k fr st hi).ex
  have e1:C.code ro (.loop c) fr st=Zid c C.call C.code ro fr st:=Cx.code_eq ro (.loop c) fr st
  unfold Zid at e1
  rw[h1]at e1
  cases e with
  |normal=>
   obtain⟨k',hk,hi'⟩:=p
   obtain⟨e2,fr2,st2,h2,p2⟩:=(ih k' hk fr' st' hi').ex
   exact⟨e2,fr2,st2,e1.trans h2,p2⟩
  |exit id=>exact⟨_,_,_,e1,p⟩
  |ret=>exact⟨_,_,_,e1,p⟩
def Yfs{C:Cx}{ro c}{K:List Kf}{Q:Rs→Prop}{fr:Fr}{st:St}(P:Ex→Fr→St→Prop)(I:Nat→Fr→St→Prop)(k:Nat)(hi:I k fr st)(h:∀k fr st,I k fr st→Code C ro c fr st (Yod I k P))(q:∀e fr' st',P e fr' st'→Run C K (some (.ex e fr' st')) Q):Run C K (exR (C.code ro (.loop c) fr st)) Q:=
 Zbo (Code.loop h k fr st hi) q
section
variable {C:Cx} {K:List Kf} {Q:Rs→Prop} {ro:Option Nat} {a b c:Zav} {fr:Fr} {st:St}
def Yfp:Run C K (exR (C.code ro .skip fr st)) Q↔Run C K (some (.ex .normal fr st)) Q:=Zau (by rw[Cx.code_eq];rfl)
def Ykl{ops}:Run C K (exR (C.code ro (.reg ops) fr st)) Q↔Run C (.reg::K) (Yev (mops C.call ops fr st)) Q:=Zau (by
 rw[Cx.code_eq]
 show unw C K (exR (Zn1 ops C.call C.code ro fr st))=unw C K (Zen C .reg (Yev (mops C.call ops fr st)))
 unfold Zn1
 rcases mops C.call ops fr st with _|⟨_,_⟩<;>rfl)
def Yfr{ops ms}:Run C K (exR (C.code ro (.regD ops ms) fr st)) Q↔Run C (.regD ms::K) (Zm9 (mopsD C.call ops fr st)) Q:=Zau (by
 rw[Cx.code_eq]
 show unw C K (exR (Zhj ops ms C.call C.code ro fr st))=unw C K (Zen C (.regD ms) (Zm9 (mopsD C.call ops fr st)))
 unfold Zhj
 rcases mopsD C.call ops fr st with _|⟨fps,_,_⟩
 ·rfl
 ·simp only[Zm9,Zen,Zgx]
  cases apartOk fps ms<;>rfl)
def Ykj:Run C K (exR (C.code ro (.seq a b) fr st)) Q↔Run C (.seq ro b::K) (exR (C.code ro a fr st)) Q:=Zau (by
 rw[Cx.code_eq]
 show unw C K (exR (Zoj a b C.call C.code ro fr st))=unw C K (Zen C (.seq ro b) (exR (C.code ro a fr st)))
 unfold Zoj
 rcases C.code ro a fr st with _|⟨e,_,_⟩
 ·rfl
 ·cases e<;>rfl)
noncomputable def Yhz(C:Cx)(ro:Option Nat)(a b:Zav)(fr:Fr)(st:St):Option V→Option Rs
 |some (.bool true)=>exR (C.code ro a fr st)
 |some (.bool false)=>exR (C.code ro b fr st)
 |_=>none
def Yfv{x}:Run C K (exR (C.code ro (.cond x a b) fr st)) Q↔Run C K (Yhz C ro a b fr st (x.ev fr.r)) Q:=Zau (by
 rw[Cx.code_eq]
 show unw C K (exR (Zfs x a b C.call C.code ro fr st))=_
 unfold Zfs Yhz
 rcases x.ev fr.r with _|v
 ·rfl
 ·cases v<;>try rfl
  rename_i b'
  cases b'<;>rfl)
def Zzx:Yhz C ro a b fr st (some (.bool true))=exR (C.code ro a fr st):=rfl
def Zu1:Yhz C ro a b fr st (some (.bool false))=exR (C.code ro b fr st):=rfl
def Ya7{id}:Run C K (exR (C.code ro (.block id a) fr st)) Q↔Run C (.block id::K) (exR (C.code ro a fr st)) Q:=Zau (by
 rw[Cx.code_eq]
 show unw C K (exR (Zfc id a C.call C.code ro fr st))=unw C K (Zen C (.block id) (exR (C.code ro a fr st)))
 unfold Zfc
 rcases C.code ro a fr st with _|⟨e,_,_⟩
 ·rfl
 ·cases e with
  |exit id'=>simp only[exR,Zen,Zgx];cases Nat.beq id' id<;>rfl
  |_=>rfl)
def Yfu{id}:Run C K (exR (C.code ro (.exit id) fr st)) Q↔Run C K (some (.ex (.exit id) fr st)) Q:=Zau (by rw[Cx.code_eq];rfl)
def Ya6:Run C K (exR (C.code ro (.scope a) fr st)) Q↔Run C K (exR (C.code ro a fr st)) Q:=Zau (by rw[Cx.code_eq];rfl)
def Ykk:Run C K (exR (C.code ro .ret fr st)) Q↔Run C K (some (.ex .ret fr st)) Q:=Zau (by rw[Cx.code_eq];rfl)
def Zr4:Run C (.seq ro b::K) (some (.ex .normal fr st)) Q↔Run C K (exR (C.code ro b fr st)) Q:=Zau rfl
def Zy3{i}:Run C (.seq ro b::K) (some (.ex (.exit i) fr st)) Q↔Run C K (some (.ex (.exit i) fr st)) Q:=Zau rfl
def Yc3:Run C (.seq ro b::K) (some (.ex .ret fr st)) Q↔Run C K (some (.ex .ret fr st)) Q:=Zau rfl
def Zoh{i}:Run C (.block i::K) (some (.ex .normal fr st)) Q↔Run C K (some (.ex .normal fr st)) Q:=Zau rfl
def Zus{i}:Run C (.block i::K) (some (.ex .ret fr st)) Q↔Run C K (some (.ex .ret fr st)) Q:=Zau rfl
def Zr6{i}:Run C (.block i::K) (some (.ex (.exit i) fr st)) Q↔Run C K (some (.ex .normal fr st)) Q:=Zau (by simp[unw,Zen,Zgx,Nat.beq_refl])
def Zqg{i j}(h:Nat.beq j i=false):Run C (.block i::K) (some (.ex (.exit j) fr st)) Q↔Run C K (some (.ex (.exit j) fr st)) Q:=Zau (by simp[unw,Zen,Zgx,h])
def Yqu:Run C (.reg::K) (some (.ops fr st)) Q↔Run C K (some (.ex .normal fr st)) Q:=Zau rfl
def Yk1:Yev (mops C.call [] fr st)=some (.ops fr st):=rfl
def opR(C:Cx)(K:List Kf)(Q:Rs→Prop)(d:Option Nat)(op:MOp)(ops:List Za9)(fr:Fr)(st:St):Option Bool→Prop
 |some true=>Run C (.put d ops fr::K) (Zqw (mop op C.call fr.r st)) Q
 |some false=>Run C (.put d ops fr::K) (some (.val (.tup []) st)) Q
 |none=>False
def Yf8{d op g ops}:Run C K (Yev (mops C.call (⟨d,op,g⟩::ops) fr st)) Q↔opR C K Q d op ops fr st (wantedV fr.r g):=by
 have e:mops C.call (⟨d,op,g⟩::ops) fr st=Zib C.call ⟨d,op,g⟩ (mops C.call ops) fr st:=rfl
 rw[e]
 unfold Zib
 simp only[]
 rcases wantedV fr.r g with _|b
 ·exact Zhs
 ·cases b
  ·show _↔Run C (.put d ops fr::K) (some (.val (.tup []) st)) Q
   refine Zau ?_
   show _=unw C K (Zgx C (.put d ops fr) (.val (.tup []) st))
   simp only[Zgx]
   rcases fr.put d (.tup [])with _|_<;>rfl
  ·show _↔Run C (.put d ops fr::K) (Zqw (mop op C.call fr.r st)) Q
   refine Zau ?_
   show _=unw C K (Zen C (.put d ops fr) (Zqw (mop op C.call fr.r st)))
   rcases mop op C.call fr.r st with _|⟨v,st'⟩
   ·rfl
   ·simp only[Zqw,Zen,Zgx]
    rcases fr.put d v with _|_<;>rfl
def Ygd{d op ops}:opR C K Q d op ops fr st (some true)↔Run C (.put d ops fr::K) (Zqw (mop op C.call fr.r st)) Q:=Iff.rfl
def Ybu{d op ops}:opR C K Q d op ops fr st (some false)↔Run C (.put d ops fr::K) (some (.val (.tup []) st)) Q:=Iff.rfl
def Yac{v:V}:Zqw (some (v,st))=some (.val v st):=rfl
def Yqv{d n m r ops v}(h:d<n):Run C (.put (some d) ops ⟨r,n,m⟩::K) (some (.val v st)) Q↔Run C K (Yev (mops C.call ops ⟨r.set d v,n,m⟩ st)) Q:=Zau (by simp[unw,Zen,Zgx,Fr.put,h])
def Zy4{ops v}:Run C (.put none ops fr::K) (some (.val v st)) Q↔Run C K (Yev (mops C.call ops fr st)) Q:=Zau rfl
def Yf9:Zm9 (mopsD C.call [] fr st)=some (.opsD [] fr st):=rfl
def Ynu(C:Cx)(K:List Kf)(Q:Rs→Prop)(d:Option Nat)(op:MOp)(ops:List Za9)(fr:Fr)(h:T O)(n:Nat)(w:List Nat):Option Bool→Prop
 |some true=>Run C (.putD op d ops fr n w::K) (Zqw (mop op C.call fr.r ⟨h,n,[]⟩)) Q
 |some false=>Run C (.cons ⟨some [],[],n,n⟩::K) (match fr.put d (.tup [])with|some fr'=>Zm9 (mopsD C.call ops fr' ⟨h,n,w⟩)|none=>none) Q
 |none=>False
def Ybr{d op g ops h n w}:Run C K (Zm9 (mopsD C.call (⟨d,op,g⟩::ops) fr ⟨h,n,w⟩)) Q↔Ynu C K Q d op ops fr h n w (wantedV fr.r g):=by
 have e:mopsD C.call (⟨d,op,g⟩::ops) fr ⟨h,n,w⟩=Zfa C.call ⟨d,op,g⟩ (mopsD C.call ops) fr ⟨h,n,w⟩:=rfl
 rw[e]
 unfold Zfa
 simp only[]
 rcases wantedV fr.r g with _|b
 ·exact Zhs
 ·cases b
  ·show _↔Run C (.cons ⟨some [],[],n,n⟩::K) (match fr.put d (.tup [])with|some fr'=>Zm9 (mopsD C.call ops fr' ⟨h,n,w⟩)|none=>none) Q
   refine Zau ?_
   show _=unw C K (Zen C (.cons ⟨some [],[],n,n⟩) _)
   rcases fr.put d (.tup [])with _|fr'
   ·rfl
   ·simp only[]
    rcases mopsD C.call ops fr' ⟨h,n,w⟩with _|⟨_,_,_⟩<;>rfl
  ·show _↔Run C (.putD op d ops fr n w::K) (Zqw (mop op C.call fr.r ⟨h,n,[]⟩)) Q
   refine Zau ?_
   show _=unw C K (Zen C (.putD op d ops fr n w) (Zqw (mop op C.call fr.r ⟨h,n,[]⟩)))
   rcases mop op C.call fr.r ⟨h,n,[]⟩with _|⟨v,st'⟩
   ·rfl
   ·simp only[Zqw,Zen,Zgx]
    rcases fr.put d v with _|fr'
    ·rfl
    ·simp only[]
     rcases mopsD C.call ops fr' {st' with w:=Zac n st'.w++w} with _|⟨_,_,_⟩<;>rfl
def Ybv{d op ops h n w}:Ynu C K Q d op ops fr h n w (some true)↔Run C (.putD op d ops fr n w::K) (Zqw (mop op C.call fr.r ⟨h,n,[]⟩)) Q:=Iff.rfl
def Zyb{d n m r ops op h N w}(hd:d<n):Ynu C K Q (some d) op ops ⟨r,n,m⟩ h N w (some false)↔Run C (.cons ⟨some [],[],N,N⟩::K) (Zm9 (mopsD C.call ops ⟨r.set d (.tup []),n,m⟩ ⟨h,N,w⟩)) Q:=by simp[Ynu,Fr.put,hd]
def Zt6{ops op h N w}:Ynu C K Q none op ops fr h N w (some false)↔Run C (.cons ⟨some [],[],N,N⟩::K) (Zm9 (mopsD C.call ops fr ⟨h,N,w⟩)) Q:=Iff.rfl
def Yoh{op d n m r ops v N w h' n' w'}(h:d<n):Run C (.putD op (some d) ops ⟨r,n,m⟩ N w::K) (some (.val v ⟨h',n',w'⟩)) Q↔Run C (.cons (Zcs r op (Zac N w') N n')::K) (Zm9 (mopsD C.call ops ⟨r.set d v,n,m⟩ ⟨h',n',Zac N w'++w⟩)) Q:=Zau (by
 simp only[unw,Zen,Zgx,Fr.put,h,if_true]
 rcases mopsD C.call ops _ _ with _|⟨_,_,_⟩<;>rfl)
def Zur{op ops v N w h' n' w'}:Run C (.putD op none ops fr N w::K) (some (.val v ⟨h',n',w'⟩)) Q↔Run C (.cons (Zcs fr.r op (Zac N w') N n')::K) (Zm9 (mopsD C.call ops fr ⟨h',n',Zac N w'++w⟩)) Q:=Zau (by
 simp only[unw,Zen,Zgx,Fr.put]
 rcases mopsD C.call ops _ _ with _|⟨_,_,_⟩<;>rfl)
def Yoi{fp fps}:Run C (.cons fp::K) (some (.opsD fps fr st)) Q↔Run C K (some (.opsD (fp::fps) fr st)) Q:=Zau rfl
def Zr5{ms fps}(h:apartOk fps ms=true):Run C (.regD ms::K) (some (.opsD fps fr st)) Q↔Run C K (some (.ex .normal fr st)) Q:=Zau (by simp only[unw,Zen,Zgx,h])
def Yft{g first caps args mf}(hx:C.x (.func g first caps) args st=none)(h:C.tbl g=some mf)(hl:(first++args++caps).length≤mf.ntmps):Run C K (Zqw (C.call (.func g first caps) args st)) Q↔Run C (.fin mf.results st::K) (exR (C.code none mf.body ⟨Zej .nil 0 (first++args++caps),mf.ntmps,[]⟩ ⟨st.h,st.n,[]⟩)) Q:=Zau (by
 rw[Cx.call_eq]
 unfold Zee
 rw[hx]
 simp only[Zcr,h,Zge,Yv5.2 hl,if_false]
 show _=unw C K (Zen C (.fin mf.results st) _)
 unfold Zuw
 rcases C.code none mf.body _ _ with _|⟨e,fr1,st1⟩
 ·rfl
 ·cases e with
  |exit=>rfl
  |normal=>
   simp only[exR,Zen,Zgx]
   rcases shut st1 fr1.marks with _|st2
   ·rfl
   ·simp only[]
    rcases resV fr1.r st2 mf.results with _|_<;>rfl
  |ret=>
   simp only[exR,Zen,Zgx]
   rcases shut st1 fr1.marks with _|st2
   ·rfl
   ·simp only[]
    rcases resV fr1.r st2 mf.results with _|_<;>rfl)
def Yqy(h:T O)(n:Nat)(w:List Nat):Option (List V)→Option Rs
 |some vs=>some (.val (Zrd vs) ⟨h,n,w⟩)
 |none=>none
def Ydn{h n w vs}:Yqy h n w (some vs)=some (.val (Zrd vs) ⟨h,n,w⟩):=rfl
def Yc4{rs r n h1 n1 w1}:Run C (.fin rs st::K) (some (.ex .ret ⟨r,n,[]⟩ ⟨h1,n1,w1⟩)) Q↔Run C K (Yqy h1 n1 (Zac st.n w1++st.w) (resV r ⟨h1,n1,w1⟩ rs)) Q:=Zau (by
 simp only[unw,Zen,Zgx,shut]
 rcases resV r ⟨h1,n1,w1⟩ rs with _|_<;>rfl)
def Yc5{rs r n h1 n1 w1}:Run C (.fin rs st::K) (some (.ex .normal ⟨r,n,[]⟩ ⟨h1,n1,w1⟩)) Q↔Run C K (Yqy h1 n1 (Zac st.n w1++st.w) (resV r ⟨h1,n1,w1⟩ rs)) Q:=Zau (by
 simp only[unw,Zen,Zgx,shut]
 rcases resV r ⟨h1,n1,w1⟩ rs with _|_<;>rfl)
end
def Zul(a):mop (.convStr a)=Zev a:=rfl
def Zrr(a b):mop (.strBytes a b)=Zcj a b:=rfl
def Zrw(a):mop (.bytesStr a)=Zc6 a:=rfl
def Zui(a b):mop (.mkiface a b)=Zeu a b:=rfl
def Yb9:mop .mkmap=Zhv:=rfl
def Zyj(a b):mop (.mkchan a b)=Zef a b:=rfl
def Zuh(a b c d e f):mop (.mkslice a b c d e f)=Zcq a b c d e f:=rfl
def Zrs(a b c):mop (.sliceStr a b c)=Zbj a b c:=rfl
def Zuf(a b c d e):mop (.sliceSl a b c d e)=Za4 a b c d e:=rfl
def Zrt(a b c d e f):mop (.sliceArr a b c d e f)=Zbt a b c d e f:=rfl
def Zyo(a b c d e):mop (.idxArr a b c d e)=Zfi a b c d e:=rfl
def Zyn(a b):mop (.idxStr a b)=Zeh a b:=rfl
def Zyl(a b c d e):mop (.lookup a b c d e)=Zez a b c d e:=rfl
def Zyk(a b c d):mop (.mapset a b c d)=Zeg a b c d:=rfl
def Zru(a):mop (.rangeStr a)=Zc5 a:=rfl
def Zug(a):mop (.nextStr a)=Zdz a:=rfl
def Zym(a):mop (.lenArr a)=Zg2 a:=rfl
def Ylh(a):mop (.cap a)=Zo2 a:=rfl
def Yob(a):mop (.mn a)=Zlr a:=rfl
def Yoa(a):mop (.mx a)=Zfg a:=rfl
def Zyq(a b c d e f):mop (.append a b c d e f)=Zdo a b c d e f:=rfl
def Ygm(a b c):mop (.copy a b c)=Zg3 a b c:=rfl
def Ycd(a b c):mop (.clear a b c)=Zhw a b c:=rfl
def Yld(a b):mop (.uns a b)=Zjs a b:=rfl
def Yb7(a):mop (.sdata a)=Zhu a:=rfl
def Ygj(a b c):mop (.ustr a b c)=Zkx a b c:=rfl
def Ylg(a b):mop (.ext a b)=Znb a b:=rfl
def Yma{ng k x y}:eqV ng (.prim k) x y=Zad ng k x y:=by cases x<;>cases y<;>rfl
attribute [simp] Ykm Ye2 Yot Yfp Ykl Yfr Ykj Yfv Zzx Zu1 Ya7 Yfu Ya6 Ykk Zr4 Zy3 Yc3 Zoh Zus Zr6 Yqu Yk1 Yf8 Ygd Ybu Yac Yqv Zy4
 Yf9 Ybr Ybv Zyb Zt6 Yoh Zur Yoi Zr5 Ydn Yc4 Yc5
 Zul Zrr Zrw Zui Yb9 Zyj Zuh Zrs Zuf Zrt Zyo Zyn Zyl Zyk Zru Zug Zym Ylh Yob Yoa Zyq Ygm Ycd Yld Yb7 Ygj Ylg Yma
structure Keeps (h:T O) (n:Nat) (h':T O) (n':Nat):Prop where
 le:n≤n'
 get:∀i,i<n→h'.get i=h.get i
def Keeps.refl{h:T O}{n:Nat}:Keeps h n h n:=⟨Ys6 _,fun _ _=>rfl⟩
def Keeps.trans{h h1 h2:T O}{n n1 n2:Nat}(a:Keeps h n h1 n1)(b:Keeps h1 n1 h2 n2):Keeps h n h2 n2:=
 ⟨Yu5 a.le b.le,fun i hi=>(b.get i (Yti hi a.le)).trans (a.get i hi)⟩
def Keeps.set{h h1:T O}{n n1:Nat}{i:Nat}{o:O}(hi:n≤i)(a:Keeps h n h1 n1):Keeps h n (h1.set i o) n1:=
 ⟨a.le,fun j hj=>by rw[T.get_set,Ys5 (by omega)];exact a.get j hj⟩
def Keeps.up{h h1:T O}{n n1 n2:Nat}(a:Keeps h n h1 n1)(hn:n1≤n2):Keeps h n h1 n2:=⟨Yu5 a.le hn,a.get⟩
def Ret(P:V→T O→Nat→Prop)(h:T O)(n:Nat)(w:List Nat)(v:V)(st:St):Prop:=st.w=w∧Keeps h n st.h st.n∧P v st.h st.n
abbrev Fn(C:Cx)(f:Nat)(args:List V)(h:T O)(n:Nat)(P:V→T O→Nat→Prop):Prop:=∀w,Call C (.func f [] []) args ⟨h,n,w⟩ (Ret P h n w)
def Zaf{C:Cx}{f args h n w P K Q}(hf:Fn C f args h n P)(k:∀v h' n',Keeps h n h' n'→P v h' n'→Run C K (some (.val v ⟨h',n',w⟩)) Q):Run C K (Zqw (C.call (.func f [] []) args ⟨h,n,w⟩)) Q:=
 Zd8 (hf w) fun v st'=>by
  obtain⟨h',n',w'⟩:=st'
  rintro⟨rfl,hk,hp⟩
  exact k v h' n' hk hp
def Zo3{N:Nat}:∀{w:List Nat},(∀i∈w,N≤i)→Zac N w=[]
 |[],_=>rfl
 |i::w,h=>by
  have:=h i Yt2
  simp only[Zac,Yv5.2 this,if_false]
  exact Zo3 fun j hj=>h j (Ytv _ hj)
end Go.Mx
