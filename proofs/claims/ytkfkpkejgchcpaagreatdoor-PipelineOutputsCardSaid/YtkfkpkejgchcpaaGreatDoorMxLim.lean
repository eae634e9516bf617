/-Runs without a count of steps-/
import Derived.Test.YtkfkpkejgchcpaaGreatDoorMxTab
set_option linter.all false
namespace Go.Mx
open Go
def Le(a b:Za1):Prop:=∀g args st r,a g args st=some r→b g args st=some r
def Zlv{a b:Za1}(h:Le a b)(op:MOp)(r:T V)(st:St){o:V×St}(e:mop op a r st=some o):mop op b r st=some o:=by
 cases op<;>try exact e
 rename_i f args
 show Zej f args b r st=some o
 have e:Zej f args a r st=some o:=e
 unfold Zej at e ⊢
 split at e
 ·exact h _ _ _ _ e
 ·cases e
def Zg4{a b:Za1}(h:Le a b):∀(ops:List Za9) (fr:Fr) (st:St) {o:Fr×St},mops a ops fr st=some o→mops b ops fr st=some o
 |[],_,_,_,e=>e
 |q::ops,fr,st,o,e=>by
  have e:Zh4 a q (mops a ops) fr st=some o:=e
  show Zh4 b q (mops b ops) fr st=some o
  unfold Zh4 at e ⊢
  split at e
  ·split at e
   ·rename_i v st' h1
    rw[Zlv h _ _ _ h1]
    simp only[]
    split at e
    ·exact Zg4 h ops _ _ e
    ·cases e
   ·cases e
  ·split at e
   ·exact Zg4 h ops _ _ e
   ·cases e
  ·cases e
def Zht{a b:Za1}(h:Le a b):∀(ops:List Za9) (fr:Fr) (st:St) {o:List FP×Fr×St},mopsD a ops fr st=some o→mopsD b ops fr st=some o
 |[],_,_,_,e=>e
 |q::ops,fr,st,o,e=>by
  have e:Zfd a q (mopsD a ops) fr st=some o:=e
  show Zfd b q (mopsD b ops) fr st=some o
  unfold Zfd at e ⊢
  split at e
  ·split at e
   ·rename_i v st' h1
    rw[Zlv h _ _ _ h1]
    simp only[]
    split at e
    ·split at e
     ·rename_i h2
      rw[Zht h ops _ _ h2]
      exact e
     ·cases e
    ·cases e
   ·cases e
  ·split at e
   ·split at e
    ·rename_i h2
     rw[Zht h ops _ _ h2]
     exact e
    ·cases e
   ·cases e
  ·cases e
def LeC(a b:Zfs):Prop:=∀ro c fr st r,a ro c fr st=some r→b ro c fr st=some r
def Zj6{a b:Za1}{p q:Zfs}(h:Le a b)(hc:LeC p q)(ro:Option Nat)(c:Zah)(fr:Fr)(st:St){o:Ex×Fr×St}(e:Za6 c a p ro fr st=some o):Za6 c b q ro fr st=some o:=by
 cases c with
 |skip=>exact e
 |reg ops=>
  have e:Znk ops a p ro fr st=some o:=e
  show Znk ops b q ro fr st=some o
  unfold Znk at e ⊢
  split at e
  ·rename_i h1;rw[Zg4 h _ _ _ h1];exact e
  ·cases e
 |regD ops ms=>
  have e:Zhg ops ms a p ro fr st=some o:=e
  show Zhg ops ms b q ro fr st=some o
  unfold Zhg at e ⊢
  split at e
  ·rename_i h1;rw[Zht h _ _ _ h1];exact e
  ·cases e
 |regS dst ch send zero ops=>
  have e:Zhf dst ch send zero ops a p ro fr st=some o:=e
  show Zhf dst ch send zero ops b q ro fr st=some o
  unfold Zhf at e ⊢
  split at e
  ·split at e
   ·split at e
    ·split at e
     ·rename_i h1;rw[Zg4 h _ _ _ h1];exact e
     ·cases e
    ·cases e
   ·cases e
  ·cases e
 |seq x y=>
  have e:Zn2 x y a p ro fr st=some o:=e
  show Zn2 x y b q ro fr st=some o
  unfold Zn2 at e ⊢
  split at e
  ·rename_i h1;rw[hc _ _ _ _ _ h1];exact hc _ _ _ _ _ e
  ·rename_i h1
   have:=hc _ _ _ _ _ e
   rw[this]
   rcases o with⟨_|_|_,_,_⟩
   ·exact absurd e (h1 _ _)
   ·rfl
   ·rfl
 |cond x y z=>
  have e:Zfq x y z a p ro fr st=some o:=e
  show Zfq x y z b q ro fr st=some o
  unfold Zfq at e ⊢
  split at e
  ·exact hc _ _ _ _ _ e
  ·exact hc _ _ _ _ _ e
  ·cases e
 |block id x=>
  have e:Zff id x a p ro fr st=some o:=e
  show Zff id x b q ro fr st=some o
  unfold Zff at e ⊢
  split at e
  ·rename_i h1;rw[hc _ _ _ _ _ h1];exact e
  ·rename_i h1
   have:=hc _ _ _ _ _ e
   rw[this]
   rcases o with⟨_|_|_,_,_⟩
   ·rfl
   ·exact absurd e (h1 _ _ _)
   ·rfl
 |loop x=>
  have e:Zh6 x a p ro fr st=some o:=e
  show Zh6 x b q ro fr st=some o
  unfold Zh6 at e ⊢
  split at e
  ·rename_i h1;rw[hc _ _ _ _ _ h1];exact hc _ _ _ _ _ e
  ·rename_i h1
   have:=hc _ _ _ _ _ e
   rw[this]
   rcases o with⟨_|_|_,_,_⟩
   ·exact absurd e (h1 _ _)
   ·rfl
   ·rfl
 |rangef g ps x y=>
  have e:Zer g ps x y a p ro fr st=some o:=e
  show Zer g ps x y b q ro fr st=some o
  unfold Zer at e ⊢
  split at e
  ·cases e
  ·split at e
   ·cases e
   ·rename_i hy
    simp only[hy]
    split at e
    ·cases e
    ·split at e
     ·cases e
     ·rename_i h1;rw[h _ _ _ _ h1];exact e
 |exit id=>exact e
 |scope x=>exact hc _ _ _ _ _ e
 |ret=>exact e
 |stop=>exact e
def Zb3{a b:Za1}(h:Le a b):∀(F F':Nat),F≤F'→LeC (Zbd a F) (Zbd b F')
 |0,_,_=>fun _ _ _ _ _ e=>by cases e
 |F+1,0,hF=>by omega
 |F+1,F'+1,hF=>fun ro c fr st _ e=>Zj6 h (Zb3 h F F' (by omega)) ro c fr st e
def Zrv{p q:Zfs}(h:LeC p q){mf:Zeh}{args:List V}{st:St}{o:V×St}(e:Zf9 mf p args st=some o):Zf9 mf q args st=some o:=by
 unfold Zf9 at e ⊢
 split at e
 ·cases e
 ·rename_i h0
  rw[Yr3 h0]
  cases h1:p none mf.body {r:=Zei .nil 0 args,n:=mf.ntmps,marks:=[]} {st with w:=[]} with
  |none=>rw[h1]at e;cases e
  |some r=>rw[h1]at e;rw[h _ _ _ _ _ h1];exact e
def Zpk{p q:Zfs}(h:LeC p q){l:Nat}{args:List V}{st:St}{o:V×St}(e:Zf1 p l args st=some o):Zf1 q l args st=some o:=by
 unfold Zf1 at e ⊢
 split at e
 ·split at e
  ·cases e
  ·split at e
   ·rename_i h1
    rw[h _ _ _ _ _ h1]
    simp only[]
    split at e
    ·split at e
     ·rename_i hr
      rw[Yr6 hr]
      split at e
      ·rename_i h2
       rw[h _ _ _ _ _ h2]
       exact e
      ·cases e
     ·cases e
    ·cases e
   ·cases e
 ·cases e
def Zgg{tbl:Nat→Option Zeh}{p q:Zfs}(h:LeC p q):Le (Zcs tbl p) (Zcs tbl q):=by
 intro g args st o e
 unfold Zcs at e ⊢
 split at e
 ·split at e
  ·exact Zrv h e
  ·cases e
 ·exact Zpk h e
 ·cases e
def Zmp{x a b:Za1}(h:Le a b):Le (Zed x a) (Zed x b):=by
 intro g args st o e
 unfold Zed at e ⊢
 split at e
 ·exact e
 ·exact h _ _ _ _ e
def Zf7{x:Za1}{tbl:Nat→Option Zeh}{F F':Nat}(hF:F≤F'):∀(d d':Nat),d≤d'→Le (Zgl x tbl F d) (Zgl x tbl F' d')
 |0,0,_=>fun _ _ _ _ e=>e
 |0,d'+1,_=>fun g args st o e=>by
  have e:x g args st=some o:=e
  show Zed x _ g args st=some o
  unfold Zed;rw[e]
 |d+1,0,h=>by omega
 |d+1,d'+1,h=>Zmp (Zgg (Zb3 (Zf7 hF d d' (by omega)) F F' hF))
structure Cx where
 x:Za1
 tbl:Nat→Option Zeh
def Cx.at(C:Cx)(N:Nat):Za1:=Zgl C.x C.tbl N N
def Cx.at_mono{C:Cx}{N M:Nat}(h:N≤M):Le (C.at N) (C.at M):=Zf7 h N M h
open Classical in
noncomputable def Cx.call(C:Cx):Za1:=fun g args st=>if h:∃r N,C.at N g args st=some r then some h.choose else none
def Cx.call_iff{C:Cx}{g args st r}:C.call g args st=some r↔∃N,C.at N g args st=some r:=by
 unfold Cx.call
 constructor
 ·intro h
  split at h
  ·rename_i hc
   simp only[Yr1]at h
   exact h▸hc.choose_spec
  ·cases h
 ·rintro⟨N,h⟩
  have hc:∃r N,C.at N g args st=some r:=⟨r,N,h⟩
  rw[dif_pos hc]
  obtain⟨M,hM⟩:=hc.choose_spec
  have h1:=Cx.at_mono (Yuz N M) _ _ _ _ h
  have h2:=Cx.at_mono (Yur N M) _ _ _ _ hM
  rw[h1]at h2
  exact congrArg some (Ysx h2).symm
open Classical in
noncomputable def Cx.code(C:Cx):Zfs:=fun ro c fr st=>if h:∃r F,Zbd C.call F ro c fr st=some r then some h.choose else none
def Cx.code_iff{C:Cx}{ro c fr st r}:C.code ro c fr st=some r↔∃F,Zbd C.call F ro c fr st=some r:=by
 unfold Cx.code
 constructor
 ·intro h
  split at h
  ·rename_i hc
   simp only[Yr1]at h
   exact h▸hc.choose_spec
  ·cases h
 ·rintro⟨N,h⟩
  have hc:∃r F,Zbd C.call F ro c fr st=some r:=⟨r,N,h⟩
  rw[dif_pos hc]
  obtain⟨M,hM⟩:=hc.choose_spec
  have h1:=Zb3 (fun _ _ _ _ e=>e) N (max N M) (Yuz N M) _ _ _ _ _ h
  have h2:=Zb3 (fun _ _ _ _ e=>e) M (max N M) (Yur N M) _ _ _ _ _ hM
  rw[h1]at h2
  exact congrArg some (Ysx h2).symm
def Yax{α:Type}{a b:Option α}(h:∀r,a=some r↔b=some r):a=b:=by
 cases a with
 |none=>cases b with
  |none=>rfl
  |some r=>exact absurd ((h r).2 rfl) (by simp)
 |some r=>exact((h r).1 rfl).symm
def Zeq{a:Za1}{p:Zfs}{q:Nat→Zfs}(hq:∀n m,n≤m→LeC (q n) (q m))(hp:∀ro c fr st r,p ro c fr st=some r→∃n,q n ro c fr st=some r)(ro:Option Nat)(c:Zah)(fr:Fr)(st:St){o:Ex×Fr×St}(e:Za6 c a p ro fr st=some o):∃n,Za6 c a (q n) ro fr st=some o:=by
 cases c with
 |skip=>exact⟨0,e⟩
 |reg ops=>exact⟨0,e⟩
 |regD ops ms=>exact⟨0,e⟩
 |regS dst ch send zero ops=>exact⟨0,e⟩
 |seq x y=>
  have e:Zn2 x y a p ro fr st=some o:=e
  show ∃n,Zn2 x y a (q n) ro fr st=some o
  unfold Zn2 at e ⊢
  split at e
  ·rename_i h1
   obtain⟨n,hn⟩:=hp _ _ _ _ _ h1
   obtain⟨m,hm⟩:=hp _ _ _ _ _ e
   refine⟨max n m,?_⟩
   rw[hq n _ (Yuz n m) _ _ _ _ _ hn]
   exact hq m _ (Yur n m) _ _ _ _ _ hm
  ·rename_i h1
   obtain⟨n,hn⟩:=hp _ _ _ _ _ e
   refine⟨n,?_⟩
   rw[hn]
   rcases o with⟨_|_|_,_,_⟩
   ·exact absurd e (h1 _ _)
   ·rfl
   ·rfl
 |cond x y z=>
  have e:Zfq x y z a p ro fr st=some o:=e
  show ∃n,Zfq x y z a (q n) ro fr st=some o
  unfold Zfq at e ⊢
  split at e
  ·exact hp _ _ _ _ _ e
  ·exact hp _ _ _ _ _ e
  ·cases e
 |block id x=>
  have e:Zff id x a p ro fr st=some o:=e
  show ∃n,Zff id x a (q n) ro fr st=some o
  unfold Zff at e ⊢
  split at e
  ·rename_i h1
   obtain⟨n,hn⟩:=hp _ _ _ _ _ h1
   exact⟨n,by rw[hn];exact e⟩
  ·rename_i h1
   obtain⟨n,hn⟩:=hp _ _ _ _ _ e
   refine⟨n,?_⟩
   rw[hn]
   rcases o with⟨_|_|_,_,_⟩
   ·rfl
   ·exact absurd e (h1 _ _ _)
   ·rfl
 |loop x=>
  have e:Zh6 x a p ro fr st=some o:=e
  show ∃n,Zh6 x a (q n) ro fr st=some o
  unfold Zh6 at e ⊢
  split at e
  ·rename_i h1
   obtain⟨n,hn⟩:=hp _ _ _ _ _ h1
   obtain⟨m,hm⟩:=hp _ _ _ _ _ e
   refine⟨max n m,?_⟩
   rw[hq n _ (Yuz n m) _ _ _ _ _ hn]
   exact hq m _ (Yur n m) _ _ _ _ _ hm
  ·rename_i h1
   obtain⟨n,hn⟩:=hp _ _ _ _ _ e
   refine⟨n,?_⟩
   rw[hn]
   rcases o with⟨_|_|_,_,_⟩
   ·exact absurd e (h1 _ _)
   ·rfl
   ·rfl
 |rangef g ps x y=>exact⟨0,e⟩
 |exit id=>exact⟨0,e⟩
 |scope x=>exact hp _ _ _ _ _ e
 |ret=>exact⟨0,e⟩
 |stop=>exact⟨0,e⟩
def Cx.code_eq{C:Cx}(ro:Option Nat)(c:Zah)(fr:Fr)(st:St):C.code ro c fr st=Za6 c C.call C.code ro fr st:=by
 apply Yax
 intro r
 constructor
 ·intro h
  obtain⟨F,hF⟩:=Cx.code_iff.1 h
  cases F with
  |zero=>cases hF
  |succ F=>exact Zj6 (fun _ _ _ _ e=>e) (fun ro c fr st r e=>Cx.code_iff.2 ⟨F,e⟩) ro c fr st hF
 ·intro h
  obtain⟨n,hn⟩:=Zeq (q:=Zbd C.call) (Zb3 fun _ _ _ _ e=>e) (fun _ _ _ _ _ e=>Cx.code_iff.1 e) ro c fr st h
  exact Cx.code_iff.2 ⟨n+1,hn⟩
def Zvq{C:Cx}(op:MOp)(r:T V)(st:St){o:V×St}(e:mop op C.call r st=some o):∃N,mop op (C.at N) r st=some o:=by
 cases op<;>try exact⟨0,e⟩
 rename_i f args
 have e:Zej f args C.call r st=some o:=e
 show ∃N,Zej f args (C.at N) r st=some o
 unfold Zej at e ⊢
 split at e
 ·exact Cx.call_iff.1 e
 ·cases e
def Zjr{C:Cx}:∀(ops:List Za9) (fr:Fr) (st:St) {o:Fr×St},mops C.call ops fr st=some o→∃N,mops (C.at N) ops fr st=some o
 |[],_,_,_,e=>⟨0,e⟩
 |q::ops,fr,st,o,e=>by
  have e:Zh4 C.call q (mops C.call ops) fr st=some o:=e
  show ∃N,Zh4 (C.at N) q (mops (C.at N) ops) fr st=some o
  unfold Zh4 at e ⊢
  split at e
  ·split at e
   ·rename_i v st' h1
    split at e
    ·obtain⟨N,hN⟩:=Zvq _ _ _ h1
     obtain⟨M,hM⟩:=Zjr ops _ _ e
     refine⟨max N M,?_⟩
     rw[Zlv (Cx.at_mono (Yuz N M)) _ _ _ hN]
     rename_i h3
     simp only[h3]
     exact Zg4 (Cx.at_mono (Yur N M)) _ _ _ hM
    ·cases e
   ·cases e
  ·split at e
   ·exact Zjr ops _ _ e
   ·cases e
  ·cases e
def Zks{C:Cx}:∀(ops:List Za9) (fr:Fr) (st:St) {o:List FP×Fr×St},mopsD C.call ops fr st=some o→∃N,mopsD (C.at N) ops fr st=some o
 |[],_,_,_,e=>⟨0,e⟩
 |q::ops,fr,st,o,e=>by
  have e:Zfd C.call q (mopsD C.call ops) fr st=some o:=e
  show ∃N,Zfd (C.at N) q (mopsD (C.at N) ops) fr st=some o
  unfold Zfd at e ⊢
  split at e
  ·split at e
   ·rename_i v st' h1
    split at e
    ·rename_i h3
     split at e
     ·rename_i h2
      obtain⟨N,hN⟩:=Zvq _ _ _ h1
      obtain⟨M,hM⟩:=Zks ops _ _ h2
      refine⟨max N M,?_⟩
      rw[Zlv (Cx.at_mono (Yuz N M)) _ _ _ hN]
      simp only[h3]
      rw[Zht (Cx.at_mono (Yur N M)) _ _ _ hM]
      exact e
     ·cases e
    ·cases e
   ·cases e
  ·split at e
   ·split at e
    ·rename_i h2
     obtain⟨M,hM⟩:=Zks ops _ _ h2
     exact⟨M,by rw[hM];exact e⟩
    ·cases e
   ·cases e
  ·cases e
def Zor{C:Cx}:∀(F:Nat) (ro:Option Nat) (c:Zah) (fr:Fr) (st:St) {o:Ex×Fr×St},Zbd C.call F ro c fr st=some o→∃N,Zbd (C.at N) F ro c fr st=some o
 |0,_,_,_,_,_,e=>by cases e
 |F+1,ro,c,fr,st,o,e=>by
  have e:Za6 c C.call (Zbd C.call F) ro fr st=some o:=e
  show ∃N,Za6 c (C.at N) (Zbd (C.at N) F) ro fr st=some o
  have ih:=@Zor C F
  have up:∀{n m:Nat},n≤m→LeC (Zbd (C.at n) F) (Zbd (C.at m) F):=fun h=>Zb3 (Cx.at_mono h) F F (Yr4 _)
  cases c with
  |reg ops=>
   have e:Znk ops C.call (Zbd C.call F) ro fr st=some o:=e
   show ∃N,Znk ops (C.at N) (Zbd (C.at N) F) ro fr st=some o
   unfold Znk at e ⊢
   split at e
   ·rename_i h1
    obtain⟨N,hN⟩:=Zjr _ _ _ h1
    exact⟨N,by rw[hN];exact e⟩
   ·cases e
  |regD ops ms=>
   have e:Zhg ops ms C.call (Zbd C.call F) ro fr st=some o:=e
   show ∃N,Zhg ops ms (C.at N) (Zbd (C.at N) F) ro fr st=some o
   unfold Zhg at e ⊢
   split at e
   ·rename_i h1
    obtain⟨N,hN⟩:=Zks _ _ _ h1
    exact⟨N,by rw[hN];exact e⟩
   ·cases e
  |regS dst ch send zero ops=>
   have e:Zhf dst ch send zero ops C.call (Zbd C.call F) ro fr st=some o:=e
   show ∃N,Zhf dst ch send zero ops (C.at N) (Zbd (C.at N) F) ro fr st=some o
   unfold Zhf at e ⊢
   split at e
   ·split at e
    ·split at e
     ·split at e
      ·rename_i h1
       obtain⟨N,hN⟩:=Zjr _ _ _ h1
       exact⟨N,by rw[hN];exact e⟩
      ·cases e
     ·cases e
    ·cases e
   ·cases e
  |rangef g ps x y=>
   have e:Zer g ps x y C.call (Zbd C.call F) ro fr st=some o:=e
   show ∃N,Zer g ps x y (C.at N) (Zbd (C.at N) F) ro fr st=some o
   unfold Zer at e ⊢
   split at e
   ·cases e
   ·split at e
    ·cases e
    ·rename_i hy
     simp only[hy]
     split at e
     ·cases e
     ·split at e
      ·cases e
      ·rename_i h1
       obtain⟨N,hN⟩:=Cx.call_iff.1 h1
       exact⟨N,by rw[hN];exact e⟩
  |skip=>exact⟨0,e⟩
  |exit id=>exact⟨0,e⟩
  |ret=>exact⟨0,e⟩
  |stop=>cases e
  |scope x=>exact ih _ _ _ _ e
  |cond x y z=>
   have e:Zfq x y z C.call (Zbd C.call F) ro fr st=some o:=e
   show ∃N,Zfq x y z (C.at N) (Zbd (C.at N) F) ro fr st=some o
   unfold Zfq at e ⊢
   split at e
   ·exact ih _ _ _ _ e
   ·exact ih _ _ _ _ e
   ·cases e
  |seq x y=>exact Zeq (a:=C.call) (q:=fun n=>Zbd (C.at n) F) (fun _ _ h=>up h) (fun _ _ _ _ _ e=>ih _ _ _ _ e) ro (.seq x y) fr st e
  |block id x=>exact Zeq (a:=C.call) (q:=fun n=>Zbd (C.at n) F) (fun _ _ h=>up h) (fun _ _ _ _ _ e=>ih _ _ _ _ e) ro (.block id x) fr st e
  |loop x=>exact Zeq (a:=C.call) (q:=fun n=>Zbd (C.at n) F) (fun _ _ h=>up h) (fun _ _ _ _ _ e=>ih _ _ _ _ e) ro (.loop x) fr st e
def Cx.code_need{C:Cx}{ro c fr st r}(h:C.code ro c fr st=some r):∃N,Zbd (C.at N) N ro c fr st=some r:=by
 obtain⟨F,hF⟩:=Cx.code_iff.1 h
 obtain⟨N,hN⟩:=Zor F _ _ _ _ hF
 exact⟨max F N,Zb3 (Cx.at_mono (Yur F N)) _ _ (Yuz F N) _ _ _ _ _ hN⟩
def Zj8{tbl:Nat→Option Zeh}{p:Zfs}{q:Nat→Zfs}(hq:∀n m,n≤m→LeC (q n) (q m))(hp:∀ro c fr st r,p ro c fr st=some r→∃n,q n ro c fr st=some r){g args st}{o:V×St}(e:Zcs tbl p g args st=some o):∃n,Zcs tbl (q n) g args st=some o:=by
 unfold Zcs at e ⊢
 split at e
 ·split at e
  ·rename_i mf _
   unfold Zf9 at e ⊢
   split at e
   ·cases e
   ·rename_i h0
    simp only[h0,if_false]
    cases h1:p none mf.body {r:=Zei .nil 0 _,n:=mf.ntmps,marks:=[]} {st with w:=[]} with
    |none=>rw[h1]at e;cases e
    |some r=>
     rw[h1]at e
     obtain⟨n,hn⟩:=hp _ _ _ _ _ h1
     exact⟨n,by rw[hn];exact e⟩
  ·cases e
 ·unfold Zf1 at e ⊢
  split at e
  ·split at e
   ·cases e
   ·split at e
    ·rename_i h1
     obtain⟨n,hn⟩:=hp _ _ _ _ _ h1
     split at e
     ·split at e
      ·split at e
       ·rename_i h4 h5 _ _ _ _ h2
        obtain⟨m,hm⟩:=hp _ _ _ _ _ h2
        refine⟨max n m,?_⟩
        rw[hq n _ (Yuz n m) _ _ _ _ _ hn]
        simp only[h4,h5,if_true]
        rw[hq m _ (Yur n m) _ _ _ _ _ hm]
        exact e
       ·cases e
      ·cases e
     ·cases e
    ·cases e
  ·cases e
 ·cases e
def Cx.call_eq{C:Cx}(g:V)(args:List V)(st:St):C.call g args st=Zed C.x (Zcs C.tbl C.code) g args st:=by
 apply Yax
 intro r
 constructor
 ·intro h
  obtain⟨N,hN⟩:=Cx.call_iff.1 h
  cases N with
  |zero=>
   have e:C.x g args st=some r:=hN
   unfold Zed;rw[e]
  |succ N=>
   refine Zmp (x:=C.x) (Zgg (p:=Zbd (Zgl C.x C.tbl (N+1) N) (N+1)) fun ro c fr st r e=>?_) _ _ _ _ hN
   refine Cx.code_iff.2 ⟨N+1,?_⟩
   refine Zb3 (fun g args st r e=>?_) (N+1) (N+1) (Yr4 _) _ _ _ _ _ e
   exact Cx.call_iff.2 ⟨N+1,Zf7 (Yr4 _) N (N+1) (by omega) _ _ _ _ e⟩
 ·intro h
  unfold Zed at h
  split at h
  ·rename_i r' e
   simp only[Yr1]at h
   subst h
   exact Cx.call_iff.2 ⟨0,e⟩
  ·rename_i hx
   obtain⟨N,hN⟩:=Zj8 (q:=fun n=>Zbd (C.at n) n) (fun n m h=>Zb3 (Cx.at_mono h) n m h) (fun _ _ _ _ _ e=>Cx.code_need e) h
   refine Cx.call_iff.2 ⟨N+1,?_⟩
   show Zed C.x (Zcs C.tbl (Zbd (Zgl C.x C.tbl (N+1) N) (N+1))) g args st=some r
   unfold Zed
   rw[hx]
   exact Zgg (Zb3 (Zf7 (by omega) N N (Yr4 _)) N (N+1) (by omega)) _ _ _ _ hN
inductive Rs where
 |ex (e:Ex) (fr:Fr) (st:St)
 |val (v:V) (st:St)
 |ops (fr:Fr) (st:St)
 |opsD (fps:List FP) (fr:Fr) (st:St)
inductive Kf where
 |seq (ro:Option Nat) (b:Zah)
 |block (id:Nat)
 |loop (ro:Option Nat) (c:Zah)
 |reg
 |put (d:Option Nat) (ops:List Za9) (fr:Fr)
 |regD (ms:List Nat)
 |putD (op:MOp) (d:Option Nat) (ops:List Za9) (fr:Fr) (n:Nat) (w:List Nat)
 |cons (fp:FP)
 |fin (rs:List Yl6) (st:St)
def exR:Option (Ex×Fr×St)→Option Rs
 |some (e,fr,st)=>some (.ex e fr st)
 |none=>none
def Zqh:Option (V×St)→Option Rs
 |some (v,st)=>some (.val v st)
 |none=>none
def Yd6:Option (Fr×St)→Option Rs
 |some (fr,st)=>some (.ops fr st)
 |none=>none
def Zmq:Option (List FP×Fr×St)→Option Rs
 |some (fps,fr,st)=>some (.opsD fps fr st)
 |none=>none
noncomputable def Zgs(C:Cx):Kf→Rs→Option Rs
 |.seq ro b,.ex .normal fr st=>exR (C.code ro b fr st)
 |.seq _ _,.ex e fr st=>some (.ex e fr st)
 |.block id,.ex (.exit id') fr st=>match Nat.beq id' id with
  |true=>some (.ex .normal fr st)
  |false=>some (.ex (.exit id') fr st)
 |.block _,.ex e fr st=>some (.ex e fr st)
 |.loop ro c,.ex .normal fr st=>exR (C.code ro (.loop c) fr st)
 |.loop _ _,.ex e fr st=>some (.ex e fr st)
 |.reg,.ops fr st=>some (.ex .normal fr st)
 |.put d ops fr,.val v st=>match fr.put d v with
  |some fr=>Yd6 (mops C.call ops fr st)
  |none=>none
 |.regD ms,.opsD fps fr st=>match apartOk fps ms with
  |true=>some (.ex .normal fr st)
  |false=>none
 |.putD op d ops fr n w,.val v st'=>match fr.put d v with
  |some fr'=>match mopsD C.call ops fr' {st' with w:=Zad n st'.w++w} with
   |some (fps,fr'',st'')=>some (.opsD (Zct fr.r op (Zad n st'.w) n st'.n::fps) fr'' st'')
   |none=>none
  |none=>none
 |.cons fp,.opsD fps fr st=>some (.opsD (fp::fps) fr st)
 |.fin _ _,.ex (.exit _) _ _=>none
 |.fin rs st0,.ex _ fr st1=>match shut st1 fr.marks with
  |none=>none
  |some st2=>match resV fr.r st2 rs with
   |some vs=>some (.val (Zqw vs) {st2 with w:=Zad st0.n st2.w++st0.w})
   |none=>none
 |_,_=>none
noncomputable def Zem(C:Cx)(k:Kf):Option Rs→Option Rs
 |some r=>Zgs C k r
 |none=>none
noncomputable def unw(C:Cx):List Kf→Option Rs→Option Rs
 |[],r=>r
 |k::K,r=>unw C K (Zem C k r)
def Zu2{C:Cx}:∀K,unw C K none=none
 |[]=>rfl
 |_::K=>Zu2 K
structure Run (C:Cx) (K:List Kf) (r:Option Rs) (Q:Rs→Prop):Prop where
 ex:∃s,unw C K r=some s∧Q s
def Zau{C:Cx}{K K':List Kf}{r r':Option Rs}{Q:Rs→Prop}(h:unw C K r=unw C K' r'):Run C K r Q↔Run C K' r' Q:=
 ⟨fun ⟨s,e,q⟩=>⟨s,h▸e,q⟩,fun ⟨s,e,q⟩=>⟨s,h.symm▸e,q⟩⟩
def Zhn{C:Cx}{K:List Kf}{Q:Rs→Prop}:Run C K none Q↔False:=
 ⟨fun ⟨_,h,_⟩=>(by rw[Zu2]at h;cases h),fun h=>h.elim⟩
def Yjq{C:Cx}{s:Rs}{Q:Rs→Prop}:Run C [] (some s) Q↔Q s:=
 ⟨fun ⟨_,h,q⟩=>by simp only[unw,Yr1]at h;exact h▸q,fun q=>⟨s,rfl,q⟩⟩
structure Call (C:Cx) (g:V) (args:List V) (st:St) (P:V→St→Prop):Prop where
 ex:∃v st',C.call g args st=some (v,st')∧P v st'
structure Code (C:Cx) (ro:Option Nat) (c:Zah) (fr:Fr) (st:St) (P:Ex→Fr→St→Prop):Prop where
 ex:∃e fr' st',C.code ro c fr st=some (e,fr',st')∧P e fr' st'
def Yee(P:V→St→Prop):Rs→Prop
 |.val v st=>P v st
 |_=>False
def exQ(P:Ex→Fr→St→Prop):Rs→Prop
 |.ex e fr st=>P e fr st
 |_=>False
def Yed{P:V→St→Prop}{v st}:Yee P (.val v st)↔P v st:=Iff.rfl
def Ynu{P:Ex→Fr→St→Prop}{e fr st}:exQ P (.ex e fr st)↔P e fr st:=Iff.rfl
def Zac{C:Cx}{g args st P}:Call C g args st P↔Run C [] (Zqh (C.call g args st)) (Yee P):=by
 constructor
 ·rintro⟨v,st',h,p⟩
  exact⟨.val v st',by rw[h];rfl,p⟩
 ·rintro⟨s,h,q⟩
  cases hc:C.call g args st with
  |none=>rw[hc]at h;cases h
  |some r=>
   rw[hc]at h
   simp only[unw,Zqh,Yr1]at h
   subst h
   exact⟨_,_,hc,q⟩
def Zaj{C:Cx}{ro c fr st P}:Code C ro c fr st P↔Run C [] (exR (C.code ro c fr st)) (exQ P):=by
 constructor
 ·rintro⟨e,fr',st',h,p⟩
  exact⟨.ex e fr' st',by rw[h];rfl,p⟩
 ·rintro⟨s,h,q⟩
  cases hc:C.code ro c fr st with
  |none=>rw[hc]at h;cases h
  |some r=>
   rw[hc]at h
   simp only[unw,exR,Yr1]at h
   subst h
   exact⟨_,_,_,hc,q⟩
def Zd7{C:Cx}{g args st P K Q}(h:Call C g args st P)(k:∀v st',P v st'→Run C K (some (.val v st')) Q):Run C K (Zqh (C.call g args st)) Q:=by
 obtain⟨v,st',e,p⟩:=h.ex
 rw[e]
 exact k v st' p
def Zbo{C:Cx}{ro c fr st P K Q}(h:Code C ro c fr st P)(k:∀e fr' st',P e fr' st'→Run C K (some (.ex e fr' st')) Q):Run C K (exR (C.code ro c fr st)) Q:=by
 obtain⟨e,fr',st',h,p⟩:=h.ex
 rw[h]
 exact k e fr' st' p
def Call.mono{C:Cx}{g args st}{P Q:V→St→Prop}(h:Call C g args st P)(k:∀v st',P v st'→Q v st'):Call C g args st Q:=by
 obtain⟨v,st',e,p⟩:=h.ex
 exact⟨v,st',e,k v st' p⟩
def Ynf(I:Nat→Fr→St→Prop)(k:Nat)(P:Ex→Fr→St→Prop):Ex→Fr→St→Prop
 |.normal,fr,st=>∃k',k'<k∧I k' fr st
 |e,fr,st=>P e fr st
def Code.loop{C:Cx}{ro c}{P:Ex→Fr→St→Prop}{I:Nat→Fr→St→Prop}(h:∀k fr st,I k fr st→Code C ro c fr st (Ynf I k P)):∀(k:Nat) (fr:Fr) (st:St),I k fr st→Code C ro (.loop c) fr st P:=by
 intro k
 induction k using Nat.strongRecOn with
 |_ k ih=>
  intro fr st hi
  obtain⟨e,fr',st',h1,p⟩:=(h k fr st hi).ex
  have e1:C.code ro (.loop c) fr st=Zh6 c C.call C.code ro fr st:=Cx.code_eq ro (.loop c) fr st
  unfold Zh6 at e1
  rw[h1]at e1
  cases e with
  |normal=>
   obtain⟨k',hk,hi'⟩:=p
   obtain⟨e2,fr2,st2,h2,p2⟩:=(ih k' hk fr' st' hi').ex
   exact⟨e2,fr2,st2,e1.trans h2,p2⟩
  |exit id=>exact⟨_,_,_,e1,p⟩
  |ret=>exact⟨_,_,_,e1,p⟩
def Ye2{C:Cx}{ro c}{K:List Kf}{Q:Rs→Prop}{fr:Fr}{st:St}(P:Ex→Fr→St→Prop)(I:Nat→Fr→St→Prop)(k:Nat)(hi:I k fr st)(h:∀k fr st,I k fr st→Code C ro c fr st (Ynf I k P))(q:∀e fr' st',P e fr' st'→Run C K (some (.ex e fr' st')) Q):Run C K (exR (C.code ro (.loop c) fr st)) Q:=
 Zbo (Code.loop h k fr st hi) q
section
variable {C:Cx} {K:List Kf} {Q:Rs→Prop} {ro:Option Nat} {a b c:Zah} {fr:Fr} {st:St}
def Yez:Run C K (exR (C.code ro .skip fr st)) Q↔Run C K (some (.ex .normal fr st)) Q:=Zau (by rw[Cx.code_eq];rfl)
def Yjp{ops}:Run C K (exR (C.code ro (.reg ops) fr st)) Q↔Run C (.reg::K) (Yd6 (mops C.call ops fr st)) Q:=Zau (by
 rw[Cx.code_eq]
 show unw C K (exR (Znk ops C.call C.code ro fr st))=unw C K (Zem C .reg (Yd6 (mops C.call ops fr st)))
 unfold Znk
 rcases mops C.call ops fr st with _|⟨_,_⟩<;>rfl)
def Ye1{ops ms}:Run C K (exR (C.code ro (.regD ops ms) fr st)) Q↔Run C (.regD ms::K) (Zmq (mopsD C.call ops fr st)) Q:=Zau (by
 rw[Cx.code_eq]
 show unw C K (exR (Zhg ops ms C.call C.code ro fr st))=unw C K (Zem C (.regD ms) (Zmq (mopsD C.call ops fr st)))
 unfold Zhg
 rcases mopsD C.call ops fr st with _|⟨fps,_,_⟩
 ·rfl
 ·simp only[Zmq,Zem,Zgs]
  cases apartOk fps ms<;>rfl)
def Yjn:Run C K (exR (C.code ro (.seq a b) fr st)) Q↔Run C (.seq ro b::K) (exR (C.code ro a fr st)) Q:=Zau (by
 rw[Cx.code_eq]
 show unw C K (exR (Zn2 a b C.call C.code ro fr st))=unw C K (Zem C (.seq ro b) (exR (C.code ro a fr st)))
 unfold Zn2
 rcases C.code ro a fr st with _|⟨e,_,_⟩
 ·rfl
 ·cases e<;>rfl)
noncomputable def Yg5(C:Cx)(ro:Option Nat)(a b:Zah)(fr:Fr)(st:St):Option V→Option Rs
 |some (.bool true)=>exR (C.code ro a fr st)
 |some (.bool false)=>exR (C.code ro b fr st)
 |_=>none
def Ye5{x}:Run C K (exR (C.code ro (.cond x a b) fr st)) Q↔Run C K (Yg5 C ro a b fr st (x.ev fr.r)) Q:=Zau (by
 rw[Cx.code_eq]
 show unw C K (exR (Zfq x a b C.call C.code ro fr st))=_
 unfold Zfq Yg5
 rcases x.ev fr.r with _|v
 ·rfl
 ·cases v<;>try rfl
  rename_i b'
  cases b'<;>rfl)
def Zy2:Yg5 C ro a b fr st (some (.bool true))=exR (C.code ro a fr st):=rfl
def Zud:Yg5 C ro a b fr st (some (.bool false))=exR (C.code ro b fr st):=rfl
def Yab{id}:Run C K (exR (C.code ro (.block id a) fr st)) Q↔Run C (.block id::K) (exR (C.code ro a fr st)) Q:=Zau (by
 rw[Cx.code_eq]
 show unw C K (exR (Zff id a C.call C.code ro fr st))=unw C K (Zem C (.block id) (exR (C.code ro a fr st)))
 unfold Zff
 rcases C.code ro a fr st with _|⟨e,_,_⟩
 ·rfl
 ·cases e with
  |exit id'=>simp only[exR,Zem,Zgs];cases Nat.beq id' id<;>rfl
  |_=>rfl)
def Ye4{id}:Run C K (exR (C.code ro (.exit id) fr st)) Q↔Run C K (some (.ex (.exit id) fr st)) Q:=Zau (by rw[Cx.code_eq];rfl)
def Yaa:Run C K (exR (C.code ro (.scope a) fr st)) Q↔Run C K (exR (C.code ro a fr st)) Q:=Zau (by rw[Cx.code_eq];rfl)
def Yjo:Run C K (exR (C.code ro .ret fr st)) Q↔Run C K (some (.ex .ret fr st)) Q:=Zau (by rw[Cx.code_eq];rfl)
def Zrn:Run C (.seq ro b::K) (some (.ex .normal fr st)) Q↔Run C K (exR (C.code ro b fr st)) Q:=Zau rfl
def Zx9{i}:Run C (.seq ro b::K) (some (.ex (.exit i) fr st)) Q↔Run C K (some (.ex (.exit i) fr st)) Q:=Zau rfl
def Ycc:Run C (.seq ro b::K) (some (.ex .ret fr st)) Q↔Run C K (some (.ex .ret fr st)) Q:=Zau rfl
def Zn0{i}:Run C (.block i::K) (some (.ex .normal fr st)) Q↔Run C K (some (.ex .normal fr st)) Q:=Zau rfl
def Zt3{i}:Run C (.block i::K) (some (.ex .ret fr st)) Q↔Run C K (some (.ex .ret fr st)) Q:=Zau rfl
def Zrp{i}:Run C (.block i::K) (some (.ex (.exit i) fr st)) Q↔Run C K (some (.ex .normal fr st)) Q:=Zau (by simp[unw,Zem,Zgs,Nat.beq_refl])
def Zpz{i j}(h:Nat.beq j i=false):Run C (.block i::K) (some (.ex (.exit j) fr st)) Q↔Run C K (some (.ex (.exit j) fr st)) Q:=Zau (by simp[unw,Zem,Zgs,h])
def Ypt:Run C (.reg::K) (some (.ops fr st)) Q↔Run C K (some (.ex .normal fr st)) Q:=Zau rfl
def Yj3:Yd6 (mops C.call [] fr st)=some (.ops fr st):=rfl
def opR(C:Cx)(K:List Kf)(Q:Rs→Prop)(d:Option Nat)(op:MOp)(ops:List Za9)(fr:Fr)(st:St):Option Bool→Prop
 |some true=>Run C (.put d ops fr::K) (Zqh (mop op C.call fr.r st)) Q
 |some false=>Run C (.put d ops fr::K) (some (.val (.tup []) st)) Q
 |none=>False
def Yfj{d op g ops}:Run C K (Yd6 (mops C.call (⟨d,op,g⟩::ops) fr st)) Q↔opR C K Q d op ops fr st (wantedV fr.r g):=by
 have e:mops C.call (⟨d,op,g⟩::ops) fr st=Zh4 C.call ⟨d,op,g⟩ (mops C.call ops) fr st:=rfl
 rw[e]
 unfold Zh4
 simp only[]
 rcases wantedV fr.r g with _|b
 ·exact Zhn
 ·cases b
  ·show _↔Run C (.put d ops fr::K) (some (.val (.tup []) st)) Q
   refine Zau ?_
   show _=unw C K (Zgs C (.put d ops fr) (.val (.tup []) st))
   simp only[Zgs]
   rcases fr.put d (.tup [])with _|_<;>rfl
  ·show _↔Run C (.put d ops fr::K) (Zqh (mop op C.call fr.r st)) Q
   refine Zau ?_
   show _=unw C K (Zem C (.put d ops fr) (Zqh (mop op C.call fr.r st)))
   rcases mop op C.call fr.r st with _|⟨v,st'⟩
   ·rfl
   ·simp only[Zqh,Zem,Zgs]
    rcases fr.put d v with _|_<;>rfl
def Yfo{d op ops}:opR C K Q d op ops fr st (some true)↔Run C (.put d ops fr::K) (Zqh (mop op C.call fr.r st)) Q:=Iff.rfl
def Ya3{d op ops}:opR C K Q d op ops fr st (some false)↔Run C (.put d ops fr::K) (some (.val (.tup []) st)) Q:=Iff.rfl
def Zzi{v:V}:Zqh (some (v,st))=some (.val v st):=rfl
def Ypu{d n m r ops v}(h:d<n):Run C (.put (some d) ops ⟨r,n,m⟩::K) (some (.val v st)) Q↔Run C K (Yd6 (mops C.call ops ⟨r.set d v,n,m⟩ st)) Q:=Zau (by simp[unw,Zem,Zgs,Fr.put,h])
def Zya{ops v}:Run C (.put none ops fr::K) (some (.val v st)) Q↔Run C K (Yd6 (mops C.call ops fr st)) Q:=Zau rfl
def Yfk:Zmq (mopsD C.call [] fr st)=some (.opsD [] fr st):=rfl
def Ymw(C:Cx)(K:List Kf)(Q:Rs→Prop)(d:Option Nat)(op:MOp)(ops:List Za9)(fr:Fr)(h:T O)(n:Nat)(w:List Nat):Option Bool→Prop
 |some true=>Run C (.putD op d ops fr n w::K) (Zqh (mop op C.call fr.r ⟨h,n,[]⟩)) Q
 |some false=>Run C (.cons ⟨some [],[],n,n⟩::K) (match fr.put d (.tup [])with|some fr'=>Zmq (mopsD C.call ops fr' ⟨h,n,w⟩)|none=>none) Q
 |none=>False
def Ya0{d op g ops h n w}:Run C K (Zmq (mopsD C.call (⟨d,op,g⟩::ops) fr ⟨h,n,w⟩)) Q↔Ymw C K Q d op ops fr h n w (wantedV fr.r g):=by
 have e:mopsD C.call (⟨d,op,g⟩::ops) fr ⟨h,n,w⟩=Zfd C.call ⟨d,op,g⟩ (mopsD C.call ops) fr ⟨h,n,w⟩:=rfl
 rw[e]
 unfold Zfd
 simp only[]
 rcases wantedV fr.r g with _|b
 ·exact Zhn
 ·cases b
  ·show _↔Run C (.cons ⟨some [],[],n,n⟩::K) (match fr.put d (.tup [])with|some fr'=>Zmq (mopsD C.call ops fr' ⟨h,n,w⟩)|none=>none) Q
   refine Zau ?_
   show _=unw C K (Zem C (.cons ⟨some [],[],n,n⟩) _)
   rcases fr.put d (.tup [])with _|fr'
   ·rfl
   ·simp only[]
    rcases mopsD C.call ops fr' ⟨h,n,w⟩with _|⟨_,_,_⟩<;>rfl
  ·show _↔Run C (.putD op d ops fr n w::K) (Zqh (mop op C.call fr.r ⟨h,n,[]⟩)) Q
   refine Zau ?_
   show _=unw C K (Zem C (.putD op d ops fr n w) (Zqh (mop op C.call fr.r ⟨h,n,[]⟩)))
   rcases mop op C.call fr.r ⟨h,n,[]⟩with _|⟨v,st'⟩
   ·rfl
   ·simp only[Zqh,Zem,Zgs]
    rcases fr.put d v with _|fr'
    ·rfl
    ·simp only[]
     rcases mopsD C.call ops fr' {st' with w:=Zad n st'.w++w} with _|⟨_,_,_⟩<;>rfl
def Ya4{d op ops h n w}:Ymw C K Q d op ops fr h n w (some true)↔Run C (.putD op d ops fr n w::K) (Zqh (mop op C.call fr.r ⟨h,n,[]⟩)) Q:=Iff.rfl
def Zxh{d n m r ops op h N w}(hd:d<n):Ymw C K Q (some d) op ops ⟨r,n,m⟩ h N w (some false)↔Run C (.cons ⟨some [],[],N,N⟩::K) (Zmq (mopsD C.call ops ⟨r.set d (.tup []),n,m⟩ ⟨h,N,w⟩)) Q:=by simp[Ymw,Fr.put,hd]
def Ztj{ops op h N w}:Ymw C K Q none op ops fr h N w (some false)↔Run C (.cons ⟨some [],[],N,N⟩::K) (Zmq (mopsD C.call ops fr ⟨h,N,w⟩)) Q:=Iff.rfl
def Ynj{op d n m r ops v N w h' n' w'}(h:d<n):Run C (.putD op (some d) ops ⟨r,n,m⟩ N w::K) (some (.val v ⟨h',n',w'⟩)) Q↔Run C (.cons (Zct r op (Zad N w') N n')::K) (Zmq (mopsD C.call ops ⟨r.set d v,n,m⟩ ⟨h',n',Zad N w'++w⟩)) Q:=Zau (by
 simp only[unw,Zem,Zgs,Fr.put,h,if_true]
 rcases mopsD C.call ops _ _ with _|⟨_,_,_⟩<;>rfl)
def Zt2{op ops v N w h' n' w'}:Run C (.putD op none ops fr N w::K) (some (.val v ⟨h',n',w'⟩)) Q↔Run C (.cons (Zct fr.r op (Zad N w') N n')::K) (Zmq (mopsD C.call ops fr ⟨h',n',Zad N w'++w⟩)) Q:=Zau (by
 simp only[unw,Zem,Zgs,Fr.put]
 rcases mopsD C.call ops _ _ with _|⟨_,_,_⟩<;>rfl)
def Ynk{fp fps}:Run C (.cons fp::K) (some (.opsD fps fr st)) Q↔Run C K (some (.opsD (fp::fps) fr st)) Q:=Zau rfl
def Zro{ms fps}(h:apartOk fps ms=true):Run C (.regD ms::K) (some (.opsD fps fr st)) Q↔Run C K (some (.ex .normal fr st)) Q:=Zau (by simp only[unw,Zem,Zgs,h])
def Ye3{g first caps args mf}(hx:C.x (.func g first caps) args st=none)(h:C.tbl g=some mf)(hl:(first++args++caps).length≤mf.ntmps):Run C K (Zqh (C.call (.func g first caps) args st)) Q↔Run C (.fin mf.results st::K) (exR (C.code none mf.body ⟨Zei .nil 0 (first++args++caps),mf.ntmps,[]⟩ ⟨st.h,st.n,[]⟩)) Q:=Zau (by
 rw[Cx.call_eq]
 unfold Zed
 rw[hx]
 simp only[Zcs,h,Zf9,Yu3.2 hl,if_false]
 show _=unw C K (Zem C (.fin mf.results st) _)
 unfold Zt7
 rcases C.code none mf.body _ _ with _|⟨e,fr1,st1⟩
 ·rfl
 ·cases e with
  |exit=>rfl
  |normal=>
   simp only[exR,Zem,Zgs]
   rcases shut st1 fr1.marks with _|st2
   ·rfl
   ·simp only[]
    rcases resV fr1.r st2 mf.results with _|_<;>rfl
  |ret=>
   simp only[exR,Zem,Zgs]
   rcases shut st1 fr1.marks with _|st2
   ·rfl
   ·simp only[]
    rcases resV fr1.r st2 mf.results with _|_<;>rfl)
def Ypx(h:T O)(n:Nat)(w:List Nat):Option (List V)→Option Rs
 |some vs=>some (.val (Zqw vs) ⟨h,n,w⟩)
 |none=>none
def Ycs{h n w vs}:Ypx h n w (some vs)=some (.val (Zqw vs) ⟨h,n,w⟩):=rfl
def Ycd{rs r n h1 n1 w1}:Run C (.fin rs st::K) (some (.ex .ret ⟨r,n,[]⟩ ⟨h1,n1,w1⟩)) Q↔Run C K (Ypx h1 n1 (Zad st.n w1++st.w) (resV r ⟨h1,n1,w1⟩ rs)) Q:=Zau (by
 simp only[unw,Zem,Zgs,shut]
 rcases resV r ⟨h1,n1,w1⟩ rs with _|_<;>rfl)
def Yce{rs r n h1 n1 w1}:Run C (.fin rs st::K) (some (.ex .normal ⟨r,n,[]⟩ ⟨h1,n1,w1⟩)) Q↔Run C K (Ypx h1 n1 (Zad st.n w1++st.w) (resV r ⟨h1,n1,w1⟩ rs)) Q:=Zau (by
 simp only[unw,Zem,Zgs,shut]
 rcases resV r ⟨h1,n1,w1⟩ rs with _|_<;>rfl)
end
def Ztx(a):mop (.convStr a)=Zeu a:=rfl
def Zra(a b):mop (.strBytes a b)=Zci a b:=rfl
def Zrf(a):mop (.bytesStr a)=Zc7 a:=rfl
def Ztu(a b):mop (.mkiface a b)=Zet a b:=rfl
def Ybi:mop .mkmap=Zhq:=rfl
def Zxp(a b):mop (.mkchan a b)=Zee a b:=rfl
def Ztt(a b c d e f):mop (.mkslice a b c d e f)=Zcq a b c d e f:=rfl
def Zrb(a b c):mop (.sliceStr a b c)=Zbj a b c:=rfl
def Ztr(a b c d e):mop (.sliceSl a b c d e)=Za4 a b c d e:=rfl
def Zrc(a b c d e f):mop (.sliceArr a b c d e f)=Zbu a b c d e f:=rfl
def Zxu(a b c d e):mop (.idxArr a b c d e)=Zfj a b c d e:=rfl
def Zxt(a b):mop (.idxStr a b)=Zeg a b:=rfl
def Zxr(a b c d e):mop (.lookup a b c d e)=Zey a b c d e:=rfl
def Zxq(a b c d):mop (.mapset a b c d)=Zef a b c d:=rfl
def Zrd(a):mop (.rangeStr a)=Zc6 a:=rfl
def Zts(a):mop (.nextStr a)=Zdz a:=rfl
def Zxs(a):mop (.lenArr a)=Zgw a:=rfl
def Ykj(a):mop (.cap a)=Zol a:=rfl
def Ynd(a):mop (.mn a)=Zlg a:=rfl
def Ync(a):mop (.mx a)=Zfh a:=rfl
def Zxw(a b c d e f):mop (.append a b c d e f)=Zdn a b c d e f:=rfl
def Yfx(a b c):mop (.copy a b c)=Zgx a b c:=rfl
def Ybm(a b c):mop (.clear a b c)=Zhr a b c:=rfl
def Ykf(a b):mop (.uns a b)=Zjn a b:=rfl
def Ybg(a):mop (.sdata a)=Zhp a:=rfl
def Yfu(a b c):mop (.ustr a b c)=Zkr a b c:=rfl
def Yki(a b):mop (.ext a b)=Zms a b:=rfl
def Ylb{ng k x y}:eqV ng (.prim k) x y=Zae ng k x y:=by cases x<;>cases y<;>rfl
attribute [simp] Yjq Yed Ynu Yez Yjp Ye1 Yjn Ye5 Zy2 Zud Yab Ye4 Yaa Yjo Zrn Zx9 Ycc Zn0 Zt3 Zrp Ypt Yj3 Yfj Yfo Ya3 Zzi Ypu Zya
 Yfk Ya0 Ya4 Zxh Ztj Ynj Zt2 Ynk Zro Ycs Ycd Yce
 Ztx Zra Zrf Ztu Ybi Zxp Ztt Zrb Ztr Zrc Zxu Zxt Zxr Zxq Zrd Zts Zxs Ykj Ynd Ync Zxw Yfx Ybm Ykf Ybg Yfu Yki Ylb
structure Keeps (h:T O) (n:Nat) (h':T O) (n':Nat):Prop where
 le:n≤n'
 get:∀i,i<n→h'.get i=h.get i
def Keeps.refl{h:T O}{n:Nat}:Keeps h n h n:=⟨Yr4 _,fun _ _=>rfl⟩
def Keeps.trans{h h1 h2:T O}{n n1 n2:Nat}(a:Keeps h n h1 n1)(b:Keeps h1 n1 h2 n2):Keeps h n h2 n2:=
 ⟨Yud a.le b.le,fun i hi=>(b.get i (Ysg hi a.le)).trans (a.get i hi)⟩
def Keeps.set{h h1:T O}{n n1:Nat}{i:Nat}{o:O}(hi:n≤i)(a:Keeps h n h1 n1):Keeps h n (h1.set i o) n1:=
 ⟨a.le,fun j hj=>by rw[T.get_set,Yr3 (by omega)];exact a.get j hj⟩
def Keeps.up{h h1:T O}{n n1 n2:Nat}(a:Keeps h n h1 n1)(hn:n1≤n2):Keeps h n h1 n2:=⟨Yud a.le hn,a.get⟩
def Ret(P:V→T O→Nat→Prop)(h:T O)(n:Nat)(w:List Nat)(v:V)(st:St):Prop:=st.w=w∧Keeps h n st.h st.n∧P v st.h st.n
abbrev Fn(C:Cx)(f:Nat)(args:List V)(h:T O)(n:Nat)(P:V→T O→Nat→Prop):Prop:=∀w,Call C (.func f [] []) args ⟨h,n,w⟩ (Ret P h n w)
def Zaf{C:Cx}{f args h n w P K Q}(hf:Fn C f args h n P)(k:∀v h' n',Keeps h n h' n'→P v h' n'→Run C K (some (.val v ⟨h',n',w⟩)) Q):Run C K (Zqh (C.call (.func f [] []) args ⟨h,n,w⟩)) Q:=
 Zd7 (hf w) fun v st'=>by
  obtain⟨h',n',w'⟩:=st'
  rintro⟨rfl,hk,hp⟩
  exact k v h' n' hk hp
def Zom{N:Nat}:∀{w:List Nat},(∀i∈w,N≤i)→Zad N w=[]
 |[],_=>rfl
 |i::w,h=>by
  have:=h i Ys0
  simp only[Zad,Yu3.2 this,if_false]
  exact Zom fun j hj=>h j (Ysu _ hj)
end Go.Mx
