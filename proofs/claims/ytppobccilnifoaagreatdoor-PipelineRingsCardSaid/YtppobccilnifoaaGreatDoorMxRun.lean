/-
  Runs with unknown values, the next step at the head: what is to be done later is a list.
-/
import Derived.Test.YtppobccilnifoaaGreatDoorMxLim
set_option linter.all false
namespace Go.Mx
open Go
inductive Rs where
 |ex (e:Ex) (fr:Fr) (st:St)
 |val (v:V) (st:St)
 |ops (fr:Fr) (st:St)
 |opsD (fps:List FP) (fr:Fr) (st:St)
inductive Kf where
 |seq (ro:Option Nat) (b:MCode)
 |block (id:Nat)
 |loop (ro:Option Nat) (c:MCode)
 |reg
 |put (d:Option Nat) (ops:List MOper) (fr:Fr)
 |regD (ms:List Nat)
 |putD (op:MOp) (d:Option Nat) (ops:List MOper) (fr:Fr) (n:Nat) (w:List Nat)
 |cons (fp:FP)
 |fin (rs:List MRes) (st:St)
def exR:Option (Ex×Fr×St)→Option Rs
 |some (e,fr,st)=>some (.ex e fr st)
 |none=>none
def valR:Option (V×St)→Option Rs
 |some (v,st)=>some (.val v st)
 |none=>none
def opsR:Option (Fr×St)→Option Rs
 |some (fr,st)=>some (.ops fr st)
 |none=>none
def opsDR:Option (List FP×Fr×St)→Option Rs
 |some (fps,fr,st)=>some (.opsD fps fr st)
 |none=>none
noncomputable def stepK(C:Cx):Kf→Rs→Option Rs
 |.seq ro b,.ex .normal fr st=>exR (C.code ro b fr st)
 |.seq _ _,.ex e fr st=>some (.ex e fr st)
 |.block id,.ex (.exit id') fr st=>match Nat.beq id' id with
  |true=>some (.ex .normal fr st)
  |false=>some (.ex (.exit id') fr st)
 |.block _,.ex e fr st=>some (.ex e fr st)
 |.loop ro c,.ex .normal fr st=>exR (C.code ro (.loop c) fr st)
 |.loop _ _,.ex e fr st=>some (.ex e fr st)
 |.reg,.ops fr st=>some (.ex .normal fr st)
 |.put d ops fr,.val v st=>match fr.put d v with
  |some fr=>opsR (mops C.call ops fr st)
  |none=>none
 |.regD ms,.opsD fps fr st=>match apartOk fps ms with
  |true=>some (.ex .normal fr st)
  |false=>none
 |.putD op d ops fr n w,.val v st'=>match fr.put d v with
  |some fr'=>match mopsD C.call ops fr' {st' with w:=oldIds n st'.w++w} with
   |some (fps,fr'',st'')=>some (.opsD (footOf fr.r op (oldIds n st'.w) n st'.n::fps) fr'' st'')
   |none=>none
  |none=>none
 |.cons fp,.opsD fps fr st=>some (.opsD (fp::fps) fr st)
 |.fin _ _,.ex (.exit _) _ _=>none
 |.fin rs st0,.ex _ fr st1=>match shut st1 fr.marks with
  |none=>none
  |some st2=>match resV fr.r st2 rs with
   |some vs=>some (.val (resOf vs) {st2 with w:=oldIds st0.n st2.w++st0.w})
   |none=>none
 |_,_=>none
noncomputable def stepO(C:Cx)(k:Kf):Option Rs→Option Rs
 |some r=>stepK C k r
 |none=>none
noncomputable def unw(C:Cx):List Kf→Option Rs→Option Rs
 |[],r=>r
 |k::K,r=>unw C K (stepO C k r)
theorem unw_none{C:Cx}:∀K,unw C K none=none
 |[]=>rfl
 |_::K=>unw_none K
structure Run (C:Cx) (K:List Kf) (r:Option Rs) (Q:Rs→Prop):Prop where
 ex:∃s,unw C K r=some s∧Q s
theorem run_congr{C:Cx}{K K':List Kf}{r r':Option Rs}{Q:Rs→Prop}(h:unw C K r=unw C K' r'):Run C K r Q↔Run C K' r' Q:=
 ⟨fun ⟨s,e,q⟩=>⟨s,h▸e,q⟩,fun ⟨s,e,q⟩=>⟨s,h.symm▸e,q⟩⟩
theorem run_none{C:Cx}{K:List Kf}{Q:Rs→Prop}:Run C K none Q↔False:=
 ⟨fun ⟨_,h,_⟩=>(by rw[unw_none]at h;cases h),fun h=>h.elim⟩
theorem run_nil{C:Cx}{s:Rs}{Q:Rs→Prop}:Run C [] (some s) Q↔Q s:=
 ⟨fun ⟨_,h,q⟩=>by simp only[unw,Option.some.injEq]at h;exact h▸q,fun q=>⟨s,rfl,q⟩⟩
structure Call (C:Cx) (g:V) (args:List V) (st:St) (P:V→St→Prop):Prop where
 ex:∃v st',C.call g args st=some (v,st')∧P v st'
structure Code (C:Cx) (ro:Option Nat) (c:MCode) (fr:Fr) (st:St) (P:Ex→Fr→St→Prop):Prop where
 ex:∃e fr' st',C.code ro c fr st=some (e,fr',st')∧P e fr' st'
def valQ(P:V→St→Prop):Rs→Prop
 |.val v st=>P v st
 |_=>False
def exQ(P:Ex→Fr→St→Prop):Rs→Prop
 |.ex e fr st=>P e fr st
 |_=>False
theorem valQ_val{P:V→St→Prop}{v st}:valQ P (.val v st)↔P v st:=Iff.rfl
theorem exQ_ex{P:Ex→Fr→St→Prop}{e fr st}:exQ P (.ex e fr st)↔P e fr st:=Iff.rfl
theorem call_run{C:Cx}{g args st P}:Call C g args st P↔Run C [] (valR (C.call g args st)) (valQ P):=by
 constructor
 ·rintro⟨v,st',h,p⟩
  exact⟨.val v st',by rw[h];rfl,p⟩
 ·rintro⟨s,h,q⟩
  cases hc:C.call g args st with
  |none=>rw[hc]at h;cases h
  |some r=>
   rw[hc]at h
   simp only[unw,valR,Option.some.injEq]at h
   subst h
   exact⟨_,_,hc,q⟩
theorem code_run{C:Cx}{ro c fr st P}:Code C ro c fr st P↔Run C [] (exR (C.code ro c fr st)) (exQ P):=by
 constructor
 ·rintro⟨e,fr',st',h,p⟩
  exact⟨.ex e fr' st',by rw[h];rfl,p⟩
 ·rintro⟨s,h,q⟩
  cases hc:C.code ro c fr st with
  |none=>rw[hc]at h;cases h
  |some r=>
   rw[hc]at h
   simp only[unw,exR,Option.some.injEq]at h
   subst h
   exact⟨_,_,_,hc,q⟩
theorem run_call{C:Cx}{g args st P K Q}(h:Call C g args st P)(k:∀v st',P v st'→Run C K (some (.val v st')) Q):Run C K (valR (C.call g args st)) Q:=by
 obtain⟨v,st',e,p⟩:=h.ex
 rw[e]
 exact k v st' p
theorem run_code{C:Cx}{ro c fr st P K Q}(h:Code C ro c fr st P)(k:∀e fr' st',P e fr' st'→Run C K (some (.ex e fr' st')) Q):Run C K (exR (C.code ro c fr st)) Q:=by
 obtain⟨e,fr',st',h,p⟩:=h.ex
 rw[h]
 exact k e fr' st' p
theorem Call.mono{C:Cx}{g args st}{P Q:V→St→Prop}(h:Call C g args st P)(k:∀v st',P v st'→Q v st'):Call C g args st Q:=by
 obtain⟨v,st',e,p⟩:=h.ex
 exact⟨v,st',e,k v st' p⟩
def loopQ(I:Nat→Fr→St→Prop)(k:Nat)(P:Ex→Fr→St→Prop):Ex→Fr→St→Prop
 |.normal,fr,st=>∃k',k'<k∧I k' fr st
 |e,fr,st=>P e fr st
theorem Code.loop{C:Cx}{ro c}{P:Ex→Fr→St→Prop}{I:Nat→Fr→St→Prop}(h:∀k fr st,I k fr st→Code C ro c fr st (loopQ I k P)):∀(k:Nat) (fr:Fr) (st:St),I k fr st→Code C ro (.loop c) fr st P:=by
 intro k
 induction k using Nat.strongRecOn with
 |_ k ih=>
  intro fr st hi
  obtain⟨e,fr',st',h1,p⟩:=(h k fr st hi).ex
  have e1:C.code ro (.loop c) fr st=c_loop c C.call C.code ro fr st:=Cx.code_eq ro (.loop c) fr st
  unfold c_loop at e1
  rw[h1]at e1
  cases e with
  |normal=>
   obtain⟨k',hk,hi'⟩:=p
   obtain⟨e2,fr2,st2,h2,p2⟩:=(ih k' hk fr' st' hi').ex
   exact⟨e2,fr2,st2,e1.trans h2,p2⟩
  |exit id=>exact⟨_,_,_,e1,p⟩
  |ret=>exact⟨_,_,_,e1,p⟩
theorem run_loop{C:Cx}{ro c}{K:List Kf}{Q:Rs→Prop}{fr:Fr}{st:St}(P:Ex→Fr→St→Prop)(I:Nat→Fr→St→Prop)(k:Nat)(hi:I k fr st)(h:∀k fr st,I k fr st→Code C ro c fr st (loopQ I k P))(q:∀e fr' st',P e fr' st'→Run C K (some (.ex e fr' st')) Q):Run C K (exR (C.code ro (.loop c) fr st)) Q:=
 run_code (Code.loop h k fr st hi) q
section
variable {C:Cx} {K:List Kf} {Q:Rs→Prop} {ro:Option Nat} {a b c:MCode} {fr:Fr} {st:St}
theorem run_skip:Run C K (exR (C.code ro .skip fr st)) Q↔Run C K (some (.ex .normal fr st)) Q:=run_congr (by rw[Cx.code_eq];rfl)
theorem run_reg{ops}:Run C K (exR (C.code ro (.reg ops) fr st)) Q↔Run C (.reg::K) (opsR (mops C.call ops fr st)) Q:=run_congr (by
 rw[Cx.code_eq]
 show unw C K (exR (c_reg ops C.call C.code ro fr st))=unw C K (stepO C .reg (opsR (mops C.call ops fr st)))
 unfold c_reg
 rcases mops C.call ops fr st with _|⟨_,_⟩<;>rfl)
theorem run_regD{ops ms}:Run C K (exR (C.code ro (.regD ops ms) fr st)) Q↔Run C (.regD ms::K) (opsDR (mopsD C.call ops fr st)) Q:=run_congr (by
 rw[Cx.code_eq]
 show unw C K (exR (c_regD ops ms C.call C.code ro fr st))=unw C K (stepO C (.regD ms) (opsDR (mopsD C.call ops fr st)))
 unfold c_regD
 rcases mopsD C.call ops fr st with _|⟨fps,_,_⟩
 ·rfl
 ·simp only[opsDR,stepO,stepK]
  cases apartOk fps ms<;>rfl)
theorem run_seq:Run C K (exR (C.code ro (.seq a b) fr st)) Q↔Run C (.seq ro b::K) (exR (C.code ro a fr st)) Q:=run_congr (by
 rw[Cx.code_eq]
 show unw C K (exR (c_seq a b C.call C.code ro fr st))=unw C K (stepO C (.seq ro b) (exR (C.code ro a fr st)))
 unfold c_seq
 rcases C.code ro a fr st with _|⟨e,_,_⟩
 ·rfl
 ·cases e<;>rfl)
noncomputable def condR(C:Cx)(ro:Option Nat)(a b:MCode)(fr:Fr)(st:St):Option V→Option Rs
 |some (.bool true)=>exR (C.code ro a fr st)
 |some (.bool false)=>exR (C.code ro b fr st)
 |_=>none
theorem run_cond{x}:Run C K (exR (C.code ro (.cond x a b) fr st)) Q↔Run C K (condR C ro a b fr st (x.ev fr.r)) Q:=run_congr (by
 rw[Cx.code_eq]
 show unw C K (exR (c_cond x a b C.call C.code ro fr st))=_
 unfold c_cond condR
 rcases x.ev fr.r with _|v
 ·rfl
 ·cases v<;>try rfl
  rename_i b'
  cases b'<;>rfl)
theorem condR_true:condR C ro a b fr st (some (.bool true))=exR (C.code ro a fr st):=rfl
theorem condR_false:condR C ro a b fr st (some (.bool false))=exR (C.code ro b fr st):=rfl
theorem run_block{id}:Run C K (exR (C.code ro (.block id a) fr st)) Q↔Run C (.block id::K) (exR (C.code ro a fr st)) Q:=run_congr (by
 rw[Cx.code_eq]
 show unw C K (exR (c_block id a C.call C.code ro fr st))=unw C K (stepO C (.block id) (exR (C.code ro a fr st)))
 unfold c_block
 rcases C.code ro a fr st with _|⟨e,_,_⟩
 ·rfl
 ·cases e with
  |exit id'=>simp only[exR,stepO,stepK];cases Nat.beq id' id<;>rfl
  |_=>rfl)
theorem run_exit{id}:Run C K (exR (C.code ro (.exit id) fr st)) Q↔Run C K (some (.ex (.exit id) fr st)) Q:=run_congr (by rw[Cx.code_eq];rfl)
theorem run_scope:Run C K (exR (C.code ro (.scope a) fr st)) Q↔Run C K (exR (C.code ro a fr st)) Q:=run_congr (by rw[Cx.code_eq];rfl)
theorem run_ret:Run C K (exR (C.code ro .ret fr st)) Q↔Run C K (some (.ex .ret fr st)) Q:=run_congr (by rw[Cx.code_eq];rfl)
theorem k_seq_normal:Run C (.seq ro b::K) (some (.ex .normal fr st)) Q↔Run C K (exR (C.code ro b fr st)) Q:=run_congr rfl
theorem k_seq_exit{i}:Run C (.seq ro b::K) (some (.ex (.exit i) fr st)) Q↔Run C K (some (.ex (.exit i) fr st)) Q:=run_congr rfl
theorem k_seq_ret:Run C (.seq ro b::K) (some (.ex .ret fr st)) Q↔Run C K (some (.ex .ret fr st)) Q:=run_congr rfl
theorem k_block_normal{i}:Run C (.block i::K) (some (.ex .normal fr st)) Q↔Run C K (some (.ex .normal fr st)) Q:=run_congr rfl
theorem k_block_ret{i}:Run C (.block i::K) (some (.ex .ret fr st)) Q↔Run C K (some (.ex .ret fr st)) Q:=run_congr rfl
theorem k_block_exit{i}:Run C (.block i::K) (some (.ex (.exit i) fr st)) Q↔Run C K (some (.ex .normal fr st)) Q:=run_congr (by simp[unw,stepO,stepK,Nat.beq_refl])
theorem k_block_exit'{i j}(h:Nat.beq j i=false):Run C (.block i::K) (some (.ex (.exit j) fr st)) Q↔Run C K (some (.ex (.exit j) fr st)) Q:=run_congr (by simp[unw,stepO,stepK,h])
theorem k_reg:Run C (.reg::K) (some (.ops fr st)) Q↔Run C K (some (.ex .normal fr st)) Q:=run_congr rfl
theorem ops_nil:opsR (mops C.call [] fr st)=some (.ops fr st):=rfl
def opR(C:Cx)(K:List Kf)(Q:Rs→Prop)(d:Option Nat)(op:MOp)(ops:List MOper)(fr:Fr)(st:St):Option Bool→Prop
 |some true=>Run C (.put d ops fr::K) (valR (mop op C.call fr.r st)) Q
 |some false=>Run C (.put d ops fr::K) (some (.val (.tup []) st)) Q
 |none=>False
theorem ops_cons{d op g ops}:Run C K (opsR (mops C.call (⟨d,op,g⟩::ops) fr st)) Q↔opR C K Q d op ops fr st (wantedV fr.r g):=by
 have e:mops C.call (⟨d,op,g⟩::ops) fr st=opStep C.call ⟨d,op,g⟩ (mops C.call ops) fr st:=rfl
 rw[e]
 unfold opStep
 simp only[]
 rcases wantedV fr.r g with _|b
 ·exact run_none
 ·cases b
  ·show _↔Run C (.put d ops fr::K) (some (.val (.tup []) st)) Q
   refine run_congr ?_
   show _=unw C K (stepK C (.put d ops fr) (.val (.tup []) st))
   simp only[stepK]
   rcases fr.put d (.tup [])with _|_<;>rfl
  ·show _↔Run C (.put d ops fr::K) (valR (mop op C.call fr.r st)) Q
   refine run_congr ?_
   show _=unw C K (stepO C (.put d ops fr) (valR (mop op C.call fr.r st)))
   rcases mop op C.call fr.r st with _|⟨v,st'⟩
   ·rfl
   ·simp only[valR,stepO,stepK]
    rcases fr.put d v with _|_<;>rfl
theorem opR_true{d op ops}:opR C K Q d op ops fr st (some true)↔Run C (.put d ops fr::K) (valR (mop op C.call fr.r st)) Q:=Iff.rfl
theorem opR_false{d op ops}:opR C K Q d op ops fr st (some false)↔Run C (.put d ops fr::K) (some (.val (.tup []) st)) Q:=Iff.rfl
theorem valR_some{v:V}:valR (some (v,st))=some (.val v st):=rfl
theorem k_put{d n m r ops v}(h:d<n):Run C (.put (some d) ops ⟨r,n,m⟩::K) (some (.val v st)) Q↔Run C K (opsR (mops C.call ops ⟨r.set d v,n,m⟩ st)) Q:=run_congr (by simp[unw,stepO,stepK,Fr.put,h])
theorem k_put_none{ops v}:Run C (.put none ops fr::K) (some (.val v st)) Q↔Run C K (opsR (mops C.call ops fr st)) Q:=run_congr rfl
theorem opsD_nil:opsDR (mopsD C.call [] fr st)=some (.opsD [] fr st):=rfl
def opRD(C:Cx)(K:List Kf)(Q:Rs→Prop)(d:Option Nat)(op:MOp)(ops:List MOper)(fr:Fr)(h:T O)(n:Nat)(w:List Nat):Option Bool→Prop
 |some true=>Run C (.putD op d ops fr n w::K) (valR (mop op C.call fr.r ⟨h,n,[]⟩)) Q
 |some false=>Run C (.cons ⟨some [],[],n,n⟩::K) (match fr.put d (.tup [])with|some fr'=>opsDR (mopsD C.call ops fr' ⟨h,n,w⟩)|none=>none) Q
 |none=>False
theorem opsD_cons{d op g ops h n w}:Run C K (opsDR (mopsD C.call (⟨d,op,g⟩::ops) fr ⟨h,n,w⟩)) Q↔opRD C K Q d op ops fr h n w (wantedV fr.r g):=by
 have e:mopsD C.call (⟨d,op,g⟩::ops) fr ⟨h,n,w⟩=opStepD C.call ⟨d,op,g⟩ (mopsD C.call ops) fr ⟨h,n,w⟩:=rfl
 rw[e]
 unfold opStepD
 simp only[]
 rcases wantedV fr.r g with _|b
 ·exact run_none
 ·cases b
  ·show _↔Run C (.cons ⟨some [],[],n,n⟩::K) (match fr.put d (.tup [])with|some fr'=>opsDR (mopsD C.call ops fr' ⟨h,n,w⟩)|none=>none) Q
   refine run_congr ?_
   show _=unw C K (stepO C (.cons ⟨some [],[],n,n⟩) _)
   rcases fr.put d (.tup [])with _|fr'
   ·rfl
   ·simp only[]
    rcases mopsD C.call ops fr' ⟨h,n,w⟩with _|⟨_,_,_⟩<;>rfl
  ·show _↔Run C (.putD op d ops fr n w::K) (valR (mop op C.call fr.r ⟨h,n,[]⟩)) Q
   refine run_congr ?_
   show _=unw C K (stepO C (.putD op d ops fr n w) (valR (mop op C.call fr.r ⟨h,n,[]⟩)))
   rcases mop op C.call fr.r ⟨h,n,[]⟩with _|⟨v,st'⟩
   ·rfl
   ·simp only[valR,stepO,stepK]
    rcases fr.put d v with _|fr'
    ·rfl
    ·simp only[]
     rcases mopsD C.call ops fr' {st' with w:=oldIds n st'.w++w} with _|⟨_,_,_⟩<;>rfl
theorem opRD_true{d op ops h n w}:opRD C K Q d op ops fr h n w (some true)↔Run C (.putD op d ops fr n w::K) (valR (mop op C.call fr.r ⟨h,n,[]⟩)) Q:=Iff.rfl
theorem opRD_false{d n m r ops op h N w}(hd:d<n):opRD C K Q (some d) op ops ⟨r,n,m⟩ h N w (some false)↔Run C (.cons ⟨some [],[],N,N⟩::K) (opsDR (mopsD C.call ops ⟨r.set d (.tup []),n,m⟩ ⟨h,N,w⟩)) Q:=by simp[opRD,Fr.put,hd]
theorem opRD_falseN{ops op h N w}:opRD C K Q none op ops fr h N w (some false)↔Run C (.cons ⟨some [],[],N,N⟩::K) (opsDR (mopsD C.call ops fr ⟨h,N,w⟩)) Q:=Iff.rfl
theorem k_putD{op d n m r ops v N w h' n' w'}(h:d<n):Run C (.putD op (some d) ops ⟨r,n,m⟩ N w::K) (some (.val v ⟨h',n',w'⟩)) Q↔Run C (.cons (footOf r op (oldIds N w') N n')::K) (opsDR (mopsD C.call ops ⟨r.set d v,n,m⟩ ⟨h',n',oldIds N w'++w⟩)) Q:=run_congr (by
 simp only[unw,stepO,stepK,Fr.put,h,if_true]
 rcases mopsD C.call ops _ _ with _|⟨_,_,_⟩<;>rfl)
theorem k_putD_none{op ops v N w h' n' w'}:Run C (.putD op none ops fr N w::K) (some (.val v ⟨h',n',w'⟩)) Q↔Run C (.cons (footOf fr.r op (oldIds N w') N n')::K) (opsDR (mopsD C.call ops fr ⟨h',n',oldIds N w'++w⟩)) Q:=run_congr (by
 simp only[unw,stepO,stepK,Fr.put]
 rcases mopsD C.call ops _ _ with _|⟨_,_,_⟩<;>rfl)
theorem k_cons{fp fps}:Run C (.cons fp::K) (some (.opsD fps fr st)) Q↔Run C K (some (.opsD (fp::fps) fr st)) Q:=run_congr rfl
theorem k_regD{ms fps}(h:apartOk fps ms=true):Run C (.regD ms::K) (some (.opsD fps fr st)) Q↔Run C K (some (.ex .normal fr st)) Q:=run_congr (by simp only[unw,stepO,stepK,h])
theorem run_func{g first caps args mf}(hx:C.x (.func g first caps) args st=none)(h:C.tbl g=some mf)(hl:(first++args++caps).length≤mf.ntmps):Run C K (valR (C.call (.func g first caps) args st)) Q↔Run C (.fin mf.results st::K) (exR (C.code none mf.body ⟨setRegs .nil 0 (first++args++caps),mf.ntmps,[]⟩ ⟨st.h,st.n,[]⟩)) Q:=run_congr (by
 rw[Cx.call_eq]
 unfold orCall
 rw[hx]
 simp only[callStep,h,funcRun,Nat.not_lt.2 hl,if_false]
 show _=unw C K (stepO C (.fin mf.results st) _)
 unfold funcEnd
 rcases C.code none mf.body _ _ with _|⟨e,fr1,st1⟩
 ·rfl
 ·cases e with
  |exit=>rfl
  |normal=>
   simp only[exR,stepO,stepK]
   rcases shut st1 fr1.marks with _|st2
   ·rfl
   ·simp only[]
    rcases resV fr1.r st2 mf.results with _|_<;>rfl
  |ret=>
   simp only[exR,stepO,stepK]
   rcases shut st1 fr1.marks with _|st2
   ·rfl
   ·simp only[]
    rcases resV fr1.r st2 mf.results with _|_<;>rfl)
def finR(h:T O)(n:Nat)(w:List Nat):Option (List V)→Option Rs
 |some vs=>some (.val (resOf vs) ⟨h,n,w⟩)
 |none=>none
theorem finR_some{h n w vs}:finR h n w (some vs)=some (.val (resOf vs) ⟨h,n,w⟩):=rfl
theorem k_fin_ret{rs r n h1 n1 w1}:Run C (.fin rs st::K) (some (.ex .ret ⟨r,n,[]⟩ ⟨h1,n1,w1⟩)) Q↔Run C K (finR h1 n1 (oldIds st.n w1++st.w) (resV r ⟨h1,n1,w1⟩ rs)) Q:=run_congr (by
 simp only[unw,stepO,stepK,shut]
 rcases resV r ⟨h1,n1,w1⟩ rs with _|_<;>rfl)
theorem k_fin_end{rs r n h1 n1 w1}:Run C (.fin rs st::K) (some (.ex .normal ⟨r,n,[]⟩ ⟨h1,n1,w1⟩)) Q↔Run C K (finR h1 n1 (oldIds st.n w1++st.w) (resV r ⟨h1,n1,w1⟩ rs)) Q:=run_congr (by
 simp only[unw,stepO,stepK,shut]
 rcases resV r ⟨h1,n1,w1⟩ rs with _|_<;>rfl)
end
theorem mop_convStr(a):mop (.convStr a)=op_convStr a:=rfl
theorem mop_strBytes(a b):mop (.strBytes a b)=op_strBytes a b:=rfl
theorem mop_bytesStr(a):mop (.bytesStr a)=op_bytesStr a:=rfl
theorem mop_mkiface(a b):mop (.mkiface a b)=op_mkiface a b:=rfl
theorem mop_mkmap:mop .mkmap=op_mkmap:=rfl
theorem mop_mkchan(a b):mop (.mkchan a b)=op_mkchan a b:=rfl
theorem mop_mkslice(a b c d e f):mop (.mkslice a b c d e f)=op_mkslice a b c d e f:=rfl
theorem mop_sliceStr(a b c):mop (.sliceStr a b c)=op_sliceStr a b c:=rfl
theorem mop_sliceSl(a b c d e):mop (.sliceSl a b c d e)=op_sliceSl a b c d e:=rfl
theorem mop_sliceArr(a b c d e f):mop (.sliceArr a b c d e f)=op_sliceArr a b c d e f:=rfl
theorem mop_idxArr(a b c d e):mop (.idxArr a b c d e)=op_idxArr a b c d e:=rfl
theorem mop_idxStr(a b):mop (.idxStr a b)=op_idxStr a b:=rfl
theorem mop_lookup(a b c d e):mop (.lookup a b c d e)=op_lookup a b c d e:=rfl
theorem mop_mapset(a b c d):mop (.mapset a b c d)=op_mapset a b c d:=rfl
theorem mop_rangeStr(a):mop (.rangeStr a)=op_rangeStr a:=rfl
theorem mop_nextStr(a):mop (.nextStr a)=op_nextStr a:=rfl
theorem mop_lenArr(a):mop (.lenArr a)=op_lenArr a:=rfl
theorem mop_cap(a):mop (.cap a)=op_cap a:=rfl
theorem mop_mn(a):mop (.mn a)=op_mn a:=rfl
theorem mop_mx(a):mop (.mx a)=op_mx a:=rfl
theorem mop_append(a b c d e f):mop (.append a b c d e f)=op_append a b c d e f:=rfl
theorem mop_copy(a b c):mop (.copy a b c)=op_copy a b c:=rfl
theorem mop_clear(a b c):mop (.clear a b c)=op_clear a b c:=rfl
theorem mop_uns(a b):mop (.uns a b)=op_uns a b:=rfl
theorem mop_sdata(a):mop (.sdata a)=op_sdata a:=rfl
theorem mop_ustr(a b c):mop (.ustr a b c)=op_ustr a b c:=rfl
theorem mop_ext(a b):mop (.ext a b)=op_ext a b:=rfl
theorem eqV_prm{ng k x y}:eqV ng (.prim k) x y=eqPrim ng k x y:=by cases x<;>cases y<;>rfl
attribute [simp] run_nil valQ_val exQ_ex run_skip run_reg run_regD run_seq run_cond condR_true condR_false run_block run_exit run_scope run_ret k_seq_normal k_seq_exit k_seq_ret k_block_normal k_block_ret k_block_exit k_reg ops_nil ops_cons opR_true opR_false valR_some k_put k_put_none
 opsD_nil opsD_cons opRD_true opRD_false opRD_falseN k_putD k_putD_none k_cons k_regD finR_some k_fin_ret k_fin_end
 mop_convStr mop_strBytes mop_bytesStr mop_mkiface mop_mkmap mop_mkchan mop_mkslice mop_sliceStr mop_sliceSl mop_sliceArr mop_idxArr mop_idxStr mop_lookup mop_mapset mop_rangeStr mop_nextStr mop_lenArr mop_cap mop_mn mop_mx mop_append mop_copy mop_clear mop_uns mop_sdata mop_ustr mop_ext eqV_prm
structure Keeps (h:T O) (n:Nat) (h':T O) (n':Nat):Prop where
 le:n≤n'
 get:∀i,i<n→h'.get i=h.get i
theorem Keeps.refl{h:T O}{n:Nat}:Keeps h n h n:=⟨Nat.le_refl _,fun _ _=>rfl⟩
theorem Keeps.trans{h h1 h2:T O}{n n1 n2:Nat}(a:Keeps h n h1 n1)(b:Keeps h1 n1 h2 n2):Keeps h n h2 n2:=
 ⟨Nat.le_trans a.le b.le,fun i hi=>(b.get i (Nat.lt_of_lt_of_le hi a.le)).trans (a.get i hi)⟩
theorem Keeps.set{h h1:T O}{n n1:Nat}{i:Nat}{o:O}(hi:n≤i)(a:Keeps h n h1 n1):Keeps h n (h1.set i o) n1:=
 ⟨a.le,fun j hj=>by rw[T.get_set,if_neg (by omega)];exact a.get j hj⟩
theorem Keeps.up{h h1:T O}{n n1 n2:Nat}(a:Keeps h n h1 n1)(hn:n1≤n2):Keeps h n h1 n2:=⟨Nat.le_trans a.le hn,a.get⟩
def Ret(P:V→T O→Nat→Prop)(h:T O)(n:Nat)(w:List Nat)(v:V)(st:St):Prop:=st.w=w∧Keeps h n st.h st.n∧P v st.h st.n
abbrev Fn(C:Cx)(f:Nat)(args:List V)(h:T O)(n:Nat)(P:V→T O→Nat→Prop):Prop:=∀w,Call C (.func f [] []) args ⟨h,n,w⟩ (Ret P h n w)
theorem run_fn{C:Cx}{f args h n w P K Q}(hf:Fn C f args h n P)(k:∀v h' n',Keeps h n h' n'→P v h' n'→Run C K (some (.val v ⟨h',n',w⟩)) Q):Run C K (valR (C.call (.func f [] []) args ⟨h,n,w⟩)) Q:=
 run_call (hf w) fun v st'=>by
  obtain⟨h',n',w'⟩:=st'
  rintro⟨rfl,hk,hp⟩
  exact k v h' n' hk hp
theorem oldIds_new{N:Nat}:∀{w:List Nat},(∀i∈w,N≤i)→oldIds N w=[]
 |[],_=>rfl
 |i::w,h=>by
  have:=h i List.mem_cons_self
  simp only[oldIds,Nat.not_lt.2 this,if_false]
  exact oldIds_new fun j hj=>h j (List.mem_cons_of_mem _ hj)
end Go.Mx
