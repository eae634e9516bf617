/-Runs with unknown values, the next step -/
import Derived.Test.YtdlikflhcjmkeaaGreatDoorMxLim
set_option linter.all false
namespace Go.Mx
noncomputable section
open Go
inductive Rs where
 |ex (e:Ex) (fr:Fr) (st:St)
 |val (v:V) (st:St)
 |ops (fr:Fr) (st:St)
 |opsD (fps:List FP) (fr:Fr) (st:St)
inductive Kf where
 |seq (ro:Option Nat) (b:Zaz)
 |block (id:Nat)
 |loop (ro:Option Nat) (c:Zaz)
 |reg
 |put (d:Option Nat) (ops:List Za9) (fr:Fr)
 |regD (ms:List Nat)
 |putD (op:MOp) (d:Option Nat) (ops:List Za9) (fr:Fr) (n:Nat) (w:List Nat)
 |cons (fp:FP)
 |fin (rs:List Ykp) (st:St)
def exR:Option (Ex×Fr×St)→Option Rs
 |some (e,fr,st)=>some (.ex e fr st)
 |none=>none
def Zpr:Option (V×St)→Option Rs
 |some (v,st)=>some (.val v st)
 |none=>none
def Ycx:Option (Fr×St)→Option Rs
 |some (fr,st)=>some (.ops fr st)
 |none=>none
def Zmc:Option (List FP×Fr×St)→Option Rs
 |some (fps,fr,st)=>some (.opsD fps fr st)
 |none=>none
def Zgq(C:Cx):Kf→Rs→Option Rs
 |.seq ro b,.ex .normal fr st=>exR (C.code ro b fr st)
 |.seq _ _,.ex e fr st=>some (.ex e fr st)
 |.block id,.ex (.exit id') fr st=>match Nat.beq id' id with
  |true=>some (.ex .normal fr st)
  |false=>some (.ex (.exit id') fr st)
 |.block _,.ex e fr st=>some (.ex e fr st)
 |.loop ro c,.ex .normal fr st=>exR (C.code ro (.loop c) fr st)
 |.loop _ _,.ex e fr st=>some (.ex e fr st)
 |.reg,.ops fr st=>some (.ex .normal fr st)
 |.put d ops fr,.val v st=>match fr.put d v with
  |some fr=>Ycx (mops C.call ops fr st)
  |none=>none
 |.regD ms,.opsD fps fr st=>match apartOk fps ms with
  |true=>some (.ex .normal fr st)
  |false=>none
 |.putD op d ops fr n w,.val v st'=>match fr.put d v with
  |some fr'=>match mopsD C.call ops fr' {st' with w:=Zac n st'.w++w} with
   |some (fps,fr'',st'')=>some (.opsD (Zcm fr.r op (Zac n st'.w) n st'.n::fps) fr'' st'')
   |none=>none
  |none=>none
 |.cons fp,.opsD fps fr st=>some (.opsD (fp::fps) fr st)
 |.fin _ _,.ex (.exit _) _ _=>none
 |.fin rs st0,.ex _ fr st1=>match shut st1 fr.marks with
  |none=>none
  |some st2=>match resV fr.r st2 rs with
   |some vs=>some (.val (Zqa vs) {st2 with w:=Zac st0.n st2.w++st0.w})
   |none=>none
 |_,_=>none
def Zek(C:Cx)(k:Kf):Option Rs→Option Rs
 |some r=>Zgq C k r
 |none=>none
def unw(C:Cx):List Kf→Option Rs→Option Rs
 |[],r=>r
 |k::K,r=>unw C K (Zek C k r)
def Zt0{C:Cx}:∀K,unw C K none=none
 |[]=>rfl
 |_::K=>Zt0 K
structure Run (C:Cx) (K:List Kf) (r:Option Rs) (Q:Rs→Prop):Prop where
 ex:∃s,unw C K r=some s∧Q s
def Zav{C:Cx}{K K':List Kf}{r r':Option Rs}{Q:Rs→Prop}(h:unw C K r=unw C K' r'):Run C K r Q↔Run C K' r' Q:=
 ⟨fun ⟨s,e,q⟩=>⟨s,h▸e,q⟩,fun ⟨s,e,q⟩=>⟨s,h.symm▸e,q⟩⟩
def Zhj{C:Cx}{K:List Kf}{Q:Rs→Prop}:Run C K none Q↔False:=
 ⟨fun ⟨_,h,_⟩=>(by rw[Zt0]at h;cases h),fun h=>h.elim⟩
def Yhx{C:Cx}{s:Rs}{Q:Rs→Prop}:Run C [] (some s) Q↔Q s:=
 ⟨fun ⟨_,h,q⟩=>by simp only[unw,Yqc]at h;exact h▸q,fun q=>⟨s,rfl,q⟩⟩
structure Call (C:Cx) (g:V) (args:List V) (st:St) (P:V→St→Prop):Prop where
 ex:∃v st',C.call g args st=some (v,st')∧P v st'
structure Code (C:Cx) (ro:Option Nat) (c:Zaz) (fr:Fr) (st:St) (P:Ex→Fr→St→Prop):Prop where
 ex:∃e fr' st',C.code ro c fr st=some (e,fr',st')∧P e fr' st'
def Yc5(P:V→St→Prop):Rs→Prop
 |.val v st=>P v st
 |_=>False
def exQ(P:Ex→Fr→St→Prop):Rs→Prop
 |.ex e fr st=>P e fr st
 |_=>False
def Yc4{P:V→St→Prop}{v st}:Yc5 P (.val v st)↔P v st:=Iff.rfl
def Yl6{P:Ex→Fr→St→Prop}{e fr st}:exQ P (.ex e fr st)↔P e fr st:=Iff.rfl
def Zab{C:Cx}{g args st P}:Call C g args st P↔Run C [] (Zpr (C.call g args st)) (Yc5 P):=by
 constructor
 ·rintro⟨v,st',h,p⟩
  exact⟨.val v st',by rw[h];rfl,p⟩
 ·rintro⟨s,h,q⟩
  cases hc:C.call g args st with
  |none=>rw[hc]at h;cases h
  |some r=>
   rw[hc]at h
   simp only[unw,Zpr,Yqc]at h
   subst h
   exact⟨_,_,hc,q⟩
def Zai{C:Cx}{ro c fr st P}:Code C ro c fr st P↔Run C [] (exR (C.code ro c fr st)) (exQ P):=by
 constructor
 ·rintro⟨e,fr',st',h,p⟩
  exact⟨.ex e fr' st',by rw[h];rfl,p⟩
 ·rintro⟨s,h,q⟩
  cases hc:C.code ro c fr st with
  |none=>rw[hc]at h;cases h
  |some r=>
   rw[hc]at h
   simp only[unw,exR,Yqc]at h
   subst h
   exact⟨_,_,_,hc,q⟩
def Zd3{C:Cx}{g args st P K Q}(h:Call C g args st P)(k:∀v st',P v st'→Run C K (some (.val v st')) Q):Run C K (Zpr (C.call g args st)) Q:=by
 obtain⟨v,st',e,p⟩:=h.ex
 rw[e]
 exact k v st' p
def Zbo{C:Cx}{ro c fr st P K Q}(h:Code C ro c fr st P)(k:∀e fr' st',P e fr' st'→Run C K (some (.ex e fr' st')) Q):Run C K (exR (C.code ro c fr st)) Q:=by
 obtain⟨e,fr',st',h,p⟩:=h.ex
 rw[h]
 exact k e fr' st' p
def Call.mono{C:Cx}{g args st}{P Q:V→St→Prop}(h:Call C g args st P)(k:∀v st',P v st'→Q v st'):Call C g args st Q:=by
 obtain⟨v,st',e,p⟩:=h.ex
 exact⟨v,st',e,k v st' p⟩
def Ylt(I:Nat→Fr→St→Prop)(k:Nat)(P:Ex→Fr→St→Prop):Ex→Fr→St→Prop
 |.normal,fr,st=>∃k',k'<k∧I k' fr st
 |e,fr,st=>P e fr st
def Code.loop{C:Cx}{ro c}{P:Ex→Fr→St→Prop}{I:Nat→Fr→St→Prop}(h:∀k fr st,I k fr st→Code C ro c fr st (Ylt I k P)):∀(k:Nat) (fr:Fr) (st:St),I k fr st→Code C ro (.loop c) fr st P:=by
 intro k
 induction k using Nat.strongRecOn with
 |_ k ih=>
  intro fr st hi
  obtain⟨e,fr',st',h1,p⟩:=(h k fr st hi).ex
  have e1:C.code ro (.loop c) fr st=Zh3 c C.call C.code ro fr st:=Cx.code_eq ro (.loop c) fr st
  unfold Zh3 at e1
  rw[h1]at e1
  cases e with
  |normal=>
   obtain⟨k',hk,hi'⟩:=p
   obtain⟨e2,fr2,st2,h2,p2⟩:=(ih k' hk fr' st' hi').ex
   exact⟨e2,fr2,st2,e1.trans h2,p2⟩
  |exit id=>exact⟨_,_,_,e1,p⟩
  |ret=>exact⟨_,_,_,e1,p⟩
def Ydr{C:Cx}{ro c}{K:List Kf}{Q:Rs→Prop}{fr:Fr}{st:St}(P:Ex→Fr→St→Prop)(I:Nat→Fr→St→Prop)(k:Nat)(hi:I k fr st)(h:∀k fr st,I k fr st→Code C ro c fr st (Ylt I k P))(q:∀e fr' st',P e fr' st'→Run C K (some (.ex e fr' st')) Q):Run C K (exR (C.code ro (.loop c) fr st)) Q:=
 Zbo (Code.loop h k fr st hi) q
section
variable {C:Cx} {K:List Kf} {Q:Rs→Prop} {ro:Option Nat} {a b c:Zaz} {fr:Fr} {st:St}
def Ydo:Run C K (exR (C.code ro .skip fr st)) Q↔Run C K (some (.ex .normal fr st)) Q:=Zav (by rw[Cx.code_eq];rfl)
def Yhw{ops}:Run C K (exR (C.code ro (.reg ops) fr st)) Q↔Run C (.reg::K) (Ycx (mops C.call ops fr st)) Q:=Zav (by
 rw[Cx.code_eq]
 show unw C K (exR (Zm5 ops C.call C.code ro fr st))=unw C K (Zek C .reg (Ycx (mops C.call ops fr st)))
 unfold Zm5
 rcases mops C.call ops fr st with _|⟨_,_⟩<;>rfl)
def Ydq{ops ms}:Run C K (exR (C.code ro (.regD ops ms) fr st)) Q↔Run C (.regD ms::K) (Zmc (mopsD C.call ops fr st)) Q:=Zav (by
 rw[Cx.code_eq]
 show unw C K (exR (Zhb ops ms C.call C.code ro fr st))=unw C K (Zek C (.regD ms) (Zmc (mopsD C.call ops fr st)))
 unfold Zhb
 rcases mopsD C.call ops fr st with _|⟨fps,_,_⟩
 ·rfl
 ·simp only[Zmc,Zek,Zgq]
  cases apartOk fps ms<;>rfl)
def Yhu:Run C K (exR (C.code ro (.seq a b) fr st)) Q↔Run C (.seq ro b::K) (exR (C.code ro a fr st)) Q:=Zav (by
 rw[Cx.code_eq]
 show unw C K (exR (Znm a b C.call C.code ro fr st))=unw C K (Zek C (.seq ro b) (exR (C.code ro a fr st)))
 unfold Znm
 rcases C.code ro a fr st with _|⟨e,_,_⟩
 ·rfl
 ·cases e<;>rfl)
def Yfk(C:Cx)(ro:Option Nat)(a b:Zaz)(fr:Fr)(st:St):Option V→Option Rs
 |some (.bool true)=>exR (C.code ro a fr st)
 |some (.bool false)=>exR (C.code ro b fr st)
 |_=>none
def Ydu{x}:Run C K (exR (C.code ro (.cond x a b) fr st)) Q↔Run C K (Yfk C ro a b fr st (x.ev fr.r)) Q:=Zav (by
 rw[Cx.code_eq]
 show unw C K (exR (Zfn x a b C.call C.code ro fr st))=_
 unfold Zfn Yfk
 rcases x.ev fr.r with _|v
 ·rfl
 ·cases v<;>try rfl
  rename_i b'
  cases b'<;>rfl)
def Zx7:Yfk C ro a b fr st (some (.bool true))=exR (C.code ro a fr st):=rfl
def Ztk:Yfk C ro a b fr st (some (.bool false))=exR (C.code ro b fr st):=rfl
def Zzb{id}:Run C K (exR (C.code ro (.block id a) fr st)) Q↔Run C (.block id::K) (exR (C.code ro a fr st)) Q:=Zav (by
 rw[Cx.code_eq]
 show unw C K (exR (Zfa id a C.call C.code ro fr st))=unw C K (Zek C (.block id) (exR (C.code ro a fr st)))
 unfold Zfa
 rcases C.code ro a fr st with _|⟨e,_,_⟩
 ·rfl
 ·cases e with
  |exit id'=>simp only[exR,Zek,Zgq];cases Nat.beq id' id<;>rfl
  |_=>rfl)
def Ydt{id}:Run C K (exR (C.code ro (.exit id) fr st)) Q↔Run C K (some (.ex (.exit id) fr st)) Q:=Zav (by rw[Cx.code_eq];rfl)
def Zza:Run C K (exR (C.code ro (.scope a) fr st)) Q↔Run C K (exR (C.code ro a fr st)) Q:=Zav (by rw[Cx.code_eq];rfl)
def Yhv:Run C K (exR (C.code ro .ret fr st)) Q↔Run C K (some (.ex .ret fr st)) Q:=Zav (by rw[Cx.code_eq];rfl)
def Zqz:Run C (.seq ro b::K) (some (.ex .normal fr st)) Q↔Run C K (exR (C.code ro b fr st)) Q:=Zav rfl
def Zxb{i}:Run C (.seq ro b::K) (some (.ex (.exit i) fr st)) Q↔Run C K (some (.ex (.exit i) fr st)) Q:=Zav rfl
def Ya2:Run C (.seq ro b::K) (some (.ex .ret fr st)) Q↔Run C K (some (.ex .ret fr st)) Q:=Zav rfl
def Znk{i}:Run C (.block i::K) (some (.ex .normal fr st)) Q↔Run C K (some (.ex .normal fr st)) Q:=Zav rfl
def Ztc{i}:Run C (.block i::K) (some (.ex .ret fr st)) Q↔Run C K (some (.ex .ret fr st)) Q:=Zav rfl
def Zq0{i}:Run C (.block i::K) (some (.ex (.exit i) fr st)) Q↔Run C K (some (.ex .normal fr st)) Q:=Zav (by simp[unw,Zek,Zgq,Nat.beq_refl])
def Zpa{i j}(h:Nat.beq j i=false):Run C (.block i::K) (some (.ex (.exit j) fr st)) Q↔Run C K (some (.ex (.exit j) fr st)) Q:=Zav (by simp[unw,Zek,Zgq,h])
def Ynz:Run C (.reg::K) (some (.ops fr st)) Q↔Run C K (some (.ex .normal fr st)) Q:=Zav rfl
def Yig:Ycx (mops C.call [] fr st)=some (.ops fr st):=rfl
def opR(C:Cx)(K:List Kf)(Q:Rs→Prop)(d:Option Nat)(op:MOp)(ops:List Za9)(fr:Fr)(st:St):Option Bool→Prop
 |some true=>Run C (.put d ops fr::K) (Zpr (mop op C.call fr.r st)) Q
 |some false=>Run C (.put d ops fr::K) (some (.val (.tup []) st)) Q
 |none=>False
def Yd3{d op g ops}:Run C K (Ycx (mops C.call (⟨d,op,g⟩::ops) fr st)) Q↔opR C K Q d op ops fr st (wantedV fr.r g):=by
 have e:mops C.call (⟨d,op,g⟩::ops) fr st=Zh1 C.call ⟨d,op,g⟩ (mops C.call ops) fr st:=rfl
 rw[e]
 unfold Zh1
 simp only[]
 rcases wantedV fr.r g with _|b
 ·exact Zhj
 ·cases b
  ·show _↔Run C (.put d ops fr::K) (some (.val (.tup []) st)) Q
   refine Zav ?_
   show _=unw C K (Zgq C (.put d ops fr) (.val (.tup []) st))
   simp only[Zgq]
   rcases fr.put d (.tup [])with _|_<;>rfl
  ·show _↔Run C (.put d ops fr::K) (Zpr (mop op C.call fr.r st)) Q
   refine Zav ?_
   show _=unw C K (Zek C (.put d ops fr) (Zpr (mop op C.call fr.r st)))
   rcases mop op C.call fr.r st with _|⟨v,st'⟩
   ·rfl
   ·simp only[Zpr,Zek,Zgq]
    rcases fr.put d v with _|_<;>rfl
def Yd8{d op ops}:opR C K Q d op ops fr st (some true)↔Run C (.put d ops fr::K) (Zpr (mop op C.call fr.r st)) Q:=Iff.rfl
def Zzu{d op ops}:opR C K Q d op ops fr st (some false)↔Run C (.put d ops fr::K) (some (.val (.tup []) st)) Q:=Iff.rfl
def Zym{v:V}:Zpr (some (v,st))=some (.val v st):=rfl
def Yn0{d n m r ops v}(h:d<n):Run C (.put (some d) ops ⟨r,n,m⟩::K) (some (.val v st)) Q↔Run C K (Ycx (mops C.call ops ⟨r.set d v,n,m⟩ st)) Q:=Zav (by simp[unw,Zek,Zgq,Fr.put,h])
def Zxc{ops v}:Run C (.put none ops fr::K) (some (.val v st)) Q↔Run C K (Ycx (mops C.call ops fr st)) Q:=Zav rfl
def Yd4:Zmc (mopsD C.call [] fr st)=some (.opsD [] fr st):=rfl
def Yli(C:Cx)(K:List Kf)(Q:Rs→Prop)(d:Option Nat)(op:MOp)(ops:List Za9)(fr:Fr)(h:T O)(n:Nat)(w:List Nat):Option Bool→Prop
 |some true=>Run C (.putD op d ops fr n w::K) (Zpr (mop op C.call fr.r ⟨h,n,[]⟩)) Q
 |some false=>Run C (.cons ⟨some [],[],n,n⟩::K) (match fr.put d (.tup [])with|some fr'=>Zmc (mopsD C.call ops fr' ⟨h,n,w⟩)|none=>none) Q
 |none=>False
def Zzs{d op g ops h n w}:Run C K (Zmc (mopsD C.call (⟨d,op,g⟩::ops) fr ⟨h,n,w⟩)) Q↔Yli C K Q d op ops fr h n w (wantedV fr.r g):=by
 have e:mopsD C.call (⟨d,op,g⟩::ops) fr ⟨h,n,w⟩=Ze8 C.call ⟨d,op,g⟩ (mopsD C.call ops) fr ⟨h,n,w⟩:=rfl
 rw[e]
 unfold Ze8
 simp only[]
 rcases wantedV fr.r g with _|b
 ·exact Zhj
 ·cases b
  ·show _↔Run C (.cons ⟨some [],[],n,n⟩::K) (match fr.put d (.tup [])with|some fr'=>Zmc (mopsD C.call ops fr' ⟨h,n,w⟩)|none=>none) Q
   refine Zav ?_
   show _=unw C K (Zek C (.cons ⟨some [],[],n,n⟩) _)
   rcases fr.put d (.tup [])with _|fr'
   ·rfl
   ·simp only[]
    rcases mopsD C.call ops fr' ⟨h,n,w⟩with _|⟨_,_,_⟩<;>rfl
  ·show _↔Run C (.putD op d ops fr n w::K) (Zpr (mop op C.call fr.r ⟨h,n,[]⟩)) Q
   refine Zav ?_
   show _=unw C K (Zek C (.putD op d ops fr n w) (Zpr (mop op C.call fr.r ⟨h,n,[]⟩)))
   rcases mop op C.call fr.r ⟨h,n,[]⟩with _|⟨v,st'⟩
   ·rfl
   ·simp only[Zpr,Zek,Zgq]
    rcases fr.put d v with _|fr'
    ·rfl
    ·simp only[]
     rcases mopsD C.call ops fr' {st' with w:=Zac n st'.w++w} with _|⟨_,_,_⟩<;>rfl
def Zzv{d op ops h n w}:Yli C K Q d op ops fr h n w (some true)↔Run C (.putD op d ops fr n w::K) (Zpr (mop op C.call fr.r ⟨h,n,[]⟩)) Q:=Iff.rfl
def Zwj{d n m r ops op h N w}(hd:d<n):Yli C K Q (some d) op ops ⟨r,n,m⟩ h N w (some false)↔Run C (.cons ⟨some [],[],N,N⟩::K) (Zmc (mopsD C.call ops ⟨r.set d (.tup []),n,m⟩ ⟨h,N,w⟩)) Q:=by simp[Yli,Fr.put,hd]
def Zsr{ops op h N w}:Yli C K Q none op ops fr h N w (some false)↔Run C (.cons ⟨some [],[],N,N⟩::K) (Zmc (mopsD C.call ops fr ⟨h,N,w⟩)) Q:=Iff.rfl
def Ylw{op d n m r ops v N w h' n' w'}(h:d<n):Run C (.putD op (some d) ops ⟨r,n,m⟩ N w::K) (some (.val v ⟨h',n',w'⟩)) Q↔Run C (.cons (Zcm r op (Zac N w') N n')::K) (Zmc (mopsD C.call ops ⟨r.set d v,n,m⟩ ⟨h',n',Zac N w'++w⟩)) Q:=Zav (by
 simp only[unw,Zek,Zgq,Fr.put,h,if_true]
 rcases mopsD C.call ops _ _ with _|⟨_,_,_⟩<;>rfl)
def Ztb{op ops v N w h' n' w'}:Run C (.putD op none ops fr N w::K) (some (.val v ⟨h',n',w'⟩)) Q↔Run C (.cons (Zcm fr.r op (Zac N w') N n')::K) (Zmc (mopsD C.call ops fr ⟨h',n',Zac N w'++w⟩)) Q:=Zav (by
 simp only[unw,Zek,Zgq,Fr.put]
 rcases mopsD C.call ops _ _ with _|⟨_,_,_⟩<;>rfl)
def Ylx{fp fps}:Run C (.cons fp::K) (some (.opsD fps fr st)) Q↔Run C K (some (.opsD (fp::fps) fr st)) Q:=Zav rfl
def Zu1{ms fps}(h:apartOk fps ms=true):Run C (.regD ms::K) (some (.opsD fps fr st)) Q↔Run C K (some (.ex .normal fr st)) Q:=Zav (by simp only[unw,Zek,Zgq,h])
def Yds{g first caps args mf}(hx:C.x (.func g first caps) args st=none)(h:C.tbl g=some mf)(hl:(first++args++caps).length≤mf.ntmps):Run C K (Zpr (C.call (.func g first caps) args st)) Q↔Run C (.fin mf.results st::K) (exR (C.code none mf.body ⟨Zef .nil 0 (first++args++caps),mf.ntmps,[]⟩ ⟨st.h,st.n,[]⟩)) Q:=Zav (by
 rw[Cx.call_eq]
 unfold Zd9
 rw[hx]
 simp only[Zcl,h,Zf8,Yte.2 hl,if_false]
 show _=unw C K (Zek C (.fin mf.results st) _)
 unfold Ztf
 rcases C.code none mf.body _ _ with _|⟨e,fr1,st1⟩
 ·rfl
 ·cases e with
  |exit=>rfl
  |normal=>
   simp only[exR,Zek,Zgq]
   rcases shut st1 fr1.marks with _|st2
   ·rfl
   ·simp only[]
    rcases resV fr1.r st2 mf.results with _|_<;>rfl
  |ret=>
   simp only[exR,Zek,Zgq]
   rcases shut st1 fr1.marks with _|st2
   ·rfl
   ·simp only[]
    rcases resV fr1.r st2 mf.results with _|_<;>rfl)
def Yn4(h:T O)(n:Nat)(w:List Nat):Option (List V)→Option Rs
 |some vs=>some (.val (Zqa vs) ⟨h,n,w⟩)
 |none=>none
def Ybk{h n w vs}:Yn4 h n w (some vs)=some (.val (Zqa vs) ⟨h,n,w⟩):=rfl
def Ya3{rs r n h1 n1 w1}:Run C (.fin rs st::K) (some (.ex .ret ⟨r,n,[]⟩ ⟨h1,n1,w1⟩)) Q↔Run C K (Yn4 h1 n1 (Zac st.n w1++st.w) (resV r ⟨h1,n1,w1⟩ rs)) Q:=Zav (by
 simp only[unw,Zek,Zgq,shut]
 rcases resV r ⟨h1,n1,w1⟩ rs with _|_<;>rfl)
def Ya4{rs r n h1 n1 w1}:Run C (.fin rs st::K) (some (.ex .normal ⟨r,n,[]⟩ ⟨h1,n1,w1⟩)) Q↔Run C K (Yn4 h1 n1 (Zac st.n w1++st.w) (resV r ⟨h1,n1,w1⟩ rs)) Q:=Zav (by
 simp only[unw,Zek,Zgq,shut]
 rcases resV r ⟨h1,n1,w1⟩ rs with _|_<;>rfl)
end
def Zs4(a):mop (.convStr a)=Zes a:=rfl
def Zqm(a b):mop (.strBytes a b)=Zcf a b:=rfl
def Zqr(a):mop (.bytesStr a)=Zc3 a:=rfl
def Zs1(a b):mop (.mkiface a b)=Zer a b:=rfl
def Yae:mop .mkmap=Zhn:=rfl
def Zwr(a b):mop (.mkchan a b)=Zeb a b:=rfl
def Zs0(a b c d e f):mop (.mkslice a b c d e f)=Zck a b c d e f:=rfl
def Zqn(a b c):mop (.sliceStr a b c)=Zbi a b c:=rfl
def Zsy(a b c d e):mop (.sliceSl a b c d e)=Za4 a b c d e:=rfl
def Zqo(a b c d e f):mop (.sliceArr a b c d e f)=Zbt a b c d e f:=rfl
def Zww(a b c d e):mop (.idxArr a b c d e)=Zfe a b c d e:=rfl
def Zwv(a b):mop (.idxStr a b)=Zed a b:=rfl
def Zwt(a b c d e):mop (.lookup a b c d e)=Zew a b c d e:=rfl
def Zws(a b c d):mop (.mapset a b c d)=Zec a b c d:=rfl
def Zqp(a):mop (.rangeStr a)=Zc2 a:=rfl
def Zsz(a):mop (.nextStr a)=Zdv a:=rfl
def Zwu(a):mop (.lenArr a)=Zgu a:=rfl
def Yiw(a):mop (.cap a)=Zn4 a:=rfl
def Yls(a):mop (.mn a)=Zk6 a:=rfl
def Ylr(a):mop (.mx a)=Zf2 a:=rfl
def Zwy(a b c d e f):mop (.append a b c d e f)=Zdk a b c d e f:=rfl
def Yei(a b c):mop (.copy a b c)=Zgv a b c:=rfl
def Yai(a b c):mop (.clear a b c)=Zho a b c:=rfl
def Yis(a b):mop (.uns a b)=Zkw a b:=rfl
def Yac(a):mop (.sdata a)=Zhm a:=rfl
def Yef(a b c):mop (.ustr a b c)=Zki a b c:=rfl
def Yiv(a b):mop (.ext a b)=Zmg a b:=rfl
def Yjr{ng k x y}:eqV ng (.prim k) x y=Zak ng k x y:=by cases x<;>cases y<;>rfl
attribute [simp] Yhx Yc4 Yl6 Ydo Yhw Ydq Yhu Ydu Zx7 Ztk Zzb Ydt Zza Yhv Zqz Zxb Ya2 Znk Ztc Zq0 Ynz Yig Yd3 Yd8 Zzu Zym Yn0 Zxc
 Yd4 Zzs Zzv Zwj Zsr Ylw Ztb Ylx Zu1 Ybk Ya3 Ya4
 Zs4 Zqm Zqr Zs1 Yae Zwr Zs0 Zqn Zsy Zqo Zww Zwv Zwt Zws Zqp Zsz Zwu Yiw Yls Ylr Zwy Yei Yai Yis Yac Yef Yiv Yjr
structure Keeps (h:T O) (n:Nat) (h':T O) (n':Nat):Prop where
 le:n≤n'
 get:∀i,i<n→h'.get i=h.get i
def Keeps.refl{h:T O}{n:Nat}:Keeps h n h n:=⟨Yqg _,fun _ _=>rfl⟩
def Keeps.trans{h h1 h2:T O}{n n1 n2:Nat}(a:Keeps h n h1 n1)(b:Keeps h1 n1 h2 n2):Keeps h n h2 n2:=
 ⟨Yr4 a.le b.le,fun i hi=>(b.get i (Yqq hi a.le)).trans (a.get i hi)⟩
def Keeps.set{h h1:T O}{n n1:Nat}{i:Nat}{o:O}(hi:n≤i)(a:Keeps h n h1 n1):Keeps h n (h1.set i o) n1:=
 ⟨a.le,fun j hj=>by rw[T.get_set,Yqe (by omega)];exact a.get j hj⟩
def Keeps.up{h h1:T O}{n n1 n2:Nat}(a:Keeps h n h1 n1)(hn:n1≤n2):Keeps h n h1 n2:=⟨Yr4 a.le hn,a.get⟩
def Ret(P:V→T O→Nat→Prop)(h:T O)(n:Nat)(w:List Nat)(v:V)(st:St):Prop:=st.w=w∧Keeps h n st.h st.n∧P v st.h st.n
abbrev Fn(C:Cx)(f:Nat)(args:List V)(h:T O)(n:Nat)(P:V→T O→Nat→Prop):Prop:=∀w,Call C (.func f [] []) args ⟨h,n,w⟩ (Ret P h n w)
def Zaa{C:Cx}{f args h n w P K Q}(hf:Fn C f args h n P)(k:∀v h' n',Keeps h n h' n'→P v h' n'→Run C K (some (.val v ⟨h',n',w⟩)) Q):Run C K (Zpr (C.call (.func f [] []) args ⟨h,n,w⟩)) Q:=
 Zd3 (hf w) fun v st'=>by
  obtain⟨h',n',w'⟩:=st'
  rintro⟨rfl,hk,hp⟩
  exact k v h' n' hk hp
def Zn5{N:Nat}:∀{w:List Nat},(∀i∈w,N≤i)→Zac N w=[]
 |[],_=>rfl
 |i::w,h=>by
  have:=h i Yq8
  simp only[Zac,Yte.2 this,if_false]
  exact Zn5 fun j hj=>h j (Yq6 _ hj)
end
end Go.Mx
