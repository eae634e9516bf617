/-Runs with unknown values, the next step -/
import Derived.Test.YtjjmkflbfpeagaaGreatDoorMxLim
set_option linter.all false
namespace Go.Mx
noncomputable section
open Go
inductive Rs where
 |ex (e:Ex) (fr:Fr) (st:St)
 |val (v:V) (st:St)
 |ops (fr:Fr) (st:St)
 |pA (gl:List FP) (fr:Fr) (st:St)
inductive Kf where
 |seq (ro:Option Nat) (b:cj)
 |block (id:Nat)
 |loop (ro:Option Nat) (c:cj)
 |fL
 |put (d:Option Nat) (ops:List dk) (fr:Fr)
 |fy (ms:List Nat)
 |td (op:fS) (d:Option Nat) (ops:List dk) (fr:Fr) (n:Nat) (w:List Nat)
 |cons (fp:FP)
 |fin (rs:List Dk) (st:St)
def eR:Option (Ex×Fr×St)->Option Rs
 |some (e,fr,st)=>some (.ex e fr st)
 |none=>none
def qi:Option (V×St)->Option Rs
 |some (v,st)=>some (.val v st)
 |none=>none
def zG:Option (Fr×St)->Option Rs
 |some (fr,st)=>some (.ops fr st)
 |none=>none
def yf:Option (List FP×Fr×St)->Option Rs
 |some (gl,fr,st)=>some (.pA gl fr st)
 |none=>none
def qP(C:Cx):Kf->Rs->Option Rs
 |.seq ro b,.ex .normal fr st=>eR (C.code ro b fr st)
 |.seq _ _,.ex e fr st=>some (.ex e fr st)
 |.block id,.ex (.exit zj) fr st=>match Nat.beq zj id with
  |true=>some (.ex .normal fr st)
  |false=>some (.ex (.exit zj) fr st)
 |.block _,.ex e fr st=>some (.ex e fr st)
 |.loop ro c,.ex .normal fr st=>eR (C.code ro (.loop c) fr st)
 |.loop _ _,.ex e fr st=>some (.ex e fr st)
 |.fL,.ops fr st=>some (.ex .normal fr st)
 |.put d ops fr,.val v st=>match fr.put d v with
  |some fr=>zG (dm C.call ops fr st)
  |none=>none
 |.fy ms,.pA gl fr st=>match gO gl ms with
  |true=>some (.ex .normal fr st)
  |false=>none
 |.td op d ops fr n w,.val v ax=>match fr.put d v with
  |some bB=>match bI C.call ops bB {ax with w:=aB n ax.w++w} with
   |some (gl,fr'',st'')=>some (.pA (nw fr.r op (aB n ax.w) n ax.n::gl) fr'' st'')
   |none=>none
  |none=>none
 |.cons fp,.pA gl fr st=>some (.pA (fp::gl) fr st)
 |.fin _ _,.ex (.exit _) _ _=>none
 |.fin rs JM,.ex _ fr bU=>match shut bU fr.marks with
  |none=>none
  |some eI=>match gm fr.r eI rs with
   |some vs=>some (.val (B0 vs) {eI with w:=aB JM.n eI.w++JM.w})
   |none=>none
 |_,_=>none
def lh(C:Cx)(k:Kf):Option Rs->Option Rs
 |some r=>qP C k r
 |none=>none
def iJ(C:Cx):List Kf->Option Rs->Option Rs
 |[],r=>r
 |k::K,r=>iJ C K (lh C k r)
def Zuz{C:Cx}:∀K,iJ C K none=none
 |[]=>rfl
 |_::K=>Zuz K
structure bD (C:Cx) (K:List Kf) (r:Option Rs) (Q:Rs->Prop):Prop where
 ex:∃s,iJ C K r=some s/\Q s
def iI{C:Cx}{K K':List Kf}{r r':Option Rs}{Q:Rs->Prop}(h:iJ C K r=iJ C K' r'):bD C K r Q↔bD C K' r' Q:=
 ⟨fun ⟨s,e,q⟩=>⟨s,h▸e,q⟩,fun ⟨s,e,q⟩=>⟨s,h.symm▸e,q⟩⟩
def GY{C:Cx}{K:List Kf}{Q:Rs->Prop}:bD C K none Q↔False:=
 ⟨fun ⟨_,h,_⟩=>(by rw[Zuz]at h;cases h),fun h=>h.elim⟩
def Yjk{C:Cx}{s:Rs}{Q:Rs->Prop}:bD C [] (some s) Q↔Q s:=
 ⟨fun ⟨_,h,q⟩=>by simp only[iJ,ak]at h;exact h▸q,fun q=>⟨s,rfl,q⟩⟩
structure Call (C:Cx) (g:V) (args:List V) (st:St) (P:V->St->Prop):Prop where
 ex:∃v ax,C.call g args st=some (v,ax)/\P v ax
structure Code (C:Cx) (ro:Option Nat) (c:cj) (fr:Fr) (st:St) (P:Ex->Fr->St->Prop):Prop where
 ex:∃e bB ax,C.code ro c fr st=some (e,bB,ax)/\P e bB ax
def AU(P:V->St->Prop):Rs->Prop
 |.val v st=>P v st
 |_=>False
def Tp(P:Ex->Fr->St->Prop):Rs->Prop
 |.ex e fr st=>P e fr st
 |_=>False
def Yel{P:V->St->Prop}{v st}:AU P (.val v st)↔P v st:=Iff.rfl
def Yn2{P:Ex->Fr->St->Prop}{e fr st}:Tp P (.ex e fr st)↔P e fr st:=Iff.rfl
def aQ{C:Cx}{g args st P}:Call C g args st P↔bD C [] (qi (C.call g args st)) (AU P):=by
 constructor
 ·rintro⟨v,ax,h,p⟩
  exact⟨.val v ax,by rw[h];rfl,p⟩
 ·rintro⟨s,h,q⟩
  cases hc:C.call g args st with
  |none=>rw[hc]at h;cases h
  |some r=>
   rw[hc]at h
   simp only[iJ,qi,ak]at h
   subst h
   exact⟨_,_,hc,q⟩
def cm{C:Cx}{ro c fr st P}:Code C ro c fr st P↔bD C [] (eR (C.code ro c fr st)) (Tp P):=by
 constructor
 ·rintro⟨e,bB,ax,h,p⟩
  exact⟨.ex e bB ax,by rw[h];rfl,p⟩
 ·rintro⟨s,h,q⟩
  cases hc:C.code ro c fr st with
  |none=>rw[hc]at h;cases h
  |some r=>
   rw[hc]at h
   simp only[iJ,eR,ak]at h
   subst h
   exact⟨_,_,_,hc,q⟩
def zK{C:Cx}{g args st P K Q}(h:Call C g args st P)(k:∀v ax,P v ax->bD C K (some (.val v ax)) Q):bD C K (qi (C.call g args st)) Q:=by
 obtain⟨v,ax,e,p⟩:=h.ex
 rw[e]
 exact k v ax p
def nP{C:Cx}{ro c fr st P K Q}(h:Code C ro c fr st P)(k:∀e bB ax,P e bB ax->bD C K (some (.ex e bB ax)) Q):bD C K (eR (C.code ro c fr st)) Q:=by
 obtain⟨e,bB,ax,h,p⟩:=h.ex
 rw[h]
 exact k e bB ax p
def Call.mono{C:Cx}{g args st}{P Q:V->St->Prop}(h:Call C g args st P)(k:∀v ax,P v ax->Q v ax):Call C g args st Q:=by
 obtain⟨v,ax,e,p⟩:=h.ex
 exact⟨v,ax,e,k v ax p⟩
def Ynl(I:Nat->Fr->St->Prop)(k:Nat)(P:Ex->Fr->St->Prop):Ex->Fr->St->Prop
 |.normal,fr,st=>∃k',k'<k/\I k' fr st
 |e,fr,st=>P e fr st
def Code.loop{C:Cx}{ro c}{P:Ex->Fr->St->Prop}{I:Nat->Fr->St->Prop}(h:∀k fr st,I k fr st->Code C ro c fr st (Ynl I k P)):∀(k:Nat) (fr:Fr) (st:St),I k fr st->Code C ro (.loop c) fr st P:=by
 intro k
 induction k using Nat.strongRecOn with
 |_ k ih=>
  intro fr st hi
  obtain⟨e,bB,ax,h1,p⟩:=(h k fr st hi).ex
  have e1:C.code ro (.loop c) fr st=zk c C.call C.code ro fr st:=Cx.du ro (.loop c) fr st
  unfold zk at e1
  rw[h1]at e1
  cases e with
  |normal=>
   obtain⟨k',hk,iV⟩:=p
   obtain⟨e2,wo,eI,h2,p2⟩:=(ih k' hk bB ax iV).ex
   exact⟨e2,wo,eI,e1.trans h2,p2⟩
  |exit id=>exact⟨_,_,_,e1,p⟩
  |ret=>exact⟨_,_,_,e1,p⟩
def Ye7{C:Cx}{ro c}{K:List Kf}{Q:Rs->Prop}{fr:Fr}{st:St}(P:Ex->Fr->St->Prop)(I:Nat->Fr->St->Prop)(k:Nat)(hi:I k fr st)(h:∀k fr st,I k fr st->Code C ro c fr st (Ynl I k P))(q:∀e bB ax,P e bB ax->bD C K (some (.ex e bB ax)) Q):bD C K (eR (C.code ro (.loop c) fr st)) Q:=
 nP (Code.loop h k fr st hi) q
section
variable {C:Cx} {K:List Kf} {Q:Rs->Prop} {ro:Option Nat} {a b c:cj} {fr:Fr} {st:St}
def Ye4:bD C K (eR (C.code ro .skip fr st)) Q↔bD C K (some (.ex .normal fr st)) Q:=iI (by rw[Cx.du];rfl)
def Yjj{ops}:bD C K (eR (C.code ro (.fL ops) fr st)) Q↔bD C (.fL::K) (zG (dm C.call ops fr st)) Q:=iI (by
 rw[Cx.du]
 show iJ C K (eR (xr ops C.call C.code ro fr st))=iJ C K (lh C .fL (zG (dm C.call ops fr st)))
 unfold xr
 rcases dm C.call ops fr st with _|⟨_,_⟩<;>rfl)
def Ye6{ops ms}:bD C K (eR (C.code ro (.fy ops ms) fr st)) Q↔bD C (.fy ms::K) (yf (bI C.call ops fr st)) Q:=iI (by
 rw[Cx.du]
 show iJ C K (eR (xp ops ms C.call C.code ro fr st))=iJ C K (lh C (.fy ms) (yf (bI C.call ops fr st)))
 unfold xp
 rcases bI C.call ops fr st with _|⟨gl,_,_⟩
 ·rfl
 ·simp only[yf,lh,qP]
  cases gO gl ms<;>rfl)
def Yjh:bD C K (eR (C.code ro (.seq a b) fr st)) Q↔bD C (.seq ro b::K) (eR (C.code ro a fr st)) Q:=iI (by
 rw[Cx.du]
 show iJ C K (eR (zh a b C.call C.code ro fr st))=iJ C K (lh C (.seq ro b) (eR (C.code ro a fr st)))
 unfold zh
 rcases C.code ro a fr st with _|⟨e,_,_⟩
 ·rfl
 ·cases e<;>rfl)
def NU(C:Cx)(ro:Option Nat)(a b:cj)(fr:Fr)(st:St):Option V->Option Rs
 |some (.bool true)=>eR (C.code ro a fr st)
 |some (.bool false)=>eR (C.code ro b fr st)
 |_=>none
def Yfa{x}:bD C K (eR (C.code ro (.cond x a b) fr st)) Q↔bD C K (NU C ro a b fr st (x.ev fr.r)) Q:=iI (by
 rw[Cx.du]
 show iJ C K (eR (vk x a b C.call C.code ro fr st))=_
 unfold vk NU
 rcases x.ev fr.r with _|v
 ·rfl
 ·cases v<;>try rfl
  rename_i b'
  cases b'<;>rfl)
def Zzg:NU C ro a b fr st (some (.bool true))=eR (C.code ro a fr st):=rfl
def Zuk:NU C ro a b fr st (some (.bool false))=eR (C.code ro b fr st):=rfl
def Yal{id}:bD C K (eR (C.code ro (.block id a) fr st)) Q↔bD C (.block id::K) (eR (C.code ro a fr st)) Q:=iI (by
 rw[Cx.du]
 show iJ C K (eR (zi id a C.call C.code ro fr st))=iJ C K (lh C (.block id) (eR (C.code ro a fr st)))
 unfold zi
 rcases C.code ro a fr st with _|⟨e,_,_⟩
 ·rfl
 ·cases e with
  |exit zj=>simp only[eR,lh,qP];cases Nat.beq zj id<;>rfl
  |_=>rfl)
def Ye9{id}:bD C K (eR (C.code ro (.exit id) fr st)) Q↔bD C K (some (.ex (.exit id) fr st)) Q:=iI (by rw[Cx.du];rfl)
def Yak:bD C K (eR (C.code ro (.scope a) fr st)) Q↔bD C K (eR (C.code ro a fr st)) Q:=iI (by rw[Cx.du];rfl)
def Yji:bD C K (eR (C.code ro .ret fr st)) Q↔bD C K (some (.ex .ret fr st)) Q:=iI (by rw[Cx.du];rfl)
def Zrp:bD C (.seq ro b::K) (some (.ex .normal fr st)) Q↔bD C K (eR (C.code ro b fr st)) Q:=iI rfl
def Zyi{i}:bD C (.seq ro b::K) (some (.ex (.exit i) fr st)) Q↔bD C K (some (.ex (.exit i) fr st)) Q:=iI rfl
def Ycg:bD C (.seq ro b::K) (some (.ex .ret fr st)) Q↔bD C K (some (.ex .ret fr st)) Q:=iI rfl
def Zn6{i}:bD C (.block i::K) (some (.ex .normal fr st)) Q↔bD C K (some (.ex .normal fr st)) Q:=iI rfl
def Zt8{i}:bD C (.block i::K) (some (.ex .ret fr st)) Q↔bD C K (some (.ex .ret fr st)) Q:=iI rfl
def Zrr{i}:bD C (.block i::K) (some (.ex (.exit i) fr st)) Q↔bD C K (some (.ex .normal fr st)) Q:=iI (by simp[iJ,lh,qP,Nat.beq_refl])
def Zpx{i j}(h:Nat.beq j i=false):bD C (.block i::K) (some (.ex (.exit j) fr st)) Q↔bD C K (some (.ex (.exit j) fr st)) Q:=iI (by simp[iJ,lh,qP,h])
def Yp2:bD C (.fL::K) (some (.ops fr st)) Q↔bD C K (some (.ex .normal fr st)) Q:=iI rfl
def Yj3:zG (dm C.call [] fr st)=some (.ops fr st):=rfl
def Tq(C:Cx)(K:List Kf)(Q:Rs->Prop)(d:Option Nat)(op:fS)(ops:List dk)(fr:Fr)(st:St):Option Bool->Prop
 |some true=>bD C (.put d ops fr::K) (qi (bX op C.call fr.r st)) Q
 |some false=>bD C (.put d ops fr::K) (some (.val (.aY []) st)) Q
 |none=>False
def Yfn{d op g ops}:bD C K (zG (dm C.call (⟨d,op,g⟩::ops) fr st)) Q↔Tq C K Q d op ops fr st (bM fr.r g):=by
 have e:dm C.call (⟨d,op,g⟩::ops) fr st=zg C.call ⟨d,op,g⟩ (dm C.call ops) fr st:=rfl
 rw[e]
 unfold zg
 simp only[]
 rcases bM fr.r g with _|b
 ·exact GY
 ·cases b
  ·show _↔bD C (.put d ops fr::K) (some (.val (.aY []) st)) Q
   refine iI ?_
   show _=iJ C K (qP C (.put d ops fr) (.val (.aY []) st))
   simp only[qP]
   rcases fr.put d (.aY [])with _|_<;>rfl
  ·show _↔bD C (.put d ops fr::K) (qi (bX op C.call fr.r st)) Q
   refine iI ?_
   show _=iJ C K (lh C (.put d ops fr) (qi (bX op C.call fr.r st)))
   rcases bX op C.call fr.r st with _|⟨v,ax⟩
   ·rfl
   ·simp only[qi,lh,qP]
    rcases fr.put d v with _|_<;>rfl
def Yfs{d op ops}:Tq C K Q d op ops fr st (some true)↔bD C (.put d ops fr::K) (qi (bX op C.call fr.r st)) Q:=Iff.rfl
def Ya6{d op ops}:Tq C K Q d op ops fr st (some false)↔bD C (.put d ops fr::K) (some (.val (.aY []) st)) Q:=Iff.rfl
def Zzy{v:V}:qi (some (v,st))=some (.val v st):=rfl
def Yp3{d n m r ops v}(h:d<n):bD C (.put (some d) ops ⟨r,n,m⟩::K) (some (.val v st)) Q↔bD C K (zG (dm C.call ops ⟨r.set d v,n,m⟩ st)) Q:=iI (by simp[iJ,lh,qP,Fr.put,h])
def Zyj{ops v}:bD C (.put none ops fr::K) (some (.val v st)) Q↔bD C K (zG (dm C.call ops fr st)) Q:=iI rfl
def Yfo:yf (bI C.call [] fr st)=some (.pA [] fr st):=rfl
def JN(C:Cx)(K:List Kf)(Q:Rs->Prop)(d:Option Nat)(op:fS)(ops:List dk)(fr:Fr)(h:T O)(n:Nat)(w:List Nat):Option Bool->Prop
 |some true=>bD C (.td op d ops fr n w::K) (qi (bX op C.call fr.r ⟨h,n,[]⟩)) Q
 |some false=>bD C (.cons ⟨some [],[],n,n⟩::K) (match fr.put d (.aY [])with|some bB=>yf (bI C.call ops bB ⟨h,n,w⟩)|none=>none) Q
 |none=>False
def Ya4{d op g ops h n w}:bD C K (yf (bI C.call (⟨d,op,g⟩::ops) fr ⟨h,n,w⟩)) Q↔JN C K Q d op ops fr h n w (bM fr.r g):=by
 have e:bI C.call (⟨d,op,g⟩::ops) fr ⟨h,n,w⟩=zy C.call ⟨d,op,g⟩ (bI C.call ops) fr ⟨h,n,w⟩:=rfl
 rw[e]
 unfold zy
 simp only[]
 rcases bM fr.r g with _|b
 ·exact GY
 ·cases b
  ·show _↔bD C (.cons ⟨some [],[],n,n⟩::K) (match fr.put d (.aY [])with|some bB=>yf (bI C.call ops bB ⟨h,n,w⟩)|none=>none) Q
   refine iI ?_
   show _=iJ C K (lh C (.cons ⟨some [],[],n,n⟩) _)
   rcases fr.put d (.aY [])with _|bB
   ·rfl
   ·simp only[]
    rcases bI C.call ops bB ⟨h,n,w⟩with _|⟨_,_,_⟩<;>rfl
  ·show _↔bD C (.td op d ops fr n w::K) (qi (bX op C.call fr.r ⟨h,n,[]⟩)) Q
   refine iI ?_
   show _=iJ C K (lh C (.td op d ops fr n w) (qi (bX op C.call fr.r ⟨h,n,[]⟩)))
   rcases bX op C.call fr.r ⟨h,n,[]⟩with _|⟨v,ax⟩
   ·rfl
   ·simp only[qi,lh,qP]
    rcases fr.put d v with _|bB
    ·rfl
    ·simp only[]
     rcases bI C.call ops bB {ax with w:=aB n ax.w++w} with _|⟨_,_,_⟩<;>rfl
def Ya7{d op ops h n w}:JN C K Q d op ops fr h n w (some true)↔bD C (.td op d ops fr n w::K) (qi (bX op C.call fr.r ⟨h,n,[]⟩)) Q:=Iff.rfl
def Zxo{d n m r ops op h N w}(hd:d<n):JN C K Q (some d) op ops ⟨r,n,m⟩ h N w (some false)↔bD C (.cons ⟨some [],[],N,N⟩::K) (yf (bI C.call ops ⟨r.set d (.aY []),n,m⟩ ⟨h,N,w⟩)) Q:=by simp[JN,Fr.put,hd]
def Ztn{ops op h N w}:JN C K Q none op ops fr h N w (some false)↔bD C (.cons ⟨some [],[],N,N⟩::K) (yf (bI C.call ops fr ⟨h,N,w⟩)) Q:=Iff.rfl
def Yno{op d n m r ops v N w h' n' w'}(h:d<n):bD C (.td op (some d) ops ⟨r,n,m⟩ N w::K) (some (.val v ⟨h',n',w'⟩)) Q↔bD C (.cons (nw r op (aB N w') N n')::K) (yf (bI C.call ops ⟨r.set d v,n,m⟩ ⟨h',n',aB N w'++w⟩)) Q:=iI (by
 simp only[iJ,lh,qP,Fr.put,h,if_true]
 rcases bI C.call ops _ _ with _|⟨_,_,_⟩<;>rfl)
def Zt7{op ops v N w h' n' w'}:bD C (.td op none ops fr N w::K) (some (.val v ⟨h',n',w'⟩)) Q↔bD C (.cons (nw fr.r op (aB N w') N n')::K) (yf (bI C.call ops fr ⟨h',n',aB N w'++w⟩)) Q:=iI (by
 simp only[iJ,lh,qP,Fr.put]
 rcases bI C.call ops _ _ with _|⟨_,_,_⟩<;>rfl)
def Ynp{fp gl}:bD C (.cons fp::K) (some (.pA gl fr st)) Q↔bD C K (some (.pA (fp::gl) fr st)) Q:=iI rfl
def Ir{ms gl}(h:gO gl ms=true):bD C (.fy ms::K) (some (.pA gl fr st)) Q↔bD C K (some (.ex .normal fr st)) Q:=iI (by simp only[iJ,lh,qP,h])
def Ye8{g first fT args mf}(hx:C.x (.func g first fT) args st=none)(h:C.dw g=some mf)(hl:(first++args++fT).length<=mf.ntmps):bD C K (qi (C.call (.func g first fT) args st)) Q↔bD C (.fin mf.results st::K) (eR (C.code none mf.body ⟨wJ .nil 0 (first++args++fT),mf.ntmps,[]⟩ ⟨st.h,st.n,[]⟩)) Q:=iI (by
 rw[Cx.px]
 unfold qG
 rw[hx]
 simp only[vE,h,Az,vz.2 hl,if_false]
 show _=iJ C K (lh C (.fin mf.results st) _)
 unfold Sf
 rcases C.code none mf.body _ _ with _|⟨e,dE,bU⟩
 ·rfl
 ·cases e with
  |exit=>rfl
  |normal=>
   simp only[eR,lh,qP]
   rcases shut bU dE.marks with _|eI
   ·rfl
   ·simp only[]
    rcases gm dE.r eI mf.results with _|_<;>rfl
  |ret=>
   simp only[eR,lh,qP]
   rcases shut bU dE.marks with _|eI
   ·rfl
   ·simp only[]
    rcases gm dE.r eI mf.results with _|_<;>rfl)
def Tr(h:T O)(n:Nat)(w:List Nat):Option (List V)->Option Rs
 |some vs=>some (.val (B0 vs) ⟨h,n,w⟩)
 |none=>none
def Ycz{h n w vs}:Tr h n w (some vs)=some (.val (B0 vs) ⟨h,n,w⟩):=rfl
def Ych{rs r n h1 n1 w1}:bD C (.fin rs st::K) (some (.ex .ret ⟨r,n,[]⟩ ⟨h1,n1,w1⟩)) Q↔bD C K (Tr h1 n1 (aB st.n w1++st.w) (gm r ⟨h1,n1,w1⟩ rs)) Q:=iI (by
 simp only[iJ,lh,qP,shut]
 rcases gm r ⟨h1,n1,w1⟩ rs with _|_<;>rfl)
def Yci{rs r n h1 n1 w1}:bD C (.fin rs st::K) (some (.ex .normal ⟨r,n,[]⟩ ⟨h1,n1,w1⟩)) Q↔bD C K (Tr h1 n1 (aB st.n w1++st.w) (gm r ⟨h1,n1,w1⟩ rs)) Q:=iI (by
 simp only[iJ,lh,qP,shut]
 rcases gm r ⟨h1,n1,w1⟩ rs with _|_<;>rfl)
end
def Zt1(a):bX (.kW a)=GG a:=rfl
def Zra(a b):bX (.iZ a b)=BT a b:=rfl
def Zrg(a):bX (.mJ a)=DI a:=rfl
def Zty(a b):bX (.gQ a b)=GH a b:=rfl
def Ybr:bX .uv=GI:=rfl
def Zxy(a b):bX (.oY a b)=BU a b:=rfl
def Ztx(a b c d e f):bX (.i_ a b c d e f)=Av a b c d e f:=rfl
def Zrb(a b c):bX (.cr a b c)=wF a b c:=rfl
def Ztu(a b c d e):bX (.kY a b c d e)=po a b c d e:=rfl
def Zrc(a b c d e f):bX (.ja a b c d e f)=xG a b c d e f:=rfl
def Zx3(a b c d e):bX (.oZ a b c d e)=GJ a b c d e:=rfl
def Zx2(a b):bX (.bG a b)=BW a b:=rfl
def Zx0(a b c d e):bX (.lookup a b c d e)=DM a b c d e:=rfl
def Zxz(a b c d):bX (.sI a b c d)=BX a b c d:=rfl
def Zrd(a):bX (.jb a)=DN a:=rfl
def Ztv(a):bX (.o8 a)=DO a:=rfl
def Zre(a):bX (.rangeMap a)=II a:=rfl
def Ztw(a):bX (.o9 a)=IJ a:=rfl
def Zx1(a):bX (.mD a)=IK a:=rfl
def Ykm(a):bX (.cap a)=GK a:=rfl
def Ynk(a):bX (.mn a)=wH a:=rfl
def Ynj(a):bX (.mx a)=pr a:=rfl
def Zx5(a b c d e f):bX (.append a b c d e f)=Ax a b c d e f:=rfl
def Yf1(a b c):bX (.copy a b c)=BY a b c:=rfl
def Ybv(a b c):bX (.clear a b c)=GL a b c:=rfl
def Yki(a b):bX (.Gt a b)=BZ a b:=rfl
def Ybp(a):bX (.xw a)=GM a:=rfl
def Yfy(a b c):bX (.Df a b c)=GN a b c:=rfl
def Ykl(a b):bX (.ext a b)=DQ a b:=rfl
def Ylh{ng k x y}:rB ng (.cQ k) x y=aW ng k x y:=by cases x<;>cases y<;>rfl
attribute [simp] Yjk Yel Yn2 Ye4 Yjj Ye6 Yjh Yfa Zzg Zuk Yal Ye9 Yak Yji Zrp Zyi Ycg Zn6 Zt8 Zrr Yp2 Yj3 Yfn Yfs Ya6 Zzy Yp3 Zyj
 Yfo Ya4 Ya7 Zxo Ztn Yno Zt7 Ynp Ir Ycz Ych Yci
 Zt1 Zra Zrg Zty Ybr Zxy Ztx Zrb Ztu Zrc Zx3 Zx2 Zx0 Zxz Zrd Ztv Zre Ztw Zx1 Ykm Ynk Ynj Zx5 Yf1 Ybv Yki Ybp Yfy Ykl Ylh
structure ad (h:T O) (n:Nat) (h':T O) (n':Nat):Prop where
 le:n<=n'
 get:∀i,i<n->h'.get i=h.get i
def ad.refl{h:T O}{n:Nat}:ad h n h n:=⟨aR _,fun _ _=>rfl⟩
def ad.trans{h h1 h2:T O}{n n1 n2:Nat}(a:ad h n h1 n1)(b:ad h1 n1 h2 n2):ad h n h2 n2:=
 ⟨qz a.le b.le,fun i hi=>(b.get i (ic hi a.le)).trans (a.get i hi)⟩
def ad.set{h h1:T O}{n n1:Nat}{i:Nat}{o:O}(hi:n<=i)(a:ad h n h1 n1):ad h n (h1.set i o) n1:=
 ⟨a.le,fun j hj=>by rw[T.ai,aq (by omega)];exact a.get j hj⟩
def ad.up{h h1:T O}{n n1 n2:Nat}(a:ad h n h1 n1)(hn:n1<=n2):ad h n h1 n2:=⟨qz a.le hn,a.get⟩
def aA(P:V->T O->Nat->Prop)(h:T O)(n:Nat)(w:List Nat)(v:V)(st:St):Prop:=st.w=w/\ad h n st.h st.n/\P v st.h st.n
abbrev Fn(C:Cx)(f:Nat)(args:List V)(h:T O)(n:Nat)(P:V->T O->Nat->Prop):Prop:=∀w,Call C (.func f [] []) args ⟨h,n,w⟩ (aA P h n w)
def au{C:Cx}{f args h n w P K Q}(hf:Fn C f args h n P)(k:∀v h' n',ad h n h' n'->P v h' n'->bD C K (some (.val v ⟨h',n',w⟩)) Q):bD C K (qi (C.call (.func f [] []) args ⟨h,n,w⟩)) Q:=
 zK (hf w) fun v ax=>by
  obtain⟨h',n',w'⟩:=ax
  rintro⟨rfl,hk,hp⟩
  exact k v h' n' hk hp
def ZW{N:Nat}:∀{w:List Nat},(∀i∈w,N<=i)->aB N w=[]
 |[],_=>rfl
 |i::w,h=>by
  have:=h i nT
  simp only[aB,vz.2 this,if_false]
  exact ZW fun j hj=>h j (nt _ hj)
end
end Go.Mx
