/-The operations of M stand for the Go mod-/
import Derived.Test.YtgnadghjglamaaaGreatDoorMxOp1
set_option linter.all false
set_option maxHeartbeats 1000000
namespace Go.Mx
open Go
section
variable {P:Program} {μ:Mu} {w:World} {st st':St} {r:T V} {n:Nat} {a:Act} {call:Za1} {v:V}
def VR.int_inv{x:V}{k:IntKind}{m:Int}(h:VR μ x (.int k m)):x=.int k m:=by
 cases x<;>simp only[VR]at h<;>first
  |(cases h;rfl)
  |(cases h;done)
  |(obtain⟨_,_,h⟩:=h;cases h;done)
  |(obtain⟨_,_,_,h,_⟩:=h;cases h;done)
  |(obtain⟨_,_,h,_⟩:=h;cases h;done)
  |(obtain⟨_,h,_⟩:=h;cases h;done)
def VR.float_inv{x:V}{k:FloatKind}{m:Nat}(h:VR μ x (.float k m)):x=.flt k m:=by
 cases x<;>simp only[VR]at h<;>first
  |(cases h;rfl)
  |(cases h;done)
  |(obtain⟨_,_,h⟩:=h;cases h;done)
  |(obtain⟨_,_,_,h,_⟩:=h;cases h;done)
  |(obtain⟨_,_,h,_⟩:=h;cases h;done)
  |(obtain⟨_,h,_⟩:=h;cases h;done)
def VR.complex_inv{x:V}{k:FloatKind}{m m':Nat}(h:VR μ x (.complex k m m')):x=.cpl k m m':=by
 cases x<;>simp only[VR]at h<;>first
  |(cases h;rfl)
  |(cases h;done)
  |(obtain⟨_,_,h⟩:=h;cases h;done)
  |(obtain⟨_,_,_,h,_⟩:=h;cases h;done)
  |(obtain⟨_,_,h,_⟩:=h;cases h;done)
  |(obtain⟨_,h,_⟩:=h;cases h;done)
def VR.string_inv{x:V}{s:ByteArray}(h:VR μ x (.string s)):∃l,x=.str l:=by
 cases x<;>simp only[VR]at h<;>first
  |exact⟨_,rfl⟩
  |(cases h;done)
  |(obtain⟨_,_,h⟩:=h;cases h;done)
  |(obtain⟨_,_,_,h,_⟩:=h;cases h;done)
  |(obtain⟨_,_,h,_⟩:=h;cases h;done)
  |(obtain⟨_,h,_⟩:=h;cases h;done)
def VR.nilIface_inv{x:V}(h:VR μ x .nilIface):x=.niliface:=by
 cases x<;>simp only[VR]at h<;>first
  |rfl
  |(cases h;done)
  |(obtain⟨_,_,h⟩:=h;cases h;done)
  |(obtain⟨_,_,_,h,_⟩:=h;cases h;done)
  |(obtain⟨_,_,h,_⟩:=h;cases h;done)
  |(obtain⟨_,h,_⟩:=h;cases h;done)
def VR.agg_inv{x:V}{s:Array Value}(h:VR μ x (.agg s)):∃l,x=.agg l:=by
 cases x<;>simp only[VR]at h<;>first
  |exact⟨_,rfl⟩
  |(cases h;done)
  |(obtain⟨_,_,h⟩:=h;cases h;done)
  |(obtain⟨_,_,_,h,_⟩:=h;cases h;done)
  |(obtain⟨_,_,h,_⟩:=h;cases h;done)
  |(obtain⟨_,h,_⟩:=h;cases h;done)
def Zjo{t:TypeId}{X Y:Value}{b:Bool}(hi:∀k m k' m',¬(X=.int k m∧Y=.int k' m'))(hs:∀s s',¬(X=.string s∧Y=.string s'))
  (hf:∀k m k' m',¬(X=.float k m∧Y=.float k' m')) (hc:∀k m p k' m' p',¬(X=.complex k m p∧Y=.complex k' m' p')) (h:(Op.equal t X Y).run P w=.ok b w):
  (binOp .eql t X Y).run P w=.ok (.bool b) w∧(binOp .neq t X Y).run P w=.ok (.bool (!b)) w:=by
 constructor
 ·unfold binOp
  split<;>first
   |(exact absurd ⟨rfl,rfl⟩ (hi _ _ _ _))
   |(exact absurd ⟨rfl,rfl⟩ (hs _ _))
   |(exact absurd ⟨rfl,rfl⟩ (hf _ _ _ _))
   |(exact absurd ⟨rfl,rfl⟩ (hc _ _ _ _ _ _))
   |(simp[h];done)
   |simp_all
 ·unfold binOp
  split<;>first
   |(exact absurd ⟨rfl,rfl⟩ (hi _ _ _ _))
   |(exact absurd ⟨rfl,rfl⟩ (hs _ _))
   |(exact absurd ⟨rfl,rfl⟩ (hf _ _ _ _))
   |(exact absurd ⟨rfl,rfl⟩ (hc _ _ _ _ _ _))
   |(simp[h];done)
   |simp_all
def Ylu(P:Program)(op:BinOp)(t:TypeId)(x y:Operand)(q:EqT)(ng:Bool):Prop:=
 (op=.eql∨op=.neq)→eqP P 40 t=some q∧(match P.underlying t with|some (.struct _)|some (.array _ _)=>P.eqGuardType P.depth t|_=>false)=false∧ng=(Zit x||Zit y)
def Zf4{op:BinOp}{t:TypeId}{x y:Operand}{X Y z:Value}(hg:(eqGuard op t x y X Y).run P w=.ok () w)(hb:(binOp op t X Y).run P w=.ok z w):
  (do eqGuard op t x y X Y;binOp op t X Y:Sem Value).run P w=.ok z w:=by simp[hg,hb,Result.andThen]
def Ztm{d:Nat}{t:TypeId}{l:List (Nat×Option Nat×EqT)}(h:eqP P d t=some (.node l)):∃fs,P.underlying t=some (.struct fs):=by
 cases d with
 |zero=>simp[eqP]at h
 |succ d=>
  simp only[eqP]at h
  split at h
  ·rename_i fs ht;exact⟨fs,ht⟩
  ·split at h
   ·split at h<;>simp at h
   ·cases h
  ·cases h
def Zlh{t:TypeId}{kd:ChanDir}{e:TypeId}{x y:Option Nat}(D:Nat)(ht:P.underlying t=some (.chan kd e)):(Op.equalIn (D+1) t (.chan x) (.chan y)).run P w=.ok (x==y) w:=by
 simp[Op.equalIn,run_underlying ht]
def Ydj{d:Nat}{t:TypeId}(hq:eqP P d t=some (.prim .chan)):∃k e,P.underlying t=some (.chan k e):=by
 cases d with
 |zero=>simp[eqP]at hq
 |succ d=>
  simp only[eqP]at hq
  split at hq
  ·split at hq
   ·cases hq
   ·split at hq<;>simp at hq
  ·rename_i dd _ ht
   split at hq
   ·rename_i k hk
    split at hq
    ·simp only[Yrs,EqT.prim.injEq]at hq;subst hq
     cases dd<;>simp[Yn0]at hk
     exact⟨_,_,ht⟩
    ·cases hq
   ·cases hq
  ·cases hq
def Yg0(hh:Zba P μ w st){op:BinOp}{t:TypeId}{x y:Operand}{X Y:Value}{q:EqT}{ng:Bool}(hc:Ylu P op t x y q ng){i j:Nat}(h1:VR μ (.chan i) X)(h2:VR μ (.chan j) Y)
  (h:Zwe op q st i j=some (v,st')):
  Za4 P μ w st (do pure (.value (←(do eqGuard op t x y X Y;binOp op t X Y:Sem Value)))) v st':=by
 obtain⟨l,hl,rfl⟩:=h1
 obtain⟨l',hl',rfl⟩:=h2
 have hg:(eqGuard op t x y (.chan (some l.b)) (.chan (some l'.b))).run P w=.ok () w:=Ze4 (by intro h;cases h) (by intro _ _ h;cases h)
 have hbeq:∀c b c' b',st.h.get i=some (.chan c b)→st.h.get j=some (.chan c' b')→(some l.b==some l'.b)=(i==j):=by
  intro c b c' b' g1 g2
  by_cases e:i=j
  ·subst e;rw[hl]at hl';cases hl';simp
  ·have:=hh.inj i j l l' _ _ hl hl' e g1 g2 rfl rfl
   have e2:(i==j)=false:=by simpa using e
   rw[e2];simpa using this
 have main:(op=.eql∨op=.neq)→q=.prim .chan→∀c b c' b',st.h.get i=some (.chan c b)→st.h.get j=some (.chan c' b')→
   (binOp .eql t (.chan (some l.b)) (.chan (some l'.b))).run P w=.ok (.bool (i==j)) w∧(binOp .neq t (.chan (some l.b)) (.chan (some l'.b))).run P w=.ok (.bool (!(i==j))) w:=by
  intro hop hq c b c' b' g1 g2
  subst hq
  obtain⟨kd,e,ht⟩:=Ydj (hc hop).1
  refine Zjo (fun _ _ _ _ e=>by cases e.1) (fun _ _ e=>by cases e.1) (fun _ _ _ _ e=>by cases e.1) (fun _ _ _ _ _ _ e=>by cases e.1) ?_
  have:=Zlh (P:=P) (w:=w) (x:=some l.b) (y:=some l'.b) 9999 ht
  rw[hbeq _ _ _ _ g1 g2]at this
  exact this
 unfold Zwe at h
 split at h
 ·rename_i g1 g2
  simp only[Yrs,Yrv]at h
  obtain⟨rfl,rfl⟩:=h
  exact Za4.value hh (Zf4 hg (main (.inl rfl) rfl _ _ _ _ g1 g2).1) (by simp[VR])
 ·rename_i g1 g2
  simp only[Yrs,Yrv]at h
  obtain⟨rfl,rfl⟩:=h
  exact Za4.value hh (Zf4 hg (main (.inr rfl) rfl _ _ _ _ g1 g2).2) (by simp[VR])
 ·cases h
def Ynk(hh:Zba P μ w st)(hr:RR μ r n a.tmps){op:BinOp}{t:TypeId}{x y:Operand}{s u:Src}{q:EqT}{ng:Bool}(hx:Zbe P x=some s)(hy:Zbe P y=some u)
  (hc:Ylu P op t x y q ng) (h:Zmy op q ng s u call r st=some (v,st')):
  Za4 P μ w st (do pure (.value (←(do eqGuard op t x y (a.eval x) (a.eval y);binOp op t (a.eval x) (a.eval y):Sem Value)))) v st':=by
 unfold Zmy at h
 split at h
 ·rename_i i j hs hu
  exact Yg0 hh hc (Zar hh hr hx hs) (Zar hh hr hy hu) h
 ·rename_i x1 y1 _ hs hu
  have h1:=Zar hh hr hx hs
  have h2:=Zar hh hr hy hu
  generalize a.eval x=X at*
  generalize a.eval y=Y at*
  split at h
  ·rename_i z hz
   simp only[Yrs,Yrv]at h
   obtain⟨rfl,rfl⟩:=h
   unfold Ypl at hz
   split at hz
   ·-- two integers
    rename_i k p k' p' _
    simp only[VR]at h1 h2
    subst h1 h2
    have hg:(eqGuard op t x y (.int k p) (.int k' p')).run P w=.ok () w:=Ze4 (by intro h;cases h) (by intro _ _ h;cases h)
    split at hz
    ·obtain⟨y',h3,h4⟩:=Zoi (P:=P) (μ:=μ) (w:=w) (t:=t) (k':=k') (.inl rfl) hz
     exact Za4.value hh (Zf4 hg h3) h4
    ·obtain⟨y',h3,h4⟩:=Zoi (P:=P) (μ:=μ) (w:=w) (t:=t) (k':=k') (.inr rfl) hz
     exact Za4.value hh (Zf4 hg h3) h4
    ·split at hz
     ·rename_i e;subst e
      obtain⟨y',h3,h4⟩:=Zx9 (P:=P) (μ:=μ) (w:=w) (t:=t) hz
      exact Za4.value hh (Zf4 hg h3) h4
     ·cases hz
   ·rename_i p p' _
    simp only[VR]at h1 h2
    subst h1 h2
    have hg:(eqGuard op t x y (.string ⟨p.toArray⟩) (.string ⟨p'.toArray⟩)).run P w=.ok () w:=Ze4 (by intro h;cases h) (by intro _ _ h;cases h)
    obtain⟨y',h3,h4⟩:=Zwy (P:=P) (μ:=μ) (w:=w) (t:=t) hz
    exact Za4.value hh (Zf4 hg h3) h4
   ·rename_i hni hns
    have main:∀b,eqV ng q x1 y1=some b→(op=.eql∨op=.neq)→
      (eqGuard op t x y X Y).run P w=.ok () w∧(binOp .eql t X Y).run P w=.ok (.bool b) w∧(binOp .neq t X Y).run P w=.ok (.bool (!b)) w:=by
     intro b hb hop
     obtain⟨hq,hgt,hng⟩:=hc hop
     have he:=Ykv (w:=w) 40 hq hb h1 h2 10000 (by omega)
     refine⟨Ze4 (fun e1 e2=>?_) (fun A B e1 e2=>?_),Zjo (fun k m k' m' e=>?_) (fun p p' e=>?_) (fun k m k' m' e=>?_) (fun k m m' k' m1 m2 e=>?_) he⟩
     ·subst e1 e2
      have:=h1.nilIface_inv;subst this
      have:=h2.nilIface_inv;subst this
      cases q with
      |prim k=>cases k<;>simp[eqV,Zag]at hb;rw[hng]at hb;simpa using hb.1
      |node l=>simp[eqV]at hb
     ·subst e1 e2
      obtain⟨l1,rfl⟩:=h1.agg_inv
      obtain⟨l2,rfl⟩:=h2.agg_inv
      cases q with
      |prim k=>cases k<;>simp[eqV,Zag]at hb
      |node l=>
       obtain⟨fs,hfs⟩:=Ztm hq
       simpa[hfs]using hgt
     ·obtain⟨rfl,rfl⟩:=e
      exact hni _ _ _ _ h1.int_inv h2.int_inv
     ·obtain⟨rfl,rfl⟩:=e
      obtain⟨l1,e1⟩:=h1.string_inv
      obtain⟨l2,e2⟩:=h2.string_inv
      exact hns _ _ e1 e2
     ·obtain⟨rfl,rfl⟩:=e
      have e1:=h1.float_inv;subst e1
      have e2:=h2.float_inv;subst e2
      cases q with
      |prim k=>cases k<;>simp[eqV,Zag]at hb
      |node l=>simp[eqV]at hb
     ·obtain⟨rfl,rfl⟩:=e
      have e1:=h1.complex_inv;subst e1
      have e2:=h2.complex_inv;subst e2
      cases q with
      |prim k=>cases k<;>simp[eqV,Zag]at hb
      |node l=>simp[eqV]at hb
    split at hz
    ·split at hz
     ·rename_i b hb
      simp only[Yrs]at hz;subst hz
      obtain⟨g1,g2,_⟩:=main b hb (.inl rfl)
      exact Za4.value hh (Zf4 g1 g2) (by simp[VR])
     ·cases hz
    ·split at hz
     ·rename_i b hb
      simp only[Yrs]at hz;subst hz
      obtain⟨g1,_,g2⟩:=main b hb (.inr rfl)
      exact Za4.value hh (Zf4 g1 g2) (by simp[VR])
     ·cases hz
    ·cases hz
  ·cases h
 ·cases h
end
section
variable {P:Program} {μ:Mu} {w:World} {st st':St} {r:T V} {n:Nat} {a:Act} {call:Za1} {v:V}
def Yls(μ:Mu):Option V→Option Value→Prop
 |none,none=>True
 |some v,some x=>VR μ v x
 |_,_=>False
def Zbl(hh:Zba P μ w st)(hr:RR μ r n a.tmps){x:Option Operand}{s:Option Src}(hc:Zqc P x=some s){v:Option V}(hv:evOpt r s=some v):Yls μ v (x.map a.eval):=by
 rcases Zru hh hr hc hv with⟨rfl,rfl⟩|⟨v',x',rfl,rfl,h⟩
 ·trivial
 ·exact h
def Yls.isNone{v:Option V}{x:Option Value}(h:Yls μ v x):x.isNone=v.isNone:=by
 cases v<;>cases x<;>simp_all [Yls]
def Zhl{u:V}{X:Value}{y m k:Nat}{code:BoundsCode}(hu:VR μ u X)(h:Zd5 u y=some m)(hk:y≤k):(Instr.sliceBound X k code).run P w=.ok m w∧m≤y:=by
 unfold Zd5 at h
 split at h
 ·rename_i q z
  split at h
  ·rename_i hz
   simp only[Yrs]at h;subst h
   simp only[VR]at hu;subst hu
   have h2:z≤(k:Int):=by omega
   exact⟨by simp[Instr.sliceBound,asIntOf,hz.1,h2],by omega⟩
  ·cases h
 ·cases h
def Zd4{isS:Bool}{len y k:Nat}{lo hi mx:Option V}{LO HI MX:Option Value}(hlo:Yls μ lo LO)(hhi:Yls μ hi HI)(hmx:Yls μ mx MX)(hy:y≤k){m h l:Nat}
  (hm:(mx=none∧m=k)∨(Zax mx y 0=some m∧mx.isSome=true∧hi.isSome=true)) (hh:Zax hi (if mx=none then y else m) len=some h) (hl:Zax lo h 0=some l):
  (Instr.sliceBounds isS len k LO HI MX).run P w=.ok (l,h,m) w:=by
 cases mx with
 |none=>
  cases MX with
  |some _=>exact hmx.elim
  |none=>
   have hmk:m=k:=by
    rcases hm with⟨_,e⟩|⟨_,e,_⟩
    ·exact e
    ·simp at e
   subst hmk
   simp only[if_true]at hh
   have hlo':∀LO',LO=some LO'→∀code,(Instr.sliceBound LO' h code).run P w=.ok l w:=fun X e code=>by
    subst e
    cases lo with
    |none=>exact hlo.elim
    |some u=>exact(Zhl hlo hl (Yru _)).1
   have hl0:LO=none→l=0:=fun e=>by
    subst e
    cases lo with
    |none=>simpa[Zax]using hl.symm
    |some u=>exact hlo.elim
   have hhi':∀HI',HI=some HI'→∀code,(Instr.sliceBound HI' m code).run P w=.ok h w:=fun X e code=>by
    subst e
    cases hi with
    |none=>exact hhi.elim
    |some u=>exact(Zhl hhi hh hy).1
   have hh0:HI=none→h=len:=fun e=>by
    subst e
    cases hi with
    |none=>simpa[Zax]using hh.symm
    |some u=>exact hhi.elim
   cases HI with
   |none=>
    have:=hh0 rfl;subst this
    cases LO with
    |none=>have:=hl0 rfl;subst this;simp[Instr.sliceBounds]
    |some X=>simp[Instr.sliceBounds,hlo' X rfl,Result.andThen]
   |some Y=>
    cases LO with
    |none=>have:=hl0 rfl;subst this;simp[Instr.sliceBounds,hhi' Y rfl,Result.andThen]
    |some X=>simp[Instr.sliceBounds,hlo' X rfl,hhi' Y rfl,Result.andThen]
 |some um=>
  cases MX with
  |none=>exact hmx.elim
  |some Z=>
   obtain⟨hm,hs'⟩:Zax (some um) y 0=some m∧hi.isSome=true:=by
    rcases hm with⟨e,_⟩|⟨e,_,e'⟩
    ·simp at e
    ·exact⟨e,e'⟩
   have hz:∀code,(Instr.sliceBound Z k code).run P w=.ok m w:=fun code=>(Zhl hmx hm hy).1
   simp only[reduceCtorEq,if_false]at hh
   cases hi with
   |none=>simp at hs'
   |some u=>
    cases HI with
    |none=>exact hhi.elim
    |some Y=>
     have hy':∀code,(Instr.sliceBound Y m code).run P w=.ok h w:=fun code=>(Zhl hhi hh (Yru _)).1
     cases lo with
     |none=>
      cases LO with
      |some _=>exact hlo.elim
      |none=>
       simp only[Zax,Yrs]at hl;subst hl
       simp[Instr.sliceBounds,hz,hy',Result.andThen]
     |some ul=>
      cases LO with
      |none=>exact hlo.elim
      |some X=>
       have hx':∀code,(Instr.sliceBound X h code).run P w=.ok l w:=fun code=>(Zhl hlo hl (Yru _)).1
       simp[Instr.sliceBounds,hz,hy',hx',Result.andThen]
def Zbw{u:Option V}{y d m:Nat}(h:Zax u y d=some m):m≤y∨(u=none∧m=d):=by
 cases u with
 |none=>simp only[Zax,Yrs]at h;exact .inr ⟨rfl,h.symm⟩
 |some u=>
  simp only[Zax,Zd5]at h
  split at h
  ·split at h
   ·simp only[Yrs]at h;left;omega
   ·cases h
  ·cases h
def Zsv(hh:Zba P μ w st)(hr:RR μ r n a.tmps){t:TypeId}{x:Operand}{lo hi:Option Operand}{s:Src}{ls hs:Option Src}(ht:P.underlying t=some .string)(hx:Zbe P x=some s)
  (hlo:Zqc P lo=some ls) (hhi:Zqc P hi=some hs) (h:Zbn s ls hs call r st=some (v,st')):
  Za4 P μ w st (do pure (.value (←Instr.sliceAt t (a.eval x) (lo.map a.eval) (hi.map a.eval) none))) v st':=by
 unfold Zbn at h
 split at h
 ·rename_i l vl vh h1 h2 h3
  have e1:=Zar hh hr hx h1
  simp only[VR]at e1
  have e2:=Zbl hh hr hlo h2
  have e3:=Zbl hh hr hhi h3
  split at h
  ·rename_i hb hhb
   split at h
   ·rename_i lb hlb
    simp only[Yrs,Yrv]at h
    obtain⟨rfl,rfl⟩:=h
    have hsz:(⟨l.toArray⟩:ByteArray).size=l.length:=by show l.toArray.size=_;simp
    have hrun:=Zd4 (P:=P) (w:=w) (isS:=false) (len:=l.length) (y:=l.length) (k:=l.length) (mx:=none) (MX:=none) (m:=l.length) e2 e3 trivial (Yru _) (.inl ⟨rfl,rfl⟩) (by simpa using hhb) hlb
    refine Za4.value hh (x:=.string ((⟨l.toArray⟩:ByteArray).extract lb hb)) ?_ ?_
    ·simp[Instr.sliceAt,Instr.slice,run_underlying ht,e1,hsz,hrun,Result.andThen]
    ·simp only[VR]
     congr 1
     apply ByteArray.ext
     rw[ByteArray.data_extract]
     apply Yu3
     simp[List.extract,List.drop_take]
   ·cases h
  ·cases h
 ·cases h
def Zbs{t e:TypeId}{z:Nat}(ht:P.underlying t=some (.slice e))(hz:Zbt P e=some z){A:Option Addr}{len c l h m:Nat}{LO HI MX:Option Value}
  (hb:(Instr.sliceBounds true len c LO HI MX).run P w=.ok (l,h,m) w):
  (Instr.sliceAt t (.slice A len c) LO HI MX).run P w=.ok (.slice (if m=l then A else A.map (·.add (l*z))) (h-l) (m-l)) w:=by
 simp[Instr.sliceAt,Instr.slice,run_underlying ht,hb,Zb2 hz,Result.andThen]
def Zw0(hh:Zba P μ w st)(hr:RR μ r n a.tmps){t e:TypeId}{z:Nat}{x:Operand}{lo hi mx:Option Operand}{s:Src}{ls hs ms:Option Src}(ht:P.underlying t=some (.slice e))(hz:Zbt P e=some z)
  (hx:Zbe P x=some s) (hlo:Zqc P lo=some ls) (hhi:Zqc P hi=some hs) (hmx:Zqc P mx=some ms) (h:Za6 z s ls hs ms call r st=some (v,st')):
  Za4 P μ w st (do pure (.value (←Instr.sliceAt t (a.eval x) (lo.map a.eval) (hi.map a.eval) (mx.map a.eval)))) v st':=by
 unfold Za6 at h
 split at h
 ·-- nil
  rename_i vl vh vm h1 h2 h3 h4
  have e1:=Zar hh hr hx h1
  simp only[VR]at e1
  have e2:=Zbl hh hr hlo h2
  have e3:=Zbl hh hr hhi h3
  have e4:=Zbl hh hr hmx h4
  split at h
  ·rename_i m hm
   split at h
   ·rename_i hb hhb
    split at h
    ·rename_i lb hlb
     split at h
     ·cases h
     ·rename_i hok
      simp only[Yrs,Yrv]at h
      obtain⟨rfl,rfl⟩:=h
      have hm0:m=0:=by rcases Zbw hm with h|h<;>omega
      have hb0:hb=0:=by rcases Zbw hhb with h|h<;>omega
      have hl0:lb=0:=by rcases Zbw hlb with h|h<;>omega
      subst hm0 hb0 hl0
      have hrun:=Zd4 (P:=P) (w:=w) (isS:=true) (len:=0) (y:=0) (k:=0) e2 e3 e4 (Yru _) (m:=0) (h:=0) (l:=0)
       (by cases vm with
        |none=>exact .inl ⟨rfl,rfl⟩
        |some u=>cases vh with
         |none=>simp at hok
         |some u'=>exact .inr ⟨hm,rfl,rfl⟩)
       (by cases vm<;>simpa using hhb) hlb
      refine Za4.value hh (x:=.slice none 0 0) ?_ (by simp[VR])
      rw[e1,Zbs ht hz hrun]
      simp
    ·cases h
   ·cases h
  ·cases h
 ·-- not nil,empty
  rename_i vl vh h1 h2 h3 h4
  have e1:=Zar hh hr hx h1
  obtain⟨A,c,e1⟩:=e1
  have e2:=Zbl hh hr hlo h2
  have e3:=Zbl hh hr hhi h3
  have e4:=Zbl hh hr hmx h4
  split at h
  ·rename_i hb hhb
   split at h
   ·rename_i lb hlb
    simp only[Yrs,Yrv]at h
    obtain⟨rfl,rfl⟩:=h
    have hb0:hb=0:=by rcases Zbw hhb with h|h<;>omega
    have hl0:lb=0:=by rcases Zbw hlb with h|h<;>omega
    subst hb0 hl0
    have hrun:=Zd4 (P:=P) (w:=w) (isS:=true) (len:=0) (y:=0) (k:=c) e2 e3 e4 (Yum _) (m:=c) (h:=0) (l:=0) (.inl ⟨rfl,rfl⟩) (by simpa using hhb) hlb
    refine Za4.value hh (x:=.slice (some (if c=0 then A else A.add (0*z))) 0 (c-0)) ?_ ⟨_,_,rfl⟩
    rw[e1,Zbs ht hz hrun]
    split<;>simp
   ·cases h
  ·cases h
 ·-- the capacity is known
  rename_i i o len c sz vl vh vm h1 h2 h3 h4
  obtain⟨l,c',hl,e1,hlen,htot,hc,_⟩:=Zar hh hr hx h1
  have:=hc c rfl;subst this
  have e2:=Zbl hh hr hlo h2
  have e3:=Zbl hh hr hhi h3
  have e4:=Zbl hh hr hmx h4
  split at h
  ·cases h
  ·rename_i hok
   simp only[not_or,Decidable.not_not,Bool.not_eq_true]at hok
   obtain⟨rfl,hok⟩:=hok
   split at h
   ·rename_i m hm
    split at h
    ·rename_i hb hhb
     split at h
     ·rename_i lb hlb
      simp only[Yrs,Yrv]at h
      obtain⟨rfl,rfl⟩:=h
      have hmc:m≤c':=by rcases Zbw hm with h|h<;>omega
      have hrun:=Zd4 (P:=P) (w:=w) (isS:=true) (len:=len) (y:=c') (k:=c') e2 e3 e4 (Yru _) (m:=m) (h:=hb) (l:=lb)
       (by cases vm with
        |none=>simp only[Zax,Yrs]at hm;exact .inl ⟨rfl,hm.symm⟩
        |some u=>cases vh with
         |none=>simp at hok
         |some u'=>exact .inr ⟨hm,rfl,rfl⟩)
       (by cases vm with
        |none=>simp only[Zax,Yrs]at hm;subst hm;simpa using hhb
        |some u=>simpa using hhb) hlb
      have hhm:hb≤m:=by
       rcases Zbw hhb with h|⟨h,h'⟩
       ·exact h
       ·subst h
        cases vm with
        |none=>simp only[Zax,Yrs]at hm;omega
        |some u=>simp at hok
      have hlh:lb≤hb:=by rcases Zbw hlb with h|h<;>omega
      have k1:m*sz≤c'*sz:=Ysb _ hmc
      have k2:(m-lb)*sz=m*sz-lb*sz:=Nat.sub_mul _ _ _
      have k3:lb*sz≤m*sz:=Ysb _ (by omega)
      refine Za4.value hh (x:=.slice (some ⟨l.b,l.d+(if m=lb then o else o+lb*sz),none⟩) (hb-lb) (m-lb)) ?_ ⟨l,m-lb,hl,rfl,by omega,?_,fun k hk=>by simpa using hk,by simp⟩
      ·rw[e1,Zbs ht hz hrun]
       split<;>simp[Zci,Yta]
      ·split
       ·rename_i e;subst e;simp;omega
       ·omega
     ·cases h
    ·cases h
   ·cases h
 ·-- the capacity is not known
  rename_i i o len sz vl vh vm h1 h2 h3 h4
  obtain⟨l,cw,hl,e1,hlen,htot,_,htn⟩:=Zar hh hr hx h1
  have htn:=htn rfl
  have e2:=Zbl hh hr hlo h2
  have e3:=Zbl hh hr hhi h3
  have e4:=Zbl hh hr hmx h4
  split at h
  ·cases h
  ·rename_i hok
   simp only[not_or,Decidable.not_not,Bool.not_eq_true]at hok
   obtain⟨rfl,hz0,hok⟩:=hok
   split at h
   ·rename_i cs _ _ hrow
    obtain⟨c'',_,_,_,_,hcl,_⟩:=hh.row hl hrow
    have hky:max len ((cs.length-o)/sz)≤cw:=by
     have:(cs.length-o)/sz≤cw:=by
      rw[Nat.div_le_iff_le_mul_add_pred (by omega)]
      have:sz*cw=cw*sz:=Ysk _ _
      omega
     omega
    have hkl:len≤max len ((cs.length-o)/sz):=by omega
    generalize max len ((cs.length-o)/sz)=y at*
    dsimp only at h
    split at h
    ·rename_i um
     split at h
     ·rename_i m hm
      split at h
      ·rename_i hb hhb
       split at h
       ·rename_i lb hlb
        simp only[Yrs,Yrv]at h
        obtain⟨rfl,rfl⟩:=h
        cases vh with
        |none=>simp at hok
        |some uh=>
        have hmy:m≤y:=by
         rcases Zbw (u:=some um) (d:=0) hm with h|h
         ·exact h
         ·simp at h
        have hrun:=Zd4 (P:=P) (w:=w) (isS:=true) (len:=len) (y:=y) (k:=cw) e2 e3 e4 hky (m:=m) (h:=hb) (l:=lb) (.inr ⟨hm,rfl,rfl⟩) (by simpa using hhb) hlb
        have hhm:hb≤m:=by
         rcases Zbw hhb with h|⟨h,h'⟩
         ·exact h
         ·simp at h
        have hlh:lb≤hb:=by rcases Zbw hlb with h|h<;>omega
        have k1:m*sz≤cw*sz:=Ysb _ (by omega)
        have k2:(m-lb)*sz=m*sz-lb*sz:=Nat.sub_mul _ _ _
        have k3:lb*sz≤m*sz:=Ysb _ (by omega)
        refine Za4.value hh (x:=.slice (some ⟨l.b,l.d+(if m=lb then o else o+lb*sz),none⟩) (hb-lb) (m-lb)) ?_ ⟨l,m-lb,hl,rfl,by omega,?_,fun k hk=>by simpa using hk,by simp⟩
        ·rw[e1,Zbs ht hz hrun]
         split<;>simp[Zci,Yta]
        ·split
         ·rename_i e;subst e;simp;omega
         ·omega
       ·cases h
      ·cases h
     ·cases h
    ·split at h
     ·rename_i hb hhb
      split at h
      ·rename_i lb hlb
       have hrun:=Zd4 (P:=P) (w:=w) (isS:=true) (len:=len) (y:=y) (k:=cw) e2 e3 e4 hky (m:=cw) (h:=hb) (l:=lb) (.inl ⟨rfl,rfl⟩) (by simpa using hhb) hlb
       have hhm:hb≤y:=by rcases Zbw hhb with h|⟨h,h'⟩<;>omega
       have hlh:lb≤hb:=by rcases Zbw hlb with h|h<;>omega
       have k2:(cw-lb)*sz=cw*sz-lb*sz:=Nat.sub_mul _ _ _
       have k3:lb*sz≤cw*sz:=Ysb _ (by omega)
       split at h
       ·rename_i hlt
        simp only[Yrs,Yrv]at h
        obtain⟨rfl,rfl⟩:=h
        refine Za4.value hh (x:=.slice (some ⟨l.b,l.d+(o+lb*sz),none⟩) (hb-lb) (cw-lb)) ?_ ⟨l,cw-lb,hl,rfl,by omega,by omega,by simp,fun _=>by omega⟩
        rw[e1,Zbs ht hz hrun]
        rw[Yrt (by omega)]
        simp[Zci,Yta]
       ·simp only[Yrs,Yrv]at h
        obtain⟨rfl,rfl⟩:=h
        have:hb-lb=0:=by omega
        refine Za4.value hh (x:=.slice (some (if cw=lb then ⟨l.b,l.d+o,none⟩ else (⟨l.b,l.d+o,none⟩:Addr).add (lb*sz))) 0 (cw-lb)) ?_ ⟨_,_,rfl⟩
        rw[e1,Zbs ht hz hrun,this]
        split<;>simp
      ·cases h
     ·cases h
   ·cases h
 ·cases h
def Zsw(hh:Zba P μ w st)(hr:RR μ r n a.tmps){t e:TypeId}{k z:Nat}{x:Operand}{lo hi mx:Option Operand}{s:Src}{ls hs ms:Option Src}(ht:P.underlying t=some (.array k e))(hz:Zbt P e=some z)
  (hx:Zbe P x=some s) (hlo:Zqc P lo=some ls) (hhi:Zqc P hi=some hs) (hmx:Zqc P mx=some ms) (h:Zbv k z s ls hs ms call r st=some (v,st')):
  Za4 P μ w st (do pure (.value (←Instr.sliceAt t (a.eval x) (lo.map a.eval) (hi.map a.eval) (mx.map a.eval)))) v st':=by
 unfold Zbv at h
 split at h
 ·rename_i i o vl vh h1 h2 h3 h4
  obtain⟨l,hl,e1⟩:=Zar hh hr hx h1
  have e2:=Zbl hh hr hlo h2
  have e3:=Zbl hh hr hhi h3
  have e4:=Zbl hh hr hmx h4
  split at h
  ·rename_i hb hhb
   split at h
   ·rename_i lb hlb
    split at h
    ·rename_i cs _ _ hrow
     split at h
     ·rename_i hcond
      simp only[Yrs,Yrv]at h
      obtain⟨rfl,rfl⟩:=h
      obtain⟨c'',_,_,_,_,hcl,_⟩:=hh.row hl hrow
      have hrun:=Zd4 (P:=P) (w:=w) (isS:=false) (len:=k) (y:=k) (k:=k) e2 e3 e4 (Yru _) (m:=k) (h:=hb) (l:=lb) (.inl ⟨rfl,rfl⟩) (by simpa using hhb) hlb
      have hhm:hb≤k:=by rcases Zbw hhb with h|⟨h,h'⟩<;>omega
      have hlh:lb≤hb:=by rcases Zbw hlb with h|h<;>omega
      have k2:(k-lb)*z=k*z-lb*z:=Nat.sub_mul _ _ _
      have k3:lb*z≤k*z:=Ysb _ (by omega)
      have hc1:=hcond.1
      refine Za4.value hh (x:=.slice (some ⟨l.b,l.d+(if k=lb then o else o+lb*z),none⟩) (hb-lb) (k-lb)) ?_ ⟨l,k-lb,hl,rfl,by omega,?_,fun k hk=>by simpa using hk,by simp⟩
      ·simp only[Instr.sliceAt,Sem.run_bind,run_underlying ht,Result.andThen,Instr.sureAddr,e1,Sem.run_pure,hrun,Zb2 hz]
       split<;>simp[Zci,Yta]
      ·split
       ·rename_i e;subst e;simp;omega
       ·omega
     ·cases h
    ·cases h
   ·cases h
  ·cases h
 ·cases h
end
section
variable {P:Program} {μ:Mu} {w:World} {st st':St} {r:T V} {n:Nat} {a:Act} {call:Za1} {v:V}
def Zb9{α:Type}{c vs:List α}{o:Nat}(h:o+vs.length≤c.length):(splice c o vs).length=c.length:=by
 simp[splice];omega
def Zeu{α:Type}{c vs:List α}{o:Nat}(h:o+vs.length≤c.length)(j:Nat):(splice c o vs)[j]?=if o≤j∧j<o+vs.length then vs[j-o]? else c[j]?:=by
 have hlt:(c.take o).length=o:=by simp;omega
 unfold splice
 rw[Ysy]
 by_cases h1:j<o
 ·rw[Ysc (by omega),Yrt (by omega),Ysh,Yrw h1]
 ·rw[Ysn (by omega),hlt]
  by_cases h2:j<o+vs.length
  ·rw[Ysc (by omega),Yrw ⟨by omega,h2⟩]
  ·rw[Ysn (by omega),Yrt (by omega),Yr4]
   congr 1;omega
def VRs.splice{c vs:List V}{c' vs':List Value}(h:VRs μ c c')(h':VRs μ vs vs')(o:Nat):VRs μ (splice c o vs) (splice c' o vs'):=by
 unfold Mx.splice
 rw[h'.length]
 exact((h.take o).append h').append (h.drop _)
def Zmf{α:Type}(c:List α)(o:Nat)(x:α)(vs:List α)(h:o<c.length):Mx.splice (c.set o x) (o+1) vs=Mx.splice c o (x::vs):=by
 unfold Mx.splice
 have e1:(c.set o x).take (o+1)=c.take o++[x]:=by
  rw[Yup,List.take_set_of_le (Yru _)]
  simp[h]
 have e2:(c.set o x).drop (o+1+vs.length)=c.drop (o+(vs.length+1)):=by
  rw[List.drop_set_of_lt (by omega)]
  congr 1;omega
 rw[e1,e2]
 simp
def Yf8(off:Nat):∀(vs:List Value) (k:Nat) (cs:List Value),off+k+vs.length≤cs.length→
  (vs.zipIdx k).foldl (fun (cs:Array Value) (p:Value×Nat)=>cs.setIfInBounds (off+p.2) p.1) ⟨cs⟩=⟨splice cs (off+k) vs⟩:=by
 intro vs
 induction vs with
 |nil=>intro k cs h;simp[splice]
 |cons x vs ih=>
  intro k cs h
  simp only[Yrr]at h
  simp only[List.zipIdx_cons,List.foldl_cons]
  have e:(⟨cs⟩:Array Value).setIfInBounds (off+k) x=⟨cs.set (off+k) x⟩:=by
   apply Yu3
   simp
  rw[e,ih (k+1) (cs.set (off+k) x) (by simp;omega),←Yta,Zmf _ _ _ _ (by omega)]
def Zpz(hh:Zba P μ w st)(hr:RR μ r n a.tmps){place:Nat→Option (Nat×Nat)}:∀{parts:List (Nat×Operand)} {cps:List (Nat×Nat×Src)},Zif P place parts=some cps→
  ∀{ps:List (Nat×Nat×V)},Zfe r cps=some ps→∀{cs:List V} {cs':List Value},VRs μ cs cs'→∀{l:List V},Zn5 cs ps=some l→
  ∃l',Instr.fill place ⟨cs'⟩ (parts.map fun p=>(p.1,a.eval p.2))=some ⟨l'⟩∧VRs μ l l':=by
 intro parts
 induction parts with
 |nil=>
  intro cps hc ps he cs cs' hcs l hl
  simp only[Zif,Yrs]at hc;subst hc
  simp only[Zfe,Yrs]at he;subst he
  simp only[Zn5,Yrs]at hl;subst hl
  exact⟨cs',by simp[Instr.fill],hcs⟩
 |cons p parts ih=>
  intro cps hc ps he cs cs' hcs l hl
  obtain⟨i,x⟩:=p
  simp only[Zif]at hc
  split at hc
  ·rename_i o s sx l' hp hx hrest
   simp only[Yrs]at hc;subst hc
   simp only[Zfe]at he
   split at he
   ·rename_i u vs hu hvs
    simp only[Yrs]at he;subst he
    simp only[Zn5]at hl
    split at hl
    ·rename_i hcond
     have hux:=Zar hh hr hx hu
     have hcells:=hux.cells
     have hlen:(a.eval x).cells.size=s:=by
      have:=hcells.length
      rw[←hcond.1,←this];simp
     have hlen':(a.eval x).cells.toList.length=s:=by simpa using hlen
     obtain⟨l'',h1,h2⟩:=ih hrest hvs (hcs.splice hcells o) hl
     refine⟨l'',?_,h2⟩
     simp only[Ys1,Instr.fill,hp]
     rw[Yrt]
     ·have e:((a.eval x).cells.zipIdx.foldl (fun (cs:Array Value) (p:Value×Nat)=>cs.setIfInBounds (o+p.2) p.1) ⟨cs'⟩)=⟨splice cs' o (a.eval x).cells.toList⟩:=by
       rw[←Array.foldl_toList,Array.toList_zipIdx]
       have:=Yf8 o (a.eval x).cells.toList 0 cs' (by rw[hlen',hcs.length];omega)
       simpa using this
      rw[←h1]
      congr 1
     ·have hcl:=hcs.length
      simp only[hlen,ne_eq,not_true_eq_false,decide_false,Bool.false_or,decide_eq_true_eq]
      simp[hcl];omega
    ·cases hl
   ·cases he
  ·cases hc
def Zxb:∀{fs:List Field} {pl:List (Nat×Nat)},Zom P fs=some pl→fs.mapM (fun f=>(P.info? f.type).map fun i=>(f.offset,i.size))=some pl:=by
 intro fs
 induction fs with
 |nil=>intro pl h;simp only[Zom,Yrs]at h;subst h;simp
 |cons f fs ih=>
  intro pl h
  simp only[Zom]at h
  split at h
  ·rename_i s l hs hl
   simp only[Yrs]at h;subst h
   unfold Zbt at hs
   simp only[Yr0]at hs
   obtain⟨i,hi,rfl⟩:=hs
   simp[List.mapM_cons,hi,ih hl]
  ·cases h
def Zdu{t:TypeId}{z:V}(h:Ze6 P t=some z):∃i x,P.info? t=some i∧i.zero=some x∧∀μ,VR μ z x:=by
 unfold Ze6 at h
 split at h
 ·rename_i i hi
  split at h
  ·rename_i x hx
   exact⟨i,x,hi,hx,fun μ=>Zwh μ x z h⟩
  ·cases h
 ·cases h
def Zns(hh:Zba P μ w st)(hr:RR μ r n a.tmps){t:TypeId}{fs:Array Field}{pl:List (Nat×Nat)}{z:V}{parts:Array (Nat×Operand)}{cps:List (Nat×Nat×Src)}
  (hz:Ze6 P t=some z) (ht:P.underlying t=some (.struct fs)) (hp:Zom P fs.toList=some pl) (hc:Zif P (pl[·]?) parts.toList=some cps) (h:Zer z.cells cps call r st=some (v,st')):
  Za4 P μ w st (do pure (.value (←Instr.build t (parts.map fun (i,x)=>(i,a.eval x))))) v st':=by
 unfold Zer at h
 split at h
 ·rename_i ps hps
  split at h
  ·rename_i l hl
   simp only[Yrs,Yrv]at h
   obtain⟨rfl,rfl⟩:=h
   obtain⟨i,x,hi,hx,hzx⟩:=Zdu hz
   obtain⟨l',h1,h2⟩:=Zpz hh hr hc hps (hzx μ).cells hl
   refine Za4.value hh (x:=.agg ⟨l'⟩) (run_build w t _ _ ?_) ⟨l',rfl,h2⟩
   simp only[Program.built,hi,ht,hx,Zxb hp]
   rw[←h1]
   simp
  ·cases h
 ·cases h
def Zn7(hh:Zba P μ w st)(hr:RR μ r n a.tmps){t e:TypeId}{k s:Nat}{z:V}{parts:Array (Nat×Operand)}{cps:List (Nat×Nat×Src)}
  (hz:Ze6 P t=some z) (ht:P.underlying t=some (.array k e)) (hs:Zbt P e=some s) (hc:Zif P (fun i=>some (i*s,s)) parts.toList=some cps) (h:Zer z.cells cps call r st=some (v,st')):
  Za4 P μ w st (do pure (.value (←Instr.build t (parts.map fun (i,x)=>(i,a.eval x))))) v st':=by
 unfold Zer at h
 split at h
 ·rename_i ps hps
  split at h
  ·rename_i l hl
   simp only[Yrs,Yrv]at h
   obtain⟨rfl,rfl⟩:=h
   obtain⟨i,x,hi,hx,hzx⟩:=Zdu hz
   unfold Zbt at hs
   simp only[Yr0]at hs
   obtain⟨ie,hie,rfl⟩:=hs
   obtain⟨l',h1,h2⟩:=Zpz hh hr hc hps (hzx μ).cells hl
   refine Za4.value hh (x:=.agg ⟨l'⟩) (run_build w t _ _ ?_) ⟨l',rfl,h2⟩
   simp only[Program.built,hi,ht,hx,hie]
   rw[←h1]
   simp
  ·cases h
 ·cases h
def Znw{vs:List V}{xs:List Value}(h:VRs μ vs xs)(hv:vs.all V.one=true):∀x∈xs,x.oneCell'=true:=by
 intro x hx
 obtain⟨j,hj⟩:=Yu0 hx
 have hl:=h.length
 have hjl:j<xs.length:=(Ys9.1 hj).1
 have:∃u,vs[j]?=some u:=⟨vs[j]'(by omega),by simp⟩
 obtain⟨u,hu⟩:=this
 obtain⟨y,h1,h2⟩:=h.get hu
 rw[hj]at h1;cases h1
 have hu1:u.one=true:=by
  rw[Ys5]at hv
  exact hv u (Yr1 hu)
 have:=h2.one hu1
 cases x<;>simp_all [Value.oneCell']
def Za4.newRow(hh:Zba P μ w st){s:Sem Value}{x:Value}{cs:List V}{xs:List Value}{e:TypeId}(hs:s.run P w=.ok x (w.alloc (.cells ⟨xs⟩ e)))
  (hc:VRs μ cs xs) (h1:∀x∈xs,x.oneCell'=true) (hv:VR (fun i=>if i=st.n then some ⟨w.heap.size,0,xs.length⟩ else μ i) v x):
  Za4 P μ w st (do pure (.value (←s))) v (st.alloc (.cells cs e true)):=by
 have hmono:∀i l,μ i=some l→(fun i=>if i=st.n then some (⟨w.heap.size,0,xs.length⟩:L) else μ i) i=some l:=fun i l hl=>by
  have:=(hh.dom i l hl).1
  simp only
  rw[Yrt (by omega)];exact hl
 refine⟨Next.value x,x,_,_,[],by simp[hs,Result.andThen],.inl rfl,hv,Stp.alloc hh (.cells cs e true) (.cells ⟨xs⟩ e) 0 xs.length ⟨⟨xs⟩,0,0,?_,by simp,by simp[hc.length],fun j u hu=>?_,fun j y _ hy=>?_,fun _=>⟨rfl,fun j hj=>by omega⟩⟩⟩
 ·simp
 ·obtain⟨y,hy,hr⟩:=hc.get hu
  exact⟨y,by simpa using hy,VR.mono hmono u y hr⟩
 ·exact h1 y (Yr1 (by simpa using hy))
def Yg4(hh:Zba P μ w st){e:TypeId}{z:V}(hz:Ze6 P e=some z)(hone:z.cells.all V.one=true)(h:Zhz z.cells e call r st=some (v,st')):
  Za4 P μ w st (do pure (.value (←Instr.alloc e true (.tuple #[])))) v st':=by
 unfold Zhz at h
 simp only[Yrs,Yrv]at h
 obtain⟨rfl,rfl⟩:=h
 obtain⟨i,x,hi,hx,hzx⟩:=Zdu hz
 refine Za4.newRow hh (v:=.ptr st.n 0) (xs:=x.cells.toList) (x:=.pointer (some ⟨w.heap.size,0,none⟩)) ?_ (hzx μ).cells (Znw (hzx μ).cells hone) (by simp only[VR];exact⟨⟨w.heap.size,0,x.cells.toList.length⟩,by simp,by simp⟩)
 simp[Instr.alloc,zeroValue,typeInfo,hi,hx,newVar,Go.newRow,Result.andThen]
def Ynj(hh:Zba P μ w st)(hr:RR μ r n a.tmps){e:TypeId}{x:Operand}{s:Src}(hx:Zbe P x=some s)(h:Zmx e s call r st=some (v,st')):
  Za4 P μ w st (do pure (.value (←Instr.box e (a.eval x)))) v st':=by
 unfold Zmx at h
 split at h
 ·rename_i u hu
  split at h
  ·rename_i hone
   simp only[Yrs,Yrv]at h
   obtain⟨rfl,rfl⟩:=h
   have hux:=Zar hh hr hx hu
   refine Za4.newRow hh (v:=.ptr st.n 0) (xs:=(a.eval x).cells.toList) (x:=.pointer (some ⟨w.heap.size,0,none⟩)) ?_ hux.cells (Znw hux.cells hone) (by simp only[VR];exact⟨⟨w.heap.size,0,_⟩,by simp;rfl,by simp⟩)
   simp[Instr.box,newVar,Go.newRow,Result.andThen]
  ·cases h
 ·cases h
end
end Go.Mx
