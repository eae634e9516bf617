/-The operations of M stand for the Go mod-/
import Derived.Test.YtjjmkflbfpeagaaGreatDoorMxOp1
set_option linter.all false
set_option maxHeartbeats 1000000
namespace Go.Mx
open Go
section
variable {P:Program} {μ:Mu} {w:World} {st ax:St} {r:T V} {n:Nat} {a:Act} {call:cH} {v:V}
def VR.uL{x:V}{k:IntKind}{m:Int}(h:VR μ x (.int k m)):x=.int k m:=by
 cases x<;>simp only[VR]at h<;>first
  |(cases h;rfl)
  |(cases h;done)
  |(obtain⟨_,_,h⟩:=h;cases h;done)
  |(obtain⟨_,_,_,h,_⟩:=h;cases h;done)
  |(obtain⟨_,_,h,_⟩:=h;cases h;done)
  |(obtain⟨_,h,_⟩:=h;cases h;done)
def VR.oG{x:V}{k:FloatKind}{m:Nat}(h:VR μ x (.float k m)):x=.jM k m:=by
 cases x<;>simp only[VR]at h<;>first
  |(cases h;rfl)
  |(cases h;done)
  |(obtain⟨_,_,h⟩:=h;cases h;done)
  |(obtain⟨_,_,_,h,_⟩:=h;cases h;done)
  |(obtain⟨_,_,h,_⟩:=h;cases h;done)
  |(obtain⟨_,h,_⟩:=h;cases h;done)
def VR.j_{x:V}{k:FloatKind}{m m':Nat}(h:VR μ x (.complex k m m')):x=.rp k m m':=by
 cases x<;>simp only[VR]at h<;>first
  |(cases h;rfl)
  |(cases h;done)
  |(obtain⟨_,_,h⟩:=h;cases h;done)
  |(obtain⟨_,_,_,h,_⟩:=h;cases h;done)
  |(obtain⟨_,_,h,_⟩:=h;cases h;done)
  |(obtain⟨_,h,_⟩:=h;cases h;done)
def VR.mU{x:V}{s:ByteArray}(h:VR μ x (.string s)):∃l,x=.str l:=by
 cases x<;>simp only[VR]at h<;>first
  |exact⟨_,rfl⟩
  |(cases h;done)
  |(obtain⟨_,_,h⟩:=h;cases h;done)
  |(obtain⟨_,_,_,h,_⟩:=h;cases h;done)
  |(obtain⟨_,_,h,_⟩:=h;cases h;done)
  |(obtain⟨_,h,_⟩:=h;cases h;done)
def VR.jg{x:V}(h:VR μ x .nilIface):x=.aZ:=by
 cases x<;>simp only[VR]at h<;>first
  |rfl
  |(cases h;done)
  |(obtain⟨_,_,h⟩:=h;cases h;done)
  |(obtain⟨_,_,_,h,_⟩:=h;cases h;done)
  |(obtain⟨_,_,h,_⟩:=h;cases h;done)
  |(obtain⟨_,h,_⟩:=h;cases h;done)
def VR.uM{x:V}{s:Array Value}(h:VR μ x (.agg s)):∃l,x=.agg l:=by
 cases x<;>simp only[VR]at h<;>first
  |exact⟨_,rfl⟩
  |(cases h;done)
  |(obtain⟨_,_,h⟩:=h;cases h;done)
  |(obtain⟨_,_,_,h,_⟩:=h;cases h;done)
  |(obtain⟨_,_,h,_⟩:=h;cases h;done)
  |(obtain⟨_,h,_⟩:=h;cases h;done)
def ZO{t:TypeId}{X Y:Value}{b:Bool}(hi:∀k m k' m',¬(X=.int k m/\Y=.int k' m'))(hs:∀s s',¬(X=.string s/\Y=.string s'))
  (hf:∀k m k' m',¬(X=.float k m/\Y=.float k' m')) (hc:∀k m p k' m' p',¬(X=.complex k m p/\Y=.complex k' m' p')) (h:(Op.equal t X Y).run P w=.ok b w):
  (binOp .eql t X Y).run P w=.ok (.bool b) w/\(binOp .neq t X Y).run P w=.ok (.bool (!b)) w:=by
 constructor
 ·unfold binOp
  split<;>first
   |(exact absurd ⟨rfl,rfl⟩ (hi _ _ _ _))
   |(exact absurd ⟨rfl,rfl⟩ (hs _ _))
   |(exact absurd ⟨rfl,rfl⟩ (hf _ _ _ _))
   |(exact absurd ⟨rfl,rfl⟩ (hc _ _ _ _ _ _))
   |(simp[h];done)
   |simp_all
 ·unfold binOp
  split<;>first
   |(exact absurd ⟨rfl,rfl⟩ (hi _ _ _ _))
   |(exact absurd ⟨rfl,rfl⟩ (hs _ _))
   |(exact absurd ⟨rfl,rfl⟩ (hf _ _ _ _))
   |(exact absurd ⟨rfl,rfl⟩ (hc _ _ _ _ _ _))
   |(simp[h];done)
   |simp_all
def Ta(P:Program)(op:BinOp)(t:TypeId)(x y:Operand)(q:p_)(ng:Bool):Prop:=
 (op=.eql\/op=.neq)->ui P 40 t=some q/\(match P.underlying t with|some (.struct _)|some (.array _ _)=>P.eqGuardType P.depth t|_=>false)=false/\ng=(De x||De y)
def AP{op:BinOp}{t:TypeId}{x y:Operand}{X Y z:Value}(hg:(eqGuard op t x y X Y).run P w=.ok () w)(hb:(binOp op t X Y).run P w=.ok z w):
  (do eqGuard op t x y X Y;binOp op t X Y:Sem Value).run P w=.ok z w:=by simp[hg,hb,Result.andThen]
def Ztq{d:Nat}{t:TypeId}{l:List (Nat×Option Nat×p_)}(h:ui P d t=some (.node l)):∃fs,P.underlying t=some (.struct fs):=by
 cases d with
 |zero=>simp[ui]at h
 |succ d=>
  simp only[ui]at h
  split at h
  ·rename_i fs ht;exact⟨fs,ht⟩
  ·split at h
   ·split at h<;>simp at h
   ·cases h
  ·cases h
def Zls{t:TypeId}{kd:ChanDir}{e:TypeId}{x y:Option Nat}(D:Nat)(ht:P.underlying t=some (.chan kd e)):(Op.equalIn (D+1) t (.chan x) (.chan y)).run P w=.ok (x==y) w:=by
 simp[Op.equalIn,run_underlying ht]
def Ydv{d:Nat}{t:TypeId}(hq:ui P d t=some (.cQ .chan)):∃k e,P.underlying t=some (.chan k e):=by
 cases d with
 |zero=>simp[ui]at hq
 |succ d=>
  simp only[ui]at hq
  split at hq
  ·split at hq
   ·cases hq
   ·split at hq<;>simp at hq
  ·rename_i dd _ ht
   split at hq
   ·rename_i k hk
    split at hq
    ·simp only[ak,p_.cQ.injEq]at hq;subst hq
     cases dd<;>simp[M6]at hk
     exact⟨_,_,ht⟩
    ·cases hq
   ·cases hq
  ·cases hq
def Yha(hh:a_ P μ w st){op:BinOp}{t:TypeId}{x y:Operand}{X Y:Value}{q:p_}{ng:Bool}(hc:Ta P op t x y q ng){i j:Nat}(h1:VR μ (.chan i) X)(h2:VR μ (.chan j) Y)
  (h:Ng op q st i j=some (v,ax)):
  aS P μ w st (do pure (.value (<-(do eqGuard op t x y X Y;binOp op t X Y:Sem Value)))) v ax:=by
 obtain⟨l,hl,rfl⟩:=h1
 obtain⟨l',tY,rfl⟩:=h2
 have hg:(eqGuard op t x y (.chan (some l.b)) (.chan (some l'.b))).run P w=.ok () w:=Jh (by intro h;cases h) (by intro _ _ h;cases h)
 have Tc:∀c b c' b',st.h.get i=some (.chan c b)->st.h.get j=some (.chan c' b')->(some l.b==some l'.b)=(i==j):=by
  intro c b c' b' g1 g2
  by_cases e:i=j
  ·subst e;rw[hl]at tY;cases tY;simp
  ·have:=hh.inj i j l l' _ _ hl tY e g1 g2 rfl rfl
   have e2:(i==j)=false:=by simpa using e
   rw[e2];simpa using this
 have main:(op=.eql\/op=.neq)->q=.cQ .chan->∀c b c' b',st.h.get i=some (.chan c b)->st.h.get j=some (.chan c' b')->
   (binOp .eql t (.chan (some l.b)) (.chan (some l'.b))).run P w=.ok (.bool (i==j)) w/\(binOp .neq t (.chan (some l.b)) (.chan (some l'.b))).run P w=.ok (.bool (!(i==j))) w:=by
  intro vJ hq c b c' b' g1 g2
  subst hq
  obtain⟨kd,e,ht⟩:=Ydv (hc vJ).1
  refine ZO (fun _ _ _ _ e=>by cases e.1) (fun _ _ e=>by cases e.1) (fun _ _ _ _ e=>by cases e.1) (fun _ _ _ _ _ _ e=>by cases e.1) ?_
  have:=Zls (P:=P) (w:=w) (x:=some l.b) (y:=some l'.b) 9999 ht
  rw[Tc _ _ _ _ g1 g2]at this
  exact this
 unfold Ng at h
 split at h
 ·rename_i g1 g2
  simp only[ak,bh]at h
  obtain⟨rfl,rfl⟩:=h
  exact aS.value hh (AP hg (main (.inl rfl) rfl _ _ _ _ g1 g2).1) (by simp[VR])
 ·rename_i g1 g2
  simp only[ak,bh]at h
  obtain⟨rfl,rfl⟩:=h
  exact aS.value hh (AP hg (main (.inr rfl) rfl _ _ _ _ g1 g2).2) (by simp[VR])
 ·cases h
def Yod(hh:a_ P μ w st)(hr:RR μ r n a.tmps){op:BinOp}{t:TypeId}{x y:Operand}{s u:Src}{q:p_}{ng:Bool}(hx:bk P x=some s)(hy:bk P y=some u)
  (hc:Ta P op t x y q ng) (h:DF op q ng s u call r st=some (v,ax)):
  aS P μ w st (do pure (.value (<-(do eqGuard op t x y (a.eval x) (a.eval y);binOp op t (a.eval x) (a.eval y):Sem Value)))) v ax:=by
 unfold DF at h
 split at h
 ·rename_i i j hs hu
  exact Yha hh hc (cE hh hr hx hs) (cE hh hr hy hu) h
 ·rename_i x1 y1 _ hs hu
  have h1:=cE hh hr hx hs
  have h2:=cE hh hr hy hu
  generalize a.eval x=X at*
  generalize a.eval y=Y at*
  split at h
  ·rename_i z hz
   simp only[ak,bh]at h
   obtain⟨rfl,rfl⟩:=h
   unfold R8 at hz
   split at hz
   ·-- two integers
    rename_i k p k' p' _
    simp only[VR]at h1 h2
    subst h1 h2
    have hg:(eqGuard op t x y (.int k p) (.int k' p')).run P w=.ok () w:=Jh (by intro h;cases h) (by intro _ _ h;cases h)
    split at hz
    ·obtain⟨y',h3,h4⟩:=Zx (P:=P) (μ:=μ) (w:=w) (t:=t) (k':=k') (.inl rfl) hz
     exact aS.value hh (AP hg h3) h4
    ·obtain⟨y',h3,h4⟩:=Zx (P:=P) (μ:=μ) (w:=w) (t:=t) (k':=k') (.inr rfl) hz
     exact aS.value hh (AP hg h3) h4
    ·split at hz
     ·rename_i e;subst e
      obtain⟨y',h3,h4⟩:=Zyl (P:=P) (μ:=μ) (w:=w) (t:=t) hz
      exact aS.value hh (AP hg h3) h4
     ·cases hz
   ·rename_i p p' _
    simp only[VR]at h1 h2
    subst h1 h2
    have hg:(eqGuard op t x y (.string ⟨p.toArray⟩) (.string ⟨p'.toArray⟩)).run P w=.ok () w:=Jh (by intro h;cases h) (by intro _ _ h;cases h)
    obtain⟨y',h3,h4⟩:=Zw7 (P:=P) (μ:=μ) (w:=w) (t:=t) hz
    exact aS.value hh (AP hg h3) h4
   ·rename_i hni Zy
    have main:∀b,rB ng q x1 y1=some b->(op=.eql\/op=.neq)->
      (eqGuard op t x y X Y).run P w=.ok () w/\(binOp .eql t X Y).run P w=.ok (.bool b) w/\(binOp .neq t X Y).run P w=.ok (.bool (!b)) w:=by
     intro b hb vJ
     obtain⟨hq,FW,Ju⟩:=hc vJ
     have he:=Ylg (w:=w) 40 hq hb h1 h2 10000 (by omega)
     refine⟨Jh (fun e1 e2=>?_) (fun A B e1 e2=>?_),ZO (fun k m k' m' e=>?_) (fun p p' e=>?_) (fun k m k' m' e=>?_) (fun k m m' k' m1 m2 e=>?_) he⟩
     ·subst e1 e2
      have:=h1.jg;subst this
      have:=h2.jg;subst this
      cases q with
      |cQ k=>cases k<;>simp[rB,aW]at hb;rw[Ju]at hb;simpa using hb.1
      |node l=>simp[rB]at hb
     ·subst e1 e2
      obtain⟨l1,rfl⟩:=h1.uM
      obtain⟨l2,rfl⟩:=h2.uM
      cases q with
      |cQ k=>cases k<;>simp[rB,aW]at hb
      |node l=>
       obtain⟨fs,vX⟩:=Ztq hq
       simpa[vX]using FW
     ·obtain⟨rfl,rfl⟩:=e
      exact hni _ _ _ _ h1.uL h2.uL
     ·obtain⟨rfl,rfl⟩:=e
      obtain⟨l1,e1⟩:=h1.mU
      obtain⟨l2,e2⟩:=h2.mU
      exact Zy _ _ e1 e2
     ·obtain⟨rfl,rfl⟩:=e
      have e1:=h1.oG;subst e1
      have e2:=h2.oG;subst e2
      cases q with
      |cQ k=>cases k<;>simp[rB,aW]at hb
      |node l=>simp[rB]at hb
     ·obtain⟨rfl,rfl⟩:=e
      have e1:=h1.j_;subst e1
      have e2:=h2.j_;subst e2
      cases q with
      |cQ k=>cases k<;>simp[rB,aW]at hb
      |node l=>simp[rB]at hb
    split at hz
    ·split at hz
     ·rename_i b hb
      simp only[ak]at hz;subst hz
      obtain⟨g1,g2,_⟩:=main b hb (.inl rfl)
      exact aS.value hh (AP g1 g2) (by simp[VR])
     ·cases hz
    ·split at hz
     ·rename_i b hb
      simp only[ak]at hz;subst hz
      obtain⟨g1,_,g2⟩:=main b hb (.inr rfl)
      exact aS.value hh (AP g1 g2) (by simp[VR])
     ·cases hz
    ·cases hz
  ·cases h
 ·cases h
end
section
variable {P:Program} {μ:Mu} {w:World} {st ax:St} {r:T V} {n:Nat} {a:Act} {call:cH} {v:V}
def Ej(μ:Mu):Option V->Option Value->Prop
 |none,none=>True
 |some v,some x=>VR μ v x
 |_,_=>False
def qM(hh:a_ P μ w st)(hr:RR μ r n a.tmps){x:Option Operand}{s:Option Src}(hc:p9 P x=some s){v:Option V}(hv:az r s=some v):Ej μ v (x.map a.eval):=by
 rcases Zj hh hr hc hv with⟨rfl,rfl⟩|⟨v',x',rfl,rfl,h⟩
 ·trivial
 ·exact h
def Ej.isNone{v:Option V}{x:Option Value}(h:Ej μ v x):x.isNone=v.isNone:=by
 cases v<;>cases x<;>simp_all [Ej]
def Jv{u:V}{X:Value}{y m k:Nat}{code:BoundsCode}(hu:VR μ u X)(h:jP u y=some m)(hk:y<=k):(Instr.sliceBound X k code).run P w=.ok m w/\m<=y:=by
 unfold jP at h
 split at h
 ·rename_i q z
  split at h
  ·rename_i hz
   simp only[ak]at h;subst h
   simp only[VR]at hu;subst hu
   have h2:z<=(k:Int):=by omega
   exact⟨by simp[Instr.sliceBound,asIntOf,hz.1,h2],by omega⟩
  ·cases h
 ·cases h
def Ek{isS:Bool}{len y k:Nat}{lo hi mx:Option V}{LO HI MX:Option Value}(fA:Ej μ lo LO)(il:Ej μ hi HI)(dJ:Ej μ mx MX)(hy:y<=k){m h l:Nat}
  (hm:(mx=none/\m=k)\/(dt mx y 0=some m/\mx.isSome=true/\hi.isSome=true)) (hh:dt hi (if mx=none then y else m) len=some h) (hl:dt lo h 0=some l):
  (Instr.sliceBounds isS len k LO HI MX).run P w=.ok (l,h,m) w:=by
 cases mx with
 |none=>
  cases MX with
  |some _=>exact dJ.elim
  |none=>
   have hmk:m=k:=by
    rcases hm with⟨_,e⟩|⟨_,e,_⟩
    ·exact e
    ·simp at e
   subst hmk
   simp only[if_true]at hh
   have ya:∀ZP,LO=some ZP->∀code,(Instr.sliceBound ZP h code).run P w=.ok l w:=fun X e code=>by
    subst e
    cases lo with
    |none=>exact fA.elim
    |some u=>exact(Jv fA hl (aR _)).1
   have rJ:LO=none->l=0:=fun e=>by
    subst e
    cases lo with
    |none=>simpa[dt]using hl.symm
    |some u=>exact fA.elim
   have Jw:∀ZQ,HI=some ZQ->∀code,(Instr.sliceBound ZQ m code).run P w=.ok h w:=fun X e code=>by
    subst e
    cases hi with
    |none=>exact il.elim
    |some u=>exact(Jv il hh hy).1
   have hh0:HI=none->h=len:=fun e=>by
    subst e
    cases hi with
    |none=>simpa[dt]using hh.symm
    |some u=>exact il.elim
   cases HI with
   |none=>
    have:=hh0 rfl;subst this
    cases LO with
    |none=>have:=rJ rfl;subst this;simp[Instr.sliceBounds]
    |some X=>simp[Instr.sliceBounds,ya X rfl,Result.andThen]
   |some Y=>
    cases LO with
    |none=>have:=rJ rfl;subst this;simp[Instr.sliceBounds,Jw Y rfl,Result.andThen]
    |some X=>simp[Instr.sliceBounds,ya X rfl,Jw Y rfl,Result.andThen]
 |some um=>
  cases MX with
  |none=>exact dJ.elim
  |some Z=>
   obtain⟨hm,iU⟩:dt (some um) y 0=some m/\hi.isSome=true:=by
    rcases hm with⟨e,_⟩|⟨e,_,e'⟩
    ·simp at e
    ·exact⟨e,e'⟩
   have hz:∀code,(Instr.sliceBound Z k code).run P w=.ok m w:=fun code=>(Jv dJ hm hy).1
   simp only[reduceCtorEq,if_false]at hh
   cases hi with
   |none=>simp at iU
   |some u=>
    cases HI with
    |none=>exact il.elim
    |some Y=>
     have sZ:∀code,(Instr.sliceBound Y m code).run P w=.ok h w:=fun code=>(Jv il hh (aR _)).1
     cases lo with
     |none=>
      cases LO with
      |some _=>exact fA.elim
      |none=>
       simp only[dt,ak]at hl;subst hl
       simp[Instr.sliceBounds,hz,sZ,Result.andThen]
     |some ul=>
      cases LO with
      |none=>exact fA.elim
      |some X=>
       have nz:∀code,(Instr.sliceBound X h code).run P w=.ok l w:=fun code=>(Jv fA hl (aR _)).1
       simp[Instr.sliceBounds,hz,sZ,nz,Result.andThen]
def tc{u:Option V}{y d m:Nat}(h:dt u y d=some m):m<=y\/(u=none/\m=d):=by
 cases u with
 |none=>simp only[dt,ak]at h;exact .inr ⟨rfl,h.symm⟩
 |some u=>
  simp only[dt,jP]at h
  split at h
  ·split at h
   ·simp only[ak]at h;left;omega
   ·cases h
  ·cases h
def Zs1(hh:a_ P μ w st)(hr:RR μ r n a.tmps){t:TypeId}{x:Operand}{lo hi:Option Operand}{s:Src}{ls hs:Option Src}(ht:P.underlying t=some .string)(hx:bk P x=some s)
  (fA:p9 P lo=some ls) (il:p9 P hi=some hs) (h:wF s ls hs call r st=some (v,ax)):
  aS P μ w st (do pure (.value (<-Instr.sliceAt t (a.eval x) (lo.map a.eval) (hi.map a.eval) none))) v ax:=by
 unfold wF at h
 split at h
 ·rename_i l vl vh h1 h2 h3
  have e1:=cE hh hr hx h1
  simp only[VR]at e1
  have e2:=qM hh hr fA h2
  have e3:=qM hh hr il h3
  split at h
  ·rename_i hb oH
   split at h
   ·rename_i lb nL
    simp only[ak,bh]at h
    obtain⟨rfl,rfl⟩:=h
    have jc:(⟨l.toArray⟩:ByteArray).size=l.length:=by show l.toArray.size=_;simp
    have bH:=Ek (P:=P) (w:=w) (isS:=false) (len:=l.length) (y:=l.length) (k:=l.length) (mx:=none) (MX:=none) (m:=l.length) e2 e3 trivial (aR _) (.inl ⟨rfl,rfl⟩) (by simpa using oH) nL
    refine aS.value hh (x:=.string ((⟨l.toArray⟩:ByteArray).extract lb hb)) ?_ ?_
    ·simp[Instr.sliceAt,Instr.slice,run_underlying ht,e1,jc,bH,Result.andThen]
    ·simp only[VR]
     congr 1
     apply ByteArray.ext
     rw[ByteArray.data_extract]
     apply xD
     simp[List.extract,List.drop_take]
   ·cases h
  ·cases h
 ·cases h
def GX{t e:TypeId}{z:Nat}(ht:P.underlying t=some (.slice e))(hz:eD P e=some z){A:Option Addr}{len c l h m:Nat}{LO HI MX:Option Value}
  (hb:(Instr.sliceBounds true len c LO HI MX).run P w=.ok (l,h,m) w):
  (Instr.sliceAt t (.slice A len c) LO HI MX).run P w=.ok (.slice (if m=l then A else A.map (·.add (l*z))) (h-l) (m-l)) w:=by
 simp[Instr.sliceAt,Instr.slice,run_underlying ht,hb,vL hz,Result.andThen]
def Zw9(hh:a_ P μ w st)(hr:RR μ r n a.tmps){t e:TypeId}{z:Nat}{x:Operand}{lo hi mx:Option Operand}{s:Src}{ls hs ms:Option Src}(ht:P.underlying t=some (.slice e))(hz:eD P e=some z)
  (hx:bk P x=some s) (fA:p9 P lo=some ls) (il:p9 P hi=some hs) (dJ:p9 P mx=some ms) (h:po z s ls hs ms call r st=some (v,ax)):
  aS P μ w st (do pure (.value (<-Instr.sliceAt t (a.eval x) (lo.map a.eval) (hi.map a.eval) (mx.map a.eval)))) v ax:=by
 unfold po at h
 split at h
 ·-- nil
  rename_i vl vh vm h1 h2 h3 h4
  have e1:=cE hh hr hx h1
  simp only[VR]at e1
  have e2:=qM hh hr fA h2
  have e3:=qM hh hr il h3
  have e4:=qM hh hr dJ h4
  split at h
  ·rename_i m hm
   split at h
   ·rename_i hb oH
    split at h
    ·rename_i lb nL
     split at h
     ·cases h
     ·rename_i kZ
      simp only[ak,bh]at h
      obtain⟨rfl,rfl⟩:=h
      have sS:m=0:=by rcases tc hm with h|h<;>omega
      have py:hb=0:=by rcases tc oH with h|h<;>omega
      have rJ:lb=0:=by rcases tc nL with h|h<;>omega
      subst sS py rJ
      have bH:=Ek (P:=P) (w:=w) (isS:=true) (len:=0) (y:=0) (k:=0) e2 e3 e4 (aR _) (m:=0) (h:=0) (l:=0)
       (by cases vm with
        |none=>exact .inl ⟨rfl,rfl⟩
        |some u=>cases vh with
         |none=>simp at kZ
         |some u'=>exact .inr ⟨hm,rfl,rfl⟩)
       (by cases vm<;>simpa using oH) nL
      refine aS.value hh (x:=.slice none 0 0) ?_ (by simp[VR])
      rw[e1,GX ht hz bH]
      simp
    ·cases h
   ·cases h
  ·cases h
 ·-- not nil,empty
  rename_i vl vh h1 h2 h3 h4
  have e1:=cE hh hr hx h1
  obtain⟨A,c,e1⟩:=e1
  have e2:=qM hh hr fA h2
  have e3:=qM hh hr il h3
  have e4:=qM hh hr dJ h4
  split at h
  ·rename_i hb oH
   split at h
   ·rename_i lb nL
    simp only[ak,bh]at h
    obtain⟨rfl,rfl⟩:=h
    have py:hb=0:=by rcases tc oH with h|h<;>omega
    have rJ:lb=0:=by rcases tc nL with h|h<;>omega
    subst py rJ
    have bH:=Ek (P:=P) (w:=w) (isS:=true) (len:=0) (y:=0) (k:=c) e2 e3 e4 (tN _) (m:=c) (h:=0) (l:=0) (.inl ⟨rfl,rfl⟩) (by simpa using oH) nL
    refine aS.value hh (x:=.slice (some (if c=0 then A else A.add (0*z))) 0 (c-0)) ?_ ⟨_,_,rfl⟩
    rw[e1,GX ht hz bH]
    split<;>simp
   ·cases h
  ·cases h
 ·-- the capacity is known
  rename_i i o len c sz vl vh vm h1 h2 h3 h4
  obtain⟨l,c',hl,e1,hlen,xZ,hc,_⟩:=cE hh hr hx h1
  have:=hc c rfl;subst this
  have e2:=qM hh hr fA h2
  have e3:=qM hh hr il h3
  have e4:=qM hh hr dJ h4
  split at h
  ·cases h
  ·rename_i kZ
   simp only[not_or,Decidable.not_not,Bool.not_eq_true]at kZ
   obtain⟨rfl,kZ⟩:=kZ
   split at h
   ·rename_i m hm
    split at h
    ·rename_i hb oH
     split at h
     ·rename_i lb nL
      simp only[ak,bh]at h
      obtain⟨rfl,rfl⟩:=h
      have hmc:m<=c':=by rcases tc hm with h|h<;>omega
      have bH:=Ek (P:=P) (w:=w) (isS:=true) (len:=len) (y:=c') (k:=c') e2 e3 e4 (aR _) (m:=m) (h:=hb) (l:=lb)
       (by cases vm with
        |none=>simp only[dt,ak]at hm;exact .inl ⟨rfl,hm.symm⟩
        |some u=>cases vh with
         |none=>simp at kZ
         |some u'=>exact .inr ⟨hm,rfl,rfl⟩)
       (by cases vm with
        |none=>simp only[dt,ak]at hm;subst hm;simpa using oH
        |some u=>simpa using oH) nL
      have Td:hb<=m:=by
       rcases tc oH with h|⟨h,h'⟩
       ·exact h
       ·subst h
        cases vm with
        |none=>simp only[dt,ak]at hm;omega
        |some u=>simp at kZ
      have Jr:lb<=hb:=by rcases tc nL with h|h<;>omega
      have k1:m*sz<=c'*sz:=kp _ hmc
      have k2:(m-lb)*sz=m*sz-lb*sz:=Nat.sub_mul _ _ _
      have k3:lb*sz<=m*sz:=kp _ (by omega)
      refine aS.value hh (x:=.slice (some ⟨l.b,l.d+(if m=lb then o else o+lb*sz),none⟩) (hb-lb) (m-lb)) ?_ ⟨l,m-lb,hl,rfl,by omega,?_,fun k hk=>by simpa using hk,by simp⟩
      ·rw[e1,GX ht hz bH]
       split<;>simp[uJ,pk]
      ·split
       ·rename_i e;subst e;simp;omega
       ·omega
     ·cases h
    ·cases h
   ·cases h
 ·-- the capacity is not known
  rename_i i o len sz vl vh vm h1 h2 h3 h4
  obtain⟨l,cw,hl,e1,hlen,xZ,_,ZR⟩:=cE hh hr hx h1
  have ZR:=ZR rfl
  have e2:=qM hh hr fA h2
  have e3:=qM hh hr il h3
  have e4:=qM hh hr dJ h4
  split at h
  ·cases h
  ·rename_i kZ
   simp only[not_or,Decidable.not_not,Bool.not_eq_true]at kZ
   obtain⟨rfl,rF,kZ⟩:=kZ
   split at h
   ·rename_i cs _ _ aE
    obtain⟨c'',_,_,_,_,dM,_⟩:=hh.row hl aE
    have oI:max len ((cs.length-o)/sz)<=cw:=by
     have:(cs.length-o)/sz<=cw:=by
      rw[Nat.div_le_iff_le_mul_add_pred (by omega)]
      have:sz*cw=cw*sz:=fR _ _
      omega
     omega
    have vM:len<=max len ((cs.length-o)/sz):=by omega
    generalize max len ((cs.length-o)/sz)=y at*
    dsimp only at h
    split at h
    ·rename_i um
     split at h
     ·rename_i m hm
      split at h
      ·rename_i hb oH
       split at h
       ·rename_i lb nL
        simp only[ak,bh]at h
        obtain⟨rfl,rfl⟩:=h
        cases vh with
        |none=>simp at kZ
        |some uh=>
        have Te:m<=y:=by
         rcases tc (u:=some um) (d:=0) hm with h|h
         ·exact h
         ·simp at h
        have bH:=Ek (P:=P) (w:=w) (isS:=true) (len:=len) (y:=y) (k:=cw) e2 e3 e4 oI (m:=m) (h:=hb) (l:=lb) (.inr ⟨hm,rfl,rfl⟩) (by simpa using oH) nL
        have Td:hb<=m:=by
         rcases tc oH with h|⟨h,h'⟩
         ·exact h
         ·simp at h
        have Jr:lb<=hb:=by rcases tc nL with h|h<;>omega
        have k1:m*sz<=cw*sz:=kp _ (by omega)
        have k2:(m-lb)*sz=m*sz-lb*sz:=Nat.sub_mul _ _ _
        have k3:lb*sz<=m*sz:=kp _ (by omega)
        refine aS.value hh (x:=.slice (some ⟨l.b,l.d+(if m=lb then o else o+lb*sz),none⟩) (hb-lb) (m-lb)) ?_ ⟨l,m-lb,hl,rfl,by omega,?_,fun k hk=>by simpa using hk,by simp⟩
        ·rw[e1,GX ht hz bH]
         split<;>simp[uJ,pk]
        ·split
         ·rename_i e;subst e;simp;omega
         ·omega
       ·cases h
      ·cases h
     ·cases h
    ·split at h
     ·rename_i hb oH
      split at h
      ·rename_i lb nL
       have bH:=Ek (P:=P) (w:=w) (isS:=true) (len:=len) (y:=y) (k:=cw) e2 e3 e4 oI (m:=cw) (h:=hb) (l:=lb) (.inl ⟨rfl,rfl⟩) (by simpa using oH) nL
       have Td:hb<=y:=by rcases tc oH with h|⟨h,h'⟩<;>omega
       have Jr:lb<=hb:=by rcases tc nL with h|h<;>omega
       have k2:(cw-lb)*sz=cw*sz-lb*sz:=Nat.sub_mul _ _ _
       have k3:lb*sz<=cw*sz:=kp _ (by omega)
       split at h
       ·rename_i aO
        simp only[ak,bh]at h
        obtain⟨rfl,rfl⟩:=h
        refine aS.value hh (x:=.slice (some ⟨l.b,l.d+(o+lb*sz),none⟩) (hb-lb) (cw-lb)) ?_ ⟨l,cw-lb,hl,rfl,by omega,by omega,by simp,fun _=>by omega⟩
        rw[e1,GX ht hz bH]
        rw[aq (by omega)]
        simp[uJ,pk]
       ·simp only[ak,bh]at h
        obtain⟨rfl,rfl⟩:=h
        have:hb-lb=0:=by omega
        refine aS.value hh (x:=.slice (some (if cw=lb then ⟨l.b,l.d+o,none⟩ else (⟨l.b,l.d+o,none⟩:Addr).add (lb*sz))) 0 (cw-lb)) ?_ ⟨_,_,rfl⟩
        rw[e1,GX ht hz bH,this]
        split<;>simp
      ·cases h
     ·cases h
   ·cases h
 ·cases h
def Zs2(hh:a_ P μ w st)(hr:RR μ r n a.tmps){t e:TypeId}{k z:Nat}{x:Operand}{lo hi mx:Option Operand}{s:Src}{ls hs ms:Option Src}(ht:P.underlying t=some (.array k e))(hz:eD P e=some z)
  (hx:bk P x=some s) (fA:p9 P lo=some ls) (il:p9 P hi=some hs) (dJ:p9 P mx=some ms) (h:xG k z s ls hs ms call r st=some (v,ax)):
  aS P μ w st (do pure (.value (<-Instr.sliceAt t (a.eval x) (lo.map a.eval) (hi.map a.eval) (mx.map a.eval)))) v ax:=by
 unfold xG at h
 split at h
 ·rename_i i o vl vh h1 h2 h3 h4
  obtain⟨l,hl,e1⟩:=cE hh hr hx h1
  have e2:=qM hh hr fA h2
  have e3:=qM hh hr il h3
  have e4:=qM hh hr dJ h4
  split at h
  ·rename_i hb oH
   split at h
   ·rename_i lb nL
    split at h
    ·rename_i cs _ _ aE
     split at h
     ·rename_i cL
      simp only[ak,bh]at h
      obtain⟨rfl,rfl⟩:=h
      obtain⟨c'',_,_,_,_,dM,_⟩:=hh.row hl aE
      have bH:=Ek (P:=P) (w:=w) (isS:=false) (len:=k) (y:=k) (k:=k) e2 e3 e4 (aR _) (m:=k) (h:=hb) (l:=lb) (.inl ⟨rfl,rfl⟩) (by simpa using oH) nL
      have Td:hb<=k:=by rcases tc oH with h|⟨h,h'⟩<;>omega
      have Jr:lb<=hb:=by rcases tc nL with h|h<;>omega
      have k2:(k-lb)*z=k*z-lb*z:=Nat.sub_mul _ _ _
      have k3:lb*z<=k*z:=kp _ (by omega)
      have Jp:=cL.1
      refine aS.value hh (x:=.slice (some ⟨l.b,l.d+(if k=lb then o else o+lb*z),none⟩) (hb-lb) (k-lb)) ?_ ⟨l,k-lb,hl,rfl,by omega,?_,fun k hk=>by simpa using hk,by simp⟩
      ·simp only[Instr.sliceAt,Sem.run_bind,run_underlying ht,Result.andThen,Instr.sureAddr,e1,Sem.run_pure,bH,vL hz]
       split<;>simp[uJ,pk]
      ·split
       ·rename_i e;subst e;simp;omega
       ·omega
     ·cases h
    ·cases h
   ·cases h
  ·cases h
 ·cases h
end
section
variable {P:Program} {μ:Mu} {w:World} {st ax:St} {r:T V} {n:Nat} {a:Act} {call:cH} {v:V}
def CZ{α:Type}{c vs:List α}{o:Nat}(h:o+vs.length<=c.length):(ag c o vs).length=c.length:=by
 simp[ag];omega
def GW{α:Type}{c vs:List α}{o:Nat}(h:o+vs.length<=c.length)(j:Nat):(ag c o vs)[j]?=if o<=j/\j<o+vs.length then vs[j-o]? else c[j]?:=by
 have aO:(c.take o).length=o:=by simp;omega
 unfold ag
 rw[qs]
 by_cases h1:j<o
 ·rw[nj (by omega),aq (by omega),kg,aJ h1]
 ·rw[qu (by omega),aO]
  by_cases h2:j<o+vs.length
  ·rw[nj (by omega),aJ ⟨by omega,h2⟩]
  ·rw[qu (by omega),aq (by omega),gk]
   congr 1;omega
def aP.ag{c vs:List V}{c' kv:List Value}(h:aP μ c c')(h':aP μ vs kv)(o:Nat):aP μ (ag c o vs) (ag c' o kv):=by
 unfold Mx.ag
 rw[h'.length]
 exact((h.take o).append h').append (h.drop _)
def ZS{α:Type}(c:List α)(o:Nat)(x:α)(vs:List α)(h:o<c.length):Mx.ag (c.set o x) (o+1) vs=Mx.ag c o (x::vs):=by
 unfold Mx.ag
 have e1:(c.set o x).take (o+1)=c.take o++[x]:=by
  rw[CP,List.take_set_of_le (aR _)]
  simp[h]
 have e2:(c.set o x).drop (o+1+vs.length)=c.drop (o+(vs.length+1)):=by
  rw[List.drop_set_of_lt (by omega)]
  congr 1;omega
 rw[e1,e2]
 simp
def Ygj(off:Nat):∀(vs:List Value) (k:Nat) (cs:List Value),off+k+vs.length<=cs.length->
  (vs.zipIdx k).foldl (fun (cs:Array Value) (p:Value×Nat)=>cs.setIfInBounds (off+p.2) p.1) ⟨cs⟩=⟨ag cs (off+k) vs⟩:=by
 intro vs
 induction vs with
 |nil=>intro k cs h;simp[ag]
 |cons x vs ih=>
  intro k cs h
  simp only[bf]at h
  simp only[List.zipIdx_cons,List.foldl_cons]
  have e:(⟨cs⟩:Array Value).setIfInBounds (off+k) x=⟨cs.set (off+k) x⟩:=by
   apply xD
   simp
  rw[e,ih (k+1) (cs.set (off+k) x) (by simp;omega),<-pk,ZS _ _ _ _ (by omega)]
def Tf(hh:a_ P μ w st)(hr:RR μ r n a.tmps){place:Nat->Option (Nat×Nat)}:∀{parts:List (Nat×Operand)} {rD:List (Nat×Nat×Src)},zm P place parts=some rD->
  ∀{ps:List (Nat×Nat×V)},zu r rD=some ps->∀{cs:List V} {Ch:List Value},aP μ cs Ch->∀{l:List V},zt cs ps=some l->
  ∃l',Instr.fill place ⟨Ch⟩ (parts.map fun p=>(p.1,a.eval p.2))=some ⟨l'⟩/\aP μ l l':=by
 intro parts
 induction parts with
 |nil=>
  intro rD hc ps he cs Ch rk l hl
  simp only[zm,ak]at hc;subst hc
  simp only[zu,ak]at he;subst he
  simp only[zt,ak]at hl;subst hl
  exact⟨Ch,by simp[Instr.fill],rk⟩
 |cons p parts ih=>
  intro rD hc ps he cs Ch rk l hl
  obtain⟨i,x⟩:=p
  simp only[zm]at hc
  split at hc
  ·rename_i o s sx l' hp hx gw
   simp only[ak]at hc;subst hc
   simp only[zu]at he
   split at he
   ·rename_i u vs hu Eb
    simp only[ak]at he;subst he
    simp only[zt]at hl
    split at hl
    ·rename_i cL
     have NJ:=cE hh hr hx hu
     have gD:=NJ.cells
     have hlen:(a.eval x).cells.size=s:=by
      have:=gD.length
      rw[<-cL.1,<-this];simp
     have eQ:(a.eval x).cells.toList.length=s:=by simpa using hlen
     obtain⟨l'',h1,h2⟩:=ih gw Eb (rk.ag gD o) hl
     refine⟨l'',?_,h2⟩
     simp only[km,Instr.fill,hp]
     rw[aq]
     ·have e:((a.eval x).cells.zipIdx.foldl (fun (cs:Array Value) (p:Value×Nat)=>cs.setIfInBounds (o+p.2) p.1) ⟨Ch⟩)=⟨ag Ch o (a.eval x).cells.toList⟩:=by
       rw[<-Array.foldl_toList,Array.toList_zipIdx]
       have:=Ygj o (a.eval x).cells.toList 0 Ch (by rw[eQ,rk.length];omega)
       simpa using this
      rw[<-h1]
      congr 1
     ·have dM:=rk.length
      simp only[hlen,ne_eq,not_true_eq_false,decide_false,Bool.false_or,decide_eq_true_eq]
      simp[dM];omega
    ·cases hl
   ·cases he
  ·cases hc
def Zxk:∀{fs:List Field} {pl:List (Nat×Nat)},Gq P fs=some pl->fs.mapM (fun f=>(P.info? f.type).map fun i=>(f.offset,i.size))=some pl:=by
 intro fs
 induction fs with
 |nil=>intro pl h;simp only[Gq,ak]at h;subst h;simp
 |cons f fs ih=>
  intro pl h
  simp only[Gq]at h
  split at h
  ·rename_i s l hs hl
   simp only[ak]at h;subst h
   unfold eD at hs
   simp only[fZ]at hs
   obtain⟨i,hi,rfl⟩:=hs
   simp[List.mapM_cons,hi,ih hl]
  ·cases h
def Eh{t:TypeId}{z:V}(h:nv P t=some z):∃i x,P.info? t=some i/\i.zero=some x/\∀μ,VR μ z x:=by
 unfold nv at h
 split at h
 ·rename_i i hi
  split at h
  ·rename_i x hx
   exact⟨i,x,hi,hx,fun μ=>NB μ x z h⟩
  ·cases h
 ·cases h
def Zny(hh:a_ P μ w st)(hr:RR μ r n a.tmps){t:TypeId}{fs:Array Field}{pl:List (Nat×Nat)}{z:V}{parts:Array (Nat×Operand)}{rD:List (Nat×Nat×Src)}
  (hz:nv P t=some z) (ht:P.underlying t=some (.struct fs)) (hp:Gq P fs.toList=some pl) (hc:zm P (pl[·]?) parts.toList=some rD) (h:Au z.cells rD call r st=some (v,ax)):
  aS P μ w st (do pure (.value (<-Instr.build t (parts.map fun (i,x)=>(i,a.eval x))))) v ax:=by
 unfold Au at h
 split at h
 ·rename_i ps yb
  split at h
  ·rename_i l hl
   simp only[ak,bh]at h
   obtain⟨rfl,rfl⟩:=h
   obtain⟨i,x,hi,hx,oF⟩:=Eh hz
   obtain⟨l',h1,h2⟩:=Tf hh hr hc yb (oF μ).cells hl
   refine aS.value hh (x:=.agg ⟨l'⟩) (run_build w t _ _ ?_) ⟨l',rfl,h2⟩
   simp only[Program.built,hi,ht,hx,Zxk hp]
   rw[<-h1]
   simp
  ·cases h
 ·cases h
def Zn9(hh:a_ P μ w st)(hr:RR μ r n a.tmps){t e:TypeId}{k s:Nat}{z:V}{parts:Array (Nat×Operand)}{rD:List (Nat×Nat×Src)}
  (hz:nv P t=some z) (ht:P.underlying t=some (.array k e)) (hs:eD P e=some s) (hc:zm P (fun i=>some (i*s,s)) parts.toList=some rD) (h:Au z.cells rD call r st=some (v,ax)):
  aS P μ w st (do pure (.value (<-Instr.build t (parts.map fun (i,x)=>(i,a.eval x))))) v ax:=by
 unfold Au at h
 split at h
 ·rename_i ps yb
  split at h
  ·rename_i l hl
   simp only[ak,bh]at h
   obtain⟨rfl,rfl⟩:=h
   obtain⟨i,x,hi,hx,oF⟩:=Eh hz
   unfold eD at hs
   simp only[fZ]at hs
   obtain⟨ie,hie,rfl⟩:=hs
   obtain⟨l',h1,h2⟩:=Tf hh hr hc yb (oF μ).cells hl
   refine aS.value hh (x:=.agg ⟨l'⟩) (run_build w t _ _ ?_) ⟨l',rfl,h2⟩
   simp only[Program.built,hi,ht,hx,hie]
   rw[<-h1]
   simp
  ·cases h
 ·cases h
def Jx{vs:List V}{xs:List Value}(h:aP μ vs xs)(hv:vs.all V.one=true):∀x∈xs,x.oneCell'=true:=by
 intro x hx
 obtain⟨j,hj⟩:=F9 hx
 have hl:=h.length
 have zf:j<xs.length:=(zo.1 hj).1
 have:∃u,vs[j]?=some u:=⟨vs[j]'(by omega),by simp⟩
 obtain⟨u,hu⟩:=this
 obtain⟨y,h1,h2⟩:=h.get hu
 rw[hj]at h1;cases h1
 have yc:u.one=true:=by
  rw[sJ]at hv
  exact hv u (fW hu)
 have:=h2.one yc
 cases x<;>simp_all [Value.oneCell']
def aS.newRow(hh:a_ P μ w st){s:Sem Value}{x:Value}{cs:List V}{xs:List Value}{e:TypeId}(hs:s.run P w=.ok x (w.alloc (.cells ⟨xs⟩ e)))
  (hc:aP μ cs xs) (h1:∀x∈xs,x.oneCell'=true) (hv:VR (fun i=>if i=st.n then some ⟨w.heap.size,0,xs.length⟩ else μ i) v x):
  aS P μ w st (do pure (.value (<-s))) v (st.alloc (.cells cs e true)):=by
 have dr:∀i l,μ i=some l->(fun i=>if i=st.n then some (⟨w.heap.size,0,xs.length⟩:L) else μ i) i=some l:=fun i l hl=>by
  have:=(hh.cU i l hl).1
  simp only
  rw[aq (by omega)];exact hl
 refine⟨Next.value x,x,_,_,[],by simp[hs,Result.andThen],.inl rfl,hv,bA.alloc hh (.cells cs e true) (.cells ⟨xs⟩ e) 0 xs.length ⟨⟨xs⟩,0,0,?_,by simp,by simp[hc.length],fun j u hu=>?_,fun j y _ hy=>?_,fun _=>⟨rfl,fun j hj=>by omega⟩⟩⟩
 ·simp
 ·obtain⟨y,hy,hr⟩:=hc.get hu
  exact⟨y,by simpa using hy,VR.mono dr u y hr⟩
 ·exact h1 y (fW (by simpa using hy))
def Yhe(hh:a_ P μ w st){e:TypeId}{z:V}(hz:nv P e=some z)(cy:z.cells.all V.one=true)(h:GF z.cells e call r st=some (v,ax)):
  aS P μ w st (do pure (.value (<-Instr.alloc e true (.tuple #[])))) v ax:=by
 unfold GF at h
 simp only[ak,bh]at h
 obtain⟨rfl,rfl⟩:=h
 obtain⟨i,x,hi,hx,oF⟩:=Eh hz
 refine aS.newRow hh (v:=.ptr st.n 0) (xs:=x.cells.toList) (x:=.pointer (some ⟨w.heap.size,0,none⟩)) ?_ (oF μ).cells (Jx (oF μ).cells cy) (by simp only[VR];exact⟨⟨w.heap.size,0,x.cells.toList.length⟩,by simp,by simp⟩)
 simp[Instr.alloc,zeroValue,typeInfo,hi,hx,newVar,Go.newRow,Result.andThen]
def Yoc(hh:a_ P μ w st)(hr:RR μ r n a.tmps){e:TypeId}{x:Operand}{s:Src}(hx:bk P x=some s)(h:Dz e s call r st=some (v,ax)):
  aS P μ w st (do pure (.value (<-Instr.box e (a.eval x)))) v ax:=by
 unfold Dz at h
 split at h
 ·rename_i u hu
  split at h
  ·rename_i cy
   simp only[ak,bh]at h
   obtain⟨rfl,rfl⟩:=h
   have NJ:=cE hh hr hx hu
   refine aS.newRow hh (v:=.ptr st.n 0) (xs:=(a.eval x).cells.toList) (x:=.pointer (some ⟨w.heap.size,0,none⟩)) ?_ NJ.cells (Jx NJ.cells cy) (by simp only[VR];exact⟨⟨w.heap.size,0,_⟩,by simp;rfl,by simp⟩)
   simp[Instr.box,newVar,Go.newRow,Result.andThen]
  ·cases h
 ·cases h
end
end Go.Mx
