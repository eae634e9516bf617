/-The operations of M stand for the Go mod-/
import Derived.Test.YtlfdeoomaccciaaGreatDoorMxOp1
set_option linter.all false
namespace Go.Mx
open Go
set_option maxHeartbeats 1000000
section
variable {P:Program} {μ:Mu} {w:World} {st az:St} {r:T V} {n:Nat} {a:Act} {call:cD} {v:V}
def VR.xz{x:V}{k:IntKind}{m:Int}(h:VR μ x (.int k m)):x=.int k m:=by
 cases x<;>simp only[VR]at h<;>first
  |(cases h;rfl)
  |(cases h;done)
  |(obtain⟨_,_,h⟩:=h;cases h;done)
  |(obtain⟨_,_,_,h,_⟩:=h;cases h;done)
  |(obtain⟨_,_,h,_⟩:=h;cases h;done)
  |(obtain⟨_,h,_⟩:=h;cases h;done)
def VR.qm{x:V}{k:FloatKind}{m:Nat}(h:VR μ x (.float k m)):x=.vi k m:=by
 cases x<;>simp only[VR]at h<;>first
  |(cases h;rfl)
  |(cases h;done)
  |(obtain⟨_,_,h⟩:=h;cases h;done)
  |(obtain⟨_,_,_,h,_⟩:=h;cases h;done)
  |(obtain⟨_,_,h,_⟩:=h;cases h;done)
  |(obtain⟨_,h,_⟩:=h;cases h;done)
def VR.tK{x:V}{k:FloatKind}{m m':Nat}(h:VR μ x (.complex k m m')):False:=by
 cases x<;>simp only[VR]at h<;>first
  |(cases h;done)
  |(obtain⟨_,_,h⟩:=h;cases h;done)
  |(obtain⟨_,_,_,h,_⟩:=h;cases h;done)
  |(obtain⟨_,_,h,_⟩:=h;cases h;done)
  |(obtain⟨_,h,_⟩:=h;cases h;done)
def VR.oK{x:V}{s:ByteArray}(h:VR μ x (.string s)):∃l,x=.str l:=by
 cases x<;>simp only[VR]at h<;>first
  |exact⟨_,rfl⟩
  |(cases h;done)
  |(obtain⟨_,_,h⟩:=h;cases h;done)
  |(obtain⟨_,_,_,h,_⟩:=h;cases h;done)
  |(obtain⟨_,_,h,_⟩:=h;cases h;done)
  |(obtain⟨_,h,_⟩:=h;cases h;done)
def VR.jO{x:V}(h:VR μ x .nilIface):x=.aY:=by
 cases x<;>simp only[VR]at h<;>first
  |rfl
  |(cases h;done)
  |(obtain⟨_,_,h⟩:=h;cases h;done)
  |(obtain⟨_,_,_,h,_⟩:=h;cases h;done)
  |(obtain⟨_,_,h,_⟩:=h;cases h;done)
  |(obtain⟨_,h,_⟩:=h;cases h;done)
def VR.xA{x:V}{s:Array Value}(h:VR μ x (.agg s)):∃l,x=.agg l:=by
 cases x<;>simp only[VR]at h<;>first
  |exact⟨_,rfl⟩
  |(cases h;done)
  |(obtain⟨_,_,h⟩:=h;cases h;done)
  |(obtain⟨_,_,_,h,_⟩:=h;cases h;done)
  |(obtain⟨_,_,h,_⟩:=h;cases h;done)
  |(obtain⟨_,h,_⟩:=h;cases h;done)
def Zkb{t:TypeId}{X Y:Value}{b:Bool}(hi:∀k m k' m',¬(X=.int k m/\Y=.int k' m'))(hs:∀s s',¬(X=.string s/\Y=.string s'))
  (hf:∀k m k' m',¬(X=.float k m/\Y=.float k' m')) (hc:∀k m p k' m' p',¬(X=.complex k m p/\Y=.complex k' m' p')) (h:(Op.equal t X Y).run P w=.ok b w):
  (binOp .eql t X Y).run P w=.ok (.bool b) w/\(binOp .neq t X Y).run P w=.ok (.bool (!b)) w:=by
 constructor
 ·unfold binOp
  split<;>first
   |(exact absurd ⟨rfl,rfl⟩ (hi _ _ _ _))
   |(exact absurd ⟨rfl,rfl⟩ (hs _ _))
   |(exact absurd ⟨rfl,rfl⟩ (hf _ _ _ _))
   |(exact absurd ⟨rfl,rfl⟩ (hc _ _ _ _ _ _))
   |(simp[h];done)
   |simp_all
 ·unfold binOp
  split<;>first
   |(exact absurd ⟨rfl,rfl⟩ (hi _ _ _ _))
   |(exact absurd ⟨rfl,rfl⟩ (hs _ _))
   |(exact absurd ⟨rfl,rfl⟩ (hf _ _ _ _))
   |(exact absurd ⟨rfl,rfl⟩ (hc _ _ _ _ _ _))
   |(simp[h];done)
   |simp_all
def Xj(P:Program)(op:BinOp)(t:TypeId)(x y:Operand)(q:s_)(ng:Bool):Prop:=
 (op=.eql\/op=.neq)->xd P 40 t=some q/\(match P.underlying t with|some (.struct _)|some (.array _ _)=>P.eqGuardType P.depth t|_=>false)=false/\ng=(Ga x||Ga y)
def EI{op:BinOp}{t:TypeId}{x y:Operand}{X Y z:Value}(hg:(eqGuard op t x y X Y).run P w=.ok () w)(hb:(binOp op t X Y).run P w=.ok z w):
  (do eqGuard op t x y X Y;binOp op t X Y:Sem Value).run P w=.ok z w:=by simp[hg,hb,Result.andThen]
def Zva{d:Nat}{t:TypeId}{l:List (Nat×Option Nat×s_)}(h:xd P d t=some (.node l)):∃fs,P.underlying t=some (.struct fs):=by
 cases d with
 |zero=>simp[xd]at h
 |succ d=>
  simp only[xd]at h
  split at h
  ·rename_i fs ht;exact⟨fs,ht⟩
  ·split at h
   ·split at h<;>simp at h
   ·cases h
  ·cases h
def Zl6{t:TypeId}{kd:ChanDir}{e:TypeId}{x y:Option Nat}(D:Nat)(ht:P.underlying t=some (.chan kd e)):(Op.equalIn (D+1) t (.chan x) (.chan y)).run P w=.ok (x==y) w:=by
 simp[Op.equalIn,run_underlying ht]
def Yfk{d:Nat}{t:TypeId}(hq:xd P d t=some (.bX .chan)):∃k e,P.underlying t=some (.chan k e):=by
 cases d with
 |zero=>simp[xd]at hq
 |succ d=>
  simp only[xd]at hq
  split at hq
  ·split at hq
   ·cases hq
   ·split at hq<;>simp at hq
  ·rename_i dd _ ht
   split at hq
   ·rename_i k hk
    split at hq
    ·simp only[aq,s_.bX.injEq]at hq;subst hq
     cases dd<;>simp[P1]at hk
     exact⟨_,_,ht⟩
    ·cases hq
   ·cases hq
  ·cases hq
def Yj2(hh:bm P μ w st){op:BinOp}{t:TypeId}{x y:Operand}{X Y:Value}{q:s_}{ng:Bool}(hc:Xj P op t x y q ng){i j:Nat}(h1:VR μ (.chan i) X)(h2:VR μ (.chan j) Y)
  (h:Qd op q st i j=some (v,az)):
  ba P μ w st (do pure (.value (<-(do eqGuard op t x y X Y;binOp op t X Y:Sem Value)))) v az:=by
 obtain⟨l,hl,rfl⟩:=h1
 obtain⟨l',jj,rfl⟩:=h2
 have hg:(eqGuard op t x y (.chan (some l.b)) (.chan (some l'.b))).run P w=.ok () w:=QG (by intro h;cases h) (by intro _ _ h;cases h)
 have Xk:∀c b c' b',st.h.get i=some (.chan c b)->st.h.get j=some (.chan c' b')->(some l.b==some l'.b)=(i==j):=by
  intro c b c' b' g1 g2
  by_cases e:i=j
  ·subst e;rw[hl]at jj;cases jj;simp
  ·have:=hh.inj i j l l' _ _ hl jj e g1 g2 rfl rfl
   have e2:(i==j)=false:=by simpa using e
   rw[e2];simpa using this
 have main:(op=.eql\/op=.neq)->q=.bX .chan->∀c b c' b',st.h.get i=some (.chan c b)->st.h.get j=some (.chan c' b')->
   (binOp .eql t (.chan (some l.b)) (.chan (some l'.b))).run P w=.ok (.bool (i==j)) w/\(binOp .neq t (.chan (some l.b)) (.chan (some l'.b))).run P w=.ok (.bool (!(i==j))) w:=by
  intro LM hq c b c' b' g1 g2
  subst hq
  obtain⟨kd,e,ht⟩:=Yfk (hc LM).1
  refine Zkb (fun _ _ _ _ e=>by cases e.1) (fun _ _ e=>by cases e.1) (fun _ _ _ _ e=>by cases e.1) (fun _ _ _ _ _ _ e=>by cases e.1) ?_
  have:=Zl6 (P:=P) (w:=w) (x:=some l.b) (y:=some l'.b) 9999 ht
  rw[Xk _ _ _ _ g1 g2]at this
  exact this
 unfold Qd at h
 split at h
 ·rename_i g1 g2
  simp only[aq,bs]at h
  obtain⟨rfl,rfl⟩:=h
  exact ba.value hh (EI hg (main (.inl rfl) rfl _ _ _ _ g1 g2).1) (by simp[VR])
 ·rename_i g1 g2
  simp only[aq,bs]at h
  obtain⟨rfl,rfl⟩:=h
  exact ba.value hh (EI hg (main (.inr rfl) rfl _ _ _ _ g1 g2).2) (by simp[VR])
 ·cases h
def Yso(hh:bm P μ w st)(hr:RR μ r n a.tmps){op:BinOp}{t:TypeId}{x y:Operand}{s u:Src}{q:s_}{ng:Bool}(hx:bB P x=some s)(hy:bB P y=some u)
  (hc:Xj P op t x y q ng) (h:Gx op q ng s u call r st=some (v,az)):
  ba P μ w st (do pure (.value (<-(do eqGuard op t x y (a.eval x) (a.eval y);binOp op t (a.eval x) (a.eval y):Sem Value)))) v az:=by
 unfold Gx at h
 split at h
 ·rename_i i j hs hu
  exact Yj2 hh hc (cQ hh hr hx hs) (cQ hh hr hy hu) h
 ·rename_i x1 y1 _ hs hu
  have h1:=cQ hh hr hx hs
  have h2:=cQ hh hr hy hu
  generalize a.eval x=X at*
  generalize a.eval y=Y at*
  split at h
  ·rename_i z hz
   simp only[aq,bs]at h
   obtain⟨rfl,rfl⟩:=h
   unfold V0 at hz
   split at hz
   ·-- two integers
    rename_i k p k' p' _
    simp only[VR]at h1 h2
    subst h1 h2
    have hg:(eqGuard op t x y (.int k p) (.int k' p')).run P w=.ok () w:=QG (by intro h;cases h) (by intro _ _ h;cases h)
    split at hz
    ·obtain⟨y',h3,h4⟩:=Zpm (P:=P) (μ:=μ) (w:=w) (t:=t) (k':=k') (.inl rfl) hz
     exact ba.value hh (EI hg h3) h4
    ·obtain⟨y',h3,h4⟩:=Zpm (P:=P) (μ:=μ) (w:=w) (t:=t) (k':=k') (.inr rfl) hz
     exact ba.value hh (EI hg h3) h4
    ·split at hz
     ·rename_i e;subst e
      obtain⟨y',h3,h4⟩:=Zz7 (P:=P) (μ:=μ) (w:=w) (t:=t) hz
      exact ba.value hh (EI hg h3) h4
     ·cases hz
   ·rename_i p p' _
    simp only[VR]at h1 h2
    subst h1 h2
    have hg:(eqGuard op t x y (.string ⟨p.toArray⟩) (.string ⟨p'.toArray⟩)).run P w=.ok () w:=QG (by intro h;cases h) (by intro _ _ h;cases h)
    obtain⟨y',h3,h4⟩:=Zyq (P:=P) (μ:=μ) (w:=w) (t:=t) hz
    exact ba.value hh (EI hg h3) h4
   ·rename_i hni hns
    have main:∀b,xj ng q x1 y1=some b->(op=.eql\/op=.neq)->
      (eqGuard op t x y X Y).run P w=.ok () w/\(binOp .eql t X Y).run P w=.ok (.bool b) w/\(binOp .neq t X Y).run P w=.ok (.bool (!b)) w:=by
     intro b hb LM
     obtain⟨hq,JJ,LN⟩:=hc LM
     have he:=Yos (w:=w) 40 hq hb h1 h2 10000 (by omega)
     refine⟨QG (fun e1 e2=>?_) (fun A B e1 e2=>?_),Zkb (fun k m k' m' e=>?_) (fun p p' e=>?_) (fun k m k' m' e=>?_) (fun k m m' k' m1 m2 e=>?_) he⟩
     ·subst e1 e2
      have:=h1.jO;subst this
      have:=h2.jO;subst this
      cases q with
      |bX k=>cases k<;>simp[xj,aE]at hb;rw[LN]at hb;simpa using hb.1
      |node l=>simp[xj]at hb
     ·subst e1 e2
      obtain⟨l1,rfl⟩:=h1.xA
      obtain⟨l2,rfl⟩:=h2.xA
      cases q with
      |bX k=>cases k<;>simp[xj,aE]at hb
      |node l=>
       obtain⟨fs,CW⟩:=Zva hq
       simpa[CW]using JJ
     ·obtain⟨rfl,rfl⟩:=e
      exact hni _ _ _ _ h1.xz h2.xz
     ·obtain⟨rfl,rfl⟩:=e
      obtain⟨l1,e1⟩:=h1.oK
      obtain⟨l2,e2⟩:=h2.oK
      exact hns _ _ e1 e2
     ·obtain⟨rfl,rfl⟩:=e
      have e1:=h1.qm;subst e1
      have e2:=h2.qm;subst e2
      cases q with
      |bX k=>cases k<;>simp[xj,aE]at hb
      |node l=>simp[xj]at hb
     ·obtain⟨rfl,rfl⟩:=e
      exact h1.tK
    split at hz
    ·split at hz
     ·rename_i b hb
      simp only[aq]at hz;subst hz
      obtain⟨g1,g2,_⟩:=main b hb (.inl rfl)
      exact ba.value hh (EI g1 g2) (by simp[VR])
     ·cases hz
    ·split at hz
     ·rename_i b hb
      simp only[aq]at hz;subst hz
      obtain⟨g1,_,g2⟩:=main b hb (.inr rfl)
      exact ba.value hh (EI g1 g2) (by simp[VR])
     ·cases hz
    ·cases hz
  ·cases h
 ·cases h
end
set_option maxHeartbeats 1000000
section
variable {P:Program} {μ:Mu} {w:World} {st az:St} {r:T V} {n:Nat} {a:Act} {call:cD} {v:V}
def He(μ:Mu):Option V->Option Value->Prop
 |none,none=>True
 |some v,some x=>VR μ v x
 |_,_=>False
def tL(hh:bm P μ w st)(hr:RR μ r n a.tmps){x:Option Operand}{s:Option Src}(hc:uA P x=some s){v:Option V}(hv:aC r s=some v):He μ v (x.map a.eval):=by
 rcases Yej hh hr hc hv with⟨rfl,rfl⟩|⟨v',x',rfl,rfl,h⟩
 ·trivial
 ·exact h
def He.isNone{v:Option V}{x:Option Value}(h:He μ v x):x.isNone=v.isNone:=by
 cases v<;>cases x<;>simp_all [He]
def LP{u:V}{X:Value}{y m k:Nat}{code:BoundsCode}(hu:VR μ u X)(h:k_ u y=some m)(hk:y<=k):(Instr.sliceBound X k code).run P w=.ok m w/\m<=y:=by
 unfold k_ at h
 split at h
 ·rename_i q z
  split at h
  ·rename_i hz
   simp only[aq]at h;subst h
   simp only[VR]at hu;subst hu
   have h2:z<=(k:Int):=by omega
   exact⟨by simp[Instr.sliceBound,asIntOf,hz.1,h2],by omega⟩
  ·cases h
 ·cases h
def Hf{isS:Bool}{len y k:Nat}{lo hi mx:Option V}{LO HI MX:Option Value}(fO:He μ lo LO)(gW:He μ hi HI)(df:He μ mx MX)(hy:y<=k){m h l:Nat}
  (hm:(mx=none/\m=k)\/(dv mx y 0=some m/\mx.isSome=true/\hi.isSome=true)) (hh:dv hi (if mx=none then y else m) len=some h) (hl:dv lo h 0=some l):
  (Instr.sliceBounds isS len k LO HI MX).run P w=.ok (l,h,m) w:=by
 cases mx with
 |none=>
  cases MX with
  |some _=>exact df.elim
  |none=>
   have hmk:m=k:=by
    rcases hm with⟨_,e⟩|⟨_,e,_⟩
    ·exact e
    ·simp at e
   subst hmk
   simp only[if_true]at hh
   have AA:∀LO',LO=some LO'->∀code,(Instr.sliceBound LO' h code).run P w=.ok l w:=fun X e code=>by
    subst e
    cases lo with
    |none=>exact fO.elim
    |some u=>exact(LP fO hl (aQ _)).1
   have gX:LO=none->l=0:=fun e=>by
    subst e
    cases lo with
    |none=>simpa[dv]using hl.symm
    |some u=>exact fO.elim
   have LQ:∀HI',HI=some HI'->∀code,(Instr.sliceBound HI' m code).run P w=.ok h w:=fun X e code=>by
    subst e
    cases hi with
    |none=>exact gW.elim
    |some u=>exact(LP gW hh hy).1
   have hh0:HI=none->h=len:=fun e=>by
    subst e
    cases hi with
    |none=>simpa[dv]using hh.symm
    |some u=>exact gW.elim
   cases HI with
   |none=>
    have:=hh0 rfl;subst this
    cases LO with
    |none=>have:=gX rfl;subst this;simp[Instr.sliceBounds]
    |some X=>simp[Instr.sliceBounds,AA X rfl,Result.andThen]
   |some Y=>
    cases LO with
    |none=>have:=gX rfl;subst this;simp[Instr.sliceBounds,LQ Y rfl,Result.andThen]
    |some X=>simp[Instr.sliceBounds,AA X rfl,LQ Y rfl,Result.andThen]
 |some um=>
  cases MX with
  |none=>exact df.elim
  |some Z=>
   obtain⟨hm,jl⟩:dv (some um) y 0=some m/\hi.isSome=true:=by
    rcases hm with⟨e,_⟩|⟨e,_,e'⟩
    ·simp at e
    ·exact⟨e,e'⟩
   have hz:∀code,(Instr.sliceBound Z k code).run P w=.ok m w:=fun code=>(LP df hm hy).1
   simp only[reduceCtorEq,if_false]at hh
   cases hi with
   |none=>simp at jl
   |some u=>
    cases HI with
    |none=>exact gW.elim
    |some Y=>
     have vS:∀code,(Instr.sliceBound Y m code).run P w=.ok h w:=fun code=>(LP gW hh (aQ _)).1
     cases lo with
     |none=>
      cases LO with
      |some _=>exact fO.elim
      |none=>
       simp only[dv,aq]at hl;subst hl
       simp[Instr.sliceBounds,hz,vS,Result.andThen]
     |some ul=>
      cases LO with
      |none=>exact fO.elim
      |some X=>
       have jx:∀code,(Instr.sliceBound X h code).run P w=.ok l w:=fun code=>(LP fO hl (aQ _)).1
       simp[Instr.sliceBounds,hz,vS,jx,Result.andThen]
def vV{u:Option V}{y d m:Nat}(h:dv u y d=some m):m<=y\/(u=none/\m=d):=by
 cases u with
 |none=>simp only[dv,aq]at h;exact .inr ⟨rfl,h.symm⟩
 |some u=>
  simp only[dv,k_]at h
  split at h
  ·split at h
   ·simp only[aq]at h;left;omega
   ·cases h
  ·cases h
def Zuo(hh:bm P μ w st)(hr:RR μ r n a.tmps){t:TypeId}{x:Operand}{lo hi:Option Operand}{s:Src}{ls hs:Option Src}(ht:P.underlying t=some .string)(hx:bB P x=some s)
  (fO:uA P lo=some ls) (gW:uA P hi=some hs) (h:za s ls hs call r st=some (v,az)):
  ba P μ w st (do pure (.value (<-Instr.sliceAt t (a.eval x) (lo.map a.eval) (hi.map a.eval) none))) v az:=by
 unfold za at h
 split at h
 ·rename_i l vl vh h1 h2 h3
  have e1:=cQ hh hr hx h1
  simp only[VR]at e1
  have e2:=tL hh hr fO h2
  have e3:=tL hh hr gW h3
  split at h
  ·rename_i hb qo
   split at h
   ·rename_i lb jz
    simp only[aq,bs]at h
    obtain⟨rfl,rfl⟩:=h
    have kX:(⟨l.toArray⟩:ByteArray).size=l.length:=by show l.toArray.size=_;simp
    have bM:=Hf (P:=P) (w:=w) (isS:=false) (len:=l.length) (y:=l.length) (k:=l.length) (mx:=none) (MX:=none) (m:=l.length) e2 e3 trivial (aQ _) (.inl ⟨rfl,rfl⟩) (by simpa using qo) jz
    refine ba.value hh (x:=.string ((⟨l.toArray⟩:ByteArray).extract lb hb)) ?_ ?_
    ·simp[Instr.sliceAt,Instr.slice,run_underlying ht,e1,kX,bM,Result.andThen]
    ·simp only[VR]
     congr 1
     apply ByteArray.ext
     rw[ByteArray.data_extract]
     apply Array.ext'
     simp[List.extract,List.drop_take]
   ·cases h
  ·cases h
 ·cases h
def JK{t e:TypeId}{z:Nat}(ht:P.underlying t=some (.slice e))(hz:eR P e=some z){A:Option Addr}{len c l h m:Nat}{LO HI MX:Option Value}
  (hb:(Instr.sliceBounds true len c LO HI MX).run P w=.ok (l,h,m) w):
  (Instr.sliceAt t (.slice A len c) LO HI MX).run P w=.ok (.slice (if m=l then A else A.map (·.add (l*z))) (h-l) (m-l)) w:=by
 simp[Instr.sliceAt,Instr.slice,run_underlying ht,hb,yu hz,Result.andThen]
def Zys(hh:bm P μ w st)(hr:RR μ r n a.tmps){t e:TypeId}{z:Nat}{x:Operand}{lo hi mx:Option Operand}{s:Src}{ls hs ms:Option Src}(ht:P.underlying t=some (.slice e))(hz:eR P e=some z)
  (hx:bB P x=some s) (fO:uA P lo=some ls) (gW:uA P hi=some hs) (df:uA P mx=some ms) (h:qe z s ls hs ms call r st=some (v,az)):
  ba P μ w st (do pure (.value (<-Instr.sliceAt t (a.eval x) (lo.map a.eval) (hi.map a.eval) (mx.map a.eval)))) v az:=by
 unfold qe at h
 split at h
 ·-- nil
  rename_i vl vh vm h1 h2 h3 h4
  have e1:=cQ hh hr hx h1
  simp only[VR]at e1
  have e2:=tL hh hr fO h2
  have e3:=tL hh hr gW h3
  have e4:=tL hh hr df h4
  split at h
  ·rename_i m hm
   split at h
   ·rename_i hb qo
    split at h
    ·rename_i lb jz
     split at h
     ·cases h
     ·rename_i mL
      simp only[aq,bs]at h
      obtain⟨rfl,rfl⟩:=h
      have gV:m=0:=by rcases vV hm with h|h<;>omega
      have lS:hb=0:=by rcases vV qo with h|h<;>omega
      have gX:lb=0:=by rcases vV jz with h|h<;>omega
      subst gV lS gX
      have bM:=Hf (P:=P) (w:=w) (isS:=true) (len:=0) (y:=0) (k:=0) e2 e3 e4 (aQ _) (m:=0) (h:=0) (l:=0)
       (by cases vm with
        |none=>exact .inl ⟨rfl,rfl⟩
        |some u=>cases vh with
         |none=>simp at mL
         |some u'=>exact .inr ⟨hm,rfl,rfl⟩)
       (by cases vm<;>simpa using qo) jz
      refine ba.value hh (x:=.slice none 0 0) ?_ (by simp[VR])
      rw[e1,JK ht hz bM]
      simp
    ·cases h
   ·cases h
  ·cases h
 ·-- not nil,empty
  rename_i vl vh h1 h2 h3 h4
  have e1:=cQ hh hr hx h1
  obtain⟨A,c,e1⟩:=e1
  have e2:=tL hh hr fO h2
  have e3:=tL hh hr gW h3
  have e4:=tL hh hr df h4
  split at h
  ·rename_i hb qo
   split at h
   ·rename_i lb jz
    simp only[aq,bs]at h
    obtain⟨rfl,rfl⟩:=h
    have lS:hb=0:=by rcases vV qo with h|h<;>omega
    have gX:lb=0:=by rcases vV jz with h|h<;>omega
    subst lS gX
    have bM:=Hf (P:=P) (w:=w) (isS:=true) (len:=0) (y:=0) (k:=c) e2 e3 e4 (uw _) (m:=c) (h:=0) (l:=0) (.inl ⟨rfl,rfl⟩) (by simpa using qo) jz
    refine ba.value hh (x:=.slice (some (if c=0 then A else A.add (0*z))) 0 (c-0)) ?_ ⟨_,_,rfl⟩
    rw[e1,JK ht hz bM]
    split<;>simp
   ·cases h
  ·cases h
 ·-- the capacity is known
  rename_i i o len c sz vl vh vm h1 h2 h3 h4
  obtain⟨l,c',hl,e1,hlen,Aw,hc,_⟩:=cQ hh hr hx h1
  have:=hc c rfl;subst this
  have e2:=tL hh hr fO h2
  have e3:=tL hh hr gW h3
  have e4:=tL hh hr df h4
  split at h
  ·cases h
  ·rename_i mL
   simp only[not_or,Decidable.not_not,Bool.not_eq_true]at mL
   obtain⟨rfl,mL⟩:=mL
   split at h
   ·rename_i m hm
    split at h
    ·rename_i hb qo
     split at h
     ·rename_i lb jz
      simp only[aq,bs]at h
      obtain⟨rfl,rfl⟩:=h
      have hmc:m<=c':=by rcases vV hm with h|h<;>omega
      have bM:=Hf (P:=P) (w:=w) (isS:=true) (len:=len) (y:=c') (k:=c') e2 e3 e4 (aQ _) (m:=m) (h:=hb) (l:=lb)
       (by cases vm with
        |none=>simp only[dv,aq]at hm;exact .inl ⟨rfl,hm.symm⟩
        |some u=>cases vh with
         |none=>simp at mL
         |some u'=>exact .inr ⟨hm,rfl,rfl⟩)
       (by cases vm with
        |none=>simp only[dv,aq]at hm;subst hm;simpa using qo
        |some u=>simpa using qo) jz
      have Xl:hb<=m:=by
       rcases vV qo with h|⟨h,h'⟩
       ·exact h
       ·subst h
        cases vm with
        |none=>simp only[dv,aq]at hm;omega
        |some u=>simp at mL
      have LL:lb<=hb:=by rcases vV jz with h|h<;>omega
      have k1:m*sz<=c'*sz:=mr _ hmc
      have k2:(m-lb)*sz=m*sz-lb*sz:=Nat.sub_mul _ _ _
      have k3:lb*sz<=m*sz:=mr _ (by omega)
      refine ba.value hh (x:=.slice (some ⟨l.b,l.d+(if m=lb then o else o+lb*sz),none⟩) (hb-lb) (m-lb)) ?_ ⟨l,m-lb,hl,rfl,by omega,?_,fun k hk=>by simpa using hk,by simp⟩
      ·rw[e1,JK ht hz bM]
       split<;>simp[xx,pe]
      ·split
       ·rename_i e;subst e;simp;omega
       ·omega
     ·cases h
    ·cases h
   ·cases h
 ·-- the capacity is not known
  rename_i i o len sz vl vh vm h1 h2 h3 h4
  obtain⟨l,cw,hl,e1,hlen,Aw,_,htn⟩:=cQ hh hr hx h1
  have htn:=htn rfl
  have e2:=tL hh hr fO h2
  have e3:=tL hh hr gW h3
  have e4:=tL hh hr df h4
  split at h
  ·cases h
  ·rename_i mL
   simp only[not_or,Decidable.not_not,Bool.not_eq_true]at mL
   obtain⟨rfl,tg,mL⟩:=mL
   split at h
   ·rename_i cs _ _ al
    obtain⟨c'',_,_,_,_,cO,_⟩:=hh.row hl al
    have qp:max len ((cs.length-o)/sz)<=cw:=by
     have:(cs.length-o)/sz<=cw:=by
      rw[Nat.div_le_iff_le_mul_add_pred (by omega)]
      have:sz*cw=cw*sz:=jk _ _
      omega
     omega
    have yv:len<=max len ((cs.length-o)/sz):=by omega
    generalize max len ((cs.length-o)/sz)=y at*
    dsimp only at h
    split at h
    ·rename_i um
     split at h
     ·rename_i m hm
      split at h
      ·rename_i hb qo
       split at h
       ·rename_i lb jz
        simp only[aq,bs]at h
        obtain⟨rfl,rfl⟩:=h
        cases vh with
        |none=>simp at mL
        |some uh=>
        have Xm:m<=y:=by
         rcases vV (u:=some um) (d:=0) hm with h|h
         ·exact h
         ·simp at h
        have bM:=Hf (P:=P) (w:=w) (isS:=true) (len:=len) (y:=y) (k:=cw) e2 e3 e4 qp (m:=m) (h:=hb) (l:=lb) (.inr ⟨hm,rfl,rfl⟩) (by simpa using qo) jz
        have Xl:hb<=m:=by
         rcases vV qo with h|⟨h,h'⟩
         ·exact h
         ·simp at h
        have LL:lb<=hb:=by rcases vV jz with h|h<;>omega
        have k1:m*sz<=cw*sz:=mr _ (by omega)
        have k2:(m-lb)*sz=m*sz-lb*sz:=Nat.sub_mul _ _ _
        have k3:lb*sz<=m*sz:=mr _ (by omega)
        refine ba.value hh (x:=.slice (some ⟨l.b,l.d+(if m=lb then o else o+lb*sz),none⟩) (hb-lb) (m-lb)) ?_ ⟨l,m-lb,hl,rfl,by omega,?_,fun k hk=>by simpa using hk,by simp⟩
        ·rw[e1,JK ht hz bM]
         split<;>simp[xx,pe]
        ·split
         ·rename_i e;subst e;simp;omega
         ·omega
       ·cases h
      ·cases h
     ·cases h
    ·split at h
     ·rename_i hb qo
      split at h
      ·rename_i lb jz
       have bM:=Hf (P:=P) (w:=w) (isS:=true) (len:=len) (y:=y) (k:=cw) e2 e3 e4 qp (m:=cw) (h:=hb) (l:=lb) (.inl ⟨rfl,rfl⟩) (by simpa using qo) jz
       have Xl:hb<=y:=by rcases vV qo with h|⟨h,h'⟩<;>omega
       have LL:lb<=hb:=by rcases vV jz with h|h<;>omega
       have k2:(cw-lb)*sz=cw*sz-lb*sz:=Nat.sub_mul _ _ _
       have k3:lb*sz<=cw*sz:=mr _ (by omega)
       split at h
       ·rename_i ax
        simp only[aq,bs]at h
        obtain⟨rfl,rfl⟩:=h
        refine ba.value hh (x:=.slice (some ⟨l.b,l.d+(o+lb*sz),none⟩) (hb-lb) (cw-lb)) ?_ ⟨l,cw-lb,hl,rfl,by omega,by omega,by simp,fun _=>by omega⟩
        rw[e1,JK ht hz bM]
        rw[ak (by omega)]
        simp[xx,pe]
       ·simp only[aq,bs]at h
        obtain⟨rfl,rfl⟩:=h
        have:hb-lb=0:=by omega
        refine ba.value hh (x:=.slice (some (if cw=lb then ⟨l.b,l.d+o,none⟩ else (⟨l.b,l.d+o,none⟩:Addr).add (lb*sz))) 0 (cw-lb)) ?_ ⟨_,_,rfl⟩
        rw[e1,JK ht hz bM,this]
        split<;>simp
      ·cases h
     ·cases h
   ·cases h
 ·cases h
def Zup(hh:bm P μ w st)(hr:RR μ r n a.tmps){t e:TypeId}{k z:Nat}{x:Operand}{lo hi mx:Option Operand}{s:Src}{ls hs ms:Option Src}(ht:P.underlying t=some (.array k e))(hz:eR P e=some z)
  (hx:bB P x=some s) (fO:uA P lo=some ls) (gW:uA P hi=some hs) (df:uA P mx=some ms) (h:z_ k z s ls hs ms call r st=some (v,az)):
  ba P μ w st (do pure (.value (<-Instr.sliceAt t (a.eval x) (lo.map a.eval) (hi.map a.eval) (mx.map a.eval)))) v az:=by
 unfold z_ at h
 split at h
 ·rename_i i o vl vh h1 h2 h3 h4
  obtain⟨l,hl,e1⟩:=cQ hh hr hx h1
  have e2:=tL hh hr fO h2
  have e3:=tL hh hr gW h3
  have e4:=tL hh hr df h4
  split at h
  ·rename_i hb qo
   split at h
   ·rename_i lb jz
    split at h
    ·rename_i cs _ _ al
     split at h
     ·rename_i cL
      simp only[aq,bs]at h
      obtain⟨rfl,rfl⟩:=h
      obtain⟨c'',_,_,_,_,cO,_⟩:=hh.row hl al
      have bM:=Hf (P:=P) (w:=w) (isS:=false) (len:=k) (y:=k) (k:=k) e2 e3 e4 (aQ _) (m:=k) (h:=hb) (l:=lb) (.inl ⟨rfl,rfl⟩) (by simpa using qo) jz
      have Xl:hb<=k:=by rcases vV qo with h|⟨h,h'⟩<;>omega
      have LL:lb<=hb:=by rcases vV jz with h|h<;>omega
      have k2:(k-lb)*z=k*z-lb*z:=Nat.sub_mul _ _ _
      have k3:lb*z<=k*z:=mr _ (by omega)
      have LJ:=cL.1
      refine ba.value hh (x:=.slice (some ⟨l.b,l.d+(if k=lb then o else o+lb*z),none⟩) (hb-lb) (k-lb)) ?_ ⟨l,k-lb,hl,rfl,by omega,?_,fun k hk=>by simpa using hk,by simp⟩
      ·simp only[Instr.sliceAt,Sem.run_bind,run_underlying ht,Result.andThen,Instr.sureAddr,e1,Sem.run_pure,bM,yu hz]
       split<;>simp[xx,pe]
      ·split
       ·rename_i e;subst e;simp;omega
       ·omega
     ·cases h
    ·cases h
   ·cases h
  ·cases h
 ·cases h
end
section
variable {P:Program} {μ:Mu} {w:World} {st az:St} {r:T V} {n:Nat} {a:Act} {call:cD} {v:V}
def QK{α:Type}{c vs:List α}{o:Nat}(h:o+vs.length<=c.length):(ad c o vs).length=c.length:=by
 simp[ad];omega
def JI{α:Type}{c vs:List α}{o:Nat}(h:o+vs.length<=c.length)(j:Nat):(ad c o vs)[j]?=if o<=j/\j<o+vs.length then vs[j-o]? else c[j]?:=by
 have ax:(c.take o).length=o:=by simp;omega
 unfold ad
 rw[tv]
 by_cases h1:j<o
 ·rw[kJ (by omega),ak (by omega),iM,ay h1]
 ·rw[nU (by omega),ax]
  by_cases h2:j<o+vs.length
  ·rw[kJ (by omega),ay ⟨by omega,h2⟩]
  ·rw[nU (by omega),ak (by omega),fg]
   congr 1;omega
def aS.ad{c vs:List V}{c' kQ:List Value}(h:aS μ c c')(h':aS μ vs kQ)(o:Nat):aS μ (ad c o vs) (ad c' o kQ):=by
 unfold Mx.ad
 rw[h'.length]
 exact((h.take o).append h').append (h.drop _)
def Znb{α:Type}(c:List α)(o:Nat)(x:α)(vs:List α)(h:o<c.length):Mx.ad (c.set o x) (o+1) vs=Mx.ad c o (x::vs):=by
 unfold Mx.ad
 have e1:(c.set o x).take (o+1)=c.take o++[x]:=by
  rw[uC,List.take_set_of_le (aQ _)]
  simp[h]
 have e2:(c.set o x).drop (o+1+vs.length)=c.drop (o+(vs.length+1)):=by
  rw[List.drop_set_of_lt (by omega)]
  congr 1;omega
 rw[e1,e2]
 simp
def Yi0(off:Nat):∀(vs:List Value) (k:Nat) (cs:List Value),off+k+vs.length<=cs.length->
  (vs.zipIdx k).foldl (fun (cs:Array Value) (p:Value×Nat)=>cs.setIfInBounds (off+p.2) p.1) ⟨cs⟩=⟨ad cs (off+k) vs⟩:=by
 intro vs
 induction vs with
 |nil=>intro k cs h;simp[ad]
 |cons x vs ih=>
  intro k cs h
  simp only[bp]at h
  simp only[List.zipIdx_cons,List.foldl_cons]
  have e:(⟨cs⟩:Array Value).setIfInBounds (off+k) x=⟨cs.set (off+k) x⟩:=by
   apply Array.ext'
   simp
  rw[e,ih (k+1) (cs.set (off+k) x) (by simp;omega),<-pe,Znb _ _ _ _ (by omega)]
def Xn(hh:bm P μ w st)(hr:RR μ r n a.tmps){place:Nat->Option (Nat×Nat)}:∀{parts:List (Nat×Operand)} {uG:List (Nat×Nat×Src)},Bj P place parts=some uG->
  ∀{ps:List (Nat×Nat×V)},Bo r uG=some ps->∀{cs:List V} {EJ:List Value},aS μ cs EJ->∀{l:List V},Bn cs ps=some l->
  ∃l',Instr.fill place ⟨EJ⟩ (parts.map fun p=>(p.1,a.eval p.2))=some ⟨l'⟩/\aS μ l l':=by
 intro parts
 induction parts with
 |nil=>
  intro uG hc ps he cs EJ kI l hl
  simp only[Bj,aq]at hc;subst hc
  simp only[Bo,aq]at he;subst he
  simp only[Bn,aq]at hl;subst hl
  exact⟨EJ,by simp[Instr.fill],kI⟩
 |cons p parts ih=>
  intro uG hc ps he cs EJ kI l hl
  obtain⟨i,x⟩:=p
  simp only[Bj]at hc
  split at hc
  ·rename_i o s sx l' hp hx ij
   simp only[aq]at hc;subst hc
   simp only[Bo]at he
   split at he
   ·rename_i u vs hu G7
    simp only[aq]at he;subst he
    simp only[Bn]at hl
    split at hl
    ·rename_i cL
     have QL:=cQ hh hr hx hu
     have ik:=QL.cells
     have hlen:(a.eval x).cells.size=s:=by
      have:=ik.length
      rw[<-cL.1,<-this];simp
     have fe:(a.eval x).cells.toList.length=s:=by simpa using hlen
     obtain⟨l'',h1,h2⟩:=ih ij G7 (kI.ad ik o) hl
     refine⟨l'',?_,h2⟩
     simp only[nZ,Instr.fill,hp]
     rw[ak]
     ·have e:((a.eval x).cells.zipIdx.foldl (fun (cs:Array Value) (p:Value×Nat)=>cs.setIfInBounds (o+p.2) p.1) ⟨EJ⟩)=⟨ad EJ o (a.eval x).cells.toList⟩:=by
       rw[<-Array.foldl_toList,Array.toList_zipIdx]
       have:=Yi0 o (a.eval x).cells.toList 0 EJ (by rw[fe,kI.length];omega)
       simpa using this
      rw[<-h1]
      congr 1
     ·have cO:=kI.length
      simp only[hlen,ne_eq,not_true_eq_false,decide_false,Bool.false_or,decide_eq_true_eq]
      simp[cO];omega
    ·cases hl
   ·cases he
  ·cases hc
def Zy5:∀{fs:List Field} {pl:List (Nat×Nat)},I8 P fs=some pl->fs.mapM (fun f=>(P.info? f.type).map fun i=>(f.offset,i.size))=some pl:=by
 intro fs
 induction fs with
 |nil=>intro pl h;simp only[I8,aq]at h;subst h;simp
 |cons f fs ih=>
  intro pl h
  simp only[I8]at h
  split at h
  ·rename_i s l hs hl
   simp only[aq]at h;subst h
   unfold eR at hs
   simp only[kj]at hs
   obtain⟨i,hi,rfl⟩:=hs
   simp[List.mapM_cons,hi,ih hl]
  ·cases h
def Hc{t:TypeId}{z:V}(h:qU P t=some z):∃i x,P.info? t=some i/\i.zero=some x/\∀μ,VR μ z x:=by
 unfold qU at h
 split at h
 ·rename_i i hi
  split at h
  ·rename_i x hx
   exact⟨i,x,hi,hx,fun μ=>QC μ x z h⟩
  ·cases h
 ·cases h
def Zou(hh:bm P μ w st)(hr:RR μ r n a.tmps){t:TypeId}{fs:Array Field}{pl:List (Nat×Nat)}{z:V}{parts:Array (Nat×Operand)}{uG:List (Nat×Nat×Src)}
  (hz:qU P t=some z) (ht:P.underlying t=some (.struct fs)) (hp:I8 P fs.toList=some pl) (hc:Bj P (pl[·]?) parts.toList=some uG) (h:Cu z.cells uG call r st=some (v,az)):
  ba P μ w st (do pure (.value (<-Instr.build t (parts.map fun (i,x)=>(i,a.eval x))))) v az:=by
 unfold Cu at h
 split at h
 ·rename_i ps uy
  split at h
  ·rename_i l hl
   simp only[aq,bs]at h
   obtain⟨rfl,rfl⟩:=h
   obtain⟨i,x,hi,hx,qk⟩:=Hc hz
   obtain⟨l',h1,h2⟩:=Xn hh hr hc uy (qk μ).cells hl
   refine ba.value hh (x:=.agg ⟨l'⟩) (run_build w t _ _ ?_) ⟨l',rfl,h2⟩
   simp only[Program.built,hi,ht,hx,Zy5 hp]
   rw[<-h1]
   simp
  ·cases h
 ·cases h
def Zo8(hh:bm P μ w st)(hr:RR μ r n a.tmps){t e:TypeId}{k s:Nat}{z:V}{parts:Array (Nat×Operand)}{uG:List (Nat×Nat×Src)}
  (hz:qU P t=some z) (ht:P.underlying t=some (.array k e)) (hs:eR P e=some s) (hc:Bj P (fun i=>some (i*s,s)) parts.toList=some uG) (h:Cu z.cells uG call r st=some (v,az)):
  ba P μ w st (do pure (.value (<-Instr.build t (parts.map fun (i,x)=>(i,a.eval x))))) v az:=by
 unfold Cu at h
 split at h
 ·rename_i ps uy
  split at h
  ·rename_i l hl
   simp only[aq,bs]at h
   obtain⟨rfl,rfl⟩:=h
   obtain⟨i,x,hi,hx,qk⟩:=Hc hz
   unfold eR at hs
   simp only[kj]at hs
   obtain⟨ie,hie,rfl⟩:=hs
   obtain⟨l',h1,h2⟩:=Xn hh hr hc uy (qk μ).cells hl
   refine ba.value hh (x:=.agg ⟨l'⟩) (run_build w t _ _ ?_) ⟨l',rfl,h2⟩
   simp only[Program.built,hi,ht,hx,hie]
   rw[<-h1]
   simp
  ·cases h
 ·cases h
def LR{vs:List V}{xs:List Value}(h:aS μ vs xs)(hv:vs.all V.one=true):∀x∈xs,x.oneCell'=true:=by
 intro x hx
 obtain⟨j,hj⟩:=xW hx
 have hl:=h.length
 have F3:j<xs.length:=(zH.1 hj).1
 have:∃u,vs[j]?=some u:=⟨vs[j]'(by omega),by simp⟩
 obtain⟨u,hu⟩:=this
 obtain⟨y,h1,h2⟩:=h.get hu
 rw[hj]at h1;cases h1
 have yo:u.one=true:=by
  rw[l7]at hv
  exact hv u (bU hu)
 have:=h2.one yo
 cases x<;>simp_all [Value.oneCell']
def ba.newRow(hh:bm P μ w st){s:Sem Value}{x:Value}{cs:List V}{xs:List Value}{e:TypeId}(hs:s.run P w=.ok x (w.alloc (.cells ⟨xs⟩ e)))
  (hc:aS μ cs xs) (h1:∀x∈xs,x.oneCell'=true) (hv:VR (fun i=>if i=st.n then some ⟨w.heap.size,0,xs.length⟩ else μ i) v x):
  ba P μ w st (do pure (.value (<-s))) v (st.alloc (.cells cs e true)):=by
 have dr:∀i l,μ i=some l->(fun i=>if i=st.n then some (⟨w.heap.size,0,xs.length⟩:L) else μ i) i=some l:=fun i l hl=>by
  have:=(hh.c_ i l hl).1
  simp only
  rw[ak (by omega)];exact hl
 refine⟨Next.value x,x,_,_,[],by simp[hs,Result.andThen],.inl rfl,hv,bH.alloc hh (.cells cs e true) (.cells ⟨xs⟩ e) 0 xs.length ⟨⟨xs⟩,0,0,?_,by simp,by simp[hc.length],fun j u hu=>?_,fun j y _ hy=>?_,fun _=>⟨rfl,fun j hj=>by omega⟩⟩⟩
 ·simp
 ·obtain⟨y,hy,hr⟩:=hc.get hu
  exact⟨y,by simpa using hy,VR.mono dr u y hr⟩
 ·exact h1 y (bU (by simpa using hy))
def Yj6(hh:bm P μ w st){e:TypeId}{z:V}(hz:qU P e=some z)(gp:z.cells.all V.one=true)(h:Jk z.cells e call r st=some (v,az)):
  ba P μ w st (do pure (.value (<-Instr.alloc e true (.tuple #[])))) v az:=by
 unfold Jk at h
 simp only[aq,bs]at h
 obtain⟨rfl,rfl⟩:=h
 obtain⟨i,x,hi,hx,qk⟩:=Hc hz
 refine ba.newRow hh (v:=.ptr st.n 0) (xs:=x.cells.toList) (x:=.pointer (some ⟨w.heap.size,0,none⟩)) ?_ (qk μ).cells (LR (qk μ).cells gp) (by simp only[VR];exact⟨⟨w.heap.size,0,x.cells.toList.length⟩,by simp,by simp⟩)
 simp[Instr.alloc,zeroValue,typeInfo,hi,hx,newVar,Go.newRow,Result.andThen]
def Ysn(hh:bm P μ w st)(hr:RR μ r n a.tmps){e:TypeId}{x:Operand}{s:Src}(hx:bB P x=some s)(h:Gs e s call r st=some (v,az)):
  ba P μ w st (do pure (.value (<-Instr.box e (a.eval x)))) v az:=by
 unfold Gs at h
 split at h
 ·rename_i u hu
  split at h
  ·rename_i gp
   simp only[aq,bs]at h
   obtain⟨rfl,rfl⟩:=h
   have QL:=cQ hh hr hx hu
   refine ba.newRow hh (v:=.ptr st.n 0) (xs:=(a.eval x).cells.toList) (x:=.pointer (some ⟨w.heap.size,0,none⟩)) ?_ QL.cells (LR QL.cells gp) (by simp only[VR];exact⟨⟨w.heap.size,0,_⟩,by simp;rfl,by simp⟩)
   simp[Instr.box,newVar,Go.newRow,Result.andThen]
  ·cases h
 ·cases h
end
end Go.Mx
