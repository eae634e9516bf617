/-The operations of M stand for the Go mod-/
import Derived.Test.YteoackkadadmdaaGreatDoorMxComp
import Derived.LaidEql
set_option linter.all false
namespace Go.Mx
open Go
set_option maxHeartbeats 2000000
section
variable {P:Program} {μ:Mu} {w:World} {st aB:St} {r:T V} {n:Nat} {a:Act} {call:cG} {v:V}
def Zzt{op:BinOp}{k:IntKind}{x y:Int}{t:TypeId}(h:qx op k x y=some v):
  ∃z,(binOp op t (.int k x) (.int k y)).run P w=.ok z w/\VR μ v z:=by
 cases op<;>simp only[qx,al,reduceCtorEq]at h
 case add=>subst h;exact⟨_,by simp[binOp,Op.intArith];rfl,by simp[VR,zq]⟩
 case sub=>subst h;exact⟨_,by simp[binOp,Op.intArith];rfl,by simp[VR,zq]⟩
 case mul=>subst h;exact⟨_,by simp[binOp,Op.intArith];rfl,by simp[VR,zq]⟩
 case quo=>
  split at h
  ·cases h
  ·rename_i h0;simp only[al]at h;subst h;exact⟨_,by simp[binOp,Op.intDiv,h0];rfl,by simp[VR,zq]⟩
 case rem=>
  split at h
  ·cases h
  ·rename_i h0;simp only[al]at h;subst h;exact⟨_,by simp[binOp,Op.intDiv,h0];rfl,by simp[VR]⟩
 case and=>subst h;exact⟨_,by simp[binOp,Op.intBits];rfl,by simp[VR]⟩
 case or=>subst h;exact⟨_,by simp[binOp,Op.intBits];rfl,by simp[VR]⟩
 case xor=>subst h;exact⟨_,by simp[binOp,Op.intBits];rfl,by simp[VR]⟩
 case andNot=>subst h;exact⟨_,by simp[binOp,Op.intBits];rfl,by simp[VR]⟩
 case eql=>subst h;exact⟨_,by simp[binOp,Op.intCmp];rfl,by simp[VR]⟩
 case neq=>subst h;exact⟨_,by simp[binOp,Op.intCmp];rfl,by simp[VR]⟩
 case lss=>subst h;exact⟨_,by simp[binOp,Op.intCmp];rfl,by simp[VR]⟩
 case leq=>subst h;exact⟨_,by simp[binOp,Op.intCmp];rfl,by simp[VR]⟩
 case gtr=>subst h;exact⟨_,by simp[binOp,Op.intCmp];rfl,by simp[VR]⟩
 case geq=>subst h;exact⟨_,by simp[binOp,Op.intCmp];rfl,by simp[VR]⟩
def Zpl{op:BinOp}{k k':IntKind}{x y:Int}{t:TypeId}(hs:op=.shl\/op=.shr)(h:yq op k x y=some v):
  ∃z,(binOp op t (.int k x) (.int k' y)).run P w=.ok z w/\VR μ v z:=by
 unfold yq at h
 split at h
 ·cases h
 ·rename_i h0
  rcases hs with rfl|rfl<;>simp only[al]at h<;>subst h
  ·exact⟨_,by simp[binOp,Op.shift,h0];rfl,by simp[VR]⟩
  ·exact⟨_,by simp[binOp,Op.shift,h0];rfl,by simp[VR]⟩
def O4(l:List UInt8):(⟨l.toArray⟩:ByteArray).toList=l:=by
 rw[ByteArray.toList_eq]
def Zyb{op:BinOp}{x y:List UInt8}{t:TypeId}(h:gO op x y=some v):
  ∃z,(binOp op t (.string ⟨x.toArray⟩) (.string ⟨y.toArray⟩)).run P w=.ok z w/\VR μ v z:=by
 have e1:=O4 x
 have e2:=O4 y
 cases op<;>simp only[gO,al,reduceCtorEq]at h
 case add=>
  split at h
  ·cases h
  ·rename_i hle
   simp only[al]at h;subst h
   refine⟨.string ⟨(x++y).toArray⟩,?_,by simp[VR]⟩
   have kf:((⟨x.toArray⟩:ByteArray).size+(⟨y.toArray⟩:ByteArray).size)=x.length+y.length:=by
    show x.toArray.size+y.toArray.size=_
    simp
   have Ky:(⟨x.toArray⟩:ByteArray)++(⟨y.toArray⟩:ByteArray)=⟨(x++y).toArray⟩:=by
    apply ByteArray.ext
    simp[ByteArray.data_append]
   simp only[binOp,Op.stringOp,kf,ar hle,Ky]
   simp
 case eql=>subst h;exact⟨_,by simp[binOp,Op.stringOp,e1,e2];rfl,by simp[VR]⟩
 case neq=>subst h;exact⟨_,by simp[binOp,Op.stringOp,e1,e2];rfl,by simp[VR]⟩
 case lss=>subst h;exact⟨_,by simp[binOp,Op.stringOp,e1,e2];rfl,by simp[VR]⟩
 case leq=>subst h;exact⟨_,by simp[binOp,Op.stringOp,e1,e2];rfl,by simp[VR]⟩
 case gtr=>subst h;exact⟨_,by simp[binOp,Op.stringOp,e1,e2];rfl,by simp[VR]⟩
 case geq=>subst h;exact⟨_,by simp[binOp,Op.stringOp,e1,e2];rfl,by simp[VR]⟩
def Ysl(hh:bA P μ w st)(hr:RR μ r n a.tmps){op:UnOp}{x:Operand}{s:Src}(hx:bJ P x=some s)(h:FY op s call r st=some (v,aB)):
  bm P μ w st (do pure (.value (<-Op.unary op (a.eval x)))) v aB:=by
 unfold FY at h
 split at h
 ·rename_i u hu
  split at h
  ·rename_i z hz
   simp only[al,bF]at h
   obtain⟨rfl,rfl⟩:=h
   have he:=cU hh hr hx hu
   unfold T1 at hz
   split at hz
   ·simp only[VR]at he
    simp only[al]at hz;subst hz
    exact bm.value hh (x:=_) (by simp[Op.unary,he,Op.intArith];rfl) (by simp[VR])
   ·simp only[VR]at he
    simp only[al]at hz;subst hz
    exact bm.value hh (x:=_) (by simp[Op.unary,he,Op.intBits];rfl) (by simp[VR])
   ·simp only[VR]at he
    simp only[al]at hz;subst hz
    exact bm.value hh (x:=_) (by simp[Op.unary,he];rfl) (by simp[VR])
   ·cases hz
  ·cases h
 ·cases h
def Yac{ng:Bool}{k:PK}{t:TypeId}{d:TypeDesc}{D:Nat}(ht:P.underlying t=some d)(O5:TR P d=true)(hk:Ok d=some k)
  {x y:V} {b:Bool} (h:aI ng k x y=some b) {X Y:Value} (hX:VR μ x X) (hY:VR μ y Y):(Op.equalIn (D+1) t X Y).run P w=.ok b w:=by
 unfold aI at h
 split at h
 case h_25=>cases h
 all_goals (cases d<;>simp only[Ok,reduceCtorEq,al]at hk)
 all_goals simp only[VR]at hX hY
 case h_7.pointer e=>
  split at h
  ·rename_i he
   obtain⟨rfl,rfl⟩:=he
   obtain⟨l,hl,rfl⟩:=hX
   obtain⟨l',jS,rfl⟩:=hY
   rw[hl]at jS
   simp only[al]at jS h
   subst jS h
   simp only[TR]at O5
   obtain⟨j,hj⟩:=Option.isSome_iff_exists.1 O5
   simp[Op.equalIn,run_underlying ht,sizeOf,typeInfo,hj,run_sameAddr_same]
  ·cases h
 case h_2.int=>
  split at h
  ·rename_i e;subst e;subst hX hY;simp only[al]at h;subst h;simp[Op.equalIn,run_underlying ht]
  ·cases h
 case h_3.string=>
  subst hX hY;simp only[al]at h;subst h
  rw[run_equalIn_string w D t _ _ ht,O4,O4]
 case h_22.interface=>
  split at h
  ·subst hX hY;simp only[al]at h;subst h;simp[Op.equalIn,run_underlying ht]
  ·cases h
 all_goals (simp only[al]at h;subst h)
 all_goals first
  |(subst hX;subst hY;simp[Op.equalIn,run_underlying ht];done)
  |(subst hX;obtain⟨_,_,rfl⟩:=hY;simp[Op.equalIn,run_underlying ht];done)
  |(subst hY;obtain⟨_,_,rfl⟩:=hX;simp[Op.equalIn,run_underlying ht];done)
  |(subst hX;obtain⟨_,_,_,rfl,_⟩:=hY;simp[Op.equalIn,run_underlying ht];done)
  |(subst hY;obtain⟨_,_,_,rfl,_⟩:=hX;simp[Op.equalIn,run_underlying ht];done)
  |(subst hX;obtain⟨_,_,rfl,_⟩:=hY;simp[Op.equalIn,run_underlying ht];done)
  |(subst hY;obtain⟨_,_,rfl,_⟩:=hX;simp[Op.equalIn,run_underlying ht];done)
  |(subst hX;obtain⟨_,rfl,_⟩:=hY;simp[Op.equalIn,run_underlying ht];done)
  |(subst hY;obtain⟨_,rfl,_⟩:=hX;simp[Op.equalIn,run_underlying ht];done)
def Zvo{d:Nat}(ih:∀{ng:Bool} {t:TypeId} {q:rU},wE P d t=some q->∀{x y:V} {b:Bool},wM ng q x y=some b->∀{X Y:Value},VR μ x X->VR μ y Y->∀D,d<=D->(Op.equalIn D t X Y).run P w=.ok b w)
  {xs ys:List V} {XS YS:List Value} (hX:bb μ xs XS) (hY:bb μ ys YS) (D:Nat) (hD:d<=D):
  ∀{fs:List Field} {l:List (Nat×Option Nat×rU)},Ia P (wE P d) fs=some l->∀{b:Bool},Kh l xs ys=some b->(Op.eqFields D ⟨XS⟩ ⟨YS⟩ fs).run P w=.ok b w:=by
 intro fs
 induction fs with
 |nil=>
  intro l hl b h
  simp only[Ia,al]at hl;subst hl
  simp only[Kh,al]at h;subst h
  simp[Op.eqFields]
 |cons f fs ihf=>
  intro l hl b h
  simp only[Ia]at hl
  split at hl
  ·rename_i hn
   simp only[Op.eqFields,hn,ne_eq,not_true_eq_false,if_false]
   exact ihf hl h
  ·rename_i hn
   split at hl
   ·rename_i k q l' hk hq jS
    simp only[al]at hl;subst hl
    simp only[Kh]at h
    split at h
    ·rename_i x y hx hy
     obtain⟨X,h1,h2⟩:=Oq (P:=P) (w:=w) hX hk hx
     obtain⟨Y,h3,h4⟩:=Oq (P:=P) (w:=w) hY hk hy
     split at h
     ·rename_i he
      have e:=ih hq he h2 h4 D hD
      simp only[Op.eqFields,ne_eq,hn,not_false_eq_true,if_true,Sem.run_bind,h1,h3,e,Result.andThen,Bool.not_true,fF,if_false]
      exact ihf jS h
     ·rename_i he
      simp only[al]at h;subst h
      have e:=ih hq he h2 h4 D hD
      simp[Op.eqFields,hn,h1,h3,e,Result.andThen]
     ·cases h
    ·cases h
   ·cases hl
def Yoc:∀(d:Nat) {ng:Bool} {t:TypeId} {q:rU},wE P d t=some q->∀{x y:V} {b:Bool},wM ng q x y=some b->∀{X Y:Value},VR μ x X->VR μ y Y->∀D,d<=D->(Op.equalIn D t X Y).run P w=.ok b w:=by
 intro d
 induction d with
 |zero=>intro ng t q hq;simp[wE]at hq
 |succ d ih=>
  intro ng t q hq x y b h X Y hX hY D hD
  obtain⟨D,rfl⟩:∃D',D=D'+1:=⟨D-1,by omega⟩
  simp only[wE]at hq
  split at hq
  ·rename_i fs ht
   split at hq
   ·cases hq
   ·rename_i dH
    split at hq
    ·rename_i l hl
     simp only[al]at hq;subst hq
     cases x<;>cases y<;>simp only[wM,reduceCtorEq]at h
     obtain⟨xs,rfl,px⟩:=hX
     obtain⟨ys,rfl,KS⟩:=hY
     have hf:P.fieldsOf t=fs:=by simp[Program.fieldsOf,ht]
     rw[run_equalIn_struct w D t _ _ (by rw[hf];exact ht) (by simpa using dH),hf]
     exact Zvo ih px KS D (by omega) hl h
    ·cases hq
  ·rename_i dd hns ht
   split at hq
   ·rename_i k hk
    split at hq
    ·rename_i O5
     simp only[al]at hq;subst hq
     simp only[wM]at h
     exact Yac ht O5 hk h hX hY
    ·cases hq
   ·cases hq
  ·cases hq
def O6{op:BinOp}{t:TypeId}{x y:Operand}{X Y:Value}(h1:X=.nilIface->Y=.nilIface->Fv x=true\/Fv y=true)
  (h2:∀a b,X=.agg a->Y=.agg b->P.eqGuardType P.depth t=false):(eqGuard op t x y X Y).run P w=.ok () w:=by
 by_cases hn:X=.nilIface/\Y=.nilIface
 ·obtain⟨rfl,rfl⟩:=hn
  have h:=h1 rfl rfl
  cases op<;>cases x<;>cases y<;>simp_all [eqGuard,Fv]
 ·by_cases ha:(∃a,X=.agg a)/\∃b,Y=.agg b
  ·obtain⟨⟨a,rfl⟩,b,rfl⟩:=ha
   have h:=h2 a b rfl rfl
   cases op<;>simp[eqGuard,run_program,h]
  ·cases op<;>simp[eqGuard]<;>split<;>simp_all
end
set_option maxHeartbeats 1000000
section
variable {P:Program} {μ:Mu} {w:World} {st aB:St} {r:T V} {n:Nat} {a:Act} {call:cG} {v:V}
def VR.w_{x:V}{k:IntKind}{m:Int}(h:VR μ x (.int k m)):x=.int k m:=by
 cases x<;>simp only[VR]at h<;>first
  |(cases h;rfl)
  |(cases h;done)
  |(obtain⟨_,_,h⟩:=h;cases h;done)
  |(obtain⟨_,_,_,h,_⟩:=h;cases h;done)
  |(obtain⟨_,_,h,_⟩:=h;cases h;done)
  |(obtain⟨_,h,_⟩:=h;cases h;done)
def VR.pM{x:V}{k:FloatKind}{m:Nat}(h:VR μ x (.float k m)):x=.uB k m:=by
 cases x<;>simp only[VR]at h<;>first
  |(cases h;rfl)
  |(cases h;done)
  |(obtain⟨_,_,h⟩:=h;cases h;done)
  |(obtain⟨_,_,_,h,_⟩:=h;cases h;done)
  |(obtain⟨_,_,h,_⟩:=h;cases h;done)
  |(obtain⟨_,h,_⟩:=h;cases h;done)
def VR.s_{x:V}{k:FloatKind}{m m':Nat}(h:VR μ x (.complex k m m')):False:=by
 cases x<;>simp only[VR]at h<;>first
  |(cases h;done)
  |(obtain⟨_,_,h⟩:=h;cases h;done)
  |(obtain⟨_,_,_,h,_⟩:=h;cases h;done)
  |(obtain⟨_,_,h,_⟩:=h;cases h;done)
  |(obtain⟨_,h,_⟩:=h;cases h;done)
def VR.nQ{x:V}{s:ByteArray}(h:VR μ x (.string s)):∃l,x=.str l:=by
 cases x<;>simp only[VR]at h<;>first
  |exact⟨_,rfl⟩
  |(cases h;done)
  |(obtain⟨_,_,h⟩:=h;cases h;done)
  |(obtain⟨_,_,_,h,_⟩:=h;cases h;done)
  |(obtain⟨_,_,h,_⟩:=h;cases h;done)
  |(obtain⟨_,h,_⟩:=h;cases h;done)
def VR.jy{x:V}(h:VR μ x .nilIface):x=.aY:=by
 cases x<;>simp only[VR]at h<;>first
  |rfl
  |(cases h;done)
  |(obtain⟨_,_,h⟩:=h;cases h;done)
  |(obtain⟨_,_,_,h,_⟩:=h;cases h;done)
  |(obtain⟨_,_,h,_⟩:=h;cases h;done)
  |(obtain⟨_,h,_⟩:=h;cases h;done)
def VR.xb{x:V}{s:Array Value}(h:VR μ x (.agg s)):∃l,x=.agg l:=by
 cases x<;>simp only[VR]at h<;>first
  |exact⟨_,rfl⟩
  |(cases h;done)
  |(obtain⟨_,_,h⟩:=h;cases h;done)
  |(obtain⟨_,_,_,h,_⟩:=h;cases h;done)
  |(obtain⟨_,_,h,_⟩:=h;cases h;done)
  |(obtain⟨_,h,_⟩:=h;cases h;done)
def Zj7{t:TypeId}{X Y:Value}{b:Bool}(hi:∀k m k' m',¬(X=.int k m/\Y=.int k' m'))(hs:∀s s',¬(X=.string s/\Y=.string s'))
  (hf:∀k m k' m',¬(X=.float k m/\Y=.float k' m')) (hc:∀k m p k' m' p',¬(X=.complex k m p/\Y=.complex k' m' p')) (h:(Op.equal t X Y).run P w=.ok b w):
  (binOp .eql t X Y).run P w=.ok (.bool b) w/\(binOp .neq t X Y).run P w=.ok (.bool (!b)) w:=by
 constructor
 ·unfold binOp
  split<;>first
   |(exact absurd ⟨rfl,rfl⟩ (hi _ _ _ _))
   |(exact absurd ⟨rfl,rfl⟩ (hs _ _))
   |(exact absurd ⟨rfl,rfl⟩ (hf _ _ _ _))
   |(exact absurd ⟨rfl,rfl⟩ (hc _ _ _ _ _ _))
   |(simp[h];done)
   |simp_all
 ·unfold binOp
  split<;>first
   |(exact absurd ⟨rfl,rfl⟩ (hi _ _ _ _))
   |(exact absurd ⟨rfl,rfl⟩ (hs _ _))
   |(exact absurd ⟨rfl,rfl⟩ (hf _ _ _ _))
   |(exact absurd ⟨rfl,rfl⟩ (hc _ _ _ _ _ _))
   |(simp[h];done)
   |simp_all
def U9(P:Program)(op:BinOp)(t:TypeId)(x y:Operand)(q:rU)(ng:Bool):Prop:=
 (op=.eql\/op=.neq)->wE P 40 t=some q/\(match P.underlying t with|some (.struct _)|some (.array _ _)=>P.eqGuardType P.depth t|_=>false)=false/\ng=(Fv x||Fv y)
def Ec{op:BinOp}{t:TypeId}{x y:Operand}{X Y z:Value}(hg:(eqGuard op t x y X Y).run P w=.ok () w)(hb:(binOp op t X Y).run P w=.ok z w):
  (do eqGuard op t x y X Y;binOp op t X Y:Sem Value).run P w=.ok z w:=by simp[hg,hb,Result.andThen]
def Zuz{d:Nat}{t:TypeId}{l:List (Nat×Option Nat×rU)}(h:wE P d t=some (.node l)):∃fs,P.underlying t=some (.struct fs):=by
 cases d with
 |zero=>simp[wE]at h
 |succ d=>
  simp only[wE]at h
  split at h
  ·rename_i fs ht;exact⟨fs,ht⟩
  ·split at h
   ·split at h<;>simp at h
   ·cases h
  ·cases h
def Zl4{t:TypeId}{kd:ChanDir}{e:TypeId}{x y:Option Nat}(D:Nat)(ht:P.underlying t=some (.chan kd e)):(Op.equalIn (D+1) t (.chan x) (.chan y)).run P w=.ok (x==y) w:=by
 simp[Op.equalIn,run_underlying ht]
def Yfe{d:Nat}{t:TypeId}(hq:wE P d t=some (.aM .chan)):∃k e,P.underlying t=some (.chan k e):=by
 cases d with
 |zero=>simp[wE]at hq
 |succ d=>
  simp only[wE]at hq
  split at hq
  ·split at hq
   ·cases hq
   ·split at hq<;>simp at hq
  ·rename_i dd _ ht
   split at hq
   ·rename_i k hk
    split at hq
    ·simp only[al,rU.aM.injEq]at hq;subst hq
     cases dd<;>simp[Ok]at hk
     exact⟨_,_,ht⟩
    ·cases hq
   ·cases hq
  ·cases hq
def Yjl(hh:bA P μ w st){op:BinOp}{t:TypeId}{x y:Operand}{X Y:Value}{q:rU}{ng:Bool}(hc:U9 P op t x y q ng){i j:Nat}(h1:VR μ (.chan i) X)(h2:VR μ (.chan j) Y)
  (h:OA op q st i j=some (v,aB)):
  bm P μ w st (do pure (.value (<-(do eqGuard op t x y X Y;binOp op t X Y:Sem Value)))) v aB:=by
 obtain⟨l,hl,rfl⟩:=h1
 obtain⟨l',jS,rfl⟩:=h2
 have hg:(eqGuard op t x y (.chan (some l.b)) (.chan (some l'.b))).run P w=.ok () w:=O6 (by intro h;cases h) (by intro _ _ h;cases h)
 have Va:∀c b c' b',st.h.get i=some (.chan c b)->st.h.get j=some (.chan c' b')->(some l.b==some l'.b)=(i==j):=by
  intro c b c' b' g1 g2
  by_cases e:i=j
  ·subst e;rw[hl]at jS;cases jS;simp
  ·have:=hh.inj i j l l' _ _ hl jS e g1 g2 rfl rfl
   have e2:(i==j)=false:=by simpa using e
   rw[e2];simpa using this
 have main:(op=.eql\/op=.neq)->q=.aM .chan->∀c b c' b',st.h.get i=some (.chan c b)->st.h.get j=some (.chan c' b')->
   (binOp .eql t (.chan (some l.b)) (.chan (some l'.b))).run P w=.ok (.bool (i==j)) w/\(binOp .neq t (.chan (some l.b)) (.chan (some l'.b))).run P w=.ok (.bool (!(i==j))) w:=by
  intro KY hq c b c' b' g1 g2
  subst hq
  obtain⟨kd,e,ht⟩:=Yfe (hc KY).1
  refine Zj7 (fun _ _ _ _ e=>by cases e.1) (fun _ _ e=>by cases e.1) (fun _ _ _ _ e=>by cases e.1) (fun _ _ _ _ _ _ e=>by cases e.1) ?_
  have:=Zl4 (P:=P) (w:=w) (x:=some l.b) (y:=some l'.b) 9999 ht
  rw[Va _ _ _ _ g1 g2]at this
  exact this
 unfold OA at h
 split at h
 ·rename_i g1 g2
  simp only[al,bF]at h
  obtain⟨rfl,rfl⟩:=h
  exact bm.value hh (Ec hg (main (.inl rfl) rfl _ _ _ _ g1 g2).1) (by simp[VR])
 ·rename_i g1 g2
  simp only[al,bF]at h
  obtain⟨rfl,rfl⟩:=h
  exact bm.value hh (Ec hg (main (.inr rfl) rfl _ _ _ _ g1 g2).2) (by simp[VR])
 ·cases h
def Yry(hh:bA P μ w st)(hr:RR μ r n a.tmps){op:BinOp}{t:TypeId}{x y:Operand}{s u:Src}{q:rU}{ng:Bool}(hx:bJ P x=some s)(hy:bJ P y=some u)
  (hc:U9 P op t x y q ng) (h:FX op q ng s u call r st=some (v,aB)):
  bm P μ w st (do pure (.value (<-(do eqGuard op t x y (a.eval x) (a.eval y);binOp op t (a.eval x) (a.eval y):Sem Value)))) v aB:=by
 unfold FX at h
 split at h
 ·rename_i i j hs hu
  exact Yjl hh hc (cU hh hr hx hs) (cU hh hr hy hu) h
 ·rename_i x1 y1 _ hs hu
  have h1:=cU hh hr hx hs
  have h2:=cU hh hr hy hu
  generalize a.eval x=X at*
  generalize a.eval y=Y at*
  split at h
  ·rename_i z hz
   simp only[al,bF]at h
   obtain⟨rfl,rfl⟩:=h
   unfold T0 at hz
   split at hz
   ·-- two integers
    rename_i k p k' p' _
    simp only[VR]at h1 h2
    subst h1 h2
    have hg:(eqGuard op t x y (.int k p) (.int k' p')).run P w=.ok () w:=O6 (by intro h;cases h) (by intro _ _ h;cases h)
    split at hz
    ·obtain⟨y',h3,h4⟩:=Zpl (P:=P) (μ:=μ) (w:=w) (t:=t) (k':=k') (.inl rfl) hz
     exact bm.value hh (Ec hg h3) h4
    ·obtain⟨y',h3,h4⟩:=Zpl (P:=P) (μ:=μ) (w:=w) (t:=t) (k':=k') (.inr rfl) hz
     exact bm.value hh (Ec hg h3) h4
    ·split at hz
     ·rename_i e;subst e
      obtain⟨y',h3,h4⟩:=Zzt (P:=P) (μ:=μ) (w:=w) (t:=t) hz
      exact bm.value hh (Ec hg h3) h4
     ·cases hz
   ·rename_i p p' _
    simp only[VR]at h1 h2
    subst h1 h2
    have hg:(eqGuard op t x y (.string ⟨p.toArray⟩) (.string ⟨p'.toArray⟩)).run P w=.ok () w:=O6 (by intro h;cases h) (by intro _ _ h;cases h)
    obtain⟨y',h3,h4⟩:=Zyb (P:=P) (μ:=μ) (w:=w) (t:=t) hz
    exact bm.value hh (Ec hg h3) h4
   ·rename_i hni hns
    have main:∀b,wM ng q x1 y1=some b->(op=.eql\/op=.neq)->
      (eqGuard op t x y X Y).run P w=.ok () w/\(binOp .eql t X Y).run P w=.ok (.bool b) w/\(binOp .neq t X Y).run P w=.ok (.bool (!b)) w:=by
     intro b hb KY
     obtain⟨hq,IT,KZ⟩:=hc KY
     have he:=Yoc (w:=w) 40 hq hb h1 h2 10000 (by omega)
     refine⟨O6 (fun e1 e2=>?_) (fun A B e1 e2=>?_),Zj7 (fun k m k' m' e=>?_) (fun p p' e=>?_) (fun k m k' m' e=>?_) (fun k m m' k' m1 m2 e=>?_) he⟩
     ·subst e1 e2
      have:=h1.jy;subst this
      have:=h2.jy;subst this
      cases q with
      |aM k=>cases k<;>simp[wM,aI]at hb;rw[KZ]at hb;simpa using hb.1
      |node l=>simp[wM]at hb
     ·subst e1 e2
      obtain⟨l1,rfl⟩:=h1.xb
      obtain⟨l2,rfl⟩:=h2.xb
      cases q with
      |aM k=>cases k<;>simp[wM,aI]at hb
      |node l=>
       obtain⟨fs,Co⟩:=Zuz hq
       simpa[Co]using IT
     ·obtain⟨rfl,rfl⟩:=e
      exact hni _ _ _ _ h1.w_ h2.w_
     ·obtain⟨rfl,rfl⟩:=e
      obtain⟨l1,e1⟩:=h1.nQ
      obtain⟨l2,e2⟩:=h2.nQ
      exact hns _ _ e1 e2
     ·obtain⟨rfl,rfl⟩:=e
      have e1:=h1.pM;subst e1
      have e2:=h2.pM;subst e2
      cases q with
      |aM k=>cases k<;>simp[wM,aI]at hb
      |node l=>simp[wM]at hb
     ·obtain⟨rfl,rfl⟩:=e
      exact h1.s_
    split at hz
    ·split at hz
     ·rename_i b hb
      simp only[al]at hz;subst hz
      obtain⟨g1,g2,_⟩:=main b hb (.inl rfl)
      exact bm.value hh (Ec g1 g2) (by simp[VR])
     ·cases hz
    ·split at hz
     ·rename_i b hb
      simp only[al]at hz;subst hz
      obtain⟨g1,_,g2⟩:=main b hb (.inr rfl)
      exact bm.value hh (Ec g1 g2) (by simp[VR])
     ·cases hz
    ·cases hz
  ·cases h
 ·cases h
end
set_option maxHeartbeats 1000000
section
variable {P:Program} {μ:Mu} {w:World} {st aB:St} {r:T V} {n:Nat} {a:Act} {call:cG} {v:V}
def Gw(μ:Mu):Option V->Option Value->Prop
 |none,none=>True
 |some v,some x=>VR μ v x
 |_,_=>False
def ta(hh:bA P μ w st)(hr:RR μ r n a.tmps){x:Option Operand}{s:Option Src}(hc:tK P x=some s){v:Option V}(hv:aC r s=some v):Gw μ v (x.map a.eval):=by
 rcases Yei hh hr hc hv with⟨rfl,rfl⟩|⟨v',x',rfl,rfl,h⟩
 ·trivial
 ·exact h
def Gw.isNone{v:Option V}{x:Option Value}(h:Gw μ v x):x.isNone=v.isNone:=by
 cases v<;>cases x<;>simp_all [Gw]
def K0{u:V}{X:Value}{y m k:Nat}{code:BoundsCode}(hu:VR μ u X)(h:ki u y=some m)(hk:y<=k):(Instr.sliceBound X k code).run P w=.ok m w/\m<=y:=by
 unfold ki at h
 split at h
 ·rename_i q z
  split at h
  ·rename_i hz
   simp only[al]at h;subst h
   simp only[VR]at hu;subst hu
   have h2:z<=(k:Int):=by omega
   exact⟨by simp[Instr.sliceBound,asIntOf,hz.1,h2],by omega⟩
  ·cases h
 ·cases h
def Gx{isS:Bool}{len y k:Nat}{lo hi mx:Option V}{LO HI MX:Option Value}(fL:Gw μ lo LO)(gH:Gw μ hi HI)(dh:Gw μ mx MX)(hy:y<=k){m h l:Nat}
  (hm:(mx=none/\m=k)\/(dB mx y 0=some m/\mx.isSome=true/\hi.isSome=true)) (hh:dB hi (if mx=none then y else m) len=some h) (hl:dB lo h 0=some l):
  (Instr.sliceBounds isS len k LO HI MX).run P w=.ok (l,h,m) w:=by
 cases mx with
 |none=>
  cases MX with
  |some _=>exact dh.elim
  |none=>
   have hmk:m=k:=by
    rcases hm with⟨_,e⟩|⟨_,e,_⟩
    ·exact e
    ·simp at e
   subst hmk
   simp only[if_true]at hh
   have zU:∀LO',LO=some LO'->∀code,(Instr.sliceBound LO' h code).run P w=.ok l w:=fun X e code=>by
    subst e
    cases lo with
    |none=>exact fL.elim
    |some u=>exact(K0 fL hl (aW _)).1
   have fj:LO=none->l=0:=fun e=>by
    subst e
    cases lo with
    |none=>simpa[dB]using hl.symm
    |some u=>exact fL.elim
   have K3:∀HI',HI=some HI'->∀code,(Instr.sliceBound HI' m code).run P w=.ok h w:=fun X e code=>by
    subst e
    cases hi with
    |none=>exact gH.elim
    |some u=>exact(K0 gH hh hy).1
   have hh0:HI=none->h=len:=fun e=>by
    subst e
    cases hi with
    |none=>simpa[dB]using hh.symm
    |some u=>exact gH.elim
   cases HI with
   |none=>
    have:=hh0 rfl;subst this
    cases LO with
    |none=>have:=fj rfl;subst this;simp[Instr.sliceBounds]
    |some X=>simp[Instr.sliceBounds,zU X rfl,Result.andThen]
   |some Y=>
    cases LO with
    |none=>have:=fj rfl;subst this;simp[Instr.sliceBounds,K3 Y rfl,Result.andThen]
    |some X=>simp[Instr.sliceBounds,zU X rfl,K3 Y rfl,Result.andThen]
 |some um=>
  cases MX with
  |none=>exact dh.elim
  |some Z=>
   obtain⟨hm,iY⟩:dB (some um) y 0=some m/\hi.isSome=true:=by
    rcases hm with⟨e,_⟩|⟨e,_,e'⟩
    ·simp at e
    ·exact⟨e,e'⟩
   have hz:∀code,(Instr.sliceBound Z k code).run P w=.ok m w:=fun code=>(K0 dh hm hy).1
   simp only[reduceCtorEq,if_false]at hh
   cases hi with
   |none=>simp at iY
   |some u=>
    cases HI with
    |none=>exact gH.elim
    |some Y=>
     have ve:∀code,(Instr.sliceBound Y m code).run P w=.ok h w:=fun code=>(K0 gH hh (aW _)).1
     cases lo with
     |none=>
      cases LO with
      |some _=>exact fL.elim
      |none=>
       simp only[dB,al]at hl;subst hl
       simp[Instr.sliceBounds,hz,ve,Result.andThen]
     |some ul=>
      cases LO with
      |none=>exact fL.elim
      |some X=>
       have lI:∀code,(Instr.sliceBound X h code).run P w=.ok l w:=fun code=>(K0 fL hl (aW _)).1
       simp[Instr.sliceBounds,hz,ve,lI,Result.andThen]
def vi{u:Option V}{y d m:Nat}(h:dB u y d=some m):m<=y\/(u=none/\m=d):=by
 cases u with
 |none=>simp only[dB,al]at h;exact .inr ⟨rfl,h.symm⟩
 |some u=>
  simp only[dB,ki]at h
  split at h
  ·split at h
   ·simp only[al]at h;left;omega
   ·cases h
  ·cases h
def Zuc(hh:bA P μ w st)(hr:RR μ r n a.tmps){t:TypeId}{x:Operand}{lo hi:Option Operand}{s:Src}{ls hs:Option Src}(ht:P.underlying t=some .string)(hx:bJ P x=some s)
  (fL:tK P lo=some ls) (gH:tK P hi=some hs) (h:yt s ls hs call r st=some (v,aB)):
  bm P μ w st (do pure (.value (<-Instr.sliceAt t (a.eval x) (lo.map a.eval) (hi.map a.eval) none))) v aB:=by
 unfold yt at h
 split at h
 ·rename_i l vl vh h1 h2 h3
  have e1:=cU hh hr hx h1
  simp only[VR]at e1
  have e2:=ta hh hr fL h2
  have e3:=ta hh hr gH h3
  split at h
  ·rename_i hb pN
   split at h
   ·rename_i lb jk
    simp only[al,bF]at h
    obtain⟨rfl,rfl⟩:=h
    have kf:(⟨l.toArray⟩:ByteArray).size=l.length:=by show l.toArray.size=_;simp
    have bX:=Gx (P:=P) (w:=w) (isS:=false) (len:=l.length) (y:=l.length) (k:=l.length) (mx:=none) (MX:=none) (m:=l.length) e2 e3 trivial (aW _) (.inl ⟨rfl,rfl⟩) (by simpa using pN) jk
    refine bm.value hh (x:=.string ((⟨l.toArray⟩:ByteArray).extract lb hb)) ?_ ?_
    ·simp[Instr.sliceAt,Instr.slice,run_underlying ht,e1,kf,bX,Result.andThen]
    ·simp only[VR]
     congr 1
     apply ByteArray.ext
     rw[ByteArray.data_extract]
     apply Array.ext'
     simp[List.extract,List.drop_take]
   ·cases h
  ·cases h
 ·cases h
def IU{t e:TypeId}{z:Nat}(ht:P.underlying t=some (.slice e))(hz:eR P e=some z){A:Option Addr}{len c l h m:Nat}{LO HI MX:Option Value}
  (hb:(Instr.sliceBounds true len c LO HI MX).run P w=.ok (l,h,m) w):
  (Instr.sliceAt t (.slice A len c) LO HI MX).run P w=.ok (.slice (if m=l then A else A.map (·.add (l*z))) (h-l) (m-l)) w:=by
 simp[Instr.sliceAt,Instr.slice,run_underlying ht,hb,xH hz,Result.andThen]
def Zye(hh:bA P μ w st)(hr:RR μ r n a.tmps){t e:TypeId}{z:Nat}{x:Operand}{lo hi mx:Option Operand}{s:Src}{ls hs ms:Option Src}(ht:P.underlying t=some (.slice e))(hz:eR P e=some z)
  (hx:bJ P x=some s) (fL:tK P lo=some ls) (gH:tK P hi=some hs) (dh:tK P mx=some ms) (h:pC z s ls hs ms call r st=some (v,aB)):
  bm P μ w st (do pure (.value (<-Instr.sliceAt t (a.eval x) (lo.map a.eval) (hi.map a.eval) (mx.map a.eval)))) v aB:=by
 unfold pC at h
 split at h
 ·-- nil
  rename_i vl vh vm h1 h2 h3 h4
  have e1:=cU hh hr hx h1
  simp only[VR]at e1
  have e2:=ta hh hr fL h2
  have e3:=ta hh hr gH h3
  have e4:=ta hh hr dh h4
  split at h
  ·rename_i m hm
   split at h
   ·rename_i hb pN
    split at h
    ·rename_i lb jk
     split at h
     ·cases h
     ·rename_i mC
      simp only[al,bF]at h
      obtain⟨rfl,rfl⟩:=h
      have fV:m=0:=by rcases vi hm with h|h<;>omega
      have kW:hb=0:=by rcases vi pN with h|h<;>omega
      have fj:lb=0:=by rcases vi jk with h|h<;>omega
      subst fV kW fj
      have bX:=Gx (P:=P) (w:=w) (isS:=true) (len:=0) (y:=0) (k:=0) e2 e3 e4 (aW _) (m:=0) (h:=0) (l:=0)
       (by cases vm with
        |none=>exact .inl ⟨rfl,rfl⟩
        |some u=>cases vh with
         |none=>simp at mC
         |some u'=>exact .inr ⟨hm,rfl,rfl⟩)
       (by cases vm<;>simpa using pN) jk
      refine bm.value hh (x:=.slice none 0 0) ?_ (by simp[VR])
      rw[e1,IU ht hz bX]
      simp
    ·cases h
   ·cases h
  ·cases h
 ·-- not nil,empty
  rename_i vl vh h1 h2 h3 h4
  have e1:=cU hh hr hx h1
  obtain⟨A,c,e1⟩:=e1
  have e2:=ta hh hr fL h2
  have e3:=ta hh hr gH h3
  have e4:=ta hh hr dh h4
  split at h
  ·rename_i hb pN
   split at h
   ·rename_i lb jk
    simp only[al,bF]at h
    obtain⟨rfl,rfl⟩:=h
    have kW:hb=0:=by rcases vi pN with h|h<;>omega
    have fj:lb=0:=by rcases vi jk with h|h<;>omega
    subst kW fj
    have bX:=Gx (P:=P) (w:=w) (isS:=true) (len:=0) (y:=0) (k:=c) e2 e3 e4 (tH _) (m:=c) (h:=0) (l:=0) (.inl ⟨rfl,rfl⟩) (by simpa using pN) jk
    refine bm.value hh (x:=.slice (some (if c=0 then A else A.add (0*z))) 0 (c-0)) ?_ ⟨_,_,rfl⟩
    rw[e1,IU ht hz bX]
    split<;>simp
   ·cases h
  ·cases h
 ·-- the capacity is known
  rename_i i o len c sz vl vh vm h1 h2 h3 h4
  obtain⟨l,c',hl,e1,hlen,zR,hc,_⟩:=cU hh hr hx h1
  have:=hc c rfl;subst this
  have e2:=ta hh hr fL h2
  have e3:=ta hh hr gH h3
  have e4:=ta hh hr dh h4
  split at h
  ·cases h
  ·rename_i mC
   simp only[not_or,Decidable.not_not,Bool.not_eq_true]at mC
   obtain⟨rfl,mC⟩:=mC
   split at h
   ·rename_i m hm
    split at h
    ·rename_i hb pN
     split at h
     ·rename_i lb jk
      simp only[al,bF]at h
      obtain⟨rfl,rfl⟩:=h
      have hmc:m<=c':=by rcases vi hm with h|h<;>omega
      have bX:=Gx (P:=P) (w:=w) (isS:=true) (len:=len) (y:=c') (k:=c') e2 e3 e4 (aW _) (m:=m) (h:=hb) (l:=lb)
       (by cases vm with
        |none=>simp only[dB,al]at hm;exact .inl ⟨rfl,hm.symm⟩
        |some u=>cases vh with
         |none=>simp at mC
         |some u'=>exact .inr ⟨hm,rfl,rfl⟩)
       (by cases vm with
        |none=>simp only[dB,al]at hm;subst hm;simpa using pN
        |some u=>simpa using pN) jk
      have Vb:hb<=m:=by
       rcases vi pN with h|⟨h,h'⟩
       ·exact h
       ·subst h
        cases vm with
        |none=>simp only[dB,al]at hm;omega
        |some u=>simp at mC
      have KX:lb<=hb:=by rcases vi jk with h|h<;>omega
      have k1:m*sz<=c'*sz:=lV _ hmc
      have k2:(m-lb)*sz=m*sz-lb*sz:=Nat.sub_mul _ _ _
      have k3:lb*sz<=m*sz:=lV _ (by omega)
      refine bm.value hh (x:=.slice (some ⟨l.b,l.d+(if m=lb then o else o+lb*sz),none⟩) (hb-lb) (m-lb)) ?_ ⟨l,m-lb,hl,rfl,by omega,?_,fun k hk=>by simpa using hk,by simp⟩
      ·rw[e1,IU ht hz bX]
       split<;>simp[wJ,pw]
      ·split
       ·rename_i e;subst e;simp;omega
       ·omega
     ·cases h
    ·cases h
   ·cases h
 ·-- the capacity is not known
  rename_i i o len sz vl vh vm h1 h2 h3 h4
  obtain⟨l,cw,hl,e1,hlen,zR,_,htn⟩:=cU hh hr hx h1
  have htn:=htn rfl
  have e2:=ta hh hr fL h2
  have e3:=ta hh hr gH h3
  have e4:=ta hh hr dh h4
  split at h
  ·cases h
  ·rename_i mC
   simp only[not_or,Decidable.not_not,Bool.not_eq_true]at mC
   obtain⟨rfl,rQ,mC⟩:=mC
   split at h
   ·rename_i cs _ _ ak
    obtain⟨c'',_,_,_,_,cO,_⟩:=hh.row hl ak
    have pO:max len ((cs.length-o)/sz)<=cw:=by
     have:(cs.length-o)/sz<=cw:=by
      rw[Nat.div_le_iff_le_mul_add_pred (by omega)]
      have:sz*cw=cw*sz:=iX _ _
      omega
     omega
    have yB:len<=max len ((cs.length-o)/sz):=by omega
    generalize max len ((cs.length-o)/sz)=y at*
    dsimp only at h
    split at h
    ·rename_i um
     split at h
     ·rename_i m hm
      split at h
      ·rename_i hb pN
       split at h
       ·rename_i lb jk
        simp only[al,bF]at h
        obtain⟨rfl,rfl⟩:=h
        cases vh with
        |none=>simp at mC
        |some uh=>
        have Vc:m<=y:=by
         rcases vi (u:=some um) (d:=0) hm with h|h
         ·exact h
         ·simp at h
        have bX:=Gx (P:=P) (w:=w) (isS:=true) (len:=len) (y:=y) (k:=cw) e2 e3 e4 pO (m:=m) (h:=hb) (l:=lb) (.inr ⟨hm,rfl,rfl⟩) (by simpa using pN) jk
        have Vb:hb<=m:=by
         rcases vi pN with h|⟨h,h'⟩
         ·exact h
         ·simp at h
        have KX:lb<=hb:=by rcases vi jk with h|h<;>omega
        have k1:m*sz<=cw*sz:=lV _ (by omega)
        have k2:(m-lb)*sz=m*sz-lb*sz:=Nat.sub_mul _ _ _
        have k3:lb*sz<=m*sz:=lV _ (by omega)
        refine bm.value hh (x:=.slice (some ⟨l.b,l.d+(if m=lb then o else o+lb*sz),none⟩) (hb-lb) (m-lb)) ?_ ⟨l,m-lb,hl,rfl,by omega,?_,fun k hk=>by simpa using hk,by simp⟩
        ·rw[e1,IU ht hz bX]
         split<;>simp[wJ,pw]
        ·split
         ·rename_i e;subst e;simp;omega
         ·omega
       ·cases h
      ·cases h
     ·cases h
    ·split at h
     ·rename_i hb pN
      split at h
      ·rename_i lb jk
       have bX:=Gx (P:=P) (w:=w) (isS:=true) (len:=len) (y:=y) (k:=cw) e2 e3 e4 pO (m:=cw) (h:=hb) (l:=lb) (.inl ⟨rfl,rfl⟩) (by simpa using pN) jk
       have Vb:hb<=y:=by rcases vi pN with h|⟨h,h'⟩<;>omega
       have KX:lb<=hb:=by rcases vi jk with h|h<;>omega
       have k2:(cw-lb)*sz=cw*sz-lb*sz:=Nat.sub_mul _ _ _
       have k3:lb*sz<=cw*sz:=lV _ (by omega)
       split at h
       ·rename_i ay
        simp only[al,bF]at h
        obtain⟨rfl,rfl⟩:=h
        refine bm.value hh (x:=.slice (some ⟨l.b,l.d+(o+lb*sz),none⟩) (hb-lb) (cw-lb)) ?_ ⟨l,cw-lb,hl,rfl,by omega,by omega,by simp,fun _=>by omega⟩
        rw[e1,IU ht hz bX]
        rw[ar (by omega)]
        simp[wJ,pw]
       ·simp only[al,bF]at h
        obtain⟨rfl,rfl⟩:=h
        have:hb-lb=0:=by omega
        refine bm.value hh (x:=.slice (some (if cw=lb then ⟨l.b,l.d+o,none⟩ else (⟨l.b,l.d+o,none⟩:Addr).add (lb*sz))) 0 (cw-lb)) ?_ ⟨_,_,rfl⟩
        rw[e1,IU ht hz bX,this]
        split<;>simp
      ·cases h
     ·cases h
   ·cases h
 ·cases h
def Zud(hh:bA P μ w st)(hr:RR μ r n a.tmps){t e:TypeId}{k z:Nat}{x:Operand}{lo hi mx:Option Operand}{s:Src}{ls hs ms:Option Src}(ht:P.underlying t=some (.array k e))(hz:eR P e=some z)
  (hx:bJ P x=some s) (fL:tK P lo=some ls) (gH:tK P hi=some hs) (dh:tK P mx=some ms) (h:zr k z s ls hs ms call r st=some (v,aB)):
  bm P μ w st (do pure (.value (<-Instr.sliceAt t (a.eval x) (lo.map a.eval) (hi.map a.eval) (mx.map a.eval)))) v aB:=by
 unfold zr at h
 split at h
 ·rename_i i o vl vh h1 h2 h3 h4
  obtain⟨l,hl,e1⟩:=cU hh hr hx h1
  have e2:=ta hh hr fL h2
  have e3:=ta hh hr gH h3
  have e4:=ta hh hr dh h4
  split at h
  ·rename_i hb pN
   split at h
   ·rename_i lb jk
    split at h
    ·rename_i cs _ _ ak
     split at h
     ·rename_i cM
      simp only[al,bF]at h
      obtain⟨rfl,rfl⟩:=h
      obtain⟨c'',_,_,_,_,cO,_⟩:=hh.row hl ak
      have bX:=Gx (P:=P) (w:=w) (isS:=false) (len:=k) (y:=k) (k:=k) e2 e3 e4 (aW _) (m:=k) (h:=hb) (l:=lb) (.inl ⟨rfl,rfl⟩) (by simpa using pN) jk
      have Vb:hb<=k:=by rcases vi pN with h|⟨h,h'⟩<;>omega
      have KX:lb<=hb:=by rcases vi jk with h|h<;>omega
      have k2:(k-lb)*z=k*z-lb*z:=Nat.sub_mul _ _ _
      have k3:lb*z<=k*z:=lV _ (by omega)
      have KU:=cM.1
      refine bm.value hh (x:=.slice (some ⟨l.b,l.d+(if k=lb then o else o+lb*z),none⟩) (hb-lb) (k-lb)) ?_ ⟨l,k-lb,hl,rfl,by omega,?_,fun k hk=>by simpa using hk,by simp⟩
      ·simp only[Instr.sliceAt,Sem.run_bind,run_underlying ht,Result.andThen,Instr.sureAddr,e1,Sem.run_pure,bX,xH hz]
       split<;>simp[wJ,pw]
      ·split
       ·rename_i e;subst e;simp;omega
       ·omega
     ·cases h
    ·cases h
   ·cases h
  ·cases h
 ·cases h
end
section
variable {P:Program} {μ:Mu} {w:World} {st aB:St} {r:T V} {n:Nat} {a:Act} {call:cG} {v:V}
def O3{α:Type}{c vs:List α}{o:Nat}(h:o+vs.length<=c.length):(ad c o vs).length=c.length:=by
 simp[ad];omega
def IS{α:Type}{c vs:List α}{o:Nat}(h:o+vs.length<=c.length)(j:Nat):(ad c o vs)[j]?=if o<=j/\j<o+vs.length then vs[j-o]? else c[j]?:=by
 have ay:(c.take o).length=o:=by simp;omega
 unfold ad
 rw[tL]
 by_cases h1:j<o
 ·rw[lE (by omega),ar (by omega),iy,aF h1]
 ·rw[oV (by omega),ay]
  by_cases h2:j<o+vs.length
  ·rw[lE (by omega),aF ⟨by omega,h2⟩]
  ·rw[oV (by omega),ar (by omega),fh]
   congr 1;omega
def bb.ad{c vs:List V}{c' j9:List Value}(h:bb μ c c')(h':bb μ vs j9)(o:Nat):bb μ (ad c o vs) (ad c' o j9):=by
 unfold Mx.ad
 rw[h'.length]
 exact((h.take o).append h').append (h.drop _)
def Zne{α:Type}(c:List α)(o:Nat)(x:α)(vs:List α)(h:o<c.length):Mx.ad (c.set o x) (o+1) vs=Mx.ad c o (x::vs):=by
 unfold Mx.ad
 have e1:(c.set o x).take (o+1)=c.take o++[x]:=by
  rw[tE,List.take_set_of_le (aW _)]
  simp[h]
 have e2:(c.set o x).drop (o+1+vs.length)=c.drop (o+(vs.length+1)):=by
  rw[List.drop_set_of_lt (by omega)]
  congr 1;omega
 rw[e1,e2]
 simp
def Yiq(off:Nat):∀(vs:List Value) (k:Nat) (cs:List Value),off+k+vs.length<=cs.length->
  (vs.zipIdx k).foldl (fun (cs:Array Value) (p:Value×Nat)=>cs.setIfInBounds (off+p.2) p.1) ⟨cs⟩=⟨ad cs (off+k) vs⟩:=by
 intro vs
 induction vs with
 |nil=>intro k cs h;simp[ad]
 |cons x vs ih=>
  intro k cs h
  simp only[bD]at h
  simp only[List.zipIdx_cons,List.foldl_cons]
  have e:(⟨cs⟩:Array Value).setIfInBounds (off+k) x=⟨cs.set (off+k) x⟩:=by
   apply Array.ext'
   simp
  rw[e,ih (k+1) (cs.set (off+k) x) (by simp;omega),<-pw,Zne _ _ _ _ (by omega)]
def Vd(hh:bA P μ w st)(hr:RR μ r n a.tmps){place:Nat->Option (Nat×Nat)}:∀{parts:List (Nat×Operand)} {tQ:List (Nat×Nat×Src)},AI P place parts=some tQ->
  ∀{ps:List (Nat×Nat×V)},AN r tQ=some ps->∀{cs:List V} {Ed:List Value},bb μ cs Ed->∀{l:List V},AM cs ps=some l->
  ∃l',Instr.fill place ⟨Ed⟩ (parts.map fun p=>(p.1,a.eval p.2))=some ⟨l'⟩/\bb μ l l':=by
 intro parts
 induction parts with
 |nil=>
  intro tQ hc ps he cs Ed lK l hl
  simp only[AI,al]at hc;subst hc
  simp only[AN,al]at he;subst he
  simp only[AM,al]at hl;subst hl
  exact⟨Ed,by simp[Instr.fill],lK⟩
 |cons p parts ih=>
  intro tQ hc ps he cs Ed lK l hl
  obtain⟨i,x⟩:=p
  simp only[AI]at hc
  split at hc
  ·rename_i o s sx l' hp hx gU
   simp only[al]at hc;subst hc
   simp only[AN]at he
   split at he
   ·rename_i u vs hu FB
    simp only[al]at he;subst he
    simp only[AM]at hl
    split at hl
    ·rename_i cM
     have O7:=cU hh hr hx hu
     have gW:=O7.cells
     have hlen:(a.eval x).cells.size=s:=by
      have:=gW.length
      rw[<-cM.1,<-this];simp
     have fe:(a.eval x).cells.toList.length=s:=by simpa using hlen
     obtain⟨l'',h1,h2⟩:=ih gU FB (lK.ad gW o) hl
     refine⟨l'',?_,h2⟩
     simp only[my,Instr.fill,hp]
     rw[ar]
     ·have e:((a.eval x).cells.zipIdx.foldl (fun (cs:Array Value) (p:Value×Nat)=>cs.setIfInBounds (o+p.2) p.1) ⟨Ed⟩)=⟨ad Ed o (a.eval x).cells.toList⟩:=by
       rw[<-Array.foldl_toList,Array.toList_zipIdx]
       have:=Yiq o (a.eval x).cells.toList 0 Ed (by rw[fe,lK.length];omega)
       simpa using this
      rw[<-h1]
      congr 1
     ·have cO:=lK.length
      simp only[hlen,ne_eq,not_true_eq_false,decide_false,Bool.false_or,decide_eq_true_eq]
      simp[cO];omega
    ·cases hl
   ·cases he
  ·cases hc
def Zyr:∀{fs:List Field} {pl:List (Nat×Nat)},Ib P fs=some pl->fs.mapM (fun f=>(P.info? f.type).map fun i=>(f.offset,i.size))=some pl:=by
 intro fs
 induction fs with
 |nil=>intro pl h;simp only[Ib,al]at h;subst h;simp
 |cons f fs ih=>
  intro pl h
  simp only[Ib]at h
  split at h
  ·rename_i s l hs hl
   simp only[al]at h;subst h
   unfold eR at hs
   simp only[jT]at hs
   obtain⟨i,hi,rfl⟩:=hs
   simp[List.mapM_cons,hi,ih hl]
  ·cases h
def Gt{t:TypeId}{z:V}(h:ql P t=some z):∃i x,P.info? t=some i/\i.zero=some x/\∀μ,VR μ z x:=by
 unfold ql at h
 split at h
 ·rename_i i hi
  split at h
  ·rename_i x hx
   exact⟨i,x,hi,hx,fun μ=>Oo μ x z h⟩
  ·cases h
 ·cases h
def Zos(hh:bA P μ w st)(hr:RR μ r n a.tmps){t:TypeId}{fs:Array Field}{pl:List (Nat×Nat)}{z:V}{parts:Array (Nat×Operand)}{tQ:List (Nat×Nat×Src)}
  (hz:ql P t=some z) (ht:P.underlying t=some (.struct fs)) (hp:Ib P fs.toList=some pl) (hc:AI P (pl[·]?) parts.toList=some tQ) (h:BV z.cells tQ call r st=some (v,aB)):
  bm P μ w st (do pure (.value (<-Instr.build t (parts.map fun (i,x)=>(i,a.eval x))))) v aB:=by
 unfold BV at h
 split at h
 ·rename_i ps tI
  split at h
  ·rename_i l hl
   simp only[al,bF]at h
   obtain⟨rfl,rfl⟩:=h
   obtain⟨i,x,hi,hx,pL⟩:=Gt hz
   obtain⟨l',h1,h2⟩:=Vd hh hr hc tI (pL μ).cells hl
   refine bm.value hh (x:=.agg ⟨l'⟩) (run_build w t _ _ ?_) ⟨l',rfl,h2⟩
   simp only[Program.built,hi,ht,hx,Zyr hp]
   rw[<-h1]
   simp
  ·cases h
 ·cases h
def Zo8(hh:bA P μ w st)(hr:RR μ r n a.tmps){t e:TypeId}{k s:Nat}{z:V}{parts:Array (Nat×Operand)}{tQ:List (Nat×Nat×Src)}
  (hz:ql P t=some z) (ht:P.underlying t=some (.array k e)) (hs:eR P e=some s) (hc:AI P (fun i=>some (i*s,s)) parts.toList=some tQ) (h:BV z.cells tQ call r st=some (v,aB)):
  bm P μ w st (do pure (.value (<-Instr.build t (parts.map fun (i,x)=>(i,a.eval x))))) v aB:=by
 unfold BV at h
 split at h
 ·rename_i ps tI
  split at h
  ·rename_i l hl
   simp only[al,bF]at h
   obtain⟨rfl,rfl⟩:=h
   obtain⟨i,x,hi,hx,pL⟩:=Gt hz
   unfold eR at hs
   simp only[jT]at hs
   obtain⟨ie,hie,rfl⟩:=hs
   obtain⟨l',h1,h2⟩:=Vd hh hr hc tI (pL μ).cells hl
   refine bm.value hh (x:=.agg ⟨l'⟩) (run_build w t _ _ ?_) ⟨l',rfl,h2⟩
   simp only[Program.built,hi,ht,hx,hie]
   rw[<-h1]
   simp
  ·cases h
 ·cases h
def K4{vs:List V}{xs:List Value}(h:bb μ vs xs)(hv:vs.all V.one=true):∀x∈xs,x.oneCell'=true:=by
 intro x hx
 obtain⟨j,hj⟩:=zb hx
 have hl:=h.length
 have Gy:j<xs.length:=(y8.1 hj).1
 have:∃u,vs[j]?=some u:=⟨vs[j]'(by omega),by simp⟩
 obtain⟨u,hu⟩:=this
 obtain⟨y,h1,h2⟩:=h.get hu
 rw[hj]at h1;cases h1
 have xO:u.one=true:=by
  rw[lA]at hv
  exact hv u (cm hu)
 have:=h2.one xO
 cases x<;>simp_all [Value.oneCell']
def bm.newRow(hh:bA P μ w st){s:Sem Value}{x:Value}{cs:List V}{xs:List Value}{e:TypeId}(hs:s.run P w=.ok x (w.alloc (.cells ⟨xs⟩ e)))
  (hc:bb μ cs xs) (h1:∀x∈xs,x.oneCell'=true) (hv:VR (fun i=>if i=st.n then some ⟨w.heap.size,0,xs.length⟩ else μ i) v x):
  bm P μ w st (do pure (.value (<-s))) v (st.alloc (.cells cs e true)):=by
 have dw:∀i l,μ i=some l->(fun i=>if i=st.n then some (⟨w.heap.size,0,xs.length⟩:L) else μ i) i=some l:=fun i l hl=>by
  have:=(hh.df i l hl).1
  simp only
  rw[ar (by omega)];exact hl
 refine⟨Next.value x,x,_,_,[],by simp[hs,Result.andThen],.inl rfl,hv,bQ.alloc hh (.cells cs e true) (.cells ⟨xs⟩ e) 0 xs.length ⟨⟨xs⟩,0,0,?_,by simp,by simp[hc.length],fun j u hu=>?_,fun j y _ hy=>?_,fun _=>⟨rfl,fun j hj=>by omega⟩⟩⟩
 ·simp
 ·obtain⟨y,hy,hr⟩:=hc.get hu
  exact⟨y,by simpa using hy,VR.mono dw u y hr⟩
 ·exact h1 y (cm (by simpa using hy))
def Yjp(hh:bA P μ w st){e:TypeId}{z:V}(hz:ql P e=some z)(f_:z.cells.all V.one=true)(h:It z.cells e call r st=some (v,aB)):
  bm P μ w st (do pure (.value (<-Instr.alloc e true (.tuple #[])))) v aB:=by
 unfold It at h
 simp only[al,bF]at h
 obtain⟨rfl,rfl⟩:=h
 obtain⟨i,x,hi,hx,pL⟩:=Gt hz
 refine bm.newRow hh (v:=.ptr st.n 0) (xs:=x.cells.toList) (x:=.pointer (some ⟨w.heap.size,0,none⟩)) ?_ (pL μ).cells (K4 (pL μ).cells f_) (by simp only[VR];exact⟨⟨w.heap.size,0,x.cells.toList.length⟩,by simp,by simp⟩)
 simp[Instr.alloc,zeroValue,typeInfo,hi,hx,newVar,Go.newRow,Result.andThen]
def Yrx(hh:bA P μ w st)(hr:RR μ r n a.tmps){e:TypeId}{x:Operand}{s:Src}(hx:bJ P x=some s)(h:FT e s call r st=some (v,aB)):
  bm P μ w st (do pure (.value (<-Instr.box e (a.eval x)))) v aB:=by
 unfold FT at h
 split at h
 ·rename_i u hu
  split at h
  ·rename_i f_
   simp only[al,bF]at h
   obtain⟨rfl,rfl⟩:=h
   have O7:=cU hh hr hx hu
   refine bm.newRow hh (v:=.ptr st.n 0) (xs:=(a.eval x).cells.toList) (x:=.pointer (some ⟨w.heap.size,0,none⟩)) ?_ O7.cells (K4 O7.cells f_) (by simp only[VR];exact⟨⟨w.heap.size,0,_⟩,by simp;rfl,by simp⟩)
   simp[Instr.box,newVar,Go.newRow,Result.andThen]
  ·cases h
 ·cases h
end
end Go.Mx
