/-The operations of M stand for the Go mod-/
import Derived.Test.YtfeehbdhikiikaaGreatDoorMxComp
import Derived.LaidEql
set_option linter.all false
set_option maxHeartbeats 2000000
namespace Go.Mx
open Go
variable{fs:Array Field}{op:BinOp}{b isS ng rw:Bool}{f:Field}{k k':IntKind}{D d h i j m m' z:Nat}{x y:Operand}{hi lo:Option Operand}{hs ls ms:Option Src}{HI LO MX:Option Value}{s:Src}{dst src ty:TypeId}{X Y:Value}
section
variable {P:Program} {μ:Mu} {w:World} {st aB:St} {r:T V} {n:Nat} {a:Act} {call:cQ} {v:V}
def PX{c:List V}{e:TypeId}(h:st.row i=some (c,e,rw)):st.h.get i=some (.cells c e rw):=by
 unfold St.row at h;split at h
 ·rename_i hg;simp only[ar,bB]at h;obtain⟨rfl,rfl,rfl⟩:=h;exact hg
 cases h
def bq.row(hh:bq P μ w st){i:Nat}{l:L}(hl:μ i=some l){c:List V}{e:TypeId}{rw:Bool}(h:st.row i=some (c,e,rw)):OM P μ w (.cells c e rw) l:=by obtain⟨o,h1,h2⟩:=hh.obj i l hl;rw[PX h,ar]at h1;subst h1;exact h2
def bq.get(hh:bq P μ w st){i:Nat}{l:L}(hl:μ i=some l){o:O}(h:st.h.get i=some o):OM P μ w o l:=by obtain⟨o',h1,h2⟩:=hh.obj i l hl;rw[h,ar]at h1;subst h1;exact h2
def Yor(hh:bq P μ w st)(hr:RR μ r n a.tmps)(hx:bJ P x=some s)(h:Jl s call r st=some (v,aB)):
  ba P μ w st (pure (.value (a.eval x))) v aB:=by
 unfold Jl at h;split at h
 ·rename_i u hu;simp only[ar,bB]at h;obtain⟨rfl,rfl⟩:=h;exact ba.OU hh (dt hh hr hx hu)
 cases h
def Yre(hh:bq P μ w st)(hr:RR μ r n a.tmps){z:Operand}{t u:Src}(hx:bJ P x=some s)(hy:bJ P y=some t)(hz:bJ P z=some u)
  (h:GC s t u call r st=some (v,aB)):
  ba P μ w st (do pure (.value (if <-asBool (a.eval x) then a.eval y else a.eval z))) v aB:=by
 unfold GC at h;split at h
 ·rename_i hs;have h1:=dt hh hr hx hs;simp only[VR]at h1;split at h
  ·rename_i v1 ht;simp only[ar,bB]at h;obtain⟨rfl,rfl⟩:=h;exact⟨_,a.eval y,w,μ,[],by simp[h1,asBool],.inl rfl,dt hh hr hy ht,bN.refl hh⟩
  cases h
 ·rename_i hs;have h1:=dt hh hr hx hs;simp only[VR]at h1;split at h
  ·rename_i v1 ht;simp only[ar,bB]at h;obtain⟨rfl,rfl⟩:=h;exact⟨_,a.eval z,w,μ,[],by simp[h1,asBool],.inl rfl,dt hh hr hz ht,bN.refl hh⟩
  cases h
 cases h
def Ysk(hh:bq P μ w st)(hr:RR μ r n a.tmps){t:TypeId}{k:Option Nat}(ha:BF P t=some k)(hx:bJ P x=some s)
  (h:Jo k s call r st=some (v,aB)):ba P μ w st (do pure (.value (<-Instr.loadAt t (a.eval x)))) v aB:=by
 unfold Jo at h;split at h
 ·rename_i i o hs;obtain⟨l,hl,he⟩:=dt hh hr hx hs;split at h
  ·rename_i c e rw aA;have AT:=hh.row hl aA;split at h
   ·rename_i u hu;simp only[ar,bB]at h;obtain⟨rfl,rfl⟩:=h;cases k with
    |none=> simp only[aS]at hu;obtain⟨y,hy,hv⟩:=AT.cell hu;exact ba.value hh (by simp[Instr.loadAt,Instr.sureAddr,he,loadVar,Zql ha,Result.andThen,hy]) hv
    |some k=>
     simp only[aS]at hu;split at hu
     ·rename_i vs I7;simp only[ar]at hu;subst hu;obtain⟨xs,h1,_,h3,_⟩:=AT.BL I7;exact ba.value hh (x:=.agg xs.toArray) (by simp[Instr.loadAt,Instr.sureAddr,he,loadVar,(Mf ha).1,(Mf ha).2,Result.andThen,h3]) ⟨xs,rfl,h1⟩
     cases hu
   cases h
  cases h
 cases h
def Ylk(hh:bq P μ w st)(hr:RR μ r n a.tmps)(hx:bJ P x=some s)(h:Jp s call r st=some (v,aB)){d:Option Tmp}{pos:String}{af:Array Edge}{g:Option (Nat×Bool)}:
  ba P μ w st (execOp a.eval ⟨d,.nilCheck x,ty,pos,af,g⟩) v aB:=by
 unfold Jp at h;split at h
 ·rename_i i o hs;simp only[ar,bB]at h;obtain⟨rfl,rfl⟩:=h;have h0:=dt hh hr hx hs;obtain⟨l,hl,he⟩:=h0;exact⟨_,_,w,μ,[],by simp[execOp,he],.inl rfl,⟨l,hl,rfl⟩,bN.refl hh⟩
 ·rename_i f b c hs;simp only[ar,bB]at h;obtain⟨rfl,rfl⟩:=h;obtain⟨a',c',he,h1,h2⟩:=dt hh hr hx hs;exact⟨_,_,w,μ,[],by simp[execOp,he],.inl rfl,⟨a',c',rfl,h1,h2⟩,bN.refl hh⟩
 cases h
def Ymp(hh:bq P μ w st)(hr:RR μ r n a.tmps){t:TypeId}{k:Nat}(ht:P.underlying t=some (.struct fs))(hf:fs[i]?=some f)
  (hk:fQ P f.type=some (k+1)) (hx:bJ P x=some s) (h:Jv f.offset s call r st=some (v,aB)):
  ba P μ w st (do pure (.value (<-Instr.fieldAt t (a.eval x) i))) v aB:=by
 unfold Jv at h;split at h
 ·rename_i j o hs;simp only[ar,bB]at h;obtain⟨rfl,rfl⟩:=h;obtain⟨l,hl,he⟩:=dt hh hr hx hs;refine ba.value hh (x:=.pointer (some ⟨l.b,l.d+(o+f.offset),none⟩)) ?_ ⟨l,hl,rfl⟩;simp[Instr.fieldAt,run_underlying ht,hf,Instr.sureAddr,he,fieldPlace,Ac hk,Result.andThen,yW,pE]
 cases h
def Yyl(hh:bq P μ w st)(hr:RR μ r n a.tmps){t:TypeId}{k:Option Nat}(ht:P.underlying t=some (.struct fs))(hf:fs[i]?=some f)
  (hk:BF P f.type=some k) (hx:bJ P x=some s) (h:Jw f.offset k s call r st=some (v,aB)):
  ba P μ w st (do pure (.value (<-Instr.field t (a.eval x) i))) v aB:=by
 unfold Jw at h;split at h
 ·rename_i cs hs;obtain⟨xs,he,rU⟩:=dt hh hr hx hs;split at h
  ·rename_i u hu;simp only[ar,bB]at h;obtain⟨rfl,rfl⟩:=h;obtain⟨y,hy,hv⟩:=TQ (P:=P) (w:=w) rU hk hu;exact ba.value hh (by simp[Instr.field,run_underlying ht,hf,he,asAgg,hy]) hv
  cases h
 cases h
def Zx8(hh:bq P μ w st)(hr:RR μ r n a.tmps){t e:TypeId}{k:Nat}{i:Operand}{q:Src}(ht:P.underlying t=some (.array k e))(hz:fQ P e=some z)
  (hx:bJ P x=some s) (hi:bJ P i=some q) (h:EE k z s q call r st=some (v,aB)):
  ba P μ w st (do pure (.value (<-Instr.indexAt t (a.eval x) (a.eval i)))) v aB:=by
 unfold EE at h;split at h
 ·rename_i b o kd j hs hq;split at h
  ·rename_i hj;simp only[ar,bB]at h;obtain⟨rfl,rfl⟩:=h;obtain⟨l,hl,he⟩:=dt hh hr hx hs;have kl:=dt hh hr hi hq;simp only[VR]at kl;refine ba.value hh (x:=.pointer (some ⟨l.b,l.d+(o+j.toNat*z),none⟩)) ?_ ⟨l,hl,rfl⟩;have pY:j<(k:Int):=hj.2;simp[Instr.indexAt,asIntOf,kl,run_underlying ht,Instr.sureAddr,he,hj.1,pY,Ac hz,Result.andThen,yW,pE]
  cases h
 cases h
def Ydx(hh:bq P μ w st)(hr:RR μ r n a.tmps){t e:TypeId}{i:Operand}{q:Src}(ht:P.underlying t=some (.slice e))(hz:fQ P e=some z)
  (hx:bJ P x=some s) (hi:bJ P i=some q) (h:GH z s q call r st=some (v,aB)):
  ba P μ w st (do pure (.value (<-Instr.indexAt t (a.eval x) (a.eval i)))) v aB:=by
 unfold GH at h;split at h
 ·rename_i b o len cp sz kd j hs hq;split at h
  ·rename_i hj;simp only[ar,bB]at h;obtain⟨rfl,rfl⟩:=h;obtain⟨l,c,hl,he,_⟩:=dt hh hr hx hs;have kl:=dt hh hr hi hq;simp only[VR]at kl;refine ba.value hh (x:=.pointer (some ⟨l.b,l.d+(o+j.toNat*z),none⟩)) ?_ ⟨l,hl,rfl⟩;have pY:j<(len:Int):=hj.2;simp[Instr.indexAt,asIntOf,kl,run_underlying ht,he,hj.1,pY,Ac hz,Result.andThen,yW,pE]
  cases h
 cases h
def Yw0(hh:bq P μ w st)(hr:RR μ r n a.tmps){t e:TypeId}{k:Nat}{m:Option Nat}{i:Operand}{q:Src}(ht:P.underlying t=some (.array k e))(hz:fQ P e=some z)(hm:BF P e=some m)
  (hx:bJ P x=some s) (hi:bJ P i=some q) (h:Mr k z m s q call r st=some (v,aB)):
  ba P μ w st (do pure (.value (<-Instr.index t (a.eval x) (a.eval i)))) v aB:=by
 unfold Mr at h;split at h
 ·rename_i cs kd j hs hq;split at h
  ·rename_i hj;split at h
   ·rename_i u hu;simp only[ar,bB]at h;obtain⟨rfl,rfl⟩:=h;obtain⟨xs,he,rU⟩:=dt hh hr hx hs;have kl:=dt hh hr hi hq;simp only[VR]at kl;obtain⟨y,hy,hv⟩:=TQ (P:=P) (w:=w) rU hm hu;have pY:j<(k:Int):=hj.2;exact ba.value hh (by simp[Instr.index,asIntOf,kl,run_underlying ht,he,hj.1,pY,Ac hz,Result.andThen,hy]) hv
   cases h
  cases h
 cases h
def Yhs(hh:bq P μ w st)(hr:RR μ r n a.tmps){t:TypeId}{i:Operand}{q:Src}(ht:P.underlying t=some .string)
  (hx:bJ P x=some s) (hi:bJ P i=some q) (h:GI s q call r st=some (v,aB)):
  ba P μ w st (do pure (.value (<-Instr.index t (a.eval x) (a.eval i)))) v aB:=by
 unfold GI at h;split at h
 ·rename_i cs kd j hs hq;split at h
  ·rename_i hj;split at h
   ·rename_i u hu;simp only[ar,bB]at h;obtain⟨rfl,rfl⟩:=h;have he:=dt hh hr hx hs;have kl:=dt hh hr hi hq;simp only[VR]at kl he;have hb:(⟨cs.toArray⟩:ByteArray)[j.toNat]?=some u:=by obtain⟨aD,de⟩:=yL.1 hu;rw[getElem?_pos (⟨cs.toArray⟩:ByteArray) j.toNat (by show j.toNat<cs.toArray.size;simpa using aD)];simp only[ar];exact de
    exact ba.value hh (x:=.int .u8 u.toNat) (by simp[Instr.index,asIntOf,kl,run_underlying ht,he,hj,hb]) (by simp[VR])
   cases h
  cases h
 cases h
def Ydz(hh:bq P μ w st)(hr:RR μ r n a.tmps)(hx:bJ P x=some s)(h:JA s i call r st=some (v,aB)):
  ba P μ w st (do pure (.value (<-Instr.extract (a.eval x) i))) v aB:=by
 unfold JA at h;split at h
 ·rename_i vs hs;split at h
  ·rename_i u hu;simp only[ar,bB]at h;obtain⟨rfl,rfl⟩:=h;obtain⟨xs,he,rU⟩:=dt hh hr hx hs;obtain⟨y,hy,hv⟩:=rU.get hu;exact ba.value hh (by simp[Instr.extract,he,hy]) hv
  cases h
 cases h
def Yc5(hh:bq P μ w st)(hr:RR μ r n a.tmps){t:TypeId}{d:TypeDesc}(ht:P.underlying t=some d)(hd:∀m,d≠.interface m)(hx:bJ P x=some s)
  (h:Mp t s call r st=some (v,aB)):ba P μ w st (do pure (.value (<-Instr.makeInterface t (a.eval x)))) v aB:=by
 unfold Mp at h;split at h
 ·rename_i u hu;simp only[ar,bB]at h;obtain⟨rfl,rfl⟩:=h;refine ba.value hh (x:=.iface t (a.eval x)) ?_ ⟨_,rfl,dt hh hr hx hu⟩;cases d<;>simp[Instr.makeInterface,run_underlying ht,Result.andThen]at hd ⊢
 cases h
def Yg0(hh:bq P μ w st)(hr:RR μ r n a.tmps){f:FuncId}{xs ys:Array Operand}{ss ts:List Src}(hx:xp P xs.toList=some ss)(hy:xp P ys.toList=some ts)
  (h:Ju f ss ts call r st=some (v,aB)):ba P μ w st (do pure (.value (<-Instr.makeFunc (.func f) (xs.map a.eval) (ys.map a.eval)))) v aB:=by
 unfold Ju at h;split at h
 ·rename_i us ws h1 h2;simp only[ar,bB]at h;obtain⟨rfl,rfl⟩:=h;refine ba.value hh (x:=.func (.func f) (xs.map a.eval) (ys.map a.eval)) (by simp[Instr.makeFunc]) ⟨xs.toList.map a.eval,ys.toList.map a.eval,?_,Ja hh hr hx h1,Ja hh hr hy h2⟩;congr 1<;>apply Array.ext'<;>simp
 cases h
def Yeb(hh:bq P μ w st)(hr:RR μ r n a.tmps)(hs:∃q,P.underlying src=some (.int q))(hd:P.underlying dst=some (.int k))(hx:bJ P x=some s)
  (h:Js k s call r st=some (v,aB)):ba P μ w st (do pure (.value (<-convert src dst (a.eval x)))) v aB:=by
 unfold Js at h;split at h
 ·rename_i q m hm;simp only[ar,bB]at h;obtain⟨rfl,rfl⟩:=h;obtain⟨q',hs⟩:=hs;have he:=dt hh hr hx hm;simp only[VR]at he;exact ba.value hh (x:=.int k (k.wrap m)) (by simp[convert,run_underlying hs,run_underlying hd,he,Conv.intToInt]) (by simp[VR,BP])
 cases h
def Yu9(hh:bq P μ w st)(hr:RR μ r n a.tmps)(hs:P.underlying src=some .string)(hd:P.underlying dst=some .string)(hx:bJ P x=some s)
  (h:Mo s call r st=some (v,aB)):ba P μ w st (do pure (.value (<-convert src dst (a.eval x)))) v aB:=by
 unfold Mo at h;split at h
 ·rename_i m hm;simp only[ar,bB]at h;obtain⟨rfl,rfl⟩:=h;have he:=dt hh hr hx hm;simp only[VR]at he;exact ba.value hh (x:=.string ⟨m.toArray⟩) (by simp[convert,run_underlying hs,run_underlying hd,he]) (by simp[VR])
 cases h
end
section
variable {P:Program} {μ:Mu} {w:World} {st aB:St} {r:T V} {n:Nat} {a:Act} {call:cQ} {v:V}
def Ydl{x y:Int}{t:TypeId}(h:tF op k x y=some v):
  ∃z,(binOp op t (.int k x) (.int k y)).run P w=.ok z w/\VR μ v z:=by
 cases op<;>simp only[tF,ar,reduceCtorEq]at h;case add=>subst h;exact⟨_,by simp[binOp,Op.intArith];rfl,by simp[VR,BP]⟩
 case sub=>subst h;exact⟨_,by simp[binOp,Op.intArith];rfl,by simp[VR,BP]⟩
 case mul=>subst h;exact⟨_,by simp[binOp,Op.intArith];rfl,by simp[VR,BP]⟩
 case quo=>
  split at h
  ·cases h
  ·rename_i h0;simp only[ar]at h;subst h;exact⟨_,by simp[binOp,Op.intDiv,h0];rfl,by simp[VR,BP]⟩
 case rem=>
  split at h
  ·cases h
  ·rename_i h0;simp only[ar]at h;subst h;exact⟨_,by simp[binOp,Op.intDiv,h0];rfl,by simp[VR]⟩
 case and=>subst h;exact⟨_,by simp[binOp,Op.intBits];rfl,by simp[VR]⟩
 case or=>subst h;exact⟨_,by simp[binOp,Op.intBits];rfl,by simp[VR]⟩
 case xor=>subst h;exact⟨_,by simp[binOp,Op.intBits];rfl,by simp[VR]⟩
 case andNot=>subst h;exact⟨_,by simp[binOp,Op.intBits];rfl,by simp[VR]⟩
 case eql=>subst h;exact⟨_,by simp[binOp,Op.intCmp];rfl,by simp[VR]⟩
 case neq=>subst h;exact⟨_,by simp[binOp,Op.intCmp];rfl,by simp[VR]⟩
 case lss=>subst h;exact⟨_,by simp[binOp,Op.intCmp];rfl,by simp[VR]⟩
 case leq=>subst h;exact⟨_,by simp[binOp,Op.intCmp];rfl,by simp[VR]⟩
 case gtr=>subst h;exact⟨_,by simp[binOp,Op.intCmp];rfl,by simp[VR]⟩
 case geq=>subst h;exact⟨_,by simp[binOp,Op.intCmp];rfl,by simp[VR]⟩
def Zra{x y:Int}{t:TypeId}(hs:op=.shl\/op=.shr)(h:AM op k x y=some v):
  ∃z,(binOp op t (.int k x) (.int k' y)).run P w=.ok z w/\VR μ v z:=by
 unfold AM at h;split at h
 ·cases h
 rename_i h0;rcases hs with rfl|rfl<;>simp only[ar]at h<;>subst h
 ·exact⟨_,by simp[binOp,Op.shift,h0];rfl,by simp[VR]⟩
 exact⟨_,by simp[binOp,Op.shift,h0];rfl,by simp[VR]⟩
def UD(l:List UInt8):(⟨l.toArray⟩:ByteArray).toList=l:=by rw[ByteArray.toList_eq]
def Yb2{x y:List UInt8}{t:TypeId}(h:jJ op x y=some v):
  ∃z,(binOp op t (.string ⟨x.toArray⟩) (.string ⟨y.toArray⟩)).run P w=.ok z w/\VR μ v z:=by
 have e1:=UD x;have e2:=UD y;cases op<;>simp only[jJ,ar,reduceCtorEq]at h;case add=>
  split at h
  ·cases h
  ·rename_i hle
   simp only[ar]at h;subst h
   refine⟨.string ⟨(x++y).toArray⟩,?_,by simp[VR]⟩
   have mY:((⟨x.toArray⟩:ByteArray).size+(⟨y.toArray⟩:ByteArray).size)=x.length+y.length:=by
    show x.toArray.size+y.toArray.size=_
    simp
   have IZ:(⟨x.toArray⟩:ByteArray)++(⟨y.toArray⟩:ByteArray)=⟨(x++y).toArray⟩:=by
    apply ByteArray.ext
    simp[ByteArray.data_append]
   simp only[binOp,Op.stringOp,mY,ak hle,IZ]
   simp
 case eql=>subst h;exact⟨_,by simp[binOp,Op.stringOp,e1,e2];rfl,by simp[VR]⟩
 case neq=>subst h;exact⟨_,by simp[binOp,Op.stringOp,e1,e2];rfl,by simp[VR]⟩
 case lss=>subst h;exact⟨_,by simp[binOp,Op.stringOp,e1,e2];rfl,by simp[VR]⟩
 case leq=>subst h;exact⟨_,by simp[binOp,Op.stringOp,e1,e2];rfl,by simp[VR]⟩
 case gtr=>subst h;exact⟨_,by simp[binOp,Op.stringOp,e1,e2];rfl,by simp[VR]⟩
 case geq=>subst h;exact⟨_,by simp[binOp,Op.stringOp,e1,e2];rfl,by simp[VR]⟩
def Yys(hh:bq P μ w st)(hr:RR μ r n a.tmps){op:UnOp}(hx:bJ P x=some s)(h:Jr op s call r st=some (v,aB)):
  ba P μ w st (do pure (.value (<-Op.unary op (a.eval x)))) v aB:=by
 unfold Jr at h;split at h
 ·rename_i u hu;split at h
  ·rename_i z hz;simp only[ar,bB]at h;obtain⟨rfl,rfl⟩:=h;have he:=dt hh hr hx hu;unfold unV at hz;split at hz
   ·simp only[VR]at he;simp only[ar]at hz;subst hz;exact ba.value hh (x:=_) (by simp[Op.unary,he,Op.intArith];rfl) (by simp[VR])
   ·simp only[VR]at he;simp only[ar]at hz;subst hz;exact ba.value hh (x:=_) (by simp[Op.unary,he,Op.intBits];rfl) (by simp[VR])
   ·simp only[VR]at he;simp only[ar]at hz;subst hz;exact ba.value hh (x:=_) (by simp[Op.unary,he];rfl) (by simp[VR])
   cases hz
  cases h
 cases h
def Yd3{k:PK}{t:TypeId}{d:TypeDesc}(ht:P.underlying t=some d)(UE:Yrb P d=true)(hk:TK d=some k)
  {x y:V} {b:Bool} (h:bz ng k x y=some b) {X Y:Value} (hX:VR μ x X) (hY:VR μ y Y):(Op.equalIn (D+1) t X Y).run P w=.ok b w:=by
 unfold bz at h;split at h;case h_25=>cases h
 all_goals (cases d<;>simp only[TK,reduceCtorEq,ar]at hk)
 all_goals simp only[VR]at hX hY
 case h_7.pointer e=>
  split at h
  ·rename_i he
   obtain⟨rfl,rfl⟩:=he
   obtain⟨l,hl,rfl⟩:=hX
   obtain⟨l',iO,rfl⟩:=hY
   rw[hl]at iO
   simp only[ar]at iO h
   subst iO h
   simp only[Yrb]at UE
   obtain⟨j,hj⟩:=Option.isSome_iff_exists.1 UE
   simp[Op.equalIn,run_underlying ht,sizeOf,typeInfo,hj,run_sameAddr_same]
  ·cases h
 case h_2.int=>
  split at h
  ·rename_i e;subst e;subst hX hY;simp only[ar]at h;subst h;simp[Op.equalIn,run_underlying ht]
  ·cases h
 case h_3.string=>
  subst hX hY;simp only[ar]at h;subst h
  rw[run_equalIn_string w D t _ _ ht,UD,UD]
 case h_22.interface=>
  split at h
  ·subst hX hY;simp only[ar]at h;subst h;simp[Op.equalIn,run_underlying ht]
  ·cases h
 all_goals (simp only[ar]at h;subst h)
 all_goals first
  |(subst hX;subst hY;simp[Op.equalIn,run_underlying ht];done)
  |(subst hX;obtain⟨_,_,rfl⟩:=hY;simp[Op.equalIn,run_underlying ht];done)
  |(subst hY;obtain⟨_,_,rfl⟩:=hX;simp[Op.equalIn,run_underlying ht];done)
  |(subst hX;obtain⟨_,_,_,rfl,_⟩:=hY;simp[Op.equalIn,run_underlying ht];done)
  |(subst hY;obtain⟨_,_,_,rfl,_⟩:=hX;simp[Op.equalIn,run_underlying ht];done)
  |(subst hX;obtain⟨_,_,rfl,_⟩:=hY;simp[Op.equalIn,run_underlying ht];done)
  |(subst hY;obtain⟨_,_,rfl,_⟩:=hX;simp[Op.equalIn,run_underlying ht];done)
  |(subst hX;obtain⟨_,rfl,_⟩:=hY;simp[Op.equalIn,run_underlying ht];done)
  |(subst hY;obtain⟨_,rfl,_⟩:=hX;simp[Op.equalIn,run_underlying ht];done)
def Zyg(ih:∀{ng:Bool} {t:TypeId} {q:uL},yR P d t=some q->∀{x y:V} {b:Bool},yZ ng q x y=some b->∀{X Y:Value},VR μ x X->VR μ y Y->∀D,d<=D->(Op.equalIn D t X Y).run P w=.ok b w)
  {xs ys:List V} {XS YS:List Value} (hX:aV μ xs XS) (hY:aV μ ys YS) (D:Nat) (hD:d<=D):
  ∀{fs:List Field} {l:List (Nat×Option Nat×uL)},LZ P (yR P d) fs=some l->∀{b:Bool},OY l xs ys=some b->(Op.eqFields D ⟨XS⟩ ⟨YS⟩ fs).run P w=.ok b w:=by
 intro fs;induction fs with
 |nil=> intro l hl b h;simp only[LZ,ar]at hl;subst hl;simp only[OY,ar]at h;subst h;simp[Op.eqFields]
 |cons f fs ihf=>
  intro l hl b h;simp only[LZ]at hl;split at hl
  ·rename_i hn;simp only[Op.eqFields,hn,ne_eq,not_true_eq_false,if_false];exact ihf hl h
  rename_i hn;split at hl
  ·rename_i k q l' hk hq iO;simp only[ar]at hl;subst hl;simp only[OY]at h;split at h
   ·rename_i x y hx hy;obtain⟨X,h1,h2⟩:=TQ (P:=P) (w:=w) hX hk hx;obtain⟨Y,h3,h4⟩:=TQ (P:=P) (w:=w) hY hk hy;split at h
    ·rename_i he;have e:=ih hq he h2 h4 D hD;simp only[Op.eqFields,ne_eq,hn,not_false_eq_true,if_true,Sem.run_bind,h1,h3,e,Result.andThen,Bool.not_true,iE,if_false];exact ihf iO h
    ·rename_i he;simp only[ar]at h;subst h;have e:=ih hq he h2 h4 D hD;simp[Op.eqFields,hn,h1,h3,e,Result.andThen]
    cases h
   cases h
  cases hl
def Ytc:∀(d:Nat) {ng:Bool} {t:TypeId} {q:uL},yR P d t=some q->∀{x y:V} {b:Bool},yZ ng q x y=some b->∀{X Y:Value},VR μ x X->VR μ y Y->∀D,d<=D->(Op.equalIn D t X Y).run P w=.ok b w:=by
 intro d;induction d with
 |zero=>intro ng t q hq;simp[yR]at hq
 |succ d ih=>
  intro ng t q hq x y b h X Y hX hY D hD;obtain⟨D,rfl⟩:∃D',D=D'+1:=⟨D-1,by omega⟩;simp only[yR]at hq;split at hq
  ·rename_i fs ht;split at hq
   ·cases hq
   rename_i fF;split at hq
   ·rename_i l hl;simp only[ar]at hq;subst hq;cases x<;>cases y<;>simp only[yZ,reduceCtorEq]at h;obtain⟨xs,rfl,rU⟩:=hX;obtain⟨ys,rfl,PU⟩:=hY;have hf:P.fieldsOf t=fs:=by simp[Program.fieldsOf,ht]
    rw[run_equalIn_struct w D t _ _ (by rw[hf];exact ht) (by simpa using fF),hf];exact Zyg ih rU PU D (by omega) hl h
   cases hq
  ·rename_i dd hns ht;split at hq
   ·rename_i k hk;split at hq
    ·rename_i UE;simp only[ar]at hq;subst hq;simp only[yZ]at h;exact Yd3 ht UE hk h hX hY
    cases hq
   cases hq
  cases hq
def UF{t:TypeId}(h1:X=.nilIface->Y=.nilIface->I1 x=true\/I1 y=true)
  (h2:∀a b,X=.agg a->Y=.agg b->P.eqGuardType P.depth t=false):(eqGuard op t x y X Y).run P w=.ok () w:=by
 by_cases hn:X=.nilIface/\Y=.nilIface
 ·obtain⟨rfl,rfl⟩:=hn;have h:=h1 rfl rfl;cases op<;>cases x<;>cases y<;>simp_all [eqGuard,I1]
 by_cases ha:(∃a,X=.agg a)/\∃b,Y=.agg b
 ·obtain⟨⟨a,rfl⟩,b,rfl⟩:=ha;have h:=h2 a b rfl rfl;cases op<;>simp[eqGuard,run_program,h]
 cases op<;>simp[eqGuard]<;>split<;>simp_all
end
section
variable {P:Program} {μ:Mu} {w:World} {st aB:St} {r:T V} {n:Nat} {a:Act} {call:cQ} {v:V}
def VR.zj{x:V}{m:Int}(h:VR μ x (.int k m)):x=.int k m:=by
 cases x<;>simp only[VR]at h<;>first
  |(cases h;rfl)
  |(cases h;done)
  |(obtain⟨_,_,h⟩:=h;cases h;done)
  |(obtain⟨_,_,_,h,_⟩:=h;cases h;done)
  |(obtain⟨_,_,h,_⟩:=h;cases h;done)
  |(obtain⟨_,h,_⟩:=h;cases h;done)
def VR.sF{x:V}{k:FloatKind}(h:VR μ x (.float k m)):x=.xn k m:=by
 cases x<;>simp only[VR]at h<;>first
  |(cases h;rfl)
  |(cases h;done)
  |(obtain⟨_,_,h⟩:=h;cases h;done)
  |(obtain⟨_,_,_,h,_⟩:=h;cases h;done)
  |(obtain⟨_,_,h,_⟩:=h;cases h;done)
  |(obtain⟨_,h,_⟩:=h;cases h;done)
def VR.vA{x:V}{k:FloatKind}(h:VR μ x (.complex k m m')):False:=by
 cases x<;>simp only[VR]at h<;>first
  |(cases h;done)
  |(obtain⟨_,_,h⟩:=h;cases h;done)
  |(obtain⟨_,_,_,h,_⟩:=h;cases h;done)
  |(obtain⟨_,_,h,_⟩:=h;cases h;done)
  |(obtain⟨_,h,_⟩:=h;cases h;done)
def VR.qg{x:V}{s:ByteArray}(h:VR μ x (.string s)):∃l,x=.str l:=by
 cases x<;>simp only[VR]at h<;>first
  |exact⟨_,rfl⟩
  |(cases h;done)
  |(obtain⟨_,_,h⟩:=h;cases h;done)
  |(obtain⟨_,_,_,h,_⟩:=h;cases h;done)
  |(obtain⟨_,_,h,_⟩:=h;cases h;done)
  |(obtain⟨_,h,_⟩:=h;cases h;done)
def VR.mq{x:V}(h:VR μ x .nilIface):x=.aZ:=by
 cases x<;>simp only[VR]at h<;>first
  |rfl
  |(cases h;done)
  |(obtain⟨_,_,h⟩:=h;cases h;done)
  |(obtain⟨_,_,_,h,_⟩:=h;cases h;done)
  |(obtain⟨_,_,h,_⟩:=h;cases h;done)
  |(obtain⟨_,h,_⟩:=h;cases h;done)
def VR.zk{x:V}{s:Array Value}(h:VR μ x (.agg s)):∃l,x=.agg l:=by
 cases x<;>simp only[VR]at h<;>first
  |exact⟨_,rfl⟩
  |(cases h;done)
  |(obtain⟨_,_,h⟩:=h;cases h;done)
  |(obtain⟨_,_,_,h,_⟩:=h;cases h;done)
  |(obtain⟨_,_,h,_⟩:=h;cases h;done)
  |(obtain⟨_,h,_⟩:=h;cases h;done)
def Zla{t:TypeId}(hi:∀k m k' m',¬(X=.int k m/\Y=.int k' m'))(hs:∀s s',¬(X=.string s/\Y=.string s'))
  (hf:∀k m k' m',¬(X=.float k m/\Y=.float k' m')) (hc:∀k m p k' m' p',¬(X=.complex k m p/\Y=.complex k' m' p')) (h:(Op.equal t X Y).run P w=.ok b w):
  (binOp .eql t X Y).run P w=.ok (.bool b) w/\(binOp .neq t X Y).run P w=.ok (.bool (!b)) w:=by
 constructor
 ·unfold binOp;split<;>first
   |(exact absurd ⟨rfl,rfl⟩ (hi _ _ _ _))
   |(exact absurd ⟨rfl,rfl⟩ (hs _ _))
   |(exact absurd ⟨rfl,rfl⟩ (hf _ _ _ _))
   |(exact absurd ⟨rfl,rfl⟩ (hc _ _ _ _ _ _))
   |(simp[h];done)
   |simp_all
 unfold binOp;split<;>first
  |(exact absurd ⟨rfl,rfl⟩ (hi _ _ _ _))
  |(exact absurd ⟨rfl,rfl⟩ (hs _ _))
  |(exact absurd ⟨rfl,rfl⟩ (hf _ _ _ _))
  |(exact absurd ⟨rfl,rfl⟩ (hc _ _ _ _ _ _))
  |(simp[h];done)
  |simp_all
def Yu5(P:Program)(op:BinOp)(t:TypeId)(x y:Operand)(q:uL)(ng:Bool):Prop:=
 (op=.eql\/op=.neq)->yR P 40 t=some q/\(match P.underlying t with|some (.struct _)|some (.array _ _)=>P.eqGuardType P.depth t|_=>false)=false/\ng=(I1 x||I1 y)
def Hq{t:TypeId}{z:Value}(hg:(eqGuard op t x y X Y).run P w=.ok () w)(hb:(binOp op t X Y).run P w=.ok z w):
  (do eqGuard op t x y X Y;binOp op t X Y:Sem Value).run P w=.ok z w:=by simp[hg,hb,Result.andThen]
def Zxm{t:TypeId}{l:List (Nat×Option Nat×uL)}(h:yR P d t=some (.node l)):∃fs,P.underlying t=some (.struct fs):=by
 cases d with
 |zero=>simp[yR]at h
 |succ d=>
  simp only[yR]at h;split at h
  ·rename_i fs ht;exact⟨fs,ht⟩
  ·split at h
   ·split at h<;>simp at h
   cases h
  cases h
def Znj{t:TypeId}{kd:ChanDir}{e:TypeId}{x y:Option Nat}(D:Nat)(ht:P.underlying t=some (.chan kd e)):(Op.equalIn (D+1) t (.chan x) (.chan y)).run P w=.ok (x==y) w:=by simp[Op.equalIn,run_underlying ht]
def Yi6{t:TypeId}(hq:yR P d t=some (.dJ .chan)):∃k e,P.underlying t=some (.chan k e):=by
 cases d with
 |zero=>simp[yR]at hq
 |succ d=>
  simp only[yR]at hq;split at hq
  ·split at hq
   ·cases hq
   split at hq<;>simp at hq
  ·rename_i dd _ ht;split at hq
   ·rename_i k hk;split at hq
    ·simp only[ar,uL.dJ.injEq]at hq;subst hq;cases dd<;>simp[TK]at hk;exact⟨_,_,ht⟩
    cases hq
   cases hq
  cases hq
def Ynr(hh:bq P μ w st){t:TypeId}{q:uL}(hc:Yu5 P op t x y q ng)(h1:VR μ (.chan i) X)(h2:VR μ (.chan j) Y)
  (h:TZ op q st i j=some (v,aB)):
  ba P μ w st (do pure (.value (<-(do eqGuard op t x y X Y;binOp op t X Y:Sem Value)))) v aB:=by
 obtain⟨l,hl,rfl⟩:=h1;obtain⟨l',iO,rfl⟩:=h2;have hg:(eqGuard op t x y (.chan (some l.b)) (.chan (some l'.b))).run P w=.ok () w:=UF (by intro h;cases h) (by intro _ _ h;cases h);have zax:∀c b c' b',st.h.get i=some (.chan c b)->st.h.get j=some (.chan c' b')->(some l.b==some l'.b)=(i==j):=by
  intro c b c' b' g1 g2;by_cases e:i=j
  ·subst e;rw[hl]at iO;cases iO;simp
  have:=hh.inj i j l l' _ _ hl iO e g1 g2 rfl rfl;have e2:(i==j)=false:=by simpa using e
  rw[e2];simpa using this
 have main:(op=.eql\/op=.neq)->q=.dJ .chan->∀c b c' b',st.h.get i=some (.chan c b)->st.h.get j=some (.chan c' b')->
   (binOp .eql t (.chan (some l.b)) (.chan (some l'.b))).run P w=.ok (.bool (i==j)) w/\(binOp .neq t (.chan (some l.b)) (.chan (some l'.b))).run P w=.ok (.bool (!(i==j))) w:=by
  intro P0 hq c b c' b' g1 g2
  subst hq
  obtain⟨kd,e,ht⟩:=Yi6 (hc P0).1
  refine Zla (fun _ _ _ _ e=>by cases e.1) (fun _ _ e=>by cases e.1) (fun _ _ _ _ e=>by cases e.1) (fun _ _ _ _ _ _ e=>by cases e.1) ?_
  have:=Znj (P:=P) (w:=w) (x:=some l.b) (y:=some l'.b) 9999 ht
  rw[zax _ _ _ _ g1 g2]at this
  exact this
 unfold TZ at h;split at h
 ·rename_i g1 g2;simp only[ar,bB]at h;obtain⟨rfl,rfl⟩:=h;exact ba.value hh (Hq hg (main (.inl rfl) rfl _ _ _ _ g1 g2).1) (by simp[VR])
 ·rename_i g1 g2;simp only[ar,bB]at h;obtain⟨rfl,rfl⟩:=h;exact ba.value hh (Hq hg (main (.inr rfl) rfl _ _ _ _ g1 g2).2) (by simp[VR])
 cases h
def Yx2(hh:bq P μ w st)(hr:RR μ r n a.tmps){t:TypeId}{u:Src}{q:uL}(hx:bJ P x=some s)(hy:bJ P y=some u)
  (hc:Yu5 P op t x y q ng) (h:Jq op q ng s u call r st=some (v,aB)):
  ba P μ w st (do pure (.value (<-(do eqGuard op t x y (a.eval x) (a.eval y);binOp op t (a.eval x) (a.eval y):Sem Value)))) v aB:=by
 unfold Jq at h;split at h
 ·rename_i i j hs hu;exact Ynr hh hc (dt hh hr hx hs) (dt hh hr hy hu) h
 ·rename_i x1 y1 _ hs hu;have h1:=dt hh hr hx hs;have h2:=dt hh hr hy hu;generalize a.eval x=X at*;generalize a.eval y=Y at*;split at h
  ·rename_i z hz;simp only[ar,bB]at h;obtain⟨rfl,rfl⟩:=h;unfold Xae at hz;split at hz
   ·-- two integers
    rename_i k p k' p' _;simp only[VR]at h1 h2;subst h1 h2;have hg:(eqGuard op t x y (.int k p) (.int k' p')).run P w=.ok () w:=UF (by intro h;cases h) (by intro _ _ h;cases h);split at hz
    ·obtain⟨y',h3,h4⟩:=Zra (P:=P) (μ:=μ) (w:=w) (t:=t) (k':=k') (.inl rfl) hz;exact ba.value hh (Hq hg h3) h4
    ·obtain⟨y',h3,h4⟩:=Zra (P:=P) (μ:=μ) (w:=w) (t:=t) (k':=k') (.inr rfl) hz;exact ba.value hh (Hq hg h3) h4
    split at hz
    ·rename_i e;subst e;obtain⟨y',h3,h4⟩:=Ydl (P:=P) (μ:=μ) (w:=w) (t:=t) hz;exact ba.value hh (Hq hg h3) h4
    cases hz
   ·rename_i p p' _;simp only[VR]at h1 h2;subst h1 h2;have hg:(eqGuard op t x y (.string ⟨p.toArray⟩) (.string ⟨p'.toArray⟩)).run P w=.ok () w:=UF (by intro h;cases h) (by intro _ _ h;cases h);obtain⟨y',h3,h4⟩:=Yb2 (P:=P) (μ:=μ) (w:=w) (t:=t) hz;exact ba.value hh (Hq hg h3) h4
   rename_i hni hns;have main:∀b,yZ ng q x1 y1=some b->(op=.eql\/op=.neq)->
     (eqGuard op t x y X Y).run P w=.ok () w/\(binOp .eql t X Y).run P w=.ok (.bool b) w/\(binOp .neq t X Y).run P w=.ok (.bool (!b)) w:=by
    intro b hb P0
    obtain⟨hq,MP,P1⟩:=hc P0
    have he:=Ytc (w:=w) 40 hq hb h1 h2 10000 (by omega)
    refine⟨UF (fun e1 e2=>?_) (fun A B e1 e2=>?_),Zla (fun k m k' m' e=>?_) (fun p p' e=>?_) (fun k m k' m' e=>?_) (fun k m m' k' m1 m2 e=>?_) he⟩
    ·subst e1 e2
     have:=h1.mq;subst this
     have:=h2.mq;subst this
     cases q with
     |dJ k=>cases k<;>simp[yZ,bz]at hb;rw[P1]at hb;simpa using hb.1
     |node l=>simp[yZ]at hb
    ·subst e1 e2
     obtain⟨l1,rfl⟩:=h1.zk
     obtain⟨l2,rfl⟩:=h2.zk
     cases q with
     |dJ k=>cases k<;>simp[yZ,bz]at hb
     |node l=>
      obtain⟨fs,xf⟩:=Zxm hq
      simpa[xf]using MP
    ·obtain⟨rfl,rfl⟩:=e
     exact hni _ _ _ _ h1.zj h2.zj
    ·obtain⟨rfl,rfl⟩:=e
     obtain⟨l1,e1⟩:=h1.qg
     obtain⟨l2,e2⟩:=h2.qg
     exact hns _ _ e1 e2
    ·obtain⟨rfl,rfl⟩:=e
     have e1:=h1.sF;subst e1
     have e2:=h2.sF;subst e2
     cases q with
     |dJ k=>cases k<;>simp[yZ,bz]at hb
     |node l=>simp[yZ]at hb
    ·obtain⟨rfl,rfl⟩:=e
     exact h1.vA
   split at hz
   ·split at hz
    ·rename_i b hb;simp only[ar]at hz;subst hz;obtain⟨g1,g2,_⟩:=main b hb (.inl rfl);exact ba.value hh (Hq g1 g2) (by simp[VR])
    cases hz
   ·split at hz
    ·rename_i b hb;simp only[ar]at hz;subst hz;obtain⟨g1,_,g2⟩:=main b hb (.inr rfl);exact ba.value hh (Hq g1 g2) (by simp[VR])
    cases hz
   cases hz
  cases h
 cases h
end
section
variable {P:Program} {μ:Mu} {w:World} {st aB:St} {r:T V} {n:Nat} {a:Act} {call:cQ} {v:V}
def JY(μ:Mu):Option V->Option Value->Prop
 |none,none=>True
 |some v,some x=>VR μ v x
 |_,_=>False
def vC(hh:bq P μ w st)(hr:RR μ r n a.tmps){x:Option Operand}{s:Option Src}(hc:wi P x=some s){v:Option V}(hv:aC r s=some v):JY μ v (x.map a.eval):=by
 rcases Yh4 hh hr hc hv with⟨rfl,rfl⟩|⟨v',x',rfl,rfl,h⟩
 ·trivial
 exact h
def JY.isNone{v:Option V}{x:Option Value}(h:JY μ v x):x.isNone=v.isNone:=by cases v<;>cases x<;>simp_all [JY]
def P2{u:V}{y k:Nat}{code:BoundsCode}(hu:VR μ u X)(h:nh u y=some m)(hk:y<=k):(Instr.sliceBound X k code).run P w=.ok m w/\m<=y:=by
 unfold nh at h;split at h
 ·rename_i q z;split at h
  ·rename_i hz;simp only[ar]at h;subst h;simp only[VR]at hu;subst hu;have h2:z<=(k:Int):=by omega
   exact⟨by simp[Instr.sliceBound,asIntOf,hz.1,h2],by omega⟩
  cases h
 cases h
def JZ{len y k:Nat}{lo hi mx:Option V}(h_:JY μ lo LO)(iY:JY μ hi HI)(dq:JY μ mx MX)(hy:y<=k){l:Nat}
  (hm:(mx=none/\m=k)\/(dX mx y 0=some m/\mx.isSome=true/\hi.isSome=true)) (hh:dX hi (if mx=none then y else m) len=some h) (hl:dX lo h 0=some l):
  (Instr.sliceBounds isS len k LO HI MX).run P w=.ok (l,h,m) w:=by
 cases mx with
 |none=>
  cases MX with
  |some _=>exact dq.elim
  |none=>
   have Ta:m=k:=by
    rcases hm with⟨_,e⟩|⟨_,e,_⟩
    ·exact e
    simp at e
   subst Ta;simp only[if_true]at hh;have Cq:∀LO',LO=some LO'->∀code,(Instr.sliceBound LO' h code).run P w=.ok l w:=fun X e code=>by
    subst e;cases lo with
    |none=>exact h_.elim
    |some u=>exact(P2 h_ hl (aN _)).1
   have dk:LO=none->l=0:=fun e=>by
    subst e;cases lo with
    |none=>simpa[dX]using hl.symm
    |some u=>exact h_.elim
   have P3:∀HI',HI=some HI'->∀code,(Instr.sliceBound HI' m code).run P w=.ok h w:=fun X e code=>by
    subst e;cases hi with
    |none=>exact iY.elim
    |some u=>exact(P2 iY hh hy).1
   have hh0:HI=none->h=len:=fun e=>by
    subst e;cases hi with
    |none=>simpa[dX]using hh.symm
    |some u=>exact iY.elim
   cases HI with
   |none=>
    have:=hh0 rfl;subst this;cases LO with
    |none=>have:=dk rfl;subst this;simp[Instr.sliceBounds]
    |some X=>simp[Instr.sliceBounds,Cq X rfl,Result.andThen]
   |some Y=>
    cases LO with
    |none=>have:=dk rfl;subst this;simp[Instr.sliceBounds,P3 Y rfl,Result.andThen]
    |some X=>simp[Instr.sliceBounds,Cq X rfl,P3 Y rfl,Result.andThen]
 |some um=>
  cases MX with
  |none=>exact dq.elim
  |some Z=>
   obtain⟨hm,kj⟩:dX (some um) y 0=some m/\hi.isSome=true:=by
    rcases hm with⟨e,_⟩|⟨e,_,e'⟩
    ·simp at e
    exact⟨e,e'⟩
   have hz:∀code,(Instr.sliceBound Z k code).run P w=.ok m w:=fun code=>(P2 dq hm hy).1;simp only[reduceCtorEq,if_false]at hh;cases hi with
   |none=>simp at kj
   |some u=>
    cases HI with
    |none=>exact iY.elim
    |some Y=>
     have xL:∀code,(Instr.sliceBound Y m code).run P w=.ok h w:=fun code=>(P2 iY hh (aN _)).1;cases lo with
     |none=>
      cases LO with
      |some _=>exact h_.elim
      |none=> simp only[dX,ar]at hl;subst hl;simp[Instr.sliceBounds,hz,xL,Result.andThen]
     |some ul=>
      cases LO with
      |none=>exact h_.elim
      |some X=> have kO:∀code,(Instr.sliceBound X h code).run P w=.ok l w:=fun code=>(P2 h_ hl (aN _)).1;simp[Instr.sliceBounds,hz,xL,kO,Result.andThen]
def xR{u:Option V}{y:Nat}(h:dX u y d=some m):m<=y\/(u=none/\m=d):=by
 cases u with
 |none=>simp only[dX,ar]at h;exact .inr ⟨rfl,h.symm⟩
 |some u=>
  simp only[dX,nh]at h;split at h
  ·split at h
   ·simp only[ar]at h;left;omega
   cases h
  cases h
def Zwu(hh:bq P μ w st)(hr:RR μ r n a.tmps){t:TypeId}(ht:P.underlying t=some .string)(hx:bJ P x=some s)
  (h_:wi P lo=some ls) (iY:wi P hi=some hs) (h:AO s ls hs call r st=some (v,aB)):
  ba P μ w st (do pure (.value (<-Instr.sliceAt t (a.eval x) (lo.map a.eval) (hi.map a.eval) none))) v aB:=by
 unfold AO at h;split at h
 ·rename_i l vl vh h1 h2 h3;have e1:=dt hh hr hx h1;simp only[VR]at e1;have e2:=vC hh hr h_ h2;have e3:=vC hh hr iY h3;split at h
  ·rename_i hb sG;split at h
   ·rename_i lb nt;simp only[ar,bB]at h;obtain⟨rfl,rfl⟩:=h;have mY:(⟨l.toArray⟩:ByteArray).size=l.length:=by show l.toArray.size=_;simp
    have bY:=JZ (P:=P) (w:=w) (isS:=false) (len:=l.length) (y:=l.length) (k:=l.length) (mx:=none) (MX:=none) (m:=l.length) e2 e3 trivial (aN _) (.inl ⟨rfl,rfl⟩) (by simpa using sG) nt;refine ba.value hh (x:=.string ((⟨l.toArray⟩:ByteArray).extract lb hb)) ?_ ?_
    ·simp[Instr.sliceAt,Instr.slice,run_underlying ht,e1,mY,bY,Result.andThen]
    simp only[VR];congr 1;apply ByteArray.ext;rw[ByteArray.data_extract];apply Array.ext';simp[List.extract,List.drop_take]
   cases h
  cases h
 cases h
def MQ{t e:TypeId}(ht:P.underlying t=some (.slice e))(hz:fQ P e=some z){A:Option Addr}{len c l:Nat}
  (hb:(Instr.sliceBounds true len c LO HI MX).run P w=.ok (l,h,m) w):
  (Instr.sliceAt t (.slice A len c) LO HI MX).run P w=.ok (.slice (if m=l then A else A.map (·.add (l*z))) (h-l) (m-l)) w:=by simp[Instr.sliceAt,Instr.slice,run_underlying ht,hb,Ac hz,Result.andThen]
def Yb4(hh:bq P μ w st)(hr:RR μ r n a.tmps){t e:TypeId}{mx:Option Operand}(ht:P.underlying t=some (.slice e))(hz:fQ P e=some z)
  (hx:bJ P x=some s) (h_:wi P lo=some ls) (iY:wi P hi=some hs) (dq:wi P mx=some ms) (h:rX z s ls hs ms call r st=some (v,aB)):
  ba P μ w st (do pure (.value (<-Instr.sliceAt t (a.eval x) (lo.map a.eval) (hi.map a.eval) (mx.map a.eval)))) v aB:=by
 unfold rX at h;split at h
 ·-- nil
  rename_i vl vh vm h1 h2 h3 h4;have e1:=dt hh hr hx h1;simp only[VR]at e1;have e2:=vC hh hr h_ h2;have e3:=vC hh hr iY h3;have e4:=vC hh hr dq h4;split at h
  ·rename_i m hm;split at h
   ·rename_i hb sG;split at h
    ·rename_i lb nt;split at h
     ·cases h
     rename_i oH;simp only[ar,bB]at h;obtain⟨rfl,rfl⟩:=h;have jU:m=0:=by rcases xR hm with h|h<;>omega
     have nT:hb=0:=by rcases xR sG with h|h<;>omega
     have dk:lb=0:=by rcases xR nt with h|h<;>omega
     subst jU nT dk;have bY:=JZ (P:=P) (w:=w) (isS:=true) (len:=0) (y:=0) (k:=0) e2 e3 e4 (aN _) (m:=0) (h:=0) (l:=0)
      (by cases vm with
       |none=>exact .inl ⟨rfl,rfl⟩
       |some u=>cases vh with
        |none=>simp at oH
        |some u'=>exact .inr ⟨hm,rfl,rfl⟩)
      (by cases vm<;>simpa using sG) nt;refine ba.value hh (x:=.slice none 0 0) ?_ (by simp[VR]);rw[e1,MQ ht hz bY];simp
    cases h
   cases h
  cases h
 ·-- not nil,empty
  rename_i vl vh h1 h2 h3 h4;have e1:=dt hh hr hx h1;obtain⟨A,c,e1⟩:=e1;have e2:=vC hh hr h_ h2;have e3:=vC hh hr iY h3;have e4:=vC hh hr dq h4;split at h
  ·rename_i hb sG;split at h
   ·rename_i lb nt;simp only[ar,bB]at h;obtain⟨rfl,rfl⟩:=h;have nT:hb=0:=by rcases xR sG with h|h<;>omega
    have dk:lb=0:=by rcases xR nt with h|h<;>omega
    subst nT dk;have bY:=JZ (P:=P) (w:=w) (isS:=true) (len:=0) (y:=0) (k:=c) e2 e3 e4 (wX _) (m:=c) (h:=0) (l:=0) (.inl ⟨rfl,rfl⟩) (by simpa using sG) nt;refine ba.value hh (x:=.slice (some (if c=0 then A else A.add (0*z))) 0 (c-0)) ?_ ⟨_,_,rfl⟩;rw[e1,MQ ht hz bY];split<;>simp
   cases h
  cases h
 ·-- the capacity is known
  rename_i i o len c sz vl vh vm h1 h2 h3 h4;obtain⟨l,c',hl,e1,hlen,Cl,hc,_⟩:=dt hh hr hx h1;have:=hc c rfl;subst this;have e2:=vC hh hr h_ h2;have e3:=vC hh hr iY h3;have e4:=vC hh hr dq h4;split at h
  ·cases h
  rename_i oH;simp only[not_or,Decidable.not_not,Bool.not_eq_true]at oH;obtain⟨rfl,oH⟩:=oH;split at h
  ·rename_i m hm;split at h
   ·rename_i hb sG;split at h
    ·rename_i lb nt;simp only[ar,bB]at h;obtain⟨rfl,rfl⟩:=h;have hmc:m<=c':=by rcases xR hm with h|h<;>omega
     have bY:=JZ (P:=P) (w:=w) (isS:=true) (len:=len) (y:=c') (k:=c') e2 e3 e4 (aN _) (m:=m) (h:=hb) (l:=lb)
      (by cases vm with
       |none=>simp only[dX,ar]at hm;exact .inl ⟨rfl,hm.symm⟩
       |some u=>cases vh with
        |none=>simp at oH
        |some u'=>exact .inr ⟨hm,rfl,rfl⟩)
      (by cases vm with
       |none=>simp only[dX,ar]at hm;subst hm;simpa using sG
       |some u=>simpa using sG) nt;have hhm:hb<=m:=by
      rcases xR sG with h|⟨h,h'⟩
      ·exact h
      subst h;cases vm with
      |none=>simp only[dX,ar]at hm;omega
      |some u=>simp at oH
     have PZ:lb<=hb:=by rcases xR nt with h|h<;>omega
     have k1:m*sz<=c'*sz:=kg _ hmc;have k2:(m-lb)*sz=m*sz-lb*sz:=Nat.sub_mul _ _ _;have k3:lb*sz<=m*sz:=kg _ (by omega);refine ba.value hh (x:=.slice (some ⟨l.b,l.d+(if m=lb then o else o+lb*sz),none⟩) (hb-lb) (m-lb)) ?_ ⟨l,m-lb,hl,rfl,by omega,?_,fun k hk=>by simpa using hk,by simp⟩
     ·rw[e1,MQ ht hz bY];split<;>simp[yW,pE]
     split
     ·rename_i e;subst e;simp;omega
     omega
    cases h
   cases h
  cases h
 ·-- the capacity is not known
  rename_i i o len sz vl vh vm h1 h2 h3 h4;obtain⟨l,cw,hl,e1,hlen,Cl,_,htn⟩:=dt hh hr hx h1;have htn:=htn rfl;have e2:=vC hh hr h_ h2;have e3:=vC hh hr iY h3;have e4:=vC hh hr dq h4;split at h
  ·cases h
  rename_i oH;simp only[not_or,Decidable.not_not,Bool.not_eq_true]at oH;obtain⟨rfl,uQ,oH⟩:=oH;split at h
  ·rename_i cs _ _ aA;obtain⟨c'',_,_,_,_,cy,_⟩:=hh.row hl aA;have sH:max len ((cs.length-o)/sz)<=cw:=by
    have:(cs.length-o)/sz<=cw:=by rw[Nat.div_le_iff_le_mul_add_pred (by omega)];have:sz*cw=cw*sz:=ki _ _;omega
    omega
   have yO:len<=max len ((cs.length-o)/sz):=by omega
   generalize max len ((cs.length-o)/sz)=y at*;dsimp only at h;split at h
   ·rename_i um;split at h
    ·rename_i m hm;split at h
     ·rename_i hb sG;split at h
      ·rename_i lb nt;simp only[ar,bB]at h;obtain⟨rfl,rfl⟩:=h;cases vh with
       |none=>simp at oH
       |some uh=>
       have hmy:m<=y:=by
        rcases xR (u:=some um) (d:=0) hm with h|h
        ·exact h
        simp at h
       have bY:=JZ (P:=P) (w:=w) (isS:=true) (len:=len) (y:=y) (k:=cw) e2 e3 e4 sH (m:=m) (h:=hb) (l:=lb) (.inr ⟨hm,rfl,rfl⟩) (by simpa using sG) nt;have hhm:hb<=m:=by
        rcases xR sG with h|⟨h,h'⟩
        ·exact h
        simp at h
       have PZ:lb<=hb:=by rcases xR nt with h|h<;>omega
       have k1:m*sz<=cw*sz:=kg _ (by omega);have k2:(m-lb)*sz=m*sz-lb*sz:=Nat.sub_mul _ _ _;have k3:lb*sz<=m*sz:=kg _ (by omega);refine ba.value hh (x:=.slice (some ⟨l.b,l.d+(if m=lb then o else o+lb*sz),none⟩) (hb-lb) (m-lb)) ?_ ⟨l,m-lb,hl,rfl,by omega,?_,fun k hk=>by simpa using hk,by simp⟩
       ·rw[e1,MQ ht hz bY];split<;>simp[yW,pE]
       split
       ·rename_i e;subst e;simp;omega
       omega
      cases h
     cases h
    cases h
   split at h
   ·rename_i hb sG;split at h
    ·rename_i lb nt;have bY:=JZ (P:=P) (w:=w) (isS:=true) (len:=len) (y:=y) (k:=cw) e2 e3 e4 sH (m:=cw) (h:=hb) (l:=lb) (.inl ⟨rfl,rfl⟩) (by simpa using sG) nt;have hhm:hb<=y:=by rcases xR sG with h|⟨h,h'⟩<;>omega
     have PZ:lb<=hb:=by rcases xR nt with h|h<;>omega
     have k2:(cw-lb)*sz=cw*sz-lb*sz:=Nat.sub_mul _ _ _;have k3:lb*sz<=cw*sz:=kg _ (by omega);split at h
     ·rename_i aD;simp only[ar,bB]at h;obtain⟨rfl,rfl⟩:=h;refine ba.value hh (x:=.slice (some ⟨l.b,l.d+(o+lb*sz),none⟩) (hb-lb) (cw-lb)) ?_ ⟨l,cw-lb,hl,rfl,by omega,by omega,by simp,fun _=>by omega⟩;rw[e1,MQ ht hz bY];rw[ak (by omega)];simp[yW,pE]
     simp only[ar,bB]at h;obtain⟨rfl,rfl⟩:=h;have:hb-lb=0:=by omega
     refine ba.value hh (x:=.slice (some (if cw=lb then ⟨l.b,l.d+o,none⟩ else (⟨l.b,l.d+o,none⟩:Addr).add (lb*sz))) 0 (cw-lb)) ?_ ⟨_,_,rfl⟩;rw[e1,MQ ht hz bY,this];split<;>simp
    cases h
   cases h
  cases h
 cases h
def Zwv(hh:bq P μ w st)(hr:RR μ r n a.tmps){t e:TypeId}{k:Nat}{mx:Option Operand}(ht:P.underlying t=some (.array k e))(hz:fQ P e=some z)
  (hx:bJ P x=some s) (h_:wi P lo=some ls) (iY:wi P hi=some hs) (dq:wi P mx=some ms) (h:BQ k z s ls hs ms call r st=some (v,aB)):
  ba P μ w st (do pure (.value (<-Instr.sliceAt t (a.eval x) (lo.map a.eval) (hi.map a.eval) (mx.map a.eval)))) v aB:=by
 unfold BQ at h;split at h
 ·rename_i i o vl vh h1 h2 h3 h4;obtain⟨l,hl,e1⟩:=dt hh hr hx h1;have e2:=vC hh hr h_ h2;have e3:=vC hh hr iY h3;have e4:=vC hh hr dq h4;split at h
  ·rename_i hb sG;split at h
   ·rename_i lb nt;split at h
    ·rename_i cs _ _ aA;split at h
     ·rename_i df;simp only[ar,bB]at h;obtain⟨rfl,rfl⟩:=h;obtain⟨c'',_,_,_,_,cy,_⟩:=hh.row hl aA;have bY:=JZ (P:=P) (w:=w) (isS:=false) (len:=k) (y:=k) (k:=k) e2 e3 e4 (aN _) (m:=k) (h:=hb) (l:=lb) (.inl ⟨rfl,rfl⟩) (by simpa using sG) nt;have hhm:hb<=k:=by rcases xR sG with h|⟨h,h'⟩<;>omega
      have PZ:lb<=hb:=by rcases xR nt with h|h<;>omega
      have k2:(k-lb)*z=k*z-lb*z:=Nat.sub_mul _ _ _;have k3:lb*z<=k*z:=kg _ (by omega);have PW:=df.1;refine ba.value hh (x:=.slice (some ⟨l.b,l.d+(if k=lb then o else o+lb*z),none⟩) (hb-lb) (k-lb)) ?_ ⟨l,k-lb,hl,rfl,by omega,?_,fun k hk=>by simpa using hk,by simp⟩
      ·simp only[Instr.sliceAt,Sem.run_bind,run_underlying ht,Result.andThen,Instr.sureAddr,e1,Sem.run_pure,bY,Ac hz];split<;>simp[yW,pE]
      split
      ·rename_i e;subst e;simp;omega
      omega
     cases h
    cases h
   cases h
  cases h
 cases h
end
end Go.Mx
