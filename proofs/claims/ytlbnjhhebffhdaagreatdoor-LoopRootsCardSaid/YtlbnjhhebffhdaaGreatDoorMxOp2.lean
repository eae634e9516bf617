/-The operations of M stand for the Go mod-/
import Derived.Test.YtlbnjhhebffhdaaGreatDoorMxComp
import Derived.LaidEql
set_option linter.all false
set_option maxHeartbeats 2000000
namespace Go.Mx
open Go
section
variable {P:Program} {μ:Mu} {w:World} {st st':St} {r:T V} {n:Nat} {a:Act} {call:cP} {v:V}
def OT{i:Nat}{c:List V}{e:TypeId}{rw:Bool}(h:st.row i=some (c,e,rw)):st.h.get i=some (.cells c e rw):=by
 unfold St.row at h
 split at h
 ·rename_i hg
  simp only[au,bE]at h
  obtain⟨rfl,rfl,rfl⟩:=h
  exact hg
 ·cases h
def Za9.row(hh:Za9 P μ w st){i:Nat}{l:L}(hl:μ i=some l){c:List V}{e:TypeId}{rw:Bool}(h:st.row i=some (c,e,rw)):OM P μ w (.cells c e rw) l:=by
 obtain⟨o,h1,h2⟩:=hh.obj i l hl
 rw[OT h,au]at h1
 subst h1;exact h2
def Za9.get(hh:Za9 P μ w st){i:Nat}{l:L}(hl:μ i=some l){o:O}(h:st.h.get i=some o):OM P μ w o l:=by
 obtain⟨o',h1,h2⟩:=hh.obj i l hl
 rw[h,au]at h1
 subst h1;exact h2
def Ykz(hh:Za9 P μ w st)(hr:RR μ r n a.tmps){x:Operand}{s:Src}(hx:bG P x=some s)(h:IJ s call r st=some (v,st')):
  Za5 P μ w st (pure (.value (a.eval x))) v st':=by
 unfold IJ at h
 split at h
 ·rename_i u hu
  simp only[au,bE]at h
  obtain⟨rfl,rfl⟩:=h
  exact Za5.OS hh (cU hh hr hx hu)
 ·cases h
def Ymr(hh:Za9 P μ w st)(hr:RR μ r n a.tmps){x y z:Operand}{s t u:Src}(hx:bG P x=some s)(hy:bG P y=some t)(hz:bG P z=some u)
  (h:DJ s t u call r st=some (v,st')):
  Za5 P μ w st (do pure (.value (if <-asBool (a.eval x) then a.eval y else a.eval z))) v st':=by
 unfold DJ at h
 split at h
 ·rename_i hs
  have h1:=cU hh hr hx hs
  simp only[VR]at h1
  split at h
  ·rename_i v1 ht
   simp only[au,bE]at h
   obtain⟨rfl,rfl⟩:=h
   exact⟨_,a.eval y,w,μ,[],by simp[h1,asBool],.inl rfl,cU hh hr hy ht,bK.refl hh⟩
  ·cases h
 ·rename_i hs
  have h1:=cU hh hr hx hs
  simp only[VR]at h1
  split at h
  ·rename_i v1 ht
   simp only[au,bE]at h
   obtain⟨rfl,rfl⟩:=h
   exact⟨_,a.eval z,w,μ,[],by simp[h1,asBool],.inl rfl,cU hh hr hz ht,bK.refl hh⟩
  ·cases h
 ·cases h
def Ynl(hh:Za9 P μ w st)(hr:RR μ r n a.tmps){t:TypeId}{k:Option Nat}{x:Operand}{s:Src}(ha:wV P t=some k)(hx:bG P x=some s)
  (h:IM k s call r st=some (v,st')):Za5 P μ w st (do pure (.value (<-Instr.loadAt t (a.eval x)))) v st':=by
 unfold IM at h
 split at h
 ·rename_i i o hs
  obtain⟨l,hl,he⟩:=cU hh hr hx hs
  split at h
  ·rename_i c e rw zgc
   have tH:=hh.row hl zgc
   split at h
   ·rename_i u hu
    simp only[au,bE]at h
    obtain⟨rfl,rfl⟩:=h
    cases k with
    |none=>
     simp only[aI]at hu
     obtain⟨y,hy,hv⟩:=tH.cell hu
     exact Za5.value hh (by simp[Instr.loadAt,Instr.sureAddr,he,loadVar,Zox ha,Result.andThen,hy]) hv
    |some k=>
     simp only[aI]at hu
     split at hu
     ·rename_i vs Jq
      simp only[au]at hu;subst hu
      obtain⟨xs,h1,_,h3,_⟩:=tH.seg Jq
      exact Za5.value hh (x:=.agg xs.toArray) (by simp[Instr.loadAt,Instr.sureAddr,he,loadVar,(Mg ha).1,(Mg ha).2,Result.andThen,h3]) ⟨xs,rfl,h1⟩
     ·cases hu
   ·cases h
  ·cases h
 ·cases h
def Yib(hh:Za9 P μ w st)(hr:RR μ r n a.tmps){x:Operand}{s:Src}(hx:bG P x=some s)(h:IN s call r st=some (v,st')){ty:TypeId}{d:Option Tmp}{pos:String}{af:Array Edge}{g:Option (Nat×Bool)}:
  Za5 P μ w st (execOp a.eval ⟨d,.nilCheck x,ty,pos,af,g⟩) v st':=by
 unfold IN at h
 split at h
 ·rename_i i o hs
  simp only[au,bE]at h
  obtain⟨rfl,rfl⟩:=h
  have h0:=cU hh hr hx hs
  obtain⟨l,hl,he⟩:=h0
  exact⟨_,_,w,μ,[],by simp[execOp,he],.inl rfl,⟨l,hl,rfl⟩,bK.refl hh⟩
 ·rename_i f b c hs
  simp only[au,bE]at h
  obtain⟨rfl,rfl⟩:=h
  obtain⟨a',c',he,h1,h2⟩:=cU hh hr hx hs
  exact⟨_,_,w,μ,[],by simp[execOp,he],.inl rfl,⟨a',c',rfl,h1,h2⟩,bK.refl hh⟩
 ·cases h
def Yi5(hh:Za9 P μ w st)(hr:RR μ r n a.tmps){t:TypeId}{i:Nat}{x:Operand}{s:Src}{fs:Array Field}{f:Field}{k:Nat}(ht:P.underlying t=some (.struct fs))(hf:fs[i]?=some f)
  (hk:eZ P f.type=some (k+1)) (hx:bG P x=some s) (h:IV f.offset s call r st=some (v,st')):
  Za5 P μ w st (do pure (.value (<-Instr.fieldAt t (a.eval x) i))) v st':=by
 unfold IV at h
 split at h
 ·rename_i j o hs
  simp only[au,bE]at h
  obtain⟨rfl,rfl⟩:=h
  obtain⟨l,hl,he⟩:=cU hh hr hx hs
  refine Za5.value hh (x:=.pointer (some ⟨l.b,l.d+(o+f.offset),none⟩)) ?_ ⟨l,hl,rfl⟩
  simp[Instr.fieldAt,run_underlying ht,hf,Instr.sureAddr,he,fieldPlace,xq hk,Result.andThen,vZ,oZ]
 ·cases h
def Yi4(hh:Za9 P μ w st)(hr:RR μ r n a.tmps){t:TypeId}{i:Nat}{x:Operand}{s:Src}{fs:Array Field}{f:Field}{k:Option Nat}(ht:P.underlying t=some (.struct fs))(hf:fs[i]?=some f)
  (hk:wV P f.type=some k) (hx:bG P x=some s) (h:IW f.offset k s call r st=some (v,st')):
  Za5 P μ w st (do pure (.value (<-Instr.field t (a.eval x) i))) v st':=by
 unfold IW at h
 split at h
 ·rename_i cs hs
  obtain⟨xs,he,pr⟩:=cU hh hr hx hs
  split at h
  ·rename_i u hu
   simp only[au,bE]at h
   obtain⟨rfl,rfl⟩:=h
   obtain⟨y,hy,hv⟩:=TO (P:=P) (w:=w) pr hk hu
   exact Za5.value hh (by simp[Instr.field,run_underlying ht,hf,he,asAgg,hy]) hv
  ·cases h
 ·cases h
def Zvm(hh:Za9 P μ w st)(hr:RR μ r n a.tmps){t e:TypeId}{k z:Nat}{x i:Operand}{s q:Src}(ht:P.underlying t=some (.array k e))(hz:eZ P e=some z)
  (hx:bG P x=some s) (hi:bG P i=some q) (h:B3 k z s q call r st=some (v,st')):
  Za5 P μ w st (do pure (.value (<-Instr.indexAt t (a.eval x) (a.eval i)))) v st':=by
 unfold B3 at h
 split at h
 ·rename_i b o kd j hs hq
  split at h
  ·rename_i hj
   simp only[au,bE]at h
   obtain⟨rfl,rfl⟩:=h
   obtain⟨l,hl,he⟩:=cU hh hr hx hs
   have gZ:=cU hh hr hi hq
   simp only[VR]at gZ
   refine Za5.value hh (x:=.pointer (some ⟨l.b,l.d+(o+j.toNat*z),none⟩)) ?_ ⟨l,hl,rfl⟩
   have qJ:j<(k:Int):=hj.2
   simp[Instr.indexAt,asIntOf,gZ,run_underlying ht,Instr.sureAddr,he,hj.1,qJ,xq hz,Result.andThen,vZ,oZ]
  ·cases h
 ·cases h
def Yam(hh:Za9 P μ w st)(hr:RR μ r n a.tmps){t e:TypeId}{z:Nat}{x i:Operand}{s q:Src}(ht:P.underlying t=some (.slice e))(hz:eZ P e=some z)
  (hx:bG P x=some s) (hi:bG P i=some q) (h:DN z s q call r st=some (v,st')):
  Za5 P μ w st (do pure (.value (<-Instr.indexAt t (a.eval x) (a.eval i)))) v st':=by
 unfold DN at h
 split at h
 ·rename_i b o len cp sz kd j hs hq
  split at h
  ·rename_i hj
   simp only[au,bE]at h
   obtain⟨rfl,rfl⟩:=h
   obtain⟨l,c,hl,he,_⟩:=cU hh hr hx hs
   have gZ:=cU hh hr hi hq
   simp only[VR]at gZ
   refine Za5.value hh (x:=.pointer (some ⟨l.b,l.d+(o+j.toNat*z),none⟩)) ?_ ⟨l,hl,rfl⟩
   have qJ:j<(len:Int):=hj.2
   simp[Instr.indexAt,asIntOf,gZ,run_underlying ht,he,hj.1,qJ,xq hz,Result.andThen,vZ,oZ]
  ·cases h
 ·cases h
def Yez(hh:Za9 P μ w st)(hr:RR μ r n a.tmps){t e:TypeId}{k z:Nat}{m:Option Nat}{x i:Operand}{s q:Src}(ht:P.underlying t=some (.array k e))(hz:eZ P e=some z)(hm:wV P e=some m)
  (hx:bG P x=some s) (hi:bG P i=some q) (h:LK k z m s q call r st=some (v,st')):
  Za5 P μ w st (do pure (.value (<-Instr.index t (a.eval x) (a.eval i)))) v st':=by
 unfold LK at h
 split at h
 ·rename_i cs kd j hs hq
  split at h
  ·rename_i hj
   split at h
   ·rename_i u hu
    simp only[au,bE]at h
    obtain⟨rfl,rfl⟩:=h
    obtain⟨xs,he,pr⟩:=cU hh hr hx hs
    have gZ:=cU hh hr hi hq
    simp only[VR]at gZ
    obtain⟨y,hy,hv⟩:=TO (P:=P) (w:=w) pr hm hu
    have qJ:j<(k:Int):=hj.2
    exact Za5.value hh (by simp[Instr.index,asIntOf,gZ,run_underlying ht,he,hj.1,qJ,xq hz,Result.andThen,hy]) hv
   ·cases h
  ·cases h
 ·cases h
def Yex(hh:Za9 P μ w st)(hr:RR μ r n a.tmps){t:TypeId}{x i:Operand}{s q:Src}(ht:P.underlying t=some .string)
  (hx:bG P x=some s) (hi:bG P i=some q) (h:DO s q call r st=some (v,st')):
  Za5 P μ w st (do pure (.value (<-Instr.index t (a.eval x) (a.eval i)))) v st':=by
 unfold DO at h
 split at h
 ·rename_i cs kd j hs hq
  split at h
  ·rename_i hj
   split at h
   ·rename_i u hu
    simp only[au,bE]at h
    obtain⟨rfl,rfl⟩:=h
    have he:=cU hh hr hx hs
    have gZ:=cU hh hr hi hq
    simp only[VR]at gZ he
    have hb:(⟨cs.toArray⟩:ByteArray)[j.toNat]?=some u:=by
     obtain⟨aW,cY⟩:=AM.1 hu
     rw[getElem?_pos (⟨cs.toArray⟩:ByteArray) j.toNat (by show j.toNat<cs.toArray.size;simpa using aW)]
     simp only[au]
     exact cY
    exact Za5.value hh (x:=.int .u8 u.toNat) (by simp[Instr.index,asIntOf,gZ,run_underlying ht,he,hj,hb]) (by simp[VR])
   ·cases h
  ·cases h
 ·cases h
def Yav(hh:Za9 P μ w st)(hr:RR μ r n a.tmps){x:Operand}{s:Src}{i:Nat}(hx:bG P x=some s)(h:I1 s i call r st=some (v,st')):
  Za5 P μ w st (do pure (.value (<-Instr.extract (a.eval x) i))) v st':=by
 unfold I1 at h
 split at h
 ·rename_i vs hs
  split at h
  ·rename_i u hu
   simp only[au,bE]at h
   obtain⟨rfl,rfl⟩:=h
   obtain⟨xs,he,pr⟩:=cU hh hr hx hs
   obtain⟨y,hy,hv⟩:=pr.get hu
   exact Za5.value hh (by simp[Instr.extract,he,hy]) hv
  ·cases h
 ·cases h
def Zzw(hh:Za9 P μ w st)(hr:RR μ r n a.tmps){t:TypeId}{x:Operand}{s:Src}{d:TypeDesc}(ht:P.underlying t=some d)(hd:∀m,d≠.interface m)(hx:bG P x=some s)
  (h:LI t s call r st=some (v,st')):Za5 P μ w st (do pure (.value (<-Instr.makeInterface t (a.eval x)))) v st':=by
 unfold LI at h
 split at h
 ·rename_i u hu
  simp only[au,bE]at h
  obtain⟨rfl,rfl⟩:=h
  refine Za5.value hh (x:=.iface t (a.eval x)) ?_ ⟨_,rfl,cU hh hr hx hu⟩
  cases d<;>simp[Instr.makeInterface,run_underlying ht,Result.andThen]at hd ⊢
 ·cases h
def Yd5(hh:Za9 P μ w st)(hr:RR μ r n a.tmps){f:FuncId}{xs ys:Array Operand}{ss ts:List Src}(hx:uj P xs.toList=some ss)(hy:uj P ys.toList=some ts)
  (h:IU f ss ts call r st=some (v,st')):Za5 P μ w st (do pure (.value (<-Instr.makeFunc (.func f) (xs.map a.eval) (ys.map a.eval)))) v st':=by
 unfold IU at h
 split at h
 ·rename_i us ws h1 h2
  simp only[au,bE]at h
  obtain⟨rfl,rfl⟩:=h
  refine Za5.value hh (x:=.func (.func f) (xs.map a.eval) (ys.map a.eval)) (by simp[Instr.makeFunc]) ⟨xs.toList.map a.eval,ys.toList.map a.eval,?_,Jj hh hr hx h1,Jj hh hr hy h2⟩
  congr 1<;>apply zh<;>simp
 ·cases h
def Ya7(hh:Za9 P μ w st)(hr:RR μ r n a.tmps){src dst:TypeId}{k:IntKind}{x:Operand}{s:Src}(hs:∃q,P.underlying src=some (.int q))(hd:P.underlying dst=some (.int k))(hx:bG P x=some s)
  (h:IS k s call r st=some (v,st')):Za5 P μ w st (do pure (.value (<-convert src dst (a.eval x)))) v st':=by
 unfold IS at h
 split at h
 ·rename_i q m hm
  simp only[au,bE]at h
  obtain⟨rfl,rfl⟩:=h
  obtain⟨q',hs⟩:=hs
  have he:=cU hh hr hx hm
  simp only[VR]at he
  exact Za5.value hh (x:=.int k (k.wrap m)) (by simp[convert,run_underlying hs,run_underlying hd,he,Conv.intToInt]) (by simp[VR,zj])
 ·cases h
def Ya6(hh:Za9 P μ w st)(hr:RR μ r n a.tmps){src dst:TypeId}{x:Operand}{s:Src}(hs:P.underlying src=some .string)(hd:P.underlying dst=some .string)(hx:bG P x=some s)
  (h:Ze9 s call r st=some (v,st')):Za5 P μ w st (do pure (.value (<-convert src dst (a.eval x)))) v st':=by
 unfold Ze9 at h
 split at h
 ·rename_i m hm
  simp only[au,bE]at h
  obtain⟨rfl,rfl⟩:=h
  have he:=cU hh hr hx hm
  simp only[VR]at he
  exact Za5.value hh (x:=.string ⟨m.toArray⟩) (by simp[convert,run_underlying hs,run_underlying hd,he]) (by simp[VR])
 ·cases h
end
section
variable {P:Program} {μ:Mu} {w:World} {st st':St} {r:T V} {n:Nat} {a:Act} {call:cP} {v:V}
def Yaa{op:BinOp}{k:IntKind}{x y:Int}{t:TypeId}(h:qG op k x y=some v):
  ∃z,(binOp op t (.int k x) (.int k y)).run P w=.ok z w/\VR μ v z:=by
 cases op<;>simp only[qG,au,reduceCtorEq]at h
 case add=>subst h;exact⟨_,by simp[binOp,Op.intArith];rfl,by simp[VR,zj]⟩
 case sub=>subst h;exact⟨_,by simp[binOp,Op.intArith];rfl,by simp[VR,zj]⟩
 case mul=>subst h;exact⟨_,by simp[binOp,Op.intArith];rfl,by simp[VR,zj]⟩
 case quo=>
  split at h
  ·cases h
  ·rename_i h0;simp only[au]at h;subst h;exact⟨_,by simp[binOp,Op.intDiv,h0];rfl,by simp[VR,zj]⟩
 case rem=>
  split at h
  ·cases h
  ·rename_i h0;simp only[au]at h;subst h;exact⟨_,by simp[binOp,Op.intDiv,h0];rfl,by simp[VR]⟩
 case and=>subst h;exact⟨_,by simp[binOp,Op.intBits];rfl,by simp[VR]⟩
 case or=>subst h;exact⟨_,by simp[binOp,Op.intBits];rfl,by simp[VR]⟩
 case xor=>subst h;exact⟨_,by simp[binOp,Op.intBits];rfl,by simp[VR]⟩
 case andNot=>subst h;exact⟨_,by simp[binOp,Op.intBits];rfl,by simp[VR]⟩
 case eql=>subst h;exact⟨_,by simp[binOp,Op.intCmp];rfl,by simp[VR]⟩
 case neq=>subst h;exact⟨_,by simp[binOp,Op.intCmp];rfl,by simp[VR]⟩
 case lss=>subst h;exact⟨_,by simp[binOp,Op.intCmp];rfl,by simp[VR]⟩
 case leq=>subst h;exact⟨_,by simp[binOp,Op.intCmp];rfl,by simp[VR]⟩
 case gtr=>subst h;exact⟨_,by simp[binOp,Op.intCmp];rfl,by simp[VR]⟩
 case geq=>subst h;exact⟨_,by simp[binOp,Op.intCmp];rfl,by simp[VR]⟩
def Zpf{op:BinOp}{k k':IntKind}{x y:Int}{t:TypeId}(hs:op=.shl\/op=.shr)(h:xU op k x y=some v):
  ∃z,(binOp op t (.int k x) (.int k' y)).run P w=.ok z w/\VR μ v z:=by
 unfold xU at h
 split at h
 ·cases h
 ·rename_i h0
  rcases hs with rfl|rfl<;>simp only[au]at h<;>subst h
  ·exact⟨_,by simp[binOp,Op.shift,h0];rfl,by simp[VR]⟩
  ·exact⟨_,by simp[binOp,Op.shift,h0];rfl,by simp[VR]⟩
def TP(l:List UInt8):(⟨l.toArray⟩:ByteArray).toList=l:=by
 rw[ByteArray.toList_eq]
def Zyw{op:BinOp}{x y:List UInt8}{t:TypeId}(h:iF op x y=some v):
  ∃z,(binOp op t (.string ⟨x.toArray⟩) (.string ⟨y.toArray⟩)).run P w=.ok z w/\VR μ v z:=by
 have e1:=TP x
 have e2:=TP y
 cases op<;>simp only[iF,au,reduceCtorEq]at h
 case add=>
  split at h
  ·cases h
  ·rename_i hle
   simp only[au]at h;subst h
   refine⟨.string ⟨(x++y).toArray⟩,?_,by simp[VR]⟩
   have jm:((⟨x.toArray⟩:ByteArray).size+(⟨y.toArray⟩:ByteArray).size)=x.length+y.length:=by
    show x.toArray.size+y.toArray.size=_
    simp
   have Ow:(⟨x.toArray⟩:ByteArray)++(⟨y.toArray⟩:ByteArray)=⟨(x++y).toArray⟩:=by
    apply ByteArray.ext
    simp[ByteArray.data_append]
   simp only[binOp,Op.stringOp,jm,aA hle,Ow]
   simp
 case eql=>subst h;exact⟨_,by simp[binOp,Op.stringOp,e1,e2];rfl,by simp[VR]⟩
 case neq=>subst h;exact⟨_,by simp[binOp,Op.stringOp,e1,e2];rfl,by simp[VR]⟩
 case lss=>subst h;exact⟨_,by simp[binOp,Op.stringOp,e1,e2];rfl,by simp[VR]⟩
 case leq=>subst h;exact⟨_,by simp[binOp,Op.stringOp,e1,e2];rfl,by simp[VR]⟩
 case gtr=>subst h;exact⟨_,by simp[binOp,Op.stringOp,e1,e2];rfl,by simp[VR]⟩
 case geq=>subst h;exact⟨_,by simp[binOp,Op.stringOp,e1,e2];rfl,by simp[VR]⟩
def Yr4(hh:Za9 P μ w st)(hr:RR μ r n a.tmps){op:UnOp}{x:Operand}{s:Src}(hx:bG P x=some s)(h:IQ op s call r st=some (v,st')):
  Za5 P μ w st (do pure (.value (<-Op.unary op (a.eval x)))) v st':=by
 unfold IQ at h
 split at h
 ·rename_i u hu
  split at h
  ·rename_i z hz
   simp only[au,bE]at h
   obtain⟨rfl,rfl⟩:=h
   have he:=cU hh hr hx hu
   unfold unV at hz
   split at hz
   ·simp only[VR]at he
    simp only[au]at hz;subst hz
    exact Za5.value hh (x:=_) (by simp[Op.unary,he,Op.intArith];rfl) (by simp[VR])
   ·simp only[VR]at he
    simp only[au]at hz;subst hz
    exact Za5.value hh (x:=_) (by simp[Op.unary,he,Op.intBits];rfl) (by simp[VR])
   ·simp only[VR]at he
    simp only[au]at hz;subst hz
    exact Za5.value hh (x:=_) (by simp[Op.unary,he];rfl) (by simp[VR])
   ·cases hz
  ·cases h
 ·cases h
def Ya0{ng:Bool}{k:PK}{t:TypeId}{d:TypeDesc}{D:Nat}(ht:P.underlying t=some d)(TQ:Ymo P d=true)(hk:S6 d=some k)
  {x y:V} {b:Bool} (h:a_ ng k x y=some b) {X Y:Value} (hX:VR μ x X) (hY:VR μ y Y):(Op.equalIn (D+1) t X Y).run P w=.ok b w:=by
 unfold a_ at h
 split at h
 case h_25=>cases h
 all_goals (cases d<;>simp only[S6,reduceCtorEq,au]at hk)
 all_goals simp only[VR]at hX hY
 case h_7.pointer e=>
  split at h
  ·rename_i he
   obtain⟨rfl,rfl⟩:=he
   obtain⟨l,hl,rfl⟩:=hX
   obtain⟨l',vF,rfl⟩:=hY
   rw[hl]at vF
   simp only[au]at vF h
   subst vF h
   simp only[Ymo]at TQ
   obtain⟨j,hj⟩:=Option.isSome_iff_exists.1 TQ
   simp[Op.equalIn,run_underlying ht,sizeOf,typeInfo,hj,run_sameAddr_same]
  ·cases h
 case h_2.int=>
  split at h
  ·rename_i e;subst e;subst hX hY;simp only[au]at h;subst h;simp[Op.equalIn,run_underlying ht]
  ·cases h
 case h_3.string=>
  subst hX hY;simp only[au]at h;subst h
  rw[run_equalIn_string w D t _ _ ht,TP,TP]
 case h_22.interface=>
  split at h
  ·subst hX hY;simp only[au]at h;subst h;simp[Op.equalIn,run_underlying ht]
  ·cases h
 all_goals (simp only[au]at h;subst h)
 all_goals first
  |(subst hX;subst hY;simp[Op.equalIn,run_underlying ht];done)
  |(subst hX;obtain⟨_,_,rfl⟩:=hY;simp[Op.equalIn,run_underlying ht];done)
  |(subst hY;obtain⟨_,_,rfl⟩:=hX;simp[Op.equalIn,run_underlying ht];done)
  |(subst hX;obtain⟨_,_,_,rfl,_⟩:=hY;simp[Op.equalIn,run_underlying ht];done)
  |(subst hY;obtain⟨_,_,_,rfl,_⟩:=hX;simp[Op.equalIn,run_underlying ht];done)
  |(subst hX;obtain⟨_,_,rfl,_⟩:=hY;simp[Op.equalIn,run_underlying ht];done)
  |(subst hY;obtain⟨_,_,rfl,_⟩:=hX;simp[Op.equalIn,run_underlying ht];done)
  |(subst hX;obtain⟨_,rfl,_⟩:=hY;simp[Op.equalIn,run_underlying ht];done)
  |(subst hY;obtain⟨_,rfl,_⟩:=hX;simp[Op.equalIn,run_underlying ht];done)
def Zvu{d:Nat}(ih:∀{ng:Bool} {t:TypeId} {q:rK},vH P d t=some q->∀{x y:V} {b:Bool},tC ng q x y=some b->∀{X Y:Value},VR μ x X->VR μ y Y->∀D,d<=D->(Op.equalIn D t X Y).run P w=.ok b w)
  {xs ys:List V} {XS YS:List Value} (hX:bf μ xs XS) (hY:bf μ ys YS) (D:Nat) (hD:d<=D):
  ∀{fs:List Field} {l:List (Nat×Option Nat×rK)},Lr P (vH P d) fs=some l->∀{b:Bool},NZ l xs ys=some b->(Op.eqFields D ⟨XS⟩ ⟨YS⟩ fs).run P w=.ok b w:=by
 intro fs
 induction fs with
 |nil=>
  intro l hl b h
  simp only[Lr,au]at hl;subst hl
  simp only[NZ,au]at h;subst h
  simp[Op.eqFields]
 |cons f fs ihf=>
  intro l hl b h
  simp only[Lr]at hl
  split at hl
  ·rename_i hn
   simp only[Op.eqFields,hn,ne_eq,not_true_eq_false,if_false]
   exact ihf hl h
  ·rename_i hn
   split at hl
   ·rename_i k q l' hk hq vF
    simp only[au]at hl;subst hl
    simp only[NZ]at h
    split at h
    ·rename_i x y hx hy
     obtain⟨X,h1,h2⟩:=TO (P:=P) (w:=w) hX hk hx
     obtain⟨Y,h3,h4⟩:=TO (P:=P) (w:=w) hY hk hy
     split at h
     ·rename_i he
      have e:=ih hq he h2 h4 D hD
      simp only[Op.eqFields,ne_eq,hn,not_false_eq_true,if_true,Sem.run_bind,h1,h3,e,Result.andThen,Bool.not_true,gj,if_false]
      exact ihf vF h
     ·rename_i he
      simp only[au]at h;subst h
      have e:=ih hq he h2 h4 D hD
      simp[Op.eqFields,hn,h1,h3,e,Result.andThen]
     ·cases h
    ·cases h
   ·cases hl
def Yob:∀(d:Nat) {ng:Bool} {t:TypeId} {q:rK},vH P d t=some q->∀{x y:V} {b:Bool},tC ng q x y=some b->∀{X Y:Value},VR μ x X->VR μ y Y->∀D,d<=D->(Op.equalIn D t X Y).run P w=.ok b w:=by
 intro d
 induction d with
 |zero=>intro ng t q hq;simp[vH]at hq
 |succ d ih=>
  intro ng t q hq x y b h X Y hX hY D hD
  obtain⟨D,rfl⟩:∃D',D=D'+1:=⟨D-1,by omega⟩
  simp only[vH]at hq
  split at hq
  ·rename_i fs ht
   split at hq
   ·cases hq
   ·rename_i dM
    split at hq
    ·rename_i l hl
     simp only[au]at hq;subst hq
     cases x<;>cases y<;>simp only[tC,reduceCtorEq]at h
     obtain⟨xs,rfl,pr⟩:=hX
     obtain⟨ys,rfl,hys⟩:=hY
     have hf:P.fieldsOf t=fs:=by simp[Program.fieldsOf,ht]
     rw[run_equalIn_struct w D t _ _ (by rw[hf];exact ht) (by simpa using dM),hf]
     exact Zvu ih pr hys D (by omega) hl h
    ·cases hq
  ·rename_i dd hns ht
   split at hq
   ·rename_i k hk
    split at hq
    ·rename_i TQ
     simp only[au]at hq;subst hq
     simp only[tC]at h
     exact Ya0 ht TQ hk h hX hY
    ·cases hq
   ·cases hq
  ·cases hq
def Ox{op:BinOp}{t:TypeId}{x y:Operand}{X Y:Value}(h1:X=.nilIface->Y=.nilIface->Ir x=true\/Ir y=true)
  (h2:∀a b,X=.agg a->Y=.agg b->P.eqGuardType P.depth t=false):(eqGuard op t x y X Y).run P w=.ok () w:=by
 by_cases hn:X=.nilIface/\Y=.nilIface
 ·obtain⟨rfl,rfl⟩:=hn
  have h:=h1 rfl rfl
  cases op<;>cases x<;>cases y<;>simp_all [eqGuard,Ir]
 ·by_cases ha:(∃a,X=.agg a)/\∃b,Y=.agg b
  ·obtain⟨⟨a,rfl⟩,b,rfl⟩:=ha
   have h:=h2 a b rfl rfl
   cases op<;>simp[eqGuard,run_program,h]
  ·cases op<;>simp[eqGuard]<;>split<;>simp_all
end
section
variable {P:Program} {μ:Mu} {w:World} {st st':St} {r:T V} {n:Nat} {a:Act} {call:cP} {v:V}
def VR.v_{x:V}{k:IntKind}{m:Int}(h:VR μ x (.int k m)):x=.int k m:=by
 cases x<;>simp only[VR]at h<;>first
  |(cases h;rfl)
  |(cases h;done)
  |(obtain⟨_,_,h⟩:=h;cases h;done)
  |(obtain⟨_,_,_,h,_⟩:=h;cases h;done)
  |(obtain⟨_,_,h,_⟩:=h;cases h;done)
  |(obtain⟨_,h,_⟩:=h;cases h;done)
def VR.px{x:V}{k:FloatKind}{m:Nat}(h:VR μ x (.float k m)):x=.jM k m:=by
 cases x<;>simp only[VR]at h<;>first
  |(cases h;rfl)
  |(cases h;done)
  |(obtain⟨_,_,h⟩:=h;cases h;done)
  |(obtain⟨_,_,_,h,_⟩:=h;cases h;done)
  |(obtain⟨_,_,h,_⟩:=h;cases h;done)
  |(obtain⟨_,h,_⟩:=h;cases h;done)
def VR.zgs{x:V}{k:FloatKind}{m m':Nat}(h:VR μ x (.complex k m m')):x=.rp k m m':=by
 cases x<;>simp only[VR]at h<;>first
  |(cases h;rfl)
  |(cases h;done)
  |(obtain⟨_,_,h⟩:=h;cases h;done)
  |(obtain⟨_,_,_,h,_⟩:=h;cases h;done)
  |(obtain⟨_,_,h,_⟩:=h;cases h;done)
  |(obtain⟨_,h,_⟩:=h;cases h;done)
def VR.nM{x:V}{s:ByteArray}(h:VR μ x (.string s)):∃l,x=.str l:=by
 cases x<;>simp only[VR]at h<;>first
  |exact⟨_,rfl⟩
  |(cases h;done)
  |(obtain⟨_,_,h⟩:=h;cases h;done)
  |(obtain⟨_,_,_,h,_⟩:=h;cases h;done)
  |(obtain⟨_,_,h,_⟩:=h;cases h;done)
  |(obtain⟨_,h,_⟩:=h;cases h;done)
def VR.jr{x:V}(h:VR μ x .nilIface):x=.bh:=by
 cases x<;>simp only[VR]at h<;>first
  |rfl
  |(cases h;done)
  |(obtain⟨_,_,h⟩:=h;cases h;done)
  |(obtain⟨_,_,_,h,_⟩:=h;cases h;done)
  |(obtain⟨_,_,h,_⟩:=h;cases h;done)
  |(obtain⟨_,h,_⟩:=h;cases h;done)
def VR.wh{x:V}{s:Array Value}(h:VR μ x (.agg s)):∃l,x=.agg l:=by
 cases x<;>simp only[VR]at h<;>first
  |exact⟨_,rfl⟩
  |(cases h;done)
  |(obtain⟨_,_,h⟩:=h;cases h;done)
  |(obtain⟨_,_,_,h,_⟩:=h;cases h;done)
  |(obtain⟨_,_,h,_⟩:=h;cases h;done)
  |(obtain⟨_,h,_⟩:=h;cases h;done)
def Zkg{t:TypeId}{X Y:Value}{b:Bool}(hi:∀k m k' m',¬(X=.int k m/\Y=.int k' m'))(hs:∀s s',¬(X=.string s/\Y=.string s'))
  (hf:∀k m k' m',¬(X=.float k m/\Y=.float k' m')) (hc:∀k m p k' m' p',¬(X=.complex k m p/\Y=.complex k' m' p')) (h:(Op.equal t X Y).run P w=.ok b w):
  (binOp .eql t X Y).run P w=.ok (.bool b) w/\(binOp .neq t X Y).run P w=.ok (.bool (!b)) w:=by
 constructor
 ·unfold binOp
  split<;>first
   |(exact absurd ⟨rfl,rfl⟩ (hi _ _ _ _))
   |(exact absurd ⟨rfl,rfl⟩ (hs _ _))
   |(exact absurd ⟨rfl,rfl⟩ (hf _ _ _ _))
   |(exact absurd ⟨rfl,rfl⟩ (hc _ _ _ _ _ _))
   |(simp[h];done)
   |simp_all
 ·unfold binOp
  split<;>first
   |(exact absurd ⟨rfl,rfl⟩ (hi _ _ _ _))
   |(exact absurd ⟨rfl,rfl⟩ (hs _ _))
   |(exact absurd ⟨rfl,rfl⟩ (hf _ _ _ _))
   |(exact absurd ⟨rfl,rfl⟩ (hc _ _ _ _ _ _))
   |(simp[h];done)
   |simp_all
def Ypl(P:Program)(op:BinOp)(t:TypeId)(x y:Operand)(q:rK)(ng:Bool):Prop:=
 (op=.eql\/op=.neq)->vH P 40 t=some q/\(match P.underlying t with|some (.struct _)|some (.array _ _)=>P.eqGuardType P.depth t|_=>false)=false/\ng=(Ir x||Ir y)
def Zgm{op:BinOp}{t:TypeId}{x y:Operand}{X Y z:Value}(hg:(eqGuard op t x y X Y).run P w=.ok () w)(hb:(binOp op t X Y).run P w=.ok z w):
  (do eqGuard op t x y X Y;binOp op t X Y:Sem Value).run P w=.ok z w:=by simp[hg,hb,Result.andThen]
def Zu0{d:Nat}{t:TypeId}{l:List (Nat×Option Nat×rK)}(h:vH P d t=some (.node l)):∃fs,P.underlying t=some (.struct fs):=by
 cases d with
 |zero=>simp[vH]at h
 |succ d=>
  simp only[vH]at h
  split at h
  ·rename_i fs ht;exact⟨fs,ht⟩
  ·split at h
   ·split at h<;>simp at h
   ·cases h
  ·cases h
def Zmh{t:TypeId}{kd:ChanDir}{e:TypeId}{x y:Option Nat}(D:Nat)(ht:P.underlying t=some (.chan kd e)):(Op.equalIn (D+1) t (.chan x) (.chan y)).run P w=.ok (x==y) w:=by
 simp[Op.equalIn,run_underlying ht]
def Yf5{d:Nat}{t:TypeId}(hq:vH P d t=some (.zgf .chan)):∃k e,P.underlying t=some (.chan k e):=by
 cases d with
 |zero=>simp[vH]at hq
 |succ d=>
  simp only[vH]at hq
  split at hq
  ·split at hq
   ·cases hq
   ·split at hq<;>simp at hq
  ·rename_i dd _ ht
   split at hq
   ·rename_i k hk
    split at hq
    ·simp only[au,rK.zgf.injEq]at hq;subst hq
     cases dd<;>simp[S6]at hk
     exact⟨_,_,ht⟩
    ·cases hq
   ·cases hq
  ·cases hq
def Yjz(hh:Za9 P μ w st){op:BinOp}{t:TypeId}{x y:Operand}{X Y:Value}{q:rK}{ng:Bool}(hc:Ypl P op t x y q ng){i j:Nat}(h1:VR μ (.chan i) X)(h2:VR μ (.chan j) Y)
  (h:Th op q st i j=some (v,st')):
  Za5 P μ w st (do pure (.value (<-(do eqGuard op t x y X Y;binOp op t X Y:Sem Value)))) v st':=by
 obtain⟨l,hl,rfl⟩:=h1
 obtain⟨l',vF,rfl⟩:=h2
 have hg:(eqGuard op t x y (.chan (some l.b)) (.chan (some l'.b))).run P w=.ok () w:=Ox (by intro h;cases h) (by intro _ _ h;cases h)
 have zeh:∀c b c' b',st.h.get i=some (.chan c b)->st.h.get j=some (.chan c' b')->(some l.b==some l'.b)=(i==j):=by
  intro c b c' b' g1 g2
  by_cases e:i=j
  ·subst e;rw[hl]at vF;cases vF;simp
  ·have:=hh.inj i j l l' _ _ hl vF e g1 g2 rfl rfl
   have e2:(i==j)=false:=by simpa using e
   rw[e2];simpa using this
 have main:(op=.eql\/op=.neq)->q=.zgf .chan->∀c b c' b',st.h.get i=some (.chan c b)->st.h.get j=some (.chan c' b')->
   (binOp .eql t (.chan (some l.b)) (.chan (some l'.b))).run P w=.ok (.bool (i==j)) w/\(binOp .neq t (.chan (some l.b)) (.chan (some l'.b))).run P w=.ok (.bool (!(i==j))) w:=by
  intro xl hq c b c' b' g1 g2
  subst hq
  obtain⟨kd,e,ht⟩:=Yf5 (hc xl).1
  refine Zkg (fun _ _ _ _ e=>by cases e.1) (fun _ _ e=>by cases e.1) (fun _ _ _ _ e=>by cases e.1) (fun _ _ _ _ _ _ e=>by cases e.1) ?_
  have:=Zmh (P:=P) (w:=w) (x:=some l.b) (y:=some l'.b) 9999 ht
  rw[zeh _ _ _ _ g1 g2]at this
  exact this
 unfold Th at h
 split at h
 ·rename_i g1 g2
  simp only[au,bE]at h
  obtain⟨rfl,rfl⟩:=h
  exact Za5.value hh (Zgm hg (main (.inl rfl) rfl _ _ _ _ g1 g2).1) (by simp[VR])
 ·rename_i g1 g2
  simp only[au,bE]at h
  obtain⟨rfl,rfl⟩:=h
  exact Za5.value hh (Zgm hg (main (.inr rfl) rfl _ _ _ _ g1 g2).2) (by simp[VR])
 ·cases h
def Yrk(hh:Za9 P μ w st)(hr:RR μ r n a.tmps){op:BinOp}{t:TypeId}{x y:Operand}{s u:Src}{q:rK}{ng:Bool}(hx:bG P x=some s)(hy:bG P y=some u)
  (hc:Ypl P op t x y q ng) (h:IP op q ng s u call r st=some (v,st')):
  Za5 P μ w st (do pure (.value (<-(do eqGuard op t x y (a.eval x) (a.eval y);binOp op t (a.eval x) (a.eval y):Sem Value)))) v st':=by
 unfold IP at h
 split at h
 ·rename_i i j hs hu
  exact Yjz hh hc (cU hh hr hx hs) (cU hh hr hy hu) h
 ·rename_i x1 y1 _ hs hu
  have h1:=cU hh hr hx hs
  have h2:=cU hh hr hy hu
  generalize a.eval x=X at*
  generalize a.eval y=Y at*
  split at h
  ·rename_i z hz
   simp only[au,bE]at h
   obtain⟨rfl,rfl⟩:=h
   unfold Ytk at hz
   split at hz
   ·-- two integers
    rename_i k p k' p' _
    simp only[VR]at h1 h2
    subst h1 h2
    have hg:(eqGuard op t x y (.int k p) (.int k' p')).run P w=.ok () w:=Ox (by intro h;cases h) (by intro _ _ h;cases h)
    split at hz
    ·obtain⟨y',h3,h4⟩:=Zpf (P:=P) (μ:=μ) (w:=w) (t:=t) (k':=k') (.inl rfl) hz
     exact Za5.value hh (Zgm hg h3) h4
    ·obtain⟨y',h3,h4⟩:=Zpf (P:=P) (μ:=μ) (w:=w) (t:=t) (k':=k') (.inr rfl) hz
     exact Za5.value hh (Zgm hg h3) h4
    ·split at hz
     ·rename_i e;subst e
      obtain⟨y',h3,h4⟩:=Yaa (P:=P) (μ:=μ) (w:=w) (t:=t) hz
      exact Za5.value hh (Zgm hg h3) h4
     ·cases hz
   ·rename_i p p' _
    simp only[VR]at h1 h2
    subst h1 h2
    have hg:(eqGuard op t x y (.string ⟨p.toArray⟩) (.string ⟨p'.toArray⟩)).run P w=.ok () w:=Ox (by intro h;cases h) (by intro _ _ h;cases h)
    obtain⟨y',h3,h4⟩:=Zyw (P:=P) (μ:=μ) (w:=w) (t:=t) hz
    exact Za5.value hh (Zgm hg h3) h4
   ·rename_i hni hns
    have main:∀b,tC ng q x1 y1=some b->(op=.eql\/op=.neq)->
      (eqGuard op t x y X Y).run P w=.ok () w/\(binOp .eql t X Y).run P w=.ok (.bool b) w/\(binOp .neq t X Y).run P w=.ok (.bool (!b)) w:=by
     intro b hb xl
     obtain⟨hq,Ml,OU⟩:=hc xl
     have he:=Yob (w:=w) 40 hq hb h1 h2 10000 (by omega)
     refine⟨Ox (fun e1 e2=>?_) (fun A B e1 e2=>?_),Zkg (fun k m k' m' e=>?_) (fun p p' e=>?_) (fun k m k' m' e=>?_) (fun k m m' k' m1 m2 e=>?_) he⟩
     ·subst e1 e2
      have:=h1.jr;subst this
      have:=h2.jr;subst this
      cases q with
      |zgf k=>cases k<;>simp[tC,a_]at hb;rw[OU]at hb;simpa using hb.1
      |node l=>simp[tC]at hb
     ·subst e1 e2
      obtain⟨l1,rfl⟩:=h1.wh
      obtain⟨l2,rfl⟩:=h2.wh
      cases q with
      |zgf k=>cases k<;>simp[tC,a_]at hb
      |node l=>
       obtain⟨fs,xK⟩:=Zu0 hq
       simpa[xK]using Ml
     ·obtain⟨rfl,rfl⟩:=e
      exact hni _ _ _ _ h1.v_ h2.v_
     ·obtain⟨rfl,rfl⟩:=e
      obtain⟨l1,e1⟩:=h1.nM
      obtain⟨l2,e2⟩:=h2.nM
      exact hns _ _ e1 e2
     ·obtain⟨rfl,rfl⟩:=e
      have e1:=h1.px;subst e1
      have e2:=h2.px;subst e2
      cases q with
      |zgf k=>cases k<;>simp[tC,a_]at hb
      |node l=>simp[tC]at hb
     ·obtain⟨rfl,rfl⟩:=e
      have e1:=h1.zgs;subst e1
      have e2:=h2.zgs;subst e2
      cases q with
      |zgf k=>cases k<;>simp[tC,a_]at hb
      |node l=>simp[tC]at hb
    split at hz
    ·split at hz
     ·rename_i b hb
      simp only[au]at hz;subst hz
      obtain⟨g1,g2,_⟩:=main b hb (.inl rfl)
      exact Za5.value hh (Zgm g1 g2) (by simp[VR])
     ·cases hz
    ·split at hz
     ·rename_i b hb
      simp only[au]at hz;subst hz
      obtain⟨g1,_,g2⟩:=main b hb (.inr rfl)
      exact Za5.value hh (Zgm g1 g2) (by simp[VR])
     ·cases hz
    ·cases hz
  ·cases h
 ·cases h
end
end Go.Mx
