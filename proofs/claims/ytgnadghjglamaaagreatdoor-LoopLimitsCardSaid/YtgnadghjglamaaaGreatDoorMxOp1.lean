/-The operations of M stand for the Go mod-/
import Derived.Test.YtgnadghjglamaaaGreatDoorMxComp
import Derived.LaidEql
set_option linter.all false
set_option maxHeartbeats 2000000
namespace Go.Mx
open Go
mutual
def Tc(μ:Mu):∀(x:Value) (v:V),cV x=some v->VR μ v x
 |.bool b,v,h=>by simp only[cV,au]at h;subst h;simp[VR]
 |.int k n,v,h=>by simp only[cV,au]at h;subst h;simp[VR]
 |.float k n,v,h=>by simp only[cV,au]at h;subst h;simp[VR]
 |.complex ..,v,h=>by simp only[cV,au]at h;subst h;simp[VR]
 |.string s,v,h=>by simp only[cV,au]at h;subst h;simp[VR]
 |.pointer none,v,h=>by simp only[cV,au]at h;subst h;simp[VR]
 |.pointer (some _),v,h=>by simp[cV]at h
 |.slice none 0 0,v,h=>by simp only[cV,au]at h;subst h;simp[VR]
 |.slice none 0 (c+1),v,h=>by simp[cV]at h
 |.slice none (n+1) c,v,h=>by simp[cV]at h
 |.slice (some _) _ _,v,h=>by simp[cV]at h
 |.map none,v,h=>by simp only[cV,au]at h;subst h;simp[VR]
 |.map (some _),v,h=>by simp[cV]at h
 |.chan none,v,h=>by simp only[cV,au]at h;subst h;simp[VR]
 |.chan (some _),v,h=>by simp[cV]at h
 |.func ..,v,h=>by simp[cV]at h
 |.nilFunc,v,h=>by simp only[cV,au]at h;subst h;simp[VR]
 |.iface ..,v,h=>by simp[cV]at h
 |.nilIface,v,h=>by simp only[cV,au]at h;subst h;simp[VR]
 |.agg ⟨l⟩,v,h=>by
  simp only[cV]at h
  split at h
  ·rename_i l' hl
   simp only[au]at h;subst h
   exact⟨l,rfl,Zul μ l l' hl⟩
  ·cases h
 |.tuple ⟨l⟩,v,h=>by
  simp only[cV]at h
  split at h
  ·rename_i l' hl
   simp only[au]at h;subst h
   exact⟨l,rfl,Zul μ l l' hl⟩
  ·cases h
def Zul(μ:Mu):∀(xs:List Value) (vs:List V),Lx xs=some vs->aW μ vs xs
 |[],vs,h=>by simp only[Lx,au]at h;subst h;simp[aW]
 |x::xs,vs,h=>by
  simp only[Lx]at h
  split at h
  ·rename_i v mj hv IG
   simp only[au]at h;subst h
   exact⟨x,xs,rfl,Tc μ x v hv,Zul μ xs mj IG⟩
  ·cases h
end
section
variable {P:Program} {μ:Mu} {w:World} {st:St} {r:T V} {n:Nat} {a:Act}
def cO(hh:bk P μ w st)(hr:RR μ r n a.tmps){x:Operand}{s:Src}(hc:bo P x=some s){v:V}(hv:s.ev r=some v):VR μ v (a.eval x):=by
 cases x with
 |tmp t=>
  simp only[bo,au]at hc;subst hc
  obtain⟨y,h1,h2⟩:=hr.2 t v hv
  simpa[Act.eval,ID,h1]using h2
 |const c=>
  simp only[bo]at hc
  split at hc
  ·rename_i v' Jq
   simp only[au]at hc;subst hc
   simp only[Src.ev,au]at hv;subst hv
   exact Tc μ c v' Jq
  ·cases hc
 |global g=>
  simp only[bo]at hc
  split at hc
  ·rename_i hg
   simp only[au]at hc;subst hc
   simp only[Src.ev,au]at hv;subst hv
   obtain⟨t,ht⟩:=hh.ij g hg
   exact⟨_,ht,rfl⟩
  ·cases hc
 |func f=>
  simp only[bo,au]at hc;subst hc
  simp only[Src.ev,au]at hv;subst hv
  exact⟨[],[],rfl,by simp[aW],by simp[aW]⟩
def Ju(hh:bk P μ w st)(hr:RR μ r n a.tmps):∀{xs:List Operand} {ss:List Src},uW P xs=some ss->∀{vs:List V},tY r ss=some vs->aW μ vs (xs.map a.eval)
 |[],ss,hc,vs,hv=>by
  simp only[uW,au]at hc;subst hc
  simp only[tY,au]at hv;subst hv
  simp[aW]
 |x::xs,ss,hc,vs,hv=>by
  simp only[uW]at hc
  split at hc
  ·rename_i s ss' h1 h2
   simp only[au]at hc;subst hc
   simp only[tY]at hv
   split at hv
   ·rename_i v mj h3 h4
    simp only[au]at hv;subst hv
    exact⟨_,_,rfl,cO hh hr h1 h3,Ju hh hr h2 h4⟩
   ·cases hv
  ·cases hc
def Zru(hh:bk P μ w st)(hr:RR μ r n a.tmps){x:Option Operand}{s:Option Src}(hc:rW P x=some s){v:Option V}(hv:aC r s=some v):
  (v=none/\x=none)\/∃v' x',v=some v'/\x=some x'/\VR μ v' (a.eval x'):=by
 cases x with
 |none=>
  simp only[rW,au]at hc;subst hc
  simp only[aC,au]at hv;subst hv
  exact .inl ⟨rfl,rfl⟩
 |some x=>
  simp only[rW]at hc
  split at hc
  ·rename_i s' h1
   simp only[au]at hc;subst hc
   simp only[aC]at hv
   split at hv
   ·rename_i v' h2
    simp only[au]at hv;subst hv
    exact .inr ⟨v',x,rfl,rfl,cO hh hr h1 h2⟩
   ·cases hv
  ·cases hc
def a_(P:Program)(μ:Mu)(w:World)(st:St)(s:Sem Next)(v:V)(aB:St):Prop:=
 ∃nx x w' μ' ws,s.run P w=.ok nx w'/\(nx=.value x\/(nx=.skip/\x=undef))/\VR μ' v x/\bD P μ w st μ' w' aB ws
def a_.value(hh:bk P μ w st){s:Sem Value}{v:V}{x:Value}(hs:s.run P w=.ok x w)(hv:VR μ v x):
  a_ P μ w st (do pure (.value (<-s))) v st:=
 ⟨.value x,x,w,μ,[],by simp[hs,Result.andThen],.inl rfl,hv,bD.refl hh⟩
def a_.OI(hh:bk P μ w st){v:V}{x:Value}(hv:VR μ v x):a_ P μ w st (pure (.value x)) v st:=
 ⟨.value x,x,w,μ,[],by simp,.inl rfl,hv,bD.refl hh⟩
def Znx{t:TypeId}(h:xx P t=some none):(isAgg t).run P w=.ok false w:=by
 unfold xx at h
 split at h
 ·split at h<;>simp at h
 ·split at h<;>simp at h
 ·rename_i d h1 h2 hd
  cases d<;>simp[isAgg,run_underlying hd]<;>simp_all
 ·cases h
def Lt{t:TypeId}{k:Nat}(h:xx P t=some (some k)):(isAgg t).run P w=.ok true w/\(sizeOf t).run P w=.ok k w:=by
 unfold xx ff at h
 split at h
 ·rename_i fs hd
  split at h
  ·rename_i n hn
   simp only[au]at h;subst h
   simp only[ig]at hn
   obtain⟨i,hi,rfl⟩:=hn
   exact⟨by simp[isAgg,run_underlying hd],by simp[sizeOf,typeInfo,hi]⟩
  ·cases h
 ·rename_i k' e hd
  split at h
  ·rename_i n hn
   simp only[au]at h;subst h
   simp only[ig]at hn
   obtain⟨i,hi,rfl⟩:=hn
   exact⟨by simp[isAgg,run_underlying hd],by simp[sizeOf,typeInfo,hi]⟩
  ·cases h
 ·cases h
 ·cases h
def xI{t:TypeId}{k:Nat}(h:ff P t=some k):(sizeOf t).run P w=.ok k w:=by
 unfold ff at h
 simp only[ig]at h
 obtain⟨i,hi,rfl⟩:=h
 simp[sizeOf,typeInfo,hi]
def Zqo{t:TypeId}{v:V}(h:oT P t=some v):∃x,(zeroValue t).run P w=.ok x w/\∀μ,VR μ v x:=by
 unfold oT at h
 split at h
 ·rename_i i hi
  split at h
  ·rename_i x hx
   exact⟨x,by simp[zeroValue,typeInfo,hi,hx],fun μ=>Tc μ x v h⟩
  ·cases h
 ·cases h
def wJ(b o j:Nat):(⟨b,o,none⟩:Addr).add j=⟨b,o+j,none⟩:=by
 unfold Addr.add;split<;>simp_all
def OM.cell{c:List V}{e:TypeId}{rw:Bool}{l:L}(h:OM P μ w (.cells c e rw) l){j:Nat}{v:V}(hv:c[j]?=some v):
  ∃x,w.cell? ⟨l.b,l.d+j,none⟩=some x/\VR μ v x:=by
 obtain⟨c',lo,hi,h1,_,_,h4,_⟩:=h
 obtain⟨x,hx,hr⟩:=h4 j v hv
 exact⟨x,by simp[World.cell?,h1,hx],hr⟩
def OM.zm{c:List V}{e:TypeId}{rw:Bool}{l:L}(h:OM P μ w (.cells c e rw) l){o k:Nat}{vs:List V}(hs:aE c o k=some vs):
  ∃xs:List Value,aW μ vs xs/\xs.length=k/\(loadCells ⟨l.b,l.d+o,none⟩ k).run P w=.ok xs.toArray w/\(∀(j:Nat) (x:Value),xs[j]?=some x->w.cell? ⟨l.b,l.d+o+j,none⟩=some x)/\(∀x∈xs,x.oneCell'=true):=by
 unfold aE at hs
 split at hs
 ·rename_i hle
  simp only[au]at hs;subst hs
  obtain⟨c',lo,hi,h1,h2,h3,h4,h5,_⟩:=h
  have hlen:l.d+o+k<=c'.size:=by omega
  have hl:((c'.toList.drop (l.d+o)).take k).length=k:=by simp;omega
  have hg:∀(j:Nat) (x:Value),((c'.toList.drop (l.d+o)).take k)[j]?=some x->c'[l.d+o+j]?=some x:=fun j x hx=>by
   rw[lX]at hx
   split at hx
   ·simpa[ix]using hx
   ·cases hx
  have gl:∀(j:Nat) (x:Value),((c'.toList.drop (l.d+o)).take k)[j]?=some x->w.cell? ⟨l.b,l.d+o+j,none⟩=some x:=fun j x hx=>by
   simp[World.cell?,h1,hg j x hx]
  refine⟨(c'.toList.drop (l.d+o)).take k,?_,hl,?_,gl,fun x hx=>?_⟩
  ·refine aW.qN (by rw[hl];simp;omega) fun j v hv=>?_
   rw[lX]at hv
   split at hv
   ·rename_i hj
    rw[ix]at hv
    obtain⟨x,hx,hr⟩:=h4 (o+j) v hv
    refine⟨x,?_,hr⟩
    rw[lX,aQ hj,ix]
    simpa[qS]using hx
   ·cases hv
  ·have:=run_loadCells_list (P:=P) w ⟨l.b,l.d+o,none⟩ ((c'.toList.drop (l.d+o)).take k) (fun j x hx=>by rw[wJ];exact gl j x hx)
   rwa [hl]at this
  ·obtain⟨j,hj⟩:=Uh hx
   have AL:j<k:=by rw[<-hl];exact(A3.1 hj).1
   exact h5 (o+j) x (by omega) (by rw[<-qS];exact hg j x hj)
 ·cases hs
def Td{t:TypeId}{vs:List V}{xs:List Value}(pO:aW μ vs xs){k:Option Nat}(ha:xx P t=some k){o:Nat}{v:V}(hv:aJ vs o k=some v):
  ∃x,(part t ⟨xs⟩ o).run P w=.ok x w/\VR μ v x:=by
 cases k with
 |none=>
  simp only[aJ]at hv
  obtain⟨x,hx,hr⟩:=pO.get hv
  exact⟨x,by simp[part,Znx ha,Result.andThen,hx],hr⟩
 |some k=>
  simp only[aJ]at hv
  split at hv
  ·rename_i l hl
   simp only[au]at hv;subst hv
   unfold aE at hl
   split at hl
   ·simp only[au]at hl;subst hl
    refine⟨.agg ⟨(xs.drop o).take k⟩,?_,⟨_,rfl,(pO.drop o).take k⟩⟩
    simp[part,(Lt ha).1,(Lt ha).2,Result.andThen]
   ·cases hl
  ·cases hv
end
section
variable {P:Program} {μ:Mu} {w:World} {st aB:St} {r:T V} {n:Nat} {a:Act} {call:cM} {v:V}
def OJ{i:Nat}{c:List V}{e:TypeId}{rw:Bool}(h:st.row i=some (c,e,rw)):st.h.get i=some (.cells c e rw):=by
 unfold St.row at h
 split at h
 ·rename_i hg
  simp only[au,bj]at h
  obtain⟨rfl,rfl,rfl⟩:=h
  exact hg
 ·cases h
def bk.row(hh:bk P μ w st){i:Nat}{l:L}(hl:μ i=some l){c:List V}{e:TypeId}{rw:Bool}(h:st.row i=some (c,e,rw)):OM P μ w (.cells c e rw) l:=by
 obtain⟨o,h1,h2⟩:=hh.obj i l hl
 rw[OJ h,au]at h1
 subst h1;exact h2
def bk.get(hh:bk P μ w st){i:Nat}{l:L}(hl:μ i=some l){o:O}(h:st.h.get i=some o):OM P μ w o l:=by
 obtain⟨o',h1,h2⟩:=hh.obj i l hl
 rw[h,au]at h1
 subst h1;exact h2
def Yhp(hh:bk P μ w st)(hr:RR μ r n a.tmps){x:Operand}{s:Src}(hx:bo P x=some s)(h:I1 s call r st=some (v,aB)):
  a_ P μ w st (pure (.value (a.eval x))) v aB:=by
 unfold I1 at h
 split at h
 ·rename_i u hu
  simp only[au,bj]at h
  obtain⟨rfl,rfl⟩:=h
  exact a_.OI hh (cO hh hr hx hu)
 ·cases h
def Yjh(hh:bk P μ w st)(hr:RR μ r n a.tmps){x y z:Operand}{s t u:Src}(hx:bo P x=some s)(hy:bo P y=some t)(hz:bo P z=some u)
  (h:DN s t u call r st=some (v,aB)):
  a_ P μ w st (do pure (.value (if <-asBool (a.eval x) then a.eval y else a.eval z))) v aB:=by
 unfold DN at h
 split at h
 ·rename_i hs
  have h1:=cO hh hr hx hs
  simp only[VR]at h1
  split at h
  ·rename_i v1 ht
   simp only[au,bj]at h
   obtain⟨rfl,rfl⟩:=h
   exact⟨_,a.eval y,w,μ,[],by simp[h1,asBool],.inl rfl,cO hh hr hy ht,bD.refl hh⟩
  ·cases h
 ·rename_i hs
  have h1:=cO hh hr hx hs
  simp only[VR]at h1
  split at h
  ·rename_i v1 ht
   simp only[au,bj]at h
   obtain⟨rfl,rfl⟩:=h
   exact⟨_,a.eval z,w,μ,[],by simp[h1,asBool],.inl rfl,cO hh hr hz ht,bD.refl hh⟩
  ·cases h
 ·cases h
def Yka(hh:bk P μ w st)(hr:RR μ r n a.tmps){t:TypeId}{k:Option Nat}{x:Operand}{s:Src}(ha:xx P t=some k)(hx:bo P x=some s)
  (h:Zip k s call r st=some (v,aB)):a_ P μ w st (do pure (.value (<-Instr.loadAt t (a.eval x)))) v aB:=by
 unfold Zip at h
 split at h
 ·rename_i i o hs
  obtain⟨l,hl,he⟩:=cO hh hr hx hs
  split at h
  ·rename_i c e rw aM
   have yi:=hh.row hl aM
   split at h
   ·rename_i u hu
    simp only[au,bj]at h
    obtain⟨rfl,rfl⟩:=h
    cases k with
    |none=>
     simp only[aJ]at hu
     obtain⟨y,hy,hv⟩:=yi.cell hu
     exact a_.value hh (by simp[Instr.loadAt,Instr.sureAddr,he,loadVar,Znx ha,Result.andThen,hy]) hv
    |some k=>
     simp only[aJ]at hu
     split at hu
     ·rename_i vs IG
      simp only[au]at hu;subst hu
      obtain⟨xs,h1,_,h3,_⟩:=yi.zm IG
      exact a_.value hh (x:=.agg xs.toArray) (by simp[Instr.loadAt,Instr.sureAddr,he,loadVar,(Lt ha).1,(Lt ha).2,Result.andThen,h3]) ⟨xs,rfl,h1⟩
     ·cases hu
   ·cases h
  ·cases h
 ·cases h
def Yfj(hh:bk P μ w st)(hr:RR μ r n a.tmps){x:Operand}{s:Src}(hx:bo P x=some s)(h:I5 s call r st=some (v,aB)){ty:TypeId}{d:Option Tmp}{pos:String}{af:Array Edge}{g:Option (Nat×Bool)}:
  a_ P μ w st (execOp a.eval ⟨d,.nilCheck x,ty,pos,af,g⟩) v aB:=by
 unfold I5 at h
 split at h
 ·rename_i i o hs
  simp only[au,bj]at h
  obtain⟨rfl,rfl⟩:=h
  have h0:=cO hh hr hx hs
  obtain⟨l,hl,he⟩:=h0
  exact⟨_,_,w,μ,[],by simp[execOp,he],.inl rfl,⟨l,hl,rfl⟩,bD.refl hh⟩
 ·rename_i f b c hs
  simp only[au,bj]at h
  obtain⟨rfl,rfl⟩:=h
  obtain⟨a',c',he,h1,h2⟩:=cO hh hr hx hs
  exact⟨_,_,w,μ,[],by simp[execOp,he],.inl rfl,⟨a',c',rfl,h1,h2⟩,bD.refl hh⟩
 ·cases h
def Yga(hh:bk P μ w st)(hr:RR μ r n a.tmps){t:TypeId}{i:Nat}{x:Operand}{s:Src}{fs:Array Field}{f:Field}{k:Nat}(ht:P.underlying t=some (.struct fs))(hf:fs[i]?=some f)
  (hk:ff P f.type=some (k+1)) (hx:bo P x=some s) (h:Jb f.offset s call r st=some (v,aB)):
  a_ P μ w st (do pure (.value (<-Instr.fieldAt t (a.eval x) i))) v aB:=by
 unfold Jb at h
 split at h
 ·rename_i j o hs
  simp only[au,bj]at h
  obtain⟨rfl,rfl⟩:=h
  obtain⟨l,hl,he⟩:=cO hh hr hx hs
  refine a_.value hh (x:=.pointer (some ⟨l.b,l.d+(o+f.offset),none⟩)) ?_ ⟨l,hl,rfl⟩
  simp[Instr.fieldAt,run_underlying ht,hf,Instr.sureAddr,he,fieldPlace,xI hk,Result.andThen,wJ,qS]
 ·cases h
def Yf9(hh:bk P μ w st)(hr:RR μ r n a.tmps){t:TypeId}{i:Nat}{x:Operand}{s:Src}{fs:Array Field}{f:Field}{k:Option Nat}(ht:P.underlying t=some (.struct fs))(hf:fs[i]?=some f)
  (hk:xx P f.type=some k) (hx:bo P x=some s) (h:Jc f.offset k s call r st=some (v,aB)):
  a_ P μ w st (do pure (.value (<-Instr.field t (a.eval x) i))) v aB:=by
 unfold Jc at h
 split at h
 ·rename_i cs hs
  obtain⟨xs,he,pO⟩:=cO hh hr hx hs
  split at h
  ·rename_i u hu
   simp only[au,bj]at h
   obtain⟨rfl,rfl⟩:=h
   obtain⟨y,hy,hv⟩:=Td (P:=P) (w:=w) pO hk hu
   exact a_.value hh (by simp[Instr.field,run_underlying ht,hf,he,asAgg,hy]) hv
  ·cases h
 ·cases h
def Zt4(hh:bk P μ w st)(hr:RR μ r n a.tmps){t e:TypeId}{k z:Nat}{x i:Operand}{s q:Src}(ht:P.underlying t=some (.array k e))(hz:ff P e=some z)
  (hx:bo P x=some s) (hi:bo P i=some q) (h:Cc k z s q call r st=some (v,aB)):
  a_ P μ w st (do pure (.value (<-Instr.indexAt t (a.eval x) (a.eval i)))) v aB:=by
 unfold Cc at h
 split at h
 ·rename_i b o kd j hs hq
  split at h
  ·rename_i hj
   simp only[au,bj]at h
   obtain⟨rfl,rfl⟩:=h
   obtain⟨l,hl,he⟩:=cO hh hr hx hs
   have jx:=cO hh hr hi hq
   simp only[VR]at jx
   refine a_.value hh (x:=.pointer (some ⟨l.b,l.d+(o+j.toNat*z),none⟩)) ?_ ⟨l,hl,rfl⟩
   have nM:j<(k:Int):=hj.2
   simp[Instr.indexAt,asIntOf,jx,run_underlying ht,Instr.sureAddr,he,hj.1,nM,xI hz,Result.andThen,wJ,qS]
  ·cases h
 ·cases h
def Zyl(hh:bk P μ w st)(hr:RR μ r n a.tmps){t e:TypeId}{z:Nat}{x i:Operand}{s q:Src}(ht:P.underlying t=some (.slice e))(hz:ff P e=some z)
  (hx:bo P x=some s) (hi:bo P i=some q) (h:DR z s q call r st=some (v,aB)):
  a_ P μ w st (do pure (.value (<-Instr.indexAt t (a.eval x) (a.eval i)))) v aB:=by
 unfold DR at h
 split at h
 ·rename_i b o len cp sz kd j hs hq
  split at h
  ·rename_i hj
   simp only[au,bj]at h
   obtain⟨rfl,rfl⟩:=h
   obtain⟨l,c,hl,he,_⟩:=cO hh hr hx hs
   have jx:=cO hh hr hi hq
   simp only[VR]at jx
   refine a_.value hh (x:=.pointer (some ⟨l.b,l.d+(o+j.toNat*z),none⟩)) ?_ ⟨l,hl,rfl⟩
   have nM:j<(len:Int):=hj.2
   simp[Instr.indexAt,asIntOf,jx,run_underlying ht,he,hj.1,nM,xI hz,Result.andThen,wJ,qS]
  ·cases h
 ·cases h
def Ycd(hh:bk P μ w st)(hr:RR μ r n a.tmps){t e:TypeId}{k z:Nat}{m:Option Nat}{x i:Operand}{s q:Src}(ht:P.underlying t=some (.array k e))(hz:ff P e=some z)(hm:xx P e=some m)
  (hx:bo P x=some s) (hi:bo P i=some q) (h:LR k z m s q call r st=some (v,aB)):
  a_ P μ w st (do pure (.value (<-Instr.index t (a.eval x) (a.eval i)))) v aB:=by
 unfold LR at h
 split at h
 ·rename_i cs kd j hs hq
  split at h
  ·rename_i hj
   split at h
   ·rename_i u hu
    simp only[au,bj]at h
    obtain⟨rfl,rfl⟩:=h
    obtain⟨xs,he,pO⟩:=cO hh hr hx hs
    have jx:=cO hh hr hi hq
    simp only[VR]at jx
    obtain⟨y,hy,hv⟩:=Td (P:=P) (w:=w) pO hm hu
    have nM:j<(k:Int):=hj.2
    exact a_.value hh (by simp[Instr.index,asIntOf,jx,run_underlying ht,he,hj.1,nM,xI hz,Result.andThen,hy]) hv
   ·cases h
  ·cases h
 ·cases h
def Ycb(hh:bk P μ w st)(hr:RR μ r n a.tmps){t:TypeId}{x i:Operand}{s q:Src}(ht:P.underlying t=some .string)
  (hx:bo P x=some s) (hi:bo P i=some q) (h:DS s q call r st=some (v,aB)):
  a_ P μ w st (do pure (.value (<-Instr.index t (a.eval x) (a.eval i)))) v aB:=by
 unfold DS at h
 split at h
 ·rename_i cs kd j hs hq
  split at h
  ·rename_i hj
   split at h
   ·rename_i u hu
    simp only[au,bj]at h
    obtain⟨rfl,rfl⟩:=h
    have he:=cO hh hr hx hs
    have jx:=cO hh hr hi hq
    simp only[VR]at jx he
    have hb:(⟨cs.toArray⟩:ByteArray)[j.toNat]?=some u:=by
     obtain⟨aP,cU⟩:=A3.1 hu
     rw[getElem?_pos (⟨cs.toArray⟩:ByteArray) j.toNat (by show j.toNat<cs.toArray.size;simpa using aP)]
     simp only[au]
     exact cU
    exact a_.value hh (x:=.int .u8 u.toNat) (by simp[Instr.index,asIntOf,jx,run_underlying ht,he,hj,hb]) (by simp[VR])
   ·cases h
  ·cases h
 ·cases h
def Zyt(hh:bk P μ w st)(hr:RR μ r n a.tmps){x:Operand}{s:Src}{i:Nat}(hx:bo P x=some s)(h:Jg s i call r st=some (v,aB)):
  a_ P μ w st (do pure (.value (<-Instr.extract (a.eval x) i))) v aB:=by
 unfold Jg at h
 split at h
 ·rename_i vs hs
  split at h
  ·rename_i u hu
   simp only[au,bj]at h
   obtain⟨rfl,rfl⟩:=h
   obtain⟨xs,he,pO⟩:=cO hh hr hx hs
   obtain⟨y,hy,hv⟩:=pO.get hu
   exact a_.value hh (by simp[Instr.extract,he,hy]) hv
  ·cases h
 ·cases h
def Zxw(hh:bk P μ w st)(hr:RR μ r n a.tmps){t:TypeId}{x:Operand}{s:Src}{d:TypeDesc}(ht:P.underlying t=some d)(hd:∀m,d≠.interface m)(hx:bo P x=some s)
  (h:LP t s call r st=some (v,aB)):a_ P μ w st (do pure (.value (<-Instr.makeInterface t (a.eval x)))) v aB:=by
 unfold LP at h
 split at h
 ·rename_i u hu
  simp only[au,bj]at h
  obtain⟨rfl,rfl⟩:=h
  refine a_.value hh (x:=.iface t (a.eval x)) ?_ ⟨_,rfl,cO hh hr hx hu⟩
  cases d<;>simp[Instr.makeInterface,run_underlying ht,Result.andThen]at hd ⊢
 ·cases h
def Ybn(hh:bk P μ w st)(hr:RR μ r n a.tmps){f:FuncId}{xs ys:Array Operand}{ss ts:List Src}(hx:uW P xs.toList=some ss)(hy:uW P ys.toList=some ts)
  (h:Ja f ss ts call r st=some (v,aB)):a_ P μ w st (do pure (.value (<-Instr.makeFunc (.func f) (xs.map a.eval) (ys.map a.eval)))) v aB:=by
 unfold Ja at h
 split at h
 ·rename_i us ws h1 h2
  simp only[au,bj]at h
  obtain⟨rfl,rfl⟩:=h
  refine a_.value hh (x:=.func (.func f) (xs.map a.eval) (ys.map a.eval)) (by simp[Instr.makeFunc]) ⟨xs.toList.map a.eval,ys.toList.map a.eval,?_,Ju hh hr hx h1,Ju hh hr hy h2⟩
  congr 1<;>apply zz<;>simp
 ·cases h
def Zy4(hh:bk P μ w st)(hr:RR μ r n a.tmps){src dst:TypeId}{k:IntKind}{x:Operand}{s:Src}(hs:∃q,P.underlying src=some (.int q))(hd:P.underlying dst=some (.int k))(hx:bo P x=some s)
  (h:I8 k s call r st=some (v,aB)):a_ P μ w st (do pure (.value (<-convert src dst (a.eval x)))) v aB:=by
 unfold I8 at h
 split at h
 ·rename_i q m hm
  simp only[au,bj]at h
  obtain⟨rfl,rfl⟩:=h
  obtain⟨q',hs⟩:=hs
  have he:=cO hh hr hx hm
  simp only[VR]at he
  exact a_.value hh (x:=.int k (k.wrap m)) (by simp[convert,run_underlying hs,run_underlying hd,he,Conv.intToInt]) (by simp[VR,zB])
 ·cases h
def Zy3(hh:bk P μ w st)(hr:RR μ r n a.tmps){src dst:TypeId}{x:Operand}{s:Src}(hs:P.underlying src=some .string)(hd:P.underlying dst=some .string)(hx:bo P x=some s)
  (h:LN s call r st=some (v,aB)):a_ P μ w st (do pure (.value (<-convert src dst (a.eval x)))) v aB:=by
 unfold LN at h
 split at h
 ·rename_i m hm
  simp only[au,bj]at h
  obtain⟨rfl,rfl⟩:=h
  have he:=cO hh hr hx hm
  simp only[VR]at he
  exact a_.value hh (x:=.string ⟨m.toArray⟩) (by simp[convert,run_underlying hs,run_underlying hd,he]) (by simp[VR])
 ·cases h
end
section
variable {P:Program} {μ:Mu} {w:World} {st aB:St} {r:T V} {n:Nat} {a:Act} {call:cM} {v:V}
def Zx9{op:BinOp}{k:IntKind}{x y:Int}{t:TypeId}(h:qT op k x y=some v):
  ∃z,(binOp op t (.int k x) (.int k y)).run P w=.ok z w/\VR μ v z:=by
 cases op<;>simp only[qT,au,reduceCtorEq]at h
 case add=>subst h;exact⟨_,by simp[binOp,Op.intArith];rfl,by simp[VR,zB]⟩
 case sub=>subst h;exact⟨_,by simp[binOp,Op.intArith];rfl,by simp[VR,zB]⟩
 case mul=>subst h;exact⟨_,by simp[binOp,Op.intArith];rfl,by simp[VR,zB]⟩
 case quo=>
  split at h
  ·cases h
  ·rename_i h0;simp only[au]at h;subst h;exact⟨_,by simp[binOp,Op.intDiv,h0];rfl,by simp[VR,zB]⟩
 case rem=>
  split at h
  ·cases h
  ·rename_i h0;simp only[au]at h;subst h;exact⟨_,by simp[binOp,Op.intDiv,h0];rfl,by simp[VR]⟩
 case and=>subst h;exact⟨_,by simp[binOp,Op.intBits];rfl,by simp[VR]⟩
 case or=>subst h;exact⟨_,by simp[binOp,Op.intBits];rfl,by simp[VR]⟩
 case xor=>subst h;exact⟨_,by simp[binOp,Op.intBits];rfl,by simp[VR]⟩
 case andNot=>subst h;exact⟨_,by simp[binOp,Op.intBits];rfl,by simp[VR]⟩
 case eql=>subst h;exact⟨_,by simp[binOp,Op.intCmp];rfl,by simp[VR]⟩
 case neq=>subst h;exact⟨_,by simp[binOp,Op.intCmp];rfl,by simp[VR]⟩
 case lss=>subst h;exact⟨_,by simp[binOp,Op.intCmp];rfl,by simp[VR]⟩
 case leq=>subst h;exact⟨_,by simp[binOp,Op.intCmp];rfl,by simp[VR]⟩
 case gtr=>subst h;exact⟨_,by simp[binOp,Op.intCmp];rfl,by simp[VR]⟩
 case geq=>subst h;exact⟨_,by simp[binOp,Op.intCmp];rfl,by simp[VR]⟩
def Zoi{op:BinOp}{k k':IntKind}{x y:Int}{t:TypeId}(hs:op=.shl\/op=.shr)(h:yo op k x y=some v):
  ∃z,(binOp op t (.int k x) (.int k' y)).run P w=.ok z w/\VR μ v z:=by
 unfold yo at h
 split at h
 ·cases h
 ·rename_i h0
  rcases hs with rfl|rfl<;>simp only[au]at h<;>subst h
  ·exact⟨_,by simp[binOp,Op.shift,h0];rfl,by simp[VR]⟩
  ·exact⟨_,by simp[binOp,Op.shift,h0];rfl,by simp[VR]⟩
def Te(l:List UInt8):(⟨l.toArray⟩:ByteArray).toList=l:=by
 rw[ByteArray.toList_eq]
def Zwy{op:BinOp}{x y:List UInt8}{t:TypeId}(h:iX op x y=some v):
  ∃z,(binOp op t (.string ⟨x.toArray⟩) (.string ⟨y.toArray⟩)).run P w=.ok z w/\VR μ v z:=by
 have e1:=Te x
 have e2:=Te y
 cases op<;>simp only[iX,au,reduceCtorEq]at h
 case add=>
  split at h
  ·cases h
  ·rename_i hle
   simp only[au]at h;subst h
   refine⟨.string ⟨(x++y).toArray⟩,?_,by simp[VR]⟩
   have jJ:((⟨x.toArray⟩:ByteArray).size+(⟨y.toArray⟩:ByteArray).size)=x.length+y.length:=by
    show x.toArray.size+y.toArray.size=_
    simp
   have OA:(⟨x.toArray⟩:ByteArray)++(⟨y.toArray⟩:ByteArray)=⟨(x++y).toArray⟩:=by
    apply ByteArray.ext
    simp[ByteArray.data_append]
   simp only[binOp,Op.stringOp,jJ,aA hle,OA]
   simp
 case eql=>subst h;exact⟨_,by simp[binOp,Op.stringOp,e1,e2];rfl,by simp[VR]⟩
 case neq=>subst h;exact⟨_,by simp[binOp,Op.stringOp,e1,e2];rfl,by simp[VR]⟩
 case lss=>subst h;exact⟨_,by simp[binOp,Op.stringOp,e1,e2];rfl,by simp[VR]⟩
 case leq=>subst h;exact⟨_,by simp[binOp,Op.stringOp,e1,e2];rfl,by simp[VR]⟩
 case gtr=>subst h;exact⟨_,by simp[binOp,Op.stringOp,e1,e2];rfl,by simp[VR]⟩
 case geq=>subst h;exact⟨_,by simp[binOp,Op.stringOp,e1,e2];rfl,by simp[VR]⟩
def Yn6(hh:bk P μ w st)(hr:RR μ r n a.tmps){op:UnOp}{x:Operand}{s:Src}(hx:bo P x=some s)(h:I7 op s call r st=some (v,aB)):
  a_ P μ w st (do pure (.value (<-Op.unary op (a.eval x)))) v aB:=by
 unfold I7 at h
 split at h
 ·rename_i u hu
  split at h
  ·rename_i z hz
   simp only[au,bj]at h
   obtain⟨rfl,rfl⟩:=h
   have he:=cO hh hr hx hu
   unfold unV at hz
   split at hz
   ·simp only[VR]at he
    simp only[au]at hz;subst hz
    exact a_.value hh (x:=_) (by simp[Op.unary,he,Op.intArith];rfl) (by simp[VR])
   ·simp only[VR]at he
    simp only[au]at hz;subst hz
    exact a_.value hh (x:=_) (by simp[Op.unary,he,Op.intBits];rfl) (by simp[VR])
   ·simp only[VR]at he
    simp only[au]at hz;subst hz
    exact a_.value hh (x:=_) (by simp[Op.unary,he];rfl) (by simp[VR])
   ·cases hz
  ·cases h
 ·cases h
def Zyx{ng:Bool}{k:PK}{t:TypeId}{d:TypeDesc}{D:Nat}(ht:P.underlying t=some d)(Tf:Yje P d=true)(hk:SG d=some k)
  {x y:V} {b:Bool} (h:aL ng k x y=some b) {X Y:Value} (hX:VR μ x X) (hY:VR μ y Y):(Op.equalIn (D+1) t X Y).run P w=.ok b w:=by
 unfold aL at h
 split at h
 case h_25=>cases h
 all_goals (cases d<;>simp only[SG,reduceCtorEq,au]at hk)
 all_goals simp only[VR]at hX hY
 case h_7.pointer e=>
  split at h
  ·rename_i he
   obtain⟨rfl,rfl⟩:=he
   obtain⟨l,hl,rfl⟩:=hX
   obtain⟨l',yw,rfl⟩:=hY
   rw[hl]at yw
   simp only[au]at yw h
   subst yw h
   simp only[Yje]at Tf
   obtain⟨j,hj⟩:=Option.isSome_iff_exists.1 Tf
   simp[Op.equalIn,run_underlying ht,sizeOf,typeInfo,hj,run_sameAddr_same]
  ·cases h
 case h_2.int=>
  split at h
  ·rename_i e;subst e;subst hX hY;simp only[au]at h;subst h;simp[Op.equalIn,run_underlying ht]
  ·cases h
 case h_3.string=>
  subst hX hY;simp only[au]at h;subst h
  rw[run_equalIn_string w D t _ _ ht,Te,Te]
 case h_22.interface=>
  split at h
  ·subst hX hY;simp only[au]at h;subst h;simp[Op.equalIn,run_underlying ht]
  ·cases h
 all_goals (simp only[au]at h;subst h)
 all_goals first
  |(subst hX;subst hY;simp[Op.equalIn,run_underlying ht];done)
  |(subst hX;obtain⟨_,_,rfl⟩:=hY;simp[Op.equalIn,run_underlying ht];done)
  |(subst hY;obtain⟨_,_,rfl⟩:=hX;simp[Op.equalIn,run_underlying ht];done)
  |(subst hX;obtain⟨_,_,_,rfl,_⟩:=hY;simp[Op.equalIn,run_underlying ht];done)
  |(subst hY;obtain⟨_,_,_,rfl,_⟩:=hX;simp[Op.equalIn,run_underlying ht];done)
  |(subst hX;obtain⟨_,_,rfl,_⟩:=hY;simp[Op.equalIn,run_underlying ht];done)
  |(subst hY;obtain⟨_,_,rfl,_⟩:=hX;simp[Op.equalIn,run_underlying ht];done)
  |(subst hX;obtain⟨_,rfl,_⟩:=hY;simp[Op.equalIn,run_underlying ht];done)
  |(subst hY;obtain⟨_,rfl,_⟩:=hX;simp[Op.equalIn,run_underlying ht];done)
def Zue{d:Nat}(ih:∀{ng:Bool} {t:TypeId} {q:rX},wo P d t=some q->∀{x y:V} {b:Bool},oR ng q x y=some b->∀{X Y:Value},VR μ x X->VR μ y Y->∀D,d<=D->(Op.equalIn D t X Y).run P w=.ok b w)
  {xs ys:List V} {XS YS:List Value} (hX:aW μ xs XS) (hY:aW μ ys YS) (D:Nat) (hD:d<=D):
  ∀{fs:List Field} {l:List (Nat×Option Nat×rX)},Ly P (wo P d) fs=some l->∀{b:Bool},AQ l xs ys=some b->(Op.eqFields D ⟨XS⟩ ⟨YS⟩ fs).run P w=.ok b w:=by
 intro fs
 induction fs with
 |nil=>
  intro l hl b h
  simp only[Ly,au]at hl;subst hl
  simp only[AQ,au]at h;subst h
  simp[Op.eqFields]
 |cons f fs ihf=>
  intro l hl b h
  simp only[Ly]at hl
  split at hl
  ·rename_i hn
   simp only[Op.eqFields,hn,ne_eq,not_true_eq_false,if_false]
   exact ihf hl h
  ·rename_i hn
   split at hl
   ·rename_i k q l' hk hq yw
    simp only[au]at hl;subst hl
    simp only[AQ]at h
    split at h
    ·rename_i x y hx hy
     obtain⟨X,h1,h2⟩:=Td (P:=P) (w:=w) hX hk hx
     obtain⟨Y,h3,h4⟩:=Td (P:=P) (w:=w) hY hk hy
     split at h
     ·rename_i he
      have e:=ih hq he h2 h4 D hD
      simp only[Op.eqFields,ne_eq,hn,not_false_eq_true,if_true,Sem.run_bind,h1,h3,e,Result.andThen,Bool.not_true,gV,if_false]
      exact ihf yw h
     ·rename_i he
      simp only[au]at h;subst h
      have e:=ih hq he h2 h4 D hD
      simp[Op.eqFields,hn,h1,h3,e,Result.andThen]
     ·cases h
    ·cases h
   ·cases hl
def Ykv:∀(d:Nat) {ng:Bool} {t:TypeId} {q:rX},wo P d t=some q->∀{x y:V} {b:Bool},oR ng q x y=some b->∀{X Y:Value},VR μ x X->VR μ y Y->∀D,d<=D->(Op.equalIn D t X Y).run P w=.ok b w:=by
 intro d
 induction d with
 |zero=>intro ng t q hq;simp[wo]at hq
 |succ d ih=>
  intro ng t q hq x y b h X Y hX hY D hD
  obtain⟨D,rfl⟩:∃D',D=D'+1:=⟨D-1,by omega⟩
  simp only[wo]at hq
  split at hq
  ·rename_i fs ht
   split at hq
   ·cases hq
   ·rename_i fk
    split at hq
    ·rename_i l hl
     simp only[au]at hq;subst hq
     cases x<;>cases y<;>simp only[oR,reduceCtorEq]at h
     obtain⟨xs,rfl,pO⟩:=hX
     obtain⟨ys,rfl,hys⟩:=hY
     have hf:P.fieldsOf t=fs:=by simp[Program.fieldsOf,ht]
     rw[run_equalIn_struct w D t _ _ (by rw[hf];exact ht) (by simpa using fk),hf]
     exact Zue ih pO hys D (by omega) hl h
    ·cases hq
  ·rename_i dd hns ht
   split at hq
   ·rename_i k hk
    split at hq
    ·rename_i Tf
     simp only[au]at hq;subst hq
     simp only[oR]at h
     exact Zyx ht Tf hk h hX hY
    ·cases hq
   ·cases hq
  ·cases hq
def OK{op:BinOp}{t:TypeId}{x y:Operand}{X Y:Value}(h1:X=.nilIface->Y=.nilIface->IL x=true\/IL y=true)
  (h2:∀a b,X=.agg a->Y=.agg b->P.eqGuardType P.depth t=false):(eqGuard op t x y X Y).run P w=.ok () w:=by
 by_cases hn:X=.nilIface/\Y=.nilIface
 ·obtain⟨rfl,rfl⟩:=hn
  have h:=h1 rfl rfl
  cases op<;>cases x<;>cases y<;>simp_all [eqGuard,IL]
 ·by_cases ha:(∃a,X=.agg a)/\∃b,Y=.agg b
  ·obtain⟨⟨a,rfl⟩,b,rfl⟩:=ha
   have h:=h2 a b rfl rfl
   cases op<;>simp[eqGuard,run_program,h]
  ·cases op<;>simp[eqGuard]<;>split<;>simp_all
end
section
variable {P:Program} {μ:Mu} {w:World} {st aB:St} {r:T V} {n:Nat} {a:Act} {call:cM} {v:V}
def VR.wM{x:V}{k:IntKind}{m:Int}(h:VR μ x (.int k m)):x=.int k m:=by
 cases x<;>simp only[VR]at h<;>first
  |(cases h;rfl)
  |(cases h;done)
  |(obtain⟨_,_,h⟩:=h;cases h;done)
  |(obtain⟨_,_,_,h,_⟩:=h;cases h;done)
  |(obtain⟨_,_,h,_⟩:=h;cases h;done)
  |(obtain⟨_,h,_⟩:=h;cases h;done)
def VR.pS{x:V}{k:FloatKind}{m:Nat}(h:VR μ x (.float k m)):x=.kg k m:=by
 cases x<;>simp only[VR]at h<;>first
  |(cases h;rfl)
  |(cases h;done)
  |(obtain⟨_,_,h⟩:=h;cases h;done)
  |(obtain⟨_,_,_,h,_⟩:=h;cases h;done)
  |(obtain⟨_,_,h,_⟩:=h;cases h;done)
  |(obtain⟨_,h,_⟩:=h;cases h;done)
def VR.lJ{x:V}{k:FloatKind}{m m':Nat}(h:VR μ x (.complex k m m')):x=.rO k m m':=by
 cases x<;>simp only[VR]at h<;>first
  |(cases h;rfl)
  |(cases h;done)
  |(obtain⟨_,_,h⟩:=h;cases h;done)
  |(obtain⟨_,_,_,h,_⟩:=h;cases h;done)
  |(obtain⟨_,_,h,_⟩:=h;cases h;done)
  |(obtain⟨_,h,_⟩:=h;cases h;done)
def VR.oo{x:V}{s:ByteArray}(h:VR μ x (.string s)):∃l,x=.str l:=by
 cases x<;>simp only[VR]at h<;>first
  |exact⟨_,rfl⟩
  |(cases h;done)
  |(obtain⟨_,_,h⟩:=h;cases h;done)
  |(obtain⟨_,_,_,h,_⟩:=h;cases h;done)
  |(obtain⟨_,_,h,_⟩:=h;cases h;done)
  |(obtain⟨_,h,_⟩:=h;cases h;done)
def VR.jM{x:V}(h:VR μ x .nilIface):x=.aX:=by
 cases x<;>simp only[VR]at h<;>first
  |rfl
  |(cases h;done)
  |(obtain⟨_,_,h⟩:=h;cases h;done)
  |(obtain⟨_,_,_,h,_⟩:=h;cases h;done)
  |(obtain⟨_,_,h,_⟩:=h;cases h;done)
  |(obtain⟨_,h,_⟩:=h;cases h;done)
def VR.wN{x:V}{s:Array Value}(h:VR μ x (.agg s)):∃l,x=.agg l:=by
 cases x<;>simp only[VR]at h<;>first
  |exact⟨_,rfl⟩
  |(cases h;done)
  |(obtain⟨_,_,h⟩:=h;cases h;done)
  |(obtain⟨_,_,_,h,_⟩:=h;cases h;done)
  |(obtain⟨_,_,h,_⟩:=h;cases h;done)
  |(obtain⟨_,h,_⟩:=h;cases h;done)
def Zjo{t:TypeId}{X Y:Value}{b:Bool}(hi:∀k m k' m',¬(X=.int k m/\Y=.int k' m'))(hs:∀s s',¬(X=.string s/\Y=.string s'))
  (hf:∀k m k' m',¬(X=.float k m/\Y=.float k' m')) (hc:∀k m p k' m' p',¬(X=.complex k m p/\Y=.complex k' m' p')) (h:(Op.equal t X Y).run P w=.ok b w):
  (binOp .eql t X Y).run P w=.ok (.bool b) w/\(binOp .neq t X Y).run P w=.ok (.bool (!b)) w:=by
 constructor
 ·unfold binOp
  split<;>first
   |(exact absurd ⟨rfl,rfl⟩ (hi _ _ _ _))
   |(exact absurd ⟨rfl,rfl⟩ (hs _ _))
   |(exact absurd ⟨rfl,rfl⟩ (hf _ _ _ _))
   |(exact absurd ⟨rfl,rfl⟩ (hc _ _ _ _ _ _))
   |(simp[h];done)
   |simp_all
 ·unfold binOp
  split<;>first
   |(exact absurd ⟨rfl,rfl⟩ (hi _ _ _ _))
   |(exact absurd ⟨rfl,rfl⟩ (hs _ _))
   |(exact absurd ⟨rfl,rfl⟩ (hf _ _ _ _))
   |(exact absurd ⟨rfl,rfl⟩ (hc _ _ _ _ _ _))
   |(simp[h];done)
   |simp_all
def Ylu(P:Program)(op:BinOp)(t:TypeId)(x y:Operand)(q:rX)(ng:Bool):Prop:=
 (op=.eql\/op=.neq)->wo P 40 t=some q/\(match P.underlying t with|some (.struct _)|some (.array _ _)=>P.eqGuardType P.depth t|_=>false)=false/\ng=(IL x||IL y)
def Cu{op:BinOp}{t:TypeId}{x y:Operand}{X Y z:Value}(hg:(eqGuard op t x y X Y).run P w=.ok () w)(hb:(binOp op t X Y).run P w=.ok z w):
  (do eqGuard op t x y X Y;binOp op t X Y:Sem Value).run P w=.ok z w:=by simp[hg,hb,Result.andThen]
def Ztm{d:Nat}{t:TypeId}{l:List (Nat×Option Nat×rX)}(h:wo P d t=some (.node l)):∃fs,P.underlying t=some (.struct fs):=by
 cases d with
 |zero=>simp[wo]at h
 |succ d=>
  simp only[wo]at h
  split at h
  ·rename_i fs ht;exact⟨fs,ht⟩
  ·split at h
   ·split at h<;>simp at h
   ·cases h
  ·cases h
def Zlh{t:TypeId}{kd:ChanDir}{e:TypeId}{x y:Option Nat}(D:Nat)(ht:P.underlying t=some (.chan kd e)):(Op.equalIn (D+1) t (.chan x) (.chan y)).run P w=.ok (x==y) w:=by
 simp[Op.equalIn,run_underlying ht]
def Ydj{d:Nat}{t:TypeId}(hq:wo P d t=some (.dm .chan)):∃k e,P.underlying t=some (.chan k e):=by
 cases d with
 |zero=>simp[wo]at hq
 |succ d=>
  simp only[wo]at hq
  split at hq
  ·split at hq
   ·cases hq
   ·split at hq<;>simp at hq
  ·rename_i dd _ ht
   split at hq
   ·rename_i k hk
    split at hq
    ·simp only[au,rX.dm.injEq]at hq;subst hq
     cases dd<;>simp[SG]at hk
     exact⟨_,_,ht⟩
    ·cases hq
   ·cases hq
  ·cases hq
def Yg0(hh:bk P μ w st){op:BinOp}{t:TypeId}{x y:Operand}{X Y:Value}{q:rX}{ng:Bool}(hc:Ylu P op t x y q ng){i j:Nat}(h1:VR μ (.chan i) X)(h2:VR μ (.chan j) Y)
  (h:SN op q st i j=some (v,aB)):
  a_ P μ w st (do pure (.value (<-(do eqGuard op t x y X Y;binOp op t X Y:Sem Value)))) v aB:=by
 obtain⟨l,hl,rfl⟩:=h1
 obtain⟨l',yw,rfl⟩:=h2
 have hg:(eqGuard op t x y (.chan (some l.b)) (.chan (some l'.b))).run P w=.ok () w:=OK (by intro h;cases h) (by intro _ _ h;cases h)
 have zdZ:∀c b c' b',st.h.get i=some (.chan c b)->st.h.get j=some (.chan c' b')->(some l.b==some l'.b)=(i==j):=by
  intro c b c' b' g1 g2
  by_cases e:i=j
  ·subst e;rw[hl]at yw;cases yw;simp
  ·have:=hh.inj i j l l' _ _ hl yw e g1 g2 rfl rfl
   have e2:(i==j)=false:=by simpa using e
   rw[e2];simpa using this
 have main:(op=.eql\/op=.neq)->q=.dm .chan->∀c b c' b',st.h.get i=some (.chan c b)->st.h.get j=some (.chan c' b')->
   (binOp .eql t (.chan (some l.b)) (.chan (some l'.b))).run P w=.ok (.bool (i==j)) w/\(binOp .neq t (.chan (some l.b)) (.chan (some l'.b))).run P w=.ok (.bool (!(i==j))) w:=by
  intro xL hq c b c' b' g1 g2
  subst hq
  obtain⟨kd,e,ht⟩:=Ydj (hc xL).1
  refine Zjo (fun _ _ _ _ e=>by cases e.1) (fun _ _ e=>by cases e.1) (fun _ _ _ _ e=>by cases e.1) (fun _ _ _ _ _ _ e=>by cases e.1) ?_
  have:=Zlh (P:=P) (w:=w) (x:=some l.b) (y:=some l'.b) 9999 ht
  rw[zdZ _ _ _ _ g1 g2]at this
  exact this
 unfold SN at h
 split at h
 ·rename_i g1 g2
  simp only[au,bj]at h
  obtain⟨rfl,rfl⟩:=h
  exact a_.value hh (Cu hg (main (.inl rfl) rfl _ _ _ _ g1 g2).1) (by simp[VR])
 ·rename_i g1 g2
  simp only[au,bj]at h
  obtain⟨rfl,rfl⟩:=h
  exact a_.value hh (Cu hg (main (.inr rfl) rfl _ _ _ _ g1 g2).2) (by simp[VR])
 ·cases h
def Ynk(hh:bk P μ w st)(hr:RR μ r n a.tmps){op:BinOp}{t:TypeId}{x y:Operand}{s u:Src}{q:rX}{ng:Bool}(hx:bo P x=some s)(hy:bo P y=some u)
  (hc:Ylu P op t x y q ng) (h:I6 op q ng s u call r st=some (v,aB)):
  a_ P μ w st (do pure (.value (<-(do eqGuard op t x y (a.eval x) (a.eval y);binOp op t (a.eval x) (a.eval y):Sem Value)))) v aB:=by
 unfold I6 at h
 split at h
 ·rename_i i j hs hu
  exact Yg0 hh hc (cO hh hr hx hs) (cO hh hr hy hu) h
 ·rename_i x1 y1 _ hs hu
  have h1:=cO hh hr hx hs
  have h2:=cO hh hr hy hu
  generalize a.eval x=X at*
  generalize a.eval y=Y at*
  split at h
  ·rename_i z hz
   simp only[au,bj]at h
   obtain⟨rfl,rfl⟩:=h
   unfold Ypl at hz
   split at hz
   ·-- two integers
    rename_i k p k' p' _
    simp only[VR]at h1 h2
    subst h1 h2
    have hg:(eqGuard op t x y (.int k p) (.int k' p')).run P w=.ok () w:=OK (by intro h;cases h) (by intro _ _ h;cases h)
    split at hz
    ·obtain⟨y',h3,h4⟩:=Zoi (P:=P) (μ:=μ) (w:=w) (t:=t) (k':=k') (.inl rfl) hz
     exact a_.value hh (Cu hg h3) h4
    ·obtain⟨y',h3,h4⟩:=Zoi (P:=P) (μ:=μ) (w:=w) (t:=t) (k':=k') (.inr rfl) hz
     exact a_.value hh (Cu hg h3) h4
    ·split at hz
     ·rename_i e;subst e
      obtain⟨y',h3,h4⟩:=Zx9 (P:=P) (μ:=μ) (w:=w) (t:=t) hz
      exact a_.value hh (Cu hg h3) h4
     ·cases hz
   ·rename_i p p' _
    simp only[VR]at h1 h2
    subst h1 h2
    have hg:(eqGuard op t x y (.string ⟨p.toArray⟩) (.string ⟨p'.toArray⟩)).run P w=.ok () w:=OK (by intro h;cases h) (by intro _ _ h;cases h)
    obtain⟨y',h3,h4⟩:=Zwy (P:=P) (μ:=μ) (w:=w) (t:=t) hz
    exact a_.value hh (Cu hg h3) h4
   ·rename_i hni hns
    have main:∀b,oR ng q x1 y1=some b->(op=.eql\/op=.neq)->
      (eqGuard op t x y X Y).run P w=.ok () w/\(binOp .eql t X Y).run P w=.ok (.bool b) w/\(binOp .neq t X Y).run P w=.ok (.bool (!b)) w:=by
     intro b hb xL
     obtain⟨hq,Md,OY⟩:=hc xL
     have he:=Ykv (w:=w) 40 hq hb h1 h2 10000 (by omega)
     refine⟨OK (fun e1 e2=>?_) (fun A B e1 e2=>?_),Zjo (fun k m k' m' e=>?_) (fun p p' e=>?_) (fun k m k' m' e=>?_) (fun k m m' k' m1 m2 e=>?_) he⟩
     ·subst e1 e2
      have:=h1.jM;subst this
      have:=h2.jM;subst this
      cases q with
      |dm k=>cases k<;>simp[oR,aL]at hb;rw[OY]at hb;simpa using hb.1
      |node l=>simp[oR]at hb
     ·subst e1 e2
      obtain⟨l1,rfl⟩:=h1.wN
      obtain⟨l2,rfl⟩:=h2.wN
      cases q with
      |dm k=>cases k<;>simp[oR,aL]at hb
      |node l=>
       obtain⟨fs,yc⟩:=Ztm hq
       simpa[yc]using Md
     ·obtain⟨rfl,rfl⟩:=e
      exact hni _ _ _ _ h1.wM h2.wM
     ·obtain⟨rfl,rfl⟩:=e
      obtain⟨l1,e1⟩:=h1.oo
      obtain⟨l2,e2⟩:=h2.oo
      exact hns _ _ e1 e2
     ·obtain⟨rfl,rfl⟩:=e
      have e1:=h1.pS;subst e1
      have e2:=h2.pS;subst e2
      cases q with
      |dm k=>cases k<;>simp[oR,aL]at hb
      |node l=>simp[oR]at hb
     ·obtain⟨rfl,rfl⟩:=e
      have e1:=h1.lJ;subst e1
      have e2:=h2.lJ;subst e2
      cases q with
      |dm k=>cases k<;>simp[oR,aL]at hb
      |node l=>simp[oR]at hb
    split at hz
    ·split at hz
     ·rename_i b hb
      simp only[au]at hz;subst hz
      obtain⟨g1,g2,_⟩:=main b hb (.inl rfl)
      exact a_.value hh (Cu g1 g2) (by simp[VR])
     ·cases hz
    ·split at hz
     ·rename_i b hb
      simp only[au]at hz;subst hz
      obtain⟨g1,_,g2⟩:=main b hb (.inr rfl)
      exact a_.value hh (Cu g1 g2) (by simp[VR])
     ·cases hz
    ·cases hz
  ·cases h
 ·cases h
end
end Go.Mx
