/-The operations of M stand for the Go mod-/
import Derived.Test.YtjjmkflbfpeagaaGreatDoorMxComp
import Derived.LaidEql
set_option linter.all false
namespace Go.Mx
open Go
mutual
def NB(μ:Mu):∀(x:Value) (v:V),cV x=some v->VR μ v x
 |.bool b,v,h=>by simp only[cV,ak]at h;subst h;simp[VR]
 |.int k n,v,h=>by simp only[cV,ak]at h;subst h;simp[VR]
 |.float k n,v,h=>by simp only[cV,ak]at h;subst h;simp[VR]
 |.complex ..,v,h=>by simp only[cV,ak]at h;subst h;simp[VR]
 |.string s,v,h=>by simp only[cV,ak]at h;subst h;simp[VR]
 |.pointer none,v,h=>by simp only[cV,ak]at h;subst h;simp[VR]
 |.pointer (some _),v,h=>by simp[cV]at h
 |.slice none 0 0,v,h=>by simp only[cV,ak]at h;subst h;simp[VR]
 |.slice none 0 (c+1),v,h=>by simp[cV]at h
 |.slice none (n+1) c,v,h=>by simp[cV]at h
 |.slice (some _) _ _,v,h=>by simp[cV]at h
 |.map none,v,h=>by simp only[cV,ak]at h;subst h;simp[VR]
 |.map (some _),v,h=>by simp[cV]at h
 |.chan none,v,h=>by simp only[cV,ak]at h;subst h;simp[VR]
 |.chan (some _),v,h=>by simp[cV]at h
 |.func ..,v,h=>by simp[cV]at h
 |.nilFunc,v,h=>by simp only[cV,ak]at h;subst h;simp[VR]
 |.iface ..,v,h=>by simp[cV]at h
 |.nilIface,v,h=>by simp only[cV,ak]at h;subst h;simp[VR]
 |.agg ⟨l⟩,v,h=>by
  simp only[cV]at h
  split at h
  ·rename_i l' hl
   simp only[ak]at h;subst h
   exact⟨l,rfl,SW μ l l' hl⟩
  ·cases h
 |.tuple ⟨l⟩,v,h=>by
  simp only[cV]at h
  split at h
  ·rename_i l' hl
   simp only[ak]at h;subst h
   exact⟨l,rfl,SW μ l l' hl⟩
  ·cases h
def SW(μ:Mu):∀(xs:List Value) (vs:List V),Gn xs=some vs->aP μ vs xs
 |[],vs,h=>by simp only[Gn,ak]at h;subst h;simp[aP]
 |x::xs,vs,h=>by
  simp only[Gn]at h
  split at h
  ·rename_i v kv hv Eb
   simp only[ak]at h;subst h
   exact⟨x,xs,rfl,NB μ x v hv,SW μ xs kv Eb⟩
  ·cases h
end
section
variable {P:Program} {μ:Mu} {w:World} {st:St} {r:T V} {n:Nat} {a:Act}
def cE(hh:a_ P μ w st)(hr:RR μ r n a.tmps){x:Operand}{s:Src}(hc:bk P x=some s){v:V}(hv:s.ev r=some v):VR μ v (a.eval x):=by
 cases x with
 |tmp t=>
  simp only[bk,ak]at hc;subst hc
  obtain⟨y,h1,h2⟩:=hr.2 t v hv
  simpa[Act.eval,Dr,h1]using h2
 |const c=>
  simp only[bk]at hc
  split at hc
  ·rename_i v' D4
   simp only[ak]at hc;subst hc
   simp only[Src.ev,ak]at hv;subst hv
   exact NB μ c v' D4
  ·cases hc
 |global g=>
  simp only[bk]at hc
  split at hc
  ·rename_i hg
   simp only[ak]at hc;subst hc
   simp only[Src.ev,ak]at hv;subst hv
   obtain⟨t,ht⟩:=hh.gj g hg
   exact⟨_,ht,rfl⟩
  ·cases hc
 |func f=>
  simp only[bk,ak]at hc;subst hc
  simp only[Src.ev,ak]at hv;subst hv
  exact⟨[],[],rfl,by simp[aP],by simp[aP]⟩
def Ef(hh:a_ P μ w st)(hr:RR μ r n a.tmps):∀{xs:List Operand} {ss:List Src},sH P xs=some ss->∀{vs:List V},rA r ss=some vs->aP μ vs (xs.map a.eval)
 |[],ss,hc,vs,hv=>by
  simp only[sH,ak]at hc;subst hc
  simp only[rA,ak]at hv;subst hv
  simp[aP]
 |x::xs,ss,hc,vs,hv=>by
  simp only[sH]at hc
  split at hc
  ·rename_i s ss' h1 h2
   simp only[ak]at hc;subst hc
   simp only[rA]at hv
   split at hv
   ·rename_i v kv h3 h4
    simp only[ak]at hv;subst hv
    exact⟨_,_,rfl,cE hh hr h1 h3,Ef hh hr h2 h4⟩
   ·cases hv
  ·cases hc
def Zj(hh:a_ P μ w st)(hr:RR μ r n a.tmps){x:Option Operand}{s:Option Src}(hc:p9 P x=some s){v:Option V}(hv:az r s=some v):
  (v=none/\x=none)\/∃v' x',v=some v'/\x=some x'/\VR μ v' (a.eval x'):=by
 cases x with
 |none=>
  simp only[p9,ak]at hc;subst hc
  simp only[az,ak]at hv;subst hv
  exact .inl ⟨rfl,rfl⟩
 |some x=>
  simp only[p9]at hc
  split at hc
  ·rename_i s' h1
   simp only[ak]at hc;subst hc
   simp only[az]at hv
   split at hv
   ·rename_i v' h2
    simp only[ak]at hv;subst hv
    exact .inr ⟨v',x,rfl,rfl,cE hh hr h1 h2⟩
   ·cases hv
  ·cases hc
def aS(P:Program)(μ:Mu)(w:World)(st:St)(s:Sem Next)(v:V)(ax:St):Prop:=
 ∃nx x w' μ' ws,s.run P w=.ok nx w'/\(nx=.value x\/(nx=.skip/\x=undef))/\VR μ' v x/\bA P μ w st μ' w' ax ws
def aS.value(hh:a_ P μ w st){s:Sem Value}{v:V}{x:Value}(hs:s.run P w=.ok x w)(hv:VR μ v x):
  aS P μ w st (do pure (.value (<-s))) v st:=
 ⟨.value x,x,w,μ,[],by simp[hs,Result.andThen],.inl rfl,hv,bA.refl hh⟩
def aS.Jf(hh:a_ P μ w st){v:V}{x:Value}(hv:VR μ v x):aS P μ w st (pure (.value x)) v st:=
 ⟨.value x,x,w,μ,[],by simp,.inl rfl,hv,bA.refl hh⟩
def SB{t:TypeId}(h:vn P t=some none):(isAgg t).run P w=.ok false w:=by
 unfold vn at h
 split at h
 ·split at h<;>simp at h
 ·split at h<;>simp at h
 ·rename_i d h1 h2 hd
  cases d<;>simp[isAgg,run_underlying hd]<;>simp_all
 ·cases h
def GV{t:TypeId}{k:Nat}(h:vn P t=some (some k)):(isAgg t).run P w=.ok true w/\(sizeOf t).run P w=.ok k w:=by
 unfold vn eD at h
 split at h
 ·rename_i fs hd
  split at h
  ·rename_i n hn
   simp only[ak]at h;subst h
   simp only[fZ]at hn
   obtain⟨i,hi,rfl⟩:=hn
   exact⟨by simp[isAgg,run_underlying hd],by simp[sizeOf,typeInfo,hi]⟩
  ·cases h
 ·rename_i k' e hd
  split at h
  ·rename_i n hn
   simp only[ak]at h;subst h
   simp only[fZ]at hn
   obtain⟨i,hi,rfl⟩:=hn
   exact⟨by simp[isAgg,run_underlying hd],by simp[sizeOf,typeInfo,hi]⟩
  ·cases h
 ·cases h
 ·cases h
def vL{t:TypeId}{k:Nat}(h:eD P t=some k):(sizeOf t).run P w=.ok k w:=by
 unfold eD at h
 simp only[fZ]at h
 obtain⟨i,hi,rfl⟩:=h
 simp[sizeOf,typeInfo,hi]
def Zi{t:TypeId}{v:V}(h:nv P t=some v):∃x,(zeroValue t).run P w=.ok x w/\∀μ,VR μ v x:=by
 unfold nv at h
 split at h
 ·rename_i i hi
  split at h
  ·rename_i x hx
   exact⟨x,by simp[zeroValue,typeInfo,hi,hx],fun μ=>NB μ x v h⟩
  ·cases h
 ·cases h
def uJ(b o j:Nat):(⟨b,o,none⟩:Addr).add j=⟨b,o+j,none⟩:=by
 unfold Addr.add;split<;>simp_all
def OM.cell{c:List V}{e:TypeId}{rw:Bool}{l:L}(h:OM P μ w (.cells c e rw) l){j:Nat}{v:V}(hv:c[j]?=some v):
  ∃x,w.cell? ⟨l.b,l.d+j,none⟩=some x/\VR μ v x:=by
 obtain⟨c',lo,hi,h1,_,_,h4,_⟩:=h
 obtain⟨x,hx,hr⟩:=h4 j v hv
 exact⟨x,by simp[World.cell?,h1,hx],hr⟩
def OM.xH{c:List V}{e:TypeId}{rw:Bool}{l:L}(h:OM P μ w (.cells c e rw) l){o k:Nat}{vs:List V}(hs:aM c o k=some vs):
  ∃xs:List Value,aP μ vs xs/\xs.length=k/\(loadCells ⟨l.b,l.d+o,none⟩ k).run P w=.ok xs.toArray w/\(∀(j:Nat) (x:Value),xs[j]?=some x->w.cell? ⟨l.b,l.d+o+j,none⟩=some x)/\(∀x∈xs,x.oneCell'=true):=by
 unfold aM at hs
 split at hs
 ·rename_i hle
  simp only[ak]at hs;subst hs
  obtain⟨c',lo,hi,h1,h2,h3,h4,h5,_⟩:=h
  have hlen:l.d+o+k<=c'.size:=by omega
  have hl:((c'.toList.drop (l.d+o)).take k).length=k:=by simp;omega
  have hg:∀(j:Nat) (x:Value),((c'.toList.drop (l.d+o)).take k)[j]?=some x->c'[l.d+o+j]?=some x:=fun j x hx=>by
   rw[kg]at hx
   split at hx
   ·simpa[gk]using hx
   ·cases hx
  have fO:∀(j:Nat) (x:Value),((c'.toList.drop (l.d+o)).take k)[j]?=some x->w.cell? ⟨l.b,l.d+o+j,none⟩=some x:=fun j x hx=>by
   simp[World.cell?,h1,hg j x hx]
  refine⟨(c'.toList.drop (l.d+o)).take k,?_,hl,?_,fO,fun x hx=>?_⟩
  ·refine aP.pd (by rw[hl];simp;omega) fun j v hv=>?_
   rw[kg]at hv
   split at hv
   ·rename_i hj
    rw[gk]at hv
    obtain⟨x,hx,hr⟩:=h4 (o+j) v hv
    refine⟨x,?_,hr⟩
    rw[kg,aJ hj,gk]
    simpa[pk]using hx
   ·cases hv
  ·have:=run_loadCells_list (P:=P) w ⟨l.b,l.d+o,none⟩ ((c'.toList.drop (l.d+o)).take k) (fun j x hx=>by rw[uJ];exact fO j x hx)
   rwa [hl]at this
  ·obtain⟨j,hj⟩:=F9 hx
   have zc:j<k:=by rw[<-hl];exact(zo.1 hj).1
   exact h5 (o+j) x (by omega) (by rw[<-pk];exact hg j x hj)
 ·cases hs
def NC{t:TypeId}{vs:List V}{xs:List Value}(oB:aP μ vs xs){k:Option Nat}(ha:vn P t=some k){o:Nat}{v:V}(hv:aL vs o k=some v):
  ∃x,(part t ⟨xs⟩ o).run P w=.ok x w/\VR μ v x:=by
 cases k with
 |none=>
  simp only[aL]at hv
  obtain⟨x,hx,hr⟩:=oB.get hv
  exact⟨x,by simp[part,SB ha,Result.andThen,hx],hr⟩
 |some k=>
  simp only[aL]at hv
  split at hv
  ·rename_i l hl
   simp only[ak]at hv;subst hv
   unfold aM at hl
   split at hl
   ·simp only[ak]at hl;subst hl
    refine⟨.agg ⟨(xs.drop o).take k⟩,?_,⟨_,rfl,(oB.drop o).take k⟩⟩
    simp[part,(GV ha).1,(GV ha).2,Result.andThen]
   ·cases hl
  ·cases hv
end
section
variable {P:Program} {μ:Mu} {w:World} {st ax:St} {r:T V} {n:Nat} {a:Act} {call:cH} {v:V}
def Jg{i:Nat}{c:List V}{e:TypeId}{rw:Bool}(h:st.row i=some (c,e,rw)):st.h.get i=some (.cells c e rw):=by
 unfold St.row at h
 split at h
 ·rename_i hg
  simp only[ak,bh]at h
  obtain⟨rfl,rfl,rfl⟩:=h
  exact hg
 ·cases h
def a_.row(hh:a_ P μ w st){i:Nat}{l:L}(hl:μ i=some l){c:List V}{e:TypeId}{rw:Bool}(h:st.row i=some (c,e,rw)):OM P μ w (.cells c e rw) l:=by
 obtain⟨o,h1,h2⟩:=hh.obj i l hl
 rw[Jg h,ak]at h1
 subst h1;exact h2
def a_.get(hh:a_ P μ w st){i:Nat}{l:L}(hl:μ i=some l){o:O}(h:st.h.get i=some o):OM P μ w o l:=by
 obtain⟨o',h1,h2⟩:=hh.obj i l hl
 rw[h,ak]at h1
 subst h1;exact h2
def Zw(hh:a_ P μ w st)(hr:RR μ r n a.tmps){x:Operand}{s:Src}(hx:bk P x=some s)(h:Dy s call r st=some (v,ax)):
  aS P μ w st (pure (.value (a.eval x))) v ax:=by
 unfold Dy at h
 split at h
 ·rename_i u hu
  simp only[ak,bh]at h
  obtain⟨rfl,rfl⟩:=h
  exact aS.Jf hh (cE hh hr hx hu)
 ·cases h
def Yjz(hh:a_ P μ w st)(hr:RR μ r n a.tmps){x y z:Operand}{s t u:Src}(hx:bk P x=some s)(hy:bk P y=some t)(hz:bk P z=some u)
  (h:BR s t u call r st=some (v,ax)):
  aS P μ w st (do pure (.value (if <-asBool (a.eval x) then a.eval y else a.eval z))) v ax:=by
 unfold BR at h
 split at h
 ·rename_i hs
  have h1:=cE hh hr hx hs
  simp only[VR]at h1
  split at h
  ·rename_i v1 ht
   simp only[ak,bh]at h
   obtain⟨rfl,rfl⟩:=h
   exact⟨_,a.eval y,w,μ,[],by simp[h1,asBool],.inl rfl,cE hh hr hy ht,bA.refl hh⟩
  ·cases h
 ·rename_i hs
  have h1:=cE hh hr hx hs
  simp only[VR]at h1
  split at h
  ·rename_i v1 ht
   simp only[ak,bh]at h
   obtain⟨rfl,rfl⟩:=h
   exact⟨_,a.eval z,w,μ,[],by simp[h1,asBool],.inl rfl,cE hh hr hz ht,bA.refl hh⟩
  ·cases h
 ·cases h
def Ykv(hh:a_ P μ w st)(hr:RR μ r n a.tmps){t:TypeId}{k:Option Nat}{x:Operand}{s:Src}(ha:vn P t=some k)(hx:bk P x=some s)
  (h:DD k s call r st=some (v,ax)):aS P μ w st (do pure (.value (<-Instr.loadAt t (a.eval x)))) v ax:=by
 unfold DD at h
 split at h
 ·rename_i i o hs
  obtain⟨l,hl,he⟩:=cE hh hr hx hs
  split at h
  ·rename_i c e rw aE
   have wM:=hh.row hl aE
   split at h
   ·rename_i u hu
    simp only[ak,bh]at h
    obtain⟨rfl,rfl⟩:=h
    cases k with
    |none=>
     simp only[aL]at hu
     obtain⟨y,hy,hv⟩:=wM.cell hu
     exact aS.value hh (by simp[Instr.loadAt,Instr.sureAddr,he,loadVar,SB ha,Result.andThen,hy]) hv
    |some k=>
     simp only[aL]at hu
     split at hu
     ·rename_i vs Eb
      simp only[ak]at hu;subst hu
      obtain⟨xs,h1,_,h3,_⟩:=wM.xH Eb
      exact aS.value hh (x:=.agg xs.toArray) (by simp[Instr.loadAt,Instr.sureAddr,he,loadVar,(GV ha).1,(GV ha).2,Result.andThen,h3]) ⟨xs,rfl,h1⟩
     ·cases hu
   ·cases h
  ·cases h
 ·cases h
def Yfu(hh:a_ P μ w st)(hr:RR μ r n a.tmps){x:Operand}{s:Src}(hx:bk P x=some s)(h:DE s call r st=some (v,ax)){ty:TypeId}{d:Option Tmp}{pos:String}{af:Array Edge}{g:Option (Nat×Bool)}:
  aS P μ w st (execOp a.eval ⟨d,.nilCheck x,ty,pos,af,g⟩) v ax:=by
 unfold DE at h
 split at h
 ·rename_i i o hs
  simp only[ak,bh]at h
  obtain⟨rfl,rfl⟩:=h
  have h0:=cE hh hr hx hs
  obtain⟨l,hl,he⟩:=h0
  exact⟨_,_,w,μ,[],by simp[execOp,he],.inl rfl,⟨l,hl,rfl⟩,bA.refl hh⟩
 ·rename_i f b c hs
  simp only[ak,bh]at h
  obtain⟨rfl,rfl⟩:=h
  obtain⟨a',c',he,h1,h2⟩:=cE hh hr hx hs
  exact⟨_,_,w,μ,[],by simp[execOp,he],.inl rfl,⟨a',c',rfl,h1,h2⟩,bA.refl hh⟩
 ·cases h
def Ygl(hh:a_ P μ w st)(hr:RR μ r n a.tmps){t:TypeId}{i:Nat}{x:Operand}{s:Src}{fs:Array Field}{f:Field}{k:Nat}(ht:P.underlying t=some (.struct fs))(hf:fs[i]?=some f)
  (hk:eD P f.type=some (k+1)) (hx:bk P x=some s) (h:DK f.offset s call r st=some (v,ax)):
  aS P μ w st (do pure (.value (<-Instr.fieldAt t (a.eval x) i))) v ax:=by
 unfold DK at h
 split at h
 ·rename_i j o hs
  simp only[ak,bh]at h
  obtain⟨rfl,rfl⟩:=h
  obtain⟨l,hl,he⟩:=cE hh hr hx hs
  refine aS.value hh (x:=.pointer (some ⟨l.b,l.d+(o+f.offset),none⟩)) ?_ ⟨l,hl,rfl⟩
  simp[Instr.fieldAt,run_underlying ht,hf,Instr.sureAddr,he,fieldPlace,vL hk,Result.andThen,uJ,pk]
 ·cases h
def Ygk(hh:a_ P μ w st)(hr:RR μ r n a.tmps){t:TypeId}{i:Nat}{x:Operand}{s:Src}{fs:Array Field}{f:Field}{k:Option Nat}(ht:P.underlying t=some (.struct fs))(hf:fs[i]?=some f)
  (hk:vn P f.type=some k) (hx:bk P x=some s) (h:DL f.offset k s call r st=some (v,ax)):
  aS P μ w st (do pure (.value (<-Instr.field t (a.eval x) i))) v ax:=by
 unfold DL at h
 split at h
 ·rename_i cs hs
  obtain⟨xs,he,oB⟩:=cE hh hr hx hs
  split at h
  ·rename_i u hu
   simp only[ak,bh]at h
   obtain⟨rfl,rfl⟩:=h
   obtain⟨y,hy,hv⟩:=NC (P:=P) (w:=w) oB hk hu
   exact aS.value hh (by simp[Instr.field,run_underlying ht,hf,he,asAgg,hy]) hv
  ·cases h
 ·cases h
def Zua(hh:a_ P μ w st)(hr:RR μ r n a.tmps){t e:TypeId}{k z:Nat}{x i:Operand}{s q:Src}(ht:P.underlying t=some (.array k e))(hz:eD P e=some z)
  (hx:bk P x=some s) (hi:bk P i=some q) (h:Aw k z s q call r st=some (v,ax)):
  aS P μ w st (do pure (.value (<-Instr.indexAt t (a.eval x) (a.eval i)))) v ax:=by
 unfold Aw at h
 split at h
 ·rename_i b o kd j hs hq
  split at h
  ·rename_i hj
   simp only[ak,bh]at h
   obtain⟨rfl,rfl⟩:=h
   obtain⟨l,hl,he⟩:=cE hh hr hx hs
   have iV:=cE hh hr hi hq
   simp only[VR]at iV
   refine aS.value hh (x:=.pointer (some ⟨l.b,l.d+(o+j.toNat*z),none⟩)) ?_ ⟨l,hl,rfl⟩
   have nH:j<(k:Int):=hj.2
   simp[Instr.indexAt,asIntOf,iV,run_underlying ht,Instr.sureAddr,he,hj.1,nH,vL hz,Result.andThen,uJ,pk]
  ·cases h
 ·cases h
def Zyx(hh:a_ P μ w st)(hr:RR μ r n a.tmps){t e:TypeId}{z:Nat}{x i:Operand}{s q:Src}(ht:P.underlying t=some (.slice e))(hz:eD P e=some z)
  (hx:bk P x=some s) (hi:bk P i=some q) (h:BV z s q call r st=some (v,ax)):
  aS P μ w st (do pure (.value (<-Instr.indexAt t (a.eval x) (a.eval i)))) v ax:=by
 unfold BV at h
 split at h
 ·rename_i b o len cp sz kd j hs hq
  split at h
  ·rename_i hj
   simp only[ak,bh]at h
   obtain⟨rfl,rfl⟩:=h
   obtain⟨l,c,hl,he,_⟩:=cE hh hr hx hs
   have iV:=cE hh hr hi hq
   simp only[VR]at iV
   refine aS.value hh (x:=.pointer (some ⟨l.b,l.d+(o+j.toNat*z),none⟩)) ?_ ⟨l,hl,rfl⟩
   have nH:j<(len:Int):=hj.2
   simp[Instr.indexAt,asIntOf,iV,run_underlying ht,he,hj.1,nH,vL hz,Result.andThen,uJ,pk]
  ·cases h
 ·cases h
def Ycp(hh:a_ P μ w st)(hr:RR μ r n a.tmps){t e:TypeId}{k z:Nat}{m:Option Nat}{x i:Operand}{s q:Src}(ht:P.underlying t=some (.array k e))(hz:eD P e=some z)(hm:vn P e=some m)
  (hx:bk P x=some s) (hi:bk P i=some q) (h:GJ k z m s q call r st=some (v,ax)):
  aS P μ w st (do pure (.value (<-Instr.index t (a.eval x) (a.eval i)))) v ax:=by
 unfold GJ at h
 split at h
 ·rename_i cs kd j hs hq
  split at h
  ·rename_i hj
   split at h
   ·rename_i u hu
    simp only[ak,bh]at h
    obtain⟨rfl,rfl⟩:=h
    obtain⟨xs,he,oB⟩:=cE hh hr hx hs
    have iV:=cE hh hr hi hq
    simp only[VR]at iV
    obtain⟨y,hy,hv⟩:=NC (P:=P) (w:=w) oB hm hu
    have nH:j<(k:Int):=hj.2
    exact aS.value hh (by simp[Instr.index,asIntOf,iV,run_underlying ht,he,hj.1,nH,vL hz,Result.andThen,hy]) hv
   ·cases h
  ·cases h
 ·cases h
def Ycn(hh:a_ P μ w st)(hr:RR μ r n a.tmps){t:TypeId}{x i:Operand}{s q:Src}(ht:P.underlying t=some .string)
  (hx:bk P x=some s) (hi:bk P i=some q) (h:BW s q call r st=some (v,ax)):
  aS P μ w st (do pure (.value (<-Instr.index t (a.eval x) (a.eval i)))) v ax:=by
 unfold BW at h
 split at h
 ·rename_i cs kd j hs hq
  split at h
  ·rename_i hj
   split at h
   ·rename_i u hu
    simp only[ak,bh]at h
    obtain⟨rfl,rfl⟩:=h
    have he:=cE hh hr hx hs
    have iV:=cE hh hr hi hq
    simp only[VR]at iV he
    have hb:(⟨cs.toArray⟩:ByteArray)[j.toNat]?=some u:=by
     obtain⟨aO,cK⟩:=zo.1 hu
     rw[getElem?_pos (⟨cs.toArray⟩:ByteArray) j.toNat (by show j.toNat<cs.toArray.size;simpa using aO)]
     simp only[ak]
     exact cK
    exact aS.value hh (x:=.int .u8 u.toNat) (by simp[Instr.index,asIntOf,iV,run_underlying ht,he,hj,hb]) (by simp[VR])
   ·cases h
  ·cases h
 ·cases h
def Zy4(hh:a_ P μ w st)(hr:RR μ r n a.tmps){x:Operand}{s:Src}{i:Nat}(hx:bk P x=some s)(h:DP s i call r st=some (v,ax)):
  aS P μ w st (do pure (.value (<-Instr.extract (a.eval x) i))) v ax:=by
 unfold DP at h
 split at h
 ·rename_i vs hs
  split at h
  ·rename_i u hu
   simp only[ak,bh]at h
   obtain⟨rfl,rfl⟩:=h
   obtain⟨xs,he,oB⟩:=cE hh hr hx hs
   obtain⟨y,hy,hv⟩:=oB.get hu
   exact aS.value hh (by simp[Instr.extract,he,hy]) hv
  ·cases h
 ·cases h
def Zx7(hh:a_ P μ w st)(hr:RR μ r n a.tmps){t:TypeId}{x:Operand}{s:Src}{d:TypeDesc}(ht:P.underlying t=some d)(hd:∀m,d≠.interface m)(hx:bk P x=some s)
  (h:GH t s call r st=some (v,ax)):aS P μ w st (do pure (.value (<-Instr.makeInterface t (a.eval x)))) v ax:=by
 unfold GH at h
 split at h
 ·rename_i u hu
  simp only[ak,bh]at h
  obtain⟨rfl,rfl⟩:=h
  refine aS.value hh (x:=.iface t (a.eval x)) ?_ ⟨_,rfl,cE hh hr hx hu⟩
  cases d<;>simp[Instr.makeInterface,run_underlying ht,Result.andThen]at hd ⊢
 ·cases h
def Yby(hh:a_ P μ w st)(hr:RR μ r n a.tmps){f:FuncId}{xs ys:Array Operand}{ss ts:List Src}(hx:sH P xs.toList=some ss)(hy:sH P ys.toList=some ts)
  (h:DJ f ss ts call r st=some (v,ax)):aS P μ w st (do pure (.value (<-Instr.makeFunc (.func f) (xs.map a.eval) (ys.map a.eval)))) v ax:=by
 unfold DJ at h
 split at h
 ·rename_i us ws h1 h2
  simp only[ak,bh]at h
  obtain⟨rfl,rfl⟩:=h
  refine aS.value hh (x:=.func (.func f) (xs.map a.eval) (ys.map a.eval)) (by simp[Instr.makeFunc]) ⟨xs.toList.map a.eval,ys.toList.map a.eval,?_,Ef hh hr hx h1,Ef hh hr hy h2⟩
  congr 1<;>apply xD<;>simp
 ·cases h
def Zzf(hh:a_ P μ w st)(hr:RR μ r n a.tmps){src dst:TypeId}{k:IntKind}{x:Operand}{s:Src}(hs:∃q,P.underlying src=some (.int q))(hd:P.underlying dst=some (.int k))(hx:bk P x=some s)
  (h:DH k s call r st=some (v,ax)):aS P μ w st (do pure (.value (<-convert src dst (a.eval x)))) v ax:=by
 unfold DH at h
 split at h
 ·rename_i q m hm
  simp only[ak,bh]at h
  obtain⟨rfl,rfl⟩:=h
  obtain⟨q',hs⟩:=hs
  have he:=cE hh hr hx hm
  simp only[VR]at he
  exact aS.value hh (x:=.int k (k.wrap m)) (by simp[convert,run_underlying hs,run_underlying hd,he,Conv.intToInt]) (by simp[VR,xF])
 ·cases h
def Zze(hh:a_ P μ w st)(hr:RR μ r n a.tmps){src dst:TypeId}{x:Operand}{s:Src}(hs:P.underlying src=some .string)(hd:P.underlying dst=some .string)(hx:bk P x=some s)
  (h:GG s call r st=some (v,ax)):aS P μ w st (do pure (.value (<-convert src dst (a.eval x)))) v ax:=by
 unfold GG at h
 split at h
 ·rename_i m hm
  simp only[ak,bh]at h
  obtain⟨rfl,rfl⟩:=h
  have he:=cE hh hr hx hm
  simp only[VR]at he
  exact aS.value hh (x:=.string ⟨m.toArray⟩) (by simp[convert,run_underlying hs,run_underlying hd,he]) (by simp[VR])
 ·cases h
end
set_option maxHeartbeats 2000000
section
variable {P:Program} {μ:Mu} {w:World} {st ax:St} {r:T V} {n:Nat} {a:Act} {call:cH} {v:V}
def Zyl{op:BinOp}{k:IntKind}{x y:Int}{t:TypeId}(h:pn op k x y=some v):
  ∃z,(binOp op t (.int k x) (.int k y)).run P w=.ok z w/\VR μ v z:=by
 cases op<;>simp only[pn,ak,reduceCtorEq]at h
 case add=>subst h;exact⟨_,by simp[binOp,Op.intArith];rfl,by simp[VR,xF]⟩
 case sub=>subst h;exact⟨_,by simp[binOp,Op.intArith];rfl,by simp[VR,xF]⟩
 case mul=>subst h;exact⟨_,by simp[binOp,Op.intArith];rfl,by simp[VR,xF]⟩
 case quo=>
  split at h
  ·cases h
  ·rename_i h0;simp only[ak]at h;subst h;exact⟨_,by simp[binOp,Op.intDiv,h0];rfl,by simp[VR,xF]⟩
 case rem=>
  split at h
  ·cases h
  ·rename_i h0;simp only[ak]at h;subst h;exact⟨_,by simp[binOp,Op.intDiv,h0];rfl,by simp[VR]⟩
 case and=>subst h;exact⟨_,by simp[binOp,Op.intBits];rfl,by simp[VR]⟩
 case or=>subst h;exact⟨_,by simp[binOp,Op.intBits];rfl,by simp[VR]⟩
 case xor=>subst h;exact⟨_,by simp[binOp,Op.intBits];rfl,by simp[VR]⟩
 case andNot=>subst h;exact⟨_,by simp[binOp,Op.intBits];rfl,by simp[VR]⟩
 case eql=>subst h;exact⟨_,by simp[binOp,Op.intCmp];rfl,by simp[VR]⟩
 case neq=>subst h;exact⟨_,by simp[binOp,Op.intCmp];rfl,by simp[VR]⟩
 case lss=>subst h;exact⟨_,by simp[binOp,Op.intCmp];rfl,by simp[VR]⟩
 case leq=>subst h;exact⟨_,by simp[binOp,Op.intCmp];rfl,by simp[VR]⟩
 case gtr=>subst h;exact⟨_,by simp[binOp,Op.intCmp];rfl,by simp[VR]⟩
 case geq=>subst h;exact⟨_,by simp[binOp,Op.intCmp];rfl,by simp[VR]⟩
def Zx{op:BinOp}{k k':IntKind}{x y:Int}{t:TypeId}(hs:op=.shl\/op=.shr)(h:wD op k x y=some v):
  ∃z,(binOp op t (.int k x) (.int k' y)).run P w=.ok z w/\VR μ v z:=by
 unfold wD at h
 split at h
 ·cases h
 ·rename_i h0
  rcases hs with rfl|rfl<;>simp only[ak]at h<;>subst h
  ·exact⟨_,by simp[binOp,Op.shift,h0];rfl,by simp[VR]⟩
  ·exact⟨_,by simp[binOp,Op.shift,h0];rfl,by simp[VR]⟩
def ND(l:List UInt8):(⟨l.toArray⟩:ByteArray).toList=l:=by
 rw[ByteArray.toList_eq]
def Zw7{op:BinOp}{x y:List UInt8}{t:TypeId}(h:iC op x y=some v):
  ∃z,(binOp op t (.string ⟨x.toArray⟩) (.string ⟨y.toArray⟩)).run P w=.ok z w/\VR μ v z:=by
 have e1:=ND x
 have e2:=ND y
 cases op<;>simp only[iC,ak,reduceCtorEq]at h
 case add=>
  split at h
  ·cases h
  ·rename_i hle
   simp only[ak]at h;subst h
   refine⟨.string ⟨(x++y).toArray⟩,?_,by simp[VR]⟩
   have jc:((⟨x.toArray⟩:ByteArray).size+(⟨y.toArray⟩:ByteArray).size)=x.length+y.length:=by
    show x.toArray.size+y.toArray.size=_
    simp
   have I3:(⟨x.toArray⟩:ByteArray)++(⟨y.toArray⟩:ByteArray)=⟨(x++y).toArray⟩:=by
    apply ByteArray.ext
    simp[ByteArray.data_append]
   simp only[binOp,Op.stringOp,jc,aq hle,I3]
   simp
 case eql=>subst h;exact⟨_,by simp[binOp,Op.stringOp,e1,e2];rfl,by simp[VR]⟩
 case neq=>subst h;exact⟨_,by simp[binOp,Op.stringOp,e1,e2];rfl,by simp[VR]⟩
 case lss=>subst h;exact⟨_,by simp[binOp,Op.stringOp,e1,e2];rfl,by simp[VR]⟩
 case leq=>subst h;exact⟨_,by simp[binOp,Op.stringOp,e1,e2];rfl,by simp[VR]⟩
 case gtr=>subst h;exact⟨_,by simp[binOp,Op.stringOp,e1,e2];rfl,by simp[VR]⟩
 case geq=>subst h;exact⟨_,by simp[binOp,Op.stringOp,e1,e2];rfl,by simp[VR]⟩
def Yox(hh:a_ P μ w st)(hr:RR μ r n a.tmps){op:UnOp}{x:Operand}{s:Src}(hx:bk P x=some s)(h:DG op s call r st=some (v,ax)):
  aS P μ w st (do pure (.value (<-Op.unary op (a.eval x)))) v ax:=by
 unfold DG at h
 split at h
 ·rename_i u hu
  split at h
  ·rename_i z hz
   simp only[ak,bh]at h
   obtain⟨rfl,rfl⟩:=h
   have he:=cE hh hr hx hu
   unfold R9 at hz
   split at hz
   ·simp only[VR]at he
    simp only[ak]at hz;subst hz
    exact aS.value hh (x:=_) (by simp[Op.unary,he,Op.intArith];rfl) (by simp[VR])
   ·simp only[VR]at he
    simp only[ak]at hz;subst hz
    exact aS.value hh (x:=_) (by simp[Op.unary,he,Op.intBits];rfl) (by simp[VR])
   ·simp only[VR]at he
    simp only[ak]at hz;subst hz
    exact aS.value hh (x:=_) (by simp[Op.unary,he];rfl) (by simp[VR])
   ·cases hz
  ·cases h
 ·cases h
def Zy8{ng:Bool}{k:PK}{t:TypeId}{d:TypeDesc}{D:Nat}(ht:P.underlying t=some d)(NF:RY P d=true)(hk:M6 d=some k)
  {x y:V} {b:Bool} (h:aW ng k x y=some b) {X Y:Value} (hX:VR μ x X) (hY:VR μ y Y):(Op.equalIn (D+1) t X Y).run P w=.ok b w:=by
 unfold aW at h
 split at h
 case h_25=>cases h
 all_goals (cases d<;>simp only[M6,reduceCtorEq,ak]at hk)
 all_goals simp only[VR]at hX hY
 case h_7.pointer e=>
  split at h
  ·rename_i he
   obtain⟨rfl,rfl⟩:=he
   obtain⟨l,hl,rfl⟩:=hX
   obtain⟨l',tY,rfl⟩:=hY
   rw[hl]at tY
   simp only[ak]at tY h
   subst tY h
   simp only[RY]at NF
   obtain⟨j,hj⟩:=Option.isSome_iff_exists.1 NF
   simp[Op.equalIn,run_underlying ht,sizeOf,typeInfo,hj,run_sameAddr_same]
  ·cases h
 case h_2.int=>
  split at h
  ·rename_i e;subst e;subst hX hY;simp only[ak]at h;subst h;simp[Op.equalIn,run_underlying ht]
  ·cases h
 case h_3.string=>
  subst hX hY;simp only[ak]at h;subst h
  rw[run_equalIn_string w D t _ _ ht,ND,ND]
 case h_22.interface=>
  split at h
  ·subst hX hY;simp only[ak]at h;subst h;simp[Op.equalIn,run_underlying ht]
  ·cases h
 all_goals (simp only[ak]at h;subst h)
 all_goals first
  |(subst hX;subst hY;simp[Op.equalIn,run_underlying ht];done)
  |(subst hX;obtain⟨_,_,rfl⟩:=hY;simp[Op.equalIn,run_underlying ht];done)
  |(subst hY;obtain⟨_,_,rfl⟩:=hX;simp[Op.equalIn,run_underlying ht];done)
  |(subst hX;obtain⟨_,_,_,rfl,_⟩:=hY;simp[Op.equalIn,run_underlying ht];done)
  |(subst hY;obtain⟨_,_,_,rfl,_⟩:=hX;simp[Op.equalIn,run_underlying ht];done)
  |(subst hX;obtain⟨_,_,rfl,_⟩:=hY;simp[Op.equalIn,run_underlying ht];done)
  |(subst hY;obtain⟨_,_,rfl,_⟩:=hX;simp[Op.equalIn,run_underlying ht];done)
  |(subst hX;obtain⟨_,rfl,_⟩:=hY;simp[Op.equalIn,run_underlying ht];done)
  |(subst hY;obtain⟨_,rfl,_⟩:=hX;simp[Op.equalIn,run_underlying ht];done)
def Zuh{d:Nat}(ih:∀{ng:Bool} {t:TypeId} {q:p_},ui P d t=some q->∀{x y:V} {b:Bool},rB ng q x y=some b->∀{X Y:Value},VR μ x X->VR μ y Y->∀D,d<=D->(Op.equalIn D t X Y).run P w=.ok b w)
  {xs ys:List V} {XS YS:List Value} (hX:aP μ xs XS) (hY:aP μ ys YS) (D:Nat) (hD:d<=D):
  ∀{fs:List Field} {l:List (Nat×Option Nat×p_)},Gp P (ui P d) fs=some l->∀{b:Bool},IH l xs ys=some b->(Op.eqFields D ⟨XS⟩ ⟨YS⟩ fs).run P w=.ok b w:=by
 intro fs
 induction fs with
 |nil=>
  intro l hl b h
  simp only[Gp,ak]at hl;subst hl
  simp only[IH,ak]at h;subst h
  simp[Op.eqFields]
 |cons f fs ihf=>
  intro l hl b h
  simp only[Gp]at hl
  split at hl
  ·rename_i hn
   simp only[Op.eqFields,hn,ne_eq,not_true_eq_false,if_false]
   exact ihf hl h
  ·rename_i hn
   split at hl
   ·rename_i k q l' hk hq tY
    simp only[ak]at hl;subst hl
    simp only[IH]at h
    split at h
    ·rename_i x y hx hy
     obtain⟨X,h1,h2⟩:=NC (P:=P) (w:=w) hX hk hx
     obtain⟨Y,h3,h4⟩:=NC (P:=P) (w:=w) hY hk hy
     split at h
     ·rename_i he
      have e:=ih hq he h2 h4 D hD
      simp only[Op.eqFields,ne_eq,hn,not_false_eq_true,if_true,Sem.run_bind,h1,h3,e,Result.andThen,Bool.not_true,fY,if_false]
      exact ihf tY h
     ·rename_i he
      simp only[ak]at h;subst h
      have e:=ih hq he h2 h4 D hD
      simp[Op.eqFields,hn,h1,h3,e,Result.andThen]
     ·cases h
    ·cases h
   ·cases hl
def Ylg:∀(d:Nat) {ng:Bool} {t:TypeId} {q:p_},ui P d t=some q->∀{x y:V} {b:Bool},rB ng q x y=some b->∀{X Y:Value},VR μ x X->VR μ y Y->∀D,d<=D->(Op.equalIn D t X Y).run P w=.ok b w:=by
 intro d
 induction d with
 |zero=>intro ng t q hq;simp[ui]at hq
 |succ d ih=>
  intro ng t q hq x y b h X Y hX hY D hD
  obtain⟨D,rfl⟩:∃D',D=D'+1:=⟨D-1,by omega⟩
  simp only[ui]at hq
  split at hq
  ·rename_i fs ht
   split at hq
   ·cases hq
   ·rename_i ff
    split at hq
    ·rename_i l hl
     simp only[ak]at hq;subst hq
     cases x<;>cases y<;>simp only[rB,reduceCtorEq]at h
     obtain⟨xs,rfl,oB⟩:=hX
     obtain⟨ys,rfl,SX⟩:=hY
     have hf:P.fieldsOf t=fs:=by simp[Program.fieldsOf,ht]
     rw[run_equalIn_struct w D t _ _ (by rw[hf];exact ht) (by simpa using ff),hf]
     exact Zuh ih oB SX D (by omega) hl h
    ·cases hq
  ·rename_i dd Zy ht
   split at hq
   ·rename_i k hk
    split at hq
    ·rename_i NF
     simp only[ak]at hq;subst hq
     simp only[rB]at h
     exact Zy8 ht NF hk h hX hY
    ·cases hq
   ·cases hq
  ·cases hq
def Jh{op:BinOp}{t:TypeId}{x y:Operand}{X Y:Value}(h1:X=.nilIface->Y=.nilIface->De x=true\/De y=true)
  (h2:∀a b,X=.agg a->Y=.agg b->P.eqGuardType P.depth t=false):(eqGuard op t x y X Y).run P w=.ok () w:=by
 by_cases hn:X=.nilIface/\Y=.nilIface
 ·obtain⟨rfl,rfl⟩:=hn
  have h:=h1 rfl rfl
  cases op<;>cases x<;>cases y<;>simp_all [eqGuard,De]
 ·by_cases ha:(∃a,X=.agg a)/\∃b,Y=.agg b
  ·obtain⟨⟨a,rfl⟩,b,rfl⟩:=ha
   have h:=h2 a b rfl rfl
   cases op<;>simp[eqGuard,run_program,h]
  ·cases op<;>simp[eqGuard]<;>split<;>simp_all
end
end Go.Mx
