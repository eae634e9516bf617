/-The operations of M stand for the Go mod-/
import Derived.Test.YtlfdeoomaccciaaGreatDoorMxComp
import Derived.LaidEql
set_option linter.all false
namespace Go.Mx
open Go
mutual
def QC(μ:Mu):∀(x:Value) (v:V),cV x=some v->VR μ v x
 |.bool b,v,h=>by simp only[cV,aq]at h;subst h;simp[VR]
 |.int k n,v,h=>by simp only[cV,aq]at h;subst h;simp[VR]
 |.float k n,v,h=>by simp only[cV,aq]at h;subst h;simp[VR]
 |.complex ..,v,h=>by simp[cV]at h
 |.string s,v,h=>by simp only[cV,aq]at h;subst h;simp[VR]
 |.pointer none,v,h=>by simp only[cV,aq]at h;subst h;simp[VR]
 |.pointer (some _),v,h=>by simp[cV]at h
 |.slice none 0 0,v,h=>by simp only[cV,aq]at h;subst h;simp[VR]
 |.slice none 0 (c+1),v,h=>by simp[cV]at h
 |.slice none (n+1) c,v,h=>by simp[cV]at h
 |.slice (some _) _ _,v,h=>by simp[cV]at h
 |.map none,v,h=>by simp only[cV,aq]at h;subst h;simp[VR]
 |.map (some _),v,h=>by simp[cV]at h
 |.chan none,v,h=>by simp only[cV,aq]at h;subst h;simp[VR]
 |.chan (some _),v,h=>by simp[cV]at h
 |.func ..,v,h=>by simp[cV]at h
 |.nilFunc,v,h=>by simp only[cV,aq]at h;subst h;simp[VR]
 |.iface ..,v,h=>by simp[cV]at h
 |.nilIface,v,h=>by simp only[cV,aq]at h;subst h;simp[VR]
 |.agg ⟨l⟩,v,h=>by
  simp only[cV]at h
  split at h
  ·rename_i l' hl
   simp only[aq]at h;subst h
   exact⟨l,rfl,Xb μ l l' hl⟩
  ·cases h
 |.tuple ⟨l⟩,v,h=>by
  simp only[cV]at h
  split at h
  ·rename_i l' hl
   simp only[aq]at h;subst h
   exact⟨l,rfl,Xb μ l l' hl⟩
  ·cases h
def Xb(μ:Mu):∀(xs:List Value) (vs:List V),I6 xs=some vs->aS μ vs xs
 |[],vs,h=>by simp only[I6,aq]at h;subst h;simp[aS]
 |x::xs,vs,h=>by
  simp only[I6]at h
  split at h
  ·rename_i v kQ hv G7
   simp only[aq]at h;subst h
   exact⟨x,xs,rfl,QC μ x v hv,Xb μ xs kQ G7⟩
  ·cases h
end
section
variable {P:Program} {μ:Mu} {w:World} {st:St} {r:T V} {n:Nat} {a:Act}
def cQ(hh:bm P μ w st)(hr:RR μ r n a.tmps){x:Operand}{s:Src}(hc:bB P x=some s){v:V}(hv:s.ev r=some v):VR μ v (a.eval x):=by
 cases x with
 |tmp t=>
  simp only[bB,aq]at hc;subst hc
  obtain⟨y,h1,h2⟩:=hr.2 t v hv
  simpa[Act.eval,Gg,h1]using h2
 |const c=>
  simp only[bB]at hc
  split at hc
  ·rename_i v' F0
   simp only[aq]at hc;subst hc
   simp only[Src.ev,aq]at hv;subst hv
   exact QC μ c v' F0
  ·cases hc
 |global g=>
  simp only[bB]at hc
  split at hc
  ·rename_i hg
   simp only[aq]at hc;subst hc
   simp only[Src.ev,aq]at hv;subst hv
   obtain⟨t,ht⟩:=hh.gU g hg
   exact⟨_,ht,rfl⟩
  ·cases hc
 |func f=>
  simp only[bB,aq]at hc;subst hc
  simp only[Src.ev,aq]at hv;subst hv
  exact⟨[],[],rfl,by simp[aS],by simp[aS]⟩
def Hb(hh:bm P μ w st)(hr:RR μ r n a.tmps):∀{xs:List Operand} {ss:List Src},vj P xs=some ss->∀{vs:List V},uF r ss=some vs->aS μ vs (xs.map a.eval)
 |[],ss,hc,vs,hv=>by
  simp only[vj,aq]at hc;subst hc
  simp only[uF,aq]at hv;subst hv
  simp[aS]
 |x::xs,ss,hc,vs,hv=>by
  simp only[vj]at hc
  split at hc
  ·rename_i s ss' h1 h2
   simp only[aq]at hc;subst hc
   simp only[uF]at hv
   split at hv
   ·rename_i v kQ h3 h4
    simp only[aq]at hv;subst hv
    exact⟨_,_,rfl,cQ hh hr h1 h3,Hb hh hr h2 h4⟩
   ·cases hv
  ·cases hc
def Yej(hh:bm P μ w st)(hr:RR μ r n a.tmps){x:Option Operand}{s:Option Src}(hc:uA P x=some s){v:Option V}(hv:aC r s=some v):
  (v=none/\x=none)\/∃v' x',v=some v'/\x=some x'/\VR μ v' (a.eval x'):=by
 cases x with
 |none=>
  simp only[uA,aq]at hc;subst hc
  simp only[aC,aq]at hv;subst hv
  exact .inl ⟨rfl,rfl⟩
 |some x=>
  simp only[uA]at hc
  split at hc
  ·rename_i s' h1
   simp only[aq]at hc;subst hc
   simp only[aC]at hv
   split at hv
   ·rename_i v' h2
    simp only[aq]at hv;subst hv
    exact .inr ⟨v',x,rfl,rfl,cQ hh hr h1 h2⟩
   ·cases hv
  ·cases hc
def ba(P:Program)(μ:Mu)(w:World)(st:St)(s:Sem Next)(v:V)(az:St):Prop:=
 ∃nx x w' μ' ws,s.run P w=.ok nx w'/\(nx=.value x\/(nx=.skip/\x=undef))/\VR μ' v x/\bH P μ w st μ' w' az ws
def ba.value(hh:bm P μ w st){s:Sem Value}{v:V}{x:Value}(hs:s.run P w=.ok x w)(hv:VR μ v x):
  ba P μ w st (do pure (.value (<-s))) v st:=
 ⟨.value x,x,w,μ,[],by simp[hs,Result.andThen],.inl rfl,hv,bH.refl hh⟩
def ba.Ly(hh:bm P μ w st){v:V}{x:Value}(hv:VR μ v x):ba P μ w st (pure (.value x)) v st:=
 ⟨.value x,x,w,μ,[],by simp,.inl rfl,hv,bH.refl hh⟩
def WL{t:TypeId}(h:zO P t=some none):(isAgg t).run P w=.ok false w:=by
 unfold zO at h
 split at h
 ·split at h<;>simp at h
 ·split at h<;>simp at h
 ·rename_i d h1 h2 hd
  cases d<;>simp[isAgg,run_underlying hd]<;>simp_all
 ·cases h
def JE{t:TypeId}{k:Nat}(h:zO P t=some (some k)):(isAgg t).run P w=.ok true w/\(sizeOf t).run P w=.ok k w:=by
 unfold zO eR at h
 split at h
 ·rename_i fs hd
  split at h
  ·rename_i n hn
   simp only[aq]at h;subst h
   simp only[kj]at hn
   obtain⟨i,hi,rfl⟩:=hn
   exact⟨by simp[isAgg,run_underlying hd],by simp[sizeOf,typeInfo,hi]⟩
  ·cases h
 ·rename_i k' e hd
  split at h
  ·rename_i n hn
   simp only[aq]at h;subst h
   simp only[kj]at hn
   obtain⟨i,hi,rfl⟩:=hn
   exact⟨by simp[isAgg,run_underlying hd],by simp[sizeOf,typeInfo,hi]⟩
  ·cases h
 ·cases h
 ·cases h
def yu{t:TypeId}{k:Nat}(h:eR P t=some k):(sizeOf t).run P w=.ok k w:=by
 unfold eR at h
 simp only[kj]at h
 obtain⟨i,hi,rfl⟩:=h
 simp[sizeOf,typeInfo,hi]
def Yca{t:TypeId}{v:V}(h:qU P t=some v):∃x,(zeroValue t).run P w=.ok x w/\∀μ,VR μ v x:=by
 unfold qU at h
 split at h
 ·rename_i i hi
  split at h
  ·rename_i x hx
   exact⟨x,by simp[zeroValue,typeInfo,hi,hx],fun μ=>QC μ x v h⟩
  ·cases h
 ·cases h
def xx(b o j:Nat):(⟨b,o,none⟩:Addr).add j=⟨b,o+j,none⟩:=by
 unfold Addr.add;split<;>simp_all
def OM.cell{c:List V}{e:TypeId}{rw:Bool}{l:L}(h:OM P μ w (.cells c e rw) l){j:Nat}{v:V}(hv:c[j]?=some v):
  ∃x,w.cell? ⟨l.b,l.d+j,none⟩=some x/\VR μ v x:=by
 obtain⟨c',lo,hi,h1,_,_,h4,_⟩:=h
 obtain⟨x,hx,hr⟩:=h4 j v hv
 exact⟨x,by simp[World.cell?,h1,hx],hr⟩
def OM.Aa{c:List V}{e:TypeId}{rw:Bool}{l:L}(h:OM P μ w (.cells c e rw) l){o k:Nat}{vs:List V}(hs:aD c o k=some vs):
  ∃xs:List Value,aS μ vs xs/\xs.length=k/\(loadCells ⟨l.b,l.d+o,none⟩ k).run P w=.ok xs.toArray w/\(∀(j:Nat) (x:Value),xs[j]?=some x->w.cell? ⟨l.b,l.d+o+j,none⟩=some x)/\(∀x∈xs,x.oneCell'=true):=by
 unfold aD at hs
 split at hs
 ·rename_i hle
  simp only[aq]at hs;subst hs
  obtain⟨c',lo,hi,h1,h2,h3,h4,h5,_⟩:=h
  have hlen:l.d+o+k<=c'.size:=by omega
  have hl:((c'.toList.drop (l.d+o)).take k).length=k:=by simp;omega
  have hg:∀(j:Nat) (x:Value),((c'.toList.drop (l.d+o)).take k)[j]?=some x->c'[l.d+o+j]?=some x:=fun j x hx=>by
   rw[iM]at hx
   split at hx
   ·simpa[fg]using hx
   ·cases hx
  have fX:∀(j:Nat) (x:Value),((c'.toList.drop (l.d+o)).take k)[j]?=some x->w.cell? ⟨l.b,l.d+o+j,none⟩=some x:=fun j x hx=>by
   simp[World.cell?,h1,hg j x hx]
  refine⟨(c'.toList.drop (l.d+o)).take k,?_,hl,?_,fX,fun x hx=>?_⟩
  ·refine aS.qY (by rw[hl];simp;omega) fun j v hv=>?_
   rw[iM]at hv
   split at hv
   ·rename_i hj
    rw[fg]at hv
    obtain⟨x,hx,hr⟩:=h4 (o+j) v hv
    refine⟨x,?_,hr⟩
    rw[iM,ay hj,fg]
    simpa[pe]using hx
   ·cases hv
  ·have:=run_loadCells_list (P:=P) w ⟨l.b,l.d+o,none⟩ ((c'.toList.drop (l.d+o)).take k) (fun j x hx=>by rw[xx];exact fX j x hx)
   rwa [hl]at this
  ·obtain⟨j,hj⟩:=xW hx
   have p_:j<k:=by rw[<-hl];exact(zH.1 hj).1
   exact h5 (o+j) x (by omega) (by rw[<-pe];exact hg j x hj)
 ·cases hs
def QD{t:TypeId}{vs:List V}{xs:List Value}(qi:aS μ vs xs){k:Option Nat}(ha:zO P t=some k){o:Nat}{v:V}(hv:aO vs o k=some v):
  ∃x,(part t ⟨xs⟩ o).run P w=.ok x w/\VR μ v x:=by
 cases k with
 |none=>
  simp only[aO]at hv
  obtain⟨x,hx,hr⟩:=qi.get hv
  exact⟨x,by simp[part,WL ha,Result.andThen,hx],hr⟩
 |some k=>
  simp only[aO]at hv
  split at hv
  ·rename_i l hl
   simp only[aq]at hv;subst hv
   unfold aD at hl
   split at hl
   ·simp only[aq]at hl;subst hl
    refine⟨.agg ⟨(xs.drop o).take k⟩,?_,⟨_,rfl,(qi.drop o).take k⟩⟩
    simp[part,(JE ha).1,(JE ha).2,Result.andThen]
   ·cases hl
  ·cases hv
end
section
variable {P:Program} {μ:Mu} {w:World} {st az:St} {r:T V} {n:Nat} {a:Act} {call:cD} {v:V}
def Lz{i:Nat}{c:List V}{e:TypeId}{rw:Bool}(h:st.row i=some (c,e,rw)):st.h.get i=some (.cells c e rw):=by
 unfold St.row at h
 split at h
 ·rename_i hg
  simp only[aq,bs]at h
  obtain⟨rfl,rfl,rfl⟩:=h
  exact hg
 ·cases h
def bm.row(hh:bm P μ w st){i:Nat}{l:L}(hl:μ i=some l){c:List V}{e:TypeId}{rw:Bool}(h:st.row i=some (c,e,rw)):OM P μ w (.cells c e rw) l:=by
 obtain⟨o,h1,h2⟩:=hh.obj i l hl
 rw[Lz h,aq]at h1
 subst h1;exact h2
def bm.get(hh:bm P μ w st){i:Nat}{l:L}(hl:μ i=some l){o:O}(h:st.h.get i=some o):OM P μ w o l:=by
 obtain⟨o',h1,h2⟩:=hh.obj i l hl
 rw[h,aq]at h1
 subst h1;exact h2
def Ykw(hh:bm P μ w st)(hr:RR μ r n a.tmps){x:Operand}{s:Src}(hx:bB P x=some s)(h:Gq s call r st=some (v,az)):
  ba P μ w st (pure (.value (a.eval x))) v az:=by
 unfold Gq at h
 split at h
 ·rename_i u hu
  simp only[aq,bs]at h
  obtain⟨rfl,rfl⟩:=h
  exact ba.Ly hh (cQ hh hr hx hu)
 ·cases h
def Ym7(hh:bm P μ w st)(hr:RR μ r n a.tmps){x y z:Operand}{s t u:Src}(hx:bB P x=some s)(hy:bB P y=some t)(hz:bB P z=some u)
  (h:Eb s t u call r st=some (v,az)):
  ba P μ w st (do pure (.value (if <-asBool (a.eval x) then a.eval y else a.eval z))) v az:=by
 unfold Eb at h
 split at h
 ·rename_i hs
  have h1:=cQ hh hr hx hs
  simp only[VR]at h1
  split at h
  ·rename_i v1 ht
   simp only[aq,bs]at h
   obtain⟨rfl,rfl⟩:=h
   exact⟨_,a.eval y,w,μ,[],by simp[h1,asBool],.inl rfl,cQ hh hr hy ht,bH.refl hh⟩
  ·cases h
 ·rename_i hs
  have h1:=cQ hh hr hx hs
  simp only[VR]at h1
  split at h
  ·rename_i v1 ht
   simp only[aq,bs]at h
   obtain⟨rfl,rfl⟩:=h
   exact⟨_,a.eval z,w,μ,[],by simp[h1,asBool],.inl rfl,cQ hh hr hz ht,bH.refl hh⟩
  ·cases h
 ·cases h
def Yn5(hh:bm P μ w st)(hr:RR μ r n a.tmps){t:TypeId}{k:Option Nat}{x:Operand}{s:Src}(ha:zO P t=some k)(hx:bB P x=some s)
  (h:Gu k s call r st=some (v,az)):ba P μ w st (do pure (.value (<-Instr.loadAt t (a.eval x)))) v az:=by
 unfold Gu at h
 split at h
 ·rename_i i o hs
  obtain⟨l,hl,he⟩:=cQ hh hr hx hs
  split at h
  ·rename_i c e rw al
   have zf:=hh.row hl al
   split at h
   ·rename_i u hu
    simp only[aq,bs]at h
    obtain⟨rfl,rfl⟩:=h
    cases k with
    |none=>
     simp only[aO]at hu
     obtain⟨y,hy,hv⟩:=zf.cell hu
     exact ba.value hh (by simp[Instr.loadAt,Instr.sureAddr,he,loadVar,WL ha,Result.andThen,hy]) hv
    |some k=>
     simp only[aO]at hu
     split at hu
     ·rename_i vs G7
      simp only[aq]at hu;subst hu
      obtain⟨xs,h1,_,h3,_⟩:=zf.Aa G7
      exact ba.value hh (x:=.agg xs.toArray) (by simp[Instr.loadAt,Instr.sureAddr,he,loadVar,(JE ha).1,(JE ha).2,Result.andThen,h3]) ⟨xs,rfl,h1⟩
     ·cases hu
   ·cases h
  ·cases h
 ·cases h
def Yh0(hh:bm P μ w st)(hr:RR μ r n a.tmps){x:Operand}{s:Src}(hx:bB P x=some s)(h:Gw s call r st=some (v,az)){ty:TypeId}{d:Option Tmp}{pos:String}{af:Array Edge}{g:Option (Nat×Bool)}:
  ba P μ w st (execOp a.eval ⟨d,.nilCheck x,ty,pos,af,g⟩) v az:=by
 unfold Gw at h
 split at h
 ·rename_i i o hs
  simp only[aq,bs]at h
  obtain⟨rfl,rfl⟩:=h
  have h0:=cQ hh hr hx hs
  obtain⟨l,hl,he⟩:=h0
  exact⟨_,_,w,μ,[],by simp[execOp,he],.inl rfl,⟨l,hl,rfl⟩,bH.refl hh⟩
 ·rename_i f b c hs
  simp only[aq,bs]at h
  obtain⟨rfl,rfl⟩:=h
  obtain⟨a',c',he,h1,h2⟩:=cQ hh hr hx hs
  exact⟨_,_,w,μ,[],by simp[execOp,he],.inl rfl,⟨a',c',rfl,h1,h2⟩,bH.refl hh⟩
 ·cases h
def Yi3(hh:bm P μ w st)(hr:RR μ r n a.tmps){t:TypeId}{i:Nat}{x:Operand}{s:Src}{fs:Array Field}{f:Field}{k:Nat}(ht:P.underlying t=some (.struct fs))(hf:fs[i]?=some f)
  (hk:eR P f.type=some (k+1)) (hx:bB P x=some s) (h:GC f.offset s call r st=some (v,az)):
  ba P μ w st (do pure (.value (<-Instr.fieldAt t (a.eval x) i))) v az:=by
 unfold GC at h
 split at h
 ·rename_i j o hs
  simp only[aq,bs]at h
  obtain⟨rfl,rfl⟩:=h
  obtain⟨l,hl,he⟩:=cQ hh hr hx hs
  refine ba.value hh (x:=.pointer (some ⟨l.b,l.d+(o+f.offset),none⟩)) ?_ ⟨l,hl,rfl⟩
  simp[Instr.fieldAt,run_underlying ht,hf,Instr.sureAddr,he,fieldPlace,yu hk,Result.andThen,xx,pe]
 ·cases h
def Ys4(hh:bm P μ w st)(hr:RR μ r n a.tmps){t:TypeId}{i:Nat}{x:Operand}{s:Src}{fs:Array Field}{f:Field}{k:Option Nat}(ht:P.underlying t=some (.struct fs))(hf:fs[i]?=some f)
  (hk:zO P f.type=some k) (hx:bB P x=some s) (h:GD f.offset k s call r st=some (v,az)):
  ba P μ w st (do pure (.value (<-Instr.field t (a.eval x) i))) v az:=by
 unfold GD at h
 split at h
 ·rename_i cs hs
  obtain⟨xs,he,qi⟩:=cQ hh hr hx hs
  split at h
  ·rename_i u hu
   simp only[aq,bs]at h
   obtain⟨rfl,rfl⟩:=h
   obtain⟨y,hy,hv⟩:=QD (P:=P) (w:=w) qi hk hu
   exact ba.value hh (by simp[Instr.field,run_underlying ht,hf,he,asAgg,hy]) hv
  ·cases h
 ·cases h
def Zvu(hh:bm P μ w st)(hr:RR μ r n a.tmps){t e:TypeId}{k z:Nat}{x i:Operand}{s q:Src}(ht:P.underlying t=some (.array k e))(hz:eR P e=some z)
  (hx:bB P x=some s) (hi:bB P i=some q) (h:Cw k z s q call r st=some (v,az)):
  ba P μ w st (do pure (.value (<-Instr.indexAt t (a.eval x) (a.eval i)))) v az:=by
 unfold Cw at h
 split at h
 ·rename_i b o kd j hs hq
  split at h
  ·rename_i hj
   simp only[aq,bs]at h
   obtain⟨rfl,rfl⟩:=h
   obtain⟨l,hl,he⟩:=cQ hh hr hx hs
   have iK:=cQ hh hr hi hq
   simp only[VR]at iK
   refine ba.value hh (x:=.pointer (some ⟨l.b,l.d+(o+j.toNat*z),none⟩)) ?_ ⟨l,hl,rfl⟩
   have n_:j<(k:Int):=hj.2
   simp[Instr.indexAt,asIntOf,iK,run_underlying ht,Instr.sureAddr,he,hj.1,n_,yu hz,Result.andThen,xx,pe]
  ·cases h
 ·cases h
def Yaj(hh:bm P μ w st)(hr:RR μ r n a.tmps){t e:TypeId}{z:Nat}{x i:Operand}{s q:Src}(ht:P.underlying t=some (.slice e))(hz:eR P e=some z)
  (hx:bB P x=some s) (hi:bB P i=some q) (h:Ef z s q call r st=some (v,az)):
  ba P μ w st (do pure (.value (<-Instr.indexAt t (a.eval x) (a.eval i)))) v az:=by
 unfold Ef at h
 split at h
 ·rename_i b o len cp sz kd j hs hq
  split at h
  ·rename_i hj
   simp only[aq,bs]at h
   obtain⟨rfl,rfl⟩:=h
   obtain⟨l,c,hl,he,_⟩:=cQ hh hr hx hs
   have iK:=cQ hh hr hi hq
   simp only[VR]at iK
   refine ba.value hh (x:=.pointer (some ⟨l.b,l.d+(o+j.toNat*z),none⟩)) ?_ ⟨l,hl,rfl⟩
   have n_:j<(len:Int):=hj.2
   simp[Instr.indexAt,asIntOf,iK,run_underlying ht,he,hj.1,n_,yu hz,Result.andThen,xx,pe]
  ·cases h
 ·cases h
def Yrt(hh:bm P μ w st)(hr:RR μ r n a.tmps){t e:TypeId}{k z:Nat}{m:Option Nat}{x i:Operand}{s q:Src}(ht:P.underlying t=some (.array k e))(hz:eR P e=some z)(hm:zO P e=some m)
  (hx:bB P x=some s) (hi:bB P i=some q) (h:Jo k z m s q call r st=some (v,az)):
  ba P μ w st (do pure (.value (<-Instr.index t (a.eval x) (a.eval i)))) v az:=by
 unfold Jo at h
 split at h
 ·rename_i cs kd j hs hq
  split at h
  ·rename_i hj
   split at h
   ·rename_i u hu
    simp only[aq,bs]at h
    obtain⟨rfl,rfl⟩:=h
    obtain⟨xs,he,qi⟩:=cQ hh hr hx hs
    have iK:=cQ hh hr hi hq
    simp only[VR]at iK
    obtain⟨y,hy,hv⟩:=QD (P:=P) (w:=w) qi hm hu
    have n_:j<(k:Int):=hj.2
    exact ba.value hh (by simp[Instr.index,asIntOf,iK,run_underlying ht,he,hj.1,n_,yu hz,Result.andThen,hy]) hv
   ·cases h
  ·cases h
 ·cases h
def Yd8(hh:bm P μ w st)(hr:RR μ r n a.tmps){t:TypeId}{x i:Operand}{s q:Src}(ht:P.underlying t=some .string)
  (hx:bB P x=some s) (hi:bB P i=some q) (h:Eg s q call r st=some (v,az)):
  ba P μ w st (do pure (.value (<-Instr.index t (a.eval x) (a.eval i)))) v az:=by
 unfold Eg at h
 split at h
 ·rename_i cs kd j hs hq
  split at h
  ·rename_i hj
   split at h
   ·rename_i u hu
    simp only[aq,bs]at h
    obtain⟨rfl,rfl⟩:=h
    have he:=cQ hh hr hx hs
    have iK:=cQ hh hr hi hq
    simp only[VR]at iK he
    have hb:(⟨cs.toArray⟩:ByteArray)[j.toNat]?=some u:=by
     obtain⟨ax,cK⟩:=zH.1 hu
     rw[getElem?_pos (⟨cs.toArray⟩:ByteArray) j.toNat (by show j.toNat<cs.toArray.size;simpa using ax)]
     simp only[aq]
     exact cK
    exact ba.value hh (x:=.int .u8 u.toNat) (by simp[Instr.index,asIntOf,iK,run_underlying ht,he,hj,hb]) (by simp[VR])
   ·cases h
  ·cases h
 ·cases h
def Yam(hh:bm P μ w st)(hr:RR μ r n a.tmps){x:Operand}{s:Src}{i:Nat}(hx:bB P x=some s)(h:GI s i call r st=some (v,az)):
  ba P μ w st (do pure (.value (<-Instr.extract (a.eval x) i))) v az:=by
 unfold GI at h
 split at h
 ·rename_i vs hs
  split at h
  ·rename_i u hu
   simp only[aq,bs]at h
   obtain⟨rfl,rfl⟩:=h
   obtain⟨xs,he,qi⟩:=cQ hh hr hx hs
   obtain⟨y,hy,hv⟩:=qi.get hu
   exact ba.value hh (by simp[Instr.extract,he,hy]) hv
  ·cases h
 ·cases h
def Zzr(hh:bm P μ w st)(hr:RR μ r n a.tmps){t:TypeId}{x:Operand}{s:Src}{d:TypeDesc}(ht:P.underlying t=some d)(hd:∀m,d≠.interface m)(hx:bB P x=some s)
  (h:Jm t s call r st=some (v,az)):ba P μ w st (do pure (.value (<-Instr.makeInterface t (a.eval x)))) v az:=by
 unfold Jm at h
 split at h
 ·rename_i u hu
  simp only[aq,bs]at h
  obtain⟨rfl,rfl⟩:=h
  refine ba.value hh (x:=.iface t (a.eval x)) ?_ ⟨_,rfl,cQ hh hr hx hu⟩
  cases d<;>simp[Instr.makeInterface,run_underlying ht,Result.andThen]at hd ⊢
 ·cases h
def Ydj(hh:bm P μ w st)(hr:RR μ r n a.tmps){f:FuncId}{xs ys:Array Operand}{ss ts:List Src}(hx:vj P xs.toList=some ss)(hy:vj P ys.toList=some ts)
  (h:GB f ss ts call r st=some (v,az)):ba P μ w st (do pure (.value (<-Instr.makeFunc (.func f) (xs.map a.eval) (ys.map a.eval)))) v az:=by
 unfold GB at h
 split at h
 ·rename_i us ws h1 h2
  simp only[aq,bs]at h
  obtain⟨rfl,rfl⟩:=h
  refine ba.value hh (x:=.func (.func f) (xs.map a.eval) (ys.map a.eval)) (by simp[Instr.makeFunc]) ⟨xs.toList.map a.eval,ys.toList.map a.eval,?_,Hb hh hr hx h1,Hb hh hr hy h2⟩
  congr 1<;>apply Array.ext'<;>simp
 ·cases h
def Yay(hh:bm P μ w st)(hr:RR μ r n a.tmps){src dst:TypeId}{k:IntKind}{x:Operand}{s:Src}(hs:∃q,P.underlying src=some (.int q))(hd:P.underlying dst=some (.int k))(hx:bB P x=some s)
  (h:Gz k s call r st=some (v,az)):ba P μ w st (do pure (.value (<-convert src dst (a.eval x)))) v az:=by
 unfold Gz at h
 split at h
 ·rename_i q m hm
  simp only[aq,bs]at h
  obtain⟨rfl,rfl⟩:=h
  obtain⟨q',hs⟩:=hs
  have he:=cQ hh hr hx hm
  simp only[VR]at he
  exact ba.value hh (x:=.int k (k.wrap m)) (by simp[convert,run_underlying hs,run_underlying hd,he,Conv.intToInt]) (by simp[VR,zZ])
 ·cases h
def Yqc(hh:bm P μ w st)(hr:RR μ r n a.tmps){src dst:TypeId}{x:Operand}{s:Src}(hs:P.underlying src=some .string)(hd:P.underlying dst=some .string)(hx:bB P x=some s)
  (h:Jl s call r st=some (v,az)):ba P μ w st (do pure (.value (<-convert src dst (a.eval x)))) v az:=by
 unfold Jl at h
 split at h
 ·rename_i m hm
  simp only[aq,bs]at h
  obtain⟨rfl,rfl⟩:=h
  have he:=cQ hh hr hx hm
  simp only[VR]at he
  exact ba.value hh (x:=.string ⟨m.toArray⟩) (by simp[convert,run_underlying hs,run_underlying hd,he]) (by simp[VR])
 ·cases h
end
set_option maxHeartbeats 2000000
section
variable {P:Program} {μ:Mu} {w:World} {st az:St} {r:T V} {n:Nat} {a:Act} {call:cD} {v:V}
def Zz7{op:BinOp}{k:IntKind}{x y:Int}{t:TypeId}(h:ra op k x y=some v):
  ∃z,(binOp op t (.int k x) (.int k y)).run P w=.ok z w/\VR μ v z:=by
 cases op<;>simp only[ra,aq,reduceCtorEq]at h
 case add=>subst h;exact⟨_,by simp[binOp,Op.intArith];rfl,by simp[VR,zZ]⟩
 case sub=>subst h;exact⟨_,by simp[binOp,Op.intArith];rfl,by simp[VR,zZ]⟩
 case mul=>subst h;exact⟨_,by simp[binOp,Op.intArith];rfl,by simp[VR,zZ]⟩
 case quo=>
  split at h
  ·cases h
  ·rename_i h0;simp only[aq]at h;subst h;exact⟨_,by simp[binOp,Op.intDiv,h0];rfl,by simp[VR,zZ]⟩
 case rem=>
  split at h
  ·cases h
  ·rename_i h0;simp only[aq]at h;subst h;exact⟨_,by simp[binOp,Op.intDiv,h0];rfl,by simp[VR]⟩
 case and=>subst h;exact⟨_,by simp[binOp,Op.intBits];rfl,by simp[VR]⟩
 case or=>subst h;exact⟨_,by simp[binOp,Op.intBits];rfl,by simp[VR]⟩
 case xor=>subst h;exact⟨_,by simp[binOp,Op.intBits];rfl,by simp[VR]⟩
 case andNot=>subst h;exact⟨_,by simp[binOp,Op.intBits];rfl,by simp[VR]⟩
 case eql=>subst h;exact⟨_,by simp[binOp,Op.intCmp];rfl,by simp[VR]⟩
 case neq=>subst h;exact⟨_,by simp[binOp,Op.intCmp];rfl,by simp[VR]⟩
 case lss=>subst h;exact⟨_,by simp[binOp,Op.intCmp];rfl,by simp[VR]⟩
 case leq=>subst h;exact⟨_,by simp[binOp,Op.intCmp];rfl,by simp[VR]⟩
 case gtr=>subst h;exact⟨_,by simp[binOp,Op.intCmp];rfl,by simp[VR]⟩
 case geq=>subst h;exact⟨_,by simp[binOp,Op.intCmp];rfl,by simp[VR]⟩
def Zpm{op:BinOp}{k k':IntKind}{x y:Int}{t:TypeId}(hs:op=.shl\/op=.shr)(h:y8 op k x y=some v):
  ∃z,(binOp op t (.int k x) (.int k' y)).run P w=.ok z w/\VR μ v z:=by
 unfold y8 at h
 split at h
 ·cases h
 ·rename_i h0
  rcases hs with rfl|rfl<;>simp only[aq]at h<;>subst h
  ·exact⟨_,by simp[binOp,Op.shift,h0];rfl,by simp[VR]⟩
  ·exact⟨_,by simp[binOp,Op.shift,h0];rfl,by simp[VR]⟩
def QE(l:List UInt8):(⟨l.toArray⟩:ByteArray).toList=l:=by
 rw[ByteArray.toList_eq]
def Zyq{op:BinOp}{x y:List UInt8}{t:TypeId}(h:g_ op x y=some v):
  ∃z,(binOp op t (.string ⟨x.toArray⟩) (.string ⟨y.toArray⟩)).run P w=.ok z w/\VR μ v z:=by
 have e1:=QE x
 have e2:=QE y
 cases op<;>simp only[g_,aq,reduceCtorEq]at h
 case add=>
  split at h
  ·cases h
  ·rename_i hle
   simp only[aq]at h;subst h
   refine⟨.string ⟨(x++y).toArray⟩,?_,by simp[VR]⟩
   have kX:((⟨x.toArray⟩:ByteArray).size+(⟨y.toArray⟩:ByteArray).size)=x.length+y.length:=by
    show x.toArray.size+y.toArray.size=_
    simp
   have GW:(⟨x.toArray⟩:ByteArray)++(⟨y.toArray⟩:ByteArray)=⟨(x++y).toArray⟩:=by
    apply ByteArray.ext
    simp[ByteArray.data_append]
   simp only[binOp,Op.stringOp,kX,ak hle,GW]
   simp
 case eql=>subst h;exact⟨_,by simp[binOp,Op.stringOp,e1,e2];rfl,by simp[VR]⟩
 case neq=>subst h;exact⟨_,by simp[binOp,Op.stringOp,e1,e2];rfl,by simp[VR]⟩
 case lss=>subst h;exact⟨_,by simp[binOp,Op.stringOp,e1,e2];rfl,by simp[VR]⟩
 case leq=>subst h;exact⟨_,by simp[binOp,Op.stringOp,e1,e2];rfl,by simp[VR]⟩
 case gtr=>subst h;exact⟨_,by simp[binOp,Op.stringOp,e1,e2];rfl,by simp[VR]⟩
 case geq=>subst h;exact⟨_,by simp[binOp,Op.stringOp,e1,e2];rfl,by simp[VR]⟩
def Yta(hh:bm P μ w st)(hr:RR μ r n a.tmps){op:UnOp}{x:Operand}{s:Src}(hx:bB P x=some s)(h:Gy op s call r st=some (v,az)):
  ba P μ w st (do pure (.value (<-Op.unary op (a.eval x)))) v az:=by
 unfold Gy at h
 split at h
 ·rename_i u hu
  split at h
  ·rename_i z hz
   simp only[aq,bs]at h
   obtain⟨rfl,rfl⟩:=h
   have he:=cQ hh hr hx hu
   unfold V1 at hz
   split at hz
   ·simp only[VR]at he
    simp only[aq]at hz;subst hz
    exact ba.value hh (x:=_) (by simp[Op.unary,he,Op.intArith];rfl) (by simp[VR])
   ·simp only[VR]at he
    simp only[aq]at hz;subst hz
    exact ba.value hh (x:=_) (by simp[Op.unary,he,Op.intBits];rfl) (by simp[VR])
   ·simp only[VR]at he
    simp only[aq]at hz;subst hz
    exact ba.value hh (x:=_) (by simp[Op.unary,he];rfl) (by simp[VR])
   ·cases hz
  ·cases h
 ·cases h
def Yaq{ng:Bool}{k:PK}{t:TypeId}{d:TypeDesc}{D:Nat}(ht:P.underlying t=some d)(QF:VT P d=true)(hk:P1 d=some k)
  {x y:V} {b:Bool} (h:aE ng k x y=some b) {X Y:Value} (hX:VR μ x X) (hY:VR μ y Y):(Op.equalIn (D+1) t X Y).run P w=.ok b w:=by
 unfold aE at h
 split at h
 case h_25=>cases h
 all_goals (cases d<;>simp only[P1,reduceCtorEq,aq]at hk)
 all_goals simp only[VR]at hX hY
 case h_7.pointer e=>
  split at h
  ·rename_i he
   obtain⟨rfl,rfl⟩:=he
   obtain⟨l,hl,rfl⟩:=hX
   obtain⟨l',jj,rfl⟩:=hY
   rw[hl]at jj
   simp only[aq]at jj h
   subst jj h
   simp only[VT]at QF
   obtain⟨j,hj⟩:=Option.isSome_iff_exists.1 QF
   simp[Op.equalIn,run_underlying ht,sizeOf,typeInfo,hj,run_sameAddr_same]
  ·cases h
 case h_2.int=>
  split at h
  ·rename_i e;subst e;subst hX hY;simp only[aq]at h;subst h;simp[Op.equalIn,run_underlying ht]
  ·cases h
 case h_3.string=>
  subst hX hY;simp only[aq]at h;subst h
  rw[run_equalIn_string w D t _ _ ht,QE,QE]
 case h_22.interface=>
  split at h
  ·subst hX hY;simp only[aq]at h;subst h;simp[Op.equalIn,run_underlying ht]
  ·cases h
 all_goals (simp only[aq]at h;subst h)
 all_goals first
  |(subst hX;subst hY;simp[Op.equalIn,run_underlying ht];done)
  |(subst hX;obtain⟨_,_,rfl⟩:=hY;simp[Op.equalIn,run_underlying ht];done)
  |(subst hY;obtain⟨_,_,rfl⟩:=hX;simp[Op.equalIn,run_underlying ht];done)
  |(subst hX;obtain⟨_,_,_,rfl,_⟩:=hY;simp[Op.equalIn,run_underlying ht];done)
  |(subst hY;obtain⟨_,_,_,rfl,_⟩:=hX;simp[Op.equalIn,run_underlying ht];done)
  |(subst hX;obtain⟨_,_,rfl,_⟩:=hY;simp[Op.equalIn,run_underlying ht];done)
  |(subst hY;obtain⟨_,_,rfl,_⟩:=hX;simp[Op.equalIn,run_underlying ht];done)
  |(subst hX;obtain⟨_,rfl,_⟩:=hY;simp[Op.equalIn,run_underlying ht];done)
  |(subst hY;obtain⟨_,rfl,_⟩:=hX;simp[Op.equalIn,run_underlying ht];done)
def Zv0{d:Nat}(ih:∀{ng:Bool} {t:TypeId} {q:s_},xd P d t=some q->∀{x y:V} {b:Bool},xj ng q x y=some b->∀{X Y:Value},VR μ x X->VR μ y Y->∀D,d<=D->(Op.equalIn D t X Y).run P w=.ok b w)
  {xs ys:List V} {XS YS:List Value} (hX:aS μ xs XS) (hY:aS μ ys YS) (D:Nat) (hD:d<=D):
  ∀{fs:List Field} {l:List (Nat×Option Nat×s_)},I7 P (xd P d) fs=some l->∀{b:Bool},K4 l xs ys=some b->(Op.eqFields D ⟨XS⟩ ⟨YS⟩ fs).run P w=.ok b w:=by
 intro fs
 induction fs with
 |nil=>
  intro l hl b h
  simp only[I7,aq]at hl;subst hl
  simp only[K4,aq]at h;subst h
  simp[Op.eqFields]
 |cons f fs ihf=>
  intro l hl b h
  simp only[I7]at hl
  split at hl
  ·rename_i hn
   simp only[Op.eqFields,hn,ne_eq,not_true_eq_false,if_false]
   exact ihf hl h
  ·rename_i hn
   split at hl
   ·rename_i k q l' hk hq jj
    simp only[aq]at hl;subst hl
    simp only[K4]at h
    split at h
    ·rename_i x y hx hy
     obtain⟨X,h1,h2⟩:=QD (P:=P) (w:=w) hX hk hx
     obtain⟨Y,h3,h4⟩:=QD (P:=P) (w:=w) hY hk hy
     split at h
     ·rename_i he
      have e:=ih hq he h2 h4 D hD
      simp only[Op.eqFields,ne_eq,hn,not_false_eq_true,if_true,Sem.run_bind,h1,h3,e,Result.andThen,Bool.not_true,fI,if_false]
      exact ihf jj h
     ·rename_i he
      simp only[aq]at h;subst h
      have e:=ih hq he h2 h4 D hD
      simp[Op.eqFields,hn,h1,h3,e,Result.andThen]
     ·cases h
    ·cases h
   ·cases hl
def Yos:∀(d:Nat) {ng:Bool} {t:TypeId} {q:s_},xd P d t=some q->∀{x y:V} {b:Bool},xj ng q x y=some b->∀{X Y:Value},VR μ x X->VR μ y Y->∀D,d<=D->(Op.equalIn D t X Y).run P w=.ok b w:=by
 intro d
 induction d with
 |zero=>intro ng t q hq;simp[xd]at hq
 |succ d ih=>
  intro ng t q hq x y b h X Y hX hY D hD
  obtain⟨D,rfl⟩:∃D',D=D'+1:=⟨D-1,by omega⟩
  simp only[xd]at hq
  split at hq
  ·rename_i fs ht
   split at hq
   ·cases hq
   ·rename_i dJ
    split at hq
    ·rename_i l hl
     simp only[aq]at hq;subst hq
     cases x<;>cases y<;>simp only[xj,reduceCtorEq]at h
     obtain⟨xs,rfl,qi⟩:=hX
     obtain⟨ys,rfl,LA⟩:=hY
     have hf:P.fieldsOf t=fs:=by simp[Program.fieldsOf,ht]
     rw[run_equalIn_struct w D t _ _ (by rw[hf];exact ht) (by simpa using dJ),hf]
     exact Zv0 ih qi LA D (by omega) hl h
    ·cases hq
  ·rename_i dd hns ht
   split at hq
   ·rename_i k hk
    split at hq
    ·rename_i QF
     simp only[aq]at hq;subst hq
     simp only[xj]at h
     exact Yaq ht QF hk h hX hY
    ·cases hq
   ·cases hq
  ·cases hq
def QG{op:BinOp}{t:TypeId}{x y:Operand}{X Y:Value}(h1:X=.nilIface->Y=.nilIface->Ga x=true\/Ga y=true)
  (h2:∀a b,X=.agg a->Y=.agg b->P.eqGuardType P.depth t=false):(eqGuard op t x y X Y).run P w=.ok () w:=by
 by_cases hn:X=.nilIface/\Y=.nilIface
 ·obtain⟨rfl,rfl⟩:=hn
  have h:=h1 rfl rfl
  cases op<;>cases x<;>cases y<;>simp_all [eqGuard,Ga]
 ·by_cases ha:(∃a,X=.agg a)/\∃b,Y=.agg b
  ·obtain⟨⟨a,rfl⟩,b,rfl⟩:=ha
   have h:=h2 a b rfl rfl
   cases op<;>simp[eqGuard,run_program,h]
  ·cases op<;>simp[eqGuard]<;>split<;>simp_all
end
end Go.Mx
