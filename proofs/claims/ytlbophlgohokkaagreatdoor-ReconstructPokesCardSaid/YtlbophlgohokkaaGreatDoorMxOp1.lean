/-
  The operations of M stand for the Go model's: operands; what reads; what only computes.
-/
import Derived.Test.YtlbophlgohokkaaGreatDoorMxComp
import Derived.LaidEql
set_option linter.all false
namespace Go.Mx
open Go
mutual
theorem Mn(μ:Mu):∀(x:Value) (v:V),cV x=some v->VR μ v x
 |.bool b,v,h=>by simp only[cV,aj]at h;subst h;simp[VR]
 |.int k n,v,h=>by simp only[cV,aj]at h;subst h;simp[VR]
 |.float k n,v,h=>by simp only[cV,aj]at h;subst h;simp[VR]
 |.complex ..,v,h=>by simp[cV]at h
 |.string s,v,h=>by simp only[cV,aj]at h;subst h;simp[VR]
 |.pointer none,v,h=>by simp only[cV,aj]at h;subst h;simp[VR]
 |.pointer (some _),v,h=>by simp[cV]at h
 |.slice none 0 0,v,h=>by simp only[cV,aj]at h;subst h;simp[VR]
 |.slice none 0 (c+1),v,h=>by simp[cV]at h
 |.slice none (n+1) c,v,h=>by simp[cV]at h
 |.slice (some _) _ _,v,h=>by simp[cV]at h
 |.map none,v,h=>by simp only[cV,aj]at h;subst h;simp[VR]
 |.map (some _),v,h=>by simp[cV]at h
 |.chan none,v,h=>by simp only[cV,aj]at h;subst h;simp[VR]
 |.chan (some _),v,h=>by simp[cV]at h
 |.func ..,v,h=>by simp[cV]at h
 |.nilFunc,v,h=>by simp only[cV,aj]at h;subst h;simp[VR]
 |.iface ..,v,h=>by simp[cV]at h
 |.nilIface,v,h=>by simp only[cV,aj]at h;subst h;simp[VR]
 |.agg ⟨l⟩,v,h=>by
  simp only[cV]at h
  split at h
  ·rename_i l' hl
   simp only[aj]at h;subst h
   exact⟨l,rfl,Sk μ l l' hl⟩
  ·cases h
 |.tuple ⟨l⟩,v,h=>by
  simp only[cV]at h
  split at h
  ·rename_i l' hl
   simp only[aj]at h;subst h
   exact⟨l,rfl,Sk μ l l' hl⟩
  ·cases h
theorem Sk(μ:Mu):∀(xs:List Value) (vs:List V),FI xs=some vs->aX μ vs xs
 |[],vs,h=>by simp only[FI,aj]at h;subst h;simp[aX]
 |x::xs,vs,h=>by
  simp only[FI]at h
  split at h
  ·rename_i v jX hv DI
   simp only[aj]at h;subst h
   exact⟨x,xs,rfl,Mn μ x v hv,Sk μ xs jX DI⟩
  ·cases h
end
section
variable {P:Program} {μ:Mu} {w:World} {st:St} {r:T V} {n:Nat} {a:Act}
theorem cF(hh:bo P μ w st)(hr:RR μ r n a.tmps){x:Operand}{s:Src}(hc:bu P x=some s){v:V}(hv:s.ev r=some v):VR μ v (a.eval x):=by
 cases x with
 |tmp t=>
  simp only[bu,aj]at hc;subst hc
  obtain⟨y,h1,h2⟩:=hr.2 t v hv
  simpa[Act.eval,CS,h1]using h2
 |const c=>
  simp only[bu]at hc
  split at hc
  ·rename_i v' DD
   simp only[aj]at hc;subst hc
   simp only[Src.ev,aj]at hv;subst hv
   exact Mn μ c v' DD
  ·cases hc
 |global g=>
  simp only[bu]at hc
  split at hc
  ·rename_i hg
   simp only[aj]at hc;subst hc
   simp only[Src.ev,aj]at hv;subst hv
   obtain⟨t,ht⟩:=hh.fF g hg
   exact⟨_,ht,rfl⟩
  ·cases hc
 |func f=>
  simp only[bu,aj]at hc;subst hc
  simp only[Src.ev,aj]at hv;subst hv
  exact⟨[],[],rfl,by simp[aX],by simp[aX]⟩
theorem DO(hh:bo P μ w st)(hr:RR μ r n a.tmps):∀{xs:List Operand} {ss:List Src},rN P xs=some ss->∀{vs:List V},rj r ss=some vs->aX μ vs (xs.map a.eval)
 |[],ss,hc,vs,hv=>by
  simp only[rN,aj]at hc;subst hc
  simp only[rj,aj]at hv;subst hv
  simp[aX]
 |x::xs,ss,hc,vs,hv=>by
  simp only[rN]at hc
  split at hc
  ·rename_i s ss' h1 h2
   simp only[aj]at hc;subst hc
   simp only[rj]at hv
   split at hv
   ·rename_i v jX h3 h4
    simp only[aj]at hv;subst hv
    exact⟨_,_,rfl,cF hh hr h1 h3,DO hh hr h2 h4⟩
   ·cases hv
  ·cases hc
theorem XE(hh:bo P μ w st)(hr:RR μ r n a.tmps){x:Option Operand}{s:Option Src}(hc:pY P x=some s){v:Option V}(hv:ay r s=some v):
  (v=none/\x=none)\/∃v' x',v=some v'/\x=some x'/\VR μ v' (a.eval x'):=by
 cases x with
 |none=>
  simp only[pY,aj]at hc;subst hc
  simp only[ay,aj]at hv;subst hv
  exact .inl ⟨rfl,rfl⟩
 |some x=>
  simp only[pY]at hc
  split at hc
  ·rename_i s' h1
   simp only[aj]at hc;subst hc
   simp only[ay]at hv
   split at hv
   ·rename_i v' h2
    simp only[aj]at hv;subst hv
    exact .inr ⟨v',x,rfl,rfl,cF hh hr h1 h2⟩
   ·cases hv
  ·cases hc
def bg(P:Program)(μ:Mu)(w:World)(st:St)(s:Sem Next)(v:V)(av:St):Prop:=
 ∃nx x w' μ' ws,s.run P w=.ok nx w'/\(nx=.value x\/(nx=.skip/\x=undef))/\VR μ' v x/\bB P μ w st μ' w' av ws
theorem bg.value(hh:bo P μ w st){s:Sem Value}{v:V}{x:Value}(hs:s.run P w=.ok x w)(hv:VR μ v x):
  bg P μ w st (do pure (.value (<-s))) v st:=
 ⟨.value x,x,w,μ,[],by simp[hs,Result.andThen],.inl rfl,hv,bB.refl hh⟩
theorem bg.IA(hh:bo P μ w st){v:V}{x:Value}(hv:VR μ v x):bg P μ w st (pure (.value x)) v st:=
 ⟨.value x,x,w,μ,[],by simp,.inl rfl,hv,bB.refl hh⟩
theorem RO{t:TypeId}(h:uO P t=some none):(isAgg t).run P w=.ok false w:=by
 unfold uO at h
 split at h
 ·split at h<;>simp at h
 ·split at h<;>simp at h
 ·rename_i d h1 h2 hd
  cases d<;>simp[isAgg,run_underlying hd]<;>simp_all
 ·cases h
theorem Gq{t:TypeId}{k:Nat}(h:uO P t=some (some k)):(isAgg t).run P w=.ok true w/\(sizeOf t).run P w=.ok k w:=by
 unfold uO eg at h
 split at h
 ·rename_i fs hd
  split at h
  ·rename_i n hn
   simp only[aj]at h;subst h
   simp only[iF]at hn
   obtain⟨i,hi,rfl⟩:=hn
   exact⟨by simp[isAgg,run_underlying hd],by simp[sizeOf,typeInfo,hi]⟩
  ·cases h
 ·rename_i k' e hd
  split at h
  ·rename_i n hn
   simp only[aj]at h;subst h
   simp only[iF]at hn
   obtain⟨i,hi,rfl⟩:=hn
   exact⟨by simp[isAgg,run_underlying hd],by simp[sizeOf,typeInfo,hi]⟩
  ·cases h
 ·cases h
 ·cases h
theorem vi{t:TypeId}{k:Nat}(h:eg P t=some k):(sizeOf t).run P w=.ok k w:=by
 unfold eg at h
 simp only[iF]at h
 obtain⟨i,hi,rfl⟩:=h
 simp[sizeOf,typeInfo,hi]
theorem XD{t:TypeId}{v:V}(h:mK P t=some v):∃x,(zeroValue t).run P w=.ok x w/\∀μ,VR μ v x:=by
 unfold mK at h
 split at h
 ·rename_i i hi
  split at h
  ·rename_i x hx
   exact⟨x,by simp[zeroValue,typeInfo,hi,hx],fun μ=>Mn μ x v h⟩
  ·cases h
 ·cases h
theorem uj(b o j:Nat):(⟨b,o,none⟩:Addr).add j=⟨b,o+j,none⟩:=by
 unfold Addr.add;split<;>simp_all
theorem OM.cell{c:List V}{e:TypeId}{rw:Bool}{l:L}(h:OM P μ w (.cells c e rw) l){j:Nat}{v:V}(hv:c[j]?=some v):
  ∃x,w.cell? ⟨l.b,l.d+j,none⟩=some x/\VR μ v x:=by
 obtain⟨c',lo,hi,h1,_,_,h4,_⟩:=h
 obtain⟨x,hx,hr⟩:=h4 j v hv
 exact⟨x,by simp[World.cell?,h1,hx],hr⟩
theorem OM.xc{c:List V}{e:TypeId}{rw:Bool}{l:L}(h:OM P μ w (.cells c e rw) l){o k:Nat}{vs:List V}(hs:aJ c o k=some vs):
  ∃xs:List Value,aX μ vs xs/\xs.length=k/\(loadCells ⟨l.b,l.d+o,none⟩ k).run P w=.ok xs.toArray w/\(∀(j:Nat) (x:Value),xs[j]?=some x->w.cell? ⟨l.b,l.d+o+j,none⟩=some x)/\(∀x∈xs,x.oneCell'=true):=by
 unfold aJ at hs
 split at hs
 ·rename_i hle
  simp only[aj]at hs;subst hs
  obtain⟨c',lo,hi,h1,h2,h3,h4,h5,_⟩:=h
  have hlen:l.d+o+k<=c'.size:=by omega
  have hl:((c'.toList.drop (l.d+o)).take k).length=k:=by simp;omega
  have hg:∀(j:Nat) (x:Value),((c'.toList.drop (l.d+o)).take k)[j]?=some x->c'[l.d+o+j]?=some x:=fun j x hx=>by
   rw[gV]at hx
   split at hx
   ·simpa[fG]using hx
   ·cases hx
  have fB:∀(j:Nat) (x:Value),((c'.toList.drop (l.d+o)).take k)[j]?=some x->w.cell? ⟨l.b,l.d+o+j,none⟩=some x:=fun j x hx=>by
   simp[World.cell?,h1,hg j x hx]
  refine⟨(c'.toList.drop (l.d+o)).take k,?_,hl,?_,fB,fun x hx=>?_⟩
  ·refine aX.l7 (by rw[hl];simp;omega) fun j v hv=>?_
   rw[gV]at hv
   split at hv
   ·rename_i hj
    rw[fG]at hv
    obtain⟨x,hx,hr⟩:=h4 (o+j) v hv
    refine⟨x,?_,hr⟩
    rw[gV,aF hj,fG]
    simpa[nD]using hx
   ·cases hv
  ·have:=run_loadCells_list (P:=P) w ⟨l.b,l.d+o,none⟩ ((c'.toList.drop (l.d+o)).take k) (fun j x hx=>by rw[uj];exact fB j x hx)
   rwa [hl]at this
  ·obtain⟨j,hj⟩:=zC hx
   have rl:j<k:=by rw[<-hl];exact(yB.1 hj).1
   exact h5 (o+j) x (by omega) (by rw[<-nD];exact hg j x hj)
 ·cases hs
theorem Mo{t:TypeId}{vs:List V}{xs:List Value}(nJ:aX μ vs xs){k:Option Nat}(ha:uO P t=some k){o:Nat}{v:V}(hv:aU vs o k=some v):
  ∃x,(part t ⟨xs⟩ o).run P w=.ok x w/\VR μ v x:=by
 cases k with
 |none=>
  simp only[aU]at hv
  obtain⟨x,hx,hr⟩:=nJ.get hv
  exact⟨x,by simp[part,RO ha,Result.andThen,hx],hr⟩
 |some k=>
  simp only[aU]at hv
  split at hv
  ·rename_i l hl
   simp only[aj]at hv;subst hv
   unfold aJ at hl
   split at hl
   ·simp only[aj]at hl;subst hl
    refine⟨.agg ⟨(xs.drop o).take k⟩,?_,⟨_,rfl,(nJ.drop o).take k⟩⟩
    simp[part,(Gq ha).1,(Gq ha).2,Result.andThen]
   ·cases hl
  ·cases hv
end
section
variable {P:Program} {μ:Mu} {w:World} {st av:St} {r:T V} {n:Nat} {a:Act} {call:cm} {v:V}
theorem IB{i:Nat}{c:List V}{e:TypeId}{rw:Bool}(h:st.row i=some (c,e,rw)):st.h.get i=some (.cells c e rw):=by
 unfold St.row at h
 split at h
 ·rename_i hg
  simp only[aj,bq]at h
  obtain⟨rfl,rfl,rfl⟩:=h
  exact hg
 ·cases h
theorem bo.row(hh:bo P μ w st){i:Nat}{l:L}(hl:μ i=some l){c:List V}{e:TypeId}{rw:Bool}(h:st.row i=some (c,e,rw)):OM P μ w (.cells c e rw) l:=by
 obtain⟨o,h1,h2⟩:=hh.obj i l hl
 rw[IB h,aj]at h1
 subst h1;exact h2
theorem bo.get(hh:bo P μ w st){i:Nat}{l:L}(hl:μ i=some l){o:O}(h:st.h.get i=some o):OM P μ w o l:=by
 obtain⟨o',h1,h2⟩:=hh.obj i l hl
 rw[h,aj]at h1
 subst h1;exact h2
theorem XX(hh:bo P μ w st)(hr:RR μ r n a.tmps){x:Operand}{s:Src}(hx:bu P x=some s)(h:C5 s call r st=some (v,av)):
  bg P μ w st (pure (.value (a.eval x))) v av:=by
 unfold C5 at h
 split at h
 ·rename_i u hu
  simp only[aj,bq]at h
  obtain⟨rfl,rfl⟩:=h
  exact bg.IA hh (cF hh hr hx hu)
 ·cases h
theorem Yj9(hh:bo P μ w st)(hr:RR μ r n a.tmps){x y z:Operand}{s t u:Src}(hx:bu P x=some s)(hy:bu P y=some t)(hz:bu P z=some u)
  (h:Bs s t u call r st=some (v,av)):
  bg P μ w st (do pure (.value (if <-asBool (a.eval x) then a.eval y else a.eval z))) v av:=by
 unfold Bs at h
 split at h
 ·rename_i hs
  have h1:=cF hh hr hx hs
  simp only[VR]at h1
  split at h
  ·rename_i v1 ht
   simp only[aj,bq]at h
   obtain⟨rfl,rfl⟩:=h
   exact⟨_,a.eval y,w,μ,[],by simp[h1,asBool],.inl rfl,cF hh hr hy ht,bB.refl hh⟩
  ·cases h
 ·rename_i hs
  have h1:=cF hh hr hx hs
  simp only[VR]at h1
  split at h
  ·rename_i v1 ht
   simp only[aj,bq]at h
   obtain⟨rfl,rfl⟩:=h
   exact⟨_,a.eval z,w,μ,[],by simp[h1,asBool],.inl rfl,cF hh hr hz ht,bB.refl hh⟩
  ·cases h
 ·cases h
theorem Yk6(hh:bo P μ w st)(hr:RR μ r n a.tmps){t:TypeId}{k:Option Nat}{x:Operand}{s:Src}(ha:uO P t=some k)(hx:bu P x=some s)
  (h:C8 k s call r st=some (v,av)):bg P μ w st (do pure (.value (<-Instr.loadAt t (a.eval x)))) v av:=by
 unfold C8 at h
 split at h
 ·rename_i i o hs
  obtain⟨l,hl,he⟩:=cF hh hr hx hs
  split at h
  ·rename_i c e rw ar
   have vY:=hh.row hl ar
   split at h
   ·rename_i u hu
    simp only[aj,bq]at h
    obtain⟨rfl,rfl⟩:=h
    cases k with
    |none=>
     simp only[aU]at hu
     obtain⟨y,hy,hv⟩:=vY.cell hu
     exact bg.value hh (by simp[Instr.loadAt,Instr.sureAddr,he,loadVar,RO ha,Result.andThen,hy]) hv
    |some k=>
     simp only[aU]at hu
     split at hu
     ·rename_i vs DI
      simp only[aj]at hu;subst hu
      obtain⟨xs,h1,_,h3,_⟩:=vY.xc DI
      exact bg.value hh (x:=.agg xs.toArray) (by simp[Instr.loadAt,Instr.sureAddr,he,loadVar,(Gq ha).1,(Gq ha).2,Result.andThen,h3]) ⟨xs,rfl,h1⟩
     ·cases hu
   ·cases h
  ·cases h
 ·cases h
theorem Yfo(hh:bo P μ w st)(hr:RR μ r n a.tmps){x:Operand}{s:Src}(hx:bu P x=some s)(h:C9 s call r st=some (v,av)){ty:TypeId}{d:Option Tmp}{pos:String}{af:Array Edge}{g:Option (Nat×Bool)}:
  bg P μ w st (execOp a.eval ⟨d,.nilCheck x,ty,pos,af,g⟩) v av:=by
 unfold C9 at h
 split at h
 ·rename_i i o hs
  simp only[aj,bq]at h
  obtain⟨rfl,rfl⟩:=h
  have h0:=cF hh hr hx hs
  obtain⟨l,hl,he⟩:=h0
  exact⟨_,_,w,μ,[],by simp[execOp,he],.inl rfl,⟨l,hl,rfl⟩,bB.refl hh⟩
 ·rename_i f b c hs
  simp only[aj,bq]at h
  obtain⟨rfl,rfl⟩:=h
  obtain⟨a',c',he,h1,h2⟩:=cF hh hr hx hs
  exact⟨_,_,w,μ,[],by simp[execOp,he],.inl rfl,⟨a',c',rfl,h1,h2⟩,bB.refl hh⟩
 ·cases h
theorem Ygq(hh:bo P μ w st)(hr:RR μ r n a.tmps){t:TypeId}{i:Nat}{x:Operand}{s:Src}{fs:Array Field}{f:Field}{k:Nat}(ht:P.underlying t=some (.struct fs))(hf:fs[i]?=some f)
  (hk:eg P f.type=some (k+1)) (hx:bu P x=some s) (h:Df f.offset s call r st=some (v,av)):
  bg P μ w st (do pure (.value (<-Instr.fieldAt t (a.eval x) i))) v av:=by
 unfold Df at h
 split at h
 ·rename_i j o hs
  simp only[aj,bq]at h
  obtain⟨rfl,rfl⟩:=h
  obtain⟨l,hl,he⟩:=cF hh hr hx hs
  refine bg.value hh (x:=.pointer (some ⟨l.b,l.d+(o+f.offset),none⟩)) ?_ ⟨l,hl,rfl⟩
  simp[Instr.fieldAt,run_underlying ht,hf,Instr.sureAddr,he,fieldPlace,vi hk,Result.andThen,uj,nD]
 ·cases h
theorem Ygo(hh:bo P μ w st)(hr:RR μ r n a.tmps){t:TypeId}{i:Nat}{x:Operand}{s:Src}{fs:Array Field}{f:Field}{k:Option Nat}(ht:P.underlying t=some (.struct fs))(hf:fs[i]?=some f)
  (hk:uO P f.type=some k) (hx:bu P x=some s) (h:Dh f.offset k s call r st=some (v,av)):
  bg P μ w st (do pure (.value (<-Instr.field t (a.eval x) i))) v av:=by
 unfold Dh at h
 split at h
 ·rename_i cs hs
  obtain⟨xs,he,nJ⟩:=cF hh hr hx hs
  split at h
  ·rename_i u hu
   simp only[aj,bq]at h
   obtain⟨rfl,rfl⟩:=h
   obtain⟨y,hy,hv⟩:=Mo (P:=P) (w:=w) nJ hk hu
   exact bg.value hh (by simp[Instr.field,run_underlying ht,hf,he,asAgg,hy]) hv
  ·cases h
 ·cases h
theorem Zug(hh:bo P μ w st)(hr:RR μ r n a.tmps){t e:TypeId}{k z:Nat}{x i:Operand}{s q:Src}(ht:P.underlying t=some (.array k e))(hz:eg P e=some z)
  (hx:bu P x=some s) (hi:bu P i=some q) (h:zO k z s q call r st=some (v,av)):
  bg P μ w st (do pure (.value (<-Instr.indexAt t (a.eval x) (a.eval i)))) v av:=by
 unfold zO at h
 split at h
 ·rename_i b o kd j hs hq
  split at h
  ·rename_i hj
   simp only[aj,bq]at h
   obtain⟨rfl,rfl⟩:=h
   obtain⟨l,hl,he⟩:=cF hh hr hx hs
   have g_:=cF hh hr hi hq
   simp only[VR]at g_
   refine bg.value hh (x:=.pointer (some ⟨l.b,l.d+(o+j.toNat*z),none⟩)) ?_ ⟨l,hl,rfl⟩
   have ma:j<(k:Int):=hj.2
   simp[Instr.indexAt,asIntOf,g_,run_underlying ht,Instr.sureAddr,he,hj.1,ma,vi hz,Result.andThen,uj,nD]
  ·cases h
 ·cases h
theorem Zys(hh:bo P μ w st)(hr:RR μ r n a.tmps){t e:TypeId}{z:Nat}{x i:Operand}{s q:Src}(ht:P.underlying t=some (.slice e))(hz:eg P e=some z)
  (hx:bu P x=some s) (hi:bu P i=some q) (h:Bw z s q call r st=some (v,av)):
  bg P μ w st (do pure (.value (<-Instr.indexAt t (a.eval x) (a.eval i)))) v av:=by
 unfold Bw at h
 split at h
 ·rename_i b o len cp sz kd j hs hq
  split at h
  ·rename_i hj
   simp only[aj,bq]at h
   obtain⟨rfl,rfl⟩:=h
   obtain⟨l,c,hl,he,_⟩:=cF hh hr hx hs
   have g_:=cF hh hr hi hq
   simp only[VR]at g_
   refine bg.value hh (x:=.pointer (some ⟨l.b,l.d+(o+j.toNat*z),none⟩)) ?_ ⟨l,hl,rfl⟩
   have ma:j<(len:Int):=hj.2
   simp[Instr.indexAt,asIntOf,g_,run_underlying ht,he,hj.1,ma,vi hz,Result.andThen,uj,nD]
  ·cases h
 ·cases h
theorem Ycl(hh:bo P μ w st)(hr:RR μ r n a.tmps){t e:TypeId}{k z:Nat}{m:Option Nat}{x i:Operand}{s q:Src}(ht:P.underlying t=some (.array k e))(hz:eg P e=some z)(hm:uO P e=some m)
  (hx:bu P x=some s) (hi:bu P i=some q) (h:F6 k z m s q call r st=some (v,av)):
  bg P μ w st (do pure (.value (<-Instr.index t (a.eval x) (a.eval i)))) v av:=by
 unfold F6 at h
 split at h
 ·rename_i cs kd j hs hq
  split at h
  ·rename_i hj
   split at h
   ·rename_i u hu
    simp only[aj,bq]at h
    obtain⟨rfl,rfl⟩:=h
    obtain⟨xs,he,nJ⟩:=cF hh hr hx hs
    have g_:=cF hh hr hi hq
    simp only[VR]at g_
    obtain⟨y,hy,hv⟩:=Mo (P:=P) (w:=w) nJ hm hu
    have ma:j<(k:Int):=hj.2
    exact bg.value hh (by simp[Instr.index,asIntOf,g_,run_underlying ht,he,hj.1,ma,vi hz,Result.andThen,hy]) hv
   ·cases h
  ·cases h
 ·cases h
theorem Ycj(hh:bo P μ w st)(hr:RR μ r n a.tmps){t:TypeId}{x i:Operand}{s q:Src}(ht:P.underlying t=some .string)
  (hx:bu P x=some s) (hi:bu P i=some q) (h:Bx s q call r st=some (v,av)):
  bg P μ w st (do pure (.value (<-Instr.index t (a.eval x) (a.eval i)))) v av:=by
 unfold Bx at h
 split at h
 ·rename_i cs kd j hs hq
  split at h
  ·rename_i hj
   split at h
   ·rename_i u hu
    simp only[aj,bq]at h
    obtain⟨rfl,rfl⟩:=h
    have he:=cF hh hr hx hs
    have g_:=cF hh hr hi hq
    simp only[VR]at g_ he
    have hb:(⟨cs.toArray⟩:ByteArray)[j.toNat]?=some u:=by
     obtain⟨aD,cC⟩:=yB.1 hu
     rw[getElem?_pos (⟨cs.toArray⟩:ByteArray) j.toNat (by show j.toNat<cs.toArray.size;simpa using aD)]
     simp only[aj]
     exact cC
    exact bg.value hh (x:=.int .u8 u.toNat) (by simp[Instr.index,asIntOf,g_,run_underlying ht,he,hj,hb]) (by simp[VR])
   ·cases h
  ·cases h
 ·cases h
theorem Zyw(hh:bo P μ w st)(hr:RR μ r n a.tmps){x:Operand}{s:Src}{i:Nat}(hx:bu P x=some s)(h:Dm s i call r st=some (v,av)):
  bg P μ w st (do pure (.value (<-Instr.extract (a.eval x) i))) v av:=by
 unfold Dm at h
 split at h
 ·rename_i vs hs
  split at h
  ·rename_i u hu
   simp only[aj,bq]at h
   obtain⟨rfl,rfl⟩:=h
   obtain⟨xs,he,nJ⟩:=cF hh hr hx hs
   obtain⟨y,hy,hv⟩:=nJ.get hu
   exact bg.value hh (by simp[Instr.extract,he,hy]) hv
  ·cases h
 ·cases h
theorem Zx1(hh:bo P μ w st)(hr:RR μ r n a.tmps){t:TypeId}{x:Operand}{s:Src}{d:TypeDesc}(ht:P.underlying t=some d)(hd:∀m,d≠.interface m)(hx:bu P x=some s)
  (h:F4 t s call r st=some (v,av)):bg P μ w st (do pure (.value (<-Instr.makeInterface t (a.eval x)))) v av:=by
 unfold F4 at h
 split at h
 ·rename_i u hu
  simp only[aj,bq]at h
  obtain⟨rfl,rfl⟩:=h
  refine bg.value hh (x:=.iface t (a.eval x)) ?_ ⟨_,rfl,cF hh hr hx hu⟩
  cases d<;>simp[Instr.makeInterface,run_underlying ht,Result.andThen]at hd ⊢
 ·cases h
theorem Ybr(hh:bo P μ w st)(hr:RR μ r n a.tmps){f:FuncId}{xs ys:Array Operand}{ss ts:List Src}(hx:rN P xs.toList=some ss)(hy:rN P ys.toList=some ts)
  (h:De f ss ts call r st=some (v,av)):bg P μ w st (do pure (.value (<-Instr.makeFunc (.func f) (xs.map a.eval) (ys.map a.eval)))) v av:=by
 unfold De at h
 split at h
 ·rename_i us ws h1 h2
  simp only[aj,bq]at h
  obtain⟨rfl,rfl⟩:=h
  refine bg.value hh (x:=.func (.func f) (xs.map a.eval) (ys.map a.eval)) (by simp[Instr.makeFunc]) ⟨xs.toList.map a.eval,ys.toList.map a.eval,?_,DO hh hr hx h1,DO hh hr hy h2⟩
  congr 1<;>apply wZ<;>simp
 ·cases h
theorem Zy7(hh:bo P μ w st)(hr:RR μ r n a.tmps){src dst:TypeId}{k:IntKind}{x:Operand}{s:Src}(hs:∃q,P.underlying src=some (.int q))(hd:P.underlying dst=some (.int k))(hx:bu P x=some s)
  (h:Dc k s call r st=some (v,av)):bg P μ w st (do pure (.value (<-convert src dst (a.eval x)))) v av:=by
 unfold Dc at h
 split at h
 ·rename_i q m hm
  simp only[aj,bq]at h
  obtain⟨rfl,rfl⟩:=h
  obtain⟨q',hs⟩:=hs
  have he:=cF hh hr hx hm
  simp only[VR]at he
  exact bg.value hh (x:=.int k (k.wrap m)) (by simp[convert,run_underlying hs,run_underlying hd,he,Conv.intToInt]) (by simp[VR,xa])
 ·cases h
theorem Zy6(hh:bo P μ w st)(hr:RR μ r n a.tmps){src dst:TypeId}{x:Operand}{s:Src}(hs:P.underlying src=some .string)(hd:P.underlying dst=some .string)(hx:bu P x=some s)
  (h:F3 s call r st=some (v,av)):bg P μ w st (do pure (.value (<-convert src dst (a.eval x)))) v av:=by
 unfold F3 at h
 split at h
 ·rename_i m hm
  simp only[aj,bq]at h
  obtain⟨rfl,rfl⟩:=h
  have he:=cF hh hr hx hm
  simp only[VR]at he
  exact bg.value hh (x:=.string ⟨m.toArray⟩) (by simp[convert,run_underlying hs,run_underlying hd,he]) (by simp[VR])
 ·cases h
end
set_option maxHeartbeats 2000000
section
variable {P:Program} {μ:Mu} {w:World} {st av:St} {r:T V} {n:Nat} {a:Act} {call:cm} {v:V}
theorem Zyg{op:BinOp}{k:IntKind}{x y:Int}{t:TypeId}(h:oJ op k x y=some v):
  ∃z,(binOp op t (.int k x) (.int k y)).run P w=.ok z w/\VR μ v z:=by
 cases op<;>simp only[oJ,aj,reduceCtorEq]at h
 case add=>subst h;exact⟨_,by simp[binOp,Op.intArith];rfl,by simp[VR,xa]⟩
 case sub=>subst h;exact⟨_,by simp[binOp,Op.intArith];rfl,by simp[VR,xa]⟩
 case mul=>subst h;exact⟨_,by simp[binOp,Op.intArith];rfl,by simp[VR,xa]⟩
 case quo=>
  split at h
  ·cases h
  ·rename_i h0;simp only[aj]at h;subst h;exact⟨_,by simp[binOp,Op.intDiv,h0];rfl,by simp[VR,xa]⟩
 case rem=>
  split at h
  ·cases h
  ·rename_i h0;simp only[aj]at h;subst h;exact⟨_,by simp[binOp,Op.intDiv,h0];rfl,by simp[VR]⟩
 case and=>subst h;exact⟨_,by simp[binOp,Op.intBits];rfl,by simp[VR]⟩
 case or=>subst h;exact⟨_,by simp[binOp,Op.intBits];rfl,by simp[VR]⟩
 case xor=>subst h;exact⟨_,by simp[binOp,Op.intBits];rfl,by simp[VR]⟩
 case andNot=>subst h;exact⟨_,by simp[binOp,Op.intBits];rfl,by simp[VR]⟩
 case eql=>subst h;exact⟨_,by simp[binOp,Op.intCmp];rfl,by simp[VR]⟩
 case neq=>subst h;exact⟨_,by simp[binOp,Op.intCmp];rfl,by simp[VR]⟩
 case lss=>subst h;exact⟨_,by simp[binOp,Op.intCmp];rfl,by simp[VR]⟩
 case leq=>subst h;exact⟨_,by simp[binOp,Op.intCmp];rfl,by simp[VR]⟩
 case gtr=>subst h;exact⟨_,by simp[binOp,Op.intCmp];rfl,by simp[VR]⟩
 case geq=>subst h;exact⟨_,by simp[binOp,Op.intCmp];rfl,by simp[VR]⟩
theorem XY{op:BinOp}{k k':IntKind}{x y:Int}{t:TypeId}(hs:op=.shl\/op=.shr)(h:vR op k x y=some v):
  ∃z,(binOp op t (.int k x) (.int k' y)).run P w=.ok z w/\VR μ v z:=by
 unfold vR at h
 split at h
 ·cases h
 ·rename_i h0
  rcases hs with rfl|rfl<;>simp only[aj]at h<;>subst h
  ·exact⟨_,by simp[binOp,Op.shift,h0];rfl,by simp[VR]⟩
  ·exact⟨_,by simp[binOp,Op.shift,h0];rfl,by simp[VR]⟩
theorem Mp(l:List UInt8):(⟨l.toArray⟩:ByteArray).toList=l:=by
 rw[ByteArray.toList_eq]
theorem Zw5{op:BinOp}{x y:List UInt8}{t:TypeId}(h:gj op x y=some v):
  ∃z,(binOp op t (.string ⟨x.toArray⟩) (.string ⟨y.toArray⟩)).run P w=.ok z w/\VR μ v z:=by
 have e1:=Mp x
 have e2:=Mp y
 cases op<;>simp only[gj,aj,reduceCtorEq]at h
 case add=>
  split at h
  ·cases h
  ·rename_i hle
   simp only[aj]at h;subst h
   refine⟨.string ⟨(x++y).toArray⟩,?_,by simp[VR]⟩
   have fz:((⟨x.toArray⟩:ByteArray).size+(⟨y.toArray⟩:ByteArray).size)=x.length+y.length:=by
    show x.toArray.size+y.toArray.size=_
    simp
   have yZ:(⟨x.toArray⟩:ByteArray)++(⟨y.toArray⟩:ByteArray)=⟨(x++y).toArray⟩:=by
    apply ByteArray.ext
    simp[ByteArray.data_append]
   simp only[binOp,Op.stringOp,fz,au hle,yZ]
   simp
 case eql=>subst h;exact⟨_,by simp[binOp,Op.stringOp,e1,e2];rfl,by simp[VR]⟩
 case neq=>subst h;exact⟨_,by simp[binOp,Op.stringOp,e1,e2];rfl,by simp[VR]⟩
 case lss=>subst h;exact⟨_,by simp[binOp,Op.stringOp,e1,e2];rfl,by simp[VR]⟩
 case leq=>subst h;exact⟨_,by simp[binOp,Op.stringOp,e1,e2];rfl,by simp[VR]⟩
 case gtr=>subst h;exact⟨_,by simp[binOp,Op.stringOp,e1,e2];rfl,by simp[VR]⟩
 case geq=>subst h;exact⟨_,by simp[binOp,Op.stringOp,e1,e2];rfl,by simp[VR]⟩
theorem Yps(hh:bo P μ w st)(hr:RR μ r n a.tmps){op:UnOp}{x:Operand}{s:Src}(hx:bu P x=some s)(h:Db op s call r st=some (v,av)):
  bg P μ w st (do pure (.value (<-Op.unary op (a.eval x)))) v av:=by
 unfold Db at h
 split at h
 ·rename_i u hu
  split at h
  ·rename_i z hz
   simp only[aj,bq]at h
   obtain⟨rfl,rfl⟩:=h
   have he:=cF hh hr hx hu
   unfold Q7 at hz
   split at hz
   ·simp only[VR]at he
    simp only[aj]at hz;subst hz
    exact bg.value hh (x:=_) (by simp[Op.unary,he,Op.intArith];rfl) (by simp[VR])
   ·simp only[VR]at he
    simp only[aj]at hz;subst hz
    exact bg.value hh (x:=_) (by simp[Op.unary,he,Op.intBits];rfl) (by simp[VR])
   ·simp only[VR]at he
    simp only[aj]at hz;subst hz
    exact bg.value hh (x:=_) (by simp[Op.unary,he];rfl) (by simp[VR])
   ·cases hz
  ·cases h
 ·cases h
theorem Zy0{ng:Bool}{k:PK}{t:TypeId}{d:TypeDesc}{D:Nat}(ht:P.underlying t=some d)(Mq:QZ P d=true)(hk:LA d=some k)
  {x y:V} {b:Bool} (h:dJ ng k x y=some b) {X Y:Value} (hX:VR μ x X) (hY:VR μ y Y):(Op.equalIn (D+1) t X Y).run P w=.ok b w:=by
 unfold dJ at h
 split at h
 case h_25=>cases h
 all_goals (cases d<;>simp only[LA,reduceCtorEq,aj]at hk)
 all_goals simp only[VR]at hX hY
 case h_7.pointer e=>
  split at h
  ·rename_i he
   obtain⟨rfl,rfl⟩:=he
   obtain⟨l,hl,rfl⟩:=hX
   obtain⟨l',uk,rfl⟩:=hY
   rw[hl]at uk
   simp only[aj]at uk h
   subst uk h
   simp only[QZ]at Mq
   obtain⟨j,hj⟩:=Option.isSome_iff_exists.1 Mq
   simp[Op.equalIn,run_underlying ht,sizeOf,typeInfo,hj,run_sameAddr_same]
  ·cases h
 case h_2.int=>
  split at h
  ·rename_i e;subst e;subst hX hY;simp only[aj]at h;subst h;simp[Op.equalIn,run_underlying ht]
  ·cases h
 case h_3.string=>
  subst hX hY;simp only[aj]at h;subst h
  rw[run_equalIn_string w D t _ _ ht,Mp,Mp]
 case h_22.interface=>
  split at h
  ·subst hX hY;simp only[aj]at h;subst h;simp[Op.equalIn,run_underlying ht]
  ·cases h
 all_goals (simp only[aj]at h;subst h)
 all_goals first
  |(subst hX;subst hY;simp[Op.equalIn,run_underlying ht];done)
  |(subst hX;obtain⟨_,_,rfl⟩:=hY;simp[Op.equalIn,run_underlying ht];done)
  |(subst hY;obtain⟨_,_,rfl⟩:=hX;simp[Op.equalIn,run_underlying ht];done)
  |(subst hX;obtain⟨_,_,_,rfl,_⟩:=hY;simp[Op.equalIn,run_underlying ht];done)
  |(subst hY;obtain⟨_,_,_,rfl,_⟩:=hX;simp[Op.equalIn,run_underlying ht];done)
  |(subst hX;obtain⟨_,_,rfl,_⟩:=hY;simp[Op.equalIn,run_underlying ht];done)
  |(subst hY;obtain⟨_,_,rfl,_⟩:=hX;simp[Op.equalIn,run_underlying ht];done)
  |(subst hX;obtain⟨_,rfl,_⟩:=hY;simp[Op.equalIn,run_underlying ht];done)
  |(subst hY;obtain⟨_,rfl,_⟩:=hX;simp[Op.equalIn,run_underlying ht];done)
theorem Zum{d:Nat}(ih:∀{ng:Bool} {t:TypeId} {q:pZ},tI P d t=some q->∀{x y:V} {b:Bool},tR ng q x y=some b->∀{X Y:Value},VR μ x X->VR μ y Y->∀D,d<=D->(Op.equalIn D t X Y).run P w=.ok b w)
  {xs ys:List V} {XS YS:List Value} (hX:aX μ xs XS) (hY:aX μ ys YS) (D:Nat) (hD:d<=D):
  ∀{fs:List Field} {l:List (Nat×Option Nat×pZ)},FJ P (tI P d) fs=some l->∀{b:Bool},HP l xs ys=some b->(Op.eqFields D ⟨XS⟩ ⟨YS⟩ fs).run P w=.ok b w:=by
 intro fs
 induction fs with
 |nil=>
  intro l hl b h
  simp only[FJ,aj]at hl;subst hl
  simp only[HP,aj]at h;subst h
  simp[Op.eqFields]
 |cons f fs ihf=>
  intro l hl b h
  simp only[FJ]at hl
  split at hl
  ·rename_i hn
   simp only[Op.eqFields,hn,ne_eq,not_true_eq_false,if_false]
   exact ihf hl h
  ·rename_i hn
   split at hl
   ·rename_i k q l' hk hq uk
    simp only[aj]at hl;subst hl
    simp only[HP]at h
    split at h
    ·rename_i x y hx hy
     obtain⟨X,h1,h2⟩:=Mo (P:=P) (w:=w) hX hk hx
     obtain⟨Y,h3,h4⟩:=Mo (P:=P) (w:=w) hY hk hy
     split at h
     ·rename_i he
      have e:=ih hq he h2 h4 D hD
      simp only[Op.eqFields,ne_eq,hn,not_false_eq_true,if_true,Sem.run_bind,h1,h3,e,Result.andThen,Bool.not_true,fx,if_false]
      exact ihf uk h
     ·rename_i he
      simp only[aj]at h;subst h
      have e:=ih hq he h2 h4 D hD
      simp[Op.eqFields,hn,h1,h3,e,Result.andThen]
     ·cases h
    ·cases h
   ·cases hl
theorem Ylu:∀(d:Nat) {ng:Bool} {t:TypeId} {q:pZ},tI P d t=some q->∀{x y:V} {b:Bool},tR ng q x y=some b->∀{X Y:Value},VR μ x X->VR μ y Y->∀D,d<=D->(Op.equalIn D t X Y).run P w=.ok b w:=by
 intro d
 induction d with
 |zero=>intro ng t q hq;simp[tI]at hq
 |succ d ih=>
  intro ng t q hq x y b h X Y hX hY D hD
  obtain⟨D,rfl⟩:∃D',D=D'+1:=⟨D-1,by omega⟩
  simp only[tI]at hq
  split at hq
  ·rename_i fs ht
   split at hq
   ·cases hq
   ·rename_i eP
    split at hq
    ·rename_i l hl
     simp only[aj]at hq;subst hq
     cases x<;>cases y<;>simp only[tR,reduceCtorEq]at h
     obtain⟨xs,rfl,nJ⟩:=hX
     obtain⟨ys,rfl,Sm⟩:=hY
     have hf:P.fieldsOf t=fs:=by simp[Program.fieldsOf,ht]
     rw[run_equalIn_struct w D t _ _ (by rw[hf];exact ht) (by simpa using eP),hf]
     exact Zum ih nJ Sm D (by omega) hl h
    ·cases hq
  ·rename_i dd XZ ht
   split at hq
   ·rename_i k hk
    split at hq
    ·rename_i Mq
     simp only[aj]at hq;subst hq
     simp only[tR]at h
     exact Zy0 ht Mq hk h hX hY
    ·cases hq
   ·cases hq
  ·cases hq
theorem Mr{op:BinOp}{t:TypeId}{x y:Operand}{X Y:Value}(h1:X=.nilIface->Y=.nilIface->CN x=true\/CN y=true)
  (h2:∀a b,X=.agg a->Y=.agg b->P.eqGuardType P.depth t=false):(eqGuard op t x y X Y).run P w=.ok () w:=by
 by_cases hn:X=.nilIface/\Y=.nilIface
 ·obtain⟨rfl,rfl⟩:=hn
  have h:=h1 rfl rfl
  cases op<;>cases x<;>cases y<;>simp_all [eqGuard,CN]
 ·by_cases ha:(∃a,X=.agg a)/\∃b,Y=.agg b
  ·obtain⟨⟨a,rfl⟩,b,rfl⟩:=ha
   have h:=h2 a b rfl rfl
   cases op<;>simp[eqGuard,run_program,h]
  ·cases op<;>simp[eqGuard]<;>split<;>simp_all
end
set_option maxHeartbeats 1000000
section
variable {P:Program} {μ:Mu} {w:World} {st av:St} {r:T V} {n:Nat} {a:Act} {call:cm} {v:V}
theorem VR.uo{x:V}{k:IntKind}{m:Int}(h:VR μ x (.int k m)):x=.int k m:=by
 cases x<;>simp only[VR]at h<;>first
  |(cases h;rfl)
  |(cases h;done)
  |(obtain⟨_,_,h⟩:=h;cases h;done)
  |(obtain⟨_,_,_,h,_⟩:=h;cases h;done)
  |(obtain⟨_,_,h,_⟩:=h;cases h;done)
  |(obtain⟨_,h,_⟩:=h;cases h;done)
theorem VR.nO{x:V}{k:FloatKind}{m:Nat}(h:VR μ x (.float k m)):x=.rM k m:=by
 cases x<;>simp only[VR]at h<;>first
  |(cases h;rfl)
  |(cases h;done)
  |(obtain⟨_,_,h⟩:=h;cases h;done)
  |(obtain⟨_,_,_,h,_⟩:=h;cases h;done)
  |(obtain⟨_,_,h,_⟩:=h;cases h;done)
  |(obtain⟨_,h,_⟩:=h;cases h;done)
theorem VR.qK{x:V}{k:FloatKind}{m m':Nat}(h:VR μ x (.complex k m m')):False:=by
 cases x<;>simp only[VR]at h<;>first
  |(cases h;done)
  |(obtain⟨_,_,h⟩:=h;cases h;done)
  |(obtain⟨_,_,_,h,_⟩:=h;cases h;done)
  |(obtain⟨_,_,h,_⟩:=h;cases h;done)
  |(obtain⟨_,h,_⟩:=h;cases h;done)
theorem VR.ml{x:V}{s:ByteArray}(h:VR μ x (.string s)):∃l,x=.str l:=by
 cases x<;>simp only[VR]at h<;>first
  |exact⟨_,rfl⟩
  |(cases h;done)
  |(obtain⟨_,_,h⟩:=h;cases h;done)
  |(obtain⟨_,_,_,h,_⟩:=h;cases h;done)
  |(obtain⟨_,_,h,_⟩:=h;cases h;done)
  |(obtain⟨_,h,_⟩:=h;cases h;done)
theorem VR.iM{x:V}(h:VR μ x .nilIface):x=.aP:=by
 cases x<;>simp only[VR]at h<;>first
  |rfl
  |(cases h;done)
  |(obtain⟨_,_,h⟩:=h;cases h;done)
  |(obtain⟨_,_,_,h,_⟩:=h;cases h;done)
  |(obtain⟨_,_,h,_⟩:=h;cases h;done)
  |(obtain⟨_,h,_⟩:=h;cases h;done)
theorem VR.uv{x:V}{s:Array Value}(h:VR μ x (.agg s)):∃l,x=.agg l:=by
 cases x<;>simp only[VR]at h<;>first
  |exact⟨_,rfl⟩
  |(cases h;done)
  |(obtain⟨_,_,h⟩:=h;cases h;done)
  |(obtain⟨_,_,_,h,_⟩:=h;cases h;done)
  |(obtain⟨_,_,h,_⟩:=h;cases h;done)
  |(obtain⟨_,h,_⟩:=h;cases h;done)
theorem X0{t:TypeId}{X Y:Value}{b:Bool}(hi:∀k m k' m',¬(X=.int k m/\Y=.int k' m'))(hs:∀s s',¬(X=.string s/\Y=.string s'))
  (hf:∀k m k' m',¬(X=.float k m/\Y=.float k' m')) (hc:∀k m p k' m' p',¬(X=.complex k m p/\Y=.complex k' m' p')) (h:(Op.equal t X Y).run P w=.ok b w):
  (binOp .eql t X Y).run P w=.ok (.bool b) w/\(binOp .neq t X Y).run P w=.ok (.bool (!b)) w:=by
 constructor
 ·unfold binOp
  split<;>first
   |(exact absurd ⟨rfl,rfl⟩ (hi _ _ _ _))
   |(exact absurd ⟨rfl,rfl⟩ (hs _ _))
   |(exact absurd ⟨rfl,rfl⟩ (hf _ _ _ _))
   |(exact absurd ⟨rfl,rfl⟩ (hc _ _ _ _ _ _))
   |(simp[h];done)
   |simp_all
 ·unfold binOp
  split<;>first
   |(exact absurd ⟨rfl,rfl⟩ (hi _ _ _ _))
   |(exact absurd ⟨rfl,rfl⟩ (hs _ _))
   |(exact absurd ⟨rfl,rfl⟩ (hf _ _ _ _))
   |(exact absurd ⟨rfl,rfl⟩ (hc _ _ _ _ _ _))
   |(simp[h];done)
   |simp_all
def So(P:Program)(op:BinOp)(t:TypeId)(x y:Operand)(q:pZ)(ng:Bool):Prop:=
 (op=.eql\/op=.neq)->tI P 40 t=some q/\(match P.underlying t with|some (.struct _)|some (.array _ _)=>P.eqGuardType P.depth t|_=>false)=false/\ng=(CN x||CN y)
theorem BW{op:BinOp}{t:TypeId}{x y:Operand}{X Y z:Value}(hg:(eqGuard op t x y X Y).run P w=.ok () w)(hb:(binOp op t X Y).run P w=.ok z w):
  (do eqGuard op t x y X Y;binOp op t X Y:Sem Value).run P w=.ok z w:=by simp[hg,hb,Result.andThen]
theorem Ztx{d:Nat}{t:TypeId}{l:List (Nat×Option Nat×pZ)}(h:tI P d t=some (.node l)):∃fs,P.underlying t=some (.struct fs):=by
 cases d with
 |zero=>simp[tI]at h
 |succ d=>
  simp only[tI]at h
  split at h
  ·rename_i fs ht;exact⟨fs,ht⟩
  ·split at h
   ·split at h<;>simp at h
   ·cases h
  ·cases h
theorem Zlg{t:TypeId}{kd:ChanDir}{e:TypeId}{x y:Option Nat}(D:Nat)(ht:P.underlying t=some (.chan kd e)):(Op.equalIn (D+1) t (.chan x) (.chan y)).run P w=.ok (x==y) w:=by
 simp[Op.equalIn,run_underlying ht]
theorem Ydp{d:Nat}{t:TypeId}(hq:tI P d t=some (.aI .chan)):∃k e,P.underlying t=some (.chan k e):=by
 cases d with
 |zero=>simp[tI]at hq
 |succ d=>
  simp only[tI]at hq
  split at hq
  ·split at hq
   ·cases hq
   ·split at hq<;>simp at hq
  ·rename_i dd _ ht
   split at hq
   ·rename_i k hk
    split at hq
    ·simp only[aj,pZ.aI.injEq]at hq;subst hq
     cases dd<;>simp[LA]at hk
     exact⟨_,_,ht⟩
    ·cases hq
   ·cases hq
  ·cases hq
theorem Yhk(hh:bo P μ w st){op:BinOp}{t:TypeId}{x y:Operand}{X Y:Value}{q:pZ}{ng:Bool}(hc:So P op t x y q ng){i j:Nat}(h1:VR μ (.chan i) X)(h2:VR μ (.chan j) Y)
  (h:LL op q st i j=some (v,av)):
  bg P μ w st (do pure (.value (<-(do eqGuard op t x y X Y;binOp op t X Y:Sem Value)))) v av:=by
 obtain⟨l,hl,rfl⟩:=h1
 obtain⟨l',uk,rfl⟩:=h2
 have hg:(eqGuard op t x y (.chan (some l.b)) (.chan (some l'.b))).run P w=.ok () w:=Mr (by intro h;cases h) (by intro _ _ h;cases h)
 have Sp:∀c b c' b',st.h.get i=some (.chan c b)->st.h.get j=some (.chan c' b')->(some l.b==some l'.b)=(i==j):=by
  intro c b c' b' g1 g2
  by_cases e:i=j
  ·subst e;rw[hl]at uk;cases uk;simp
  ·have:=hh.inj i j l l' _ _ hl uk e g1 g2 rfl rfl
   have e2:(i==j)=false:=by simpa using e
   rw[e2];simpa using this
 have main:(op=.eql\/op=.neq)->q=.aI .chan->∀c b c' b',st.h.get i=some (.chan c b)->st.h.get j=some (.chan c' b')->
   (binOp .eql t (.chan (some l.b)) (.chan (some l'.b))).run P w=.ok (.bool (i==j)) w/\(binOp .neq t (.chan (some l.b)) (.chan (some l'.b))).run P w=.ok (.bool (!(i==j))) w:=by
  intro vg hq c b c' b' g1 g2
  subst hq
  obtain⟨kd,e,ht⟩:=Ydp (hc vg).1
  refine X0 (fun _ _ _ _ e=>by cases e.1) (fun _ _ e=>by cases e.1) (fun _ _ _ _ e=>by cases e.1) (fun _ _ _ _ _ _ e=>by cases e.1) ?_
  have:=Zlg (P:=P) (w:=w) (x:=some l.b) (y:=some l'.b) 9999 ht
  rw[Sp _ _ _ _ g1 g2]at this
  exact this
 unfold LL at h
 split at h
 ·rename_i g1 g2
  simp only[aj,bq]at h
  obtain⟨rfl,rfl⟩:=h
  exact bg.value hh (BW hg (main (.inl rfl) rfl _ _ _ _ g1 g2).1) (by simp[VR])
 ·rename_i g1 g2
  simp only[aj,bq]at h
  obtain⟨rfl,rfl⟩:=h
  exact bg.value hh (BW hg (main (.inr rfl) rfl _ _ _ _ g1 g2).2) (by simp[VR])
 ·cases h
theorem Yo3(hh:bo P μ w st)(hr:RR μ r n a.tmps){op:BinOp}{t:TypeId}{x y:Operand}{s u:Src}{q:pZ}{ng:Bool}(hx:bu P x=some s)(hy:bu P y=some u)
  (hc:So P op t x y q ng) (h:Da op q ng s u call r st=some (v,av)):
  bg P μ w st (do pure (.value (<-(do eqGuard op t x y (a.eval x) (a.eval y);binOp op t (a.eval x) (a.eval y):Sem Value)))) v av:=by
 unfold Da at h
 split at h
 ·rename_i i j hs hu
  exact Yhk hh hc (cF hh hr hx hs) (cF hh hr hy hu) h
 ·rename_i x1 y1 _ hs hu
  have h1:=cF hh hr hx hs
  have h2:=cF hh hr hy hu
  generalize a.eval x=X at*
  generalize a.eval y=Y at*
  split at h
  ·rename_i z hz
   simp only[aj,bq]at h
   obtain⟨rfl,rfl⟩:=h
   unfold Q6 at hz
   split at hz
   ·-- two integers
    rename_i k p k' p' _
    simp only[VR]at h1 h2
    subst h1 h2
    have hg:(eqGuard op t x y (.int k p) (.int k' p')).run P w=.ok () w:=Mr (by intro h;cases h) (by intro _ _ h;cases h)
    split at hz
    ·obtain⟨y',h3,h4⟩:=XY (P:=P) (μ:=μ) (w:=w) (t:=t) (k':=k') (.inl rfl) hz
     exact bg.value hh (BW hg h3) h4
    ·obtain⟨y',h3,h4⟩:=XY (P:=P) (μ:=μ) (w:=w) (t:=t) (k':=k') (.inr rfl) hz
     exact bg.value hh (BW hg h3) h4
    ·split at hz
     ·rename_i e;subst e
      obtain⟨y',h3,h4⟩:=Zyg (P:=P) (μ:=μ) (w:=w) (t:=t) hz
      exact bg.value hh (BW hg h3) h4
     ·cases hz
   ·rename_i p p' _
    simp only[VR]at h1 h2
    subst h1 h2
    have hg:(eqGuard op t x y (.string ⟨p.toArray⟩) (.string ⟨p'.toArray⟩)).run P w=.ok () w:=Mr (by intro h;cases h) (by intro _ _ h;cases h)
    obtain⟨y',h3,h4⟩:=Zw5 (P:=P) (μ:=μ) (w:=w) (t:=t) hz
    exact bg.value hh (BW hg h3) h4
   ·rename_i hni XZ
    have main:∀b,tR ng q x1 y1=some b->(op=.eql\/op=.neq)->
      (eqGuard op t x y X Y).run P w=.ok () w/\(binOp .eql t X Y).run P w=.ok (.bool b) w/\(binOp .neq t X Y).run P w=.ok (.bool (!b)) w:=by
     intro b hb vg
     obtain⟨hq,Gy,IC⟩:=hc vg
     have he:=Ylu (w:=w) 40 hq hb h1 h2 10000 (by omega)
     refine⟨Mr (fun e1 e2=>?_) (fun A B e1 e2=>?_),X0 (fun k m k' m' e=>?_) (fun p p' e=>?_) (fun k m k' m' e=>?_) (fun k m m' k' m1 m2 e=>?_) he⟩
     ·subst e1 e2
      have:=h1.iM;subst this
      have:=h2.iM;subst this
      cases q with
      |aI k=>cases k<;>simp[tR,dJ]at hb;rw[IC]at hb;simpa using hb.1
      |node l=>simp[tR]at hb
     ·subst e1 e2
      obtain⟨l1,rfl⟩:=h1.uv
      obtain⟨l2,rfl⟩:=h2.uv
      cases q with
      |aI k=>cases k<;>simp[tR,dJ]at hb
      |node l=>
       obtain⟨fs,Al⟩:=Ztx hq
       simpa[Al]using Gy
     ·obtain⟨rfl,rfl⟩:=e
      exact hni _ _ _ _ h1.uo h2.uo
     ·obtain⟨rfl,rfl⟩:=e
      obtain⟨l1,e1⟩:=h1.ml
      obtain⟨l2,e2⟩:=h2.ml
      exact XZ _ _ e1 e2
     ·obtain⟨rfl,rfl⟩:=e
      have e1:=h1.nO;subst e1
      have e2:=h2.nO;subst e2
      cases q with
      |aI k=>cases k<;>simp[tR,dJ]at hb
      |node l=>simp[tR]at hb
     ·obtain⟨rfl,rfl⟩:=e
      exact h1.qK
    split at hz
    ·split at hz
     ·rename_i b hb
      simp only[aj]at hz;subst hz
      obtain⟨g1,g2,_⟩:=main b hb (.inl rfl)
      exact bg.value hh (BW g1 g2) (by simp[VR])
     ·cases hz
    ·split at hz
     ·rename_i b hb
      simp only[aj]at hz;subst hz
      obtain⟨g1,_,g2⟩:=main b hb (.inr rfl)
      exact bg.value hh (BW g1 g2) (by simp[VR])
     ·cases hz
    ·cases hz
  ·cases h
 ·cases h
end
end Go.Mx
