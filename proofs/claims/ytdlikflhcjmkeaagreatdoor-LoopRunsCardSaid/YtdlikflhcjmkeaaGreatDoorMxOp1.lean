/-The operations of M stand for the Go mod-/
import Derived.Test.YtdlikflhcjmkeaaGreatDoorMxComp
import Derived.LaidEql
set_option linter.all false
namespace Go.Mx
open Go
mutual
def Zvk(μ:Mu):∀(x:Value) (v:V),cV x=some v→VR μ v x
 |.bool b,v,h=>by simp only[cV,Yqc]at h;subst h;simp[VR]
 |.int k n,v,h=>by simp only[cV,Yqc]at h;subst h;simp[VR]
 |.float k n,v,h=>by simp only[cV,Yqc]at h;subst h;simp[VR]
 |.complex ..,v,h=>by simp only[cV,Yqc]at h;subst h;simp[VR]
 |.string s,v,h=>by simp only[cV,Yqc]at h;subst h;simp[VR]
 |.pointer none,v,h=>by simp only[cV,Yqc]at h;subst h;simp[VR]
 |.pointer (some _),v,h=>by simp[cV]at h
 |.slice none 0 0,v,h=>by simp only[cV,Yqc]at h;subst h;simp[VR]
 |.slice none 0 (c+1),v,h=>by simp[cV]at h
 |.slice none (n+1) c,v,h=>by simp[cV]at h
 |.slice (some _) _ _,v,h=>by simp[cV]at h
 |.map none,v,h=>by simp only[cV,Yqc]at h;subst h;simp[VR]
 |.map (some _),v,h=>by simp[cV]at h
 |.chan none,v,h=>by simp only[cV,Yqc]at h;subst h;simp[VR]
 |.chan (some _),v,h=>by simp[cV]at h
 |.func ..,v,h=>by simp[cV]at h
 |.nilFunc,v,h=>by simp only[cV,Yqc]at h;subst h;simp[VR]
 |.iface ..,v,h=>by simp[cV]at h
 |.nilIface,v,h=>by simp only[cV,Yqc]at h;subst h;simp[VR]
 |.agg ⟨l⟩,v,h=>by
  simp only[cV]at h
  split at h
  ·rename_i l' hl
   simp only[Yqc]at h;subst h
   exact⟨l,rfl,Zto μ l l' hl⟩
  ·cases h
 |.tuple ⟨l⟩,v,h=>by
  simp only[cV]at h
  split at h
  ·rename_i l' hl
   simp only[Yqc]at h;subst h
   exact⟨l,rfl,Zto μ l l' hl⟩
  ·cases h
def Zto(μ:Mu):∀(xs:List Value) (vs:List V),cVs xs=some vs→VRs μ vs xs
 |[],vs,h=>by simp only[cVs,Yqc]at h;subst h;simp[VRs]
 |x::xs,vs,h=>by
  simp only[cVs]at h
  split at h
  ·rename_i v vs' hv hvs
   simp only[Yqc]at h;subst h
   exact⟨x,xs,rfl,Zvk μ x v hv,Zto μ xs vs' hvs⟩
  ·cases h
end
section
variable {P:Program} {μ:Mu} {w:World} {st:St} {r:T V} {n:Nat} {a:Act}
def Zap(hh:Za7 P μ w st)(hr:RR μ r n a.tmps){x:Operand}{s:Src}(hc:Zba P x=some s){v:V}(hv:s.ev r=some v):VR μ v (a.eval x):=by
 cases x with
 |tmp t=>
  simp only[Zba,Yqc]at hc;subst hc
  obtain⟨y,h1,h2⟩:=hr.2 t v hv
  simpa[Act.eval,Yr9,h1]using h2
 |const c=>
  simp only[Zba]at hc
  split at hc
  ·rename_i v' hv'
   simp only[Yqc]at hc;subst hc
   simp only[Src.ev,Yqc]at hv;subst hv
   exact Zvk μ c v' hv'
  ·cases hc
 |global g=>
  simp only[Zba]at hc
  split at hc
  ·rename_i hg
   simp only[Yqc]at hc;subst hc
   simp only[Src.ev,Yqc]at hv;subst hv
   obtain⟨t,ht⟩:=hh.glob g hg
   exact⟨_,ht,rfl⟩
  ·cases hc
 |func f=>
  simp only[Zba,Yqc]at hc;subst hc
  simp only[Src.ev,Yqc]at hv;subst hv
  exact⟨[],[],rfl,by simp[VRs],by simp[VRs]⟩
def Zez(hh:Za7 P μ w st)(hr:RR μ r n a.tmps):∀{xs:List Operand} {ss:List Src},Ziw P xs=some ss→∀{vs:List V},Zhw r ss=some vs→VRs μ vs (xs.map a.eval)
 |[],ss,hc,vs,hv=>by
  simp only[Ziw,Yqc]at hc;subst hc
  simp only[Zhw,Yqc]at hv;subst hv
  simp[VRs]
 |x::xs,ss,hc,vs,hv=>by
  simp only[Ziw]at hc
  split at hc
  ·rename_i s ss' h1 h2
   simp only[Yqc]at hc;subst hc
   simp only[Zhw]at hv
   split at hv
   ·rename_i v vs' h3 h4
    simp only[Yqc]at hv;subst hv
    exact⟨_,_,rfl,Zap hh hr h1 h3,Zez hh hr h2 h4⟩
   ·cases hv
  ·cases hc
def Zrc(hh:Za7 P μ w st)(hr:RR μ r n a.tmps){x:Option Operand}{s:Option Src}(hc:Zpt P x=some s){v:Option V}(hv:evOpt r s=some v):
  (v=none∧x=none)∨∃v' x',v=some v'∧x=some x'∧VR μ v' (a.eval x'):=by
 cases x with
 |none=>
  simp only[Zpt,Yqc]at hc;subst hc
  simp only[evOpt,Yqc]at hv;subst hv
  exact .inl ⟨rfl,rfl⟩
 |some x=>
  simp only[Zpt]at hc
  split at hc
  ·rename_i s' h1
   simp only[Yqc]at hc;subst hc
   simp only[evOpt]at hv
   split at hv
   ·rename_i v' h2
    simp only[Yqc]at hv;subst hv
    exact .inr ⟨v',x,rfl,rfl,Zap hh hr h1 h2⟩
   ·cases hv
  ·cases hc
def Za3(P:Program)(μ:Mu)(w:World)(st:St)(s:Sem Next)(v:V)(st':St):Prop:=
 ∃nx x w' μ' ws,s.run P w=.ok nx w'∧(nx=.value x∨(nx=.skip∧x=undef))∧VR μ' v x∧Stp P μ w st μ' w' st' ws
def Za3.value(hh:Za7 P μ w st){s:Sem Value}{v:V}{x:Value}(hs:s.run P w=.ok x w)(hv:VR μ v x):
  Za3 P μ w st (do pure (.value (←s))) v st:=
 ⟨.value x,x,w,μ,[],by simp[hs,Result.andThen],.inl rfl,hv,Stp.refl hh⟩
def Za3.pureV(hh:Za7 P μ w st){v:V}{x:Value}(hv:VR μ v x):Za3 P μ w st (pure (.value x)) v st:=
 ⟨.value x,x,w,μ,[],by simp,.inl rfl,hv,Stp.refl hh⟩
def Zng{t:TypeId}(h:Zye P t=some none):(isAgg t).run P w=.ok false w:=by
 unfold Zye at h
 split at h
 ·split at h<;>simp at h
 ·split at h<;>simp at h
 ·rename_i d h1 h2 hd
  cases d<;>simp[isAgg,run_underlying hd]<;>simp_all
 ·cases h
def Zfo{t:TypeId}{k:Nat}(h:Zye P t=some (some k)):(isAgg t).run P w=.ok true w∧(sizeOf t).run P w=.ok k w:=by
 unfold Zye Zbr at h
 split at h
 ·rename_i fs hd
  split at h
  ·rename_i n hn
   simp only[Yqc]at h;subst h
   simp only[Yql]at hn
   obtain⟨i,hi,rfl⟩:=hn
   exact⟨by simp[isAgg,run_underlying hd],by simp[sizeOf,typeInfo,hi]⟩
  ·cases h
 ·rename_i k' e hd
  split at h
  ·rename_i n hn
   simp only[Yqc]at h;subst h
   simp only[Yql]at hn
   obtain⟨i,hi,rfl⟩:=hn
   exact⟨by simp[isAgg,run_underlying hd],by simp[sizeOf,typeInfo,hi]⟩
  ·cases h
 ·cases h
 ·cases h
def Zb0{t:TypeId}{k:Nat}(h:Zbr P t=some k):(sizeOf t).run P w=.ok k w:=by
 unfold Zbr at h
 simp only[Yql]at h
 obtain⟨i,hi,rfl⟩:=h
 simp[sizeOf,typeInfo,hi]
def Zp7{t:TypeId}{v:V}(h:Ze1 P t=some v):∃x,(zeroValue t).run P w=.ok x w∧∀μ,VR μ v x:=by
 unfold Ze1 at h
 split at h
 ·rename_i i hi
  split at h
  ·rename_i x hx
   exact⟨x,by simp[zeroValue,typeInfo,hi,hx],fun μ=>Zvk μ x v h⟩
  ·cases h
 ·cases h
def Zcd(b o j:Nat):(⟨b,o,none⟩:Addr).add j=⟨b,o+j,none⟩:=by
 unfold Addr.add;split<;>simp_all
def OM.cell{c:List V}{e:TypeId}{rw:Bool}{l:L}(h:OM P μ w (.cells c e rw) l){j:Nat}{v:V}(hv:c[j]?=some v):
  ∃x,w.cell? ⟨l.b,l.d+j,none⟩=some x∧VR μ v x:=by
 obtain⟨c',lo,hi,h1,_,_,h4,_⟩:=h
 obtain⟨x,hx,hr⟩:=h4 j v hv
 exact⟨x,by simp[World.cell?,h1,hx],hr⟩
def OM.seg{c:List V}{e:TypeId}{rw:Bool}{l:L}(h:OM P μ w (.cells c e rw) l){o k:Nat}{vs:List V}(hs:slc c o k=some vs):
  ∃xs:List Value,VRs μ vs xs∧xs.length=k∧(loadCells ⟨l.b,l.d+o,none⟩ k).run P w=.ok xs.toArray w∧(∀(j:Nat) (x:Value),xs[j]?=some x→w.cell? ⟨l.b,l.d+o+j,none⟩=some x)∧(∀x∈xs,x.oneCell'=true):=by
 unfold slc at hs
 split at hs
 ·rename_i hle
  simp only[Yqc]at hs;subst hs
  obtain⟨c',lo,hi,h1,h2,h3,h4,h5,_⟩:=h
  have hlen:l.d+o+k≤c'.size:=by omega
  have hl:((c'.toList.drop (l.d+o)).take k).length=k:=by simp;omega
  have hg:∀(j:Nat) (x:Value),((c'.toList.drop (l.d+o)).take k)[j]?=some x→c'[l.d+o+j]?=some x:=fun j x hx=>by
   rw[Yqy]at hx
   split at hx
   ·simpa[Yqo]using hx
   ·cases hx
  have hcell:∀(j:Nat) (x:Value),((c'.toList.drop (l.d+o)).take k)[j]?=some x→w.cell? ⟨l.b,l.d+o+j,none⟩=some x:=fun j x hx=>by
   simp[World.cell?,h1,hg j x hx]
  refine⟨(c'.toList.drop (l.d+o)).take k,?_,hl,?_,hcell,fun x hx=>?_⟩
  ·refine VRs.of_get (by rw[hl];simp;omega) fun j v hv=>?_
   rw[Yqy]at hv
   split at hv
   ·rename_i hj
    rw[Yqo]at hv
    obtain⟨x,hx,hr⟩:=h4 (o+j) v hv
    refine⟨x,?_,hr⟩
    rw[Yqy,Yqi hj,Yqo]
    simpa[Yrq]using hx
   ·cases hv
  ·have:=run_loadCells_list (P:=P) w ⟨l.b,l.d+o,none⟩ ((c'.toList.drop (l.d+o)).take k) (fun j x hx=>by rw[Zcd];exact hcell j x hx)
   rwa [hl]at this
  ·obtain⟨j,hj⟩:=Ytr hx
   have hjk:j<k:=by rw[←hl];exact(Yro.1 hj).1
   exact h5 (o+j) x (by omega) (by rw[←Yrq];exact hg j x hj)
 ·cases hs
def Zli{t:TypeId}{vs:List V}{xs:List Value}(hxs:VRs μ vs xs){k:Option Nat}(ha:Zye P t=some k){o:Nat}{v:V}(hv:Zah vs o k=some v):
  ∃x,(part t ⟨xs⟩ o).run P w=.ok x w∧VR μ v x:=by
 cases k with
 |none=>
  simp only[Zah]at hv
  obtain⟨x,hx,hr⟩:=hxs.get hv
  exact⟨x,by simp[part,Zng ha,Result.andThen,hx],hr⟩
 |some k=>
  simp only[Zah]at hv
  split at hv
  ·rename_i l hl
   simp only[Yqc]at hv;subst hv
   unfold slc at hl
   split at hl
   ·simp only[Yqc]at hl;subst hl
    refine⟨.agg ⟨(xs.drop o).take k⟩,?_,⟨_,rfl,(hxs.drop o).take k⟩⟩
    simp[part,(Zfo ha).1,(Zfo ha).2,Result.andThen]
   ·cases hl
  ·cases hv
end
section
variable {P:Program} {μ:Mu} {w:World} {st st':St} {r:T V} {n:Nat} {a:Act} {call:Za0} {v:V}
def Zjj{i:Nat}{c:List V}{e:TypeId}{rw:Bool}(h:st.row i=some (c,e,rw)):st.h.get i=some (.cells c e rw):=by
 unfold St.row at h
 split at h
 ·rename_i hg
  simp only[Yqc,Yqf]at h
  obtain⟨rfl,rfl,rfl⟩:=h
  exact hg
 ·cases h
def Za7.row(hh:Za7 P μ w st){i:Nat}{l:L}(hl:μ i=some l){c:List V}{e:TypeId}{rw:Bool}(h:st.row i=some (c,e,rw)):OM P μ w (.cells c e rw) l:=by
 obtain⟨o,h1,h2⟩:=hh.obj i l hl
 rw[Zjj h,Yqc]at h1
 subst h1;exact h2
def Za7.get(hh:Za7 P μ w st){i:Nat}{l:L}(hl:μ i=some l){o:O}(h:st.h.get i=some o):OM P μ w o l:=by
 obtain⟨o',h1,h2⟩:=hh.obj i l hl
 rw[h,Yqc]at h1
 subst h1;exact h2
def Ygh(hh:Za7 P μ w st)(hr:RR μ r n a.tmps){x:Operand}{s:Src}(hx:Zba P x=some s)(h:Zmd s call r st=some (v,st')):
  Za3 P μ w st (pure (.value (a.eval x))) v st':=by
 unfold Zmd at h
 split at h
 ·rename_i u hu
  simp only[Yqc,Yqf]at h
  obtain⟨rfl,rfl⟩:=h
  exact Za3.pureV hh (Zap hh hr hx hu)
 ·cases h
def Yic(hh:Za7 P μ w st)(hr:RR μ r n a.tmps){x y z:Operand}{s t u:Src}(hx:Zba P x=some s)(hy:Zba P y=some t)(hz:Zba P z=some u)
  (h:Zgt s t u call r st=some (v,st')):
  Za3 P μ w st (do pure (.value (if ←asBool (a.eval x) then a.eval y else a.eval z))) v st':=by
 unfold Zgt at h
 split at h
 ·rename_i hs
  have h1:=Zap hh hr hx hs
  simp only[VR]at h1
  split at h
  ·rename_i v1 ht
   simp only[Yqc,Yqf]at h
   obtain⟨rfl,rfl⟩:=h
   exact⟨_,a.eval y,w,μ,[],by simp[h1,asBool],.inl rfl,Zap hh hr hy ht,Stp.refl hh⟩
  ·cases h
 ·rename_i hs
  have h1:=Zap hh hr hx hs
  simp only[VR]at h1
  split at h
  ·rename_i v1 ht
   simp only[Yqc,Yqf]at h
   obtain⟨rfl,rfl⟩:=h
   exact⟨_,a.eval z,w,μ,[],by simp[h1,asBool],.inl rfl,Zap hh hr hz ht,Stp.refl hh⟩
  ·cases h
 ·cases h
def Yi5(hh:Za7 P μ w st)(hr:RR μ r n a.tmps){t:TypeId}{k:Option Nat}{x:Operand}{s:Src}(ha:Zye P t=some k)(hx:Zba P x=some s)
  (h:Zig k s call r st=some (v,st')):Za3 P μ w st (do pure (.value (←Instr.loadAt t (a.eval x)))) v st':=by
 unfold Zig at h
 split at h
 ·rename_i i o hs
  obtain⟨l,hl,he⟩:=Zap hh hr hx hs
  split at h
  ·rename_i c e rw hrow
   have hom:=hh.row hl hrow
   split at h
   ·rename_i u hu
    simp only[Yqc,Yqf]at h
    obtain⟨rfl,rfl⟩:=h
    cases k with
    |none=>
     simp only[Zah]at hu
     obtain⟨y,hy,hv⟩:=hom.cell hu
     exact Za3.value hh (by simp[Instr.loadAt,Instr.sureAddr,he,loadVar,Zng ha,Result.andThen,hy]) hv
    |some k=>
     simp only[Zah]at hu
     split at hu
     ·rename_i vs hvs
      simp only[Yqc]at hu;subst hu
      obtain⟨xs,h1,_,h3,_⟩:=hom.seg hvs
      exact Za3.value hh (x:=.agg xs.toArray) (by simp[Instr.loadAt,Instr.sureAddr,he,loadVar,(Zfo ha).1,(Zfo ha).2,Result.andThen,h3]) ⟨xs,rfl,h1⟩
     ·cases hu
   ·cases h
  ·cases h
 ·cases h
def Yea(hh:Za7 P μ w st)(hr:RR μ r n a.tmps){x:Operand}{s:Src}(hx:Zba P x=some s)(h:Zf1 s call r st=some (v,st')){ty:TypeId}{d:Option Tmp}{pos:String}{af:Array Edge}{g:Option (Nat×Bool)}:
  Za3 P μ w st (execOp a.eval ⟨d,.nilCheck x,ty,pos,af,g⟩) v st':=by
 unfold Zf1 at h
 split at h
 ·rename_i i o hs
  simp only[Yqc,Yqf]at h
  obtain⟨rfl,rfl⟩:=h
  have h0:=Zap hh hr hx hs
  obtain⟨l,hl,he⟩:=h0
  exact⟨_,_,w,μ,[],by simp[execOp,he],.inl rfl,⟨l,hl,rfl⟩,Stp.refl hh⟩
 ·rename_i f b c hs
  simp only[Yqc,Yqf]at h
  obtain⟨rfl,rfl⟩:=h
  obtain⟨a',c',he,h1,h2⟩:=Zap hh hr hx hs
  exact⟨_,_,w,μ,[],by simp[execOp,he],.inl rfl,⟨a',c',rfl,h1,h2⟩,Stp.refl hh⟩
 ·cases h
def Ye2(hh:Za7 P μ w st)(hr:RR μ r n a.tmps){t:TypeId}{i:Nat}{x:Operand}{s:Src}{fs:Array Field}{f:Field}{k:Nat}(ht:P.underlying t=some (.struct fs))(hf:fs[i]?=some f)
  (hk:Zbr P f.type=some (k+1)) (hx:Zba P x=some s) (h:Zf4 f.offset s call r st=some (v,st')):
  Za3 P μ w st (do pure (.value (←Instr.fieldAt t (a.eval x) i))) v st':=by
 unfold Zf4 at h
 split at h
 ·rename_i j o hs
  simp only[Yqc,Yqf]at h
  obtain⟨rfl,rfl⟩:=h
  obtain⟨l,hl,he⟩:=Zap hh hr hx hs
  refine Za3.value hh (x:=.pointer (some ⟨l.b,l.d+(o+f.offset),none⟩)) ?_ ⟨l,hl,rfl⟩
  simp[Instr.fieldAt,run_underlying ht,hf,Instr.sureAddr,he,fieldPlace,Zb0 hk,Result.andThen,Zcd,Yrq]
 ·cases h
def Ye1(hh:Za7 P μ w st)(hr:RR μ r n a.tmps){t:TypeId}{i:Nat}{x:Operand}{s:Src}{fs:Array Field}{f:Field}{k:Option Nat}(ht:P.underlying t=some (.struct fs))(hf:fs[i]?=some f)
  (hk:Zye P f.type=some k) (hx:Zba P x=some s) (h:Zf3 f.offset k s call r st=some (v,st')):
  Za3 P μ w st (do pure (.value (←Instr.field t (a.eval x) i))) v st':=by
 unfold Zf3 at h
 split at h
 ·rename_i cs hs
  obtain⟨xs,he,hxs⟩:=Zap hh hr hx hs
  split at h
  ·rename_i u hu
   simp only[Yqc,Yqf]at h
   obtain⟨rfl,rfl⟩:=h
   obtain⟨y,hy,hv⟩:=Zli (P:=P) (w:=w) hxs hk hu
   exact Za3.value hh (by simp[Instr.field,run_underlying ht,hf,he,asAgg,hy]) hv
  ·cases h
 ·cases h
def Zte(hh:Za7 P μ w st)(hr:RR μ r n a.tmps){t e:TypeId}{k z:Nat}{x i:Operand}{s q:Src}(ht:P.underlying t=some (.array k e))(hz:Zbr P e=some z)
  (hx:Zba P x=some s) (hi:Zba P i=some q) (h:Zb5 k z s q call r st=some (v,st')):
  Za3 P μ w st (do pure (.value (←Instr.indexAt t (a.eval x) (a.eval i)))) v st':=by
 unfold Zb5 at h
 split at h
 ·rename_i b o kd j hs hq
  split at h
  ·rename_i hj
   simp only[Yqc,Yqf]at h
   obtain⟨rfl,rfl⟩:=h
   obtain⟨l,hl,he⟩:=Zap hh hr hx hs
   have hi':=Zap hh hr hi hq
   simp only[VR]at hi'
   refine Za3.value hh (x:=.pointer (some ⟨l.b,l.d+(o+j.toNat*z),none⟩)) ?_ ⟨l,hl,rfl⟩
   have hj2:j<(k:Int):=hj.2
   simp[Instr.indexAt,asIntOf,hi',run_underlying ht,Instr.sureAddr,he,hj.1,hj2,Zb0 hz,Result.andThen,Zcd,Yrq]
  ·cases h
 ·cases h
def Zxq(hh:Za7 P μ w st)(hr:RR μ r n a.tmps){t e:TypeId}{z:Nat}{x i:Operand}{s q:Src}(ht:P.underlying t=some (.slice e))(hz:Zbr P e=some z)
  (hx:Zba P x=some s) (hi:Zba P i=some q) (h:Zdc z s q call r st=some (v,st')):
  Za3 P μ w st (do pure (.value (←Instr.indexAt t (a.eval x) (a.eval i)))) v st':=by
 unfold Zdc at h
 split at h
 ·rename_i b o len cp sz kd j hs hq
  split at h
  ·rename_i hj
   simp only[Yqc,Yqf]at h
   obtain⟨rfl,rfl⟩:=h
   obtain⟨l,c,hl,he,_⟩:=Zap hh hr hx hs
   have hi':=Zap hh hr hi hq
   simp only[VR]at hi'
   refine Za3.value hh (x:=.pointer (some ⟨l.b,l.d+(o+j.toNat*z),none⟩)) ?_ ⟨l,hl,rfl⟩
   have hj2:j<(len:Int):=hj.2
   simp[Instr.indexAt,asIntOf,hi',run_underlying ht,he,hj.1,hj2,Zb0 hz,Result.andThen,Zcd,Yrq]
  ·cases h
 ·cases h
def Yba(hh:Za7 P μ w st)(hr:RR μ r n a.tmps){t e:TypeId}{k z:Nat}{m:Option Nat}{x i:Operand}{s q:Src}(ht:P.underlying t=some (.array k e))(hz:Zbr P e=some z)(hm:Zye P e=some m)
  (hx:Zba P x=some s) (hi:Zba P i=some q) (h:Zfe k z m s q call r st=some (v,st')):
  Za3 P μ w st (do pure (.value (←Instr.index t (a.eval x) (a.eval i)))) v st':=by
 unfold Zfe at h
 split at h
 ·rename_i cs kd j hs hq
  split at h
  ·rename_i hj
   split at h
   ·rename_i u hu
    simp only[Yqc,Yqf]at h
    obtain⟨rfl,rfl⟩:=h
    obtain⟨xs,he,hxs⟩:=Zap hh hr hx hs
    have hi':=Zap hh hr hi hq
    simp only[VR]at hi'
    obtain⟨y,hy,hv⟩:=Zli (P:=P) (w:=w) hxs hm hu
    have hj2:j<(k:Int):=hj.2
    exact Za3.value hh (by simp[Instr.index,asIntOf,hi',run_underlying ht,he,hj.1,hj2,Zb0 hz,Result.andThen,hy]) hv
   ·cases h
  ·cases h
 ·cases h
def Ya8(hh:Za7 P μ w st)(hr:RR μ r n a.tmps){t:TypeId}{x i:Operand}{s q:Src}(ht:P.underlying t=some .string)
  (hx:Zba P x=some s) (hi:Zba P i=some q) (h:Zed s q call r st=some (v,st')):
  Za3 P μ w st (do pure (.value (←Instr.index t (a.eval x) (a.eval i)))) v st':=by
 unfold Zed at h
 split at h
 ·rename_i cs kd j hs hq
  split at h
  ·rename_i hj
   split at h
   ·rename_i u hu
    simp only[Yqc,Yqf]at h
    obtain⟨rfl,rfl⟩:=h
    have he:=Zap hh hr hx hs
    have hi':=Zap hh hr hi hq
    simp only[VR]at hi' he
    have hb:(⟨cs.toArray⟩:ByteArray)[j.toNat]?=some u:=by
     obtain⟨hlt,hget⟩:=Yro.1 hu
     rw[getElem?_pos (⟨cs.toArray⟩:ByteArray) j.toNat (by show j.toNat<cs.toArray.size;simpa using hlt)]
     simp only[Yqc]
     exact hget
    exact Za3.value hh (x:=.int .u8 u.toNat) (by simp[Instr.index,asIntOf,hi',run_underlying ht,he,hj,hb]) (by simp[VR])
   ·cases h
  ·cases h
 ·cases h
def Zxv(hh:Za7 P μ w st)(hr:RR μ r n a.tmps){x:Operand}{s:Src}{i:Nat}(hx:Zba P x=some s)(h:Zdw s i call r st=some (v,st')):
  Za3 P μ w st (do pure (.value (←Instr.extract (a.eval x) i))) v st':=by
 unfold Zdw at h
 split at h
 ·rename_i vs hs
  split at h
  ·rename_i u hu
   simp only[Yqc,Yqf]at h
   obtain⟨rfl,rfl⟩:=h
   obtain⟨xs,he,hxs⟩:=Zap hh hr hx hs
   obtain⟨y,hy,hv⟩:=hxs.get hu
   exact Za3.value hh (by simp[Instr.extract,he,hy]) hv
  ·cases h
 ·cases h
def Zw0(hh:Za7 P μ w st)(hr:RR μ r n a.tmps){t:TypeId}{x:Operand}{s:Src}{d:TypeDesc}(ht:P.underlying t=some d)(hd:∀m,d≠.interface m)(hx:Zba P x=some s)
  (h:Zer t s call r st=some (v,st')):Za3 P μ w st (do pure (.value (←Instr.makeInterface t (a.eval x)))) v st':=by
 unfold Zer at h
 split at h
 ·rename_i u hu
  simp only[Yqc,Yqf]at h
  obtain⟨rfl,rfl⟩:=h
  refine Za3.value hh (x:=.iface t (a.eval x)) ?_ ⟨_,rfl,Zap hh hr hx hu⟩
  cases d<;>simp[Instr.makeInterface,run_underlying ht,Result.andThen]at hd ⊢
 ·cases h
def Yal(hh:Za7 P μ w st)(hr:RR μ r n a.tmps){f:FuncId}{xs ys:Array Operand}{ss ts:List Src}(hx:Ziw P xs.toList=some ss)(hy:Ziw P ys.toList=some ts)
  (h:Zev f ss ts call r st=some (v,st')):Za3 P μ w st (do pure (.value (←Instr.makeFunc (.func f) (xs.map a.eval) (ys.map a.eval)))) v st':=by
 unfold Zev at h
 split at h
 ·rename_i us ws h1 h2
  simp only[Yqc,Yqf]at h
  obtain⟨rfl,rfl⟩:=h
  refine Za3.value hh (x:=.func (.func f) (xs.map a.eval) (ys.map a.eval)) (by simp[Instr.makeFunc]) ⟨xs.toList.map a.eval,ys.toList.map a.eval,?_,Zez hh hr hx h1,Zez hh hr hy h2⟩
  congr 1<;>apply Ytm<;>simp
 ·cases h
def Zx6(hh:Za7 P μ w st)(hr:RR μ r n a.tmps){src dst:TypeId}{k:IntKind}{x:Operand}{s:Src}(hs:∃q,P.underlying src=some (.int q))(hd:P.underlying dst=some (.int k))(hx:Zba P x=some s)
  (h:Zdx k s call r st=some (v,st')):Za3 P μ w st (do pure (.value (←convert src dst (a.eval x)))) v st':=by
 unfold Zdx at h
 split at h
 ·rename_i q m hm
  simp only[Yqc,Yqf]at h
  obtain⟨rfl,rfl⟩:=h
  obtain⟨q',hs⟩:=hs
  have he:=Zap hh hr hx hm
  simp only[VR]at he
  exact Za3.value hh (x:=.int k (k.wrap m)) (by simp[convert,run_underlying hs,run_underlying hd,he,Conv.intToInt]) (by simp[VR,Zde])
 ·cases h
def Zx5(hh:Za7 P μ w st)(hr:RR μ r n a.tmps){src dst:TypeId}{x:Operand}{s:Src}(hs:P.underlying src=some .string)(hd:P.underlying dst=some .string)(hx:Zba P x=some s)
  (h:Zes s call r st=some (v,st')):Za3 P μ w st (do pure (.value (←convert src dst (a.eval x)))) v st':=by
 unfold Zes at h
 split at h
 ·rename_i m hm
  simp only[Yqc,Yqf]at h
  obtain⟨rfl,rfl⟩:=h
  have he:=Zap hh hr hx hm
  simp only[VR]at he
  exact Za3.value hh (x:=.string ⟨m.toArray⟩) (by simp[convert,run_underlying hs,run_underlying hd,he]) (by simp[VR])
 ·cases h
end
set_option maxHeartbeats 2000000
section
variable {P:Program} {μ:Mu} {w:World} {st st':St} {r:T V} {n:Nat} {a:Act} {call:Za0} {v:V}
def Zxe{op:BinOp}{k:IntKind}{x y:Int}{t:TypeId}(h:Zdm op k x y=some v):
  ∃z,(binOp op t (.int k x) (.int k y)).run P w=.ok z w∧VR μ v z:=by
 cases op<;>simp only[Zdm,Yqc,reduceCtorEq]at h
 case add=>subst h;exact⟨_,by simp[binOp,Op.intArith];rfl,by simp[VR,Zde]⟩
 case sub=>subst h;exact⟨_,by simp[binOp,Op.intArith];rfl,by simp[VR,Zde]⟩
 case mul=>subst h;exact⟨_,by simp[binOp,Op.intArith];rfl,by simp[VR,Zde]⟩
 case quo=>
  split at h
  ·cases h
  ·rename_i h0;simp only[Yqc]at h;subst h;exact⟨_,by simp[binOp,Op.intDiv,h0];rfl,by simp[VR,Zde]⟩
 case rem=>
  split at h
  ·cases h
  ·rename_i h0;simp only[Yqc]at h;subst h;exact⟨_,by simp[binOp,Op.intDiv,h0];rfl,by simp[VR]⟩
 case and=>subst h;exact⟨_,by simp[binOp,Op.intBits];rfl,by simp[VR]⟩
 case or=>subst h;exact⟨_,by simp[binOp,Op.intBits];rfl,by simp[VR]⟩
 case xor=>subst h;exact⟨_,by simp[binOp,Op.intBits];rfl,by simp[VR]⟩
 case andNot=>subst h;exact⟨_,by simp[binOp,Op.intBits];rfl,by simp[VR]⟩
 case eql=>subst h;exact⟨_,by simp[binOp,Op.intCmp];rfl,by simp[VR]⟩
 case neq=>subst h;exact⟨_,by simp[binOp,Op.intCmp];rfl,by simp[VR]⟩
 case lss=>subst h;exact⟨_,by simp[binOp,Op.intCmp];rfl,by simp[VR]⟩
 case leq=>subst h;exact⟨_,by simp[binOp,Op.intCmp];rfl,by simp[VR]⟩
 case gtr=>subst h;exact⟨_,by simp[binOp,Op.intCmp];rfl,by simp[VR]⟩
 case geq=>subst h;exact⟨_,by simp[binOp,Op.intCmp];rfl,by simp[VR]⟩
def Zny{op:BinOp}{k k':IntKind}{x y:Int}{t:TypeId}(hs:op=.shl∨op=.shr)(h:Zgk op k x y=some v):
  ∃z,(binOp op t (.int k x) (.int k' y)).run P w=.ok z w∧VR μ v z:=by
 unfold Zgk at h
 split at h
 ·cases h
 ·rename_i h0
  rcases hs with rfl|rfl<;>simp only[Yqc]at h<;>subst h
  ·exact⟨_,by simp[binOp,Op.shift,h0];rfl,by simp[VR]⟩
  ·exact⟨_,by simp[binOp,Op.shift,h0];rfl,by simp[VR]⟩
def Zja(l:List UInt8):(⟨l.toArray⟩:ByteArray).toList=l:=by
 rw[ByteArray.toList_eq]
def Zvz{op:BinOp}{x y:List UInt8}{t:TypeId}(h:Zbk op x y=some v):
  ∃z,(binOp op t (.string ⟨x.toArray⟩) (.string ⟨y.toArray⟩)).run P w=.ok z w∧VR μ v z:=by
 have e1:=Zja x
 have e2:=Zja y
 cases op<;>simp only[Zbk,Yqc,reduceCtorEq]at h
 case add=>
  split at h
  ·cases h
  ·rename_i hle
   simp only[Yqc]at h;subst h
   refine⟨.string ⟨(x++y).toArray⟩,?_,by simp[VR]⟩
   have hsz:((⟨x.toArray⟩:ByteArray).size+(⟨y.toArray⟩:ByteArray).size)=x.length+y.length:=by
    show x.toArray.size+y.toArray.size=_
    simp
   have hap:(⟨x.toArray⟩:ByteArray)++(⟨y.toArray⟩:ByteArray)=⟨(x++y).toArray⟩:=by
    apply ByteArray.ext
    simp[ByteArray.data_append]
   simp only[binOp,Op.stringOp,hsz,Yqe hle,hap]
   simp
 case eql=>subst h;exact⟨_,by simp[binOp,Op.stringOp,e1,e2];rfl,by simp[VR]⟩
 case neq=>subst h;exact⟨_,by simp[binOp,Op.stringOp,e1,e2];rfl,by simp[VR]⟩
 case lss=>subst h;exact⟨_,by simp[binOp,Op.stringOp,e1,e2];rfl,by simp[VR]⟩
 case leq=>subst h;exact⟨_,by simp[binOp,Op.stringOp,e1,e2];rfl,by simp[VR]⟩
 case gtr=>subst h;exact⟨_,by simp[binOp,Op.stringOp,e1,e2];rfl,by simp[VR]⟩
 case geq=>subst h;exact⟨_,by simp[binOp,Op.stringOp,e1,e2];rfl,by simp[VR]⟩
def Ymx(hh:Za7 P μ w st)(hr:RR μ r n a.tmps){op:UnOp}{x:Operand}{s:Src}(hx:Zba P x=some s)(h:Zsk op s call r st=some (v,st')):
  Za3 P μ w st (do pure (.value (←Op.unary op (a.eval x)))) v st':=by
 unfold Zsk at h
 split at h
 ·rename_i u hu
  split at h
  ·rename_i z hz
   simp only[Yqc,Yqf]at h
   obtain⟨rfl,rfl⟩:=h
   have he:=Zap hh hr hx hu
   unfold unV at hz
   split at hz
   ·simp only[VR]at he
    simp only[Yqc]at hz;subst hz
    exact Za3.value hh (x:=_) (by simp[Op.unary,he,Op.intArith];rfl) (by simp[VR])
   ·simp only[VR]at he
    simp only[Yqc]at hz;subst hz
    exact Za3.value hh (x:=_) (by simp[Op.unary,he,Op.intBits];rfl) (by simp[VR])
   ·simp only[VR]at he
    simp only[Yqc]at hz;subst hz
    exact Za3.value hh (x:=_) (by simp[Op.unary,he];rfl) (by simp[VR])
   ·cases hz
  ·cases h
 ·cases h
def Zxz{ng:Bool}{k:PK}{t:TypeId}{d:TypeDesc}{D:Nat}(ht:P.underlying t=some d)(hpo:Yia P d=true)(hk:Yms d=some k)
  {x y:V} {b:Bool} (h:Zak ng k x y=some b) {X Y:Value} (hX:VR μ x X) (hY:VR μ y Y):(Op.equalIn (D+1) t X Y).run P w=.ok b w:=by
 unfold Zak at h
 split at h
 case h_25=>cases h
 all_goals (cases d<;>simp only[Yms,reduceCtorEq,Yqc]at hk)
 all_goals simp only[VR]at hX hY
 case h_7.pointer e=>
  split at h
  ·rename_i he
   obtain⟨rfl,rfl⟩:=he
   obtain⟨l,hl,rfl⟩:=hX
   obtain⟨l',hl',rfl⟩:=hY
   rw[hl]at hl'
   simp only[Yqc]at hl' h
   subst hl' h
   simp only[Yia]at hpo
   obtain⟨j,hj⟩:=Option.isSome_iff_exists.1 hpo
   simp[Op.equalIn,run_underlying ht,sizeOf,typeInfo,hj,run_sameAddr_same]
  ·cases h
 case h_2.int=>
  split at h
  ·rename_i e;subst e;subst hX hY;simp only[Yqc]at h;subst h;simp[Op.equalIn,run_underlying ht]
  ·cases h
 case h_3.string=>
  subst hX hY;simp only[Yqc]at h;subst h
  rw[run_equalIn_string w D t _ _ ht,Zja,Zja]
 case h_22.interface=>
  split at h
  ·subst hX hY;simp only[Yqc]at h;subst h;simp[Op.equalIn,run_underlying ht]
  ·cases h
 all_goals (simp only[Yqc]at h;subst h)
 all_goals first
  |(subst hX;subst hY;simp[Op.equalIn,run_underlying ht];done)
  |(subst hX;obtain⟨_,_,rfl⟩:=hY;simp[Op.equalIn,run_underlying ht];done)
  |(subst hY;obtain⟨_,_,rfl⟩:=hX;simp[Op.equalIn,run_underlying ht];done)
  |(subst hX;obtain⟨_,_,_,rfl,_⟩:=hY;simp[Op.equalIn,run_underlying ht];done)
  |(subst hY;obtain⟨_,_,_,rfl,_⟩:=hX;simp[Op.equalIn,run_underlying ht];done)
  |(subst hX;obtain⟨_,_,rfl,_⟩:=hY;simp[Op.equalIn,run_underlying ht];done)
  |(subst hY;obtain⟨_,_,rfl,_⟩:=hX;simp[Op.equalIn,run_underlying ht];done)
  |(subst hX;obtain⟨_,rfl,_⟩:=hY;simp[Op.equalIn,run_underlying ht];done)
  |(subst hY;obtain⟨_,rfl,_⟩:=hX;simp[Op.equalIn,run_underlying ht];done)
def Zti{d:Nat}(ih:∀{ng:Bool} {t:TypeId} {q:EqT},eqP P d t=some q→∀{x y:V} {b:Bool},eqV ng q x y=some b→∀{X Y:Value},VR μ x X→VR μ y Y→∀D,d≤D→(Op.equalIn D t X Y).run P w=.ok b w)
  {xs ys:List V} {XS YS:List Value} (hX:VRs μ xs XS) (hY:VRs μ ys YS) (D:Nat) (hD:d≤D):
  ∀{fs:List Field} {l:List (Nat×Option Nat×EqT)},Yku P (eqP P d) fs=some l→∀{b:Bool},Zmw l xs ys=some b→(Op.eqFields D ⟨XS⟩ ⟨YS⟩ fs).run P w=.ok b w:=by
 intro fs
 induction fs with
 |nil=>
  intro l hl b h
  simp only[Yku,Yqc]at hl;subst hl
  simp only[Zmw,Yqc]at h;subst h
  simp[Op.eqFields]
 |cons f fs ihf=>
  intro l hl b h
  simp only[Yku]at hl
  split at hl
  ·rename_i hn
   simp only[Op.eqFields,hn,ne_eq,not_true_eq_false,if_false]
   exact ihf hl h
  ·rename_i hn
   split at hl
   ·rename_i k q l' hk hq hl'
    simp only[Yqc]at hl;subst hl
    simp only[Zmw]at h
    split at h
    ·rename_i x y hx hy
     obtain⟨X,h1,h2⟩:=Zli (P:=P) (w:=w) hX hk hx
     obtain⟨Y,h3,h4⟩:=Zli (P:=P) (w:=w) hY hk hy
     split at h
     ·rename_i he
      have e:=ih hq he h2 h4 D hD
      simp only[Op.eqFields,ne_eq,hn,not_false_eq_true,if_true,Sem.run_bind,h1,h3,e,Result.andThen,Bool.not_true,Yqm,if_false]
      exact ihf hl' h
     ·rename_i he
      simp only[Yqc]at h;subst h
      have e:=ih hq he h2 h4 D hD
      simp[Op.eqFields,hn,h1,h3,e,Result.andThen]
     ·cases h
    ·cases h
   ·cases hl
def Yjq:∀(d:Nat) {ng:Bool} {t:TypeId} {q:EqT},eqP P d t=some q→∀{x y:V} {b:Bool},eqV ng q x y=some b→∀{X Y:Value},VR μ x X→VR μ y Y→∀D,d≤D→(Op.equalIn D t X Y).run P w=.ok b w:=by
 intro d
 induction d with
 |zero=>intro ng t q hq;simp[eqP]at hq
 |succ d ih=>
  intro ng t q hq x y b h X Y hX hY D hD
  obtain⟨D,rfl⟩:∃D',D=D'+1:=⟨D-1,by omega⟩
  simp only[eqP]at hq
  split at hq
  ·rename_i fs ht
   split at hq
   ·cases hq
   ·rename_i hst
    split at hq
    ·rename_i l hl
     simp only[Yqc]at hq;subst hq
     cases x<;>cases y<;>simp only[eqV,reduceCtorEq]at h
     obtain⟨xs,rfl,hxs⟩:=hX
     obtain⟨ys,rfl,hys⟩:=hY
     have hf:P.fieldsOf t=fs:=by simp[Program.fieldsOf,ht]
     rw[run_equalIn_struct w D t _ _ (by rw[hf];exact ht) (by simpa using hst),hf]
     exact Zti ih hxs hys D (by omega) hl h
    ·cases hq
  ·rename_i dd hns ht
   split at hq
   ·rename_i k hk
    split at hq
    ·rename_i hpo
     simp only[Yqc]at hq;subst hq
     simp only[eqV]at h
     exact Zxz ht hpo hk h hX hY
    ·cases hq
   ·cases hq
  ·cases hq
def Ze0{op:BinOp}{t:TypeId}{x y:Operand}{X Y:Value}(h1:X=.nilIface→Y=.nilIface→Zik x=true∨Zik y=true)
  (h2:∀a b,X=.agg a→Y=.agg b→P.eqGuardType P.depth t=false):(eqGuard op t x y X Y).run P w=.ok () w:=by
 by_cases hn:X=.nilIface∧Y=.nilIface
 ·obtain⟨rfl,rfl⟩:=hn
  have h:=h1 rfl rfl
  cases op<;>cases x<;>cases y<;>simp_all [eqGuard,Zik]
 ·by_cases ha:(∃a,X=.agg a)∧∃b,Y=.agg b
  ·obtain⟨⟨a,rfl⟩,b,rfl⟩:=ha
   have h:=h2 a b rfl rfl
   cases op<;>simp[eqGuard,run_program,h]
  ·cases op<;>simp[eqGuard]<;>split<;>simp_all
end
end Go.Mx
