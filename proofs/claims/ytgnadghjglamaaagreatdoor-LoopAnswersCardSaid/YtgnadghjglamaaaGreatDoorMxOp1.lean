/-The operations of M stand for the Go mod-/
import Derived.Test.YtgnadghjglamaaaGreatDoorMxComp
import Derived.LaidEql
set_option linter.all false
namespace Go.Mx
open Go
mutual
def Zwh(μ:Mu):∀(x:Value) (v:V),cV x=some v→VR μ v x
 |.bool b,v,h=>by simp only[cV,Yrs]at h;subst h;simp[VR]
 |.int k n,v,h=>by simp only[cV,Yrs]at h;subst h;simp[VR]
 |.float k n,v,h=>by simp only[cV,Yrs]at h;subst h;simp[VR]
 |.complex ..,v,h=>by simp only[cV,Yrs]at h;subst h;simp[VR]
 |.string s,v,h=>by simp only[cV,Yrs]at h;subst h;simp[VR]
 |.pointer none,v,h=>by simp only[cV,Yrs]at h;subst h;simp[VR]
 |.pointer (some _),v,h=>by simp[cV]at h
 |.slice none 0 0,v,h=>by simp only[cV,Yrs]at h;subst h;simp[VR]
 |.slice none 0 (c+1),v,h=>by simp[cV]at h
 |.slice none (n+1) c,v,h=>by simp[cV]at h
 |.slice (some _) _ _,v,h=>by simp[cV]at h
 |.map none,v,h=>by simp only[cV,Yrs]at h;subst h;simp[VR]
 |.map (some _),v,h=>by simp[cV]at h
 |.chan none,v,h=>by simp only[cV,Yrs]at h;subst h;simp[VR]
 |.chan (some _),v,h=>by simp[cV]at h
 |.func ..,v,h=>by simp[cV]at h
 |.nilFunc,v,h=>by simp only[cV,Yrs]at h;subst h;simp[VR]
 |.iface ..,v,h=>by simp[cV]at h
 |.nilIface,v,h=>by simp only[cV,Yrs]at h;subst h;simp[VR]
 |.agg ⟨l⟩,v,h=>by
  simp only[cV]at h
  split at h
  ·rename_i l' hl
   simp only[Yrs]at h;subst h
   exact⟨l,rfl,Zul μ l l' hl⟩
  ·cases h
 |.tuple ⟨l⟩,v,h=>by
  simp only[cV]at h
  split at h
  ·rename_i l' hl
   simp only[Yrs]at h;subst h
   exact⟨l,rfl,Zul μ l l' hl⟩
  ·cases h
def Zul(μ:Mu):∀(xs:List Value) (vs:List V),cVs xs=some vs→VRs μ vs xs
 |[],vs,h=>by simp only[cVs,Yrs]at h;subst h;simp[VRs]
 |x::xs,vs,h=>by
  simp only[cVs]at h
  split at h
  ·rename_i v vs' hv hvs
   simp only[Yrs]at h;subst h
   exact⟨x,xs,rfl,Zwh μ x v hv,Zul μ xs vs' hvs⟩
  ·cases h
end
section
variable {P:Program} {μ:Mu} {w:World} {st:St} {r:T V} {n:Nat} {a:Act}
def Zar(hh:Zba P μ w st)(hr:RR μ r n a.tmps){x:Operand}{s:Src}(hc:Zbe P x=some s){v:V}(hv:s.ev r=some v):VR μ v (a.eval x):=by
 cases x with
 |tmp t=>
  simp only[Zbe,Yrs]at hc;subst hc
  obtain⟨y,h1,h2⟩:=hr.2 t v hv
  simpa[Act.eval,Ytt,h1]using h2
 |const c=>
  simp only[Zbe]at hc
  split at hc
  ·rename_i v' hv'
   simp only[Yrs]at hc;subst hc
   simp only[Src.ev,Yrs]at hv;subst hv
   exact Zwh μ c v' hv'
  ·cases hc
 |global g=>
  simp only[Zbe]at hc
  split at hc
  ·rename_i hg
   simp only[Yrs]at hc;subst hc
   simp only[Src.ev,Yrs]at hv;subst hv
   obtain⟨t,ht⟩:=hh.glob g hg
   exact⟨_,ht,rfl⟩
  ·cases hc
 |func f=>
  simp only[Zbe,Yrs]at hc;subst hc
  simp only[Src.ev,Yrs]at hv;subst hv
  exact⟨[],[],rfl,by simp[VRs],by simp[VRs]⟩
def Ze3(hh:Zba P μ w st)(hr:RR μ r n a.tmps):∀{xs:List Operand} {ss:List Src},Zi2 P xs=some ss→∀{vs:List V},Zhd r ss=some vs→VRs μ vs (xs.map a.eval)
 |[],ss,hc,vs,hv=>by
  simp only[Zi2,Yrs]at hc;subst hc
  simp only[Zhd,Yrs]at hv;subst hv
  simp[VRs]
 |x::xs,ss,hc,vs,hv=>by
  simp only[Zi2]at hc
  split at hc
  ·rename_i s ss' h1 h2
   simp only[Yrs]at hc;subst hc
   simp only[Zhd]at hv
   split at hv
   ·rename_i v vs' h3 h4
    simp only[Yrs]at hv;subst hv
    exact⟨_,_,rfl,Zar hh hr h1 h3,Ze3 hh hr h2 h4⟩
   ·cases hv
  ·cases hc
def Zru(hh:Zba P μ w st)(hr:RR μ r n a.tmps){x:Option Operand}{s:Option Src}(hc:Zqc P x=some s){v:Option V}(hv:evOpt r s=some v):
  (v=none∧x=none)∨∃v' x',v=some v'∧x=some x'∧VR μ v' (a.eval x'):=by
 cases x with
 |none=>
  simp only[Zqc,Yrs]at hc;subst hc
  simp only[evOpt,Yrs]at hv;subst hv
  exact .inl ⟨rfl,rfl⟩
 |some x=>
  simp only[Zqc]at hc
  split at hc
  ·rename_i s' h1
   simp only[Yrs]at hc;subst hc
   simp only[evOpt]at hv
   split at hv
   ·rename_i v' h2
    simp only[Yrs]at hv;subst hv
    exact .inr ⟨v',x,rfl,rfl,Zar hh hr h1 h2⟩
   ·cases hv
  ·cases hc
def Za4(P:Program)(μ:Mu)(w:World)(st:St)(s:Sem Next)(v:V)(st':St):Prop:=
 ∃nx x w' μ' ws,s.run P w=.ok nx w'∧(nx=.value x∨(nx=.skip∧x=undef))∧VR μ' v x∧Stp P μ w st μ' w' st' ws
def Za4.value(hh:Zba P μ w st){s:Sem Value}{v:V}{x:Value}(hs:s.run P w=.ok x w)(hv:VR μ v x):
  Za4 P μ w st (do pure (.value (←s))) v st:=
 ⟨.value x,x,w,μ,[],by simp[hs,Result.andThen],.inl rfl,hv,Stp.refl hh⟩
def Za4.pureV(hh:Zba P μ w st){v:V}{x:Value}(hv:VR μ v x):Za4 P μ w st (pure (.value x)) v st:=
 ⟨.value x,x,w,μ,[],by simp,.inl rfl,hv,Stp.refl hh⟩
def Znx{t:TypeId}(h:Zze P t=some none):(isAgg t).run P w=.ok false w:=by
 unfold Zze at h
 split at h
 ·split at h<;>simp at h
 ·split at h<;>simp at h
 ·rename_i d h1 h2 hd
  cases d<;>simp[isAgg,run_underlying hd]<;>simp_all
 ·cases h
def Zft{t:TypeId}{k:Nat}(h:Zze P t=some (some k)):(isAgg t).run P w=.ok true w∧(sizeOf t).run P w=.ok k w:=by
 unfold Zze Zbt at h
 split at h
 ·rename_i fs hd
  split at h
  ·rename_i n hn
   simp only[Yrs]at h;subst h
   simp only[Yr0]at hn
   obtain⟨i,hi,rfl⟩:=hn
   exact⟨by simp[isAgg,run_underlying hd],by simp[sizeOf,typeInfo,hi]⟩
  ·cases h
 ·rename_i k' e hd
  split at h
  ·rename_i n hn
   simp only[Yrs]at h;subst h
   simp only[Yr0]at hn
   obtain⟨i,hi,rfl⟩:=hn
   exact⟨by simp[isAgg,run_underlying hd],by simp[sizeOf,typeInfo,hi]⟩
  ·cases h
 ·cases h
 ·cases h
def Zb2{t:TypeId}{k:Nat}(h:Zbt P t=some k):(sizeOf t).run P w=.ok k w:=by
 unfold Zbt at h
 simp only[Yr0]at h
 obtain⟨i,hi,rfl⟩:=h
 simp[sizeOf,typeInfo,hi]
def Zqo{t:TypeId}{v:V}(h:Ze6 P t=some v):∃x,(zeroValue t).run P w=.ok x w∧∀μ,VR μ v x:=by
 unfold Ze6 at h
 split at h
 ·rename_i i hi
  split at h
  ·rename_i x hx
   exact⟨x,by simp[zeroValue,typeInfo,hi,hx],fun μ=>Zwh μ x v h⟩
  ·cases h
 ·cases h
def Zci(b o j:Nat):(⟨b,o,none⟩:Addr).add j=⟨b,o+j,none⟩:=by
 unfold Addr.add;split<;>simp_all
def OM.cell{c:List V}{e:TypeId}{rw:Bool}{l:L}(h:OM P μ w (.cells c e rw) l){j:Nat}{v:V}(hv:c[j]?=some v):
  ∃x,w.cell? ⟨l.b,l.d+j,none⟩=some x∧VR μ v x:=by
 obtain⟨c',lo,hi,h1,_,_,h4,_⟩:=h
 obtain⟨x,hx,hr⟩:=h4 j v hv
 exact⟨x,by simp[World.cell?,h1,hx],hr⟩
def OM.seg{c:List V}{e:TypeId}{rw:Bool}{l:L}(h:OM P μ w (.cells c e rw) l){o k:Nat}{vs:List V}(hs:slc c o k=some vs):
  ∃xs:List Value,VRs μ vs xs∧xs.length=k∧(loadCells ⟨l.b,l.d+o,none⟩ k).run P w=.ok xs.toArray w∧(∀(j:Nat) (x:Value),xs[j]?=some x→w.cell? ⟨l.b,l.d+o+j,none⟩=some x)∧(∀x∈xs,x.oneCell'=true):=by
 unfold slc at hs
 split at hs
 ·rename_i hle
  simp only[Yrs]at hs;subst hs
  obtain⟨c',lo,hi,h1,h2,h3,h4,h5,_⟩:=h
  have hlen:l.d+o+k≤c'.size:=by omega
  have hl:((c'.toList.drop (l.d+o)).take k).length=k:=by simp;omega
  have hg:∀(j:Nat) (x:Value),((c'.toList.drop (l.d+o)).take k)[j]?=some x→c'[l.d+o+j]?=some x:=fun j x hx=>by
   rw[Ysh]at hx
   split at hx
   ·simpa[Yr4]using hx
   ·cases hx
  have hcell:∀(j:Nat) (x:Value),((c'.toList.drop (l.d+o)).take k)[j]?=some x→w.cell? ⟨l.b,l.d+o+j,none⟩=some x:=fun j x hx=>by
   simp[World.cell?,h1,hg j x hx]
  refine⟨(c'.toList.drop (l.d+o)).take k,?_,hl,?_,hcell,fun x hx=>?_⟩
  ·refine VRs.of_get (by rw[hl];simp;omega) fun j v hv=>?_
   rw[Ysh]at hv
   split at hv
   ·rename_i hj
    rw[Yr4]at hv
    obtain⟨x,hx,hr⟩:=h4 (o+j) v hv
    refine⟨x,?_,hr⟩
    rw[Ysh,Yrw hj,Yr4]
    simpa[Yta]using hx
   ·cases hv
  ·have:=run_loadCells_list (P:=P) w ⟨l.b,l.d+o,none⟩ ((c'.toList.drop (l.d+o)).take k) (fun j x hx=>by rw[Zci];exact hcell j x hx)
   rwa [hl]at this
  ·obtain⟨j,hj⟩:=Yu0 hx
   have hjk:j<k:=by rw[←hl];exact(Ys9.1 hj).1
   exact h5 (o+j) x (by omega) (by rw[←Yta];exact hg j x hj)
 ·cases hs
def Zlw{t:TypeId}{vs:List V}{xs:List Value}(hxs:VRs μ vs xs){k:Option Nat}(ha:Zze P t=some k){o:Nat}{v:V}(hv:Zaj vs o k=some v):
  ∃x,(part t ⟨xs⟩ o).run P w=.ok x w∧VR μ v x:=by
 cases k with
 |none=>
  simp only[Zaj]at hv
  obtain⟨x,hx,hr⟩:=hxs.get hv
  exact⟨x,by simp[part,Znx ha,Result.andThen,hx],hr⟩
 |some k=>
  simp only[Zaj]at hv
  split at hv
  ·rename_i l hl
   simp only[Yrs]at hv;subst hv
   unfold slc at hl
   split at hl
   ·simp only[Yrs]at hl;subst hl
    refine⟨.agg ⟨(xs.drop o).take k⟩,?_,⟨_,rfl,(hxs.drop o).take k⟩⟩
    simp[part,(Zft ha).1,(Zft ha).2,Result.andThen]
   ·cases hl
  ·cases hv
end
section
variable {P:Program} {μ:Mu} {w:World} {st st':St} {r:T V} {n:Nat} {a:Act} {call:Za1} {v:V}
def Zjr{i:Nat}{c:List V}{e:TypeId}{rw:Bool}(h:st.row i=some (c,e,rw)):st.h.get i=some (.cells c e rw):=by
 unfold St.row at h
 split at h
 ·rename_i hg
  simp only[Yrs,Yrv]at h
  obtain⟨rfl,rfl,rfl⟩:=h
  exact hg
 ·cases h
def Zba.row(hh:Zba P μ w st){i:Nat}{l:L}(hl:μ i=some l){c:List V}{e:TypeId}{rw:Bool}(h:st.row i=some (c,e,rw)):OM P μ w (.cells c e rw) l:=by
 obtain⟨o,h1,h2⟩:=hh.obj i l hl
 rw[Zjr h,Yrs]at h1
 subst h1;exact h2
def Zba.get(hh:Zba P μ w st){i:Nat}{l:L}(hl:μ i=some l){o:O}(h:st.h.get i=some o):OM P μ w o l:=by
 obtain⟨o',h1,h2⟩:=hh.obj i l hl
 rw[h,Yrs]at h1
 subst h1;exact h2
def Yhp(hh:Zba P μ w st)(hr:RR μ r n a.tmps){x:Operand}{s:Src}(hx:Zbe P x=some s)(h:Zms s call r st=some (v,st')):
  Za4 P μ w st (pure (.value (a.eval x))) v st':=by
 unfold Zms at h
 split at h
 ·rename_i u hu
  simp only[Yrs,Yrv]at h
  obtain⟨rfl,rfl⟩:=h
  exact Za4.pureV hh (Zar hh hr hx hu)
 ·cases h
def Yjh(hh:Zba P μ w st)(hr:RR μ r n a.tmps){x y z:Operand}{s t u:Src}(hx:Zbe P x=some s)(hy:Zbe P y=some t)(hz:Zbe P z=some u)
  (h:Zgz s t u call r st=some (v,st')):
  Za4 P μ w st (do pure (.value (if ←asBool (a.eval x) then a.eval y else a.eval z))) v st':=by
 unfold Zgz at h
 split at h
 ·rename_i hs
  have h1:=Zar hh hr hx hs
  simp only[VR]at h1
  split at h
  ·rename_i v1 ht
   simp only[Yrs,Yrv]at h
   obtain⟨rfl,rfl⟩:=h
   exact⟨_,a.eval y,w,μ,[],by simp[h1,asBool],.inl rfl,Zar hh hr hy ht,Stp.refl hh⟩
  ·cases h
 ·rename_i hs
  have h1:=Zar hh hr hx hs
  simp only[VR]at h1
  split at h
  ·rename_i v1 ht
   simp only[Yrs,Yrv]at h
   obtain⟨rfl,rfl⟩:=h
   exact⟨_,a.eval z,w,μ,[],by simp[h1,asBool],.inl rfl,Zar hh hr hz ht,Stp.refl hh⟩
  ·cases h
 ·cases h
def Yka(hh:Zba P μ w st)(hr:RR μ r n a.tmps){t:TypeId}{k:Option Nat}{x:Operand}{s:Src}(ha:Zze P t=some k)(hx:Zbe P x=some s)
  (h:Zip k s call r st=some (v,st')):Za4 P μ w st (do pure (.value (←Instr.loadAt t (a.eval x)))) v st':=by
 unfold Zip at h
 split at h
 ·rename_i i o hs
  obtain⟨l,hl,he⟩:=Zar hh hr hx hs
  split at h
  ·rename_i c e rw hrow
   have hom:=hh.row hl hrow
   split at h
   ·rename_i u hu
    simp only[Yrs,Yrv]at h
    obtain⟨rfl,rfl⟩:=h
    cases k with
    |none=>
     simp only[Zaj]at hu
     obtain⟨y,hy,hv⟩:=hom.cell hu
     exact Za4.value hh (by simp[Instr.loadAt,Instr.sureAddr,he,loadVar,Znx ha,Result.andThen,hy]) hv
    |some k=>
     simp only[Zaj]at hu
     split at hu
     ·rename_i vs hvs
      simp only[Yrs]at hu;subst hu
      obtain⟨xs,h1,_,h3,_⟩:=hom.seg hvs
      exact Za4.value hh (x:=.agg xs.toArray) (by simp[Instr.loadAt,Instr.sureAddr,he,loadVar,(Zft ha).1,(Zft ha).2,Result.andThen,h3]) ⟨xs,rfl,h1⟩
     ·cases hu
   ·cases h
  ·cases h
 ·cases h
def Yfj(hh:Zba P μ w st)(hr:RR μ r n a.tmps){x:Operand}{s:Src}(hx:Zbe P x=some s)(h:Zf8 s call r st=some (v,st')){ty:TypeId}{d:Option Tmp}{pos:String}{af:Array Edge}{g:Option (Nat×Bool)}:
  Za4 P μ w st (execOp a.eval ⟨d,.nilCheck x,ty,pos,af,g⟩) v st':=by
 unfold Zf8 at h
 split at h
 ·rename_i i o hs
  simp only[Yrs,Yrv]at h
  obtain⟨rfl,rfl⟩:=h
  have h0:=Zar hh hr hx hs
  obtain⟨l,hl,he⟩:=h0
  exact⟨_,_,w,μ,[],by simp[execOp,he],.inl rfl,⟨l,hl,rfl⟩,Stp.refl hh⟩
 ·rename_i f b c hs
  simp only[Yrs,Yrv]at h
  obtain⟨rfl,rfl⟩:=h
  obtain⟨a',c',he,h1,h2⟩:=Zar hh hr hx hs
  exact⟨_,_,w,μ,[],by simp[execOp,he],.inl rfl,⟨a',c',rfl,h1,h2⟩,Stp.refl hh⟩
 ·cases h
def Yga(hh:Zba P μ w st)(hr:RR μ r n a.tmps){t:TypeId}{i:Nat}{x:Operand}{s:Src}{fs:Array Field}{f:Field}{k:Nat}(ht:P.underlying t=some (.struct fs))(hf:fs[i]?=some f)
  (hk:Zbt P f.type=some (k+1)) (hx:Zbe P x=some s) (h:Zgb f.offset s call r st=some (v,st')):
  Za4 P μ w st (do pure (.value (←Instr.fieldAt t (a.eval x) i))) v st':=by
 unfold Zgb at h
 split at h
 ·rename_i j o hs
  simp only[Yrs,Yrv]at h
  obtain⟨rfl,rfl⟩:=h
  obtain⟨l,hl,he⟩:=Zar hh hr hx hs
  refine Za4.value hh (x:=.pointer (some ⟨l.b,l.d+(o+f.offset),none⟩)) ?_ ⟨l,hl,rfl⟩
  simp[Instr.fieldAt,run_underlying ht,hf,Instr.sureAddr,he,fieldPlace,Zb2 hk,Result.andThen,Zci,Yta]
 ·cases h
def Yf9(hh:Zba P μ w st)(hr:RR μ r n a.tmps){t:TypeId}{i:Nat}{x:Operand}{s:Src}{fs:Array Field}{f:Field}{k:Option Nat}(ht:P.underlying t=some (.struct fs))(hf:fs[i]?=some f)
  (hk:Zze P f.type=some k) (hx:Zbe P x=some s) (h:Zga f.offset k s call r st=some (v,st')):
  Za4 P μ w st (do pure (.value (←Instr.field t (a.eval x) i))) v st':=by
 unfold Zga at h
 split at h
 ·rename_i cs hs
  obtain⟨xs,he,hxs⟩:=Zar hh hr hx hs
  split at h
  ·rename_i u hu
   simp only[Yrs,Yrv]at h
   obtain⟨rfl,rfl⟩:=h
   obtain⟨y,hy,hv⟩:=Zlw (P:=P) (w:=w) hxs hk hu
   exact Za4.value hh (by simp[Instr.field,run_underlying ht,hf,he,asAgg,hy]) hv
  ·cases h
 ·cases h
def Zt4(hh:Zba P μ w st)(hr:RR μ r n a.tmps){t e:TypeId}{k z:Nat}{x i:Operand}{s q:Src}(ht:P.underlying t=some (.array k e))(hz:Zbt P e=some z)
  (hx:Zbe P x=some s) (hi:Zbe P i=some q) (h:Zca k z s q call r st=some (v,st')):
  Za4 P μ w st (do pure (.value (←Instr.indexAt t (a.eval x) (a.eval i)))) v st':=by
 unfold Zca at h
 split at h
 ·rename_i b o kd j hs hq
  split at h
  ·rename_i hj
   simp only[Yrs,Yrv]at h
   obtain⟨rfl,rfl⟩:=h
   obtain⟨l,hl,he⟩:=Zar hh hr hx hs
   have hi':=Zar hh hr hi hq
   simp only[VR]at hi'
   refine Za4.value hh (x:=.pointer (some ⟨l.b,l.d+(o+j.toNat*z),none⟩)) ?_ ⟨l,hl,rfl⟩
   have hj2:j<(k:Int):=hj.2
   simp[Instr.indexAt,asIntOf,hi',run_underlying ht,Instr.sureAddr,he,hj.1,hj2,Zb2 hz,Result.andThen,Zci,Yta]
  ·cases h
 ·cases h
def Zyl(hh:Zba P μ w st)(hr:RR μ r n a.tmps){t e:TypeId}{z:Nat}{x i:Operand}{s q:Src}(ht:P.underlying t=some (.slice e))(hz:Zbt P e=some z)
  (hx:Zbe P x=some s) (hi:Zbe P i=some q) (h:Zde z s q call r st=some (v,st')):
  Za4 P μ w st (do pure (.value (←Instr.indexAt t (a.eval x) (a.eval i)))) v st':=by
 unfold Zde at h
 split at h
 ·rename_i b o len cp sz kd j hs hq
  split at h
  ·rename_i hj
   simp only[Yrs,Yrv]at h
   obtain⟨rfl,rfl⟩:=h
   obtain⟨l,c,hl,he,_⟩:=Zar hh hr hx hs
   have hi':=Zar hh hr hi hq
   simp only[VR]at hi'
   refine Za4.value hh (x:=.pointer (some ⟨l.b,l.d+(o+j.toNat*z),none⟩)) ?_ ⟨l,hl,rfl⟩
   have hj2:j<(len:Int):=hj.2
   simp[Instr.indexAt,asIntOf,hi',run_underlying ht,he,hj.1,hj2,Zb2 hz,Result.andThen,Zci,Yta]
  ·cases h
 ·cases h
def Ycd(hh:Zba P μ w st)(hr:RR μ r n a.tmps){t e:TypeId}{k z:Nat}{m:Option Nat}{x i:Operand}{s q:Src}(ht:P.underlying t=some (.array k e))(hz:Zbt P e=some z)(hm:Zze P e=some m)
  (hx:Zbe P x=some s) (hi:Zbe P i=some q) (h:Zfi k z m s q call r st=some (v,st')):
  Za4 P μ w st (do pure (.value (←Instr.index t (a.eval x) (a.eval i)))) v st':=by
 unfold Zfi at h
 split at h
 ·rename_i cs kd j hs hq
  split at h
  ·rename_i hj
   split at h
   ·rename_i u hu
    simp only[Yrs,Yrv]at h
    obtain⟨rfl,rfl⟩:=h
    obtain⟨xs,he,hxs⟩:=Zar hh hr hx hs
    have hi':=Zar hh hr hi hq
    simp only[VR]at hi'
    obtain⟨y,hy,hv⟩:=Zlw (P:=P) (w:=w) hxs hm hu
    have hj2:j<(k:Int):=hj.2
    exact Za4.value hh (by simp[Instr.index,asIntOf,hi',run_underlying ht,he,hj.1,hj2,Zb2 hz,Result.andThen,hy]) hv
   ·cases h
  ·cases h
 ·cases h
def Ycb(hh:Zba P μ w st)(hr:RR μ r n a.tmps){t:TypeId}{x i:Operand}{s q:Src}(ht:P.underlying t=some .string)
  (hx:Zbe P x=some s) (hi:Zbe P i=some q) (h:Zei s q call r st=some (v,st')):
  Za4 P μ w st (do pure (.value (←Instr.index t (a.eval x) (a.eval i)))) v st':=by
 unfold Zei at h
 split at h
 ·rename_i cs kd j hs hq
  split at h
  ·rename_i hj
   split at h
   ·rename_i u hu
    simp only[Yrs,Yrv]at h
    obtain⟨rfl,rfl⟩:=h
    have he:=Zar hh hr hx hs
    have hi':=Zar hh hr hi hq
    simp only[VR]at hi' he
    have hb:(⟨cs.toArray⟩:ByteArray)[j.toNat]?=some u:=by
     obtain⟨hlt,hget⟩:=Ys9.1 hu
     rw[getElem?_pos (⟨cs.toArray⟩:ByteArray) j.toNat (by show j.toNat<cs.toArray.size;simpa using hlt)]
     simp only[Yrs]
     exact hget
    exact Za4.value hh (x:=.int .u8 u.toNat) (by simp[Instr.index,asIntOf,hi',run_underlying ht,he,hj,hb]) (by simp[VR])
   ·cases h
  ·cases h
 ·cases h
def Zyt(hh:Zba P μ w st)(hr:RR μ r n a.tmps){x:Operand}{s:Src}{i:Nat}(hx:Zbe P x=some s)(h:Zdz s i call r st=some (v,st')):
  Za4 P μ w st (do pure (.value (←Instr.extract (a.eval x) i))) v st':=by
 unfold Zdz at h
 split at h
 ·rename_i vs hs
  split at h
  ·rename_i u hu
   simp only[Yrs,Yrv]at h
   obtain⟨rfl,rfl⟩:=h
   obtain⟨xs,he,hxs⟩:=Zar hh hr hx hs
   obtain⟨y,hy,hv⟩:=hxs.get hu
   exact Za4.value hh (by simp[Instr.extract,he,hy]) hv
  ·cases h
 ·cases h
def Zxw(hh:Zba P μ w st)(hr:RR μ r n a.tmps){t:TypeId}{x:Operand}{s:Src}{d:TypeDesc}(ht:P.underlying t=some d)(hd:∀m,d≠.interface m)(hx:Zbe P x=some s)
  (h:Zev t s call r st=some (v,st')):Za4 P μ w st (do pure (.value (←Instr.makeInterface t (a.eval x)))) v st':=by
 unfold Zev at h
 split at h
 ·rename_i u hu
  simp only[Yrs,Yrv]at h
  obtain⟨rfl,rfl⟩:=h
  refine Za4.value hh (x:=.iface t (a.eval x)) ?_ ⟨_,rfl,Zar hh hr hx hu⟩
  cases d<;>simp[Instr.makeInterface,run_underlying ht,Result.andThen]at hd ⊢
 ·cases h
def Ybn(hh:Zba P μ w st)(hr:RR μ r n a.tmps){f:FuncId}{xs ys:Array Operand}{ss ts:List Src}(hx:Zi2 P xs.toList=some ss)(hy:Zi2 P ys.toList=some ts)
  (h:Zez f ss ts call r st=some (v,st')):Za4 P μ w st (do pure (.value (←Instr.makeFunc (.func f) (xs.map a.eval) (ys.map a.eval)))) v st':=by
 unfold Zez at h
 split at h
 ·rename_i us ws h1 h2
  simp only[Yrs,Yrv]at h
  obtain⟨rfl,rfl⟩:=h
  refine Za4.value hh (x:=.func (.func f) (xs.map a.eval) (ys.map a.eval)) (by simp[Instr.makeFunc]) ⟨xs.toList.map a.eval,ys.toList.map a.eval,?_,Ze3 hh hr hx h1,Ze3 hh hr hy h2⟩
  congr 1<;>apply Yu3<;>simp
 ·cases h
def Zy4(hh:Zba P μ w st)(hr:RR μ r n a.tmps){src dst:TypeId}{k:IntKind}{x:Operand}{s:Src}(hs:∃q,P.underlying src=some (.int q))(hd:P.underlying dst=some (.int k))(hx:Zbe P x=some s)
  (h:Zd0 k s call r st=some (v,st')):Za4 P μ w st (do pure (.value (←convert src dst (a.eval x)))) v st':=by
 unfold Zd0 at h
 split at h
 ·rename_i q m hm
  simp only[Yrs,Yrv]at h
  obtain⟨rfl,rfl⟩:=h
  obtain⟨q',hs⟩:=hs
  have he:=Zar hh hr hx hm
  simp only[VR]at he
  exact Za4.value hh (x:=.int k (k.wrap m)) (by simp[convert,run_underlying hs,run_underlying hd,he,Conv.intToInt]) (by simp[VR,Zdg])
 ·cases h
def Zy3(hh:Zba P μ w st)(hr:RR μ r n a.tmps){src dst:TypeId}{x:Operand}{s:Src}(hs:P.underlying src=some .string)(hd:P.underlying dst=some .string)(hx:Zbe P x=some s)
  (h:Zew s call r st=some (v,st')):Za4 P μ w st (do pure (.value (←convert src dst (a.eval x)))) v st':=by
 unfold Zew at h
 split at h
 ·rename_i m hm
  simp only[Yrs,Yrv]at h
  obtain⟨rfl,rfl⟩:=h
  have he:=Zar hh hr hx hm
  simp only[VR]at he
  exact Za4.value hh (x:=.string ⟨m.toArray⟩) (by simp[convert,run_underlying hs,run_underlying hd,he]) (by simp[VR])
 ·cases h
end
set_option maxHeartbeats 2000000
section
variable {P:Program} {μ:Mu} {w:World} {st st':St} {r:T V} {n:Nat} {a:Act} {call:Za1} {v:V}
def Zx9{op:BinOp}{k:IntKind}{x y:Int}{t:TypeId}(h:Zdo op k x y=some v):
  ∃z,(binOp op t (.int k x) (.int k y)).run P w=.ok z w∧VR μ v z:=by
 cases op<;>simp only[Zdo,Yrs,reduceCtorEq]at h
 case add=>subst h;exact⟨_,by simp[binOp,Op.intArith];rfl,by simp[VR,Zdg]⟩
 case sub=>subst h;exact⟨_,by simp[binOp,Op.intArith];rfl,by simp[VR,Zdg]⟩
 case mul=>subst h;exact⟨_,by simp[binOp,Op.intArith];rfl,by simp[VR,Zdg]⟩
 case quo=>
  split at h
  ·cases h
  ·rename_i h0;simp only[Yrs]at h;subst h;exact⟨_,by simp[binOp,Op.intDiv,h0];rfl,by simp[VR,Zdg]⟩
 case rem=>
  split at h
  ·cases h
  ·rename_i h0;simp only[Yrs]at h;subst h;exact⟨_,by simp[binOp,Op.intDiv,h0];rfl,by simp[VR]⟩
 case and=>subst h;exact⟨_,by simp[binOp,Op.intBits];rfl,by simp[VR]⟩
 case or=>subst h;exact⟨_,by simp[binOp,Op.intBits];rfl,by simp[VR]⟩
 case xor=>subst h;exact⟨_,by simp[binOp,Op.intBits];rfl,by simp[VR]⟩
 case andNot=>subst h;exact⟨_,by simp[binOp,Op.intBits];rfl,by simp[VR]⟩
 case eql=>subst h;exact⟨_,by simp[binOp,Op.intCmp];rfl,by simp[VR]⟩
 case neq=>subst h;exact⟨_,by simp[binOp,Op.intCmp];rfl,by simp[VR]⟩
 case lss=>subst h;exact⟨_,by simp[binOp,Op.intCmp];rfl,by simp[VR]⟩
 case leq=>subst h;exact⟨_,by simp[binOp,Op.intCmp];rfl,by simp[VR]⟩
 case gtr=>subst h;exact⟨_,by simp[binOp,Op.intCmp];rfl,by simp[VR]⟩
 case geq=>subst h;exact⟨_,by simp[binOp,Op.intCmp];rfl,by simp[VR]⟩
def Zoi{op:BinOp}{k k':IntKind}{x y:Int}{t:TypeId}(hs:op=.shl∨op=.shr)(h:Zgq op k x y=some v):
  ∃z,(binOp op t (.int k x) (.int k' y)).run P w=.ok z w∧VR μ v z:=by
 unfold Zgq at h
 split at h
 ·cases h
 ·rename_i h0
  rcases hs with rfl|rfl<;>simp only[Yrs]at h<;>subst h
  ·exact⟨_,by simp[binOp,Op.shift,h0];rfl,by simp[VR]⟩
  ·exact⟨_,by simp[binOp,Op.shift,h0];rfl,by simp[VR]⟩
def Zji(l:List UInt8):(⟨l.toArray⟩:ByteArray).toList=l:=by
 rw[ByteArray.toList_eq]
def Zwy{op:BinOp}{x y:List UInt8}{t:TypeId}(h:Zbo op x y=some v):
  ∃z,(binOp op t (.string ⟨x.toArray⟩) (.string ⟨y.toArray⟩)).run P w=.ok z w∧VR μ v z:=by
 have e1:=Zji x
 have e2:=Zji y
 cases op<;>simp only[Zbo,Yrs,reduceCtorEq]at h
 case add=>
  split at h
  ·cases h
  ·rename_i hle
   simp only[Yrs]at h;subst h
   refine⟨.string ⟨(x++y).toArray⟩,?_,by simp[VR]⟩
   have hsz:((⟨x.toArray⟩:ByteArray).size+(⟨y.toArray⟩:ByteArray).size)=x.length+y.length:=by
    show x.toArray.size+y.toArray.size=_
    simp
   have hap:(⟨x.toArray⟩:ByteArray)++(⟨y.toArray⟩:ByteArray)=⟨(x++y).toArray⟩:=by
    apply ByteArray.ext
    simp[ByteArray.data_append]
   simp only[binOp,Op.stringOp,hsz,Yrt hle,hap]
   simp
 case eql=>subst h;exact⟨_,by simp[binOp,Op.stringOp,e1,e2];rfl,by simp[VR]⟩
 case neq=>subst h;exact⟨_,by simp[binOp,Op.stringOp,e1,e2];rfl,by simp[VR]⟩
 case lss=>subst h;exact⟨_,by simp[binOp,Op.stringOp,e1,e2];rfl,by simp[VR]⟩
 case leq=>subst h;exact⟨_,by simp[binOp,Op.stringOp,e1,e2];rfl,by simp[VR]⟩
 case gtr=>subst h;exact⟨_,by simp[binOp,Op.stringOp,e1,e2];rfl,by simp[VR]⟩
 case geq=>subst h;exact⟨_,by simp[binOp,Op.stringOp,e1,e2];rfl,by simp[VR]⟩
def Yn6(hh:Zba P μ w st)(hr:RR μ r n a.tmps){op:UnOp}{x:Operand}{s:Src}(hx:Zbe P x=some s)(h:Zta op s call r st=some (v,st')):
  Za4 P μ w st (do pure (.value (←Op.unary op (a.eval x)))) v st':=by
 unfold Zta at h
 split at h
 ·rename_i u hu
  split at h
  ·rename_i z hz
   simp only[Yrs,Yrv]at h
   obtain⟨rfl,rfl⟩:=h
   have he:=Zar hh hr hx hu
   unfold unV at hz
   split at hz
   ·simp only[VR]at he
    simp only[Yrs]at hz;subst hz
    exact Za4.value hh (x:=_) (by simp[Op.unary,he,Op.intArith];rfl) (by simp[VR])
   ·simp only[VR]at he
    simp only[Yrs]at hz;subst hz
    exact Za4.value hh (x:=_) (by simp[Op.unary,he,Op.intBits];rfl) (by simp[VR])
   ·simp only[VR]at he
    simp only[Yrs]at hz;subst hz
    exact Za4.value hh (x:=_) (by simp[Op.unary,he];rfl) (by simp[VR])
   ·cases hz
  ·cases h
 ·cases h
def Zyx{ng:Bool}{k:PK}{t:TypeId}{d:TypeDesc}{D:Nat}(ht:P.underlying t=some d)(hpo:Yje P d=true)(hk:Yn0 d=some k)
  {x y:V} {b:Bool} (h:Zag ng k x y=some b) {X Y:Value} (hX:VR μ x X) (hY:VR μ y Y):(Op.equalIn (D+1) t X Y).run P w=.ok b w:=by
 unfold Zag at h
 split at h
 case h_25=>cases h
 all_goals (cases d<;>simp only[Yn0,reduceCtorEq,Yrs]at hk)
 all_goals simp only[VR]at hX hY
 case h_7.pointer e=>
  split at h
  ·rename_i he
   obtain⟨rfl,rfl⟩:=he
   obtain⟨l,hl,rfl⟩:=hX
   obtain⟨l',hl',rfl⟩:=hY
   rw[hl]at hl'
   simp only[Yrs]at hl' h
   subst hl' h
   simp only[Yje]at hpo
   obtain⟨j,hj⟩:=Option.isSome_iff_exists.1 hpo
   simp[Op.equalIn,run_underlying ht,sizeOf,typeInfo,hj,run_sameAddr_same]
  ·cases h
 case h_2.int=>
  split at h
  ·rename_i e;subst e;subst hX hY;simp only[Yrs]at h;subst h;simp[Op.equalIn,run_underlying ht]
  ·cases h
 case h_3.string=>
  subst hX hY;simp only[Yrs]at h;subst h
  rw[run_equalIn_string w D t _ _ ht,Zji,Zji]
 case h_22.interface=>
  split at h
  ·subst hX hY;simp only[Yrs]at h;subst h;simp[Op.equalIn,run_underlying ht]
  ·cases h
 all_goals (simp only[Yrs]at h;subst h)
 all_goals first
  |(subst hX;subst hY;simp[Op.equalIn,run_underlying ht];done)
  |(subst hX;obtain⟨_,_,rfl⟩:=hY;simp[Op.equalIn,run_underlying ht];done)
  |(subst hY;obtain⟨_,_,rfl⟩:=hX;simp[Op.equalIn,run_underlying ht];done)
  |(subst hX;obtain⟨_,_,_,rfl,_⟩:=hY;simp[Op.equalIn,run_underlying ht];done)
  |(subst hY;obtain⟨_,_,_,rfl,_⟩:=hX;simp[Op.equalIn,run_underlying ht];done)
  |(subst hX;obtain⟨_,_,rfl,_⟩:=hY;simp[Op.equalIn,run_underlying ht];done)
  |(subst hY;obtain⟨_,_,rfl,_⟩:=hX;simp[Op.equalIn,run_underlying ht];done)
  |(subst hX;obtain⟨_,rfl,_⟩:=hY;simp[Op.equalIn,run_underlying ht];done)
  |(subst hY;obtain⟨_,rfl,_⟩:=hX;simp[Op.equalIn,run_underlying ht];done)
def Zue{d:Nat}(ih:∀{ng:Bool} {t:TypeId} {q:EqT},eqP P d t=some q→∀{x y:V} {b:Bool},eqV ng q x y=some b→∀{X Y:Value},VR μ x X→VR μ y Y→∀D,d≤D→(Op.equalIn D t X Y).run P w=.ok b w)
  {xs ys:List V} {XS YS:List Value} (hX:VRs μ xs XS) (hY:VRs μ ys YS) (D:Nat) (hD:d≤D):
  ∀{fs:List Field} {l:List (Nat×Option Nat×EqT)},Ylw P (eqP P d) fs=some l→∀{b:Bool},Znd l xs ys=some b→(Op.eqFields D ⟨XS⟩ ⟨YS⟩ fs).run P w=.ok b w:=by
 intro fs
 induction fs with
 |nil=>
  intro l hl b h
  simp only[Ylw,Yrs]at hl;subst hl
  simp only[Znd,Yrs]at h;subst h
  simp[Op.eqFields]
 |cons f fs ihf=>
  intro l hl b h
  simp only[Ylw]at hl
  split at hl
  ·rename_i hn
   simp only[Op.eqFields,hn,ne_eq,not_true_eq_false,if_false]
   exact ihf hl h
  ·rename_i hn
   split at hl
   ·rename_i k q l' hk hq hl'
    simp only[Yrs]at hl;subst hl
    simp only[Znd]at h
    split at h
    ·rename_i x y hx hy
     obtain⟨X,h1,h2⟩:=Zlw (P:=P) (w:=w) hX hk hx
     obtain⟨Y,h3,h4⟩:=Zlw (P:=P) (w:=w) hY hk hy
     split at h
     ·rename_i he
      have e:=ih hq he h2 h4 D hD
      simp only[Op.eqFields,ne_eq,hn,not_false_eq_true,if_true,Sem.run_bind,h1,h3,e,Result.andThen,Bool.not_true,Yr3,if_false]
      exact ihf hl' h
     ·rename_i he
      simp only[Yrs]at h;subst h
      have e:=ih hq he h2 h4 D hD
      simp[Op.eqFields,hn,h1,h3,e,Result.andThen]
     ·cases h
    ·cases h
   ·cases hl
def Ykv:∀(d:Nat) {ng:Bool} {t:TypeId} {q:EqT},eqP P d t=some q→∀{x y:V} {b:Bool},eqV ng q x y=some b→∀{X Y:Value},VR μ x X→VR μ y Y→∀D,d≤D→(Op.equalIn D t X Y).run P w=.ok b w:=by
 intro d
 induction d with
 |zero=>intro ng t q hq;simp[eqP]at hq
 |succ d ih=>
  intro ng t q hq x y b h X Y hX hY D hD
  obtain⟨D,rfl⟩:∃D',D=D'+1:=⟨D-1,by omega⟩
  simp only[eqP]at hq
  split at hq
  ·rename_i fs ht
   split at hq
   ·cases hq
   ·rename_i hst
    split at hq
    ·rename_i l hl
     simp only[Yrs]at hq;subst hq
     cases x<;>cases y<;>simp only[eqV,reduceCtorEq]at h
     obtain⟨xs,rfl,hxs⟩:=hX
     obtain⟨ys,rfl,hys⟩:=hY
     have hf:P.fieldsOf t=fs:=by simp[Program.fieldsOf,ht]
     rw[run_equalIn_struct w D t _ _ (by rw[hf];exact ht) (by simpa using hst),hf]
     exact Zue ih hxs hys D (by omega) hl h
    ·cases hq
  ·rename_i dd hns ht
   split at hq
   ·rename_i k hk
    split at hq
    ·rename_i hpo
     simp only[Yrs]at hq;subst hq
     simp only[eqV]at h
     exact Zyx ht hpo hk h hX hY
    ·cases hq
   ·cases hq
  ·cases hq
def Ze4{op:BinOp}{t:TypeId}{x y:Operand}{X Y:Value}(h1:X=.nilIface→Y=.nilIface→Zit x=true∨Zit y=true)
  (h2:∀a b,X=.agg a→Y=.agg b→P.eqGuardType P.depth t=false):(eqGuard op t x y X Y).run P w=.ok () w:=by
 by_cases hn:X=.nilIface∧Y=.nilIface
 ·obtain⟨rfl,rfl⟩:=hn
  have h:=h1 rfl rfl
  cases op<;>cases x<;>cases y<;>simp_all [eqGuard,Zit]
 ·by_cases ha:(∃a,X=.agg a)∧∃b,Y=.agg b
  ·obtain⟨⟨a,rfl⟩,b,rfl⟩:=ha
   have h:=h2 a b rfl rfl
   cases op<;>simp[eqGuard,run_program,h]
  ·cases op<;>simp[eqGuard]<;>split<;>simp_all
end
end Go.Mx
