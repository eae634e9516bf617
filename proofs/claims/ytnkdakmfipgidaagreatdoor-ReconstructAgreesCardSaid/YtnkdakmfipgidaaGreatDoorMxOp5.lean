/-The operations of M stand for the Go mod-/
import Derived.Test.YtnkdakmfipgidaaGreatDoorMxOp2
set_option linter.all false
namespace Go.Mx
open Go
set_option maxHeartbeats 1000000
section
variable {P:Program} {μ:Mu} {w:World} {st aA:St} {r:T V} {n:Nat} {a:Act} {call:cM} {v:V}
def JM(μ:Mu):Option V->Option Value->Prop
 |none,none=>True
 |some v,some x=>VR μ v x
 |_,_=>False
def uW(hh:bn P μ w st)(hr:RR μ r n a.tmps){x:Option Operand}{s:Option Src}(hc:vG P x=some s){v:Option V}(hv:aB r s=some v):JM μ v (x.map a.eval):=by
 rcases Yhn hh hr hc hv with⟨rfl,rfl⟩|⟨v',x',rfl,rfl,h⟩
 ·trivial
 exact h
def JM.isNone{v:Option V}{x:Option Value}(h:JM μ v x):x.isNone=v.isNone:=by cases v<;>cases x<;>simp_all [JM]
def Pm{u:V}{X:Value}{y m k:Nat}{code:BoundsCode}(hu:VR μ u X)(h:mP u y=some m)(hk:y<=k):(Instr.sliceBound X k code).run P w=.ok m w/\m<=y:=by
 unfold mP at h;split at h
 ·rename_i q z;split at h
  ·rename_i hz;simp only[aq]at h;subst h;simp only[VR]at hu;subst hu;have h2:z<=(k:Int):=by omega
   exact⟨by simp[Instr.sliceBound,asIntOf,hz.1,h2],by omega⟩
  cases h
 cases h
def JN{isS:Bool}{len y k:Nat}{lo hi mx:Option V}{LO HI MX:Option Value}(gT:JM μ lo LO)(iS:JM μ hi HI)(dh:JM μ mx MX)(hy:y<=k){m h l:Nat}
  (hm:(mx=none/\m=k)\/(dP mx y 0=some m/\mx.isSome=true/\hi.isSome=true)) (hh:dP hi (if mx=none then y else m) len=some h) (hl:dP lo h 0=some l):
  (Instr.sliceBounds isS len k LO HI MX).run P w=.ok (l,h,m) w:=by
 cases mx with
 |none=>
  cases MX with
  |some _=>exact dh.elim
  |none=>
   have CV:m=k:=by
    rcases hm with⟨_,e⟩|⟨_,e,_⟩
    ·exact e
    simp at e
   subst CV;simp only[if_true]at hh;have B3:∀LO',LO=some LO'->∀code,(Instr.sliceBound LO' h code).run P w=.ok l w:=fun X e code=>by
    subst e;cases lo with
    |none=>exact gT.elim
    |some u=>exact(Pm gT hl (aO _)).1
   have cH:LO=none->l=0:=fun e=>by
    subst e;cases lo with
    |none=>simpa[dP]using hl.symm
    |some u=>exact gT.elim
   have Pn:∀HI',HI=some HI'->∀code,(Instr.sliceBound HI' m code).run P w=.ok h w:=fun X e code=>by
    subst e;cases hi with
    |none=>exact iS.elim
    |some u=>exact(Pm iS hh hy).1
   have hh0:HI=none->h=len:=fun e=>by
    subst e;cases hi with
    |none=>simpa[dP]using hh.symm
    |some u=>exact iS.elim
   cases HI with
   |none=>
    have:=hh0 rfl;subst this;cases LO with
    |none=>have:=cH rfl;subst this;simp[Instr.sliceBounds]
    |some X=>simp[Instr.sliceBounds,B3 X rfl,Result.andThen]
   |some Y=>
    cases LO with
    |none=>have:=cH rfl;subst this;simp[Instr.sliceBounds,Pn Y rfl,Result.andThen]
    |some X=>simp[Instr.sliceBounds,B3 X rfl,Pn Y rfl,Result.andThen]
 |some um=>
  cases MX with
  |none=>exact dh.elim
  |some Z=>
   obtain⟨hm,iY⟩:dP (some um) y 0=some m/\hi.isSome=true:=by
    rcases hm with⟨e,_⟩|⟨e,_,e'⟩
    ·simp at e
    exact⟨e,e'⟩
   have hz:∀code,(Instr.sliceBound Z k code).run P w=.ok m w:=fun code=>(Pm dh hm hy).1;simp only[reduceCtorEq,if_false]at hh;cases hi with
   |none=>simp at iY
   |some u=>
    cases HI with
    |none=>exact iS.elim
    |some Y=>
     have xh:∀code,(Instr.sliceBound Y m code).run P w=.ok h w:=fun code=>(Pm iS hh (aO _)).1;cases lo with
     |none=>
      cases LO with
      |some _=>exact gT.elim
      |none=> simp only[dP,aq]at hl;subst hl;simp[Instr.sliceBounds,hz,xh,Result.andThen]
     |some ul=>
      cases LO with
      |none=>exact gT.elim
      |some X=> have mq:∀code,(Instr.sliceBound X h code).run P w=.ok l w:=fun code=>(Pm gT hl (aO _)).1;simp[Instr.sliceBounds,hz,xh,mq,Result.andThen]
def xx{u:Option V}{y d m:Nat}(h:dP u y d=some m):m<=y\/(u=none/\m=d):=by
 cases u with
 |none=>simp only[dP,aq]at h;exact .inr ⟨rfl,h.symm⟩
 |some u=>
  simp only[dP,mP]at h;split at h
  ·split at h
   ·simp only[aq]at h;left;omega
   cases h
  cases h
def Zwa(hh:bn P μ w st)(hr:RR μ r n a.tmps){t:TypeId}{x:Operand}{lo hi:Option Operand}{s:Src}{ls hs:Option Src}(ht:P.underlying t=some .string)(hx:bE P x=some s)
  (gT:vG P lo=some ls) (iS:vG P hi=some hs) (h:Al s ls hs call r st=some (v,aA)):
  a_ P μ w st (do pure (.value (<-Instr.sliceAt t (a.eval x) (lo.map a.eval) (hi.map a.eval) none))) v aA:=by
 unfold Al at h;split at h
 ·rename_i l vl vh h1 h2 h3;have e1:=di hh hr hx h1;simp only[VR]at e1;have e2:=uW hh hr gT h2;have e3:=uW hh hr iS h3;split at h
  ·rename_i hb rE;split at h
   ·rename_i lb nK;simp only[aq,bB]at h;obtain⟨rfl,rfl⟩:=h;have mL:(⟨l.toArray⟩:ByteArray).size=l.length:=by show l.toArray.size=_;simp
    have bP:=JN (P:=P) (w:=w) (isS:=false) (len:=l.length) (y:=l.length) (k:=l.length) (mx:=none) (MX:=none) (m:=l.length) e2 e3 trivial (aO _) (.inl ⟨rfl,rfl⟩) (by simpa using rE) nK;refine a_.value hh (x:=.string ((⟨l.toArray⟩:ByteArray).extract lb hb)) ?_ ?_
    ·simp[Instr.sliceAt,Instr.slice,run_underlying ht,e1,mL,bP,Result.andThen]
    simp only[VR];congr 1;apply ByteArray.ext;rw[ByteArray.data_extract];apply Array.ext';simp[List.extract,List.drop_take]
   cases h
  cases h
 cases h
def Mo{t e:TypeId}{z:Nat}(ht:P.underlying t=some (.slice e))(hz:fz P e=some z){A:Option Addr}{len c l h m:Nat}{LO HI MX:Option Value}
  (hb:(Instr.sliceBounds true len c LO HI MX).run P w=.ok (l,h,m) w):
  (Instr.sliceAt t (.slice A len c) LO HI MX).run P w=.ok (.slice (if m=l then A else A.map (·.add (l*z))) (h-l) (m-l)) w:=by simp[Instr.sliceAt,Instr.slice,run_underlying ht,hb,zA hz,Result.andThen]
def Ya8(hh:bn P μ w st)(hr:RR μ r n a.tmps){t e:TypeId}{z:Nat}{x:Operand}{lo hi mx:Option Operand}{s:Src}{ls hs ms:Option Src}(ht:P.underlying t=some (.slice e))(hz:fz P e=some z)
  (hx:bE P x=some s) (gT:vG P lo=some ls) (iS:vG P hi=some hs) (dh:vG P mx=some ms) (h:qV z s ls hs ms call r st=some (v,aA)):
  a_ P μ w st (do pure (.value (<-Instr.sliceAt t (a.eval x) (lo.map a.eval) (hi.map a.eval) (mx.map a.eval)))) v aA:=by
 unfold qV at h;split at h
 ·-- nil
  rename_i vl vh vm h1 h2 h3 h4;have e1:=di hh hr hx h1;simp only[VR]at e1;have e2:=uW hh hr gT h2;have e3:=uW hh hr iS h3;have e4:=uW hh hr dh h4;split at h
  ·rename_i m hm;split at h
   ·rename_i hb rE;split at h
    ·rename_i lb nK;split at h
     ·cases h
     rename_i oe;simp only[aq,bB]at h;obtain⟨rfl,rfl⟩:=h;have jD:m=0:=by rcases xx hm with h|h<;>omega
     have ki:hb=0:=by rcases xx rE with h|h<;>omega
     have cH:lb=0:=by rcases xx nK with h|h<;>omega
     subst jD ki cH;have bP:=JN (P:=P) (w:=w) (isS:=true) (len:=0) (y:=0) (k:=0) e2 e3 e4 (aO _) (m:=0) (h:=0) (l:=0)
      (by cases vm with
       |none=>exact .inl ⟨rfl,rfl⟩
       |some u=>cases vh with
        |none=>simp at oe
        |some u'=>exact .inr ⟨hm,rfl,rfl⟩)
      (by cases vm<;>simpa using rE) nK;refine a_.value hh (x:=.slice none 0 0) ?_ (by simp[VR]);rw[e1,Mo ht hz bP];simp
    cases h
   cases h
  cases h
 ·-- not nil,empty
  rename_i vl vh h1 h2 h3 h4;have e1:=di hh hr hx h1;obtain⟨A,c,e1⟩:=e1;have e2:=uW hh hr gT h2;have e3:=uW hh hr iS h3;have e4:=uW hh hr dh h4;split at h
  ·rename_i hb rE;split at h
   ·rename_i lb nK;simp only[aq,bB]at h;obtain⟨rfl,rfl⟩:=h;have ki:hb=0:=by rcases xx rE with h|h<;>omega
    have cH:lb=0:=by rcases xx nK with h|h<;>omega
    subst ki cH;have bP:=JN (P:=P) (w:=w) (isS:=true) (len:=0) (y:=0) (k:=c) e2 e3 e4 (wh _) (m:=c) (h:=0) (l:=0) (.inl ⟨rfl,rfl⟩) (by simpa using rE) nK;refine a_.value hh (x:=.slice (some (if c=0 then A else A.add (0*z))) 0 (c-0)) ?_ ⟨_,_,rfl⟩;rw[e1,Mo ht hz bP];split<;>simp
   cases h
  cases h
 ·-- the capacity is known
  rename_i i o len c sz vl vh vm h1 h2 h3 h4;obtain⟨l,c',hl,e1,hlen,BY,hc,_⟩:=di hh hr hx h1;have:=hc c rfl;subst this;have e2:=uW hh hr gT h2;have e3:=uW hh hr iS h3;have e4:=uW hh hr dh h4;split at h
  ·cases h
  rename_i oe;simp only[not_or,Decidable.not_not,Bool.not_eq_true]at oe;obtain⟨rfl,oe⟩:=oe;split at h
  ·rename_i m hm;split at h
   ·rename_i hb rE;split at h
    ·rename_i lb nK;simp only[aq,bB]at h;obtain⟨rfl,rfl⟩:=h;have hmc:m<=c':=by rcases xx hm with h|h<;>omega
     have bP:=JN (P:=P) (w:=w) (isS:=true) (len:=len) (y:=c') (k:=c') e2 e3 e4 (aO _) (m:=m) (h:=hb) (l:=lb)
      (by cases vm with
       |none=>simp only[dP,aq]at hm;exact .inl ⟨rfl,hm.symm⟩
       |some u=>cases vh with
        |none=>simp at oe
        |some u'=>exact .inr ⟨hm,rfl,rfl⟩)
      (by cases vm with
       |none=>simp only[dP,aq]at hm;subst hm;simpa using rE
       |some u=>simpa using rE) nK;have hhm:hb<=m:=by
      rcases xx rE with h|⟨h,h'⟩
      ·exact h
      subst h;cases vm with
      |none=>simp only[dP,aq]at hm;omega
      |some u=>simp at oe
     have Pg:lb<=hb:=by rcases xx nK with h|h<;>omega
     have k1:m*sz<=c'*sz:=nf _ hmc;have k2:(m-lb)*sz=m*sz-lb*sz:=Nat.sub_mul _ _ _;have k3:lb*sz<=m*sz:=nf _ (by omega);refine a_.value hh (x:=.slice (some ⟨l.b,l.d+(if m=lb then o else o+lb*sz),none⟩) (hb-lb) (m-lb)) ?_ ⟨l,m-lb,hl,rfl,by omega,?_,fun k hk=>by simpa using hk,by simp⟩
     ·rw[e1,Mo ht hz bP];split<;>simp[yD,qe]
     split
     ·rename_i e;subst e;simp;omega
     omega
    cases h
   cases h
  cases h
 ·-- the capacity is not known
  rename_i i o len sz vl vh vm h1 h2 h3 h4;obtain⟨l,cw,hl,e1,hlen,BY,_,htn⟩:=di hh hr hx h1;have htn:=htn rfl;have e2:=uW hh hr gT h2;have e3:=uW hh hr iS h3;have e4:=uW hh hr dh h4;split at h
  ·cases h
  rename_i oe;simp only[not_or,Decidable.not_not,Bool.not_eq_true]at oe;obtain⟨rfl,pn,oe⟩:=oe;split at h
  ·rename_i cs _ _ az;obtain⟨c'',_,_,_,_,cX,_⟩:=hh.row hl az;have rF:max len ((cs.length-o)/sz)<=cw:=by
    have:(cs.length-o)/sz<=cw:=by rw[Nat.div_le_iff_le_mul_add_pred (by omega)];have:sz*cw=cw*sz:=jO _ _;omega
    omega
   have tW:len<=max len ((cs.length-o)/sz):=by omega
   generalize max len ((cs.length-o)/sz)=y at*;dsimp only at h;split at h
   ·rename_i um;split at h
    ·rename_i m hm;split at h
     ·rename_i hb rE;split at h
      ·rename_i lb nK;simp only[aq,bB]at h;obtain⟨rfl,rfl⟩:=h;cases vh with
       |none=>simp at oe
       |some uh=>
       have hmy:m<=y:=by
        rcases xx (u:=some um) (d:=0) hm with h|h
        ·exact h
        simp at h
       have bP:=JN (P:=P) (w:=w) (isS:=true) (len:=len) (y:=y) (k:=cw) e2 e3 e4 rF (m:=m) (h:=hb) (l:=lb) (.inr ⟨hm,rfl,rfl⟩) (by simpa using rE) nK;have hhm:hb<=m:=by
        rcases xx rE with h|⟨h,h'⟩
        ·exact h
        simp at h
       have Pg:lb<=hb:=by rcases xx nK with h|h<;>omega
       have k1:m*sz<=cw*sz:=nf _ (by omega);have k2:(m-lb)*sz=m*sz-lb*sz:=Nat.sub_mul _ _ _;have k3:lb*sz<=m*sz:=nf _ (by omega);refine a_.value hh (x:=.slice (some ⟨l.b,l.d+(if m=lb then o else o+lb*sz),none⟩) (hb-lb) (m-lb)) ?_ ⟨l,m-lb,hl,rfl,by omega,?_,fun k hk=>by simpa using hk,by simp⟩
       ·rw[e1,Mo ht hz bP];split<;>simp[yD,qe]
       split
       ·rename_i e;subst e;simp;omega
       omega
      cases h
     cases h
    cases h
   split at h
   ·rename_i hb rE;split at h
    ·rename_i lb nK;have bP:=JN (P:=P) (w:=w) (isS:=true) (len:=len) (y:=y) (k:=cw) e2 e3 e4 rF (m:=cw) (h:=hb) (l:=lb) (.inl ⟨rfl,rfl⟩) (by simpa using rE) nK;have hhm:hb<=y:=by rcases xx rE with h|⟨h,h'⟩<;>omega
     have Pg:lb<=hb:=by rcases xx nK with h|h<;>omega
     have k2:(cw-lb)*sz=cw*sz-lb*sz:=Nat.sub_mul _ _ _;have k3:lb*sz<=cw*sz:=nf _ (by omega);split at h
     ·rename_i aC;simp only[aq,bB]at h;obtain⟨rfl,rfl⟩:=h;refine a_.value hh (x:=.slice (some ⟨l.b,l.d+(o+lb*sz),none⟩) (hb-lb) (cw-lb)) ?_ ⟨l,cw-lb,hl,rfl,by omega,by omega,by simp,fun _=>by omega⟩;rw[e1,Mo ht hz bP];rw[ak (by omega)];simp[yD,qe]
     simp only[aq,bB]at h;obtain⟨rfl,rfl⟩:=h;have:hb-lb=0:=by omega
     refine a_.value hh (x:=.slice (some (if cw=lb then ⟨l.b,l.d+o,none⟩ else (⟨l.b,l.d+o,none⟩:Addr).add (lb*sz))) 0 (cw-lb)) ?_ ⟨_,_,rfl⟩;rw[e1,Mo ht hz bP,this];split<;>simp
    cases h
   cases h
  cases h
 cases h
def Zwb(hh:bn P μ w st)(hr:RR μ r n a.tmps){t e:TypeId}{k z:Nat}{x:Operand}{lo hi mx:Option Operand}{s:Src}{ls hs ms:Option Src}(ht:P.underlying t=some (.array k e))(hz:fz P e=some z)
  (hx:bE P x=some s) (gT:vG P lo=some ls) (iS:vG P hi=some hs) (dh:vG P mx=some ms) (h:Bx k z s ls hs ms call r st=some (v,aA)):
  a_ P μ w st (do pure (.value (<-Instr.sliceAt t (a.eval x) (lo.map a.eval) (hi.map a.eval) (mx.map a.eval)))) v aA:=by
 unfold Bx at h;split at h
 ·rename_i i o vl vh h1 h2 h3 h4;obtain⟨l,hl,e1⟩:=di hh hr hx h1;have e2:=uW hh hr gT h2;have e3:=uW hh hr iS h3;have e4:=uW hh hr dh h4;split at h
  ·rename_i hb rE;split at h
   ·rename_i lb nK;split at h
    ·rename_i cs _ _ az;split at h
     ·rename_i c_;simp only[aq,bB]at h;obtain⟨rfl,rfl⟩:=h;obtain⟨c'',_,_,_,_,cX,_⟩:=hh.row hl az;have bP:=JN (P:=P) (w:=w) (isS:=false) (len:=k) (y:=k) (k:=k) e2 e3 e4 (aO _) (m:=k) (h:=hb) (l:=lb) (.inl ⟨rfl,rfl⟩) (by simpa using rE) nK;have hhm:hb<=k:=by rcases xx rE with h|⟨h,h'⟩<;>omega
      have Pg:lb<=hb:=by rcases xx nK with h|h<;>omega
      have k2:(k-lb)*z=k*z-lb*z:=Nat.sub_mul _ _ _;have k3:lb*z<=k*z:=nf _ (by omega);have Pd:=c_.1;refine a_.value hh (x:=.slice (some ⟨l.b,l.d+(if k=lb then o else o+lb*z),none⟩) (hb-lb) (k-lb)) ?_ ⟨l,k-lb,hl,rfl,by omega,?_,fun k hk=>by simpa using hk,by simp⟩
      ·simp only[Instr.sliceAt,Sem.run_bind,run_underlying ht,Result.andThen,Instr.sureAddr,e1,Sem.run_pure,bP,zA hz];split<;>simp[yD,qe]
      split
      ·rename_i e;subst e;simp;omega
      omega
     cases h
    cases h
   cases h
  cases h
 cases h
end
section
variable {P:Program} {μ:Mu} {w:World} {st aA:St} {r:T V} {n:Nat} {a:Act} {call:cM} {v:V}
def Uf{α:Type}{c vs:List α}{o:Nat}(h:o+vs.length<=c.length):(ag c o vs).length=c.length:=by simp[ag];omega
def Mm{α:Type}{c vs:List α}{o:Nat}(h:o+vs.length<=c.length)(j:Nat):(ag c o vs)[j]?=if o<=j/\j<o+vs.length then vs[j-o]? else c[j]?:=by
 have aC:(c.take o).length=o:=by simp;omega
 unfold ag;rw[uG];by_cases h1:j<o
 ·rw[mj (by omega),ak (by omega),jL,ar h1]
 rw[pY (by omega),aC];by_cases h2:j<o+vs.length
 ·rw[mj (by omega),ar ⟨by omega,h2⟩]
 rw[pY (by omega),ak (by omega),fF];congr 1;omega
def aU.ag{c vs:List V}{c' nb:List Value}(h:aU μ c c')(h':aU μ vs nb)(o:Nat):aU μ (ag c o vs) (ag c' o nb):=by unfold Mx.ag;rw[h'.length];exact((h.take o).append h').append (h.drop _)
def Zom{α:Type}(c:List α)(o:Nat)(x:α)(vs:List α)(h:o<c.length):Mx.ag (c.set o x) (o+1) vs=Mx.ag c o (x::vs):=by
 unfold Mx.ag;have e1:(c.set o x).take (o+1)=c.take o++[x]:=by rw[DQ,List.take_set_of_le (aO _)];simp[h]
 have e2:(c.set o x).drop (o+1+vs.length)=c.drop (o+(vs.length+1)):=by rw[List.drop_set_of_lt (by omega)];congr 1;omega
 rw[e1,e2];simp
def Yl8(off:Nat):∀(vs:List Value) (k:Nat) (cs:List Value),off+k+vs.length<=cs.length->
  (vs.zipIdx k).foldl (fun (cs:Array Value) (p:Value×Nat)=>cs.setIfInBounds (off+p.2) p.1) ⟨cs⟩=⟨ag cs (off+k) vs⟩:=by
 intro vs;induction vs with
 |nil=>intro k cs h;simp[ag]
 |cons x vs ih=>
  intro k cs h;simp only[bk]at h;simp only[List.zipIdx_cons,List.foldl_cons];have e:(⟨cs⟩:Array Value).setIfInBounds (off+k) x=⟨cs.set (off+k) x⟩:=by apply Array.ext';simp
  rw[e,ih (k+1) (cs.set (off+k) x) (by simp;omega),<-qe,Zom _ _ _ _ (by omega)]
def Zsv(hh:bn P μ w st)(hr:RR μ r n a.tmps){place:Nat->Option (Nat×Nat)}:∀{parts:List (Nat×Operand)} {vP:List (Nat×Nat×Src)},C0 P place parts=some vP->
  ∀{ps:List (Nat×Nat×V)},C6 r vP=some ps->∀{cs:List V} {G8:List Value},aU μ cs G8->∀{l:List V},C5 cs ps=some l->
  ∃l',Instr.fill place ⟨G8⟩ (parts.map fun p=>(p.1,a.eval p.2))=some ⟨l'⟩/\aU μ l l':=by
 intro parts;induction parts with
 |nil=> intro vP hc ps he cs G8 jI l hl;simp only[C0,aq]at hc;subst hc;simp only[C6,aq]at he;subst he;simp only[C5,aq]at hl;subst hl;exact⟨G8,by simp[Instr.fill],jI⟩
 |cons p parts ih=>
  intro vP hc ps he cs G8 jI l hl;obtain⟨i,x⟩:=p;simp only[C0]at hc;split at hc
  ·rename_i o s sx l' hp hx iR;simp only[aq]at hc;subst hc;simp only[C6]at he;split at he
   ·rename_i u vs hu IU;simp only[aq]at he;subst he;simp only[C5]at hl;split at hl
    ·rename_i c_;have Uj:=di hh hr hx hu;have iT:=Uj.cells;have hlen:(a.eval x).cells.size=s:=by have:=iT.length;rw[<-c_.1,<-this];simp
     have fJ:(a.eval x).cells.toList.length=s:=by simpa using hlen
     obtain⟨l'',h1,h2⟩:=ih iR IU (jI.ag iT o) hl;refine⟨l'',?_,h2⟩;simp only[nI,Instr.fill,hp];rw[ak]
     ·have e:((a.eval x).cells.zipIdx.foldl (fun (cs:Array Value) (p:Value×Nat)=>cs.setIfInBounds (o+p.2) p.1) ⟨G8⟩)=⟨ag G8 o (a.eval x).cells.toList⟩:=by rw[<-Array.foldl_toList,Array.toList_zipIdx];have:=Yl8 o (a.eval x).cells.toList 0 G8 (by rw[fJ,jI.length];omega);simpa using this
      rw[<-h1];congr 1
     have cX:=jI.length;simp only[hlen,ne_eq,not_true_eq_false,decide_false,Bool.false_or,decide_eq_true_eq];simp[cX];omega
    cases hl
   cases he
  cases hc
def Ybk:∀{fs:List Field} {pl:List (Nat×Nat)},Lz P fs=some pl->fs.mapM (fun f=>(P.info? f.type).map fun i=>(f.offset,i.size))=some pl:=by
 intro fs;induction fs with
 |nil=>intro pl h;simp only[Lz,aq]at h;subst h;simp
 |cons f fs ih=>
  intro pl h;simp only[Lz]at h;split at h
  ·rename_i s l hs hl;simp only[aq]at h;subst h;unfold fz at hs;simp only[ks]at hs;obtain⟨i,hi,rfl⟩:=hs;simp[List.mapM_cons,hi,ih hl]
  cases h
def JK{t:TypeId}{z:V}(h:su P t=some z):∃i x,P.info? t=some i/\i.zero=some x/\∀μ,VR μ z x:=by
 unfold su at h;split at h
 ·rename_i i hi;split at h
  ·rename_i x hx;exact⟨i,x,hi,hx,fun μ=>Tt μ x z h⟩
  cases h
 cases h
def Zp5(hh:bn P μ w st)(hr:RR μ r n a.tmps){t:TypeId}{fs:Array Field}{pl:List (Nat×Nat)}{z:V}{parts:Array (Nat×Operand)}{vP:List (Nat×Nat×Src)}
  (hz:su P t=some z) (ht:P.underlying t=some (.struct fs)) (hp:Lz P fs.toList=some pl) (hc:C0 P (pl[·]?) parts.toList=some vP) (h:Ey z.cells vP call r st=some (v,aA)):
  a_ P μ w st (do pure (.value (<-Instr.build t (parts.map fun (i,x)=>(i,a.eval x))))) v aA:=by
 unfold Ey at h;split at h
 ·rename_i ps rU;split at h
  ·rename_i l hl;simp only[aq,bB]at h;obtain⟨rfl,rfl⟩:=h;obtain⟨i,x,hi,hx,rA⟩:=JK hz;obtain⟨l',h1,h2⟩:=Zsv hh hr hc rU (rA μ).cells hl;refine a_.value hh (x:=.agg ⟨l'⟩) (run_build w t _ _ ?_) ⟨l',rfl,h2⟩;simp only[Program.built,hi,ht,hx,Ybk hp];rw[<-h1];simp
  cases h
 cases h
def Zql(hh:bn P μ w st)(hr:RR μ r n a.tmps){t e:TypeId}{k s:Nat}{z:V}{parts:Array (Nat×Operand)}{vP:List (Nat×Nat×Src)}
  (hz:su P t=some z) (ht:P.underlying t=some (.array k e)) (hs:fz P e=some s) (hc:C0 P (fun i=>some (i*s,s)) parts.toList=some vP) (h:Ey z.cells vP call r st=some (v,aA)):
  a_ P μ w st (do pure (.value (<-Instr.build t (parts.map fun (i,x)=>(i,a.eval x))))) v aA:=by
 unfold Ey at h;split at h
 ·rename_i ps rU;split at h
  ·rename_i l hl;simp only[aq,bB]at h;obtain⟨rfl,rfl⟩:=h;obtain⟨i,x,hi,hx,rA⟩:=JK hz;unfold fz at hs;simp only[ks]at hs;obtain⟨ie,hie,rfl⟩:=hs;obtain⟨l',h1,h2⟩:=Zsv hh hr hc rU (rA μ).cells hl;refine a_.value hh (x:=.agg ⟨l'⟩) (run_build w t _ _ ?_) ⟨l',rfl,h2⟩;simp only[Program.built,hi,ht,hx,hie];rw[<-h1];simp
  cases h
 cases h
def Po{vs:List V}{xs:List Value}(h:aU μ vs xs)(hv:vs.all V.one=true):∀x∈xs,x.oneCell'=true:=by
 intro x hx;obtain⟨j,hj⟩:=nw hx;have hl:=h.length;have JG:j<xs.length:=(wj.1 hj).1;have:∃u,vs[j]?=some u:=⟨vs[j]'(by omega),by simp⟩;obtain⟨u,hu⟩:=this;obtain⟨y,h1,h2⟩:=h.get hu;rw[hj]at h1;cases h1;have zp:u.one=true:=by rw[jY]at hv;exact hv u (cF hu)
 have:=h2.one zp;cases x<;>simp_all [Value.oneCell']
def a_.newRow(hh:bn P μ w st){s:Sem Value}{x:Value}{cs:List V}{xs:List Value}{e:TypeId}(hs:s.run P w=.ok x (w.alloc (.cells ⟨xs⟩ e)))
  (hc:aU μ cs xs) (h1:∀x∈xs,x.oneCell'=true) (hv:VR (fun i=>if i=st.n then some ⟨w.heap.size,0,xs.length⟩ else μ i) v x):
  a_ P μ w st (do pure (.value (<-s))) v (st.alloc (.cells cs e true)):=by
 have dN:∀i l,μ i=some l->(fun i=>if i=st.n then some (⟨w.heap.size,0,xs.length⟩:L) else μ i) i=some l:=fun i l hl=>by have:=(hh.dt i l hl).1;simp only;rw[ak (by omega)];exact hl
 refine⟨Next.value x,x,_,_,[],by simp[hs,Result.andThen],.inl rfl,hv,bI.alloc hh (.cells cs e true) (.cells ⟨xs⟩ e) 0 xs.length ⟨⟨xs⟩,0,0,?_,by simp,by simp[hc.length],fun j u hu=>?_,fun j y _ hy=>?_,fun _=>⟨rfl,fun j hj=>by omega⟩⟩⟩
 ·simp
 ·obtain⟨y,hy,hr⟩:=hc.get hu;exact⟨y,by simpa using hy,VR.mono dN u y hr⟩
 exact h1 y (cF (by simpa using hy))
def Yne(hh:bn P μ w st){e:TypeId}{z:V}(hz:su P e=some z)(cO:z.cells.all V.one=true)(h:LL z.cells e call r st=some (v,aA)):
  a_ P μ w st (do pure (.value (<-Instr.alloc e true (.tuple #[])))) v aA:=by unfold LL at h;simp only[aq,bB]at h;obtain⟨rfl,rfl⟩:=h;obtain⟨i,x,hi,hx,rA⟩:=JK hz;refine a_.newRow hh (v:=.ptr st.n 0) (xs:=x.cells.toList) (x:=.pointer (some ⟨w.heap.size,0,none⟩)) ?_ (rA μ).cells (Po (rA μ).cells cO) (by simp only[VR];exact⟨⟨w.heap.size,0,x.cells.toList.length⟩,by simp,by simp⟩);simp[Instr.alloc,zeroValue,typeInfo,hi,hx,newVar,Go.newRow,Result.andThen]
def Ywu(hh:bn P μ w st)(hr:RR μ r n a.tmps){e:TypeId}{x:Operand}{s:Src}(hx:bE P x=some s)(h:I9 e s call r st=some (v,aA)):
  a_ P μ w st (do pure (.value (<-Instr.box e (a.eval x)))) v aA:=by
 unfold I9 at h;split at h
 ·rename_i u hu;split at h
  ·rename_i cO;simp only[aq,bB]at h;obtain⟨rfl,rfl⟩:=h;have Uj:=di hh hr hx hu;refine a_.newRow hh (v:=.ptr st.n 0) (xs:=(a.eval x).cells.toList) (x:=.pointer (some ⟨w.heap.size,0,none⟩)) ?_ Uj.cells (Po Uj.cells cO) (by simp only[VR];exact⟨⟨w.heap.size,0,_⟩,by simp;rfl,by simp⟩);simp[Instr.box,newVar,Go.newRow,Result.andThen]
  cases h
 cases h
end
section
variable {P:Program} {μ:Mu} {w:World} {st aA:St} {r:T V} {n:Nat} {a:Act} {call:cM} {v:V}
def Zoc(zs:List V)(k:Nat):(dm zs k).length=k*zs.length:=by simp[dm]
def Ud{zs:List V}{xs:List Value}(h:aU μ zs xs)(k:Nat):aU μ (dm zs k) (madeCells ⟨xs⟩ (k*zs.length)).toList:=by
 have hl:=h.length;refine aU.sG (by simp[dm,madeCells]) fun j u hu=>?_;have hj:j<k*zs.length:=by have:=(wj.1 hu).1;simpa[dm]using this
 have hz:0<zs.length:=by
  rcases El zs.length with e|e
  ·rw[e]at hj;simp at hj
  exact e
 have EY:j%zs.length<zs.length:=mO _ hz;simp only[dm,eG,AK hj,qc,aq]at hu;obtain⟨y,h1,h2⟩:=h.get (i:=j%zs.length) (v:=zs[j%zs.length]) (by simp[EY]);refine⟨y,?_,?_⟩
 ·simp only[madeCells,Array.toList_map,Array.toList_range,eG,AK hj,qc,aq];have h_:(⟨xs⟩:Array Value)[j%xs.length]?=some y:=by rw[hl];simpa using h1
  simp only[Array.size,getElem!_def,h_]
 rw[<-hu];simpa[List.getD,EY]using h2
def Zrq{zs:List V}(h:zs.all V.one=true)(k:Nat):∀{xs:List Value},aU μ (dm zs k) xs->∀x∈xs,x.oneCell'=true:=by
 intro xs hx;refine Po hx ?_;rw[jY];intro u hu;simp only[dm,bF,gm]at hu;obtain⟨j,hj,rfl⟩:=hu;have hz:0<zs.length:=by
  rcases El zs.length with e|e
  ·rw[e]at hj;simp at hj
  exact e
 have EY:j%zs.length<zs.length:=mO _ hz;rw[jY]at h;simpa[List.getD,EY]using h zs[j%zs.length] (by simp)
def Yir(hh:bn P μ w st)(hr:RR μ r n a.tmps){t e:TypeId}{s len:Nat}{z:V}{parts:Array (Nat×Operand)}{vP:List (Nat×Nat×Src)}
  (ht:P.underlying t=some (.slice e)) (hs:fz P e=some s) (hz:su P e=some z) (hle:¬len*s > 2^24) (O8:z.cells.length=s)
  (hc:C0 P (fun i=>some (i*s,s)) parts.toList=some vP) (h:Ja e s len (dm z.cells len) vP call r st=some (v,aA)):
  a_ P μ w st (do pure (.value (<-Instr.buildSlice t len (parts.map fun (i,x)=>(i,a.eval x))))) v aA:=by
 unfold Ja at h;split at h
 ·rename_i ps rU;split at h
  ·rename_i l hl;split at h
   ·rename_i cO;simp only[aq,bB]at h;obtain⟨rfl,rfl⟩:=h;obtain⟨i,x,hi,hx,rA⟩:=JK hz;have B4:=(rA μ).cells;have pH:=Ud B4 len;rw[O8]at pH;obtain⟨l',h1,h2⟩:=Zsv hh hr hc rU pH hl;have nW:=h2.length;refine a_.newRow hh (v:=.slice st.n 0 len (some len) s) (xs:=l') (x:=.slice (some ⟨w.heap.size,0,none⟩) len len) ?_ h2 (Po h2 cO) ?_
    ·have h_:Instr.fill (fun i=>some (i*s,s)) (madeCells x.cells (len*s)) (parts.map fun p=>(p.1,a.eval p.2)).toList=some ⟨l'⟩:=by rw[<-h1];simp
     simp only[Instr.buildSlice,Sem.run_bind,run_underlying ht,Result.andThen,zA hs,ak hle];split
     ·rename_i e0;have iT:((Array.range (len*s)).map ((#[]:Array Value)[·%(#[]:Array Value).size]!))=madeCells x.cells (len*s):=by simp[madeCells,e0]
      simp only[Sem.run_bind,Sem.run_pure,Result.andThen,iT];rw[h_];simp[Go.newRow,Result.andThen]
     have iT:((Array.range (len*s)).map (x.cells[·%x.cells.size]!))=madeCells x.cells (len*s):=rfl;simp only[zeroValue,typeInfo,Sem.run_bind,Sem.run_pure,Result.andThen,hi,hx,run_program];simp only[iT];rw[h_];simp[Go.newRow,Result.andThen]
    have Pp:l.length=len*s:=by
     have:∀(ps:List (Nat×Nat×V)) (cs l:List V),C5 cs ps=some l->l.length=cs.length:=by
      intro ps;induction ps with
      |nil=>intro cs l h;simp only[C5,aq]at h;rw[h]
      |cons p ps ih=>
       intro cs l h;obtain⟨o,s,u⟩:=p;simp only[C5]at h;split at h
       ·rename_i hc;rw[ih _ _ h,Uf (by omega)]
       cases h
     rw[this ps _ l hl,Zoc,O8]
    simp only[VR];exact⟨⟨w.heap.size,0,l'.length⟩,len,by simp,by simp,aO _,by simp[nW,Pp],by simp,by simp⟩
   cases h
  cases h
 cases h
def Yb7(hh:bn P μ w st)(hr:RR μ r n a.tmps){t e:TypeId}{s b:Nat}{z:V}{x y:Operand}{sx sy:Src}(ht:P.underlying t=some (.slice e))(hs:fz P e=some s)(hb:Ej P e=some b)(hz:su P e=some z)
  (cO:z.cells.all V.one=true) (hx:bE P x=some sx) (hy:bE P y=some sy) (h:Ez e s b z.cells sx sy call r st=some (v,aA)):
  a_ P μ w st (do pure (.value (<-Instr.makeSlice t (a.eval x) (a.eval y)))) v aA:=by
 unfold Ez at h;split at h
 ·rename_i k l k' c h1 h2;have e1:=di hh hr hx h1;have e2:=di hh hr hy h2;simp only[VR]at e1 e2;split at h
  ·rename_i hc;obtain⟨cH,Aa,hbc,zby,mL,fP⟩:=hc;simp only[aq,bB]at h;obtain⟨rfl,rfl⟩:=h;obtain⟨i,zx,hi,rA,Uk⟩:=JK hz;unfold fz at hs;unfold Ej at hb;simp only[hi,qc,aq]at hs hb;have B4:=(Uk μ).cells;have pH:=Ud B4 c.toNat;rw[<-mL]at pH;have bP:=run_make (P:=P) w t e i zx ht hi rA k k' l c cH Aa (by rw[hb];omega) (by omega);rw[hs]at bP;refine a_.newRow hh (v:=.slice st.n 0 l.toNat (some c.toNat) s) (xs:=(madeCells zx.cells (c.toNat*s)).toList) (x:=.slice (some ⟨w.heap.size,0,none⟩) l.toNat c.toNat) ?_ pH (Zrq cO c.toNat pH) ?_
   ·rw[e1,e2,bP]
   simp only[VR];exact⟨⟨w.heap.size,0,_⟩,c.toNat,by simp;rfl,by simp,by omega,by simp[madeCells],by simp,by simp⟩
  cases h
 cases h
def a_.newObj(hh:bn P μ w st){s:Sem Value}{x:Value}{o:O}{ob:Obj}(hs:s.run P w=.ok x (w.alloc ob))
  (ho:OM P (fun i=>if i=st.n then some ⟨w.heap.size,0,0⟩ else μ i) (w.alloc ob) o ⟨w.heap.size,0,0⟩) (hv:VR (fun i=>if i=st.n then some ⟨w.heap.size,0,0⟩ else μ i) v x):
  a_ P μ w st (do pure (.value (<-s))) v (st.alloc o):=
 ⟨Next.value x,x,_,_,[],by simp[hs,Result.andThen],.inl rfl,hv,bI.alloc hh o ob 0 0 ho⟩
def Zqb(w:World)(o:Obj):(w.alloc o).heap[w.heap.size]?=some o:=by show (w.heap.push o)[w.heap.size]?=some o;simp
def Ylb(hh:bn P μ w st){t:TypeId}(h:LP call r st=some (v,aA)):a_ P μ w st (do pure (.value (<-Instr.makeMap t none))) v aA:=by
 unfold LP at h;simp only[aq,bB]at h;obtain⟨rfl,rfl⟩:=h;refine a_.newObj hh (v:=.map st.n) (x:=.map (some w.heap.size)) (ob:=.map #[] 0) ?_ ⟨[],by simpa using Zqb w _,rfl⟩ ?_
 ·simp[Instr.makeMap,Result.andThen]
 simp only[VR];exact⟨⟨w.heap.size,0,0⟩,by simp,rfl⟩
def Yvj(hh:bn P μ w st)(hr:RR μ r n a.tmps){t e:TypeId}{d:ChanDir}{b:Nat}{x:Operand}{s:Src}(ht:P.underlying t=some (.chan d e))(hb:Ej P e=some b)(hx:bE P x=some s)
  (h:Gz b s call r st=some (v,aA)):a_ P μ w st (do pure (.value (<-Instr.makeChan t (a.eval x)))) v aA:=by
 unfold Gz at h;split at h
 ·rename_i q k hk;have e1:=di hh hr hx hk;simp only[VR]at e1;split at h
  ·cases h
  rename_i hc;simp only[aq,bB]at h;obtain⟨rfl,rfl⟩:=h;unfold Ej at hb;simp only[ks]at hb;obtain⟨i,hi,rfl⟩:=hb;refine a_.newObj hh (v:=.chan st.n) (x:=.chan (some w.heap.size)) (ob:=.chan k.toNat #[] false 0 0 false) ?_ ⟨[],0,0,by simpa using Zqb w _,by simp[aU]⟩ ?_
  ·simp only[Instr.makeChan,e1,asInt,asIntOf,run_underlying ht,typeInfo,hi,ak hc,Result.andThen,Sem.run_bind,Sem.run_pure,run_program,run_newObj];rfl
  simp only[VR];exact⟨⟨w.heap.size,0,0⟩,by simp,rfl⟩
 cases h
def Zwk(hh:bn P μ w st)(hr:RR μ r n a.tmps){t:TypeId}{x:Operand}{s:Src}(ht:P.underlying t=some .string)(hx:bE P x=some s)
  (h:Jl s call r st=some (v,aA)):a_ P μ w st (do pure (.value (<-Instr.range t (a.eval x)))) v aA:=by
 unfold Jl at h;split at h
 ·rename_i q hk;have e1:=di hh hr hx hk;simp only[VR]at e1;simp only[aq,bB]at h;obtain⟨rfl,rfl⟩:=h;refine a_.newObj hh (v:=.ptr st.n 0) (x:=.pointer (some ⟨w.heap.size,0,none⟩)) (ob:=.stringIter ⟨q.toArray⟩ 0) ?_ (by simp only[OM];exact⟨Zqb w _,trivial⟩) ?_
  ·simp[Instr.range,e1,run_underlying ht,Result.andThen]
  simp only[VR];exact⟨⟨w.heap.size,0,0⟩,by simp,rfl⟩
 cases h
def Zea(g o:Nat)(t:TypeId)(lo hi:Nat):∀(vs:List Value) (i:Nat) (cur:List Value) (w:World),w.heap[g]?=some (.cells ⟨cur⟩ t (lo,hi))->o+i+vs.length<=cur.length->(∀v∈vs,v.oneCell'=true)->
  (∀j,o+i<=j->j<o+i+vs.length->¬(lo<=j/\j<hi))->(storeCells ⟨g,o,none⟩ vs i).run P w=.ok () (w.setRow g ⟨ag cur (o+i) vs⟩)
 |[],i,cur,w,hg,_,_,_=>by
  have e:ag cur (o+i) []=cur:=by simp[ag]
  rw[e,setRow_self w g _ t _ hg]
  simp[storeCells]
 |v::rest,i,cur,w,hg,hl,h1,hf=>by
  simp only[bk]at hl
  have jn:o+i<cur.length:=by omega
  have ic:w.cell? ⟨g,o+i,none⟩=some cur[o+i]:=by simp[World.cell?,hg,jn]
  have zan:w.frozen? ⟨g,o+i,none⟩=false:=by
   have:=hf (o+i) (aO _) (by simp)
   simp only[World.frozen?,hg]
   simp;omega
  have eM:(store ((⟨g,o,none⟩:Addr).add i) v).run P w=.ok () (w.setRow g ⟨cur.set (o+i) v⟩):=by
   rw[yD,run_store P w _ v _ (h1 v (by simp)),ic]
   simp[zan,setCell_eq_setRow w g (o+i) _ t _ v hg]
  have ih:=Zea g o t lo hi rest (i+1) (cur.set (o+i) v) (w.setRow g ⟨cur.set (o+i) v⟩) (setRow_heap w g _ _ t _ hg) (by simp;omega) (fun x hx=>h1 x (by simp[hx]))
   (fun j tP pE=>hf j (by omega) (by simp only[bk];omega))
  simp only[storeCells,Sem.run_bind,eM,Result.andThen_ok,ih,setRow_setRow]
  rw[<-qe,Zom _ _ _ _ jn]
def Uc(hh:bn P μ w st){i o:Nat}{l:L}(hl:μ i=some l){c:List V}{e:TypeId}(az:st.row i=some (c,e,true)){vs:List V}{xs:List Value}(hv:aU μ vs xs)(h1:∀x∈xs,x.oneCell'=true)
  (hlen:o+vs.length<=c.length):
  ∃w',(storeCells ⟨l.b,l.d+o,none⟩ xs).run P w=.ok () w'/\bI P μ w st μ w' (st.write i (.cells (ag c o vs) e true)) [i]:=by
 obtain⟨c',lo,hi,g1,g2,g3,g4,g5,g6⟩:=hh.row hl az;obtain⟨cur⟩:=c';have zo:=hv.length;simp only[List.size_toArray]at g2;have bP:=Zea (P:=P) l.b (l.d+o) e lo hi xs 0 cur w g1 (by omega) h1 (fun j tP pE=>by have:=(g6 rfl).2 (j-l.d) (by omega);rw[show l.d+(j-l.d)=j by omega]at this;exact this);refine⟨_,bP,?_⟩;have hb:=setRow_heap w l.b _ (⟨ag cur (l.d+o+0) xs⟩:Array Value) e _ g1;refine bI.write hh hl (Pe az) rfl rfl rfl rfl (by simp) (fun b hb=>setRow_other w l.b b _ hb) ⟨_,lo,hi,hb,?_,?_,?_,?_,g6⟩
 ·simp only[List.size_toArray];rw[Uf (by omega)];exact g2
 ·rw[Uf hlen];exact g3
 ·intro j u hu;rw[Mm hlen]at hu;have e':∀k:Nat,(⟨ag cur (l.d+o+0) xs⟩:Array Value)[k]?=(ag cur (l.d+o+0) xs)[k]?:=fun k=>by simp
  rw[e',Mm (by omega)];split at hu
  ·rename_i hj;rw[ar (by omega)];obtain⟨y,hy,hr⟩:=hv.get hu;exact⟨y,by rw[show l.d+j-(l.d+o+0)=j-o by omega];exact hy,hr⟩
  rename_i hj;rw[ak (by omega)];obtain⟨y,hy,hr⟩:=g4 j u hu;exact⟨y,by simpa using hy,hr⟩
 intro j x aC hx;have e':(⟨ag cur (l.d+o+0) xs⟩:Array Value)[l.d+j]?=(ag cur (l.d+o+0) xs)[l.d+j]?:=by simp
 rw[e',Mm (by omega)]at hx;split at hx
 ·exact h1 x (cF hx)
 exact g5 j x aC (by simpa using hx)
def Yju(hh:bn P μ w st)(hr:RR μ r n a.tmps){t:TypeId}{k:Nat}{x y:Operand}{sx sy:Src}(hk:fz P t=some k)(hx:bE P x=some sx)(hy:bE P y=some sy)
  (h:Gx k sx sy call r st=some (v,aA)):a_ P μ w st (do Instr.storeAt t (a.eval x) (a.eval y);pure .skip) v aA:=by
 unfold Gx at h;split at h
 ·rename_i i o u h1 h2;obtain⟨l,hl,e1⟩:=di hh hr hx h1;have e2:=di hh hr hy h2;split at h
  ·rename_i c e az;split at h
   ·rename_i hc;simp only[aq,bB]at h;obtain⟨rfl,rfl⟩:=h;have cX:=e2.cells;have hlen:=cX.length;obtain⟨w',hw,hs⟩:=Uc hh hl az cX (Po cX hc.2.2) (o:=o) (by omega);refine⟨.skip,undef,w',μ,[i],?_,.inr ⟨rfl,rfl⟩,⟨[],rfl,by simp[aU]⟩,hs⟩;have mL:(a.eval y).cells.size=k:=by rw[<-hc.1,<-hlen];simp
    simp[Instr.storeAt,Instr.sureAddr,e1,storeVar,zA hk,mL,hw,Result.andThen]
   cases h
  cases h
 cases h
end
end Go.Mx
