/-The operations of M stand for the Go mod-/
import Derived.Test.YtgnadghjglamaaaGreatDoorMxOp1
set_option linter.all false
namespace Go.Mx
open Go
set_option maxHeartbeats 1000000
section
variable {P:Program} {μ:Mu} {w:World} {st aB:St} {r:T V} {n:Nat} {a:Act} {call:cM} {v:V}
def Jx(μ:Mu):Option V->Option Value->Prop
 |none,none=>True
 |some v,some x=>VR μ v x
 |_,_=>False
def th(hh:bk P μ w st)(hr:RR μ r n a.tmps){x:Option Operand}{s:Option Src}(hc:rW P x=some s){v:Option V}(hv:aC r s=some v):Jx μ v (x.map a.eval):=by
 rcases Zru hh hr hc hv with⟨rfl,rfl⟩|⟨v',x',rfl,rfl,h⟩
 ·trivial
 ·exact h
def Jx.isNone{v:Option V}{x:Option Value}(h:Jx μ v x):x.isNone=v.isNone:=by
 cases v<;>cases x<;>simp_all [Jx]
def OZ{u:V}{X:Value}{y m k:Nat}{code:BoundsCode}(hu:VR μ u X)(h:kY u y=some m)(hk:y<=k):(Instr.sliceBound X k code).run P w=.ok m w/\m<=y:=by
 unfold kY at h
 split at h
 ·rename_i q z
  split at h
  ·rename_i hz
   simp only[au]at h;subst h
   simp only[VR]at hu;subst hu
   have h2:z<=(k:Int):=by omega
   exact⟨by simp[Instr.sliceBound,asIntOf,hz.1,h2],by omega⟩
  ·cases h
 ·cases h
def Jy{isS:Bool}{len y k:Nat}{lo hi mx:Option V}{LO HI MX:Option Value}(fZ:Jx μ lo LO)(iZ:Jx μ hi HI)(dP:Jx μ mx MX)(hy:y<=k){m h l:Nat}
  (hm:(mx=none/\m=k)\/(dK mx y 0=some m/\mx.isSome=true/\hi.isSome=true)) (hh:dK hi (if mx=none then y else m) len=some h) (hl:dK lo h 0=some l):
  (Instr.sliceBounds isS len k LO HI MX).run P w=.ok (l,h,m) w:=by
 cases mx with
 |none=>
  cases MX with
  |some _=>exact dP.elim
  |none=>
   have hmk:m=k:=by
    rcases hm with⟨_,e⟩|⟨_,e,_⟩
    ·exact e
    ·simp at e
   subst hmk
   simp only[if_true]at hh
   have zY:∀LO',LO=some LO'->∀code,(Instr.sliceBound LO' h code).run P w=.ok l w:=fun X e code=>by
    subst e
    cases lo with
    |none=>exact fZ.elim
    |some u=>exact(OZ fZ hl (aZ _)).1
   have tD:LO=none->l=0:=fun e=>by
    subst e
    cases lo with
    |none=>simpa[dK]using hl.symm
    |some u=>exact fZ.elim
   have O0:∀HI',HI=some HI'->∀code,(Instr.sliceBound HI' m code).run P w=.ok h w:=fun X e code=>by
    subst e
    cases hi with
    |none=>exact iZ.elim
    |some u=>exact(OZ iZ hh hy).1
   have hh0:HI=none->h=len:=fun e=>by
    subst e
    cases hi with
    |none=>simpa[dK]using hh.symm
    |some u=>exact iZ.elim
   cases HI with
   |none=>
    have:=hh0 rfl;subst this
    cases LO with
    |none=>have:=tD rfl;subst this;simp[Instr.sliceBounds]
    |some X=>simp[Instr.sliceBounds,zY X rfl,Result.andThen]
   |some Y=>
    cases LO with
    |none=>have:=tD rfl;subst this;simp[Instr.sliceBounds,O0 Y rfl,Result.andThen]
    |some X=>simp[Instr.sliceBounds,zY X rfl,O0 Y rfl,Result.andThen]
 |some um=>
  cases MX with
  |none=>exact dP.elim
  |some Z=>
   obtain⟨hm,kQ⟩:dK (some um) y 0=some m/\hi.isSome=true:=by
    rcases hm with⟨e,_⟩|⟨e,_,e'⟩
    ·simp at e
    ·exact⟨e,e'⟩
   have hz:∀code,(Instr.sliceBound Z k code).run P w=.ok m w:=fun code=>(OZ dP hm hy).1
   simp only[reduceCtorEq,if_false]at hh
   cases hi with
   |none=>simp at kQ
   |some u=>
    cases HI with
    |none=>exact iZ.elim
    |some Y=>
     have uU:∀code,(Instr.sliceBound Y m code).run P w=.ok h w:=fun code=>(OZ iZ hh (aZ _)).1
     cases lo with
     |none=>
      cases LO with
      |some _=>exact fZ.elim
      |none=>
       simp only[dK,au]at hl;subst hl
       simp[Instr.sliceBounds,hz,uU,Result.andThen]
     |some ul=>
      cases LO with
      |none=>exact fZ.elim
      |some X=>
       have mI:∀code,(Instr.sliceBound X h code).run P w=.ok l w:=fun code=>(OZ fZ hl (aZ _)).1
       simp[Instr.sliceBounds,hz,uU,mI,Result.andThen]
def vw{u:Option V}{y d m:Nat}(h:dK u y d=some m):m<=y\/(u=none/\m=d):=by
 cases u with
 |none=>simp only[dK,au]at h;exact .inr ⟨rfl,h.symm⟩
 |some u=>
  simp only[dK,kY]at h
  split at h
  ·split at h
   ·simp only[au]at h;left;omega
   ·cases h
  ·cases h
def Zsv(hh:bk P μ w st)(hr:RR μ r n a.tmps){t:TypeId}{x:Operand}{lo hi:Option Operand}{s:Src}{ls hs:Option Src}(ht:P.underlying t=some .string)(hx:bo P x=some s)
  (fZ:rW P lo=some ls) (iZ:rW P hi=some hs) (h:yq s ls hs call r st=some (v,aB)):
  a_ P μ w st (do pure (.value (<-Instr.sliceAt t (a.eval x) (lo.map a.eval) (hi.map a.eval) none))) v aB:=by
 unfold yq at h
 split at h
 ·rename_i l vl vh h1 h2 h3
  have e1:=cO hh hr hx h1
  simp only[VR]at e1
  have e2:=th hh hr fZ h2
  have e3:=th hh hr iZ h3
  split at h
  ·rename_i hb pT
   split at h
   ·rename_i lb pk
    simp only[au,bj]at h
    obtain⟨rfl,rfl⟩:=h
    have jJ:(⟨l.toArray⟩:ByteArray).size=l.length:=by show l.toArray.size=_;simp
    have bL:=Jy (P:=P) (w:=w) (isS:=false) (len:=l.length) (y:=l.length) (k:=l.length) (mx:=none) (MX:=none) (m:=l.length) e2 e3 trivial (aZ _) (.inl ⟨rfl,rfl⟩) (by simpa using pT) pk
    refine a_.value hh (x:=.string ((⟨l.toArray⟩:ByteArray).extract lb hb)) ?_ ?_
    ·simp[Instr.sliceAt,Instr.slice,run_underlying ht,e1,jJ,bL,Result.andThen]
    ·simp only[VR]
     congr 1
     apply ByteArray.ext
     rw[ByteArray.data_extract]
     apply zz
     simp[List.extract,List.drop_take]
   ·cases h
  ·cases h
 ·cases h
def Me{t e:TypeId}{z:Nat}(ht:P.underlying t=some (.slice e))(hz:ff P e=some z){A:Option Addr}{len c l h m:Nat}{LO HI MX:Option Value}
  (hb:(Instr.sliceBounds true len c LO HI MX).run P w=.ok (l,h,m) w):
  (Instr.sliceAt t (.slice A len c) LO HI MX).run P w=.ok (.slice (if m=l then A else A.map (·.add (l*z))) (h-l) (m-l)) w:=by
 simp[Instr.sliceAt,Instr.slice,run_underlying ht,hb,xI hz,Result.andThen]
def Zw0(hh:bk P μ w st)(hr:RR μ r n a.tmps){t e:TypeId}{z:Nat}{x:Operand}{lo hi mx:Option Operand}{s:Src}{ls hs ms:Option Src}(ht:P.underlying t=some (.slice e))(hz:ff P e=some z)
  (hx:bo P x=some s) (fZ:rW P lo=some ls) (iZ:rW P hi=some hs) (dP:rW P mx=some ms) (h:qU z s ls hs ms call r st=some (v,aB)):
  a_ P μ w st (do pure (.value (<-Instr.sliceAt t (a.eval x) (lo.map a.eval) (hi.map a.eval) (mx.map a.eval)))) v aB:=by
 unfold qU at h
 split at h
 ·-- nil
  rename_i vl vh vm h1 h2 h3 h4
  have e1:=cO hh hr hx h1
  simp only[VR]at e1
  have e2:=th hh hr fZ h2
  have e3:=th hh hr iZ h3
  have e4:=th hh hr dP h4
  split at h
  ·rename_i m hm
   split at h
   ·rename_i hb pT
    split at h
    ·rename_i lb pk
     split at h
     ·cases h
     ·rename_i mS
      simp only[au,bj]at h
      obtain⟨rfl,rfl⟩:=h
      have uV:m=0:=by rcases vw hm with h|h<;>omega
      have nO:hb=0:=by rcases vw pT with h|h<;>omega
      have tD:lb=0:=by rcases vw pk with h|h<;>omega
      subst uV nO tD
      have bL:=Jy (P:=P) (w:=w) (isS:=true) (len:=0) (y:=0) (k:=0) e2 e3 e4 (aZ _) (m:=0) (h:=0) (l:=0)
       (by cases vm with
        |none=>exact .inl ⟨rfl,rfl⟩
        |some u=>cases vh with
         |none=>simp at mS
         |some u'=>exact .inr ⟨hm,rfl,rfl⟩)
       (by cases vm<;>simpa using pT) pk
      refine a_.value hh (x:=.slice none 0 0) ?_ (by simp[VR])
      rw[e1,Me ht hz bL]
      simp
    ·cases h
   ·cases h
  ·cases h
 ·-- not nil,empty
  rename_i vl vh h1 h2 h3 h4
  have e1:=cO hh hr hx h1
  obtain⟨A,c,e1⟩:=e1
  have e2:=th hh hr fZ h2
  have e3:=th hh hr iZ h3
  have e4:=th hh hr dP h4
  split at h
  ·rename_i hb pT
   split at h
   ·rename_i lb pk
    simp only[au,bj]at h
    obtain⟨rfl,rfl⟩:=h
    have nO:hb=0:=by rcases vw pT with h|h<;>omega
    have tD:lb=0:=by rcases vw pk with h|h<;>omega
    subst nO tD
    have bL:=Jy (P:=P) (w:=w) (isS:=true) (len:=0) (y:=0) (k:=c) e2 e3 e4 (xW _) (m:=c) (h:=0) (l:=0) (.inl ⟨rfl,rfl⟩) (by simpa using pT) pk
    refine a_.value hh (x:=.slice (some (if c=0 then A else A.add (0*z))) 0 (c-0)) ?_ ⟨_,_,rfl⟩
    rw[e1,Me ht hz bL]
    split<;>simp
   ·cases h
  ·cases h
 ·-- the capacity is known
  rename_i i o len c sz vl vh vm h1 h2 h3 h4
  obtain⟨l,c',hl,e1,hlen,zU,hc,_⟩:=cO hh hr hx h1
  have:=hc c rfl;subst this
  have e2:=th hh hr fZ h2
  have e3:=th hh hr iZ h3
  have e4:=th hh hr dP h4
  split at h
  ·cases h
  ·rename_i mS
   simp only[not_or,Decidable.not_not,Bool.not_eq_true]at mS
   obtain⟨rfl,mS⟩:=mS
   split at h
   ·rename_i m hm
    split at h
    ·rename_i hb pT
     split at h
     ·rename_i lb pk
      simp only[au,bj]at h
      obtain⟨rfl,rfl⟩:=h
      have hmc:m<=c':=by rcases vw hm with h|h<;>omega
      have bL:=Jy (P:=P) (w:=w) (isS:=true) (len:=len) (y:=c') (k:=c') e2 e3 e4 (aZ _) (m:=m) (h:=hb) (l:=lb)
       (by cases vm with
        |none=>simp only[dK,au]at hm;exact .inl ⟨rfl,hm.symm⟩
        |some u=>cases vh with
         |none=>simp at mS
         |some u'=>exact .inr ⟨hm,rfl,rfl⟩)
       (by cases vm with
        |none=>simp only[dK,au]at hm;subst hm;simpa using pT
        |some u=>simpa using pT) pk
      have hhm:hb<=m:=by
       rcases vw pT with h|⟨h,h'⟩
       ·exact h
       ·subst h
        cases vm with
        |none=>simp only[dK,au]at hm;omega
        |some u=>simp at mS
      have OV:lb<=hb:=by rcases vw pk with h|h<;>omega
      have k1:m*sz<=c'*sz:=ky _ hmc
      have k2:(m-lb)*sz=m*sz-lb*sz:=Nat.sub_mul _ _ _
      have k3:lb*sz<=m*sz:=ky _ (by omega)
      refine a_.value hh (x:=.slice (some ⟨l.b,l.d+(if m=lb then o else o+lb*sz),none⟩) (hb-lb) (m-lb)) ?_ ⟨l,m-lb,hl,rfl,by omega,?_,fun k hk=>by simpa using hk,by simp⟩
      ·rw[e1,Me ht hz bL]
       split<;>simp[wJ,qS]
      ·split
       ·rename_i e;subst e;simp;omega
       ·omega
     ·cases h
    ·cases h
   ·cases h
 ·-- the capacity is not known
  rename_i i o len sz vl vh vm h1 h2 h3 h4
  obtain⟨l,cw,hl,e1,hlen,zU,_,htn⟩:=cO hh hr hx h1
  have htn:=htn rfl
  have e2:=th hh hr fZ h2
  have e3:=th hh hr iZ h3
  have e4:=th hh hr dP h4
  split at h
  ·cases h
  ·rename_i mS
   simp only[not_or,Decidable.not_not,Bool.not_eq_true]at mS
   obtain⟨rfl,pd,mS⟩:=mS
   split at h
   ·rename_i cs _ _ aM
    obtain⟨c'',_,_,_,_,dW,_⟩:=hh.row hl aM
    have pU:max len ((cs.length-o)/sz)<=cw:=by
     have:(cs.length-o)/sz<=cw:=by
      rw[Nat.div_le_iff_le_mul_add_pred (by omega)]
      have:sz*cw=cw*sz:=gk _ _
      omega
     omega
    have xM:len<=max len ((cs.length-o)/sz):=by omega
    generalize max len ((cs.length-o)/sz)=y at*
    dsimp only at h
    split at h
    ·rename_i um
     split at h
     ·rename_i m hm
      split at h
      ·rename_i hb pT
       split at h
       ·rename_i lb pk
        simp only[au,bj]at h
        obtain⟨rfl,rfl⟩:=h
        cases vh with
        |none=>simp at mS
        |some uh=>
        have hmy:m<=y:=by
         rcases vw (u:=some um) (d:=0) hm with h|h
         ·exact h
         ·simp at h
        have bL:=Jy (P:=P) (w:=w) (isS:=true) (len:=len) (y:=y) (k:=cw) e2 e3 e4 pU (m:=m) (h:=hb) (l:=lb) (.inr ⟨hm,rfl,rfl⟩) (by simpa using pT) pk
        have hhm:hb<=m:=by
         rcases vw pT with h|⟨h,h'⟩
         ·exact h
         ·simp at h
        have OV:lb<=hb:=by rcases vw pk with h|h<;>omega
        have k1:m*sz<=cw*sz:=ky _ (by omega)
        have k2:(m-lb)*sz=m*sz-lb*sz:=Nat.sub_mul _ _ _
        have k3:lb*sz<=m*sz:=ky _ (by omega)
        refine a_.value hh (x:=.slice (some ⟨l.b,l.d+(if m=lb then o else o+lb*sz),none⟩) (hb-lb) (m-lb)) ?_ ⟨l,m-lb,hl,rfl,by omega,?_,fun k hk=>by simpa using hk,by simp⟩
        ·rw[e1,Me ht hz bL]
         split<;>simp[wJ,qS]
        ·split
         ·rename_i e;subst e;simp;omega
         ·omega
       ·cases h
      ·cases h
     ·cases h
    ·split at h
     ·rename_i hb pT
      split at h
      ·rename_i lb pk
       have bL:=Jy (P:=P) (w:=w) (isS:=true) (len:=len) (y:=y) (k:=cw) e2 e3 e4 pU (m:=cw) (h:=hb) (l:=lb) (.inl ⟨rfl,rfl⟩) (by simpa using pT) pk
       have hhm:hb<=y:=by rcases vw pT with h|⟨h,h'⟩<;>omega
       have OV:lb<=hb:=by rcases vw pk with h|h<;>omega
       have k2:(cw-lb)*sz=cw*sz-lb*sz:=Nat.sub_mul _ _ _
       have k3:lb*sz<=cw*sz:=ky _ (by omega)
       split at h
       ·rename_i aP
        simp only[au,bj]at h
        obtain⟨rfl,rfl⟩:=h
        refine a_.value hh (x:=.slice (some ⟨l.b,l.d+(o+lb*sz),none⟩) (hb-lb) (cw-lb)) ?_ ⟨l,cw-lb,hl,rfl,by omega,by omega,by simp,fun _=>by omega⟩
        rw[e1,Me ht hz bL]
        rw[aA (by omega)]
        simp[wJ,qS]
       ·simp only[au,bj]at h
        obtain⟨rfl,rfl⟩:=h
        have:hb-lb=0:=by omega
        refine a_.value hh (x:=.slice (some (if cw=lb then ⟨l.b,l.d+o,none⟩ else (⟨l.b,l.d+o,none⟩:Addr).add (lb*sz))) 0 (cw-lb)) ?_ ⟨_,_,rfl⟩
        rw[e1,Me ht hz bL,this]
        split<;>simp
      ·cases h
     ·cases h
   ·cases h
 ·cases h
def Zsw(hh:bk P μ w st)(hr:RR μ r n a.tmps){t e:TypeId}{k z:Nat}{x:Operand}{lo hi mx:Option Operand}{s:Src}{ls hs ms:Option Src}(ht:P.underlying t=some (.array k e))(hz:ff P e=some z)
  (hx:bo P x=some s) (fZ:rW P lo=some ls) (iZ:rW P hi=some hs) (dP:rW P mx=some ms) (h:zC k z s ls hs ms call r st=some (v,aB)):
  a_ P μ w st (do pure (.value (<-Instr.sliceAt t (a.eval x) (lo.map a.eval) (hi.map a.eval) (mx.map a.eval)))) v aB:=by
 unfold zC at h
 split at h
 ·rename_i i o vl vh h1 h2 h3 h4
  obtain⟨l,hl,e1⟩:=cO hh hr hx h1
  have e2:=th hh hr fZ h2
  have e3:=th hh hr iZ h3
  have e4:=th hh hr dP h4
  split at h
  ·rename_i hb pT
   split at h
   ·rename_i lb pk
    split at h
    ·rename_i cs _ _ aM
     split at h
     ·rename_i cW
      simp only[au,bj]at h
      obtain⟨rfl,rfl⟩:=h
      obtain⟨c'',_,_,_,_,dW,_⟩:=hh.row hl aM
      have bL:=Jy (P:=P) (w:=w) (isS:=false) (len:=k) (y:=k) (k:=k) e2 e3 e4 (aZ _) (m:=k) (h:=hb) (l:=lb) (.inl ⟨rfl,rfl⟩) (by simpa using pT) pk
      have hhm:hb<=k:=by rcases vw pT with h|⟨h,h'⟩<;>omega
      have OV:lb<=hb:=by rcases vw pk with h|h<;>omega
      have k2:(k-lb)*z=k*z-lb*z:=Nat.sub_mul _ _ _
      have k3:lb*z<=k*z:=ky _ (by omega)
      have OT:=cW.1
      refine a_.value hh (x:=.slice (some ⟨l.b,l.d+(if k=lb then o else o+lb*z),none⟩) (hb-lb) (k-lb)) ?_ ⟨l,k-lb,hl,rfl,by omega,?_,fun k hk=>by simpa using hk,by simp⟩
      ·simp only[Instr.sliceAt,Sem.run_bind,run_underlying ht,Result.andThen,Instr.sureAddr,e1,Sem.run_pure,bL,xI hz]
       split<;>simp[wJ,qS]
      ·split
       ·rename_i e;subst e;simp;omega
       ·omega
     ·cases h
    ·cases h
   ·cases h
  ·cases h
 ·cases h
end
section
variable {P:Program} {μ:Mu} {w:World} {st aB:St} {r:T V} {n:Nat} {a:Act} {call:cM} {v:V}
def Ia{α:Type}{c vs:List α}{o:Nat}(h:o+vs.length<=c.length):(ag c o vs).length=c.length:=by
 simp[ag];omega
def Mc{α:Type}{c vs:List α}{o:Nat}(h:o+vs.length<=c.length)(j:Nat):(ag c o vs)[j]?=if o<=j/\j<o+vs.length then vs[j-o]? else c[j]?:=by
 have aP:(c.take o).length=o:=by simp;omega
 unfold ag
 rw[sQ]
 by_cases h1:j<o
 ·rw[rR (by omega),aA (by omega),lX,aQ h1]
 ·rw[xg (by omega),aP]
  by_cases h2:j<o+vs.length
  ·rw[rR (by omega),aQ ⟨by omega,h2⟩]
  ·rw[xg (by omega),aA (by omega),ix]
   congr 1;omega
def aW.ag{c vs:List V}{c' mj:List Value}(h:aW μ c c')(h':aW μ vs mj)(o:Nat):aW μ (ag c o vs) (ag c' o mj):=by
 unfold Mx.ag
 rw[h'.length]
 exact((h.take o).append h').append (h.drop _)
def Zmf{α:Type}(c:List α)(o:Nat)(x:α)(vs:List α)(h:o<c.length):Mx.ag (c.set o x) (o+1) vs=Mx.ag c o (x::vs):=by
 unfold Mx.ag
 have e1:(c.set o x).take (o+1)=c.take o++[x]:=by
  rw[HY,List.take_set_of_le (aZ _)]
  simp[h]
 have e2:(c.set o x).drop (o+1+vs.length)=c.drop (o+(vs.length+1)):=by
  rw[List.drop_set_of_lt (by omega)]
  congr 1;omega
 rw[e1,e2]
 simp
def Yf8(off:Nat):∀(vs:List Value) (k:Nat) (cs:List Value),off+k+vs.length<=cs.length->
  (vs.zipIdx k).foldl (fun (cs:Array Value) (p:Value×Nat)=>cs.setIfInBounds (off+p.2) p.1) ⟨cs⟩=⟨ag cs (off+k) vs⟩:=by
 intro vs
 induction vs with
 |nil=>intro k cs h;simp[ag]
 |cons x vs ih=>
  intro k cs h
  simp only[ak]at h
  simp only[List.zipIdx_cons,List.foldl_cons]
  have e:(⟨cs⟩:Array Value).setIfInBounds (off+k) x=⟨cs.set (off+k) x⟩:=by
   apply zz
   simp
  rw[e,ih (k+1) (cs.set (off+k) x) (by simp;omega),<-qS,Zmf _ _ _ _ (by omega)]
def Zpz(hh:bk P μ w st)(hr:RR μ r n a.tmps){place:Nat->Option (Nat×Nat)}:∀{parts:List (Nat×Operand)} {tZ:List (Nat×Nat×Src)},AZ P place parts=some tZ->
  ∀{ps:List (Nat×Nat×V)},A9 r tZ=some ps->∀{cs:List V} {xo:List Value},aW μ cs xo->∀{l:List V},A8 cs ps=some l->
  ∃l',Instr.fill place ⟨xo⟩ (parts.map fun p=>(p.1,a.eval p.2))=some ⟨l'⟩/\aW μ l l':=by
 intro parts
 induction parts with
 |nil=>
  intro tZ hc ps he cs xo t_ l hl
  simp only[AZ,au]at hc;subst hc
  simp only[A9,au]at he;subst he
  simp only[A8,au]at hl;subst hl
  exact⟨xo,by simp[Instr.fill],t_⟩
 |cons p parts ih=>
  intro tZ hc ps he cs xo t_ l hl
  obtain⟨i,x⟩:=p
  simp only[AZ]at hc
  split at hc
  ·rename_i o s sx l' hp hx ik
   simp only[au]at hc;subst hc
   simp only[A9]at he
   split at he
   ·rename_i u vs hu IG
    simp only[au]at he;subst he
    simp only[A8]at hl
    split at hl
    ·rename_i cW
     have Tj:=cO hh hr hx hu
     have iA:=Tj.cells
     have hlen:(a.eval x).cells.size=s:=by
      have:=iA.length
      rw[<-cW.1,<-this];simp
     have fy:(a.eval x).cells.toList.length=s:=by simpa using hlen
     obtain⟨l'',h1,h2⟩:=ih ik IG (t_.ag iA o) hl
     refine⟨l'',?_,h2⟩
     simp only[lF,Instr.fill,hp]
     rw[aA]
     ·have e:((a.eval x).cells.zipIdx.foldl (fun (cs:Array Value) (p:Value×Nat)=>cs.setIfInBounds (o+p.2) p.1) ⟨xo⟩)=⟨ag xo o (a.eval x).cells.toList⟩:=by
       rw[<-Array.foldl_toList,Array.toList_zipIdx]
       have:=Yf8 o (a.eval x).cells.toList 0 xo (by rw[fy,t_.length];omega)
       simpa using this
      rw[<-h1]
      congr 1
     ·have dW:=t_.length
      simp only[hlen,ne_eq,not_true_eq_false,decide_false,Bool.false_or,decide_eq_true_eq]
      simp[dW];omega
    ·cases hl
   ·cases he
  ·cases hc
def Zxb:∀{fs:List Field} {pl:List (Nat×Nat)},Lz P fs=some pl->fs.mapM (fun f=>(P.info? f.type).map fun i=>(f.offset,i.size))=some pl:=by
 intro fs
 induction fs with
 |nil=>intro pl h;simp only[Lz,au]at h;subst h;simp
 |cons f fs ih=>
  intro pl h
  simp only[Lz]at h
  split at h
  ·rename_i s l hs hl
   simp only[au]at h;subst h
   unfold ff at hs
   simp only[ig]at hs
   obtain⟨i,hi,rfl⟩:=hs
   simp[List.mapM_cons,hi,ih hl]
  ·cases h
def Jv{t:TypeId}{z:V}(h:oT P t=some z):∃i x,P.info? t=some i/\i.zero=some x/\∀μ,VR μ z x:=by
 unfold oT at h
 split at h
 ·rename_i i hi
  split at h
  ·rename_i x hx
   exact⟨i,x,hi,hx,fun μ=>Tc μ x z h⟩
  ·cases h
 ·cases h
def Zns(hh:bk P μ w st)(hr:RR μ r n a.tmps){t:TypeId}{fs:Array Field}{pl:List (Nat×Nat)}{z:V}{parts:Array (Nat×Operand)}{tZ:List (Nat×Nat×Src)}
  (hz:oT P t=some z) (ht:P.underlying t=some (.struct fs)) (hp:Lz P fs.toList=some pl) (hc:AZ P (pl[·]?) parts.toList=some tZ) (h:Ca z.cells tZ call r st=some (v,aB)):
  a_ P μ w st (do pure (.value (<-Instr.build t (parts.map fun (i,x)=>(i,a.eval x))))) v aB:=by
 unfold Ca at h
 split at h
 ·rename_i ps uG
  split at h
  ·rename_i l hl
   simp only[au,bj]at h
   obtain⟨rfl,rfl⟩:=h
   obtain⟨i,x,hi,hx,pR⟩:=Jv hz
   obtain⟨l',h1,h2⟩:=Zpz hh hr hc uG (pR μ).cells hl
   refine a_.value hh (x:=.agg ⟨l'⟩) (run_build w t _ _ ?_) ⟨l',rfl,h2⟩
   simp only[Program.built,hi,ht,hx,Zxb hp]
   rw[<-h1]
   simp
  ·cases h
 ·cases h
def Zn7(hh:bk P μ w st)(hr:RR μ r n a.tmps){t e:TypeId}{k s:Nat}{z:V}{parts:Array (Nat×Operand)}{tZ:List (Nat×Nat×Src)}
  (hz:oT P t=some z) (ht:P.underlying t=some (.array k e)) (hs:ff P e=some s) (hc:AZ P (fun i=>some (i*s,s)) parts.toList=some tZ) (h:Ca z.cells tZ call r st=some (v,aB)):
  a_ P μ w st (do pure (.value (<-Instr.build t (parts.map fun (i,x)=>(i,a.eval x))))) v aB:=by
 unfold Ca at h
 split at h
 ·rename_i ps uG
  split at h
  ·rename_i l hl
   simp only[au,bj]at h
   obtain⟨rfl,rfl⟩:=h
   obtain⟨i,x,hi,hx,pR⟩:=Jv hz
   unfold ff at hs
   simp only[ig]at hs
   obtain⟨ie,hie,rfl⟩:=hs
   obtain⟨l',h1,h2⟩:=Zpz hh hr hc uG (pR μ).cells hl
   refine a_.value hh (x:=.agg ⟨l'⟩) (run_build w t _ _ ?_) ⟨l',rfl,h2⟩
   simp only[Program.built,hi,ht,hx,hie]
   rw[<-h1]
   simp
  ·cases h
 ·cases h
def O3{vs:List V}{xs:List Value}(h:aW μ vs xs)(hv:vs.all V.one=true):∀x∈xs,x.oneCell'=true:=by
 intro x hx
 obtain⟨j,hj⟩:=Uh hx
 have hl:=h.length
 have AP:j<xs.length:=(A3.1 hj).1
 have:∃u,vs[j]?=some u:=⟨vs[j]'(by omega),by simp⟩
 obtain⟨u,hu⟩:=this
 obtain⟨y,h1,h2⟩:=h.get hu
 rw[hj]at h1;cases h1
 have zZ:u.one=true:=by
  rw[sN]at hv
  exact hv u (eZ hu)
 have:=h2.one zZ
 cases x<;>simp_all [Value.oneCell']
def a_.newRow(hh:bk P μ w st){s:Sem Value}{x:Value}{cs:List V}{xs:List Value}{e:TypeId}(hs:s.run P w=.ok x (w.alloc (.cells ⟨xs⟩ e)))
  (hc:aW μ cs xs) (h1:∀x∈xs,x.oneCell'=true) (hv:VR (fun i=>if i=st.n then some ⟨w.heap.size,0,xs.length⟩ else μ i) v x):
  a_ P μ w st (do pure (.value (<-s))) v (st.alloc (.cells cs e true)):=by
 have dJ:∀i l,μ i=some l->(fun i=>if i=st.n then some (⟨w.heap.size,0,xs.length⟩:L) else μ i) i=some l:=fun i l hl=>by
  have:=(hh.dc i l hl).1
  simp only
  rw[aA (by omega)];exact hl
 refine⟨Next.value x,x,_,_,[],by simp[hs,Result.andThen],.inl rfl,hv,bD.alloc hh (.cells cs e true) (.cells ⟨xs⟩ e) 0 xs.length ⟨⟨xs⟩,0,0,?_,by simp,by simp[hc.length],fun j u hu=>?_,fun j y _ hy=>?_,fun _=>⟨rfl,fun j hj=>by omega⟩⟩⟩
 ·simp
 ·obtain⟨y,hy,hr⟩:=hc.get hu
  exact⟨y,by simpa using hy,VR.mono dJ u y hr⟩
 ·exact h1 y (eZ (by simpa using hy))
def Yg4(hh:bk P μ w st){e:TypeId}{z:V}(hz:oT P e=some z)(cI:z.cells.all V.one=true)(h:LM z.cells e call r st=some (v,aB)):
  a_ P μ w st (do pure (.value (<-Instr.alloc e true (.tuple #[])))) v aB:=by
 unfold LM at h
 simp only[au,bj]at h
 obtain⟨rfl,rfl⟩:=h
 obtain⟨i,x,hi,hx,pR⟩:=Jv hz
 refine a_.newRow hh (v:=.ptr st.n 0) (xs:=x.cells.toList) (x:=.pointer (some ⟨w.heap.size,0,none⟩)) ?_ (pR μ).cells (O3 (pR μ).cells cI) (by simp only[VR];exact⟨⟨w.heap.size,0,x.cells.toList.length⟩,by simp,by simp⟩)
 simp[Instr.alloc,zeroValue,typeInfo,hi,hx,newVar,Go.newRow,Result.andThen]
def Ynj(hh:bk P μ w st)(hr:RR μ r n a.tmps){e:TypeId}{x:Operand}{s:Src}(hx:bo P x=some s)(h:I3 e s call r st=some (v,aB)):
  a_ P μ w st (do pure (.value (<-Instr.box e (a.eval x)))) v aB:=by
 unfold I3 at h
 split at h
 ·rename_i u hu
  split at h
  ·rename_i cI
   simp only[au,bj]at h
   obtain⟨rfl,rfl⟩:=h
   have Tj:=cO hh hr hx hu
   refine a_.newRow hh (v:=.ptr st.n 0) (xs:=(a.eval x).cells.toList) (x:=.pointer (some ⟨w.heap.size,0,none⟩)) ?_ Tj.cells (O3 Tj.cells cI) (by simp only[VR];exact⟨⟨w.heap.size,0,_⟩,by simp;rfl,by simp⟩)
   simp[Instr.box,newVar,Go.newRow,Result.andThen]
  ·cases h
 ·cases h
end
section
variable {P:Program} {μ:Mu} {w:World} {st aB:St} {r:T V} {n:Nat} {a:Act} {call:cM} {v:V}
def Zl5(zs:List V)(k:Nat):(dw zs k).length=k*zs.length:=by simp[dw]
def Th{zs:List V}{xs:List Value}(h:aW μ zs xs)(k:Nat):aW μ (dw zs k) (madeCells ⟨xs⟩ (k*zs.length)).toList:=by
 have hl:=h.length
 refine aW.qN (by simp[dw,madeCells]) fun j u hu=>?_
 have hj:j<k*zs.length:=by
  have:=(A3.1 hu).1
  simpa[dw]using this
 have hz:0<zs.length:=by
  rcases LG zs.length with e|e
  ·rw[e]at hj;simp at hj
  ·exact e
 have Cy:j%zs.length<zs.length:=kW _ hz
 simp only[dw,mL,Oi hj,B5,au]at hu
 obtain⟨y,h1,h2⟩:=h.get (i:=j%zs.length) (v:=zs[j%zs.length]) (by simp[Cy])
 refine⟨y,?_,?_⟩
 ·simp only[madeCells,Array.toList_map,Array.toList_range,mL,Oi hj,B5,au]
  have iW:(⟨xs⟩:Array Value)[j%xs.length]?=some y:=by rw[hl];simpa using h1
  simp only[Array.size,getElem!_def,iW]
 ·rw[<-hu]
  simpa[List.getD,Cy]using h2
def Zo7{zs:List V}(h:zs.all V.one=true)(k:Nat):∀{xs:List Value},aW μ (dw zs k) xs->∀x∈xs,x.oneCell'=true:=by
 intro xs hx
 refine O3 hx ?_
 rw[sN]
 intro u hu
 simp only[dw,AG,Sa]at hu
 obtain⟨j,hj,rfl⟩:=hu
 have hz:0<zs.length:=by
  rcases LG zs.length with e|e
  ·rw[e]at hj;simp at hj
  ·exact e
 have Cy:j%zs.length<zs.length:=kW _ hz
 rw[sN]at h
 simpa[List.getD,Cy]using h zs[j%zs.length] (by simp)
def Ydo(hh:bk P μ w st)(hr:RR μ r n a.tmps){t e:TypeId}{s len:Nat}{z:V}{parts:Array (Nat×Operand)}{tZ:List (Nat×Nat×Src)}
  (ht:P.underlying t=some (.slice e)) (hs:ff P e=some s) (hz:oT P e=some z) (hle:¬len*s > 2^24) (OP:z.cells.length=s)
  (hc:AZ P (fun i=>some (i*s,s)) parts.toList=some tZ) (h:I4 e s len (dw z.cells len) tZ call r st=some (v,aB)):
  a_ P μ w st (do pure (.value (<-Instr.buildSlice t len (parts.map fun (i,x)=>(i,a.eval x))))) v aB:=by
 unfold I4 at h
 split at h
 ·rename_i ps uG
  split at h
  ·rename_i l hl
   split at h
   ·rename_i cI
    simp only[au,bj]at h
    obtain⟨rfl,rfl⟩:=h
    obtain⟨i,x,hi,hx,pR⟩:=Jv hz
    have z_:=(pR μ).cells
    have n_:=Th z_ len
    rw[OP]at n_
    obtain⟨l',h1,h2⟩:=Zpz hh hr hc uG n_ hl
    have Jz:=h2.length
    refine a_.newRow hh (v:=.slice st.n 0 len (some len) s) (xs:=l') (x:=.slice (some ⟨w.heap.size,0,none⟩) len len) ?_ h2 (O3 h2 cI) ?_
    ·have iW:Instr.fill (fun i=>some (i*s,s)) (madeCells x.cells (len*s)) (parts.map fun p=>(p.1,a.eval p.2)).toList=some ⟨l'⟩:=by
      rw[<-h1]
      simp
     simp only[Instr.buildSlice,Sem.run_bind,run_underlying ht,Result.andThen,xI hs,aA hle]
     split
     ·rename_i e0
      have iA:((Array.range (len*s)).map ((#[]:Array Value)[·%(#[]:Array Value).size]!))=madeCells x.cells (len*s):=by
       simp[madeCells,e0]
      simp only[Sem.run_bind,Sem.run_pure,Result.andThen,iA]
      rw[iW]
      simp[Go.newRow,Result.andThen]
     ·have iA:((Array.range (len*s)).map (x.cells[·%x.cells.size]!))=madeCells x.cells (len*s):=rfl
      simp only[zeroValue,typeInfo,Sem.run_bind,Sem.run_pure,Result.andThen,hi,hx,run_program]
      simp only[iA]
      rw[iW]
      simp[Go.newRow,Result.andThen]
    ·have O4:l.length=len*s:=by
      have:∀(ps:List (Nat×Nat×V)) (cs l:List V),A8 cs ps=some l->l.length=cs.length:=by
       intro ps
       induction ps with
       |nil=>intro cs l h;simp only[A8,au]at h;rw[h]
       |cons p ps ih=>
        intro cs l h
        obtain⟨o,s,u⟩:=p
        simp only[A8]at h
        split at h
        ·rename_i hc
         rw[ih _ _ h,Ia (by omega)]
        ·cases h
      rw[this ps _ l hl,Zl5,OP]
     simp only[VR]
     exact⟨⟨w.heap.size,0,l'.length⟩,len,by simp,by simp,aZ _,by simp[Jz,O4],by simp,by simp⟩
   ·cases h
  ·cases h
 ·cases h
def Zxv(hh:bk P μ w st)(hr:RR μ r n a.tmps){t e:TypeId}{s b:Nat}{z:V}{x y:Operand}{sx sy:Src}(ht:P.underlying t=some (.slice e))(hs:ff P e=some s)(hb:AY P e=some b)(hz:oT P e=some z)
  (cI:z.cells.all V.one=true) (hx:bo P x=some sx) (hy:bo P y=some sy) (h:Cb e s b z.cells sx sy call r st=some (v,aB)):
  a_ P μ w st (do pure (.value (<-Instr.makeSlice t (a.eval x) (a.eval y)))) v aB:=by
 unfold Cb at h
 split at h
 ·rename_i k l k' c h1 h2
  have e1:=cO hh hr hx h1
  have e2:=cO hh hr hy h2
  simp only[VR]at e1 e2
  split at h
  ·rename_i hc
   obtain⟨tD,Bk,hbc,ze6,jJ,wk⟩:=hc
   simp only[au,bj]at h
   obtain⟨rfl,rfl⟩:=h
   obtain⟨i,zx,hi,pR,Mf⟩:=Jv hz
   unfold ff at hs
   unfold AY at hb
   simp only[hi,B5,au]at hs hb
   have z_:=(Mf μ).cells
   have n_:=Th z_ c.toNat
   rw[<-jJ]at n_
   have bL:=run_make (P:=P) w t e i zx ht hi pR k k' l c tD Bk (by rw[hb];omega) (by omega)
   rw[hs]at bL
   refine a_.newRow hh (v:=.slice st.n 0 l.toNat (some c.toNat) s) (xs:=(madeCells zx.cells (c.toNat*s)).toList) (x:=.slice (some ⟨w.heap.size,0,none⟩) l.toNat c.toNat) ?_ n_ (Zo7 cI c.toNat n_) ?_
   ·rw[e1,e2,bL]
   ·simp only[VR]
    exact⟨⟨w.heap.size,0,_⟩,c.toNat,by simp;rfl,by simp,by omega,by simp[madeCells],by simp,by simp⟩
  ·cases h
 ·cases h
def a_.newObj(hh:bk P μ w st){s:Sem Value}{x:Value}{o:O}{ob:Obj}(hs:s.run P w=.ok x (w.alloc ob))
  (ho:OM P (fun i=>if i=st.n then some ⟨w.heap.size,0,0⟩ else μ i) (w.alloc ob) o ⟨w.heap.size,0,0⟩) (hv:VR (fun i=>if i=st.n then some ⟨w.heap.size,0,0⟩ else μ i) v x):
  a_ P μ w st (do pure (.value (<-s))) v (st.alloc o):=
 ⟨Next.value x,x,_,_,[],by simp[hs,Result.andThen],.inl rfl,hv,bD.alloc hh o ob 0 0 ho⟩
def Znv(w:World)(o:Obj):(w.alloc o).heap[w.heap.size]?=some o:=by
 show (w.heap.push o)[w.heap.size]?=some o
 simp
def Yfs(hh:bk P μ w st){t:TypeId}(h:LQ call r st=some (v,aB)):a_ P μ w st (do pure (.value (<-Instr.makeMap t none))) v aB:=by
 unfold LQ at h
 simp only[au,bj]at h
 obtain⟨rfl,rfl⟩:=h
 refine a_.newObj hh (v:=.map st.n) (x:=.map (some w.heap.size)) (ob:=.map #[] 0) ?_ ⟨[],by simpa using Znv w _,rfl⟩ ?_
 ·simp[Instr.makeMap,Result.andThen]
 ·simp only[VR];exact⟨⟨w.heap.size,0,0⟩,by simp,rfl⟩
def Ybo(hh:bk P μ w st)(hr:RR μ r n a.tmps){t e:TypeId}{d:ChanDir}{b:Nat}{x:Operand}{s:Src}(ht:P.underlying t=some (.chan d e))(hb:AY P e=some b)(hx:bo P x=some s)
  (h:DQ b s call r st=some (v,aB)):a_ P μ w st (do pure (.value (<-Instr.makeChan t (a.eval x)))) v aB:=by
 unfold DQ at h
 split at h
 ·rename_i q k hk
  have e1:=cO hh hr hx hk
  simp only[VR]at e1
  split at h
  ·cases h
  ·rename_i hc
   simp only[au,bj]at h
   obtain⟨rfl,rfl⟩:=h
   unfold AY at hb
   simp only[ig]at hb
   obtain⟨i,hi,rfl⟩:=hb
   refine a_.newObj hh (v:=.chan st.n) (x:=.chan (some w.heap.size)) (ob:=.chan k.toNat #[] false 0 0 false) ?_ ⟨[],0,0,by simpa using Znv w _,by simp[aW]⟩ ?_
   ·simp only[Instr.makeChan,e1,asInt,asIntOf,run_underlying ht,typeInfo,hi,aA hc,Result.andThen,Sem.run_bind,Sem.run_pure,run_program,run_newObj]
    rfl
   ·simp only[VR];exact⟨⟨w.heap.size,0,0⟩,by simp,rfl⟩
 ·cases h
def Zs9(hh:bk P μ w st)(hr:RR μ r n a.tmps){t:TypeId}{x:Operand}{s:Src}(ht:P.underlying t=some .string)(hx:bo P x=some s)
  (h:Je s call r st=some (v,aB)):a_ P μ w st (do pure (.value (<-Instr.range t (a.eval x)))) v aB:=by
 unfold Je at h
 split at h
 ·rename_i q hk
  have e1:=cO hh hr hx hk
  simp only[VR]at e1
  simp only[au,bj]at h
  obtain⟨rfl,rfl⟩:=h
  refine a_.newObj hh (v:=.ptr st.n 0) (x:=.pointer (some ⟨w.heap.size,0,none⟩)) (ob:=.stringIter ⟨q.toArray⟩ 0) ?_ (by simp only[OM];exact⟨Znv w _,trivial⟩) ?_
  ·simp[Instr.range,e1,run_underlying ht,Result.andThen]
  ·simp only[VR];exact⟨⟨w.heap.size,0,0⟩,by simp,rfl⟩
 ·cases h
def Zdj(g o:Nat)(t:TypeId)(lo hi:Nat):∀(vs:List Value) (i:Nat) (cur:List Value) (w:World),w.heap[g]?=some (.cells ⟨cur⟩ t (lo,hi))->o+i+vs.length<=cur.length->(∀v∈vs,v.oneCell'=true)->
  (∀j,o+i<=j->j<o+i+vs.length->¬(lo<=j/\j<hi))->(storeCells ⟨g,o,none⟩ vs i).run P w=.ok () (w.setRow g ⟨ag cur (o+i) vs⟩)
 |[],i,cur,w,hg,_,_,_=>by
  have e:ag cur (o+i) []=cur:=by simp[ag]
  rw[e,setRow_self w g _ t _ hg]
  simp[storeCells]
 |v::rest,i,cur,w,hg,hl,h1,hf=>by
  simp only[ak]at hl
  have jx:o+i<cur.length:=by omega
  have gl:w.cell? ⟨g,o+i,none⟩=some cur[o+i]:=by simp[World.cell?,hg,jx]
  have zd0:w.frozen? ⟨g,o+i,none⟩=false:=by
   have:=hf (o+i) (aZ _) (by simp)
   simp only[World.frozen?,hg]
   simp;omega
  have fk:(store ((⟨g,o,none⟩:Addr).add i) v).run P w=.ok () (w.setRow g ⟨cur.set (o+i) v⟩):=by
   rw[wJ,run_store P w _ v _ (h1 v (by simp)),gl]
   simp[zd0,setCell_eq_setRow w g (o+i) _ t _ v hg]
  have ih:=Zdj g o t lo hi rest (i+1) (cur.set (o+i) v) (w.setRow g ⟨cur.set (o+i) v⟩) (setRow_heap w g _ _ t _ hg) (by simp;omega) (fun x hx=>h1 x (by simp[hx]))
   (fun j DZ nM=>hf j (by omega) (by simp only[ak];omega))
  simp only[storeCells,Sem.run_bind,fk,Result.andThen_ok,ih,setRow_setRow]
  rw[<-qS,Zmf _ _ _ _ jx]
def Tg(hh:bk P μ w st){i o:Nat}{l:L}(hl:μ i=some l){c:List V}{e:TypeId}(aM:st.row i=some (c,e,true)){vs:List V}{xs:List Value}(hv:aW μ vs xs)(h1:∀x∈xs,x.oneCell'=true)
  (hlen:o+vs.length<=c.length):
  ∃w',(storeCells ⟨l.b,l.d+o,none⟩ xs).run P w=.ok () w'/\bD P μ w st μ w' (st.write i (.cells (ag c o vs) e true)) [i]:=by
 obtain⟨c',lo,hi,g1,g2,g3,g4,g5,g6⟩:=hh.row hl aM
 obtain⟨cur⟩:=c'
 have BV:=hv.length
 simp only[List.size_toArray]at g2
 have bL:=Zdj (P:=P) l.b (l.d+o) e lo hi xs 0 cur w g1 (by omega) h1 (fun j DZ nM=>by
  have:=(g6 rfl).2 (j-l.d) (by omega)
  rw[show l.d+(j-l.d)=j by omega]at this
  exact this)
 refine⟨_,bL,?_⟩
 have hb:=setRow_heap w l.b _ (⟨ag cur (l.d+o+0) xs⟩:Array Value) e _ g1
 refine bD.write hh hl (OJ aM) rfl rfl rfl rfl (by simp) (fun b hb=>setRow_other w l.b b _ hb) ⟨_,lo,hi,hb,?_,?_,?_,?_,g6⟩
 ·simp only[List.size_toArray]
  rw[Ia (by omega)];exact g2
 ·rw[Ia hlen];exact g3
 ·intro j u hu
  rw[Mc hlen]at hu
  have e':∀k:Nat,(⟨ag cur (l.d+o+0) xs⟩:Array Value)[k]?=(ag cur (l.d+o+0) xs)[k]?:=fun k=>by simp
  rw[e',Mc (by omega)]
  split at hu
  ·rename_i hj
   rw[aQ (by omega)]
   obtain⟨y,hy,hr⟩:=hv.get hu
   exact⟨y,by rw[show l.d+j-(l.d+o+0)=j-o by omega];exact hy,hr⟩
  ·rename_i hj
   rw[aA (by omega)]
   obtain⟨y,hy,hr⟩:=g4 j u hu
   exact⟨y,by simpa using hy,hr⟩
 ·intro j x aP hx
  have e':(⟨ag cur (l.d+o+0) xs⟩:Array Value)[l.d+j]?=(ag cur (l.d+o+0) xs)[l.d+j]?:=by simp
  rw[e',Mc (by omega)]at hx
  split at hx
  ·exact h1 x (eZ hx)
  ·exact g5 j x aP (by simpa using hx)
def Yen(hh:bk P μ w st)(hr:RR μ r n a.tmps){t:TypeId}{k:Nat}{x y:Operand}{sx sy:Src}(hk:ff P t=some k)(hx:bo P x=some sx)(hy:bo P y=some sy)
  (h:DO k sx sy call r st=some (v,aB)):a_ P μ w st (do Instr.storeAt t (a.eval x) (a.eval y);pure .skip) v aB:=by
 unfold DO at h
 split at h
 ·rename_i i o u h1 h2
  obtain⟨l,hl,e1⟩:=cO hh hr hx h1
  have e2:=cO hh hr hy h2
  split at h
  ·rename_i c e aM
   split at h
   ·rename_i hc
    simp only[au,bj]at h
    obtain⟨rfl,rfl⟩:=h
    have dW:=e2.cells
    have hlen:=dW.length
    obtain⟨w',hw,hs⟩:=Tg hh hl aM dW (O3 dW hc.2.2) (o:=o) (by omega)
    refine⟨.skip,undef,w',μ,[i],?_,.inr ⟨rfl,rfl⟩,⟨[],rfl,by simp[aW]⟩,hs⟩
    have jJ:(a.eval y).cells.size=k:=by
     rw[<-hc.1,<-hlen];simp
    simp[Instr.storeAt,Instr.sureAddr,e1,storeVar,xI hk,jJ,hw,Result.andThen]
   ·cases h
  ·cases h
 ·cases h
end
end Go.Mx
