/-The operations of M stand for the Go mod-/
import Derived.Test.YtlbnjhhebffhdaaGreatDoorMxOp2
set_option linter.all false
namespace Go.Mx
open Go
set_option maxHeartbeats 1000000
section
variable {P:Program} {μ:Mu} {w:World} {st st':St} {r:T V} {n:Nat} {a:Act} {call:cP} {v:V}
def Jy(μ:Mu):Option V->Option Value->Prop
 |none,none=>True
 |some v,some x=>VR μ v x
 |_,_=>False
def sI(hh:Za9 P μ w st)(hr:RR μ r n a.tmps){x:Option Operand}{s:Option Src}(hc:rJ P x=some s){v:Option V}(hv:aH r s=some v):Jy μ v (x.map a.eval):=by
 rcases Zs8 hh hr hc hv with⟨rfl,rfl⟩|⟨v',x',rfl,rfl,h⟩
 ·trivial
 ·exact h
def Jy.isNone{v:Option V}{x:Option Value}(h:Jy μ v x):x.isNone=v.isNone:=by
 cases v<;>cases x<;>simp_all [Jy]
def O7{u:V}{X:Value}{y m k:Nat}{code:BoundsCode}(hu:VR μ u X)(h:Zed u y=some m)(hk:y<=k):(Instr.sliceBound X k code).run P w=.ok m w/\m<=y:=by
 unfold Zed at h
 split at h
 ·rename_i q z
  split at h
  ·rename_i hz
   simp only[au]at h;subst h
   simp only[VR]at hu;subst hu
   have h2:z<=(k:Int):=by omega
   exact⟨by simp[Instr.sliceBound,asIntOf,hz.1,h2],by omega⟩
  ·cases h
 ·cases h
def Jz{isS:Bool}{len y k:Nat}{lo hi mx:Option V}{LO HI MX:Option Value}(fO:Jy μ lo LO)(iH:Jy μ hi HI)(dT:Jy μ mx MX)(hy:y<=k){m h l:Nat}
  (hm:(mx=none/\m=k)\/(dG mx y 0=some m/\mx.isSome=true/\hi.isSome=true)) (hh:dG hi (if mx=none then y else m) len=some h) (hl:dG lo h 0=some l):
  (Instr.sliceBounds isS len k LO HI MX).run P w=.ok (l,h,m) w:=by
 cases mx with
 |none=>
  cases MX with
  |some _=>exact dT.elim
  |none=>
   have hmk:m=k:=by
    rcases hm with⟨_,e⟩|⟨_,e,_⟩
    ·exact e
    ·simp at e
   subst hmk
   simp only[if_true]at hh
   have zhc:∀LO',LO=some LO'->∀code,(Instr.sliceBound LO' h code).run P w=.ok l w:=fun X e code=>by
    subst e
    cases lo with
    |none=>exact fO.elim
    |some u=>exact(O7 fO hl (Yv5 _)).1
   have tS:LO=none->l=0:=fun e=>by
    subst e
    cases lo with
    |none=>simpa[dG]using hl.symm
    |some u=>exact fO.elim
   have O8:∀HI',HI=some HI'->∀code,(Instr.sliceBound HI' m code).run P w=.ok h w:=fun X e code=>by
    subst e
    cases hi with
    |none=>exact iH.elim
    |some u=>exact(O7 iH hh hy).1
   have hh0:HI=none->h=len:=fun e=>by
    subst e
    cases hi with
    |none=>simpa[dG]using hh.symm
    |some u=>exact iH.elim
   cases HI with
   |none=>
    have:=hh0 rfl;subst this
    cases LO with
    |none=>have:=tS rfl;subst this;simp[Instr.sliceBounds]
    |some X=>simp[Instr.sliceBounds,zhc X rfl,Result.andThen]
   |some Y=>
    cases LO with
    |none=>have:=tS rfl;subst this;simp[Instr.sliceBounds,O8 Y rfl,Result.andThen]
    |some X=>simp[Instr.sliceBounds,zhc X rfl,O8 Y rfl,Result.andThen]
 |some um=>
  cases MX with
  |none=>exact dT.elim
  |some Z=>
   obtain⟨hm,gg⟩:dG (some um) y 0=some m/\hi.isSome=true:=by
    rcases hm with⟨e,_⟩|⟨e,_,e'⟩
    ·simp at e
    ·exact⟨e,e'⟩
   have hz:∀code,(Instr.sliceBound Z k code).run P w=.ok m w:=fun code=>(O7 dT hm hy).1
   simp only[reduceCtorEq,if_false]at hh
   cases hi with
   |none=>simp at gg
   |some u=>
    cases HI with
    |none=>exact iH.elim
    |some Y=>
     have rO:∀code,(Instr.sliceBound Y m code).run P w=.ok h w:=fun code=>(O7 iH hh (Yv5 _)).1
     cases lo with
     |none=>
      cases LO with
      |some _=>exact fO.elim
      |none=>
       simp only[dG,au]at hl;subst hl
       simp[Instr.sliceBounds,hz,rO,Result.andThen]
     |some ul=>
      cases LO with
      |none=>exact fO.elim
      |some X=>
       have oA:∀code,(Instr.sliceBound X h code).run P w=.ok l w:=fun code=>(O7 fO hl (Yv5 _)).1
       simp[Instr.sliceBounds,hz,rO,oA,Result.andThen]
def uR{u:Option V}{y d m:Nat}(h:dG u y d=some m):m<=y\/(u=none/\m=d):=by
 cases u with
 |none=>simp only[dG,au]at h;exact .inr ⟨rfl,h.symm⟩
 |some u=>
  simp only[dG,Zed]at h
  split at h
  ·split at h
   ·simp only[au]at h;left;omega
   ·cases h
  ·cases h
def Zua(hh:Za9 P μ w st)(hr:RR μ r n a.tmps){t:TypeId}{x:Operand}{lo hi:Option Operand}{s:Src}{ls hs:Option Src}(ht:P.underlying t=some .string)(hx:bG P x=some s)
  (fO:rJ P lo=some ls) (iH:rJ P hi=some hs) (h:xW s ls hs call r st=some (v,st')):
  Za5 P μ w st (do pure (.value (<-Instr.sliceAt t (a.eval x) (lo.map a.eval) (hi.map a.eval) none))) v st':=by
 unfold xW at h
 split at h
 ·rename_i l vl vh h1 h2 h3
  have e1:=cU hh hr hx h1
  simp only[VR]at e1
  have e2:=sI hh hr fO h2
  have e3:=sI hh hr iH h3
  split at h
  ·rename_i hb pA
   split at h
   ·rename_i lb oR
    simp only[au,bE]at h
    obtain⟨rfl,rfl⟩:=h
    have jm:(⟨l.toArray⟩:ByteArray).size=l.length:=by show l.toArray.size=_;simp
    have bQ:=Jz (P:=P) (w:=w) (isS:=false) (len:=l.length) (y:=l.length) (k:=l.length) (mx:=none) (MX:=none) (m:=l.length) e2 e3 trivial (Yv5 _) (.inl ⟨rfl,rfl⟩) (by simpa using pA) oR
    refine Za5.value hh (x:=.string ((⟨l.toArray⟩:ByteArray).extract lb hb)) ?_ ?_
    ·simp[Instr.sliceAt,Instr.slice,run_underlying ht,e1,jm,bQ,Result.andThen]
    ·simp only[VR]
     congr 1
     apply ByteArray.ext
     rw[ByteArray.data_extract]
     apply zh
     simp[List.extract,List.drop_take]
   ·cases h
  ·cases h
 ·cases h
def Mn{t e:TypeId}{z:Nat}(ht:P.underlying t=some (.slice e))(hz:eZ P e=some z){A:Option Addr}{len c l h m:Nat}{LO HI MX:Option Value}
  (hb:(Instr.sliceBounds true len c LO HI MX).run P w=.ok (l,h,m) w):
  (Instr.sliceAt t (.slice A len c) LO HI MX).run P w=.ok (.slice (if m=l then A else A.map (·.add (l*z))) (h-l) (m-l)) w:=by
 simp[Instr.sliceAt,Instr.slice,run_underlying ht,hb,xq hz,Result.andThen]
def Zyy(hh:Za9 P μ w st)(hr:RR μ r n a.tmps){t e:TypeId}{z:Nat}{x:Operand}{lo hi mx:Option Operand}{s:Src}{ls hs ms:Option Src}(ht:P.underlying t=some (.slice e))(hz:eZ P e=some z)
  (hx:bG P x=some s) (fO:rJ P lo=some ls) (iH:rJ P hi=some hs) (dT:rJ P mx=some ms) (h:qH z s ls hs ms call r st=some (v,st')):
  Za5 P μ w st (do pure (.value (<-Instr.sliceAt t (a.eval x) (lo.map a.eval) (hi.map a.eval) (mx.map a.eval)))) v st':=by
 unfold qH at h
 split at h
 ·-- nil
  rename_i vl vh vm h1 h2 h3 h4
  have e1:=cU hh hr hx h1
  simp only[VR]at e1
  have e2:=sI hh hr fO h2
  have e3:=sI hh hr iH h3
  have e4:=sI hh hr dT h4
  split at h
  ·rename_i m hm
   split at h
   ·rename_i hb pA
    split at h
    ·rename_i lb oR
     split at h
     ·cases h
     ·rename_i hok
      simp only[au,bE]at h
      obtain⟨rfl,rfl⟩:=h
      have uD:m=0:=by rcases uR hm with h|h<;>omega
      have qN:hb=0:=by rcases uR pA with h|h<;>omega
      have tS:lb=0:=by rcases uR oR with h|h<;>omega
      subst uD qN tS
      have bQ:=Jz (P:=P) (w:=w) (isS:=true) (len:=0) (y:=0) (k:=0) e2 e3 e4 (Yv5 _) (m:=0) (h:=0) (l:=0)
       (by cases vm with
        |none=>exact .inl ⟨rfl,rfl⟩
        |some u=>cases vh with
         |none=>simp at hok
         |some u'=>exact .inr ⟨hm,rfl,rfl⟩)
       (by cases vm<;>simpa using pA) oR
      refine Za5.value hh (x:=.slice none 0 0) ?_ (by simp[VR])
      rw[e1,Mn ht hz bQ]
      simp
    ·cases h
   ·cases h
  ·cases h
 ·-- not nil,empty
  rename_i vl vh h1 h2 h3 h4
  have e1:=cU hh hr hx h1
  obtain⟨A,c,e1⟩:=e1
  have e2:=sI hh hr fO h2
  have e3:=sI hh hr iH h3
  have e4:=sI hh hr dT h4
  split at h
  ·rename_i hb pA
   split at h
   ·rename_i lb oR
    simp only[au,bE]at h
    obtain⟨rfl,rfl⟩:=h
    have qN:hb=0:=by rcases uR pA with h|h<;>omega
    have tS:lb=0:=by rcases uR oR with h|h<;>omega
    subst qN tS
    have bQ:=Jz (P:=P) (w:=w) (isS:=true) (len:=0) (y:=0) (k:=c) e2 e3 e4 (tR _) (m:=c) (h:=0) (l:=0) (.inl ⟨rfl,rfl⟩) (by simpa using pA) oR
    refine Za5.value hh (x:=.slice (some (if c=0 then A else A.add (0*z))) 0 (c-0)) ?_ ⟨_,_,rfl⟩
    rw[e1,Mn ht hz bQ]
    split<;>simp
   ·cases h
  ·cases h
 ·-- the capacity is known
  rename_i i o len c sz vl vh vm h1 h2 h3 h4
  obtain⟨l,c',hl,e1,hlen,zN,hc,_⟩:=cU hh hr hx h1
  have:=hc c rfl;subst this
  have e2:=sI hh hr fO h2
  have e3:=sI hh hr iH h3
  have e4:=sI hh hr dT h4
  split at h
  ·cases h
  ·rename_i hok
   simp only[not_or,Decidable.not_not,Bool.not_eq_true]at hok
   obtain⟨rfl,hok⟩:=hok
   split at h
   ·rename_i m hm
    split at h
    ·rename_i hb pA
     split at h
     ·rename_i lb oR
      simp only[au,bE]at h
      obtain⟨rfl,rfl⟩:=h
      have hmc:m<=c':=by rcases uR hm with h|h<;>omega
      have bQ:=Jz (P:=P) (w:=w) (isS:=true) (len:=len) (y:=c') (k:=c') e2 e3 e4 (Yv5 _) (m:=m) (h:=hb) (l:=lb)
       (by cases vm with
        |none=>simp only[dG,au]at hm;exact .inl ⟨rfl,hm.symm⟩
        |some u=>cases vh with
         |none=>simp at hok
         |some u'=>exact .inr ⟨hm,rfl,rfl⟩)
       (by cases vm with
        |none=>simp only[dG,au]at hm;subst hm;simpa using pA
        |some u=>simpa using pA) oR
      have hhm:hb<=m:=by
       rcases uR pA with h|⟨h,h'⟩
       ·exact h
       ·subst h
        cases vm with
        |none=>simp only[dG,au]at hm;omega
        |some u=>simp at hok
      have O6:lb<=hb:=by rcases uR oR with h|h<;>omega
      have k1:m*sz<=c'*sz:=ot _ hmc
      have k2:(m-lb)*sz=m*sz-lb*sz:=Nat.sub_mul _ _ _
      have k3:lb*sz<=m*sz:=ot _ (by omega)
      refine Za5.value hh (x:=.slice (some ⟨l.b,l.d+(if m=lb then o else o+lb*sz),none⟩) (hb-lb) (m-lb)) ?_ ⟨l,m-lb,hl,rfl,by omega,?_,fun k hk=>by simpa using hk,by simp⟩
      ·rw[e1,Mn ht hz bQ]
       split<;>simp[vZ,oZ]
      ·split
       ·rename_i e;subst e;simp;omega
       ·omega
     ·cases h
    ·cases h
   ·cases h
 ·-- the capacity is not known
  rename_i i o len sz vl vh vm h1 h2 h3 h4
  obtain⟨l,cw,hl,e1,hlen,zN,_,htn⟩:=cU hh hr hx h1
  have htn:=htn rfl
  have e2:=sI hh hr fO h2
  have e3:=sI hh hr iH h3
  have e4:=sI hh hr dT h4
  split at h
  ·cases h
  ·rename_i hok
   simp only[not_or,Decidable.not_not,Bool.not_eq_true]at hok
   obtain⟨rfl,tI,hok⟩:=hok
   split at h
   ·rename_i cs _ _ zgc
    obtain⟨c'',_,_,_,_,dW,_⟩:=hh.row hl zgc
    have hky:max len ((cs.length-o)/sz)<=cw:=by
     have:(cs.length-o)/sz<=cw:=by
      rw[Nat.div_le_iff_le_mul_add_pred (by omega)]
      have:sz*cw=cw*sz:=iz _ _
      omega
     omega
    have xr:len<=max len ((cs.length-o)/sz):=by omega
    generalize max len ((cs.length-o)/sz)=y at*
    dsimp only at h
    split at h
    ·rename_i um
     split at h
     ·rename_i m hm
      split at h
      ·rename_i hb pA
       split at h
       ·rename_i lb oR
        simp only[au,bE]at h
        obtain⟨rfl,rfl⟩:=h
        cases vh with
        |none=>simp at hok
        |some uh=>
        have hmy:m<=y:=by
         rcases uR (u:=some um) (d:=0) hm with h|h
         ·exact h
         ·simp at h
        have bQ:=Jz (P:=P) (w:=w) (isS:=true) (len:=len) (y:=y) (k:=cw) e2 e3 e4 hky (m:=m) (h:=hb) (l:=lb) (.inr ⟨hm,rfl,rfl⟩) (by simpa using pA) oR
        have hhm:hb<=m:=by
         rcases uR pA with h|⟨h,h'⟩
         ·exact h
         ·simp at h
        have O6:lb<=hb:=by rcases uR oR with h|h<;>omega
        have k1:m*sz<=cw*sz:=ot _ (by omega)
        have k2:(m-lb)*sz=m*sz-lb*sz:=Nat.sub_mul _ _ _
        have k3:lb*sz<=m*sz:=ot _ (by omega)
        refine Za5.value hh (x:=.slice (some ⟨l.b,l.d+(if m=lb then o else o+lb*sz),none⟩) (hb-lb) (m-lb)) ?_ ⟨l,m-lb,hl,rfl,by omega,?_,fun k hk=>by simpa using hk,by simp⟩
        ·rw[e1,Mn ht hz bQ]
         split<;>simp[vZ,oZ]
        ·split
         ·rename_i e;subst e;simp;omega
         ·omega
       ·cases h
      ·cases h
     ·cases h
    ·split at h
     ·rename_i hb pA
      split at h
      ·rename_i lb oR
       have bQ:=Jz (P:=P) (w:=w) (isS:=true) (len:=len) (y:=y) (k:=cw) e2 e3 e4 hky (m:=cw) (h:=hb) (l:=lb) (.inl ⟨rfl,rfl⟩) (by simpa using pA) oR
       have hhm:hb<=y:=by rcases uR pA with h|⟨h,h'⟩<;>omega
       have O6:lb<=hb:=by rcases uR oR with h|h<;>omega
       have k2:(cw-lb)*sz=cw*sz-lb*sz:=Nat.sub_mul _ _ _
       have k3:lb*sz<=cw*sz:=ot _ (by omega)
       split at h
       ·rename_i aW
        simp only[au,bE]at h
        obtain⟨rfl,rfl⟩:=h
        refine Za5.value hh (x:=.slice (some ⟨l.b,l.d+(o+lb*sz),none⟩) (hb-lb) (cw-lb)) ?_ ⟨l,cw-lb,hl,rfl,by omega,by omega,by simp,fun _=>by omega⟩
        rw[e1,Mn ht hz bQ]
        rw[aA (by omega)]
        simp[vZ,oZ]
       ·simp only[au,bE]at h
        obtain⟨rfl,rfl⟩:=h
        have:hb-lb=0:=by omega
        refine Za5.value hh (x:=.slice (some (if cw=lb then ⟨l.b,l.d+o,none⟩ else (⟨l.b,l.d+o,none⟩:Addr).add (lb*sz))) 0 (cw-lb)) ?_ ⟨_,_,rfl⟩
        rw[e1,Mn ht hz bQ,this]
        split<;>simp
      ·cases h
     ·cases h
   ·cases h
 ·cases h
def Zub(hh:Za9 P μ w st)(hr:RR μ r n a.tmps){t e:TypeId}{k z:Nat}{x:Operand}{lo hi mx:Option Operand}{s:Src}{ls hs ms:Option Src}(ht:P.underlying t=some (.array k e))(hz:eZ P e=some z)
  (hx:bG P x=some s) (fO:rJ P lo=some ls) (iH:rJ P hi=some hs) (dT:rJ P mx=some ms) (h:zk k z s ls hs ms call r st=some (v,st')):
  Za5 P μ w st (do pure (.value (<-Instr.sliceAt t (a.eval x) (lo.map a.eval) (hi.map a.eval) (mx.map a.eval)))) v st':=by
 unfold zk at h
 split at h
 ·rename_i i o vl vh h1 h2 h3 h4
  obtain⟨l,hl,e1⟩:=cU hh hr hx h1
  have e2:=sI hh hr fO h2
  have e3:=sI hh hr iH h3
  have e4:=sI hh hr dT h4
  split at h
  ·rename_i hb pA
   split at h
   ·rename_i lb oR
    split at h
    ·rename_i cs _ _ zgc
     split at h
     ·rename_i cZ
      simp only[au,bE]at h
      obtain⟨rfl,rfl⟩:=h
      obtain⟨c'',_,_,_,_,dW,_⟩:=hh.row hl zgc
      have bQ:=Jz (P:=P) (w:=w) (isS:=false) (len:=k) (y:=k) (k:=k) e2 e3 e4 (Yv5 _) (m:=k) (h:=hb) (l:=lb) (.inl ⟨rfl,rfl⟩) (by simpa using pA) oR
      have hhm:hb<=k:=by rcases uR pA with h|⟨h,h'⟩<;>omega
      have O6:lb<=hb:=by rcases uR oR with h|h<;>omega
      have k2:(k-lb)*z=k*z-lb*z:=Nat.sub_mul _ _ _
      have k3:lb*z<=k*z:=ot _ (by omega)
      have O4:=cZ.1
      refine Za5.value hh (x:=.slice (some ⟨l.b,l.d+(if k=lb then o else o+lb*z),none⟩) (hb-lb) (k-lb)) ?_ ⟨l,k-lb,hl,rfl,by omega,?_,fun k hk=>by simpa using hk,by simp⟩
      ·simp only[Instr.sliceAt,Sem.run_bind,run_underlying ht,Result.andThen,Instr.sureAddr,e1,Sem.run_pure,bQ,xq hz]
       split<;>simp[vZ,oZ]
      ·split
       ·rename_i e;subst e;simp;omega
       ·omega
     ·cases h
    ·cases h
   ·cases h
  ·cases h
 ·cases h
end
section
variable {P:Program} {μ:Mu} {w:World} {st st':St} {r:T V} {n:Nat} {a:Act} {call:cP} {v:V}
def Jx{α:Type}{c vs:List α}{o:Nat}(h:o+vs.length<=c.length):(aj c o vs).length=c.length:=by
 simp[aj];omega
def Mm{α:Type}{c vs:List α}{o:Nat}(h:o+vs.length<=c.length)(j:Nat):(aj c o vs)[j]?=if o<=j/\j<o+vs.length then vs[j-o]? else c[j]?:=by
 have aW:(c.take o).length=o:=by simp;omega
 unfold aj
 rw[rB]
 by_cases h1:j<o
 ·rw[xJ (by omega),aA (by omega),kW,aR h1]
 ·rw[Ig (by omega),aW]
  by_cases h2:j<o+vs.length
  ·rw[xJ (by omega),aR ⟨by omega,h2⟩]
  ·rw[Ig (by omega),aA (by omega),gH]
   congr 1;omega
def bf.aj{c vs:List V}{c' lD:List Value}(h:bf μ c c')(h':bf μ vs lD)(o:Nat):bf μ (aj c o vs) (aj c' o lD):=by
 unfold Mx.aj
 rw[h'.length]
 exact((h.take o).append h').append (h.drop _)
def Znc{α:Type}(c:List α)(o:Nat)(x:α)(vs:List α)(h:o<c.length):Mx.aj (c.set o x) (o+1) vs=Mx.aj c o (x::vs):=by
 unfold Mx.aj
 have e1:(c.set o x).take (o+1)=c.take o++[x]:=by
  rw[HQ,List.take_set_of_le (Yv5 _)]
  simp[h]
 have e2:(c.set o x).drop (o+1+vs.length)=c.drop (o+(vs.length+1)):=by
  rw[List.drop_set_of_lt (by omega)]
  congr 1;omega
 rw[e1,e2]
 simp
def Yi3(off:Nat):∀(vs:List Value) (k:Nat) (cs:List Value),off+k+vs.length<=cs.length->
  (vs.zipIdx k).foldl (fun (cs:Array Value) (p:Value×Nat)=>cs.setIfInBounds (off+p.2) p.1) ⟨cs⟩=⟨aj cs (off+k) vs⟩:=by
 intro vs
 induction vs with
 |nil=>intro k cs h;simp[aj]
 |cons x vs ih=>
  intro k cs h
  simp only[bC]at h
  simp only[List.zipIdx_cons,List.foldl_cons]
  have e:(⟨cs⟩:Array Value).setIfInBounds (off+k) x=⟨cs.set (off+k) x⟩:=by
   apply zh
   simp
  rw[e,ih (k+1) (cs.set (off+k) x) (by simp;omega),<-oZ,Znc _ _ _ _ (by omega)]
def Zq3(hh:Za9 P μ w st)(hr:RR μ r n a.tmps){place:Nat->Option (Nat×Nat)}:∀{parts:List (Nat×Operand)} {tF:List (Nat×Nat×Src)},AJ P place parts=some tF->
  ∀{ps:List (Nat×Nat×V)},AT r tF=some ps->∀{cs:List V} {AH:List Value},bf μ cs AH->∀{l:List V},AS cs ps=some l->
  ∃l',Instr.fill place ⟨AH⟩ (parts.map fun p=>(p.1,a.eval p.2))=some ⟨l'⟩/\bf μ l l':=by
 intro parts
 induction parts with
 |nil=>
  intro tF hc ps he cs AH sX l hl
  simp only[AJ,au]at hc;subst hc
  simp only[AT,au]at he;subst he
  simp only[AS,au]at hl;subst hl
  exact⟨AH,by simp[Instr.fill],sX⟩
 |cons p parts ih=>
  intro tF hc ps he cs AH sX l hl
  obtain⟨i,x⟩:=p
  simp only[AJ]at hc
  split at hc
  ·rename_i o s sx l' hp hx gK
   simp only[au]at hc;subst hc
   simp only[AT]at he
   split at he
   ·rename_i u vs hu Jq
    simp only[au]at he;subst he
    simp only[AS]at hl
    split at hl
    ·rename_i cZ
     have TU:=cU hh hr hx hu
     have zgk:=TU.cells
     have hlen:(a.eval x).cells.size=s:=by
      have:=zgk.length
      rw[<-cZ.1,<-this];simp
     have fy:(a.eval x).cells.toList.length=s:=by simpa using hlen
     obtain⟨l'',h1,h2⟩:=ih gK Jq (sX.aj zgk o) hl
     refine⟨l'',?_,h2⟩
     simp only[Yw1,Instr.fill,hp]
     rw[aA]
     ·have e:((a.eval x).cells.zipIdx.foldl (fun (cs:Array Value) (p:Value×Nat)=>cs.setIfInBounds (o+p.2) p.1) ⟨AH⟩)=⟨aj AH o (a.eval x).cells.toList⟩:=by
       rw[<-Array.foldl_toList,Array.toList_zipIdx]
       have:=Yi3 o (a.eval x).cells.toList 0 AH (by rw[fy,sX.length];omega)
       simpa using this
      rw[<-h1]
      congr 1
     ·have dW:=sX.length
      simp only[hlen,ne_eq,not_true_eq_false,decide_false,Bool.false_or,decide_eq_true_eq]
      simp[dW];omega
    ·cases hl
   ·cases he
  ·cases hc
def Zzb:∀{fs:List Field} {pl:List (Nat×Nat)},Ls P fs=some pl->fs.mapM (fun f=>(P.info? f.type).map fun i=>(f.offset,i.size))=some pl:=by
 intro fs
 induction fs with
 |nil=>intro pl h;simp only[Ls,au]at h;subst h;simp
 |cons f fs ih=>
  intro pl h
  simp only[Ls]at h
  split at h
  ·rename_i s l hs hl
   simp only[au]at h;subst h
   unfold eZ at hs
   simp only[Ywc]at hs
   obtain⟨i,hi,rfl⟩:=hs
   simp[List.mapM_cons,hi,ih hl]
  ·cases h
def Jv{t:TypeId}{z:V}(h:oo P t=some z):∃i x,P.info? t=some i/\i.zero=some x/\∀μ,VR μ z x:=by
 unfold oo at h
 split at h
 ·rename_i i hi
  split at h
  ·rename_i x hx
   exact⟨i,x,hi,hx,fun μ=>TN μ x z h⟩
  ·cases h
 ·cases h
def Zoq(hh:Za9 P μ w st)(hr:RR μ r n a.tmps){t:TypeId}{fs:Array Field}{pl:List (Nat×Nat)}{z:V}{parts:Array (Nat×Operand)}{tF:List (Nat×Nat×Src)}
  (hz:oo P t=some z) (ht:P.underlying t=some (.struct fs)) (hp:Ls P fs.toList=some pl) (hc:AJ P (pl[·]?) parts.toList=some tF) (h:B1 z.cells tF call r st=some (v,st')):
  Za5 P μ w st (do pure (.value (<-Instr.build t (parts.map fun (i,x)=>(i,a.eval x))))) v st':=by
 unfold B1 at h
 split at h
 ·rename_i ps zS
  split at h
  ·rename_i l hl
   simp only[au,bE]at h
   obtain⟨rfl,rfl⟩:=h
   obtain⟨i,x,hi,hx,py⟩:=Jv hz
   obtain⟨l',h1,h2⟩:=Zq3 hh hr hc zS (py μ).cells hl
   refine Za5.value hh (x:=.agg ⟨l'⟩) (run_build w t _ _ ?_) ⟨l',rfl,h2⟩
   simp only[Program.built,hi,ht,hx,Zzb hp]
   rw[<-h1]
   simp
  ·cases h
 ·cases h
def Zo5(hh:Za9 P μ w st)(hr:RR μ r n a.tmps){t e:TypeId}{k s:Nat}{z:V}{parts:Array (Nat×Operand)}{tF:List (Nat×Nat×Src)}
  (hz:oo P t=some z) (ht:P.underlying t=some (.array k e)) (hs:eZ P e=some s) (hc:AJ P (fun i=>some (i*s,s)) parts.toList=some tF) (h:B1 z.cells tF call r st=some (v,st')):
  Za5 P μ w st (do pure (.value (<-Instr.build t (parts.map fun (i,x)=>(i,a.eval x))))) v st':=by
 unfold B1 at h
 split at h
 ·rename_i ps zS
  split at h
  ·rename_i l hl
   simp only[au,bE]at h
   obtain⟨rfl,rfl⟩:=h
   obtain⟨i,x,hi,hx,py⟩:=Jv hz
   unfold eZ at hs
   simp only[Ywc]at hs
   obtain⟨ie,hie,rfl⟩:=hs
   obtain⟨l',h1,h2⟩:=Zq3 hh hr hc zS (py μ).cells hl
   refine Za5.value hh (x:=.agg ⟨l'⟩) (run_build w t _ _ ?_) ⟨l',rfl,h2⟩
   simp only[Program.built,hi,ht,hx,hie]
   rw[<-h1]
   simp
  ·cases h
 ·cases h
def O9{vs:List V}{xs:List Value}(h:bf μ vs xs)(hv:vs.all V.one=true):∀x∈xs,x.oneCell'=true:=by
 intro x hx
 obtain⟨j,hj⟩:=Nd hx
 have hl:=h.length
 have TV:j<xs.length:=(AM.1 hj).1
 have:∃u,vs[j]?=some u:=⟨vs[j]'(by omega),by simp⟩
 obtain⟨u,hu⟩:=this
 obtain⟨y,h1,h2⟩:=h.get hu
 rw[hj]at h1;cases h1
 have zp:u.one=true:=by
  rw[uv]at hv
  exact hv u (eI hu)
 have:=h2.one zp
 cases x<;>simp_all [Value.oneCell']
def Za5.newRow(hh:Za9 P μ w st){s:Sem Value}{x:Value}{cs:List V}{xs:List Value}{e:TypeId}(hs:s.run P w=.ok x (w.alloc (.cells ⟨xs⟩ e)))
  (hc:bf μ cs xs) (h1:∀x∈xs,x.oneCell'=true) (hv:VR (fun i=>if i=st.n then some ⟨w.heap.size,0,xs.length⟩ else μ i) v x):
  Za5 P μ w st (do pure (.value (<-s))) v (st.alloc (.cells cs e true)):=by
 have dE:∀i l,μ i=some l->(fun i=>if i=st.n then some (⟨w.heap.size,0,xs.length⟩:L) else μ i) i=some l:=fun i l hl=>by
  have:=(hh.dom i l hl).1
  simp only
  rw[aA (by omega)];exact hl
 refine⟨Next.value x,x,_,_,[],by simp[hs,Result.andThen],.inl rfl,hv,bK.alloc hh (.cells cs e true) (.cells ⟨xs⟩ e) 0 xs.length ⟨⟨xs⟩,0,0,?_,by simp,by simp[hc.length],fun j u hu=>?_,fun j y _ hy=>?_,fun _=>⟨rfl,fun j hj=>by omega⟩⟩⟩
 ·simp
 ·obtain⟨y,hy,hr⟩:=hc.get hu
  exact⟨y,by simpa using hy,VR.mono dE u y hr⟩
 ·exact h1 y (eI (by simpa using hy))
def Yj3(hh:Za9 P μ w st){e:TypeId}{z:V}(hz:oo P e=some z)(cK:z.cells.all V.one=true)(h:LG z.cells e call r st=some (v,st')):
  Za5 P μ w st (do pure (.value (<-Instr.alloc e true (.tuple #[])))) v st':=by
 unfold LG at h
 simp only[au,bE]at h
 obtain⟨rfl,rfl⟩:=h
 obtain⟨i,x,hi,hx,py⟩:=Jv hz
 refine Za5.newRow hh (v:=.ptr st.n 0) (xs:=x.cells.toList) (x:=.pointer (some ⟨w.heap.size,0,none⟩)) ?_ (py μ).cells (O9 (py μ).cells cK) (by simp only[VR];exact⟨⟨w.heap.size,0,x.cells.toList.length⟩,by simp,by simp⟩)
 simp[Instr.alloc,zeroValue,typeInfo,hi,hx,newVar,Go.newRow,Result.andThen]
def Yrj(hh:Za9 P μ w st)(hr:RR μ r n a.tmps){e:TypeId}{x:Operand}{s:Src}(hx:bG P x=some s)(h:IK e s call r st=some (v,st')):
  Za5 P μ w st (do pure (.value (<-Instr.box e (a.eval x)))) v st':=by
 unfold IK at h
 split at h
 ·rename_i u hu
  split at h
  ·rename_i cK
   simp only[au,bE]at h
   obtain⟨rfl,rfl⟩:=h
   have TU:=cU hh hr hx hu
   refine Za5.newRow hh (v:=.ptr st.n 0) (xs:=(a.eval x).cells.toList) (x:=.pointer (some ⟨w.heap.size,0,none⟩)) ?_ TU.cells (O9 TU.cells cK) (by simp only[VR];exact⟨⟨w.heap.size,0,_⟩,by simp;rfl,by simp⟩)
   simp[Instr.box,newVar,Go.newRow,Result.andThen]
  ·cases h
 ·cases h
end
section
variable {P:Program} {μ:Mu} {w:World} {st st':St} {r:T V} {n:Nat} {a:Act} {call:cP} {v:V}
def Zm2(zs:List V)(k:Nat):(dr zs k).length=k*zs.length:=by simp[dr]
def TS{zs:List V}{xs:List Value}(h:bf μ zs xs)(k:Nat):bf μ (dr zs k) (madeCells ⟨xs⟩ (k*zs.length)).toList:=by
 have hl:=h.length
 refine bf.ziK (by simp[dr,madeCells]) fun j u hu=>?_
 have hj:j<k*zs.length:=by
  have:=(AM.1 hu).1
  simpa[dr]using this
 have hz:0<zs.length:=by
  rcases NY zs.length with e|e
  ·rw[e]at hj;simp at hj
  ·exact e
 have CB:j%zs.length<zs.length:=kf _ hz
 simp only[dr,jT,NX hj,BX,au]at hu
 obtain⟨y,h1,h2⟩:=h.get (i:=j%zs.length) (v:=zs[j%zs.length]) (by simp[CB])
 refine⟨y,?_,?_⟩
 ·simp only[madeCells,Array.toList_map,Array.toList_range,jT,NX hj,BX,au]
  have iE:(⟨xs⟩:Array Value)[j%xs.length]?=some y:=by rw[hl];simpa using h1
  simp only[Array.size,getElem!_def,iE]
 ·rw[<-hu]
  simpa[List.getD,CB]using h2
def Zp6{zs:List V}(h:zs.all V.one=true)(k:Nat):∀{xs:List Value},bf μ (dr zs k) xs->∀x∈xs,x.oneCell'=true:=by
 intro xs hx
 refine O9 hx ?_
 rw[uv]
 intro u hu
 simp only[dr,vo,Dh]at hu
 obtain⟨j,hj,rfl⟩:=hu
 have hz:0<zs.length:=by
  rcases NY zs.length with e|e
  ·rw[e]at hj;simp at hj
  ·exact e
 have CB:j%zs.length<zs.length:=kf _ hz
 rw[uv]at h
 simpa[List.getD,CB]using h zs[j%zs.length] (by simp)
def Ygc(hh:Za9 P μ w st)(hr:RR μ r n a.tmps){t e:TypeId}{s len:Nat}{z:V}{parts:Array (Nat×Operand)}{tF:List (Nat×Nat×Src)}
  (ht:P.underlying t=some (.slice e)) (hs:eZ P e=some s) (hz:oo P e=some z) (hle:¬len*s > 2^24) (OY:z.cells.length=s)
  (hc:AJ P (fun i=>some (i*s,s)) parts.toList=some tF) (h:IL e s len (dr z.cells len) tF call r st=some (v,st')):
  Za5 P μ w st (do pure (.value (<-Instr.buildSlice t len (parts.map fun (i,x)=>(i,a.eval x))))) v st':=by
 unfold IL at h
 split at h
 ·rename_i ps zS
  split at h
  ·rename_i l hl
   split at h
   ·rename_i cK
    simp only[au,bE]at h
    obtain⟨rfl,rfl⟩:=h
    obtain⟨i,x,hi,hx,py⟩:=Jv hz
    have zT:=(py μ).cells
    have nO:=TS zT len
    rw[OY]at nO
    obtain⟨l',h1,h2⟩:=Zq3 hh hr hc zS nO hl
    have JA:=h2.length
    refine Za5.newRow hh (v:=.slice st.n 0 len (some len) s) (xs:=l') (x:=.slice (some ⟨w.heap.size,0,none⟩) len len) ?_ h2 (O9 h2 cK) ?_
    ·have iE:Instr.fill (fun i=>some (i*s,s)) (madeCells x.cells (len*s)) (parts.map fun p=>(p.1,a.eval p.2)).toList=some ⟨l'⟩:=by
      rw[<-h1]
      simp
     simp only[Instr.buildSlice,Sem.run_bind,run_underlying ht,Result.andThen,xq hs,aA hle]
     split
     ·rename_i e0
      have zgk:((Array.range (len*s)).map ((#[]:Array Value)[·%(#[]:Array Value).size]!))=madeCells x.cells (len*s):=by
       simp[madeCells,e0]
      simp only[Sem.run_bind,Sem.run_pure,Result.andThen,zgk]
      rw[iE]
      simp[Go.newRow,Result.andThen]
     ·have zgk:((Array.range (len*s)).map (x.cells[·%x.cells.size]!))=madeCells x.cells (len*s):=rfl
      simp only[zeroValue,typeInfo,Sem.run_bind,Sem.run_pure,Result.andThen,hi,hx,run_program]
      simp only[zgk]
      rw[iE]
      simp[Go.newRow,Result.andThen]
    ·have Pa:l.length=len*s:=by
      have:∀(ps:List (Nat×Nat×V)) (cs l:List V),AS cs ps=some l->l.length=cs.length:=by
       intro ps
       induction ps with
       |nil=>intro cs l h;simp only[AS,au]at h;rw[h]
       |cons p ps ih=>
        intro cs l h
        obtain⟨o,s,u⟩:=p
        simp only[AS]at h
        split at h
        ·rename_i hc
         rw[ih _ _ h,Jx (by omega)]
        ·cases h
      rw[this ps _ l hl,Zm2,OY]
     simp only[VR]
     exact⟨⟨w.heap.size,0,l'.length⟩,len,by simp,by simp,Yv5 _,by simp[JA,Pa],by simp,by simp⟩
   ·cases h
  ·cases h
 ·cases h
def Zzv(hh:Za9 P μ w st)(hr:RR μ r n a.tmps){t e:TypeId}{s b:Nat}{z:V}{x y:Operand}{sx sy:Src}(ht:P.underlying t=some (.slice e))(hs:eZ P e=some s)(hb:AI P e=some b)(hz:oo P e=some z)
  (cK:z.cells.all V.one=true) (hx:bG P x=some sx) (hy:bG P y=some sy) (h:B2 e s b z.cells sx sy call r st=some (v,st')):
  Za5 P μ w st (do pure (.value (<-Instr.makeSlice t (a.eval x) (a.eval y)))) v st':=by
 unfold B2 at h
 split at h
 ·rename_i k l k' c h1 h2
  have e1:=cU hh hr hx h1
  have e2:=cU hh hr hy h2
  simp only[VR]at e1 e2
  split at h
  ·rename_i hc
   obtain⟨tS,Bg,hbc,zfJ,jm,vY⟩:=hc
   simp only[au,bE]at h
   obtain⟨rfl,rfl⟩:=h
   obtain⟨i,zx,hi,py,Mi⟩:=Jv hz
   unfold eZ at hs
   unfold AI at hb
   simp only[hi,BX,au]at hs hb
   have zT:=(Mi μ).cells
   have nO:=TS zT c.toNat
   rw[<-jm]at nO
   have bQ:=run_make (P:=P) w t e i zx ht hi py k k' l c tS Bg (by rw[hb];omega) (by omega)
   rw[hs]at bQ
   refine Za5.newRow hh (v:=.slice st.n 0 l.toNat (some c.toNat) s) (xs:=(madeCells zx.cells (c.toNat*s)).toList) (x:=.slice (some ⟨w.heap.size,0,none⟩) l.toNat c.toNat) ?_ nO (Zp6 cK c.toNat nO) ?_
   ·rw[e1,e2,bQ]
   ·simp only[VR]
    exact⟨⟨w.heap.size,0,_⟩,c.toNat,by simp;rfl,by simp,by omega,by simp[madeCells],by simp,by simp⟩
  ·cases h
 ·cases h
def Za5.newObj(hh:Za9 P μ w st){s:Sem Value}{x:Value}{o:O}{ob:Obj}(hs:s.run P w=.ok x (w.alloc ob))
  (ho:OM P (fun i=>if i=st.n then some ⟨w.heap.size,0,0⟩ else μ i) (w.alloc ob) o ⟨w.heap.size,0,0⟩) (hv:VR (fun i=>if i=st.n then some ⟨w.heap.size,0,0⟩ else μ i) v x):
  Za5 P μ w st (do pure (.value (<-s))) v (st.alloc o):=
 ⟨Next.value x,x,_,_,[],by simp[hs,Result.andThen],.inl rfl,hv,bK.alloc hh o ob 0 0 ho⟩
def Zov(w:World)(o:Obj):(w.alloc o).heap[w.heap.size]?=some o:=by
 show (w.heap.push o)[w.heap.size]?=some o
 simp
def Yin(hh:Za9 P μ w st){t:TypeId}(h:LJ call r st=some (v,st')):Za5 P μ w st (do pure (.value (<-Instr.makeMap t none))) v st':=by
 unfold LJ at h
 simp only[au,bE]at h
 obtain⟨rfl,rfl⟩:=h
 refine Za5.newObj hh (v:=.map st.n) (x:=.map (some w.heap.size)) (ob:=.map #[] 0) ?_ ⟨[],by simpa using Zov w _,rfl⟩ ?_
 ·simp[Instr.makeMap,Result.andThen]
 ·simp only[VR];exact⟨⟨w.heap.size,0,0⟩,by simp,rfl⟩
def Yd6(hh:Za9 P μ w st)(hr:RR μ r n a.tmps){t e:TypeId}{d:ChanDir}{b:Nat}{x:Operand}{s:Src}(ht:P.underlying t=some (.chan d e))(hb:AI P e=some b)(hx:bG P x=some s)
  (h:DM b s call r st=some (v,st')):Za5 P μ w st (do pure (.value (<-Instr.makeChan t (a.eval x)))) v st':=by
 unfold DM at h
 split at h
 ·rename_i q k hk
  have e1:=cU hh hr hx hk
  simp only[VR]at e1
  split at h
  ·cases h
  ·rename_i hc
   simp only[au,bE]at h
   obtain⟨rfl,rfl⟩:=h
   unfold AI at hb
   simp only[Ywc]at hb
   obtain⟨i,hi,rfl⟩:=hb
   refine Za5.newObj hh (v:=.chan st.n) (x:=.chan (some w.heap.size)) (ob:=.chan k.toNat #[] false 0 0 false) ?_ ⟨[],0,0,by simpa using Zov w _,by simp[bf]⟩ ?_
   ·simp only[Instr.makeChan,e1,asInt,asIntOf,run_underlying ht,typeInfo,hi,aA hc,Result.andThen,Sem.run_bind,Sem.run_pure,run_program,run_newObj]
    rfl
   ·simp only[VR];exact⟨⟨w.heap.size,0,0⟩,by simp,rfl⟩
 ·cases h
def Zun(hh:Za9 P μ w st)(hr:RR μ r n a.tmps){t:TypeId}{x:Operand}{s:Src}(ht:P.underlying t=some .string)(hx:bG P x=some s)
  (h:IY s call r st=some (v,st')):Za5 P μ w st (do pure (.value (<-Instr.range t (a.eval x)))) v st':=by
 unfold IY at h
 split at h
 ·rename_i q hk
  have e1:=cU hh hr hx hk
  simp only[VR]at e1
  simp only[au,bE]at h
  obtain⟨rfl,rfl⟩:=h
  refine Za5.newObj hh (v:=.ptr st.n 0) (x:=.pointer (some ⟨w.heap.size,0,none⟩)) (ob:=.stringIter ⟨q.toArray⟩ 0) ?_ (by simp only[OM];exact⟨Zov w _,trivial⟩) ?_
  ·simp[Instr.range,e1,run_underlying ht,Result.andThen]
  ·simp only[VR];exact⟨⟨w.heap.size,0,0⟩,by simp,rfl⟩
 ·cases h
def Zdq(g o:Nat)(t:TypeId)(lo hi:Nat):∀(vs:List Value) (i:Nat) (cur:List Value) (w:World),w.heap[g]?=some (.cells ⟨cur⟩ t (lo,hi))->o+i+vs.length<=cur.length->(∀v∈vs,v.oneCell'=true)->
  (∀j,o+i<=j->j<o+i+vs.length->¬(lo<=j/\j<hi))->(storeCells ⟨g,o,none⟩ vs i).run P w=.ok () (w.setRow g ⟨aj cur (o+i) vs⟩)
 |[],i,cur,w,hg,_,_,_=>by
  have e:aj cur (o+i) []=cur:=by simp[aj]
  rw[e,setRow_self w g _ t _ hg]
  simp[storeCells]
 |v::rest,i,cur,w,hg,hl,h1,hf=>by
  simp only[bC]at hl
  have gZ:o+i<cur.length:=by omega
  have fX:w.cell? ⟨g,o+i,none⟩=some cur[o+i]:=by simp[World.cell?,hg,gZ]
  have zel:w.frozen? ⟨g,o+i,none⟩=false:=by
   have:=hf (o+i) (Yv5 _) (by simp)
   simp only[World.frozen?,hg]
   simp;omega
  have dM:(store ((⟨g,o,none⟩:Addr).add i) v).run P w=.ok () (w.setRow g ⟨cur.set (o+i) v⟩):=by
   rw[vZ,run_store P w _ v _ (h1 v (by simp)),fX]
   simp[zel,setCell_eq_setRow w g (o+i) _ t _ v hg]
  have ih:=Zdq g o t lo hi rest (i+1) (cur.set (o+i) v) (w.setRow g ⟨cur.set (o+i) v⟩) (setRow_heap w g _ _ t _ hg) (by simp;omega) (fun x hx=>h1 x (by simp[hx]))
   (fun j D4 qJ=>hf j (by omega) (by simp only[bC];omega))
  simp only[storeCells,Sem.run_bind,dM,Result.andThen_ok,ih,setRow_setRow]
  rw[<-oZ,Znc _ _ _ _ gZ]
def TR(hh:Za9 P μ w st){i o:Nat}{l:L}(hl:μ i=some l){c:List V}{e:TypeId}(zgc:st.row i=some (c,e,true)){vs:List V}{xs:List Value}(hv:bf μ vs xs)(h1:∀x∈xs,x.oneCell'=true)
  (hlen:o+vs.length<=c.length):
  ∃w',(storeCells ⟨l.b,l.d+o,none⟩ xs).run P w=.ok () w'/\bK P μ w st μ w' (st.write i (.cells (aj c o vs) e true)) [i]:=by
 obtain⟨c',lo,hi,g1,g2,g3,g4,g5,g6⟩:=hh.row hl zgc
 obtain⟨cur⟩:=c'
 have Cs:=hv.length
 simp only[List.size_toArray]at g2
 have bQ:=Zdq (P:=P) l.b (l.d+o) e lo hi xs 0 cur w g1 (by omega) h1 (fun j D4 qJ=>by
  have:=(g6 rfl).2 (j-l.d) (by omega)
  rw[show l.d+(j-l.d)=j by omega]at this
  exact this)
 refine⟨_,bQ,?_⟩
 have hb:=setRow_heap w l.b _ (⟨aj cur (l.d+o+0) xs⟩:Array Value) e _ g1
 refine bK.write hh hl (OT zgc) rfl rfl rfl rfl (by simp) (fun b hb=>setRow_other w l.b b _ hb) ⟨_,lo,hi,hb,?_,?_,?_,?_,g6⟩
 ·simp only[List.size_toArray]
  rw[Jx (by omega)];exact g2
 ·rw[Jx hlen];exact g3
 ·intro j u hu
  rw[Mm hlen]at hu
  have e':∀k:Nat,(⟨aj cur (l.d+o+0) xs⟩:Array Value)[k]?=(aj cur (l.d+o+0) xs)[k]?:=fun k=>by simp
  rw[e',Mm (by omega)]
  split at hu
  ·rename_i hj
   rw[aR (by omega)]
   obtain⟨y,hy,hr⟩:=hv.get hu
   exact⟨y,by rw[show l.d+j-(l.d+o+0)=j-o by omega];exact hy,hr⟩
  ·rename_i hj
   rw[aA (by omega)]
   obtain⟨y,hy,hr⟩:=g4 j u hu
   exact⟨y,by simpa using hy,hr⟩
 ·intro j x aW hx
  have e':(⟨aj cur (l.d+o+0) xs⟩:Array Value)[l.d+j]?=(aj cur (l.d+o+0) xs)[l.d+j]?:=by simp
  rw[e',Mm (by omega)]at hx
  split at hx
  ·exact h1 x (eI hx)
  ·exact g5 j x aW (by simpa using hx)
def Yha(hh:Za9 P μ w st)(hr:RR μ r n a.tmps){t:TypeId}{k:Nat}{x y:Operand}{sx sy:Src}(hk:eZ P t=some k)(hx:bG P x=some sx)(hy:bG P y=some sy)
  (h:DK k sx sy call r st=some (v,st')):Za5 P μ w st (do Instr.storeAt t (a.eval x) (a.eval y);pure .skip) v st':=by
 unfold DK at h
 split at h
 ·rename_i i o u h1 h2
  obtain⟨l,hl,e1⟩:=cU hh hr hx h1
  have e2:=cU hh hr hy h2
  split at h
  ·rename_i c e zgc
   split at h
   ·rename_i hc
    simp only[au,bE]at h
    obtain⟨rfl,rfl⟩:=h
    have dW:=e2.cells
    have hlen:=dW.length
    obtain⟨w',hw,hs⟩:=TR hh hl zgc dW (O9 dW hc.2.2) (o:=o) (by omega)
    refine⟨.skip,undef,w',μ,[i],?_,.inr ⟨rfl,rfl⟩,⟨[],rfl,by simp[bf]⟩,hs⟩
    have jm:(a.eval y).cells.size=k:=by
     rw[<-hc.1,<-hlen];simp
    simp[Instr.storeAt,Instr.sureAddr,e1,storeVar,xq hk,jm,hw,Result.andThen]
   ·cases h
  ·cases h
 ·cases h
end
end Go.Mx
