/-
  The operations of M stand for the Go model's: slice expressions, lengths, the least and the greatest.
-/
import Derived.Test.YtlbophlgohokkaaGreatDoorMxOp1
set_option linter.all false
namespace Go.Mx
open Go
set_option maxHeartbeats 1000000
section
variable {P:Program} {μ:Mu} {w:World} {st av:St} {r:T V} {n:Nat} {a:Act} {call:cm} {v:V}
def DS(μ:Mu):Option V->Option Value->Prop
 |none,none=>True
 |some v,some x=>VR μ v x
 |_,_=>False
theorem qN(hh:bo P μ w st)(hr:RR μ r n a.tmps){x:Option Operand}{s:Option Src}(hc:pY P x=some s){v:Option V}(hv:ay r s=some v):DS μ v (x.map a.eval):=by
 rcases XE hh hr hc hv with⟨rfl,rfl⟩|⟨v',x',rfl,rfl,h⟩
 ·trivial
 ·exact h
theorem DS.isNone{v:Option V}{x:Option Value}(h:DS μ v x):x.isNone=v.isNone:=by
 cases v<;>cases x<;>simp_all [DS]
theorem IN{u:V}{X:Value}{y m k:Nat}{code:BoundsCode}(hu:VR μ u X)(h:jq u y=some m)(hk:y<=k):(Instr.sliceBound X k code).run P w=.ok m w/\m<=y:=by
 unfold jq at h
 split at h
 ·rename_i q z
  split at h
  ·rename_i hz
   simp only[aj]at h;subst h
   simp only[VR]at hu;subst hu
   have h2:z<=(k:Int):=by omega
   exact⟨by simp[Instr.sliceBound,asIntOf,hz.1,h2],by omega⟩
  ·cases h
 ·cases h
theorem DT{isS:Bool}{len y k:Nat}{lo hi mx:Option V}{LO HI MX:Option Value}(fj:DS μ lo LO)(fZ:DS μ hi HI)(di:DS μ mx MX)(hy:y<=k){m h l:Nat}
  (hm:(mx=none/\m=k)\/(cR mx y 0=some m/\mx.isSome=true/\hi.isSome=true)) (hh:cR hi (if mx=none then y else m) len=some h) (hl:cR lo h 0=some l):
  (Instr.sliceBounds isS len k LO HI MX).run P w=.ok (l,h,m) w:=by
 cases mx with
 |none=>
  cases MX with
  |some _=>exact di.elim
  |none=>
   have hmk:m=k:=by
    rcases hm with⟨_,e⟩|⟨_,e,_⟩
    ·exact e
    ·simp at e
   subst hmk
   simp only[if_true]at hh
   have xJ:∀Yk,LO=some Yk->∀code,(Instr.sliceBound Yk h code).run P w=.ok l w:=fun X e code=>by
    subst e
    cases lo with
    |none=>exact fj.elim
    |some u=>exact(IN fj hl (aS _)).1
   have mi:LO=none->l=0:=fun e=>by
    subst e
    cases lo with
    |none=>simpa[cR]using hl.symm
    |some u=>exact fj.elim
   have IP:∀Yl,HI=some Yl->∀code,(Instr.sliceBound Yl m code).run P w=.ok h w:=fun X e code=>by
    subst e
    cases hi with
    |none=>exact fZ.elim
    |some u=>exact(IN fZ hh hy).1
   have hh0:HI=none->h=len:=fun e=>by
    subst e
    cases hi with
    |none=>simpa[cR]using hh.symm
    |some u=>exact fZ.elim
   cases HI with
   |none=>
    have:=hh0 rfl;subst this
    cases LO with
    |none=>have:=mi rfl;subst this;simp[Instr.sliceBounds]
    |some X=>simp[Instr.sliceBounds,xJ X rfl,Result.andThen]
   |some Y=>
    cases LO with
    |none=>have:=mi rfl;subst this;simp[Instr.sliceBounds,IP Y rfl,Result.andThen]
    |some X=>simp[Instr.sliceBounds,xJ X rfl,IP Y rfl,Result.andThen]
 |some um=>
  cases MX with
  |none=>exact di.elim
  |some Z=>
   obtain⟨hm,iA⟩:cR (some um) y 0=some m/\hi.isSome=true:=by
    rcases hm with⟨e,_⟩|⟨e,_,e'⟩
    ·simp at e
    ·exact⟨e,e'⟩
   have hz:∀code,(Instr.sliceBound Z k code).run P w=.ok m w:=fun code=>(IN di hm hy).1
   simp only[reduceCtorEq,if_false]at hh
   cases hi with
   |none=>simp at iA
   |some u=>
    cases HI with
    |none=>exact fZ.elim
    |some Y=>
     have sC:∀code,(Instr.sliceBound Y m code).run P w=.ok h w:=fun code=>(IN fZ hh (aS _)).1
     cases lo with
     |none=>
      cases LO with
      |some _=>exact fj.elim
      |none=>
       simp only[cR,aj]at hl;subst hl
       simp[Instr.sliceBounds,hz,sC,Result.andThen]
     |some ul=>
      cases LO with
      |none=>exact fj.elim
      |some X=>
       have mR:∀code,(Instr.sliceBound X h code).run P w=.ok l w:=fun code=>(IN fj hl (aS _)).1
       simp[Instr.sliceBounds,hz,sC,mR,Result.andThen]
theorem sG{u:Option V}{y d m:Nat}(h:cR u y d=some m):m<=y\/(u=none/\m=d):=by
 cases u with
 |none=>simp only[cR,aj]at h;exact .inr ⟨rfl,h.symm⟩
 |some u=>
  simp only[cR,jq]at h
  split at h
  ·split at h
   ·simp only[aj]at h;left;omega
   ·cases h
  ·cases h
theorem Zta(hh:bo P μ w st)(hr:RR μ r n a.tmps){t:TypeId}{x:Operand}{lo hi:Option Operand}{s:Src}{ls hs:Option Src}(ht:P.underlying t=some .string)(hx:bu P x=some s)
  (fj:pY P lo=some ls) (fZ:pY P hi=some hs) (h:vT s ls hs call r st=some (v,av)):
  bg P μ w st (do pure (.value (<-Instr.sliceAt t (a.eval x) (lo.map a.eval) (hi.map a.eval) none))) v av:=by
 unfold vT at h
 split at h
 ·rename_i l vl vh h1 h2 h3
  have e1:=cF hh hr hx h1
  simp only[VR]at e1
  have e2:=qN hh hr fj h2
  have e3:=qN hh hr fZ h3
  split at h
  ·rename_i hb nQ
   split at h
   ·rename_i lb jv
    simp only[aj,bq]at h
    obtain⟨rfl,rfl⟩:=h
    have fz:(⟨l.toArray⟩:ByteArray).size=l.length:=by show l.toArray.size=_;simp
    have bI:=DT (P:=P) (w:=w) (isS:=false) (len:=l.length) (y:=l.length) (k:=l.length) (mx:=none) (MX:=none) (m:=l.length) e2 e3 trivial (aS _) (.inl ⟨rfl,rfl⟩) (by simpa using nQ) jv
    refine bg.value hh (x:=.string ((⟨l.toArray⟩:ByteArray).extract lb hb)) ?_ ?_
    ·simp[Instr.sliceAt,Instr.slice,run_underlying ht,e1,fz,bI,Result.andThen]
    ·simp only[VR]
     congr 1
     apply ByteArray.ext
     rw[ByteArray.data_extract]
     apply wZ
     simp[List.extract,List.drop_take]
   ·cases h
  ·cases h
 ·cases h
theorem GB{t e:TypeId}{z:Nat}(ht:P.underlying t=some (.slice e))(hz:eg P e=some z){A:Option Addr}{len c l h m:Nat}{LO HI MX:Option Value}
  (hb:(Instr.sliceBounds true len c LO HI MX).run P w=.ok (l,h,m) w):
  (Instr.sliceAt t (.slice A len c) LO HI MX).run P w=.ok (.slice (if m=l then A else A.map (·.add (l*z))) (h-l) (m-l)) w:=by
 simp[Instr.sliceAt,Instr.slice,run_underlying ht,hb,vi hz,Result.andThen]
theorem Zw8(hh:bo P μ w st)(hr:RR μ r n a.tmps){t e:TypeId}{z:Nat}{x:Operand}{lo hi mx:Option Operand}{s:Src}{ls hs ms:Option Src}(ht:P.underlying t=some (.slice e))(hz:eg P e=some z)
  (hx:bu P x=some s) (fj:pY P lo=some ls) (fZ:pY P hi=some hs) (di:pY P mx=some ms) (h:oK z s ls hs ms call r st=some (v,av)):
  bg P μ w st (do pure (.value (<-Instr.sliceAt t (a.eval x) (lo.map a.eval) (hi.map a.eval) (mx.map a.eval)))) v av:=by
 unfold oK at h
 split at h
 ·-- nil
  rename_i vl vh vm h1 h2 h3 h4
  have e1:=cF hh hr hx h1
  simp only[VR]at e1
  have e2:=qN hh hr fj h2
  have e3:=qN hh hr fZ h3
  have e4:=qN hh hr di h4
  split at h
  ·rename_i m hm
   split at h
   ·rename_i hb nQ
    split at h
    ·rename_i lb jv
     split at h
     ·cases h
     ·rename_i jt
      simp only[aj,bq]at h
      obtain⟨rfl,rfl⟩:=h
      have kj:m=0:=by rcases sG hm with h|h<;>omega
      have oV:hb=0:=by rcases sG nQ with h|h<;>omega
      have mi:lb=0:=by rcases sG jv with h|h<;>omega
      subst kj oV mi
      have bI:=DT (P:=P) (w:=w) (isS:=true) (len:=0) (y:=0) (k:=0) e2 e3 e4 (aS _) (m:=0) (h:=0) (l:=0)
       (by cases vm with
        |none=>exact .inl ⟨rfl,rfl⟩
        |some u=>cases vh with
         |none=>simp at jt
         |some u'=>exact .inr ⟨hm,rfl,rfl⟩)
       (by cases vm<;>simpa using nQ) jv
      refine bg.value hh (x:=.slice none 0 0) ?_ (by simp[VR])
      rw[e1,GB ht hz bI]
      simp
    ·cases h
   ·cases h
  ·cases h
 ·-- not nil,empty
  rename_i vl vh h1 h2 h3 h4
  have e1:=cF hh hr hx h1
  obtain⟨A,c,e1⟩:=e1
  have e2:=qN hh hr fj h2
  have e3:=qN hh hr fZ h3
  have e4:=qN hh hr di h4
  split at h
  ·rename_i hb nQ
   split at h
   ·rename_i lb jv
    simp only[aj,bq]at h
    obtain⟨rfl,rfl⟩:=h
    have oV:hb=0:=by rcases sG nQ with h|h<;>omega
    have mi:lb=0:=by rcases sG jv with h|h<;>omega
    subst oV mi
    have bI:=DT (P:=P) (w:=w) (isS:=true) (len:=0) (y:=0) (k:=c) e2 e3 e4 (tQ _) (m:=c) (h:=0) (l:=0) (.inl ⟨rfl,rfl⟩) (by simpa using nQ) jv
    refine bg.value hh (x:=.slice (some (if c=0 then A else A.add (0*z))) 0 (c-0)) ?_ ⟨_,_,rfl⟩
    rw[e1,GB ht hz bI]
    split<;>simp
   ·cases h
  ·cases h
 ·-- fC capacity is known
  rename_i i o len c sz vl vh vm h1 h2 h3 h4
  obtain⟨l,c',hl,e1,hlen,xF,hc,_⟩:=cF hh hr hx h1
  have:=hc c rfl;subst this
  have e2:=qN hh hr fj h2
  have e3:=qN hh hr fZ h3
  have e4:=qN hh hr di h4
  split at h
  ·cases h
  ·rename_i jt
   simp only[not_or,Decidable.not_not,Bool.not_eq_true]at jt
   obtain⟨rfl,jt⟩:=jt
   split at h
   ·rename_i m hm
    split at h
    ·rename_i hb nQ
     split at h
     ·rename_i lb jv
      simp only[aj,bq]at h
      obtain⟨rfl,rfl⟩:=h
      have hmc:m<=c':=by rcases sG hm with h|h<;>omega
      have bI:=DT (P:=P) (w:=w) (isS:=true) (len:=len) (y:=c') (k:=c') e2 e3 e4 (aS _) (m:=m) (h:=hb) (l:=lb)
       (by cases vm with
        |none=>simp only[cR,aj]at hm;exact .inl ⟨rfl,hm.symm⟩
        |some u=>cases vh with
         |none=>simp at jt
         |some u'=>exact .inr ⟨hm,rfl,rfl⟩)
       (by cases vm with
        |none=>simp only[cR,aj]at hm;subst hm;simpa using nQ
        |some u=>simpa using nQ) jv
      have Sz:hb<=m:=by
       rcases sG nQ with h|⟨h,h'⟩
       ·exact h
       ·subst h
        cases vm with
        |none=>simp only[cR,aj]at hm;omega
        |some u=>simp at jt
      have IM:lb<=hb:=by rcases sG jv with h|h<;>omega
      have k1:m*sz<=c'*sz:=jn _ hmc
      have k2:(m-lb)*sz=m*sz-lb*sz:=Nat.sub_mul _ _ _
      have k3:lb*sz<=m*sz:=jn _ (by omega)
      refine bg.value hh (x:=.slice (some ⟨l.b,l.d+(if m=lb then o else o+lb*sz),none⟩) (hb-lb) (m-lb)) ?_ ⟨l,m-lb,hl,rfl,by omega,?_,fun k hk=>by simpa using hk,by simp⟩
      ·rw[e1,GB ht hz bI]
       split<;>simp[uj,nD]
      ·split
       ·rename_i e;subst e;simp;omega
       ·omega
     ·cases h
    ·cases h
   ·cases h
 ·-- fC capacity is not known
  rename_i i o len sz vl vh vm h1 h2 h3 h4
  obtain⟨l,cw,hl,e1,hlen,xF,_,Ym⟩:=cF hh hr hx h1
  have Ym:=Ym rfl
  have e2:=qN hh hr fj h2
  have e3:=qN hh hr fZ h3
  have e4:=qN hh hr di h4
  split at h
  ·cases h
  ·rename_i jt
   simp only[not_or,Decidable.not_not,Bool.not_eq_true]at jt
   obtain⟨rfl,rp,jt⟩:=jt
   split at h
   ·rename_i cs _ _ ar
    obtain⟨c'',_,_,_,_,dp,_⟩:=hh.row hl ar
    have nR:max len ((cs.length-o)/sz)<=cw:=by
     have:(cs.length-o)/sz<=cw:=by
      rw[Nat.div_le_iff_le_mul_add_pred (by omega)]
      have:sz*cw=cw*sz:=gX _ _
      omega
     omega
    have wg:len<=max len ((cs.length-o)/sz):=by omega
    generalize max len ((cs.length-o)/sz)=y at*
    dsimp only at h
    split at h
    ·rename_i um
     split at h
     ·rename_i m hm
      split at h
      ·rename_i hb nQ
       split at h
       ·rename_i lb jv
        simp only[aj,bq]at h
        obtain⟨rfl,rfl⟩:=h
        cases vh with
        |none=>simp at jt
        |some uh=>
        have SA:m<=y:=by
         rcases sG (u:=some um) (d:=0) hm with h|h
         ·exact h
         ·simp at h
        have bI:=DT (P:=P) (w:=w) (isS:=true) (len:=len) (y:=y) (k:=cw) e2 e3 e4 nR (m:=m) (h:=hb) (l:=lb) (.inr ⟨hm,rfl,rfl⟩) (by simpa using nQ) jv
        have Sz:hb<=m:=by
         rcases sG nQ with h|⟨h,h'⟩
         ·exact h
         ·simp at h
        have IM:lb<=hb:=by rcases sG jv with h|h<;>omega
        have k1:m*sz<=cw*sz:=jn _ (by omega)
        have k2:(m-lb)*sz=m*sz-lb*sz:=Nat.sub_mul _ _ _
        have k3:lb*sz<=m*sz:=jn _ (by omega)
        refine bg.value hh (x:=.slice (some ⟨l.b,l.d+(if m=lb then o else o+lb*sz),none⟩) (hb-lb) (m-lb)) ?_ ⟨l,m-lb,hl,rfl,by omega,?_,fun k hk=>by simpa using hk,by simp⟩
        ·rw[e1,GB ht hz bI]
         split<;>simp[uj,nD]
        ·split
         ·rename_i e;subst e;simp;omega
         ·omega
       ·cases h
      ·cases h
     ·cases h
    ·split at h
     ·rename_i hb nQ
      split at h
      ·rename_i lb jv
       have bI:=DT (P:=P) (w:=w) (isS:=true) (len:=len) (y:=y) (k:=cw) e2 e3 e4 nR (m:=cw) (h:=hb) (l:=lb) (.inl ⟨rfl,rfl⟩) (by simpa using nQ) jv
       have Sz:hb<=y:=by rcases sG nQ with h|⟨h,h'⟩<;>omega
       have IM:lb<=hb:=by rcases sG jv with h|h<;>omega
       have k2:(cw-lb)*sz=cw*sz-lb*sz:=Nat.sub_mul _ _ _
       have k3:lb*sz<=cw*sz:=jn _ (by omega)
       split at h
       ·rename_i aD
        simp only[aj,bq]at h
        obtain⟨rfl,rfl⟩:=h
        refine bg.value hh (x:=.slice (some ⟨l.b,l.d+(o+lb*sz),none⟩) (hb-lb) (cw-lb)) ?_ ⟨l,cw-lb,hl,rfl,by omega,by omega,by simp,fun _=>by omega⟩
        rw[e1,GB ht hz bI]
        rw[au (by omega)]
        simp[uj,nD]
       ·simp only[aj,bq]at h
        obtain⟨rfl,rfl⟩:=h
        have:hb-lb=0:=by omega
        refine bg.value hh (x:=.slice (some (if cw=lb then ⟨l.b,l.d+o,none⟩ else (⟨l.b,l.d+o,none⟩:Addr).add (lb*sz))) 0 (cw-lb)) ?_ ⟨_,_,rfl⟩
        rw[e1,GB ht hz bI,this]
        split<;>simp
      ·cases h
     ·cases h
   ·cases h
 ·cases h
theorem Ztb(hh:bo P μ w st)(hr:RR μ r n a.tmps){t e:TypeId}{k z:Nat}{x:Operand}{lo hi mx:Option Operand}{s:Src}{ls hs ms:Option Src}(ht:P.underlying t=some (.array k e))(hz:eg P e=some z)
  (hx:bu P x=some s) (fj:pY P lo=some ls) (fZ:pY P hi=some hs) (di:pY P mx=some ms) (h:xb k z s ls hs ms call r st=some (v,av)):
  bg P μ w st (do pure (.value (<-Instr.sliceAt t (a.eval x) (lo.map a.eval) (hi.map a.eval) (mx.map a.eval)))) v av:=by
 unfold xb at h
 split at h
 ·rename_i i o vl vh h1 h2 h3 h4
  obtain⟨l,hl,e1⟩:=cF hh hr hx h1
  have e2:=qN hh hr fj h2
  have e3:=qN hh hr fZ h3
  have e4:=qN hh hr di h4
  split at h
  ·rename_i hb nQ
   split at h
   ·rename_i lb jv
    split at h
    ·rename_i cs _ _ ar
     split at h
     ·rename_i cD
      simp only[aj,bq]at h
      obtain⟨rfl,rfl⟩:=h
      obtain⟨c'',_,_,_,_,dp,_⟩:=hh.row hl ar
      have bI:=DT (P:=P) (w:=w) (isS:=false) (len:=k) (y:=k) (k:=k) e2 e3 e4 (aS _) (m:=k) (h:=hb) (l:=lb) (.inl ⟨rfl,rfl⟩) (by simpa using nQ) jv
      have Sz:hb<=k:=by rcases sG nQ with h|⟨h,h'⟩<;>omega
      have IM:lb<=hb:=by rcases sG jv with h|h<;>omega
      have k2:(k-lb)*z=k*z-lb*z:=Nat.sub_mul _ _ _
      have k3:lb*z<=k*z:=jn _ (by omega)
      have IK:=cD.1
      refine bg.value hh (x:=.slice (some ⟨l.b,l.d+(if k=lb then o else o+lb*z),none⟩) (hb-lb) (k-lb)) ?_ ⟨l,k-lb,hl,rfl,by omega,?_,fun k hk=>by simpa using hk,by simp⟩
      ·simp only[Instr.sliceAt,Sem.run_bind,run_underlying ht,Result.andThen,Instr.sureAddr,e1,Sem.run_pure,bI,vi hz]
       split<;>simp[uj,nD]
      ·split
       ·rename_i e;subst e;simp;omega
       ·omega
     ·cases h
    ·cases h
   ·cases h
  ·cases h
 ·cases h
end
section
variable {P:Program} {μ:Mu} {w:World} {st av:St} {r:T V} {n:Nat} {a:Act} {call:cm} {v:V}
theorem Mw{α:Type}{c vs:List α}{o:Nat}(h:o+vs.length<=c.length):(ag c o vs).length=c.length:=by
 simp[ag];omega
theorem GA{α:Type}{c vs:List α}{o:Nat}(h:o+vs.length<=c.length)(j:Nat):(ag c o vs)[j]?=if o<=j/\j<o+vs.length then vs[j-o]? else c[j]?:=by
 have aD:(c.take o).length=o:=by simp;omega
 unfold ag
 rw[qw]
 by_cases h1:j<o
 ·rw[lX (by omega),au (by omega),gV,aF h1]
 ·rw[pX (by omega),aD]
  by_cases h2:j<o+vs.length
  ·rw[lX (by omega),aF ⟨by omega,h2⟩]
  ·rw[pX (by omega),au (by omega),fG]
   congr 1;omega
theorem aX.ag{c vs:List V}{c' jX:List Value}(h:aX μ c c')(h':aX μ vs jX)(o:Nat):aX μ (ag c o vs) (ag c' o jX):=by
 unfold Mx.ag
 rw[h'.length]
 exact((h.take o).append h').append (h.drop _)
theorem Yn{α:Type}(c:List α)(o:Nat)(x:α)(vs:List α)(h:o<c.length):Mx.ag (c.set o x) (o+1) vs=Mx.ag c o (x::vs):=by
 unfold Mx.ag
 have e1:(c.set o x).take (o+1)=c.take o++[x]:=by
  rw[pV,List.take_set_of_le (aS _)]
  simp[h]
 have e2:(c.set o x).drop (o+1+vs.length)=c.drop (o+(vs.length+1)):=by
  rw[List.drop_set_of_lt (by omega)]
  congr 1;omega
 rw[e1,e2]
 simp
theorem Ygl(off:Nat):∀(vs:List Value) (k:Nat) (cs:List Value),off+k+vs.length<=cs.length->
  (vs.zipIdx k).foldl (fun (cs:Array Value) (p:Value×Nat)=>cs.setIfInBounds (off+p.2) p.1) ⟨cs⟩=⟨ag cs (off+k) vs⟩:=by
 intro vs
 induction vs with
 |nil=>intro k cs h;simp[ag]
 |cons x vs ih=>
  intro k cs h
  simp only[bh]at h
  simp only[List.zipIdx_cons,List.foldl_cons]
  have e:(⟨cs⟩:Array Value).setIfInBounds (off+k) x=⟨cs.set (off+k) x⟩:=by
   apply wZ
   simp
  rw[e,ih (k+1) (cs.set (off+k) x) (by simp;omega),<-nD,Yn _ _ _ _ (by omega)]
theorem SB(hh:bo P μ w st)(hr:RR μ r n a.tmps){place:Nat->Option (Nat×Nat)}:∀{parts:List (Nat×Operand)} {ry:List (Nat×Nat×Src)},yx P place parts=some ry->
  ∀{ps:List (Nat×Nat×V)},yJ r ry=some ps->∀{cs:List V} {Aq:List Value},aX μ cs Aq->∀{l:List V},yI cs ps=some l->
  ∃l',Instr.fill place ⟨Aq⟩ (parts.map fun p=>(p.1,a.eval p.2))=some ⟨l'⟩/\aX μ l l':=by
 intro parts
 induction parts with
 |nil=>
  intro ry hc ps he cs Aq qj l hl
  simp only[yx,aj]at hc;subst hc
  simp only[yJ,aj]at he;subst he
  simp only[yI,aj]at hl;subst hl
  exact⟨Aq,by simp[Instr.fill],qj⟩
 |cons p parts ih=>
  intro ry hc ps he cs Aq qj l hl
  obtain⟨i,x⟩:=p
  simp only[yx]at hc
  split at hc
  ·rename_i o s sx l' hp hx fW
   simp only[aj]at hc;subst hc
   simp only[yJ]at he
   split at he
   ·rename_i u vs hu DI
    simp only[aj]at he;subst he
    simp only[yI]at hl
    split at hl
    ·rename_i cD
     have My:=cF hh hr hx hu
     have fY:=My.cells
     have hlen:(a.eval x).cells.size=s:=by
      have:=fY.length
      rw[<-cD.1,<-this];simp
     have qO:(a.eval x).cells.toList.length=s:=by simpa using hlen
     obtain⟨l'',h1,h2⟩:=ih fW DI (qj.ag fY o) hl
     refine⟨l'',?_,h2⟩
     simp only[kg,Instr.fill,hp]
     rw[au]
     ·have e:((a.eval x).cells.zipIdx.foldl (fun (cs:Array Value) (p:Value×Nat)=>cs.setIfInBounds (o+p.2) p.1) ⟨Aq⟩)=⟨ag Aq o (a.eval x).cells.toList⟩:=by
       rw[<-Array.foldl_toList,Array.toList_zipIdx]
       have:=Ygl o (a.eval x).cells.toList 0 Aq (by rw[qO,qj.length];omega)
       simpa using this
      rw[<-h1]
      congr 1
     ·have dp:=qj.length
      simp only[hlen,ne_eq,not_true_eq_false,decide_false,Bool.false_or,decide_eq_true_eq]
      simp[dp];omega
    ·cases hl
   ·cases he
  ·cases hc
theorem Zxg:∀{fs:List Field} {pl:List (Nat×Nat)},FK P fs=some pl->fs.mapM (fun f=>(P.info? f.type).map fun i=>(f.offset,i.size))=some pl:=by
 intro fs
 induction fs with
 |nil=>intro pl h;simp only[FK,aj]at h;subst h;simp
 |cons f fs ih=>
  intro pl h
  simp only[FK]at h
  split at h
  ·rename_i s l hs hl
   simp only[aj]at h;subst h
   unfold eg at hs
   simp only[iF]at hs
   obtain⟨i,hi,rfl⟩:=hs
   simp[List.mapM_cons,hi,ih hl]
  ·cases h
theorem DQ{t:TypeId}{z:V}(h:mK P t=some z):∃i x,P.info? t=some i/\i.zero=some x/\∀μ,VR μ z x:=by
 unfold mK at h
 split at h
 ·rename_i i hi
  split at h
  ·rename_i x hx
   exact⟨i,x,hi,hx,fun μ=>Mn μ x z h⟩
  ·cases h
 ·cases h
theorem Znz(hh:bo P μ w st)(hr:RR μ r n a.tmps){t:TypeId}{fs:Array Field}{pl:List (Nat×Nat)}{z:V}{parts:Array (Nat×Operand)}{ry:List (Nat×Nat×Src)}
  (hz:mK P t=some z) (ht:P.underlying t=some (.struct fs)) (hp:FK P fs.toList=some pl) (hc:yx P (pl[·]?) parts.toList=some ry) (h:zM z.cells ry call r st=some (v,av)):
  bg P μ w st (do pure (.value (<-Instr.build t (parts.map fun (i,x)=>(i,a.eval x))))) v av:=by
 unfold zM at h
 split at h
 ·rename_i ps xK
  split at h
  ·rename_i l hl
   simp only[aj,bq]at h
   obtain⟨rfl,rfl⟩:=h
   obtain⟨i,x,hi,hx,nP⟩:=DQ hz
   obtain⟨l',h1,h2⟩:=SB hh hr hc xK (nP μ).cells hl
   refine bg.value hh (x:=.agg ⟨l'⟩) (run_build w t _ _ ?_) ⟨l',rfl,h2⟩
   simp only[Program.built,hi,ht,hx,Zxg hp]
   rw[<-h1]
   simp
  ·cases h
 ·cases h
theorem Zoe(hh:bo P μ w st)(hr:RR μ r n a.tmps){t e:TypeId}{k s:Nat}{z:V}{parts:Array (Nat×Operand)}{ry:List (Nat×Nat×Src)}
  (hz:mK P t=some z) (ht:P.underlying t=some (.array k e)) (hs:eg P e=some s) (hc:yx P (fun i=>some (i*s,s)) parts.toList=some ry) (h:zM z.cells ry call r st=some (v,av)):
  bg P μ w st (do pure (.value (<-Instr.build t (parts.map fun (i,x)=>(i,a.eval x))))) v av:=by
 unfold zM at h
 split at h
 ·rename_i ps xK
  split at h
  ·rename_i l hl
   simp only[aj,bq]at h
   obtain⟨rfl,rfl⟩:=h
   obtain⟨i,x,hi,hx,nP⟩:=DQ hz
   unfold eg at hs
   simp only[iF]at hs
   obtain⟨ie,hie,rfl⟩:=hs
   obtain⟨l',h1,h2⟩:=SB hh hr hc xK (nP μ).cells hl
   refine bg.value hh (x:=.agg ⟨l'⟩) (run_build w t _ _ ?_) ⟨l',rfl,h2⟩
   simp only[Program.built,hi,ht,hx,hie]
   rw[<-h1]
   simp
  ·cases h
 ·cases h
theorem IQ{vs:List V}{xs:List Value}(h:aX μ vs xs)(hv:vs.all V.one=true):∀x∈xs,x.oneCell'=true:=by
 intro x hx
 obtain⟨j,hj⟩:=zC hx
 have hl:=h.length
 have wh:j<xs.length:=(yB.1 hj).1
 have:∃u,vs[j]?=some u:=⟨vs[j]'(by omega),by simp⟩
 obtain⟨u,hu⟩:=this
 obtain⟨y,h1,h2⟩:=h.get hu
 rw[hj]at h1;cases h1
 have xh:u.one=true:=by
  rw[m8]at hv
  exact hv u (du hu)
 have:=h2.one xh
 cases x<;>simp_all [Value.oneCell']
theorem bg.newRow(hh:bo P μ w st){s:Sem Value}{x:Value}{cs:List V}{xs:List Value}{e:TypeId}(hs:s.run P w=.ok x (w.alloc (.cells ⟨xs⟩ e)))
  (hc:aX μ cs xs) (h1:∀x∈xs,x.oneCell'=true) (hv:VR (fun i=>if i=st.n then some ⟨w.heap.size,0,xs.length⟩ else μ i) v x):
  bg P μ w st (do pure (.value (<-s))) v (st.alloc (.cells cs e true)):=by
 have cQ:∀i l,μ i=some l->(fun i=>if i=st.n then some (⟨w.heap.size,0,xs.length⟩:L) else μ i) i=some l:=fun i l hl=>by
  have:=(hh.cG i l hl).1
  simp only
  rw[au (by omega)];exact hl
 refine⟨Next.value x,x,_,_,[],by simp[hs,Result.andThen],.inl rfl,hv,bB.alloc hh (.cells cs e true) (.cells ⟨xs⟩ e) 0 xs.length ⟨⟨xs⟩,0,0,?_,by simp,by simp[hc.length],fun j u hu=>?_,fun j y _ hy=>?_,fun _=>⟨rfl,fun j hj=>by omega⟩⟩⟩
 ·simp
 ·obtain⟨y,hy,hr⟩:=hc.get hu
  exact⟨y,by simpa using hy,VR.mono cQ u y hr⟩
 ·exact h1 y (du (by simpa using hy))
theorem Yhp(hh:bo P μ w st){e:TypeId}{z:V}(hz:mK P e=some z)(ec:z.cells.all V.one=true)(h:F0 z.cells e call r st=some (v,av)):
  bg P μ w st (do pure (.value (<-Instr.alloc e true (.tuple #[])))) v av:=by
 unfold F0 at h
 simp only[aj,bq]at h
 obtain⟨rfl,rfl⟩:=h
 obtain⟨i,x,hi,hx,nP⟩:=DQ hz
 refine bg.newRow hh (v:=.ptr st.n 0) (xs:=x.cells.toList) (x:=.pointer (some ⟨w.heap.size,0,none⟩)) ?_ (nP μ).cells (IQ (nP μ).cells ec) (by simp only[VR];exact⟨⟨w.heap.size,0,x.cells.toList.length⟩,by simp,by simp⟩)
 simp[Instr.alloc,zeroValue,typeInfo,hi,hx,newVar,Go.newRow,Result.andThen]
theorem Yo2(hh:bo P μ w st)(hr:RR μ r n a.tmps){e:TypeId}{x:Operand}{s:Src}(hx:bu P x=some s)(h:C6 e s call r st=some (v,av)):
  bg P μ w st (do pure (.value (<-Instr.box e (a.eval x)))) v av:=by
 unfold C6 at h
 split at h
 ·rename_i u hu
  split at h
  ·rename_i ec
   simp only[aj,bq]at h
   obtain⟨rfl,rfl⟩:=h
   have My:=cF hh hr hx hu
   refine bg.newRow hh (v:=.ptr st.n 0) (xs:=(a.eval x).cells.toList) (x:=.pointer (some ⟨w.heap.size,0,none⟩)) ?_ My.cells (IQ My.cells ec) (by simp only[VR];exact⟨⟨w.heap.size,0,_⟩,by simp;rfl,by simp⟩)
   simp[Instr.box,newVar,Go.newRow,Result.andThen]
  ·cases h
 ·cases h
end
section
variable {P:Program} {μ:Mu} {w:World} {st av:St} {r:T V} {n:Nat} {a:Act} {call:cm} {v:V}
theorem Yc(zs:List V)(k:Nat):(cN zs k).length=k*zs.length:=by simp[cN]
theorem Mt{zs:List V}{xs:List Value}(h:aX μ zs xs)(k:Nat):aX μ (cN zs k) (madeCells ⟨xs⟩ (k*zs.length)).toList:=by
 have hl:=h.length
 refine aX.l7 (by simp[cN,madeCells]) fun j u hu=>?_
 have hj:j<k*zs.length:=by
  have:=(yB.1 hu).1
  simpa[cN]using this
 have hz:0<zs.length:=by
  rcases CT zs.length with e|e
  ·rw[e]at hj;simp at hj
  ·exact e
 have Ar:j%zs.length<zs.length:=jg _ hz
 simp only[cN,jf,FT hj,wK,aj]at hu
 obtain⟨y,h1,h2⟩:=h.get (i:=j%zs.length) (v:=zs[j%zs.length]) (by simp[Ar])
 refine⟨y,?_,?_⟩
 ·simp only[madeCells,Array.toList_map,Array.toList_range,jf,FT hj,wK,aj]
  have gh:(⟨xs⟩:Array Value)[j%xs.length]?=some y:=by rw[hl];simpa using h1
  simp only[Array.size,getElem!_def,gh]
 ·rw[<-hu]
  simpa[List.getD,Ar]using h2
theorem Ss{zs:List V}(h:zs.all V.one=true)(k:Nat):∀{xs:List Value},aX μ (cN zs k) xs->∀x∈xs,x.oneCell'=true:=by
 intro xs hx
 refine IQ hx ?_
 rw[m8]
 intro u hu
 simp only[cN,iy,zB]at hu
 obtain⟨j,hj,rfl⟩:=hu
 have hz:0<zs.length:=by
  rcases CT zs.length with e|e
  ·rw[e]at hj;simp at hj
  ·exact e
 have Ar:j%zs.length<zs.length:=jg _ hz
 rw[m8]at h
 simpa[List.getD,Ar]using h zs[j%zs.length] (by simp)
theorem Ydu(hh:bo P μ w st)(hr:RR μ r n a.tmps){t e:TypeId}{s len:Nat}{z:V}{parts:Array (Nat×Operand)}{ry:List (Nat×Nat×Src)}
  (ht:P.underlying t=some (.slice e)) (hs:eg P e=some s) (hz:mK P e=some z) (hle:¬len*s > 2^24) (IG:z.cells.length=s)
  (hc:yx P (fun i=>some (i*s,s)) parts.toList=some ry) (h:C7 e s len (cN z.cells len) ry call r st=some (v,av)):
  bg P μ w st (do pure (.value (<-Instr.buildSlice t len (parts.map fun (i,x)=>(i,a.eval x))))) v av:=by
 unfold C7 at h
 split at h
 ·rename_i ps xK
  split at h
  ·rename_i l hl
   split at h
   ·rename_i ec
    simp only[aj,bq]at h
    obtain⟨rfl,rfl⟩:=h
    obtain⟨i,x,hi,hx,nP⟩:=DQ hz
    have xL:=(nP μ).cells
    have mm:=Mt xL len
    rw[IG]at mm
    obtain⟨l',h1,h2⟩:=SB hh hr hc xK mm hl
    have DU:=h2.length
    refine bg.newRow hh (v:=.slice st.n 0 len (some len) s) (xs:=l') (x:=.slice (some ⟨w.heap.size,0,none⟩) len len) ?_ h2 (IQ h2 ec) ?_
    ·have gh:Instr.fill (fun i=>some (i*s,s)) (madeCells x.cells (len*s)) (parts.map fun p=>(p.1,a.eval p.2)).toList=some ⟨l'⟩:=by
      rw[<-h1]
      simp
     simp only[Instr.buildSlice,Sem.run_bind,run_underlying ht,Result.andThen,vi hs,au hle]
     split
     ·rename_i e0
      have fY:((Array.range (len*s)).map ((#[]:Array Value)[·%(#[]:Array Value).size]!))=madeCells x.cells (len*s):=by
       simp[madeCells,e0]
      simp only[Sem.run_bind,Sem.run_pure,Result.andThen,fY]
      rw[gh]
      simp[Go.newRow,Result.andThen]
     ·have fY:((Array.range (len*s)).map (x.cells[·%x.cells.size]!))=madeCells x.cells (len*s):=rfl
      simp only[zeroValue,typeInfo,Sem.run_bind,Sem.run_pure,Result.andThen,hi,hx,run_program]
      simp only[fY]
      rw[gh]
      simp[Go.newRow,Result.andThen]
    ·have IS:l.length=len*s:=by
      have:∀(ps:List (Nat×Nat×V)) (cs l:List V),yI cs ps=some l->l.length=cs.length:=by
       intro ps
       induction ps with
       |nil=>intro cs l h;simp only[yI,aj]at h;rw[h]
       |cons p ps ih=>
        intro cs l h
        obtain⟨o,s,u⟩:=p
        simp only[yI]at h
        split at h
        ·rename_i hc
         rw[ih _ _ h,Mw (by omega)]
        ·cases h
      rw[this ps _ l hl,Yc,IG]
     simp only[VR]
     exact⟨⟨w.heap.size,0,l'.length⟩,len,by simp,by simp,aS _,by simp[DU,IS],by simp,by simp⟩
   ·cases h
  ·cases h
 ·cases h
theorem Zx0(hh:bo P μ w st)(hr:RR μ r n a.tmps){t e:TypeId}{s b:Nat}{z:V}{x y:Operand}{sx sy:Src}(ht:P.underlying t=some (.slice e))(hs:eg P e=some s)(hb:dK P e=some b)(hz:mK P e=some z)
  (ec:z.cells.all V.one=true) (hx:bu P x=some sx) (hy:bu P y=some sy) (h:zN e s b z.cells sx sy call r st=some (v,av)):
  bg P μ w st (do pure (.value (<-Instr.makeSlice t (a.eval x) (a.eval y)))) v av:=by
 unfold zN at h
 split at h
 ·rename_i k l k' c h1 h2
  have e1:=cF hh hr hx h1
  have e2:=cF hh hr hy h2
  simp only[VR]at e1 e2
  split at h
  ·rename_i hc
   obtain⟨mi,zc,hbc,zah,fz,ui⟩:=hc
   simp only[aj,bq]at h
   obtain⟨rfl,rfl⟩:=h
   obtain⟨i,zx,hi,nP,Gw⟩:=DQ hz
   unfold eg at hs
   unfold dK at hb
   simp only[hi,wK,aj]at hs hb
   have xL:=(Gw μ).cells
   have mm:=Mt xL c.toNat
   rw[<-fz]at mm
   have bI:=run_make (P:=P) w t e i zx ht hi nP k k' l c mi zc (by rw[hb];omega) (by omega)
   rw[hs]at bI
   refine bg.newRow hh (v:=.slice st.n 0 l.toNat (some c.toNat) s) (xs:=(madeCells zx.cells (c.toNat*s)).toList) (x:=.slice (some ⟨w.heap.size,0,none⟩) l.toNat c.toNat) ?_ mm (Ss ec c.toNat mm) ?_
   ·rw[e1,e2,bI]
   ·simp only[VR]
    exact⟨⟨w.heap.size,0,_⟩,c.toNat,by simp;rfl,by simp,by omega,by simp[madeCells],by simp,by simp⟩
  ·cases h
 ·cases h
theorem bg.newObj(hh:bo P μ w st){s:Sem Value}{x:Value}{o:O}{ob:Obj}(hs:s.run P w=.ok x (w.alloc ob))
  (ho:OM P (fun i=>if i=st.n then some ⟨w.heap.size,0,0⟩ else μ i) (w.alloc ob) o ⟨w.heap.size,0,0⟩) (hv:VR (fun i=>if i=st.n then some ⟨w.heap.size,0,0⟩ else μ i) v x):
  bg P μ w st (do pure (.value (<-s))) v (st.alloc o):=
 ⟨Next.value x,x,_,_,[],by simp[hs,Result.andThen],.inl rfl,hv,bB.alloc hh o ob 0 0 ho⟩
theorem SC(w:World)(o:Obj):(w.alloc o).heap[w.heap.size]?=some o:=by
 show (w.heap.push o)[w.heap.size]?=some o
 simp
theorem Yfx(hh:bo P μ w st){t:TypeId}(h:F5 call r st=some (v,av)):bg P μ w st (do pure (.value (<-Instr.makeMap t none))) v av:=by
 unfold F5 at h
 simp only[aj,bq]at h
 obtain⟨rfl,rfl⟩:=h
 refine bg.newObj hh (v:=.map st.n) (x:=.map (some w.heap.size)) (ob:=.map #[] 0) ?_ ⟨[],by simpa using SC w _,rfl⟩ ?_
 ·simp[Instr.makeMap,Result.andThen]
 ·simp only[VR];exact⟨⟨w.heap.size,0,0⟩,by simp,rfl⟩
theorem Ybs(hh:bo P μ w st)(hr:RR μ r n a.tmps){t e:TypeId}{d:ChanDir}{b:Nat}{x:Operand}{s:Src}(ht:P.underlying t=some (.chan d e))(hb:dK P e=some b)(hx:bu P x=some s)
  (h:Bv b s call r st=some (v,av)):bg P μ w st (do pure (.value (<-Instr.makeChan t (a.eval x)))) v av:=by
 unfold Bv at h
 split at h
 ·rename_i q k hk
  have e1:=cF hh hr hx hk
  simp only[VR]at e1
  split at h
  ·cases h
  ·rename_i hc
   simp only[aj,bq]at h
   obtain⟨rfl,rfl⟩:=h
   unfold dK at hb
   simp only[iF]at hb
   obtain⟨i,hi,rfl⟩:=hb
   refine bg.newObj hh (v:=.chan st.n) (x:=.chan (some w.heap.size)) (ob:=.chan k.toNat #[] false 0 0 false) ?_ ⟨[],0,0,by simpa using SC w _,by simp[aX]⟩ ?_
   ·simp only[Instr.makeChan,e1,asInt,asIntOf,run_underlying ht,typeInfo,hi,au hc,Result.andThen,Sem.run_bind,Sem.run_pure,run_program,run_newObj]
    rfl
   ·simp only[VR];exact⟨⟨w.heap.size,0,0⟩,by simp,rfl⟩
 ·cases h
theorem Ztm(hh:bo P μ w st)(hr:RR μ r n a.tmps){t:TypeId}{x:Operand}{s:Src}(ht:P.underlying t=some .string)(hx:bu P x=some s)
  (h:Dk s call r st=some (v,av)):bg P μ w st (do pure (.value (<-Instr.range t (a.eval x)))) v av:=by
 unfold Dk at h
 split at h
 ·rename_i q hk
  have e1:=cF hh hr hx hk
  simp only[VR]at e1
  simp only[aj,bq]at h
  obtain⟨rfl,rfl⟩:=h
  refine bg.newObj hh (v:=.ptr st.n 0) (x:=.pointer (some ⟨w.heap.size,0,none⟩)) (ob:=.stringIter ⟨q.toArray⟩ 0) ?_ (by simp only[OM];exact⟨SC w _,trivial⟩) ?_
  ·simp[Instr.range,e1,run_underlying ht,Result.andThen]
  ·simp only[VR];exact⟨⟨w.heap.size,0,0⟩,by simp,rfl⟩
 ·cases h
theorem Sw(g o:Nat)(t:TypeId)(lo hi:Nat):∀(vs:List Value) (i:Nat) (cur:List Value) (w:World),w.heap[g]?=some (.cells ⟨cur⟩ t (lo,hi))->o+i+vs.length<=cur.length->(∀v∈vs,v.oneCell'=true)->
  (∀j,o+i<=j->j<o+i+vs.length->¬(lo<=j/\j<hi))->(storeCells ⟨g,o,none⟩ vs i).run P w=.ok () (w.setRow g ⟨ag cur (o+i) vs⟩)
 |[],i,cur,w,hg,_,_,_=>by
  have e:ag cur (o+i) []=cur:=by simp[ag]
  rw[e,setRow_self w g _ t _ hg]
  simp[storeCells]
 |v::rest,i,cur,w,hg,hl,h1,hf=>by
  simp only[bh]at hl
  have g_:o+i<cur.length:=by omega
  have fB:w.cell? ⟨g,o+i,none⟩=some cur[o+i]:=by simp[World.cell?,hg,g_]
  have SD:w.frozen? ⟨g,o+i,none⟩=false:=by
   have:=hf (o+i) (aS _) (by simp)
   simp only[World.frozen?,hg]
   simp;omega
  have eP:(store ((⟨g,o,none⟩:Addr).add i) v).run P w=.ok () (w.setRow g ⟨cur.set (o+i) v⟩):=by
   rw[uj,run_store P w _ v _ (h1 v (by simp)),fB]
   simp[SD,setCell_eq_setRow w g (o+i) _ t _ v hg]
  have ih:=Sw g o t lo hi rest (i+1) (cur.set (o+i) v) (w.setRow g ⟨cur.set (o+i) v⟩) (setRow_heap w g _ _ t _ hg) (by simp;omega) (fun x hx=>h1 x (by simp[hx]))
   (fun j BM ma=>hf j (by omega) (by simp only[bh];omega))
  simp only[storeCells,Sem.run_bind,eP,Result.andThen_ok,ih,setRow_setRow]
  rw[<-nD,Yn _ _ _ _ g_]
theorem Ms(hh:bo P μ w st){i o:Nat}{l:L}(hl:μ i=some l){c:List V}{e:TypeId}(ar:st.row i=some (c,e,true)){vs:List V}{xs:List Value}(hv:aX μ vs xs)(h1:∀x∈xs,x.oneCell'=true)
  (hlen:o+vs.length<=c.length):
  ∃w',(storeCells ⟨l.b,l.d+o,none⟩ xs).run P w=.ok () w'/\bB P μ w st μ w' (st.write i (.cells (ag c o vs) e true)) [i]:=by
 obtain⟨c',lo,hi,g1,g2,g3,g4,g5,g6⟩:=hh.row hl ar
 obtain⟨cur⟩:=c'
 have Ah:=hv.length
 simp only[List.size_toArray]at g2
 have bI:=Sw (P:=P) l.b (l.d+o) e lo hi xs 0 cur w g1 (by omega) h1 (fun j BM ma=>by
  have:=(g6 rfl).2 (j-l.d) (by omega)
  rw[show l.d+(j-l.d)=j by omega]at this
  exact this)
 refine⟨_,bI,?_⟩
 have hb:=setRow_heap w l.b _ (⟨ag cur (l.d+o+0) xs⟩:Array Value) e _ g1
 refine bB.write hh hl (IB ar) rfl rfl rfl rfl (by simp) (fun b hb=>setRow_other w l.b b _ hb) ⟨_,lo,hi,hb,?_,?_,?_,?_,g6⟩
 ·simp only[List.size_toArray]
  rw[Mw (by omega)];exact g2
 ·rw[Mw hlen];exact g3
 ·intro j u hu
  rw[GA hlen]at hu
  have e':∀k:Nat,(⟨ag cur (l.d+o+0) xs⟩:Array Value)[k]?=(ag cur (l.d+o+0) xs)[k]?:=fun k=>by simp
  rw[e',GA (by omega)]
  split at hu
  ·rename_i hj
   rw[aF (by omega)]
   obtain⟨y,hy,hr⟩:=hv.get hu
   exact⟨y,by rw[show l.d+j-(l.d+o+0)=j-o by omega];exact hy,hr⟩
  ·rename_i hj
   rw[au (by omega)]
   obtain⟨y,hy,hr⟩:=g4 j u hu
   exact⟨y,by simpa using hy,hr⟩
 ·intro j x aD hx
  have e':(⟨ag cur (l.d+o+0) xs⟩:Array Value)[l.d+j]?=(ag cur (l.d+o+0) xs)[l.d+j]?:=by simp
  rw[e',GA (by omega)]at hx
  split at hx
  ·exact h1 x (du hx)
  ·exact g5 j x aD (by simpa using hx)
theorem Yep(hh:bo P μ w st)(hr:RR μ r n a.tmps){t:TypeId}{k:Nat}{x y:Operand}{sx sy:Src}(hk:eg P t=some k)(hx:bu P x=some sx)(hy:bu P y=some sy)
  (h:Bt k sx sy call r st=some (v,av)):bg P μ w st (do Instr.storeAt t (a.eval x) (a.eval y);pure .skip) v av:=by
 unfold Bt at h
 split at h
 ·rename_i i o u h1 h2
  obtain⟨l,hl,e1⟩:=cF hh hr hx h1
  have e2:=cF hh hr hy h2
  split at h
  ·rename_i c e ar
   split at h
   ·rename_i hc
    simp only[aj,bq]at h
    obtain⟨rfl,rfl⟩:=h
    have dp:=e2.cells
    have hlen:=dp.length
    obtain⟨w',hw,hs⟩:=Ms hh hl ar dp (IQ dp hc.2.2) (o:=o) (by omega)
    refine⟨.skip,undef,w',μ,[i],?_,.inr ⟨rfl,rfl⟩,⟨[],rfl,by simp[aX]⟩,hs⟩
    have fz:(a.eval y).cells.size=k:=by
     rw[<-hc.1,<-hlen];simp
    simp[Instr.storeAt,Instr.sureAddr,e1,storeVar,vi hk,fz,hw,Result.andThen]
   ·cases h
  ·cases h
 ·cases h
end
end Go.Mx
