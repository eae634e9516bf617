/-The operations of M stand for the Go mod-/
import Derived.Test.YtokjleejipaidaaGreatDoorMxOp2
set_option linter.all false
namespace Go.Mx
open Go
set_option maxHeartbeats 1000000
section
variable {P:Program} {μ:Mu} {w:World} {st aA:St} {r:T V} {n:Nat} {a:Act} {call:cH} {v:V}
def HP(μ:Mu):Option V->Option Value->Prop
 |none,none=>True
 |some v,some x=>VR μ v x
 |_,_=>False
def uo(hh:bm P μ w st)(hr:RR μ r n a.tmps){x:Option Operand}{s:Option Src}(hc:uV P x=some s){v:Option V}(hv:aB r s=some v):HP μ v (x.map a.eval):=by
 rcases Yfz hh hr hc hv with⟨rfl,rfl⟩|⟨v',x',rfl,rfl,h⟩
 ·trivial
 ·exact h
def HP.isNone{v:Option V}{x:Option Value}(h:HP μ v x):x.isNone=v.isNone:=by
 cases v<;>cases x<;>simp_all [HP]
def ML{u:V}{X:Value}{y m k:Nat}{code:BoundsCode}(hu:VR μ u X)(h:kR u y=some m)(hk:y<=k):(Instr.sliceBound X k code).run P w=.ok m w/\m<=y:=by
 unfold kR at h
 split at h
 ·rename_i q z
  split at h
  ·rename_i hz
   simp only[an]at h;subst h
   simp only[VR]at hu;subst hu
   have h2:z<=(k:Int):=by omega
   exact⟨by simp[Instr.sliceBound,asIntOf,hz.1,h2],by omega⟩
  ·cases h
 ·cases h
def HQ{isS:Bool}{len y k:Nat}{lo hi mx:Option V}{LO HI MX:Option Value}(fS:HP μ lo LO)(g_:HP μ hi HI)(dm:HP μ mx MX)(hy:y<=k){m h l:Nat}
  (hm:(mx=none/\m=k)\/(dB mx y 0=some m/\mx.isSome=true/\hi.isSome=true)) (hh:dB hi (if mx=none then y else m) len=some h) (hl:dB lo h 0=some l):
  (Instr.sliceBounds isS len k LO HI MX).run P w=.ok (l,h,m) w:=by
 cases mx with
 |none=>
  cases MX with
  |some _=>exact dm.elim
  |none=>
   have hmk:m=k:=by
    rcases hm with⟨_,e⟩|⟨_,e,_⟩
    ·exact e
    ·simp at e
   subst hmk
   simp only[if_true]at hh
   have A2:∀LO',LO=some LO'->∀code,(Instr.sliceBound LO' h code).run P w=.ok l w:=fun X e code=>by
    subst e
    cases lo with
    |none=>exact fS.elim
    |some u=>exact(ML fS hl (aO _)).1
   have eG:LO=none->l=0:=fun e=>by
    subst e
    cases lo with
    |none=>simpa[dB]using hl.symm
    |some u=>exact fS.elim
   have MM:∀HI',HI=some HI'->∀code,(Instr.sliceBound HI' m code).run P w=.ok h w:=fun X e code=>by
    subst e
    cases hi with
    |none=>exact g_.elim
    |some u=>exact(ML g_ hh hy).1
   have hh0:HI=none->h=len:=fun e=>by
    subst e
    cases hi with
    |none=>simpa[dB]using hh.symm
    |some u=>exact g_.elim
   cases HI with
   |none=>
    have:=hh0 rfl;subst this
    cases LO with
    |none=>have:=eG rfl;subst this;simp[Instr.sliceBounds]
    |some X=>simp[Instr.sliceBounds,A2 X rfl,Result.andThen]
   |some Y=>
    cases LO with
    |none=>have:=eG rfl;subst this;simp[Instr.sliceBounds,MM Y rfl,Result.andThen]
    |some X=>simp[Instr.sliceBounds,A2 X rfl,MM Y rfl,Result.andThen]
 |some um=>
  cases MX with
  |none=>exact dm.elim
  |some Z=>
   obtain⟨hm,jh⟩:dB (some um) y 0=some m/\hi.isSome=true:=by
    rcases hm with⟨e,_⟩|⟨e,_,e'⟩
    ·simp at e
    ·exact⟨e,e'⟩
   have hz:∀code,(Instr.sliceBound Z k code).run P w=.ok m w:=fun code=>(ML dm hm hy).1
   simp only[reduceCtorEq,if_false]at hh
   cases hi with
   |none=>simp at jh
   |some u=>
    cases HI with
    |none=>exact g_.elim
    |some Y=>
     have wz:∀code,(Instr.sliceBound Y m code).run P w=.ok h w:=fun code=>(ML g_ hh (aO _)).1
     cases lo with
     |none=>
      cases LO with
      |some _=>exact fS.elim
      |none=>
       simp only[dB,an]at hl;subst hl
       simp[Instr.sliceBounds,hz,wz,Result.andThen]
     |some ul=>
      cases LO with
      |none=>exact fS.elim
      |some X=>
       have jv:∀code,(Instr.sliceBound X h code).run P w=.ok l w:=fun code=>(ML fS hl (aO _)).1
       simp[Instr.sliceBounds,hz,wz,jv,Result.andThen]
def wC{u:Option V}{y d m:Nat}(h:dB u y d=some m):m<=y\/(u=none/\m=d):=by
 cases u with
 |none=>simp only[dB,an]at h;exact .inr ⟨rfl,h.symm⟩
 |some u=>
  simp only[dB,kR]at h
  split at h
  ·split at h
   ·simp only[an]at h;left;omega
   ·cases h
  ·cases h
def Zvj(hh:bm P μ w st)(hr:RR μ r n a.tmps){t:TypeId}{x:Operand}{lo hi:Option Operand}{s:Src}{ls hs:Option Src}(ht:P.underlying t=some .string)(hx:bC P x=some s)
  (fS:uV P lo=some ls) (g_:uV P hi=some hs) (h:zE s ls hs call r st=some (v,aA)):
  ba P μ w st (do pure (.value (<-Instr.sliceAt t (a.eval x) (lo.map a.eval) (hi.map a.eval) none))) v aA:=by
 unfold zE at h
 split at h
 ·rename_i l vl vh h1 h2 h3
  have e1:=cU hh hr hx h1
  simp only[VR]at e1
  have e2:=uo hh hr fS h2
  have e3:=uo hh hr g_ h3
  split at h
  ·rename_i hb qH
   split at h
   ·rename_i lb jw
    simp only[an,bs]at h
    obtain⟨rfl,rfl⟩:=h
    have kM:(⟨l.toArray⟩:ByteArray).size=l.length:=by show l.toArray.size=_;simp
    have bQ:=HQ (P:=P) (w:=w) (isS:=false) (len:=l.length) (y:=l.length) (k:=l.length) (mx:=none) (MX:=none) (m:=l.length) e2 e3 trivial (aO _) (.inl ⟨rfl,rfl⟩) (by simpa using qH) jw
    refine ba.value hh (x:=.string ((⟨l.toArray⟩:ByteArray).extract lb hb)) ?_ ?_
    ·simp[Instr.sliceAt,Instr.slice,run_underlying ht,e1,kM,bQ,Result.andThen]
    ·simp only[VR]
     congr 1
     apply ByteArray.ext
     rw[ByteArray.data_extract]
     apply Array.ext'
     simp[List.extract,List.drop_take]
   ·cases h
  ·cases h
 ·cases h
def Kl{t e:TypeId}{z:Nat}(ht:P.underlying t=some (.slice e))(hz:eX P e=some z){A:Option Addr}{len c l h m:Nat}{LO HI MX:Option Value}
  (hb:(Instr.sliceBounds true len c LO HI MX).run P w=.ok (l,h,m) w):
  (Instr.sliceAt t (.slice A len c) LO HI MX).run P w=.ok (.slice (if m=l then A else A.map (·.add (l*z))) (h-l) (m-l)) w:=by
 simp[Instr.sliceAt,Instr.slice,run_underlying ht,hb,yP hz,Result.andThen]
def Zzr(hh:bm P μ w st)(hr:RR μ r n a.tmps){t e:TypeId}{z:Nat}{x:Operand}{lo hi mx:Option Operand}{s:Src}{ls hs ms:Option Src}(ht:P.underlying t=some (.slice e))(hz:eX P e=some z)
  (hx:bC P x=some s) (fS:uV P lo=some ls) (g_:uV P hi=some hs) (dm:uV P mx=some ms) (h:qp z s ls hs ms call r st=some (v,aA)):
  ba P μ w st (do pure (.value (<-Instr.sliceAt t (a.eval x) (lo.map a.eval) (hi.map a.eval) (mx.map a.eval)))) v aA:=by
 unfold qp at h
 split at h
 ·-- nil
  rename_i vl vh vm h1 h2 h3 h4
  have e1:=cU hh hr hx h1
  simp only[VR]at e1
  have e2:=uo hh hr fS h2
  have e3:=uo hh hr g_ h3
  have e4:=uo hh hr dm h4
  split at h
  ·rename_i m hm
   split at h
   ·rename_i hb qH
    split at h
    ·rename_i lb jw
     split at h
     ·cases h
     ·rename_i mW
      simp only[an,bs]at h
      obtain⟨rfl,rfl⟩:=h
      have gg:m=0:=by rcases wC hm with h|h<;>omega
      have jj:hb=0:=by rcases wC qH with h|h<;>omega
      have eG:lb=0:=by rcases wC jw with h|h<;>omega
      subst gg jj eG
      have bQ:=HQ (P:=P) (w:=w) (isS:=true) (len:=0) (y:=0) (k:=0) e2 e3 e4 (aO _) (m:=0) (h:=0) (l:=0)
       (by cases vm with
        |none=>exact .inl ⟨rfl,rfl⟩
        |some u=>cases vh with
         |none=>simp at mW
         |some u'=>exact .inr ⟨hm,rfl,rfl⟩)
       (by cases vm<;>simpa using qH) jw
      refine ba.value hh (x:=.slice none 0 0) ?_ (by simp[VR])
      rw[e1,Kl ht hz bQ]
      simp
    ·cases h
   ·cases h
  ·cases h
 ·-- not nil,empty
  rename_i vl vh h1 h2 h3 h4
  have e1:=cU hh hr hx h1
  obtain⟨A,c,e1⟩:=e1
  have e2:=uo hh hr fS h2
  have e3:=uo hh hr g_ h3
  have e4:=uo hh hr dm h4
  split at h
  ·rename_i hb qH
   split at h
   ·rename_i lb jw
    simp only[an,bs]at h
    obtain⟨rfl,rfl⟩:=h
    have jj:hb=0:=by rcases wC qH with h|h<;>omega
    have eG:lb=0:=by rcases wC jw with h|h<;>omega
    subst jj eG
    have bQ:=HQ (P:=P) (w:=w) (isS:=true) (len:=0) (y:=0) (k:=c) e2 e3 e4 (uN _) (m:=c) (h:=0) (l:=0) (.inl ⟨rfl,rfl⟩) (by simpa using qH) jw
    refine ba.value hh (x:=.slice (some (if c=0 then A else A.add (0*z))) 0 (c-0)) ?_ ⟨_,_,rfl⟩
    rw[e1,Kl ht hz bQ]
    split<;>simp
   ·cases h
  ·cases h
 ·-- the capacity is known
  rename_i i o len c sz vl vh vm h1 h2 h3 h4
  obtain⟨l,c',hl,e1,hlen,AY,hc,_⟩:=cU hh hr hx h1
  have:=hc c rfl;subst this
  have e2:=uo hh hr fS h2
  have e3:=uo hh hr g_ h3
  have e4:=uo hh hr dm h4
  split at h
  ·cases h
  ·rename_i mW
   simp only[not_or,Decidable.not_not,Bool.not_eq_true]at mW
   obtain⟨rfl,mW⟩:=mW
   split at h
   ·rename_i m hm
    split at h
    ·rename_i hb qH
     split at h
     ·rename_i lb jw
      simp only[an,bs]at h
      obtain⟨rfl,rfl⟩:=h
      have hmc:m<=c':=by rcases wC hm with h|h<;>omega
      have bQ:=HQ (P:=P) (w:=w) (isS:=true) (len:=len) (y:=c') (k:=c') e2 e3 e4 (aO _) (m:=m) (h:=hb) (l:=lb)
       (by cases vm with
        |none=>simp only[dB,an]at hm;exact .inl ⟨rfl,hm.symm⟩
        |some u=>cases vh with
         |none=>simp at mW
         |some u'=>exact .inr ⟨hm,rfl,rfl⟩)
       (by cases vm with
        |none=>simp only[dB,an]at hm;subst hm;simpa using qH
        |some u=>simpa using qH) jw
      have XW:hb<=m:=by
       rcases wC qH with h|⟨h,h'⟩
       ·exact h
       ·subst h
        cases vm with
        |none=>simp only[dB,an]at hm;omega
        |some u=>simp at mW
      have MI:lb<=hb:=by rcases wC jw with h|h<;>omega
      have k1:m*sz<=c'*sz:=ki _ hmc
      have k2:(m-lb)*sz=m*sz-lb*sz:=Nat.sub_mul _ _ _
      have k3:lb*sz<=m*sz:=ki _ (by omega)
      refine ba.value hh (x:=.slice (some ⟨l.b,l.d+(if m=lb then o else o+lb*sz),none⟩) (hb-lb) (m-lb)) ?_ ⟨l,m-lb,hl,rfl,by omega,?_,fun k hk=>by simpa using hk,by simp⟩
      ·rw[e1,Kl ht hz bQ]
       split<;>simp[xN,pF]
      ·split
       ·rename_i e;subst e;simp;omega
       ·omega
     ·cases h
    ·cases h
   ·cases h
 ·-- the capacity is not known
  rename_i i o len sz vl vh vm h1 h2 h3 h4
  obtain⟨l,cw,hl,e1,hlen,AY,_,htn⟩:=cU hh hr hx h1
  have htn:=htn rfl
  have e2:=uo hh hr fS h2
  have e3:=uo hh hr g_ h3
  have e4:=uo hh hr dm h4
  split at h
  ·cases h
  ·rename_i mW
   simp only[not_or,Decidable.not_not,Bool.not_eq_true]at mW
   obtain⟨rfl,tr,mW⟩:=mW
   split at h
   ·rename_i cs _ _ al
    obtain⟨c'',_,_,_,_,cO,_⟩:=hh.row hl al
    have qI:max len ((cs.length-o)/sz)<=cw:=by
     have:(cs.length-o)/sz<=cw:=by
      rw[Nat.div_le_iff_le_mul_add_pred (by omega)]
      have:sz*cw=cw*sz:=jg _ _
      omega
     omega
    have zP:len<=max len ((cs.length-o)/sz):=by omega
    generalize max len ((cs.length-o)/sz)=y at*
    dsimp only at h
    split at h
    ·rename_i um
     split at h
     ·rename_i m hm
      split at h
      ·rename_i hb qH
       split at h
       ·rename_i lb jw
        simp only[an,bs]at h
        obtain⟨rfl,rfl⟩:=h
        cases vh with
        |none=>simp at mW
        |some uh=>
        have XX:m<=y:=by
         rcases wC (u:=some um) (d:=0) hm with h|h
         ·exact h
         ·simp at h
        have bQ:=HQ (P:=P) (w:=w) (isS:=true) (len:=len) (y:=y) (k:=cw) e2 e3 e4 qI (m:=m) (h:=hb) (l:=lb) (.inr ⟨hm,rfl,rfl⟩) (by simpa using qH) jw
        have XW:hb<=m:=by
         rcases wC qH with h|⟨h,h'⟩
         ·exact h
         ·simp at h
        have MI:lb<=hb:=by rcases wC jw with h|h<;>omega
        have k1:m*sz<=cw*sz:=ki _ (by omega)
        have k2:(m-lb)*sz=m*sz-lb*sz:=Nat.sub_mul _ _ _
        have k3:lb*sz<=m*sz:=ki _ (by omega)
        refine ba.value hh (x:=.slice (some ⟨l.b,l.d+(if m=lb then o else o+lb*sz),none⟩) (hb-lb) (m-lb)) ?_ ⟨l,m-lb,hl,rfl,by omega,?_,fun k hk=>by simpa using hk,by simp⟩
        ·rw[e1,Kl ht hz bQ]
         split<;>simp[xN,pF]
        ·split
         ·rename_i e;subst e;simp;omega
         ·omega
       ·cases h
      ·cases h
     ·cases h
    ·split at h
     ·rename_i hb qH
      split at h
      ·rename_i lb jw
       have bQ:=HQ (P:=P) (w:=w) (isS:=true) (len:=len) (y:=y) (k:=cw) e2 e3 e4 qI (m:=cw) (h:=hb) (l:=lb) (.inl ⟨rfl,rfl⟩) (by simpa using qH) jw
       have XW:hb<=y:=by rcases wC qH with h|⟨h,h'⟩<;>omega
       have MI:lb<=hb:=by rcases wC jw with h|h<;>omega
       have k2:(cw-lb)*sz=cw*sz-lb*sz:=Nat.sub_mul _ _ _
       have k3:lb*sz<=cw*sz:=ki _ (by omega)
       split at h
       ·rename_i au
        simp only[an,bs]at h
        obtain⟨rfl,rfl⟩:=h
        refine ba.value hh (x:=.slice (some ⟨l.b,l.d+(o+lb*sz),none⟩) (hb-lb) (cw-lb)) ?_ ⟨l,cw-lb,hl,rfl,by omega,by omega,by simp,fun _=>by omega⟩
        rw[e1,Kl ht hz bQ]
        rw[ak (by omega)]
        simp[xN,pF]
       ·simp only[an,bs]at h
        obtain⟨rfl,rfl⟩:=h
        have:hb-lb=0:=by omega
        refine ba.value hh (x:=.slice (some (if cw=lb then ⟨l.b,l.d+o,none⟩ else (⟨l.b,l.d+o,none⟩:Addr).add (lb*sz))) 0 (cw-lb)) ?_ ⟨_,_,rfl⟩
        rw[e1,Kl ht hz bQ,this]
        split<;>simp
      ·cases h
     ·cases h
   ·cases h
 ·cases h
def Zvk(hh:bm P μ w st)(hr:RR μ r n a.tmps){t e:TypeId}{k z:Nat}{x:Operand}{lo hi mx:Option Operand}{s:Src}{ls hs ms:Option Src}(ht:P.underlying t=some (.array k e))(hz:eX P e=some z)
  (hx:bC P x=some s) (fS:uV P lo=some ls) (g_:uV P hi=some hs) (dm:uV P mx=some ms) (h:AD k z s ls hs ms call r st=some (v,aA)):
  ba P μ w st (do pure (.value (<-Instr.sliceAt t (a.eval x) (lo.map a.eval) (hi.map a.eval) (mx.map a.eval)))) v aA:=by
 unfold AD at h
 split at h
 ·rename_i i o vl vh h1 h2 h3 h4
  obtain⟨l,hl,e1⟩:=cU hh hr hx h1
  have e2:=uo hh hr fS h2
  have e3:=uo hh hr g_ h3
  have e4:=uo hh hr dm h4
  split at h
  ·rename_i hb qH
   split at h
   ·rename_i lb jw
    split at h
    ·rename_i cs _ _ al
     split at h
     ·rename_i cM
      simp only[an,bs]at h
      obtain⟨rfl,rfl⟩:=h
      obtain⟨c'',_,_,_,_,cO,_⟩:=hh.row hl al
      have bQ:=HQ (P:=P) (w:=w) (isS:=false) (len:=k) (y:=k) (k:=k) e2 e3 e4 (aO _) (m:=k) (h:=hb) (l:=lb) (.inl ⟨rfl,rfl⟩) (by simpa using qH) jw
      have XW:hb<=k:=by rcases wC qH with h|⟨h,h'⟩<;>omega
      have MI:lb<=hb:=by rcases wC jw with h|h<;>omega
      have k2:(k-lb)*z=k*z-lb*z:=Nat.sub_mul _ _ _
      have k3:lb*z<=k*z:=ki _ (by omega)
      have MF:=cM.1
      refine ba.value hh (x:=.slice (some ⟨l.b,l.d+(if k=lb then o else o+lb*z),none⟩) (hb-lb) (k-lb)) ?_ ⟨l,k-lb,hl,rfl,by omega,?_,fun k hk=>by simpa using hk,by simp⟩
      ·simp only[Instr.sliceAt,Sem.run_bind,run_underlying ht,Result.andThen,Instr.sureAddr,e1,Sem.run_pure,bQ,yP hz]
       split<;>simp[xN,pF]
      ·split
       ·rename_i e;subst e;simp;omega
       ·omega
     ·cases h
    ·cases h
   ·cases h
  ·cases h
 ·cases h
end
section
variable {P:Program} {μ:Mu} {w:World} {st aA:St} {r:T V} {n:Nat} {a:Act} {call:cH} {v:V}
def Ru{α:Type}{c vs:List α}{o:Nat}(h:o+vs.length<=c.length):(ae c o vs).length=c.length:=by
 simp[ae];omega
def Kj{α:Type}{c vs:List α}{o:Nat}(h:o+vs.length<=c.length)(j:Nat):(ae c o vs)[j]?=if o<=j/\j<o+vs.length then vs[j-o]? else c[j]?:=by
 have au:(c.take o).length=o:=by simp;omega
 unfold ae
 rw[tU]
 by_cases h1:j<o
 ·rw[iS (by omega),ak (by omega),iI,ax h1]
 ·rw[lD (by omega),au]
  by_cases h2:j<o+vs.length
  ·rw[iS (by omega),ax ⟨by omega,h2⟩]
  ·rw[lD (by omega),ak (by omega),ff]
   congr 1;omega
def aU.ae{c vs:List V}{c' ky:List Value}(h:aU μ c c')(h':aU μ vs ky)(o:Nat):aU μ (ae c o vs) (ae c' o ky):=by
 unfold Mx.ae
 rw[h'.length]
 exact((h.take o).append h').append (h.drop _)
def Zny{α:Type}(c:List α)(o:Nat)(x:α)(vs:List α)(h:o<c.length):Mx.ae (c.set o x) (o+1) vs=Mx.ae c o (x::vs):=by
 unfold Mx.ae
 have e1:(c.set o x).take (o+1)=c.take o++[x]:=by
  rw[uQ,List.take_set_of_le (aO _)]
  simp[h]
 have e2:(c.set o x).drop (o+1+vs.length)=c.drop (o+(vs.length+1)):=by
  rw[List.drop_set_of_lt (by omega)]
  congr 1;omega
 rw[e1,e2]
 simp
def Yke(off:Nat):∀(vs:List Value) (k:Nat) (cs:List Value),off+k+vs.length<=cs.length->
  (vs.zipIdx k).foldl (fun (cs:Array Value) (p:Value×Nat)=>cs.setIfInBounds (off+p.2) p.1) ⟨cs⟩=⟨ae cs (off+k) vs⟩:=by
 intro vs
 induction vs with
 |nil=>intro k cs h;simp[ae]
 |cons x vs ih=>
  intro k cs h
  simp only[bo]at h
  simp only[List.zipIdx_cons,List.foldl_cons]
  have e:(⟨cs⟩:Array Value).setIfInBounds (off+k) x=⟨cs.set (off+k) x⟩:=by
   apply Array.ext'
   simp
  rw[e,ih (k+1) (cs.set (off+k) x) (by simp;omega),<-pF,Zny _ _ _ _ (by omega)]
def XY(hh:bm P μ w st)(hr:RR μ r n a.tmps){place:Nat->Option (Nat×Nat)}:∀{parts:List (Nat×Operand)} {u9:List (Nat×Nat×Src)},BP P place parts=some u9->
  ∀{ps:List (Nat×Nat×V)},BV r u9=some ps->∀{cs:List V} {FD:List Value},aU μ cs FD->∀{l:List V},BU cs ps=some l->
  ∃l',Instr.fill place ⟨FD⟩ (parts.map fun p=>(p.1,a.eval p.2))=some ⟨l'⟩/\aU μ l l':=by
 intro parts
 induction parts with
 |nil=>
  intro u9 hc ps he cs FD jC l hl
  simp only[BP,an]at hc;subst hc
  simp only[BV,an]at he;subst he
  simp only[BU,an]at hl;subst hl
  exact⟨FD,by simp[Instr.fill],jC⟩
 |cons p parts ih=>
  intro u9 hc ps he cs FD jC l hl
  obtain⟨i,x⟩:=p
  simp only[BP]at hc
  split at hc
  ·rename_i o s sx l' hp hx ik
   simp only[an]at hc;subst hc
   simp only[BV]at he
   split at he
   ·rename_i u vs hu GU
    simp only[an]at he;subst he
    simp only[BU]at hl
    split at hl
    ·rename_i cM
     have Ry:=cU hh hr hx hu
     have il:=Ry.cells
     have hlen:(a.eval x).cells.size=s:=by
      have:=il.length
      rw[<-cM.1,<-this];simp
     have fj:(a.eval x).cells.toList.length=s:=by simpa using hlen
     obtain⟨l'',h1,h2⟩:=ih ik GU (jC.ae il o) hl
     refine⟨l'',?_,h2⟩
     simp only[mU,Instr.fill,hp]
     rw[ak]
     ·have e:((a.eval x).cells.zipIdx.foldl (fun (cs:Array Value) (p:Value×Nat)=>cs.setIfInBounds (o+p.2) p.1) ⟨FD⟩)=⟨ae FD o (a.eval x).cells.toList⟩:=by
       rw[<-Array.foldl_toList,Array.toList_zipIdx]
       have:=Yke o (a.eval x).cells.toList 0 FD (by rw[fj,jC.length];omega)
       simpa using this
      rw[<-h1]
      congr 1
     ·have cO:=jC.length
      simp only[hlen,ne_eq,not_true_eq_false,decide_false,Bool.false_or,decide_eq_true_eq]
      simp[cO];omega
    ·cases hl
   ·cases he
  ·cases hc
def Zz4:∀{fs:List Field} {pl:List (Nat×Nat)},JE P fs=some pl->fs.mapM (fun f=>(P.info? f.type).map fun i=>(f.offset,i.size))=some pl:=by
 intro fs
 induction fs with
 |nil=>intro pl h;simp only[JE,an]at h;subst h;simp
 |cons f fs ih=>
  intro pl h
  simp only[JE]at h
  split at h
  ·rename_i s l hs hl
   simp only[an]at h;subst h
   unfold eX at hs
   simp only[kh]at hs
   obtain⟨i,hi,rfl⟩:=hs
   simp[List.mapM_cons,hi,ih hl]
  ·cases h
def HN{t:TypeId}{z:V}(h:rC P t=some z):∃i x,P.info? t=some i/\i.zero=some x/\∀μ,VR μ z x:=by
 unfold rC at h
 split at h
 ·rename_i i hi
  split at h
  ·rename_i x hx
   exact⟨i,x,hi,hx,fun μ=>QS μ x z h⟩
  ·cases h
 ·cases h
def Zph(hh:bm P μ w st)(hr:RR μ r n a.tmps){t:TypeId}{fs:Array Field}{pl:List (Nat×Nat)}{z:V}{parts:Array (Nat×Operand)}{u9:List (Nat×Nat×Src)}
  (hz:rC P t=some z) (ht:P.underlying t=some (.struct fs)) (hp:JE P fs.toList=some pl) (hc:BP P (pl[·]?) parts.toList=some u9) (h:CZ z.cells u9 call r st=some (v,aA)):
  ba P μ w st (do pure (.value (<-Instr.build t (parts.map fun (i,x)=>(i,a.eval x))))) v aA:=by
 unfold CZ at h
 split at h
 ·rename_i ps rk
  split at h
  ·rename_i l hl
   simp only[an,bs]at h
   obtain⟨rfl,rfl⟩:=h
   obtain⟨i,x,hi,hx,qF⟩:=HN hz
   obtain⟨l',h1,h2⟩:=XY hh hr hc rk (qF μ).cells hl
   refine ba.value hh (x:=.agg ⟨l'⟩) (run_build w t _ _ ?_) ⟨l',rfl,h2⟩
   simp only[Program.built,hi,ht,hx,Zz4 hp]
   rw[<-h1]
   simp
  ·cases h
 ·cases h
def Zpz(hh:bm P μ w st)(hr:RR μ r n a.tmps){t e:TypeId}{k s:Nat}{z:V}{parts:Array (Nat×Operand)}{u9:List (Nat×Nat×Src)}
  (hz:rC P t=some z) (ht:P.underlying t=some (.array k e)) (hs:eX P e=some s) (hc:BP P (fun i=>some (i*s,s)) parts.toList=some u9) (h:CZ z.cells u9 call r st=some (v,aA)):
  ba P μ w st (do pure (.value (<-Instr.build t (parts.map fun (i,x)=>(i,a.eval x))))) v aA:=by
 unfold CZ at h
 split at h
 ·rename_i ps rk
  split at h
  ·rename_i l hl
   simp only[an,bs]at h
   obtain⟨rfl,rfl⟩:=h
   obtain⟨i,x,hi,hx,qF⟩:=HN hz
   unfold eX at hs
   simp only[kh]at hs
   obtain⟨ie,hie,rfl⟩:=hs
   obtain⟨l',h1,h2⟩:=XY hh hr hc rk (qF μ).cells hl
   refine ba.value hh (x:=.agg ⟨l'⟩) (run_build w t _ _ ?_) ⟨l',rfl,h2⟩
   simp only[Program.built,hi,ht,hx,hie]
   rw[<-h1]
   simp
  ·cases h
 ·cases h
def MN{vs:List V}{xs:List Value}(h:aU μ vs xs)(hv:vs.all V.one=true):∀x∈xs,x.oneCell'=true:=by
 intro x hx
 obtain⟨j,hj⟩:=uR hx
 have hl:=h.length
 have HR:j<xs.length:=(xB.1 hj).1
 have:∃u,vs[j]?=some u:=⟨vs[j]'(by omega),by simp⟩
 obtain⟨u,hu⟩:=this
 obtain⟨y,h1,h2⟩:=h.get hu
 rw[hj]at h1;cases h1
 have yL:u.one=true:=by
  rw[me]at hv
  exact hv u (bM hu)
 have:=h2.one yL
 cases x<;>simp_all [Value.oneCell']
def ba.newRow(hh:bm P μ w st){s:Sem Value}{x:Value}{cs:List V}{xs:List Value}{e:TypeId}(hs:s.run P w=.ok x (w.alloc (.cells ⟨xs⟩ e)))
  (hc:aU μ cs xs) (h1:∀x∈xs,x.oneCell'=true) (hv:VR (fun i=>if i=st.n then some ⟨w.heap.size,0,xs.length⟩ else μ i) v x):
  ba P μ w st (do pure (.value (<-s))) v (st.alloc (.cells cs e true)):=by
 have dw:∀i l,μ i=some l->(fun i=>if i=st.n then some (⟨w.heap.size,0,xs.length⟩:L) else μ i) i=some l:=fun i l hl=>by
  have:=(hh.c_ i l hl).1
  simp only
  rw[ak (by omega)];exact hl
 refine⟨Next.value x,x,_,_,[],by simp[hs,Result.andThen],.inl rfl,hv,bH.alloc hh (.cells cs e true) (.cells ⟨xs⟩ e) 0 xs.length ⟨⟨xs⟩,0,0,?_,by simp,by simp[hc.length],fun j u hu=>?_,fun j y _ hy=>?_,fun _=>⟨rfl,fun j hj=>by omega⟩⟩⟩
 ·simp
 ·obtain⟨y,hy,hr⟩:=hc.get hu
  exact⟨y,by simpa using hy,VR.mono dw u y hr⟩
 ·exact h1 y (bM (by simpa using hy))
def Ylj(hh:bm P μ w st){e:TypeId}{z:V}(hz:rC P e=some z)(gG:z.cells.all V.one=true)(h:JU z.cells e call r st=some (v,aA)):
  ba P μ w st (do pure (.value (<-Instr.alloc e true (.tuple #[])))) v aA:=by
 unfold JU at h
 simp only[an,bs]at h
 obtain⟨rfl,rfl⟩:=h
 obtain⟨i,x,hi,hx,qF⟩:=HN hz
 refine ba.newRow hh (v:=.ptr st.n 0) (xs:=x.cells.toList) (x:=.pointer (some ⟨w.heap.size,0,none⟩)) ?_ (qF μ).cells (MN (qF μ).cells gG) (by simp only[VR];exact⟨⟨w.heap.size,0,x.cells.toList.length⟩,by simp,by simp⟩)
 simp[Instr.alloc,zeroValue,typeInfo,hi,hx,newVar,Go.newRow,Result.andThen]
def Yt9(hh:bm P μ w st)(hr:RR μ r n a.tmps){e:TypeId}{x:Operand}{s:Src}(hx:bC P x=some s)(h:He e s call r st=some (v,aA)):
  ba P μ w st (do pure (.value (<-Instr.box e (a.eval x)))) v aA:=by
 unfold He at h
 split at h
 ·rename_i u hu
  split at h
  ·rename_i gG
   simp only[an,bs]at h
   obtain⟨rfl,rfl⟩:=h
   have Ry:=cU hh hr hx hu
   refine ba.newRow hh (v:=.ptr st.n 0) (xs:=(a.eval x).cells.toList) (x:=.pointer (some ⟨w.heap.size,0,none⟩)) ?_ Ry.cells (MN Ry.cells gG) (by simp only[VR];exact⟨⟨w.heap.size,0,_⟩,by simp;rfl,by simp⟩)
   simp[Instr.box,newVar,Go.newRow,Result.andThen]
  ·cases h
 ·cases h
end
section
variable {P:Program} {μ:Mu} {w:World} {st aA:St} {r:T V} {n:Nat} {a:Act} {call:cH} {v:V}
def Znm(zs:List V)(k:Nat):(cW zs k).length=k*zs.length:=by simp[cW]
def Rr{zs:List V}{xs:List Value}(h:aU μ zs xs)(k:Nat):aU μ (cW zs k) (madeCells ⟨xs⟩ (k*zs.length)).toList:=by
 have hl:=h.length
 refine aU.rG (by simp[cW,madeCells]) fun j u hu=>?_
 have hj:j<k*zs.length:=by
  have:=(xB.1 hu).1
  simpa[cW]using this
 have hz:0<zs.length:=by
  rcases G6 zs.length with e|e
  ·rw[e]at hj;simp at hj
  ·exact e
 have Dt:j%zs.length<zs.length:=kQ _ hz
 simp only[cW,fm,CK hj,ti,an]at hu
 obtain⟨y,h1,h2⟩:=h.get (i:=j%zs.length) (v:=zs[j%zs.length]) (by simp[Dt])
 refine⟨y,?_,?_⟩
 ·simp only[madeCells,Array.toList_map,Array.toList_range,fm,CK hj,ti,an]
  have fO:(⟨xs⟩:Array Value)[j%xs.length]?=some y:=by rw[hl];simpa using h1
  simp only[Array.size,getElem!_def,fO]
 ·rw[<-hu]
  simpa[List.getD,Dt]using h2
def XN{zs:List V}(h:zs.all V.one=true)(k:Nat):∀{xs:List Value},aU μ (cW zs k) xs->∀x∈xs,x.oneCell'=true:=by
 intro xs hx
 refine MN hx ?_
 rw[me]
 intro u hu
 simp only[cW,eC,yA]at hu
 obtain⟨j,hj,rfl⟩:=hu
 have hz:0<zs.length:=by
  rcases G6 zs.length with e|e
  ·rw[e]at hj;simp at hj
  ·exact e
 have Dt:j%zs.length<zs.length:=kQ _ hz
 rw[me]at h
 simpa[List.getD,Dt]using h zs[j%zs.length] (by simp)
def Yg0(hh:bm P μ w st)(hr:RR μ r n a.tmps){t e:TypeId}{s len:Nat}{z:V}{parts:Array (Nat×Operand)}{u9:List (Nat×Nat×Src)}
  (ht:P.underlying t=some (.slice e)) (hs:eX P e=some s) (hz:rC P e=some z) (hle:¬len*s > 2^24) (MA:z.cells.length=s)
  (hc:BP P (fun i=>some (i*s,s)) parts.toList=some u9) (h:Hf e s len (cW z.cells len) u9 call r st=some (v,aA)):
  ba P μ w st (do pure (.value (<-Instr.buildSlice t len (parts.map fun (i,x)=>(i,a.eval x))))) v aA:=by
 unfold Hf at h
 split at h
 ·rename_i ps rk
  split at h
  ·rename_i l hl
   split at h
   ·rename_i gG
    simp only[an,bs]at h
    obtain⟨rfl,rfl⟩:=h
    obtain⟨i,x,hi,hx,qF⟩:=HN hz
    have wD:=(qF μ).cells
    have oW:=Rr wD len
    rw[MA]at oW
    obtain⟨l',h1,h2⟩:=XY hh hr hc rk oW hl
    have tm:=h2.length
    refine ba.newRow hh (v:=.slice st.n 0 len (some len) s) (xs:=l') (x:=.slice (some ⟨w.heap.size,0,none⟩) len len) ?_ h2 (MN h2 gG) ?_
    ·have fO:Instr.fill (fun i=>some (i*s,s)) (madeCells x.cells (len*s)) (parts.map fun p=>(p.1,a.eval p.2)).toList=some ⟨l'⟩:=by
      rw[<-h1]
      simp
     simp only[Instr.buildSlice,Sem.run_bind,run_underlying ht,Result.andThen,yP hs,ak hle]
     split
     ·rename_i e0
      have il:((Array.range (len*s)).map ((#[]:Array Value)[·%(#[]:Array Value).size]!))=madeCells x.cells (len*s):=by
       simp[madeCells,e0]
      simp only[Sem.run_bind,Sem.run_pure,Result.andThen,il]
      rw[fO]
      simp[Go.newRow,Result.andThen]
     ·have il:((Array.range (len*s)).map (x.cells[·%x.cells.size]!))=madeCells x.cells (len*s):=rfl
      simp only[zeroValue,typeInfo,Sem.run_bind,Sem.run_pure,Result.andThen,hi,hx,run_program]
      simp only[il]
      rw[fO]
      simp[Go.newRow,Result.andThen]
    ·have MO:l.length=len*s:=by
      have:∀(ps:List (Nat×Nat×V)) (cs l:List V),BU cs ps=some l->l.length=cs.length:=by
       intro ps
       induction ps with
       |nil=>intro cs l h;simp only[BU,an]at h;rw[h]
       |cons p ps ih=>
        intro cs l h
        obtain⟨o,s,u⟩:=p
        simp only[BU]at h
        split at h
        ·rename_i hc
         rw[ih _ _ h,Ru (by omega)]
        ·cases h
      rw[this ps _ l hl,Znm,MA]
     simp only[VR]
     exact⟨⟨w.heap.size,0,l'.length⟩,len,by simp,by simp,aO _,by simp[tm,MO],by simp,by simp⟩
   ·cases h
  ·cases h
 ·cases h
def Yap(hh:bm P μ w st)(hr:RR μ r n a.tmps){t e:TypeId}{s b:Nat}{z:V}{x y:Operand}{sx sy:Src}(ht:P.underlying t=some (.slice e))(hs:eX P e=some s)(hb:CN P e=some b)(hz:rC P e=some z)
  (gG:z.cells.all V.one=true) (hx:bC P x=some sx) (hy:bC P y=some sy) (h:C0 e s b z.cells sx sy call r st=some (v,aA)):
  ba P μ w st (do pure (.value (<-Instr.makeSlice t (a.eval x) (a.eval y)))) v aA:=by
 unfold C0 at h
 split at h
 ·rename_i k l k' c h1 h2
  have e1:=cU hh hr hx h1
  have e2:=cU hh hr hy h2
  simp only[VR]at e1 e2
  split at h
  ·rename_i hc
   obtain⟨eG,zv,hbc,zaO,kM,fh⟩:=hc
   simp only[an,bs]at h
   obtain⟨rfl,rfl⟩:=h
   obtain⟨i,zx,hi,qF,Rz⟩:=HN hz
   unfold eX at hs
   unfold CN at hb
   simp only[hi,ti,an]at hs hb
   have wD:=(Rz μ).cells
   have oW:=Rr wD c.toNat
   rw[<-kM]at oW
   have bQ:=run_make (P:=P) w t e i zx ht hi qF k k' l c eG zv (by rw[hb];omega) (by omega)
   rw[hs]at bQ
   refine ba.newRow hh (v:=.slice st.n 0 l.toNat (some c.toNat) s) (xs:=(madeCells zx.cells (c.toNat*s)).toList) (x:=.slice (some ⟨w.heap.size,0,none⟩) l.toNat c.toNat) ?_ oW (XN gG c.toNat oW) ?_
   ·rw[e1,e2,bQ]
   ·simp only[VR]
    exact⟨⟨w.heap.size,0,_⟩,c.toNat,by simp;rfl,by simp,by omega,by simp[madeCells],by simp,by simp⟩
  ·cases h
 ·cases h
def ba.newObj(hh:bm P μ w st){s:Sem Value}{x:Value}{o:O}{ob:Obj}(hs:s.run P w=.ok x (w.alloc ob))
  (ho:OM P (fun i=>if i=st.n then some ⟨w.heap.size,0,0⟩ else μ i) (w.alloc ob) o ⟨w.heap.size,0,0⟩) (hv:VR (fun i=>if i=st.n then some ⟨w.heap.size,0,0⟩ else μ i) v x):
  ba P μ w st (do pure (.value (<-s))) v (st.alloc o):=
 ⟨Next.value x,x,_,_,[],by simp[hs,Result.andThen],.inl rfl,hv,bH.alloc hh o ob 0 0 ho⟩
def XZ(w:World)(o:Obj):(w.alloc o).heap[w.heap.size]?=some o:=by
 show (w.heap.push o)[w.heap.size]?=some o
 simp
def Yjo(hh:bm P μ w st){t:TypeId}(h:JX call r st=some (v,aA)):ba P μ w st (do pure (.value (<-Instr.makeMap t none))) v aA:=by
 unfold JX at h
 simp only[an,bs]at h
 obtain⟨rfl,rfl⟩:=h
 refine ba.newObj hh (v:=.map st.n) (x:=.map (some w.heap.size)) (ob:=.map #[] 0) ?_ ⟨[],by simpa using XZ w _,rfl⟩ ?_
 ·simp[Instr.makeMap,Result.andThen]
 ·simp only[VR];exact⟨⟨w.heap.size,0,0⟩,by simp,rfl⟩
def Ys6(hh:bm P μ w st)(hr:RR μ r n a.tmps){t e:TypeId}{d:ChanDir}{b:Nat}{x:Operand}{s:Src}(ht:P.underlying t=some (.chan d e))(hb:CN P e=some b)(hx:bC P x=some s)
  (h:EV b s call r st=some (v,aA)):ba P μ w st (do pure (.value (<-Instr.makeChan t (a.eval x)))) v aA:=by
 unfold EV at h
 split at h
 ·rename_i q k hk
  have e1:=cU hh hr hx hk
  simp only[VR]at e1
  split at h
  ·cases h
  ·rename_i hc
   simp only[an,bs]at h
   obtain⟨rfl,rfl⟩:=h
   unfold CN at hb
   simp only[kh]at hb
   obtain⟨i,hi,rfl⟩:=hb
   refine ba.newObj hh (v:=.chan st.n) (x:=.chan (some w.heap.size)) (ob:=.chan k.toNat #[] false 0 0 false) ?_ ⟨[],0,0,by simpa using XZ w _,by simp[aU]⟩ ?_
   ·simp only[Instr.makeChan,e1,asInt,asIntOf,run_underlying ht,typeInfo,hi,ak hc,Result.andThen,Sem.run_bind,Sem.run_pure,run_program,run_newObj]
    rfl
   ·simp only[VR];exact⟨⟨w.heap.size,0,0⟩,by simp,rfl⟩
 ·cases h
def Zvu(hh:bm P μ w st)(hr:RR μ r n a.tmps){t:TypeId}{x:Operand}{s:Src}(ht:P.underlying t=some .string)(hx:bC P x=some s)
  (h:Hq s call r st=some (v,aA)):ba P μ w st (do pure (.value (<-Instr.range t (a.eval x)))) v aA:=by
 unfold Hq at h
 split at h
 ·rename_i q hk
  have e1:=cU hh hr hx hk
  simp only[VR]at e1
  simp only[an,bs]at h
  obtain⟨rfl,rfl⟩:=h
  refine ba.newObj hh (v:=.ptr st.n 0) (x:=.pointer (some ⟨w.heap.size,0,none⟩)) (ob:=.stringIter ⟨q.toArray⟩ 0) ?_ (by simp only[OM];exact⟨XZ w _,trivial⟩) ?_
  ·simp[Instr.range,e1,run_underlying ht,Result.andThen]
  ·simp only[VR];exact⟨⟨w.heap.size,0,0⟩,by simp,rfl⟩
 ·cases h
def XQ(g o:Nat)(t:TypeId)(lo hi:Nat):∀(vs:List Value) (i:Nat) (cur:List Value) (w:World),w.heap[g]?=some (.cells ⟨cur⟩ t (lo,hi))->o+i+vs.length<=cur.length->(∀v∈vs,v.oneCell'=true)->
  (∀j,o+i<=j->j<o+i+vs.length->¬(lo<=j/\j<hi))->(storeCells ⟨g,o,none⟩ vs i).run P w=.ok () (w.setRow g ⟨ae cur (o+i) vs⟩)
 |[],i,cur,w,hg,_,_,_=>by
  have e:ae cur (o+i) []=cur:=by simp[ae]
  rw[e,setRow_self w g _ t _ hg]
  simp[storeCells]
 |v::rest,i,cur,w,hg,hl,h1,hf=>by
  simp only[bo]at hl
  have iP:o+i<cur.length:=by omega
  have fX:w.cell? ⟨g,o+i,none⟩=some cur[o+i]:=by simp[World.cell?,hg,iP]
  have X0:w.frozen? ⟨g,o+i,none⟩=false:=by
   have:=hf (o+i) (aO _) (by simp)
   simp only[World.frozen?,hg]
   simp;omega
  have dK:(store ((⟨g,o,none⟩:Addr).add i) v).run P w=.ok () (w.setRow g ⟨cur.set (o+i) v⟩):=by
   rw[xN,run_store P w _ v _ (h1 v (by simp)),fX]
   simp[X0,setCell_eq_setRow w g (o+i) _ t _ v hg]
  have ih:=XQ g o t lo hi rest (i+1) (cur.set (o+i) v) (w.setRow g ⟨cur.set (o+i) v⟩) (setRow_heap w g _ _ t _ hg) (by simp;omega) (fun x hx=>h1 x (by simp[hx]))
   (fun j qk oR=>hf j (by omega) (by simp only[bo];omega))
  simp only[storeCells,Sem.run_bind,dK,Result.andThen_ok,ih,setRow_setRow]
  rw[<-pF,Zny _ _ _ _ iP]
def Rq(hh:bm P μ w st){i o:Nat}{l:L}(hl:μ i=some l){c:List V}{e:TypeId}(al:st.row i=some (c,e,true)){vs:List V}{xs:List Value}(hv:aU μ vs xs)(h1:∀x∈xs,x.oneCell'=true)
  (hlen:o+vs.length<=c.length):
  ∃w',(storeCells ⟨l.b,l.d+o,none⟩ xs).run P w=.ok () w'/\bH P μ w st μ w' (st.write i (.cells (ae c o vs) e true)) [i]:=by
 obtain⟨c',lo,hi,g1,g2,g3,g4,g5,g6⟩:=hh.row hl al
 obtain⟨cur⟩:=c'
 have zL:=hv.length
 simp only[List.size_toArray]at g2
 have bQ:=XQ (P:=P) l.b (l.d+o) e lo hi xs 0 cur w g1 (by omega) h1 (fun j qk oR=>by
  have:=(g6 rfl).2 (j-l.d) (by omega)
  rw[show l.d+(j-l.d)=j by omega]at this
  exact this)
 refine⟨_,bQ,?_⟩
 have hb:=setRow_heap w l.b _ (⟨ae cur (l.d+o+0) xs⟩:Array Value) e _ g1
 refine bH.write hh hl (MG al) rfl rfl rfl rfl (by simp) (fun b hb=>setRow_other w l.b b _ hb) ⟨_,lo,hi,hb,?_,?_,?_,?_,g6⟩
 ·simp only[List.size_toArray]
  rw[Ru (by omega)];exact g2
 ·rw[Ru hlen];exact g3
 ·intro j u hu
  rw[Kj hlen]at hu
  have e':∀k:Nat,(⟨ae cur (l.d+o+0) xs⟩:Array Value)[k]?=(ae cur (l.d+o+0) xs)[k]?:=fun k=>by simp
  rw[e',Kj (by omega)]
  split at hu
  ·rename_i hj
   rw[ax (by omega)]
   obtain⟨y,hy,hr⟩:=hv.get hu
   exact⟨y,by rw[show l.d+j-(l.d+o+0)=j-o by omega];exact hy,hr⟩
  ·rename_i hj
   rw[ak (by omega)]
   obtain⟨y,hy,hr⟩:=g4 j u hu
   exact⟨y,by simpa using hy,hr⟩
 ·intro j x au hx
  have e':(⟨ae cur (l.d+o+0) xs⟩:Array Value)[l.d+j]?=(ae cur (l.d+o+0) xs)[l.d+j]?:=by simp
  rw[e',Kj (by omega)]at hx
  split at hx
  ·exact h1 x (bM hx)
  ·exact g5 j x au (by simpa using hx)
def Yh4(hh:bm P μ w st)(hr:RR μ r n a.tmps){t:TypeId}{k:Nat}{x y:Operand}{sx sy:Src}(hk:eX P t=some k)(hx:bC P x=some sx)(hy:bC P y=some sy)
  (h:ET k sx sy call r st=some (v,aA)):ba P μ w st (do Instr.storeAt t (a.eval x) (a.eval y);pure .skip) v aA:=by
 unfold ET at h
 split at h
 ·rename_i i o u h1 h2
  obtain⟨l,hl,e1⟩:=cU hh hr hx h1
  have e2:=cU hh hr hy h2
  split at h
  ·rename_i c e al
   split at h
   ·rename_i hc
    simp only[an,bs]at h
    obtain⟨rfl,rfl⟩:=h
    have cO:=e2.cells
    have hlen:=cO.length
    obtain⟨w',hw,hs⟩:=Rq hh hl al cO (MN cO hc.2.2) (o:=o) (by omega)
    refine⟨.skip,undef,w',μ,[i],?_,.inr ⟨rfl,rfl⟩,⟨[],rfl,by simp[aU]⟩,hs⟩
    have kM:(a.eval y).cells.size=k:=by
     rw[<-hc.1,<-hlen];simp
    simp[Instr.storeAt,Instr.sureAddr,e1,storeVar,yP hk,kM,hw,Result.andThen]
   ·cases h
  ·cases h
 ·cases h
end
end Go.Mx
