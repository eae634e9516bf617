/-
  The operations of M stand for the Go model's: slice expressions, lengths, the least and the greatest.
-/
import Derived.Test.YtlbophlgohokkaaGreatDoorMxOp1
set_option linter.all false
namespace Go.Mx
open Go
set_option maxHeartbeats 1000000
section
variable {P:Program} {μ:Mu} {w:World} {st av:St} {r:T V} {n:Nat} {a:Act} {call:cA} {v:V}
def Ca(μ:Mu):Option V->Option Value->Prop
 |none,none=>True
 |some v,some x=>VR μ v x
 |_,_=>False
theorem oY(hh:bm P μ w st)(hr:RR μ r n a.tmps){x:Option Operand}{s:Option Src}(hc:nR P x=some s){v:Option V}(hv:ay r s=some v):Ca μ v (x.map a.eval):=by
 rcases UE hh hr hc hv with⟨rfl,rfl⟩|⟨v',x',rfl,rfl,h⟩
 ·trivial
 ·exact h
theorem Ca.isNone{v:Option V}{x:Option Value}(h:Ca μ v x):x.isNone=v.isNone:=by
 cases v<;>cases x<;>simp_all [Ca]
theorem GG{u:V}{X:Value}{y m k:Nat}{code:BoundsCode}(hu:VR μ u X)(h:iP u y=some m)(hk:y<=k):(Instr.sliceBound X k code).run P w=.ok m w/\m<=y:=by
 unfold iP at h
 split at h
 ·rename_i q z
  split at h
  ·rename_i hz
   simp only[ai]at h;subst h
   simp only[VR]at hu;subst hu
   have h2:z<=(k:Int):=by omega
   exact⟨by simp[Instr.sliceBound,asIntOf,hz.1,h2],by omega⟩
  ·cases h
 ·cases h
theorem Cb{isS:Bool}{len y k:Nat}{lo hi mx:Option V}{LO HI MX:Option Value}(fl:Ca μ lo LO)(fQ:Ca μ hi HI)(dh:Ca μ mx MX)(hy:y<=k){m h l:Nat}
  (hm:(mx=none/\m=k)\/(cX mx y 0=some m/\mx.isSome=true/\hi.isSome=true)) (hh:cX hi (if mx=none then y else m) len=some h) (hl:cX lo h 0=some l):
  (Instr.sliceBounds isS len k LO HI MX).run P w=.ok (l,h,m) w:=by
 cases mx with
 |none=>
  cases MX with
  |some _=>exact dh.elim
  |none=>
   have hmk:m=k:=by
    rcases hm with⟨_,e⟩|⟨_,e,_⟩
    ·exact e
    ·simp at e
   subst hmk
   simp only[if_true]at hh
   have vJ:∀Vj,LO=some Vj->∀code,(Instr.sliceBound Vj h code).run P w=.ok l w:=fun X e code=>by
    subst e
    cases lo with
    |none=>exact fl.elim
    |some u=>exact(GG fl hl (aV _)).1
   have ff:LO=none->l=0:=fun e=>by
    subst e
    cases lo with
    |none=>simpa[cX]using hl.symm
    |some u=>exact fl.elim
   have GH:∀Vk,HI=some Vk->∀code,(Instr.sliceBound Vk m code).run P w=.ok h w:=fun X e code=>by
    subst e
    cases hi with
    |none=>exact fQ.elim
    |some u=>exact(GG fQ hh hy).1
   have hh0:HI=none->h=len:=fun e=>by
    subst e
    cases hi with
    |none=>simpa[cX]using hh.symm
    |some u=>exact fQ.elim
   cases HI with
   |none=>
    have:=hh0 rfl;subst this
    cases LO with
    |none=>have:=ff rfl;subst this;simp[Instr.sliceBounds]
    |some X=>simp[Instr.sliceBounds,vJ X rfl,Result.andThen]
   |some Y=>
    cases LO with
    |none=>have:=ff rfl;subst this;simp[Instr.sliceBounds,GH Y rfl,Result.andThen]
    |some X=>simp[Instr.sliceBounds,vJ X rfl,GH Y rfl,Result.andThen]
 |some um=>
  cases MX with
  |none=>exact dh.elim
  |some Z=>
   obtain⟨hm,im⟩:cX (some um) y 0=some m/\hi.isSome=true:=by
    rcases hm with⟨e,_⟩|⟨e,_,e'⟩
    ·simp at e
    ·exact⟨e,e'⟩
   have hz:∀code,(Instr.sliceBound Z k code).run P w=.ok m w:=fun code=>(GG dh hm hy).1
   simp only[reduceCtorEq,if_false]at hh
   cases hi with
   |none=>simp at im
   |some u=>
    cases HI with
    |none=>exact fQ.elim
    |some Y=>
     have qF:∀code,(Instr.sliceBound Y m code).run P w=.ok h w:=fun code=>(GG fQ hh (aV _)).1
     cases lo with
     |none=>
      cases LO with
      |some _=>exact fl.elim
      |none=>
       simp only[cX,ai]at hl;subst hl
       simp[Instr.sliceBounds,hz,qF,Result.andThen]
     |some ul=>
      cases LO with
      |none=>exact fl.elim
      |some X=>
       have ja:∀code,(Instr.sliceBound X h code).run P w=.ok l w:=fun code=>(GG fl hl (aV _)).1
       simp[Instr.sliceBounds,hz,qF,ja,Result.andThen]
theorem qK{u:Option V}{y d m:Nat}(h:cX u y d=some m):m<=y\/(u=none/\m=d):=by
 cases u with
 |none=>simp only[cX,ai]at h;exact .inr ⟨rfl,h.symm⟩
 |some u=>
  simp only[cX,iP]at h
  split at h
  ·split at h
   ·simp only[ai]at h;left;omega
   ·cases h
  ·cases h
theorem Ztg(hh:bm P μ w st)(hr:RR μ r n a.tmps){t:TypeId}{x:Operand}{lo hi:Option Operand}{s:Src}{ls hs:Option Src}(ht:P.underlying t=some .string)(hx:bu P x=some s)
  (fl:nR P lo=some ls) (fQ:nR P hi=some hs) (h:tF s ls hs call r st=some (v,av)):
  bf P μ w st (do pure (.value (<-Instr.sliceAt t (a.eval x) (lo.map a.eval) (hi.map a.eval) none))) v av:=by
 unfold tF at h
 split at h
 ·rename_i l vl vh h1 h2 h3
  have e1:=cJ hh hr hx h1
  simp only[VR]at e1
  have e2:=oY hh hr fl h2
  have e3:=oY hh hr fQ h3
  split at h
  ·rename_i hb mJ
   split at h
   ·rename_i lb kM
    simp only[ai,bo]at h
    obtain⟨rfl,rfl⟩:=h
    have iz:(⟨l.toArray⟩:ByteArray).size=l.length:=by show l.toArray.size=_;simp
    have bI:=Cb (P:=P) (w:=w) (isS:=false) (len:=l.length) (y:=l.length) (k:=l.length) (mx:=none) (MX:=none) (m:=l.length) e2 e3 trivial (aV _) (.inl ⟨rfl,rfl⟩) (by simpa using mJ) kM
    refine bf.value hh (x:=.string ((⟨l.toArray⟩:ByteArray).extract lb hb)) ?_ ?_
    ·simp[Instr.sliceAt,Instr.slice,run_underlying ht,e1,iz,bI,Result.andThen]
    ·simp only[VR]
     congr 1
     apply ByteArray.ext
     rw[ByteArray.data_extract]
     apply uM
     simp[List.extract,List.drop_take]
   ·cases h
  ·cases h
 ·cases h
theorem Et{t e:TypeId}{z:Nat}(ht:P.underlying t=some (.slice e))(hz:d_ P e=some z){A:Option Addr}{len c l h m:Nat}{LO HI MX:Option Value}
  (hb:(Instr.sliceBounds true len c LO HI MX).run P w=.ok (l,h,m) w):
  (Instr.sliceAt t (.slice A len c) LO HI MX).run P w=.ok (.slice (if m=l then A else A.map (·.add (l*z))) (h-l) (m-l)) w:=by
 simp[Instr.sliceAt,Instr.slice,run_underlying ht,hb,sX hz,Result.andThen]
theorem Zxm(hh:bm P μ w st)(hr:RR μ r n a.tmps){t e:TypeId}{z:Nat}{x:Operand}{lo hi mx:Option Operand}{s:Src}{ls hs ms:Option Src}(ht:P.underlying t=some (.slice e))(hz:d_ P e=some z)
  (hx:bu P x=some s) (fl:nR P lo=some ls) (fQ:nR P hi=some hs) (dh:nR P mx=some ms) (h:mA z s ls hs ms call r st=some (v,av)):
  bf P μ w st (do pure (.value (<-Instr.sliceAt t (a.eval x) (lo.map a.eval) (hi.map a.eval) (mx.map a.eval)))) v av:=by
 unfold mA at h
 split at h
 ·-- nil
  rename_i vl vh vm h1 h2 h3 h4
  have e1:=cJ hh hr hx h1
  simp only[VR]at e1
  have e2:=oY hh hr fl h2
  have e3:=oY hh hr fQ h3
  have e4:=oY hh hr dh h4
  split at h
  ·rename_i m hm
   split at h
   ·rename_i hb mJ
    split at h
    ·rename_i lb kM
     split at h
     ·cases h
     ·rename_i jW
      simp only[ai,bo]at h
      obtain⟨rfl,rfl⟩:=h
      have fA:m=0:=by rcases qK hm with h|h<;>omega
      have iR:hb=0:=by rcases qK mJ with h|h<;>omega
      have ff:lb=0:=by rcases qK kM with h|h<;>omega
      subst fA iR ff
      have bI:=Cb (P:=P) (w:=w) (isS:=true) (len:=0) (y:=0) (k:=0) e2 e3 e4 (aV _) (m:=0) (h:=0) (l:=0)
       (by cases vm with
        |none=>exact .inl ⟨rfl,rfl⟩
        |some u=>cases vh with
         |none=>simp at jW
         |some u'=>exact .inr ⟨hm,rfl,rfl⟩)
       (by cases vm<;>simpa using mJ) kM
      refine bf.value hh (x:=.slice none 0 0) ?_ (by simp[VR])
      rw[e1,Et ht hz bI]
      simp
    ·cases h
   ·cases h
  ·cases h
 ·-- not nil,empty
  rename_i vl vh h1 h2 h3 h4
  have e1:=cJ hh hr hx h1
  obtain⟨A,c,e1⟩:=e1
  have e2:=oY hh hr fl h2
  have e3:=oY hh hr fQ h3
  have e4:=oY hh hr dh h4
  split at h
  ·rename_i hb mJ
   split at h
   ·rename_i lb kM
    simp only[ai,bo]at h
    obtain⟨rfl,rfl⟩:=h
    have iR:hb=0:=by rcases qK mJ with h|h<;>omega
    have ff:lb=0:=by rcases qK kM with h|h<;>omega
    subst iR ff
    have bI:=Cb (P:=P) (w:=w) (isS:=true) (len:=0) (y:=0) (k:=c) e2 e3 e4 (pC _) (m:=c) (h:=0) (l:=0) (.inl ⟨rfl,rfl⟩) (by simpa using mJ) kM
    refine bf.value hh (x:=.slice (some (if c=0 then A else A.add (0*z))) 0 (c-0)) ?_ ⟨_,_,rfl⟩
    rw[e1,Et ht hz bI]
    split<;>simp
   ·cases h
  ·cases h
 ·-- fg capacity is known
  rename_i i o len c sz vl vh vm h1 h2 h3 h4
  obtain⟨l,c',hl,e1,hlen,vD,hc,_⟩:=cJ hh hr hx h1
  have:=hc c rfl;subst this
  have e2:=oY hh hr fl h2
  have e3:=oY hh hr fQ h3
  have e4:=oY hh hr dh h4
  split at h
  ·cases h
  ·rename_i jW
   simp only[not_or,Decidable.not_not,Bool.not_eq_true]at jW
   obtain⟨rfl,jW⟩:=jW
   split at h
   ·rename_i m hm
    split at h
    ·rename_i hb mJ
     split at h
     ·rename_i lb kM
      simp only[ai,bo]at h
      obtain⟨rfl,rfl⟩:=h
      have hmc:m<=c':=by rcases qK hm with h|h<;>omega
      have bI:=Cb (P:=P) (w:=w) (isS:=true) (len:=len) (y:=c') (k:=c') e2 e3 e4 (aV _) (m:=m) (h:=hb) (l:=lb)
       (by cases vm with
        |none=>simp only[cX,ai]at hm;exact .inl ⟨rfl,hm.symm⟩
        |some u=>cases vh with
         |none=>simp at jW
         |some u'=>exact .inr ⟨hm,rfl,rfl⟩)
       (by cases vm with
        |none=>simp only[cX,ai]at hm;subst hm;simpa using mJ
        |some u=>simpa using mJ) kM
      have Py:hb<=m:=by
       rcases qK mJ with h|⟨h,h'⟩
       ·exact h
       ·subst h
        cases vm with
        |none=>simp only[cX,ai]at hm;omega
        |some u=>simp at jW
      have GF:lb<=hb:=by rcases qK kM with h|h<;>omega
      have k1:m*sz<=c'*sz:=kl _ hmc
      have k2:(m-lb)*sz=m*sz-lb*sz:=Nat.sub_mul _ _ _
      have k3:lb*sz<=m*sz:=kl _ (by omega)
      refine bf.value hh (x:=.slice (some ⟨l.b,l.d+(if m=lb then o else o+lb*sz),none⟩) (hb-lb) (m-lb)) ?_ ⟨l,m-lb,hl,rfl,by omega,?_,fun k hk=>by simpa using hk,by simp⟩
      ·rw[e1,Et ht hz bI]
       split<;>simp[rL,nj]
      ·split
       ·rename_i e;subst e;simp;omega
       ·omega
     ·cases h
    ·cases h
   ·cases h
 ·-- fg capacity is not known
  rename_i i o len sz vl vh vm h1 h2 h3 h4
  obtain⟨l,cw,hl,e1,hlen,vD,_,Vl⟩:=cJ hh hr hx h1
  have Vl:=Vl rfl
  have e2:=oY hh hr fl h2
  have e3:=oY hh hr fQ h3
  have e4:=oY hh hr dh h4
  split at h
  ·cases h
  ·rename_i jW
   simp only[not_or,Decidable.not_not,Bool.not_eq_true]at jW
   obtain⟨rfl,nY,jW⟩:=jW
   split at h
   ·rename_i cs _ _ aj
    obtain⟨c'',_,_,_,_,cr,_⟩:=hh.row hl aj
    have mK:max len ((cs.length-o)/sz)<=cw:=by
     have:(cs.length-o)/sz<=cw:=by
      rw[Nat.div_le_iff_le_mul_add_pred (by omega)]
      have:sz*cw=cw*sz:=gX _ _
      omega
     omega
    have nZ:len<=max len ((cs.length-o)/sz):=by omega
    generalize max len ((cs.length-o)/sz)=y at*
    dsimp only at h
    split at h
    ·rename_i um
     split at h
     ·rename_i m hm
      split at h
      ·rename_i hb mJ
       split at h
       ·rename_i lb kM
        simp only[ai,bo]at h
        obtain⟨rfl,rfl⟩:=h
        cases vh with
        |none=>simp at jW
        |some uh=>
        have Pz:m<=y:=by
         rcases qK (u:=some um) (d:=0) hm with h|h
         ·exact h
         ·simp at h
        have bI:=Cb (P:=P) (w:=w) (isS:=true) (len:=len) (y:=y) (k:=cw) e2 e3 e4 mK (m:=m) (h:=hb) (l:=lb) (.inr ⟨hm,rfl,rfl⟩) (by simpa using mJ) kM
        have Py:hb<=m:=by
         rcases qK mJ with h|⟨h,h'⟩
         ·exact h
         ·simp at h
        have GF:lb<=hb:=by rcases qK kM with h|h<;>omega
        have k1:m*sz<=cw*sz:=kl _ (by omega)
        have k2:(m-lb)*sz=m*sz-lb*sz:=Nat.sub_mul _ _ _
        have k3:lb*sz<=m*sz:=kl _ (by omega)
        refine bf.value hh (x:=.slice (some ⟨l.b,l.d+(if m=lb then o else o+lb*sz),none⟩) (hb-lb) (m-lb)) ?_ ⟨l,m-lb,hl,rfl,by omega,?_,fun k hk=>by simpa using hk,by simp⟩
        ·rw[e1,Et ht hz bI]
         split<;>simp[rL,nj]
        ·split
         ·rename_i e;subst e;simp;omega
         ·omega
       ·cases h
      ·cases h
     ·cases h
    ·split at h
     ·rename_i hb mJ
      split at h
      ·rename_i lb kM
       have bI:=Cb (P:=P) (w:=w) (isS:=true) (len:=len) (y:=y) (k:=cw) e2 e3 e4 mK (m:=cw) (h:=hb) (l:=lb) (.inl ⟨rfl,rfl⟩) (by simpa using mJ) kM
       have Py:hb<=y:=by rcases qK mJ with h|⟨h,h'⟩<;>omega
       have GF:lb<=hb:=by rcases qK kM with h|h<;>omega
       have k2:(cw-lb)*sz=cw*sz-lb*sz:=Nat.sub_mul _ _ _
       have k3:lb*sz<=cw*sz:=kl _ (by omega)
       split at h
       ·rename_i aB
        simp only[ai,bo]at h
        obtain⟨rfl,rfl⟩:=h
        refine bf.value hh (x:=.slice (some ⟨l.b,l.d+(o+lb*sz),none⟩) (hb-lb) (cw-lb)) ?_ ⟨l,cw-lb,hl,rfl,by omega,by omega,by simp,fun _=>by omega⟩
        rw[e1,Et ht hz bI]
        rw[ar (by omega)]
        simp[rL,nj]
       ·simp only[ai,bo]at h
        obtain⟨rfl,rfl⟩:=h
        have:hb-lb=0:=by omega
        refine bf.value hh (x:=.slice (some (if cw=lb then ⟨l.b,l.d+o,none⟩ else (⟨l.b,l.d+o,none⟩:Addr).add (lb*sz))) 0 (cw-lb)) ?_ ⟨_,_,rfl⟩
        rw[e1,Et ht hz bI,this]
        split<;>simp
      ·cases h
     ·cases h
   ·cases h
 ·cases h
theorem Zth(hh:bm P μ w st)(hr:RR μ r n a.tmps){t e:TypeId}{k z:Nat}{x:Operand}{lo hi mx:Option Operand}{s:Src}{ls hs ms:Option Src}(ht:P.underlying t=some (.array k e))(hz:d_ P e=some z)
  (hx:bu P x=some s) (fl:nR P lo=some ls) (fQ:nR P hi=some hs) (dh:nR P mx=some ms) (h:uQ k z s ls hs ms call r st=some (v,av)):
  bf P μ w st (do pure (.value (<-Instr.sliceAt t (a.eval x) (lo.map a.eval) (hi.map a.eval) (mx.map a.eval)))) v av:=by
 unfold uQ at h
 split at h
 ·rename_i i o vl vh h1 h2 h3 h4
  obtain⟨l,hl,e1⟩:=cJ hh hr hx h1
  have e2:=oY hh hr fl h2
  have e3:=oY hh hr fQ h3
  have e4:=oY hh hr dh h4
  split at h
  ·rename_i hb mJ
   split at h
   ·rename_i lb kM
    split at h
    ·rename_i cs _ _ aj
     split at h
     ·rename_i cG
      simp only[ai,bo]at h
      obtain⟨rfl,rfl⟩:=h
      obtain⟨c'',_,_,_,_,cr,_⟩:=hh.row hl aj
      have bI:=Cb (P:=P) (w:=w) (isS:=false) (len:=k) (y:=k) (k:=k) e2 e3 e4 (aV _) (m:=k) (h:=hb) (l:=lb) (.inl ⟨rfl,rfl⟩) (by simpa using mJ) kM
      have Py:hb<=k:=by rcases qK mJ with h|⟨h,h'⟩<;>omega
      have GF:lb<=hb:=by rcases qK kM with h|h<;>omega
      have k2:(k-lb)*z=k*z-lb*z:=Nat.sub_mul _ _ _
      have k3:lb*z<=k*z:=kl _ (by omega)
      have GC:=cG.1
      refine bf.value hh (x:=.slice (some ⟨l.b,l.d+(if k=lb then o else o+lb*z),none⟩) (hb-lb) (k-lb)) ?_ ⟨l,k-lb,hl,rfl,by omega,?_,fun k hk=>by simpa using hk,by simp⟩
      ·simp only[Instr.sliceAt,Sem.run_bind,run_underlying ht,Result.andThen,Instr.sureAddr,e1,Sem.run_pure,bI,sX hz]
       split<;>simp[rL,nj]
      ·split
       ·rename_i e;subst e;simp;omega
       ·omega
     ·cases h
    ·cases h
   ·cases h
  ·cases h
 ·cases h
end
section
variable {P:Program} {μ:Mu} {w:World} {st av:St} {r:T V} {n:Nat} {a:Act} {call:cA} {v:V}
theorem Km{α:Type}{c vs:List α}{o:Nat}(h:o+vs.length<=c.length):(ag c o vs).length=c.length:=by
 simp[ag];omega
theorem Es{α:Type}{c vs:List α}{o:Nat}(h:o+vs.length<=c.length)(j:Nat):(ag c o vs)[j]?=if o<=j/\j<o+vs.length then vs[j-o]? else c[j]?:=by
 have aB:(c.take o).length=o:=by simp;omega
 unfold ag
 rw[nT]
 by_cases h1:j<o
 ·rw[jO (by omega),ar (by omega),gU,aF h1]
 ·rw[od (by omega),aB]
  by_cases h2:j<o+vs.length
  ·rw[jO (by omega),aF ⟨by omega,h2⟩]
  ·rw[od (by omega),ar (by omega),fe]
   congr 1;omega
theorem aW.ag{c vs:List V}{c' iZ:List Value}(h:aW μ c c')(h':aW μ vs iZ)(o:Nat):aW μ (ag c o vs) (ag c' o iZ):=by
 unfold Mx.ag
 rw[h'.length]
 exact((h.take o).append h').append (h.drop _)
theorem Vm{α:Type}(c:List α)(o:Nat)(x:α)(vs:List α)(h:o<c.length):Mx.ag (c.set o x) (o+1) vs=Mx.ag c o (x::vs):=by
 unfold Mx.ag
 have e1:(c.set o x).take (o+1)=c.take o++[x]:=by
  rw[wA,List.take_set_of_le (aV _)]
  simp[h]
 have e2:(c.set o x).drop (o+1+vs.length)=c.drop (o+(vs.length+1)):=by
  rw[List.drop_set_of_lt (by omega)]
  congr 1;omega
 rw[e1,e2]
 simp
theorem Yhc(off:Nat):∀(vs:List Value) (k:Nat) (cs:List Value),off+k+vs.length<=cs.length->
  (vs.zipIdx k).foldl (fun (cs:Array Value) (p:Value×Nat)=>cs.setIfInBounds (off+p.2) p.1) ⟨cs⟩=⟨ag cs (off+k) vs⟩:=by
 intro vs
 induction vs with
 |nil=>intro k cs h;simp[ag]
 |cons x vs ih=>
  intro k cs h
  simp only[bq]at h
  simp only[List.zipIdx_cons,List.foldl_cons]
  have e:(⟨cs⟩:Array Value).setIfInBounds (off+k) x=⟨cs.set (off+k) x⟩:=by
   apply uM
   simp
  rw[e,ih (k+1) (cs.set (off+k) x) (by simp;omega),<-nj,Vm _ _ _ _ (by omega)]
theorem PA(hh:bm P μ w st)(hr:RR μ r n a.tmps){place:Nat->Option (Nat×Nat)}:∀{parts:List (Nat×Operand)} {pO:List (Nat×Nat×Src)},wJ P place parts=some pO->
  ∀{ps:List (Nat×Nat×V)},wS r pO=some ps->∀{cs:List V} {Ap:List Value},aW μ cs Ap->∀{l:List V},wR cs ps=some l->
  ∃l',Instr.fill place ⟨Ap⟩ (parts.map fun p=>(p.1,a.eval p.2))=some ⟨l'⟩/\aW μ l l':=by
 intro parts
 induction parts with
 |nil=>
  intro pO hc ps he cs Ap i_ l hl
  simp only[wJ,ai]at hc;subst hc
  simp only[wS,ai]at he;subst he
  simp only[wR,ai]at hl;subst hl
  exact⟨Ap,by simp[Instr.fill],i_⟩
 |cons p parts ih=>
  intro pO hc ps he cs Ap i_ l hl
  obtain⟨i,x⟩:=p
  simp only[wJ]at hc
  split at hc
  ·rename_i o s sx l' hp hx fX
   simp only[ai]at hc;subst hc
   simp only[wS]at he
   split at he
   ·rename_i u vs hu B2
    simp only[ai]at he;subst he
    simp only[wR]at hl
    split at hl
    ·rename_i cG
     have Kn:=cJ hh hr hx hu
     have fZ:=Kn.cells
     have hlen:(a.eval x).cells.size=s:=by
      have:=fZ.length
      rw[<-cG.1,<-this];simp
     have oZ:(a.eval x).cells.toList.length=s:=by simpa using hlen
     obtain⟨l'',h1,h2⟩:=ih fX B2 (i_.ag fZ o) hl
     refine⟨l'',?_,h2⟩
     simp only[jU,Instr.fill,hp]
     rw[ar]
     ·have e:((a.eval x).cells.zipIdx.foldl (fun (cs:Array Value) (p:Value×Nat)=>cs.setIfInBounds (o+p.2) p.1) ⟨Ap⟩)=⟨ag Ap o (a.eval x).cells.toList⟩:=by
       rw[<-Array.foldl_toList,Array.toList_zipIdx]
       have:=Yhc o (a.eval x).cells.toList 0 Ap (by rw[oZ,i_.length];omega)
       simpa using this
      rw[<-h1]
      congr 1
     ·have cr:=i_.length
      simp only[hlen,ne_eq,not_true_eq_false,decide_false,Bool.false_or,decide_eq_true_eq]
      simp[cr];omega
    ·cases hl
   ·cases he
  ·cases hc
theorem Zxw:∀{fs:List Field} {pl:List (Nat×Nat)},DI P fs=some pl->fs.mapM (fun f=>(P.info? f.type).map fun i=>(f.offset,i.size))=some pl:=by
 intro fs
 induction fs with
 |nil=>intro pl h;simp only[DI,ai]at h;subst h;simp
 |cons f fs ih=>
  intro pl h
  simp only[DI]at h
  split at h
  ·rename_i s l hs hl
   simp only[ai]at h;subst h
   unfold d_ at hs
   simp only[iA]at hs
   obtain⟨i,hi,rfl⟩:=hs
   simp[List.mapM_cons,hi,ih hl]
  ·cases h
theorem B8{t:TypeId}{z:V}(h:lD P t=some z):∃i x,P.info? t=some i/\i.zero=some x/\∀μ,VR μ z x:=by
 unfold lD at h
 split at h
 ·rename_i i hi
  split at h
  ·rename_i x hx
   exact⟨i,x,hi,hx,fun μ=>Kd μ x z h⟩
  ·cases h
 ·cases h
theorem Zn7(hh:bm P μ w st)(hr:RR μ r n a.tmps){t:TypeId}{fs:Array Field}{pl:List (Nat×Nat)}{z:V}{parts:Array (Nat×Operand)}{pO:List (Nat×Nat×Src)}
  (hz:lD P t=some z) (ht:P.underlying t=some (.struct fs)) (hp:DI P fs.toList=some pl) (hc:wJ P (pl[·]?) parts.toList=some pO) (h:yd z.cells pO call r st=some (v,av)):
  bf P μ w st (do pure (.value (<-Instr.build t (parts.map fun (i,x)=>(i,a.eval x))))) v av:=by
 unfold yd at h
 split at h
 ·rename_i ps ml
  split at h
  ·rename_i l hl
   simp only[ai,bo]at h
   obtain⟨rfl,rfl⟩:=h
   obtain⟨i,x,hi,hx,mI⟩:=B8 hz
   obtain⟨l',h1,h2⟩:=PA hh hr hc ml (mI μ).cells hl
   refine bf.value hh (x:=.agg ⟨l'⟩) (run_build w t _ _ ?_) ⟨l',rfl,h2⟩
   simp only[Program.built,hi,ht,hx,Zxw hp]
   rw[<-h1]
   simp
  ·cases h
 ·cases h
theorem Zok(hh:bm P μ w st)(hr:RR μ r n a.tmps){t e:TypeId}{k s:Nat}{z:V}{parts:Array (Nat×Operand)}{pO:List (Nat×Nat×Src)}
  (hz:lD P t=some z) (ht:P.underlying t=some (.array k e)) (hs:d_ P e=some s) (hc:wJ P (fun i=>some (i*s,s)) parts.toList=some pO) (h:yd z.cells pO call r st=some (v,av)):
  bf P μ w st (do pure (.value (<-Instr.build t (parts.map fun (i,x)=>(i,a.eval x))))) v av:=by
 unfold yd at h
 split at h
 ·rename_i ps ml
  split at h
  ·rename_i l hl
   simp only[ai,bo]at h
   obtain⟨rfl,rfl⟩:=h
   obtain⟨i,x,hi,hx,mI⟩:=B8 hz
   unfold d_ at hs
   simp only[iA]at hs
   obtain⟨ie,hie,rfl⟩:=hs
   obtain⟨l',h1,h2⟩:=PA hh hr hc ml (mI μ).cells hl
   refine bf.value hh (x:=.agg ⟨l'⟩) (run_build w t _ _ ?_) ⟨l',rfl,h2⟩
   simp only[Program.built,hi,ht,hx,hie]
   rw[<-h1]
   simp
  ·cases h
 ·cases h
theorem GI{vs:List V}{xs:List Value}(h:aW μ vs xs)(hv:vs.all V.one=true):∀x∈xs,x.oneCell'=true:=by
 intro x hx
 obtain⟨j,hj⟩:=xP hx
 have hl:=h.length
 have Cc:j<xs.length:=(tn.1 hj).1
 have:∃u,vs[j]?=some u:=⟨vs[j]'(by omega),by simp⟩
 obtain⟨u,hu⟩:=this
 obtain⟨y,h1,h2⟩:=h.get hu
 rw[hj]at h1;cases h1
 have uY:u.one=true:=by
  rw[lM]at hv
  exact hv u (cm hu)
 have:=h2.one uY
 cases x<;>simp_all [Value.oneCell']
theorem bf.newRow(hh:bm P μ w st){s:Sem Value}{x:Value}{cs:List V}{xs:List Value}{e:TypeId}(hs:s.run P w=.ok x (w.alloc (.cells ⟨xs⟩ e)))
  (hc:aW μ cs xs) (h1:∀x∈xs,x.oneCell'=true) (hv:VR (fun i=>if i=st.n then some ⟨w.heap.size,0,xs.length⟩ else μ i) v x):
  bf P μ w st (do pure (.value (<-s))) v (st.alloc (.cells cs e true)):=by
 have dc:∀i l,μ i=some l->(fun i=>if i=st.n then some (⟨w.heap.size,0,xs.length⟩:L) else μ i) i=some l:=fun i l hl=>by
  have:=(hh.cK i l hl).1
  simp only
  rw[ar (by omega)];exact hl
 refine⟨Next.value x,x,_,_,[],by simp[hs,Result.andThen],.inl rfl,hv,bB.alloc hh (.cells cs e true) (.cells ⟨xs⟩ e) 0 xs.length ⟨⟨xs⟩,0,0,?_,by simp,by simp[hc.length],fun j u hu=>?_,fun j y _ hy=>?_,fun _=>⟨rfl,fun j hj=>by omega⟩⟩⟩
 ·simp
 ·obtain⟨y,hy,hr⟩:=hc.get hu
  exact⟨y,by simpa using hy,VR.mono dc u y hr⟩
 ·exact h1 y (cm (by simpa using hy))
theorem Yia(hh:bm P μ w st){e:TypeId}{z:V}(hz:lD P e=some z)(eX:z.cells.all V.one=true)(h:DU z.cells e call r st=some (v,av)):
  bf P μ w st (do pure (.value (<-Instr.alloc e true (.tuple #[])))) v av:=by
 unfold DU at h
 simp only[ai,bo]at h
 obtain⟨rfl,rfl⟩:=h
 obtain⟨i,x,hi,hx,mI⟩:=B8 hz
 refine bf.newRow hh (v:=.ptr st.n 0) (xs:=x.cells.toList) (x:=.pointer (some ⟨w.heap.size,0,none⟩)) ?_ (mI μ).cells (GI (mI μ).cells eX) (by simp only[VR];exact⟨⟨w.heap.size,0,x.cells.toList.length⟩,by simp,by simp⟩)
 simp[Instr.alloc,zeroValue,typeInfo,hi,hx,newVar,Go.newRow,Result.andThen]
theorem Ypc(hh:bm P μ w st)(hr:RR μ r n a.tmps){e:TypeId}{x:Operand}{s:Src}(hx:bu P x=some s)(h:Bw e s call r st=some (v,av)):
  bf P μ w st (do pure (.value (<-Instr.box e (a.eval x)))) v av:=by
 unfold Bw at h
 split at h
 ·rename_i u hu
  split at h
  ·rename_i eX
   simp only[ai,bo]at h
   obtain⟨rfl,rfl⟩:=h
   have Kn:=cJ hh hr hx hu
   refine bf.newRow hh (v:=.ptr st.n 0) (xs:=(a.eval x).cells.toList) (x:=.pointer (some ⟨w.heap.size,0,none⟩)) ?_ Kn.cells (GI Kn.cells eX) (by simp only[VR];exact⟨⟨w.heap.size,0,_⟩,by simp;rfl,by simp⟩)
   simp[Instr.box,newVar,Go.newRow,Result.andThen]
  ·cases h
 ·cases h
end
section
variable {P:Program} {μ:Mu} {w:World} {st av:St} {r:T V} {n:Nat} {a:Act} {call:cA} {v:V}
theorem Va(zs:List V)(k:Nat):(cj zs k).length=k*zs.length:=by simp[cj]
theorem Kk{zs:List V}{xs:List Value}(h:aW μ zs xs)(k:Nat):aW μ (cj zs k) (madeCells ⟨xs⟩ (k*zs.length)).toList:=by
 have hl:=h.length
 refine aW.kj (by simp[cj,madeCells]) fun j u hu=>?_
 have hj:j<k*zs.length:=by
  have:=(tn.1 hu).1
  simpa[cj]using this
 have hz:0<zs.length:=by
  rcases Bn zs.length with e|e
  ·rw[e]at hj;simp at hj
  ·exact e
 have yG:j%zs.length<zs.length:=jd _ hz
 simp only[cj,iX,FK hj,wE,ai]at hu
 obtain⟨y,h1,h2⟩:=h.get (i:=j%zs.length) (v:=zs[j%zs.length]) (by simp[yG])
 refine⟨y,?_,?_⟩
 ·simp only[madeCells,Array.toList_map,Array.toList_range,iX,FK hj,wE,ai]
  have fB:(⟨xs⟩:Array Value)[j%xs.length]?=some y:=by rw[hl];simpa using h1
  simp only[Array.size,getElem!_def,fB]
 ·rw[<-hu]
  simpa[List.getD,yG]using h2
theorem Pr{zs:List V}(h:zs.all V.one=true)(k:Nat):∀{xs:List Value},aW μ (cj zs k) xs->∀x∈xs,x.oneCell'=true:=by
 intro xs hx
 refine GI hx ?_
 rw[lM]
 intro u hu
 simp only[cj,jk,wm]at hu
 obtain⟨j,hj,rfl⟩:=hu
 have hz:0<zs.length:=by
  rcases Bn zs.length with e|e
  ·rw[e]at hj;simp at hj
  ·exact e
 have yG:j%zs.length<zs.length:=jd _ hz
 rw[lM]at h
 simpa[List.getD,yG]using h zs[j%zs.length] (by simp)
theorem Yee(hh:bm P μ w st)(hr:RR μ r n a.tmps){t e:TypeId}{s len:Nat}{z:V}{parts:Array (Nat×Operand)}{pO:List (Nat×Nat×Src)}
  (ht:P.underlying t=some (.slice e)) (hs:d_ P e=some s) (hz:lD P e=some z) (hle:¬len*s > 2^24) (Gz:z.cells.length=s)
  (hc:wJ P (fun i=>some (i*s,s)) parts.toList=some pO) (h:Bx e s len (cj z.cells len) pO call r st=some (v,av)):
  bf P μ w st (do pure (.value (<-Instr.buildSlice t len (parts.map fun (i,x)=>(i,a.eval x))))) v av:=by
 unfold Bx at h
 split at h
 ·rename_i ps ml
  split at h
  ·rename_i l hl
   split at h
   ·rename_i eX
    simp only[ai,bo]at h
    obtain⟨rfl,rfl⟩:=h
    obtain⟨i,x,hi,hx,mI⟩:=B8 hz
    have sY:=(mI μ).cells
    have kL:=Kk sY len
    rw[Gz]at kL
    obtain⟨l',h1,h2⟩:=PA hh hr hc ml kL hl
    have xQ:=h2.length
    refine bf.newRow hh (v:=.slice st.n 0 len (some len) s) (xs:=l') (x:=.slice (some ⟨w.heap.size,0,none⟩) len len) ?_ h2 (GI h2 eX) ?_
    ·have fB:Instr.fill (fun i=>some (i*s,s)) (madeCells x.cells (len*s)) (parts.map fun p=>(p.1,a.eval p.2)).toList=some ⟨l'⟩:=by
      rw[<-h1]
      simp
     simp only[Instr.buildSlice,Sem.run_bind,run_underlying ht,Result.andThen,sX hs,ar hle]
     split
     ·rename_i e0
      have fZ:((Array.range (len*s)).map ((#[]:Array Value)[·%(#[]:Array Value).size]!))=madeCells x.cells (len*s):=by
       simp[madeCells,e0]
      simp only[Sem.run_bind,Sem.run_pure,Result.andThen,fZ]
      rw[fB]
      simp[Go.newRow,Result.andThen]
     ·have fZ:((Array.range (len*s)).map (x.cells[·%x.cells.size]!))=madeCells x.cells (len*s):=rfl
      simp only[zeroValue,typeInfo,Sem.run_bind,Sem.run_pure,Result.andThen,hi,hx,run_program]
      simp only[fZ]
      rw[fB]
      simp[Go.newRow,Result.andThen]
    ·have GJ:l.length=len*s:=by
      have:∀(ps:List (Nat×Nat×V)) (cs l:List V),wR cs ps=some l->l.length=cs.length:=by
       intro ps
       induction ps with
       |nil=>intro cs l h;simp only[wR,ai]at h;rw[h]
       |cons p ps ih=>
        intro cs l h
        obtain⟨o,s,u⟩:=p
        simp only[wR]at h
        split at h
        ·rename_i hc
         rw[ih _ _ h,Km (by omega)]
        ·cases h
      rw[this ps _ l hl,Va,Gz]
     simp only[VR]
     exact⟨⟨w.heap.size,0,l'.length⟩,len,by simp,by simp,aV _,by simp[xQ,GJ],by simp,by simp⟩
   ·cases h
  ·cases h
 ·cases h
theorem Zyh(hh:bm P μ w st)(hr:RR μ r n a.tmps){t e:TypeId}{s b:Nat}{z:V}{x y:Operand}{sx sy:Src}(ht:P.underlying t=some (.slice e))(hs:d_ P e=some s)(hb:Zip P e=some b)(hz:lD P e=some z)
  (eX:z.cells.all V.one=true) (hx:bu P x=some sx) (hy:bu P y=some sy) (h:ye e s b z.cells sx sy call r st=some (v,av)):
  bf P μ w st (do pure (.value (<-Instr.makeSlice t (a.eval x) (a.eval y)))) v av:=by
 unfold ye at h
 split at h
 ·rename_i k l k' c h1 h2
  have e1:=cJ hh hr hx h1
  have e2:=cJ hh hr hy h2
  simp only[VR]at e1 e2
  split at h
  ·rename_i hc
   obtain⟨ff,xj,hbc,zag,iz,rK⟩:=hc
   simp only[ai,bo]at h
   obtain⟨rfl,rfl⟩:=h
   obtain⟨i,zx,hi,mI,En⟩:=B8 hz
   unfold d_ at hs
   unfold Zip at hb
   simp only[hi,wE,ai]at hs hb
   have sY:=(En μ).cells
   have kL:=Kk sY c.toNat
   rw[<-iz]at kL
   have bI:=run_make (P:=P) w t e i zx ht hi mI k k' l c ff xj (by rw[hb];omega) (by omega)
   rw[hs]at bI
   refine bf.newRow hh (v:=.slice st.n 0 l.toNat (some c.toNat) s) (xs:=(madeCells zx.cells (c.toNat*s)).toList) (x:=.slice (some ⟨w.heap.size,0,none⟩) l.toNat c.toNat) ?_ kL (Pr eX c.toNat kL) ?_
   ·rw[e1,e2,bI]
   ·simp only[VR]
    exact⟨⟨w.heap.size,0,_⟩,c.toNat,by simp;rfl,by simp,by omega,by simp[madeCells],by simp,by simp⟩
  ·cases h
 ·cases h
theorem bf.newObj(hh:bm P μ w st){s:Sem Value}{x:Value}{o:O}{ob:Obj}(hs:s.run P w=.ok x (w.alloc ob))
  (ho:OM P (fun i=>if i=st.n then some ⟨w.heap.size,0,0⟩ else μ i) (w.alloc ob) o ⟨w.heap.size,0,0⟩) (hv:VR (fun i=>if i=st.n then some ⟨w.heap.size,0,0⟩ else μ i) v x):
  bf P μ w st (do pure (.value (<-s))) v (st.alloc o):=
 ⟨Next.value x,x,_,_,[],by simp[hs,Result.andThen],.inl rfl,hv,bB.alloc hh o ob 0 0 ho⟩
theorem PB(w:World)(o:Obj):(w.alloc o).heap[w.heap.size]?=some o:=by
 show (w.heap.push o)[w.heap.size]?=some o
 simp
theorem Ygq(hh:bm P μ w st){t:TypeId}(h:DX call r st=some (v,av)):bf P μ w st (do pure (.value (<-Instr.makeMap t none))) v av:=by
 unfold DX at h
 simp only[ai,bo]at h
 obtain⟨rfl,rfl⟩:=h
 refine bf.newObj hh (v:=.map st.n) (x:=.map (some w.heap.size)) (ob:=.map #[] 0) ?_ ⟨[],by simpa using PB w _,rfl⟩ ?_
 ·simp[Instr.makeMap,Result.andThen]
 ·simp only[VR];exact⟨⟨w.heap.size,0,0⟩,by simp,rfl⟩
theorem Ycb(hh:bm P μ w st)(hr:RR μ r n a.tmps){t e:TypeId}{d:ChanDir}{b:Nat}{x:Operand}{s:Src}(ht:P.underlying t=some (.chan d e))(hb:Zip P e=some b)(hx:bu P x=some s)
  (h:zP b s call r st=some (v,av)):bf P μ w st (do pure (.value (<-Instr.makeChan t (a.eval x)))) v av:=by
 unfold zP at h
 split at h
 ·rename_i q k hk
  have e1:=cJ hh hr hx hk
  simp only[VR]at e1
  split at h
  ·cases h
  ·rename_i hc
   simp only[ai,bo]at h
   obtain⟨rfl,rfl⟩:=h
   unfold Zip at hb
   simp only[iA]at hb
   obtain⟨i,hi,rfl⟩:=hb
   refine bf.newObj hh (v:=.chan st.n) (x:=.chan (some w.heap.size)) (ob:=.chan k.toNat #[] false 0 0 false) ?_ ⟨[],0,0,by simpa using PB w _,by simp[aW]⟩ ?_
   ·simp only[Instr.makeChan,e1,asInt,asIntOf,run_underlying ht,typeInfo,hi,ar hc,Result.andThen,Sem.run_bind,Sem.run_pure,run_program,run_newObj]
    rfl
   ·simp only[VR];exact⟨⟨w.heap.size,0,0⟩,by simp,rfl⟩
 ·cases h
theorem Zts(hh:bm P μ w st)(hr:RR μ r n a.tmps){t:TypeId}{x:Operand}{s:Src}(ht:P.underlying t=some .string)(hx:bu P x=some s)
  (h:BI s call r st=some (v,av)):bf P μ w st (do pure (.value (<-Instr.range t (a.eval x)))) v av:=by
 unfold BI at h
 split at h
 ·rename_i q hk
  have e1:=cJ hh hr hx hk
  simp only[VR]at e1
  simp only[ai,bo]at h
  obtain⟨rfl,rfl⟩:=h
  refine bf.newObj hh (v:=.ptr st.n 0) (x:=.pointer (some ⟨w.heap.size,0,none⟩)) (ob:=.stringIter ⟨q.toArray⟩ 0) ?_ (by simp only[OM];exact⟨PB w _,trivial⟩) ?_
  ·simp[Instr.range,e1,run_underlying ht,Result.andThen]
  ·simp only[VR];exact⟨⟨w.heap.size,0,0⟩,by simp,rfl⟩
 ·cases h
theorem Pv(g o:Nat)(t:TypeId)(lo hi:Nat):∀(vs:List Value) (i:Nat) (cur:List Value) (w:World),w.heap[g]?=some (.cells ⟨cur⟩ t (lo,hi))->o+i+vs.length<=cur.length->(∀v∈vs,v.oneCell'=true)->
  (∀j,o+i<=j->j<o+i+vs.length->¬(lo<=j/\j<hi))->(storeCells ⟨g,o,none⟩ vs i).run P w=.ok () (w.setRow g ⟨ag cur (o+i) vs⟩)
 |[],i,cur,w,hg,_,_,_=>by
  have e:ag cur (o+i) []=cur:=by simp[ag]
  rw[e,setRow_self w g _ t _ hg]
  simp[storeCells]
 |v::rest,i,cur,w,hg,hl,h1,hf=>by
  simp only[bq]at hl
  have gZ:o+i<cur.length:=by omega
  have fx:w.cell? ⟨g,o+i,none⟩=some cur[o+i]:=by simp[World.cell?,hg,gZ]
  have PC:w.frozen? ⟨g,o+i,none⟩=false:=by
   have:=hf (o+i) (aV _) (by simp)
   simp only[World.frozen?,hg]
   simp;omega
  have dH:(store ((⟨g,o,none⟩:Addr).add i) v).run P w=.ok () (w.setRow g ⟨cur.set (o+i) v⟩):=by
   rw[rL,run_store P w _ v _ (h1 v (by simp)),fx]
   simp[PC,setCell_eq_setRow w g (o+i) _ t _ v hg]
  have ih:=Pv g o t lo hi rest (i+1) (cur.set (o+i) v) (w.setRow g ⟨cur.set (o+i) v⟩) (setRow_heap w g _ _ t _ hg) (by simp;omega) (fun x hx=>h1 x (by simp[hx]))
   (fun j xG ku=>hf j (by omega) (by simp only[bq];omega))
  simp only[storeCells,Sem.run_bind,dH,Result.andThen_ok,ih,setRow_setRow]
  rw[<-nj,Vm _ _ _ _ gZ]
theorem Kj(hh:bm P μ w st){i o:Nat}{l:L}(hl:μ i=some l){c:List V}{e:TypeId}(aj:st.row i=some (c,e,true)){vs:List V}{xs:List Value}(hv:aW μ vs xs)(h1:∀x∈xs,x.oneCell'=true)
  (hlen:o+vs.length<=c.length):
  ∃w',(storeCells ⟨l.b,l.d+o,none⟩ xs).run P w=.ok () w'/\bB P μ w st μ w' (st.write i (.cells (ag c o vs) e true)) [i]:=by
 obtain⟨c',lo,hi,g1,g2,g3,g4,g5,g6⟩:=hh.row hl aj
 obtain⟨cur⟩:=c'
 have yB:=hv.length
 simp only[List.size_toArray]at g2
 have bI:=Pv (P:=P) l.b (l.d+o) e lo hi xs 0 cur w g1 (by omega) h1 (fun j xG ku=>by
  have:=(g6 rfl).2 (j-l.d) (by omega)
  rw[show l.d+(j-l.d)=j by omega]at this
  exact this)
 refine⟨_,bI,?_⟩
 have hb:=setRow_heap w l.b _ (⟨ag cur (l.d+o+0) xs⟩:Array Value) e _ g1
 refine bB.write hh hl (Gs aj) rfl rfl rfl rfl (by simp) (fun b hb=>setRow_other w l.b b _ hb) ⟨_,lo,hi,hb,?_,?_,?_,?_,g6⟩
 ·simp only[List.size_toArray]
  rw[Km (by omega)];exact g2
 ·rw[Km hlen];exact g3
 ·intro j u hu
  rw[Es hlen]at hu
  have e':∀k:Nat,(⟨ag cur (l.d+o+0) xs⟩:Array Value)[k]?=(ag cur (l.d+o+0) xs)[k]?:=fun k=>by simp
  rw[e',Es (by omega)]
  split at hu
  ·rename_i hj
   rw[aF (by omega)]
   obtain⟨y,hy,hr⟩:=hv.get hu
   exact⟨y,by rw[show l.d+j-(l.d+o+0)=j-o by omega];exact hy,hr⟩
  ·rename_i hj
   rw[ar (by omega)]
   obtain⟨y,hy,hr⟩:=g4 j u hu
   exact⟨y,by simpa using hy,hr⟩
 ·intro j x aB hx
  have e':(⟨ag cur (l.d+o+0) xs⟩:Array Value)[l.d+j]?=(ag cur (l.d+o+0) xs)[l.d+j]?:=by simp
  rw[e',Es (by omega)]at hx
  split at hx
  ·exact h1 x (cm hx)
  ·exact g5 j x aB (by simpa using hx)
theorem Yfa(hh:bm P μ w st)(hr:RR μ r n a.tmps){t:TypeId}{k:Nat}{x y:Operand}{sx sy:Src}(hk:d_ P t=some k)(hx:bu P x=some sx)(hy:bu P y=some sy)
  (h:zN k sx sy call r st=some (v,av)):bf P μ w st (do Instr.storeAt t (a.eval x) (a.eval y);pure .skip) v av:=by
 unfold zN at h
 split at h
 ·rename_i i o u h1 h2
  obtain⟨l,hl,e1⟩:=cJ hh hr hx h1
  have e2:=cJ hh hr hy h2
  split at h
  ·rename_i c e aj
   split at h
   ·rename_i hc
    simp only[ai,bo]at h
    obtain⟨rfl,rfl⟩:=h
    have cr:=e2.cells
    have hlen:=cr.length
    obtain⟨w',hw,hs⟩:=Kj hh hl aj cr (GI cr hc.2.2) (o:=o) (by omega)
    refine⟨.skip,undef,w',μ,[i],?_,.inr ⟨rfl,rfl⟩,⟨[],rfl,by simp[aW]⟩,hs⟩
    have iz:(a.eval y).cells.size=k:=by
     rw[<-hc.1,<-hlen];simp
    simp[Instr.storeAt,Instr.sureAddr,e1,storeVar,sX hk,iz,hw,Result.andThen]
   ·cases h
  ·cases h
 ·cases h
end
end Go.Mx
