/-The operations of M stand for the Go mod-/
import Derived.Test.YtgccnjdneojagaaGreatDoorMxOp2
set_option linter.all false
namespace Go.Mx
open Go
set_option maxHeartbeats 1000000
section
variable {P:Program} {μ:Mu} {w:World} {st aB:St} {r:T V} {n:Nat} {a:Act} {call:cO} {v:V}
def JJ(μ:Mu):Option V->Option Value->Prop
 |none,none=>True
 |some v,some x=>VR μ v x
 |_,_=>False
def vQ(hh:bp P μ w st)(hr:RR μ r n a.tmps){x:Option Operand}{s:Option Src}(hc:wF P x=some s){v:Option V}(hv:aC r s=some v):JJ μ v (x.map a.eval):=by
 rcases Yi5 hh hr hc hv with⟨rfl,rfl⟩|⟨v',x',rfl,rfl,h⟩
 ·trivial
 exact h
def JJ.isNone{v:Option V}{x:Option Value}(h:JJ μ v x):x.isNone=v.isNone:=by cases v<;>cases x<;>simp_all [JJ]
def Pg{u:V}{X:Value}{y m k:Nat}{code:BoundsCode}(hu:VR μ u X)(h:m_ u y=some m)(hk:y<=k):(Instr.sliceBound X k code).run P w=.ok m w/\m<=y:=by
 unfold m_ at h;split at h
 ·rename_i q z;split at h
  ·rename_i hz;simp only[au]at h;subst h;simp only[VR]at hu;subst hu;have h2:z<=(k:Int):=by omega
   exact⟨by simp[Instr.sliceBound,asIntOf,hz.1,h2],by omega⟩
  cases h
 cases h
def JK{isS:Bool}{len y k:Nat}{lo hi mx:Option V}{LO HI MX:Option Value}(gT:JJ μ lo LO)(iW:JJ μ hi HI)(cU:JJ μ mx MX)(hy:y<=k){m h l:Nat}
  (hm:(mx=none/\m=k)\/(dW mx y 0=some m/\mx.isSome=true/\hi.isSome=true)) (hh:dW hi (if mx=none then y else m) len=some h) (hl:dW lo h 0=some l):
  (Instr.sliceBounds isS len k LO HI MX).run P w=.ok (l,h,m) w:=by
 cases mx with
 |none=>
  cases MX with
  |some _=>exact cU.elim
  |none=>
   have hmk:m=k:=by
    rcases hm with⟨_,e⟩|⟨_,e,_⟩
    ·exact e
    simp at e
   subst hmk;simp only[if_true]at hh;have B5:∀LO',LO=some LO'->∀code,(Instr.sliceBound LO' h code).run P w=.ok l w:=fun X e code=>by
    subst e;cases lo with
    |none=>exact gT.elim
    |some u=>exact(Pg gT hl (aM _)).1
   have cB:LO=none->l=0:=fun e=>by
    subst e;cases lo with
    |none=>simpa[dW]using hl.symm
    |some u=>exact gT.elim
   have Ph:∀HI',HI=some HI'->∀code,(Instr.sliceBound HI' m code).run P w=.ok h w:=fun X e code=>by
    subst e;cases hi with
    |none=>exact iW.elim
    |some u=>exact(Pg iW hh hy).1
   have hh0:HI=none->h=len:=fun e=>by
    subst e;cases hi with
    |none=>simpa[dW]using hh.symm
    |some u=>exact iW.elim
   cases HI with
   |none=>
    have:=hh0 rfl;subst this;cases LO with
    |none=>have:=cB rfl;subst this;simp[Instr.sliceBounds]
    |some X=>simp[Instr.sliceBounds,B5 X rfl,Result.andThen]
   |some Y=>
    cases LO with
    |none=>have:=cB rfl;subst this;simp[Instr.sliceBounds,Ph Y rfl,Result.andThen]
    |some X=>simp[Instr.sliceBounds,B5 X rfl,Ph Y rfl,Result.andThen]
 |some um=>
  cases MX with
  |none=>exact cU.elim
  |some Z=>
   obtain⟨hm,jv⟩:dW (some um) y 0=some m/\hi.isSome=true:=by
    rcases hm with⟨e,_⟩|⟨e,_,e'⟩
    ·simp at e
    exact⟨e,e'⟩
   have hz:∀code,(Instr.sliceBound Z k code).run P w=.ok m w:=fun code=>(Pg cU hm hy).1;simp only[reduceCtorEq,if_false]at hh;cases hi with
   |none=>simp at jv
   |some u=>
    cases HI with
    |none=>exact iW.elim
    |some Y=>
     have vt:∀code,(Instr.sliceBound Y m code).run P w=.ok h w:=fun code=>(Pg iW hh (aM _)).1;cases lo with
     |none=>
      cases LO with
      |some _=>exact gT.elim
      |none=> simp only[dW,au]at hl;subst hl;simp[Instr.sliceBounds,hz,vt,Result.andThen]
     |some ul=>
      cases LO with
      |none=>exact gT.elim
      |some X=> have kL:∀code,(Instr.sliceBound X h code).run P w=.ok l w:=fun code=>(Pg gT hl (aM _)).1;simp[Instr.sliceBounds,hz,vt,kL,Result.andThen]
def xV{u:Option V}{y d m:Nat}(h:dW u y d=some m):m<=y\/(u=none/\m=d):=by
 cases u with
 |none=>simp only[dW,au]at h;exact .inr ⟨rfl,h.symm⟩
 |some u=>
  simp only[dW,m_]at h;split at h
  ·split at h
   ·simp only[au]at h;left;omega
   cases h
  cases h
def Zxh(hh:bp P μ w st)(hr:RR μ r n a.tmps){t:TypeId}{x:Operand}{lo hi:Option Operand}{s:Src}{ls hs:Option Src}(ht:P.underlying t=some .string)(hx:bI P x=some s)
  (gT:wF P lo=some ls) (iW:wF P hi=some hs) (h:AK s ls hs call r st=some (v,aB)):
  bg P μ w st (do pure (.value (<-Instr.sliceAt t (a.eval x) (lo.map a.eval) (hi.map a.eval) none))) v aB:=by
 unfold AK at h;split at h
 ·rename_i l vl vh h1 h2 h3;have e1:=dk hh hr hx h1;simp only[VR]at e1;have e2:=vQ hh hr gT h2;have e3:=vQ hh hr iW h3;split at h
  ·rename_i hb sK;split at h
   ·rename_i lb nk;simp only[au,bD]at h;obtain⟨rfl,rfl⟩:=h;have m7:(⟨l.toArray⟩:ByteArray).size=l.length:=by show l.toArray.size=_;simp
    have bU:=JK (P:=P) (w:=w) (isS:=false) (len:=l.length) (y:=l.length) (k:=l.length) (mx:=none) (MX:=none) (m:=l.length) e2 e3 trivial (aM _) (.inl ⟨rfl,rfl⟩) (by simpa using sK) nk;refine bg.value hh (x:=.string ((⟨l.toArray⟩:ByteArray).extract lb hb)) ?_ ?_
    ·simp[Instr.sliceAt,Instr.slice,run_underlying ht,e1,m7,bU,Result.andThen]
    simp only[VR];congr 1;apply ByteArray.ext;rw[ByteArray.data_extract];apply Array.ext';simp[List.extract,List.drop_take]
   cases h
  cases h
 cases h
def Mq{t e:TypeId}{z:Nat}(ht:P.underlying t=some (.slice e))(hz:fE P e=some z){A:Option Addr}{len c l h m:Nat}{LO HI MX:Option Value}
  (hb:(Instr.sliceBounds true len c LO HI MX).run P w=.ok (l,h,m) w):
  (Instr.sliceAt t (.slice A len c) LO HI MX).run P w=.ok (.slice (if m=l then A else A.map (·.add (l*z))) (h-l) (m-l)) w:=by simp[Instr.sliceAt,Instr.slice,run_underlying ht,hb,zY hz,Result.andThen]
def Yce(hh:bp P μ w st)(hr:RR μ r n a.tmps){t e:TypeId}{z:Nat}{x:Operand}{lo hi mx:Option Operand}{s:Src}{ls hs ms:Option Src}(ht:P.underlying t=some (.slice e))(hz:fE P e=some z)
  (hx:bI P x=some s) (gT:wF P lo=some ls) (iW:wF P hi=some hs) (cU:wF P mx=some ms) (h:rQ z s ls hs ms call r st=some (v,aB)):
  bg P μ w st (do pure (.value (<-Instr.sliceAt t (a.eval x) (lo.map a.eval) (hi.map a.eval) (mx.map a.eval)))) v aB:=by
 unfold rQ at h;split at h
 ·-- nil
  rename_i vl vh vm h1 h2 h3 h4;have e1:=dk hh hr hx h1;simp only[VR]at e1;have e2:=vQ hh hr gT h2;have e3:=vQ hh hr iW h3;have e4:=vQ hh hr cU h4;split at h
  ·rename_i m hm;split at h
   ·rename_i hb sK;split at h
    ·rename_i lb nk;split at h
     ·cases h
     rename_i oG;simp only[au,bD]at h;obtain⟨rfl,rfl⟩:=h;have iJ:m=0:=by rcases xV hm with h|h<;>omega
     have qU:hb=0:=by rcases xV sK with h|h<;>omega
     have cB:lb=0:=by rcases xV nk with h|h<;>omega
     subst iJ qU cB;have bU:=JK (P:=P) (w:=w) (isS:=true) (len:=0) (y:=0) (k:=0) e2 e3 e4 (aM _) (m:=0) (h:=0) (l:=0)
      (by cases vm with
       |none=>exact .inl ⟨rfl,rfl⟩
       |some u=>cases vh with
        |none=>simp at oG
        |some u'=>exact .inr ⟨hm,rfl,rfl⟩)
      (by cases vm<;>simpa using sK) nk;refine bg.value hh (x:=.slice none 0 0) ?_ (by simp[VR]);rw[e1,Mq ht hz bU];simp
    cases h
   cases h
  cases h
 ·-- not nil,empty
  rename_i vl vh h1 h2 h3 h4;have e1:=dk hh hr hx h1;obtain⟨A,c,e1⟩:=e1;have e2:=vQ hh hr gT h2;have e3:=vQ hh hr iW h3;have e4:=vQ hh hr cU h4;split at h
  ·rename_i hb sK;split at h
   ·rename_i lb nk;simp only[au,bD]at h;obtain⟨rfl,rfl⟩:=h;have qU:hb=0:=by rcases xV sK with h|h<;>omega
    have cB:lb=0:=by rcases xV nk with h|h<;>omega
    subst qU cB;have bU:=JK (P:=P) (w:=w) (isS:=true) (len:=0) (y:=0) (k:=c) e2 e3 e4 (wx _) (m:=c) (h:=0) (l:=0) (.inl ⟨rfl,rfl⟩) (by simpa using sK) nk;refine bg.value hh (x:=.slice (some (if c=0 then A else A.add (0*z))) 0 (c-0)) ?_ ⟨_,_,rfl⟩;rw[e1,Mq ht hz bU];split<;>simp
   cases h
  cases h
 ·-- the capacity is known
  rename_i i o len c sz vl vh vm h1 h2 h3 h4;obtain⟨l,c',hl,e1,hlen,B1,hc,_⟩:=dk hh hr hx h1;have:=hc c rfl;subst this;have e2:=vQ hh hr gT h2;have e3:=vQ hh hr iW h3;have e4:=vQ hh hr cU h4;split at h
  ·cases h
  rename_i oG;simp only[not_or,Decidable.not_not,Bool.not_eq_true]at oG;obtain⟨rfl,oG⟩:=oG;split at h
  ·rename_i m hm;split at h
   ·rename_i hb sK;split at h
    ·rename_i lb nk;simp only[au,bD]at h;obtain⟨rfl,rfl⟩:=h;have hmc:m<=c':=by rcases xV hm with h|h<;>omega
     have bU:=JK (P:=P) (w:=w) (isS:=true) (len:=len) (y:=c') (k:=c') e2 e3 e4 (aM _) (m:=m) (h:=hb) (l:=lb)
      (by cases vm with
       |none=>simp only[dW,au]at hm;exact .inl ⟨rfl,hm.symm⟩
       |some u=>cases vh with
        |none=>simp at oG
        |some u'=>exact .inr ⟨hm,rfl,rfl⟩)
      (by cases vm with
       |none=>simp only[dW,au]at hm;subst hm;simpa using sK
       |some u=>simpa using sK) nk;have hhm:hb<=m:=by
      rcases xV sK with h|⟨h,h'⟩
      ·exact h
      subst h;cases vm with
      |none=>simp only[dW,au]at hm;omega
      |some u=>simp at oG
     have Pd:lb<=hb:=by rcases xV nk with h|h<;>omega
     have k1:m*sz<=c'*sz:=jz _ hmc;have k2:(m-lb)*sz=m*sz-lb*sz:=Nat.sub_mul _ _ _;have k3:lb*sz<=m*sz:=jz _ (by omega);refine bg.value hh (x:=.slice (some ⟨l.b,l.d+(if m=lb then o else o+lb*sz),none⟩) (hb-lb) (m-lb)) ?_ ⟨l,m-lb,hl,rfl,by omega,?_,fun k hk=>by simpa using hk,by simp⟩
     ·rw[e1,Mq ht hz bU];split<;>simp[yX,qP]
     split
     ·rename_i e;subst e;simp;omega
     omega
    cases h
   cases h
  cases h
 ·-- the capacity is not known
  rename_i i o len sz vl vh vm h1 h2 h3 h4;obtain⟨l,cw,hl,e1,hlen,B1,_,htn⟩:=dk hh hr hx h1;have htn:=htn rfl;have e2:=vQ hh hr gT h2;have e3:=vQ hh hr iW h3;have e4:=vQ hh hr cU h4;split at h
  ·cases h
  rename_i oG;simp only[not_or,Decidable.not_not,Bool.not_eq_true]at oG;obtain⟨rfl,pN,oG⟩:=oG;split at h
  ·rename_i cs _ _ aA;obtain⟨c'',_,_,_,_,cM,_⟩:=hh.row hl aA;have sL:max len ((cs.length-o)/sz)<=cw:=by
    have:(cs.length-o)/sz<=cw:=by rw[Nat.div_le_iff_le_mul_add_pred (by omega)];have:sz*cw=cw*sz:=kg _ _;omega
    omega
   have rP:len<=max len ((cs.length-o)/sz):=by omega
   generalize max len ((cs.length-o)/sz)=y at*;dsimp only at h;split at h
   ·rename_i um;split at h
    ·rename_i m hm;split at h
     ·rename_i hb sK;split at h
      ·rename_i lb nk;simp only[au,bD]at h;obtain⟨rfl,rfl⟩:=h;cases vh with
       |none=>simp at oG
       |some uh=>
       have hmy:m<=y:=by
        rcases xV (u:=some um) (d:=0) hm with h|h
        ·exact h
        simp at h
       have bU:=JK (P:=P) (w:=w) (isS:=true) (len:=len) (y:=y) (k:=cw) e2 e3 e4 sL (m:=m) (h:=hb) (l:=lb) (.inr ⟨hm,rfl,rfl⟩) (by simpa using sK) nk;have hhm:hb<=m:=by
        rcases xV sK with h|⟨h,h'⟩
        ·exact h
        simp at h
       have Pd:lb<=hb:=by rcases xV nk with h|h<;>omega
       have k1:m*sz<=cw*sz:=jz _ (by omega);have k2:(m-lb)*sz=m*sz-lb*sz:=Nat.sub_mul _ _ _;have k3:lb*sz<=m*sz:=jz _ (by omega);refine bg.value hh (x:=.slice (some ⟨l.b,l.d+(if m=lb then o else o+lb*sz),none⟩) (hb-lb) (m-lb)) ?_ ⟨l,m-lb,hl,rfl,by omega,?_,fun k hk=>by simpa using hk,by simp⟩
       ·rw[e1,Mq ht hz bU];split<;>simp[yX,qP]
       split
       ·rename_i e;subst e;simp;omega
       omega
      cases h
     cases h
    cases h
   split at h
   ·rename_i hb sK;split at h
    ·rename_i lb nk;have bU:=JK (P:=P) (w:=w) (isS:=true) (len:=len) (y:=y) (k:=cw) e2 e3 e4 sL (m:=cw) (h:=hb) (l:=lb) (.inl ⟨rfl,rfl⟩) (by simpa using sK) nk;have hhm:hb<=y:=by rcases xV sK with h|⟨h,h'⟩<;>omega
     have Pd:lb<=hb:=by rcases xV nk with h|h<;>omega
     have k2:(cw-lb)*sz=cw*sz-lb*sz:=Nat.sub_mul _ _ _;have k3:lb*sz<=cw*sz:=jz _ (by omega);split at h
     ·rename_i aE;simp only[au,bD]at h;obtain⟨rfl,rfl⟩:=h;refine bg.value hh (x:=.slice (some ⟨l.b,l.d+(o+lb*sz),none⟩) (hb-lb) (cw-lb)) ?_ ⟨l,cw-lb,hl,rfl,by omega,by omega,by simp,fun _=>by omega⟩;rw[e1,Mq ht hz bU];rw[ak (by omega)];simp[yX,qP]
     simp only[au,bD]at h;obtain⟨rfl,rfl⟩:=h;have:hb-lb=0:=by omega
     refine bg.value hh (x:=.slice (some (if cw=lb then ⟨l.b,l.d+o,none⟩ else (⟨l.b,l.d+o,none⟩:Addr).add (lb*sz))) 0 (cw-lb)) ?_ ⟨_,_,rfl⟩;rw[e1,Mq ht hz bU,this];split<;>simp
    cases h
   cases h
  cases h
 cases h
def Zxi(hh:bp P μ w st)(hr:RR μ r n a.tmps){t e:TypeId}{k z:Nat}{x:Operand}{lo hi mx:Option Operand}{s:Src}{ls hs ms:Option Src}(ht:P.underlying t=some (.array k e))(hz:fE P e=some z)
  (hx:bI P x=some s) (gT:wF P lo=some ls) (iW:wF P hi=some hs) (cU:wF P mx=some ms) (h:BG k z s ls hs ms call r st=some (v,aB)):
  bg P μ w st (do pure (.value (<-Instr.sliceAt t (a.eval x) (lo.map a.eval) (hi.map a.eval) (mx.map a.eval)))) v aB:=by
 unfold BG at h;split at h
 ·rename_i i o vl vh h1 h2 h3 h4;obtain⟨l,hl,e1⟩:=dk hh hr hx h1;have e2:=vQ hh hr gT h2;have e3:=vQ hh hr iW h3;have e4:=vQ hh hr cU h4;split at h
  ·rename_i hb sK;split at h
   ·rename_i lb nk;split at h
    ·rename_i cs _ _ aA;split at h
     ·rename_i c9;simp only[au,bD]at h;obtain⟨rfl,rfl⟩:=h;obtain⟨c'',_,_,_,_,cM,_⟩:=hh.row hl aA;have bU:=JK (P:=P) (w:=w) (isS:=false) (len:=k) (y:=k) (k:=k) e2 e3 e4 (aM _) (m:=k) (h:=hb) (l:=lb) (.inl ⟨rfl,rfl⟩) (by simpa using sK) nk;have hhm:hb<=k:=by rcases xV sK with h|⟨h,h'⟩<;>omega
      have Pd:lb<=hb:=by rcases xV nk with h|h<;>omega
      have k2:(k-lb)*z=k*z-lb*z:=Nat.sub_mul _ _ _;have k3:lb*z<=k*z:=jz _ (by omega);have Ei:=c9.1;refine bg.value hh (x:=.slice (some ⟨l.b,l.d+(if k=lb then o else o+lb*z),none⟩) (hb-lb) (k-lb)) ?_ ⟨l,k-lb,hl,rfl,by omega,?_,fun k hk=>by simpa using hk,by simp⟩
      ·simp only[Instr.sliceAt,Sem.run_bind,run_underlying ht,Result.andThen,Instr.sureAddr,e1,Sem.run_pure,bU,zY hz];split<;>simp[yX,qP]
      split
      ·rename_i e;subst e;simp;omega
      omega
     cases h
    cases h
   cases h
  cases h
 cases h
end
section
variable {P:Program} {μ:Mu} {w:World} {st aB:St} {r:T V} {n:Nat} {a:Act} {call:cO} {v:V}
def Up{α:Type}{c vs:List α}{o:Nat}(h:o+vs.length<=c.length):(ae c o vs).length=c.length:=by simp[ae];omega
def Mo{α:Type}{c vs:List α}{o:Nat}(h:o+vs.length<=c.length)(j:Nat):(ae c o vs)[j]?=if o<=j/\j<o+vs.length then vs[j-o]? else c[j]?:=by
 have aE:(c.take o).length=o:=by simp;omega
 unfold ae;rw[uQ];by_cases h1:j<o
 ·rw[mH (by omega),ak (by omega),jZ,av h1]
 rw[qI (by omega),aE];by_cases h2:j<o+vs.length
 ·rw[mH (by omega),av ⟨by omega,h2⟩]
 rw[qI (by omega),ak (by omega),fJ];congr 1;omega
def aY.ae{c vs:List V}{c' nG:List Value}(h:aY μ c c')(h':aY μ vs nG)(o:Nat):aY μ (ae c o vs) (ae c' o nG):=by unfold Mx.ae;rw[h'.length];exact((h.take o).append h').append (h.drop _)
def Zo9{α:Type}(c:List α)(o:Nat)(x:α)(vs:List α)(h:o<c.length):Mx.ae (c.set o x) (o+1) vs=Mx.ae c o (x::vs):=by
 unfold Mx.ae;have e1:(c.set o x).take (o+1)=c.take o++[x]:=by rw[C1,List.take_set_of_le (aM _)];simp[h]
 have e2:(c.set o x).drop (o+1+vs.length)=c.drop (o+(vs.length+1)):=by rw[List.drop_set_of_lt (by omega)];congr 1;omega
 rw[e1,e2];simp
def Ynt(off:Nat):∀(vs:List Value) (k:Nat) (cs:List Value),off+k+vs.length<=cs.length->
  (vs.zipIdx k).foldl (fun (cs:Array Value) (p:Value×Nat)=>cs.setIfInBounds (off+p.2) p.1) ⟨cs⟩=⟨ae cs (off+k) vs⟩:=by
 intro vs;induction vs with
 |nil=>intro k cs h;simp[ae]
 |cons x vs ih=>
  intro k cs h;simp only[bl]at h;simp only[List.zipIdx_cons,List.foldl_cons];have e:(⟨cs⟩:Array Value).setIfInBounds (off+k) x=⟨cs.set (off+k) x⟩:=by apply Array.ext';simp
  rw[e,ih (k+1) (cs.set (off+k) x) (by simp;omega),<-qP,Zo9 _ _ _ _ (by omega)]
def Ztx(hh:bp P μ w st)(hr:RR μ r n a.tmps){place:Nat->Option (Nat×Nat)}:∀{parts:List (Nat×Operand)} {wK:List (Nat×Nat×Src)},Dc P place parts=some wK->
  ∀{ps:List (Nat×Nat×V)},Dl r wK=some ps->∀{cs:List V} {GR:List Value},aY μ cs GR->∀{l:List V},Dk cs ps=some l->
  ∃l',Instr.fill place ⟨GR⟩ (parts.map fun p=>(p.1,a.eval p.2))=some ⟨l'⟩/\aY μ l l':=by
 intro parts;induction parts with
 |nil=> intro wK hc ps he cs GR jX l hl;simp only[Dc,au]at hc;subst hc;simp only[Dl,au]at he;subst he;simp only[Dk,au]at hl;subst hl;exact⟨GR,by simp[Instr.fill],jX⟩
 |cons p parts ih=>
  intro wK hc ps he cs GR jX l hl;obtain⟨i,x⟩:=p;simp only[Dc]at hc;split at hc
  ·rename_i o s sx l' hp hx iU;simp only[au]at hc;subst hc;simp only[Dl]at he;split at he
   ·rename_i u vs hu IV;simp only[au]at he;subst he;simp only[Dk]at hl;split at hl
    ·rename_i c9;have Ut:=dk hh hr hx hu;have iV:=Ut.cells;have hlen:(a.eval x).cells.size=s:=by have:=iV.length;rw[<-c9.1,<-this];simp
     have fL:(a.eval x).cells.toList.length=s:=by simpa using hlen
     obtain⟨l'',h1,h2⟩:=ih iU IV (jX.ae iV o) hl;refine⟨l'',?_,h2⟩;simp only[pX,Instr.fill,hp];rw[ak]
     ·have e:((a.eval x).cells.zipIdx.foldl (fun (cs:Array Value) (p:Value×Nat)=>cs.setIfInBounds (o+p.2) p.1) ⟨GR⟩)=⟨ae GR o (a.eval x).cells.toList⟩:=by rw[<-Array.foldl_toList,Array.toList_zipIdx];have:=Ynt o (a.eval x).cells.toList 0 GR (by rw[fL,jX.length];omega);simpa using this
      rw[<-h1];congr 1
     have cM:=jX.length;simp only[hlen,ne_eq,not_true_eq_false,decide_false,Bool.false_or,decide_eq_true_eq];simp[cM];omega
    cases hl
   cases he
  cases hc
def Ycq:∀{fs:List Field} {pl:List (Nat×Nat)},LC P fs=some pl->fs.mapM (fun f=>(P.info? f.type).map fun i=>(f.offset,i.size))=some pl:=by
 intro fs;induction fs with
 |nil=>intro pl h;simp only[LC,au]at h;subst h;simp
 |cons f fs ih=>
  intro pl h;simp only[LC]at h;split at h
  ·rename_i s l hs hl;simp only[au]at h;subst h;unfold fE at hs;simp only[mP]at hs;obtain⟨i,hi,rfl⟩:=hs;simp[List.mapM_cons,hi,ih hl]
  cases h
def JH{t:TypeId}{z:V}(h:tm P t=some z):∃i x,P.info? t=some i/\i.zero=some x/\∀μ,VR μ z x:=by
 unfold tm at h;split at h
 ·rename_i i hi;split at h
  ·rename_i x hx;exact⟨i,x,hi,hx,fun μ=>TM μ x z h⟩
  cases h
 cases h
def Zqy(hh:bp P μ w st)(hr:RR μ r n a.tmps){t:TypeId}{fs:Array Field}{pl:List (Nat×Nat)}{z:V}{parts:Array (Nat×Operand)}{wK:List (Nat×Nat×Src)}
  (hz:tm P t=some z) (ht:P.underlying t=some (.struct fs)) (hp:LC P fs.toList=some pl) (hc:Dc P (pl[·]?) parts.toList=some wK) (h:ED z.cells wK call r st=some (v,aB)):
  bg P μ w st (do pure (.value (<-Instr.build t (parts.map fun (i,x)=>(i,a.eval x))))) v aB:=by
 unfold ED at h;split at h
 ·rename_i ps pP;split at h
  ·rename_i l hl;simp only[au,bD]at h;obtain⟨rfl,rfl⟩:=h;obtain⟨i,x,hi,hx,sH⟩:=JH hz;obtain⟨l',h1,h2⟩:=Ztx hh hr hc pP (sH μ).cells hl;refine bg.value hh (x:=.agg ⟨l'⟩) (run_build w t _ _ ?_) ⟨l',rfl,h2⟩;simp only[Program.built,hi,ht,hx,Ycq hp];rw[<-h1];simp
  cases h
 cases h
def Zrf(hh:bp P μ w st)(hr:RR μ r n a.tmps){t e:TypeId}{k s:Nat}{z:V}{parts:Array (Nat×Operand)}{wK:List (Nat×Nat×Src)}
  (hz:tm P t=some z) (ht:P.underlying t=some (.array k e)) (hs:fE P e=some s) (hc:Dc P (fun i=>some (i*s,s)) parts.toList=some wK) (h:ED z.cells wK call r st=some (v,aB)):
  bg P μ w st (do pure (.value (<-Instr.build t (parts.map fun (i,x)=>(i,a.eval x))))) v aB:=by
 unfold ED at h;split at h
 ·rename_i ps pP;split at h
  ·rename_i l hl;simp only[au,bD]at h;obtain⟨rfl,rfl⟩:=h;obtain⟨i,x,hi,hx,sH⟩:=JH hz;unfold fE at hs;simp only[mP]at hs;obtain⟨ie,hie,rfl⟩:=hs;obtain⟨l',h1,h2⟩:=Ztx hh hr hc pP (sH μ).cells hl;refine bg.value hh (x:=.agg ⟨l'⟩) (run_build w t _ _ ?_) ⟨l',rfl,h2⟩;simp only[Program.built,hi,ht,hx,hie];rw[<-h1];simp
  cases h
 cases h
def Pj{vs:List V}{xs:List Value}(h:aY μ vs xs)(hv:vs.all V.one=true):∀x∈xs,x.oneCell'=true:=by
 intro x hx;obtain⟨j,hj⟩:=pK hx;have hl:=h.length;have IN:j<xs.length:=(yK.1 hj).1;have:∃u,vs[j]?=some u:=⟨vs[j]'(by omega),by simp⟩;obtain⟨u,hu⟩:=this;obtain⟨y,h1,h2⟩:=h.get hu;rw[hj]at h1;cases h1;have Ae:u.one=true:=by rw[iK]at hv;exact hv u (cy hu)
 have:=h2.one Ae;cases x<;>simp_all [Value.oneCell']
def bg.newRow(hh:bp P μ w st){s:Sem Value}{x:Value}{cs:List V}{xs:List Value}{e:TypeId}(hs:s.run P w=.ok x (w.alloc (.cells ⟨xs⟩ e)))
  (hc:aY μ cs xs) (h1:∀x∈xs,x.oneCell'=true) (hv:VR (fun i=>if i=st.n then some ⟨w.heap.size,0,xs.length⟩ else μ i) v x):
  bg P μ w st (do pure (.value (<-s))) v (st.alloc (.cells cs e true)):=by
 have dT:∀i l,μ i=some l->(fun i=>if i=st.n then some (⟨w.heap.size,0,xs.length⟩:L) else μ i) i=some l:=fun i l hl=>by have:=(hh.dq i l hl).1;simp only;rw[ak (by omega)];exact hl
 refine⟨Next.value x,x,_,_,[],by simp[hs,Result.andThen],.inl rfl,hv,bL.alloc hh (.cells cs e true) (.cells ⟨xs⟩ e) 0 xs.length ⟨⟨xs⟩,0,0,?_,by simp,by simp[hc.length],fun j u hu=>?_,fun j y _ hy=>?_,fun _=>⟨rfl,fun j hj=>by omega⟩⟩⟩
 ·simp
 ·obtain⟨y,hy,hr⟩:=hc.get hu;exact⟨y,by simpa using hy,VR.mono dT u y hr⟩
 exact h1 y (cy (by simpa using hy))
def Yoz(hh:bp P μ w st){e:TypeId}{z:V}(hz:tm P e=some z)(cP:z.cells.all V.one=true)(h:LQ z.cells e call r st=some (v,aB)):
  bg P μ w st (do pure (.value (<-Instr.alloc e true (.tuple #[])))) v aB:=by unfold LQ at h;simp only[au,bD]at h;obtain⟨rfl,rfl⟩:=h;obtain⟨i,x,hi,hx,sH⟩:=JH hz;refine bg.newRow hh (v:=.ptr st.n 0) (xs:=x.cells.toList) (x:=.pointer (some ⟨w.heap.size,0,none⟩)) ?_ (sH μ).cells (Pj (sH μ).cells cP) (by simp only[VR];exact⟨⟨w.heap.size,0,x.cells.toList.length⟩,by simp,by simp⟩);simp[Instr.alloc,zeroValue,typeInfo,hi,hx,newVar,Go.newRow,Result.andThen]
def Yyu(hh:bp P μ w st)(hr:RR μ r n a.tmps){e:TypeId}{x:Operand}{s:Src}(hx:bI P x=some s)(h:I9 e s call r st=some (v,aB)):
  bg P μ w st (do pure (.value (<-Instr.box e (a.eval x)))) v aB:=by
 unfold I9 at h;split at h
 ·rename_i u hu;split at h
  ·rename_i cP;simp only[au,bD]at h;obtain⟨rfl,rfl⟩:=h;have Ut:=dk hh hr hx hu;refine bg.newRow hh (v:=.ptr st.n 0) (xs:=(a.eval x).cells.toList) (x:=.pointer (some ⟨w.heap.size,0,none⟩)) ?_ Ut.cells (Pj Ut.cells cP) (by simp only[VR];exact⟨⟨w.heap.size,0,_⟩,by simp;rfl,by simp⟩);simp[Instr.box,newVar,Go.newRow,Result.andThen]
  cases h
 cases h
end
section
variable {P:Program} {μ:Mu} {w:World} {st aB:St} {r:T V} {n:Nat} {a:Act} {call:cO} {v:V}
def Zoz(zs:List V)(k:Nat):(cW zs k).length=k*zs.length:=by simp[cW]
def Un{zs:List V}{xs:List Value}(h:aY μ zs xs)(k:Nat):aY μ (cW zs k) (madeCells ⟨xs⟩ (k*zs.length)).toList:=by
 have hl:=h.length;refine aY.tv (by simp[cW,madeCells]) fun j u hu=>?_;have hj:j<k*zs.length:=by have:=(yK.1 hu).1;simpa[cW]using this
 have hz:0<zs.length:=by
  rcases Gb zs.length with e|e
  ·rw[e]at hj;simp at hj
  exact e
 have EW:j%zs.length<zs.length:=m8 _ hz;simp only[cW,eH,wY hj,qO,au]at hu;obtain⟨y,h1,h2⟩:=h.get (i:=j%zs.length) (v:=zs[j%zs.length]) (by simp[EW]);refine⟨y,?_,?_⟩
 ·simp only[madeCells,Array.toList_map,Array.toList_range,eH,wY hj,qO,au];have g_:(⟨xs⟩:Array Value)[j%xs.length]?=some y:=by rw[hl];simpa using h1
  simp only[Array.size,getElem!_def,g_]
 rw[<-hu];simpa[List.getD,EW]using h2
def Zsp{zs:List V}(h:zs.all V.one=true)(k:Nat):∀{xs:List Value},aY μ (cW zs k) xs->∀x∈xs,x.oneCell'=true:=by
 intro xs hx;refine Pj hx ?_;rw[iK];intro u hu;simp only[cW,bK,iL]at hu;obtain⟨j,hj,rfl⟩:=hu;have hz:0<zs.length:=by
  rcases Gb zs.length with e|e
  ·rw[e]at hj;simp at hj
  exact e
 have EW:j%zs.length<zs.length:=m8 _ hz;rw[iK]at h;simpa[List.getD,EW]using h zs[j%zs.length] (by simp)
def Yj9(hh:bp P μ w st)(hr:RR μ r n a.tmps){t e:TypeId}{s len:Nat}{z:V}{parts:Array (Nat×Operand)}{wK:List (Nat×Nat×Src)}
  (ht:P.underlying t=some (.slice e)) (hs:fE P e=some s) (hz:tm P e=some z) (hle:¬len*s > 2^24) (O6:z.cells.length=s)
  (hc:Dc P (fun i=>some (i*s,s)) parts.toList=some wK) (h:Ja e s len (cW z.cells len) wK call r st=some (v,aB)):
  bg P μ w st (do pure (.value (<-Instr.buildSlice t len (parts.map fun (i,x)=>(i,a.eval x))))) v aB:=by
 unfold Ja at h;split at h
 ·rename_i ps pP;split at h
  ·rename_i l hl;split at h
   ·rename_i cP;simp only[au,bD]at h;obtain⟨rfl,rfl⟩:=h;obtain⟨i,x,hi,hx,sH⟩:=JH hz;have zT:=(sH μ).cells;have p_:=Un zT len;rw[O6]at p_;obtain⟨l',h1,h2⟩:=Ztx hh hr hc pP p_ hl;have jL:=h2.length;refine bg.newRow hh (v:=.slice st.n 0 len (some len) s) (xs:=l') (x:=.slice (some ⟨w.heap.size,0,none⟩) len len) ?_ h2 (Pj h2 cP) ?_
    ·have g_:Instr.fill (fun i=>some (i*s,s)) (madeCells x.cells (len*s)) (parts.map fun p=>(p.1,a.eval p.2)).toList=some ⟨l'⟩:=by rw[<-h1];simp
     simp only[Instr.buildSlice,Sem.run_bind,run_underlying ht,Result.andThen,zY hs,ak hle];split
     ·rename_i e0;have iV:((Array.range (len*s)).map ((#[]:Array Value)[·%(#[]:Array Value).size]!))=madeCells x.cells (len*s):=by simp[madeCells,e0]
      simp only[Sem.run_bind,Sem.run_pure,Result.andThen,iV];rw[g_];simp[Go.newRow,Result.andThen]
     have iV:((Array.range (len*s)).map (x.cells[·%x.cells.size]!))=madeCells x.cells (len*s):=rfl;simp only[zeroValue,typeInfo,Sem.run_bind,Sem.run_pure,Result.andThen,hi,hx,run_program];simp only[iV];rw[g_];simp[Go.newRow,Result.andThen]
    have Pm:l.length=len*s:=by
     have:∀(ps:List (Nat×Nat×V)) (cs l:List V),Dk cs ps=some l->l.length=cs.length:=by
      intro ps;induction ps with
      |nil=>intro cs l h;simp only[Dk,au]at h;rw[h]
      |cons p ps ih=>
       intro cs l h;obtain⟨o,s,u⟩:=p;simp only[Dk]at h;split at h
       ·rename_i hc;rw[ih _ _ h,Up (by omega)]
       cases h
     rw[this ps _ l hl,Zoz,O6]
    simp only[VR];exact⟨⟨w.heap.size,0,l'.length⟩,len,by simp,by simp,aM _,by simp[jL,Pm],by simp,by simp⟩
   cases h
  cases h
 cases h
def Ydb(hh:bp P μ w st)(hr:RR μ r n a.tmps){t e:TypeId}{s b:Nat}{z:V}{x y:Operand}{sx sy:Src}(ht:P.underlying t=some (.slice e))(hs:fE P e=some s)(hb:Er P e=some b)(hz:tm P e=some z)
  (cP:z.cells.all V.one=true) (hx:bI P x=some sx) (hy:bI P y=some sy) (h:EE e s b z.cells sx sy call r st=some (v,aB)):
  bg P μ w st (do pure (.value (<-Instr.makeSlice t (a.eval x) (a.eval y)))) v aB:=by
 unfold EE at h;split at h
 ·rename_i k l k' c h1 h2;have e1:=dk hh hr hx h1;have e2:=dk hh hr hy h2;simp only[VR]at e1 e2;split at h
  ·rename_i hc;obtain⟨cB,Ay,hbc,zbO,m7,iN⟩:=hc;simp only[au,bD]at h;obtain⟨rfl,rfl⟩:=h;obtain⟨i,zx,hi,sH,Uu⟩:=JH hz;unfold fE at hs;unfold Er at hb;simp only[hi,qO,au]at hs hb;have zT:=(Uu μ).cells;have p_:=Un zT c.toNat;rw[<-m7]at p_;have bU:=run_make (P:=P) w t e i zx ht hi sH k k' l c cB Ay (by rw[hb];omega) (by omega);rw[hs]at bU;refine bg.newRow hh (v:=.slice st.n 0 l.toNat (some c.toNat) s) (xs:=(madeCells zx.cells (c.toNat*s)).toList) (x:=.slice (some ⟨w.heap.size,0,none⟩) l.toNat c.toNat) ?_ p_ (Zsp cP c.toNat p_) ?_
   ·rw[e1,e2,bU]
   simp only[VR];exact⟨⟨w.heap.size,0,_⟩,c.toNat,by simp;rfl,by simp,by omega,by simp[madeCells],by simp,by simp⟩
  cases h
 cases h
def bg.newObj(hh:bp P μ w st){s:Sem Value}{x:Value}{o:O}{ob:Obj}(hs:s.run P w=.ok x (w.alloc ob))
  (ho:OM P (fun i=>if i=st.n then some ⟨w.heap.size,0,0⟩ else μ i) (w.alloc ob) o ⟨w.heap.size,0,0⟩) (hv:VR (fun i=>if i=st.n then some ⟨w.heap.size,0,0⟩ else μ i) v x):
  bg P μ w st (do pure (.value (<-s))) v (st.alloc o):=
 ⟨Next.value x,x,_,_,[],by simp[hs,Result.andThen],.inl rfl,hv,bL.alloc hh o ob 0 0 ho⟩
def Zq5(w:World)(o:Obj):(w.alloc o).heap[w.heap.size]?=some o:=by show (w.heap.push o)[w.heap.size]?=some o;simp
def Ymv(hh:bp P μ w st){t:TypeId}(h:LU call r st=some (v,aB)):bg P μ w st (do pure (.value (<-Instr.makeMap t none))) v aB:=by
 unfold LU at h;simp only[au,bD]at h;obtain⟨rfl,rfl⟩:=h;refine bg.newObj hh (v:=.map st.n) (x:=.map (some w.heap.size)) (ob:=.map #[] 0) ?_ ⟨[],by simpa using Zq5 w _,rfl⟩ ?_
 ·simp[Instr.makeMap,Result.andThen]
 simp only[VR];exact⟨⟨w.heap.size,0,0⟩,by simp,rfl⟩
def Yxn(hh:bp P μ w st)(hr:RR μ r n a.tmps){t e:TypeId}{d:ChanDir}{b:Nat}{x:Operand}{s:Src}(ht:P.underlying t=some (.chan d e))(hb:Er P e=some b)(hx:bI P x=some s)
  (h:Gt b s call r st=some (v,aB)):bg P μ w st (do pure (.value (<-Instr.makeChan t (a.eval x)))) v aB:=by
 unfold Gt at h;split at h
 ·rename_i q k hk;have e1:=dk hh hr hx hk;simp only[VR]at e1;split at h
  ·cases h
  rename_i hc;simp only[au,bD]at h;obtain⟨rfl,rfl⟩:=h;unfold Er at hb;simp only[mP]at hb;obtain⟨i,hi,rfl⟩:=hb;refine bg.newObj hh (v:=.chan st.n) (x:=.chan (some w.heap.size)) (ob:=.chan k.toNat #[] false 0 0 false) ?_ ⟨[],0,0,by simpa using Zq5 w _,by simp[aY]⟩ ?_
  ·simp only[Instr.makeChan,e1,asInt,asIntOf,run_underlying ht,typeInfo,hi,ak hc,Result.andThen,Sem.run_bind,Sem.run_pure,run_program,run_newObj];rfl
  simp only[VR];exact⟨⟨w.heap.size,0,0⟩,by simp,rfl⟩
 cases h
def Zxt(hh:bp P μ w st)(hr:RR μ r n a.tmps){t:TypeId}{x:Operand}{s:Src}(ht:P.underlying t=some .string)(hx:bI P x=some s)
  (h:Jl s call r st=some (v,aB)):bg P μ w st (do pure (.value (<-Instr.range t (a.eval x)))) v aB:=by
 unfold Jl at h;split at h
 ·rename_i q hk;have e1:=dk hh hr hx hk;simp only[VR]at e1;simp only[au,bD]at h;obtain⟨rfl,rfl⟩:=h;refine bg.newObj hh (v:=.ptr st.n 0) (x:=.pointer (some ⟨w.heap.size,0,none⟩)) (ob:=.stringIter ⟨q.toArray⟩ 0) ?_ (by simp only[OM];exact⟨Zq5 w _,trivial⟩) ?_
  ·simp[Instr.range,e1,run_underlying ht,Result.andThen]
  simp only[VR];exact⟨⟨w.heap.size,0,0⟩,by simp,rfl⟩
 cases h
def Zek(g o:Nat)(t:TypeId)(lo hi:Nat):∀(vs:List Value) (i:Nat) (cur:List Value) (w:World),w.heap[g]?=some (.cells ⟨cur⟩ t (lo,hi))->o+i+vs.length<=cur.length->(∀v∈vs,v.oneCell'=true)->
  (∀j,o+i<=j->j<o+i+vs.length->¬(lo<=j/\j<hi))->(storeCells ⟨g,o,none⟩ vs i).run P w=.ok () (w.setRow g ⟨ae cur (o+i) vs⟩)
 |[],i,cur,w,hg,_,_,_=>by
  have e:ae cur (o+i) []=cur:=by simp[ae]
  rw[e,setRow_self w g _ t _ hg]
  simp[storeCells]
 |v::rest,i,cur,w,hg,hl,h1,hf=>by
  simp only[bl]at hl
  have kf:o+i<cur.length:=by omega
  have ic:w.cell? ⟨g,o+i,none⟩=some cur[o+i]:=by simp[World.cell?,hg,kf]
  have zap:w.frozen? ⟨g,o+i,none⟩=false:=by
   have:=hf (o+i) (aM _) (by simp)
   simp only[World.frozen?,hg]
   simp;omega
  have fj:(store ((⟨g,o,none⟩:Addr).add i) v).run P w=.ok () (w.setRow g ⟨cur.set (o+i) v⟩):=by
   rw[yX,run_store P w _ v _ (h1 v (by simp)),ic]
   simp[zap,setCell_eq_setRow w g (o+i) _ t _ v hg]
  have ih:=Zek g o t lo hi rest (i+1) (cur.set (o+i) v) (w.setRow g ⟨cur.set (o+i) v⟩) (setRow_heap w g _ _ t _ hg) (by simp;omega) (fun x hx=>h1 x (by simp[hx]))
   (fun j uG pT=>hf j (by omega) (by simp only[bl];omega))
  simp only[storeCells,Sem.run_bind,fj,Result.andThen_ok,ih,setRow_setRow]
  rw[<-qP,Zo9 _ _ _ _ kf]
def Um(hh:bp P μ w st){i o:Nat}{l:L}(hl:μ i=some l){c:List V}{e:TypeId}(aA:st.row i=some (c,e,true)){vs:List V}{xs:List Value}(hv:aY μ vs xs)(h1:∀x∈xs,x.oneCell'=true)
  (hlen:o+vs.length<=c.length):
  ∃w',(storeCells ⟨l.b,l.d+o,none⟩ xs).run P w=.ok () w'/\bL P μ w st μ w' (st.write i (.cells (ae c o vs) e true)) [i]:=by
 obtain⟨c',lo,hi,g1,g2,g3,g4,g5,g6⟩:=hh.row hl aA;obtain⟨cur⟩:=c';have rM:=hv.length;simp only[List.size_toArray]at g2;have bU:=Zek (P:=P) l.b (l.d+o) e lo hi xs 0 cur w g1 (by omega) h1 (fun j uG pT=>by have:=(g6 rfl).2 (j-l.d) (by omega);rw[show l.d+(j-l.d)=j by omega]at this;exact this);refine⟨_,bU,?_⟩;have hb:=setRow_heap w l.b _ (⟨ae cur (l.d+o+0) xs⟩:Array Value) e _ g1;refine bL.write hh hl (Pb aA) rfl rfl rfl rfl (by simp) (fun b hb=>setRow_other w l.b b _ hb) ⟨_,lo,hi,hb,?_,?_,?_,?_,g6⟩
 ·simp only[List.size_toArray];rw[Up (by omega)];exact g2
 ·rw[Up hlen];exact g3
 ·intro j u hu;rw[Mo hlen]at hu;have e':∀k:Nat,(⟨ae cur (l.d+o+0) xs⟩:Array Value)[k]?=(ae cur (l.d+o+0) xs)[k]?:=fun k=>by simp
  rw[e',Mo (by omega)];split at hu
  ·rename_i hj;rw[av (by omega)];obtain⟨y,hy,hr⟩:=hv.get hu;exact⟨y,by rw[show l.d+j-(l.d+o+0)=j-o by omega];exact hy,hr⟩
  rename_i hj;rw[ak (by omega)];obtain⟨y,hy,hr⟩:=g4 j u hu;exact⟨y,by simpa using hy,hr⟩
 intro j x aE hx;have e':(⟨ae cur (l.d+o+0) xs⟩:Array Value)[l.d+j]?=(ae cur (l.d+o+0) xs)[l.d+j]?:=by simp
 rw[e',Mo (by omega)]at hx;split at hx
 ·exact h1 x (cy hx)
 exact g5 j x aE (by simpa using hx)
def Ylc(hh:bp P μ w st)(hr:RR μ r n a.tmps){t:TypeId}{k:Nat}{x y:Operand}{sx sy:Src}(hk:fE P t=some k)(hx:bI P x=some sx)(hy:bI P y=some sy)
  (h:Gq k sx sy call r st=some (v,aB)):bg P μ w st (do Instr.storeAt t (a.eval x) (a.eval y);pure .skip) v aB:=by
 unfold Gq at h;split at h
 ·rename_i i o u h1 h2;obtain⟨l,hl,e1⟩:=dk hh hr hx h1;have e2:=dk hh hr hy h2;split at h
  ·rename_i c e aA;split at h
   ·rename_i hc;simp only[au,bD]at h;obtain⟨rfl,rfl⟩:=h;have cM:=e2.cells;have hlen:=cM.length;obtain⟨w',hw,hs⟩:=Um hh hl aA cM (Pj cM hc.2.2) (o:=o) (by omega);refine⟨.skip,undef,w',μ,[i],?_,.inr ⟨rfl,rfl⟩,⟨[],rfl,by simp[aY]⟩,hs⟩;have m7:(a.eval y).cells.size=k:=by rw[<-hc.1,<-hlen];simp
    simp[Instr.storeAt,Instr.sureAddr,e1,storeVar,zY hk,m7,hw,Result.andThen]
   cases h
  cases h
 cases h
end
end Go.Mx
