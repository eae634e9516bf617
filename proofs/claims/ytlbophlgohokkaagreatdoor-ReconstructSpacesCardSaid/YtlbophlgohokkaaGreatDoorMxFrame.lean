/-
  The frame of a call: what a call does over a small heap, it does over every heap that holds a copy of it, under other ids.
-/
import Derived.Test.YtlbophlgohokkaaGreatDoorMxOps
set_option linter.all false
namespace Go.Mx
open Go
mutual
def V.bS(ρ:Nat->Option Nat):V->Option V
 |.bool b=>some (.bool b)
 |.int k n=>some (.int k n)
 |.qf k n=>some (.qf k n)
 |.str s=>some (.str s)
 |.bG=>some .bG
 |.ptr i o=>match ρ i with
  |some i=>some (.ptr i o)
  |none=>none
 |.aa=>some .aa
 |.slice i o len cap sz=>match ρ i with
  |some i=>some (.slice i o len cap sz)
  |none=>none
 |.empty=>some .empty
 |.bM=>some .bM
 |.map i=>match ρ i with
  |some i=>some (.map i)
  |none=>none
 |.bO=>some .bO
 |.chan i=>match ρ i with
  |some i=>some (.chan i)
  |none=>none
 |.func f a c=>match V.dS ρ a,V.dS ρ c with
  |some a,some c=>some (.func f a c)
  |_,_=>none
 |.yield i=>match ρ i with
  |some i=>some (.yield i)
  |none=>none
 |.bg=>some .bg
 |.iface t v=>match V.bS ρ v with
  |some v=>some (.iface t v)
  |none=>none
 |.aR=>some .aR
 |.agg l=>match V.dS ρ l with
  |some l=>some (.agg l)
  |none=>none
 |.bb l=>match V.dS ρ l with
  |some l=>some (.bb l)
  |none=>none
def V.dS(ρ:Nat->Option Nat):List V->Option (List V)
 |[]=>some []
 |v::vs=>match V.bS ρ v,V.dS ρ vs with
  |some v,some vs=>some (v::vs)
  |_,_=>none
end
mutual
theorem VR.bS{μ μ':Mu}{ρ:Nat->Option Nat}(h:∀i i',ρ i=some i'->μ i=μ' i'):∀(v v':V) (x:Value),V.bS ρ v=some v'->(VR μ v x↔VR μ' v' x)
 |.bool _,v',x,hv=>by simp only[V.bS,ai]at hv;subst hv;simp only[VR]
 |.int _ _,v',x,hv=>by simp only[V.bS,ai]at hv;subst hv;simp only[VR]
 |.qf _ _,v',x,hv=>by simp only[V.bS,ai]at hv;subst hv;simp only[VR]
 |.str _,v',x,hv=>by simp only[V.bS,ai]at hv;subst hv;simp only[VR]
 |.bG,v',x,hv=>by simp only[V.bS,ai]at hv;subst hv;simp only[VR]
 |.ptr _ _,v',x,hv=>by
  simp only[V.bS]at hv;split at hv
  ·rename_i i' hi;simp only[ai]at hv;subst hv;simp only[VR,h _ _ hi]
  ·cases hv
 |.aa,v',x,hv=>by simp only[V.bS,ai]at hv;subst hv;simp only[VR]
 |.slice _ _ _ _ _,v',x,hv=>by
  simp only[V.bS]at hv;split at hv
  ·rename_i i' hi;simp only[ai]at hv;subst hv;simp only[VR,h _ _ hi]
  ·cases hv
 |.empty,v',x,hv=>by simp only[V.bS,ai]at hv;subst hv;simp only[VR]
 |.bM,v',x,hv=>by simp only[V.bS,ai]at hv;subst hv;simp only[VR]
 |.map _,v',x,hv=>by
  simp only[V.bS]at hv;split at hv
  ·rename_i i' hi;simp only[ai]at hv;subst hv;simp only[VR,h _ _ hi]
  ·cases hv
 |.bO,v',x,hv=>by simp only[V.bS,ai]at hv;subst hv;simp only[VR]
 |.chan _,v',x,hv=>by
  simp only[V.bS]at hv;split at hv
  ·rename_i i' hi;simp only[ai]at hv;subst hv;simp only[VR,h _ _ hi]
  ·cases hv
 |.func _ a c,v',x,hv=>by
  simp only[V.bS]at hv;split at hv
  ·rename_i a' c' ha hc;simp only[ai]at hv;subst hv
   simp only[VR,fun xs=>aW.bS h a a' xs ha,fun xs=>aW.bS h c c' xs hc]
  ·cases hv
 |.yield _,v',x,hv=>by
  simp only[V.bS]at hv;split at hv
  ·rename_i i' hi;simp only[ai]at hv;subst hv;simp only[VR,h _ _ hi]
  ·cases hv
 |.bg,v',x,hv=>by simp only[V.bS,ai]at hv;subst hv;simp only[VR]
 |.iface _ v,v',x,hv=>by
  simp only[V.bS]at hv;split at hv
  ·rename_i u hu;simp only[ai]at hv;subst hv;simp only[VR,fun y=>VR.bS h v u y hu]
  ·cases hv
 |.aR,v',x,hv=>by simp only[V.bS,ai]at hv;subst hv;simp only[VR]
 |.agg l,v',x,hv=>by
  simp only[V.bS]at hv;split at hv
  ·rename_i l' hl;simp only[ai]at hv;subst hv;simp only[VR,fun xs=>aW.bS h l l' xs hl]
  ·cases hv
 |.bb l,v',x,hv=>by
  simp only[V.bS]at hv;split at hv
  ·rename_i l' hl;simp only[ai]at hv;subst hv;simp only[VR,fun xs=>aW.bS h l l' xs hl]
  ·cases hv
theorem aW.bS{μ μ':Mu}{ρ:Nat->Option Nat}(h:∀i i',ρ i=some i'->μ i=μ' i'):∀(vs iZ:List V) (xs:List Value),V.dS ρ vs=some iZ->(aW μ vs xs↔aW μ' iZ xs)
 |[],iZ,xs,hv=>by simp only[V.dS,ai]at hv;subst hv;simp only[aW]
 |v::vs,iZ,xs,hv=>by
  simp only[V.dS]at hv;split at hv
  ·rename_i u us hu qD;simp only[ai]at hv;subst hv
   simp only[aW,fun y=>VR.bS h v u y hu,fun ys=>aW.bS h vs us ys qD]
  ·cases hv
end
theorem V.fW{ρ:Nat->Option Nat}:∀{vs iZ:List V},V.dS ρ vs=some iZ->iZ.length=vs.length
 |[],iZ,h=>by simp only[V.dS,ai]at h;subst h;rfl
 |v::vs,iZ,h=>by
  simp only[V.dS]at h;split at h
  ·rename_i u us hu qD;simp only[ai]at h;subst h;simp[V.fW qD]
  ·cases h
theorem V.oO{ρ:Nat->Option Nat}:∀{vs iZ:List V} {j:Nat} {v':V},V.dS ρ vs=some iZ->iZ[j]?=some v'->∃v,vs[j]?=some v/\V.bS ρ v=some v'
 |[],iZ,j,v',h,hj=>by simp only[V.dS,ai]at h;subst h;simp at hj
 |v::vs,iZ,j,v',h,hj=>by
  simp only[V.dS]at h;split at h
  ·rename_i u us hu qD;simp only[ai]at h;subst h
   cases j with
   |zero=>simp at hj;subst hj;exact⟨v,by simp,hu⟩
   |succ j=>simpa using V.oO qD (j:=j) (by simpa using hj)
  ·cases h
theorem V.mD{ρ:Nat->Option Nat}:∀{vs iZ:List V} {j:Nat} {v:V},V.dS ρ vs=some iZ->vs[j]?=some v->∃v',iZ[j]?=some v'/\V.bS ρ v=some v'
 |[],iZ,j,v',h,hj=>by simp at hj
 |v::vs,iZ,j,v',h,hj=>by
  simp only[V.dS]at h;split at h
  ·rename_i u us hu qD;simp only[ai]at h;subst h
   cases j with
   |zero=>simp at hj;subst hj;exact⟨u,by simp,hu⟩
   |succ j=>simpa using V.mD qD (j:=j) (by simpa using hj)
  ·cases h
theorem V.yA{ρ:Nat->Option Nat}{v v':V}(h:V.bS ρ v=some v'):v'.D6=v.D6:=by
 cases v<;>simp only[V.bS]at h<;>(try split at h)<;>simp only[ai,reduceCtorEq]at h<;>subst h<;>rfl
def Gc(ρ:Nat->Option Nat):List (V×V)->Option (List (V×V))
 |[]=>some []
 |(k,v)::es=>match V.bS ρ k,V.bS ρ v,Gc ρ es with
  |some k,some v,some es=>some ((k,v)::es)
  |_,_,_=>none
theorem gw.bS{μ μ':Mu}{ρ:Nat->Option Nat}(h:∀i i',ρ i=some i'->μ i=μ' i'):∀(es fS:List (V×V)) (xs:List MapEntry) (i:Nat),Gc ρ es=some fS->(gw μ es xs i↔gw μ' fS xs i)
 |[],fS,xs,i,he=>by simp only[Gc,ai]at he;subst he;simp only[gw]
 |(k,v)::es,fS,xs,i,he=>by
  simp only[Gc]at he;split at he
  ·rename_i k' v' us hk hv qD;simp only[ai]at he;subst he
   simp only[gw,fun y=>VR.bS h k k' y hk,fun y=>VR.bS h v v' y hv,fun ys i=>gw.bS h es us ys i qD]
  ·cases he
def O.bS(ρ:Nat->Option Nat):O->Option O
 |.cells c e rw=>match V.dS ρ c with
  |some c=>some (.cells c e rw)
  |none=>none
 |.map es=>match Gc ρ es with
  |some es=>some (.map es)
  |none=>none
 |.chan cap buf=>match V.dS ρ buf with
  |some buf=>some (.chan cap buf)
  |none=>none
 |.dV s pos=>some (.dV s pos)
 |.defs o=>some (.defs o)
 |.loop _=>none
 |.dead=>some .dead
theorem O.vn{ρ:Nat->Option Nat}{o o':O}(h:o.bS ρ=some o'):o'.wr=o.wr:=by
 cases o<;>simp only[O.bS]at h<;>(try split at h)<;>simp only[ai,reduceCtorEq]at h<;>subst h<;>rfl
theorem O.oP{ρ:Nat->Option Nat}{o o':O}(h:o.bS ρ=some o'):o'.live=o.live:=by
 cases o<;>simp only[O.bS]at h<;>(try split at h)<;>simp only[ai,reduceCtorEq]at h<;>subst h<;>rfl
theorem OM.bS{P:Program}{μ μ':Mu}{w:World}{ρ:Nat->Option Nat}(h:∀i i',ρ i=some i'->μ i=μ' i'){o o':O}{l:L}(ho:o.bS ρ=some o'):OM P μ w o l↔OM P μ' w o' l:=by
 cases o with
 |cells c e rw=>
  simp only[O.bS]at ho;split at ho
  ·rename_i c' hc;simp only[ai]at ho;subst ho
   constructor
   ·rintro⟨d,lo,hi,h1,h2,h3,h4,h5⟩
    refine⟨d,lo,hi,h1,h2,by rw[V.fW hc];exact h3,fun j v' BX=>?_,h5⟩
    obtain⟨v,hv,hr⟩:=V.oO hc BX
    obtain⟨x,hx,xe⟩:=h4 j v hv
    exact⟨x,hx,(VR.bS h v v' x hr).1 xe⟩
   ·rintro⟨d,lo,hi,h1,h2,h3,h4,h5⟩
    refine⟨d,lo,hi,h1,h2,by rw[V.fW hc]at h3;exact h3,fun j v hv=>?_,h5⟩
    obtain⟨v',BX,hr⟩:=V.mD hc hv
    obtain⟨x,hx,xe⟩:=h4 j v' BX
    exact⟨x,hx,(VR.bS h v v' x hr).2 xe⟩
  ·cases ho
 |map es=>
  simp only[O.bS]at ho;split at ho
  ·rename_i fS he;simp only[ai]at ho;subst ho
   simp only[OM,fun xs i=>gw.bS h es fS xs i he]
  ·cases ho
 |chan cap buf=>
  simp only[O.bS]at ho;split at ho
  ·rename_i c' hc;simp only[ai]at ho;subst ho
   simp only[OM,fun xs=>aW.bS h buf c' xs hc]
  ·cases ho
 |dV s pos=>simp only[O.bS,ai]at ho;subst ho;simp only[OM]
 |loop R=>simp only[O.bS,reduceCtorEq]at ho
 |defs b=>simp only[O.bS,ai]at ho;subst ho;simp only[OM]
 |dead=>simp only[O.bS,ai]at ho;subst ho;simp only[OM]
def Ag(ρ:Nat->Option Nat)(o O':O):Prop:=
 o=.dead\/o.bS ρ=some O'\/∃c e c',o=.cells c e false/\V.dS ρ c=some c'/\O'=.cells c' e true
theorem Ag.om{P:Program}{μ μ':Mu}{w:World}{ρ:Nat->Option Nat}(h:∀i i',ρ i=some i'->μ i=μ' i'){o o':O}{l:L}(ho:Ag ρ o o')(hm:OM P μ' w o' l):OM P μ w o l:=by
 rcases ho with rfl|ho|⟨c,e,c',rfl,hc,rfl⟩
 ·trivial
 ·exact(OM.bS h ho).2 hm
 ·have h1:(O.cells c e true).bS ρ=some (.cells c' e true):=by simp only[O.bS,hc]
  obtain⟨d,lo,hi,q1,q2,q3,q4,q5,_⟩:=(OM.bS h h1).2 hm
  exact⟨d,lo,hi,q1,q2,q3,q4,q5,fun hx=>by cases hx⟩
theorem Ag.wr{ρ:Nat->Option Nat}{o o':O}(ho:Ag ρ o o')(h:o.wr=true):o'.wr=true/\o.bS ρ=some o':=by
 rcases ho with rfl|ho|⟨c,e,c',rfl,hc,rfl⟩
 ·simp[O.wr]at h
 ·exact⟨(O.vn ho).trans h,ho⟩
 ·simp[O.wr]at h
theorem Ag.live{ρ:Nat->Option Nat}{o o':O}(ho:Ag ρ o o')(h:o.live=true):o'.live=true:=by
 rcases ho with rfl|ho|⟨c,e,c',rfl,hc,rfl⟩
 ·simp[O.live]at h
 ·exact(O.oP ho).trans h
 ·rfl
theorem O.rG{o:O}(h:o.wr=true):o.live=true:=by cases o<;>simp_all [O.wr,O.live]
def Ef(P:Program)(g:V)(args:List V)(st:St)(v:V)(av:St):Prop:=
 ∀(μ:Mu) (w:World) (G:Value) (xs:List Value),bm P μ w st->VR μ g G->aW μ args xs->
  Gd P g.D6 G ⟨xs⟩ w fun x w'=>∃μ' ws,VR μ' v x/\bB P μ w st μ' w' av ws
theorem Gd.mono{P:Program}{y:Bool}{G:Value}{xs:Array Value}{w:World}{R R':Value->World->Prop}(h:Gd P y G xs w R)(hR:∀x w',R x w'->R' x w'):Gd P y G xs w R':=by
 obtain⟨d,hd,fX⟩:=h
 refine⟨d,hd,?_⟩
 rcases fX with⟨hy,f,args,hinv,Eg⟩|⟨hy,l,f,tmps,fj,fk,hinv,Eh⟩
 ·refine .inl ⟨hy,f,args,hinv,CallsIn.mono (F:=Fence.wide) Eg fun e w' he=>?_⟩
  cases e with
  |returned x=>exact hR x w' he
  |panicked _=>exact he.elim
  |outgrown=>exact he.elim
 ·refine .inr ⟨hy,l,f,tmps,fj,fk,hinv,RoundIn.mono (F:=Fence.wide) Eh fun e w' he=>?_⟩
  cases e with
  |returned x=>exact hR x w' he
  |panicked _=>exact he.elim
  |outgrown=>exact he.elim
structure BY (P:Program) (σ ρ:Nat->Option Nat) (W:List Nat) (s s' S S':St):Prop where
 cK:∀i i',σ i=some i'->i<s.n/\i'<S.n
 inj:∀i j i',σ i=some i'->σ j=some i'->i=j
 fE:∀g,g<P.globals.size->σ g=some g
 obj:∀i i',σ i=some i'->∃o O',s.h.get i=some o/\Ag σ o O'/\(S.h.get i'=some O'\/o=.dead)
 old:∀i,i<s.n->ρ i=σ i
 new:∀i i',s.n<=i->ρ i=some i'->S.n<=i'/\i'<S'.n/\i<s'.n
 BZ:∀i j i',s.n<=i->s.n<=j->ρ i=some i'->ρ j=some i'->i=j
 full:∀i',S.n<=i'->i'<S'.n->∃i,s.n<=i/\ρ i=some i'
 fi:S.n<=S'.n
 w0:s.w=[]
 W1:∀i i',i∈s'.w->σ i=some i'->i'∈W
 W2:∀j,j∈W->∃i,i∈s'.w/\σ i=some j
 wl:S'.w=W++S.w
 ad:∀j,j<S.n->j∉W->S'.h.get j=S.h.get j
 wr:∀i i',i∈s'.w->σ i=some i'->∃o O',s'.h.get i=some o/\S'.h.get i'=some O'/\(O'=.dead\/o.bS ρ=some O')
 OS:∀i i',s.n<=i->ρ i=some i'->∃o O',s'.h.get i=some o/\S'.h.get i'=some O'/\(O'=.dead\/o.bS ρ=some O')
section
variable {P:Program} {σ ρ:Nat->Option Nat} {W:List Nat} {s s' S S':St}
theorem BY.oM(F:BY P σ ρ W s s' S S'){μ:Mu}{w:World}(hh:bm P μ w S):bm P (fun i=>(σ i).bind μ) w s:=by
 have hb:∀i l,(σ i).bind μ=some l->∃i',σ i=some i'/\μ i'=some l:=fun i l h=>by
  cases hs:σ i with
  |none=>rw[hs]at h;cases h
  |some i'=>rw[hs]at h;exact⟨i',rfl,h⟩
 refine⟨fun i l hl=>?_,fun i l hl=>?_,fun i j l l' o o' hi hj bA ho rl hw kg=>?_,fun g hg=>?_⟩
 ·obtain⟨i',h1,h2⟩:=hb i l hl
  exact⟨(F.cK i i' h1).1,(hh.cK i' l h2).2⟩
 ·obtain⟨i',h1,h2⟩:=hb i l hl
  obtain⟨o,O',g1,g2,g3⟩:=F.obj i i' h1
  refine⟨o,g1,?_⟩
  rcases g3 with g3|rfl
  ·obtain⟨O2,q1,q2⟩:=hh.obj i' l h2
   rw[g3]at q1;cases q1
   exact Ag.om (fun i i' hi=>by simp[hi]) g2 q2
  ·trivial
 ·obtain⟨i',h1,h2⟩:=hb i l hi
  obtain⟨j',h3,h4⟩:=hb j l' hj
  obtain⟨o1,O1,a1,a2,a3⟩:=F.obj i i' h1
  obtain⟨o2,O2,b1,b2,b3⟩:=F.obj j j' h3
  rw[ho]at a1;cases a1
  rw[rl]at b1;cases b1
  have Um:S.h.get i'=some O1:=a3.resolve_right fun e=>by subst e;simp[O.wr]at hw
  have b3':S.h.get j'=some O2:=b3.resolve_right fun e=>by subst e;simp[O.live]at kg
  refine hh.inj i' j' l l' O1 O2 h2 h4 (fun e=>bA ?_) Um b3' (a2.wr hw).1 (b2.live kg)
  subst e;exact F.inj i j i' h1 h3
 ·obtain⟨t,ht⟩:=hh.fE g hg
  exact⟨t,by simp[F.fE g hg,ht]⟩
theorem BY.stp(F:BY P σ ρ W s s' S S'){μ:Mu}{w w':World}(hh:bm P μ w S){μ':Mu}{ws:List Nat}(h:bB P (fun i=>(σ i).bind μ) w s μ' w' s' ws):
  ∃μ2,bB P μ w S μ2 w' S' W/\∀i i',ρ i=some i'->μ' i=μ2 i':=by
 have mC:s'.w=ws:=by have:=h.wl;rw[F.w0]at this;simpa using this
 have hinv:∃τ:Nat->Nat,∀i',S.n<=i'->i'<S'.n->s.n<=τ i'/\ρ (τ i')=some i':=by
  classical
  refine⟨fun i'=>if hc:∃i,s.n<=i/\ρ i=some i' then hc.choose else 0,fun i' h1 h2=>?_⟩
  have hc:=F.full i' h1 h2
  simp only[dif_pos hc]
  exact hc.choose_spec
 obtain⟨τ,hτ⟩:=hinv
 let μ2:Mu:=fun i'=>if i'<S.n then μ i' else if i'<S'.n then μ' (τ i') else none
 have hold:∀i',i'<S.n->μ2 i'=μ i':=fun i' hi=>by show (if i'<S.n then _ else _)=_;rw[aF hi]
 have mY:∀i',S.n<=i'->i'<S'.n->μ2 i'=μ' (τ i'):=fun i' h1 h2=>by show (if i'<S.n then _ else _)=_;rw[ar (by omega),aF h2]
 have fO:∀i' l,μ2 i'=some l->i'<S'.n:=fun i' l hl=>by
  by_cases h1:i'<S.n
  ·exact dZ h1 F.fi
  ·by_cases h2:i'<S'.n
   ·exact h2
   ·have:μ2 i'=none:=by show (if i'<S.n then _ else _)=_;rw[ar h1,ar h2]
    rw[this]at hl;cases hl
 have Un:∀i,i<s.n->μ' i=(σ i).bind μ:=fun i hi=>h.ext i hi
 have hρ:∀i i',ρ i=some i'->μ' i=μ2 i':=fun i i' hi=>by
  by_cases h1:i<s.n
  ·have h2:σ i=some i':=(F.old i h1).symm.trans hi
   rw[Un i h1,h2,hold i' (F.cK i i' h2).2];rfl
  ·obtain⟨g1,g2,_⟩:=F.new i i' (by omega) hi
   obtain⟨k1,k2⟩:=hτ i' g1 g2
   rw[mY i' g1 g2,F.BZ i (τ i') i' (by omega) k1 hi k2]
 have vo:∀j,j∈W->∃i,i∈ws/\σ i=some j/\i<s.n/\j<S.n:=fun j hj=>by
  obtain⟨i,h1,h2⟩:=F.W2 j hj
  exact⟨i,mC▸h1,h2,F.cK i j h2⟩
 have sU:∀i i',i∈ws->σ i=some i'->∃O',S.h.get i'=some O'/\O'.wr=true:=fun i i' hi hs=>by
  obtain⟨o,ho,hw⟩:=h.rk i hi (F.cK i i' hs).1
  obtain⟨o1,O1,a1,a2,a3⟩:=F.obj i i' hs
  rw[ho]at a1;cases a1
  exact⟨O1,a3.resolve_right fun e=>by subst e;simp[O.wr]at hw,(a2.wr hw).1⟩
 have nf:∀j l,j<S.n->j∉W->μ j=some l->∀O',S.h.get j=some O'->O'.live=true->w'.heap[l.b]?=w.heap[l.b]?:=fun j l hj J1 hl O' hO kg=>by
  refine h.dk.block l.b (hh.cK j l hl).2 fun i hi li OT=>?_
  cases hs:σ i with
  |none=>simp[hs]at OT
  |some i'=>
   simp only[hs,Option.bind_some]at OT
   obtain⟨O1,q1,q2⟩:=sU i i' hi hs
   refine hh.inj i' j li l O1 O' OT hl (fun e=>J1 ?_) q1 hO q2 kg
   subst e;exact F.W1 i i' (mC▸hi) hs
 have B0:∀i i' l,ρ i=some i'->μ2 i'=some l->(s.n<=i\/i∈ws)->∃o O',s'.h.get i=some o/\S'.h.get i'=some O'/\(O'=.dead\/o.bS ρ=some O')/\OM P μ2 w' O' l:=fun i i' l hi hl hc=>by
  have key:∃o O',s'.h.get i=some o/\S'.h.get i'=some O'/\(O'=.dead\/o.bS ρ=some O'):=by
   by_cases h1:i<s.n
   ·rcases hc with hc|hc
    ·omega
    ·exact F.wr i i' (mC▸hc) ((F.old i h1).symm.trans hi)
   ·exact F.OS i i' (by omega) hi
  obtain⟨o,O',g1,g2,g3⟩:=key
  refine⟨o,O',g1,g2,g3,?_⟩
  rcases g3 with rfl|g3
  ·trivial
  ·obtain⟨o2,q1,q2⟩:=h.hr.obj i l ((hρ i i' hi).trans hl)
   rw[g1]at q1;cases q1
   exact(OM.bS hρ g3).1 q2
 have oQ:∀i' l,μ2 i'=some l->(i'<S.n/\i'∉W/\μ i'=some l/\S'.h.get i'=S.h.get i')\/∃i,ρ i=some i'/\μ' i=some l/\(s.n<=i\/i∈ws):=fun i' l hl=>by
  by_cases h1:i'<S.n
  ·by_cases h2:i'∈W
   ·obtain⟨i,q1,q2,q3,_⟩:=vo i' h2
    have hr:ρ i=some i':=(F.old i q3).trans q2
    exact .inr ⟨i,hr,(hρ i i' hr).trans hl,.inr q1⟩
   ·exact .inl ⟨h1,h2,(hold i' h1)▸hl,F.ad i' h1 h2⟩
  ·have h2:=fO i' l hl
   obtain⟨k1,k2⟩:=hτ i' (by omega) h2
   exact .inr ⟨τ i',k2,(hρ _ _ k2).trans hl,.inl k1⟩
 have vt:∀i' l O',i'<S.n->i'∉W->μ i'=some l->S.h.get i'=some O'->O'.live=true->∀k k' lk,ρ k=some k'->μ' k=some lk->(s.n<=k\/k∈ws)->(O'.wr=true\/∃o,s'.h.get k=some o/\o.wr=true)->l.b≠lk.b:=by
  intro i' l O' hi J1 hl hO kg k k' lk hk mm hc Ei
  by_cases h1:k<s.n
  ·have Uo:k∈ws:=hc.resolve_left (by omega)
   have hs:σ k=some k':=(F.old k h1).symm.trans hk
   obtain⟨O1,q1,q2⟩:=sU k k' Uo hs
   have il:μ k'=some lk:=by rw[Un k h1,hs]at mm;exact mm
   have bA:k'≠i':=fun e=>J1 (e▸F.W1 k k' (mC▸Uo) hs)
   exact(hh.inj k' i' lk l O1 O' il hl bA q1 hO q2 kg).symm
  ·rcases h.new k lk (by omega) mm with lG|⟨j,hj,wK,lj,oj,pF,hb,Bi,hjw⟩
   ·have:=(hh.cK i' l hl).2;omega
   ·cases hs:σ j with
    |none=>simp[hs]at pF
    |some j'=>
     simp only[hs,Option.bind_some]at pF
     obtain⟨O1,q1,q2⟩:=sU j j' hj hs
     have bA:j'≠i':=fun e=>J1 (e▸F.W1 j j' (mC▸hj) hs)
     rw[<-hb]
     exact(hh.inj j' i' lj l O1 O' pF hl bA q1 hO q2 kg).symm
 refine⟨μ2,⟨⟨fun i' l hl=>⟨fO i' l hl,?_⟩,fun i' l hl=>?_,fun i' j' l l' O1 O2 hi hj bA J2 rH hw kg=>?_,fun g hg=>?_⟩,hold,F.fi,F.wl,⟨h.dk.os,h.dk.tape,h.dk.output,h.dk.size,fun b hb cM=>?_⟩,fun i' l gZ hl=>?_,F.ad,fun i' O' gZ hO=>?_,fun i' h1 h2=>?_,fun i' gZ _=>?_⟩,hρ⟩
 ·rcases oQ i' l hl with⟨_,_,g,_⟩|⟨i,_,g,_⟩
  ·exact dZ (hh.cK i' l g).2 h.dk.size
  ·exact(h.hr.cK i l g).2
 ·rcases oQ i' l hl with⟨g1,g2,g3,g4⟩|⟨i,g1,g2,g3⟩
  ·obtain⟨O',q1,q2⟩:=hh.obj i' l g3
   refine⟨O',g4.trans q1,?_⟩
   cases kg:O'.live with
   |false=>cases O'<;>simp[O.live]at kg;trivial
   |true=>
    refine OM.congr (w:=w) (nf i' l g1 g2 g3 O' q1 kg) (q2.mono fun k lk hk=>?_)
    rw[hold k (hh.cK k lk hk).1];exact hk
  ·obtain⟨o,O',q1,q2,q3,q4⟩:=B0 i i' l g1 hl g3
   exact⟨O',q2,q4⟩
 ·rcases oQ i' l hi with⟨a1,a2,a3,a4⟩|⟨i,a1,a2,a3⟩
  ·rw[a4]at J2
   rcases oQ j' l' hj with⟨b1,b2,b3,b4⟩|⟨j,b1,b2,b3⟩
   ·rw[b4]at rH
    exact hh.inj i' j' l l' O1 O2 a3 b3 bA J2 rH hw kg
   ·exact vt i' l O1 a1 a2 a3 J2 (O.rG hw) j j' l' b1 b2 b3 (.inl hw)
  ·obtain⟨o1,O1',q1,q2,q3,_⟩:=B0 i i' l a1 hi a3
   rw[J2]at q2;cases q2
   have zv:o1.bS ρ=some O1:=q3.resolve_left fun e=>by subst e;simp[O.wr]at hw
   have JD:o1.wr=true:=(O.vn zv).symm.trans hw
   rcases oQ j' l' hj with⟨b1,b2,b3,b4⟩|⟨j,b1,b2,b3⟩
   ·rw[b4]at rH
    exact(vt j' l' O2 b1 b2 b3 rH kg i i' l a1 a2 a3 (.inr ⟨o1,q1,JD⟩)).symm
   ·obtain⟨o2,O2',r1,r2,r3,_⟩:=B0 j j' l' b1 hj b3
    rw[rH]at r2;cases r2
    have r3':o2.bS ρ=some O2:=r3.resolve_left fun e=>by subst e;simp[O.live]at kg
    refine h.hr.inj i j l l' o1 o2 a2 b2 (fun e=>bA ?_) q1 r1 JD ((O.oP r3').symm.trans kg)
    subst e;rw[a1]at b1;cases b1;rfl
 ·obtain⟨t,ht⟩:=hh.fE g hg
  exact⟨t,by rw[hold g (hh.cK g _ ht).1];exact ht⟩
 ·refine h.dk.block b hb fun i hi l hl=>?_
  cases hs:σ i with
  |none=>simp[hs]at hl
  |some i'=>
   simp only[hs,Option.bind_some]at hl
   exact cM i' (F.W1 i i' (mC▸hi) hs) l hl
 ·have h2:=fO i' l hl
  obtain⟨k1,k2⟩:=hτ i' gZ h2
  rcases h.new (τ i') l k1 ((hρ _ _ k2).trans hl)with lG|⟨j,hj,wK,lj,oj,pF,hb,Bi,hjw⟩
  ·exact .inl lG
  ·cases hs:σ j with
   |none=>simp[hs]at pF
   |some j'=>
    simp only[hs,Option.bind_some]at pF
    obtain⟨O1,q1,q2⟩:=sU j j' hj hs
    exact .inr ⟨j',F.W1 j j' (mC▸hj) hs,(F.cK j j' hs).2,lj,O1,pF,hb,q1,q2⟩
 ·by_cases hW:i'∈W
  ·obtain⟨i,q1,q2,q3,q4⟩:=vo i' hW
   obtain⟨O1,r1,r2⟩:=sU i i' q1 q2
   exact⟨O1,r1,fun _=>r2,fun _=>O.rG r2⟩
  ·exact⟨O',(F.ad i' gZ hW).symm.trans hO,id,id⟩
 ·obtain⟨k1,k2⟩:=hτ i' h1 h2
  obtain⟨l,hl⟩:=h.full (τ i') k1 (F.new _ _ k1 k2).2.2
  exact⟨l,(mY i' h1 h2).trans hl⟩
 ·obtain⟨i,q1,q2,_⟩:=vo i' gZ
  exact sU i i' q1 q2
theorem Ef.frame{g v:V}{args:List V}(h:Ef P g args s v s')(F:BY P σ ρ W s s' S S'){g' v':V}{vu:List V}(hg:V.bS σ g=some g')(ha:V.dS σ args=some vu)(hv:V.bS ρ v=some v'):
  Ef P g' vu S v' S':=by
 intro μ w G xs hh hG mE
 have hσ:∀i i',σ i=some i'->(fun i=>(σ i).bind μ) i=μ i':=fun i i' hi=>by simp[hi]
 have:=h (fun i=>(σ i).bind μ) w G xs (F.oM hh) ((VR.bS hσ g g' G hg).2 hG) ((aW.bS hσ args vu xs ha).2 mE)
 rw[V.yA hg]
 refine this.mono fun x w' ⟨μ',ws,h1,h2⟩=>?_
 obtain⟨μ2,k1,k2⟩:=F.stp hh h2
 exact⟨μ2,W,(VR.bS k2 v v' x hv).1 h1,k1⟩
end
def oK(a b:cA):cA:=fun g args st=>match a g args st with
 |some r=>some r
 |none=>b g args st
theorem ik.or{P:Program}{a b:cA}(ha:ik P a)(hb:ik P b):ik P (oK a b):=by
 intro g args st v av h
 unfold oK at h
 split at h
 ·rename_i r hr
  cases h
  exact ha g args st v av hr
 ·exact hb g args st v av h
end Go.Mx
