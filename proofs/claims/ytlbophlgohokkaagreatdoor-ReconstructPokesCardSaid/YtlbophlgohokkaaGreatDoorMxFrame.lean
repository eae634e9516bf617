/-
  The frame of a call: what a call does over a small heap, it does over every heap that holds a copy of it, under other ids.
-/
import Derived.Test.YtlbophlgohokkaaGreatDoorMxOps
set_option linter.all false
namespace Go.Mx
open Go
mutual
def V.bU(ρ:Nat->Option Nat):V->Option V
 |.bool b=>some (.bool b)
 |.int k n=>some (.int k n)
 |.rM k n=>some (.rM k n)
 |.str s=>some (.str s)
 |.bD=>some .bD
 |.ptr i o=>match ρ i with
  |some i=>some (.ptr i o)
  |none=>none
 |.aa=>some .aa
 |.slice i o len cap sz=>match ρ i with
  |some i=>some (.slice i o len cap sz)
  |none=>none
 |.empty=>some .empty
 |.bH=>some .bH
 |.map i=>match ρ i with
  |some i=>some (.map i)
  |none=>none
 |.bN=>some .bN
 |.chan i=>match ρ i with
  |some i=>some (.chan i)
  |none=>none
 |.func f a c=>match V.dM ρ a,V.dM ρ c with
  |some a,some c=>some (.func f a c)
  |_,_=>none
 |.yield i=>match ρ i with
  |some i=>some (.yield i)
  |none=>none
 |.aG=>some .aG
 |.iface t v=>match V.bU ρ v with
  |some v=>some (.iface t v)
  |none=>none
 |.aP=>some .aP
 |.agg l=>match V.dM ρ l with
  |some l=>some (.agg l)
  |none=>none
 |.aZ l=>match V.dM ρ l with
  |some l=>some (.aZ l)
  |none=>none
def V.dM(ρ:Nat->Option Nat):List V->Option (List V)
 |[]=>some []
 |v::vs=>match V.bU ρ v,V.dM ρ vs with
  |some v,some vs=>some (v::vs)
  |_,_=>none
end
mutual
theorem VR.bU{μ μ':Mu}{ρ:Nat->Option Nat}(h:∀i i',ρ i=some i'->μ i=μ' i'):∀(v v':V) (x:Value),V.bU ρ v=some v'->(VR μ v x↔VR μ' v' x)
 |.bool _,v',x,hv=>by simp only[V.bU,aj]at hv;subst hv;simp only[VR]
 |.int _ _,v',x,hv=>by simp only[V.bU,aj]at hv;subst hv;simp only[VR]
 |.rM _ _,v',x,hv=>by simp only[V.bU,aj]at hv;subst hv;simp only[VR]
 |.str _,v',x,hv=>by simp only[V.bU,aj]at hv;subst hv;simp only[VR]
 |.bD,v',x,hv=>by simp only[V.bU,aj]at hv;subst hv;simp only[VR]
 |.ptr _ _,v',x,hv=>by
  simp only[V.bU]at hv;split at hv
  ·rename_i i' hi;simp only[aj]at hv;subst hv;simp only[VR,h _ _ hi]
  ·cases hv
 |.aa,v',x,hv=>by simp only[V.bU,aj]at hv;subst hv;simp only[VR]
 |.slice _ _ _ _ _,v',x,hv=>by
  simp only[V.bU]at hv;split at hv
  ·rename_i i' hi;simp only[aj]at hv;subst hv;simp only[VR,h _ _ hi]
  ·cases hv
 |.empty,v',x,hv=>by simp only[V.bU,aj]at hv;subst hv;simp only[VR]
 |.bH,v',x,hv=>by simp only[V.bU,aj]at hv;subst hv;simp only[VR]
 |.map _,v',x,hv=>by
  simp only[V.bU]at hv;split at hv
  ·rename_i i' hi;simp only[aj]at hv;subst hv;simp only[VR,h _ _ hi]
  ·cases hv
 |.bN,v',x,hv=>by simp only[V.bU,aj]at hv;subst hv;simp only[VR]
 |.chan _,v',x,hv=>by
  simp only[V.bU]at hv;split at hv
  ·rename_i i' hi;simp only[aj]at hv;subst hv;simp only[VR,h _ _ hi]
  ·cases hv
 |.func _ a c,v',x,hv=>by
  simp only[V.bU]at hv;split at hv
  ·rename_i a' c' ha hc;simp only[aj]at hv;subst hv
   simp only[VR,fun xs=>aX.bU h a a' xs ha,fun xs=>aX.bU h c c' xs hc]
  ·cases hv
 |.yield _,v',x,hv=>by
  simp only[V.bU]at hv;split at hv
  ·rename_i i' hi;simp only[aj]at hv;subst hv;simp only[VR,h _ _ hi]
  ·cases hv
 |.aG,v',x,hv=>by simp only[V.bU,aj]at hv;subst hv;simp only[VR]
 |.iface _ v,v',x,hv=>by
  simp only[V.bU]at hv;split at hv
  ·rename_i u hu;simp only[aj]at hv;subst hv;simp only[VR,fun y=>VR.bU h v u y hu]
  ·cases hv
 |.aP,v',x,hv=>by simp only[V.bU,aj]at hv;subst hv;simp only[VR]
 |.agg l,v',x,hv=>by
  simp only[V.bU]at hv;split at hv
  ·rename_i l' hl;simp only[aj]at hv;subst hv;simp only[VR,fun xs=>aX.bU h l l' xs hl]
  ·cases hv
 |.aZ l,v',x,hv=>by
  simp only[V.bU]at hv;split at hv
  ·rename_i l' hl;simp only[aj]at hv;subst hv;simp only[VR,fun xs=>aX.bU h l l' xs hl]
  ·cases hv
theorem aX.bU{μ μ':Mu}{ρ:Nat->Option Nat}(h:∀i i',ρ i=some i'->μ i=μ' i'):∀(vs jX:List V) (xs:List Value),V.dM ρ vs=some jX->(aX μ vs xs↔aX μ' jX xs)
 |[],jX,xs,hv=>by simp only[V.dM,aj]at hv;subst hv;simp only[aX]
 |v::vs,jX,xs,hv=>by
  simp only[V.dM]at hv;split at hv
  ·rename_i u us hu sq;simp only[aj]at hv;subst hv
   simp only[aX,fun y=>VR.bU h v u y hu,fun ys=>aX.bU h vs us ys sq]
  ·cases hv
end
theorem V.fV{ρ:Nat->Option Nat}:∀{vs jX:List V},V.dM ρ vs=some jX->jX.length=vs.length
 |[],jX,h=>by simp only[V.dM,aj]at h;subst h;rfl
 |v::vs,jX,h=>by
  simp only[V.dM]at h;split at h
  ·rename_i u us hu sq;simp only[aj]at h;subst h;simp[V.fV sq]
  ·cases h
theorem V.qE{ρ:Nat->Option Nat}:∀{vs jX:List V} {j:Nat} {v':V},V.dM ρ vs=some jX->jX[j]?=some v'->∃v,vs[j]?=some v/\V.bU ρ v=some v'
 |[],jX,j,v',h,hj=>by simp only[V.dM,aj]at h;subst h;simp at hj
 |v::vs,jX,j,v',h,hj=>by
  simp only[V.dM]at h;split at h
  ·rename_i u us hu sq;simp only[aj]at h;subst h
   cases j with
   |zero=>simp at hj;subst hj;exact⟨v,by simp,hu⟩
   |succ j=>simpa using V.qE sq (j:=j) (by simpa using hj)
  ·cases h
theorem V.nI{ρ:Nat->Option Nat}:∀{vs jX:List V} {j:Nat} {v:V},V.dM ρ vs=some jX->vs[j]?=some v->∃v',jX[j]?=some v'/\V.bU ρ v=some v'
 |[],jX,j,v',h,hj=>by simp at hj
 |v::vs,jX,j,v',h,hj=>by
  simp only[V.dM]at h;split at h
  ·rename_i u us hu sq;simp only[aj]at h;subst h
   cases j with
   |zero=>simp at hj;subst hj;exact⟨u,by simp,hu⟩
   |succ j=>simpa using V.nI sq (j:=j) (by simpa using hj)
  ·cases h
theorem V.Ag{ρ:Nat->Option Nat}{v v':V}(h:V.bU ρ v=some v'):v'.Gb=v.Gb:=by
 cases v<;>simp only[V.bU]at h<;>(try split at h)<;>simp only[aj,reduceCtorEq]at h<;>subst h<;>rfl
def Im(ρ:Nat->Option Nat):List (V×V)->Option (List (V×V))
 |[]=>some []
 |(k,v)::es=>match V.bU ρ k,V.bU ρ v,Im ρ es with
  |some k,some v,some es=>some ((k,v)::es)
  |_,_,_=>none
theorem gH.bU{μ μ':Mu}{ρ:Nat->Option Nat}(h:∀i i',ρ i=some i'->μ i=μ' i'):∀(es fP:List (V×V)) (xs:List MapEntry) (i:Nat),Im ρ es=some fP->(gH μ es xs i↔gH μ' fP xs i)
 |[],fP,xs,i,he=>by simp only[Im,aj]at he;subst he;simp only[gH]
 |(k,v)::es,fP,xs,i,he=>by
  simp only[Im]at he;split at he
  ·rename_i k' v' us hk hv sq;simp only[aj]at he;subst he
   simp only[gH,fun y=>VR.bU h k k' y hk,fun y=>VR.bU h v v' y hv,fun ys i=>gH.bU h es us ys i sq]
  ·cases he
def O.bU(ρ:Nat->Option Nat):O->Option O
 |.cells c e rw=>match V.dM ρ c with
  |some c=>some (.cells c e rw)
  |none=>none
 |.map es=>match Im ρ es with
  |some es=>some (.map es)
  |none=>none
 |.chan cap buf=>match V.dM ρ buf with
  |some buf=>some (.chan cap buf)
  |none=>none
 |.dT s pos=>some (.dT s pos)
 |.defs o=>some (.defs o)
 |.loop _=>none
 |.dead=>some .dead
theorem O.xx{ρ:Nat->Option Nat}{o o':O}(h:o.bU ρ=some o'):o'.wr=o.wr:=by
 cases o<;>simp only[O.bU]at h<;>(try split at h)<;>simp only[aj,reduceCtorEq]at h<;>subst h<;>rfl
theorem O.qF{ρ:Nat->Option Nat}{o o':O}(h:o.bU ρ=some o'):o'.live=o.live:=by
 cases o<;>simp only[O.bU]at h<;>(try split at h)<;>simp only[aj,reduceCtorEq]at h<;>subst h<;>rfl
theorem OM.bU{P:Program}{μ μ':Mu}{w:World}{ρ:Nat->Option Nat}(h:∀i i',ρ i=some i'->μ i=μ' i'){o o':O}{l:L}(ho:o.bU ρ=some o'):OM P μ w o l↔OM P μ' w o' l:=by
 cases o with
 |cells c e rw=>
  simp only[O.bU]at ho;split at ho
  ·rename_i c' hc;simp only[aj]at ho;subst ho
   constructor
   ·rintro⟨d,lo,hi,h1,h2,h3,h4,h5⟩
    refine⟨d,lo,hi,h1,h2,by rw[V.fV hc];exact h3,fun j v' DD=>?_,h5⟩
    obtain⟨v,hv,hr⟩:=V.qE hc DD
    obtain⟨x,hx,y8⟩:=h4 j v hv
    exact⟨x,hx,(VR.bU h v v' x hr).1 y8⟩
   ·rintro⟨d,lo,hi,h1,h2,h3,h4,h5⟩
    refine⟨d,lo,hi,h1,h2,by rw[V.fV hc]at h3;exact h3,fun j v hv=>?_,h5⟩
    obtain⟨v',DD,hr⟩:=V.nI hc hv
    obtain⟨x,hx,y8⟩:=h4 j v' DD
    exact⟨x,hx,(VR.bU h v v' x hr).2 y8⟩
  ·cases ho
 |map es=>
  simp only[O.bU]at ho;split at ho
  ·rename_i fP he;simp only[aj]at ho;subst ho
   simp only[OM,fun xs i=>gH.bU h es fP xs i he]
  ·cases ho
 |chan cap buf=>
  simp only[O.bU]at ho;split at ho
  ·rename_i c' hc;simp only[aj]at ho;subst ho
   simp only[OM,fun xs=>aX.bU h buf c' xs hc]
  ·cases ho
 |dT s pos=>simp only[O.bU,aj]at ho;subst ho;simp only[OM]
 |loop R=>simp only[O.bU,reduceCtorEq]at ho
 |defs b=>simp only[O.bU,aj]at ho;subst ho;simp only[OM]
 |dead=>simp only[O.bU,aj]at ho;subst ho;simp only[OM]
def BQ(ρ:Nat->Option Nat)(o O':O):Prop:=
 o=.dead\/o.bU ρ=some O'\/∃c e c',o=.cells c e false/\V.dM ρ c=some c'/\O'=.cells c' e true
theorem BQ.om{P:Program}{μ μ':Mu}{w:World}{ρ:Nat->Option Nat}(h:∀i i',ρ i=some i'->μ i=μ' i'){o o':O}{l:L}(ho:BQ ρ o o')(hm:OM P μ' w o' l):OM P μ w o l:=by
 rcases ho with rfl|ho|⟨c,e,c',rfl,hc,rfl⟩
 ·trivial
 ·exact(OM.bU h ho).2 hm
 ·have h1:(O.cells c e true).bU ρ=some (.cells c' e true):=by simp only[O.bU,hc]
  obtain⟨d,lo,hi,q1,q2,q3,q4,q5,_⟩:=(OM.bU h h1).2 hm
  exact⟨d,lo,hi,q1,q2,q3,q4,q5,fun hx=>by cases hx⟩
theorem BQ.wr{ρ:Nat->Option Nat}{o o':O}(ho:BQ ρ o o')(h:o.wr=true):o'.wr=true/\o.bU ρ=some o':=by
 rcases ho with rfl|ho|⟨c,e,c',rfl,hc,rfl⟩
 ·simp[O.wr]at h
 ·exact⟨(O.xx ho).trans h,ho⟩
 ·simp[O.wr]at h
theorem BQ.live{ρ:Nat->Option Nat}{o o':O}(ho:BQ ρ o o')(h:o.live=true):o'.live=true:=by
 rcases ho with rfl|ho|⟨c,e,c',rfl,hc,rfl⟩
 ·simp[O.live]at h
 ·exact(O.qF ho).trans h
 ·rfl
theorem O.uc{o:O}(h:o.wr=true):o.live=true:=by cases o<;>simp_all [O.wr,O.live]
def Gl(P:Program)(g:V)(args:List V)(st:St)(v:V)(av:St):Prop:=
 ∀(μ:Mu) (w:World) (G:Value) (xs:List Value),bo P μ w st->VR μ g G->aX μ args xs->
  Io P g.Gb G ⟨xs⟩ w fun x w'=>∃μ' ws,VR μ' v x/\bB P μ w st μ' w' av ws
theorem Io.mono{P:Program}{y:Bool}{G:Value}{xs:Array Value}{w:World}{R R':Value->World->Prop}(h:Io P y G xs w R)(hR:∀x w',R x w'->R' x w'):Io P y G xs w R':=by
 obtain⟨d,hd,fW⟩:=h
 refine⟨d,hd,?_⟩
 rcases fW with⟨hy,f,args,hinv,Gm⟩|⟨hy,l,f,tmps,fg,fh,hinv,Gn⟩
 ·refine .inl ⟨hy,f,args,hinv,CallsIn.mono (F:=Fence.wide) Gm fun e w' he=>?_⟩
  cases e with
  |returned x=>exact hR x w' he
  |panicked _=>exact he.elim
  |outgrown=>exact he.elim
 ·refine .inr ⟨hy,l,f,tmps,fg,fh,hinv,RoundIn.mono (F:=Fence.wide) Gn fun e w' he=>?_⟩
  cases e with
  |returned x=>exact hR x w' he
  |panicked _=>exact he.elim
  |outgrown=>exact he.elim
structure DE (P:Program) (σ ρ:Nat->Option Nat) (W:List Nat) (s s' S S':St):Prop where
 cG:∀i i',σ i=some i'->i<s.n/\i'<S.n
 inj:∀i j i',σ i=some i'->σ j=some i'->i=j
 fF:∀g,g<P.globals.size->σ g=some g
 obj:∀i i',σ i=some i'->∃o O',s.h.get i=some o/\BQ σ o O'/\(S.h.get i'=some O'\/o=.dead)
 old:∀i,i<s.n->ρ i=σ i
 new:∀i i',s.n<=i->ρ i=some i'->S.n<=i'/\i'<S'.n/\i<s'.n
 DF:∀i j i',s.n<=i->s.n<=j->ρ i=some i'->ρ j=some i'->i=j
 full:∀i',S.n<=i'->i'<S'.n->∃i,s.n<=i/\ρ i=some i'
 eX:S.n<=S'.n
 w0:s.w=[]
 W1:∀i i',i∈s'.w->σ i=some i'->i'∈W
 W2:∀j,j∈W->∃i,i∈s'.w/\σ i=some j
 wl:S'.w=W++S.w
 ae:∀j,j<S.n->j∉W->S'.h.get j=S.h.get j
 wr:∀i i',i∈s'.w->σ i=some i'->∃o O',s'.h.get i=some o/\S'.h.get i'=some O'/\(O'=.dead\/o.bU ρ=some O')
 RL:∀i i',s.n<=i->ρ i=some i'->∃o O',s'.h.get i=some o/\S'.h.get i'=some O'/\(O'=.dead\/o.bU ρ=some O')
section
variable {P:Program} {σ ρ:Nat->Option Nat} {W:List Nat} {s s' S S':St}
theorem DE.qD(F:DE P σ ρ W s s' S S'){μ:Mu}{w:World}(hh:bo P μ w S):bo P (fun i=>(σ i).bind μ) w s:=by
 have hb:∀i l,(σ i).bind μ=some l->∃i',σ i=some i'/\μ i'=some l:=fun i l h=>by
  cases hs:σ i with
  |none=>rw[hs]at h;cases h
  |some i'=>rw[hs]at h;exact⟨i',rfl,h⟩
 refine⟨fun i l hl=>?_,fun i l hl=>?_,fun i j l l' o o' hi hj bJ ho tL hw oG=>?_,fun g hg=>?_⟩
 ·obtain⟨i',h1,h2⟩:=hb i l hl
  exact⟨(F.cG i i' h1).1,(hh.cG i' l h2).2⟩
 ·obtain⟨i',h1,h2⟩:=hb i l hl
  obtain⟨o,O',g1,g2,g3⟩:=F.obj i i' h1
  refine⟨o,g1,?_⟩
  rcases g3 with g3|rfl
  ·obtain⟨O2,q1,q2⟩:=hh.obj i' l h2
   rw[g3]at q1;cases q1
   exact BQ.om (fun i i' hi=>by simp[hi]) g2 q2
  ·trivial
 ·obtain⟨i',h1,h2⟩:=hb i l hi
  obtain⟨j',h3,h4⟩:=hb j l' hj
  obtain⟨o1,O1,a1,a2,a3⟩:=F.obj i i' h1
  obtain⟨o2,O2,b1,b2,b3⟩:=F.obj j j' h3
  rw[ho]at a1;cases a1
  rw[tL]at b1;cases b1
  have Xm:S.h.get i'=some O1:=a3.resolve_right fun e=>by subst e;simp[O.wr]at hw
  have b3':S.h.get j'=some O2:=b3.resolve_right fun e=>by subst e;simp[O.live]at oG
  refine hh.inj i' j' l l' O1 O2 h2 h4 (fun e=>bJ ?_) Xm b3' (a2.wr hw).1 (b2.live oG)
  subst e;exact F.inj i j i' h1 h3
 ·obtain⟨t,ht⟩:=hh.fF g hg
  exact⟨t,by simp[F.fF g hg,ht]⟩
theorem DE.stp(F:DE P σ ρ W s s' S S'){μ:Mu}{w w':World}(hh:bo P μ w S){μ':Mu}{ws:List Nat}(h:bB P (fun i=>(σ i).bind μ) w s μ' w' s' ws):
  ∃μ2,bB P μ w S μ2 w' S' W/\∀i i',ρ i=some i'->μ' i=μ2 i':=by
 have nH:s'.w=ws:=by have:=h.wl;rw[F.w0]at this;simpa using this
 have hinv:∃τ:Nat->Nat,∀i',S.n<=i'->i'<S'.n->s.n<=τ i'/\ρ (τ i')=some i':=by
  classical
  refine⟨fun i'=>if hc:∃i,s.n<=i/\ρ i=some i' then hc.choose else 0,fun i' h1 h2=>?_⟩
  have hc:=F.full i' h1 h2
  simp only[dif_pos hc]
  exact hc.choose_spec
 obtain⟨τ,hτ⟩:=hinv
 let μ2:Mu:=fun i'=>if i'<S.n then μ i' else if i'<S'.n then μ' (τ i') else none
 have hold:∀i',i'<S.n->μ2 i'=μ i':=fun i' hi=>by show (if i'<S.n then _ else _)=_;rw[aF hi]
 have oS:∀i',S.n<=i'->i'<S'.n->μ2 i'=μ' (τ i'):=fun i' h1 h2=>by show (if i'<S.n then _ else _)=_;rw[au (by omega),aF h2]
 have d_:∀i' l,μ2 i'=some l->i'<S'.n:=fun i' l hl=>by
  by_cases h1:i'<S.n
  ·exact eY h1 F.eX
  ·by_cases h2:i'<S'.n
   ·exact h2
   ·have:μ2 i'=none:=by show (if i'<S.n then _ else _)=_;rw[au h1,au h2]
    rw[this]at hl;cases hl
 have Xn:∀i,i<s.n->μ' i=(σ i).bind μ:=fun i hi=>h.ext i hi
 have hρ:∀i i',ρ i=some i'->μ' i=μ2 i':=fun i i' hi=>by
  by_cases h1:i<s.n
  ·have h2:σ i=some i':=(F.old i h1).symm.trans hi
   rw[Xn i h1,h2,hold i' (F.cG i i' h2).2];rfl
  ·obtain⟨g1,g2,_⟩:=F.new i i' (by omega) hi
   obtain⟨k1,k2⟩:=hτ i' g1 g2
   rw[oS i' g1 g2,F.DF i (τ i') i' (by omega) k1 hi k2]
 have xy:∀j,j∈W->∃i,i∈ws/\σ i=some j/\i<s.n/\j<S.n:=fun j hj=>by
  obtain⟨i,h1,h2⟩:=F.W2 j hj
  exact⟨i,nH▸h1,h2,F.cG i j h2⟩
 have ve:∀i i',i∈ws->σ i=some i'->∃O',S.h.get i'=some O'/\O'.wr=true:=fun i i' hi hs=>by
  obtain⟨o,ho,hw⟩:=h.tK i hi (F.cG i i' hs).1
  obtain⟨o1,O1,a1,a2,a3⟩:=F.obj i i' hs
  rw[ho]at a1;cases a1
  exact⟨O1,a3.resolve_right fun e=>by subst e;simp[O.wr]at hw,(a2.wr hw).1⟩
 have oH:∀j l,j<S.n->j∉W->μ j=some l->∀O',S.h.get j=some O'->O'.live=true->w'.heap[l.b]?=w.heap[l.b]?:=fun j l hj Mc hl O' hO oG=>by
  refine h.c_.block l.b (hh.cG j l hl).2 fun i hi li RM=>?_
  cases hs:σ i with
  |none=>simp[hs]at RM
  |some i'=>
   simp only[hs,Option.bind_some]at RM
   obtain⟨O1,q1,q2⟩:=ve i i' hi hs
   refine hh.inj i' j li l O1 O' RM hl (fun e=>Mc ?_) q1 hO q2 oG
   subst e;exact F.W1 i i' (nH▸hi) hs
 have DG:∀i i' l,ρ i=some i'->μ2 i'=some l->(s.n<=i\/i∈ws)->∃o O',s'.h.get i=some o/\S'.h.get i'=some O'/\(O'=.dead\/o.bU ρ=some O')/\OM P μ2 w' O' l:=fun i i' l hi hl hc=>by
  have key:∃o O',s'.h.get i=some o/\S'.h.get i'=some O'/\(O'=.dead\/o.bU ρ=some O'):=by
   by_cases h1:i<s.n
   ·rcases hc with hc|hc
    ·omega
    ·exact F.wr i i' (nH▸hc) ((F.old i h1).symm.trans hi)
   ·exact F.RL i i' (by omega) hi
  obtain⟨o,O',g1,g2,g3⟩:=key
  refine⟨o,O',g1,g2,g3,?_⟩
  rcases g3 with rfl|g3
  ·trivial
  ·obtain⟨o2,q1,q2⟩:=h.hr.obj i l ((hρ i i' hi).trans hl)
   rw[g1]at q1;cases q1
   exact(OM.bU hρ g3).1 q2
 have qG:∀i' l,μ2 i'=some l->(i'<S.n/\i'∉W/\μ i'=some l/\S'.h.get i'=S.h.get i')\/∃i,ρ i=some i'/\μ' i=some l/\(s.n<=i\/i∈ws):=fun i' l hl=>by
  by_cases h1:i'<S.n
  ·by_cases h2:i'∈W
   ·obtain⟨i,q1,q2,q3,_⟩:=xy i' h2
    have hr:ρ i=some i':=(F.old i q3).trans q2
    exact .inr ⟨i,hr,(hρ i i' hr).trans hl,.inr q1⟩
   ·exact .inl ⟨h1,h2,(hold i' h1)▸hl,F.ae i' h1 h2⟩
  ·have h2:=d_ i' l hl
   obtain⟨k1,k2⟩:=hτ i' (by omega) h2
   exact .inr ⟨τ i',k2,(hρ _ _ k2).trans hl,.inl k1⟩
 have xz:∀i' l O',i'<S.n->i'∉W->μ i'=some l->S.h.get i'=some O'->O'.live=true->∀k k' lk,ρ k=some k'->μ' k=some lk->(s.n<=k\/k∈ws)->(O'.wr=true\/∃o,s'.h.get k=some o/\o.wr=true)->l.b≠lk.b:=by
  intro i' l O' hi Mc hl hO oG k k' lk hk jG hc Gp
  by_cases h1:k<s.n
  ·have Xo:k∈ws:=hc.resolve_left (by omega)
   have hs:σ k=some k':=(F.old k h1).symm.trans hk
   obtain⟨O1,q1,q2⟩:=ve k k' Xo hs
   have jJ:μ k'=some lk:=by rw[Xn k h1,hs]at jG;exact jG
   have bJ:k'≠i':=fun e=>Mc (e▸F.W1 k k' (nH▸Xo) hs)
   exact(hh.inj k' i' lk l O1 O' jJ hl bJ q1 hO q2 oG).symm
  ·rcases h.new k lk (by omega) jG with mQ|⟨j,hj,yy,lj,oj,rb,hb,CR,hjw⟩
   ·have:=(hh.cG i' l hl).2;omega
   ·cases hs:σ j with
    |none=>simp[hs]at rb
    |some j'=>
     simp only[hs,Option.bind_some]at rb
     obtain⟨O1,q1,q2⟩:=ve j j' hj hs
     have bJ:j'≠i':=fun e=>Mc (e▸F.W1 j j' (nH▸hj) hs)
     rw[<-hb]
     exact(hh.inj j' i' lj l O1 O' rb hl bJ q1 hO q2 oG).symm
 refine⟨μ2,⟨⟨fun i' l hl=>⟨d_ i' l hl,?_⟩,fun i' l hl=>?_,fun i' j' l l' O1 O2 hi hj bJ Md ud hw oG=>?_,fun g hg=>?_⟩,hold,F.eX,F.wl,⟨h.c_.os,h.c_.tape,h.c_.output,h.c_.size,fun b hb cH=>?_⟩,fun i' l g_ hl=>?_,F.ae,fun i' O' g_ hO=>?_,fun i' h1 h2=>?_,fun i' g_ _=>?_⟩,hρ⟩
 ·rcases qG i' l hl with⟨_,_,g,_⟩|⟨i,_,g,_⟩
  ·exact eY (hh.cG i' l g).2 h.c_.size
  ·exact(h.hr.cG i l g).2
 ·rcases qG i' l hl with⟨g1,g2,g3,g4⟩|⟨i,g1,g2,g3⟩
  ·obtain⟨O',q1,q2⟩:=hh.obj i' l g3
   refine⟨O',g4.trans q1,?_⟩
   cases oG:O'.live with
   |false=>cases O'<;>simp[O.live]at oG;trivial
   |true=>
    refine OM.congr (w:=w) (oH i' l g1 g2 g3 O' q1 oG) (q2.mono fun k lk hk=>?_)
    rw[hold k (hh.cG k lk hk).1];exact hk
  ·obtain⟨o,O',q1,q2,q3,q4⟩:=DG i i' l g1 hl g3
   exact⟨O',q2,q4⟩
 ·rcases qG i' l hi with⟨a1,a2,a3,a4⟩|⟨i,a1,a2,a3⟩
  ·rw[a4]at Md
   rcases qG j' l' hj with⟨b1,b2,b3,b4⟩|⟨j,b1,b2,b3⟩
   ·rw[b4]at ud
    exact hh.inj i' j' l l' O1 O2 a3 b3 bJ Md ud hw oG
   ·exact xz i' l O1 a1 a2 a3 Md (O.uc hw) j j' l' b1 b2 b3 (.inl hw)
  ·obtain⟨o1,O1',q1,q2,q3,_⟩:=DG i i' l a1 hi a3
   rw[Md]at q2;cases q2
   have Me:o1.bU ρ=some O1:=q3.resolve_left fun e=>by subst e;simp[O.wr]at hw
   have LD:o1.wr=true:=(O.xx Me).symm.trans hw
   rcases qG j' l' hj with⟨b1,b2,b3,b4⟩|⟨j,b1,b2,b3⟩
   ·rw[b4]at ud
    exact(xz j' l' O2 b1 b2 b3 ud oG i i' l a1 a2 a3 (.inr ⟨o1,q1,LD⟩)).symm
   ·obtain⟨o2,O2',r1,r2,r3,_⟩:=DG j j' l' b1 hj b3
    rw[ud]at r2;cases r2
    have r3':o2.bU ρ=some O2:=r3.resolve_left fun e=>by subst e;simp[O.live]at oG
    refine h.hr.inj i j l l' o1 o2 a2 b2 (fun e=>bJ ?_) q1 r1 LD ((O.qF r3').symm.trans oG)
    subst e;rw[a1]at b1;cases b1;rfl
 ·obtain⟨t,ht⟩:=hh.fF g hg
  exact⟨t,by rw[hold g (hh.cG g _ ht).1];exact ht⟩
 ·refine h.c_.block b hb fun i hi l hl=>?_
  cases hs:σ i with
  |none=>simp[hs]at hl
  |some i'=>
   simp only[hs,Option.bind_some]at hl
   exact cH i' (F.W1 i i' (nH▸hi) hs) l hl
 ·have h2:=d_ i' l hl
  obtain⟨k1,k2⟩:=hτ i' g_ h2
  rcases h.new (τ i') l k1 ((hρ _ _ k2).trans hl)with mQ|⟨j,hj,yy,lj,oj,rb,hb,CR,hjw⟩
  ·exact .inl mQ
  ·cases hs:σ j with
   |none=>simp[hs]at rb
   |some j'=>
    simp only[hs,Option.bind_some]at rb
    obtain⟨O1,q1,q2⟩:=ve j j' hj hs
    exact .inr ⟨j',F.W1 j j' (nH▸hj) hs,(F.cG j j' hs).2,lj,O1,rb,hb,q1,q2⟩
 ·by_cases hW:i'∈W
  ·obtain⟨i,q1,q2,q3,q4⟩:=xy i' hW
   obtain⟨O1,r1,r2⟩:=ve i i' q1 q2
   exact⟨O1,r1,fun _=>r2,fun _=>O.uc r2⟩
  ·exact⟨O',(F.ae i' g_ hW).symm.trans hO,id,id⟩
 ·obtain⟨k1,k2⟩:=hτ i' h1 h2
  obtain⟨l,hl⟩:=h.full (τ i') k1 (F.new _ _ k1 k2).2.2
  exact⟨l,(oS i' h1 h2).trans hl⟩
 ·obtain⟨i,q1,q2,_⟩:=xy i' g_
  exact ve i i' q1 q2
theorem Gl.frame{g v:V}{args:List V}(h:Gl P g args s v s')(F:DE P σ ρ W s s' S S'){g' v':V}{xA:List V}(hg:V.bU σ g=some g')(ha:V.dM σ args=some xA)(hv:V.bU ρ v=some v'):
  Gl P g' xA S v' S':=by
 intro μ w G xs hh hG nJ
 have hσ:∀i i',σ i=some i'->(fun i=>(σ i).bind μ) i=μ i':=fun i i' hi=>by simp[hi]
 have:=h (fun i=>(σ i).bind μ) w G xs (F.qD hh) ((VR.bU hσ g g' G hg).2 hG) ((aX.bU hσ args xA xs ha).2 nJ)
 rw[V.Ag hg]
 refine this.mono fun x w' ⟨μ',ws,h1,h2⟩=>?_
 obtain⟨μ2,k1,k2⟩:=F.stp hh h2
 exact⟨μ2,W,(VR.bU k2 v v' x hv).1 h1,k1⟩
end
def qB(a b:cm):cm:=fun g args st=>match a g args st with
 |some r=>some r
 |none=>b g args st
theorem ix.or{P:Program}{a b:cm}(ha:ix P a)(hb:ix P b):ix P (qB a b):=by
 intro g args st v av h
 unfold qB at h
 split at h
 ·rename_i r hr
  cases h
  exact ha g args st v av hr
 ·exact hb g args st v av h
end Go.Mx
