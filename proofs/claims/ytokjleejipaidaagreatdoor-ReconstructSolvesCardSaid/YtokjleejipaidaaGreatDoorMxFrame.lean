/-The frame of a call-/
import Derived.Test.YtokjleejipaidaaGreatDoorMxOps
set_option linter.all false
namespace Go.Mx
open Go
mutual
def V.bW(ρ:Nat->Option Nat):V->Option V
 |.bool b=>some (.bool b)
 |.int k n=>some (.int k n)
 |.vN k n=>some (.vN k n)
 |.str s=>some (.str s)
 |.bF=>some .bF
 |.ptr i o=>match ρ i with
  |some i=>some (.ptr i o)
  |none=>none
 |.aa=>some .aa
 |.slice i o len cap sz=>match ρ i with
  |some i=>some (.slice i o len cap sz)
  |none=>none
 |.empty=>some .empty
 |.bP=>some .bP
 |.map i=>match ρ i with
  |some i=>some (.map i)
  |none=>none
 |.bR=>some .bR
 |.chan i=>match ρ i with
  |some i=>some (.chan i)
  |none=>none
 |.func f a c=>match V.ew ρ a,V.ew ρ c with
  |some a,some c=>some (.func f a c)
  |_,_=>none
 |.yield i=>match ρ i with
  |some i=>some (.yield i)
  |none=>none
 |.bS=>some .bS
 |.iface t v=>match V.bW ρ v with
  |some v=>some (.iface t v)
  |none=>none
 |.aY=>some .aY
 |.agg l=>match V.ew ρ l with
  |some l=>some (.agg l)
  |none=>none
 |.aV l=>match V.ew ρ l with
  |some l=>some (.aV l)
  |none=>none
def V.ew(ρ:Nat->Option Nat):List V->Option (List V)
 |[]=>some []
 |v::vs=>match V.bW ρ v,V.ew ρ vs with
  |some v,some vs=>some (v::vs)
  |_,_=>none
end
mutual
def VR.bW{μ μ':Mu}{ρ:Nat->Option Nat}(h:∀i i',ρ i=some i'->μ i=μ' i'):∀(v v':V) (x:Value),V.bW ρ v=some v'->(VR μ v x↔VR μ' v' x)
 |.bool _,v',x,hv=>by simp only[V.bW,an]at hv;subst hv;simp only[VR]
 |.int _ _,v',x,hv=>by simp only[V.bW,an]at hv;subst hv;simp only[VR]
 |.vN _ _,v',x,hv=>by simp only[V.bW,an]at hv;subst hv;simp only[VR]
 |.str _,v',x,hv=>by simp only[V.bW,an]at hv;subst hv;simp only[VR]
 |.bF,v',x,hv=>by simp only[V.bW,an]at hv;subst hv;simp only[VR]
 |.ptr _ _,v',x,hv=>by
  simp only[V.bW]at hv;split at hv
  ·rename_i i' hi;simp only[an]at hv;subst hv;simp only[VR,h _ _ hi]
  ·cases hv
 |.aa,v',x,hv=>by simp only[V.bW,an]at hv;subst hv;simp only[VR]
 |.slice _ _ _ _ _,v',x,hv=>by
  simp only[V.bW]at hv;split at hv
  ·rename_i i' hi;simp only[an]at hv;subst hv;simp only[VR,h _ _ hi]
  ·cases hv
 |.empty,v',x,hv=>by simp only[V.bW,an]at hv;subst hv;simp only[VR]
 |.bP,v',x,hv=>by simp only[V.bW,an]at hv;subst hv;simp only[VR]
 |.map _,v',x,hv=>by
  simp only[V.bW]at hv;split at hv
  ·rename_i i' hi;simp only[an]at hv;subst hv;simp only[VR,h _ _ hi]
  ·cases hv
 |.bR,v',x,hv=>by simp only[V.bW,an]at hv;subst hv;simp only[VR]
 |.chan _,v',x,hv=>by
  simp only[V.bW]at hv;split at hv
  ·rename_i i' hi;simp only[an]at hv;subst hv;simp only[VR,h _ _ hi]
  ·cases hv
 |.func _ a c,v',x,hv=>by
  simp only[V.bW]at hv;split at hv
  ·rename_i a' c' ha hc;simp only[an]at hv;subst hv
   simp only[VR,fun xs=>aU.bW h a a' xs ha,fun xs=>aU.bW h c c' xs hc]
  ·cases hv
 |.yield _,v',x,hv=>by
  simp only[V.bW]at hv;split at hv
  ·rename_i i' hi;simp only[an]at hv;subst hv;simp only[VR,h _ _ hi]
  ·cases hv
 |.bS,v',x,hv=>by simp only[V.bW,an]at hv;subst hv;simp only[VR]
 |.iface _ v,v',x,hv=>by
  simp only[V.bW]at hv;split at hv
  ·rename_i u hu;simp only[an]at hv;subst hv;simp only[VR,fun y=>VR.bW h v u y hu]
  ·cases hv
 |.aY,v',x,hv=>by simp only[V.bW,an]at hv;subst hv;simp only[VR]
 |.agg l,v',x,hv=>by
  simp only[V.bW]at hv;split at hv
  ·rename_i l' hl;simp only[an]at hv;subst hv;simp only[VR,fun xs=>aU.bW h l l' xs hl]
  ·cases hv
 |.aV l,v',x,hv=>by
  simp only[V.bW]at hv;split at hv
  ·rename_i l' hl;simp only[an]at hv;subst hv;simp only[VR,fun xs=>aU.bW h l l' xs hl]
  ·cases hv
def aU.bW{μ μ':Mu}{ρ:Nat->Option Nat}(h:∀i i',ρ i=some i'->μ i=μ' i'):∀(vs ky:List V) (xs:List Value),V.ew ρ vs=some ky->(aU μ vs xs↔aU μ' ky xs)
 |[],ky,xs,hv=>by simp only[V.ew,an]at hv;subst hv;simp only[aU]
 |v::vs,ky,xs,hv=>by
  simp only[V.ew]at hv;split at hv
  ·rename_i u us hu tZ;simp only[an]at hv;subst hv
   simp only[aU,fun y=>VR.bW h v u y hu,fun ys=>aU.bW h vs us ys tZ]
  ·cases hv
end
def V.ij{ρ:Nat->Option Nat}:∀{vs ky:List V},V.ew ρ vs=some ky->ky.length=vs.length
 |[],ky,h=>by simp only[V.ew,an]at h;subst h;rfl
 |v::vs,ky,h=>by
  simp only[V.ew]at h;split at h
  ·rename_i u us hu tZ;simp only[an]at h;subst h;simp[V.ij tZ]
  ·cases h
def V.t_{ρ:Nat->Option Nat}:∀{vs ky:List V} {j:Nat} {v':V},V.ew ρ vs=some ky->ky[j]?=some v'->∃v,vs[j]?=some v/\V.bW ρ v=some v'
 |[],ky,j,v',h,hj=>by simp only[V.ew,an]at h;subst h;simp at hj
 |v::vs,ky,j,v',h,hj=>by
  simp only[V.ew]at h;split at h
  ·rename_i u us hu tZ;simp only[an]at h;subst h
   cases j with
   |zero=>simp at hj;subst hj;exact⟨v,by simp,hu⟩
   |succ j=>simpa using V.t_ tZ (j:=j) (by simpa using hj)
  ·cases h
def V.qC{ρ:Nat->Option Nat}:∀{vs ky:List V} {j:Nat} {v:V},V.ew ρ vs=some ky->vs[j]?=some v->∃v',ky[j]?=some v'/\V.bW ρ v=some v'
 |[],ky,j,v',h,hj=>by simp at hj
 |v::vs,ky,j,v',h,hj=>by
  simp only[V.ew]at h;split at h
  ·rename_i u us hu tZ;simp only[an]at h;subst h
   cases j with
   |zero=>simp at hj;subst hj;exact⟨u,by simp,hu⟩
   |succ j=>simpa using V.qC tZ (j:=j) (by simpa using hj)
  ·cases h
def V.Dk{ρ:Nat->Option Nat}{v v':V}(h:V.bW ρ v=some v'):v'.Gw=v.Gw:=by
 cases v<;>simp only[V.bW]at h<;>(try split at h)<;>simp only[an,reduceCtorEq]at h<;>subst h<;>rfl
def Ml(ρ:Nat->Option Nat):List (V×V)->Option (List (V×V))
 |[]=>some []
 |(k,v)::es=>match V.bW ρ k,V.bW ρ v,Ml ρ es with
  |some k,some v,some es=>some ((k,v)::es)
  |_,_,_=>none
def iM.bW{μ μ':Mu}{ρ:Nat->Option Nat}(h:∀i i',ρ i=some i'->μ i=μ' i'):∀(es ib:List (V×V)) (xs:List MapEntry) (i:Nat),Ml ρ es=some ib->(iM μ es xs i↔iM μ' ib xs i)
 |[],ib,xs,i,he=>by simp only[Ml,an]at he;subst he;simp only[iM]
 |(k,v)::es,ib,xs,i,he=>by
  simp only[Ml]at he;split at he
  ·rename_i k' v' us hk hv tZ;simp only[an]at he;subst he
   simp only[iM,fun y=>VR.bW h k k' y hk,fun y=>VR.bW h v v' y hv,fun ys i=>iM.bW h es us ys i tZ]
  ·cases he
def O.bW(ρ:Nat->Option Nat):O->Option O
 |.cells c e rw=>match V.ew ρ c with
  |some c=>some (.cells c e rw)
  |none=>none
 |.map es=>match Ml ρ es with
  |some es=>some (.map es)
  |none=>none
 |.chan cap buf=>match V.ew ρ buf with
  |some buf=>some (.chan cap buf)
  |none=>none
 |.eD s pos=>some (.eD s pos)
 |.defs o=>some (.defs o)
 |.loop _=>none
 |.dead=>some .dead
def O.AR{ρ:Nat->Option Nat}{o o':O}(h:o.bW ρ=some o'):o'.wr=o.wr:=by
 cases o<;>simp only[O.bW]at h<;>(try split at h)<;>simp only[an,reduceCtorEq]at h<;>subst h<;>rfl
def O.uc{ρ:Nat->Option Nat}{o o':O}(h:o.bW ρ=some o'):o'.live=o.live:=by
 cases o<;>simp only[O.bW]at h<;>(try split at h)<;>simp only[an,reduceCtorEq]at h<;>subst h<;>rfl
def OM.bW{P:Program}{μ μ':Mu}{w:World}{ρ:Nat->Option Nat}(h:∀i i',ρ i=some i'->μ i=μ' i'){o o':O}{l:L}(ho:o.bW ρ=some o'):OM P μ w o l↔OM P μ' w o' l:=by
 cases o with
 |cells c e rw=>
  simp only[O.bW]at ho;split at ho
  ·rename_i c' hc;simp only[an]at ho;subst ho
   constructor
   ·rintro⟨d,lo,hi,h1,h2,h3,h4,h5⟩
    refine⟨d,lo,hi,h1,h2,by rw[V.ij hc];exact h3,fun j v' GW=>?_,h5⟩
    obtain⟨v,hv,hr⟩:=V.t_ hc GW
    obtain⟨x,hx,B9⟩:=h4 j v hv
    exact⟨x,hx,(VR.bW h v v' x hr).1 B9⟩
   ·rintro⟨d,lo,hi,h1,h2,h3,h4,h5⟩
    refine⟨d,lo,hi,h1,h2,by rw[V.ij hc]at h3;exact h3,fun j v hv=>?_,h5⟩
    obtain⟨v',GW,hr⟩:=V.qC hc hv
    obtain⟨x,hx,B9⟩:=h4 j v' GW
    exact⟨x,hx,(VR.bW h v v' x hr).2 B9⟩
  ·cases ho
 |map es=>
  simp only[O.bW]at ho;split at ho
  ·rename_i ib he;simp only[an]at ho;subst ho
   simp only[OM,fun xs i=>iM.bW h es ib xs i he]
  ·cases ho
 |chan cap buf=>
  simp only[O.bW]at ho;split at ho
  ·rename_i c' hc;simp only[an]at ho;subst ho
   simp only[OM,fun xs=>aU.bW h buf c' xs hc]
  ·cases ho
 |eD s pos=>simp only[O.bW,an]at ho;subst ho;simp only[OM]
 |loop R=>simp only[O.bW,reduceCtorEq]at ho
 |defs b=>simp only[O.bW,an]at ho;subst ho;simp only[OM]
 |dead=>simp only[O.bW,an]at ho;subst ho;simp only[OM]
def Fs(ρ:Nat->Option Nat)(o O':O):Prop:=
 o=.dead\/o.bW ρ=some O'\/∃c e c',o=.cells c e false/\V.ew ρ c=some c'/\O'=.cells c' e true
def Fs.om{P:Program}{μ μ':Mu}{w:World}{ρ:Nat->Option Nat}(h:∀i i',ρ i=some i'->μ i=μ' i'){o o':O}{l:L}(ho:Fs ρ o o')(hm:OM P μ' w o' l):OM P μ w o l:=by
 rcases ho with rfl|ho|⟨c,e,c',rfl,hc,rfl⟩
 ·trivial
 ·exact(OM.bW h ho).2 hm
 ·have h1:(O.cells c e true).bW ρ=some (.cells c' e true):=by simp only[O.bW,hc]
  obtain⟨d,lo,hi,q1,q2,q3,q4,q5,_⟩:=(OM.bW h h1).2 hm
  exact⟨d,lo,hi,q1,q2,q3,q4,q5,fun hx=>by cases hx⟩
def Fs.wr{ρ:Nat->Option Nat}{o o':O}(ho:Fs ρ o o')(h:o.wr=true):o'.wr=true/\o.bW ρ=some o':=by
 rcases ho with rfl|ho|⟨c,e,c',rfl,hc,rfl⟩
 ·simp[O.wr]at h
 ·exact⟨(O.AR ho).trans h,ho⟩
 ·simp[O.wr]at h
def Fs.live{ρ:Nat->Option Nat}{o o':O}(ho:Fs ρ o o')(h:o.live=true):o'.live=true:=by
 rcases ho with rfl|ho|⟨c,e,c',rfl,hc,rfl⟩
 ·simp[O.live]at h
 ·exact(O.uc ho).trans h
 ·rfl
def O.xX{o:O}(h:o.wr=true):o.live=true:=by cases o<;>simp_all [O.wr,O.live]
def Kb(P:Program)(g:V)(args:List V)(st:St)(v:V)(aA:St):Prop:=
 ∀(μ:Mu) (w:World) (G:Value) (xs:List Value),bm P μ w st->VR μ g G->aU μ args xs->
  Mm P g.Gw G ⟨xs⟩ w fun x w'=>∃μ' ws,VR μ' v x/\bH P μ w st μ' w' aA ws
def Mm.mono{P:Program}{y:Bool}{G:Value}{xs:Array Value}{w:World}{R R':Value->World->Prop}(h:Mm P y G xs w R)(hR:∀x w',R x w'->R' x w'):Mm P y G xs w R':=by
 obtain⟨d,hd,ik⟩:=h
 refine⟨d,hd,?_⟩
 rcases ik with⟨hy,f,args,hinv,Kc⟩|⟨hy,l,f,tmps,fP,fQ,hinv,Kd⟩
 ·refine .inl ⟨hy,f,args,hinv,CallsIn.mono (F:=Fence.wide) Kc fun e w' he=>?_⟩
  cases e with
  |returned x=>exact hR x w' he
  |panicked _=>exact he.elim
  |outgrown=>exact he.elim
 ·refine .inr ⟨hy,l,f,tmps,fP,fQ,hinv,RoundIn.mono (F:=Fence.wide) Kd fun e w' he=>?_⟩
  cases e with
  |returned x=>exact hR x w' he
  |panicked _=>exact he.elim
  |outgrown=>exact he.elim
structure HF (P:Program) (σ ρ:Nat->Option Nat) (W:List Nat) (s s' S S':St):Prop where
 c_:∀i i',σ i=some i'->i<s.n/\i'<S.n
 inj:∀i j i',σ i=some i'->σ j=some i'->i=j
 ic:∀g,g<P.globals.size->σ g=some g
 obj:∀i i',σ i=some i'->∃o O',s.h.get i=some o/\Fs σ o O'/\(S.h.get i'=some O'\/o=.dead)
 old:∀i,i<s.n->ρ i=σ i
 new:∀i i',s.n<=i->ρ i=some i'->S.n<=i'/\i'<S'.n/\i<s'.n
 HG:∀i j i',s.n<=i->s.n<=j->ρ i=some i'->ρ j=some i'->i=j
 full:∀i',S.n<=i'->i'<S'.n->∃i,s.n<=i/\ρ i=some i'
 fk:S.n<=S'.n
 w0:s.w=[]
 W1:∀i i',i∈s'.w->σ i=some i'->i'∈W
 W2:∀j,j∈W->∃i,i∈s'.w/\σ i=some j
 wl:S'.w=W++S.w
 ad:∀j,j<S.n->j∉W->S'.h.get j=S.h.get j
 wr:∀i i',i∈s'.w->σ i=some i'->∃o O',s'.h.get i=some o/\S'.h.get i'=some O'/\(O'=.dead\/o.bW ρ=some O')
 Xu:∀i i',s.n<=i->ρ i=some i'->∃o O',s'.h.get i=some o/\S'.h.get i'=some O'/\(O'=.dead\/o.bW ρ=some O')
section
variable {P:Program} {σ ρ:Nat->Option Nat} {W:List Nat} {s s' S S':St}
def HF.tY(F:HF P σ ρ W s s' S S'){μ:Mu}{w:World}(hh:bm P μ w S):bm P (fun i=>(σ i).bind μ) w s:=by
 have hb:∀i l,(σ i).bind μ=some l->∃i',σ i=some i'/\μ i'=some l:=fun i l h=>by
  cases hs:σ i with
  |none=>rw[hs]at h;cases h
  |some i'=>rw[hs]at h;exact⟨i',rfl,h⟩
 refine⟨fun i l hl=>?_,fun i l hl=>?_,fun i j l l' o o' hi hj aW ho xL hw oc=>?_,fun g hg=>?_⟩
 ·obtain⟨i',h1,h2⟩:=hb i l hl
  exact⟨(F.c_ i i' h1).1,(hh.c_ i' l h2).2⟩
 ·obtain⟨i',h1,h2⟩:=hb i l hl
  obtain⟨o,O',g1,g2,g3⟩:=F.obj i i' h1
  refine⟨o,g1,?_⟩
  rcases g3 with g3|rfl
  ·obtain⟨O2,q1,q2⟩:=hh.obj i' l h2
   rw[g3]at q1;cases q1
   exact Fs.om (fun i i' hi=>by simp[hi]) g2 q2
  ·trivial
 ·obtain⟨i',h1,h2⟩:=hb i l hi
  obtain⟨j',h3,h4⟩:=hb j l' hj
  obtain⟨o1,O1,a1,a2,a3⟩:=F.obj i i' h1
  obtain⟨o2,O2,b1,b2,b3⟩:=F.obj j j' h3
  rw[ho]at a1;cases a1
  rw[xL]at b1;cases b1
  have a3':S.h.get i'=some O1:=a3.resolve_right fun e=>by subst e;simp[O.wr]at hw
  have b3':S.h.get j'=some O2:=b3.resolve_right fun e=>by subst e;simp[O.live]at oc
  refine hh.inj i' j' l l' O1 O2 h2 h4 (fun e=>aW ?_) a3' b3' (a2.wr hw).1 (b2.live oc)
  subst e;exact F.inj i j i' h1 h3
 ·obtain⟨t,ht⟩:=hh.ic g hg
  exact⟨t,by simp[F.ic g hg,ht]⟩
def HF.stp(F:HF P σ ρ W s s' S S'){μ:Mu}{w w':World}(hh:bm P μ w S){μ':Mu}{ws:List Nat}(h:bH P (fun i=>(σ i).bind μ) w s μ' w' s' ws):
  ∃μ2,bH P μ w S μ2 w' S' W/\∀i i',ρ i=some i'->μ' i=μ2 i':=by
 have qz:s'.w=ws:=by have:=h.wl;rw[F.w0]at this;simpa using this
 have hinv:∃τ:Nat->Nat,∀i',S.n<=i'->i'<S'.n->s.n<=τ i'/\ρ (τ i')=some i':=by
  classical
  refine⟨fun i'=>if hc:∃i,s.n<=i/\ρ i=some i' then hc.choose else 0,fun i' h1 h2=>?_⟩
  have hc:=F.full i' h1 h2
  simp only[dif_pos hc]
  exact hc.choose_spec
 obtain⟨τ,hτ⟩:=hinv
 let μ2:Mu:=fun i'=>if i'<S.n then μ i' else if i'<S'.n then μ' (τ i') else none
 have hold:∀i',i'<S.n->μ2 i'=μ i':=fun i' hi=>by show (if i'<S.n then _ else _)=_;rw[ax hi]
 have rn:∀i',S.n<=i'->i'<S'.n->μ2 i'=μ' (τ i'):=fun i' h1 h2=>by show (if i'<S.n then _ else _)=_;rw[ak (by omega),ax h2]
 have dj:∀i' l,μ2 i'=some l->i'<S'.n:=fun i' l hl=>by
  by_cases h1:i'<S.n
  ·exact e_ h1 F.fk
  ·by_cases h2:i'<S'.n
   ·exact h2
   ·have:μ2 i'=none:=by show (if i'<S.n then _ else _)=_;rw[ak h1,ak h2]
    rw[this]at hl;cases hl
 have hμs:∀i,i<s.n->μ' i=(σ i).bind μ:=fun i hi=>h.ext i hi
 have hρ:∀i i',ρ i=some i'->μ' i=μ2 i':=fun i i' hi=>by
  by_cases h1:i<s.n
  ·have h2:σ i=some i':=(F.old i h1).symm.trans hi
   rw[hμs i h1,h2,hold i' (F.c_ i i' h2).2];rfl
  ·obtain⟨g1,g2,_⟩:=F.new i i' (by omega) hi
   obtain⟨k1,k2⟩:=hτ i' g1 g2
   rw[rn i' g1 g2,F.HG i (τ i') i' (by omega) k1 hi k2]
 have AS:∀j,j∈W->∃i,i∈ws/\σ i=some j/\i<s.n/\j<S.n:=fun j hj=>by
  obtain⟨i,h1,h2⟩:=F.W2 j hj
  exact⟨i,qz▸h1,h2,F.c_ i j h2⟩
 have yZ:∀i i',i∈ws->σ i=some i'->∃O',S.h.get i'=some O'/\O'.wr=true:=fun i i' hi hs=>by
  obtain⟨o,ho,hw⟩:=h.zA i hi (F.c_ i i' hs).1
  obtain⟨o1,O1,a1,a2,a3⟩:=F.obj i i' hs
  rw[ho]at a1;cases a1
  exact⟨O1,a3.resolve_right fun e=>by subst e;simp[O.wr]at hw,(a2.wr hw).1⟩
 have rH:∀j l,j<S.n->j∉W->μ j=some l->∀O',S.h.get j=some O'->O'.live=true->w'.heap[l.b]?=w.heap[l.b]?:=fun j l hj Rf hl O' hO oc=>by
  refine h.ed.block l.b (hh.c_ j l hl).2 fun i hi li Rh=>?_
  cases hs:σ i with
  |none=>simp[hs]at Rh
  |some i'=>
   simp only[hs,Option.bind_some]at Rh
   obtain⟨O1,q1,q2⟩:=yZ i i' hi hs
   refine hh.inj i' j li l O1 O' Rh hl (fun e=>Rf ?_) q1 hO q2 oc
   subst e;exact F.W1 i i' (qz▸hi) hs
 have HH:∀i i' l,ρ i=some i'->μ2 i'=some l->(s.n<=i\/i∈ws)->∃o O',s'.h.get i=some o/\S'.h.get i'=some O'/\(O'=.dead\/o.bW ρ=some O')/\OM P μ2 w' O' l:=fun i i' l hi hl hc=>by
  have key:∃o O',s'.h.get i=some o/\S'.h.get i'=some O'/\(O'=.dead\/o.bW ρ=some O'):=by
   by_cases h1:i<s.n
   ·rcases hc with hc|hc
    ·omega
    ·exact F.wr i i' (qz▸hc) ((F.old i h1).symm.trans hi)
   ·exact F.Xu i i' (by omega) hi
  obtain⟨o,O',g1,g2,g3⟩:=key
  refine⟨o,O',g1,g2,g3,?_⟩
  rcases g3 with rfl|g3
  ·trivial
  ·obtain⟨o2,q1,q2⟩:=h.hr.obj i l ((hρ i i' hi).trans hl)
   rw[g1]at q1;cases q1
   exact(OM.bW hρ g3).1 q2
 have ue:∀i' l,μ2 i'=some l->(i'<S.n/\i'∉W/\μ i'=some l/\S'.h.get i'=S.h.get i')\/∃i,ρ i=some i'/\μ' i=some l/\(s.n<=i\/i∈ws):=fun i' l hl=>by
  by_cases h1:i'<S.n
  ·by_cases h2:i'∈W
   ·obtain⟨i,q1,q2,q3,_⟩:=AS i' h2
    have hr:ρ i=some i':=(F.old i q3).trans q2
    exact .inr ⟨i,hr,(hρ i i' hr).trans hl,.inr q1⟩
   ·exact .inl ⟨h1,h2,(hold i' h1)▸hl,F.ad i' h1 h2⟩
  ·have h2:=dj i' l hl
   obtain⟨k1,k2⟩:=hτ i' (by omega) h2
   exact .inr ⟨τ i',k2,(hρ _ _ k2).trans hl,.inl k1⟩
 have AT:∀i' l O',i'<S.n->i'∉W->μ i'=some l->S.h.get i'=some O'->O'.live=true->∀k k' lk,ρ k=some k'->μ' k=some lk->(s.n<=k\/k∈ws)->(O'.wr=true\/∃o,s'.h.get k=some o/\o.wr=true)->l.b≠lk.b:=by
  intro i' l O' hi Rf hl hO oc k k' lk hk fR hc Ke
  by_cases h1:k<s.n
  ·have hkw:k∈ws:=hc.resolve_left (by omega)
   have hs:σ k=some k':=(F.old k h1).symm.trans hk
   obtain⟨O1,q1,q2⟩:=yZ k k' hkw hs
   have eF:μ k'=some lk:=by rw[hμs k h1,hs]at fR;exact fR
   have aW:k'≠i':=fun e=>Rf (e▸F.W1 k k' (qz▸hkw) hs)
   exact(hh.inj k' i' lk l O1 O' eF hl aW q1 hO q2 oc).symm
  ·rcases h.new k lk (by omega) fR with pK|⟨j,hj,GR,lj,oj,uW,hb,GS,hjw⟩
   ·have:=(hh.c_ i' l hl).2;omega
   ·cases hs:σ j with
    |none=>simp[hs]at uW
    |some j'=>
     simp only[hs,Option.bind_some]at uW
     obtain⟨O1,q1,q2⟩:=yZ j j' hj hs
     have aW:j'≠i':=fun e=>Rf (e▸F.W1 j j' (qz▸hj) hs)
     rw[<-hb]
     exact(hh.inj j' i' lj l O1 O' uW hl aW q1 hO q2 oc).symm
 refine⟨μ2,⟨⟨fun i' l hl=>⟨dj i' l hl,?_⟩,fun i' l hl=>?_,fun i' j' l l' O1 O2 hi hj aW Ri xY hw oc=>?_,fun g hg=>?_⟩,hold,F.fk,F.wl,⟨h.ed.os,h.ed.tape,h.ed.output,h.ed.size,fun b hb dv=>?_⟩,fun i' l iP hl=>?_,F.ad,fun i' O' iP hO=>?_,fun i' h1 h2=>?_,fun i' iP _=>?_⟩,hρ⟩
 ·rcases ue i' l hl with⟨_,_,g,_⟩|⟨i,_,g,_⟩
  ·exact e_ (hh.c_ i' l g).2 h.ed.size
  ·exact(h.hr.c_ i l g).2
 ·rcases ue i' l hl with⟨g1,g2,g3,g4⟩|⟨i,g1,g2,g3⟩
  ·obtain⟨O',q1,q2⟩:=hh.obj i' l g3
   refine⟨O',g4.trans q1,?_⟩
   cases oc:O'.live with
   |false=>cases O'<;>simp[O.live]at oc;trivial
   |true=>
    refine OM.congr (w:=w) (rH i' l g1 g2 g3 O' q1 oc) (q2.mono fun k lk hk=>?_)
    rw[hold k (hh.c_ k lk hk).1];exact hk
  ·obtain⟨o,O',q1,q2,q3,q4⟩:=HH i i' l g1 hl g3
   exact⟨O',q2,q4⟩
 ·rcases ue i' l hi with⟨a1,a2,a3,a4⟩|⟨i,a1,a2,a3⟩
  ·rw[a4]at Ri
   rcases ue j' l' hj with⟨b1,b2,b3,b4⟩|⟨j,b1,b2,b3⟩
   ·rw[b4]at xY
    exact hh.inj i' j' l l' O1 O2 a3 b3 aW Ri xY hw oc
   ·exact AT i' l O1 a1 a2 a3 Ri (O.xX hw) j j' l' b1 b2 b3 (.inl hw)
  ·obtain⟨o1,O1',q1,q2,q3,_⟩:=HH i i' l a1 hi a3
   rw[Ri]at q2;cases q2
   have Eu:o1.bW ρ=some O1:=q3.resolve_left fun e=>by subst e;simp[O.wr]at hw
   have JI:o1.wr=true:=(O.AR Eu).symm.trans hw
   rcases ue j' l' hj with⟨b1,b2,b3,b4⟩|⟨j,b1,b2,b3⟩
   ·rw[b4]at xY
    exact(AT j' l' O2 b1 b2 b3 xY oc i i' l a1 a2 a3 (.inr ⟨o1,q1,JI⟩)).symm
   ·obtain⟨o2,O2',r1,r2,r3,_⟩:=HH j j' l' b1 hj b3
    rw[xY]at r2;cases r2
    have r3':o2.bW ρ=some O2:=r3.resolve_left fun e=>by subst e;simp[O.live]at oc
    refine h.hr.inj i j l l' o1 o2 a2 b2 (fun e=>aW ?_) q1 r1 JI ((O.uc r3').symm.trans oc)
    subst e;rw[a1]at b1;cases b1;rfl
 ·obtain⟨t,ht⟩:=hh.ic g hg
  exact⟨t,by rw[hold g (hh.c_ g _ ht).1];exact ht⟩
 ·refine h.ed.block b hb fun i hi l hl=>?_
  cases hs:σ i with
  |none=>simp[hs]at hl
  |some i'=>
   simp only[hs,Option.bind_some]at hl
   exact dv i' (F.W1 i i' (qz▸hi) hs) l hl
 ·have h2:=dj i' l hl
  obtain⟨k1,k2⟩:=hτ i' iP h2
  rcases h.new (τ i') l k1 ((hρ _ _ k2).trans hl)with pK|⟨j,hj,GR,lj,oj,uW,hb,GS,hjw⟩
  ·exact .inl pK
  ·cases hs:σ j with
   |none=>simp[hs]at uW
   |some j'=>
    simp only[hs,Option.bind_some]at uW
    obtain⟨O1,q1,q2⟩:=yZ j j' hj hs
    exact .inr ⟨j',F.W1 j j' (qz▸hj) hs,(F.c_ j j' hs).2,lj,O1,uW,hb,q1,q2⟩
 ·by_cases hW:i'∈W
  ·obtain⟨i,q1,q2,q3,q4⟩:=AS i' hW
   obtain⟨O1,r1,r2⟩:=yZ i i' q1 q2
   exact⟨O1,r1,fun _=>r2,fun _=>O.xX r2⟩
  ·exact⟨O',(F.ad i' iP hW).symm.trans hO,id,id⟩
 ·obtain⟨k1,k2⟩:=hτ i' h1 h2
  obtain⟨l,hl⟩:=h.full (τ i') k1 (F.new _ _ k1 k2).2.2
  exact⟨l,(rn i' h1 h2).trans hl⟩
 ·obtain⟨i,q1,q2,_⟩:=AS i' iP
  exact yZ i i' q1 q2
def Kb.frame{g v:V}{args:List V}(h:Kb P g args s v s')(F:HF P σ ρ W s s' S S'){g' v':V}{AU:List V}(hg:V.bW σ g=some g')(ha:V.ew σ args=some AU)(hv:V.bW ρ v=some v'):
  Kb P g' AU S v' S':=by
 intro μ w G xs hh hG qq
 have hσ:∀i i',σ i=some i'->(fun i=>(σ i).bind μ) i=μ i':=fun i i' hi=>by simp[hi]
 have:=h (fun i=>(σ i).bind μ) w G xs (F.tY hh) ((VR.bW hσ g g' G hg).2 hG) ((aU.bW hσ args AU xs ha).2 qq)
 rw[V.Dk hg]
 refine this.mono fun x w' ⟨μ',ws,h1,h2⟩=>?_
 obtain⟨μ2,k1,k2⟩:=F.stp hh h2
 exact⟨μ2,W,(VR.bW k2 v v' x hv).1 h1,k1⟩
end
def tk(a b:cH):cH:=fun g args st=>match a g args st with
 |some r=>some r
 |none=>b g args st
def js.or{P:Program}{a b:cH}(ha:js P a)(hb:js P b):js P (tk a b):=by
 intro g args st v aA h
 unfold tk at h
 split at h
 ·rename_i r hr
  cases h
  exact ha g args st v aA hr
 ·exact hb g args st v aA h
end Go.Mx
