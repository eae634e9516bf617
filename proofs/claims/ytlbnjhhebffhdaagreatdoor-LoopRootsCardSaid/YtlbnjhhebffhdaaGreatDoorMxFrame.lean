/-The frame of a call-/
import Derived.Test.YtlbnjhhebffhdaaGreatDoorMxOps
set_option linter.all false
namespace Go.Mx
open Go
mutual
def V.bZ(ρ:Nat->Option Nat):V->Option V
 |.bool b=>some (.bool b)
 |.int k n=>some (.int k n)
 |.jM k n=>some (.jM k n)
 |.rp k a b=>some (.rp k a b)
 |.str s=>some (.str s)
 |.bO=>some .bO
 |.ptr i o=>match ρ i with
  |some i=>some (.ptr i o)
  |none=>none
 |.ziA=>some .ziA
 |.slice i o len cap sz=>match ρ i with
  |some i=>some (.slice i o len cap sz)
  |none=>none
 |.empty=>some .empty
 |.bU=>some .bU
 |.map i=>match ρ i with
  |some i=>some (.map i)
  |none=>none
 |.bV=>some .bV
 |.chan i=>match ρ i with
  |some i=>some (.chan i)
  |none=>none
 |.func f a c=>match V.eF ρ a,V.eF ρ c with
  |some a,some c=>some (.func f a c)
  |_,_=>none
 |.yield i=>match ρ i with
  |some i=>some (.yield i)
  |none=>none
 |.bW=>some .bW
 |.iface t v=>match V.bZ ρ v with
  |some v=>some (.iface t v)
  |none=>none
 |.bh=>some .bh
 |.agg l=>match V.eF ρ l with
  |some l=>some (.agg l)
  |none=>none
 |.aX l=>match V.eF ρ l with
  |some l=>some (.aX l)
  |none=>none
def V.eF(ρ:Nat->Option Nat):List V->Option (List V)
 |[]=>some []
 |v::vs=>match V.bZ ρ v,V.eF ρ vs with
  |some v,some vs=>some (v::vs)
  |_,_=>none
end
mutual
def VR.bZ{μ μ':Mu}{ρ:Nat->Option Nat}(h:∀i i',ρ i=some i'->μ i=μ' i'):∀(v v':V) (x:Value),V.bZ ρ v=some v'->(VR μ v x↔VR μ' v' x)
 |.bool _,v',x,hv=>by simp only[V.bZ,au]at hv;subst hv;simp only[VR]
 |.int _ _,v',x,hv=>by simp only[V.bZ,au]at hv;subst hv;simp only[VR]
 |.jM _ _,v',x,hv=>by simp only[V.bZ,au]at hv;subst hv;simp only[VR]
 |.rp _ _ _,v',x,hv=>by simp only[V.bZ,au]at hv;subst hv;simp only[VR]
 |.str _,v',x,hv=>by simp only[V.bZ,au]at hv;subst hv;simp only[VR]
 |.bO,v',x,hv=>by simp only[V.bZ,au]at hv;subst hv;simp only[VR]
 |.ptr _ _,v',x,hv=>by
  simp only[V.bZ]at hv;split at hv
  ·rename_i i' hi;simp only[au]at hv;subst hv;simp only[VR,h _ _ hi]
  ·cases hv
 |.ziA,v',x,hv=>by simp only[V.bZ,au]at hv;subst hv;simp only[VR]
 |.slice _ _ _ _ _,v',x,hv=>by
  simp only[V.bZ]at hv;split at hv
  ·rename_i i' hi;simp only[au]at hv;subst hv;simp only[VR,h _ _ hi]
  ·cases hv
 |.empty,v',x,hv=>by simp only[V.bZ,au]at hv;subst hv;simp only[VR]
 |.bU,v',x,hv=>by simp only[V.bZ,au]at hv;subst hv;simp only[VR]
 |.map _,v',x,hv=>by
  simp only[V.bZ]at hv;split at hv
  ·rename_i i' hi;simp only[au]at hv;subst hv;simp only[VR,h _ _ hi]
  ·cases hv
 |.bV,v',x,hv=>by simp only[V.bZ,au]at hv;subst hv;simp only[VR]
 |.chan _,v',x,hv=>by
  simp only[V.bZ]at hv;split at hv
  ·rename_i i' hi;simp only[au]at hv;subst hv;simp only[VR,h _ _ hi]
  ·cases hv
 |.func _ a c,v',x,hv=>by
  simp only[V.bZ]at hv;split at hv
  ·rename_i a' c' ha hc;simp only[au]at hv;subst hv
   simp only[VR,fun xs=>bf.bZ h a a' xs ha,fun xs=>bf.bZ h c c' xs hc]
  ·cases hv
 |.yield _,v',x,hv=>by
  simp only[V.bZ]at hv;split at hv
  ·rename_i i' hi;simp only[au]at hv;subst hv;simp only[VR,h _ _ hi]
  ·cases hv
 |.bW,v',x,hv=>by simp only[V.bZ,au]at hv;subst hv;simp only[VR]
 |.iface _ v,v',x,hv=>by
  simp only[V.bZ]at hv;split at hv
  ·rename_i u hu;simp only[au]at hv;subst hv;simp only[VR,fun y=>VR.bZ h v u y hu]
  ·cases hv
 |.bh,v',x,hv=>by simp only[V.bZ,au]at hv;subst hv;simp only[VR]
 |.agg l,v',x,hv=>by
  simp only[V.bZ]at hv;split at hv
  ·rename_i l' hl;simp only[au]at hv;subst hv;simp only[VR,fun xs=>bf.bZ h l l' xs hl]
  ·cases hv
 |.aX l,v',x,hv=>by
  simp only[V.bZ]at hv;split at hv
  ·rename_i l' hl;simp only[au]at hv;subst hv;simp only[VR,fun xs=>bf.bZ h l l' xs hl]
  ·cases hv
def bf.bZ{μ μ':Mu}{ρ:Nat->Option Nat}(h:∀i i',ρ i=some i'->μ i=μ' i'):∀(vs lD:List V) (xs:List Value),V.eF ρ vs=some lD->(bf μ vs xs↔bf μ' lD xs)
 |[],lD,xs,hv=>by simp only[V.eF,au]at hv;subst hv;simp only[bf]
 |v::vs,lD,xs,hv=>by
  simp only[V.eF]at hv;split at hv
  ·rename_i u us hu uI;simp only[au]at hv;subst hv
   simp only[bf,fun y=>VR.bZ h v u y hu,fun ys=>bf.bZ h vs us ys uI]
  ·cases hv
end
def V.gO{ρ:Nat->Option Nat}:∀{vs lD:List V},V.eF ρ vs=some lD->lD.length=vs.length
 |[],lD,h=>by simp only[V.eF,au]at h;subst h;rfl
 |v::vs,lD,h=>by
  simp only[V.eF]at h;split at h
  ·rename_i u us hu uI;simp only[au]at h;subst h;simp[V.gO uI]
  ·cases h
def V.sw{ρ:Nat->Option Nat}:∀{vs lD:List V} {j:Nat} {v':V},V.eF ρ vs=some lD->lD[j]?=some v'->∃v,vs[j]?=some v/\V.bZ ρ v=some v'
 |[],lD,j,v',h,hj=>by simp only[V.eF,au]at h;subst h;simp at hj
 |v::vs,lD,j,v',h,hj=>by
  simp only[V.eF]at h;split at h
  ·rename_i u us hu uI;simp only[au]at h;subst h
   cases j with
   |zero=>simp at hj;subst hj;exact⟨v,by simp,hu⟩
   |succ j=>simpa using V.sw uI (j:=j) (by simpa using hj)
  ·cases h
def V.po{ρ:Nat->Option Nat}:∀{vs lD:List V} {j:Nat} {v:V},V.eF ρ vs=some lD->vs[j]?=some v->∃v',lD[j]?=some v'/\V.bZ ρ v=some v'
 |[],lD,j,v',h,hj=>by simp at hj
 |v::vs,lD,j,v',h,hj=>by
  simp only[V.eF]at h;split at h
  ·rename_i u us hu uI;simp only[au]at h;subst h
   cases j with
   |zero=>simp at hj;subst hj;exact⟨u,by simp,hu⟩
   |succ j=>simpa using V.po uI (j:=j) (by simpa using hj)
  ·cases h
def V.Cr{ρ:Nat->Option Nat}{v v':V}(h:V.bZ ρ v=some v'):v'.LQ=v.LQ:=by
 cases v<;>simp only[V.bZ]at h<;>(try split at h)<;>simp only[au,reduceCtorEq]at h<;>subst h<;>rfl
def OC(ρ:Nat->Option Nat):List (V×V)->Option (List (V×V))
 |[]=>some []
 |(k,v)::es=>match V.bZ ρ k,V.bZ ρ v,OC ρ es with
  |some k,some v,some es=>some ((k,v)::es)
  |_,_,_=>none
def iC.bZ{μ μ':Mu}{ρ:Nat->Option Nat}(h:∀i i',ρ i=some i'->μ i=μ' i'):∀(es es':List (V×V)) (xs:List MapEntry) (i:Nat),OC ρ es=some es'->(iC μ es xs i↔iC μ' es' xs i)
 |[],es',xs,i,he=>by simp only[OC,au]at he;subst he;simp only[iC]
 |(k,v)::es,es',xs,i,he=>by
  simp only[OC]at he;split at he
  ·rename_i k' v' us hk hv uI;simp only[au]at he;subst he
   simp only[iC,fun y=>VR.bZ h k k' y hk,fun y=>VR.bZ h v v' y hv,fun ys i=>iC.bZ h es us ys i uI]
  ·cases he
def O.bZ(ρ:Nat->Option Nat):O->Option O
 |.cells c e rw=>match V.eF ρ c with
  |some c=>some (.cells c e rw)
  |none=>none
 |.map es=>match OC ρ es with
  |some es=>some (.map es)
  |none=>none
 |.chan cap buf=>match V.eF ρ buf with
  |some buf=>some (.chan cap buf)
  |none=>none
 |.eK s pos=>some (.eK s pos)
 |.defs o=>some (.defs o)
 |.loop _=>none
 |.dead=>some .dead
def O.zE{ρ:Nat->Option Nat}{o o':O}(h:o.bZ ρ=some o'):o'.wr=o.wr:=by
 cases o<;>simp only[O.bZ]at h<;>(try split at h)<;>simp only[au,reduceCtorEq]at h<;>subst h<;>rfl
def O.zgM{ρ:Nat->Option Nat}{o o':O}(h:o.bZ ρ=some o'):o'.live=o.live:=by
 cases o<;>simp only[O.bZ]at h<;>(try split at h)<;>simp only[au,reduceCtorEq]at h<;>subst h<;>rfl
def OM.bZ{P:Program}{μ μ':Mu}{w:World}{ρ:Nat->Option Nat}(h:∀i i',ρ i=some i'->μ i=μ' i'){o o':O}{l:L}(ho:o.bZ ρ=some o'):OM P μ w o l↔OM P μ' w o' l:=by
 cases o with
 |cells c e rw=>
  simp only[O.bZ]at ho;split at ho
  ·rename_i c' hc;simp only[au]at ho;subst ho
   constructor
   ·rintro⟨d,lo,hi,h1,h2,h3,h4,h5⟩
    refine⟨d,lo,hi,h1,h2,by rw[V.gO hc];exact h3,fun j v' Jl=>?_,h5⟩
    obtain⟨v,hv,hr⟩:=V.sw hc Jl
    obtain⟨x,hx,Bb⟩:=h4 j v hv
    exact⟨x,hx,(VR.bZ h v v' x hr).1 Bb⟩
   ·rintro⟨d,lo,hi,h1,h2,h3,h4,h5⟩
    refine⟨d,lo,hi,h1,h2,by rw[V.gO hc]at h3;exact h3,fun j v hv=>?_,h5⟩
    obtain⟨v',Jl,hr⟩:=V.po hc hv
    obtain⟨x,hx,Bb⟩:=h4 j v' Jl
    exact⟨x,hx,(VR.bZ h v v' x hr).2 Bb⟩
  ·cases ho
 |map es=>
  simp only[O.bZ]at ho;split at ho
  ·rename_i es' he;simp only[au]at ho;subst ho
   simp only[OM,fun xs i=>iC.bZ h es es' xs i he]
  ·cases ho
 |chan cap buf=>
  simp only[O.bZ]at ho;split at ho
  ·rename_i c' hc;simp only[au]at ho;subst ho
   simp only[OM,fun xs=>bf.bZ h buf c' xs hc]
  ·cases ho
 |eK s pos=>simp only[O.bZ,au]at ho;subst ho;simp only[OM]
 |loop R=>simp only[O.bZ,reduceCtorEq]at ho
 |defs b=>simp only[O.bZ,au]at ho;subst ho;simp only[OM]
 |dead=>simp only[O.bZ,au]at ho;subst ho;simp only[OM]
def D9(ρ:Nat->Option Nat)(o O':O):Prop:=
 o=.dead\/o.bZ ρ=some O'\/∃c e c',o=.cells c e false/\V.eF ρ c=some c'/\O'=.cells c' e true
def D9.om{P:Program}{μ μ':Mu}{w:World}{ρ:Nat->Option Nat}(h:∀i i',ρ i=some i'->μ i=μ' i'){o o':O}{l:L}(ho:D9 ρ o o')(hm:OM P μ' w o' l):OM P μ w o l:=by
 rcases ho with rfl|ho|⟨c,e,c',rfl,hc,rfl⟩
 ·trivial
 ·exact(OM.bZ h ho).2 hm
 ·have h1:(O.cells c e true).bZ ρ=some (.cells c' e true):=by simp only[O.bZ,hc]
  obtain⟨d,lo,hi,q1,q2,q3,q4,q5,_⟩:=(OM.bZ h h1).2 hm
  exact⟨d,lo,hi,q1,q2,q3,q4,q5,fun hx=>by cases hx⟩
def D9.wr{ρ:Nat->Option Nat}{o o':O}(ho:D9 ρ o o')(h:o.wr=true):o'.wr=true/\o.bZ ρ=some o':=by
 rcases ho with rfl|ho|⟨c,e,c',rfl,hc,rfl⟩
 ·simp[O.wr]at h
 ·exact⟨(O.zE ho).trans h,ho⟩
 ·simp[O.wr]at h
def D9.live{ρ:Nat->Option Nat}{o o':O}(ho:D9 ρ o o')(h:o.live=true):o'.live=true:=by
 rcases ho with rfl|ho|⟨c,e,c',rfl,hc,rfl⟩
 ·simp[O.live]at h
 ·exact(O.zgM ho).trans h
 ·rfl
def O.vU{o:O}(h:o.wr=true):o.live=true:=by cases o<;>simp_all [O.wr,O.live]
def Me(P:Program)(g:V)(args:List V)(st:St)(v:V)(st':St):Prop:=
 ∀(μ:Mu) (w:World) (G:Value) (xs:List Value),Za9 P μ w st->VR μ g G->bf μ args xs->
  OA P g.LQ G ⟨xs⟩ w fun x w'=>∃μ' ws,VR μ' v x/\bK P μ w st μ' w' st' ws
def OA.mono{P:Program}{y:Bool}{G:Value}{xs:Array Value}{w:World}{R R':Value->World->Prop}(h:OA P y G xs w R)(hR:∀x w',R x w'->R' x w'):OA P y G xs w R':=by
 obtain⟨d,hd,gK⟩:=h
 refine⟨d,hd,?_⟩
 rcases gK with⟨hy,f,args,hinv,Jk⟩|⟨hy,l,f,tmps,fL,bod,hinv,LZ⟩
 ·refine .inl ⟨hy,f,args,hinv,CallsIn.mono (F:=Fence.wide) Jk fun e w' he=>?_⟩
  cases e with
  |returned x=>exact hR x w' he
  |panicked _=>exact he.elim
  |outgrown=>exact he.elim
 ·refine .inr ⟨hy,l,f,tmps,fL,bod,hinv,RoundIn.mono (F:=Fence.wide) LZ fun e w' he=>?_⟩
  cases e with
  |returned x=>exact hR x w' he
  |panicked _=>exact he.elim
  |outgrown=>exact he.elim
structure Jm (P:Program) (σ ρ:Nat->Option Nat) (W:List Nat) (s s' S S':St):Prop where
 dom:∀i i',σ i=some i'->i<s.n/\i'<S.n
 inj:∀i j i',σ i=some i'->σ j=some i'->i=j
 zgj:∀g,g<P.globals.size->σ g=some g
 obj:∀i i',σ i=some i'->∃o O',s.h.get i=some o/\D9 σ o O'/\(S.h.get i'=some O'\/o=.dead)
 old:∀i,i<s.n->ρ i=σ i
 new:∀i i',s.n<=i->ρ i=some i'->S.n<=i'/\i'<S'.n/\i<s'.n
 Jn:∀i j i',s.n<=i->s.n<=j->ρ i=some i'->ρ j=some i'->i=j
 full:∀i',S.n<=i'->i'<S'.n->∃i,s.n<=i/\ρ i=some i'
 gW:S.n<=S'.n
 w0:s.w=[]
 W1:∀i i',i∈s'.w->σ i=some i'->i'∈W
 W2:∀j,j∈W->∃i,i∈s'.w/\σ i=some j
 wl:S'.w=W++S.w
 ai:∀j,j<S.n->j∉W->S'.h.get j=S.h.get j
 wr:∀i i',i∈s'.w->σ i=some i'->∃o O',s'.h.get i=some o/\S'.h.get i'=some O'/\(O'=.dead\/o.bZ ρ=some O')
 obn:∀i i',s.n<=i->ρ i=some i'->∃o O',s'.h.get i=some o/\S'.h.get i'=some O'/\(O'=.dead\/o.bZ ρ=some O')
section
variable {P:Program} {σ ρ:Nat->Option Nat} {W:List Nat} {s s' S S':St}
def Jm.se(F:Jm P σ ρ W s s' S S'){μ:Mu}{w:World}(hh:Za9 P μ w S):Za9 P (fun i=>(σ i).bind μ) w s:=by
 have hb:∀i l,(σ i).bind μ=some l->∃i',σ i=some i'/\μ i'=some l:=fun i l h=>by
  cases hs:σ i with
  |none=>rw[hs]at h;cases h
  |some i'=>rw[hs]at h;exact⟨i',rfl,h⟩
 refine⟨fun i l hl=>?_,fun i l hl=>?_,fun i j l l' o o' hi hj cv ho vM hw qC=>?_,fun g hg=>?_⟩
 ·obtain⟨i',h1,h2⟩:=hb i l hl
  exact⟨(F.dom i i' h1).1,(hh.dom i' l h2).2⟩
 ·obtain⟨i',h1,h2⟩:=hb i l hl
  obtain⟨o,O',g1,g2,g3⟩:=F.obj i i' h1
  refine⟨o,g1,?_⟩
  rcases g3 with g3|rfl
  ·obtain⟨O2,q1,q2⟩:=hh.obj i' l h2
   rw[g3]at q1;cases q1
   exact D9.om (fun i i' hi=>by simp[hi]) g2 q2
  ·trivial
 ·obtain⟨i',h1,h2⟩:=hb i l hi
  obtain⟨j',h3,h4⟩:=hb j l' hj
  obtain⟨o1,O1,a1,a2,a3⟩:=F.obj i i' h1
  obtain⟨o2,O2,b1,b2,b3⟩:=F.obj j j' h3
  rw[ho]at a1;cases a1
  rw[vM]at b1;cases b1
  have NK:S.h.get i'=some O1:=a3.resolve_right fun e=>by subst e;simp[O.wr]at hw
  have b3':S.h.get j'=some O2:=b3.resolve_right fun e=>by subst e;simp[O.live]at qC
  refine hh.inj i' j' l l' O1 O2 h2 h4 (fun e=>cv ?_) NK b3' (a2.wr hw).1 (b2.live qC)
  subst e;exact F.inj i j i' h1 h3
 ·obtain⟨t,ht⟩:=hh.zgj g hg
  exact⟨t,by simp[F.zgj g hg,ht]⟩
def Jm.stp(F:Jm P σ ρ W s s' S S'){μ:Mu}{w w':World}(hh:Za9 P μ w S){μ':Mu}{ws:List Nat}(h:bK P (fun i=>(σ i).bind μ) w s μ' w' s' ws):
  ∃μ2,bK P μ w S μ2 w' S' W/\∀i i',ρ i=some i'->μ' i=μ2 i':=by
 have pj:s'.w=ws:=by have:=h.wl;rw[F.w0]at this;simpa using this
 have hinv:∃τ:Nat->Nat,∀i',S.n<=i'->i'<S'.n->s.n<=τ i'/\ρ (τ i')=some i':=by
  classical
  refine⟨fun i'=>if hc:∃i,s.n<=i/\ρ i=some i' then hc.choose else 0,fun i' h1 h2=>?_⟩
  have hc:=F.full i' h1 h2
  simp only[dif_pos hc]
  exact hc.choose_spec
 obtain⟨τ,hτ⟩:=hinv
 let μ2:Mu:=fun i'=>if i'<S.n then μ i' else if i'<S'.n then μ' (τ i') else none
 have hold:∀i',i'<S.n->μ2 i'=μ i':=fun i' hi=>by show (if i'<S.n then _ else _)=_;rw[aR hi]
 have zg9:∀i',S.n<=i'->i'<S'.n->μ2 i'=μ' (τ i'):=fun i' h1 h2=>by show (if i'<S.n then _ else _)=_;rw[aA (by omega),aR h2]
 have uJ:∀i' l,μ2 i'=some l->i'<S'.n:=fun i' l hl=>by
  by_cases h1:i'<S.n
  ·exact iL h1 F.gW
  ·by_cases h2:i'<S'.n
   ·exact h2
   ·have:μ2 i'=none:=by show (if i'<S.n then _ else _)=_;rw[aA h1,aA h2]
    rw[this]at hl;cases hl
 have hμs:∀i,i<s.n->μ' i=(σ i).bind μ:=fun i hi=>h.ext i hi
 have hρ:∀i i',ρ i=some i'->μ' i=μ2 i':=fun i i' hi=>by
  by_cases h1:i<s.n
  ·have h2:σ i=some i':=(F.old i h1).symm.trans hi
   rw[hμs i h1,h2,hold i' (F.dom i i' h2).2];rfl
  ·obtain⟨g1,g2,_⟩:=F.new i i' (by omega) hi
   obtain⟨k1,k2⟩:=hτ i' g1 g2
   rw[zg9 i' g1 g2,F.Jn i (τ i') i' (by omega) k1 hi k2]
 have zG:∀j,j∈W->∃i,i∈ws/\σ i=some j/\i<s.n/\j<S.n:=fun j hj=>by
  obtain⟨i,h1,h2⟩:=F.W2 j hj
  exact⟨i,pj▸h1,h2,F.dom i j h2⟩
 have xo:∀i i',i∈ws->σ i=some i'->∃O',S.h.get i'=some O'/\O'.wr=true:=fun i i' hi hs=>by
  obtain⟨o,ho,hw⟩:=h.xQ i hi (F.dom i i' hs).1
  obtain⟨o1,O1,a1,a2,a3⟩:=F.obj i i' hs
  rw[ho]at a1;cases a1
  exact⟨O1,a3.resolve_right fun e=>by subst e;simp[O.wr]at hw,(a2.wr hw).1⟩
 have zgG:∀j l,j<S.n->j∉W->μ j=some l->∀O',S.h.get j=some O'->O'.live=true->w'.heap[l.b]?=w.heap[l.b]?:=fun j l hj Tz hl O' hO qC=>by
  refine h.eC.block l.b (hh.dom j l hl).2 fun i hi li hli=>?_
  cases hs:σ i with
  |none=>simp[hs]at hli
  |some i'=>
   simp only[hs,Option.bind_some]at hli
   obtain⟨O1,q1,q2⟩:=xo i i' hi hs
   refine hh.inj i' j li l O1 O' hli hl (fun e=>Tz ?_) q1 hO q2 qC
   subst e;exact F.W1 i i' (pj▸hi) hs
 have Jo:∀i i' l,ρ i=some i'->μ2 i'=some l->(s.n<=i\/i∈ws)->∃o O',s'.h.get i=some o/\S'.h.get i'=some O'/\(O'=.dead\/o.bZ ρ=some O')/\OM P μ2 w' O' l:=fun i i' l hi hl hc=>by
  have key:∃o O',s'.h.get i=some o/\S'.h.get i'=some O'/\(O'=.dead\/o.bZ ρ=some O'):=by
   by_cases h1:i<s.n
   ·rcases hc with hc|hc
    ·omega
    ·exact F.wr i i' (pj▸hc) ((F.old i h1).symm.trans hi)
   ·exact F.obn i i' (by omega) hi
  obtain⟨o,O',g1,g2,g3⟩:=key
  refine⟨o,O',g1,g2,g3,?_⟩
  rcases g3 with rfl|g3
  ·trivial
  ·obtain⟨o2,q1,q2⟩:=h.hr.obj i l ((hρ i i' hi).trans hl)
   rw[g1]at q1;cases q1
   exact(OM.bZ hρ g3).1 q2
 have sC:∀i' l,μ2 i'=some l->(i'<S.n/\i'∉W/\μ i'=some l/\S'.h.get i'=S.h.get i')\/∃i,ρ i=some i'/\μ' i=some l/\(s.n<=i\/i∈ws):=fun i' l hl=>by
  by_cases h1:i'<S.n
  ·by_cases h2:i'∈W
   ·obtain⟨i,q1,q2,q3,_⟩:=zG i' h2
    have hr:ρ i=some i':=(F.old i q3).trans q2
    exact .inr ⟨i,hr,(hρ i i' hr).trans hl,.inr q1⟩
   ·exact .inl ⟨h1,h2,(hold i' h1)▸hl,F.ai i' h1 h2⟩
  ·have h2:=uJ i' l hl
   obtain⟨k1,k2⟩:=hτ i' (by omega) h2
   exact .inr ⟨τ i',k2,(hρ _ _ k2).trans hl,.inl k1⟩
 have zH:∀i' l O',i'<S.n->i'∉W->μ i'=some l->S.h.get i'=some O'->O'.live=true->∀k k' lk,ρ k=some k'->μ' k=some lk->(s.n<=k\/k∈ws)->(O'.wr=true\/∃o,s'.h.get k=some o/\o.wr=true)->l.b≠lk.b:=by
  intro i' l O' hi Tz hl hO qC k k' lk hk fN hc Mf
  by_cases h1:k<s.n
  ·have hkw:k∈ws:=hc.resolve_left (by omega)
   have hs:σ k=some k':=(F.old k h1).symm.trans hk
   obtain⟨O1,q1,q2⟩:=xo k k' hkw hs
   have jZ:μ k'=some lk:=by rw[hμs k h1,hs]at fN;exact fN
   have cv:k'≠i':=fun e=>Tz (e▸F.W1 k k' (pj▸hkw) hs)
   exact(hh.inj k' i' lk l O1 O' jZ hl cv q1 hO q2 qC).symm
  ·rcases h.new k lk (by omega) fN with oB|⟨j,hj,Iy,lj,oj,tm,hb,Iz,hjw⟩
   ·have:=(hh.dom i' l hl).2;omega
   ·cases hs:σ j with
    |none=>simp[hs]at tm
    |some j'=>
     simp only[hs,Option.bind_some]at tm
     obtain⟨O1,q1,q2⟩:=xo j j' hj hs
     have cv:j'≠i':=fun e=>Tz (e▸F.W1 j j' (pj▸hj) hs)
     rw[<-hb]
     exact(hh.inj j' i' lj l O1 O' tm hl cv q1 hO q2 qC).symm
 refine⟨μ2,⟨⟨fun i' l hl=>⟨uJ i' l hl,?_⟩,fun i' l hl=>?_,fun i' j' l l' O1 O2 hi hj cv TA vV hw qC=>?_,fun g hg=>?_⟩,hold,F.gW,F.wl,⟨h.eC.os,h.eC.tape,h.eC.output,h.eC.size,fun b hb dC=>?_⟩,fun i' l gZ hl=>?_,F.ai,fun i' O' gZ hO=>?_,fun i' h1 h2=>?_,fun i' gZ _=>?_⟩,hρ⟩
 ·rcases sC i' l hl with⟨_,_,g,_⟩|⟨i,_,g,_⟩
  ·exact iL (hh.dom i' l g).2 h.eC.size
  ·exact(h.hr.dom i l g).2
 ·rcases sC i' l hl with⟨g1,g2,g3,g4⟩|⟨i,g1,g2,g3⟩
  ·obtain⟨O',q1,q2⟩:=hh.obj i' l g3
   refine⟨O',g4.trans q1,?_⟩
   cases qC:O'.live with
   |false=>cases O'<;>simp[O.live]at qC;trivial
   |true=>
    refine OM.congr (w:=w) (zgG i' l g1 g2 g3 O' q1 qC) (q2.mono fun k lk hk=>?_)
    rw[hold k (hh.dom k lk hk).1];exact hk
  ·obtain⟨o,O',q1,q2,q3,q4⟩:=Jo i i' l g1 hl g3
   exact⟨O',q2,q4⟩
 ·rcases sC i' l hi with⟨a1,a2,a3,a4⟩|⟨i,a1,a2,a3⟩
  ·rw[a4]at TA
   rcases sC j' l' hj with⟨b1,b2,b3,b4⟩|⟨j,b1,b2,b3⟩
   ·rw[b4]at vV
    exact hh.inj i' j' l l' O1 O2 a3 b3 cv TA vV hw qC
   ·exact zH i' l O1 a1 a2 a3 TA (O.vU hw) j j' l' b1 b2 b3 (.inl hw)
  ·obtain⟨o1,O1',q1,q2,q3,_⟩:=Jo i i' l a1 hi a3
   rw[TA]at q2;cases q2
   have TC:o1.bZ ρ=some O1:=q3.resolve_left fun e=>by subst e;simp[O.wr]at hw
   have S9:o1.wr=true:=(O.zE TC).symm.trans hw
   rcases sC j' l' hj with⟨b1,b2,b3,b4⟩|⟨j,b1,b2,b3⟩
   ·rw[b4]at vV
    exact(zH j' l' O2 b1 b2 b3 vV qC i i' l a1 a2 a3 (.inr ⟨o1,q1,S9⟩)).symm
   ·obtain⟨o2,O2',r1,r2,r3,_⟩:=Jo j j' l' b1 hj b3
    rw[vV]at r2;cases r2
    have r3':o2.bZ ρ=some O2:=r3.resolve_left fun e=>by subst e;simp[O.live]at qC
    refine h.hr.inj i j l l' o1 o2 a2 b2 (fun e=>cv ?_) q1 r1 S9 ((O.zgM r3').symm.trans qC)
    subst e;rw[a1]at b1;cases b1;rfl
 ·obtain⟨t,ht⟩:=hh.zgj g hg
  exact⟨t,by rw[hold g (hh.dom g _ ht).1];exact ht⟩
 ·refine h.eC.block b hb fun i hi l hl=>?_
  cases hs:σ i with
  |none=>simp[hs]at hl
  |some i'=>
   simp only[hs,Option.bind_some]at hl
   exact dC i' (F.W1 i i' (pj▸hi) hs) l hl
 ·have h2:=uJ i' l hl
  obtain⟨k1,k2⟩:=hτ i' gZ h2
  rcases h.new (τ i') l k1 ((hρ _ _ k2).trans hl)with oB|⟨j,hj,Iy,lj,oj,tm,hb,Iz,hjw⟩
  ·exact .inl oB
  ·cases hs:σ j with
   |none=>simp[hs]at tm
   |some j'=>
    simp only[hs,Option.bind_some]at tm
    obtain⟨O1,q1,q2⟩:=xo j j' hj hs
    exact .inr ⟨j',F.W1 j j' (pj▸hj) hs,(F.dom j j' hs).2,lj,O1,tm,hb,q1,q2⟩
 ·by_cases hW:i'∈W
  ·obtain⟨i,q1,q2,q3,q4⟩:=zG i' hW
   obtain⟨O1,r1,r2⟩:=xo i i' q1 q2
   exact⟨O1,r1,fun _=>r2,fun _=>O.vU r2⟩
  ·exact⟨O',(F.ai i' gZ hW).symm.trans hO,id,id⟩
 ·obtain⟨k1,k2⟩:=hτ i' h1 h2
  obtain⟨l,hl⟩:=h.full (τ i') k1 (F.new _ _ k1 k2).2.2
  exact⟨l,(zg9 i' h1 h2).trans hl⟩
 ·obtain⟨i,q1,q2,_⟩:=zG i' gZ
  exact xo i i' q1 q2
def Me.frame{g v:V}{args:List V}(h:Me P g args s v s')(F:Jm P σ ρ W s s' S S'){g' v':V}{zJ:List V}(hg:V.bZ σ g=some g')(ha:V.eF σ args=some zJ)(hv:V.bZ ρ v=some v'):
  Me P g' zJ S v' S':=by
 intro μ w G xs hh hG pr
 have hσ:∀i i',σ i=some i'->(fun i=>(σ i).bind μ) i=μ i':=fun i i' hi=>by simp[hi]
 have:=h (fun i=>(σ i).bind μ) w G xs (F.se hh) ((VR.bZ hσ g g' G hg).2 hG) ((bf.bZ hσ args zJ xs ha).2 pr)
 rw[V.Cr hg]
 refine this.mono fun x w' ⟨μ',ws,h1,h2⟩=>?_
 obtain⟨μ2,k1,k2⟩:=F.stp hh h2
 exact⟨μ2,W,(VR.bZ k2 v v' x hv).1 h1,k1⟩
end
def rZ(a b:cP):cP:=fun g args st=>match a g args st with
 |some r=>some r
 |none=>b g args st
def i_.or{P:Program}{a b:cP}(ha:i_ P a)(hb:i_ P b):i_ P (rZ a b):=by
 intro g args st v st' h
 unfold rZ at h
 split at h
 ·rename_i r hr
  cases h
  exact ha g args st v st' hr
 ·exact hb g args st v st' h
end Go.Mx
