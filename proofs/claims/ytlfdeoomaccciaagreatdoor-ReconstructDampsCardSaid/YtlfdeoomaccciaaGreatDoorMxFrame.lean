/-The frame of a call-/
import Derived.Test.YtlfdeoomaccciaaGreatDoorMxOps
set_option linter.all false
namespace Go.Mx
open Go
mutual
def V.bV(ρ:Nat->Option Nat):V->Option V
 |.bool b=>some (.bool b)
 |.int k n=>some (.int k n)
 |.vi k n=>some (.vi k n)
 |.str s=>some (.str s)
 |.bF=>some .bF
 |.ptr i o=>match ρ i with
  |some i=>some (.ptr i o)
  |none=>none
 |.aa=>some .aa
 |.slice i o len cap sz=>match ρ i with
  |some i=>some (.slice i o len cap sz)
  |none=>none
 |.empty=>some .empty
 |.bN=>some .bN
 |.map i=>match ρ i with
  |some i=>some (.map i)
  |none=>none
 |.bP=>some .bP
 |.chan i=>match ρ i with
  |some i=>some (.chan i)
  |none=>none
 |.func f a c=>match V.eh ρ a,V.eh ρ c with
  |some a,some c=>some (.func f a c)
  |_,_=>none
 |.yield i=>match ρ i with
  |some i=>some (.yield i)
  |none=>none
 |.bQ=>some .bQ
 |.iface t v=>match V.bV ρ v with
  |some v=>some (.iface t v)
  |none=>none
 |.aY=>some .aY
 |.agg l=>match V.eh ρ l with
  |some l=>some (.agg l)
  |none=>none
 |.aV l=>match V.eh ρ l with
  |some l=>some (.aV l)
  |none=>none
def V.eh(ρ:Nat->Option Nat):List V->Option (List V)
 |[]=>some []
 |v::vs=>match V.bV ρ v,V.eh ρ vs with
  |some v,some vs=>some (v::vs)
  |_,_=>none
end
mutual
def VR.bV{μ μ':Mu}{ρ:Nat->Option Nat}(h:∀i i',ρ i=some i'->μ i=μ' i'):∀(v v':V) (x:Value),V.bV ρ v=some v'->(VR μ v x↔VR μ' v' x)
 |.bool _,v',x,hv=>by simp only[V.bV,aq]at hv;subst hv;simp only[VR]
 |.int _ _,v',x,hv=>by simp only[V.bV,aq]at hv;subst hv;simp only[VR]
 |.vi _ _,v',x,hv=>by simp only[V.bV,aq]at hv;subst hv;simp only[VR]
 |.str _,v',x,hv=>by simp only[V.bV,aq]at hv;subst hv;simp only[VR]
 |.bF,v',x,hv=>by simp only[V.bV,aq]at hv;subst hv;simp only[VR]
 |.ptr _ _,v',x,hv=>by
  simp only[V.bV]at hv;split at hv
  ·rename_i i' hi;simp only[aq]at hv;subst hv;simp only[VR,h _ _ hi]
  ·cases hv
 |.aa,v',x,hv=>by simp only[V.bV,aq]at hv;subst hv;simp only[VR]
 |.slice _ _ _ _ _,v',x,hv=>by
  simp only[V.bV]at hv;split at hv
  ·rename_i i' hi;simp only[aq]at hv;subst hv;simp only[VR,h _ _ hi]
  ·cases hv
 |.empty,v',x,hv=>by simp only[V.bV,aq]at hv;subst hv;simp only[VR]
 |.bN,v',x,hv=>by simp only[V.bV,aq]at hv;subst hv;simp only[VR]
 |.map _,v',x,hv=>by
  simp only[V.bV]at hv;split at hv
  ·rename_i i' hi;simp only[aq]at hv;subst hv;simp only[VR,h _ _ hi]
  ·cases hv
 |.bP,v',x,hv=>by simp only[V.bV,aq]at hv;subst hv;simp only[VR]
 |.chan _,v',x,hv=>by
  simp only[V.bV]at hv;split at hv
  ·rename_i i' hi;simp only[aq]at hv;subst hv;simp only[VR,h _ _ hi]
  ·cases hv
 |.func _ a c,v',x,hv=>by
  simp only[V.bV]at hv;split at hv
  ·rename_i a' c' ha hc;simp only[aq]at hv;subst hv
   simp only[VR,fun xs=>aS.bV h a a' xs ha,fun xs=>aS.bV h c c' xs hc]
  ·cases hv
 |.yield _,v',x,hv=>by
  simp only[V.bV]at hv;split at hv
  ·rename_i i' hi;simp only[aq]at hv;subst hv;simp only[VR,h _ _ hi]
  ·cases hv
 |.bQ,v',x,hv=>by simp only[V.bV,aq]at hv;subst hv;simp only[VR]
 |.iface _ v,v',x,hv=>by
  simp only[V.bV]at hv;split at hv
  ·rename_i u hu;simp only[aq]at hv;subst hv;simp only[VR,fun y=>VR.bV h v u y hu]
  ·cases hv
 |.aY,v',x,hv=>by simp only[V.bV,aq]at hv;subst hv;simp only[VR]
 |.agg l,v',x,hv=>by
  simp only[V.bV]at hv;split at hv
  ·rename_i l' hl;simp only[aq]at hv;subst hv;simp only[VR,fun xs=>aS.bV h l l' xs hl]
  ·cases hv
 |.aV l,v',x,hv=>by
  simp only[V.bV]at hv;split at hv
  ·rename_i l' hl;simp only[aq]at hv;subst hv;simp only[VR,fun xs=>aS.bV h l l' xs hl]
  ·cases hv
def aS.bV{μ μ':Mu}{ρ:Nat->Option Nat}(h:∀i i',ρ i=some i'->μ i=μ' i'):∀(vs kQ:List V) (xs:List Value),V.eh ρ vs=some kQ->(aS μ vs xs↔aS μ' kQ xs)
 |[],kQ,xs,hv=>by simp only[V.eh,aq]at hv;subst hv;simp only[aS]
 |v::vs,kQ,xs,hv=>by
  simp only[V.eh]at hv;split at hv
  ·rename_i u us hu tj;simp only[aq]at hv;subst hv
   simp only[aS,fun y=>VR.bV h v u y hu,fun ys=>aS.bV h vs us ys tj]
  ·cases hv
end
def V.ig{ρ:Nat->Option Nat}:∀{vs kQ:List V},V.eh ρ vs=some kQ->kQ.length=vs.length
 |[],kQ,h=>by simp only[V.eh,aq]at h;subst h;rfl
 |v::vs,kQ,h=>by
  simp only[V.eh]at h;split at h
  ·rename_i u us hu tj;simp only[aq]at h;subst h;simp[V.ig tj]
  ·cases h
def V.tD{ρ:Nat->Option Nat}:∀{vs kQ:List V} {j:Nat} {v':V},V.eh ρ vs=some kQ->kQ[j]?=some v'->∃v,vs[j]?=some v/\V.bV ρ v=some v'
 |[],kQ,j,v',h,hj=>by simp only[V.eh,aq]at h;subst h;simp at hj
 |v::vs,kQ,j,v',h,hj=>by
  simp only[V.eh]at h;split at h
  ·rename_i u us hu tj;simp only[aq]at h;subst h
   cases j with
   |zero=>simp at hj;subst hj;exact⟨v,by simp,hu⟩
   |succ j=>simpa using V.tD tj (j:=j) (by simpa using hj)
  ·cases h
def V.qh{ρ:Nat->Option Nat}:∀{vs kQ:List V} {j:Nat} {v:V},V.eh ρ vs=some kQ->vs[j]?=some v->∃v',kQ[j]?=some v'/\V.bV ρ v=some v'
 |[],kQ,j,v',h,hj=>by simp at hj
 |v::vs,kQ,j,v',h,hj=>by
  simp only[V.eh]at h;split at h
  ·rename_i u us hu tj;simp only[aq]at h;subst h
   cases j with
   |zero=>simp at hj;subst hj;exact⟨u,by simp,hu⟩
   |succ j=>simpa using V.qh tj (j:=j) (by simpa using hj)
  ·cases h
def V.CQ{ρ:Nat->Option Nat}{v v':V}(h:V.bV ρ v=some v'):v'.GL=v.GL:=by
 cases v<;>simp only[V.bV]at h<;>(try split at h)<;>simp only[aq,reduceCtorEq]at h<;>subst h<;>rfl
def Lo(ρ:Nat->Option Nat):List (V×V)->Option (List (V×V))
 |[]=>some []
 |(k,v)::es=>match V.bV ρ k,V.bV ρ v,Lo ρ es with
  |some k,some v,some es=>some ((k,v)::es)
  |_,_,_=>none
def iP.bV{μ μ':Mu}{ρ:Nat->Option Nat}(h:∀i i',ρ i=some i'->μ i=μ' i'):∀(es gZ:List (V×V)) (xs:List MapEntry) (i:Nat),Lo ρ es=some gZ->(iP μ es xs i↔iP μ' gZ xs i)
 |[],gZ,xs,i,he=>by simp only[Lo,aq]at he;subst he;simp only[iP]
 |(k,v)::es,gZ,xs,i,he=>by
  simp only[Lo]at he;split at he
  ·rename_i k' v' us hk hv tj;simp only[aq]at he;subst he
   simp only[iP,fun y=>VR.bV h k k' y hk,fun y=>VR.bV h v v' y hv,fun ys i=>iP.bV h es us ys i tj]
  ·cases he
def O.bV(ρ:Nat->Option Nat):O->Option O
 |.cells c e rw=>match V.eh ρ c with
  |some c=>some (.cells c e rw)
  |none=>none
 |.map es=>match Lo ρ es with
  |some es=>some (.map es)
  |none=>none
 |.chan cap buf=>match V.eh ρ buf with
  |some buf=>some (.chan cap buf)
  |none=>none
 |.eC s pos=>some (.eC s pos)
 |.defs o=>some (.defs o)
 |.loop _=>none
 |.dead=>some .dead
def O.Ap{ρ:Nat->Option Nat}{o o':O}(h:o.bV ρ=some o'):o'.wr=o.wr:=by
 cases o<;>simp only[O.bV]at h<;>(try split at h)<;>simp only[aq,reduceCtorEq]at h<;>subst h<;>rfl
def O.tE{ρ:Nat->Option Nat}{o o':O}(h:o.bV ρ=some o'):o'.live=o.live:=by
 cases o<;>simp only[O.bV]at h<;>(try split at h)<;>simp only[aq,reduceCtorEq]at h<;>subst h<;>rfl
def OM.bV{P:Program}{μ μ':Mu}{w:World}{ρ:Nat->Option Nat}(h:∀i i',ρ i=some i'->μ i=μ' i'){o o':O}{l:L}(ho:o.bV ρ=some o'):OM P μ w o l↔OM P μ' w o' l:=by
 cases o with
 |cells c e rw=>
  simp only[O.bV]at ho;split at ho
  ·rename_i c' hc;simp only[aq]at ho;subst ho
   constructor
   ·rintro⟨d,lo,hi,h1,h2,h3,h4,h5⟩
    refine⟨d,lo,hi,h1,h2,by rw[V.ig hc];exact h3,fun j v' F0=>?_,h5⟩
    obtain⟨v,hv,hr⟩:=V.tD hc F0
    obtain⟨x,hx,BC⟩:=h4 j v hv
    exact⟨x,hx,(VR.bV h v v' x hr).1 BC⟩
   ·rintro⟨d,lo,hi,h1,h2,h3,h4,h5⟩
    refine⟨d,lo,hi,h1,h2,by rw[V.ig hc]at h3;exact h3,fun j v hv=>?_,h5⟩
    obtain⟨v',F0,hr⟩:=V.qh hc hv
    obtain⟨x,hx,BC⟩:=h4 j v' F0
    exact⟨x,hx,(VR.bV h v v' x hr).2 BC⟩
  ·cases ho
 |map es=>
  simp only[O.bV]at ho;split at ho
  ·rename_i gZ he;simp only[aq]at ho;subst ho
   simp only[OM,fun xs i=>iP.bV h es gZ xs i he]
  ·cases ho
 |chan cap buf=>
  simp only[O.bV]at ho;split at ho
  ·rename_i c' hc;simp only[aq]at ho;subst ho
   simp only[OM,fun xs=>aS.bV h buf c' xs hc]
  ·cases ho
 |eC s pos=>simp only[O.bV,aq]at ho;subst ho;simp only[OM]
 |loop R=>simp only[O.bV,reduceCtorEq]at ho
 |defs b=>simp only[O.bV,aq]at ho;subst ho;simp only[OM]
 |dead=>simp only[O.bV,aq]at ho;subst ho;simp only[OM]
def Ey(ρ:Nat->Option Nat)(o O':O):Prop:=
 o=.dead\/o.bV ρ=some O'\/∃c e c',o=.cells c e false/\V.eh ρ c=some c'/\O'=.cells c' e true
def Ey.om{P:Program}{μ μ':Mu}{w:World}{ρ:Nat->Option Nat}(h:∀i i',ρ i=some i'->μ i=μ' i'){o o':O}{l:L}(ho:Ey ρ o o')(hm:OM P μ' w o' l):OM P μ w o l:=by
 rcases ho with rfl|ho|⟨c,e,c',rfl,hc,rfl⟩
 ·trivial
 ·exact(OM.bV h ho).2 hm
 ·have h1:(O.cells c e true).bV ρ=some (.cells c' e true):=by simp only[O.bV,hc]
  obtain⟨d,lo,hi,q1,q2,q3,q4,q5,_⟩:=(OM.bV h h1).2 hm
  exact⟨d,lo,hi,q1,q2,q3,q4,q5,fun hx=>by cases hx⟩
def Ey.wr{ρ:Nat->Option Nat}{o o':O}(ho:Ey ρ o o')(h:o.wr=true):o'.wr=true/\o.bV ρ=some o':=by
 rcases ho with rfl|ho|⟨c,e,c',rfl,hc,rfl⟩
 ·simp[O.wr]at h
 ·exact⟨(O.Ap ho).trans h,ho⟩
 ·simp[O.wr]at h
def Ey.live{ρ:Nat->Option Nat}{o o':O}(ho:Ey ρ o o')(h:o.live=true):o'.live=true:=by
 rcases ho with rfl|ho|⟨c,e,c',rfl,hc,rfl⟩
 ·simp[O.live]at h
 ·exact(O.tE ho).trans h
 ·rfl
def O.xr{o:O}(h:o.wr=true):o.live=true:=by cases o<;>simp_all [O.wr,O.live]
def JB(P:Program)(g:V)(args:List V)(st:St)(v:V)(az:St):Prop:=
 ∀(μ:Mu) (w:World) (G:Value) (xs:List Value),bm P μ w st->VR μ g G->aS μ args xs->
  Lp P g.GL G ⟨xs⟩ w fun x w'=>∃μ' ws,VR μ' v x/\bH P μ w st μ' w' az ws
def Lp.mono{P:Program}{y:Bool}{G:Value}{xs:Array Value}{w:World}{R R':Value->World->Prop}(h:Lp P y G xs w R)(hR:∀x w',R x w'->R' x w'):Lp P y G xs w R':=by
 obtain⟨d,hd,ij⟩:=h
 refine⟨d,hd,?_⟩
 rcases ij with⟨hy,f,args,hinv,GX⟩|⟨hy,l,f,tmps,fM,fN,hinv,JC⟩
 ·refine .inl ⟨hy,f,args,hinv,CallsIn.mono (F:=Fence.wide) GX fun e w' he=>?_⟩
  cases e with
  |returned x=>exact hR x w' he
  |panicked _=>exact he.elim
  |outgrown=>exact he.elim
 ·refine .inr ⟨hy,l,f,tmps,fM,fN,hinv,RoundIn.mono (F:=Fence.wide) JC fun e w' he=>?_⟩
  cases e with
  |returned x=>exact hR x w' he
  |panicked _=>exact he.elim
  |outgrown=>exact he.elim
structure GY (P:Program) (σ ρ:Nat->Option Nat) (W:List Nat) (s s' S S':St):Prop where
 c_:∀i i',σ i=some i'->i<s.n/\i'<S.n
 inj:∀i j i',σ i=some i'->σ j=some i'->i=j
 gU:∀g,g<P.globals.size->σ g=some g
 obj:∀i i',σ i=some i'->∃o O',s.h.get i=some o/\Ey σ o O'/\(S.h.get i'=some O'\/o=.dead)
 old:∀i,i<s.n->ρ i=σ i
 new:∀i i',s.n<=i->ρ i=some i'->S.n<=i'/\i'<S'.n/\i<s'.n
 GZ:∀i j i',s.n<=i->s.n<=j->ρ i=some i'->ρ j=some i'->i=j
 full:∀i',S.n<=i'->i'<S'.n->∃i,s.n<=i/\ρ i=some i'
 fh:S.n<=S'.n
 w0:s.w=[]
 W1:∀i i',i∈s'.w->σ i=some i'->i'∈W
 W2:∀j,j∈W->∃i,i∈s'.w/\σ i=some j
 wl:S'.w=W++S.w
 ae:∀j,j<S.n->j∉W->S'.h.get j=S.h.get j
 wr:∀i i',i∈s'.w->σ i=some i'->∃o O',s'.h.get i=some o/\S'.h.get i'=some O'/\(O'=.dead\/o.bV ρ=some O')
 WJ:∀i i',s.n<=i->ρ i=some i'->∃o O',s'.h.get i=some o/\S'.h.get i'=some O'/\(O'=.dead\/o.bV ρ=some O')
section
variable {P:Program} {σ ρ:Nat->Option Nat} {W:List Nat} {s s' S S':St}
def GY.tC(F:GY P σ ρ W s s' S S'){μ:Mu}{w:World}(hh:bm P μ w S):bm P (fun i=>(σ i).bind μ) w s:=by
 have hb:∀i l,(σ i).bind μ=some l->∃i',σ i=some i'/\μ i'=some l:=fun i l h=>by
  cases hs:σ i with
  |none=>rw[hs]at h;cases h
  |some i'=>rw[hs]at h;exact⟨i',rfl,h⟩
 refine⟨fun i l hl=>?_,fun i l hl=>?_,fun i j l l' o o' hi hj aW ho wY hw n9=>?_,fun g hg=>?_⟩
 ·obtain⟨i',h1,h2⟩:=hb i l hl
  exact⟨(F.c_ i i' h1).1,(hh.c_ i' l h2).2⟩
 ·obtain⟨i',h1,h2⟩:=hb i l hl
  obtain⟨o,O',g1,g2,g3⟩:=F.obj i i' h1
  refine⟨o,g1,?_⟩
  rcases g3 with g3|rfl
  ·obtain⟨O2,q1,q2⟩:=hh.obj i' l h2
   rw[g3]at q1;cases q1
   exact Ey.om (fun i i' hi=>by simp[hi]) g2 q2
  ·trivial
 ·obtain⟨i',h1,h2⟩:=hb i l hi
  obtain⟨j',h3,h4⟩:=hb j l' hj
  obtain⟨o1,O1,a1,a2,a3⟩:=F.obj i i' h1
  obtain⟨o2,O2,b1,b2,b3⟩:=F.obj j j' h3
  rw[ho]at a1;cases a1
  rw[wY]at b1;cases b1
  have a3':S.h.get i'=some O1:=a3.resolve_right fun e=>by subst e;simp[O.wr]at hw
  have b3':S.h.get j'=some O2:=b3.resolve_right fun e=>by subst e;simp[O.live]at n9
  refine hh.inj i' j' l l' O1 O2 h2 h4 (fun e=>aW ?_) a3' b3' (a2.wr hw).1 (b2.live n9)
  subst e;exact F.inj i j i' h1 h3
 ·obtain⟨t,ht⟩:=hh.gU g hg
  exact⟨t,by simp[F.gU g hg,ht]⟩
def GY.stp(F:GY P σ ρ W s s' S S'){μ:Mu}{w w':World}(hh:bm P μ w S){μ':Mu}{ws:List Nat}(h:bH P (fun i=>(σ i).bind μ) w s μ' w' s' ws):
  ∃μ2,bH P μ w S μ2 w' S' W/\∀i i',ρ i=some i'->μ' i=μ2 i':=by
 have pT:s'.w=ws:=by have:=h.wl;rw[F.w0]at this;simpa using this
 have hinv:∃τ:Nat->Nat,∀i',S.n<=i'->i'<S'.n->s.n<=τ i'/\ρ (τ i')=some i':=by
  classical
  refine⟨fun i'=>if hc:∃i,s.n<=i/\ρ i=some i' then hc.choose else 0,fun i' h1 h2=>?_⟩
  have hc:=F.full i' h1 h2
  simp only[dif_pos hc]
  exact hc.choose_spec
 obtain⟨τ,hτ⟩:=hinv
 let μ2:Mu:=fun i'=>if i'<S.n then μ i' else if i'<S'.n then μ' (τ i') else none
 have hold:∀i',i'<S.n->μ2 i'=μ i':=fun i' hi=>by show (if i'<S.n then _ else _)=_;rw[ay hi]
 have qK:∀i',S.n<=i'->i'<S'.n->μ2 i'=μ' (τ i'):=fun i' h1 h2=>by show (if i'<S.n then _ else _)=_;rw[ak (by omega),ay h2]
 have cJ:∀i' l,μ2 i'=some l->i'<S'.n:=fun i' l hl=>by
  by_cases h1:i'<S.n
  ·exact eY h1 F.fh
  ·by_cases h2:i'<S'.n
   ·exact h2
   ·have:μ2 i'=none:=by show (if i'<S.n then _ else _)=_;rw[ak h1,ak h2]
    rw[this]at hl;cases hl
 have hμs:∀i,i<s.n->μ' i=(σ i).bind μ:=fun i hi=>h.ext i hi
 have hρ:∀i i',ρ i=some i'->μ' i=μ2 i':=fun i i' hi=>by
  by_cases h1:i<s.n
  ·have h2:σ i=some i':=(F.old i h1).symm.trans hi
   rw[hμs i h1,h2,hold i' (F.c_ i i' h2).2];rfl
  ·obtain⟨g1,g2,_⟩:=F.new i i' (by omega) hi
   obtain⟨k1,k2⟩:=hτ i' g1 g2
   rw[qK i' g1 g2,F.GZ i (τ i') i' (by omega) k1 hi k2]
 have Aq:∀j,j∈W->∃i,i∈ws/\σ i=some j/\i<s.n/\j<S.n:=fun j hj=>by
  obtain⟨i,h1,h2⟩:=F.W2 j hj
  exact⟨i,pT▸h1,h2,F.c_ i j h2⟩
 have yt:∀i i',i∈ws->σ i=some i'->∃O',S.h.get i'=some O'/\O'.wr=true:=fun i i' hi hs=>by
  obtain⟨o,ho,hw⟩:=h.yX i hi (F.c_ i i' hs).1
  obtain⟨o1,O1,a1,a2,a3⟩:=F.obj i i' hs
  rw[ho]at a1;cases a1
  exact⟨O1,a3.resolve_right fun e=>by subst e;simp[O.wr]at hw,(a2.wr hw).1⟩
 have qZ:∀j l,j<S.n->j∉W->μ j=some l->∀O',S.h.get j=some O'->O'.live=true->w'.heap[l.b]?=w.heap[l.b]?:=fun j l hj Qr hl O' hO n9=>by
  refine h.ed.block l.b (hh.c_ j l hl).2 fun i hi li P0=>?_
  cases hs:σ i with
  |none=>simp[hs]at P0
  |some i'=>
   simp only[hs,Option.bind_some]at P0
   obtain⟨O1,q1,q2⟩:=yt i i' hi hs
   refine hh.inj i' j li l O1 O' P0 hl (fun e=>Qr ?_) q1 hO q2 n9
   subst e;exact F.W1 i i' (pT▸hi) hs
 have G5:∀i i' l,ρ i=some i'->μ2 i'=some l->(s.n<=i\/i∈ws)->∃o O',s'.h.get i=some o/\S'.h.get i'=some O'/\(O'=.dead\/o.bV ρ=some O')/\OM P μ2 w' O' l:=fun i i' l hi hl hc=>by
  have key:∃o O',s'.h.get i=some o/\S'.h.get i'=some O'/\(O'=.dead\/o.bV ρ=some O'):=by
   by_cases h1:i<s.n
   ·rcases hc with hc|hc
    ·omega
    ·exact F.wr i i' (pT▸hc) ((F.old i h1).symm.trans hi)
   ·exact F.WJ i i' (by omega) hi
  obtain⟨o,O',g1,g2,g3⟩:=key
  refine⟨o,O',g1,g2,g3,?_⟩
  rcases g3 with rfl|g3
  ·trivial
  ·obtain⟨o2,q1,q2⟩:=h.hr.obj i l ((hρ i i' hi).trans hl)
   rw[g1]at q1;cases q1
   exact(OM.bV hρ g3).1 q2
 have tF:∀i' l,μ2 i'=some l->(i'<S.n/\i'∉W/\μ i'=some l/\S'.h.get i'=S.h.get i')\/∃i,ρ i=some i'/\μ' i=some l/\(s.n<=i\/i∈ws):=fun i' l hl=>by
  by_cases h1:i'<S.n
  ·by_cases h2:i'∈W
   ·obtain⟨i,q1,q2,q3,_⟩:=Aq i' h2
    have hr:ρ i=some i':=(F.old i q3).trans q2
    exact .inr ⟨i,hr,(hρ i i' hr).trans hl,.inr q1⟩
   ·exact .inl ⟨h1,h2,(hold i' h1)▸hl,F.ae i' h1 h2⟩
  ·have h2:=cJ i' l hl
   obtain⟨k1,k2⟩:=hτ i' (by omega) h2
   exact .inr ⟨τ i',k2,(hρ _ _ k2).trans hl,.inl k1⟩
 have Ar:∀i' l O',i'<S.n->i'∉W->μ i'=some l->S.h.get i'=some O'->O'.live=true->∀k k' lk,ρ k=some k'->μ' k=some lk->(s.n<=k\/k∈ws)->(O'.wr=true\/∃o,s'.h.get k=some o/\o.wr=true)->l.b≠lk.b:=by
  intro i' l O' hi Qr hl hO n9 k k' lk hk fJ hc JD
  by_cases h1:k<s.n
  ·have hkw:k∈ws:=hc.resolve_left (by omega)
   have hs:σ k=some k':=(F.old k h1).symm.trans hk
   obtain⟨O1,q1,q2⟩:=yt k k' hkw hs
   have eF:μ k'=some lk:=by rw[hμs k h1,hs]at fJ;exact fJ
   have aW:k'≠i':=fun e=>Qr (e▸F.W1 k k' (pT▸hkw) hs)
   exact(hh.inj k' i' lk l O1 O' eF hl aW q1 hO q2 n9).symm
  ·rcases h.new k lk (by omega) fJ with pr|⟨j,hj,Ge,lj,oj,uB,hb,Gf,hjw⟩
   ·have:=(hh.c_ i' l hl).2;omega
   ·cases hs:σ j with
    |none=>simp[hs]at uB
    |some j'=>
     simp only[hs,Option.bind_some]at uB
     obtain⟨O1,q1,q2⟩:=yt j j' hj hs
     have aW:j'≠i':=fun e=>Qr (e▸F.W1 j j' (pT▸hj) hs)
     rw[<-hb]
     exact(hh.inj j' i' lj l O1 O' uB hl aW q1 hO q2 n9).symm
 refine⟨μ2,⟨⟨fun i' l hl=>⟨cJ i' l hl,?_⟩,fun i' l hl=>?_,fun i' j' l l' O1 O2 hi hj aW Qs xu hw n9=>?_,fun g hg=>?_⟩,hold,F.fh,F.wl,⟨h.ed.os,h.ed.tape,h.ed.output,h.ed.size,fun b hb du=>?_⟩,fun i' l iK hl=>?_,F.ae,fun i' O' iK hO=>?_,fun i' h1 h2=>?_,fun i' iK _=>?_⟩,hρ⟩
 ·rcases tF i' l hl with⟨_,_,g,_⟩|⟨i,_,g,_⟩
  ·exact eY (hh.c_ i' l g).2 h.ed.size
  ·exact(h.hr.c_ i l g).2
 ·rcases tF i' l hl with⟨g1,g2,g3,g4⟩|⟨i,g1,g2,g3⟩
  ·obtain⟨O',q1,q2⟩:=hh.obj i' l g3
   refine⟨O',g4.trans q1,?_⟩
   cases n9:O'.live with
   |false=>cases O'<;>simp[O.live]at n9;trivial
   |true=>
    refine OM.congr (w:=w) (qZ i' l g1 g2 g3 O' q1 n9) (q2.mono fun k lk hk=>?_)
    rw[hold k (hh.c_ k lk hk).1];exact hk
  ·obtain⟨o,O',q1,q2,q3,q4⟩:=G5 i i' l g1 hl g3
   exact⟨O',q2,q4⟩
 ·rcases tF i' l hi with⟨a1,a2,a3,a4⟩|⟨i,a1,a2,a3⟩
  ·rw[a4]at Qs
   rcases tF j' l' hj with⟨b1,b2,b3,b4⟩|⟨j,b1,b2,b3⟩
   ·rw[b4]at xu
    exact hh.inj i' j' l l' O1 O2 a3 b3 aW Qs xu hw n9
   ·exact Ar i' l O1 a1 a2 a3 Qs (O.xr hw) j j' l' b1 b2 b3 (.inl hw)
  ·obtain⟨o1,O1',q1,q2,q3,_⟩:=G5 i i' l a1 hi a3
   rw[Qs]at q2;cases q2
   have DT:o1.bV ρ=some O1:=q3.resolve_left fun e=>by subst e;simp[O.wr]at hw
   have IH:o1.wr=true:=(O.Ap DT).symm.trans hw
   rcases tF j' l' hj with⟨b1,b2,b3,b4⟩|⟨j,b1,b2,b3⟩
   ·rw[b4]at xu
    exact(Ar j' l' O2 b1 b2 b3 xu n9 i i' l a1 a2 a3 (.inr ⟨o1,q1,IH⟩)).symm
   ·obtain⟨o2,O2',r1,r2,r3,_⟩:=G5 j j' l' b1 hj b3
    rw[xu]at r2;cases r2
    have r3':o2.bV ρ=some O2:=r3.resolve_left fun e=>by subst e;simp[O.live]at n9
    refine h.hr.inj i j l l' o1 o2 a2 b2 (fun e=>aW ?_) q1 r1 IH ((O.tE r3').symm.trans n9)
    subst e;rw[a1]at b1;cases b1;rfl
 ·obtain⟨t,ht⟩:=hh.gU g hg
  exact⟨t,by rw[hold g (hh.c_ g _ ht).1];exact ht⟩
 ·refine h.ed.block b hb fun i hi l hl=>?_
  cases hs:σ i with
  |none=>simp[hs]at hl
  |some i'=>
   simp only[hs,Option.bind_some]at hl
   exact du i' (F.W1 i i' (pT▸hi) hs) l hl
 ·have h2:=cJ i' l hl
  obtain⟨k1,k2⟩:=hτ i' iK h2
  rcases h.new (τ i') l k1 ((hρ _ _ k2).trans hl)with pr|⟨j,hj,Ge,lj,oj,uB,hb,Gf,hjw⟩
  ·exact .inl pr
  ·cases hs:σ j with
   |none=>simp[hs]at uB
   |some j'=>
    simp only[hs,Option.bind_some]at uB
    obtain⟨O1,q1,q2⟩:=yt j j' hj hs
    exact .inr ⟨j',F.W1 j j' (pT▸hj) hs,(F.c_ j j' hs).2,lj,O1,uB,hb,q1,q2⟩
 ·by_cases hW:i'∈W
  ·obtain⟨i,q1,q2,q3,q4⟩:=Aq i' hW
   obtain⟨O1,r1,r2⟩:=yt i i' q1 q2
   exact⟨O1,r1,fun _=>r2,fun _=>O.xr r2⟩
  ·exact⟨O',(F.ae i' iK hW).symm.trans hO,id,id⟩
 ·obtain⟨k1,k2⟩:=hτ i' h1 h2
  obtain⟨l,hl⟩:=h.full (τ i') k1 (F.new _ _ k1 k2).2.2
  exact⟨l,(qK i' h1 h2).trans hl⟩
 ·obtain⟨i,q1,q2,_⟩:=Aq i' iK
  exact yt i i' q1 q2
def JB.frame{g v:V}{args:List V}(h:JB P g args s v s')(F:GY P σ ρ W s s' S S'){g' v':V}{As:List V}(hg:V.bV σ g=some g')(ha:V.eh σ args=some As)(hv:V.bV ρ v=some v'):
  JB P g' As S v' S':=by
 intro μ w G xs hh hG qi
 have hσ:∀i i',σ i=some i'->(fun i=>(σ i).bind μ) i=μ i':=fun i i' hi=>by simp[hi]
 have:=h (fun i=>(σ i).bind μ) w G xs (F.tC hh) ((VR.bV hσ g g' G hg).2 hG) ((aS.bV hσ args As xs ha).2 qi)
 rw[V.CQ hg]
 refine this.mono fun x w' ⟨μ',ws,h1,h2⟩=>?_
 obtain⟨μ2,k1,k2⟩:=F.stp hh h2
 exact⟨μ2,W,(VR.bV k2 v v' x hv).1 h1,k1⟩
end
def sX(a b:cD):cD:=fun g args st=>match a g args st with
 |some r=>some r
 |none=>b g args st
def jv.or{P:Program}{a b:cD}(ha:jv P a)(hb:jv P b):jv P (sX a b):=by
 intro g args st v az h
 unfold sX at h
 split at h
 ·rename_i r hr
  cases h
  exact ha g args st v az hr
 ·exact hb g args st v az h
end Go.Mx
