/-The frame of a call-/
import Derived.Test.YtjjmkflbfpeagaaGreatDoorMxOp11
set_option linter.all false
namespace Go.Mx
open Go
mutual
def V.bQ(ρ:Nat->Option Nat):V->Option V
 |.bool b=>some (.bool b)
 |.int k n=>some (.int k n)
 |.jM k n=>some (.jM k n)
 |.rp k a b=>some (.rp k a b)
 |.str s=>some (.str s)
 |.bF=>some .bF
 |.ptr i o=>match ρ i with
  |some i=>some (.ptr i o)
  |none=>none
 |.aa=>some .aa
 |.slice i o len cap sz=>match ρ i with
  |some i=>some (.slice i o len cap sz)
  |none=>none
 |.empty=>some .empty
 |.bL=>some .bL
 |.map i=>match ρ i with
  |some i=>some (.map i)
  |none=>none
 |.bO=>some .bO
 |.chan i=>match ρ i with
  |some i=>some (.chan i)
  |none=>none
 |.func f a c=>match V.dZ ρ a,V.dZ ρ c with
  |some a,some c=>some (.func f a c)
  |_,_=>none
 |.yield i=>match ρ i with
  |some i=>some (.yield i)
  |none=>none
 |.bP=>some .bP
 |.iface t v=>match V.bQ ρ v with
  |some v=>some (.iface t v)
  |none=>none
 |.aZ=>some .aZ
 |.agg l=>match V.dZ ρ l with
  |some l=>some (.agg l)
  |none=>none
 |.aY l=>match V.dZ ρ l with
  |some l=>some (.aY l)
  |none=>none
def V.dZ(ρ:Nat->Option Nat):List V->Option (List V)
 |[]=>some []
 |v::vs=>match V.bQ ρ v,V.dZ ρ vs with
  |some v,some vs=>some (v::vs)
  |_,_=>none
end
mutual
def VR.bQ{μ μ':Mu}{ρ:Nat->Option Nat}(h:∀i i',ρ i=some i'->μ i=μ' i'):∀(v v':V) (x:Value),V.bQ ρ v=some v'->(VR μ v x↔VR μ' v' x)
 |.bool _,v',x,hv=>by simp only[V.bQ,ak]at hv;subst hv;simp only[VR]
 |.int _ _,v',x,hv=>by simp only[V.bQ,ak]at hv;subst hv;simp only[VR]
 |.jM _ _,v',x,hv=>by simp only[V.bQ,ak]at hv;subst hv;simp only[VR]
 |.rp _ _ _,v',x,hv=>by simp only[V.bQ,ak]at hv;subst hv;simp only[VR]
 |.str _,v',x,hv=>by simp only[V.bQ,ak]at hv;subst hv;simp only[VR]
 |.bF,v',x,hv=>by simp only[V.bQ,ak]at hv;subst hv;simp only[VR]
 |.ptr _ _,v',x,hv=>by
  simp only[V.bQ]at hv;split at hv
  ·rename_i i' hi;simp only[ak]at hv;subst hv;simp only[VR,h _ _ hi]
  ·cases hv
 |.aa,v',x,hv=>by simp only[V.bQ,ak]at hv;subst hv;simp only[VR]
 |.slice _ _ _ _ _,v',x,hv=>by
  simp only[V.bQ]at hv;split at hv
  ·rename_i i' hi;simp only[ak]at hv;subst hv;simp only[VR,h _ _ hi]
  ·cases hv
 |.empty,v',x,hv=>by simp only[V.bQ,ak]at hv;subst hv;simp only[VR]
 |.bL,v',x,hv=>by simp only[V.bQ,ak]at hv;subst hv;simp only[VR]
 |.map _,v',x,hv=>by
  simp only[V.bQ]at hv;split at hv
  ·rename_i i' hi;simp only[ak]at hv;subst hv;simp only[VR,h _ _ hi]
  ·cases hv
 |.bO,v',x,hv=>by simp only[V.bQ,ak]at hv;subst hv;simp only[VR]
 |.chan _,v',x,hv=>by
  simp only[V.bQ]at hv;split at hv
  ·rename_i i' hi;simp only[ak]at hv;subst hv;simp only[VR,h _ _ hi]
  ·cases hv
 |.func _ a c,v',x,hv=>by
  simp only[V.bQ]at hv;split at hv
  ·rename_i a' c' ha hc;simp only[ak]at hv;subst hv
   simp only[VR,fun xs=>aP.bQ h a a' xs ha,fun xs=>aP.bQ h c c' xs hc]
  ·cases hv
 |.yield _,v',x,hv=>by
  simp only[V.bQ]at hv;split at hv
  ·rename_i i' hi;simp only[ak]at hv;subst hv;simp only[VR,h _ _ hi]
  ·cases hv
 |.bP,v',x,hv=>by simp only[V.bQ,ak]at hv;subst hv;simp only[VR]
 |.iface _ v,v',x,hv=>by
  simp only[V.bQ]at hv;split at hv
  ·rename_i u hu;simp only[ak]at hv;subst hv;simp only[VR,fun y=>VR.bQ h v u y hu]
  ·cases hv
 |.aZ,v',x,hv=>by simp only[V.bQ,ak]at hv;subst hv;simp only[VR]
 |.agg l,v',x,hv=>by
  simp only[V.bQ]at hv;split at hv
  ·rename_i l' hl;simp only[ak]at hv;subst hv;simp only[VR,fun xs=>aP.bQ h l l' xs hl]
  ·cases hv
 |.aY l,v',x,hv=>by
  simp only[V.bQ]at hv;split at hv
  ·rename_i l' hl;simp only[ak]at hv;subst hv;simp only[VR,fun xs=>aP.bQ h l l' xs hl]
  ·cases hv
def aP.bQ{μ μ':Mu}{ρ:Nat->Option Nat}(h:∀i i',ρ i=some i'->μ i=μ' i'):∀(vs kv:List V) (xs:List Value),V.dZ ρ vs=some kv->(aP μ vs xs↔aP μ' kv xs)
 |[],kv,xs,hv=>by simp only[V.dZ,ak]at hv;subst hv;simp only[aP]
 |v::vs,kv,xs,hv=>by
  simp only[V.dZ]at hv;split at hv
  ·rename_i u us hu sX;simp only[ak]at hv;subst hv
   simp only[aP,fun y=>VR.bQ h v u y hu,fun ys=>aP.bQ h vs us ys sX]
  ·cases hv
end
def V.gp{ρ:Nat->Option Nat}:∀{vs kv:List V},V.dZ ρ vs=some kv->kv.length=vs.length
 |[],kv,h=>by simp only[V.dZ,ak]at h;subst h;rfl
 |v::vs,kv,h=>by
  simp only[V.dZ]at h;split at h
  ·rename_i u us hu sX;simp only[ak]at h;subst h;simp[V.gp sX]
  ·cases h
def V.qD{ρ:Nat->Option Nat}:∀{vs kv:List V} {j:Nat} {v':V},V.dZ ρ vs=some kv->kv[j]?=some v'->∃v,vs[j]?=some v/\V.bQ ρ v=some v'
 |[],kv,j,v',h,hj=>by simp only[V.dZ,ak]at h;subst h;simp at hj
 |v::vs,kv,j,v',h,hj=>by
  simp only[V.dZ]at h;split at h
  ·rename_i u us hu sX;simp only[ak]at h;subst h
   cases j with
   |zero=>simp at hj;subst hj;exact⟨v,by simp,hu⟩
   |succ j=>simpa using V.qD sX (j:=j) (by simpa using hj)
  ·cases h
def V.oA{ρ:Nat->Option Nat}:∀{vs kv:List V} {j:Nat} {v:V},V.dZ ρ vs=some kv->vs[j]?=some v->∃v',kv[j]?=some v'/\V.bQ ρ v=some v'
 |[],kv,j,v',h,hj=>by simp at hj
 |v::vs,kv,j,v',h,hj=>by
  simp only[V.dZ]at h;split at h
  ·rename_i u us hu sX;simp only[ak]at h;subst h
   cases j with
   |zero=>simp at hj;subst hj;exact⟨u,by simp,hu⟩
   |succ j=>simpa using V.oA sX (j:=j) (by simpa using hj)
  ·cases h
def V.AK{ρ:Nat->Option Nat}{v v':V}(h:V.bQ ρ v=some v'):v'.GO=v.GO:=by
 cases v<;>simp only[V.bQ]at h<;>(try split at h)<;>simp only[ak,reduceCtorEq]at h<;>subst h<;>rfl
def I4(ρ:Nat->Option Nat):List (V×V)->Option (List (V×V))
 |[]=>some []
 |(k,v)::es=>match V.bQ ρ k,V.bQ ρ v,I4 ρ es with
  |some k,some v,some es=>some ((k,v)::es)
  |_,_,_=>none
def gR.bQ{μ μ':Mu}{ρ:Nat->Option Nat}(h:∀i i',ρ i=some i'->μ i=μ' i'):∀(es e_:List (V×V)) (xs:List MapEntry) (i:Nat),I4 ρ es=some e_->(gR μ es xs i↔gR μ' e_ xs i)
 |[],e_,xs,i,he=>by simp only[I4,ak]at he;subst he;simp only[gR]
 |(k,v)::es,e_,xs,i,he=>by
  simp only[I4]at he;split at he
  ·rename_i k' v' us hk hv sX;simp only[ak]at he;subst he
   simp only[gR,fun y=>VR.bQ h k k' y hk,fun y=>VR.bQ h v v' y hv,fun ys i=>gR.bQ h es us ys i sX]
  ·cases he
def O.bQ(ρ:Nat->Option Nat):O->Option O
 |.cells c e rw=>match V.dZ ρ c with
  |some c=>some (.cells c e rw)
  |none=>none
 |.map es=>match I4 ρ es with
  |some es=>some (.map es)
  |none=>none
 |.chan cap buf=>match V.dZ ρ buf with
  |some buf=>some (.chan cap buf)
  |none=>none
 |.ef s pos=>some (.ef s pos)
 |.gh m=>match ρ m with
  |some m=>some (.gh m)
  |none=>none
 |.defs o=>some (.defs o)
 |.loop _=>none
 |.dead=>some .dead
def O.xR{ρ:Nat->Option Nat}{o o':O}(h:o.bQ ρ=some o'):o'.wr=o.wr:=by
 cases o<;>simp only[O.bQ]at h<;>(try split at h)<;>simp only[ak,reduceCtorEq]at h<;>subst h<;>rfl
def O.qE{ρ:Nat->Option Nat}{o o':O}(h:o.bQ ρ=some o'):o'.live=o.live:=by
 cases o<;>simp only[O.bQ]at h<;>(try split at h)<;>simp only[ak,reduceCtorEq]at h<;>subst h<;>rfl
def OM.bQ{P:Program}{μ μ':Mu}{w:World}{ρ:Nat->Option Nat}(h:∀i i',ρ i=some i'->μ i=μ' i'){o o':O}{l:L}(ho:o.bQ ρ=some o'):OM P μ w o l↔OM P μ' w o' l:=by
 cases o with
 |cells c e rw=>
  simp only[O.bQ]at ho;split at ho
  ·rename_i c' hc;simp only[ak]at ho;subst ho
   constructor
   ·rintro⟨d,lo,hi,h1,h2,h3,h4,h5⟩
    refine⟨d,lo,hi,h1,h2,by rw[V.gp hc];exact h3,fun j v' D4=>?_,h5⟩
    obtain⟨v,hv,hr⟩:=V.qD hc D4
    obtain⟨x,hx,zB⟩:=h4 j v hv
    exact⟨x,hx,(VR.bQ h v v' x hr).1 zB⟩
   ·rintro⟨d,lo,hi,h1,h2,h3,h4,h5⟩
    refine⟨d,lo,hi,h1,h2,by rw[V.gp hc]at h3;exact h3,fun j v hv=>?_,h5⟩
    obtain⟨v',D4,hr⟩:=V.oA hc hv
    obtain⟨x,hx,zB⟩:=h4 j v' D4
    exact⟨x,hx,(VR.bQ h v v' x hr).2 zB⟩
  ·cases ho
 |map es=>
  simp only[O.bQ]at ho;split at ho
  ·rename_i e_ he;simp only[ak]at ho;subst ho
   simp only[OM,fun xs i=>gR.bQ h es e_ xs i he]
  ·cases ho
 |chan cap buf=>
  simp only[O.bQ]at ho;split at ho
  ·rename_i c' hc;simp only[ak]at ho;subst ho
   simp only[OM,fun xs=>aP.bQ h buf c' xs hc]
  ·cases ho
 |ef s pos=>simp only[O.bQ,ak]at ho;subst ho;simp only[OM]
 |gh m=>
  simp only[O.bQ]at ho;split at ho
  ·rename_i m' hm;simp only[ak]at ho;subst ho
   simp only[OM,h _ _ hm]
  ·cases ho
 |loop R=>simp only[O.bQ,reduceCtorEq]at ho
 |defs b=>simp only[O.bQ,ak]at ho;subst ho;simp only[OM]
 |dead=>simp only[O.bQ,ak]at ho;subst ho;simp only[OM]
def B9(ρ:Nat->Option Nat)(o O':O):Prop:=
 o=.dead\/o.bQ ρ=some O'\/∃c e c',o=.cells c e false/\V.dZ ρ c=some c'/\O'=.cells c' e true
def B9.om{P:Program}{μ μ':Mu}{w:World}{ρ:Nat->Option Nat}(h:∀i i',ρ i=some i'->μ i=μ' i'){o o':O}{l:L}(ho:B9 ρ o o')(hm:OM P μ' w o' l):OM P μ w o l:=by
 rcases ho with rfl|ho|⟨c,e,c',rfl,hc,rfl⟩
 ·trivial
 ·exact(OM.bQ h ho).2 hm
 ·have h1:(O.cells c e true).bQ ρ=some (.cells c' e true):=by simp only[O.bQ,hc]
  obtain⟨d,lo,hi,q1,q2,q3,q4,q5,_⟩:=(OM.bQ h h1).2 hm
  exact⟨d,lo,hi,q1,q2,q3,q4,q5,fun hx=>by cases hx⟩
def B9.wr{ρ:Nat->Option Nat}{o o':O}(ho:B9 ρ o o')(h:o.wr=true):o'.wr=true/\o.bQ ρ=some o':=by
 rcases ho with rfl|ho|⟨c,e,c',rfl,hc,rfl⟩
 ·simp[O.wr]at h
 ·exact⟨(O.xR ho).trans h,ho⟩
 ·simp[O.wr]at h
def B9.live{ρ:Nat->Option Nat}{o o':O}(ho:B9 ρ o o')(h:o.live=true):o'.live=true:=by
 rcases ho with rfl|ho|⟨c,e,c',rfl,hc,rfl⟩
 ·simp[O.live]at h
 ·exact(O.qE ho).trans h
 ·rfl
def O.uE{o:O}(h:o.wr=true):o.live=true:=by cases o<;>simp_all [O.wr,O.live]
def GR(P:Program)(g:V)(args:List V)(st:St)(v:V)(ax:St):Prop:=
 ∀(μ:Mu) (w:World) (G:Value) (xs:List Value),a_ P μ w st->VR μ g G->aP μ args xs->
  I5 P g.GO G ⟨xs⟩ w fun x w'=>∃μ' ws,VR μ' v x/\bA P μ w st μ' w' ax ws
def I5.mono{P:Program}{y:Bool}{G:Value}{xs:Array Value}{w:World}{R R':Value->World->Prop}(h:I5 P y G xs w R)(hR:∀x w',R x w'->R' x w'):I5 P y G xs w R':=by
 obtain⟨d,hd,gw⟩:=h
 refine⟨d,hd,?_⟩
 rcases gw with⟨hy,f,args,hinv,D5⟩|⟨hy,l,f,tmps,fw,fx,hinv,GS⟩
 ·refine .inl ⟨hy,f,args,hinv,CallsIn.mono (F:=Fence.wide) D5 fun e w' he=>?_⟩
  cases e with
  |returned x=>exact hR x w' he
  |panicked _=>exact he.elim
  |outgrown=>exact he.elim
 ·refine .inr ⟨hy,l,f,tmps,fw,fx,hinv,RoundIn.mono (F:=Fence.wide) GS fun e w' he=>?_⟩
  cases e with
  |returned x=>exact hR x w' he
  |panicked _=>exact he.elim
  |outgrown=>exact he.elim
structure D6 (P:Program) (σ ρ:Nat->Option Nat) (W:List Nat) (s s' S S':St):Prop where
 cU:∀i i',σ i=some i'->i<s.n/\i'<S.n
 inj:∀i j i',σ i=some i'->σ j=some i'->i=j
 gj:∀g,g<P.globals.size->σ g=some g
 obj:∀i i',σ i=some i'->∃o O',s.h.get i=some o/\B9 σ o O'/\(S.h.get i'=some O'\/o=.dead)
 old:∀i,i<s.n->ρ i=σ i
 new:∀i i',s.n<=i->ρ i=some i'->S.n<=i'/\i'<S'.n/\i<s'.n
 D7:∀i j i',s.n<=i->s.n<=j->ρ i=some i'->ρ j=some i'->i=j
 full:∀i',S.n<=i'->i'<S'.n->∃i,s.n<=i/\ρ i=some i'
 gJ:S.n<=S'.n
 w0:s.w=[]
 W1:∀i i',i∈s'.w->σ i=some i'->i'∈W
 W2:∀j,j∈W->∃i,i∈s'.w/\σ i=some j
 wl:S'.w=W++S.w
 ae:∀j,j<S.n->j∉W->S'.h.get j=S.h.get j
 wr:∀i i',i∈s'.w->σ i=some i'->∃o O',s'.h.get i=some o/\S'.h.get i'=some O'/\(O'=.dead\/o.bQ ρ=some O')
 Sy:∀i i',s.n<=i->ρ i=some i'->∃o O',s'.h.get i=some o/\S'.h.get i'=some O'/\(O'=.dead\/o.bQ ρ=some O')
section
variable {P:Program} {σ ρ:Nat->Option Nat} {W:List Nat} {s s' S S':St}
def D6.qC(F:D6 P σ ρ W s s' S S'){μ:Mu}{w:World}(hh:a_ P μ w S):a_ P (fun i=>(σ i).bind μ) w s:=by
 have hb:∀i l,(σ i).bind μ=some l->∃i',σ i=some i'/\μ i'=some l:=fun i l h=>by
  cases hs:σ i with
  |none=>rw[hs]at h;cases h
  |some i'=>rw[hs]at h;exact⟨i',rfl,h⟩
 refine⟨fun i l hl=>?_,fun i l hl=>?_,fun i j l l' o o' hi hj bK ho ux hw ph=>?_,fun g hg=>?_⟩
 ·obtain⟨i',h1,h2⟩:=hb i l hl
  exact⟨(F.cU i i' h1).1,(hh.cU i' l h2).2⟩
 ·obtain⟨i',h1,h2⟩:=hb i l hl
  obtain⟨o,O',g1,g2,g3⟩:=F.obj i i' h1
  refine⟨o,g1,?_⟩
  rcases g3 with g3|rfl
  ·obtain⟨O2,q1,q2⟩:=hh.obj i' l h2
   rw[g3]at q1;cases q1
   exact B9.om (fun i i' hi=>by simp[hi]) g2 q2
  ·trivial
 ·obtain⟨i',h1,h2⟩:=hb i l hi
  obtain⟨j',h3,h4⟩:=hb j l' hj
  obtain⟨o1,O1,a1,a2,a3⟩:=F.obj i i' h1
  obtain⟨o2,O2,b1,b2,b3⟩:=F.obj j j' h3
  rw[ho]at a1;cases a1
  rw[ux]at b1;cases b1
  have Y0:S.h.get i'=some O1:=a3.resolve_right fun e=>by subst e;simp[O.wr]at hw
  have b3':S.h.get j'=some O2:=b3.resolve_right fun e=>by subst e;simp[O.live]at ph
  refine hh.inj i' j' l l' O1 O2 h2 h4 (fun e=>bK ?_) Y0 b3' (a2.wr hw).1 (b2.live ph)
  subst e;exact F.inj i j i' h1 h3
 ·obtain⟨t,ht⟩:=hh.gj g hg
  exact⟨t,by simp[F.gj g hg,ht]⟩
def D6.stp(F:D6 P σ ρ W s s' S S'){μ:Mu}{w w':World}(hh:a_ P μ w S){μ':Mu}{ws:List Nat}(h:bA P (fun i=>(σ i).bind μ) w s μ' w' s' ws):
  ∃μ2,bA P μ w S μ2 w' S' W/\∀i i',ρ i=some i'->μ' i=μ2 i':=by
 have oz:s'.w=ws:=by have:=h.wl;rw[F.w0]at this;simpa using this
 have hinv:∃τ:Nat->Nat,∀i',S.n<=i'->i'<S'.n->s.n<=τ i'/\ρ (τ i')=some i':=by
  classical
  refine⟨fun i'=>if hc:∃i,s.n<=i/\ρ i=some i' then hc.choose else 0,fun i' h1 h2=>?_⟩
  have hc:=F.full i' h1 h2
  simp only[dif_pos hc]
  exact hc.choose_spec
 obtain⟨τ,hτ⟩:=hinv
 let μ2:Mu:=fun i'=>if i'<S.n then μ i' else if i'<S'.n then μ' (τ i') else none
 have hold:∀i',i'<S.n->μ2 i'=μ i':=fun i' hi=>by show (if i'<S.n then _ else _)=_;rw[aJ hi]
 have vF:∀i',S.n<=i'->i'<S'.n->μ2 i'=μ' (τ i'):=fun i' h1 h2=>by show (if i'<S.n then _ else _)=_;rw[aq (by omega),aJ h2]
 have si:∀i' l,μ2 i'=some l->i'<S'.n:=fun i' l hl=>by
  by_cases h1:i'<S.n
  ·exact ic h1 F.gJ
  ·by_cases h2:i'<S'.n
   ·exact h2
   ·have:μ2 i'=none:=by show (if i'<S.n then _ else _)=_;rw[aq h1,aq h2]
    rw[this]at hl;cases hl
 have Y3:∀i,i<s.n->μ' i=(σ i).bind μ:=fun i hi=>h.ext i hi
 have hρ:∀i i',ρ i=some i'->μ' i=μ2 i':=fun i i' hi=>by
  by_cases h1:i<s.n
  ·have h2:σ i=some i':=(F.old i h1).symm.trans hi
   rw[Y3 i h1,h2,hold i' (F.cU i i' h2).2];rfl
  ·obtain⟨g1,g2,_⟩:=F.new i i' (by omega) hi
   obtain⟨k1,k2⟩:=hτ i' g1 g2
   rw[vF i' g1 g2,F.D7 i (τ i') i' (by omega) k1 hi k2]
 have xS:∀j,j∈W->∃i,i∈ws/\σ i=some j/\i<s.n/\j<S.n:=fun j hj=>by
  obtain⟨i,h1,h2⟩:=F.W2 j hj
  exact⟨i,oz▸h1,h2,F.cU i j h2⟩
 have vG:∀i i',i∈ws->σ i=some i'->∃O',S.h.get i'=some O'/\O'.wr=true:=fun i i' hi hs=>by
  obtain⟨o,ho,hw⟩:=h.wA i hi (F.cU i i' hs).1
  obtain⟨o1,O1,a1,a2,a3⟩:=F.obj i i' hs
  rw[ho]at a1;cases a1
  exact⟨O1,a3.resolve_right fun e=>by subst e;simp[O.wr]at hw,(a2.wr hw).1⟩
 have pj:∀j l,j<S.n->j∉W->μ j=some l->∀O',S.h.get j=some O'->O'.live=true->w'.heap[l.b]?=w.heap[l.b]?:=fun j l hj Nr hl O' hO ph=>by
  refine h.dV.block l.b (hh.cU j l hl).2 fun i hi li Sz=>?_
  cases hs:σ i with
  |none=>simp[hs]at Sz
  |some i'=>
   simp only[hs,Option.bind_some]at Sz
   obtain⟨O1,q1,q2⟩:=vG i i' hi hs
   refine hh.inj i' j li l O1 O' Sz hl (fun e=>Nr ?_) q1 hO q2 ph
   subst e;exact F.W1 i i' (oz▸hi) hs
 have D8:∀i i' l,ρ i=some i'->μ2 i'=some l->(s.n<=i\/i∈ws)->∃o O',s'.h.get i=some o/\S'.h.get i'=some O'/\(O'=.dead\/o.bQ ρ=some O')/\OM P μ2 w' O' l:=fun i i' l hi hl hc=>by
  have key:∃o O',s'.h.get i=some o/\S'.h.get i'=some O'/\(O'=.dead\/o.bQ ρ=some O'):=by
   by_cases h1:i<s.n
   ·rcases hc with hc|hc
    ·omega
    ·exact F.wr i i' (oz▸hc) ((F.old i h1).symm.trans hi)
   ·exact F.Sy i i' (by omega) hi
  obtain⟨o,O',g1,g2,g3⟩:=key
  refine⟨o,O',g1,g2,g3,?_⟩
  rcases g3 with rfl|g3
  ·trivial
  ·obtain⟨o2,q1,q2⟩:=h.hr.obj i l ((hρ i i' hi).trans hl)
   rw[g1]at q1;cases q1
   exact(OM.bQ hρ g3).1 q2
 have qF:∀i' l,μ2 i'=some l->(i'<S.n/\i'∉W/\μ i'=some l/\S'.h.get i'=S.h.get i')\/∃i,ρ i=some i'/\μ' i=some l/\(s.n<=i\/i∈ws):=fun i' l hl=>by
  by_cases h1:i'<S.n
  ·by_cases h2:i'∈W
   ·obtain⟨i,q1,q2,q3,_⟩:=xS i' h2
    have hr:ρ i=some i':=(F.old i q3).trans q2
    exact .inr ⟨i,hr,(hρ i i' hr).trans hl,.inr q1⟩
   ·exact .inl ⟨h1,h2,(hold i' h1)▸hl,F.ae i' h1 h2⟩
  ·have h2:=si i' l hl
   obtain⟨k1,k2⟩:=hτ i' (by omega) h2
   exact .inr ⟨τ i',k2,(hρ _ _ k2).trans hl,.inl k1⟩
 have xU:∀i' l O',i'<S.n->i'∉W->μ i'=some l->S.h.get i'=some O'->O'.live=true->∀k k' lk,ρ k=some k'->μ' k=some lk->(s.n<=k\/k∈ws)->(O'.wr=true\/∃o,s'.h.get k=some o/\o.wr=true)->l.b≠lk.b:=by
  intro i' l O' hi Nr hl hO ph k k' lk hk fz hc GU
  by_cases h1:k<s.n
  ·have Y4:k∈ws:=hc.resolve_left (by omega)
   have hs:σ k=some k':=(F.old k h1).symm.trans hk
   obtain⟨O1,q1,q2⟩:=vG k k' Y4 hs
   have kf:μ k'=some lk:=by rw[Y3 k h1,hs]at fz;exact fz
   have bK:k'≠i':=fun e=>Nr (e▸F.W1 k k' (oz▸Y4) hs)
   exact(hh.inj k' i' lk l O1 O' kf hl bK q1 hO q2 ph).symm
  ·rcases h.new k lk (by omega) fz with ky|⟨j,hj,Dm,lj,oj,ry,hb,Dp,hjw⟩
   ·have:=(hh.cU i' l hl).2;omega
   ·cases hs:σ j with
    |none=>simp[hs]at ry
    |some j'=>
     simp only[hs,Option.bind_some]at ry
     obtain⟨O1,q1,q2⟩:=vG j j' hj hs
     have bK:j'≠i':=fun e=>Nr (e▸F.W1 j j' (oz▸hj) hs)
     rw[<-hb]
     exact(hh.inj j' i' lj l O1 O' ry hl bK q1 hO q2 ph).symm
 refine⟨μ2,⟨⟨fun i' l hl=>⟨si i' l hl,?_⟩,fun i' l hl=>?_,fun i' j' l l' O1 O2 hi hj bK Ns uF hw ph=>?_,fun g hg=>?_⟩,hold,F.gJ,F.wl,⟨h.dV.os,h.dV.tape,h.dV.output,h.dV.size,fun b hb dq=>?_⟩,fun i' l iV hl=>?_,F.ae,fun i' O' iV hO=>?_,fun i' h1 h2=>?_,fun i' iV _=>?_⟩,hρ⟩
 ·rcases qF i' l hl with⟨_,_,g,_⟩|⟨i,_,g,_⟩
  ·exact ic (hh.cU i' l g).2 h.dV.size
  ·exact(h.hr.cU i l g).2
 ·rcases qF i' l hl with⟨g1,g2,g3,g4⟩|⟨i,g1,g2,g3⟩
  ·obtain⟨O',q1,q2⟩:=hh.obj i' l g3
   refine⟨O',g4.trans q1,?_⟩
   cases ph:O'.live with
   |false=>cases O'<;>simp[O.live]at ph;trivial
   |true=>
    refine OM.congr (w:=w) (pj i' l g1 g2 g3 O' q1 ph) (q2.mono fun k lk hk=>?_)
    rw[hold k (hh.cU k lk hk).1];exact hk
  ·obtain⟨o,O',q1,q2,q3,q4⟩:=D8 i i' l g1 hl g3
   exact⟨O',q2,q4⟩
 ·rcases qF i' l hi with⟨a1,a2,a3,a4⟩|⟨i,a1,a2,a3⟩
  ·rw[a4]at Ns
   rcases qF j' l' hj with⟨b1,b2,b3,b4⟩|⟨j,b1,b2,b3⟩
   ·rw[b4]at uF
    exact hh.inj i' j' l l' O1 O2 a3 b3 bK Ns uF hw ph
   ·exact xU i' l O1 a1 a2 a3 Ns (O.uE hw) j j' l' b1 b2 b3 (.inl hw)
  ·obtain⟨o1,O1',q1,q2,q3,_⟩:=D8 i i' l a1 hi a3
   rw[Ns]at q2;cases q2
   have Nt:o1.bQ ρ=some O1:=q3.resolve_left fun e=>by subst e;simp[O.wr]at hw
   have M8:o1.wr=true:=(O.xR Nt).symm.trans hw
   rcases qF j' l' hj with⟨b1,b2,b3,b4⟩|⟨j,b1,b2,b3⟩
   ·rw[b4]at uF
    exact(xU j' l' O2 b1 b2 b3 uF ph i i' l a1 a2 a3 (.inr ⟨o1,q1,M8⟩)).symm
   ·obtain⟨o2,O2',r1,r2,r3,_⟩:=D8 j j' l' b1 hj b3
    rw[uF]at r2;cases r2
    have r3':o2.bQ ρ=some O2:=r3.resolve_left fun e=>by subst e;simp[O.live]at ph
    refine h.hr.inj i j l l' o1 o2 a2 b2 (fun e=>bK ?_) q1 r1 M8 ((O.qE r3').symm.trans ph)
    subst e;rw[a1]at b1;cases b1;rfl
 ·obtain⟨t,ht⟩:=hh.gj g hg
  exact⟨t,by rw[hold g (hh.cU g _ ht).1];exact ht⟩
 ·refine h.dV.block b hb fun i hi l hl=>?_
  cases hs:σ i with
  |none=>simp[hs]at hl
  |some i'=>
   simp only[hs,Option.bind_some]at hl
   exact dq i' (F.W1 i i' (oz▸hi) hs) l hl
 ·have h2:=si i' l hl
  obtain⟨k1,k2⟩:=hτ i' iV h2
  rcases h.new (τ i') l k1 ((hρ _ _ k2).trans hl)with ky|⟨j,hj,Dm,lj,oj,ry,hb,Dp,hjw⟩
  ·exact .inl ky
  ·cases hs:σ j with
   |none=>simp[hs]at ry
   |some j'=>
    simp only[hs,Option.bind_some]at ry
    obtain⟨O1,q1,q2⟩:=vG j j' hj hs
    exact .inr ⟨j',F.W1 j j' (oz▸hj) hs,(F.cU j j' hs).2,lj,O1,ry,hb,q1,q2⟩
 ·by_cases hW:i'∈W
  ·obtain⟨i,q1,q2,q3,q4⟩:=xS i' hW
   obtain⟨O1,r1,r2⟩:=vG i i' q1 q2
   exact⟨O1,r1,fun _=>r2,fun _=>O.uE r2⟩
  ·exact⟨O',(F.ae i' iV hW).symm.trans hO,id,id⟩
 ·obtain⟨k1,k2⟩:=hτ i' h1 h2
  obtain⟨l,hl⟩:=h.full (τ i') k1 (F.new _ _ k1 k2).2.2
  exact⟨l,(vF i' h1 h2).trans hl⟩
 ·obtain⟨i,q1,q2,_⟩:=xS i' iV
  exact vG i i' q1 q2
def GR.frame{g v:V}{args:List V}(h:GR P g args s v s')(F:D6 P σ ρ W s s' S S'){g' v':V}{xV:List V}(hg:V.bQ σ g=some g')(ha:V.dZ σ args=some xV)(hv:V.bQ ρ v=some v'):
  GR P g' xV S v' S':=by
 intro μ w G xs hh hG oB
 have hσ:∀i i',σ i=some i'->(fun i=>(σ i).bind μ) i=μ i':=fun i i' hi=>by simp[hi]
 have:=h (fun i=>(σ i).bind μ) w G xs (F.qC hh) ((VR.bQ hσ g g' G hg).2 hG) ((aP.bQ hσ args xV xs ha).2 oB)
 rw[V.AK hg]
 refine this.mono fun x w' ⟨μ',ws,h1,h2⟩=>?_
 obtain⟨μ2,k1,k2⟩:=F.stp hh h2
 exact⟨μ2,W,(VR.bQ k2 v v' x hv).1 h1,k1⟩
end
def qG(a b:cH):cH:=fun g args st=>match a g args st with
 |some r=>some r
 |none=>b g args st
def iO.or{P:Program}{a b:cH}(ha:iO P a)(hb:iO P b):iO P (qG a b):=by
 intro g args st v ax h
 unfold qG at h
 split at h
 ·rename_i r hr
  cases h
  exact ha g args st v ax hr
 ·exact hb g args st v ax h
end Go.Mx
