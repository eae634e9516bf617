/-The frame of a call-/
import Derived.Test.YthekjfgljafnaaaGreatDoorMxOps
set_option linter.all false
namespace Go.Mx
open Go
mutual
def V.ren(ρ:Nat→Option Nat):V→Option V
 |.bool b=>some (.bool b)
 |.int k n=>some (.int k n)
 |.flt k n=>some (.flt k n)
 |.str s=>some (.str s)
 |.nilptr=>some .nilptr
 |.ptr i o=>match ρ i with
  |some i=>some (.ptr i o)
  |none=>none
 |.nilslice=>some .nilslice
 |.slice i o len cap sz=>match ρ i with
  |some i=>some (.slice i o len cap sz)
  |none=>none
 |.empty=>some .empty
 |.nilmap=>some .nilmap
 |.map i=>match ρ i with
  |some i=>some (.map i)
  |none=>none
 |.nilchan=>some .nilchan
 |.chan i=>match ρ i with
  |some i=>some (.chan i)
  |none=>none
 |.func f a c=>match V.rens ρ a,V.rens ρ c with
  |some a,some c=>some (.func f a c)
  |_,_=>none
 |.yield i=>match ρ i with
  |some i=>some (.yield i)
  |none=>none
 |.nilfunc=>some .nilfunc
 |.iface t v=>match V.ren ρ v with
  |some v=>some (.iface t v)
  |none=>none
 |.niliface=>some .niliface
 |.agg l=>match V.rens ρ l with
  |some l=>some (.agg l)
  |none=>none
 |.tup l=>match V.rens ρ l with
  |some l=>some (.tup l)
  |none=>none
def V.rens(ρ:Nat→Option Nat):List V→Option (List V)
 |[]=>some []
 |v::vs=>match V.ren ρ v,V.rens ρ vs with
  |some v,some vs=>some (v::vs)
  |_,_=>none
end
mutual
def VR.ren{μ μ':Mu}{ρ:Nat→Option Nat}(h:∀i i',ρ i=some i'→μ i=μ' i'):∀(v v':V) (x:Value),V.ren ρ v=some v'→(VR μ v x↔VR μ' v' x)
 |.bool _,v',x,hv=>by simp only[V.ren,Yv3]at hv;subst hv;simp only[VR]
 |.int _ _,v',x,hv=>by simp only[V.ren,Yv3]at hv;subst hv;simp only[VR]
 |.flt _ _,v',x,hv=>by simp only[V.ren,Yv3]at hv;subst hv;simp only[VR]
 |.str _,v',x,hv=>by simp only[V.ren,Yv3]at hv;subst hv;simp only[VR]
 |.nilptr,v',x,hv=>by simp only[V.ren,Yv3]at hv;subst hv;simp only[VR]
 |.ptr _ _,v',x,hv=>by
  simp only[V.ren]at hv;split at hv
  ·rename_i i' hi;simp only[Yv3]at hv;subst hv;simp only[VR,h _ _ hi]
  ·cases hv
 |.nilslice,v',x,hv=>by simp only[V.ren,Yv3]at hv;subst hv;simp only[VR]
 |.slice _ _ _ _ _,v',x,hv=>by
  simp only[V.ren]at hv;split at hv
  ·rename_i i' hi;simp only[Yv3]at hv;subst hv;simp only[VR,h _ _ hi]
  ·cases hv
 |.empty,v',x,hv=>by simp only[V.ren,Yv3]at hv;subst hv;simp only[VR]
 |.nilmap,v',x,hv=>by simp only[V.ren,Yv3]at hv;subst hv;simp only[VR]
 |.map _,v',x,hv=>by
  simp only[V.ren]at hv;split at hv
  ·rename_i i' hi;simp only[Yv3]at hv;subst hv;simp only[VR,h _ _ hi]
  ·cases hv
 |.nilchan,v',x,hv=>by simp only[V.ren,Yv3]at hv;subst hv;simp only[VR]
 |.chan _,v',x,hv=>by
  simp only[V.ren]at hv;split at hv
  ·rename_i i' hi;simp only[Yv3]at hv;subst hv;simp only[VR,h _ _ hi]
  ·cases hv
 |.func _ a c,v',x,hv=>by
  simp only[V.ren]at hv;split at hv
  ·rename_i a' c' ha hc;simp only[Yv3]at hv;subst hv
   simp only[VR,fun xs=>VRs.ren h a a' xs ha,fun xs=>VRs.ren h c c' xs hc]
  ·cases hv
 |.yield _,v',x,hv=>by
  simp only[V.ren]at hv;split at hv
  ·rename_i i' hi;simp only[Yv3]at hv;subst hv;simp only[VR,h _ _ hi]
  ·cases hv
 |.nilfunc,v',x,hv=>by simp only[V.ren,Yv3]at hv;subst hv;simp only[VR]
 |.iface _ v,v',x,hv=>by
  simp only[V.ren]at hv;split at hv
  ·rename_i u hu;simp only[Yv3]at hv;subst hv;simp only[VR,fun y=>VR.ren h v u y hu]
  ·cases hv
 |.niliface,v',x,hv=>by simp only[V.ren,Yv3]at hv;subst hv;simp only[VR]
 |.agg l,v',x,hv=>by
  simp only[V.ren]at hv;split at hv
  ·rename_i l' hl;simp only[Yv3]at hv;subst hv;simp only[VR,fun xs=>VRs.ren h l l' xs hl]
  ·cases hv
 |.tup l,v',x,hv=>by
  simp only[V.ren]at hv;split at hv
  ·rename_i l' hl;simp only[Yv3]at hv;subst hv;simp only[VR,fun xs=>VRs.ren h l l' xs hl]
  ·cases hv
def VRs.ren{μ μ':Mu}{ρ:Nat→Option Nat}(h:∀i i',ρ i=some i'→μ i=μ' i'):∀(vs vs':List V) (xs:List Value),V.rens ρ vs=some vs'→(VRs μ vs xs↔VRs μ' vs' xs)
 |[],vs',xs,hv=>by simp only[V.rens,Yv3]at hv;subst hv;simp only[VRs]
 |v::vs,vs',xs,hv=>by
  simp only[V.rens]at hv;split at hv
  ·rename_i u us hu hus;simp only[Yv3]at hv;subst hv
   simp only[VRs,fun y=>VR.ren h v u y hu,fun ys=>VRs.ren h vs us ys hus]
  ·cases hv
end
def V.rens_length{ρ:Nat→Option Nat}:∀{vs vs':List V},V.rens ρ vs=some vs'→vs'.length=vs.length
 |[],vs',h=>by simp only[V.rens,Yv3]at h;subst h;rfl
 |v::vs,vs',h=>by
  simp only[V.rens]at h;split at h
  ·rename_i u us hu hus;simp only[Yv3]at h;subst h;simp[V.rens_length hus]
  ·cases h
def V.rens_get{ρ:Nat→Option Nat}:∀{vs vs':List V} {j:Nat} {v':V},V.rens ρ vs=some vs'→vs'[j]?=some v'→∃v,vs[j]?=some v∧V.ren ρ v=some v'
 |[],vs',j,v',h,hj=>by simp only[V.rens,Yv3]at h;subst h;simp at hj
 |v::vs,vs',j,v',h,hj=>by
  simp only[V.rens]at h;split at h
  ·rename_i u us hu hus;simp only[Yv3]at h;subst h
   cases j with
   |zero=>simp at hj;subst hj;exact⟨v,by simp,hu⟩
   |succ j=>simpa using V.rens_get hus (j:=j) (by simpa using hj)
  ·cases h
def V.rens_get'{ρ:Nat→Option Nat}:∀{vs vs':List V} {j:Nat} {v:V},V.rens ρ vs=some vs'→vs[j]?=some v→∃v',vs'[j]?=some v'∧V.ren ρ v=some v'
 |[],vs',j,v',h,hj=>by simp at hj
 |v::vs,vs',j,v',h,hj=>by
  simp only[V.rens]at h;split at h
  ·rename_i u us hu hus;simp only[Yv3]at h;subst h
   cases j with
   |zero=>simp at hj;subst hj;exact⟨u,by simp,hu⟩
   |succ j=>simpa using V.rens_get' hus (j:=j) (by simpa using hj)
  ·cases h
def V.ren_isY{ρ:Nat→Option Nat}{v v':V}(h:V.ren ρ v=some v'):v'.isY=v.isY:=by
 cases v<;>simp only[V.ren]at h<;>(try split at h)<;>simp only[Yv3,reduceCtorEq]at h<;>subst h<;>rfl
def Yb8(ρ:Nat→Option Nat):List (V×V)→Option (List (V×V))
 |[]=>some []
 |(k,v)::es=>match V.ren ρ k,V.ren ρ v,Yb8 ρ es with
  |some k,some v,some es=>some ((k,v)::es)
  |_,_,_=>none
def Zir.ren{μ μ':Mu}{ρ:Nat→Option Nat}(h:∀i i',ρ i=some i'→μ i=μ' i'):∀(es es':List (V×V)) (xs:List MapEntry) (i:Nat),Yb8 ρ es=some es'→(Zir μ es xs i↔Zir μ' es' xs i)
 |[],es',xs,i,he=>by simp only[Yb8,Yv3]at he;subst he;simp only[Zir]
 |(k,v)::es,es',xs,i,he=>by
  simp only[Yb8]at he;split at he
  ·rename_i k' v' us hk hv hus;simp only[Yv3]at he;subst he
   simp only[Zir,fun y=>VR.ren h k k' y hk,fun y=>VR.ren h v v' y hv,fun ys i=>Zir.ren h es us ys i hus]
  ·cases he
def O.ren(ρ:Nat→Option Nat):O→Option O
 |.cells c e rw=>match V.rens ρ c with
  |some c=>some (.cells c e rw)
  |none=>none
 |.map es=>match Yb8 ρ es with
  |some es=>some (.map es)
  |none=>none
 |.chan cap buf=>match V.rens ρ buf with
  |some buf=>some (.chan cap buf)
  |none=>none
 |.siter s pos=>some (.siter s pos)
 |.defs o=>some (.defs o)
 |.loop _=>none
 |.dead=>some .dead
def O.ren_wr{ρ:Nat→Option Nat}{o o':O}(h:o.ren ρ=some o'):o'.wr=o.wr:=by
 cases o<;>simp only[O.ren]at h<;>(try split at h)<;>simp only[Yv3,reduceCtorEq]at h<;>subst h<;>rfl
def O.ren_live{ρ:Nat→Option Nat}{o o':O}(h:o.ren ρ=some o'):o'.live=o.live:=by
 cases o<;>simp only[O.ren]at h<;>(try split at h)<;>simp only[Yv3,reduceCtorEq]at h<;>subst h<;>rfl
def OM.ren{P:Program}{μ μ':Mu}{w:World}{ρ:Nat→Option Nat}(h:∀i i',ρ i=some i'→μ i=μ' i'){o o':O}{l:L}(ho:o.ren ρ=some o'):OM P μ w o l↔OM P μ' w o' l:=by
 cases o with
 |cells c e rw=>
  simp only[O.ren]at ho;split at ho
  ·rename_i c' hc;simp only[Yv3]at ho;subst ho
   constructor
   ·rintro⟨d,lo,hi,h1,h2,h3,h4,h5⟩
    refine⟨d,lo,hi,h1,h2,by rw[V.rens_length hc];exact h3,fun j v' hv'=>?_,h5⟩
    obtain⟨v,hv,hr⟩:=V.rens_get hc hv'
    obtain⟨x,hx,hxv⟩:=h4 j v hv
    exact⟨x,hx,(VR.ren h v v' x hr).1 hxv⟩
   ·rintro⟨d,lo,hi,h1,h2,h3,h4,h5⟩
    refine⟨d,lo,hi,h1,h2,by rw[V.rens_length hc]at h3;exact h3,fun j v hv=>?_,h5⟩
    obtain⟨v',hv',hr⟩:=V.rens_get' hc hv
    obtain⟨x,hx,hxv⟩:=h4 j v' hv'
    exact⟨x,hx,(VR.ren h v v' x hr).2 hxv⟩
  ·cases ho
 |map es=>
  simp only[O.ren]at ho;split at ho
  ·rename_i es' he;simp only[Yv3]at ho;subst ho
   simp only[OM,fun xs i=>Zir.ren h es es' xs i he]
  ·cases ho
 |chan cap buf=>
  simp only[O.ren]at ho;split at ho
  ·rename_i c' hc;simp only[Yv3]at ho;subst ho
   simp only[OM,fun xs=>VRs.ren h buf c' xs hc]
  ·cases ho
 |siter s pos=>simp only[O.ren,Yv3]at ho;subst ho;simp only[OM]
 |loop R=>simp only[O.ren,reduceCtorEq]at ho
 |defs b=>simp only[O.ren,Yv3]at ho;subst ho;simp only[OM]
 |dead=>simp only[O.ren,Yv3]at ho;subst ho;simp only[OM]
def Yk6(ρ:Nat→Option Nat)(o O':O):Prop:=
 o=.dead∨o.ren ρ=some O'∨∃c e c',o=.cells c e false∧V.rens ρ c=some c'∧O'=.cells c' e true
def Yk6.om{P:Program}{μ μ':Mu}{w:World}{ρ:Nat→Option Nat}(h:∀i i',ρ i=some i'→μ i=μ' i'){o o':O}{l:L}(ho:Yk6 ρ o o')(hm:OM P μ' w o' l):OM P μ w o l:=by
 rcases ho with rfl|ho|⟨c,e,c',rfl,hc,rfl⟩
 ·trivial
 ·exact(OM.ren h ho).2 hm
 ·have h1:(O.cells c e true).ren ρ=some (.cells c' e true):=by simp only[O.ren,hc]
  obtain⟨d,lo,hi,q1,q2,q3,q4,q5,_⟩:=(OM.ren h h1).2 hm
  exact⟨d,lo,hi,q1,q2,q3,q4,q5,fun hx=>by cases hx⟩
def Yk6.wr{ρ:Nat→Option Nat}{o o':O}(ho:Yk6 ρ o o')(h:o.wr=true):o'.wr=true∧o.ren ρ=some o':=by
 rcases ho with rfl|ho|⟨c,e,c',rfl,hc,rfl⟩
 ·simp[O.wr]at h
 ·exact⟨(O.ren_wr ho).trans h,ho⟩
 ·simp[O.wr]at h
def Yk6.live{ρ:Nat→Option Nat}{o o':O}(ho:Yk6 ρ o o')(h:o.live=true):o'.live=true:=by
 rcases ho with rfl|ho|⟨c,e,c',rfl,hc,rfl⟩
 ·simp[O.live]at h
 ·exact(O.ren_live ho).trans h
 ·rfl
def O.wr_live{o:O}(h:o.wr=true):o.live=true:=by cases o<;>simp_all [O.wr,O.live]
def Yar(P:Program)(g:V)(args:List V)(st:St)(v:V)(st':St):Prop:=
 ∀(μ:Mu) (w:World) (G:Value) (xs:List Value),Zbb P μ w st→VR μ g G→VRs μ args xs→
  Zk7 P g.isY G ⟨xs⟩ w fun x w'=>∃μ' ws,VR μ' v x∧Stp P μ w st μ' w' st' ws
def Zk7.mono{P:Program}{y:Bool}{G:Value}{xs:Array Value}{w:World}{R R':Value→World→Prop}(h:Zk7 P y G xs w R)(hR:∀x w',R x w'→R' x w'):Zk7 P y G xs w R':=by
 obtain⟨d,hd,hrest⟩:=h
 refine⟨d,hd,?_⟩
 rcases hrest with⟨hy,f,args,hinv,hci⟩|⟨hy,l,f,tmps,asg,bod,hinv,hri⟩
 ·refine .inl ⟨hy,f,args,hinv,CallsIn.mono (F:=Fence.wide) hci fun e w' he=>?_⟩
  cases e with
  |returned x=>exact hR x w' he
  |panicked _=>exact he.elim
  |outgrown=>exact he.elim
 ·refine .inr ⟨hy,l,f,tmps,asg,bod,hinv,RoundIn.mono (F:=Fence.wide) hri fun e w' he=>?_⟩
  cases e with
  |returned x=>exact hR x w' he
  |panicked _=>exact he.elim
  |outgrown=>exact he.elim
structure Zoz (P:Program) (σ ρ:Nat→Option Nat) (W:List Nat) (s s' S S':St):Prop where
 dom:∀i i',σ i=some i'→i<s.n∧i'<S.n
 inj:∀i j i',σ i=some i'→σ j=some i'→i=j
 glob:∀g,g<P.globals.size→σ g=some g
 obj:∀i i',σ i=some i'→∃o O',s.h.get i=some o∧Yk6 σ o O'∧(S.h.get i'=some O'∨o=.dead)
 old:∀i,i<s.n→ρ i=σ i
 new:∀i i',s.n≤i→ρ i=some i'→S.n≤i'∧i'<S'.n∧i<s'.n
 ninj:∀i j i',s.n≤i→s.n≤j→ρ i=some i'→ρ j=some i'→i=j
 full:∀i',S.n≤i'→i'<S'.n→∃i,s.n≤i∧ρ i=some i'
 nle:S.n≤S'.n
 w0:s.w=[]
 W1:∀i i',i∈s'.w→σ i=some i'→i'∈W
 W2:∀j,j∈W→∃i,i∈s'.w∧σ i=some j
 wl:S'.w=W++S.w
 keep:∀j,j<S.n→j∉W→S'.h.get j=S.h.get j
 wr:∀i i',i∈s'.w→σ i=some i'→∃o O',s'.h.get i=some o∧S'.h.get i'=some O'∧(O'=.dead∨o.ren ρ=some O')
 obn:∀i i',s.n≤i→ρ i=some i'→∃o O',s'.h.get i=some o∧S'.h.get i'=some O'∧(O'=.dead∨o.ren ρ=some O')
section
variable {P:Program} {σ ρ:Nat→Option Nat} {W:List Nat} {s s' S S':St}
def Zoz.hrel(F:Zoz P σ ρ W s s' S S'){μ:Mu}{w:World}(hh:Zbb P μ w S):Zbb P (fun i=>(σ i).bind μ) w s:=by
 have hb:∀i l,(σ i).bind μ=some l→∃i',σ i=some i'∧μ i'=some l:=fun i l h=>by
  cases hs:σ i with
  |none=>rw[hs]at h;cases h
  |some i'=>rw[hs]at h;exact⟨i',rfl,h⟩
 refine⟨fun i l hl=>?_,fun i l hl=>?_,fun i j l l' o o' hi hj hne ho ho' hw hlv=>?_,fun g hg=>?_⟩
 ·obtain⟨i',h1,h2⟩:=hb i l hl
  exact⟨(F.dom i i' h1).1,(hh.dom i' l h2).2⟩
 ·obtain⟨i',h1,h2⟩:=hb i l hl
  obtain⟨o,O',g1,g2,g3⟩:=F.obj i i' h1
  refine⟨o,g1,?_⟩
  rcases g3 with g3|rfl
  ·obtain⟨O2,q1,q2⟩:=hh.obj i' l h2
   rw[g3]at q1;cases q1
   exact Yk6.om (fun i i' hi=>by simp[hi]) g2 q2
  ·trivial
 ·obtain⟨i',h1,h2⟩:=hb i l hi
  obtain⟨j',h3,h4⟩:=hb j l' hj
  obtain⟨o1,O1,a1,a2,a3⟩:=F.obj i i' h1
  obtain⟨o2,O2,b1,b2,b3⟩:=F.obj j j' h3
  rw[ho]at a1;cases a1
  rw[ho']at b1;cases b1
  have a3':S.h.get i'=some O1:=a3.resolve_right fun e=>by subst e;simp[O.wr]at hw
  have b3':S.h.get j'=some O2:=b3.resolve_right fun e=>by subst e;simp[O.live]at hlv
  refine hh.inj i' j' l l' O1 O2 h2 h4 (fun e=>hne ?_) a3' b3' (a2.wr hw).1 (b2.live hlv)
  subst e;exact F.inj i j i' h1 h3
 ·obtain⟨t,ht⟩:=hh.glob g hg
  exact⟨t,by simp[F.glob g hg,ht]⟩
def Zoz.stp(F:Zoz P σ ρ W s s' S S'){μ:Mu}{w w':World}(hh:Zbb P μ w S){μ':Mu}{ws:List Nat}(h:Stp P (fun i=>(σ i).bind μ) w s μ' w' s' ws):
  ∃μ2,Stp P μ w S μ2 w' S' W∧∀i i',ρ i=some i'→μ' i=μ2 i':=by
 have hws:s'.w=ws:=by have:=h.wl;rw[F.w0]at this;simpa using this
 have hinv:∃τ:Nat→Nat,∀i',S.n≤i'→i'<S'.n→s.n≤τ i'∧ρ (τ i')=some i':=by
  classical
  refine⟨fun i'=>if hc:∃i,s.n≤i∧ρ i=some i' then hc.choose else 0,fun i' h1 h2=>?_⟩
  have hc:=F.full i' h1 h2
  simp only[dif_pos hc]
  exact hc.choose_spec
 obtain⟨τ,hτ⟩:=hinv
 let μ2:Mu:=fun i'=>if i'<S.n then μ i' else if i'<S'.n then μ' (τ i') else none
 have hold:∀i',i'<S.n→μ2 i'=μ i':=fun i' hi=>by show (if i'<S.n then _ else _)=_;rw[Yv6 hi]
 have hnew:∀i',S.n≤i'→i'<S'.n→μ2 i'=μ' (τ i'):=fun i' h1 h2=>by show (if i'<S.n then _ else _)=_;rw[Yv4 (by omega),Yv6 h2]
 have hout:∀i' l,μ2 i'=some l→i'<S'.n:=fun i' l hl=>by
  by_cases h1:i'<S.n
  ·exact Ywf h1 F.nle
  ·by_cases h2:i'<S'.n
   ·exact h2
   ·have:μ2 i'=none:=by show (if i'<S.n then _ else _)=_;rw[Yv4 h1,Yv4 h2]
    rw[this]at hl;cases hl
 have hμs:∀i,i<s.n→μ' i=(σ i).bind μ:=fun i hi=>h.ext i hi
 have hρ:∀i i',ρ i=some i'→μ' i=μ2 i':=fun i i' hi=>by
  by_cases h1:i<s.n
  ·have h2:σ i=some i':=(F.old i h1).symm.trans hi
   rw[hμs i h1,h2,hold i' (F.dom i i' h2).2];rfl
  ·obtain⟨g1,g2,_⟩:=F.new i i' (by omega) hi
   obtain⟨k1,k2⟩:=hτ i' g1 g2
   rw[hnew i' g1 g2,F.ninj i (τ i') i' (by omega) k1 hi k2]
 have hwold:∀j,j∈W→∃i,i∈ws∧σ i=some j∧i<s.n∧j<S.n:=fun j hj=>by
  obtain⟨i,h1,h2⟩:=F.W2 j hj
  exact⟨i,hws▸h1,h2,F.dom i j h2⟩
 have hwas:∀i i',i∈ws→σ i=some i'→∃O',S.h.get i'=some O'∧O'.wr=true:=fun i i' hi hs=>by
  obtain⟨o,ho,hw⟩:=h.wrt i hi (F.dom i i' hs).1
  obtain⟨o1,O1,a1,a2,a3⟩:=F.obj i i' hs
  rw[ho]at a1;cases a1
  exact⟨O1,a3.resolve_right fun e=>by subst e;simp[O.wr]at hw,(a2.wr hw).1⟩
 have hblk:∀j l,j<S.n→j∉W→μ j=some l→∀O',S.h.get j=some O'→O'.live=true→w'.heap[l.b]?=w.heap[l.b]?:=fun j l hj hnW hl O' hO hlv=>by
  refine h.chg.block l.b (hh.dom j l hl).2 fun i hi li hli=>?_
  cases hs:σ i with
  |none=>simp[hs]at hli
  |some i'=>
   simp only[hs,Option.bind_some]at hli
   obtain⟨O1,q1,q2⟩:=hwas i i' hi hs
   refine hh.inj i' j li l O1 O' hli hl (fun e=>hnW ?_) q1 hO q2 hlv
   subst e;exact F.W1 i i' (hws▸hi) hs
 have hobj:∀i i' l,ρ i=some i'→μ2 i'=some l→(s.n≤i∨i∈ws)→∃o O',s'.h.get i=some o∧S'.h.get i'=some O'∧(O'=.dead∨o.ren ρ=some O')∧OM P μ2 w' O' l:=fun i i' l hi hl hc=>by
  have key:∃o O',s'.h.get i=some o∧S'.h.get i'=some O'∧(O'=.dead∨o.ren ρ=some O'):=by
   by_cases h1:i<s.n
   ·rcases hc with hc|hc
    ·omega
    ·exact F.wr i i' (hws▸hc) ((F.old i h1).symm.trans hi)
   ·exact F.obn i i' (by omega) hi
  obtain⟨o,O',g1,g2,g3⟩:=key
  refine⟨o,O',g1,g2,g3,?_⟩
  rcases g3 with rfl|g3
  ·trivial
  ·obtain⟨o2,q1,q2⟩:=h.hr.obj i l ((hρ i i' hi).trans hl)
   rw[g1]at q1;cases q1
   exact(OM.ren hρ g3).1 q2
 have hcase:∀i' l,μ2 i'=some l→(i'<S.n∧i'∉W∧μ i'=some l∧S'.h.get i'=S.h.get i')∨∃i,ρ i=some i'∧μ' i=some l∧(s.n≤i∨i∈ws):=fun i' l hl=>by
  by_cases h1:i'<S.n
  ·by_cases h2:i'∈W
   ·obtain⟨i,q1,q2,q3,_⟩:=hwold i' h2
    have hr:ρ i=some i':=(F.old i q3).trans q2
    exact .inr ⟨i,hr,(hρ i i' hr).trans hl,.inr q1⟩
   ·exact .inl ⟨h1,h2,(hold i' h1)▸hl,F.keep i' h1 h2⟩
  ·have h2:=hout i' l hl
   obtain⟨k1,k2⟩:=hτ i' (by omega) h2
   exact .inr ⟨τ i',k2,(hρ _ _ k2).trans hl,.inl k1⟩
 have hapart:∀i' l O',i'<S.n→i'∉W→μ i'=some l→S.h.get i'=some O'→O'.live=true→∀k k' lk,ρ k=some k'→μ' k=some lk→(s.n≤k∨k∈ws)→(O'.wr=true∨∃o,s'.h.get k=some o∧o.wr=true)→l.b≠lk.b:=by
  intro i' l O' hi hnW hl hO hlv k k' lk hk hlk hc hor
  by_cases h1:k<s.n
  ·have hkw:k∈ws:=hc.resolve_left (by omega)
   have hs:σ k=some k':=(F.old k h1).symm.trans hk
   obtain⟨O1,q1,q2⟩:=hwas k k' hkw hs
   have hk2:μ k'=some lk:=by rw[hμs k h1,hs]at hlk;exact hlk
   have hne:k'≠i':=fun e=>hnW (e▸F.W1 k k' (hws▸hkw) hs)
   exact(hh.inj k' i' lk l O1 O' hk2 hl hne q1 hO q2 hlv).symm
  ·rcases h.new k lk (by omega) hlk with hge|⟨j,hj,hjn,lj,oj,hlj,hb,hoj,hjw⟩
   ·have:=(hh.dom i' l hl).2;omega
   ·cases hs:σ j with
    |none=>simp[hs]at hlj
    |some j'=>
     simp only[hs,Option.bind_some]at hlj
     obtain⟨O1,q1,q2⟩:=hwas j j' hj hs
     have hne:j'≠i':=fun e=>hnW (e▸F.W1 j j' (hws▸hj) hs)
     rw[←hb]
     exact(hh.inj j' i' lj l O1 O' hlj hl hne q1 hO q2 hlv).symm
 refine⟨μ2,⟨⟨fun i' l hl=>⟨hout i' l hl,?_⟩,fun i' l hl=>?_,fun i' j' l l' O1 O2 hi hj hne hO1 hO2 hw hlv=>?_,fun g hg=>?_⟩,hold,F.nle,F.wl,⟨h.chg.os,h.chg.tape,h.chg.output,h.chg.size,fun b hb hnot=>?_⟩,fun i' l hi' hl=>?_,F.keep,fun i' O' hi' hO=>?_,fun i' h1 h2=>?_,fun i' hi' _=>?_⟩,hρ⟩
 ·rcases hcase i' l hl with⟨_,_,g,_⟩|⟨i,_,g,_⟩
  ·exact Ywf (hh.dom i' l g).2 h.chg.size
  ·exact(h.hr.dom i l g).2
 ·rcases hcase i' l hl with⟨g1,g2,g3,g4⟩|⟨i,g1,g2,g3⟩
  ·obtain⟨O',q1,q2⟩:=hh.obj i' l g3
   refine⟨O',g4.trans q1,?_⟩
   cases hlv:O'.live with
   |false=>cases O'<;>simp[O.live]at hlv;trivial
   |true=>
    refine OM.congr (w:=w) (hblk i' l g1 g2 g3 O' q1 hlv) (q2.mono fun k lk hk=>?_)
    rw[hold k (hh.dom k lk hk).1];exact hk
  ·obtain⟨o,O',q1,q2,q3,q4⟩:=hobj i i' l g1 hl g3
   exact⟨O',q2,q4⟩
 ·rcases hcase i' l hi with⟨a1,a2,a3,a4⟩|⟨i,a1,a2,a3⟩
  ·rw[a4]at hO1
   rcases hcase j' l' hj with⟨b1,b2,b3,b4⟩|⟨j,b1,b2,b3⟩
   ·rw[b4]at hO2
    exact hh.inj i' j' l l' O1 O2 a3 b3 hne hO1 hO2 hw hlv
   ·exact hapart i' l O1 a1 a2 a3 hO1 (O.wr_live hw) j j' l' b1 b2 b3 (.inl hw)
  ·obtain⟨o1,O1',q1,q2,q3,_⟩:=hobj i i' l a1 hi a3
   rw[hO1]at q2;cases q2
   have q3':o1.ren ρ=some O1:=q3.resolve_left fun e=>by subst e;simp[O.wr]at hw
   have hw1:o1.wr=true:=(O.ren_wr q3').symm.trans hw
   rcases hcase j' l' hj with⟨b1,b2,b3,b4⟩|⟨j,b1,b2,b3⟩
   ·rw[b4]at hO2
    exact(hapart j' l' O2 b1 b2 b3 hO2 hlv i i' l a1 a2 a3 (.inr ⟨o1,q1,hw1⟩)).symm
   ·obtain⟨o2,O2',r1,r2,r3,_⟩:=hobj j j' l' b1 hj b3
    rw[hO2]at r2;cases r2
    have r3':o2.ren ρ=some O2:=r3.resolve_left fun e=>by subst e;simp[O.live]at hlv
    refine h.hr.inj i j l l' o1 o2 a2 b2 (fun e=>hne ?_) q1 r1 hw1 ((O.ren_live r3').symm.trans hlv)
    subst e;rw[a1]at b1;cases b1;rfl
 ·obtain⟨t,ht⟩:=hh.glob g hg
  exact⟨t,by rw[hold g (hh.dom g _ ht).1];exact ht⟩
 ·refine h.chg.block b hb fun i hi l hl=>?_
  cases hs:σ i with
  |none=>simp[hs]at hl
  |some i'=>
   simp only[hs,Option.bind_some]at hl
   exact hnot i' (F.W1 i i' (hws▸hi) hs) l hl
 ·have h2:=hout i' l hl
  obtain⟨k1,k2⟩:=hτ i' hi' h2
  rcases h.new (τ i') l k1 ((hρ _ _ k2).trans hl)with hge|⟨j,hj,hjn,lj,oj,hlj,hb,hoj,hjw⟩
  ·exact .inl hge
  ·cases hs:σ j with
   |none=>simp[hs]at hlj
   |some j'=>
    simp only[hs,Option.bind_some]at hlj
    obtain⟨O1,q1,q2⟩:=hwas j j' hj hs
    exact .inr ⟨j',F.W1 j j' (hws▸hj) hs,(F.dom j j' hs).2,lj,O1,hlj,hb,q1,q2⟩
 ·by_cases hW:i'∈W
  ·obtain⟨i,q1,q2,q3,q4⟩:=hwold i' hW
   obtain⟨O1,r1,r2⟩:=hwas i i' q1 q2
   exact⟨O1,r1,fun _=>r2,fun _=>O.wr_live r2⟩
  ·exact⟨O',(F.keep i' hi' hW).symm.trans hO,id,id⟩
 ·obtain⟨k1,k2⟩:=hτ i' h1 h2
  obtain⟨l,hl⟩:=h.full (τ i') k1 (F.new _ _ k1 k2).2.2
  exact⟨l,(hnew i' h1 h2).trans hl⟩
 ·obtain⟨i,q1,q2,_⟩:=hwold i' hi'
  exact hwas i i' q1 q2
def Yar.frame{g v:V}{args:List V}(h:Yar P g args s v s')(F:Zoz P σ ρ W s s' S S'){g' v':V}{args':List V}(hg:V.ren σ g=some g')(ha:V.rens σ args=some args')(hv:V.ren ρ v=some v'):
  Yar P g' args' S v' S':=by
 intro μ w G xs hh hG hxs
 have hσ:∀i i',σ i=some i'→(fun i=>(σ i).bind μ) i=μ i':=fun i i' hi=>by simp[hi]
 have:=h (fun i=>(σ i).bind μ) w G xs (F.hrel hh) ((VR.ren hσ g g' G hg).2 hG) ((VRs.ren hσ args args' xs ha).2 hxs)
 rw[V.ren_isY hg]
 refine this.mono fun x w' ⟨μ',ws,h1,h2⟩=>?_
 obtain⟨μ2,k1,k2⟩:=F.stp hh h2
 exact⟨μ2,W,(VR.ren k2 v v' x hv).1 h1,k1⟩
end
def Zer(a b:Za4):Za4:=fun g args st=>match a g args st with
 |some r=>some r
 |none=>b g args st
def Zbx.or{P:Program}{a b:Za4}(ha:Zbx P a)(hb:Zbx P b):Zbx P (Zer a b):=by
 intro g args st v st' h
 unfold Zer at h
 split at h
 ·rename_i r hr
  cases h
  exact ha g args st v st' hr
 ·exact hb g args st v st' h
end Go.Mx
