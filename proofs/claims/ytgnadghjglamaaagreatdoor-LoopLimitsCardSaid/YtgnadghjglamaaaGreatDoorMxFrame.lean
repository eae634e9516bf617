/-The frame of a call-/
import Derived.Test.YtgnadghjglamaaaGreatDoorMxFlt
set_option linter.all false
namespace Go.Mx
open Go
mutual
def V.cj(ρ:Nat->Option Nat):V->Option V
 |.bool b=>some (.bool b)
 |.int k n=>some (.int k n)
 |.kg k n=>some (.kg k n)
 |.rO k a b=>some (.rO k a b)
 |.str s=>some (.str s)
 |.zgi=>some .zgi
 |.ptr i o=>match ρ i with
  |some i=>some (.ptr i o)
  |none=>none
 |.aa=>some .aa
 |.slice i o len cap sz=>match ρ i with
  |some i=>some (.slice i o len cap sz)
  |none=>none
 |.empty=>some .empty
 |.bV=>some .bV
 |.map i=>match ρ i with
  |some i=>some (.map i)
  |none=>none
 |.bX=>some .bX
 |.chan i=>match ρ i with
  |some i=>some (.chan i)
  |none=>none
 |.func f a c=>match V.eH ρ a,V.eH ρ c with
  |some a,some c=>some (.func f a c)
  |_,_=>none
 |.yield i=>match ρ i with
  |some i=>some (.yield i)
  |none=>none
 |.bY=>some .bY
 |.iface t v=>match V.cj ρ v with
  |some v=>some (.iface t v)
  |none=>none
 |.aX=>some .aX
 |.agg l=>match V.eH ρ l with
  |some l=>some (.agg l)
  |none=>none
 |.aS l=>match V.eH ρ l with
  |some l=>some (.aS l)
  |none=>none
def V.eH(ρ:Nat->Option Nat):List V->Option (List V)
 |[]=>some []
 |v::vs=>match V.cj ρ v,V.eH ρ vs with
  |some v,some vs=>some (v::vs)
  |_,_=>none
end
mutual
def VR.cj{μ μ':Mu}{ρ:Nat->Option Nat}(h:∀i i',ρ i=some i'->μ i=μ' i'):∀(v v':V) (x:Value),V.cj ρ v=some v'->(VR μ v x↔VR μ' v' x)
 |.bool _,v',x,hv=>by simp only[V.cj,au]at hv;subst hv;simp only[VR]
 |.int _ _,v',x,hv=>by simp only[V.cj,au]at hv;subst hv;simp only[VR]
 |.kg _ _,v',x,hv=>by simp only[V.cj,au]at hv;subst hv;simp only[VR]
 |.rO _ _ _,v',x,hv=>by simp only[V.cj,au]at hv;subst hv;simp only[VR]
 |.str _,v',x,hv=>by simp only[V.cj,au]at hv;subst hv;simp only[VR]
 |.zgi,v',x,hv=>by simp only[V.cj,au]at hv;subst hv;simp only[VR]
 |.ptr _ _,v',x,hv=>by
  simp only[V.cj]at hv;split at hv
  ·rename_i i' hi;simp only[au]at hv;subst hv;simp only[VR,h _ _ hi]
  ·cases hv
 |.aa,v',x,hv=>by simp only[V.cj,au]at hv;subst hv;simp only[VR]
 |.slice _ _ _ _ _,v',x,hv=>by
  simp only[V.cj]at hv;split at hv
  ·rename_i i' hi;simp only[au]at hv;subst hv;simp only[VR,h _ _ hi]
  ·cases hv
 |.empty,v',x,hv=>by simp only[V.cj,au]at hv;subst hv;simp only[VR]
 |.bV,v',x,hv=>by simp only[V.cj,au]at hv;subst hv;simp only[VR]
 |.map _,v',x,hv=>by
  simp only[V.cj]at hv;split at hv
  ·rename_i i' hi;simp only[au]at hv;subst hv;simp only[VR,h _ _ hi]
  ·cases hv
 |.bX,v',x,hv=>by simp only[V.cj,au]at hv;subst hv;simp only[VR]
 |.chan _,v',x,hv=>by
  simp only[V.cj]at hv;split at hv
  ·rename_i i' hi;simp only[au]at hv;subst hv;simp only[VR,h _ _ hi]
  ·cases hv
 |.func _ a c,v',x,hv=>by
  simp only[V.cj]at hv;split at hv
  ·rename_i a' c' ha hc;simp only[au]at hv;subst hv
   simp only[VR,fun xs=>aW.cj h a a' xs ha,fun xs=>aW.cj h c c' xs hc]
  ·cases hv
 |.yield _,v',x,hv=>by
  simp only[V.cj]at hv;split at hv
  ·rename_i i' hi;simp only[au]at hv;subst hv;simp only[VR,h _ _ hi]
  ·cases hv
 |.bY,v',x,hv=>by simp only[V.cj,au]at hv;subst hv;simp only[VR]
 |.iface _ v,v',x,hv=>by
  simp only[V.cj]at hv;split at hv
  ·rename_i u hu;simp only[au]at hv;subst hv;simp only[VR,fun y=>VR.cj h v u y hu]
  ·cases hv
 |.aX,v',x,hv=>by simp only[V.cj,au]at hv;subst hv;simp only[VR]
 |.agg l,v',x,hv=>by
  simp only[V.cj]at hv;split at hv
  ·rename_i l' hl;simp only[au]at hv;subst hv;simp only[VR,fun xs=>aW.cj h l l' xs hl]
  ·cases hv
 |.aS l,v',x,hv=>by
  simp only[V.cj]at hv;split at hv
  ·rename_i l' hl;simp only[au]at hv;subst hv;simp only[VR,fun xs=>aW.cj h l l' xs hl]
  ·cases hv
def aW.cj{μ μ':Mu}{ρ:Nat->Option Nat}(h:∀i i',ρ i=some i'->μ i=μ' i'):∀(vs mj:List V) (xs:List Value),V.eH ρ vs=some mj->(aW μ vs xs↔aW μ' mj xs)
 |[],mj,xs,hv=>by simp only[V.eH,au]at hv;subst hv;simp only[aW]
 |v::vs,mj,xs,hv=>by
  simp only[V.eH]at hv;split at hv
  ·rename_i u us hu uR;simp only[au]at hv;subst hv
   simp only[aW,fun y=>VR.cj h v u y hu,fun ys=>aW.cj h vs us ys uR]
  ·cases hv
end
def V.iQ{ρ:Nat->Option Nat}:∀{vs mj:List V},V.eH ρ vs=some mj->mj.length=vs.length
 |[],mj,h=>by simp only[V.eH,au]at h;subst h;rfl
 |v::vs,mj,h=>by
  simp only[V.eH]at h;split at h
  ·rename_i u us hu uR;simp only[au]at h;subst h;simp[V.iQ uR]
  ·cases h
def V.sV{ρ:Nat->Option Nat}:∀{vs mj:List V} {j:Nat} {v':V},V.eH ρ vs=some mj->mj[j]?=some v'->∃v,vs[j]?=some v/\V.cj ρ v=some v'
 |[],mj,j,v',h,hj=>by simp only[V.eH,au]at h;subst h;simp at hj
 |v::vs,mj,j,v',h,hj=>by
  simp only[V.eH]at h;split at h
  ·rename_i u us hu uR;simp only[au]at h;subst h
   cases j with
   |zero=>simp at hj;subst hj;exact⟨v,by simp,hu⟩
   |succ j=>simpa using V.sV uR (j:=j) (by simpa using hj)
  ·cases h
def V.pN{ρ:Nat->Option Nat}:∀{vs mj:List V} {j:Nat} {v:V},V.eH ρ vs=some mj->vs[j]?=some v->∃v',mj[j]?=some v'/\V.cj ρ v=some v'
 |[],mj,j,v',h,hj=>by simp at hj
 |v::vs,mj,j,v',h,hj=>by
  simp only[V.eH]at h;split at h
  ·rename_i u us hu uR;simp only[au]at h;subst h
   cases j with
   |zero=>simp at hj;subst hj;exact⟨u,by simp,hu⟩
   |succ j=>simpa using V.pN uR (j:=j) (by simpa using hj)
  ·cases h
def V.Cm{ρ:Nat->Option Nat}{v v':V}(h:V.cj ρ v=some v'):v'.Lw=v.Lw:=by
 cases v<;>simp only[V.cj]at h<;>(try split at h)<;>simp only[au,reduceCtorEq]at h<;>subst h<;>rfl
def OB(ρ:Nat->Option Nat):List (V×V)->Option (List (V×V))
 |[]=>some []
 |(k,v)::es=>match V.cj ρ k,V.cj ρ v,OB ρ es with
  |some k,some v,some es=>some ((k,v)::es)
  |_,_,_=>none
def iV.cj{μ μ':Mu}{ρ:Nat->Option Nat}(h:∀i i',ρ i=some i'->μ i=μ' i'):∀(es es':List (V×V)) (xs:List MapEntry) (i:Nat),OB ρ es=some es'->(iV μ es xs i↔iV μ' es' xs i)
 |[],es',xs,i,he=>by simp only[OB,au]at he;subst he;simp only[iV]
 |(k,v)::es,es',xs,i,he=>by
  simp only[OB]at he;split at he
  ·rename_i k' v' us hk hv uR;simp only[au]at he;subst he
   simp only[iV,fun y=>VR.cj h k k' y hk,fun y=>VR.cj h v v' y hv,fun ys i=>iV.cj h es us ys i uR]
  ·cases he
def O.cj(ρ:Nat->Option Nat):O->Option O
 |.cells c e rw=>match V.eH ρ c with
  |some c=>some (.cells c e rw)
  |none=>none
 |.map es=>match OB ρ es with
  |some es=>some (.map es)
  |none=>none
 |.chan cap buf=>match V.eH ρ buf with
  |some buf=>some (.chan cap buf)
  |none=>none
 |.eP s pos=>some (.eP s pos)
 |.defs o=>some (.defs o)
 |.loop _=>none
 |.dead=>some .dead
def O.zM{ρ:Nat->Option Nat}{o o':O}(h:o.cj ρ=some o'):o'.wr=o.wr:=by
 cases o<;>simp only[O.cj]at h<;>(try split at h)<;>simp only[au,reduceCtorEq]at h<;>subst h<;>rfl
def O.sW{ρ:Nat->Option Nat}{o o':O}(h:o.cj ρ=some o'):o'.live=o.live:=by
 cases o<;>simp only[O.cj]at h<;>(try split at h)<;>simp only[au,reduceCtorEq]at h<;>subst h<;>rfl
def OM.cj{P:Program}{μ μ':Mu}{w:World}{ρ:Nat->Option Nat}(h:∀i i',ρ i=some i'->μ i=μ' i'){o o':O}{l:L}(ho:o.cj ρ=some o'):OM P μ w o l↔OM P μ' w o' l:=by
 cases o with
 |cells c e rw=>
  simp only[O.cj]at ho;split at ho
  ·rename_i c' hc;simp only[au]at ho;subst ho
   constructor
   ·rintro⟨d,lo,hi,h1,h2,h3,h4,h5⟩
    refine⟨d,lo,hi,h1,h2,by rw[V.iQ hc];exact h3,fun j v' Jq=>?_,h5⟩
    obtain⟨v,hv,hr⟩:=V.sV hc Jq
    obtain⟨x,hx,AX⟩:=h4 j v hv
    exact⟨x,hx,(VR.cj h v v' x hr).1 AX⟩
   ·rintro⟨d,lo,hi,h1,h2,h3,h4,h5⟩
    refine⟨d,lo,hi,h1,h2,by rw[V.iQ hc]at h3;exact h3,fun j v hv=>?_,h5⟩
    obtain⟨v',Jq,hr⟩:=V.pN hc hv
    obtain⟨x,hx,AX⟩:=h4 j v' Jq
    exact⟨x,hx,(VR.cj h v v' x hr).2 AX⟩
  ·cases ho
 |map es=>
  simp only[O.cj]at ho;split at ho
  ·rename_i es' he;simp only[au]at ho;subst ho
   simp only[OM,fun xs i=>iV.cj h es es' xs i he]
  ·cases ho
 |chan cap buf=>
  simp only[O.cj]at ho;split at ho
  ·rename_i c' hc;simp only[au]at ho;subst ho
   simp only[OM,fun xs=>aW.cj h buf c' xs hc]
  ·cases ho
 |eP s pos=>simp only[O.cj,au]at ho;subst ho;simp only[OM]
 |loop R=>simp only[O.cj,reduceCtorEq]at ho
 |defs b=>simp only[O.cj,au]at ho;subst ho;simp only[OM]
 |dead=>simp only[O.cj,au]at ho;subst ho;simp only[OM]
def D5(ρ:Nat->Option Nat)(o O':O):Prop:=
 o=.dead\/o.cj ρ=some O'\/∃c e c',o=.cells c e false/\V.eH ρ c=some c'/\O'=.cells c' e true
def D5.om{P:Program}{μ μ':Mu}{w:World}{ρ:Nat->Option Nat}(h:∀i i',ρ i=some i'->μ i=μ' i'){o o':O}{l:L}(ho:D5 ρ o o')(hm:OM P μ' w o' l):OM P μ w o l:=by
 rcases ho with rfl|ho|⟨c,e,c',rfl,hc,rfl⟩
 ·trivial
 ·exact(OM.cj h ho).2 hm
 ·have h1:(O.cells c e true).cj ρ=some (.cells c' e true):=by simp only[O.cj,hc]
  obtain⟨d,lo,hi,q1,q2,q3,q4,q5,_⟩:=(OM.cj h h1).2 hm
  exact⟨d,lo,hi,q1,q2,q3,q4,q5,fun hx=>by cases hx⟩
def D5.wr{ρ:Nat->Option Nat}{o o':O}(ho:D5 ρ o o')(h:o.wr=true):o'.wr=true/\o.cj ρ=some o':=by
 rcases ho with rfl|ho|⟨c,e,c',rfl,hc,rfl⟩
 ·simp[O.wr]at h
 ·exact⟨(O.zM ho).trans h,ho⟩
 ·simp[O.wr]at h
def D5.live{ρ:Nat->Option Nat}{o o':O}(ho:D5 ρ o o')(h:o.live=true):o'.live=true:=by
 rcases ho with rfl|ho|⟨c,e,c',rfl,hc,rfl⟩
 ·simp[O.live]at h
 ·exact(O.sW ho).trans h
 ·rfl
def O.wH{o:O}(h:o.wr=true):o.live=true:=by cases o<;>simp_all [O.wr,O.live]
def LY(P:Program)(g:V)(args:List V)(st:St)(v:V)(aB:St):Prop:=
 ∀(μ:Mu) (w:World) (G:Value) (xs:List Value),bk P μ w st->VR μ g G->aW μ args xs->
  OC P g.Lw G ⟨xs⟩ w fun x w'=>∃μ' ws,VR μ' v x/\bD P μ w st μ' w' aB ws
def OC.mono{P:Program}{y:Bool}{G:Value}{xs:Array Value}{w:World}{R R':Value->World->Prop}(h:OC P y G xs w R)(hR:∀x w',R x w'->R' x w'):OC P y G xs w R':=by
 obtain⟨d,hd,ik⟩:=h
 refine⟨d,hd,?_⟩
 rcases ik with⟨hy,f,args,hinv,IK⟩|⟨hy,l,f,tmps,fU,fV,hinv,LZ⟩
 ·refine .inl ⟨hy,f,args,hinv,CallsIn.mono (F:=Fence.wide) IK fun e w' he=>?_⟩
  cases e with
  |returned x=>exact hR x w' he
  |panicked _=>exact he.elim
  |outgrown=>exact he.elim
 ·refine .inr ⟨hy,l,f,tmps,fU,fV,hinv,RoundIn.mono (F:=Fence.wide) LZ fun e w' he=>?_⟩
  cases e with
  |returned x=>exact hR x w' he
  |panicked _=>exact he.elim
  |outgrown=>exact he.elim
structure Jr (P:Program) (σ ρ:Nat->Option Nat) (W:List Nat) (s s' S S':St):Prop where
 dc:∀i i',σ i=some i'->i<s.n/\i'<S.n
 inj:∀i j i',σ i=some i'->σ j=some i'->i=j
 ij:∀g,g<P.globals.size->σ g=some g
 obj:∀i i',σ i=some i'->∃o O',s.h.get i=some o/\D5 σ o O'/\(S.h.get i'=some O'\/o=.dead)
 old:∀i,i<s.n->ρ i=σ i
 new:∀i i',s.n<=i->ρ i=some i'->S.n<=i'/\i'<S'.n/\i<s'.n
 Js:∀i j i',s.n<=i->s.n<=j->ρ i=some i'->ρ j=some i'->i=j
 full:∀i',S.n<=i'->i'<S'.n->∃i,s.n<=i/\ρ i=some i'
 iT:S.n<=S'.n
 w0:s.w=[]
 W1:∀i i',i∈s'.w->σ i=some i'->i'∈W
 W2:∀j,j∈W->∃i,i∈s'.w/\σ i=some j
 wl:S'.w=W++S.w
 ah:∀j,j<S.n->j∉W->S'.h.get j=S.h.get j
 wr:∀i i',i∈s'.w->σ i=some i'->∃o O',s'.h.get i=some o/\S'.h.get i'=some O'/\(O'=.dead\/o.cj ρ=some O')
 obn:∀i i',s.n<=i->ρ i=some i'->∃o O',s'.h.get i=some o/\S'.h.get i'=some O'/\(O'=.dead\/o.cj ρ=some O')
section
variable {P:Program} {σ ρ:Nat->Option Nat} {W:List Nat} {s s' S S':St}
def Jr.sU(F:Jr P σ ρ W s s' S S'){μ:Mu}{w:World}(hh:bk P μ w S):bk P (fun i=>(σ i).bind μ) w s:=by
 have hb:∀i l,(σ i).bind μ=some l->∃i',σ i=some i'/\μ i'=some l:=fun i l h=>by
  cases hs:σ i with
  |none=>rw[hs]at h;cases h
  |some i'=>rw[hs]at h;exact⟨i',rfl,h⟩
 refine⟨fun i l hl=>?_,fun i l hl=>?_,fun i j l l' o o' hi hj bF ho wA hw qP=>?_,fun g hg=>?_⟩
 ·obtain⟨i',h1,h2⟩:=hb i l hl
  exact⟨(F.dc i i' h1).1,(hh.dc i' l h2).2⟩
 ·obtain⟨i',h1,h2⟩:=hb i l hl
  obtain⟨o,O',g1,g2,g3⟩:=F.obj i i' h1
  refine⟨o,g1,?_⟩
  rcases g3 with g3|rfl
  ·obtain⟨O2,q1,q2⟩:=hh.obj i' l h2
   rw[g3]at q1;cases q1
   exact D5.om (fun i i' hi=>by simp[hi]) g2 q2
  ·trivial
 ·obtain⟨i',h1,h2⟩:=hb i l hi
  obtain⟨j',h3,h4⟩:=hb j l' hj
  obtain⟨o1,O1,a1,a2,a3⟩:=F.obj i i' h1
  obtain⟨o2,O2,b1,b2,b3⟩:=F.obj j j' h3
  rw[ho]at a1;cases a1
  rw[wA]at b1;cases b1
  have Si:S.h.get i'=some O1:=a3.resolve_right fun e=>by subst e;simp[O.wr]at hw
  have b3':S.h.get j'=some O2:=b3.resolve_right fun e=>by subst e;simp[O.live]at qP
  refine hh.inj i' j' l l' O1 O2 h2 h4 (fun e=>bF ?_) Si b3' (a2.wr hw).1 (b2.live qP)
  subst e;exact F.inj i j i' h1 h3
 ·obtain⟨t,ht⟩:=hh.ij g hg
  exact⟨t,by simp[F.ij g hg,ht]⟩
def Jr.stp(F:Jr P σ ρ W s s' S S'){μ:Mu}{w w':World}(hh:bk P μ w S){μ':Mu}{ws:List Nat}(h:bD P (fun i=>(σ i).bind μ) w s μ' w' s' ws):
  ∃μ2,bD P μ w S μ2 w' S' W/\∀i i',ρ i=some i'->μ' i=μ2 i':=by
 have pM:s'.w=ws:=by have:=h.wl;rw[F.w0]at this;simpa using this
 have hinv:∃τ:Nat->Nat,∀i',S.n<=i'->i'<S'.n->s.n<=τ i'/\ρ (τ i')=some i':=by
  classical
  refine⟨fun i'=>if hc:∃i,s.n<=i/\ρ i=some i' then hc.choose else 0,fun i' h1 h2=>?_⟩
  have hc:=F.full i' h1 h2
  simp only[dif_pos hc]
  exact hc.choose_spec
 obtain⟨τ,hτ⟩:=hinv
 let μ2:Mu:=fun i'=>if i'<S.n then μ i' else if i'<S'.n then μ' (τ i') else none
 have hold:∀i',i'<S.n->μ2 i'=μ i':=fun i' hi=>by show (if i'<S.n then _ else _)=_;rw[aQ hi]
 have xG:∀i',S.n<=i'->i'<S'.n->μ2 i'=μ' (τ i'):=fun i' h1 h2=>by show (if i'<S.n then _ else _)=_;rw[aA (by omega),aQ h2]
 have uD:∀i' l,μ2 i'=some l->i'<S'.n:=fun i' l hl=>by
  by_cases h1:i'<S.n
  ·exact h_ h1 F.iT
  ·by_cases h2:i'<S'.n
   ·exact h2
   ·have:μ2 i'=none:=by show (if i'<S.n then _ else _)=_;rw[aA h1,aA h2]
    rw[this]at hl;cases hl
 have hμs:∀i,i<s.n->μ' i=(σ i).bind μ:=fun i hi=>h.ext i hi
 have hρ:∀i i',ρ i=some i'->μ' i=μ2 i':=fun i i' hi=>by
  by_cases h1:i<s.n
  ·have h2:σ i=some i':=(F.old i h1).symm.trans hi
   rw[hμs i h1,h2,hold i' (F.dc i i' h2).2];rfl
  ·obtain⟨g1,g2,_⟩:=F.new i i' (by omega) hi
   obtain⟨k1,k2⟩:=hτ i' g1 g2
   rw[xG i' g1 g2,F.Js i (τ i') i' (by omega) k1 hi k2]
 have zN:∀j,j∈W->∃i,i∈ws/\σ i=some j/\i<s.n/\j<S.n:=fun j hj=>by
  obtain⟨i,h1,h2⟩:=F.W2 j hj
  exact⟨i,pM▸h1,h2,F.dc i j h2⟩
 have xH:∀i i',i∈ws->σ i=some i'->∃O',S.h.get i'=some O'/\O'.wr=true:=fun i i' hi hs=>by
  obtain⟨o,ho,hw⟩:=h.yk i hi (F.dc i i' hs).1
  obtain⟨o1,O1,a1,a2,a3⟩:=F.obj i i' hs
  rw[ho]at a1;cases a1
  exact⟨O1,a3.resolve_right fun e=>by subst e;simp[O.wr]at hw,(a2.wr hw).1⟩
 have qQ:∀j l,j<S.n->j∉W->μ j=some l->∀O',S.h.get j=some O'->O'.live=true->w'.heap[l.b]?=w.heap[l.b]?:=fun j l hj SX hl O' hO qP=>by
  refine h.eC.block l.b (hh.dc j l hl).2 fun i hi li hli=>?_
  cases hs:σ i with
  |none=>simp[hs]at hli
  |some i'=>
   simp only[hs,Option.bind_some]at hli
   obtain⟨O1,q1,q2⟩:=xH i i' hi hs
   refine hh.inj i' j li l O1 O' hli hl (fun e=>SX ?_) q1 hO q2 qP
   subst e;exact F.W1 i i' (pM▸hi) hs
 have Jt:∀i i' l,ρ i=some i'->μ2 i'=some l->(s.n<=i\/i∈ws)->∃o O',s'.h.get i=some o/\S'.h.get i'=some O'/\(O'=.dead\/o.cj ρ=some O')/\OM P μ2 w' O' l:=fun i i' l hi hl hc=>by
  have key:∃o O',s'.h.get i=some o/\S'.h.get i'=some O'/\(O'=.dead\/o.cj ρ=some O'):=by
   by_cases h1:i<s.n
   ·rcases hc with hc|hc
    ·omega
    ·exact F.wr i i' (pM▸hc) ((F.old i h1).symm.trans hi)
   ·exact F.obn i i' (by omega) hi
  obtain⟨o,O',g1,g2,g3⟩:=key
  refine⟨o,O',g1,g2,g3,?_⟩
  rcases g3 with rfl|g3
  ·trivial
  ·obtain⟨o2,q1,q2⟩:=h.hr.obj i l ((hρ i i' hi).trans hl)
   rw[g1]at q1;cases q1
   exact(OM.cj hρ g3).1 q2
 have sX:∀i' l,μ2 i'=some l->(i'<S.n/\i'∉W/\μ i'=some l/\S'.h.get i'=S.h.get i')\/∃i,ρ i=some i'/\μ' i=some l/\(s.n<=i\/i∈ws):=fun i' l hl=>by
  by_cases h1:i'<S.n
  ·by_cases h2:i'∈W
   ·obtain⟨i,q1,q2,q3,_⟩:=zN i' h2
    have hr:ρ i=some i':=(F.old i q3).trans q2
    exact .inr ⟨i,hr,(hρ i i' hr).trans hl,.inr q1⟩
   ·exact .inl ⟨h1,h2,(hold i' h1)▸hl,F.ah i' h1 h2⟩
  ·have h2:=uD i' l hl
   obtain⟨k1,k2⟩:=hτ i' (by omega) h2
   exact .inr ⟨τ i',k2,(hρ _ _ k2).trans hl,.inl k1⟩
 have zO:∀i' l O',i'<S.n->i'∉W->μ i'=some l->S.h.get i'=some O'->O'.live=true->∀k k' lk,ρ k=some k'->μ' k=some lk->(s.n<=k\/k∈ws)->(O'.wr=true\/∃o,s'.h.get k=some o/\o.wr=true)->l.b≠lk.b:=by
  intro i' l O' hi SX hl hO qP k k' lk hk fY hc Ma
  by_cases h1:k<s.n
  ·have hkw:k∈ws:=hc.resolve_left (by omega)
   have hs:σ k=some k':=(F.old k h1).symm.trans hk
   obtain⟨O1,q1,q2⟩:=xH k k' hkw hs
   have gO:μ k'=some lk:=by rw[hμs k h1,hs]at fY;exact fY
   have bF:k'≠i':=fun e=>SX (e▸F.W1 k k' (pM▸hkw) hs)
   exact(hh.inj k' i' lk l O1 O' gO hl bF q1 hO q2 qP).symm
  ·rcases h.new k lk (by omega) fY with oV|⟨j,hj,IE,lj,oj,tS,hb,IS,hjw⟩
   ·have:=(hh.dc i' l hl).2;omega
   ·cases hs:σ j with
    |none=>simp[hs]at tS
    |some j'=>
     simp only[hs,Option.bind_some]at tS
     obtain⟨O1,q1,q2⟩:=xH j j' hj hs
     have bF:j'≠i':=fun e=>SX (e▸F.W1 j j' (pM▸hj) hs)
     rw[<-hb]
     exact(hh.inj j' i' lj l O1 O' tS hl bF q1 hO q2 qP).symm
 refine⟨μ2,⟨⟨fun i' l hl=>⟨uD i' l hl,?_⟩,fun i' l hl=>?_,fun i' j' l l' O1 O2 hi hj bF SY wI hw qP=>?_,fun g hg=>?_⟩,hold,F.iT,F.wl,⟨h.eC.os,h.eC.tape,h.eC.output,h.eC.size,fun b hb dH=>?_⟩,fun i' l jx hl=>?_,F.ah,fun i' O' jx hO=>?_,fun i' h1 h2=>?_,fun i' jx _=>?_⟩,hρ⟩
 ·rcases sX i' l hl with⟨_,_,g,_⟩|⟨i,_,g,_⟩
  ·exact h_ (hh.dc i' l g).2 h.eC.size
  ·exact(h.hr.dc i l g).2
 ·rcases sX i' l hl with⟨g1,g2,g3,g4⟩|⟨i,g1,g2,g3⟩
  ·obtain⟨O',q1,q2⟩:=hh.obj i' l g3
   refine⟨O',g4.trans q1,?_⟩
   cases qP:O'.live with
   |false=>cases O'<;>simp[O.live]at qP;trivial
   |true=>
    refine OM.congr (w:=w) (qQ i' l g1 g2 g3 O' q1 qP) (q2.mono fun k lk hk=>?_)
    rw[hold k (hh.dc k lk hk).1];exact hk
  ·obtain⟨o,O',q1,q2,q3,q4⟩:=Jt i i' l g1 hl g3
   exact⟨O',q2,q4⟩
 ·rcases sX i' l hi with⟨a1,a2,a3,a4⟩|⟨i,a1,a2,a3⟩
  ·rw[a4]at SY
   rcases sX j' l' hj with⟨b1,b2,b3,b4⟩|⟨j,b1,b2,b3⟩
   ·rw[b4]at wI
    exact hh.inj i' j' l l' O1 O2 a3 b3 bF SY wI hw qP
   ·exact zO i' l O1 a1 a2 a3 SY (O.wH hw) j j' l' b1 b2 b3 (.inl hw)
  ·obtain⟨o1,O1',q1,q2,q3,_⟩:=Jt i i' l a1 hi a3
   rw[SY]at q2;cases q2
   have SZ:o1.cj ρ=some O1:=q3.resolve_left fun e=>by subst e;simp[O.wr]at hw
   have SI:o1.wr=true:=(O.zM SZ).symm.trans hw
   rcases sX j' l' hj with⟨b1,b2,b3,b4⟩|⟨j,b1,b2,b3⟩
   ·rw[b4]at wI
    exact(zO j' l' O2 b1 b2 b3 wI qP i i' l a1 a2 a3 (.inr ⟨o1,q1,SI⟩)).symm
   ·obtain⟨o2,O2',r1,r2,r3,_⟩:=Jt j j' l' b1 hj b3
    rw[wI]at r2;cases r2
    have r3':o2.cj ρ=some O2:=r3.resolve_left fun e=>by subst e;simp[O.live]at qP
    refine h.hr.inj i j l l' o1 o2 a2 b2 (fun e=>bF ?_) q1 r1 SI ((O.sW r3').symm.trans qP)
    subst e;rw[a1]at b1;cases b1;rfl
 ·obtain⟨t,ht⟩:=hh.ij g hg
  exact⟨t,by rw[hold g (hh.dc g _ ht).1];exact ht⟩
 ·refine h.eC.block b hb fun i hi l hl=>?_
  cases hs:σ i with
  |none=>simp[hs]at hl
  |some i'=>
   simp only[hs,Option.bind_some]at hl
   exact dH i' (F.W1 i i' (pM▸hi) hs) l hl
 ·have h2:=uD i' l hl
  obtain⟨k1,k2⟩:=hτ i' jx h2
  rcases h.new (τ i') l k1 ((hρ _ _ k2).trans hl)with oV|⟨j,hj,IE,lj,oj,tS,hb,IS,hjw⟩
  ·exact .inl oV
  ·cases hs:σ j with
   |none=>simp[hs]at tS
   |some j'=>
    simp only[hs,Option.bind_some]at tS
    obtain⟨O1,q1,q2⟩:=xH j j' hj hs
    exact .inr ⟨j',F.W1 j j' (pM▸hj) hs,(F.dc j j' hs).2,lj,O1,tS,hb,q1,q2⟩
 ·by_cases hW:i'∈W
  ·obtain⟨i,q1,q2,q3,q4⟩:=zN i' hW
   obtain⟨O1,r1,r2⟩:=xH i i' q1 q2
   exact⟨O1,r1,fun _=>r2,fun _=>O.wH r2⟩
  ·exact⟨O',(F.ah i' jx hW).symm.trans hO,id,id⟩
 ·obtain⟨k1,k2⟩:=hτ i' h1 h2
  obtain⟨l,hl⟩:=h.full (τ i') k1 (F.new _ _ k1 k2).2.2
  exact⟨l,(xG i' h1 h2).trans hl⟩
 ·obtain⟨i,q1,q2,_⟩:=zN i' jx
  exact xH i i' q1 q2
def LY.frame{g v:V}{args:List V}(h:LY P g args s v s')(F:Jr P σ ρ W s s' S S'){g' v':V}{zP:List V}(hg:V.cj σ g=some g')(ha:V.eH σ args=some zP)(hv:V.cj ρ v=some v'):
  LY P g' zP S v' S':=by
 intro μ w G xs hh hG pO
 have hσ:∀i i',σ i=some i'->(fun i=>(σ i).bind μ) i=μ i':=fun i i' hi=>by simp[hi]
 have:=h (fun i=>(σ i).bind μ) w G xs (F.sU hh) ((VR.cj hσ g g' G hg).2 hG) ((aW.cj hσ args zP xs ha).2 pO)
 rw[V.Cm hg]
 refine this.mono fun x w' ⟨μ',ws,h1,h2⟩=>?_
 obtain⟨μ2,k1,k2⟩:=F.stp hh h2
 exact⟨μ2,W,(VR.cj k2 v v' x hv).1 h1,k1⟩
end
def sY(a b:cM):cM:=fun g args st=>match a g args st with
 |some r=>some r
 |none=>b g args st
def js.or{P:Program}{a b:cM}(ha:js P a)(hb:js P b):js P (sY a b):=by
 intro g args st v aB h
 unfold sY at h
 split at h
 ·rename_i r hr
  cases h
  exact ha g args st v aB hr
 ·exact hb g args st v aB h
end Go.Mx
