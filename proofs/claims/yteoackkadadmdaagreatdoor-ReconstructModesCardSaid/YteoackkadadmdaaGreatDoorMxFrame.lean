/-The frame of a call-/
import Derived.Test.YteoackkadadmdaaGreatDoorMxWp
set_option linter.all false
namespace Go.Mx
open Go
mutual
def V.cg(ρ:Nat->Option Nat):V->Option V
 |.bool b=>some (.bool b)
 |.int k n=>some (.int k n)
 |.uB k n=>some (.uB k n)
 |.str s=>some (.str s)
 |.bN=>some .bN
 |.ptr i o=>match ρ i with
  |some i=>some (.ptr i o)
  |none=>none
 |.aa=>some .aa
 |.slice i o len cap sz=>match ρ i with
  |some i=>some (.slice i o len cap sz)
  |none=>none
 |.empty=>some .empty
 |.bW=>some .bW
 |.map i=>match ρ i with
  |some i=>some (.map i)
  |none=>none
 |.bZ=>some .bZ
 |.chan i=>match ρ i with
  |some i=>some (.chan i)
  |none=>none
 |.func f a c=>match V.eg ρ a,V.eg ρ c with
  |some a,some c=>some (.func f a c)
  |_,_=>none
 |.yield i=>match ρ i with
  |some i=>some (.yield i)
  |none=>none
 |.bs=>some .bs
 |.iface t v=>match V.cg ρ v with
  |some v=>some (.iface t v)
  |none=>none
 |.aY=>some .aY
 |.agg l=>match V.eg ρ l with
  |some l=>some (.agg l)
  |none=>none
 |.bg l=>match V.eg ρ l with
  |some l=>some (.bg l)
  |none=>none
def V.eg(ρ:Nat->Option Nat):List V->Option (List V)
 |[]=>some []
 |v::vs=>match V.cg ρ v,V.eg ρ vs with
  |some v,some vs=>some (v::vs)
  |_,_=>none
end
mutual
def VR.cg{μ μ':Mu}{ρ:Nat->Option Nat}(h:∀i i',ρ i=some i'->μ i=μ' i'):∀(v v':V) (x:Value),V.cg ρ v=some v'->(VR μ v x↔VR μ' v' x)
 |.bool _,v',x,hv=>by simp only[V.cg,al]at hv;subst hv;simp only[VR]
 |.int _ _,v',x,hv=>by simp only[V.cg,al]at hv;subst hv;simp only[VR]
 |.uB _ _,v',x,hv=>by simp only[V.cg,al]at hv;subst hv;simp only[VR]
 |.str _,v',x,hv=>by simp only[V.cg,al]at hv;subst hv;simp only[VR]
 |.bN,v',x,hv=>by simp only[V.cg,al]at hv;subst hv;simp only[VR]
 |.ptr _ _,v',x,hv=>by
  simp only[V.cg]at hv;split at hv
  ·rename_i i' hi;simp only[al]at hv;subst hv;simp only[VR,h _ _ hi]
  ·cases hv
 |.aa,v',x,hv=>by simp only[V.cg,al]at hv;subst hv;simp only[VR]
 |.slice _ _ _ _ _,v',x,hv=>by
  simp only[V.cg]at hv;split at hv
  ·rename_i i' hi;simp only[al]at hv;subst hv;simp only[VR,h _ _ hi]
  ·cases hv
 |.empty,v',x,hv=>by simp only[V.cg,al]at hv;subst hv;simp only[VR]
 |.bW,v',x,hv=>by simp only[V.cg,al]at hv;subst hv;simp only[VR]
 |.map _,v',x,hv=>by
  simp only[V.cg]at hv;split at hv
  ·rename_i i' hi;simp only[al]at hv;subst hv;simp only[VR,h _ _ hi]
  ·cases hv
 |.bZ,v',x,hv=>by simp only[V.cg,al]at hv;subst hv;simp only[VR]
 |.chan _,v',x,hv=>by
  simp only[V.cg]at hv;split at hv
  ·rename_i i' hi;simp only[al]at hv;subst hv;simp only[VR,h _ _ hi]
  ·cases hv
 |.func _ a c,v',x,hv=>by
  simp only[V.cg]at hv;split at hv
  ·rename_i a' c' ha hc;simp only[al]at hv;subst hv
   simp only[VR,fun xs=>bb.cg h a a' xs ha,fun xs=>bb.cg h c c' xs hc]
  ·cases hv
 |.yield _,v',x,hv=>by
  simp only[V.cg]at hv;split at hv
  ·rename_i i' hi;simp only[al]at hv;subst hv;simp only[VR,h _ _ hi]
  ·cases hv
 |.bs,v',x,hv=>by simp only[V.cg,al]at hv;subst hv;simp only[VR]
 |.iface _ v,v',x,hv=>by
  simp only[V.cg]at hv;split at hv
  ·rename_i u hu;simp only[al]at hv;subst hv;simp only[VR,fun y=>VR.cg h v u y hu]
  ·cases hv
 |.aY,v',x,hv=>by simp only[V.cg,al]at hv;subst hv;simp only[VR]
 |.agg l,v',x,hv=>by
  simp only[V.cg]at hv;split at hv
  ·rename_i l' hl;simp only[al]at hv;subst hv;simp only[VR,fun xs=>bb.cg h l l' xs hl]
  ·cases hv
 |.bg l,v',x,hv=>by
  simp only[V.cg]at hv;split at hv
  ·rename_i l' hl;simp only[al]at hv;subst hv;simp only[VR,fun xs=>bb.cg h l l' xs hl]
  ·cases hv
def bb.cg{μ μ':Mu}{ρ:Nat->Option Nat}(h:∀i i',ρ i=some i'->μ i=μ' i'):∀(vs j9:List V) (xs:List Value),V.eg ρ vs=some j9->(bb μ vs xs↔bb μ' j9 xs)
 |[],j9,xs,hv=>by simp only[V.eg,al]at hv;subst hv;simp only[bb]
 |v::vs,j9,xs,hv=>by
  simp only[V.eg]at hv;split at hv
  ·rename_i u us hu sQ;simp only[al]at hv;subst hv
   simp only[bb,fun y=>VR.cg h v u y hu,fun ys=>bb.cg h vs us ys sQ]
  ·cases hv
end
def V.gT{ρ:Nat->Option Nat}:∀{vs j9:List V},V.eg ρ vs=some j9->j9.length=vs.length
 |[],j9,h=>by simp only[V.eg,al]at h;subst h;rfl
 |v::vs,j9,h=>by
  simp only[V.eg]at h;split at h
  ·rename_i u us hu sQ;simp only[al]at h;subst h;simp[V.gT sQ]
  ·cases h
def V.sS{ρ:Nat->Option Nat}:∀{vs j9:List V} {j:Nat} {v':V},V.eg ρ vs=some j9->j9[j]?=some v'->∃v,vs[j]?=some v/\V.cg ρ v=some v'
 |[],j9,j,v',h,hj=>by simp only[V.eg,al]at h;subst h;simp at hj
 |v::vs,j9,j,v',h,hj=>by
  simp only[V.eg]at h;split at h
  ·rename_i u us hu sQ;simp only[al]at h;subst h
   cases j with
   |zero=>simp at hj;subst hj;exact⟨v,by simp,hu⟩
   |succ j=>simpa using V.sS sQ (j:=j) (by simpa using hj)
  ·cases h
def V.pH{ρ:Nat->Option Nat}:∀{vs j9:List V} {j:Nat} {v:V},V.eg ρ vs=some j9->vs[j]?=some v->∃v',j9[j]?=some v'/\V.cg ρ v=some v'
 |[],j9,j,v',h,hj=>by simp at hj
 |v::vs,j9,j,v',h,hj=>by
  simp only[V.eg]at h;split at h
  ·rename_i u us hu sQ;simp only[al]at h;subst h
   cases j with
   |zero=>simp at hj;subst hj;exact⟨u,by simp,hu⟩
   |succ j=>simpa using V.pH sQ (j:=j) (by simpa using hj)
  ·cases h
def V.Ch{ρ:Nat->Option Nat}{v v':V}(h:V.cg ρ v=some v'):v'.Fo=v.Fo:=by
 cases v<;>simp only[V.cg]at h<;>(try split at h)<;>simp only[al,reduceCtorEq]at h<;>subst h<;>rfl
def KC(ρ:Nat->Option Nat):List (V×V)->Option (List (V×V))
 |[]=>some []
 |(k,v)::es=>match V.cg ρ k,V.cg ρ v,KC ρ es with
  |some k,some v,some es=>some ((k,v)::es)
  |_,_,_=>none
def iD.cg{μ μ':Mu}{ρ:Nat->Option Nat}(h:∀i i',ρ i=some i'->μ i=μ' i'):∀(es gJ:List (V×V)) (xs:List MapEntry) (i:Nat),KC ρ es=some gJ->(iD μ es xs i↔iD μ' gJ xs i)
 |[],gJ,xs,i,he=>by simp only[KC,al]at he;subst he;simp only[iD]
 |(k,v)::es,gJ,xs,i,he=>by
  simp only[KC]at he;split at he
  ·rename_i k' v' us hk hv sQ;simp only[al]at he;subst he
   simp only[iD,fun y=>VR.cg h k k' y hk,fun y=>VR.cg h v v' y hv,fun ys i=>iD.cg h es us ys i sQ]
  ·cases he
def O.cg(ρ:Nat->Option Nat):O->Option O
 |.cells c e rw=>match V.eg ρ c with
  |some c=>some (.cells c e rw)
  |none=>none
 |.map es=>match KC ρ es with
  |some es=>some (.map es)
  |none=>none
 |.chan cap buf=>match V.eg ρ buf with
  |some buf=>some (.chan cap buf)
  |none=>none
 |.ew s pos=>some (.ew s pos)
 |.defs o=>some (.defs o)
 |.loop _=>none
 |.dead=>some .dead
def O.zK{ρ:Nat->Option Nat}{o o':O}(h:o.cg ρ=some o'):o'.wr=o.wr:=by
 cases o<;>simp only[O.cg]at h<;>(try split at h)<;>simp only[al,reduceCtorEq]at h<;>subst h<;>rfl
def O.sU{ρ:Nat->Option Nat}{o o':O}(h:o.cg ρ=some o'):o'.live=o.live:=by
 cases o<;>simp only[O.cg]at h<;>(try split at h)<;>simp only[al,reduceCtorEq]at h<;>subst h<;>rfl
def OM.cg{P:Program}{μ μ':Mu}{w:World}{ρ:Nat->Option Nat}(h:∀i i',ρ i=some i'->μ i=μ' i'){o o':O}{l:L}(ho:o.cg ρ=some o'):OM P μ w o l↔OM P μ' w o' l:=by
 cases o with
 |cells c e rw=>
  simp only[O.cg]at ho;split at ho
  ·rename_i c' hc;simp only[al]at ho;subst ho
   constructor
   ·rintro⟨d,lo,hi,h1,h2,h3,h4,h5⟩
    refine⟨d,lo,hi,h1,h2,by rw[V.gT hc];exact h3,fun j v' FD=>?_,h5⟩
    obtain⟨v,hv,hr⟩:=V.sS hc FD
    obtain⟨x,hx,A1⟩:=h4 j v hv
    exact⟨x,hx,(VR.cg h v v' x hr).1 A1⟩
   ·rintro⟨d,lo,hi,h1,h2,h3,h4,h5⟩
    refine⟨d,lo,hi,h1,h2,by rw[V.gT hc]at h3;exact h3,fun j v hv=>?_,h5⟩
    obtain⟨v',FD,hr⟩:=V.pH hc hv
    obtain⟨x,hx,A1⟩:=h4 j v' FD
    exact⟨x,hx,(VR.cg h v v' x hr).2 A1⟩
  ·cases ho
 |map es=>
  simp only[O.cg]at ho;split at ho
  ·rename_i gJ he;simp only[al]at ho;subst ho
   simp only[OM,fun xs i=>iD.cg h es gJ xs i he]
  ·cases ho
 |chan cap buf=>
  simp only[O.cg]at ho;split at ho
  ·rename_i c' hc;simp only[al]at ho;subst ho
   simp only[OM,fun xs=>bb.cg h buf c' xs hc]
  ·cases ho
 |ew s pos=>simp only[O.cg,al]at ho;subst ho;simp only[OM]
 |loop R=>simp only[O.cg,reduceCtorEq]at ho
 |defs b=>simp only[O.cg,al]at ho;subst ho;simp only[OM]
 |dead=>simp only[O.cg,al]at ho;subst ho;simp only[OM]
def DY(ρ:Nat->Option Nat)(o O':O):Prop:=
 o=.dead\/o.cg ρ=some O'\/∃c e c',o=.cells c e false/\V.eg ρ c=some c'/\O'=.cells c' e true
def DY.om{P:Program}{μ μ':Mu}{w:World}{ρ:Nat->Option Nat}(h:∀i i',ρ i=some i'->μ i=μ' i'){o o':O}{l:L}(ho:DY ρ o o')(hm:OM P μ' w o' l):OM P μ w o l:=by
 rcases ho with rfl|ho|⟨c,e,c',rfl,hc,rfl⟩
 ·trivial
 ·exact(OM.cg h ho).2 hm
 ·have h1:(O.cells c e true).cg ρ=some (.cells c' e true):=by simp only[O.cg,hc]
  obtain⟨d,lo,hi,q1,q2,q3,q4,q5,_⟩:=(OM.cg h h1).2 hm
  exact⟨d,lo,hi,q1,q2,q3,q4,q5,fun hx=>by cases hx⟩
def DY.wr{ρ:Nat->Option Nat}{o o':O}(ho:DY ρ o o')(h:o.wr=true):o'.wr=true/\o.cg ρ=some o':=by
 rcases ho with rfl|ho|⟨c,e,c',rfl,hc,rfl⟩
 ·simp[O.wr]at h
 ·exact⟨(O.zK ho).trans h,ho⟩
 ·simp[O.wr]at h
def DY.live{ρ:Nat->Option Nat}{o o':O}(ho:DY ρ o o')(h:o.live=true):o'.live=true:=by
 rcases ho with rfl|ho|⟨c,e,c',rfl,hc,rfl⟩
 ·simp[O.live]at h
 ·exact(O.sU ho).trans h
 ·rfl
def O.wV{o:O}(h:o.wr=true):o.live=true:=by cases o<;>simp_all [O.wr,O.live]
def IJ(P:Program)(g:V)(args:List V)(st:St)(v:V)(aB:St):Prop:=
 ∀(μ:Mu) (w:World) (G:Value) (xs:List Value),bA P μ w st->VR μ g G->bb μ args xs->
  KD P g.Fo G ⟨xs⟩ w fun x w'=>∃μ' ws,VR μ' v x/\bQ P μ w st μ' w' aB ws
def KD.mono{P:Program}{y:Bool}{G:Value}{xs:Array Value}{w:World}{R R':Value->World->Prop}(h:KD P y G xs w R)(hR:∀x w',R x w'->R' x w'):KD P y G xs w R':=by
 obtain⟨d,hd,gU⟩:=h
 refine⟨d,hd,?_⟩
 rcases gU with⟨hy,f,args,hinv,IK⟩|⟨hy,l,f,tmps,fI,fJ,hinv,IL⟩
 ·refine .inl ⟨hy,f,args,hinv,CallsIn.mono (F:=Fence.wide) IK fun e w' he=>?_⟩
  cases e with
  |returned x=>exact hR x w' he
  |panicked _=>exact he.elim
  |outgrown=>exact he.elim
 ·refine .inr ⟨hy,l,f,tmps,fI,fJ,hinv,RoundIn.mono (F:=Fence.wide) IL fun e w' he=>?_⟩
  cases e with
  |returned x=>exact hR x w' he
  |panicked _=>exact he.elim
  |outgrown=>exact he.elim
structure Gl (P:Program) (σ ρ:Nat->Option Nat) (W:List Nat) (s s' S S':St):Prop where
 df:∀i i',σ i=some i'->i<s.n/\i'<S.n
 inj:∀i j i',σ i=some i'->σ j=some i'->i=j
 gK:∀g,g<P.globals.size->σ g=some g
 obj:∀i i',σ i=some i'->∃o O',s.h.get i=some o/\DY σ o O'/\(S.h.get i'=some O'\/o=.dead)
 old:∀i,i<s.n->ρ i=σ i
 new:∀i i',s.n<=i->ρ i=some i'->S.n<=i'/\i'<S'.n/\i<s'.n
 Gm:∀i j i',s.n<=i->s.n<=j->ρ i=some i'->ρ j=some i'->i=j
 full:∀i',S.n<=i'->i'<S'.n->∃i,s.n<=i/\ρ i=some i'
 fi:S.n<=S'.n
 w0:s.w=[]
 W1:∀i i',i∈s'.w->σ i=some i'->i'∈W
 W2:∀j,j∈W->∃i,i∈s'.w/\σ i=some j
 wl:S'.w=W++S.w
 ae:∀j,j<S.n->j∉W->S'.h.get j=S.h.get j
 wr:∀i i',i∈s'.w->σ i=some i'->∃o O',s'.h.get i=some o/\S'.h.get i'=some O'/\(O'=.dead\/o.cg ρ=some O')
 UF:∀i i',s.n<=i->ρ i=some i'->∃o O',s'.h.get i=some o/\S'.h.get i'=some O'/\(O'=.dead\/o.cg ρ=some O')
section
variable {P:Program} {σ ρ:Nat->Option Nat} {W:List Nat} {s s' S S':St}
def Gl.sP(F:Gl P σ ρ W s s' S S'){μ:Mu}{w:World}(hh:bA P μ w S):bA P (fun i=>(σ i).bind μ) w s:=by
 have hb:∀i l,(σ i).bind μ=some l->∃i',σ i=some i'/\μ i'=some l:=fun i l h=>by
  cases hs:σ i with
  |none=>rw[hs]at h;cases h
  |some i'=>rw[hs]at h;exact⟨i',rfl,h⟩
 refine⟨fun i l hl=>?_,fun i l hl=>?_,fun i j l l' o o' hi hj bB ho wH hw nF=>?_,fun g hg=>?_⟩
 ·obtain⟨i',h1,h2⟩:=hb i l hl
  exact⟨(F.df i i' h1).1,(hh.df i' l h2).2⟩
 ·obtain⟨i',h1,h2⟩:=hb i l hl
  obtain⟨o,O',g1,g2,g3⟩:=F.obj i i' h1
  refine⟨o,g1,?_⟩
  rcases g3 with g3|rfl
  ·obtain⟨O2,q1,q2⟩:=hh.obj i' l h2
   rw[g3]at q1;cases q1
   exact DY.om (fun i i' hi=>by simp[hi]) g2 q2
  ·trivial
 ·obtain⟨i',h1,h2⟩:=hb i l hi
  obtain⟨j',h3,h4⟩:=hb j l' hj
  obtain⟨o1,O1,a1,a2,a3⟩:=F.obj i i' h1
  obtain⟨o2,O2,b1,b2,b3⟩:=F.obj j j' h3
  rw[ho]at a1;cases a1
  rw[wH]at b1;cases b1
  have a3':S.h.get i'=some O1:=a3.resolve_right fun e=>by subst e;simp[O.wr]at hw
  have b3':S.h.get j'=some O2:=b3.resolve_right fun e=>by subst e;simp[O.live]at nF
  refine hh.inj i' j' l l' O1 O2 h2 h4 (fun e=>bB ?_) a3' b3' (a2.wr hw).1 (b2.live nF)
  subst e;exact F.inj i j i' h1 h3
 ·obtain⟨t,ht⟩:=hh.gK g hg
  exact⟨t,by simp[F.gK g hg,ht]⟩
def Gl.stp(F:Gl P σ ρ W s s' S S'){μ:Mu}{w w':World}(hh:bA P μ w S){μ':Mu}{ws:List Nat}(h:bQ P (fun i=>(σ i).bind μ) w s μ' w' s' ws):
  ∃μ2,bQ P μ w S μ2 w' S' W/\∀i i',ρ i=some i'->μ' i=μ2 i':=by
 have pG:s'.w=ws:=by have:=h.wl;rw[F.w0]at this;simpa using this
 have hinv:∃τ:Nat->Nat,∀i',S.n<=i'->i'<S'.n->s.n<=τ i'/\ρ (τ i')=some i':=by
  classical
  refine⟨fun i'=>if hc:∃i,s.n<=i/\ρ i=some i' then hc.choose else 0,fun i' h1 h2=>?_⟩
  have hc:=F.full i' h1 h2
  simp only[dif_pos hc]
  exact hc.choose_spec
 obtain⟨τ,hτ⟩:=hinv
 let μ2:Mu:=fun i'=>if i'<S.n then μ i' else if i'<S'.n then μ' (τ i') else none
 have hold:∀i',i'<S.n->μ2 i'=μ i':=fun i' hi=>by show (if i'<S.n then _ else _)=_;rw[aF hi]
 have qk:∀i',S.n<=i'->i'<S'.n->μ2 i'=μ' (τ i'):=fun i' h1 h2=>by show (if i'<S.n then _ else _)=_;rw[ar (by omega),aF h2]
 have dp:∀i' l,μ2 i'=some l->i'<S'.n:=fun i' l hl=>by
  by_cases h1:i'<S.n
  ·exact fE h1 F.fi
  ·by_cases h2:i'<S'.n
   ·exact h2
   ·have:μ2 i'=none:=by show (if i'<S.n then _ else _)=_;rw[ar h1,ar h2]
    rw[this]at hl;cases hl
 have hμs:∀i,i<s.n->μ' i=(σ i).bind μ:=fun i hi=>h.ext i hi
 have hρ:∀i i',ρ i=some i'->μ' i=μ2 i':=fun i i' hi=>by
  by_cases h1:i<s.n
  ·have h2:σ i=some i':=(F.old i h1).symm.trans hi
   rw[hμs i h1,h2,hold i' (F.df i i' h2).2];rfl
  ·obtain⟨g1,g2,_⟩:=F.new i i' (by omega) hi
   obtain⟨k1,k2⟩:=hτ i' g1 g2
   rw[qk i' g1 g2,F.Gm i (τ i') i' (by omega) k1 hi k2]
 have zL:∀j,j∈W->∃i,i∈ws/\σ i=some j/\i<s.n/\j<S.n:=fun j hj=>by
  obtain⟨i,h1,h2⟩:=F.W2 j hj
  exact⟨i,pG▸h1,h2,F.df i j h2⟩
 have xS:∀i i',i∈ws->σ i=some i'->∃O',S.h.get i'=some O'/\O'.wr=true:=fun i i' hi hs=>by
  obtain⟨o,ho,hw⟩:=h.yo i hi (F.df i i' hs).1
  obtain⟨o1,O1,a1,a2,a3⟩:=F.obj i i' hs
  rw[ho]at a1;cases a1
  exact⟨O1,a3.resolve_right fun e=>by subst e;simp[O.wr]at hw,(a2.wr hw).1⟩
 have qs:∀j l,j<S.n->j∉W->μ j=some l->∀O',S.h.get j=some O'->O'.live=true->w'.heap[l.b]?=w.heap[l.b]?:=fun j l hj OO hl O' hO nF=>by
  refine h.d_.block l.b (hh.df j l hl).2 fun i hi li OP=>?_
  cases hs:σ i with
  |none=>simp[hs]at OP
  |some i'=>
   simp only[hs,Option.bind_some]at OP
   obtain⟨O1,q1,q2⟩:=xS i i' hi hs
   refine hh.inj i' j li l O1 O' OP hl (fun e=>OO ?_) q1 hO q2 nF
   subst e;exact F.W1 i i' (pG▸hi) hs
 have Gn:∀i i' l,ρ i=some i'->μ2 i'=some l->(s.n<=i\/i∈ws)->∃o O',s'.h.get i=some o/\S'.h.get i'=some O'/\(O'=.dead\/o.cg ρ=some O')/\OM P μ2 w' O' l:=fun i i' l hi hl hc=>by
  have key:∃o O',s'.h.get i=some o/\S'.h.get i'=some O'/\(O'=.dead\/o.cg ρ=some O'):=by
   by_cases h1:i<s.n
   ·rcases hc with hc|hc
    ·omega
    ·exact F.wr i i' (pG▸hc) ((F.old i h1).symm.trans hi)
   ·exact F.UF i i' (by omega) hi
  obtain⟨o,O',g1,g2,g3⟩:=key
  refine⟨o,O',g1,g2,g3,?_⟩
  rcases g3 with rfl|g3
  ·trivial
  ·obtain⟨o2,q1,q2⟩:=h.hr.obj i l ((hρ i i' hi).trans hl)
   rw[g1]at q1;cases q1
   exact(OM.cg hρ g3).1 q2
 have sV:∀i' l,μ2 i'=some l->(i'<S.n/\i'∉W/\μ i'=some l/\S'.h.get i'=S.h.get i')\/∃i,ρ i=some i'/\μ' i=some l/\(s.n<=i\/i∈ws):=fun i' l hl=>by
  by_cases h1:i'<S.n
  ·by_cases h2:i'∈W
   ·obtain⟨i,q1,q2,q3,_⟩:=zL i' h2
    have hr:ρ i=some i':=(F.old i q3).trans q2
    exact .inr ⟨i,hr,(hρ i i' hr).trans hl,.inr q1⟩
   ·exact .inl ⟨h1,h2,(hold i' h1)▸hl,F.ae i' h1 h2⟩
  ·have h2:=dp i' l hl
   obtain⟨k1,k2⟩:=hτ i' (by omega) h2
   exact .inr ⟨τ i',k2,(hρ _ _ k2).trans hl,.inl k1⟩
 have zM:∀i' l O',i'<S.n->i'∉W->μ i'=some l->S.h.get i'=some O'->O'.live=true->∀k k' lk,ρ k=some k'->μ' k=some lk->(s.n<=k\/k∈ws)->(O'.wr=true\/∃o,s'.h.get k=some o/\o.wr=true)->l.b≠lk.b:=by
  intro i' l O' hi OO hl hO nF k k' lk hk fK hc IM
  by_cases h1:k<s.n
  ·have hkw:k∈ws:=hc.resolve_left (by omega)
   have hs:σ k=some k':=(F.old k h1).symm.trans hk
   obtain⟨O1,q1,q2⟩:=xS k k' hkw hs
   have hk2:μ k'=some lk:=by rw[hμs k h1,hs]at fK;exact fK
   have bB:k'≠i':=fun e=>OO (e▸F.W1 k k' (pG▸hkw) hs)
   exact(hh.inj k' i' lk l O1 O' hk2 hl bB q1 hO q2 nF).symm
  ·rcases h.new k lk (by omega) fK with oH|⟨j,hj,Fz,lj,oj,tM,hb,FA,hjw⟩
   ·have:=(hh.df i' l hl).2;omega
   ·cases hs:σ j with
    |none=>simp[hs]at tM
    |some j'=>
     simp only[hs,Option.bind_some]at tM
     obtain⟨O1,q1,q2⟩:=xS j j' hj hs
     have bB:j'≠i':=fun e=>OO (e▸F.W1 j j' (pG▸hj) hs)
     rw[<-hb]
     exact(hh.inj j' i' lj l O1 O' tM hl bB q1 hO q2 nF).symm
 refine⟨μ2,⟨⟨fun i' l hl=>⟨dp i' l hl,?_⟩,fun i' l hl=>?_,fun i' j' l l' O1 O2 hi hj bB OQ wW hw nF=>?_,fun g hg=>?_⟩,hold,F.fi,F.wl,⟨h.d_.os,h.d_.tape,h.d_.output,h.d_.size,fun b hb dv=>?_⟩,fun i' l iF hl=>?_,F.ae,fun i' O' iF hO=>?_,fun i' h1 h2=>?_,fun i' iF _=>?_⟩,hρ⟩
 ·rcases sV i' l hl with⟨_,_,g,_⟩|⟨i,_,g,_⟩
  ·exact fE (hh.df i' l g).2 h.d_.size
  ·exact(h.hr.df i l g).2
 ·rcases sV i' l hl with⟨g1,g2,g3,g4⟩|⟨i,g1,g2,g3⟩
  ·obtain⟨O',q1,q2⟩:=hh.obj i' l g3
   refine⟨O',g4.trans q1,?_⟩
   cases nF:O'.live with
   |false=>cases O'<;>simp[O.live]at nF;trivial
   |true=>
    refine OM.congr (w:=w) (qs i' l g1 g2 g3 O' q1 nF) (q2.mono fun k lk hk=>?_)
    rw[hold k (hh.df k lk hk).1];exact hk
  ·obtain⟨o,O',q1,q2,q3,q4⟩:=Gn i i' l g1 hl g3
   exact⟨O',q2,q4⟩
 ·rcases sV i' l hi with⟨a1,a2,a3,a4⟩|⟨i,a1,a2,a3⟩
  ·rw[a4]at OQ
   rcases sV j' l' hj with⟨b1,b2,b3,b4⟩|⟨j,b1,b2,b3⟩
   ·rw[b4]at wW
    exact hh.inj i' j' l l' O1 O2 a3 b3 bB OQ wW hw nF
   ·exact zM i' l O1 a1 a2 a3 OQ (O.wV hw) j j' l' b1 b2 b3 (.inl hw)
  ·obtain⟨o1,O1',q1,q2,q3,_⟩:=Gn i i' l a1 hi a3
   rw[OQ]at q2;cases q2
   have Dk:o1.cg ρ=some O1:=q3.resolve_left fun e=>by subst e;simp[O.wr]at hw
   have Ih:o1.wr=true:=(O.zK Dk).symm.trans hw
   rcases sV j' l' hj with⟨b1,b2,b3,b4⟩|⟨j,b1,b2,b3⟩
   ·rw[b4]at wW
    exact(zM j' l' O2 b1 b2 b3 wW nF i i' l a1 a2 a3 (.inr ⟨o1,q1,Ih⟩)).symm
   ·obtain⟨o2,O2',r1,r2,r3,_⟩:=Gn j j' l' b1 hj b3
    rw[wW]at r2;cases r2
    have r3':o2.cg ρ=some O2:=r3.resolve_left fun e=>by subst e;simp[O.live]at nF
    refine h.hr.inj i j l l' o1 o2 a2 b2 (fun e=>bB ?_) q1 r1 Ih ((O.sU r3').symm.trans nF)
    subst e;rw[a1]at b1;cases b1;rfl
 ·obtain⟨t,ht⟩:=hh.gK g hg
  exact⟨t,by rw[hold g (hh.df g _ ht).1];exact ht⟩
 ·refine h.d_.block b hb fun i hi l hl=>?_
  cases hs:σ i with
  |none=>simp[hs]at hl
  |some i'=>
   simp only[hs,Option.bind_some]at hl
   exact dv i' (F.W1 i i' (pG▸hi) hs) l hl
 ·have h2:=dp i' l hl
  obtain⟨k1,k2⟩:=hτ i' iF h2
  rcases h.new (τ i') l k1 ((hρ _ _ k2).trans hl)with oH|⟨j,hj,Fz,lj,oj,tM,hb,FA,hjw⟩
  ·exact .inl oH
  ·cases hs:σ j with
   |none=>simp[hs]at tM
   |some j'=>
    simp only[hs,Option.bind_some]at tM
    obtain⟨O1,q1,q2⟩:=xS j j' hj hs
    exact .inr ⟨j',F.W1 j j' (pG▸hj) hs,(F.df j j' hs).2,lj,O1,tM,hb,q1,q2⟩
 ·by_cases hW:i'∈W
  ·obtain⟨i,q1,q2,q3,q4⟩:=zL i' hW
   obtain⟨O1,r1,r2⟩:=xS i i' q1 q2
   exact⟨O1,r1,fun _=>r2,fun _=>O.wV r2⟩
  ·exact⟨O',(F.ae i' iF hW).symm.trans hO,id,id⟩
 ·obtain⟨k1,k2⟩:=hτ i' h1 h2
  obtain⟨l,hl⟩:=h.full (τ i') k1 (F.new _ _ k1 k2).2.2
  exact⟨l,(qk i' h1 h2).trans hl⟩
 ·obtain⟨i,q1,q2,_⟩:=zL i' iF
  exact xS i i' q1 q2
def IJ.frame{g v:V}{args:List V}(h:IJ P g args s v s')(F:Gl P σ ρ W s s' S S'){g' v':V}{zN:List V}(hg:V.cg σ g=some g')(ha:V.eg σ args=some zN)(hv:V.cg ρ v=some v'):
  IJ P g' zN S v' S':=by
 intro μ w G xs hh hG px
 have hσ:∀i i',σ i=some i'->(fun i=>(σ i).bind μ) i=μ i':=fun i i' hi=>by simp[hi]
 have:=h (fun i=>(σ i).bind μ) w G xs (F.sP hh) ((VR.cg hσ g g' G hg).2 hG) ((bb.cg hσ args zN xs ha).2 px)
 rw[V.Ch hg]
 refine this.mono fun x w' ⟨μ',ws,h1,h2⟩=>?_
 obtain⟨μ2,k1,k2⟩:=F.stp hh h2
 exact⟨μ2,W,(VR.cg k2 v v' x hv).1 h1,k1⟩
end
def rP(a b:cG):cG:=fun g args st=>match a g args st with
 |some r=>some r
 |none=>b g args st
def ji.or{P:Program}{a b:cG}(ha:ji P a)(hb:ji P b):ji P (rP a b):=by
 intro g args st v aB h
 unfold rP at h
 split at h
 ·rename_i r hr
  cases h
  exact ha g args st v aB hr
 ·exact hb g args st v aB h
end Go.Mx
