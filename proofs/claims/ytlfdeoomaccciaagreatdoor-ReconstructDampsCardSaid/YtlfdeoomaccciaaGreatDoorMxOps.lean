/-Every operation of M that calls no funct-/
import Derived.Test.YtlfdeoomaccciaaGreatDoorMxOp10
import Derived.RangeFuncRecord
import Derived.OrdersIn
set_option linter.all false
namespace Go.Mx
open Go
section
variable {P:Program} {μ:Mu} {w:World} {st az:St} {r:T V} {n:Nat} {a:Act} {call:cD} {v:V}
def gk.oL:gk->Bool
 |.call _ _=>true
 |_=>false
def JL{α:Type}{a:Array α}{x:α}(h:a.toList=[x]):a=#[x]:=by
 apply Array.ext';simpa using h
def LZ{α:Type}{a:Array α}{x y:α}(h:a.toList=[x,y]):a=#[x,y]:=by
 apply Array.ext';simpa using h
def Zwd(hh:bm P μ w st)(hr:RR μ r n a.tmps){b:Builtin}{ts:Array TypeId}{xs:Array Operand}{ty:TypeId}{cs:Array Bool}{m:gk}(hc:DV P ⟨.builtin b,xs,ts⟩=some m)
  (h:cj m call r st=some (v,az)):ba P μ w st (builtin b ts ty cs (xs.map a.eval)) v az:=by
 simp only[DV]at hc
 split at hc
 ·rename_i t x ht hx
  have e1:=JL ht
  have e2:=JL hx
  subst e1 e2
  simp only[builtin,Jd,nZ,wW]
  split at hc
  ·rename_i s hu hs
   simp only[aq]at hc;subst hc
   exact Zzy (call:=call) hh hr hu hs h
  ·rename_i e s hu hs
   simp only[aq]at hc;subst hc
   exact Zta (call:=call) hh hr hu hs h
  ·rename_i k e s hu hs
   simp only[aq]at hc;subst hc
   exact Zzz (call:=call) hh hr hu hs h
  ·cases hc
 ·rename_i t x ht hx
  have e1:=JL ht
  have e2:=JL hx
  subst e1 e2
  simp only[builtin,Jd,nZ,wW]
  split at hc
  ·rename_i e s hu hs
   simp only[aq]at hc;subst hc
   exact Ysk (call:=call) hh hr hu hs h
  ·cases hc
 ·split at hc
  ·rename_i l hl
   simp only[aq]at hc;subst hc
   exact Yua (call:=call) hh hr hl h
  ·cases hc
 ·split at hc
  ·rename_i l hl
   simp only[aq]at hc;subst hc
   exact Yt9 (call:=call) hh hr hl h
  ·cases hc
 ·rename_i t u s x ht hx
  have e1:=LZ ht
  have e2:=LZ hx
  subst e1 e2
  simp only[builtin,Jd,nZ,wW]
  split at hc
  ·rename_i e hu
   split at hc
   ·rename_i n' b' z s' x' d hs hb hz jl jx hd
    rw[Ji]at hc
    obtain⟨cL,hc⟩:=hc
    simp only[not_or,Decidable.not_not]at cL
    obtain⟨c1,c2,c3,c4⟩:=cL
    simp only[aq]at hc;subst hc
    have c4':z.cells.all V.one=true:=by simpa using c4
    exact Yfr (call:=call) hh hr (by rfl) hu (by rfl) hd (fun k hk=>by subst hk;simp at c1) hs hb hz c3 c4' c2 jl jx h
   ·cases hc
  ·cases hc
 ·rename_i t ts' d s ht hx
  have e2:=LZ hx
  subst e2
  simp only[builtin,Jd,nZ,wW]
  split at hc
  ·rename_i e hu
   split at hc
   ·rename_i n' d' s' hs hd jl
    simp only[aq]at hc;subst hc
    exact Ypg (call:=call) hh hr (by rw[<-Ck,ht];rfl) hu hs hd jl h
   ·cases hc
  ·cases hc
 ·rename_i t s ht hx
  have e1:=JL ht
  have e2:=JL hx
  subst e1 e2
  simp only[builtin,Jd,nZ,wW]
  simp only[kj]at hc
  obtain⟨s',hs,rfl⟩:=hc
  exact Ygz (call:=call) hh hr hs h
 ·rename_i t u x y ht hx
  have e1:=LZ ht
  have e2:=LZ hx
  subst e1 e2
  simp only[builtin,Jd,nZ,wW]
  split at hc
  ·rename_i e hu
   split at hc
   ·rename_i s q hs hx hy
    simp only[aq]at hc;subst hc
    exact Yl0 (call:=call) hh hr hu hs hx hy h
   ·cases hc
  ·cases hc
 ·cases hc
def Yq7(hh:bm P μ w st)(hr:RR μ r n a.tmps)(hE:ue P){o:Oper}{m:gk}(hc:I9 P o.op=some m)(hn:m.oL=false)(h:cj m call r st=some (v,az)):
  ba P μ w st (execOp a.eval o) v az:=by
 obtain⟨dst,op,ty,pos,af,g⟩:=o
 cases op<;>simp only[I9]at hc<;>try (cases hc;done)
 case move x=>simp only[kj]at hc;obtain⟨s,h1,rfl⟩:=hc;exact Ykw (call:=call) hh hr h1 h
 case assign x=>simp only[kj]at hc;obtain⟨s,h1,rfl⟩:=hc;exact Ykw (call:=call) hh hr h1 h
 case pick c x y=>
  split at hc
  ·rename_i h1 h2 h3
   simp only[aq]at hc;subst hc
   exact Ym7 (call:=call) hh hr h1 h2 h3 h
  ·cases hc
 case alloc e=>
  split at hc
  ·rename_i z hz
   split at hc
   ·rename_i gp
    simp only[aq]at hc;subst hc
    exact Yj6 (call:=call) (r:=r) hh hz gp h
   ·cases hc
  ·cases hc
 case box e x=>simp only[kj]at hc;obtain⟨s,h1,rfl⟩:=hc;exact Ysn (call:=call) hh hr h1 h
 case build t parts=>
  split at hc
  ·cases hc
  ·rename_i z hz
   split at hc
   ·rename_i fs CW
    split at hc
    ·rename_i pl iH
     simp only[kj]at hc
     obtain⟨uG,h1,rfl⟩:=hc
     exact Zou (call:=call) hh hr hz CW iH h1 h
    ·cases hc
   ·rename_i k e hu
    split at hc
    ·rename_i s hs
     simp only[kj]at hc
     obtain⟨uG,h1,rfl⟩:=hc
     exact Zo8 (call:=call) hh hr hz hu hs h1 h
    ·cases hc
   ·cases hc
 case buildSlice t len parts=>
  split at hc
  ·rename_i e hu
   split at hc
   ·rename_i s z hs hz
    split at hc
    ·cases hc
    ·rename_i cL
     simp only[not_or,Decidable.not_not]at cL
     simp only[kj]at hc
     obtain⟨uG,h1,rfl⟩:=hc
     exact Yfo (call:=call) hh hr hu hs hz cL.1 cL.2.1 h1 h
   ·cases hc
  ·cases hc
 case load t x=>
  split at hc
  ·rename_i h1 h2
   simp only[aq]at hc;subst hc
   exact Yn5 (call:=call) hh hr h1 h2 h
  ·cases hc
 case store t x y=>
  split at hc
  ·rename_i h1 h2 h3
   simp only[aq]at hc;subst hc
   exact Ygr (call:=call) hh hr h1 h2 h3 h
  ·cases hc
 case nilCheck x=>simp only[kj]at hc;obtain⟨s,h1,rfl⟩:=hc;exact Yh0 (call:=call) hh hr h1 h
 case binOp op t x y p=>
  split at hc
  ·rename_i s u h1 h2
   have fin:∀q ng,Xj P op t x y q ng->m=.bin op q ng s u->ba P μ w st (execOp a.eval ⟨dst,.binOp op t x y p,ty,pos,af,g⟩) v az:=by
    intro q ng hq hm
    subst hm
    exact Yso (call:=call) hh hr h1 h2 hq h
   cases op
   case eql=>
    simp only at hc
    split at hc
    ·rename_i q hq
     rw[Ji]at hc
     obtain⟨cL,hc⟩:=hc
     simp only[aq]at hc
     exact fin _ _ (fun _=>⟨hq,by rw[Bool.not_eq_true]at cL;exact cL,rfl⟩) hc.symm
    ·cases hc
   case neq=>
    simp only at hc
    split at hc
    ·rename_i q hq
     rw[Ji]at hc
     obtain⟨cL,hc⟩:=hc
     simp only[aq]at hc
     exact fin _ _ (fun _=>⟨hq,by rw[Bool.not_eq_true]at cL;exact cL,rfl⟩) hc.symm
    ·cases hc
   all_goals
    simp only[aq]at hc
    exact fin _ _ (fun hq=>by rcases hq with hq|hq<;>cases hq) hc.symm
  ·cases hc
 case unOp op t x=>simp only[kj]at hc;obtain⟨s,h1,rfl⟩:=hc;exact Yta (call:=call) hh hr h1 h
 case convert src dst' x=>
  split at hc
  ·cases hc
  ·rename_i s h1
   split at hc
   ·rename_i q k hq hk
    simp only[aq]at hc;subst hc
    exact Yay (call:=call) hh hr ⟨_,hq⟩ hk h1 h
   ·rename_i e hq hk
    split at hc
    ·rename_i he
     simp only[aq]at hc;subst hc
     exact Zum (call:=call) hh hr hq hk he h1 h
    ·cases hc
   ·rename_i e hq hk
    split at hc
    ·rename_i he
     simp only[aq]at hc;subst hc
     exact Zwc (call:=call) hh hr hq hk he h1 h
    ·cases hc
   ·rename_i t hq hk
    split at hc
    ·rename_i z hz
     simp only[aq]at hc;subst hc
     exact Ybk (call:=call) hh hr hq hk hz h1 h
    ·cases hc
   ·rename_i u hq hk
    split at hc
    ·rename_i z hz
     simp only[aq]at hc;subst hc
     exact Zug (call:=call) hh hr hq hk hz h1 h
    ·cases hc
   ·cases hc
 case makeInterface t x=>
  split at hc
  ·cases hc
  ·rename_i d aW hd
   simp only[kj]at hc;obtain⟨s,h1,rfl⟩:=hc
   exact Zzr (call:=call) hh hr hd (fun k hk=>aW k hk) h1 h
  ·cases hc
 case makeFunc f first gl=>
  cases f<;>simp only[reduceCtorEq]at hc
  split at hc
  ·rename_i h1 h2
   simp only[aq]at hc;subst hc
   exact Ydj (call:=call) hh hr h1 h2 h
  ·cases hc
 case makeMap t rsv=>
  cases rsv<;>simp only[reduceCtorEq]at hc
  simp only[aq]at hc;subst hc
  exact Yh9 (call:=call) (r:=r) hh h
 case makeSlice t x y=>
  split at hc
  ·rename_i e hu
   split at hc
   ·rename_i hs hb hz hx hy
    split at hc
    ·rename_i gp
     simp only[aq]at hc;subst hc
     exact Zzq (call:=call) hh hr hu hs hb hz gp hx hy h
    ·cases hc
   ·cases hc
  ·cases hc
 case slice t x lo hi mx=>
  split at hc
  ·rename_i hx fO gW df
   split at hc
   ·rename_i hu
    split at hc
    ·cases hc
    ·rename_i Ma
     simp only[aq]at hc;subst hc
     have hm:mx=none:=by
      cases mx with
      |none=>rfl
      |some q=>
       simp only[uA]at df
       split at df
       ·simp only[aq]at df
        subst df;simp at Ma
       ·cases df
     subst hm
     exact Zuo (call:=call) hh hr hu hx fO gW h
   ·rename_i e hu
    simp only[kj]at hc;obtain⟨s,h1,rfl⟩:=hc
    exact Zys (call:=call) hh hr hu h1 hx fO gW df h
   ·rename_i k e hu
    simp only[kj]at hc;obtain⟨s,h1,rfl⟩:=hc
    exact Zup (call:=call) hh hr hu h1 hx fO gW df h
   ·cases hc
  ·cases hc
 case fieldAddr t x i=>
  split at hc
  ·rename_i hu hx
   split at hc
   ·rename_i f hf
    split at hc
    ·rename_i hk
     simp only[aq]at hc;subst hc
     exact Yi3 (call:=call) hh hr hu hf hk hx h
    ·cases hc
   ·cases hc
  ·cases hc
 case indexAddr t x i=>
  split at hc
  ·rename_i hu hx hi
   simp only[kj]at hc;obtain⟨s,h1,rfl⟩:=hc
   exact Zvu (call:=call) hh hr hu h1 hx hi h
  ·rename_i hu hx hi
   simp only[kj]at hc;obtain⟨s,h1,rfl⟩:=hc
   exact Yaj (call:=call) hh hr hu h1 hx hi h
  ·cases hc
 case index t x i=>
  split at hc
  ·rename_i hu hx hi
   simp only[aq]at hc;subst hc
   exact Yd8 (call:=call) hh hr hu hx hi h
  ·cases hc
 case lookup t x k ok=>
  split at hc
  ·rename_i hu hx hk
   split at hc
   ·rename_i h1 h2
    simp only[aq]at hc;subst hc
    exact Ydp (call:=call) hh hr hu h1 h2 hx hk h
   ·cases hc
  ·cases hc
 case mapUpdate t x k y=>
  split at hc
  ·rename_i hu hx hk hy
   simp only[kj]at hc;obtain⟨s,h1,rfl⟩:=hc
   exact Zs8 (call:=call) hh hr hu h1 hx hk hy h
  ·cases hc
 case insert t x k y=>
  split at hc
  ·rename_i hu hx hk hy
   simp only[kj]at hc;obtain⟨s,h1,rfl⟩:=hc
   exact Zs8 (call:=call) hh hr hu h1 hx hk hy h
  ·cases hc
 case range t x=>
  split at hc
  ·rename_i hu hx
   simp only[aq]at hc;subst hc
   exact Zuz (call:=call) hh hr hu hx h
  ·cases hc
 case next it isS=>
  cases isS<;>simp only[reduceCtorEq]at hc
  simp only[kj]at hc;obtain⟨s,h1,rfl⟩:=hc
  exact Zzd (call:=call) hh hr h1 h
 case extract x i=>simp only[kj]at hc;obtain⟨s,h1,rfl⟩:=hc;exact Yam (call:=call) hh hr h1 h
 case call c=>
  obtain⟨callee,args,ats⟩:=c
  cases callee with
  |invoke r' nm=>simp only[DV,reduceCtorEq]at hc
  |builtin b=>
   have:=Zwd (ty:=ty) (cs:=args.map fun|.const _=>true|_=>false) hh hr hc h
   obtain⟨nx,x,w',μ',ws,k1,k2⟩:=this
   refine⟨nx,x,w',μ',ws,?_,k2⟩
   rw[<-k1]
   simp[execOp,resolve,invoke]
   rfl
  |value f=>
   simp only[DV]at hc
   split at hc
   ·cases hc
   ·rename_i ss EG
    cases f<;>simp only at hc
    case func gid=>
     split at hc
     ·rename_i fn A1
      split at hc
      ·simp only[aq]at hc;subst hc;simp[gk.oL]at hn
      ·rename_i hb
       split at hc
       ·rename_i e he
        simp only[aq]at hc;subst hc
        have:=Yr3 (call:=call) hh hr hE A1 (by simpa using hb) he EG h
        obtain⟨nx,x,w',μ',ws,k1,k2⟩:=this
        refine⟨nx,x,w',μ',ws,?_,k2⟩
        rw[<-k1]
        have e0:(⟨List.map a.eval args.toList⟩:Array Value)=args.map a.eval:=by apply Array.ext';simp
        rw[e0]
        simp[execOp,resolve,invoke,Deferred.ofValue,Act.eval]
       ·cases hc
     ·cases hc
    all_goals
     split at hc
     ·simp only[aq]at hc;subst hc;simp[gk.oL]at hn
     ·cases hc
end
abbrev FE(lb:Option Nat):Fence:={Fence.wide with round:=lb}
def G6(R:Value->World->Prop):Ending->World->Prop
 |.returned x,w=>R x w
 |_,_=>False
def Lp(P:Program)(y:Bool)(G:Value)(xs:Array Value)(w:World)(R:Value->World->Prop):Prop:=
 (∃d,(Deferred.ofValue G xs).run P w=.ok d w/\
  ((y=false/\∃f args,(invoke d.target d.args).run P w=.ok (.enter f args) w/\CallsIn Fence.wide 0 P f args w (G6 R))\/
     (y=true/\∃l f tmps fM fN,(invoke d.target d.args).run P w=.ok (.round l f tmps fM fN) w/\RoundIn Fence.wide 0 P l f tmps fM fN w (G6 R))))
def jv(P:Program)(call:cD):Prop:=
 ∀(g:V) (args:List V) (st:St) (v:V) (az:St),call g args st=some (v,az)->∀(μ:Mu) (w:World) (G:Value) (xs:List Value),bm P μ w st->VR μ g G->aS μ args xs->
  Lp P g.GL G ⟨xs⟩ w fun x w'=>∃μ' ws,VR μ' v x/\bH P μ w st μ' w' az ws
def pJ(μ:Mu):List Nat->List Deferred->Prop
 |[],ds=>ds=[]
 |m::ms,ds=>∃l Ev,μ m=some l/\ds={target:=.collected l.b,args:=#[]}::Ev/\pJ μ ms Ev
def pJ.mono{μ μ':Mu}(h:∀i l,μ i=some l->μ' i=some l):∀{ms:List Nat} {ds:List Deferred},pJ μ ms ds->pJ μ' ms ds
 |[],_,hd=>hd
 |_::_,_,⟨l,Ev,h1,h2,h3⟩=>⟨l,Ev,h _ _ h1,h2,pJ.mono h h3⟩
def mT(μ:Mu)(fr:Fr)(a:Act):Prop:=RR μ fr.r fr.n a.tmps/\pJ μ fr.marks a.defers
def mT.mono{μ μ':Mu}(h:∀i l,μ i=some l->μ' i=some l){fr:Fr}{a:Act}(hf:mT μ fr a):mT μ' fr a:=⟨hf.1.mono h,hf.2.mono h⟩
section
variable {P:Program} {μ:Mu} {w:World} {st az:St} {fr bE:Fr} {a:Act} {call:cD} {v:V} {lb:Option Nat}
def bH.mono{μ':Mu}{w':World}{ws:List Nat}(hh:bm P μ w st)(h:bH P μ w st μ' w' az ws):∀i l,μ i=some l->μ' i=some l:=bm.Gd hh h.ext
def mT.put(hf:mT μ fr a){d:Option Nat}{x:Value}(hv:VR μ v x)(h:fr.put d v=some bE):mT μ bE (a.put d x):=by
 cases d with
 |none=>
  simp only[Fr.put,aq]at h;subst h
  exact hf
 |some d=>
  simp only[Fr.put]at h
  split at h
  ·rename_i hd
   simp only[aq]at h;subst h
   exact⟨hf.1.set hd hv,hf.2⟩
  ·cases h
def WB(bY:jv P call)(hE:ue P)(hh:bm P μ w st)(hf:mT μ fr a){o:Oper}(h:cj (zR P o.op) call fr.r st=some (v,az)){K:Act->World->Prop}{Q:Exit->Act->World->Prop}
  (hK:∀x w' μ' ws,VR μ' v x->bH P μ w st μ' w' az ws->K (a.put o.dst x) w'):o.wpIn (FE lb) 0 P a w K Q:=by
 refine⟨fun _ _=>trivial,?_⟩
 have Xu:∀c,o.op≠.defer c:=by
  intro c hc
  rw[hc]at h
  simp only[zR,I9,Option.getD_none]at h
  cases h
 show o.uponIn (FE lb) 0 P a K Q ((o.semAt lb a.eval).run P w)
 rw[Oper.semAt_eq _ _ _ Xu]
 cases hc:I9 P o.op with
 |none=>
  simp only[zR,hc,Option.getD_none]at h
  cases h
 |some m=>
  simp only[zR,hc,pd]at h
  by_cases hn:m.oL=true
  ·-- a call
   obtain⟨dst,op,ty,pos,af,g⟩:=o
   cases m<;>simp only[gk.oL,fI]at hn
   rename_i sf ss
   have LM:∃c f,op=.call c/\c.callee=.value f/\bB P f=some sf/\vj P c.args.toList=some ss:=by
    cases op<;>simp only[I9]at hc<;>try (cases hc;done)
    case call c=>
     obtain⟨callee,args,ats⟩:=c
     cases callee with
     |invoke r' nm=>simp only[DV,reduceCtorEq]at hc
     |builtin b=>
      exfalso
      simp only[DV]at hc
      repeat' split at hc
      all_goals first|(cases hc;done)|(simp at hc;done)
     |value f=>
      simp only[DV]at hc
      split at hc
      ·cases hc
      ·rename_i ss' EG
       refine⟨_,f,rfl,rfl,?_⟩
       cases f<;>simp only at hc
       case func gid=>
        split at hc
        ·split at hc
         ·simp only[aq,gk.call.injEq]at hc
          obtain⟨rfl,rfl⟩:=hc
          exact⟨rfl,EG⟩
         ·split at hc
          ·simp at hc
          ·cases hc
        ·cases hc
       all_goals
        split at hc
        ·rename_i h1
         simp only[aq,gk.call.injEq]at hc
         obtain⟨rfl,rfl⟩:=hc
         exact⟨h1,EG⟩
        ·cases hc
    all_goals
     exfalso
     repeat' split at hc
     all_goals first|(cases hc;done)|contradiction|(simp at hc;done)|(rw[Ji]at hc;simp at hc;done)
   obtain⟨c,f,rfl,Xv,h1,h2⟩:=LM
   have h':zc sf ss call fr.r st=some (v,az):=h
   unfold zc at h'
   split at h'
   ·rename_i gv l hg hl
    have hG:=cQ hh hf.1 h1 hg
    have hX:=Hb hh hf.1 h2 hl
    obtain⟨d,hd,ij⟩:=bY _ _ _ _ _ h' μ w _ _ hh hG hX
    have e0:(⟨List.map a.eval c.args.toList⟩:Array Value)=c.args.map a.eval:=by apply Array.ext';simp
    rw[e0]at hd
    have tN:(resolve a.eval c ty).run P w=.ok d w:=by
     simp only[resolve,Xv]
     exact hd
    rcases ij with⟨_,g',args,hinv,GX⟩|⟨_,l',g',tmps,fM,fN,hinv,JC⟩
    ·have bM:(execOp a.eval ⟨dst,.call c,ty,pos,af,g⟩).run P w=.ok (.enter g' args) w:=by
      simp only[execOp,Sem.run_bind,tN,Result.andThen_ok,hinv]
     rw[bM,Oper.uponIn_enter]
     refine⟨fun hx=>by simp[Fence.wide]at hx,?_⟩
     refine CallsIn.mono (F:=Fence.wide) GX fun e w' he=>?_
     cases e with
     |returned x=>
      obtain⟨μ',ws,q1,q2⟩:=he
      exact hK x w' μ' ws q1 q2
     |panicked _=>exact he.elim
     |outgrown=>exact he.elim
    ·have bM:(execOp a.eval ⟨dst,.call c,ty,pos,af,g⟩).run P w=.ok (.round l' g' tmps fM fN) w:=by
      simp only[execOp,Sem.run_bind,tN,Result.andThen_ok,hinv]
     rw[bM,Oper.uponIn_round]
     refine⟨fun hx=>by simp[Fence.wide]at hx,?_⟩
     refine RoundIn.mono (F:=Fence.wide) JC fun e w' he=>?_
     cases e with
     |returned x=>
      obtain⟨μ',ws,q1,q2⟩:=he
      exact hK x w' μ' ws q1 q2
     |panicked _=>exact he.elim
     |outgrown=>exact he.elim
   ·cases h'
  ·obtain⟨nx,x,w',μ',ws,k1,k2,k3,k4⟩:=Yq7 hh hf.1 hE hc (by simpa using hn) h
   rw[k1]
   rcases k2 with rfl|⟨rfl,rfl⟩
   ·rw[Oper.uponIn_value];exact hK x w' μ' ws k3 k4
   ·rw[Oper.uponIn_skip];exact hK undef w' μ' ws k3 k4
def Zpb{ops:Array Oper}{o:Oper}{g:Option (Nat×Bool)}(hr:RR μ fr.r fr.n a.tmps)(hg:Gc ops o.guard=some g){b:Bool}(h:bR fr.r g=some b):Region.wanted o (yielded ops a.tmps)=b:=by
 unfold Region.wanted
 cases ho:o.guard with
 |none=>
  rw[ho]at hg
  simp only[Gc,aq]at hg;subst hg
  simp only[bR,aq]at h
  exact h
 |some p=>
  obtain⟨j,want⟩:=p
  rw[ho]at hg
  simp only[Gc]at hg
  split at hg
  ·rename_i t ht
   simp only[aq]at hg;subst hg
   simp only[bR]at h
   split at h
   ·rename_i b' hb
    simp only[aq]at h;subst h
    obtain⟨x,hx,hv⟩:=hr.2 _ _ hb
    simp only[VR]at hv
    subst hv
    simp[yielded,ht,hx]
   ·rename_i l hb
    simp only[aq]at h;subst h
    obtain⟨x,hx,y,hv,_⟩:=hr.2 _ _ hb
    subst hv
    simp[yielded,ht,hx]
   ·cases h
  ·cases hg
end
def JG:Ex->Exit
 |.normal=>.normal
 |.exit id=>.exit id
 |.ret=>.ret
def JM(μ:Mu):Option Nat->Option Nat->Prop
 |none,none=>True
 |some l,some b=>∃L,μ l=some L/\L.b=b
 |_,_=>False
def JM.mono{μ μ':Mu}(h:∀i l,μ i=some l->μ' i=some l){ro lb:Option Nat}(hr:JM μ ro lb):JM μ' ro lb:=by
 cases ro<;>cases lb<;>simp only[JM]at*
 obtain⟨L,h1,h2⟩:=hr
 exact⟨L,h _ _ h1,h2⟩
def vR(P:Program)(μ:Mu)(w:World)(st:St)(ex:Ex)(bE:Fr)(az:St):Exit->Act->World->Prop:=fun e a' w'=>
 e=JG ex/\∃μ' ws,bH P μ w st μ' w' az ws/\mT μ' bE a'
section
variable {P:Program} {μ:Mu} {w:World} {st az:St} {fr bE:Fr} {a:Act} {call:cD} {v:V} {lb:Option Nat}
def Ynn(bY:jv P call)(hE:ue P){ops:Array Oper}{Q:Exit->Act->World->Prop}:∀(is:List Nat) (os:List Oper),is.map (fun i=>ops[i]?)=os.map some->
  ∀{st:St} {fr:Fr} {a:Act} {w:World} {μ:Mu},bm P μ w st->mT μ fr a->dw call (os.map (qW P ops)) fr st=some (bE,az)->
   (∀a' w' μ' ws,mT μ' bE a'->bH P μ w st μ' w' az ws->Q .normal a' w')->wpOpsIn (FE lb) 0 P ops Q is a w:=by
 intro is
 induction is with
 |nil=>
  intro os zT st fr a w μ hh hf h hQ
  cases os with
  |cons o os=>simp at zT
  |nil=>
   simp only[wW,dw,Ykt,aq,bs]at h
   obtain⟨rfl,rfl⟩:=h
   exact hQ a w μ [] hf (bH.refl hh)
 |cons i is ih=>
  intro os zT st fr a w μ hh hf h hQ
  cases os with
  |nil=>simp at zT
  |cons o os=>
   simp only[nZ,iY]at zT
   obtain⟨hoi,zT⟩:=zT
   simp only[nZ,dw,Bq]at h
   unfold wpOpsIn
   rw[hoi]
   simp only[]
   have go:∀(v:V) (bS:St) (dT:Fr) (x:Value) (w1:World) (μ1:Mu) (ws:List Nat),VR μ1 v x->bH P μ w st μ1 w1 bS ws->fr.put o.dst v=some dT->dw call (os.map (qW P ops)) dT bS=some (bE,az)->
     wpOpsIn (FE lb) 0 P ops Q is (a.put o.dst x) w1:=by
    intro v bS dT x w1 μ1 ws hv hs hp hm
    refine ih os zT hs.hr ((hf.mono (hs.mono hh)).put hv hp) hm fun a' w' μ' P4 zw jl=>?_
    exact hQ a' w' μ' _ zw (hs.trans jl)
   unfold qW at h
   cases hg:Gc ops o.guard with
   |none=>
    rw[hg]at h
    simp only[bR,cj,V4]at h
    cases h
   |some g=>
    rw[hg]at h
    simp only at h
    cases hw:bR fr.r g with
    |none=>rw[hw]at h;cases h
    |some b=>
     rw[hw]at h
     have xq:=Zpb hf.1 hg hw
     cases b with
     |true=>
      rw[ay xq]
      simp only at h
      split at h
      ·rename_i v1 bS hm
       split at h
       ·rename_i dT hp
        exact WB bY hE hh hf hm fun x w' μ' ws q1 q2=>go v1 bS dT x w' μ' ws q1 q2 hp h
       ·cases h
      ·cases h
     |false=>
      rw[ak (by rw[xq];simp)]
      simp only at h
      split at h
      ·rename_i dT hp
       exact⟨fun _ _=>trivial,go (.aV []) st dT undef w μ [] ⟨[],rfl,by simp[aS]⟩ (bH.refl hh) hp h⟩
      ·cases h
def Yco{ops:Array Oper}:(List.range ops.size).map (fun i=>ops[i]?)=ops.toList.map some:=by
 apply oe
 intro i
 simp only[fV]
 by_cases h:i<ops.size
 ·simp[h]
 ·simp[h]
def Zo4{F:Fence}{n:Nat}{c:Code}{Q:Exit->Act->World->Prop}(J:Nat->Act->World->Prop)
  (round:∀f a w,J f a w->c.wpIn F n P (Exit.then (fun a' w'=>∃f',f'<f/\J f' a' w') Q) a w) {f:Nat} (h₀:J f a w):(Code.loop c).wpIn F n P Q a w:=by
 intro b k cs pk hb hr
 have key:∀j a w,J j a w->
   ∃e a' w',Q e a' w'/\ArrivesIn (Machine.fenced P F) P (lone (b.atR a (.code c::.inLoop c::k)) cs w) b k cs e a' w':=by
  intro j
  induction j using Nat.strongRecOn with
  |_ j ih=>
   intro a w hI
   obtain⟨e,a₁,w₁,hq,jn⟩:=round j a w hI b (.inLoop c::k) cs pk hb hr
   cases e with
   |normal=>
    obtain⟨f',ax,hI₁⟩:=hq
    obtain⟨e₂,a₂,w₂,hq₂,Mb⟩:=ih f' ax a₁ w₁ hI₁
    exact⟨e₂,a₂,w₂,hq₂,.of_steps (StepsIn.trans jn (.one (fenced_calm hb hr rfl) stepR_inLoop)) Mb⟩
   |exit id=>exact⟨_,a₁,w₁,hq,.pass (x:=.inLoop c) rfl (fun _ _=>.inl (by simp)) jn⟩
   |goto l=>exact⟨_,a₁,w₁,hq,.pass (x:=.inLoop c) rfl (fun _ _=>.inl (by simp)) jn⟩
   |ret=>exact⟨_,a₁,w₁,hq,.pass (x:=.inLoop c) rfl (fun _ _=>.inl (by simp)) jn⟩
   |panic ch=>exact⟨_,a₁,w₁,hq,.pass (x:=.inLoop c) rfl (fun _ _=>.inl (by simp)) jn⟩
   |outgrown=>exact⟨_,a₁,w₁,hq,.pass (x:=.inLoop c) rfl (fun _ _=>.inl (by simp)) jn⟩
 obtain⟨e,a',w',hq,jn⟩:=key _ a w h₀
 exact⟨e,a',w',hq,.of_steps (.one (fenced_calm hb hr rfl) stepR_loop) jn⟩
def JN{b:Frame}{k:List Item}{cs:List Frame}{c:Code}:
  step P (lone (b.atR a (.code (.scope c)::k)) cs w)=.next (lone (b.atR a (.code c::.inScope c::k)) cs w):=
 step_lone_go (by simp[stepG,stepG.exec,Frame.atR])
def Zqt{b:Frame}{k:List Item}{cs:List Frame}{c:Code}:
  step P (lone (b.atR a (.inScope c::k)) cs w)=.next (lone (b.atR a k) cs w):=
 step_lone_go (by simp[stepG,stepG.exec,Frame.atR])
def Zym{F:Fence}{n:Nat}{c:Code}{Q:Exit->Act->World->Prop}(h:c.wpIn F n P Q a w)(hq:∀l a w,¬Q (.goto l) a w):(Code.scope c).wpIn F n P Q a w:=by
 intro b k cs pk hb hr
 have h0:(lone (b.atR a (.code (.scope c)::k)) cs w).fenced P F:=fenced_calm hb hr rfl
 obtain⟨e,a₁,w₁,hQ,jn⟩:=h b (.inScope c::k) cs pk hb hr
 cases e with
 |normal=>exact⟨.normal,a₁,w₁,hQ,.head h0 JN (StepsIn.trans jn (.one (fenced_calm hb hr rfl) Zqt))⟩
 |exit id=>
  have hx:exitTo id (.inScope c::k)=exitTo id k:=by simp[exitTo]
  exact⟨.exit id,a₁,w₁,hQ,fun k' hk=>.head h0 JN (jn.1 k' (by rw[hx];exact hk)),
   fun lG hk=>let ⟨k₁,h1,h2⟩:=jn.2 lG (by rw[hx];exact hk);⟨k₁,h1,.head h0 JN h2⟩⟩
 |goto l=>exact absurd hQ (hq l a₁ w₁)
 |ret=>exact⟨_,a₁,w₁,hQ,.of_steps (.one h0 JN) jn⟩
 |panic ch=>exact⟨_,a₁,w₁,hQ,.of_steps (.one h0 JN) jn⟩
 |outgrown=>exact⟨_,a₁,w₁,hQ,.of_steps (.one h0 JN) jn⟩
def vR.after{μ1:Mu}{w1:World}{bS:St}{ws:List Nat}(hs:bH P μ w st μ1 w1 bS ws){ex:Ex}{e:Exit}{a':Act}{w':World}(h:vR P μ1 w1 bS ex bE az e a' w'):vR P μ w st ex bE az e a' w':=by
 obtain⟨h1,μ',P4,h2,h3⟩:=h
 exact⟨h1,μ',_,hs.trans h2,h3⟩
def vR.then{μ:Mu}{ex:Ex}{dT:Fr}{bS:St}{K:Act->World->Prop}{Q:Exit->Act->World->Prop}{e:Exit}{a':Act}{w':World}(h:vR P μ w st ex dT bS e a' w')
  (hn:ex=.normal->K a' w') (hq:ex≠.normal->Q e a' w'):Exit.then K Q e a' w':=by
 obtain⟨rfl,h⟩:=h
 cases ex<;>simp only[JG,Exit.then]
 ·exact hn rfl
 ·exact hq (by simp)
 ·exact hq (by simp)
def JF(P:Program)(code:qf):Prop:=
 ∀(ro:Option Nat) (c:Code) (fr:Fr) (st:St) (ex:Ex) (bE:Fr) (az:St),code ro (iO P c) fr st=some (ex,bE,az)->
  ∀(μ:Mu) (w:World) (a:Act) (lb:Option Nat),bm P μ w st->mT μ fr a->JM μ ro lb->c.wpIn (FE lb) 0 P (vR P μ w st ex bE az) a w
def Ylq(P:Program)(call:cD):Prop:=
 ∀(id:Nat) (ops:Array Oper) (fr:Fr) (st:St) (ex:Ex) (bE:Fr) (az:St),VU P ops=true->Ac (ops.toList.map (qW P ops)) (vn ops.toList []) call Qh none fr st=some (ex,bE,az)->
  ∀(μ:Mu) (w:World) (a:Act) (lb:Option Nat),bm P μ w st->mT μ fr a->(Code.region id ops true).wpIn (FE lb) 0 P (vR P μ w st ex bE az) a w
def Ysr(P:Program)(call:cD):Prop:=
 ∀(id:Nat) (ops:Array Oper) (o:Oper) (rest:List Oper) (d:Option Nat) (ch:Src) (s:Option Src) (z:V) (fr:Fr) (st:St) (ex:Ex) (bE:Fr) (az:St),ops.toList=o::rest->Yu1 P o=some (d,ch,s,z)->
  Bu d ch s z (rest.map (qW P ops)) call Qh none fr st=some (ex,bE,az)->
  ∀(μ:Mu) (w:World) (a:Act) (lb:Option Nat),bm P μ w st->mT μ fr a->(Code.region id ops false).wpIn (FE lb) 0 P (vR P μ w st ex bE az) a w
def Yf1(P:Program)(call:cD):Prop:=
 ∀(ro:Option Nat) (g:Operand) (s:Src) (ps:Array Nat) (fM fN:Code) (fr:Fr) (st:St) (ex:Ex) (bE:Fr) (az:St),bB P g=some s->
  Ad s ps.toList (iO P fM) (iO P fN) call Qh ro fr st=some (ex,bE,az)->
  ∀(μ:Mu) (w:World) (a:Act) (lb:Option Nat),bm P μ w st->mT μ fr a->JM μ ro lb->(Code.rangeFunc g ps fM fN).wpIn (FE lb) 0 P (vR P μ w st ex bE az) a w
def Yff(bY:jv P call)(hE:ue P)(hD:Ylq P call)(hS:Ysr P call)(hR:Yf1 P call):∀fuel,JF P (dK call fuel):=by
 intro fuel
 induction fuel using Nat.strongRecOn with
 |_ fuel ihs=>
 cases fuel with
 |zero=>intro ro c fr st ex bE az h;cases h
 |succ f=>
  have ih:JF P (dK call f):=ihs f (vt f)
  intro ro c fr st ex bE az h μ w a lb hh hf pk
  cases c with
  |skip=>
   simp only[iO,dK,mR,V6,aq,bs]at h
   obtain⟨rfl,rfl,rfl⟩:=h
   exact wpIn_skip ⟨rfl,μ,[],bH.refl hh,hf⟩
  |label l=>
   simp only[iO,dK,mR,V6,aq,bs]at h
   obtain⟨rfl,rfl,rfl⟩:=h
   exact wpIn_label ⟨rfl,μ,[],bH.refl hh,hf⟩
  |exit id=>
   simp only[iO,dK,mR,Ylh,aq,bs]at h
   obtain⟨rfl,rfl,rfl⟩:=h
   exact wpIn_exit ⟨rfl,μ,[],bH.refl hh,hf⟩
  |ret=>
   simp only[iO,dK,mR,Ysl,aq,bs]at h
   obtain⟨rfl,rfl,rfl⟩:=h
   exact wpIn_ret ⟨rfl,μ,[],bH.refl hh,hf⟩
  |goto l=>simp only[iO,dK,mR,Jt]at h;cases h
  |refuse why=>simp only[iO,dK,mR,Jt]at h;cases h
  |region id ops draw=>
   cases draw with
   |true=>
    simp only[iO]at h
    split at h
    ·rename_i hp
     simp only[dK,mR]at h
     exact hD id ops fr st ex bE az hp h μ w a lb hh hf
    ·simp only[dK,mR,Jt]at h;cases h
   |false=>
    have plain:Ab (ops.toList.map (qW P ops)) call (dK call f) ro fr st=some (ex,bE,az)->(Code.region id ops false).wpIn (FE lb) 0 P (vR P μ w st ex bE az) a w:=by
     intro h
     simp only[Ab]at h
     split at h
     ·rename_i dT bS hm
      simp only[aq,bs]at h
      obtain⟨rfl,rfl,rfl⟩:=h
      exact wpIn_region (Ynn bY hE _ _ Yco hh hf hm fun a' w' μ' ws q1 q2=>⟨rfl,μ',ws,q2,q1⟩)
     ·cases h
    simp only[iO,dK]at h
    split at h
    ·rename_i ho
     exact plain (by rw[ho];exact h)
    ·rename_i o rest ho
     split at h
     ·rename_i d ch s z hs
      exact hS id ops o rest d ch s z fr st ex bE az ho hs h μ w a lb hh hf
     ·exact plain (by rw[ho];exact h)
  |seq x y=>
   simp only[iO,dK,mR,Bv]at h
   refine wpIn_seq ?_
   split at h
   ·rename_i dT bS hx
    refine wpIn_mono (ih ro x fr st _ _ _ hx μ w a lb hh hf pk) fun e a' w' hp=>?_
    have tu:=hp
    obtain⟨he,μ1,ws,hs,tf⟩:=hp
    refine tu.then (fun _=>?_) (fun aW=>absurd rfl aW)
    exact wpIn_mono (ih ro y dT bS ex bE az h μ1 w' a' lb hs.hr tf (pk.mono (hs.mono hh))) fun e2 a2 w2 zg=>zg.after hs
   ·rename_i hx
    refine wpIn_mono (ih ro x fr st _ _ _ h μ w a lb hh hf pk) fun e a' w' hp=>?_
    refine hp.then (fun hn=>?_) (fun _=>hp)
    subst hn
    exact absurd h (hx bE az)
  |cond x p q=>
   simp only[iO]at h
   split at h
   ·rename_i s hs
    simp only[dK,mR,yn]at h
    split at h
    ·rename_i hv
     have:=cQ hh hf.1 hs hv
     exact wpIn_cond_true (by simpa[VR]using this) (ih ro p fr st ex bE az h μ w a lb hh hf pk)
    ·rename_i hv
     have:=cQ hh hf.1 hs hv
     exact wpIn_cond_false (by simpa[VR]using this) (ih ro q fr st ex bE az h μ w a lb hh hf pk)
    ·cases h
   ·simp only[dK,mR,Jt]at h;cases h
  |block id c=>
   simp only[iO,dK,mR,Bw]at h
   refine wpIn_block ?_
   split at h
   ·rename_i Bx dT bS hx
    refine wpIn_mono (ih ro c fr st _ _ _ hx μ w a lb hh hf pk) fun e a' w' hp=>?_
    obtain⟨rfl,hp⟩:=hp
    simp only[JG,Exit.inBlock]
    split at h
    ·rename_i Bi
     simp only[aq,bs]at h
     obtain⟨rfl,rfl,rfl⟩:=h
     rw[ay (P6 Bi)]
     exact⟨rfl,hp⟩
    ·rename_i Bi
     simp only[aq,bs]at h
     obtain⟨rfl,rfl,rfl⟩:=h
     rw[ak (Nat.ne_of_beq_eq_false Bi)]
     exact⟨rfl,hp⟩
   ·rename_i hx
    refine wpIn_mono (ih ro c fr st _ _ _ h μ w a lb hh hf pk) fun e a' w' hp=>?_
    have tu:=hp
    obtain⟨rfl,hp⟩:=hp
    cases ex with
    |normal=>exact tu
    |ret=>exact tu
    |exit Bx=>exact absurd h (hx Bx bE az)
  |loop c=>
   refine Zo4 (fun k a1 w1=>k<=f+1/\∃dT bS μ1 ws,bH P μ w st μ1 w1 bS ws/\mT μ1 dT a1/\dK call k ro (.loop (iO P c)) dT bS=some (ex,bE,az)) ?_
    (f:=f+1) ⟨aQ _,fr,st,μ,[],bH.refl hh,hf,h⟩
   intro k a1 w1 hJ
   obtain⟨hk,dT,bS,μ1,ws,hs,tf,hm⟩:=hJ
   cases k with
   |zero=>cases hm
   |succ k=>
    simp only[dK,mR,By]at hm
    have ihk:JF P (dK call k):=ihs k (by omega)
    split at hm
    ·rename_i Au eI hx
     refine wpIn_mono (ihk ro c dT bS _ _ _ hx μ1 w1 a1 lb hs.hr tf (pk.mono (hs.mono hh))) fun e a' w' hp=>?_
     have tu:=hp
     obtain⟨he,μ2,WO,oG,cU⟩:=hp
     refine tu.then (fun _=>?_) (fun aW=>absurd rfl aW)
     exact⟨k,vt k,by omega,Au,eI,μ2,_,hs.trans oG,cU,hm⟩
    ·rename_i hx
     refine wpIn_mono (ihk ro c dT bS _ _ _ hm μ1 w1 a1 lb hs.hr tf (pk.mono (hs.mono hh))) fun e a' w' hp=>?_
     refine hp.then (fun hn=>?_) (fun _=>hp.after hs)
     subst hn
     exact absurd hm (hx bE az)
  |scope c=>
   simp only[iO,dK,mR,Yfm]at h
   refine Zym (ih ro c fr st ex bE az h μ w a lb hh hf pk) fun l a' w' hp=>?_
   obtain⟨he,_⟩:=hp
   cases ex<;>simp[JG]at he
  |rangeFunc g ps fM fN=>
   simp only[iO]at h
   split at h
   ·rename_i s hs
    simp only[dK,mR]at h
    exact hR ro g s ps fM fN fr st ex bE az hs h μ w a lb hh hf pk
   ·simp only[dK,mR,Jt]at h;cases h
end
end Go.Mx
