/-Every operation of M that calls no funct-/
import Derived.Test.YteojhfjdbpdolaaGreatDoorMxOp10
import Derived.RangeFuncRecord
import Derived.OrdersIn
set_option linter.all false
namespace Go.Mx
open Go
section
variable {P:Program} {μ:Mu} {w:World} {st aC:St} {r:T V} {n:Nat} {a:Act} {call:cI} {v:V}
def gh.oz:gh->Bool
 |.call _ _=>true
 |_=>false
def JJ{α:Type}{a:Array α}{x:α}(h:a.toList=[x]):a=#[x]:=by
 apply Array.ext';simpa using h
def Mg{α:Type}{a:Array α}{x y:α}(h:a.toList=[x,y]):a=#[x,y]:=by
 apply Array.ext';simpa using h
def Zw7(hh:bm P μ w st)(hr:RR μ r n a.tmps){b:Builtin}{ts:Array TypeId}{xs:Array Operand}{ty:TypeId}{cs:Array Bool}{m:gh}(hc:DX P ⟨.builtin b,xs,ts⟩=some m)
  (h:cm m call r st=some (v,aC)):ba P μ w st (builtin b ts ty cs (xs.map a.eval)) v aC:=by
 simp only[DX]at hc
 split at hc
 ·rename_i t x ht hx
  have e1:=JJ ht
  have e2:=JJ hx
  subst e1 e2
  simp only[builtin,Jd,py,yY]
  split at hc
  ·rename_i s hu hs
   simp only[al]at hc;subst hc
   exact Ya2 (call:=call) hh hr hu hs h
  ·rename_i e s hu hs
   simp only[al]at hc;subst hc
   exact Ztx (call:=call) hh hr hu hs h
  ·rename_i k e s hu hs
   simp only[al]at hc;subst hc
   exact Ya3 (call:=call) hh hr hu hs h
  ·cases hc
 ·rename_i t x ht hx
  have e1:=JJ ht
  have e2:=JJ hx
  subst e1 e2
  simp only[builtin,Jd,py,yY]
  split at hc
  ·rename_i e s hu hs
   simp only[al]at hc;subst hc
   exact Yub (call:=call) hh hr hu hs h
  ·cases hc
 ·split at hc
  ·rename_i l hl
   simp only[al]at hc;subst hc
   exact Yvz (call:=call) hh hr hl h
  ·cases hc
 ·split at hc
  ·rename_i l hl
   simp only[al]at hc;subst hc
   exact Yvy (call:=call) hh hr hl h
  ·cases hc
 ·rename_i t u s x ht hx
  have e1:=Mg ht
  have e2:=Mg hx
  subst e1 e2
  simp only[builtin,Jd,py,yY]
  split at hc
  ·rename_i e hu
   split at hc
   ·rename_i n' b' z s' x' d hs hb hz jq jn hd
    rw[Jc]at hc
    obtain⟨cP,hc⟩:=hc
    simp only[not_or,Decidable.not_not]at cP
    obtain⟨c1,c2,c3,c4⟩:=cP
    simp only[al]at hc;subst hc
    have c4':z.cells.all V.one=true:=by simpa using c4
    exact Yhb (call:=call) hh hr (by rfl) hu (by rfl) hd (fun k hk=>by subst hk;simp at c1) hs hb hz c3 c4' c2 jq jn h
   ·cases hc
  ·cases hc
 ·rename_i t ts' d s ht hx
  have e2:=Mg hx
  subst e2
  simp only[builtin,Jd,py,yY]
  split at hc
  ·rename_i e hu
   split at hc
   ·rename_i n' d' s' hs hd jq
    simp only[al]at hc;subst hc
    exact Yqz (call:=call) hh hr (by rw[<-Ck,ht];rfl) hu hs hd jq h
   ·cases hc
  ·cases hc
 ·rename_i t s ht hx
  have e1:=JJ ht
  have e2:=JJ hx
  subst e1 e2
  simp only[builtin,Jd,py,yY]
  simp only[ki]at hc
  obtain⟨s',hs,rfl⟩:=hc
  exact Yil (call:=call) hh hr hs h
 ·rename_i t u x y ht hx
  have e1:=Mg ht
  have e2:=Mg hx
  subst e1 e2
  simp only[builtin,Jd,py,yY]
  split at hc
  ·rename_i e hu
   split at hc
   ·rename_i s q hs hx hy
    simp only[al]at hc;subst hc
    exact Yni (call:=call) hh hr hu hs hx hy h
   ·cases hc
  ·cases hc
 ·cases hc
def Yss(hh:bm P μ w st)(hr:RR μ r n a.tmps)(hE:uy P){o:Oper}{m:gh}(hc:I8 P o.op=some m)(hn:m.oz=false)(h:cm m call r st=some (v,aC)):
  ba P μ w st (execOp a.eval o) v aC:=by
 obtain⟨dst,op,ty,pos,af,g⟩:=o
 cases op<;>simp only[I8]at hc<;>try (cases hc;done)
 case move x=>simp only[ki]at hc;obtain⟨s,h1,rfl⟩:=hc;exact Ymk (call:=call) hh hr h1 h
 case assign x=>simp only[ki]at hc;obtain⟨s,h1,rfl⟩:=hc;exact Ymk (call:=call) hh hr h1 h
 case pick c x y=>
  split at hc
  ·rename_i h1 h2 h3
   simp only[al]at hc;subst hc
   exact Yor (call:=call) hh hr h1 h2 h3 h
  ·cases hc
 case alloc e=>
  split at hc
  ·rename_i z hz
   split at hc
   ·rename_i gl
    simp only[al]at hc;subst hc
    exact Ylo (call:=call) (r:=r) hh hz gl h
   ·cases hc
  ·cases hc
 case box e x=>simp only[ki]at hc;obtain⟨s,h1,rfl⟩:=hc;exact Yud (call:=call) hh hr h1 h
 case build t parts=>
  split at hc
  ·cases hc
  ·rename_i z hz
   split at hc
   ·rename_i fs wS
    split at hc
    ·rename_i pl gw
     simp only[ki]at hc
     obtain⟨uA,h1,rfl⟩:=hc
     exact Zpj (call:=call) hh hr hz wS gw h1 h
    ·cases hc
   ·rename_i k e hu
    split at hc
    ·rename_i s hs
     simp only[ki]at hc
     obtain⟨uA,h1,rfl⟩:=hc
     exact Zp3 (call:=call) hh hr hz hu hs h1 h
    ·cases hc
   ·cases hc
 case buildSlice t len parts=>
  split at hc
  ·rename_i e hu
   split at hc
   ·rename_i s z hs hz
    split at hc
    ·cases hc
    ·rename_i cP
     simp only[not_or,Decidable.not_not]at cP
     simp only[ki]at hc
     obtain⟨uA,h1,rfl⟩:=hc
     exact Yg7 (call:=call) hh hr hu hs hz cP.1 cP.2.1 h1 h
   ·cases hc
  ·cases hc
 case load t x=>
  split at hc
  ·rename_i h1 h2
   simp only[al]at hc;subst hc
   exact Ypp (call:=call) hh hr h1 h2 h
  ·cases hc
 case store t x y=>
  split at hc
  ·rename_i h1 h2 h3
   simp only[al]at hc;subst hc
   exact Yib (call:=call) hh hr h1 h2 h3 h
  ·cases hc
 case nilCheck x=>simp only[ki]at hc;obtain⟨s,h1,rfl⟩:=hc;exact Yjg (call:=call) hh hr h1 h
 case binOp op t x y p=>
  split at hc
  ·rename_i s u h1 h2
   have fin:∀q ng,Xw P op t x y q ng->m=.bin op q ng s u->ba P μ w st (execOp a.eval ⟨dst,.binOp op t x y p,ty,pos,af,g⟩) v aC:=by
    intro q ng hq hm
    subst hm
    exact Yue (call:=call) hh hr h1 h2 hq h
   cases op
   case eql=>
    simp only at hc
    split at hc
    ·rename_i q hq
     rw[Jc]at hc
     obtain⟨cP,hc⟩:=hc
     simp only[al]at hc
     exact fin _ _ (fun _=>⟨hq,by rw[Bool.not_eq_true]at cP;exact cP,rfl⟩) hc.symm
    ·cases hc
   case neq=>
    simp only at hc
    split at hc
    ·rename_i q hq
     rw[Jc]at hc
     obtain⟨cP,hc⟩:=hc
     simp only[al]at hc
     exact fin _ _ (fun _=>⟨hq,by rw[Bool.not_eq_true]at cP;exact cP,rfl⟩) hc.symm
    ·cases hc
   all_goals
    simp only[al]at hc
    exact fin _ _ (fun hq=>by rcases hq with hq|hq<;>cases hq) hc.symm
  ·cases hc
 case unOp op t x=>simp only[ki]at hc;obtain⟨s,h1,rfl⟩:=hc;exact Yuz (call:=call) hh hr h1 h
 case convert src dst' x=>
  split at hc
  ·cases hc
  ·rename_i s h1
   split at hc
   ·rename_i q k hq hk
    simp only[al]at hc;subst hc
    exact Yb1 (call:=call) hh hr ⟨_,hq⟩ hk h1 h
   ·rename_i e hq hk
    split at hc
    ·rename_i he
     simp only[al]at hc;subst hc
     exact Zu9 (call:=call) hh hr hq hk he h1 h
    ·cases hc
   ·rename_i e hq hk
    split at hc
    ·rename_i he
     simp only[al]at hc;subst hc
     exact Zw6 (call:=call) hh hr hq hk he h1 h
    ·cases hc
   ·rename_i t hq hk
    split at hc
    ·rename_i z hz
     simp only[al]at hc;subst hc
     exact Yck (call:=call) hh hr hq hk hz h1 h
    ·cases hc
   ·rename_i u hq hk
    split at hc
    ·rename_i z hz
     simp only[al]at hc;subst hc
     exact Zu3 (call:=call) hh hr hq hk hz h1 h
    ·cases hc
   ·cases hc
 case makeInterface t x=>
  split at hc
  ·cases hc
  ·rename_i d aW hd
   simp only[ki]at hc;obtain⟨s,h1,rfl⟩:=hc
   exact Yav (call:=call) hh hr hd (fun k hk=>aW k hk) h1 h
  ·cases hc
 case makeFunc f first gj=>
  cases f<;>simp only[reduceCtorEq]at hc
  split at hc
  ·rename_i h1 h2
   simp only[al]at hc;subst hc
   exact Yey (call:=call) hh hr h1 h2 h
  ·cases hc
 case makeMap t rsv=>
  cases rsv<;>simp only[reduceCtorEq]at hc
  simp only[al]at hc;subst hc
  exact Yjp (call:=call) (r:=r) hh h
 case makeSlice t x y=>
  split at hc
  ·rename_i e hu
   split at hc
   ·rename_i hs hb hz hx hy
    split at hc
    ·rename_i gl
     simp only[al]at hc;subst hc
     exact Yau (call:=call) hh hr hu hs hb hz gl hx hy h
    ·cases hc
   ·cases hc
  ·cases hc
 case slice t x lo hi mx=>
  split at hc
  ·rename_i hx fN gX dq
   split at hc
   ·rename_i hu
    split at hc
    ·cases hc
    ·rename_i Mh
     simp only[al]at hc;subst hc
     have hm:mx=none:=by
      cases mx with
      |none=>rfl
      |some q=>
       simp only[uj]at dq
       split at dq
       ·simp only[al]at dq
        subst dq;simp at Mh
       ·cases dq
     subst hm
     exact Zvb (call:=call) hh hr hu hx fN gX h
   ·rename_i e hu
    simp only[ki]at hc;obtain⟨s,h1,rfl⟩:=hc
    exact Zzz (call:=call) hh hr hu h1 hx fN gX dq h
   ·rename_i k e hu
    simp only[ki]at hc;obtain⟨s,h1,rfl⟩:=hc
    exact Zvc (call:=call) hh hr hu h1 hx fN gX dq h
   ·cases hc
  ·cases hc
 case fieldAddr t x i=>
  split at hc
  ·rename_i hu hx
   split at hc
   ·rename_i f hf
    split at hc
    ·rename_i hk
     simp only[al]at hc;subst hc
     exact Ykk (call:=call) hh hr hu hf hk hx h
    ·cases hc
   ·cases hc
  ·cases hc
 case indexAddr t x i=>
  split at hc
  ·rename_i hu hx hi
   simp only[ki]at hc;obtain⟨s,h1,rfl⟩:=hc
   exact Zwl (call:=call) hh hr hu h1 hx hi h
  ·rename_i hu hx hi
   simp only[ki]at hc;obtain⟨s,h1,rfl⟩:=hc
   exact Ybn (call:=call) hh hr hu h1 hx hi h
  ·cases hc
 case index t x i=>
  split at hc
  ·rename_i hu hx hi
   simp only[al]at hc;subst hc
   exact Yfs (call:=call) hh hr hu hx hi h
  ·cases hc
 case lookup t x k ok=>
  split at hc
  ·rename_i hu hx hk
   split at hc
   ·rename_i h1 h2
    simp only[al]at hc;subst hc
    exact Ye7 (call:=call) hh hr hu h1 h2 hx hk h
   ·cases hc
  ·cases hc
 case mapUpdate t x k y=>
  split at hc
  ·rename_i hu hx hk hy
   simp only[ki]at hc;obtain⟨s,h1,rfl⟩:=hc
   exact Ztv (call:=call) hh hr hu h1 hx hk hy h
  ·cases hc
 case insert t x k y=>
  split at hc
  ·rename_i hu hx hk hy
   simp only[ki]at hc;obtain⟨s,h1,rfl⟩:=hc
   exact Ztv (call:=call) hh hr hu h1 hx hk hy h
  ·cases hc
 case range t x=>
  split at hc
  ·rename_i hu hx
   simp only[al]at hc;subst hc
   exact Zvp (call:=call) hh hr hu hx h
  ·cases hc
 case next it isS=>
  cases isS<;>simp only[reduceCtorEq]at hc
  simp only[ki]at hc;obtain⟨s,h1,rfl⟩:=hc
  exact Yah (call:=call) hh hr h1 h
 case extract x i=>simp only[ki]at hc;obtain⟨s,h1,rfl⟩:=hc;exact Ybq (call:=call) hh hr h1 h
 case call c=>
  obtain⟨callee,args,ats⟩:=c
  cases callee with
  |invoke r' nm=>simp only[DX,reduceCtorEq]at hc
  |builtin b=>
   have:=Zw7 (ty:=ty) (cs:=args.map fun|.const _=>true|_=>false) hh hr hc h
   obtain⟨nx,x,w',μ',ws,k1,k2⟩:=this
   refine⟨nx,x,w',μ',ws,?_,k2⟩
   rw[<-k1]
   simp[execOp,resolve,invoke]
   rfl
  |value f=>
   simp only[DX]at hc
   split at hc
   ·cases hc
   ·rename_i ss EF
    cases f<;>simp only at hc
    case func gid=>
     split at hc
     ·rename_i fn BH
      split at hc
      ·simp only[al]at hc;subst hc;simp[gh.oz]at hn
      ·rename_i hb
       split at hc
       ·rename_i e he
        simp only[al]at hc;subst hc
        have:=Ytu (call:=call) hh hr hE BH (by simpa using hb) he EF h
        obtain⟨nx,x,w',μ',ws,k1,k2⟩:=this
        refine⟨nx,x,w',μ',ws,?_,k2⟩
        rw[<-k1]
        have e0:(⟨List.map a.eval args.toList⟩:Array Value)=args.map a.eval:=by apply Array.ext';simp
        rw[e0]
        simp[execOp,resolve,invoke,Deferred.ofValue,Act.eval]
       ·cases hc
     ·cases hc
    all_goals
     split at hc
     ·simp only[al]at hc;subst hc;simp[gh.oz]at hn
     ·cases hc
end
abbrev FE(lb:Option Nat):Fence:={Fence.wide with round:=lb}
def GX(R:Value->World->Prop):Ending->World->Prop
 |.returned x,w=>R x w
 |_,_=>False
def Lw(P:Program)(y:Bool)(G:Value)(xs:Array Value)(w:World)(R:Value->World->Prop):Prop:=
 (∃d,(Deferred.ofValue G xs).run P w=.ok d w/\
  ((y=false/\∃f args,(invoke d.target d.args).run P w=.ok (.enter f args) w/\CallsIn Fence.wide 0 P f args w (GX R))\/
     (y=true/\∃l f tmps fK fL,(invoke d.target d.args).run P w=.ok (.round l f tmps fK fL) w/\RoundIn Fence.wide 0 P l f tmps fK fL w (GX R))))
def jm(P:Program)(call:cI):Prop:=
 ∀(g:V) (args:List V) (st:St) (v:V) (aC:St),call g args st=some (v,aC)->∀(μ:Mu) (w:World) (G:Value) (xs:List Value),bm P μ w st->VR μ g G->aV μ args xs->
  Lw P g.Jr G ⟨xs⟩ w fun x w'=>∃μ' ws,VR μ' v x/\bH P μ w st μ' w' aC ws
def pA(μ:Mu):List Nat->List Deferred->Prop
 |[],ds=>ds=[]
 |m::ms,ds=>∃l Ew,μ m=some l/\ds={target:=.collected l.b,args:=#[]}::Ew/\pA μ ms Ew
def pA.mono{μ μ':Mu}(h:∀i l,μ i=some l->μ' i=some l):∀{ms:List Nat} {ds:List Deferred},pA μ ms ds->pA μ' ms ds
 |[],_,hd=>hd
 |_::_,_,⟨l,Ew,h1,h2,h3⟩=>⟨l,Ew,h _ _ h1,h2,pA.mono h h3⟩
def mO(μ:Mu)(fr:Fr)(a:Act):Prop:=RR μ fr.r fr.n a.tmps/\pA μ fr.marks a.defers
def mO.mono{μ μ':Mu}(h:∀i l,μ i=some l->μ' i=some l){fr:Fr}{a:Act}(hf:mO μ fr a):mO μ' fr a:=⟨hf.1.mono h,hf.2.mono h⟩
section
variable {P:Program} {μ:Mu} {w:World} {st aC:St} {fr bE:Fr} {a:Act} {call:cI} {v:V} {lb:Option Nat}
def bH.mono{μ':Mu}{w':World}{ws:List Nat}(hh:bm P μ w st)(h:bH P μ w st μ' w' aC ws):∀i l,μ i=some l->μ' i=some l:=bm.F5 hh h.ext
def mO.put(hf:mO μ fr a){d:Option Nat}{x:Value}(hv:VR μ v x)(h:fr.put d v=some bE):mO μ bE (a.put d x):=by
 cases d with
 |none=>
  simp only[Fr.put,al]at h;subst h
  exact hf
 |some d=>
  simp only[Fr.put]at h
  split at h
  ·rename_i hd
   simp only[al]at h;subst h
   exact⟨hf.1.set hd hv,hf.2⟩
  ·cases h
def WQ(bZ:jm P call)(hE:uy P)(hh:bm P μ w st)(hf:mO μ fr a){o:Oper}(h:cm (zV P o.op) call fr.r st=some (v,aC)){K:Act->World->Prop}{Q:Exit->Act->World->Prop}
  (hK:∀x w' μ' ws,VR μ' v x->bH P μ w st μ' w' aC ws->K (a.put o.dst x) w'):o.wpIn (FE lb) 0 P a w K Q:=by
 refine⟨fun _ _=>trivial,?_⟩
 have XL:∀c,o.op≠.defer c:=by
  intro c hc
  rw[hc]at h
  simp only[zV,I8,Option.getD_none]at h
  cases h
 show o.uponIn (FE lb) 0 P a K Q ((o.semAt lb a.eval).run P w)
 rw[Oper.semAt_eq _ _ _ XL]
 cases hc:I8 P o.op with
 |none=>
  simp only[zV,hc,Option.getD_none]at h
  cases h
 |some m=>
  simp only[zV,hc,fX]at h
  by_cases hn:m.oz=true
  ·-- a call
   obtain⟨dst,op,ty,pos,af,g⟩:=o
   cases m<;>simp only[gh.oz,fH]at hn
   rename_i sf ss
   have LS:∃c f,op=.call c/\c.callee=.value f/\bB P f=some sf/\vg P c.args.toList=some ss:=by
    cases op<;>simp only[I8]at hc<;>try (cases hc;done)
    case call c=>
     obtain⟨callee,args,ats⟩:=c
     cases callee with
     |invoke r' nm=>simp only[DX,reduceCtorEq]at hc
     |builtin b=>
      exfalso
      simp only[DX]at hc
      repeat' split at hc
      all_goals first|(cases hc;done)|(simp at hc;done)
     |value f=>
      simp only[DX]at hc
      split at hc
      ·cases hc
      ·rename_i ss' EF
       refine⟨_,f,rfl,rfl,?_⟩
       cases f<;>simp only at hc
       case func gid=>
        split at hc
        ·split at hc
         ·simp only[al,gh.call.injEq]at hc
          obtain⟨rfl,rfl⟩:=hc
          exact⟨rfl,EF⟩
         ·split at hc
          ·simp at hc
          ·cases hc
        ·cases hc
       all_goals
        split at hc
        ·rename_i h1
         simp only[al,gh.call.injEq]at hc
         obtain⟨rfl,rfl⟩:=hc
         exact⟨h1,EF⟩
        ·cases hc
    all_goals
     exfalso
     repeat' split at hc
     all_goals first|(cases hc;done)|contradiction|(simp at hc;done)|(rw[Jc]at hc;simp at hc;done)
   obtain⟨c,f,rfl,XM,h1,h2⟩:=LS
   have h':zd sf ss call fr.r st=some (v,aC):=h
   unfold zd at h'
   split at h'
   ·rename_i gv l hg hl
    have hG:=cX hh hf.1 h1 hg
    have hX:=G6 hh hf.1 h2 hl
    obtain⟨d,hd,gU⟩:=bZ _ _ _ _ _ h' μ w _ _ hh hG hX
    have e0:(⟨List.map a.eval c.args.toList⟩:Array Value)=c.args.map a.eval:=by apply Array.ext';simp
    rw[e0]at hd
    have tF:(resolve a.eval c ty).run P w=.ok d w:=by
     simp only[resolve,XM]
     exact hd
    rcases gU with⟨_,g',args,hinv,GS⟩|⟨_,l',g',tmps,fK,fL,hinv,JA⟩
    ·have bO:(execOp a.eval ⟨dst,.call c,ty,pos,af,g⟩).run P w=.ok (.enter g' args) w:=by
      simp only[execOp,Sem.run_bind,tF,Result.andThen_ok,hinv]
     rw[bO,Oper.uponIn_enter]
     refine⟨fun hx=>by simp[Fence.wide]at hx,?_⟩
     refine CallsIn.mono (F:=Fence.wide) GS fun e w' he=>?_
     cases e with
     |returned x=>
      obtain⟨μ',ws,q1,q2⟩:=he
      exact hK x w' μ' ws q1 q2
     |panicked _=>exact he.elim
     |outgrown=>exact he.elim
    ·have bO:(execOp a.eval ⟨dst,.call c,ty,pos,af,g⟩).run P w=.ok (.round l' g' tmps fK fL) w:=by
      simp only[execOp,Sem.run_bind,tF,Result.andThen_ok,hinv]
     rw[bO,Oper.uponIn_round]
     refine⟨fun hx=>by simp[Fence.wide]at hx,?_⟩
     refine RoundIn.mono (F:=Fence.wide) JA fun e w' he=>?_
     cases e with
     |returned x=>
      obtain⟨μ',ws,q1,q2⟩:=he
      exact hK x w' μ' ws q1 q2
     |panicked _=>exact he.elim
     |outgrown=>exact he.elim
   ·cases h'
  ·obtain⟨nx,x,w',μ',ws,k1,k2,k3,k4⟩:=Yss hh hf.1 hE hc (by simpa using hn) h
   rw[k1]
   rcases k2 with rfl|⟨rfl,rfl⟩
   ·rw[Oper.uponIn_value];exact hK x w' μ' ws k3 k4
   ·rw[Oper.uponIn_skip];exact hK undef w' μ' ws k3 k4
def Zp6{ops:Array Oper}{o:Oper}{g:Option (Nat×Bool)}(hr:RR μ fr.r fr.n a.tmps)(hg:F3 ops o.guard=some g){b:Bool}(h:bS fr.r g=some b):Region.wanted o (yielded ops a.tmps)=b:=by
 unfold Region.wanted
 cases ho:o.guard with
 |none=>
  rw[ho]at hg
  simp only[F3,al]at hg;subst hg
  simp only[bS,al]at h
  exact h
 |some p=>
  obtain⟨j,want⟩:=p
  rw[ho]at hg
  simp only[F3]at hg
  split at hg
  ·rename_i t ht
   simp only[al]at hg;subst hg
   simp only[bS]at h
   split at h
   ·rename_i b' hb
    simp only[al]at h;subst h
    obtain⟨x,hx,hv⟩:=hr.2 _ _ hb
    simp only[VR]at hv
    subst hv
    simp[yielded,ht,hx]
   ·rename_i l hb
    simp only[al]at h;subst h
    obtain⟨x,hx,y,hv,_⟩:=hr.2 _ _ hb
    subst hv
    simp[yielded,ht,hx]
   ·cases h
  ·cases hg
end
def JE:Ex->Exit
 |.normal=>.normal
 |.exit id=>.exit id
 |.ret=>.ret
def JK(μ:Mu):Option Nat->Option Nat->Prop
 |none,none=>True
 |some l,some b=>∃L,μ l=some L/\L.b=b
 |_,_=>False
def JK.mono{μ μ':Mu}(h:∀i l,μ i=some l->μ' i=some l){ro lb:Option Nat}(hr:JK μ ro lb):JK μ' ro lb:=by
 cases ro<;>cases lb<;>simp only[JK]at*
 obtain⟨L,h1,h2⟩:=hr
 exact⟨L,h _ _ h1,h2⟩
def vN(P:Program)(μ:Mu)(w:World)(st:St)(ex:Ex)(bE:Fr)(aC:St):Exit->Act->World->Prop:=fun e a' w'=>
 e=JE ex/\∃μ' ws,bH P μ w st μ' w' aC ws/\mO μ' bE a'
section
variable {P:Program} {μ:Mu} {w:World} {st aC:St} {fr bE:Fr} {a:Act} {call:cI} {v:V} {lb:Option Nat}
def Yo9(bZ:jm P call)(hE:uy P){ops:Array Oper}{Q:Exit->Act->World->Prop}:∀(is:List Nat) (os:List Oper),is.map (fun i=>ops[i]?)=os.map some->
  ∀{st:St} {fr:Fr} {a:Act} {w:World} {μ:Mu},bm P μ w st->mO μ fr a->dE call (os.map (qZ P ops)) fr st=some (bE,aC)->
   (∀a' w' μ' ws,mO μ' bE a'->bH P μ w st μ' w' aC ws->Q .normal a' w')->wpOpsIn (FE lb) 0 P ops Q is a w:=by
 intro is
 induction is with
 |nil=>
  intro os zX st fr a w μ hh hf h hQ
  cases os with
  |cons o os=>simp at zX
  |nil=>
   simp only[yY,dE,Ymg,al,bu]at h
   obtain⟨rfl,rfl⟩:=h
   exact hQ a w μ [] hf (bH.refl hh)
 |cons i is ih=>
  intro os zX st fr a w μ hh hf h hQ
  cases os with
  |nil=>simp at zX
  |cons o os=>
   simp only[py,iQ]at zX
   obtain⟨hoi,zX⟩:=zX
   simp only[py,dE,Bq]at h
   unfold wpOpsIn
   rw[hoi]
   simp only[]
   have go:∀(v:V) (bY:St) (ec:Fr) (x:Value) (w1:World) (μ1:Mu) (ws:List Nat),VR μ1 v x->bH P μ w st μ1 w1 bY ws->fr.put o.dst v=some ec->dE call (os.map (qZ P ops)) ec bY=some (bE,aC)->
     wpOpsIn (FE lb) 0 P ops Q is (a.put o.dst x) w1:=by
    intro v bY ec x w1 μ1 ws hv hs hp hm
    refine ih os zX hs.hr ((hf.mono (hs.mono hh)).put hv hp) hm fun a' w' μ' Qg zN jq=>?_
    exact hQ a' w' μ' _ zN (hs.trans jq)
   unfold qZ at h
   cases hg:F3 ops o.guard with
   |none=>
    rw[hg]at h
    simp only[bS,cm,Wg]at h
    cases h
   |some g=>
    rw[hg]at h
    simp only at h
    cases hw:bS fr.r g with
    |none=>rw[hw]at h;cases h
    |some b=>
     rw[hw]at h
     have xq:=Zp6 hf.1 hg hw
     cases b with
     |true=>
      rw[av xq]
      simp only at h
      split at h
      ·rename_i v1 bY hm
       split at h
       ·rename_i ec hp
        exact WQ bZ hE hh hf hm fun x w' μ' ws q1 q2=>go v1 bY ec x w' μ' ws q1 q2 hp h
       ·cases h
      ·cases h
     |false=>
      rw[ak (by rw[xq];simp)]
      simp only at h
      split at h
      ·rename_i ec hp
       exact⟨fun _ _=>trivial,go (.aX []) st ec undef w μ [] ⟨[],rfl,by simp[aV]⟩ (bH.refl hh) hp h⟩
      ·cases h
def Yd1{ops:Array Oper}:(List.range ops.size).map (fun i=>ops[i]?)=ops.toList.map some:=by
 apply lA
 intro i
 simp only[eY]
 by_cases h:i<ops.size
 ·simp[h]
 ·simp[h]
def Zpu{F:Fence}{n:Nat}{c:Code}{Q:Exit->Act->World->Prop}(J:Nat->Act->World->Prop)
  (round:∀f a w,J f a w->c.wpIn F n P (Exit.then (fun a' w'=>∃f',f'<f/\J f' a' w') Q) a w) {f:Nat} (h₀:J f a w):(Code.loop c).wpIn F n P Q a w:=by
 intro b k cs o9 hb hr
 have key:∀j a w,J j a w->
   ∃e a' w',Q e a' w'/\ArrivesIn (Machine.fenced P F) P (lone (b.atR a (.code c::.inLoop c::k)) cs w) b k cs e a' w':=by
  intro j
  induction j using Nat.strongRecOn with
  |_ j ih=>
   intro a w hI
   obtain⟨e,a₁,w₁,hq,jg⟩:=round j a w hI b (.inLoop c::k) cs o9 hb hr
   cases e with
   |normal=>
    obtain⟨f',ay,hI₁⟩:=hq
    obtain⟨e₂,a₂,w₂,hq₂,Mi⟩:=ih f' ay a₁ w₁ hI₁
    exact⟨e₂,a₂,w₂,hq₂,.of_steps (StepsIn.trans jg (.one (fenced_calm hb hr rfl) stepR_inLoop)) Mi⟩
   |exit id=>exact⟨_,a₁,w₁,hq,.pass (x:=.inLoop c) rfl (fun _ _=>.inl (by simp)) jg⟩
   |goto l=>exact⟨_,a₁,w₁,hq,.pass (x:=.inLoop c) rfl (fun _ _=>.inl (by simp)) jg⟩
   |ret=>exact⟨_,a₁,w₁,hq,.pass (x:=.inLoop c) rfl (fun _ _=>.inl (by simp)) jg⟩
   |panic ch=>exact⟨_,a₁,w₁,hq,.pass (x:=.inLoop c) rfl (fun _ _=>.inl (by simp)) jg⟩
   |outgrown=>exact⟨_,a₁,w₁,hq,.pass (x:=.inLoop c) rfl (fun _ _=>.inl (by simp)) jg⟩
 obtain⟨e,a',w',hq,jg⟩:=key _ a w h₀
 exact⟨e,a',w',hq,.of_steps (.one (fenced_calm hb hr rfl) stepR_loop) jg⟩
def JL{b:Frame}{k:List Item}{cs:List Frame}{c:Code}:
  step P (lone (b.atR a (.code (.scope c)::k)) cs w)=.next (lone (b.atR a (.code c::.inScope c::k)) cs w):=
 step_lone_go (by simp[stepG,stepG.exec,Frame.atR])
def Zrk{b:Frame}{k:List Item}{cs:List Frame}{c:Code}:
  step P (lone (b.atR a (.inScope c::k)) cs w)=.next (lone (b.atR a k) cs w):=
 step_lone_go (by simp[stepG,stepG.exec,Frame.atR])
def Zzt{F:Fence}{n:Nat}{c:Code}{Q:Exit->Act->World->Prop}(h:c.wpIn F n P Q a w)(hq:∀l a w,¬Q (.goto l) a w):(Code.scope c).wpIn F n P Q a w:=by
 intro b k cs o9 hb hr
 have h0:(lone (b.atR a (.code (.scope c)::k)) cs w).fenced P F:=fenced_calm hb hr rfl
 obtain⟨e,a₁,w₁,hQ,jg⟩:=h b (.inScope c::k) cs o9 hb hr
 cases e with
 |normal=>exact⟨.normal,a₁,w₁,hQ,.head h0 JL (StepsIn.trans jg (.one (fenced_calm hb hr rfl) Zrk))⟩
 |exit id=>
  have hx:exitTo id (.inScope c::k)=exitTo id k:=by simp[exitTo]
  exact⟨.exit id,a₁,w₁,hQ,fun k' hk=>.head h0 JL (jg.1 k' (by rw[hx];exact hk)),
   fun kb hk=>let ⟨k₁,h1,h2⟩:=jg.2 kb (by rw[hx];exact hk);⟨k₁,h1,.head h0 JL h2⟩⟩
 |goto l=>exact absurd hQ (hq l a₁ w₁)
 |ret=>exact⟨_,a₁,w₁,hQ,.of_steps (.one h0 JL) jg⟩
 |panic ch=>exact⟨_,a₁,w₁,hQ,.of_steps (.one h0 JL) jg⟩
 |outgrown=>exact⟨_,a₁,w₁,hQ,.of_steps (.one h0 JL) jg⟩
def vN.after{μ1:Mu}{w1:World}{bY:St}{ws:List Nat}(hs:bH P μ w st μ1 w1 bY ws){ex:Ex}{e:Exit}{a':Act}{w':World}(h:vN P μ1 w1 bY ex bE aC e a' w'):vN P μ w st ex bE aC e a' w':=by
 obtain⟨h1,μ',Qg,h2,h3⟩:=h
 exact⟨h1,μ',_,hs.trans h2,h3⟩
def vN.then{μ:Mu}{ex:Ex}{ec:Fr}{bY:St}{K:Act->World->Prop}{Q:Exit->Act->World->Prop}{e:Exit}{a':Act}{w':World}(h:vN P μ w st ex ec bY e a' w')
  (hn:ex=.normal->K a' w') (hq:ex≠.normal->Q e a' w'):Exit.then K Q e a' w':=by
 obtain⟨rfl,h⟩:=h
 cases ex<;>simp only[JE,Exit.then]
 ·exact hn rfl
 ·exact hq (by simp)
 ·exact hq (by simp)
def JD(P:Program)(code:pX):Prop:=
 ∀(ro:Option Nat) (c:Code) (fr:Fr) (st:St) (ex:Ex) (bE:Fr) (aC:St),code ro (iF P c) fr st=some (ex,bE,aC)->
  ∀(μ:Mu) (w:World) (a:Act) (lb:Option Nat),bm P μ w st->mO μ fr a->JK μ ro lb->c.wpIn (FE lb) 0 P (vN P μ w st ex bE aC) a w
def Yna(P:Program)(call:cI):Prop:=
 ∀(id:Nat) (ops:Array Oper) (fr:Fr) (st:St) (ex:Ex) (bE:Fr) (aC:St),V7 P ops=true->Af (ops.toList.map (qZ P ops)) (vj ops.toList []) call Qt none fr st=some (ex,bE,aC)->
  ∀(μ:Mu) (w:World) (a:Act) (lb:Option Nat),bm P μ w st->mO μ fr a->(Code.region id ops true).wpIn (FE lb) 0 P (vN P μ w st ex bE aC) a w
def Yuh(P:Program)(call:cI):Prop:=
 ∀(id:Nat) (ops:Array Oper) (o:Oper) (rest:List Oper) (d:Option Nat) (ch:Src) (s:Option Src) (z:V) (fr:Fr) (st:St) (ex:Ex) (bE:Fr) (aC:St),ops.toList=o::rest->Ywq P o=some (d,ch,s,z)->
  Bu d ch s z (rest.map (qZ P ops)) call Qt none fr st=some (ex,bE,aC)->
  ∀(μ:Mu) (w:World) (a:Act) (lb:Option Nat),bm P μ w st->mO μ fr a->(Code.region id ops false).wpIn (FE lb) 0 P (vN P μ w st ex bE aC) a w
def Yhm(P:Program)(call:cI):Prop:=
 ∀(ro:Option Nat) (g:Operand) (s:Src) (ps:Array Nat) (fK fL:Code) (fr:Fr) (st:St) (ex:Ex) (bE:Fr) (aC:St),bB P g=some s->
  CD s ps.toList (iF P fK) (iF P fL) call Qt ro fr st=some (ex,bE,aC)->
  ∀(μ:Mu) (w:World) (a:Act) (lb:Option Nat),bm P μ w st->mO μ fr a->JK μ ro lb->(Code.rangeFunc g ps fK fL).wpIn (FE lb) 0 P (vN P μ w st ex bE aC) a w
def Yg0(bZ:jm P call)(hE:uy P)(hD:Yna P call)(hS:Yuh P call)(hR:Yhm P call):∀fuel,JD P (dW call fuel):=by
 intro fuel
 induction fuel using Nat.strongRecOn with
 |_ fuel ihs=>
 cases fuel with
 |zero=>intro ro c fr st ex bE aC h;cases h
 |succ f=>
  have ih:JD P (dW call f):=ihs f (vn f)
  intro ro c fr st ex bE aC h μ w a lb hh hf o9
  cases c with
  |skip=>
   simp only[iF,dW,mL,Wj,al,bu]at h
   obtain⟨rfl,rfl,rfl⟩:=h
   exact wpIn_skip ⟨rfl,μ,[],bH.refl hh,hf⟩
  |label l=>
   simp only[iF,dW,mL,Wj,al,bu]at h
   obtain⟨rfl,rfl,rfl⟩:=h
   exact wpIn_label ⟨rfl,μ,[],bH.refl hh,hf⟩
  |exit id=>
   simp only[iF,dW,mL,Ym4,al,bu]at h
   obtain⟨rfl,rfl,rfl⟩:=h
   exact wpIn_exit ⟨rfl,μ,[],bH.refl hh,hf⟩
  |ret=>
   simp only[iF,dW,mL,Yuc,al,bu]at h
   obtain⟨rfl,rfl,rfl⟩:=h
   exact wpIn_ret ⟨rfl,μ,[],bH.refl hh,hf⟩
  |goto l=>simp only[iF,dW,mL,Js]at h;cases h
  |refuse why=>simp only[iF,dW,mL,Js]at h;cases h
  |region id ops draw=>
   cases draw with
   |true=>
    simp only[iF]at h
    split at h
    ·rename_i hp
     simp only[dW,mL]at h
     exact hD id ops fr st ex bE aC hp h μ w a lb hh hf
    ·simp only[dW,mL,Js]at h;cases h
   |false=>
    have plain:Ae (ops.toList.map (qZ P ops)) call (dW call f) ro fr st=some (ex,bE,aC)->(Code.region id ops false).wpIn (FE lb) 0 P (vN P μ w st ex bE aC) a w:=by
     intro h
     simp only[Ae]at h
     split at h
     ·rename_i ec bY hm
      simp only[al,bu]at h
      obtain⟨rfl,rfl,rfl⟩:=h
      exact wpIn_region (Yo9 bZ hE _ _ Yd1 hh hf hm fun a' w' μ' ws q1 q2=>⟨rfl,μ',ws,q2,q1⟩)
     ·cases h
    simp only[iF,dW]at h
    split at h
    ·rename_i ho
     exact plain (by rw[ho];exact h)
    ·rename_i o rest ho
     split at h
     ·rename_i d ch s z hs
      exact hS id ops o rest d ch s z fr st ex bE aC ho hs h μ w a lb hh hf
     ·exact plain (by rw[ho];exact h)
  |seq x y=>
   simp only[iF,dW,mL,Bv]at h
   refine wpIn_seq ?_
   split at h
   ·rename_i ec bY hx
    refine wpIn_mono (ih ro x fr st _ _ _ hx μ w a lb hh hf o9) fun e a' w' hp=>?_
    have tn:=hp
    obtain⟨he,μ1,ws,hs,xy⟩:=hp
    refine tn.then (fun _=>?_) (fun aW=>absurd rfl aW)
    exact wpIn_mono (ih ro y ec bY ex bE aC h μ1 w' a' lb hs.hr xy (o9.mono (hs.mono hh))) fun e2 a2 w2 zj=>zj.after hs
   ·rename_i hx
    refine wpIn_mono (ih ro x fr st _ _ _ h μ w a lb hh hf o9) fun e a' w' hp=>?_
    refine hp.then (fun hn=>?_) (fun _=>hp)
    subst hn
    exact absurd h (hx bE aC)
  |cond x p q=>
   simp only[iF]at h
   split at h
   ·rename_i s hs
    simp only[dW,mL,yq]at h
    split at h
    ·rename_i hv
     have:=cX hh hf.1 hs hv
     exact wpIn_cond_true (by simpa[VR]using this) (ih ro p fr st ex bE aC h μ w a lb hh hf o9)
    ·rename_i hv
     have:=cX hh hf.1 hs hv
     exact wpIn_cond_false (by simpa[VR]using this) (ih ro q fr st ex bE aC h μ w a lb hh hf o9)
    ·cases h
   ·simp only[dW,mL,Js]at h;cases h
  |block id c=>
   simp only[iF,dW,mL,Bw]at h
   refine wpIn_block ?_
   split at h
   ·rename_i Bx ec bY hx
    refine wpIn_mono (ih ro c fr st _ _ _ hx μ w a lb hh hf o9) fun e a' w' hp=>?_
    obtain⟨rfl,hp⟩:=hp
    simp only[JE,Exit.inBlock]
    split at h
    ·rename_i BI
     simp only[al,bu]at h
     obtain⟨rfl,rfl,rfl⟩:=h
     rw[av (Qj BI)]
     exact⟨rfl,hp⟩
    ·rename_i BI
     simp only[al,bu]at h
     obtain⟨rfl,rfl,rfl⟩:=h
     rw[ak (Nat.ne_of_beq_eq_false BI)]
     exact⟨rfl,hp⟩
   ·rename_i hx
    refine wpIn_mono (ih ro c fr st _ _ _ h μ w a lb hh hf o9) fun e a' w' hp=>?_
    have tn:=hp
    obtain⟨rfl,hp⟩:=hp
    cases ex with
    |normal=>exact tn
    |ret=>exact tn
    |exit Bx=>exact absurd h (hx Bx bE aC)
  |loop c=>
   refine Zpu (fun k a1 w1=>k<=f+1/\∃ec bY μ1 ws,bH P μ w st μ1 w1 bY ws/\mO μ1 ec a1/\dW call k ro (.loop (iF P c)) ec bY=some (ex,bE,aC)) ?_
    (f:=f+1) ⟨aM _,fr,st,μ,[],bH.refl hh,hf,h⟩
   intro k a1 w1 hJ
   obtain⟨hk,ec,bY,μ1,ws,hs,xy,hm⟩:=hJ
   cases k with
   |zero=>cases hm
   |succ k=>
    simp only[dW,mL,By]at hm
    have ihk:JD P (dW call k):=ihs k (by omega)
    split at hm
    ·rename_i BD fh hx
     refine wpIn_mono (ihk ro c ec bY _ _ _ hx μ1 w1 a1 lb hs.hr xy (o9.mono (hs.mono hh))) fun e a' w' hp=>?_
     have tn:=hp
     obtain⟨he,μ2,W9,kg,c9⟩:=hp
     refine tn.then (fun _=>?_) (fun aW=>absurd rfl aW)
     exact⟨k,vn k,by omega,BD,fh,μ2,_,hs.trans kg,c9,hm⟩
    ·rename_i hx
     refine wpIn_mono (ihk ro c ec bY _ _ _ hm μ1 w1 a1 lb hs.hr xy (o9.mono (hs.mono hh))) fun e a' w' hp=>?_
     refine hp.then (fun hn=>?_) (fun _=>hp.after hs)
     subst hn
     exact absurd hm (hx bE aC)
  |scope c=>
   simp only[iF,dW,mL,Yg5]at h
   refine Zzt (ih ro c fr st ex bE aC h μ w a lb hh hf o9) fun l a' w' hp=>?_
   obtain⟨he,_⟩:=hp
   cases ex<;>simp[JE]at he
  |rangeFunc g ps fK fL=>
   simp only[iF]at h
   split at h
   ·rename_i s hs
    simp only[dW,mL]at h
    exact hR ro g s ps fK fL fr st ex bE aC hs h μ w a lb hh hf o9
   ·simp only[dW,mL,Js]at h;cases h
end
end Go.Mx
