/-Every operation of M that calls no funct-/
import Derived.Test.YtokjleejipaidaaGreatDoorMxOp10
import Derived.RangeFuncRecord
import Derived.OrdersIn
set_option linter.all false
namespace Go.Mx
open Go
section
variable {P:Program} {μ:Mu} {w:World} {st aA:St} {r:T V} {n:Nat} {a:Act} {call:cH} {v:V}
def gm.oY:gm->Bool
 |.call _ _=>true
 |_=>false
def Km{α:Type}{a:Array α}{x:α}(h:a.toList=[x]):a=#[x]:=by
 apply Array.ext';simpa using h
def MU{α:Type}{a:Array α}{x y:α}(h:a.toList=[x,y]):a=#[x,y]:=by
 apply Array.ext';simpa using h
def Zw9(hh:bm P μ w st)(hr:RR μ r n a.tmps){b:Builtin}{ts:Array TypeId}{xs:Array Operand}{ty:TypeId}{cs:Array Bool}{m:gm}(hc:EF P ⟨.builtin b,xs,ts⟩=some m)
  (h:cv m call r st=some (v,aA)):ba P μ w st (builtin b ts ty cs (xs.map a.eval)) v aA:=by
 simp only[EF]at hc
 split at hc
 ·rename_i t x ht hx
  have e1:=Km ht
  have e2:=Km hx
  subst e1 e2
  simp only[builtin,JQ,mU,vR]
  split at hc
  ·rename_i s hu hs
   simp only[an]at hc;subst hc
   exact Yax (call:=call) hh hr hu hs h
  ·rename_i e s hu hs
   simp only[an]at hc;subst hc
   exact Zt4 (call:=call) hh hr hu hs h
  ·rename_i k e s hu hs
   simp only[an]at hc;subst hc
   exact Yay (call:=call) hh hr hu hs h
  ·cases hc
 ·rename_i t x ht hx
  have e1:=Km ht
  have e2:=Km hx
  subst e1 e2
  simp only[builtin,JQ,mU,vR]
  split at hc
  ·rename_i e s hu hs
   simp only[an]at hc;subst hc
   exact Yt6 (call:=call) hh hr hu hs h
  ·cases hc
 ·split at hc
  ·rename_i l hl
   simp only[an]at hc;subst hc
   exact Yvv (call:=call) hh hr hl h
  ·cases hc
 ·split at hc
  ·rename_i l hl
   simp only[an]at hc;subst hc
   exact Yvu (call:=call) hh hr hl h
  ·cases hc
 ·rename_i t u s x ht hx
  have e1:=MU ht
  have e2:=MU hx
  subst e1 e2
  simp only[builtin,JQ,mU,vR]
  split at hc
  ·rename_i e hu
   split at hc
   ·rename_i n' b' z s' x' d hs hb hz jh jv hd
    rw[JM]at hc
    obtain⟨cM,hc⟩:=hc
    simp only[not_or,Decidable.not_not]at cM
    obtain⟨c1,c2,c3,c4⟩:=cM
    simp only[an]at hc;subst hc
    have c4':z.cells.all V.one=true:=by simpa using c4
    exact Yg3 (call:=call) hh hr (by rfl) hu (by rfl) hd (fun k hk=>by subst hk;simp at c1) hs hb hz c3 c4' c2 jh jv h
   ·cases hc
  ·cases hc
 ·rename_i t ts' d s ht hx
  have e2:=MU hx
  subst e2
  simp only[builtin,JQ,mU,vR]
  split at hc
  ·rename_i e hu
   split at hc
   ·rename_i n' d' s' hs hd jh
    simp only[an]at hc;subst hc
    exact Yqz (call:=call) hh hr (by rw[<-CS,ht];rfl) hu hs hd jh h
   ·cases hc
  ·cases hc
 ·rename_i t s ht hx
  have e1:=Km ht
  have e2:=Km hx
  subst e1 e2
  simp only[builtin,JQ,mU,vR]
  simp only[kh]at hc
  obtain⟨s',hs,rfl⟩:=hc
  exact Yid (call:=call) hh hr hs h
 ·rename_i t u x y ht hx
  have e1:=MU ht
  have e2:=MU hx
  subst e1 e2
  simp only[builtin,JQ,mU,vR]
  split at hc
  ·rename_i e hu
   split at hc
   ·rename_i s q hs hx hy
    simp only[an]at hc;subst hc
    exact Yng (call:=call) hh hr hu hs hx hy h
   ·cases hc
  ·cases hc
 ·cases hc
def Ysu(hh:bm P μ w st)(hr:RR μ r n a.tmps)(hE:uJ P){o:Oper}{m:gm}(hc:JF P o.op=some m)(hn:m.oY=false)(h:cv m call r st=some (v,aA)):
  ba P μ w st (execOp a.eval o) v aA:=by
 obtain⟨dst,op,ty,pos,af,g⟩:=o
 cases op<;>simp only[JF]at hc<;>try (cases hc;done)
 case move x=>simp only[kh]at hc;obtain⟨s,h1,rfl⟩:=hc;exact Ymc (call:=call) hh hr h1 h
 case assign x=>simp only[kh]at hc;obtain⟨s,h1,rfl⟩:=hc;exact Ymc (call:=call) hh hr h1 h
 case pick c x y=>
  split at hc
  ·rename_i h1 h2 h3
   simp only[an]at hc;subst hc
   exact Yoq (call:=call) hh hr h1 h2 h3 h
  ·cases hc
 case alloc e=>
  split at hc
  ·rename_i z hz
   split at hc
   ·rename_i gG
    simp only[an]at hc;subst hc
    exact Ylj (call:=call) (r:=r) hh hz gG h
   ·cases hc
  ·cases hc
 case box e x=>simp only[kh]at hc;obtain⟨s,h1,rfl⟩:=hc;exact Yt9 (call:=call) hh hr h1 h
 case build t parts=>
  split at hc
  ·cases hc
  ·rename_i z hz
   split at hc
   ·rename_i fs Ds
    split at hc
    ·rename_i pl iG
     simp only[kh]at hc
     obtain⟨u9,h1,rfl⟩:=hc
     exact Zph (call:=call) hh hr hz Ds iG h1 h
    ·cases hc
   ·rename_i k e hu
    split at hc
    ·rename_i s hs
     simp only[kh]at hc
     obtain⟨u9,h1,rfl⟩:=hc
     exact Zpz (call:=call) hh hr hz hu hs h1 h
    ·cases hc
   ·cases hc
 case buildSlice t len parts=>
  split at hc
  ·rename_i e hu
   split at hc
   ·rename_i s z hs hz
    split at hc
    ·cases hc
    ·rename_i cM
     simp only[not_or,Decidable.not_not]at cM
     simp only[kh]at hc
     obtain⟨u9,h1,rfl⟩:=hc
     exact Yg0 (call:=call) hh hr hu hs hz cM.1 cM.2.1 h1 h
   ·cases hc
  ·cases hc
 case load t x=>
  split at hc
  ·rename_i h1 h2
   simp only[an]at hc;subst hc
   exact Ypq (call:=call) hh hr h1 h2 h
  ·cases hc
 case store t x y=>
  split at hc
  ·rename_i h1 h2 h3
   simp only[an]at hc;subst hc
   exact Yh4 (call:=call) hh hr h1 h2 h3 h
  ·cases hc
 case nilCheck x=>simp only[kh]at hc;obtain⟨s,h1,rfl⟩:=hc;exact Yjd (call:=call) hh hr h1 h
 case binOp op t x y p=>
  split at hc
  ·rename_i s u h1 h2
   have fin:∀q ng,XU P op t x y q ng->m=.bin op q ng s u->ba P μ w st (execOp a.eval ⟨dst,.binOp op t x y p,ty,pos,af,g⟩) v aA:=by
    intro q ng hq hm
    subst hm
    exact Yua (call:=call) hh hr h1 h2 hq h
   cases op
   case eql=>
    simp only at hc
    split at hc
    ·rename_i q hq
     rw[JM]at hc
     obtain⟨cM,hc⟩:=hc
     simp only[an]at hc
     exact fin _ _ (fun _=>⟨hq,by rw[Bool.not_eq_true]at cM;exact cM,rfl⟩) hc.symm
    ·cases hc
   case neq=>
    simp only at hc
    split at hc
    ·rename_i q hq
     rw[JM]at hc
     obtain⟨cM,hc⟩:=hc
     simp only[an]at hc
     exact fin _ _ (fun _=>⟨hq,by rw[Bool.not_eq_true]at cM;exact cM,rfl⟩) hc.symm
    ·cases hc
   all_goals
    simp only[an]at hc
    exact fin _ _ (fun hq=>by rcases hq with hq|hq<;>cases hq) hc.symm
  ·cases hc
 case unOp op t x=>simp only[kh]at hc;obtain⟨s,h1,rfl⟩:=hc;exact Yuu (call:=call) hh hr h1 h
 case convert src dst' x=>
  split at hc
  ·cases hc
  ·rename_i s h1
   split at hc
   ·rename_i q k hq hk
    simp only[an]at hc;subst hc
    exact Ybw (call:=call) hh hr ⟨_,hq⟩ hk h1 h
   ·rename_i e hq hk
    split at hc
    ·rename_i he
     simp only[an]at hc;subst hc
     exact Zvg (call:=call) hh hr hq hk he h1 h
    ·cases hc
   ·rename_i e hq hk
    split at hc
    ·rename_i he
     simp only[an]at hc;subst hc
     exact Zw8 (call:=call) hh hr hq hk he h1 h
    ·cases hc
   ·rename_i t hq hk
    split at hc
    ·rename_i z hz
     simp only[an]at hc;subst hc
     exact Yci (call:=call) hh hr hq hk hz h1 h
    ·cases hc
   ·rename_i u hq hk
    split at hc
    ·rename_i z hz
     simp only[an]at hc;subst hc
     exact Zva (call:=call) hh hr hq hk hz h1 h
    ·cases hc
   ·cases hc
 case makeInterface t x=>
  split at hc
  ·cases hc
  ·rename_i d aW hd
   simp only[kh]at hc;obtain⟨s,h1,rfl⟩:=hc
   exact Yaq (call:=call) hh hr hd (fun k hk=>aW k hk) h1 h
  ·cases hc
 case makeFunc f first gp=>
  cases f<;>simp only[reduceCtorEq]at hc
  split at hc
  ·rename_i h1 h2
   simp only[an]at hc;subst hc
   exact Yes (call:=call) hh hr h1 h2 h
  ·cases hc
 case makeMap t rsv=>
  cases rsv<;>simp only[reduceCtorEq]at hc
  simp only[an]at hc;subst hc
  exact Yjo (call:=call) (r:=r) hh h
 case makeSlice t x y=>
  split at hc
  ·rename_i e hu
   split at hc
   ·rename_i hs hb hz hx hy
    split at hc
    ·rename_i gG
     simp only[an]at hc;subst hc
     exact Yap (call:=call) hh hr hu hs hb hz gG hx hy h
    ·cases hc
   ·cases hc
  ·cases hc
 case slice t x lo hi mx=>
  split at hc
  ·rename_i hx fS g_ dm
   split at hc
   ·rename_i hu
    split at hc
    ·cases hc
    ·rename_i MV
     simp only[an]at hc;subst hc
     have hm:mx=none:=by
      cases mx with
      |none=>rfl
      |some q=>
       simp only[uV]at dm
       split at dm
       ·simp only[an]at dm
        subst dm;simp at MV
       ·cases dm
     subst hm
     exact Zvj (call:=call) hh hr hu hx fS g_ h
   ·rename_i e hu
    simp only[kh]at hc;obtain⟨s,h1,rfl⟩:=hc
    exact Zzr (call:=call) hh hr hu h1 hx fS g_ dm h
   ·rename_i k e hu
    simp only[kh]at hc;obtain⟨s,h1,rfl⟩:=hc
    exact Zvk (call:=call) hh hr hu h1 hx fS g_ dm h
   ·cases hc
  ·cases hc
 case fieldAddr t x i=>
  split at hc
  ·rename_i hu hx
   split at hc
   ·rename_i f hf
    split at hc
    ·rename_i hk
     simp only[an]at hc;subst hc
     exact Yki (call:=call) hh hr hu hf hk hx h
    ·cases hc
   ·cases hc
  ·cases hc
 case indexAddr t x i=>
  split at hc
  ·rename_i hu hx hi
   simp only[kh]at hc;obtain⟨s,h1,rfl⟩:=hc
   exact Zws (call:=call) hh hr hu h1 hx hi h
  ·rename_i hu hx hi
   simp only[kh]at hc;obtain⟨s,h1,rfl⟩:=hc
   exact Ybi (call:=call) hh hr hu h1 hx hi h
  ·cases hc
 case index t x i=>
  split at hc
  ·rename_i hu hx hi
   simp only[an]at hc;subst hc
   exact Yfl (call:=call) hh hr hu hx hi h
  ·cases hc
 case lookup t x k ok=>
  split at hc
  ·rename_i hu hx hk
   split at hc
   ·rename_i h1 h2
    simp only[an]at hc;subst hc
    exact Ye1 (call:=call) hh hr hu h1 h2 hx hk h
   ·cases hc
  ·cases hc
 case mapUpdate t x k y=>
  split at hc
  ·rename_i hu hx hk hy
   simp only[kh]at hc;obtain⟨s,h1,rfl⟩:=hc
   exact Zt2 (call:=call) hh hr hu h1 hx hk hy h
  ·cases hc
 case insert t x k y=>
  split at hc
  ·rename_i hu hx hk hy
   simp only[kh]at hc;obtain⟨s,h1,rfl⟩:=hc
   exact Zt2 (call:=call) hh hr hu h1 hx hk hy h
  ·cases hc
 case range t x=>
  split at hc
  ·rename_i hu hx
   simp only[an]at hc;subst hc
   exact Zvu (call:=call) hh hr hu hx h
  ·cases hc
 case next it isS=>
  cases isS<;>simp only[reduceCtorEq]at hc
  simp only[kh]at hc;obtain⟨s,h1,rfl⟩:=hc
  exact Yac (call:=call) hh hr h1 h
 case extract x i=>simp only[kh]at hc;obtain⟨s,h1,rfl⟩:=hc;exact Ybl (call:=call) hh hr h1 h
 case call c=>
  obtain⟨callee,args,ats⟩:=c
  cases callee with
  |invoke r' nm=>simp only[EF,reduceCtorEq]at hc
  |builtin b=>
   have:=Zw9 (ty:=ty) (cs:=args.map fun|.const _=>true|_=>false) hh hr hc h
   obtain⟨nx,x,w',μ',ws,k1,k2⟩:=this
   refine⟨nx,x,w',μ',ws,?_,k2⟩
   rw[<-k1]
   simp[execOp,resolve,invoke]
   rfl
  |value f=>
   simp only[EF]at hc
   split at hc
   ·cases hc
   ·rename_i ss FA
    cases f<;>simp only at hc
    case func gid=>
     split at hc
     ·rename_i fn Bx
      split at hc
      ·simp only[an]at hc;subst hc;simp[gm.oY]at hn
      ·rename_i hb
       split at hc
       ·rename_i e he
        simp only[an]at hc;subst hc
        have:=Ytq (call:=call) hh hr hE Bx (by simpa using hb) he FA h
        obtain⟨nx,x,w',μ',ws,k1,k2⟩:=this
        refine⟨nx,x,w',μ',ws,?_,k2⟩
        rw[<-k1]
        have e0:(⟨List.map a.eval args.toList⟩:Array Value)=args.map a.eval:=by apply Array.ext';simp
        rw[e0]
        simp[execOp,resolve,invoke,Deferred.ofValue,Act.eval]
       ·cases hc
     ·cases hc
    all_goals
     split at hc
     ·simp only[an]at hc;subst hc;simp[gm.oY]at hn
     ·cases hc
end
abbrev FE(lb:Option Nat):Fence:={Fence.wide with round:=lb}
def HJ(R:Value->World->Prop):Ending->World->Prop
 |.returned x,w=>R x w
 |_,_=>False
def Mm(P:Program)(y:Bool)(G:Value)(xs:Array Value)(w:World)(R:Value->World->Prop):Prop:=
 (∃d,(Deferred.ofValue G xs).run P w=.ok d w/\
  ((y=false/\∃f args,(invoke d.target d.args).run P w=.ok (.enter f args) w/\CallsIn Fence.wide 0 P f args w (HJ R))\/
     (y=true/\∃l f tmps fP fQ,(invoke d.target d.args).run P w=.ok (.round l f tmps fP fQ) w/\RoundIn Fence.wide 0 P l f tmps fP fQ w (HJ R))))
def js(P:Program)(call:cH):Prop:=
 ∀(g:V) (args:List V) (st:St) (v:V) (aA:St),call g args st=some (v,aA)->∀(μ:Mu) (w:World) (G:Value) (xs:List Value),bm P μ w st->VR μ g G->aU μ args xs->
  Mm P g.Gw G ⟨xs⟩ w fun x w'=>∃μ' ws,VR μ' v x/\bH P μ w st μ' w' aA ws
def qc(μ:Mu):List Nat->List Deferred->Prop
 |[],ds=>ds=[]
 |m::ms,ds=>∃l Fp,μ m=some l/\ds={target:=.collected l.b,args:=#[]}::Fp/\qc μ ms Fp
def qc.mono{μ μ':Mu}(h:∀i l,μ i=some l->μ' i=some l):∀{ms:List Nat} {ds:List Deferred},qc μ ms ds->qc μ' ms ds
 |[],_,hd=>hd
 |_::_,_,⟨l,Fp,h1,h2,h3⟩=>⟨l,Fp,h _ _ h1,h2,qc.mono h h3⟩
def mX(μ:Mu)(fr:Fr)(a:Act):Prop:=RR μ fr.r fr.n a.tmps/\qc μ fr.marks a.defers
def mX.mono{μ μ':Mu}(h:∀i l,μ i=some l->μ' i=some l){fr:Fr}{a:Act}(hf:mX μ fr a):mX μ' fr a:=⟨hf.1.mono h,hf.2.mono h⟩
section
variable {P:Program} {μ:Mu} {w:World} {st aA:St} {fr bE:Fr} {a:Act} {call:cH} {v:V} {lb:Option Nat}
def bH.mono{μ':Mu}{w':World}{ws:List Nat}(hh:bm P μ w st)(h:bH P μ w st μ' w' aA ws):∀i l,μ i=some l->μ' i=some l:=bm.GQ hh h.ext
def mX.put(hf:mX μ fr a){d:Option Nat}{x:Value}(hv:VR μ v x)(h:fr.put d v=some bE):mX μ bE (a.put d x):=by
 cases d with
 |none=>
  simp only[Fr.put,an]at h;subst h
  exact hf
 |some d=>
  simp only[Fr.put]at h
  split at h
  ·rename_i hd
   simp only[an]at h;subst h
   exact⟨hf.1.set hd hv,hf.2⟩
  ·cases h
def Xn(b_:js P call)(hE:uJ P)(hh:bm P μ w st)(hf:mX μ fr a){o:Oper}(h:cv (As P o.op) call fr.r st=some (v,aA)){K:Act->World->Prop}{Q:Exit->Act->World->Prop}
  (hK:∀x w' μ' ws,VR μ' v x->bH P μ w st μ' w' aA ws->K (a.put o.dst x) w'):o.wpIn (FE lb) 0 P a w K Q:=by
 refine⟨fun _ _=>trivial,?_⟩
 have Yb:∀c,o.op≠.defer c:=by
  intro c hc
  rw[hc]at h
  simp only[As,JF,Option.getD_none]at h
  cases h
 show o.uponIn (FE lb) 0 P a K Q ((o.semAt lb a.eval).run P w)
 rw[Oper.semAt_eq _ _ _ Yb]
 cases hc:JF P o.op with
 |none=>
  simp only[As,hc,Option.getD_none]at h
  cases h
 |some m=>
  simp only[As,hc,jz]at h
  by_cases hn:m.oY=true
  ·-- a call
   obtain⟨dst,op,ty,pos,af,g⟩:=o
   cases m<;>simp only[gm.oY,fL]at hn
   rename_i sf ss
   have MJ:∃c f,op=.call c/\c.callee=.value f/\bC P f=some sf/\vO P c.args.toList=some ss:=by
    cases op<;>simp only[JF]at hc<;>try (cases hc;done)
    case call c=>
     obtain⟨callee,args,ats⟩:=c
     cases callee with
     |invoke r' nm=>simp only[EF,reduceCtorEq]at hc
     |builtin b=>
      exfalso
      simp only[EF]at hc
      repeat' split at hc
      all_goals first|(cases hc;done)|(simp at hc;done)
     |value f=>
      simp only[EF]at hc
      split at hc
      ·cases hc
      ·rename_i ss' FA
       refine⟨_,f,rfl,rfl,?_⟩
       cases f<;>simp only at hc
       case func gid=>
        split at hc
        ·split at hc
         ·simp only[an,gm.call.injEq]at hc
          obtain⟨rfl,rfl⟩:=hc
          exact⟨rfl,FA⟩
         ·split at hc
          ·simp at hc
          ·cases hc
        ·cases hc
       all_goals
        split at hc
        ·rename_i h1
         simp only[an,gm.call.injEq]at hc
         obtain⟨rfl,rfl⟩:=hc
         exact⟨h1,FA⟩
        ·cases hc
    all_goals
     exfalso
     repeat' split at hc
     all_goals first|(cases hc;done)|contradiction|(simp at hc;done)|(rw[JM]at hc;simp at hc;done)
   obtain⟨c,f,rfl,Yc,h1,h2⟩:=MJ
   have h':zH sf ss call fr.r st=some (v,aA):=h
   unfold zH at h'
   split at h'
   ·rename_i gv l hg hl
    have hG:=cU hh hf.1 h1 hg
    have hX:=GX hh hf.1 h2 hl
    obtain⟨d,hd,ik⟩:=b_ _ _ _ _ _ h' μ w _ _ hh hG hX
    have e0:(⟨List.map a.eval c.args.toList⟩:Array Value)=c.args.map a.eval:=by apply Array.ext';simp
    rw[e0]at hd
    have uw:(resolve a.eval c ty).run P w=.ok d w:=by
     simp only[resolve,Yc]
     exact hd
    rcases ik with⟨_,g',args,hinv,Kc⟩|⟨_,l',g',tmps,fP,fQ,hinv,Kd⟩
    ·have bQ:(execOp a.eval ⟨dst,.call c,ty,pos,af,g⟩).run P w=.ok (.enter g' args) w:=by
      simp only[execOp,Sem.run_bind,uw,Result.andThen_ok,hinv]
     rw[bQ,Oper.uponIn_enter]
     refine⟨fun hx=>by simp[Fence.wide]at hx,?_⟩
     refine CallsIn.mono (F:=Fence.wide) Kc fun e w' he=>?_
     cases e with
     |returned x=>
      obtain⟨μ',ws,q1,q2⟩:=he
      exact hK x w' μ' ws q1 q2
     |panicked _=>exact he.elim
     |outgrown=>exact he.elim
    ·have bQ:(execOp a.eval ⟨dst,.call c,ty,pos,af,g⟩).run P w=.ok (.round l' g' tmps fP fQ) w:=by
      simp only[execOp,Sem.run_bind,uw,Result.andThen_ok,hinv]
     rw[bQ,Oper.uponIn_round]
     refine⟨fun hx=>by simp[Fence.wide]at hx,?_⟩
     refine RoundIn.mono (F:=Fence.wide) Kd fun e w' he=>?_
     cases e with
     |returned x=>
      obtain⟨μ',ws,q1,q2⟩:=he
      exact hK x w' μ' ws q1 q2
     |panicked _=>exact he.elim
     |outgrown=>exact he.elim
   ·cases h'
  ·obtain⟨nx,x,w',μ',ws,k1,k2,k3,k4⟩:=Ysu hh hf.1 hE hc (by simpa using hn) h
   rw[k1]
   rcases k2 with rfl|⟨rfl,rfl⟩
   ·rw[Oper.uponIn_value];exact hK x w' μ' ws k3 k4
   ·rw[Oper.uponIn_skip];exact hK undef w' μ' ws k3 k4
def Zp2{ops:Array Oper}{o:Oper}{g:Option (Nat×Bool)}(hr:RR μ fr.r fr.n a.tmps)(hg:GP ops o.guard=some g){b:Bool}(h:bU fr.r g=some b):Region.wanted o (yielded ops a.tmps)=b:=by
 unfold Region.wanted
 cases ho:o.guard with
 |none=>
  rw[ho]at hg
  simp only[GP,an]at hg;subst hg
  simp only[bU,an]at h
  exact h
 |some p=>
  obtain⟨j,want⟩:=p
  rw[ho]at hg
  simp only[GP]at hg
  split at hg
  ·rename_i t ht
   simp only[an]at hg;subst hg
   simp only[bU]at h
   split at h
   ·rename_i b' hb
    simp only[an]at h;subst h
    obtain⟨x,hx,hv⟩:=hr.2 _ _ hb
    simp only[VR]at hv
    subst hv
    simp[yielded,ht,hx]
   ·rename_i l hb
    simp only[an]at h;subst h
    obtain⟨x,hx,y,hv,_⟩:=hr.2 _ _ hb
    subst hv
    simp[yielded,ht,hx]
   ·cases h
  ·cases hg
end
def Kh:Ex->Exit
 |.normal=>.normal
 |.exit id=>.exit id
 |.ret=>.ret
def Kn(μ:Mu):Option Nat->Option Nat->Prop
 |none,none=>True
 |some l,some b=>∃L,μ l=some L/\L.b=b
 |_,_=>False
def Kn.mono{μ μ':Mu}(h:∀i l,μ i=some l->μ' i=some l){ro lb:Option Nat}(hr:Kn μ ro lb):Kn μ' ro lb:=by
 cases ro<;>cases lb<;>simp only[Kn]at*
 obtain⟨L,h1,h2⟩:=hr
 exact⟨L,h _ _ h1,h2⟩
def wy(P:Program)(μ:Mu)(w:World)(st:St)(ex:Ex)(bE:Fr)(aA:St):Exit->Act->World->Prop:=fun e a' w'=>
 e=Kh ex/\∃μ' ws,bH P μ w st μ' w' aA ws/\mX μ' bE a'
section
variable {P:Program} {μ:Mu} {w:World} {st aA:St} {fr bE:Fr} {a:Act} {call:cH} {v:V} {lb:Option Nat}
def Yo8(b_:js P call)(hE:uJ P){ops:Array Oper}{Q:Exit->Act->World->Prop}:∀(is:List Nat) (os:List Oper),is.map (fun i=>ops[i]?)=os.map some->
  ∀{st:St} {fr:Fr} {a:Act} {w:World} {μ:Mu},bm P μ w st->mX μ fr a->dC call (os.map (rE P ops)) fr st=some (bE,aA)->
   (∀a' w' μ' ws,mX μ' bE a'->bH P μ w st μ' w' aA ws->Q .normal a' w')->wpOpsIn (FE lb) 0 P ops Q is a w:=by
 intro is
 induction is with
 |nil=>
  intro os Au st fr a w μ hh hf h hQ
  cases os with
  |cons o os=>simp at Au
  |nil=>
   simp only[vR,dC,Yl9,an,bs]at h
   obtain⟨rfl,rfl⟩:=h
   exact hQ a w μ [] hf (bH.refl hh)
 |cons i is ih=>
  intro os Au st fr a w μ hh hf h hQ
  cases os with
  |nil=>simp at Au
  |cons o os=>
   simp only[mU,gU]at Au
   obtain⟨hoi,Au⟩:=Au
   simp only[mU,dC,BX]at h
   unfold wpOpsIn
   rw[hoi]
   simp only[]
   have go:∀(v:V) (bV:St) (dV:Fr) (x:Value) (w1:World) (μ1:Mu) (ws:List Nat),VR μ1 v x->bH P μ w st μ1 w1 bV ws->fr.put o.dst v=some dV->dC call (os.map (rE P ops)) dV bV=some (bE,aA)->
     wpOpsIn (FE lb) 0 P ops Q is (a.put o.dst x) w1:=by
    intro v bV dV x w1 μ1 ws hv hs hp hm
    refine ih os Au hs.hr ((hf.mono (hs.mono hh)).put hv hp) hm fun a' w' μ' QR A3 jh=>?_
    exact hQ a' w' μ' _ A3 (hs.trans jh)
   unfold rE at h
   cases hg:GP ops o.guard with
   |none=>
    rw[hg]at h
    simp only[bU,cv,WN]at h
    cases h
   |some g=>
    rw[hg]at h
    simp only at h
    cases hw:bU fr.r g with
    |none=>rw[hw]at h;cases h
    |some b=>
     rw[hw]at h
     have xW:=Zp2 hf.1 hg hw
     cases b with
     |true=>
      rw[ax xW]
      simp only at h
      split at h
      ·rename_i v1 bV hm
       split at h
       ·rename_i dV hp
        exact Xn b_ hE hh hf hm fun x w' μ' ws q1 q2=>go v1 bV dV x w' μ' ws q1 q2 hp h
       ·cases h
      ·cases h
     |false=>
      rw[ak (by rw[xW];simp)]
      simp only at h
      split at h
      ·rename_i dV hp
       exact⟨fun _ _=>trivial,go (.aV []) st dV undef w μ [] ⟨[],rfl,by simp[aU]⟩ (bH.refl hh) hp h⟩
      ·cases h
def Ydw{ops:Array Oper}:(List.range ops.size).map (fun i=>ops[i]?)=ops.toList.map some:=by
 apply og
 intro i
 simp only[fm]
 by_cases h:i<ops.size
 ·simp[h]
 ·simp[h]
def Zpv{F:Fence}{n:Nat}{c:Code}{Q:Exit->Act->World->Prop}(J:Nat->Act->World->Prop)
  (round:∀f a w,J f a w->c.wpIn F n P (Exit.then (fun a' w'=>∃f',f'<f/\J f' a' w') Q) a w) {f:Nat} (h₀:J f a w):(Code.loop c).wpIn F n P Q a w:=by
 intro b k cs pL hb hr
 have key:∀j a w,J j a w->
   ∃e a' w',Q e a' w'/\ArrivesIn (Machine.fenced P F) P (lone (b.atR a (.code c::.inLoop c::k)) cs w) b k cs e a' w':=by
  intro j
  induction j using Nat.strongRecOn with
  |_ j ih=>
   intro a w hI
   obtain⟨e,a₁,w₁,hq,jk⟩:=round j a w hI b (.inLoop c::k) cs pL hb hr
   cases e with
   |normal=>
    obtain⟨f',au,hI₁⟩:=hq
    obtain⟨e₂,a₂,w₂,hq₂,MW⟩:=ih f' au a₁ w₁ hI₁
    exact⟨e₂,a₂,w₂,hq₂,.of_steps (StepsIn.trans jk (.one (fenced_calm hb hr rfl) stepR_inLoop)) MW⟩
   |exit id=>exact⟨_,a₁,w₁,hq,.pass (x:=.inLoop c) rfl (fun _ _=>.inl (by simp)) jk⟩
   |goto l=>exact⟨_,a₁,w₁,hq,.pass (x:=.inLoop c) rfl (fun _ _=>.inl (by simp)) jk⟩
   |ret=>exact⟨_,a₁,w₁,hq,.pass (x:=.inLoop c) rfl (fun _ _=>.inl (by simp)) jk⟩
   |panic ch=>exact⟨_,a₁,w₁,hq,.pass (x:=.inLoop c) rfl (fun _ _=>.inl (by simp)) jk⟩
   |outgrown=>exact⟨_,a₁,w₁,hq,.pass (x:=.inLoop c) rfl (fun _ _=>.inl (by simp)) jk⟩
 obtain⟨e,a',w',hq,jk⟩:=key _ a w h₀
 exact⟨e,a',w',hq,.of_steps (.one (fenced_calm hb hr rfl) stepR_loop) jk⟩
def Ko{b:Frame}{k:List Item}{cs:List Frame}{c:Code}:
  step P (lone (b.atR a (.code (.scope c)::k)) cs w)=.next (lone (b.atR a (.code c::.inScope c::k)) cs w):=
 step_lone_go (by simp[stepG,stepG.exec,Frame.atR])
def Zre{b:Frame}{k:List Item}{cs:List Frame}{c:Code}:
  step P (lone (b.atR a (.inScope c::k)) cs w)=.next (lone (b.atR a k) cs w):=
 step_lone_go (by simp[stepG,stepG.exec,Frame.atR])
def Zzl{F:Fence}{n:Nat}{c:Code}{Q:Exit->Act->World->Prop}(h:c.wpIn F n P Q a w)(hq:∀l a w,¬Q (.goto l) a w):(Code.scope c).wpIn F n P Q a w:=by
 intro b k cs pL hb hr
 have h0:(lone (b.atR a (.code (.scope c)::k)) cs w).fenced P F:=fenced_calm hb hr rfl
 obtain⟨e,a₁,w₁,hQ,jk⟩:=h b (.inScope c::k) cs pL hb hr
 cases e with
 |normal=>exact⟨.normal,a₁,w₁,hQ,.head h0 Ko (StepsIn.trans jk (.one (fenced_calm hb hr rfl) Zre))⟩
 |exit id=>
  have hx:exitTo id (.inScope c::k)=exitTo id k:=by simp[exitTo]
  exact⟨.exit id,a₁,w₁,hQ,fun k' hk=>.head h0 Ko (jk.1 k' (by rw[hx];exact hk)),
   fun ko hk=>let ⟨k₁,h1,h2⟩:=jk.2 ko (by rw[hx];exact hk);⟨k₁,h1,.head h0 Ko h2⟩⟩
 |goto l=>exact absurd hQ (hq l a₁ w₁)
 |ret=>exact⟨_,a₁,w₁,hQ,.of_steps (.one h0 Ko) jk⟩
 |panic ch=>exact⟨_,a₁,w₁,hQ,.of_steps (.one h0 Ko) jk⟩
 |outgrown=>exact⟨_,a₁,w₁,hQ,.of_steps (.one h0 Ko) jk⟩
def wy.after{μ1:Mu}{w1:World}{bV:St}{ws:List Nat}(hs:bH P μ w st μ1 w1 bV ws){ex:Ex}{e:Exit}{a':Act}{w':World}(h:wy P μ1 w1 bV ex bE aA e a' w'):wy P μ w st ex bE aA e a' w':=by
 obtain⟨h1,μ',QR,h2,h3⟩:=h
 exact⟨h1,μ',_,hs.trans h2,h3⟩
def wy.then{μ:Mu}{ex:Ex}{dV:Fr}{bV:St}{K:Act->World->Prop}{Q:Exit->Act->World->Prop}{e:Exit}{a':Act}{w':World}(h:wy P μ w st ex dV bV e a' w')
  (hn:ex=.normal->K a' w') (hq:ex≠.normal->Q e a' w'):Exit.then K Q e a' w':=by
 obtain⟨rfl,h⟩:=h
 cases ex<;>simp only[Kh,Exit.then]
 ·exact hn rfl
 ·exact hq (by simp)
 ·exact hq (by simp)
def Kg(P:Program)(code:qx):Prop:=
 ∀(ro:Option Nat) (c:Code) (fr:Fr) (st:St) (ex:Ex) (bE:Fr) (aA:St),code ro (iL P c) fr st=some (ex,bE,aA)->
  ∀(μ:Mu) (w:World) (a:Act) (lb:Option Nat),bm P μ w st->mX μ fr a->Kn μ ro lb->c.wpIn (FE lb) 0 P (wy P μ w st ex bE aA) a w
def Ym5(P:Program)(call:cH):Prop:=
 ∀(id:Nat) (ops:Array Oper) (fr:Fr) (st:St) (ex:Ex) (bE:Fr) (aA:St),WB P ops=true->AF (ops.toList.map (rE P ops)) (vQ ops.toList []) call Q4 none fr st=some (ex,bE,aA)->
  ∀(μ:Mu) (w:World) (a:Act) (lb:Option Nat),bm P μ w st->mX μ fr a->(Code.region id ops true).wpIn (FE lb) 0 P (wy P μ w st ex bE aA) a w
def Yud(P:Program)(call:cH):Prop:=
 ∀(id:Nat) (ops:Array Oper) (o:Oper) (rest:List Oper) (d:Option Nat) (ch:Src) (s:Option Src) (z:V) (fr:Fr) (st:St) (ex:Ex) (bE:Fr) (aA:St),ops.toList=o::rest->Ywj P o=some (d,ch,s,z)->
  B0 d ch s z (rest.map (rE P ops)) call Q4 none fr st=some (ex,bE,aA)->
  ∀(μ:Mu) (w:World) (a:Act) (lb:Option Nat),bm P μ w st->mX μ fr a->(Code.region id ops false).wpIn (FE lb) 0 P (wy P μ w st ex bE aA) a w
def Yhd(P:Program)(call:cH):Prop:=
 ∀(ro:Option Nat) (g:Operand) (s:Src) (ps:Array Nat) (fP fQ:Code) (fr:Fr) (st:St) (ex:Ex) (bE:Fr) (aA:St),bC P g=some s->
  Ab s ps.toList (iL P fP) (iL P fQ) call Q4 ro fr st=some (ex,bE,aA)->
  ∀(μ:Mu) (w:World) (a:Act) (lb:Option Nat),bm P μ w st->mX μ fr a->Kn μ ro lb->(Code.rangeFunc g ps fP fQ).wpIn (FE lb) 0 P (wy P μ w st ex bE aA) a w
def Ygt(b_:js P call)(hE:uJ P)(hD:Ym5 P call)(hS:Yud P call)(hR:Yhd P call):∀fuel,Kg P (dP call fuel):=by
 intro fuel
 induction fuel using Nat.strongRecOn with
 |_ fuel ihs=>
 cases fuel with
 |zero=>intro ro c fr st ex bE aA h;cases h
 |succ f=>
  have ih:Kg P (dP call f):=ihs f (vS f)
  intro ro c fr st ex bE aA h μ w a lb hh hf pL
  cases c with
  |skip=>
   simp only[iL,dP,mV,WQ,an,bs]at h
   obtain⟨rfl,rfl,rfl⟩:=h
   exact wpIn_skip ⟨rfl,μ,[],bH.refl hh,hf⟩
  |label l=>
   simp only[iL,dP,mV,WQ,an,bs]at h
   obtain⟨rfl,rfl,rfl⟩:=h
   exact wpIn_label ⟨rfl,μ,[],bH.refl hh,hf⟩
  |exit id=>
   simp only[iL,dP,mV,Ymx,an,bs]at h
   obtain⟨rfl,rfl,rfl⟩:=h
   exact wpIn_exit ⟨rfl,μ,[],bH.refl hh,hf⟩
  |ret=>
   simp only[iL,dP,mV,Yt7,an,bs]at h
   obtain⟨rfl,rfl,rfl⟩:=h
   exact wpIn_ret ⟨rfl,μ,[],bH.refl hh,hf⟩
  |goto l=>simp only[iL,dP,mV,J4]at h;cases h
  |refuse why=>simp only[iL,dP,mV,J4]at h;cases h
  |region id ops draw=>
   cases draw with
   |true=>
    simp only[iL]at h
    split at h
    ·rename_i hp
     simp only[dP,mV]at h
     exact hD id ops fr st ex bE aA hp h μ w a lb hh hf
    ·simp only[dP,mV,J4]at h;cases h
   |false=>
    have plain:AE (ops.toList.map (rE P ops)) call (dP call f) ro fr st=some (ex,bE,aA)->(Code.region id ops false).wpIn (FE lb) 0 P (wy P μ w st ex bE aA) a w:=by
     intro h
     simp only[AE]at h
     split at h
     ·rename_i dV bV hm
      simp only[an,bs]at h
      obtain⟨rfl,rfl,rfl⟩:=h
      exact wpIn_region (Yo8 b_ hE _ _ Ydw hh hf hm fun a' w' μ' ws q1 q2=>⟨rfl,μ',ws,q2,q1⟩)
     ·cases h
    simp only[iL,dP]at h
    split at h
    ·rename_i ho
     exact plain (by rw[ho];exact h)
    ·rename_i o rest ho
     split at h
     ·rename_i d ch s z hs
      exact hS id ops o rest d ch s z fr st ex bE aA ho hs h μ w a lb hh hf
     ·exact plain (by rw[ho];exact h)
  |seq x y=>
   simp only[iL,dP,mV,B1]at h
   refine wpIn_seq ?_
   split at h
   ·rename_i dV bV hx
    refine wpIn_mono (ih ro x fr st _ _ _ hx μ w a lb hh hf pL) fun e a' w' hp=>?_
    have tQ:=hp
    obtain⟨he,μ1,ws,hs,tE⟩:=hp
    refine tQ.then (fun _=>?_) (fun aW=>absurd rfl aW)
    exact wpIn_mono (ih ro y dV bV ex bE aA h μ1 w' a' lb hs.hr tE (pL.mono (hs.mono hh))) fun e2 a2 w2 zN=>zN.after hs
   ·rename_i hx
    refine wpIn_mono (ih ro x fr st _ _ _ h μ w a lb hh hf pL) fun e a' w' hp=>?_
    refine hp.then (fun hn=>?_) (fun _=>hp)
    subst hn
    exact absurd h (hx bE aA)
  |cond x p q=>
   simp only[iL]at h
   split at h
   ·rename_i s hs
    simp only[dP,mV,yU]at h
    split at h
    ·rename_i hv
     have:=cU hh hf.1 hs hv
     exact wpIn_cond_true (by simpa[VR]using this) (ih ro p fr st ex bE aA h μ w a lb hh hf pL)
    ·rename_i hv
     have:=cU hh hf.1 hs hv
     exact wpIn_cond_false (by simpa[VR]using this) (ih ro q fr st ex bE aA h μ w a lb hh hf pL)
    ·cases h
   ·simp only[dP,mV,J4]at h;cases h
  |block id c=>
   simp only[iL,dP,mV,B2]at h
   refine wpIn_block ?_
   split at h
   ·rename_i B3 dV bV hx
    refine wpIn_mono (ih ro c fr st _ _ _ hx μ w a lb hh hf pL) fun e a' w' hp=>?_
    obtain⟨rfl,hp⟩:=hp
    simp only[Kh,Exit.inBlock]
    split at h
    ·rename_i BI
     simp only[an,bs]at h
     obtain⟨rfl,rfl,rfl⟩:=h
     rw[ax (QU BI)]
     exact⟨rfl,hp⟩
    ·rename_i BI
     simp only[an,bs]at h
     obtain⟨rfl,rfl,rfl⟩:=h
     rw[ak (Nat.ne_of_beq_eq_false BI)]
     exact⟨rfl,hp⟩
   ·rename_i hx
    refine wpIn_mono (ih ro c fr st _ _ _ h μ w a lb hh hf pL) fun e a' w' hp=>?_
    have tQ:=hp
    obtain⟨rfl,hp⟩:=hp
    cases ex with
    |normal=>exact tQ
    |ret=>exact tQ
    |exit B3=>exact absurd h (hx B3 bE aA)
  |loop c=>
   refine Zpv (fun k a1 w1=>k<=f+1/\∃dV bV μ1 ws,bH P μ w st μ1 w1 bV ws/\mX μ1 dV a1/\dP call k ro (.loop (iL P c)) dV bV=some (ex,bE,aA)) ?_
    (f:=f+1) ⟨aO _,fr,st,μ,[],bH.refl hh,hf,h⟩
   intro k a1 w1 hJ
   obtain⟨hk,dV,bV,μ1,ws,hs,tE,hm⟩:=hJ
   cases k with
   |zero=>cases hm
   |succ k=>
    simp only[dP,mV,B4]at hm
    have ihk:Kg P (dP call k):=ihs k (by omega)
    split at hm
    ·rename_i Ac eI hx
     refine wpIn_mono (ihk ro c dV bV _ _ _ hx μ1 w1 a1 lb hs.hr tE (pL.mono (hs.mono hh))) fun e a' w' hp=>?_
     have tQ:=hp
     obtain⟨he,μ2,Xy,oV,cG⟩:=hp
     refine tQ.then (fun _=>?_) (fun aW=>absurd rfl aW)
     exact⟨k,vS k,by omega,Ac,eI,μ2,_,hs.trans oV,cG,hm⟩
    ·rename_i hx
     refine wpIn_mono (ihk ro c dV bV _ _ _ hm μ1 w1 a1 lb hs.hr tE (pL.mono (hs.mono hh))) fun e a' w' hp=>?_
     refine hp.then (fun hn=>?_) (fun _=>hp.after hs)
     subst hn
     exact absurd hm (hx bE aA)
  |scope c=>
   simp only[iL,dP,mV,Ygy]at h
   refine Zzl (ih ro c fr st ex bE aA h μ w a lb hh hf pL) fun l a' w' hp=>?_
   obtain⟨he,_⟩:=hp
   cases ex<;>simp[Kh]at he
  |rangeFunc g ps fP fQ=>
   simp only[iL]at h
   split at h
   ·rename_i s hs
    simp only[dP,mV]at h
    exact hR ro g s ps fP fQ fr st ex bE aA hs h μ w a lb hh hf pL
   ·simp only[dP,mV,J4]at h;cases h
end
end Go.Mx
