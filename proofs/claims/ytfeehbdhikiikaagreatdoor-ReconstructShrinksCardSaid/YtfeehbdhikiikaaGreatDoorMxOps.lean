/-Every operation of M that calls no funct-/
import Derived.Test.YtfeehbdhikiikaaGreatDoorMxOp10
import Derived.RangeFuncRecord
import Derived.OrdersIn
set_option linter.all false
namespace Go.Mx
open Go
variable{Q:Exit->Act->World->Prop}{b:Frame}{cs:List Frame}{k:List Item}{ws:List Nat}{μ' μ1:Mu}{o:Oper}{α:Type}{w' w1:World}
section
variable {P:Program} {μ:Mu} {w:World} {st aB:St} {r:T V} {n:Nat} {a:Act} {call:cQ} {v:V}
def iH.qh:iH->Bool
 |.call _ _=>true
 |_=>false
def MR{a:Array α}{x:α}(h:a.toList=[x]):a=#[x]:=by apply Array.ext';simpa using h
def Qa{a:Array α}{x y:α}(h:a.toList=[x,y]):a=#[x,y]:=by apply Array.ext';simpa using h
def Zyw(hh:bq P μ w st)(hr:RR μ r n a.tmps){b:Builtin}{ts:Array TypeId}{xs:Array Operand}{ty:TypeId}{cs:Array Bool}{m:iH}(hc:Gn P ⟨.builtin b,xs,ts⟩=some m)
  (h:cH m call r st=some (v,aB)):ba P μ w st (builtin b ts ty cs (xs.map a.eval)) v aB:=by
 simp only[Gn]at hc;split at hc
 ·rename_i t x ht hx;have e1:=MR ht;have e2:=MR hx;subst e1 e2;simp only[builtin,Mj,pU,yY];split at hc
  ·rename_i s hu hs;simp only[ar]at hc;subst hc;exact Ydc (call:=call) hh hr hu hs h
  ·rename_i e s hu hs;simp only[ar]at hc;subst hc;exact Zu7 (call:=call) hh hr hu hs h
  ·rename_i k e s hu hs;simp only[ar]at hc;subst hc;exact Ydd (call:=call) hh hr hu hs h
  cases hc
 ·rename_i t x ht hx;have e1:=MR ht;have e2:=MR hx;subst e1 e2;simp only[builtin,Mj,pU,yY];split at hc
  ·rename_i e s hu hs;simp only[ar]at hc;subst hc;exact Yxz (call:=call) hh hr hu hs h
  cases hc
 ·split at hc
  ·rename_i l hl;simp only[ar]at hc;subst hc;exact Yzv (call:=call) hh hr hl h
  cases hc
 ·split at hc
  ·rename_i l hl;simp only[ar]at hc;subst hc;exact Yzu (call:=call) hh hr hl h
  cases hc
 ·rename_i t u s x ht hx;have e1:=Qa ht;have e2:=Qa hx;subst e1 e2;simp only[builtin,Mj,pU,yY];split at hc
  ·rename_i e hu;split at hc
   ·rename_i n' b' z s' x' d hs hb hz kj kO hd;rw[Mh]at hc;obtain⟨df,hc⟩:=hc;simp only[not_or,Decidable.not_not]at df;obtain⟨c1,c2,c3,c4⟩:=df;simp only[ar]at hc;subst hc;have c4':z.cells.all V.one=true:=by simpa using c4
    exact Yje (call:=call) hh hr (by rfl) hu (by rfl) hd (fun k hk=>by subst hk;simp at c1) hs hb hz c3 c4' c2 kj kO h
   cases hc
  cases hc
 ·rename_i t ts' d s ht hx;have e2:=Qa hx;subst e2;simp only[builtin,Mj,pU,yY];split at hc
  ·rename_i e hu;split at hc
   ·rename_i n' d' s' hs hd kj;simp only[ar]at hc;subst hc;exact Ytz (call:=call) hh hr (by rw[<-Es,ht];rfl) hu hs hd kj h
   cases hc
  cases hc
 ·rename_i t s ht hx;have e1:=MR ht;have e2:=MR hx;subst e1 e2;simp only[builtin,Mj,pU,yY];simp only[mS]at hc;obtain⟨s',hs,rfl⟩:=hc;exact Ykn (call:=call) hh hr hs h
 ·rename_i t u x y ht hx;have e1:=Qa ht;have e2:=Qa hx;subst e1 e2;simp only[builtin,Mj,pU,yY];split at hc
  ·rename_i e hu;split at hc
   ·rename_i s q hs hx hy;simp only[ar]at hc;subst hc;exact Ypz (call:=call) hh hr hu hs hx hy h
   cases hc
  cases hc
 cases hc
def Ywe(hh:bq P μ w st)(hr:RR μ r n a.tmps)(hE:vS P){m:iH}(hc:Mb P o.op=some m)(hn:m.qh=false)(h:cH m call r st=some (v,aB)):
  ba P μ w st (execOp a.eval o) v aB:=by
 obtain⟨dst,op,ty,pos,af,g⟩:=o;cases op<;>simp only[Mb]at hc<;>try (cases hc;done)
 case move x=>simp only[mS]at hc;obtain⟨s,h1,rfl⟩:=hc;exact Yor (call:=call) hh hr h1 h
 case assign x=>simp only[mS]at hc;obtain⟨s,h1,rfl⟩:=hc;exact Yor (call:=call) hh hr h1 h
 case pick c x y=>
  split at hc
  ·rename_i h1 h2 h3
   simp only[ar]at hc;subst hc
   exact Yre (call:=call) hh hr h1 h2 h3 h
  ·cases hc
 case alloc e=>
  split at hc
  ·rename_i z hz
   split at hc
   ·rename_i cW
    simp only[ar]at hc;subst hc
    exact Ynv (call:=call) (r:=r) hh hz cW h
   ·cases hc
  ·cases hc
 case box e x=>simp only[mS]at hc;obtain⟨s,h1,rfl⟩:=hc;exact Yx1 (call:=call) hh hr h1 h
 case build t parts=>
  split at hc
  ·cases hc
  ·rename_i z hz
   split at hc
   ·rename_i fs xf
    split at hc
    ·rename_i pl jA
     simp only[mS]at hc
     obtain⟨wB,h1,rfl⟩:=hc
     exact Zqc (call:=call) hh hr hz xf jA h1 h
    ·cases hc
   ·rename_i k e hu
    split at hc
    ·rename_i s hs
     simp only[mS]at hc
     obtain⟨wB,h1,rfl⟩:=hc
     exact Zqw (call:=call) hh hr hz hu hs h1 h
    ·cases hc
   ·cases hc
 case buildSlice t len parts=>
  split at hc
  ·rename_i e hu
   split at hc
   ·rename_i s z hs hz
    split at hc
    ·cases hc
    ·rename_i df
     simp only[not_or,Decidable.not_not]at df
     simp only[mS]at hc
     obtain⟨wB,h1,rfl⟩:=hc
     exact Yja (call:=call) hh hr hu hs hz df.1 df.2.1 h1 h
   ·cases hc
  ·cases hc
 case load t x=>
  split at hc
  ·rename_i h1 h2
   simp only[ar]at hc;subst hc
   exact Ysk (call:=call) hh hr h1 h2 h
  ·cases hc
 case store t x y=>
  split at hc
  ·rename_i h1 h2 h3
   simp only[ar]at hc;subst hc
   exact Yke (call:=call) hh hr h1 h2 h3 h
  ·cases hc
 case nilCheck x=>simp only[mS]at hc;obtain⟨s,h1,rfl⟩:=hc;exact Ylk (call:=call) hh hr h1 h
 case binOp op t x y p=>
  split at hc
  ·rename_i s u h1 h2
   have fin:∀q ng,Yu5 P op t x y q ng->m=.bin op q ng s u->ba P μ w st (execOp a.eval ⟨dst,.binOp op t x y p,ty,pos,af,g⟩) v aB:=by
    intro q ng hq hm
    subst hm
    exact Yx2 (call:=call) hh hr h1 h2 hq h
   cases op
   case eql=>
    simp only at hc
    split at hc
    ·rename_i q hq
     rw[Mh]at hc
     obtain⟨df,hc⟩:=hc
     simp only[ar]at hc
     exact fin _ _ (fun _=>⟨hq,by rw[Bool.not_eq_true]at df;exact df,rfl⟩) hc.symm
    ·cases hc
   case neq=>
    simp only at hc
    split at hc
    ·rename_i q hq
     rw[Mh]at hc
     obtain⟨df,hc⟩:=hc
     simp only[ar]at hc
     exact fin _ _ (fun _=>⟨hq,by rw[Bool.not_eq_true]at df;exact df,rfl⟩) hc.symm
    ·cases hc
   all_goals
    simp only[ar]at hc
    exact fin _ _ (fun hq=>by rcases hq with hq|hq<;>cases hq) hc.symm
  ·cases hc
 case unOp op t x=>simp only[mS]at hc;obtain⟨s,h1,rfl⟩:=hc;exact Yys (call:=call) hh hr h1 h
 case convert src dst' x=>
  split at hc
  ·cases hc
  ·rename_i s h1
   split at hc
   ·rename_i q k hq hk
    simp only[ar]at hc;subst hc
    exact Yeb (call:=call) hh hr ⟨_,hq⟩ hk h1 h
   ·rename_i e hq hk
    split at hc
    ·rename_i he
     simp only[ar]at hc;subst hc
     exact Zwr (call:=call) hh hr hq hk he h1 h
    ·cases hc
   ·rename_i e hq hk
    split at hc
    ·rename_i he
     simp only[ar]at hc;subst hc
     exact Zyv (call:=call) hh hr hq hk he h1 h
    ·cases hc
   ·rename_i t hq hk
    split at hc
    ·rename_i z hz
     simp only[ar]at hc;subst hc
     exact Yez (call:=call) hh hr hq hk hz h1 h
    ·cases hc
   ·rename_i u hq hk
    split at hc
    ·rename_i z hz
     simp only[ar]at hc;subst hc
     exact Zwg (call:=call) hh hr hq hk hz h1 h
    ·cases hc
   ·cases hc
 case makeInterface t x=>
  split at hc
  ·cases hc
  ·rename_i d aX hd
   simp only[mS]at hc;obtain⟨s,h1,rfl⟩:=hc
   exact Yc5 (call:=call) hh hr hd (fun k hk=>aX k hk) h1 h
  ·cases hc
 case makeFunc f first iI=>
  cases f<;>simp only[reduceCtorEq]at hc
  split at hc
  ·rename_i h1 h2
   simp only[ar]at hc;subst hc
   exact Yg0 (call:=call) hh hr h1 h2 h
  ·cases hc
 case makeMap t rsv=>
  cases rsv<;>simp only[reduceCtorEq]at hc
  simp only[ar]at hc;subst hc
  exact Ylu (call:=call) (r:=r) hh h
 case makeSlice t x y=>
  split at hc
  ·rename_i e hu
   split at hc
   ·rename_i hs hb hz hx hy
    split at hc
    ·rename_i cW
     simp only[ar]at hc;subst hc
     exact Yc4 (call:=call) hh hr hu hs hb hz cW hx hy h
    ·cases hc
   ·cases hc
  ·cases hc
 case slice t x lo hi mx=>
  split at hc
  ·rename_i hx h_ iY dq
   split at hc
   ·rename_i hu
    split at hc
    ·cases hc
    ·rename_i Qc
     simp only[ar]at hc;subst hc
     have hm:mx=none:=by
      cases mx with
      |none=>rfl
      |some q=>
       simp only[wi]at dq
       split at dq
       ·simp only[ar]at dq
        subst dq;simp at Qc
       ·cases dq
     subst hm
     exact Zwu (call:=call) hh hr hu hx h_ iY h
   ·rename_i e hu
    simp only[mS]at hc;obtain⟨s,h1,rfl⟩:=hc
    exact Yb4 (call:=call) hh hr hu h1 hx h_ iY dq h
   ·rename_i k e hu
    simp only[mS]at hc;obtain⟨s,h1,rfl⟩:=hc
    exact Zwv (call:=call) hh hr hu h1 hx h_ iY dq h
   ·cases hc
  ·cases hc
 case fieldAddr t x i=>
  split at hc
  ·rename_i hu hx
   split at hc
   ·rename_i f hf
    split at hc
    ·rename_i hk
     simp only[ar]at hc;subst hc
     exact Ymp (call:=call) hh hr hu hf hk hx h
    ·cases hc
   ·cases hc
  ·cases hc
 case indexAddr t x i=>
  split at hc
  ·rename_i hu hx hi
   simp only[mS]at hc;obtain⟨s,h1,rfl⟩:=hc
   exact Zx8 (call:=call) hh hr hu h1 hx hi h
  ·rename_i hu hx hi
   simp only[mS]at hc;obtain⟨s,h1,rfl⟩:=hc
   exact Ydx (call:=call) hh hr hu h1 hx hi h
  ·cases hc
 case index t x i=>
  split at hc
  ·rename_i hu hx hi
   simp only[ar]at hc;subst hc
   exact Yhs (call:=call) hh hr hu hx hi h
  ·cases hc
 case lookup t x k ok=>
  split at hc
  ·rename_i hu hx hk
   split at hc
   ·rename_i h1 h2
    simp only[ar]at hc;subst hc
    exact Yg8 (call:=call) hh hr hu h1 h2 hx hk h
   ·cases hc
  ·cases hc
 case mapUpdate t x k y=>
  split at hc
  ·rename_i hu hx hk hy
   simp only[mS]at hc;obtain⟨s,h1,rfl⟩:=hc
   exact Zu5 (call:=call) hh hr hu h1 hx hk hy h
  ·cases hc
 case insert t x k y=>
  split at hc
  ·rename_i hu hx hk hy
   simp only[mS]at hc;obtain⟨s,h1,rfl⟩:=hc
   exact Zu5 (call:=call) hh hr hu h1 hx hk hy h
  ·cases hc
 case range t x=>
  split at hc
  ·rename_i hu hx
   simp only[ar]at hc;subst hc
   exact Zw8 (call:=call) hh hr hu hx h
  ·cases hc
 case next it isS=>
  cases isS<;>simp only[reduceCtorEq]at hc
  simp only[mS]at hc;obtain⟨s,h1,rfl⟩:=hc
  exact Ycr (call:=call) hh hr h1 h
 case extract x i=>simp only[mS]at hc;obtain⟨s,h1,rfl⟩:=hc;exact Ydz (call:=call) hh hr h1 h
 case call c=>
  obtain⟨callee,args,ats⟩:=c
  cases callee with
  |invoke r' nm=>simp only[Gn,reduceCtorEq]at hc
  |builtin b=>
   have:=Zyw (ty:=ty) (cs:=args.map fun|.const _=>true|_=>false) hh hr hc h
   obtain⟨nx,x,w',μ',ws,k1,k2⟩:=this
   refine⟨nx,x,w',μ',ws,?_,k2⟩
   rw[<-k1]
   simp[execOp,resolve,invoke]
   rfl
  |value f=>
   simp only[Gn]at hc
   split at hc
   ·cases hc
   ·rename_i ss Ho
    cases f<;>simp only at hc
    case func gid=>
     split at hc
     ·rename_i fn CN
      split at hc
      ·simp only[ar]at hc;subst hc;simp[iH.qh]at hn
      ·rename_i hb
       split at hc
       ·rename_i e he
        simp only[ar]at hc;subst hc
        have:=Yxe (call:=call) hh hr hE CN (by simpa using hb) he Ho h
        obtain⟨nx,x,w',μ',ws,k1,k2⟩:=this
        refine⟨nx,x,w',μ',ws,?_,k2⟩
        rw[<-k1]
        have e0:(⟨List.map a.eval args.toList⟩:Array Value)=args.map a.eval:=by apply Array.ext';simp
        rw[e0]
        simp[execOp,resolve,invoke,Deferred.ofValue,Act.eval]
       ·cases hc
     ·cases hc
    all_goals
     split at hc
     ·simp only[ar]at hc;subst hc;simp[iH.qh]at hn
     ·cases hc
end
abbrev FE(lb:Option Nat):Fence:={Fence.wide with round:=lb}
def JP(R:Value->World->Prop):Ending->World->Prop
 |.returned x,w=>R x w
 |_,_=>False
def Pn(P:Program)(y:Bool)(G:Value)(xs:Array Value)(w:World)(R:Value->World->Prop):Prop:=
 (∃d,(Deferred.ofValue G xs).run P w=.ok d w/\
  ((y=false/\∃f args,(invoke d.target d.args).run P w=.ok (.enter f args) w/\CallsIn Fence.wide 0 P f args w (JP R))\/
     (y=true/\∃l f tmps gY gZ,(invoke d.target d.args).run P w=.ok (.round l f tmps gY gZ) w/\RoundIn Fence.wide 0 P l f tmps gY gZ w (JP R))))
def kK(P:Program)(call:cQ):Prop:=
 ∀(g:V) (args:List V) (st:St) (v:V) (aB:St),call g args st=some (v,aB)->∀(μ:Mu) (w:World) (G:Value) (xs:List Value),bq P μ w st->VR μ g G->aV μ args xs->
  Pn P g.Io G ⟨xs⟩ w fun x w'=>∃μ' ws,VR μ' v x/\bN P μ w st μ' w' aB ws
def rG(μ:Mu):List Nat->List Deferred->Prop
 |[],ds=>ds=[]
 |m::ms,ds=>∃l GS,μ m=some l/\ds={target:=.collected l.b,args:=#[]}::GS/\rG μ ms GS
def rG.mono{μ μ':Mu}(h:∀i l,μ i=some l->μ' i=some l):∀{ms:List Nat} {ds:List Deferred},rG μ ms ds->rG μ' ms ds
 |[],_,hd=>hd
 |_::_,_,⟨l,GS,h1,h2,h3⟩=>⟨l,GS,h _ _ h1,h2,rG.mono h h3⟩
def oG(μ:Mu)(fr:Fr)(a:Act):Prop:=RR μ fr.r fr.n a.tmps/\rG μ fr.marks a.defers
def oG.mono{μ μ':Mu}(h:∀i l,μ i=some l->μ' i=some l){fr:Fr}{a:Act}(hf:oG μ fr a):oG μ' fr a:=⟨hf.1.mono h,hf.2.mono h⟩
section
variable {P:Program} {μ:Mu} {w:World} {st aB:St} {fr bK:Fr} {a:Act} {call:cQ} {v:V} {lb:Option Nat}
def bN.mono(hh:bq P μ w st)(h:bN P μ w st μ' w' aB ws):∀i l,μ i=some l->μ' i=some l:=bq.I5 hh h.ext
def oG.put(hf:oG μ fr a){d:Option Nat}{x:Value}(hv:VR μ v x)(h:fr.put d v=some bK):oG μ bK (a.put d x):=by
 cases d with
 |none=> simp only[Fr.put,ar]at h;subst h;exact hf
 |some d=>
  simp only[Fr.put]at h;split at h
  ·rename_i hd;simp only[ar]at h;subst h;exact⟨hf.1.set hd hv,hf.2⟩
  cases h
def Yrk(cA:kK P call)(hE:vS P)(hh:bq P μ w st)(hf:oG μ fr a)(h:cH (BI P o.op) call fr.r st=some (v,aB)){K:Act->World->Prop}
  (hK:∀x w' μ' ws,VR μ' v x->bN P μ w st μ' w' aB ws->K (a.put o.dst x) w'):o.wpIn (FE lb) 0 P a w K Q:=by
 refine⟨fun _ _=>trivial,?_⟩;have hnd:∀c,o.op≠.defer c:=by intro c hc;rw[hc]at h;simp only[BI,Mb,Option.getD_none]at h;cases h
 show o.uponIn (FE lb) 0 P a K Q ((o.semAt lb a.eval).run P w);rw[Oper.semAt_eq _ _ _ hnd];cases hc:Mb P o.op with
 |none=> simp only[BI,hc,Option.getD_none]at h;cases h
 |some m=>
  simp only[BI,hc,iL]at h;by_cases hn:m.qh=true
  ·-- a call
   obtain⟨dst,op,ty,pos,af,g⟩:=o;cases m<;>simp only[iH.qh,iE]at hn;rename_i sf ss;have P0:∃c f,op=.call c/\c.callee=.value f/\bJ P f=some sf/\xp P c.args.toList=some ss:=by
    cases op<;>simp only[Mb]at hc<;>try (cases hc;done)
    case call c=>
     obtain⟨callee,args,ats⟩:=c
     cases callee with
     |invoke r' nm=>simp only[Gn,reduceCtorEq]at hc
     |builtin b=>
      exfalso
      simp only[Gn]at hc
      repeat' split at hc
      all_goals first|(cases hc;done)|(simp at hc;done)
     |value f=>
      simp only[Gn]at hc
      split at hc
      ·cases hc
      ·rename_i ss' Ho
       refine⟨_,f,rfl,rfl,?_⟩
       cases f<;>simp only at hc
       case func gid=>
        split at hc
        ·split at hc
         ·simp only[ar,iH.call.injEq]at hc
          obtain⟨rfl,rfl⟩:=hc
          exact⟨rfl,Ho⟩
         ·split at hc
          ·simp at hc
          ·cases hc
        ·cases hc
       all_goals
        split at hc
        ·rename_i h1
         simp only[ar,iH.call.injEq]at hc
         obtain⟨rfl,rfl⟩:=hc
         exact⟨h1,Ho⟩
        ·cases hc
    all_goals
     exfalso
     repeat' split at hc
     all_goals first|(cases hc;done)|contradiction|(simp at hc;done)|(rw[Mh]at hc;simp at hc;done)
   obtain⟨c,f,rfl,zaz,h1,h2⟩:=P0;have h':AQ sf ss call fr.r st=some (v,aB):=h;unfold AQ at h';split at h'
   ·rename_i gv l hg hl;have hG:=dt hh hf.1 h1 hg;have hX:=Ja hh hf.1 h2 hl;obtain⟨d,hd,jh⟩:=cA _ _ _ _ _ h' μ w _ _ hh hG hX;have e0:(⟨List.map a.eval c.args.toList⟩:Array Value)=c.args.map a.eval:=by apply Array.ext';simp
    rw[e0]at hd;have vF:(resolve a.eval c ty).run P w=.ok d w:=by simp only[resolve,zaz];exact hd
    rcases jh with⟨_,g',args,hinv,JL⟩|⟨_,l',g',tmps,gY,gZ,hinv,MH⟩
    ·have bY:(execOp a.eval ⟨dst,.call c,ty,pos,af,g⟩).run P w=.ok (.enter g' args) w:=by simp only[execOp,Sem.run_bind,vF,Result.andThen_ok,hinv]
     rw[bY,Oper.uponIn_enter];refine⟨fun hx=>by simp[Fence.wide]at hx,?_⟩;refine CallsIn.mono (F:=Fence.wide) JL fun e w' he=>?_;cases e with
     |returned x=> obtain⟨μ',ws,q1,q2⟩:=he;exact hK x w' μ' ws q1 q2
     |panicked _=>exact he.elim
     |outgrown=>exact he.elim
    have bY:(execOp a.eval ⟨dst,.call c,ty,pos,af,g⟩).run P w=.ok (.round l' g' tmps gY gZ) w:=by simp only[execOp,Sem.run_bind,vF,Result.andThen_ok,hinv]
    rw[bY,Oper.uponIn_round];refine⟨fun hx=>by simp[Fence.wide]at hx,?_⟩;refine RoundIn.mono (F:=Fence.wide) MH fun e w' he=>?_;cases e with
    |returned x=> obtain⟨μ',ws,q1,q2⟩:=he;exact hK x w' μ' ws q1 q2
    |panicked _=>exact he.elim
    |outgrown=>exact he.elim
   cases h'
  obtain⟨nx,x,w',μ',ws,k1,k2,k3,k4⟩:=Ywe hh hf.1 hE hc (by simpa using hn) h;rw[k1];rcases k2 with rfl|⟨rfl,rfl⟩
  ·rw[Oper.uponIn_value];exact hK x w' μ' ws k3 k4
  rw[Oper.uponIn_skip];exact hK undef w' μ' ws k3 k4
def Zq1{ops:Array Oper}{g:Option (Nat×Bool)}(hr:RR μ fr.r fr.n a.tmps)(hg:I4 ops o.guard=some g){b:Bool}(h:cf fr.r g=some b):Region.wanted o (yielded ops a.tmps)=b:=by
 unfold Region.wanted;cases ho:o.guard with
 |none=> rw[ho]at hg;simp only[I4,ar]at hg;subst hg;simp only[cf,ar]at h;exact h
 |some p=>
  obtain⟨j,want⟩:=p;rw[ho]at hg;simp only[I4]at hg;split at hg
  ·rename_i t ht;simp only[ar]at hg;subst hg;simp only[cf]at h;split at h
   ·rename_i b' hb;simp only[ar]at h;subst h;obtain⟨x,hx,hv⟩:=hr.2 _ _ hb;simp only[VR]at hv;subst hv;simp[yielded,ht,hx]
   ·rename_i l hb;simp only[ar]at h;subst h;obtain⟨x,hx,y,hv,_⟩:=hr.2 _ _ hb;subst hv;simp[yielded,ht,hx]
   cases h
  cases hg
end
def MK:Ex->Exit
 |.normal=>.normal
 |.exit id=>.exit id
 |.ret=>.ret
def MS(μ:Mu):Option Nat->Option Nat->Prop
 |none,none=>True
 |some l,some b=>∃L,μ l=some L/\L.b=b
 |_,_=>False
def MS.mono{μ:Mu}(h:∀i l,μ i=some l->μ' i=some l){ro lb:Option Nat}(hr:MS μ ro lb):MS μ' ro lb:=by cases ro<;>cases lb<;>simp only[MS]at*;obtain⟨L,h1,h2⟩:=hr;exact⟨L,h _ _ h1,h2⟩
def xK(P:Program)(μ:Mu)(w:World)(st:St)(ex:Ex)(bK:Fr)(aB:St):Exit->Act->World->Prop:=fun e a' w'=>
 e=MK ex/\∃μ' ws,bN P μ w st μ' w' aB ws/\oG μ' bK a'
section
variable {P:Program} {μ:Mu} {w:World} {st aB:St} {fr bK:Fr} {a:Act} {call:cQ} {v:V} {lb:Option Nat}
def Yr2(cA:kK P call)(hE:vS P){ops:Array Oper}:∀(is:List Nat) (os:List Oper),is.map (fun i=>ops[i]?)=os.map some->
  ∀{st:St} {fr:Fr} {a:Act} {w:World} {μ:Mu},bq P μ w st->oG μ fr a->dZ call (os.map (tu P ops)) fr st=some (bK,aB)->
   (∀a' w' μ' ws,oG μ' bK a'->bN P μ w st μ' w' aB ws->Q .normal a' w')->wpOpsIn (FE lb) 0 P ops Q is a w:=by
 intro is;induction is with
 |nil=>
  intro os BK st fr a w μ hh hf h hQ;cases os with
  |cons o os=>simp at BK
  |nil=> simp only[yY,dZ,Yon,ar,bB]at h;obtain⟨rfl,rfl⟩:=h;exact hQ a w μ [] hf (bN.refl hh)
 |cons i is ih=>
  intro os BK st fr a w μ hh hf h hQ;cases os with
  |nil=>simp at BK
  |cons o os=>
   simp only[pU,jW]at BK;obtain⟨hoi,BK⟩:=BK;simp only[pU,dZ,Dm]at h;unfold wpOpsIn;rw[hoi];simp only[];have go:∀(v:V) (cg:St) (eN:Fr) (x:Value) (w1:World) (μ1:Mu) (ws:List Nat),VR μ1 v x->bN P μ w st μ1 w1 cg ws->fr.put o.dst v=some eN->dZ call (os.map (tu P ops)) eN cg=some (bK,aB)->
     wpOpsIn (FE lb) 0 P ops Q is (a.put o.dst x) w1:=by
    intro v cg eN x w1 μ1 ws hv hs hp hm
    refine ih os BK hs.hr ((hf.mono (hs.mono hh)).put hv hp) hm fun a' w' μ' TN IG kj=>?_
    exact hQ a' w' μ' _ IG (hs.trans kj)
   unfold tu at h;cases hg:I4 ops o.guard with
   |none=> rw[hg]at h;simp only[cf,cH,Zxc]at h;cases h
   |some g=>
    rw[hg]at h;simp only at h;cases hw:cf fr.r g with
    |none=>rw[hw]at h;cases h
    |some b=>
     rw[hw]at h;have zd:=Zq1 hf.1 hg hw;cases b with
     |true=>
      rw[av zd];simp only at h;split at h
      ·rename_i v1 cg hm;split at h
       ·rename_i eN hp;exact Yrk cA hE hh hf hm fun x w' μ' ws q1 q2=>go v1 cg eN x w' μ' ws q1 q2 hp h
       cases h
      cases h
     |false=>
      rw[ak (by rw[zd];simp)];simp only at h;split at h
      ·rename_i eN hp;exact⟨fun _ _=>trivial,go (.aU []) st eN undef w μ [] ⟨[],rfl,by simp[aV]⟩ (bN.refl hh) hp h⟩
      cases h
def Yf7{ops:Array Oper}:(List.range ops.size).map (fun i=>ops[i]?)=ops.toList.map some:=by
 apply pM;intro i;simp only[eH];by_cases h:i<ops.size
 ·simp[h]
 simp[h]
def Zqq{F:Fence}{n:Nat}{c:Code}(J:Nat->Act->World->Prop)
  (round:∀f a w,J f a w->c.wpIn F n P (Exit.then (fun a' w'=>∃f',f'<f/\J f' a' w') Q) a w) {f:Nat} (h₀:J f a w):(Code.loop c).wpIn F n P Q a w:=by
 intro b k cs rf hb hr;have key:∀j a w,J j a w->
   ∃e a' w',Q e a' w'/\ArrivesIn (Machine.fenced P F) P (lone (b.atR a (.code c::.inLoop c::k)) cs w) b k cs e a' w':=by
  intro j
  induction j using Nat.strongRecOn with
  |_ j ih=>
   intro a w hI
   obtain⟨e,a₁,w₁,hq,kp⟩:=round j a w hI b (.inLoop c::k) cs rf hb hr
   cases e with
   |normal=>
    obtain⟨f',aD,hI₁⟩:=hq
    obtain⟨e₂,a₂,w₂,hq₂,Qd⟩:=ih f' aD a₁ w₁ hI₁
    exact⟨e₂,a₂,w₂,hq₂,.of_steps (StepsIn.trans kp (.one (fenced_calm hb hr rfl) stepR_inLoop)) Qd⟩
   |exit id=>exact⟨_,a₁,w₁,hq,.pass (x:=.inLoop c) rfl (fun _ _=>.inl (by simp)) kp⟩
   |goto l=>exact⟨_,a₁,w₁,hq,.pass (x:=.inLoop c) rfl (fun _ _=>.inl (by simp)) kp⟩
   |ret=>exact⟨_,a₁,w₁,hq,.pass (x:=.inLoop c) rfl (fun _ _=>.inl (by simp)) kp⟩
   |panic ch=>exact⟨_,a₁,w₁,hq,.pass (x:=.inLoop c) rfl (fun _ _=>.inl (by simp)) kp⟩
   |outgrown=>exact⟨_,a₁,w₁,hq,.pass (x:=.inLoop c) rfl (fun _ _=>.inl (by simp)) kp⟩
 obtain⟨e,a',w',hq,kp⟩:=key _ a w h₀;exact⟨e,a',w',hq,.of_steps (.one (fenced_calm hb hr rfl) stepR_loop) kp⟩
def MT{c:Code}:
  step P (lone (b.atR a (.code (.scope c)::k)) cs w)=.next (lone (b.atR a (.code c::.inScope c::k)) cs w):=
 step_lone_go (by simp[stepG,stepG.exec,Frame.atR])
def Zsk{c:Code}:
  step P (lone (b.atR a (.inScope c::k)) cs w)=.next (lone (b.atR a k) cs w):=
 step_lone_go (by simp[stepG,stepG.exec,Frame.atR])
def Ybx{F:Fence}{n:Nat}{c:Code}(h:c.wpIn F n P Q a w)(hq:∀l a w,¬Q (.goto l) a w):(Code.scope c).wpIn F n P Q a w:=by
 intro b k cs rf hb hr;have h0:(lone (b.atR a (.code (.scope c)::k)) cs w).fenced P F:=fenced_calm hb hr rfl;obtain⟨e,a₁,w₁,hQ,kp⟩:=h b (.inScope c::k) cs rf hb hr;cases e with
 |normal=>exact⟨.normal,a₁,w₁,hQ,.head h0 MT (StepsIn.trans kp (.one (fenced_calm hb hr rfl) Zsk))⟩
 |exit id=>
  have hx:exitTo id (.inScope c::k)=exitTo id k:=by simp[exitTo]
  exact⟨.exit id,a₁,w₁,hQ,fun k' hk=>.head h0 MT (kp.1 k' (by rw[hx];exact hk)),
   fun Fh hk=>let ⟨k₁,h1,h2⟩:=kp.2 Fh (by rw[hx];exact hk);⟨k₁,h1,.head h0 MT h2⟩⟩
 |goto l=>exact absurd hQ (hq l a₁ w₁)
 |ret=>exact⟨_,a₁,w₁,hQ,.of_steps (.one h0 MT) kp⟩
 |panic ch=>exact⟨_,a₁,w₁,hQ,.of_steps (.one h0 MT) kp⟩
 |outgrown=>exact⟨_,a₁,w₁,hQ,.of_steps (.one h0 MT) kp⟩
def xK.after{cg:St}(hs:bN P μ w st μ1 w1 cg ws){ex:Ex}{e:Exit}{a':Act}(h:xK P μ1 w1 cg ex bK aB e a' w'):xK P μ w st ex bK aB e a' w':=by obtain⟨h1,μ',TN,h2,h3⟩:=h;exact⟨h1,μ',_,hs.trans h2,h3⟩
def xK.then{μ:Mu}{ex:Ex}{eN:Fr}{cg:St}{K:Act->World->Prop}{Q:Exit->Act->World->Prop}{e:Exit}{a':Act}{w':World}(h:xK P μ w st ex eN cg e a' w')
  (hn:ex=.normal->K a' w') (hq:ex≠.normal->Q e a' w'):Exit.then K Q e a' w':=by
 obtain⟨rfl,h⟩:=h;cases ex<;>simp only[MK,Exit.then]
 ·exact hn rfl
 ·exact hq (by simp)
 exact hq (by simp)
def MJ(P:Program)(code:rY):Prop:=
 ∀(ro:Option Nat) (c:Code) (fr:Fr) (st:St) (ex:Ex) (bK:Fr) (aB:St),code ro (jH P c) fr st=some (ex,bK,aB)->
  ∀(μ:Mu) (w:World) (a:Act) (lb:Option Nat),bq P μ w st->oG μ fr a->MS μ ro lb->c.wpIn (FE lb) 0 P (xK P μ w st ex bK aB) a w
def Ypo(P:Program)(call:cQ):Prop:=
 ∀(id:Nat) (ops:Array Oper) (fr:Fr) (st:St) (ex:Ex) (bK:Fr) (aB:St),Yq5 P ops=true->BS (ops.toList.map (tu P ops)) (xu ops.toList []) call T2 none fr st=some (ex,bK,aB)->
  ∀(μ:Mu) (w:World) (a:Act) (lb:Option Nat),bq P μ w st->oG μ fr a->(Code.region id ops true).wpIn (FE lb) 0 P (xK P μ w st ex bK aB) a w
def Yx9(P:Program)(call:cQ):Prop:=
 ∀(id:Nat) (ops:Array Oper) (o:Oper) (rest:List Oper) (d:Option Nat) (ch:Src) (s:Option Src) (z:V) (fr:Fr) (st:St) (ex:Ex) (bK:Fr) (aB:St),ops.toList=o::rest->Xav P o=some (d,ch,s,z)->
  Dr d ch s z (rest.map (tu P ops)) call T2 none fr st=some (ex,bK,aB)->
  ∀(μ:Mu) (w:World) (a:Act) (lb:Option Nat),bq P μ w st->oG μ fr a->(Code.region id ops false).wpIn (FE lb) 0 P (xK P μ w st ex bK aB) a w
def Yjo(P:Program)(call:cQ):Prop:=
 ∀(ro:Option Nat) (g:Operand) (s:Src) (ps:Array Nat) (gY gZ:Code) (fr:Fr) (st:St) (ex:Ex) (bK:Fr) (aB:St),bJ P g=some s->
  Bb s ps.toList (jH P gY) (jH P gZ) call T2 ro fr st=some (ex,bK,aB)->
  ∀(μ:Mu) (w:World) (a:Act) (lb:Option Nat),bq P μ w st->oG μ fr a->MS μ ro lb->(Code.rangeFunc g ps gY gZ).wpIn (FE lb) 0 P (xK P μ w st ex bK aB) a w
def Yi2(cA:kK P call)(hE:vS P)(hD:Ypo P call)(hS:Yx9 P call)(hR:Yjo P call):∀fuel,MJ P (eJ call fuel):=by
 intro fuel;induction fuel using Nat.strongRecOn with
 |_ fuel ihs=>
 cases fuel with
 |zero=>intro ro c fr st ex bK aB h;cases h
 |succ f=>
  have ih:MJ P (eJ call f):=ihs f (xx f);intro ro c fr st ex bK aB h μ w a lb hh hf rf;cases c with
  |skip=> simp only[jH,eJ,oE,Yi7,ar,bB]at h;obtain⟨rfl,rfl,rfl⟩:=h;exact wpIn_skip ⟨rfl,μ,[],bN.refl hh,hf⟩
  |label l=> simp only[jH,eJ,oE,Yi7,ar,bB]at h;obtain⟨rfl,rfl,rfl⟩:=h;exact wpIn_label ⟨rfl,μ,[],bN.refl hh,hf⟩
  |exit id=> simp only[jH,eJ,oE,Ypg,ar,bB]at h;obtain⟨rfl,rfl,rfl⟩:=h;exact wpIn_exit ⟨rfl,μ,[],bN.refl hh,hf⟩
  |ret=> simp only[jH,eJ,oE,Yx0,ar,bB]at h;obtain⟨rfl,rfl,rfl⟩:=h;exact wpIn_ret ⟨rfl,μ,[],bN.refl hh,hf⟩
  |goto l=>simp only[jH,eJ,oE,My]at h;cases h
  |refuse why=>simp only[jH,eJ,oE,My]at h;cases h
  |region id ops draw=>
   cases draw with
   |true=>
    simp only[jH]at h;split at h
    ·rename_i hp;simp only[eJ,oE]at h;exact hD id ops fr st ex bK aB hp h μ w a lb hh hf
    simp only[eJ,oE,My]at h;cases h
   |false=>
    have plain:BR (ops.toList.map (tu P ops)) call (eJ call f) ro fr st=some (ex,bK,aB)->(Code.region id ops false).wpIn (FE lb) 0 P (xK P μ w st ex bK aB) a w:=by
     intro h;simp only[BR]at h;split at h
     ·rename_i eN cg hm;simp only[ar,bB]at h;obtain⟨rfl,rfl,rfl⟩:=h;exact wpIn_region (Yr2 cA hE _ _ Yf7 hh hf hm fun a' w' μ' ws q1 q2=>⟨rfl,μ',ws,q2,q1⟩)
     cases h
    simp only[jH,eJ]at h;split at h
    ·rename_i ho;exact plain (by rw[ho];exact h)
    rename_i o rest ho;split at h
    ·rename_i d ch s z hs;exact hS id ops o rest d ch s z fr st ex bK aB ho hs h μ w a lb hh hf
    exact plain (by rw[ho];exact h)
  |seq x y=>
   simp only[jH,eJ,oE,Ds]at h;refine wpIn_seq ?_;split at h
   ·rename_i eN cg hx;refine wpIn_mono (ih ro x fr st _ _ _ hx μ w a lb hh hf rf) fun e a' w' hp=>?_;have uZ:=hp;obtain⟨he,μ1,ws,hs,B8⟩:=hp;refine uZ.then (fun _=>?_) (fun aX=>absurd rfl aX);exact wpIn_mono (ih ro y eN cg ex bK aB h μ1 w' a' lb hs.hr B8 (rf.mono (hs.mono hh))) fun e2 a2 w2 AU=>AU.after hs
   rename_i hx;refine wpIn_mono (ih ro x fr st _ _ _ h μ w a lb hh hf rf) fun e a' w' hp=>?_;refine hp.then (fun hn=>?_) (fun _=>hp);subst hn;exact absurd h (hx bK aB)
  |cond x p q=>
   simp only[jH]at h;split at h
   ·rename_i s hs;simp only[eJ,oE,Ah]at h;split at h
    ·rename_i hv;have:=dt hh hf.1 hs hv;exact wpIn_cond_true (by simpa[VR]using this) (ih ro p fr st ex bK aB h μ w a lb hh hf rf)
    ·rename_i hv;have:=dt hh hf.1 hs hv;exact wpIn_cond_false (by simpa[VR]using this) (ih ro q fr st ex bK aB h μ w a lb hh hf rf)
    cases h
   simp only[eJ,oE,My]at h;cases h
  |block id c=>
   simp only[jH,eJ,oE,Dt]at h;refine wpIn_block ?_;split at h
   ·rename_i Du eN cg hx;refine wpIn_mono (ih ro c fr st _ _ _ hx μ w a lb hh hf rf) fun e a' w' hp=>?_;obtain⟨rfl,hp⟩:=hp;simp only[MK,Exit.inBlock];split at h
    ·rename_i hid;simp only[ar,bB]at h;obtain⟨rfl,rfl,rfl⟩:=h;rw[av (TT hid)];exact⟨rfl,hp⟩
    rename_i hid;simp only[ar,bB]at h;obtain⟨rfl,rfl,rfl⟩:=h;rw[ak (Nat.ne_of_beq_eq_false hid)];exact⟨rfl,hp⟩
   rename_i hx;refine wpIn_mono (ih ro c fr st _ _ _ h μ w a lb hh hf rf) fun e a' w' hp=>?_;have uZ:=hp;obtain⟨rfl,hp⟩:=hp;cases ex with
   |normal=>exact uZ
   |ret=>exact uZ
   |exit Du=>exact absurd h (hx Du bK aB)
  |loop c=>
   refine Zqq (fun k a1 w1=>k<=f+1/\∃eN cg μ1 ws,bN P μ w st μ1 w1 cg ws/\oG μ1 eN a1/\eJ call k ro (.loop (jH P c)) eN cg=some (ex,bK,aB)) ?_
    (f:=f+1) ⟨aN _,fr,st,μ,[],bN.refl hh,hf,h⟩;intro k a1 w1 hJ;obtain⟨hk,eN,cg,μ1,ws,hs,B8,hm⟩:=hJ;cases k with
   |zero=>cases hm
   |succ k=>
    simp only[eJ,oE,Dv]at hm;have ihk:MJ P (eJ call k):=ihs k (by omega);split at hm
    ·rename_i Bc fz hx;refine wpIn_mono (ihk ro c eN cg _ _ _ hx μ1 w1 a1 lb hs.hr B8 (rf.mono (hs.mono hh))) fun e a' w' hp=>?_;have uZ:=hp;obtain⟨he,μ2,ws2,p_,eI⟩:=hp;refine uZ.then (fun _=>?_) (fun aX=>absurd rfl aX);exact⟨k,xx k,by omega,Bc,fz,μ2,_,hs.trans p_,eI,hm⟩
    rename_i hx;refine wpIn_mono (ihk ro c eN cg _ _ _ hm μ1 w1 a1 lb hs.hr B8 (rf.mono (hs.mono hh))) fun e a' w' hp=>?_;refine hp.then (fun hn=>?_) (fun _=>hp.after hs);subst hn;exact absurd hm (hx bK aB)
  |scope c=> simp only[jH,eJ,oE,Yi8]at h;refine Ybx (ih ro c fr st ex bK aB h μ w a lb hh hf rf) fun l a' w' hp=>?_;obtain⟨he,_⟩:=hp;cases ex<;>simp[MK]at he
  |rangeFunc g ps gY gZ=>
   simp only[jH]at h;split at h
   ·rename_i s hs;simp only[eJ,oE]at h;exact hR ro g s ps gY gZ fr st ex bK aB hs h μ w a lb hh hf rf
   simp only[eJ,oE,My]at h;cases h
end
end Go.Mx
