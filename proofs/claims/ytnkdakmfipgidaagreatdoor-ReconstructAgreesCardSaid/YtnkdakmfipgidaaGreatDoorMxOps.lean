/-Every operation of M that calls no funct-/
import Derived.Test.YtnkdakmfipgidaaGreatDoorMxOp10
import Derived.RangeFuncRecord
import Derived.OrdersIn
set_option linter.all false
namespace Go.Mx
open Go
section
variable {P:Program} {μ:Mu} {w:World} {st aA:St} {r:T V} {n:Nat} {a:Act} {call:cM} {v:V}
def iA.pK:iA->Bool
 |.call _ _=>true
 |_=>false
def Mp{α:Type}{a:Array α}{x:α}(h:a.toList=[x]):a=#[x]:=by apply Array.ext';simpa using h
def Pv{α:Type}{a:Array α}{x y:α}(h:a.toList=[x,y]):a=#[x,y]:=by apply Array.ext';simpa using h
def Zx8(hh:bn P μ w st)(hr:RR μ r n a.tmps){b:Builtin}{ts:Array TypeId}{xs:Array Operand}{ty:TypeId}{cs:Array Bool}{m:iA}(hc:Gh P ⟨.builtin b,xs,ts⟩=some m)
  (h:cC m call r st=some (v,aA)):a_ P μ w st (builtin b ts ty cs (xs.map a.eval)) v aA:=by
 simp only[Gh]at hc;split at hc
 ·rename_i t x ht hx;have e1:=Mp ht;have e2:=Mp hx;subst e1 e2;simp only[builtin,LH,nI,vF];split at hc
  ·rename_i s hu hs;simp only[aq]at hc;subst hc;exact Ycg (call:=call) hh hr hu hs h
  ·rename_i e s hu hs;simp only[aq]at hc;subst hc;exact Zus (call:=call) hh hr hu hs h
  ·rename_i k e s hu hs;simp only[aq]at hc;subst hc;exact Ych (call:=call) hh hr hu hs h
  cases hc
 ·rename_i t x ht hx;have e1:=Mp ht;have e2:=Mp hx;subst e1 e2;simp only[builtin,LH,nI,vF];split at hc
  ·rename_i e s hu hs;simp only[aq]at hc;subst hc;exact Yws (call:=call) hh hr hu hs h
  cases hc
 ·split at hc
  ·rename_i l hl;simp only[aq]at hc;subst hc;exact Yys (call:=call) hh hr hl h
  cases hc
 ·split at hc
  ·rename_i l hl;simp only[aq]at hc;subst hc;exact Yyq (call:=call) hh hr hl h
  cases hc
 ·rename_i t u s x ht hx;have e1:=Pv ht;have e2:=Pv hx;subst e1 e2;simp only[builtin,LH,nI,vF];split at hc
  ·rename_i e hu;split at hc
   ·rename_i n' b' z s' x' d hs hb hz iY mq hd;rw[LG]at hc;obtain⟨c_,hc⟩:=hc;simp only[not_or,Decidable.not_not]at c_;obtain⟨c1,c2,c3,c4⟩:=c_;simp only[aq]at hc;subst hc;have c4':z.cells.all V.one=true:=by simpa using c4
    exact Yiw (call:=call) hh hr (by rfl) hu (by rfl) hd (fun k hk=>by subst hk;simp at c1) hs hb hz c3 c4' c2 iY mq h
   cases hc
  cases hc
 ·rename_i t ts' d s ht hx;have e2:=Pv hx;subst e2;simp only[builtin,LH,nI,vF];split at hc
  ·rename_i e hu;split at hc
   ·rename_i n' d' s' hs hd iY;simp only[aq]at hc;subst hc;exact Ys0 (call:=call) hh hr (by rw[<-Em,ht];rfl) hu hs hd iY h
   cases hc
  cases hc
 ·rename_i t s ht hx;have e1:=Mp ht;have e2:=Mp hx;subst e1 e2;simp only[builtin,LH,nI,vF];simp only[ks]at hc;obtain⟨s',hs,rfl⟩:=hc;exact Yj3 (call:=call) hh hr hs h
 ·rename_i t u x y ht hx;have e1:=Pv ht;have e2:=Pv hx;subst e1 e2;simp only[builtin,LH,nI,vF];split at hc
  ·rename_i e hu;split at hc
   ·rename_i s q hs hx hy;simp only[aq]at hc;subst hc;exact Ypk (call:=call) hh hr hu hs hx hy h
   cases hc
  cases hc
 cases hc
def Yu8(hh:bn P μ w st)(hr:RR μ r n a.tmps)(hE:vn P){o:Oper}{m:iA}(hc:LA P o.op=some m)(hn:m.pK=false)(h:cC m call r st=some (v,aA)):
  a_ P μ w st (execOp a.eval o) v aA:=by
 obtain⟨dst,op,ty,pos,af,g⟩:=o;cases op<;>simp only[LA]at hc<;>try (cases hc;done)
 case move x=>simp only[ks]at hc;obtain⟨s,h1,rfl⟩:=hc;exact Yoc (call:=call) hh hr h1 h
 case assign x=>simp only[ks]at hc;obtain⟨s,h1,rfl⟩:=hc;exact Yoc (call:=call) hh hr h1 h
 case pick c x y=>
  split at hc
  ·rename_i h1 h2 h3
   simp only[aq]at hc;subst hc
   exact Yqp (call:=call) hh hr h1 h2 h3 h
  ·cases hc
 case alloc e=>
  split at hc
  ·rename_i z hz
   split at hc
   ·rename_i cO
    simp only[aq]at hc;subst hc
    exact Yne (call:=call) (r:=r) hh hz cO h
   ·cases hc
  ·cases hc
 case box e x=>simp only[ks]at hc;obtain⟨s,h1,rfl⟩:=hc;exact Ywu (call:=call) hh hr h1 h
 case build t parts=>
  split at hc
  ·cases hc
  ·rename_i z hz
   split at hc
   ·rename_i fs xw
    split at hc
    ·rename_i pl jA
     simp only[ks]at hc
     obtain⟨vP,h1,rfl⟩:=hc
     exact Zp5 (call:=call) hh hr hz xw jA h1 h
    ·cases hc
   ·rename_i k e hu
    split at hc
    ·rename_i s hs
     simp only[ks]at hc
     obtain⟨vP,h1,rfl⟩:=hc
     exact Zql (call:=call) hh hr hz hu hs h1 h
    ·cases hc
   ·cases hc
 case buildSlice t len parts=>
  split at hc
  ·rename_i e hu
   split at hc
   ·rename_i s z hs hz
    split at hc
    ·cases hc
    ·rename_i c_
     simp only[not_or,Decidable.not_not]at c_
     simp only[ks]at hc
     obtain⟨vP,h1,rfl⟩:=hc
     exact Yir (call:=call) hh hr hu hs hz c_.1 c_.2.1 h1 h
   ·cases hc
  ·cases hc
 case load t x=>
  split at hc
  ·rename_i h1 h2
   simp only[aq]at hc;subst hc
   exact Yrq (call:=call) hh hr h1 h2 h
  ·cases hc
 case store t x y=>
  split at hc
  ·rename_i h1 h2 h3
   simp only[aq]at hc;subst hc
   exact Yju (call:=call) hh hr h1 h2 h3 h
  ·cases hc
 case nilCheck x=>simp only[ks]at hc;obtain⟨s,h1,rfl⟩:=hc;exact Yk0 (call:=call) hh hr h1 h
 case binOp op t x y p=>
  split at hc
  ·rename_i s u h1 h2
   have fin:∀q ng,Yt7 P op t x y q ng->m=.bin op q ng s u->a_ P μ w st (execOp a.eval ⟨dst,.binOp op t x y p,ty,pos,af,g⟩) v aA:=by
    intro q ng hq hm
    subst hm
    exact Ywx (call:=call) hh hr h1 h2 hq h
   cases op
   case eql=>
    simp only at hc
    split at hc
    ·rename_i q hq
     rw[LG]at hc
     obtain⟨c_,hc⟩:=hc
     simp only[aq]at hc
     exact fin _ _ (fun _=>⟨hq,by rw[Bool.not_eq_true]at c_;exact c_,rfl⟩) hc.symm
    ·cases hc
   case neq=>
    simp only at hc
    split at hc
    ·rename_i q hq
     rw[LG]at hc
     obtain⟨c_,hc⟩:=hc
     simp only[aq]at hc
     exact fin _ _ (fun _=>⟨hq,by rw[Bool.not_eq_true]at c_;exact c_,rfl⟩) hc.symm
    ·cases hc
   all_goals
    simp only[aq]at hc
    exact fin _ _ (fun hq=>by rcases hq with hq|hq<;>cases hq) hc.symm
  ·cases hc
 case unOp op t x=>simp only[ks]at hc;obtain⟨s,h1,rfl⟩:=hc;exact Yxo (call:=call) hh hr h1 h
 case convert src dst' x=>
  split at hc
  ·cases hc
  ·rename_i s h1
   split at hc
   ·rename_i q k hq hk
    simp only[aq]at hc;subst hc
    exact Yde (call:=call) hh hr ⟨_,hq⟩ hk h1 h
   ·rename_i e hq hk
    split at hc
    ·rename_i he
     simp only[aq]at hc;subst hc
     exact Zv8 (call:=call) hh hr hq hk he h1 h
    ·cases hc
   ·rename_i e hq hk
    split at hc
    ·rename_i he
     simp only[aq]at hc;subst hc
     exact Zx7 (call:=call) hh hr hq hk he h1 h
    ·cases hc
   ·rename_i t hq hk
    split at hc
    ·rename_i z hz
     simp only[aq]at hc;subst hc
     exact Yd4 (call:=call) hh hr hq hk hz h1 h
    ·cases hc
   ·rename_i u hq hk
    split at hc
    ·rename_i z hz
     simp only[aq]at hc;subst hc
     exact Zv1 (call:=call) hh hr hq hk hz h1 h
    ·cases hc
   ·cases hc
 case makeInterface t x=>
  split at hc
  ·cases hc
  ·rename_i d aW hd
   simp only[ks]at hc;obtain⟨s,h1,rfl⟩:=hc
   exact Yb8 (call:=call) hh hr hd (fun k hk=>aW k hk) h1 h
  ·cases hc
 case makeFunc f first iB=>
  cases f<;>simp only[reduceCtorEq]at hc
  split at hc
  ·rename_i h1 h2
   simp only[aq]at hc;subst hc
   exact Ygd (call:=call) hh hr h1 h2 h
  ·cases hc
 case makeMap t rsv=>
  cases rsv<;>simp only[reduceCtorEq]at hc
  simp only[aq]at hc;subst hc
  exact Ylb (call:=call) (r:=r) hh h
 case makeSlice t x y=>
  split at hc
  ·rename_i e hu
   split at hc
   ·rename_i hs hb hz hx hy
    split at hc
    ·rename_i cO
     simp only[aq]at hc;subst hc
     exact Yb7 (call:=call) hh hr hu hs hb hz cO hx hy h
    ·cases hc
   ·cases hc
  ·cases hc
 case slice t x lo hi mx=>
  split at hc
  ·rename_i hx gT iS dh
   split at hc
   ·rename_i hu
    split at hc
    ·cases hc
    ·rename_i Pw
     simp only[aq]at hc;subst hc
     have hm:mx=none:=by
      cases mx with
      |none=>rfl
      |some q=>
       simp only[vG]at dh
       split at dh
       ·simp only[aq]at dh
        subst dh;simp at Pw
       ·cases dh
     subst hm
     exact Zwa (call:=call) hh hr hu hx gT iS h
   ·rename_i e hu
    simp only[ks]at hc;obtain⟨s,h1,rfl⟩:=hc
    exact Ya8 (call:=call) hh hr hu h1 hx gT iS dh h
   ·rename_i k e hu
    simp only[ks]at hc;obtain⟨s,h1,rfl⟩:=hc
    exact Zwb (call:=call) hh hr hu h1 hx gT iS dh h
   ·cases hc
  ·cases hc
 case fieldAddr t x i=>
  split at hc
  ·rename_i hu hx
   split at hc
   ·rename_i f hf
    split at hc
    ·rename_i hk
     simp only[aq]at hc;subst hc
     exact Ymc (call:=call) hh hr hu hf hk hx h
    ·cases hc
   ·cases hc
  ·cases hc
 case indexAddr t x i=>
  split at hc
  ·rename_i hu hx hi
   simp only[ks]at hc;obtain⟨s,h1,rfl⟩:=hc
   exact Zxk (call:=call) hh hr hu h1 hx hi h
  ·rename_i hu hx hi
   simp only[ks]at hc;obtain⟨s,h1,rfl⟩:=hc
   exact Yc0 (call:=call) hh hr hu h1 hx hi h
  ·cases hc
 case index t x i=>
  split at hc
  ·rename_i hu hx hi
   simp only[aq]at hc;subst hc
   exact Yg8 (call:=call) hh hr hu hx hi h
  ·cases hc
 case lookup t x k ok=>
  split at hc
  ·rename_i hu hx hk
   split at hc
   ·rename_i h1 h2
    simp only[aq]at hc;subst hc
    exact Ygo (call:=call) hh hr hu h1 h2 hx hk h
   ·cases hc
  ·cases hc
 case mapUpdate t x k y=>
  split at hc
  ·rename_i hu hx hk hy
   simp only[ks]at hc;obtain⟨s,h1,rfl⟩:=hc
   exact Zuq (call:=call) hh hr hu h1 hx hk hy h
  ·cases hc
 case insert t x k y=>
  split at hc
  ·rename_i hu hx hk hy
   simp only[ks]at hc;obtain⟨s,h1,rfl⟩:=hc
   exact Zuq (call:=call) hh hr hu h1 hx hk hy h
  ·cases hc
 case range t x=>
  split at hc
  ·rename_i hu hx
   simp only[aq]at hc;subst hc
   exact Zwk (call:=call) hh hr hu hx h
  ·cases hc
 case next it isS=>
  cases isS<;>simp only[reduceCtorEq]at hc
  simp only[ks]at hc;obtain⟨s,h1,rfl⟩:=hc
  exact Ybu (call:=call) hh hr h1 h
 case extract x i=>simp only[ks]at hc;obtain⟨s,h1,rfl⟩:=hc;exact Yc3 (call:=call) hh hr h1 h
 case call c=>
  obtain⟨callee,args,ats⟩:=c
  cases callee with
  |invoke r' nm=>simp only[Gh,reduceCtorEq]at hc
  |builtin b=>
   have:=Zx8 (ty:=ty) (cs:=args.map fun|.const _=>true|_=>false) hh hr hc h
   obtain⟨nx,x,w',μ',ws,k1,k2⟩:=this
   refine⟨nx,x,w',μ',ws,?_,k2⟩
   rw[<-k1]
   simp[execOp,resolve,invoke]
   rfl
  |value f=>
   simp only[Gh]at hc
   split at hc
   ·cases hc
   ·rename_i ss G5
    cases f<;>simp only at hc
    case func gid=>
     split at hc
     ·rename_i fn CA
      split at hc
      ·simp only[aq]at hc;subst hc;simp[iA.pK]at hn
      ·rename_i hb
       split at hc
       ·rename_i e he
        simp only[aq]at hc;subst hc
        have:=Ywc (call:=call) hh hr hE CA (by simpa using hb) he G5 h
        obtain⟨nx,x,w',μ',ws,k1,k2⟩:=this
        refine⟨nx,x,w',μ',ws,?_,k2⟩
        rw[<-k1]
        have e0:(⟨List.map a.eval args.toList⟩:Array Value)=args.map a.eval:=by apply Array.ext';simp
        rw[e0]
        simp[execOp,resolve,invoke,Deferred.ofValue,Act.eval]
       ·cases hc
     ·cases hc
    all_goals
     split at hc
     ·simp only[aq]at hc;subst hc;simp[iA.pK]at hn
     ·cases hc
end
abbrev FE(lb:Option Nat):Fence:={Fence.wide with round:=lb}
def JC(R:Value->World->Prop):Ending->World->Prop
 |.returned x,w=>R x w
 |_,_=>False
def OF(P:Program)(y:Bool)(G:Value)(xs:Array Value)(w:World)(R:Value->World->Prop):Prop:=
 (∃d,(Deferred.ofValue G xs).run P w=.ok d w/\
  ((y=false/\∃f args,(invoke d.target d.args).run P w=.ok (.enter f args) w/\CallsIn Fence.wide 0 P f args w (JC R))\/
     (y=true/\∃l f tmps gK gO,(invoke d.target d.args).run P w=.ok (.round l f tmps gK gO) w/\RoundIn Fence.wide 0 P l f tmps gK gO w (JC R))))
def jZ(P:Program)(call:cM):Prop:=
 ∀(g:V) (args:List V) (st:St) (v:V) (aA:St),call g args st=some (v,aA)->∀(μ:Mu) (w:World) (G:Value) (xs:List Value),bn P μ w st->VR μ g G->aU μ args xs->
  OF P g.Io G ⟨xs⟩ w fun x w'=>∃μ' ws,VR μ' v x/\bI P μ w st μ' w' aA ws
def qJ(μ:Mu):List Nat->List Deferred->Prop
 |[],ds=>ds=[]
 |m::ms,ds=>∃l GL,μ m=some l/\ds={target:=.collected l.b,args:=#[]}::GL/\qJ μ ms GL
def qJ.mono{μ μ':Mu}(h:∀i l,μ i=some l->μ' i=some l):∀{ms:List Nat} {ds:List Deferred},qJ μ ms ds->qJ μ' ms ds
 |[],_,hd=>hd
 |_::_,_,⟨l,GL,h1,h2,h3⟩=>⟨l,GL,h _ _ h1,h2,qJ.mono h h3⟩
def od(μ:Mu)(fr:Fr)(a:Act):Prop:=RR μ fr.r fr.n a.tmps/\qJ μ fr.marks a.defers
def od.mono{μ μ':Mu}(h:∀i l,μ i=some l->μ' i=some l){fr:Fr}{a:Act}(hf:od μ fr a):od μ' fr a:=⟨hf.1.mono h,hf.2.mono h⟩
section
variable {P:Program} {μ:Mu} {w:World} {st aA:St} {fr bH:Fr} {a:Act} {call:cM} {v:V} {lb:Option Nat}
def bI.mono{μ':Mu}{w':World}{ws:List Nat}(hh:bn P μ w st)(h:bI P μ w st μ' w' aA ws):∀i l,μ i=some l->μ' i=some l:=bn.IS hh h.ext
def od.put(hf:od μ fr a){d:Option Nat}{x:Value}(hv:VR μ v x)(h:fr.put d v=some bH):od μ bH (a.put d x):=by
 cases d with
 |none=> simp only[Fr.put,aq]at h;subst h;exact hf
 |some d=>
  simp only[Fr.put]at h;split at h
  ·rename_i hd;simp only[aq]at h;subst h;exact⟨hf.1.set hd hv,hf.2⟩
  cases h
def Yqv(cj:jZ P call)(hE:vn P)(hh:bn P μ w st)(hf:od μ fr a){o:Oper}(h:cC (Bn P o.op) call fr.r st=some (v,aA)){K:Act->World->Prop}{Q:Exit->Act->World->Prop}
  (hK:∀x w' μ' ws,VR μ' v x->bI P μ w st μ' w' aA ws->K (a.put o.dst x) w'):o.wpIn (FE lb) 0 P a w K Q:=by
 refine⟨fun _ _=>trivial,?_⟩;have La:∀c,o.op≠.defer c:=by intro c hc;rw[hc]at h;simp only[Bn,LA,Option.getD_none]at h;cases h
 show o.uponIn (FE lb) 0 P a K Q ((o.semAt lb a.eval).run P w);rw[Oper.semAt_eq _ _ _ La];cases hc:LA P o.op with
 |none=> simp only[Bn,hc,Option.getD_none]at h;cases h
 |some m=>
  simp only[Bn,hc,g_]at h;by_cases hn:m.pK=true
  ·-- a call
   obtain⟨dst,op,ty,pos,af,g⟩:=o;cases m<;>simp only[iA.pK,iy]at hn;rename_i sf ss;have Ph:∃c f,op=.call c/\c.callee=.value f/\bE P f=some sf/\wL P c.args.toList=some ss:=by
    cases op<;>simp only[LA]at hc<;>try (cases hc;done)
    case call c=>
     obtain⟨callee,args,ats⟩:=c
     cases callee with
     |invoke r' nm=>simp only[Gh,reduceCtorEq]at hc
     |builtin b=>
      exfalso
      simp only[Gh]at hc
      repeat' split at hc
      all_goals first|(cases hc;done)|(simp at hc;done)
     |value f=>
      simp only[Gh]at hc
      split at hc
      ·cases hc
      ·rename_i ss' G5
       refine⟨_,f,rfl,rfl,?_⟩
       cases f<;>simp only at hc
       case func gid=>
        split at hc
        ·split at hc
         ·simp only[aq,iA.call.injEq]at hc
          obtain⟨rfl,rfl⟩:=hc
          exact⟨rfl,G5⟩
         ·split at hc
          ·simp at hc
          ·cases hc
        ·cases hc
       all_goals
        split at hc
        ·rename_i h1
         simp only[aq,iA.call.injEq]at hc
         obtain⟨rfl,rfl⟩:=hc
         exact⟨h1,G5⟩
        ·cases hc
    all_goals
     exfalso
     repeat' split at hc
     all_goals first|(cases hc;done)|contradiction|(simp at hc;done)|(rw[LG]at hc;simp at hc;done)
   obtain⟨c,f,rfl,zao,h1,h2⟩:=Ph;have h':An sf ss call fr.r st=some (v,aA):=h;unfold An at h';split at h'
   ·rename_i gv l hg hl;have hG:=di hh hf.1 h1 hg;have hX:=IX hh hf.1 h2 hl;obtain⟨d,hd,iR⟩:=cj _ _ _ _ _ h' μ w _ _ hh hG hX;have e0:(⟨List.map a.eval c.args.toList⟩:Array Value)=c.args.map a.eval:=by apply Array.ext';simp
    rw[e0]at hd;have uY:(resolve a.eval c ty).run P w=.ok d w:=by simp only[resolve,zao];exact hd
    rcases iR with⟨_,g',args,hinv,Jy⟩|⟨_,l',g',tmps,gK,gO,hinv,Me⟩
    ·have bP:(execOp a.eval ⟨dst,.call c,ty,pos,af,g⟩).run P w=.ok (.enter g' args) w:=by simp only[execOp,Sem.run_bind,uY,Result.andThen_ok,hinv]
     rw[bP,Oper.uponIn_enter];refine⟨fun hx=>by simp[Fence.wide]at hx,?_⟩;refine CallsIn.mono (F:=Fence.wide) Jy fun e w' he=>?_;cases e with
     |returned x=> obtain⟨μ',ws,q1,q2⟩:=he;exact hK x w' μ' ws q1 q2
     |panicked _=>exact he.elim
     |outgrown=>exact he.elim
    have bP:(execOp a.eval ⟨dst,.call c,ty,pos,af,g⟩).run P w=.ok (.round l' g' tmps gK gO) w:=by simp only[execOp,Sem.run_bind,uY,Result.andThen_ok,hinv]
    rw[bP,Oper.uponIn_round];refine⟨fun hx=>by simp[Fence.wide]at hx,?_⟩;refine RoundIn.mono (F:=Fence.wide) Me fun e w' he=>?_;cases e with
    |returned x=> obtain⟨μ',ws,q1,q2⟩:=he;exact hK x w' μ' ws q1 q2
    |panicked _=>exact he.elim
    |outgrown=>exact he.elim
   cases h'
  obtain⟨nx,x,w',μ',ws,k1,k2,k3,k4⟩:=Yu8 hh hf.1 hE hc (by simpa using hn) h;rw[k1];rcases k2 with rfl|⟨rfl,rfl⟩
  ·rw[Oper.uponIn_value];exact hK x w' μ' ws k3 k4
  rw[Oper.uponIn_skip];exact hK undef w' μ' ws k3 k4
def Zqo{ops:Array Oper}{o:Oper}{g:Option (Nat×Bool)}(hr:RR μ fr.r fr.n a.tmps)(hg:IQ ops o.guard=some g){b:Bool}(h:bU fr.r g=some b):Region.wanted o (yielded ops a.tmps)=b:=by
 unfold Region.wanted;cases ho:o.guard with
 |none=> rw[ho]at hg;simp only[IQ,aq]at hg;subst hg;simp only[bU,aq]at h;exact h
 |some p=>
  obtain⟨j,want⟩:=p;rw[ho]at hg;simp only[IQ]at hg;split at hg
  ·rename_i t ht;simp only[aq]at hg;subst hg;simp only[bU]at h;split at h
   ·rename_i b' hb;simp only[aq]at h;subst h;obtain⟨x,hx,hv⟩:=hr.2 _ _ hb;simp only[VR]at hv;subst hv;simp[yielded,ht,hx]
   ·rename_i l hb;simp only[aq]at h;subst h;obtain⟨x,hx,y,hv,_⟩:=hr.2 _ _ hb;subst hv;simp[yielded,ht,hx]
   cases h
  cases hg
end
def Mi:Ex->Exit
 |.normal=>.normal
 |.exit id=>.exit id
 |.ret=>.ret
def Mq(μ:Mu):Option Nat->Option Nat->Prop
 |none,none=>True
 |some l,some b=>∃L,μ l=some L/\L.b=b
 |_,_=>False
def Mq.mono{μ μ':Mu}(h:∀i l,μ i=some l->μ' i=some l){ro lb:Option Nat}(hr:Mq μ ro lb):Mq μ' ro lb:=by cases ro<;>cases lb<;>simp only[Mq]at*;obtain⟨L,h1,h2⟩:=hr;exact⟨L,h _ _ h1,h2⟩
def xg(P:Program)(μ:Mu)(w:World)(st:St)(ex:Ex)(bH:Fr)(aA:St):Exit->Act->World->Prop:=fun e a' w'=>
 e=Mi ex/\∃μ' ws,bI P μ w st μ' w' aA ws/\od μ' bH a'
section
variable {P:Program} {μ:Mu} {w:World} {st aA:St} {fr bH:Fr} {a:Act} {call:cM} {v:V} {lb:Option Nat}
def Yq8(cj:jZ P call)(hE:vn P){ops:Array Oper}{Q:Exit->Act->World->Prop}:∀(is:List Nat) (os:List Oper),is.map (fun i=>ops[i]?)=os.map some->
  ∀{st:St} {fr:Fr} {a:Act} {w:World} {μ:Mu},bn P μ w st->od μ fr a->dR call (os.map (sE P ops)) fr st=some (bH,aA)->
   (∀a' w' μ' ws,od μ' bH a'->bI P μ w st μ' w' aA ws->Q .normal a' w')->wpOpsIn (FE lb) 0 P ops Q is a w:=by
 intro is;induction is with
 |nil=>
  intro os Bp st fr a w μ hh hf h hQ;cases os with
  |cons o os=>simp at Bp
  |nil=> simp only[vF,dR,Yn8,aq,bB]at h;obtain⟨rfl,rfl⟩:=h;exact hQ a w μ [] hf (bI.refl hh)
 |cons i is ih=>
  intro os Bp st fr a w μ hh hf h hQ;cases os with
  |nil=>simp at Bp
  |cons o os=>
   simp only[nI,iH]at Bp;obtain⟨hoi,Bp⟩:=Bp;simp only[nI,dR,C8]at h;unfold wpOpsIn;rw[hoi];simp only[];have go:∀(v:V) (bX:St) (ef:Fr) (x:Value) (w1:World) (μ1:Mu) (ws:List Nat),VR μ1 v x->bI P μ w st μ1 w1 bX ws->fr.put o.dst v=some ef->dR call (os.map (sE P ops)) ef bX=some (bH,aA)->
     wpOpsIn (FE lb) 0 P ops Q is (a.put o.dst x) w1:=by
    intro v bX ef x w1 μ1 ws hv hs hp hm
    refine ih os Bp hs.hr ((hf.mono (hs.mono hh)).put hv hp) hm fun a' w' μ' Ts IM iY=>?_
    exact hQ a' w' μ' _ IM (hs.trans iY)
   unfold sE at h;cases hg:IQ ops o.guard with
   |none=> rw[hg]at h;simp only[bU,cC,ZY]at h;cases h
   |some g=>
    rw[hg]at h;simp only at h;cases hw:bU fr.r g with
    |none=>rw[hw]at h;cases h
    |some b=>
     rw[hw]at h;have yL:=Zqo hf.1 hg hw;cases b with
     |true=>
      rw[ar yL];simp only at h;split at h
      ·rename_i v1 bX hm;split at h
       ·rename_i ef hp;exact Yqv cj hE hh hf hm fun x w' μ' ws q1 q2=>go v1 bX ef x w' μ' ws q1 q2 hp h
       cases h
      cases h
     |false=>
      rw[ak (by rw[yL];simp)];simp only at h;split at h
      ·rename_i ef hp;exact⟨fun _ _=>trivial,go (.aV []) st ef undef w μ [] ⟨[],rfl,by simp[aU]⟩ (bI.refl hh) hp h⟩
      cases h
def Yfi{ops:Array Oper}:(List.range ops.size).map (fun i=>ops[i]?)=ops.toList.map some:=by
 apply ph;intro i;simp only[eG];by_cases h:i<ops.size
 ·simp[h]
 simp[h]
def Zqh{F:Fence}{n:Nat}{c:Code}{Q:Exit->Act->World->Prop}(J:Nat->Act->World->Prop)
  (round:∀f a w,J f a w->c.wpIn F n P (Exit.then (fun a' w'=>∃f',f'<f/\J f' a' w') Q) a w) {f:Nat} (h₀:J f a w):(Code.loop c).wpIn F n P Q a w:=by
 intro b k cs qq hb hr;have key:∀j a w,J j a w->
   ∃e a' w',Q e a' w'/\ArrivesIn (Machine.fenced P F) P (lone (b.atR a (.code c::.inLoop c::k)) cs w) b k cs e a' w':=by
  intro j
  induction j using Nat.strongRecOn with
  |_ j ih=>
   intro a w hI
   obtain⟨e,a₁,w₁,hq,jR⟩:=round j a w hI b (.inLoop c::k) cs qq hb hr
   cases e with
   |normal=>
    obtain⟨f',aC,hI₁⟩:=hq
    obtain⟨e₂,a₂,w₂,hq₂,Px⟩:=ih f' aC a₁ w₁ hI₁
    exact⟨e₂,a₂,w₂,hq₂,.of_steps (StepsIn.trans jR (.one (fenced_calm hb hr rfl) stepR_inLoop)) Px⟩
   |exit id=>exact⟨_,a₁,w₁,hq,.pass (x:=.inLoop c) rfl (fun _ _=>.inl (by simp)) jR⟩
   |goto l=>exact⟨_,a₁,w₁,hq,.pass (x:=.inLoop c) rfl (fun _ _=>.inl (by simp)) jR⟩
   |ret=>exact⟨_,a₁,w₁,hq,.pass (x:=.inLoop c) rfl (fun _ _=>.inl (by simp)) jR⟩
   |panic ch=>exact⟨_,a₁,w₁,hq,.pass (x:=.inLoop c) rfl (fun _ _=>.inl (by simp)) jR⟩
   |outgrown=>exact⟨_,a₁,w₁,hq,.pass (x:=.inLoop c) rfl (fun _ _=>.inl (by simp)) jR⟩
 obtain⟨e,a',w',hq,jR⟩:=key _ a w h₀;exact⟨e,a',w',hq,.of_steps (.one (fenced_calm hb hr rfl) stepR_loop) jR⟩
def Mr{b:Frame}{k:List Item}{cs:List Frame}{c:Code}:
  step P (lone (b.atR a (.code (.scope c)::k)) cs w)=.next (lone (b.atR a (.code c::.inScope c::k)) cs w):=
 step_lone_go (by simp[stepG,stepG.exec,Frame.atR])
def Zr0{b:Frame}{k:List Item}{cs:List Frame}{c:Code}:
  step P (lone (b.atR a (.inScope c::k)) cs w)=.next (lone (b.atR a k) cs w):=
 step_lone_go (by simp[stepG,stepG.exec,Frame.atR])
def Ya1{F:Fence}{n:Nat}{c:Code}{Q:Exit->Act->World->Prop}(h:c.wpIn F n P Q a w)(hq:∀l a w,¬Q (.goto l) a w):(Code.scope c).wpIn F n P Q a w:=by
 intro b k cs qq hb hr;have h0:(lone (b.atR a (.code (.scope c)::k)) cs w).fenced P F:=fenced_calm hb hr rfl;obtain⟨e,a₁,w₁,hQ,jR⟩:=h b (.inScope c::k) cs qq hb hr;cases e with
 |normal=>exact⟨.normal,a₁,w₁,hQ,.head h0 Mr (StepsIn.trans jR (.one (fenced_calm hb hr rfl) Zr0))⟩
 |exit id=>
  have hx:exitTo id (.inScope c::k)=exitTo id k:=by simp[exitTo]
  exact⟨.exit id,a₁,w₁,hQ,fun k' hk=>.head h0 Mr (jR.1 k' (by rw[hx];exact hk)),
   fun DR hk=>let ⟨k₁,h1,h2⟩:=jR.2 DR (by rw[hx];exact hk);⟨k₁,h1,.head h0 Mr h2⟩⟩
 |goto l=>exact absurd hQ (hq l a₁ w₁)
 |ret=>exact⟨_,a₁,w₁,hQ,.of_steps (.one h0 Mr) jR⟩
 |panic ch=>exact⟨_,a₁,w₁,hQ,.of_steps (.one h0 Mr) jR⟩
 |outgrown=>exact⟨_,a₁,w₁,hQ,.of_steps (.one h0 Mr) jR⟩
def xg.after{μ1:Mu}{w1:World}{bX:St}{ws:List Nat}(hs:bI P μ w st μ1 w1 bX ws){ex:Ex}{e:Exit}{a':Act}{w':World}(h:xg P μ1 w1 bX ex bH aA e a' w'):xg P μ w st ex bH aA e a' w':=by obtain⟨h1,μ',Ts,h2,h3⟩:=h;exact⟨h1,μ',_,hs.trans h2,h3⟩
def xg.then{μ:Mu}{ex:Ex}{ef:Fr}{bX:St}{K:Act->World->Prop}{Q:Exit->Act->World->Prop}{e:Exit}{a':Act}{w':World}(h:xg P μ w st ex ef bX e a' w')
  (hn:ex=.normal->K a' w') (hq:ex≠.normal->Q e a' w'):Exit.then K Q e a' w':=by
 obtain⟨rfl,h⟩:=h;cases ex<;>simp only[Mi,Exit.then]
 ·exact hn rfl
 ·exact hq (by simp)
 exact hq (by simp)
def Mh(P:Program)(code:rn):Prop:=
 ∀(ro:Option Nat) (c:Code) (fr:Fr) (st:St) (ex:Ex) (bH:Fr) (aA:St),code ro (jr P c) fr st=some (ex,bH,aA)->
  ∀(μ:Mu) (w:World) (a:Act) (lb:Option Nat),bn P μ w st->od μ fr a->Mq μ ro lb->c.wpIn (FE lb) 0 P (xg P μ w st ex bH aA) a w
def Yo8(P:Program)(call:cM):Prop:=
 ∀(id:Nat) (ops:Array Oper) (fr:Fr) (st:St) (ex:Ex) (bH:Fr) (aA:St),ZN P ops=true->Bz (ops.toList.map (sE P ops)) (wN ops.toList []) call TI none fr st=some (ex,bH,aA)->
  ∀(μ:Mu) (w:World) (a:Act) (lb:Option Nat),bn P μ w st->od μ fr a->(Code.region id ops true).wpIn (FE lb) 0 P (xg P μ w st ex bH aA) a w
def Yw3(P:Program)(call:cM):Prop:=
 ∀(id:Nat) (ops:Array Oper) (o:Oper) (rest:List Oper) (d:Option Nat) (ch:Src) (s:Option Src) (z:V) (fr:Fr) (st:St) (ex:Ex) (bH:Fr) (aA:St),ops.toList=o::rest->Yzo P o=some (d,ch,s,z)->
  Db d ch s z (rest.map (sE P ops)) call TI none fr st=some (ex,bH,aA)->
  ∀(μ:Mu) (w:World) (a:Act) (lb:Option Nat),bn P μ w st->od μ fr a->(Code.region id ops false).wpIn (FE lb) 0 P (xg P μ w st ex bH aA) a w
def Yi6(P:Program)(call:cM):Prop:=
 ∀(ro:Option Nat) (g:Operand) (s:Src) (ps:Array Nat) (gK gO:Code) (fr:Fr) (st:St) (ex:Ex) (bH:Fr) (aA:St),bE P g=some s->
  AP s ps.toList (jr P gK) (jr P gO) call TI ro fr st=some (ex,bH,aA)->
  ∀(μ:Mu) (w:World) (a:Act) (lb:Option Nat),bn P μ w st->od μ fr a->Mq μ ro lb->(Code.rangeFunc g ps gK gO).wpIn (FE lb) 0 P (xg P μ w st ex bH aA) a w
def Yii(cj:jZ P call)(hE:vn P)(hD:Yo8 P call)(hS:Yw3 P call)(hR:Yi6 P call):∀fuel,Mh P (dZ call fuel):=by
 intro fuel;induction fuel using Nat.strongRecOn with
 |_ fuel ihs=>
 cases fuel with
 |zero=>intro ro c fr st ex bH aA h;cases h
 |succ f=>
  have ih:Mh P (dZ call f):=ihs f (wO f);intro ro c fr st ex bH aA h μ w a lb hh hf qq;cases c with
  |skip=> simp only[jr,dZ,oc,Z1,aq,bB]at h;obtain⟨rfl,rfl,rfl⟩:=h;exact wpIn_skip ⟨rfl,μ,[],bI.refl hh,hf⟩
  |label l=> simp only[jr,dZ,oc,Z1,aq,bB]at h;obtain⟨rfl,rfl,rfl⟩:=h;exact wpIn_label ⟨rfl,μ,[],bI.refl hh,hf⟩
  |exit id=> simp only[jr,dZ,oc,Yo0,aq,bB]at h;obtain⟨rfl,rfl,rfl⟩:=h;exact wpIn_exit ⟨rfl,μ,[],bI.refl hh,hf⟩
  |ret=> simp only[jr,dZ,oc,Ywt,aq,bB]at h;obtain⟨rfl,rfl,rfl⟩:=h;exact wpIn_ret ⟨rfl,μ,[],bI.refl hh,hf⟩
  |goto l=>simp only[jr,dZ,oc,LW]at h;cases h
  |refuse why=>simp only[jr,dZ,oc,LW]at h;cases h
  |region id ops draw=>
   cases draw with
   |true=>
    simp only[jr]at h;split at h
    ·rename_i hp;simp only[dZ,oc]at h;exact hD id ops fr st ex bH aA hp h μ w a lb hh hf
    simp only[dZ,oc,LW]at h;cases h
   |false=>
    have plain:By (ops.toList.map (sE P ops)) call (dZ call f) ro fr st=some (ex,bH,aA)->(Code.region id ops false).wpIn (FE lb) 0 P (xg P μ w st ex bH aA) a w:=by
     intro h;simp only[By]at h;split at h
     ·rename_i ef bX hm;simp only[aq,bB]at h;obtain⟨rfl,rfl,rfl⟩:=h;exact wpIn_region (Yq8 cj hE _ _ Yfi hh hf hm fun a' w' μ' ws q1 q2=>⟨rfl,μ',ws,q2,q1⟩)
     cases h
    simp only[jr,dZ]at h;split at h
    ·rename_i ho;exact plain (by rw[ho];exact h)
    rename_i o rest ho;split at h
    ·rename_i d ch s z hs;exact hS id ops o rest d ch s z fr st ex bH aA ho hs h μ w a lb hh hf
    exact plain (by rw[ho];exact h)
  |seq x y=>
   simp only[jr,dZ,oc,Dc]at h;refine wpIn_seq ?_;split at h
   ·rename_i ef bX hx;refine wpIn_mono (ih ro x fr st _ _ _ hx μ w a lb hh hf qq) fun e a' w' hp=>?_;have uO:=hp;obtain⟨he,μ1,ws,hs,BO⟩:=hp;refine uO.then (fun _=>?_) (fun aW=>absurd rfl aW);exact wpIn_mono (ih ro y ef bX ex bH aA h μ1 w' a' lb hs.hr BO (qq.mono (hs.mono hh))) fun e2 a2 w2 Ar=>Ar.after hs
   rename_i hx;refine wpIn_mono (ih ro x fr st _ _ _ h μ w a lb hh hf qq) fun e a' w' hp=>?_;refine hp.then (fun hn=>?_) (fun _=>hp);subst hn;exact absurd h (hx bH aA)
  |cond x p q=>
   simp only[jr]at h;split at h
   ·rename_i s hs;simp only[dZ,oc,zG]at h;split at h
    ·rename_i hv;have:=di hh hf.1 hs hv;exact wpIn_cond_true (by simpa[VR]using this) (ih ro p fr st ex bH aA h μ w a lb hh hf qq)
    ·rename_i hv;have:=di hh hf.1 hs hv;exact wpIn_cond_false (by simpa[VR]using this) (ih ro q fr st ex bH aA h μ w a lb hh hf qq)
    cases h
   simp only[dZ,oc,LW]at h;cases h
  |block id c=>
   simp only[jr,dZ,oc,Dd]at h;refine wpIn_block ?_;split at h
   ·rename_i De ef bX hx;refine wpIn_mono (ih ro c fr st _ _ _ hx μ w a lb hh hf qq) fun e a' w' hp=>?_;obtain⟨rfl,hp⟩:=hp;simp only[Mi,Exit.inBlock];split at h
    ·rename_i hid;simp only[aq,bB]at h;obtain⟨rfl,rfl,rfl⟩:=h;rw[ar (Tw hid)];exact⟨rfl,hp⟩
    rename_i hid;simp only[aq,bB]at h;obtain⟨rfl,rfl,rfl⟩:=h;rw[ak (Nat.ne_of_beq_eq_false hid)];exact⟨rfl,hp⟩
   rename_i hx;refine wpIn_mono (ih ro c fr st _ _ _ h μ w a lb hh hf qq) fun e a' w' hp=>?_;have uO:=hp;obtain⟨rfl,hp⟩:=hp;cases ex with
   |normal=>exact uO
   |ret=>exact uO
   |exit De=>exact absurd h (hx De bH aA)
  |loop c=>
   refine Zqh (fun k a1 w1=>k<=f+1/\∃ef bX μ1 ws,bI P μ w st μ1 w1 bX ws/\od μ1 ef a1/\dZ call k ro (.loop (jr P c)) ef bX=some (ex,bH,aA)) ?_
    (f:=f+1) ⟨aO _,fr,st,μ,[],bI.refl hh,hf,h⟩;intro k a1 w1 hJ;obtain⟨hk,ef,bX,μ1,ws,hs,BO,hm⟩:=hJ;cases k with
   |zero=>cases hm
   |succ k=>
    simp only[dZ,oc,Df]at hm;have ihk:Mh P (dZ call k):=ihs k (by omega);split at hm
    ·rename_i AQ fb hx;refine wpIn_mono (ihk ro c ef bX _ _ _ hx μ1 w1 a1 lb hs.hr BO (qq.mono (hs.mono hh))) fun e a' w' hp=>?_;have uO:=hp;obtain⟨he,μ2,ws2,na,dT⟩:=hp;refine uO.then (fun _=>?_) (fun aW=>absurd rfl aW);exact⟨k,wO k,by omega,AQ,fb,μ2,_,hs.trans na,dT,hm⟩
    rename_i hx;refine wpIn_mono (ihk ro c ef bX _ _ _ hm μ1 w1 a1 lb hs.hr BO (qq.mono (hs.mono hh))) fun e a' w' hp=>?_;refine hp.then (fun hn=>?_) (fun _=>hp.after hs);subst hn;exact absurd hm (hx bH aA)
  |scope c=> simp only[jr,dZ,oc,Yip]at h;refine Ya1 (ih ro c fr st ex bH aA h μ w a lb hh hf qq) fun l a' w' hp=>?_;obtain⟨he,_⟩:=hp;cases ex<;>simp[Mi]at he
  |rangeFunc g ps gK gO=>
   simp only[jr]at h;split at h
   ·rename_i s hs;simp only[dZ,oc]at h;exact hR ro g s ps gK gO fr st ex bH aA hs h μ w a lb hh hf qq
   simp only[dZ,oc,LW]at h;cases h
end
end Go.Mx
