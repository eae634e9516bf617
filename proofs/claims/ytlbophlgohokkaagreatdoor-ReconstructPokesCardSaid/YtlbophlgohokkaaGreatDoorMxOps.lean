/-
  Every operation of M that calls no function stands for the Go model's.
-/
import Derived.Test.YtlbophlgohokkaaGreatDoorMxOp10
import Derived.RangeFuncRecord
import Derived.OrdersIn
set_option linter.all false
namespace Go.Mx
open Go
section
variable {P:Program} {μ:Mu} {w:World} {st av:St} {r:T V} {n:Nat} {a:Act} {call:cm} {v:V}
def gG.mq:gG->Bool
 |.call _ _=>true
 |_=>false
theorem Aj{α:Type}{a:Array α}{x:α}(h:a.toList=[x]):a=#[x]:=by
 apply wZ;simpa using h
theorem IY{α:Type}{a:Array α}{x y:α}(h:a.toList=[x,y]):a=#[x,y]:=by
 apply wZ;simpa using h
theorem Zuy(hh:bo P μ w st)(hr:RR μ r n a.tmps){b:Builtin}{ts:Array TypeId}{xs:Array Operand}{ty:TypeId}{cs:Array Bool}{m:gG}(hc:Be P ⟨.builtin b,xs,ts⟩=some m)
  (h:bZ m call r st=some (v,av)):bg P μ w st (builtin b ts ty cs (xs.map a.eval)) v av:=by
 simp only[Be]at hc
 split at hc
 ·rename_i t x ht hx
  have e1:=Aj ht
  have e2:=Aj hx
  subst e1 e2
  simp only[builtin,CY,kg,vP]
  split at hc
  ·rename_i s hu hs
   simp only[aj]at hc;subst hc
   exact Zx7 (call:=call) hh hr hu hs h
  ·rename_i e s hu hs
   simp only[aj]at hc;subst hc
   exact Zrx (call:=call) hh hr hu hs h
  ·rename_i k e s hu hs
   simp only[aj]at hc;subst hc
   exact Zx8 (call:=call) hh hr hu hs h
  ·rename_i k e s hu
   simp only[aj]at hc;subst hc
   exact Yp (call:=call) (r:=r) hh (.inl ⟨_,hu⟩) h
  ·rename_i u s hu
   split at hc
   ·rename_i k e eS
    simp only[aj]at hc;subst hc
    exact Yp (call:=call) (r:=r) hh (.inr ⟨_,_,hu,eS⟩) h
   ·cases hc
  ·cases hc
 ·rename_i t x ht hx
  have e1:=Aj ht
  have e2:=Aj hx
  subst e1 e2
  simp only[builtin,CY,kg,vP]
  split at hc
  ·rename_i e s hu hs
   simp only[aj]at hc;subst hc
   exact Yo0 (call:=call) hh hr hu hs h
  ·cases hc
 ·split at hc
  ·rename_i l hl
   simp only[aj]at hc;subst hc
   exact Yqp (call:=call) hh hr hl h
  ·cases hc
 ·split at hc
  ·rename_i l hl
   simp only[aj]at hc;subst hc
   exact Yqn (call:=call) hh hr hl h
  ·cases hc
 ·rename_i t u s x ht hx
  have e1:=IY ht
  have e2:=IY hx
  subst e1 e2
  simp only[builtin,CY,kg,vP]
  split at hc
  ·rename_i e hu
   split at hc
   ·rename_i n' b' z s' x' d hs hb hz iA mR hd
    rw[FU]at hc
    obtain⟨cD,hc⟩:=hc
    simp only[not_or,Decidable.not_not]at cD
    obtain⟨c1,c2,c3,c4⟩:=cD
    simp only[aj]at hc;subst hc
    have c4':z.cells.all V.one=true:=by simpa using c4
    exact Ydw (call:=call) hh hr (by rfl) hu (by rfl) hd (fun k hk=>by subst hk;simp at c1) hs hb hz c3 c4' c2 iA mR h
   ·cases hc
  ·cases hc
 ·rename_i t ts' d s ht hx
  have e2:=IY hx
  subst e2
  simp only[builtin,CY,kg,vP]
  split at hc
  ·rename_i e hu
   split at hc
   ·rename_i n' d' s' hs hd iA
    simp only[aj]at hc;subst hc
    exact Yl9 (call:=call) hh hr (by rw[<-wV,ht];rfl) hu hs hd iA h
   ·cases hc
  ·cases hc
 ·rename_i t s ht hx
  have e1:=Aj ht
  have e2:=Aj hx
  subst e1 e2
  simp only[builtin,CY,kg,vP]
  split at hc
  ·rename_i e hu
   split at hc
   ·rename_i n' z s' hs hz iA
    split at hc
    ·rename_i ec
     simp only[aj]at hc;subst hc
     exact Yhe (call:=call) hh hr hu hz ec iA h
    ·cases hc
   ·cases hc
  ·cases hc
 ·rename_i t s ht hx
  have e1:=Aj ht
  have e2:=Aj hx
  subst e1 e2
  simp only[builtin,CY,kg,vP]
  simp only[iF]at hc
  obtain⟨s',hs,rfl⟩:=hc
  exact Yey (call:=call) hh hr hs h
 ·rename_i t u x y ht hx
  have e1:=IY ht
  have e2:=IY hx
  subst e1 e2
  simp only[builtin,CY,kg,vP]
  split at hc
  ·rename_i e hu
   split at hc
   ·rename_i s q hs hx hy
    simp only[aj]at hc;subst hc
    exact Yi9 (call:=call) hh hr hu hs hx hy h
   ·cases hc
  ·cases hc
 ·cases hc
theorem Ynv(hh:bo P μ w st)(hr:RR μ r n a.tmps)(hE:rm P){o:Oper}{m:gG}(hc:FL P o.op=some m)(hn:m.mq=false)(h:bZ m call r st=some (v,av)):
  bg P μ w st (execOp a.eval o) v av:=by
 obtain⟨dst,op,ty,pos,af,g⟩:=o
 cases op<;>simp only[FL]at hc<;>try (cases hc;done)
 case move x=>simp only[iF]at hc;obtain⟨s,h1,rfl⟩:=hc;exact XX (call:=call) hh hr h1 h
 case assign x=>simp only[iF]at hc;obtain⟨s,h1,rfl⟩:=hc;exact XX (call:=call) hh hr h1 h
 case pick c x y=>
  split at hc
  ·rename_i h1 h2 h3
   simp only[aj]at hc;subst hc
   exact Yj9 (call:=call) hh hr h1 h2 h3 h
  ·cases hc
 case alloc e=>
  split at hc
  ·rename_i z hz
   split at hc
   ·rename_i ec
    simp only[aj]at hc;subst hc
    exact Yhp (call:=call) (r:=r) hh hz ec h
   ·cases hc
  ·cases hc
 case box e x=>simp only[iF]at hc;obtain⟨s,h1,rfl⟩:=hc;exact Yo2 (call:=call) hh hr h1 h
 case build t parts=>
  split at hc
  ·cases hc
  ·rename_i z hz
   split at hc
   ·rename_i fs Al
    split at hc
    ·rename_i pl vj
     simp only[iF]at hc
     obtain⟨ry,h1,rfl⟩:=hc
     exact Znz (call:=call) hh hr hz Al vj h1 h
    ·cases hc
   ·rename_i k e hu
    split at hc
    ·rename_i s hs
     simp only[iF]at hc
     obtain⟨ry,h1,rfl⟩:=hc
     exact Zoe (call:=call) hh hr hz hu hs h1 h
    ·cases hc
   ·cases hc
 case buildSlice t len parts=>
  split at hc
  ·rename_i e hu
   split at hc
   ·rename_i s z hs hz
    split at hc
    ·cases hc
    ·rename_i cD
     simp only[not_or,Decidable.not_not]at cD
     simp only[iF]at hc
     obtain⟨ry,h1,rfl⟩:=hc
     exact Ydu (call:=call) hh hr hu hs hz cD.1 cD.2.1 h1 h
   ·cases hc
  ·cases hc
 case load t x=>
  split at hc
  ·rename_i h1 h2
   simp only[aj]at hc;subst hc
   exact Yk6 (call:=call) hh hr h1 h2 h
  ·cases hc
 case store t x y=>
  split at hc
  ·rename_i h1 h2 h3
   simp only[aj]at hc;subst hc
   exact Yep (call:=call) hh hr h1 h2 h3 h
  ·cases hc
 case nilCheck x=>simp only[iF]at hc;obtain⟨s,h1,rfl⟩:=hc;exact Yfo (call:=call) hh hr h1 h
 case binOp op t x y p=>
  split at hc
  ·rename_i s u h1 h2
   have fin:∀q ng,So P op t x y q ng->m=.bin op q ng s u->bg P μ w st (execOp a.eval ⟨dst,.binOp op t x y p,ty,pos,af,g⟩) v av:=by
    intro q ng hq hm
    subst hm
    exact Yo3 (call:=call) hh hr h1 h2 hq h
   cases op
   case eql=>
    simp only at hc
    split at hc
    ·rename_i q hq
     rw[FU]at hc
     obtain⟨cD,hc⟩:=hc
     simp only[aj]at hc
     exact fin _ _ (fun _=>⟨hq,by rw[Bool.not_eq_true]at cD;exact cD,rfl⟩) hc.symm
    ·cases hc
   case neq=>
    simp only at hc
    split at hc
    ·rename_i q hq
     rw[FU]at hc
     obtain⟨cD,hc⟩:=hc
     simp only[aj]at hc
     exact fin _ _ (fun _=>⟨hq,by rw[Bool.not_eq_true]at cD;exact cD,rfl⟩) hc.symm
    ·cases hc
   all_goals
    simp only[aj]at hc
    exact fin _ _ (fun hq=>by rcases hq with hq|hq<;>cases hq) hc.symm
  ·cases hc
 case unOp op t x=>simp only[iF]at hc;obtain⟨s,h1,rfl⟩:=hc;exact Yps (call:=call) hh hr h1 h
 case convert src dst' x=>
  split at hc
  ·cases hc
  ·rename_i s h1
   split at hc
   ·rename_i q k hq hk
    simp only[aj]at hc;subst hc
    exact Zy7 (call:=call) hh hr ⟨_,hq⟩ hk h1 h
   ·rename_i hq hk
    simp only[aj]at hc;subst hc
    exact Zy6 (call:=call) hh hr hq hk h1 h
   ·rename_i e hq hk
    split at hc
    ·rename_i he
     simp only[aj]at hc;subst hc
     exact Zs7 (call:=call) hh hr hq hk he h1 h
    ·cases hc
   ·rename_i e hq hk
    split at hc
    ·rename_i he
     simp only[aj]at hc;subst hc
     exact Zux (call:=call) hh hr hq hk he h1 h
    ·cases hc
   ·rename_i t hq hk
    split at hc
    ·rename_i z hz
     simp only[aj]at hc;subst hc
     exact Zzu (call:=call) hh hr hq hk hz h1 h
    ·cases hc
   ·rename_i u hq hk
    split at hc
    ·rename_i z hz
     simp only[aj]at hc;subst hc
     exact Zs1 (call:=call) hh hr hq hk hz h1 h
    ·cases hc
   ·cases hc
 case makeInterface t x=>
  split at hc
  ·cases hc
  ·rename_i d bJ hd
   simp only[iF]at hc;obtain⟨s,h1,rfl⟩:=hc
   exact Zx1 (call:=call) hh hr hd (fun k hk=>bJ k hk) h1 h
  ·cases hc
 case makeFunc f first fE=>
  cases f<;>simp only[reduceCtorEq]at hc
  split at hc
  ·rename_i h1 h2
   simp only[aj]at hc;subst hc
   exact Ybr (call:=call) hh hr h1 h2 h
  ·cases hc
 case makeMap t rsv=>
  cases rsv<;>simp only[reduceCtorEq]at hc
  simp only[aj]at hc;subst hc
  exact Yfx (call:=call) (r:=r) hh h
 case makeChan t x=>
  split at hc
  ·rename_i d e hu
   split at hc
   ·rename_i hb hx
    simp only[aj]at hc;subst hc
    exact Ybs (call:=call) hh hr hu hb hx h
   ·cases hc
  ·cases hc
 case makeSlice t x y=>
  split at hc
  ·rename_i e hu
   split at hc
   ·rename_i hs hb hz hx hy
    split at hc
    ·rename_i ec
     simp only[aj]at hc;subst hc
     exact Zx0 (call:=call) hh hr hu hs hb hz ec hx hy h
    ·cases hc
   ·cases hc
  ·cases hc
 case slice t x lo hi mx=>
  split at hc
  ·rename_i hx fj fZ di
   split at hc
   ·rename_i hu
    split at hc
    ·cases hc
    ·rename_i IZ
     simp only[aj]at hc;subst hc
     have hm:mx=none:=by
      cases mx with
      |none=>rfl
      |some q=>
       simp only[pY]at di
       split at di
       ·simp only[aj]at di
        subst di;simp at IZ
       ·cases di
     subst hm
     exact Zta (call:=call) hh hr hu hx fj fZ h
   ·rename_i e hu
    simp only[iF]at hc;obtain⟨s,h1,rfl⟩:=hc
    exact Zw8 (call:=call) hh hr hu h1 hx fj fZ di h
   ·rename_i k e hu
    simp only[iF]at hc;obtain⟨s,h1,rfl⟩:=hc
    exact Ztb (call:=call) hh hr hu h1 hx fj fZ di h
   ·cases hc
  ·cases hc
 case fieldAddr t x i=>
  split at hc
  ·rename_i hu hx
   split at hc
   ·rename_i f hf
    split at hc
    ·rename_i hk
     simp only[aj]at hc;subst hc
     exact Ygq (call:=call) hh hr hu hf hk hx h
    ·cases hc
   ·cases hc
  ·cases hc
 case field t x i=>
  split at hc
  ·rename_i hu hx
   split at hc
   ·rename_i f hf
    simp only[iF]at hc;obtain⟨s,h1,rfl⟩:=hc
    exact Ygo (call:=call) hh hr hu hf h1 hx h
   ·cases hc
  ·cases hc
 case indexAddr t x i=>
  split at hc
  ·rename_i hu hx hi
   simp only[iF]at hc;obtain⟨s,h1,rfl⟩:=hc
   exact Zug (call:=call) hh hr hu h1 hx hi h
  ·rename_i hu hx hi
   simp only[iF]at hc;obtain⟨s,h1,rfl⟩:=hc
   exact Zys (call:=call) hh hr hu h1 hx hi h
  ·cases hc
 case index t x i=>
  split at hc
  ·rename_i hu hx hi
   split at hc
   ·rename_i hs ha
    simp only[aj]at hc;subst hc
    exact Ycl (call:=call) hh hr hu hs ha hx hi h
   ·cases hc
  ·rename_i hu hx hi
   simp only[aj]at hc;subst hc
   exact Ycj (call:=call) hh hr hu hx hi h
  ·cases hc
 case lookup t x k ok=>
  split at hc
  ·rename_i hu hx hk
   split at hc
   ·rename_i h1 h2
    simp only[aj]at hc;subst hc
    exact Ybz (call:=call) hh hr hu h1 h2 hx hk h
   ·cases hc
  ·cases hc
 case mapUpdate t x k y=>
  split at hc
  ·rename_i hu hx hk hy
   simp only[iF]at hc;obtain⟨s,h1,rfl⟩:=hc
   exact Ys (call:=call) hh hr hu h1 hx hk hy h
  ·cases hc
 case insert t x k y=>
  split at hc
  ·rename_i hu hx hk hy
   simp only[iF]at hc;obtain⟨s,h1,rfl⟩:=hc
   exact Ys (call:=call) hh hr hu h1 hx hk hy h
  ·cases hc
 case range t x=>
  split at hc
  ·rename_i hu hx
   simp only[aj]at hc;subst hc
   exact Ztm (call:=call) hh hr hu hx h
  ·cases hc
 case next it isS=>
  cases isS<;>simp only[reduceCtorEq]at hc
  simp only[iF]at hc;obtain⟨s,h1,rfl⟩:=hc
  exact Zxn (call:=call) hh hr h1 h
 case extract x i=>simp only[iF]at hc;obtain⟨s,h1,rfl⟩:=hc;exact Zyw (call:=call) hh hr h1 h
 case call c=>
  obtain⟨callee,args,ats⟩:=c
  cases callee with
  |invoke r' nm=>simp only[Be,reduceCtorEq]at hc
  |builtin b=>
   have:=Zuy (ty:=ty) (cs:=args.map fun|.const _=>true|_=>false) hh hr hc h
   obtain⟨nx,x,w',μ',ws,k1,k2⟩:=this
   refine⟨nx,x,w',μ',ws,?_,k2⟩
   rw[<-k1]
   simp[execOp,resolve,invoke]
   rfl
  |value f=>
   simp only[Be]at hc
   split at hc
   ·cases hc
   ·rename_i ss BX
    cases f<;>simp only at hc
    case func gid=>
     split at hc
     ·rename_i fn ze
      split at hc
      ·simp only[aj]at hc;subst hc;simp[gG.mq]at hn
      ·rename_i hb
       split at hc
       ·rename_i e he
        simp only[aj]at hc;subst hc
        have:=Yol (call:=call) hh hr hE ze (by simpa using hb) he BX h
        obtain⟨nx,x,w',μ',ws,k1,k2⟩:=this
        refine⟨nx,x,w',μ',ws,?_,k2⟩
        rw[<-k1]
        have e0:(⟨List.map a.eval args.toList⟩:Array Value)=args.map a.eval:=by apply wZ;simp
        rw[e0]
        simp[execOp,resolve,invoke,Deferred.ofValue,Act.eval]
       ·cases hc
     ·cases hc
    all_goals
     split at hc
     ·simp only[aj]at hc;subst hc;simp[gG.mq]at hn
     ·cases hc
end
abbrev FE(lb:Option Nat):Fence:={Fence.wide with round:=lb}
def DH(R:Value->World->Prop):Ending->World->Prop
 |.returned x,w=>R x w
 |_,_=>False
def Io(P:Program)(y:Bool)(G:Value)(xs:Array Value)(w:World)(R:Value->World->Prop):Prop:=
 (∃d,(Deferred.ofValue G xs).run P w=.ok d w/\
  ((y=false/\∃f args,(invoke d.target d.args).run P w=.ok (.enter f args) w/\CallsIn Fence.wide 0 P f args w (DH R))\/
     (y=true/\∃l f tmps fg fh,(invoke d.target d.args).run P w=.ok (.round l f tmps fg fh) w/\RoundIn Fence.wide 0 P l f tmps fg fh w (DH R))))
def ix(P:Program)(call:cm):Prop:=
 ∀(g:V) (args:List V) (st:St) (v:V) (av:St),call g args st=some (v,av)->∀(μ:Mu) (w:World) (G:Value) (xs:List Value),bo P μ w st->VR μ g G->aX μ args xs->
  Io P g.Gb G ⟨xs⟩ w fun x w'=>∃μ' ws,VR μ' v x/\bB P μ w st μ' w' av ws
def nb(μ:Mu):List Nat->List Deferred->Prop
 |[],ds=>ds=[]
 |m::ms,ds=>∃l BP,μ m=some l/\ds={target:=.collected l.b,args:=#[]}::BP/\nb μ ms BP
theorem nb.mono{μ μ':Mu}(h:∀i l,μ i=some l->μ' i=some l):∀{ms:List Nat} {ds:List Deferred},nb μ ms ds->nb μ' ms ds
 |[],_,hd=>hd
 |_::_,_,⟨l,BP,h1,h2,h3⟩=>⟨l,BP,h _ _ h1,h2,nb.mono h h3⟩
def jW(μ:Mu)(fr:Fr)(a:Act):Prop:=RR μ fr.r fr.n a.tmps/\nb μ fr.marks a.defers
theorem jW.mono{μ μ':Mu}(h:∀i l,μ i=some l->μ' i=some l){fr:Fr}{a:Act}(hf:jW μ fr a):jW μ' fr a:=⟨hf.1.mono h,hf.2.mono h⟩
section
variable {P:Program} {μ:Mu} {w:World} {st av:St} {fr bC:Fr} {a:Act} {call:cm} {v:V} {lb:Option Nat}
theorem bB.mono{μ':Mu}{w':World}{ws:List Nat}(hh:bo P μ w st)(h:bB P μ w st μ' w' av ws):∀i l,μ i=some l->μ' i=some l:=bo.CQ hh h.ext
theorem jW.put(hf:jW μ fr a){d:Option Nat}{x:Value}(hv:VR μ v x)(h:fr.put d v=some bC):jW μ bC (a.put d x):=by
 cases d with
 |none=>
  simp only[Fr.put,aj]at h;subst h
  exact hf
 |some d=>
  simp only[Fr.put]at h
  split at h
  ·rename_i hd
   simp only[aj]at h;subst h
   exact⟨hf.1.set hd hv,hf.2⟩
  ·cases h
theorem RE(bR:ix P call)(hE:rm P)(hh:bo P μ w st)(hf:jW μ fr a){o:Oper}(h:bZ (wP P o.op) call fr.r st=some (v,av)){K:Act->World->Prop}{Q:Exit->Act->World->Prop}
  (hK:∀x w' μ' ws,VR μ' v x->bB P μ w st μ' w' av ws->K (a.put o.dst x) w'):o.wpIn (FE lb) 0 P a w K Q:=by
 refine⟨fun _ _=>trivial,?_⟩
 have y_:∀c,o.op≠.defer c:=by
  intro c hc
  rw[hc]at h
  simp only[wP,FL,Option.getD_none]at h
  cases h
 show o.uponIn (FE lb) 0 P a K Q ((o.semAt lb a.eval).run P w)
 rw[Oper.semAt_eq _ _ _ y_]
 cases hc:FL P o.op with
 |none=>
  simp only[wP,hc,Option.getD_none]at h
  cases h
 |some m=>
  simp only[wP,hc,Bb]at h
  by_cases hn:m.mq=true
  ·-- a call
   obtain⟨dst,op,ty,pos,af,g⟩:=o
   cases m<;>simp only[gG.mq,fx]at hn
   rename_i sf ss
   have vg:∃c f,op=.call c/\c.callee=.value f/\bu P f=some sf/\rN P c.args.toList=some ss:=by
    cases op<;>simp only[FL]at hc<;>try (cases hc;done)
    case call c=>
     obtain⟨callee,args,ats⟩:=c
     cases callee with
     |invoke r' nm=>simp only[Be,reduceCtorEq]at hc
     |builtin b=>
      exfalso
      simp only[Be]at hc
      repeat' split at hc
      all_goals first|(cases hc;done)|(simp at hc;done)
     |value f=>
      simp only[Be]at hc
      split at hc
      ·cases hc
      ·rename_i ss' BX
       refine⟨_,f,rfl,rfl,?_⟩
       cases f<;>simp only at hc
       case func gid=>
        split at hc
        ·split at hc
         ·simp only[aj,gG.call.injEq]at hc
          obtain⟨rfl,rfl⟩:=hc
          exact⟨rfl,BX⟩
         ·split at hc
          ·simp at hc
          ·cases hc
        ·cases hc
       all_goals
        split at hc
        ·rename_i h1
         simp only[aj,gG.call.injEq]at hc
         obtain⟨rfl,rfl⟩:=hc
         exact⟨h1,BX⟩
        ·cases hc
    all_goals
     exfalso
     repeat' split at hc
     all_goals first|(cases hc;done)|contradiction|(simp at hc;done)|(rw[FU]at hc;simp at hc;done)
   obtain⟨c,f,rfl,SI,h1,h2⟩:=vg
   have h':vV sf ss call fr.r st=some (v,av):=h
   unfold vV at h'
   split at h'
   ·rename_i gv l hg hl
    have hG:=cF hh hf.1 h1 hg
    have hX:=DO hh hf.1 h2 hl
    obtain⟨d,hd,fW⟩:=bR _ _ _ _ _ h' μ w _ _ hh hG hX
    have e0:(⟨List.map a.eval c.args.toList⟩:Array Value)=c.args.map a.eval:=by apply wZ;simp
    rw[e0]at hd
    have qQ:(resolve a.eval c ty).run P w=.ok d w:=by
     simp only[resolve,SI]
     exact hd
    rcases fW with⟨_,g',args,hinv,Gm⟩|⟨_,l',g',tmps,fg,fh,hinv,Gn⟩
    ·have bI:(execOp a.eval ⟨dst,.call c,ty,pos,af,g⟩).run P w=.ok (.enter g' args) w:=by
      simp only[execOp,Sem.run_bind,qQ,Result.andThen_ok,hinv]
     rw[bI,Oper.uponIn_enter]
     refine⟨fun hx=>by simp[Fence.wide]at hx,?_⟩
     refine CallsIn.mono (F:=Fence.wide) Gm fun e w' he=>?_
     cases e with
     |returned x=>
      obtain⟨μ',ws,q1,q2⟩:=he
      exact hK x w' μ' ws q1 q2
     |panicked _=>exact he.elim
     |outgrown=>exact he.elim
    ·have bI:(execOp a.eval ⟨dst,.call c,ty,pos,af,g⟩).run P w=.ok (.round l' g' tmps fg fh) w:=by
      simp only[execOp,Sem.run_bind,qQ,Result.andThen_ok,hinv]
     rw[bI,Oper.uponIn_round]
     refine⟨fun hx=>by simp[Fence.wide]at hx,?_⟩
     refine RoundIn.mono (F:=Fence.wide) Gn fun e w' he=>?_
     cases e with
     |returned x=>
      obtain⟨μ',ws,q1,q2⟩:=he
      exact hK x w' μ' ws q1 q2
     |panicked _=>exact he.elim
     |outgrown=>exact he.elim
   ·cases h'
  ·obtain⟨nx,x,w',μ',ws,k1,k2,k3,k4⟩:=Ynv hh hf.1 hE hc (by simpa using hn) h
   rw[k1]
   rcases k2 with rfl|⟨rfl,rfl⟩
   ·rw[Oper.uponIn_value];exact hK x w' μ' ws k3 k4
   ·rw[Oper.uponIn_skip];exact hK undef w' μ' ws k3 k4
theorem W9{ops:Array Oper}{o:Oper}{g:Option (Nat×Bool)}(hr:RR μ fr.r fr.n a.tmps)(hg:CO ops o.guard=some g){b:Bool}(h:bP fr.r g=some b):Region.wanted o (yielded ops a.tmps)=b:=by
 unfold Region.wanted
 cases ho:o.guard with
 |none=>
  rw[ho]at hg
  simp only[CO,aj]at hg;subst hg
  simp only[bP,aj]at h
  exact h
 |some p=>
  obtain⟨j,want⟩:=p
  rw[ho]at hg
  simp only[CO]at hg
  split at hg
  ·rename_i t ht
   simp only[aj]at hg;subst hg
   simp only[bP]at h
   split at h
   ·rename_i b' hb
    simp only[aj]at h;subst h
    obtain⟨x,hx,hv⟩:=hr.2 _ _ hb
    simp only[VR]at hv
    subst hv
    simp[yielded,ht,hx]
   ·rename_i l hb
    simp only[aj]at h;subst h
    obtain⟨x,hx,y,hv,_⟩:=hr.2 _ _ hb
    subst hv
    simp[yielded,ht,hx]
   ·cases h
  ·cases hg
end
def Gu:Ex->Exit
 |.normal=>.normal
 |.exit id=>.exit id
 |.ret=>.ret
def GC(μ:Mu):Option Nat->Option Nat->Prop
 |none,none=>True
 |some l,some b=>∃L,μ l=some L/\L.b=b
 |_,_=>False
theorem GC.mono{μ μ':Mu}(h:∀i l,μ i=some l->μ' i=some l){ro lb:Option Nat}(hr:GC μ ro lb):GC μ' ro lb:=by
 cases ro<;>cases lb<;>simp only[GC]at*
 obtain⟨L,h1,h2⟩:=hr
 exact⟨L,h _ _ h1,h2⟩
def rn(P:Program)(μ:Mu)(w:World)(st:St)(ex:Ex)(bC:Fr)(av:St):Exit->Act->World->Prop:=fun e a' w'=>
 e=Gu ex/\∃μ' ws,bB P μ w st μ' w' av ws/\jW μ' bC a'
section
variable {P:Program} {μ:Mu} {w:World} {st av:St} {fr bC:Fr} {a:Act} {call:cm} {v:V} {lb:Option Nat}
theorem XG(bR:ix P call)(hE:rm P){ops:Array Oper}{Q:Exit->Act->World->Prop}:∀(is:List Nat) (os:List Oper),is.map (fun i=>ops[i]?)=os.map some->
  ∀{st:St} {fr:Fr} {a:Act} {w:World} {μ:Mu},bo P μ w st->jW μ fr a->cU call (os.map (oB P ops)) fr st=some (bC,av)->
   (∀a' w' μ' ws,jW μ' bC a'->bB P μ w st μ' w' av ws->Q .normal a' w')->wpOpsIn (FE lb) 0 P ops Q is a w:=by
 intro is
 induction is with
 |nil=>
  intro os wR st fr a w μ hh hf h hQ
  cases os with
  |cons o os=>simp at wR
  |nil=>
   simp only[vP,cU,WI,aj,bq]at h
   obtain⟨rfl,rfl⟩:=h
   exact hQ a w μ [] hf (bB.refl hh)
 |cons i is ih=>
  intro os wR st fr a w μ hh hf h hQ
  cases os with
  |nil=>simp at wR
  |cons o os=>
   simp only[kg,gK]at wR
   obtain⟨hoi,wR⟩:=wR
   simp only[kg,cU,yM]at h
   unfold wpOpsIn
   rw[hoi]
   simp only[]
   have go:∀(v:V) (bS:St) (dh:Fr) (x:Value) (w1:World) (μ1:Mu) (ws:List Nat),VR μ1 v x->bB P μ w st μ1 w1 bS ws->fr.put o.dst v=some dh->cU call (os.map (oB P ops)) dh bS=some (bC,av)->
     wpOpsIn (FE lb) 0 P ops Q is (a.put o.dst x) w1:=by
    intro v bS dh x w1 μ1 ws hv hs hp hm
    refine ih os wR hs.hr ((hf.mono (hs.mono hh)).put hv hp) hm fun a' w' μ' zA SJ iA=>?_
    exact hQ a' w' μ' _ SJ (hs.trans iA)
   unfold oB at h
   cases hg:CO ops o.guard with
   |none=>
    rw[hg]at h
    simp only[bP,bZ,Ra]at h
    cases h
   |some g=>
    rw[hg]at h
    simp only at h
    cases hw:bP fr.r g with
    |none=>rw[hw]at h;cases h
    |some b=>
     rw[hw]at h
     have t_:=W9 hf.1 hg hw
     cases b with
     |true=>
      rw[aF t_]
      simp only at h
      split at h
      ·rename_i v1 bS hm
       split at h
       ·rename_i dh hp
        exact RE bR hE hh hf hm fun x w' μ' ws q1 q2=>go v1 bS dh x w' μ' ws q1 q2 hp h
       ·cases h
      ·cases h
     |false=>
      rw[au (by rw[t_];simp)]
      simp only at h
      split at h
      ·rename_i dh hp
       exact⟨fun _ _=>trivial,go (.aZ []) st dh undef w μ [] ⟨[],rfl,by simp[aX]⟩ (bB.refl hh) hp h⟩
      ·cases h
theorem Yas{ops:Array Oper}:(List.range ops.size).map (fun i=>ops[i]?)=ops.toList.map some:=by
 apply m7
 intro i
 simp only[jf]
 by_cases h:i<ops.size
 ·simp[h]
 ·simp[h]
theorem Zn7{F:Fence}{n:Nat}{c:Code}{Q:Exit->Act->World->Prop}(J:Nat->Act->World->Prop)
  (round:∀f a w,J f a w->c.wpIn F n P (Exit.then (fun a' w'=>∃f',f'<f/\J f' a' w') Q) a w) {f:Nat} (h₀:J f a w):(Code.loop c).wpIn F n P Q a w:=by
 intro b k cs km hb hr
 have key:∀j a w,J j a w->
   ∃e a' w',Q e a' w'/\ArrivesIn (Machine.fenced P F) P (lone (b.atR a (.code c::.inLoop c::k)) cs w) b k cs e a' w':=by
  intro j
  induction j using Nat.strongRecOn with
  |_ j ih=>
   intro a w hI
   obtain⟨e,a₁,w₁,hq,fX⟩:=round j a w hI b (.inLoop c::k) cs km hb hr
   cases e with
   |normal=>
    obtain⟨f',aD,hI₁⟩:=hq
    obtain⟨e₂,a₂,w₂,hq₂,I1⟩:=ih f' aD a₁ w₁ hI₁
    exact⟨e₂,a₂,w₂,hq₂,.of_steps (StepsIn.trans fX (.one (fenced_calm hb hr rfl) stepR_inLoop)) I1⟩
   |exit id=>exact⟨_,a₁,w₁,hq,.pass (x:=.inLoop c) rfl (fun _ _=>.inl (by simp)) fX⟩
   |goto l=>exact⟨_,a₁,w₁,hq,.pass (x:=.inLoop c) rfl (fun _ _=>.inl (by simp)) fX⟩
   |ret=>exact⟨_,a₁,w₁,hq,.pass (x:=.inLoop c) rfl (fun _ _=>.inl (by simp)) fX⟩
   |panic ch=>exact⟨_,a₁,w₁,hq,.pass (x:=.inLoop c) rfl (fun _ _=>.inl (by simp)) fX⟩
   |outgrown=>exact⟨_,a₁,w₁,hq,.pass (x:=.inLoop c) rfl (fun _ _=>.inl (by simp)) fX⟩
 obtain⟨e,a',w',hq,fX⟩:=key _ a w h₀
 exact⟨e,a',w',hq,.of_steps (.one (fenced_calm hb hr rfl) stepR_loop) fX⟩
theorem GD{b:Frame}{k:List Item}{cs:List Frame}{c:Code}:
  step P (lone (b.atR a (.code (.scope c)::k)) cs w)=.next (lone (b.atR a (.code c::.inScope c::k)) cs w):=
 step_lone_go (by simp[stepG,stepG.exec,Frame.atR])
theorem Zpm{b:Frame}{k:List Item}{cs:List Frame}{c:Code}:
  step P (lone (b.atR a (.inScope c::k)) cs w)=.next (lone (b.atR a k) cs w):=
 step_lone_go (by simp[stepG,stepG.exec,Frame.atR])
theorem Zw1{F:Fence}{n:Nat}{c:Code}{Q:Exit->Act->World->Prop}(h:c.wpIn F n P Q a w)(hq:∀l a w,¬Q (.goto l) a w):(Code.scope c).wpIn F n P Q a w:=by
 intro b k cs km hb hr
 have h0:(lone (b.atR a (.code (.scope c)::k)) cs w).fenced P F:=fenced_calm hb hr rfl
 obtain⟨e,a₁,w₁,hQ,fX⟩:=h b (.inScope c::k) cs km hb hr
 cases e with
 |normal=>exact⟨.normal,a₁,w₁,hQ,.head h0 GD (StepsIn.trans fX (.one (fenced_calm hb hr rfl) Zpm))⟩
 |exit id=>
  have hx:exitTo id (.inScope c::k)=exitTo id k:=by simp[exitTo]
  exact⟨.exit id,a₁,w₁,hQ,fun k' hk=>.head h0 GD (fX.1 k' (by rw[hx];exact hk)),
   fun SK hk=>let ⟨k₁,h1,h2⟩:=fX.2 SK (by rw[hx];exact hk);⟨k₁,h1,.head h0 GD h2⟩⟩
 |goto l=>exact absurd hQ (hq l a₁ w₁)
 |ret=>exact⟨_,a₁,w₁,hQ,.of_steps (.one h0 GD) fX⟩
 |panic ch=>exact⟨_,a₁,w₁,hQ,.of_steps (.one h0 GD) fX⟩
 |outgrown=>exact⟨_,a₁,w₁,hQ,.of_steps (.one h0 GD) fX⟩
theorem rn.after{μ1:Mu}{w1:World}{bS:St}{ws:List Nat}(hs:bB P μ w st μ1 w1 bS ws){ex:Ex}{e:Exit}{a':Act}{w':World}(h:rn P μ1 w1 bS ex bC av e a' w'):rn P μ w st ex bC av e a' w':=by
 obtain⟨h1,μ',zA,h2,h3⟩:=h
 exact⟨h1,μ',_,hs.trans h2,h3⟩
theorem rn.then{μ:Mu}{ex:Ex}{dh:Fr}{bS:St}{K:Act->World->Prop}{Q:Exit->Act->World->Prop}{e:Exit}{a':Act}{w':World}(h:rn P μ w st ex dh bS e a' w')
  (hn:ex=.normal->K a' w') (hq:ex≠.normal->Q e a' w'):Exit.then K Q e a' w':=by
 obtain⟨rfl,h⟩:=h
 cases ex<;>simp only[Gu,Exit.then]
 ·exact hn rfl
 ·exact hq (by simp)
 ·exact hq (by simp)
def Gs(P:Program)(code:nF):Prop:=
 ∀(ro:Option Nat) (c:Code) (fr:Fr) (st:St) (ex:Ex) (bC:Fr) (av:St),code ro (gR P c) fr st=some (ex,bC,av)->
  ∀(μ:Mu) (w:World) (a:Act) (lb:Option Nat),bo P μ w st->jW μ fr a->GC μ ro lb->c.wpIn (FE lb) 0 P (rn P μ w st ex bC av) a w
def Xh(P:Program)(call:cm):Prop:=
 ∀(id:Nat) (ops:Array Oper) (fr:Fr) (st:St) (ex:Ex) (bC:Fr) (av:St),Q0 P ops=true->xe (ops.toList.map (oB P ops)) (rO ops.toList []) call LQ none fr st=some (ex,bC,av)->
  ∀(μ:Mu) (w:World) (a:Act) (lb:Option Nat),bo P μ w st->jW μ fr a->(Code.region id ops true).wpIn (FE lb) 0 P (rn P μ w st ex bC av) a w
def XC(P:Program)(call:cm):Prop:=
 ∀(id:Nat) (ops:Array Oper) (o:Oper) (rest:List Oper) (d:Option Nat) (ch:Src) (s:Option Src) (z:V) (fr:Fr) (st:St) (ex:Ex) (bC:Fr) (av:St),ops.toList=o::rest->LB P o=some (d,ch,s,z)->
  xf d ch s z (rest.map (oB P ops)) call LQ none fr st=some (ex,bC,av)->
  ∀(μ:Mu) (w:World) (a:Act) (lb:Option Nat),bo P μ w st->jW μ fr a->(Code.region id ops false).wpIn (FE lb) 0 P (rn P μ w st ex bC av) a w
def Xv(P:Program)(call:cm):Prop:=
 ∀(ro:Option Nat) (g:Operand) (s:Src) (ps:Array Nat) (fg fh:Code) (fr:Fr) (st:St) (ex:Ex) (bC:Fr) (av:St),bu P g=some s->
  zS s ps.toList (gR P fg) (gR P fh) call LQ ro fr st=some (ex,bC,av)->
  ∀(μ:Mu) (w:World) (a:Act) (lb:Option Nat),bo P μ w st->jW μ fr a->GC μ ro lb->(Code.rangeFunc g ps fg fh).wpIn (FE lb) 0 P (rn P μ w st ex bC av) a w
theorem Yt(bR:ix P call)(hE:rm P)(hD:Xh P call)(hS:XC P call)(hR:Xv P call):∀fuel,Gs P (dn call fuel):=by
 intro fuel
 induction fuel using Nat.strongRecOn with
 |_ fuel ihs=>
 cases fuel with
 |zero=>intro ro c fr st ex bC av h;cases h
 |succ f=>
  have ih:Gs P (dn call f):=ihs f (rR f)
  intro ro c fr st ex bC av h μ w a lb hh hf km
  cases c with
  |skip=>
   simp only[gR,dn,kh,Rb,aj,bq]at h
   obtain⟨rfl,rfl,rfl⟩:=h
   exact wpIn_skip ⟨rfl,μ,[],bB.refl hh,hf⟩
  |label l=>
   simp only[gR,dn,kh,Rb,aj,bq]at h
   obtain⟨rfl,rfl,rfl⟩:=h
   exact wpIn_label ⟨rfl,μ,[],bB.refl hh,hf⟩
  |exit id=>
   simp only[gR,dn,kh,WK,aj,bq]at h
   obtain⟨rfl,rfl,rfl⟩:=h
   exact wpIn_exit ⟨rfl,μ,[],bB.refl hh,hf⟩
  |ret=>
   simp only[gR,dn,kh,WM,aj,bq]at h
   obtain⟨rfl,rfl,rfl⟩:=h
   exact wpIn_ret ⟨rfl,μ,[],bB.refl hh,hf⟩
  |goto l=>simp only[gR,dn,kh,Gc]at h;cases h
  |refuse why=>simp only[gR,dn,kh,Gc]at h;cases h
  |region id ops draw=>
   cases draw with
   |true=>
    simp only[gR]at h
    split at h
    ·rename_i hp
     simp only[dn,kh]at h
     exact hD id ops fr st ex bC av hp h μ w a lb hh hf
    ·simp only[dn,kh,Gc]at h;cases h
   |false=>
    have plain:xd (ops.toList.map (oB P ops)) call (dn call f) ro fr st=some (ex,bC,av)->(Code.region id ops false).wpIn (FE lb) 0 P (rn P μ w st ex bC av) a w:=by
     intro h
     simp only[xd]at h
     split at h
     ·rename_i dh bS hm
      simp only[aj,bq]at h
      obtain⟨rfl,rfl,rfl⟩:=h
      exact wpIn_region (XG bR hE _ _ Yas hh hf hm fun a' w' μ' ws q1 q2=>⟨rfl,μ',ws,q2,q1⟩)
     ·cases h
    simp only[gR,dn]at h
    split at h
    ·rename_i ho
     exact plain (by rw[ho];exact h)
    ·rename_i o rest ho
     split at h
     ·rename_i d ch s z hs
      exact hS id ops o rest d ch s z fr st ex bC av ho hs h μ w a lb hh hf
     ·exact plain (by rw[ho];exact h)
  |seq x y=>
   simp only[gR,dn,kh,yP]at h
   refine wpIn_seq ?_
   split at h
   ·rename_i dh bS hx
    refine wpIn_mono (ih ro x fr st _ _ _ hx μ w a lb hh hf km) fun e a' w' hp=>?_
    have qi:=hp
    obtain⟨he,μ1,ws,hs,nK⟩:=hp
    refine qi.then (fun _=>?_) (fun bJ=>absurd rfl bJ)
    exact wpIn_mono (ih ro y dh bS ex bC av h μ1 w' a' lb hs.hr nK (km.mono (hs.mono hh))) fun e2 a2 w2 v_=>v_.after hs
   ·rename_i hx
    refine wpIn_mono (ih ro x fr st _ _ _ h μ w a lb hh hf km) fun e a' w' hp=>?_
    refine hp.then (fun hn=>?_) (fun _=>hp)
    subst hn
    exact absurd h (hx bC av)
  |cond x p q=>
   simp only[gR]at h
   split at h
   ·rename_i s hs
    simp only[dn,kh,u9]at h
    split at h
    ·rename_i hv
     have:=cF hh hf.1 hs hv
     exact wpIn_cond_true (by simpa[VR]using this) (ih ro p fr st ex bC av h μ w a lb hh hf km)
    ·rename_i hv
     have:=cF hh hf.1 hs hv
     exact wpIn_cond_false (by simpa[VR]using this) (ih ro q fr st ex bC av h μ w a lb hh hf km)
    ·cases h
   ·simp only[dn,kh,Gc]at h;cases h
  |block id c=>
   simp only[gR,dn,kh,yQ]at h
   refine wpIn_block ?_
   split at h
   ·rename_i yR dh bS hx
    refine wpIn_mono (ih ro c fr st _ _ _ hx μ w a lb hh hf km) fun e a' w' hp=>?_
    obtain⟨rfl,hp⟩:=hp
    simp only[Gu,Exit.inBlock]
    split at h
    ·rename_i SL
     simp only[aj,bq]at h
     obtain⟨rfl,rfl,rfl⟩:=h
     rw[aF (LG SL)]
     exact⟨rfl,hp⟩
    ·rename_i SL
     simp only[aj,bq]at h
     obtain⟨rfl,rfl,rfl⟩:=h
     rw[au (Nat.ne_of_beq_eq_false SL)]
     exact⟨rfl,hp⟩
   ·rename_i hx
    refine wpIn_mono (ih ro c fr st _ _ _ h μ w a lb hh hf km) fun e a' w' hp=>?_
    have qi:=hp
    obtain⟨rfl,hp⟩:=hp
    cases ex with
    |normal=>exact qi
    |ret=>exact qi
    |exit yR=>exact absurd h (hx yR bC av)
  |loop c=>
   refine Zn7 (fun k a1 w1=>k<=f+1/\∃dh bS μ1 ws,bB P μ w st μ1 w1 bS ws/\jW μ1 dh a1/\dn call k ro (.loop (gR P c)) dh bS=some (ex,bC,av)) ?_
    (f:=f+1) ⟨aS _,fr,st,μ,[],bB.refl hh,hf,h⟩
   intro k a1 w1 hJ
   obtain⟨hk,dh,bS,μ1,ws,hs,nK,hm⟩:=hJ
   cases k with
   |zero=>cases hm
   |succ k=>
    simp only[dn,kh,yS]at hm
    have Yu:Gs P (dn call k):=ihs k (by omega)
    split at hm
    ·rename_i vZ eD hx
     refine wpIn_mono (Yu ro c dh bS _ _ _ hx μ1 w1 a1 lb hs.hr nK (km.mono (hs.mono hh))) fun e a' w' hp=>?_
     have qi:=hp
     obtain⟨he,μ2,RT,jY,fI⟩:=hp
     refine qi.then (fun _=>?_) (fun bJ=>absurd rfl bJ)
     exact⟨k,rR k,by omega,vZ,eD,μ2,_,hs.trans jY,fI,hm⟩
    ·rename_i hx
     refine wpIn_mono (Yu ro c dh bS _ _ _ hm μ1 w1 a1 lb hs.hr nK (km.mono (hs.mono hh))) fun e a' w' hp=>?_
     refine hp.then (fun hn=>?_) (fun _=>hp.after hs)
     subst hn
     exact absurd hm (hx bC av)
  |scope c=>
   simp only[gR,dn,kh,WL]at h
   refine Zw1 (ih ro c fr st ex bC av h μ w a lb hh hf km) fun l a' w' hp=>?_
   obtain⟨he,_⟩:=hp
   cases ex<;>simp[Gu]at he
  |rangeFunc g ps fg fh=>
   simp only[gR]at h
   split at h
   ·rename_i s hs
    simp only[dn,kh]at h
    exact hR ro g s ps fg fh fr st ex bC av hs h μ w a lb hh hf km
   ·simp only[dn,kh,Gc]at h;cases h
end
end Go.Mx
