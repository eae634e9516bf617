/-
  Every operation of M that calls no function stands for the Go model's.
-/
import Derived.Test.YtlbophlgohokkaaGreatDoorMxOp10
import Derived.RangeFuncRecord
import Derived.OrdersIn
set_option linter.all false
namespace Go.Mx
open Go
section
variable {P:Program} {μ:Mu} {w:World} {st av:St} {r:T V} {n:Nat} {a:Act} {call:cA} {v:V}
def gp.kO:gp->Bool
 |.call _ _=>true
 |_=>false
theorem yD{α:Type}{a:Array α}{x:α}(h:a.toList=[x]):a=#[x]:=by
 apply uM;simpa using h
theorem GP{α:Type}{a:Array α}{x y:α}(h:a.toList=[x,y]):a=#[x,y]:=by
 apply uM;simpa using h
theorem Zu5(hh:bm P μ w st)(hr:RR μ r n a.tmps){b:Builtin}{ts:Array TypeId}{xs:Array Operand}{ty:TypeId}{cs:Array Bool}{m:gp}(hc:zw P ⟨.builtin b,xs,ts⟩=some m)
  (h:bZ m call r st=some (v,av)):bf P μ w st (builtin b ts ty cs (xs.map a.eval)) v av:=by
 simp only[zw]at hc
 split at hc
 ·rename_i t x ht hx
  have e1:=yD ht
  have e2:=yD hx
  subst e1 e2
  simp only[builtin,Bp,jU,ql]
  split at hc
  ·rename_i s hu hs
   simp only[ai]at hc;subst hc
   exact Zyo (call:=call) hh hr hu hs h
  ·rename_i e s hu hs
   simp only[ai]at hc;subst hc
   exact Zry (call:=call) hh hr hu hs h
  ·rename_i k e s hu hs
   simp only[ai]at hc;subst hc
   exact Zyp (call:=call) hh hr hu hs h
  ·rename_i k e s hu
   simp only[ai]at hc;subst hc
   exact Vo (call:=call) (r:=r) hh (.inl ⟨_,hu⟩) h
  ·rename_i u s hu
   split at hc
   ·rename_i k e eM
    simp only[ai]at hc;subst hc
    exact Vo (call:=call) (r:=r) hh (.inr ⟨_,_,hu,eM⟩) h
   ·cases hc
  ·cases hc
 ·rename_i t x ht hx
  have e1:=yD ht
  have e2:=yD hx
  subst e1 e2
  simp only[builtin,Bp,jU,ql]
  split at hc
  ·rename_i e s hu hs
   simp only[ai]at hc;subst hc
   exact Ypa (call:=call) hh hr hu hs h
  ·cases hc
 ·split at hc
  ·rename_i l hl
   simp only[ai]at hc;subst hc
   exact Yq1 (call:=call) hh hr hl h
  ·cases hc
 ·split at hc
  ·rename_i l hl
   simp only[ai]at hc;subst hc
   exact Yq0 (call:=call) hh hr hl h
  ·cases hc
 ·rename_i t u s x ht hx
  have e1:=GP ht
  have e2:=GP hx
  subst e1 e2
  simp only[builtin,Bp,jU,ql]
  split at hc
  ·rename_i e hu
   split at hc
   ·rename_i n' b' z s' x' d hs hb hz im ja hd
    rw[DO]at hc
    obtain⟨cG,hc⟩:=hc
    simp only[not_or,Decidable.not_not]at cG
    obtain⟨c1,c2,c3,c4⟩:=cG
    simp only[ai]at hc;subst hc
    have c4':z.cells.all V.one=true:=by simpa using c4
    exact Yeg (call:=call) hh hr (by rfl) hu (by rfl) hd (fun k hk=>by subst hk;simp at c1) hs hb hz c3 c4' c2 im ja h
   ·cases hc
  ·cases hc
 ·rename_i t ts' d s ht hx
  have e2:=GP hx
  subst e2
  simp only[builtin,Bp,jU,ql]
  split at hc
  ·rename_i e hu
   split at hc
   ·rename_i n' d' s' hs hd im
    simp only[ai]at hc;subst hc
    exact Ymq (call:=call) hh hr (by rw[<-uI,ht];rfl) hu hs hd im h
   ·cases hc
  ·cases hc
 ·rename_i t s ht hx
  have e1:=yD ht
  have e2:=yD hx
  subst e1 e2
  simp only[builtin,Bp,jU,ql]
  split at hc
  ·rename_i e hu
   split at hc
   ·rename_i n' z s' hs hz im
    split at hc
    ·rename_i eX
     simp only[ai]at hc;subst hc
     exact Yhz (call:=call) hh hr hu hz eX im h
    ·cases hc
   ·cases hc
  ·cases hc
 ·rename_i t s ht hx
  have e1:=yD ht
  have e2:=yD hx
  subst e1 e2
  simp only[builtin,Bp,jU,ql]
  simp only[iA]at hc
  obtain⟨s',hs,rfl⟩:=hc
  exact Yfi (call:=call) hh hr hs h
 ·rename_i t u x y ht hx
  have e1:=GP ht
  have e2:=GP hx
  subst e1 e2
  simp only[builtin,Bp,jU,ql]
  split at hc
  ·rename_i e hu
   split at hc
   ·rename_i s q hs hx hy
    simp only[ai]at hc;subst hc
    exact Yjt (call:=call) hh hr hu hs hx hy h
   ·cases hc
  ·cases hc
 ·cases hc
theorem Yn7(hh:bm P μ w st)(hr:RR μ r n a.tmps)(hE:pr P){o:Oper}{m:gp}(hc:DJ P o.op=some m)(hn:m.kO=false)(h:bZ m call r st=some (v,av)):
  bf P μ w st (execOp a.eval o) v av:=by
 obtain⟨dst,op,ty,pos,af,g⟩:=o
 cases op<;>simp only[DJ]at hc<;>try (cases hc;done)
 case move x=>simp only[iA]at hc;obtain⟨s,h1,rfl⟩:=hc;exact UW (call:=call) hh hr h1 h
 case assign x=>simp only[iA]at hc;obtain⟨s,h1,rfl⟩:=hc;exact UW (call:=call) hh hr h1 h
 case pick c x y=>
  split at hc
  ·rename_i h1 h2 h3
   simp only[ai]at hc;subst hc
   exact Yks (call:=call) hh hr h1 h2 h3 h
  ·cases hc
 case alloc e=>
  split at hc
  ·rename_i z hz
   split at hc
   ·rename_i eX
    simp only[ai]at hc;subst hc
    exact Yia (call:=call) (r:=r) hh hz eX h
   ·cases hc
  ·cases hc
 case box e x=>simp only[iA]at hc;obtain⟨s,h1,rfl⟩:=hc;exact Ypc (call:=call) hh hr h1 h
 case build t parts=>
  split at hc
  ·cases hc
  ·rename_i z hz
   split at hc
   ·rename_i fs nD
    split at hc
    ·rename_i pl jz
     simp only[iA]at hc
     obtain⟨pO,h1,rfl⟩:=hc
     exact Zn7 (call:=call) hh hr hz nD jz h1 h
    ·cases hc
   ·rename_i k e hu
    split at hc
    ·rename_i s hs
     simp only[iA]at hc
     obtain⟨pO,h1,rfl⟩:=hc
     exact Zok (call:=call) hh hr hz hu hs h1 h
    ·cases hc
   ·cases hc
 case buildSlice t len parts=>
  split at hc
  ·rename_i e hu
   split at hc
   ·rename_i s z hs hz
    split at hc
    ·cases hc
    ·rename_i cG
     simp only[not_or,Decidable.not_not]at cG
     simp only[iA]at hc
     obtain⟨pO,h1,rfl⟩:=hc
     exact Yee (call:=call) hh hr hu hs hz cG.1 cG.2.1 h1 h
   ·cases hc
  ·cases hc
 case load t x=>
  split at hc
  ·rename_i h1 h2
   simp only[ai]at hc;subst hc
   exact Ylm (call:=call) hh hr h1 h2 h
  ·cases hc
 case store t x y=>
  split at hc
  ·rename_i h1 h2 h3
   simp only[ai]at hc;subst hc
   exact Yfa (call:=call) hh hr h1 h2 h3 h
  ·cases hc
 case nilCheck x=>simp only[iA]at hc;obtain⟨s,h1,rfl⟩:=hc;exact Ygg (call:=call) hh hr h1 h
 case binOp op t x y p=>
  split at hc
  ·rename_i s u h1 h2
   have fin:∀q ng,Po P op t x y q ng->m=.bin op q ng s u->bf P μ w st (execOp a.eval ⟨dst,.binOp op t x y p,ty,pos,af,g⟩) v av:=by
    intro q ng hq hm
    subst hm
    exact Ypd (call:=call) hh hr h1 h2 hq h
   cases op
   case eql=>
    simp only at hc
    split at hc
    ·rename_i q hq
     rw[DO]at hc
     obtain⟨cG,hc⟩:=hc
     simp only[ai]at hc
     exact fin _ _ (fun _=>⟨hq,by rw[Bool.not_eq_true]at cG;exact cG,rfl⟩) hc.symm
    ·cases hc
   case neq=>
    simp only at hc
    split at hc
    ·rename_i q hq
     rw[DO]at hc
     obtain⟨cG,hc⟩:=hc
     simp only[ai]at hc
     exact fin _ _ (fun _=>⟨hq,by rw[Bool.not_eq_true]at cG;exact cG,rfl⟩) hc.symm
    ·cases hc
   all_goals
    simp only[ai]at hc
    exact fin _ _ (fun hq=>by rcases hq with hq|hq<;>cases hq) hc.symm
  ·cases hc
 case unOp op t x=>simp only[iA]at hc;obtain⟨s,h1,rfl⟩:=hc;exact Yp2 (call:=call) hh hr h1 h
 case convert src dst' x=>
  split at hc
  ·cases hc
  ·rename_i s h1
   split at hc
   ·rename_i q k hq hk
    simp only[ai]at hc;subst hc
    exact Zzp (call:=call) hh hr ⟨_,hq⟩ hk h1 h
   ·rename_i hq hk
    simp only[ai]at hc;subst hc
    exact Zzo (call:=call) hh hr hq hk h1 h
   ·rename_i e hq hk
    split at hc
    ·rename_i he
     simp only[ai]at hc;subst hc
     exact Ztd (call:=call) hh hr hq hk he h1 h
    ·cases hc
   ·rename_i e hq hk
    split at hc
    ·rename_i he
     simp only[ai]at hc;subst hc
     exact Zu4 (call:=call) hh hr hq hk he h1 h
    ·cases hc
   ·rename_i t hq hk
    split at hc
    ·rename_i z hz
     simp only[ai]at hc;subst hc
     exact Zz8 (call:=call) hh hr hq hk hz h1 h
    ·cases hc
   ·rename_i u hq hk
    split at hc
    ·rename_i z hz
     simp only[ai]at hc;subst hc
     exact Zs7 (call:=call) hh hr hq hk hz h1 h
    ·cases hc
   ·cases hc
 case makeInterface t x=>
  split at hc
  ·cases hc
  ·rename_i d bA hd
   simp only[iA]at hc;obtain⟨s,h1,rfl⟩:=hc
   exact Zyi (call:=call) hh hr hd (fun k hk=>bA k hk) h1 h
  ·cases hc
 case makeFunc f first fC=>
  cases f<;>simp only[reduceCtorEq]at hc
  split at hc
  ·rename_i h1 h2
   simp only[ai]at hc;subst hc
   exact Yca (call:=call) hh hr h1 h2 h
  ·cases hc
 case makeMap t rsv=>
  cases rsv<;>simp only[reduceCtorEq]at hc
  simp only[ai]at hc;subst hc
  exact Ygq (call:=call) (r:=r) hh h
 case makeChan t x=>
  split at hc
  ·rename_i d e hu
   split at hc
   ·rename_i hb hx
    simp only[ai]at hc;subst hc
    exact Ycb (call:=call) hh hr hu hb hx h
   ·cases hc
  ·cases hc
 case makeSlice t x y=>
  split at hc
  ·rename_i e hu
   split at hc
   ·rename_i hs hb hz hx hy
    split at hc
    ·rename_i eX
     simp only[ai]at hc;subst hc
     exact Zyh (call:=call) hh hr hu hs hb hz eX hx hy h
    ·cases hc
   ·cases hc
  ·cases hc
 case slice t x lo hi mx=>
  split at hc
  ·rename_i hx fl fQ dh
   split at hc
   ·rename_i hu
    split at hc
    ·cases hc
    ·rename_i GQ
     simp only[ai]at hc;subst hc
     have hm:mx=none:=by
      cases mx with
      |none=>rfl
      |some q=>
       simp only[nR]at dh
       split at dh
       ·simp only[ai]at dh
        subst dh;simp at GQ
       ·cases dh
     subst hm
     exact Ztg (call:=call) hh hr hu hx fl fQ h
   ·rename_i e hu
    simp only[iA]at hc;obtain⟨s,h1,rfl⟩:=hc
    exact Zxm (call:=call) hh hr hu h1 hx fl fQ dh h
   ·rename_i k e hu
    simp only[iA]at hc;obtain⟨s,h1,rfl⟩:=hc
    exact Zth (call:=call) hh hr hu h1 hx fl fQ dh h
   ·cases hc
  ·cases hc
 case fieldAddr t x i=>
  split at hc
  ·rename_i hu hx
   split at hc
   ·rename_i f hf
    split at hc
    ·rename_i hk
     simp only[ai]at hc;subst hc
     exact Yhg (call:=call) hh hr hu hf hk hx h
    ·cases hc
   ·cases hc
  ·cases hc
 case field t x i=>
  split at hc
  ·rename_i hu hx
   split at hc
   ·rename_i f hf
    simp only[iA]at hc;obtain⟨s,h1,rfl⟩:=hc
    exact Yhf (call:=call) hh hr hu hf h1 hx h
   ·cases hc
  ·cases hc
 case indexAddr t x i=>
  split at hc
  ·rename_i hu hx hi
   simp only[iA]at hc;obtain⟨s,h1,rfl⟩:=hc
   exact Zuq (call:=call) hh hr hu h1 hx hi h
  ·rename_i hu hx hi
   simp only[iA]at hc;obtain⟨s,h1,rfl⟩:=hc
   exact Zy9 (call:=call) hh hr hu h1 hx hi h
  ·cases hc
 case index t x i=>
  split at hc
  ·rename_i hu hx hi
   split at hc
   ·rename_i hs ha
    simp only[ai]at hc;subst hc
    exact Yc8 (call:=call) hh hr hu hs ha hx hi h
   ·cases hc
  ·rename_i hu hx hi
   simp only[ai]at hc;subst hc
   exact Yc6 (call:=call) hh hr hu hx hi h
  ·cases hc
 case lookup t x k ok=>
  split at hc
  ·rename_i hu hx hk
   split at hc
   ·rename_i h1 h2
    simp only[ai]at hc;subst hc
    exact Ych (call:=call) hh hr hu h1 h2 hx hk h
   ·cases hc
  ·cases hc
 case mapUpdate t x k y=>
  split at hc
  ·rename_i hu hx hk hy
   simp only[iA]at hc;obtain⟨s,h1,rfl⟩:=hc
   exact Vr (call:=call) hh hr hu h1 hx hk hy h
  ·cases hc
 case insert t x k y=>
  split at hc
  ·rename_i hu hx hk hy
   simp only[iA]at hc;obtain⟨s,h1,rfl⟩:=hc
   exact Vr (call:=call) hh hr hu h1 hx hk hy h
  ·cases hc
 case range t x=>
  split at hc
  ·rename_i hu hx
   simp only[ai]at hc;subst hc
   exact Zts (call:=call) hh hr hu hx h
  ·cases hc
 case next it isS=>
  cases isS<;>simp only[reduceCtorEq]at hc
  simp only[iA]at hc;obtain⟨s,h1,rfl⟩:=hc
  exact Zx4 (call:=call) hh hr h1 h
 case extract x i=>simp only[iA]at hc;obtain⟨s,h1,rfl⟩:=hc;exact Zzd (call:=call) hh hr h1 h
 case call c=>
  obtain⟨callee,args,ats⟩:=c
  cases callee with
  |invoke r' nm=>simp only[zw,reduceCtorEq]at hc
  |builtin b=>
   have:=Zu5 (ty:=ty) (cs:=args.map fun|.const _=>true|_=>false) hh hr hc h
   obtain⟨nx,x,w',μ',ws,k1,k2⟩:=this
   refine⟨nx,x,w',μ',ws,?_,k2⟩
   rw[<-k1]
   simp[execOp,resolve,invoke]
   rfl
  |value f=>
   simp only[zw]at hc
   split at hc
   ·cases hc
   ·rename_i ss An
    cases f<;>simp only at hc
    case func gid=>
     split at hc
     ·rename_i fn wo
      split at hc
      ·simp only[ai]at hc;subst hc;simp[gp.kO]at hn
      ·rename_i hb
       split at hc
       ·rename_i e he
        simp only[ai]at hc;subst hc
        have:=Yox (call:=call) hh hr hE wo (by simpa using hb) he An h
        obtain⟨nx,x,w',μ',ws,k1,k2⟩:=this
        refine⟨nx,x,w',μ',ws,?_,k2⟩
        rw[<-k1]
        have e0:(⟨List.map a.eval args.toList⟩:Array Value)=args.map a.eval:=by apply uM;simp
        rw[e0]
        simp[execOp,resolve,invoke,Deferred.ofValue,Act.eval]
       ·cases hc
     ·cases hc
    all_goals
     split at hc
     ·simp only[ai]at hc;subst hc;simp[gp.kO]at hn
     ·cases hc
end
abbrev FE(lb:Option Nat):Fence:={Fence.wide with round:=lb}
def B1(R:Value->World->Prop):Ending->World->Prop
 |.returned x,w=>R x w
 |_,_=>False
def Gd(P:Program)(y:Bool)(G:Value)(xs:Array Value)(w:World)(R:Value->World->Prop):Prop:=
 (∃d,(Deferred.ofValue G xs).run P w=.ok d w/\
  ((y=false/\∃f args,(invoke d.target d.args).run P w=.ok (.enter f args) w/\CallsIn Fence.wide 0 P f args w (B1 R))\/
     (y=true/\∃l f tmps fj fk,(invoke d.target d.args).run P w=.ok (.round l f tmps fj fk) w/\RoundIn Fence.wide 0 P l f tmps fj fk w (B1 R))))
def ik(P:Program)(call:cA):Prop:=
 ∀(g:V) (args:List V) (st:St) (v:V) (av:St),call g args st=some (v,av)->∀(μ:Mu) (w:World) (G:Value) (xs:List Value),bm P μ w st->VR μ g G->aW μ args xs->
  Gd P g.D6 G ⟨xs⟩ w fun x w'=>∃μ' ws,VR μ' v x/\bB P μ w st μ' w' av ws
def lY(μ:Mu):List Nat->List Deferred->Prop
 |[],ds=>ds=[]
 |m::ms,ds=>∃l Af,μ m=some l/\ds={target:=.collected l.b,args:=#[]}::Af/\lY μ ms Af
theorem lY.mono{μ μ':Mu}(h:∀i l,μ i=some l->μ' i=some l):∀{ms:List Nat} {ds:List Deferred},lY μ ms ds->lY μ' ms ds
 |[],_,hd=>hd
 |_::_,_,⟨l,Af,h1,h2,h3⟩=>⟨l,Af,h _ _ h1,h2,lY.mono h h3⟩
def jI(μ:Mu)(fr:Fr)(a:Act):Prop:=RR μ fr.r fr.n a.tmps/\lY μ fr.marks a.defers
theorem jI.mono{μ μ':Mu}(h:∀i l,μ i=some l->μ' i=some l){fr:Fr}{a:Act}(hf:jI μ fr a):jI μ' fr a:=⟨hf.1.mono h,hf.2.mono h⟩
section
variable {P:Program} {μ:Mu} {w:World} {st av:St} {fr bE:Fr} {a:Act} {call:cA} {v:V} {lb:Option Nat}
theorem bB.mono{μ':Mu}{w':World}{ws:List Nat}(hh:bm P μ w st)(h:bB P μ w st μ' w' av ws):∀i l,μ i=some l->μ' i=some l:=bm.Bh hh h.ext
theorem jI.put(hf:jI μ fr a){d:Option Nat}{x:Value}(hv:VR μ v x)(h:fr.put d v=some bE):jI μ bE (a.put d x):=by
 cases d with
 |none=>
  simp only[Fr.put,ai]at h;subst h
  exact hf
 |some d=>
  simp only[Fr.put]at h
  split at h
  ·rename_i hd
   simp only[ai]at h;subst h
   exact⟨hf.1.set hd hv,hf.2⟩
  ·cases h
theorem OK(bQ:ik P call)(hE:pr P)(hh:bm P μ w st)(hf:jI μ fr a){o:Oper}(h:bZ (uE P o.op) call fr.r st=some (v,av)){K:Act->World->Prop}{Q:Exit->Act->World->Prop}
  (hK:∀x w' μ' ws,VR μ' v x->bB P μ w st μ' w' av ws->K (a.put o.dst x) w'):o.wpIn (FE lb) 0 P a w K Q:=by
 refine⟨fun _ _=>trivial,?_⟩
 have xf:∀c,o.op≠.defer c:=by
  intro c hc
  rw[hc]at h
  simp only[uE,DJ,Option.getD_none]at h
  cases h
 show o.uponIn (FE lb) 0 P a K Q ((o.semAt lb a.eval).run P w)
 rw[Oper.semAt_eq _ _ _ xf]
 cases hc:DJ P o.op with
 |none=>
  simp only[uE,hc,Option.getD_none]at h
  cases h
 |some m=>
  simp only[uE,hc,og]at h
  by_cases hn:m.kO=true
  ·-- a call
   obtain⟨dst,op,ty,pos,af,g⟩:=o
   cases m<;>simp only[gp.kO,eL]at hn
   rename_i sf ss
   have sW:∃c f,op=.call c/\c.callee=.value f/\bu P f=some sf/\qg P c.args.toList=some ss:=by
    cases op<;>simp only[DJ]at hc<;>try (cases hc;done)
    case call c=>
     obtain⟨callee,args,ats⟩:=c
     cases callee with
     |invoke r' nm=>simp only[zw,reduceCtorEq]at hc
     |builtin b=>
      exfalso
      simp only[zw]at hc
      repeat' split at hc
      all_goals first|(cases hc;done)|(simp at hc;done)
     |value f=>
      simp only[zw]at hc
      split at hc
      ·cases hc
      ·rename_i ss' An
       refine⟨_,f,rfl,rfl,?_⟩
       cases f<;>simp only at hc
       case func gid=>
        split at hc
        ·split at hc
         ·simp only[ai,gp.call.injEq]at hc
          obtain⟨rfl,rfl⟩:=hc
          exact⟨rfl,An⟩
         ·split at hc
          ·simp at hc
          ·cases hc
        ·cases hc
       all_goals
        split at hc
        ·rename_i h1
         simp only[ai,gp.call.injEq]at hc
         obtain⟨rfl,rfl⟩:=hc
         exact⟨h1,An⟩
        ·cases hc
    all_goals
     exfalso
     repeat' split at hc
     all_goals first|(cases hc;done)|contradiction|(simp at hc;done)|(rw[DO]at hc;simp at hc;done)
   obtain⟨c,f,rfl,PH,h1,h2⟩:=sW
   have h':tH sf ss call fr.r st=some (v,av):=h
   unfold tH at h'
   split at h'
   ·rename_i gv l hg hl
    have hG:=cJ hh hf.1 h1 hg
    have hX:=B7 hh hf.1 h2 hl
    obtain⟨d,hd,fX⟩:=bQ _ _ _ _ _ h' μ w _ _ hh hG hX
    have e0:(⟨List.map a.eval c.args.toList⟩:Array Value)=c.args.map a.eval:=by apply uM;simp
    rw[e0]at hd
    have o9:(resolve a.eval c ty).run P w=.ok d w:=by
     simp only[resolve,PH]
     exact hd
    rcases fX with⟨_,g',args,hinv,Eg⟩|⟨_,l',g',tmps,fj,fk,hinv,Eh⟩
    ·have bI:(execOp a.eval ⟨dst,.call c,ty,pos,af,g⟩).run P w=.ok (.enter g' args) w:=by
      simp only[execOp,Sem.run_bind,o9,Result.andThen_ok,hinv]
     rw[bI,Oper.uponIn_enter]
     refine⟨fun hx=>by simp[Fence.wide]at hx,?_⟩
     refine CallsIn.mono (F:=Fence.wide) Eg fun e w' he=>?_
     cases e with
     |returned x=>
      obtain⟨μ',ws,q1,q2⟩:=he
      exact hK x w' μ' ws q1 q2
     |panicked _=>exact he.elim
     |outgrown=>exact he.elim
    ·have bI:(execOp a.eval ⟨dst,.call c,ty,pos,af,g⟩).run P w=.ok (.round l' g' tmps fj fk) w:=by
      simp only[execOp,Sem.run_bind,o9,Result.andThen_ok,hinv]
     rw[bI,Oper.uponIn_round]
     refine⟨fun hx=>by simp[Fence.wide]at hx,?_⟩
     refine RoundIn.mono (F:=Fence.wide) Eh fun e w' he=>?_
     cases e with
     |returned x=>
      obtain⟨μ',ws,q1,q2⟩:=he
      exact hK x w' μ' ws q1 q2
     |panicked _=>exact he.elim
     |outgrown=>exact he.elim
   ·cases h'
  ·obtain⟨nx,x,w',μ',ws,k1,k2,k3,k4⟩:=Yn7 hh hf.1 hE hc (by simpa using hn) h
   rw[k1]
   rcases k2 with rfl|⟨rfl,rfl⟩
   ·rw[Oper.uponIn_value];exact hK x w' μ' ws k3 k4
   ·rw[Oper.uponIn_skip];exact hK undef w' μ' ws k3 k4
theorem T9{ops:Array Oper}{o:Oper}{g:Option (Nat×Bool)}(hr:RR μ fr.r fr.n a.tmps)(hg:Bf ops o.guard=some g){b:Bool}(h:bP fr.r g=some b):Region.wanted o (yielded ops a.tmps)=b:=by
 unfold Region.wanted
 cases ho:o.guard with
 |none=>
  rw[ho]at hg
  simp only[Bf,ai]at hg;subst hg
  simp only[bP,ai]at h
  exact h
 |some p=>
  obtain⟨j,want⟩:=p
  rw[ho]at hg
  simp only[Bf]at hg
  split at hg
  ·rename_i t ht
   simp only[ai]at hg;subst hg
   simp only[bP]at h
   split at h
   ·rename_i b' hb
    simp only[ai]at h;subst h
    obtain⟨x,hx,hv⟩:=hr.2 _ _ hb
    simp only[VR]at hv
    subst hv
    simp[yielded,ht,hx]
   ·rename_i l hb
    simp only[ai]at h;subst h
    obtain⟨x,hx,y,hv,_⟩:=hr.2 _ _ hb
    subst hv
    simp[yielded,ht,hx]
   ·cases h
  ·cases hg
end
def Em:Ex->Exit
 |.normal=>.normal
 |.exit id=>.exit id
 |.ret=>.ret
def Eu(μ:Mu):Option Nat->Option Nat->Prop
 |none,none=>True
 |some l,some b=>∃L,μ l=some L/\L.b=b
 |_,_=>False
theorem Eu.mono{μ μ':Mu}(h:∀i l,μ i=some l->μ' i=some l){ro lb:Option Nat}(hr:Eu μ ro lb):Eu μ' ro lb:=by
 cases ro<;>cases lb<;>simp only[Eu]at*
 obtain⟨L,h1,h2⟩:=hr
 exact⟨L,h _ _ h1,h2⟩
def pM(P:Program)(μ:Mu)(w:World)(st:St)(ex:Ex)(bE:Fr)(av:St):Exit->Act->World->Prop:=fun e a' w'=>
 e=Em ex/\∃μ' ws,bB P μ w st μ' w' av ws/\jI μ' bE a'
section
variable {P:Program} {μ:Mu} {w:World} {st av:St} {fr bE:Fr} {a:Act} {call:cA} {v:V} {lb:Option Nat}
theorem UF(bQ:ik P call)(hE:pr P){ops:Array Oper}{Q:Exit->Act->World->Prop}:∀(is:List Nat) (os:List Oper),is.map (fun i=>ops[i]?)=os.map some->
  ∀{st:St} {fr:Fr} {a:Act} {w:World} {μ:Mu},bm P μ w st->jI μ fr a->de call (os.map (m_ P ops)) fr st=some (bE,av)->
   (∀a' w' μ' ws,jI μ' bE a'->bB P μ w st μ' w' av ws->Q .normal a' w')->wpOpsIn (FE lb) 0 P ops Q is a w:=by
 intro is
 induction is with
 |nil=>
  intro os uG st fr a w μ hh hf h hQ
  cases os with
  |cons o os=>simp at uG
  |nil=>
   simp only[ql,de,TR,ai,bo]at h
   obtain⟨rfl,rfl⟩:=h
   exact hQ a w μ [] hf (bB.refl hh)
 |cons i is ih=>
  intro os uG st fr a w μ hh hf h hQ
  cases os with
  |nil=>simp at uG
  |cons o os=>
   simp only[jU,fL]at uG
   obtain⟨hoi,uG⟩:=uG
   simp only[jU,de,wW]at h
   unfold wpOpsIn
   rw[hoi]
   simp only[]
   have go:∀(v:V) (bR:St) (dw:Fr) (x:Value) (w1:World) (μ1:Mu) (ws:List Nat),VR μ1 v x->bB P μ w st μ1 w1 bR ws->fr.put o.dst v=some dw->de call (os.map (m_ P ops)) dw bR=some (bE,av)->
     wpOpsIn (FE lb) 0 P ops Q is (a.put o.dst x) w1:=by
    intro v bR dw x w1 μ1 ws hv hs hp hm
    refine ih os uG hs.hr ((hf.mono (hs.mono hh)).put hv hp) hm fun a' w' μ' xW PI im=>?_
    exact hQ a' w' μ' _ PI (hs.trans im)
   unfold m_ at h
   cases hg:Bf ops o.guard with
   |none=>
    rw[hg]at h
    simp only[bP,bZ,Of]at h
    cases h
   |some g=>
    rw[hg]at h
    simp only at h
    cases hw:bP fr.r g with
    |none=>rw[hw]at h;cases h
    |some b=>
     rw[hw]at h
     have rF:=T9 hf.1 hg hw
     cases b with
     |true=>
      rw[aF rF]
      simp only at h
      split at h
      ·rename_i v1 bR hm
       split at h
       ·rename_i dw hp
        exact OK bQ hE hh hf hm fun x w' μ' ws q1 q2=>go v1 bR dw x w' μ' ws q1 q2 hp h
       ·cases h
      ·cases h
     |false=>
      rw[ar (by rw[rF];simp)]
      simp only at h
      split at h
      ·rename_i dw hp
       exact⟨fun _ _=>trivial,go (.bb []) st dw undef w μ [] ⟨[],rfl,by simp[aW]⟩ (bB.refl hh) hp h⟩
      ·cases h
theorem Ybe{ops:Array Oper}:(List.range ops.size).map (fun i=>ops[i]?)=ops.toList.map some:=by
 apply iW
 intro i
 simp only[iX]
 by_cases h:i<ops.size
 ·simp[h]
 ·simp[h]
theorem Zof{F:Fence}{n:Nat}{c:Code}{Q:Exit->Act->World->Prop}(J:Nat->Act->World->Prop)
  (round:∀f a w,J f a w->c.wpIn F n P (Exit.then (fun a' w'=>∃f',f'<f/\J f' a' w') Q) a w) {f:Nat} (h₀:J f a w):(Code.loop c).wpIn F n P Q a w:=by
 intro b k cs jX hb hr
 have key:∀j a w,J j a w->
   ∃e a' w',Q e a' w'/\ArrivesIn (Machine.fenced P F) P (lone (b.atR a (.code c::.inLoop c::k)) cs w) b k cs e a' w':=by
  intro j
  induction j using Nat.strongRecOn with
  |_ j ih=>
   intro a w hI
   obtain⟨e,a₁,w₁,hq,fY⟩:=round j a w hI b (.inLoop c::k) cs jX hb hr
   cases e with
   |normal=>
    obtain⟨f',aB,hI₁⟩:=hq
    obtain⟨e₂,a₂,w₂,hq₂,GR⟩:=ih f' aB a₁ w₁ hI₁
    exact⟨e₂,a₂,w₂,hq₂,.of_steps (StepsIn.trans fY (.one (fenced_calm hb hr rfl) stepR_inLoop)) GR⟩
   |exit id=>exact⟨_,a₁,w₁,hq,.pass (x:=.inLoop c) rfl (fun _ _=>.inl (by simp)) fY⟩
   |goto l=>exact⟨_,a₁,w₁,hq,.pass (x:=.inLoop c) rfl (fun _ _=>.inl (by simp)) fY⟩
   |ret=>exact⟨_,a₁,w₁,hq,.pass (x:=.inLoop c) rfl (fun _ _=>.inl (by simp)) fY⟩
   |panic ch=>exact⟨_,a₁,w₁,hq,.pass (x:=.inLoop c) rfl (fun _ _=>.inl (by simp)) fY⟩
   |outgrown=>exact⟨_,a₁,w₁,hq,.pass (x:=.inLoop c) rfl (fun _ _=>.inl (by simp)) fY⟩
 obtain⟨e,a',w',hq,fY⟩:=key _ a w h₀
 exact⟨e,a',w',hq,.of_steps (.one (fenced_calm hb hr rfl) stepR_loop) fY⟩
theorem Ev{b:Frame}{k:List Item}{cs:List Frame}{c:Code}:
  step P (lone (b.atR a (.code (.scope c)::k)) cs w)=.next (lone (b.atR a (.code c::.inScope c::k)) cs w):=
 step_lone_go (by simp[stepG,stepG.exec,Frame.atR])
theorem Zpq{b:Frame}{k:List Item}{cs:List Frame}{c:Code}:
  step P (lone (b.atR a (.inScope c::k)) cs w)=.next (lone (b.atR a k) cs w):=
 step_lone_go (by simp[stepG,stepG.exec,Frame.atR])
theorem Zxg{F:Fence}{n:Nat}{c:Code}{Q:Exit->Act->World->Prop}(h:c.wpIn F n P Q a w)(hq:∀l a w,¬Q (.goto l) a w):(Code.scope c).wpIn F n P Q a w:=by
 intro b k cs jX hb hr
 have h0:(lone (b.atR a (.code (.scope c)::k)) cs w).fenced P F:=fenced_calm hb hr rfl
 obtain⟨e,a₁,w₁,hQ,fY⟩:=h b (.inScope c::k) cs jX hb hr
 cases e with
 |normal=>exact⟨.normal,a₁,w₁,hQ,.head h0 Ev (StepsIn.trans fY (.one (fenced_calm hb hr rfl) Zpq))⟩
 |exit id=>
  have hx:exitTo id (.inScope c::k)=exitTo id k:=by simp[exitTo]
  exact⟨.exit id,a₁,w₁,hQ,fun k' hk=>.head h0 Ev (fY.1 k' (by rw[hx];exact hk)),
   fun PJ hk=>let ⟨k₁,h1,h2⟩:=fY.2 PJ (by rw[hx];exact hk);⟨k₁,h1,.head h0 Ev h2⟩⟩
 |goto l=>exact absurd hQ (hq l a₁ w₁)
 |ret=>exact⟨_,a₁,w₁,hQ,.of_steps (.one h0 Ev) fY⟩
 |panic ch=>exact⟨_,a₁,w₁,hQ,.of_steps (.one h0 Ev) fY⟩
 |outgrown=>exact⟨_,a₁,w₁,hQ,.of_steps (.one h0 Ev) fY⟩
theorem pM.after{μ1:Mu}{w1:World}{bR:St}{ws:List Nat}(hs:bB P μ w st μ1 w1 bR ws){ex:Ex}{e:Exit}{a':Act}{w':World}(h:pM P μ1 w1 bR ex bE av e a' w'):pM P μ w st ex bE av e a' w':=by
 obtain⟨h1,μ',xW,h2,h3⟩:=h
 exact⟨h1,μ',_,hs.trans h2,h3⟩
theorem pM.then{μ:Mu}{ex:Ex}{dw:Fr}{bR:St}{K:Act->World->Prop}{Q:Exit->Act->World->Prop}{e:Exit}{a':Act}{w':World}(h:pM P μ w st ex dw bR e a' w')
  (hn:ex=.normal->K a' w') (hq:ex≠.normal->Q e a' w'):Exit.then K Q e a' w':=by
 obtain⟨rfl,h⟩:=h
 cases ex<;>simp only[Em,Exit.then]
 ·exact hn rfl
 ·exact hq (by simp)
 ·exact hq (by simp)
def Ek(P:Program)(code:mB):Prop:=
 ∀(ro:Option Nat) (c:Code) (fr:Fr) (st:St) (ex:Ex) (bE:Fr) (av:St),code ro (gL P c) fr st=some (ex,bE,av)->
  ∀(μ:Mu) (w:World) (a:Act) (lb:Option Nat),bm P μ w st->jI μ fr a->Eu μ ro lb->c.wpIn (FE lb) 0 P (pM P μ w st ex bE av) a w
def Uh(P:Program)(call:cA):Prop:=
 ∀(id:Nat) (ops:Array Oper) (fr:Fr) (st:St) (ex:Ex) (bE:Fr) (av:St),NX P ops=true->uT (ops.toList.map (m_ P ops)) (qi ops.toList []) call JP none fr st=some (ex,bE,av)->
  ∀(μ:Mu) (w:World) (a:Act) (lb:Option Nat),bm P μ w st->jI μ fr a->(Code.region id ops true).wpIn (FE lb) 0 P (pM P μ w st ex bE av) a w
def UC(P:Program)(call:cA):Prop:=
 ∀(id:Nat) (ops:Array Oper) (o:Oper) (rest:List Oper) (d:Option Nat) (ch:Src) (s:Option Src) (z:V) (fr:Fr) (st:St) (ex:Ex) (bE:Fr) (av:St),ops.toList=o::rest->JB P o=some (d,ch,s,z)->
  uU d ch s z (rest.map (m_ P ops)) call JP none fr st=some (ex,bE,av)->
  ∀(μ:Mu) (w:World) (a:Act) (lb:Option Nat),bm P μ w st->jI μ fr a->(Code.region id ops false).wpIn (FE lb) 0 P (pM P μ w st ex bE av) a w
def Uv(P:Program)(call:cA):Prop:=
 ∀(ro:Option Nat) (g:Operand) (s:Src) (ps:Array Nat) (fj fk:Code) (fr:Fr) (st:St) (ex:Ex) (bE:Fr) (av:St),bu P g=some s->
  yi s ps.toList (gL P fj) (gL P fk) call JP ro fr st=some (ex,bE,av)->
  ∀(μ:Mu) (w:World) (a:Act) (lb:Option Nat),bm P μ w st->jI μ fr a->Eu μ ro lb->(Code.rangeFunc g ps fj fk).wpIn (FE lb) 0 P (pM P μ w st ex bE av) a w
theorem Vs(bQ:ik P call)(hE:pr P)(hD:Uh P call)(hS:UC P call)(hR:Uv P call):∀fuel,Ek P (dE call fuel):=by
 intro fuel
 induction fuel using Nat.strongRecOn with
 |_ fuel ihs=>
 cases fuel with
 |zero=>intro ro c fr st ex bE av h;cases h
 |succ f=>
  have ih:Ek P (dE call f):=ihs f (qk f)
  intro ro c fr st ex bE av h μ w a lb hh hf jX
  cases c with
  |skip=>
   simp only[gL,dE,jV,Og,ai,bo]at h
   obtain⟨rfl,rfl,rfl⟩:=h
   exact wpIn_skip ⟨rfl,μ,[],bB.refl hh,hf⟩
  |label l=>
   simp only[gL,dE,jV,Og,ai,bo]at h
   obtain⟨rfl,rfl,rfl⟩:=h
   exact wpIn_label ⟨rfl,μ,[],bB.refl hh,hf⟩
  |exit id=>
   simp only[gL,dE,jV,TT,ai,bo]at h
   obtain⟨rfl,rfl,rfl⟩:=h
   exact wpIn_exit ⟨rfl,μ,[],bB.refl hh,hf⟩
  |ret=>
   simp only[gL,dE,jV,TV,ai,bo]at h
   obtain⟨rfl,rfl,rfl⟩:=h
   exact wpIn_ret ⟨rfl,μ,[],bB.refl hh,hf⟩
  |goto l=>simp only[gL,dE,jV,D7]at h;cases h
  |refuse why=>simp only[gL,dE,jV,D7]at h;cases h
  |region id ops draw=>
   cases draw with
   |true=>
    simp only[gL]at h
    split at h
    ·rename_i hp
     simp only[dE,jV]at h
     exact hD id ops fr st ex bE av hp h μ w a lb hh hf
    ·simp only[dE,jV,D7]at h;cases h
   |false=>
    have plain:uS (ops.toList.map (m_ P ops)) call (dE call f) ro fr st=some (ex,bE,av)->(Code.region id ops false).wpIn (FE lb) 0 P (pM P μ w st ex bE av) a w:=by
     intro h
     simp only[uS]at h
     split at h
     ·rename_i dw bR hm
      simp only[ai,bo]at h
      obtain⟨rfl,rfl,rfl⟩:=h
      exact wpIn_region (UF bQ hE _ _ Ybe hh hf hm fun a' w' μ' ws q1 q2=>⟨rfl,μ',ws,q2,q1⟩)
     ·cases h
    simp only[gL,dE]at h
    split at h
    ·rename_i ho
     exact plain (by rw[ho];exact h)
    ·rename_i o rest ho
     split at h
     ·rename_i d ch s z hs
      exact hS id ops o rest d ch s z fr st ex bE av ho hs h μ w a lb hh hf
     ·exact plain (by rw[ho];exact h)
  |seq x y=>
   simp only[gL,dE,jV,wZ]at h
   refine wpIn_seq ?_
   split at h
   ·rename_i dw bR hx
    refine wpIn_mono (ih ro x fr st _ _ _ hx μ w a lb hh hf jX) fun e a' w' hp=>?_
    have nQ:=hp
    obtain⟨he,μ1,ws,hs,sV⟩:=hp
    refine nQ.then (fun _=>?_) (fun bA=>absurd rfl bA)
    exact wpIn_mono (ih ro y dw bR ex bE av h μ1 w' a' lb hs.hr sV (jX.mono (hs.mono hh))) fun e2 a2 w2 tO=>tO.after hs
   ·rename_i hx
    refine wpIn_mono (ih ro x fr st _ _ _ h μ w a lb hh hf jX) fun e a' w' hp=>?_
    refine hp.then (fun hn=>?_) (fun _=>hp)
    subst hn
    exact absurd h (hx bE av)
  |cond x p q=>
   simp only[gL]at h
   split at h
   ·rename_i s hs
    simp only[dE,jV,sQ]at h
    split at h
    ·rename_i hv
     have:=cJ hh hf.1 hs hv
     exact wpIn_cond_true (by simpa[VR]using this) (ih ro p fr st ex bE av h μ w a lb hh hf jX)
    ·rename_i hv
     have:=cJ hh hf.1 hs hv
     exact wpIn_cond_false (by simpa[VR]using this) (ih ro q fr st ex bE av h μ w a lb hh hf jX)
    ·cases h
   ·simp only[dE,jV,D7]at h;cases h
  |block id c=>
   simp only[gL,dE,jV,w6]at h
   refine wpIn_block ?_
   split at h
   ·rename_i w_ dw bR hx
    refine wpIn_mono (ih ro c fr st _ _ _ hx μ w a lb hh hf jX) fun e a' w' hp=>?_
    obtain⟨rfl,hp⟩:=hp
    simp only[Em,Exit.inBlock]
    split at h
    ·rename_i wI
     simp only[ai,bo]at h
     obtain⟨rfl,rfl,rfl⟩:=h
     rw[aF (JF wI)]
     exact⟨rfl,hp⟩
    ·rename_i wI
     simp only[ai,bo]at h
     obtain⟨rfl,rfl,rfl⟩:=h
     rw[ar (Nat.ne_of_beq_eq_false wI)]
     exact⟨rfl,hp⟩
   ·rename_i hx
    refine wpIn_mono (ih ro c fr st _ _ _ h μ w a lb hh hf jX) fun e a' w' hp=>?_
    have nQ:=hp
    obtain⟨rfl,hp⟩:=hp
    cases ex with
    |normal=>exact nQ
    |ret=>exact nQ
    |exit w_=>exact absurd h (hx w_ bE av)
  |loop c=>
   refine Zof (fun k a1 w1=>k<=f+1/\∃dw bR μ1 ws,bB P μ w st μ1 w1 bR ws/\jI μ1 dw a1/\dE call k ro (.loop (gL P c)) dw bR=some (ex,bE,av)) ?_
    (f:=f+1) ⟨aV _,fr,st,μ,[],bB.refl hh,hf,h⟩
   intro k a1 w1 hJ
   obtain⟨hk,dw,bR,μ1,ws,hs,sV,hm⟩:=hJ
   cases k with
   |zero=>cases hm
   |succ k=>
    simp only[dE,jV,xa]at hm
    have Vt:Ek P (dE call k):=ihs k (by omega)
    split at hm
    ·rename_i tN eh hx
     refine wpIn_mono (Vt ro c dw bR _ _ _ hx μ1 w1 a1 lb hs.hr sV (jX.mono (hs.mono hh))) fun e a' w' hp=>?_
     have nQ:=hp
     obtain⟨he,μ2,OY,kI,dX⟩:=hp
     refine nQ.then (fun _=>?_) (fun bA=>absurd rfl bA)
     exact⟨k,qk k,by omega,tN,eh,μ2,_,hs.trans kI,dX,hm⟩
    ·rename_i hx
     refine wpIn_mono (Vt ro c dw bR _ _ _ hm μ1 w1 a1 lb hs.hr sV (jX.mono (hs.mono hh))) fun e a' w' hp=>?_
     refine hp.then (fun hn=>?_) (fun _=>hp.after hs)
     subst hn
     exact absurd hm (hx bE av)
  |scope c=>
   simp only[gL,dE,jV,TU]at h
   refine Zxg (ih ro c fr st ex bE av h μ w a lb hh hf jX) fun l a' w' hp=>?_
   obtain⟨he,_⟩:=hp
   cases ex<;>simp[Em]at he
  |rangeFunc g ps fj fk=>
   simp only[gL]at h
   split at h
   ·rename_i s hs
    simp only[dE,jV]at h
    exact hR ro g s ps fj fk fr st ex bE av hs h μ w a lb hh hf jX
   ·simp only[dE,jV,D7]at h;cases h
end
end Go.Mx
