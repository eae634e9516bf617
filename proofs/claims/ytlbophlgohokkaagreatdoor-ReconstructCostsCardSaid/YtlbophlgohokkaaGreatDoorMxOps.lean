/-
  Every operation of M that calls no function stands for the Go model's.
-/
import Derived.Test.YtlbophlgohokkaaGreatDoorMxOp10
import Derived.RangeFuncRecord
import Derived.OrdersIn
set_option linter.all false
namespace Go.Mx
open Go
section
variable {P:Program} {μ:Mu} {w:World} {st st':St} {r:T V} {n:Nat} {a:Act} {call:Za3} {v:V}
def MOp.isCall:MOp→Bool
 |.call _ _=>true
 |_=>false
theorem Zpv{α:Type}{a:Array α}{x:α}(h:a.toList=[x]):a=#[x]:=by
 apply Yuz;simpa using h
theorem Ybp{α:Type}{a:Array α}{x y:α}(h:a.toList=[x,y]):a=#[x,y]:=by
 apply Yuz;simpa using h
theorem Zun(hh:Zbd P μ w st)(hr:RR μ r n a.tmps){b:Builtin}{ts:Array TypeId}{xs:Array Operand}{ty:TypeId}{cs:Array Bool}{m:MOp}(hc:Zse P ⟨.builtin b,xs,ts⟩=some m)
  (h:mop m call r st=some (v,st')):Za6 P μ w st (builtin b ts ty cs (xs.map a.eval)) v st':=by
 simp only[Zse]at hc
 split at hc
 ·rename_i t x ht hx
  have e1:=Zpv ht
  have e2:=Zpv hx
  subst e1 e2
  simp only[builtin,Yuy,Yso,Ytn]
  split at hc
  ·rename_i s hu hs
   simp only[Yro]at hc;subst hc
   exact Zxw (call:=call) hh hr hu hs h
  ·rename_i e s hu hs
   simp only[Yro]at hc;subst hc
   exact Zrm (call:=call) hh hr hu hs h
  ·rename_i k e s hu hs
   simp only[Yro]at hc;subst hc
   exact Zxx (call:=call) hh hr hu hs h
  ·rename_i k e s hu
   simp only[Yro]at hc;subst hc
   exact Zrn (call:=call) (r:=r) hh (.inl ⟨_,hu⟩) h
  ·rename_i u s hu
   split at hc
   ·rename_i k e hu2
    simp only[Yro]at hc;subst hc
    exact Zrn (call:=call) (r:=r) hh (.inr ⟨_,_,hu,hu2⟩) h
   ·cases hc
  ·cases hc
 ·rename_i t x ht hx
  have e1:=Zpv ht
  have e2:=Zpv hx
  subst e1 e2
  simp only[builtin,Yuy,Yso,Ytn]
  split at hc
  ·rename_i e s hu hs
   simp only[Yro]at hc;subst hc
   exact Yny (call:=call) hh hr hu hs h
  ·cases hc
 ·split at hc
  ·rename_i l hl
   simp only[Yro]at hc;subst hc
   exact Ype (call:=call) hh hr hl h
  ·cases hc
 ·split at hc
  ·rename_i l hl
   simp only[Yro]at hc;subst hc
   exact Ypd (call:=call) hh hr hl h
  ·cases hc
 ·rename_i t u s x ht hx
  have e1:=Ybp ht
  have e2:=Ybp hx
  subst e1 e2
  simp only[builtin,Yuy,Yso,Ytn]
  split at hc
  ·rename_i e hu
   split at hc
   ·rename_i n' b' z s' x' d hs hb hz hs' hx' hd
    rw[Yt2]at hc
    obtain⟨hcond,hc⟩:=hc
    simp only[not_or,Decidable.not_not]at hcond
    obtain⟨c1,c2,c3,c4⟩:=hcond
    simp only[Yro]at hc;subst hc
    have c4':z.cells.all V.one=true:=by simpa using c4
    exact Ydf (call:=call) hh hr (by rfl) hu (by rfl) hd (fun k hk=>by subst hk;simp at c1) hs hb hz c3 c4' c2 hs' hx' h
   ·cases hc
  ·cases hc
 ·rename_i t ts' d s ht hx
  have e2:=Ybp hx
  subst e2
  simp only[builtin,Yuy,Yso,Ytn]
  split at hc
  ·rename_i e hu
   split at hc
   ·rename_i n' d' s' hs hd hs'
    simp only[Yro]at hc;subst hc
    exact Ylg (call:=call) hh hr (by rw[←Ytc,ht];rfl) hu hs hd hs' h
   ·cases hc
  ·cases hc
 ·rename_i t s ht hx
  have e1:=Zpv ht
  have e2:=Zpv hx
  subst e1 e2
  simp only[builtin,Yuy,Yso,Ytn]
  split at hc
  ·rename_i e hu
   split at hc
   ·rename_i n' z s' hs hz hs'
    split at hc
    ·rename_i hone
     simp only[Yro]at hc;subst hc
     exact Ygs (call:=call) hh hr hu hz hone hs' h
    ·cases hc
   ·cases hc
  ·cases hc
 ·rename_i t s ht hx
  have e1:=Zpv ht
  have e2:=Zpv hx
  subst e1 e2
  simp only[builtin,Yuy,Yso,Ytn]
  simp only[Yrz]at hc
  obtain⟨s',hs,rfl⟩:=hc
  exact Yed (call:=call) hh hr hs h
 ·rename_i t u x y ht hx
  have e1:=Ybp ht
  have e2:=Ybp hx
  subst e1 e2
  simp only[builtin,Yuy,Yso,Ytn]
  split at hc
  ·rename_i e hu
   split at hc
   ·rename_i s q hs hx hy
    simp only[Yro]at hc;subst hc
    exact Yio (call:=call) hh hr hu hs hx hy h
   ·cases hc
  ·cases hc
 ·cases hc
theorem Ymx(hh:Zbd P μ w st)(hr:RR μ r n a.tmps)(hE:Zek P){o:Oper}{m:MOp}(hc:Ymc P o.op=some m)(hn:m.isCall=false)(h:mop m call r st=some (v,st')):
  Za6 P μ w st (execOp a.eval o) v st':=by
 obtain⟨dst,op,ty,pos,af,g⟩:=o
 cases op<;>simp only[Ymc]at hc<;>try (cases hc;done)
 case move x=>simp only[Yrz]at hc;obtain⟨s,h1,rfl⟩:=hc;exact Yhp (call:=call) hh hr h1 h
 case assign x=>simp only[Yrz]at hc;obtain⟨s,h1,rfl⟩:=hc;exact Yhp (call:=call) hh hr h1 h
 case pick c x y=>
  split at hc
  ·rename_i h1 h2 h3
   simp only[Yro]at hc;subst hc
   exact Yjl (call:=call) hh hr h1 h2 h3 h
  ·cases hc
 case alloc e=>
  split at hc
  ·rename_i z hz
   split at hc
   ·rename_i hone
    simp only[Yro]at hc;subst hc
    exact Yg3 (call:=call) (r:=r) hh hz hone h
   ·cases hc
  ·cases hc
 case box e x=>simp only[Yrz]at hc;obtain⟨s,h1,rfl⟩:=hc;exact Yn0 (call:=call) hh hr h1 h
 case build t parts=>
  split at hc
  ·cases hc
  ·rename_i z hz
   split at hc
   ·rename_i fs hfs
    split at hc
    ·rename_i pl hpl
     simp only[Yrz]at hc
     obtain⟨cps,h1,rfl⟩:=hc
     exact Znp (call:=call) hh hr hz hfs hpl h1 h
    ·cases hc
   ·rename_i k e hu
    split at hc
    ·rename_i s hs
     simp only[Yrz]at hc
     obtain⟨cps,h1,rfl⟩:=hc
     exact Zn4 (call:=call) hh hr hz hu hs h1 h
    ·cases hc
   ·cases hc
 case buildSlice t len parts=>
  split at hc
  ·rename_i e hu
   split at hc
   ·rename_i s z hs hz
    split at hc
    ·cases hc
    ·rename_i hcond
     simp only[not_or,Decidable.not_not]at hcond
     simp only[Yrz]at hc
     obtain⟨cps,h1,rfl⟩:=hc
     exact Ydc (call:=call) hh hr hu hs hz hcond.1 hcond.2.1 h1 h
   ·cases hc
  ·cases hc
 case load t x=>
  split at hc
  ·rename_i h1 h2
   simp only[Yro]at hc;subst hc
   exact Ykg (call:=call) hh hr h1 h2 h
  ·cases hc
 case store t x y=>
  split at hc
  ·rename_i h1 h2 h3
   simp only[Yro]at hc;subst hc
   exact Yd6 (call:=call) hh hr h1 h2 h3 h
  ·cases hc
 case nilCheck x=>simp only[Yrz]at hc;obtain⟨s,h1,rfl⟩:=hc;exact Ye4 (call:=call) hh hr h1 h
 case binOp op t x y p=>
  split at hc
  ·rename_i s u h1 h2
   have fin:∀q ng,Yl7 P op t x y q ng→m=.bin op q ng s u→Za6 P μ w st (execOp a.eval ⟨dst,.binOp op t x y p,ty,pos,af,g⟩) v st':=by
    intro q ng hq hm
    subst hm
    exact Yn1 (call:=call) hh hr h1 h2 hq h
   cases op
   case eql=>
    simp only at hc
    split at hc
    ·rename_i q hq
     rw[Yt2]at hc
     obtain⟨hcond,hc⟩:=hc
     simp only[Yro]at hc
     exact fin _ _ (fun _=>⟨hq,by rw[Bool.not_eq_true]at hcond;exact hcond,rfl⟩) hc.symm
    ·cases hc
   case neq=>
    simp only at hc
    split at hc
    ·rename_i q hq
     rw[Yt2]at hc
     obtain⟨hcond,hc⟩:=hc
     simp only[Yro]at hc
     exact fin _ _ (fun _=>⟨hq,by rw[Bool.not_eq_true]at hcond;exact hcond,rfl⟩) hc.symm
    ·cases hc
   all_goals
    simp only[Yro]at hc
    exact fin _ _ (fun hq=>by rcases hq with hq|hq<;>cases hq) hc.symm
  ·cases hc
 case unOp op t x=>simp only[Yrz]at hc;obtain⟨s,h1,rfl⟩:=hc;exact Yoi (call:=call) hh hr h1 h
 case convert src dst' x=>
  split at hc
  ·cases hc
  ·rename_i s h1
   split at hc
   ·rename_i q k hq hk
    simp only[Yro]at hc;subst hc
    exact Zyu (call:=call) hh hr ⟨_,hq⟩ hk h1 h
   ·rename_i hq hk
    simp only[Yro]at hc;subst hc
    exact Zyt (call:=call) hh hr hq hk h1 h
   ·rename_i e hq hk
    split at hc
    ·rename_i he
     simp only[Yro]at hc;subst hc
     exact Zs0 (call:=call) hh hr hq hk he h1 h
    ·cases hc
   ·rename_i e hq hk
    split at hc
    ·rename_i he
     simp only[Yro]at hc;subst hc
     exact Zum (call:=call) hh hr hq hk he h1 h
    ·cases hc
   ·rename_i t hq hk
    split at hc
    ·rename_i z hz
     simp only[Yro]at hc;subst hc
     exact Zzd (call:=call) hh hr hq hk hz h1 h
    ·cases hc
   ·rename_i u hq hk
    split at hc
    ·rename_i z hz
     simp only[Yro]at hc;subst hc
     exact Zsu (call:=call) hh hr hq hk hz h1 h
    ·cases hc
   ·cases hc
 case makeInterface t x=>
  split at hc
  ·cases hc
  ·rename_i d hne hd
   simp only[Yrz]at hc;obtain⟨s,h1,rfl⟩:=hc
   exact Zxp (call:=call) hh hr hd (fun k hk=>hne k hk) h1 h
  ·cases hc
 case makeFunc f first caps=>
  cases f<;>simp only[reduceCtorEq]at hc
  split at hc
  ·rename_i h1 h2
   simp only[Yro]at hc;subst hc
   exact Ya9 (call:=call) hh hr h1 h2 h
  ·cases hc
 case makeMap t rsv=>
  cases rsv<;>simp only[reduceCtorEq]at hc
  simp only[Yro]at hc;subst hc
  exact Yfd (call:=call) (r:=r) hh h
 case makeChan t x=>
  split at hc
  ·rename_i d e hu
   split at hc
   ·rename_i hb hx
    simp only[Yro]at hc;subst hc
    exact Yba (call:=call) hh hr hu hb hx h
   ·cases hc
  ·cases hc
 case makeSlice t x y=>
  split at hc
  ·rename_i e hu
   split at hc
   ·rename_i hs hb hz hx hy
    split at hc
    ·rename_i hone
     simp only[Yro]at hc;subst hc
     exact Zxo (call:=call) hh hr hu hs hb hz hone hx hy h
    ·cases hc
   ·cases hc
  ·cases hc
 case slice t x lo hi mx=>
  split at hc
  ·rename_i hx hlo hhi hmx
   split at hc
   ·rename_i hu
    split at hc
    ·cases hc
    ·rename_i hnone
     simp only[Yro]at hc;subst hc
     have hm:mx=none:=by
      cases mx with
      |none=>rfl
      |some q=>
       simp only[Zqf]at hmx
       split at hmx
       ·simp only[Yro]at hmx
        subst hmx;simp at hnone
       ·cases hmx
     subst hm
     exact Zs2 (call:=call) hh hr hu hx hlo hhi h
   ·rename_i e hu
    simp only[Yrz]at hc;obtain⟨s,h1,rfl⟩:=hc
    exact Zwu (call:=call) hh hr hu h1 hx hlo hhi hmx h
   ·rename_i k e hu
    simp only[Yrz]at hc;obtain⟨s,h1,rfl⟩:=hc
    exact Zs3 (call:=call) hh hr hu h1 hx hlo hhi hmx h
   ·cases hc
  ·cases hc
 case fieldAddr t x i=>
  split at hc
  ·rename_i hu hx
   split at hc
   ·rename_i f hf
    split at hc
    ·rename_i hk
     simp only[Yro]at hc;subst hc
     exact Yf2 (call:=call) hh hr hu hf hk hx h
    ·cases hc
   ·cases hc
  ·cases hc
 case field t x i=>
  split at hc
  ·rename_i hu hx
   split at hc
   ·rename_i f hf
    simp only[Yrz]at hc;obtain⟨s,h1,rfl⟩:=hc
    exact Yf1 (call:=call) hh hr hu hf h1 hx h
   ·cases hc
  ·cases hc
 case indexAddr t x i=>
  split at hc
  ·rename_i hu hx hi
   simp only[Yrz]at hc;obtain⟨s,h1,rfl⟩:=hc
   exact Zt9 (call:=call) hh hr hu h1 hx hi h
  ·rename_i hu hx hi
   simp only[Yrz]at hc;obtain⟨s,h1,rfl⟩:=hc
   exact Zyg (call:=call) hh hr hu h1 hx hi h
  ·cases hc
 case index t x i=>
  split at hc
  ·rename_i hu hx hi
   split at hc
   ·rename_i hs ha
    simp only[Yro]at hc;subst hc
    exact Yb5 (call:=call) hh hr hu hs ha hx hi h
   ·cases hc
  ·rename_i hu hx hi
   simp only[Yro]at hc;subst hc
   exact Yb3 (call:=call) hh hr hu hx hi h
  ·cases hc
 case lookup t x k ok=>
  split at hc
  ·rename_i hu hx hk
   split at hc
   ·rename_i h1 h2
    simp only[Yro]at hc;subst hc
    exact Ybi (call:=call) hh hr hu h1 h2 hx hk h
   ·cases hc
  ·cases hc
 case mapUpdate t x k y=>
  split at hc
  ·rename_i hu hx hk hy
   simp only[Yrz]at hc;obtain⟨s,h1,rfl⟩:=hc
   exact Zrk (call:=call) hh hr hu h1 hx hk hy h
  ·cases hc
 case insert t x k y=>
  split at hc
  ·rename_i hu hx hk hy
   simp only[Yrz]at hc;obtain⟨s,h1,rfl⟩:=hc
   exact Zrk (call:=call) hh hr hu h1 hx hk hy h
  ·cases hc
 case range t x=>
  split at hc
  ·rename_i hu hx
   simp only[Yro]at hc;subst hc
   exact Ztf (call:=call) hh hr hu hx h
  ·cases hc
 case next it isS=>
  cases isS<;>simp only[reduceCtorEq]at hc
  simp only[Yrz]at hc;obtain⟨s,h1,rfl⟩:=hc
  exact Zxb (call:=call) hh hr h1 h
 case extract x i=>simp only[Yrz]at hc;obtain⟨s,h1,rfl⟩:=hc;exact Zyj (call:=call) hh hr h1 h
 case call c=>
  obtain⟨callee,args,ats⟩:=c
  cases callee with
  |invoke r' nm=>simp only[Zse,reduceCtorEq]at hc
  |builtin b=>
   have:=Zun (ty:=ty) (cs:=args.map fun|.const _=>true|_=>false) hh hr hc h
   obtain⟨nx,x,w',μ',ws,k1,k2⟩:=this
   refine⟨nx,x,w',μ',ws,?_,k2⟩
   rw[←k1]
   simp[execOp,resolve,invoke]
   rfl
  |value f=>
   simp only[Zse]at hc
   split at hc
   ·cases hc
   ·rename_i ss hss
    cases f<;>simp only at hc
    case func gid=>
     split at hc
     ·rename_i fn hfn
      split at hc
      ·simp only[Yro]at hc;subst hc;simp[MOp.isCall]at hn
      ·rename_i hb
       split at hc
       ·rename_i e he
        simp only[Yro]at hc;subst hc
        have:=Ynm (call:=call) hh hr hE hfn (by simpa using hb) he hss h
        obtain⟨nx,x,w',μ',ws,k1,k2⟩:=this
        refine⟨nx,x,w',μ',ws,?_,k2⟩
        rw[←k1]
        have e0:(⟨List.map a.eval args.toList⟩:Array Value)=args.map a.eval:=by apply Yuz;simp
        rw[e0]
        simp[execOp,resolve,invoke,Deferred.ofValue,Act.eval]
       ·cases hc
     ·cases hc
    all_goals
     split at hc
     ·simp only[Yro]at hc;subst hc;simp[MOp.isCall]at hn
     ·cases hc
end
abbrev FE(lb:Option Nat):Fence:={Fence.wide with round:=lb}
def Yjb(R:Value→World→Prop):Ending→World→Prop
 |.returned x,w=>R x w
 |_,_=>False
def Zkf(P:Program)(y:Bool)(G:Value)(xs:Array Value)(w:World)(R:Value→World→Prop):Prop:=
 (∃d,(Deferred.ofValue G xs).run P w=.ok d w∧
  ((y=false∧∃f args,(invoke d.target d.args).run P w=.ok (.enter f args) w∧CallsIn Fence.wide 0 P f args w (Yjb R))∨
     (y=true∧∃l f tmps asg bod,(invoke d.target d.args).run P w=.ok (.round l f tmps asg bod) w∧RoundIn Fence.wide 0 P l f tmps asg bod w (Yjb R))))
def Zbx(P:Program)(call:Za3):Prop:=
 ∀(g:V) (args:List V) (st:St) (v:V) (st':St),call g args st=some (v,st')→∀(μ:Mu) (w:World) (G:Value) (xs:List Value),Zbd P μ w st→VR μ g G→VRs μ args xs→
  Zkf P g.isY G ⟨xs⟩ w fun x w'=>∃μ' ws,VR μ' v x∧Stp P μ w st μ' w' st' ws
def Zn6(μ:Mu):List Nat→List Deferred→Prop
 |[],ds=>ds=[]
 |m::ms,ds=>∃l ds',μ m=some l∧ds={target:=.collected l.b,args:=#[]}::ds'∧Zn6 μ ms ds'
theorem Zn6.mono{μ μ':Mu}(h:∀i l,μ i=some l→μ' i=some l):∀{ms:List Nat} {ds:List Deferred},Zn6 μ ms ds→Zn6 μ' ms ds
 |[],_,hd=>hd
 |_::_,_,⟨l,ds',h1,h2,h3⟩=>⟨l,ds',h _ _ h1,h2,Zn6.mono h h3⟩
def FrR(μ:Mu)(fr:Fr)(a:Act):Prop:=RR μ fr.r fr.n a.tmps∧Zn6 μ fr.marks a.defers
theorem FrR.mono{μ μ':Mu}(h:∀i l,μ i=some l→μ' i=some l){fr:Fr}{a:Act}(hf:FrR μ fr a):FrR μ' fr a:=⟨hf.1.mono h,hf.2.mono h⟩
section
variable {P:Program} {μ:Mu} {w:World} {st st':St} {fr fr':Fr} {a:Act} {call:Za3} {v:V} {lb:Option Nat}
theorem Stp.mono{μ':Mu}{w':World}{ws:List Nat}(hh:Zbd P μ w st)(h:Stp P μ w st μ' w' st' ws):∀i l,μ i=some l→μ' i=some l:=Zbd.ext_of hh h.ext
theorem FrR.put(hf:FrR μ fr a){d:Option Nat}{x:Value}(hv:VR μ v x)(h:fr.put d v=some fr'):FrR μ fr' (a.put d x):=by
 cases d with
 |none=>
  simp only[Fr.put,Yro]at h;subst h
  exact hf
 |some d=>
  simp only[Fr.put]at h
  split at h
  ·rename_i hd
   simp only[Yro]at h;subst h
   exact⟨hf.1.set hd hv,hf.2⟩
  ·cases h
theorem Yjr(hcall:Zbx P call)(hE:Zek P)(hh:Zbd P μ w st)(hf:FrR μ fr a){o:Oper}(h:mop (cOp P o.op) call fr.r st=some (v,st')){K:Act→World→Prop}{Q:Exit→Act→World→Prop}
  (hK:∀x w' μ' ws,VR μ' v x→Stp P μ w st μ' w' st' ws→K (a.put o.dst x) w'):o.wpIn (FE lb) 0 P a w K Q:=by
 refine⟨fun _ _=>trivial,?_⟩
 have hnd:∀c,o.op≠.defer c:=by
  intro c hc
  rw[hc]at h
  simp only[cOp,Ymc,Option.getD_none]at h
  cases h
 show o.uponIn (FE lb) 0 P a K Q ((o.semAt lb a.eval).run P w)
 rw[Oper.semAt_eq _ _ _ hnd]
 cases hc:Ymc P o.op with
 |none=>
  simp only[cOp,hc,Option.getD_none]at h
  cases h
 |some m=>
  simp only[cOp,hc,Yub]at h
  by_cases hn:m.isCall=true
  ·-- a call
   obtain⟨dst,op,ty,pos,af,g⟩:=o
   cases m<;>simp only[MOp.isCall,Yry]at hn
   rename_i sf ss
   have hop:∃c f,op=.call c∧c.callee=.value f∧Zbh P f=some sf∧Zi1 P c.args.toList=some ss:=by
    cases op<;>simp only[Ymc]at hc<;>try (cases hc;done)
    case call c=>
     obtain⟨callee,args,ats⟩:=c
     cases callee with
     |invoke r' nm=>simp only[Zse,reduceCtorEq]at hc
     |builtin b=>
      exfalso
      simp only[Zse]at hc
      repeat' split at hc
      all_goals first|(cases hc;done)|(simp at hc;done)
     |value f=>
      simp only[Zse]at hc
      split at hc
      ·cases hc
      ·rename_i ss' hss
       refine⟨_,f,rfl,rfl,?_⟩
       cases f<;>simp only at hc
       case func gid=>
        split at hc
        ·split at hc
         ·simp only[Yro,MOp.call.injEq]at hc
          obtain⟨rfl,rfl⟩:=hc
          exact⟨rfl,hss⟩
         ·split at hc
          ·simp at hc
          ·cases hc
        ·cases hc
       all_goals
        split at hc
        ·rename_i h1
         simp only[Yro,MOp.call.injEq]at hc
         obtain⟨rfl,rfl⟩:=hc
         exact⟨h1,hss⟩
        ·cases hc
    all_goals
     exfalso
     repeat' split at hc
     all_goals first|(cases hc;done)|contradiction|(simp at hc;done)|(rw[Yt2]at hc;simp at hc;done)
   obtain⟨c,f,rfl,hcal,h1,h2⟩:=hop
   have h':Zei sf ss call fr.r st=some (v,st'):=h
   unfold Zei at h'
   split at h'
   ·rename_i gv l hg hl
    have hG:=Zau hh hf.1 h1 hg
    have hX:=Ze6 hh hf.1 h2 hl
    obtain⟨d,hd,hrest⟩:=hcall _ _ _ _ _ h' μ w _ _ hh hG hX
    have e0:(⟨List.map a.eval c.args.toList⟩:Array Value)=c.args.map a.eval:=by apply Yuz;simp
    rw[e0]at hd
    have hres:(resolve a.eval c ty).run P w=.ok d w:=by
     simp only[resolve,hcal]
     exact hd
    rcases hrest with⟨_,g',args,hinv,hci⟩|⟨_,l',g',tmps,asg,bod,hinv,hri⟩
    ·have hrun:(execOp a.eval ⟨dst,.call c,ty,pos,af,g⟩).run P w=.ok (.enter g' args) w:=by
      simp only[execOp,Sem.run_bind,hres,Result.andThen_ok,hinv]
     rw[hrun,Oper.uponIn_enter]
     refine⟨fun hx=>by simp[Fence.wide]at hx,?_⟩
     refine CallsIn.mono (F:=Fence.wide) hci fun e w' he=>?_
     cases e with
     |returned x=>
      obtain⟨μ',ws,q1,q2⟩:=he
      exact hK x w' μ' ws q1 q2
     |panicked _=>exact he.elim
     |outgrown=>exact he.elim
    ·have hrun:(execOp a.eval ⟨dst,.call c,ty,pos,af,g⟩).run P w=.ok (.round l' g' tmps asg bod) w:=by
      simp only[execOp,Sem.run_bind,hres,Result.andThen_ok,hinv]
     rw[hrun,Oper.uponIn_round]
     refine⟨fun hx=>by simp[Fence.wide]at hx,?_⟩
     refine RoundIn.mono (F:=Fence.wide) hri fun e w' he=>?_
     cases e with
     |returned x=>
      obtain⟨μ',ws,q1,q2⟩:=he
      exact hK x w' μ' ws q1 q2
     |panicked _=>exact he.elim
     |outgrown=>exact he.elim
   ·cases h'
  ·obtain⟨nx,x,w',μ',ws,k1,k2,k3,k4⟩:=Ymx hh hf.1 hE hc (by simpa using hn) h
   rw[k1]
   rcases k2 with rfl|⟨rfl,rfl⟩
   ·rw[Oper.uponIn_value];exact hK x w' μ' ws k3 k4
   ·rw[Oper.uponIn_skip];exact hK undef w' μ' ws k3 k4
theorem Zn8{ops:Array Oper}{o:Oper}{g:Option (Nat×Bool)}(hr:RR μ fr.r fr.n a.tmps)(hg:Znk ops o.guard=some g){b:Bool}(h:wantedV fr.r g=some b):Region.wanted o (yielded ops a.tmps)=b:=by
 unfold Region.wanted
 cases ho:o.guard with
 |none=>
  rw[ho]at hg
  simp only[Znk,Yro]at hg;subst hg
  simp only[wantedV,Yro]at h
  exact h
 |some p=>
  obtain⟨j,want⟩:=p
  rw[ho]at hg
  simp only[Znk]at hg
  split at hg
  ·rename_i t ht
   simp only[Yro]at hg;subst hg
   simp only[wantedV]at h
   split at h
   ·rename_i b' hb
    simp only[Yro]at h;subst h
    obtain⟨x,hx,hv⟩:=hr.2 _ _ hb
    simp only[VR]at hv
    subst hv
    simp[yielded,ht,hx]
   ·rename_i l hb
    simp only[Yro]at h;subst h
    obtain⟨x,hx,y,hv,_⟩:=hr.2 _ _ hb
    subst hv
    simp[yielded,ht,hx]
   ·cases h
  ·cases hg
end
def exE:Ex→Exit
 |.normal=>.normal
 |.exit id=>.exit id
 |.ret=>.ret
def RoR(μ:Mu):Option Nat→Option Nat→Prop
 |none,none=>True
 |some l,some b=>∃L,μ l=some L∧L.b=b
 |_,_=>False
theorem RoR.mono{μ μ':Mu}(h:∀i l,μ i=some l→μ' i=some l){ro lb:Option Nat}(hr:RoR μ ro lb):RoR μ' ro lb:=by
 cases ro<;>cases lb<;>simp only[RoR]at*
 obtain⟨L,h1,h2⟩:=hr
 exact⟨L,h _ _ h1,h2⟩
def Zh7(P:Program)(μ:Mu)(w:World)(st:St)(ex:Ex)(fr':Fr)(st':St):Exit→Act→World→Prop:=fun e a' w'=>
 e=exE ex∧∃μ' ws,Stp P μ w st μ' w' st' ws∧FrR μ' fr' a'
section
variable {P:Program} {μ:Mu} {w:World} {st st':St} {fr fr':Fr} {a:Act} {call:Za3} {v:V} {lb:Option Nat}
theorem Yay(hcall:Zbx P call)(hE:Zek P){ops:Array Oper}{Q:Exit→Act→World→Prop}:∀(is:List Nat) (os:List Oper),is.map (fun i=>ops[i]?)=os.map some→
  ∀{st:St} {fr:Fr} {a:Act} {w:World} {μ:Mu},Zbd P μ w st→FrR μ fr a→mops call (os.map (Zgl P ops)) fr st=some (fr',st')→
   (∀a' w' μ' ws,FrR μ' fr' a'→Stp P μ w st μ' w' st' ws→Q .normal a' w')→wpOpsIn (FE lb) 0 P ops Q is a w:=by
 intro is
 induction is with
 |nil=>
  intro os hos st fr a w μ hh hf h hQ
  cases os with
  |cons o os=>simp at hos
  |nil=>
   simp only[Ytn,mops,Yhm,Yro,Yrs]at h
   obtain⟨rfl,rfl⟩:=h
   exact hQ a w μ [] hf (Stp.refl hh)
 |cons i is ih=>
  intro os hos st fr a w μ hh hf h hQ
  cases os with
  |nil=>simp at hos
  |cons o os=>
   simp only[Yso,Ysa]at hos
   obtain⟨hoi,hos⟩:=hos
   simp only[Yso,mops,Zia]at h
   unfold wpOpsIn
   rw[hoi]
   simp only[]
   have go:∀(v:V) (st1:St) (fr1:Fr) (x:Value) (w1:World) (μ1:Mu) (ws:List Nat),VR μ1 v x→Stp P μ w st μ1 w1 st1 ws→fr.put o.dst v=some fr1→mops call (os.map (Zgl P ops)) fr1 st1=some (fr',st')→
     wpOpsIn (FE lb) 0 P ops Q is (a.put o.dst x) w1:=by
    intro v st1 fr1 x w1 μ1 ws hv hs hp hm
    refine ih os hos hs.hr ((hf.mono (hs.mono hh)).put hv hp) hm fun a' w' μ' ws' hf' hs'=>?_
    exact hQ a' w' μ' _ hf' (hs.trans hs')
   unfold Zgl at h
   cases hg:Znk ops o.guard with
   |none=>
    rw[hg]at h
    simp only[wantedV,mop,Zth]at h
    cases h
   |some g=>
    rw[hg]at h
    simp only at h
    cases hw:wantedV fr.r g with
    |none=>rw[hw]at h;cases h
    |some b=>
     rw[hw]at h
     have hwant:=Zn8 hf.1 hg hw
     cases b with
     |true=>
      rw[Yru hwant]
      simp only at h
      split at h
      ·rename_i v1 st1 hm
       split at h
       ·rename_i fr1 hp
        exact Yjr hcall hE hh hf hm fun x w' μ' ws q1 q2=>go v1 st1 fr1 x w' μ' ws q1 q2 hp h
       ·cases h
      ·cases h
     |false=>
      rw[Yrq (by rw[hwant];simp)]
      simp only at h
      split at h
      ·rename_i fr1 hp
       exact⟨fun _ _=>trivial,go (.tup []) st fr1 undef w μ [] ⟨[],rfl,by simp[VRs]⟩ (Stp.refl hh) hp h⟩
      ·cases h
theorem Yac{ops:Array Oper}:(List.range ops.size).map (fun i=>ops[i]?)=ops.toList.map some:=by
 apply Ysk
 intro i
 simp only[Ysd]
 by_cases h:i<ops.size
 ·simp[h]
 ·simp[h]
theorem Zn0{F:Fence}{n:Nat}{c:Code}{Q:Exit→Act→World→Prop}(J:Nat→Act→World→Prop)
  (round:∀f a w,J f a w→c.wpIn F n P (Exit.then (fun a' w'=>∃f',f'<f∧J f' a' w') Q) a w) {f:Nat} (h₀:J f a w):(Code.loop c).wpIn F n P Q a w:=by
 intro b k cs hro hb hr
 have key:∀j a w,J j a w→
   ∃e a' w',Q e a' w'∧ArrivesIn (Machine.fenced P F) P (lone (b.atR a (.code c::.inLoop c::k)) cs w) b k cs e a' w':=by
  intro j
  induction j using Nat.strongRecOn with
  |_ j ih=>
   intro a w hI
   obtain⟨e,a₁,w₁,hq,harr⟩:=round j a w hI b (.inLoop c::k) cs hro hb hr
   cases e with
   |normal=>
    obtain⟨f',hlt,hI₁⟩:=hq
    obtain⟨e₂,a₂,w₂,hq₂,harr₂⟩:=ih f' hlt a₁ w₁ hI₁
    exact⟨e₂,a₂,w₂,hq₂,.of_steps (StepsIn.trans harr (.one (fenced_calm hb hr rfl) stepR_inLoop)) harr₂⟩
   |exit id=>exact⟨_,a₁,w₁,hq,.pass (x:=.inLoop c) rfl (fun _ _=>.inl (by simp)) harr⟩
   |goto l=>exact⟨_,a₁,w₁,hq,.pass (x:=.inLoop c) rfl (fun _ _=>.inl (by simp)) harr⟩
   |ret=>exact⟨_,a₁,w₁,hq,.pass (x:=.inLoop c) rfl (fun _ _=>.inl (by simp)) harr⟩
   |panic ch=>exact⟨_,a₁,w₁,hq,.pass (x:=.inLoop c) rfl (fun _ _=>.inl (by simp)) harr⟩
   |outgrown=>exact⟨_,a₁,w₁,hq,.pass (x:=.inLoop c) rfl (fun _ _=>.inl (by simp)) harr⟩
 obtain⟨e,a',w',hq,harr⟩:=key _ a w h₀
 exact⟨e,a',w',hq,.of_steps (.one (fenced_calm hb hr rfl) stepR_loop) harr⟩
theorem Zdt{b:Frame}{k:List Item}{cs:List Frame}{c:Code}:
  step P (lone (b.atR a (.code (.scope c)::k)) cs w)=.next (lone (b.atR a (.code c::.inScope c::k)) cs w):=
 step_lone_go (by simp[stepG,stepG.exec,Frame.atR])
theorem Zpe{b:Frame}{k:List Item}{cs:List Frame}{c:Code}:
  step P (lone (b.atR a (.inScope c::k)) cs w)=.next (lone (b.atR a k) cs w):=
 step_lone_go (by simp[stepG,stepG.exec,Frame.atR])
theorem Zwo{F:Fence}{n:Nat}{c:Code}{Q:Exit→Act→World→Prop}(h:c.wpIn F n P Q a w)(hq:∀l a w,¬Q (.goto l) a w):(Code.scope c).wpIn F n P Q a w:=by
 intro b k cs hro hb hr
 have h0:(lone (b.atR a (.code (.scope c)::k)) cs w).fenced P F:=fenced_calm hb hr rfl
 obtain⟨e,a₁,w₁,hQ,harr⟩:=h b (.inScope c::k) cs hro hb hr
 cases e with
 |normal=>exact⟨.normal,a₁,w₁,hQ,.head h0 Zdt (StepsIn.trans harr (.one (fenced_calm hb hr rfl) Zpe))⟩
 |exit id=>
  have hx:exitTo id (.inScope c::k)=exitTo id k:=by simp[exitTo]
  exact⟨.exit id,a₁,w₁,hQ,fun k' hk=>.head h0 Zdt (harr.1 k' (by rw[hx];exact hk)),
   fun hr' hk=>let ⟨k₁,h1,h2⟩:=harr.2 hr' (by rw[hx];exact hk);⟨k₁,h1,.head h0 Zdt h2⟩⟩
 |goto l=>exact absurd hQ (hq l a₁ w₁)
 |ret=>exact⟨_,a₁,w₁,hQ,.of_steps (.one h0 Zdt) harr⟩
 |panic ch=>exact⟨_,a₁,w₁,hQ,.of_steps (.one h0 Zdt) harr⟩
 |outgrown=>exact⟨_,a₁,w₁,hQ,.of_steps (.one h0 Zdt) harr⟩
theorem Zh7.after{μ1:Mu}{w1:World}{st1:St}{ws:List Nat}(hs:Stp P μ w st μ1 w1 st1 ws){ex:Ex}{e:Exit}{a':Act}{w':World}(h:Zh7 P μ1 w1 st1 ex fr' st' e a' w'):Zh7 P μ w st ex fr' st' e a' w':=by
 obtain⟨h1,μ',ws',h2,h3⟩:=h
 exact⟨h1,μ',_,hs.trans h2,h3⟩
theorem Zh7.then{μ:Mu}{ex:Ex}{fr1:Fr}{st1:St}{K:Act→World→Prop}{Q:Exit→Act→World→Prop}{e:Exit}{a':Act}{w':World}(h:Zh7 P μ w st ex fr1 st1 e a' w')
  (hn:ex=.normal→K a' w') (hq:ex≠.normal→Q e a' w'):Exit.then K Q e a' w':=by
 obtain⟨rfl,h⟩:=h
 cases ex<;>simp only[exE,Exit.then]
 ·exact hn rfl
 ·exact hq (by simp)
 ·exact hq (by simp)
def Zo5(P:Program)(code:Zfu):Prop:=
 ∀(ro:Option Nat) (c:Code) (fr:Fr) (st:St) (ex:Ex) (fr':Fr) (st':St),code ro (Zcx P c) fr st=some (ex,fr',st')→
  ∀(μ:Mu) (w:World) (a:Act) (lb:Option Nat),Zbd P μ w st→FrR μ fr a→RoR μ ro lb→c.wpIn (FE lb) 0 P (Zh7 P μ w st ex fr' st') a w
def Yif(P:Program)(call:Za3):Prop:=
 ∀(id:Nat) (ops:Array Oper) (fr:Fr) (st:St) (ex:Ex) (fr':Fr) (st':St),Yjc P ops=true→Zhj (ops.toList.map (Zgl P ops)) (Zc3 ops.toList []) call Zly none fr st=some (ex,fr',st')→
  ∀(μ:Mu) (w:World) (a:Act) (lb:Option Nat),Zbd P μ w st→FrR μ fr a→(Code.region id ops true).wpIn (FE lb) 0 P (Zh7 P μ w st ex fr' st') a w
def Yn3(P:Program)(call:Za3):Prop:=
 ∀(id:Nat) (ops:Array Oper) (o:Oper) (rest:List Oper) (d:Option Nat) (ch:Src) (s:Option Src) (z:V) (fr:Fr) (st:St) (ex:Ex) (fr':Fr) (st':St),ops.toList=o::rest→Yog P o=some (d,ch,s,z)→
  Zhi d ch s z (rest.map (Zgl P ops)) call Zly none fr st=some (ex,fr',st')→
  ∀(μ:Mu) (w:World) (a:Act) (lb:Option Nat),Zbd P μ w st→FrR μ fr a→(Code.region id ops false).wpIn (FE lb) 0 P (Zh7 P μ w st ex fr' st') a w
def Ydm(P:Program)(call:Za3):Prop:=
 ∀(ro:Option Nat) (g:Operand) (s:Src) (ps:Array Nat) (asg bod:Code) (fr:Fr) (st:St) (ex:Ex) (fr':Fr) (st':St),Zbh P g=some s→
  Zer s ps.toList (Zcx P asg) (Zcx P bod) call Zly ro fr st=some (ex,fr',st')→
  ∀(μ:Mu) (w:World) (a:Act) (lb:Option Nat),Zbd P μ w st→FrR μ fr a→RoR μ ro lb→(Code.rangeFunc g ps asg bod).wpIn (FE lb) 0 P (Zh7 P μ w st ex fr' st') a w
theorem Yc5(hcall:Zbx P call)(hE:Zek P)(hD:Yif P call)(hS:Yn3 P call)(hR:Ydm P call):∀fuel,Zo5 P (Zbi call fuel):=by
 intro fuel
 induction fuel using Nat.strongRecOn with
 |_ fuel ihs=>
 cases fuel with
 |zero=>intro ro c fr st ex fr' st' h;cases h
 |succ f=>
  have ih:Zo5 P (Zbi call f):=ihs f (Ys8 f)
  intro ro c fr st ex fr' st' h μ w a lb hh hf hro
  cases c with
  |skip=>
   simp only[Zcx,Zbi,Zbc,Yc8,Yro,Yrs]at h
   obtain⟨rfl,rfl,rfl⟩:=h
   exact wpIn_skip ⟨rfl,μ,[],Stp.refl hh,hf⟩
  |label l=>
   simp only[Zcx,Zbi,Zbc,Yc8,Yro,Yrs]at h
   obtain⟨rfl,rfl,rfl⟩:=h
   exact wpIn_label ⟨rfl,μ,[],Stp.refl hh,hf⟩
  |exit id=>
   simp only[Zcx,Zbi,Zbc,Yh9,Yro,Yrs]at h
   obtain⟨rfl,rfl,rfl⟩:=h
   exact wpIn_exit ⟨rfl,μ,[],Stp.refl hh,hf⟩
  |ret=>
   simp only[Zcx,Zbi,Zbc,Ynz,Yro,Yrs]at h
   obtain⟨rfl,rfl,rfl⟩:=h
   exact wpIn_ret ⟨rfl,μ,[],Stp.refl hh,hf⟩
  |goto l=>simp only[Zcx,Zbi,Zbc,Zo0]at h;cases h
  |refuse why=>simp only[Zcx,Zbi,Zbc,Zo0]at h;cases h
  |region id ops draw=>
   cases draw with
   |true=>
    simp only[Zcx]at h
    split at h
    ·rename_i hp
     simp only[Zbi,Zbc]at h
     exact hD id ops fr st ex fr' st' hp h μ w a lb hh hf
    ·simp only[Zbi,Zbc,Zo0]at h;cases h
   |false=>
    have plain:Znj (ops.toList.map (Zgl P ops)) call (Zbi call f) ro fr st=some (ex,fr',st')→(Code.region id ops false).wpIn (FE lb) 0 P (Zh7 P μ w st ex fr' st') a w:=by
     intro h
     simp only[Znj]at h
     split at h
     ·rename_i fr1 st1 hm
      simp only[Yro,Yrs]at h
      obtain⟨rfl,rfl,rfl⟩:=h
      exact wpIn_region (Yay hcall hE _ _ Yac hh hf hm fun a' w' μ' ws q1 q2=>⟨rfl,μ',ws,q2,q1⟩)
     ·cases h
    simp only[Zcx,Zbi]at h
    split at h
    ·rename_i ho
     exact plain (by rw[ho];exact h)
    ·rename_i o rest ho
     split at h
     ·rename_i d ch s z hs
      exact hS id ops o rest d ch s z fr st ex fr' st' ho hs h μ w a lb hh hf
     ·exact plain (by rw[ho];exact h)
  |seq x y=>
   simp only[Zcx,Zbi,Zbc,Zn3]at h
   refine wpIn_seq ?_
   split at h
   ·rename_i fr1 st1 hx
    refine wpIn_mono (ih ro x fr st _ _ _ hx μ w a lb hh hf hro) fun e a' w' hp=>?_
    have hp0:=hp
    obtain⟨he,μ1,ws,hs,hf1⟩:=hp
    refine hp0.then (fun _=>?_) (fun hne=>absurd rfl hne)
    exact wpIn_mono (ih ro y fr1 st1 ex fr' st' h μ1 w' a' lb hs.hr hf1 (hro.mono (hs.mono hh))) fun e2 a2 w2 hp2=>hp2.after hs
   ·rename_i hx
    refine wpIn_mono (ih ro x fr st _ _ _ h μ w a lb hh hf hro) fun e a' w' hp=>?_
    refine hp.then (fun hn=>?_) (fun _=>hp)
    subst hn
    exact absurd h (hx fr' st')
  |cond x p q=>
   simp only[Zcx]at h
   split at h
   ·rename_i s hs
    simp only[Zbi,Zbc,Zfs]at h
    split at h
    ·rename_i hv
     have:=Zau hh hf.1 hs hv
     exact wpIn_cond_true (by simpa[VR]using this) (ih ro p fr st ex fr' st' h μ w a lb hh hf hro)
    ·rename_i hv
     have:=Zau hh hf.1 hs hv
     exact wpIn_cond_false (by simpa[VR]using this) (ih ro q fr st ex fr' st' h μ w a lb hh hf hro)
    ·cases h
   ·simp only[Zbi,Zbc,Zo0]at h;cases h
  |block id c=>
   simp only[Zcx,Zbi,Zbc,Zff]at h
   refine wpIn_block ?_
   split at h
   ·rename_i id' fr1 st1 hx
    refine wpIn_mono (ih ro c fr st _ _ _ hx μ w a lb hh hf hro) fun e a' w' hp=>?_
    obtain⟨rfl,hp⟩:=hp
    simp only[exE,Exit.inBlock]
    split at h
    ·rename_i hid
     simp only[Yro,Yrs]at h
     obtain⟨rfl,rfl,rfl⟩:=h
     rw[Yru (Yvh hid)]
     exact⟨rfl,hp⟩
    ·rename_i hid
     simp only[Yro,Yrs]at h
     obtain⟨rfl,rfl,rfl⟩:=h
     rw[Yrq (Nat.ne_of_beq_eq_false hid)]
     exact⟨rfl,hp⟩
   ·rename_i hx
    refine wpIn_mono (ih ro c fr st _ _ _ h μ w a lb hh hf hro) fun e a' w' hp=>?_
    have hp0:=hp
    obtain⟨rfl,hp⟩:=hp
    cases ex with
    |normal=>exact hp0
    |ret=>exact hp0
    |exit id'=>exact absurd h (hx id' fr' st')
  |loop c=>
   refine Zn0 (fun k a1 w1=>k≤f+1∧∃fr1 st1 μ1 ws,Stp P μ w st μ1 w1 st1 ws∧FrR μ1 fr1 a1∧Zbi call k ro (.loop (Zcx P c)) fr1 st1=some (ex,fr',st')) ?_
    (f:=f+1) ⟨Yrr _,fr,st,μ,[],Stp.refl hh,hf,h⟩
   intro k a1 w1 hJ
   obtain⟨hk,fr1,st1,μ1,ws,hs,hf1,hm⟩:=hJ
   cases k with
   |zero=>cases hm
   |succ k=>
    simp only[Zbi,Zbc,Zic]at hm
    have ihk:Zo5 P (Zbi call k):=ihs k (by omega)
    split at hm
    ·rename_i fr2 st2 hx
     refine wpIn_mono (ihk ro c fr1 st1 _ _ _ hx μ1 w1 a1 lb hs.hr hf1 (hro.mono (hs.mono hh))) fun e a' w' hp=>?_
     have hp0:=hp
     obtain⟨he,μ2,ws2,hs2,hf2⟩:=hp
     refine hp0.then (fun _=>?_) (fun hne=>absurd rfl hne)
     exact⟨k,Ys8 k,by omega,fr2,st2,μ2,_,hs.trans hs2,hf2,hm⟩
    ·rename_i hx
     refine wpIn_mono (ihk ro c fr1 st1 _ _ _ hm μ1 w1 a1 lb hs.hr hf1 (hro.mono (hs.mono hh))) fun e a' w' hp=>?_
     refine hp.then (fun hn=>?_) (fun _=>hp.after hs)
     subst hn
     exact absurd hm (hx fr' st')
  |scope c=>
   simp only[Zcx,Zbi,Zbc,Yc9]at h
   refine Zwo (ih ro c fr st ex fr' st' h μ w a lb hh hf hro) fun l a' w' hp=>?_
   obtain⟨he,_⟩:=hp
   cases ex<;>simp[exE]at he
  |rangeFunc g ps asg bod=>
   simp only[Zcx]at h
   split at h
   ·rename_i s hs
    simp only[Zbi,Zbc]at h
    exact hR ro g s ps asg bod fr st ex fr' st' hs h μ w a lb hh hf hro
   ·simp only[Zbi,Zbc,Zo0]at h;cases h
end
end Go.Mx
