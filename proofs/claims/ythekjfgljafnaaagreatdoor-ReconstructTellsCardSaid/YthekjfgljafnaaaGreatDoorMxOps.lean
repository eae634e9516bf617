/-Every operation of M that calls no funct-/
import Derived.Test.YthekjfgljafnaaaGreatDoorMxOp10
import Derived.RangeFuncRecord
import Derived.OrdersIn
set_option linter.all false
namespace Go.Mx
open Go
section
variable {P:Program} {μ:Mu} {w:World} {st st':St} {r:T V} {n:Nat} {a:Act} {call:Za4} {v:V}
def MOp.isCall:MOp→Bool
 |.call _ _=>true
 |_=>false
def Zzj{α:Type}{a:Array α}{x:α}(h:a.toList=[x]):a=#[x]:=by
 apply Array.ext';simpa using h
def Ydo{α:Type}{a:Array α}{x y:α}(h:a.toList=[x,y]):a=#[x,y]:=by
 apply Array.ext';simpa using h
def Zvw(hh:Zbb P μ w st)(hr:RR μ r n a.tmps){b:Builtin}{ts:Array TypeId}{xs:Array Operand}{ty:TypeId}{cs:Array Bool}{m:MOp}(hc:Ztf P ⟨.builtin b,xs,ts⟩=some m)
  (h:mop m call r st=some (v,st')):Za6 P μ w st (builtin b ts ty cs (xs.map a.eval)) v st':=by
 simp only[Ztf]at hc
 split at hc
 ·rename_i t x ht hx
  have e1:=Zzj ht
  have e2:=Zzj hx
  subst e1 e2
  simp only[builtin,Yzp,Yxk,Yyr]
  split at hc
  ·rename_i s hu hs
   simp only[Yv3]at hc;subst hc
   exact Zzk (call:=call) hh hr hu hs h
  ·rename_i e s hu hs
   simp only[Yv3]at hc;subst hc
   exact Zsq (call:=call) hh hr hu hs h
  ·rename_i k e s hu hs
   simp only[Yv3]at hc;subst hc
   exact Zzl (call:=call) hh hr hu hs h
  ·cases hc
 ·rename_i t x ht hx
  have e1:=Zzj ht
  have e2:=Zzj hx
  subst e1 e2
  simp only[builtin,Yzp,Yxk,Yyr]
  split at hc
  ·rename_i e s hu hs
   simp only[Yv3]at hc;subst hc
   exact Yru (call:=call) hh hr hu hs h
  ·cases hc
 ·split at hc
  ·rename_i l hl
   simp only[Yv3]at hc;subst hc
   exact Ytk (call:=call) hh hr hl h
  ·cases hc
 ·split at hc
  ·rename_i l hl
   simp only[Yv3]at hc;subst hc
   exact Ytj (call:=call) hh hr hl h
  ·cases hc
 ·rename_i t u s x ht hx
  have e1:=Ydo ht
  have e2:=Ydo hx
  subst e1 e2
  simp only[builtin,Yzp,Yxk,Yyr]
  split at hc
  ·rename_i e hu
   split at hc
   ·rename_i n' b' z s' x' d hs hb hz hs' hx' hd
    rw[Yys]at hc
    obtain⟨hcond,hc⟩:=hc
    simp only[not_or,Decidable.not_not]at hcond
    obtain⟨c1,c2,c3,c4⟩:=hcond
    simp only[Yv3]at hc;subst hc
    have c4':z.cells.all V.one=true:=by simpa using c4
    exact Yfm (call:=call) hh hr (by rfl) hu (by rfl) hd (fun k hk=>by subst hk;simp at c1) hs hb hz c3 c4' c2 hs' hx' h
   ·cases hc
  ·cases hc
 ·rename_i t ts' d s ht hx
  have e2:=Ydo hx
  subst e2
  simp only[builtin,Yzp,Yxk,Yyr]
  split at hc
  ·rename_i e hu
   split at hc
   ·rename_i n' d' s' hs hd hs'
    simp only[Yv3]at hc;subst hc
    exact Yos (call:=call) hh hr (by rw[←Yyf,ht];rfl) hu hs hd hs' h
   ·cases hc
  ·cases hc
 ·rename_i t s ht hx
  have e1:=Zzj ht
  have e2:=Zzj hx
  subst e1 e2
  simp only[builtin,Yzp,Yxk,Yyr]
  simp only[Ywk]at hc
  obtain⟨s',hs,rfl⟩:=hc
  exact Ygt (call:=call) hh hr hs h
 ·rename_i t u x y ht hx
  have e1:=Ydo ht
  have e2:=Ydo hx
  subst e1 e2
  simp only[builtin,Yzp,Yxk,Yyr]
  split at hc
  ·rename_i e hu
   split at hc
   ·rename_i s q hs hx hy
    simp only[Yv3]at hc;subst hc
    exact Ylf (call:=call) hh hr hu hs hx hy h
   ·cases hc
  ·cases hc
 ·cases hc
def Yqm(hh:Zbb P μ w st)(hr:RR μ r n a.tmps)(hE:Zez P){o:Oper}{m:MOp}(hc:Ypt P o.op=some m)(hn:m.isCall=false)(h:mop m call r st=some (v,st')):
  Za6 P μ w st (execOp a.eval o) v st':=by
 obtain⟨dst,op,ty,pos,af,g⟩:=o
 cases op<;>simp only[Ypt]at hc<;>try (cases hc;done)
 case move x=>simp only[Ywk]at hc;obtain⟨s,h1,rfl⟩:=hc;exact Ykd (call:=call) hh hr h1 h
 case assign x=>simp only[Ywk]at hc;obtain⟨s,h1,rfl⟩:=hc;exact Ykd (call:=call) hh hr h1 h
 case pick c x y=>
  split at hc
  ·rename_i h1 h2 h3
   simp only[Yv3]at hc;subst hc
   exact Ymh (call:=call) hh hr h1 h2 h3 h
  ·cases hc
 case alloc e=>
  split at hc
  ·rename_i z hz
   split at hc
   ·rename_i hone
    simp only[Yv3]at hc;subst hc
    exact Yjn (call:=call) (r:=r) hh hz hone h
   ·cases hc
  ·cases hc
 case box e x=>simp only[Ywk]at hc;obtain⟨s,h1,rfl⟩:=hc;exact Yrw (call:=call) hh hr h1 h
 case build t parts=>
  split at hc
  ·cases hc
  ·rename_i z hz
   split at hc
   ·rename_i fs hfs
    split at hc
    ·rename_i pl hpl
     simp only[Ywk]at hc
     obtain⟨cps,h1,rfl⟩:=hc
     exact Zoo (call:=call) hh hr hz hfs hpl h1 h
    ·cases hc
   ·rename_i k e hu
    split at hc
    ·rename_i s hs
     simp only[Ywk]at hc
     obtain⟨cps,h1,rfl⟩:=hc
     exact Zo7 (call:=call) hh hr hz hu hs h1 h
    ·cases hc
   ·cases hc
 case buildSlice t len parts=>
  split at hc
  ·rename_i e hu
   split at hc
   ·rename_i s z hs hz
    split at hc
    ·cases hc
    ·rename_i hcond
     simp only[not_or,Decidable.not_not]at hcond
     simp only[Ywk]at hc
     obtain⟨cps,h1,rfl⟩:=hc
     exact Yfj (call:=call) hh hr hu hs hz hcond.1 hcond.2.1 h1 h
   ·cases hc
  ·cases hc
 case load t x=>
  split at hc
  ·rename_i h1 h2
   simp only[Yv3]at hc;subst hc
   exact Yne (call:=call) hh hr h1 h2 h
  ·cases hc
 case store t x y=>
  split at hc
  ·rename_i h1 h2 h3
   simp only[Yv3]at hc;subst hc
   exact Ygk (call:=call) hh hr h1 h2 h3 h
  ·cases hc
 case nilCheck x=>simp only[Ywk]at hc;obtain⟨s,h1,rfl⟩:=hc;exact Yhm (call:=call) hh hr h1 h
 case binOp op t x y p=>
  split at hc
  ·rename_i s u h1 h2
   have fin:∀q ng,Ypo P op t x y q ng→m=.bin op q ng s u→Za6 P μ w st (execOp a.eval ⟨dst,.binOp op t x y p,ty,pos,af,g⟩) v st':=by
    intro q ng hq hm
    subst hm
    exact Yrx (call:=call) hh hr h1 h2 hq h
   cases op
   case eql=>
    simp only at hc
    split at hc
    ·rename_i q hq
     rw[Yys]at hc
     obtain⟨hcond,hc⟩:=hc
     simp only[Yv3]at hc
     exact fin _ _ (fun _=>⟨hq,by rw[Bool.not_eq_true]at hcond;exact hcond,rfl⟩) hc.symm
    ·cases hc
   case neq=>
    simp only at hc
    split at hc
    ·rename_i q hq
     rw[Yys]at hc
     obtain⟨hcond,hc⟩:=hc
     simp only[Yv3]at hc
     exact fin _ _ (fun _=>⟨hq,by rw[Bool.not_eq_true]at hcond;exact hcond,rfl⟩) hc.symm
    ·cases hc
   all_goals
    simp only[Yv3]at hc
    exact fin _ _ (fun hq=>by rcases hq with hq|hq<;>cases hq) hc.symm
  ·cases hc
 case unOp op t x=>simp only[Ywk]at hc;obtain⟨s,h1,rfl⟩:=hc;exact Ysi (call:=call) hh hr h1 h
 case convert src dst' x=>
  split at hc
  ·cases hc
  ·rename_i s h1
   split at hc
   ·rename_i q k hq hk
    simp only[Yv3]at hc;subst hc
    exact Yai (call:=call) hh hr ⟨_,hq⟩ hk h1 h
   ·rename_i e hq hk
    split at hc
    ·rename_i he
     simp only[Yv3]at hc;subst hc
     exact Zt4 (call:=call) hh hr hq hk he h1 h
    ·cases hc
   ·rename_i e hq hk
    split at hc
    ·rename_i he
     simp only[Yv3]at hc;subst hc
     exact Zvv (call:=call) hh hr hq hk he h1 h
    ·cases hc
   ·rename_i t hq hk
    split at hc
    ·rename_i z hz
     simp only[Yv3]at hc;subst hc
     exact Ya4 (call:=call) hh hr hq hk hz h1 h
    ·cases hc
   ·rename_i u hq hk
    split at hc
    ·rename_i z hz
     simp only[Yv3]at hc;subst hc
     exact Ztx (call:=call) hh hr hq hk hz h1 h
    ·cases hc
   ·cases hc
 case makeInterface t x=>
  split at hc
  ·cases hc
  ·rename_i d hne hd
   simp only[Ywk]at hc;obtain⟨s,h1,rfl⟩:=hc
   exact Zzd (call:=call) hh hr hd (fun k hk=>hne k hk) h1 h
  ·cases hc
 case makeFunc f first caps=>
  cases f<;>simp only[reduceCtorEq]at hc
  split at hc
  ·rename_i h1 h2
   simp only[Yv3]at hc;subst hc
   exact Ydc (call:=call) hh hr h1 h2 h
  ·cases hc
 case makeMap t rsv=>
  cases rsv<;>simp only[reduceCtorEq]at hc
  simp only[Yv3]at hc;subst hc
  exact Yhv (call:=call) (r:=r) hh h
 case makeSlice t x y=>
  split at hc
  ·rename_i e hu
   split at hc
   ·rename_i hs hb hz hx hy
    split at hc
    ·rename_i hone
     simp only[Yv3]at hc;subst hc
     exact Zzc (call:=call) hh hr hu hs hb hz hone hx hy h
    ·cases hc
   ·cases hc
  ·cases hc
 case slice t x lo hi mx=>
  split at hc
  ·rename_i hx hlo hhi hmx
   split at hc
   ·rename_i hu
    split at hc
    ·cases hc
    ·rename_i hnone
     simp only[Yv3]at hc;subst hc
     have hm:mx=none:=by
      cases mx with
      |none=>rfl
      |some q=>
       simp only[Ztq]at hmx
       split at hmx
       ·simp only[Yv3]at hmx
        subst hmx;simp at hnone
       ·cases hmx
     subst hm
     exact Zt7 (call:=call) hh hr hu hx hlo hhi h
   ·rename_i e hu
    simp only[Ywk]at hc;obtain⟨s,h1,rfl⟩:=hc
    exact Zyi (call:=call) hh hr hu h1 hx hlo hhi hmx h
   ·rename_i k e hu
    simp only[Ywk]at hc;obtain⟨s,h1,rfl⟩:=hc
    exact Zt8 (call:=call) hh hr hu h1 hx hlo hhi hmx h
   ·cases hc
  ·cases hc
 case fieldAddr t x i=>
  split at hc
  ·rename_i hu hx
   split at hc
   ·rename_i f hf
    split at hc
    ·rename_i hk
     simp only[Yv3]at hc;subst hc
     exact Yip (call:=call) hh hr hu hf hk hx h
    ·cases hc
   ·cases hc
  ·cases hc
 case indexAddr t x i=>
  split at hc
  ·rename_i hu hx hi
   simp only[Ywk]at hc;obtain⟨s,h1,rfl⟩:=hc
   exact Zvd (call:=call) hh hr hu h1 hx hi h
  ·rename_i hu hx hi
   simp only[Ywk]at hc;obtain⟨s,h1,rfl⟩:=hc
   exact Zz4 (call:=call) hh hr hu h1 hx hi h
  ·cases hc
 case index t x i=>
  split at hc
  ·rename_i hu hx hi
   simp only[Yv3]at hc;subst hc
   exact Yd6 (call:=call) hh hr hu hx hi h
  ·cases hc
 case lookup t x k ok=>
  split at hc
  ·rename_i hu hx hk
   split at hc
   ·rename_i h1 h2
    simp only[Yv3]at hc;subst hc
    exact Ydj (call:=call) hh hr hu h1 h2 hx hk h
   ·cases hc
  ·cases hc
 case mapUpdate t x k y=>
  split at hc
  ·rename_i hu hx hk hy
   simp only[Ywk]at hc;obtain⟨s,h1,rfl⟩:=hc
   exact Zso (call:=call) hh hr hu h1 hx hk hy h
  ·cases hc
 case insert t x k y=>
  split at hc
  ·rename_i hu hx hk hy
   simp only[Ywk]at hc;obtain⟨s,h1,rfl⟩:=hc
   exact Zso (call:=call) hh hr hu h1 hx hk hy h
  ·cases hc
 case range t x=>
  split at hc
  ·rename_i hu hx
   simp only[Yv3]at hc;subst hc
   exact Zuh (call:=call) hh hr hu hx h
  ·cases hc
 case next it isS=>
  cases isS<;>simp only[reduceCtorEq]at hc
  simp only[Ywk]at hc;obtain⟨s,h1,rfl⟩:=hc
  exact Zyz (call:=call) hh hr h1 h
 case extract x i=>simp only[Ywk]at hc;obtain⟨s,h1,rfl⟩:=hc;exact Zz7 (call:=call) hh hr h1 h
 case call c=>
  obtain⟨callee,args,ats⟩:=c
  cases callee with
  |invoke r' nm=>simp only[Ztf,reduceCtorEq]at hc
  |builtin b=>
   have:=Zvw (ty:=ty) (cs:=args.map fun|.const _=>true|_=>false) hh hr hc h
   obtain⟨nx,x,w',μ',ws,k1,k2⟩:=this
   refine⟨nx,x,w',μ',ws,?_,k2⟩
   rw[←k1]
   simp[execOp,resolve,invoke]
   rfl
  |value f=>
   simp only[Ztf]at hc
   split at hc
   ·cases hc
   ·rename_i ss hss
    cases f<;>simp only at hc
    case func gid=>
     split at hc
     ·rename_i fn hfn
      split at hc
      ·simp only[Yv3]at hc;subst hc;simp[MOp.isCall]at hn
      ·rename_i hb
       split at hc
       ·rename_i e he
        simp only[Yv3]at hc;subst hc
        have:=Yrh (call:=call) hh hr hE hfn (by simpa using hb) he hss h
        obtain⟨nx,x,w',μ',ws,k1,k2⟩:=this
        refine⟨nx,x,w',μ',ws,?_,k2⟩
        rw[←k1]
        have e0:(⟨List.map a.eval args.toList⟩:Array Value)=args.map a.eval:=by apply Array.ext';simp
        rw[e0]
        simp[execOp,resolve,invoke,Deferred.ofValue,Act.eval]
       ·cases hc
     ·cases hc
    all_goals
     split at hc
     ·simp only[Yv3]at hc;subst hc;simp[MOp.isCall]at hn
     ·cases hc
end
abbrev FE(lb:Option Nat):Fence:={Fence.wide with round:=lb}
def Yl7(R:Value→World→Prop):Ending→World→Prop
 |.returned x,w=>R x w
 |_,_=>False
def Zk7(P:Program)(y:Bool)(G:Value)(xs:Array Value)(w:World)(R:Value→World→Prop):Prop:=
 (∃d,(Deferred.ofValue G xs).run P w=.ok d w∧
  ((y=false∧∃f args,(invoke d.target d.args).run P w=.ok (.enter f args) w∧CallsIn Fence.wide 0 P f args w (Yl7 R))∨
     (y=true∧∃l f tmps asg bod,(invoke d.target d.args).run P w=.ok (.round l f tmps asg bod) w∧RoundIn Fence.wide 0 P l f tmps asg bod w (Yl7 R))))
def Zbx(P:Program)(call:Za4):Prop:=
 ∀(g:V) (args:List V) (st:St) (v:V) (st':St),call g args st=some (v,st')→∀(μ:Mu) (w:World) (G:Value) (xs:List Value),Zbb P μ w st→VR μ g G→VRs μ args xs→
  Zk7 P g.isY G ⟨xs⟩ w fun x w'=>∃μ' ws,VR μ' v x∧Stp P μ w st μ' w' st' ws
def Zo8(μ:Mu):List Nat→List Deferred→Prop
 |[],ds=>ds=[]
 |m::ms,ds=>∃l ds',μ m=some l∧ds={target:=.collected l.b,args:=#[]}::ds'∧Zo8 μ ms ds'
def Zo8.mono{μ μ':Mu}(h:∀i l,μ i=some l→μ' i=some l):∀{ms:List Nat} {ds:List Deferred},Zo8 μ ms ds→Zo8 μ' ms ds
 |[],_,hd=>hd
 |_::_,_,⟨l,ds',h1,h2,h3⟩=>⟨l,ds',h _ _ h1,h2,Zo8.mono h h3⟩
def FrR(μ:Mu)(fr:Fr)(a:Act):Prop:=RR μ fr.r fr.n a.tmps∧Zo8 μ fr.marks a.defers
def FrR.mono{μ μ':Mu}(h:∀i l,μ i=some l→μ' i=some l){fr:Fr}{a:Act}(hf:FrR μ fr a):FrR μ' fr a:=⟨hf.1.mono h,hf.2.mono h⟩
section
variable {P:Program} {μ:Mu} {w:World} {st st':St} {fr fr':Fr} {a:Act} {call:Za4} {v:V} {lb:Option Nat}
def Stp.mono{μ':Mu}{w':World}{ws:List Nat}(hh:Zbb P μ w st)(h:Stp P μ w st μ' w' st' ws):∀i l,μ i=some l→μ' i=some l:=Zbb.ext_of hh h.ext
def FrR.put(hf:FrR μ fr a){d:Option Nat}{x:Value}(hv:VR μ v x)(h:fr.put d v=some fr'):FrR μ fr' (a.put d x):=by
 cases d with
 |none=>
  simp only[Fr.put,Yv3]at h;subst h
  exact hf
 |some d=>
  simp only[Fr.put]at h
  split at h
  ·rename_i hd
   simp only[Yv3]at h;subst h
   exact⟨hf.1.set hd hv,hf.2⟩
  ·cases h
def Ymo(hcall:Zbx P call)(hE:Zez P)(hh:Zbb P μ w st)(hf:FrR μ fr a){o:Oper}(h:mop (cOp P o.op) call fr.r st=some (v,st')){K:Act→World→Prop}{Q:Exit→Act→World→Prop}
  (hK:∀x w' μ' ws,VR μ' v x→Stp P μ w st μ' w' st' ws→K (a.put o.dst x) w'):o.wpIn (FE lb) 0 P a w K Q:=by
 refine⟨fun _ _=>trivial,?_⟩
 have hnd:∀c,o.op≠.defer c:=by
  intro c hc
  rw[hc]at h
  simp only[cOp,Ypt,Option.getD_none]at h
  cases h
 show o.uponIn (FE lb) 0 P a K Q ((o.semAt lb a.eval).run P w)
 rw[Oper.semAt_eq _ _ _ hnd]
 cases hc:Ypt P o.op with
 |none=>
  simp only[cOp,hc,Option.getD_none]at h
  cases h
 |some m=>
  simp only[cOp,hc,Yxg]at h
  by_cases hn:m.isCall=true
  ·-- a call
   obtain⟨dst,op,ty,pos,af,g⟩:=o
   cases m<;>simp only[MOp.isCall,Ywi]at hn
   rename_i sf ss
   have hop:∃c f,op=.call c∧c.callee=.value f∧Zbl P f=some sf∧Zjk P c.args.toList=some ss:=by
    cases op<;>simp only[Ypt]at hc<;>try (cases hc;done)
    case call c=>
     obtain⟨callee,args,ats⟩:=c
     cases callee with
     |invoke r' nm=>simp only[Ztf,reduceCtorEq]at hc
     |builtin b=>
      exfalso
      simp only[Ztf]at hc
      repeat' split at hc
      all_goals first|(cases hc;done)|(simp at hc;done)
     |value f=>
      simp only[Ztf]at hc
      split at hc
      ·cases hc
      ·rename_i ss' hss
       refine⟨_,f,rfl,rfl,?_⟩
       cases f<;>simp only at hc
       case func gid=>
        split at hc
        ·split at hc
         ·simp only[Yv3,MOp.call.injEq]at hc
          obtain⟨rfl,rfl⟩:=hc
          exact⟨rfl,hss⟩
         ·split at hc
          ·simp at hc
          ·cases hc
        ·cases hc
       all_goals
        split at hc
        ·rename_i h1
         simp only[Yv3,MOp.call.injEq]at hc
         obtain⟨rfl,rfl⟩:=hc
         exact⟨h1,hss⟩
        ·cases hc
    all_goals
     exfalso
     repeat' split at hc
     all_goals first|(cases hc;done)|contradiction|(simp at hc;done)|(rw[Yys]at hc;simp at hc;done)
   obtain⟨c,f,rfl,hcal,h1,h2⟩:=hop
   have h':Zex sf ss call fr.r st=some (v,st'):=h
   unfold Zex at h'
   split at h'
   ·rename_i gv l hg hl
    have hG:=Zav hh hf.1 h1 hg
    have hX:=Zfk hh hf.1 h2 hl
    obtain⟨d,hd,hrest⟩:=hcall _ _ _ _ _ h' μ w _ _ hh hG hX
    have e0:(⟨List.map a.eval c.args.toList⟩:Array Value)=c.args.map a.eval:=by apply Array.ext';simp
    rw[e0]at hd
    have hres:(resolve a.eval c ty).run P w=.ok d w:=by
     simp only[resolve,hcal]
     exact hd
    rcases hrest with⟨_,g',args,hinv,hci⟩|⟨_,l',g',tmps,asg,bod,hinv,hri⟩
    ·have hrun:(execOp a.eval ⟨dst,.call c,ty,pos,af,g⟩).run P w=.ok (.enter g' args) w:=by
      simp only[execOp,Sem.run_bind,hres,Result.andThen_ok,hinv]
     rw[hrun,Oper.uponIn_enter]
     refine⟨fun hx=>by simp[Fence.wide]at hx,?_⟩
     refine CallsIn.mono (F:=Fence.wide) hci fun e w' he=>?_
     cases e with
     |returned x=>
      obtain⟨μ',ws,q1,q2⟩:=he
      exact hK x w' μ' ws q1 q2
     |panicked _=>exact he.elim
     |outgrown=>exact he.elim
    ·have hrun:(execOp a.eval ⟨dst,.call c,ty,pos,af,g⟩).run P w=.ok (.round l' g' tmps asg bod) w:=by
      simp only[execOp,Sem.run_bind,hres,Result.andThen_ok,hinv]
     rw[hrun,Oper.uponIn_round]
     refine⟨fun hx=>by simp[Fence.wide]at hx,?_⟩
     refine RoundIn.mono (F:=Fence.wide) hri fun e w' he=>?_
     cases e with
     |returned x=>
      obtain⟨μ',ws,q1,q2⟩:=he
      exact hK x w' μ' ws q1 q2
     |panicked _=>exact he.elim
     |outgrown=>exact he.elim
   ·cases h'
  ·obtain⟨nx,x,w',μ',ws,k1,k2,k3,k4⟩:=Yqm hh hf.1 hE hc (by simpa using hn) h
   rw[k1]
   rcases k2 with rfl|⟨rfl,rfl⟩
   ·rw[Oper.uponIn_value];exact hK x w' μ' ws k3 k4
   ·rw[Oper.uponIn_skip];exact hK undef w' μ' ws k3 k4
def Zpa{ops:Array Oper}{o:Oper}{g:Option (Nat×Bool)}(hr:RR μ fr.r fr.n a.tmps)(hg:Zoj ops o.guard=some g){b:Bool}(h:wantedV fr.r g=some b):Region.wanted o (yielded ops a.tmps)=b:=by
 unfold Region.wanted
 cases ho:o.guard with
 |none=>
  rw[ho]at hg
  simp only[Zoj,Yv3]at hg;subst hg
  simp only[wantedV,Yv3]at h
  exact h
 |some p=>
  obtain⟨j,want⟩:=p
  rw[ho]at hg
  simp only[Zoj]at hg
  split at hg
  ·rename_i t ht
   simp only[Yv3]at hg;subst hg
   simp only[wantedV]at h
   split at h
   ·rename_i b' hb
    simp only[Yv3]at h;subst h
    obtain⟨x,hx,hv⟩:=hr.2 _ _ hb
    simp only[VR]at hv
    subst hv
    simp[yielded,ht,hx]
   ·rename_i l hb
    simp only[Yv3]at h;subst h
    obtain⟨x,hx,y,hv,_⟩:=hr.2 _ _ hb
    subst hv
    simp[yielded,ht,hx]
   ·cases h
  ·cases hg
end
def exE:Ex→Exit
 |.normal=>.normal
 |.exit id=>.exit id
 |.ret=>.ret
def RoR(μ:Mu):Option Nat→Option Nat→Prop
 |none,none=>True
 |some l,some b=>∃L,μ l=some L∧L.b=b
 |_,_=>False
def RoR.mono{μ μ':Mu}(h:∀i l,μ i=some l→μ' i=some l){ro lb:Option Nat}(hr:RoR μ ro lb):RoR μ' ro lb:=by
 cases ro<;>cases lb<;>simp only[RoR]at*
 obtain⟨L,h1,h2⟩:=hr
 exact⟨L,h _ _ h1,h2⟩
def Zjo(P:Program)(μ:Mu)(w:World)(st:St)(ex:Ex)(fr':Fr)(st':St):Exit→Act→World→Prop:=fun e a' w'=>
 e=exE ex∧∃μ' ws,Stp P μ w st μ' w' st' ws∧FrR μ' fr' a'
section
variable {P:Program} {μ:Mu} {w:World} {st st':St} {fr fr':Fr} {a:Act} {call:Za4} {v:V} {lb:Option Nat}
def Ymy(hcall:Zbx P call)(hE:Zez P){ops:Array Oper}{Q:Exit→Act→World→Prop}:∀(is:List Nat) (os:List Oper),is.map (fun i=>ops[i]?)=os.map some→
  ∀{st:St} {fr:Fr} {a:Act} {w:World} {μ:Mu},Zbb P μ w st→FrR μ fr a→mops call (os.map (Zhb P ops)) fr st=some (fr',st')→
   (∀a' w' μ' ws,FrR μ' fr' a'→Stp P μ w st μ' w' st' ws→Q .normal a' w')→wpOpsIn (FE lb) 0 P ops Q is a w:=by
 intro is
 induction is with
 |nil=>
  intro os hos st fr a w μ hh hf h hQ
  cases os with
  |cons o os=>simp at hos
  |nil=>
   simp only[Yyr,mops,Yj9,Yv3,Ywa]at h
   obtain⟨rfl,rfl⟩:=h
   exact hQ a w μ [] hf (Stp.refl hh)
 |cons i is ih=>
  intro os hos st fr a w μ hh hf h hQ
  cases os with
  |nil=>simp at hos
  |cons o os=>
   simp only[Yxk,Ywu]at hos
   obtain⟨hoi,hos⟩:=hos
   simp only[Yxk,mops,Ziu]at h
   unfold wpOpsIn
   rw[hoi]
   simp only[]
   have go:∀(v:V) (st1:St) (fr1:Fr) (x:Value) (w1:World) (μ1:Mu) (ws:List Nat),VR μ1 v x→Stp P μ w st μ1 w1 st1 ws→fr.put o.dst v=some fr1→mops call (os.map (Zhb P ops)) fr1 st1=some (fr',st')→
     wpOpsIn (FE lb) 0 P ops Q is (a.put o.dst x) w1:=by
    intro v st1 fr1 x w1 μ1 ws hv hs hp hm
    refine ih os hos hs.hr ((hf.mono (hs.mono hh)).put hv hp) hm fun a' w' μ' ws' hf' hs'=>?_
    exact hQ a' w' μ' _ hf' (hs.trans hs')
   unfold Zhb at h
   cases hg:Zoj ops o.guard with
   |none=>
    rw[hg]at h
    simp only[wantedV,mop,Zuk]at h
    cases h
   |some g=>
    rw[hg]at h
    simp only at h
    cases hw:wantedV fr.r g with
    |none=>rw[hw]at h;cases h
    |some b=>
     rw[hw]at h
     have hwant:=Zpa hf.1 hg hw
     cases b with
     |true=>
      rw[Yv6 hwant]
      simp only at h
      split at h
      ·rename_i v1 st1 hm
       split at h
       ·rename_i fr1 hp
        exact Ymo hcall hE hh hf hm fun x w' μ' ws q1 q2=>go v1 st1 fr1 x w' μ' ws q1 q2 hp h
       ·cases h
      ·cases h
     |false=>
      rw[Yv4 (by rw[hwant];simp)]
      simp only at h
      split at h
      ·rename_i fr1 hp
       exact⟨fun _ _=>trivial,go (.tup []) st fr1 undef w μ [] ⟨[],rfl,by simp[VRs]⟩ (Stp.refl hh) hp h⟩
      ·cases h
def Ych{ops:Array Oper}:(List.range ops.size).map (fun i=>ops[i]?)=ops.toList.map some:=by
 apply Ywy
 intro i
 simp only[Ywj]
 by_cases h:i<ops.size
 ·simp[h]
 ·simp[h]
def Zo2{F:Fence}{n:Nat}{c:Code}{Q:Exit→Act→World→Prop}(J:Nat→Act→World→Prop)
  (round:∀f a w,J f a w→c.wpIn F n P (Exit.then (fun a' w'=>∃f',f'<f∧J f' a' w') Q) a w) {f:Nat} (h₀:J f a w):(Code.loop c).wpIn F n P Q a w:=by
 intro b k cs hro hb hr
 have key:∀j a w,J j a w→
   ∃e a' w',Q e a' w'∧ArrivesIn (Machine.fenced P F) P (lone (b.atR a (.code c::.inLoop c::k)) cs w) b k cs e a' w':=by
  intro j
  induction j using Nat.strongRecOn with
  |_ j ih=>
   intro a w hI
   obtain⟨e,a₁,w₁,hq,harr⟩:=round j a w hI b (.inLoop c::k) cs hro hb hr
   cases e with
   |normal=>
    obtain⟨f',hlt,hI₁⟩:=hq
    obtain⟨e₂,a₂,w₂,hq₂,harr₂⟩:=ih f' hlt a₁ w₁ hI₁
    exact⟨e₂,a₂,w₂,hq₂,.of_steps (StepsIn.trans harr (.one (fenced_calm hb hr rfl) stepR_inLoop)) harr₂⟩
   |exit id=>exact⟨_,a₁,w₁,hq,.pass (x:=.inLoop c) rfl (fun _ _=>.inl (by simp)) harr⟩
   |goto l=>exact⟨_,a₁,w₁,hq,.pass (x:=.inLoop c) rfl (fun _ _=>.inl (by simp)) harr⟩
   |ret=>exact⟨_,a₁,w₁,hq,.pass (x:=.inLoop c) rfl (fun _ _=>.inl (by simp)) harr⟩
   |panic ch=>exact⟨_,a₁,w₁,hq,.pass (x:=.inLoop c) rfl (fun _ _=>.inl (by simp)) harr⟩
   |outgrown=>exact⟨_,a₁,w₁,hq,.pass (x:=.inLoop c) rfl (fun _ _=>.inl (by simp)) harr⟩
 obtain⟨e,a',w',hq,harr⟩:=key _ a w h₀
 exact⟨e,a',w',hq,.of_steps (.one (fenced_calm hb hr rfl) stepR_loop) harr⟩
def Zd8{b:Frame}{k:List Item}{cs:List Frame}{c:Code}:
  step P (lone (b.atR a (.code (.scope c)::k)) cs w)=.next (lone (b.atR a (.code c::.inScope c::k)) cs w):=
 step_lone_go (by simp[stepG,stepG.exec,Frame.atR])
def Zqi{b:Frame}{k:List Item}{cs:List Frame}{c:Code}:
  step P (lone (b.atR a (.inScope c::k)) cs w)=.next (lone (b.atR a k) cs w):=
 step_lone_go (by simp[stepG,stepG.exec,Frame.atR])
def Zyb{F:Fence}{n:Nat}{c:Code}{Q:Exit→Act→World→Prop}(h:c.wpIn F n P Q a w)(hq:∀l a w,¬Q (.goto l) a w):(Code.scope c).wpIn F n P Q a w:=by
 intro b k cs hro hb hr
 have h0:(lone (b.atR a (.code (.scope c)::k)) cs w).fenced P F:=fenced_calm hb hr rfl
 obtain⟨e,a₁,w₁,hQ,harr⟩:=h b (.inScope c::k) cs hro hb hr
 cases e with
 |normal=>exact⟨.normal,a₁,w₁,hQ,.head h0 Zd8 (StepsIn.trans harr (.one (fenced_calm hb hr rfl) Zqi))⟩
 |exit id=>
  have hx:exitTo id (.inScope c::k)=exitTo id k:=by simp[exitTo]
  exact⟨.exit id,a₁,w₁,hQ,fun k' hk=>.head h0 Zd8 (harr.1 k' (by rw[hx];exact hk)),
   fun hr' hk=>let ⟨k₁,h1,h2⟩:=harr.2 hr' (by rw[hx];exact hk);⟨k₁,h1,.head h0 Zd8 h2⟩⟩
 |goto l=>exact absurd hQ (hq l a₁ w₁)
 |ret=>exact⟨_,a₁,w₁,hQ,.of_steps (.one h0 Zd8) harr⟩
 |panic ch=>exact⟨_,a₁,w₁,hQ,.of_steps (.one h0 Zd8) harr⟩
 |outgrown=>exact⟨_,a₁,w₁,hQ,.of_steps (.one h0 Zd8) harr⟩
def Zjo.after{μ1:Mu}{w1:World}{st1:St}{ws:List Nat}(hs:Stp P μ w st μ1 w1 st1 ws){ex:Ex}{e:Exit}{a':Act}{w':World}(h:Zjo P μ1 w1 st1 ex fr' st' e a' w'):Zjo P μ w st ex fr' st' e a' w':=by
 obtain⟨h1,μ',ws',h2,h3⟩:=h
 exact⟨h1,μ',_,hs.trans h2,h3⟩
def Zjo.then{μ:Mu}{ex:Ex}{fr1:Fr}{st1:St}{K:Act→World→Prop}{Q:Exit→Act→World→Prop}{e:Exit}{a':Act}{w':World}(h:Zjo P μ w st ex fr1 st1 e a' w')
  (hn:ex=.normal→K a' w') (hq:ex≠.normal→Q e a' w'):Exit.then K Q e a' w':=by
 obtain⟨rfl,h⟩:=h
 cases ex<;>simp only[exE,Exit.then]
 ·exact hn rfl
 ·exact hq (by simp)
 ·exact hq (by simp)
def Zqa(P:Program)(code:Zgf):Prop:=
 ∀(ro:Option Nat) (c:Code) (fr:Fr) (st:St) (ex:Ex) (fr':Fr) (st':St),code ro (Zc5 P c) fr st=some (ex,fr',st')→
  ∀(μ:Mu) (w:World) (a:Act) (lb:Option Nat),Zbb P μ w st→FrR μ fr a→RoR μ ro lb→c.wpIn (FE lb) 0 P (Zjo P μ w st ex fr' st') a w
def Yk7(P:Program)(call:Za4):Prop:=
 ∀(id:Nat) (ops:Array Oper) (fr:Fr) (st:St) (ex:Ex) (fr':Fr) (st':St),Yl8 P ops=true→Zh5 (ops.toList.map (Zhb P ops)) (Zdf ops.toList []) call Zmo none fr st=some (ex,fr',st')→
  ∀(μ:Mu) (w:World) (a:Act) (lb:Option Nat),Zbb P μ w st→FrR μ fr a→(Code.region id ops true).wpIn (FE lb) 0 P (Zjo P μ w st ex fr' st') a w
def Yr1(P:Program)(call:Za4):Prop:=
 ∀(id:Nat) (ops:Array Oper) (o:Oper) (rest:List Oper) (d:Option Nat) (ch:Src) (s:Option Src) (z:V) (fr:Fr) (st:St) (ex:Ex) (fr':Fr) (st':St),ops.toList=o::rest→Yue P o=some (d,ch,s,z)→
  Ziw d ch s z (rest.map (Zhb P ops)) call Zmo none fr st=some (ex,fr',st')→
  ∀(μ:Mu) (w:World) (a:Act) (lb:Option Nat),Zbb P μ w st→FrR μ fr a→(Code.region id ops false).wpIn (FE lb) 0 P (Zjo P μ w st ex fr' st') a w
def Yfv(P:Program)(call:Za4):Prop:=
 ∀(ro:Option Nat) (g:Operand) (s:Src) (ps:Array Nat) (asg bod:Code) (fr:Fr) (st:St) (ex:Ex) (fr':Fr) (st':St),Zbl P g=some s→
  Ze5 s ps.toList (Zc5 P asg) (Zc5 P bod) call Zmo ro fr st=some (ex,fr',st')→
  ∀(μ:Mu) (w:World) (a:Act) (lb:Option Nat),Zbb P μ w st→FrR μ fr a→RoR μ ro lb→(Code.rangeFunc g ps asg bod).wpIn (FE lb) 0 P (Zjo P μ w st ex fr' st') a w
def Yfa(hcall:Zbx P call)(hE:Zez P)(hD:Yk7 P call)(hS:Yr1 P call)(hR:Yfv P call):∀fuel,Zqa P (Zbh call fuel):=by
 intro fuel
 induction fuel using Nat.strongRecOn with
 |_ fuel ihs=>
 cases fuel with
 |zero=>intro ro c fr st ex fr' st' h;cases h
 |succ f=>
  have ih:Zqa P (Zbh call f):=ihs f (Yxu f)
  intro ro c fr st ex fr' st' h μ w a lb hh hf hro
  cases c with
  |skip=>
   simp only[Zc5,Zbh,Zba,Yfg,Yv3,Ywa]at h
   obtain⟨rfl,rfl,rfl⟩:=h
   exact wpIn_skip ⟨rfl,μ,[],Stp.refl hh,hf⟩
  |label l=>
   simp only[Zc5,Zbh,Zba,Yfg,Yv3,Ywa]at h
   obtain⟨rfl,rfl,rfl⟩:=h
   exact wpIn_label ⟨rfl,μ,[],Stp.refl hh,hf⟩
  |exit id=>
   simp only[Zc5,Zbh,Zba,Yk0,Yv3,Ywa]at h
   obtain⟨rfl,rfl,rfl⟩:=h
   exact wpIn_exit ⟨rfl,μ,[],Stp.refl hh,hf⟩
  |ret=>
   simp only[Zc5,Zbh,Zba,Yrv,Yv3,Ywa]at h
   obtain⟨rfl,rfl,rfl⟩:=h
   exact wpIn_ret ⟨rfl,μ,[],Stp.refl hh,hf⟩
  |goto l=>simp only[Zc5,Zbh,Zba,Zp5]at h;cases h
  |refuse why=>simp only[Zc5,Zbh,Zba,Zp5]at h;cases h
  |region id ops draw=>
   cases draw with
   |true=>
    simp only[Zc5]at h
    split at h
    ·rename_i hp
     simp only[Zbh,Zba]at h
     exact hD id ops fr st ex fr' st' hp h μ w a lb hh hf
    ·simp only[Zbh,Zba,Zp5]at h;cases h
   |false=>
    have plain:Zoi (ops.toList.map (Zhb P ops)) call (Zbh call f) ro fr st=some (ex,fr',st')→(Code.region id ops false).wpIn (FE lb) 0 P (Zjo P μ w st ex fr' st') a w:=by
     intro h
     simp only[Zoi]at h
     split at h
     ·rename_i fr1 st1 hm
      simp only[Yv3,Ywa]at h
      obtain⟨rfl,rfl,rfl⟩:=h
      exact wpIn_region (Ymy hcall hE _ _ Ych hh hf hm fun a' w' μ' ws q1 q2=>⟨rfl,μ',ws,q2,q1⟩)
     ·cases h
    simp only[Zc5,Zbh]at h
    split at h
    ·rename_i ho
     exact plain (by rw[ho];exact h)
    ·rename_i o rest ho
     split at h
     ·rename_i d ch s z hs
      exact hS id ops o rest d ch s z fr st ex fr' st' ho hs h μ w a lb hh hf
     ·exact plain (by rw[ho];exact h)
  |seq x y=>
   simp only[Zc5,Zbh,Zba,Zo6]at h
   refine wpIn_seq ?_
   split at h
   ·rename_i fr1 st1 hx
    refine wpIn_mono (ih ro x fr st _ _ _ hx μ w a lb hh hf hro) fun e a' w' hp=>?_
    have hp0:=hp
    obtain⟨he,μ1,ws,hs,hf1⟩:=hp
    refine hp0.then (fun _=>?_) (fun hne=>absurd rfl hne)
    exact wpIn_mono (ih ro y fr1 st1 ex fr' st' h μ1 w' a' lb hs.hr hf1 (hro.mono (hs.mono hh))) fun e2 a2 w2 hp2=>hp2.after hs
   ·rename_i hx
    refine wpIn_mono (ih ro x fr st _ _ _ h μ w a lb hh hf hro) fun e a' w' hp=>?_
    refine hp.then (fun hn=>?_) (fun _=>hp)
    subst hn
    exact absurd h (hx fr' st')
  |cond x p q=>
   simp only[Zc5]at h
   split at h
   ·rename_i s hs
    simp only[Zbh,Zba,Zgd]at h
    split at h
    ·rename_i hv
     have:=Zav hh hf.1 hs hv
     exact wpIn_cond_true (by simpa[VR]using this) (ih ro p fr st ex fr' st' h μ w a lb hh hf hro)
    ·rename_i hv
     have:=Zav hh hf.1 hs hv
     exact wpIn_cond_false (by simpa[VR]using this) (ih ro q fr st ex fr' st' h μ w a lb hh hf hro)
    ·cases h
   ·simp only[Zbh,Zba,Zp5]at h;cases h
  |block id c=>
   simp only[Zc5,Zbh,Zba,Zfz]at h
   refine wpIn_block ?_
   split at h
   ·rename_i id' fr1 st1 hx
    refine wpIn_mono (ih ro c fr st _ _ _ hx μ w a lb hh hf hro) fun e a' w' hp=>?_
    obtain⟨rfl,hp⟩:=hp
    simp only[exE,Exit.inBlock]
    split at h
    ·rename_i hid
     simp only[Yv3,Ywa]at h
     obtain⟨rfl,rfl,rfl⟩:=h
     rw[Yv6 (Yzw hid)]
     exact⟨rfl,hp⟩
    ·rename_i hid
     simp only[Yv3,Ywa]at h
     obtain⟨rfl,rfl,rfl⟩:=h
     rw[Yv4 (Nat.ne_of_beq_eq_false hid)]
     exact⟨rfl,hp⟩
   ·rename_i hx
    refine wpIn_mono (ih ro c fr st _ _ _ h μ w a lb hh hf hro) fun e a' w' hp=>?_
    have hp0:=hp
    obtain⟨rfl,hp⟩:=hp
    cases ex with
    |normal=>exact hp0
    |ret=>exact hp0
    |exit id'=>exact absurd h (hx id' fr' st')
  |loop c=>
   refine Zo2 (fun k a1 w1=>k≤f+1∧∃fr1 st1 μ1 ws,Stp P μ w st μ1 w1 st1 ws∧FrR μ1 fr1 a1∧Zbh call k ro (.loop (Zc5 P c)) fr1 st1=some (ex,fr',st')) ?_
    (f:=f+1) ⟨Yv5 _,fr,st,μ,[],Stp.refl hh,hf,h⟩
   intro k a1 w1 hJ
   obtain⟨hk,fr1,st1,μ1,ws,hs,hf1,hm⟩:=hJ
   cases k with
   |zero=>cases hm
   |succ k=>
    simp only[Zbh,Zba,Zix]at hm
    have ihk:Zqa P (Zbh call k):=ihs k (by omega)
    split at hm
    ·rename_i fr2 st2 hx
     refine wpIn_mono (ihk ro c fr1 st1 _ _ _ hx μ1 w1 a1 lb hs.hr hf1 (hro.mono (hs.mono hh))) fun e a' w' hp=>?_
     have hp0:=hp
     obtain⟨he,μ2,ws2,hs2,hf2⟩:=hp
     refine hp0.then (fun _=>?_) (fun hne=>absurd rfl hne)
     exact⟨k,Yxu k,by omega,fr2,st2,μ2,_,hs.trans hs2,hf2,hm⟩
    ·rename_i hx
     refine wpIn_mono (ihk ro c fr1 st1 _ _ _ hm μ1 w1 a1 lb hs.hr hf1 (hro.mono (hs.mono hh))) fun e a' w' hp=>?_
     refine hp.then (fun hn=>?_) (fun _=>hp.after hs)
     subst hn
     exact absurd hm (hx fr' st')
  |scope c=>
   simp only[Zc5,Zbh,Zba,Yfh]at h
   refine Zyb (ih ro c fr st ex fr' st' h μ w a lb hh hf hro) fun l a' w' hp=>?_
   obtain⟨he,_⟩:=hp
   cases ex<;>simp[exE]at he
  |rangeFunc g ps asg bod=>
   simp only[Zc5]at h
   split at h
   ·rename_i s hs
    simp only[Zbh,Zba]at h
    exact hR ro g s ps asg bod fr st ex fr' st' hs h μ w a lb hh hf hro
   ·simp only[Zbh,Zba,Zp5]at h;cases h
end
end Go.Mx
