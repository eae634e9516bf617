/-Every operation of M that calls no funct-/
import Derived.Test.YtlbnjhhebffhdaaGreatDoorMxOp10
import Derived.RangeFuncRecord
import Derived.OrdersIn
set_option linter.all false
namespace Go.Mx
open Go
section
variable {P:Program} {μ:Mu} {w:World} {st st':St} {r:T V} {n:Nat} {a:Act} {call:cP} {v:V}
def fZ.zgA:fZ->Bool
 |.call _ _=>true
 |_=>false
def xj{α:Type}{a:Array α}{x:α}(h:a.toList=[x]):a=#[x]:=by
 apply zh;simpa using h
def Oy{α:Type}{a:Array α}{x y:α}(h:a.toList=[x,y]):a=#[x,y]:=by
 apply zh;simpa using h
def Zv6(hh:Za9 P μ w st)(hr:RR μ r n a.tmps){b:Builtin}{ts:Array TypeId}{xs:Array Operand}{ty:TypeId}{cs:Array Bool}{m:fZ}(hc:Dw P ⟨.builtin b,xs,ts⟩=some m)
  (h:cJ m call r st=some (v,st')):Za5 P μ w st (builtin b ts ty cs (xs.map a.eval)) v st':=by
 simp only[Dw]at hc
 split at hc
 ·rename_i t x ht hx
  have e1:=xj ht
  have e2:=xj hx
  subst e1 e2
  simp only[builtin,BT,Yw1,tV]
  split at hc
  ·rename_i s hu hs
   simp only[au]at hc;subst hc
   exact Zz2 (call:=call) hh hr hu hs h
  ·rename_i e s hu hs
   simp only[au]at hc;subst hc
   exact Zsq (call:=call) hh hr hu hs h
  ·rename_i k e s hu hs
   simp only[au]at hc;subst hc
   exact Zz3 (call:=call) hh hr hu hs h
  ·rename_i k e s hu
   simp only[au]at hc;subst hc
   exact Zsr (call:=call) (r:=r) hh (.inl ⟨_,hu⟩) h
  ·rename_i u s hu
   split at hc
   ·rename_i k e fi
    simp only[au]at hc;subst hc
    exact Zsr (call:=call) (r:=r) hh (.inr ⟨_,_,hu,fi⟩) h
   ·cases hc
  ·cases hc
 ·rename_i t x ht hx
  have e1:=xj ht
  have e2:=xj hx
  subst e1 e2
  simp only[builtin,BT,Yw1,tV]
  split at hc
  ·rename_i e s hu hs
   simp only[au]at hc;subst hc
   exact Yrh (call:=call) hh hr hu hs h
  ·cases hc
 ·split at hc
  ·rename_i l hl
   simp only[au]at hc;subst hc
   exact Ys4 (call:=call) hh hr hl h
  ·cases hc
 ·split at hc
  ·rename_i l hl
   simp only[au]at hc;subst hc
   exact Ys2 (call:=call) hh hr hl h
  ·cases hc
 ·rename_i t u s x ht hx
  have e1:=Oy ht
  have e2:=Oy hx
  subst e1 e2
  simp only[builtin,BT,Yw1,tV]
  split at hc
  ·rename_i e hu
   split at hc
   ·rename_i n' b' z s' x' d hs hb hz gg oA hd
    rw[Lz]at hc
    obtain⟨cZ,hc⟩:=hc
    simp only[not_or,Decidable.not_not]at cZ
    obtain⟨c1,c2,c3,c4⟩:=cZ
    simp only[au]at hc;subst hc
    have c4':z.cells.all V.one=true:=by simpa using c4
    exact Ygf (call:=call) hh hr (by rfl) hu (by rfl) hd (fun k hk=>by subst hk;simp at c1) hs hb hz c3 c4' c2 gg oA h
   ·cases hc
  ·cases hc
 ·rename_i t ts' d s ht hx
  have e2:=Oy hx
  subst e2
  simp only[builtin,BT,Yw1,tV]
  split at hc
  ·rename_i e hu
   split at hc
   ·rename_i n' d' s' hs hd gg
    simp only[au]at hc;subst hc
    exact Yon (call:=call) hh hr (by rw[<-ze,ht];rfl) hu hs hd gg h
   ·cases hc
  ·cases hc
 ·rename_i t s ht hx
  have e1:=xj ht
  have e2:=xj hx
  subst e1 e2
  simp only[builtin,BT,Yw1,tV]
  split at hc
  ·rename_i e hu
   split at hc
   ·rename_i n' z s' hs hz gg
    split at hc
    ·rename_i cK
     simp only[au]at hc;subst hc
     exact Yjq (call:=call) hh hr hu hz cK gg h
    ·cases hc
   ·cases hc
  ·cases hc
 ·rename_i t s ht hx
  have e1:=xj ht
  have e2:=xj hx
  subst e1 e2
  simp only[builtin,BT,Yw1,tV]
  simp only[Ywc]at hc
  obtain⟨s',hs,rfl⟩:=hc
  exact Yhg (call:=call) hh hr hs h
 ·rename_i t s ht hx
  have e1:=xj ht
  have e2:=xj hx
  subst e1 e2
  simp only[builtin,BT,Yw1,tV]
  simp only[Ywc]at hc
  obtain⟨s',hs,rfl⟩:=hc
  exact Ysa (call:=call) hh hr hs h
 ·rename_i t s ht hx
  have e1:=xj ht
  have e2:=xj hx
  subst e1 e2
  simp only[builtin,BT,Yw1,tV]
  simp only[Ywc]at hc
  obtain⟨s',hs,rfl⟩:=hc
  exact Yta (call:=call) hh hr hs h
 ·rename_i t u x y ht hx
  have e1:=Oy ht
  have e2:=Oy hx
  subst e1 e2
  simp only[builtin,BT,Yw1,tV]
  split at hc
  ·rename_i e hu
   split at hc
   ·rename_i s q hs hx hy
    simp only[au]at hc;subst hc
    exact Ylw (call:=call) hh hr hu hs hx hy h
   ·cases hc
  ·cases hc
 ·cases hc
def Yqh(hh:Za9 P μ w st)(hr:RR μ r n a.tmps)(hE:tE P){o:Oper}{m:fZ}(hc:Lt P o.op=some m)(hn:m.zgA=false)(h:cJ m call r st=some (v,st')):
  Za5 P μ w st (execOp a.eval o) v st':=by
 obtain⟨dst,op,ty,pos,af,g⟩:=o
 cases op<;>simp only[Lt]at hc<;>try (cases hc;done)
 case move x=>simp only[Ywc]at hc;obtain⟨s,h1,rfl⟩:=hc;exact Ykz (call:=call) hh hr h1 h
 case assign x=>simp only[Ywc]at hc;obtain⟨s,h1,rfl⟩:=hc;exact Ykz (call:=call) hh hr h1 h
 case pick c x y=>
  split at hc
  ·rename_i h1 h2 h3
   simp only[au]at hc;subst hc
   exact Ymr (call:=call) hh hr h1 h2 h3 h
  ·cases hc
 case alloc e=>
  split at hc
  ·rename_i z hz
   split at hc
   ·rename_i cK
    simp only[au]at hc;subst hc
    exact Yj3 (call:=call) (r:=r) hh hz cK h
   ·cases hc
  ·cases hc
 case box e x=>simp only[Ywc]at hc;obtain⟨s,h1,rfl⟩:=hc;exact Yrj (call:=call) hh hr h1 h
 case build t parts=>
  split at hc
  ·cases hc
  ·rename_i z hz
   split at hc
   ·rename_i fs xK
    split at hc
    ·rename_i pl Cq
     simp only[Ywc]at hc
     obtain⟨tF,h1,rfl⟩:=hc
     exact Zoq (call:=call) hh hr hz xK Cq h1 h
    ·cases hc
   ·rename_i k e hu
    split at hc
    ·rename_i s hs
     simp only[Ywc]at hc
     obtain⟨tF,h1,rfl⟩:=hc
     exact Zo5 (call:=call) hh hr hz hu hs h1 h
    ·cases hc
   ·cases hc
 case buildSlice t len parts=>
  split at hc
  ·rename_i e hu
   split at hc
   ·rename_i s z hs hz
    split at hc
    ·cases hc
    ·rename_i cZ
     simp only[not_or,Decidable.not_not]at cZ
     simp only[Ywc]at hc
     obtain⟨tF,h1,rfl⟩:=hc
     exact Ygc (call:=call) hh hr hu hs hz cZ.1 cZ.2.1 h1 h
   ·cases hc
  ·cases hc
 case load t x=>
  split at hc
  ·rename_i h1 h2
   simp only[au]at hc;subst hc
   exact Ynl (call:=call) hh hr h1 h2 h
  ·cases hc
 case store t x y=>
  split at hc
  ·rename_i h1 h2 h3
   simp only[au]at hc;subst hc
   exact Yha (call:=call) hh hr h1 h2 h3 h
  ·cases hc
 case nilCheck x=>simp only[Ywc]at hc;obtain⟨s,h1,rfl⟩:=hc;exact Yib (call:=call) hh hr h1 h
 case binOp op t x y p=>
  split at hc
  ·rename_i s u h1 h2
   split at hc
   ·rename_i zfF
    simp only[au]at hc;subst hc
    exact Yn6 (call:=call) hh hr h1 h2 h
   have fin:∀q ng,Ypl P op t x y q ng->m=.bin op q ng s u->Za5 P μ w st (execOp a.eval ⟨dst,.binOp op t x y p,ty,pos,af,g⟩) v st':=by
    intro q ng hq hm
    subst hm
    exact Yrk (call:=call) hh hr h1 h2 hq h
   cases op
   case eql=>
    simp only at hc
    split at hc
    ·rename_i q hq
     rw[Lz]at hc
     obtain⟨cZ,hc⟩:=hc
     simp only[au]at hc
     exact fin _ _ (fun _=>⟨hq,by rw[Bool.not_eq_true]at cZ;exact cZ,rfl⟩) hc.symm
    ·cases hc
   case neq=>
    simp only at hc
    split at hc
    ·rename_i q hq
     rw[Lz]at hc
     obtain⟨cZ,hc⟩:=hc
     simp only[au]at hc
     exact fin _ _ (fun _=>⟨hq,by rw[Bool.not_eq_true]at cZ;exact cZ,rfl⟩) hc.symm
    ·cases hc
   all_goals
    simp only[au]at hc
    exact fin _ _ (fun hq=>by rcases hq with hq|hq<;>cases hq) hc.symm
  ·cases hc
 case unOp op t x=>simp only[Ywc]at hc;obtain⟨s,h1,rfl⟩:=hc;exact Yr4 (call:=call) hh hr h1 h
 case convert src dst' x=>
  split at hc
  ·cases hc
  ·rename_i s h1
   split at hc
   ·rename_i q k hq hk
    simp only[au]at hc;subst hc
    exact Ya7 (call:=call) hh hr ⟨_,hq⟩ hk h1 h
   ·rename_i q k hq hk
    simp only[au]at hc;subst hc
    exact Yn8 (call:=call) hh hr hq hk h1 h
   ·rename_i hq hk
    simp only[au]at hc;subst hc
    exact Ya6 (call:=call) hh hr hq hk h1 h
   ·rename_i e hq hk
    split at hc
    ·rename_i he
     simp only[au]at hc;subst hc
     exact Zt5 (call:=call) hh hr hq hk he h1 h
    ·cases hc
   ·rename_i e hq hk
    split at hc
    ·rename_i he
     simp only[au]at hc;subst hc
     exact Zv5 (call:=call) hh hr hq hk he h1 h
    ·cases hc
   ·rename_i t hq hk
    split at hc
    ·rename_i z hz
     simp only[au]at hc;subst hc
     exact Ybs (call:=call) hh hr hq hk hz h1 h
    ·cases hc
   ·rename_i u hq hk
    split at hc
    ·rename_i z hz
     simp only[au]at hc;subst hc
     exact Zty (call:=call) hh hr hq hk hz h1 h
    ·cases hc
   ·cases hc
 case makeInterface t x=>
  split at hc
  ·cases hc
  ·rename_i d cv hd
   simp only[Ywc]at hc;obtain⟨s,h1,rfl⟩:=hc
   exact Zzw (call:=call) hh hr hd (fun k hk=>cv k hk) h1 h
  ·cases hc
 case makeFunc f first f_=>
  cases f<;>simp only[reduceCtorEq]at hc
  split at hc
  ·rename_i h1 h2
   simp only[au]at hc;subst hc
   exact Yd5 (call:=call) hh hr h1 h2 h
  ·cases hc
 case makeMap t rsv=>
  cases rsv<;>simp only[reduceCtorEq]at hc
  simp only[au]at hc;subst hc
  exact Yin (call:=call) (r:=r) hh h
 case makeChan t x=>
  split at hc
  ·rename_i d e hu
   split at hc
   ·rename_i hb hx
    simp only[au]at hc;subst hc
    exact Yd6 (call:=call) hh hr hu hb hx h
   ·cases hc
  ·cases hc
 case makeSlice t x y=>
  split at hc
  ·rename_i e hu
   split at hc
   ·rename_i hs hb hz hx hy
    split at hc
    ·rename_i cK
     simp only[au]at hc;subst hc
     exact Zzv (call:=call) hh hr hu hs hb hz cK hx hy h
    ·cases hc
   ·cases hc
  ·cases hc
 case slice t x lo hi mx=>
  split at hc
  ·rename_i hx fO iH dT
   split at hc
   ·rename_i hu
    split at hc
    ·cases hc
    ·rename_i Oz
     simp only[au]at hc;subst hc
     have hm:mx=none:=by
      cases mx with
      |none=>rfl
      |some q=>
       simp only[rJ]at dT
       split at dT
       ·simp only[au]at dT
        subst dT;simp at Oz
       ·cases dT
     subst hm
     exact Zua (call:=call) hh hr hu hx fO iH h
   ·rename_i e hu
    simp only[Ywc]at hc;obtain⟨s,h1,rfl⟩:=hc
    exact Zyy (call:=call) hh hr hu h1 hx fO iH dT h
   ·rename_i k e hu
    simp only[Ywc]at hc;obtain⟨s,h1,rfl⟩:=hc
    exact Zub (call:=call) hh hr hu h1 hx fO iH dT h
   ·cases hc
  ·cases hc
 case fieldAddr t x i=>
  split at hc
  ·rename_i hu hx
   split at hc
   ·rename_i f hf
    split at hc
    ·rename_i hk
     simp only[au]at hc;subst hc
     exact Yi5 (call:=call) hh hr hu hf hk hx h
    ·cases hc
   ·cases hc
  ·cases hc
 case field t x i=>
  split at hc
  ·rename_i hu hx
   split at hc
   ·rename_i f hf
    simp only[Ywc]at hc;obtain⟨s,h1,rfl⟩:=hc
    exact Yi4 (call:=call) hh hr hu hf h1 hx h
   ·cases hc
  ·cases hc
 case indexAddr t x i=>
  split at hc
  ·rename_i hu hx hi
   simp only[Ywc]at hc;obtain⟨s,h1,rfl⟩:=hc
   exact Zvm (call:=call) hh hr hu h1 hx hi h
  ·rename_i hu hx hi
   simp only[Ywc]at hc;obtain⟨s,h1,rfl⟩:=hc
   exact Yam (call:=call) hh hr hu h1 hx hi h
  ·cases hc
 case index t x i=>
  split at hc
  ·rename_i hu hx hi
   split at hc
   ·rename_i hs ha
    simp only[au]at hc;subst hc
    exact Yez (call:=call) hh hr hu hs ha hx hi h
   ·cases hc
  ·rename_i hu hx hi
   simp only[au]at hc;subst hc
   exact Yex (call:=call) hh hr hu hx hi h
  ·cases hc
 case lookup t x k ok=>
  split at hc
  ·rename_i hu hx hk
   split at hc
   ·rename_i h1 h2
    simp only[au]at hc;subst hc
    exact Yef (call:=call) hh hr hu h1 h2 hx hk h
   ·cases hc
  ·cases hc
 case mapUpdate t x k y=>
  split at hc
  ·rename_i hu hx hk hy
   simp only[Ywc]at hc;obtain⟨s,h1,rfl⟩:=hc
   exact Zso (call:=call) hh hr hu h1 hx hk hy h
  ·cases hc
 case insert t x k y=>
  split at hc
  ·rename_i hu hx hk hy
   simp only[Ywc]at hc;obtain⟨s,h1,rfl⟩:=hc
   exact Zso (call:=call) hh hr hu h1 hx hk hy h
  ·cases hc
 case range t x=>
  split at hc
  ·rename_i hu hx
   simp only[au]at hc;subst hc
   exact Zun (call:=call) hh hr hu hx h
  ·cases hc
 case next it isS=>
  cases isS<;>simp only[reduceCtorEq]at hc
  simp only[Ywc]at hc;obtain⟨s,h1,rfl⟩:=hc
  exact Zzi (call:=call) hh hr h1 h
 case extract x i=>simp only[Ywc]at hc;obtain⟨s,h1,rfl⟩:=hc;exact Yav (call:=call) hh hr h1 h
 case call c=>
  obtain⟨callee,args,ats⟩:=c
  cases callee with
  |invoke r' nm=>simp only[Dw,reduceCtorEq]at hc
  |builtin b=>
   have:=Zv6 (ty:=ty) (cs:=args.map fun|.const _=>true|_=>false) hh hr hc h
   obtain⟨nx,x,w',μ',ws,k1,k2⟩:=this
   refine⟨nx,x,w',μ',ws,?_,k2⟩
   rw[<-k1]
   simp[execOp,resolve,invoke]
   rfl
  |value f=>
   simp only[Dw]at hc
   split at hc
   ·cases hc
   ·rename_i ss D8
    cases f<;>simp only at hc
    case func gid=>
     split at hc
     ·rename_i fn A8
      split at hc
      ·simp only[au]at hc;subst hc;simp[fZ.zgA]at hn
      ·rename_i hb
       split at hc
       ·rename_i e he
        simp only[au]at hc;subst hc
        have:=Yq8 (call:=call) hh hr hE A8 (by simpa using hb) he D8 h
        obtain⟨nx,x,w',μ',ws,k1,k2⟩:=this
        refine⟨nx,x,w',μ',ws,?_,k2⟩
        rw[<-k1]
        have e0:(⟨List.map a.eval args.toList⟩:Array Value)=args.map a.eval:=by apply zh;simp
        rw[e0]
        simp[execOp,resolve,invoke,Deferred.ofValue,Act.eval]
       ·cases hc
     ·cases hc
    all_goals
     split at hc
     ·simp only[au]at hc;subst hc;simp[fZ.zgA]at hn
     ·cases hc
end
abbrev FE(lb:Option Nat):Fence:={Fence.wide with round:=lb}
def Ji(R:Value->World->Prop):Ending->World->Prop
 |.returned x,w=>R x w
 |_,_=>False
def OA(P:Program)(y:Bool)(G:Value)(xs:Array Value)(w:World)(R:Value->World->Prop):Prop:=
 (∃d,(Deferred.ofValue G xs).run P w=.ok d w/\
  ((y=false/\∃f args,(invoke d.target d.args).run P w=.ok (.enter f args) w/\CallsIn Fence.wide 0 P f args w (Ji R))\/
     (y=true/\∃l f tmps fL bod,(invoke d.target d.args).run P w=.ok (.round l f tmps fL bod) w/\RoundIn Fence.wide 0 P l f tmps fL bod w (Ji R))))
def i_(P:Program)(call:cP):Prop:=
 ∀(g:V) (args:List V) (st:St) (v:V) (st':St),call g args st=some (v,st')->∀(μ:Mu) (w:World) (G:Value) (xs:List Value),Za9 P μ w st->VR μ g G->bf μ args xs->
  OA P g.LQ G ⟨xs⟩ w fun x w'=>∃μ' ws,VR μ' v x/\bK P μ w st μ' w' st' ws
def oP(μ:Mu):List Nat->List Deferred->Prop
 |[],ds=>ds=[]
 |m::ms,ds=>∃l D7,μ m=some l/\ds={target:=.collected l.b,args:=#[]}::D7/\oP μ ms D7
def oP.mono{μ μ':Mu}(h:∀i l,μ i=some l->μ' i=some l):∀{ms:List Nat} {ds:List Deferred},oP μ ms ds->oP μ' ms ds
 |[],_,hd=>hd
 |_::_,_,⟨l,D7,h1,h2,h3⟩=>⟨l,D7,h _ _ h1,h2,oP.mono h h3⟩
def FrR(μ:Mu)(fr:Fr)(a:Act):Prop:=RR μ fr.r fr.n a.tmps/\oP μ fr.marks a.defers
def FrR.mono{μ μ':Mu}(h:∀i l,μ i=some l->μ' i=some l){fr:Fr}{a:Act}(hf:FrR μ fr a):FrR μ' fr a:=⟨hf.1.mono h,hf.2.mono h⟩
section
variable {P:Program} {μ:Mu} {w:World} {st st':St} {fr bL:Fr} {a:Act} {call:cP} {v:V} {lb:Option Nat}
def bK.mono{μ':Mu}{w':World}{ws:List Nat}(hh:Za9 P μ w st)(h:bK P μ w st μ' w' st' ws):∀i l,μ i=some l->μ' i=some l:=Za9.Ix hh h.ext
def FrR.put(hf:FrR μ fr a){d:Option Nat}{x:Value}(hv:VR μ v x)(h:fr.put d v=some bL):FrR μ bL (a.put d x):=by
 cases d with
 |none=>
  simp only[Fr.put,au]at h;subst h
  exact hf
 |some d=>
  simp only[Fr.put]at h
  split at h
  ·rename_i hd
   simp only[au]at h;subst h
   exact⟨hf.1.set hd hv,hf.2⟩
  ·cases h
def Ymw(bY:i_ P call)(hE:tE P)(hh:Za9 P μ w st)(hf:FrR μ fr a){o:Oper}(h:cJ (za P o.op) call fr.r st=some (v,st')){K:Act->World->Prop}{Q:Exit->Act->World->Prop}
  (hK:∀x w' μ' ws,VR μ' v x->bK P μ w st μ' w' st' ws->K (a.put o.dst x) w'):o.wpIn (FE lb) 0 P a w K Q:=by
 refine⟨fun _ _=>trivial,?_⟩
 have Ba:∀c,o.op≠.defer c:=by
  intro c hc
  rw[hc]at h
  simp only[za,Lt,Option.getD_none]at h
  cases h
 show o.uponIn (FE lb) 0 P a K Q ((o.semAt lb a.eval).run P w)
 rw[Oper.semAt_eq _ _ _ Ba]
 cases hc:Lt P o.op with
 |none=>
  simp only[za,hc,Option.getD_none]at h
  cases h
 |some m=>
  simp only[za,hc,C8]at h
  by_cases hn:m.zgA=true
  ·-- a call
   obtain⟨dst,op,ty,pos,af,g⟩:=o
   cases m<;>simp only[fZ.zgA,gj]at hn
   rename_i sf ss
   have xl:∃c f,op=.call c/\c.callee=.value f/\bG P f=some sf/\uj P c.args.toList=some ss:=by
    cases op<;>simp only[Lt]at hc<;>try (cases hc;done)
    case call c=>
     obtain⟨callee,args,ats⟩:=c
     cases callee with
     |invoke r' nm=>simp only[Dw,reduceCtorEq]at hc
     |builtin b=>
      exfalso
      simp only[Dw]at hc
      repeat' split at hc
      all_goals first|(cases hc;done)|(simp at hc;done)
     |value f=>
      simp only[Dw]at hc
      split at hc
      ·cases hc
      ·rename_i ss' D8
       refine⟨_,f,rfl,rfl,?_⟩
       cases f<;>simp only at hc
       case func gid=>
        split at hc
        ·split at hc
         ·simp only[au,fZ.call.injEq]at hc
          obtain⟨rfl,rfl⟩:=hc
          exact⟨rfl,D8⟩
         ·split at hc
          ·simp at hc
          ·cases hc
        ·cases hc
       all_goals
        split at hc
        ·rename_i h1
         simp only[au,fZ.call.injEq]at hc
         obtain⟨rfl,rfl⟩:=hc
         exact⟨h1,D8⟩
        ·cases hc
    all_goals
     exfalso
     repeat' split at hc
     all_goals first|(cases hc;done)|contradiction|(simp at hc;done)|(rw[Lz]at hc;simp at hc;done)
   obtain⟨c,f,rfl,zd_,h1,h2⟩:=xl
   have h':xX sf ss call fr.r st=some (v,st'):=h
   unfold xX at h'
   split at h'
   ·rename_i gv l hg hl
    have hG:=cU hh hf.1 h1 hg
    have hX:=Jj hh hf.1 h2 hl
    obtain⟨d,hd,gK⟩:=bY _ _ _ _ _ h' μ w _ _ hh hG hX
    have e0:(⟨List.map a.eval c.args.toList⟩:Array Value)=c.args.map a.eval:=by apply zh;simp
    rw[e0]at hd
    have si:(resolve a.eval c ty).run P w=.ok d w:=by
     simp only[resolve,zd_]
     exact hd
    rcases gK with⟨_,g',args,hinv,Jk⟩|⟨_,l',g',tmps,fL,bod,hinv,LZ⟩
    ·have bQ:(execOp a.eval ⟨dst,.call c,ty,pos,af,g⟩).run P w=.ok (.enter g' args) w:=by
      simp only[execOp,Sem.run_bind,si,Result.andThen_ok,hinv]
     rw[bQ,Oper.uponIn_enter]
     refine⟨fun hx=>by simp[Fence.wide]at hx,?_⟩
     refine CallsIn.mono (F:=Fence.wide) Jk fun e w' he=>?_
     cases e with
     |returned x=>
      obtain⟨μ',ws,q1,q2⟩:=he
      exact hK x w' μ' ws q1 q2
     |panicked _=>exact he.elim
     |outgrown=>exact he.elim
    ·have bQ:(execOp a.eval ⟨dst,.call c,ty,pos,af,g⟩).run P w=.ok (.round l' g' tmps fL bod) w:=by
      simp only[execOp,Sem.run_bind,si,Result.andThen_ok,hinv]
     rw[bQ,Oper.uponIn_round]
     refine⟨fun hx=>by simp[Fence.wide]at hx,?_⟩
     refine RoundIn.mono (F:=Fence.wide) LZ fun e w' he=>?_
     cases e with
     |returned x=>
      obtain⟨μ',ws,q1,q2⟩:=he
      exact hK x w' μ' ws q1 q2
     |panicked _=>exact he.elim
     |outgrown=>exact he.elim
   ·cases h'
  ·obtain⟨nx,x,w',μ',ws,k1,k2,k3,k4⟩:=Yqh hh hf.1 hE hc (by simpa using hn) h
   rw[k1]
   rcases k2 with rfl|⟨rfl,rfl⟩
   ·rw[Oper.uponIn_value];exact hK x w' μ' ws k3 k4
   ·rw[Oper.uponIn_skip];exact hK undef w' μ' ws k3 k4
def Zo8{ops:Array Oper}{o:Oper}{g:Option (Nat×Bool)}(hr:RR μ fr.r fr.n a.tmps)(hg:Iv ops o.guard=some g){b:Bool}(h:bX fr.r g=some b):Region.wanted o (yielded ops a.tmps)=b:=by
 unfold Region.wanted
 cases ho:o.guard with
 |none=>
  rw[ho]at hg
  simp only[Iv,au]at hg;subst hg
  simp only[bX,au]at h
  exact h
 |some p=>
  obtain⟨j,want⟩:=p
  rw[ho]at hg
  simp only[Iv]at hg
  split at hg
  ·rename_i t ht
   simp only[au]at hg;subst hg
   simp only[bX]at h
   split at h
   ·rename_i b' hb
    simp only[au]at h;subst h
    obtain⟨x,hx,hv⟩:=hr.2 _ _ hb
    simp only[VR]at hv
    subst hv
    simp[yielded,ht,hx]
   ·rename_i l hb
    simp only[au]at h;subst h
    obtain⟨x,hx,y,hv,_⟩:=hr.2 _ _ hb
    subst hv
    simp[yielded,ht,hx]
   ·cases h
  ·cases hg
end
def Ma:Ex->Exit
 |.normal=>.normal
 |.exit id=>.exit id
 |.ret=>.ret
def Mb(μ:Mu):Option Nat->Option Nat->Prop
 |none,none=>True
 |some l,some b=>∃L,μ l=some L/\L.b=b
 |_,_=>False
def Mb.mono{μ μ':Mu}(h:∀i l,μ i=some l->μ' i=some l){ro lb:Option Nat}(hr:Mb μ ro lb):Mb μ' ro lb:=by
 cases ro<;>cases lb<;>simp only[Mb]at*
 obtain⟨L,h1,h2⟩:=hr
 exact⟨L,h _ _ h1,h2⟩
def tG(P:Program)(μ:Mu)(w:World)(st:St)(ex:Ex)(bL:Fr)(st':St):Exit->Act->World->Prop:=fun e a' w'=>
 e=Ma ex/\∃μ' ws,bK P μ w st μ' w' st' ws/\FrR μ' bL a'
section
variable {P:Program} {μ:Mu} {w:World} {st st':St} {fr bL:Fr} {a:Act} {call:cP} {v:V} {lb:Option Nat}
def Ydu(bY:i_ P call)(hE:tE P){ops:Array Oper}{Q:Exit->Act->World->Prop}:∀(is:List Nat) (os:List Oper),is.map (fun i=>ops[i]?)=os.map some->
  ∀{st:St} {fr:Fr} {a:Act} {w:World} {μ:Mu},Za9 P μ w st->FrR μ fr a->dH call (os.map (qk P ops)) fr st=some (bL,st')->
   (∀a' w' μ' ws,FrR μ' bL a'->bK P μ w st μ' w' st' ws->Q .normal a' w')->wpOpsIn (FE lb) 0 P ops Q is a w:=by
 intro is
 induction is with
 |nil=>
  intro os zc st fr a w μ hh hf h hQ
  cases os with
  |cons o os=>simp at zc
  |nil=>
   simp only[tV,dH,Ykv,au,bE]at h
   obtain⟨rfl,rfl⟩:=h
   exact hQ a w μ [] hf (bK.refl hh)
 |cons i is ih=>
  intro os zc st fr a w μ hh hf h hQ
  cases os with
  |nil=>simp at zc
  |cons o os=>
   simp only[Yw1,iA]at zc
   obtain⟨hoi,zc⟩:=zc
   simp only[Yw1,dH,AV]at h
   unfold wpOpsIn
   rw[hoi]
   simp only[]
   have go:∀(v:V) (cj:St) (dP:Fr) (x:Value) (w1:World) (μ1:Mu) (ws:List Nat),VR μ1 v x->bK P μ w st μ1 w1 cj ws->fr.put o.dst v=some dP->dH call (os.map (qk P ops)) dP cj=some (bL,st')->
     wpOpsIn (FE lb) 0 P ops Q is (a.put o.dst x) w1:=by
    intro v cj dP x w1 μ1 ws hv hs hp hm
    refine ih os zc hs.hr ((hf.mono (hs.mono hh)).put hv hp) hm fun a' w' μ' NR rF gg=>?_
    exact hQ a' w' μ' _ rF (hs.trans gg)
   unfold qk at h
   cases hg:Iv ops o.guard with
   |none=>
    rw[hg]at h
    simp only[bX,cJ,Zur]at h
    cases h
   |some g=>
    rw[hg]at h
    simp only at h
    cases hw:bX fr.r g with
    |none=>rw[hw]at h;cases h
    |some b=>
     rw[hw]at h
     have vT:=Zo8 hf.1 hg hw
     cases b with
     |true=>
      rw[aR vT]
      simp only at h
      split at h
      ·rename_i v1 cj hm
       split at h
       ·rename_i dP hp
        exact Ymw bY hE hh hf hm fun x w' μ' ws q1 q2=>go v1 cj dP x w' μ' ws q1 q2 hp h
       ·cases h
      ·cases h
     |false=>
      rw[aA (by rw[vT];simp)]
      simp only at h
      split at h
      ·rename_i dP hp
       exact⟨fun _ _=>trivial,go (.aX []) st dP undef w μ [] ⟨[],rfl,by simp[bf]⟩ (bK.refl hh) hp h⟩
      ·cases h
def Ycz{ops:Array Oper}:(List.range ops.size).map (fun i=>ops[i]?)=ops.toList.map some:=by
 apply o8
 intro i
 simp only[jT]
 by_cases h:i<ops.size
 ·simp[h]
 ·simp[h]
def Zo1{F:Fence}{n:Nat}{c:Code}{Q:Exit->Act->World->Prop}(J:Nat->Act->World->Prop)
  (round:∀f a w,J f a w->c.wpIn F n P (Exit.then (fun a' w'=>∃f',f'<f/\J f' a' w') Q) a w) {f:Nat} (h₀:J f a w):(Code.loop c).wpIn F n P Q a w:=by
 intro b k cs l8 hb hr
 have key:∀j a w,J j a w->
   ∃e a' w',Q e a' w'/\ArrivesIn (Machine.fenced P F) P (lone (b.atR a (.code c::.inLoop c::k)) cs w) b k cs e a' w':=by
  intro j
  induction j using Nat.strongRecOn with
  |_ j ih=>
   intro a w hI
   obtain⟨e,a₁,w₁,hq,ziD⟩:=round j a w hI b (.inLoop c::k) cs l8 hb hr
   cases e with
   |normal=>
    obtain⟨f',aW,hI₁⟩:=hq
    obtain⟨e₂,a₂,w₂,hq₂,OB⟩:=ih f' aW a₁ w₁ hI₁
    exact⟨e₂,a₂,w₂,hq₂,.of_steps (StepsIn.trans ziD (.one (fenced_calm hb hr rfl) stepR_inLoop)) OB⟩
   |exit id=>exact⟨_,a₁,w₁,hq,.pass (x:=.inLoop c) rfl (fun _ _=>.inl (by simp)) ziD⟩
   |goto l=>exact⟨_,a₁,w₁,hq,.pass (x:=.inLoop c) rfl (fun _ _=>.inl (by simp)) ziD⟩
   |ret=>exact⟨_,a₁,w₁,hq,.pass (x:=.inLoop c) rfl (fun _ _=>.inl (by simp)) ziD⟩
   |panic ch=>exact⟨_,a₁,w₁,hq,.pass (x:=.inLoop c) rfl (fun _ _=>.inl (by simp)) ziD⟩
   |outgrown=>exact⟨_,a₁,w₁,hq,.pass (x:=.inLoop c) rfl (fun _ _=>.inl (by simp)) ziD⟩
 obtain⟨e,a',w',hq,ziD⟩:=key _ a w h₀
 exact⟨e,a',w',hq,.of_steps (.one (fenced_calm hb hr rfl) stepR_loop) ziD⟩
def Mc{b:Frame}{k:List Item}{cs:List Frame}{c:Code}:
  step P (lone (b.atR a (.code (.scope c)::k)) cs w)=.next (lone (b.atR a (.code c::.inScope c::k)) cs w):=
 step_lone_go (by simp[stepG,stepG.exec,Frame.atR])
def Zqd{b:Frame}{k:List Item}{cs:List Frame}{c:Code}:
  step P (lone (b.atR a (.inScope c::k)) cs w)=.next (lone (b.atR a k) cs w):=
 step_lone_go (by simp[stepG,stepG.exec,Frame.atR])
def Zyq{F:Fence}{n:Nat}{c:Code}{Q:Exit->Act->World->Prop}(h:c.wpIn F n P Q a w)(hq:∀l a w,¬Q (.goto l) a w):(Code.scope c).wpIn F n P Q a w:=by
 intro b k cs l8 hb hr
 have h0:(lone (b.atR a (.code (.scope c)::k)) cs w).fenced P F:=fenced_calm hb hr rfl
 obtain⟨e,a₁,w₁,hQ,ziD⟩:=h b (.inScope c::k) cs l8 hb hr
 cases e with
 |normal=>exact⟨.normal,a₁,w₁,hQ,.head h0 Mc (StepsIn.trans ziD (.one (fenced_calm hb hr rfl) Zqd))⟩
 |exit id=>
  have hx:exitTo id (.inScope c::k)=exitTo id k:=by simp[exitTo]
  exact⟨.exit id,a₁,w₁,hQ,fun k' hk=>.head h0 Mc (ziD.1 k' (by rw[hx];exact hk)),
   fun lV hk=>let ⟨k₁,h1,h2⟩:=ziD.2 lV (by rw[hx];exact hk);⟨k₁,h1,.head h0 Mc h2⟩⟩
 |goto l=>exact absurd hQ (hq l a₁ w₁)
 |ret=>exact⟨_,a₁,w₁,hQ,.of_steps (.one h0 Mc) ziD⟩
 |panic ch=>exact⟨_,a₁,w₁,hQ,.of_steps (.one h0 Mc) ziD⟩
 |outgrown=>exact⟨_,a₁,w₁,hQ,.of_steps (.one h0 Mc) ziD⟩
def tG.after{μ1:Mu}{w1:World}{cj:St}{ws:List Nat}(hs:bK P μ w st μ1 w1 cj ws){ex:Ex}{e:Exit}{a':Act}{w':World}(h:tG P μ1 w1 cj ex bL st' e a' w'):tG P μ w st ex bL st' e a' w':=by
 obtain⟨h1,μ',NR,h2,h3⟩:=h
 exact⟨h1,μ',_,hs.trans h2,h3⟩
def tG.then{μ:Mu}{ex:Ex}{dP:Fr}{cj:St}{K:Act->World->Prop}{Q:Exit->Act->World->Prop}{e:Exit}{a':Act}{w':World}(h:tG P μ w st ex dP cj e a' w')
  (hn:ex=.normal->K a' w') (hq:ex≠.normal->Q e a' w'):Exit.then K Q e a' w':=by
 obtain⟨rfl,h⟩:=h
 cases ex<;>simp only[Ma,Exit.then]
 ·exact hn rfl
 ·exact hq (by simp)
 ·exact hq (by simp)
def Md(P:Program)(code:ph):Prop:=
 ∀(ro:Option Nat) (c:Code) (fr:Fr) (st:St) (ex:Ex) (bL:Fr) (st':St),code ro (iB P c) fr st=some (ex,bL,st')->
  ∀(μ:Mu) (w:World) (a:Act) (lb:Option Nat),Za9 P μ w st->FrR μ fr a->Mb μ ro lb->c.wpIn (FE lb) 0 P (tG P μ w st ex bL st') a w
def Ylp(P:Program)(call:cP):Prop:=
 ∀(id:Nat) (ops:Array Oper) (fr:Fr) (st:St) (ex:Ex) (bL:Fr) (st':St),Ymi P ops=true->zn (ops.toList.map (qk P ops)) (uo ops.toList []) call Tl none fr st=some (ex,bL,st')->
  ∀(μ:Mu) (w:World) (a:Act) (lb:Option Nat),Za9 P μ w st->FrR μ fr a->(Code.region id ops true).wpIn (FE lb) 0 P (tG P μ w st ex bL st') a w
def Yro(P:Program)(call:cP):Prop:=
 ∀(id:Nat) (ops:Array Oper) (o:Oper) (rest:List Oper) (d:Option Nat) (ch:Src) (s:Option Src) (z:V) (fr:Fr) (st:St) (ex:Ex) (bL:Fr) (st':St),ops.toList=o::rest->S7 P o=some (d,ch,s,z)->
  zo d ch s z (rest.map (qk P ops)) call Tl none fr st=some (ex,bL,st')->
  ∀(μ:Mu) (w:World) (a:Act) (lb:Option Nat),Za9 P μ w st->FrR μ fr a->(Code.region id ops false).wpIn (FE lb) 0 P (tG P μ w st ex bL st') a w
def Ygo(P:Program)(call:cP):Prop:=
 ∀(ro:Option Nat) (g:Operand) (s:Src) (ps:Array Nat) (fL bod:Code) (fr:Fr) (st:St) (ex:Ex) (bL:Fr) (st':St),bG P g=some s->
  B6 s ps.toList (iB P fL) (iB P bod) call Tl ro fr st=some (ex,bL,st')->
  ∀(μ:Mu) (w:World) (a:Act) (lb:Option Nat),Za9 P μ w st->FrR μ fr a->Mb μ ro lb->(Code.rangeFunc g ps fL bod).wpIn (FE lb) 0 P (tG P μ w st ex bL st') a w
def Yf1(bY:i_ P call)(hE:tE P)(hD:Ylp P call)(hS:Yro P call)(hR:Ygo P call):∀fuel,Md P (dS call fuel):=by
 intro fuel
 induction fuel using Nat.strongRecOn with
 |_ fuel ihs=>
 cases fuel with
 |zero=>intro ro c fr st ex bL st' h;cases h
 |succ f=>
  have ih:Md P (dS call f):=ihs f (tu f)
  intro ro c fr st ex bL st' h μ w a lb hh hf l8
  cases c with
  |skip=>
   simp only[iB,dS,lZ,Yf8,au,bE]at h
   obtain⟨rfl,rfl,rfl⟩:=h
   exact wpIn_skip ⟨rfl,μ,[],bK.refl hh,hf⟩
  |label l=>
   simp only[iB,dS,lZ,Yf8,au,bE]at h
   obtain⟨rfl,rfl,rfl⟩:=h
   exact wpIn_label ⟨rfl,μ,[],bK.refl hh,hf⟩
  |exit id=>
   simp only[iB,dS,lZ,Yli,au,bE]at h
   obtain⟨rfl,rfl,rfl⟩:=h
   exact wpIn_exit ⟨rfl,μ,[],bK.refl hh,hf⟩
  |ret=>
   simp only[iB,dS,lZ,Yri,au,bE]at h
   obtain⟨rfl,rfl,rfl⟩:=h
   exact wpIn_ret ⟨rfl,μ,[],bK.refl hh,hf⟩
  |goto l=>simp only[iB,dS,lZ,LR]at h;cases h
  |refuse why=>simp only[iB,dS,lZ,LR]at h;cases h
  |region id ops draw=>
   cases draw with
   |true=>
    simp only[iB]at h
    split at h
    ·rename_i hp
     simp only[dS,lZ]at h
     exact hD id ops fr st ex bL st' hp h μ w a lb hh hf
    ·simp only[dS,lZ,LR]at h;cases h
   |false=>
    have plain:Zok (ops.toList.map (qk P ops)) call (dS call f) ro fr st=some (ex,bL,st')->(Code.region id ops false).wpIn (FE lb) 0 P (tG P μ w st ex bL st') a w:=by
     intro h
     simp only[Zok]at h
     split at h
     ·rename_i dP cj hm
      simp only[au,bE]at h
      obtain⟨rfl,rfl,rfl⟩:=h
      exact wpIn_region (Ydu bY hE _ _ Ycz hh hf hm fun a' w' μ' ws q1 q2=>⟨rfl,μ',ws,q2,q1⟩)
     ·cases h
    simp only[iB,dS]at h
    split at h
    ·rename_i ho
     exact plain (by rw[ho];exact h)
    ·rename_i o rest ho
     split at h
     ·rename_i d ch s z hs
      exact hS id ops o rest d ch s z fr st ex bL st' ho hs h μ w a lb hh hf
     ·exact plain (by rw[ho];exact h)
  |seq x y=>
   simp only[iB,dS,lZ,AY]at h
   refine wpIn_seq ?_
   split at h
   ·rename_i dP cj hx
    refine wpIn_mono (ih ro x fr st _ _ _ hx μ w a lb hh hf l8) fun e a' w' hp=>?_
    have uH:=hp
    obtain⟨he,μ1,ws,hs,hf1⟩:=hp
    refine uH.then (fun _=>?_) (fun cv=>absurd rfl cv)
    exact wpIn_mono (ih ro y dP cj ex bL st' h μ1 w' a' lb hs.hr hf1 (l8.mono (hs.mono hh))) fun e2 a2 w2 yb=>yb.after hs
   ·rename_i hx
    refine wpIn_mono (ih ro x fr st _ _ _ h μ w a lb hh hf l8) fun e a' w' hp=>?_
    refine hp.then (fun hn=>?_) (fun _=>hp)
    subst hn
    exact absurd h (hx bL st')
  |cond x p q=>
   simp only[iB]at h
   split at h
   ·rename_i s hs
    simp only[dS,lZ,xf]at h
    split at h
    ·rename_i hv
     have:=cU hh hf.1 hs hv
     exact wpIn_cond_true (by simpa[VR]using this) (ih ro p fr st ex bL st' h μ w a lb hh hf l8)
    ·rename_i hv
     have:=cU hh hf.1 hs hv
     exact wpIn_cond_false (by simpa[VR]using this) (ih ro q fr st ex bL st' h μ w a lb hh hf l8)
    ·cases h
   ·simp only[dS,lZ,LR]at h;cases h
  |block id c=>
   simp only[iB,dS,lZ,AZ]at h
   refine wpIn_block ?_
   split at h
   ·rename_i id' dP cj hx
    refine wpIn_mono (ih ro c fr st _ _ _ hx μ w a lb hh hf l8) fun e a' w' hp=>?_
    obtain⟨rfl,hp⟩:=hp
    simp only[Ma,Exit.inBlock]
    split at h
    ·rename_i hid
     simp only[au,bE]at h
     obtain⟨rfl,rfl,rfl⟩:=h
     rw[aR (Tb hid)]
     exact⟨rfl,hp⟩
    ·rename_i hid
     simp only[au,bE]at h
     obtain⟨rfl,rfl,rfl⟩:=h
     rw[aA (Nat.ne_of_beq_eq_false hid)]
     exact⟨rfl,hp⟩
   ·rename_i hx
    refine wpIn_mono (ih ro c fr st _ _ _ h μ w a lb hh hf l8) fun e a' w' hp=>?_
    have uH:=hp
    obtain⟨rfl,hp⟩:=hp
    cases ex with
    |normal=>exact uH
    |ret=>exact uH
    |exit id'=>exact absurd h (hx id' bL st')
  |loop c=>
   refine Zo1 (fun k a1 w1=>k<=f+1/\∃dP cj μ1 ws,bK P μ w st μ1 w1 cj ws/\FrR μ1 dP a1/\dS call k ro (.loop (iB P c)) dP cj=some (ex,bL,st')) ?_
    (f:=f+1) ⟨Yv5 _,fr,st,μ,[],bK.refl hh,hf,h⟩
   intro k a1 w1 hJ
   obtain⟨hk,dP,cj,μ1,ws,hs,hf1,hm⟩:=hJ
   cases k with
   |zero=>cases hm
   |succ k=>
    simp only[dS,lZ,Zi3]at hm
    have ihk:Md P (dS call k):=ihs k (by omega)
    split at hm
    ·rename_i yc fh hx
     refine wpIn_mono (ihk ro c dP cj _ _ _ hx μ1 w1 a1 lb hs.hr hf1 (l8.mono (hs.mono hh))) fun e a' w' hp=>?_
     have uH:=hp
     obtain⟨he,μ2,ws2,hs2,ik⟩:=hp
     refine uH.then (fun _=>?_) (fun cv=>absurd rfl cv)
     exact⟨k,tu k,by omega,yc,fh,μ2,_,hs.trans hs2,ik,hm⟩
    ·rename_i hx
     refine wpIn_mono (ihk ro c dP cj _ _ _ hm μ1 w1 a1 lb hs.hr hf1 (l8.mono (hs.mono hh))) fun e a' w' hp=>?_
     refine hp.then (fun hn=>?_) (fun _=>hp.after hs)
     subst hn
     exact absurd hm (hx bL st')
  |scope c=>
   simp only[iB,dS,lZ,Yf9]at h
   refine Zyq (ih ro c fr st ex bL st' h μ w a lb hh hf l8) fun l a' w' hp=>?_
   obtain⟨he,_⟩:=hp
   cases ex<;>simp[Ma]at he
  |rangeFunc g ps fL bod=>
   simp only[iB]at h
   split at h
   ·rename_i s hs
    simp only[dS,lZ]at h
    exact hR ro g s ps fL bod fr st ex bL st' hs h μ w a lb hh hf l8
   ·simp only[dS,lZ,LR]at h;cases h
end
end Go.Mx
