/-Every operation of M that calls no funct-/
import Derived.Test.YtgccnjdneojagaaGreatDoorMxOp10
import Derived.RangeFuncRecord
import Derived.OrdersIn
set_option linter.all false
namespace Go.Mx
open Go
section
variable {P:Program} {μ:Mu} {w:World} {st aB:St} {r:T V} {n:Nat} {a:Act} {call:cO} {v:V}
def iz.qe:iz->Bool
 |.call _ _=>true
 |_=>false
def Mr{α:Type}{a:Array α}{x:α}(h:a.toList=[x]):a=#[x]:=by apply Array.ext';simpa using h
def Ps{α:Type}{a:Array α}{x y:α}(h:a.toList=[x,y]):a=#[x,y]:=by apply Array.ext';simpa using h
def Zzf(hh:bp P μ w st)(hr:RR μ r n a.tmps){b:Builtin}{ts:Array TypeId}{xs:Array Operand}{ty:TypeId}{cs:Array Bool}{m:iz}(hc:Gc P ⟨.builtin b,xs,ts⟩=some m)
  (h:cH m call r st=some (v,aB)):bg P μ w st (builtin b ts ty cs (xs.map a.eval)) v aB:=by
 simp only[Gc]at hc;split at hc
 ·rename_i t x ht hx;have e1:=Mr ht;have e2:=Mr hx;subst e1 e2;simp only[builtin,LL,pX,yZ];split at hc
  ·rename_i s hu hs;simp only[au]at hc;subst hc;exact Ydj (call:=call) hh hr hu hs h
  ·rename_i e s hu hs;simp only[au]at hc;subst hc;exact Zvt (call:=call) hh hr hu hs h
  ·rename_i k e s hu hs;simp only[au]at hc;subst hc;exact Ydk (call:=call) hh hr hu hs h
  cases hc
 ·rename_i t x ht hx;have e1:=Mr ht;have e2:=Mr hx;subst e1 e2;simp only[builtin,LL,pX,yZ];split at hc
  ·rename_i e s hu hs;simp only[au]at hc;subst hc;exact Yyr (call:=call) hh hr hu hs h
  cases hc
 ·split at hc
  ·rename_i l hl;simp only[au]at hc;subst hc;exact Xah (call:=call) hh hr hl h
  cases hc
 ·split at hc
  ·rename_i l hl;simp only[au]at hc;subst hc;exact Xag (call:=call) hh hr hl h
  cases hc
 ·rename_i t u s x ht hx;have e1:=Ps ht;have e2:=Ps hx;subst e1 e2;simp only[builtin,LL,pX,yZ];split at hc
  ·rename_i e hu;split at hc
   ·rename_i n' b' z s' x' d hs hb hz jv kL hd;rw[LJ]at hc;obtain⟨c9,hc⟩:=hc;simp only[not_or,Decidable.not_not]at c9;obtain⟨c1,c2,c3,c4⟩:=c9;simp only[au]at hc;subst hc;have c4':z.cells.all V.one=true:=by simpa using c4
    exact Ykd (call:=call) hh hr (by rfl) hu (by rfl) hd (fun k hk=>by subst hk;simp at c1) hs hb hz c3 c4' c2 jv kL h
   cases hc
  cases hc
 ·rename_i t ts' d s ht hx;have e2:=Ps hx;subst e2;simp only[builtin,LL,pX,yZ];split at hc
  ·rename_i e hu;split at hc
   ·rename_i n' d' s' hs hd jv;simp only[au]at hc;subst hc;exact Yu8 (call:=call) hh hr (by rw[<-Ew,ht];rfl) hu hs hd jv h
   cases hc
  cases hc
 ·rename_i t s ht hx;have e1:=Mr ht;have e2:=Mr hx;subst e1 e2;simp only[builtin,LL,pX,yZ];simp only[mP]at hc;obtain⟨s',hs,rfl⟩:=hc;exact Yll (call:=call) hh hr hs h
 ·rename_i t u x y ht hx;have e1:=Ps ht;have e2:=Ps hx;subst e1 e2;simp only[builtin,LL,pX,yZ];split at hc
  ·rename_i e hu;split at hc
   ·rename_i s q hs hx hy;simp only[au]at hc;subst hc;exact Yq7 (call:=call) hh hr hu hs hx hy h
   cases hc
  cases hc
 cases hc
def Yw9(hh:bp P μ w st)(hr:RR μ r n a.tmps)(hE:wj P){o:Oper}{m:iz}(hc:LD P o.op=some m)(hn:m.qe=false)(h:cH m call r st=some (v,aB)):
  bg P μ w st (execOp a.eval o) v aB:=by
 obtain⟨dst,op,ty,pos,af,g⟩:=o;cases op<;>simp only[LD]at hc<;>try (cases hc;done)
 case move x=>simp only[mP]at hc;obtain⟨s,h1,rfl⟩:=hc;exact Yp0 (call:=call) hh hr h1 h
 case assign x=>simp only[mP]at hc;obtain⟨s,h1,rfl⟩:=hc;exact Yp0 (call:=call) hh hr h1 h
 case pick c x y=>
  split at hc
  ·rename_i h1 h2 h3
   simp only[au]at hc;subst hc
   exact Ysp (call:=call) hh hr h1 h2 h3 h
  ·cases hc
 case alloc e=>
  split at hc
  ·rename_i z hz
   split at hc
   ·rename_i cP
    simp only[au]at hc;subst hc
    exact Yoz (call:=call) (r:=r) hh hz cP h
   ·cases hc
  ·cases hc
 case box e x=>simp only[mP]at hc;obtain⟨s,h1,rfl⟩:=hc;exact Yyu (call:=call) hh hr h1 h
 case build t parts=>
  split at hc
  ·cases hc
  ·rename_i z hz
   split at hc
   ·rename_i fs sJ
    split at hc
    ·rename_i pl iD
     simp only[mP]at hc
     obtain⟨wK,h1,rfl⟩:=hc
     exact Zqy (call:=call) hh hr hz sJ iD h1 h
    ·cases hc
   ·rename_i k e hu
    split at hc
    ·rename_i s hs
     simp only[mP]at hc
     obtain⟨wK,h1,rfl⟩:=hc
     exact Zrf (call:=call) hh hr hz hu hs h1 h
    ·cases hc
   ·cases hc
 case buildSlice t len parts=>
  split at hc
  ·rename_i e hu
   split at hc
   ·rename_i s z hs hz
    split at hc
    ·cases hc
    ·rename_i c9
     simp only[not_or,Decidable.not_not]at c9
     simp only[mP]at hc
     obtain⟨wK,h1,rfl⟩:=hc
     exact Yj9 (call:=call) hh hr hu hs hz c9.1 c9.2.1 h1 h
   ·cases hc
  ·cases hc
 case load t x=>
  split at hc
  ·rename_i h1 h2
   simp only[au]at hc;subst hc
   exact Ytq (call:=call) hh hr h1 h2 h
  ·cases hc
 case store t x y=>
  split at hc
  ·rename_i h1 h2 h3
   simp only[au]at hc;subst hc
   exact Ylc (call:=call) hh hr h1 h2 h3 h
  ·cases hc
 case nilCheck x=>simp only[mP]at hc;obtain⟨s,h1,rfl⟩:=hc;exact Yml (call:=call) hh hr h1 h
 case binOp op t x y p=>
  split at hc
  ·rename_i s u h1 h2
   have fin:∀q ng,Yv8 P op t x y q ng->m=.bin op q ng s u->bg P μ w st (execOp a.eval ⟨dst,.binOp op t x y p,ty,pos,af,g⟩) v aB:=by
    intro q ng hq hm
    subst hm
    exact Yyv (call:=call) hh hr h1 h2 hq h
   cases op
   case eql=>
    simp only at hc
    split at hc
    ·rename_i q hq
     rw[LJ]at hc
     obtain⟨c9,hc⟩:=hc
     simp only[au]at hc
     exact fin _ _ (fun _=>⟨hq,by rw[Bool.not_eq_true]at c9;exact c9,rfl⟩) hc.symm
    ·cases hc
   case neq=>
    simp only at hc
    split at hc
    ·rename_i q hq
     rw[LJ]at hc
     obtain⟨c9,hc⟩:=hc
     simp only[au]at hc
     exact fin _ _ (fun _=>⟨hq,by rw[Bool.not_eq_true]at c9;exact c9,rfl⟩) hc.symm
    ·cases hc
   all_goals
    simp only[au]at hc
    exact fin _ _ (fun hq=>by rcases hq with hq|hq<;>cases hq) hc.symm
  ·cases hc
 case unOp op t x=>simp only[mP]at hc;obtain⟨s,h1,rfl⟩:=hc;exact Yzi (call:=call) hh hr h1 h
 case convert src dst' x=>
  split at hc
  ·cases hc
  ·rename_i s h1
   split at hc
   ·rename_i q k hq hk
    simp only[au]at hc;subst hc
    exact Yeh (call:=call) hh hr ⟨_,hq⟩ hk h1 h
   ·rename_i e hq hk
    split at hc
    ·rename_i he
     simp only[au]at hc;subst hc
     exact Zxb (call:=call) hh hr hq hk he h1 h
    ·cases hc
   ·rename_i e hq hk
    split at hc
    ·rename_i he
     simp only[au]at hc;subst hc
     exact Zze (call:=call) hh hr hq hk he h1 h
    ·cases hc
   ·rename_i t hq hk
    split at hc
    ·rename_i z hz
     simp only[au]at hc;subst hc
     exact Ye9 (call:=call) hh hr hq hk hz h1 h
    ·cases hc
   ·rename_i u hq hk
    split at hc
    ·rename_i z hz
     simp only[au]at hc;subst hc
     exact Zw3 (call:=call) hh hr hq hk hz h1 h
    ·cases hc
   ·cases hc
 case makeInterface t x=>
  split at hc
  ·cases hc
  ·rename_i d aZ hd
   simp only[mP]at hc;obtain⟨s,h1,rfl⟩:=hc
   exact Ydc (call:=call) hh hr hd (fun k hk=>aZ k hk) h1 h
  ·cases hc
 case makeFunc f first iA=>
  cases f<;>simp only[reduceCtorEq]at hc
  split at hc
  ·rename_i h1 h2
   simp only[au]at hc;subst hc
   exact Yho (call:=call) hh hr h1 h2 h
  ·cases hc
 case makeMap t rsv=>
  cases rsv<;>simp only[reduceCtorEq]at hc
  simp only[au]at hc;subst hc
  exact Ymv (call:=call) (r:=r) hh h
 case makeSlice t x y=>
  split at hc
  ·rename_i e hu
   split at hc
   ·rename_i hs hb hz hx hy
    split at hc
    ·rename_i cP
     simp only[au]at hc;subst hc
     exact Ydb (call:=call) hh hr hu hs hb hz cP hx hy h
    ·cases hc
   ·cases hc
  ·cases hc
 case slice t x lo hi mx=>
  split at hc
  ·rename_i hx gT iW cU
   split at hc
   ·rename_i hu
    split at hc
    ·cases hc
    ·rename_i Pt
     simp only[au]at hc;subst hc
     have hm:mx=none:=by
      cases mx with
      |none=>rfl
      |some q=>
       simp only[wF]at cU
       split at cU
       ·simp only[au]at cU
        subst cU;simp at Pt
       ·cases cU
     subst hm
     exact Zxh (call:=call) hh hr hu hx gT iW h
   ·rename_i e hu
    simp only[mP]at hc;obtain⟨s,h1,rfl⟩:=hc
    exact Yce (call:=call) hh hr hu h1 hx gT iW cU h
   ·rename_i k e hu
    simp only[mP]at hc;obtain⟨s,h1,rfl⟩:=hc
    exact Zxi (call:=call) hh hr hu h1 hx gT iW cU h
   ·cases hc
  ·cases hc
 case fieldAddr t x i=>
  split at hc
  ·rename_i hu hx
   split at hc
   ·rename_i f hf
    split at hc
    ·rename_i hk
     simp only[au]at hc;subst hc
     exact Ynx (call:=call) hh hr hu hf hk hx h
    ·cases hc
   ·cases hc
  ·cases hc
 case indexAddr t x i=>
  split at hc
  ·rename_i hu hx hi
   simp only[mP]at hc;obtain⟨s,h1,rfl⟩:=hc
   exact Zyt (call:=call) hh hr hu h1 hx hi h
  ·rename_i hu hx hi
   simp only[mP]at hc;obtain⟨s,h1,rfl⟩:=hc
   exact Yd3 (call:=call) hh hr hu h1 hx hi h
  ·cases hc
 case index t x i=>
  split at hc
  ·rename_i hu hx hi
   simp only[au]at hc;subst hc
   exact Yin (call:=call) hh hr hu hx hi h
  ·cases hc
 case lookup t x k ok=>
  split at hc
  ·rename_i hu hx hk
   split at hc
   ·rename_i h1 h2
    simp only[au]at hc;subst hc
    exact Yhz (call:=call) hh hr hu h1 h2 hx hk h
   ·cases hc
  ·cases hc
 case mapUpdate t x k y=>
  split at hc
  ·rename_i hu hx hk hy
   simp only[mP]at hc;obtain⟨s,h1,rfl⟩:=hc
   exact Zvr (call:=call) hh hr hu h1 hx hk hy h
  ·cases hc
 case insert t x k y=>
  split at hc
  ·rename_i hu hx hk hy
   simp only[mP]at hc;obtain⟨s,h1,rfl⟩:=hc
   exact Zvr (call:=call) hh hr hu h1 hx hk hy h
  ·cases hc
 case range t x=>
  split at hc
  ·rename_i hu hx
   simp only[au]at hc;subst hc
   exact Zxt (call:=call) hh hr hu hx h
  ·cases hc
 case next it isS=>
  cases isS<;>simp only[reduceCtorEq]at hc
  simp only[mP]at hc;obtain⟨s,h1,rfl⟩:=hc
  exact Ycy (call:=call) hh hr h1 h
 case extract x i=>simp only[mP]at hc;obtain⟨s,h1,rfl⟩:=hc;exact Yd6 (call:=call) hh hr h1 h
 case call c=>
  obtain⟨callee,args,ats⟩:=c
  cases callee with
  |invoke r' nm=>simp only[Gc,reduceCtorEq]at hc
  |builtin b=>
   have:=Zzf (ty:=ty) (cs:=args.map fun|.const _=>true|_=>false) hh hr hc h
   obtain⟨nx,x,w',μ',ws,k1,k2⟩:=this
   refine⟨nx,x,w',μ',ws,?_,k2⟩
   rw[<-k1]
   simp[execOp,resolve,invoke]
   rfl
  |value f=>
   simp only[Gc]at hc
   split at hc
   ·cases hc
   ·rename_i ss GO
    cases f<;>simp only at hc
    case func gid=>
     split at hc
     ·rename_i fn CJ
      split at hc
      ·simp only[au]at hc;subst hc;simp[iz.qe]at hn
      ·rename_i hb
       split at hc
       ·rename_i e he
        simp only[au]at hc;subst hc
        have:=Yya (call:=call) hh hr hE CJ (by simpa using hb) he GO h
        obtain⟨nx,x,w',μ',ws,k1,k2⟩:=this
        refine⟨nx,x,w',μ',ws,?_,k2⟩
        rw[<-k1]
        have e0:(⟨List.map a.eval args.toList⟩:Array Value)=args.map a.eval:=by apply Array.ext';simp
        rw[e0]
        simp[execOp,resolve,invoke,Deferred.ofValue,Act.eval]
       ·cases hc
     ·cases hc
    all_goals
     split at hc
     ·simp only[au]at hc;subst hc;simp[iz.qe]at hn
     ·cases hc
end
abbrev FE(lb:Option Nat):Fence:={Fence.wide with round:=lb}
def JD(R:Value->World->Prop):Ending->World->Prop
 |.returned x,w=>R x w
 |_,_=>False
def OR(P:Program)(y:Bool)(G:Value)(xs:Array Value)(w:World)(R:Value->World->Prop):Prop:=
 (∃d,(Deferred.ofValue G xs).run P w=.ok d w/\
  ((y=false/\∃f args,(invoke d.target d.args).run P w=.ok (.enter f args) w/\CallsIn Fence.wide 0 P f args w (JD R))\/
     (y=true/\∃l f tmps gO gS,(invoke d.target d.args).run P w=.ok (.round l f tmps gO gS) w/\RoundIn Fence.wide 0 P l f tmps gO gS w (JD R))))
def kI(P:Program)(call:cO):Prop:=
 ∀(g:V) (args:List V) (st:St) (v:V) (aB:St),call g args st=some (v,aB)->∀(μ:Mu) (w:World) (G:Value) (xs:List Value),bp P μ w st->VR μ g G->aY μ args xs->
  OR P g.Ik G ⟨xs⟩ w fun x w'=>∃μ' ws,VR μ' v x/\bL P μ w st μ' w' aB ws
def rA(μ:Mu):List Nat->List Deferred->Prop
 |[],ds=>ds=[]
 |m::ms,ds=>∃l GH,μ m=some l/\ds={target:=.collected l.b,args:=#[]}::GH/\rA μ ms GH
def rA.mono{μ μ':Mu}(h:∀i l,μ i=some l->μ' i=some l):∀{ms:List Nat} {ds:List Deferred},rA μ ms ds->rA μ' ms ds
 |[],_,hd=>hd
 |_::_,_,⟨l,GH,h1,h2,h3⟩=>⟨l,GH,h _ _ h1,h2,rA.mono h h3⟩
def oK(μ:Mu)(fr:Fr)(a:Act):Prop:=RR μ fr.r fr.n a.tmps/\rA μ fr.marks a.defers
def oK.mono{μ μ':Mu}(h:∀i l,μ i=some l->μ' i=some l){fr:Fr}{a:Act}(hf:oK μ fr a):oK μ' fr a:=⟨hf.1.mono h,hf.2.mono h⟩
section
variable {P:Program} {μ:Mu} {w:World} {st aB:St} {fr bJ:Fr} {a:Act} {call:cO} {v:V} {lb:Option Nat}
def bL.mono{μ':Mu}{w':World}{ws:List Nat}(hh:bp P μ w st)(h:bL P μ w st μ' w' aB ws):∀i l,μ i=some l->μ' i=some l:=bp.IT hh h.ext
def oK.put(hf:oK μ fr a){d:Option Nat}{x:Value}(hv:VR μ v x)(h:fr.put d v=some bJ):oK μ bJ (a.put d x):=by
 cases d with
 |none=> simp only[Fr.put,au]at h;subst h;exact hf
 |some d=>
  simp only[Fr.put]at h;split at h
  ·rename_i hd;simp only[au]at h;subst h;exact⟨hf.1.set hd hv,hf.2⟩
  cases h
def Ysv(cv:kI P call)(hE:wj P)(hh:bp P μ w st)(hf:oK μ fr a){o:Oper}(h:cH (Bw P o.op) call fr.r st=some (v,aB)){K:Act->World->Prop}{Q:Exit->Act->World->Prop}
  (hK:∀x w' μ' ws,VR μ' v x->bL P μ w st μ' w' aB ws->K (a.put o.dst x) w'):o.wpIn (FE lb) 0 P a w K Q:=by
 refine⟨fun _ _=>trivial,?_⟩;have Lb:∀c,o.op≠.defer c:=by intro c hc;rw[hc]at h;simp only[Bw,LD,Option.getD_none]at h;cases h
 show o.uponIn (FE lb) 0 P a K Q ((o.semAt lb a.eval).run P w);rw[Oper.semAt_eq _ _ _ Lb];cases hc:LD P o.op with
 |none=> simp only[Bw,hc,Option.getD_none]at h;cases h
 |some m=>
  simp only[Bw,hc,il]at h;by_cases hn:m.qe=true
  ·-- a call
   obtain⟨dst,op,ty,pos,af,g⟩:=o;cases m<;>simp only[iz.qe,ix]at hn;rename_i sf ss;have Pe:∃c f,op=.call c/\c.callee=.value f/\bI P f=some sf/\xz P c.args.toList=some ss:=by
    cases op<;>simp only[LD]at hc<;>try (cases hc;done)
    case call c=>
     obtain⟨callee,args,ats⟩:=c
     cases callee with
     |invoke r' nm=>simp only[Gc,reduceCtorEq]at hc
     |builtin b=>
      exfalso
      simp only[Gc]at hc
      repeat' split at hc
      all_goals first|(cases hc;done)|(simp at hc;done)
     |value f=>
      simp only[Gc]at hc
      split at hc
      ·cases hc
      ·rename_i ss' GO
       refine⟨_,f,rfl,rfl,?_⟩
       cases f<;>simp only at hc
       case func gid=>
        split at hc
        ·split at hc
         ·simp only[au,iz.call.injEq]at hc
          obtain⟨rfl,rfl⟩:=hc
          exact⟨rfl,GO⟩
         ·split at hc
          ·simp at hc
          ·cases hc
        ·cases hc
       all_goals
        split at hc
        ·rename_i h1
         simp only[au,iz.call.injEq]at hc
         obtain⟨rfl,rfl⟩:=hc
         exact⟨h1,GO⟩
        ·cases hc
    all_goals
     exfalso
     repeat' split at hc
     all_goals first|(cases hc;done)|contradiction|(simp at hc;done)|(rw[LJ]at hc;simp at hc;done)
   obtain⟨c,f,rfl,zaq,h1,h2⟩:=Pe;have h':AM sf ss call fr.r st=some (v,aB):=h;unfold AM at h';split at h'
   ·rename_i gv l hg hl;have hG:=dk hh hf.1 h1 hg;have hX:=IX hh hf.1 h2 hl;obtain⟨d,hd,iU⟩:=cv _ _ _ _ _ h' μ w _ _ hh hG hX;have e0:(⟨List.map a.eval c.args.toList⟩:Array Value)=c.args.map a.eval:=by apply Array.ext';simp
    rw[e0]at hd;have vU:(resolve a.eval c ty).run P w=.ok d w:=by simp only[resolve,zaq];exact hd
    rcases iU with⟨_,g',args,hinv,Jz⟩|⟨_,l',g',tmps,gO,gS,hinv,Mi⟩
    ·have bU:(execOp a.eval ⟨dst,.call c,ty,pos,af,g⟩).run P w=.ok (.enter g' args) w:=by simp only[execOp,Sem.run_bind,vU,Result.andThen_ok,hinv]
     rw[bU,Oper.uponIn_enter];refine⟨fun hx=>by simp[Fence.wide]at hx,?_⟩;refine CallsIn.mono (F:=Fence.wide) Jz fun e w' he=>?_;cases e with
     |returned x=> obtain⟨μ',ws,q1,q2⟩:=he;exact hK x w' μ' ws q1 q2
     |panicked _=>exact he.elim
     |outgrown=>exact he.elim
    have bU:(execOp a.eval ⟨dst,.call c,ty,pos,af,g⟩).run P w=.ok (.round l' g' tmps gO gS) w:=by simp only[execOp,Sem.run_bind,vU,Result.andThen_ok,hinv]
    rw[bU,Oper.uponIn_round];refine⟨fun hx=>by simp[Fence.wide]at hx,?_⟩;refine RoundIn.mono (F:=Fence.wide) Mi fun e w' he=>?_;cases e with
    |returned x=> obtain⟨μ',ws,q1,q2⟩:=he;exact hK x w' μ' ws q1 q2
    |panicked _=>exact he.elim
    |outgrown=>exact he.elim
   cases h'
  obtain⟨nx,x,w',μ',ws,k1,k2,k3,k4⟩:=Yw9 hh hf.1 hE hc (by simpa using hn) h;rw[k1];rcases k2 with rfl|⟨rfl,rfl⟩
  ·rw[Oper.uponIn_value];exact hK x w' μ' ws k3 k4
  rw[Oper.uponIn_skip];exact hK undef w' μ' ws k3 k4
def Zri{ops:Array Oper}{o:Oper}{g:Option (Nat×Bool)}(hr:RR μ fr.r fr.n a.tmps)(hg:IS ops o.guard=some g){b:Bool}(h:bZ fr.r g=some b):Region.wanted o (yielded ops a.tmps)=b:=by
 unfold Region.wanted;cases ho:o.guard with
 |none=> rw[ho]at hg;simp only[IS,au]at hg;subst hg;simp only[bZ,au]at h;exact h
 |some p=>
  obtain⟨j,want⟩:=p;rw[ho]at hg;simp only[IS]at hg;split at hg
  ·rename_i t ht;simp only[au]at hg;subst hg;simp only[bZ]at h;split at h
   ·rename_i b' hb;simp only[au]at h;subst h;obtain⟨x,hx,hv⟩:=hr.2 _ _ hb;simp only[VR]at hv;subst hv;simp[yielded,ht,hx]
   ·rename_i l hb;simp only[au]at h;subst h;obtain⟨x,hx,y,hv,_⟩:=hr.2 _ _ hb;subst hv;simp[yielded,ht,hx]
   cases h
  cases hg
end
def Mm:Ex->Exit
 |.normal=>.normal
 |.exit id=>.exit id
 |.ret=>.ret
def Ms(μ:Mu):Option Nat->Option Nat->Prop
 |none,none=>True
 |some l,some b=>∃L,μ l=some L/\L.b=b
 |_,_=>False
def Ms.mono{μ μ':Mu}(h:∀i l,μ i=some l->μ' i=some l){ro lb:Option Nat}(hr:Ms μ ro lb):Ms μ' ro lb:=by cases ro<;>cases lb<;>simp only[Ms]at*;obtain⟨L,h1,h2⟩:=hr;exact⟨L,h _ _ h1,h2⟩
def xQ(P:Program)(μ:Mu)(w:World)(st:St)(ex:Ex)(bJ:Fr)(aB:St):Exit->Act->World->Prop:=fun e a' w'=>
 e=Mm ex/\∃μ' ws,bL P μ w st μ' w' aB ws/\oK μ' bJ a'
section
variable {P:Program} {μ:Mu} {w:World} {st aB:St} {fr bJ:Fr} {a:Act} {call:cO} {v:V} {lb:Option Nat}
def Ys9(cv:kI P call)(hE:wj P){ops:Array Oper}{Q:Exit->Act->World->Prop}:∀(is:List Nat) (os:List Oper),is.map (fun i=>ops[i]?)=os.map some->
  ∀{st:St} {fr:Fr} {a:Act} {w:World} {μ:Mu},bp P μ w st->oK μ fr a->dX call (os.map (tr P ops)) fr st=some (bJ,aB)->
   (∀a' w' μ' ws,oK μ' bJ a'->bL P μ w st μ' w' aB ws->Q .normal a' w')->wpOpsIn (FE lb) 0 P ops Q is a w:=by
 intro is;induction is with
 |nil=>
  intro os By st fr a w μ hh hf h hQ;cases os with
  |cons o os=>simp at By
  |nil=> simp only[yZ,dX,Ypv,au,bD]at h;obtain⟨rfl,rfl⟩:=h;exact hQ a w μ [] hf (bL.refl hh)
 |cons i is ih=>
  intro os By st fr a w μ hh hf h hQ;cases os with
  |nil=>simp at By
  |cons o os=>
   simp only[pX,jc]at By;obtain⟨hoi,By⟩:=By;simp only[pX,dX,Dq]at h;unfold wpOpsIn;rw[hoi];simp only[];have go:∀(v:V) (b9:St) (eK:Fr) (x:Value) (w1:World) (μ1:Mu) (ws:List Nat),VR μ1 v x->bL P μ w st μ1 w1 b9 ws->fr.put o.dst v=some eK->dX call (os.map (tr P ops)) eK b9=some (bJ,aB)->
     wpOpsIn (FE lb) 0 P ops Q is (a.put o.dst x) w1:=by
    intro v b9 eK x w1 μ1 ws hv hs hp hm
    refine ih os By hs.hr ((hf.mono (hs.mono hh)).put hv hp) hm fun a' w' μ' TL IK jv=>?_
    exact hQ a' w' μ' _ IK (hs.trans jv)
   unfold tr at h;cases hg:IS ops o.guard with
   |none=> rw[hg]at h;simp only[bZ,cH,Zxw]at h;cases h
   |some g=>
    rw[hg]at h;simp only at h;cases hw:bZ fr.r g with
    |none=>rw[hw]at h;cases h
    |some b=>
     rw[hw]at h;have ze:=Zri hf.1 hg hw;cases b with
     |true=>
      rw[av ze];simp only at h;split at h
      ·rename_i v1 b9 hm;split at h
       ·rename_i eK hp;exact Ysv cv hE hh hf hm fun x w' μ' ws q1 q2=>go v1 b9 eK x w' μ' ws q1 q2 hp h
       cases h
      cases h
     |false=>
      rw[ak (by rw[ze];simp)];simp only at h;split at h
      ·rename_i eK hp;exact⟨fun _ _=>trivial,go (.aX []) st eK undef w μ [] ⟨[],rfl,by simp[aY]⟩ (bL.refl hh) hp h⟩
      cases h
def Ygs{ops:Array Oper}:(List.range ops.size).map (fun i=>ops[i]?)=ops.toList.map some:=by
 apply nN;intro i;simp only[eH];by_cases h:i<ops.size
 ·simp[h]
 simp[h]
def Zrb{F:Fence}{n:Nat}{c:Code}{Q:Exit->Act->World->Prop}(J:Nat->Act->World->Prop)
  (round:∀f a w,J f a w->c.wpIn F n P (Exit.then (fun a' w'=>∃f',f'<f/\J f' a' w') Q) a w) {f:Nat} (h₀:J f a w):(Code.loop c).wpIn F n P Q a w:=by
 intro b k cs qY hb hr;have key:∀j a w,J j a w->
   ∃e a' w',Q e a' w'/\ArrivesIn (Machine.fenced P F) P (lone (b.atR a (.code c::.inLoop c::k)) cs w) b k cs e a' w':=by
  intro j
  induction j using Nat.strongRecOn with
  |_ j ih=>
   intro a w hI
   obtain⟨e,a₁,w₁,hq,kj⟩:=round j a w hI b (.inLoop c::k) cs qY hb hr
   cases e with
   |normal=>
    obtain⟨f',aE,hI₁⟩:=hq
    obtain⟨e₂,a₂,w₂,hq₂,Pv⟩:=ih f' aE a₁ w₁ hI₁
    exact⟨e₂,a₂,w₂,hq₂,.of_steps (StepsIn.trans kj (.one (fenced_calm hb hr rfl) stepR_inLoop)) Pv⟩
   |exit id=>exact⟨_,a₁,w₁,hq,.pass (x:=.inLoop c) rfl (fun _ _=>.inl (by simp)) kj⟩
   |goto l=>exact⟨_,a₁,w₁,hq,.pass (x:=.inLoop c) rfl (fun _ _=>.inl (by simp)) kj⟩
   |ret=>exact⟨_,a₁,w₁,hq,.pass (x:=.inLoop c) rfl (fun _ _=>.inl (by simp)) kj⟩
   |panic ch=>exact⟨_,a₁,w₁,hq,.pass (x:=.inLoop c) rfl (fun _ _=>.inl (by simp)) kj⟩
   |outgrown=>exact⟨_,a₁,w₁,hq,.pass (x:=.inLoop c) rfl (fun _ _=>.inl (by simp)) kj⟩
 obtain⟨e,a',w',hq,kj⟩:=key _ a w h₀;exact⟨e,a',w',hq,.of_steps (.one (fenced_calm hb hr rfl) stepR_loop) kj⟩
def Mt{b:Frame}{k:List Item}{cs:List Frame}{c:Code}:
  step P (lone (b.atR a (.code (.scope c)::k)) cs w)=.next (lone (b.atR a (.code c::.inScope c::k)) cs w):=
 step_lone_go (by simp[stepG,stepG.exec,Frame.atR])
def Zs0{b:Frame}{k:List Item}{cs:List Frame}{c:Code}:
  step P (lone (b.atR a (.inScope c::k)) cs w)=.next (lone (b.atR a k) cs w):=
 step_lone_go (by simp[stepG,stepG.exec,Frame.atR])
def Yb8{F:Fence}{n:Nat}{c:Code}{Q:Exit->Act->World->Prop}(h:c.wpIn F n P Q a w)(hq:∀l a w,¬Q (.goto l) a w):(Code.scope c).wpIn F n P Q a w:=by
 intro b k cs qY hb hr;have h0:(lone (b.atR a (.code (.scope c)::k)) cs w).fenced P F:=fenced_calm hb hr rfl;obtain⟨e,a₁,w₁,hQ,kj⟩:=h b (.inScope c::k) cs qY hb hr;cases e with
 |normal=>exact⟨.normal,a₁,w₁,hQ,.head h0 Mt (StepsIn.trans kj (.one (fenced_calm hb hr rfl) Zs0))⟩
 |exit id=>
  have hx:exitTo id (.inScope c::k)=exitTo id k:=by simp[exitTo]
  exact⟨.exit id,a₁,w₁,hQ,fun k' hk=>.head h0 Mt (kj.1 k' (by rw[hx];exact hk)),
   fun Ef hk=>let ⟨k₁,h1,h2⟩:=kj.2 Ef (by rw[hx];exact hk);⟨k₁,h1,.head h0 Mt h2⟩⟩
 |goto l=>exact absurd hQ (hq l a₁ w₁)
 |ret=>exact⟨_,a₁,w₁,hQ,.of_steps (.one h0 Mt) kj⟩
 |panic ch=>exact⟨_,a₁,w₁,hQ,.of_steps (.one h0 Mt) kj⟩
 |outgrown=>exact⟨_,a₁,w₁,hQ,.of_steps (.one h0 Mt) kj⟩
def xQ.after{μ1:Mu}{w1:World}{b9:St}{ws:List Nat}(hs:bL P μ w st μ1 w1 b9 ws){ex:Ex}{e:Exit}{a':Act}{w':World}(h:xQ P μ1 w1 b9 ex bJ aB e a' w'):xQ P μ w st ex bJ aB e a' w':=by obtain⟨h1,μ',TL,h2,h3⟩:=h;exact⟨h1,μ',_,hs.trans h2,h3⟩
def xQ.then{μ:Mu}{ex:Ex}{eK:Fr}{b9:St}{K:Act->World->Prop}{Q:Exit->Act->World->Prop}{e:Exit}{a':Act}{w':World}(h:xQ P μ w st ex eK b9 e a' w')
  (hn:ex=.normal->K a' w') (hq:ex≠.normal->Q e a' w'):Exit.then K Q e a' w':=by
 obtain⟨rfl,h⟩:=h;cases ex<;>simp only[Mm,Exit.then]
 ·exact hn rfl
 ·exact hq (by simp)
 exact hq (by simp)
def Ml(P:Program)(code:sE):Prop:=
 ∀(ro:Option Nat) (c:Code) (fr:Fr) (st:St) (ex:Ex) (bJ:Fr) (aB:St),code ro (jC P c) fr st=some (ex,bJ,aB)->
  ∀(μ:Mu) (w:World) (a:Act) (lb:Option Nat),bp P μ w st->oK μ fr a->Ms μ ro lb->c.wpIn (FE lb) 0 P (xQ P μ w st ex bJ aB) a w
def Yqv(P:Program)(call:cO):Prop:=
 ∀(id:Nat) (ops:Array Oper) (fr:Fr) (st:St) (ex:Ex) (bJ:Fr) (aB:St),Ysc P ops=true->BI (ops.toList.map (tr P ops)) (xB ops.toList []) call T0 none fr st=some (ex,bJ,aB)->
  ∀(μ:Mu) (w:World) (a:Act) (lb:Option Nat),bp P μ w st->oK μ fr a->(Code.region id ops true).wpIn (FE lb) 0 P (xQ P μ w st ex bJ aB) a w
def Yy0(P:Program)(call:cO):Prop:=
 ∀(id:Nat) (ops:Array Oper) (o:Oper) (rest:List Oper) (d:Option Nat) (ch:Src) (s:Option Src) (z:V) (fr:Fr) (st:St) (ex:Ex) (bJ:Fr) (aB:St),ops.toList=o::rest->Xbg P o=some (d,ch,s,z)->
  Dt d ch s z (rest.map (tr P ops)) call T0 none fr st=some (ex,bJ,aB)->
  ∀(μ:Mu) (w:World) (a:Act) (lb:Option Nat),bp P μ w st->oK μ fr a->(Code.region id ops false).wpIn (FE lb) 0 P (xQ P μ w st ex bJ aB) a w
def Ykm(P:Program)(call:cO):Prop:=
 ∀(ro:Option Nat) (g:Operand) (s:Src) (ps:Array Nat) (gO gS:Code) (fr:Fr) (st:St) (ex:Ex) (bJ:Fr) (aB:St),bI P g=some s->
  A8 s ps.toList (jC P gO) (jC P gS) call T0 ro fr st=some (ex,bJ,aB)->
  ∀(μ:Mu) (w:World) (a:Act) (lb:Option Nat),bp P μ w st->oK μ fr a->Ms μ ro lb->(Code.rangeFunc g ps gO gS).wpIn (FE lb) 0 P (xQ P μ w st ex bJ aB) a w
def Yj2(cv:kI P call)(hE:wj P)(hD:Yqv P call)(hS:Yy0 P call)(hR:Ykm P call):∀fuel,Ml P (eF call fuel):=by
 intro fuel;induction fuel using Nat.strongRecOn with
 |_ fuel ihs=>
 cases fuel with
 |zero=>intro ro c fr st ex bJ aB h;cases h
 |succ f=>
  have ih:Ml P (eF call f):=ihs f (xC f);intro ro c fr st ex bJ aB h μ w a lb hh hf qY;cases c with
  |skip=> simp only[jC,eF,oJ,Yj6,au,bD]at h;obtain⟨rfl,rfl,rfl⟩:=h;exact wpIn_skip ⟨rfl,μ,[],bL.refl hh,hf⟩
  |label l=> simp only[jC,eF,oJ,Yj6,au,bD]at h;obtain⟨rfl,rfl,rfl⟩:=h;exact wpIn_label ⟨rfl,μ,[],bL.refl hh,hf⟩
  |exit id=> simp only[jC,eF,oJ,Yqn,au,bD]at h;obtain⟨rfl,rfl,rfl⟩:=h;exact wpIn_exit ⟨rfl,μ,[],bL.refl hh,hf⟩
  |ret=> simp only[jC,eF,oJ,Yys,au,bD]at h;obtain⟨rfl,rfl,rfl⟩:=h;exact wpIn_ret ⟨rfl,μ,[],bL.refl hh,hf⟩
  |goto l=>simp only[jC,eF,oJ,Ma]at h;cases h
  |refuse why=>simp only[jC,eF,oJ,Ma]at h;cases h
  |region id ops draw=>
   cases draw with
   |true=>
    simp only[jC]at h;split at h
    ·rename_i hp;simp only[eF,oJ]at h;exact hD id ops fr st ex bJ aB hp h μ w a lb hh hf
    simp only[eF,oJ,Ma]at h;cases h
   |false=>
    have plain:BH (ops.toList.map (tr P ops)) call (eF call f) ro fr st=some (ex,bJ,aB)->(Code.region id ops false).wpIn (FE lb) 0 P (xQ P μ w st ex bJ aB) a w:=by
     intro h;simp only[BH]at h;split at h
     ·rename_i eK b9 hm;simp only[au,bD]at h;obtain⟨rfl,rfl,rfl⟩:=h;exact wpIn_region (Ys9 cv hE _ _ Ygs hh hf hm fun a' w' μ' ws q1 q2=>⟨rfl,μ',ws,q2,q1⟩)
     cases h
    simp only[jC,eF]at h;split at h
    ·rename_i ho;exact plain (by rw[ho];exact h)
    rename_i o rest ho;split at h
    ·rename_i d ch s z hs;exact hS id ops o rest d ch s z fr st ex bJ aB ho hs h μ w a lb hh hf
    exact plain (by rw[ho];exact h)
  |seq x y=>
   simp only[jC,eF,oJ,Du]at h;refine wpIn_seq ?_;split at h
   ·rename_i eK b9 hx;refine wpIn_mono (ih ro x fr st _ _ _ hx μ w a lb hh hf qY) fun e a' w' hp=>?_;have uT:=hp;obtain⟨he,μ1,ws,hs,BY⟩:=hp;refine uT.then (fun _=>?_) (fun aZ=>absurd rfl aZ);exact wpIn_mono (ih ro y eK b9 ex bJ aB h μ1 w' a' lb hs.hr BY (qY.mono (hs.mono hh))) fun e2 a2 w2 AR=>AR.after hs
   rename_i hx;refine wpIn_mono (ih ro x fr st _ _ _ h μ w a lb hh hf qY) fun e a' w' hp=>?_;refine hp.then (fun hn=>?_) (fun _=>hp);subst hn;exact absurd h (hx bJ aB)
  |cond x p q=>
   simp only[jC]at h;split at h
   ·rename_i s hs;simp only[eF,oJ,Ad]at h;split at h
    ·rename_i hv;have:=dk hh hf.1 hs hv;exact wpIn_cond_true (by simpa[VR]using this) (ih ro p fr st ex bJ aB h μ w a lb hh hf qY)
    ·rename_i hv;have:=dk hh hf.1 hs hv;exact wpIn_cond_false (by simpa[VR]using this) (ih ro q fr st ex bJ aB h μ w a lb hh hf qY)
    cases h
   simp only[eF,oJ,Ma]at h;cases h
  |block id c=>
   simp only[jC,eF,oJ,Dv]at h;refine wpIn_block ?_;split at h
   ·rename_i Dw eK b9 hx;refine wpIn_mono (ih ro c fr st _ _ _ hx μ w a lb hh hf qY) fun e a' w' hp=>?_;obtain⟨rfl,hp⟩:=hp;simp only[Mm,Exit.inBlock];split at h
    ·rename_i DH;simp only[au,bD]at h;obtain⟨rfl,rfl,rfl⟩:=h;rw[av (TV DH)];exact⟨rfl,hp⟩
    rename_i DH;simp only[au,bD]at h;obtain⟨rfl,rfl,rfl⟩:=h;rw[ak (Nat.ne_of_beq_eq_false DH)];exact⟨rfl,hp⟩
   rename_i hx;refine wpIn_mono (ih ro c fr st _ _ _ h μ w a lb hh hf qY) fun e a' w' hp=>?_;have uT:=hp;obtain⟨rfl,hp⟩:=hp;cases ex with
   |normal=>exact uT
   |ret=>exact uT
   |exit Dw=>exact absurd h (hx Dw bJ aB)
  |loop c=>
   refine Zrb (fun k a1 w1=>k<=f+1/\∃eK b9 μ1 ws,bL P μ w st μ1 w1 b9 ws/\oK μ1 eK a1/\eF call k ro (.loop (jC P c)) eK b9=some (ex,bJ,aB)) ?_
    (f:=f+1) ⟨aM _,fr,st,μ,[],bL.refl hh,hf,h⟩;intro k a1 w1 hJ;obtain⟨hk,eK,b9,μ1,ws,hs,BY,hm⟩:=hJ;cases k with
   |zero=>cases hm
   |succ k=>
    simp only[eF,oJ,Dx]at hm;have ihk:Ml P (eF call k):=ihs k (by omega);split at hm
    ·rename_i A9 fi hx;refine wpIn_mono (ihk ro c eK b9 _ _ _ hx μ1 w1 a1 lb hs.hr BY (qY.mono (hs.mono hh))) fun e a' w' hp=>?_;have uT:=hp;obtain⟨he,μ2,ws2,nR,ef⟩:=hp;refine uT.then (fun _=>?_) (fun aZ=>absurd rfl aZ);exact⟨k,xC k,by omega,A9,fi,μ2,_,hs.trans nR,ef,hm⟩
    rename_i hx;refine wpIn_mono (ihk ro c eK b9 _ _ _ hm μ1 w1 a1 lb hs.hr BY (qY.mono (hs.mono hh))) fun e a' w' hp=>?_;refine hp.then (fun hn=>?_) (fun _=>hp.after hs);subst hn;exact absurd hm (hx bJ aB)
  |scope c=> simp only[jC,eF,oJ,Yj7]at h;refine Yb8 (ih ro c fr st ex bJ aB h μ w a lb hh hf qY) fun l a' w' hp=>?_;obtain⟨he,_⟩:=hp;cases ex<;>simp[Mm]at he
  |rangeFunc g ps gO gS=>
   simp only[jC]at h;split at h
   ·rename_i s hs;simp only[eF,oJ]at h;exact hR ro g s ps gO gS fr st ex bJ aB hs h μ w a lb hh hf qY
   simp only[eF,oJ,Ma]at h;cases h
end
end Go.Mx
