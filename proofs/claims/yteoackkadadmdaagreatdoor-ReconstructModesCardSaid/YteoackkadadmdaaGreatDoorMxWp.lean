/-The machine M's runs stand for the Go mo-/
import Derived.Test.YteoackkadadmdaaGreatDoorMxOp10
import Derived.RangeFuncRecord
import Derived.OrdersIn
import Derived.Conc.LoneSelect
set_option linter.all false
namespace Go.Mx
open Go
abbrev FE(lb:Option Nat):Fence:={Fence.wide with round:=lb}
def Gp(R:Value->World->Prop):Ending->World->Prop
 |.returned x,w=>R x w
 |_,_=>False
def KD(P:Program)(y:Bool)(G:Value)(xs:Array Value)(w:World)(R:Value->World->Prop):Prop:=
 (∃d,(Deferred.ofValue G xs).run P w=.ok d w/\
  ((y=false/\∃f args,(invoke d.target d.args).run P w=.ok (.enter f args) w/\CallsIn Fence.wide 0 P f args w (Gp R))\/
     (y=true/\∃l f tmps fI fJ,(invoke d.target d.args).run P w=.ok (.round l f tmps fI fJ) w/\RoundIn Fence.wide 0 P l f tmps fI fJ w (Gp R))))
def ji(P:Program)(call:cG):Prop:=
 ∀(g:V) (args:List V) (st:St) (v:V) (aB:St),call g args st=some (v,aB)->∀(μ:Mu) (w:World) (G:Value) (xs:List Value),bA P μ w st->VR μ g G->bb μ args xs->
  KD P g.Fo G ⟨xs⟩ w fun x w'=>∃μ' ws,VR μ' v x/\bQ P μ w st μ' w' aB ws
def pc(μ:Mu):List Nat->List Deferred->Prop
 |[],ds=>ds=[]
 |m::ms,ds=>∃l DW,μ m=some l/\ds={target:=.collected l.b,args:=#[]}::DW/\pc μ ms DW
def pc.mono{μ μ':Mu}(h:∀i l,μ i=some l->μ' i=some l):∀{ms:List Nat} {ds:List Deferred},pc μ ms ds->pc μ' ms ds
 |[],_,hd=>hd
 |_::_,_,⟨l,DW,h1,h2,h3⟩=>⟨l,DW,h _ _ h1,h2,pc.mono h h3⟩
def mD(μ:Mu)(fr:Fr)(a:Act):Prop:=RR μ fr.r fr.n a.tmps/\pc μ fr.marks a.defers
def mD.mono{μ μ':Mu}(h:∀i l,μ i=some l->μ' i=some l){fr:Fr}{a:Act}(hf:mD μ fr a):mD μ' fr a:=⟨hf.1.mono h,hf.2.mono h⟩
section
variable {P:Program} {μ:Mu} {w:World} {st aB:St} {fr bL:Fr} {a:Act} {call:cG} {v:V} {lb:Option Nat}
def bQ.mono{μ':Mu}{w':World}{ws:List Nat}(hh:bA P μ w st)(h:bQ P μ w st μ' w' aB ws):∀i l,μ i=some l->μ' i=some l:=bA.Fy hh h.ext
def mD.put(hf:mD μ fr a){d:Option Nat}{x:Value}(hv:VR μ v x)(h:fr.put d v=some bL):mD μ bL (a.put d x):=by
 cases d with
 |none=>
  simp only[Fr.put,al]at h;subst h
  exact hf
 |some d=>
  simp only[Fr.put]at h
  split at h
  ·rename_i hd
   simp only[al]at h;subst h
   exact⟨hf.1.set hd hv,hf.2⟩
  ·cases h
def Uw(cj:ji P call)(hE:tC P)(hh:bA P μ w st)(hf:mD μ fr a){o:Oper}(h:ct (zf P o.op) call fr.r st=some (v,aB)){K:Act->World->Prop}{Q:Exit->Act->World->Prop}
  (hK:∀x w' μ' ws,VR μ' v x->bQ P μ w st μ' w' aB ws->K (a.put o.dst x) w'):o.wpIn (FE lb) 0 P a w K Q:=by
 refine⟨fun _ _=>trivial,?_⟩
 have Vl:∀c,o.op≠.defer c:=by
  intro c hc
  rw[hc]at h
  simp only[zf,Ic,Option.getD_none]at h
  cases h
 show o.uponIn (FE lb) 0 P a K Q ((o.semAt lb a.eval).run P w)
 rw[Oper.semAt_eq _ _ _ Vl]
 cases hc:Ic P o.op with
 |none=>
  simp only[zf,hc,Option.getD_none]at h
  cases h
 |some m=>
  simp only[zf,hc,rM]at h
  by_cases hn:m.nR=true
  ·-- a call
   obtain⟨dst,op,ty,pos,af,g⟩:=o
   cases m<;>simp only[fX.nR,fF]at hn
   rename_i sf ss
   have KY:∃c f,op=.call c/\c.callee=.value f/\bJ P f=some sf/\uC P c.args.toList=some ss:=by
    cases op<;>simp only[Ic]at hc<;>try (cases hc;done)
    case call c=>
     obtain⟨callee,args,ats⟩:=c
     cases callee with
     |invoke r' nm=>simp only[Dl,reduceCtorEq]at hc
     |builtin b=>
      exfalso
      simp only[Dl]at hc
      repeat' split at hc
      all_goals first|(cases hc;done)|(simp at hc;done)
     |value f=>
      simp only[Dl]at hc
      split at hc
      ·cases hc
      ·rename_i ss' Ea
       refine⟨_,f,rfl,rfl,?_⟩
       cases f<;>simp only at hc
       case func gid=>
        split at hc
        ·split at hc
         ·simp only[al,fX.call.injEq]at hc
          obtain⟨rfl,rfl⟩:=hc
          exact⟨rfl,Ea⟩
         ·split at hc
          ·simp at hc
          ·cases hc
        ·cases hc
       all_goals
        split at hc
        ·rename_i h1
         simp only[al,fX.call.injEq]at hc
         obtain⟨rfl,rfl⟩:=hc
         exact⟨h1,Ea⟩
        ·cases hc
    all_goals
     exfalso
     repeat' split at hc
     all_goals first|(cases hc;done)|contradiction|(simp at hc;done)|(rw[Il]at hc;simp at hc;done)
   obtain⟨c,f,rfl,Vm,h1,h2⟩:=KY
   have h':yv sf ss call fr.r st=some (v,aB):=h
   unfold yv at h'
   split at h'
   ·rename_i gv l hg hl
    have hG:=cU hh hf.1 h1 hg
    have hX:=FF hh hf.1 h2 hl
    obtain⟨d,hd,gU⟩:=cj _ _ _ _ _ h' μ w _ _ hh hG hX
    have e0:(⟨List.map a.eval c.args.toList⟩:Array Value)=c.args.map a.eval:=by apply Array.ext';simp
    rw[e0]at hd
    have td:(resolve a.eval c ty).run P w=.ok d w:=by
     simp only[resolve,Vm]
     exact hd
    rcases gU with⟨_,g',args,hinv,IK⟩|⟨_,l',g',tmps,fI,fJ,hinv,IL⟩
    ·have bX:(execOp a.eval ⟨dst,.call c,ty,pos,af,g⟩).run P w=.ok (.enter g' args) w:=by
      simp only[execOp,Sem.run_bind,td,Result.andThen_ok,hinv]
     rw[bX,Oper.uponIn_enter]
     refine⟨fun hx=>by simp[Fence.wide]at hx,?_⟩
     refine CallsIn.mono (F:=Fence.wide) IK fun e w' he=>?_
     cases e with
     |returned x=>
      obtain⟨μ',ws,q1,q2⟩:=he
      exact hK x w' μ' ws q1 q2
     |panicked _=>exact he.elim
     |outgrown=>exact he.elim
    ·have bX:(execOp a.eval ⟨dst,.call c,ty,pos,af,g⟩).run P w=.ok (.round l' g' tmps fI fJ) w:=by
      simp only[execOp,Sem.run_bind,td,Result.andThen_ok,hinv]
     rw[bX,Oper.uponIn_round]
     refine⟨fun hx=>by simp[Fence.wide]at hx,?_⟩
     refine RoundIn.mono (F:=Fence.wide) IL fun e w' he=>?_
     cases e with
     |returned x=>
      obtain⟨μ',ws,q1,q2⟩:=he
      exact hK x w' μ' ws q1 q2
     |panicked _=>exact he.elim
     |outgrown=>exact he.elim
   ·cases h'
  ·obtain⟨nx,x,w',μ',ws,k1,k2,k3,k4⟩:=Yqh hh hf.1 hE hc (by simpa using hn) h
   rw[k1]
   rcases k2 with rfl|⟨rfl,rfl⟩
   ·rw[Oper.uponIn_value];exact hK x w' μ' ws k3 k4
   ·rw[Oper.uponIn_skip];exact hK undef w' μ' ws k3 k4
def iZ{ops:Array Oper}{o:Oper}{g:Option (Nat×Bool)}(hr:RR μ fr.r fr.n a.tmps)(hg:Fw ops o.guard=some g){b:Bool}(h:b_ fr.r g=some b):Region.wanted o (yielded ops a.tmps)=b:=by
 unfold Region.wanted
 cases ho:o.guard with
 |none=>
  rw[ho]at hg
  simp only[Fw,al]at hg;subst hg
  simp only[b_,al]at h
  exact h
 |some p=>
  obtain⟨j,want⟩:=p
  rw[ho]at hg
  simp only[Fw]at hg
  split at hg
  ·rename_i t ht
   simp only[al]at hg;subst hg
   simp only[b_]at h
   split at h
   ·rename_i b' hb
    simp only[al]at h;subst h
    obtain⟨x,hx,hv⟩:=hr.2 _ _ hb
    simp only[VR]at hv
    subst hv
    simp[yielded,ht,hx]
   ·rename_i l hb
    simp only[al]at h;subst h
    obtain⟨x,hx,y,hv,_⟩:=hr.2 _ _ hb
    subst hv
    simp[yielded,ht,hx]
   ·cases h
  ·cases hg
end
def IP:Ex->Exit
 |.normal=>.normal
 |.exit id=>.exit id
 |.ret=>.ret
def IW(μ:Mu):Option Nat->Option Nat->Prop
 |none,none=>True
 |some l,some b=>∃L,μ l=some L/\L.b=b
 |_,_=>False
def IW.mono{μ μ':Mu}(h:∀i l,μ i=some l->μ' i=some l){ro lb:Option Nat}(hr:IW μ ro lb):IW μ' ro lb:=by
 cases ro<;>cases lb<;>simp only[IW]at*
 obtain⟨L,h1,h2⟩:=hr
 exact⟨L,h _ _ h1,h2⟩
def vc(P:Program)(μ:Mu)(w:World)(st:St)(ex:Ex)(bL:Fr)(aB:St):Exit->Act->World->Prop:=fun e a' w'=>
 e=IP ex/\∃μ' ws,bQ P μ w st μ' w' aB ws/\mD μ' bL a'
section
variable {P:Program} {μ:Mu} {w:World} {st aB:St} {fr bL:Fr} {a:Act} {call:cG} {v:V} {lb:Option Nat}
def Ym5(cj:ji P call)(hE:tC P){ops:Array Oper}{Q:Exit->Act->World->Prop}:∀(is:List Nat) (os:List Oper),is.map (fun i=>ops[i]?)=os.map some->
  ∀{st:St} {fr:Fr} {a:Act} {w:World} {μ:Mu},bA P μ w st->mD μ fr a->dC call (os.map (qo P ops)) fr st=some (bL,aB)->
   (∀a' w' μ' ws,mD μ' bL a'->bQ P μ w st μ' w' aB ws->Q .normal a' w')->wpOpsIn (FE lb) 0 P ops Q is a w:=by
 intro is
 induction is with
 |nil=>
  intro os zh st fr a w μ hh hf h hQ
  cases os with
  |cons o os=>simp at zh
  |nil=>
   simp only[uJ,dC,ZQ,al,bF]at h
   obtain⟨rfl,rfl⟩:=h
   exact hQ a w μ [] hf (bQ.refl hh)
 |cons i is ih=>
  intro os zh st fr a w μ hh hf h hQ
  cases os with
  |nil=>simp at zh
  |cons o os=>
   simp only[my,iO]at zh
   obtain⟨hoi,zh⟩:=zh
   simp only[my,dC,AP]at h
   unfold wpOpsIn
   rw[hoi]
   simp only[]
   have go:∀(v:V) (cf:St) (dS:Fr) (x:Value) (w1:World) (μ1:Mu) (ws:List Nat),VR μ1 v x->bQ P μ w st μ1 w1 cf ws->fr.put o.dst v=some dS->dC call (os.map (qo P ops)) dS cf=some (bL,aB)->
     wpOpsIn (FE lb) 0 P ops Q is (a.put o.dst x) w1:=by
    intro v cf dS x w1 μ1 ws hv hs hp hm
    refine ih os zh hs.hr ((hf.mono (hs.mono hh)).put hv hp) hm fun a' w' μ' On zW iY=>?_
    exact hQ a' w' μ' _ zW (hs.trans iY)
   unfold qo at h
   cases hg:Fw ops o.guard with
   |none=>
    rw[hg]at h
    simp only[b_,ct,T4]at h
    cases h
   |some g=>
    rw[hg]at h
    simp only at h
    cases hw:b_ fr.r g with
    |none=>rw[hw]at h;cases h
    |some b=>
     rw[hw]at h
     have wU:=iZ hf.1 hg hw
     cases b with
     |true=>
      rw[aF wU]
      simp only at h
      split at h
      ·rename_i v1 cf hm
       split at h
       ·rename_i dS hp
        exact Uw cj hE hh hf hm fun x w' μ' ws q1 q2=>go v1 cf dS x w' μ' ws q1 q2 hp h
       ·cases h
      ·cases h
     |false=>
      rw[ar (by rw[wU];simp)]
      simp only at h
      split at h
      ·rename_i dS hp
       exact⟨fun _ _=>trivial,go (.bg []) st dS undef w μ [] ⟨[],rfl,by simp[bb]⟩ (bQ.refl hh) hp h⟩
      ·cases h
def Ycb{ops:Array Oper}:(List.range ops.size).map (fun i=>ops[i]?)=ops.toList.map some:=by
 apply nD
 intro i
 simp only[gG]
 by_cases h:i<ops.size
 ·simp[h]
 ·simp[h]
def Zo2{F:Fence}{n:Nat}{c:Code}{Q:Exit->Act->World->Prop}(J:Nat->Act->World->Prop)
  (round:∀f a w,J f a w->c.wpIn F n P (Exit.then (fun a' w'=>∃f',f'<f/\J f' a' w') Q) a w) {f:Nat} (h₀:J f a w):(Code.loop c).wpIn F n P Q a w:=by
 intro b k cs oJ hb hr
 have key:∀j a w,J j a w->
   ∃e a' w',Q e a' w'/\ArrivesIn (Machine.fenced P F) P (lone (b.atR a (.code c::.inLoop c::k)) cs w) b k cs e a' w':=by
  intro j
  induction j using Nat.strongRecOn with
  |_ j ih=>
   intro a w hI
   obtain⟨e,a₁,w₁,hq,i_⟩:=round j a w hI b (.inLoop c::k) cs oJ hb hr
   cases e with
   |normal=>
    obtain⟨f',ay,hI₁⟩:=hq
    obtain⟨e₂,a₂,w₂,hq₂,Lf⟩:=ih f' ay a₁ w₁ hI₁
    exact⟨e₂,a₂,w₂,hq₂,.of_steps (StepsIn.trans i_ (.one (fenced_calm hb hr rfl) stepR_inLoop)) Lf⟩
   |exit id=>exact⟨_,a₁,w₁,hq,.pass (x:=.inLoop c) rfl (fun _ _=>.inl (by simp)) i_⟩
   |goto l=>exact⟨_,a₁,w₁,hq,.pass (x:=.inLoop c) rfl (fun _ _=>.inl (by simp)) i_⟩
   |ret=>exact⟨_,a₁,w₁,hq,.pass (x:=.inLoop c) rfl (fun _ _=>.inl (by simp)) i_⟩
   |panic ch=>exact⟨_,a₁,w₁,hq,.pass (x:=.inLoop c) rfl (fun _ _=>.inl (by simp)) i_⟩
   |outgrown=>exact⟨_,a₁,w₁,hq,.pass (x:=.inLoop c) rfl (fun _ _=>.inl (by simp)) i_⟩
 obtain⟨e,a',w',hq,i_⟩:=key _ a w h₀
 exact⟨e,a',w',hq,.of_steps (.one (fenced_calm hb hr rfl) stepR_loop) i_⟩
def IX{b:Frame}{k:List Item}{cs:List Frame}{c:Code}:
  step P (lone (b.atR a (.code (.scope c)::k)) cs w)=.next (lone (b.atR a (.code c::.inScope c::k)) cs w):=
 step_lone_go (by simp[stepG,stepG.exec,Frame.atR])
def Zqn{b:Frame}{k:List Item}{cs:List Frame}{c:Code}:
  step P (lone (b.atR a (.inScope c::k)) cs w)=.next (lone (b.atR a k) cs w):=
 step_lone_go (by simp[stepG,stepG.exec,Frame.atR])
def Zx7{F:Fence}{n:Nat}{c:Code}{Q:Exit->Act->World->Prop}(h:c.wpIn F n P Q a w)(hq:∀l a w,¬Q (.goto l) a w):(Code.scope c).wpIn F n P Q a w:=by
 intro b k cs oJ hb hr
 have h0:(lone (b.atR a (.code (.scope c)::k)) cs w).fenced P F:=fenced_calm hb hr rfl
 obtain⟨e,a₁,w₁,hQ,i_⟩:=h b (.inScope c::k) cs oJ hb hr
 cases e with
 |normal=>exact⟨.normal,a₁,w₁,hQ,.head h0 IX (StepsIn.trans i_ (.one (fenced_calm hb hr rfl) Zqn))⟩
 |exit id=>
  have hx:exitTo id (.inScope c::k)=exitTo id k:=by simp[exitTo]
  exact⟨.exit id,a₁,w₁,hQ,fun k' hk=>.head h0 IX (i_.1 k' (by rw[hx];exact hk)),
   fun km hk=>let ⟨k₁,h1,h2⟩:=i_.2 km (by rw[hx];exact hk);⟨k₁,h1,.head h0 IX h2⟩⟩
 |goto l=>exact absurd hQ (hq l a₁ w₁)
 |ret=>exact⟨_,a₁,w₁,hQ,.of_steps (.one h0 IX) i_⟩
 |panic ch=>exact⟨_,a₁,w₁,hQ,.of_steps (.one h0 IX) i_⟩
 |outgrown=>exact⟨_,a₁,w₁,hQ,.of_steps (.one h0 IX) i_⟩
def vc.after{μ1:Mu}{w1:World}{cf:St}{ws:List Nat}(hs:bQ P μ w st μ1 w1 cf ws){ex:Ex}{e:Exit}{a':Act}{w':World}(h:vc P μ1 w1 cf ex bL aB e a' w'):vc P μ w st ex bL aB e a' w':=by
 obtain⟨h1,μ',On,h2,h3⟩:=h
 exact⟨h1,μ',_,hs.trans h2,h3⟩
def vc.then{μ:Mu}{ex:Ex}{dS:Fr}{cf:St}{K:Act->World->Prop}{Q:Exit->Act->World->Prop}{e:Exit}{a':Act}{w':World}(h:vc P μ w st ex dS cf e a' w')
  (hn:ex=.normal->K a' w') (hq:ex≠.normal->Q e a' w'):Exit.then K Q e a' w':=by
 obtain⟨rfl,h⟩:=h
 cases ex<;>simp only[IP,Exit.then]
 ·exact hn rfl
 ·exact hq (by simp)
 ·exact hq (by simp)
def IN(P:Program)(code:pD):Prop:=
 ∀(ro:Option Nat) (c:Code) (fr:Fr) (st:St) (ex:Ex) (bL:Fr) (aB:St),code ro (iM P c) fr st=some (ex,bL,aB)->
  ∀(μ:Mu) (w:World) (a:Act) (lb:Option Nat),bA P μ w st->mD μ fr a->IW μ ro lb->c.wpIn (FE lb) 0 P (vc P μ w st ex bL aB) a w
def Pa(P:Program)(call:cG):Prop:=
 ∀(id:Nat) (ops:Array Oper) (fr:Fr) (st:St) (ex:Ex) (bL:Fr) (aB:St),TS P ops=true->zu (ops.toList.map (qo P ops)) (uE ops.toList []) call OD none fr st=some (ex,bL,aB)->
  ∀(μ:Mu) (w:World) (a:Act) (lb:Option Nat),bA P μ w st->mD μ fr a->(Code.region id ops true).wpIn (FE lb) 0 P (vc P μ w st ex bL aB) a w
def Yr4(P:Program)(call:cG):Prop:=
 ∀(id:Nat) (ops:Array Oper) (o:Oper) (rest:List Oper) (d:Option Nat) (ch:Src) (s:Option Src) (z:V) (fr:Fr) (st:St) (ex:Ex) (bL:Fr) (aB:St),ops.toList=o::rest->ZM P o=some (d,ch,s,z)->
  AS d ch s z (rest.map (qo P ops)) call OD none fr st=some (ex,bL,aB)->
  ∀(μ:Mu) (w:World) (a:Act) (lb:Option Nat),bA P μ w st->mD μ fr a->(Code.region id ops false).wpIn (FE lb) 0 P (vc P μ w st ex bL aB) a w
def Yfu(P:Program)(call:cG):Prop:=
 ∀(ro:Option Nat) (g:Operand) (s:Src) (ps:Array Nat) (fI fJ:Code) (fr:Fr) (st:St) (ex:Ex) (bL:Fr) (aB:St),bJ P g=some s->
  yY s ps.toList (iM P fI) (iM P fJ) call OD ro fr st=some (ex,bL,aB)->
  ∀(μ:Mu) (w:World) (a:Act) (lb:Option Nat),bA P μ w st->mD μ fr a->IW μ ro lb->(Code.rangeFunc g ps fI fJ).wpIn (FE lb) 0 P (vc P μ w st ex bL aB) a w
def Yfb(cj:ji P call)(hE:tC P)(hD:Pa P call)(hS:Yr4 P call)(hR:Yfu P call):∀fuel,IN P (dL call fuel):=by
 intro fuel
 induction fuel using Nat.strongRecOn with
 |_ fuel ihs=>
 cases fuel with
 |zero=>intro ro c fr st ex bL aB h;cases h
 |succ f=>
  have ih:IN P (dL call f):=ihs f (uG f)
  intro ro c fr st ex bL aB h μ w a lb hh hf oJ
  cases c with
  |skip=>
   simp only[iM,dL,mA,T6,al,bF]at h
   obtain⟨rfl,rfl,rfl⟩:=h
   exact wpIn_skip ⟨rfl,μ,[],bQ.refl hh,hf⟩
  |label l=>
   simp only[iM,dL,mA,T6,al,bF]at h
   obtain⟨rfl,rfl,rfl⟩:=h
   exact wpIn_label ⟨rfl,μ,[],bQ.refl hh,hf⟩
  |exit id=>
   simp only[iM,dL,mA,ZS,al,bF]at h
   obtain⟨rfl,rfl,rfl⟩:=h
   exact wpIn_exit ⟨rfl,μ,[],bQ.refl hh,hf⟩
  |ret=>
   simp only[iM,dL,mA,ZU,al,bF]at h
   obtain⟨rfl,rfl,rfl⟩:=h
   exact wpIn_ret ⟨rfl,μ,[],bQ.refl hh,hf⟩
  |goto l=>simp only[iM,dL,mA,IC]at h;cases h
  |refuse why=>simp only[iM,dL,mA,IC]at h;cases h
  |region id ops draw=>
   cases draw with
   |true=>
    simp only[iM]at h
    split at h
    ·rename_i hp
     simp only[dL,mA]at h
     exact hD id ops fr st ex bL aB hp h μ w a lb hh hf
    ·simp only[dL,mA,IC]at h;cases h
   |false=>
    have plain:zt (ops.toList.map (qo P ops)) call (dL call f) ro fr st=some (ex,bL,aB)->(Code.region id ops false).wpIn (FE lb) 0 P (vc P μ w st ex bL aB) a w:=by
     intro h
     simp only[zt]at h
     split at h
     ·rename_i dS cf hm
      simp only[al,bF]at h
      obtain⟨rfl,rfl,rfl⟩:=h
      exact wpIn_region (Ym5 cj hE _ _ Ycb hh hf hm fun a' w' μ' ws q1 q2=>⟨rfl,μ',ws,q2,q1⟩)
     ·cases h
    simp only[iM,dL]at h
    split at h
    ·rename_i ho
     exact plain (by rw[ho];exact h)
    ·rename_i o rest ho
     split at h
     ·rename_i d ch s z hs
      exact hS id ops o rest d ch s z fr st ex bL aB ho hs h μ w a lb hh hf
     ·exact plain (by rw[ho];exact h)
  |seq x y=>
   simp only[iM,dL,mA,AT]at h
   refine wpIn_seq ?_
   split at h
   ·rename_i dS cf hx
    refine wpIn_mono (ih ro x fr st _ _ _ hx μ w a lb hh hf oJ) fun e a' w' hp=>?_
    have sI:=hp
    obtain⟨he,μ1,ws,hs,r_⟩:=hp
    refine sI.then (fun _=>?_) (fun bB=>absurd rfl bB)
    exact wpIn_mono (ih ro y dS cf ex bL aB h μ1 w' a' lb hs.hr r_ (oJ.mono (hs.mono hh))) fun e2 a2 w2 yz=>yz.after hs
   ·rename_i hx
    refine wpIn_mono (ih ro x fr st _ _ _ h μ w a lb hh hf oJ) fun e a' w' hp=>?_
    refine hp.then (fun hn=>?_) (fun _=>hp)
    subst hn
    exact absurd h (hx bL aB)
  |cond x p q=>
   simp only[iM]at h
   split at h
   ·rename_i s hs
    simp only[dL,mA,xM]at h
    split at h
    ·rename_i hv
     have:=cU hh hf.1 hs hv
     exact wpIn_cond_true (by simpa[VR]using this) (ih ro p fr st ex bL aB h μ w a lb hh hf oJ)
    ·rename_i hv
     have:=cU hh hf.1 hs hv
     exact wpIn_cond_false (by simpa[VR]using this) (ih ro q fr st ex bL aB h μ w a lb hh hf oJ)
    ·cases h
   ·simp only[dL,mA,IC]at h;cases h
  |block id c=>
   simp only[iM,dL,mA,AU]at h
   refine wpIn_block ?_
   split at h
   ·rename_i AV dS cf hx
    refine wpIn_mono (ih ro c fr st _ _ _ hx μ w a lb hh hf oJ) fun e a' w' hp=>?_
    obtain⟨rfl,hp⟩:=hp
    simp only[IP,Exit.inBlock]
    split at h
    ·rename_i AH
     simp only[al,bF]at h
     obtain⟨rfl,rfl,rfl⟩:=h
     rw[aF (Ou AH)]
     exact⟨rfl,hp⟩
    ·rename_i AH
     simp only[al,bF]at h
     obtain⟨rfl,rfl,rfl⟩:=h
     rw[ar (Nat.ne_of_beq_eq_false AH)]
     exact⟨rfl,hp⟩
   ·rename_i hx
    refine wpIn_mono (ih ro c fr st _ _ _ h μ w a lb hh hf oJ) fun e a' w' hp=>?_
    have sI:=hp
    obtain⟨rfl,hp⟩:=hp
    cases ex with
    |normal=>exact sI
    |ret=>exact sI
    |exit AV=>exact absurd h (hx AV bL aB)
  |loop c=>
   refine Zo2 (fun k a1 w1=>k<=f+1/\∃dS cf μ1 ws,bQ P μ w st μ1 w1 cf ws/\mD μ1 dS a1/\dL call k ro (.loop (iM P c)) dS cf=some (ex,bL,aB)) ?_
    (f:=f+1) ⟨aW _,fr,st,μ,[],bQ.refl hh,hf,h⟩
   intro k a1 w1 hJ
   obtain⟨hk,dS,cf,μ1,ws,hs,r_,hm⟩:=hJ
   cases k with
   |zero=>cases hm
   |succ k=>
    simp only[dL,mA,AW]at hm
    have ihk:IN P (dL call k):=ihs k (by omega)
    split at hm
    ·rename_i yZ eF hx
     refine wpIn_mono (ihk ro c dS cf _ _ _ hx μ1 w1 a1 lb hs.hr r_ (oJ.mono (hs.mono hh))) fun e a' w' hp=>?_
     have sI:=hp
     obtain⟨he,μ2,UJ,nO,c_⟩:=hp
     refine sI.then (fun _=>?_) (fun bB=>absurd rfl bB)
     exact⟨k,uG k,by omega,yZ,eF,μ2,_,hs.trans nO,c_,hm⟩
    ·rename_i hx
     refine wpIn_mono (ihk ro c dS cf _ _ _ hm μ1 w1 a1 lb hs.hr r_ (oJ.mono (hs.mono hh))) fun e a' w' hp=>?_
     refine hp.then (fun hn=>?_) (fun _=>hp.after hs)
     subst hn
     exact absurd hm (hx bL aB)
  |scope c=>
   simp only[iM,dL,mA,ZT]at h
   refine Zx7 (ih ro c fr st ex bL aB h μ w a lb hh hf oJ) fun l a' w' hp=>?_
   obtain⟨he,_⟩:=hp
   cases ex<;>simp[IP]at he
  |rangeFunc g ps fI fJ=>
   simp only[iM]at h
   split at h
   ·rename_i s hs
    simp only[dL,mA]at h
    exact hR ro g s ps fI fJ fr st ex bL aB hs h μ w a lb hh hf oJ
   ·simp only[dL,mA,IC]at h;cases h
end
section
variable {P:Program} {μ:Mu} {w:World} {st aB:St} {fr bL:Fr} {a:Act} {call:cG} {v:V} {lb:Option Nat}
def Znj:∀(vs:List V) (r:T V) (i t:Nat),(yw r i vs).get t=if i<=t/\t<i+vs.length then vs[t-i]? else r.get t
 |[],r,i,t=>by simp[yw];omega
 |v::vs,r,i,t=>by
  simp only[yw]
  rw[Znj vs (r.set i v) (i+1) t,T.ag]
  by_cases h:t=i
  ·subst h
   rw[ar (by omega),aF rfl,aF (by simp)];simp
  ·by_cases h2:i+1<=t/\t<i+1+vs.length
   ·rw[aF h2,aF (by simp;omega)]
    rw[show t-i=(t-(i+1))+1 by omega];simp
   ·rw[ar h2,ar h,ar (by simp;omega)]
def Yiw{vs:List V}{xs:List Value}{n:Nat}(h:bb μ vs xs)(hl:vs.length<=n):RR μ (yw .nil 0 vs) n ((⟨xs⟩:Array Value)++Array.replicate (n-(⟨xs⟩:Array Value).size) undef):=by
 have A2:=h.length
 refine⟨by simp;omega,fun t v hv=>?_⟩
 rw[Znj]at hv
 split at hv
 ·rename_i ht
  simp only[Nat.sub_zero]at hv
  obtain⟨x,hx,hr⟩:=h.get hv
  refine⟨x,?_,hr⟩
  rw[Array.getElem?_append_left (by simp;omega)]
  simpa using hx
 ·simp[T.get]at hv
def OR(tmps:Array Value):ResultVar->Sem Value
 |.tmp t=>pure (tmps.getD t undef)
 |.cell a t=>do loadVar t (<-asAddr (tmps.getD a undef))
def UG(hh:bA P μ w st){r:T V}{n:Nat}{tmps:Array Value}(hr:RR μ r n tmps):∀{rs:List ResultVar} {ms:List Df},Dm P rs=some ms->∀{vs:List V},fw r st ms=some vs->
  ∃xs,(rs.mapM (OR tmps)).run P w=.ok xs w/\bb μ vs xs
 |[],ms,hc,vs,hv=>by
  simp only[Dm,al]at hc;subst hc
  simp only[fw,al]at hv;subst hv
  exact⟨[],by simp,by simp[bb]⟩
 |.tmp t::rs,ms,hc,vs,hv=>by
  simp only[Dm,jT]at hc
  obtain⟨ms',oZ,rfl⟩:=hc
  simp only[fw]at hv
  split at hv
  ·rename_i u us hu sQ
   simp only[al]at hv;subst hv
   obtain⟨xs,h1,h2⟩:=UG hh hr oZ sQ
   obtain⟨x,hx,A1⟩:=hr.2 _ _ hu
   refine⟨x::xs,?_,ke.2 ⟨_,_,rfl,A1,h2⟩⟩
   simp only[List.mapM_cons,OR,Sem.run_bind,Sem.run_pure,Result.andThen_ok,h1]
   simp[FC,hx]
  ·cases hv
 |.cell t ty::rs,ms,hc,vs,hv=>by
  simp only[Dm]at hc
  split at hc
  ·rename_i k ms' hk oZ
   simp only[al]at hc;subst hc
   simp only[fw]at hv
   split at hv
   ·rename_i i o us hu sQ
    split at hv
    ·rename_i c e oC ak
     split at hv
     ·rename_i u eJ
      simp only[al]at hv;subst hv
      obtain⟨xs,h1,h2⟩:=UG hh hr oZ sQ
      obtain⟨x,hx,l,hl,rfl⟩:=hr.2 _ _ hu
      have yy:=hh.row hl ak
      have wX:∃y,(loadVar ty ⟨l.b,l.d+o,none⟩).run P w=.ok y w/\VR μ u y:=by
       cases k with
       |none=>
        simp only[aS]at eJ
        obtain⟨y,hy,hv⟩:=yy.cell eJ
        exact⟨y,by simp[loadVar,TW hk,Result.andThen,hy],hv⟩
       |some k=>
        simp only[aS]at eJ
        split at eJ
        ·rename_i q hq
         simp only[al]at eJ;subst eJ
         obtain⟨ys,g1,_,g3,_⟩:=yy.zi hq
         exact⟨.agg ys.toArray,by simp[loadVar,(Ij hk).1,(Ij hk).2,Result.andThen,g3],ys,rfl,g1⟩
        ·cases eJ
      obtain⟨y,rZ,wY⟩:=wX
      refine⟨y::xs,?_,ke.2 ⟨_,_,rfl,wY,h2⟩⟩
      have lI:tmps.getD t undef=.pointer (some ⟨l.b,l.d+o,none⟩):=by simp[FC,hx]
      have UH:(asAddr (tmps.getD t undef)).run P w=.ok ⟨l.b,l.d+o,none⟩ w:=by rw[lI];rfl
      simp only[List.mapM_cons,OR,Sem.run_bind,UH,Sem.run_pure,Result.andThen_ok,rZ,h1]
     ·cases hv
    ·cases hv
   ·cases hv
  ·cases hc
def Zuk(hh:bA P μ w st){r:T V}{n:Nat}{tmps:Array Value}(hr:RR μ r n tmps){fn:Func}{ms:List Df}(hc:Dm P fn.results.toList=some ms){vs:List V}(hv:fw r st ms=some vs):
  ∃x,(results fn tmps).run P w=.ok x w/\VR μ (DK vs) x:=by
 obtain⟨xs,h1,h2⟩:=UG hh hr hc hv
 have hl:=h2.length
 refine⟨if h:xs.length=1 then xs[0] else .tuple ⟨xs⟩,?_,?_⟩
 ·show (do let vs <-fn.results.mapM (OR tmps);pure (if h:vs.size=1 then vs[0] else .tuple vs):Sem Value).run P w=_
  rw[Array.mapM_eq_mapM_toList]
  simp only[Sem.run_bind,Sem.run_map,h1,Result.andThen_ok,Sem.run_pure]
  rfl
 ·rcases vs with _|⟨u,_|⟨u',vs⟩⟩
  ·simp only[bb]at h2;subst h2
   exact⟨[],rfl,by simp[bb]⟩
  ·obtain⟨y,ys,rfl,g1,g2⟩:=ke.1 h2
   simp only[bb]at g2;subst g2
   exact g1
  ·rw[dif_neg (by rw[hl];simp)]
   exact⟨xs,rfl,h2⟩
def Zwa{fn:Func}{tmps:Array Value}{R:Ending->World->Prop}:∀{ms:List Nat} {ds:List Deferred} {st eF:St} {w:World},bA P μ w st->pc μ ms ds->shut st ms=some eF->
  (∀w' ws,bQ P μ w st μ w' eF ws->∃v,(results fn tmps).run P w'=.ok v w'/\R (.returned v) w')->LeavesInM Fence.wide 0 P fn tmps R ds .returning w
 |[],ds,st,eF,w,hh,hd,hs,hR=>by
  simp only[pc]at hd;subst hd
  simp only[shut,al]at hs;subst hs
  exact hR w [] (bQ.refl hh)
 |m::ms,ds,st,eF,w,hh,hd,hs,hR=>by
  obtain⟨l,DW,h1,rfl,h3⟩:=hd
  simp only[shut]at hs
  split at hs
  ·rename_i hg
   have yy:=hh.get h1 hg
   have KE:bQ P μ w st μ (w.putObj l.b (.deferred none)) (st.write m (.defs false)) [m]:=
    bQ.write hh h1 hg rfl rfl rfl rfl (World.putObj_size) (fun b hb=>World.putObj_heap_other hb) (World.putObj_heap_same (hh.df m l h1).2)
   refine⟨by simp,.inl ⟨l.b,_,rfl,run_takeDeferred yy,?_⟩⟩
   exact Zwa KE.hr h3 hs fun w' ws iY=>hR w' _ (KE.trans iY)
  ·cases hs
def bQ.fold{μ':Mu}{w':World}{ws:List Nat}(h0:bA P μ w st)(h:bQ P μ w {st with w:=[]} μ' w' aB ws):bQ P μ w st μ' w' {aB with w:=ax st.n aB.w++st.w} (ax st.n aB.w):=by
 have uZ:∀(l:List Nat) (i:Nat),i<st.n->(i∈ax st.n l↔i∈l):=by
  intro l i hi
  induction l with
  |nil=>simp[ax]
  |cons j l ih=>
   simp only[ax]
   split
   ·unfold uN
    split
    ·rename_i hc
     simp only[kv,ih]
     simp only[Ov]at hc
     constructor
     ·exact .inr
     ·rintro(rfl|h)
      ·exact ih.1 hc
      ·exact h
    ·simp only[kv,ih]
   ·simp only[kv,ih]
    constructor
    ·exact .inr
    ·rintro(rfl|h)
     ·omega
     ·exact h
 have DZ:aB.w=ws:=by have:=h.wl;simpa using this
 have hs:∀i,i<st.n->(i∈ax st.n aB.w↔i∈ws):=fun i hi=>by rw[uZ _ i hi,DZ]
 exact {
  hr:=⟨h.hr.df,h.hr.obj,h.hr.inj,h.hr.gK⟩
  ext:=h.ext
  fi:=h.fi
  wl:=rfl
  d_:=⟨h.d_.os,h.d_.tape,h.d_.output,h.d_.size,fun b hb dv=>h.d_.block b hb fun i hi l hl=>dv i ((hs i (h0.df i l hl).1).2 hi) l hl⟩
  new:=fun i l hi hl=>by
   rcases h.new i l hi hl with h'|⟨j,hj,Fz,r⟩
   ·exact .inl h'
   ·exact .inr ⟨j,(hs j Fz).2 hj,Fz,r⟩
  ae:=fun i hi dv=>h.ae i hi fun hc=>dv ((hs i hi).2 hc)
  grow:=h.grow
  full:=h.full
  yo:=fun i hi hn=>h.yo i ((hs i hn).1 hi) hn}
def bA.now(h:bA P μ w st)(l:List Nat):bA P μ w {st with w:=l}:=⟨h.df,h.obj,h.inj,h.gK⟩
def Yea{code:pD}(nN:IN P code){f:FuncId}{fn:Func}{mf:ku}(hf:P.funcs[f]?=some fn)(hc:x_ P f=some mf){args:List V}{xs:List Value}(hh:bA P μ w st)(hx:bb μ args xs)
  (h:B3 mf code args st=some (v,aB)):CallsIn Fence.wide 0 P f ⟨xs⟩ w (Gp fun x w'=>∃μ' ws,VR μ' v x/\bQ P μ w st μ' w' aB ws):=by
 unfold x_ at hc
 rw[hf]at hc
 simp only at hc
 split at hc
 ·rename_i c rs hb UI
  simp only[al]at hc;subst hc
  unfold B3 at h
  split at h
  ·cases h
  ·rename_i hle
   simp only at hle h
   have fin:∀(ex:Ex) (dS:Fr) (cf:St),(ex=.normal\/ex=.ret)->code none (iM P c) {r:=yw .nil 0 args,n:=fn.ntmps,marks:=[]} {st with w:=[]}=some (ex,dS,cf)->
     (match shut cf dS.marks with
      |none=>none
      |some eF=>match fw dS.r eF rs with
       |some vs=>some (DK vs,{eF with w:=ax st.n eF.w++st.w})
       |none=>none)=some (v,aB)->
     CallsIn Fence.wide 0 P f ⟨xs⟩ w (Gp fun x w'=>∃μ' ws,VR μ' v x/\bQ P μ w st μ' w' aB ws):=by
    intro ex dS cf hex bX eK
    split at eK
    ·cases eK
    ·rename_i eF KF
     split at eK
     ·rename_i vs FB
      simp only[al,bF]at eK
      obtain⟨rfl,rfl⟩:=eK
      refine callsIn_of_wp_marks hf hb trivial (wpIn_mono (nN none c _ _ _ _ _ bX μ w _ none (hh.now []) ⟨Yiw hx (yp hle),rfl⟩ trivial) fun e a' w' hp=>?_)
      obtain⟨rfl,μ1,ws,hs,r_⟩:=hp
      have hl:LeavesInM Fence.wide 0 P fn a'.tmps (Gp fun x w'=>∃μ' ws,VR μ' (DK vs) x/\bQ P μ w st μ' w' {eF with w:=ax st.n eF.w++st.w} ws) a'.defers .returning w':=by
       refine Zwa hs.hr r_.2 KF fun w2 UJ nO=>?_
       obtain⟨x,sW,u_⟩:=Zuk nO.hr r_.1 UI FB
       exact⟨x,sW,μ1,_,u_,(hs.trans nO).fold hh⟩
      rcases hex with rfl|rfl
      ·exact hl
      ·exact hl
     ·cases eK
   unfold T7 at h
   split at h
   ·cases h
   ·rename_i ex dS cf bB bX
    exact fin ex dS cf (by cases ex with|normal=>exact .inl rfl|ret=>exact .inr rfl|exit id=>exact(bB id rfl).elim) (by assumption) h
   ·cases h
 ·cases hc
def Zpq:∀{ps:List Nat} {vs:List V} {r r':T V} {n:Nat} {tmps:Array Value} {xs:List Value},RR μ r n tmps->bb μ vs xs->BC r n ps vs=some r'->
  xs.length=ps.length/\RR μ r' n ((ps.zip xs).foldl (fun (tmps:Array Value) (p:Nat×Value)=>tmps.setIfInBounds p.1 p.2) tmps)
 |[],[],r,r',n,tmps,xs,hr,hx,h=>by
  simp only[bb]at hx;subst hx
  simp only[BC,al]at h;subst h
  exact⟨rfl,hr⟩
 |[],_::_,r,r',n,tmps,xs,hr,hx,h=>by simp[BC]at h
 |_::_,[],r,r',n,tmps,xs,hr,hx,h=>by simp[BC]at h
 |p::ps,v::vs,r,r',n,tmps,xs,hr,hx,h=>by
  obtain⟨y,ys,rfl,h1,h2⟩:=ke.1 hx
  simp only[BC]at h
  split at h
  ·rename_i hp
   obtain⟨g1,g2⟩:=Zpq (hr.set hp h1) h2 h
   exact⟨by simp[g1],by simpa using g2⟩
  ·cases h
def Yab(e:Ex):((qg e).bind zg).isNone=(qg e).isNone:=by cases e<;>rfl
def bQ.loop(hh:bA P μ w st){i:Nat}{l:L}(hl:μ i=some l){R R':JW}(hg:st.h.get i=some (.loop R))(h1:R'.r=R.r)(h2:R'.n=R.n)(h3:R'.ps=R.ps)(h4:R'.assign=R.assign)(h5:R'.body=R.body)(h6:R'.defs=R.defs):
  ∃rec,w.heap[l.b]?=some (.loop rec)/\rec.state=R.st/\rec.pending=R.eQ.bind zg/\
   bQ P μ w st μ (w.putObj l.b (.loop {rec with state:=R'.st,pending:=R'.eQ.bind zg})) (st.write i (.loop R')) [i]:=by
 obtain⟨fn,tmps,fI,fJ,ld,g1,g2,g3,g4,g5⟩:=hh.get hl hg
 refine⟨_,g1,rfl,rfl,bQ.write hh hl hg rfl rfl rfl rfl World.putObj_size (fun b hb=>World.putObj_heap_other hb) ⟨fn,tmps,fI,fJ,ld,?_,?_,?_,?_,?_⟩⟩
 ·rw[World.putObj_heap_same (hh.df i l hl).2,h3]
 ·rw[h1,h2];exact g2
 ·rw[h4];exact g3
 ·rw[h5];exact g4
 ·rw[h6];exact g5
def Yg2{code:pD}(nN:IN P code){l:Nat}{args:List V}{xs:List Value}{L0:L}(hh:bA P μ w st)(hl:μ l=some L0)(hx:bb μ args xs)(h:BD code l args st=some (v,aB)):
  ∃f tmps fI fJ,(Instr.yield L0.b ⟨xs⟩).run P w=.ok (.round L0.b f tmps fI fJ) w/\RoundIn Fence.wide 0 P L0.b f tmps fI fJ w (Gp fun x w'=>∃μ' ws,VR μ' v x/\bQ P μ w st μ' w' aB ws):=by
 unfold BD at h
 split at h
 ·rename_i R hg
  obtain⟨fn,tmps,fI,fJ,ld,g1,g2,g3,g4,g5⟩:=hh.get hl hg
  split at h
  ·cases h
  ·rename_i r0 eC
   obtain⟨q1,q2⟩:=Zpq g2 hx eC
   have hy:=run_yield (P:=P) (args:=⟨xs⟩) g1 (by simpa using q1)
   refine⟨_,_,_,_,hy,?_⟩
   have htm:(((⟨R.ps⟩:Array Nat).zip (⟨xs⟩:Array Value)).foldl (fun tmps (p:Nat×Value)=>tmps.setIfInBounds p.1 p.2) tmps)=(R.ps.zip xs).foldl (fun (tmps:Array Value) (p:Nat×Value)=>tmps.setIfInBounds p.1 p.2) tmps:=by simp
   refine roundIn_of_wpIn (F:=Fence.wide) trivial ?_
   split at h
   ·rename_i dS cf D3
    rw[<-g3]at D3
    refine wpIn_mono (nN (some l) fI _ _ _ _ _ D3 μ w {tmps:=(((⟨R.ps⟩:Array Nat).zip (⟨xs⟩:Array Value)).foldl (fun tmps (p:Nat×Value)=>tmps.setIfInBounds p.1 p.2) tmps),defers:=[]} (some L0.b) hh ⟨by rw[htm];exact q2,rfl⟩ ⟨L0,hl,rfl⟩) fun e a1 w1 hp=>?_
    have sI:=hp
    obtain⟨he,μ1,ws1,zO,r_⟩:=hp
    refine sI.then (fun _=>?_) (fun bB=>absurd rfl bB)
    split at h
    ·rename_i R1 hg1
     split at h
     ·rename_i Gq
      have D4:=zO.mono hh _ _ hl
      obtain⟨KG,k1,k2,k3,k4⟩:=bQ.loop (R':={R1 with st:=.busy}) zO.hr D4 hg1 rfl rfl rfl rfl rfl rfl
      refine⟨_,run_beginRound k1 (k2.trans Gq),?_⟩
      have A3:({KG with state:=LoopState.busy,pending:=R1.eQ.bind zg}:Loop)={KG with state:=.busy}:=by rw[<-k3]
      rw[A3]at k4
      split at h
      ·rename_i e2 yZ eF D5
       rw[<-g4]at D5
       refine wpIn_mono (nN (some l) fJ _ _ _ _ _ D5 μ1 _ a1 (some L0.b) k4.hr (r_.mono (k4.mono zO.hr)) ⟨L0,D4,rfl⟩) fun e a2 w2 yz=>?_
       obtain⟨uy,μ2,UJ,nO,c_⟩:=yz
       split at h
       ·rename_i R2 UK
        simp only[al,bF]at h
        obtain⟨rfl,rfl⟩:=h
        have kO:=nO.mono k4.hr _ _ D4
        obtain⟨UL,m1,m2,m3,m4⟩:=bQ.loop (R':={R2 with st:=HR (qg e2),eQ:=qg e2}) nO.hr kO UK rfl rfl rfl rfl rfl rfl
        have eK:=run_endRound (P:=P) ((qg e2).bind zg) m1
        have dH:(if ((qg e2).bind zg).isNone=true then LoopState.ready else LoopState.done)=HR (qg e2):=by cases e2<;>rfl
        rw[dH,Yab]at eK
        have hR:Gp (fun x w'=>∃μ' ws,VR μ' (.bool (qg e2).isNone) x/\bQ P μ w st μ' w' (eF.write l (.loop {R2 with st:=HR (qg e2),eQ:=qg e2})) ws) (.returned (.bool (qg e2).isNone))
          (w2.putObj L0.b (.loop {UL with state:=HR (qg e2),pending:=(qg e2).bind zg})):=
         ⟨μ2,_,by simp[VR],((zO.trans k4).trans nO).trans m4⟩
        subst uy
        cases e2 with
        |normal=>exact⟨_,_,eK,hR⟩
        |exit id=>exact⟨_,_,eK,hR⟩
        |ret=>exact⟨_,_,eK,hR⟩
       ·cases h
      ·cases h
     ·cases h
    ·cases h
   ·cases h
 ·cases h
def UM(P:Program)(dG:Nat->Option ku):Prop:=
 ∀f mf,dG f=some mf->x_ P f=some mf/\∀fn,P.funcs[f]?=some fn->(fn.name== "runtime.NumGoroutine")=false
def Zxw{f:FuncId}{mf:ku}(h:x_ P f=some mf):∃fn,P.funcs[f]?=some fn/\fn.body.isSome=true:=by
 unfold x_ at h
 split at h
 ·rename_i fn hf
  refine⟨fn,hf,?_⟩
  split at h
  ·rename_i hb _;rw[hb];rfl
  ·cases h
 ·cases h
def Zvt{dG:Nat->Option ku}{code:pD}(ht:UM P dG)(nN:IN P code):ji P (xN dG code):=by
 intro g args st v aB h μ w G xs hh hg hx
 unfold xN at h
 split at h
 ·rename_i f first fY
  split at h
  ·rename_i mf hmf
   obtain⟨a',c',rfl,h1,h2⟩:=hg
   obtain⟨hc,KH⟩:=ht f mf hmf
   obtain⟨fn,hf,hb⟩:=Zxw hc
   refine⟨{target:=.fn (.func f) ⟨c'⟩,args:=⟨a'⟩++⟨xs⟩},by simp[Deferred.ofValue],.inl ⟨rfl,f,⟨a'++xs++c'⟩,?_,?_⟩⟩
   ·have hn:fn.name≠ "runtime.NumGoroutine" :=by simpa using KH fn hf
    simp[invoke,callFunc,hf,hn]
    intro hq
    rw[hq]at hb
    cases hb
   ·exact Yea nN hf hc hh ((h1.append hx).append h2) h
  ·cases h
 ·rename_i l
  obtain⟨L0,hl,rfl⟩:=hg
  obtain⟨f,tmps,fI,fJ,q1,q2⟩:=Yg2 nN hh hl hx h
  refine⟨{target:=.fn (.yield L0.b) #[],args:=⟨xs⟩},by simp[Deferred.ofValue],.inr ⟨rfl,L0.b,f,tmps,fI,fJ,?_,q2⟩⟩
  simp[invoke,q1]
 ·cases h
def Zeu{a2:Act}{w4:World}{yZ:Fr}{jx:St}:∀(q:Option Ex),vc P μ w st (match q with|none=>.normal|some e=>e) yZ jx (IP (match q with|none=>.normal|some e=>e)) a2 w4->
  (match q.bind zg with
   |none=>vc P μ w st (match q with|none=>.normal|some e=>e) yZ jx .normal a2 w4
   |some c=>c.wpIn (FE lb) 0 P (vc P μ w st (match q with|none=>.normal|some e=>e) yZ jx) a2 w4)
 |none,h=>h
 |some .normal,h=>h
 |some (.exit _),h=>wpIn_exit h
 |some .ret,h=>wpIn_ret h
def Zwh(cj:ji P call):Yfu P call:=by
 intro ro g s ps fI fJ fr st ex bL aB hs h μ w a lb hh hf oJ
 unfold yY at h
 split at h
 ·cases h
 ·rename_i gv hgv
  have hG:=cU hh hf.1 hs hgv
  rw[Il]at h
  obtain⟨hy,h⟩:=h
  have ve:gv.Fo=false:=by simpa using hy
  split at h
  ·cases h
  ·rename_i cf d mk zaa
   split at h
   ·cases h
   ·rename_i x eF hc
    split at h
    ·rename_i R UK
     rw[Il]at h
     obtain⟨zan,h⟩:=h
     simp only[al,bF]at h
     obtain⟨rfl,rfl,rfl⟩:=h
     refine wpIn_rangeFunc fun fn _=>?_
     have common:∀(l:Nat) (mark:List Deferred) (w0:World) (μ0:Mu) (ws0:List Nat) (db:Nat),bQ P μ w st μ0 w0 cf ws0->l=w0.heap.size->(∃ld,μ0 d=some ld/\ld.b=db)->
       (Instr.enterLoop fn a.tmps ps fI fJ (FE lb).round).run P w=.ok (l,mark) (w0.alloc (.loop {state:=.ready,pending:=none,fn,tmps:=a.tmps,params:=ps,assign:=fI,body:=fJ,defers:=db}))->
       (∀ms ds,pc μ0 ms ds->pc μ0 (mk++ms) (mark++ds))->
       ∃(l:Nat) (mark:List Deferred) (w₁:World) (d:Deferred) (zj:World) (f:FuncId) (args:Array Value) (w₂:World),
        (Instr.enterLoop fn a.tmps ps fI fJ (FE lb).round).run P w=.ok (l,mark) w₁/\
        (resolve a.eval (rangeCall g l) 0).run P w₁=.ok d zj/\
        (∀f',Target.leads P zj d.target d.args=some f'->(FE lb).fn f')/\
        (invoke d.target d.args).run P zj=.ok (.enter f args) w₂/\
        ((FE lb).depth.isSome=true->1<=0)/\
        CallsIn (FE lb) (0-1) P f args w₂ (rangePost (FE lb) 0 P l (vc P μ w st (match R.eQ with|none=>.normal|some e=>e) {fr with marks:=mk++fr.marks} (eF.write cf.n (.loop {R with st:=.exhausted}))) {a with defers:=mark++a.defers}):=by
      intro l mark w0 μ0 ws0 db lZ fj hdb hent zE
      subst fj
      obtain⟨ld,sX,eX⟩:=hdb
      have fV:=lZ.mono hh
      have bB:d≠cf.n:=fun hc=>by have:=(lZ.hr.df d ld sX).1;omega
      have iB:bQ P μ0 w0 cf (fun i=>if i=cf.n then some ⟨w0.heap.size,0,0⟩ else μ0 i) (w0.alloc (.loop {state:=.ready,pending:=none,fn,tmps:=a.tmps,params:=ps,assign:=fI,body:=fJ,defers:=db}))
        (cf.alloc (.loop {st:=.ready,eQ:=none,r:=fr.r,n:=fr.n,ps:=ps.toList,assign:=iM P fI,body:=iM P fJ,defs:=d})) []:=by
       have dw:∀i l,μ0 i=some l->(fun i=>if i=cf.n then some (⟨w0.heap.size,0,0⟩:L) else μ0 i) i=some l:=fun i l hl=>by
        have:=(lZ.hr.df i l hl).1
        simp only
        rw[ar (by omega)];exact hl
       refine bQ.alloc lZ.hr _ (.loop {state:=.ready,pending:=none,fn,tmps:=a.tmps,params:=ps,assign:=fI,body:=fJ,defers:=db}) 0 0 ⟨fn,a.tmps,fI,fJ,ld,?_,(hf.1.mono fV).mono dw,rfl,rfl,?_⟩
       ·show (w0.heap.push _)[w0.heap.size]?=_
        simp[eX]
       ·simp only;rw[ar bB];exact sX
      have zO:=lZ.trans iB
      have mq:=zO.mono hh
      obtain⟨dd,pJ,gU⟩:=cj gv [.yield cf.n] _ x eF hc _ _ (a.eval g) [.func (.yield w0.heap.size) #[] #[]] iB.hr (VR.mono mq _ _ hG) (ke.2 ⟨_,[],rfl,⟨⟨w0.heap.size,0,0⟩,by simp,rfl⟩,by simp[bb]⟩)
      rcases gU with⟨_,f,args,hinv,IK⟩|⟨hyy,_⟩
      ·refine⟨w0.heap.size,mark,_,dd,_,f,args,_,hent,?_,fun _ _=>trivial,hinv,fun hx=>by simp[Fence.wide]at hx,?_⟩
       ·have e0:(#[Operand.const (.func (.yield w0.heap.size) #[] #[])]).map a.eval=(⟨[.func (.yield w0.heap.size) #[] #[]]⟩:Array Value):=by simp[Act.eval]
        simp only[resolve,e0]
        exact pJ
       ·refine CallsIn.mono (F:=Fence.wide) IK fun e w3 he=>?_
        cases e with
        |panicked _=>exact he.elim
        |outgrown=>exact he.elim
        |returned y=>
         obtain⟨μ2,UJ,_,nO⟩:=he
         have kO:μ2 cf.n=some ⟨w0.heap.size,0,0⟩:=nO.mono iB.hr _ _ (by simp)
         obtain⟨rec,m1,m2,m3,m4⟩:=bQ.loop (R':={R with st:=.exhausted}) nO.hr kO UK rfl rfl rfl rfl rfl rfl
         have eK:=run_endLoop (P:=P) m1 (by rw[m2];exact zan)
         have hsf:=(zO.trans nO).trans m4
         have zao:({rec with state:=.exhausted,pending:=R.eQ.bind zg}:Loop)={rec with state:=.exhausted}:=by rw[<-m3]
         rw[zao]at hsf
         have uY:mD μ2 {fr with marks:=mk++fr.marks} {a with defers:=mark++a.defers}:=by
          refine⟨(hf.1.mono mq).mono (nO.mono iB.hr),?_⟩
          exact((zE _ _ (hf.2.mono fV)).mono (iB.mono lZ.hr)).mono (nO.mono iB.hr)
         have fin:vc P μ w st (match R.eQ with|none=>.normal|some e=>e) {fr with marks:=mk++fr.marks} (eF.write cf.n (.loop {R with st:=.exhausted})) (IP (match R.eQ with|none=>.normal|some e=>e)) {a with defers:=mark++a.defers} _:=⟨rfl,μ2,_,hsf,uY⟩
         exact⟨R.eQ.bind zg,_,by rw[<-m3];exact eK,Zeu R.eQ fin⟩
      ·rw[ve]at hyy;cases hyy
     cases ro with
     |none=>
      cases lb with
      |some _=>exact oJ.elim
      |none=>
       simp only[Ob,al,bF]at zaa
       obtain⟨rfl,rfl,rfl⟩:=zaa
       have BE:bQ P μ w st (fun i=>if i=st.n then some ⟨w.heap.size,0,0⟩ else μ i) (w.alloc (.deferred (some []))) (st.alloc (.defs true)) []:=
        bQ.alloc hh (.defs true) (.deferred (some [])) 0 0 (by simp only[OM];show (w.heap.push _)[w.heap.size]?=_;simp)
       refine common (w.heap.size+1) [{target:=.collected w.heap.size,args:=#[]}] (w.alloc (.deferred (some []))) _ [] w.heap.size BE (by simp) ⟨⟨w.heap.size,0,0⟩,by simp,rfl⟩ (run_enterLoop_outer ..) fun ms ds hd=>⟨⟨w.heap.size,0,0⟩,ds,by simp,rfl,hd⟩
     |some l0=>
      cases lb with
      |none=>exact oJ.elim
      |some b=>
       obtain⟨L0,fj,rfl⟩:=oJ
       simp only[Ob]at zaa
       split at zaa
       ·rename_i R0 rY
        simp only[al,bF]at zaa
        obtain⟨rfl,rfl,rfl⟩:=zaa
        obtain⟨fn0,zaq,zaX,zaY,ld0,g1,g2,g3,g4,g5⟩:=hh.get fj rY
        refine common w.heap.size [] w μ [] ld0.b (bQ.refl hh) rfl ⟨ld0,g5,rfl⟩ ?_ (fun ms ds hd=>hd)
        show (Instr.enterLoop fn a.tmps ps fI fJ (some L0.b)).run P w=_
        unfold Instr.enterLoop
        simp only[Sem.run_bind,run_getLoop g1,run_newObj_alloc,Result.andThen,Sem.run_pure]
       ·cases zaa
    ·cases h
end
open Go Go.Conc
section
variable {P:Program} {μ:Mu} {w:World} {st aB:St} {fr bL:Fr} {a:Act} {call:cG} {v:V} {lb:Option Nat}
def Yj4(cj:ji P call)(hE:tC P):Yr4 P call:=fun id ops o rest d ch s z fr st ex bL aB zap UQ=>by cases UQ
end
end Go.Mx
