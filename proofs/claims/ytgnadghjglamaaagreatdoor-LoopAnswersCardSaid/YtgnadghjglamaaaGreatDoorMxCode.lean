/-The machine M's runs stand for the Go mo-/
import Derived.Test.YtgnadghjglamaaaGreatDoorMxOp11
set_option linter.all false
namespace Go.Mx
open Go
def exE:Ex→Exit
 |.normal=>.normal
 |.exit id=>.exit id
 |.ret=>.ret
def RoR(μ:Mu):Option Nat→Option Nat→Prop
 |none,none=>True
 |some l,some b=>∃L,μ l=some L∧L.b=b
 |_,_=>False
def RoR.mono{μ μ':Mu}(h:∀i l,μ i=some l→μ' i=some l){ro lb:Option Nat}(hr:RoR μ ro lb):RoR μ' ro lb:=by
 cases ro<;>cases lb<;>simp only[RoR]at*
 obtain⟨L,h1,h2⟩:=hr
 exact⟨L,h _ _ h1,h2⟩
def Zh8(P:Program)(μ:Mu)(w:World)(st:St)(ex:Ex)(fr':Fr)(st':St):Exit→Act→World→Prop:=fun e a' w'=>
 e=exE ex∧∃μ' ws,Stp P μ w st μ' w' st' ws∧FrR μ' fr' a'
section
variable {P:Program} {μ:Mu} {w:World} {st st':St} {fr fr':Fr} {a:Act} {call:Za1} {v:V} {lb:Option Nat}
def Ybc(hcall:Zbx P call)(hE:Zeo P){ops:Array Oper}{Q:Exit→Act→World→Prop}:∀(is:List Nat) (os:List Oper),is.map (fun i=>ops[i]?)=os.map some→
  ∀{st:St} {fr:Fr} {a:Act} {w:World} {μ:Mu},Zba P μ w st→FrR μ fr a→mops call (os.map (Zgn P ops)) fr st=some (fr',st')→
   (∀a' w' μ' ws,FrR μ' fr' a'→Stp P μ w st μ' w' st' ws→Q .normal a' w')→wpOpsIn (FE lb) 0 P ops Q is a w:=by
 intro is
 induction is with
 |nil=>
  intro os hos st fr a w μ hh hf h hQ
  cases os with
  |cons o os=>simp at hos
  |nil=>
   simp only[Yua,mops,Yhm,Yrs,Yrv]at h
   obtain⟨rfl,rfl⟩:=h
   exact hQ a w μ [] hf (Stp.refl hh)
 |cons i is ih=>
  intro os hos st fr a w μ hh hf h hQ
  cases os with
  |nil=>simp at hos
  |cons o os=>
   simp only[Ys1,Yse]at hos
   obtain⟨hoi,hos⟩:=hos
   simp only[Ys1,mops,Zic]at h
   unfold wpOpsIn
   rw[hoi]
   simp only[]
   have go:∀(v:V) (st1:St) (fr1:Fr) (x:Value) (w1:World) (μ1:Mu) (ws:List Nat),VR μ1 v x→Stp P μ w st μ1 w1 st1 ws→fr.put o.dst v=some fr1→mops call (os.map (Zgn P ops)) fr1 st1=some (fr',st')→
     wpOpsIn (FE lb) 0 P ops Q is (a.put o.dst x) w1:=by
    intro v st1 fr1 x w1 μ1 ws hv hs hp hm
    refine ih os hos hs.hr ((hf.mono (hs.mono hh)).put hv hp) hm fun a' w' μ' ws' hf' hs'=>?_
    exact hQ a' w' μ' _ hf' (hs.trans hs')
   unfold Zgn at h
   cases hg:Znn ops o.guard with
   |none=>
    rw[hg]at h
    simp only[wantedV,mop,Ztb]at h
    cases h
   |some g=>
    rw[hg]at h
    simp only at h
    cases hw:wantedV fr.r g with
    |none=>rw[hw]at h;cases h
    |some b=>
     rw[hw]at h
     have hwant:=Zob hf.1 hg hw
     cases b with
     |true=>
      rw[Yrw hwant]
      simp only at h
      split at h
      ·rename_i v1 st1 hm
       split at h
       ·rename_i fr1 hp
        exact Yjm hcall hE hh hf hm fun x w' μ' ws q1 q2=>go v1 st1 fr1 x w' μ' ws q1 q2 hp h
       ·cases h
      ·cases h
     |false=>
      rw[Yrt (by rw[hwant];simp)]
      simp only at h
      split at h
      ·rename_i fr1 hp
       exact⟨fun _ _=>trivial,go (.tup []) st fr1 undef w μ [] ⟨[],rfl,by simp[VRs]⟩ (Stp.refl hh) hp h⟩
      ·cases h
def Yal{ops:Array Oper}:(List.range ops.size).map (fun i=>ops[i]?)=ops.toList.map some:=by
 apply Ysw
 intro i
 simp only[Yso]
 by_cases h:i<ops.size
 ·simp[h]
 ·simp[h]
def Zn1{F:Fence}{n:Nat}{c:Code}{Q:Exit→Act→World→Prop}(J:Nat→Act→World→Prop)
  (round:∀f a w,J f a w→c.wpIn F n P (Exit.then (fun a' w'=>∃f',f'<f∧J f' a' w') Q) a w) {f:Nat} (h₀:J f a w):(Code.loop c).wpIn F n P Q a w:=by
 intro b k cs hro hb hr
 have key:∀j a w,J j a w→
   ∃e a' w',Q e a' w'∧ArrivesIn (Machine.fenced P F) P (lone (b.atR a (.code c::.inLoop c::k)) cs w) b k cs e a' w':=by
  intro j
  induction j using Nat.strongRecOn with
  |_ j ih=>
   intro a w hI
   obtain⟨e,a₁,w₁,hq,harr⟩:=round j a w hI b (.inLoop c::k) cs hro hb hr
   cases e with
   |normal=>
    obtain⟨f',hlt,hI₁⟩:=hq
    obtain⟨e₂,a₂,w₂,hq₂,harr₂⟩:=ih f' hlt a₁ w₁ hI₁
    exact⟨e₂,a₂,w₂,hq₂,.of_steps (StepsIn.trans harr (.one (fenced_calm hb hr rfl) stepR_inLoop)) harr₂⟩
   |exit id=>exact⟨_,a₁,w₁,hq,.pass (x:=.inLoop c) rfl (fun _ _=>.inl (by simp)) harr⟩
   |goto l=>exact⟨_,a₁,w₁,hq,.pass (x:=.inLoop c) rfl (fun _ _=>.inl (by simp)) harr⟩
   |ret=>exact⟨_,a₁,w₁,hq,.pass (x:=.inLoop c) rfl (fun _ _=>.inl (by simp)) harr⟩
   |panic ch=>exact⟨_,a₁,w₁,hq,.pass (x:=.inLoop c) rfl (fun _ _=>.inl (by simp)) harr⟩
   |outgrown=>exact⟨_,a₁,w₁,hq,.pass (x:=.inLoop c) rfl (fun _ _=>.inl (by simp)) harr⟩
 obtain⟨e,a',w',hq,harr⟩:=key _ a w h₀
 exact⟨e,a',w',hq,.of_steps (.one (fenced_calm hb hr rfl) stepR_loop) harr⟩
def Zdw{b:Frame}{k:List Item}{cs:List Frame}{c:Code}:
  step P (lone (b.atR a (.code (.scope c)::k)) cs w)=.next (lone (b.atR a (.code c::.inScope c::k)) cs w):=
 step_lone_go (by simp[stepG,stepG.exec,Frame.atR])
def Zpe{b:Frame}{k:List Item}{cs:List Frame}{c:Code}:
  step P (lone (b.atR a (.inScope c::k)) cs w)=.next (lone (b.atR a k) cs w):=
 step_lone_go (by simp[stepG,stepG.exec,Frame.atR])
def Zwt{F:Fence}{n:Nat}{c:Code}{Q:Exit→Act→World→Prop}(h:c.wpIn F n P Q a w)(hq:∀l a w,¬Q (.goto l) a w):(Code.scope c).wpIn F n P Q a w:=by
 intro b k cs hro hb hr
 have h0:(lone (b.atR a (.code (.scope c)::k)) cs w).fenced P F:=fenced_calm hb hr rfl
 obtain⟨e,a₁,w₁,hQ,harr⟩:=h b (.inScope c::k) cs hro hb hr
 cases e with
 |normal=>exact⟨.normal,a₁,w₁,hQ,.head h0 Zdw (StepsIn.trans harr (.one (fenced_calm hb hr rfl) Zpe))⟩
 |exit id=>
  have hx:exitTo id (.inScope c::k)=exitTo id k:=by simp[exitTo]
  exact⟨.exit id,a₁,w₁,hQ,fun k' hk=>.head h0 Zdw (harr.1 k' (by rw[hx];exact hk)),
   fun hr' hk=>let ⟨k₁,h1,h2⟩:=harr.2 hr' (by rw[hx];exact hk);⟨k₁,h1,.head h0 Zdw h2⟩⟩
 |goto l=>exact absurd hQ (hq l a₁ w₁)
 |ret=>exact⟨_,a₁,w₁,hQ,.of_steps (.one h0 Zdw) harr⟩
 |panic ch=>exact⟨_,a₁,w₁,hQ,.of_steps (.one h0 Zdw) harr⟩
 |outgrown=>exact⟨_,a₁,w₁,hQ,.of_steps (.one h0 Zdw) harr⟩
def Zh8.after{μ1:Mu}{w1:World}{st1:St}{ws:List Nat}(hs:Stp P μ w st μ1 w1 st1 ws){ex:Ex}{e:Exit}{a':Act}{w':World}(h:Zh8 P μ1 w1 st1 ex fr' st' e a' w'):Zh8 P μ w st ex fr' st' e a' w':=by
 obtain⟨h1,μ',ws',h2,h3⟩:=h
 exact⟨h1,μ',_,hs.trans h2,h3⟩
def Zh8.then{μ:Mu}{ex:Ex}{fr1:Fr}{st1:St}{K:Act→World→Prop}{Q:Exit→Act→World→Prop}{e:Exit}{a':Act}{w':World}(h:Zh8 P μ w st ex fr1 st1 e a' w')
  (hn:ex=.normal→K a' w') (hq:ex≠.normal→Q e a' w'):Exit.then K Q e a' w':=by
 obtain⟨rfl,h⟩:=h
 cases ex<;>simp only[exE,Exit.then]
 ·exact hn rfl
 ·exact hq (by simp)
 ·exact hq (by simp)
def Zo6(P:Program)(code:Zfu):Prop:=
 ∀(ro:Option Nat) (c:Code) (fr:Fr) (st:St) (ex:Ex) (fr':Fr) (st':St),code ro (Zcu P c) fr st=some (ex,fr',st')→
  ∀(μ:Mu) (w:World) (a:Act) (lb:Option Nat),Zba P μ w st→FrR μ fr a→RoR μ ro lb→c.wpIn (FE lb) 0 P (Zh8 P μ w st ex fr' st') a w
def Yif(P:Program)(call:Za1):Prop:=
 ∀(id:Nat) (ops:Array Oper) (fr:Fr) (st:St) (ex:Ex) (fr':Fr) (st':St),Yi9 P ops=true→Zhk (ops.toList.map (Zgn P ops)) (Zc5 ops.toList []) call Zl2 none fr st=some (ex,fr',st')→
  ∀(μ:Mu) (w:World) (a:Act) (lb:Option Nat),Zba P μ w st→FrR μ fr a→(Code.region id ops true).wpIn (FE lb) 0 P (Zh8 P μ w st ex fr' st') a w
def Ynn(P:Program)(call:Za1):Prop:=
 ∀(id:Nat) (ops:Array Oper) (o:Oper) (rest:List Oper) (d:Option Nat) (ch:Src) (s:Option Src) (z:V) (fr:Fr) (st:St) (ex:Ex) (fr':Fr) (st':St),ops.toList=o::rest→Yn4 P o=some (d,ch,s,z)→
  Zhj d ch s z (rest.map (Zgn P ops)) call Zl2 none fr st=some (ex,fr',st')→
  ∀(μ:Mu) (w:World) (a:Act) (lb:Option Nat),Zba P μ w st→FrR μ fr a→(Code.region id ops false).wpIn (FE lb) 0 P (Zh8 P μ w st ex fr' st') a w
def Ydx(P:Program)(call:Za1):Prop:=
 ∀(ro:Option Nat) (g:Operand) (s:Src) (ps:Array Nat) (asg bod:Code) (fr:Fr) (st:St) (ex:Ex) (fr':Fr) (st':St),Zbe P g=some s→
  Zet s ps.toList (Zcu P asg) (Zcu P bod) call Zl2 ro fr st=some (ex,fr',st')→
  ∀(μ:Mu) (w:World) (a:Act) (lb:Option Nat),Zba P μ w st→FrR μ fr a→RoR μ ro lb→(Code.rangeFunc g ps asg bod).wpIn (FE lb) 0 P (Zh8 P μ w st ex fr' st') a w
def Ydd(hcall:Zbx P call)(hE:Zeo P)(hD:Yif P call)(hS:Ynn P call)(hR:Ydx P call):∀fuel,Zo6 P (Zbh call fuel):=by
 intro fuel
 induction fuel using Nat.strongRecOn with
 |_ fuel ihs=>
 cases fuel with
 |zero=>intro ro c fr st ex fr' st' h;cases h
 |succ f=>
  have ih:Zo6 P (Zbh call f):=ihs f (Ys4 f)
  intro ro c fr st ex fr' st' h μ w a lb hh hf hro
  cases c with
  |skip=>
   simp only[Zcu,Zbh,Zbb,Ydk,Yrs,Yrv]at h
   obtain⟨rfl,rfl,rfl⟩:=h
   exact wpIn_skip ⟨rfl,μ,[],Stp.refl hh,hf⟩
  |label l=>
   simp only[Zcu,Zbh,Zbb,Ydk,Yrs,Yrv]at h
   obtain⟨rfl,rfl,rfl⟩:=h
   exact wpIn_label ⟨rfl,μ,[],Stp.refl hh,hf⟩
  |exit id=>
   simp only[Zcu,Zbh,Zbb,Yh9,Yrs,Yrv]at h
   obtain⟨rfl,rfl,rfl⟩:=h
   exact wpIn_exit ⟨rfl,μ,[],Stp.refl hh,hf⟩
  |ret=>
   simp only[Zcu,Zbh,Zbb,Yni,Yrs,Yrv]at h
   obtain⟨rfl,rfl,rfl⟩:=h
   exact wpIn_ret ⟨rfl,μ,[],Stp.refl hh,hf⟩
  |goto l=>simp only[Zcu,Zbh,Zbb,Zo2]at h;cases h
  |refuse why=>simp only[Zcu,Zbh,Zbb,Zo2]at h;cases h
  |region id ops draw=>
   cases draw with
   |true=>
    simp only[Zcu]at h
    split at h
    ·rename_i hp
     simp only[Zbh,Zbb]at h
     exact hD id ops fr st ex fr' st' hp h μ w a lb hh hf
    ·simp only[Zbh,Zbb,Zo2]at h;cases h
   |false=>
    have plain:Znm (ops.toList.map (Zgn P ops)) call (Zbh call f) ro fr st=some (ex,fr',st')→(Code.region id ops false).wpIn (FE lb) 0 P (Zh8 P μ w st ex fr' st') a w:=by
     intro h
     simp only[Znm]at h
     split at h
     ·rename_i fr1 st1 hm
      simp only[Yrs,Yrv]at h
      obtain⟨rfl,rfl,rfl⟩:=h
      exact wpIn_region (Ybc hcall hE _ _ Yal hh hf hm fun a' w' μ' ws q1 q2=>⟨rfl,μ',ws,q2,q1⟩)
     ·cases h
    simp only[Zcu,Zbh]at h
    split at h
    ·rename_i ho
     exact plain (by rw[ho];exact h)
    ·rename_i o rest ho
     split at h
     ·rename_i d ch s z hs
      exact hS id ops o rest d ch s z fr st ex fr' st' ho hs h μ w a lb hh hf
     ·exact plain (by rw[ho];exact h)
  |seq x y=>
   simp only[Zcu,Zbh,Zbb,Zn6]at h
   refine wpIn_seq ?_
   split at h
   ·rename_i fr1 st1 hx
    refine wpIn_mono (ih ro x fr st _ _ _ hx μ w a lb hh hf hro) fun e a' w' hp=>?_
    have hp0:=hp
    obtain⟨he,μ1,ws,hs,hf1⟩:=hp
    refine hp0.then (fun _=>?_) (fun hne=>absurd rfl hne)
    exact wpIn_mono (ih ro y fr1 st1 ex fr' st' h μ1 w' a' lb hs.hr hf1 (hro.mono (hs.mono hh))) fun e2 a2 w2 hp2=>hp2.after hs
   ·rename_i hx
    refine wpIn_mono (ih ro x fr st _ _ _ h μ w a lb hh hf hro) fun e a' w' hp=>?_
    refine hp.then (fun hn=>?_) (fun _=>hp)
    subst hn
    exact absurd h (hx fr' st')
  |cond x p q=>
   simp only[Zcu]at h
   split at h
   ·rename_i s hs
    simp only[Zbh,Zbb,Zfs]at h
    split at h
    ·rename_i hv
     have:=Zar hh hf.1 hs hv
     exact wpIn_cond_true (by simpa[VR]using this) (ih ro p fr st ex fr' st' h μ w a lb hh hf hro)
    ·rename_i hv
     have:=Zar hh hf.1 hs hv
     exact wpIn_cond_false (by simpa[VR]using this) (ih ro q fr st ex fr' st' h μ w a lb hh hf hro)
    ·cases h
   ·simp only[Zbh,Zbb,Zo2]at h;cases h
  |block id c=>
   simp only[Zcu,Zbh,Zbb,Zff]at h
   refine wpIn_block ?_
   split at h
   ·rename_i id' fr1 st1 hx
    refine wpIn_mono (ih ro c fr st _ _ _ hx μ w a lb hh hf hro) fun e a' w' hp=>?_
    obtain⟨rfl,hp⟩:=hp
    simp only[exE,Exit.inBlock]
    split at h
    ·rename_i hid
     simp only[Yrs,Yrv]at h
     obtain⟨rfl,rfl,rfl⟩:=h
     rw[Yrw (Yvh hid)]
     exact⟨rfl,hp⟩
    ·rename_i hid
     simp only[Yrs,Yrv]at h
     obtain⟨rfl,rfl,rfl⟩:=h
     rw[Yrt (Nat.ne_of_beq_eq_false hid)]
     exact⟨rfl,hp⟩
   ·rename_i hx
    refine wpIn_mono (ih ro c fr st _ _ _ h μ w a lb hh hf hro) fun e a' w' hp=>?_
    have hp0:=hp
    obtain⟨rfl,hp⟩:=hp
    cases ex with
    |normal=>exact hp0
    |ret=>exact hp0
    |exit id'=>exact absurd h (hx id' fr' st')
  |loop c=>
   refine Zn1 (fun k a1 w1=>k≤f+1∧∃fr1 st1 μ1 ws,Stp P μ w st μ1 w1 st1 ws∧FrR μ1 fr1 a1∧Zbh call k ro (.loop (Zcu P c)) fr1 st1=some (ex,fr',st')) ?_
    (f:=f+1) ⟨Yru _,fr,st,μ,[],Stp.refl hh,hf,h⟩
   intro k a1 w1 hJ
   obtain⟨hk,fr1,st1,μ1,ws,hs,hf1,hm⟩:=hJ
   cases k with
   |zero=>cases hm
   |succ k=>
    simp only[Zbh,Zbb,Zie]at hm
    have ihk:Zo6 P (Zbh call k):=ihs k (by omega)
    split at hm
    ·rename_i fr2 st2 hx
     refine wpIn_mono (ihk ro c fr1 st1 _ _ _ hx μ1 w1 a1 lb hs.hr hf1 (hro.mono (hs.mono hh))) fun e a' w' hp=>?_
     have hp0:=hp
     obtain⟨he,μ2,ws2,hs2,hf2⟩:=hp
     refine hp0.then (fun _=>?_) (fun hne=>absurd rfl hne)
     exact⟨k,Ys4 k,by omega,fr2,st2,μ2,_,hs.trans hs2,hf2,hm⟩
    ·rename_i hx
     refine wpIn_mono (ihk ro c fr1 st1 _ _ _ hm μ1 w1 a1 lb hs.hr hf1 (hro.mono (hs.mono hh))) fun e a' w' hp=>?_
     refine hp.then (fun hn=>?_) (fun _=>hp.after hs)
     subst hn
     exact absurd hm (hx fr' st')
  |scope c=>
   simp only[Zcu,Zbh,Zbb,Ydl]at h
   refine Zwt (ih ro c fr st ex fr' st' h μ w a lb hh hf hro) fun l a' w' hp=>?_
   obtain⟨he,_⟩:=hp
   cases ex<;>simp[exE]at he
  |rangeFunc g ps asg bod=>
   simp only[Zcu]at h
   split at h
   ·rename_i s hs
    simp only[Zbh,Zbb]at h
    exact hR ro g s ps asg bod fr st ex fr' st' hs h μ w a lb hh hf hro
   ·simp only[Zbh,Zbb,Zo2]at h;cases h
end
section
variable {P:Program} {μ:Mu} {w:World} {st st':St} {fr fr':Fr} {a:Act} {call:Za1} {v:V} {lb:Option Nat}
def Zmi:∀(vs:List V) (r:T V) (i t:Nat),(Zek r i vs).get t=if i≤t∧t<i+vs.length then vs[t-i]? else r.get t
 |[],r,i,t=>by simp[Zek];omega
 |v::vs,r,i,t=>by
  simp only[Zek]
  rw[Zmi vs (r.set i v) (i+1) t,T.get_set]
  by_cases h:t=i
  ·subst h
   rw[Yrt (by omega),Yrw rfl,Yrw (by simp)];simp
  ·by_cases h2:i+1≤t∧t<i+1+vs.length
   ·rw[Yrw h2,Yrw (by simp;omega)]
    rw[show t-i=(t-(i+1))+1 by omega];simp
   ·rw[Yrt h2,Yrt h,Yrt (by simp;omega)]
def Ygc{vs:List V}{xs:List Value}{n:Nat}(h:VRs μ vs xs)(hl:vs.length≤n):RR μ (Zek .nil 0 vs) n ((⟨xs⟩:Array Value)++Array.replicate (n-(⟨xs⟩:Array Value).size) undef):=by
 have hxl:=h.length
 refine⟨by simp;omega,fun t v hv=>?_⟩
 rw[Zmi]at hv
 split at hv
 ·rename_i ht
  simp only[Nat.sub_zero]at hv
  obtain⟨x,hx,hr⟩:=h.get hv
  refine⟨x,?_,hr⟩
  rw[Array.getElem?_append_left (by simp;omega)]
  simpa using hx
 ·simp[T.get]at hv
def Ynz(tmps:Array Value):ResultVar→Sem Value
 |.tmp t=>pure (tmps.getD t undef)
 |.cell a t=>do loadVar t (←asAddr (tmps.getD a undef))
def Zs7(hh:Zba P μ w st){r:T V}{n:Nat}{tmps:Array Value}(hr:RR μ r n tmps):∀{rs:List ResultVar} {ms:List Ylt},Yia P rs=some ms→∀{vs:List V},resV r st ms=some vs→
  ∃xs,(rs.mapM (Ynz tmps)).run P w=.ok xs w∧VRs μ vs xs
 |[],ms,hc,vs,hv=>by
  simp only[Yia,Yrs]at hc;subst hc
  simp only[resV,Yrs]at hv;subst hv
  exact⟨[],by simp,by simp[VRs]⟩
 |.tmp t::rs,ms,hc,vs,hv=>by
  simp only[Yia,Yr0]at hc
  obtain⟨ms',hc',rfl⟩:=hc
  simp only[resV]at hv
  split at hv
  ·rename_i u us hu hus
   simp only[Yrs]at hv;subst hv
   obtain⟨xs,h1,h2⟩:=Zs7 hh hr hc' hus
   obtain⟨x,hx,hxv⟩:=hr.2 _ _ hu
   refine⟨x::xs,?_,Zau.2 ⟨_,_,rfl,hxv,h2⟩⟩
   simp only[List.mapM_cons,Ynz,Sem.run_bind,Sem.run_pure,Result.andThen_ok,h1]
   simp[Ytt,hx]
  ·cases hv
 |.cell t ty::rs,ms,hc,vs,hv=>by
  simp only[Yia]at hc
  split at hc
  ·rename_i k ms' hk hc'
   simp only[Yrs]at hc;subst hc
   simp only[resV]at hv
   split at hv
   ·rename_i i o us hu hus
    split at hv
    ·rename_i c e rw' hrow
     split at hv
     ·rename_i u hpart
      simp only[Yrs]at hv;subst hv
      obtain⟨xs,h1,h2⟩:=Zs7 hh hr hc' hus
      obtain⟨x,hx,l,hl,rfl⟩:=hr.2 _ _ hu
      have hom:=hh.row hl hrow
      have hload:∃y,(loadVar ty ⟨l.b,l.d+o,none⟩).run P w=.ok y w∧VR μ u y:=by
       cases k with
       |none=>
        simp only[Zaj]at hpart
        obtain⟨y,hy,hv⟩:=hom.cell hpart
        exact⟨y,by simp[loadVar,Znx hk,Result.andThen,hy],hv⟩
       |some k=>
        simp only[Zaj]at hpart
        split at hpart
        ·rename_i q hq
         simp only[Yrs]at hpart;subst hpart
         obtain⟨ys,g1,_,g3,_⟩:=hom.seg hq
         exact⟨.agg ys.toArray,by simp[loadVar,(Zft hk).1,(Zft hk).2,Result.andThen,g3],ys,rfl,g1⟩
        ·cases hpart
      obtain⟨y,hy1,hy2⟩:=hload
      refine⟨y::xs,?_,Zau.2 ⟨_,_,rfl,hy2,h2⟩⟩
      have hx':tmps.getD t undef=.pointer (some ⟨l.b,l.d+o,none⟩):=by simp[Ytt,hx]
      have hasa:(asAddr (tmps.getD t undef)).run P w=.ok ⟨l.b,l.d+o,none⟩ w:=by rw[hx'];rfl
      simp only[List.mapM_cons,Ynz,Sem.run_bind,hasa,Sem.run_pure,Result.andThen_ok,hy1,h1]
     ·cases hv
    ·cases hv
   ·cases hv
  ·cases hc
def Zs6(hh:Zba P μ w st){r:T V}{n:Nat}{tmps:Array Value}(hr:RR μ r n tmps){fn:Func}{ms:List Ylt}(hc:Yia P fn.results.toList=some ms){vs:List V}(hv:resV r st ms=some vs):
  ∃x,(results fn tmps).run P w=.ok x w∧VR μ (Zqr vs) x:=by
 obtain⟨xs,h1,h2⟩:=Zs7 hh hr hc hv
 have hl:=h2.length
 refine⟨if h:xs.length=1 then xs[0] else .tuple ⟨xs⟩,?_,?_⟩
 ·show (do let vs ←fn.results.mapM (Ynz tmps);pure (if h:vs.size=1 then vs[0] else .tuple vs):Sem Value).run P w=_
  rw[Array.mapM_eq_mapM_toList]
  simp only[Sem.run_bind,Sem.run_map,h1,Result.andThen_ok,Sem.run_pure]
  rfl
 ·rcases vs with _|⟨u,_|⟨u',vs⟩⟩
  ·simp only[VRs]at h2;subst h2
   exact⟨[],rfl,by simp[VRs]⟩
  ·obtain⟨y,ys,rfl,g1,g2⟩:=Zau.1 h2
   simp only[VRs]at g2;subst g2
   exact g1
  ·rw[dif_neg (by rw[hl];simp)]
   exact⟨xs,rfl,h2⟩
def Zu1{fn:Func}{tmps:Array Value}{R:Ending→World→Prop}:∀{ms:List Nat} {ds:List Deferred} {st st2:St} {w:World},Zba P μ w st→Zn9 μ ms ds→shut st ms=some st2→
  (∀w' ws,Stp P μ w st μ w' st2 ws→∃v,(results fn tmps).run P w'=.ok v w'∧R (.returned v) w')→LeavesInM Fence.wide 0 P fn tmps R ds .returning w
 |[],ds,st,st2,w,hh,hd,hs,hR=>by
  simp only[Zn9]at hd;subst hd
  simp only[shut,Yrs]at hs;subst hs
  exact hR w [] (Stp.refl hh)
 |m::ms,ds,st,st2,w,hh,hd,hs,hR=>by
  obtain⟨l,ds',h1,rfl,h3⟩:=hd
  simp only[shut]at hs
  split at hs
  ·rename_i hg
   have hom:=hh.get h1 hg
   have hstp:Stp P μ w st μ (w.putObj l.b (.deferred none)) (st.write m (.defs false)) [m]:=
    Stp.write hh h1 hg rfl rfl rfl rfl (World.putObj_size) (fun b hb=>World.putObj_heap_other hb) (World.putObj_heap_same (hh.dom m l h1).2)
   refine⟨by simp,.inl ⟨l.b,_,rfl,run_takeDeferred hom,?_⟩⟩
   exact Zu1 hstp.hr h3 hs fun w' ws hs'=>hR w' _ (hstp.trans hs')
  ·cases hs
def Stp.fold{μ':Mu}{w':World}{ws:List Nat}(h0:Zba P μ w st)(h:Stp P μ w {st with w:=[]} μ' w' st' ws):Stp P μ w st μ' w' {st' with w:=Zae st.n st'.w++st.w} (Zae st.n st'.w):=by
 have hmem:∀(l:List Nat) (i:Nat),i<st.n→(i∈Zae st.n l↔i∈l):=by
  intro l i hi
  induction l with
  |nil=>simp[Zae]
  |cons j l ih=>
   simp only[Zae]
   split
   ·unfold Zfm
    split
    ·rename_i hc
     simp only[Yss,ih]
     simp only[Yvi]at hc
     constructor
     ·exact .inr
     ·rintro(rfl|h)
      ·exact ih.1 hc
      ·exact h
    ·simp only[Yss,ih]
   ·simp only[Yss,ih]
    constructor
    ·exact .inr
    ·rintro(rfl|h)
     ·omega
     ·exact h
 have hwl:st'.w=ws:=by have:=h.wl;simpa using this
 have hs:∀i,i<st.n→(i∈Zae st.n st'.w↔i∈ws):=fun i hi=>by rw[hmem _ i hi,hwl]
 exact {
  hr:=⟨h.hr.dom,h.hr.obj,h.hr.inj,h.hr.glob⟩
  ext:=h.ext
  nle:=h.nle
  wl:=rfl
  chg:=⟨h.chg.os,h.chg.tape,h.chg.output,h.chg.size,fun b hb hnot=>h.chg.block b hb fun i hi l hl=>hnot i ((hs i (h0.dom i l hl).1).2 hi) l hl⟩
  new:=fun i l hi hl=>by
   rcases h.new i l hi hl with h'|⟨j,hj,hjn,r⟩
   ·exact .inl h'
   ·exact .inr ⟨j,(hs j hjn).2 hj,hjn,r⟩
  keep:=fun i hi hnot=>h.keep i hi fun hc=>hnot ((hs i hi).2 hc)
  grow:=h.grow
  full:=h.full
  wrt:=fun i hi hn=>h.wrt i ((hs i hn).1 hi) hn}
def Zba.now(h:Zba P μ w st)(l:List Nat):Zba P μ w {st with w:=l}:=⟨h.dom,h.obj,h.inj,h.glob⟩
def Yci{code:Zfu}(hcode:Zo6 P code){f:FuncId}{fn:Func}{mf:Zej}(hf:P.funcs[f]?=some fn)(hc:Zlk P f=some mf){args:List V}{xs:List Value}(hh:Zba P μ w st)(hx:VRs μ args xs)
  (h:Zgf mf code args st=some (v,st')):CallsIn Fence.wide 0 P f ⟨xs⟩ w (Yi7 fun x w'=>∃μ' ws,VR μ' v x∧Stp P μ w st μ' w' st' ws):=by
 unfold Zlk at hc
 rw[hf]at hc
 simp only at hc
 split at hc
 ·rename_i c rs hb hrs
  simp only[Yrs]at hc;subst hc
  unfold Zgf at h
  split at h
  ·cases h
  ·rename_i hle
   simp only at hle h
   have fin:∀(ex:Ex) (fr1:Fr) (st1:St),(ex=.normal∨ex=.ret)→code none (Zcu P c) {r:=Zek .nil 0 args,n:=fn.ntmps,marks:=[]} {st with w:=[]}=some (ex,fr1,st1)→
     (match shut st1 fr1.marks with
      |none=>none
      |some st2=>match resV fr1.r st2 rs with
       |some vs=>some (Zqr vs,{st2 with w:=Zae st.n st2.w++st.w})
       |none=>none)=some (v,st')→
     CallsIn Fence.wide 0 P f ⟨xs⟩ w (Yi7 fun x w'=>∃μ' ws,VR μ' v x∧Stp P μ w st μ' w' st' ws):=by
    intro ex fr1 st1 hex hrun hend
    split at hend
    ·cases hend
    ·rename_i st2 hshut
     split at hend
     ·rename_i vs hvs
      simp only[Yrs,Yrv]at hend
      obtain⟨rfl,rfl⟩:=hend
      refine callsIn_of_wp_marks hf hb trivial (wpIn_mono (hcode none c _ _ _ _ _ hrun μ w _ none (hh.now []) ⟨Ygc hx (Ytr hle),rfl⟩ trivial) fun e a' w' hp=>?_)
      obtain⟨rfl,μ1,ws,hs,hf1⟩:=hp
      have hl:LeavesInM Fence.wide 0 P fn a'.tmps (Yi7 fun x w'=>∃μ' ws,VR μ' (Zqr vs) x∧Stp P μ w st μ' w' {st2 with w:=Zae st.n st2.w++st.w} ws) a'.defers .returning w':=by
       refine Zu1 hs.hr hf1.2 hshut fun w2 ws2 hs2=>?_
       obtain⟨x,hx1,hx2⟩:=Zs6 hs2.hr hf1.1 hrs hvs
       exact⟨x,hx1,μ1,_,hx2,(hs.trans hs2).fold hh⟩
      rcases hex with rfl|rfl
      ·exact hl
      ·exact hl
     ·cases hend
   unfold Zt5 at h
   split at h
   ·cases h
   ·rename_i ex fr1 st1 hne hrun
    exact fin ex fr1 st1 (by cases ex with|normal=>exact .inl rfl|ret=>exact .inr rfl|exit id=>exact(hne id rfl).elim) (by assumption) h
   ·cases h
 ·cases hc
def Zol:∀{ps:List Nat} {vs:List V} {r r':T V} {n:Nat} {tmps:Array Value} {xs:List Value},RR μ r n tmps→VRs μ vs xs→Zmm r n ps vs=some r'→
  xs.length=ps.length∧RR μ r' n ((ps.zip xs).foldl (fun (tmps:Array Value) (p:Nat×Value)=>tmps.setIfInBounds p.1 p.2) tmps)
 |[],[],r,r',n,tmps,xs,hr,hx,h=>by
  simp only[VRs]at hx;subst hx
  simp only[Zmm,Yrs]at h;subst h
  exact⟨rfl,hr⟩
 |[],_::_,r,r',n,tmps,xs,hr,hx,h=>by simp[Zmm]at h
 |_::_,[],r,r',n,tmps,xs,hr,hx,h=>by simp[Zmm]at h
 |p::ps,v::vs,r,r',n,tmps,xs,hr,hx,h=>by
  obtain⟨y,ys,rfl,h1,h2⟩:=Zau.1 hx
  simp only[Zmm]at h
  split at h
  ·rename_i hp
   obtain⟨g1,g2⟩:=Zol (hr.set hp h1) h2 h
   exact⟨by simp[g1],by simpa using g2⟩
  ·cases h
def Zyw(e:Ex):((Zen e).bind exJ).isNone=(Zen e).isNone:=by cases e<;>rfl
def Stp.loop(hh:Zba P μ w st){i:Nat}{l:L}(hl:μ i=some l){R R':Ynr}(hg:st.h.get i=some (.loop R))(h1:R'.r=R.r)(h2:R'.n=R.n)(h3:R'.ps=R.ps)(h4:R'.assign=R.assign)(h5:R'.body=R.body)(h6:R'.defs=R.defs):
  ∃rec,w.heap[l.b]?=some (.loop rec)∧rec.state=R.st∧rec.pending=R.pend.bind exJ∧
   Stp P μ w st μ (w.putObj l.b (.loop {rec with state:=R'.st,pending:=R'.pend.bind exJ})) (st.write i (.loop R')) [i]:=by
 obtain⟨fn,tmps,asg,bod,ld,g1,g2,g3,g4,g5⟩:=hh.get hl hg
 refine⟨_,g1,rfl,rfl,Stp.write hh hl hg rfl rfl rfl rfl World.putObj_size (fun b hb=>World.putObj_heap_other hb) ⟨fn,tmps,asg,bod,ld,?_,?_,?_,?_,?_⟩⟩
 ·rw[World.putObj_heap_same (hh.dom i l hl).2,h3]
 ·rw[h1,h2];exact g2
 ·rw[h4];exact g3
 ·rw[h5];exact g4
 ·rw[h6];exact g5
def Ye3{code:Zfu}(hcode:Zo6 P code){l:Nat}{args:List V}{xs:List Value}{L0:L}(hh:Zba P μ w st)(hl:μ l=some L0)(hx:VRs μ args xs)(h:Zf6 code l args st=some (v,st')):
  ∃f tmps asg bod,(Instr.yield L0.b ⟨xs⟩).run P w=.ok (.round L0.b f tmps asg bod) w∧RoundIn Fence.wide 0 P L0.b f tmps asg bod w (Yi7 fun x w'=>∃μ' ws,VR μ' v x∧Stp P μ w st μ' w' st' ws):=by
 unfold Zf6 at h
 split at h
 ·rename_i R hg
  obtain⟨fn,tmps,asg,bod,ld,g1,g2,g3,g4,g5⟩:=hh.get hl hg
  split at h
  ·cases h
  ·rename_i r0 hr0
   obtain⟨q1,q2⟩:=Zol g2 hx hr0
   have hy:=run_yield (P:=P) (args:=⟨xs⟩) g1 (by simpa using q1)
   refine⟨_,_,_,_,hy,?_⟩
   have htm:(((⟨R.ps⟩:Array Nat).zip (⟨xs⟩:Array Value)).foldl (fun tmps (p:Nat×Value)=>tmps.setIfInBounds p.1 p.2) tmps)=(R.ps.zip xs).foldl (fun (tmps:Array Value) (p:Nat×Value)=>tmps.setIfInBounds p.1 p.2) tmps:=by simp
   refine roundIn_of_wpIn (F:=Fence.wide) trivial ?_
   split at h
   ·rename_i fr1 st1 hrun1
    rw[←g3]at hrun1
    refine wpIn_mono (hcode (some l) asg _ _ _ _ _ hrun1 μ w {tmps:=(((⟨R.ps⟩:Array Nat).zip (⟨xs⟩:Array Value)).foldl (fun tmps (p:Nat×Value)=>tmps.setIfInBounds p.1 p.2) tmps),defers:=[]} (some L0.b) hh ⟨by rw[htm];exact q2,rfl⟩ ⟨L0,hl,rfl⟩) fun e a1 w1 hp=>?_
    have hp0:=hp
    obtain⟨he,μ1,ws1,hs1,hf1⟩:=hp
    refine hp0.then (fun _=>?_) (fun hne=>absurd rfl hne)
    split at h
    ·rename_i R1 hg1
     split at h
     ·rename_i hready
      have hl1:=hs1.mono hh _ _ hl
      obtain⟨rec1,k1,k2,k3,k4⟩:=Stp.loop (R':={R1 with st:=.busy}) hs1.hr hl1 hg1 rfl rfl rfl rfl rfl rfl
      refine⟨_,run_beginRound k1 (k2.trans hready),?_⟩
      have hw2:({rec1 with state:=LoopState.busy,pending:=R1.pend.bind exJ}:Loop)={rec1 with state:=.busy}:=by rw[←k3]
      rw[hw2]at k4
      split at h
      ·rename_i e2 fr2 st2 hrun2
       rw[←g4]at hrun2
       refine wpIn_mono (hcode (some l) bod _ _ _ _ _ hrun2 μ1 _ a1 (some L0.b) k4.hr (hf1.mono (k4.mono hs1.hr)) ⟨L0,hl1,rfl⟩) fun e a2 w2 hp2=>?_
       obtain⟨he2,μ2,ws2,hs2,hf2⟩:=hp2
       split at h
       ·rename_i R2 hg2
        simp only[Yrs,Yrv]at h
        obtain⟨rfl,rfl⟩:=h
        have hl2:=hs2.mono k4.hr _ _ hl1
        obtain⟨rec2,m1,m2,m3,m4⟩:=Stp.loop (R':={R2 with st:=Zg8 (Zen e2),pend:=Zen e2}) hs2.hr hl2 hg2 rfl rfl rfl rfl rfl rfl
        have hend:=run_endRound (P:=P) ((Zen e2).bind exJ) m1
        have hst:(if ((Zen e2).bind exJ).isNone=true then LoopState.ready else LoopState.done)=Zg8 (Zen e2):=by cases e2<;>rfl
        rw[hst,Zyw]at hend
        have hR:Yi7 (fun x w'=>∃μ' ws,VR μ' (.bool (Zen e2).isNone) x∧Stp P μ w st μ' w' (st2.write l (.loop {R2 with st:=Zg8 (Zen e2),pend:=Zen e2})) ws) (.returned (.bool (Zen e2).isNone))
          (w2.putObj L0.b (.loop {rec2 with state:=Zg8 (Zen e2),pending:=(Zen e2).bind exJ})):=
         ⟨μ2,_,by simp[VR],((hs1.trans k4).trans hs2).trans m4⟩
        subst he2
        cases e2 with
        |normal=>exact⟨_,_,hend,hR⟩
        |exit id=>exact⟨_,_,hend,hR⟩
        |ret=>exact⟨_,_,hend,hR⟩
       ·cases h
      ·cases h
     ·cases h
    ·cases h
   ·cases h
 ·cases h
def Zus(P:Program)(tbl:Nat→Option Zej):Prop:=
 ∀f mf,tbl f=some mf→Zlk P f=some mf∧∀fn,P.funcs[f]?=some fn→(fn.name== "runtime.NumGoroutine")=false
def Zwi{f:FuncId}{mf:Zej}(h:Zlk P f=some mf):∃fn,P.funcs[f]?=some fn∧fn.body.isSome=true:=by
 unfold Zlk at h
 split at h
 ·rename_i fn hf
  refine⟨fn,hf,?_⟩
  split at h
  ·rename_i hb _;rw[hb];rfl
  ·cases h
 ·cases h
def Zuk{tbl:Nat→Option Zej}{code:Zfu}(ht:Zus P tbl)(hcode:Zo6 P code):Zbx P (Zcq tbl code):=by
 intro g args st v st' h μ w G xs hh hg hx
 unfold Zcq at h
 split at h
 ·rename_i f first caps
  split at h
  ·rename_i mf hmf
   obtain⟨a',c',rfl,h1,h2⟩:=hg
   obtain⟨hc,hname⟩:=ht f mf hmf
   obtain⟨fn,hf,hb⟩:=Zwi hc
   refine⟨{target:=.fn (.func f) ⟨c'⟩,args:=⟨a'⟩++⟨xs⟩},by simp[Deferred.ofValue],.inl ⟨rfl,f,⟨a'++xs++c'⟩,?_,?_⟩⟩
   ·have hn:fn.name≠ "runtime.NumGoroutine" :=by simpa using hname fn hf
    simp[invoke,callFunc,hf,hn]
    intro hq
    rw[hq]at hb
    cases hb
   ·exact Yci hcode hf hc hh ((h1.append hx).append h2) h
  ·cases h
 ·rename_i l
  obtain⟨L0,hl,rfl⟩:=hg
  obtain⟨f,tmps,asg,bod,q1,q2⟩:=Ye3 hcode hh hl hx h
  refine⟨{target:=.fn (.yield L0.b) #[],args:=⟨xs⟩},by simp[Deferred.ofValue],.inr ⟨rfl,L0.b,f,tmps,asg,bod,?_,q2⟩⟩
  simp[invoke,q1]
 ·cases h
def Yji{a2:Act}{w4:World}{fr2:Fr}{stf:St}:∀(q:Option Ex),Zh8 P μ w st (match q with|none=>.normal|some e=>e) fr2 stf (exE (match q with|none=>.normal|some e=>e)) a2 w4→
  (match q.bind exJ with
   |none=>Zh8 P μ w st (match q with|none=>.normal|some e=>e) fr2 stf .normal a2 w4
   |some c=>c.wpIn (FE lb) 0 P (Zh8 P μ w st (match q with|none=>.normal|some e=>e) fr2 stf) a2 w4)
 |none,h=>h
 |some .normal,h=>h
 |some (.exit _),h=>wpIn_exit h
 |some .ret,h=>wpIn_ret h
def Zu6(hcall:Zbx P call):Ydx P call:=by
 intro ro g s ps asg bod fr st ex fr' st' hs h μ w a lb hh hf hro
 unfold Zet at h
 split at h
 ·cases h
 ·rename_i gv hgv
  have hG:=Zar hh hf.1 hs hgv
  rw[Yt4]at h
  obtain⟨hy,h⟩:=h
  have hy':gv.isY=false:=by simpa using hy
  split at h
  ·cases h
  ·rename_i st1 d mk hstart
   split at h
   ·cases h
   ·rename_i x st2 hc
    split at h
    ·rename_i R hg2
     rw[Yt4]at h
     obtain⟨hbusy,h⟩:=h
     simp only[Yrs,Yrv]at h
     obtain⟨rfl,rfl,rfl⟩:=h
     refine wpIn_rangeFunc fun fn _=>?_
     have common:∀(l:Nat) (mark:List Deferred) (w0:World) (μ0:Mu) (ws0:List Nat) (db:Nat),Stp P μ w st μ0 w0 st1 ws0→l=w0.heap.size→(∃ld,μ0 d=some ld∧ld.b=db)→
       (Instr.enterLoop fn a.tmps ps asg bod (FE lb).round).run P w=.ok (l,mark) (w0.alloc (.loop {state:=.ready,pending:=none,fn,tmps:=a.tmps,params:=ps,assign:=asg,body:=bod,defers:=db}))→
       (∀ms ds,Zn9 μ0 ms ds→Zn9 μ0 (mk++ms) (mark++ds))→
       ∃(l:Nat) (mark:List Deferred) (w₁:World) (d:Deferred) (w₁':World) (f:FuncId) (args:Array Value) (w₂:World),
        (Instr.enterLoop fn a.tmps ps asg bod (FE lb).round).run P w=.ok (l,mark) w₁∧
        (resolve a.eval (rangeCall g l) 0).run P w₁=.ok d w₁'∧
        (∀f',Target.leads P w₁' d.target d.args=some f'→(FE lb).fn f')∧
        (invoke d.target d.args).run P w₁'=.ok (.enter f args) w₂∧
        ((FE lb).depth.isSome=true→1≤0)∧
        CallsIn (FE lb) (0-1) P f args w₂ (rangePost (FE lb) 0 P l (Zh8 P μ w st (match R.pend with|none=>.normal|some e=>e) {fr with marks:=mk++fr.marks} (st2.write st1.n (.loop {R with st:=.exhausted}))) {a with defers:=mark++a.defers}):=by
      intro l mark w0 μ0 ws0 db hs0 hl0 hdb hent hdef
      subst hl0
      obtain⟨ld,hd1,hd2⟩:=hdb
      have hm0:=hs0.mono hh
      have hne:d≠st1.n:=fun hc=>by have:=(hs0.hr.dom d ld hd1).1;omega
      have hst1:Stp P μ0 w0 st1 (fun i=>if i=st1.n then some ⟨w0.heap.size,0,0⟩ else μ0 i) (w0.alloc (.loop {state:=.ready,pending:=none,fn,tmps:=a.tmps,params:=ps,assign:=asg,body:=bod,defers:=db}))
        (st1.alloc (.loop {st:=.ready,pend:=none,r:=fr.r,n:=fr.n,ps:=ps.toList,assign:=Zcu P asg,body:=Zcu P bod,defs:=d})) []:=by
       have hmono:∀i l,μ0 i=some l→(fun i=>if i=st1.n then some (⟨w0.heap.size,0,0⟩:L) else μ0 i) i=some l:=fun i l hl=>by
        have:=(hs0.hr.dom i l hl).1
        simp only
        rw[Yrt (by omega)];exact hl
       refine Stp.alloc hs0.hr _ (.loop {state:=.ready,pending:=none,fn,tmps:=a.tmps,params:=ps,assign:=asg,body:=bod,defers:=db}) 0 0 ⟨fn,a.tmps,asg,bod,ld,?_,(hf.1.mono hm0).mono hmono,rfl,rfl,?_⟩
       ·show (w0.heap.push _)[w0.heap.size]?=_
        simp[hd2]
       ·simp only;rw[Yrt hne];exact hd1
      have hs1:=hs0.trans hst1
      have hm1:=hs1.mono hh
      obtain⟨dd,hdd,hrest⟩:=hcall gv [.yield st1.n] _ x st2 hc _ _ (a.eval g) [.func (.yield w0.heap.size) #[] #[]] hst1.hr (VR.mono hm1 _ _ hG) (Zau.2 ⟨_,[],rfl,⟨⟨w0.heap.size,0,0⟩,by simp,rfl⟩,by simp[VRs]⟩)
      rcases hrest with⟨_,f,args,hinv,hci⟩|⟨hyy,_⟩
      ·refine⟨w0.heap.size,mark,_,dd,_,f,args,_,hent,?_,fun _ _=>trivial,hinv,fun hx=>by simp[Fence.wide]at hx,?_⟩
       ·have e0:(#[Operand.const (.func (.yield w0.heap.size) #[] #[])]).map a.eval=(⟨[.func (.yield w0.heap.size) #[] #[]]⟩:Array Value):=by simp[Act.eval]
        simp only[resolve,e0]
        exact hdd
       ·refine CallsIn.mono (F:=Fence.wide) hci fun e w3 he=>?_
        cases e with
        |panicked _=>exact he.elim
        |outgrown=>exact he.elim
        |returned y=>
         obtain⟨μ2,ws2,_,hs2⟩:=he
         have hl2:μ2 st1.n=some ⟨w0.heap.size,0,0⟩:=hs2.mono hst1.hr _ _ (by simp)
         obtain⟨rec,m1,m2,m3,m4⟩:=Stp.loop (R':={R with st:=.exhausted}) hs2.hr hl2 hg2 rfl rfl rfl rfl rfl rfl
         have hend:=run_endLoop (P:=P) m1 (by rw[m2];exact hbusy)
         have hsf:=(hs1.trans hs2).trans m4
         have hrec:({rec with state:=.exhausted,pending:=R.pend.bind exJ}:Loop)={rec with state:=.exhausted}:=by rw[←m3]
         rw[hrec]at hsf
         have hfr:FrR μ2 {fr with marks:=mk++fr.marks} {a with defers:=mark++a.defers}:=by
          refine⟨(hf.1.mono hm1).mono (hs2.mono hst1.hr),?_⟩
          exact((hdef _ _ (hf.2.mono hm0)).mono (hst1.mono hs0.hr)).mono (hs2.mono hst1.hr)
         have fin:Zh8 P μ w st (match R.pend with|none=>.normal|some e=>e) {fr with marks:=mk++fr.marks} (st2.write st1.n (.loop {R with st:=.exhausted})) (exE (match R.pend with|none=>.normal|some e=>e)) {a with defers:=mark++a.defers} _:=⟨rfl,μ2,_,hsf,hfr⟩
         exact⟨R.pend.bind exJ,_,by rw[←m3];exact hend,Yji R.pend fin⟩
      ·rw[hy']at hyy;cases hyy
     cases ro with
     |none=>
      cases lb with
      |some _=>exact hro.elim
      |none=>
       simp only[Zs5,Yrs,Yrv]at hstart
       obtain⟨rfl,rfl,rfl⟩:=hstart
       have hst0:Stp P μ w st (fun i=>if i=st.n then some ⟨w.heap.size,0,0⟩ else μ i) (w.alloc (.deferred (some []))) (st.alloc (.defs true)) []:=
        Stp.alloc hh (.defs true) (.deferred (some [])) 0 0 (by simp only[OM];show (w.heap.push _)[w.heap.size]?=_;simp)
       refine common (w.heap.size+1) [{target:=.collected w.heap.size,args:=#[]}] (w.alloc (.deferred (some []))) _ [] w.heap.size hst0 (by simp) ⟨⟨w.heap.size,0,0⟩,by simp,rfl⟩ (run_enterLoop_outer ..) fun ms ds hd=>⟨⟨w.heap.size,0,0⟩,ds,by simp,rfl,hd⟩
     |some l0=>
      cases lb with
      |none=>exact hro.elim
      |some b=>
       obtain⟨L0,hl0,rfl⟩:=hro
       simp only[Zs5]at hstart
       split at hstart
       ·rename_i R0 hg0
        simp only[Yrs,Yrv]at hstart
        obtain⟨rfl,rfl,rfl⟩:=hstart
        obtain⟨fn0,tmps0,asg0,bod0,ld0,g1,g2,g3,g4,g5⟩:=hh.get hl0 hg0
        refine common w.heap.size [] w μ [] ld0.b (Stp.refl hh) rfl ⟨ld0,g5,rfl⟩ ?_ (fun ms ds hd=>hd)
        show (Instr.enterLoop fn a.tmps ps asg bod (some L0.b)).run P w=_
        unfold Instr.enterLoop
        simp only[Sem.run_bind,run_getLoop g1,run_newObj_alloc,Result.andThen,Sem.run_pure]
       ·cases hstart
    ·cases h
end
end Go.Mx
