/-The machine M's runs stand for the Go mo-/
import Derived.Test.YtjjmkflbfpeagaaGreatDoorMxOp11
set_option linter.all false
namespace Go.Mx
open Go
def Gi:Ex->Exit
 |.normal=>.normal
 |.exit id=>.exit id
 |.ret=>.ret
def Gj(μ:Mu):Option Nat->Option Nat->Prop
 |none,none=>True
 |some l,some b=>∃L,μ l=some L/\L.b=b
 |_,_=>False
def Gj.mono{μ μ':Mu}(h:∀i l,μ i=some l->μ' i=some l){ro lb:Option Nat}(hr:Gj μ ro lb):Gj μ' ro lb:=by
 cases ro<;>cases lb<;>simp only[Gj]at*
 obtain⟨L,h1,h2⟩:=hr
 exact⟨L,h _ _ h1,h2⟩
def rm(P:Program)(μ:Mu)(w:World)(st:St)(ex:Ex)(bB:Fr)(ax:St):Exit->Act->World->Prop:=fun e a' w'=>
 e=Gi ex/\∃μ' ws,bA P μ w st μ' w' ax ws/\kr μ' bB a'
section
variable {P:Program} {μ:Mu} {w:World} {st ax:St} {fr bB:Fr} {a:Act} {call:cH} {v:V} {lb:Option Nat}
def Yo(bR:iO P call)(hE:rn P){ops:Array Oper}{Q:Exit->Act->World->Prop}:∀(is:List Nat) (os:List Oper),is.map (fun i=>ops[i]?)=os.map some->
  ∀{st:St} {fr:Fr} {a:Act} {w:World} {μ:Mu},a_ P μ w st->kr μ fr a->dm call (os.map (oX P ops)) fr st=some (bB,ax)->
   (∀a' w' μ' ws,kr μ' bB a'->bA P μ w st μ' w' ax ws->Q .normal a' w')->wpOpsIn (FE lb) 0 P ops Q is a w:=by
 intro is
 induction is with
 |nil=>
  intro os xo st fr a w μ hh hf h hQ
  cases os with
  |cons o os=>simp at xo
  |nil=>
   simp only[rV,dm,Yp,ak,bh]at h
   obtain⟨rfl,rfl⟩:=h
   exact hQ a w μ [] hf (bA.refl hh)
 |cons i is ih=>
  intro os xo st fr a w μ hh hf h hQ
  cases os with
  |nil=>simp at xo
  |cons o os=>
   simp only[km,iB]at xo
   obtain⟨hoi,xo⟩:=xo
   simp only[km,dm,zg]at h
   unfold wpOpsIn
   rw[hoi]
   simp only[]
   have go:∀(v:V) (bU:St) (dE:Fr) (x:Value) (w1:World) (μ1:Mu) (ws:List Nat),VR μ1 v x->bA P μ w st μ1 w1 bU ws->fr.put o.dst v=some dE->dm call (os.map (oX P ops)) dE bU=some (bB,ax)->
     wpOpsIn (FE lb) 0 P ops Q is (a.put o.dst x) w1:=by
    intro v bU dE x w1 μ1 ws hv hs hp hm
    refine ih os xo hs.hr ((hf.mono (hs.mono hh)).put hv hp) hm fun a' w' μ' Ix C2 iU=>?_
    exact hQ a' w' μ' _ C2 (hs.trans iU)
   unfold oX at h
   cases hg:Dd ops o.guard with
   |none=>
    rw[hg]at h
    simp only[bM,bX,RS]at h
    cases h
   |some g=>
    rw[hg]at h
    simp only at h
    cases hw:bM fr.r g with
    |none=>rw[hw]at h;cases h
    |some b=>
     rw[hw]at h
     have uf:=Yq hf.1 hg hw
     cases b with
     |true=>
      rw[aJ uf]
      simp only at h
      split at h
      ·rename_i v1 bU hm
       split at h
       ·rename_i dE hp
        exact RT bR hE hh hf hm fun x w' μ' ws q1 q2=>go v1 bU dE x w' μ' ws q1 q2 hp h
       ·cases h
      ·cases h
     |false=>
      rw[aq (by rw[uf];simp)]
      simp only at h
      split at h
      ·rename_i dE hp
       exact⟨fun _ _=>trivial,go (.aY []) st dE undef w μ [] ⟨[],rfl,by simp[aP]⟩ (bA.refl hh) hp h⟩
      ·cases h
def Yaw{ops:Array Oper}:(List.range ops.size).map (fun i=>ops[i]?)=ops.toList.map some:=by
 apply nX
 intro i
 simp only[ko]
 by_cases h:i<ops.size
 ·simp[h]
 ·simp[h]
def Zn4{F:Fence}{n:Nat}{c:Code}{Q:Exit->Act->World->Prop}(J:Nat->Act->World->Prop)
  (round:∀f a w,J f a w->c.wpIn F n P (Exit.then (fun a' w'=>∃f',f'<f/\J f' a' w') Q) a w) {f:Nat} (h₀:J f a w):(Code.loop c).wpIn F n P Q a w:=by
 intro b k cs kR hb hr
 have key:∀j a w,J j a w->
   ∃e a' w',Q e a' w'/\ArrivesIn (Machine.fenced P F) P (lone (b.atR a (.code c::.inLoop c::k)) cs w) b k cs e a' w':=by
  intro j
  induction j using Nat.strongRecOn with
  |_ j ih=>
   intro a w hI
   obtain⟨e,a₁,w₁,hq,gb⟩:=round j a w hI b (.inLoop c::k) cs kR hb hr
   cases e with
   |normal=>
    obtain⟨f',aO,hI₁⟩:=hq
    obtain⟨e₂,a₂,w₂,hq₂,Iy⟩:=ih f' aO a₁ w₁ hI₁
    exact⟨e₂,a₂,w₂,hq₂,.of_steps (StepsIn.trans gb (.one (fenced_calm hb hr rfl) stepR_inLoop)) Iy⟩
   |exit id=>exact⟨_,a₁,w₁,hq,.pass (x:=.inLoop c) rfl (fun _ _=>.inl (by simp)) gb⟩
   |goto l=>exact⟨_,a₁,w₁,hq,.pass (x:=.inLoop c) rfl (fun _ _=>.inl (by simp)) gb⟩
   |ret=>exact⟨_,a₁,w₁,hq,.pass (x:=.inLoop c) rfl (fun _ _=>.inl (by simp)) gb⟩
   |panic ch=>exact⟨_,a₁,w₁,hq,.pass (x:=.inLoop c) rfl (fun _ _=>.inl (by simp)) gb⟩
   |outgrown=>exact⟨_,a₁,w₁,hq,.pass (x:=.inLoop c) rfl (fun _ _=>.inl (by simp)) gb⟩
 obtain⟨e,a',w',hq,gb⟩:=key _ a w h₀
 exact⟨e,a',w',hq,.of_steps (.one (fenced_calm hb hr rfl) stepR_loop) gb⟩
def Gk{b:Frame}{k:List Item}{cs:List Frame}{c:Code}:
  step P (lone (b.atR a (.code (.scope c)::k)) cs w)=.next (lone (b.atR a (.code c::.inScope c::k)) cs w):=
 step_lone_go (by simp[stepG,stepG.exec,Frame.atR])
def Zpf{b:Frame}{k:List Item}{cs:List Frame}{c:Code}:
  step P (lone (b.atR a (.inScope c::k)) cs w)=.next (lone (b.atR a k) cs w):=
 step_lone_go (by simp[stepG,stepG.exec,Frame.atR])
def Zw1{F:Fence}{n:Nat}{c:Code}{Q:Exit->Act->World->Prop}(h:c.wpIn F n P Q a w)(hq:∀l a w,¬Q (.goto l) a w):(Code.scope c).wpIn F n P Q a w:=by
 intro b k cs kR hb hr
 have h0:(lone (b.atR a (.code (.scope c)::k)) cs w).fenced P F:=fenced_calm hb hr rfl
 obtain⟨e,a₁,w₁,hQ,gb⟩:=h b (.inScope c::k) cs kR hb hr
 cases e with
 |normal=>exact⟨.normal,a₁,w₁,hQ,.head h0 Gk (StepsIn.trans gb (.one (fenced_calm hb hr rfl) Zpf))⟩
 |exit id=>
  have hx:exitTo id (.inScope c::k)=exitTo id k:=by simp[exitTo]
  exact⟨.exit id,a₁,w₁,hQ,fun k' hk=>.head h0 Gk (gb.1 k' (by rw[hx];exact hk)),
   fun iA hk=>let ⟨k₁,h1,h2⟩:=gb.2 iA (by rw[hx];exact hk);⟨k₁,h1,.head h0 Gk h2⟩⟩
 |goto l=>exact absurd hQ (hq l a₁ w₁)
 |ret=>exact⟨_,a₁,w₁,hQ,.of_steps (.one h0 Gk) gb⟩
 |panic ch=>exact⟨_,a₁,w₁,hQ,.of_steps (.one h0 Gk) gb⟩
 |outgrown=>exact⟨_,a₁,w₁,hQ,.of_steps (.one h0 Gk) gb⟩
def rm.after{μ1:Mu}{w1:World}{bU:St}{ws:List Nat}(hs:bA P μ w st μ1 w1 bU ws){ex:Ex}{e:Exit}{a':Act}{w':World}(h:rm P μ1 w1 bU ex bB ax e a' w'):rm P μ w st ex bB ax e a' w':=by
 obtain⟨h1,μ',Ix,h2,h3⟩:=h
 exact⟨h1,μ',_,hs.trans h2,h3⟩
def rm.then{μ:Mu}{ex:Ex}{dE:Fr}{bU:St}{K:Act->World->Prop}{Q:Exit->Act->World->Prop}{e:Exit}{a':Act}{w':World}(h:rm P μ w st ex dE bU e a' w')
  (hn:ex=.normal->K a' w') (hq:ex≠.normal->Q e a' w'):Exit.then K Q e a' w':=by
 obtain⟨rfl,h⟩:=h
 cases ex<;>simp only[Gi,Exit.then]
 ·exact hn rfl
 ·exact hq (by simp)
 ·exact hq (by simp)
def Gl(P:Program)(code:n_):Prop:=
 ∀(ro:Option Nat) (c:Code) (fr:Fr) (st:St) (ex:Ex) (bB:Fr) (ax:St),code ro (ij P c) fr st=some (ex,bB,ax)->
  ∀(μ:Mu) (w:World) (a:Act) (lb:Option Nat),a_ P μ w st->kr μ fr a->Gj μ ro lb->c.wpIn (FE lb) 0 P (rm P μ w st ex bB ax) a w
def Yr(P:Program)(call:cH):Prop:=
 ∀(id:Nat) (ops:Array Oper) (fr:Fr) (st:St) (ex:Ex) (bB:Fr) (ax:St),RU P ops=true->xp (ops.toList.map (oX P ops)) (sE ops.toList []) call M1 none fr st=some (ex,bB,ax)->
  ∀(μ:Mu) (w:World) (a:Act) (lb:Option Nat),a_ P μ w st->kr μ fr a->(Code.region id ops true).wpIn (FE lb) 0 P (rm P μ w st ex bB ax) a w
def Ys(P:Program)(call:cH):Prop:=
 ∀(id:Nat) (ops:Array Oper) (o:Oper) (rest:List Oper) (d:Option Nat) (ch:Src) (s:Option Src) (z:V) (fr:Fr) (st:St) (ex:Ex) (bB:Fr) (ax:St),ops.toList=o::rest->M3 P o=some (d,ch,s,z)->
  xq d ch s z (rest.map (oX P ops)) call M1 none fr st=some (ex,bB,ax)->
  ∀(μ:Mu) (w:World) (a:Act) (lb:Option Nat),a_ P μ w st->kr μ fr a->(Code.region id ops false).wpIn (FE lb) 0 P (rm P μ w st ex bB ax) a w
def Yt(P:Program)(call:cH):Prop:=
 ∀(ro:Option Nat) (g:Operand) (s:Src) (ps:Array Nat) (fw fx:Code) (fr:Fr) (st:St) (ex:Ex) (bB:Fr) (ax:St),bk P g=some s->
  Ak s ps.toList (ij P fw) (ij P fx) call M1 ro fr st=some (ex,bB,ax)->
  ∀(μ:Mu) (w:World) (a:Act) (lb:Option Nat),a_ P μ w st->kr μ fr a->Gj μ ro lb->(Code.rangeFunc g ps fw fx).wpIn (FE lb) 0 P (rm P μ w st ex bB ax) a w
def Yu(bR:iO P call)(hE:rn P)(hD:Yr P call)(hS:Ys P call)(hR:Yt P call):∀fuel,Gl P (dH call fuel):=by
 intro fuel
 induction fuel using Nat.strongRecOn with
 |_ fuel ihs=>
 cases fuel with
 |zero=>intro ro c fr st ex bB ax h;cases h
 |succ f=>
  have ih:Gl P (dH call f):=ihs f (q9 f)
  intro ro c fr st ex bB ax h μ w a lb hh hf kR
  cases c with
  |skip=>
   simp only[ij,dH,kV,RV,ak,bh]at h
   obtain⟨rfl,rfl,rfl⟩:=h
   exact wpIn_skip ⟨rfl,μ,[],bA.refl hh,hf⟩
  |label l=>
   simp only[ij,dH,kV,RV,ak,bh]at h
   obtain⟨rfl,rfl,rfl⟩:=h
   exact wpIn_label ⟨rfl,μ,[],bA.refl hh,hf⟩
  |exit id=>
   simp only[ij,dH,kV,Yv,ak,bh]at h
   obtain⟨rfl,rfl,rfl⟩:=h
   exact wpIn_exit ⟨rfl,μ,[],bA.refl hh,hf⟩
  |ret=>
   simp only[ij,dH,kV,Yw,ak,bh]at h
   obtain⟨rfl,rfl,rfl⟩:=h
   exact wpIn_ret ⟨rfl,μ,[],bA.refl hh,hf⟩
  |goto l=>simp only[ij,dH,kV,Gm]at h;cases h
  |refuse why=>simp only[ij,dH,kV,Gm]at h;cases h
  |region id ops draw=>
   cases draw with
   |true=>
    simp only[ij]at h
    split at h
    ·rename_i hp
     simp only[dH,kV]at h
     exact hD id ops fr st ex bB ax hp h μ w a lb hh hf
    ·simp only[dH,kV,Gm]at h;cases h
   |false=>
    have plain:xr (ops.toList.map (oX P ops)) call (dH call f) ro fr st=some (ex,bB,ax)->(Code.region id ops false).wpIn (FE lb) 0 P (rm P μ w st ex bB ax) a w:=by
     intro h
     simp only[xr]at h
     split at h
     ·rename_i dE bU hm
      simp only[ak,bh]at h
      obtain⟨rfl,rfl,rfl⟩:=h
      exact wpIn_region (Yo bR hE _ _ Yaw hh hf hm fun a' w' μ' ws q1 q2=>⟨rfl,μ',ws,q2,q1⟩)
     ·cases h
    simp only[ij,dH]at h
    split at h
    ·rename_i ho
     exact plain (by rw[ho];exact h)
    ·rename_i o rest ho
     split at h
     ·rename_i d ch s z hs
      exact hS id ops o rest d ch s z fr st ex bB ax ho hs h μ w a lb hh hf
     ·exact plain (by rw[ho];exact h)
  |seq x y=>
   simp only[ij,dH,kV,zh]at h
   refine wpIn_seq ?_
   split at h
   ·rename_i dE bU hx
    refine wpIn_mono (ih ro x fr st _ _ _ hx μ w a lb hh hf kR) fun e a' w' hp=>?_
    have sF:=hp
    obtain⟨he,μ1,ws,hs,vj⟩:=hp
    refine sF.then (fun _=>?_) (fun bK=>absurd rfl bK)
    exact wpIn_mono (ih ro y dE bU ex bB ax h μ1 w' a' lb hs.hr vj (kR.mono (hs.mono hh))) fun e2 a2 w2 wk=>wk.after hs
   ·rename_i hx
    refine wpIn_mono (ih ro x fr st _ _ _ h μ w a lb hh hf kR) fun e a' w' hp=>?_
    refine hp.then (fun hn=>?_) (fun _=>hp)
    subst hn
    exact absurd h (hx bB ax)
  |cond x p q=>
   simp only[ij]at h
   split at h
   ·rename_i s hs
    simp only[dH,kV,vk]at h
    split at h
    ·rename_i hv
     have:=cE hh hf.1 hs hv
     exact wpIn_cond_true (by simpa[VR]using this) (ih ro p fr st ex bB ax h μ w a lb hh hf kR)
    ·rename_i hv
     have:=cE hh hf.1 hs hv
     exact wpIn_cond_false (by simpa[VR]using this) (ih ro q fr st ex bB ax h μ w a lb hh hf kR)
    ·cases h
   ·simp only[dH,kV,Gm]at h;cases h
  |block id c=>
   simp only[ij,dH,kV,zi]at h
   refine wpIn_block ?_
   split at h
   ·rename_i zj dE bU hx
    refine wpIn_mono (ih ro c fr st _ _ _ hx μ w a lb hh hf kR) fun e a' w' hp=>?_
    obtain⟨rfl,hp⟩:=hp
    simp only[Gi,Exit.inBlock]
    split at h
    ·rename_i RW
     simp only[ak,bh]at h
     obtain⟨rfl,rfl,rfl⟩:=h
     rw[aJ (M4 RW)]
     exact⟨rfl,hp⟩
    ·rename_i RW
     simp only[ak,bh]at h
     obtain⟨rfl,rfl,rfl⟩:=h
     rw[aq (Nat.ne_of_beq_eq_false RW)]
     exact⟨rfl,hp⟩
   ·rename_i hx
    refine wpIn_mono (ih ro c fr st _ _ _ h μ w a lb hh hf kR) fun e a' w' hp=>?_
    have sF:=hp
    obtain⟨rfl,hp⟩:=hp
    cases ex with
    |normal=>exact sF
    |ret=>exact sF
    |exit zj=>exact absurd h (hx zj bB ax)
  |loop c=>
   refine Zn4 (fun k a1 w1=>k<=f+1/\∃dE bU μ1 ws,bA P μ w st μ1 w1 bU ws/\kr μ1 dE a1/\dH call k ro (.loop (ij P c)) dE bU=some (ex,bB,ax)) ?_
    (f:=f+1) ⟨aR _,fr,st,μ,[],bA.refl hh,hf,h⟩
   intro k a1 w1 hJ
   obtain⟨hk,dE,bU,μ1,ws,hs,vj,hm⟩:=hJ
   cases k with
   |zero=>cases hm
   |succ k=>
    simp only[dH,kV,zk]at hm
    have Yx:Gl P (dH call k):=ihs k (by omega)
    split at hm
    ·rename_i wo eI hx
     refine wpIn_mono (Yx ro c dE bU _ _ _ hx μ1 w1 a1 lb hs.hr vj (kR.mono (hs.mono hh))) fun e a' w' hp=>?_
     have sF:=hp
     obtain⟨he,μ2,RX,mi,jU⟩:=hp
     refine sF.then (fun _=>?_) (fun bK=>absurd rfl bK)
     exact⟨k,q9 k,by omega,wo,eI,μ2,_,hs.trans mi,jU,hm⟩
    ·rename_i hx
     refine wpIn_mono (Yx ro c dE bU _ _ _ hm μ1 w1 a1 lb hs.hr vj (kR.mono (hs.mono hh))) fun e a' w' hp=>?_
     refine hp.then (fun hn=>?_) (fun _=>hp.after hs)
     subst hn
     exact absurd hm (hx bB ax)
  |scope c=>
   simp only[ij,dH,kV,Yy]at h
   refine Zw1 (ih ro c fr st ex bB ax h μ w a lb hh hf kR) fun l a' w' hp=>?_
   obtain⟨he,_⟩:=hp
   cases ex<;>simp[Gi]at he
  |rangeFunc g ps fw fx=>
   simp only[ij]at h
   split at h
   ·rename_i s hs
    simp only[dH,kV]at h
    exact hR ro g s ps fw fx fr st ex bB ax hs h μ w a lb hh hf kR
   ·simp only[dH,kV,Gm]at h;cases h
end
end Go.Mx
