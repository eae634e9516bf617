/-
  The machine M's runs stand for the Go model's: functions, rounds, the statement that ranges over a function.
-/
import Derived.Test.YtlbophlgohokkaaGreatDoorMxOps
import Derived.Conc.LoneSelect
set_option linter.all false
namespace Go.Mx
open Go
section
variable {P:Program} {μ:Mu} {w:World} {st av:St} {fr bC:Fr} {a:Act} {call:cm} {v:V} {lb:Option Nat}
theorem Xp:∀(vs:List V) (r:T V) (i t:Nat),(vW r i vs).get t=if i<=t/\t<i+vs.length then vs[t-i]? else r.get t
 |[],r,i,t=>by simp[vW];omega
 |v::vs,r,i,t=>by
  simp only[vW]
  rw[Xp vs (r.set i v) (i+1) t,T.ai]
  by_cases h:t=i
  ·subst h
   rw[au (by omega),aF rfl,aF (by simp)];simp
  ·by_cases h2:i+1<=t/\t<i+1+vs.length
   ·rw[aF h2,aF (by simp;omega)]
    rw[show t-i=(t-(i+1))+1 by omega];simp
   ·rw[au h2,au h,au (by simp;omega)]
theorem Ygs{vs:List V}{xs:List Value}{n:Nat}(h:aX μ vs xs)(hl:vs.length<=n):RR μ (vW .nil 0 vs) n ((⟨xs⟩:Array Value)++Array.replicate (n-(⟨xs⟩:Array Value).size) undef):=by
 have Ah:=h.length
 refine⟨by simp;omega,fun t v hv=>?_⟩
 rw[Xp]at hv
 split at hv
 ·rename_i ht
  simp only[Nat.sub_zero]at hv
  obtain⟨x,hx,hr⟩:=h.get hv
  refine⟨x,?_,hr⟩
  rw[Array.getElem?_append_left (by simp;omega)]
  simpa using hx
 ·simp[T.get]at hv
def Mf(tmps:Array Value):ResultVar->Sem Value
 |.tmp t=>pure (tmps.getD t undef)
 |.cell a t=>do loadVar t (<-asAddr (tmps.getD a undef))
theorem RN(hh:bo P μ w st){r:T V}{n:Nat}{tmps:Array Value}(hr:RR μ r n tmps):∀{rs:List ResultVar} {ms:List CP},Bf P rs=some ms->∀{vs:List V},fT r st ms=some vs->
  ∃xs,(rs.mapM (Mf tmps)).run P w=.ok xs w/\aX μ vs xs
 |[],ms,hc,vs,hv=>by
  simp only[Bf,aj]at hc;subst hc
  simp only[fT,aj]at hv;subst hv
  exact⟨[],by simp,by simp[aX]⟩
 |.tmp t::rs,ms,hc,vs,hv=>by
  simp only[Bf,iF]at hc
  obtain⟨ms',mb,rfl⟩:=hc
  simp only[fT]at hv
  split at hv
  ·rename_i u us hu sq
   simp only[aj]at hv;subst hv
   obtain⟨xs,h1,h2⟩:=RN hh hr mb sq
   obtain⟨x,hx,y8⟩:=hr.2 _ _ hu
   refine⟨x::xs,?_,fO.2 ⟨_,_,rfl,y8,h2⟩⟩
   simp only[List.mapM_cons,Mf,Sem.run_bind,Sem.run_pure,Result.andThen_ok,h1]
   simp[CS,hx]
  ·cases hv
 |.cell t ty::rs,ms,hc,vs,hv=>by
  simp only[Bf]at hc
  split at hc
  ·rename_i k ms' hk mb
   simp only[aj]at hc;subst hc
   simp only[fT]at hv
   split at hv
   ·rename_i i o us hu sq
    split at hv
    ·rename_i c e vf ar
     split at hv
     ·rename_i u eh
      simp only[aj]at hv;subst hv
      obtain⟨xs,h1,h2⟩:=RN hh hr mb sq
      obtain⟨x,hx,l,hl,rfl⟩:=hr.2 _ _ hu
      have vY:=hh.row hl ar
      have ue:∃y,(loadVar ty ⟨l.b,l.d+o,none⟩).run P w=.ok y w/\VR μ u y:=by
       cases k with
       |none=>
        simp only[aU]at eh
        obtain⟨y,hy,hv⟩:=vY.cell eh
        exact⟨y,by simp[loadVar,RO hk,Result.andThen,hy],hv⟩
       |some k=>
        simp only[aU]at eh
        split at eh
        ·rename_i q hq
         simp only[aj]at eh;subst eh
         obtain⟨ys,g1,_,g3,_⟩:=vY.xc hq
         exact⟨.agg ys.toArray,by simp[loadVar,(Gq hk).1,(Gq hk).2,Result.andThen,g3],ys,rfl,g1⟩
        ·cases eh
      obtain⟨y,qh,uf⟩:=ue
      refine⟨y::xs,?_,fO.2 ⟨_,_,rfl,uf,h2⟩⟩
      have mR:tmps.getD t undef=.pointer (some ⟨l.b,l.d+o,none⟩):=by simp[CS,hx]
      have RP:(asAddr (tmps.getD t undef)).run P w=.ok ⟨l.b,l.d+o,none⟩ w:=by rw[mR];rfl
      simp only[List.mapM_cons,Mf,Sem.run_bind,RP,Sem.run_pure,Result.andThen_ok,qh,h1]
     ·cases hv
    ·cases hv
   ·cases hv
  ·cases hc
theorem Ztk(hh:bo P μ w st){r:T V}{n:Nat}{tmps:Array Value}(hr:RR μ r n tmps){fn:Func}{ms:List CP}(hc:Bf P fn.results.toList=some ms){vs:List V}(hv:fT r st ms=some vs):
  ∃x,(results fn tmps).run P w=.ok x w/\VR μ (BB vs) x:=by
 obtain⟨xs,h1,h2⟩:=RN hh hr hc hv
 have hl:=h2.length
 refine⟨if h:xs.length=1 then xs[0] else .tuple ⟨xs⟩,?_,?_⟩
 ·show (do let vs <-fn.results.mapM (Mf tmps);pure (if h:vs.size=1 then vs[0] else .tuple vs):Sem Value).run P w=_
  rw[Array.mapM_eq_mapM_toList]
  simp only[Sem.run_bind,Sem.run_map,h1,Result.andThen_ok,Sem.run_pure]
  rfl
 ·rcases vs with _|⟨u,_|⟨u',vs⟩⟩
  ·simp only[aX]at h2;subst h2
   exact⟨[],rfl,by simp[aX]⟩
  ·obtain⟨y,ys,rfl,g1,g2⟩:=fO.1 h2
   simp only[aX]at g2;subst g2
   exact g1
  ·rw[dif_neg (by rw[hl];simp)]
   exact⟨xs,rfl,h2⟩
theorem Xq{fn:Func}{tmps:Array Value}{R:Ending->World->Prop}:∀{ms:List Nat} {ds:List Deferred} {st eD:St} {w:World},bo P μ w st->nb μ ms ds->shut st ms=some eD->
  (∀w' ws,bB P μ w st μ w' eD ws->∃v,(results fn tmps).run P w'=.ok v w'/\R (.returned v) w')->LeavesInM Fence.wide 0 P fn tmps R ds .returning w
 |[],ds,st,eD,w,hh,hd,hs,hR=>by
  simp only[nb]at hd;subst hd
  simp only[shut,aj]at hs;subst hs
  exact hR w [] (bB.refl hh)
 |m::ms,ds,st,eD,w,hh,hd,hs,hR=>by
  obtain⟨l,BP,h1,rfl,h3⟩:=hd
  simp only[shut]at hs
  split at hs
  ·rename_i hg
   have vY:=hh.get h1 hg
   have Ip:bB P μ w st μ (w.putObj l.b (.deferred none)) (st.write m (.defs false)) [m]:=
    bB.write hh h1 hg rfl rfl rfl rfl (World.putObj_size) (fun b hb=>World.putObj_heap_other hb) (World.putObj_heap_same (hh.cG m l h1).2)
   refine⟨by simp,.inl ⟨l.b,_,rfl,run_takeDeferred vY,?_⟩⟩
   exact Xq Ip.hr h3 hs fun w' ws iA=>hR w' _ (Ip.trans iA)
  ·cases hs
theorem bB.fold{μ':Mu}{w':World}{ws:List Nat}(h0:bo P μ w st)(h:bB P μ w {st with w:=[]} μ' w' av ws):bB P μ w st μ' w' {av with w:=ad st.n av.w++st.w} (ad st.n av.w):=by
 have Ae:∀(l:List Nat) (i:Nat),i<st.n->(i∈ad st.n l↔i∈l):=by
  intro l i hi
  induction l with
  |nil=>simp[ad]
  |cons j l ih=>
   simp only[ad]
   split
   ·unfold uZ
    split
    ·rename_i hc
     simp only[kb,ih]
     simp only[LH]at hc
     constructor
     ·exact .inr
     ·rintro(rfl|h)
      ·exact ih.1 hc
      ·exact h
    ·simp only[kb,ih]
   ·simp only[kb,ih]
    constructor
    ·exact .inr
    ·rintro(rfl|h)
     ·omega
     ·exact h
 have RQ:av.w=ws:=by have:=h.wl;simpa using this
 have hs:∀i,i<st.n->(i∈ad st.n av.w↔i∈ws):=fun i hi=>by rw[Ae _ i hi,RQ]
 exact {
  hr:=⟨h.hr.cG,h.hr.obj,h.hr.inj,h.hr.fF⟩
  ext:=h.ext
  eX:=h.eX
  wl:=rfl
  c_:=⟨h.c_.os,h.c_.tape,h.c_.output,h.c_.size,fun b hb cH=>h.c_.block b hb fun i hi l hl=>cH i ((hs i (h0.cG i l hl).1).2 hi) l hl⟩
  new:=fun i l hi hl=>by
   rcases h.new i l hi hl with h'|⟨j,hj,yy,r⟩
   ·exact .inl h'
   ·exact .inr ⟨j,(hs j yy).2 hj,yy,r⟩
  ae:=fun i hi cH=>h.ae i hi fun hc=>cH ((hs i hi).2 hc)
  grow:=h.grow
  full:=h.full
  tK:=fun i hi hn=>h.tK i ((hs i hn).1 hi) hn}
theorem bo.now(h:bo P μ w st)(l:List Nat):bo P μ w {st with w:=l}:=⟨h.cG,h.obj,h.inj,h.fF⟩
theorem Xr{code:nF}(me:Gs P code){f:FuncId}{fn:Func}{mf:jE}(hf:P.funcs[f]?=some fn)(hc:vG P f=some mf){args:List V}{xs:List Value}(hh:bo P μ w st)(hx:aX μ args xs)
  (h:zT mf code args st=some (v,av)):CallsIn Fence.wide 0 P f ⟨xs⟩ w (DH fun x w'=>∃μ' ws,VR μ' v x/\bB P μ w st μ' w' av ws):=by
 unfold vG at hc
 rw[hf]at hc
 simp only at hc
 split at hc
 ·rename_i c rs hb RS
  simp only[aj]at hc;subst hc
  unfold zT at h
  split at h
  ·cases h
  ·rename_i hle
   simp only at hle h
   have fin:∀(ex:Ex) (dh:Fr) (bS:St),(ex=.normal\/ex=.ret)->code none (gR P c) {r:=vW .nil 0 args,n:=fn.ntmps,marks:=[]} {st with w:=[]}=some (ex,dh,bS)->
     (match shut bS dh.marks with
      |none=>none
      |some eD=>match fT dh.r eD rs with
       |some vs=>some (BB vs,{eD with w:=ad st.n eD.w++st.w})
       |none=>none)=some (v,av)->
     CallsIn Fence.wide 0 P f ⟨xs⟩ w (DH fun x w'=>∃μ' ws,VR μ' v x/\bB P μ w st μ' w' av ws):=by
    intro ex dh bS hex bI ep
    split at ep
    ·cases ep
    ·rename_i eD Iq
     split at ep
     ·rename_i vs DI
      simp only[aj,bq]at ep
      obtain⟨rfl,rfl⟩:=ep
      refine callsIn_of_wp_marks hf hb trivial (wpIn_mono (me none c _ _ _ _ _ bI μ w _ none (hh.now []) ⟨Ygs hx (vN hle),rfl⟩ trivial) fun e a' w' hp=>?_)
      obtain⟨rfl,μ1,ws,hs,nK⟩:=hp
      have hl:LeavesInM Fence.wide 0 P fn a'.tmps (DH fun x w'=>∃μ' ws,VR μ' (BB vs) x/\bB P μ w st μ' w' {eD with w:=ad st.n eD.w++st.w} ws) a'.defers .returning w':=by
       refine Xq hs.hr nK.2 Iq fun w2 RT jY=>?_
       obtain⟨x,xB,Gt⟩:=Ztk jY.hr nK.1 RS DI
       exact⟨x,xB,μ1,_,Gt,(hs.trans jY).fold hh⟩
      rcases hex with rfl|rfl
      ·exact hl
      ·exact hl
     ·cases ep
   unfold Re at h
   split at h
   ·cases h
   ·rename_i ex dh bS bJ bI
    exact fin ex dh bS (by cases ex with|normal=>exact .inl rfl|ret=>exact .inr rfl|exit id=>exact(bJ id rfl).elim) (by assumption) h
   ·cases h
 ·cases hc
theorem Xs:∀{ps:List Nat} {vs:List V} {r r':T V} {n:Nat} {tmps:Array Value} {xs:List Value},RR μ r n tmps->aX μ vs xs->Dr r n ps vs=some r'->
  xs.length=ps.length/\RR μ r' n ((ps.zip xs).foldl (fun (tmps:Array Value) (p:Nat×Value)=>tmps.setIfInBounds p.1 p.2) tmps)
 |[],[],r,r',n,tmps,xs,hr,hx,h=>by
  simp only[aX]at hx;subst hx
  simp only[Dr,aj]at h;subst h
  exact⟨rfl,hr⟩
 |[],_::_,r,r',n,tmps,xs,hr,hx,h=>by simp[Dr]at h
 |_::_,[],r,r',n,tmps,xs,hr,hx,h=>by simp[Dr]at h
 |p::ps,v::vs,r,r',n,tmps,xs,hr,hx,h=>by
  obtain⟨y,ys,rfl,h1,h2⟩:=fO.1 hx
  simp only[Dr]at h
  split at h
  ·rename_i hp
   obtain⟨g1,g2⟩:=Xs (hr.set hp h1) h2 h
   exact⟨by simp[g1],by simpa using g2⟩
  ·cases h
theorem Zyz(e:Ex):((rk e).bind wQ).isNone=(rk e).isNone:=by cases e<;>rfl
theorem bB.loop(hh:bo P μ w st){i:Nat}{l:L}(hl:μ i=some l){R R':WD}(hg:st.h.get i=some (.loop R))(h1:R'.r=R.r)(h2:R'.n=R.n)(h3:R'.ps=R.ps)(h4:R'.assign=R.assign)(h5:R'.body=R.body)(h6:R'.defs=R.defs):
  ∃rec,w.heap[l.b]?=some (.loop rec)/\rec.state=R.st/\rec.pending=R.gI.bind wQ/\
   bB P μ w st μ (w.putObj l.b (.loop {rec with state:=R'.st,pending:=R'.gI.bind wQ})) (st.write i (.loop R')) [i]:=by
 obtain⟨fn,tmps,fg,fh,ld,g1,g2,g3,g4,g5⟩:=hh.get hl hg
 refine⟨_,g1,rfl,rfl,bB.write hh hl hg rfl rfl rfl rfl World.putObj_size (fun b hb=>World.putObj_heap_other hb) ⟨fn,tmps,fg,fh,ld,?_,?_,?_,?_,?_⟩⟩
 ·rw[World.putObj_heap_same (hh.cG i l hl).2,h3]
 ·rw[h1,h2];exact g2
 ·rw[h4];exact g3
 ·rw[h5];exact g4
 ·rw[h6];exact g5
theorem Ye8{code:nF}(me:Gs P code){l:Nat}{args:List V}{xs:List Value}{L0:L}(hh:bo P μ w st)(hl:μ l=some L0)(hx:aX μ args xs)(h:Ds code l args st=some (v,av)):
  ∃f tmps fg fh,(Instr.yield L0.b ⟨xs⟩).run P w=.ok (.round L0.b f tmps fg fh) w/\RoundIn Fence.wide 0 P L0.b f tmps fg fh w (DH fun x w'=>∃μ' ws,VR μ' v x/\bB P μ w st μ' w' av ws):=by
 unfold Ds at h
 split at h
 ·rename_i R hg
  obtain⟨fn,tmps,fg,fh,ld,g1,g2,g3,g4,g5⟩:=hh.get hl hg
  split at h
  ·cases h
  ·rename_i r0 ef
   obtain⟨q1,q2⟩:=Xs g2 hx ef
   have hy:=run_yield (P:=P) (args:=⟨xs⟩) g1 (by simpa using q1)
   refine⟨_,_,_,_,hy,?_⟩
   have htm:(((⟨R.ps⟩:Array Nat).zip (⟨xs⟩:Array Value)).foldl (fun tmps (p:Nat×Value)=>tmps.setIfInBounds p.1 p.2) tmps)=(R.ps.zip xs).foldl (fun (tmps:Array Value) (p:Nat×Value)=>tmps.setIfInBounds p.1 p.2) tmps:=by simp
   refine roundIn_of_wpIn (F:=Fence.wide) trivial ?_
   split at h
   ·rename_i dh bS BR
    rw[<-g3]at BR
    refine wpIn_mono (me (some l) fg _ _ _ _ _ BR μ w {tmps:=(((⟨R.ps⟩:Array Nat).zip (⟨xs⟩:Array Value)).foldl (fun tmps (p:Nat×Value)=>tmps.setIfInBounds p.1 p.2) tmps),defers:=[]} (some L0.b) hh ⟨by rw[htm];exact q2,rfl⟩ ⟨L0,hl,rfl⟩) fun e a1 w1 hp=>?_
    have qi:=hp
    obtain⟨he,μ1,ws1,sw,nK⟩:=hp
    refine qi.then (fun _=>?_) (fun bJ=>absurd rfl bJ)
    split at h
    ·rename_i R1 Ai
     split at h
     ·rename_i DJ
      have DK:=sw.mono hh _ _ hl
      obtain⟨Ir,k1,k2,k3,k4⟩:=bB.loop (R':={R1 with st:=.busy}) sw.hr DK Ai rfl rfl rfl rfl rfl rfl
      refine⟨_,run_beginRound k1 (k2.trans DJ),?_⟩
      have RU:({Ir with state:=LoopState.busy,pending:=R1.gI.bind wQ}:Loop)={Ir with state:=.busy}:=by rw[<-k3]
      rw[RU]at k4
      split at h
      ·rename_i e2 vZ eD BS
       rw[<-g4]at BS
       refine wpIn_mono (me (some l) fh _ _ _ _ _ BS μ1 _ a1 (some L0.b) k4.hr (nK.mono (k4.mono sw.hr)) ⟨L0,DK,rfl⟩) fun e a2 w2 v_=>?_
       obtain⟨sA,μ2,RT,jY,fI⟩:=v_
       split at h
       ·rename_i R2 RV
        simp only[aj,bq]at h
        obtain⟨rfl,rfl⟩:=h
        have kl:=jY.mono k4.hr _ _ DK
        obtain⟨RW,m1,m2,m3,m4⟩:=bB.loop (R':={R2 with st:=HS (rk e2),gI:=rk e2}) jY.hr kl RV rfl rfl rfl rfl rfl rfl
        have ep:=run_endRound (P:=P) ((rk e2).bind wQ) m1
        have eP:(if ((rk e2).bind wQ).isNone=true then LoopState.ready else LoopState.done)=HS (rk e2):=by cases e2<;>rfl
        rw[eP,Zyz]at ep
        have hR:DH (fun x w'=>∃μ' ws,VR μ' (.bool (rk e2).isNone) x/\bB P μ w st μ' w' (eD.write l (.loop {R2 with st:=HS (rk e2),gI:=rk e2})) ws) (.returned (.bool (rk e2).isNone))
          (w2.putObj L0.b (.loop {RW with state:=HS (rk e2),pending:=(rk e2).bind wQ})):=
         ⟨μ2,_,by simp[VR],((sw.trans k4).trans jY).trans m4⟩
        subst sA
        cases e2 with
        |normal=>exact⟨_,_,ep,hR⟩
        |exit id=>exact⟨_,_,ep,hR⟩
        |ret=>exact⟨_,_,ep,hR⟩
       ·cases h
      ·cases h
     ·cases h
    ·cases h
   ·cases h
 ·cases h
def RX(P:Program)(dc:Nat->Option jE):Prop:=
 ∀f mf,dc f=some mf->vG P f=some mf/\∀fn,P.funcs[f]?=some fn->(fn.name== "runtime.NumGoroutine")=false
theorem Xt{f:FuncId}{mf:jE}(h:vG P f=some mf):∃fn,P.funcs[f]?=some fn/\fn.body.isSome=true:=by
 unfold vG at h
 split at h
 ·rename_i fn hf
  refine⟨fn,hf,?_⟩
  split at h
  ·rename_i hb _;rw[hb];rfl
  ·cases h
 ·cases h
theorem Zuv{dc:Nat->Option jE}{code:nF}(ht:RX P dc)(me:Gs P code):ix P (u_ dc code):=by
 intro g args st v av h μ w G xs hh hg hx
 unfold u_ at h
 split at h
 ·rename_i f first fE
  split at h
  ·rename_i mf hmf
   obtain⟨a',c',rfl,h1,h2⟩:=hg
   obtain⟨hc,Is⟩:=ht f mf hmf
   obtain⟨fn,hf,hb⟩:=Xt hc
   refine⟨{target:=.fn (.func f) ⟨c'⟩,args:=⟨a'⟩++⟨xs⟩},by simp[Deferred.ofValue],.inl ⟨rfl,f,⟨a'++xs++c'⟩,?_,?_⟩⟩
   ·have hn:fn.name≠ "runtime.NumGoroutine" :=by simpa using Is fn hf
    simp[invoke,callFunc,hf,hn]
    intro hq
    rw[hq]at hb
    cases hb
   ·exact Xr me hf hc hh ((h1.append hx).append h2) h
  ·cases h
 ·rename_i l
  obtain⟨L0,hl,rfl⟩:=hg
  obtain⟨f,tmps,fg,fh,q1,q2⟩:=Ye8 me hh hl hx h
  refine⟨{target:=.fn (.yield L0.b) #[],args:=⟨xs⟩},by simp[Deferred.ofValue],.inr ⟨rfl,L0.b,f,tmps,fg,fh,?_,q2⟩⟩
  simp[invoke,q1]
 ·cases h
theorem Ykb{a2:Act}{w4:World}{vZ:Fr}{RY:St}:∀(q:Option Ex),rn P μ w st (match q with|none=>.normal|some e=>e) vZ RY (Gu (match q with|none=>.normal|some e=>e)) a2 w4->
  (match q.bind wQ with
   |none=>rn P μ w st (match q with|none=>.normal|some e=>e) vZ RY .normal a2 w4
   |some c=>c.wpIn (FE lb) 0 P (rn P μ w st (match q with|none=>.normal|some e=>e) vZ RY) a2 w4)
 |none,h=>h
 |some .normal,h=>h
 |some (.exit _),h=>wpIn_exit h
 |some .ret,h=>wpIn_ret h
theorem Xu(bR:ix P call):Xv P call:=by
 intro ro g s ps fg fh fr st ex bC av hs h μ w a lb hh hf km
 unfold zS at h
 split at h
 ·cases h
 ·rename_i gv hgv
  have hG:=cF hh hf.1 hs hgv
  rw[FU]at h
  obtain⟨hy,h⟩:=h
  have sC:gv.Gb=false:=by simpa using hy
  split at h
  ·cases h
  ·rename_i bS d mk hC
   split at h
   ·cases h
   ·rename_i x eD hc
    split at h
    ·rename_i R RV
     rw[FU]at h
     obtain⟨It,h⟩:=h
     simp only[aj,bq]at h
     obtain⟨rfl,rfl,rfl⟩:=h
     refine wpIn_rangeFunc fun fn _=>?_
     have common:∀(l:Nat) (mark:List Deferred) (w0:World) (μ0:Mu) (Xw:List Nat) (db:Nat),bB P μ w st μ0 w0 bS Xw->l=w0.heap.size->(∃ld,μ0 d=some ld/\ld.b=db)->
       (Instr.enterLoop fn a.tmps ps fg fh (FE lb).round).run P w=.ok (l,mark) (w0.alloc (.loop {state:=.ready,pending:=none,fn,tmps:=a.tmps,params:=ps,assign:=fg,body:=fh,defers:=db}))->
       (∀ms ds,nb μ0 ms ds->nb μ0 (mk++ms) (mark++ds))->
       ∃(l:Nat) (mark:List Deferred) (w₁:World) (d:Deferred) (RZ:World) (f:FuncId) (args:Array Value) (w₂:World),
        (Instr.enterLoop fn a.tmps ps fg fh (FE lb).round).run P w=.ok (l,mark) w₁/\
        (resolve a.eval (rangeCall g l) 0).run P w₁=.ok d RZ/\
        (∀f',Target.leads P RZ d.target d.args=some f'->(FE lb).fn f')/\
        (invoke d.target d.args).run P RZ=.ok (.enter f args) w₂/\
        ((FE lb).depth.isSome=true->1<=0)/\
        CallsIn (FE lb) (0-1) P f args w₂ (rangePost (FE lb) 0 P l (rn P μ w st (match R.gI with|none=>.normal|some e=>e) {fr with marks:=mk++fr.marks} (eD.write bS.n (.loop {R with st:=.exhausted}))) {a with defers:=mark++a.defers}):=by
      intro l mark w0 μ0 Xw db ui mi hdb hent xq
      subst mi
      obtain⟨ld,qH,nL⟩:=hdb
      have kj:=ui.mono hh
      have bJ:d≠bS.n:=fun hc=>by have:=(ui.hr.cG d ld qH).1;omega
      have iK:bB P μ0 w0 bS (fun i=>if i=bS.n then some ⟨w0.heap.size,0,0⟩ else μ0 i) (w0.alloc (.loop {state:=.ready,pending:=none,fn,tmps:=a.tmps,params:=ps,assign:=fg,body:=fh,defers:=db}))
        (bS.alloc (.loop {st:=.ready,gI:=none,r:=fr.r,n:=fr.n,ps:=ps.toList,assign:=gR P fg,body:=gR P fh,defs:=d})) []:=by
       have cQ:∀i l,μ0 i=some l->(fun i=>if i=bS.n then some (⟨w0.heap.size,0,0⟩:L) else μ0 i) i=some l:=fun i l hl=>by
        have:=(ui.hr.cG i l hl).1
        simp only
        rw[au (by omega)];exact hl
       refine bB.alloc ui.hr _ (.loop {state:=.ready,pending:=none,fn,tmps:=a.tmps,params:=ps,assign:=fg,body:=fh,defers:=db}) 0 0 ⟨fn,a.tmps,fg,fh,ld,?_,(hf.1.mono kj).mono cQ,rfl,rfl,?_⟩
       ·show (w0.heap.push _)[w0.heap.size]?=_
        simp[nL]
       ·simp only;rw[au bJ];exact qH
      have sw:=ui.trans iK
      have nc:=sw.mono hh
      obtain⟨dd,nM,fW⟩:=bR gv [.yield bS.n] _ x eD hc _ _ (a.eval g) [.func (.yield w0.heap.size) #[] #[]] iK.hr (VR.mono nc _ _ hG) (fO.2 ⟨_,[],rfl,⟨⟨w0.heap.size,0,0⟩,by simp,rfl⟩,by simp[aX]⟩)
      rcases fW with⟨_,f,args,hinv,Gm⟩|⟨Xx,_⟩
      ·refine⟨w0.heap.size,mark,_,dd,_,f,args,_,hent,?_,fun _ _=>trivial,hinv,fun hx=>by simp[Fence.wide]at hx,?_⟩
       ·have e0:(#[Operand.const (.func (.yield w0.heap.size) #[] #[])]).map a.eval=(⟨[.func (.yield w0.heap.size) #[] #[]]⟩:Array Value):=by simp[Act.eval]
        simp only[resolve,e0]
        exact nM
       ·refine CallsIn.mono (F:=Fence.wide) Gm fun e w3 he=>?_
        cases e with
        |panicked _=>exact he.elim
        |outgrown=>exact he.elim
        |returned y=>
         obtain⟨μ2,RT,_,jY⟩:=he
         have kl:μ2 bS.n=some ⟨w0.heap.size,0,0⟩:=jY.mono iK.hr _ _ (by simp)
         obtain⟨rec,m1,m2,m3,m4⟩:=bB.loop (R':={R with st:=.exhausted}) jY.hr kl RV rfl rfl rfl rfl rfl rfl
         have ep:=run_endLoop (P:=P) m1 (by rw[m2];exact It)
         have Xy:=(sw.trans jY).trans m4
         have R4:({rec with state:=.exhausted,pending:=R.gI.bind wQ}:Loop)={rec with state:=.exhausted}:=by rw[<-m3]
         rw[R4]at Xy
         have sh:jW μ2 {fr with marks:=mk++fr.marks} {a with defers:=mark++a.defers}:=by
          refine⟨(hf.1.mono nc).mono (jY.mono iK.hr),?_⟩
          exact((xq _ _ (hf.2.mono kj)).mono (iK.mono ui.hr)).mono (jY.mono iK.hr)
         have fin:rn P μ w st (match R.gI with|none=>.normal|some e=>e) {fr with marks:=mk++fr.marks} (eD.write bS.n (.loop {R with st:=.exhausted})) (Gu (match R.gI with|none=>.normal|some e=>e)) {a with defers:=mark++a.defers} _:=⟨rfl,μ2,_,Xy,sh⟩
         exact⟨R.gI.bind wQ,_,by rw[<-m3];exact ep,Ykb R.gI fin⟩
      ·rw[sC]at Xx;cases Xx
     cases ro with
     |none=>
      cases lb with
      |some _=>exact km.elim
      |none=>
       simp only[Rc,aj,bq]at hC
       obtain⟨rfl,rfl,rfl⟩:=hC
       have R5:bB P μ w st (fun i=>if i=st.n then some ⟨w.heap.size,0,0⟩ else μ i) (w.alloc (.deferred (some []))) (st.alloc (.defs true)) []:=
        bB.alloc hh (.defs true) (.deferred (some [])) 0 0 (by simp only[OM];show (w.heap.push _)[w.heap.size]?=_;simp)
       refine common (w.heap.size+1) [{target:=.collected w.heap.size,args:=#[]}] (w.alloc (.deferred (some []))) _ [] w.heap.size R5 (by simp) ⟨⟨w.heap.size,0,0⟩,by simp,rfl⟩ (run_enterLoop_outer ..) fun ms ds hd=>⟨⟨w.heap.size,0,0⟩,ds,by simp,rfl,hd⟩
     |some l0=>
      cases lb with
      |none=>exact km.elim
      |some b=>
       obtain⟨L0,mi,rfl⟩:=km
       simp only[Rc]at hC
       split at hC
       ·rename_i R0 qg
        simp only[aj,bq]at hC
        obtain⟨rfl,rfl,rfl⟩:=hC
        obtain⟨fn0,Xz,zaf,zag,XA,g1,g2,g3,g4,g5⟩:=hh.get mi qg
        refine common w.heap.size [] w μ [] XA.b (bB.refl hh) rfl ⟨XA,g5,rfl⟩ ?_ (fun ms ds hd=>hd)
        show (Instr.enterLoop fn a.tmps ps fg fh (some L0.b)).run P w=_
        unfold Instr.enterLoop
        simp only[Sem.run_bind,run_getLoop g1,run_newObj_alloc,Result.andThen,Sem.run_pure]
       ·cases hC
    ·cases h
end
open Go Go.Conc
section
variable {P:Program} {μ:Mu} {w:World} {st av:St} {fr bC:Fr} {a:Act} {call:cm} {v:V} {lb:Option Nat}
theorem Yds{o:Oper}{d:Option Nat}{ch:Src}{s:Option Src}{z:V}(h:LB P o=some (d,ch,s,z)):
  ∃c,o.op=.select #[c] false/\o.guard=none/\o.dst=d/\bu P c.chan=some ch/\pY P c.send=some s/\mK P c.elem=some z:=by
 unfold LB at h
 split at h
 ·rename_i cs vg hg
  split at h
  ·rename_i c qj
   split at h
   ·rename_i ch' s' z' h1 h2 h3
    simp only[aj,bq]at h
    obtain⟨rfl,rfl,rfl,rfl⟩:=h
    have:=Aj qj
    subst this
    exact⟨c,vg,hg,rfl,h1,h2,h3⟩
   ·cases h
  ·cases h
 ·cases h
theorem Mg{b:Frame}{ops:Array Oper}{i:Nat}{rest:List Nat}{k:List Item}{cs:List Frame}{o:Oper}{cases:Array CommCase}(ho:ops[i]?=some o)(hg:o.guard=none)(y_:∀c,o.op≠.defer c)
  (bI:(execOp a.eval o).run P w=.ok (.comm cases false .select) w):
  ∃es,stepG P true (G (b.atR a (.inRegion ops (i::rest)::k)) cs) w=.comm (G (b.atR a (.inRegion ops (i::rest)::k)) cs) cases false .select w es:=by
 have hw:Region.wanted o (yielded ops a.tmps)=true:=by simp[Region.wanted,hg]
 have h:=stepGR_op (P:=P) (b:=b) (a:=a) (k:=k) (cs:=cs) (w:=w) (rest:=rest) ho hw
 have xC:((o.semAt b.roundOf a.eval).runT P w #[]).1=.ok (.comm cases false .select) w:=by
  rw[Sem.runT_fst,Oper.semAt_eq _ _ _ y_];exact bI
 unfold G
 rw[h]
 unfold stepG.apply
 generalize hr:(o.semAt b.roundOf a.eval).runT P w #[]=r at xC
 obtain⟨r1,r2⟩:=r
 simp only at xC
 subst xC
 exact⟨_,rfl⟩
theorem Ztg{o:Oper}{c:SelectCase}(vg:o.op=.select #[c] false){zx:Value}(hz:(zeroValue c.elem).run P w=.ok zx w):
  (execOp a.eval o).run P w=.ok (.comm #[{chan:=a.eval c.chan,send:=c.send.map a.eval,zero:=zx}] false .select) w:=by
 unfold execOp
 rw[vg]
 simp[hz,Result.andThen]
theorem XB(bR:ix P call)(hE:rm P):XC P call:=by
 intro id ops o rest d ch s z fr st ex bC av DL R6 h μ w a lb hh hf
 obtain⟨c,vg,hg,rfl,h1,h2,h3⟩:=Yds R6
 have ho:ops[0]?=some o:=by rw[<-wV,DL];rfl
 have y_:∀c',o.op≠.defer c':=fun c' hc=>by rw[vg]at hc;cases hc
 have gT:o.about P w a.eval=none:=by unfold Oper.about;rw[vg]
 have fz:ops.size=rest.length+1:=by rw[<-Array.length_toList,DL];rfl
 obtain⟨zx,Gw,wc⟩:=XD (w:=w) h3
 have jL:=Ztg (a:=a) vg Gw
 unfold xf at h
 split at h
 ·rename_i i sv Iu R7
  obtain⟨l,hl,e1⟩:=cF hh hf.1 h1 Iu
  rw[e1]at jL
  have qC:=XE hh hf.1 h2 R7
  split at h
  ·rename_i v1 bS hv
   split at h
   ·rename_i dh R8
    split at h
    ·rename_i vZ eD hm
     simp only[aj,bq]at h
     obtain⟨rfl,rfl,rfl⟩:=h
     have key:∃x w1 μ1 ws,VR μ1 v1 x/\bB P μ w st μ1 w1 bS ws/\∀(b:Frame) (k:List Item) (cs:List Frame) (is:List Nat),
       step P (lone (b.atR a (.inRegion ops (0::is)::k)) cs w)=.next (lone ((b.atR a (.inRegion ops (0::is)::k)).finish x) cs w1):=by
      unfold LP at hv
      split at hv
      ·-- a send
       rename_i cap buf u Ai
       obtain⟨u',x',mj,mR,R9⟩:=qC.resolve_left (by rintro⟨hq,_⟩;cases hq)
       simp only[aj]at mj
       subst mj
       rw[mR]at jL
       obtain⟨oE,s',r',q1,q2⟩:=hh.get hl Ai
       have XF:=q2.length
       split at hv
       ·rename_i Iv
        simp only[aj,bq]at hv
        obtain⟨rfl,rfl⟩:=hv
        refine⟨.tuple #[goInt 0,.bool false],w.setChan l.b cap ((⟨oE⟩:Array Value).push (a.eval x')) false (s'+1) r' false,μ,[i],?_,?_,fun b k cs is=>?_⟩
        rotate_left 2
        ·obtain⟨es,dH⟩:=Mg (b:=b) (k:=k) (cs:=cs) (rest:=is) ho hg y_ jL
         exact step_lone_select_send_room dH q1 (by simp;omega)
        ·exact⟨_,rfl,by simp[aX,VR,goInt]⟩
        ·refine bB.write hh hl Ai rfl rfl rfl rfl (by simp[size_setChan]) (fun b hb=>?_) ⟨oE++[a.eval x'],s'+1,r',?_,q2.append (fO.2 ⟨_,[],rfl,R9,by simp[aX]⟩)⟩
         ·simp only[World.setChan];rw[FO (Ne.symm hb)]
         ·rw[heap_setChan _ _ _ _ _ _ _ _ (hh.cG i l hl).2];simp
       ·rename_i Iv
        simp only[aj,bq]at hv
        obtain⟨rfl,rfl⟩:=hv
        refine⟨.tuple #[goInt (-1),.bool false],w,μ,[],?_,bB.refl hh,fun b k cs is=>?_⟩
        rotate_left
        ·obtain⟨es,dH⟩:=Mg (b:=b) (k:=k) (cs:=cs) (rest:=is) ho hg y_ jL
         exact step_lone_select_send_full dH q1 (by simp;omega)
        ·exact⟨_,rfl,by simp[aX,VR,goInt]⟩
      ·-- a receive
       rename_i cap u buf Ai
       rcases qC with⟨_,mR⟩|⟨_,_,hq,_⟩
       ·rw[mR]at jL
        obtain⟨oE,s',r',q1,q2⟩:=hh.get hl Ai
        obtain⟨y,ys,rfl,g1,g2⟩:=fO.1 q2
        simp only[aj,bq]at hv
        obtain⟨rfl,rfl⟩:=hv
        refine⟨.tuple #[goInt 0,.bool true,(⟨y::ys⟩:Array Value).getD 0 undef],w.setChan l.b cap ((⟨y::ys⟩:Array Value).extract 1 (⟨y::ys⟩:Array Value).size) false s' (r'+1) false,μ,[i],?_,?_,fun b k cs is=>?_⟩
        rotate_left 2
        ·obtain⟨es,dH⟩:=Mg (b:=b) (k:=k) (cs:=cs) (rest:=is) ho hg y_ jL
         exact step_lone_select_recv_buf dH q1 (by simp)
        ·exact⟨_,rfl,fO.2 ⟨_,_,rfl,by simp[VR,goInt],fO.2 ⟨_,_,rfl,by simp[VR],fO.2 ⟨_,_,rfl,by simpa using g1,by simp[aX]⟩⟩⟩⟩
        ·refine bB.write hh hl Ai rfl rfl rfl rfl (by simp[size_setChan]) (fun b hb=>?_) ⟨ys,s',r'+1,?_,g2⟩
         ·simp only[World.setChan];rw[FO (Ne.symm hb)]
         ·rw[heap_setChan _ _ _ _ _ _ _ _ (hh.cG i l hl).2]
          congr 2
          apply wZ
          simp
       ·cases hq
      ·rename_i cap Ai
       rcases qC with⟨_,mR⟩|⟨_,_,hq,_⟩
       ·rw[mR]at jL
        obtain⟨oE,s',r',q1,q2⟩:=hh.get hl Ai
        simp only[aX]at q2;subst q2
        simp only[aj,bq]at hv
        obtain⟨rfl,rfl⟩:=hv
        refine⟨.tuple #[goInt (-1),.bool false,zx],w,μ,[],?_,bB.refl hh,fun b k cs is=>?_⟩
        rotate_left
        ·obtain⟨es,dH⟩:=Mg (b:=b) (k:=k) (cs:=cs) (rest:=is) ho hg y_ jL
         exact step_lone_select_default dH q1
        ·exact⟨_,rfl,fO.2 ⟨_,_,rfl,by simp[VR,goInt],fO.2 ⟨_,_,rfl,by simp[VR],fO.2 ⟨_,_,rfl,wc μ,by simp[aX]⟩⟩⟩⟩
       ·cases hq
      ·cases hv
     obtain⟨x,w1,μ1,ws,hx,sw,dH⟩:=key
     have nc:=sw.mono hh
     have nK:jW μ1 dh (a.put o.dst x):=(hf.mono nc).put hx R8
     have Iw:List.range ops.size=0::(List.range rest.length).map (·+1):=by
      rw[fz,List.range_succ_eq_map]
     have Sa:((List.range rest.length).map (·+1)).map (fun i=>ops[i]?)=rest.map some:=by
      apply m7
      intro j
      simp only[List.map_map,jf]
      by_cases hj:j<rest.length
      ·have:ops[j+1]?=rest[j]?:=by rw[<-wV,DL];rfl
       simp[hj,this]
      ·simp[hj]
     have Sb:=XG (lb:=lb) (Q:=rn P μ w st .normal vZ eD) bR hE _ _ Sa sw.hr nK hm (fun a' w' μ' zA q1 q2=>⟨rfl,μ',_,sw.trans q2,q1⟩)
     intro b k cs km hb hr
     obtain⟨e,a',w',q,fX⟩:=wp_opsIn _ _ _ Sb b k cs km hb hr
     refine⟨e,a',w',q,.of_steps (.one (fenced_calm hb hr rfl) stepR_region) ?_⟩
     rw[Iw]
     refine .of_steps (.one (fenced_oper hb hr ho fun f hf=>by rw[gT]at hf;cases hf) (dH b k cs _)) ?_
     rw[Frame.finish_atR,ho]
     exact fX
    ·cases h
   ·cases h
  ·cases h
 ·cases h
end
end Go.Mx
