/-
  The machine M's runs stand for the Go model's: functions, rounds, the statement that ranges over a function.
-/
import Derived.Test.YtlbophlgohokkaaGreatDoorMxOps
import Derived.Conc.LoneSelect
set_option linter.all false
namespace Go.Mx
open Go
section
variable {P:Program} {μ:Mu} {w:World} {st av:St} {fr bE:Fr} {a:Act} {call:cA} {v:V} {lb:Option Nat}
theorem Up:∀(vs:List V) (r:T V) (i t:Nat),(tI r i vs).get t=if i<=t/\t<i+vs.length then vs[t-i]? else r.get t
 |[],r,i,t=>by simp[tI];omega
 |v::vs,r,i,t=>by
  simp only[tI]
  rw[Up vs (r.set i v) (i+1) t,T.ah]
  by_cases h:t=i
  ·subst h
   rw[ar (by omega),aF rfl,aF (by simp)];simp
  ·by_cases h2:i+1<=t/\t<i+1+vs.length
   ·rw[aF h2,aF (by simp;omega)]
    rw[show t-i=(t-(i+1))+1 by omega];simp
   ·rw[ar h2,ar h,ar (by simp;omega)]
theorem Yhi{vs:List V}{xs:List Value}{n:Nat}(h:aW μ vs xs)(hl:vs.length<=n):RR μ (tI .nil 0 vs) n ((⟨xs⟩:Array Value)++Array.replicate (n-(⟨xs⟩:Array Value).size) undef):=by
 have yB:=h.length
 refine⟨by simp;omega,fun t v hv=>?_⟩
 rw[Up]at hv
 split at hv
 ·rename_i ht
  simp only[Nat.sub_zero]at hv
  obtain⟨x,hx,hr⟩:=h.get hv
  refine⟨x,?_,hr⟩
  rw[Array.getElem?_append_left (by simp;omega)]
  simpa using hx
 ·simp[T.get]at hv
def J3(tmps:Array Value):ResultVar->Sem Value
 |.tmp t=>pure (tmps.getD t undef)
 |.cell a t=>do loadVar t (<-asAddr (tmps.getD a undef))
theorem OU(hh:bm P μ w st){r:T V}{n:Nat}{tmps:Array Value}(hr:RR μ r n tmps):∀{rs:List ResultVar} {ms:List Bg},zy P rs=some ms->∀{vs:List V},fU r st ms=some vs->
  ∃xs,(rs.mapM (J3 tmps)).run P w=.ok xs w/\aW μ vs xs
 |[],ms,hc,vs,hv=>by
  simp only[zy,ai]at hc;subst hc
  simp only[fU,ai]at hv;subst hv
  exact⟨[],by simp,by simp[aW]⟩
 |.tmp t::rs,ms,hc,vs,hv=>by
  simp only[zy,iA]at hc
  obtain⟨ms',lV,rfl⟩:=hc
  simp only[fU]at hv
  split at hv
  ·rename_i u us hu qD
   simp only[ai]at hv;subst hv
   obtain⟨xs,h1,h2⟩:=OU hh hr lV qD
   obtain⟨x,hx,xe⟩:=hr.2 _ _ hu
   refine⟨x::xs,?_,gg.2 ⟨_,_,rfl,xe,h2⟩⟩
   simp only[List.mapM_cons,J3,Sem.run_bind,Sem.run_pure,Result.andThen_ok,h1]
   simp[Bk,hx]
  ·cases hv
 |.cell t ty::rs,ms,hc,vs,hv=>by
  simp only[zy]at hc
  split at hc
  ·rename_i k ms' hk lV
   simp only[ai]at hc;subst hc
   simp only[fU]at hv
   split at hv
   ·rename_i i o us hu qD
    split at hv
    ·rename_i c e oD aj
     split at hv
     ·rename_i u ed
      simp only[ai]at hv;subst hv
      obtain⟨xs,h1,h2⟩:=OU hh hr lV qD
      obtain⟨x,hx,l,hl,rfl⟩:=hr.2 _ _ hu
      have tM:=hh.row hl aj
      have rI:∃y,(loadVar ty ⟨l.b,l.d+o,none⟩).run P w=.ok y w/\VR μ u y:=by
       cases k with
       |none=>
        simp only[aO]at ed
        obtain⟨y,hy,hv⟩:=tM.cell ed
        exact⟨y,by simp[loadVar,OV hk,Result.andThen,hy],hv⟩
       |some k=>
        simp only[aO]at ed
        split at ed
        ·rename_i q hq
         simp only[ai]at ed;subst ed
         obtain⟨ys,g1,_,g3,_⟩:=tM.uR hq
         exact⟨.agg ys.toArray,by simp[loadVar,(Ej hk).1,(Ej hk).2,Result.andThen,g3],ys,rfl,g1⟩
        ·cases ed
      obtain⟨y,nX,rJ⟩:=rI
      refine⟨y::xs,?_,gg.2 ⟨_,_,rfl,rJ,h2⟩⟩
      have ja:tmps.getD t undef=.pointer (some ⟨l.b,l.d+o,none⟩):=by simp[Bk,hx]
      have OW:(asAddr (tmps.getD t undef)).run P w=.ok ⟨l.b,l.d+o,none⟩ w:=by rw[ja];rfl
      simp only[List.mapM_cons,J3,Sem.run_bind,OW,Sem.run_pure,Result.andThen_ok,nX,h1]
     ·cases hv
    ·cases hv
   ·cases hv
  ·cases hc
theorem Ztp(hh:bm P μ w st){r:T V}{n:Nat}{tmps:Array Value}(hr:RR μ r n tmps){fn:Func}{ms:List Bg}(hc:zy P fn.results.toList=some ms){vs:List V}(hv:fU r st ms=some vs):
  ∃x,(results fn tmps).run P w=.ok x w/\VR μ (zU vs) x:=by
 obtain⟨xs,h1,h2⟩:=OU hh hr hc hv
 have hl:=h2.length
 refine⟨if h:xs.length=1 then xs[0] else .tuple ⟨xs⟩,?_,?_⟩
 ·show (do let vs <-fn.results.mapM (J3 tmps);pure (if h:vs.size=1 then vs[0] else .tuple vs):Sem Value).run P w=_
  rw[Array.mapM_eq_mapM_toList]
  simp only[Sem.run_bind,Sem.run_map,h1,Result.andThen_ok,Sem.run_pure]
  rfl
 ·rcases vs with _|⟨u,_|⟨u',vs⟩⟩
  ·simp only[aW]at h2;subst h2
   exact⟨[],rfl,by simp[aW]⟩
  ·obtain⟨y,ys,rfl,g1,g2⟩:=gg.1 h2
   simp only[aW]at g2;subst g2
   exact g1
  ·rw[dif_neg (by rw[hl];simp)]
   exact⟨xs,rfl,h2⟩
theorem Uq{fn:Func}{tmps:Array Value}{R:Ending->World->Prop}:∀{ms:List Nat} {ds:List Deferred} {st eh:St} {w:World},bm P μ w st->lY μ ms ds->shut st ms=some eh->
  (∀w' ws,bB P μ w st μ w' eh ws->∃v,(results fn tmps).run P w'=.ok v w'/\R (.returned v) w')->LeavesInM Fence.wide 0 P fn tmps R ds .returning w
 |[],ds,st,eh,w,hh,hd,hs,hR=>by
  simp only[lY]at hd;subst hd
  simp only[shut,ai]at hs;subst hs
  exact hR w [] (bB.refl hh)
 |m::ms,ds,st,eh,w,hh,hd,hs,hR=>by
  obtain⟨l,Af,h1,rfl,h3⟩:=hd
  simp only[shut]at hs
  split at hs
  ·rename_i hg
   have tM:=hh.get h1 hg
   have Ge:bB P μ w st μ (w.putObj l.b (.deferred none)) (st.write m (.defs false)) [m]:=
    bB.write hh h1 hg rfl rfl rfl rfl (World.putObj_size) (fun b hb=>World.putObj_heap_other hb) (World.putObj_heap_same (hh.cK m l h1).2)
   refine⟨by simp,.inl ⟨l.b,_,rfl,run_takeDeferred tM,?_⟩⟩
   exact Uq Ge.hr h3 hs fun w' ws im=>hR w' _ (Ge.trans im)
  ·cases hs
theorem bB.fold{μ':Mu}{w':World}{ws:List Nat}(h0:bm P μ w st)(h:bB P μ w {st with w:=[]} μ' w' av ws):bB P μ w st μ' w' {av with w:=au st.n av.w++st.w} (au st.n av.w):=by
 have yy:∀(l:List Nat) (i:Nat),i<st.n->(i∈au st.n l↔i∈l):=by
  intro l i hi
  induction l with
  |nil=>simp[au]
  |cons j l ih=>
   simp only[au]
   split
   ·unfold qo
    split
    ·rename_i hc
     simp only[jN,ih]
     simp only[JG]at hc
     constructor
     ·exact .inr
     ·rintro(rfl|h)
      ·exact ih.1 hc
      ·exact h
    ·simp only[jN,ih]
   ·simp only[jN,ih]
    constructor
    ·exact .inr
    ·rintro(rfl|h)
     ·omega
     ·exact h
 have J4:av.w=ws:=by have:=h.wl;simpa using this
 have hs:∀i,i<st.n->(i∈au st.n av.w↔i∈ws):=fun i hi=>by rw[yy _ i hi,J4]
 exact {
  hr:=⟨h.hr.cK,h.hr.obj,h.hr.inj,h.hr.fE⟩
  ext:=h.ext
  fi:=h.fi
  wl:=rfl
  dk:=⟨h.dk.os,h.dk.tape,h.dk.output,h.dk.size,fun b hb cM=>h.dk.block b hb fun i hi l hl=>cM i ((hs i (h0.cK i l hl).1).2 hi) l hl⟩
  new:=fun i l hi hl=>by
   rcases h.new i l hi hl with h'|⟨j,hj,wK,r⟩
   ·exact .inl h'
   ·exact .inr ⟨j,(hs j wK).2 hj,wK,r⟩
  ad:=fun i hi cM=>h.ad i hi fun hc=>cM ((hs i hi).2 hc)
  grow:=h.grow
  full:=h.full
  rk:=fun i hi hn=>h.rk i ((hs i hn).1 hi) hn}
theorem bm.now(h:bm P μ w st)(l:List Nat):bm P μ w {st with w:=l}:=⟨h.cK,h.obj,h.inj,h.fE⟩
theorem Ur{code:mB}(ky:Ek P code){f:FuncId}{fn:Func}{mf:ji}(hf:P.funcs[f]?=some fn)(hc:td P f=some mf){args:List V}{xs:List Value}(hh:bm P μ w st)(hx:aW μ args xs)
  (h:yk mf code args st=some (v,av)):CallsIn Fence.wide 0 P f ⟨xs⟩ w (B1 fun x w'=>∃μ' ws,VR μ' v x/\bB P μ w st μ' w' av ws):=by
 unfold td at hc
 rw[hf]at hc
 simp only at hc
 split at hc
 ·rename_i c rs hb OX
  simp only[ai]at hc;subst hc
  unfold yk at h
  split at h
  ·cases h
  ·rename_i hle
   simp only at hle h
   have fin:∀(ex:Ex) (dw:Fr) (bR:St),(ex=.normal\/ex=.ret)->code none (gL P c) {r:=tI .nil 0 args,n:=fn.ntmps,marks:=[]} {st with w:=[]}=some (ex,dw,bR)->
     (match shut bR dw.marks with
      |none=>none
      |some eh=>match fU dw.r eh rs with
       |some vs=>some (zU vs,{eh with w:=au st.n eh.w++st.w})
       |none=>none)=some (v,av)->
     CallsIn Fence.wide 0 P f ⟨xs⟩ w (B1 fun x w'=>∃μ' ws,VR μ' v x/\bB P μ w st μ' w' av ws):=by
    intro ex dw bR hex bI ef
    split at ef
    ·cases ef
    ·rename_i eh Gf
     split at ef
     ·rename_i vs B2
      simp only[ai,bo]at ef
      obtain⟨rfl,rfl⟩:=ef
      refine callsIn_of_wp_marks hf hb trivial (wpIn_mono (ky none c _ _ _ _ _ bI μ w _ none (hh.now []) ⟨Yhi hx (tA hle),rfl⟩ trivial) fun e a' w' hp=>?_)
      obtain⟨rfl,μ1,ws,hs,sV⟩:=hp
      have hl:LeavesInM Fence.wide 0 P fn a'.tmps (B1 fun x w'=>∃μ' ws,VR μ' (zU vs) x/\bB P μ w st μ' w' {eh with w:=au st.n eh.w++st.w} ws) a'.defers .returning w':=by
       refine Uq hs.hr sV.2 Gf fun w2 OY kI=>?_
       obtain⟨x,vw,El⟩:=Ztp kI.hr sV.1 OX B2
       exact⟨x,vw,μ1,_,El,(hs.trans kI).fold hh⟩
      rcases hex with rfl|rfl
      ·exact hl
      ·exact hl
     ·cases ef
   unfold Oi at h
   split at h
   ·cases h
   ·rename_i ex dw bR bA bI
    exact fin ex dw bR (by cases ex with|normal=>exact .inl rfl|ret=>exact .inr rfl|exit id=>exact(bA id rfl).elim) (by assumption) h
   ·cases h
 ·cases hc
theorem Us:∀{ps:List Nat} {vs:List V} {r r':T V} {n:Nat} {tmps:Array Value} {xs:List Value},RR μ r n tmps->aW μ vs xs->BO r n ps vs=some r'->
  xs.length=ps.length/\RR μ r' n ((ps.zip xs).foldl (fun (tmps:Array Value) (p:Nat×Value)=>tmps.setIfInBounds p.1 p.2) tmps)
 |[],[],r,r',n,tmps,xs,hr,hx,h=>by
  simp only[aW]at hx;subst hx
  simp only[BO,ai]at h;subst h
  exact⟨rfl,hr⟩
 |[],_::_,r,r',n,tmps,xs,hr,hx,h=>by simp[BO]at h
 |_::_,[],r,r',n,tmps,xs,hr,hx,h=>by simp[BO]at h
 |p::ps,v::vs,r,r',n,tmps,xs,hr,hx,h=>by
  obtain⟨y,ys,rfl,h1,h2⟩:=gg.1 hx
  simp only[BO]at h
  split at h
  ·rename_i hp
   obtain⟨g1,g2⟩:=Us (hr.set hp h1) h2 h
   exact⟨by simp[g1],by simpa using g2⟩
  ·cases h
theorem Zzg(e:Ex):((pK e).bind uF).isNone=(pK e).isNone:=by cases e<;>rfl
theorem bB.loop(hh:bm P μ w st){i:Nat}{l:L}(hl:μ i=some l){R R':TM}(hg:st.h.get i=some (.loop R))(h1:R'.r=R.r)(h2:R'.n=R.n)(h3:R'.ps=R.ps)(h4:R'.assign=R.assign)(h5:R'.body=R.body)(h6:R'.defs=R.defs):
  ∃rec,w.heap[l.b]?=some (.loop rec)/\rec.state=R.st/\rec.pending=R.gC.bind uF/\
   bB P μ w st μ (w.putObj l.b (.loop {rec with state:=R'.st,pending:=R'.gC.bind uF})) (st.write i (.loop R')) [i]:=by
 obtain⟨fn,tmps,fj,fk,ld,g1,g2,g3,g4,g5⟩:=hh.get hl hg
 refine⟨_,g1,rfl,rfl,bB.write hh hl hg rfl rfl rfl rfl World.putObj_size (fun b hb=>World.putObj_heap_other hb) ⟨fn,tmps,fj,fk,ld,?_,?_,?_,?_,?_⟩⟩
 ·rw[World.putObj_heap_same (hh.cK i l hl).2,h3]
 ·rw[h1,h2];exact g2
 ·rw[h4];exact g3
 ·rw[h5];exact g4
 ·rw[h6];exact g5
theorem Yft{code:mB}(ky:Ek P code){l:Nat}{args:List V}{xs:List Value}{L0:L}(hh:bm P μ w st)(hl:μ l=some L0)(hx:aW μ args xs)(h:BP code l args st=some (v,av)):
  ∃f tmps fj fk,(Instr.yield L0.b ⟨xs⟩).run P w=.ok (.round L0.b f tmps fj fk) w/\RoundIn Fence.wide 0 P L0.b f tmps fj fk w (B1 fun x w'=>∃μ' ws,VR μ' v x/\bB P μ w st μ' w' av ws):=by
 unfold BP at h
 split at h
 ·rename_i R hg
  obtain⟨fn,tmps,fj,fk,ld,g1,g2,g3,g4,g5⟩:=hh.get hl hg
  split at h
  ·cases h
  ·rename_i r0 eK
   obtain⟨q1,q2⟩:=Us g2 hx eK
   have hy:=run_yield (P:=P) (args:=⟨xs⟩) g1 (by simpa using q1)
   refine⟨_,_,_,_,hy,?_⟩
   have htm:(((⟨R.ps⟩:Array Nat).zip (⟨xs⟩:Array Value)).foldl (fun tmps (p:Nat×Value)=>tmps.setIfInBounds p.1 p.2) tmps)=(R.ps.zip xs).foldl (fun (tmps:Array Value) (p:Nat×Value)=>tmps.setIfInBounds p.1 p.2) tmps:=by simp
   refine roundIn_of_wpIn (F:=Fence.wide) trivial ?_
   split at h
   ·rename_i dw bR Ah
    rw[<-g3]at Ah
    refine wpIn_mono (ky (some l) fj _ _ _ _ _ Ah μ w {tmps:=(((⟨R.ps⟩:Array Nat).zip (⟨xs⟩:Array Value)).foldl (fun tmps (p:Nat×Value)=>tmps.setIfInBounds p.1 p.2) tmps),defers:=[]} (some L0.b) hh ⟨by rw[htm];exact q2,rfl⟩ ⟨L0,hl,rfl⟩) fun e a1 w1 hp=>?_
    have nQ:=hp
    obtain⟨he,μ1,ws1,qE,sV⟩:=hp
    refine nQ.then (fun _=>?_) (fun bA=>absurd rfl bA)
    split at h
    ·rename_i R1 yC
     split at h
     ·rename_i B3
      have B4:=qE.mono hh _ _ hl
      obtain⟨Gg,k1,k2,k3,k4⟩:=bB.loop (R':={R1 with st:=.busy}) qE.hr B4 yC rfl rfl rfl rfl rfl rfl
      refine⟨_,run_beginRound k1 (k2.trans B3),?_⟩
      have OZ:({Gg with state:=LoopState.busy,pending:=R1.gC.bind uF}:Loop)={Gg with state:=.busy}:=by rw[<-k3]
      rw[OZ]at k4
      split at h
      ·rename_i e2 tN eh Ai
       rw[<-g4]at Ai
       refine wpIn_mono (ky (some l) fk _ _ _ _ _ Ai μ1 _ a1 (some L0.b) k4.hr (sV.mono (k4.mono qE.hr)) ⟨L0,B4,rfl⟩) fun e a2 w2 tO=>?_
       obtain⟨qe,μ2,OY,kI,dX⟩:=tO
       split at h
       ·rename_i R2 O0
        simp only[ai,bo]at h
        obtain⟨rfl,rfl⟩:=h
        have jq:=kI.mono k4.hr _ _ B4
        obtain⟨O3,m1,m2,m3,m4⟩:=bB.loop (R':={R2 with st:=FT (pK e2),gC:=pK e2}) kI.hr jq O0 rfl rfl rfl rfl rfl rfl
        have ef:=run_endRound (P:=P) ((pK e2).bind uF) m1
        have dH:(if ((pK e2).bind uF).isNone=true then LoopState.ready else LoopState.done)=FT (pK e2):=by cases e2<;>rfl
        rw[dH,Zzg]at ef
        have hR:B1 (fun x w'=>∃μ' ws,VR μ' (.bool (pK e2).isNone) x/\bB P μ w st μ' w' (eh.write l (.loop {R2 with st:=FT (pK e2),gC:=pK e2})) ws) (.returned (.bool (pK e2).isNone))
          (w2.putObj L0.b (.loop {O3 with state:=FT (pK e2),pending:=(pK e2).bind uF})):=
         ⟨μ2,_,by simp[VR],((qE.trans k4).trans kI).trans m4⟩
        subst qe
        cases e2 with
        |normal=>exact⟨_,_,ef,hR⟩
        |exit id=>exact⟨_,_,ef,hR⟩
        |ret=>exact⟨_,_,ef,hR⟩
       ·cases h
      ·cases h
     ·cases h
    ·cases h
   ·cases h
 ·cases h
def O4(P:Program)(dm:Nat->Option ji):Prop:=
 ∀f mf,dm f=some mf->td P f=some mf/\∀fn,P.funcs[f]?=some fn->(fn.name== "runtime.NumGoroutine")=false
theorem Ut{f:FuncId}{mf:ji}(h:td P f=some mf):∃fn,P.funcs[f]?=some fn/\fn.body.isSome=true:=by
 unfold td at h
 split at h
 ·rename_i fn hf
  refine⟨fn,hf,?_⟩
  split at h
  ·rename_i hb _;rw[hb];rfl
  ·cases h
 ·cases h
theorem Zu2{dm:Nat->Option ji}{code:mB}(ht:O4 P dm)(ky:Ek P code):ik P (sS dm code):=by
 intro g args st v av h μ w G xs hh hg hx
 unfold sS at h
 split at h
 ·rename_i f first fC
  split at h
  ·rename_i mf hmf
   obtain⟨a',c',rfl,h1,h2⟩:=hg
   obtain⟨hc,Gh⟩:=ht f mf hmf
   obtain⟨fn,hf,hb⟩:=Ut hc
   refine⟨{target:=.fn (.func f) ⟨c'⟩,args:=⟨a'⟩++⟨xs⟩},by simp[Deferred.ofValue],.inl ⟨rfl,f,⟨a'++xs++c'⟩,?_,?_⟩⟩
   ·have hn:fn.name≠ "runtime.NumGoroutine" :=by simpa using Gh fn hf
    simp[invoke,callFunc,hf,hn]
    intro hq
    rw[hq]at hb
    cases hb
   ·exact Ur ky hf hc hh ((h1.append hx).append h2) h
  ·cases h
 ·rename_i l
  obtain⟨L0,hl,rfl⟩:=hg
  obtain⟨f,tmps,fj,fk,q1,q2⟩:=Yft ky hh hl hx h
  refine⟨{target:=.fn (.yield L0.b) #[],args:=⟨xs⟩},by simp[Deferred.ofValue],.inr ⟨rfl,L0.b,f,tmps,fj,fk,?_,q2⟩⟩
  simp[invoke,q1]
 ·cases h
theorem Ykt{a2:Act}{w4:World}{tN:Fr}{O5:St}:∀(q:Option Ex),pM P μ w st (match q with|none=>.normal|some e=>e) tN O5 (Em (match q with|none=>.normal|some e=>e)) a2 w4->
  (match q.bind uF with
   |none=>pM P μ w st (match q with|none=>.normal|some e=>e) tN O5 .normal a2 w4
   |some c=>c.wpIn (FE lb) 0 P (pM P μ w st (match q with|none=>.normal|some e=>e) tN O5) a2 w4)
 |none,h=>h
 |some .normal,h=>h
 |some (.exit _),h=>wpIn_exit h
 |some .ret,h=>wpIn_ret h
theorem Uu(bQ:ik P call):Uv P call:=by
 intro ro g s ps fj fk fr st ex bE av hs h μ w a lb hh hf jX
 unfold yi at h
 split at h
 ·cases h
 ·rename_i gv hgv
  have hG:=cJ hh hf.1 hs hgv
  rw[DO]at h
  obtain⟨hy,h⟩:=h
  have qF:gv.D6=false:=by simpa using hy
  split at h
  ·cases h
  ·rename_i bR d mk g_
   split at h
   ·cases h
   ·rename_i x eh hc
    split at h
    ·rename_i R O0
     rw[DO]at h
     obtain⟨Gi,h⟩:=h
     simp only[ai,bo]at h
     obtain⟨rfl,rfl,rfl⟩:=h
     refine wpIn_rangeFunc fun fn _=>?_
     have common:∀(l:Nat) (mark:List Deferred) (w0:World) (μ0:Mu) (Uw:List Nat) (db:Nat),bB P μ w st μ0 w0 bR Uw->l=w0.heap.size->(∃ld,μ0 d=some ld/\ld.b=db)->
       (Instr.enterLoop fn a.tmps ps fj fk (FE lb).round).run P w=.ok (l,mark) (w0.alloc (.loop {state:=.ready,pending:=none,fn,tmps:=a.tmps,params:=ps,assign:=fj,body:=fk,defers:=db}))->
       (∀ms ds,lY μ0 ms ds->lY μ0 (mk++ms) (mark++ds))->
       ∃(l:Nat) (mark:List Deferred) (w₁:World) (d:Deferred) (O6:World) (f:FuncId) (args:Array Value) (w₂:World),
        (Instr.enterLoop fn a.tmps ps fj fk (FE lb).round).run P w=.ok (l,mark) w₁/\
        (resolve a.eval (rangeCall g l) 0).run P w₁=.ok d O6/\
        (∀f',Target.leads P O6 d.target d.args=some f'->(FE lb).fn f')/\
        (invoke d.target d.args).run P O6=.ok (.enter f args) w₂/\
        ((FE lb).depth.isSome=true->1<=0)/\
        CallsIn (FE lb) (0-1) P f args w₂ (rangePost (FE lb) 0 P l (pM P μ w st (match R.gC with|none=>.normal|some e=>e) {fr with marks:=mk++fr.marks} (eh.write bR.n (.loop {R with st:=.exhausted}))) {a with defers:=mark++a.defers}):=by
      intro l mark w0 μ0 Uw db rK ff hdb hent vi
      subst ff
      obtain⟨ld,oR,fu⟩:=hdb
      have fA:=rK.mono hh
      have bA:d≠bR.n:=fun hc=>by have:=(rK.hr.cK d ld oR).1;omega
      have gn:bB P μ0 w0 bR (fun i=>if i=bR.n then some ⟨w0.heap.size,0,0⟩ else μ0 i) (w0.alloc (.loop {state:=.ready,pending:=none,fn,tmps:=a.tmps,params:=ps,assign:=fj,body:=fk,defers:=db}))
        (bR.alloc (.loop {st:=.ready,gC:=none,r:=fr.r,n:=fr.n,ps:=ps.toList,assign:=gL P fj,body:=gL P fk,defs:=d})) []:=by
       have dc:∀i l,μ0 i=some l->(fun i=>if i=bR.n then some (⟨w0.heap.size,0,0⟩:L) else μ0 i) i=some l:=fun i l hl=>by
        have:=(rK.hr.cK i l hl).1
        simp only
        rw[ar (by omega)];exact hl
       refine bB.alloc rK.hr _ (.loop {state:=.ready,pending:=none,fn,tmps:=a.tmps,params:=ps,assign:=fj,body:=fk,defers:=db}) 0 0 ⟨fn,a.tmps,fj,fk,ld,?_,(hf.1.mono fA).mono dc,rfl,rfl,?_⟩
       ·show (w0.heap.push _)[w0.heap.size]?=_
        simp[fu]
       ·simp only;rw[ar bA];exact oR
      have qE:=rK.trans gn
      have jo:=qE.mono hh
      obtain⟨dd,mF,fX⟩:=bQ gv [.yield bR.n] _ x eh hc _ _ (a.eval g) [.func (.yield w0.heap.size) #[] #[]] gn.hr (VR.mono jo _ _ hG) (gg.2 ⟨_,[],rfl,⟨⟨w0.heap.size,0,0⟩,by simp,rfl⟩,by simp[aW]⟩)
      rcases fX with⟨_,f,args,hinv,Eg⟩|⟨Ux,_⟩
      ·refine⟨w0.heap.size,mark,_,dd,_,f,args,_,hent,?_,fun _ _=>trivial,hinv,fun hx=>by simp[Fence.wide]at hx,?_⟩
       ·have e0:(#[Operand.const (.func (.yield w0.heap.size) #[] #[])]).map a.eval=(⟨[.func (.yield w0.heap.size) #[] #[]]⟩:Array Value):=by simp[Act.eval]
        simp only[resolve,e0]
        exact mF
       ·refine CallsIn.mono (F:=Fence.wide) Eg fun e w3 he=>?_
        cases e with
        |panicked _=>exact he.elim
        |outgrown=>exact he.elim
        |returned y=>
         obtain⟨μ2,OY,_,kI⟩:=he
         have jq:μ2 bR.n=some ⟨w0.heap.size,0,0⟩:=kI.mono gn.hr _ _ (by simp)
         obtain⟨rec,m1,m2,m3,m4⟩:=bB.loop (R':={R with st:=.exhausted}) kI.hr jq O0 rfl rfl rfl rfl rfl rfl
         have ef:=run_endLoop (P:=P) m1 (by rw[m2];exact Gi)
         have Uy:=(qE.trans kI).trans m4
         have O7:({rec with state:=.exhausted,pending:=R.gC.bind uF}:Loop)={rec with state:=.exhausted}:=by rw[<-m3]
         rw[O7]at Uy
         have tL:jI μ2 {fr with marks:=mk++fr.marks} {a with defers:=mark++a.defers}:=by
          refine⟨(hf.1.mono jo).mono (kI.mono gn.hr),?_⟩
          exact((vi _ _ (hf.2.mono fA)).mono (gn.mono rK.hr)).mono (kI.mono gn.hr)
         have fin:pM P μ w st (match R.gC with|none=>.normal|some e=>e) {fr with marks:=mk++fr.marks} (eh.write bR.n (.loop {R with st:=.exhausted})) (Em (match R.gC with|none=>.normal|some e=>e)) {a with defers:=mark++a.defers} _:=⟨rfl,μ2,_,Uy,tL⟩
         exact⟨R.gC.bind uF,_,by rw[<-m3];exact ef,Ykt R.gC fin⟩
      ·rw[qF]at Ux;cases Ux
     cases ro with
     |none=>
      cases lb with
      |some _=>exact jX.elim
      |none=>
       simp only[Oh,ai,bo]at g_
       obtain⟨rfl,rfl,rfl⟩:=g_
       have xS:bB P μ w st (fun i=>if i=st.n then some ⟨w.heap.size,0,0⟩ else μ i) (w.alloc (.deferred (some []))) (st.alloc (.defs true)) []:=
        bB.alloc hh (.defs true) (.deferred (some [])) 0 0 (by simp only[OM];show (w.heap.push _)[w.heap.size]?=_;simp)
       refine common (w.heap.size+1) [{target:=.collected w.heap.size,args:=#[]}] (w.alloc (.deferred (some []))) _ [] w.heap.size xS (by simp) ⟨⟨w.heap.size,0,0⟩,by simp,rfl⟩ (run_enterLoop_outer ..) fun ms ds hd=>⟨⟨w.heap.size,0,0⟩,ds,by simp,rfl,hd⟩
     |some l0=>
      cases lb with
      |none=>exact jX.elim
      |some b=>
       obtain⟨L0,ff,rfl⟩:=jX
       simp only[Oh]at g_
       split at g_
       ·rename_i R0 yu
        simp only[ai,bo]at g_
        obtain⟨rfl,rfl,rfl⟩:=g_
        obtain⟨fn0,Uz,zad,zae,UA,g1,g2,g3,g4,g5⟩:=hh.get ff yu
        refine common w.heap.size [] w μ [] UA.b (bB.refl hh) rfl ⟨UA,g5,rfl⟩ ?_ (fun ms ds hd=>hd)
        show (Instr.enterLoop fn a.tmps ps fj fk (some L0.b)).run P w=_
        unfold Instr.enterLoop
        simp only[Sem.run_bind,run_getLoop g1,run_newObj_alloc,Result.andThen,Sem.run_pure]
       ·cases g_
    ·cases h
end
open Go Go.Conc
section
variable {P:Program} {μ:Mu} {w:World} {st av:St} {fr bE:Fr} {a:Act} {call:cA} {v:V} {lb:Option Nat}
theorem Yec{o:Oper}{d:Option Nat}{ch:Src}{s:Option Src}{z:V}(h:JB P o=some (d,ch,s,z)):
  ∃c,o.op=.select #[c] false/\o.guard=none/\o.dst=d/\bu P c.chan=some ch/\nR P c.send=some s/\lD P c.elem=some z:=by
 unfold JB at h
 split at h
 ·rename_i cs sW hg
  split at h
  ·rename_i c i_
   split at h
   ·rename_i ch' s' z' h1 h2 h3
    simp only[ai,bo]at h
    obtain⟨rfl,rfl,rfl,rfl⟩:=h
    have:=yD i_
    subst this
    exact⟨c,sW,hg,rfl,h1,h2,h3⟩
   ·cases h
  ·cases h
 ·cases h
theorem J5{b:Frame}{ops:Array Oper}{i:Nat}{rest:List Nat}{k:List Item}{cs:List Frame}{o:Oper}{cases:Array CommCase}(ho:ops[i]?=some o)(hg:o.guard=none)(xf:∀c,o.op≠.defer c)
  (bI:(execOp a.eval o).run P w=.ok (.comm cases false .select) w):
  ∃es,stepG P true (G (b.atR a (.inRegion ops (i::rest)::k)) cs) w=.comm (G (b.atR a (.inRegion ops (i::rest)::k)) cs) cases false .select w es:=by
 have hw:Region.wanted o (yielded ops a.tmps)=true:=by simp[Region.wanted,hg]
 have h:=stepGR_op (P:=P) (b:=b) (a:=a) (k:=k) (cs:=cs) (w:=w) (rest:=rest) ho hw
 have vz:((o.semAt b.roundOf a.eval).runT P w #[]).1=.ok (.comm cases false .select) w:=by
  rw[Sem.runT_fst,Oper.semAt_eq _ _ _ xf];exact bI
 unfold G
 rw[h]
 unfold stepG.apply
 generalize hr:(o.semAt b.roundOf a.eval).runT P w #[]=r at vz
 obtain⟨r1,r2⟩:=r
 simp only at vz
 subst vz
 exact⟨_,rfl⟩
theorem Ztl{o:Oper}{c:SelectCase}(sW:o.op=.select #[c] false){zx:Value}(hz:(zeroValue c.elem).run P w=.ok zx w):
  (execOp a.eval o).run P w=.ok (.comm #[{chan:=a.eval c.chan,send:=c.send.map a.eval,zero:=zx}] false .select) w:=by
 unfold execOp
 rw[sW]
 simp[hz,Result.andThen]
theorem UB(bQ:ik P call)(hE:pr P):UC P call:=by
 intro id ops o rest d ch s z fr st ex bE av B5 O8 h μ w a lb hh hf
 obtain⟨c,sW,hg,rfl,h1,h2,h3⟩:=Yec O8
 have ho:ops[0]?=some o:=by rw[<-uI,B5];rfl
 have xf:∀c',o.op≠.defer c':=fun c' hc=>by rw[sW]at hc;cases hc
 have eH:o.about P w a.eval=none:=by unfold Oper.about;rw[sW]
 have iz:ops.size=rest.length+1:=by rw[<-Array.length_toList,B5];rfl
 obtain⟨zx,En,tP⟩:=UD (w:=w) h3
 have jt:=Ztl (a:=a) sW En
 unfold uU at h
 split at h
 ·rename_i i sv Gj O9
  obtain⟨l,hl,e1⟩:=cJ hh hf.1 h1 Gj
  rw[e1]at jt
  have oL:=UE hh hf.1 h2 O9
  split at h
  ·rename_i v1 bR hv
   split at h
   ·rename_i dw Pa
    split at h
    ·rename_i tN eh hm
     simp only[ai,bo]at h
     obtain⟨rfl,rfl,rfl⟩:=h
     have key:∃x w1 μ1 ws,VR μ1 v1 x/\bB P μ w st μ1 w1 bR ws/\∀(b:Frame) (k:List Item) (cs:List Frame) (is:List Nat),
       step P (lone (b.atR a (.inRegion ops (0::is)::k)) cs w)=.next (lone ((b.atR a (.inRegion ops (0::is)::k)).finish x) cs w1):=by
      unfold JO at hv
      split at hv
      ·-- a send
       rename_i cap buf u yC
       obtain⟨u',x',kJ,ja,hvr⟩:=oL.resolve_left (by rintro⟨hq,_⟩;cases hq)
       simp only[ai]at kJ
       subst kJ
       rw[ja]at jt
       obtain⟨nc,s',r',q1,q2⟩:=hh.get hl yC
       have Pb:=q2.length
       split at hv
       ·rename_i Gk
        simp only[ai,bo]at hv
        obtain⟨rfl,rfl⟩:=hv
        refine⟨.tuple #[goInt 0,.bool false],w.setChan l.b cap ((⟨nc⟩:Array Value).push (a.eval x')) false (s'+1) r' false,μ,[i],?_,?_,fun b k cs is=>?_⟩
        rotate_left 2
        ·obtain⟨es,dL⟩:=J5 (b:=b) (k:=k) (cs:=cs) (rest:=is) ho hg xf jt
         exact step_lone_select_send_room dL q1 (by simp;omega)
        ·exact⟨_,rfl,by simp[aW,VR,goInt]⟩
        ·refine bB.write hh hl yC rfl rfl rfl rfl (by simp[size_setChan]) (fun b hb=>?_) ⟨nc++[a.eval x'],s'+1,r',?_,q2.append (gg.2 ⟨_,[],rfl,hvr,by simp[aW]⟩)⟩
         ·simp only[World.setChan];rw[DM (Ne.symm hb)]
         ·rw[heap_setChan _ _ _ _ _ _ _ _ (hh.cK i l hl).2];simp
       ·rename_i Gk
        simp only[ai,bo]at hv
        obtain⟨rfl,rfl⟩:=hv
        refine⟨.tuple #[goInt (-1),.bool false],w,μ,[],?_,bB.refl hh,fun b k cs is=>?_⟩
        rotate_left
        ·obtain⟨es,dL⟩:=J5 (b:=b) (k:=k) (cs:=cs) (rest:=is) ho hg xf jt
         exact step_lone_select_send_full dL q1 (by simp;omega)
        ·exact⟨_,rfl,by simp[aW,VR,goInt]⟩
      ·-- a receive
       rename_i cap u buf yC
       rcases oL with⟨_,ja⟩|⟨_,_,hq,_⟩
       ·rw[ja]at jt
        obtain⟨nc,s',r',q1,q2⟩:=hh.get hl yC
        obtain⟨y,ys,rfl,g1,g2⟩:=gg.1 q2
        simp only[ai,bo]at hv
        obtain⟨rfl,rfl⟩:=hv
        refine⟨.tuple #[goInt 0,.bool true,(⟨y::ys⟩:Array Value).getD 0 undef],w.setChan l.b cap ((⟨y::ys⟩:Array Value).extract 1 (⟨y::ys⟩:Array Value).size) false s' (r'+1) false,μ,[i],?_,?_,fun b k cs is=>?_⟩
        rotate_left 2
        ·obtain⟨es,dL⟩:=J5 (b:=b) (k:=k) (cs:=cs) (rest:=is) ho hg xf jt
         exact step_lone_select_recv_buf dL q1 (by simp)
        ·exact⟨_,rfl,gg.2 ⟨_,_,rfl,by simp[VR,goInt],gg.2 ⟨_,_,rfl,by simp[VR],gg.2 ⟨_,_,rfl,by simpa using g1,by simp[aW]⟩⟩⟩⟩
        ·refine bB.write hh hl yC rfl rfl rfl rfl (by simp[size_setChan]) (fun b hb=>?_) ⟨ys,s',r'+1,?_,g2⟩
         ·simp only[World.setChan];rw[DM (Ne.symm hb)]
         ·rw[heap_setChan _ _ _ _ _ _ _ _ (hh.cK i l hl).2]
          congr 2
          apply uM
          simp
       ·cases hq
      ·rename_i cap yC
       rcases oL with⟨_,ja⟩|⟨_,_,hq,_⟩
       ·rw[ja]at jt
        obtain⟨nc,s',r',q1,q2⟩:=hh.get hl yC
        simp only[aW]at q2;subst q2
        simp only[ai,bo]at hv
        obtain⟨rfl,rfl⟩:=hv
        refine⟨.tuple #[goInt (-1),.bool false,zx],w,μ,[],?_,bB.refl hh,fun b k cs is=>?_⟩
        rotate_left
        ·obtain⟨es,dL⟩:=J5 (b:=b) (k:=k) (cs:=cs) (rest:=is) ho hg xf jt
         exact step_lone_select_default dL q1
        ·exact⟨_,rfl,gg.2 ⟨_,_,rfl,by simp[VR,goInt],gg.2 ⟨_,_,rfl,by simp[VR],gg.2 ⟨_,_,rfl,tP μ,by simp[aW]⟩⟩⟩⟩
       ·cases hq
      ·cases hv
     obtain⟨x,w1,μ1,ws,hx,qE,dL⟩:=key
     have jo:=qE.mono hh
     have sV:jI μ1 dw (a.put o.dst x):=(hf.mono jo).put hx Pa
     have Gl:List.range ops.size=0::(List.range rest.length).map (·+1):=by
      rw[iz,List.range_succ_eq_map]
     have Pc:((List.range rest.length).map (·+1)).map (fun i=>ops[i]?)=rest.map some:=by
      apply iW
      intro j
      simp only[List.map_map,iX]
      by_cases hj:j<rest.length
      ·have:ops[j+1]?=rest[j]?:=by rw[<-uI,B5];rfl
       simp[hj,this]
      ·simp[hj]
     have Pd:=UF (lb:=lb) (Q:=pM P μ w st .normal tN eh) bQ hE _ _ Pc qE.hr sV hm (fun a' w' μ' xW q1 q2=>⟨rfl,μ',_,qE.trans q2,q1⟩)
     intro b k cs jX hb hr
     obtain⟨e,a',w',q,fY⟩:=wp_opsIn _ _ _ Pd b k cs jX hb hr
     refine⟨e,a',w',q,.of_steps (.one (fenced_calm hb hr rfl) stepR_region) ?_⟩
     rw[Gl]
     refine .of_steps (.one (fenced_oper hb hr ho fun f hf=>by rw[eH]at hf;cases hf) (dL b k cs _)) ?_
     rw[Frame.finish_atR,ho]
     exact fY
    ·cases h
   ·cases h
  ·cases h
 ·cases h
end
end Go.Mx
