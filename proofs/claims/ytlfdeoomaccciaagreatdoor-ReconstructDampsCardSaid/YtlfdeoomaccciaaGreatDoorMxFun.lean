/-The machine M's runs stand for the Go mo-/
import Derived.Test.YtlfdeoomaccciaaGreatDoorMxOps
import Derived.Conc.LoneSelect
set_option linter.all false
namespace Go.Mx
open Go
section
variable {P:Program} {μ:Mu} {w:World} {st az:St} {fr bE:Fr} {a:Act} {call:cD} {v:V} {lb:Option Nat}
def Zng:∀(vs:List V) (r:T V) (i t:Nat),(zd r i vs).get t=if i<=t/\t<i+vs.length then vs[t-i]? else r.get t
 |[],r,i,t=>by simp[zd];omega
 |v::vs,r,i,t=>by
  simp only[zd]
  rw[Zng vs (r.set i v) (i+1) t,T.ag]
  by_cases h:t=i
  ·subst h
   rw[ak (by omega),ay rfl,ay (by simp)];simp
  ·by_cases h2:i+1<=t/\t<i+1+vs.length
   ·rw[ay h2,ay (by simp;omega)]
    rw[show t-i=(t-(i+1))+1 by omega];simp
   ·rw[ak h2,ak h,ak (by simp;omega)]
def Yi5{vs:List V}{xs:List Value}{n:Nat}(h:aS μ vs xs)(hl:vs.length<=n):RR μ (zd .nil 0 vs) n ((⟨xs⟩:Array Value)++Array.replicate (n-(⟨xs⟩:Array Value).size) undef):=by
 have uf:=h.length
 refine⟨by simp;omega,fun t v hv=>?_⟩
 rw[Zng]at hv
 split at hv
 ·rename_i ht
  simp only[Nat.sub_zero]at hv
  obtain⟨x,hx,hr⟩:=h.get hv
  refine⟨x,?_,hr⟩
  rw[Array.getElem?_append_left (by simp;omega)]
  simpa using hx
 ·simp[T.get]at hv
def Qt(tmps:Array Value):ResultVar->Sem Value
 |.tmp t=>pure (tmps.getD t undef)
 |.cell a t=>do loadVar t (<-asAddr (tmps.getD a undef))
def WK(hh:bm P μ w st){r:T V}{n:Nat}{tmps:Array Value}(hr:RR μ r n tmps):∀{rs:List ResultVar} {ms:List DX},DW P rs=some ms->∀{vs:List V},fz r st ms=some vs->
  ∃xs,(rs.mapM (Qt tmps)).run P w=.ok xs w/\aS μ vs xs
 |[],ms,hc,vs,hv=>by
  simp only[DW,aq]at hc;subst hc
  simp only[fz,aq]at hv;subst hv
  exact⟨[],by simp,by simp[aS]⟩
 |.tmp t::rs,ms,hc,vs,hv=>by
  simp only[DW,kj]at hc
  obtain⟨ms',pF,rfl⟩:=hc
  simp only[fz]at hv
  split at hv
  ·rename_i u us hu tj
   simp only[aq]at hv;subst hv
   obtain⟨xs,h1,h2⟩:=WK hh hr pF tj
   obtain⟨x,hx,BC⟩:=hr.2 _ _ hu
   refine⟨x::xs,?_,kW.2 ⟨_,_,rfl,BC,h2⟩⟩
   simp only[List.mapM_cons,Qt,Sem.run_bind,Sem.run_pure,Result.andThen_ok,h1]
   simp[Gg,hx]
  ·cases hv
 |.cell t ty::rs,ms,hc,vs,hv=>by
  simp only[DW]at hc
  split at hc
  ·rename_i k ms' hk pF
   simp only[aq]at hc;subst hc
   simp only[fz]at hv
   split at hv
   ·rename_i i o us hu tj
    split at hv
    ·rename_i c e pn al
     split at hv
     ·rename_i u eL
      simp only[aq]at hv;subst hv
      obtain⟨xs,h1,h2⟩:=WK hh hr pF tj
      obtain⟨x,hx,l,hl,rfl⟩:=hr.2 _ _ hu
      have zf:=hh.row hl al
      have xw:∃y,(loadVar ty ⟨l.b,l.d+o,none⟩).run P w=.ok y w/\VR μ u y:=by
       cases k with
       |none=>
        simp only[aO]at eL
        obtain⟨y,hy,hv⟩:=zf.cell eL
        exact⟨y,by simp[loadVar,WL hk,Result.andThen,hy],hv⟩
       |some k=>
        simp only[aO]at eL
        split at eL
        ·rename_i q hq
         simp only[aq]at eL;subst eL
         obtain⟨ys,g1,_,g3,_⟩:=zf.Aa hq
         exact⟨.agg ys.toArray,by simp[loadVar,(JE hk).1,(JE hk).2,Result.andThen,g3],ys,rfl,g1⟩
        ·cases eL
      obtain⟨y,ph,sW⟩:=xw
      refine⟨y::xs,?_,kW.2 ⟨_,_,rfl,sW,h2⟩⟩
      have jx:tmps.getD t undef=.pointer (some ⟨l.b,l.d+o,none⟩):=by simp[Gg,hx]
      have WM:(asAddr (tmps.getD t undef)).run P w=.ok ⟨l.b,l.d+o,none⟩ w:=by rw[jx];rfl
      simp only[List.mapM_cons,Qt,Sem.run_bind,WM,Sem.run_pure,Result.andThen_ok,ph,h1]
     ·cases hv
    ·cases hv
   ·cases hv
  ·cases hc
def Zux(hh:bm P μ w st){r:T V}{n:Nat}{tmps:Array Value}(hr:RR μ r n tmps){fn:Func}{ms:List DX}(hc:DW P fn.results.toList=some ms){vs:List V}(hv:fz r st ms=some vs):
  ∃x,(results fn tmps).run P w=.ok x w/\VR μ (Ei vs) x:=by
 obtain⟨xs,h1,h2⟩:=WK hh hr hc hv
 have hl:=h2.length
 refine⟨if h:xs.length=1 then xs[0] else .tuple ⟨xs⟩,?_,?_⟩
 ·show (do let vs <-fn.results.mapM (Qt tmps);pure (if h:vs.size=1 then vs[0] else .tuple vs):Sem Value).run P w=_
  rw[Array.mapM_eq_mapM_toList]
  simp only[Sem.run_bind,Sem.run_map,h1,Result.andThen_ok,Sem.run_pure]
  rfl
 ·rcases vs with _|⟨u,_|⟨u',vs⟩⟩
  ·simp only[aS]at h2;subst h2
   exact⟨[],rfl,by simp[aS]⟩
  ·obtain⟨y,ys,rfl,g1,g2⟩:=kW.1 h2
   simp only[aS]at g2;subst g2
   exact g1
  ·rw[dif_neg (by rw[hl];simp)]
   exact⟨xs,rfl,h2⟩
def Zwr{fn:Func}{tmps:Array Value}{R:Ending->World->Prop}:∀{ms:List Nat} {ds:List Deferred} {st eI:St} {w:World},bm P μ w st->pJ μ ms ds->shut st ms=some eI->
  (∀w' ws,bH P μ w st μ w' eI ws->∃v,(results fn tmps).run P w'=.ok v w'/\R (.returned v) w')->LeavesInM Fence.wide 0 P fn tmps R ds .returning w
 |[],ds,st,eI,w,hh,hd,hs,hR=>by
  simp only[pJ]at hd;subst hd
  simp only[shut,aq]at hs;subst hs
  exact hR w [] (bH.refl hh)
 |m::ms,ds,st,eI,w,hh,hd,hs,hR=>by
  obtain⟨l,Ev,h1,rfl,h3⟩:=hd
  simp only[shut]at hs
  split at hs
  ·rename_i hg
   have zf:=hh.get h1 hg
   have Lq:bH P μ w st μ (w.putObj l.b (.deferred none)) (st.write m (.defs false)) [m]:=
    bH.write hh h1 hg rfl rfl rfl rfl (World.putObj_size) (fun b hb=>World.putObj_heap_other hb) (World.putObj_heap_same (hh.c_ m l h1).2)
   refine⟨by simp,.inl ⟨l.b,_,rfl,run_takeDeferred zf,?_⟩⟩
   exact Zwr Lq.hr h3 hs fun w' ws jl=>hR w' _ (Lq.trans jl)
  ·cases hs
def bH.fold{μ':Mu}{w':World}{ws:List Nat}(h0:bm P μ w st)(h:bH P μ w {st with w:=[]} μ' w' az ws):bH P μ w st μ' w' {az with w:=av st.n az.w++st.w} (av st.n az.w):=by
 have vP:∀(l:List Nat) (i:Nat),i<st.n->(i∈av st.n l↔i∈l):=by
  intro l i hi
  induction l with
  |nil=>simp[av]
  |cons j l ih=>
   simp only[av]
   split
   ·unfold vD
    split
    ·rename_i hc
     simp only[kv,ih]
     simp only[P7]at hc
     constructor
     ·exact .inr
     ·rintro(rfl|h)
      ·exact ih.1 hc
      ·exact h
    ·simp only[kv,ih]
   ·simp only[kv,ih]
    constructor
    ·exact .inr
    ·rintro(rfl|h)
     ·omega
     ·exact h
 have Ez:az.w=ws:=by have:=h.wl;simpa using this
 have hs:∀i,i<st.n->(i∈av st.n az.w↔i∈ws):=fun i hi=>by rw[vP _ i hi,Ez]
 exact {
  hr:=⟨h.hr.c_,h.hr.obj,h.hr.inj,h.hr.gU⟩
  ext:=h.ext
  fh:=h.fh
  wl:=rfl
  ed:=⟨h.ed.os,h.ed.tape,h.ed.output,h.ed.size,fun b hb du=>h.ed.block b hb fun i hi l hl=>du i ((hs i (h0.c_ i l hl).1).2 hi) l hl⟩
  new:=fun i l hi hl=>by
   rcases h.new i l hi hl with h'|⟨j,hj,Ge,r⟩
   ·exact .inl h'
   ·exact .inr ⟨j,(hs j Ge).2 hj,Ge,r⟩
  ae:=fun i hi du=>h.ae i hi fun hc=>du ((hs i hi).2 hc)
  grow:=h.grow
  full:=h.full
  yX:=fun i hi hn=>h.yX i ((hs i hn).1 hi) hn}
def bm.now(h:bm P μ w st)(l:List Nat):bm P μ w {st with w:=l}:=⟨h.c_,h.obj,h.inj,h.gU⟩
def Yee{code:qf}(oF:JF P code){f:FuncId}{fn:Func}{mf:lF}(hf:P.funcs[f]?=some fn)(hc:yB P f=some mf){args:List V}{xs:List Value}(hh:bm P μ w st)(hx:aS μ args xs)
  (h:Ca mf code args st=some (v,az)):CallsIn Fence.wide 0 P f ⟨xs⟩ w (G6 fun x w'=>∃μ' ws,VR μ' v x/\bH P μ w st μ' w' az ws):=by
 unfold yB at hc
 rw[hf]at hc
 simp only at hc
 split at hc
 ·rename_i c rs hb WN
  simp only[aq]at hc;subst hc
  unfold Ca at h
  split at h
  ·cases h
  ·rename_i hle
   simp only at hle h
   have fin:∀(ex:Ex) (dT:Fr) (bS:St),(ex=.normal\/ex=.ret)->code none (iO P c) {r:=zd .nil 0 args,n:=fn.ntmps,marks:=[]} {st with w:=[]}=some (ex,dT,bS)->
     (match shut bS dT.marks with
      |none=>none
      |some eI=>match fz dT.r eI rs with
       |some vs=>some (Ei vs,{eI with w:=av st.n eI.w++st.w})
       |none=>none)=some (v,az)->
     CallsIn Fence.wide 0 P f ⟨xs⟩ w (G6 fun x w'=>∃μ' ws,VR μ' v x/\bH P μ w st μ' w' az ws):=by
    intro ex dT bS hex bM eK
    split at eK
    ·cases eK
    ·rename_i eI Lr
     split at eK
     ·rename_i vs G7
      simp only[aq,bs]at eK
      obtain⟨rfl,rfl⟩:=eK
      refine callsIn_of_wp_marks hf hb trivial (wpIn_mono (oF none c _ _ _ _ _ bM μ w _ none (hh.now []) ⟨Yi5 hx (yY hle),rfl⟩ trivial) fun e a' w' hp=>?_)
      obtain⟨rfl,μ1,ws,hs,tf⟩:=hp
      have hl:LeavesInM Fence.wide 0 P fn a'.tmps (G6 fun x w'=>∃μ' ws,VR μ' (Ei vs) x/\bH P μ w st μ' w' {eI with w:=av st.n eI.w++st.w} ws) a'.defers .returning w':=by
       refine Zwr hs.hr tf.2 Lr fun w2 WO oG=>?_
       obtain⟨x,xY,yE⟩:=Zux oG.hr tf.1 WN G7
       exact⟨x,xY,μ1,_,yE,(hs.trans oG).fold hh⟩
      rcases hex with rfl|rfl
      ·exact hl
      ·exact hl
     ·cases eK
   unfold V7 at h
   split at h
   ·cases h
   ·rename_i ex dT bS aW bM
    exact fin ex dT bS (by cases ex with|normal=>exact .inl rfl|ret=>exact .inr rfl|exit id=>exact(aW id rfl).elim) (by assumption) h
   ·cases h
 ·cases hc
def Zpt:∀{ps:List Nat} {vs:List V} {r r':T V} {n:Nat} {tmps:Array Value} {xs:List Value},RR μ r n tmps->aS μ vs xs->B2 r n ps vs=some r'->
  xs.length=ps.length/\RR μ r' n ((ps.zip xs).foldl (fun (tmps:Array Value) (p:Nat×Value)=>tmps.setIfInBounds p.1 p.2) tmps)
 |[],[],r,r',n,tmps,xs,hr,hx,h=>by
  simp only[aS]at hx;subst hx
  simp only[B2,aq]at h;subst h
  exact⟨rfl,hr⟩
 |[],_::_,r,r',n,tmps,xs,hr,hx,h=>by simp[B2]at h
 |_::_,[],r,r',n,tmps,xs,hr,hx,h=>by simp[B2]at h
 |p::ps,v::vs,r,r',n,tmps,xs,hr,hx,h=>by
  obtain⟨y,ys,rfl,h1,h2⟩:=kW.1 hx
  simp only[B2]at h
  split at h
  ·rename_i hp
   obtain⟨g1,g2⟩:=Zpt (hr.set hp h1) h2 h
   exact⟨by simp[g1],by simpa using g2⟩
  ·cases h
def Yap(e:Ex):((re e).bind zS).isNone=(re e).isNone:=by cases e<;>rfl
def bH.loop(hh:bm P μ w st){i:Nat}{l:L}(hl:μ i=some l){R R':Kr}(hg:st.h.get i=some (.loop R))(h1:R'.r=R.r)(h2:R'.n=R.n)(h3:R'.ps=R.ps)(h4:R'.assign=R.assign)(h5:R'.body=R.body)(h6:R'.defs=R.defs):
  ∃rec,w.heap[l.b]?=some (.loop rec)/\rec.state=R.st/\rec.pending=R.eW.bind zS/\
   bH P μ w st μ (w.putObj l.b (.loop {rec with state:=R'.st,pending:=R'.eW.bind zS})) (st.write i (.loop R')) [i]:=by
 obtain⟨fn,tmps,fM,fN,ld,g1,g2,g3,g4,g5⟩:=hh.get hl hg
 refine⟨_,g1,rfl,rfl,bH.write hh hl hg rfl rfl rfl rfl World.putObj_size (fun b hb=>World.putObj_heap_other hb) ⟨fn,tmps,fM,fN,ld,?_,?_,?_,?_,?_⟩⟩
 ·rw[World.putObj_heap_same (hh.c_ i l hl).2,h3]
 ·rw[h1,h2];exact g2
 ·rw[h4];exact g3
 ·rw[h5];exact g4
 ·rw[h6];exact g5
def Yg9{code:qf}(oF:JF P code){l:Nat}{args:List V}{xs:List Value}{L0:L}(hh:bm P μ w st)(hl:μ l=some L0)(hx:aS μ args xs)(h:CD code l args st=some (v,az)):
  ∃f tmps fM fN,(Instr.yield L0.b ⟨xs⟩).run P w=.ok (.round L0.b f tmps fM fN) w/\RoundIn Fence.wide 0 P L0.b f tmps fM fN w (G6 fun x w'=>∃μ' ws,VR μ' v x/\bH P μ w st μ' w' az ws):=by
 unfold CD at h
 split at h
 ·rename_i R hg
  obtain⟨fn,tmps,fM,fN,ld,g1,g2,g3,g4,g5⟩:=hh.get hl hg
  split at h
  ·cases h
  ·rename_i r0 ef
   obtain⟨q1,q2⟩:=Zpt g2 hx ef
   have hy:=run_yield (P:=P) (args:=⟨xs⟩) g1 (by simpa using q1)
   refine⟨_,_,_,_,hy,?_⟩
   have htm:(((⟨R.ps⟩:Array Nat).zip (⟨xs⟩:Array Value)).foldl (fun tmps (p:Nat×Value)=>tmps.setIfInBounds p.1 p.2) tmps)=(R.ps.zip xs).foldl (fun (tmps:Array Value) (p:Nat×Value)=>tmps.setIfInBounds p.1 p.2) tmps:=by simp
   refine roundIn_of_wpIn (F:=Fence.wide) trivial ?_
   split at h
   ·rename_i dT bS EA
    rw[<-g3]at EA
    refine wpIn_mono (oF (some l) fM _ _ _ _ _ EA μ w {tmps:=(((⟨R.ps⟩:Array Nat).zip (⟨xs⟩:Array Value)).foldl (fun tmps (p:Nat×Value)=>tmps.setIfInBounds p.1 p.2) tmps),defers:=[]} (some L0.b) hh ⟨by rw[htm];exact q2,rfl⟩ ⟨L0,hl,rfl⟩) fun e a1 w1 hp=>?_
    have tu:=hp
    obtain⟨he,μ1,ws1,At,tf⟩:=hp
    refine tu.then (fun _=>?_) (fun aW=>absurd rfl aW)
    split at h
    ·rename_i R1 hg1
     split at h
     ·rename_i G8
      have EB:=At.mono hh _ _ hl
      obtain⟨Ls,k1,k2,k3,k4⟩:=bH.loop (R':={R1 with st:=.busy}) At.hr EB hg1 rfl rfl rfl rfl rfl rfl
      refine⟨_,run_beginRound k1 (k2.trans G8),?_⟩
      have Ba:({Ls with state:=LoopState.busy,pending:=R1.eW.bind zS}:Loop)={Ls with state:=.busy}:=by rw[<-k3]
      rw[Ba]at k4
      split at h
      ·rename_i e2 Au eI EC
       rw[<-g4]at EC
       refine wpIn_mono (oF (some l) fN _ _ _ _ _ EC μ1 _ a1 (some L0.b) k4.hr (tf.mono (k4.mono At.hr)) ⟨L0,EB,rfl⟩) fun e a2 w2 zg=>?_
       obtain⟨vf,μ2,WO,oG,cU⟩:=zg
       split at h
       ·rename_i R2 WQ
        simp only[aq,bs]at h
        obtain⟨rfl,rfl⟩:=h
        have iV:=oG.mono k4.hr _ _ EB
        obtain⟨WR,m1,m2,m3,m4⟩:=bH.loop (R':={R2 with st:=Ju (re e2),eW:=re e2}) oG.hr iV WQ rfl rfl rfl rfl rfl rfl
        have eK:=run_endRound (P:=P) ((re e2).bind zS) m1
        have dJ:(if ((re e2).bind zS).isNone=true then LoopState.ready else LoopState.done)=Ju (re e2):=by cases e2<;>rfl
        rw[dJ,Yap]at eK
        have hR:G6 (fun x w'=>∃μ' ws,VR μ' (.bool (re e2).isNone) x/\bH P μ w st μ' w' (eI.write l (.loop {R2 with st:=Ju (re e2),eW:=re e2})) ws) (.returned (.bool (re e2).isNone))
          (w2.putObj L0.b (.loop {WR with state:=Ju (re e2),pending:=(re e2).bind zS})):=
         ⟨μ2,_,by simp[VR],((At.trans k4).trans oG).trans m4⟩
        subst vf
        cases e2 with
        |normal=>exact⟨_,_,eK,hR⟩
        |exit id=>exact⟨_,_,eK,hR⟩
        |ret=>exact⟨_,_,eK,hR⟩
       ·cases h
      ·cases h
     ·cases h
    ·cases h
   ·cases h
 ·cases h
def WS(P:Program)(dE:Nat->Option lF):Prop:=
 ∀f mf,dE f=some mf->yB P f=some mf/\∀fn,P.funcs[f]?=some fn->(fn.name== "runtime.NumGoroutine")=false
def Zyb{f:FuncId}{mf:lF}(h:yB P f=some mf):∃fn,P.funcs[f]?=some fn/\fn.body.isSome=true:=by
 unfold yB at h
 split at h
 ·rename_i fn hf
  refine⟨fn,hf,?_⟩
  split at h
  ·rename_i hb _;rw[hb];rfl
  ·cases h
 ·cases h
def Zwa{dE:Nat->Option lF}{code:qf}(ht:WS P dE)(oF:JF P code):jv P (yb dE code):=by
 intro g args st v az h μ w G xs hh hg hx
 unfold yb at h
 split at h
 ·rename_i f first gl
  split at h
  ·rename_i mf hmf
   obtain⟨a',c',rfl,h1,h2⟩:=hg
   obtain⟨hc,Lt⟩:=ht f mf hmf
   obtain⟨fn,hf,hb⟩:=Zyb hc
   refine⟨{target:=.fn (.func f) ⟨c'⟩,args:=⟨a'⟩++⟨xs⟩},by simp[Deferred.ofValue],.inl ⟨rfl,f,⟨a'++xs++c'⟩,?_,?_⟩⟩
   ·have hn:fn.name≠ "runtime.NumGoroutine" :=by simpa using Lt fn hf
    simp[invoke,callFunc,hf,hn]
    intro hq
    rw[hq]at hb
    cases hb
   ·exact Yee oF hf hc hh ((h1.append hx).append h2) h
  ·cases h
 ·rename_i l
  obtain⟨L0,hl,rfl⟩:=hg
  obtain⟨f,tmps,fM,fN,q1,q2⟩:=Yg9 oF hh hl hx h
  refine⟨{target:=.fn (.yield L0.b) #[],args:=⟨xs⟩},by simp[Deferred.ofValue],.inr ⟨rfl,L0.b,f,tmps,fM,fN,?_,q2⟩⟩
  simp[invoke,q1]
 ·cases h
def Ym8{a2:Act}{w4:World}{Au:Fr}{WT:St}:∀(q:Option Ex),vR P μ w st (match q with|none=>.normal|some e=>e) Au WT (JG (match q with|none=>.normal|some e=>e)) a2 w4->
  (match q.bind zS with
   |none=>vR P μ w st (match q with|none=>.normal|some e=>e) Au WT .normal a2 w4
   |some c=>c.wpIn (FE lb) 0 P (vR P μ w st (match q with|none=>.normal|some e=>e) Au WT) a2 w4)
 |none,h=>h
 |some .normal,h=>h
 |some (.exit _),h=>wpIn_exit h
 |some .ret,h=>wpIn_ret h
def Zwx(bY:jv P call):Yf1 P call:=by
 intro ro g s ps fM fN fr st ex bE az hs h μ w a lb hh hf pk
 unfold Ad at h
 split at h
 ·cases h
 ·rename_i gv hgv
  have hG:=cQ hh hf.1 hs hgv
  rw[Ji]at h
  obtain⟨hy,h⟩:=h
  have vS:gv.GL=false:=by simpa using hy
  split at h
  ·cases h
  ·rename_i bS d mk jm
   split at h
   ·cases h
   ·rename_i x eI hc
    split at h
    ·rename_i R WQ
     rw[Ji]at h
     obtain⟨Lu,h⟩:=h
     simp only[aq,bs]at h
     obtain⟨rfl,rfl,rfl⟩:=h
     refine wpIn_rangeFunc fun fn _=>?_
     have common:∀(l:Nat) (mark:List Deferred) (w0:World) (μ0:Mu) (ws0:List Nat) (db:Nat),bH P μ w st μ0 w0 bS ws0->l=w0.heap.size->(∃ld,μ0 d=some ld/\ld.b=db)->
       (Instr.enterLoop fn a.tmps ps fM fN (FE lb).round).run P w=.ok (l,mark) (w0.alloc (.loop {state:=.ready,pending:=none,fn,tmps:=a.tmps,params:=ps,assign:=fM,body:=fN,defers:=db}))->
       (∀ms ds,pJ μ0 ms ds->pJ μ0 (mk++ms) (mark++ds))->
       ∃(l:Nat) (mark:List Deferred) (w₁:World) (d:Deferred) (WU:World) (f:FuncId) (args:Array Value) (w₂:World),
        (Instr.enterLoop fn a.tmps ps fM fN (FE lb).round).run P w=.ok (l,mark) w₁/\
        (resolve a.eval (rangeCall g l) 0).run P w₁=.ok d WU/\
        (∀f',Target.leads P WU d.target d.args=some f'->(FE lb).fn f')/\
        (invoke d.target d.args).run P WU=.ok (.enter f args) w₂/\
        ((FE lb).depth.isSome=true->1<=0)/\
        CallsIn (FE lb) (0-1) P f args w₂ (rangePost (FE lb) 0 P l (vR P μ w st (match R.eW with|none=>.normal|some e=>e) {fr with marks:=mk++fr.marks} (eI.write bS.n (.loop {R with st:=.exhausted}))) {a with defers:=mark++a.defers}):=by
      intro l mark w0 μ0 ws0 db tl gX hdb hent Am
      subst gX
      obtain⟨ld,tG,d_⟩:=hdb
      have gV:=tl.mono hh
      have aW:d≠bS.n:=fun hc=>by have:=(tl.hr.c_ d ld tG).1;omega
      have iL:bH P μ0 w0 bS (fun i=>if i=bS.n then some ⟨w0.heap.size,0,0⟩ else μ0 i) (w0.alloc (.loop {state:=.ready,pending:=none,fn,tmps:=a.tmps,params:=ps,assign:=fM,body:=fN,defers:=db}))
        (bS.alloc (.loop {st:=.ready,eW:=none,r:=fr.r,n:=fr.n,ps:=ps.toList,assign:=iO P fM,body:=iO P fN,defs:=d})) []:=by
       have dr:∀i l,μ0 i=some l->(fun i=>if i=bS.n then some (⟨w0.heap.size,0,0⟩:L) else μ0 i) i=some l:=fun i l hl=>by
        have:=(tl.hr.c_ i l hl).1
        simp only
        rw[ak (by omega)];exact hl
       refine bH.alloc tl.hr _ (.loop {state:=.ready,pending:=none,fn,tmps:=a.tmps,params:=ps,assign:=fM,body:=fN,defers:=db}) 0 0 ⟨fn,a.tmps,fM,fN,ld,?_,(hf.1.mono gV).mono dr,rfl,rfl,?_⟩
       ·show (w0.heap.push _)[w0.heap.size]?=_
        simp[d_]
       ·simp only;rw[ak aW];exact tG
      have At:=tl.trans iL
      have mO:=At.mono hh
      obtain⟨dd,qj,ij⟩:=bY gv [.yield bS.n] _ x eI hc _ _ (a.eval g) [.func (.yield w0.heap.size) #[] #[]] iL.hr (VR.mono mO _ _ hG) (kW.2 ⟨_,[],rfl,⟨⟨w0.heap.size,0,0⟩,by simp,rfl⟩,by simp[aS]⟩)
      rcases ij with⟨_,f,args,hinv,GX⟩|⟨hyy,_⟩
      ·refine⟨w0.heap.size,mark,_,dd,_,f,args,_,hent,?_,fun _ _=>trivial,hinv,fun hx=>by simp[Fence.wide]at hx,?_⟩
       ·have e0:(#[Operand.const (.func (.yield w0.heap.size) #[] #[])]).map a.eval=(⟨[.func (.yield w0.heap.size) #[] #[]]⟩:Array Value):=by simp[Act.eval]
        simp only[resolve,e0]
        exact qj
       ·refine CallsIn.mono (F:=Fence.wide) GX fun e w3 he=>?_
        cases e with
        |panicked _=>exact he.elim
        |outgrown=>exact he.elim
        |returned y=>
         obtain⟨μ2,WO,_,oG⟩:=he
         have iV:μ2 bS.n=some ⟨w0.heap.size,0,0⟩:=oG.mono iL.hr _ _ (by simp)
         obtain⟨rec,m1,m2,m3,m4⟩:=bH.loop (R':={R with st:=.exhausted}) oG.hr iV WQ rfl rfl rfl rfl rfl rfl
         have eK:=run_endLoop (P:=P) m1 (by rw[m2];exact Lu)
         have hsf:=(At.trans oG).trans m4
         have WV:({rec with state:=.exhausted,pending:=R.eW.bind zS}:Loop)={rec with state:=.exhausted}:=by rw[<-m3]
         rw[WV]at hsf
         have sV:mT μ2 {fr with marks:=mk++fr.marks} {a with defers:=mark++a.defers}:=by
          refine⟨(hf.1.mono mO).mono (oG.mono iL.hr),?_⟩
          exact((Am _ _ (hf.2.mono gV)).mono (iL.mono tl.hr)).mono (oG.mono iL.hr)
         have fin:vR P μ w st (match R.eW with|none=>.normal|some e=>e) {fr with marks:=mk++fr.marks} (eI.write bS.n (.loop {R with st:=.exhausted})) (JG (match R.eW with|none=>.normal|some e=>e)) {a with defers:=mark++a.defers} _:=⟨rfl,μ2,_,hsf,sV⟩
         exact⟨R.eW.bind zS,_,by rw[<-m3];exact eK,Ym8 R.eW fin⟩
      ·rw[vS]at hyy;cases hyy
     cases ro with
     |none=>
      cases lb with
      |some _=>exact pk.elim
      |none=>
       simp only[Qg,aq,bs]at jm
       obtain⟨rfl,rfl,rfl⟩:=jm
       have Ch:bH P μ w st (fun i=>if i=st.n then some ⟨w.heap.size,0,0⟩ else μ i) (w.alloc (.deferred (some []))) (st.alloc (.defs true)) []:=
        bH.alloc hh (.defs true) (.deferred (some [])) 0 0 (by simp only[OM];show (w.heap.push _)[w.heap.size]?=_;simp)
       refine common (w.heap.size+1) [{target:=.collected w.heap.size,args:=#[]}] (w.alloc (.deferred (some []))) _ [] w.heap.size Ch (by simp) ⟨⟨w.heap.size,0,0⟩,by simp,rfl⟩ (run_enterLoop_outer ..) fun ms ds hd=>⟨⟨w.heap.size,0,0⟩,ds,by simp,rfl,hd⟩
     |some l0=>
      cases lb with
      |none=>exact pk.elim
      |some b=>
       obtain⟨L0,gX,rfl⟩:=pk
       simp only[Qg]at jm
       split at jm
       ·rename_i R0 td
        simp only[aq,bs]at jm
        obtain⟨rfl,rfl,rfl⟩:=jm
        obtain⟨fn0,zaf,zaq,zar,ld0,g1,g2,g3,g4,g5⟩:=hh.get gX td
        refine common w.heap.size [] w μ [] ld0.b (bH.refl hh) rfl ⟨ld0,g5,rfl⟩ ?_ (fun ms ds hd=>hd)
        show (Instr.enterLoop fn a.tmps ps fM fN (some L0.b)).run P w=_
        unfold Instr.enterLoop
        simp only[Sem.run_bind,run_getLoop g1,run_newObj_alloc,Result.andThen,Sem.run_pure]
       ·cases jm
    ·cases h
end
open Go Go.Conc
section
variable {P:Program} {μ:Mu} {w:World} {st az:St} {fr bE:Fr} {a:Act} {call:cD} {v:V} {lb:Option Nat}
def Ykj(bY:jv P call)(hE:ue P):Ysr P call:=fun id ops o rest d ch s z fr st ex bE az zas WW=>by cases WW
end
end Go.Mx
