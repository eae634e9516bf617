/-The machine M's runs stand for the Go mo-/
import Derived.Test.YteojhfjdbpdolaaGreatDoorMxOps
import Derived.Conc.LoneSelect
set_option linter.all false
namespace Go.Mx
open Go
section
variable {P:Program} {μ:Mu} {w:World} {st aC:St} {fr bE:Fr} {a:Act} {call:cI} {v:V} {lb:Option Nat}
def Zn4:∀(vs:List V) (r:T V) (i t:Nat),(ze r i vs).get t=if i<=t/\t<i+vs.length then vs[t-i]? else r.get t
 |[],r,i,t=>by simp[ze];omega
 |v::vs,r,i,t=>by
  simp only[ze]
  rw[Zn4 vs (r.set i v) (i+1) t,T.ag]
  by_cases h:t=i
  ·subst h
   rw[ak (by omega),av rfl,av (by simp)];simp
  ·by_cases h2:i+1<=t/\t<i+1+vs.length
   ·rw[av h2,av (by simp;omega)]
    rw[show t-i=(t-(i+1))+1 by omega];simp
   ·rw[ak h2,ak h,ak (by simp;omega)]
def Ykm{vs:List V}{xs:List Value}{n:Nat}(h:aV μ vs xs)(hl:vs.length<=n):RR μ (ze .nil 0 vs) n ((⟨xs⟩:Array Value)++Array.replicate (n-(⟨xs⟩:Array Value).size) undef):=by
 have yS:=h.length
 refine⟨by simp;omega,fun t v hv=>?_⟩
 rw[Zn4]at hv
 split at hv
 ·rename_i ht
  simp only[Nat.sub_zero]at hv
  obtain⟨x,hx,hr⟩:=h.get hv
  refine⟨x,?_,hr⟩
  rw[Array.getElem?_append_left (by simp;omega)]
  simpa using hx
 ·simp[T.get]at hv
def QI(tmps:Array Value):ResultVar->Sem Value
 |.tmp t=>pure (tmps.getD t undef)
 |.cell a t=>do loadVar t (<-asAddr (tmps.getD a undef))
def WX(hh:bm P μ w st){r:T V}{n:Nat}{tmps:Array Value}(hr:RR μ r n tmps):∀{rs:List ResultVar} {ms:List F4},DY P rs=some ms->∀{vs:List V},gS r st ms=some vs->
  ∃xs,(rs.mapM (QI tmps)).run P w=.ok xs w/\aV μ vs xs
 |[],ms,hc,vs,hv=>by
  simp only[DY,al]at hc;subst hc
  simp only[gS,al]at hv;subst hv
  exact⟨[],by simp,by simp[aV]⟩
 |.tmp t::rs,ms,hc,vs,hv=>by
  simp only[DY,ki]at hc
  obtain⟨ms',pn,rfl⟩:=hc
  simp only[gS]at hv
  split at hv
  ·rename_i u us hu vM
   simp only[al]at hv;subst hv
   obtain⟨xs,h1,h2⟩:=WX hh hr pn vM
   obtain⟨x,hx,BC⟩:=hr.2 _ _ hu
   refine⟨x::xs,?_,lD.2 ⟨_,_,rfl,BC,h2⟩⟩
   simp only[List.mapM_cons,QI,Sem.run_bind,Sem.run_pure,Result.andThen_ok,h1]
   simp[Ga,hx]
  ·cases hv
 |.cell t ty::rs,ms,hc,vs,hv=>by
  simp only[DY]at hc
  split at hc
  ·rename_i k ms' hk pn
   simp only[al]at hc;subst hc
   simp only[gS]at hv
   split at hv
   ·rename_i i o us hu vM
    split at hv
    ·rename_i c e pO aq
     split at hv
     ·rename_i u eP
      simp only[al]at hv;subst hv
      obtain⟨xs,h1,h2⟩:=WX hh hr pn vM
      obtain⟨x,hx,l,hl,rfl⟩:=hr.2 _ _ hu
      have zh:=hh.row hl aq
      have xw:∃y,(loadVar ty ⟨l.b,l.d+o,none⟩).run P w=.ok y w/\VR μ u y:=by
       cases k with
       |none=>
        simp only[aO]at eP
        obtain⟨y,hy,hv⟩:=zh.cell eP
        exact⟨y,by simp[loadVar,WY hk,Result.andThen,hy],hv⟩
       |some k=>
        simp only[aO]at eP
        split at eP
        ·rename_i q hq
         simp only[al]at eP;subst eP
         obtain⟨ys,g1,_,g3,_⟩:=zh.Ad hq
         exact⟨.agg ys.toArray,by simp[loadVar,(JC hk).1,(JC hk).2,Result.andThen,g3],ys,rfl,g1⟩
        ·cases eP
      obtain⟨y,sU,xx⟩:=xw
      refine⟨y::xs,?_,lD.2 ⟨_,_,rfl,xx,h2⟩⟩
      have jn:tmps.getD t undef=.pointer (some ⟨l.b,l.d+o,none⟩):=by simp[Ga,hx]
      have WZ:(asAddr (tmps.getD t undef)).run P w=.ok ⟨l.b,l.d+o,none⟩ w:=by rw[jn];rfl
      simp only[List.mapM_cons,QI,Sem.run_bind,WZ,Sem.run_pure,Result.andThen_ok,sU,h1]
     ·cases hv
    ·cases hv
   ·cases hv
  ·cases hc
def Zvl(hh:bm P μ w st){r:T V}{n:Nat}{tmps:Array Value}(hr:RR μ r n tmps){fn:Func}{ms:List F4}(hc:DY P fn.results.toList=some ms){vs:List V}(hv:gS r st ms=some vs):
  ∃x,(results fn tmps).run P w=.ok x w/\VR μ (Ej vs) x:=by
 obtain⟨xs,h1,h2⟩:=WX hh hr hc hv
 have hl:=h2.length
 refine⟨if h:xs.length=1 then xs[0] else .tuple ⟨xs⟩,?_,?_⟩
 ·show (do let vs <-fn.results.mapM (QI tmps);pure (if h:vs.size=1 then vs[0] else .tuple vs):Sem Value).run P w=_
  rw[Array.mapM_eq_mapM_toList]
  simp only[Sem.run_bind,Sem.run_map,h1,Result.andThen_ok,Sem.run_pure]
  rfl
 ·rcases vs with _|⟨u,_|⟨u',vs⟩⟩
  ·simp only[aV]at h2;subst h2
   exact⟨[],rfl,by simp[aV]⟩
  ·obtain⟨y,ys,rfl,g1,g2⟩:=lD.1 h2
   simp only[aV]at g2;subst g2
   exact g1
  ·rw[dif_neg (by rw[hl];simp)]
   exact⟨xs,rfl,h2⟩
def Zxt{fn:Func}{tmps:Array Value}{R:Ending->World->Prop}:∀{ms:List Nat} {ds:List Deferred} {st fh:St} {w:World},bm P μ w st->pA μ ms ds->shut st ms=some fh->
  (∀w' ws,bH P μ w st μ w' fh ws->∃v,(results fn tmps).run P w'=.ok v w'/\R (.returned v) w')->LeavesInM Fence.wide 0 P fn tmps R ds .returning w
 |[],ds,st,fh,w,hh,hd,hs,hR=>by
  simp only[pA]at hd;subst hd
  simp only[shut,al]at hs;subst hs
  exact hR w [] (bH.refl hh)
 |m::ms,ds,st,fh,w,hh,hd,hs,hR=>by
  obtain⟨l,Ew,h1,rfl,h3⟩:=hd
  simp only[shut]at hs
  split at hs
  ·rename_i hg
   have zh:=hh.get h1 hg
   have Lx:bH P μ w st μ (w.putObj l.b (.deferred none)) (st.write m (.defs false)) [m]:=
    bH.write hh h1 hg rfl rfl rfl rfl (World.putObj_size) (fun b hb=>World.putObj_heap_other hb) (World.putObj_heap_same (hh.dc m l h1).2)
   refine⟨by simp,.inl ⟨l.b,_,rfl,run_takeDeferred zh,?_⟩⟩
   exact Zxt Lx.hr h3 hs fun w' ws jq=>hR w' _ (Lx.trans jq)
  ·cases hs
def bH.fold{μ':Mu}{w':World}{ws:List Nat}(h0:bm P μ w st)(h:bH P μ w {st with w:=[]} μ' w' aC ws):bH P μ w st μ' w' {aC with w:=ax st.n aC.w++st.w} (ax st.n aC.w):=by
 have nX:∀(l:List Nat) (i:Nat),i<st.n->(i∈ax st.n l↔i∈l):=by
  intro l i hi
  induction l with
  |nil=>simp[ax]
  |cons j l ih=>
   simp only[ax]
   split
   ·unfold uW
    split
    ·rename_i hc
     simp only[kW,ih]
     simp only[Ql]at hc
     constructor
     ·exact .inr
     ·rintro(rfl|h)
      ·exact ih.1 hc
      ·exact h
    ·simp only[kW,ih]
   ·simp only[kW,ih]
    constructor
    ·exact .inr
    ·rintro(rfl|h)
     ·omega
     ·exact h
 have W7:aC.w=ws:=by have:=h.wl;simpa using this
 have hs:∀i,i<st.n->(i∈ax st.n aC.w↔i∈ws):=fun i hi=>by rw[nX _ i hi,W7]
 exact {
  hr:=⟨h.hr.dc,h.hr.obj,h.hr.inj,h.hr.gK⟩
  ext:=h.ext
  fx:=h.fx
  wl:=rfl
  eg:=⟨h.eg.os,h.eg.tape,h.eg.output,h.eg.size,fun b hb dB=>h.eg.block b hb fun i hi l hl=>dB i ((hs i (h0.dc i l hl).1).2 hi) l hl⟩
  new:=fun i l hi hl=>by
   rcases h.new i l hi hl with h'|⟨j,hj,F6,r⟩
   ·exact .inl h'
   ·exact .inr ⟨j,(hs j F6).2 hj,F6,r⟩
  ae:=fun i hi dB=>h.ae i hi fun hc=>dB ((hs i hi).2 hc)
  grow:=h.grow
  full:=h.full
  yW:=fun i hi hn=>h.yW i ((hs i hn).1 hi) hn}
def bm.now(h:bm P μ w st)(l:List Nat):bm P μ w {st with w:=l}:=⟨h.dc,h.obj,h.inj,h.gK⟩
def Yfy{code:pX}(oe:JD P code){f:FuncId}{fn:Func}{mf:lC}(hf:P.funcs[f]?=some fn)(hc:yV P f=some mf){args:List V}{xs:List Value}(hh:bm P μ w st)(hx:aV μ args xs)
  (h:CE mf code args st=some (v,aC)):CallsIn Fence.wide 0 P f ⟨xs⟩ w (GX fun x w'=>∃μ' ws,VR μ' v x/\bH P μ w st μ' w' aC ws):=by
 unfold yV at hc
 rw[hf]at hc
 simp only at hc
 split at hc
 ·rename_i c rs hb W8
  simp only[al]at hc;subst hc
  unfold CE at h
  split at h
  ·cases h
  ·rename_i hle
   simp only at hle h
   have fin:∀(ex:Ex) (ec:Fr) (bY:St),(ex=.normal\/ex=.ret)->code none (iF P c) {r:=ze .nil 0 args,n:=fn.ntmps,marks:=[]} {st with w:=[]}=some (ex,ec,bY)->
     (match shut bY ec.marks with
      |none=>none
      |some fh=>match gS ec.r fh rs with
       |some vs=>some (Ej vs,{fh with w:=ax st.n fh.w++st.w})
       |none=>none)=some (v,aC)->
     CallsIn Fence.wide 0 P f ⟨xs⟩ w (GX fun x w'=>∃μ' ws,VR μ' v x/\bH P μ w st μ' w' aC ws):=by
    intro ex ec bY hex bO eQ
    split at eQ
    ·cases eQ
    ·rename_i fh Ly
     split at eQ
     ·rename_i vs GY
      simp only[al,bu]at eQ
      obtain⟨rfl,rfl⟩:=eQ
      refine callsIn_of_wp_marks hf hb trivial (wpIn_mono (oe none c _ _ _ _ _ bO μ w _ none (hh.now []) ⟨Ykm hx (yX hle),rfl⟩ trivial) fun e a' w' hp=>?_)
      obtain⟨rfl,μ1,ws,hs,xy⟩:=hp
      have hl:LeavesInM Fence.wide 0 P fn a'.tmps (GX fun x w'=>∃μ' ws,VR μ' (Ej vs) x/\bH P μ w st μ' w' {fh with w:=ax st.n fh.w++st.w} ws) a'.defers .returning w':=by
       refine Zxt hs.hr xy.2 Ly fun w2 W9 kg=>?_
       obtain⟨x,Av,yP⟩:=Zvl kg.hr xy.1 W8 GY
       exact⟨x,Av,μ1,_,yP,(hs.trans kg).fold hh⟩
      rcases hex with rfl|rfl
      ·exact hl
      ·exact hl
     ·cases eQ
   unfold Wl at h
   split at h
   ·cases h
   ·rename_i ex ec bY aW bO
    exact fin ex ec bY (by cases ex with|normal=>exact .inl rfl|ret=>exact .inr rfl|exit id=>exact(aW id rfl).elim) (by assumption) h
   ·cases h
 ·cases hc
def Zqk:∀{ps:List Nat} {vs:List V} {r r':T V} {n:Nat} {tmps:Array Value} {xs:List Value},RR μ r n tmps->aV μ vs xs->GG r n ps vs=some r'->
  xs.length=ps.length/\RR μ r' n ((ps.zip xs).foldl (fun (tmps:Array Value) (p:Nat×Value)=>tmps.setIfInBounds p.1 p.2) tmps)
 |[],[],r,r',n,tmps,xs,hr,hx,h=>by
  simp only[aV]at hx;subst hx
  simp only[GG,al]at h;subst h
  exact⟨rfl,hr⟩
 |[],_::_,r,r',n,tmps,xs,hr,hx,h=>by simp[GG]at h
 |_::_,[],r,r',n,tmps,xs,hr,hx,h=>by simp[GG]at h
 |p::ps,v::vs,r,r',n,tmps,xs,hr,hx,h=>by
  obtain⟨y,ys,rfl,h1,h2⟩:=lD.1 hx
  simp only[GG]at h
  split at h
  ·rename_i hp
   obtain⟨g1,g2⟩:=Zqk (hr.set hp h1) h2 h
   exact⟨by simp[g1],by simpa using g2⟩
  ·cases h
def Ybt(e:Ex):((ux e).bind zW).isNone=(ux e).isNone:=by cases e<;>rfl
def bH.loop(hh:bm P μ w st){i:Nat}{l:L}(hl:μ i=some l){R R':Yul}(hg:st.h.get i=some (.loop R))(h1:R'.r=R.r)(h2:R'.n=R.n)(h3:R'.ps=R.ps)(h4:R'.assign=R.assign)(h5:R'.body=R.body)(h6:R'.defs=R.defs):
  ∃rec,w.heap[l.b]?=some (.loop rec)/\rec.state=R.st/\rec.pending=R.iH.bind zW/\
   bH P μ w st μ (w.putObj l.b (.loop {rec with state:=R'.st,pending:=R'.iH.bind zW})) (st.write i (.loop R')) [i]:=by
 obtain⟨fn,tmps,fK,fL,ld,g1,g2,g3,g4,g5⟩:=hh.get hl hg
 refine⟨_,g1,rfl,rfl,bH.write hh hl hg rfl rfl rfl rfl World.putObj_size (fun b hb=>World.putObj_heap_other hb) ⟨fn,tmps,fK,fL,ld,?_,?_,?_,?_,?_⟩⟩
 ·rw[World.putObj_heap_same (hh.dc i l hl).2,h3]
 ·rw[h1,h2];exact g2
 ·rw[h4];exact g3
 ·rw[h5];exact g4
 ·rw[h6];exact g5
def Yiv{code:pX}(oe:JD P code){l:Nat}{args:List V}{xs:List Value}{L0:L}(hh:bm P μ w st)(hl:μ l=some L0)(hx:aV μ args xs)(h:GH code l args st=some (v,aC)):
  ∃f tmps fK fL,(Instr.yield L0.b ⟨xs⟩).run P w=.ok (.round L0.b f tmps fK fL) w/\RoundIn Fence.wide 0 P L0.b f tmps fK fL w (GX fun x w'=>∃μ' ws,VR μ' v x/\bH P μ w st μ' w' aC ws):=by
 unfold GH at h
 split at h
 ·rename_i R hg
  obtain⟨fn,tmps,fK,fL,ld,g1,g2,g3,g4,g5⟩:=hh.get hl hg
  split at h
  ·cases h
  ·rename_i r0 iS
   obtain⟨q1,q2⟩:=Zqk g2 hx iS
   have hy:=run_yield (P:=P) (args:=⟨xs⟩) g1 (by simpa using q1)
   refine⟨_,_,_,_,hy,?_⟩
   have htm:(((⟨R.ps⟩:Array Nat).zip (⟨xs⟩:Array Value)).foldl (fun tmps (p:Nat×Value)=>tmps.setIfInBounds p.1 p.2) tmps)=(R.ps.zip xs).foldl (fun (tmps:Array Value) (p:Nat×Value)=>tmps.setIfInBounds p.1 p.2) tmps:=by simp
   refine roundIn_of_wpIn (F:=Fence.wide) trivial ?_
   split at h
   ·rename_i ec bY Ez
    rw[<-g3]at Ez
    refine wpIn_mono (oe (some l) fK _ _ _ _ _ Ez μ w {tmps:=(((⟨R.ps⟩:Array Nat).zip (⟨xs⟩:Array Value)).foldl (fun tmps (p:Nat×Value)=>tmps.setIfInBounds p.1 p.2) tmps),defers:=[]} (some L0.b) hh ⟨by rw[htm];exact q2,rfl⟩ ⟨L0,hl,rfl⟩) fun e a1 w1 hp=>?_
    have tn:=hp
    obtain⟨he,μ1,ws1,zi,xy⟩:=hp
    refine tn.then (fun _=>?_) (fun aW=>absurd rfl aW)
    split at h
    ·rename_i R1 hg1
     split at h
     ·rename_i GZ
      have EA:=zi.mono hh _ _ hl
      obtain⟨Lz,k1,k2,k3,k4⟩:=bH.loop (R':={R1 with st:=.busy}) zi.hr EA hg1 rfl rfl rfl rfl rfl rfl
      refine⟨_,run_beginRound k1 (k2.trans GZ),?_⟩
      have CU:({Lz with state:=LoopState.busy,pending:=R1.iH.bind zW}:Loop)={Lz with state:=.busy}:=by rw[<-k3]
      rw[CU]at k4
      split at h
      ·rename_i e2 BD fh EB
       rw[<-g4]at EB
       refine wpIn_mono (oe (some l) fL _ _ _ _ _ EB μ1 _ a1 (some L0.b) k4.hr (xy.mono (k4.mono zi.hr)) ⟨L0,EA,rfl⟩) fun e a2 w2 zj=>?_
       obtain⟨uP,μ2,W9,kg,c9⟩:=zj
       split at h
       ·rename_i R2 Xa
        simp only[al,bu]at h
        obtain⟨rfl,rfl⟩:=h
        have iD:=kg.mono k4.hr _ _ EA
        obtain⟨Xb,m1,m2,m3,m4⟩:=bH.loop (R':={R2 with st:=Lb (ux e2),iH:=ux e2}) kg.hr iD Xa rfl rfl rfl rfl rfl rfl
        have eQ:=run_endRound (P:=P) ((ux e2).bind zW) m1
        have dM:(if ((ux e2).bind zW).isNone=true then LoopState.ready else LoopState.done)=Lb (ux e2):=by cases e2<;>rfl
        rw[dM,Ybt]at eQ
        have hR:GX (fun x w'=>∃μ' ws,VR μ' (.bool (ux e2).isNone) x/\bH P μ w st μ' w' (fh.write l (.loop {R2 with st:=Lb (ux e2),iH:=ux e2})) ws) (.returned (.bool (ux e2).isNone))
          (w2.putObj L0.b (.loop {Xb with state:=Lb (ux e2),pending:=(ux e2).bind zW})):=
         ⟨μ2,_,by simp[VR],((zi.trans k4).trans kg).trans m4⟩
        subst uP
        cases e2 with
        |normal=>exact⟨_,_,eQ,hR⟩
        |exit id=>exact⟨_,_,eQ,hR⟩
        |ret=>exact⟨_,_,eQ,hR⟩
       ·cases h
      ·cases h
     ·cases h
    ·cases h
   ·cases h
 ·cases h
def Xc(P:Program)(dK:Nat->Option lC):Prop:=
 ∀f mf,dK f=some mf->yV P f=some mf/\∀fn,P.funcs[f]?=some fn->(fn.name== "runtime.NumGoroutine")=false
def Zze{f:FuncId}{mf:lC}(h:yV P f=some mf):∃fn,P.funcs[f]?=some fn/\fn.body.isSome=true:=by
 unfold yV at h
 split at h
 ·rename_i fn hf
  refine⟨fn,hf,?_⟩
  split at h
  ·rename_i hb _;rw[hb];rfl
  ·cases h
 ·cases h
def Zw4{dK:Nat->Option lC}{code:pX}(ht:Xc P dK)(oe:JD P code):jm P (yr dK code):=by
 intro g args st v aC h μ w G xs hh hg hx
 unfold yr at h
 split at h
 ·rename_i f first gj
  split at h
  ·rename_i mf hmf
   obtain⟨a',c',rfl,h1,h2⟩:=hg
   obtain⟨hc,LA⟩:=ht f mf hmf
   obtain⟨fn,hf,hb⟩:=Zze hc
   refine⟨{target:=.fn (.func f) ⟨c'⟩,args:=⟨a'⟩++⟨xs⟩},by simp[Deferred.ofValue],.inl ⟨rfl,f,⟨a'++xs++c'⟩,?_,?_⟩⟩
   ·have hn:fn.name≠ "runtime.NumGoroutine" :=by simpa using LA fn hf
    simp[invoke,callFunc,hf,hn]
    intro hq
    rw[hq]at hb
    cases hb
   ·exact Yfy oe hf hc hh ((h1.append hx).append h2) h
  ·cases h
 ·rename_i l
  obtain⟨L0,hl,rfl⟩:=hg
  obtain⟨f,tmps,fK,fL,q1,q2⟩:=Yiv oe hh hl hx h
  refine⟨{target:=.fn (.yield L0.b) #[],args:=⟨xs⟩},by simp[Deferred.ofValue],.inr ⟨rfl,L0.b,f,tmps,fK,fL,?_,q2⟩⟩
  simp[invoke,q1]
 ·cases h
def Yot{a2:Act}{w4:World}{BD:Fr}{Xd:St}:∀(q:Option Ex),vN P μ w st (match q with|none=>.normal|some e=>e) BD Xd (JE (match q with|none=>.normal|some e=>e)) a2 w4->
  (match q.bind zW with
   |none=>vN P μ w st (match q with|none=>.normal|some e=>e) BD Xd .normal a2 w4
   |some c=>c.wpIn (FE lb) 0 P (vN P μ w st (match q with|none=>.normal|some e=>e) BD Xd) a2 w4)
 |none,h=>h
 |some .normal,h=>h
 |some (.exit _),h=>wpIn_exit h
 |some .ret,h=>wpIn_ret h
def Zxz(bZ:jm P call):Yhm P call:=by
 intro ro g s ps fK fL fr st ex bE aC hs h μ w a lb hh hf o9
 unfold CD at h
 split at h
 ·cases h
 ·rename_i gv hgv
  have hG:=cX hh hf.1 hs hgv
  rw[Jc]at h
  obtain⟨hy,h⟩:=h
  have vO:gv.Jr=false:=by simpa using hy
  split at h
  ·cases h
  ·rename_i bY d mk jc
   split at h
   ·cases h
   ·rename_i x fh hc
    split at h
    ·rename_i R Xa
     rw[Jc]at h
     obtain⟨LB,h⟩:=h
     simp only[al,bu]at h
     obtain⟨rfl,rfl,rfl⟩:=h
     refine wpIn_rangeFunc fun fn _=>?_
     have common:∀(l:Nat) (mark:List Deferred) (w0:World) (μ0:Mu) (ws0:List Nat) (db:Nat),bH P μ w st μ0 w0 bY ws0->l=w0.heap.size->(∃ld,μ0 d=some ld/\ld.b=db)->
       (Instr.enterLoop fn a.tmps ps fK fL (FE lb).round).run P w=.ok (l,mark) (w0.alloc (.loop {state:=.ready,pending:=none,fn,tmps:=a.tmps,params:=ps,assign:=fK,body:=fL,defers:=db}))->
       (∀ms ds,pA μ0 ms ds->pA μ0 (mk++ms) (mark++ds))->
       ∃(l:Nat) (mark:List Deferred) (w₁:World) (d:Deferred) (Xe:World) (f:FuncId) (args:Array Value) (w₂:World),
        (Instr.enterLoop fn a.tmps ps fK fL (FE lb).round).run P w=.ok (l,mark) w₁/\
        (resolve a.eval (rangeCall g l) 0).run P w₁=.ok d Xe/\
        (∀f',Target.leads P Xe d.target d.args=some f'->(FE lb).fn f')/\
        (invoke d.target d.args).run P Xe=.ok (.enter f args) w₂/\
        ((FE lb).depth.isSome=true->1<=0)/\
        CallsIn (FE lb) (0-1) P f args w₂ (rangePost (FE lb) 0 P l (vN P μ w st (match R.iH with|none=>.normal|some e=>e) {fr with marks:=mk++fr.marks} (fh.write bY.n (.loop {R with st:=.exhausted}))) {a with defers:=mark++a.defers}):=by
      intro l mark w0 μ0 ws0 db ui gb hdb hent Ao
      subst gb
      obtain⟨ld,tr,dp⟩:=hdb
      have ix:=ui.mono hh
      have aW:d≠bY.n:=fun hc=>by have:=(ui.hr.dc d ld tr).1;omega
      have iy:bH P μ0 w0 bY (fun i=>if i=bY.n then some ⟨w0.heap.size,0,0⟩ else μ0 i) (w0.alloc (.loop {state:=.ready,pending:=none,fn,tmps:=a.tmps,params:=ps,assign:=fK,body:=fL,defers:=db}))
        (bY.alloc (.loop {st:=.ready,iH:=none,r:=fr.r,n:=fr.n,ps:=ps.toList,assign:=iF P fK,body:=iF P fL,defs:=d})) []:=by
       have dC:∀i l,μ0 i=some l->(fun i=>if i=bY.n then some (⟨w0.heap.size,0,0⟩:L) else μ0 i) i=some l:=fun i l hl=>by
        have:=(ui.hr.dc i l hl).1
        simp only
        rw[ak (by omega)];exact hl
       refine bH.alloc ui.hr _ (.loop {state:=.ready,pending:=none,fn,tmps:=a.tmps,params:=ps,assign:=fK,body:=fL,defers:=db}) 0 0 ⟨fn,a.tmps,fK,fL,ld,?_,(hf.1.mono ix).mono dC,rfl,rfl,?_⟩
       ·show (w0.heap.push _)[w0.heap.size]?=_
        simp[dp]
       ·simp only;rw[ak aW];exact tr
      have zi:=ui.trans iy
      have mC:=zi.mono hh
      obtain⟨dd,og,gU⟩:=bZ gv [.yield bY.n] _ x fh hc _ _ (a.eval g) [.func (.yield w0.heap.size) #[] #[]] iy.hr (VR.mono mC _ _ hG) (lD.2 ⟨_,[],rfl,⟨⟨w0.heap.size,0,0⟩,by simp,rfl⟩,by simp[aV]⟩)
      rcases gU with⟨_,f,args,hinv,GS⟩|⟨hyy,_⟩
      ·refine⟨w0.heap.size,mark,_,dd,_,f,args,_,hent,?_,fun _ _=>trivial,hinv,fun hx=>by simp[Fence.wide]at hx,?_⟩
       ·have e0:(#[Operand.const (.func (.yield w0.heap.size) #[] #[])]).map a.eval=(⟨[.func (.yield w0.heap.size) #[] #[]]⟩:Array Value):=by simp[Act.eval]
        simp only[resolve,e0]
        exact og
       ·refine CallsIn.mono (F:=Fence.wide) GS fun e w3 he=>?_
        cases e with
        |panicked _=>exact he.elim
        |outgrown=>exact he.elim
        |returned y=>
         obtain⟨μ2,W9,_,kg⟩:=he
         have iD:μ2 bY.n=some ⟨w0.heap.size,0,0⟩:=kg.mono iy.hr _ _ (by simp)
         obtain⟨rec,m1,m2,m3,m4⟩:=bH.loop (R':={R with st:=.exhausted}) kg.hr iD Xa rfl rfl rfl rfl rfl rfl
         have eQ:=run_endLoop (P:=P) m1 (by rw[m2];exact LB)
         have hsf:=(zi.trans kg).trans m4
         have Xf:({rec with state:=.exhausted,pending:=R.iH.bind zW}:Loop)={rec with state:=.exhausted}:=by rw[<-m3]
         rw[Xf]at hsf
         have zg:mO μ2 {fr with marks:=mk++fr.marks} {a with defers:=mark++a.defers}:=by
          refine⟨(hf.1.mono mC).mono (kg.mono iy.hr),?_⟩
          exact((Ao _ _ (hf.2.mono ix)).mono (iy.mono ui.hr)).mono (kg.mono iy.hr)
         have fin:vN P μ w st (match R.iH with|none=>.normal|some e=>e) {fr with marks:=mk++fr.marks} (fh.write bY.n (.loop {R with st:=.exhausted})) (JE (match R.iH with|none=>.normal|some e=>e)) {a with defers:=mark++a.defers} _:=⟨rfl,μ2,_,hsf,zg⟩
         exact⟨R.iH.bind zW,_,by rw[<-m3];exact eQ,Yot R.iH fin⟩
      ·rw[vO]at hyy;cases hyy
     cases ro with
     |none=>
      cases lb with
      |some _=>exact o9.elim
      |none=>
       simp only[Wk,al,bu]at jc
       obtain⟨rfl,rfl,rfl⟩:=jc
       have Ca:bH P μ w st (fun i=>if i=st.n then some ⟨w.heap.size,0,0⟩ else μ i) (w.alloc (.deferred (some []))) (st.alloc (.defs true)) []:=
        bH.alloc hh (.defs true) (.deferred (some [])) 0 0 (by simp only[OM];show (w.heap.push _)[w.heap.size]?=_;simp)
       refine common (w.heap.size+1) [{target:=.collected w.heap.size,args:=#[]}] (w.alloc (.deferred (some []))) _ [] w.heap.size Ca (by simp) ⟨⟨w.heap.size,0,0⟩,by simp,rfl⟩ (run_enterLoop_outer ..) fun ms ds hd=>⟨⟨w.heap.size,0,0⟩,ds,by simp,rfl,hd⟩
     |some l0=>
      cases lb with
      |none=>exact o9.elim
      |some b=>
       obtain⟨L0,gb,rfl⟩:=o9
       simp only[Wk]at jc
       split at jc
       ·rename_i R0 sS
        simp only[al,bu]at jc
        obtain⟨rfl,rfl,rfl⟩:=jc
        obtain⟨fn0,zap,zaA,zaB,ld0,g1,g2,g3,g4,g5⟩:=hh.get gb sS
        refine common w.heap.size [] w μ [] ld0.b (bH.refl hh) rfl ⟨ld0,g5,rfl⟩ ?_ (fun ms ds hd=>hd)
        show (Instr.enterLoop fn a.tmps ps fK fL (some L0.b)).run P w=_
        unfold Instr.enterLoop
        simp only[Sem.run_bind,run_getLoop g1,run_newObj_alloc,Result.andThen,Sem.run_pure]
       ·cases jc
    ·cases h
end
open Go Go.Conc
section
variable {P:Program} {μ:Mu} {w:World} {st aC:St} {fr bE:Fr} {a:Act} {call:cI} {v:V} {lb:Option Nat}
def Yl4(bZ:jm P call)(hE:uy P):Yuh P call:=fun id ops o rest d ch s z fr st ex bE aC zaC Xg=>by cases Xg
end
end Go.Mx
