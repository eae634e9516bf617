/-The machine M's runs stand for the Go mo-/
import Derived.Test.YtokjleejipaidaaGreatDoorMxOps
import Derived.Conc.LoneSelect
set_option linter.all false
namespace Go.Mx
open Go
section
variable {P:Program} {μ:Mu} {w:World} {st aA:St} {fr bE:Fr} {a:Act} {call:cH} {v:V} {lb:Option Nat}
def Zn3:∀(vs:List V) (r:T V) (i t:Nat),(zJ r i vs).get t=if i<=t/\t<i+vs.length then vs[t-i]? else r.get t
 |[],r,i,t=>by simp[zJ];omega
 |v::vs,r,i,t=>by
  simp only[zJ]
  rw[Zn3 vs (r.set i v) (i+1) t,T.ag]
  by_cases h:t=i
  ·subst h
   rw[ak (by omega),ax rfl,ax (by simp)];simp
  ·by_cases h2:i+1<=t/\t<i+1+vs.length
   ·rw[ax h2,ax (by simp;omega)]
    rw[show t-i=(t-(i+1))+1 by omega];simp
   ·rw[ak h2,ak h,ak (by simp;omega)]
def Ykk{vs:List V}{xs:List Value}{n:Nat}(h:aU μ vs xs)(hl:vs.length<=n):RR μ (zJ .nil 0 vs) n ((⟨xs⟩:Array Value)++Array.replicate (n-(⟨xs⟩:Array Value).size) undef):=by
 have zL:=h.length
 refine⟨by simp;omega,fun t v hv=>?_⟩
 rw[Zn3]at hv
 split at hv
 ·rename_i ht
  simp only[Nat.sub_zero]at hv
  obtain⟨x,hx,hr⟩:=h.get hv
  refine⟨x,?_,hr⟩
  rw[Array.getElem?_append_left (by simp;omega)]
  simpa using hx
 ·simp[T.get]at hv
def Rj(tmps:Array Value):ResultVar->Sem Value
 |.tmp t=>pure (tmps.getD t undef)
 |.cell a t=>do loadVar t (<-asAddr (tmps.getD a undef))
def Xv(hh:bm P μ w st){r:T V}{n:Nat}{tmps:Array Value}(hr:RR μ r n tmps):∀{rs:List ResultVar} {ms:List Eo},EG P rs=some ms->∀{vs:List V},fB r st ms=some vs->
  ∃xs,(rs.mapM (Rj tmps)).run P w=.ok xs w/\aU μ vs xs
 |[],ms,hc,vs,hv=>by
  simp only[EG,an]at hc;subst hc
  simp only[fB,an]at hv;subst hv
  exact⟨[],by simp,by simp[aU]⟩
 |.tmp t::rs,ms,hc,vs,hv=>by
  simp only[EG,kh]at hc
  obtain⟨ms',pW,rfl⟩:=hc
  simp only[fB]at hv
  split at hv
  ·rename_i u us hu tZ
   simp only[an]at hv;subst hv
   obtain⟨xs,h1,h2⟩:=Xv hh hr pW tZ
   obtain⟨x,hx,B9⟩:=hr.2 _ _ hu
   refine⟨x::xs,?_,kL.2 ⟨_,_,rfl,B9,h2⟩⟩
   simp only[List.mapM_cons,Rj,Sem.run_bind,Sem.run_pure,Result.andThen_ok,h1]
   simp[GV,hx]
  ·cases hv
 |.cell t ty::rs,ms,hc,vs,hv=>by
  simp only[EG]at hc
  split at hc
  ·rename_i k ms' hk pW
   simp only[an]at hc;subst hc
   simp only[fB]at hv
   split at hv
   ·rename_i i o us hu tZ
    split at hv
    ·rename_i c e mP al
     split at hv
     ·rename_i u eL
      simp only[an]at hv;subst hv
      obtain⟨xs,h1,h2⟩:=Xv hh hr pW tZ
      obtain⟨x,hx,l,hl,rfl⟩:=hr.2 _ _ hu
      have zM:=hh.row hl al
      have xZ:∃y,(loadVar ty ⟨l.b,l.d+o,none⟩).run P w=.ok y w/\VR μ u y:=by
       cases k with
       |none=>
        simp only[aR]at eL
        obtain⟨y,hy,hv⟩:=zM.cell eL
        exact⟨y,by simp[loadVar,WG hk,Result.andThen,hy],hv⟩
       |some k=>
        simp only[aR]at eL
        split at eL
        ·rename_i q hq
         simp only[an]at eL;subst eL
         obtain⟨ys,g1,_,g3,_⟩:=zM.Av hq
         exact⟨.agg ys.toArray,by simp[loadVar,(JK hk).1,(JK hk).2,Result.andThen,g3],ys,rfl,g1⟩
        ·cases eL
      obtain⟨y,tD,x_⟩:=xZ
      refine⟨y::xs,?_,kL.2 ⟨_,_,rfl,x_,h2⟩⟩
      have jv:tmps.getD t undef=.pointer (some ⟨l.b,l.d+o,none⟩):=by simp[GV,hx]
      have Xw:(asAddr (tmps.getD t undef)).run P w=.ok ⟨l.b,l.d+o,none⟩ w:=by rw[jv];rfl
      simp only[List.mapM_cons,Rj,Sem.run_bind,Xw,Sem.run_pure,Result.andThen_ok,tD,h1]
     ·cases hv
    ·cases hv
   ·cases hv
  ·cases hc
def Zvr(hh:bm P μ w st){r:T V}{n:Nat}{tmps:Array Value}(hr:RR μ r n tmps){fn:Func}{ms:List Eo}(hc:EG P fn.results.toList=some ms){vs:List V}(hv:fB r st ms=some vs):
  ∃x,(results fn tmps).run P w=.ok x w/\VR μ (Fa vs) x:=by
 obtain⟨xs,h1,h2⟩:=Xv hh hr hc hv
 have hl:=h2.length
 refine⟨if h:xs.length=1 then xs[0] else .tuple ⟨xs⟩,?_,?_⟩
 ·show (do let vs <-fn.results.mapM (Rj tmps);pure (if h:vs.size=1 then vs[0] else .tuple vs):Sem Value).run P w=_
  rw[Array.mapM_eq_mapM_toList]
  simp only[Sem.run_bind,Sem.run_map,h1,Result.andThen_ok,Sem.run_pure]
  rfl
 ·rcases vs with _|⟨u,_|⟨u',vs⟩⟩
  ·simp only[aU]at h2;subst h2
   exact⟨[],rfl,by simp[aU]⟩
  ·obtain⟨y,ys,rfl,g1,g2⟩:=kL.1 h2
   simp only[aU]at g2;subst g2
   exact g1
  ·rw[dif_neg (by rw[hl];simp)]
   exact⟨xs,rfl,h2⟩
def Zxn{fn:Func}{tmps:Array Value}{R:Ending->World->Prop}:∀{ms:List Nat} {ds:List Deferred} {st eI:St} {w:World},bm P μ w st->qc μ ms ds->shut st ms=some eI->
  (∀w' ws,bH P μ w st μ w' eI ws->∃v,(results fn tmps).run P w'=.ok v w'/\R (.returned v) w')->LeavesInM Fence.wide 0 P fn tmps R ds .returning w
 |[],ds,st,eI,w,hh,hd,hs,hR=>by
  simp only[qc]at hd;subst hd
  simp only[shut,an]at hs;subst hs
  exact hR w [] (bH.refl hh)
 |m::ms,ds,st,eI,w,hh,hd,hs,hR=>by
  obtain⟨l,Fp,h1,rfl,h3⟩:=hd
  simp only[shut]at hs
  split at hs
  ·rename_i hg
   have zM:=hh.get h1 hg
   have Mn:bH P μ w st μ (w.putObj l.b (.deferred none)) (st.write m (.defs false)) [m]:=
    bH.write hh h1 hg rfl rfl rfl rfl (World.putObj_size) (fun b hb=>World.putObj_heap_other hb) (World.putObj_heap_same (hh.c_ m l h1).2)
   refine⟨by simp,.inl ⟨l.b,_,rfl,run_takeDeferred zM,?_⟩⟩
   exact Zxn Mn.hr h3 hs fun w' ws jh=>hR w' _ (Mn.trans jh)
  ·cases hs
def bH.fold{μ':Mu}{w':World}{ws:List Nat}(h0:bm P μ w st)(h:bH P μ w {st with w:=[]} μ' w' aA ws):bH P μ w st μ' w' {aA with w:=ar st.n aA.w++st.w} (ar st.n aA.w):=by
 have oS:∀(l:List Nat) (i:Nat),i<st.n->(i∈ar st.n l↔i∈l):=by
  intro l i hi
  induction l with
  |nil=>simp[ar]
  |cons j l ih=>
   simp only[ar]
   split
   ·unfold vZ
    split
    ·rename_i hc
     simp only[ku,ih]
     simp only[QV]at hc
     constructor
     ·exact .inr
     ·rintro(rfl|h)
      ·exact ih.1 hc
      ·exact h
    ·simp only[ku,ih]
   ·simp only[ku,ih]
    constructor
    ·exact .inr
    ·rintro(rfl|h)
     ·omega
     ·exact h
 have Ey:aA.w=ws:=by have:=h.wl;simpa using this
 have hs:∀i,i<st.n->(i∈ar st.n aA.w↔i∈ws):=fun i hi=>by rw[oS _ i hi,Ey]
 exact {
  hr:=⟨h.hr.c_,h.hr.obj,h.hr.inj,h.hr.ic⟩
  ext:=h.ext
  fk:=h.fk
  wl:=rfl
  ed:=⟨h.ed.os,h.ed.tape,h.ed.output,h.ed.size,fun b hb dv=>h.ed.block b hb fun i hi l hl=>dv i ((hs i (h0.c_ i l hl).1).2 hi) l hl⟩
  new:=fun i l hi hl=>by
   rcases h.new i l hi hl with h'|⟨j,hj,GR,r⟩
   ·exact .inl h'
   ·exact .inr ⟨j,(hs j GR).2 hj,GR,r⟩
  ad:=fun i hi dv=>h.ad i hi fun hc=>dv ((hs i hi).2 hc)
  grow:=h.grow
  full:=h.full
  zA:=fun i hi hn=>h.zA i ((hs i hn).1 hi) hn}
def bm.now(h:bm P μ w st)(l:List Nat):bm P μ w {st with w:=l}:=⟨h.c_,h.obj,h.inj,h.ic⟩
def Yfr{code:qx}(oT:Kg P code){f:FuncId}{fn:Func}{mf:lA}(hf:P.funcs[f]?=some fn)(hc:zg P f=some mf){args:List V}{xs:List Value}(hh:bm P μ w st)(hx:aU μ args xs)
  (h:C6 mf code args st=some (v,aA)):CallsIn Fence.wide 0 P f ⟨xs⟩ w (HJ fun x w'=>∃μ' ws,VR μ' v x/\bH P μ w st μ' w' aA ws):=by
 unfold zg at hc
 rw[hf]at hc
 simp only at hc
 split at hc
 ·rename_i c rs hb Xx
  simp only[an]at hc;subst hc
  unfold C6 at h
  split at h
  ·cases h
  ·rename_i hle
   simp only at hle h
   have fin:∀(ex:Ex) (dV:Fr) (bV:St),(ex=.normal\/ex=.ret)->code none (iL P c) {r:=zJ .nil 0 args,n:=fn.ntmps,marks:=[]} {st with w:=[]}=some (ex,dV,bV)->
     (match shut bV dV.marks with
      |none=>none
      |some eI=>match fB dV.r eI rs with
       |some vs=>some (Fa vs,{eI with w:=ar st.n eI.w++st.w})
       |none=>none)=some (v,aA)->
     CallsIn Fence.wide 0 P f ⟨xs⟩ w (HJ fun x w'=>∃μ' ws,VR μ' v x/\bH P μ w st μ' w' aA ws):=by
    intro ex dV bV hex bQ eM
    split at eM
    ·cases eM
    ·rename_i eI Mo
     split at eM
     ·rename_i vs GU
      simp only[an,bs]at eM
      obtain⟨rfl,rfl⟩:=eM
      refine callsIn_of_wp_marks hf hb trivial (wpIn_mono (oT none c _ _ _ _ _ bQ μ w _ none (hh.now []) ⟨Ykk hx (zB hle),rfl⟩ trivial) fun e a' w' hp=>?_)
      obtain⟨rfl,μ1,ws,hs,tE⟩:=hp
      have hl:LeavesInM Fence.wide 0 P fn a'.tmps (HJ fun x w'=>∃μ' ws,VR μ' (Fa vs) x/\bH P μ w st μ' w' {eI with w:=ar st.n eI.w++st.w} ws) a'.defers .returning w':=by
       refine Zxn hs.hr tE.2 Mo fun w2 Xy oV=>?_
       obtain⟨x,tS,pZ⟩:=Zvr oV.hr tE.1 Xx GU
       exact⟨x,tS,μ1,_,pZ,(hs.trans oV).fold hh⟩
      rcases hex with rfl|rfl
      ·exact hl
      ·exact hl
     ·cases eM
   unfold WR at h
   split at h
   ·cases h
   ·rename_i ex dV bV aW bQ
    exact fin ex dV bV (by cases ex with|normal=>exact .inl rfl|ret=>exact .inr rfl|exit id=>exact(aW id rfl).elim) (by assumption) h
   ·cases h
 ·cases hc
def Zqg:∀{ps:List Nat} {vs:List V} {r r':T V} {n:Nat} {tmps:Array Value} {xs:List Value},RR μ r n tmps->aU μ vs xs->CB r n ps vs=some r'->
  xs.length=ps.length/\RR μ r' n ((ps.zip xs).foldl (fun (tmps:Array Value) (p:Nat×Value)=>tmps.setIfInBounds p.1 p.2) tmps)
 |[],[],r,r',n,tmps,xs,hr,hx,h=>by
  simp only[aU]at hx;subst hx
  simp only[CB,an]at h;subst h
  exact⟨rfl,hr⟩
 |[],_::_,r,r',n,tmps,xs,hr,hx,h=>by simp[CB]at h
 |_::_,[],r,r',n,tmps,xs,hr,hx,h=>by simp[CB]at h
 |p::ps,v::vs,r,r',n,tmps,xs,hr,hx,h=>by
  obtain⟨y,ys,rfl,h1,h2⟩:=kL.1 hx
  simp only[CB]at h
  split at h
  ·rename_i hp
   obtain⟨g1,g2⟩:=Zqg (hr.set hp h1) h2 h
   exact⟨by simp[g1],by simpa using g2⟩
  ·cases h
def Ybo(e:Ex):((q9 e).bind At).isNone=(q9 e).isNone:=by cases e<;>rfl
def bH.loop(hh:bm P μ w st){i:Nat}{l:L}(hl:μ i=some l){R R':Lm}(hg:st.h.get i=some (.loop R))(h1:R'.r=R.r)(h2:R'.n=R.n)(h3:R'.ps=R.ps)(h4:R'.assign=R.assign)(h5:R'.body=R.body)(h6:R'.defs=R.defs):
  ∃rec,w.heap[l.b]?=some (.loop rec)/\rec.state=R.st/\rec.pending=R.eW.bind At/\
   bH P μ w st μ (w.putObj l.b (.loop {rec with state:=R'.st,pending:=R'.eW.bind At})) (st.write i (.loop R')) [i]:=by
 obtain⟨fn,tmps,fP,fQ,ld,g1,g2,g3,g4,g5⟩:=hh.get hl hg
 refine⟨_,g1,rfl,rfl,bH.write hh hl hg rfl rfl rfl rfl World.putObj_size (fun b hb=>World.putObj_heap_other hb) ⟨fn,tmps,fP,fQ,ld,?_,?_,?_,?_,?_⟩⟩
 ·rw[World.putObj_heap_same (hh.c_ i l hl).2,h3]
 ·rw[h1,h2];exact g2
 ·rw[h4];exact g3
 ·rw[h5];exact g4
 ·rw[h6];exact g5
def Yio{code:qx}(oT:Kg P code){l:Nat}{args:List V}{xs:List Value}{L0:L}(hh:bm P μ w st)(hl:μ l=some L0)(hx:aU μ args xs)(h:CC code l args st=some (v,aA)):
  ∃f tmps fP fQ,(Instr.yield L0.b ⟨xs⟩).run P w=.ok (.round L0.b f tmps fP fQ) w/\RoundIn Fence.wide 0 P L0.b f tmps fP fQ w (HJ fun x w'=>∃μ' ws,VR μ' v x/\bH P μ w st μ' w' aA ws):=by
 unfold CC at h
 split at h
 ·rename_i R hg
  obtain⟨fn,tmps,fP,fQ,ld,g1,g2,g3,g4,g5⟩:=hh.get hl hg
  split at h
  ·cases h
  ·rename_i r0 d_
   obtain⟨q1,q2⟩:=Zqg g2 hx d_
   have hy:=run_yield (P:=P) (args:=⟨xs⟩) g1 (by simpa using q1)
   refine⟨_,_,_,_,hy,?_⟩
   have htm:(((⟨R.ps⟩:Array Nat).zip (⟨xs⟩:Array Value)).foldl (fun tmps (p:Nat×Value)=>tmps.setIfInBounds p.1 p.2) tmps)=(R.ps.zip xs).foldl (fun (tmps:Array Value) (p:Nat×Value)=>tmps.setIfInBounds p.1 p.2) tmps:=by simp
   refine roundIn_of_wpIn (F:=Fence.wide) trivial ?_
   split at h
   ·rename_i dV bV Ft
    rw[<-g3]at Ft
    refine wpIn_mono (oT (some l) fP _ _ _ _ _ Ft μ w {tmps:=(((⟨R.ps⟩:Array Nat).zip (⟨xs⟩:Array Value)).foldl (fun tmps (p:Nat×Value)=>tmps.setIfInBounds p.1 p.2) tmps),defers:=[]} (some L0.b) hh ⟨by rw[htm];exact q2,rfl⟩ ⟨L0,hl,rfl⟩) fun e a1 w1 hp=>?_
    have tQ:=hp
    obtain⟨he,μ1,ws1,AV,tE⟩:=hp
    refine tQ.then (fun _=>?_) (fun aW=>absurd rfl aW)
    split at h
    ·rename_i R1 hg1
     split at h
     ·rename_i HK
      have Fu:=AV.mono hh _ _ hl
      obtain⟨Mp,k1,k2,k3,k4⟩:=bH.loop (R':={R1 with st:=.busy}) AV.hr Fu hg1 rfl rfl rfl rfl rfl rfl
      refine⟨_,run_beginRound k1 (k2.trans HK),?_⟩
      have Ez:({Mp with state:=LoopState.busy,pending:=R1.eW.bind At}:Loop)={Mp with state:=.busy}:=by rw[<-k3]
      rw[Ez]at k4
      split at h
      ·rename_i e2 Ac eI Fv
       rw[<-g4]at Fv
       refine wpIn_mono (oT (some l) fQ _ _ _ _ _ Fv μ1 _ a1 (some L0.b) k4.hr (tE.mono (k4.mono AV.hr)) ⟨L0,Fu,rfl⟩) fun e a2 w2 zN=>?_
       obtain⟨vD,μ2,Xy,oV,cG⟩:=zN
       split at h
       ·rename_i R2 Xz
        simp only[an,bs]at h
        obtain⟨rfl,rfl⟩:=h
        have gj:=oV.mono k4.hr _ _ Fu
        obtain⟨XA,m1,m2,m3,m4⟩:=bH.loop (R':={R2 with st:=Jq (q9 e2),eW:=q9 e2}) oV.hr gj Xz rfl rfl rfl rfl rfl rfl
        have eM:=run_endRound (P:=P) ((q9 e2).bind At) m1
        have dK:(if ((q9 e2).bind At).isNone=true then LoopState.ready else LoopState.done)=Jq (q9 e2):=by cases e2<;>rfl
        rw[dK,Ybo]at eM
        have hR:HJ (fun x w'=>∃μ' ws,VR μ' (.bool (q9 e2).isNone) x/\bH P μ w st μ' w' (eI.write l (.loop {R2 with st:=Jq (q9 e2),eW:=q9 e2})) ws) (.returned (.bool (q9 e2).isNone))
          (w2.putObj L0.b (.loop {XA with state:=Jq (q9 e2),pending:=(q9 e2).bind At})):=
         ⟨μ2,_,by simp[VR],((AV.trans k4).trans oV).trans m4⟩
        subst vD
        cases e2 with
        |normal=>exact⟨_,_,eM,hR⟩
        |exit id=>exact⟨_,_,eM,hR⟩
        |ret=>exact⟨_,_,eM,hR⟩
       ·cases h
      ·cases h
     ·cases h
    ·cases h
   ·cases h
 ·cases h
def XB(P:Program)(dJ:Nat->Option lA):Prop:=
 ∀f mf,dJ f=some mf->zg P f=some mf/\∀fn,P.funcs[f]?=some fn->(fn.name== "runtime.NumGoroutine")=false
def Zy9{f:FuncId}{mf:lA}(h:zg P f=some mf):∃fn,P.funcs[f]?=some fn/\fn.body.isSome=true:=by
 unfold zg at h
 split at h
 ·rename_i fn hf
  refine⟨fn,hf,?_⟩
  split at h
  ·rename_i hb _;rw[hb];rfl
  ·cases h
 ·cases h
def Zw6{dJ:Nat->Option lA}{code:qx}(ht:XB P dJ)(oT:Kg P code):js P (yV dJ code):=by
 intro g args st v aA h μ w G xs hh hg hx
 unfold yV at h
 split at h
 ·rename_i f first gp
  split at h
  ·rename_i mf hmf
   obtain⟨a',c',rfl,h1,h2⟩:=hg
   obtain⟨hc,Mq⟩:=ht f mf hmf
   obtain⟨fn,hf,hb⟩:=Zy9 hc
   refine⟨{target:=.fn (.func f) ⟨c'⟩,args:=⟨a'⟩++⟨xs⟩},by simp[Deferred.ofValue],.inl ⟨rfl,f,⟨a'++xs++c'⟩,?_,?_⟩⟩
   ·have hn:fn.name≠ "runtime.NumGoroutine" :=by simpa using Mq fn hf
    simp[invoke,callFunc,hf,hn]
    intro hq
    rw[hq]at hb
    cases hb
   ·exact Yfr oT hf hc hh ((h1.append hx).append h2) h
  ·cases h
 ·rename_i l
  obtain⟨L0,hl,rfl⟩:=hg
  obtain⟨f,tmps,fP,fQ,q1,q2⟩:=Yio oT hh hl hx h
  refine⟨{target:=.fn (.yield L0.b) #[],args:=⟨xs⟩},by simp[Deferred.ofValue],.inr ⟨rfl,L0.b,f,tmps,fP,fQ,?_,q2⟩⟩
  simp[invoke,q1]
 ·cases h
def Yos{a2:Act}{w4:World}{Ac:Fr}{XC:St}:∀(q:Option Ex),wy P μ w st (match q with|none=>.normal|some e=>e) Ac XC (Kh (match q with|none=>.normal|some e=>e)) a2 w4->
  (match q.bind At with
   |none=>wy P μ w st (match q with|none=>.normal|some e=>e) Ac XC .normal a2 w4
   |some c=>c.wpIn (FE lb) 0 P (wy P μ w st (match q with|none=>.normal|some e=>e) Ac XC) a2 w4)
 |none,h=>h
 |some .normal,h=>h
 |some (.exit _),h=>wpIn_exit h
 |some .ret,h=>wpIn_ret h
def Zxu(b_:js P call):Yhd P call:=by
 intro ro g s ps fP fQ fr st ex bE aA hs h μ w a lb hh hf pL
 unfold Ab at h
 split at h
 ·cases h
 ·rename_i gv hgv
  have hG:=cU hh hf.1 hs hgv
  rw[JM]at h
  obtain⟨hy,h⟩:=h
  have wz:gv.Gw=false:=by simpa using hy
  split at h
  ·cases h
  ·rename_i bV d mk ji
   split at h
   ·cases h
   ·rename_i x eI hc
    split at h
    ·rename_i R Xz
     rw[JM]at h
     obtain⟨Mr,h⟩:=h
     simp only[an,bs]at h
     obtain⟨rfl,rfl,rfl⟩:=h
     refine wpIn_rangeFunc fun fn _=>?_
     have common:∀(l:Nat) (mark:List Deferred) (w0:World) (μ0:Mu) (ws0:List Nat) (db:Nat),bH P μ w st μ0 w0 bV ws0->l=w0.heap.size->(∃ld,μ0 d=some ld/\ld.b=db)->
       (Instr.enterLoop fn a.tmps ps fP fQ (FE lb).round).run P w=.ok (l,mark) (w0.alloc (.loop {state:=.ready,pending:=none,fn,tmps:=a.tmps,params:=ps,assign:=fP,body:=fQ,defers:=db}))->
       (∀ms ds,qc μ0 ms ds->qc μ0 (mk++ms) (mark++ds))->
       ∃(l:Nat) (mark:List Deferred) (w₁:World) (d:Deferred) (XD:World) (f:FuncId) (args:Array Value) (w₂:World),
        (Instr.enterLoop fn a.tmps ps fP fQ (FE lb).round).run P w=.ok (l,mark) w₁/\
        (resolve a.eval (rangeCall g l) 0).run P w₁=.ok d XD/\
        (∀f',Target.leads P XD d.target d.args=some f'->(FE lb).fn f')/\
        (invoke d.target d.args).run P XD=.ok (.enter f args) w₂/\
        ((FE lb).depth.isSome=true->1<=0)/\
        CallsIn (FE lb) (0-1) P f args w₂ (rangePost (FE lb) 0 P l (wy P μ w st (match R.eW with|none=>.normal|some e=>e) {fr with marks:=mk++fr.marks} (eI.write bV.n (.loop {R with st:=.exhausted}))) {a with defers:=mark++a.defers}):=by
      intro l mark w0 μ0 ws0 db fh eG hdb hent AN
      subst eG
      obtain⟨ld,uf,du⟩:=hdb
      have gg:=fh.mono hh
      have aW:d≠bV.n:=fun hc=>by have:=(fh.hr.c_ d ld uf).1;omega
      have iJ:bH P μ0 w0 bV (fun i=>if i=bV.n then some ⟨w0.heap.size,0,0⟩ else μ0 i) (w0.alloc (.loop {state:=.ready,pending:=none,fn,tmps:=a.tmps,params:=ps,assign:=fP,body:=fQ,defers:=db}))
        (bV.alloc (.loop {st:=.ready,eW:=none,r:=fr.r,n:=fr.n,ps:=ps.toList,assign:=iL P fP,body:=iL P fQ,defs:=d})) []:=by
       have dw:∀i l,μ0 i=some l->(fun i=>if i=bV.n then some (⟨w0.heap.size,0,0⟩:L) else μ0 i) i=some l:=fun i l hl=>by
        have:=(fh.hr.c_ i l hl).1
        simp only
        rw[ak (by omega)];exact hl
       refine bH.alloc fh.hr _ (.loop {state:=.ready,pending:=none,fn,tmps:=a.tmps,params:=ps,assign:=fP,body:=fQ,defers:=db}) 0 0 ⟨fn,a.tmps,fP,fQ,ld,?_,(hf.1.mono gg).mono dw,rfl,rfl,?_⟩
       ·show (w0.heap.push _)[w0.heap.size]?=_
        simp[du]
       ·simp only;rw[ak aW];exact uf
      have AV:=fh.trans iJ
      have mL:=AV.mono hh
      obtain⟨dd,oF,ik⟩:=b_ gv [.yield bV.n] _ x eI hc _ _ (a.eval g) [.func (.yield w0.heap.size) #[] #[]] iJ.hr (VR.mono mL _ _ hG) (kL.2 ⟨_,[],rfl,⟨⟨w0.heap.size,0,0⟩,by simp,rfl⟩,by simp[aU]⟩)
      rcases ik with⟨_,f,args,hinv,Kc⟩|⟨hyy,_⟩
      ·refine⟨w0.heap.size,mark,_,dd,_,f,args,_,hent,?_,fun _ _=>trivial,hinv,fun hx=>by simp[Fence.wide]at hx,?_⟩
       ·have e0:(#[Operand.const (.func (.yield w0.heap.size) #[] #[])]).map a.eval=(⟨[.func (.yield w0.heap.size) #[] #[]]⟩:Array Value):=by simp[Act.eval]
        simp only[resolve,e0]
        exact oF
       ·refine CallsIn.mono (F:=Fence.wide) Kc fun e w3 he=>?_
        cases e with
        |panicked _=>exact he.elim
        |outgrown=>exact he.elim
        |returned y=>
         obtain⟨μ2,Xy,_,oV⟩:=he
         have gj:μ2 bV.n=some ⟨w0.heap.size,0,0⟩:=oV.mono iJ.hr _ _ (by simp)
         obtain⟨rec,m1,m2,m3,m4⟩:=bH.loop (R':={R with st:=.exhausted}) oV.hr gj Xz rfl rfl rfl rfl rfl rfl
         have eM:=run_endLoop (P:=P) m1 (by rw[m2];exact Mr)
         have hsf:=(AV.trans oV).trans m4
         have XE:({rec with state:=.exhausted,pending:=R.eW.bind At}:Loop)={rec with state:=.exhausted}:=by rw[<-m3]
         rw[XE]at hsf
         have wu:mX μ2 {fr with marks:=mk++fr.marks} {a with defers:=mark++a.defers}:=by
          refine⟨(hf.1.mono mL).mono (oV.mono iJ.hr),?_⟩
          exact((AN _ _ (hf.2.mono gg)).mono (iJ.mono fh.hr)).mono (oV.mono iJ.hr)
         have fin:wy P μ w st (match R.eW with|none=>.normal|some e=>e) {fr with marks:=mk++fr.marks} (eI.write bV.n (.loop {R with st:=.exhausted})) (Kh (match R.eW with|none=>.normal|some e=>e)) {a with defers:=mark++a.defers} _:=⟨rfl,μ2,_,hsf,wu⟩
         exact⟨R.eW.bind At,_,by rw[<-m3];exact eM,Yos R.eW fin⟩
      ·rw[wz]at hyy;cases hyy
     cases ro with
     |none=>
      cases lb with
      |some _=>exact pL.elim
      |none=>
       simp only[Qo,an,bs]at ji
       obtain⟨rfl,rfl,rfl⟩:=ji
       have CH:bH P μ w st (fun i=>if i=st.n then some ⟨w.heap.size,0,0⟩ else μ i) (w.alloc (.deferred (some []))) (st.alloc (.defs true)) []:=
        bH.alloc hh (.defs true) (.deferred (some [])) 0 0 (by simp only[OM];show (w.heap.push _)[w.heap.size]?=_;simp)
       refine common (w.heap.size+1) [{target:=.collected w.heap.size,args:=#[]}] (w.alloc (.deferred (some []))) _ [] w.heap.size CH (by simp) ⟨⟨w.heap.size,0,0⟩,by simp,rfl⟩ (run_enterLoop_outer ..) fun ms ds hd=>⟨⟨w.heap.size,0,0⟩,ds,by simp,rfl,hd⟩
     |some l0=>
      cases lb with
      |none=>exact pL.elim
      |some b=>
       obtain⟨L0,eG,rfl⟩:=pL
       simp only[Qo]at ji
       split at ji
       ·rename_i R0 tC
        simp only[an,bs]at ji
        obtain⟨rfl,rfl,rfl⟩:=ji
        obtain⟨fn0,zay,zaK,zaL,ld0,g1,g2,g3,g4,g5⟩:=hh.get eG tC
        refine common w.heap.size [] w μ [] ld0.b (bH.refl hh) rfl ⟨ld0,g5,rfl⟩ ?_ (fun ms ds hd=>hd)
        show (Instr.enterLoop fn a.tmps ps fP fQ (some L0.b)).run P w=_
        unfold Instr.enterLoop
        simp only[Sem.run_bind,run_getLoop g1,run_newObj_alloc,Result.andThen,Sem.run_pure]
       ·cases ji
    ·cases h
end
open Go Go.Conc
section
variable {P:Program} {μ:Mu} {w:World} {st aA:St} {fr bE:Fr} {a:Act} {call:cH} {v:V} {lb:Option Nat}
def Yly(b_:js P call)(hE:uJ P):Yud P call:=fun id ops o rest d ch s z fr st ex bE aA zaM XF=>by cases XF
end
section
variable {r r' : T V} {st : St} {call : cH}
def HL : ∀ {l : List Src}, (∀ s ∈ l, s.ev r = s.ev r') -> uX r l = uX r' l
  | [], _ => rfl
  | s :: l, h => by
    simp only [uX]
    rw [h s (by simp), HL fun s hs => h s (by simp [hs])]
def Fw {o : Option Src} (h : ∀ s ∈ BZ o, s.ev r = s.ev r') : aB r o = aB r' o := by
  cases o with
  | none => rfl
  | some s => simp only [aB]; rw [h s (by simp [BZ])]
def XG : ∀ {l : List (Nat × Nat × Src)}, (∀ s ∈ l.map (·.2.2), s.ev r = s.ev r') -> BV r l = BV r' l
  | [], _ => rfl
  | (o, k, s) :: l, h => by
    simp only [BV]
    rw [h s (by simp), XG fun s hs => h s (by simp only [mU, ku]; exact .inr hs)]
def Yeo {op : gm} (h : ∀ s ∈ op.C5, s.ev r = s.ev r') : cv op call r st = cv op call r' st := by
  cases op <;> simp only [gm.C5, ku, List.not_mem_nil, or_false, forall_eq_or_imp, forall_eq, lI] at h <;> simp only [cv]
  case build z ps => simp only [CZ, XG h]
  case eh e s l z ps => simp only [Hf, XG h]
  case oK f a c => simp only [Hm, HL fun s hs => h s (.inl hs), HL fun s hs => h s (.inr hs)]
  case ct x lo hi => simp only [zE, h.1, Fw fun s hs => h.2 s (.inl hs), Fw fun s hs => h.2 s (.inr hs)]
  case mT z x lo hi m => simp only [qp, h.1, Fw fun s hs => h.2 s (.inl (.inl hs)), Fw fun s hs => h.2 s (.inl (.inr hs)), Fw fun s hs => h.2 s (.inr hs)]
  case jI k z x lo hi m => simp only [AD, h.1, Fw fun s hs => h.2 s (.inl (.inl hs)), Fw fun s hs => h.2 s (.inl (.inr hs)), Fw fun s hs => h.2 s (.inr hs)]
  case mn l => simp only [zG, HL h]
  case mx l => simp only [rO, HL h]
  case call f l => simp only [zH, h.1, HL fun s hs => h.2 s hs]
  case ext e l => simp only [Ht, HL h]
  all_goals
    first
      | rfl
      | (simp only [Hd, He, Hg, Hh, Hj, Hk, JV, EU, Hl, JW, EV, Hn, Ho, Hq, Hr, Hs, yS, JZ, J0, EZ, J1, h]; done)
      | (simp only [ES, ET, Hi, C0, C1, EW, JY, EX, Hp, EY, Ztp, WM, C2, C3, J3, h.1, h.2]; done)
      | (simp only [ES, EY, WM, h.1, h.2.1, h.2.2]; done)
def Zn0 {op : gm} (hs : op.oM = true) (h' : T O) (l' : List Nat) {v : V} {aA : St} (h : cv op call r st = some (v, aA)) :
    (aA = st /\ cv op call r ⟨h', st.n, l'⟩ = some (v, ⟨h', st.n, l'⟩)) \/ ∃ o, aA = st.alloc o /\ cv op call r ⟨h', st.n, l'⟩ = some (v, St.alloc ⟨h', st.n, l'⟩ o) := by
  cases op <;> simp only [gm.oM, fL] at hs <;> simp only [cv] at h ⊢
  case jH e z b zs x y =>
    unfold C0 at *
    split at h
    · rename_i ha hb
      split at h
      · rename_i hc
        simp only [an, bs] at h
        obtain ⟨rfl, rfl⟩ := h
        refine .inr ⟨_, rfl, ?_⟩
        rw [ax hc]
      · cases h
    · cases h
  case bin b t ng x y =>
    refine .inl ?_
    unfold Hi at *
    split at h
    · cases b <;> first | (cases hs; done) | (simp only [Q1, reduceCtorEq] at h)
    · split at h
      · rename_i hm
        simp only [an, bs] at h
        obtain ⟨rfl, rfl⟩ := h
        exact ⟨rfl, by simp_all⟩
      · cases h
    · cases h
  all_goals
    first
      | unfold Hd at * | unfold ES at * | unfold JU at * | unfold He at * | unfold CZ at * | unfold Hf at * | unfold Hh at * | unfold Hj at * | unfold Hk at * | unfold JV at * | unfold EU at * | unfold JW at * | unfold Hm at * | unfold JX at * | unfold EV at * | unfold C0 at * | unfold zE at * | unfold Hn at * | unfold Ho at * | unfold C1 at * | unfold EW at * | unfold JY at * | unfold EX at * | unfold Hq at * | unfold Hs at * | unfold LS at * | unfold JZ at * | unfold zG at * | unfold rO at * | unfold Ht at *
  all_goals
    repeat' split at h
    all_goals
      first
        | (cases h; done)
        | (simp only [an, bs] at h
           obtain ⟨rfl, rfl⟩ := h
           first
             | (refine .inl ⟨rfl, ?_⟩; simp_all; done)
             | (refine .inr ⟨_, rfl, ?_⟩; simp_all; done))
def Ztm {α : Type} {p : α -> α -> Bool} {f : α} {m : Nat} : ∀ {seen : List α} {j : Nat}, seen.length = j -> cn.cr p f m (j - 1) seen = true -> ∀ i, i < j -> ∀ g, seen[j - 1 - i]? = some g -> m.testBit i = true \/ p g f = true
  | [], j, hl, _, i, hi, g, hg => by simp at hg
  | g0 :: seen, j, hl, h, i, hi, g, hg => by
    simp only [cn.cr, iz, G8] at h
    simp only [bo] at hl
    by_cases e : i = j - 1
    · subst e
      simp only [Nat.sub_self, BS, an] at hg
      subst hg
      exact h.1
    · have h2 := Ztm (j := j - 1) (by omega) h.2 i (by omega) g
      refine h2 ?_
      rw [show j - 1 - i = (j - 1 - 1 - i) + 1 by omega] at hg
      simpa using hg
def Zxz {α : Type} {p : α -> α -> Bool} : ∀ {fs : List α} {ms : List Nat} {j : Nat} {seen : List α}, seen.length = j -> cn.go p fs ms j seen = true ->
    ∀ (b i : Nat) (f g : α), fs[b]? = some f -> i < j + b -> (seen.reverse ++ fs)[i]? = some g -> (ms.getD b 0).testBit i = true \/ p g f = true
  | [], ms, j, seen, hl, _, b, i, f, g, hf, _, _ => by simp at hf
  | f0 :: fs, ms, j, seen, hl, h, b, i, f, g, hf, hi, hg => by
    simp only [cn.go, iz] at h
    cases b with
    | zero =>
      simp only [BS, an] at hf
      subst hf
      have hm : ms.getD 0 0 = ms.headD 0 := by cases ms <;> rfl
      rw [hm]
      refine Ztm hl h.1 i (by omega) g ?_
      rw [iS (by simp; omega), List.getElem?_reverse (by omega)] at hg
      rw [<- hl]; exact hg
    | succ b =>
      have hm : ms.getD (b + 1) 0 = ms.tail.getD b 0 := by cases ms <;> simp
      rw [hm]
      refine Zxz (j := j + 1) (seen := f0 :: seen) (by simp [hl]) h.2 b i f g (by simpa using hf) (by omega) ?_
      simpa using hg
def Zxy {α : Type} {p : α -> α -> Bool} {xs : List α} {ms : List Nat} (h : cn p xs ms = true) {i j : Nat} {a b : α} (hij : i < j) (ha : xs[i]? = some a) (hb : xs[j]? = some b) : (ms.getD j 0).testBit i = true \/ p a b = true :=
  Zxz (seen := []) rfl h j i b a hb (by omega) (by simpa using ha)
def XH : ∀ (os : List Oper) (acc : List Nat) (k : Nat), k < acc.length -> (vQ os acc).getD k 0 = acc.getD k 0
  | [], acc, k, _ => rfl
  | o :: os, acc, k, h => by
    simp only [vQ]
    rw [XH os _ k (by simp; omega)]
    simp only [List.getD_eq_getElem?_getD]
    rw [iS h]
def Zor : ∀ (os : List Oper) (acc : List Nat) (j : Nat) (o : Oper), os[j]? = some o ->
    ∃ pre : List Nat, pre.length = acc.length + j /\ (vQ os acc).getD (acc.length + j) 0 = LL o pre /\ ∀ k, k < acc.length + j -> (vQ os acc).getD k 0 = pre.getD k 0
  | [], acc, j, o, h => by simp at h
  | o0 :: os, acc, 0, o, h => by
    simp only [BS, an] at h
    subst h
    refine ⟨acc, rfl, ?_, fun k hk => ?_⟩
    · simp only [vQ]
      rw [XH os _ _ (by simp)]
      simp [List.getD_eq_getElem?_getD]
    · exact XH (o0 :: os) acc k hk
  | o0 :: os, acc, j + 1, o, h => by
    obtain ⟨pre, h1, h2, h3⟩ := Zor os (acc ++ [LL o0 acc]) j o (by simpa using h)
    simp only [iN, bo, List.length_nil] at h1 h2 h3
    refine ⟨pre, by omega, ?_, ?_⟩
    · rw [show acc.length + (j + 1) = acc.length + (0 + 1) + j by omega]; exact h2
    · intro k hk; exact h3 k (by omega)
def Yau {o : Oper} {ms : List Nat} {i : Nat} (h : (LL o ms).testBit i = true) : ∃ e ∈ o.after, Region.binds .any e = true /\ (i = e.on \/ (ms.getD e.on 0).testBit i = true) := by
  have key : ∀ (l : List Edge) (s : Nat), (l.foldl (fun s e => if Region.binds .any e then s ||| 2 ^ e.on ||| ms.getD e.on 0 else s) s).testBit i = true ->
      s.testBit i = true \/ ∃ e ∈ l, Region.binds .any e = true /\ (i = e.on \/ (ms.getD e.on 0).testBit i = true) := by
    intro l
    induction l with
    | nil => intro s h; exact .inl h
    | cons e l ih =>
      intro s h
      simp only [List.foldl_cons] at h
      rcases ih _ h with h | ⟨e', h1, h2⟩
      · split at h
        · rename_i hb
          simp only [Nat.testBit_or, G8] at h
          rcases h with (h | h) | h
          · exact .inl h
          · rw [Nat.testBit_two_pow] at h
            exact .inr ⟨e, by simp, hb, .inl (by simpa using (of_decide_eq_true h).symm)⟩
          · exact .inr ⟨e, by simp, hb, .inr h⟩
        · exact .inl h
      · exact .inr ⟨e', by simp [h1], h2⟩
  unfold LL at h
  rw [<- Array.foldl_toList] at h
  rcases key _ _ h with h | ⟨e, h1, h2⟩
  · simp at h
  · exact ⟨e, by simpa using h1, h2⟩
def Yjs {ops : Array Oper} {j i : Nat} {o : Oper} (ho : ops[j]? = some o) (h : ((vQ ops.toList []).getD j 0).testBit i = true) :
    ∃ e ∈ o.after, Region.binds .any e = true /\ (i = e.on \/ ((vQ ops.toList []).getD e.on 0).testBit i = true) := by
  obtain ⟨pre, h1, h2, h3⟩ := Zor ops.toList [] j o (by rw [CS]; exact ho)
  simp only [List.length_nil, xP] at h1 h2 h3
  rw [h2] at h
  obtain ⟨e, g1, g2, g3⟩ := Yau h
  refine ⟨e, g1, g2, g3.imp id fun hb => ?_⟩
  by_cases he : e.on < j
  · rw [h3 _ he]; exact hb
  · have : pre.getD e.on 0 = 0 := by simp [List.getD_eq_getElem?_getD, h1, zB he]
    rw [this] at hb; simp at hb
def Ym6 (ops : Array Oper) (S : Nat -> Prop) : Prop := ∀ k i, S k -> ((vQ ops.toList []).getD k 0).testBit i = true -> S i
def Zqf {ops : Array Oper} {listed : Array Bool} (hc : Ym6 ops (fun k => listed.getD k false = true)) {j : Nat} (hj : j ∈ Region.ready .any ops listed) :
    j < ops.size /\ listed.getD j true = false /\ ∀ i, ((vQ ops.toList []).getD j 0).testBit i = true -> listed.getD i false = true := by
  unfold Region.ready at hj
  simp only [List.mem_filter, yA, iz, G7] at hj
  obtain ⟨h1, h2, h3⟩ := hj
  refine ⟨h1, h2, fun i hi => ?_⟩
  have ho : ops[j]? = some ops[j] := Array.getElem?_eq_getElem h1
  obtain ⟨e, g1, g2, g3⟩ := Yjs ho hi
  rw [ho] at h3
  simp only [ti, jz, WH, G8, G7] at h3
  have he : listed.getD e.on false = true := by
    rcases h3 e g1 with h | h
    · rw [g2] at h; cases h
    · exact h
  rcases g3 with rfl | g3
  · exact he
  · exact hc _ _ he g3
mutual
def Sc (n : Nat) : V -> Prop
  | .ptr i _ => i < n
  | .slice i _ _ _ _ => i < n
  | .map i => i < n
  | .chan i => i < n
  | .func _ a c => Fy n a /\ Fy n c
  | .yield i => i < n
  | .iface _ v => Sc n v
  | .agg l => Fy n l
  | .aV l => Fy n l
  | _ => True
def Fy (n : Nat) : List V -> Prop
  | [] => True
  | v :: vs => Sc n v /\ Fy n vs
end
mutual
def VR.sc {μ : Mu} {n : Nat} (h : ∀ i l, μ i = some l -> i < n) : ∀ (v : V) (x : Value), VR μ v x -> Sc n v
  | .bool _, _, _ => by simp [Sc]
  | .int _ _, _, _ => by simp [Sc]
  | .vN _ _, _, _ => by simp [Sc]
  | .str _, _, _ => by simp [Sc]
  | .bF, _, _ => by simp [Sc]
  | .ptr _ _, _, hx => by simp only [VR] at hx; obtain ⟨l, h1, _⟩ := hx; exact h _ _ h1
  | .aa, _, _ => by simp [Sc]
  | .slice _ _ _ _ _, _, hx => by simp only [VR] at hx; obtain ⟨l, c, h1, _⟩ := hx; exact h _ _ h1
  | .empty, _, _ => by simp [Sc]
  | .bP, _, _ => by simp [Sc]
  | .map _, _, hx => by simp only [VR] at hx; obtain ⟨l, h1, _⟩ := hx; exact h _ _ h1
  | .bR, _, _ => by simp [Sc]
  | .chan _, _, hx => by simp only [VR] at hx; obtain ⟨l, h1, _⟩ := hx; exact h _ _ h1
  | .func _ a c, _, hx => by
    simp only [VR] at hx; obtain ⟨a', c', _, h2, h3⟩ := hx
    exact ⟨aU.sc h a a' h2, aU.sc h c c' h3⟩
  | .yield _, _, hx => by simp only [VR] at hx; obtain ⟨l, h1, _⟩ := hx; exact h _ _ h1
  | .bS, _, _ => by simp [Sc]
  | .iface _ v, _, hx => by simp only [VR] at hx; obtain ⟨y, _, h2⟩ := hx; exact VR.sc h v y h2
  | .aY, _, _ => by simp [Sc]
  | .agg vs, _, hx => by simp only [VR] at hx; obtain ⟨a, _, h2⟩ := hx; exact aU.sc h vs a h2
  | .aV vs, _, hx => by simp only [VR] at hx; obtain ⟨a, _, h2⟩ := hx; exact aU.sc h vs a h2
def aU.sc {μ : Mu} {n : Nat} (h : ∀ i l, μ i = some l -> i < n) : ∀ (vs : List V) (xs : List Value), aU μ vs xs -> Fy n vs
  | [], _, _ => trivial
  | v :: vs, _, hx => by
    simp only [aU] at hx
    obtain ⟨y, ys, _, h2, h3⟩ := hx
    exact ⟨VR.sc h v y h2, aU.sc h vs ys h3⟩
end
mutual
def VR.cut {μ μ' : Mu} {n : Nat} (h : ∀ i l, i < n -> μ i = some l -> μ' i = some l) : ∀ (v : V) (x : Value), Sc n v -> VR μ v x -> VR μ' v x
  | .bool _, _, _, hx => by simpa [VR] using hx
  | .int _ _, _, _, hx => by simpa [VR] using hx
  | .vN _ _, _, _, hx => by simpa [VR] using hx
  | .str _, _, _, hx => by simpa [VR] using hx
  | .bF, _, _, hx => by simpa [VR] using hx
  | .ptr _ _, _, hs, hx => by simp only [VR, Sc] at *; obtain ⟨l, h1, h2⟩ := hx; exact ⟨l, h _ _ hs h1, h2⟩
  | .aa, _, _, hx => by simpa [VR] using hx
  | .slice _ _ _ _ _, _, hs, hx => by simp only [VR, Sc] at *; obtain ⟨l, c, h1, h2⟩ := hx; exact ⟨l, c, h _ _ hs h1, h2⟩
  | .empty, _, _, hx => by simpa [VR] using hx
  | .bP, _, _, hx => by simpa [VR] using hx
  | .map _, _, hs, hx => by simp only [VR, Sc] at *; obtain ⟨l, h1, h2⟩ := hx; exact ⟨l, h _ _ hs h1, h2⟩
  | .bR, _, _, hx => by simpa [VR] using hx
  | .chan _, _, hs, hx => by simp only [VR, Sc] at *; obtain ⟨l, h1, h2⟩ := hx; exact ⟨l, h _ _ hs h1, h2⟩
  | .func _ a c, _, hs, hx => by
    simp only [VR, Sc] at *; obtain ⟨a', c', h1, h2, h3⟩ := hx
    exact ⟨a', c', h1, aU.cut h a a' hs.1 h2, aU.cut h c c' hs.2 h3⟩
  | .yield _, _, hs, hx => by simp only [VR, Sc] at *; obtain ⟨l, h1, h2⟩ := hx; exact ⟨l, h _ _ hs h1, h2⟩
  | .bS, _, _, hx => by simpa [VR] using hx
  | .iface _ v, _, hs, hx => by simp only [VR, Sc] at *; obtain ⟨y, h1, h2⟩ := hx; exact ⟨y, h1, VR.cut h v y hs h2⟩
  | .aY, _, _, hx => by simpa [VR] using hx
  | .agg vs, _, hs, hx => by simp only [VR, Sc] at *; obtain ⟨a, h1, h2⟩ := hx; exact ⟨a, h1, aU.cut h vs a hs h2⟩
  | .aV vs, _, hs, hx => by simp only [VR, Sc] at *; obtain ⟨a, h1, h2⟩ := hx; exact ⟨a, h1, aU.cut h vs a hs h2⟩
def aU.cut {μ μ' : Mu} {n : Nat} (h : ∀ i l, i < n -> μ i = some l -> μ' i = some l) : ∀ (vs : List V) (xs : List Value), Fy n vs -> aU μ vs xs -> aU μ' vs xs
  | [], _, _, hx => by simpa [aU] using hx
  | v :: vs, _, hs, hx => by
    simp only [aU, Fy] at *
    obtain ⟨y, ys, h1, h2, h3⟩ := hx
    exact ⟨y, ys, h1, VR.cut h v y hs.1 h2, aU.cut h vs ys hs.2 h3⟩
end
def OM.cut {P : Program} {μ μ' μT : Mu} {w wT : World} {n : Nat} (h : ∀ i l, i < n -> μ i = some l -> μ' i = some l) (hT : ∀ i l, μT i = some l -> i < n) {o : O} {l lT : L} (ht : OM P μT wT o lT) (ho : OM P μ w o l) : OM P μ' w o l := by
  cases o with
  | cells c e rw =>
    obtain ⟨c', lo, hi, h1, h2, h3, h4, h5⟩ := ho
    obtain ⟨cT, _, _, _, _, _, t4, _⟩ := ht
    exact ⟨c', lo, hi, h1, h2, h3, fun j v hv => by
      obtain ⟨x, a, b⟩ := h4 j v hv
      obtain ⟨xT, _, bT⟩ := t4 j v hv
      exact ⟨x, a, VR.cut h v x (VR.sc hT v xT bT) b⟩, h5⟩
  | map es =>
    obtain ⟨ib, h1, h2⟩ := ho
    obtain ⟨esT, _, t2⟩ := ht
    refine ⟨ib, h1, ?_⟩
    have : ∀ (es : List (V × V)) (xs xT : List MapEntry) (b bT : Nat), iM μ es xs b -> iM μT es xT bT -> iM μ' es xs b := by
      intro es
      induction es with
      | nil => intro xs xT b bT h1 _; exact h1
      | cons p es ih =>
        intro xs xT b bT h1 h2
        obtain ⟨k, u⟩ := p
        obtain ⟨e, ys, rfl, a1, a2, a3, a4⟩ := h1
        obtain ⟨eT, yT, rfl, b1, b2, _, b4⟩ := h2
        exact ⟨e, ys, rfl, VR.cut h k _ (VR.sc hT k _ b1) a1, VR.cut h u _ (VR.sc hT u _ b2) a2, a3, ih ys yT _ _ a4 b4⟩
    exact this _ _ _ _ _ h2 t2
  | chan cap buf =>
    obtain ⟨b', s, r, h1, h2⟩ := ho
    obtain ⟨bT, _, _, _, t2⟩ := ht
    exact ⟨b', s, r, h1, aU.cut h _ _ (aU.sc hT _ _ t2) h2⟩
  | eD s pos => simp only [OM] at *; exact ho
  | loop R =>
    obtain ⟨fn, tmps, fP, fQ, ld, h1, h2, h3, h4, h5⟩ := ho
    obtain ⟨_, tT, _, _, ldT, _, t2, _, _, t5⟩ := ht
    refine ⟨fn, tmps, fP, fQ, ld, h1, ⟨h2.1, fun t v hv => ?_⟩, h3, h4, h _ _ (hT _ _ t5) h5⟩
    obtain ⟨x, a, b⟩ := h2.2 t v hv
    obtain ⟨xT, _, bT⟩ := t2.2 t v hv
    exact ⟨x, a, VR.cut h v x (VR.sc hT v xT bT) b⟩
  | defs b => simp only [OM] at *; exact ho
  | dead => trivial
end
end Go.Mx
