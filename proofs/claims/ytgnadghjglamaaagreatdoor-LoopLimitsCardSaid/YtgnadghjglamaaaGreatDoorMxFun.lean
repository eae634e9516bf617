/-The machine M's runs stand for the Go mo-/
import Derived.Test.YtgnadghjglamaaaGreatDoorMxFlt
import Derived.Conc.LoneSelect
set_option linter.all false
namespace Go.Mx
open Go
section
variable {P:Program} {μ:Mu} {w:World} {st aB:St} {fr bG:Fr} {a:Act} {call:cM} {v:V} {lb:Option Nat}
def Zmi:∀(vs:List V) (r:T V) (i t:Nat),(yg r i vs).get t=if i<=t/\t<i+vs.length then vs[t-i]? else r.get t
 |[],r,i,t=>by simp[yg];omega
 |v::vs,r,i,t=>by
  simp only[yg]
  rw[Zmi vs (r.set i v) (i+1) t,T.aj]
  by_cases h:t=i
  ·subst h
   rw[aA (by omega),aQ rfl,aQ (by simp)];simp
  ·by_cases h2:i+1<=t/\t<i+1+vs.length
   ·rw[aQ h2,aQ (by simp;omega)]
    rw[show t-i=(t-(i+1))+1 by omega];simp
   ·rw[aA h2,aA h,aA (by simp;omega)]
def Ygc{vs:List V}{xs:List Value}{n:Nat}(h:aW μ vs xs)(hl:vs.length<=n):RR μ (yg .nil 0 vs) n ((⟨xs⟩:Array Value)++Array.replicate (n-(⟨xs⟩:Array Value).size) undef):=by
 have BV:=h.length
 refine⟨by simp;omega,fun t v hv=>?_⟩
 rw[Zmi]at hv
 split at hv
 ·rename_i ht
  simp only[Nat.sub_zero]at hv
  obtain⟨x,hx,hr⟩:=h.get hv
  refine⟨x,?_,hr⟩
  rw[Array.getElem?_append_left (by simp;omega)]
  simpa using hx
 ·simp[T.get]at hv
def SE(tmps:Array Value):ResultVar->Sem Value
 |.tmp t=>pure (tmps.getD t undef)
 |.cell a t=>do loadVar t (<-asAddr (tmps.getD a undef))
def Zs7(hh:bk P μ w st){r:T V}{n:Nat}{tmps:Array Value}(hr:RR μ r n tmps):∀{rs:List ResultVar} {ms:List IC},Dw P rs=some ms->∀{vs:List V},ic r st ms=some vs->
  ∃xs,(rs.mapM (SE tmps)).run P w=.ok xs w/\aW μ vs xs
 |[],ms,hc,vs,hv=>by
  simp only[Dw,au]at hc;subst hc
  simp only[ic,au]at hv;subst hv
  exact⟨[],by simp,by simp[aW]⟩
 |.tmp t::rs,ms,hc,vs,hv=>by
  simp only[Dw,ig]at hc
  obtain⟨ms',yh,rfl⟩:=hc
  simp only[ic]at hv
  split at hv
  ·rename_i u us hu uR
   simp only[au]at hv;subst hv
   obtain⟨xs,h1,h2⟩:=Zs7 hh hr yh uR
   obtain⟨x,hx,AX⟩:=hr.2 _ _ hu
   refine⟨x::xs,?_,fX.2 ⟨_,_,rfl,AX,h2⟩⟩
   simp only[List.mapM_cons,SE,Sem.run_bind,Sem.run_pure,Result.andThen_ok,h1]
   simp[ID,hx]
  ·cases hv
 |.cell t ty::rs,ms,hc,vs,hv=>by
  simp only[Dw]at hc
  split at hc
  ·rename_i k ms' hk yh
   simp only[au]at hc;subst hc
   simp only[ic]at hv
   split at hv
   ·rename_i i o us hu uR
    split at hv
    ·rename_i c e BW aM
     split at hv
     ·rename_i u e_
      simp only[au]at hv;subst hv
      obtain⟨xs,h1,h2⟩:=Zs7 hh hr yh uR
      obtain⟨x,hx,l,hl,rfl⟩:=hr.2 _ _ hu
      have yi:=hh.row hl aM
      have yZ:∃y,(loadVar ty ⟨l.b,l.d+o,none⟩).run P w=.ok y w/\VR μ u y:=by
       cases k with
       |none=>
        simp only[aJ]at e_
        obtain⟨y,hy,hv⟩:=yi.cell e_
        exact⟨y,by simp[loadVar,Znx hk,Result.andThen,hy],hv⟩
       |some k=>
        simp only[aJ]at e_
        split at e_
        ·rename_i q hq
         simp only[au]at e_;subst e_
         obtain⟨ys,g1,_,g3,_⟩:=yi.zm hq
         exact⟨.agg ys.toArray,by simp[loadVar,(Lt hk).1,(Lt hk).2,Result.andThen,g3],ys,rfl,g1⟩
        ·cases e_
      obtain⟨y,rV,wj⟩:=yZ
      refine⟨y::xs,?_,fX.2 ⟨_,_,rfl,wj,h2⟩⟩
      have mI:tmps.getD t undef=.pointer (some ⟨l.b,l.d+o,none⟩):=by simp[ID,hx]
      have zdN:(asAddr (tmps.getD t undef)).run P w=.ok ⟨l.b,l.d+o,none⟩ w:=by rw[mI];rfl
      simp only[List.mapM_cons,SE,Sem.run_bind,zdN,Sem.run_pure,Result.andThen_ok,rV,h1]
     ·cases hv
    ·cases hv
   ·cases hv
  ·cases hc
def Zs6(hh:bk P μ w st){r:T V}{n:Nat}{tmps:Array Value}(hr:RR μ r n tmps){fn:Func}{ms:List IC}(hc:Dw P fn.results.toList=some ms){vs:List V}(hv:ic r st ms=some vs):
  ∃x,(results fn tmps).run P w=.ok x w/\VR μ (Dx vs) x:=by
 obtain⟨xs,h1,h2⟩:=Zs7 hh hr hc hv
 have hl:=h2.length
 refine⟨if h:xs.length=1 then xs[0] else .tuple ⟨xs⟩,?_,?_⟩
 ·show (do let vs <-fn.results.mapM (SE tmps);pure (if h:vs.size=1 then vs[0] else .tuple vs):Sem Value).run P w=_
  rw[Array.mapM_eq_mapM_toList]
  simp only[Sem.run_bind,Sem.run_map,h1,Result.andThen_ok,Sem.run_pure]
  rfl
 ·rcases vs with _|⟨u,_|⟨u',vs⟩⟩
  ·simp only[aW]at h2;subst h2
   exact⟨[],rfl,by simp[aW]⟩
  ·obtain⟨y,ys,rfl,g1,g2⟩:=fX.1 h2
   simp only[aW]at g2;subst g2
   exact g1
  ·rw[dif_neg (by rw[hl];simp)]
   exact⟨xs,rfl,h2⟩
def Zu1{fn:Func}{tmps:Array Value}{R:Ending->World->Prop}:∀{ms:List Nat} {ds:List Deferred} {st fi:St} {w:World},bk P μ w st->ph μ ms ds->shut st ms=some fi->
  (∀w' ws,bD P μ w st μ w' fi ws->∃v,(results fn tmps).run P w'=.ok v w'/\R (.returned v) w')->LeavesInM Fence.wide 0 P fn tmps R ds .returning w
 |[],ds,st,fi,w,hh,hd,hs,hR=>by
  simp only[ph]at hd;subst hd
  simp only[shut,au]at hs;subst hs
  exact hR w [] (bD.refl hh)
 |m::ms,ds,st,fi,w,hh,hd,hs,hR=>by
  obtain⟨l,Dy,h1,rfl,h3⟩:=hd
  simp only[shut]at hs
  split at hs
  ·rename_i hg
   have yi:=hh.get h1 hg
   have NX:bD P μ w st μ (w.putObj l.b (.deferred none)) (st.write m (.defs false)) [m]:=
    bD.write hh h1 hg rfl rfl rfl rfl (World.putObj_size) (fun b hb=>World.putObj_heap_other hb) (World.putObj_heap_same (hh.dc m l h1).2)
   refine⟨by simp,.inl ⟨l.b,_,rfl,run_takeDeferred yi,?_⟩⟩
   exact Zu1 NX.hr h3 hs fun w' ws kQ=>hR w' _ (NX.trans kQ)
  ·cases hs
def bD.fold{μ':Mu}{w':World}{ws:List Nat}(h0:bk P μ w st)(h:bD P μ w {st with w:=[]} μ' w' aB ws):bD P μ w st μ' w' {aB with w:=aD st.n aB.w++st.w} (aD st.n aB.w):=by
 have BX:∀(l:List Nat) (i:Nat),i<st.n->(i∈aD st.n l↔i∈l):=by
  intro l i hi
  induction l with
  |nil=>simp[aD]
  |cons j l ih=>
   simp only[aD]
   split
   ·unfold xr
    split
    ·rename_i hc
     simp only[ku,ih]
     simp only[SF]at hc
     constructor
     ·exact .inr
     ·rintro(rfl|h)
      ·exact ih.1 hc
      ·exact h
    ·simp only[ku,ih]
   ·simp only[ku,ih]
    constructor
    ·exact .inr
    ·rintro(rfl|h)
     ·omega
     ·exact h
 have hwl:aB.w=ws:=by have:=h.wl;simpa using this
 have hs:∀i,i<st.n->(i∈aD st.n aB.w↔i∈ws):=fun i hi=>by rw[BX _ i hi,hwl]
 exact {
  hr:=⟨h.hr.dc,h.hr.obj,h.hr.inj,h.hr.ij⟩
  ext:=h.ext
  iT:=h.iT
  wl:=rfl
  eC:=⟨h.eC.os,h.eC.tape,h.eC.output,h.eC.size,fun b hb dH=>h.eC.block b hb fun i hi l hl=>dH i ((hs i (h0.dc i l hl).1).2 hi) l hl⟩
  new:=fun i l hi hl=>by
   rcases h.new i l hi hl with h'|⟨j,hj,IE,r⟩
   ·exact .inl h'
   ·exact .inr ⟨j,(hs j IE).2 hj,IE,r⟩
  ah:=fun i hi dH=>h.ah i hi fun hc=>dH ((hs i hi).2 hc)
  grow:=h.grow
  full:=h.full
  yk:=fun i hi hn=>h.yk i ((hs i hn).1 hi) hn}
def bk.now(h:bk P μ w st)(l:List Nat):bk P μ w {st with w:=l}:=⟨h.dc,h.obj,h.inj,h.ij⟩
def Yci{code:pF}(nQ:Lr P code){f:FuncId}{fn:Func}{mf:lC}(hf:P.funcs[f]?=some fn)(hc:xV P f=some mf){args:List V}{xs:List Value}(hh:bk P μ w st)(hx:aW μ args xs)
  (h:BY mf code args st=some (v,aB)):CallsIn Fence.wide 0 P f ⟨xs⟩ w (IF fun x w'=>∃μ' ws,VR μ' v x/\bD P μ w st μ' w' aB ws):=by
 unfold xV at hc
 rw[hf]at hc
 simp only at hc
 split at hc
 ·rename_i c rs hb hrs
  simp only[au]at hc;subst hc
  unfold BY at h
  split at h
  ·cases h
  ·rename_i hle
   simp only at hle h
   have fin:∀(ex:Ex) (dS:Fr) (cr:St),(ex=.normal\/ex=.ret)->code none (iS P c) {r:=yg .nil 0 args,n:=fn.ntmps,marks:=[]} {st with w:=[]}=some (ex,dS,cr)->
     (match shut cr dS.marks with
      |none=>none
      |some fi=>match ic dS.r fi rs with
       |some vs=>some (Dx vs,{fi with w:=aD st.n fi.w++st.w})
       |none=>none)=some (v,aB)->
     CallsIn Fence.wide 0 P f ⟨xs⟩ w (IF fun x w'=>∃μ' ws,VR μ' v x/\bD P μ w st μ' w' aB ws):=by
    intro ex dS cr hex bL zgm
    split at zgm
    ·cases zgm
    ·rename_i fi NY
     split at zgm
     ·rename_i vs IG
      simp only[au,bj]at zgm
      obtain⟨rfl,rfl⟩:=zgm
      refine callsIn_of_wp_marks hf hb trivial (wpIn_mono (nQ none c _ _ _ _ _ bL μ w _ none (hh.now []) ⟨Ygc hx (yl hle),rfl⟩ trivial) fun e a' w' hp=>?_)
      obtain⟨rfl,μ1,ws,hs,xp⟩:=hp
      have hl:LeavesInM Fence.wide 0 P fn a'.tmps (IF fun x w'=>∃μ' ws,VR μ' (Dx vs) x/\bD P μ w st μ' w' {fi with w:=aD st.n fi.w++st.w} ws) a'.defers .returning w':=by
       refine Zu1 hs.hr xp.2 NY fun w2 ws2 nP=>?_
       obtain⟨x,zn,Lu⟩:=Zs6 nP.hr xp.1 hrs IG
       exact⟨x,zn,μ1,_,Lu,(hs.trans nP).fold hh⟩
      rcases hex with rfl|rfl
      ·exact hl
      ·exact hl
     ·cases zgm
   unfold Zt5 at h
   split at h
   ·cases h
   ·rename_i ex dS cr bF bL
    exact fin ex dS cr (by cases ex with|normal=>exact .inl rfl|ret=>exact .inr rfl|exit id=>exact(bF id rfl).elim) (by assumption) h
   ·cases h
 ·cases hc
def Zol:∀{ps:List Nat} {vs:List V} {r r':T V} {n:Nat} {tmps:Array Value} {xs:List Value},RR μ r n tmps->aW μ vs xs->IH r n ps vs=some r'->
  xs.length=ps.length/\RR μ r' n ((ps.zip xs).foldl (fun (tmps:Array Value) (p:Nat×Value)=>tmps.setIfInBounds p.1 p.2) tmps)
 |[],[],r,r',n,tmps,xs,hr,hx,h=>by
  simp only[aW]at hx;subst hx
  simp only[IH,au]at h;subst h
  exact⟨rfl,hr⟩
 |[],_::_,r,r',n,tmps,xs,hr,hx,h=>by simp[IH]at h
 |_::_,[],r,r',n,tmps,xs,hr,hx,h=>by simp[IH]at h
 |p::ps,v::vs,r,r',n,tmps,xs,hr,hx,h=>by
  obtain⟨y,ys,rfl,h1,h2⟩:=fX.1 hx
  simp only[IH]at h
  split at h
  ·rename_i hp
   obtain⟨g1,g2⟩:=Zol (hr.set hp h1) h2 h
   exact⟨by simp[g1],by simpa using g2⟩
  ·cases h
def Zyw(e:Ex):((tQ e).bind zo).isNone=(tQ e).isNone:=by cases e<;>rfl
def bD.loop(hh:bk P μ w st){i:Nat}{l:L}(hl:μ i=some l){R R':Ynr}(hg:st.h.get i=some (.loop R))(h1:R'.r=R.r)(h2:R'.n=R.n)(h3:R'.ps=R.ps)(h4:R'.assign=R.assign)(h5:R'.body=R.body)(h6:R'.defs=R.defs):
  ∃rec,w.heap[l.b]?=some (.loop rec)/\rec.state=R.st/\rec.pending=R.iU.bind zo/\
   bD P μ w st μ (w.putObj l.b (.loop {rec with state:=R'.st,pending:=R'.iU.bind zo})) (st.write i (.loop R')) [i]:=by
 obtain⟨fn,tmps,fU,fV,ld,g1,g2,g3,g4,g5⟩:=hh.get hl hg
 refine⟨_,g1,rfl,rfl,bD.write hh hl hg rfl rfl rfl rfl World.putObj_size (fun b hb=>World.putObj_heap_other hb) ⟨fn,tmps,fU,fV,ld,?_,?_,?_,?_,?_⟩⟩
 ·rw[World.putObj_heap_same (hh.dc i l hl).2,h3]
 ·rw[h1,h2];exact g2
 ·rw[h4];exact g3
 ·rw[h5];exact g4
 ·rw[h6];exact g5
def Ye3{code:pF}(nQ:Lr P code){l:Nat}{args:List V}{xs:List Value}{L0:L}(hh:bk P μ w st)(hl:μ l=some L0)(hx:aW μ args xs)(h:II code l args st=some (v,aB)):
  ∃f tmps fU fV,(Instr.yield L0.b ⟨xs⟩).run P w=.ok (.round L0.b f tmps fU fV) w/\RoundIn Fence.wide 0 P L0.b f tmps fU fV w (IF fun x w'=>∃μ' ws,VR μ' v x/\bD P μ w st μ' w' aB ws):=by
 unfold II at h
 split at h
 ·rename_i R hg
  obtain⟨fn,tmps,fU,fV,ld,g1,g2,g3,g4,g5⟩:=hh.get hl hg
  split at h
  ·cases h
  ·rename_i r0 kR
   obtain⟨q1,q2⟩:=Zol g2 hx kR
   have hy:=run_yield (P:=P) (args:=⟨xs⟩) g1 (by simpa using q1)
   refine⟨_,_,_,_,hy,?_⟩
   have htm:(((⟨R.ps⟩:Array Nat).zip (⟨xs⟩:Array Value)).foldl (fun tmps (p:Nat×Value)=>tmps.setIfInBounds p.1 p.2) tmps)=(R.ps.zip xs).foldl (fun (tmps:Array Value) (p:Nat×Value)=>tmps.setIfInBounds p.1 p.2) tmps:=by simp
   refine roundIn_of_wpIn (F:=Fence.wide) trivial ?_
   split at h
   ·rename_i dS cr Dz
    rw[<-g3]at Dz
    refine wpIn_mono (nQ (some l) fU _ _ _ _ _ Dz μ w {tmps:=(((⟨R.ps⟩:Array Nat).zip (⟨xs⟩:Array Value)).foldl (fun tmps (p:Nat×Value)=>tmps.setIfInBounds p.1 p.2) tmps),defers:=[]} (some L0.b) hh ⟨by rw[htm];exact q2,rfl⟩ ⟨L0,hl,rfl⟩) fun e a1 w1 hp=>?_
    have uQ:=hp
    obtain⟨he,μ1,ws1,uT,xp⟩:=hp
    refine uQ.then (fun _=>?_) (fun bF=>absurd rfl bF)
    split at h
    ·rename_i R1 y8
     split at h
     ·rename_i IJ
      have xe:=uT.mono hh _ _ hl
      obtain⟨NZ,k1,k2,k3,k4⟩:=bD.loop (R':={R1 with st:=.busy}) uT.hr xe y8 rfl rfl rfl rfl rfl rfl
      refine⟨_,run_beginRound k1 (k2.trans IJ),?_⟩
      have hw2:({NZ with state:=LoopState.busy,pending:=R1.iU.bind zo}:Loop)={NZ with state:=.busy}:=by rw[<-k3]
      rw[hw2]at k4
      split at h
      ·rename_i e2 yf fi DC
       rw[<-g4]at DC
       refine wpIn_mono (nQ (some l) fV _ _ _ _ _ DC μ1 _ a1 (some L0.b) k4.hr (xp.mono (k4.mono uT.hr)) ⟨L0,xe,rfl⟩) fun e a2 w2 ye=>?_
       obtain⟨xu,μ2,ws2,nP,jv⟩:=ye
       split at h
       ·rename_i R2 Nx
        simp only[au,bj]at h
        obtain⟨rfl,rfl⟩:=h
        have oO:=nP.mono k4.hr _ _ xe
        obtain⟨zdO,m1,m2,m3,m4⟩:=bD.loop (R':={R2 with st:=Zg8 (tQ e2),iU:=tQ e2}) nP.hr oO Nx rfl rfl rfl rfl rfl rfl
        have zgm:=run_endRound (P:=P) ((tQ e2).bind zo) m1
        have fk:(if ((tQ e2).bind zo).isNone=true then LoopState.ready else LoopState.done)=Zg8 (tQ e2):=by cases e2<;>rfl
        rw[fk,Zyw]at zgm
        have hR:IF (fun x w'=>∃μ' ws,VR μ' (.bool (tQ e2).isNone) x/\bD P μ w st μ' w' (fi.write l (.loop {R2 with st:=Zg8 (tQ e2),iU:=tQ e2})) ws) (.returned (.bool (tQ e2).isNone))
          (w2.putObj L0.b (.loop {zdO with state:=Zg8 (tQ e2),pending:=(tQ e2).bind zo})):=
         ⟨μ2,_,by simp[VR],((uT.trans k4).trans nP).trans m4⟩
        subst xu
        cases e2 with
        |normal=>exact⟨_,_,zgm,hR⟩
        |exit id=>exact⟨_,_,zgm,hR⟩
        |ret=>exact⟨_,_,zgm,hR⟩
       ·cases h
      ·cases h
     ·cases h
    ·cases h
   ·cases h
 ·cases h
def Zus(P:Program)(dN:Nat->Option lC):Prop:=
 ∀f mf,dN f=some mf->xV P f=some mf/\∀fn,P.funcs[f]?=some fn->(fn.name== "runtime.NumGoroutine")=false
def Zwi{f:FuncId}{mf:lC}(h:xV P f=some mf):∃fn,P.funcs[f]?=some fn/\fn.body.isSome=true:=by
 unfold xV at h
 split at h
 ·rename_i fn hf
  refine⟨fn,hf,?_⟩
  split at h
  ·rename_i hb _;rw[hb];rfl
  ·cases h
 ·cases h
def Zuk{dN:Nat->Option lC}{code:pF}(ht:Zus P dN)(nQ:Lr P code):js P (xw dN code):=by
 intro g args st v aB h μ w G xs hh hg hx
 unfold xw at h
 split at h
 ·rename_i f first gD
  split at h
  ·rename_i mf hmf
   obtain⟨a',c',rfl,h1,h2⟩:=hg
   obtain⟨hc,Oa⟩:=ht f mf hmf
   obtain⟨fn,hf,hb⟩:=Zwi hc
   refine⟨{target:=.fn (.func f) ⟨c'⟩,args:=⟨a'⟩++⟨xs⟩},by simp[Deferred.ofValue],.inl ⟨rfl,f,⟨a'++xs++c'⟩,?_,?_⟩⟩
   ·have hn:fn.name≠ "runtime.NumGoroutine" :=by simpa using Oa fn hf
    simp[invoke,callFunc,hf,hn]
    intro hq
    rw[hq]at hb
    cases hb
   ·exact Yci nQ hf hc hh ((h1.append hx).append h2) h
  ·cases h
 ·rename_i l
  obtain⟨L0,hl,rfl⟩:=hg
  obtain⟨f,tmps,fU,fV,q1,q2⟩:=Ye3 nQ hh hl hx h
  refine⟨{target:=.fn (.yield L0.b) #[],args:=⟨xs⟩},by simp[Deferred.ofValue],.inr ⟨rfl,L0.b,f,tmps,fU,fV,?_,q2⟩⟩
  simp[invoke,q1]
 ·cases h
def Yji{a2:Act}{w4:World}{yf:Fr}{stf:St}:∀(q:Option Ex),tM P μ w st (match q with|none=>.normal|some e=>e) yf stf (Lo (match q with|none=>.normal|some e=>e)) a2 w4->
  (match q.bind zo with
   |none=>tM P μ w st (match q with|none=>.normal|some e=>e) yf stf .normal a2 w4
   |some c=>c.wpIn (FE lb) 0 P (tM P μ w st (match q with|none=>.normal|some e=>e) yf stf) a2 w4)
 |none,h=>h
 |some .normal,h=>h
 |some (.exit _),h=>wpIn_exit h
 |some .ret,h=>wpIn_ret h
def Zu6(b_:js P call):Ydx P call:=by
 intro ro g s ps fU fV fr st ex bG aB hs h μ w a lb hh hf mM
 unfold BU at h
 split at h
 ·cases h
 ·rename_i gv hgv
  have hG:=cO hh hf.1 hs hgv
  rw[Lv]at h
  obtain⟨hy,h⟩:=h
  have uU:gv.Lw=false:=by simpa using hy
  split at h
  ·cases h
  ·rename_i cr d mk jj
   split at h
   ·cases h
   ·rename_i x fi hc
    split at h
    ·rename_i R Nx
     rw[Lv]at h
     obtain⟨Ob,h⟩:=h
     simp only[au,bj]at h
     obtain⟨rfl,rfl,rfl⟩:=h
     refine wpIn_rangeFunc fun fn _=>?_
     have common:∀(l:Nat) (mark:List Deferred) (w0:World) (μ0:Mu) (ws0:List Nat) (db:Nat),bD P μ w st μ0 w0 cr ws0->l=w0.heap.size->(∃ld,μ0 d=some ld/\ld.b=db)->
       (Instr.enterLoop fn a.tmps ps fU fV (FE lb).round).run P w=.ok (l,mark) (w0.alloc (.loop {state:=.ready,pending:=none,fn,tmps:=a.tmps,params:=ps,assign:=fU,body:=fV,defers:=db}))->
       (∀ms ds,ph μ0 ms ds->ph μ0 (mk++ms) (mark++ds))->
       ∃(l:Nat) (mark:List Deferred) (w₁:World) (d:Deferred) (w₁':World) (f:FuncId) (args:Array Value) (w₂:World),
        (Instr.enterLoop fn a.tmps ps fU fV (FE lb).round).run P w=.ok (l,mark) w₁/\
        (resolve a.eval (rangeCall g l) 0).run P w₁=.ok d w₁'/\
        (∀f',Target.leads P w₁' d.target d.args=some f'->(FE lb).fn f')/\
        (invoke d.target d.args).run P w₁'=.ok (.enter f args) w₂/\
        ((FE lb).depth.isSome=true->1<=0)/\
        CallsIn (FE lb) (0-1) P f args w₂ (rangePost (FE lb) 0 P l (tM P μ w st (match R.iU with|none=>.normal|some e=>e) {fr with marks:=mk++fr.marks} (fi.write cr.n (.loop {R with st:=.exhausted}))) {a with defers:=mark++a.defers}):=by
      intro l mark w0 μ0 ws0 db wk tD hdb hent zp
      subst tD
      obtain⟨ld,sA,ym⟩:=hdb
      have uV:=wk.mono hh
      have bF:d≠cr.n:=fun hc=>by have:=(wk.hr.dc d ld sA).1;omega
      have jE:bD P μ0 w0 cr (fun i=>if i=cr.n then some ⟨w0.heap.size,0,0⟩ else μ0 i) (w0.alloc (.loop {state:=.ready,pending:=none,fn,tmps:=a.tmps,params:=ps,assign:=fU,body:=fV,defers:=db}))
        (cr.alloc (.loop {st:=.ready,iU:=none,r:=fr.r,n:=fr.n,ps:=ps.toList,assign:=iS P fU,body:=iS P fV,defs:=d})) []:=by
       have dJ:∀i l,μ0 i=some l->(fun i=>if i=cr.n then some (⟨w0.heap.size,0,0⟩:L) else μ0 i) i=some l:=fun i l hl=>by
        have:=(wk.hr.dc i l hl).1
        simp only
        rw[aA (by omega)];exact hl
       refine bD.alloc wk.hr _ (.loop {state:=.ready,pending:=none,fn,tmps:=a.tmps,params:=ps,assign:=fU,body:=fV,defers:=db}) 0 0 ⟨fn,a.tmps,fU,fV,ld,?_,(hf.1.mono uV).mono dJ,rfl,rfl,?_⟩
       ·show (w0.heap.push _)[w0.heap.size]?=_
        simp[ym]
       ·simp only;rw[aA bF];exact sA
      have uT:=wk.trans jE
      have pj:=uT.mono hh
      obtain⟨dd,pG,ik⟩:=b_ gv [.yield cr.n] _ x fi hc _ _ (a.eval g) [.func (.yield w0.heap.size) #[] #[]] jE.hr (VR.mono pj _ _ hG) (fX.2 ⟨_,[],rfl,⟨⟨w0.heap.size,0,0⟩,by simp,rfl⟩,by simp[aW]⟩)
      rcases ik with⟨_,f,args,hinv,IK⟩|⟨hyy,_⟩
      ·refine⟨w0.heap.size,mark,_,dd,_,f,args,_,hent,?_,fun _ _=>trivial,hinv,fun hx=>by simp[Fence.wide]at hx,?_⟩
       ·have e0:(#[Operand.const (.func (.yield w0.heap.size) #[] #[])]).map a.eval=(⟨[.func (.yield w0.heap.size) #[] #[]]⟩:Array Value):=by simp[Act.eval]
        simp only[resolve,e0]
        exact pG
       ·refine CallsIn.mono (F:=Fence.wide) IK fun e w3 he=>?_
        cases e with
        |panicked _=>exact he.elim
        |outgrown=>exact he.elim
        |returned y=>
         obtain⟨μ2,ws2,_,nP⟩:=he
         have oO:μ2 cr.n=some ⟨w0.heap.size,0,0⟩:=nP.mono jE.hr _ _ (by simp)
         obtain⟨rec,m1,m2,m3,m4⟩:=bD.loop (R':={R with st:=.exhausted}) nP.hr oO Nx rfl rfl rfl rfl rfl rfl
         have zgm:=run_endLoop (P:=P) m1 (by rw[m2];exact Ob)
         have hsf:=(uT.trans nP).trans m4
         have zdP:({rec with state:=.exhausted,pending:=R.iU.bind zo}:Loop)={rec with state:=.exhausted}:=by rw[<-m3]
         rw[zdP]at hsf
         have yn:l9 μ2 {fr with marks:=mk++fr.marks} {a with defers:=mark++a.defers}:=by
          refine⟨(hf.1.mono pj).mono (nP.mono jE.hr),?_⟩
          exact((zp _ _ (hf.2.mono uV)).mono (jE.mono wk.hr)).mono (nP.mono jE.hr)
         have fin:tM P μ w st (match R.iU with|none=>.normal|some e=>e) {fr with marks:=mk++fr.marks} (fi.write cr.n (.loop {R with st:=.exhausted})) (Lo (match R.iU with|none=>.normal|some e=>e)) {a with defers:=mark++a.defers} _:=⟨rfl,μ2,_,hsf,yn⟩
         exact⟨R.iU.bind zo,_,by rw[<-m3];exact zgm,Yji R.iU fin⟩
      ·rw[uU]at hyy;cases hyy
     cases ro with
     |none=>
      cases lb with
      |some _=>exact mM.elim
      |none=>
       simp only[Zs5,au,bj]at jj
       obtain⟨rfl,rfl,rfl⟩:=jj
       have zdQ:bD P μ w st (fun i=>if i=st.n then some ⟨w.heap.size,0,0⟩ else μ i) (w.alloc (.deferred (some []))) (st.alloc (.defs true)) []:=
        bD.alloc hh (.defs true) (.deferred (some [])) 0 0 (by simp only[OM];show (w.heap.push _)[w.heap.size]?=_;simp)
       refine common (w.heap.size+1) [{target:=.collected w.heap.size,args:=#[]}] (w.alloc (.deferred (some []))) _ [] w.heap.size zdQ (by simp) ⟨⟨w.heap.size,0,0⟩,by simp,rfl⟩ (run_enterLoop_outer ..) fun ms ds hd=>⟨⟨w.heap.size,0,0⟩,ds,by simp,rfl,hd⟩
     |some l0=>
      cases lb with
      |none=>exact mM.elim
      |some b=>
       obtain⟨L0,tD,rfl⟩:=mM
       simp only[Zs5]at jj
       split at jj
       ·rename_i R0 BZ
        simp only[au,bj]at jj
        obtain⟨rfl,rfl,rfl⟩:=jj
        obtain⟨fn0,zeK,ze1,ze2,ld0,g1,g2,g3,g4,g5⟩:=hh.get tD BZ
        refine common w.heap.size [] w μ [] ld0.b (bD.refl hh) rfl ⟨ld0,g5,rfl⟩ ?_ (fun ms ds hd=>hd)
        show (Instr.enterLoop fn a.tmps ps fU fV (some L0.b)).run P w=_
        unfold Instr.enterLoop
        simp only[Sem.run_bind,run_getLoop g1,run_newObj_alloc,Result.andThen,Sem.run_pure]
       ·cases jj
    ·cases h
end
open Go Go.Conc
section
variable {P:Program} {μ:Mu} {w:World} {st aB:St} {fr bG:Fr} {a:Act} {call:cM} {v:V} {lb:Option Nat}
def Ydm{o:Oper}{d:Option Nat}{ch:Src}{s:Option Src}{z:V}(h:SC P o=some (d,ch,s,z)):
  ∃c,o.op=.select #[c] false/\o.guard=none/\o.dst=d/\bo P c.chan=some ch/\rW P c.send=some s/\oT P c.elem=some z:=by
 unfold SC at h
 split at h
 ·rename_i cs xL hg
  split at h
  ·rename_i c t_
   split at h
   ·rename_i ch' s' z' h1 h2 h3
    simp only[au,bj]at h
    obtain⟨rfl,rfl,rfl,rfl⟩:=h
    have:=xJ t_
    subst this
    exact⟨c,xL,hg,rfl,h1,h2,h3⟩
   ·cases h
  ·cases h
 ·cases h
def Tq{b:Frame}{ops:Array Oper}{i:Nat}{rest:List Nat}{k:List Item}{cs:List Frame}{o:Oper}{cases:Array CommCase}(ho:ops[i]?=some o)(hg:o.guard=none)(Bl:∀c,o.op≠.defer c)
  (bL:(execOp a.eval o).run P w=.ok (.comm cases false .select) w):
  ∃es,stepG P true (G (b.atR a (.inRegion ops (i::rest)::k)) cs) w=.comm (G (b.atR a (.inRegion ops (i::rest)::k)) cs) cases false .select w es:=by
 have hw:Region.wanted o (yielded ops a.tmps)=true:=by simp[Region.wanted,hg]
 have h:=stepGR_op (P:=P) (b:=b) (a:=a) (k:=k) (cs:=cs) (w:=w) (rest:=rest) ho hw
 have Ac:((o.semAt b.roundOf a.eval).runT P w #[]).1=.ok (.comm cases false .select) w:=by
  rw[Sem.runT_fst,Oper.semAt_eq _ _ _ Bl];exact bL
 unfold G
 rw[h]
 unfold stepG.apply
 generalize hr:(o.semAt b.roundOf a.eval).runT P w #[]=r at Ac
 obtain⟨r1,r2⟩:=r
 simp only at Ac
 subst Ac
 exact⟨_,rfl⟩
def Zs0{o:Oper}{c:SelectCase}(xL:o.op=.select #[c] false){zx:Value}(hz:(zeroValue c.elem).run P w=.ok zx w):
  (execOp a.eval o).run P w=.ok (.comm #[{chan:=a.eval c.chan,send:=c.send.map a.eval,zero:=zx}] false .select) w:=by
 unfold execOp
 rw[xL]
 simp[hz,Result.andThen]
def Yhh(b_:js P call)(hE:tN P):Ynn P call:=by
 intro id ops o rest d ch s z fr st ex bG aB JD zd1 h μ w a lb hh hf
 obtain⟨c,xL,hg,rfl,h1,h2,h3⟩:=Ydm zd1
 have ho:ops[0]?=some o:=by rw[<-zw,JD];rfl
 have Bl:∀c',o.op≠.defer c':=fun c' hc=>by rw[xL]at hc;cases hc
 have ml:o.about P w a.eval=none:=by unfold Oper.about;rw[xL]
 have jJ:ops.size=rest.length+1:=by rw[<-Array.length_toList,JD];rfl
 obtain⟨zx,Mf,yx⟩:=Zqo (w:=w) h3
 have lM:=Zs0 (a:=a) xL Mf
 unfold zk at h
 split at h
 ·rename_i i sv Pk hsv
  obtain⟨l,hl,e1⟩:=cO hh hf.1 h1 Pk
  rw[e1]at lM
  have sS:=Zru hh hf.1 h2 hsv
  split at h
  ·rename_i v1 cr hv
   split at h
   ·rename_i dS zd2
    split at h
    ·rename_i yf fi hm
     simp only[au,bj]at h
     obtain⟨rfl,rfl,rfl⟩:=h
     have key:∃x w1 μ1 ws,VR μ1 v1 x/\bD P μ w st μ1 w1 cr ws/\∀(b:Frame) (k:List Item) (cs:List Frame) (is:List Nat),
       step P (lone (b.atR a (.inRegion ops (0::is)::k)) cs w)=.next (lone ((b.atR a (.inRegion ops (0::is)::k)).finish x) cs w1):=by
      unfold SQ at hv
      split at hv
      ·-- a send
       rename_i cap buf u y8
       obtain⟨u',x',og,mI,hvr⟩:=sS.resolve_left (by rintro⟨hq,_⟩;cases hq)
       simp only[au]at og
       subst og
       rw[mI]at lM
       obtain⟨qO,s',r',q1,q2⟩:=hh.get hl y8
       have hbl:=q2.length
       split at hv
       ·rename_i Pm
        simp only[au,bj]at hv
        obtain⟨rfl,rfl⟩:=hv
        refine⟨.tuple #[goInt 0,.bool false],w.setChan l.b cap ((⟨qO⟩:Array Value).push (a.eval x')) false (s'+1) r' false,μ,[i],?_,?_,fun b k cs is=>?_⟩
        rotate_left 2
        ·obtain⟨es,eh⟩:=Tq (b:=b) (k:=k) (cs:=cs) (rest:=is) ho hg Bl lM
         exact step_lone_select_send_room eh q1 (by simp;omega)
        ·exact⟨_,rfl,by simp[aW,VR,goInt]⟩
        ·refine bD.write hh hl y8 rfl rfl rfl rfl (by simp[size_setChan]) (fun b hb=>?_) ⟨qO++[a.eval x'],s'+1,r',?_,q2.append (fX.2 ⟨_,[],rfl,hvr,by simp[aW]⟩)⟩
         ·simp only[World.setChan];rw[LD (Ne.symm hb)]
         ·rw[heap_setChan _ _ _ _ _ _ _ _ (hh.dc i l hl).2];simp
       ·rename_i Pm
        simp only[au,bj]at hv
        obtain⟨rfl,rfl⟩:=hv
        refine⟨.tuple #[goInt (-1),.bool false],w,μ,[],?_,bD.refl hh,fun b k cs is=>?_⟩
        rotate_left
        ·obtain⟨es,eh⟩:=Tq (b:=b) (k:=k) (cs:=cs) (rest:=is) ho hg Bl lM
         exact step_lone_select_send_full eh q1 (by simp;omega)
        ·exact⟨_,rfl,by simp[aW,VR,goInt]⟩
      ·-- a receive
       rename_i cap u buf y8
       rcases sS with⟨_,mI⟩|⟨_,_,hq,_⟩
       ·rw[mI]at lM
        obtain⟨qO,s',r',q1,q2⟩:=hh.get hl y8
        obtain⟨y,ys,rfl,g1,g2⟩:=fX.1 q2
        simp only[au,bj]at hv
        obtain⟨rfl,rfl⟩:=hv
        refine⟨.tuple #[goInt 0,.bool true,(⟨y::ys⟩:Array Value).getD 0 undef],w.setChan l.b cap ((⟨y::ys⟩:Array Value).extract 1 (⟨y::ys⟩:Array Value).size) false s' (r'+1) false,μ,[i],?_,?_,fun b k cs is=>?_⟩
        rotate_left 2
        ·obtain⟨es,eh⟩:=Tq (b:=b) (k:=k) (cs:=cs) (rest:=is) ho hg Bl lM
         exact step_lone_select_recv_buf eh q1 (by simp)
        ·exact⟨_,rfl,fX.2 ⟨_,_,rfl,by simp[VR,goInt],fX.2 ⟨_,_,rfl,by simp[VR],fX.2 ⟨_,_,rfl,by simpa using g1,by simp[aW]⟩⟩⟩⟩
        ·refine bD.write hh hl y8 rfl rfl rfl rfl (by simp[size_setChan]) (fun b hb=>?_) ⟨ys,s',r'+1,?_,g2⟩
         ·simp only[World.setChan];rw[LD (Ne.symm hb)]
         ·rw[heap_setChan _ _ _ _ _ _ _ _ (hh.dc i l hl).2]
          congr 2
          apply zz
          simp
       ·cases hq
      ·rename_i cap y8
       rcases sS with⟨_,mI⟩|⟨_,_,hq,_⟩
       ·rw[mI]at lM
        obtain⟨qO,s',r',q1,q2⟩:=hh.get hl y8
        simp only[aW]at q2;subst q2
        simp only[au,bj]at hv
        obtain⟨rfl,rfl⟩:=hv
        refine⟨.tuple #[goInt (-1),.bool false,zx],w,μ,[],?_,bD.refl hh,fun b k cs is=>?_⟩
        rotate_left
        ·obtain⟨es,eh⟩:=Tq (b:=b) (k:=k) (cs:=cs) (rest:=is) ho hg Bl lM
         exact step_lone_select_default eh q1
        ·exact⟨_,rfl,fX.2 ⟨_,_,rfl,by simp[VR,goInt],fX.2 ⟨_,_,rfl,by simp[VR],fX.2 ⟨_,_,rfl,yx μ,by simp[aW]⟩⟩⟩⟩
       ·cases hq
      ·cases hv
     obtain⟨x,w1,μ1,ws,hx,uT,eh⟩:=key
     have pj:=uT.mono hh
     have xp:l9 μ1 dS (a.put o.dst x):=(hf.mono pj).put hx zd2
     have Pn:List.range ops.size=0::(List.range rest.length).map (·+1):=by
      rw[jJ,List.range_succ_eq_map]
     have zd3:((List.range rest.length).map (·+1)).map (fun i=>ops[i]?)=rest.map some:=by
      apply qG
      intro j
      simp only[List.map_map,mL]
      by_cases hj:j<rest.length
      ·have:ops[j+1]?=rest[j]?:=by rw[<-zw,JD];rfl
       simp[hj,this]
      ·simp[hj]
     have hwp:=Ybc (lb:=lb) (Q:=tM P μ w st .normal yf fi) b_ hE _ _ zd3 uT.hr xp hm (fun a' w' μ' NU q1 q2=>⟨rfl,μ',_,uT.trans q2,q1⟩)
     intro b k cs mM hb hr
     obtain⟨e,a',w',q,ib⟩:=wp_opsIn _ _ _ hwp b k cs mM hb hr
     refine⟨e,a',w',q,.of_steps (.one (fenced_calm hb hr rfl) stepR_region) ?_⟩
     rw[Pn]
     refine .of_steps (.one (fenced_oper hb hr ho fun f hf=>by rw[ml]at hf;cases hf) (eh b k cs _)) ?_
     rw[Frame.finish_atR,ho]
     exact ib
    ·cases h
   ·cases h
  ·cases h
 ·cases h
end
end Go.Mx
