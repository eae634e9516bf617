/-The machine M's runs stand for the Go mo-/
import Derived.Test.YtjjmkflbfpeagaaGreatDoorMxCode
import Derived.Conc.LoneSelect
set_option linter.all false
namespace Go.Mx
open Go
section
variable {P:Program} {μ:Mu} {w:World} {st ax:St} {fr bB:Fr} {a:Act} {call:cH} {v:V} {lb:Option Nat}
def Y5:∀(vs:List V) (r:T V) (i t:Nat),(wJ r i vs).get t=if i<=t/\t<i+vs.length then vs[t-i]? else r.get t
 |[],r,i,t=>by simp[wJ];omega
 |v::vs,r,i,t=>by
  simp only[wJ]
  rw[Y5 vs (r.set i v) (i+1) t,T.ai]
  by_cases h:t=i
  ·subst h
   rw[aq (by omega),aJ rfl,aJ (by simp)];simp
  ·by_cases h2:i+1<=t/\t<i+1+vs.length
   ·rw[aJ h2,aJ (by simp;omega)]
    rw[show t-i=(t-(i+1))+1 by omega];simp
   ·rw[aq h2,aq h,aq (by simp;omega)]
def Ygn{vs:List V}{xs:List Value}{n:Nat}(h:aP μ vs xs)(hl:vs.length<=n):RR μ (wJ .nil 0 vs) n ((⟨xs⟩:Array Value)++Array.replicate (n-(⟨xs⟩:Array Value).size) undef):=by
 have AL:=h.length
 refine⟨by simp;omega,fun t v hv=>?_⟩
 rw[Y5]at hv
 split at hv
 ·rename_i ht
  simp only[Nat.sub_zero]at hv
  obtain⟨x,hx,hr⟩:=h.get hv
  refine⟨x,?_,hr⟩
  rw[Array.getElem?_append_left (by simp;omega)]
  simpa using hx
 ·simp[T.get]at hv
def Nu(tmps:Array Value):ResultVar->Sem Value
 |.tmp t=>pure (tmps.getD t undef)
 |.cell a t=>do loadVar t (<-asAddr (tmps.getD a undef))
def SA(hh:a_ P μ w st){r:T V}{n:Nat}{tmps:Array Value}(hr:RR μ r n tmps):∀{rs:List ResultVar} {ms:List Dk},BM P rs=some ms->∀{vs:List V},gm r st ms=some vs->
  ∃xs,(rs.mapM (Nu tmps)).run P w=.ok xs w/\aP μ vs xs
 |[],ms,hc,vs,hv=>by
  simp only[BM,ak]at hc;subst hc
  simp only[gm,ak]at hv;subst hv
  exact⟨[],by simp,by simp[aP]⟩
 |.tmp t::rs,ms,hc,vs,hv=>by
  simp only[BM,fZ]at hc
  obtain⟨ms',D9,rfl⟩:=hc
  simp only[gm]at hv
  split at hv
  ·rename_i u us hu sX
   simp only[ak]at hv;subst hv
   obtain⟨xs,h1,h2⟩:=SA hh hr D9 sX
   obtain⟨x,hx,zB⟩:=hr.2 _ _ hu
   refine⟨x::xs,?_,fM.2 ⟨_,_,rfl,zB,h2⟩⟩
   simp only[List.mapM_cons,Nu,Sem.run_bind,Sem.run_pure,Result.andThen_ok,h1]
   simp[Dr,hx]
  ·cases hv
 |.cell t ty::rs,ms,hc,vs,hv=>by
  simp only[BM]at hc
  split at hc
  ·rename_i k ms' hk D9
   simp only[ak]at hc;subst hc
   simp only[gm]at hv
   split at hv
   ·rename_i i o us hu sX
    split at hv
    ·rename_i c e AA aE
     split at hv
     ·rename_i u eE
      simp only[ak]at hv;subst hv
      obtain⟨xs,h1,h2⟩:=SA hh hr D9 sX
      obtain⟨x,hx,l,hl,rfl⟩:=hr.2 _ _ hu
      have wM:=hh.row hl aE
      have uG:∃y,(loadVar ty ⟨l.b,l.d+o,none⟩).run P w=.ok y w/\VR μ u y:=by
       cases k with
       |none=>
        simp only[aL]at eE
        obtain⟨y,hy,hv⟩:=wM.cell eE
        exact⟨y,by simp[loadVar,SB hk,Result.andThen,hy],hv⟩
       |some k=>
        simp only[aL]at eE
        split at eE
        ·rename_i q hq
         simp only[ak]at eE;subst eE
         obtain⟨ys,g1,_,g3,_⟩:=wM.xH hq
         exact⟨.agg ys.toArray,by simp[loadVar,(GV hk).1,(GV hk).2,Result.andThen,g3],ys,rfl,g1⟩
        ·cases eE
      obtain⟨y,qf,uH⟩:=uG
      refine⟨y::xs,?_,fM.2 ⟨_,_,rfl,uH,h2⟩⟩
      have nz:tmps.getD t undef=.pointer (some ⟨l.b,l.d+o,none⟩):=by simp[Dr,hx]
      have SC:(asAddr (tmps.getD t undef)).run P w=.ok ⟨l.b,l.d+o,none⟩ w:=by rw[nz];rfl
      simp only[List.mapM_cons,Nu,Sem.run_bind,SC,Sem.run_pure,Result.andThen_ok,qf,h1]
     ·cases hv
    ·cases hv
   ·cases hv
  ·cases hc
def Ztc(hh:a_ P μ w st){r:T V}{n:Nat}{tmps:Array Value}(hr:RR μ r n tmps){fn:Func}{ms:List Dk}(hc:BM P fn.results.toList=some ms){vs:List V}(hv:gm r st ms=some vs):
  ∃x,(results fn tmps).run P w=.ok x w/\VR μ (B0 vs) x:=by
 obtain⟨xs,h1,h2⟩:=SA hh hr hc hv
 have hl:=h2.length
 refine⟨if h:xs.length=1 then xs[0] else .tuple ⟨xs⟩,?_,?_⟩
 ·show (do let vs <-fn.results.mapM (Nu tmps);pure (if h:vs.size=1 then vs[0] else .tuple vs):Sem Value).run P w=_
  rw[Array.mapM_eq_mapM_toList]
  simp only[Sem.run_bind,Sem.run_map,h1,Result.andThen_ok,Sem.run_pure]
  rfl
 ·rcases vs with _|⟨u,_|⟨u',vs⟩⟩
  ·simp only[aP]at h2;subst h2
   exact⟨[],rfl,by simp[aP]⟩
  ·obtain⟨y,ys,rfl,g1,g2⟩:=fM.1 h2
   simp only[aP]at g2;subst g2
   exact g1
  ·rw[dif_neg (by rw[hl];simp)]
   exact⟨xs,rfl,h2⟩
def Y6{fn:Func}{tmps:Array Value}{R:Ending->World->Prop}:∀{ms:List Nat} {ds:List Deferred} {st eI:St} {w:World},a_ P μ w st->nJ μ ms ds->shut st ms=some eI->
  (∀w' ws,bA P μ w st μ w' eI ws->∃v,(results fn tmps).run P w'=.ok v w'/\R (.returned v) w')->LeavesInM Fence.wide 0 P fn tmps R ds .returning w
 |[],ds,st,eI,w,hh,hd,hs,hR=>by
  simp only[nJ]at hd;subst hd
  simp only[shut,ak]at hs;subst hs
  exact hR w [] (bA.refl hh)
 |m::ms,ds,st,eI,w,hh,hd,hs,hR=>by
  obtain⟨l,B8,h1,rfl,h3⟩:=hd
  simp only[shut]at hs
  split at hs
  ·rename_i hg
   have wM:=hh.get h1 hg
   have I6:bA P μ w st μ (w.putObj l.b (.deferred none)) (st.write m (.defs false)) [m]:=
    bA.write hh h1 hg rfl rfl rfl rfl (World.putObj_size) (fun b hb=>World.putObj_heap_other hb) (World.putObj_heap_same (hh.cU m l h1).2)
   refine⟨by simp,.inl ⟨l.b,_,rfl,run_takeDeferred wM,?_⟩⟩
   exact Y6 I6.hr h3 hs fun w' ws iU=>hR w' _ (I6.trans iU)
  ·cases hs
def bA.fold{μ':Mu}{w':World}{ws:List Nat}(h0:a_ P μ w st)(h:bA P μ w {st with w:=[]} μ' w' ax ws):bA P μ w st μ' w' {ax with w:=aB st.n ax.w++st.w} (aB st.n ax.w):=by
 have AI:∀(l:List Nat) (i:Nat),i<st.n->(i∈aB st.n l↔i∈l):=by
  intro l i hi
  induction l with
  |nil=>simp[aB]
  |cons j l ih=>
   simp only[aB]
   split
   ·unfold vD
    split
    ·rename_i hc
     simp only[jy,ih]
     simp only[Na]at hc
     constructor
     ·exact .inr
     ·rintro(rfl|h)
      ·exact ih.1 hc
      ·exact h
    ·simp only[jy,ih]
   ·simp only[jy,ih]
    constructor
    ·exact .inr
    ·rintro(rfl|h)
     ·omega
     ·exact h
 have SD:ax.w=ws:=by have:=h.wl;simpa using this
 have hs:∀i,i<st.n->(i∈aB st.n ax.w↔i∈ws):=fun i hi=>by rw[AI _ i hi,SD]
 exact {
  hr:=⟨h.hr.cU,h.hr.obj,h.hr.inj,h.hr.gj⟩
  ext:=h.ext
  gJ:=h.gJ
  wl:=rfl
  dV:=⟨h.dV.os,h.dV.tape,h.dV.output,h.dV.size,fun b hb dq=>h.dV.block b hb fun i hi l hl=>dq i ((hs i (h0.cU i l hl).1).2 hi) l hl⟩
  new:=fun i l hi hl=>by
   rcases h.new i l hi hl with h'|⟨j,hj,Dm,r⟩
   ·exact .inl h'
   ·exact .inr ⟨j,(hs j Dm).2 hj,Dm,r⟩
  ae:=fun i hi dq=>h.ae i hi fun hc=>dq ((hs i hi).2 hc)
  grow:=h.grow
  full:=h.full
  wA:=fun i hi hn=>h.wA i ((hs i hn).1 hi) hn}
def a_.now(h:a_ P μ w st)(l:List Nat):a_ P μ w {st with w:=l}:=⟨h.cU,h.obj,h.inj,h.gj⟩
def Y7{code:n_}(mQ:Gl P code){f:FuncId}{fn:Func}{mf:jX}(hf:P.funcs[f]?=some fn)(hc:wv P f=some mf){args:List V}{xs:List Value}(hh:a_ P μ w st)(hx:aP μ args xs)
  (h:Az mf code args st=some (v,ax)):CallsIn Fence.wide 0 P f ⟨xs⟩ w (Ea fun x w'=>∃μ' ws,VR μ' v x/\bA P μ w st μ' w' ax ws):=by
 unfold wv at hc
 rw[hf]at hc
 simp only at hc
 split at hc
 ·rename_i c rs hb SE
  simp only[ak]at hc;subst hc
  unfold Az at h
  split at h
  ·cases h
  ·rename_i hle
   simp only at hle h
   have fin:∀(ex:Ex) (dE:Fr) (bU:St),(ex=.normal\/ex=.ret)->code none (ij P c) {r:=wJ .nil 0 args,n:=fn.ntmps,marks:=[]} {st with w:=[]}=some (ex,dE,bU)->
     (match shut bU dE.marks with
      |none=>none
      |some eI=>match gm dE.r eI rs with
       |some vs=>some (B0 vs,{eI with w:=aB st.n eI.w++st.w})
       |none=>none)=some (v,ax)->
     CallsIn Fence.wide 0 P f ⟨xs⟩ w (Ea fun x w'=>∃μ' ws,VR μ' v x/\bA P μ w st μ' w' ax ws):=by
    intro ex dE bU hex bH eF
    split at eF
    ·cases eF
    ·rename_i eI I7
     split at eF
     ·rename_i vs Eb
      simp only[ak,bh]at eF
      obtain⟨rfl,rfl⟩:=eF
      refine callsIn_of_wp_marks hf hb trivial (wpIn_mono (mQ none c _ _ _ _ _ bH μ w _ none (hh.now []) ⟨Ygn hx (wB hle),rfl⟩ trivial) fun e a' w' hp=>?_)
      obtain⟨rfl,μ1,ws,hs,vj⟩:=hp
      have hl:LeavesInM Fence.wide 0 P fn a'.tmps (Ea fun x w'=>∃μ' ws,VR μ' (B0 vs) x/\bA P μ w st μ' w' {eI with w:=aB st.n eI.w++st.w} ws) a'.defers .returning w':=by
       refine Y6 hs.hr vj.2 I7 fun w2 RX mi=>?_
       obtain⟨x,xW,GQ⟩:=Ztc mi.hr vj.1 SE Eb
       exact⟨x,xW,μ1,_,GQ,(hs.trans mi).fold hh⟩
      rcases hex with rfl|rfl
      ·exact hl
      ·exact hl
     ·cases eF
   unfold Sf at h
   split at h
   ·cases h
   ·rename_i ex dE bU bK bH
    exact fin ex dE bU (by cases ex with|normal=>exact .inl rfl|ret=>exact .inr rfl|exit id=>exact(bK id rfl).elim) (by assumption) h
   ·cases h
 ·cases hc
def Y9:∀{ps:List Nat} {vs:List V} {r r':T V} {n:Nat} {tmps:Array Value} {xs:List Value},RR μ r n tmps->aP μ vs xs->DT r n ps vs=some r'->
  xs.length=ps.length/\RR μ r' n ((ps.zip xs).foldl (fun (tmps:Array Value) (p:Nat×Value)=>tmps.setIfInBounds p.1 p.2) tmps)
 |[],[],r,r',n,tmps,xs,hr,hx,h=>by
  simp only[aP]at hx;subst hx
  simp only[DT,ak]at h;subst h
  exact⟨rfl,hr⟩
 |[],_::_,r,r',n,tmps,xs,hr,hx,h=>by simp[DT]at h
 |_::_,[],r,r',n,tmps,xs,hr,hx,h=>by simp[DT]at h
 |p::ps,v::vs,r,r',n,tmps,xs,hr,hx,h=>by
  obtain⟨y,ys,rfl,h1,h2⟩:=fM.1 hx
  simp only[DT]at h
  split at h
  ·rename_i hp
   obtain⟨g1,g2⟩:=Y9 (hr.set hp h1) h2 h
   exact⟨by simp[g1],by simpa using g2⟩
  ·cases h
def Zy7(e:Ex):((rC e).bind xy).isNone=(rC e).isNone:=by cases e<;>rfl
def bA.loop(hh:a_ P μ w st){i:Nat}{l:L}(hl:μ i=some l){R R':Yz}(hg:st.h.get i=some (.loop R))(h1:R'.r=R.r)(h2:R'.n=R.n)(h3:R'.ps=R.ps)(h4:R'.assign=R.assign)(h5:R'.body=R.body)(h6:R'.defs=R.defs):
  ∃rec,w.heap[l.b]?=some (.loop rec)/\rec.state=R.st/\rec.pending=R.ik.bind xy/\
   bA P μ w st μ (w.putObj l.b (.loop {rec with state:=R'.st,pending:=R'.ik.bind xy})) (st.write i (.loop R')) [i]:=by
 obtain⟨fn,tmps,fw,fx,ld,g1,g2,g3,g4,g5⟩:=hh.get hl hg
 refine⟨_,g1,rfl,rfl,bA.write hh hl hg rfl rfl rfl rfl World.putObj_size (fun b hb=>World.putObj_heap_other hb) ⟨fn,tmps,fw,fx,ld,?_,?_,?_,?_,?_⟩⟩
 ·rw[World.putObj_heap_same (hh.cU i l hl).2,h3]
 ·rw[h1,h2];exact g2
 ·rw[h4];exact g3
 ·rw[h5];exact g4
 ·rw[h6];exact g5
def Yfc{code:n_}(mQ:Gl P code){l:Nat}{args:List V}{xs:List Value}{L0:L}(hh:a_ P μ w st)(hl:μ l=some L0)(hx:aP μ args xs)(h:DU code l args st=some (v,ax)):
  ∃f tmps fw fx,(Instr.yield L0.b ⟨xs⟩).run P w=.ok (.round L0.b f tmps fw fx) w/\RoundIn Fence.wide 0 P L0.b f tmps fw fx w (Ea fun x w'=>∃μ' ws,VR μ' v x/\bA P μ w st μ' w' ax ws):=by
 unfold DU at h
 split at h
 ·rename_i R hg
  obtain⟨fn,tmps,fw,fx,ld,g1,g2,g3,g4,g5⟩:=hh.get hl hg
  split at h
  ·cases h
  ·rename_i r0 jI
   obtain⟨q1,q2⟩:=Y9 g2 hx jI
   have hy:=run_yield (P:=P) (args:=⟨xs⟩) g1 (by simpa using q1)
   refine⟨_,_,_,_,hy,?_⟩
   have htm:(((⟨R.ps⟩:Array Nat).zip (⟨xs⟩:Array Value)).foldl (fun tmps (p:Nat×Value)=>tmps.setIfInBounds p.1 p.2) tmps)=(R.ps.zip xs).foldl (fun (tmps:Array Value) (p:Nat×Value)=>tmps.setIfInBounds p.1 p.2) tmps:=by simp
   refine roundIn_of_wpIn (F:=Fence.wide) trivial ?_
   split at h
   ·rename_i dE bU Ca
    rw[<-g3]at Ca
    refine wpIn_mono (mQ (some l) fw _ _ _ _ _ Ca μ w {tmps:=(((⟨R.ps⟩:Array Nat).zip (⟨xs⟩:Array Value)).foldl (fun tmps (p:Nat×Value)=>tmps.setIfInBounds p.1 p.2) tmps),defers:=[]} (some L0.b) hh ⟨by rw[htm];exact q2,rfl⟩ ⟨L0,hl,rfl⟩) fun e a1 w1 hp=>?_
    have sF:=hp
    obtain⟨he,μ1,ws1,sY,vj⟩:=hp
    refine sF.then (fun _=>?_) (fun bK=>absurd rfl bK)
    split at h
    ·rename_i R1 xl
     split at h
     ·rename_i Ec
      have zW:=sY.mono hh _ _ hl
      obtain⟨I8,k1,k2,k3,k4⟩:=bA.loop (R':={R1 with st:=.busy}) sY.hr zW xl rfl rfl rfl rfl rfl rfl
      refine⟨_,run_beginRound k1 (k2.trans Ec),?_⟩
      have SF:({I8 with state:=LoopState.busy,pending:=R1.ik.bind xy}:Loop)={I8 with state:=.busy}:=by rw[<-k3]
      rw[SF]at k4
      split at h
      ·rename_i e2 wo eI Cb
       rw[<-g4]at Cb
       refine wpIn_mono (mQ (some l) fx _ _ _ _ _ Cb μ1 _ a1 (some L0.b) k4.hr (vj.mono (k4.mono sY.hr)) ⟨L0,zW,rfl⟩) fun e a2 w2 wk=>?_
       obtain⟨vH,μ2,RX,mi,jU⟩:=wk
       split at h
       ·rename_i R2 Il
        simp only[ak,bh]at h
        obtain⟨rfl,rfl⟩:=h
        have pW:=mi.mono k4.hr _ _ zW
        obtain⟨SG,m1,m2,m3,m4⟩:=bA.loop (R':={R2 with st:=IP (rC e2),ik:=rC e2}) mi.hr pW Il rfl rfl rfl rfl rfl rfl
        have eF:=run_endRound (P:=P) ((rC e2).bind xy) m1
        have ff:(if ((rC e2).bind xy).isNone=true then LoopState.ready else LoopState.done)=IP (rC e2):=by cases e2<;>rfl
        rw[ff,Zy7]at eF
        have hR:Ea (fun x w'=>∃μ' ws,VR μ' (.bool (rC e2).isNone) x/\bA P μ w st μ' w' (eI.write l (.loop {R2 with st:=IP (rC e2),ik:=rC e2})) ws) (.returned (.bool (rC e2).isNone))
          (w2.putObj L0.b (.loop {SG with state:=IP (rC e2),pending:=(rC e2).bind xy})):=
         ⟨μ2,_,by simp[VR],((sY.trans k4).trans mi).trans m4⟩
        subst vH
        cases e2 with
        |normal=>exact⟨_,_,eF,hR⟩
        |exit id=>exact⟨_,_,eF,hR⟩
        |ret=>exact⟨_,_,eF,hR⟩
       ·cases h
      ·cases h
     ·cases h
    ·cases h
   ·cases h
 ·cases h
def SH(P:Program)(dw:Nat->Option jX):Prop:=
 ∀f mf,dw f=some mf->wv P f=some mf/\∀fn,P.funcs[f]?=some fn->(fn.name== "runtime.NumGoroutine")=false
def Za{f:FuncId}{mf:jX}(h:wv P f=some mf):∃fn,P.funcs[f]?=some fn/\fn.body.isSome=true:=by
 unfold wv at h
 split at h
 ·rename_i fn hf
  refine⟨fn,hf,?_⟩
  split at h
  ·rename_i hb _;rw[hb];rfl
  ·cases h
 ·cases h
def Zun{dw:Nat->Option jX}{code:n_}(ht:SH P dw)(mQ:Gl P code):iO P (vE dw code):=by
 intro g args st v ax h μ w G xs hh hg hx
 unfold vE at h
 split at h
 ·rename_i f first fT
  split at h
  ·rename_i mf hmf
   obtain⟨a',c',rfl,h1,h2⟩:=hg
   obtain⟨hc,I9⟩:=ht f mf hmf
   obtain⟨fn,hf,hb⟩:=Za hc
   refine⟨{target:=.fn (.func f) ⟨c'⟩,args:=⟨a'⟩++⟨xs⟩},by simp[Deferred.ofValue],.inl ⟨rfl,f,⟨a'++xs++c'⟩,?_,?_⟩⟩
   ·have hn:fn.name≠ "runtime.NumGoroutine" :=by simpa using I9 fn hf
    simp[invoke,callFunc,hf,hn]
    intro hq
    rw[hq]at hb
    cases hb
   ·exact Y7 mQ hf hc hh ((h1.append hx).append h2) h
  ·cases h
 ·rename_i l
  obtain⟨L0,hl,rfl⟩:=hg
  obtain⟨f,tmps,fw,fx,q1,q2⟩:=Yfc mQ hh hl hx h
  refine⟨{target:=.fn (.yield L0.b) #[],args:=⟨xs⟩},by simp[Deferred.ofValue],.inr ⟨rfl,L0.b,f,tmps,fw,fx,?_,q2⟩⟩
  simp[invoke,q1]
 ·cases h
def Yj0{a2:Act}{w4:World}{wo:Fr}{SI:St}:∀(q:Option Ex),rm P μ w st (match q with|none=>.normal|some e=>e) wo SI (Gi (match q with|none=>.normal|some e=>e)) a2 w4->
  (match q.bind xy with
   |none=>rm P μ w st (match q with|none=>.normal|some e=>e) wo SI .normal a2 w4
   |some c=>c.wpIn (FE lb) 0 P (rm P μ w st (match q with|none=>.normal|some e=>e) wo SI) a2 w4)
 |none,h=>h
 |some .normal,h=>h
 |some (.exit _),h=>wpIn_exit h
 |some .ret,h=>wpIn_ret h
def Zb(bR:iO P call):Yt P call:=by
 intro ro g s ps fw fx fr st ex bB ax hs h μ w a lb hh hf kR
 unfold Ak at h
 split at h
 ·cases h
 ·rename_i gv hgv
  have hG:=cE hh hf.1 hs hgv
  rw[Gy]at h
  obtain⟨hy,h⟩:=h
  have sZ:gv.GO=false:=by simpa using hy
  split at h
  ·cases h
  ·rename_i bU d mk iH
   split at h
   ·cases h
   ·rename_i x eI hc
    split at h
    ·rename_i R Il
     rw[Gy]at h
     obtain⟨Ja,h⟩:=h
     simp only[ak,bh]at h
     obtain⟨rfl,rfl,rfl⟩:=h
     refine wpIn_rangeFunc fun fn _=>?_
     have common:∀(l:Nat) (mark:List Deferred) (w0:World) (μ0:Mu) (Zc:List Nat) (db:Nat),bA P μ w st μ0 w0 bU Zc->l=w0.heap.size->(∃ld,μ0 d=some ld/\ld.b=db)->
       (Instr.enterLoop fn a.tmps ps fw fx (FE lb).round).run P w=.ok (l,mark) (w0.alloc (.loop {state:=.ready,pending:=none,fn,tmps:=a.tmps,params:=ps,assign:=fw,body:=fx,defers:=db}))->
       (∀ms ds,nJ μ0 ms ds->nJ μ0 (mk++ms) (mark++ds))->
       ∃(l:Nat) (mark:List Deferred) (w₁:World) (d:Deferred) (SJ:World) (f:FuncId) (args:Array Value) (w₂:World),
        (Instr.enterLoop fn a.tmps ps fw fx (FE lb).round).run P w=.ok (l,mark) w₁/\
        (resolve a.eval (rangeCall g l) 0).run P w₁=.ok d SJ/\
        (∀f',Target.leads P SJ d.target d.args=some f'->(FE lb).fn f')/\
        (invoke d.target d.args).run P SJ=.ok (.enter f args) w₂/\
        ((FE lb).depth.isSome=true->1<=0)/\
        CallsIn (FE lb) (0-1) P f args w₂ (rangePost (FE lb) 0 P l (rm P μ w st (match R.ik with|none=>.normal|some e=>e) {fr with marks:=mk++fr.marks} (eI.write bU.n (.loop {R with st:=.exhausted}))) {a with defers:=mark++a.defers}):=by
      intro l mark w0 μ0 Zc db uI rJ hdb hent xN
      subst rJ
      obtain⟨ld,qo,wN⟩:=hdb
      have sS:=uI.mono hh
      have bK:d≠bU.n:=fun hc=>by have:=(uI.hr.cU d ld qo).1;omega
      have jf:bA P μ0 w0 bU (fun i=>if i=bU.n then some ⟨w0.heap.size,0,0⟩ else μ0 i) (w0.alloc (.loop {state:=.ready,pending:=none,fn,tmps:=a.tmps,params:=ps,assign:=fw,body:=fx,defers:=db}))
        (bU.alloc (.loop {st:=.ready,ik:=none,r:=fr.r,n:=fr.n,ps:=ps.toList,assign:=ij P fw,body:=ij P fx,defs:=d})) []:=by
       have dr:∀i l,μ0 i=some l->(fun i=>if i=bU.n then some (⟨w0.heap.size,0,0⟩:L) else μ0 i) i=some l:=fun i l hl=>by
        have:=(uI.hr.cU i l hl).1
        simp only
        rw[aq (by omega)];exact hl
       refine bA.alloc uI.hr _ (.loop {state:=.ready,pending:=none,fn,tmps:=a.tmps,params:=ps,assign:=fw,body:=fx,defers:=db}) 0 0 ⟨fn,a.tmps,fw,fx,ld,?_,(hf.1.mono sS).mono dr,rfl,rfl,?_⟩
       ·show (w0.heap.push _)[w0.heap.size]?=_
        simp[wN]
       ·simp only;rw[aq bK];exact qo
      have sY:=uI.trans jf
      have k_:=sY.mono hh
      obtain⟨dd,oC,gw⟩:=bR gv [.yield bU.n] _ x eI hc _ _ (a.eval g) [.func (.yield w0.heap.size) #[] #[]] jf.hr (VR.mono k_ _ _ hG) (fM.2 ⟨_,[],rfl,⟨⟨w0.heap.size,0,0⟩,by simp,rfl⟩,by simp[aP]⟩)
      rcases gw with⟨_,f,args,hinv,D5⟩|⟨Zd,_⟩
      ·refine⟨w0.heap.size,mark,_,dd,_,f,args,_,hent,?_,fun _ _=>trivial,hinv,fun hx=>by simp[Fence.wide]at hx,?_⟩
       ·have e0:(#[Operand.const (.func (.yield w0.heap.size) #[] #[])]).map a.eval=(⟨[.func (.yield w0.heap.size) #[] #[]]⟩:Array Value):=by simp[Act.eval]
        simp only[resolve,e0]
        exact oC
       ·refine CallsIn.mono (F:=Fence.wide) D5 fun e w3 he=>?_
        cases e with
        |panicked _=>exact he.elim
        |outgrown=>exact he.elim
        |returned y=>
         obtain⟨μ2,RX,_,mi⟩:=he
         have pW:μ2 bU.n=some ⟨w0.heap.size,0,0⟩:=mi.mono jf.hr _ _ (by simp)
         obtain⟨rec,m1,m2,m3,m4⟩:=bA.loop (R':={R with st:=.exhausted}) mi.hr pW Il rfl rfl rfl rfl rfl rfl
         have eF:=run_endLoop (P:=P) m1 (by rw[m2];exact Ja)
         have Ze:=(sY.trans mi).trans m4
         have SK:({rec with state:=.exhausted,pending:=R.ik.bind xy}:Loop)={rec with state:=.exhausted}:=by rw[<-m3]
         rw[SK]at Ze
         have wL:kr μ2 {fr with marks:=mk++fr.marks} {a with defers:=mark++a.defers}:=by
          refine⟨(hf.1.mono k_).mono (mi.mono jf.hr),?_⟩
          exact((xN _ _ (hf.2.mono sS)).mono (jf.mono uI.hr)).mono (mi.mono jf.hr)
         have fin:rm P μ w st (match R.ik with|none=>.normal|some e=>e) {fr with marks:=mk++fr.marks} (eI.write bU.n (.loop {R with st:=.exhausted})) (Gi (match R.ik with|none=>.normal|some e=>e)) {a with defers:=mark++a.defers} _:=⟨rfl,μ2,_,Ze,wL⟩
         exact⟨R.ik.bind xy,_,by rw[<-m3];exact eF,Yj0 R.ik fin⟩
      ·rw[sZ]at Zd;cases Zd
     cases ro with
     |none=>
      cases lb with
      |some _=>exact kR.elim
      |none=>
       simp only[Se,ak,bh]at iH
       obtain⟨rfl,rfl,rfl⟩:=iH
       have SL:bA P μ w st (fun i=>if i=st.n then some ⟨w.heap.size,0,0⟩ else μ i) (w.alloc (.deferred (some []))) (st.alloc (.defs true)) []:=
        bA.alloc hh (.defs true) (.deferred (some [])) 0 0 (by simp only[OM];show (w.heap.push _)[w.heap.size]?=_;simp)
       refine common (w.heap.size+1) [{target:=.collected w.heap.size,args:=#[]}] (w.alloc (.deferred (some []))) _ [] w.heap.size SL (by simp) ⟨⟨w.heap.size,0,0⟩,by simp,rfl⟩ (run_enterLoop_outer ..) fun ms ds hd=>⟨⟨w.heap.size,0,0⟩,ds,by simp,rfl,hd⟩
     |some l0=>
      cases lb with
      |none=>exact kR.elim
      |some b=>
       obtain⟨L0,rJ,rfl⟩:=kR
       simp only[Se]at iH
       split at iH
       ·rename_i R0 AD
        simp only[ak,bh]at iH
        obtain⟨rfl,rfl,rfl⟩:=iH
        obtain⟨fn0,Zf,zap,zaq,Zg,g1,g2,g3,g4,g5⟩:=hh.get rJ AD
        refine common w.heap.size [] w μ [] Zg.b (bA.refl hh) rfl ⟨Zg,g5,rfl⟩ ?_ (fun ms ds hd=>hd)
        show (Instr.enterLoop fn a.tmps ps fw fx (some L0.b)).run P w=_
        unfold Instr.enterLoop
        simp only[Sem.run_bind,run_getLoop g1,run_newObj_alloc,Result.andThen,Sem.run_pure]
       ·cases iH
    ·cases h
end
open Go Go.Conc
section
variable {P:Program} {μ:Mu} {w:World} {st ax:St} {fr bB:Fr} {a:Act} {call:cH} {v:V} {lb:Option Nat}
def Ydy{o:Oper}{d:Option Nat}{ch:Src}{s:Option Src}{z:V}(h:M3 P o=some (d,ch,s,z)):
  ∃c,o.op=.select #[c] false/\o.guard=none/\o.dst=d/\bk P c.chan=some ch/\p9 P c.send=some s/\nv P c.elem=some z:=by
 unfold M3 at h
 split at h
 ·rename_i cs vJ hg
  split at h
  ·rename_i c rk
   split at h
   ·rename_i ch' s' z' h1 h2 h3
    simp only[ak,bh]at h
    obtain⟨rfl,rfl,rfl,rfl⟩:=h
    have:=vK rk
    subst this
    exact⟨c,vJ,hg,rfl,h1,h2,h3⟩
   ·cases h
  ·cases h
 ·cases h
def Nv{b:Frame}{ops:Array Oper}{i:Nat}{rest:List Nat}{k:List Item}{cs:List Frame}{o:Oper}{cases:Array CommCase}(ho:ops[i]?=some o)(hg:o.guard=none)(zC:∀c,o.op≠.defer c)
  (bH:(execOp a.eval o).run P w=.ok (.comm cases false .select) w):
  ∃es,stepG P true (G (b.atR a (.inRegion ops (i::rest)::k)) cs) w=.comm (G (b.atR a (.inRegion ops (i::rest)::k)) cs) cases false .select w es:=by
 have hw:Region.wanted o (yielded ops a.tmps)=true:=by simp[Region.wanted,hg]
 have h:=stepGR_op (P:=P) (b:=b) (a:=a) (k:=k) (cs:=cs) (w:=w) (rest:=rest) ho hw
 have xX:((o.semAt b.roundOf a.eval).runT P w #[]).1=.ok (.comm cases false .select) w:=by
  rw[Sem.runT_fst,Oper.semAt_eq _ _ _ zC];exact bH
 unfold G
 rw[h]
 unfold stepG.apply
 generalize hr:(o.semAt b.roundOf a.eval).runT P w #[]=r at xX
 obtain⟨r1,r2⟩:=r
 simp only at xX
 subst xX
 exact⟨_,rfl⟩
def Zs6{o:Oper}{c:SelectCase}(vJ:o.op=.select #[c] false){zx:Value}(hz:(zeroValue c.elem).run P w=.ok zx w):
  (execOp a.eval o).run P w=.ok (.comm #[{chan:=a.eval c.chan,send:=c.send.map a.eval,zero:=zx}] false .select) w:=by
 unfold execOp
 rw[vJ]
 simp[hz,Result.andThen]
def Zh(bR:iO P call)(hE:rn P):Ys P call:=by
 intro id ops o rest d ch s z fr st ex bB ax Ed SM h μ w a lb hh hf
 obtain⟨c,vJ,hg,rfl,h1,h2,h3⟩:=Ydy SM
 have ho:ops[0]?=some o:=by rw[<-xz,Ed];rfl
 have zC:∀c',o.op≠.defer c':=fun c' hc=>by rw[vJ]at hc;cases hc
 have kh:o.about P w a.eval=none:=by unfold Oper.about;rw[vJ]
 have jc:ops.size=rest.length+1:=by rw[<-Array.length_toList,Ed];rfl
 obtain⟨zx,Af,wO⟩:=Zi (w:=w) h3
 have j9:=Zs6 (a:=a) vJ Af
 unfold xq at h
 split at h
 ·rename_i i sv Jb SN
  obtain⟨l,hl,e1⟩:=cE hh hf.1 h1 Jb
  rw[e1]at j9
  have qB:=Zj hh hf.1 h2 SN
  split at h
  ·rename_i v1 bU hv
   split at h
   ·rename_i dE SO
    split at h
    ·rename_i wo eI hm
     simp only[ak,bh]at h
     obtain⟨rfl,rfl,rfl⟩:=h
     have key:∃x w1 μ1 ws,VR μ1 v1 x/\bA P μ w st μ1 w1 bU ws/\∀(b:Frame) (k:List Item) (cs:List Frame) (is:List Nat),
       step P (lone (b.atR a (.inRegion ops (0::is)::k)) cs w)=.next (lone ((b.atR a (.inRegion ops (0::is)::k)).finish x) cs w1):=by
      unfold Nj at hv
      split at hv
      ·-- a send
       rename_i cap buf u xl
       obtain⟨u',x',mR,nz,hvr⟩:=qB.resolve_left (by rintro⟨hq,_⟩;cases hq)
       simp only[ak]at mR
       subst mR
       rw[nz]at j9
       obtain⟨pe,s',r',q1,q2⟩:=hh.get hl xl
       have Zk:=q2.length
       split at hv
       ·rename_i Jc
        simp only[ak,bh]at hv
        obtain⟨rfl,rfl⟩:=hv
        refine⟨.tuple #[goInt 0,.bool false],w.setChan l.b cap ((⟨pe⟩:Array Value).push (a.eval x')) false (s'+1) r' false,μ,[i],?_,?_,fun b k cs is=>?_⟩
        rotate_left 2
        ·obtain⟨es,dR⟩:=Nv (b:=b) (k:=k) (cs:=cs) (rest:=is) ho hg zC j9
         exact step_lone_select_send_room dR q1 (by simp;omega)
        ·exact⟨_,rfl,by simp[aP,VR,goInt]⟩
        ·refine bA.write hh hl xl rfl rfl rfl rfl (by simp[size_setChan]) (fun b hb=>?_) ⟨pe++[a.eval x'],s'+1,r',?_,q2.append (fM.2 ⟨_,[],rfl,hvr,by simp[aP]⟩)⟩
         ·simp only[World.setChan];rw[Gw (Ne.symm hb)]
         ·rw[heap_setChan _ _ _ _ _ _ _ _ (hh.cU i l hl).2];simp
       ·rename_i Jc
        simp only[ak,bh]at hv
        obtain⟨rfl,rfl⟩:=hv
        refine⟨.tuple #[goInt (-1),.bool false],w,μ,[],?_,bA.refl hh,fun b k cs is=>?_⟩
        rotate_left
        ·obtain⟨es,dR⟩:=Nv (b:=b) (k:=k) (cs:=cs) (rest:=is) ho hg zC j9
         exact step_lone_select_send_full dR q1 (by simp;omega)
        ·exact⟨_,rfl,by simp[aP,VR,goInt]⟩
      ·-- a receive
       rename_i cap u buf xl
       rcases qB with⟨_,nz⟩|⟨_,_,hq,_⟩
       ·rw[nz]at j9
        obtain⟨pe,s',r',q1,q2⟩:=hh.get hl xl
        obtain⟨y,ys,rfl,g1,g2⟩:=fM.1 q2
        simp only[ak,bh]at hv
        obtain⟨rfl,rfl⟩:=hv
        refine⟨.tuple #[goInt 0,.bool true,(⟨y::ys⟩:Array Value).getD 0 undef],w.setChan l.b cap ((⟨y::ys⟩:Array Value).extract 1 (⟨y::ys⟩:Array Value).size) false s' (r'+1) false,μ,[i],?_,?_,fun b k cs is=>?_⟩
        rotate_left 2
        ·obtain⟨es,dR⟩:=Nv (b:=b) (k:=k) (cs:=cs) (rest:=is) ho hg zC j9
         exact step_lone_select_recv_buf dR q1 (by simp)
        ·exact⟨_,rfl,fM.2 ⟨_,_,rfl,by simp[VR,goInt],fM.2 ⟨_,_,rfl,by simp[VR],fM.2 ⟨_,_,rfl,by simpa using g1,by simp[aP]⟩⟩⟩⟩
        ·refine bA.write hh hl xl rfl rfl rfl rfl (by simp[size_setChan]) (fun b hb=>?_) ⟨ys,s',r'+1,?_,g2⟩
         ·simp only[World.setChan];rw[Gw (Ne.symm hb)]
         ·rw[heap_setChan _ _ _ _ _ _ _ _ (hh.cU i l hl).2]
          congr 2
          apply xD
          simp
       ·cases hq
      ·rename_i cap xl
       rcases qB with⟨_,nz⟩|⟨_,_,hq,_⟩
       ·rw[nz]at j9
        obtain⟨pe,s',r',q1,q2⟩:=hh.get hl xl
        simp only[aP]at q2;subst q2
        simp only[ak,bh]at hv
        obtain⟨rfl,rfl⟩:=hv
        refine⟨.tuple #[goInt (-1),.bool false,zx],w,μ,[],?_,bA.refl hh,fun b k cs is=>?_⟩
        rotate_left
        ·obtain⟨es,dR⟩:=Nv (b:=b) (k:=k) (cs:=cs) (rest:=is) ho hg zC j9
         exact step_lone_select_default dR q1
        ·exact⟨_,rfl,fM.2 ⟨_,_,rfl,by simp[VR,goInt],fM.2 ⟨_,_,rfl,by simp[VR],fM.2 ⟨_,_,rfl,wO μ,by simp[aP]⟩⟩⟩⟩
       ·cases hq
      ·cases hv
     obtain⟨x,w1,μ1,ws,hx,sY,dR⟩:=key
     have k_:=sY.mono hh
     have vj:kr μ1 dE (a.put o.dst x):=(hf.mono k_).put hx SO
     have Jd:List.range ops.size=0::(List.range rest.length).map (·+1):=by
      rw[jc,List.range_succ_eq_map]
     have SP:((List.range rest.length).map (·+1)).map (fun i=>ops[i]?)=rest.map some:=by
      apply nX
      intro j
      simp only[List.map_map,ko]
      by_cases hj:j<rest.length
      ·have:ops[j+1]?=rest[j]?:=by rw[<-xz,Ed];rfl
       simp[hj,this]
      ·simp[hj]
     have SQ:=Yo (lb:=lb) (Q:=rm P μ w st .normal wo eI) bR hE _ _ SP sY.hr vj hm (fun a' w' μ' Ix q1 q2=>⟨rfl,μ',_,sY.trans q2,q1⟩)
     intro b k cs kR hb hr
     obtain⟨e,a',w',q,gb⟩:=wp_opsIn _ _ _ SQ b k cs kR hb hr
     refine⟨e,a',w',q,.of_steps (.one (fenced_calm hb hr rfl) stepR_region) ?_⟩
     rw[Jd]
     refine .of_steps (.one (fenced_oper hb hr ho fun f hf=>by rw[kh]at hf;cases hf) (dR b k cs _)) ?_
     rw[Frame.finish_atR,ho]
     exact gb
    ·cases h
   ·cases h
  ·cases h
 ·cases h
end
end Go.Mx
