/-The machine M's runs stand for the Go mo-/
import Derived.Test.YtlbnjhhebffhdaaGreatDoorMxOps
import Derived.Conc.LoneSelect
set_option linter.all false
namespace Go.Mx
open Go
section
variable {P:Program} {μ:Mu} {w:World} {st st':St} {fr bL:Fr} {a:Act} {call:cP} {v:V} {lb:Option Nat}
def Zng:∀(vs:List V) (r:T V) (i t:Nat),(xY r i vs).get t=if i<=t/\t<i+vs.length then vs[t-i]? else r.get t
 |[],r,i,t=>by simp[xY];omega
 |v::vs,r,i,t=>by
  simp only[xY]
  rw[Zng vs (r.set i v) (i+1) t,T.al]
  by_cases h:t=i
  ·subst h
   rw[aA (by omega),aR rfl,aR (by simp)];simp
  ·by_cases h2:i+1<=t/\t<i+1+vs.length
   ·rw[aR h2,aR (by simp;omega)]
    rw[show t-i=(t-(i+1))+1 by omega];simp
   ·rw[aA h2,aA h,aA (by simp;omega)]
def Yi7{vs:List V}{xs:List Value}{n:Nat}(h:bf μ vs xs)(hl:vs.length<=n):RR μ (xY .nil 0 vs) n ((⟨xs⟩:Array Value)++Array.replicate (n-(⟨xs⟩:Array Value).size) undef):=by
 have Cs:=h.length
 refine⟨by simp;omega,fun t v hv=>?_⟩
 rw[Zng]at hv
 split at hv
 ·rename_i ht
  simp only[Nat.sub_zero]at hv
  obtain⟨x,hx,hr⟩:=h.get hv
  refine⟨x,?_,hr⟩
  rw[Array.getElem?_append_left (by simp;omega)]
  simpa using hx
 ·simp[T.get]at hv
def TD(tmps:Array Value):ResultVar->Sem Value
 |.tmp t=>pure (tmps.getD t undef)
 |.cell a t=>do loadVar t (<-asAddr (tmps.getD a undef))
def Zum(hh:Za9 P μ w st){r:T V}{n:Nat}{tmps:Array Value}(hr:RR μ r n tmps):∀{rs:List ResultVar} {ms:List Iw},Dx P rs=some ms->∀{vs:List V},gJ r st ms=some vs->
  ∃xs,(rs.mapM (TD tmps)).run P w=.ok xs w/\bf μ vs xs
 |[],ms,hc,vs,hv=>by
  simp only[Dx,au]at hc;subst hc
  simp only[gJ,au]at hv;subst hv
  exact⟨[],by simp,by simp[bf]⟩
 |.tmp t::rs,ms,hc,vs,hv=>by
  simp only[Dx,Ywc]at hc
  obtain⟨ms',Jp,rfl⟩:=hc
  simp only[gJ]at hv
  split at hv
  ·rename_i u us hu uI
   simp only[au]at hv;subst hv
   obtain⟨xs,h1,h2⟩:=Zum hh hr Jp uI
   obtain⟨x,hx,Bb⟩:=hr.2 _ _ hu
   refine⟨x::xs,?_,Zau.2 ⟨_,_,rfl,Bb,h2⟩⟩
   simp only[List.mapM_cons,TD,Sem.run_bind,Sem.run_pure,Result.andThen_ok,h1]
   simp[IA,hx]
  ·cases hv
 |.cell t ty::rs,ms,hc,vs,hv=>by
  simp only[Dx]at hc
  split at hc
  ·rename_i k ms' hk Jp
   simp only[au]at hc;subst hc
   simp only[gJ]at hv
   split at hv
   ·rename_i i o us hu uI
    split at hv
    ·rename_i c e yL zgc
     split at hv
     ·rename_i u fe
      simp only[au]at hv;subst hv
      obtain⟨xs,h1,h2⟩:=Zum hh hr Jp uI
      obtain⟨x,hx,l,hl,rfl⟩:=hr.2 _ _ hu
      have tH:=hh.row hl zgc
      have vW:∃y,(loadVar ty ⟨l.b,l.d+o,none⟩).run P w=.ok y w/\VR μ u y:=by
       cases k with
       |none=>
        simp only[aI]at fe
        obtain⟨y,hy,hv⟩:=tH.cell fe
        exact⟨y,by simp[loadVar,Zox hk,Result.andThen,hy],hv⟩
       |some k=>
        simp only[aI]at fe
        split at fe
        ·rename_i q hq
         simp only[au]at fe;subst fe
         obtain⟨ys,g1,_,g3,_⟩:=tH.seg hq
         exact⟨.agg ys.toArray,by simp[loadVar,(Mg hk).1,(Mg hk).2,Result.andThen,g3],ys,rfl,g1⟩
        ·cases fe
      obtain⟨y,rN,vX⟩:=vW
      refine⟨y::xs,?_,Zau.2 ⟨_,_,rfl,vX,h2⟩⟩
      have oA:tmps.getD t undef=.pointer (some ⟨l.b,l.d+o,none⟩):=by simp[IA,hx]
      have zea:(asAddr (tmps.getD t undef)).run P w=.ok ⟨l.b,l.d+o,none⟩ w:=by rw[oA];rfl
      simp only[List.mapM_cons,TD,Sem.run_bind,zea,Sem.run_pure,Result.andThen_ok,rN,h1]
     ·cases hv
    ·cases hv
   ·cases hv
  ·cases hc
def Zul(hh:Za9 P μ w st){r:T V}{n:Nat}{tmps:Array Value}(hr:RR μ r n tmps){fn:Func}{ms:List Iw}(hc:Dx P fn.results.toList=some ms){vs:List V}(hv:gJ r st ms=some vs):
  ∃x,(results fn tmps).run P w=.ok x w/\VR μ (DS vs) x:=by
 obtain⟨xs,h1,h2⟩:=Zum hh hr hc hv
 have hl:=h2.length
 refine⟨if h:xs.length=1 then xs[0] else .tuple ⟨xs⟩,?_,?_⟩
 ·show (do let vs <-fn.results.mapM (TD tmps);pure (if h:vs.size=1 then vs[0] else .tuple vs):Sem Value).run P w=_
  rw[Array.mapM_eq_mapM_toList]
  simp only[Sem.run_bind,Sem.run_map,h1,Result.andThen_ok,Sem.run_pure]
  rfl
 ·rcases vs with _|⟨u,_|⟨u',vs⟩⟩
  ·simp only[bf]at h2;subst h2
   exact⟨[],rfl,by simp[bf]⟩
  ·obtain⟨y,ys,rfl,g1,g2⟩:=Zau.1 h2
   simp only[bf]at g2;subst g2
   exact g1
  ·rw[dif_neg (by rw[hl];simp)]
   exact⟨xs,rfl,h2⟩
def Zws{fn:Func}{tmps:Array Value}{R:Ending->World->Prop}:∀{ms:List Nat} {ds:List Deferred} {st fh:St} {w:World},Za9 P μ w st->oP μ ms ds->shut st ms=some fh->
  (∀w' ws,bK P μ w st μ w' fh ws->∃v,(results fn tmps).run P w'=.ok v w'/\R (.returned v) w')->LeavesInM Fence.wide 0 P fn tmps R ds .returning w
 |[],ds,st,fh,w,hh,hd,hs,hR=>by
  simp only[oP]at hd;subst hd
  simp only[shut,au]at hs;subst hs
  exact hR w [] (bK.refl hh)
 |m::ms,ds,st,fh,w,hh,hd,hs,hR=>by
  obtain⟨l,D7,h1,rfl,h3⟩:=hd
  simp only[shut]at hs
  split at hs
  ·rename_i hg
   have tH:=hh.get h1 hg
   have OD:bK P μ w st μ (w.putObj l.b (.deferred none)) (st.write m (.defs false)) [m]:=
    bK.write hh h1 hg rfl rfl rfl rfl (World.putObj_size) (fun b hb=>World.putObj_heap_other hb) (World.putObj_heap_same (hh.dom m l h1).2)
   refine⟨by simp,.inl ⟨l.b,_,rfl,run_takeDeferred tH,?_⟩⟩
   exact Zws OD.hr h3 hs fun w' ws gg=>hR w' _ (OD.trans gg)
  ·cases hs
def bK.fold{μ':Mu}{w':World}{ws:List Nat}(h0:Za9 P μ w st)(h:bK P μ w {st with w:=[]} μ' w' st' ws):bK P μ w st μ' w' {st' with w:=aL st.n st'.w++st.w} (aL st.n st'.w):=by
 have Cn:∀(l:List Nat) (i:Nat),i<st.n->(i∈aL st.n l↔i∈l):=by
  intro l i hi
  induction l with
  |nil=>simp[aL]
  |cons j l ih=>
   simp only[aL]
   split
   ·unfold xe
    split
    ·rename_i hc
     simp only[kV,ih]
     simp only[Tc]at hc
     constructor
     ·exact .inr
     ·rintro(rfl|h)
      ·exact ih.1 hc
      ·exact h
    ·simp only[kV,ih]
   ·simp only[kV,ih]
    constructor
    ·exact .inr
    ·rintro(rfl|h)
     ·omega
     ·exact h
 have hwl:st'.w=ws:=by have:=h.wl;simpa using this
 have hs:∀i,i<st.n->(i∈aL st.n st'.w↔i∈ws):=fun i hi=>by rw[Cn _ i hi,hwl]
 exact {
  hr:=⟨h.hr.dom,h.hr.obj,h.hr.inj,h.hr.zgj⟩
  ext:=h.ext
  gW:=h.gW
  wl:=rfl
  eC:=⟨h.eC.os,h.eC.tape,h.eC.output,h.eC.size,fun b hb dC=>h.eC.block b hb fun i hi l hl=>dC i ((hs i (h0.dom i l hl).1).2 hi) l hl⟩
  new:=fun i l hi hl=>by
   rcases h.new i l hi hl with h'|⟨j,hj,Iy,r⟩
   ·exact .inl h'
   ·exact .inr ⟨j,(hs j Iy).2 hj,Iy,r⟩
  ai:=fun i hi dC=>h.ai i hi fun hc=>dC ((hs i hi).2 hc)
  grow:=h.grow
  full:=h.full
  xQ:=fun i hi hn=>h.xQ i ((hs i hn).1 hi) hn}
def Za9.now(h:Za9 P μ w st)(l:List Nat):Za9 P μ w {st with w:=l}:=⟨h.dom,h.obj,h.inj,h.zgj⟩
def Ye5{code:ph}(nK:Md P code){f:FuncId}{fn:Func}{mf:kp}(hf:P.funcs[f]?=some fn)(hc:xC P f=some mf){args:List V}{xs:List Value}(hh:Za9 P μ w st)(hx:bf μ args xs)
  (h:B7 mf code args st=some (v,st')):CallsIn Fence.wide 0 P f ⟨xs⟩ w (Ji fun x w'=>∃μ' ws,VR μ' v x/\bK P μ w st μ' w' st' ws):=by
 unfold xC at hc
 rw[hf]at hc
 simp only at hc
 split at hc
 ·rename_i c rs hb hrs
  simp only[au]at hc;subst hc
  unfold B7 at h
  split at h
  ·cases h
  ·rename_i hle
   simp only at hle h
   have fin:∀(ex:Ex) (dP:Fr) (cj:St),(ex=.normal\/ex=.ret)->code none (iB P c) {r:=xY .nil 0 args,n:=fn.ntmps,marks:=[]} {st with w:=[]}=some (ex,dP,cj)->
     (match shut cj dP.marks with
      |none=>none
      |some fh=>match gJ dP.r fh rs with
       |some vs=>some (DS vs,{fh with w:=aL st.n fh.w++st.w})
       |none=>none)=some (v,st')->
     CallsIn Fence.wide 0 P f ⟨xs⟩ w (Ji fun x w'=>∃μ' ws,VR μ' v x/\bK P μ w st μ' w' st' ws):=by
    intro ex dP cj hex bQ e_
    split at e_
    ·cases e_
    ·rename_i fh OE
     split at e_
     ·rename_i vs Jq
      simp only[au,bE]at e_
      obtain⟨rfl,rfl⟩:=e_
      refine callsIn_of_wp_marks hf hb trivial (wpIn_mono (nK none c _ _ _ _ _ bQ μ w _ none (hh.now []) ⟨Yi7 hx (vD hle),rfl⟩ trivial) fun e a' w' hp=>?_)
      obtain⟨rfl,μ1,ws,hs,hf1⟩:=hp
      have hl:LeavesInM Fence.wide 0 P fn a'.tmps (Ji fun x w'=>∃μ' ws,VR μ' (DS vs) x/\bK P μ w st μ' w' {fh with w:=aL st.n fh.w++st.w} ws) a'.defers .returning w':=by
       refine Zws hs.hr hf1.2 OE fun w2 ws2 hs2=>?_
       obtain⟨x,zK,Mh⟩:=Zul hs2.hr hf1.1 hrs Jq
       exact⟨x,zK,μ1,_,Mh,(hs.trans hs2).fold hh⟩
      rcases hex with rfl|rfl
      ·exact hl
      ·exact hl
     ·cases e_
   unfold Zvn at h
   split at h
   ·cases h
   ·rename_i ex dP cj cv bQ
    exact fin ex dP cj (by cases ex with|normal=>exact .inl rfl|ret=>exact .inr rfl|exit id=>exact(cv id rfl).elim) (by assumption) h
   ·cases h
 ·cases hc
def Zpi:∀{ps:List Nat} {vs:List V} {r r':T V} {n:Nat} {tmps:Array Value} {xs:List Value},RR μ r n tmps->bf μ vs xs->I7 r n ps vs=some r'->
  xs.length=ps.length/\RR μ r' n ((ps.zip xs).foldl (fun (tmps:Array Value) (p:Nat×Value)=>tmps.setIfInBounds p.1 p.2) tmps)
 |[],[],r,r',n,tmps,xs,hr,hx,h=>by
  simp only[bf]at hx;subst hx
  simp only[I7,au]at h;subst h
  exact⟨rfl,hr⟩
 |[],_::_,r,r',n,tmps,xs,hr,hx,h=>by simp[I7]at h
 |_::_,[],r,r',n,tmps,xs,hr,hx,h=>by simp[I7]at h
 |p::ps,v::vs,r,r',n,tmps,xs,hr,hx,h=>by
  obtain⟨y,ys,rfl,h1,h2⟩:=Zau.1 hx
  simp only[I7]at h
  split at h
  ·rename_i hp
   obtain⟨g1,g2⟩:=Zpi (hr.set hp h1) h2 h
   exact⟨by simp[g1],by simpa using g2⟩
  ·cases h
def Yaz(e:Ex):((Zev e).bind zb).isNone=(Zev e).isNone:=by cases e<;>rfl
def bK.loop(hh:Za9 P μ w st){i:Nat}{l:L}(hl:μ i=some l){R R':Yrr}(hg:st.h.get i=some (.loop R))(h1:R'.r=R.r)(h2:R'.n=R.n)(h3:R'.ps=R.ps)(h4:R'.assign=R.assign)(h5:R'.body=R.body)(h6:R'.defs=R.defs):
  ∃rec,w.heap[l.b]?=some (.loop rec)/\rec.state=R.st/\rec.pending=R.iD.bind zb/\
   bK P μ w st μ (w.putObj l.b (.loop {rec with state:=R'.st,pending:=R'.iD.bind zb})) (st.write i (.loop R')) [i]:=by
 obtain⟨fn,tmps,fL,bod,ld,g1,g2,g3,g4,g5⟩:=hh.get hl hg
 refine⟨_,g1,rfl,rfl,bK.write hh hl hg rfl rfl rfl rfl World.putObj_size (fun b hb=>World.putObj_heap_other hb) ⟨fn,tmps,fL,bod,ld,?_,?_,?_,?_,?_⟩⟩
 ·rw[World.putObj_heap_same (hh.dom i l hl).2,h3]
 ·rw[h1,h2];exact g2
 ·rw[h4];exact g3
 ·rw[h5];exact g4
 ·rw[h6];exact g5
def Yhr{code:ph}(nK:Md P code){l:Nat}{args:List V}{xs:List Value}{L0:L}(hh:Za9 P μ w st)(hl:μ l=some L0)(hx:bf μ args xs)(h:I8 code l args st=some (v,st')):
  ∃f tmps fL bod,(Instr.yield L0.b ⟨xs⟩).run P w=.ok (.round L0.b f tmps fL bod) w/\RoundIn Fence.wide 0 P L0.b f tmps fL bod w (Ji fun x w'=>∃μ' ws,VR μ' v x/\bK P μ w st μ' w' st' ws):=by
 unfold I8 at h
 split at h
 ·rename_i R hg
  obtain⟨fn,tmps,fL,bod,ld,g1,g2,g3,g4,g5⟩:=hh.get hl hg
  split at h
  ·cases h
  ·rename_i r0 kh
   obtain⟨q1,q2⟩:=Zpi g2 hx kh
   have hy:=run_yield (P:=P) (args:=⟨xs⟩) g1 (by simpa using q1)
   refine⟨_,_,_,_,hy,?_⟩
   have htm:(((⟨R.ps⟩:Array Nat).zip (⟨xs⟩:Array Value)).foldl (fun tmps (p:Nat×Value)=>tmps.setIfInBounds p.1 p.2) tmps)=(R.ps.zip xs).foldl (fun (tmps:Array Value) (p:Nat×Value)=>tmps.setIfInBounds p.1 p.2) tmps:=by simp
   refine roundIn_of_wpIn (F:=Fence.wide) trivial ?_
   split at h
   ·rename_i dP cj Ea
    rw[<-g3]at Ea
    refine wpIn_mono (nK (some l) fL _ _ _ _ _ Ea μ w {tmps:=(((⟨R.ps⟩:Array Nat).zip (⟨xs⟩:Array Value)).foldl (fun tmps (p:Nat×Value)=>tmps.setIfInBounds p.1 p.2) tmps),defers:=[]} (some L0.b) hh ⟨by rw[htm];exact q2,rfl⟩ ⟨L0,hl,rfl⟩) fun e a1 w1 hp=>?_
    have uH:=hp
    obtain⟨he,μ1,ws1,uK,hf1⟩:=hp
    refine uH.then (fun _=>?_) (fun cv=>absurd rfl cv)
    split at h
    ·rename_i R1 Ct
     split at h
     ·rename_i Jr
      have BA:=uK.mono hh _ _ hl
      obtain⟨OF,k1,k2,k3,k4⟩:=bK.loop (R':={R1 with st:=.busy}) uK.hr BA Ct rfl rfl rfl rfl rfl rfl
      refine⟨_,run_beginRound k1 (k2.trans Jr),?_⟩
      have hw2:({OF with state:=LoopState.busy,pending:=R1.iD.bind zb}:Loop)={OF with state:=.busy}:=by rw[<-k3]
      rw[hw2]at k4
      split at h
      ·rename_i e2 yc fh Eb
       rw[<-g4]at Eb
       refine wpIn_mono (nK (some l) bod _ _ _ _ _ Eb μ1 _ a1 (some L0.b) k4.hr (hf1.mono (k4.mono uK.hr)) ⟨L0,BA,rfl⟩) fun e a2 w2 yb=>?_
       obtain⟨he2,μ2,ws2,hs2,ik⟩:=yb
       split at h
       ·rename_i R2 hg2
        simp only[au,bE]at h
        obtain⟨rfl,rfl⟩:=h
        have oG:=hs2.mono k4.hr _ _ BA
        obtain⟨zeb,m1,m2,m3,m4⟩:=bK.loop (R':={R2 with st:=Oe (Zev e2),iD:=Zev e2}) hs2.hr oG hg2 rfl rfl rfl rfl rfl rfl
        have e_:=run_endRound (P:=P) ((Zev e2).bind zb) m1
        have dM:(if ((Zev e2).bind zb).isNone=true then LoopState.ready else LoopState.done)=Oe (Zev e2):=by cases e2<;>rfl
        rw[dM,Yaz]at e_
        have hR:Ji (fun x w'=>∃μ' ws,VR μ' (.bool (Zev e2).isNone) x/\bK P μ w st μ' w' (fh.write l (.loop {R2 with st:=Oe (Zev e2),iD:=Zev e2})) ws) (.returned (.bool (Zev e2).isNone))
          (w2.putObj L0.b (.loop {zeb with state:=Oe (Zev e2),pending:=(Zev e2).bind zb})):=
         ⟨μ2,_,by simp[VR],((uK.trans k4).trans hs2).trans m4⟩
        subst he2
        cases e2 with
        |normal=>exact⟨_,_,e_,hR⟩
        |exit id=>exact⟨_,_,e_,hR⟩
        |ret=>exact⟨_,_,e_,hR⟩
       ·cases h
      ·cases h
     ·cases h
    ·cases h
   ·cases h
 ·cases h
def Zwe(P:Program)(dL:Nat->Option kp):Prop:=
 ∀f mf,dL f=some mf->xC P f=some mf/\∀fn,P.funcs[f]?=some fn->(fn.name== "runtime.NumGoroutine")=false
def Zyd{f:FuncId}{mf:kp}(h:xC P f=some mf):∃fn,P.funcs[f]?=some fn/\fn.body.isSome=true:=by
 unfold xC at h
 split at h
 ·rename_i fn hf
  refine⟨fn,hf,?_⟩
  split at h
  ·rename_i hb _;rw[hb];rfl
  ·cases h
 ·cases h
def Zv3{dL:Nat->Option kp}{code:ph}(ht:Zwe P dL)(nK:Md P code):i_ P (xg dL code):=by
 intro g args st v st' h μ w G xs hh hg hx
 unfold xg at h
 split at h
 ·rename_i f first f_
  split at h
  ·rename_i mf hmf
   obtain⟨a',c',rfl,h1,h2⟩:=hg
   obtain⟨hc,OG⟩:=ht f mf hmf
   obtain⟨fn,hf,hb⟩:=Zyd hc
   refine⟨{target:=.fn (.func f) ⟨c'⟩,args:=⟨a'⟩++⟨xs⟩},by simp[Deferred.ofValue],.inl ⟨rfl,f,⟨a'++xs++c'⟩,?_,?_⟩⟩
   ·have hn:fn.name≠ "runtime.NumGoroutine" :=by simpa using OG fn hf
    simp[invoke,callFunc,hf,hn]
    intro hq
    rw[hq]at hb
    cases hb
   ·exact Ye5 nK hf hc hh ((h1.append hx).append h2) h
  ·cases h
 ·rename_i l
  obtain⟨L0,hl,rfl⟩:=hg
  obtain⟨f,tmps,fL,bod,q1,q2⟩:=Yhr nK hh hl hx h
  refine⟨{target:=.fn (.yield L0.b) #[],args:=⟨xs⟩},by simp[Deferred.ofValue],.inr ⟨rfl,L0.b,f,tmps,fL,bod,?_,q2⟩⟩
  simp[invoke,q1]
 ·cases h
def Yms{a2:Act}{w4:World}{yc:Fr}{stf:St}:∀(q:Option Ex),tG P μ w st (match q with|none=>.normal|some e=>e) yc stf (Ma (match q with|none=>.normal|some e=>e)) a2 w4->
  (match q.bind zb with
   |none=>tG P μ w st (match q with|none=>.normal|some e=>e) yc stf .normal a2 w4
   |some c=>c.wpIn (FE lb) 0 P (tG P μ w st (match q with|none=>.normal|some e=>e) yc stf) a2 w4)
 |none,h=>h
 |some .normal,h=>h
 |some (.exit _),h=>wpIn_exit h
 |some .ret,h=>wpIn_ret h
def Zw2(bY:i_ P call):Ygo P call:=by
 intro ro g s ps fL bod fr st ex bL st' hs h μ w a lb hh hf l8
 unfold B6 at h
 split at h
 ·cases h
 ·rename_i gv hgv
  have hG:=cU hh hf.1 hs hgv
  rw[Lz]at h
  obtain⟨hy,h⟩:=h
  have rO:gv.LQ=false:=by simpa using hy
  split at h
  ·cases h
  ·rename_i cj d mk iS
   split at h
   ·cases h
   ·rename_i x fh hc
    split at h
    ·rename_i R hg2
     rw[Lz]at h
     obtain⟨OH,h⟩:=h
     simp only[au,bE]at h
     obtain⟨rfl,rfl,rfl⟩:=h
     refine wpIn_rangeFunc fun fn _=>?_
     have common:∀(l:Nat) (mark:List Deferred) (w0:World) (μ0:Mu) (ws0:List Nat) (db:Nat),bK P μ w st μ0 w0 cj ws0->l=w0.heap.size->(∃ld,μ0 d=some ld/\ld.b=db)->
       (Instr.enterLoop fn a.tmps ps fL bod (FE lb).round).run P w=.ok (l,mark) (w0.alloc (.loop {state:=.ready,pending:=none,fn,tmps:=a.tmps,params:=ps,assign:=fL,body:=bod,defers:=db}))->
       (∀ms ds,oP μ0 ms ds->oP μ0 (mk++ms) (mark++ds))->
       ∃(l:Nat) (mark:List Deferred) (w₁:World) (d:Deferred) (w₁':World) (f:FuncId) (args:Array Value) (w₂:World),
        (Instr.enterLoop fn a.tmps ps fL bod (FE lb).round).run P w=.ok (l,mark) w₁/\
        (resolve a.eval (rangeCall g l) 0).run P w₁=.ok d w₁'/\
        (∀f',Target.leads P w₁' d.target d.args=some f'->(FE lb).fn f')/\
        (invoke d.target d.args).run P w₁'=.ok (.enter f args) w₂/\
        ((FE lb).depth.isSome=true->1<=0)/\
        CallsIn (FE lb) (0-1) P f args w₂ (rangePost (FE lb) 0 P l (tG P μ w st (match R.iD with|none=>.normal|some e=>e) {fr with marks:=mk++fr.marks} (fh.write cj.n (.loop {R with st:=.exhausted}))) {a with defers:=mark++a.defers}):=by
      intro l mark w0 μ0 ws0 db vY tS hdb hent zA
      subst tS
      obtain⟨ld,rW,yd⟩:=hdb
      have uD:=vY.mono hh
      have cv:d≠cj.n:=fun hc=>by have:=(vY.hr.dom d ld rW).1;omega
      have jq:bK P μ0 w0 cj (fun i=>if i=cj.n then some ⟨w0.heap.size,0,0⟩ else μ0 i) (w0.alloc (.loop {state:=.ready,pending:=none,fn,tmps:=a.tmps,params:=ps,assign:=fL,body:=bod,defers:=db}))
        (cj.alloc (.loop {st:=.ready,iD:=none,r:=fr.r,n:=fr.n,ps:=ps.toList,assign:=iB P fL,body:=iB P bod,defs:=d})) []:=by
       have dE:∀i l,μ0 i=some l->(fun i=>if i=cj.n then some (⟨w0.heap.size,0,0⟩:L) else μ0 i) i=some l:=fun i l hl=>by
        have:=(vY.hr.dom i l hl).1
        simp only
        rw[aA (by omega)];exact hl
       refine bK.alloc vY.hr _ (.loop {state:=.ready,pending:=none,fn,tmps:=a.tmps,params:=ps,assign:=fL,body:=bod,defers:=db}) 0 0 ⟨fn,a.tmps,fL,bod,ld,?_,(hf.1.mono uD).mono dE,rfl,rfl,?_⟩
       ·show (w0.heap.push _)[w0.heap.size]?=_
        simp[yd]
       ·simp only;rw[aA cv];exact rW
      have uK:=vY.trans jq
      have oQ:=uK.mono hh
      obtain⟨dd,pw,gK⟩:=bY gv [.yield cj.n] _ x fh hc _ _ (a.eval g) [.func (.yield w0.heap.size) #[] #[]] jq.hr (VR.mono oQ _ _ hG) (Zau.2 ⟨_,[],rfl,⟨⟨w0.heap.size,0,0⟩,by simp,rfl⟩,by simp[bf]⟩)
      rcases gK with⟨_,f,args,hinv,Jk⟩|⟨hyy,_⟩
      ·refine⟨w0.heap.size,mark,_,dd,_,f,args,_,hent,?_,fun _ _=>trivial,hinv,fun hx=>by simp[Fence.wide]at hx,?_⟩
       ·have e0:(#[Operand.const (.func (.yield w0.heap.size) #[] #[])]).map a.eval=(⟨[.func (.yield w0.heap.size) #[] #[]]⟩:Array Value):=by simp[Act.eval]
        simp only[resolve,e0]
        exact pw
       ·refine CallsIn.mono (F:=Fence.wide) Jk fun e w3 he=>?_
        cases e with
        |panicked _=>exact he.elim
        |outgrown=>exact he.elim
        |returned y=>
         obtain⟨μ2,ws2,_,hs2⟩:=he
         have oG:μ2 cj.n=some ⟨w0.heap.size,0,0⟩:=hs2.mono jq.hr _ _ (by simp)
         obtain⟨rec,m1,m2,m3,m4⟩:=bK.loop (R':={R with st:=.exhausted}) hs2.hr oG hg2 rfl rfl rfl rfl rfl rfl
         have e_:=run_endLoop (P:=P) m1 (by rw[m2];exact OH)
         have hsf:=(uK.trans hs2).trans m4
         have zec:({rec with state:=.exhausted,pending:=R.iD.bind zb}:Loop)={rec with state:=.exhausted}:=by rw[<-m3]
         rw[zec]at hsf
         have ya:FrR μ2 {fr with marks:=mk++fr.marks} {a with defers:=mark++a.defers}:=by
          refine⟨(hf.1.mono oQ).mono (hs2.mono jq.hr),?_⟩
          exact((zA _ _ (hf.2.mono uD)).mono (jq.mono vY.hr)).mono (hs2.mono jq.hr)
         have fin:tG P μ w st (match R.iD with|none=>.normal|some e=>e) {fr with marks:=mk++fr.marks} (fh.write cj.n (.loop {R with st:=.exhausted})) (Ma (match R.iD with|none=>.normal|some e=>e)) {a with defers:=mark++a.defers} _:=⟨rfl,μ2,_,hsf,ya⟩
         exact⟨R.iD.bind zb,_,by rw[<-m3];exact e_,Yms R.iD fin⟩
      ·rw[rO]at hyy;cases hyy
     cases ro with
     |none=>
      cases lb with
      |some _=>exact l8.elim
      |none=>
       simp only[Zuk,au,bE]at iS
       obtain⟨rfl,rfl,rfl⟩:=iS
       have zed:bK P μ w st (fun i=>if i=st.n then some ⟨w.heap.size,0,0⟩ else μ i) (w.alloc (.deferred (some []))) (st.alloc (.defs true)) []:=
        bK.alloc hh (.defs true) (.deferred (some [])) 0 0 (by simp only[OM];show (w.heap.push _)[w.heap.size]?=_;simp)
       refine common (w.heap.size+1) [{target:=.collected w.heap.size,args:=#[]}] (w.alloc (.deferred (some []))) _ [] w.heap.size zed (by simp) ⟨⟨w.heap.size,0,0⟩,by simp,rfl⟩ (run_enterLoop_outer ..) fun ms ds hd=>⟨⟨w.heap.size,0,0⟩,ds,by simp,rfl,hd⟩
     |some l0=>
      cases lb with
      |none=>exact l8.elim
      |some b=>
       obtain⟨L0,tS,rfl⟩:=l8
       simp only[Zuk]at iS
       split at iS
       ·rename_i R0 Cj
        simp only[au,bE]at iS
        obtain⟨rfl,rfl,rfl⟩:=iS
        obtain⟨fn0,zfp,zfG,zfH,ld0,g1,g2,g3,g4,g5⟩:=hh.get tS Cj
        refine common w.heap.size [] w μ [] ld0.b (bK.refl hh) rfl ⟨ld0,g5,rfl⟩ ?_ (fun ms ds hd=>hd)
        show (Instr.enterLoop fn a.tmps ps fL bod (some L0.b)).run P w=_
        unfold Instr.enterLoop
        simp only[Sem.run_bind,run_getLoop g1,run_newObj_alloc,Result.andThen,Sem.run_pure]
       ·cases iS
    ·cases h
end
open Go Go.Conc
section
variable {P:Program} {μ:Mu} {w:World} {st st':St} {fr bL:Fr} {a:Act} {call:cP} {v:V} {lb:Option Nat}
def Yga{o:Oper}{d:Option Nat}{ch:Src}{s:Option Src}{z:V}(h:S7 P o=some (d,ch,s,z)):
  ∃c,o.op=.select #[c] false/\o.guard=none/\o.dst=d/\bG P c.chan=some ch/\rJ P c.send=some s/\oo P c.elem=some z:=by
 unfold S7 at h
 split at h
 ·rename_i cs xl hg
  split at h
  ·rename_i c sX
   split at h
   ·rename_i ch' s' z' h1 h2 h3
    simp only[au,bE]at h
    obtain⟨rfl,rfl,rfl,rfl⟩:=h
    have:=xj sX
    subst this
    exact⟨c,xl,hg,rfl,h1,h2,h3⟩
   ·cases h
  ·cases h
 ·cases h
def TE{b:Frame}{ops:Array Oper}{i:Nat}{rest:List Nat}{k:List Item}{cs:List Frame}{o:Oper}{cases:Array CommCase}(ho:ops[i]?=some o)(hg:o.guard=none)(Ba:∀c,o.op≠.defer c)
  (bQ:(execOp a.eval o).run P w=.ok (.comm cases false .select) w):
  ∃es,stepG P true (G (b.atR a (.inRegion ops (i::rest)::k)) cs) w=.comm (G (b.atR a (.inRegion ops (i::rest)::k)) cs) cases false .select w es:=by
 have hw:Region.wanted o (yielded ops a.tmps)=true:=by simp[Region.wanted,hg]
 have h:=stepGR_op (P:=P) (b:=b) (a:=a) (k:=k) (cs:=cs) (w:=w) (rest:=rest) ho hw
 have ziT:((o.semAt b.roundOf a.eval).runT P w #[]).1=.ok (.comm cases false .select) w:=by
  rw[Sem.runT_fst,Oper.semAt_eq _ _ _ Ba];exact bQ
 unfold G
 rw[h]
 unfold stepG.apply
 generalize hr:(o.semAt b.roundOf a.eval).runT P w #[]=r at ziT
 obtain⟨r1,r2⟩:=r
 simp only at ziT
 subst ziT
 exact⟨_,rfl⟩
def Zug{o:Oper}{c:SelectCase}(xl:o.op=.select #[c] false){zx:Value}(hz:(zeroValue c.elem).run P w=.ok zx w):
  (execOp a.eval o).run P w=.ok (.comm #[{chan:=a.eval c.chan,send:=c.send.map a.eval,zero:=zx}] false .select) w:=by
 unfold execOp
 rw[xl]
 simp[hz,Result.andThen]
def Yko(bY:i_ P call)(hE:tE P):Yro P call:=by
 intro id ops o rest d ch s z fr st ex bL st' Js zee h μ w a lb hh hf
 obtain⟨c,xl,hg,rfl,h1,h2,h3⟩:=Yga zee
 have ho:ops[0]?=some o:=by rw[<-ze,Js];rfl
 have Ba:∀c',o.op≠.defer c':=fun c' hc=>by rw[xl]at hc;cases hc
 have jb:o.about P w a.eval=none:=by unfold Oper.about;rw[xl]
 have jm:ops.size=rest.length+1:=by rw[<-Array.length_toList,Js];rfl
 obtain⟨zx,Mi,ye⟩:=Zrz (w:=w) h3
 have kL:=Zug (a:=a) xl Mi
 unfold zo at h
 split at h
 ·rename_i i sv OI hsv
  obtain⟨l,hl,e1⟩:=cU hh hf.1 h1 OI
  rw[e1]at kL
  have r_:=Zs8 hh hf.1 h2 hsv
  split at h
  ·rename_i v1 cj hv
   split at h
   ·rename_i dP zef
    split at h
    ·rename_i yc fh hm
     simp only[au,bE]at h
     obtain⟨rfl,rfl,rfl⟩:=h
     have key:∃x w1 μ1 ws,VR μ1 v1 x/\bK P μ w st μ1 w1 cj ws/\∀(b:Frame) (k:List Item) (cs:List Frame) (is:List Nat),
       step P (lone (b.atR a (.inRegion ops (0::is)::k)) cs w)=.next (lone ((b.atR a (.inRegion ops (0::is)::k)).finish x) cs w1):=by
      unfold Tk at hv
      split at hv
      ·-- a send
       rename_i cap buf u Ct
       obtain⟨u',x',nL,oA,hvr⟩:=r_.resolve_left (by rintro⟨hq,_⟩;cases hq)
       simp only[au]at nL
       subst nL
       rw[oA]at kL
       obtain⟨zgF,s',r',q1,q2⟩:=hh.get hl Ct
       have hbl:=q2.length
       split at hv
       ·rename_i OJ
        simp only[au,bE]at hv
        obtain⟨rfl,rfl⟩:=hv
        refine⟨.tuple #[goInt 0,.bool false],w.setChan l.b cap ((⟨zgF⟩:Array Value).push (a.eval x')) false (s'+1) r' false,μ,[i],?_,?_,fun b k cs is=>?_⟩
        rotate_left 2
        ·obtain⟨es,ew⟩:=TE (b:=b) (k:=k) (cs:=cs) (rest:=is) ho hg Ba kL
         exact step_lone_select_send_room ew q1 (by simp;omega)
        ·exact⟨_,rfl,by simp[bf,VR,goInt]⟩
        ·refine bK.write hh hl Ct rfl rfl rfl rfl (by simp[size_setChan]) (fun b hb=>?_) ⟨zgF++[a.eval x'],s'+1,r',?_,q2.append (Zau.2 ⟨_,[],rfl,hvr,by simp[bf]⟩)⟩
         ·simp only[World.setChan];rw[Lw (Ne.symm hb)]
         ·rw[heap_setChan _ _ _ _ _ _ _ _ (hh.dom i l hl).2];simp
       ·rename_i OJ
        simp only[au,bE]at hv
        obtain⟨rfl,rfl⟩:=hv
        refine⟨.tuple #[goInt (-1),.bool false],w,μ,[],?_,bK.refl hh,fun b k cs is=>?_⟩
        rotate_left
        ·obtain⟨es,ew⟩:=TE (b:=b) (k:=k) (cs:=cs) (rest:=is) ho hg Ba kL
         exact step_lone_select_send_full ew q1 (by simp;omega)
        ·exact⟨_,rfl,by simp[bf,VR,goInt]⟩
      ·-- a receive
       rename_i cap u buf Ct
       rcases r_ with⟨_,oA⟩|⟨_,_,hq,_⟩
       ·rw[oA]at kL
        obtain⟨zgF,s',r',q1,q2⟩:=hh.get hl Ct
        obtain⟨y,ys,rfl,g1,g2⟩:=Zau.1 q2
        simp only[au,bE]at hv
        obtain⟨rfl,rfl⟩:=hv
        refine⟨.tuple #[goInt 0,.bool true,(⟨y::ys⟩:Array Value).getD 0 undef],w.setChan l.b cap ((⟨y::ys⟩:Array Value).extract 1 (⟨y::ys⟩:Array Value).size) false s' (r'+1) false,μ,[i],?_,?_,fun b k cs is=>?_⟩
        rotate_left 2
        ·obtain⟨es,ew⟩:=TE (b:=b) (k:=k) (cs:=cs) (rest:=is) ho hg Ba kL
         exact step_lone_select_recv_buf ew q1 (by simp)
        ·exact⟨_,rfl,Zau.2 ⟨_,_,rfl,by simp[VR,goInt],Zau.2 ⟨_,_,rfl,by simp[VR],Zau.2 ⟨_,_,rfl,by simpa using g1,by simp[bf]⟩⟩⟩⟩
        ·refine bK.write hh hl Ct rfl rfl rfl rfl (by simp[size_setChan]) (fun b hb=>?_) ⟨ys,s',r'+1,?_,g2⟩
         ·simp only[World.setChan];rw[Lw (Ne.symm hb)]
         ·rw[heap_setChan _ _ _ _ _ _ _ _ (hh.dom i l hl).2]
          congr 2
          apply zh
          simp
       ·cases hq
      ·rename_i cap Ct
       rcases r_ with⟨_,oA⟩|⟨_,_,hq,_⟩
       ·rw[oA]at kL
        obtain⟨zgF,s',r',q1,q2⟩:=hh.get hl Ct
        simp only[bf]at q2;subst q2
        simp only[au,bE]at hv
        obtain⟨rfl,rfl⟩:=hv
        refine⟨.tuple #[goInt (-1),.bool false,zx],w,μ,[],?_,bK.refl hh,fun b k cs is=>?_⟩
        rotate_left
        ·obtain⟨es,ew⟩:=TE (b:=b) (k:=k) (cs:=cs) (rest:=is) ho hg Ba kL
         exact step_lone_select_default ew q1
        ·exact⟨_,rfl,Zau.2 ⟨_,_,rfl,by simp[VR,goInt],Zau.2 ⟨_,_,rfl,by simp[VR],Zau.2 ⟨_,_,rfl,ye μ,by simp[bf]⟩⟩⟩⟩
       ·cases hq
      ·cases hv
     obtain⟨x,w1,μ1,ws,hx,uK,ew⟩:=key
     have oQ:=uK.mono hh
     have hf1:FrR μ1 dP (a.put o.dst x):=(hf.mono oQ).put hx zef
     have OK:List.range ops.size=0::(List.range rest.length).map (·+1):=by
      rw[jm,List.range_succ_eq_map]
     have zeg:((List.range rest.length).map (·+1)).map (fun i=>ops[i]?)=rest.map some:=by
      apply o8
      intro j
      simp only[List.map_map,jT]
      by_cases hj:j<rest.length
      ·have:ops[j+1]?=rest[j]?:=by rw[<-ze,Js];rfl
       simp[hj,this]
      ·simp[hj]
     have hwp:=Ydu (lb:=lb) (Q:=tG P μ w st .normal yc fh) bY hE _ _ zeg uK.hr hf1 hm (fun a' w' μ' NR q1 q2=>⟨rfl,μ',_,uK.trans q2,q1⟩)
     intro b k cs l8 hb hr
     obtain⟨e,a',w',q,ziD⟩:=wp_opsIn _ _ _ hwp b k cs l8 hb hr
     refine⟨e,a',w',q,.of_steps (.one (fenced_calm hb hr rfl) stepR_region) ?_⟩
     rw[OK]
     refine .of_steps (.one (fenced_oper hb hr ho fun f hf=>by rw[jb]at hf;cases hf) (ew b k cs _)) ?_
     rw[Frame.finish_atR,ho]
     exact ziD
    ·cases h
   ·cases h
  ·cases h
 ·cases h
end
end Go.Mx
