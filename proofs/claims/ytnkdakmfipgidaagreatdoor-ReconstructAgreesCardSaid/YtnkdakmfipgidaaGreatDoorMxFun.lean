/-The machine M's runs stand for the Go mo-/
import Derived.Test.YtnkdakmfipgidaaGreatDoorMxOps
import Derived.Conc.LoneSelect
set_option linter.all false
namespace Go.Mx
open Go
section
variable {P:Program} {μ:Mu} {w:World} {st aA:St} {fr bH:Fr} {a:Act} {call:cM} {v:V} {lb:Option Nat}
def Zor:∀(vs:List V) (r:T V) (i t:Nat),(Ao r i vs).get t=if i<=t/\t<i+vs.length then vs[t-i]? else r.get t
 |[],r,i,t=>by simp[Ao];omega
 |v::vs,r,i,t=>by
  simp only[Ao]
  rw[Zor vs (r.set i v) (i+1) t,T.ae]
  by_cases h:t=i
  ·subst h
   rw[ak (by omega),ar rfl,ar (by simp)];simp
  ·by_cases h2:i+1<=t/\t<i+1+vs.length
   ·rw[ar h2,ar (by simp;omega)]
    rw[show t-i=(t-(i+1))+1 by omega];simp
   ·rw[ak h2,ak h,ak (by simp;omega)]
def Yme{vs:List V}{xs:List Value}{n:Nat}(h:aU μ vs xs)(hl:vs.length<=n):RR μ (Ao .nil 0 vs) n ((⟨xs⟩:Array Value)++Array.replicate (n-(⟨xs⟩:Array Value).size) undef):=by
 have zo:=h.length;refine⟨by simp;omega,fun t v hv=>?_⟩;rw[Zor]at hv;split at hv
 ·rename_i ht;simp only[Nat.sub_zero]at hv;obtain⟨x,hx,hr⟩:=h.get hv;refine⟨x,?_,hr⟩;rw[Array.getElem?_append_left (by simp;omega)];simpa using hx
 simp[T.get]at hv
def TW(tmps:Array Value):ResultVar->Sem Value
 |.tmp t=>pure (tmps.getD t undef)
 |.cell a t=>do loadVar t (<-asAddr (tmps.getD a undef))
def Zwj(hh:bn P μ w st){r:T V}{n:Nat}{tmps:Array Value}(hr:RR μ r n tmps):∀{rs:List ResultVar} {ms:List F5},Gi P rs=some ms->∀{vs:List V},gg r st ms=some vs->
  ∃xs,(rs.mapM (TW tmps)).run P w=.ok xs w/\aU μ vs xs
 |[],ms,hc,vs,hv=>by
  simp only[Gi,aq]at hc;subst hc
  simp only[gg,aq]at hv;subst hv
  exact⟨[],by simp,by simp[aU]⟩
 |.tmp t::rs,ms,hc,vs,hv=>by
  simp only[Gi,ks]at hc
  obtain⟨ms',jw,rfl⟩:=hc
  simp only[gg]at hv
  split at hv
  ·rename_i u us hu uB
   simp only[aq]at hv;subst hv
   obtain⟨xs,h1,h2⟩:=Zwj hh hr jw uB
   obtain⟨x,hx,Dl⟩:=hr.2 _ _ hu
   refine⟨x::xs,?_,kb.2 ⟨_,_,rfl,Dl,h2⟩⟩
   simp only[List.mapM_cons,TW,Sem.run_bind,Sem.run_pure,Result.andThen_ok,h1]
   simp[IV,hx]
  ·cases hv
 |.cell t ty::rs,ms,hc,vs,hv=>by
  simp only[Gi]at hc
  split at hc
  ·rename_i k ms' hk jw
   simp only[aq]at hc;subst hc
   simp only[gg]at hv
   split at hv
   ·rename_i i o us hu uB
    split at hv
    ·rename_i c e rQ az
     split at hv
     ·rename_i u fh
      simp only[aq]at hv;subst hv
      obtain⟨xs,h1,h2⟩:=Zwj hh hr jw uB
      obtain⟨x,hx,l,hl,rfl⟩:=hr.2 _ _ hu
      have Aq:=hh.row hl az
      have yO:∃y,(loadVar ty ⟨l.b,l.d+o,none⟩).run P w=.ok y w/\VR μ u y:=by
       cases k with
       |none=>
        simp only[aQ]at fh
        obtain⟨y,hy,hv⟩:=Aq.cell fh
        exact⟨y,by simp[loadVar,ZR hk,Result.andThen,hy],hv⟩
       |some k=>
        simp only[aQ]at fh
        split at fh
        ·rename_i q hq
         simp only[aq]at fh;subst fh
         obtain⟨ys,g1,_,g3,_⟩:=Aq.Bq hq
         exact⟨.agg ys.toArray,by simp[loadVar,(LF hk).1,(LF hk).2,Result.andThen,g3],ys,rfl,g1⟩
        ·cases fh
      obtain⟨y,uf,yP⟩:=yO
      refine⟨y::xs,?_,kb.2 ⟨_,_,rfl,yP,h2⟩⟩
      have mq:tmps.getD t undef=.pointer (some ⟨l.b,l.d+o,none⟩):=by simp[IV,hx]
      have zac:(asAddr (tmps.getD t undef)).run P w=.ok ⟨l.b,l.d+o,none⟩ w:=by rw[mq];rfl
      simp only[List.mapM_cons,TW,Sem.run_bind,zac,Sem.run_pure,Result.andThen_ok,uf,h1]
     ·cases hv
    ·cases hv
   ·cases hv
  ·cases hc
def Zwi(hh:bn P μ w st){r:T V}{n:Nat}{tmps:Array Value}(hr:RR μ r n tmps){fn:Func}{ms:List F5}(hc:Gi P fn.results.toList=some ms){vs:List V}(hv:gg r st ms=some vs):
  ∃x,(results fn tmps).run P w=.ok x w/\VR μ (GF vs) x:=by
 obtain⟨xs,h1,h2⟩:=Zwj hh hr hc hv;have hl:=h2.length;refine⟨if h:xs.length=1 then xs[0] else .tuple ⟨xs⟩,?_,?_⟩
 ·show (do let vs <-fn.results.mapM (TW tmps);pure (if h:vs.size=1 then vs[0] else .tuple vs):Sem Value).run P w=_;rw[Array.mapM_eq_mapM_toList];simp only[Sem.run_bind,Sem.run_map,h1,Result.andThen_ok,Sem.run_pure];rfl
 rcases vs with _|⟨u,_|⟨u',vs⟩⟩
 ·simp only[aU]at h2;subst h2;exact⟨[],rfl,by simp[aU]⟩
 ·obtain⟨y,ys,rfl,g1,g2⟩:=kb.1 h2;simp only[aU]at g2;subst g2;exact g1
 rw[dif_neg (by rw[hl];simp)];exact⟨xs,rfl,h2⟩
def Zyt{fn:Func}{tmps:Array Value}{R:Ending->World->Prop}:∀{ms:List Nat} {ds:List Deferred} {st fb:St} {w:World},bn P μ w st->qJ μ ms ds->shut st ms=some fb->
  (∀w' ws,bI P μ w st μ w' fb ws->∃v,(results fn tmps).run P w'=.ok v w'/\R (.returned v) w')->LeavesInM Fence.wide 0 P fn tmps R ds .returning w
 |[],ds,st,fb,w,hh,hd,hs,hR=>by
  simp only[qJ]at hd;subst hd
  simp only[shut,aq]at hs;subst hs
  exact hR w [] (bI.refl hh)
 |m::ms,ds,st,fb,w,hh,hd,hs,hR=>by
  obtain⟨l,GL,h1,rfl,h3⟩:=hd
  simp only[shut]at hs
  split at hs
  ·rename_i hg
   have Aq:=hh.get h1 hg
   have OG:bI P μ w st μ (w.putObj l.b (.deferred none)) (st.write m (.defs false)) [m]:=
    bI.write hh h1 hg rfl rfl rfl rfl (World.putObj_size) (fun b hb=>World.putObj_heap_other hb) (World.putObj_heap_same (hh.dt m l h1).2)
   refine⟨by simp,.inl ⟨l.b,_,rfl,run_takeDeferred Aq,?_⟩⟩
   exact Zyt OG.hr h3 hs fun w' ws iY=>hR w' _ (OG.trans iY)
  ·cases hs
def bI.fold{μ':Mu}{w':World}{ws:List Nat}(h0:bn P μ w st)(h:bI P μ w {st with w:=[]} μ' w' aA ws):bI P μ w st μ' w' {aA with w:=ay st.n aA.w++st.w} (ay st.n aA.w):=by
 have qE:∀(l:List Nat) (i:Nat),i<st.n->(i∈ay st.n l↔i∈l):=by
  intro l i hi;induction l with
  |nil=>simp[ay]
  |cons j l ih=>
   simp only[ay];split
   ·unfold wG;split
    ·rename_i hc;simp only[iW,ih];simp only[Ty]at hc;constructor
     ·exact .inr
     rintro(rfl|h)
     ·exact ih.1 hc
     exact h
    simp only[iW,ih]
   simp only[iW,ih];constructor
   ·exact .inr
   rintro(rfl|h)
   ·omega
   exact h
 have mI:aA.w=ws:=by have:=h.wl;simpa using this
 have hs:∀i,i<st.n->(i∈ay st.n aA.w↔i∈ws):=fun i hi=>by rw[qE _ i hi,mI]
 exact {
  hr:=⟨h.hr.dt,h.hr.obj,h.hr.inj,h.hr.iN⟩
  ext:=h.ext
  iG:=h.iG
  wl:=rfl
  eF:=⟨h.eF.os,h.eF.tape,h.eF.output,h.eF.size,fun b hb dM=>h.eF.block b hb fun i hi l hl=>dM i ((hs i (h0.dt i l hl).1).2 hi) l hl⟩
  new:=fun i l hi hl=>by
   rcases h.new i l hi hl with h'|⟨j,hj,CT,r⟩
   ·exact .inl h'
   ·exact .inr ⟨j,(hs j CT).2 hj,CT,r⟩
  ad:=fun i hi dM=>h.ad i hi fun hc=>dM ((hs i hi).2 hc)
  grow:=h.grow
  full:=h.full
  Ai:=fun i hi hn=>h.Ai i ((hs i hn).1 hi) hn}
def bn.now(h:bn P μ w st)(l:List Nat):bn P μ w {st with w:=l}:=⟨h.dt,h.obj,h.inj,h.iN⟩
def Yhe{code:rn}(pF:Mh P code){f:FuncId}{fn:Func}{mf:mV}(hf:P.funcs[f]?=some fn)(hc:zR P f=some mf){args:List V}{xs:List Value}(hh:bn P μ w st)(hx:aU μ args xs)
  (h:Ei mf code args st=some (v,aA)):CallsIn Fence.wide 0 P f ⟨xs⟩ w (JC fun x w'=>∃μ' ws,VR μ' v x/\bI P μ w st μ' w' aA ws):=by
 unfold zR at hc;rw[hf]at hc;simp only at hc;split at hc
 ·rename_i c rs hb hrs;simp only[aq]at hc;subst hc;unfold Ei at h;split at h
  ·cases h
  rename_i hle;simp only at hle h;have fin:∀(ex:Ex) (ef:Fr) (bX:St),(ex=.normal\/ex=.ret)->code none (jr P c) {r:=Ao .nil 0 args,n:=fn.ntmps,marks:=[]} {st with w:=[]}=some (ex,ef,bX)->
    (match shut bX ef.marks with
     |none=>none
     |some fb=>match gg ef.r fb rs with
      |some vs=>some (GF vs,{fb with w:=ay st.n fb.w++st.w})
      |none=>none)=some (v,aA)->
    CallsIn Fence.wide 0 P f ⟨xs⟩ w (JC fun x w'=>∃μ' ws,VR μ' v x/\bI P μ w st μ' w' aA ws):=by
   intro ex ef bX hex bP fg
   split at fg
   ·cases fg
   ·rename_i fb OH
    split at fg
    ·rename_i vs IU
     simp only[aq,bB]at fg
     obtain⟨rfl,rfl⟩:=fg
     refine callsIn_of_wp_marks hf hb trivial (wpIn_mono (pF none c _ _ _ _ _ bP μ w _ none (hh.now []) ⟨Yme hx (zB hle),rfl⟩ trivial) fun e a' w' hp=>?_)
     obtain⟨rfl,μ1,ws,hs,BO⟩:=hp
     have hl:LeavesInM Fence.wide 0 P fn a'.tmps (JC fun x w'=>∃μ' ws,VR μ' (GF vs) x/\bI P μ w st μ' w' {fb with w:=ay st.n fb.w++st.w} ws) a'.defers .returning w':=by
      refine Zyt hs.hr BO.2 OH fun w2 ws2 na=>?_
      obtain⟨x,wD,zn⟩:=Zwi na.hr BO.1 hrs IU
      exact⟨x,wD,μ1,_,zn,(hs.trans na).fold hh⟩
     rcases hex with rfl|rfl
     ·exact hl
     ·exact hl
    ·cases fg
  unfold Z2 at h;split at h
  ·cases h
  ·rename_i ex ef bX aW bP;exact fin ex ef bX (by cases ex with|normal=>exact .inl rfl|ret=>exact .inr rfl|exit id=>exact(aW id rfl).elim) (by assumption) h
  cases h
 cases hc
def Zq3:∀{ps:List Nat} {vs:List V} {r r':T V} {n:Nat} {tmps:Array Value} {xs:List Value},RR μ r n tmps->aU μ vs xs->DT r n ps vs=some r'->
  xs.length=ps.length/\RR μ r' n ((ps.zip xs).foldl (fun (tmps:Array Value) (p:Nat×Value)=>tmps.setIfInBounds p.1 p.2) tmps)
 |[],[],r,r',n,tmps,xs,hr,hx,h=>by
  simp only[aU]at hx;subst hx
  simp only[DT,aq]at h;subst h
  exact⟨rfl,hr⟩
 |[],_::_,r,r',n,tmps,xs,hr,hx,h=>by simp[DT]at h
 |_::_,[],r,r',n,tmps,xs,hr,hx,h=>by simp[DT]at h
 |p::ps,v::vs,r,r',n,tmps,xs,hr,hx,h=>by
  obtain⟨y,ys,rfl,h1,h2⟩:=kb.1 hx
  simp only[DT]at h
  split at h
  ·rename_i hp
   obtain⟨g1,g2⟩:=Zq3 (hr.set hp h1) h2 h
   exact⟨by simp[g1],by simpa using g2⟩
  ·cases h
def Yc6(e:Ex):((rX e).bind Bo).isNone=(rX e).isNone:=by cases e<;>rfl
def bI.loop(hh:bn P μ w st){i:Nat}{l:L}(hl:μ i=some l){R R':Nz}(hg:st.h.get i=some (.loop R))(h1:R'.r=R.r)(h2:R'.n=R.n)(h3:R'.ps=R.ps)(h4:R'.assign=R.assign)(h5:R'.body=R.body)(h6:R'.defs=R.defs):
  ∃rec,w.heap[l.b]?=some (.loop rec)/\rec.state=R.st/\rec.pending=R.fu.bind Bo/\
   bI P μ w st μ (w.putObj l.b (.loop {rec with state:=R'.st,pending:=R'.fu.bind Bo})) (st.write i (.loop R')) [i]:=by
 obtain⟨fn,tmps,gK,gO,ld,g1,g2,g3,g4,g5⟩:=hh.get hl hg;refine⟨_,g1,rfl,rfl,bI.write hh hl hg rfl rfl rfl rfl World.putObj_size (fun b hb=>World.putObj_heap_other hb) ⟨fn,tmps,gK,gO,ld,?_,?_,?_,?_,?_⟩⟩
 ·rw[World.putObj_heap_same (hh.dt i l hl).2,h3]
 ·rw[h1,h2];exact g2
 ·rw[h4];exact g3
 ·rw[h5];exact g4
 rw[h6];exact g5
def Yke{code:rn}(pF:Mh P code){l:Nat}{args:List V}{xs:List Value}{L0:L}(hh:bn P μ w st)(hl:μ l=some L0)(hx:aU μ args xs)(h:DV code l args st=some (v,aA)):
  ∃f tmps gK gO,(Instr.yield L0.b ⟨xs⟩).run P w=.ok (.round L0.b f tmps gK gO) w/\RoundIn Fence.wide 0 P L0.b f tmps gK gO w (JC fun x w'=>∃μ' ws,VR μ' v x/\bI P μ w st μ' w' aA ws):=by
 unfold DV at h;split at h
 ·rename_i R hg;obtain⟨fn,tmps,gK,gO,ld,g1,g2,g3,g4,g5⟩:=hh.get hl hg;split at h
  ·cases h
  rename_i r0 fv;obtain⟨q1,q2⟩:=Zq3 g2 hx fv;have hy:=run_yield (P:=P) (args:=⟨xs⟩) g1 (by simpa using q1);refine⟨_,_,_,_,hy,?_⟩;have htm:(((⟨R.ps⟩:Array Nat).zip (⟨xs⟩:Array Value)).foldl (fun tmps (p:Nat×Value)=>tmps.setIfInBounds p.1 p.2) tmps)=(R.ps.zip xs).foldl (fun (tmps:Array Value) (p:Nat×Value)=>tmps.setIfInBounds p.1 p.2) tmps:=by simp
  refine roundIn_of_wpIn (F:=Fence.wide) trivial ?_;split at h
  ·rename_i ef bX GN;rw[<-g3]at GN;refine wpIn_mono (pF (some l) gK _ _ _ _ _ GN μ w {tmps:=(((⟨R.ps⟩:Array Nat).zip (⟨xs⟩:Array Value)).foldl (fun tmps (p:Nat×Value)=>tmps.setIfInBounds p.1 p.2) tmps),defers:=[]} (some L0.b) hh ⟨by rw[htm];exact q2,rfl⟩ ⟨L0,hl,rfl⟩) fun e a1 w1 hp=>?_;have uO:=hp;obtain⟨he,μ1,ws1,yx,BO⟩:=hp;refine uO.then (fun _=>?_) (fun aW=>absurd rfl aW);split at h
   ·rename_i R1 hg1;split at h
    ·rename_i JD;have JE:=yx.mono hh _ _ hl;obtain⟨OI,k1,k2,k3,k4⟩:=bI.loop (R':={R1 with st:=.busy}) yx.hr JE hg1 rfl rfl rfl rfl rfl rfl;refine⟨_,run_beginRound k1 (k2.trans JD),?_⟩;have NH:({OI with state:=LoopState.busy,pending:=R1.fu.bind Bo}:Loop)={OI with state:=.busy}:=by rw[<-k3]
     rw[NH]at k4;split at h
     ·rename_i e2 AQ fb GO;rw[<-g4]at GO;refine wpIn_mono (pF (some l) gO _ _ _ _ _ GO μ1 _ a1 (some L0.b) k4.hr (BO.mono (k4.mono yx.hr)) ⟨L0,JE,rfl⟩) fun e a2 w2 Ar=>?_;obtain⟨xf,μ2,ws2,na,dT⟩:=Ar;split at h
      ·rename_i R2 hg2;simp only[aq,bB]at h;obtain⟨rfl,rfl⟩:=h;have il:=na.mono k4.hr _ _ JE;obtain⟨zad,m1,m2,m3,m4⟩:=bI.loop (R':={R2 with st:=Lb (rX e2),fu:=rX e2}) na.hr il hg2 rfl rfl rfl rfl rfl rfl;have fg:=run_endRound (P:=P) ((rX e2).bind Bo) m1;have eM:(if ((rX e2).bind Bo).isNone=true then LoopState.ready else LoopState.done)=Lb (rX e2):=by cases e2<;>rfl
       rw[eM,Yc6]at fg;have hR:JC (fun x w'=>∃μ' ws,VR μ' (.bool (rX e2).isNone) x/\bI P μ w st μ' w' (fb.write l (.loop {R2 with st:=Lb (rX e2),fu:=rX e2})) ws) (.returned (.bool (rX e2).isNone))
         (w2.putObj L0.b (.loop {zad with state:=Lb (rX e2),pending:=(rX e2).bind Bo})):=
        ⟨μ2,_,by simp[VR],((yx.trans k4).trans na).trans m4⟩;subst xf;cases e2 with
       |normal=>exact⟨_,_,fg,hR⟩
       |exit id=>exact⟨_,_,fg,hR⟩
       |ret=>exact⟨_,_,fg,hR⟩
      cases h
     cases h
    cases h
   cases h
  cases h
 cases h
def Zyf(P:Program)(dV:Nat->Option mV):Prop:=
 ∀f mf,dV f=some mf->zR P f=some mf/\∀fn,P.funcs[f]?=some fn->(fn.name== "runtime.NumGoroutine")=false
def Yam{f:FuncId}{mf:mV}(h:zR P f=some mf):∃fn,P.funcs[f]?=some fn/\fn.body.isSome=true:=by
 unfold zR at h;split at h
 ·rename_i fn hf;refine⟨fn,hf,?_⟩;split at h
  ·rename_i hb _;rw[hb];rfl
  cases h
 cases h
def Zx5{dV:Nat->Option mV}{code:rn}(ht:Zyf P dV)(pF:Mh P code):jZ P (zw dV code):=by
 intro g args st v aA h μ w G xs hh hg hx;unfold zw at h;split at h
 ·rename_i f first iB
  split at h
  ·rename_i mf hmf;obtain⟨a',c',rfl,h1,h2⟩:=hg;obtain⟨hc,OJ⟩:=ht f mf hmf;obtain⟨fn,hf,hb⟩:=Yam hc;refine⟨{target:=.fn (.func f) ⟨c'⟩,args:=⟨a'⟩++⟨xs⟩},by simp[Deferred.ofValue],.inl ⟨rfl,f,⟨a'++xs++c'⟩,?_,?_⟩⟩
   ·have hn:fn.name≠ "runtime.NumGoroutine" :=by simpa using OJ fn hf
    simp[invoke,callFunc,hf,hn];intro hq;rw[hq]at hb;cases hb
   exact Yhe pF hf hc hh ((h1.append hx).append h2) h
  cases h
 ·rename_i l;obtain⟨L0,hl,rfl⟩:=hg;obtain⟨f,tmps,gK,gO,q1,q2⟩:=Yke pF hh hl hx h;refine⟨{target:=.fn (.yield L0.b) #[],args:=⟨xs⟩},by simp[Deferred.ofValue],.inr ⟨rfl,L0.b,f,tmps,gK,gO,?_,q2⟩⟩;simp[invoke,q1]
 cases h
def Yqq{a2:Act}{w4:World}{AQ:Fr}{stf:St}:∀(q:Option Ex),xg P μ w st (match q with|none=>.normal|some e=>e) AQ stf (Mi (match q with|none=>.normal|some e=>e)) a2 w4->
  (match q.bind Bo with
   |none=>xg P μ w st (match q with|none=>.normal|some e=>e) AQ stf .normal a2 w4
   |some c=>c.wpIn (FE lb) 0 P (xg P μ w st (match q with|none=>.normal|some e=>e) AQ stf) a2 w4)
 |none,h=>h
 |some .normal,h=>h
 |some (.exit _),h=>wpIn_exit h
 |some .ret,h=>wpIn_ret h
def Zy0(cj:jZ P call):Yi6 P call:=by
 intro ro g s ps gK gO fr st ex bH aA hs h μ w a lb hh hf qq;unfold AP at h;split at h
 ·cases h
 rename_i gv hgv;have hG:=di hh hf.1 hs hgv;rw[LG]at h;obtain⟨hy,h⟩:=h;have xh:gv.Io=false:=by simpa using hy
 split at h
 ·cases h
 rename_i bX d mk jP;split at h
 ·cases h
 rename_i x fb hc;split at h
 ·rename_i R hg2;rw[LG]at h;obtain⟨OK,h⟩:=h;simp only[aq,bB]at h;obtain⟨rfl,rfl,rfl⟩:=h;refine wpIn_rangeFunc fun fn _=>?_;have common:∀(l:Nat) (mark:List Deferred) (w0:World) (μ0:Mu) (ws0:List Nat) (db:Nat),bI P μ w st μ0 w0 bX ws0->l=w0.heap.size->(∃ld,μ0 d=some ld/\ld.b=db)->
    (Instr.enterLoop fn a.tmps ps gK gO (FE lb).round).run P w=.ok (l,mark) (w0.alloc (.loop {state:=.ready,pending:=none,fn,tmps:=a.tmps,params:=ps,assign:=gK,body:=gO,defers:=db}))->
    (∀ms ds,qJ μ0 ms ds->qJ μ0 (mk++ms) (mark++ds))->
    ∃(l:Nat) (mark:List Deferred) (w₁:World) (d:Deferred) (w₁':World) (f:FuncId) (args:Array Value) (w₂:World),
     (Instr.enterLoop fn a.tmps ps gK gO (FE lb).round).run P w=.ok (l,mark) w₁/\
     (resolve a.eval (rangeCall g l) 0).run P w₁=.ok d w₁'/\
     (∀f',Target.leads P w₁' d.target d.args=some f'->(FE lb).fn f')/\
     (invoke d.target d.args).run P w₁'=.ok (.enter f args) w₂/\
     ((FE lb).depth.isSome=true->1<=0)/\
     CallsIn (FE lb) (0-1) P f args w₂ (rangePost (FE lb) 0 P l (xg P μ w st (match R.fu with|none=>.normal|some e=>e) {fr with marks:=mk++fr.marks} (fb.write bX.n (.loop {R with st:=.exhausted}))) {a with defers:=mark++a.defers}):=by
   intro l mark w0 μ0 ws0 db fP cH hdb hent BE
   subst cH
   obtain⟨ld,uP,dX⟩:=hdb
   have jD:=fP.mono hh
   have aW:d≠bX.n:=fun hc=>by have:=(fP.hr.dt d ld uP).1;omega
   have jv:bI P μ0 w0 bX (fun i=>if i=bX.n then some ⟨w0.heap.size,0,0⟩ else μ0 i) (w0.alloc (.loop {state:=.ready,pending:=none,fn,tmps:=a.tmps,params:=ps,assign:=gK,body:=gO,defers:=db}))
     (bX.alloc (.loop {st:=.ready,fu:=none,r:=fr.r,n:=fr.n,ps:=ps.toList,assign:=jr P gK,body:=jr P gO,defs:=d})) []:=by
    have dN:∀i l,μ0 i=some l->(fun i=>if i=bX.n then some (⟨w0.heap.size,0,0⟩:L) else μ0 i) i=some l:=fun i l hl=>by
     have:=(fP.hr.dt i l hl).1
     simp only
     rw[ak (by omega)];exact hl
    refine bI.alloc fP.hr _ (.loop {state:=.ready,pending:=none,fn,tmps:=a.tmps,params:=ps,assign:=gK,body:=gO,defers:=db}) 0 0 ⟨fn,a.tmps,gK,gO,ld,?_,(hf.1.mono jD).mono dN,rfl,rfl,?_⟩
    ·show (w0.heap.push _)[w0.heap.size]?=_
     simp[dX]
    ·simp only;rw[ak aW];exact uP
   have yx:=fP.trans jv
   have qK:=yx.mono hh
   obtain⟨dd,pk,iR⟩:=cj gv [.yield bX.n] _ x fb hc _ _ (a.eval g) [.func (.yield w0.heap.size) #[] #[]] jv.hr (VR.mono qK _ _ hG) (kb.2 ⟨_,[],rfl,⟨⟨w0.heap.size,0,0⟩,by simp,rfl⟩,by simp[aU]⟩)
   rcases iR with⟨_,f,args,hinv,Jy⟩|⟨hyy,_⟩
   ·refine⟨w0.heap.size,mark,_,dd,_,f,args,_,hent,?_,fun _ _=>trivial,hinv,fun hx=>by simp[Fence.wide]at hx,?_⟩
    ·have e0:(#[Operand.const (.func (.yield w0.heap.size) #[] #[])]).map a.eval=(⟨[.func (.yield w0.heap.size) #[] #[]]⟩:Array Value):=by simp[Act.eval]
     simp only[resolve,e0]
     exact pk
    ·refine CallsIn.mono (F:=Fence.wide) Jy fun e w3 he=>?_
     cases e with
     |panicked _=>exact he.elim
     |outgrown=>exact he.elim
     |returned y=>
      obtain⟨μ2,ws2,_,na⟩:=he
      have il:μ2 bX.n=some ⟨w0.heap.size,0,0⟩:=na.mono jv.hr _ _ (by simp)
      obtain⟨rec,m1,m2,m3,m4⟩:=bI.loop (R':={R with st:=.exhausted}) na.hr il hg2 rfl rfl rfl rfl rfl rfl
      have fg:=run_endLoop (P:=P) m1 (by rw[m2];exact OK)
      have hsf:=(yx.trans na).trans m4
      have Bf:({rec with state:=.exhausted,pending:=R.fu.bind Bo}:Loop)={rec with state:=.exhausted}:=by rw[<-m3]
      rw[Bf]at hsf
      have pq:od μ2 {fr with marks:=mk++fr.marks} {a with defers:=mark++a.defers}:=by
       refine⟨(hf.1.mono qK).mono (na.mono jv.hr),?_⟩
       exact((BE _ _ (hf.2.mono jD)).mono (jv.mono fP.hr)).mono (na.mono jv.hr)
      have fin:xg P μ w st (match R.fu with|none=>.normal|some e=>e) {fr with marks:=mk++fr.marks} (fb.write bX.n (.loop {R with st:=.exhausted})) (Mi (match R.fu with|none=>.normal|some e=>e)) {a with defers:=mark++a.defers} _:=⟨rfl,μ2,_,hsf,pq⟩
      exact⟨R.fu.bind Bo,_,by rw[<-m3];exact fg,Yqq R.fu fin⟩
   ·rw[xh]at hyy;cases hyy
  cases ro with
  |none=>
   cases lb with
   |some _=>exact qq.elim
   |none=>
    simp only[SD,aq,bB]at jP;obtain⟨rfl,rfl,rfl⟩:=jP;have EP:bI P μ w st (fun i=>if i=st.n then some ⟨w.heap.size,0,0⟩ else μ i) (w.alloc (.deferred (some []))) (st.alloc (.defs true)) []:=
     bI.alloc hh (.defs true) (.deferred (some [])) 0 0 (by simp only[OM];show (w.heap.push _)[w.heap.size]?=_;simp);refine common (w.heap.size+1) [{target:=.collected w.heap.size,args:=#[]}] (w.alloc (.deferred (some []))) _ [] w.heap.size EP (by simp) ⟨⟨w.heap.size,0,0⟩,by simp,rfl⟩ (run_enterLoop_outer ..) fun ms ds hd=>⟨⟨w.heap.size,0,0⟩,ds,by simp,rfl,hd⟩
  |some l0=>
   cases lb with
   |none=>exact qq.elim
   |some b=>
    obtain⟨L0,cH,rfl⟩:=qq;simp only[SD]at jP;split at jP
    ·rename_i R0 ui;simp only[aq,bB]at jP;obtain⟨rfl,rfl,rfl⟩:=jP;obtain⟨fn0,zbb,zbu,zbv,ld0,g1,g2,g3,g4,g5⟩:=hh.get cH ui;refine common w.heap.size [] w μ [] ld0.b (bI.refl hh) rfl ⟨ld0,g5,rfl⟩ ?_ (fun ms ds hd=>hd);show (Instr.enterLoop fn a.tmps ps gK gO (some L0.b)).run P w=_;unfold Instr.enterLoop;simp only[Sem.run_bind,run_getLoop g1,run_newObj_alloc,Result.andThen,Sem.run_pure]
    cases jP
 cases h
end
open Go Go.Conc
section
variable {P:Program} {μ:Mu} {w:World} {st aA:St} {fr bH:Fr} {a:Act} {call:cM} {v:V} {lb:Option Nat}
def Ynx(cj:jZ P call)(hE:vn P):Yw3 P call:=fun id ops o rest d ch s z fr st ex bH aA zbw zae=>by cases zae
end
section
variable {r r' : T V} {st : St} {call : cM}
def JF : ∀ {l : List Src}, (∀ s ∈ l, s.ev r = s.ev r') -> vL r l = vL r' l
  | [], _ => rfl
  | s :: l, h => by
    simp only [vL]
    rw [h s (by simp), JF fun s hs => h s (by simp [hs])]
def GP {o : Option Src} (h : ∀ s ∈ Da o, s.ev r = s.ev r') : aB r o = aB r' o := by
 cases o with
 | none => rfl
 | some s => simp only [aB]; rw [h s (by simp [Da])]
def Zh3 : ∀ {l : List (Nat × Nat × Src)}, (∀ s ∈ l.map (·.2.2), s.ev r = s.ev r') -> C6 r l = C6 r' l
  | [], _ => rfl
  | (o, k, s) :: l, h => by
    simp only [C6]
    rw [h s (by simp), Zh3 fun s hs => h s (by simp only [nI, iW]; exact .inr hs)]
def Yf7 {op : iA} (h : ∀ s ∈ op.EE, s.ev r = s.ev r') : cC op call r st = cC op call r' st := by
 cases op <;> simp only [iA.EE, iW, List.not_mem_nil, or_false, forall_eq_or_imp, forall_eq, jB] at h <;> simp only [cC];case build z ps => simp only [Ey, Zh3 h]
 case fO e s l z ps => simp only [Ja, Zh3 h]
 case pz f a c => simp only [Jh, JF fun s hs => h s (.inl hs), JF fun s hs => h s (.inr hs)]
 case cB x lo hi => simp only [Al, h.1, GP fun s hs => h.2 s (.inl hs), GP fun s hs => h.2 s (.inr hs)]
 case oa z x lo hi m => simp only [qV, h.1, GP fun s hs => h.2 s (.inl (.inl hs)), GP fun s hs => h.2 s (.inl (.inr hs)), GP fun s hs => h.2 s (.inr hs)]
 case ky k z x lo hi m => simp only [Bx, h.1, GP fun s hs => h.2 s (.inl (.inl hs)), GP fun s hs => h.2 s (.inl (.inr hs)), GP fun s hs => h.2 s (.inr hs)]
 case mn l => simp only [Am, JF h]
 case mx l => simp only [sL, JF h]
 case call f l => simp only [An, h.1, JF fun s hs => h.2 s hs]
 case ext e l => simp only [Jo, JF h]
 all_goals
   first
     | rfl
     | (simp only [I8, I9, Jb, Jc, Je, Jf, LM, Gy, Jg, LN, Gz, Ji, Jj, Jl, Jm, Jn, zE, LR, LS, GD, LU, h]; done)
     | (simp only [Gw, Gx, Jd, Ez, EA, GA, LQ, GB, Jk, GC, Zuc, ZX, EB, EC, LV, h.1, h.2]; done)
     | (simp only [Gw, GC, ZX, h.1, h.2.1, h.2.2]; done)
def Zoo {op : iA} (hs : op.pA = true) (h' : T O) (l' : List Nat) {v : V} {aA : St} (h : cC op call r st = some (v, aA)) :
    (aA = st /\ cC op call r ⟨h', st.n, l'⟩ = some (v, ⟨h', st.n, l'⟩)) \/ ∃ o, aA = st.alloc o /\ cC op call r ⟨h', st.n, l'⟩ = some (v, St.alloc ⟨h', st.n, l'⟩ o) := by
 cases op <;> simp only [iA.pA, iy] at hs <;> simp only [cC] at h ⊢;case kv e z b zs x y =>
   unfold Ez at *
   split at h
   · rename_i ha hb
     split at h
     · rename_i hc
       simp only [aq, bB] at h
       obtain ⟨rfl, rfl⟩ := h
       refine .inr ⟨_, rfl, ?_⟩
       rw [ar hc]
     · cases h
   · cases h
 case bin b t ng x y =>
   refine .inl ?_
   unfold Jd at *
   split at h
   · cases b <;> first | (cases hs; done) | (simp only [TF, reduceCtorEq] at h)
   · split at h
     · rename_i hm
       simp only [aq, bB] at h
       obtain ⟨rfl, rfl⟩ := h
       exact ⟨rfl, by simp_all⟩
     · cases h
   · cases h
 all_goals
   first
     | unfold I8 at * | unfold Gw at * | unfold LL at * | unfold I9 at * | unfold Ey at * | unfold Ja at * | unfold Jc at * | unfold Je at * | unfold Jf at * | unfold LM at * | unfold Gy at * | unfold LN at * | unfold Jh at * | unfold LP at * | unfold Gz at * | unfold Ez at * | unfold Al at * | unfold Ji at * | unfold Jj at * | unfold EA at * | unfold GA at * | unfold LQ at * | unfold GB at * | unfold Jl at * | unfold Jn at * | unfold Om at * | unfold LR at * | unfold Am at * | unfold sL at * | unfold Jo at *
 all_goals
   repeat' split at h
   all_goals
     first
       | (cases h; done)
       | (simp only [aq, bB] at h
          obtain ⟨rfl, rfl⟩ := h
          first
            | (refine .inl ⟨rfl, ?_⟩; simp_all; done)
            | (refine .inr ⟨_, rfl, ?_⟩; simp_all; done))
def Zt9 {α : Type} {p : α -> α -> Bool} {f : α} {m : Nat} : ∀ {seen : List α} {j : Nat}, seen.length = j -> cQ.cU p f m (j - 1) seen = true -> ∀ i, i < j -> ∀ g, seen[j - 1 - i]? = some g -> m.testBit i = true \/ p g f = true
  | [], j, hl, _, i, hi, g, hg => by simp at hg
  | g0 :: seen, j, hl, h, i, hi, g, hg => by
    simp only [cQ.cU, gI, I4] at h
    simp only [bk] at hl
    by_cases e : i = j - 1
    · subst e
      simp only [Nat.sub_self, C4, aq] at hg
      subst hg
      exact h.1
    · have h2 := Zt9 (j := j - 1) (by omega) h.2 i (by omega) g
      refine h2 ?_
      rw [show j - 1 - i = (j - 1 - 1 - i) + 1 by omega] at hg
      simpa using hg
def Zy7 {α : Type} {p : α -> α -> Bool} : ∀ {fs : List α} {ms : List Nat} {j : Nat} {seen : List α}, seen.length = j -> cQ.go p fs ms j seen = true ->
    ∀ (b i : Nat) (f g : α), fs[b]? = some f -> i < j + b -> (seen.reverse ++ fs)[i]? = some g -> (ms.getD b 0).testBit i = true \/ p g f = true
  | [], ms, j, seen, hl, _, b, i, f, g, hf, _, _ => by simp at hf
  | f0 :: fs, ms, j, seen, hl, h, b, i, f, g, hf, hi, hg => by
    simp only [cQ.go, gI] at h
    cases b with
    | zero =>
      simp only [C4, aq] at hf
      subst hf
      have hm : ms.getD 0 0 = ms.headD 0 := by cases ms <;> rfl
      rw [hm]
      refine Zt9 hl h.1 i (by omega) g ?_
      rw [mj (by simp; omega), List.getElem?_reverse (by omega)] at hg
      rw [<- hl]; exact hg
    | succ b =>
      have hm : ms.getD (b + 1) 0 = ms.tail.getD b 0 := by cases ms <;> simp
      rw [hm]
      refine Zy7 (j := j + 1) (seen := f0 :: seen) (by simp [hl]) h.2 b i f g (by simpa using hf) (by omega) ?_
      simpa using hg
def Zy6 {α : Type} {p : α -> α -> Bool} {xs : List α} {ms : List Nat} (h : cQ p xs ms = true) {i j : Nat} {a b : α} (hij : i < j) (ha : xs[i]? = some a) (hb : xs[j]? = some b) : (ms.getD j 0).testBit i = true \/ p a b = true :=
  Zy7 (seen := []) rfl h j i b a hb (by omega) (by simpa using ha)
def Zkj : ∀ (os : List Oper) (acc : List Nat) (k : Nat), k < acc.length -> (wN os acc).getD k 0 = acc.getD k 0
  | [], acc, k, _ => rfl
  | o :: os, acc, k, h => by
    simp only [wN]
    rw [Zkj os _ k (by simp; omega)]
    simp only [List.getD_eq_getElem?_getD]
    rw [mj h]
def Zpi : ∀ (os : List Oper) (acc : List Nat) (j : Nat) (o : Oper), os[j]? = some o ->
    ∃ pre : List Nat, pre.length = acc.length + j /\ (wN os acc).getD (acc.length + j) 0 = Of o pre /\ ∀ k, k < acc.length + j -> (wN os acc).getD k 0 = pre.getD k 0
  | [], acc, j, o, h => by simp at h
  | o0 :: os, acc, 0, o, h => by
    simp only [C4, aq] at h
    subst h
    refine ⟨acc, rfl, ?_, fun k hk => ?_⟩
    · simp only [wN]
      rw [Zkj os _ _ (by simp)]
      simp [List.getD_eq_getElem?_getD]
    · exact Zkj (o0 :: os) acc k hk
  | o0 :: os, acc, j + 1, o, h => by
    obtain ⟨pre, h1, h2, h3⟩ := Zpi os (acc ++ [Of o0 acc]) j o (by simpa using h)
    simp only [jm, bk, List.length_nil] at h1 h2 h3
    refine ⟨pre, by omega, ?_, ?_⟩
    · rw [show acc.length + (j + 1) = acc.length + (0 + 1) + j by omega]; exact h2
    · intro k hk; exact h3 k (by omega)
def Ycd {o : Oper} {ms : List Nat} {i : Nat} (h : (Of o ms).testBit i = true) : ∃ e ∈ o.after, Region.binds .any e = true /\ (i = e.on \/ (ms.getD e.on 0).testBit i = true) := by
 have key : ∀ (l : List Edge) (s : Nat), (l.foldl (fun s e => if Region.binds .any e then s ||| 2 ^ e.on ||| ms.getD e.on 0 else s) s).testBit i = true ->
     s.testBit i = true \/ ∃ e ∈ l, Region.binds .any e = true /\ (i = e.on \/ (ms.getD e.on 0).testBit i = true) := by
   intro l
   induction l with
   | nil => intro s h; exact .inl h
   | cons e l ih =>
     intro s h
     simp only [List.foldl_cons] at h
     rcases ih _ h with h | ⟨e', h1, h2⟩
     · split at h
       · rename_i hb
         simp only [Nat.testBit_or, I4] at h
         rcases h with (h | h) | h
         · exact .inl h
         · rw [Nat.testBit_two_pow] at h
           exact .inr ⟨e, by simp, hb, .inl (by simpa using (of_decide_eq_true h).symm)⟩
         · exact .inr ⟨e, by simp, hb, .inr h⟩
       · exact .inl h
     · exact .inr ⟨e', by simp [h1], h2⟩
 unfold Of at h;rw [<- Array.foldl_toList] at h;rcases key _ _ h with h | ⟨e, h1, h2⟩
 ·simp at h
 exact ⟨e, by simpa using h1, h2⟩
def Yli {ops : Array Oper} {j i : Nat} {o : Oper} (ho : ops[j]? = some o) (h : ((wN ops.toList []).getD j 0).testBit i = true) :
    ∃ e ∈ o.after, Region.binds .any e = true /\ (i = e.on \/ ((wN ops.toList []).getD e.on 0).testBit i = true) := by
 obtain ⟨pre, h1, h2, h3⟩ := Zpi ops.toList [] j o (by rw [Em]; exact ho);simp only [List.length_nil, yE] at h1 h2 h3;rw [h2] at h;obtain ⟨e, g1, g2, g3⟩ := Ycd h;refine ⟨e, g1, g2, g3.imp id fun hb => ?_⟩;by_cases he : e.on < j
 ·rw [h3 _ he]; exact hb
 have : pre.getD e.on 0 = 0 := by simp [List.getD_eq_getElem?_getD, h1, zB he]
 rw [this] at hb; simp at hb
def Yo9 (ops : Array Oper) (S : Nat -> Prop) : Prop := ∀ k i, S k -> ((wN ops.toList []).getD k 0).testBit i = true -> S i
def Zq1 {ops : Array Oper} {listed : Array Bool} (hc : Yo9 ops (fun k => listed.getD k false = true)) {j : Nat} (hj : j ∈ Region.ready .any ops listed) :
    j < ops.size /\ listed.getD j true = false /\ ∀ i, ((wN ops.toList []).getD j 0).testBit i = true -> listed.getD i false = true := by
 unfold Region.ready at hj;simp only [List.mem_filter, gm, gI, I3] at hj;obtain ⟨h1, h2, h3⟩ := hj;refine ⟨h1, h2, fun i hi => ?_⟩;have ho : ops[j]? = some ops[j] := Array.getElem?_eq_getElem h1;obtain ⟨e, g1, g2, g3⟩ := Yli ho hi;rw [ho] at h3;simp only [qc, g_, ZS, I4, I3] at h3;have he : listed.getD e.on false = true := by
  rcases h3 e g1 with h | h
  ·rw [g2] at h; cases h
  exact h
 rcases g3 with rfl | g3
 ·exact he
 exact hc _ _ he g3
mutual
def Sc (n : Nat) : V -> Prop
  | .ptr i _ => i < n
  | .slice i _ _ _ _ => i < n
  | .map i => i < n
  | .chan i => i < n
  | .func _ a c => GQ n a /\ GQ n c
  | .yield i => i < n
  | .iface _ v => Sc n v
  | .agg l => GQ n l
  | .aV l => GQ n l
  | _ => True
def GQ (n : Nat) : List V -> Prop
  | [] => True
  | v :: vs => Sc n v /\ GQ n vs
end
mutual
def VR.sc {μ : Mu} {n : Nat} (h : ∀ i l, μ i = some l -> i < n) : ∀ (v : V) (x : Value), VR μ v x -> Sc n v
  | .bool _, _, _ => by simp [Sc]
  | .int _ _, _, _ => by simp [Sc]
  | .wK _ _, _, _ => by simp [Sc]
  | .str _, _, _ => by simp [Sc]
  | .bJ, _, _ => by simp [Sc]
  | .ptr _ _, _, hx => by simp only [VR] at hx; obtain ⟨l, h1, _⟩ := hx; exact h _ _ h1
  | .aa, _, _ => by simp [Sc]
  | .slice _ _ _ _ _, _, hx => by simp only [VR] at hx; obtain ⟨l, c, h1, _⟩ := hx; exact h _ _ h1
  | .empty, _, _ => by simp [Sc]
  | .bQ, _, _ => by simp [Sc]
  | .map _, _, hx => by simp only [VR] at hx; obtain ⟨l, h1, _⟩ := hx; exact h _ _ h1
  | .bR, _, _ => by simp [Sc]
  | .chan _, _, hx => by simp only [VR] at hx; obtain ⟨l, h1, _⟩ := hx; exact h _ _ h1
  | .func _ a c, _, hx => by
    simp only [VR] at hx; obtain ⟨a', c', _, h2, h3⟩ := hx
    exact ⟨aU.sc h a a' h2, aU.sc h c c' h3⟩
  | .yield _, _, hx => by simp only [VR] at hx; obtain ⟨l, h1, _⟩ := hx; exact h _ _ h1
  | .bS, _, _ => by simp [Sc]
  | .iface _ v, _, hx => by simp only [VR] at hx; obtain ⟨y, _, h2⟩ := hx; exact VR.sc h v y h2
  | .aY, _, _ => by simp [Sc]
  | .agg vs, _, hx => by simp only [VR] at hx; obtain ⟨a, _, h2⟩ := hx; exact aU.sc h vs a h2
  | .aV vs, _, hx => by simp only [VR] at hx; obtain ⟨a, _, h2⟩ := hx; exact aU.sc h vs a h2
def aU.sc {μ : Mu} {n : Nat} (h : ∀ i l, μ i = some l -> i < n) : ∀ (vs : List V) (xs : List Value), aU μ vs xs -> GQ n vs
  | [], _, _ => trivial
  | v :: vs, _, hx => by
    simp only [aU] at hx
    obtain ⟨y, ys, _, h2, h3⟩ := hx
    exact ⟨VR.sc h v y h2, aU.sc h vs ys h3⟩
end
mutual
def VR.cut {μ μ' : Mu} {n : Nat} (h : ∀ i l, i < n -> μ i = some l -> μ' i = some l) : ∀ (v : V) (x : Value), Sc n v -> VR μ v x -> VR μ' v x
  | .bool _, _, _, hx => by simpa [VR] using hx
  | .int _ _, _, _, hx => by simpa [VR] using hx
  | .wK _ _, _, _, hx => by simpa [VR] using hx
  | .str _, _, _, hx => by simpa [VR] using hx
  | .bJ, _, _, hx => by simpa [VR] using hx
  | .ptr _ _, _, hs, hx => by simp only [VR, Sc] at *; obtain ⟨l, h1, h2⟩ := hx; exact ⟨l, h _ _ hs h1, h2⟩
  | .aa, _, _, hx => by simpa [VR] using hx
  | .slice _ _ _ _ _, _, hs, hx => by simp only [VR, Sc] at *; obtain ⟨l, c, h1, h2⟩ := hx; exact ⟨l, c, h _ _ hs h1, h2⟩
  | .empty, _, _, hx => by simpa [VR] using hx
  | .bQ, _, _, hx => by simpa [VR] using hx
  | .map _, _, hs, hx => by simp only [VR, Sc] at *; obtain ⟨l, h1, h2⟩ := hx; exact ⟨l, h _ _ hs h1, h2⟩
  | .bR, _, _, hx => by simpa [VR] using hx
  | .chan _, _, hs, hx => by simp only [VR, Sc] at *; obtain ⟨l, h1, h2⟩ := hx; exact ⟨l, h _ _ hs h1, h2⟩
  | .func _ a c, _, hs, hx => by
    simp only [VR, Sc] at *; obtain ⟨a', c', h1, h2, h3⟩ := hx
    exact ⟨a', c', h1, aU.cut h a a' hs.1 h2, aU.cut h c c' hs.2 h3⟩
  | .yield _, _, hs, hx => by simp only [VR, Sc] at *; obtain ⟨l, h1, h2⟩ := hx; exact ⟨l, h _ _ hs h1, h2⟩
  | .bS, _, _, hx => by simpa [VR] using hx
  | .iface _ v, _, hs, hx => by simp only [VR, Sc] at *; obtain ⟨y, h1, h2⟩ := hx; exact ⟨y, h1, VR.cut h v y hs h2⟩
  | .aY, _, _, hx => by simpa [VR] using hx
  | .agg vs, _, hs, hx => by simp only [VR, Sc] at *; obtain ⟨a, h1, h2⟩ := hx; exact ⟨a, h1, aU.cut h vs a hs h2⟩
  | .aV vs, _, hs, hx => by simp only [VR, Sc] at *; obtain ⟨a, h1, h2⟩ := hx; exact ⟨a, h1, aU.cut h vs a hs h2⟩
def aU.cut {μ μ' : Mu} {n : Nat} (h : ∀ i l, i < n -> μ i = some l -> μ' i = some l) : ∀ (vs : List V) (xs : List Value), GQ n vs -> aU μ vs xs -> aU μ' vs xs
  | [], _, _, hx => by simpa [aU] using hx
  | v :: vs, _, hs, hx => by
    simp only [aU, GQ] at *
    obtain ⟨y, ys, h1, h2, h3⟩ := hx
    exact ⟨y, ys, h1, VR.cut h v y hs.1 h2, aU.cut h vs ys hs.2 h3⟩
end
def OM.cut {P : Program} {μ μ' μT : Mu} {w wT : World} {n : Nat} (h : ∀ i l, i < n -> μ i = some l -> μ' i = some l) (hT : ∀ i l, μT i = some l -> i < n) {o : O} {l lT : L} (ht : OM P μT wT o lT) (ho : OM P μ w o l) : OM P μ' w o l := by
 cases o with
 | cells c e rw => obtain ⟨c', lo, hi, h1, h2, h3, h4, h5⟩ := ho;obtain ⟨cT, _, _, _, _, _, t4, _⟩ := ht;exact ⟨c', lo, hi, h1, h2, h3, fun j v hv => by obtain ⟨x, a, b⟩ := h4 j v hv;obtain ⟨xT, _, bT⟩ := t4 j v hv;exact ⟨x, a, VR.cut h v x (VR.sc hT v xT bT) b⟩, h5⟩
 | map es =>
  obtain ⟨iM, h1, h2⟩ := ho;obtain ⟨esT, _, t2⟩ := ht;refine ⟨iM, h1, ?_⟩;have : ∀ (es : List (V × V)) (xs xT : List MapEntry) (b bT : Nat), js μ es xs b -> js μT es xT bT -> js μ' es xs b := by
   intro es;induction es with
   | nil => intro xs xT b bT h1 _; exact h1
   | cons p es ih => intro xs xT b bT h1 h2;obtain ⟨k, u⟩ := p;obtain ⟨e, ys, rfl, a1, a2, a3, a4⟩ := h1;obtain ⟨eT, yT, rfl, b1, b2, _, b4⟩ := h2;exact ⟨e, ys, rfl, VR.cut h k _ (VR.sc hT k _ b1) a1, VR.cut h u _ (VR.sc hT u _ b2) a2, a3, ih ys yT _ _ a4 b4⟩
  exact this _ _ _ _ _ h2 t2
 | chan cap buf => obtain ⟨b', s, r, h1, h2⟩ := ho;obtain ⟨bT, _, _, _, t2⟩ := ht;exact ⟨b', s, r, h1, aU.cut h _ _ (aU.sc hT _ _ t2) h2⟩
 | eL s pos => simp only [OM] at *; exact ho
 | loop R => obtain ⟨fn, tmps, gK, gO, ld, h1, h2, h3, h4, h5⟩ := ho;obtain ⟨_, tT, _, _, ldT, _, t2, _, _, t5⟩ := ht;refine ⟨fn, tmps, gK, gO, ld, h1, ⟨h2.1, fun t v hv => ?_⟩, h3, h4, h _ _ (hT _ _ t5) h5⟩;obtain ⟨x, a, b⟩ := h2.2 t v hv;obtain ⟨xT, _, bT⟩ := t2.2 t v hv;exact ⟨x, a, VR.cut h v x (VR.sc hT v xT bT) b⟩
 | defs b => simp only [OM] at *; exact ho
 | dead => trivial
end
end Go.Mx
