/-The machine M's runs stand for the Go mo-/
import Derived.Test.YtfeehbdhikiikaaGreatDoorMxOps
import Derived.Conc.LoneSelect
set_option linter.all false
namespace Go.Mx
open Go
variable{fn:Func}{f:FuncId}{ms ws:List Nat}{args vs:List V}{xs:List Value}{i j l n:Nat}{o:Oper}{op:iH}{mf:nD}
section
variable {P:Program} {μ:Mu} {w:World} {st aB:St} {fr bK:Fr} {a:Act} {call:cQ} {v:V} {lb:Option Nat}
def Zov:∀(vs:List V) (r:T V) (i t:Nat),(AR r i vs).get t=if i<=t/\t<i+vs.length then vs[t-i]? else r.get t
 |[],r,i,t=>by simp[AR];omega
 |v::vs,r,i,t=>by
  simp only[AR]
  rw[Zov vs (r.set i v) (i+1) t,T.ag]
  by_cases h:t=i
  ·subst h
   rw[ak (by omega),av rfl,av (by simp)];simp
  ·by_cases h2:i+1<=t/\t<i+1+vs.length
   ·rw[av h2,av (by simp;omega)]
    rw[show t-i=(t-(i+1))+1 by omega];simp
   ·rw[ak h2,ak h,ak (by simp;omega)]
def Ymr(h:aV μ vs xs)(hl:vs.length<=n):RR μ (AR .nil 0 vs) n ((⟨xs⟩:Array Value)++Array.replicate (n-(⟨xs⟩:Array Value).size) undef):=by
 have uU:=h.length;refine⟨by simp;omega,fun t v hv=>?_⟩;rw[Zov]at hv;split at hv
 ·rename_i ht;simp only[Nat.sub_zero]at hv;obtain⟨x,hx,hr⟩:=h.get hv;refine⟨x,?_,hr⟩;rw[Array.getElem?_append_left (by simp;omega)];simpa using hx
 simp[T.get]at hv
def Ug(tmps:Array Value):ResultVar->Sem Value
 |.tmp t=>pure (tmps.getD t undef)
 |.cell a t=>do loadVar t (<-asAddr (tmps.getD a undef))
def Zw5(hh:bq P μ w st){r:T V}{n:Nat}{tmps:Array Value}(hr:RR μ r n tmps):∀{rs:List ResultVar} {ms:List FY},Gp P rs=some ms->∀{vs:List V},gF r st ms=some vs->
  ∃xs,(rs.mapM (Ug tmps)).run P w=.ok xs w/\aV μ vs xs
 |[],ms,hc,vs,hv=>by
  simp only[Gp,ar]at hc;subst hc
  simp only[gF,ar]at hv;subst hv
  exact⟨[],by simp,by simp[aV]⟩
 |.tmp t::rs,ms,hc,vs,hv=>by
  simp only[Gp,mS]at hc
  obtain⟨ms',rD,rfl⟩:=hc
  simp only[gF]at hv
  split at hv
  ·rename_i u us hu uW
   simp only[ar]at hv;subst hv
   obtain⟨xs,h1,h2⟩:=Zw5 hh hr rD uW
   obtain⟨x,hx,Dz⟩:=hr.2 _ _ hu
   refine⟨x::xs,?_,kW.2 ⟨_,_,rfl,Dz,h2⟩⟩
   simp only[List.mapM_cons,Ug,Sem.run_bind,Sem.run_pure,Result.andThen_ok,h1]
   simp[I8,hx]
  ·cases hv
 |.cell t ty::rs,ms,hc,vs,hv=>by
  simp only[Gp]at hc
  split at hc
  ·rename_i k ms' hk rD
   simp only[ar]at hc;subst hc
   simp only[gF]at hv
   split at hv
   ·rename_i i o us hu uW
    split at hv
    ·rename_i c e sO aA
     split at hv
     ·rename_i u fJ
      simp only[ar]at hv;subst hv
      obtain⟨xs,h1,h2⟩:=Zw5 hh hr rD uW
      obtain⟨x,hx,l,hl,rfl⟩:=hr.2 _ _ hu
      have AT:=hh.row hl aA
      have zg:∃y,(loadVar ty ⟨l.b,l.d+o,none⟩).run P w=.ok y w/\VR μ u y:=by
       cases k with
       |none=>
        simp only[aS]at fJ
        obtain⟨y,hy,hv⟩:=AT.cell fJ
        exact⟨y,by simp[loadVar,Zql hk,Result.andThen,hy],hv⟩
       |some k=>
        simp only[aS]at fJ
        split at fJ
        ·rename_i q hq
         simp only[ar]at fJ;subst fJ
         obtain⟨ys,g1,_,g3,_⟩:=AT.BL hq
         exact⟨.agg ys.toArray,by simp[loadVar,(Mf hk).1,(Mf hk).2,Result.andThen,g3],ys,rfl,g1⟩
        ·cases fJ
      obtain⟨y,rS,zh⟩:=zg
      refine⟨y::xs,?_,kW.2 ⟨_,_,rfl,zh,h2⟩⟩
      have kO:tmps.getD t undef=.pointer (some ⟨l.b,l.d+o,none⟩):=by simp[I8,hx]
      have zal:(asAddr (tmps.getD t undef)).run P w=.ok ⟨l.b,l.d+o,none⟩ w:=by rw[kO];rfl
      simp only[List.mapM_cons,Ug,Sem.run_bind,zal,Sem.run_pure,Result.andThen_ok,rS,h1]
     ·cases hv
    ·cases hv
   ·cases hv
  ·cases hc
def Zw4(hh:bq P μ w st){r:T V}{tmps:Array Value}(hr:RR μ r n tmps){ms:List FY}(hc:Gp P fn.results.toList=some ms)(hv:gF r st ms=some vs):
  ∃x,(results fn tmps).run P w=.ok x w/\VR μ (GL vs) x:=by
 obtain⟨xs,h1,h2⟩:=Zw5 hh hr hc hv;have hl:=h2.length;refine⟨if h:xs.length=1 then xs[0] else .tuple ⟨xs⟩,?_,?_⟩
 ·show (do let vs <-fn.results.mapM (Ug tmps);pure (if h:vs.size=1 then vs[0] else .tuple vs):Sem Value).run P w=_;rw[Array.mapM_eq_mapM_toList];simp only[Sem.run_bind,Sem.run_map,h1,Result.andThen_ok,Sem.run_pure];rfl
 rcases vs with _|⟨u,_|⟨u',vs⟩⟩
 ·simp only[aV]at h2;subst h2;exact⟨[],rfl,by simp[aV]⟩
 ·obtain⟨y,ys,rfl,g1,g2⟩:=kW.1 h2;simp only[aV]at g2;subst g2;exact g1
 rw[dif_neg (by rw[hl];simp)];exact⟨xs,rfl,h2⟩
def Zzf{fn:Func}{tmps:Array Value}{R:Ending->World->Prop}:∀{ms:List Nat} {ds:List Deferred} {st fz:St} {w:World},bq P μ w st->rG μ ms ds->shut st ms=some fz->
  (∀w' ws,bN P μ w st μ w' fz ws->∃v,(results fn tmps).run P w'=.ok v w'/\R (.returned v) w')->LeavesInM Fence.wide 0 P fn tmps R ds .returning w
 |[],ds,st,fz,w,hh,hd,hs,hR=>by
  simp only[rG]at hd;subst hd
  simp only[shut,ar]at hs;subst hs
  exact hR w [] (bN.refl hh)
 |m::ms,ds,st,fz,w,hh,hd,hs,hR=>by
  obtain⟨l,GS,h1,rfl,h3⟩:=hd
  simp only[shut]at hs
  split at hs
  ·rename_i hg
   have AT:=hh.get h1 hg
   have Po:bN P μ w st μ (w.putObj l.b (.deferred none)) (st.write m (.defs false)) [m]:=
    bN.write hh h1 hg rfl rfl rfl rfl (World.putObj_size) (fun b hb=>World.putObj_heap_other hb) (World.putObj_heap_same (hh.dw m l h1).2)
   refine⟨by simp,.inl ⟨l.b,_,rfl,run_takeDeferred AT,?_⟩⟩
   exact Zzf Po.hr h3 hs fun w' ws kj=>hR w' _ (Po.trans kj)
  ·cases hs
def bN.fold{μ':Mu}{w':World}(h0:bq P μ w st)(h:bN P μ w {st with w:=[]} μ' w' aB ws):bN P μ w st μ' w' {aB with w:=az st.n aB.w++st.w} (az st.n aB.w):=by
 have vi:∀(l:List Nat) (i:Nat),i<st.n->(i∈az st.n l↔i∈l):=by
  intro l i hi;induction l with
  |nil=>simp[az]
  |cons j l ih=>
   simp only[az];split
   ·unfold xh;split
    ·rename_i hc;simp only[iP,ih];simp only[TU]at hc;constructor
     ·exact .inr
     rintro(rfl|h)
     ·exact ih.1 hc
     exact h
    simp only[iP,ih]
   simp only[iP,ih];constructor
   ·exact .inr
   rintro(rfl|h)
   ·omega
   exact h
 have uH:aB.w=ws:=by have:=h.wl;simpa using this
 have hs:∀i,i<st.n->(i∈az st.n aB.w↔i∈ws):=fun i hi=>by rw[vi _ i hi,uH]
 exact {
  hr:=⟨h.hr.dw,h.hr.obj,h.hr.inj,h.hr.je⟩
  ext:=h.ext
  iy:=h.iy
  wl:=rfl
  fe:=⟨h.fe.os,h.fe.tape,h.fe.output,h.fe.size,fun b hb dV=>h.fe.block b hb fun i hi l hl=>dV i ((hs i (h0.dw i l hl).1).2 hi) l hl⟩
  new:=fun i l hi hl=>by
   rcases h.new i l hi hl with h'|⟨j,hj,C9,r⟩
   ·exact .inl h'
   ·exact .inr ⟨j,(hs j C9).2 hj,C9,r⟩
  ad:=fun i hi dV=>h.ad i hi fun hc=>dV ((hs i hi).2 hc)
  grow:=h.grow
  full:=h.full
  AJ:=fun i hi hn=>h.AJ i ((hs i hn).1 hi) hn}
def bq.now(h:bq P μ w st)(l:List Nat):bq P μ w {st with w:=l}:=⟨h.dw,h.obj,h.inj,h.je⟩
def Yhy{code:rY}(pZ:MJ P code)(hf:P.funcs[f]?=some fn)(hc:Ar P f=some mf)(hh:bq P μ w st)(hx:aV μ args xs)
  (h:EJ mf code args st=some (v,aB)):CallsIn Fence.wide 0 P f ⟨xs⟩ w (JP fun x w'=>∃μ' ws,VR μ' v x/\bN P μ w st μ' w' aB ws):=by
 unfold Ar at hc;rw[hf]at hc;simp only at hc;split at hc
 ·rename_i c rs hb hrs;simp only[ar]at hc;subst hc;unfold EJ at h;split at h
  ·cases h
  rename_i hle;simp only at hle h;have fin:∀(ex:Ex) (eN:Fr) (cg:St),(ex=.normal\/ex=.ret)->code none (jH P c) {r:=AR .nil 0 args,n:=fn.ntmps,marks:=[]} {st with w:=[]}=some (ex,eN,cg)->
    (match shut cg eN.marks with
     |none=>none
     |some fz=>match gF eN.r fz rs with
      |some vs=>some (GL vs,{fz with w:=az st.n fz.w++st.w})
      |none=>none)=some (v,aB)->
    CallsIn Fence.wide 0 P f ⟨xs⟩ w (JP fun x w'=>∃μ' ws,VR μ' v x/\bN P μ w st μ' w' aB ws):=by
   intro ex eN cg hex bY fK
   split at fK
   ·cases fK
   ·rename_i fz Pp
    split at fK
    ·rename_i vs I7
     simp only[ar,bB]at fK
     obtain⟨rfl,rfl⟩:=fK
     refine callsIn_of_wp_marks hf hb trivial (wpIn_mono (pZ none c _ _ _ _ _ bY μ w _ none (hh.now []) ⟨Ymr hx (AK hle),rfl⟩ trivial) fun e a' w' hp=>?_)
     obtain⟨rfl,μ1,ws,hs,B8⟩:=hp
     have hl:LeavesInM Fence.wide 0 P fn a'.tmps (JP fun x w'=>∃μ' ws,VR μ' (GL vs) x/\bN P μ w st μ' w' {fz with w:=az st.n fz.w++st.w} ws) a'.defers .returning w':=by
      refine Zzf hs.hr B8.2 Pp fun w2 ws2 p_=>?_
      obtain⟨x,wK,zH⟩:=Zw4 p_.hr B8.1 hrs I7
      exact⟨x,wK,μ1,_,zH,(hs.trans p_).fold hh⟩
     rcases hex with rfl|rfl
     ·exact hl
     ·exact hl
    ·cases fK
  unfold Zx9 at h;split at h
  ·cases h
  ·rename_i ex eN cg aX bY;exact fin ex eN cg (by cases ex with|normal=>exact .inl rfl|ret=>exact .inr rfl|exit id=>exact(aX id rfl).elim) (by assumption) h
  cases h
 cases hc
def Zrh:∀{ps:List Nat} {vs:List V} {r r':T V} {n:Nat} {tmps:Array Value} {xs:List Value},RR μ r n tmps->aV μ vs xs->DX r n ps vs=some r'->
  xs.length=ps.length/\RR μ r' n ((ps.zip xs).foldl (fun (tmps:Array Value) (p:Nat×Value)=>tmps.setIfInBounds p.1 p.2) tmps)
 |[],[],r,r',n,tmps,xs,hr,hx,h=>by
  simp only[aV]at hx;subst hx
  simp only[DX,ar]at h;subst h
  exact⟨rfl,hr⟩
 |[],_::_,r,r',n,tmps,xs,hr,hx,h=>by simp[DX]at h
 |_::_,[],r,r',n,tmps,xs,hr,hx,h=>by simp[DX]at h
 |p::ps,v::vs,r,r',n,tmps,xs,hr,hx,h=>by
  obtain⟨y,ys,rfl,h1,h2⟩:=kW.1 hx
  simp only[DX]at h
  split at h
  ·rename_i hp
   obtain⟨g1,g2⟩:=Zrh (hr.set hp h1) h2 h
   exact⟨by simp[g1],by simpa using g2⟩
  ·cases h
def Yd2(e:Ex):((sM e).bind BJ).isNone=(sM e).isNone:=by cases e<;>rfl
def bN.loop(hh:bq P μ w st){i:Nat}{l:L}(hl:μ i=some l){R R':NA}(hg:st.h.get i=some (.loop R))(h1:R'.r=R.r)(h2:R'.n=R.n)(h3:R'.ps=R.ps)(h4:R'.assign=R.assign)(h5:R'.body=R.body)(h6:R'.defs=R.defs):
  ∃rec,w.heap[l.b]?=some (.loop rec)/\rec.state=R.st/\rec.pending=R.fN.bind BJ/\
   bN P μ w st μ (w.putObj l.b (.loop {rec with state:=R'.st,pending:=R'.fN.bind BJ})) (st.write i (.loop R')) [i]:=by
 obtain⟨fn,tmps,gY,gZ,ld,g1,g2,g3,g4,g5⟩:=hh.get hl hg;refine⟨_,g1,rfl,rfl,bN.write hh hl hg rfl rfl rfl rfl World.putObj_size (fun b hb=>World.putObj_heap_other hb) ⟨fn,tmps,gY,gZ,ld,?_,?_,?_,?_,?_⟩⟩
 ·rw[World.putObj_heap_same (hh.dw i l hl).2,h3]
 ·rw[h1,h2];exact g2
 ·rw[h4];exact g3
 ·rw[h5];exact g4
 rw[h6];exact g5
def Ykx{code:rY}(pZ:MJ P code){L0:L}(hh:bq P μ w st)(hl:μ l=some L0)(hx:aV μ args xs)(h:DY code l args st=some (v,aB)):
  ∃f tmps gY gZ,(Instr.yield L0.b ⟨xs⟩).run P w=.ok (.round L0.b f tmps gY gZ) w/\RoundIn Fence.wide 0 P L0.b f tmps gY gZ w (JP fun x w'=>∃μ' ws,VR μ' v x/\bN P μ w st μ' w' aB ws):=by
 unfold DY at h;split at h
 ·rename_i R hg;obtain⟨fn,tmps,gY,gZ,ld,g1,g2,g3,g4,g5⟩:=hh.get hl hg;split at h
  ·cases h
  rename_i r0 gI;obtain⟨q1,q2⟩:=Zrh g2 hx gI;have hy:=run_yield (P:=P) (args:=⟨xs⟩) g1 (by simpa using q1);refine⟨_,_,_,_,hy,?_⟩;have htm:(((⟨R.ps⟩:Array Nat).zip (⟨xs⟩:Array Value)).foldl (fun tmps (p:Nat×Value)=>tmps.setIfInBounds p.1 p.2) tmps)=(R.ps.zip xs).foldl (fun (tmps:Array Value) (p:Nat×Value)=>tmps.setIfInBounds p.1 p.2) tmps:=by simp
  refine roundIn_of_wpIn (F:=Fence.wide) trivial ?_;split at h
  ·rename_i eN cg GV;rw[<-g3]at GV;refine wpIn_mono (pZ (some l) gY _ _ _ _ _ GV μ w {tmps:=(((⟨R.ps⟩:Array Nat).zip (⟨xs⟩:Array Value)).foldl (fun tmps (p:Nat×Value)=>tmps.setIfInBounds p.1 p.2) tmps),defers:=[]} (some L0.b) hh ⟨by rw[htm];exact q2,rfl⟩ ⟨L0,hl,rfl⟩) fun e a1 w1 hp=>?_;have uZ:=hp;obtain⟨he,μ1,ws1,zT,B8⟩:=hp;refine uZ.then (fun _=>?_) (fun aX=>absurd rfl aX);split at h
   ·rename_i R1 hg1;split at h
    ·rename_i JQ;have JR:=zT.mono hh _ _ hl;obtain⟨Pq,k1,k2,k3,k4⟩:=bN.loop (R':={R1 with st:=.busy}) zT.hr JR hg1 rfl rfl rfl rfl rfl rfl;refine⟨_,run_beginRound k1 (k2.trans JQ),?_⟩;have Pr:({Pq with state:=LoopState.busy,pending:=R1.fN.bind BJ}:Loop)={Pq with state:=.busy}:=by rw[<-k3]
     rw[Pr]at k4;split at h
     ·rename_i e2 Bc fz GW;rw[<-g4]at GW;refine wpIn_mono (pZ (some l) gZ _ _ _ _ _ GW μ1 _ a1 (some L0.b) k4.hr (B8.mono (k4.mono zT.hr)) ⟨L0,JR,rfl⟩) fun e a2 w2 AU=>?_;obtain⟨wZ,μ2,ws2,p_,eI⟩:=AU;split at h
      ·rename_i R2 hg2;simp only[ar,bB]at h;obtain⟨rfl,rfl⟩:=h;have iC:=p_.mono k4.hr _ _ JR;obtain⟨zam,m1,m2,m3,m4⟩:=bN.loop (R':={R2 with st:=Lf (sM e2),fN:=sM e2}) p_.hr iC hg2 rfl rfl rfl rfl rfl rfl;have fK:=run_endRound (P:=P) ((sM e2).bind BJ) m1;have fF:(if ((sM e2).bind BJ).isNone=true then LoopState.ready else LoopState.done)=Lf (sM e2):=by cases e2<;>rfl
       rw[fF,Yd2]at fK;have hR:JP (fun x w'=>∃μ' ws,VR μ' (.bool (sM e2).isNone) x/\bN P μ w st μ' w' (fz.write l (.loop {R2 with st:=Lf (sM e2),fN:=sM e2})) ws) (.returned (.bool (sM e2).isNone))
         (w2.putObj L0.b (.loop {zam with state:=Lf (sM e2),pending:=(sM e2).bind BJ})):=
        ⟨μ2,_,by simp[VR],((zT.trans k4).trans p_).trans m4⟩;subst wZ;cases e2 with
       |normal=>exact⟨_,_,fK,hR⟩
       |exit id=>exact⟨_,_,fK,hR⟩
       |ret=>exact⟨_,_,fK,hR⟩
      cases h
     cases h
    cases h
   cases h
  cases h
 cases h
def Zy1(P:Program)(eg:Nat->Option nD):Prop:=
 ∀f mf,eg f=some mf->Ar P f=some mf/\∀fn,P.funcs[f]?=some fn->(fn.name== "runtime.NumGoroutine")=false
def Ybj(h:Ar P f=some mf):∃fn,P.funcs[f]?=some fn/\fn.body.isSome=true:=by
 unfold Ar at h;split at h
 ·rename_i fn hf;refine⟨fn,hf,?_⟩;split at h
  ·rename_i hb _;rw[hb];rfl
  cases h
 cases h
def Zyt{eg:Nat->Option nD}{code:rY}(ht:Zy1 P eg)(pZ:MJ P code):kK P (Ai eg code):=by
 intro g args st v aB h μ w G xs hh hg hx;unfold Ai at h;split at h
 ·rename_i f first iI
  split at h
  ·rename_i mf hmf;obtain⟨a',c',rfl,h1,h2⟩:=hg;obtain⟨hc,Ps⟩:=ht f mf hmf;obtain⟨fn,hf,hb⟩:=Ybj hc;refine⟨{target:=.fn (.func f) ⟨c'⟩,args:=⟨a'⟩++⟨xs⟩},by simp[Deferred.ofValue],.inl ⟨rfl,f,⟨a'++xs++c'⟩,?_,?_⟩⟩
   ·have hn:fn.name≠ "runtime.NumGoroutine" :=by simpa using Ps fn hf
    simp[invoke,callFunc,hf,hn];intro hq;rw[hq]at hb;cases hb
   exact Yhy pZ hf hc hh ((h1.append hx).append h2) h
  cases h
 ·rename_i l;obtain⟨L0,hl,rfl⟩:=hg;obtain⟨f,tmps,gY,gZ,q1,q2⟩:=Ykx pZ hh hl hx h;refine⟨{target:=.fn (.yield L0.b) #[],args:=⟨xs⟩},by simp[Deferred.ofValue],.inr ⟨rfl,L0.b,f,tmps,gY,gZ,?_,q2⟩⟩;simp[invoke,q1]
 cases h
def Yrf{a2:Act}{w4:World}{Bc:Fr}{stf:St}:∀(q:Option Ex),xK P μ w st (match q with|none=>.normal|some e=>e) Bc stf (MK (match q with|none=>.normal|some e=>e)) a2 w4->
  (match q.bind BJ with
   |none=>xK P μ w st (match q with|none=>.normal|some e=>e) Bc stf .normal a2 w4
   |some c=>c.wpIn (FE lb) 0 P (xK P μ w st (match q with|none=>.normal|some e=>e) Bc stf) a2 w4)
 |none,h=>h
 |some .normal,h=>h
 |some (.exit _),h=>wpIn_exit h
 |some .ret,h=>wpIn_ret h
def Zzn(cA:kK P call):Yjo P call:=by
 intro ro g s ps gY gZ fr st ex bK aB hs h μ w a lb hh hf rf;unfold Bb at h;split at h
 ·cases h
 rename_i gv hgv;have hG:=dt hh hf.1 hs hgv;rw[Mh]at h;obtain⟨hy,h⟩:=h;have xL:gv.Io=false:=by simpa using hy
 split at h
 ·cases h
 rename_i cg d mk km;split at h
 ·cases h
 rename_i x fz hc;split at h
 ·rename_i R hg2;rw[Mh]at h;obtain⟨Pt,h⟩:=h;simp only[ar,bB]at h;obtain⟨rfl,rfl,rfl⟩:=h;refine wpIn_rangeFunc fun fn _=>?_;have common:∀(l:Nat) (mark:List Deferred) (w0:World) (μ0:Mu) (ws0:List Nat) (db:Nat),bN P μ w st μ0 w0 cg ws0->l=w0.heap.size->(∃ld,μ0 d=some ld/\ld.b=db)->
    (Instr.enterLoop fn a.tmps ps gY gZ (FE lb).round).run P w=.ok (l,mark) (w0.alloc (.loop {state:=.ready,pending:=none,fn,tmps:=a.tmps,params:=ps,assign:=gY,body:=gZ,defers:=db}))->
    (∀ms ds,rG μ0 ms ds->rG μ0 (mk++ms) (mark++ds))->
    ∃(l:Nat) (mark:List Deferred) (w₁:World) (d:Deferred) (w₁':World) (f:FuncId) (args:Array Value) (w₂:World),
     (Instr.enterLoop fn a.tmps ps gY gZ (FE lb).round).run P w=.ok (l,mark) w₁/\
     (resolve a.eval (rangeCall g l) 0).run P w₁=.ok d w₁'/\
     (∀f',Target.leads P w₁' d.target d.args=some f'->(FE lb).fn f')/\
     (invoke d.target d.args).run P w₁'=.ok (.enter f args) w₂/\
     ((FE lb).depth.isSome=true->1<=0)/\
     CallsIn (FE lb) (0-1) P f args w₂ (rangePost (FE lb) 0 P l (xK P μ w st (match R.fN with|none=>.normal|some e=>e) {fr with marks:=mk++fr.marks} (fz.write cg.n (.loop {R with st:=.exhausted}))) {a with defers:=mark++a.defers}):=by
   intro l mark w0 μ0 ws0 db iW dk hdb hent BY
   subst dk
   obtain⟨ld,vf,eY⟩:=hdb
   have jU:=iW.mono hh
   have aX:d≠cg.n:=fun hc=>by have:=(iW.hr.dw d ld vf).1;omega
   have jF:bN P μ0 w0 cg (fun i=>if i=cg.n then some ⟨w0.heap.size,0,0⟩ else μ0 i) (w0.alloc (.loop {state:=.ready,pending:=none,fn,tmps:=a.tmps,params:=ps,assign:=gY,body:=gZ,defers:=db}))
     (cg.alloc (.loop {st:=.ready,fN:=none,r:=fr.r,n:=fr.n,ps:=ps.toList,assign:=jH P gY,body:=jH P gZ,defs:=d})) []:=by
    have dW:∀i l,μ0 i=some l->(fun i=>if i=cg.n then some (⟨w0.heap.size,0,0⟩:L) else μ0 i) i=some l:=fun i l hl=>by
     have:=(iW.hr.dw i l hl).1
     simp only
     rw[ak (by omega)];exact hl
    refine bN.alloc iW.hr _ (.loop {state:=.ready,pending:=none,fn,tmps:=a.tmps,params:=ps,assign:=gY,body:=gZ,defers:=db}) 0 0 ⟨fn,a.tmps,gY,gZ,ld,?_,(hf.1.mono jU).mono dW,rfl,rfl,?_⟩
    ·show (w0.heap.push _)[w0.heap.size]?=_
     simp[eY]
    ·simp only;rw[ak aX];exact vf
   have zT:=iW.trans jF
   have rA:=zT.mono hh
   obtain⟨dd,qc,jh⟩:=cA gv [.yield cg.n] _ x fz hc _ _ (a.eval g) [.func (.yield w0.heap.size) #[] #[]] jF.hr (VR.mono rA _ _ hG) (kW.2 ⟨_,[],rfl,⟨⟨w0.heap.size,0,0⟩,by simp,rfl⟩,by simp[aV]⟩)
   rcases jh with⟨_,f,args,hinv,JL⟩|⟨hyy,_⟩
   ·refine⟨w0.heap.size,mark,_,dd,_,f,args,_,hent,?_,fun _ _=>trivial,hinv,fun hx=>by simp[Fence.wide]at hx,?_⟩
    ·have e0:(#[Operand.const (.func (.yield w0.heap.size) #[] #[])]).map a.eval=(⟨[.func (.yield w0.heap.size) #[] #[]]⟩:Array Value):=by simp[Act.eval]
     simp only[resolve,e0]
     exact qc
    ·refine CallsIn.mono (F:=Fence.wide) JL fun e w3 he=>?_
     cases e with
     |panicked _=>exact he.elim
     |outgrown=>exact he.elim
     |returned y=>
      obtain⟨μ2,ws2,_,p_⟩:=he
      have iC:μ2 cg.n=some ⟨w0.heap.size,0,0⟩:=p_.mono jF.hr _ _ (by simp)
      obtain⟨rec,m1,m2,m3,m4⟩:=bN.loop (R':={R with st:=.exhausted}) p_.hr iC hg2 rfl rfl rfl rfl rfl rfl
      have fK:=run_endLoop (P:=P) m1 (by rw[m2];exact Pt)
      have hsf:=(zT.trans p_).trans m4
      have zan:({rec with state:=.exhausted,pending:=R.fN.bind BJ}:Loop)={rec with state:=.exhausted}:=by rw[<-m3]
      rw[zan]at hsf
      have uK:oG μ2 {fr with marks:=mk++fr.marks} {a with defers:=mark++a.defers}:=by
       refine⟨(hf.1.mono rA).mono (p_.mono jF.hr),?_⟩
       exact((BY _ _ (hf.2.mono jU)).mono (jF.mono iW.hr)).mono (p_.mono jF.hr)
      have fin:xK P μ w st (match R.fN with|none=>.normal|some e=>e) {fr with marks:=mk++fr.marks} (fz.write cg.n (.loop {R with st:=.exhausted})) (MK (match R.fN with|none=>.normal|some e=>e)) {a with defers:=mark++a.defers} _:=⟨rfl,μ2,_,hsf,uK⟩
      exact⟨R.fN.bind BJ,_,by rw[<-m3];exact fK,Yrf R.fN fin⟩
   ·rw[xL]at hyy;cases hyy
  cases ro with
  |none=>
   cases lb with
   |some _=>exact rf.elim
   |none=>
    simp only[SV,ar,bB]at km;obtain⟨rfl,rfl,rfl⟩:=km;have Ef:bN P μ w st (fun i=>if i=st.n then some ⟨w.heap.size,0,0⟩ else μ i) (w.alloc (.deferred (some []))) (st.alloc (.defs true)) []:=
     bN.alloc hh (.defs true) (.deferred (some [])) 0 0 (by simp only[OM];show (w.heap.push _)[w.heap.size]?=_;simp);refine common (w.heap.size+1) [{target:=.collected w.heap.size,args:=#[]}] (w.alloc (.deferred (some []))) _ [] w.heap.size Ef (by simp) ⟨⟨w.heap.size,0,0⟩,by simp,rfl⟩ (run_enterLoop_outer ..) fun ms ds hd=>⟨⟨w.heap.size,0,0⟩,ds,by simp,rfl,hd⟩
  |some l0=>
   cases lb with
   |none=>exact rf.elim
   |some b=>
    obtain⟨L0,dk,rfl⟩:=rf;simp only[SV]at km;split at km
    ·rename_i R0 uN;simp only[ar,bB]at km;obtain⟨rfl,rfl,rfl⟩:=km;obtain⟨fn0,zbi,zbz,zbA,ld0,g1,g2,g3,g4,g5⟩:=hh.get dk uN;refine common w.heap.size [] w μ [] ld0.b (bN.refl hh) rfl ⟨ld0,g5,rfl⟩ ?_ (fun ms ds hd=>hd);show (Instr.enterLoop fn a.tmps ps gY gZ (some L0.b)).run P w=_;unfold Instr.enterLoop;simp only[Sem.run_bind,run_getLoop g1,run_newObj_alloc,Result.andThen,Sem.run_pure]
    cases km
 cases h
end
open Go Go.Conc
section
variable {P:Program} {μ:Mu} {w:World} {st aB:St} {fr bK:Fr} {a:Act} {call:cQ} {v:V} {lb:Option Nat}
def Yob(cA:kK P call)(hE:vS P):Yx9 P call:=fun id ops o rest d ch s z fr st ex bK aB zbB zao=>by cases zao
end
section
variable {r r' : T V} {st : St} {call : cQ}
def JS : ∀ {l : List Src}, (∀ s ∈ l, s.ev r = s.ev r') -> wu r l = wu r' l
  | [], _ => rfl
  | s :: l, h => by
    simp only [wu]
    rw [h s (by simp), JS fun s hs => h s (by simp [hs])]
def GX {o : Option Src} (h : ∀ s ∈ Dq o, s.ev r = s.ev r') : aC r o = aC r' o := by
 cases o with
 | none => rfl
 | some s => simp only [aC]; rw [h s (by simp [Dq])]
def Zhv : ∀ {l : List (Nat × Nat × Src)}, (∀ s ∈ l.map (·.2.2), s.ev r = s.ev r') -> Dk r l = Dk r' l
  | [], _ => rfl
  | (o, k, s) :: l, h => by
    simp only [Dk]
    rw [h s (by simp), Zhv fun s hs => h s (by simp only [pU, iP]; exact .inr hs)]
def Ygw(h : ∀ s ∈ op.EI, s.ev r = s.ev r') : cH op call r st = cH op call r' st := by
 cases op <;> simp only [iH.EI, iP, List.not_mem_nil, or_false, forall_eq_or_imp, forall_eq, iS] at h <;> simp only [cH];case build z ps => simp only [EC, Zhv h]
 case gg e s l z ps => simp only [Jn, Zhv h]
 case pS f a c => simp only [Ju, JS fun s hs => h s (.inl hs), JS fun s hs => h s (.inr hs)]
 case cG x lo hi => simp only [AO, h.1, GX fun s hs => h.2 s (.inl hs), GX fun s hs => h.2 s (.inr hs)]
 case oD z x lo hi m => simp only [rX, h.1, GX fun s hs => h.2 s (.inl (.inl hs)), GX fun s hs => h.2 s (.inl (.inr hs)), GX fun s hs => h.2 s (.inr hs)]
 case lY k z x lo hi m => simp only [BQ, h.1, GX fun s hs => h.2 s (.inl (.inl hs)), GX fun s hs => h.2 s (.inl (.inr hs)), GX fun s hs => h.2 s (.inr hs)]
 case mn l => simp only [AP, JS h]
 case mx l => simp only [tG, JS h]
 case call f l => simp only [AQ, h.1, JS fun s hs => h.2 s hs]
 case ext e l => simp only [JB, JS h]
 all_goals
   first
     | rfl
     | (simp only [Jl, Jm, Jo, Jp, Jr, Js, Mo, GF, Jt, Mp, GG, Jv, Jw, Jy, Jz, JA, Ag, Ms, Mt, GK, Mv, h]; done)
     | (simp only [GC, GD, Jq, ED, EE, GH, Mr, GI, Jx, GJ, Zur, Zpc, EF, EG, Mw, h.1, h.2]; done)
     | (simp only [GC, GJ, Zpc, h.1, h.2.1, h.2.2]; done)
def Zor(hs : op.pV = true)(h' : T O)(l' : List Nat){v : V}{aB : St}(h : cH op call r st = some (v, aB)) :
    (aB = st /\ cH op call r ⟨h', st.n, l'⟩ = some (v, ⟨h', st.n, l'⟩)) \/ ∃ o, aB = st.alloc o /\ cH op call r ⟨h', st.n, l'⟩ = some (v, St.alloc ⟨h', st.n, l'⟩ o) := by
 cases op <;> simp only [iH.pV, iE] at hs <;> simp only [cH] at h ⊢;case lV e z b zs x y =>
   unfold ED at *
   split at h
   · rename_i ha hb
     split at h
     · rename_i hc
       simp only [ar, bB] at h
       obtain ⟨rfl, rfl⟩ := h
       refine .inr ⟨_, rfl, ?_⟩
       rw [av hc]
     · cases h
   · cases h
 case bin b t ng x y =>
   refine .inl ?_
   unfold Jq at *
   split at h
   · cases b <;> first | (cases hs; done) | (simp only [TZ, reduceCtorEq] at h)
   · split at h
     · rename_i hm
       simp only [ar, bB] at h
       obtain ⟨rfl, rfl⟩ := h
       exact ⟨rfl, by simp_all⟩
     · cases h
   · cases h
 all_goals
   first
     | unfold Jl at * | unfold GC at * | unfold Mn at * | unfold Jm at * | unfold EC at * | unfold Jn at * | unfold Jp at * | unfold Jr at * | unfold Js at * | unfold Mo at * | unfold GF at * | unfold Mp at * | unfold Ju at * | unfold Mq at * | unfold GG at * | unfold ED at * | unfold AO at * | unfold Jv at * | unfold Jw at * | unfold EE at * | unfold GH at * | unfold Mr at * | unfold GI at * | unfold Jy at * | unfold JA at * | unfold OZ at * | unfold Ms at * | unfold AP at * | unfold tG at * | unfold JB at *
 all_goals
   repeat' split at h
   all_goals
     first
       | (cases h; done)
       | (simp only [ar, bB] at h
          obtain ⟨rfl, rfl⟩ := h
          first
            | (refine .inl ⟨rfl, ?_⟩; simp_all; done)
            | (refine .inr ⟨_, rfl, ?_⟩; simp_all; done))
def Zuo {α : Type} {p : α -> α -> Bool} {f : α} {m : Nat} : ∀ {seen : List α} {j : Nat}, seen.length = j -> c9.c_ p f m (j - 1) seen = true -> ∀ i, i < j -> ∀ g, seen[j - 1 - i]? = some g -> m.testBit i = true \/ p g f = true
  | [], j, hl, _, i, hi, g, hg => by simp at hg
  | g0 :: seen, j, hl, h, i, hi, g, hg => by
    simp only [c9.c_, gV, Jh] at h
    simp only [bl] at hl
    by_cases e : i = j - 1
    · subst e
      simp only [Nat.sub_self, De, ar] at hg
      subst hg
      exact h.1
    · have h2 := Zuo (j := j - 1) (by omega) h.2 i (by omega) g
      refine h2 ?_
      rw [show j - 1 - i = (j - 1 - 1 - i) + 1 by omega] at hg
      simpa using hg
def Zzx {α : Type} {p : α -> α -> Bool} : ∀ {fs : List α} {ms : List Nat} {j : Nat} {seen : List α}, seen.length = j -> c9.go p fs ms j seen = true ->
    ∀ (b i : Nat) (f g : α), fs[b]? = some f -> i < j + b -> (seen.reverse ++ fs)[i]? = some g -> (ms.getD b 0).testBit i = true \/ p g f = true
  | [], ms, j, seen, hl, _, b, i, f, g, hf, _, _ => by simp at hf
  | f0 :: fs, ms, j, seen, hl, h, b, i, f, g, hf, hi, hg => by
    simp only [c9.go, gV] at h
    cases b with
    | zero =>
      simp only [De, ar] at hf
      subst hf
      have hm : ms.getD 0 0 = ms.headD 0 := by cases ms <;> rfl
      rw [hm]
      refine Zuo hl h.1 i (by omega) g ?_
      rw [k_ (by simp; omega), List.getElem?_reverse (by omega)] at hg
      rw [<- hl]; exact hg
    | succ b =>
      have hm : ms.getD (b + 1) 0 = ms.tail.getD b 0 := by cases ms <;> simp
      rw [hm]
      refine Zzx (j := j + 1) (seen := f0 :: seen) (by simp [hl]) h.2 b i f g (by simpa using hf) (by omega) ?_
      simpa using hg
def Zzw{α : Type}{p : α -> α -> Bool}{xs : List α}(h : c9 p xs ms = true){a b : α}(hij : i < j)(ha : xs[i]? = some a)(hb : xs[j]? = some b) : (ms.getD j 0).testBit i = true \/ p a b = true :=
  Zzx (seen := []) rfl h j i b a hb (by omega) (by simpa using ha)
def Zke : ∀ (os : List Oper) (acc : List Nat) (k : Nat), k < acc.length -> (xu os acc).getD k 0 = acc.getD k 0
  | [], acc, k, _ => rfl
  | o :: os, acc, k, h => by
    simp only [xu]
    rw [Zke os _ k (by simp; omega)]
    simp only [List.getD_eq_getElem?_getD]
    rw [k_ h]
def Zpk : ∀ (os : List Oper) (acc : List Nat) (j : Nat) (o : Oper), os[j]? = some o ->
    ∃ pre : List Nat, pre.length = acc.length + j /\ (xu os acc).getD (acc.length + j) 0 = OR o pre /\ ∀ k, k < acc.length + j -> (xu os acc).getD k 0 = pre.getD k 0
  | [], acc, j, o, h => by simp at h
  | o0 :: os, acc, 0, o, h => by
    simp only [De, ar] at h
    subst h
    refine ⟨acc, rfl, ?_, fun k hk => ?_⟩
    · simp only [xu]
      rw [Zke os _ _ (by simp)]
      simp [List.getD_eq_getElem?_getD]
    · exact Zke (o0 :: os) acc k hk
  | o0 :: os, acc, j + 1, o, h => by
    obtain ⟨pre, h1, h2, h3⟩ := Zpk os (acc ++ [OR o0 acc]) j o (by simpa using h)
    simp only [iU, bl, List.length_nil] at h1 h2 h3
    refine ⟨pre, by omega, ?_, ?_⟩
    · rw [show acc.length + (j + 1) = acc.length + (0 + 1) + j by omega]; exact h2
    · intro k hk; exact h3 k (by omega)
def Yc9(h : (OR o ms).testBit i = true) : ∃ e ∈ o.after, Region.binds .any e = true /\ (i = e.on \/ (ms.getD e.on 0).testBit i = true) := by
 have key : ∀ (l : List Edge) (s : Nat), (l.foldl (fun s e => if Region.binds .any e then s ||| 2 ^ e.on ||| ms.getD e.on 0 else s) s).testBit i = true ->
     s.testBit i = true \/ ∃ e ∈ l, Region.binds .any e = true /\ (i = e.on \/ (ms.getD e.on 0).testBit i = true) := by
   intro l
   induction l with
   | nil => intro s h; exact .inl h
   | cons e l ih =>
     intro s h
     simp only [List.foldl_cons] at h
     rcases ih _ h with h | ⟨e', h1, h2⟩
     · split at h
       · rename_i hb
         simp only [Nat.testBit_or, Jh] at h
         rcases h with (h | h) | h
         · exact .inl h
         · rw [Nat.testBit_two_pow] at h
           exact .inr ⟨e, by simp, hb, .inl (by simpa using (of_decide_eq_true h).symm)⟩
         · exact .inr ⟨e, by simp, hb, .inr h⟩
       · exact .inl h
     · exact .inr ⟨e', by simp [h1], h2⟩
 unfold OR at h;rw [<- Array.foldl_toList] at h;rcases key _ _ h with h | ⟨e, h1, h2⟩
 ·simp at h
 exact ⟨e, by simpa using h1, h2⟩
def Ylz{ops : Array Oper}(ho : ops[j]? = some o)(h : ((xu ops.toList []).getD j 0).testBit i = true) :
    ∃ e ∈ o.after, Region.binds .any e = true /\ (i = e.on \/ ((xu ops.toList []).getD e.on 0).testBit i = true) := by
 obtain ⟨pre, h1, h2, h3⟩ := Zpk ops.toList [] j o (by rw [Es]; exact ho);simp only [List.length_nil, xd] at h1 h2 h3;rw [h2] at h;obtain ⟨e, g1, g2, g3⟩ := Yc9 h;refine ⟨e, g1, g2, g3.imp id fun hb => ?_⟩;by_cases he : e.on < j
 ·rw [h3 _ he]; exact hb
 have : pre.getD e.on 0 = 0 := by simp [List.getD_eq_getElem?_getD, h1, AK he]
 rw [this] at hb; simp at hb
def Ypp (ops : Array Oper) (S : Nat -> Prop) : Prop := ∀ k i, S k -> ((xu ops.toList []).getD k 0).testBit i = true -> S i
def Zre{ops : Array Oper}{listed : Array Bool}(hc : Ypp ops (fun k => listed.getD k false = true))(hj : j ∈ Region.ready .any ops listed) :
    j < ops.size /\ listed.getD j true = false /\ ∀ i, ((xu ops.toList []).getD j 0).testBit i = true -> listed.getD i false = true := by
 unfold Region.ready at hj;simp only [List.mem_filter, jz, gV, Jd] at hj;obtain ⟨h1, h2, h3⟩ := hj;refine ⟨h1, h2, fun i hi => ?_⟩;have ho : ops[j]? = some ops[j] := Array.getElem?_eq_getElem h1;obtain ⟨e, g1, g2, g3⟩ := Ylz ho hi;rw [ho] at h3;simp only [qH, iL, Xgh, Jh, Jd] at h3;have he : listed.getD e.on false = true := by
  rcases h3 e g1 with h | h
  ·rw [g2] at h; cases h
  exact h
 rcases g3 with rfl | g3
 ·exact he
 exact hc _ _ he g3
mutual
def Sc (n : Nat) : V -> Prop
  | .ptr i _ => i < n
  | .slice i _ _ _ _ => i < n
  | .map i => i < n
  | .chan i => i < n
  | .func _ a c => GY n a /\ GY n c
  | .yield i => i < n
  | .iface _ v => Sc n v
  | .agg l => GY n l
  | .aU l => GY n l
  | _ => True
def GY (n : Nat) : List V -> Prop
  | [] => True
  | v :: vs => Sc n v /\ GY n vs
end
mutual
def VR.sc {μ : Mu} {n : Nat} (h : ∀ i l, μ i = some l -> i < n) : ∀ (v : V) (x : Value), VR μ v x -> Sc n v
  | .bool _, _, _ => by simp [Sc]
  | .int _ _, _, _ => by simp [Sc]
  | .xn _ _, _, _ => by simp [Sc]
  | .str _, _, _ => by simp [Sc]
  | .bP, _, _ => by simp [Sc]
  | .ptr _ _, _, hx => by simp only [VR] at hx; obtain ⟨l, h1, _⟩ := hx; exact h _ _ h1
  | .aa, _, _ => by simp [Sc]
  | .slice _ _ _ _ _, _, hx => by simp only [VR] at hx; obtain ⟨l, c, h1, _⟩ := hx; exact h _ _ h1
  | .empty, _, _ => by simp [Sc]
  | .bW, _, _ => by simp [Sc]
  | .map _, _, hx => by simp only [VR] at hx; obtain ⟨l, h1, _⟩ := hx; exact h _ _ h1
  | .bZ, _, _ => by simp [Sc]
  | .chan _, _, hx => by simp only [VR] at hx; obtain ⟨l, h1, _⟩ := hx; exact h _ _ h1
  | .func _ a c, _, hx => by
    simp only [VR] at hx; obtain ⟨a', c', _, h2, h3⟩ := hx
    exact ⟨aV.sc h a a' h2, aV.sc h c c' h3⟩
  | .yield _, _, hx => by simp only [VR] at hx; obtain ⟨l, h1, _⟩ := hx; exact h _ _ h1
  | .b_, _, _ => by simp [Sc]
  | .iface _ v, _, hx => by simp only [VR] at hx; obtain ⟨y, _, h2⟩ := hx; exact VR.sc h v y h2
  | .aZ, _, _ => by simp [Sc]
  | .agg vs, _, hx => by simp only [VR] at hx; obtain ⟨a, _, h2⟩ := hx; exact aV.sc h vs a h2
  | .aU vs, _, hx => by simp only [VR] at hx; obtain ⟨a, _, h2⟩ := hx; exact aV.sc h vs a h2
def aV.sc {μ : Mu} {n : Nat} (h : ∀ i l, μ i = some l -> i < n) : ∀ (vs : List V) (xs : List Value), aV μ vs xs -> GY n vs
  | [], _, _ => trivial
  | v :: vs, _, hx => by
    simp only [aV] at hx
    obtain ⟨y, ys, _, h2, h3⟩ := hx
    exact ⟨VR.sc h v y h2, aV.sc h vs ys h3⟩
end
mutual
def VR.cut {μ μ' : Mu} {n : Nat} (h : ∀ i l, i < n -> μ i = some l -> μ' i = some l) : ∀ (v : V) (x : Value), Sc n v -> VR μ v x -> VR μ' v x
  | .bool _, _, _, hx => by simpa [VR] using hx
  | .int _ _, _, _, hx => by simpa [VR] using hx
  | .xn _ _, _, _, hx => by simpa [VR] using hx
  | .str _, _, _, hx => by simpa [VR] using hx
  | .bP, _, _, hx => by simpa [VR] using hx
  | .ptr _ _, _, hs, hx => by simp only [VR, Sc] at *; obtain ⟨l, h1, h2⟩ := hx; exact ⟨l, h _ _ hs h1, h2⟩
  | .aa, _, _, hx => by simpa [VR] using hx
  | .slice _ _ _ _ _, _, hs, hx => by simp only [VR, Sc] at *; obtain ⟨l, c, h1, h2⟩ := hx; exact ⟨l, c, h _ _ hs h1, h2⟩
  | .empty, _, _, hx => by simpa [VR] using hx
  | .bW, _, _, hx => by simpa [VR] using hx
  | .map _, _, hs, hx => by simp only [VR, Sc] at *; obtain ⟨l, h1, h2⟩ := hx; exact ⟨l, h _ _ hs h1, h2⟩
  | .bZ, _, _, hx => by simpa [VR] using hx
  | .chan _, _, hs, hx => by simp only [VR, Sc] at *; obtain ⟨l, h1, h2⟩ := hx; exact ⟨l, h _ _ hs h1, h2⟩
  | .func _ a c, _, hs, hx => by
    simp only [VR, Sc] at *; obtain ⟨a', c', h1, h2, h3⟩ := hx
    exact ⟨a', c', h1, aV.cut h a a' hs.1 h2, aV.cut h c c' hs.2 h3⟩
  | .yield _, _, hs, hx => by simp only [VR, Sc] at *; obtain ⟨l, h1, h2⟩ := hx; exact ⟨l, h _ _ hs h1, h2⟩
  | .b_, _, _, hx => by simpa [VR] using hx
  | .iface _ v, _, hs, hx => by simp only [VR, Sc] at *; obtain ⟨y, h1, h2⟩ := hx; exact ⟨y, h1, VR.cut h v y hs h2⟩
  | .aZ, _, _, hx => by simpa [VR] using hx
  | .agg vs, _, hs, hx => by simp only [VR, Sc] at *; obtain ⟨a, h1, h2⟩ := hx; exact ⟨a, h1, aV.cut h vs a hs h2⟩
  | .aU vs, _, hs, hx => by simp only [VR, Sc] at *; obtain ⟨a, h1, h2⟩ := hx; exact ⟨a, h1, aV.cut h vs a hs h2⟩
def aV.cut {μ μ' : Mu} {n : Nat} (h : ∀ i l, i < n -> μ i = some l -> μ' i = some l) : ∀ (vs : List V) (xs : List Value), GY n vs -> aV μ vs xs -> aV μ' vs xs
  | [], _, _, hx => by simpa [aV] using hx
  | v :: vs, _, hs, hx => by
    simp only [aV, GY] at *
    obtain ⟨y, ys, h1, h2, h3⟩ := hx
    exact ⟨y, ys, h1, VR.cut h v y hs.1 h2, aV.cut h vs ys hs.2 h3⟩
end
def OM.cut {P : Program} {μ μ' μT : Mu} {w wT : World} {n : Nat} (h : ∀ i l, i < n -> μ i = some l -> μ' i = some l) (hT : ∀ i l, μT i = some l -> i < n) {o : O} {l lT : L} (ht : OM P μT wT o lT) (ho : OM P μ w o l) : OM P μ' w o l := by
 cases o with
 | cells c e rw => obtain ⟨c', lo, hi, h1, h2, h3, h4, h5⟩ := ho;obtain ⟨cT, _, _, _, _, _, t4, _⟩ := ht;exact ⟨c', lo, hi, h1, h2, h3, fun j v hv => by obtain ⟨x, a, b⟩ := h4 j v hv;obtain ⟨xT, _, bT⟩ := t4 j v hv;exact ⟨x, a, VR.cut h v x (VR.sc hT v xT bT) b⟩, h5⟩
 | map es =>
  obtain ⟨jd, h1, h2⟩ := ho;obtain ⟨esT, _, t2⟩ := ht;refine ⟨jd, h1, ?_⟩;have : ∀ (es : List (V × V)) (xs xT : List MapEntry) (b bT : Nat), jI μ es xs b -> jI μT es xT bT -> jI μ' es xs b := by
   intro es;induction es with
   | nil => intro xs xT b bT h1 _; exact h1
   | cons p es ih => intro xs xT b bT h1 h2;obtain ⟨k, u⟩ := p;obtain ⟨e, ys, rfl, a1, a2, a3, a4⟩ := h1;obtain ⟨eT, yT, rfl, b1, b2, _, b4⟩ := h2;exact ⟨e, ys, rfl, VR.cut h k _ (VR.sc hT k _ b1) a1, VR.cut h u _ (VR.sc hT u _ b2) a2, a3, ih ys yT _ _ a4 b4⟩
  exact this _ _ _ _ _ h2 t2
 | chan cap buf => obtain ⟨b', s, r, h1, h2⟩ := ho;obtain ⟨bT, _, _, _, t2⟩ := ht;exact ⟨b', s, r, h1, aV.cut h _ _ (aV.sc hT _ _ t2) h2⟩
 | fm s pos => simp only [OM] at *; exact ho
 | loop R => obtain ⟨fn, tmps, gY, gZ, ld, h1, h2, h3, h4, h5⟩ := ho;obtain ⟨_, tT, _, _, ldT, _, t2, _, _, t5⟩ := ht;refine ⟨fn, tmps, gY, gZ, ld, h1, ⟨h2.1, fun t v hv => ?_⟩, h3, h4, h _ _ (hT _ _ t5) h5⟩;obtain ⟨x, a, b⟩ := h2.2 t v hv;obtain ⟨xT, _, bT⟩ := t2.2 t v hv;exact ⟨x, a, VR.cut h v x (VR.sc hT v xT bT) b⟩
 | defs b => simp only [OM] at *; exact ho
 | dead => trivial
end
end Go.Mx
