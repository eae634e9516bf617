/-The machine M's runs stand for the Go mo-/
import Derived.Test.YtgccnjdneojagaaGreatDoorMxOps
import Derived.Conc.LoneSelect
set_option linter.all false
namespace Go.Mx
open Go
section
variable {P:Program} {μ:Mu} {w:World} {st aB:St} {fr bJ:Fr} {a:Act} {call:cO} {v:V} {lb:Option Nat}
def Zpg:∀(vs:List V) (r:T V) (i t:Nat),(AN r i vs).get t=if i<=t/\t<i+vs.length then vs[t-i]? else r.get t
 |[],r,i,t=>by simp[AN];omega
 |v::vs,r,i,t=>by
  simp only[AN]
  rw[Zpg vs (r.set i v) (i+1) t,T.ag]
  by_cases h:t=i
  ·subst h
   rw[ak (by omega),av rfl,av (by simp)];simp
  ·by_cases h2:i+1<=t/\t<i+1+vs.length
   ·rw[av h2,av (by simp;omega)]
    rw[show t-i=(t-(i+1))+1 by omega];simp
   ·rw[ak h2,ak h,ak (by simp;omega)]
def Ynz{vs:List V}{xs:List Value}{n:Nat}(h:aY μ vs xs)(hl:vs.length<=n):RR μ (AN .nil 0 vs) n ((⟨xs⟩:Array Value)++Array.replicate (n-(⟨xs⟩:Array Value).size) undef):=by
 have rM:=h.length;refine⟨by simp;omega,fun t v hv=>?_⟩;rw[Zpg]at hv;split at hv
 ·rename_i ht;simp only[Nat.sub_zero]at hv;obtain⟨x,hx,hr⟩:=h.get hv;refine⟨x,?_,hr⟩;rw[Array.getElem?_append_left (by simp;omega)];simpa using hx
 simp[T.get]at hv
def Ue(tmps:Array Value):ResultVar->Sem Value
 |.tmp t=>pure (tmps.getD t undef)
 |.cell a t=>do loadVar t (<-asAddr (tmps.getD a undef))
def Zxr(hh:bp P μ w st){r:T V}{n:Nat}{tmps:Array Value}(hr:RR μ r n tmps):∀{rs:List ResultVar} {ms:List F3},Gd P rs=some ms->∀{vs:List V},gb r st ms=some vs->
  ∃xs,(rs.mapM (Ue tmps)).run P w=.ok xs w/\aY μ vs xs
 |[],ms,hc,vs,hv=>by
  simp only[Gd,au]at hc;subst hc
  simp only[gb,au]at hv;subst hv
  exact⟨[],by simp,by simp[aY]⟩
 |.tmp t::rs,ms,hc,vs,hv=>by
  simp only[Gd,mP]at hc
  obtain⟨ms',nF,rfl⟩:=hc
  simp only[gb]at hv
  split at hv
  ·rename_i u us hu vg
   simp only[au]at hv;subst hv
   obtain⟨xs,h1,h2⟩:=Zxr hh hr nF vg
   obtain⟨x,hx,DD⟩:=hr.2 _ _ hu
   refine⟨x::xs,?_,kO.2 ⟨_,_,rfl,DD,h2⟩⟩
   simp only[List.mapM_cons,Ue,Sem.run_bind,Sem.run_pure,Result.andThen_ok,h1]
   simp[IW,hx]
  ·cases hv
 |.cell t ty::rs,ms,hc,vs,hv=>by
  simp only[Gd]at hc
  split at hc
  ·rename_i k ms' hk nF
   simp only[au]at hc;subst hc
   simp only[gb]at hv
   split at hv
   ·rename_i i o us hu vg
    split at hv
    ·rename_i c e rj aA
     split at hv
     ·rename_i u fu
      simp only[au]at hv;subst hv
      obtain⟨xs,h1,h2⟩:=Zxr hh hr nF vg
      obtain⟨x,hx,l,hl,rfl⟩:=hr.2 _ _ hu
      have AP:=hh.row hl aA
      have zi:∃y,(loadVar ty ⟨l.b,l.d+o,none⟩).run P w=.ok y w/\VR μ u y:=by
       cases k with
       |none=>
        simp only[aS]at fu
        obtain⟨y,hy,hv⟩:=AP.cell fu
        exact⟨y,by simp[loadVar,Zq7 hk,Result.andThen,hy],hv⟩
       |some k=>
        simp only[aS]at fu
        split at fu
        ·rename_i q hq
         simp only[au]at fu;subst fu
         obtain⟨ys,g1,_,g3,_⟩:=AP.Bz hq
         exact⟨.agg ys.toArray,by simp[loadVar,(LI hk).1,(LI hk).2,Result.andThen,g3],ys,rfl,g1⟩
        ·cases fu
      obtain⟨y,uS,zj⟩:=zi
      refine⟨y::xs,?_,kO.2 ⟨_,_,rfl,zj,h2⟩⟩
      have kL:tmps.getD t undef=.pointer (some ⟨l.b,l.d+o,none⟩):=by simp[IW,hx]
      have zah:(asAddr (tmps.getD t undef)).run P w=.ok ⟨l.b,l.d+o,none⟩ w:=by rw[kL];rfl
      simp only[List.mapM_cons,Ue,Sem.run_bind,zah,Sem.run_pure,Result.andThen_ok,uS,h1]
     ·cases hv
    ·cases hv
   ·cases hv
  ·cases hc
def Zxq(hh:bp P μ w st){r:T V}{n:Nat}{tmps:Array Value}(hr:RR μ r n tmps){fn:Func}{ms:List F3}(hc:Gd P fn.results.toList=some ms){vs:List V}(hv:gb r st ms=some vs):
  ∃x,(results fn tmps).run P w=.ok x w/\VR μ (Gz vs) x:=by
 obtain⟨xs,h1,h2⟩:=Zxr hh hr hc hv;have hl:=h2.length;refine⟨if h:xs.length=1 then xs[0] else .tuple ⟨xs⟩,?_,?_⟩
 ·show (do let vs <-fn.results.mapM (Ue tmps);pure (if h:vs.size=1 then vs[0] else .tuple vs):Sem Value).run P w=_;rw[Array.mapM_eq_mapM_toList];simp only[Sem.run_bind,Sem.run_map,h1,Result.andThen_ok,Sem.run_pure];rfl
 rcases vs with _|⟨u,_|⟨u',vs⟩⟩
 ·simp only[aY]at h2;subst h2;exact⟨[],rfl,by simp[aY]⟩
 ·obtain⟨y,ys,rfl,g1,g2⟩:=kO.1 h2;simp only[aY]at g2;subst g2;exact g1
 rw[dif_neg (by rw[hl];simp)];exact⟨xs,rfl,h2⟩
def Zz0{fn:Func}{tmps:Array Value}{R:Ending->World->Prop}:∀{ms:List Nat} {ds:List Deferred} {st fi:St} {w:World},bp P μ w st->rA μ ms ds->shut st ms=some fi->
  (∀w' ws,bL P μ w st μ w' fi ws->∃v,(results fn tmps).run P w'=.ok v w'/\R (.returned v) w')->LeavesInM Fence.wide 0 P fn tmps R ds .returning w
 |[],ds,st,fi,w,hh,hd,hs,hR=>by
  simp only[rA]at hd;subst hd
  simp only[shut,au]at hs;subst hs
  exact hR w [] (bL.refl hh)
 |m::ms,ds,st,fi,w,hh,hd,hs,hR=>by
  obtain⟨l,GH,h1,rfl,h3⟩:=hd
  simp only[shut]at hs
  split at hs
  ·rename_i hg
   have AP:=hh.get h1 hg
   have OS:bL P μ w st μ (w.putObj l.b (.deferred none)) (st.write m (.defs false)) [m]:=
    bL.write hh h1 hg rfl rfl rfl rfl (World.putObj_size) (fun b hb=>World.putObj_heap_other hb) (World.putObj_heap_same (hh.dq m l h1).2)
   refine⟨by simp,.inl ⟨l.b,_,rfl,run_takeDeferred AP,?_⟩⟩
   exact Zz0 OS.hr h3 hs fun w' ws jv=>hR w' _ (OS.trans jv)
  ·cases hs
def bL.fold{μ':Mu}{w':World}{ws:List Nat}(h0:bp P μ w st)(h:bL P μ w {st with w:=[]} μ' w' aB ws):bL P μ w st μ' w' {aB with w:=ay st.n aB.w++st.w} (ay st.n aB.w):=by
 have vk:∀(l:List Nat) (i:Nat),i<st.n->(i∈ay st.n l↔i∈l):=by
  intro l i hi;induction l with
  |nil=>simp[ay]
  |cons j l ih=>
   simp only[ay];split
   ·unfold Ac;split
    ·rename_i hc;simp only[ky,ih];simp only[TO]at hc;constructor
     ·exact .inr
     rintro(rfl|h)
     ·exact ih.1 hc
     exact h
    simp only[ky,ih]
   simp only[ky,ih];constructor
   ·exact .inr
   rintro(rfl|h)
   ·omega
   exact h
 have rV:aB.w=ws:=by have:=h.wl;simpa using this
 have hs:∀i,i<st.n->(i∈ay st.n aB.w↔i∈ws):=fun i hi=>by rw[vk _ i hi,rV]
 exact {
  hr:=⟨h.hr.dq,h.hr.obj,h.hr.inj,h.hr.iO⟩
  ext:=h.ext
  ij:=h.ij
  wl:=rfl
  eR:=⟨h.eR.os,h.eR.tape,h.eR.output,h.eR.size,fun b hb dV=>h.eR.block b hb fun i hi l hl=>dV i ((hs i (h0.dq i l hl).1).2 hi) l hl⟩
  new:=fun i l hi hl=>by
   rcases h.new i l hi hl with h'|⟨j,hj,C3,r⟩
   ·exact .inl h'
   ·exact .inr ⟨j,(hs j C3).2 hj,C3,r⟩
  ad:=fun i hi dV=>h.ad i hi fun hc=>dV ((hs i hi).2 hc)
  grow:=h.grow
  full:=h.full
  AF:=fun i hi hn=>h.AF i ((hs i hn).1 hi) hn}
def bp.now(h:bp P μ w st)(l:List Nat):bp P μ w {st with w:=l}:=⟨h.dq,h.obj,h.inj,h.iO⟩
def Yiu{code:sE}(p9:Ml P code){f:FuncId}{fn:Func}{mf:nA}(hf:P.funcs[f]?=some fn)(hc:Am P f=some mf){args:List V}{xs:List Value}(hh:bp P μ w st)(hx:aY μ args xs)
  (h:Ep mf code args st=some (v,aB)):CallsIn Fence.wide 0 P f ⟨xs⟩ w (JD fun x w'=>∃μ' ws,VR μ' v x/\bL P μ w st μ' w' aB ws):=by
 unfold Am at hc;rw[hf]at hc;simp only at hc;split at hc
 ·rename_i c rs hb hrs;simp only[au]at hc;subst hc;unfold Ep at h;split at h
  ·cases h
  rename_i hle;simp only at hle h;have fin:∀(ex:Ex) (eK:Fr) (b9:St),(ex=.normal\/ex=.ret)->code none (jC P c) {r:=AN .nil 0 args,n:=fn.ntmps,marks:=[]} {st with w:=[]}=some (ex,eK,b9)->
    (match shut b9 eK.marks with
     |none=>none
     |some fi=>match gb eK.r fi rs with
      |some vs=>some (Gz vs,{fi with w:=ay st.n fi.w++st.w})
      |none=>none)=some (v,aB)->
    CallsIn Fence.wide 0 P f ⟨xs⟩ w (JD fun x w'=>∃μ' ws,VR μ' v x/\bL P μ w st μ' w' aB ws):=by
   intro ex eK b9 hex bU fm
   split at fm
   ·cases fm
   ·rename_i fi OT
    split at fm
    ·rename_i vs IV
     simp only[au,bD]at fm
     obtain⟨rfl,rfl⟩:=fm
     refine callsIn_of_wp_marks hf hb trivial (wpIn_mono (p9 none c _ _ _ _ _ bU μ w _ none (hh.now []) ⟨Ynz hx (AG hle),rfl⟩ trivial) fun e a' w' hp=>?_)
     obtain⟨rfl,μ1,ws,hs,BY⟩:=hp
     have hl:LeavesInM Fence.wide 0 P fn a'.tmps (JD fun x w'=>∃μ' ws,VR μ' (Gz vs) x/\bL P μ w st μ' w' {fi with w:=ay st.n fi.w++st.w} ws) a'.defers .returning w':=by
      refine Zz0 hs.hr BY.2 OT fun w2 ws2 nR=>?_
      obtain⟨x,xe,zL⟩:=Zxq nR.hr BY.1 hrs IV
      exact⟨x,xe,μ1,_,zL,(hs.trans nR).fold hh⟩
     rcases hex with rfl|rfl
     ·exact hl
     ·exact hl
    ·cases fm
  unfold Zyu at h;split at h
  ·cases h
  ·rename_i ex eK b9 aZ bU;exact fin ex eK b9 (by cases ex with|normal=>exact .inl rfl|ret=>exact .inr rfl|exit id=>exact(aZ id rfl).elim) (by assumption) h
  cases h
 cases hc
def Zry:∀{ps:List Nat} {vs:List V} {r r':T V} {n:Nat} {tmps:Array Value} {xs:List Value},RR μ r n tmps->aY μ vs xs->Ea r n ps vs=some r'->
  xs.length=ps.length/\RR μ r' n ((ps.zip xs).foldl (fun (tmps:Array Value) (p:Nat×Value)=>tmps.setIfInBounds p.1 p.2) tmps)
 |[],[],r,r',n,tmps,xs,hr,hx,h=>by
  simp only[aY]at hx;subst hx
  simp only[Ea,au]at h;subst h
  exact⟨rfl,hr⟩
 |[],_::_,r,r',n,tmps,xs,hr,hx,h=>by simp[Ea]at h
 |_::_,[],r,r',n,tmps,xs,hr,hx,h=>by simp[Ea]at h
 |p::ps,v::vs,r,r',n,tmps,xs,hr,hx,h=>by
  obtain⟨y,ys,rfl,h1,h2⟩:=kO.1 hx
  simp only[Ea]at h
  split at h
  ·rename_i hp
   obtain⟨g1,g2⟩:=Zry (hr.set hp h1) h2 h
   exact⟨by simp[g1],by simpa using g2⟩
  ·cases h
def Yd9(e:Ex):((td e).bind Bx).isNone=(td e).isNone:=by cases e<;>rfl
def bL.loop(hh:bp P μ w st){i:Nat}{l:L}(hl:μ i=some l){R R':Nt}(hg:st.h.get i=some (.loop R))(h1:R'.r=R.r)(h2:R'.n=R.n)(h3:R'.ps=R.ps)(h4:R'.assign=R.assign)(h5:R'.body=R.body)(h6:R'.defs=R.defs):
  ∃rec,w.heap[l.b]?=some (.loop rec)/\rec.state=R.st/\rec.pending=R.fz.bind Bx/\
   bL P μ w st μ (w.putObj l.b (.loop {rec with state:=R'.st,pending:=R'.fz.bind Bx})) (st.write i (.loop R')) [i]:=by
 obtain⟨fn,tmps,gO,gS,ld,g1,g2,g3,g4,g5⟩:=hh.get hl hg;refine⟨_,g1,rfl,rfl,bL.write hh hl hg rfl rfl rfl rfl World.putObj_size (fun b hb=>World.putObj_heap_other hb) ⟨fn,tmps,gO,gS,ld,?_,?_,?_,?_,?_⟩⟩
 ·rw[World.putObj_heap_same (hh.dq i l hl).2,h3]
 ·rw[h1,h2];exact g2
 ·rw[h4];exact g3
 ·rw[h5];exact g4
 rw[h6];exact g5
def Ylw{code:sE}(p9:Ml P code){l:Nat}{args:List V}{xs:List Value}{L0:L}(hh:bp P μ w st)(hl:μ l=some L0)(hx:aY μ args xs)(h:Eb code l args st=some (v,aB)):
  ∃f tmps gO gS,(Instr.yield L0.b ⟨xs⟩).run P w=.ok (.round L0.b f tmps gO gS) w/\RoundIn Fence.wide 0 P L0.b f tmps gO gS w (JD fun x w'=>∃μ' ws,VR μ' v x/\bL P μ w st μ' w' aB ws):=by
 unfold Eb at h;split at h
 ·rename_i R hg;obtain⟨fn,tmps,gO,gS,ld,g1,g2,g3,g4,g5⟩:=hh.get hl hg;split at h
  ·cases h
  rename_i r0 ib;obtain⟨q1,q2⟩:=Zry g2 hx ib;have hy:=run_yield (P:=P) (args:=⟨xs⟩) g1 (by simpa using q1);refine⟨_,_,_,_,hy,?_⟩;have htm:(((⟨R.ps⟩:Array Nat).zip (⟨xs⟩:Array Value)).foldl (fun tmps (p:Nat×Value)=>tmps.setIfInBounds p.1 p.2) tmps)=(R.ps.zip xs).foldl (fun (tmps:Array Value) (p:Nat×Value)=>tmps.setIfInBounds p.1 p.2) tmps:=by simp
  refine roundIn_of_wpIn (F:=Fence.wide) trivial ?_;split at h
  ·rename_i eK b9 GJ;rw[<-g3]at GJ;refine wpIn_mono (p9 (some l) gO _ _ _ _ _ GJ μ w {tmps:=(((⟨R.ps⟩:Array Nat).zip (⟨xs⟩:Array Value)).foldl (fun tmps (p:Nat×Value)=>tmps.setIfInBounds p.1 p.2) tmps),defers:=[]} (some L0.b) hh ⟨by rw[htm];exact q2,rfl⟩ ⟨L0,hl,rfl⟩) fun e a1 w1 hp=>?_;have uT:=hp;obtain⟨he,μ1,ws1,AQ,BY⟩:=hp;refine uT.then (fun _=>?_) (fun aZ=>absurd rfl aZ);split at h
   ·rename_i R1 hg1;split at h
    ·rename_i JE;have JF:=AQ.mono hh _ _ hl;obtain⟨OU,k1,k2,k3,k4⟩:=bL.loop (R':={R1 with st:=.busy}) AQ.hr JF hg1 rfl rfl rfl rfl rfl rfl;refine⟨_,run_beginRound k1 (k2.trans JE),?_⟩;have OV:({OU with state:=LoopState.busy,pending:=R1.fz.bind Bx}:Loop)={OU with state:=.busy}:=by rw[<-k3]
     rw[OV]at k4;split at h
     ·rename_i e2 A9 fi GK;rw[<-g4]at GK;refine wpIn_mono (p9 (some l) gS _ _ _ _ _ GK μ1 _ a1 (some L0.b) k4.hr (BY.mono (k4.mono AQ.hr)) ⟨L0,JF,rfl⟩) fun e a2 w2 AR=>?_;obtain⟨xP,μ2,ws2,nR,ef⟩:=AR;split at h
      ·rename_i R2 hg2;simp only[au,bD]at h;obtain⟨rfl,rfl⟩:=h;have jq:=nR.mono k4.hr _ _ JF;obtain⟨zai,m1,m2,m3,m4⟩:=bL.loop (R':={R2 with st:=Ld (td e2),fz:=td e2}) nR.hr jq hg2 rfl rfl rfl rfl rfl rfl;have fm:=run_endRound (P:=P) ((td e2).bind Bx) m1;have fj:(if ((td e2).bind Bx).isNone=true then LoopState.ready else LoopState.done)=Ld (td e2):=by cases e2<;>rfl
       rw[fj,Yd9]at fm;have hR:JD (fun x w'=>∃μ' ws,VR μ' (.bool (td e2).isNone) x/\bL P μ w st μ' w' (fi.write l (.loop {R2 with st:=Ld (td e2),fz:=td e2})) ws) (.returned (.bool (td e2).isNone))
         (w2.putObj L0.b (.loop {zai with state:=Ld (td e2),pending:=(td e2).bind Bx})):=
        ⟨μ2,_,by simp[VR],((AQ.trans k4).trans nR).trans m4⟩;subst xP;cases e2 with
       |normal=>exact⟨_,_,fm,hR⟩
       |exit id=>exact⟨_,_,fm,hR⟩
       |ret=>exact⟨_,_,fm,hR⟩
      cases h
     cases h
    cases h
   cases h
  cases h
 cases h
def Zzm(P:Program)(ec:Nat->Option nA):Prop:=
 ∀f mf,ec f=some mf->Am P f=some mf/\∀fn,P.funcs[f]?=some fn->(fn.name== "runtime.NumGoroutine")=false
def Ybw{f:FuncId}{mf:nA}(h:Am P f=some mf):∃fn,P.funcs[f]?=some fn/\fn.body.isSome=true:=by
 unfold Am at h;split at h
 ·rename_i fn hf;refine⟨fn,hf,?_⟩;split at h
  ·rename_i hb _;rw[hb];rfl
  cases h
 cases h
def Zzc{ec:Nat->Option nA}{code:sE}(ht:Zzm P ec)(p9:Ml P code):kI P (zV ec code):=by
 intro g args st v aB h μ w G xs hh hg hx;unfold zV at h;split at h
 ·rename_i f first iA
  split at h
  ·rename_i mf hmf;obtain⟨a',c',rfl,h1,h2⟩:=hg;obtain⟨hc,OW⟩:=ht f mf hmf;obtain⟨fn,hf,hb⟩:=Ybw hc;refine⟨{target:=.fn (.func f) ⟨c'⟩,args:=⟨a'⟩++⟨xs⟩},by simp[Deferred.ofValue],.inl ⟨rfl,f,⟨a'++xs++c'⟩,?_,?_⟩⟩
   ·have hn:fn.name≠ "runtime.NumGoroutine" :=by simpa using OW fn hf
    simp[invoke,callFunc,hf,hn];intro hq;rw[hq]at hb;cases hb
   exact Yiu p9 hf hc hh ((h1.append hx).append h2) h
  cases h
 ·rename_i l;obtain⟨L0,hl,rfl⟩:=hg;obtain⟨f,tmps,gO,gS,q1,q2⟩:=Ylw p9 hh hl hx h;refine⟨{target:=.fn (.yield L0.b) #[],args:=⟨xs⟩},by simp[Deferred.ofValue],.inr ⟨rfl,L0.b,f,tmps,gO,gS,?_,q2⟩⟩;simp[invoke,q1]
 cases h
def Ysr{a2:Act}{w4:World}{A9:Fr}{stf:St}:∀(q:Option Ex),xQ P μ w st (match q with|none=>.normal|some e=>e) A9 stf (Mm (match q with|none=>.normal|some e=>e)) a2 w4->
  (match q.bind Bx with
   |none=>xQ P μ w st (match q with|none=>.normal|some e=>e) A9 stf .normal a2 w4
   |some c=>c.wpIn (FE lb) 0 P (xQ P μ w st (match q with|none=>.normal|some e=>e) A9 stf) a2 w4)
 |none,h=>h
 |some .normal,h=>h
 |some (.exit _),h=>wpIn_exit h
 |some .ret,h=>wpIn_ret h
def Zz7(cv:kI P call):Ykm P call:=by
 intro ro g s ps gO gS fr st ex bJ aB hs h μ w a lb hh hf qY;unfold A8 at h;split at h
 ·cases h
 rename_i gv hgv;have hG:=dk hh hf.1 hs hgv;rw[LJ]at h;obtain⟨hy,h⟩:=h;have vt:gv.Ik=false:=by simpa using hy
 split at h
 ·cases h
 rename_i b9 d mk ki;split at h
 ·cases h
 rename_i x fi hc;split at h
 ·rename_i R hg2;rw[LJ]at h;obtain⟨OX,h⟩:=h;simp only[au,bD]at h;obtain⟨rfl,rfl,rfl⟩:=h;refine wpIn_rangeFunc fun fn _=>?_;have common:∀(l:Nat) (mark:List Deferred) (w0:World) (μ0:Mu) (ws0:List Nat) (db:Nat),bL P μ w st μ0 w0 b9 ws0->l=w0.heap.size->(∃ld,μ0 d=some ld/\ld.b=db)->
    (Instr.enterLoop fn a.tmps ps gO gS (FE lb).round).run P w=.ok (l,mark) (w0.alloc (.loop {state:=.ready,pending:=none,fn,tmps:=a.tmps,params:=ps,assign:=gO,body:=gS,defers:=db}))->
    (∀ms ds,rA μ0 ms ds->rA μ0 (mk++ms) (mark++ds))->
    ∃(l:Nat) (mark:List Deferred) (w₁:World) (d:Deferred) (w₁':World) (f:FuncId) (args:Array Value) (w₂:World),
     (Instr.enterLoop fn a.tmps ps gO gS (FE lb).round).run P w=.ok (l,mark) w₁/\
     (resolve a.eval (rangeCall g l) 0).run P w₁=.ok d w₁'/\
     (∀f',Target.leads P w₁' d.target d.args=some f'->(FE lb).fn f')/\
     (invoke d.target d.args).run P w₁'=.ok (.enter f args) w₂/\
     ((FE lb).depth.isSome=true->1<=0)/\
     CallsIn (FE lb) (0-1) P f args w₂ (rangePost (FE lb) 0 P l (xQ P μ w st (match R.fz with|none=>.normal|some e=>e) {fr with marks:=mk++fr.marks} (fi.write b9.n (.loop {R with st:=.exhausted}))) {a with defers:=mark++a.defers}):=by
   intro l mark w0 μ0 ws0 db iN cB hdb hent BO
   subst cB
   obtain⟨ld,vN,ew⟩:=hdb
   have iJ:=iN.mono hh
   have aZ:d≠b9.n:=fun hc=>by have:=(iN.hr.dq d ld vN).1;omega
   have jG:bL P μ0 w0 b9 (fun i=>if i=b9.n then some ⟨w0.heap.size,0,0⟩ else μ0 i) (w0.alloc (.loop {state:=.ready,pending:=none,fn,tmps:=a.tmps,params:=ps,assign:=gO,body:=gS,defers:=db}))
     (b9.alloc (.loop {st:=.ready,fz:=none,r:=fr.r,n:=fr.n,ps:=ps.toList,assign:=jC P gO,body:=jC P gS,defs:=d})) []:=by
    have dT:∀i l,μ0 i=some l->(fun i=>if i=b9.n then some (⟨w0.heap.size,0,0⟩:L) else μ0 i) i=some l:=fun i l hl=>by
     have:=(iN.hr.dq i l hl).1
     simp only
     rw[ak (by omega)];exact hl
    refine bL.alloc iN.hr _ (.loop {state:=.ready,pending:=none,fn,tmps:=a.tmps,params:=ps,assign:=gO,body:=gS,defers:=db}) 0 0 ⟨fn,a.tmps,gO,gS,ld,?_,(hf.1.mono iJ).mono dT,rfl,rfl,?_⟩
    ·show (w0.heap.push _)[w0.heap.size]?=_
     simp[ew]
    ·simp only;rw[ak aZ];exact vN
   have AQ:=iN.trans jG
   have rC:=AQ.mono hh
   obtain⟨dd,pM,iU⟩:=cv gv [.yield b9.n] _ x fi hc _ _ (a.eval g) [.func (.yield w0.heap.size) #[] #[]] jG.hr (VR.mono rC _ _ hG) (kO.2 ⟨_,[],rfl,⟨⟨w0.heap.size,0,0⟩,by simp,rfl⟩,by simp[aY]⟩)
   rcases iU with⟨_,f,args,hinv,Jz⟩|⟨hyy,_⟩
   ·refine⟨w0.heap.size,mark,_,dd,_,f,args,_,hent,?_,fun _ _=>trivial,hinv,fun hx=>by simp[Fence.wide]at hx,?_⟩
    ·have e0:(#[Operand.const (.func (.yield w0.heap.size) #[] #[])]).map a.eval=(⟨[.func (.yield w0.heap.size) #[] #[]]⟩:Array Value):=by simp[Act.eval]
     simp only[resolve,e0]
     exact pM
    ·refine CallsIn.mono (F:=Fence.wide) Jz fun e w3 he=>?_
     cases e with
     |panicked _=>exact he.elim
     |outgrown=>exact he.elim
     |returned y=>
      obtain⟨μ2,ws2,_,nR⟩:=he
      have jq:μ2 b9.n=some ⟨w0.heap.size,0,0⟩:=nR.mono jG.hr _ _ (by simp)
      obtain⟨rec,m1,m2,m3,m4⟩:=bL.loop (R':={R with st:=.exhausted}) nR.hr jq hg2 rfl rfl rfl rfl rfl rfl
      have fm:=run_endLoop (P:=P) m1 (by rw[m2];exact OX)
      have Uf:=(AQ.trans nR).trans m4
      have zaj:({rec with state:=.exhausted,pending:=R.fz.bind Bx}:Loop)={rec with state:=.exhausted}:=by rw[<-m3]
      rw[zaj]at Uf
      have pL:oK μ2 {fr with marks:=mk++fr.marks} {a with defers:=mark++a.defers}:=by
       refine⟨(hf.1.mono rC).mono (nR.mono jG.hr),?_⟩
       exact((BO _ _ (hf.2.mono iJ)).mono (jG.mono iN.hr)).mono (nR.mono jG.hr)
      have fin:xQ P μ w st (match R.fz with|none=>.normal|some e=>e) {fr with marks:=mk++fr.marks} (fi.write b9.n (.loop {R with st:=.exhausted})) (Mm (match R.fz with|none=>.normal|some e=>e)) {a with defers:=mark++a.defers} _:=⟨rfl,μ2,_,Uf,pL⟩
      exact⟨R.fz.bind Bx,_,by rw[<-m3];exact fm,Ysr R.fz fin⟩
   ·rw[vt]at hyy;cases hyy
  cases ro with
  |none=>
   cases lb with
   |some _=>exact qY.elim
   |none=>
    simp only[S0,au,bD]at ki;obtain⟨rfl,rfl,rfl⟩:=ki;have ET:bL P μ w st (fun i=>if i=st.n then some ⟨w.heap.size,0,0⟩ else μ i) (w.alloc (.deferred (some []))) (st.alloc (.defs true)) []:=
     bL.alloc hh (.defs true) (.deferred (some [])) 0 0 (by simp only[OM];show (w.heap.push _)[w.heap.size]?=_;simp);refine common (w.heap.size+1) [{target:=.collected w.heap.size,args:=#[]}] (w.alloc (.deferred (some []))) _ [] w.heap.size ET (by simp) ⟨⟨w.heap.size,0,0⟩,by simp,rfl⟩ (run_enterLoop_outer ..) fun ms ds hd=>⟨⟨w.heap.size,0,0⟩,ds,by simp,rfl,hd⟩
  |some l0=>
   cases lb with
   |none=>exact qY.elim
   |some b=>
    obtain⟨L0,cB,rfl⟩:=qY;simp only[S0]at ki;split at ki
    ·rename_i R0 uU;simp only[au,bD]at ki;obtain⟨rfl,rfl,rfl⟩:=ki;obtain⟨fn0,zbw,zbK,zbL,ld0,g1,g2,g3,g4,g5⟩:=hh.get cB uU;refine common w.heap.size [] w μ [] ld0.b (bL.refl hh) rfl ⟨ld0,g5,rfl⟩ ?_ (fun ms ds hd=>hd);show (Instr.enterLoop fn a.tmps ps gO gS (some L0.b)).run P w=_;unfold Instr.enterLoop;simp only[Sem.run_bind,run_getLoop g1,run_newObj_alloc,Result.andThen,Sem.run_pure]
    cases ki
 cases h
end
open Go Go.Conc
section
variable {P:Program} {μ:Mu} {w:World} {st aB:St} {fr bJ:Fr} {a:Act} {call:cO} {v:V} {lb:Option Nat}
def Ypj(cv:kI P call)(hE:wj P):Yy0 P call:=fun id ops o rest d ch s z fr st ex bJ aB zbM zak=>by cases zak
end
section
variable {r r' : T V} {st : St} {call : cO}
def JG : ∀ {l : List Src}, (∀ s ∈ l, s.ev r = s.ev r') -> wH r l = wH r' l
  | [], _ => rfl
  | s :: l, h => by
    simp only [wH]
    rw [h s (by simp), JG fun s hs => h s (by simp [hs])]
def GL {o : Option Src} (h : ∀ s ∈ Ds o, s.ev r = s.ev r') : aC r o = aC r' o := by
 cases o with
 | none => rfl
 | some s => simp only [aC]; rw [h s (by simp [Ds])]
def Zh7 : ∀ {l : List (Nat × Nat × Src)}, (∀ s ∈ l.map (·.2.2), s.ev r = s.ev r') -> Dl r l = Dl r' l
  | [], _ => rfl
  | (o, k, s) :: l, h => by
    simp only [Dl]
    rw [h s (by simp), Zh7 fun s hs => h s (by simp only [pX, ky]; exact .inr hs)]
def Yhk {op : iz} (h : ∀ s ∈ op.EH, s.ev r = s.ev r') : cH op call r st = cH op call r' st := by
 cases op <;> simp only [iz.EH, ky, List.not_mem_nil, or_false, forall_eq_or_imp, forall_eq, jn] at h <;> simp only [cH];case build z ps => simp only [ED, Zh7 h]
 case mV e s l z ps => simp only [Ja, Zh7 h]
 case pW f a c => simp only [Jh, JG fun s hs => h s (.inl hs), JG fun s hs => h s (.inr hs)]
 case cG x lo hi => simp only [AK, h.1, GL fun s hs => h.2 s (.inl hs), GL fun s hs => h.2 s (.inr hs)]
 case oH z x lo hi m => simp only [rQ, h.1, GL fun s hs => h.2 s (.inl (.inl hs)), GL fun s hs => h.2 s (.inl (.inr hs)), GL fun s hs => h.2 s (.inr hs)]
 case lA k z x lo hi m => simp only [BG, h.1, GL fun s hs => h.2 s (.inl (.inl hs)), GL fun s hs => h.2 s (.inl (.inr hs)), GL fun s hs => h.2 s (.inr hs)]
 case mn l => simp only [AL, JG h]
 case mx l => simp only [tE, JG h]
 case call f l => simp only [AM, h.1, JG fun s hs => h.2 s hs]
 case ext e l => simp only [Jo, JG h]
 all_goals
   first
     | rfl
     | (simp only [I8, I9, Jb, Jc, Je, Jf, LR, Gs, Jg, LS, Gt, Ji, Jj, Jl, Jm, Jn, Ab, LW, LX, Gy, LY, h]; done)
     | (simp only [Gp, Gq, Jd, EE, EF, Gu, LV, Gw, Jk, Gx, Zvb, Zpu, EG, Dp, LZ, h.1, h.2]; done)
     | (simp only [Gp, Gx, Zpu, h.1, h.2.1, h.2.2]; done)
def Zpb {op : iz} (hs : op.pY = true) (h' : T O) (l' : List Nat) {v : V} {aB : St} (h : cH op call r st = some (v, aB)) :
    (aB = st /\ cH op call r ⟨h', st.n, l'⟩ = some (v, ⟨h', st.n, l'⟩)) \/ ∃ o, aB = st.alloc o /\ cH op call r ⟨h', st.n, l'⟩ = some (v, St.alloc ⟨h', st.n, l'⟩ o) := by
 cases op <;> simp only [iz.pY, ix] at hs <;> simp only [cH] at h ⊢;case lh e z b zs x y =>
   unfold EE at *
   split at h
   · rename_i ha hb
     split at h
     · rename_i hc
       simp only [au, bD] at h
       obtain ⟨rfl, rfl⟩ := h
       refine .inr ⟨_, rfl, ?_⟩
       rw [av hc]
     · cases h
   · cases h
 case bin b t ng x y =>
   refine .inl ?_
   unfold Jd at *
   split at h
   · cases b <;> first | (cases hs; done) | (simp only [TX, reduceCtorEq] at h)
   · split at h
     · rename_i hm
       simp only [au, bD] at h
       obtain ⟨rfl, rfl⟩ := h
       exact ⟨rfl, by simp_all⟩
     · cases h
   · cases h
 all_goals
   first
     | unfold I8 at * | unfold Gp at * | unfold LQ at * | unfold I9 at * | unfold ED at * | unfold Ja at * | unfold Jc at * | unfold Je at * | unfold Jf at * | unfold LR at * | unfold Gs at * | unfold LS at * | unfold Jh at * | unfold LU at * | unfold Gt at * | unfold EE at * | unfold AK at * | unfold Ji at * | unfold Jj at * | unfold EF at * | unfold Gu at * | unfold LV at * | unfold Gw at * | unfold Jl at * | unfold Jn at * | unfold Oz at * | unfold LW at * | unfold AL at * | unfold tE at * | unfold Jo at *
 all_goals
   repeat' split at h
   all_goals
     first
       | (cases h; done)
       | (simp only [au, bD] at h
          obtain ⟨rfl, rfl⟩ := h
          first
            | (refine .inl ⟨rfl, ?_⟩; simp_all; done)
            | (refine .inr ⟨_, rfl, ?_⟩; simp_all; done))
def Zu8 {α : Type} {p : α -> α -> Bool} {f : α} {m : Nat} : ∀ {seen : List α} {j : Nat}, seen.length = j -> dv.dw p f m (j - 1) seen = true -> ∀ i, i < j -> ∀ g, seen[j - 1 - i]? = some g -> m.testBit i = true \/ p g f = true
  | [], j, hl, _, i, hi, g, hg => by simp at hg
  | g0 :: seen, j, hl, h, i, hi, g, hg => by
    simp only [dv.dw, fW, I4] at h
    simp only [bl] at hl
    by_cases e : i = j - 1
    · subst e
      simp only [Nat.sub_self, De, au] at hg
      subst hg
      exact h.1
    · have h2 := Zu8 (j := j - 1) (by omega) h.2 i (by omega) g
      refine h2 ?_
      rw [show j - 1 - i = (j - 1 - 1 - i) + 1 by omega] at hg
      simpa using hg
def Yaf {α : Type} {p : α -> α -> Bool} : ∀ {fs : List α} {ms : List Nat} {j : Nat} {seen : List α}, seen.length = j -> dv.go p fs ms j seen = true ->
    ∀ (b i : Nat) (f g : α), fs[b]? = some f -> i < j + b -> (seen.reverse ++ fs)[i]? = some g -> (ms.getD b 0).testBit i = true \/ p g f = true
  | [], ms, j, seen, hl, _, b, i, f, g, hf, _, _ => by simp at hf
  | f0 :: fs, ms, j, seen, hl, h, b, i, f, g, hf, hi, hg => by
    simp only [dv.go, fW] at h
    cases b with
    | zero =>
      simp only [De, au] at hf
      subst hf
      have hm : ms.getD 0 0 = ms.headD 0 := by cases ms <;> rfl
      rw [hm]
      refine Zu8 hl h.1 i (by omega) g ?_
      rw [mH (by simp; omega), List.getElem?_reverse (by omega)] at hg
      rw [<- hl]; exact hg
    | succ b =>
      have hm : ms.getD (b + 1) 0 = ms.tail.getD b 0 := by cases ms <;> simp
      rw [hm]
      refine Yaf (j := j + 1) (seen := f0 :: seen) (by simp [hl]) h.2 b i f g (by simpa using hf) (by omega) ?_
      simpa using hg
def Yae {α : Type} {p : α -> α -> Bool} {xs : List α} {ms : List Nat} (h : dv p xs ms = true) {i j : Nat} {a b : α} (hij : i < j) (ha : xs[i]? = some a) (hb : xs[j]? = some b) : (ms.getD j 0).testBit i = true \/ p a b = true :=
  Yaf (seen := []) rfl h j i b a hb (by omega) (by simpa using ha)
def Zkv : ∀ (os : List Oper) (acc : List Nat) (k : Nat), k < acc.length -> (xB os acc).getD k 0 = acc.getD k 0
  | [], acc, k, _ => rfl
  | o :: os, acc, k, h => by
    simp only [xB]
    rw [Zkv os _ k (by simp; omega)]
    simp only [List.getD_eq_getElem?_getD]
    rw [mH h]
def Zp2 : ∀ (os : List Oper) (acc : List Nat) (j : Nat) (o : Oper), os[j]? = some o ->
    ∃ pre : List Nat, pre.length = acc.length + j /\ (xB os acc).getD (acc.length + j) 0 = Oo o pre /\ ∀ k, k < acc.length + j -> (xB os acc).getD k 0 = pre.getD k 0
  | [], acc, j, o, h => by simp at h
  | o0 :: os, acc, 0, o, h => by
    simp only [De, au] at h
    subst h
    refine ⟨acc, rfl, ?_, fun k hk => ?_⟩
    · simp only [xB]
      rw [Zkv os _ _ (by simp)]
      simp [List.getD_eq_getElem?_getD]
    · exact Zkv (o0 :: os) acc k hk
  | o0 :: os, acc, j + 1, o, h => by
    obtain ⟨pre, h1, h2, h3⟩ := Zp2 os (acc ++ [Oo o0 acc]) j o (by simpa using h)
    simp only [iI, bl, List.length_nil] at h1 h2 h3
    refine ⟨pre, by omega, ?_, ?_⟩
    · rw [show acc.length + (j + 1) = acc.length + (0 + 1) + j by omega]; exact h2
    · intro k hk; exact h3 k (by omega)
def Ydg {o : Oper} {ms : List Nat} {i : Nat} (h : (Oo o ms).testBit i = true) : ∃ e ∈ o.after, Region.binds .any e = true /\ (i = e.on \/ (ms.getD e.on 0).testBit i = true) := by
 have key : ∀ (l : List Edge) (s : Nat), (l.foldl (fun s e => if Region.binds .any e then s ||| 2 ^ e.on ||| ms.getD e.on 0 else s) s).testBit i = true ->
     s.testBit i = true \/ ∃ e ∈ l, Region.binds .any e = true /\ (i = e.on \/ (ms.getD e.on 0).testBit i = true) := by
   intro l
   induction l with
   | nil => intro s h; exact .inl h
   | cons e l ih =>
     intro s h
     simp only [List.foldl_cons] at h
     rcases ih _ h with h | ⟨e', h1, h2⟩
     · split at h
       · rename_i hb
         simp only [Nat.testBit_or, I4] at h
         rcases h with (h | h) | h
         · exact .inl h
         · rw [Nat.testBit_two_pow] at h
           exact .inr ⟨e, by simp, hb, .inl (by simpa using (of_decide_eq_true h).symm)⟩
         · exact .inr ⟨e, by simp, hb, .inr h⟩
       · exact .inl h
     · exact .inr ⟨e', by simp [h1], h2⟩
 unfold Oo at h;rw [<- Array.foldl_toList] at h;rcases key _ _ h with h | ⟨e, h1, h2⟩
 ·simp at h
 exact ⟨e, by simpa using h1, h2⟩
def Ym0 {ops : Array Oper} {j i : Nat} {o : Oper} (ho : ops[j]? = some o) (h : ((xB ops.toList []).getD j 0).testBit i = true) :
    ∃ e ∈ o.after, Region.binds .any e = true /\ (i = e.on \/ ((xB ops.toList []).getD e.on 0).testBit i = true) := by
 obtain ⟨pre, h1, h2, h3⟩ := Zp2 ops.toList [] j o (by rw [Ew]; exact ho);simp only [List.length_nil, yR] at h1 h2 h3;rw [h2] at h;obtain ⟨e, g1, g2, g3⟩ := Ydg h;refine ⟨e, g1, g2, g3.imp id fun hb => ?_⟩;by_cases he : e.on < j
 ·rw [h3 _ he]; exact hb
 have : pre.getD e.on 0 = 0 := by simp [List.getD_eq_getElem?_getD, h1, AG he]
 rw [this] at hb; simp at hb
def Yqw (ops : Array Oper) (S : Nat -> Prop) : Prop := ∀ k i, S k -> ((xB ops.toList []).getD k 0).testBit i = true -> S i
def Zrw {ops : Array Oper} {listed : Array Bool} (hc : Yqw ops (fun k => listed.getD k false = true)) {j : Nat} (hj : j ∈ Region.ready .any ops listed) :
    j < ops.size /\ listed.getD j true = false /\ ∀ i, ((xB ops.toList []).getD j 0).testBit i = true -> listed.getD i false = true := by
 unfold Region.ready at hj;simp only [List.mem_filter, iL, fW, I3] at hj;obtain ⟨h1, h2, h3⟩ := hj;refine ⟨h1, h2, fun i hi => ?_⟩;have ho : ops[j]? = some ops[j] := Array.getElem?_eq_getElem h1;obtain ⟨e, g1, g2, g3⟩ := Ym0 ho hi;rw [ho] at h3;simp only [qO, il, Xgt, I4, I3] at h3;have he : listed.getD e.on false = true := by
  rcases h3 e g1 with h | h
  ·rw [g2] at h; cases h
  exact h
 rcases g3 with rfl | g3
 ·exact he
 exact hc _ _ he g3
mutual
def Sc (n : Nat) : V -> Prop
  | .ptr i _ => i < n
  | .slice i _ _ _ _ => i < n
  | .map i => i < n
  | .chan i => i < n
  | .func _ a c => GM n a /\ GM n c
  | .yield i => i < n
  | .iface _ v => Sc n v
  | .agg l => GM n l
  | .aX l => GM n l
  | _ => True
def GM (n : Nat) : List V -> Prop
  | [] => True
  | v :: vs => Sc n v /\ GM n vs
end
mutual
def VR.sc {μ : Mu} {n : Nat} (h : ∀ i l, μ i = some l -> i < n) : ∀ (v : V) (x : Value), VR μ v x -> Sc n v
  | .bool _, _, _ => by simp [Sc]
  | .int _ _, _, _ => by simp [Sc]
  | .xy _ _, _, _ => by simp [Sc]
  | .str _, _, _ => by simp [Sc]
  | .bM, _, _ => by simp [Sc]
  | .ptr _ _, _, hx => by simp only [VR] at hx; obtain ⟨l, h1, _⟩ := hx; exact h _ _ h1
  | .aa, _, _ => by simp [Sc]
  | .slice _ _ _ _ _, _, hx => by simp only [VR] at hx; obtain ⟨l, c, h1, _⟩ := hx; exact h _ _ h1
  | .empty, _, _ => by simp [Sc]
  | .bV, _, _ => by simp [Sc]
  | .map _, _, hx => by simp only [VR] at hx; obtain ⟨l, h1, _⟩ := hx; exact h _ _ h1
  | .bW, _, _ => by simp [Sc]
  | .chan _, _, hx => by simp only [VR] at hx; obtain ⟨l, h1, _⟩ := hx; exact h _ _ h1
  | .func _ a c, _, hx => by
    simp only [VR] at hx; obtain ⟨a', c', _, h2, h3⟩ := hx
    exact ⟨aY.sc h a a' h2, aY.sc h c c' h3⟩
  | .yield _, _, hx => by simp only [VR] at hx; obtain ⟨l, h1, _⟩ := hx; exact h _ _ h1
  | .bY, _, _ => by simp [Sc]
  | .iface _ v, _, hx => by simp only [VR] at hx; obtain ⟨y, _, h2⟩ := hx; exact VR.sc h v y h2
  | .bb, _, _ => by simp [Sc]
  | .agg vs, _, hx => by simp only [VR] at hx; obtain ⟨a, _, h2⟩ := hx; exact aY.sc h vs a h2
  | .aX vs, _, hx => by simp only [VR] at hx; obtain ⟨a, _, h2⟩ := hx; exact aY.sc h vs a h2
def aY.sc {μ : Mu} {n : Nat} (h : ∀ i l, μ i = some l -> i < n) : ∀ (vs : List V) (xs : List Value), aY μ vs xs -> GM n vs
  | [], _, _ => trivial
  | v :: vs, _, hx => by
    simp only [aY] at hx
    obtain ⟨y, ys, _, h2, h3⟩ := hx
    exact ⟨VR.sc h v y h2, aY.sc h vs ys h3⟩
end
mutual
def VR.cut {μ μ' : Mu} {n : Nat} (h : ∀ i l, i < n -> μ i = some l -> μ' i = some l) : ∀ (v : V) (x : Value), Sc n v -> VR μ v x -> VR μ' v x
  | .bool _, _, _, hx => by simpa [VR] using hx
  | .int _ _, _, _, hx => by simpa [VR] using hx
  | .xy _ _, _, _, hx => by simpa [VR] using hx
  | .str _, _, _, hx => by simpa [VR] using hx
  | .bM, _, _, hx => by simpa [VR] using hx
  | .ptr _ _, _, hs, hx => by simp only [VR, Sc] at *; obtain ⟨l, h1, h2⟩ := hx; exact ⟨l, h _ _ hs h1, h2⟩
  | .aa, _, _, hx => by simpa [VR] using hx
  | .slice _ _ _ _ _, _, hs, hx => by simp only [VR, Sc] at *; obtain ⟨l, c, h1, h2⟩ := hx; exact ⟨l, c, h _ _ hs h1, h2⟩
  | .empty, _, _, hx => by simpa [VR] using hx
  | .bV, _, _, hx => by simpa [VR] using hx
  | .map _, _, hs, hx => by simp only [VR, Sc] at *; obtain ⟨l, h1, h2⟩ := hx; exact ⟨l, h _ _ hs h1, h2⟩
  | .bW, _, _, hx => by simpa [VR] using hx
  | .chan _, _, hs, hx => by simp only [VR, Sc] at *; obtain ⟨l, h1, h2⟩ := hx; exact ⟨l, h _ _ hs h1, h2⟩
  | .func _ a c, _, hs, hx => by
    simp only [VR, Sc] at *; obtain ⟨a', c', h1, h2, h3⟩ := hx
    exact ⟨a', c', h1, aY.cut h a a' hs.1 h2, aY.cut h c c' hs.2 h3⟩
  | .yield _, _, hs, hx => by simp only [VR, Sc] at *; obtain ⟨l, h1, h2⟩ := hx; exact ⟨l, h _ _ hs h1, h2⟩
  | .bY, _, _, hx => by simpa [VR] using hx
  | .iface _ v, _, hs, hx => by simp only [VR, Sc] at *; obtain ⟨y, h1, h2⟩ := hx; exact ⟨y, h1, VR.cut h v y hs h2⟩
  | .bb, _, _, hx => by simpa [VR] using hx
  | .agg vs, _, hs, hx => by simp only [VR, Sc] at *; obtain ⟨a, h1, h2⟩ := hx; exact ⟨a, h1, aY.cut h vs a hs h2⟩
  | .aX vs, _, hs, hx => by simp only [VR, Sc] at *; obtain ⟨a, h1, h2⟩ := hx; exact ⟨a, h1, aY.cut h vs a hs h2⟩
def aY.cut {μ μ' : Mu} {n : Nat} (h : ∀ i l, i < n -> μ i = some l -> μ' i = some l) : ∀ (vs : List V) (xs : List Value), GM n vs -> aY μ vs xs -> aY μ' vs xs
  | [], _, _, hx => by simpa [aY] using hx
  | v :: vs, _, hs, hx => by
    simp only [aY, GM] at *
    obtain ⟨y, ys, h1, h2, h3⟩ := hx
    exact ⟨y, ys, h1, VR.cut h v y hs.1 h2, aY.cut h vs ys hs.2 h3⟩
end
def OM.cut {P : Program} {μ μ' μT : Mu} {w wT : World} {n : Nat} (h : ∀ i l, i < n -> μ i = some l -> μ' i = some l) (hT : ∀ i l, μT i = some l -> i < n) {o : O} {l lT : L} (ht : OM P μT wT o lT) (ho : OM P μ w o l) : OM P μ' w o l := by
 cases o with
 | cells c e rw => obtain ⟨c', lo, hi, h1, h2, h3, h4, h5⟩ := ho;obtain ⟨cT, _, _, _, _, _, t4, _⟩ := ht;exact ⟨c', lo, hi, h1, h2, h3, fun j v hv => by obtain ⟨x, a, b⟩ := h4 j v hv;obtain ⟨xT, _, bT⟩ := t4 j v hv;exact ⟨x, a, VR.cut h v x (VR.sc hT v xT bT) b⟩, h5⟩
 | map es =>
  obtain ⟨iQ, h1, h2⟩ := ho;obtain ⟨esT, _, t2⟩ := ht;refine ⟨iQ, h1, ?_⟩;have : ∀ (es : List (V × V)) (xs xT : List MapEntry) (b bT : Nat), jD μ es xs b -> jD μT es xT bT -> jD μ' es xs b := by
   intro es;induction es with
   | nil => intro xs xT b bT h1 _; exact h1
   | cons p es ih => intro xs xT b bT h1 h2;obtain ⟨k, u⟩ := p;obtain ⟨e, ys, rfl, a1, a2, a3, a4⟩ := h1;obtain ⟨eT, yT, rfl, b1, b2, _, b4⟩ := h2;exact ⟨e, ys, rfl, VR.cut h k _ (VR.sc hT k _ b1) a1, VR.cut h u _ (VR.sc hT u _ b2) a2, a3, ih ys yT _ _ a4 b4⟩
  exact this _ _ _ _ _ h2 t2
 | chan cap buf => obtain ⟨b', s, r, h1, h2⟩ := ho;obtain ⟨bT, _, _, _, t2⟩ := ht;exact ⟨b', s, r, h1, aY.cut h _ _ (aY.sc hT _ _ t2) h2⟩
 | fe s pos => simp only [OM] at *; exact ho
 | loop R => obtain ⟨fn, tmps, gO, gS, ld, h1, h2, h3, h4, h5⟩ := ho;obtain ⟨_, tT, _, _, ldT, _, t2, _, _, t5⟩ := ht;refine ⟨fn, tmps, gO, gS, ld, h1, ⟨h2.1, fun t v hv => ?_⟩, h3, h4, h _ _ (hT _ _ t5) h5⟩;obtain ⟨x, a, b⟩ := h2.2 t v hv;obtain ⟨xT, _, bT⟩ := t2.2 t v hv;exact ⟨x, a, VR.cut h v x (VR.sc hT v xT bT) b⟩
 | defs b => simp only [OM] at *; exact ho
 | dead => trivial
end
end Go.Mx
