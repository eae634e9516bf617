/-The machine M's runs stand for the Go mo-/
import Derived.Test.YthekjfgljafnaaaGreatDoorMxOps
import Derived.Conc.LoneSelect
set_option linter.all false
namespace Go.Mx
open Go
section
variable {P:Program} {μ:Mu} {w:World} {st st':St} {fr fr':Fr} {a:Act} {call:Za4} {v:V} {lb:Option Nat}
def Zm9:∀(vs:List V) (r:T V) (i t:Nat),(Zew r i vs).get t=if i≤t∧t<i+vs.length then vs[t-i]? else r.get t
 |[],r,i,t=>by simp[Zew];omega
 |v::vs,r,i,t=>by
  simp only[Zew]
  rw[Zm9 vs (r.set i v) (i+1) t,T.get_set]
  by_cases h:t=i
  ·subst h
   rw[Yv4 (by omega),Yv6 rfl,Yv6 (by simp)];simp
  ·by_cases h2:i+1≤t∧t<i+1+vs.length
   ·rw[Yv6 h2,Yv6 (by simp;omega)]
    rw[show t-i=(t-(i+1))+1 by omega];simp
   ·rw[Yv4 h2,Yv4 h,Yv4 (by simp;omega)]
def Yir{vs:List V}{xs:List Value}{n:Nat}(h:VRs μ vs xs)(hl:vs.length≤n):RR μ (Zew .nil 0 vs) n ((⟨xs⟩:Array Value)++Array.replicate (n-(⟨xs⟩:Array Value).size) undef):=by
 have hxl:=h.length
 refine⟨by simp;omega,fun t v hv=>?_⟩
 rw[Zm9]at hv
 split at hv
 ·rename_i ht
  simp only[Nat.sub_zero]at hv
  obtain⟨x,hx,hr⟩:=h.get hv
  refine⟨x,?_,hr⟩
  rw[Array.getElem?_append_left (by simp;omega)]
  simpa using hx
 ·simp[T.get]at hv
def Ysb(tmps:Array Value):ResultVar→Sem Value
 |.tmp t=>pure (tmps.getD t undef)
 |.cell a t=>do loadVar t (←asAddr (tmps.getD a undef))
def Zug(hh:Zbb P μ w st){r:T V}{n:Nat}{tmps:Array Value}(hr:RR μ r n tmps):∀{rs:List ResultVar} {ms:List Ypn},Yk1 P rs=some ms→∀{vs:List V},resV r st ms=some vs→
  ∃xs,(rs.mapM (Ysb tmps)).run P w=.ok xs w∧VRs μ vs xs
 |[],ms,hc,vs,hv=>by
  simp only[Yk1,Yv3]at hc;subst hc
  simp only[resV,Yv3]at hv;subst hv
  exact⟨[],by simp,by simp[VRs]⟩
 |.tmp t::rs,ms,hc,vs,hv=>by
  simp only[Yk1,Ywk]at hc
  obtain⟨ms',hc',rfl⟩:=hc
  simp only[resV]at hv
  split at hv
  ·rename_i u us hu hus
   simp only[Yv3]at hv;subst hv
   obtain⟨xs,h1,h2⟩:=Zug hh hr hc' hus
   obtain⟨x,hx,hxv⟩:=hr.2 _ _ hu
   refine⟨x::xs,?_,Za8.2 ⟨_,_,rfl,hxv,h2⟩⟩
   simp only[List.mapM_cons,Ysb,Sem.run_bind,Sem.run_pure,Result.andThen_ok,h1]
   simp[Yye,hx]
  ·cases hv
 |.cell t ty::rs,ms,hc,vs,hv=>by
  simp only[Yk1]at hc
  split at hc
  ·rename_i k ms' hk hc'
   simp only[Yv3]at hc;subst hc
   simp only[resV]at hv
   split at hv
   ·rename_i i o us hu hus
    split at hv
    ·rename_i c e rw' hrow
     split at hv
     ·rename_i u hpart
      simp only[Yv3]at hv;subst hv
      obtain⟨xs,h1,h2⟩:=Zug hh hr hc' hus
      obtain⟨x,hx,l,hl,rfl⟩:=hr.2 _ _ hu
      have hom:=hh.row hl hrow
      have hload:∃y,(loadVar ty ⟨l.b,l.d+o,none⟩).run P w=.ok y w∧VR μ u y:=by
       cases k with
       |none=>
        simp only[Zak]at hpart
        obtain⟨y,hy,hv⟩:=hom.cell hpart
        exact⟨y,by simp[loadVar,Zoy hk,Result.andThen,hy],hv⟩
       |some k=>
        simp only[Zak]at hpart
        split at hpart
        ·rename_i q hq
         simp only[Yv3]at hpart;subst hpart
         obtain⟨ys,g1,_,g3,_⟩:=hom.seg hq
         exact⟨.agg ys.toArray,by simp[loadVar,(Zge hk).1,(Zge hk).2,Result.andThen,g3],ys,rfl,g1⟩
        ·cases hpart
      obtain⟨y,hy1,hy2⟩:=hload
      refine⟨y::xs,?_,Za8.2 ⟨_,_,rfl,hy2,h2⟩⟩
      have hx':tmps.getD t undef=.pointer (some ⟨l.b,l.d+o,none⟩):=by simp[Yye,hx]
      have hasa:(asAddr (tmps.getD t undef)).run P w=.ok ⟨l.b,l.d+o,none⟩ w:=by rw[hx'];rfl
      simp only[List.mapM_cons,Ysb,Sem.run_bind,hasa,Sem.run_pure,Result.andThen_ok,hy1,h1]
     ·cases hv
    ·cases hv
   ·cases hv
  ·cases hc
def Zuf(hh:Zbb P μ w st){r:T V}{n:Nat}{tmps:Array Value}(hr:RR μ r n tmps){fn:Func}{ms:List Ypn}(hc:Yk1 P fn.results.toList=some ms){vs:List V}(hv:resV r st ms=some vs):
  ∃x,(results fn tmps).run P w=.ok x w∧VR μ (Zr2 vs) x:=by
 obtain⟨xs,h1,h2⟩:=Zug hh hr hc hv
 have hl:=h2.length
 refine⟨if h:xs.length=1 then xs[0] else .tuple ⟨xs⟩,?_,?_⟩
 ·show (do let vs ←fn.results.mapM (Ysb tmps);pure (if h:vs.size=1 then vs[0] else .tuple vs):Sem Value).run P w=_
  rw[Array.mapM_eq_mapM_toList]
  simp only[Sem.run_bind,Sem.run_map,h1,Result.andThen_ok,Sem.run_pure]
  rfl
 ·rcases vs with _|⟨u,_|⟨u',vs⟩⟩
  ·simp only[VRs]at h2;subst h2
   exact⟨[],rfl,by simp[VRs]⟩
  ·obtain⟨y,ys,rfl,g1,g2⟩:=Za8.1 h2
   simp only[VRs]at g2;subst g2
   exact g1
  ·rw[dif_neg (by rw[hl];simp)]
   exact⟨xs,rfl,h2⟩
def Zwc{fn:Func}{tmps:Array Value}{R:Ending→World→Prop}:∀{ms:List Nat} {ds:List Deferred} {st st2:St} {w:World},Zbb P μ w st→Zo8 μ ms ds→shut st ms=some st2→
  (∀w' ws,Stp P μ w st μ w' st2 ws→∃v,(results fn tmps).run P w'=.ok v w'∧R (.returned v) w')→LeavesInM Fence.wide 0 P fn tmps R ds .returning w
 |[],ds,st,st2,w,hh,hd,hs,hR=>by
  simp only[Zo8]at hd;subst hd
  simp only[shut,Yv3]at hs;subst hs
  exact hR w [] (Stp.refl hh)
 |m::ms,ds,st,st2,w,hh,hd,hs,hR=>by
  obtain⟨l,ds',h1,rfl,h3⟩:=hd
  simp only[shut]at hs
  split at hs
  ·rename_i hg
   have hom:=hh.get h1 hg
   have hstp:Stp P μ w st μ (w.putObj l.b (.deferred none)) (st.write m (.defs false)) [m]:=
    Stp.write hh h1 hg rfl rfl rfl rfl (World.putObj_size) (fun b hb=>World.putObj_heap_other hb) (World.putObj_heap_same (hh.dom m l h1).2)
   refine⟨by simp,.inl ⟨l.b,_,rfl,run_takeDeferred hom,?_⟩⟩
   exact Zwc hstp.hr h3 hs fun w' ws hs'=>hR w' _ (hstp.trans hs')
  ·cases hs
def Stp.fold{μ':Mu}{w':World}{ws:List Nat}(h0:Zbb P μ w st)(h:Stp P μ w {st with w:=[]} μ' w' st' ws):Stp P μ w st μ' w' {st' with w:=Zaa st.n st'.w++st.w} (Zaa st.n st'.w):=by
 have hmem:∀(l:List Nat) (i:Nat),i<st.n→(i∈Zaa st.n l↔i∈l):=by
  intro l i hi
  induction l with
  |nil=>simp[Zaa]
  |cons j l ih=>
   simp only[Zaa]
   split
   ·unfold Zf7
    split
    ·rename_i hc
     simp only[Yxa,ih]
     simp only[Yzx]at hc
     constructor
     ·exact .inr
     ·rintro(rfl|h)
      ·exact ih.1 hc
      ·exact h
    ·simp only[Yxa,ih]
   ·simp only[Yxa,ih]
    constructor
    ·exact .inr
    ·rintro(rfl|h)
     ·omega
     ·exact h
 have hwl:st'.w=ws:=by have:=h.wl;simpa using this
 have hs:∀i,i<st.n→(i∈Zaa st.n st'.w↔i∈ws):=fun i hi=>by rw[hmem _ i hi,hwl]
 exact {
  hr:=⟨h.hr.dom,h.hr.obj,h.hr.inj,h.hr.glob⟩
  ext:=h.ext
  nle:=h.nle
  wl:=rfl
  chg:=⟨h.chg.os,h.chg.tape,h.chg.output,h.chg.size,fun b hb hnot=>h.chg.block b hb fun i hi l hl=>hnot i ((hs i (h0.dom i l hl).1).2 hi) l hl⟩
  new:=fun i l hi hl=>by
   rcases h.new i l hi hl with h'|⟨j,hj,hjn,r⟩
   ·exact .inl h'
   ·exact .inr ⟨j,(hs j hjn).2 hj,hjn,r⟩
  keep:=fun i hi hnot=>h.keep i hi fun hc=>hnot ((hs i hi).2 hc)
  grow:=h.grow
  full:=h.full
  wrt:=fun i hi hn=>h.wrt i ((hs i hn).1 hi) hn}
def Zbb.now(h:Zbb P μ w st)(l:List Nat):Zbb P μ w {st with w:=l}:=⟨h.dom,h.obj,h.inj,h.glob⟩
def Yec{code:Zgf}(hcode:Zqa P code){f:FuncId}{fn:Func}{mf:Zev}(hf:P.funcs[f]?=some fn)(hc:Zl9 P f=some mf){args:List V}{xs:List Value}(hh:Zbb P μ w st)(hx:VRs μ args xs)
  (h:Zg3 mf code args st=some (v,st')):CallsIn Fence.wide 0 P f ⟨xs⟩ w (Yl7 fun x w'=>∃μ' ws,VR μ' v x∧Stp P μ w st μ' w' st' ws):=by
 unfold Zl9 at hc
 rw[hf]at hc
 simp only at hc
 split at hc
 ·rename_i c rs hb hrs
  simp only[Yv3]at hc;subst hc
  unfold Zg3 at h
  split at h
  ·cases h
  ·rename_i hle
   simp only at hle h
   have fin:∀(ex:Ex) (fr1:Fr) (st1:St),(ex=.normal∨ex=.ret)→code none (Zc5 P c) {r:=Zew .nil 0 args,n:=fn.ntmps,marks:=[]} {st with w:=[]}=some (ex,fr1,st1)→
     (match shut st1 fr1.marks with
      |none=>none
      |some st2=>match resV fr1.r st2 rs with
       |some vs=>some (Zr2 vs,{st2 with w:=Zaa st.n st2.w++st.w})
       |none=>none)=some (v,st')→
     CallsIn Fence.wide 0 P f ⟨xs⟩ w (Yl7 fun x w'=>∃μ' ws,VR μ' v x∧Stp P μ w st μ' w' st' ws):=by
    intro ex fr1 st1 hex hrun hend
    split at hend
    ·cases hend
    ·rename_i st2 hshut
     split at hend
     ·rename_i vs hvs
      simp only[Yv3,Ywa]at hend
      obtain⟨rfl,rfl⟩:=hend
      refine callsIn_of_wp_marks hf hb trivial (wpIn_mono (hcode none c _ _ _ _ _ hrun μ w _ none (hh.now []) ⟨Yir hx (Yyc hle),rfl⟩ trivial) fun e a' w' hp=>?_)
      obtain⟨rfl,μ1,ws,hs,hf1⟩:=hp
      have hl:LeavesInM Fence.wide 0 P fn a'.tmps (Yl7 fun x w'=>∃μ' ws,VR μ' (Zr2 vs) x∧Stp P μ w st μ' w' {st2 with w:=Zaa st.n st2.w++st.w} ws) a'.defers .returning w':=by
       refine Zwc hs.hr hf1.2 hshut fun w2 ws2 hs2=>?_
       obtain⟨x,hx1,hx2⟩:=Zuf hs2.hr hf1.1 hrs hvs
       exact⟨x,hx1,μ1,_,hx2,(hs.trans hs2).fold hh⟩
      rcases hex with rfl|rfl
      ·exact hl
      ·exact hl
     ·cases hend
   unfold Zve at h
   split at h
   ·cases h
   ·rename_i ex fr1 st1 hne hrun
    exact fin ex fr1 st1 (by cases ex with|normal=>exact .inl rfl|ret=>exact .inr rfl|exit id=>exact(hne id rfl).elim) (by assumption) h
   ·cases h
 ·cases hc
def Zpk:∀{ps:List Nat} {vs:List V} {r r':T V} {n:Nat} {tmps:Array Value} {xs:List Value},RR μ r n tmps→VRs μ vs xs→Znh r n ps vs=some r'→
  xs.length=ps.length∧RR μ r' n ((ps.zip xs).foldl (fun (tmps:Array Value) (p:Nat×Value)=>tmps.setIfInBounds p.1 p.2) tmps)
 |[],[],r,r',n,tmps,xs,hr,hx,h=>by
  simp only[VRs]at hx;subst hx
  simp only[Znh,Yv3]at h;subst h
  exact⟨rfl,hr⟩
 |[],_::_,r,r',n,tmps,xs,hr,hx,h=>by simp[Znh]at h
 |_::_,[],r,r',n,tmps,xs,hr,hx,h=>by simp[Znh]at h
 |p::ps,v::vs,r,r',n,tmps,xs,hr,hx,h=>by
  obtain⟨y,ys,rfl,h1,h2⟩:=Za8.1 hx
  simp only[Znh]at h
  split at h
  ·rename_i hp
   obtain⟨g1,g2⟩:=Zpk (hr.set hp h1) h2 h
   exact⟨by simp[g1],by simpa using g2⟩
  ·cases h
def Yaa(e:Ex):((Zey e).bind exJ).isNone=(Zey e).isNone:=by cases e<;>rfl
def Stp.loop(hh:Zbb P μ w st){i:Nat}{l:L}(hl:μ i=some l){R R':Yr4}(hg:st.h.get i=some (.loop R))(h1:R'.r=R.r)(h2:R'.n=R.n)(h3:R'.ps=R.ps)(h4:R'.assign=R.assign)(h5:R'.body=R.body)(h6:R'.defs=R.defs):
  ∃rec,w.heap[l.b]?=some (.loop rec)∧rec.state=R.st∧rec.pending=R.pend.bind exJ∧
   Stp P μ w st μ (w.putObj l.b (.loop {rec with state:=R'.st,pending:=R'.pend.bind exJ})) (st.write i (.loop R')) [i]:=by
 obtain⟨fn,tmps,asg,bod,ld,g1,g2,g3,g4,g5⟩:=hh.get hl hg
 refine⟨_,g1,rfl,rfl,Stp.write hh hl hg rfl rfl rfl rfl World.putObj_size (fun b hb=>World.putObj_heap_other hb) ⟨fn,tmps,asg,bod,ld,?_,?_,?_,?_,?_⟩⟩
 ·rw[World.putObj_heap_same (hh.dom i l hl).2,h3]
 ·rw[h1,h2];exact g2
 ·rw[h4];exact g3
 ·rw[h5];exact g4
 ·rw[h6];exact g5
def Yg2{code:Zgf}(hcode:Zqa P code){l:Nat}{args:List V}{xs:List Value}{L0:L}(hh:Zbb P μ w st)(hl:μ l=some L0)(hx:VRs μ args xs)(h:Zgt code l args st=some (v,st')):
  ∃f tmps asg bod,(Instr.yield L0.b ⟨xs⟩).run P w=.ok (.round L0.b f tmps asg bod) w∧RoundIn Fence.wide 0 P L0.b f tmps asg bod w (Yl7 fun x w'=>∃μ' ws,VR μ' v x∧Stp P μ w st μ' w' st' ws):=by
 unfold Zgt at h
 split at h
 ·rename_i R hg
  obtain⟨fn,tmps,asg,bod,ld,g1,g2,g3,g4,g5⟩:=hh.get hl hg
  split at h
  ·cases h
  ·rename_i r0 hr0
   obtain⟨q1,q2⟩:=Zpk g2 hx hr0
   have hy:=run_yield (P:=P) (args:=⟨xs⟩) g1 (by simpa using q1)
   refine⟨_,_,_,_,hy,?_⟩
   have htm:(((⟨R.ps⟩:Array Nat).zip (⟨xs⟩:Array Value)).foldl (fun tmps (p:Nat×Value)=>tmps.setIfInBounds p.1 p.2) tmps)=(R.ps.zip xs).foldl (fun (tmps:Array Value) (p:Nat×Value)=>tmps.setIfInBounds p.1 p.2) tmps:=by simp
   refine roundIn_of_wpIn (F:=Fence.wide) trivial ?_
   split at h
   ·rename_i fr1 st1 hrun1
    rw[←g3]at hrun1
    refine wpIn_mono (hcode (some l) asg _ _ _ _ _ hrun1 μ w {tmps:=(((⟨R.ps⟩:Array Nat).zip (⟨xs⟩:Array Value)).foldl (fun tmps (p:Nat×Value)=>tmps.setIfInBounds p.1 p.2) tmps),defers:=[]} (some L0.b) hh ⟨by rw[htm];exact q2,rfl⟩ ⟨L0,hl,rfl⟩) fun e a1 w1 hp=>?_
    have hp0:=hp
    obtain⟨he,μ1,ws1,hs1,hf1⟩:=hp
    refine hp0.then (fun _=>?_) (fun hne=>absurd rfl hne)
    split at h
    ·rename_i R1 hg1
     split at h
     ·rename_i hready
      have hl1:=hs1.mono hh _ _ hl
      obtain⟨rec1,k1,k2,k3,k4⟩:=Stp.loop (R':={R1 with st:=.busy}) hs1.hr hl1 hg1 rfl rfl rfl rfl rfl rfl
      refine⟨_,run_beginRound k1 (k2.trans hready),?_⟩
      have hw2:({rec1 with state:=LoopState.busy,pending:=R1.pend.bind exJ}:Loop)={rec1 with state:=.busy}:=by rw[←k3]
      rw[hw2]at k4
      split at h
      ·rename_i e2 fr2 st2 hrun2
       rw[←g4]at hrun2
       refine wpIn_mono (hcode (some l) bod _ _ _ _ _ hrun2 μ1 _ a1 (some L0.b) k4.hr (hf1.mono (k4.mono hs1.hr)) ⟨L0,hl1,rfl⟩) fun e a2 w2 hp2=>?_
       obtain⟨he2,μ2,ws2,hs2,hf2⟩:=hp2
       split at h
       ·rename_i R2 hg2
        simp only[Yv3,Ywa]at h
        obtain⟨rfl,rfl⟩:=h
        have hl2:=hs2.mono k4.hr _ _ hl1
        obtain⟨rec2,m1,m2,m3,m4⟩:=Stp.loop (R':={R2 with st:=Zhx (Zey e2),pend:=Zey e2}) hs2.hr hl2 hg2 rfl rfl rfl rfl rfl rfl
        have hend:=run_endRound (P:=P) ((Zey e2).bind exJ) m1
        have hst:(if ((Zey e2).bind exJ).isNone=true then LoopState.ready else LoopState.done)=Zhx (Zey e2):=by cases e2<;>rfl
        rw[hst,Yaa]at hend
        have hR:Yl7 (fun x w'=>∃μ' ws,VR μ' (.bool (Zey e2).isNone) x∧Stp P μ w st μ' w' (st2.write l (.loop {R2 with st:=Zhx (Zey e2),pend:=Zey e2})) ws) (.returned (.bool (Zey e2).isNone))
          (w2.putObj L0.b (.loop {rec2 with state:=Zhx (Zey e2),pending:=(Zey e2).bind exJ})):=
         ⟨μ2,_,by simp[VR],((hs1.trans k4).trans hs2).trans m4⟩
        subst he2
        cases e2 with
        |normal=>exact⟨_,_,hend,hR⟩
        |exit id=>exact⟨_,_,hend,hR⟩
        |ret=>exact⟨_,_,hend,hR⟩
       ·cases h
      ·cases h
     ·cases h
    ·cases h
   ·cases h
 ·cases h
def Zv2(P:Program)(tbl:Nat→Option Zev):Prop:=
 ∀f mf,tbl f=some mf→Zl9 P f=some mf∧∀fn,P.funcs[f]?=some fn→(fn.name== "runtime.NumGoroutine")=false
def Zx0{f:FuncId}{mf:Zev}(h:Zl9 P f=some mf):∃fn,P.funcs[f]?=some fn∧fn.body.isSome=true:=by
 unfold Zl9 at h
 split at h
 ·rename_i fn hf
  refine⟨fn,hf,?_⟩
  split at h
  ·rename_i hb _;rw[hb];rfl
  ·cases h
 ·cases h
def Zvt{tbl:Nat→Option Zev}{code:Zgf}(ht:Zv2 P tbl)(hcode:Zqa P code):Zbx P (Zcz tbl code):=by
 intro g args st v st' h μ w G xs hh hg hx
 unfold Zcz at h
 split at h
 ·rename_i f first caps
  split at h
  ·rename_i mf hmf
   obtain⟨a',c',rfl,h1,h2⟩:=hg
   obtain⟨hc,hname⟩:=ht f mf hmf
   obtain⟨fn,hf,hb⟩:=Zx0 hc
   refine⟨{target:=.fn (.func f) ⟨c'⟩,args:=⟨a'⟩++⟨xs⟩},by simp[Deferred.ofValue],.inl ⟨rfl,f,⟨a'++xs++c'⟩,?_,?_⟩⟩
   ·have hn:fn.name≠ "runtime.NumGoroutine" :=by simpa using hname fn hf
    simp[invoke,callFunc,hf,hn]
    intro hq
    rw[hq]at hb
    cases hb
   ·exact Yec hcode hf hc hh ((h1.append hx).append h2) h
  ·cases h
 ·rename_i l
  obtain⟨L0,hl,rfl⟩:=hg
  obtain⟨f,tmps,asg,bod,q1,q2⟩:=Yg2 hcode hh hl hx h
  refine⟨{target:=.fn (.yield L0.b) #[],args:=⟨xs⟩},by simp[Deferred.ofValue],.inr ⟨rfl,L0.b,f,tmps,asg,bod,?_,q2⟩⟩
  simp[invoke,q1]
 ·cases h
def Ymj{a2:Act}{w4:World}{fr2:Fr}{stf:St}:∀(q:Option Ex),Zjo P μ w st (match q with|none=>.normal|some e=>e) fr2 stf (exE (match q with|none=>.normal|some e=>e)) a2 w4→
  (match q.bind exJ with
   |none=>Zjo P μ w st (match q with|none=>.normal|some e=>e) fr2 stf .normal a2 w4
   |some c=>c.wpIn (FE lb) 0 P (Zjo P μ w st (match q with|none=>.normal|some e=>e) fr2 stf) a2 w4)
 |none,h=>h
 |some .normal,h=>h
 |some (.exit _),h=>wpIn_exit h
 |some .ret,h=>wpIn_ret h
def Zwh(hcall:Zbx P call):Yfv P call:=by
 intro ro g s ps asg bod fr st ex fr' st' hs h μ w a lb hh hf hro
 unfold Ze5 at h
 split at h
 ·cases h
 ·rename_i gv hgv
  have hG:=Zav hh hf.1 hs hgv
  rw[Yys]at h
  obtain⟨hy,h⟩:=h
  have hy':gv.isY=false:=by simpa using hy
  split at h
  ·cases h
  ·rename_i st1 d mk hstart
   split at h
   ·cases h
   ·rename_i x st2 hc
    split at h
    ·rename_i R hg2
     rw[Yys]at h
     obtain⟨hbusy,h⟩:=h
     simp only[Yv3,Ywa]at h
     obtain⟨rfl,rfl,rfl⟩:=h
     refine wpIn_rangeFunc fun fn _=>?_
     have common:∀(l:Nat) (mark:List Deferred) (w0:World) (μ0:Mu) (ws0:List Nat) (db:Nat),Stp P μ w st μ0 w0 st1 ws0→l=w0.heap.size→(∃ld,μ0 d=some ld∧ld.b=db)→
       (Instr.enterLoop fn a.tmps ps asg bod (FE lb).round).run P w=.ok (l,mark) (w0.alloc (.loop {state:=.ready,pending:=none,fn,tmps:=a.tmps,params:=ps,assign:=asg,body:=bod,defers:=db}))→
       (∀ms ds,Zo8 μ0 ms ds→Zo8 μ0 (mk++ms) (mark++ds))→
       ∃(l:Nat) (mark:List Deferred) (w₁:World) (d:Deferred) (w₁':World) (f:FuncId) (args:Array Value) (w₂:World),
        (Instr.enterLoop fn a.tmps ps asg bod (FE lb).round).run P w=.ok (l,mark) w₁∧
        (resolve a.eval (rangeCall g l) 0).run P w₁=.ok d w₁'∧
        (∀f',Target.leads P w₁' d.target d.args=some f'→(FE lb).fn f')∧
        (invoke d.target d.args).run P w₁'=.ok (.enter f args) w₂∧
        ((FE lb).depth.isSome=true→1≤0)∧
        CallsIn (FE lb) (0-1) P f args w₂ (rangePost (FE lb) 0 P l (Zjo P μ w st (match R.pend with|none=>.normal|some e=>e) {fr with marks:=mk++fr.marks} (st2.write st1.n (.loop {R with st:=.exhausted}))) {a with defers:=mark++a.defers}):=by
      intro l mark w0 μ0 ws0 db hs0 hl0 hdb hent hdef
      subst hl0
      obtain⟨ld,hd1,hd2⟩:=hdb
      have hm0:=hs0.mono hh
      have hne:d≠st1.n:=fun hc=>by have:=(hs0.hr.dom d ld hd1).1;omega
      have hst1:Stp P μ0 w0 st1 (fun i=>if i=st1.n then some ⟨w0.heap.size,0,0⟩ else μ0 i) (w0.alloc (.loop {state:=.ready,pending:=none,fn,tmps:=a.tmps,params:=ps,assign:=asg,body:=bod,defers:=db}))
        (st1.alloc (.loop {st:=.ready,pend:=none,r:=fr.r,n:=fr.n,ps:=ps.toList,assign:=Zc5 P asg,body:=Zc5 P bod,defs:=d})) []:=by
       have hmono:∀i l,μ0 i=some l→(fun i=>if i=st1.n then some (⟨w0.heap.size,0,0⟩:L) else μ0 i) i=some l:=fun i l hl=>by
        have:=(hs0.hr.dom i l hl).1
        simp only
        rw[Yv4 (by omega)];exact hl
       refine Stp.alloc hs0.hr _ (.loop {state:=.ready,pending:=none,fn,tmps:=a.tmps,params:=ps,assign:=asg,body:=bod,defers:=db}) 0 0 ⟨fn,a.tmps,asg,bod,ld,?_,(hf.1.mono hm0).mono hmono,rfl,rfl,?_⟩
       ·show (w0.heap.push _)[w0.heap.size]?=_
        simp[hd2]
       ·simp only;rw[Yv4 hne];exact hd1
      have hs1:=hs0.trans hst1
      have hm1:=hs1.mono hh
      obtain⟨dd,hdd,hrest⟩:=hcall gv [.yield st1.n] _ x st2 hc _ _ (a.eval g) [.func (.yield w0.heap.size) #[] #[]] hst1.hr (VR.mono hm1 _ _ hG) (Za8.2 ⟨_,[],rfl,⟨⟨w0.heap.size,0,0⟩,by simp,rfl⟩,by simp[VRs]⟩)
      rcases hrest with⟨_,f,args,hinv,hci⟩|⟨hyy,_⟩
      ·refine⟨w0.heap.size,mark,_,dd,_,f,args,_,hent,?_,fun _ _=>trivial,hinv,fun hx=>by simp[Fence.wide]at hx,?_⟩
       ·have e0:(#[Operand.const (.func (.yield w0.heap.size) #[] #[])]).map a.eval=(⟨[.func (.yield w0.heap.size) #[] #[]]⟩:Array Value):=by simp[Act.eval]
        simp only[resolve,e0]
        exact hdd
       ·refine CallsIn.mono (F:=Fence.wide) hci fun e w3 he=>?_
        cases e with
        |panicked _=>exact he.elim
        |outgrown=>exact he.elim
        |returned y=>
         obtain⟨μ2,ws2,_,hs2⟩:=he
         have hl2:μ2 st1.n=some ⟨w0.heap.size,0,0⟩:=hs2.mono hst1.hr _ _ (by simp)
         obtain⟨rec,m1,m2,m3,m4⟩:=Stp.loop (R':={R with st:=.exhausted}) hs2.hr hl2 hg2 rfl rfl rfl rfl rfl rfl
         have hend:=run_endLoop (P:=P) m1 (by rw[m2];exact hbusy)
         have hsf:=(hs1.trans hs2).trans m4
         have hrec:({rec with state:=.exhausted,pending:=R.pend.bind exJ}:Loop)={rec with state:=.exhausted}:=by rw[←m3]
         rw[hrec]at hsf
         have hfr:FrR μ2 {fr with marks:=mk++fr.marks} {a with defers:=mark++a.defers}:=by
          refine⟨(hf.1.mono hm1).mono (hs2.mono hst1.hr),?_⟩
          exact((hdef _ _ (hf.2.mono hm0)).mono (hst1.mono hs0.hr)).mono (hs2.mono hst1.hr)
         have fin:Zjo P μ w st (match R.pend with|none=>.normal|some e=>e) {fr with marks:=mk++fr.marks} (st2.write st1.n (.loop {R with st:=.exhausted})) (exE (match R.pend with|none=>.normal|some e=>e)) {a with defers:=mark++a.defers} _:=⟨rfl,μ2,_,hsf,hfr⟩
         exact⟨R.pend.bind exJ,_,by rw[←m3];exact hend,Ymj R.pend fin⟩
      ·rw[hy']at hyy;cases hyy
     cases ro with
     |none=>
      cases lb with
      |some _=>exact hro.elim
      |none=>
       simp only[Zue,Yv3,Ywa]at hstart
       obtain⟨rfl,rfl,rfl⟩:=hstart
       have hst0:Stp P μ w st (fun i=>if i=st.n then some ⟨w.heap.size,0,0⟩ else μ i) (w.alloc (.deferred (some []))) (st.alloc (.defs true)) []:=
        Stp.alloc hh (.defs true) (.deferred (some [])) 0 0 (by simp only[OM];show (w.heap.push _)[w.heap.size]?=_;simp)
       refine common (w.heap.size+1) [{target:=.collected w.heap.size,args:=#[]}] (w.alloc (.deferred (some []))) _ [] w.heap.size hst0 (by simp) ⟨⟨w.heap.size,0,0⟩,by simp,rfl⟩ (run_enterLoop_outer ..) fun ms ds hd=>⟨⟨w.heap.size,0,0⟩,ds,by simp,rfl,hd⟩
     |some l0=>
      cases lb with
      |none=>exact hro.elim
      |some b=>
       obtain⟨L0,hl0,rfl⟩:=hro
       simp only[Zue]at hstart
       split at hstart
       ·rename_i R0 hg0
        simp only[Yv3,Ywa]at hstart
        obtain⟨rfl,rfl,rfl⟩:=hstart
        obtain⟨fn0,tmps0,asg0,bod0,ld0,g1,g2,g3,g4,g5⟩:=hh.get hl0 hg0
        refine common w.heap.size [] w μ [] ld0.b (Stp.refl hh) rfl ⟨ld0,g5,rfl⟩ ?_ (fun ms ds hd=>hd)
        show (Instr.enterLoop fn a.tmps ps asg bod (some L0.b)).run P w=_
        unfold Instr.enterLoop
        simp only[Sem.run_bind,run_getLoop g1,run_newObj_alloc,Result.andThen,Sem.run_pure]
       ·cases hstart
    ·cases h
end
open Go Go.Conc
section
variable {P:Program} {μ:Mu} {w:World} {st st':St} {fr fr':Fr} {a:Act} {call:Za4} {v:V} {lb:Option Nat}
def Yjy(hcall:Zbx P call)(hE:Zez P):Yr1 P call:=fun id ops o rest d ch s z fr st ex fr' st' hops hsel=>by cases hsel
end
end Go.Mx
