/-The machine M's runs stand for the Go mo-/
import Derived.Test.YtkfkpkejgchcpaaGreatDoorMxOps
import Derived.Conc.LoneSelect
set_option linter.all false
namespace Go.Mx
open Go
section
variable {P:Program} {μ:Mu} {w:World} {st st':St} {fr fr':Fr} {a:Act} {call:Za1} {v:V} {lb:Option Nat}
def Zmd:∀(vs:List V) (r:T V) (i t:Nat),(Zei r i vs).get t=if i≤t∧t<i+vs.length then vs[t-i]? else r.get t
 |[],r,i,t=>by simp[Zei];omega
 |v::vs,r,i,t=>by
  simp only[Zei]
  rw[Zmd vs (r.set i v) (i+1) t,T.get_set]
  by_cases h:t=i
  ·subst h
   rw[Yr3 (by omega),Yr6 rfl,Yr6 (by simp)];simp
  ·by_cases h2:i+1≤t∧t<i+1+vs.length
   ·rw[Yr6 h2,Yr6 (by simp;omega)]
    rw[show t-i=(t-(i+1))+1 by omega];simp
   ·rw[Yr3 h2,Yr3 h,Yr3 (by simp;omega)]
def Ygq{vs:List V}{xs:List Value}{n:Nat}(h:VRs μ vs xs)(hl:vs.length≤n):RR μ (Zei .nil 0 vs) n ((⟨xs⟩:Array Value)++Array.replicate (n-(⟨xs⟩:Array Value).size) undef):=by
 have hxl:=h.length
 refine⟨by simp;omega,fun t v hv=>?_⟩
 rw[Zmd]at hv
 split at hv
 ·rename_i ht
  simp only[Nat.sub_zero]at hv
  obtain⟨x,hx,hr⟩:=h.get hv
  refine⟨x,?_,hr⟩
  rw[Array.getElem?_append_left (by simp;omega)]
  simpa using hx
 ·simp[T.get]at hv
def Yoh(tmps:Array Value):ResultVar→Sem Value
 |.tmp t=>pure (tmps.getD t undef)
 |.cell a t=>do loadVar t (←asAddr (tmps.getD a undef))
def Zs8(hh:Za8 P μ w st){r:T V}{n:Nat}{tmps:Array Value}(hr:RR μ r n tmps):∀{rs:List ResultVar} {ms:List Yl6},Yis P rs=some ms→∀{vs:List V},resV r st ms=some vs→
  ∃xs,(rs.mapM (Yoh tmps)).run P w=.ok xs w∧VRs μ vs xs
 |[],ms,hc,vs,hv=>by
  simp only[Yis,Yr1]at hc;subst hc
  simp only[resV,Yr1]at hv;subst hv
  exact⟨[],by simp,by simp[VRs]⟩
 |.tmp t::rs,ms,hc,vs,hv=>by
  simp only[Yis,Ysf]at hc
  obtain⟨ms',hc',rfl⟩:=hc
  simp only[resV]at hv
  split at hv
  ·rename_i u us hu hus
   simp only[Yr1]at hv;subst hv
   obtain⟨xs,h1,h2⟩:=Zs8 hh hr hc' hus
   obtain⟨x,hx,hxv⟩:=hr.2 _ _ hu
   refine⟨x::xs,?_,Zay.2 ⟨_,_,rfl,hxv,h2⟩⟩
   simp only[List.mapM_cons,Yoh,Sem.run_bind,Sem.run_pure,Result.andThen_ok,h1]
   simp[Yt5,hx]
  ·cases hv
 |.cell t ty::rs,ms,hc,vs,hv=>by
  simp only[Yis]at hc
  split at hc
  ·rename_i k ms' hk hc'
   simp only[Yr1]at hc;subst hc
   simp only[resV]at hv
   split at hv
   ·rename_i i o us hu hus
    split at hv
    ·rename_i c e rw' hrow
     split at hv
     ·rename_i u hpart
      simp only[Yr1]at hv;subst hv
      obtain⟨xs,h1,h2⟩:=Zs8 hh hr hc' hus
      obtain⟨x,hx,l,hl,rfl⟩:=hr.2 _ _ hu
      have hom:=hh.row hl hrow
      have hload:∃y,(loadVar ty ⟨l.b,l.d+o,none⟩).run P w=.ok y w∧VR μ u y:=by
       cases k with
       |none=>
        simp only[Zam]at hpart
        obtain⟨y,hy,hv⟩:=hom.cell hpart
        exact⟨y,by simp[loadVar,Znw hk,Result.andThen,hy],hv⟩
       |some k=>
        simp only[Zam]at hpart
        split at hpart
        ·rename_i q hq
         simp only[Yr1]at hpart;subst hpart
         obtain⟨ys,g1,_,g3,_⟩:=hom.seg hq
         exact⟨.agg ys.toArray,by simp[loadVar,(Zfr hk).1,(Zfr hk).2,Result.andThen,g3],ys,rfl,g1⟩
        ·cases hpart
      obtain⟨y,hy1,hy2⟩:=hload
      refine⟨y::xs,?_,Zay.2 ⟨_,_,rfl,hy2,h2⟩⟩
      have hx':tmps.getD t undef=.pointer (some ⟨l.b,l.d+o,none⟩):=by simp[Yt5,hx]
      have hasa:(asAddr (tmps.getD t undef)).run P w=.ok ⟨l.b,l.d+o,none⟩ w:=by rw[hx'];rfl
      simp only[List.mapM_cons,Yoh,Sem.run_bind,hasa,Sem.run_pure,Result.andThen_ok,hy1,h1]
     ·cases hv
    ·cases hv
   ·cases hv
  ·cases hc
def Zs7(hh:Za8 P μ w st){r:T V}{n:Nat}{tmps:Array Value}(hr:RR μ r n tmps){fn:Func}{ms:List Yl6}(hc:Yis P fn.results.toList=some ms){vs:List V}(hv:resV r st ms=some vs):
  ∃x,(results fn tmps).run P w=.ok x w∧VR μ (Zqw vs) x:=by
 obtain⟨xs,h1,h2⟩:=Zs8 hh hr hc hv
 have hl:=h2.length
 refine⟨if h:xs.length=1 then xs[0] else .tuple ⟨xs⟩,?_,?_⟩
 ·show (do let vs ←fn.results.mapM (Yoh tmps);pure (if h:vs.size=1 then vs[0] else .tuple vs):Sem Value).run P w=_
  rw[Array.mapM_eq_mapM_toList]
  simp only[Sem.run_bind,Sem.run_map,h1,Result.andThen_ok,Sem.run_pure]
  rfl
 ·rcases vs with _|⟨u,_|⟨u',vs⟩⟩
  ·simp only[VRs]at h2;subst h2
   exact⟨[],rfl,by simp[VRs]⟩
  ·obtain⟨y,ys,rfl,g1,g2⟩:=Zay.1 h2
   simp only[VRs]at g2;subst g2
   exact g1
  ·rw[dif_neg (by rw[hl];simp)]
   exact⟨xs,rfl,h2⟩
def Zu8{fn:Func}{tmps:Array Value}{R:Ending→World→Prop}:∀{ms:List Nat} {ds:List Deferred} {st st2:St} {w:World},Za8 P μ w st→Zn5 μ ms ds→shut st ms=some st2→
  (∀w' ws,Stp P μ w st μ w' st2 ws→∃v,(results fn tmps).run P w'=.ok v w'∧R (.returned v) w')→LeavesInM Fence.wide 0 P fn tmps R ds .returning w
 |[],ds,st,st2,w,hh,hd,hs,hR=>by
  simp only[Zn5]at hd;subst hd
  simp only[shut,Yr1]at hs;subst hs
  exact hR w [] (Stp.refl hh)
 |m::ms,ds,st,st2,w,hh,hd,hs,hR=>by
  obtain⟨l,ds',h1,rfl,h3⟩:=hd
  simp only[shut]at hs
  split at hs
  ·rename_i hg
   have hom:=hh.get h1 hg
   have hstp:Stp P μ w st μ (w.putObj l.b (.deferred none)) (st.write m (.defs false)) [m]:=
    Stp.write hh h1 hg rfl rfl rfl rfl (World.putObj_size) (fun b hb=>World.putObj_heap_other hb) (World.putObj_heap_same (hh.dom m l h1).2)
   refine⟨by simp,.inl ⟨l.b,_,rfl,run_takeDeferred hom,?_⟩⟩
   exact Zu8 hstp.hr h3 hs fun w' ws hs'=>hR w' _ (hstp.trans hs')
  ·cases hs
def Stp.fold{μ':Mu}{w':World}{ws:List Nat}(h0:Za8 P μ w st)(h:Stp P μ w {st with w:=[]} μ' w' st' ws):Stp P μ w st μ' w' {st' with w:=Zad st.n st'.w++st.w} (Zad st.n st'.w):=by
 have hmem:∀(l:List Nat) (i:Nat),i<st.n→(i∈Zad st.n l↔i∈l):=by
  intro l i hi
  induction l with
  |nil=>simp[Zad]
  |cons j l ih=>
   simp only[Zad]
   split
   ·unfold Zg1
    split
    ·rename_i hc
     simp only[Ysz,ih]
     simp only[Yvv]at hc
     constructor
     ·exact .inr
     ·rintro(rfl|h)
      ·exact ih.1 hc
      ·exact h
    ·simp only[Ysz,ih]
   ·simp only[Ysz,ih]
    constructor
    ·exact .inr
    ·rintro(rfl|h)
     ·omega
     ·exact h
 have hwl:st'.w=ws:=by have:=h.wl;simpa using this
 have hs:∀i,i<st.n→(i∈Zad st.n st'.w↔i∈ws):=fun i hi=>by rw[hmem _ i hi,hwl]
 exact {
  hr:=⟨h.hr.dom,h.hr.obj,h.hr.inj,h.hr.glob⟩
  ext:=h.ext
  nle:=h.nle
  wl:=rfl
  chg:=⟨h.chg.os,h.chg.tape,h.chg.output,h.chg.size,fun b hb hnot=>h.chg.block b hb fun i hi l hl=>hnot i ((hs i (h0.dom i l hl).1).2 hi) l hl⟩
  new:=fun i l hi hl=>by
   rcases h.new i l hi hl with h'|⟨j,hj,hjn,r⟩
   ·exact .inl h'
   ·exact .inr ⟨j,(hs j hjn).2 hj,hjn,r⟩
  keep:=fun i hi hnot=>h.keep i hi fun hc=>hnot ((hs i hi).2 hc)
  grow:=h.grow
  full:=h.full
  wrt:=fun i hi hn=>h.wrt i ((hs i hn).1 hi) hn}
def Za8.now(h:Za8 P μ w st)(l:List Nat):Za8 P μ w {st with w:=l}:=⟨h.dom,h.obj,h.inj,h.glob⟩
def Ycq{code:Zfs}(hcode:Zo6 P code){f:FuncId}{fn:Func}{mf:Zeh}(hf:P.funcs[f]?=some fn)(hc:Zlj P f=some mf){args:List V}{xs:List Value}(hh:Za8 P μ w st)(hx:VRs μ args xs)
  (h:Zf9 mf code args st=some (v,st')):CallsIn Fence.wide 0 P f ⟨xs⟩ w (Yjs fun x w'=>∃μ' ws,VR μ' v x∧Stp P μ w st μ' w' st' ws):=by
 unfold Zlj at hc
 rw[hf]at hc
 simp only at hc
 split at hc
 ·rename_i c rs hb hrs
  simp only[Yr1]at hc;subst hc
  unfold Zf9 at h
  split at h
  ·cases h
  ·rename_i hle
   simp only at hle h
   have fin:∀(ex:Ex) (fr1:Fr) (st1:St),(ex=.normal∨ex=.ret)→code none (Zc2 P c) {r:=Zei .nil 0 args,n:=fn.ntmps,marks:=[]} {st with w:=[]}=some (ex,fr1,st1)→
     (match shut st1 fr1.marks with
      |none=>none
      |some st2=>match resV fr1.r st2 rs with
       |some vs=>some (Zqw vs,{st2 with w:=Zad st.n st2.w++st.w})
       |none=>none)=some (v,st')→
     CallsIn Fence.wide 0 P f ⟨xs⟩ w (Yjs fun x w'=>∃μ' ws,VR μ' v x∧Stp P μ w st μ' w' st' ws):=by
    intro ex fr1 st1 hex hrun hend
    split at hend
    ·cases hend
    ·rename_i st2 hshut
     split at hend
     ·rename_i vs hvs
      simp only[Yr1,Yr5]at hend
      obtain⟨rfl,rfl⟩:=hend
      refine callsIn_of_wp_marks hf hb trivial (wpIn_mono (hcode none c _ _ _ _ _ hrun μ w _ none (hh.now []) ⟨Ygq hx (Yto hle),rfl⟩ trivial) fun e a' w' hp=>?_)
      obtain⟨rfl,μ1,ws,hs,hf1⟩:=hp
      have hl:LeavesInM Fence.wide 0 P fn a'.tmps (Yjs fun x w'=>∃μ' ws,VR μ' (Zqw vs) x∧Stp P μ w st μ' w' {st2 with w:=Zad st.n st2.w++st.w} ws) a'.defers .returning w':=by
       refine Zu8 hs.hr hf1.2 hshut fun w2 ws2 hs2=>?_
       obtain⟨x,hx1,hx2⟩:=Zs7 hs2.hr hf1.1 hrs hvs
       exact⟨x,hx1,μ1,_,hx2,(hs.trans hs2).fold hh⟩
      rcases hex with rfl|rfl
      ·exact hl
      ·exact hl
     ·cases hend
   unfold Zt7 at h
   split at h
   ·cases h
   ·rename_i ex fr1 st1 hne hrun
    exact fin ex fr1 st1 (by cases ex with|normal=>exact .inl rfl|ret=>exact .inr rfl|exit id=>exact(hne id rfl).elim) (by assumption) h
   ·cases h
 ·cases hc
def Zoj:∀{ps:List Nat} {vs:List V} {r r':T V} {n:Nat} {tmps:Array Value} {xs:List Value},RR μ r n tmps→VRs μ vs xs→Zml r n ps vs=some r'→
  xs.length=ps.length∧RR μ r' n ((ps.zip xs).foldl (fun (tmps:Array Value) (p:Nat×Value)=>tmps.setIfInBounds p.1 p.2) tmps)
 |[],[],r,r',n,tmps,xs,hr,hx,h=>by
  simp only[VRs]at hx;subst hx
  simp only[Zml,Yr1]at h;subst h
  exact⟨rfl,hr⟩
 |[],_::_,r,r',n,tmps,xs,hr,hx,h=>by simp[Zml]at h
 |_::_,[],r,r',n,tmps,xs,hr,hx,h=>by simp[Zml]at h
 |p::ps,v::vs,r,r',n,tmps,xs,hr,hx,h=>by
  obtain⟨y,ys,rfl,h1,h2⟩:=Zay.1 hx
  simp only[Zml]at h
  split at h
  ·rename_i hp
   obtain⟨g1,g2⟩:=Zoj (hr.set hp h1) h2 h
   exact⟨by simp[g1],by simpa using g2⟩
  ·cases h
def Zyt(e:Ex):((Zek e).bind exJ).isNone=(Zek e).isNone:=by cases e<;>rfl
def Stp.loop(hh:Za8 P μ w st){i:Nat}{l:L}(hl:μ i=some l){R R':Yob}(hg:st.h.get i=some (.loop R))(h1:R'.r=R.r)(h2:R'.n=R.n)(h3:R'.ps=R.ps)(h4:R'.assign=R.assign)(h5:R'.body=R.body)(h6:R'.defs=R.defs):
  ∃rec,w.heap[l.b]?=some (.loop rec)∧rec.state=R.st∧rec.pending=R.pend.bind exJ∧
   Stp P μ w st μ (w.putObj l.b (.loop {rec with state:=R'.st,pending:=R'.pend.bind exJ})) (st.write i (.loop R')) [i]:=by
 obtain⟨fn,tmps,asg,bod,ld,g1,g2,g3,g4,g5⟩:=hh.get hl hg
 refine⟨_,g1,rfl,rfl,Stp.write hh hl hg rfl rfl rfl rfl World.putObj_size (fun b hb=>World.putObj_heap_other hb) ⟨fn,tmps,asg,bod,ld,?_,?_,?_,?_,?_⟩⟩
 ·rw[World.putObj_heap_same (hh.dom i l hl).2,h3]
 ·rw[h1,h2];exact g2
 ·rw[h4];exact g3
 ·rw[h5];exact g4
 ·rw[h6];exact g5
def Ye7{code:Zfs}(hcode:Zo6 P code){l:Nat}{args:List V}{xs:List Value}{L0:L}(hh:Za8 P μ w st)(hl:μ l=some L0)(hx:VRs μ args xs)(h:Zf1 code l args st=some (v,st')):
  ∃f tmps asg bod,(Instr.yield L0.b ⟨xs⟩).run P w=.ok (.round L0.b f tmps asg bod) w∧RoundIn Fence.wide 0 P L0.b f tmps asg bod w (Yjs fun x w'=>∃μ' ws,VR μ' v x∧Stp P μ w st μ' w' st' ws):=by
 unfold Zf1 at h
 split at h
 ·rename_i R hg
  obtain⟨fn,tmps,asg,bod,ld,g1,g2,g3,g4,g5⟩:=hh.get hl hg
  split at h
  ·cases h
  ·rename_i r0 hr0
   obtain⟨q1,q2⟩:=Zoj g2 hx hr0
   have hy:=run_yield (P:=P) (args:=⟨xs⟩) g1 (by simpa using q1)
   refine⟨_,_,_,_,hy,?_⟩
   have htm:(((⟨R.ps⟩:Array Nat).zip (⟨xs⟩:Array Value)).foldl (fun tmps (p:Nat×Value)=>tmps.setIfInBounds p.1 p.2) tmps)=(R.ps.zip xs).foldl (fun (tmps:Array Value) (p:Nat×Value)=>tmps.setIfInBounds p.1 p.2) tmps:=by simp
   refine roundIn_of_wpIn (F:=Fence.wide) trivial ?_
   split at h
   ·rename_i fr1 st1 hrun1
    rw[←g3]at hrun1
    refine wpIn_mono (hcode (some l) asg _ _ _ _ _ hrun1 μ w {tmps:=(((⟨R.ps⟩:Array Nat).zip (⟨xs⟩:Array Value)).foldl (fun tmps (p:Nat×Value)=>tmps.setIfInBounds p.1 p.2) tmps),defers:=[]} (some L0.b) hh ⟨by rw[htm];exact q2,rfl⟩ ⟨L0,hl,rfl⟩) fun e a1 w1 hp=>?_
    have hp0:=hp
    obtain⟨he,μ1,ws1,hs1,hf1⟩:=hp
    refine hp0.then (fun _=>?_) (fun hne=>absurd rfl hne)
    split at h
    ·rename_i R1 hg1
     split at h
     ·rename_i hready
      have hl1:=hs1.mono hh _ _ hl
      obtain⟨rec1,k1,k2,k3,k4⟩:=Stp.loop (R':={R1 with st:=.busy}) hs1.hr hl1 hg1 rfl rfl rfl rfl rfl rfl
      refine⟨_,run_beginRound k1 (k2.trans hready),?_⟩
      have hw2:({rec1 with state:=LoopState.busy,pending:=R1.pend.bind exJ}:Loop)={rec1 with state:=.busy}:=by rw[←k3]
      rw[hw2]at k4
      split at h
      ·rename_i e2 fr2 st2 hrun2
       rw[←g4]at hrun2
       refine wpIn_mono (hcode (some l) bod _ _ _ _ _ hrun2 μ1 _ a1 (some L0.b) k4.hr (hf1.mono (k4.mono hs1.hr)) ⟨L0,hl1,rfl⟩) fun e a2 w2 hp2=>?_
       obtain⟨he2,μ2,ws2,hs2,hf2⟩:=hp2
       split at h
       ·rename_i R2 hg2
        simp only[Yr1,Yr5]at h
        obtain⟨rfl,rfl⟩:=h
        have hl2:=hs2.mono k4.hr _ _ hl1
        obtain⟨rec2,m1,m2,m3,m4⟩:=Stp.loop (R':={R2 with st:=Zg7 (Zek e2),pend:=Zek e2}) hs2.hr hl2 hg2 rfl rfl rfl rfl rfl rfl
        have hend:=run_endRound (P:=P) ((Zek e2).bind exJ) m1
        have hst:(if ((Zek e2).bind exJ).isNone=true then LoopState.ready else LoopState.done)=Zg7 (Zek e2):=by cases e2<;>rfl
        rw[hst,Zyt]at hend
        have hR:Yjs (fun x w'=>∃μ' ws,VR μ' (.bool (Zek e2).isNone) x∧Stp P μ w st μ' w' (st2.write l (.loop {R2 with st:=Zg7 (Zek e2),pend:=Zek e2})) ws) (.returned (.bool (Zek e2).isNone))
          (w2.putObj L0.b (.loop {rec2 with state:=Zg7 (Zek e2),pending:=(Zek e2).bind exJ})):=
         ⟨μ2,_,by simp[VR],((hs1.trans k4).trans hs2).trans m4⟩
        subst he2
        cases e2 with
        |normal=>exact⟨_,_,hend,hR⟩
        |exit id=>exact⟨_,_,hend,hR⟩
        |ret=>exact⟨_,_,hend,hR⟩
       ·cases h
      ·cases h
     ·cases h
    ·cases h
   ·cases h
 ·cases h
def Zuw(P:Program)(tbl:Nat→Option Zeh):Prop:=
 ∀f mf,tbl f=some mf→Zlj P f=some mf∧∀fn,P.funcs[f]?=some fn→(fn.name== "runtime.NumGoroutine")=false
def Zwj{f:FuncId}{mf:Zeh}(h:Zlj P f=some mf):∃fn,P.funcs[f]?=some fn∧fn.body.isSome=true:=by
 unfold Zlj at h
 split at h
 ·rename_i fn hf
  refine⟨fn,hf,?_⟩
  split at h
  ·rename_i hb _;rw[hb];rfl
  ·cases h
 ·cases h
def Zuj{tbl:Nat→Option Zeh}{code:Zfs}(ht:Zuw P tbl)(hcode:Zo6 P code):Zbw P (Zcs tbl code):=by
 intro g args st v st' h μ w G xs hh hg hx
 unfold Zcs at h
 split at h
 ·rename_i f first caps
  split at h
  ·rename_i mf hmf
   obtain⟨a',c',rfl,h1,h2⟩:=hg
   obtain⟨hc,hname⟩:=ht f mf hmf
   obtain⟨fn,hf,hb⟩:=Zwj hc
   refine⟨{target:=.fn (.func f) ⟨c'⟩,args:=⟨a'⟩++⟨xs⟩},by simp[Deferred.ofValue],.inl ⟨rfl,f,⟨a'++xs++c'⟩,?_,?_⟩⟩
   ·have hn:fn.name≠ "runtime.NumGoroutine" :=by simpa using hname fn hf
    simp[invoke,callFunc,hf,hn]
    intro hq
    rw[hq]at hb
    cases hb
   ·exact Ycq hcode hf hc hh ((h1.append hx).append h2) h
  ·cases h
 ·rename_i l
  obtain⟨L0,hl,rfl⟩:=hg
  obtain⟨f,tmps,asg,bod,q1,q2⟩:=Ye7 hcode hh hl hx h
  refine⟨{target:=.fn (.yield L0.b) #[],args:=⟨xs⟩},by simp[Deferred.ofValue],.inr ⟨rfl,L0.b,f,tmps,asg,bod,?_,q2⟩⟩
  simp[invoke,q1]
 ·cases h
def Yjz{a2:Act}{w4:World}{fr2:Fr}{stf:St}:∀(q:Option Ex),Zh1 P μ w st (match q with|none=>.normal|some e=>e) fr2 stf (exE (match q with|none=>.normal|some e=>e)) a2 w4→
  (match q.bind exJ with
   |none=>Zh1 P μ w st (match q with|none=>.normal|some e=>e) fr2 stf .normal a2 w4
   |some c=>c.wpIn (FE lb) 0 P (Zh1 P μ w st (match q with|none=>.normal|some e=>e) fr2 stf) a2 w4)
 |none,h=>h
 |some .normal,h=>h
 |some (.exit _),h=>wpIn_exit h
 |some .ret,h=>wpIn_ret h
def Zvd(hcall:Zbw P call):Yd2 P call:=by
 intro ro g s ps asg bod fr st ex fr' st' hs h μ w a lb hh hf hro
 unfold Zer at h
 split at h
 ·cases h
 ·rename_i gv hgv
  have hG:=Zas hh hf.1 hs hgv
  rw[Yuh]at h
  obtain⟨hy,h⟩:=h
  have hy':gv.isY=false:=by simpa using hy
  split at h
  ·cases h
  ·rename_i st1 d mk hstart
   split at h
   ·cases h
   ·rename_i x st2 hc
    split at h
    ·rename_i R hg2
     rw[Yuh]at h
     obtain⟨hbusy,h⟩:=h
     simp only[Yr1,Yr5]at h
     obtain⟨rfl,rfl,rfl⟩:=h
     refine wpIn_rangeFunc fun fn _=>?_
     have common:∀(l:Nat) (mark:List Deferred) (w0:World) (μ0:Mu) (ws0:List Nat) (db:Nat),Stp P μ w st μ0 w0 st1 ws0→l=w0.heap.size→(∃ld,μ0 d=some ld∧ld.b=db)→
       (Instr.enterLoop fn a.tmps ps asg bod (FE lb).round).run P w=.ok (l,mark) (w0.alloc (.loop {state:=.ready,pending:=none,fn,tmps:=a.tmps,params:=ps,assign:=asg,body:=bod,defers:=db}))→
       (∀ms ds,Zn5 μ0 ms ds→Zn5 μ0 (mk++ms) (mark++ds))→
       ∃(l:Nat) (mark:List Deferred) (w₁:World) (d:Deferred) (w₁':World) (f:FuncId) (args:Array Value) (w₂:World),
        (Instr.enterLoop fn a.tmps ps asg bod (FE lb).round).run P w=.ok (l,mark) w₁∧
        (resolve a.eval (rangeCall g l) 0).run P w₁=.ok d w₁'∧
        (∀f',Target.leads P w₁' d.target d.args=some f'→(FE lb).fn f')∧
        (invoke d.target d.args).run P w₁'=.ok (.enter f args) w₂∧
        ((FE lb).depth.isSome=true→1≤0)∧
        CallsIn (FE lb) (0-1) P f args w₂ (rangePost (FE lb) 0 P l (Zh1 P μ w st (match R.pend with|none=>.normal|some e=>e) {fr with marks:=mk++fr.marks} (st2.write st1.n (.loop {R with st:=.exhausted}))) {a with defers:=mark++a.defers}):=by
      intro l mark w0 μ0 ws0 db hs0 hl0 hdb hent hdef
      subst hl0
      obtain⟨ld,hd1,hd2⟩:=hdb
      have hm0:=hs0.mono hh
      have hne:d≠st1.n:=fun hc=>by have:=(hs0.hr.dom d ld hd1).1;omega
      have hst1:Stp P μ0 w0 st1 (fun i=>if i=st1.n then some ⟨w0.heap.size,0,0⟩ else μ0 i) (w0.alloc (.loop {state:=.ready,pending:=none,fn,tmps:=a.tmps,params:=ps,assign:=asg,body:=bod,defers:=db}))
        (st1.alloc (.loop {st:=.ready,pend:=none,r:=fr.r,n:=fr.n,ps:=ps.toList,assign:=Zc2 P asg,body:=Zc2 P bod,defs:=d})) []:=by
       have hmono:∀i l,μ0 i=some l→(fun i=>if i=st1.n then some (⟨w0.heap.size,0,0⟩:L) else μ0 i) i=some l:=fun i l hl=>by
        have:=(hs0.hr.dom i l hl).1
        simp only
        rw[Yr3 (by omega)];exact hl
       refine Stp.alloc hs0.hr _ (.loop {state:=.ready,pending:=none,fn,tmps:=a.tmps,params:=ps,assign:=asg,body:=bod,defers:=db}) 0 0 ⟨fn,a.tmps,asg,bod,ld,?_,(hf.1.mono hm0).mono hmono,rfl,rfl,?_⟩
       ·show (w0.heap.push _)[w0.heap.size]?=_
        simp[hd2]
       ·simp only;rw[Yr3 hne];exact hd1
      have hs1:=hs0.trans hst1
      have hm1:=hs1.mono hh
      obtain⟨dd,hdd,hrest⟩:=hcall gv [.yield st1.n] _ x st2 hc _ _ (a.eval g) [.func (.yield w0.heap.size) #[] #[]] hst1.hr (VR.mono hm1 _ _ hG) (Zay.2 ⟨_,[],rfl,⟨⟨w0.heap.size,0,0⟩,by simp,rfl⟩,by simp[VRs]⟩)
      rcases hrest with⟨_,f,args,hinv,hci⟩|⟨hyy,_⟩
      ·refine⟨w0.heap.size,mark,_,dd,_,f,args,_,hent,?_,fun _ _=>trivial,hinv,fun hx=>by simp[Fence.wide]at hx,?_⟩
       ·have e0:(#[Operand.const (.func (.yield w0.heap.size) #[] #[])]).map a.eval=(⟨[.func (.yield w0.heap.size) #[] #[]]⟩:Array Value):=by simp[Act.eval]
        simp only[resolve,e0]
        exact hdd
       ·refine CallsIn.mono (F:=Fence.wide) hci fun e w3 he=>?_
        cases e with
        |panicked _=>exact he.elim
        |outgrown=>exact he.elim
        |returned y=>
         obtain⟨μ2,ws2,_,hs2⟩:=he
         have hl2:μ2 st1.n=some ⟨w0.heap.size,0,0⟩:=hs2.mono hst1.hr _ _ (by simp)
         obtain⟨rec,m1,m2,m3,m4⟩:=Stp.loop (R':={R with st:=.exhausted}) hs2.hr hl2 hg2 rfl rfl rfl rfl rfl rfl
         have hend:=run_endLoop (P:=P) m1 (by rw[m2];exact hbusy)
         have hsf:=(hs1.trans hs2).trans m4
         have hrec:({rec with state:=.exhausted,pending:=R.pend.bind exJ}:Loop)={rec with state:=.exhausted}:=by rw[←m3]
         rw[hrec]at hsf
         have hfr:FrR μ2 {fr with marks:=mk++fr.marks} {a with defers:=mark++a.defers}:=by
          refine⟨(hf.1.mono hm1).mono (hs2.mono hst1.hr),?_⟩
          exact((hdef _ _ (hf.2.mono hm0)).mono (hst1.mono hs0.hr)).mono (hs2.mono hst1.hr)
         have fin:Zh1 P μ w st (match R.pend with|none=>.normal|some e=>e) {fr with marks:=mk++fr.marks} (st2.write st1.n (.loop {R with st:=.exhausted})) (exE (match R.pend with|none=>.normal|some e=>e)) {a with defers:=mark++a.defers} _:=⟨rfl,μ2,_,hsf,hfr⟩
         exact⟨R.pend.bind exJ,_,by rw[←m3];exact hend,Yjz R.pend fin⟩
      ·rw[hy']at hyy;cases hyy
     cases ro with
     |none=>
      cases lb with
      |some _=>exact hro.elim
      |none=>
       simp only[Zs6,Yr1,Yr5]at hstart
       obtain⟨rfl,rfl,rfl⟩:=hstart
       have hst0:Stp P μ w st (fun i=>if i=st.n then some ⟨w.heap.size,0,0⟩ else μ i) (w.alloc (.deferred (some []))) (st.alloc (.defs true)) []:=
        Stp.alloc hh (.defs true) (.deferred (some [])) 0 0 (by simp only[OM];show (w.heap.push _)[w.heap.size]?=_;simp)
       refine common (w.heap.size+1) [{target:=.collected w.heap.size,args:=#[]}] (w.alloc (.deferred (some []))) _ [] w.heap.size hst0 (by simp) ⟨⟨w.heap.size,0,0⟩,by simp,rfl⟩ (run_enterLoop_outer ..) fun ms ds hd=>⟨⟨w.heap.size,0,0⟩,ds,by simp,rfl,hd⟩
     |some l0=>
      cases lb with
      |none=>exact hro.elim
      |some b=>
       obtain⟨L0,hl0,rfl⟩:=hro
       simp only[Zs6]at hstart
       split at hstart
       ·rename_i R0 hg0
        simp only[Yr1,Yr5]at hstart
        obtain⟨rfl,rfl,rfl⟩:=hstart
        obtain⟨fn0,tmps0,asg0,bod0,ld0,g1,g2,g3,g4,g5⟩:=hh.get hl0 hg0
        refine common w.heap.size [] w μ [] ld0.b (Stp.refl hh) rfl ⟨ld0,g5,rfl⟩ ?_ (fun ms ds hd=>hd)
        show (Instr.enterLoop fn a.tmps ps asg bod (some L0.b)).run P w=_
        unfold Instr.enterLoop
        simp only[Sem.run_bind,run_getLoop g1,run_newObj_alloc,Result.andThen,Sem.run_pure]
       ·cases hstart
    ·cases h
end
open Go Go.Conc
section
variable {P:Program} {μ:Mu} {w:World} {st st':St} {fr fr':Fr} {a:Act} {call:Za1} {v:V} {lb:Option Nat}
def Ydo{o:Oper}{d:Option Nat}{ch:Src}{s:Option Src}{z:V}(h:Yon P o=some (d,ch,s,z)):
  ∃c,o.op=.select #[c] false∧o.guard=none∧o.dst=d∧Zbc P c.chan=some ch∧Zqi P c.send=some s∧Ze4 P c.elem=some z:=by
 unfold Yon at h
 split at h
 ·rename_i cs hop hg
  split at h
  ·rename_i c hcs
   split at h
   ·rename_i ch' s' z' h1 h2 h3
    simp only[Yr1,Yr5]at h
    obtain⟨rfl,rfl,rfl,rfl⟩:=h
    have:=Zpw hcs
    subst this
    exact⟨c,hop,hg,rfl,h1,h2,h3⟩
   ·cases h
  ·cases h
 ·cases h
def Zje{b:Frame}{ops:Array Oper}{i:Nat}{rest:List Nat}{k:List Item}{cs:List Frame}{o:Oper}{cases:Array CommCase}(ho:ops[i]?=some o)(hg:o.guard=none)(hnd:∀c,o.op≠.defer c)
  (hrun:(execOp a.eval o).run P w=.ok (.comm cases false .select) w):
  ∃es,stepG P true (G (b.atR a (.inRegion ops (i::rest)::k)) cs) w=.comm (G (b.atR a (.inRegion ops (i::rest)::k)) cs) cases false .select w es:=by
 have hw:Region.wanted o (yielded ops a.tmps)=true:=by simp[Region.wanted,hg]
 have h:=stepGR_op (P:=P) (b:=b) (a:=a) (k:=k) (cs:=cs) (w:=w) (rest:=rest) ho hw
 have hrun':((o.semAt b.roundOf a.eval).runT P w #[]).1=.ok (.comm cases false .select) w:=by
  rw[Sem.runT_fst,Oper.semAt_eq _ _ _ hnd];exact hrun
 unfold G
 rw[h]
 unfold stepG.apply
 generalize hr:(o.semAt b.roundOf a.eval).runT P w #[]=r at hrun'
 obtain⟨r1,r2⟩:=r
 simp only at hrun'
 subst hrun'
 exact⟨_,rfl⟩
def Zs3{o:Oper}{c:SelectCase}(hop:o.op=.select #[c] false){zx:Value}(hz:(zeroValue c.elem).run P w=.ok zx w):
  (execOp a.eval o).run P w=.ok (.comm #[{chan:=a.eval c.chan,send:=c.send.map a.eval,zero:=zx}] false .select) w:=by
 unfold execOp
 rw[hop]
 simp[hz,Result.andThen]
def Yhv(hcall:Zbw P call)(hE:Zel P):Yn7 P call:=by
 intro id ops o rest d ch s z fr st ex fr' st' hops hsel h μ w a lb hh hf
 obtain⟨c,hop,hg,rfl,h1,h2,h3⟩:=Ydo hsel
 have ho:ops[0]?=some o:=by rw[←Ytt,hops];rfl
 have hnd:∀c',o.op≠.defer c':=fun c' hc=>by rw[hop]at hc;cases hc
 have hab:o.about P w a.eval=none:=by unfold Oper.about;rw[hop]
 have hsz:ops.size=rest.length+1:=by rw[←Array.length_toList,hops];rfl
 obtain⟨zx,hzr,hzv⟩:=Zqt (w:=w) h3
 have hexec:=Zs3 (a:=a) hop hzr
 unfold Zhf at h
 split at h
 ·rename_i i sv hch hsv
  obtain⟨l,hl,e1⟩:=Zas hh hf.1 h1 hch
  rw[e1]at hexec
  have hse:=Zr1 hh hf.1 h2 hsv
  split at h
  ·rename_i v1 st1 hv
   split at h
   ·rename_i fr1 hput
    split at h
    ·rename_i fr2 st2 hm
     simp only[Yr1,Yr5]at h
     obtain⟨rfl,rfl,rfl⟩:=h
     have key:∃x w1 μ1 ws,VR μ1 v1 x∧Stp P μ w st μ1 w1 st1 ws∧∀(b:Frame) (k:List Item) (cs:List Frame) (is:List Nat),
       step P (lone (b.atR a (.inRegion ops (0::is)::k)) cs w)=.next (lone ((b.atR a (.inRegion ops (0::is)::k)).finish x) cs w1):=by
      unfold Yof at hv
      split at hv
      ·-- a send
       rename_i cap buf u hg1
       obtain⟨u',x',hu',hx',hvr⟩:=hse.resolve_left (by rintro⟨hq,_⟩;cases hq)
       simp only[Yr1]at hu'
       subst hu'
       rw[hx']at hexec
       obtain⟨buf',s',r',q1,q2⟩:=hh.get hl hg1
       have hbl:=q2.length
       split at hv
       ·rename_i hroom
        simp only[Yr1,Yr5]at hv
        obtain⟨rfl,rfl⟩:=hv
        refine⟨.tuple #[goInt 0,.bool false],w.setChan l.b cap ((⟨buf'⟩:Array Value).push (a.eval x')) false (s'+1) r' false,μ,[i],?_,?_,fun b k cs is=>?_⟩
        rotate_left 2
        ·obtain⟨es,hstep⟩:=Zje (b:=b) (k:=k) (cs:=cs) (rest:=is) ho hg hnd hexec
         exact step_lone_select_send_room hstep q1 (by simp;omega)
        ·exact⟨_,rfl,by simp[VRs,VR,goInt]⟩
        ·refine Stp.write hh hl hg1 rfl rfl rfl rfl (by simp[size_setChan]) (fun b hb=>?_) ⟨buf'++[a.eval x'],s'+1,r',?_,q2.append (Zay.2 ⟨_,[],rfl,hvr,by simp[VRs]⟩)⟩
         ·simp only[World.setChan];rw[Yt8 (Ne.symm hb)]
         ·rw[heap_setChan _ _ _ _ _ _ _ _ (hh.dom i l hl).2];simp
       ·rename_i hroom
        simp only[Yr1,Yr5]at hv
        obtain⟨rfl,rfl⟩:=hv
        refine⟨.tuple #[goInt (-1),.bool false],w,μ,[],?_,Stp.refl hh,fun b k cs is=>?_⟩
        rotate_left
        ·obtain⟨es,hstep⟩:=Zje (b:=b) (k:=k) (cs:=cs) (rest:=is) ho hg hnd hexec
         exact step_lone_select_send_full hstep q1 (by simp;omega)
        ·exact⟨_,rfl,by simp[VRs,VR,goInt]⟩
      ·-- a receive
       rename_i cap u buf hg1
       rcases hse with⟨_,hx'⟩|⟨_,_,hq,_⟩
       ·rw[hx']at hexec
        obtain⟨buf',s',r',q1,q2⟩:=hh.get hl hg1
        obtain⟨y,ys,rfl,g1,g2⟩:=Zay.1 q2
        simp only[Yr1,Yr5]at hv
        obtain⟨rfl,rfl⟩:=hv
        refine⟨.tuple #[goInt 0,.bool true,(⟨y::ys⟩:Array Value).getD 0 undef],w.setChan l.b cap ((⟨y::ys⟩:Array Value).extract 1 (⟨y::ys⟩:Array Value).size) false s' (r'+1) false,μ,[i],?_,?_,fun b k cs is=>?_⟩
        rotate_left 2
        ·obtain⟨es,hstep⟩:=Zje (b:=b) (k:=k) (cs:=cs) (rest:=is) ho hg hnd hexec
         exact step_lone_select_recv_buf hstep q1 (by simp)
        ·exact⟨_,rfl,Zay.2 ⟨_,_,rfl,by simp[VR,goInt],Zay.2 ⟨_,_,rfl,by simp[VR],Zay.2 ⟨_,_,rfl,by simpa using g1,by simp[VRs]⟩⟩⟩⟩
        ·refine Stp.write hh hl hg1 rfl rfl rfl rfl (by simp[size_setChan]) (fun b hb=>?_) ⟨ys,s',r'+1,?_,g2⟩
         ·simp only[World.setChan];rw[Yt8 (Ne.symm hb)]
         ·rw[heap_setChan _ _ _ _ _ _ _ _ (hh.dom i l hl).2]
          congr 2
          apply Yvc
          simp
       ·cases hq
      ·rename_i cap hg1
       rcases hse with⟨_,hx'⟩|⟨_,_,hq,_⟩
       ·rw[hx']at hexec
        obtain⟨buf',s',r',q1,q2⟩:=hh.get hl hg1
        simp only[VRs]at q2;subst q2
        simp only[Yr1,Yr5]at hv
        obtain⟨rfl,rfl⟩:=hv
        refine⟨.tuple #[goInt (-1),.bool false,zx],w,μ,[],?_,Stp.refl hh,fun b k cs is=>?_⟩
        rotate_left
        ·obtain⟨es,hstep⟩:=Zje (b:=b) (k:=k) (cs:=cs) (rest:=is) ho hg hnd hexec
         exact step_lone_select_default hstep q1
        ·exact⟨_,rfl,Zay.2 ⟨_,_,rfl,by simp[VR,goInt],Zay.2 ⟨_,_,rfl,by simp[VR],Zay.2 ⟨_,_,rfl,hzv μ,by simp[VRs]⟩⟩⟩⟩
       ·cases hq
      ·cases hv
     obtain⟨x,w1,μ1,ws,hx,hs1,hstep⟩:=key
     have hm1:=hs1.mono hh
     have hf1:FrR μ1 fr1 (a.put o.dst x):=(hf.mono hm1).put hx hput
     have hlist:List.range ops.size=0::(List.range rest.length).map (·+1):=by
      rw[hsz,List.range_succ_eq_map]
     have hmap:((List.range rest.length).map (·+1)).map (fun i=>ops[i]?)=rest.map some:=by
      apply Ys1
      intro j
      simp only[List.map_map,Ysa]
      by_cases hj:j<rest.length
      ·have:ops[j+1]?=rest[j]?:=by rw[←Ytt,hops];rfl
       simp[hj,this]
      ·simp[hj]
     have hwp:=Ybe (lb:=lb) (Q:=Zh1 P μ w st .normal fr2 st2) hcall hE _ _ hmap hs1.hr hf1 hm (fun a' w' μ' ws' q1 q2=>⟨rfl,μ',_,hs1.trans q2,q1⟩)
     intro b k cs hro hb hr
     obtain⟨e,a',w',q,harr⟩:=wp_opsIn _ _ _ hwp b k cs hro hb hr
     refine⟨e,a',w',q,.of_steps (.one (fenced_calm hb hr rfl) stepR_region) ?_⟩
     rw[hlist]
     refine .of_steps (.one (fenced_oper hb hr ho fun f hf=>by rw[hab]at hf;cases hf) (hstep b k cs _)) ?_
     rw[Frame.finish_atR,ho]
     exact harr
    ·cases h
   ·cases h
  ·cases h
 ·cases h
end
end Go.Mx
