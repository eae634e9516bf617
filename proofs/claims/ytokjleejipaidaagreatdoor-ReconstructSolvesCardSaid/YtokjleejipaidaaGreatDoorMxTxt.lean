/-A region that draws its order-/
import Derived.Test.YtokjleejipaidaaGreatDoorMxFun
set_option linter.all false
namespace Go.Mx
open Go
section
variable {P:Program} {μ:Mu} {w:World} {st aA:St} {fr bE:Fr} {a:Act} {call:cH} {v:V} {lb:Option Nat}
def Yu5(b_:js P call)(hE:uJ P)(hh:bm P μ w st)(hf:mX μ fr a){o:Oper}(h:cv (As P o.op) call fr.r st=some (v,aA)):∃x w' μ' ws,VR μ' v x/\bH P μ w st μ' w' aA ws:=by
 have hwp:=Xn (lb:=none) (Q:=fun _ _ _=>False) (K:=fun _ _=>∃x w' μ' ws,VR μ' v x/\bH P μ w st μ' w' aA ws) b_ hE hh hf h (fun x w' μ' ws h1 h2=>⟨x,w',μ',ws,h1,h2⟩)
 obtain⟨_,hu⟩:=hwp
 generalize (o.semAt (FE none).round a.eval).run P w=res at hu
 cases res with
 |halt x w'=>cases x<;>simp only[Oper.uponIn]at hu
 |ok x w'=>
  cases x<;>simp only[Oper.uponIn]at hu
  case value=>exact hu
  case skip=>exact hu
  case defer=>exact hu
  case enter f args=>
   obtain⟨e,w',fr,hR,_⟩:=hu.2.2 [] (fun d hd=>by simp[Fence.wide]at hd)
   cases e with
   |returned v=>exact hR
   |panicked c=>exact hR.elim
   |outgrown=>obtain⟨_,_,hq⟩:=hR;exact hq.elim
  case row r args=>
   obtain⟨v',w',hR,_⟩:=hu.2 default [] (fun d hd=>by simp[Fence.wide]at hd)
   exact hR
  case round l f tmps fP fQ=>
   obtain⟨e,w',hR,_⟩:=hu.2.2 default [] (fun d hd=>by simp[Fence.wide]at hd)
   cases e with
   |returned v=>exact hR
   |panicked c=>exact hR.elim
   |outgrown=>obtain⟨_,_,hq⟩:=hR;exact hq.elim
def AM(P:Program)(call:cH)(ops:Array Oper)(o:Oper)(st:St)(fr:Fr)(v:V)(f:FP)(bV:St)(dV:Fr):Prop:=
 ∃g b,GP ops o.guard=some g/\bU fr.r g=some b/\fr.put o.dst v=some dV/\
  (b=true->∃s',cv (As P o.op) call fr.r {st with w:=[]}=some (v,s')/\bV={s' with w:=ar st.n s'.w++st.w}/\f=pH fr.r (As P o.op) (ar st.n s'.w) st.n s'.n)/\
  (b=false->v=.aV []/\bV=st/\f=⟨some [],[],st.n,st.n⟩)
def Ztt{ops:Array Oper}:∀(os:List Oper) (fr:Fr) (st:St) (ig:List FP) (bE:Fr) (aA:St),bK call (os.map (rE P ops)) fr st=some (ig,bE,aA)->
  ∃(aI:Nat->St) (bq:Nat->Fr) (vI:Nat->V) (bf:Nat->FP),aI 0=st/\bq 0=fr/\aI os.length=aA/\bq os.length=bE/\ig.length=os.length/\
   ∀i o,os[i]?=some o->ig[i]?=some (bf i)/\AM P call ops o (aI i) (bq i) (vI i) (bf i) (aI (i+1)) (bq (i+1))
 |[],fr,st,ig,bE,aA,h=>by
  simp only[vR,bK,Yd3,an,bs]at h
  obtain⟨rfl,rfl,rfl⟩:=h
  exact⟨fun _=>st,fun _=>fr,fun _=>.bF,fun _=>⟨none,[],0,0⟩,rfl,rfl,rfl,rfl,rfl,fun i o h=>by simp at h⟩
 |o::os,fr,st,ig,bE,aA,h=>by
  simp only[mU,bK,BY]at h
  have go:∀(v:V) (f:FP) (bV:St) (dV:Fr) (uB:List FP),AM P call ops o st fr v f bV dV->bK call (os.map (rE P ops)) dV bV=some (uB,bE,aA)->ig=f::uB->
    ∃(aI:Nat->St) (bq:Nat->Fr) (vI:Nat->V) (bf:Nat->FP),aI 0=st/\bq 0=fr/\aI (o::os).length=aA/\bq (o::os).length=bE/\ig.length=(o::os).length/\
     ∀i o',(o::os)[i]?=some o'->ig[i]?=some (bf i)/\AM P call ops o' (aI i) (bq i) (vI i) (bf i) (aI (i+1)) (bq (i+1)):=by
   intro v f bV dV uB hs hm hf
   obtain⟨aI,bq,vI,bf,h1,h2,h3,h4,h5,h6⟩:=Ztt os dV bV uB bE aA hm
   refine⟨fun|0=>st|i+1=>aI i,fun|0=>fr|i+1=>bq i,fun|0=>v|i+1=>vI i,fun|0=>f|i+1=>bf i,rfl,rfl,h3,h4,by simp[hf,h5],fun i o' ho=>?_⟩
   cases i with
   |zero=>
    simp only[BS,an]at ho
    subst ho
    refine⟨by simp[hf],?_⟩
    show AM P call ops o st fr v f (aI 0) (bq 0)
    rw[h1,h2];exact hs
   |succ i=>
    obtain⟨g1,g2⟩:=h6 i o' (by simpa using ho)
    exact⟨by simpa[hf]using g1,g2⟩
  unfold rE at h
  cases hg:GP ops o.guard with
  |none=>
   rw[hg]at h
   simp only[bU,cv,WN]at h
   cases h
  |some g=>
   rw[hg]at h
   simp only at h
   cases hw:bU fr.r g with
   |none=>rw[hw]at h;cases h
   |some b=>
    rw[hw]at h
    cases b with
    |true=>
     simp only at h
     split at h
     ·rename_i v1 s1 hm
      split at h
      ·rename_i dV hp
       split at h
       ·rename_i uB Ac eI ik
        simp only[an,bs]at h
        obtain⟨rfl,rfl,rfl⟩:=h
        exact go v1 _ _ dV uB ⟨g,true,hg,hw,hp,fun _=>⟨s1,hm,rfl,rfl⟩,fun hc=>by cases hc⟩ ik rfl
       ·cases h
      ·cases h
     ·cases h
    |false=>
     simp only at h
     split at h
     ·rename_i dV hp
      split at h
      ·rename_i uB Ac eI ik
       simp only[an,bs]at h
       obtain⟨rfl,rfl,rfl⟩:=h
       exact go (.aV []) _ st dV uB ⟨g,false,hg,hw,hp,(fun hc=>by cases hc),fun _=>⟨rfl,rfl,rfl⟩⟩ ik rfl
      ·cases h
     ·cases h
def Xo{op:gm}{s':St}(hm:cv op call fr.r {st with w:=[]}=some (v,s'))(lo hi:Nat):(pH fr.r op (ar st.n s'.w) lo hi).wr=ar st.n s'.w/\(pH fr.r op (ar st.n s'.w) lo hi).lo=lo/\(pH fr.r op (ar st.n s'.w) lo hi).hi=hi:=by
 unfold pH
 split
 ·rename_i hs
  rcases Zn0 hs .nil [] hm with⟨h1,_⟩|⟨o,h1,_⟩
  ·subst h1;exact⟨rfl,rfl,rfl⟩
  ·subst h1;exact⟨rfl,rfl,rfl⟩
 ·split
  ·split<;>exact⟨rfl,rfl,rfl⟩
  ·exact⟨rfl,rfl,rfl⟩
def Ycv(b_:js P call)(hE:uJ P)(hh:bm P μ w st)(hf:mX μ fr a){ops:Array Oper}{o:Oper}{f:FP}{bV:St}{dV:Fr}(h:AM P call ops o st fr v f bV dV):
  ∃w' μ' a',bH P μ w st μ' w' bV f.wr/\mX μ' dV a'/\f.lo=st.n/\f.hi=bV.n:=by
 obtain⟨g,b,hg,hw,hp,ht,Me⟩:=h
 cases b with
 |true=>
  obtain⟨s',hm,rfl,rfl⟩:=ht rfl
  obtain⟨x,w',μ',ws,h1,h2⟩:=Yu5 b_ hE (hh.now []) hf hm
  have h3:=h2.fold hh
  obtain⟨e1,e2,e3⟩:=Xo (call:=call) hm st.n s'.n
  rw[e1,e2,e3]
  exact⟨w',μ',_,h3,(hf.mono (h3.mono hh)).put h1 hp,rfl,rfl⟩
 |false=>
  obtain⟨rfl,rfl,rfl⟩:=Me rfl
  exact⟨w,μ,_,bH.refl hh,hf.put (v:=.aV []) (x:=undef) ⟨[],rfl,by simp[aU]⟩ hp,rfl,rfl⟩
structure wg (P:Program) (μ:Mu) (aI:Nat->St) (bq:Nat->Fr) (bf:Nat->FP) (N:Nat):Prop where
 fk:∀i,i<N->(aI i).n<=(aI (i+1)).n
 lo:∀i,i<N->(bf i).lo=(aI i).n
 hi:∀i,i<N->(bf i).hi=(aI (i+1)).n
 wl:∀i,i<N->(aI (i+1)).w=(bf i).wr++(aI i).w
 Xl:∀i,i<N->∀j∈(bf i).wr,j<(aI i).n
 ad:∀i,i<N->∀j,j<(aI i).n->j∉(bf i).wr->(aI (i+1)).h.get j=(aI i).h.get j
 grow:∀i,i<N->∀j o',j<(aI i).n->(aI (i+1)).h.get j=some o'->∃o,(aI i).h.get j=some o/\(o'.wr=true->o.wr=true)/\(o'.live=true->o.live=true)
 zA:∀i,i<N->∀j∈(bf i).wr,∃o,(aI i).h.get j=some o/\o.wr=true
 scr:∀i,i<=N->∀t v,(bq i).r.get t=some v->Sc (aI i).n v
 sch:∀i,i<=N->∀j,(j<(aI 0).n->∃l,μ j=some l)->j<(aI i).n->∃o μT wT lT,(aI i).h.get j=some o/\OM P μT wT o lT/\∀k l,μT k=some l->k<(aI i).n
 fn:∀i,i<=N->(bq i).n=(bq 0).n/\(bq i).marks=(bq 0).marks
def Yr5{ops:Array Oper}{o:Oper}{f:FP}{bV:St}{dV:Fr}(h:AM P call ops o st fr v f bV dV):∀j∈f.wr,j<st.n:=by
 have key:∀(l:List Nat) (n j:Nat),j∈ar n l->j<n:=by
  intro l n j hj
  induction l with
  |nil=>simp[ar]at hj
  |cons i l ih=>
   simp only[ar]at hj
   split at hj
   ·unfold vZ at hj
    split at hj
    ·exact ih hj
    ·simp only[ku]at hj
     rcases hj with rfl|hj
     ·assumption
     ·exact ih hj
   ·exact ih hj
 obtain⟨g,b,hg,hw,hp,ht,Me⟩:=h
 cases b with
 |true=>
  obtain⟨s',hm,rfl,rfl⟩:=ht rfl
  rw[(Xo (call:=call) hm _ _).1]
  exact key _ _
 |false=>
  obtain⟨rfl,rfl,rfl⟩:=Me rfl
  intro j hj
  simp at hj
def Yit{d:Option Nat}(h:fr.put d v=some bE):bE.n=fr.n/\bE.marks=fr.marks:=by
 cases d with
 |none=>simp only[Fr.put,an]at h;subst h;exact⟨rfl,rfl⟩
 |some d=>
  simp only[Fr.put]at h
  split at h
  ·simp only[an]at h;subst h;exact⟨rfl,rfl⟩
  ·cases h
def Zy6(b_:js P call)(hE:uJ P){ops:Array Oper}{aI:Nat->St}{bq:Nat->Fr}{vI:Nat->V}{bf:Nat->FP}{N:Nat}{os:List Oper}(hN:os.length=N)
  (hh:bm P μ w (aI 0)) (hf:mX μ (bq 0) a) (hs:∀i o,os[i]?=some o->AM P call ops o (aI i) (bq i) (vI i) (bf i) (aI (i+1)) (bq (i+1))):
  ∀i,i<=N->∃w' μ' a' ws,bH P μ w (aI 0) μ' w' (aI i) ws/\mX μ' (bq i) a':=by
 intro i
 induction i with
 |zero=>exact fun _=>⟨w,μ,a,[],bH.refl hh,hf⟩
 |succ i ih=>
  intro hi
  obtain⟨w',μ',a',ws,h1,h2⟩:=ih (by omega)
  have ho:os[i]?=some (os[i]'(by omega)):=cF (by omega)
  obtain⟨w2,μ2,a2,h3,h4,_⟩:=Ycv b_ hE h1.hr h2 (hs i _ ho)
  exact⟨w2,μ2,a2,_,h1.trans h3,h4⟩
def Ysb(b_:js P call)(hE:uJ P){ops:Array Oper}{aI:Nat->St}{bq:Nat->Fr}{vI:Nat->V}{bf:Nat->FP}{N:Nat}{os:List Oper}(hN:os.length=N)
  (hh:bm P μ w (aI 0)) (hf:mX μ (bq 0) a) (hs:∀i o,os[i]?=some o->AM P call ops o (aI i) (bq i) (vI i) (bf i) (aI (i+1)) (bq (i+1))):wg P μ aI bq bf N:=by
 have Yy:=Zy6 b_ hE hN hh hf hs
 have cL:∀i,i<N->∃o,os[i]?=some o:=fun i hi=>⟨_,cF (by omega)⟩
 have pd:∀i,i<N->∃w1 μ1 w2 μ2 a2,bH P μ1 w1 (aI i) μ2 w2 (aI (i+1)) (bf i).wr/\mX μ2 (bq (i+1)) a2/\(bf i).lo=(aI i).n/\(bf i).hi=(aI (i+1)).n:=fun i hi=>by
  obtain⟨w',μ',a',ws,h1,h2⟩:=Yy i (by omega)
  obtain⟨o,ho⟩:=cL i hi
  obtain⟨w2,μ2,a2,h3,h4,h5,h6⟩:=Ycv b_ hE h1.hr h2 (hs i o ho)
  exact⟨w',μ',w2,μ2,a2,h3,h4,h5,h6⟩
 refine⟨fun i hi=>?_,fun i hi=>?_,fun i hi=>?_,fun i hi=>?_,fun i hi=>?_,fun i hi=>?_,fun i hi=>?_,fun i hi=>?_,fun i hi t v hv=>?_,fun i hi j hj GR=>?_,fun i=>?_⟩
 ·obtain⟨_,_,_,_,_,h,_⟩:=pd i hi;exact h.fk
 ·obtain⟨_,_,_,_,_,_,_,h,_⟩:=pd i hi;exact h
 ·obtain⟨_,_,_,_,_,_,_,_,h⟩:=pd i hi;exact h
 ·obtain⟨_,_,_,_,_,h,_⟩:=pd i hi;exact h.wl
 ·obtain⟨o,ho⟩:=cL i hi;exact Yr5 (hs i o ho)
 ·obtain⟨_,_,_,_,_,h,_⟩:=pd i hi;exact h.ad
 ·obtain⟨_,_,_,_,_,h,_⟩:=pd i hi;exact h.grow
 ·obtain⟨o,ho⟩:=cL i hi
  obtain⟨_,_,_,_,_,h,_⟩:=pd i hi
  exact fun j hj=>h.zA j hj (Yr5 (hs i o ho) j hj)
 ·obtain⟨w',μ',a',ws,h1,h2⟩:=Yy i hi
  obtain⟨x,_,hx⟩:=h2.1.2 t v hv
  exact VR.sc (fun k l hk=>(h1.hr.c_ k l hk).1) v x hx
 ·obtain⟨w',μ',a',ws,h1,h2⟩:=Yy i hi
  have hl:∃l,μ' j=some l:=by
   by_cases h0:j<(aI 0).n
   ·obtain⟨l,hl⟩:=hj h0
    exact⟨l,(h1.ext j h0).trans hl⟩
   ·exact h1.full j (by omega) GR
  obtain⟨l,hl⟩:=hl
  obtain⟨o,BQ,yO⟩:=h1.hr.obj j l hl
  exact⟨o,μ',w',l,BQ,yO,fun k l hk=>(h1.hr.c_ k l hk).1⟩
 ·induction i with
  |zero=>exact fun _=>⟨rfl,rfl⟩
  |succ i ih=>
   intro hi
   obtain⟨o,ho⟩:=cL i (by omega)
   obtain⟨g,b,_,_,hp,_⟩:=hs i o ho
   obtain⟨e1,e2⟩:=Yit hp
   obtain⟨f1,f2⟩:=ih (by omega)
   exact⟨e1.trans f1,e2.trans f2⟩
end
def wo(aI:Nat->St)(bf:Nat->FP)(k j:Nat):Prop:=j∈(bf k).wr\/((aI k).n<=j/\j<(aI (k+1)).n)
instance (aI:Nat->St) (bf:Nat->FP) (k j:Nat):Decidable (wo aI bf k j):=by unfold wo;infer_instance
def jM(aI:Nat->St)(bf:Nat->FP)(S:Nat->Bool):Nat->Nat->Option O
 |0,j=>(aI 0).h.get j
 |k+1,j=>if S k=true/\wo aI bf k j then (aI (k+1)).h.get j else jM aI bf S k j
def wj(bq:Nat->Fr)(ds:Nat->Option Nat)(S:Nat->Bool):Nat->Nat->Option V
 |0,t=>(bq 0).r.get t
 |k+1,t=>if S k=true/\ds k=some t then (bq (k+1)).r.get t else wj bq ds S k t
def mC(S:Nat->Bool)(i:Nat):Nat->Bool:=fun k=>if k=i then true else S k
section
variable {P:Program} {μ:Mu} {aI:Nat->St} {bq:Nat->Fr} {bf:Nat->FP} {ds:Nat->Option Nat} {S:Nat->Bool} {N:Nat}
def Xj(T:wg P μ aI bq bf N):∀{i j:Nat},i<=N->j<(aI i).n->(∀k,k<i->wo aI bf k j->S k=true)->jM aI bf S i j=(aI i).h.get j
 |0,j,_,_,_=>rfl
 |i+1,j,hi,hj,h=>by
  simp only[jM]
  by_cases ht:wo aI bf i j
  ·rw[ax ⟨h i (by omega) ht,ht⟩]
  ·rw[ak (fun hc=>ht hc.2)]
   simp only[wo,not_or,not_and,tK]at ht
   have au:j<(aI i).n:=by
    rcases Nat.lt_or_ge j (aI i).n with h1|h1
    ·exact h1
    ·have:=ht.2 h1;omega
   rw[Xj T (by omega) au fun k hk=>h k (by omega),T.ad i (by omega) j au ht.1]
def Rb:∀{M i j:Nat},i<=M->(∀k,i<=k->k<M->wo aI bf k j->S k=false)->jM aI bf S M j=jM aI bf S i j
 |0,i,j,hi,_=>by rw[Nat.le_zero.1 hi]
 |M+1,i,j,hi,h=>by
  by_cases e:i=M+1
  ·rw[e]
  ·simp only[jM]
   rw[ak,Rb (by omega) fun k h1 h2=>h k h1 (by omega)]
   rintro⟨h1,h2⟩
   rw[h M (by omega) (by omega) h2]at h1;cases h1
def Zig{i:Nat}:∀{M j:Nat},¬wo aI bf i j->jM aI bf (mC S i) M j=jM aI bf S M j
 |0,j,_=>rfl
 |M+1,j,h=>by
  simp only[jM]
  rw[Zig h]
  by_cases e:M=i
  ·subst e
   rw[ak (fun hc=>h hc.2),ak (fun hc=>h hc.2)]
  ·simp only[mC,e,if_false]
def Ygs{i j:Nat}(hi:i<N)(ht:wo aI bf i j)(h:∀k,i<k->k<N->wo aI bf k j->S k=false):jM aI bf (mC S i) N j=(aI (i+1)).h.get j:=by
 rw[Rb (i:=i+1) (by omega) fun k h1 h2 h3=>by simp only[mC];rw[ak (by omega)];exact h k (by omega) h2 h3]
 simp only[jM,mC]
 rw[ax ⟨by simp,ht⟩]
def Hy(bq:Nat->Fr)(ds:Nat->Option Nat)(vI:Nat->V)(N:Nat):Prop:=∀i,i<N->∀t,(bq (i+1)).r.get t=if ds i=some t then some (vI i) else (bq i).r.get t
def Xk{vI:Nat->V}(T:Hy bq ds vI N):∀{i t:Nat},i<=N->(∀k,k<i->ds k=some t->S k=true)->wj bq ds S i t=(bq i).r.get t
 |0,t,_,_=>rfl
 |i+1,t,hi,h=>by
  simp only[wj]
  by_cases ht:ds i=some t
  ·rw[ax ⟨h i (by omega) ht,ht⟩]
  ·rw[ak (fun hc=>ht hc.2),Xk T (by omega) fun k hk=>h k (by omega),T i (by omega) t,ak ht]
def Rc:∀{M i t:Nat},i<=M->(∀k,i<=k->k<M->ds k=some t->S k=false)->wj bq ds S M t=wj bq ds S i t
 |0,i,t,hi,_=>by rw[Nat.le_zero.1 hi]
 |M+1,i,t,hi,h=>by
  by_cases e:i=M+1
  ·rw[e]
  ·simp only[wj]
   rw[ak,Rc (by omega) fun k h1 h2=>h k h1 (by omega)]
   rintro⟨h1,h2⟩
   rw[h M (by omega) (by omega) h2]at h1;cases h1
def Zif{i:Nat}:∀{M t:Nat},ds i≠some t->wj bq ds (mC S i) M t=wj bq ds S M t
 |0,t,_=>rfl
 |M+1,t,h=>by
  simp only[wj]
  rw[Zif h]
  by_cases e:M=i
  ·subst e
   rw[ak (fun hc=>h hc.2),ak (fun hc=>h hc.2)]
  ·simp only[mC,e,if_false]
def Ygr{vI:Nat->V}(T:Hy bq ds vI N){i t:Nat}(hi:i<N)(ht:ds i=some t)(h:∀k,i<k->k<N->ds k=some t->S k=false):wj bq ds (mC S i) N t=some (vI i):=by
 rw[Rc (i:=i+1) (by omega) fun k h1 h2 h3=>by simp only[mC];rw[ak (by omega)];exact h k (by omega) h2 h3]
 simp only[wj,mC]
 rw[ax ⟨by simp,ht⟩,T i hi t,ax ht]
def AK(r:T V):List Nat->T V
 |[]=>.nil
 |t::ts=>match r.get t with
  |some v=>(AK r ts).set t v
  |none=>AK r ts
def Mb(r:T V):∀(ts:List Nat) (t:Nat),(AK r ts).get t=if t∈ts then r.get t else none
 |[],t=>by simp[AK,T.get]
 |u::ts,t=>by
  simp only[AK]
  split
  ·rename_i v hv
   rw[T.ag,Mb r ts t]
   by_cases e:t=u
   ·subst e;simp[hv]
   ·simp[e]
  ·rename_i hv
   rw[Mb r ts t]
   by_cases e:t=u
   ·subst e;simp[hv]
   ·simp[e]
def Yqu{r:T V}{ts:List Nat}{s:Src}(h:∀t∈s.tmps,t∈ts):s.ev (AK r ts)=s.ev r:=by
 cases s with
 |const v=>rfl
 |tmp t=>simp only[Src.ev];rw[Mb,ax (h t (by simp[Src.tmps]))]
def rT(h:T O)(ad:List Nat):Nat->T O
 |0=>.nil
 |n+1=>match h.get n with
  |some o=>(rT h ad n).set n (if n∈ad then o else .dead)
  |none=>rT h ad n
def Ka(h:T O)(ad:List Nat):∀(n j:Nat),(rT h ad n).get j=if j<n then (h.get j).map fun o=>if j∈ad then o else .dead else none
 |0,j=>by simp[rT,T.get]
 |n+1,j=>by
  simp only[rT]
  split
  ·rename_i o ho
   rw[T.ag,Ka h ad n j]
   by_cases e:j=n
   ·subst e;simp[ho]
   ·rw[ak e]
    by_cases e2:j<n
    ·rw[ax e2,ax (by omega)]
    ·rw[ak e2,ak (by omega)]
  ·rename_i ho
   rw[Ka h ad n j]
   by_cases e:j=n
   ·subst e;simp[ho]
   ·by_cases e2:j<n
    ·rw[ax e2,ax (by omega)]
    ·rw[ak e2,ak (by omega)]
def FP.dk(f:FP)(j:Nat):Prop:=
 match f.rd with
 |none=>True
 |some l=>j∈l
def Ydh{st σ:St}{i:Nat}(h:σ.h.get i=st.h.get i):σ.row i=st.row i:=by unfold St.row;rw[h]
def Yjy{call:cH}{r:T V}{op:gm}{st s':St}{v:V}{ws:List Nat}{lo hi:Nat}(hm:cv op call r {st with w:=[]}=some (v,s'))(fS:lo=st.n):
  ∃σ σ',σ.n=st.n/\σ.w=[]/\cv op call r σ=some (v,σ')/\σ'.n=s'.n/\σ'.w=s'.w/\
   (∀j,j<st.n->(pH r op ws lo hi).dk j->σ.h.get j=st.h.get j)/\(∀j,j<st.n->¬(pH r op ws lo hi).dk j->σ.h.get j=(st.h.get j).map fun _=>.dead)/\
   (∀j,((pH r op ws lo hi).dk j/\j<st.n)\/(st.n<=j/\j<s'.n)->σ'.h.get j=s'.h.get j)/\(∀j∈s'.w,(pH r op ws lo hi).dk j):=by
 by_cases hs:op.oM=true
 ·have hf:pH r op ws lo hi=⟨some [],[],lo,hi⟩:=by unfold pH;rw[ax hs]
  rw[hf]
  have hd:∀j,j<st.n->(rT st.h [] st.n).get j=(st.h.get j).map fun _=>.dead:=fun j hj=>by
   rw[Ka,ax hj];simp
  rcases Zn0 hs (rT st.h [] st.n) [] hm with⟨h1,h2⟩|⟨o,h1,h2⟩
  ·subst h1
   exact⟨⟨rT st.h [] st.n,st.n,[]⟩,_,rfl,rfl,h2,rfl,rfl,fun j _ hj=>by simp[FP.dk]at hj,fun j hj _=>hd j hj,fun j hj=>by
    rcases hj with⟨hj,_⟩|⟨h1,h2⟩
    ·simp[FP.dk]at hj
    ·simp only at h2;omega,fun j hj=>by simp at hj⟩
  ·subst h1
   refine⟨⟨rT st.h [] st.n,st.n,[]⟩,_,rfl,rfl,h2,rfl,rfl,fun j _ hj=>by simp[FP.dk]at hj,fun j hj _=>hd j hj,fun j hj=>?_,fun j hj=>by simp[St.alloc]at hj⟩
   rcases hj with⟨hj,_⟩|⟨h1,h2⟩
   ·simp[FP.dk]at hj
   ·simp only[St.alloc]at h2 ⊢
    have:j=st.n:=by omega
    subst this
    rw[T.ag,T.ag,ax rfl,ax rfl]
 ·cases hl:Q3 r op with
  |none=>
   have hf:pH r op ws lo hi=⟨none,ws,lo,hi⟩:=by unfold pH;rw[ak hs,hl]
   rw[hf]
   exact⟨{st with w:=[]},s',rfl,rfl,hm,rfl,rfl,fun _ _ _=>rfl,fun _ _ hj=>absurd trivial hj,fun _ _=>rfl,fun _ _=>trivial⟩
  |some i=>
   by_cases iP:i<st.n
   case neg=>
    have hf:pH r op ws lo hi=⟨none,ws,lo,hi⟩:=by unfold pH;rw[ak hs,hl];simp only[];rw[ak (by rw[fS];simpa[Nat.blt_eq]using iP)]
    rw[hf]
    exact⟨{st with w:=[]},s',rfl,rfl,hm,rfl,rfl,fun _ _ _=>rfl,fun _ _ hj=>absurd trivial hj,fun _ _=>rfl,fun _ _=>trivial⟩
   have hf:pH r op ws lo hi=⟨some [i],ws,lo,hi⟩:=by unfold pH;rw[ak hs,hl];simp only[];rw[ax (by rw[fS];simpa[Nat.blt_eq]using iP)]
   rw[hf]
   have hk:(rT st.h [i] st.n).get i=st.h.get i:=by
    rw[Ka,ax iP]
    cases st.h.get i<;>simp
   have hd:∀j,j<st.n->¬(j∈[i])->(rT st.h [i] st.n).get j=(st.h.get j).map fun _=>.dead:=fun j hj hn=>by
    rw[Ka,ax hj];simp only[hn,if_false]
   have al:(⟨rT st.h [i] st.n,st.n,[]⟩:St).row i=St.row {st with w:=[]} i:=Ydh hk
   cases op<;>simp only[Q3,reduceCtorEq]at hl
   case load k x=>
    split at hl
    ·rename_i i' o hx
     simp only[an]at hl;subst hl
     simp only[cv,Hg,hx]at hm ⊢
     split at hm
     ·rename_i c e mP hr
      split at hm
      ·rename_i u hu
       simp only[an,bs]at hm
       obtain⟨rfl,rfl⟩:=hm
       refine⟨⟨rT st.h [i'] st.n,st.n,[]⟩,⟨rT st.h [i'] st.n,st.n,[]⟩,rfl,rfl,?_,rfl,rfl,fun j _ hj=>?_,fun j hj hn=>hd j hj hn,fun j hj=>?_,fun j hj=>by simp at hj⟩
       ·rw[al,hr];simp only[hu]
       ·simp only[FP.dk,xC]at hj;subst hj;exact hk
       ·rcases hj with⟨hj,_⟩|⟨h1,h2⟩
        ·simp only[FP.dk,xC]at hj;subst hj;exact hk
        ·simp only at h2;omega
      ·cases hm
     ·cases hm
    ·cases hl
   case store k x y=>
    split at hl
    ·rename_i i' o hx
     simp only[an]at hl;subst hl
     simp only[cv,ET,hx]at hm ⊢
     split at hm
     ·rename_i i2 o2 u pZ hu
      simp only[an,V.ptr.injEq]at pZ
      obtain⟨rfl,rfl⟩:=pZ
      split at hm
      ·rename_i c e hr
       split at hm
       ·rename_i hc
        simp only[an,bs]at hm
        obtain⟨rfl,rfl⟩:=hm
        refine⟨⟨rT st.h [i'] st.n,st.n,[]⟩,St.write ⟨rT st.h [i'] st.n,st.n,[]⟩ i' (.cells (ae c o u.cells) e true),rfl,rfl,?_,rfl,rfl,fun j _ hj=>?_,fun j hj hn=>hd j hj hn,fun j hj=>?_,fun j hj=>?_⟩
        ·rw[al,hr]
         simp only[ax hc]
        ·simp only[FP.dk,xC]at hj;subst hj;exact hk
        ·rcases hj with⟨hj,_⟩|⟨h1,h2⟩
         ·simp only[FP.dk,xC]at hj;subst hj
          simp only[St.write,T.ag,if_true]
         ·simp only[St.write]at h2;omega
        ·simpa[FP.dk,St.write]using hj
       ·cases hm
      ·cases hm
     ·cases hm
    ·cases hl
end
structure Inv (P:Program) (μ:Mu) (w:World) (aI:Nat->St) (bq:Nat->Fr) (bf:Nat->FP) (ds:Nat->Option Nat) (N:Nat) (W:List Nat) (S:Nat->Bool) (μ':Mu) (a':Act) (w':World):Prop where
 ext:∀j,j<(aI 0).n->μ' j=μ j
 c_:∀j l,μ' j=some l->(j<(aI 0).n\/∃k,k<N/\S k=true/\(aI k).n<=j/\j<(aI (k+1)).n)/\l.b<w'.heap.size
 full:∀k,k<N->S k=true->∀j,(aI k).n<=j->j<(aI (k+1)).n->∃l,μ' j=some l
 obj:∀j l,μ' j=some l->∃o,jM aI bf S N j=some o/\OM P μ' w' o l
 inj:∀i j l l' o o',μ' i=some l->μ' j=some l'->i≠j->jM aI bf S N i=some o->jM aI bf S N j=some o'->o.wr=true->o'.live=true->l.b≠l'.b
 wi:a'.tmps.size=(bq 0).n/\∀t v,wj bq ds S N t=some v->∃x,a'.tmps[t]?=some x/\VR μ' v x
 defs:qc μ' (bq 0).marks a'.defers
 ed:LM μ W w w'
 new:∀i l,(aI 0).n<=i->μ' i=some l->w.heap.size<=l.b\/∃j∈W,j<(aI 0).n/\∃lj oj,μ j=some lj/\lj.b=l.b/\(aI 0).h.get j=some oj/\oj.wr=true
structure Ord (bf:Nat->FP) (mo:Nat->dr) (N:Nat) (kW:Nat->Nat->Prop):Prop where
 free:∀i k,i<k->k<N->kW k i\/FP.free (bf i) (bf k)=true
 tmp:∀i k,i<k->k<N->kW k i\/QP (mo i) (mo k)=true
section
variable {P:Program} {μ μ':Mu} {w w':World} {aI:Nat->St} {bq:Nat->Fr} {bf:Nat->FP} {ds:Nat->Option Nat} {S:Nat->Bool} {N:Nat} {W:List Nat} {a a':Act} {mo:Nat->dr} {kW:Nat->Nat->Prop}
def wg.mono(T:wg P μ aI bq bf N):∀{i k:Nat},i<=k->k<=N->(aI i).n<=(aI k).n
 |i,0,h,_=>by rw[Nat.le_zero.1 h];exact aO _
 |i,k+1,h,hk=>by
  by_cases e:i=k+1
  ·rw[e];exact aO _
  ·exact p9 (T.mono (i:=i) (k:=k) (by omega) (by omega)) (T.fk k (by omega))
def RP{a b:FP}(h:FP.free a b=true):(∀j∈a.wr,¬b.dk j)/\(∀j∈a.wr,j∉b.wr)/\(∀j∈b.wr,¬a.dk j)/\∀j∈b.wr,¬(a.lo<=j/\j<a.hi):=by
 unfold FP.free at h
 simp only[G7,Bool.or_eq_false_iff]at h
 obtain⟨⟨⟨h1,h2⟩,h3⟩,h4⟩:=h
 have key:∀(l:List Nat) (o:Option (List Nat)),C4 l o=false->∀j∈l,¬(match o with|none=>True|some q=>j∈q):=by
  intro l o h j hj
  cases o with
  |none=>
   simp only[C4,Bool.not_eq_false',List.isEmpty_iff]at h
   subst h;simp at hj
  |some q=>
   simp only[C4,List.any_eq_false,QV]at h
   exact h j hj
 refine⟨fun j hj=>?_,fun j hj=>?_,fun j hj=>?_,fun j hj=>?_⟩
 ·have:=key _ _ h1 j hj
  unfold FP.dk
  exact this
 ·exact key _ _ h2 j hj
 ·have:=key _ _ h3 j hj
  unfold FP.dk
  exact this
 ·simp only[List.any_eq_false]at h4
  have:=h4 j hj
  intro hc
  apply this
  simp[Nat.ble_eq,Nat.blt_eq,hc.1,hc.2]
def Zzw(T:wg P μ aI bq bf N)(I:Inv P μ w aI bq bf ds N W S μ' a' w')(Or:Ord bf mo N kW)(cO:∀k,S k=true->∀i,kW k i->S i=true){i:Nat}(hi:i<N)(hS:S i=false)(hb:∀j,kW i j->S j=true)
  {j:Nat} {l:L} (hj:μ' j=some l) (au:j<(aI i).n) (hs:(bf i).dk j):
  (∀k,k<i->wo aI bf k j->S k=true)/\(∀k,i<=k->k<N->wo aI bf k j->S k=false):=by
 refine⟨fun k hk ht=>?_,fun k hk DE ht=>?_⟩
 ·rcases ht with ht|⟨h1,h2⟩
  ·rcases Or.free k i hk hi with h|h
   ·exact hb k h
   ·exact absurd hs ((RP h).1 j ht)
  ·rcases(I.c_ j l hj).1 with h0|⟨k',h3,h4,h5,h6⟩
   ·have:=T.mono (i:=0) (k:=k) (by omega) (by omega)
    omega
   ·have:k'=k:=by
     rcases Nat.lt_trichotomy k k' with h|h|h
     ·have:=T.mono (i:=k+1) (k:=k') (by omega) (by omega);omega
     ·exact h.symm
     ·have:=T.mono (i:=k'+1) (k:=k) (by omega) (by omega);omega
    subst this;exact h4
 ·by_cases e:k=i
  ·rw[e];exact hS
  ·rcases ht with ht|⟨h1,h2⟩
   ·rcases Or.free i k (by omega) DE with h|h
    ·cases hq:S k with
     |false=>rfl
     |true=>rw[cO k hq i h]at hS;cases hS
    ·exact absurd hs ((RP h).2.2.1 j ht)
   ·have:=T.mono (i:=i) (k:=k) hk (by omega)
    omega
def Zvc(T:wg P μ aI bq bf N)(Or:Ord bf mo N kW)(cO:∀k,S k=true->∀i,kW k i->S i=true){i:Nat}(hi:i<N)(hS:S i=false)
  {j:Nat} (ht:wo aI bf i j):∀k,i<k->k<N->wo aI bf k j->S k=false:=by
 intro k hk DE eF
 have Nh:=Or.free i k hk DE
 have LF:kW k i->S k=false:=fun h=>by
  cases hq:S k with
  |false=>rfl
  |true=>rw[cO k hq i h]at hS;cases hS
 rcases Nh with h|h
 ·exact LF h
 ·exfalso
  have hm:=T.mono (i:=i+1) (k:=k) (by omega) (by omega)
  have gg:=T.fk i hi
  rcases ht with ht|⟨h1,h2⟩
  ·rcases eF with eF|⟨h3,h4⟩
   ·exact(RP h).2.1 j ht eF
   ·have:=T.Xl i hi j ht;omega
  ·rcases eF with eF|⟨h3,h4⟩
   ·refine(RP h).2.2.2 j eF ⟨?_,?_⟩
    ·rw[T.lo i hi];exact h1
    ·rw[T.hi i hi];exact h2
   ·omega
def Yz{d:Option Nat}{l:List Nat}(h:LU d l=false):∀t,d=some t->t∉l:=by
 intro t ht hm
 subst ht
 simp only[LU]at h
 have:l.contains t=true:=QV.2 hm
 rw[this]at h;cases h
def YA{a b:dr}(h:QP a b=true):(∀t,a.dst=some t->t∉b.reads)/\(∀t,b.dst=some t->t∉a.reads)/\∀t,a.dst=some t->b.dst≠some t:=by
 unfold QP at h
 simp only[G7,Bool.or_eq_false_iff]at h
 obtain⟨⟨h1,h2⟩,h3⟩:=h
 exact⟨Yz h1,Yz h2,fun t ht hb=>Yz h3 t ht (by rw[hb];simp)⟩
def Zz1(Or:Ord bf mo N kW)(cO:∀k,S k=true->∀i,kW k i->S i=true)(qy:∀k,k<N->ds k=(mo k).dst){i:Nat}(hi:i<N)(hS:S i=false)(hb:∀j,kW i j->S j=true)
  {t:Nat} (ht:t∈(mo i).reads):(∀k,k<i->ds k=some t->S k=true)/\(∀k,i<=k->k<N->ds k=some t->S k=false):=by
 refine⟨fun k hk hd=>?_,fun k hk DE hd=>?_⟩
 ·rcases Or.tmp k i hk hi with h|h
  ·exact hb k h
  ·rw[qy k (by omega)]at hd
   exact absurd ht ((YA h).1 t hd)
 ·by_cases e:k=i
  ·rw[e];exact hS
  ·rcases Or.tmp i k (by omega) DE with h|h
   ·cases hq:S k with
    |false=>rfl
    |true=>rw[cO k hq i h]at hS;cases hS
   ·rw[qy k DE]at hd
    exact absurd ht ((YA h).2.1 t hd)
def Yf5(Or:Ord bf mo N kW)(cO:∀k,S k=true->∀i,kW k i->S i=true)(qy:∀k,k<N->ds k=(mo k).dst){i:Nat}(hi:i<N)(hS:S i=false)
  {t:Nat} (ht:ds i=some t):∀k,i<k->k<N->ds k=some t->S k=false:=by
 intro k hk DE hd
 rcases Or.tmp i k hk DE with h|h
 ·cases hq:S k with
  |false=>rfl
  |true=>rw[cO k hq i h]at hS;cases hS
 ·rw[qy i hi]at ht
  rw[qy k DE]at hd
  exact absurd hd ((YA h).2.2 t ht)
end
end Go.Mx
