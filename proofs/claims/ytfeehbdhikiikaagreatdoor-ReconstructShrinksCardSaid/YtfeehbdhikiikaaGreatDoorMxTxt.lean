/-A region that draws its order-/
import Derived.Test.YtfeehbdhikiikaaGreatDoorMxFun
set_option linter.all false
namespace Go.Mx
open Go
variable{eN:Fr}{l ts ws:List Nat}{os:List Oper}{hi i j lo n:Nat}{o:Oper}{d:Option Nat}{cg s':St}{r:T V}{op:iH}
section
variable {P:Program} {μ:Mu} {w:World} {st aB:St} {fr bK:Fr} {a:Act} {call:cQ} {v:V} {lb:Option Nat}
def Yy2(cA:kK P call)(hE:vS P)(hh:bq P μ w st)(hf:oG μ fr a)(h:cH (BI P o.op) call fr.r st=some (v,aB)):∃x w' μ' ws,VR μ' v x/\bN P μ w st μ' w' aB ws:=by
 have hwp:=Yrk (lb:=none) (Q:=fun _ _ _=>False) (K:=fun _ _=>∃x w' μ' ws,VR μ' v x/\bN P μ w st μ' w' aB ws) cA hE hh hf h (fun x w' μ' ws h1 h2=>⟨x,w',μ',ws,h1,h2⟩);obtain⟨_,hu⟩:=hwp;generalize (o.semAt (FE none).round a.eval).run P w=res at hu;cases res with
 |halt x w'=>cases x<;>simp only[Oper.uponIn]at hu
 |ok x w'=>
  cases x<;>simp only[Oper.uponIn]at hu;case value=>exact hu
  case skip=>exact hu
  case defer=>exact hu
  case enter f args=>
   obtain⟨e,w',fr,hR,_⟩:=hu.2.2 [] (fun d hd=>by simp[Fence.wide]at hd)
   cases e with
   |returned v=>exact hR
   |panicked c=>exact hR.elim
   |outgrown=>obtain⟨_,_,hq⟩:=hR;exact hq.elim
  case row r args=>
   obtain⟨v',w',hR,_⟩:=hu.2 default [] (fun d hd=>by simp[Fence.wide]at hd)
   exact hR
  case round l f tmps gY gZ=>
   obtain⟨e,w',hR,_⟩:=hu.2.2 default [] (fun d hd=>by simp[Fence.wide]at hd)
   cases e with
   |returned v=>exact hR
   |panicked c=>exact hR.elim
   |outgrown=>obtain⟨_,_,hq⟩:=hR;exact hq.elim
def BX(P:Program)(call:cQ)(ops:Array Oper)(o:Oper)(st:St)(fr:Fr)(v:V)(f:FP)(cg:St)(eN:Fr):Prop:=
 ∃g b,I4 ops o.guard=some g/\cf fr.r g=some b/\fr.put o.dst v=some eN/\
  (b=true->∃s',cH (BI P o.op) call fr.r {st with w:=[]}=some (v,s')/\cg={s' with w:=az st.n s'.w++st.w}/\f=q9 fr.r (BI P o.op) (az st.n s'.w) st.n s'.n)/\
  (b=false->v=.aU []/\cg=st/\f=⟨some [],[],st.n,st.n⟩)
def Zuv{ops:Array Oper}:∀(os:List Oper) (fr:Fr) (st:St) (jf:List FP) (bK:Fr) (aB:St),bS call (os.map (tu P ops)) fr st=some (jf,bK,aB)->
  ∃(aL:Nat->St) (bA:Nat->Fr) (vI:Nat->V) (bh:Nat->FP),aL 0=st/\bA 0=fr/\aL os.length=aB/\bA os.length=bK/\jf.length=os.length/\
   ∀i o,os[i]?=some o->jf[i]?=some (bh i)/\BX P call ops o (aL i) (bA i) (vI i) (bh i) (aL (i+1)) (bA (i+1))
 |[],fr,st,jf,bK,aB,h=>by
  simp only[yY,bS,Ygc,ar,bB]at h
  obtain⟨rfl,rfl,rfl⟩:=h
  exact⟨fun _=>st,fun _=>fr,fun _=>.bP,fun _=>⟨none,[],0,0⟩,rfl,rfl,rfl,rfl,rfl,fun i o h=>by simp at h⟩
 |o::os,fr,st,jf,bK,aB,h=>by
  simp only[pU,bS,Dp]at h
  have go:∀(v:V) (f:FP) (cg:St) (eN:Fr) (vJ:List FP),BX P call ops o st fr v f cg eN->bS call (os.map (tu P ops)) eN cg=some (vJ,bK,aB)->jf=f::vJ->
    ∃(aL:Nat->St) (bA:Nat->Fr) (vI:Nat->V) (bh:Nat->FP),aL 0=st/\bA 0=fr/\aL (o::os).length=aB/\bA (o::os).length=bK/\jf.length=(o::os).length/\
     ∀i o',(o::os)[i]?=some o'->jf[i]?=some (bh i)/\BX P call ops o' (aL i) (bA i) (vI i) (bh i) (aL (i+1)) (bA (i+1)):=by
   intro v f cg eN vJ hs hm hf
   obtain⟨aL,bA,vI,bh,h1,h2,h3,h4,h5,h6⟩:=Zuv os eN cg vJ bK aB hm
   refine⟨fun|0=>st|i+1=>aL i,fun|0=>fr|i+1=>bA i,fun|0=>v|i+1=>vI i,fun|0=>f|i+1=>bh i,rfl,rfl,h3,h4,by simp[hf,h5],fun i o' ho=>?_⟩
   cases i with
   |zero=>
    simp only[De,ar]at ho
    subst ho
    refine⟨by simp[hf],?_⟩
    show BX P call ops o st fr v f (aL 0) (bA 0)
    rw[h1,h2];exact hs
   |succ i=>
    obtain⟨g1,g2⟩:=h6 i o' (by simpa using ho)
    exact⟨by simpa[hf]using g1,g2⟩
  unfold tu at h
  cases hg:I4 ops o.guard with
  |none=>
   rw[hg]at h
   simp only[cf,cH,Zxc]at h
   cases h
  |some g=>
   rw[hg]at h
   simp only at h
   cases hw:cf fr.r g with
   |none=>rw[hw]at h;cases h
   |some b=>
    rw[hw]at h
    cases b with
    |true=>
     simp only at h
     split at h
     ·rename_i v1 s1 hm
      split at h
      ·rename_i eN hp
       split at h
       ·rename_i vJ Bc fz jh
        simp only[ar,bB]at h
        obtain⟨rfl,rfl,rfl⟩:=h
        exact go v1 _ _ eN vJ ⟨g,true,hg,hw,hp,fun _=>⟨s1,hm,rfl,rfl⟩,fun hc=>by cases hc⟩ jh rfl
       ·cases h
      ·cases h
     ·cases h
    |false=>
     simp only at h
     split at h
     ·rename_i eN hp
      split at h
      ·rename_i vJ Bc fz jh
       simp only[ar,bB]at h
       obtain⟨rfl,rfl,rfl⟩:=h
       exact go (.aU []) _ st eN vJ ⟨g,false,hg,hw,hp,(fun hc=>by cases hc),fun _=>⟨rfl,rfl,rfl⟩⟩ jh rfl
      ·cases h
     ·cases h
def Zyc(hm:cH op call fr.r {st with w:=[]}=some (v,s'))(lo hi:Nat):(q9 fr.r op (az st.n s'.w) lo hi).wr=az st.n s'.w/\(q9 fr.r op (az st.n s'.w) lo hi).lo=lo/\(q9 fr.r op (az st.n s'.w) lo hi).hi=hi:=by
 unfold q9;split
 ·rename_i hs;rcases Zor hs .nil [] hm with⟨h1,_⟩|⟨o,h1,_⟩
  ·subst h1;exact⟨rfl,rfl,rfl⟩
  subst h1;exact⟨rfl,rfl,rfl⟩
 split
 ·split<;>exact⟨rfl,rfl,rfl⟩
 exact⟨rfl,rfl,rfl⟩
def Ye9(cA:kK P call)(hE:vS P)(hh:bq P μ w st)(hf:oG μ fr a){ops:Array Oper}{f:FP}(h:BX P call ops o st fr v f cg eN):
  ∃w' μ' a',bN P μ w st μ' w' cg f.wr/\oG μ' eN a'/\f.lo=st.n/\f.hi=cg.n:=by
 obtain⟨g,b,hg,hw,hp,ht,Pb⟩:=h;cases b with
 |true=> obtain⟨s',hm,rfl,rfl⟩:=ht rfl;obtain⟨x,w',μ',ws,h1,h2⟩:=Yy2 cA hE (hh.now []) hf hm;have h3:=h2.fold hh;obtain⟨e1,e2,e3⟩:=Zyc (call:=call) hm st.n s'.n;rw[e1,e2,e3];exact⟨w',μ',_,h3,(hf.mono (h3.mono hh)).put h1 hp,rfl,rfl⟩
 |false=> obtain⟨rfl,rfl,rfl⟩:=Pb rfl;exact⟨w,μ,_,bN.refl hh,hf.put (v:=.aU []) (x:=undef) ⟨[],rfl,by simp[aV]⟩ hp,rfl,rfl⟩
structure xF (P:Program) (μ:Mu) (aL:Nat->St) (bA:Nat->Fr) (bh:Nat->FP) (N:Nat):Prop where
 iy:∀i,i<N->(aL i).n<=(aL (i+1)).n
 lo:∀i,i<N->(bh i).lo=(aL i).n
 hi:∀i,i<N->(bh i).hi=(aL (i+1)).n
 wl:∀i,i<N->(aL (i+1)).w=(bh i).wr++(aL i).w
 wlt:∀i,i<N->∀j∈(bh i).wr,j<(aL i).n
 ad:∀i,i<N->∀j,j<(aL i).n->j∉(bh i).wr->(aL (i+1)).h.get j=(aL i).h.get j
 grow:∀i,i<N->∀j o',j<(aL i).n->(aL (i+1)).h.get j=some o'->∃o,(aL i).h.get j=some o/\(o'.wr=true->o.wr=true)/\(o'.live=true->o.live=true)
 AJ:∀i,i<N->∀j∈(bh i).wr,∃o,(aL i).h.get j=some o/\o.wr=true
 scr:∀i,i<=N->∀t v,(bA i).r.get t=some v->Sc (aL i).n v
 sch:∀i,i<=N->∀j,(j<(aL 0).n->∃l,μ j=some l)->j<(aL i).n->∃o μT wT lT,(aL i).h.get j=some o/\OM P μT wT o lT/\∀k l,μT k=some l->k<(aL i).n
 fn:∀i,i<=N->(bA i).n=(bA 0).n/\(bA i).marks=(bA 0).marks
def Yvd{ops:Array Oper}{f:FP}(h:BX P call ops o st fr v f cg eN):∀j∈f.wr,j<st.n:=by
 have key:∀(l:List Nat) (n j:Nat),j∈az n l->j<n:=by
  intro l n j hj;induction l with
  |nil=>simp[az]at hj
  |cons i l ih=>
   simp only[az]at hj;split at hj
   ·unfold xh at hj;split at hj
    ·exact ih hj
    simp only[iP]at hj;rcases hj with rfl|hj
    ·assumption
    exact ih hj
   exact ih hj
 obtain⟨g,b,hg,hw,hp,ht,Pb⟩:=h;cases b with
 |true=> obtain⟨s',hm,rfl,rfl⟩:=ht rfl;rw[(Zyc (call:=call) hm _ _).1];exact key _ _
 |false=> obtain⟨rfl,rfl,rfl⟩:=Pb rfl;intro j hj;simp at hj
def Yk2(h:fr.put d v=some bK):bK.n=fr.n/\bK.marks=fr.marks:=by
 cases d with
 |none=>simp only[Fr.put,ar]at h;subst h;exact⟨rfl,rfl⟩
 |some d=>
  simp only[Fr.put]at h;split at h
  ·simp only[ar]at h;subst h;exact⟨rfl,rfl⟩
  cases h
def Ybg(cA:kK P call)(hE:vS P){ops:Array Oper}{aL:Nat->St}{bA:Nat->Fr}{vI:Nat->V}{bh:Nat->FP}{N:Nat}(hN:os.length=N)
  (hh:bq P μ w (aL 0)) (hf:oG μ (bA 0) a) (hs:∀i o,os[i]?=some o->BX P call ops o (aL i) (bA i) (vI i) (bh i) (aL (i+1)) (bA (i+1))):
  ∀i,i<=N->∃w' μ' a' ws,bN P μ w (aL 0) μ' w' (aL i) ws/\oG μ' (bA i) a':=by
 intro i;induction i with
 |zero=>exact fun _=>⟨w,μ,a,[],bN.refl hh,hf⟩
 |succ i ih=> intro hi;obtain⟨w',μ',a',ws,h1,h2⟩:=ih (by omega);have ho:os[i]?=some (os[i]'(by omega)):=cj (by omega);obtain⟨w2,μ2,a2,h3,h4,_⟩:=Ye9 cA hE h1.hr h2 (hs i _ ho);exact⟨w2,μ2,a2,_,h1.trans h3,h4⟩
def Yvk(cA:kK P call)(hE:vS P){ops:Array Oper}{aL:Nat->St}{bA:Nat->Fr}{vI:Nat->V}{bh:Nat->FP}{N:Nat}(hN:os.length=N)
  (hh:bq P μ w (aL 0)) (hf:oG μ (bA 0) a) (hs:∀i o,os[i]?=some o->BX P call ops o (aL i) (bA i) (vI i) (bh i) (aL (i+1)) (bA (i+1))):xF P μ aL bA bh N:=by
 have hch:=Ybg cA hE hN hh hf hs;have de:∀i,i<N->∃o,os[i]?=some o:=fun i hi=>⟨_,cj (by omega)⟩;have qk:∀i,i<N->∃w1 μ1 w2 μ2 a2,bN P μ1 w1 (aL i) μ2 w2 (aL (i+1)) (bh i).wr/\oG μ2 (bA (i+1)) a2/\(bh i).lo=(aL i).n/\(bh i).hi=(aL (i+1)).n:=fun i hi=>by obtain⟨w',μ',a',ws,h1,h2⟩:=hch i (by omega);obtain⟨o,ho⟩:=de i hi;obtain⟨w2,μ2,a2,h3,h4,h5,h6⟩:=Ye9 cA hE h1.hr h2 (hs i o ho);exact⟨w',μ',w2,μ2,a2,h3,h4,h5,h6⟩
 refine⟨fun i hi=>?_,fun i hi=>?_,fun i hi=>?_,fun i hi=>?_,fun i hi=>?_,fun i hi=>?_,fun i hi=>?_,fun i hi=>?_,fun i hi t v hv=>?_,fun i hi j hj C9=>?_,fun i=>?_⟩
 ·obtain⟨_,_,_,_,_,h,_⟩:=qk i hi;exact h.iy
 ·obtain⟨_,_,_,_,_,_,_,h,_⟩:=qk i hi;exact h
 ·obtain⟨_,_,_,_,_,_,_,_,h⟩:=qk i hi;exact h
 ·obtain⟨_,_,_,_,_,h,_⟩:=qk i hi;exact h.wl
 ·obtain⟨o,ho⟩:=de i hi;exact Yvd (hs i o ho)
 ·obtain⟨_,_,_,_,_,h,_⟩:=qk i hi;exact h.ad
 ·obtain⟨_,_,_,_,_,h,_⟩:=qk i hi;exact h.grow
 ·obtain⟨o,ho⟩:=de i hi;obtain⟨_,_,_,_,_,h,_⟩:=qk i hi;exact fun j hj=>h.AJ j hj (Yvd (hs i o ho) j hj)
 ·obtain⟨w',μ',a',ws,h1,h2⟩:=hch i hi;obtain⟨x,_,hx⟩:=h2.1.2 t v hv;exact VR.sc (fun k l hk=>(h1.hr.dw k l hk).1) v x hx
 ·obtain⟨w',μ',a',ws,h1,h2⟩:=hch i hi;have hl:∃l,μ' j=some l:=by
   by_cases h0:j<(aL 0).n
   ·obtain⟨l,hl⟩:=hj h0;exact⟨l,(h1.ext j h0).trans hl⟩
   exact h1.full j (by omega) C9
  obtain⟨l,hl⟩:=hl;obtain⟨o,Dc,Ab⟩:=h1.hr.obj j l hl;exact⟨o,μ',w',l,Dc,Ab,fun k l hk=>(h1.hr.dw k l hk).1⟩
 induction i with
 |zero=>exact fun _=>⟨rfl,rfl⟩
 |succ i ih=> intro hi;obtain⟨o,ho⟩:=de i (by omega);obtain⟨g,b,_,_,hp,_⟩:=hs i o ho;obtain⟨e1,e2⟩:=Yk2 hp;obtain⟨f1,f2⟩:=ih (by omega);exact⟨e1.trans f1,e2.trans f2⟩
end
def xU(aL:Nat->St)(bh:Nat->FP)(k j:Nat):Prop:=j∈(bh k).wr\/((aL k).n<=j/\j<(aL (k+1)).n)
instance (aL:Nat->St) (bh:Nat->FP) (k j:Nat):Decidable (xU aL bh k j):=by unfold xU;infer_instance
def mb(aL:Nat->St)(bh:Nat->FP)(S:Nat->Bool):Nat->Nat->Option O
 |0,j=>(aL 0).h.get j
 |k+1,j=>if S k=true/\xU aL bh k j then (aL (k+1)).h.get j else mb aL bh S k j
def xH(bA:Nat->Fr)(ds:Nat->Option Nat)(S:Nat->Bool):Nat->Nat->Option V
 |0,t=>(bA 0).r.get t
 |k+1,t=>if S k=true/\ds k=some t then (bA (k+1)).r.get t else xH bA ds S k t
def nU(S:Nat->Bool)(i:Nat):Nat->Bool:=fun k=>if k=i then true else S k
section
variable {P:Program} {μ:Mu} {aL:Nat->St} {bA:Nat->Fr} {bh:Nat->FP} {ds:Nat->Option Nat} {S:Nat->Bool} {N:Nat}
def Ztp(T:xF P μ aL bA bh N):∀{i j:Nat},i<=N->j<(aL i).n->(∀k,k<i->xU aL bh k j->S k=true)->mb aL bh S i j=(aL i).h.get j
 |0,j,_,_,_=>rfl
 |i+1,j,hi,hj,h=>by
  simp only[mb]
  by_cases ht:xU aL bh i j
  ·rw[av ⟨h i (by omega) ht,ht⟩]
  ·rw[ak (fun hc=>ht hc.2)]
   simp only[xU,not_or,not_and,xb]at ht
   have aD:j<(aL i).n:=by
    rcases Nat.lt_or_ge j (aL i).n with h1|h1
    ·exact h1
    ·have:=ht.2 h1;omega
   rw[Ztp T (by omega) aD fun k hk=>h k (by omega),T.ad i (by omega) j aD ht.1]
def Uc:∀{M i j:Nat},i<=M->(∀k,i<=k->k<M->xU aL bh k j->S k=false)->mb aL bh S M j=mb aL bh S i j
 |0,i,j,hi,_=>by rw[Nat.le_zero.1 hi]
 |M+1,i,j,hi,h=>by
  by_cases e:i=M+1
  ·rw[e]
  ·simp only[mb]
   rw[ak,Uc (by omega) fun k h1 h2=>h k h1 (by omega)]
   rintro⟨h1,h2⟩
   rw[h M (by omega) (by omega) h2]at h1;cases h1
def Ziv{i:Nat}:∀{M j:Nat},¬xU aL bh i j->mb aL bh (nU S i) M j=mb aL bh S M j
 |0,j,_=>rfl
 |M+1,j,h=>by
  simp only[mb]
  rw[Ziv h]
  by_cases e:M=i
  ·subst e
   rw[ak (fun hc=>h hc.2),ak (fun hc=>h hc.2)]
  ·simp only[nU,e,if_false]
def Yi1(hi:i<N)(ht:xU aL bh i j)(h:∀k,i<k->k<N->xU aL bh k j->S k=false):mb aL bh (nU S i) N j=(aL (i+1)).h.get j:=by rw[Uc (i:=i+1) (by omega) fun k h1 h2 h3=>by simp only[nU];rw[ak (by omega)];exact h k (by omega) h2 h3];simp only[mb,nU];rw[av ⟨by simp,ht⟩]
def JI(bA:Nat->Fr)(ds:Nat->Option Nat)(vI:Nat->V)(N:Nat):Prop:=∀i,i<N->∀t,(bA (i+1)).r.get t=if ds i=some t then some (vI i) else (bA i).r.get t
def Zto{vI:Nat->V}(T:JI bA ds vI N):∀{i t:Nat},i<=N->(∀k,k<i->ds k=some t->S k=true)->xH bA ds S i t=(bA i).r.get t
 |0,t,_,_=>rfl
 |i+1,t,hi,h=>by
  simp only[xH]
  by_cases ht:ds i=some t
  ·rw[av ⟨h i (by omega) ht,ht⟩]
  ·rw[ak (fun hc=>ht hc.2),Zto T (by omega) fun k hk=>h k (by omega),T i (by omega) t,ak ht]
def Ud:∀{M i t:Nat},i<=M->(∀k,i<=k->k<M->ds k=some t->S k=false)->xH bA ds S M t=xH bA ds S i t
 |0,i,t,hi,_=>by rw[Nat.le_zero.1 hi]
 |M+1,i,t,hi,h=>by
  by_cases e:i=M+1
  ·rw[e]
  ·simp only[xH]
   rw[ak,Ud (by omega) fun k h1 h2=>h k h1 (by omega)]
   rintro⟨h1,h2⟩
   rw[h M (by omega) (by omega) h2]at h1;cases h1
def Ziu{i:Nat}:∀{M t:Nat},ds i≠some t->xH bA ds (nU S i) M t=xH bA ds S M t
 |0,t,_=>rfl
 |M+1,t,h=>by
  simp only[xH]
  rw[Ziu h]
  by_cases e:M=i
  ·subst e
   rw[ak (fun hc=>h hc.2),ak (fun hc=>h hc.2)]
  ·simp only[nU,e,if_false]
def Yi0{vI:Nat->V}(T:JI bA ds vI N){t:Nat}(hi:i<N)(ht:ds i=some t)(h:∀k,i<k->k<N->ds k=some t->S k=false):xH bA ds (nU S i) N t=some (vI i):=by rw[Ud (i:=i+1) (by omega) fun k h1 h2 h3=>by simp only[nU];rw[ak (by omega)];exact h k (by omega) h2 h3];simp only[xH,nU];rw[av ⟨by simp,ht⟩,T i hi t,av ht]
def B1(r:T V):List Nat->T V
 |[]=>.nil
 |t::ts=>match r.get t with
  |some v=>(B1 r ts).set t v
  |none=>B1 r ts
def Pc(r:T V):∀(ts:List Nat) (t:Nat),(B1 r ts).get t=if t∈ts then r.get t else none
 |[],t=>by simp[B1,T.get]
 |u::ts,t=>by
  simp only[B1]
  split
  ·rename_i v hv
   rw[T.ag,Pc r ts t]
   by_cases e:t=u
   ·subst e;simp[hv]
   ·simp[e]
  ·rename_i hv
   rw[Pc r ts t]
   by_cases e:t=u
   ·subst e;simp[hv]
   ·simp[e]
def Yts{s:Src}(h:∀t∈s.tmps,t∈ts):s.ev (B1 r ts)=s.ev r:=by
 cases s with
 |const v=>rfl
 |tmp t=>simp only[Src.ev];rw[Pc,av (h t (by simp[Src.tmps]))]
def tM(h:T O)(ad:List Nat):Nat->T O
 |0=>.nil
 |n+1=>match h.get n with
  |some o=>(tM h ad n).set n (if n∈ad then o else .dead)
  |none=>tM h ad n
def MF(h:T O)(ad:List Nat):∀(n j:Nat),(tM h ad n).get j=if j<n then (h.get j).map fun o=>if j∈ad then o else .dead else none
 |0,j=>by simp[tM,T.get]
 |n+1,j=>by
  simp only[tM]
  split
  ·rename_i o ho
   rw[T.ag,MF h ad n j]
   by_cases e:j=n
   ·subst e;simp[ho]
   ·rw[ak e]
    by_cases e2:j<n
    ·rw[av e2,av (by omega)]
    ·rw[ak e2,ak (by omega)]
  ·rename_i ho
   rw[MF h ad n j]
   by_cases e:j=n
   ·subst e;simp[ho]
   ·by_cases e2:j<n
    ·rw[av e2,av (by omega)]
    ·rw[ak e2,ak (by omega)]
def FP.dK(f:FP)(j:Nat):Prop:=
 match f.rd with
 |none=>True
 |some l=>j∈l
def Yft{st σ:St}(h:σ.h.get i=st.h.get i):σ.row i=st.row i:=by unfold St.row;rw[h]
def Yl7{call:cQ}{st:St}{v:V}(hm:cH op call r {st with w:=[]}=some (v,s'))(h_:lo=st.n):
  ∃σ σ',σ.n=st.n/\σ.w=[]/\cH op call r σ=some (v,σ')/\σ'.n=s'.n/\σ'.w=s'.w/\
   (∀j,j<st.n->(q9 r op ws lo hi).dK j->σ.h.get j=st.h.get j)/\(∀j,j<st.n->¬(q9 r op ws lo hi).dK j->σ.h.get j=(st.h.get j).map fun _=>.dead)/\
   (∀j,((q9 r op ws lo hi).dK j/\j<st.n)\/(st.n<=j/\j<s'.n)->σ'.h.get j=s'.h.get j)/\(∀j∈s'.w,(q9 r op ws lo hi).dK j):=by
 by_cases hs:op.pV=true
 ·have hf:q9 r op ws lo hi=⟨some [],[],lo,hi⟩:=by unfold q9;rw[av hs]
  rw[hf];have hd:∀j,j<st.n->(tM st.h [] st.n).get j=(st.h.get j).map fun _=>.dead:=fun j hj=>by rw[MF,av hj];simp
  rcases Zor hs (tM st.h [] st.n) [] hm with⟨h1,h2⟩|⟨o,h1,h2⟩
  ·subst h1;exact⟨⟨tM st.h [] st.n,st.n,[]⟩,_,rfl,rfl,h2,rfl,rfl,fun j _ hj=>by simp[FP.dK]at hj,fun j hj _=>hd j hj,fun j hj=>by
    rcases hj with⟨hj,_⟩|⟨h1,h2⟩
    ·simp[FP.dK]at hj
    ·simp only at h2;omega,fun j hj=>by simp at hj⟩
  subst h1;refine⟨⟨tM st.h [] st.n,st.n,[]⟩,_,rfl,rfl,h2,rfl,rfl,fun j _ hj=>by simp[FP.dK]at hj,fun j hj _=>hd j hj,fun j hj=>?_,fun j hj=>by simp[St.alloc]at hj⟩;rcases hj with⟨hj,_⟩|⟨h1,h2⟩
  ·simp[FP.dK]at hj
  simp only[St.alloc]at h2 ⊢;have:j=st.n:=by omega
  subst this;rw[T.ag,T.ag,av rfl,av rfl]
 cases hl:T1 r op with
 |none=>
  have hf:q9 r op ws lo hi=⟨none,ws,lo,hi⟩:=by unfold q9;rw[ak hs,hl]
  rw[hf];exact⟨{st with w:=[]},s',rfl,rfl,hm,rfl,rfl,fun _ _ _=>rfl,fun _ _ hj=>absurd trivial hj,fun _ _=>rfl,fun _ _=>trivial⟩
 |some i=>
  by_cases kl:i<st.n;case neg=>
   have hf:q9 r op ws lo hi=⟨none,ws,lo,hi⟩:=by unfold q9;rw[ak hs,hl];simp only[];rw[ak (by rw[h_];simpa[Nat.blt_eq]using kl)]
   rw[hf]
   exact⟨{st with w:=[]},s',rfl,rfl,hm,rfl,rfl,fun _ _ _=>rfl,fun _ _ hj=>absurd trivial hj,fun _ _=>rfl,fun _ _=>trivial⟩
  have hf:q9 r op ws lo hi=⟨some [i],ws,lo,hi⟩:=by unfold q9;rw[ak hs,hl];simp only[];rw[av (by rw[h_];simpa[Nat.blt_eq]using kl)]
  rw[hf];have hk:(tM st.h [i] st.n).get i=st.h.get i:=by rw[MF,av kl];cases st.h.get i<;>simp
  have hd:∀j,j<st.n->¬(j∈[i])->(tM st.h [i] st.n).get j=(st.h.get j).map fun _=>.dead:=fun j hj hn=>by rw[MF,av hj];simp only[hn,if_false]
  have aA:(⟨tM st.h [i] st.n,st.n,[]⟩:St).row i=St.row {st with w:=[]} i:=Yft hk;cases op<;>simp only[T1,reduceCtorEq]at hl;case load k x=>
   split at hl
   ·rename_i i' o hx
    simp only[ar]at hl;subst hl
    simp only[cH,Jo,hx]at hm ⊢
    split at hm
    ·rename_i c e sO hr
     split at hm
     ·rename_i u hu
      simp only[ar,bB]at hm
      obtain⟨rfl,rfl⟩:=hm
      refine⟨⟨tM st.h [i'] st.n,st.n,[]⟩,⟨tM st.h [i'] st.n,st.n,[]⟩,rfl,rfl,?_,rfl,rfl,fun j _ hj=>?_,fun j hj hn=>hd j hj hn,fun j hj=>?_,fun j hj=>by simp at hj⟩
      ·rw[aA,hr];simp only[hu]
      ·simp only[FP.dK,og]at hj;subst hj;exact hk
      ·rcases hj with⟨hj,_⟩|⟨h1,h2⟩
       ·simp only[FP.dK,og]at hj;subst hj;exact hk
       ·simp only at h2;omega
     ·cases hm
    ·cases hm
   ·cases hl
  case store k x y=>
   split at hl
   ·rename_i i' o hx
    simp only[ar]at hl;subst hl
    simp only[cH,GD,hx]at hm ⊢
    split at hm
    ·rename_i i2 o2 u zH hu
     simp only[ar,V.ptr.injEq]at zH
     obtain⟨rfl,rfl⟩:=zH
     split at hm
     ·rename_i c e hr
      split at hm
      ·rename_i hc
       simp only[ar,bB]at hm
       obtain⟨rfl,rfl⟩:=hm
       refine⟨⟨tM st.h [i'] st.n,st.n,[]⟩,St.write ⟨tM st.h [i'] st.n,st.n,[]⟩ i' (.cells (ae c o u.cells) e true),rfl,rfl,?_,rfl,rfl,fun j _ hj=>?_,fun j hj hn=>hd j hj hn,fun j hj=>?_,fun j hj=>?_⟩
       ·rw[aA,hr]
        simp only[av hc]
       ·simp only[FP.dK,og]at hj;subst hj;exact hk
       ·rcases hj with⟨hj,_⟩|⟨h1,h2⟩
        ·simp only[FP.dK,og]at hj;subst hj
         simp only[St.write,T.ag,if_true]
        ·simp only[St.write]at h2;omega
       ·simpa[FP.dK,St.write]using hj
      ·cases hm
     ·cases hm
    ·cases hm
   ·cases hl
end
structure Inv (P:Program) (μ:Mu) (w:World) (aL:Nat->St) (bA:Nat->Fr) (bh:Nat->FP) (ds:Nat->Option Nat) (N:Nat) (W:List Nat) (S:Nat->Bool) (μ':Mu) (a':Act) (w':World):Prop where
 ext:∀j,j<(aL 0).n->μ' j=μ j
 dw:∀j l,μ' j=some l->(j<(aL 0).n\/∃k,k<N/\S k=true/\(aL k).n<=j/\j<(aL (k+1)).n)/\l.b<w'.heap.size
 full:∀k,k<N->S k=true->∀j,(aL k).n<=j->j<(aL (k+1)).n->∃l,μ' j=some l
 obj:∀j l,μ' j=some l->∃o,mb aL bh S N j=some o/\OM P μ' w' o l
 inj:∀i j l l' o o',μ' i=some l->μ' j=some l'->i≠j->mb aL bh S N i=some o->mb aL bh S N j=some o'->o.wr=true->o'.live=true->l.b≠l'.b
 xJ:a'.tmps.size=(bA 0).n/\∀t v,xH bA ds S N t=some v->∃x,a'.tmps[t]?=some x/\VR μ' v x
 defs:rG μ' (bA 0).marks a'.defers
 fe:OS μ W w w'
 new:∀i l,(aL 0).n<=i->μ' i=some l->w.heap.size<=l.b\/∃j∈W,j<(aL 0).n/\∃lj oj,μ j=some lj/\lj.b=l.b/\(aL 0).h.get j=some oj/\oj.wr=true
structure Ord (bh:Nat->FP) (mo:Nat->dS) (N:Nat) (nk:Nat->Nat->Prop):Prop where
 free:∀i k,i<k->k<N->nk k i\/FP.free (bh i) (bh k)=true
 tmp:∀i k,i<k->k<N->nk k i\/TL (mo i) (mo k)=true
section
variable {P:Program} {μ μ':Mu} {w w':World} {aL:Nat->St} {bA:Nat->Fr} {bh:Nat->FP} {ds:Nat->Option Nat} {S:Nat->Bool} {N:Nat} {W:List Nat} {a a':Act} {mo:Nat->dS} {nk:Nat->Nat->Prop}
def xF.mono(T:xF P μ aL bA bh N):∀{i k:Nat},i<=k->k<=N->(aL i).n<=(aL k).n
 |i,0,h,_=>by rw[Nat.le_zero.1 h];exact aN _
 |i,k+1,h,hk=>by
  by_cases e:i=k+1
  ·rw[e];exact aN _
  ·exact nI (T.mono (i:=i) (k:=k) (by omega) (by omega)) (T.iy k (by omega))
def UW{a b:FP}(h:FP.free a b=true):(∀j∈a.wr,¬b.dK j)/\(∀j∈a.wr,j∉b.wr)/\(∀j∈b.wr,¬a.dK j)/\∀j∈b.wr,¬(a.lo<=j/\j<a.hi):=by
 unfold FP.free at h;simp only[Jd,Bool.or_eq_false_iff]at h;obtain⟨⟨⟨h1,h2⟩,h3⟩,h4⟩:=h;have key:∀(l:List Nat) (o:Option (List Nat)),EH l o=false->∀j∈l,¬(match o with|none=>True|some q=>j∈q):=by
  intro l o h j hj;cases o with
  |none=> simp only[EH,Bool.not_eq_false',List.isEmpty_iff]at h;subst h;simp at hj
  |some q=> simp only[EH,List.any_eq_false,TU]at h;exact h j hj
 refine⟨fun j hj=>?_,fun j hj=>?_,fun j hj=>?_,fun j hj=>?_⟩
 ·have:=key _ _ h1 j hj;unfold FP.dK;exact this
 ·exact key _ _ h2 j hj
 ·have:=key _ _ h3 j hj;unfold FP.dK;exact this
 simp only[List.any_eq_false]at h4;have:=h4 j hj;intro hc;apply this;simp[Nat.ble_eq,Nat.blt_eq,hc.1,hc.2]
def Yca(T:xF P μ aL bA bh N)(I:Inv P μ w aL bA bh ds N W S μ' a' w')(Or:Ord bh mo N nk)(cy:∀k,S k=true->∀i,nk k i->S i=true)(hi:i<N)(hS:S i=false)(hb:∀j,nk i j->S j=true)
  {j:Nat} {l:L} (hj:μ' j=some l) (aD:j<(aL i).n) (hs:(bh i).dK j):
  (∀k,k<i->xU aL bh k j->S k=true)/\(∀k,i<=k->k<N->xU aL bh k j->S k=false):=by
 refine⟨fun k hk ht=>?_,fun k hk Fm ht=>?_⟩
 ·rcases ht with ht|⟨h1,h2⟩
  ·rcases Or.free k i hk hi with h|h
   ·exact hb k h
   exact absurd hs ((UW h).1 j ht)
  rcases(I.dw j l hj).1 with h0|⟨k',h3,h4,h5,h6⟩
  ·have:=T.mono (i:=0) (k:=k) (by omega) (by omega);omega
  have:k'=k:=by
   rcases Nat.lt_trichotomy k k' with h|h|h
   ·have:=T.mono (i:=k+1) (k:=k') (by omega) (by omega);omega
   ·exact h.symm
   have:=T.mono (i:=k'+1) (k:=k) (by omega) (by omega);omega
  subst this;exact h4
 by_cases e:k=i
 ·rw[e];exact hS
 rcases ht with ht|⟨h1,h2⟩
 ·rcases Or.free i k (by omega) Fm with h|h
  ·cases hq:S k with
   |false=>rfl
   |true=>rw[cy k hq i h]at hS;cases hS
  exact absurd hs ((UW h).2.2.1 j ht)
 have:=T.mono (i:=i) (k:=k) hk (by omega);omega
def Zwk(T:xF P μ aL bA bh N)(Or:Ord bh mo N nk)(cy:∀k,S k=true->∀i,nk k i->S i=true)(hi:i<N)(hS:S i=false)
  {j:Nat} (ht:xU aL bh i j):∀k,i<k->k<N->xU aL bh k j->S k=false:=by
 intro k hk Fm jV;have BC:=Or.free i k hk Fm;have Oo:nk k i->S k=false:=fun h=>by
  cases hq:S k with
  |false=>rfl
  |true=>rw[cy k hq i h]at hS;cases hS
 rcases BC with h|h
 ·exact Oo h
 exfalso;have hm:=T.mono (i:=i+1) (k:=k) (by omega) (by omega);have jU:=T.iy i hi;rcases ht with ht|⟨h1,h2⟩
 ·rcases jV with jV|⟨h3,h4⟩
  ·exact(UW h).2.1 j ht jV
  have:=T.wlt i hi j ht;omega
 rcases jV with jV|⟨h3,h4⟩
 ·refine(UW h).2.2.2 j jV ⟨?_,?_⟩
  ·rw[T.lo i hi];exact h1
  rw[T.hi i hi];exact h2
 omega
def Zpp(h:O0 d l=false):∀t,d=some t->t∉l:=by intro t ht hm;subst ht;simp only[O0]at h;have:l.contains t=true:=TU.2 hm;rw[this]at h;cases h
def Zkt{a b:dS}(h:TL a b=true):(∀t,a.dst=some t->t∉b.reads)/\(∀t,b.dst=some t->t∉a.reads)/\∀t,a.dst=some t->b.dst≠some t:=by unfold TL at h;simp only[Jd,Bool.or_eq_false_iff]at h;obtain⟨⟨h1,h2⟩,h3⟩:=h;exact⟨Zpp h1,Zpp h2,fun t ht hb=>Zpp h3 t ht (by rw[hb];simp)⟩
def Ycf(Or:Ord bh mo N nk)(cy:∀k,S k=true->∀i,nk k i->S i=true)(r_:∀k,k<N->ds k=(mo k).dst)(hi:i<N)(hS:S i=false)(hb:∀j,nk i j->S j=true)
  {t:Nat} (ht:t∈(mo i).reads):(∀k,k<i->ds k=some t->S k=true)/\(∀k,i<=k->k<N->ds k=some t->S k=false):=by
 refine⟨fun k hk hd=>?_,fun k hk Fm hd=>?_⟩
 ·rcases Or.tmp k i hk hi with h|h
  ·exact hb k h
  rw[r_ k (by omega)]at hd;exact absurd ht ((Zkt h).1 t hd)
 by_cases e:k=i
 ·rw[e];exact hS
 rcases Or.tmp i k (by omega) Fm with h|h
 ·cases hq:S k with
  |false=>rfl
  |true=>rw[cy k hq i h]at hS;cases hS
 rw[r_ k Fm]at hd;exact absurd ht ((Zkt h).2.1 t hd)
def Yh8(Or:Ord bh mo N nk)(cy:∀k,S k=true->∀i,nk k i->S i=true)(r_:∀k,k<N->ds k=(mo k).dst)(hi:i<N)(hS:S i=false)
  {t:Nat} (ht:ds i=some t):∀k,i<k->k<N->ds k=some t->S k=false:=by
 intro k hk Fm hd;rcases Or.tmp i k hk Fm with h|h
 ·cases hq:S k with
  |false=>rfl
  |true=>rw[cy k hq i h]at hS;cases hS
 rw[r_ i hi]at ht;rw[r_ k Fm]at hd;exact absurd hd ((Zkt h).2.2 t ht)
end
section
variable {P:Program} {μ μ':Mu} {w w':World} {aL:Nat->St} {bA:Nat->Fr} {bh:Nat->FP} {ds:Nat->Option Nat} {S:Nat->Bool} {N:Nat} {W:List Nat} {a a':Act} {mo:Nat->dS} {nk:Nat->Nat->Prop}
def BZ(μ':Mu)(n:Nat):Mu:=fun j=>if j<n then μ' j else none
def Pj(h:j<n):BZ μ' n j=μ' j:=av h
def Hx{l:L}(h:BZ μ' n j=some l):j<n/\μ' j=some l:=by
 unfold BZ at h;split at h
 ·exact⟨by assumption,h⟩
 cases h
def Yiv(h0:bq P μ w (aL 0))(T:xF P μ aL bA bh N)(I:Inv P μ w aL bA bh ds N W S μ' a' w')(Or:Ord bh mo N nk)(cy:∀k,S k=true->∀i,nk k i->S i=true)(hi:i<N)(hS:S i=false)(hb:∀j,nk i j->S j=true)
  {σ:St} (hn:σ.n=(aL i).n) (hs:∀j,j<(aL i).n->(bh i).dK j->σ.h.get j=(aL i).h.get j) (hd:∀j,j<(aL i).n->¬(bh i).dK j->σ.h.get j=((aL i).h.get j).map fun _=>.dead):
  bq P (BZ μ' (aL i).n) w' σ/\∀j l,μ' j=some l->j<(aL i).n->(bh i).dK j->σ.h.get j=mb aL bh S N j:=by
 have l_:∀j l,μ' j=some l->j<(aL i).n->(bh i).dK j->mb aL bh S N j=(aL i).h.get j:=fun j l hj aD An=>by obtain⟨h1,h2⟩:=Yca T I Or cy hi hS hb hj aD An;rw[Uc (i:=i) (by omega) h2,Ztp T (by omega) aD h1]
 have xV:∀j l,μ' j=some l->j<(aL i).n->(bh i).dK j->σ.h.get j=mb aL bh S N j:=fun j l hj aD An=>by rw[hs j aD An,l_ j l hj aD An]
 have hold:∀j l,μ' j=some l->j<(aL 0).n->∃l,μ j=some l:=fun j l hj h0=>⟨l,by rw[<-I.ext j h0];exact hj⟩;refine⟨⟨fun j l hj=>?_,fun j l hj=>?_,fun j k lj lk oj ok hj hk aX h1 h2 hw hl=>?_,fun g hg=>?_⟩,xV⟩
 ·obtain⟨h1,h2⟩:=Hx hj;exact⟨by omega,(I.dw j l h2).2⟩
 ·obtain⟨h1,h2⟩:=Hx hj;obtain⟨o,μT,wT,lT,t1,t2,t3⟩:=T.sch i (by omega) j (hold j l h2) h1;by_cases An:(bh i).dK j
  ·obtain⟨o',q1,q2⟩:=I.obj j l h2;rw[l_ j l h2 h1 An,t1,ar]at q1;subst q1;exact⟨o,by rw[hs j h1 An,t1],OM.cut (n:=(aL i).n) (fun k lk hk jV=>by rw[Pj hk];exact jV) t3 t2 q2⟩
  exact⟨.dead,by rw[hd j h1 An,t1];rfl,trivial⟩
 ·obtain⟨a1,a2⟩:=Hx hj;obtain⟨b1,b2⟩:=Hx hk;have sj:(bh i).dK j:=Classical.byContradiction fun hn=>by rw[hd j a1 hn]at h1;cases hq:(aL i).h.get j<;>rw[hq]at h1<;>simp at h1;subst h1;simp[O.wr]at hw
  have sk:(bh i).dK k:=Classical.byContradiction fun hn=>by rw[hd k b1 hn]at h2;cases hq:(aL i).h.get k<;>rw[hq]at h2<;>simp at h2;subst h2;simp[O.live]at hl
  exact I.inj j k lj lk oj ok a2 b2 aX (by rw[<-xV j lj a2 a1 sj];exact h1) (by rw[<-xV k lk b2 b1 sk];exact h2) hw hl
 obtain⟨t,ht⟩:=h0.je g hg;have uN:=(h0.dw g _ ht).1;have:=T.mono (i:=0) (k:=i) (by omega) (by omega);exact⟨t,by rw[Pj (by omega),I.ext g uN];exact ht⟩
def Yna(T:xF P μ aL bA bh N){vI:Nat->V}(Pu:JI bA ds vI N)(I:Inv P μ w aL bA bh ds N W S μ' a' w')(Or:Ord bh mo N nk)(cy:∀k,S k=true->∀i,nk k i->S i=true)(r_:∀k,k<N->ds k=(mo k).dst)
  {i:Nat} (hi:i<N) (hS:S i=false) (hb:∀j,nk i j->S j=true):
  RR (BZ μ' (aL i).n) (B1 (bA i).r (mo i).reads) (bA 0).n a'.tmps:=by
 refine⟨I.xJ.1,fun t v hv=>?_⟩;rw[Pc]at hv;split at hv
 ·rename_i ht;obtain⟨h1,h2⟩:=Ycf Or cy r_ hi hS hb ht;have hc:xH bA ds S N t=some v:=by rw[Ud (i:=i) (by omega) h2,Zto Pu (by omega) h1];exact hv
  obtain⟨x,hx,hr⟩:=I.xJ.2 t v hc;exact⟨x,hx,VR.cut (n:=(aL i).n) (fun k lk hk jV=>by rw[Pj hk];exact jV) v x (T.scr i (by omega) t v hv) hr⟩
 cases hv
def HC(μ' μ2:Mu)(n n':Nat):Mu:=fun j=>if j<n then μ' j else if j<n' then μ2 j else μ' j
def xF.HD(T:xF P μ aL bA bh N):∀{i j:Nat} {o':O},i<=N->j<(aL 0).n->(aL i).h.get j=some o'->o'.wr=true->∃o,(aL 0).h.get j=some o/\o.wr=true
 |0,j,o',_,_,h,hw=>⟨o',h,hw⟩
 |i+1,j,o',hi,hj,h,hw=>by
  have:=T.mono (i:=0) (k:=i) (by omega) (by omega)
  obtain⟨o,h1,h2,_⟩:=T.grow i (by omega) j o' (by omega) h
  exact T.HD (by omega) hj h1 (h2 hw)
def Yas(h0:bq P μ w (aL 0))(T:xF P μ aL bA bh N){vI:Nat->V}(Pu:JI bA ds vI N)(I:Inv P μ w aL bA bh ds N W S μ' a' w')(Or:Ord bh mo N nk)(cy:∀k,S k=true->∀i,nk k i->S i=true)
  (r_:∀k,k<N->ds k=(mo k).dst) (hW:∀k,k<N->∀j∈(bh k).wr,j∈W) {i:Nat} (hi:i<N) (hS:S i=false) (Ak:∀d,ds i=some d->d<(bA 0).n)
  {σ σ':St} {μ2:Mu} {w2:World} {ws:List Nat} {x:Value} (vg:bq P (BZ μ' (aL i).n) w' σ) (l_:∀j l,μ' j=some l->j<(aL i).n->(bh i).dK j->σ.h.get j=mb aL bh S N j)
  (hn:σ.n=(aL i).n) (uB:σ'.n=(aL (i+1)).n) (fF:bN P (BZ μ' (aL i).n) w' σ μ2 w2 σ' ws) (se:∀j,j<(aL i).n->(j∈ws↔j∈(bh i).wr)) (xG:∀j∈ws,(bh i).dK j)
  (de:∀j,((bh i).dK j/\j<(aL i).n)\/((aL i).n<=j/\j<(aL (i+1)).n)->σ'.h.get j=(aL (i+1)).h.get j) (hx:VR μ2 (vI i) x):
  Inv P μ w aL bA bh ds N W (nU S i) (HC μ' μ2 (aL i).n (aL (i+1)).n) (a'.put (ds i) x) w2:=by
 have hle:=T.iy i hi;have zbE:=T.mono (i:=0) (k:=i) (by omega) (by omega);have Cu:∀j l,μ' j=some l->¬((aL i).n<=j/\j<(aL (i+1)).n):=fun j l hj hc=>by
  rcases(I.dw j l hj).1 with h|⟨k,h3,h4,h5,h6⟩
  ·omega
  have hk:k=i:=by
   rcases Nat.lt_trichotomy k i with h|h|h
   ·have:=T.mono (i:=k+1) (k:=i) (by omega) (by omega);omega
   ·exact h
   have:=T.mono (i:=i+1) (k:=k) (by omega) (by omega);omega
  subst hk;rw[hS]at h4;cases h4
 have J6:∀j,j<(aL i).n->μ2 j=μ' j:=fun j hj=>by rw[fF.ext j (by omega),Pj hj]
 have Fo:∀j l,μ' j=some l->HC μ' μ2 (aL i).n (aL (i+1)).n j=some l:=fun j l hj=>by
  unfold HC;by_cases e1:j<(aL i).n
  ·rw[av e1];exact hj
  by_cases e2:j<(aL (i+1)).n
  ·exact absurd ⟨by omega,e2⟩ (Cu j l hj)
  rw[ak e1,ak e2];exact hj
 have Fp:∀j l,μ2 j=some l->HC μ' μ2 (aL i).n (aL (i+1)).n j=some l:=fun j l hj=>by
  have hd:=(fF.hr.dw j l hj).1;unfold HC;by_cases e1:j<(aL i).n
  ·rw[av e1,<-J6 j e1];exact hj
  rw[ak e1,av (by omega)];exact hj
 have hinv:∀j l,HC μ' μ2 (aL i).n (aL (i+1)).n j=some l->(μ' j=some l)\/((aL i).n<=j/\j<(aL (i+1)).n/\μ2 j=some l):=fun j l hj=>by
  unfold HC at hj;split at hj
  ·exact .inl hj
  split at hj
  ·exact .inr ⟨by omega,by assumption,hj⟩
  exact .inl hj
 have xW:∀j,xU aL bh i j->mb aL bh (nU S i) N j=(aL (i+1)).h.get j:=fun j ht=>Yi1 hi ht (Zwk T Or cy hi hS ht);have told:∀j l,μ' j=some l->¬j∈(bh i).wr->mb aL bh (nU S i) N j=mb aL bh S N j:=fun j l hj hnw=>Ziv fun h=>h.elim hnw fun h=>Cu j l hj h;have J7:∀j l o',μ' j=some l->mb aL bh (nU S i) N j=some o'->∃o,mb aL bh S N j=some o/\(o'.wr=true->o.wr=true)/\(o'.live=true->o.live=true):=fun j l o' hj ho=>by
  by_cases hw:j∈(bh i).wr
  ·have aD:=T.wlt i hi j hw;have An:=xG j ((se j aD).2 hw);rw[xW j (.inl hw),<-de j (.inl ⟨An,aD⟩)]at ho;obtain⟨o,q1,q2,q3⟩:=fF.grow j o' (by omega) ho;exact⟨o,by rw[<-l_ j l hj aD An];exact q1,q2,q3⟩
  rw[told j l hj hw]at ho;exact⟨o',ho,id,id⟩
 have cwr:∀j∈ws,∀lj,BZ μ' (aL i).n j=some lj->∃o,mb aL bh S N j=some o/\o.wr=true:=fun j hj lj wj=>by obtain⟨h1,h2⟩:=Hx wj;obtain⟨o,q1,q2⟩:=fF.AJ j hj (by omega);exact⟨o,by rw[<-l_ j lj h2 h1 (xG j hj)];exact q1,q2⟩
 have Qu:∀j l,(aL i).n<=j->μ2 j=some l->w'.heap.size<=l.b\/∃k lk,k∈ws/\k<(aL i).n/\μ' k=some lk/\lk.b=l.b/\∃o,mb aL bh S N k=some o/\o.wr=true:=fun j l hj hl=>by
  rcases fF.new j l (by omega) hl with h|⟨k,hk,AF,lk,ok,h1,h2,h3,h4⟩
  ·exact .inl h
  obtain⟨_,q2⟩:=Hx h1;exact .inr ⟨k,lk,hk,by omega,q2,h2,cwr k hk lk h1⟩
 refine⟨fun j hj=>?_,fun j l hj=>?_,fun k hk hSk j h1 h2=>?_,fun j l hj=>?_,fun j k lj lk oj ok hj hk aX h1 h2 hw hl=>?_,⟨?_,fun t v hv=>?_⟩,?_,?_,fun j l Cv hj=>?_⟩
 ·-- ext
  unfold HC;rw[av (by omega)];exact I.ext j hj
 ·-- dw
  rcases hinv j l hj with h|⟨h1,h2,h3⟩
  ·obtain⟨d1,d2⟩:=I.dw j l h;refine⟨d1.imp id fun ⟨k,q1,q2,q3⟩=>⟨k,q1,?_,q3⟩,fH d2 fF.fe.size⟩;simp only[nU];split<;>first|rfl|exact q2
  exact⟨.inr ⟨i,hi,by simp[nU],h1,h2⟩,(fF.hr.dw j l h3).2⟩
 ·-- full
  by_cases e:k=i
  ·subst e;obtain⟨l,hl⟩:=fF.full j (by omega) (by omega);exact⟨l,Fp j l hl⟩
  simp only[nU,e,if_false]at hSk;obtain⟨l,hl⟩:=I.full k hk hSk j h1 h2;exact⟨l,Fo j l hl⟩
 ·-- obj
  rcases hinv j l hj with h|⟨h1,h2,h3⟩
  ·by_cases hw:j∈(bh i).wr
   ·have aD:=T.wlt i hi j hw;have An:=xG j ((se j aD).2 hw);obtain⟨o,q1,q2⟩:=fF.hr.obj j l (by rw[J6 j aD];exact h);exact⟨o,by rw[xW j (.inl hw),<-de j (.inl ⟨An,aD⟩)];exact q1,q2.mono Fp⟩
   obtain⟨o,q1,q2⟩:=I.obj j l h;refine⟨o,by rw[told j l h hw];exact q1,?_⟩;cases hl:o.live with
   |false=>cases o<;>simp[O.live]at hl;trivial
   |true=> refine(q2.mono Fo).congr (fF.fe.block l.b (I.dw j l h).2 fun k hk lk gj=>?_);obtain⟨q3,q4⟩:=Hx gj;obtain⟨ok,q5,q6⟩:=cwr k hk lk gj;exact I.inj k j lk l ok o q4 h (fun hc=>hw (by rw[<-hc];exact(se k q3).1 hk)) q5 q1 q6 hl
  obtain⟨o,q1,q2⟩:=fF.hr.obj j l h3;exact⟨o,by rw[xW j (.inr ⟨h1,h2⟩),<-de j (.inr ⟨h1,h2⟩)];exact q1,q2.mono Fp⟩
 ·-- inj
  have HE:∀j k lj lk oj ok,(aL i).n<=j->j<(aL (i+1)).n->μ2 j=some lj->μ' k=some lk->mb aL bh (nU S i) N j=some oj->mb aL bh (nU S i) N k=some ok->((oj.wr=true/\ok.live=true)\/(ok.wr=true/\oj.live=true))->lj.b≠lk.b:=by
   intro j k lj lk oj ok uP pY hj3 hk I6 oH HF;have Fq:ok.live=true:=by
    rcases HF with h|h
    ·exact h.2
    have:=h.1;cases ok<;>simp_all [O.wr,O.live]
   rcases Qu j lj uP hj3 with h|⟨q,lq,h1,h2,h3,h4,o,h5,h6⟩
   ·have:=(I.dw k lk hk).2;omega
   rw[<-h4];by_cases e:q=k
   ·subst e;rw[h3,ar]at hk;subst hk;have hwq:=(se q h2).1 h1;rw[xW j (.inr ⟨uP,pY⟩),<-de j (.inr ⟨uP,pY⟩)]at I6;rw[xW q (.inl hwq),<-de q (.inl ⟨xG q h1,h2⟩)]at oH;have mV:μ2 q=some lq:=by rw[J6 q h2];exact h3
    exfalso;rcases HF with hb|hb
    ·exact fF.hr.inj j q lj lq oj ok hj3 mV (by omega) I6 oH hb.1 hb.2 h4.symm
    exact fF.hr.inj q j lq lj ok oj mV hj3 (by omega) oH I6 hb.1 hb.2 h4
   obtain⟨Qv,g1,g2,g3⟩:=J7 k lk ok hk oH;exact I.inj q k lq lk o Qv h3 hk e h5 g1 h6 (g3 Fq)
  rcases hinv j lj hj with OT|⟨a1,a2,a3⟩
  ·rcases hinv k lk hk with gW|⟨b1,b2,b3⟩
   ·obtain⟨oj0,g1,g2,g3⟩:=J7 j lj oj OT h1;obtain⟨Qv,g4,g5,g6⟩:=J7 k lk ok gW h2;exact I.inj j k lj lk oj0 Qv OT gW aX g1 g4 (g2 hw) (g6 hl)
   exact(HE k j lk lj ok oj b1 b2 b3 OT h2 h1 (.inr ⟨hw,hl⟩)).symm
  rcases hinv k lk hk with gW|⟨b1,b2,b3⟩
  ·exact HE j k lj lk oj ok a1 a2 a3 gW h1 h2 (.inl ⟨hw,hl⟩)
  rw[xW j (.inr ⟨a1,a2⟩),<-de j (.inr ⟨a1,a2⟩)]at h1;rw[xW k (.inr ⟨b1,b2⟩),<-de k (.inr ⟨b1,b2⟩)]at h2;exact fF.hr.inj j k lj lk oj ok a3 b3 aX h1 h2 hw hl
 ·-- the temporaries' count
  cases hd:ds i<;>simp[Act.put,I.xJ.1]
 ·-- the temporaries
  by_cases ht:ds i=some t
  ·rw[Yi0 Pu hi ht (Yh8 Or cy r_ hi hS ht),ar]at hv;subst hv;refine⟨x,?_,VR.mono Fp _ _ hx⟩;rw[ht];simp[Act.put,I.xJ.1,Ak t ht]
  rw[Ziu ht]at hv;obtain⟨y,q1,q2⟩:=I.xJ.2 t v hv;refine⟨y,?_,VR.mono Fo _ _ q2⟩;cases hd:ds i with
  |none=>simpa[Act.put]using q1
  |some d=> have:d≠t:=fun hc=>ht (by rw[hd,hc]);simp only[Act.put];rw[TM this];exact q1
 ·-- the marks
  have:(a'.put (ds i) x).defers=a'.defers:=by cases ds i<;>rfl
  rw[this];exact I.defs.mono Fo
 ·-- the frame
  refine⟨fF.fe.os.trans I.fe.os,fF.fe.tape.trans I.fe.tape,fF.fe.output.trans I.fe.output,nI I.fe.size fF.fe.size,fun b hb dV=>?_⟩;rw[fF.fe.block b (fH hb I.fe.size) fun j hj lj wj=>?_,I.fe.block b hb dV];obtain⟨q1,q2⟩:=Hx wj;by_cases e:j<(aL 0).n
  ·exact dV j (hW i hi j ((se j q1).1 hj)) lj (by rw[<-I.ext j e];exact q2)
  rcases I.new j lj (by omega) q2 with h|⟨k,hk,_,lk,_,h3,h4,_⟩
  ·omega
  rw[<-h4];exact dV k hk lk h3
 -- new ids
 rcases hinv j l hj with h|⟨h1,h2,h3⟩
 ·exact I.new j l Cv h
 rcases Qu j l h1 h3 with h|⟨q,lq,q1,q2,q3,q4,o,q5,q6⟩
 ·exact .inl (nI I.fe.size h)
 by_cases e:q<(aL 0).n
 ·have hqW:=hW i hi q ((se q q2).1 q1);obtain⟨oi,g1,g2⟩:=T.AJ i hi q ((se q q2).1 q1);obtain⟨o0,g3,g4⟩:=T.HD (by omega) e g1 g2;exact .inr ⟨q,hqW,e,lq,o0,by rw[<-I.ext q e];exact q3,q4,g3,g4⟩
 rcases I.new q lq (by omega) q3 with h|⟨k,hk,g1,lk,ok,g2,g3,g4⟩
 ·exact .inl (by omega)
 exact .inr ⟨k,hk,g1,lk,ok,g2,g3.trans q4,g4⟩
end
section
variable {P:Program} {μ:Mu} {w:World} {st aB:St} {fr bK:Fr} {a:Act} {call:cQ} {v:V} {lb:Option Nat}
def Yc8:∀(l:List Nat) (n j:Nat),j<n->(j∈az n l↔j∈l):=by
 intro l n i hi;induction l with
 |nil=>simp[az]
 |cons j l ih=>
  simp only[az];split
  ·unfold xh;split
   ·rename_i hc;simp only[iP,ih];simp only[TU]at hc;constructor
    ·exact .inr
    rintro(rfl|h)
    ·exact ih.1 hc
    exact h
   simp only[iP,ih]
  simp only[iP,ih];constructor
  ·exact .inr
  rintro(rfl|h)
  ·omega
  exact h
def Yme(cA:kK P call)(hE:vS P){ops:Array Oper}{Q:Exit->Act->World->Prop}{aL:Nat->St}{bA:Nat->Fr}{vI:Nat->V}{bh:Nat->FP}{S:Nat->Bool}{W:List Nat}{μ':Mu}{a':Act}{w':World}
  (h0:bq P μ w (aL 0)) (hs:∀i o,ops[i]?=some o->BX P call ops o (aL i) (bA i) (vI i) (bh i) (aL (i+1)) (bA (i+1)))
  (T:xF P μ aL bA bh ops.size) {ds:Nat->Option Nat} {mo:Nat->dS} (GR:∀i o,ops[i]?=some o->mo i=tu P ops o) (r_:∀k,k<ops.size->ds k=(mo k).dst) (Pu:JI bA ds vI ops.size)
  {nk:Nat->Nat->Prop} (Or:Ord bh mo ops.size nk) (I:Inv P μ w aL bA bh ds ops.size W S μ' a' w') (cy:∀k,S k=true->∀i,nk k i->S i=true) (hW:∀k,k<ops.size->∀j∈(bh k).wr,j∈W)
  (BY:∀i,i<ops.size->∀ds,rG μ' (bA 0).marks ds->rG (BZ μ' (aL i).n) (bA 0).marks ds)
  {i:Nat} (hi:i<ops.size) (hS:S i=false) (hb:∀j,nk i j->S j=true) {K:Act->World->Prop}
  (hK:∀μ2 a2 w2,Inv P μ w aL bA bh ds ops.size W (nU S i) μ2 a2 w2->K a2 w2):wpOpIn (FE lb) 0 P ops Q i K a' w':=by
 have ho:ops[i]?=some ops[i]:=Array.getElem?_eq_getElem hi;obtain⟨g,b,hg,hw,hp,ht,Pb⟩:=hs i _ ho;have hmi:=GR i _ ho;have JJ:mo i=⟨ops[i].dst,BI P ops[i].op,g⟩:=by rw[hmi];unfold tu;rw[hg]
 have jL:ds i=ops[i].dst:=by rw[r_ i hi,JJ]
 have JK:∀s∈(BI P ops[i].op).EI,∀t∈s.tmps,t∈(mo i).reads:=fun s hs t ht=>by rw[JJ];simp only[dS.reads,iS,List.mem_flatMap];exact .inr ⟨s,hs,ht⟩
 have hRR:=Yna T Pu I Or cy r_ hi hS hb;have zd:cf (B1 (bA i).r (mo i).reads) g=cf (bA i).r g:=by
  cases g with
  |none=>rfl
  |some p=> obtain⟨t,want⟩:=p;simp only[cf];rw[Pc,av (by rw[JJ];simp[dS.reads])]
 have Ak:∀d,ds i=some d->d<(bA 0).n:=fun d hd=>by
  rw[jL]at hd;rw[hd]at hp;simp only[Fr.put]at hp;split at hp
  ·rename_i aD;rw[<-(T.fn i (by omega)).1];exact aD
  cases hp
 unfold wpOpIn;rw[ho];simp only[];have hwd:Region.wanted ops[i] (yielded ops a'.tmps)=b:=Zq1 (fr:={r:=B1 (bA i).r (mo i).reads,n:=(bA 0).n,marks:=[]}) (a:=a') hRR hg (by rw[zd];exact hw);cases b with
 |true=>
  rw[av hwd];obtain⟨s',hm,jF,Pd⟩:=ht rfl;obtain⟨σ,σ',k1,k2,k3,k4,k5,k6,k7,k8,k9⟩:=Yl7 (ws:=az (aL i).n s'.w) (lo:=(aL i).n) (hi:=s'.n) hm rfl;rw[<-Pd]at k6 k7 k8 k9;obtain⟨vg,l_⟩:=Yiv h0 T I Or cy hi hS hb k1 k6 k7;have uK:oG (BZ μ' (aL i).n) {r:=B1 (bA i).r (mo i).reads,n:=(bA 0).n,marks:=(bA 0).marks} a':=⟨hRR,BY i hi _ I.defs⟩;have SS:cH (BI P ops[i].op) call (B1 (bA i).r (mo i).reads) σ=some (vI i,σ'):=by rw[Ygw (r':=(bA i).r) fun s hs=>Yts (JK s hs)];exact k3
  refine Yrk cA hE vg uK SS fun x w2 μ2 ws hv fF=>?_;have se:ws=s'.w:=by have:=fF.wl;rw[k2,k5,zO]at this;exact this.symm
  have uB:(aL (i+1)).n=s'.n:=by rw[jF]
  have hh':(aL (i+1)).h=s'.h:=by rw[jF]
  have hinv:=Yas h0 T Pu I Or cy r_ hW hi hS Ak vg l_ k1 (by rw[k4,uB]) fF (fun j hj=>by rw[se,Pd,(Zyc (call:=call) hm _ _).1];exact(Yc8 _ _ _ hj).symm) (fun j hj=>k9 j (by rw[<-se];exact hj)) (fun j hj=>by rw[hh'];exact k8 j (by rw[uB]at hj;exact hj)) hv;rw[jL]at hinv;exact hK _ _ _ hinv
 |false=>
  rw[ak (by rw[hwd];simp)];obtain⟨hv,jF,Pd⟩:=Pb rfl;refine⟨fun _ _=>trivial,?_⟩;have xG:∀j,¬(bh i).dK j:=fun j=>by rw[Pd];simp[FP.dK]
  obtain⟨vg,l_⟩:=Yiv (σ:=⟨tM (aL i).h [] (aL i).n,(aL i).n,[]⟩) h0 T I Or cy hi hS hb rfl (fun j _ hj=>absurd hj (xG j)) (fun j hj _=>by show (tM (aL i).h [] (aL i).n).get j=_;rw[MF,av hj];simp);have uB:(aL (i+1)).n=(aL i).n:=by rw[jF]
  have:=Yas (x:=undef) (ws:=[]) (σ':=⟨tM (aL i).h [] (aL i).n,(aL i).n,[]⟩) h0 T Pu I Or cy r_ hW hi hS Ak vg l_ rfl uB.symm (bN.refl vg) (fun j hj=>by rw[Pd]) (fun j hj=>by simp at hj) (fun j hj=>by
   rcases hj with⟨h,_⟩|⟨h1,h2⟩
   ·exact absurd h (xG j)
   ·omega) (by rw[hv];exact⟨[],rfl,by simp[aV]⟩);rw[jL]at this;exact hK _ _ _ this
def Zng:∀{os:List Oper} {b:Nat},Md b os=true->∀i o,os[i]?=some o->∀e∈o.after,Region.binds .any e=true->e.on<b+i
 |[],b,_,i,o,h,_,_,_=>by simp at h
 |o0::os,b,h,i,o,ho,e,he,hb=>by
  simp only[Md,gV]at h
  cases i with
  |zero=>
   simp only[De,ar]at ho
   subst ho
   have h1:=h.1
   rw[Xgh]at h1
   have:=h1 e he
   rw[hb]at this
   simpa[Nat.blt_eq]using this
  |succ i=>
   have:=Zng h.2 i o (by simpa using ho) e he hb
   omega
def Yei{ops:Array Oper}(he:Md 0 ops.toList=true){listed:Array Bool}(mY:listed.size=ops.size)(hr:Region.ready .any ops listed=[]):∀k,k<ops.size->listed.getD k false=true:=by
 intro k;induction k using Nat.strongRecOn with
 |_ k ih=>
  intro hk;refine Classical.byContradiction fun hn=>?_;have vi:k∈Region.ready .any ops listed:=by
   unfold Region.ready;simp only[List.mem_filter,jz,gV,Jd];refine⟨hk,?_,?_⟩
   ·have gj:k<listed.size:=by omega
    simp only[Array.getD,gj,dif_pos]at hn ⊢;simpa using hn
   have ho:ops[k]?=some ops[k]:=Array.getElem?_eq_getElem hk;rw[ho];simp only[qH,iL,Xgh,Jh,Jd];intro e Pe;cases hb:Region.binds .any e with
   |false=>exact .inl rfl
   |true=> have:=Zng he k ops[k] (by rw[Es];exact ho) e Pe hb;exact .inr (ih e.on (by omega) (by omega))
  rw[hr]at vi;cases vi
def Yiz{p q:Nat->Bool}(hp:p i=true)(hq:q i=false)(ho:∀k,k≠i->q k=p k):∀N,i<N->(List.range N).countP q+1=(List.range N).countP p:=by
 have same:∀N,N<=i->(List.range N).countP q=(List.range N).countP p:=by
  intro N;induction N with
  |zero=>intro _;rfl
  |succ N ih=> intro h;rw[List.range_succ,List.countP_append,List.countP_append,ih (by omega)];simp[ho N (by omega)]
 intro N;induction N with
 |zero=>intro h;omega
 |succ N ih=>
  intro h;rw[List.range_succ,List.countP_append,List.countP_append];by_cases e:N=i
  ·subst e;rw[same N (aN _)];simp[hp,hq]
  have:=ih (by omega);simp only[List.countP_singleton,ho N e];omega
end
end Go.Mx
