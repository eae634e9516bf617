/-A region that draws its order-/
import Derived.Test.YtnkdakmfipgidaaGreatDoorMxFun
set_option linter.all false
namespace Go.Mx
open Go
section
variable {P:Program} {μ:Mu} {w:World} {st aA:St} {fr bH:Fr} {a:Act} {call:cM} {v:V} {lb:Option Nat}
def Yxz(cj:jZ P call)(hE:vn P)(hh:bn P μ w st)(hf:od μ fr a){o:Oper}(h:cC (Bn P o.op) call fr.r st=some (v,aA)):∃x w' μ' ws,VR μ' v x/\bI P μ w st μ' w' aA ws:=by
 have hwp:=Yqv (lb:=none) (Q:=fun _ _ _=>False) (K:=fun _ _=>∃x w' μ' ws,VR μ' v x/\bI P μ w st μ' w' aA ws) cj hE hh hf h (fun x w' μ' ws h1 h2=>⟨x,w',μ',ws,h1,h2⟩);obtain⟨_,hu⟩:=hwp;generalize (o.semAt (FE none).round a.eval).run P w=res at hu;cases res with
 |halt x w'=>cases x<;>simp only[Oper.uponIn]at hu
 |ok x w'=>
  cases x<;>simp only[Oper.uponIn]at hu;case value=>exact hu
  case skip=>exact hu
  case defer=>exact hu
  case enter f args=>
   obtain⟨e,w',fr,hR,_⟩:=hu.2.2 [] (fun d hd=>by simp[Fence.wide]at hd)
   cases e with
   |returned v=>exact hR
   |panicked c=>exact hR.elim
   |outgrown=>obtain⟨_,_,hq⟩:=hR;exact hq.elim
  case row r args=>
   obtain⟨v',w',hR,_⟩:=hu.2 default [] (fun d hd=>by simp[Fence.wide]at hd)
   exact hR
  case round l f tmps gK gO=>
   obtain⟨e,w',hR,_⟩:=hu.2.2 default [] (fun d hd=>by simp[Fence.wide]at hd)
   cases e with
   |returned v=>exact hR
   |panicked c=>exact hR.elim
   |outgrown=>obtain⟨_,_,hq⟩:=hR;exact hq.elim
def BD(P:Program)(call:cM)(ops:Array Oper)(o:Oper)(st:St)(fr:Fr)(v:V)(f:FP)(bX:St)(ef:Fr):Prop:=
 ∃g b,IQ ops o.guard=some g/\bU fr.r g=some b/\fr.put o.dst v=some ef/\
  (b=true->∃s',cC (Bn P o.op) call fr.r {st with w:=[]}=some (v,s')/\bX={s' with w:=ay st.n s'.w++st.w}/\f=qm fr.r (Bn P o.op) (ay st.n s'.w) st.n s'.n)/\
  (b=false->v=.aV []/\bX=st/\f=⟨some [],[],st.n,st.n⟩)
def Zug{ops:Array Oper}:∀(os:List Oper) (fr:Fr) (st:St) (iO:List FP) (bH:Fr) (aA:St),bM call (os.map (sE P ops)) fr st=some (iO,bH,aA)->
  ∃(aJ:Nat->St) (bs:Nat->Fr) (vI:Nat->V) (bf:Nat->FP),aJ 0=st/\bs 0=fr/\aJ os.length=aA/\bs os.length=bH/\iO.length=os.length/\
   ∀i o,os[i]?=some o->iO[i]?=some (bf i)/\BD P call ops o (aJ i) (bs i) (vI i) (bf i) (aJ (i+1)) (bs (i+1))
 |[],fr,st,iO,bH,aA,h=>by
  simp only[vF,bM,Yfn,aq,bB]at h
  obtain⟨rfl,rfl,rfl⟩:=h
  exact⟨fun _=>st,fun _=>fr,fun _=>.bJ,fun _=>⟨none,[],0,0⟩,rfl,rfl,rfl,rfl,rfl,fun i o h=>by simp at h⟩
 |o::os,fr,st,iO,bH,aA,h=>by
  simp only[nI,bM,C9]at h
  have go:∀(v:V) (f:FP) (bX:St) (ef:Fr) (vf:List FP),BD P call ops o st fr v f bX ef->bM call (os.map (sE P ops)) ef bX=some (vf,bH,aA)->iO=f::vf->
    ∃(aJ:Nat->St) (bs:Nat->Fr) (vI:Nat->V) (bf:Nat->FP),aJ 0=st/\bs 0=fr/\aJ (o::os).length=aA/\bs (o::os).length=bH/\iO.length=(o::os).length/\
     ∀i o',(o::os)[i]?=some o'->iO[i]?=some (bf i)/\BD P call ops o' (aJ i) (bs i) (vI i) (bf i) (aJ (i+1)) (bs (i+1)):=by
   intro v f bX ef vf hs hm hf
   obtain⟨aJ,bs,vI,bf,h1,h2,h3,h4,h5,h6⟩:=Zug os ef bX vf bH aA hm
   refine⟨fun|0=>st|i+1=>aJ i,fun|0=>fr|i+1=>bs i,fun|0=>v|i+1=>vI i,fun|0=>f|i+1=>bf i,rfl,rfl,h3,h4,by simp[hf,h5],fun i o' ho=>?_⟩
   cases i with
   |zero=>
    simp only[C4,aq]at ho
    subst ho
    refine⟨by simp[hf],?_⟩
    show BD P call ops o st fr v f (aJ 0) (bs 0)
    rw[h1,h2];exact hs
   |succ i=>
    obtain⟨g1,g2⟩:=h6 i o' (by simpa using ho)
    exact⟨by simpa[hf]using g1,g2⟩
  unfold sE at h
  cases hg:IQ ops o.guard with
  |none=>
   rw[hg]at h
   simp only[bU,cC,ZY]at h
   cases h
  |some g=>
   rw[hg]at h
   simp only at h
   cases hw:bU fr.r g with
   |none=>rw[hw]at h;cases h
   |some b=>
    rw[hw]at h
    cases b with
    |true=>
     simp only at h
     split at h
     ·rename_i v1 s1 hm
      split at h
      ·rename_i ef hp
       split at h
       ·rename_i vf AQ fb iR
        simp only[aq,bB]at h
        obtain⟨rfl,rfl,rfl⟩:=h
        exact go v1 _ _ ef vf ⟨g,true,hg,hw,hp,fun _=>⟨s1,hm,rfl,rfl⟩,fun hc=>by cases hc⟩ iR rfl
       ·cases h
      ·cases h
     ·cases h
    |false=>
     simp only at h
     split at h
     ·rename_i ef hp
      split at h
      ·rename_i vf AQ fb iR
       simp only[aq,bB]at h
       obtain⟨rfl,rfl,rfl⟩:=h
       exact go (.aV []) _ st ef vf ⟨g,false,hg,hw,hp,(fun hc=>by cases hc),fun _=>⟨rfl,rfl,rfl⟩⟩ iR rfl
      ·cases h
     ·cases h
def Zxo{op:iA}{s':St}(hm:cC op call fr.r {st with w:=[]}=some (v,s'))(lo hi:Nat):(qm fr.r op (ay st.n s'.w) lo hi).wr=ay st.n s'.w/\(qm fr.r op (ay st.n s'.w) lo hi).lo=lo/\(qm fr.r op (ay st.n s'.w) lo hi).hi=hi:=by
 unfold qm;split
 ·rename_i hs;rcases Zoo hs .nil [] hm with⟨h1,_⟩|⟨o,h1,_⟩
  ·subst h1;exact⟨rfl,rfl,rfl⟩
  subst h1;exact⟨rfl,rfl,rfl⟩
 split
 ·split<;>exact⟨rfl,rfl,rfl⟩
 exact⟨rfl,rfl,rfl⟩
def Yef(cj:jZ P call)(hE:vn P)(hh:bn P μ w st)(hf:od μ fr a){ops:Array Oper}{o:Oper}{f:FP}{bX:St}{ef:Fr}(h:BD P call ops o st fr v f bX ef):
  ∃w' μ' a',bI P μ w st μ' w' bX f.wr/\od μ' ef a'/\f.lo=st.n/\f.hi=bX.n:=by
 obtain⟨g,b,hg,hw,hp,ht,Ow⟩:=h;cases b with
 |true=> obtain⟨s',hm,rfl,rfl⟩:=ht rfl;obtain⟨x,w',μ',ws,h1,h2⟩:=Yxz cj hE (hh.now []) hf hm;have h3:=h2.fold hh;obtain⟨e1,e2,e3⟩:=Zxo (call:=call) hm st.n s'.n;rw[e1,e2,e3];exact⟨w',μ',_,h3,(hf.mono (h3.mono hh)).put h1 hp,rfl,rfl⟩
 |false=> obtain⟨rfl,rfl,rfl⟩:=Ow rfl;exact⟨w,μ,_,bI.refl hh,hf.put (v:=.aV []) (x:=undef) ⟨[],rfl,by simp[aU]⟩ hp,rfl,rfl⟩
structure w_ (P:Program) (μ:Mu) (aJ:Nat->St) (bs:Nat->Fr) (bf:Nat->FP) (N:Nat):Prop where
 iG:∀i,i<N->(aJ i).n<=(aJ (i+1)).n
 lo:∀i,i<N->(bf i).lo=(aJ i).n
 hi:∀i,i<N->(bf i).hi=(aJ (i+1)).n
 wl:∀i,i<N->(aJ (i+1)).w=(bf i).wr++(aJ i).w
 wlt:∀i,i<N->∀j∈(bf i).wr,j<(aJ i).n
 ad:∀i,i<N->∀j,j<(aJ i).n->j∉(bf i).wr->(aJ (i+1)).h.get j=(aJ i).h.get j
 grow:∀i,i<N->∀j o',j<(aJ i).n->(aJ (i+1)).h.get j=some o'->∃o,(aJ i).h.get j=some o/\(o'.wr=true->o.wr=true)/\(o'.live=true->o.live=true)
 Ai:∀i,i<N->∀j∈(bf i).wr,∃o,(aJ i).h.get j=some o/\o.wr=true
 scr:∀i,i<=N->∀t v,(bs i).r.get t=some v->Sc (aJ i).n v
 sch:∀i,i<=N->∀j,(j<(aJ 0).n->∃l,μ j=some l)->j<(aJ i).n->∃o μT wT lT,(aJ i).h.get j=some o/\OM P μT wT o lT/\∀k l,μT k=some l->k<(aJ i).n
 fn:∀i,i<=N->(bs i).n=(bs 0).n/\(bs i).marks=(bs 0).marks
def Yuf{ops:Array Oper}{o:Oper}{f:FP}{bX:St}{ef:Fr}(h:BD P call ops o st fr v f bX ef):∀j∈f.wr,j<st.n:=by
 have key:∀(l:List Nat) (n j:Nat),j∈ay n l->j<n:=by
  intro l n j hj;induction l with
  |nil=>simp[ay]at hj
  |cons i l ih=>
   simp only[ay]at hj;split at hj
   ·unfold wG at hj;split at hj
    ·exact ih hj
    simp only[iW]at hj;rcases hj with rfl|hj
    ·assumption
    exact ih hj
   exact ih hj
 obtain⟨g,b,hg,hw,hp,ht,Ow⟩:=h;cases b with
 |true=> obtain⟨s',hm,rfl,rfl⟩:=ht rfl;rw[(Zxo (call:=call) hm _ _).1];exact key _ _
 |false=> obtain⟨rfl,rfl,rfl⟩:=Ow rfl;intro j hj;simp at hj
def Ykj{d:Option Nat}(h:fr.put d v=some bH):bH.n=fr.n/\bH.marks=fr.marks:=by
 cases d with
 |none=>simp only[Fr.put,aq]at h;subst h;exact⟨rfl,rfl⟩
 |some d=>
  simp only[Fr.put]at h;split at h
  ·simp only[aq]at h;subst h;exact⟨rfl,rfl⟩
  cases h
def Yaj(cj:jZ P call)(hE:vn P){ops:Array Oper}{aJ:Nat->St}{bs:Nat->Fr}{vI:Nat->V}{bf:Nat->FP}{N:Nat}{os:List Oper}(hN:os.length=N)
  (hh:bn P μ w (aJ 0)) (hf:od μ (bs 0) a) (hs:∀i o,os[i]?=some o->BD P call ops o (aJ i) (bs i) (vI i) (bf i) (aJ (i+1)) (bs (i+1))):
  ∀i,i<=N->∃w' μ' a' ws,bI P μ w (aJ 0) μ' w' (aJ i) ws/\od μ' (bs i) a':=by
 intro i;induction i with
 |zero=>exact fun _=>⟨w,μ,a,[],bI.refl hh,hf⟩
 |succ i ih=> intro hi;obtain⟨w',μ',a',ws,h1,h2⟩:=ih (by omega);have ho:os[i]?=some (os[i]'(by omega)):=bV (by omega);obtain⟨w2,μ2,a2,h3,h4,_⟩:=Yef cj hE h1.hr h2 (hs i _ ho);exact⟨w2,μ2,a2,_,h1.trans h3,h4⟩
def Yul(cj:jZ P call)(hE:vn P){ops:Array Oper}{aJ:Nat->St}{bs:Nat->Fr}{vI:Nat->V}{bf:Nat->FP}{N:Nat}{os:List Oper}(hN:os.length=N)
  (hh:bn P μ w (aJ 0)) (hf:od μ (bs 0) a) (hs:∀i o,os[i]?=some o->BD P call ops o (aJ i) (bs i) (vI i) (bf i) (aJ (i+1)) (bs (i+1))):w_ P μ aJ bs bf N:=by
 have hch:=Yaj cj hE hN hh hf hs;have cZ:∀i,i<N->∃o,os[i]?=some o:=fun i hi=>⟨_,bV (by omega)⟩;have pO:∀i,i<N->∃w1 μ1 w2 μ2 a2,bI P μ1 w1 (aJ i) μ2 w2 (aJ (i+1)) (bf i).wr/\od μ2 (bs (i+1)) a2/\(bf i).lo=(aJ i).n/\(bf i).hi=(aJ (i+1)).n:=fun i hi=>by obtain⟨w',μ',a',ws,h1,h2⟩:=hch i (by omega);obtain⟨o,ho⟩:=cZ i hi;obtain⟨w2,μ2,a2,h3,h4,h5,h6⟩:=Yef cj hE h1.hr h2 (hs i o ho);exact⟨w',μ',w2,μ2,a2,h3,h4,h5,h6⟩
 refine⟨fun i hi=>?_,fun i hi=>?_,fun i hi=>?_,fun i hi=>?_,fun i hi=>?_,fun i hi=>?_,fun i hi=>?_,fun i hi=>?_,fun i hi t v hv=>?_,fun i hi j hj CT=>?_,fun i=>?_⟩
 ·obtain⟨_,_,_,_,_,h,_⟩:=pO i hi;exact h.iG
 ·obtain⟨_,_,_,_,_,_,_,h,_⟩:=pO i hi;exact h
 ·obtain⟨_,_,_,_,_,_,_,_,h⟩:=pO i hi;exact h
 ·obtain⟨_,_,_,_,_,h,_⟩:=pO i hi;exact h.wl
 ·obtain⟨o,ho⟩:=cZ i hi;exact Yuf (hs i o ho)
 ·obtain⟨_,_,_,_,_,h,_⟩:=pO i hi;exact h.ad
 ·obtain⟨_,_,_,_,_,h,_⟩:=pO i hi;exact h.grow
 ·obtain⟨o,ho⟩:=cZ i hi;obtain⟨_,_,_,_,_,h,_⟩:=pO i hi;exact fun j hj=>h.Ai j hj (Yuf (hs i o ho) j hj)
 ·obtain⟨w',μ',a',ws,h1,h2⟩:=hch i hi;obtain⟨x,_,hx⟩:=h2.1.2 t v hv;exact VR.sc (fun k l hk=>(h1.hr.dt k l hk).1) v x hx
 ·obtain⟨w',μ',a',ws,h1,h2⟩:=hch i hi;have hl:∃l,μ' j=some l:=by
   by_cases h0:j<(aJ 0).n
   ·obtain⟨l,hl⟩:=hj h0;exact⟨l,(h1.ext j h0).trans hl⟩
   exact h1.full j (by omega) CT
  obtain⟨l,hl⟩:=hl;obtain⟨o,C1,zz⟩:=h1.hr.obj j l hl;exact⟨o,μ',w',l,C1,zz,fun k l hk=>(h1.hr.dt k l hk).1⟩
 induction i with
 |zero=>exact fun _=>⟨rfl,rfl⟩
 |succ i ih=> intro hi;obtain⟨o,ho⟩:=cZ i (by omega);obtain⟨g,b,_,_,hp,_⟩:=hs i o ho;obtain⟨e1,e2⟩:=Ykj hp;obtain⟨f1,f2⟩:=ih (by omega);exact⟨e1.trans f1,e2.trans f2⟩
end
def xz(aJ:Nat->St)(bf:Nat->FP)(k j:Nat):Prop:=j∈(bf k).wr\/((aJ k).n<=j/\j<(aJ (k+1)).n)
instance (aJ:Nat->St) (bf:Nat->FP) (k j:Nat):Decidable (xz aJ bf k j):=by unfold xz;infer_instance
def kM(aJ:Nat->St)(bf:Nat->FP)(S:Nat->Bool):Nat->Nat->Option O
 |0,j=>(aJ 0).h.get j
 |k+1,j=>if S k=true/\xz aJ bf k j then (aJ (k+1)).h.get j else kM aJ bf S k j
def xc(bs:Nat->Fr)(ds:Nat->Option Nat)(S:Nat->Bool):Nat->Nat->Option V
 |0,t=>(bs 0).r.get t
 |k+1,t=>if S k=true/\ds k=some t then (bs (k+1)).r.get t else xc bs ds S k t
def nJ(S:Nat->Bool)(i:Nat):Nat->Bool:=fun k=>if k=i then true else S k
section
variable {P:Program} {μ:Mu} {aJ:Nat->St} {bs:Nat->Fr} {bf:Nat->FP} {ds:Nat->Option Nat} {S:Nat->Bool} {N:Nat}
def Zs8(T:w_ P μ aJ bs bf N):∀{i j:Nat},i<=N->j<(aJ i).n->(∀k,k<i->xz aJ bf k j->S k=true)->kM aJ bf S i j=(aJ i).h.get j
 |0,j,_,_,_=>rfl
 |i+1,j,hi,hj,h=>by
  simp only[kM]
  by_cases ht:xz aJ bf i j
  ·rw[ar ⟨h i (by omega) ht,ht⟩]
  ·rw[ak (fun hc=>ht hc.2)]
   simp only[xz,not_or,not_and,wx]at ht
   have aC:j<(aJ i).n:=by
    rcases Nat.lt_or_ge j (aJ i).n with h1|h1
    ·exact h1
    ·have:=ht.2 h1;omega
   rw[Zs8 T (by omega) aC fun k hk=>h k (by omega),T.ad i (by omega) j aC ht.1]
def TR:∀{M i j:Nat},i<=M->(∀k,i<=k->k<M->xz aJ bf k j->S k=false)->kM aJ bf S M j=kM aJ bf S i j
 |0,i,j,hi,_=>by rw[Nat.le_zero.1 hi]
 |M+1,i,j,hi,h=>by
  by_cases e:i=M+1
  ·rw[e]
  ·simp only[kM]
   rw[ak,TR (by omega) fun k h1 h2=>h k h1 (by omega)]
   rintro⟨h1,h2⟩
   rw[h M (by omega) (by omega) h2]at h1;cases h1
def Zi3{i:Nat}:∀{M j:Nat},¬xz aJ bf i j->kM aJ bf (nJ S i) M j=kM aJ bf S M j
 |0,j,_=>rfl
 |M+1,j,h=>by
  simp only[kM]
  rw[Zi3 h]
  by_cases e:M=i
  ·subst e
   rw[ak (fun hc=>h hc.2),ak (fun hc=>h hc.2)]
  ·simp only[nJ,e,if_false]
def Yih{i j:Nat}(hi:i<N)(ht:xz aJ bf i j)(h:∀k,i<k->k<N->xz aJ bf k j->S k=false):kM aJ bf (nJ S i) N j=(aJ (i+1)).h.get j:=by rw[TR (i:=i+1) (by omega) fun k h1 h2 h3=>by simp only[nJ];rw[ak (by omega)];exact h k (by omega) h2 h3];simp only[kM,nJ];rw[ar ⟨by simp,ht⟩]
def Jv(bs:Nat->Fr)(ds:Nat->Option Nat)(vI:Nat->V)(N:Nat):Prop:=∀i,i<N->∀t,(bs (i+1)).r.get t=if ds i=some t then some (vI i) else (bs i).r.get t
def Zs7{vI:Nat->V}(T:Jv bs ds vI N):∀{i t:Nat},i<=N->(∀k,k<i->ds k=some t->S k=true)->xc bs ds S i t=(bs i).r.get t
 |0,t,_,_=>rfl
 |i+1,t,hi,h=>by
  simp only[xc]
  by_cases ht:ds i=some t
  ·rw[ar ⟨h i (by omega) ht,ht⟩]
  ·rw[ak (fun hc=>ht hc.2),Zs7 T (by omega) fun k hk=>h k (by omega),T i (by omega) t,ak ht]
def TS:∀{M i t:Nat},i<=M->(∀k,i<=k->k<M->ds k=some t->S k=false)->xc bs ds S M t=xc bs ds S i t
 |0,i,t,hi,_=>by rw[Nat.le_zero.1 hi]
 |M+1,i,t,hi,h=>by
  by_cases e:i=M+1
  ·rw[e]
  ·simp only[xc]
   rw[ak,TS (by omega) fun k h1 h2=>h k h1 (by omega)]
   rintro⟨h1,h2⟩
   rw[h M (by omega) (by omega) h2]at h1;cases h1
def Zi2{i:Nat}:∀{M t:Nat},ds i≠some t->xc bs ds (nJ S i) M t=xc bs ds S M t
 |0,t,_=>rfl
 |M+1,t,h=>by
  simp only[xc]
  rw[Zi2 h]
  by_cases e:M=i
  ·subst e
   rw[ak (fun hc=>h hc.2),ak (fun hc=>h hc.2)]
  ·simp only[nJ,e,if_false]
def Yig{vI:Nat->V}(T:Jv bs ds vI N){i t:Nat}(hi:i<N)(ht:ds i=some t)(h:∀k,i<k->k<N->ds k=some t->S k=false):xc bs ds (nJ S i) N t=some (vI i):=by rw[TS (i:=i+1) (by omega) fun k h1 h2 h3=>by simp only[nJ];rw[ak (by omega)];exact h k (by omega) h2 h3];simp only[xc,nJ];rw[ar ⟨by simp,ht⟩,T i hi t,ar ht]
def BG(r:T V):List Nat->T V
 |[]=>.nil
 |t::ts=>match r.get t with
  |some v=>(BG r ts).set t v
  |none=>BG r ts
def Ox(r:T V):∀(ts:List Nat) (t:Nat),(BG r ts).get t=if t∈ts then r.get t else none
 |[],t=>by simp[BG,T.get]
 |u::ts,t=>by
  simp only[BG]
  split
  ·rename_i v hv
   rw[T.ae,Ox r ts t]
   by_cases e:t=u
   ·subst e;simp[hv]
   ·simp[e]
  ·rename_i hv
   rw[Ox r ts t]
   by_cases e:t=u
   ·subst e;simp[hv]
   ·simp[e]
def Ysv{r:T V}{ts:List Nat}{s:Src}(h:∀t∈s.tmps,t∈ts):s.ev (BG r ts)=s.ev r:=by
 cases s with
 |const v=>rfl
 |tmp t=>simp only[Src.ev];rw[Ox,ar (h t (by simp[Src.tmps]))]
def sP(h:T O)(ad:List Nat):Nat->T O
 |0=>.nil
 |n+1=>match h.get n with
  |some o=>(sP h ad n).set n (if n∈ad then o else .dead)
  |none=>sP h ad n
def Mc(h:T O)(ad:List Nat):∀(n j:Nat),(sP h ad n).get j=if j<n then (h.get j).map fun o=>if j∈ad then o else .dead else none
 |0,j=>by simp[sP,T.get]
 |n+1,j=>by
  simp only[sP]
  split
  ·rename_i o ho
   rw[T.ae,Mc h ad n j]
   by_cases e:j=n
   ·subst e;simp[ho]
   ·rw[ak e]
    by_cases e2:j<n
    ·rw[ar e2,ar (by omega)]
    ·rw[ak e2,ak (by omega)]
  ·rename_i ho
   rw[Mc h ad n j]
   by_cases e:j=n
   ·subst e;simp[ho]
   ·by_cases e2:j<n
    ·rw[ar e2,ar (by omega)]
    ·rw[ak e2,ak (by omega)]
def FP.dG(f:FP)(j:Nat):Prop:=
 match f.rd with
 |none=>True
 |some l=>j∈l
def Ye1{st σ:St}{i:Nat}(h:σ.h.get i=st.h.get i):σ.row i=st.row i:=by unfold St.row;rw[h]
def Ylo{call:cM}{r:T V}{op:iA}{st s':St}{v:V}{ws:List Nat}{lo hi:Nat}(hm:cC op call r {st with w:=[]}=some (v,s'))(gT:lo=st.n):
  ∃σ σ',σ.n=st.n/\σ.w=[]/\cC op call r σ=some (v,σ')/\σ'.n=s'.n/\σ'.w=s'.w/\
   (∀j,j<st.n->(qm r op ws lo hi).dG j->σ.h.get j=st.h.get j)/\(∀j,j<st.n->¬(qm r op ws lo hi).dG j->σ.h.get j=(st.h.get j).map fun _=>.dead)/\
   (∀j,((qm r op ws lo hi).dG j/\j<st.n)\/(st.n<=j/\j<s'.n)->σ'.h.get j=s'.h.get j)/\(∀j∈s'.w,(qm r op ws lo hi).dG j):=by
 by_cases hs:op.pA=true
 ·have hf:qm r op ws lo hi=⟨some [],[],lo,hi⟩:=by unfold qm;rw[ar hs]
  rw[hf];have hd:∀j,j<st.n->(sP st.h [] st.n).get j=(st.h.get j).map fun _=>.dead:=fun j hj=>by rw[Mc,ar hj];simp
  rcases Zoo hs (sP st.h [] st.n) [] hm with⟨h1,h2⟩|⟨o,h1,h2⟩
  ·subst h1;exact⟨⟨sP st.h [] st.n,st.n,[]⟩,_,rfl,rfl,h2,rfl,rfl,fun j _ hj=>by simp[FP.dG]at hj,fun j hj _=>hd j hj,fun j hj=>by
    rcases hj with⟨hj,_⟩|⟨h1,h2⟩
    ·simp[FP.dG]at hj
    ·simp only at h2;omega,fun j hj=>by simp at hj⟩
  subst h1;refine⟨⟨sP st.h [] st.n,st.n,[]⟩,_,rfl,rfl,h2,rfl,rfl,fun j _ hj=>by simp[FP.dG]at hj,fun j hj _=>hd j hj,fun j hj=>?_,fun j hj=>by simp[St.alloc]at hj⟩;rcases hj with⟨hj,_⟩|⟨h1,h2⟩
  ·simp[FP.dG]at hj
  simp only[St.alloc]at h2 ⊢;have:j=st.n:=by omega
  subst this;rw[T.ae,T.ae,ar rfl,ar rfl]
 cases hl:TH r op with
 |none=>
  have hf:qm r op ws lo hi=⟨none,ws,lo,hi⟩:=by unfold qm;rw[ak hs,hl]
  rw[hf];exact⟨{st with w:=[]},s',rfl,rfl,hm,rfl,rfl,fun _ _ _=>rfl,fun _ _ hj=>absurd trivial hj,fun _ _=>rfl,fun _ _=>trivial⟩
 |some i=>
  by_cases jn:i<st.n;case neg=>
   have hf:qm r op ws lo hi=⟨none,ws,lo,hi⟩:=by unfold qm;rw[ak hs,hl];simp only[];rw[ak (by rw[gT];simpa[Nat.blt_eq]using jn)]
   rw[hf]
   exact⟨{st with w:=[]},s',rfl,rfl,hm,rfl,rfl,fun _ _ _=>rfl,fun _ _ hj=>absurd trivial hj,fun _ _=>rfl,fun _ _=>trivial⟩
  have hf:qm r op ws lo hi=⟨some [i],ws,lo,hi⟩:=by unfold qm;rw[ak hs,hl];simp only[];rw[ar (by rw[gT];simpa[Nat.blt_eq]using jn)]
  rw[hf];have hk:(sP st.h [i] st.n).get i=st.h.get i:=by rw[Mc,ar jn];cases st.h.get i<;>simp
  have hd:∀j,j<st.n->¬(j∈[i])->(sP st.h [i] st.n).get j=(st.h.get j).map fun _=>.dead:=fun j hj hn=>by rw[Mc,ar hj];simp only[hn,if_false]
  have az:(⟨sP st.h [i] st.n,st.n,[]⟩:St).row i=St.row {st with w:=[]} i:=Ye1 hk;cases op<;>simp only[TH,reduceCtorEq]at hl;case load k x=>
   split at hl
   ·rename_i i' o hx
    simp only[aq]at hl;subst hl
    simp only[cC,Jb,hx]at hm ⊢
    split at hm
    ·rename_i c e rQ hr
     split at hm
     ·rename_i u hu
      simp only[aq,bB]at hm
      obtain⟨rfl,rfl⟩:=hm
      refine⟨⟨sP st.h [i'] st.n,st.n,[]⟩,⟨sP st.h [i'] st.n,st.n,[]⟩,rfl,rfl,?_,rfl,rfl,fun j _ hj=>?_,fun j hj hn=>hd j hj hn,fun j hj=>?_,fun j hj=>by simp at hj⟩
      ·rw[az,hr];simp only[hu]
      ·simp only[FP.dG,uv]at hj;subst hj;exact hk
      ·rcases hj with⟨hj,_⟩|⟨h1,h2⟩
       ·simp only[FP.dG,uv]at hj;subst hj;exact hk
       ·simp only at h2;omega
     ·cases hm
    ·cases hm
   ·cases hl
  case store k x y=>
   split at hl
   ·rename_i i' o hx
    simp only[aq]at hl;subst hl
    simp only[cC,Gx,hx]at hm ⊢
    split at hm
    ·rename_i i2 o2 u zn hu
     simp only[aq,V.ptr.injEq]at zn
     obtain⟨rfl,rfl⟩:=zn
     split at hm
     ·rename_i c e hr
      split at hm
      ·rename_i hc
       simp only[aq,bB]at hm
       obtain⟨rfl,rfl⟩:=hm
       refine⟨⟨sP st.h [i'] st.n,st.n,[]⟩,St.write ⟨sP st.h [i'] st.n,st.n,[]⟩ i' (.cells (ag c o u.cells) e true),rfl,rfl,?_,rfl,rfl,fun j _ hj=>?_,fun j hj hn=>hd j hj hn,fun j hj=>?_,fun j hj=>?_⟩
       ·rw[az,hr]
        simp only[ar hc]
       ·simp only[FP.dG,uv]at hj;subst hj;exact hk
       ·rcases hj with⟨hj,_⟩|⟨h1,h2⟩
        ·simp only[FP.dG,uv]at hj;subst hj
         simp only[St.write,T.ae,if_true]
        ·simp only[St.write]at h2;omega
       ·simpa[FP.dG,St.write]using hj
      ·cases hm
     ·cases hm
    ·cases hm
   ·cases hl
end
structure Inv (P:Program) (μ:Mu) (w:World) (aJ:Nat->St) (bs:Nat->Fr) (bf:Nat->FP) (ds:Nat->Option Nat) (N:Nat) (W:List Nat) (S:Nat->Bool) (μ':Mu) (a':Act) (w':World):Prop where
 ext:∀j,j<(aJ 0).n->μ' j=μ j
 dt:∀j l,μ' j=some l->(j<(aJ 0).n\/∃k,k<N/\S k=true/\(aJ k).n<=j/\j<(aJ (k+1)).n)/\l.b<w'.heap.size
 full:∀k,k<N->S k=true->∀j,(aJ k).n<=j->j<(aJ (k+1)).n->∃l,μ' j=some l
 obj:∀j l,μ' j=some l->∃o,kM aJ bf S N j=some o/\OM P μ' w' o l
 inj:∀i j l l' o o',μ' i=some l->μ' j=some l'->i≠j->kM aJ bf S N i=some o->kM aJ bf S N j=some o'->o.wr=true->o'.live=true->l.b≠l'.b
 xe:a'.tmps.size=(bs 0).n/\∀t v,xc bs ds S N t=some v->∃x,a'.tmps[t]?=some x/\VR μ' v x
 defs:qJ μ' (bs 0).marks a'.defers
 eF:Og μ W w w'
 new:∀i l,(aJ 0).n<=i->μ' i=some l->w.heap.size<=l.b\/∃j∈W,j<(aJ 0).n/\∃lj oj,μ j=some lj/\lj.b=l.b/\(aJ 0).h.get j=some oj/\oj.wr=true
structure Ord (bf:Nat->FP) (mo:Nat->dK) (N:Nat) (mR:Nat->Nat->Prop):Prop where
 free:∀i k,i<k->k<N->mR k i\/FP.free (bf i) (bf k)=true
 tmp:∀i k,i<k->k<N->mR k i\/Tq (mo i) (mo k)=true
section
variable {P:Program} {μ μ':Mu} {w w':World} {aJ:Nat->St} {bs:Nat->Fr} {bf:Nat->FP} {ds:Nat->Option Nat} {S:Nat->Bool} {N:Nat} {W:List Nat} {a a':Act} {mo:Nat->dK} {mR:Nat->Nat->Prop}
def w_.mono(T:w_ P μ aJ bs bf N):∀{i k:Nat},i<=k->k<=N->(aJ i).n<=(aJ k).n
 |i,0,h,_=>by rw[Nat.le_zero.1 h];exact aO _
 |i,k+1,h,hk=>by
  by_cases e:i=k+1
  ·rw[e];exact aO _
  ·exact j_ (T.mono (i:=i) (k:=k) (by omega) (by omega)) (T.iG k (by omega))
def UA{a b:FP}(h:FP.free a b=true):(∀j∈a.wr,¬b.dG j)/\(∀j∈a.wr,j∉b.wr)/\(∀j∈b.wr,¬a.dG j)/\∀j∈b.wr,¬(a.lo<=j/\j<a.hi):=by
 unfold FP.free at h;simp only[I3,Bool.or_eq_false_iff]at h;obtain⟨⟨⟨h1,h2⟩,h3⟩,h4⟩:=h;have key:∀(l:List Nat) (o:Option (List Nat)),ED l o=false->∀j∈l,¬(match o with|none=>True|some q=>j∈q):=by
  intro l o h j hj;cases o with
  |none=> simp only[ED,Bool.not_eq_false',List.isEmpty_iff]at h;subst h;simp at hj
  |some q=> simp only[ED,List.any_eq_false,Ty]at h;exact h j hj
 refine⟨fun j hj=>?_,fun j hj=>?_,fun j hj=>?_,fun j hj=>?_⟩
 ·have:=key _ _ h1 j hj;unfold FP.dG;exact this
 ·exact key _ _ h2 j hj
 ·have:=key _ _ h3 j hj;unfold FP.dG;exact this
 simp only[List.any_eq_false]at h4;have:=h4 j hj;intro hc;apply this;simp[Nat.ble_eq,Nat.blt_eq,hc.1,hc.2]
def Ybe(T:w_ P μ aJ bs bf N)(I:Inv P μ w aJ bs bf ds N W S μ' a' w')(Or:Ord bf mo N mR)(cX:∀k,S k=true->∀i,mR k i->S i=true){i:Nat}(hi:i<N)(hS:S i=false)(hb:∀j,mR i j->S j=true)
  {j:Nat} {l:L} (hj:μ' j=some l) (aC:j<(aJ i).n) (hs:(bf i).dG j):
  (∀k,k<i->xz aJ bf k j->S k=true)/\(∀k,i<=k->k<N->xz aJ bf k j->S k=false):=by
 refine⟨fun k hk ht=>?_,fun k hk Fh ht=>?_⟩
 ·rcases ht with ht|⟨h1,h2⟩
  ·rcases Or.free k i hk hi with h|h
   ·exact hb k h
   exact absurd hs ((UA h).1 j ht)
  rcases(I.dt j l hj).1 with h0|⟨k',h3,h4,h5,h6⟩
  ·have:=T.mono (i:=0) (k:=k) (by omega) (by omega);omega
  have:k'=k:=by
   rcases Nat.lt_trichotomy k k' with h|h|h
   ·have:=T.mono (i:=k+1) (k:=k') (by omega) (by omega);omega
   ·exact h.symm
   have:=T.mono (i:=k'+1) (k:=k) (by omega) (by omega);omega
  subst this;exact h4
 by_cases e:k=i
 ·rw[e];exact hS
 rcases ht with ht|⟨h1,h2⟩
 ·rcases Or.free i k (by omega) Fh with h|h
  ·cases hq:S k with
   |false=>rfl
   |true=>rw[cX k hq i h]at hS;cases hS
  exact absurd hs ((UA h).2.2.1 j ht)
 have:=T.mono (i:=i) (k:=k) hk (by omega);omega
def Zv4(T:w_ P μ aJ bs bf N)(Or:Ord bf mo N mR)(cX:∀k,S k=true->∀i,mR k i->S i=true){i:Nat}(hi:i<N)(hS:S i=false)
  {j:Nat} (ht:xz aJ bf i j):∀k,i<k->k<N->xz aJ bf k j->S k=false:=by
 intro k hk Fh kc;have PQ:=Or.free i k hk Fh;have PR:mR k i->S k=false:=fun h=>by
  cases hq:S k with
  |false=>rfl
  |true=>rw[cX k hq i h]at hS;cases hS
 rcases PQ with h|h
 ·exact PR h
 exfalso;have hm:=T.mono (i:=i+1) (k:=k) (by omega) (by omega);have jD:=T.iG i hi;rcases ht with ht|⟨h1,h2⟩
 ·rcases kc with kc|⟨h3,h4⟩
  ·exact(UA h).2.1 j ht kc
  have:=T.wlt i hi j ht;omega
 rcases kc with kc|⟨h3,h4⟩
 ·refine(UA h).2.2.2 j kc ⟨?_,?_⟩
  ·rw[T.lo i hi];exact h1
  rw[T.hi i hi];exact h2
 omega
def Zpm{d:Option Nat}{l:List Nat}(h:On d l=false):∀t,d=some t->t∉l:=by intro t ht hm;subst ht;simp only[On]at h;have:l.contains t=true:=Ty.2 hm;rw[this]at h;cases h
def Zkx{a b:dK}(h:Tq a b=true):(∀t,a.dst=some t->t∉b.reads)/\(∀t,b.dst=some t->t∉a.reads)/\∀t,a.dst=some t->b.dst≠some t:=by unfold Tq at h;simp only[I3,Bool.or_eq_false_iff]at h;obtain⟨⟨h1,h2⟩,h3⟩:=h;exact⟨Zpm h1,Zpm h2,fun t ht hb=>Zpm h3 t ht (by rw[hb];simp)⟩
def Ybh(Or:Ord bf mo N mR)(cX:∀k,S k=true->∀i,mR k i->S i=true)(ry:∀k,k<N->ds k=(mo k).dst){i:Nat}(hi:i<N)(hS:S i=false)(hb:∀j,mR i j->S j=true)
  {t:Nat} (ht:t∈(mo i).reads):(∀k,k<i->ds k=some t->S k=true)/\(∀k,i<=k->k<N->ds k=some t->S k=false):=by
 refine⟨fun k hk hd=>?_,fun k hk Fh hd=>?_⟩
 ·rcases Or.tmp k i hk hi with h|h
  ·exact hb k h
  rw[ry k (by omega)]at hd;exact absurd ht ((Zkx h).1 t hd)
 by_cases e:k=i
 ·rw[e];exact hS
 rcases Or.tmp i k (by omega) Fh with h|h
 ·cases hq:S k with
  |false=>rfl
  |true=>rw[cX k hq i h]at hS;cases hS
 rw[ry k Fh]at hd;exact absurd ht ((Zkx h).2.1 t hd)
def Yht(Or:Ord bf mo N mR)(cX:∀k,S k=true->∀i,mR k i->S i=true)(ry:∀k,k<N->ds k=(mo k).dst){i:Nat}(hi:i<N)(hS:S i=false)
  {t:Nat} (ht:ds i=some t):∀k,i<k->k<N->ds k=some t->S k=false:=by
 intro k hk Fh hd;rcases Or.tmp i k hk Fh with h|h
 ·cases hq:S k with
  |false=>rfl
  |true=>rw[cX k hq i h]at hS;cases hS
 rw[ry i hi]at ht;rw[ry k Fh]at hd;exact absurd hd ((Zkx h).2.2 t ht)
end
section
variable {P:Program} {μ μ':Mu} {w w':World} {aJ:Nat->St} {bs:Nat->Fr} {bf:Nat->FP} {ds:Nat->Option Nat} {S:Nat->Bool} {N:Nat} {W:List Nat} {a a':Act} {mo:Nat->dK} {mR:Nat->Nat->Prop}
def BF(μ':Mu)(n:Nat):Mu:=fun j=>if j<n then μ' j else none
def OD{n j:Nat}(h:j<n):BF μ' n j=μ' j:=ar h
def Hf{n j:Nat}{l:L}(h:BF μ' n j=some l):j<n/\μ' j=some l:=by
 unfold BF at h;split at h
 ·exact⟨by assumption,h⟩
 cases h
def Yic(h0:bn P μ w (aJ 0))(T:w_ P μ aJ bs bf N)(I:Inv P μ w aJ bs bf ds N W S μ' a' w')(Or:Ord bf mo N mR)(cX:∀k,S k=true->∀i,mR k i->S i=true){i:Nat}(hi:i<N)(hS:S i=false)(hb:∀j,mR i j->S j=true)
  {σ:St} (hn:σ.n=(aJ i).n) (hs:∀j,j<(aJ i).n->(bf i).dG j->σ.h.get j=(aJ i).h.get j) (hd:∀j,j<(aJ i).n->¬(bf i).dG j->σ.h.get j=((aJ i).h.get j).map fun _=>.dead):
  bn P (BF μ' (aJ i).n) w' σ/\∀j l,μ' j=some l->j<(aJ i).n->(bf i).dG j->σ.h.get j=kM aJ bf S N j:=by
 have kL:∀j l,μ' j=some l->j<(aJ i).n->(bf i).dG j->kM aJ bf S N j=(aJ i).h.get j:=fun j l hj aC zN=>by obtain⟨h1,h2⟩:=Ybe T I Or cX hi hS hb hj aC zN;rw[TR (i:=i) (by omega) h2,Zs8 T (by omega) aC h1]
 have xA:∀j l,μ' j=some l->j<(aJ i).n->(bf i).dG j->σ.h.get j=kM aJ bf S N j:=fun j l hj aC zN=>by rw[hs j aC zN,kL j l hj aC zN]
 have hold:∀j l,μ' j=some l->j<(aJ 0).n->∃l,μ j=some l:=fun j l hj h0=>⟨l,by rw[<-I.ext j h0];exact hj⟩;refine⟨⟨fun j l hj=>?_,fun j l hj=>?_,fun j k lj lk oj ok hj hk aW h1 h2 hw hl=>?_,fun g hg=>?_⟩,xA⟩
 ·obtain⟨h1,h2⟩:=Hf hj;exact⟨by omega,(I.dt j l h2).2⟩
 ·obtain⟨h1,h2⟩:=Hf hj;obtain⟨o,μT,wT,lT,t1,t2,t3⟩:=T.sch i (by omega) j (hold j l h2) h1;by_cases zN:(bf i).dG j
  ·obtain⟨o',q1,q2⟩:=I.obj j l h2;rw[kL j l h2 h1 zN,t1,aq]at q1;subst q1;exact⟨o,by rw[hs j h1 zN,t1],OM.cut (n:=(aJ i).n) (fun k lk hk kc=>by rw[OD hk];exact kc) t3 t2 q2⟩
  exact⟨.dead,by rw[hd j h1 zN,t1];rfl,trivial⟩
 ·obtain⟨a1,a2⟩:=Hf hj;obtain⟨b1,b2⟩:=Hf hk;have sj:(bf i).dG j:=Classical.byContradiction fun hn=>by rw[hd j a1 hn]at h1;cases hq:(aJ i).h.get j<;>rw[hq]at h1<;>simp at h1;subst h1;simp[O.wr]at hw
  have sk:(bf i).dG k:=Classical.byContradiction fun hn=>by rw[hd k b1 hn]at h2;cases hq:(aJ i).h.get k<;>rw[hq]at h2<;>simp at h2;subst h2;simp[O.live]at hl
  exact I.inj j k lj lk oj ok a2 b2 aW (by rw[<-xA j lj a2 a1 sj];exact h1) (by rw[<-xA k lk b2 b1 sk];exact h2) hw hl
 obtain⟨t,ht⟩:=h0.iN g hg;have ui:=(h0.dt g _ ht).1;have:=T.mono (i:=0) (k:=i) (by omega) (by omega);exact⟨t,by rw[OD (by omega),I.ext g ui];exact ht⟩
def Ymw(T:w_ P μ aJ bs bf N){vI:Nat->V}(Pu:Jv bs ds vI N)(I:Inv P μ w aJ bs bf ds N W S μ' a' w')(Or:Ord bf mo N mR)(cX:∀k,S k=true->∀i,mR k i->S i=true)(ry:∀k,k<N->ds k=(mo k).dst)
  {i:Nat} (hi:i<N) (hS:S i=false) (hb:∀j,mR i j->S j=true):
  RR (BF μ' (aJ i).n) (BG (bs i).r (mo i).reads) (bs 0).n a'.tmps:=by
 refine⟨I.xe.1,fun t v hv=>?_⟩;rw[Ox]at hv;split at hv
 ·rename_i ht;obtain⟨h1,h2⟩:=Ybh Or cX ry hi hS hb ht;have hc:xc bs ds S N t=some v:=by rw[TS (i:=i) (by omega) h2,Zs7 Pu (by omega) h1];exact hv
  obtain⟨x,hx,hr⟩:=I.xe.2 t v hc;exact⟨x,hx,VR.cut (n:=(aJ i).n) (fun k lk hk kc=>by rw[OD hk];exact kc) v x (T.scr i (by omega) t v hv) hr⟩
 cases hv
def Hg(μ' μ2:Mu)(n n':Nat):Mu:=fun j=>if j<n then μ' j else if j<n' then μ2 j else μ' j
def w_.Hh(T:w_ P μ aJ bs bf N):∀{i j:Nat} {o':O},i<=N->j<(aJ 0).n->(aJ i).h.get j=some o'->o'.wr=true->∃o,(aJ 0).h.get j=some o/\o.wr=true
 |0,j,o',_,_,h,hw=>⟨o',h,hw⟩
 |i+1,j,o',hi,hj,h,hw=>by
  have:=T.mono (i:=0) (k:=i) (by omega) (by omega)
  obtain⟨o,h1,h2,_⟩:=T.grow i (by omega) j o' (by omega) h
  exact T.Hh (by omega) hj h1 (h2 hw)
def Zzy(h0:bn P μ w (aJ 0))(T:w_ P μ aJ bs bf N){vI:Nat->V}(Pu:Jv bs ds vI N)(I:Inv P μ w aJ bs bf ds N W S μ' a' w')(Or:Ord bf mo N mR)(cX:∀k,S k=true->∀i,mR k i->S i=true)
  (ry:∀k,k<N->ds k=(mo k).dst) (hW:∀k,k<N->∀j∈(bf k).wr,j∈W) {i:Nat} (hi:i<N) (hS:S i=false) (zH:∀d,ds i=some d->d<(bs 0).n)
  {σ σ':St} {μ2:Mu} {w2:World} {ws:List Nat} {x:Value} (uK:bn P (BF μ' (aJ i).n) w' σ) (kL:∀j l,μ' j=some l->j<(aJ i).n->(bf i).dG j->σ.h.get j=kM aJ bf S N j)
  (hn:σ.n=(aJ i).n) (tV:σ'.n=(aJ (i+1)).n) (eM:bI P (BF μ' (aJ i).n) w' σ μ2 w2 σ' ws) (re:∀j,j<(aJ i).n->(j∈ws↔j∈(bf i).wr)) (xb:∀j∈ws,(bf i).dG j)
  (cZ:∀j,((bf i).dG j/\j<(aJ i).n)\/((aJ i).n<=j/\j<(aJ (i+1)).n)->σ'.h.get j=(aJ (i+1)).h.get j) (hx:VR μ2 (vI i) x):
  Inv P μ w aJ bs bf ds N W (nJ S i) (Hg μ' μ2 (aJ i).n (aJ (i+1)).n) (a'.put (ds i) x) w2:=by
 have hle:=T.iG i hi;have zbz:=T.mono (i:=0) (k:=i) (by omega) (by omega);have B7:∀j l,μ' j=some l->¬((aJ i).n<=j/\j<(aJ (i+1)).n):=fun j l hj hc=>by
  rcases(I.dt j l hj).1 with h|⟨k,h3,h4,h5,h6⟩
  ·omega
  have hk:k=i:=by
   rcases Nat.lt_trichotomy k i with h|h|h
   ·have:=T.mono (i:=k+1) (k:=i) (by omega) (by omega);omega
   ·exact h
   have:=T.mono (i:=i+1) (k:=k) (by omega) (by omega);omega
  subst hk;rw[hS]at h4;cases h4
 have JU:∀j,j<(aJ i).n->μ2 j=μ' j:=fun j hj=>by rw[eM.ext j (by omega),OD hj]
 have Fi:∀j l,μ' j=some l->Hg μ' μ2 (aJ i).n (aJ (i+1)).n j=some l:=fun j l hj=>by
  unfold Hg;by_cases e1:j<(aJ i).n
  ·rw[ar e1];exact hj
  by_cases e2:j<(aJ (i+1)).n
  ·exact absurd ⟨by omega,e2⟩ (B7 j l hj)
  rw[ak e1,ak e2];exact hj
 have Fj:∀j l,μ2 j=some l->Hg μ' μ2 (aJ i).n (aJ (i+1)).n j=some l:=fun j l hj=>by
  have hd:=(eM.hr.dt j l hj).1;unfold Hg;by_cases e1:j<(aJ i).n
  ·rw[ar e1,<-JU j e1];exact hj
  rw[ak e1,ar (by omega)];exact hj
 have hinv:∀j l,Hg μ' μ2 (aJ i).n (aJ (i+1)).n j=some l->(μ' j=some l)\/((aJ i).n<=j/\j<(aJ (i+1)).n/\μ2 j=some l):=fun j l hj=>by
  unfold Hg at hj;split at hj
  ·exact .inl hj
  split at hj
  ·exact .inr ⟨by omega,by assumption,hj⟩
  exact .inl hj
 have xB:∀j,xz aJ bf i j->kM aJ bf (nJ S i) N j=(aJ (i+1)).h.get j:=fun j ht=>Yih hi ht (Zv4 T Or cX hi hS ht);have told:∀j l,μ' j=some l->¬j∈(bf i).wr->kM aJ bf (nJ S i) N j=kM aJ bf S N j:=fun j l hj hnw=>Zi3 fun h=>h.elim hnw fun h=>B7 j l hj h;have JV:∀j l o',μ' j=some l->kM aJ bf (nJ S i) N j=some o'->∃o,kM aJ bf S N j=some o/\(o'.wr=true->o.wr=true)/\(o'.live=true->o.live=true):=fun j l o' hj ho=>by
  by_cases hw:j∈(bf i).wr
  ·have aC:=T.wlt i hi j hw;have zN:=xb j ((re j aC).2 hw);rw[xB j (.inl hw),<-cZ j (.inl ⟨zN,aC⟩)]at ho;obtain⟨o,q1,q2,q3⟩:=eM.grow j o' (by omega) ho;exact⟨o,by rw[<-kL j l hj aC zN];exact q1,q2,q3⟩
  rw[told j l hj hw]at ho;exact⟨o',ho,id,id⟩
 have cwr:∀j∈ws,∀lj,BF μ' (aJ i).n j=some lj->∃o,kM aJ bf S N j=some o/\o.wr=true:=fun j hj lj vJ=>by obtain⟨h1,h2⟩:=Hf vJ;obtain⟨o,q1,q2⟩:=eM.Ai j hj (by omega);exact⟨o,by rw[<-kL j lj h2 h1 (xb j hj)];exact q1,q2⟩
 have PS:∀j l,(aJ i).n<=j->μ2 j=some l->w'.heap.size<=l.b\/∃k lk,k∈ws/\k<(aJ i).n/\μ' k=some lk/\lk.b=l.b/\∃o,kM aJ bf S N k=some o/\o.wr=true:=fun j l hj hl=>by
  rcases eM.new j l (by omega) hl with h|⟨k,hk,Ae,lk,ok,h1,h2,h3,h4⟩
  ·exact .inl h
  obtain⟨_,q2⟩:=Hf h1;exact .inr ⟨k,lk,hk,by omega,q2,h2,cwr k hk lk h1⟩
 refine⟨fun j hj=>?_,fun j l hj=>?_,fun k hk hSk j h1 h2=>?_,fun j l hj=>?_,fun j k lj lk oj ok hj hk aW h1 h2 hw hl=>?_,⟨?_,fun t v hv=>?_⟩,?_,?_,fun j l B8 hj=>?_⟩
 ·-- ext
  unfold Hg;rw[ar (by omega)];exact I.ext j hj
 ·-- dt
  rcases hinv j l hj with h|⟨h1,h2,h3⟩
  ·obtain⟨d1,d2⟩:=I.dt j l h;refine⟨d1.imp id fun ⟨k,q1,q2,q3⟩=>⟨k,q1,?_,q3⟩,fm d2 eM.eF.size⟩;simp only[nJ];split<;>first|rfl|exact q2
  exact⟨.inr ⟨i,hi,by simp[nJ],h1,h2⟩,(eM.hr.dt j l h3).2⟩
 ·-- full
  by_cases e:k=i
  ·subst e;obtain⟨l,hl⟩:=eM.full j (by omega) (by omega);exact⟨l,Fj j l hl⟩
  simp only[nJ,e,if_false]at hSk;obtain⟨l,hl⟩:=I.full k hk hSk j h1 h2;exact⟨l,Fi j l hl⟩
 ·-- obj
  rcases hinv j l hj with h|⟨h1,h2,h3⟩
  ·by_cases hw:j∈(bf i).wr
   ·have aC:=T.wlt i hi j hw;have zN:=xb j ((re j aC).2 hw);obtain⟨o,q1,q2⟩:=eM.hr.obj j l (by rw[JU j aC];exact h);exact⟨o,by rw[xB j (.inl hw),<-cZ j (.inl ⟨zN,aC⟩)];exact q1,q2.mono Fj⟩
   obtain⟨o,q1,q2⟩:=I.obj j l h;refine⟨o,by rw[told j l h hw];exact q1,?_⟩;cases hl:o.live with
   |false=>cases o<;>simp[O.live]at hl;trivial
   |true=> refine(q2.mono Fi).congr (eM.eF.block l.b (I.dt j l h).2 fun k hk lk fl=>?_);obtain⟨q3,q4⟩:=Hf fl;obtain⟨ok,q5,q6⟩:=cwr k hk lk fl;exact I.inj k j lk l ok o q4 h (fun hc=>hw (by rw[<-hc];exact(re k q3).1 hk)) q5 q1 q6 hl
  obtain⟨o,q1,q2⟩:=eM.hr.obj j l h3;exact⟨o,by rw[xB j (.inr ⟨h1,h2⟩),<-cZ j (.inr ⟨h1,h2⟩)];exact q1,q2.mono Fj⟩
 ·-- inj
  have Hi:∀j k lj lk oj ok,(aJ i).n<=j->j<(aJ (i+1)).n->μ2 j=some lj->μ' k=some lk->kM aJ bf (nJ S i) N j=some oj->kM aJ bf (nJ S i) N k=some ok->((oj.wr=true/\ok.live=true)\/(ok.wr=true/\oj.live=true))->lj.b≠lk.b:=by
   intro j k lj lk oj ok tP pE hj3 hk IT oe Hj;have Fk:ok.live=true:=by
    rcases Hj with h|h
    ·exact h.2
    have:=h.1;cases ok<;>simp_all [O.wr,O.live]
   rcases PS j lj tP hj3 with h|⟨q,lq,h1,h2,h3,h4,o,h5,h6⟩
   ·have:=(I.dt k lk hk).2;omega
   rw[<-h4];by_cases e:q=k
   ·subst e;rw[h3,aq]at hk;subst hk;have hwq:=(re q h2).1 h1;rw[xB j (.inr ⟨tP,pE⟩),<-cZ j (.inr ⟨tP,pE⟩)]at IT;rw[xB q (.inl hwq),<-cZ q (.inl ⟨xb q h1,h2⟩)]at oe;have nL:μ2 q=some lq:=by rw[JU q h2];exact h3
    exfalso;rcases Hj with hb|hb
    ·exact eM.hr.inj j q lj lq oj ok hj3 nL (by omega) IT oe hb.1 hb.2 h4.symm
    exact eM.hr.inj q j lq lj ok oj nL hj3 (by omega) oe IT hb.1 hb.2 h4
   obtain⟨PT,g1,g2,g3⟩:=JV k lk ok hk oe;exact I.inj q k lq lk o PT h3 hk e h5 g1 h6 (g3 Fk)
  rcases hinv j lj hj with Oh|⟨a1,a2,a3⟩
  ·rcases hinv k lk hk with iD|⟨b1,b2,b3⟩
   ·obtain⟨oj0,g1,g2,g3⟩:=JV j lj oj Oh h1;obtain⟨PT,g4,g5,g6⟩:=JV k lk ok iD h2;exact I.inj j k lj lk oj0 PT Oh iD aW g1 g4 (g2 hw) (g6 hl)
   exact(Hi k j lk lj ok oj b1 b2 b3 Oh h2 h1 (.inr ⟨hw,hl⟩)).symm
  rcases hinv k lk hk with iD|⟨b1,b2,b3⟩
  ·exact Hi j k lj lk oj ok a1 a2 a3 iD h1 h2 (.inl ⟨hw,hl⟩)
  rw[xB j (.inr ⟨a1,a2⟩),<-cZ j (.inr ⟨a1,a2⟩)]at h1;rw[xB k (.inr ⟨b1,b2⟩),<-cZ k (.inr ⟨b1,b2⟩)]at h2;exact eM.hr.inj j k lj lk oj ok a3 b3 aW h1 h2 hw hl
 ·-- the temporaries' count
  cases hd:ds i<;>simp[Act.put,I.xe.1]
 ·-- the temporaries
  by_cases ht:ds i=some t
  ·rw[Yig Pu hi ht (Yht Or cX ry hi hS ht),aq]at hv;subst hv;refine⟨x,?_,VR.mono Fj _ _ hx⟩;rw[ht];simp[Act.put,I.xe.1,zH t ht]
  rw[Zi2 ht]at hv;obtain⟨y,q1,q2⟩:=I.xe.2 t v hv;refine⟨y,?_,VR.mono Fi _ _ q2⟩;cases hd:ds i with
  |none=>simpa[Act.put]using q1
  |some d=> have:d≠t:=fun hc=>ht (by rw[hd,hc]);simp only[Act.put];rw[Tr this];exact q1
 ·-- the marks
  have:(a'.put (ds i) x).defers=a'.defers:=by cases ds i<;>rfl
  rw[this];exact I.defs.mono Fi
 ·-- the frame
  refine⟨eM.eF.os.trans I.eF.os,eM.eF.tape.trans I.eF.tape,eM.eF.output.trans I.eF.output,j_ I.eF.size eM.eF.size,fun b hb dM=>?_⟩;rw[eM.eF.block b (fm hb I.eF.size) fun j hj lj vJ=>?_,I.eF.block b hb dM];obtain⟨q1,q2⟩:=Hf vJ;by_cases e:j<(aJ 0).n
  ·exact dM j (hW i hi j ((re j q1).1 hj)) lj (by rw[<-I.ext j e];exact q2)
  rcases I.new j lj (by omega) q2 with h|⟨k,hk,_,lk,_,h3,h4,_⟩
  ·omega
  rw[<-h4];exact dM k hk lk h3
 -- new ids
 rcases hinv j l hj with h|⟨h1,h2,h3⟩
 ·exact I.new j l B8 h
 rcases PS j l h1 h3 with h|⟨q,lq,q1,q2,q3,q4,o,q5,q6⟩
 ·exact .inl (j_ I.eF.size h)
 by_cases e:q<(aJ 0).n
 ·have hqW:=hW i hi q ((re q q2).1 q1);obtain⟨oi,g1,g2⟩:=T.Ai i hi q ((re q q2).1 q1);obtain⟨o0,g3,g4⟩:=T.Hh (by omega) e g1 g2;exact .inr ⟨q,hqW,e,lq,o0,by rw[<-I.ext q e];exact q3,q4,g3,g4⟩
 rcases I.new q lq (by omega) q3 with h|⟨k,hk,g1,lk,ok,g2,g3,g4⟩
 ·exact .inl (by omega)
 exact .inr ⟨k,hk,g1,lk,ok,g2,g3.trans q4,g4⟩
end
end Go.Mx
