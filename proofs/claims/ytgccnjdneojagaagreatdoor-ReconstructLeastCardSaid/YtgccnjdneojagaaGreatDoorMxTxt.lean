/-A region that draws its order-/
import Derived.Test.YtgccnjdneojagaaGreatDoorMxFun
set_option linter.all false
namespace Go.Mx
open Go
section
variable {P:Program} {μ:Mu} {w:World} {st aB:St} {fr bJ:Fr} {a:Act} {call:cO} {v:V} {lb:Option Nat}
def Yzr(cv:kI P call)(hE:wj P)(hh:bp P μ w st)(hf:oK μ fr a){o:Oper}(h:cH (Bw P o.op) call fr.r st=some (v,aB)):∃x w' μ' ws,VR μ' v x/\bL P μ w st μ' w' aB ws:=by
 have hwp:=Ysv (lb:=none) (Q:=fun _ _ _=>False) (K:=fun _ _=>∃x w' μ' ws,VR μ' v x/\bL P μ w st μ' w' aB ws) cv hE hh hf h (fun x w' μ' ws h1 h2=>⟨x,w',μ',ws,h1,h2⟩);obtain⟨_,hu⟩:=hwp;generalize (o.semAt (FE none).round a.eval).run P w=res at hu;cases res with
 |halt x w'=>cases x<;>simp only[Oper.uponIn]at hu
 |ok x w'=>
  cases x<;>simp only[Oper.uponIn]at hu;case value=>exact hu
  case skip=>exact hu
  case defer=>exact hu
  case enter f args=>
   obtain⟨e,w',fr,hR,_⟩:=hu.2.2 [] (fun d hd=>by simp[Fence.wide]at hd)
   cases e with
   |returned v=>exact hR
   |panicked c=>exact hR.elim
   |outgrown=>obtain⟨_,_,hq⟩:=hR;exact hq.elim
  case row r args=>
   obtain⟨v',w',hR,_⟩:=hu.2 default [] (fun d hd=>by simp[Fence.wide]at hd)
   exact hR
  case round l f tmps gO gS=>
   obtain⟨e,w',hR,_⟩:=hu.2.2 default [] (fun d hd=>by simp[Fence.wide]at hd)
   cases e with
   |returned v=>exact hR
   |panicked c=>exact hR.elim
   |outgrown=>obtain⟨_,_,hq⟩:=hR;exact hq.elim
def BN(P:Program)(call:cO)(ops:Array Oper)(o:Oper)(st:St)(fr:Fr)(v:V)(f:FP)(b9:St)(eK:Fr):Prop:=
 ∃g b,IS ops o.guard=some g/\bZ fr.r g=some b/\fr.put o.dst v=some eK/\
  (b=true->∃s',cH (Bw P o.op) call fr.r {st with w:=[]}=some (v,s')/\b9={s' with w:=ay st.n s'.w++st.w}/\f=q8 fr.r (Bw P o.op) (ay st.n s'.w) st.n s'.n)/\
  (b=false->v=.aX []/\b9=st/\f=⟨some [],[],st.n,st.n⟩)
def Zvi{ops:Array Oper}:∀(os:List Oper) (fr:Fr) (st:St) (iR:List FP) (bJ:Fr) (aB:St),bP call (os.map (tr P ops)) fr st=some (iR,bJ,aB)->
  ∃(aL:Nat->St) (bB:Nat->Fr) (vI:Nat->V) (bh:Nat->FP),aL 0=st/\bB 0=fr/\aL os.length=aB/\bB os.length=bJ/\iR.length=os.length/\
   ∀i o,os[i]?=some o->iR[i]?=some (bh i)/\BN P call ops o (aL i) (bB i) (vI i) (bh i) (aL (i+1)) (bB (i+1))
 |[],fr,st,iR,bJ,aB,h=>by
  simp only[yZ,bP,Yg0,au,bD]at h
  obtain⟨rfl,rfl,rfl⟩:=h
  exact⟨fun _=>st,fun _=>fr,fun _=>.bM,fun _=>⟨none,[],0,0⟩,rfl,rfl,rfl,rfl,rfl,fun i o h=>by simp at h⟩
 |o::os,fr,st,iR,bJ,aB,h=>by
  simp only[pX,bP,Dr]at h
  have go:∀(v:V) (f:FP) (b9:St) (eK:Fr) (vZ:List FP),BN P call ops o st fr v f b9 eK->bP call (os.map (tr P ops)) eK b9=some (vZ,bJ,aB)->iR=f::vZ->
    ∃(aL:Nat->St) (bB:Nat->Fr) (vI:Nat->V) (bh:Nat->FP),aL 0=st/\bB 0=fr/\aL (o::os).length=aB/\bB (o::os).length=bJ/\iR.length=(o::os).length/\
     ∀i o',(o::os)[i]?=some o'->iR[i]?=some (bh i)/\BN P call ops o' (aL i) (bB i) (vI i) (bh i) (aL (i+1)) (bB (i+1)):=by
   intro v f b9 eK vZ hs hm hf
   obtain⟨aL,bB,vI,bh,h1,h2,h3,h4,h5,h6⟩:=Zvi os eK b9 vZ bJ aB hm
   refine⟨fun|0=>st|i+1=>aL i,fun|0=>fr|i+1=>bB i,fun|0=>v|i+1=>vI i,fun|0=>f|i+1=>bh i,rfl,rfl,h3,h4,by simp[hf,h5],fun i o' ho=>?_⟩
   cases i with
   |zero=>
    simp only[De,au]at ho
    subst ho
    refine⟨by simp[hf],?_⟩
    show BN P call ops o st fr v f (aL 0) (bB 0)
    rw[h1,h2];exact hs
   |succ i=>
    obtain⟨g1,g2⟩:=h6 i o' (by simpa using ho)
    exact⟨by simpa[hf]using g1,g2⟩
  unfold tr at h
  cases hg:IS ops o.guard with
  |none=>
   rw[hg]at h
   simp only[bZ,cH,Zxw]at h
   cases h
  |some g=>
   rw[hg]at h
   simp only at h
   cases hw:bZ fr.r g with
   |none=>rw[hw]at h;cases h
   |some b=>
    rw[hw]at h
    cases b with
    |true=>
     simp only at h
     split at h
     ·rename_i v1 s1 hm
      split at h
      ·rename_i eK hp
       split at h
       ·rename_i vZ A9 fi iU
        simp only[au,bD]at h
        obtain⟨rfl,rfl,rfl⟩:=h
        exact go v1 _ _ eK vZ ⟨g,true,hg,hw,hp,fun _=>⟨s1,hm,rfl,rfl⟩,fun hc=>by cases hc⟩ iU rfl
       ·cases h
      ·cases h
     ·cases h
    |false=>
     simp only at h
     split at h
     ·rename_i eK hp
      split at h
      ·rename_i vZ A9 fi iU
       simp only[au,bD]at h
       obtain⟨rfl,rfl,rfl⟩:=h
       exact go (.aX []) _ st eK vZ ⟨g,false,hg,hw,hp,(fun hc=>by cases hc),fun _=>⟨rfl,rfl,rfl⟩⟩ iU rfl
      ·cases h
     ·cases h
def Zyw{op:iz}{s':St}(hm:cH op call fr.r {st with w:=[]}=some (v,s'))(lo hi:Nat):(q8 fr.r op (ay st.n s'.w) lo hi).wr=ay st.n s'.w/\(q8 fr.r op (ay st.n s'.w) lo hi).lo=lo/\(q8 fr.r op (ay st.n s'.w) lo hi).hi=hi:=by
 unfold q8;split
 ·rename_i hs;rcases Zpb hs .nil [] hm with⟨h1,_⟩|⟨o,h1,_⟩
  ·subst h1;exact⟨rfl,rfl,rfl⟩
  subst h1;exact⟨rfl,rfl,rfl⟩
 split
 ·split<;>exact⟨rfl,rfl,rfl⟩
 exact⟨rfl,rfl,rfl⟩
def Yfl(cv:kI P call)(hE:wj P)(hh:bp P μ w st)(hf:oK μ fr a){ops:Array Oper}{o:Oper}{f:FP}{b9:St}{eK:Fr}(h:BN P call ops o st fr v f b9 eK):
  ∃w' μ' a',bL P μ w st μ' w' b9 f.wr/\oK μ' eK a'/\f.lo=st.n/\f.hi=b9.n:=by
 obtain⟨g,b,hg,hw,hp,ht,OG⟩:=h;cases b with
 |true=> obtain⟨s',hm,rfl,rfl⟩:=ht rfl;obtain⟨x,w',μ',ws,h1,h2⟩:=Yzr cv hE (hh.now []) hf hm;have h3:=h2.fold hh;obtain⟨e1,e2,e3⟩:=Zyw (call:=call) hm st.n s'.n;rw[e1,e2,e3];exact⟨w',μ',_,h3,(hf.mono (h3.mono hh)).put h1 hp,rfl,rfl⟩
 |false=> obtain⟨rfl,rfl,rfl⟩:=OG rfl;exact⟨w,μ,_,bL.refl hh,hf.put (v:=.aX []) (x:=undef) ⟨[],rfl,by simp[aY]⟩ hp,rfl,rfl⟩
structure xK (P:Program) (μ:Mu) (aL:Nat->St) (bB:Nat->Fr) (bh:Nat->FP) (N:Nat):Prop where
 ij:∀i,i<N->(aL i).n<=(aL (i+1)).n
 lo:∀i,i<N->(bh i).lo=(aL i).n
 hi:∀i,i<N->(bh i).hi=(aL (i+1)).n
 wl:∀i,i<N->(aL (i+1)).w=(bh i).wr++(aL i).w
 wlt:∀i,i<N->∀j∈(bh i).wr,j<(aL i).n
 ad:∀i,i<N->∀j,j<(aL i).n->j∉(bh i).wr->(aL (i+1)).h.get j=(aL i).h.get j
 grow:∀i,i<N->∀j o',j<(aL i).n->(aL (i+1)).h.get j=some o'->∃o,(aL i).h.get j=some o/\(o'.wr=true->o.wr=true)/\(o'.live=true->o.live=true)
 AF:∀i,i<N->∀j∈(bh i).wr,∃o,(aL i).h.get j=some o/\o.wr=true
 scr:∀i,i<=N->∀t v,(bB i).r.get t=some v->Sc (aL i).n v
 sch:∀i,i<=N->∀j,(j<(aL 0).n->∃l,μ j=some l)->j<(aL i).n->∃o μT wT lT,(aL i).h.get j=some o/\OM P μT wT o lT/\∀k l,μT k=some l->k<(aL i).n
 fn:∀i,i<=N->(bB i).n=(bB 0).n/\(bB i).marks=(bB 0).marks
def Ywd{ops:Array Oper}{o:Oper}{f:FP}{b9:St}{eK:Fr}(h:BN P call ops o st fr v f b9 eK):∀j∈f.wr,j<st.n:=by
 have key:∀(l:List Nat) (n j:Nat),j∈ay n l->j<n:=by
  intro l n j hj;induction l with
  |nil=>simp[ay]at hj
  |cons i l ih=>
   simp only[ay]at hj;split at hj
   ·unfold Ac at hj;split at hj
    ·exact ih hj
    simp only[ky]at hj;rcases hj with rfl|hj
    ·assumption
    exact ih hj
   exact ih hj
 obtain⟨g,b,hg,hw,hp,ht,OG⟩:=h;cases b with
 |true=> obtain⟨s',hm,rfl,rfl⟩:=ht rfl;rw[(Zyw (call:=call) hm _ _).1];exact key _ _
 |false=> obtain⟨rfl,rfl,rfl⟩:=OG rfl;intro j hj;simp at hj
def Yl3{d:Option Nat}(h:fr.put d v=some bJ):bJ.n=fr.n/\bJ.marks=fr.marks:=by
 cases d with
 |none=>simp only[Fr.put,au]at h;subst h;exact⟨rfl,rfl⟩
 |some d=>
  simp only[Fr.put]at h;split at h
  ·simp only[au]at h;subst h;exact⟨rfl,rfl⟩
  cases h
def Ybt(cv:kI P call)(hE:wj P){ops:Array Oper}{aL:Nat->St}{bB:Nat->Fr}{vI:Nat->V}{bh:Nat->FP}{N:Nat}{os:List Oper}(hN:os.length=N)
  (hh:bp P μ w (aL 0)) (hf:oK μ (bB 0) a) (hs:∀i o,os[i]?=some o->BN P call ops o (aL i) (bB i) (vI i) (bh i) (aL (i+1)) (bB (i+1))):
  ∀i,i<=N->∃w' μ' a' ws,bL P μ w (aL 0) μ' w' (aL i) ws/\oK μ' (bB i) a':=by
 intro i;induction i with
 |zero=>exact fun _=>⟨w,μ,a,[],bL.refl hh,hf⟩
 |succ i ih=> intro hi;obtain⟨w',μ',a',ws,h1,h2⟩:=ih (by omega);have ho:os[i]?=some (os[i]'(by omega)):=ct (by omega);obtain⟨w2,μ2,a2,h3,h4,_⟩:=Yfl cv hE h1.hr h2 (hs i _ ho);exact⟨w2,μ2,a2,_,h1.trans h3,h4⟩
def Ywj(cv:kI P call)(hE:wj P){ops:Array Oper}{aL:Nat->St}{bB:Nat->Fr}{vI:Nat->V}{bh:Nat->FP}{N:Nat}{os:List Oper}(hN:os.length=N)
  (hh:bp P μ w (aL 0)) (hf:oK μ (bB 0) a) (hs:∀i o,os[i]?=some o->BN P call ops o (aL i) (bB i) (vI i) (bh i) (aL (i+1)) (bB (i+1))):xK P μ aL bB bh N:=by
 have hch:=Ybt cv hE hN hh hf hs;have cZ:∀i,i<N->∃o,os[i]?=some o:=fun i hi=>⟨_,ct (by omega)⟩;have qi:∀i,i<N->∃w1 μ1 w2 μ2 a2,bL P μ1 w1 (aL i) μ2 w2 (aL (i+1)) (bh i).wr/\oK μ2 (bB (i+1)) a2/\(bh i).lo=(aL i).n/\(bh i).hi=(aL (i+1)).n:=fun i hi=>by obtain⟨w',μ',a',ws,h1,h2⟩:=hch i (by omega);obtain⟨o,ho⟩:=cZ i hi;obtain⟨w2,μ2,a2,h3,h4,h5,h6⟩:=Yfl cv hE h1.hr h2 (hs i o ho);exact⟨w',μ',w2,μ2,a2,h3,h4,h5,h6⟩
 refine⟨fun i hi=>?_,fun i hi=>?_,fun i hi=>?_,fun i hi=>?_,fun i hi=>?_,fun i hi=>?_,fun i hi=>?_,fun i hi=>?_,fun i hi t v hv=>?_,fun i hi j hj C3=>?_,fun i=>?_⟩
 ·obtain⟨_,_,_,_,_,h,_⟩:=qi i hi;exact h.ij
 ·obtain⟨_,_,_,_,_,_,_,h,_⟩:=qi i hi;exact h
 ·obtain⟨_,_,_,_,_,_,_,_,h⟩:=qi i hi;exact h
 ·obtain⟨_,_,_,_,_,h,_⟩:=qi i hi;exact h.wl
 ·obtain⟨o,ho⟩:=cZ i hi;exact Ywd (hs i o ho)
 ·obtain⟨_,_,_,_,_,h,_⟩:=qi i hi;exact h.ad
 ·obtain⟨_,_,_,_,_,h,_⟩:=qi i hi;exact h.grow
 ·obtain⟨o,ho⟩:=cZ i hi;obtain⟨_,_,_,_,_,h,_⟩:=qi i hi;exact fun j hj=>h.AF j hj (Ywd (hs i o ho) j hj)
 ·obtain⟨w',μ',a',ws,h1,h2⟩:=hch i hi;obtain⟨x,_,hx⟩:=h2.1.2 t v hv;exact VR.sc (fun k l hk=>(h1.hr.dq k l hk).1) v x hx
 ·obtain⟨w',μ',a',ws,h1,h2⟩:=hch i hi;have hl:∃l,μ' j=some l:=by
   by_cases h0:j<(aL 0).n
   ·obtain⟨l,hl⟩:=hj h0;exact⟨l,(h1.ext j h0).trans hl⟩
   exact h1.full j (by omega) C3
  obtain⟨l,hl⟩:=hl;obtain⟨o,Dd,zX⟩:=h1.hr.obj j l hl;exact⟨o,μ',w',l,Dd,zX,fun k l hk=>(h1.hr.dq k l hk).1⟩
 induction i with
 |zero=>exact fun _=>⟨rfl,rfl⟩
 |succ i ih=> intro hi;obtain⟨o,ho⟩:=cZ i (by omega);obtain⟨g,b,_,_,hp,_⟩:=hs i o ho;obtain⟨e1,e2⟩:=Yl3 hp;obtain⟨f1,f2⟩:=ih (by omega);exact⟨e1.trans f1,e2.trans f2⟩
end
def xX(aL:Nat->St)(bh:Nat->FP)(k j:Nat):Prop:=j∈(bh k).wr\/((aL k).n<=j/\j<(aL (k+1)).n)
instance (aL:Nat->St) (bh:Nat->FP) (k j:Nat):Decidable (xX aL bh k j):=by unfold xX;infer_instance
def lI(aL:Nat->St)(bh:Nat->FP)(S:Nat->Bool):Nat->Nat->Option O
 |0,j=>(aL 0).h.get j
 |k+1,j=>if S k=true/\xX aL bh k j then (aL (k+1)).h.get j else lI aL bh S k j
def xM(bB:Nat->Fr)(ds:Nat->Option Nat)(S:Nat->Bool):Nat->Nat->Option V
 |0,t=>(bB 0).r.get t
 |k+1,t=>if S k=true/\ds k=some t then (bB (k+1)).r.get t else xM bB ds S k t
def nU(S:Nat->Bool)(i:Nat):Nat->Bool:=fun k=>if k=i then true else S k
section
variable {P:Program} {μ:Mu} {aL:Nat->St} {bB:Nat->Fr} {bh:Nat->FP} {ds:Nat->Option Nat} {S:Nat->Bool} {N:Nat}
def Zt9(T:xK P μ aL bB bh N):∀{i j:Nat},i<=N->j<(aL i).n->(∀k,k<i->xX aL bh k j->S k=true)->lI aL bh S i j=(aL i).h.get j
 |0,j,_,_,_=>rfl
 |i+1,j,hi,hj,h=>by
  simp only[lI]
  by_cases ht:xX aL bh i j
  ·rw[av ⟨h i (by omega) ht,ht⟩]
  ·rw[ak (fun hc=>ht hc.2)]
   simp only[xX,not_or,not_and,wz]at ht
   have aE:j<(aL i).n:=by
    rcases Nat.lt_or_ge j (aL i).n with h1|h1
    ·exact h1
    ·have:=ht.2 h1;omega
   rw[Zt9 T (by omega) aE fun k hk=>h k (by omega),T.ad i (by omega) j aE ht.1]
def T9:∀{M i j:Nat},i<=M->(∀k,i<=k->k<M->xX aL bh k j->S k=false)->lI aL bh S M j=lI aL bh S i j
 |0,i,j,hi,_=>by rw[Nat.le_zero.1 hi]
 |M+1,i,j,hi,h=>by
  by_cases e:i=M+1
  ·rw[e]
  ·simp only[lI]
   rw[ak,T9 (by omega) fun k h1 h2=>h k h1 (by omega)]
   rintro⟨h1,h2⟩
   rw[h M (by omega) (by omega) h2]at h1;cases h1
def Zi8{i:Nat}:∀{M j:Nat},¬xX aL bh i j->lI aL bh (nU S i) M j=lI aL bh S M j
 |0,j,_=>rfl
 |M+1,j,h=>by
  simp only[lI]
  rw[Zi8 h]
  by_cases e:M=i
  ·subst e
   rw[ak (fun hc=>h hc.2),ak (fun hc=>h hc.2)]
  ·simp only[nU,e,if_false]
def Yj1{i j:Nat}(hi:i<N)(ht:xX aL bh i j)(h:∀k,i<k->k<N->xX aL bh k j->S k=false):lI aL bh (nU S i) N j=(aL (i+1)).h.get j:=by rw[T9 (i:=i+1) (by omega) fun k h1 h2 h3=>by simp only[nU];rw[ak (by omega)];exact h k (by omega) h2 h3];simp only[lI,nU];rw[av ⟨by simp,ht⟩]
def Jw(bB:Nat->Fr)(ds:Nat->Option Nat)(vI:Nat->V)(N:Nat):Prop:=∀i,i<N->∀t,(bB (i+1)).r.get t=if ds i=some t then some (vI i) else (bB i).r.get t
def Zt8{vI:Nat->V}(T:Jw bB ds vI N):∀{i t:Nat},i<=N->(∀k,k<i->ds k=some t->S k=true)->xM bB ds S i t=(bB i).r.get t
 |0,t,_,_=>rfl
 |i+1,t,hi,h=>by
  simp only[xM]
  by_cases ht:ds i=some t
  ·rw[av ⟨h i (by omega) ht,ht⟩]
  ·rw[ak (fun hc=>ht hc.2),Zt8 T (by omega) fun k hk=>h k (by omega),T i (by omega) t,ak ht]
def Ua:∀{M i t:Nat},i<=M->(∀k,i<=k->k<M->ds k=some t->S k=false)->xM bB ds S M t=xM bB ds S i t
 |0,i,t,hi,_=>by rw[Nat.le_zero.1 hi]
 |M+1,i,t,hi,h=>by
  by_cases e:i=M+1
  ·rw[e]
  ·simp only[xM]
   rw[ak,Ua (by omega) fun k h1 h2=>h k h1 (by omega)]
   rintro⟨h1,h2⟩
   rw[h M (by omega) (by omega) h2]at h1;cases h1
def Zi7{i:Nat}:∀{M t:Nat},ds i≠some t->xM bB ds (nU S i) M t=xM bB ds S M t
 |0,t,_=>rfl
 |M+1,t,h=>by
  simp only[xM]
  rw[Zi7 h]
  by_cases e:M=i
  ·subst e
   rw[ak (fun hc=>h hc.2),ak (fun hc=>h hc.2)]
  ·simp only[nU,e,if_false]
def Yj0{vI:Nat->V}(T:Jw bB ds vI N){i t:Nat}(hi:i<N)(ht:ds i=some t)(h:∀k,i<k->k<N->ds k=some t->S k=false):xM bB ds (nU S i) N t=some (vI i):=by rw[Ua (i:=i+1) (by omega) fun k h1 h2 h3=>by simp only[nU];rw[ak (by omega)];exact h k (by omega) h2 h3];simp only[xM,nU];rw[av ⟨by simp,ht⟩,T i hi t,av ht]
def BQ(r:T V):List Nat->T V
 |[]=>.nil
 |t::ts=>match r.get t with
  |some v=>(BQ r ts).set t v
  |none=>BQ r ts
def OH(r:T V):∀(ts:List Nat) (t:Nat),(BQ r ts).get t=if t∈ts then r.get t else none
 |[],t=>by simp[BQ,T.get]
 |u::ts,t=>by
  simp only[BQ]
  split
  ·rename_i v hv
   rw[T.ag,OH r ts t]
   by_cases e:t=u
   ·subst e;simp[hv]
   ·simp[e]
  ·rename_i hv
   rw[OH r ts t]
   by_cases e:t=u
   ·subst e;simp[hv]
   ·simp[e]
def Yu1{r:T V}{ts:List Nat}{s:Src}(h:∀t∈s.tmps,t∈ts):s.ev (BQ r ts)=s.ev r:=by
 cases s with
 |const v=>rfl
 |tmp t=>simp only[Src.ev];rw[OH,av (h t (by simp[Src.tmps]))]
def tH(h:T O)(ad:List Nat):Nat->T O
 |0=>.nil
 |n+1=>match h.get n with
  |some o=>(tH h ad n).set n (if n∈ad then o else .dead)
  |none=>tH h ad n
def Mg(h:T O)(ad:List Nat):∀(n j:Nat),(tH h ad n).get j=if j<n then (h.get j).map fun o=>if j∈ad then o else .dead else none
 |0,j=>by simp[tH,T.get]
 |n+1,j=>by
  simp only[tH]
  split
  ·rename_i o ho
   rw[T.ag,Mg h ad n j]
   by_cases e:j=n
   ·subst e;simp[ho]
   ·rw[ak e]
    by_cases e2:j<n
    ·rw[av e2,av (by omega)]
    ·rw[ak e2,ak (by omega)]
  ·rename_i ho
   rw[Mg h ad n j]
   by_cases e:j=n
   ·subst e;simp[ho]
   ·by_cases e2:j<n
    ·rw[av e2,av (by omega)]
    ·rw[ak e2,ak (by omega)]
def FP.dK(f:FP)(j:Nat):Prop:=
 match f.rd with
 |none=>True
 |some l=>j∈l
def Yf9{st σ:St}{i:Nat}(h:σ.h.get i=st.h.get i):σ.row i=st.row i:=by unfold St.row;rw[h]
def Ym7{call:cO}{r:T V}{op:iz}{st s':St}{v:V}{ws:List Nat}{lo hi:Nat}(hm:cH op call r {st with w:=[]}=some (v,s'))(gT:lo=st.n):
  ∃σ σ',σ.n=st.n/\σ.w=[]/\cH op call r σ=some (v,σ')/\σ'.n=s'.n/\σ'.w=s'.w/\
   (∀j,j<st.n->(q8 r op ws lo hi).dK j->σ.h.get j=st.h.get j)/\(∀j,j<st.n->¬(q8 r op ws lo hi).dK j->σ.h.get j=(st.h.get j).map fun _=>.dead)/\
   (∀j,((q8 r op ws lo hi).dK j/\j<st.n)\/(st.n<=j/\j<s'.n)->σ'.h.get j=s'.h.get j)/\(∀j∈s'.w,(q8 r op ws lo hi).dK j):=by
 by_cases hs:op.pY=true
 ·have hf:q8 r op ws lo hi=⟨some [],[],lo,hi⟩:=by unfold q8;rw[av hs]
  rw[hf];have hd:∀j,j<st.n->(tH st.h [] st.n).get j=(st.h.get j).map fun _=>.dead:=fun j hj=>by rw[Mg,av hj];simp
  rcases Zpb hs (tH st.h [] st.n) [] hm with⟨h1,h2⟩|⟨o,h1,h2⟩
  ·subst h1;exact⟨⟨tH st.h [] st.n,st.n,[]⟩,_,rfl,rfl,h2,rfl,rfl,fun j _ hj=>by simp[FP.dK]at hj,fun j hj _=>hd j hj,fun j hj=>by
    rcases hj with⟨hj,_⟩|⟨h1,h2⟩
    ·simp[FP.dK]at hj
    ·simp only at h2;omega,fun j hj=>by simp at hj⟩
  subst h1;refine⟨⟨tH st.h [] st.n,st.n,[]⟩,_,rfl,rfl,h2,rfl,rfl,fun j _ hj=>by simp[FP.dK]at hj,fun j hj _=>hd j hj,fun j hj=>?_,fun j hj=>by simp[St.alloc]at hj⟩;rcases hj with⟨hj,_⟩|⟨h1,h2⟩
  ·simp[FP.dK]at hj
  simp only[St.alloc]at h2 ⊢;have:j=st.n:=by omega
  subst this;rw[T.ag,T.ag,av rfl,av rfl]
 cases hl:TZ r op with
 |none=>
  have hf:q8 r op ws lo hi=⟨none,ws,lo,hi⟩:=by unfold q8;rw[ak hs,hl]
  rw[hf];exact⟨{st with w:=[]},s',rfl,rfl,hm,rfl,rfl,fun _ _ _=>rfl,fun _ _ hj=>absurd trivial hj,fun _ _=>rfl,fun _ _=>trivial⟩
 |some i=>
  by_cases kf:i<st.n;case neg=>
   have hf:q8 r op ws lo hi=⟨none,ws,lo,hi⟩:=by unfold q8;rw[ak hs,hl];simp only[];rw[ak (by rw[gT];simpa[Nat.blt_eq]using kf)]
   rw[hf]
   exact⟨{st with w:=[]},s',rfl,rfl,hm,rfl,rfl,fun _ _ _=>rfl,fun _ _ hj=>absurd trivial hj,fun _ _=>rfl,fun _ _=>trivial⟩
  have hf:q8 r op ws lo hi=⟨some [i],ws,lo,hi⟩:=by unfold q8;rw[ak hs,hl];simp only[];rw[av (by rw[gT];simpa[Nat.blt_eq]using kf)]
  rw[hf];have hk:(tH st.h [i] st.n).get i=st.h.get i:=by rw[Mg,av kf];cases st.h.get i<;>simp
  have hd:∀j,j<st.n->¬(j∈[i])->(tH st.h [i] st.n).get j=(st.h.get j).map fun _=>.dead:=fun j hj hn=>by rw[Mg,av hj];simp only[hn,if_false]
  have aA:(⟨tH st.h [i] st.n,st.n,[]⟩:St).row i=St.row {st with w:=[]} i:=Yf9 hk;cases op<;>simp only[TZ,reduceCtorEq]at hl;case load k x=>
   split at hl
   ·rename_i i' o hx
    simp only[au]at hl;subst hl
    simp only[cH,Jb,hx]at hm ⊢
    split at hm
    ·rename_i c e rj hr
     split at hm
     ·rename_i u hu
      simp only[au,bD]at hm
      obtain⟨rfl,rfl⟩:=hm
      refine⟨⟨tH st.h [i'] st.n,st.n,[]⟩,⟨tH st.h [i'] st.n,st.n,[]⟩,rfl,rfl,?_,rfl,rfl,fun j _ hj=>?_,fun j hj hn=>hd j hj hn,fun j hj=>?_,fun j hj=>by simp at hj⟩
      ·rw[aA,hr];simp only[hu]
      ·simp only[FP.dK,u9]at hj;subst hj;exact hk
      ·rcases hj with⟨hj,_⟩|⟨h1,h2⟩
       ·simp only[FP.dK,u9]at hj;subst hj;exact hk
       ·simp only at h2;omega
     ·cases hm
    ·cases hm
   ·cases hl
  case store k x y=>
   split at hl
   ·rename_i i' o hx
    simp only[au]at hl;subst hl
    simp only[cH,Gq,hx]at hm ⊢
    split at hm
    ·rename_i i2 o2 u zL hu
     simp only[au,V.ptr.injEq]at zL
     obtain⟨rfl,rfl⟩:=zL
     split at hm
     ·rename_i c e hr
      split at hm
      ·rename_i hc
       simp only[au,bD]at hm
       obtain⟨rfl,rfl⟩:=hm
       refine⟨⟨tH st.h [i'] st.n,st.n,[]⟩,St.write ⟨tH st.h [i'] st.n,st.n,[]⟩ i' (.cells (ae c o u.cells) e true),rfl,rfl,?_,rfl,rfl,fun j _ hj=>?_,fun j hj hn=>hd j hj hn,fun j hj=>?_,fun j hj=>?_⟩
       ·rw[aA,hr]
        simp only[av hc]
       ·simp only[FP.dK,u9]at hj;subst hj;exact hk
       ·rcases hj with⟨hj,_⟩|⟨h1,h2⟩
        ·simp only[FP.dK,u9]at hj;subst hj
         simp only[St.write,T.ag,if_true]
        ·simp only[St.write]at h2;omega
       ·simpa[FP.dK,St.write]using hj
      ·cases hm
     ·cases hm
    ·cases hm
   ·cases hl
end
structure Inv (P:Program) (μ:Mu) (w:World) (aL:Nat->St) (bB:Nat->Fr) (bh:Nat->FP) (ds:Nat->Option Nat) (N:Nat) (W:List Nat) (S:Nat->Bool) (μ':Mu) (a':Act) (w':World):Prop where
 ext:∀j,j<(aL 0).n->μ' j=μ j
 dq:∀j l,μ' j=some l->(j<(aL 0).n\/∃k,k<N/\S k=true/\(aL k).n<=j/\j<(aL (k+1)).n)/\l.b<w'.heap.size
 full:∀k,k<N->S k=true->∀j,(aL k).n<=j->j<(aL (k+1)).n->∃l,μ' j=some l
 obj:∀j l,μ' j=some l->∃o,lI aL bh S N j=some o/\OM P μ' w' o l
 inj:∀i j l l' o o',μ' i=some l->μ' j=some l'->i≠j->lI aL bh S N i=some o->lI aL bh S N j=some o'->o.wr=true->o'.live=true->l.b≠l'.b
 xO:a'.tmps.size=(bB 0).n/\∀t v,xM bB ds S N t=some v->∃x,a'.tmps[t]?=some x/\VR μ' v x
 defs:rA μ' (bB 0).marks a'.defers
 eR:Oq μ W w w'
 new:∀i l,(aL 0).n<=i->μ' i=some l->w.heap.size<=l.b\/∃j∈W,j<(aL 0).n/\∃lj oj,μ j=some lj/\lj.b=l.b/\(aL 0).h.get j=some oj/\oj.wr=true
structure Ord (bh:Nat->FP) (mo:Nat->dP) (N:Nat) (nj:Nat->Nat->Prop):Prop where
 free:∀i k,i<k->k<N->nj k i\/FP.free (bh i) (bh k)=true
 tmp:∀i k,i<k->k<N->nj k i\/TJ (mo i) (mo k)=true
section
variable {P:Program} {μ μ':Mu} {w w':World} {aL:Nat->St} {bB:Nat->Fr} {bh:Nat->FP} {ds:Nat->Option Nat} {S:Nat->Bool} {N:Nat} {W:List Nat} {a a':Act} {mo:Nat->dP} {nj:Nat->Nat->Prop}
def xK.mono(T:xK P μ aL bB bh N):∀{i k:Nat},i<=k->k<=N->(aL i).n<=(aL k).n
 |i,0,h,_=>by rw[Nat.le_zero.1 h];exact aM _
 |i,k+1,h,hk=>by
  by_cases e:i=k+1
  ·rw[e];exact aM _
  ·exact iZ (T.mono (i:=i) (k:=k) (by omega) (by omega)) (T.ij k (by omega))
def UK{a b:FP}(h:FP.free a b=true):(∀j∈a.wr,¬b.dK j)/\(∀j∈a.wr,j∉b.wr)/\(∀j∈b.wr,¬a.dK j)/\∀j∈b.wr,¬(a.lo<=j/\j<a.hi):=by
 unfold FP.free at h;simp only[I3,Bool.or_eq_false_iff]at h;obtain⟨⟨⟨h1,h2⟩,h3⟩,h4⟩:=h;have key:∀(l:List Nat) (o:Option (List Nat)),Jq l o=false->∀j∈l,¬(match o with|none=>True|some q=>j∈q):=by
  intro l o h j hj;cases o with
  |none=> simp only[Jq,Bool.not_eq_false',List.isEmpty_iff]at h;subst h;simp at hj
  |some q=> simp only[Jq,List.any_eq_false,TO]at h;exact h j hj
 refine⟨fun j hj=>?_,fun j hj=>?_,fun j hj=>?_,fun j hj=>?_⟩
 ·have:=key _ _ h1 j hj;unfold FP.dK;exact this
 ·exact key _ _ h2 j hj
 ·have:=key _ _ h3 j hj;unfold FP.dK;exact this
 simp only[List.any_eq_false]at h4;have:=h4 j hj;intro hc;apply this;simp[Nat.ble_eq,Nat.blt_eq,hc.1,hc.2]
def Yck(T:xK P μ aL bB bh N)(I:Inv P μ w aL bB bh ds N W S μ' a' w')(Or:Ord bh mo N nj)(cM:∀k,S k=true->∀i,nj k i->S i=true){i:Nat}(hi:i<N)(hS:S i=false)(hb:∀j,nj i j->S j=true)
  {j:Nat} {l:L} (hj:μ' j=some l) (aE:j<(aL i).n) (hs:(bh i).dK j):
  (∀k,k<i->xX aL bh k j->S k=true)/\(∀k,i<=k->k<N->xX aL bh k j->S k=false):=by
 refine⟨fun k hk ht=>?_,fun k hk Ff ht=>?_⟩
 ·rcases ht with ht|⟨h1,h2⟩
  ·rcases Or.free k i hk hi with h|h
   ·exact hb k h
   exact absurd hs ((UK h).1 j ht)
  rcases(I.dq j l hj).1 with h0|⟨k',h3,h4,h5,h6⟩
  ·have:=T.mono (i:=0) (k:=k) (by omega) (by omega);omega
  have:k'=k:=by
   rcases Nat.lt_trichotomy k k' with h|h|h
   ·have:=T.mono (i:=k+1) (k:=k') (by omega) (by omega);omega
   ·exact h.symm
   have:=T.mono (i:=k'+1) (k:=k) (by omega) (by omega);omega
  subst this;exact h4
 by_cases e:k=i
 ·rw[e];exact hS
 rcases ht with ht|⟨h1,h2⟩
 ·rcases Or.free i k (by omega) Ff with h|h
  ·cases hq:S k with
   |false=>rfl
   |true=>rw[cM k hq i h]at hS;cases hS
  exact absurd hs ((UK h).2.2.1 j ht)
 have:=T.mono (i:=i) (k:=k) hk (by omega);omega
def Zw7(T:xK P μ aL bB bh N)(Or:Ord bh mo N nj)(cM:∀k,S k=true->∀i,nj k i->S i=true){i:Nat}(hi:i<N)(hS:S i=false)
  {j:Nat} (ht:xX aL bh i j):∀k,i<k->k<N->xX aL bh k j->S k=false:=by
 intro k hk Ff kh;have PN:=Or.free i k hk Ff;have PO:nj k i->S k=false:=fun h=>by
  cases hq:S k with
  |false=>rfl
  |true=>rw[cM k hq i h]at hS;cases hS
 rcases PN with h|h
 ·exact PO h
 exfalso;have hm:=T.mono (i:=i+1) (k:=k) (by omega) (by omega);have iJ:=T.ij i hi;rcases ht with ht|⟨h1,h2⟩
 ·rcases kh with kh|⟨h3,h4⟩
  ·exact(UK h).2.1 j ht kh
  have:=T.wlt i hi j ht;omega
 rcases kh with kh|⟨h3,h4⟩
 ·refine(UK h).2.2.2 j kh ⟨?_,?_⟩
  ·rw[T.lo i hi];exact h1
  rw[T.hi i hi];exact h2
 omega
def Zqa{d:Option Nat}{l:List Nat}(h:OA d l=false):∀t,d=some t->t∉l:=by intro t ht hm;subst ht;simp only[OA]at h;have:l.contains t=true:=TO.2 hm;rw[this]at h;cases h
def Zld{a b:dP}(h:TJ a b=true):(∀t,a.dst=some t->t∉b.reads)/\(∀t,b.dst=some t->t∉a.reads)/\∀t,a.dst=some t->b.dst≠some t:=by unfold TJ at h;simp only[I3,Bool.or_eq_false_iff]at h;obtain⟨⟨h1,h2⟩,h3⟩:=h;exact⟨Zqa h1,Zqa h2,fun t ht hb=>Zqa h3 t ht (by rw[hb];simp)⟩
def Yco(Or:Ord bh mo N nj)(cM:∀k,S k=true->∀i,nj k i->S i=true)(sF:∀k,k<N->ds k=(mo k).dst){i:Nat}(hi:i<N)(hS:S i=false)(hb:∀j,nj i j->S j=true)
  {t:Nat} (ht:t∈(mo i).reads):(∀k,k<i->ds k=some t->S k=true)/\(∀k,i<=k->k<N->ds k=some t->S k=false):=by
 refine⟨fun k hk hd=>?_,fun k hk Ff hd=>?_⟩
 ·rcases Or.tmp k i hk hi with h|h
  ·exact hb k h
  rw[sF k (by omega)]at hd;exact absurd ht ((Zld h).1 t hd)
 by_cases e:k=i
 ·rw[e];exact hS
 rcases Or.tmp i k (by omega) Ff with h|h
 ·cases hq:S k with
  |false=>rfl
  |true=>rw[cM k hq i h]at hS;cases hS
 rw[sF k Ff]at hd;exact absurd ht ((Zld h).2.1 t hd)
def Yja(Or:Ord bh mo N nj)(cM:∀k,S k=true->∀i,nj k i->S i=true)(sF:∀k,k<N->ds k=(mo k).dst){i:Nat}(hi:i<N)(hS:S i=false)
  {t:Nat} (ht:ds i=some t):∀k,i<k->k<N->ds k=some t->S k=false:=by
 intro k hk Ff hd;rcases Or.tmp i k hk Ff with h|h
 ·cases hq:S k with
  |false=>rfl
  |true=>rw[cM k hq i h]at hS;cases hS
 rw[sF i hi]at ht;rw[sF k Ff]at hd;exact absurd hd ((Zld h).2.2 t ht)
end
section
variable {P:Program} {μ μ':Mu} {w w':World} {aL:Nat->St} {bB:Nat->Fr} {bh:Nat->FP} {ds:Nat->Option Nat} {S:Nat->Bool} {N:Nat} {W:List Nat} {a a':Act} {mo:Nat->dP} {nj:Nat->Nat->Prop}
def BP(μ':Mu)(n:Nat):Mu:=fun j=>if j<n then μ' j else none
def OP{n j:Nat}(h:j<n):BP μ' n j=μ' j:=av h
def GY{n j:Nat}{l:L}(h:BP μ' n j=some l):j<n/\μ' j=some l:=by
 unfold BP at h;split at h
 ·exact⟨by assumption,h⟩
 cases h
def Yju(h0:bp P μ w (aL 0))(T:xK P μ aL bB bh N)(I:Inv P μ w aL bB bh ds N W S μ' a' w')(Or:Ord bh mo N nj)(cM:∀k,S k=true->∀i,nj k i->S i=true){i:Nat}(hi:i<N)(hS:S i=false)(hb:∀j,nj i j->S j=true)
  {σ:St} (hn:σ.n=(aL i).n) (hs:∀j,j<(aL i).n->(bh i).dK j->σ.h.get j=(aL i).h.get j) (hd:∀j,j<(aL i).n->¬(bh i).dK j->σ.h.get j=((aL i).h.get j).map fun _=>.dead):
  bp P (BP μ' (aL i).n) w' σ/\∀j l,μ' j=some l->j<(aL i).n->(bh i).dK j->σ.h.get j=lI aL bh S N j:=by
 have iS:∀j l,μ' j=some l->j<(aL i).n->(bh i).dK j->lI aL bh S N j=(aL i).h.get j:=fun j l hj aE xY=>by obtain⟨h1,h2⟩:=Yck T I Or cM hi hS hb hj aE xY;rw[T9 (i:=i) (by omega) h2,Zt9 T (by omega) aE h1]
 have xZ:∀j l,μ' j=some l->j<(aL i).n->(bh i).dK j->σ.h.get j=lI aL bh S N j:=fun j l hj aE xY=>by rw[hs j aE xY,iS j l hj aE xY]
 have hold:∀j l,μ' j=some l->j<(aL 0).n->∃l,μ j=some l:=fun j l hj h0=>⟨l,by rw[<-I.ext j h0];exact hj⟩;refine⟨⟨fun j l hj=>?_,fun j l hj=>?_,fun j k lj lk oj ok hj hk aZ h1 h2 hw hl=>?_,fun g hg=>?_⟩,xZ⟩
 ·obtain⟨h1,h2⟩:=GY hj;exact⟨by omega,(I.dq j l h2).2⟩
 ·obtain⟨h1,h2⟩:=GY hj;obtain⟨o,μT,wT,lT,t1,t2,t3⟩:=T.sch i (by omega) j (hold j l h2) h1;by_cases xY:(bh i).dK j
  ·obtain⟨o',q1,q2⟩:=I.obj j l h2;rw[iS j l h2 h1 xY,t1,au]at q1;subst q1;exact⟨o,by rw[hs j h1 xY,t1],OM.cut (n:=(aL i).n) (fun k lk hk kh=>by rw[OP hk];exact kh) t3 t2 q2⟩
  exact⟨.dead,by rw[hd j h1 xY,t1];rfl,trivial⟩
 ·obtain⟨a1,a2⟩:=GY hj;obtain⟨b1,b2⟩:=GY hk;have sj:(bh i).dK j:=Classical.byContradiction fun hn=>by rw[hd j a1 hn]at h1;cases hq:(aL i).h.get j<;>rw[hq]at h1<;>simp at h1;subst h1;simp[O.wr]at hw
  have sk:(bh i).dK k:=Classical.byContradiction fun hn=>by rw[hd k b1 hn]at h2;cases hq:(aL i).h.get k<;>rw[hq]at h2<;>simp at h2;subst h2;simp[O.live]at hl
  exact I.inj j k lj lk oj ok a2 b2 aZ (by rw[<-xZ j lj a2 a1 sj];exact h1) (by rw[<-xZ k lk b2 b1 sk];exact h2) hw hl
 obtain⟨t,ht⟩:=h0.iO g hg;have uU:=(h0.dq g _ ht).1;have:=T.mono (i:=0) (k:=i) (by omega) (by omega);exact⟨t,by rw[OP (by omega),I.ext g uU];exact ht⟩
def Yoh(T:xK P μ aL bB bh N){vI:Nat->V}(Pu:Jw bB ds vI N)(I:Inv P μ w aL bB bh ds N W S μ' a' w')(Or:Ord bh mo N nj)(cM:∀k,S k=true->∀i,nj k i->S i=true)(sF:∀k,k<N->ds k=(mo k).dst)
  {i:Nat} (hi:i<N) (hS:S i=false) (hb:∀j,nj i j->S j=true):
  RR (BP μ' (aL i).n) (BQ (bB i).r (mo i).reads) (bB 0).n a'.tmps:=by
 refine⟨I.xO.1,fun t v hv=>?_⟩;rw[OH]at hv;split at hv
 ·rename_i ht;obtain⟨h1,h2⟩:=Yco Or cM sF hi hS hb ht;have hc:xM bB ds S N t=some v:=by rw[Ua (i:=i) (by omega) h2,Zt8 Pu (by omega) h1];exact hv
  obtain⟨x,hx,hr⟩:=I.xO.2 t v hc;exact⟨x,hx,VR.cut (n:=(aL i).n) (fun k lk hk kh=>by rw[OP hk];exact kh) v x (T.scr i (by omega) t v hv) hr⟩
 cases hv
def GZ(μ' μ2:Mu)(n n':Nat):Mu:=fun j=>if j<n then μ' j else if j<n' then μ2 j else μ' j
def xK.G5(T:xK P μ aL bB bh N):∀{i j:Nat} {o':O},i<=N->j<(aL 0).n->(aL i).h.get j=some o'->o'.wr=true->∃o,(aL 0).h.get j=some o/\o.wr=true
 |0,j,o',_,_,h,hw=>⟨o',h,hw⟩
 |i+1,j,o',hi,hj,h,hw=>by
  have:=T.mono (i:=0) (k:=i) (by omega) (by omega)
  obtain⟨o,h1,h2,_⟩:=T.grow i (by omega) j o' (by omega) h
  exact T.G5 (by omega) hj h1 (h2 hw)
def Yba(h0:bp P μ w (aL 0))(T:xK P μ aL bB bh N){vI:Nat->V}(Pu:Jw bB ds vI N)(I:Inv P μ w aL bB bh ds N W S μ' a' w')(Or:Ord bh mo N nj)(cM:∀k,S k=true->∀i,nj k i->S i=true)
  (sF:∀k,k<N->ds k=(mo k).dst) (hW:∀k,k<N->∀j∈(bh k).wr,j∈W) {i:Nat} (hi:i<N) (hS:S i=false) (zf:∀d,ds i=some d->d<(bB 0).n)
  {σ σ':St} {μ2:Mu} {w2:World} {ws:List Nat} {x:Value} (vH:bp P (BP μ' (aL i).n) w' σ) (iS:∀j l,μ' j=some l->j<(aL i).n->(bh i).dK j->σ.h.get j=lI aL bh S N j)
  (hn:σ.n=(aL i).n) (uJ:σ'.n=(aL (i+1)).n) (fj:bL P (BP μ' (aL i).n) w' σ μ2 w2 σ' ws) (rZ:∀j,j<(aL i).n->(j∈ws↔j∈(bh i).wr)) (xL:∀j∈ws,(bh i).dK j)
  (cZ:∀j,((bh i).dK j/\j<(aL i).n)\/((aL i).n<=j/\j<(aL (i+1)).n)->σ'.h.get j=(aL (i+1)).h.get j) (hx:VR μ2 (vI i) x):
  Inv P μ w aL bB bh ds N W (nU S i) (GZ μ' μ2 (aL i).n (aL (i+1)).n) (a'.put (ds i) x) w2:=by
 have hle:=T.ij i hi;have zbP:=T.mono (i:=0) (k:=i) (by omega) (by omega);have B9:∀j l,μ' j=some l->¬((aL i).n<=j/\j<(aL (i+1)).n):=fun j l hj hc=>by
  rcases(I.dq j l hj).1 with h|⟨k,h3,h4,h5,h6⟩
  ·omega
  have hk:k=i:=by
   rcases Nat.lt_trichotomy k i with h|h|h
   ·have:=T.mono (i:=k+1) (k:=i) (by omega) (by omega);omega
   ·exact h
   have:=T.mono (i:=i+1) (k:=k) (by omega) (by omega);omega
  subst hk;rw[hS]at h4;cases h4
 have JR:∀j,j<(aL i).n->μ2 j=μ' j:=fun j hj=>by rw[fj.ext j (by omega),OP hj]
 have Fg:∀j l,μ' j=some l->GZ μ' μ2 (aL i).n (aL (i+1)).n j=some l:=fun j l hj=>by
  unfold GZ;by_cases e1:j<(aL i).n
  ·rw[av e1];exact hj
  by_cases e2:j<(aL (i+1)).n
  ·exact absurd ⟨by omega,e2⟩ (B9 j l hj)
  rw[ak e1,ak e2];exact hj
 have Fh:∀j l,μ2 j=some l->GZ μ' μ2 (aL i).n (aL (i+1)).n j=some l:=fun j l hj=>by
  have hd:=(fj.hr.dq j l hj).1;unfold GZ;by_cases e1:j<(aL i).n
  ·rw[av e1,<-JR j e1];exact hj
  rw[ak e1,av (by omega)];exact hj
 have hinv:∀j l,GZ μ' μ2 (aL i).n (aL (i+1)).n j=some l->(μ' j=some l)\/((aL i).n<=j/\j<(aL (i+1)).n/\μ2 j=some l):=fun j l hj=>by
  unfold GZ at hj;split at hj
  ·exact .inl hj
  split at hj
  ·exact .inr ⟨by omega,by assumption,hj⟩
  exact .inl hj
 have x_:∀j,xX aL bh i j->lI aL bh (nU S i) N j=(aL (i+1)).h.get j:=fun j ht=>Yj1 hi ht (Zw7 T Or cM hi hS ht);have told:∀j l,μ' j=some l->¬j∈(bh i).wr->lI aL bh (nU S i) N j=lI aL bh S N j:=fun j l hj hnw=>Zi8 fun h=>h.elim hnw fun h=>B9 j l hj h;have JS:∀j l o',μ' j=some l->lI aL bh (nU S i) N j=some o'->∃o,lI aL bh S N j=some o/\(o'.wr=true->o.wr=true)/\(o'.live=true->o.live=true):=fun j l o' hj ho=>by
  by_cases hw:j∈(bh i).wr
  ·have aE:=T.wlt i hi j hw;have xY:=xL j ((rZ j aE).2 hw);rw[x_ j (.inl hw),<-cZ j (.inl ⟨xY,aE⟩)]at ho;obtain⟨o,q1,q2,q3⟩:=fj.grow j o' (by omega) ho;exact⟨o,by rw[<-iS j l hj aE xY];exact q1,q2,q3⟩
  rw[told j l hj hw]at ho;exact⟨o',ho,id,id⟩
 have cwr:∀j∈ws,∀lj,BP μ' (aL i).n j=some lj->∃o,lI aL bh S N j=some o/\o.wr=true:=fun j hj lj wG=>by obtain⟨h1,h2⟩:=GY wG;obtain⟨o,q1,q2⟩:=fj.AF j hj (by omega);exact⟨o,by rw[<-iS j lj h2 h1 (xL j hj)];exact q1,q2⟩
 have PQ:∀j l,(aL i).n<=j->μ2 j=some l->w'.heap.size<=l.b\/∃k lk,k∈ws/\k<(aL i).n/\μ' k=some lk/\lk.b=l.b/\∃o,lI aL bh S N k=some o/\o.wr=true:=fun j l hj hl=>by
  rcases fj.new j l (by omega) hl with h|⟨k,hk,wC,lk,ok,h1,h2,h3,h4⟩
  ·exact .inl h
  obtain⟨_,q2⟩:=GY h1;exact .inr ⟨k,lk,hk,by omega,q2,h2,cwr k hk lk h1⟩
 refine⟨fun j hj=>?_,fun j l hj=>?_,fun k hk hSk j h1 h2=>?_,fun j l hj=>?_,fun j k lj lk oj ok hj hk aZ h1 h2 hw hl=>?_,⟨?_,fun t v hv=>?_⟩,?_,?_,fun j l Ca hj=>?_⟩
 ·-- ext
  unfold GZ;rw[av (by omega)];exact I.ext j hj
 ·-- dq
  rcases hinv j l hj with h|⟨h1,h2,h3⟩
  ·obtain⟨d1,d2⟩:=I.dq j l h;refine⟨d1.imp id fun ⟨k,q1,q2,q3⟩=>⟨k,q1,?_,q3⟩,fg d2 fj.eR.size⟩;simp only[nU];split<;>first|rfl|exact q2
  exact⟨.inr ⟨i,hi,by simp[nU],h1,h2⟩,(fj.hr.dq j l h3).2⟩
 ·-- full
  by_cases e:k=i
  ·subst e;obtain⟨l,hl⟩:=fj.full j (by omega) (by omega);exact⟨l,Fh j l hl⟩
  simp only[nU,e,if_false]at hSk;obtain⟨l,hl⟩:=I.full k hk hSk j h1 h2;exact⟨l,Fg j l hl⟩
 ·-- obj
  rcases hinv j l hj with h|⟨h1,h2,h3⟩
  ·by_cases hw:j∈(bh i).wr
   ·have aE:=T.wlt i hi j hw;have xY:=xL j ((rZ j aE).2 hw);obtain⟨o,q1,q2⟩:=fj.hr.obj j l (by rw[JR j aE];exact h);exact⟨o,by rw[x_ j (.inl hw),<-cZ j (.inl ⟨xY,aE⟩)];exact q1,q2.mono Fh⟩
   obtain⟨o,q1,q2⟩:=I.obj j l h;refine⟨o,by rw[told j l h hw];exact q1,?_⟩;cases hl:o.live with
   |false=>cases o<;>simp[O.live]at hl;trivial
   |true=> refine(q2.mono Fg).congr (fj.eR.block l.b (I.dq j l h).2 fun k hk lk fO=>?_);obtain⟨q3,q4⟩:=GY fO;obtain⟨ok,q5,q6⟩:=cwr k hk lk fO;exact I.inj k j lk l ok o q4 h (fun hc=>hw (by rw[<-hc];exact(rZ k q3).1 hk)) q5 q1 q6 hl
  obtain⟨o,q1,q2⟩:=fj.hr.obj j l h3;exact⟨o,by rw[x_ j (.inr ⟨h1,h2⟩),<-cZ j (.inr ⟨h1,h2⟩)];exact q1,q2.mono Fh⟩
 ·-- inj
  have G6:∀j k lj lk oj ok,(aL i).n<=j->j<(aL (i+1)).n->μ2 j=some lj->μ' k=some lk->lI aL bh (nU S i) N j=some oj->lI aL bh (nU S i) N k=some ok->((oj.wr=true/\ok.live=true)\/(ok.wr=true/\oj.live=true))->lj.b≠lk.b:=by
   intro j k lj lk oj ok uG pT hj3 hk IU oG G7;have Fi:ok.live=true:=by
    rcases G7 with h|h
    ·exact h.2
    have:=h.1;cases ok<;>simp_all [O.wr,O.live]
   rcases PQ j lj uG hj3 with h|⟨q,lq,h1,h2,h3,h4,o,h5,h6⟩
   ·have:=(I.dq k lk hk).2;omega
   rw[<-h4];by_cases e:q=k
   ·subst e;rw[h3,au]at hk;subst hk;have hwq:=(rZ q h2).1 h1;rw[x_ j (.inr ⟨uG,pT⟩),<-cZ j (.inr ⟨uG,pT⟩)]at IU;rw[x_ q (.inl hwq),<-cZ q (.inl ⟨xL q h1,h2⟩)]at oG;have jS:μ2 q=some lq:=by rw[JR q h2];exact h3
    exfalso;rcases G7 with hb|hb
    ·exact fj.hr.inj j q lj lq oj ok hj3 jS (by omega) IU oG hb.1 hb.2 h4.symm
    exact fj.hr.inj q j lq lj ok oj jS hj3 (by omega) oG IU hb.1 hb.2 h4
   obtain⟨PR,g1,g2,g3⟩:=JS k lk ok hk oG;exact I.inj q k lq lk o PR h3 hk e h5 g1 h6 (g3 Fi)
  rcases hinv j lj hj with Ot|⟨a1,a2,a3⟩
  ·rcases hinv k lk hk with iE|⟨b1,b2,b3⟩
   ·obtain⟨oj0,g1,g2,g3⟩:=JS j lj oj Ot h1;obtain⟨PR,g4,g5,g6⟩:=JS k lk ok iE h2;exact I.inj j k lj lk oj0 PR Ot iE aZ g1 g4 (g2 hw) (g6 hl)
   exact(G6 k j lk lj ok oj b1 b2 b3 Ot h2 h1 (.inr ⟨hw,hl⟩)).symm
  rcases hinv k lk hk with iE|⟨b1,b2,b3⟩
  ·exact G6 j k lj lk oj ok a1 a2 a3 iE h1 h2 (.inl ⟨hw,hl⟩)
  rw[x_ j (.inr ⟨a1,a2⟩),<-cZ j (.inr ⟨a1,a2⟩)]at h1;rw[x_ k (.inr ⟨b1,b2⟩),<-cZ k (.inr ⟨b1,b2⟩)]at h2;exact fj.hr.inj j k lj lk oj ok a3 b3 aZ h1 h2 hw hl
 ·-- the temporaries' count
  cases hd:ds i<;>simp[Act.put,I.xO.1]
 ·-- the temporaries
  by_cases ht:ds i=some t
  ·rw[Yj0 Pu hi ht (Yja Or cM sF hi hS ht),au]at hv;subst hv;refine⟨x,?_,VR.mono Fh _ _ hx⟩;rw[ht];simp[Act.put,I.xO.1,zf t ht]
  rw[Zi7 ht]at hv;obtain⟨y,q1,q2⟩:=I.xO.2 t v hv;refine⟨y,?_,VR.mono Fg _ _ q2⟩;cases hd:ds i with
  |none=>simpa[Act.put]using q1
  |some d=> have:d≠t:=fun hc=>ht (by rw[hd,hc]);simp only[Act.put];rw[TK this];exact q1
 ·-- the marks
  have:(a'.put (ds i) x).defers=a'.defers:=by cases ds i<;>rfl
  rw[this];exact I.defs.mono Fg
 ·-- the frame
  refine⟨fj.eR.os.trans I.eR.os,fj.eR.tape.trans I.eR.tape,fj.eR.output.trans I.eR.output,iZ I.eR.size fj.eR.size,fun b hb dV=>?_⟩;rw[fj.eR.block b (fg hb I.eR.size) fun j hj lj wG=>?_,I.eR.block b hb dV];obtain⟨q1,q2⟩:=GY wG;by_cases e:j<(aL 0).n
  ·exact dV j (hW i hi j ((rZ j q1).1 hj)) lj (by rw[<-I.ext j e];exact q2)
  rcases I.new j lj (by omega) q2 with h|⟨k,hk,_,lk,_,h3,h4,_⟩
  ·omega
  rw[<-h4];exact dV k hk lk h3
 -- new ids
 rcases hinv j l hj with h|⟨h1,h2,h3⟩
 ·exact I.new j l Ca h
 rcases PQ j l h1 h3 with h|⟨q,lq,q1,q2,q3,q4,o,q5,q6⟩
 ·exact .inl (iZ I.eR.size h)
 by_cases e:q<(aL 0).n
 ·have hqW:=hW i hi q ((rZ q q2).1 q1);obtain⟨oi,g1,g2⟩:=T.AF i hi q ((rZ q q2).1 q1);obtain⟨o0,g3,g4⟩:=T.G5 (by omega) e g1 g2;exact .inr ⟨q,hqW,e,lq,o0,by rw[<-I.ext q e];exact q3,q4,g3,g4⟩
 rcases I.new q lq (by omega) q3 with h|⟨k,hk,g1,lk,ok,g2,g3,g4⟩
 ·exact .inl (by omega)
 exact .inr ⟨k,hk,g1,lk,ok,g2,g3.trans q4,g4⟩
end
end Go.Mx
