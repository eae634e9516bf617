/-A region that draws its order-/
import Derived.Test.YtfeehbdhikiikaaGreatDoorMxTxt
set_option linter.all false
namespace Go.Mx
open Go
section
variable {P:Program} {μ:Mu} {w:World} {st aB:St} {fr bK:Fr} {a:Act} {call:cQ} {v:V} {lb:Option Nat}
def Yny{listed:Array Bool}{i:Nat}(hi:i<listed.size):(fun k=>(listed.setIfInBounds i true).getD k false)=nU (fun k=>listed.getD k false) i:=by
 funext k;simp only[nU,I8];by_cases e:k=i
 ·subst e;simp[hi]
 rw[TM (Ne.symm e),ak e]
def Yx8(cA:kK P call)(hE:vS P){ops:Array Oper}{Q:Exit->Act->World->Prop}{aL:Nat->St}{bA:Nat->Fr}{vI:Nat->V}{bh:Nat->FP}{W:List Nat}
  (h0:bq P μ w (aL 0)) (hs:∀i o,ops[i]?=some o->BX P call ops o (aL i) (bA i) (vI i) (bh i) (aL (i+1)) (bA (i+1)))
  (T:xF P μ aL bA bh ops.size) {ds:Nat->Option Nat} {mo:Nat->dS} (GR:∀i o,ops[i]?=some o->mo i=tu P ops o) (r_:∀k,k<ops.size->ds k=(mo k).dst) (Pu:JI bA ds vI ops.size)
  (Or:Ord bh mo ops.size (fun k i=>((xu ops.toList []).getD k 0).testBit i=true)) (hW:∀k,k<ops.size->∀j∈(bh k).wr,j∈W) (B2:Md 0 ops.toList=true)
  (BY:∀μ',(∀j,j<(aL 0).n->μ' j=μ j)->∀i,i<ops.size->∀ds,rG μ' (bA 0).marks ds->rG (BZ μ' (aL i).n) (bA 0).marks ds)
  (hQ:∀S μ' a' w',(∀k,k<ops.size->S k=true)->Inv P μ w aL bA bh ds ops.size W S μ' a' w'->Q .normal a' w'):
  ∀(fuel:Nat) (listed:Array Bool) (μ':Mu) (a':Act) (w':World),listed.size=ops.size->(List.range ops.size).countP (fun k=>!listed.getD k false)=fuel->
   (Ypp ops fun k=>listed.getD k false=true)->Inv P μ w aL bA bh ds ops.size W (fun k=>listed.getD k false) μ' a' w'->wpAnyIn (FE lb) 0 P .any ops Q fuel listed a' w':=by
 intro fuel;induction fuel with
 |zero=>
  intro listed μ' a' w' mY hc cy I;have Pf:∀k,k<ops.size->listed.getD k false=true:=fun k hk=>by rw[List.countP_eq_zero]at hc;have:=hc k (jz.2 hk);simpa using this
  refine⟨?_,hQ _ μ' a' w' Pf I⟩;refine List.eq_nil_iff_forall_not_mem.2 fun j hj=>?_;obtain⟨h1,h2,_⟩:=Zre cy hj;have:=Pf j h1;simp only[I8]at h2 this;have pY:j<listed.size:=by omega
  simp[pY]at h2 this;rw[h2]at this;cases this
 |succ fuel ih=>
  intro listed μ' a' w' mY hc cy I;refine⟨fun hr=>hQ _ μ' a' w' (Yei B2 mY hr) I,fun i hi=>?_⟩;obtain⟨h1,h2,h3⟩:=Zre cy hi;have uV:i<listed.size:=by omega
  have T9:listed.getD i false=false:=by simp only[I8]at h2 ⊢;simp[uV]at h2 ⊢;exact h2
  refine Yme (S:=fun k=>listed.getD k false) cA hE h0 hs T GR r_ Pu Or I (fun k hk i hb=>cy k i hk hb) hW (BY μ' I.ext) h1 T9 h3 fun μ2 a2 w2 I2=>?_;have tm:=Yny (listed:=listed) uV;refine ih (listed.setIfInBounds i true) μ2 a2 w2 (by simp[mY]) ?_ ?_ (by rw[tm];exact I2)
  ·have:=Yiz (p:=fun k=>!listed.getD k false) (q:=fun k=>!(listed.setIfInBounds i true).getD k false) (i:=i) (by simp[T9]) (by
    have:=congrFun tm i
    simp only[this];simp[nU]) (fun k hk=>by
    have:=congrFun tm k
    simp only[this];simp[nU,hk]) ops.size h1;omega
  intro k j hk hb;have e1:=congrFun tm k;have e2:=congrFun tm j;simp only[e1,e2,nU]at hk ⊢;by_cases ej:j=i
  ·rw[av ej]
  rw[ak ej];by_cases ek:k=i
  ·subst ek;exact h3 j hb
  rw[ak ek]at hk;exact cy k j hk hb
def rG.Pg{μ μ' μ2:Mu}{n:Nat}(hd:∀i l,μ i=some l->i<n)(h:∀i l,i<n->μ' i=some l->μ2 i=some l):∀{ms:List Nat} {ds GS:List Deferred},rG μ ms ds->rG μ' ms GS->rG μ2 ms GS
 |[],_,_,_,h2=>h2
 |m::ms,_,_,⟨l,_,h1,_,h3⟩,⟨l',d',g1,g2,g3⟩=>⟨l',d',h m l' (hd m l h1) g1,g2,rG.Pg hd h h3 g3⟩
def Zq5{aL:Nat->St}{bA:Nat->Fr}{bh:Nat->FP}{N:Nat}(T:xF P μ aL bA bh N)(j:Nat):∀i,i<=N->(aL 0).n<=j->j<(aL i).n->∃k,k<i/\(aL k).n<=j/\j<(aL (k+1)).n
 |0,_,h1,h2=>by omega
 |i+1,hi,h1,h2=>by
  by_cases e:j<(aL i).n
  ·obtain⟨k,a1,a2⟩:=Zq5 T j i (by omega) h1 e
   exact⟨k,by omega,a2⟩
  ·exact⟨i,by omega,by omega,h2⟩
def Ztx{aL:Nat->St}{bA:Nat->Fr}{bh:Nat->FP}{N:Nat}(T:xF P μ aL bA bh N):∀i,i<=N->∃Wi,(aL i).w=Wi++(aL 0).w/\∀k,k<i->∀j∈(bh k).wr,j∈Wi
 |0,_=>⟨[],rfl,fun k hk=>by omega⟩
 |i+1,hi=>by
  obtain⟨Wi,h1,h2⟩:=Ztx T i (by omega)
  refine⟨(bh i).wr++Wi,by rw[T.wl i (by omega),h1,uJ],fun k hk j hj=>?_⟩
  by_cases e:k=i
  ·subst e;simp[hj]
  ·simp[h2 k (by omega) j hj]
def Yh9(hm:P.follows .mixedOrders=true)(hE:vS P)(cA:kK P call):Ypo P call:=by
 intro id ops fr st ex bK aB hp h μ w a lb hh hf;unfold Yq5 at hp;simp only[gV]at hp;obtain⟨B2,hpt⟩:=hp;unfold BS at h;split at h
 ·rename_i jf eN cg bY;split at h
  ·rename_i IZ;simp only[ar,bB]at h;obtain⟨rfl,rfl,rfl⟩:=h;obtain⟨aL,bA,vI,bh,e1,e2,e3,e4,e5,hs⟩:=Zuv ops.toList fr st jf eN cg bY;subst e1 e2;have hN:ops.toList.length=ops.size:=by simp
   rw[hN]at e3 e4 e5;have kj:∀i o,ops[i]?=some o->BX P call ops o (aL i) (bA i) (vI i) (bh i) (aL (i+1)) (bA (i+1)):=fun i o ho=>(hs i o (by rw[Es];exact ho)).2;have T:=Yvk cA hE hN hh hf fun i o ho=>(hs i o ho).2;let mo:Nat->dS:=fun i=>match ops[i]? with|some o=>tu P ops o|none=>⟨none,.stop,none⟩
   have GR:∀i o,ops[i]?=some o->mo i=tu P ops o:=fun i o ho=>by simp only[mo,ho]
   have zaj:∀i o,ops[i]?=some o->(mo i).dst=o.dst:=fun i o ho=>by rw[GR i o ho];unfold tu;split<;>rfl
   have de:∀i,i<ops.size->ops[i]?=some (ops[i]!):=fun i hi=>by simp[hi]
   have Pu:JI bA (fun k=>(mo k).dst) vI ops.size:=fun i hi t=>by
    obtain⟨g,b,_,_,hp,_⟩:=kj i _ (de i hi);show (bA (i+1)).r.get t=if (mo i).dst=some t then some (vI i) else (bA i).r.get t
    rw[zaj i _ (de i hi)];cases hd:(ops[i]!).dst with
    |none=>rw[hd]at hp;simp only[Fr.put,ar]at hp;rw[<-hp];simp
    |some d=>
     rw[hd]at hp;simp only[Fr.put]at hp;split at hp
     ·simp only[ar]at hp;rw[<-hp,Go.Mx.T.ag];by_cases e:t=d
      ·subst e;simp
      rw[ak e,ak (by simp[Ne.symm e])]
     cases hp
   have Or:Ord bh mo ops.size (fun k i=>((xu ops.toList []).getD k 0).testBit i=true):=by
    refine⟨fun i k Ph hk=>?_,fun i k Ph hk=>?_⟩
    ·exact Zzw IZ Ph ((hs i _ (by rw[Es];exact de i (by omega))).1) ((hs k _ (by rw[Es];exact de k hk)).1)
    refine Zzw hpt Ph ?_ ?_
    ·rw[eH,Es,de i (by omega),qH,GR i _ (de i (by omega))]
    rw[eH,Es,de k hk,qH,GR k _ (de k hk)]
   obtain⟨W,Ua,g_⟩:=Ztx T ops.size (aN _);obtain⟨wT,μT,aT,wsT,Ub,Zh⟩:=Ybg cA hE hN hh hf (fun i o ho=>(hs i o ho).2) ops.size (aN _);have zak:wsT=W:=List.append_cancel_right (Ub.wl.symm.trans Ua);subst zak;have B3:∀k,(Array.replicate ops.size false).getD k false=false:=fun k=>by
    simp only[I8];by_cases hk:k<ops.size
    ·simp[hk]
    simp[hk]
   have hcH:∀M j,mb aL bh (fun k=>(Array.replicate ops.size false).getD k false) M j=(aL 0).h.get j:=fun M j=>Uc (i:=0) (wX _) fun k _ _ _=>B3 k;have hcR:∀M t,xH bA (fun k=>(mo k).dst) (fun k=>(Array.replicate ops.size false).getD k false) M t=(bA 0).r.get t:=fun M t=>Ud (i:=0) (wX _) fun k _ _ _=>B3 k;have I0:Inv P μ w aL bA bh (fun k=>(mo k).dst) ops.size wsT (fun k=>(Array.replicate ops.size false).getD k false) μ a {w with drawn:=w.drawn+1}:=by
    refine⟨fun _ _=>rfl,fun j l hj=>⟨.inl (hh.dw j l hj).1,(hh.dw j l hj).2⟩,fun k _ hk=>?_,fun j l hj=>?_,fun i j l l' o o' h1 h2 h3 h4 h5=>?_,⟨hf.1.1,fun t v hv=>?_⟩,hf.2,⟨rfl,rfl,rfl,aN _,fun _ _ _=>rfl⟩,fun i l h1 h2=>absurd (hh.dw i l h2).1 (by omega)⟩
    ·rw[B3 k]at hk;cases hk
    ·obtain⟨o,q1,q2⟩:=hh.obj j l hj;exact⟨o,by rw[hcH];exact q1,OM.congr (w:=w) rfl q2⟩
    ·rw[hcH]at h4 h5;exact hh.inj i j l l' o o' h1 h2 h3 h4 h5
    rw[hcR]at hv;exact hf.1.2 t v hv
   refine wpIn_region_any hm (Yx8 cA hE hh kj T GR (fun _ _=>rfl) Pu Or g_ B2 ?_ ?_ ops.size _ μ a _ (by simp) ?_ ?_ I0)
   ·intro μ' xI i hi ds r_;exact rG.Pg (n:=(aL 0).n) (fun j l hj=>(hh.dw j l hj).1) (fun j l hj hl=>by have:=T.mono (i:=0) (k:=i) (by omega) (by omega);rw[Pj (by omega)];exact hl) hf.2 r_
   ·intro S μ' a' w' hS I;have hfH:∀j,j<(aL ops.size).n->mb aL bh S ops.size j=(aL ops.size).h.get j:=fun j hj=>Ztp T (aN _) hj fun k hk _=>hS k hk;have hfR:∀t,xH bA (fun k=>(mo k).dst) S ops.size t=(bA ops.size).r.get t:=fun t=>Zto Pu (aN _) fun k hk _=>hS k hk;have ET:∀j l,μ' j=some l->j<(aL ops.size).n:=fun j l hj=>by
     rcases(I.dw j l hj).1 with h|⟨k,h1,_,_,h2⟩
     ·have:=T.mono (i:=0) (k:=ops.size) (by omega) (by omega);omega
     have:=T.mono (i:=k+1) (k:=ops.size) (by omega) (by omega);omega
    rw[<-e3,<-e4];refine⟨rfl,μ',wsT,⟨⟨fun j l hj=>⟨ET j l hj,(I.dw j l hj).2⟩,fun j l hj=>?_,fun i j l l' o o' h1 h2 h3 h4 h5=>?_,fun g hg=>?_⟩,I.ext,T.mono (wX _) (aN _),Ua,I.fe,I.new,Ub.ad,Ub.grow,fun j h1 h2=>?_,Ub.AJ⟩,⟨?_,fun t v hv=>?_⟩,?_⟩
    ·obtain⟨o,q1,q2⟩:=I.obj j l hj;exact⟨o,by rw[<-hfH j (ET j l hj)];exact q1,q2⟩
    ·exact I.inj i j l l' o o' h1 h2 h3 (by rw[hfH i (ET i l h1)];exact h4) (by rw[hfH j (ET j l' h2)];exact h5)
    ·obtain⟨t,ht⟩:=hh.je g hg;exact⟨t,by rw[I.ext g (hh.dw g _ ht).1];exact ht⟩
    ·obtain⟨k,q1,q2,q3⟩:=Zq5 T j ops.size (aN _) h1 h2;exact I.full k q1 (hS k q1) j q2 q3
    ·rw[(T.fn ops.size (aN _)).1];exact I.xJ.1
    ·exact I.xJ.2 t v (by rw[hfR];exact hv)
    rw[(T.fn ops.size (aN _)).2];exact I.defs
   ·have:(fun k=>!(Array.replicate ops.size false).getD k false)=fun _=>true:=by funext k;rw[B3];rfl
    rw[this];simp
   intro k i hk;rw[B3 k]at hk;cases hk
  cases h
 cases h
end
mutual
def V.cm(ρ:Nat->Option Nat):V->Option V
 |.bool b=>some (.bool b)
 |.int k n=>some (.int k n)
 |.xn k n=>some (.xn k n)
 |.str s=>some (.str s)
 |.bP=>some .bP
 |.ptr i o=>match ρ i with
  |some i=>some (.ptr i o)
  |none=>none
 |.aa=>some .aa
 |.slice i o len cap sz=>match ρ i with
  |some i=>some (.slice i o len cap sz)
  |none=>none
 |.empty=>some .empty
 |.bW=>some .bW
 |.map i=>match ρ i with
  |some i=>some (.map i)
  |none=>none
 |.bZ=>some .bZ
 |.chan i=>match ρ i with
  |some i=>some (.chan i)
  |none=>none
 |.func f a c=>match V.fg ρ a,V.fg ρ c with
  |some a,some c=>some (.func f a c)
  |_,_=>none
 |.yield i=>match ρ i with
  |some i=>some (.yield i)
  |none=>none
 |.b_=>some .b_
 |.iface t v=>match V.cm ρ v with
  |some v=>some (.iface t v)
  |none=>none
 |.aZ=>some .aZ
 |.agg l=>match V.fg ρ l with
  |some l=>some (.agg l)
  |none=>none
 |.aU l=>match V.fg ρ l with
  |some l=>some (.aU l)
  |none=>none
def V.fg(ρ:Nat->Option Nat):List V->Option (List V)
 |[]=>some []
 |v::vs=>match V.cm ρ v,V.fg ρ vs with
  |some v,some vs=>some (v::vs)
  |_,_=>none
end
mutual
def VR.cm{μ μ':Mu}{ρ:Nat->Option Nat}(h:∀i i',ρ i=some i'->μ i=μ' i'):∀(v v':V) (x:Value),V.cm ρ v=some v'->(VR μ v x↔VR μ' v' x)
 |.bool _,v',x,hv=>by simp only[V.cm,ar]at hv;subst hv;simp only[VR]
 |.int _ _,v',x,hv=>by simp only[V.cm,ar]at hv;subst hv;simp only[VR]
 |.xn _ _,v',x,hv=>by simp only[V.cm,ar]at hv;subst hv;simp only[VR]
 |.str _,v',x,hv=>by simp only[V.cm,ar]at hv;subst hv;simp only[VR]
 |.bP,v',x,hv=>by simp only[V.cm,ar]at hv;subst hv;simp only[VR]
 |.ptr _ _,v',x,hv=>by
  simp only[V.cm]at hv;split at hv
  ·rename_i i' hi;simp only[ar]at hv;subst hv;simp only[VR,h _ _ hi]
  ·cases hv
 |.aa,v',x,hv=>by simp only[V.cm,ar]at hv;subst hv;simp only[VR]
 |.slice _ _ _ _ _,v',x,hv=>by
  simp only[V.cm]at hv;split at hv
  ·rename_i i' hi;simp only[ar]at hv;subst hv;simp only[VR,h _ _ hi]
  ·cases hv
 |.empty,v',x,hv=>by simp only[V.cm,ar]at hv;subst hv;simp only[VR]
 |.bW,v',x,hv=>by simp only[V.cm,ar]at hv;subst hv;simp only[VR]
 |.map _,v',x,hv=>by
  simp only[V.cm]at hv;split at hv
  ·rename_i i' hi;simp only[ar]at hv;subst hv;simp only[VR,h _ _ hi]
  ·cases hv
 |.bZ,v',x,hv=>by simp only[V.cm,ar]at hv;subst hv;simp only[VR]
 |.chan _,v',x,hv=>by
  simp only[V.cm]at hv;split at hv
  ·rename_i i' hi;simp only[ar]at hv;subst hv;simp only[VR,h _ _ hi]
  ·cases hv
 |.func _ a c,v',x,hv=>by
  simp only[V.cm]at hv;split at hv
  ·rename_i a' c' ha hc;simp only[ar]at hv;subst hv
   simp only[VR,fun xs=>aV.cm h a a' xs ha,fun xs=>aV.cm h c c' xs hc]
  ·cases hv
 |.yield _,v',x,hv=>by
  simp only[V.cm]at hv;split at hv
  ·rename_i i' hi;simp only[ar]at hv;subst hv;simp only[VR,h _ _ hi]
  ·cases hv
 |.b_,v',x,hv=>by simp only[V.cm,ar]at hv;subst hv;simp only[VR]
 |.iface _ v,v',x,hv=>by
  simp only[V.cm]at hv;split at hv
  ·rename_i u hu;simp only[ar]at hv;subst hv;simp only[VR,fun y=>VR.cm h v u y hu]
  ·cases hv
 |.aZ,v',x,hv=>by simp only[V.cm,ar]at hv;subst hv;simp only[VR]
 |.agg l,v',x,hv=>by
  simp only[V.cm]at hv;split at hv
  ·rename_i l' hl;simp only[ar]at hv;subst hv;simp only[VR,fun xs=>aV.cm h l l' xs hl]
  ·cases hv
 |.aU l,v',x,hv=>by
  simp only[V.cm]at hv;split at hv
  ·rename_i l' hl;simp only[ar]at hv;subst hv;simp only[VR,fun xs=>aV.cm h l l' xs hl]
  ·cases hv
def aV.cm{μ μ':Mu}{ρ:Nat->Option Nat}(h:∀i i',ρ i=some i'->μ i=μ' i'):∀(vs nG:List V) (xs:List Value),V.fg ρ vs=some nG->(aV μ vs xs↔aV μ' nG xs)
 |[],nG,xs,hv=>by simp only[V.fg,ar]at hv;subst hv;simp only[aV]
 |v::vs,nG,xs,hv=>by
  simp only[V.fg]at hv;split at hv
  ·rename_i u us hu uW;simp only[ar]at hv;subst hv
   simp only[aV,fun y=>VR.cm h v u y hu,fun ys=>aV.cm h vs us ys uW]
  ·cases hv
end
def V.jg{ρ:Nat->Option Nat}:∀{vs nG:List V},V.fg ρ vs=some nG->nG.length=vs.length
 |[],nG,h=>by simp only[V.fg,ar]at h;subst h;rfl
 |v::vs,nG,h=>by
  simp only[V.fg]at h;split at h
  ·rename_i u us hu uW;simp only[ar]at h;subst h;simp[V.jg uW]
  ·cases h
def V.vj{ρ:Nat->Option Nat}:∀{vs nG:List V} {j:Nat} {v':V},V.fg ρ vs=some nG->nG[j]?=some v'->∃v,vs[j]?=some v/\V.cm ρ v=some v'
 |[],nG,j,v',h,hj=>by simp only[V.fg,ar]at h;subst h;simp at hj
 |v::vs,nG,j,v',h,hj=>by
  simp only[V.fg]at h;split at h
  ·rename_i u us hu uW;simp only[ar]at h;subst h
   cases j with
   |zero=>simp at hj;subst hj;exact⟨v,by simp,hu⟩
   |succ j=>simpa using V.vj uW (j:=j) (by simpa using hj)
  ·cases h
def V.si{ρ:Nat->Option Nat}:∀{vs nG:List V} {j:Nat} {v:V},V.fg ρ vs=some nG->vs[j]?=some v->∃v',nG[j]?=some v'/\V.cm ρ v=some v'
 |[],nG,j,v',h,hj=>by simp at hj
 |v::vs,nG,j,v',h,hj=>by
  simp only[V.fg]at h;split at h
  ·rename_i u us hu uW;simp only[ar]at h;subst h
   cases j with
   |zero=>simp at hj;subst hj;exact⟨u,by simp,hu⟩
   |succ j=>simpa using V.si uW (j:=j) (by simpa using hj)
  ·cases h
def V.EU{ρ:Nat->Option Nat}{v v':V}(h:V.cm ρ v=some v'):v'.Io=v.Io:=by cases v<;>simp only[V.cm]at h<;>(try split at h)<;>simp only[ar,reduceCtorEq]at h<;>subst h<;>rfl
def Pm(ρ:Nat->Option Nat):List (V×V)->Option (List (V×V))
 |[]=>some []
 |(k,v)::es=>match V.cm ρ k,V.cm ρ v,Pm ρ es with
  |some k,some v,some es=>some ((k,v)::es)
  |_,_,_=>none
def jI.cm{μ μ':Mu}{ρ:Nat->Option Nat}(h:∀i i',ρ i=some i'->μ i=μ' i'):∀(es jd:List (V×V)) (xs:List MapEntry) (i:Nat),Pm ρ es=some jd->(jI μ es xs i↔jI μ' jd xs i)
 |[],jd,xs,i,he=>by simp only[Pm,ar]at he;subst he;simp only[jI]
 |(k,v)::es,jd,xs,i,he=>by
  simp only[Pm]at he;split at he
  ·rename_i k' v' us hk hv uW;simp only[ar]at he;subst he
   simp only[jI,fun y=>VR.cm h k k' y hk,fun y=>VR.cm h v v' y hv,fun ys i=>jI.cm h es us ys i uW]
  ·cases he
def O.cm(ρ:Nat->Option Nat):O->Option O
 |.cells c e rw=>match V.fg ρ c with
  |some c=>some (.cells c e rw)
  |none=>none
 |.map es=>match Pm ρ es with
  |some es=>some (.map es)
  |none=>none
 |.chan cap buf=>match V.fg ρ buf with
  |some buf=>some (.chan cap buf)
  |none=>none
 |.fm s pos=>some (.fm s pos)
 |.defs o=>some (.defs o)
 |.loop _=>none
 |.dead=>some .dead
def O.B4{ρ:Nat->Option Nat}{o o':O}(h:o.cm ρ=some o'):o'.wr=o.wr:=by cases o<;>simp only[O.cm]at h<;>(try split at h)<;>simp only[ar,reduceCtorEq]at h<;>subst h<;>rfl
def O.vk{ρ:Nat->Option Nat}{o o':O}(h:o.cm ρ=some o'):o'.live=o.live:=by cases o<;>simp only[O.cm]at h<;>(try split at h)<;>simp only[ar,reduceCtorEq]at h<;>subst h<;>rfl
def OM.cm{P:Program}{μ μ':Mu}{w:World}{ρ:Nat->Option Nat}(h:∀i i',ρ i=some i'->μ i=μ' i'){o o':O}{l:L}(ho:o.cm ρ=some o'):OM P μ w o l↔OM P μ' w o' l:=by
 cases o with
 |cells c e rw=>
  simp only[O.cm]at ho;split at ho
  ·rename_i c' hc;simp only[ar]at ho;subst ho;constructor
   ·rintro⟨d,lo,hi,h1,h2,h3,h4,h5⟩;refine⟨d,lo,hi,h1,h2,by rw[V.jg hc];exact h3,fun j v' I9=>?_,h5⟩;obtain⟨v,hv,hr⟩:=V.vj hc I9;obtain⟨x,hx,Dz⟩:=h4 j v hv;exact⟨x,hx,(VR.cm h v v' x hr).1 Dz⟩
   rintro⟨d,lo,hi,h1,h2,h3,h4,h5⟩;refine⟨d,lo,hi,h1,h2,by rw[V.jg hc]at h3;exact h3,fun j v hv=>?_,h5⟩;obtain⟨v',I9,hr⟩:=V.si hc hv;obtain⟨x,hx,Dz⟩:=h4 j v' I9;exact⟨x,hx,(VR.cm h v v' x hr).2 Dz⟩
  cases ho
 |map es=>
  simp only[O.cm]at ho;split at ho
  ·rename_i jd he;simp only[ar]at ho;subst ho;simp only[OM,fun xs i=>jI.cm h es jd xs i he]
  cases ho
 |chan cap buf=>
  simp only[O.cm]at ho;split at ho
  ·rename_i c' hc;simp only[ar]at ho;subst ho;simp only[OM,fun xs=>aV.cm h buf c' xs hc]
  cases ho
 |fm s pos=>simp only[O.cm,ar]at ho;subst ho;simp only[OM]
 |loop R=>simp only[O.cm,reduceCtorEq]at ho
 |defs b=>simp only[O.cm,ar]at ho;subst ho;simp only[OM]
 |dead=>simp only[O.cm,ar]at ho;subst ho;simp only[OM]
def GU(ρ:Nat->Option Nat)(o O':O):Prop:=
 o=.dead\/o.cm ρ=some O'\/∃c e c',o=.cells c e false/\V.fg ρ c=some c'/\O'=.cells c' e true
def GU.om{P:Program}{μ μ':Mu}{w:World}{ρ:Nat->Option Nat}(h:∀i i',ρ i=some i'->μ i=μ' i'){o o':O}{l:L}(ho:GU ρ o o')(hm:OM P μ' w o' l):OM P μ w o l:=by
 rcases ho with rfl|ho|⟨c,e,c',rfl,hc,rfl⟩
 ·trivial
 ·exact(OM.cm h ho).2 hm
 have h1:(O.cells c e true).cm ρ=some (.cells c' e true):=by simp only[O.cm,hc]
 obtain⟨d,lo,hi,q1,q2,q3,q4,q5,_⟩:=(OM.cm h h1).2 hm;exact⟨d,lo,hi,q1,q2,q3,q4,q5,fun hx=>by cases hx⟩
def GU.wr{ρ:Nat->Option Nat}{o o':O}(ho:GU ρ o o')(h:o.wr=true):o'.wr=true/\o.cm ρ=some o':=by
 rcases ho with rfl|ho|⟨c,e,c',rfl,hc,rfl⟩
 ·simp[O.wr]at h
 ·exact⟨(O.B4 ho).trans h,ho⟩
 simp[O.wr]at h
def GU.live{ρ:Nat->Option Nat}{o o':O}(ho:GU ρ o o')(h:o.live=true):o'.live=true:=by
 rcases ho with rfl|ho|⟨c,e,c',rfl,hc,rfl⟩
 ·simp[O.live]at h
 ·exact(O.vk ho).trans h
 rfl
def O.ze{o:O}(h:o.wr=true):o.live=true:=by cases o<;>simp_all [O.wr,O.live]
def MG(P:Program)(g:V)(args:List V)(st:St)(v:V)(aB:St):Prop:=
 ∀(μ:Mu) (w:World) (G:Value) (xs:List Value),bq P μ w st->VR μ g G->aV μ args xs->
  Pn P g.Io G ⟨xs⟩ w fun x w'=>∃μ' ws,VR μ' v x/\bN P μ w st μ' w' aB ws
def Pn.mono{P:Program}{y:Bool}{G:Value}{xs:Array Value}{w:World}{R R':Value->World->Prop}(h:Pn P y G xs w R)(hR:∀x w',R x w'->R' x w'):Pn P y G xs w R':=by
 obtain⟨d,hd,jh⟩:=h;refine⟨d,hd,?_⟩;rcases jh with⟨hy,f,args,hinv,JL⟩|⟨hy,l,f,tmps,gY,gZ,hinv,MH⟩
 ·refine .inl ⟨hy,f,args,hinv,CallsIn.mono (F:=Fence.wide) JL fun e w' he=>?_⟩;cases e with
  |returned x=>exact hR x w' he
  |panicked _=>exact he.elim
  |outgrown=>exact he.elim
 refine .inr ⟨hy,l,f,tmps,gY,gZ,hinv,RoundIn.mono (F:=Fence.wide) MH fun e w' he=>?_⟩;cases e with
 |returned x=>exact hR x w' he
 |panicked _=>exact he.elim
 |outgrown=>exact he.elim
structure JM (P:Program) (σ ρ:Nat->Option Nat) (W:List Nat) (s s' S S':St):Prop where
 dw:∀i i',σ i=some i'->i<s.n/\i'<S.n
 inj:∀i j i',σ i=some i'->σ j=some i'->i=j
 je:∀g,g<P.globals.size->σ g=some g
 obj:∀i i',σ i=some i'->∃o O',s.h.get i=some o/\GU σ o O'/\(S.h.get i'=some O'\/o=.dead)
 old:∀i,i<s.n->ρ i=σ i
 new:∀i i',s.n<=i->ρ i=some i'->S.n<=i'/\i'<S'.n/\i<s'.n
 JN:∀i j i',s.n<=i->s.n<=j->ρ i=some i'->ρ j=some i'->i=j
 full:∀i',S.n<=i'->i'<S'.n->∃i,s.n<=i/\ρ i=some i'
 iy:S.n<=S'.n
 w0:s.w=[]
 W1:∀i i',i∈s'.w->σ i=some i'->i'∈W
 W2:∀j,j∈W->∃i,i∈s'.w/\σ i=some j
 wl:S'.w=W++S.w
 ad:∀j,j<S.n->j∉W->S'.h.get j=S.h.get j
 wr:∀i i',i∈s'.w->σ i=some i'->∃o O',s'.h.get i=some o/\S'.h.get i'=some O'/\(O'=.dead\/o.cm ρ=some O')
 obn:∀i i',s.n<=i->ρ i=some i'->∃o O',s'.h.get i=some o/\S'.h.get i'=some O'/\(O'=.dead\/o.cm ρ=some O')
section
variable {P:Program} {σ ρ:Nat->Option Nat} {W:List Nat} {s s' S S':St}
def JM.vg(F:JM P σ ρ W s s' S S'){μ:Mu}{w:World}(hh:bq P μ w S):bq P (fun i=>(σ i).bind μ) w s:=by
 have hb:∀i l,(σ i).bind μ=some l->∃i',σ i=some i'/\μ i'=some l:=fun i l h=>by
  cases hs:σ i with
  |none=>rw[hs]at h;cases h
  |some i'=>rw[hs]at h;exact⟨i',rfl,h⟩
 refine⟨fun i l hl=>?_,fun i l hl=>?_,fun i j l l' o o' hi hj aX ho yU hw rC=>?_,fun g hg=>?_⟩
 ·obtain⟨i',h1,h2⟩:=hb i l hl;exact⟨(F.dw i i' h1).1,(hh.dw i' l h2).2⟩
 ·obtain⟨i',h1,h2⟩:=hb i l hl;obtain⟨o,O',g1,g2,g3⟩:=F.obj i i' h1;refine⟨o,g1,?_⟩;rcases g3 with g3|rfl
  ·obtain⟨O2,q1,q2⟩:=hh.obj i' l h2;rw[g3]at q1;cases q1;exact GU.om (fun i i' hi=>by simp[hi]) g2 q2
  trivial
 ·obtain⟨i',h1,h2⟩:=hb i l hi;obtain⟨j',h3,h4⟩:=hb j l' hj;obtain⟨o1,O1,a1,a2,a3⟩:=F.obj i i' h1;obtain⟨o2,O2,b1,b2,b3⟩:=F.obj j j' h3;rw[ho]at a1;cases a1;rw[yU]at b1;cases b1;have a3':S.h.get i'=some O1:=a3.resolve_right fun e=>by subst e;simp[O.wr]at hw
  have b3':S.h.get j'=some O2:=b3.resolve_right fun e=>by subst e;simp[O.live]at rC
  refine hh.inj i' j' l l' O1 O2 h2 h4 (fun e=>aX ?_) a3' b3' (a2.wr hw).1 (b2.live rC);subst e;exact F.inj i j i' h1 h3
 obtain⟨t,ht⟩:=hh.je g hg;exact⟨t,by simp[F.je g hg,ht]⟩
def JM.stp(F:JM P σ ρ W s s' S S'){μ:Mu}{w w':World}(hh:bq P μ w S){μ':Mu}{ws:List Nat}(h:bN P (fun i=>(σ i).bind μ) w s μ' w' s' ws):
  ∃μ2,bN P μ w S μ2 w' S' W/\∀i i',ρ i=some i'->μ' i=μ2 i':=by
 have se:s'.w=ws:=by have:=h.wl;rw[F.w0]at this;simpa using this
 have hinv:∃τ:Nat->Nat,∀i',S.n<=i'->i'<S'.n->s.n<=τ i'/\ρ (τ i')=some i':=by
  classical
  refine⟨fun i'=>if hc:∃i,s.n<=i/\ρ i=some i' then hc.choose else 0,fun i' h1 h2=>?_⟩;have hc:=F.full i' h1 h2;simp only[dif_pos hc];exact hc.choose_spec
 obtain⟨τ,hτ⟩:=hinv;let μ2:Mu:=fun i'=>if i'<S.n then μ i' else if i'<S'.n then μ' (τ i') else none
 have hold:∀i',i'<S.n->μ2 i'=μ i':=fun i' hi=>by show (if i'<S.n then _ else _)=_;rw[av hi]
 have tg:∀i',S.n<=i'->i'<S'.n->μ2 i'=μ' (τ i'):=fun i' h1 h2=>by show (if i'<S.n then _ else _)=_;rw[ak (by omega),av h2]
 have dc:∀i' l,μ2 i'=some l->i'<S'.n:=fun i' l hl=>by
  by_cases h1:i'<S.n
  ·exact fH h1 F.iy
  by_cases h2:i'<S'.n
  ·exact h2
  have:μ2 i'=none:=by show (if i'<S.n then _ else _)=_;rw[ak h1,ak h2]
  rw[this]at hl;cases hl
 have hμs:∀i,i<s.n->μ' i=(σ i).bind μ:=fun i hi=>h.ext i hi;have hρ:∀i i',ρ i=some i'->μ' i=μ2 i':=fun i i' hi=>by
  by_cases h1:i<s.n
  ·have h2:σ i=some i':=(F.old i h1).symm.trans hi;rw[hμs i h1,h2,hold i' (F.dw i i' h2).2];rfl
  obtain⟨g1,g2,_⟩:=F.new i i' (by omega) hi;obtain⟨k1,k2⟩:=hτ i' g1 g2;rw[tg i' g1 g2,F.JN i (τ i') i' (by omega) k1 hi k2]
 have B5:∀j,j∈W->∃i,i∈ws/\σ i=some j/\i<s.n/\j<S.n:=fun j hj=>by obtain⟨i,h1,h2⟩:=F.W2 j hj;exact⟨i,se▸h1,h2,F.dw i j h2⟩
 have Al:∀i i',i∈ws->σ i=some i'->∃O',S.h.get i'=some O'/\O'.wr=true:=fun i i' hi hs=>by obtain⟨o,ho,hw⟩:=h.AJ i hi (F.dw i i' hs).1;obtain⟨o1,O1,a1,a2,a3⟩:=F.obj i i' hs;rw[ho]at a1;cases a1;exact⟨O1,a3.resolve_right fun e=>by subst e;simp[O.wr]at hw,(a2.wr hw).1⟩
 have tB:∀j l,j<S.n->j∉W->μ j=some l->∀O',S.h.get j=some O'->O'.live=true->w'.heap[l.b]?=w.heap[l.b]?:=fun j l hj Ue hl O' hO rC=>by
  refine h.fe.block l.b (hh.dw j l hl).2 fun i hi li TF=>?_;cases hs:σ i with
  |none=>simp[hs]at TF
  |some i'=> simp only[hs,Option.bind_some]at TF;obtain⟨O1,q1,q2⟩:=Al i i' hi hs;refine hh.inj i' j li l O1 O' TF hl (fun e=>Ue ?_) q1 hO q2 rC;subst e;exact F.W1 i i' (se▸hi) hs
 have JO:∀i i' l,ρ i=some i'->μ2 i'=some l->(s.n<=i\/i∈ws)->∃o O',s'.h.get i=some o/\S'.h.get i'=some O'/\(O'=.dead\/o.cm ρ=some O')/\OM P μ2 w' O' l:=fun i i' l hi hl hc=>by
  have key:∃o O',s'.h.get i=some o/\S'.h.get i'=some O'/\(O'=.dead\/o.cm ρ=some O'):=by
   by_cases h1:i<s.n
   ·rcases hc with hc|hc
    ·omega
    exact F.wr i i' (se▸hc) ((F.old i h1).symm.trans hi)
   exact F.obn i i' (by omega) hi
  obtain⟨o,O',g1,g2,g3⟩:=key;refine⟨o,O',g1,g2,g3,?_⟩;rcases g3 with rfl|g3
  ·trivial
  obtain⟨o2,q1,q2⟩:=h.hr.obj i l ((hρ i i' hi).trans hl);rw[g1]at q1;cases q1;exact(OM.cm hρ g3).1 q2
 have vn:∀i' l,μ2 i'=some l->(i'<S.n/\i'∉W/\μ i'=some l/\S'.h.get i'=S.h.get i')\/∃i,ρ i=some i'/\μ' i=some l/\(s.n<=i\/i∈ws):=fun i' l hl=>by
  by_cases h1:i'<S.n
  ·by_cases h2:i'∈W
   ·obtain⟨i,q1,q2,q3,_⟩:=B5 i' h2;have hr:ρ i=some i':=(F.old i q3).trans q2;exact .inr ⟨i,hr,(hρ i i' hr).trans hl,.inr q1⟩
   exact .inl ⟨h1,h2,(hold i' h1)▸hl,F.ad i' h1 h2⟩
  have h2:=dc i' l hl;obtain⟨k1,k2⟩:=hτ i' (by omega) h2;exact .inr ⟨τ i',k2,(hρ _ _ k2).trans hl,.inl k1⟩
 have B6:∀i' l O',i'<S.n->i'∉W->μ i'=some l->S.h.get i'=some O'->O'.live=true->∀k k' lk,ρ k=some k'->μ' k=some lk->(s.n<=k\/k∈ws)->(O'.wr=true\/∃o,s'.h.get k=some o/\o.wr=true)->l.b≠lk.b:=by
  intro i' l O' hi Ue hl hO rC k k' lk hk gj hc MI;by_cases h1:k<s.n
  ·have hkw:k∈ws:=hc.resolve_left (by omega);have hs:σ k=some k':=(F.old k h1).symm.trans hk;obtain⟨O1,q1,q2⟩:=Al k k' hkw hs;have jV:μ k'=some lk:=by rw[hμs k h1,hs]at gj;exact gj
   have aX:k'≠i':=fun e=>Ue (e▸F.W1 k k' (se▸hkw) hs);exact(hh.inj k' i' lk l O1 O' jV hl aX q1 hO q2 rC).symm
  rcases h.new k lk (by omega) gj with re|⟨j,hj,C9,lj,oj,wj,hb,I6,hjw⟩
  ·have:=(hh.dw i' l hl).2;omega
  cases hs:σ j with
  |none=>simp[hs]at wj
  |some j'=> simp only[hs,Option.bind_some]at wj;obtain⟨O1,q1,q2⟩:=Al j j' hj hs;have aX:j'≠i':=fun e=>Ue (e▸F.W1 j j' (se▸hj) hs);rw[<-hb];exact(hh.inj j' i' lj l O1 O' wj hl aX q1 hO q2 rC).symm
 refine⟨μ2,⟨⟨fun i' l hl=>⟨dc i' l hl,?_⟩,fun i' l hl=>?_,fun i' j' l l' O1 O2 hi hj aX Uf zf hw rC=>?_,fun g hg=>?_⟩,hold,F.iy,F.wl,⟨h.fe.os,h.fe.tape,h.fe.output,h.fe.size,fun b hb dV=>?_⟩,fun i' l kl hl=>?_,F.ad,fun i' O' kl hO=>?_,fun i' h1 h2=>?_,fun i' kl _=>?_⟩,hρ⟩
 ·rcases vn i' l hl with⟨_,_,g,_⟩|⟨i,_,g,_⟩
  ·exact fH (hh.dw i' l g).2 h.fe.size
  exact(h.hr.dw i l g).2
 ·rcases vn i' l hl with⟨g1,g2,g3,g4⟩|⟨i,g1,g2,g3⟩
  ·obtain⟨O',q1,q2⟩:=hh.obj i' l g3;refine⟨O',g4.trans q1,?_⟩;cases rC:O'.live with
   |false=>cases O'<;>simp[O.live]at rC;trivial
   |true=> refine OM.congr (w:=w) (tB i' l g1 g2 g3 O' q1 rC) (q2.mono fun k lk hk=>?_);rw[hold k (hh.dw k lk hk).1];exact hk
  obtain⟨o,O',q1,q2,q3,q4⟩:=JO i i' l g1 hl g3;exact⟨O',q2,q4⟩
 ·rcases vn i' l hi with⟨a1,a2,a3,a4⟩|⟨i,a1,a2,a3⟩
  ·rw[a4]at Uf;rcases vn j' l' hj with⟨b1,b2,b3,b4⟩|⟨j,b1,b2,b3⟩
   ·rw[b4]at zf;exact hh.inj i' j' l l' O1 O2 a3 b3 aX Uf zf hw rC
   exact B6 i' l O1 a1 a2 a3 Uf (O.ze hw) j j' l' b1 b2 b3 (.inl hw)
  obtain⟨o1,O1',q1,q2,q3,_⟩:=JO i i' l a1 hi a3;rw[Uf]at q2;cases q2;have LM:o1.cm ρ=some O1:=q3.resolve_left fun e=>by subst e;simp[O.wr]at hw
  have Lg:o1.wr=true:=(O.B4 LM).symm.trans hw;rcases vn j' l' hj with⟨b1,b2,b3,b4⟩|⟨j,b1,b2,b3⟩
  ·rw[b4]at zf;exact(B6 j' l' O2 b1 b2 b3 zf rC i i' l a1 a2 a3 (.inr ⟨o1,q1,Lg⟩)).symm
  obtain⟨o2,O2',r1,r2,r3,_⟩:=JO j j' l' b1 hj b3;rw[zf]at r2;cases r2;have r3':o2.cm ρ=some O2:=r3.resolve_left fun e=>by subst e;simp[O.live]at rC
  refine h.hr.inj i j l l' o1 o2 a2 b2 (fun e=>aX ?_) q1 r1 Lg ((O.vk r3').symm.trans rC);subst e;rw[a1]at b1;cases b1;rfl
 ·obtain⟨t,ht⟩:=hh.je g hg;exact⟨t,by rw[hold g (hh.dw g _ ht).1];exact ht⟩
 ·refine h.fe.block b hb fun i hi l hl=>?_;cases hs:σ i with
  |none=>simp[hs]at hl
  |some i'=> simp only[hs,Option.bind_some]at hl;exact dV i' (F.W1 i i' (se▸hi) hs) l hl
 ·have h2:=dc i' l hl;obtain⟨k1,k2⟩:=hτ i' kl h2;rcases h.new (τ i') l k1 ((hρ _ _ k2).trans hl)with re|⟨j,hj,C9,lj,oj,wj,hb,I6,hjw⟩
  ·exact .inl re
  cases hs:σ j with
  |none=>simp[hs]at wj
  |some j'=> simp only[hs,Option.bind_some]at wj;obtain⟨O1,q1,q2⟩:=Al j j' hj hs;exact .inr ⟨j',F.W1 j j' (se▸hj) hs,(F.dw j j' hs).2,lj,O1,wj,hb,q1,q2⟩
 ·by_cases hW:i'∈W
  ·obtain⟨i,q1,q2,q3,q4⟩:=B5 i' hW;obtain⟨O1,r1,r2⟩:=Al i i' q1 q2;exact⟨O1,r1,fun _=>r2,fun _=>O.ze r2⟩
  exact⟨O',(F.ad i' kl hW).symm.trans hO,id,id⟩
 ·obtain⟨k1,k2⟩:=hτ i' h1 h2;obtain⟨l,hl⟩:=h.full (τ i') k1 (F.new _ _ k1 k2).2.2;exact⟨l,(tg i' h1 h2).trans hl⟩
 obtain⟨i,q1,q2,_⟩:=B5 i' kl;exact Al i i' q1 q2
def MG.frame{g v:V}{args:List V}(h:MG P g args s v s')(F:JM P σ ρ W s s' S S'){g' v':V}{B7:List V}(hg:V.cm σ g=some g')(ha:V.fg σ args=some B7)(hv:V.cm ρ v=some v'):
  MG P g' B7 S v' S':=by
 intro μ w G xs hh hG rU;have hσ:∀i i',σ i=some i'->(fun i=>(σ i).bind μ) i=μ i':=fun i i' hi=>by simp[hi]
 have:=h (fun i=>(σ i).bind μ) w G xs (F.vg hh) ((VR.cm hσ g g' G hg).2 hG) ((aV.cm hσ args B7 xs ha).2 rU);rw[V.EU hg];refine this.mono fun x w' ⟨μ',ws,h1,h2⟩=>?_;obtain⟨μ2,k1,k2⟩:=F.stp hh h2;exact⟨μ2,W,(VR.cm k2 v v' x hv).1 h1,k1⟩
end
def uD(a b:cQ):cQ:=fun g args st=>match a g args st with
 |some r=>some r
 |none=>b g args st
def kK.or{P:Program}{a b:cQ}(ha:kK P a)(hb:kK P b):kK P (uD a b):=by
 intro g args st v aB h;unfold uD at h;split at h
 ·rename_i r hr;cases h;exact ha g args st v aB hr
 exact hb g args st v aB h
end Go.Mx
