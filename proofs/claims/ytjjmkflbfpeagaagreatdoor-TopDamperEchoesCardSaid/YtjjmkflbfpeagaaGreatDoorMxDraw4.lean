/-A region that draws its order-/
import Derived.Test.YtjjmkflbfpeagaaGreatDoorMxDraw
set_option linter.all false
namespace Go.Mx
open Go
section
variable {P:Program} {μ:Mu} {w:World} {st ax:St} {fr bB:Fr} {a:Act} {call:cH} {v:V} {lb:Option Nat}
def Zya:∀(l:List Nat) (n j:Nat),j<n->(j∈aB n l↔j∈l):=by
 intro l n i hi
 induction l with
 |nil=>simp[aB]
 |cons j l ih=>
  simp only[aB]
  split
  ·unfold vD
   split
   ·rename_i hc
    simp only[jy,ih]
    simp only[Na]at hc
    constructor
    ·exact .inr
    ·rintro(rfl|h)
     ·exact ih.1 hc
     ·exact h
   ·simp only[jy,ih]
  ·simp only[jy,ih]
   constructor
   ·exact .inr
   ·rintro(rfl|h)
    ·omega
    ·exact h
def Ygb(bR:iO P call)(hE:rn P){ops:Array Oper}{Q:Exit->Act->World->Prop}{aI:Nat->St}{bo:Nat->Fr}{vI:Nat->V}{aX:Nat->FP}{S:Nat->Bool}{W:List Nat}{μ':Mu}{a':Act}{w':World}
  (h0:a_ P μ w (aI 0)) (hs:∀i o,ops[i]?=some o->xM P call ops o (aI i) (bo i) (vI i) (aX i) (aI (i+1)) (bo (i+1)))
  (T:sQ P μ aI bo aX ops.size) {ds:Nat->Option Nat} {mo:Nat->dk} (B7:∀i o,ops[i]?=some o->mo i=oX P ops o) (nZ:∀k,k<ops.size->ds k=(mo k).dst) (Pu:DV bo ds vI ops.size)
  {jQ:Nat->Nat->Prop} (Or:Ord aX mo ops.size jQ) (I:Inv P μ w aI bo aX ds ops.size W S μ' a' w') (dM:∀k,S k=true->∀i,jQ k i->S i=true) (hW:∀k,k<ops.size->∀j∈(aX k).wr,j∈W)
  (xN:∀i,i<ops.size->∀ds,nJ μ' (bo 0).marks ds->nJ (xJ μ' (aI i).n) (bo 0).marks ds)
  {i:Nat} (hi:i<ops.size) (hS:S i=false) (hb:∀j,jQ i j->S j=true) {K:Act->World->Prop}
  (hK:∀μ2 a2 w2,Inv P μ w aI bo aX ds ops.size W (ku S i) μ2 a2 w2->K a2 w2):wpOpIn (FE lb) 0 P ops Q i K a' w':=by
 have ho:ops[i]?=some ops[i]:=Array.getElem?_eq_getElem hi
 obtain⟨g,b,hg,hw,hp,ht,IV⟩:=hs i _ ho
 have hmi:=B7 i _ ho
 have DZ:mo i=⟨ops[i].dst,xx P ops[i].op,g⟩:=by rw[hmi];unfold oX;rw[hg]
 have ib:ds i=ops[i].dst:=by rw[nZ i hi,DZ]
 have D3:∀s∈(xx P ops[i].op).Ay,∀t∈s.tmps,t∈(mo i).reads:=fun s hs t ht=>by
  rw[DZ];simp only[dk.reads,kl,List.mem_flatMap];exact .inr ⟨s,hs,ht⟩
 have YM:=Yg1 T Pu I Or dM nZ hi hS hb
 have uf:bM (xI (bo i).r (mo i).reads) g=bM (bo i).r g:=by
  cases g with
  |none=>rfl
  |some p=>
   obtain⟨t,want⟩:=p
   simp only[bM]
   rw[IQ,aJ (by rw[DZ];simp[dk.reads])]
 have uD:∀d,ds i=some d->d<(bo 0).n:=fun d hd=>by
  rw[ib]at hd
  rw[hd]at hp
  simp only[Fr.put]at hp
  split at hp
  ·rename_i aO;rw[<-(T.fn i (by omega)).1];exact aO
  ·cases hp
 unfold wpOpIn
 rw[ho]
 simp only[]
 have YN:Region.wanted ops[i] (yielded ops a'.tmps)=b:=Yq (fr:={r:=xI (bo i).r (mo i).reads,n:=(bo 0).n,marks:=[]}) (a:=a') YM hg (by rw[uf];exact hw)
 cases b with
 |true=>
  rw[aJ YN]
  obtain⟨s',hm,jf,IW⟩:=ht rfl
  obtain⟨σ,σ',k1,k2,k3,k4,k5,k6,k7,k8,k9⟩:=Yf8 (ws:=aB (aI i).n s'.w) (lo:=(aI i).n) (hi:=s'.n) hm rfl
  rw[<-IW]at k6 k7 k8 k9
  obtain⟨qC,je⟩:=YH h0 T I Or dM hi hS hb k1 k6 k7
  have wL:kr (xJ μ' (aI i).n) {r:=xI (bo i).r (mo i).reads,n:=(bo 0).n,marks:=(bo 0).marks} a':=⟨YM,xN i hi _ I.defs⟩
  have Nn:bX (xx P ops[i].op) call (xI (bo i).r (mo i).reads) σ=some (vI i,σ'):=by
   rw[Ybu (r':=(bo i).r) fun s hs=>Ylq (D3 s hs)];exact k3
  refine RT bR hE qC wL Nn fun x w2 μ2 ws hv ff=>?_
  have oz:ws=s'.w:=by
   have:=ff.wl
   rw[k2,k5,yX]at this
   exact this.symm
  have AE:(aI (i+1)).n=s'.n:=by rw[jf]
  have hh':(aI (i+1)).h=s'.h:=by rw[jf]
  have hinv:=YI h0 T Pu I Or dM nZ hW hi hS uD qC je k1 (by rw[k4,AE]) ff (fun j hj=>by
   rw[oz,IW,(Sr (call:=call) hm _ _).1]
   exact(Zya _ _ _ hj).symm) (fun j hj=>k9 j (by rw[<-oz];exact hj)) (fun j hj=>by rw[hh'];exact k8 j (by rw[AE]at hj;exact hj)) hv
  rw[ib]at hinv
  exact hK _ _ _ hinv
 |false=>
  rw[aq (by rw[YN];simp)]
  obtain⟨hv,jf,IW⟩:=IV rfl
  refine⟨fun _ _=>trivial,?_⟩
  have sV:∀j,¬(aX i).de j:=fun j=>by rw[IW];simp[FP.de]
  obtain⟨qC,je⟩:=YH (σ:=⟨pw (aI i).h [] (aI i).n,(aI i).n,[]⟩) h0 T I Or dM hi hS hb rfl (fun j _ hj=>absurd hj (sV j)) (fun j hj _=>by
   show (pw (aI i).h [] (aI i).n).get j=_
   rw[GP,aJ hj];simp)
  have AE:(aI (i+1)).n=(aI i).n:=by rw[jf]
  have:=YI (x:=undef) (ws:=[]) (σ':=⟨pw (aI i).h [] (aI i).n,(aI i).n,[]⟩) h0 T Pu I Or dM nZ hW hi hS uD qC je rfl AE.symm (bA.refl qC) (fun j hj=>by rw[IW]) (fun j hj=>by simp at hj) (fun j hj=>by
   rcases hj with⟨h,_⟩|⟨h1,h2⟩
   ·exact absurd h (sV j)
   ·omega) (by rw[hv];exact⟨[],rfl,by simp[aP]⟩)
  rw[ib]at this
  exact hK _ _ _ this
def YO:∀{os:List Oper} {b:Nat},Gu b os=true->∀i o,os[i]?=some o->∀e∈o.after,Region.binds .any e=true->e.on<b+i
 |[],b,_,i,o,h,_,_,_=>by simp at h
 |o0::os,b,h,i,o,ho,e,he,hb=>by
  simp only[Gu,iS]at h
  cases i with
  |zero=>
   simp only[zq,ak]at ho
   subst ho
   have h1:=h.1
   rw[R5]at h1
   have:=h1 e he
   rw[hb]at this
   simpa[Nat.blt_eq]using this
  |succ i=>
   have:=YO h.2 i o (by simpa using ho) e he hb
   omega
def Zzn{ops:Array Oper}(he:Gu 0 ops.toList=true){listed:Array Bool}(jc:listed.size=ops.size)(hr:Region.ready .any ops listed=[]):∀k,k<ops.size->listed.getD k false=true:=by
 intro k
 induction k using Nat.strongRecOn with
 |_ k ih=>
  intro hk
  refine Classical.byContradiction fun hn=>?_
  have AI:k∈Region.ready .any ops listed:=by
   unfold Region.ready
   simp only[List.mem_filter,List.mem_range,iS,Dt]
   refine⟨hk,?_,?_⟩
   ·have fz:k<listed.size:=by omega
    simp only[Array.getD,fz,dif_pos]at hn ⊢
    simpa using hn
   ·have ho:ops[k]?=some ops[k]:=Array.getElem?_eq_getElem hk
    rw[ho]
    simp only[Aq,BH,R5,Du,Dt]
    intro e IX
    cases hb:Region.binds .any e with
    |false=>exact .inl rfl
    |true=>
     have:=YO he k ops[k] (by rw[xz];exact ho) e IX hb
     exact .inr (ih e.on (by omega) (by omega))
  rw[hr]at AI
  cases AI
def Ydn{p q:Nat->Bool}{i:Nat}(hp:p i=true)(hq:q i=false)(ho:∀k,k≠i->q k=p k):∀N,i<N->(List.range N).countP q+1=(List.range N).countP p:=by
 have same:∀N,N<=i->(List.range N).countP q=(List.range N).countP p:=by
  intro N
  induction N with
  |zero=>intro _;rfl
  |succ N ih=>
   intro h
   rw[List.range_succ,List.countP_append,List.countP_append,ih (by omega)]
   simp[ho N (by omega)]
 intro N
 induction N with
 |zero=>intro h;omega
 |succ N ih=>
  intro h
  rw[List.range_succ,List.countP_append,List.countP_append]
  by_cases e:N=i
  ·subst e
   rw[same N (aR _)]
   simp[hp,hq]
  ·have:=ih (by omega)
   simp only[List.countP_singleton,ho N e]
   omega
end
section
variable {P:Program} {μ:Mu} {w:World} {st ax:St} {fr bB:Fr} {a:Act} {call:cH} {v:V} {lb:Option Nat}
def Yhh{listed:Array Bool}{i:Nat}(hi:i<listed.size):(fun k=>(listed.setIfInBounds i true).getD k false)=ku (fun k=>listed.getD k false) i:=by
 funext k
 simp only[ku,Dr]
 by_cases e:k=i
 ·subst e;simp[hi]
 ·rw[Gw (Ne.symm e),aq e]
def Yof(bR:iO P call)(hE:rn P){ops:Array Oper}{Q:Exit->Act->World->Prop}{aI:Nat->St}{bo:Nat->Fr}{vI:Nat->V}{aX:Nat->FP}{W:List Nat}
  (h0:a_ P μ w (aI 0)) (hs:∀i o,ops[i]?=some o->xM P call ops o (aI i) (bo i) (vI i) (aX i) (aI (i+1)) (bo (i+1)))
  (T:sQ P μ aI bo aX ops.size) {ds:Nat->Option Nat} {mo:Nat->dk} (B7:∀i o,ops[i]?=some o->mo i=oX P ops o) (nZ:∀k,k<ops.size->ds k=(mo k).dst) (Pu:DV bo ds vI ops.size)
  (Or:Ord aX mo ops.size (fun k i=>((sE ops.toList []).getD k 0).testBit i=true)) (hW:∀k,k<ops.size->∀j∈(aX k).wr,j∈W) (xO:Gu 0 ops.toList=true)
  (xN:∀μ',(∀j,j<(aI 0).n->μ' j=μ j)->∀i,i<ops.size->∀ds,nJ μ' (bo 0).marks ds->nJ (xJ μ' (aI i).n) (bo 0).marks ds)
  (hQ:∀S μ' a' w',(∀k,k<ops.size->S k=true)->Inv P μ w aI bo aX ds ops.size W S μ' a' w'->Q .normal a' w'):
  ∀(fuel:Nat) (listed:Array Bool) (μ':Mu) (a':Act) (w':World),listed.size=ops.size->(List.range ops.size).countP (fun k=>!listed.getD k false)=fuel->
   (YP ops fun k=>listed.getD k false=true)->Inv P μ w aI bo aX ds ops.size W (fun k=>listed.getD k false) μ' a' w'->wpAnyIn (FE lb) 0 P .any ops Q fuel listed a' w':=by
 intro fuel
 induction fuel with
 |zero=>
  intro listed μ' a' w' jc hc dM I
  have IY:∀k,k<ops.size->listed.getD k false=true:=fun k hk=>by
   rw[List.countP_eq_zero]at hc
   have:=hc k (List.mem_range.2 hk)
   simpa using this
  refine⟨?_,hQ _ μ' a' w' IY I⟩
  refine List.eq_nil_iff_forall_not_mem.2 fun j hj=>?_
  obtain⟨h1,h2,_⟩:=YQ dM hj
  have:=IY j h1
  simp only[Dr]at h2 this
  have nH:j<listed.size:=by omega
  simp[nH]at h2 this
  rw[h2]at this;cases this
 |succ fuel ih=>
  intro listed μ' a' w' jc hc dM I
  refine⟨fun hr=>hQ _ μ' a' w' (Zzn xO jc hr) I,fun i hi=>?_⟩
  obtain⟨h1,h2,h3⟩:=YQ dM hi
  have IZ:i<listed.size:=by omega
  have YR:listed.getD i false=false:=by
   simp only[Dr]at h2 ⊢
   simp[IZ]at h2 ⊢
   exact h2
  refine Ygb (S:=fun k=>listed.getD k false) bR hE h0 hs T B7 nZ Pu Or I (fun k hk i hb=>dM k i hk hb) hW (xN μ' I.ext) h1 YR h3 fun μ2 a2 w2 I2=>?_
  have xP:=Yhh (listed:=listed) IZ
  refine ih (listed.setIfInBounds i true) μ2 a2 w2 (by simp[jc]) ?_ ?_ (by rw[xP];exact I2)
  ·have:=Ydn (p:=fun k=>!listed.getD k false) (q:=fun k=>!(listed.setIfInBounds i true).getD k false) (i:=i) (by simp[YR]) (by
    have:=congrFun xP i
    simp only[this];simp[ku]) (fun k hk=>by
    have:=congrFun xP k
    simp only[this];simp[ku,hk]) ops.size h1
   omega
  ·intro k j hk hb
   have e1:=congrFun xP k
   have e2:=congrFun xP j
   simp only[e1,e2,ku]at hk ⊢
   by_cases ej:j=i
   ·rw[aJ ej]
   ·rw[aq ej]
    by_cases ek:k=i
    ·subst ek;exact h3 j hb
    ·rw[aq ek]at hk;exact dM k j hk hb
def nJ.I1{μ μ' μ2:Mu}{n:Nat}(hd:∀i l,μ i=some l->i<n)(h:∀i l,i<n->μ' i=some l->μ2 i=some l):∀{ms:List Nat} {ds B8:List Deferred},nJ μ ms ds->nJ μ' ms B8->nJ μ2 ms B8
 |[],_,_,_,h2=>h2
 |m::ms,_,_,⟨l,_,h1,_,h3⟩,⟨l',d',g1,g2,g3⟩=>⟨l',d',h m l' (hd m l h1) g1,g2,nJ.I1 hd h h3 g3⟩
def YT{aI:Nat->St}{bo:Nat->Fr}{aX:Nat->FP}{N:Nat}(T:sQ P μ aI bo aX N)(j:Nat):∀i,i<=N->(aI 0).n<=j->j<(aI i).n->∃k,k<i/\(aI k).n<=j/\j<(aI (k+1)).n
 |0,_,h1,h2=>by omega
 |i+1,hi,h1,h2=>by
  by_cases e:j<(aI i).n
  ·obtain⟨k,a1,a2⟩:=YT T j i (by omega) h1 e
   exact⟨k,by omega,a2⟩
  ·exact⟨i,by omega,by omega,h2⟩
def YU{aI:Nat->St}{bo:Nat->Fr}{aX:Nat->FP}{N:Nat}(T:sQ P μ aI bo aX N):∀i,i<=N->∃Wi,(aI i).w=Wi++(aI 0).w/\∀k,k<i->∀j∈(aX k).wr,j∈Wi
 |0,_=>⟨[],rfl,fun k hk=>by omega⟩
 |i+1,hi=>by
  obtain⟨Wi,h1,h2⟩:=YU T i (by omega)
  refine⟨(aX i).wr++Wi,by rw[T.wl i (by omega),h1,qs],fun k hk j hj=>?_⟩
  by_cases e:k=i
  ·subst e;simp[hj]
  ·simp[h2 k (by omega) j hj]
def YV(hm:P.follows .mixedOrders=true)(hE:rn P)(bR:iO P call):Yr P call:=by
 intro id ops fr st ex bB ax hp h μ w a lb hh hf
 unfold RU at hp
 simp only[iS]at hp
 obtain⟨xO,hpt⟩:=hp
 unfold xp at h
 split at h
 ·rename_i gl dE bU bH
  split at h
  ·rename_i I3
   simp only[ak,bh]at h
   obtain⟨rfl,rfl,rfl⟩:=h
   obtain⟨aI,bo,vI,aX,e1,e2,e3,e4,e5,hs⟩:=YW ops.toList fr st gl dE bU bH
   subst e1 e2
   have hN:ops.toList.length=ops.size:=by simp
   rw[hN]at e3 e4 e5
   have iU:∀i o,ops[i]?=some o->xM P call ops o (aI i) (bo i) (vI i) (aX i) (aI (i+1)) (bo (i+1)):=fun i o ho=>(hs i o (by rw[xz];exact ho)).2
   have T:=Ymr bR hE hN hh hf fun i o ho=>(hs i o ho).2
   let mo:Nat->dk:=fun i=>match ops[i]? with|some o=>oX P ops o|none=>⟨none,.stop,none⟩
   have B7:∀i o,ops[i]?=some o->mo i=oX P ops o:=fun i o ho=>by simp only[mo,ho]
   have Ss:∀i o,ops[i]?=some o->(mo i).dst=o.dst:=fun i o ho=>by rw[B7 i o ho];unfold oX;split<;>rfl
   have cK:∀i,i<ops.size->ops[i]?=some (ops[i]!):=fun i hi=>by simp[hi]
   have Pu:DV bo (fun k=>(mo k).dst) vI ops.size:=fun i hi t=>by
    obtain⟨g,b,_,_,hp,_⟩:=iU i _ (cK i hi)
    show (bo (i+1)).r.get t=if (mo i).dst=some t then some (vI i) else (bo i).r.get t
    rw[Ss i _ (cK i hi)]
    cases hd:(ops[i]!).dst with
    |none=>rw[hd]at hp;simp only[Fr.put,ak]at hp;rw[<-hp];simp
    |some d=>
     rw[hd]at hp
     simp only[Fr.put]at hp
     split at hp
     ·simp only[ak]at hp
      rw[<-hp,Go.Mx.T.ai]
      by_cases e:t=d
      ·subst e;simp
      ·rw[aq e,aq (by simp[Ne.symm e])]
     ·cases hp
   have Or:Ord aX mo ops.size (fun k i=>((sE ops.toList []).getD k 0).testBit i=true):=by
    refine⟨fun i k Su hk=>?_,fun i k Su hk=>?_⟩
    ·exact YX I3 Su ((hs i _ (by rw[xz];exact cK i (by omega))).1) ((hs k _ (by rw[xz];exact cK k hk)).1)
    ·refine YX hpt Su ?_ ?_
     ·rw[ko,xz,cK i (by omega),Aq,B7 i _ (cK i (by omega))]
     ·rw[ko,xz,cK k hk,Aq,B7 k _ (cK k hk)]
   obtain⟨W,nK,ft⟩:=YU T ops.size (aR _)
   obtain⟨wT,μT,aT,Sv,Np,hT2⟩:=YY bR hE hN hh hf (fun i o ho=>(hs i o ho).2) ops.size (aR _)
   have Sw:Sv=W:=List.append_cancel_right (Np.wl.symm.trans nK)
   subst Sw
   have xQ:∀k,(Array.replicate ops.size false).getD k false=false:=fun k=>by
    simp only[Dr]
    by_cases hk:k<ops.size
    ·simp[hk]
    ·simp[hk]
   have YZ:∀M j,jd aI aX (fun k=>(Array.replicate ops.size false).getD k false) M j=(aI 0).h.get j:=fun M j=>Nk (i:=0) (tN _) fun k _ _ _=>xQ k
   have hcR:∀M t,sO bo (fun k=>(mo k).dst) (fun k=>(Array.replicate ops.size false).getD k false) M t=(bo 0).r.get t:=fun M t=>Nl (i:=0) (tN _) fun k _ _ _=>xQ k
   have I0:Inv P μ w aI bo aX (fun k=>(mo k).dst) ops.size Sv (fun k=>(Array.replicate ops.size false).getD k false) μ a {w with drawn:=w.drawn+1}:=by
    refine⟨fun _ _=>rfl,fun j l hj=>⟨.inl (hh.cU j l hj).1,(hh.cU j l hj).2⟩,fun k _ hk=>?_,fun j l hj=>?_,fun i j l l' o o' h1 h2 h3 h4 h5=>?_,⟨hf.1.1,fun t v hv=>?_⟩,hf.2,⟨rfl,rfl,rfl,aR _,fun _ _ _=>rfl⟩,fun i l h1 h2=>absurd (hh.cU i l h2).1 (by omega)⟩
    ·rw[xQ k]at hk;cases hk
    ·obtain⟨o,q1,q2⟩:=hh.obj j l hj
     exact⟨o,by rw[YZ];exact q1,OM.congr (w:=w) rfl q2⟩
    ·rw[YZ]at h4 h5
     exact hh.inj i j l l' o o' h1 h2 h3 h4 h5
    ·rw[hcR]at hv
     exact hf.1.2 t v hv
   refine wpIn_region_any hm (Yof bR hE hh iU T B7 (fun _ _=>rfl) Pu Or ft xO ?_ ?_ ops.size _ μ a _ (by simp) ?_ ?_ I0)
   ·intro μ' mO i hi ds nZ
    exact nJ.I1 (n:=(aI 0).n) (fun j l hj=>(hh.cU j l hj).1) (fun j l hj hl=>by
     have:=T.mono (i:=0) (k:=i) (by omega) (by omega)
     rw[IT (by omega)];exact hl) hf.2 nZ
   ·intro S μ' a' w' hS I
    have Sx:∀j,j<(aI ops.size).n->jd aI aX S ops.size j=(aI ops.size).h.get j:=fun j hj=>Sh T (aR _) hj fun k hk _=>hS k hk
    have hfR:∀t,sO bo (fun k=>(mo k).dst) S ops.size t=(bo ops.size).r.get t:=fun t=>Si Pu (aR _) fun k hk _=>hS k hk
    have AJ:∀j l,μ' j=some l->j<(aI ops.size).n:=fun j l hj=>by
     rcases(I.cU j l hj).1 with h|⟨k,h1,_,_,h2⟩
     ·have:=T.mono (i:=0) (k:=ops.size) (by omega) (by omega);omega
     ·have:=T.mono (i:=k+1) (k:=ops.size) (by omega) (by omega);omega
    rw[<-e3,<-e4]
    refine⟨rfl,μ',Sv,⟨⟨fun j l hj=>⟨AJ j l hj,(I.cU j l hj).2⟩,fun j l hj=>?_,fun i j l l' o o' h1 h2 h3 h4 h5=>?_,fun g hg=>?_⟩,I.ext,T.mono (tN _) (aR _),nK,I.dV,I.new,Np.ae,Np.grow,fun j h1 h2=>?_,Np.wA⟩,⟨?_,fun t v hv=>?_⟩,?_⟩
    ·obtain⟨o,q1,q2⟩:=I.obj j l hj
     exact⟨o,by rw[<-Sx j (AJ j l hj)];exact q1,q2⟩
    ·exact I.inj i j l l' o o' h1 h2 h3 (by rw[Sx i (AJ i l h1)];exact h4) (by rw[Sx j (AJ j l' h2)];exact h5)
    ·obtain⟨t,ht⟩:=hh.gj g hg
     exact⟨t,by rw[I.ext g (hh.cU g _ ht).1];exact ht⟩
    ·obtain⟨k,q1,q2,q3⟩:=YT T j ops.size (aR _) h1 h2
     exact I.full k q1 (hS k q1) j q2 q3
    ·rw[(T.fn ops.size (aR _)).1];exact I.sR.1
    ·exact I.sR.2 t v (by rw[hfR];exact hv)
    ·rw[(T.fn ops.size (aR _)).2];exact I.defs
   ·have:(fun k=>!(Array.replicate ops.size false).getD k false)=fun _=>true:=by funext k;rw[xQ];rfl
    rw[this];simp
   ·intro k i hk
    rw[xQ k]at hk;cases hk
  ·cases h
 ·cases h
end
end Go.Mx
