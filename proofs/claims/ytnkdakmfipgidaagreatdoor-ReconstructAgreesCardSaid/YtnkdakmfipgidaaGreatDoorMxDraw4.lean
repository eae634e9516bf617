/-A region that draws its order-/
import Derived.Test.YtnkdakmfipgidaaGreatDoorMxTxt
set_option linter.all false
namespace Go.Mx
open Go
section
variable {P:Program} {μ:Mu} {w:World} {st aA:St} {fr bH:Fr} {a:Act} {call:cM} {v:V} {lb:Option Nat}
def Ycb:∀(l:List Nat) (n j:Nat),j<n->(j∈ay n l↔j∈l):=by
 intro l n i hi;induction l with
 |nil=>simp[ay]
 |cons j l ih=>
  simp only[ay];split
  ·unfold wG;split
   ·rename_i hc;simp only[iW,ih];simp only[Ty]at hc;constructor
    ·exact .inr
    rintro(rfl|h)
    ·exact ih.1 hc
    exact h
   simp only[iW,ih]
  simp only[iW,ih];constructor
  ·exact .inr
  rintro(rfl|h)
  ·omega
  exact h
def Ylx(cj:jZ P call)(hE:vn P){ops:Array Oper}{Q:Exit->Act->World->Prop}{aJ:Nat->St}{bs:Nat->Fr}{vI:Nat->V}{bf:Nat->FP}{S:Nat->Bool}{W:List Nat}{μ':Mu}{a':Act}{w':World}
  (h0:bn P μ w (aJ 0)) (hs:∀i o,ops[i]?=some o->BD P call ops o (aJ i) (bs i) (vI i) (bf i) (aJ (i+1)) (bs (i+1)))
  (T:w_ P μ aJ bs bf ops.size) {ds:Nat->Option Nat} {mo:Nat->dK} (CX:∀i o,ops[i]?=some o->mo i=sE P ops o) (ry:∀k,k<ops.size->ds k=(mo k).dst) (Pu:Jv bs ds vI ops.size)
  {mR:Nat->Nat->Prop} (Or:Ord bf mo ops.size mR) (I:Inv P μ w aJ bs bf ds ops.size W S μ' a' w') (cX:∀k,S k=true->∀i,mR k i->S i=true) (hW:∀k,k<ops.size->∀j∈(bf k).wr,j∈W)
  (BE:∀i,i<ops.size->∀ds,qJ μ' (bs 0).marks ds->qJ (BF μ' (aJ i).n) (bs 0).marks ds)
  {i:Nat} (hi:i<ops.size) (hS:S i=false) (hb:∀j,mR i j->S j=true) {K:Act->World->Prop}
  (hK:∀μ2 a2 w2,Inv P μ w aJ bs bf ds ops.size W (nJ S i) μ2 a2 w2->K a2 w2):wpOpIn (FE lb) 0 P ops Q i K a' w':=by
 have ho:ops[i]?=some ops[i]:=Array.getElem?_eq_getElem hi;obtain⟨g,b,hg,hw,hp,ht,Ow⟩:=hs i _ ho;have hmi:=CX i _ ho;have Jw:mo i=⟨ops[i].dst,Bn P ops[i].op,g⟩:=by rw[hmi];unfold sE;rw[hg]
 have jt:ds i=ops[i].dst:=by rw[ry i hi,Jw]
 have Jx:∀s∈(Bn P ops[i].op).EE,∀t∈s.tmps,t∈(mo i).reads:=fun s hs t ht=>by rw[Jw];simp only[dK.reads,jB,List.mem_flatMap];exact .inr ⟨s,hs,ht⟩
 have hRR:=Ymw T Pu I Or cX ry hi hS hb;have yL:bU (BG (bs i).r (mo i).reads) g=bU (bs i).r g:=by
  cases g with
  |none=>rfl
  |some p=> obtain⟨t,want⟩:=p;simp only[bU];rw[Ox,ar (by rw[Jw];simp[dK.reads])]
 have zH:∀d,ds i=some d->d<(bs 0).n:=fun d hd=>by
  rw[jt]at hd;rw[hd]at hp;simp only[Fr.put]at hp;split at hp
  ·rename_i aC;rw[<-(T.fn i (by omega)).1];exact aC
  cases hp
 unfold wpOpIn;rw[ho];simp only[];have hwd:Region.wanted ops[i] (yielded ops a'.tmps)=b:=Zqo (fr:={r:=BG (bs i).r (mo i).reads,n:=(bs 0).n,marks:=[]}) (a:=a') hRR hg (by rw[yL];exact hw);cases b with
 |true=>
  rw[ar hwd];obtain⟨s',hm,jv,Oy⟩:=ht rfl;obtain⟨σ,σ',k1,k2,k3,k4,k5,k6,k7,k8,k9⟩:=Ylo (ws:=ay (aJ i).n s'.w) (lo:=(aJ i).n) (hi:=s'.n) hm rfl;rw[<-Oy]at k6 k7 k8 k9;obtain⟨uK,kL⟩:=Yic h0 T I Or cX hi hS hb k1 k6 k7;have pq:od (BF μ' (aJ i).n) {r:=BG (bs i).r (mo i).reads,n:=(bs 0).n,marks:=(bs 0).marks} a':=⟨hRR,BE i hi _ I.defs⟩;have SB:cC (Bn P ops[i].op) call (BG (bs i).r (mo i).reads) σ=some (vI i,σ'):=by rw[Yf7 (r':=(bs i).r) fun s hs=>Ysv (Jx s hs)];exact k3
  refine Yqv cj hE uK pq SB fun x w2 μ2 ws hv eM=>?_;have re:ws=s'.w:=by have:=eM.wl;rw[k2,k5,zZ]at this;exact this.symm
  have tV:(aJ (i+1)).n=s'.n:=by rw[jv]
  have hh':(aJ (i+1)).h=s'.h:=by rw[jv]
  have hinv:=Zzy h0 T Pu I Or cX ry hW hi hS zH uK kL k1 (by rw[k4,tV]) eM (fun j hj=>by rw[re,Oy,(Zxo (call:=call) hm _ _).1];exact(Ycb _ _ _ hj).symm) (fun j hj=>k9 j (by rw[<-re];exact hj)) (fun j hj=>by rw[hh'];exact k8 j (by rw[tV]at hj;exact hj)) hv;rw[jt]at hinv;exact hK _ _ _ hinv
 |false=>
  rw[ak (by rw[hwd];simp)];obtain⟨hv,jv,Oy⟩:=Ow rfl;refine⟨fun _ _=>trivial,?_⟩;have xb:∀j,¬(bf i).dG j:=fun j=>by rw[Oy];simp[FP.dG]
  obtain⟨uK,kL⟩:=Yic (σ:=⟨sP (aJ i).h [] (aJ i).n,(aJ i).n,[]⟩) h0 T I Or cX hi hS hb rfl (fun j _ hj=>absurd hj (xb j)) (fun j hj _=>by show (sP (aJ i).h [] (aJ i).n).get j=_;rw[Mc,ar hj];simp);have tV:(aJ (i+1)).n=(aJ i).n:=by rw[jv]
  have:=Zzy (x:=undef) (ws:=[]) (σ':=⟨sP (aJ i).h [] (aJ i).n,(aJ i).n,[]⟩) h0 T Pu I Or cX ry hW hi hS zH uK kL rfl tV.symm (bI.refl uK) (fun j hj=>by rw[Oy]) (fun j hj=>by simp at hj) (fun j hj=>by
   rcases hj with⟨h,_⟩|⟨h1,h2⟩
   ·exact absurd h (xb j)
   ·omega) (by rw[hv];exact⟨[],rfl,by simp[aU]⟩);rw[jt]at this;exact hK _ _ _ this
def Znh:∀{os:List Oper} {b:Nat},LC b os=true->∀i o,os[i]?=some o->∀e∈o.after,Region.binds .any e=true->e.on<b+i
 |[],b,_,i,o,h,_,_,_=>by simp at h
 |o0::os,b,h,i,o,ho,e,he,hb=>by
  simp only[LC,gI]at h
  cases i with
  |zero=>
   simp only[C4,aq]at ho
   subst ho
   have h1:=h.1
   rw[ZS]at h1
   have:=h1 e he
   rw[hb]at this
   simpa[Nat.blt_eq]using this
  |succ i=>
   have:=Znh h.2 i o (by simpa using ho) e he hb
   omega
def Ydl{ops:Array Oper}(he:LC 0 ops.toList=true){listed:Array Bool}(mL:listed.size=ops.size)(hr:Region.ready .any ops listed=[]):∀k,k<ops.size->listed.getD k false=true:=by
 intro k;induction k using Nat.strongRecOn with
 |_ k ih=>
  intro hk;refine Classical.byContradiction fun hn=>?_;have qE:k∈Region.ready .any ops listed:=by
   unfold Region.ready;simp only[List.mem_filter,gm,gI,I3];refine⟨hk,?_,?_⟩
   ·have fl:k<listed.size:=by omega
    simp only[Array.getD,fl,dif_pos]at hn ⊢;simpa using hn
   have ho:ops[k]?=some ops[k]:=Array.getElem?_eq_getElem hk;rw[ho];simp only[qc,g_,ZS,I4,I3];intro e Oz;cases hb:Region.binds .any e with
   |false=>exact .inl rfl
   |true=> have:=Znh he k ops[k] (by rw[Em];exact ho) e Oz hb;exact .inr (ih e.on (by omega) (by omega))
  rw[hr]at qE;cases qE
def Yif{p q:Nat->Bool}{i:Nat}(hp:p i=true)(hq:q i=false)(ho:∀k,k≠i->q k=p k):∀N,i<N->(List.range N).countP q+1=(List.range N).countP p:=by
 have same:∀N,N<=i->(List.range N).countP q=(List.range N).countP p:=by
  intro N;induction N with
  |zero=>intro _;rfl
  |succ N ih=> intro h;rw[List.range_succ,List.countP_append,List.countP_append,ih (by omega)];simp[ho N (by omega)]
 intro N;induction N with
 |zero=>intro h;omega
 |succ N ih=>
  intro h;rw[List.range_succ,List.countP_append,List.countP_append];by_cases e:N=i
  ·subst e;rw[same N (aO _)];simp[hp,hq]
  have:=ih (by omega);simp only[List.countP_singleton,ho N e];omega
end
section
variable {P:Program} {μ:Mu} {w:World} {st aA:St} {fr bH:Fr} {a:Act} {call:cM} {v:V} {lb:Option Nat}
def Ynl{listed:Array Bool}{i:Nat}(hi:i<listed.size):(fun k=>(listed.setIfInBounds i true).getD k false)=nJ (fun k=>listed.getD k false) i:=by
 funext k;simp only[nJ,IV];by_cases e:k=i
 ·subst e;simp[hi]
 rw[Tr (Ne.symm e),ak e]
def Yw1(cj:jZ P call)(hE:vn P){ops:Array Oper}{Q:Exit->Act->World->Prop}{aJ:Nat->St}{bs:Nat->Fr}{vI:Nat->V}{bf:Nat->FP}{W:List Nat}
  (h0:bn P μ w (aJ 0)) (hs:∀i o,ops[i]?=some o->BD P call ops o (aJ i) (bs i) (vI i) (bf i) (aJ (i+1)) (bs (i+1)))
  (T:w_ P μ aJ bs bf ops.size) {ds:Nat->Option Nat} {mo:Nat->dK} (CX:∀i o,ops[i]?=some o->mo i=sE P ops o) (ry:∀k,k<ops.size->ds k=(mo k).dst) (Pu:Jv bs ds vI ops.size)
  (Or:Ord bf mo ops.size (fun k i=>((wN ops.toList []).getD k 0).testBit i=true)) (hW:∀k,k<ops.size->∀j∈(bf k).wr,j∈W) (BH:LC 0 ops.toList=true)
  (BE:∀μ',(∀j,j<(aJ 0).n->μ' j=μ j)->∀i,i<ops.size->∀ds,qJ μ' (bs 0).marks ds->qJ (BF μ' (aJ i).n) (bs 0).marks ds)
  (hQ:∀S μ' a' w',(∀k,k<ops.size->S k=true)->Inv P μ w aJ bs bf ds ops.size W S μ' a' w'->Q .normal a' w'):
  ∀(fuel:Nat) (listed:Array Bool) (μ':Mu) (a':Act) (w':World),listed.size=ops.size->(List.range ops.size).countP (fun k=>!listed.getD k false)=fuel->
   (Yo9 ops fun k=>listed.getD k false=true)->Inv P μ w aJ bs bf ds ops.size W (fun k=>listed.getD k false) μ' a' w'->wpAnyIn (FE lb) 0 P .any ops Q fuel listed a' w':=by
 intro fuel;induction fuel with
 |zero=>
  intro listed μ' a' w' mL hc cX I;have Eg:∀k,k<ops.size->listed.getD k false=true:=fun k hk=>by rw[List.countP_eq_zero]at hc;have:=hc k (gm.2 hk);simpa using this
  refine⟨?_,hQ _ μ' a' w' Eg I⟩;refine List.eq_nil_iff_forall_not_mem.2 fun j hj=>?_;obtain⟨h1,h2,_⟩:=Zq1 cX hj;have:=Eg j h1;simp only[IV]at h2 this;have pE:j<listed.size:=by omega
  simp[pE]at h2 this;rw[h2]at this;cases this
 |succ fuel ih=>
  intro listed μ' a' w' mL hc cX I;refine⟨fun hr=>hQ _ μ' a' w' (Ydl BH mL hr) I,fun i hi=>?_⟩;obtain⟨h1,h2,h3⟩:=Zq1 cX hi;have vz:i<listed.size:=by omega
  have Su:listed.getD i false=false:=by simp only[IV]at h2 ⊢;simp[vz]at h2 ⊢;exact h2
  refine Ylx (S:=fun k=>listed.getD k false) cj hE h0 hs T CX ry Pu Or I (fun k hk i hb=>cX k i hk hb) hW (BE μ' I.ext) h1 Su h3 fun μ2 a2 w2 I2=>?_;have BI:=Ynl (listed:=listed) vz;refine ih (listed.setIfInBounds i true) μ2 a2 w2 (by simp[mL]) ?_ ?_ (by rw[BI];exact I2)
  ·have:=Yif (p:=fun k=>!listed.getD k false) (q:=fun k=>!(listed.setIfInBounds i true).getD k false) (i:=i) (by simp[Su]) (by
    have:=congrFun BI i
    simp only[this];simp[nJ]) (fun k hk=>by
    have:=congrFun BI k
    simp only[this];simp[nJ,hk]) ops.size h1;omega
  intro k j hk hb;have e1:=congrFun BI k;have e2:=congrFun BI j;simp only[e1,e2,nJ]at hk ⊢;by_cases ej:j=i
  ·rw[ar ej]
  rw[ak ej];by_cases ek:k=i
  ·subst ek;exact h3 j hb
  rw[ak ek]at hk;exact cX k j hk hb
def qJ.OA{μ μ' μ2:Mu}{n:Nat}(hd:∀i l,μ i=some l->i<n)(h:∀i l,i<n->μ' i=some l->μ2 i=some l):∀{ms:List Nat} {ds GL:List Deferred},qJ μ ms ds->qJ μ' ms GL->qJ μ2 ms GL
 |[],_,_,_,h2=>h2
 |m::ms,_,_,⟨l,_,h1,_,h3⟩,⟨l',d',g1,g2,g3⟩=>⟨l',d',h m l' (hd m l h1) g1,g2,qJ.OA hd h h3 g3⟩
def Zqs{aJ:Nat->St}{bs:Nat->Fr}{bf:Nat->FP}{N:Nat}(T:w_ P μ aJ bs bf N)(j:Nat):∀i,i<=N->(aJ 0).n<=j->j<(aJ i).n->∃k,k<i/\(aJ k).n<=j/\j<(aJ (k+1)).n
 |0,_,h1,h2=>by omega
 |i+1,hi,h1,h2=>by
  by_cases e:j<(aJ i).n
  ·obtain⟨k,a1,a2⟩:=Zqs T j i (by omega) h1 e
   exact⟨k,by omega,a2⟩
  ·exact⟨i,by omega,by omega,h2⟩
def Zti{aJ:Nat->St}{bs:Nat->Fr}{bf:Nat->FP}{N:Nat}(T:w_ P μ aJ bs bf N):∀i,i<=N->∃Wi,(aJ i).w=Wi++(aJ 0).w/\∀k,k<i->∀j∈(bf k).wr,j∈Wi
 |0,_=>⟨[],rfl,fun k hk=>by omega⟩
 |i+1,hi=>by
  obtain⟨Wi,h1,h2⟩:=Zti T i (by omega)
  refine⟨(bf i).wr++Wi,by rw[T.wl i (by omega),h1,uG],fun k hk j hj=>?_⟩
  by_cases e:k=i
  ·subst e;simp[hj]
  ·simp[h2 k (by omega) j hj]
def Yhu(hm:P.follows .mixedOrders=true)(hE:vn P)(cj:jZ P call):Yo8 P call:=by
 intro id ops fr st ex bH aA hp h μ w a lb hh hf;unfold ZN at hp;simp only[gI]at hp;obtain⟨BH,hpt⟩:=hp;unfold Bz at h;split at h
 ·rename_i iO ef bX bP;split at h
  ·rename_i OB;simp only[aq,bB]at h;obtain⟨rfl,rfl,rfl⟩:=h;obtain⟨aJ,bs,vI,bf,e1,e2,e3,e4,e5,hs⟩:=Zug ops.toList fr st iO ef bX bP;subst e1 e2;have hN:ops.toList.length=ops.size:=by simp
   rw[hN]at e3 e4 e5;have iY:∀i o,ops[i]?=some o->BD P call ops o (aJ i) (bs i) (vI i) (bf i) (aJ (i+1)) (bs (i+1)):=fun i o ho=>(hs i o (by rw[Em];exact ho)).2;have T:=Yul cj hE hN hh hf fun i o ho=>(hs i o ho).2;let mo:Nat->dK:=fun i=>match ops[i]? with|some o=>sE P ops o|none=>⟨none,.stop,none⟩
   have CX:∀i o,ops[i]?=some o->mo i=sE P ops o:=fun i o ho=>by simp only[mo,ho]
   have zaa:∀i o,ops[i]?=some o->(mo i).dst=o.dst:=fun i o ho=>by rw[CX i o ho];unfold sE;split<;>rfl
   have cZ:∀i,i<ops.size->ops[i]?=some (ops[i]!):=fun i hi=>by simp[hi]
   have Pu:Jv bs (fun k=>(mo k).dst) vI ops.size:=fun i hi t=>by
    obtain⟨g,b,_,_,hp,_⟩:=iY i _ (cZ i hi);show (bs (i+1)).r.get t=if (mo i).dst=some t then some (vI i) else (bs i).r.get t
    rw[zaa i _ (cZ i hi)];cases hd:(ops[i]!).dst with
    |none=>rw[hd]at hp;simp only[Fr.put,aq]at hp;rw[<-hp];simp
    |some d=>
     rw[hd]at hp;simp only[Fr.put]at hp;split at hp
     ·simp only[aq]at hp;rw[<-hp,Go.Mx.T.ae];by_cases e:t=d
      ·subst e;simp
      rw[ak e,ak (by simp[Ne.symm e])]
     cases hp
   have Or:Ord bf mo ops.size (fun k i=>((wN ops.toList []).getD k 0).testBit i=true):=by
    refine⟨fun i k OC hk=>?_,fun i k OC hk=>?_⟩
    ·exact Zy6 OB OC ((hs i _ (by rw[Em];exact cZ i (by omega))).1) ((hs k _ (by rw[Em];exact cZ k hk)).1)
    refine Zy6 hpt OC ?_ ?_
    ·rw[eG,Em,cZ i (by omega),qc,CX i _ (cZ i (by omega))]
    rw[eG,Em,cZ k hk,qc,CX k _ (cZ k hk)]
   obtain⟨W,A6,gS⟩:=Zti T ops.size (aO _);obtain⟨wT,μT,aT,wsT,TQ,IC⟩:=Yaj cj hE hN hh hf (fun i o ho=>(hs i o ho).2) ops.size (aO _);have zab:wsT=W:=List.append_cancel_right (TQ.wl.symm.trans A6);subst zab;have BJ:∀k,(Array.replicate ops.size false).getD k false=false:=fun k=>by
    simp only[IV];by_cases hk:k<ops.size
    ·simp[hk]
    simp[hk]
   have hcH:∀M j,kM aJ bf (fun k=>(Array.replicate ops.size false).getD k false) M j=(aJ 0).h.get j:=fun M j=>TR (i:=0) (wh _) fun k _ _ _=>BJ k;have ZB:∀M t,xc bs (fun k=>(mo k).dst) (fun k=>(Array.replicate ops.size false).getD k false) M t=(bs 0).r.get t:=fun M t=>TS (i:=0) (wh _) fun k _ _ _=>BJ k;have I0:Inv P μ w aJ bs bf (fun k=>(mo k).dst) ops.size wsT (fun k=>(Array.replicate ops.size false).getD k false) μ a {w with drawn:=w.drawn+1}:=by
    refine⟨fun _ _=>rfl,fun j l hj=>⟨.inl (hh.dt j l hj).1,(hh.dt j l hj).2⟩,fun k _ hk=>?_,fun j l hj=>?_,fun i j l l' o o' h1 h2 h3 h4 h5=>?_,⟨hf.1.1,fun t v hv=>?_⟩,hf.2,⟨rfl,rfl,rfl,aO _,fun _ _ _=>rfl⟩,fun i l h1 h2=>absurd (hh.dt i l h2).1 (by omega)⟩
    ·rw[BJ k]at hk;cases hk
    ·obtain⟨o,q1,q2⟩:=hh.obj j l hj;exact⟨o,by rw[hcH];exact q1,OM.congr (w:=w) rfl q2⟩
    ·rw[hcH]at h4 h5;exact hh.inj i j l l' o o' h1 h2 h3 h4 h5
    rw[ZB]at hv;exact hf.1.2 t v hv
   refine wpIn_region_any hm (Yw1 cj hE hh iY T CX (fun _ _=>rfl) Pu Or gS BH ?_ ?_ ops.size _ μ a _ (by simp) ?_ ?_ I0)
   ·intro μ' xd i hi ds ry;exact qJ.OA (n:=(aJ 0).n) (fun j l hj=>(hh.dt j l hj).1) (fun j l hj hl=>by have:=T.mono (i:=0) (k:=i) (by omega) (by omega);rw[OD (by omega)];exact hl) hf.2 ry
   ·intro S μ' a' w' hS I;have hfH:∀j,j<(aJ ops.size).n->kM aJ bf S ops.size j=(aJ ops.size).h.get j:=fun j hj=>Zs8 T (aO _) hj fun k hk _=>hS k hk;have hfR:∀t,xc bs (fun k=>(mo k).dst) S ops.size t=(bs ops.size).r.get t:=fun t=>Zs7 Pu (aO _) fun k hk _=>hS k hk;have EN:∀j l,μ' j=some l->j<(aJ ops.size).n:=fun j l hj=>by
     rcases(I.dt j l hj).1 with h|⟨k,h1,_,_,h2⟩
     ·have:=T.mono (i:=0) (k:=ops.size) (by omega) (by omega);omega
     have:=T.mono (i:=k+1) (k:=ops.size) (by omega) (by omega);omega
    rw[<-e3,<-e4];refine⟨rfl,μ',wsT,⟨⟨fun j l hj=>⟨EN j l hj,(I.dt j l hj).2⟩,fun j l hj=>?_,fun i j l l' o o' h1 h2 h3 h4 h5=>?_,fun g hg=>?_⟩,I.ext,T.mono (wh _) (aO _),A6,I.eF,I.new,TQ.ad,TQ.grow,fun j h1 h2=>?_,TQ.Ai⟩,⟨?_,fun t v hv=>?_⟩,?_⟩
    ·obtain⟨o,q1,q2⟩:=I.obj j l hj;exact⟨o,by rw[<-hfH j (EN j l hj)];exact q1,q2⟩
    ·exact I.inj i j l l' o o' h1 h2 h3 (by rw[hfH i (EN i l h1)];exact h4) (by rw[hfH j (EN j l' h2)];exact h5)
    ·obtain⟨t,ht⟩:=hh.iN g hg;exact⟨t,by rw[I.ext g (hh.dt g _ ht).1];exact ht⟩
    ·obtain⟨k,q1,q2,q3⟩:=Zqs T j ops.size (aO _) h1 h2;exact I.full k q1 (hS k q1) j q2 q3
    ·rw[(T.fn ops.size (aO _)).1];exact I.xe.1
    ·exact I.xe.2 t v (by rw[hfR];exact hv)
    rw[(T.fn ops.size (aO _)).2];exact I.defs
   ·have:(fun k=>!(Array.replicate ops.size false).getD k false)=fun _=>true:=by funext k;rw[BJ];rfl
    rw[this];simp
   intro k i hk;rw[BJ k]at hk;cases hk
  cases h
 cases h
end
mutual
def V.bZ(ρ:Nat->Option Nat):V->Option V
 |.bool b=>some (.bool b)
 |.int k n=>some (.int k n)
 |.wK k n=>some (.wK k n)
 |.str s=>some (.str s)
 |.bJ=>some .bJ
 |.ptr i o=>match ρ i with
  |some i=>some (.ptr i o)
  |none=>none
 |.aa=>some .aa
 |.slice i o len cap sz=>match ρ i with
  |some i=>some (.slice i o len cap sz)
  |none=>none
 |.empty=>some .empty
 |.bQ=>some .bQ
 |.map i=>match ρ i with
  |some i=>some (.map i)
  |none=>none
 |.bR=>some .bR
 |.chan i=>match ρ i with
  |some i=>some (.chan i)
  |none=>none
 |.func f a c=>match V.eI ρ a,V.eI ρ c with
  |some a,some c=>some (.func f a c)
  |_,_=>none
 |.yield i=>match ρ i with
  |some i=>some (.yield i)
  |none=>none
 |.bS=>some .bS
 |.iface t v=>match V.bZ ρ v with
  |some v=>some (.iface t v)
  |none=>none
 |.aY=>some .aY
 |.agg l=>match V.eI ρ l with
  |some l=>some (.agg l)
  |none=>none
 |.aV l=>match V.eI ρ l with
  |some l=>some (.aV l)
  |none=>none
def V.eI(ρ:Nat->Option Nat):List V->Option (List V)
 |[]=>some []
 |v::vs=>match V.bZ ρ v,V.eI ρ vs with
  |some v,some vs=>some (v::vs)
  |_,_=>none
end
mutual
def VR.bZ{μ μ':Mu}{ρ:Nat->Option Nat}(h:∀i i',ρ i=some i'->μ i=μ' i'):∀(v v':V) (x:Value),V.bZ ρ v=some v'->(VR μ v x↔VR μ' v' x)
 |.bool _,v',x,hv=>by simp only[V.bZ,aq]at hv;subst hv;simp only[VR]
 |.int _ _,v',x,hv=>by simp only[V.bZ,aq]at hv;subst hv;simp only[VR]
 |.wK _ _,v',x,hv=>by simp only[V.bZ,aq]at hv;subst hv;simp only[VR]
 |.str _,v',x,hv=>by simp only[V.bZ,aq]at hv;subst hv;simp only[VR]
 |.bJ,v',x,hv=>by simp only[V.bZ,aq]at hv;subst hv;simp only[VR]
 |.ptr _ _,v',x,hv=>by
  simp only[V.bZ]at hv;split at hv
  ·rename_i i' hi;simp only[aq]at hv;subst hv;simp only[VR,h _ _ hi]
  ·cases hv
 |.aa,v',x,hv=>by simp only[V.bZ,aq]at hv;subst hv;simp only[VR]
 |.slice _ _ _ _ _,v',x,hv=>by
  simp only[V.bZ]at hv;split at hv
  ·rename_i i' hi;simp only[aq]at hv;subst hv;simp only[VR,h _ _ hi]
  ·cases hv
 |.empty,v',x,hv=>by simp only[V.bZ,aq]at hv;subst hv;simp only[VR]
 |.bQ,v',x,hv=>by simp only[V.bZ,aq]at hv;subst hv;simp only[VR]
 |.map _,v',x,hv=>by
  simp only[V.bZ]at hv;split at hv
  ·rename_i i' hi;simp only[aq]at hv;subst hv;simp only[VR,h _ _ hi]
  ·cases hv
 |.bR,v',x,hv=>by simp only[V.bZ,aq]at hv;subst hv;simp only[VR]
 |.chan _,v',x,hv=>by
  simp only[V.bZ]at hv;split at hv
  ·rename_i i' hi;simp only[aq]at hv;subst hv;simp only[VR,h _ _ hi]
  ·cases hv
 |.func _ a c,v',x,hv=>by
  simp only[V.bZ]at hv;split at hv
  ·rename_i a' c' ha hc;simp only[aq]at hv;subst hv
   simp only[VR,fun xs=>aU.bZ h a a' xs ha,fun xs=>aU.bZ h c c' xs hc]
  ·cases hv
 |.yield _,v',x,hv=>by
  simp only[V.bZ]at hv;split at hv
  ·rename_i i' hi;simp only[aq]at hv;subst hv;simp only[VR,h _ _ hi]
  ·cases hv
 |.bS,v',x,hv=>by simp only[V.bZ,aq]at hv;subst hv;simp only[VR]
 |.iface _ v,v',x,hv=>by
  simp only[V.bZ]at hv;split at hv
  ·rename_i u hu;simp only[aq]at hv;subst hv;simp only[VR,fun y=>VR.bZ h v u y hu]
  ·cases hv
 |.aY,v',x,hv=>by simp only[V.bZ,aq]at hv;subst hv;simp only[VR]
 |.agg l,v',x,hv=>by
  simp only[V.bZ]at hv;split at hv
  ·rename_i l' hl;simp only[aq]at hv;subst hv;simp only[VR,fun xs=>aU.bZ h l l' xs hl]
  ·cases hv
 |.aV l,v',x,hv=>by
  simp only[V.bZ]at hv;split at hv
  ·rename_i l' hl;simp only[aq]at hv;subst hv;simp only[VR,fun xs=>aU.bZ h l l' xs hl]
  ·cases hv
def aU.bZ{μ μ':Mu}{ρ:Nat->Option Nat}(h:∀i i',ρ i=some i'->μ i=μ' i'):∀(vs nb:List V) (xs:List Value),V.eI ρ vs=some nb->(aU μ vs xs↔aU μ' nb xs)
 |[],nb,xs,hv=>by simp only[V.eI,aq]at hv;subst hv;simp only[aU]
 |v::vs,nb,xs,hv=>by
  simp only[V.eI]at hv;split at hv
  ·rename_i u us hu uB;simp only[aq]at hv;subst hv
   simp only[aU,fun y=>VR.bZ h v u y hu,fun ys=>aU.bZ h vs us ys uB]
  ·cases hv
end
def V.iQ{ρ:Nat->Option Nat}:∀{vs nb:List V},V.eI ρ vs=some nb->nb.length=vs.length
 |[],nb,h=>by simp only[V.eI,aq]at h;subst h;rfl
 |v::vs,nb,h=>by
  simp only[V.eI]at h;split at h
  ·rename_i u us hu uB;simp only[aq]at h;subst h;simp[V.iQ uB]
  ·cases h
def V.uL{ρ:Nat->Option Nat}:∀{vs nb:List V} {j:Nat} {v':V},V.eI ρ vs=some nb->nb[j]?=some v'->∃v,vs[j]?=some v/\V.bZ ρ v=some v'
 |[],nb,j,v',h,hj=>by simp only[V.eI,aq]at h;subst h;simp at hj
 |v::vs,nb,j,v',h,hj=>by
  simp only[V.eI]at h;split at h
  ·rename_i u us hu uB;simp only[aq]at h;subst h
   cases j with
   |zero=>simp at hj;subst hj;exact⟨v,by simp,hu⟩
   |succ j=>simpa using V.uL uB (j:=j) (by simpa using hj)
  ·cases h
def V.rz{ρ:Nat->Option Nat}:∀{vs nb:List V} {j:Nat} {v:V},V.eI ρ vs=some nb->vs[j]?=some v->∃v',nb[j]?=some v'/\V.bZ ρ v=some v'
 |[],nb,j,v',h,hj=>by simp at hj
 |v::vs,nb,j,v',h,hj=>by
  simp only[V.eI]at h;split at h
  ·rename_i u us hu uB;simp only[aq]at h;subst h
   cases j with
   |zero=>simp at hj;subst hj;exact⟨u,by simp,hu⟩
   |succ j=>simpa using V.rz uB (j:=j) (by simpa using hj)
  ·cases h
def V.EO{ρ:Nat->Option Nat}{v v':V}(h:V.bZ ρ v=some v'):v'.Io=v.Io:=by cases v<;>simp only[V.bZ]at h<;>(try split at h)<;>simp only[aq,reduceCtorEq]at h<;>subst h<;>rfl
def OE(ρ:Nat->Option Nat):List (V×V)->Option (List (V×V))
 |[]=>some []
 |(k,v)::es=>match V.bZ ρ k,V.bZ ρ v,OE ρ es with
  |some k,some v,some es=>some ((k,v)::es)
  |_,_,_=>none
def js.bZ{μ μ':Mu}{ρ:Nat->Option Nat}(h:∀i i',ρ i=some i'->μ i=μ' i'):∀(es iM:List (V×V)) (xs:List MapEntry) (i:Nat),OE ρ es=some iM->(js μ es xs i↔js μ' iM xs i)
 |[],iM,xs,i,he=>by simp only[OE,aq]at he;subst he;simp only[js]
 |(k,v)::es,iM,xs,i,he=>by
  simp only[OE]at he;split at he
  ·rename_i k' v' us hk hv uB;simp only[aq]at he;subst he
   simp only[js,fun y=>VR.bZ h k k' y hk,fun y=>VR.bZ h v v' y hv,fun ys i=>js.bZ h es us ys i uB]
  ·cases he
def O.bZ(ρ:Nat->Option Nat):O->Option O
 |.cells c e rw=>match V.eI ρ c with
  |some c=>some (.cells c e rw)
  |none=>none
 |.map es=>match OE ρ es with
  |some es=>some (.map es)
  |none=>none
 |.chan cap buf=>match V.eI ρ buf with
  |some buf=>some (.chan cap buf)
  |none=>none
 |.eL s pos=>some (.eL s pos)
 |.defs o=>some (.defs o)
 |.loop _=>none
 |.dead=>some .dead
def O.BK{ρ:Nat->Option Nat}{o o':O}(h:o.bZ ρ=some o'):o'.wr=o.wr:=by cases o<;>simp only[O.bZ]at h<;>(try split at h)<;>simp only[aq,reduceCtorEq]at h<;>subst h<;>rfl
def O.uM{ρ:Nat->Option Nat}{o o':O}(h:o.bZ ρ=some o'):o'.live=o.live:=by cases o<;>simp only[O.bZ]at h<;>(try split at h)<;>simp only[aq,reduceCtorEq]at h<;>subst h<;>rfl
def OM.bZ{P:Program}{μ μ':Mu}{w:World}{ρ:Nat->Option Nat}(h:∀i i',ρ i=some i'->μ i=μ' i'){o o':O}{l:L}(ho:o.bZ ρ=some o'):OM P μ w o l↔OM P μ' w o' l:=by
 cases o with
 |cells c e rw=>
  simp only[O.bZ]at ho;split at ho
  ·rename_i c' hc;simp only[aq]at ho;subst ho;constructor
   ·rintro⟨d,lo,hi,h1,h2,h3,h4,h5⟩;refine⟨d,lo,hi,h1,h2,by rw[V.iQ hc];exact h3,fun j v' IW=>?_,h5⟩;obtain⟨v,hv,hr⟩:=V.uL hc IW;obtain⟨x,hx,Dl⟩:=h4 j v hv;exact⟨x,hx,(VR.bZ h v v' x hr).1 Dl⟩
   rintro⟨d,lo,hi,h1,h2,h3,h4,h5⟩;refine⟨d,lo,hi,h1,h2,by rw[V.iQ hc]at h3;exact h3,fun j v hv=>?_,h5⟩;obtain⟨v',IW,hr⟩:=V.rz hc hv;obtain⟨x,hx,Dl⟩:=h4 j v' IW;exact⟨x,hx,(VR.bZ h v v' x hr).2 Dl⟩
  cases ho
 |map es=>
  simp only[O.bZ]at ho;split at ho
  ·rename_i iM he;simp only[aq]at ho;subst ho;simp only[OM,fun xs i=>js.bZ h es iM xs i he]
  cases ho
 |chan cap buf=>
  simp only[O.bZ]at ho;split at ho
  ·rename_i c' hc;simp only[aq]at ho;subst ho;simp only[OM,fun xs=>aU.bZ h buf c' xs hc]
  cases ho
 |eL s pos=>simp only[O.bZ,aq]at ho;subst ho;simp only[OM]
 |loop R=>simp only[O.bZ,reduceCtorEq]at ho
 |defs b=>simp only[O.bZ,aq]at ho;subst ho;simp only[OM]
 |dead=>simp only[O.bZ,aq]at ho;subst ho;simp only[OM]
def GM(ρ:Nat->Option Nat)(o O':O):Prop:=
 o=.dead\/o.bZ ρ=some O'\/∃c e c',o=.cells c e false/\V.eI ρ c=some c'/\O'=.cells c' e true
def GM.om{P:Program}{μ μ':Mu}{w:World}{ρ:Nat->Option Nat}(h:∀i i',ρ i=some i'->μ i=μ' i'){o o':O}{l:L}(ho:GM ρ o o')(hm:OM P μ' w o' l):OM P μ w o l:=by
 rcases ho with rfl|ho|⟨c,e,c',rfl,hc,rfl⟩
 ·trivial
 ·exact(OM.bZ h ho).2 hm
 have h1:(O.cells c e true).bZ ρ=some (.cells c' e true):=by simp only[O.bZ,hc]
 obtain⟨d,lo,hi,q1,q2,q3,q4,q5,_⟩:=(OM.bZ h h1).2 hm;exact⟨d,lo,hi,q1,q2,q3,q4,q5,fun hx=>by cases hx⟩
def GM.wr{ρ:Nat->Option Nat}{o o':O}(ho:GM ρ o o')(h:o.wr=true):o'.wr=true/\o.bZ ρ=some o':=by
 rcases ho with rfl|ho|⟨c,e,c',rfl,hc,rfl⟩
 ·simp[O.wr]at h
 ·exact⟨(O.BK ho).trans h,ho⟩
 simp[O.wr]at h
def GM.live{ρ:Nat->Option Nat}{o o':O}(ho:GM ρ o o')(h:o.live=true):o'.live=true:=by
 rcases ho with rfl|ho|⟨c,e,c',rfl,hc,rfl⟩
 ·simp[O.live]at h
 ·exact(O.uM ho).trans h
 rfl
def O.yM{o:O}(h:o.wr=true):o.live=true:=by cases o<;>simp_all [O.wr,O.live]
def Md(P:Program)(g:V)(args:List V)(st:St)(v:V)(aA:St):Prop:=
 ∀(μ:Mu) (w:World) (G:Value) (xs:List Value),bn P μ w st->VR μ g G->aU μ args xs->
  OF P g.Io G ⟨xs⟩ w fun x w'=>∃μ' ws,VR μ' v x/\bI P μ w st μ' w' aA ws
def OF.mono{P:Program}{y:Bool}{G:Value}{xs:Array Value}{w:World}{R R':Value->World->Prop}(h:OF P y G xs w R)(hR:∀x w',R x w'->R' x w'):OF P y G xs w R':=by
 obtain⟨d,hd,iR⟩:=h;refine⟨d,hd,?_⟩;rcases iR with⟨hy,f,args,hinv,Jy⟩|⟨hy,l,f,tmps,gK,gO,hinv,Me⟩
 ·refine .inl ⟨hy,f,args,hinv,CallsIn.mono (F:=Fence.wide) Jy fun e w' he=>?_⟩;cases e with
  |returned x=>exact hR x w' he
  |panicked _=>exact he.elim
  |outgrown=>exact he.elim
 refine .inr ⟨hy,l,f,tmps,gK,gO,hinv,RoundIn.mono (F:=Fence.wide) Me fun e w' he=>?_⟩;cases e with
 |returned x=>exact hR x w' he
 |panicked _=>exact he.elim
 |outgrown=>exact he.elim
structure Jz (P:Program) (σ ρ:Nat->Option Nat) (W:List Nat) (s s' S S':St):Prop where
 dt:∀i i',σ i=some i'->i<s.n/\i'<S.n
 inj:∀i j i',σ i=some i'->σ j=some i'->i=j
 iN:∀g,g<P.globals.size->σ g=some g
 obj:∀i i',σ i=some i'->∃o O',s.h.get i=some o/\GM σ o O'/\(S.h.get i'=some O'\/o=.dead)
 old:∀i,i<s.n->ρ i=σ i
 new:∀i i',s.n<=i->ρ i=some i'->S.n<=i'/\i'<S'.n/\i<s'.n
 JA:∀i j i',s.n<=i->s.n<=j->ρ i=some i'->ρ j=some i'->i=j
 full:∀i',S.n<=i'->i'<S'.n->∃i,s.n<=i/\ρ i=some i'
 iG:S.n<=S'.n
 w0:s.w=[]
 W1:∀i i',i∈s'.w->σ i=some i'->i'∈W
 W2:∀j,j∈W->∃i,i∈s'.w/\σ i=some j
 wl:S'.w=W++S.w
 ad:∀j,j<S.n->j∉W->S'.h.get j=S.h.get j
 wr:∀i i',i∈s'.w->σ i=some i'->∃o O',s'.h.get i=some o/\S'.h.get i'=some O'/\(O'=.dead\/o.bZ ρ=some O')
 obn:∀i i',s.n<=i->ρ i=some i'->∃o O',s'.h.get i=some o/\S'.h.get i'=some O'/\(O'=.dead\/o.bZ ρ=some O')
section
variable {P:Program} {σ ρ:Nat->Option Nat} {W:List Nat} {s s' S S':St}
def Jz.uK(F:Jz P σ ρ W s s' S S'){μ:Mu}{w:World}(hh:bn P μ w S):bn P (fun i=>(σ i).bind μ) w s:=by
 have hb:∀i l,(σ i).bind μ=some l->∃i',σ i=some i'/\μ i'=some l:=fun i l h=>by
  cases hs:σ i with
  |none=>rw[hs]at h;cases h
  |some i'=>rw[hs]at h;exact⟨i',rfl,h⟩
 refine⟨fun i l hl=>?_,fun i l hl=>?_,fun i j l l' o o' hi hj aW ho yB hw qG=>?_,fun g hg=>?_⟩
 ·obtain⟨i',h1,h2⟩:=hb i l hl;exact⟨(F.dt i i' h1).1,(hh.dt i' l h2).2⟩
 ·obtain⟨i',h1,h2⟩:=hb i l hl;obtain⟨o,O',g1,g2,g3⟩:=F.obj i i' h1;refine⟨o,g1,?_⟩;rcases g3 with g3|rfl
  ·obtain⟨O2,q1,q2⟩:=hh.obj i' l h2;rw[g3]at q1;cases q1;exact GM.om (fun i i' hi=>by simp[hi]) g2 q2
  trivial
 ·obtain⟨i',h1,h2⟩:=hb i l hi;obtain⟨j',h3,h4⟩:=hb j l' hj;obtain⟨o1,O1,a1,a2,a3⟩:=F.obj i i' h1;obtain⟨o2,O2,b1,b2,b3⟩:=F.obj j j' h3;rw[ho]at a1;cases a1;rw[yB]at b1;cases b1;have a3':S.h.get i'=some O1:=a3.resolve_right fun e=>by subst e;simp[O.wr]at hw
  have b3':S.h.get j'=some O2:=b3.resolve_right fun e=>by subst e;simp[O.live]at qG
  refine hh.inj i' j' l l' O1 O2 h2 h4 (fun e=>aW ?_) a3' b3' (a2.wr hw).1 (b2.live qG);subst e;exact F.inj i j i' h1 h3
 obtain⟨t,ht⟩:=hh.iN g hg;exact⟨t,by simp[F.iN g hg,ht]⟩
def Jz.stp(F:Jz P σ ρ W s s' S S'){μ:Mu}{w w':World}(hh:bn P μ w S){μ':Mu}{ws:List Nat}(h:bI P (fun i=>(σ i).bind μ) w s μ' w' s' ws):
  ∃μ2,bI P μ w S μ2 w' S' W/\∀i i',ρ i=some i'->μ' i=μ2 i':=by
 have re:s'.w=ws:=by have:=h.wl;rw[F.w0]at this;simpa using this
 have hinv:∃τ:Nat->Nat,∀i',S.n<=i'->i'<S'.n->s.n<=τ i'/\ρ (τ i')=some i':=by
  classical
  refine⟨fun i'=>if hc:∃i,s.n<=i/\ρ i=some i' then hc.choose else 0,fun i' h1 h2=>?_⟩;have hc:=F.full i' h1 h2;simp only[dif_pos hc];exact hc.choose_spec
 obtain⟨τ,hτ⟩:=hinv;let μ2:Mu:=fun i'=>if i'<S.n then μ i' else if i'<S'.n then μ' (τ i') else none
 have hold:∀i',i'<S.n->μ2 i'=μ i':=fun i' hi=>by show (if i'<S.n then _ else _)=_;rw[ar hi]
 have sQ:∀i',S.n<=i'->i'<S'.n->μ2 i'=μ' (τ i'):=fun i' h1 h2=>by show (if i'<S.n then _ else _)=_;rw[ak (by omega),ar h2]
 have dE:∀i' l,μ2 i'=some l->i'<S'.n:=fun i' l hl=>by
  by_cases h1:i'<S.n
  ·exact fm h1 F.iG
  by_cases h2:i'<S'.n
  ·exact h2
  have:μ2 i'=none:=by show (if i'<S.n then _ else _)=_;rw[ak h1,ak h2]
  rw[this]at hl;cases hl
 have hμs:∀i,i<s.n->μ' i=(σ i).bind μ:=fun i hi=>h.ext i hi;have hρ:∀i i',ρ i=some i'->μ' i=μ2 i':=fun i i' hi=>by
  by_cases h1:i<s.n
  ·have h2:σ i=some i':=(F.old i h1).symm.trans hi;rw[hμs i h1,h2,hold i' (F.dt i i' h2).2];rfl
  obtain⟨g1,g2,_⟩:=F.new i i' (by omega) hi;obtain⟨k1,k2⟩:=hτ i' g1 g2;rw[sQ i' g1 g2,F.JA i (τ i') i' (by omega) k1 hi k2]
 have BL:∀j,j∈W->∃i,i∈ws/\σ i=some j/\i<s.n/\j<S.n:=fun j hj=>by obtain⟨i,h1,h2⟩:=F.W2 j hj;exact⟨i,re▸h1,h2,F.dt i j h2⟩
 have zJ:∀i i',i∈ws->σ i=some i'->∃O',S.h.get i'=some O'/\O'.wr=true:=fun i i' hi hs=>by obtain⟨o,ho,hw⟩:=h.Ai i hi (F.dt i i' hs).1;obtain⟨o1,O1,a1,a2,a3⟩:=F.obj i i' hs;rw[ho]at a1;cases a1;exact⟨O1,a3.resolve_right fun e=>by subst e;simp[O.wr]at hw,(a2.wr hw).1⟩
 have sH:∀j l,j<S.n->j∉W->μ j=some l->∀O',S.h.get j=some O'->O'.live=true->w'.heap[l.b]?=w.heap[l.b]?:=fun j l hj TT hl O' hO qG=>by
  refine h.eF.block l.b (hh.dt j l hl).2 fun i hi li TU=>?_;cases hs:σ i with
  |none=>simp[hs]at TU
  |some i'=> simp only[hs,Option.bind_some]at TU;obtain⟨O1,q1,q2⟩:=zJ i i' hi hs;refine hh.inj i' j li l O1 O' TU hl (fun e=>TT ?_) q1 hO q2 qG;subst e;exact F.W1 i i' (re▸hi) hs
 have JB:∀i i' l,ρ i=some i'->μ2 i'=some l->(s.n<=i\/i∈ws)->∃o O',s'.h.get i=some o/\S'.h.get i'=some O'/\(O'=.dead\/o.bZ ρ=some O')/\OM P μ2 w' O' l:=fun i i' l hi hl hc=>by
  have key:∃o O',s'.h.get i=some o/\S'.h.get i'=some O'/\(O'=.dead\/o.bZ ρ=some O'):=by
   by_cases h1:i<s.n
   ·rcases hc with hc|hc
    ·omega
    exact F.wr i i' (re▸hc) ((F.old i h1).symm.trans hi)
   exact F.obn i i' (by omega) hi
  obtain⟨o,O',g1,g2,g3⟩:=key;refine⟨o,O',g1,g2,g3,?_⟩;rcases g3 with rfl|g3
  ·trivial
  obtain⟨o2,q1,q2⟩:=h.hr.obj i l ((hρ i i' hi).trans hl);rw[g1]at q1;cases q1;exact(OM.bZ hρ g3).1 q2
 have uN:∀i' l,μ2 i'=some l->(i'<S.n/\i'∉W/\μ i'=some l/\S'.h.get i'=S.h.get i')\/∃i,ρ i=some i'/\μ' i=some l/\(s.n<=i\/i∈ws):=fun i' l hl=>by
  by_cases h1:i'<S.n
  ·by_cases h2:i'∈W
   ·obtain⟨i,q1,q2,q3,_⟩:=BL i' h2;have hr:ρ i=some i':=(F.old i q3).trans q2;exact .inr ⟨i,hr,(hρ i i' hr).trans hl,.inr q1⟩
   exact .inl ⟨h1,h2,(hold i' h1)▸hl,F.ad i' h1 h2⟩
  have h2:=dE i' l hl;obtain⟨k1,k2⟩:=hτ i' (by omega) h2;exact .inr ⟨τ i',k2,(hρ _ _ k2).trans hl,.inl k1⟩
 have BM:∀i' l O',i'<S.n->i'∉W->μ i'=some l->S.h.get i'=some O'->O'.live=true->∀k k' lk,ρ k=some k'->μ' k=some lk->(s.n<=k\/k∈ws)->(O'.wr=true\/∃o,s'.h.get k=some o/\o.wr=true)->l.b≠lk.b:=by
  intro i' l O' hi TT hl hO qG k k' lk hk fl hc Mf;by_cases h1:k<s.n
  ·have hkw:k∈ws:=hc.resolve_left (by omega);have hs:σ k=some k':=(F.old k h1).symm.trans hk;obtain⟨O1,q1,q2⟩:=zJ k k' hkw hs;have kc:μ k'=some lk:=by rw[hμs k h1,hs]at fl;exact fl
   have aW:k'≠i':=fun e=>TT (e▸F.W1 k k' (re▸hkw) hs);exact(hh.inj k' i' lk l O1 O' kc hl aW q1 hO q2 qG).symm
  rcases h.new k lk (by omega) fl with qp|⟨j,hj,CT,lj,oj,vJ,hb,IT,hjw⟩
  ·have:=(hh.dt i' l hl).2;omega
  cases hs:σ j with
  |none=>simp[hs]at vJ
  |some j'=> simp only[hs,Option.bind_some]at vJ;obtain⟨O1,q1,q2⟩:=zJ j j' hj hs;have aW:j'≠i':=fun e=>TT (e▸F.W1 j j' (re▸hj) hs);rw[<-hb];exact(hh.inj j' i' lj l O1 O' vJ hl aW q1 hO q2 qG).symm
 refine⟨μ2,⟨⟨fun i' l hl=>⟨dE i' l hl,?_⟩,fun i' l hl=>?_,fun i' j' l l' O1 O2 hi hj aW TV yN hw qG=>?_,fun g hg=>?_⟩,hold,F.iG,F.wl,⟨h.eF.os,h.eF.tape,h.eF.output,h.eF.size,fun b hb dM=>?_⟩,fun i' l jn hl=>?_,F.ad,fun i' O' jn hO=>?_,fun i' h1 h2=>?_,fun i' jn _=>?_⟩,hρ⟩
 ·rcases uN i' l hl with⟨_,_,g,_⟩|⟨i,_,g,_⟩
  ·exact fm (hh.dt i' l g).2 h.eF.size
  exact(h.hr.dt i l g).2
 ·rcases uN i' l hl with⟨g1,g2,g3,g4⟩|⟨i,g1,g2,g3⟩
  ·obtain⟨O',q1,q2⟩:=hh.obj i' l g3;refine⟨O',g4.trans q1,?_⟩;cases qG:O'.live with
   |false=>cases O'<;>simp[O.live]at qG;trivial
   |true=> refine OM.congr (w:=w) (sH i' l g1 g2 g3 O' q1 qG) (q2.mono fun k lk hk=>?_);rw[hold k (hh.dt k lk hk).1];exact hk
  obtain⟨o,O',q1,q2,q3,q4⟩:=JB i i' l g1 hl g3;exact⟨O',q2,q4⟩
 ·rcases uN i' l hi with⟨a1,a2,a3,a4⟩|⟨i,a1,a2,a3⟩
  ·rw[a4]at TV;rcases uN j' l' hj with⟨b1,b2,b3,b4⟩|⟨j,b1,b2,b3⟩
   ·rw[b4]at yN;exact hh.inj i' j' l l' O1 O2 a3 b3 aW TV yN hw qG
   exact BM i' l O1 a1 a2 a3 TV (O.yM hw) j j' l' b1 b2 b3 (.inl hw)
  obtain⟨o1,O1',q1,q2,q3,_⟩:=JB i i' l a1 hi a3;rw[TV]at q2;cases q2;have Mg:o1.bZ ρ=some O1:=q3.resolve_left fun e=>by subst e;simp[O.wr]at hw
  have Ld:o1.wr=true:=(O.BK Mg).symm.trans hw;rcases uN j' l' hj with⟨b1,b2,b3,b4⟩|⟨j,b1,b2,b3⟩
  ·rw[b4]at yN;exact(BM j' l' O2 b1 b2 b3 yN qG i i' l a1 a2 a3 (.inr ⟨o1,q1,Ld⟩)).symm
  obtain⟨o2,O2',r1,r2,r3,_⟩:=JB j j' l' b1 hj b3;rw[yN]at r2;cases r2;have r3':o2.bZ ρ=some O2:=r3.resolve_left fun e=>by subst e;simp[O.live]at qG
  refine h.hr.inj i j l l' o1 o2 a2 b2 (fun e=>aW ?_) q1 r1 Ld ((O.uM r3').symm.trans qG);subst e;rw[a1]at b1;cases b1;rfl
 ·obtain⟨t,ht⟩:=hh.iN g hg;exact⟨t,by rw[hold g (hh.dt g _ ht).1];exact ht⟩
 ·refine h.eF.block b hb fun i hi l hl=>?_;cases hs:σ i with
  |none=>simp[hs]at hl
  |some i'=> simp only[hs,Option.bind_some]at hl;exact dM i' (F.W1 i i' (re▸hi) hs) l hl
 ·have h2:=dE i' l hl;obtain⟨k1,k2⟩:=hτ i' jn h2;rcases h.new (τ i') l k1 ((hρ _ _ k2).trans hl)with qp|⟨j,hj,CT,lj,oj,vJ,hb,IT,hjw⟩
  ·exact .inl qp
  cases hs:σ j with
  |none=>simp[hs]at vJ
  |some j'=> simp only[hs,Option.bind_some]at vJ;obtain⟨O1,q1,q2⟩:=zJ j j' hj hs;exact .inr ⟨j',F.W1 j j' (re▸hj) hs,(F.dt j j' hs).2,lj,O1,vJ,hb,q1,q2⟩
 ·by_cases hW:i'∈W
  ·obtain⟨i,q1,q2,q3,q4⟩:=BL i' hW;obtain⟨O1,r1,r2⟩:=zJ i i' q1 q2;exact⟨O1,r1,fun _=>r2,fun _=>O.yM r2⟩
  exact⟨O',(F.ad i' jn hW).symm.trans hO,id,id⟩
 ·obtain⟨k1,k2⟩:=hτ i' h1 h2;obtain⟨l,hl⟩:=h.full (τ i') k1 (F.new _ _ k1 k2).2.2;exact⟨l,(sQ i' h1 h2).trans hl⟩
 obtain⟨i,q1,q2,_⟩:=BL i' jn;exact zJ i i' q1 q2
def Md.frame{g v:V}{args:List V}(h:Md P g args s v s')(F:Jz P σ ρ W s s' S S'){g' v':V}{BN:List V}(hg:V.bZ σ g=some g')(ha:V.eI σ args=some BN)(hv:V.bZ ρ v=some v'):
  Md P g' BN S v' S':=by
 intro μ w G xs hh hG ri;have hσ:∀i i',σ i=some i'->(fun i=>(σ i).bind μ) i=μ i':=fun i i' hi=>by simp[hi]
 have:=h (fun i=>(σ i).bind μ) w G xs (F.uK hh) ((VR.bZ hσ g g' G hg).2 hG) ((aU.bZ hσ args BN xs ha).2 ri);rw[V.EO hg];refine this.mono fun x w' ⟨μ',ws,h1,h2⟩=>?_;obtain⟨μ2,k1,k2⟩:=F.stp hh h2;exact⟨μ2,W,(VR.bZ k2 v v' x hv).1 h1,k1⟩
end
def t_(a b:cM):cM:=fun g args st=>match a g args st with
 |some r=>some r
 |none=>b g args st
def jZ.or{P:Program}{a b:cM}(ha:jZ P a)(hb:jZ P b):jZ P (t_ a b):=by
 intro g args st v aA h;unfold t_ at h;split at h
 ·rename_i r hr;cases h;exact ha g args st v aA hr
 exact hb g args st v aA h
end Go.Mx
