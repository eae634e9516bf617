/-A region that draws its order-/
import Derived.Test.YtgccnjdneojagaaGreatDoorMxTxt
set_option linter.all false
namespace Go.Mx
open Go
section
variable {P:Program} {μ:Mu} {w:World} {st aB:St} {fr bJ:Fr} {a:Act} {call:cO} {v:V} {lb:Option Nat}
def Ydf:∀(l:List Nat) (n j:Nat),j<n->(j∈ay n l↔j∈l):=by
 intro l n i hi;induction l with
 |nil=>simp[ay]
 |cons j l ih=>
  simp only[ay];split
  ·unfold Ac;split
   ·rename_i hc;simp only[ky,ih];simp only[TO]at hc;constructor
    ·exact .inr
    rintro(rfl|h)
    ·exact ih.1 hc
    exact h
   simp only[ky,ih]
  simp only[ky,ih];constructor
  ·exact .inr
  rintro(rfl|h)
  ·omega
  exact h
def Ynk(cv:kI P call)(hE:wj P){ops:Array Oper}{Q:Exit->Act->World->Prop}{aL:Nat->St}{bB:Nat->Fr}{vI:Nat->V}{bh:Nat->FP}{S:Nat->Bool}{W:List Nat}{μ':Mu}{a':Act}{w':World}
  (h0:bp P μ w (aL 0)) (hs:∀i o,ops[i]?=some o->BN P call ops o (aL i) (bB i) (vI i) (bh i) (aL (i+1)) (bB (i+1)))
  (T:xK P μ aL bB bh ops.size) {ds:Nat->Option Nat} {mo:Nat->dP} (GG:∀i o,ops[i]?=some o->mo i=tr P ops o) (sF:∀k,k<ops.size->ds k=(mo k).dst) (Pu:Jw bB ds vI ops.size)
  {nj:Nat->Nat->Prop} (Or:Ord bh mo ops.size nj) (I:Inv P μ w aL bB bh ds ops.size W S μ' a' w') (cM:∀k,S k=true->∀i,nj k i->S i=true) (hW:∀k,k<ops.size->∀j∈(bh k).wr,j∈W)
  (BO:∀i,i<ops.size->∀ds,rA μ' (bB 0).marks ds->rA (BP μ' (aL i).n) (bB 0).marks ds)
  {i:Nat} (hi:i<ops.size) (hS:S i=false) (hb:∀j,nj i j->S j=true) {K:Act->World->Prop}
  (hK:∀μ2 a2 w2,Inv P μ w aL bB bh ds ops.size W (nU S i) μ2 a2 w2->K a2 w2):wpOpIn (FE lb) 0 P ops Q i K a' w':=by
 have ho:ops[i]?=some ops[i]:=Array.getElem?_eq_getElem hi;obtain⟨g,b,hg,hw,hp,ht,OG⟩:=hs i _ ho;have hmi:=GG i _ ho;have Jx:mo i=⟨ops[i].dst,Bw P ops[i].op,g⟩:=by rw[hmi];unfold tr;rw[hg]
 have jF:ds i=ops[i].dst:=by rw[sF i hi,Jx]
 have Jy:∀s∈(Bw P ops[i].op).EH,∀t∈s.tmps,t∈(mo i).reads:=fun s hs t ht=>by rw[Jx];simp only[dP.reads,jn,List.mem_flatMap];exact .inr ⟨s,hs,ht⟩
 have hRR:=Yoh T Pu I Or cM sF hi hS hb;have ze:bZ (BQ (bB i).r (mo i).reads) g=bZ (bB i).r g:=by
  cases g with
  |none=>rfl
  |some p=> obtain⟨t,want⟩:=p;simp only[bZ];rw[OH,av (by rw[Jx];simp[dP.reads])]
 have zf:∀d,ds i=some d->d<(bB 0).n:=fun d hd=>by
  rw[jF]at hd;rw[hd]at hp;simp only[Fr.put]at hp;split at hp
  ·rename_i aE;rw[<-(T.fn i (by omega)).1];exact aE
  cases hp
 unfold wpOpIn;rw[ho];simp only[];have hwd:Region.wanted ops[i] (yielded ops a'.tmps)=b:=Zri (fr:={r:=BQ (bB i).r (mo i).reads,n:=(bB 0).n,marks:=[]}) (a:=a') hRR hg (by rw[ze];exact hw);cases b with
 |true=>
  rw[av hwd];obtain⟨s',hm,jG,OI⟩:=ht rfl;obtain⟨σ,σ',k1,k2,k3,k4,k5,k6,k7,k8,k9⟩:=Ym7 (ws:=ay (aL i).n s'.w) (lo:=(aL i).n) (hi:=s'.n) hm rfl;rw[<-OI]at k6 k7 k8 k9;obtain⟨vH,iS⟩:=Yju h0 T I Or cM hi hS hb k1 k6 k7;have pL:oK (BP μ' (aL i).n) {r:=BQ (bB i).r (mo i).reads,n:=(bB 0).n,marks:=(bB 0).marks} a':=⟨hRR,BO i hi _ I.defs⟩;have SY:cH (Bw P ops[i].op) call (BQ (bB i).r (mo i).reads) σ=some (vI i,σ'):=by rw[Yhk (r':=(bB i).r) fun s hs=>Yu1 (Jy s hs)];exact k3
  refine Ysv cv hE vH pL SY fun x w2 μ2 ws hv fj=>?_;have rZ:ws=s'.w:=by have:=fj.wl;rw[k2,k5,zQ]at this;exact this.symm
  have uJ:(aL (i+1)).n=s'.n:=by rw[jG]
  have hh':(aL (i+1)).h=s'.h:=by rw[jG]
  have hinv:=Yba h0 T Pu I Or cM sF hW hi hS zf vH iS k1 (by rw[k4,uJ]) fj (fun j hj=>by rw[rZ,OI,(Zyw (call:=call) hm _ _).1];exact(Ydf _ _ _ hj).symm) (fun j hj=>k9 j (by rw[<-rZ];exact hj)) (fun j hj=>by rw[hh'];exact k8 j (by rw[uJ]at hj;exact hj)) hv;rw[jF]at hinv;exact hK _ _ _ hinv
 |false=>
  rw[ak (by rw[hwd];simp)];obtain⟨hv,jG,OI⟩:=OG rfl;refine⟨fun _ _=>trivial,?_⟩;have xL:∀j,¬(bh i).dK j:=fun j=>by rw[OI];simp[FP.dK]
  obtain⟨vH,iS⟩:=Yju (σ:=⟨tH (aL i).h [] (aL i).n,(aL i).n,[]⟩) h0 T I Or cM hi hS hb rfl (fun j _ hj=>absurd hj (xL j)) (fun j hj _=>by show (tH (aL i).h [] (aL i).n).get j=_;rw[Mg,av hj];simp);have uJ:(aL (i+1)).n=(aL i).n:=by rw[jG]
  have:=Yba (x:=undef) (ws:=[]) (σ':=⟨tH (aL i).h [] (aL i).n,(aL i).n,[]⟩) h0 T Pu I Or cM sF hW hi hS zf vH iS rfl uJ.symm (bL.refl vH) (fun j hj=>by rw[OI]) (fun j hj=>by simp at hj) (fun j hj=>by
   rcases hj with⟨h,_⟩|⟨h1,h2⟩
   ·exact absurd h (xL j)
   ·omega) (by rw[hv];exact⟨[],rfl,by simp[aY]⟩);rw[jF]at this;exact hK _ _ _ this
def Zn4:∀{os:List Oper} {b:Nat},LG b os=true->∀i o,os[i]?=some o->∀e∈o.after,Region.binds .any e=true->e.on<b+i
 |[],b,_,i,o,h,_,_,_=>by simp at h
 |o0::os,b,h,i,o,ho,e,he,hb=>by
  simp only[LG,fW]at h
  cases i with
  |zero=>
   simp only[De,au]at ho
   subst ho
   have h1:=h.1
   rw[Xgt]at h1
   have:=h1 e he
   rw[hb]at this
   simpa[Nat.blt_eq]using this
  |succ i=>
   have:=Zn4 h.2 i o (by simpa using ho) e he hb
   omega
def Yeo{ops:Array Oper}(he:LG 0 ops.toList=true){listed:Array Bool}(m7:listed.size=ops.size)(hr:Region.ready .any ops listed=[]):∀k,k<ops.size->listed.getD k false=true:=by
 intro k;induction k using Nat.strongRecOn with
 |_ k ih=>
  intro hk;refine Classical.byContradiction fun hn=>?_;have vk:k∈Region.ready .any ops listed:=by
   unfold Region.ready;simp only[List.mem_filter,iL,fW,I3];refine⟨hk,?_,?_⟩
   ·have fO:k<listed.size:=by omega
    simp only[Array.getD,fO,dif_pos]at hn ⊢;simpa using hn
   have ho:ops[k]?=some ops[k]:=Array.getElem?_eq_getElem hk;rw[ho];simp only[qO,il,Xgt,I4,I3];intro e OJ;cases hb:Region.binds .any e with
   |false=>exact .inl rfl
   |true=> have:=Zn4 he k ops[k] (by rw[Ew];exact ho) e OJ hb;exact .inr (ih e.on (by omega) (by omega))
  rw[hr]at vk;cases vk
def Yjy{p q:Nat->Bool}{i:Nat}(hp:p i=true)(hq:q i=false)(ho:∀k,k≠i->q k=p k):∀N,i<N->(List.range N).countP q+1=(List.range N).countP p:=by
 have same:∀N,N<=i->(List.range N).countP q=(List.range N).countP p:=by
  intro N;induction N with
  |zero=>intro _;rfl
  |succ N ih=> intro h;rw[List.range_succ,List.countP_append,List.countP_append,ih (by omega)];simp[ho N (by omega)]
 intro N;induction N with
 |zero=>intro h;omega
 |succ N ih=>
  intro h;rw[List.range_succ,List.countP_append,List.countP_append];by_cases e:N=i
  ·subst e;rw[same N (aM _)];simp[hp,hq]
  have:=ih (by omega);simp only[List.countP_singleton,ho N e];omega
end
section
variable {P:Program} {μ:Mu} {w:World} {st aB:St} {fr bJ:Fr} {a:Act} {call:cO} {v:V} {lb:Option Nat}
def Yo3{listed:Array Bool}{i:Nat}(hi:i<listed.size):(fun k=>(listed.setIfInBounds i true).getD k false)=nU (fun k=>listed.getD k false) i:=by
 funext k;simp only[nU,IW];by_cases e:k=i
 ·subst e;simp[hi]
 rw[TK (Ne.symm e),ak e]
def Yyy(cv:kI P call)(hE:wj P){ops:Array Oper}{Q:Exit->Act->World->Prop}{aL:Nat->St}{bB:Nat->Fr}{vI:Nat->V}{bh:Nat->FP}{W:List Nat}
  (h0:bp P μ w (aL 0)) (hs:∀i o,ops[i]?=some o->BN P call ops o (aL i) (bB i) (vI i) (bh i) (aL (i+1)) (bB (i+1)))
  (T:xK P μ aL bB bh ops.size) {ds:Nat->Option Nat} {mo:Nat->dP} (GG:∀i o,ops[i]?=some o->mo i=tr P ops o) (sF:∀k,k<ops.size->ds k=(mo k).dst) (Pu:Jw bB ds vI ops.size)
  (Or:Ord bh mo ops.size (fun k i=>((xB ops.toList []).getD k 0).testBit i=true)) (hW:∀k,k<ops.size->∀j∈(bh k).wr,j∈W) (BR:LG 0 ops.toList=true)
  (BO:∀μ',(∀j,j<(aL 0).n->μ' j=μ j)->∀i,i<ops.size->∀ds,rA μ' (bB 0).marks ds->rA (BP μ' (aL i).n) (bB 0).marks ds)
  (hQ:∀S μ' a' w',(∀k,k<ops.size->S k=true)->Inv P μ w aL bB bh ds ops.size W S μ' a' w'->Q .normal a' w'):
  ∀(fuel:Nat) (listed:Array Bool) (μ':Mu) (a':Act) (w':World),listed.size=ops.size->(List.range ops.size).countP (fun k=>!listed.getD k false)=fuel->
   (Yqw ops fun k=>listed.getD k false=true)->Inv P μ w aL bB bh ds ops.size W (fun k=>listed.getD k false) μ' a' w'->wpAnyIn (FE lb) 0 P .any ops Q fuel listed a' w':=by
 intro fuel;induction fuel with
 |zero=>
  intro listed μ' a' w' m7 hc cM I;have OK:∀k,k<ops.size->listed.getD k false=true:=fun k hk=>by rw[List.countP_eq_zero]at hc;have:=hc k (iL.2 hk);simpa using this
  refine⟨?_,hQ _ μ' a' w' OK I⟩;refine List.eq_nil_iff_forall_not_mem.2 fun j hj=>?_;obtain⟨h1,h2,_⟩:=Zrw cM hj;have:=OK j h1;simp only[IW]at h2 this;have pT:j<listed.size:=by omega
  simp[pT]at h2 this;rw[h2]at this;cases this
 |succ fuel ih=>
  intro listed μ' a' w' m7 hc cM I;refine⟨fun hr=>hQ _ μ' a' w' (Yeo BR m7 hr) I,fun i hi=>?_⟩;obtain⟨h1,h2,h3⟩:=Zrw cM hi;have yH:i<listed.size:=by omega
  have Tc:listed.getD i false=false:=by simp only[IW]at h2 ⊢;simp[yH]at h2 ⊢;exact h2
  refine Ynk (S:=fun k=>listed.getD k false) cv hE h0 hs T GG sF Pu Or I (fun k hk i hb=>cM k i hk hb) hW (BO μ' I.ext) h1 Tc h3 fun μ2 a2 w2 I2=>?_;have BS:=Yo3 (listed:=listed) yH;refine ih (listed.setIfInBounds i true) μ2 a2 w2 (by simp[m7]) ?_ ?_ (by rw[BS];exact I2)
  ·have:=Yjy (p:=fun k=>!listed.getD k false) (q:=fun k=>!(listed.setIfInBounds i true).getD k false) (i:=i) (by simp[Tc]) (by
    have:=congrFun BS i
    simp only[this];simp[nU]) (fun k hk=>by
    have:=congrFun BS k
    simp only[this];simp[nU,hk]) ops.size h1;omega
  intro k j hk hb;have e1:=congrFun BS k;have e2:=congrFun BS j;simp only[e1,e2,nU]at hk ⊢;by_cases ej:j=i
  ·rw[av ej]
  rw[ak ej];by_cases ek:k=i
  ·subst ek;exact h3 j hb
  rw[ak ek]at hk;exact cM k j hk hb
def rA.OL{μ μ' μ2:Mu}{n:Nat}(hd:∀i l,μ i=some l->i<n)(h:∀i l,i<n->μ' i=some l->μ2 i=some l):∀{ms:List Nat} {ds GH:List Deferred},rA μ ms ds->rA μ' ms GH->rA μ2 ms GH
 |[],_,_,_,h2=>h2
 |m::ms,_,_,⟨l,_,h1,_,h3⟩,⟨l',d',g1,g2,g3⟩=>⟨l',d',h m l' (hd m l h1) g1,g2,rA.OL hd h h3 g3⟩
def Zrm{aL:Nat->St}{bB:Nat->Fr}{bh:Nat->FP}{N:Nat}(T:xK P μ aL bB bh N)(j:Nat):∀i,i<=N->(aL 0).n<=j->j<(aL i).n->∃k,k<i/\(aL k).n<=j/\j<(aL (k+1)).n
 |0,_,h1,h2=>by omega
 |i+1,hi,h1,h2=>by
  by_cases e:j<(aL i).n
  ·obtain⟨k,a1,a2⟩:=Zrm T j i (by omega) h1 e
   exact⟨k,by omega,a2⟩
  ·exact⟨i,by omega,by omega,h2⟩
def Zuj{aL:Nat->St}{bB:Nat->Fr}{bh:Nat->FP}{N:Nat}(T:xK P μ aL bB bh N):∀i,i<=N->∃Wi,(aL i).w=Wi++(aL 0).w/\∀k,k<i->∀j∈(bh k).wr,j∈Wi
 |0,_=>⟨[],rfl,fun k hk=>by omega⟩
 |i+1,hi=>by
  obtain⟨Wi,h1,h2⟩:=Zuj T i (by omega)
  refine⟨(bh i).wr++Wi,by rw[T.wl i (by omega),h1,uQ],fun k hk j hj=>?_⟩
  by_cases e:k=i
  ·subst e;simp[hj]
  ·simp[h2 k (by omega) j hj]
def Yjb(hm:P.follows .mixedOrders=true)(hE:wj P)(cv:kI P call):Yqv P call:=by
 intro id ops fr st ex bJ aB hp h μ w a lb hh hf;unfold Ysc at hp;simp only[fW]at hp;obtain⟨BR,hpt⟩:=hp;unfold BI at h;split at h
 ·rename_i iR eK b9 bU;split at h
  ·rename_i ON;simp only[au,bD]at h;obtain⟨rfl,rfl,rfl⟩:=h;obtain⟨aL,bB,vI,bh,e1,e2,e3,e4,e5,hs⟩:=Zvi ops.toList fr st iR eK b9 bU;subst e1 e2;have hN:ops.toList.length=ops.size:=by simp
   rw[hN]at e3 e4 e5;have jv:∀i o,ops[i]?=some o->BN P call ops o (aL i) (bB i) (vI i) (bh i) (aL (i+1)) (bB (i+1)):=fun i o ho=>(hs i o (by rw[Ew];exact ho)).2;have T:=Ywj cv hE hN hh hf fun i o ho=>(hs i o ho).2;let mo:Nat->dP:=fun i=>match ops[i]? with|some o=>tr P ops o|none=>⟨none,.stop,none⟩
   have GG:∀i o,ops[i]?=some o->mo i=tr P ops o:=fun i o ho=>by simp only[mo,ho]
   have zaf:∀i o,ops[i]?=some o->(mo i).dst=o.dst:=fun i o ho=>by rw[GG i o ho];unfold tr;split<;>rfl
   have cZ:∀i,i<ops.size->ops[i]?=some (ops[i]!):=fun i hi=>by simp[hi]
   have Pu:Jw bB (fun k=>(mo k).dst) vI ops.size:=fun i hi t=>by
    obtain⟨g,b,_,_,hp,_⟩:=jv i _ (cZ i hi);show (bB (i+1)).r.get t=if (mo i).dst=some t then some (vI i) else (bB i).r.get t
    rw[zaf i _ (cZ i hi)];cases hd:(ops[i]!).dst with
    |none=>rw[hd]at hp;simp only[Fr.put,au]at hp;rw[<-hp];simp
    |some d=>
     rw[hd]at hp;simp only[Fr.put]at hp;split at hp
     ·simp only[au]at hp;rw[<-hp,Go.Mx.T.ag];by_cases e:t=d
      ·subst e;simp
      rw[ak e,ak (by simp[Ne.symm e])]
     cases hp
   have Or:Ord bh mo ops.size (fun k i=>((xB ops.toList []).getD k 0).testBit i=true):=by
    refine⟨fun i k OO hk=>?_,fun i k OO hk=>?_⟩
    ·exact Yae ON OO ((hs i _ (by rw[Ew];exact cZ i (by omega))).1) ((hs k _ (by rw[Ew];exact cZ k hk)).1)
    refine Yae hpt OO ?_ ?_
    ·rw[eH,Ew,cZ i (by omega),qO,GG i _ (cZ i (by omega))]
    rw[eH,Ew,cZ k hk,qO,GG k _ (cZ k hk)]
   obtain⟨W,T7,fY⟩:=Zuj T ops.size (aM _);obtain⟨wT,μT,aT,wsT,T8,hT2⟩:=Ybt cv hE hN hh hf (fun i o ho=>(hs i o ho).2) ops.size (aM _);have zag:wsT=W:=List.append_cancel_right (T8.wl.symm.trans T7);subst zag;have BT:∀k,(Array.replicate ops.size false).getD k false=false:=fun k=>by
    simp only[IW];by_cases hk:k<ops.size
    ·simp[hk]
    simp[hk]
   have hcH:∀M j,lI aL bh (fun k=>(Array.replicate ops.size false).getD k false) M j=(aL 0).h.get j:=fun M j=>T9 (i:=0) (wx _) fun k _ _ _=>BT k;have hcR:∀M t,xM bB (fun k=>(mo k).dst) (fun k=>(Array.replicate ops.size false).getD k false) M t=(bB 0).r.get t:=fun M t=>Ua (i:=0) (wx _) fun k _ _ _=>BT k;have I0:Inv P μ w aL bB bh (fun k=>(mo k).dst) ops.size wsT (fun k=>(Array.replicate ops.size false).getD k false) μ a {w with drawn:=w.drawn+1}:=by
    refine⟨fun _ _=>rfl,fun j l hj=>⟨.inl (hh.dq j l hj).1,(hh.dq j l hj).2⟩,fun k _ hk=>?_,fun j l hj=>?_,fun i j l l' o o' h1 h2 h3 h4 h5=>?_,⟨hf.1.1,fun t v hv=>?_⟩,hf.2,⟨rfl,rfl,rfl,aM _,fun _ _ _=>rfl⟩,fun i l h1 h2=>absurd (hh.dq i l h2).1 (by omega)⟩
    ·rw[BT k]at hk;cases hk
    ·obtain⟨o,q1,q2⟩:=hh.obj j l hj;exact⟨o,by rw[hcH];exact q1,OM.congr (w:=w) rfl q2⟩
    ·rw[hcH]at h4 h5;exact hh.inj i j l l' o o' h1 h2 h3 h4 h5
    rw[hcR]at hv;exact hf.1.2 t v hv
   refine wpIn_region_any hm (Yyy cv hE hh jv T GG (fun _ _=>rfl) Pu Or fY BR ?_ ?_ ops.size _ μ a _ (by simp) ?_ ?_ I0)
   ·intro μ' xN i hi ds sF;exact rA.OL (n:=(aL 0).n) (fun j l hj=>(hh.dq j l hj).1) (fun j l hj hl=>by have:=T.mono (i:=0) (k:=i) (by omega) (by omega);rw[OP (by omega)];exact hl) hf.2 sF
   ·intro S μ' a' w' hS I;have hfH:∀j,j<(aL ops.size).n->lI aL bh S ops.size j=(aL ops.size).h.get j:=fun j hj=>Zt9 T (aM _) hj fun k hk _=>hS k hk;have hfR:∀t,xM bB (fun k=>(mo k).dst) S ops.size t=(bB ops.size).r.get t:=fun t=>Zt8 Pu (aM _) fun k hk _=>hS k hk;have ER:∀j l,μ' j=some l->j<(aL ops.size).n:=fun j l hj=>by
     rcases(I.dq j l hj).1 with h|⟨k,h1,_,_,h2⟩
     ·have:=T.mono (i:=0) (k:=ops.size) (by omega) (by omega);omega
     have:=T.mono (i:=k+1) (k:=ops.size) (by omega) (by omega);omega
    rw[<-e3,<-e4];refine⟨rfl,μ',wsT,⟨⟨fun j l hj=>⟨ER j l hj,(I.dq j l hj).2⟩,fun j l hj=>?_,fun i j l l' o o' h1 h2 h3 h4 h5=>?_,fun g hg=>?_⟩,I.ext,T.mono (wx _) (aM _),T7,I.eR,I.new,T8.ad,T8.grow,fun j h1 h2=>?_,T8.AF⟩,⟨?_,fun t v hv=>?_⟩,?_⟩
    ·obtain⟨o,q1,q2⟩:=I.obj j l hj;exact⟨o,by rw[<-hfH j (ER j l hj)];exact q1,q2⟩
    ·exact I.inj i j l l' o o' h1 h2 h3 (by rw[hfH i (ER i l h1)];exact h4) (by rw[hfH j (ER j l' h2)];exact h5)
    ·obtain⟨t,ht⟩:=hh.iO g hg;exact⟨t,by rw[I.ext g (hh.dq g _ ht).1];exact ht⟩
    ·obtain⟨k,q1,q2,q3⟩:=Zrm T j ops.size (aM _) h1 h2;exact I.full k q1 (hS k q1) j q2 q3
    ·rw[(T.fn ops.size (aM _)).1];exact I.xO.1
    ·exact I.xO.2 t v (by rw[hfR];exact hv)
    rw[(T.fn ops.size (aM _)).2];exact I.defs
   ·have:(fun k=>!(Array.replicate ops.size false).getD k false)=fun _=>true:=by funext k;rw[BT];rfl
    rw[this];simp
   intro k i hk;rw[BT k]at hk;cases hk
  cases h
 cases h
end
mutual
def V.cj(ρ:Nat->Option Nat):V->Option V
 |.bool b=>some (.bool b)
 |.int k n=>some (.int k n)
 |.xy k n=>some (.xy k n)
 |.str s=>some (.str s)
 |.bM=>some .bM
 |.ptr i o=>match ρ i with
  |some i=>some (.ptr i o)
  |none=>none
 |.aa=>some .aa
 |.slice i o len cap sz=>match ρ i with
  |some i=>some (.slice i o len cap sz)
  |none=>none
 |.empty=>some .empty
 |.bV=>some .bV
 |.map i=>match ρ i with
  |some i=>some (.map i)
  |none=>none
 |.bW=>some .bW
 |.chan i=>match ρ i with
  |some i=>some (.chan i)
  |none=>none
 |.func f a c=>match V.eZ ρ a,V.eZ ρ c with
  |some a,some c=>some (.func f a c)
  |_,_=>none
 |.yield i=>match ρ i with
  |some i=>some (.yield i)
  |none=>none
 |.bY=>some .bY
 |.iface t v=>match V.cj ρ v with
  |some v=>some (.iface t v)
  |none=>none
 |.bb=>some .bb
 |.agg l=>match V.eZ ρ l with
  |some l=>some (.agg l)
  |none=>none
 |.aX l=>match V.eZ ρ l with
  |some l=>some (.aX l)
  |none=>none
def V.eZ(ρ:Nat->Option Nat):List V->Option (List V)
 |[]=>some []
 |v::vs=>match V.cj ρ v,V.eZ ρ vs with
  |some v,some vs=>some (v::vs)
  |_,_=>none
end
mutual
def VR.cj{μ μ':Mu}{ρ:Nat->Option Nat}(h:∀i i',ρ i=some i'->μ i=μ' i'):∀(v v':V) (x:Value),V.cj ρ v=some v'->(VR μ v x↔VR μ' v' x)
 |.bool _,v',x,hv=>by simp only[V.cj,au]at hv;subst hv;simp only[VR]
 |.int _ _,v',x,hv=>by simp only[V.cj,au]at hv;subst hv;simp only[VR]
 |.xy _ _,v',x,hv=>by simp only[V.cj,au]at hv;subst hv;simp only[VR]
 |.str _,v',x,hv=>by simp only[V.cj,au]at hv;subst hv;simp only[VR]
 |.bM,v',x,hv=>by simp only[V.cj,au]at hv;subst hv;simp only[VR]
 |.ptr _ _,v',x,hv=>by
  simp only[V.cj]at hv;split at hv
  ·rename_i i' hi;simp only[au]at hv;subst hv;simp only[VR,h _ _ hi]
  ·cases hv
 |.aa,v',x,hv=>by simp only[V.cj,au]at hv;subst hv;simp only[VR]
 |.slice _ _ _ _ _,v',x,hv=>by
  simp only[V.cj]at hv;split at hv
  ·rename_i i' hi;simp only[au]at hv;subst hv;simp only[VR,h _ _ hi]
  ·cases hv
 |.empty,v',x,hv=>by simp only[V.cj,au]at hv;subst hv;simp only[VR]
 |.bV,v',x,hv=>by simp only[V.cj,au]at hv;subst hv;simp only[VR]
 |.map _,v',x,hv=>by
  simp only[V.cj]at hv;split at hv
  ·rename_i i' hi;simp only[au]at hv;subst hv;simp only[VR,h _ _ hi]
  ·cases hv
 |.bW,v',x,hv=>by simp only[V.cj,au]at hv;subst hv;simp only[VR]
 |.chan _,v',x,hv=>by
  simp only[V.cj]at hv;split at hv
  ·rename_i i' hi;simp only[au]at hv;subst hv;simp only[VR,h _ _ hi]
  ·cases hv
 |.func _ a c,v',x,hv=>by
  simp only[V.cj]at hv;split at hv
  ·rename_i a' c' ha hc;simp only[au]at hv;subst hv
   simp only[VR,fun xs=>aY.cj h a a' xs ha,fun xs=>aY.cj h c c' xs hc]
  ·cases hv
 |.yield _,v',x,hv=>by
  simp only[V.cj]at hv;split at hv
  ·rename_i i' hi;simp only[au]at hv;subst hv;simp only[VR,h _ _ hi]
  ·cases hv
 |.bY,v',x,hv=>by simp only[V.cj,au]at hv;subst hv;simp only[VR]
 |.iface _ v,v',x,hv=>by
  simp only[V.cj]at hv;split at hv
  ·rename_i u hu;simp only[au]at hv;subst hv;simp only[VR,fun y=>VR.cj h v u y hu]
  ·cases hv
 |.bb,v',x,hv=>by simp only[V.cj,au]at hv;subst hv;simp only[VR]
 |.agg l,v',x,hv=>by
  simp only[V.cj]at hv;split at hv
  ·rename_i l' hl;simp only[au]at hv;subst hv;simp only[VR,fun xs=>aY.cj h l l' xs hl]
  ·cases hv
 |.aX l,v',x,hv=>by
  simp only[V.cj]at hv;split at hv
  ·rename_i l' hl;simp only[au]at hv;subst hv;simp only[VR,fun xs=>aY.cj h l l' xs hl]
  ·cases hv
def aY.cj{μ μ':Mu}{ρ:Nat->Option Nat}(h:∀i i',ρ i=some i'->μ i=μ' i'):∀(vs nG:List V) (xs:List Value),V.eZ ρ vs=some nG->(aY μ vs xs↔aY μ' nG xs)
 |[],nG,xs,hv=>by simp only[V.eZ,au]at hv;subst hv;simp only[aY]
 |v::vs,nG,xs,hv=>by
  simp only[V.eZ]at hv;split at hv
  ·rename_i u us hu vg;simp only[au]at hv;subst hv
   simp only[aY,fun y=>VR.cj h v u y hu,fun ys=>aY.cj h vs us ys vg]
  ·cases hv
end
def V.iT{ρ:Nat->Option Nat}:∀{vs nG:List V},V.eZ ρ vs=some nG->nG.length=vs.length
 |[],nG,h=>by simp only[V.eZ,au]at h;subst h;rfl
 |v::vs,nG,h=>by
  simp only[V.eZ]at h;split at h
  ·rename_i u us hu vg;simp only[au]at h;subst h;simp[V.iT vg]
  ·cases h
def V.vJ{ρ:Nat->Option Nat}:∀{vs nG:List V} {j:Nat} {v':V},V.eZ ρ vs=some nG->nG[j]?=some v'->∃v,vs[j]?=some v/\V.cj ρ v=some v'
 |[],nG,j,v',h,hj=>by simp only[V.eZ,au]at h;subst h;simp at hj
 |v::vs,nG,j,v',h,hj=>by
  simp only[V.eZ]at h;split at h
  ·rename_i u us hu vg;simp only[au]at h;subst h
   cases j with
   |zero=>simp at hj;subst hj;exact⟨v,by simp,hu⟩
   |succ j=>simpa using V.vJ vg (j:=j) (by simpa using hj)
  ·cases h
def V.sG{ρ:Nat->Option Nat}:∀{vs nG:List V} {j:Nat} {v:V},V.eZ ρ vs=some nG->vs[j]?=some v->∃v',nG[j]?=some v'/\V.cj ρ v=some v'
 |[],nG,j,v',h,hj=>by simp at hj
 |v::vs,nG,j,v',h,hj=>by
  simp only[V.eZ]at h;split at h
  ·rename_i u us hu vg;simp only[au]at h;subst h
   cases j with
   |zero=>simp at hj;subst hj;exact⟨u,by simp,hu⟩
   |succ j=>simpa using V.sG vg (j:=j) (by simpa using hj)
  ·cases h
def V.ES{ρ:Nat->Option Nat}{v v':V}(h:V.cj ρ v=some v'):v'.Ik=v.Ik:=by cases v<;>simp only[V.cj]at h<;>(try split at h)<;>simp only[au,reduceCtorEq]at h<;>subst h<;>rfl
def OQ(ρ:Nat->Option Nat):List (V×V)->Option (List (V×V))
 |[]=>some []
 |(k,v)::es=>match V.cj ρ k,V.cj ρ v,OQ ρ es with
  |some k,some v,some es=>some ((k,v)::es)
  |_,_,_=>none
def jD.cj{μ μ':Mu}{ρ:Nat->Option Nat}(h:∀i i',ρ i=some i'->μ i=μ' i'):∀(es iQ:List (V×V)) (xs:List MapEntry) (i:Nat),OQ ρ es=some iQ->(jD μ es xs i↔jD μ' iQ xs i)
 |[],iQ,xs,i,he=>by simp only[OQ,au]at he;subst he;simp only[jD]
 |(k,v)::es,iQ,xs,i,he=>by
  simp only[OQ]at he;split at he
  ·rename_i k' v' us hk hv vg;simp only[au]at he;subst he
   simp only[jD,fun y=>VR.cj h k k' y hk,fun y=>VR.cj h v v' y hv,fun ys i=>jD.cj h es us ys i vg]
  ·cases he
def O.cj(ρ:Nat->Option Nat):O->Option O
 |.cells c e rw=>match V.eZ ρ c with
  |some c=>some (.cells c e rw)
  |none=>none
 |.map es=>match OQ ρ es with
  |some es=>some (.map es)
  |none=>none
 |.chan cap buf=>match V.eZ ρ buf with
  |some buf=>some (.chan cap buf)
  |none=>none
 |.fe s pos=>some (.fe s pos)
 |.defs o=>some (.defs o)
 |.loop _=>none
 |.dead=>some .dead
def O.BU{ρ:Nat->Option Nat}{o o':O}(h:o.cj ρ=some o'):o'.wr=o.wr:=by cases o<;>simp only[O.cj]at h<;>(try split at h)<;>simp only[au,reduceCtorEq]at h<;>subst h<;>rfl
def O.vK{ρ:Nat->Option Nat}{o o':O}(h:o.cj ρ=some o'):o'.live=o.live:=by cases o<;>simp only[O.cj]at h<;>(try split at h)<;>simp only[au,reduceCtorEq]at h<;>subst h<;>rfl
def OM.cj{P:Program}{μ μ':Mu}{w:World}{ρ:Nat->Option Nat}(h:∀i i',ρ i=some i'->μ i=μ' i'){o o':O}{l:L}(ho:o.cj ρ=some o'):OM P μ w o l↔OM P μ' w o' l:=by
 cases o with
 |cells c e rw=>
  simp only[O.cj]at ho;split at ho
  ·rename_i c' hc;simp only[au]at ho;subst ho;constructor
   ·rintro⟨d,lo,hi,h1,h2,h3,h4,h5⟩;refine⟨d,lo,hi,h1,h2,by rw[V.iT hc];exact h3,fun j v' IM=>?_,h5⟩;obtain⟨v,hv,hr⟩:=V.vJ hc IM;obtain⟨x,hx,DD⟩:=h4 j v hv;exact⟨x,hx,(VR.cj h v v' x hr).1 DD⟩
   rintro⟨d,lo,hi,h1,h2,h3,h4,h5⟩;refine⟨d,lo,hi,h1,h2,by rw[V.iT hc]at h3;exact h3,fun j v hv=>?_,h5⟩;obtain⟨v',IM,hr⟩:=V.sG hc hv;obtain⟨x,hx,DD⟩:=h4 j v' IM;exact⟨x,hx,(VR.cj h v v' x hr).2 DD⟩
  cases ho
 |map es=>
  simp only[O.cj]at ho;split at ho
  ·rename_i iQ he;simp only[au]at ho;subst ho;simp only[OM,fun xs i=>jD.cj h es iQ xs i he]
  cases ho
 |chan cap buf=>
  simp only[O.cj]at ho;split at ho
  ·rename_i c' hc;simp only[au]at ho;subst ho;simp only[OM,fun xs=>aY.cj h buf c' xs hc]
  cases ho
 |fe s pos=>simp only[O.cj,au]at ho;subst ho;simp only[OM]
 |loop R=>simp only[O.cj,reduceCtorEq]at ho
 |defs b=>simp only[O.cj,au]at ho;subst ho;simp only[OM]
 |dead=>simp only[O.cj,au]at ho;subst ho;simp only[OM]
def GI(ρ:Nat->Option Nat)(o O':O):Prop:=
 o=.dead\/o.cj ρ=some O'\/∃c e c',o=.cells c e false/\V.eZ ρ c=some c'/\O'=.cells c' e true
def GI.om{P:Program}{μ μ':Mu}{w:World}{ρ:Nat->Option Nat}(h:∀i i',ρ i=some i'->μ i=μ' i'){o o':O}{l:L}(ho:GI ρ o o')(hm:OM P μ' w o' l):OM P μ w o l:=by
 rcases ho with rfl|ho|⟨c,e,c',rfl,hc,rfl⟩
 ·trivial
 ·exact(OM.cj h ho).2 hm
 have h1:(O.cells c e true).cj ρ=some (.cells c' e true):=by simp only[O.cj,hc]
 obtain⟨d,lo,hi,q1,q2,q3,q4,q5,_⟩:=(OM.cj h h1).2 hm;exact⟨d,lo,hi,q1,q2,q3,q4,q5,fun hx=>by cases hx⟩
def GI.wr{ρ:Nat->Option Nat}{o o':O}(ho:GI ρ o o')(h:o.wr=true):o'.wr=true/\o.cj ρ=some o':=by
 rcases ho with rfl|ho|⟨c,e,c',rfl,hc,rfl⟩
 ·simp[O.wr]at h
 ·exact⟨(O.BU ho).trans h,ho⟩
 simp[O.wr]at h
def GI.live{ρ:Nat->Option Nat}{o o':O}(ho:GI ρ o o')(h:o.live=true):o'.live=true:=by
 rcases ho with rfl|ho|⟨c,e,c',rfl,hc,rfl⟩
 ·simp[O.live]at h
 ·exact(O.vK ho).trans h
 rfl
def O.zg{o:O}(h:o.wr=true):o.live=true:=by cases o<;>simp_all [O.wr,O.live]
def Mh(P:Program)(g:V)(args:List V)(st:St)(v:V)(aB:St):Prop:=
 ∀(μ:Mu) (w:World) (G:Value) (xs:List Value),bp P μ w st->VR μ g G->aY μ args xs->
  OR P g.Ik G ⟨xs⟩ w fun x w'=>∃μ' ws,VR μ' v x/\bL P μ w st μ' w' aB ws
def OR.mono{P:Program}{y:Bool}{G:Value}{xs:Array Value}{w:World}{R R':Value->World->Prop}(h:OR P y G xs w R)(hR:∀x w',R x w'->R' x w'):OR P y G xs w R':=by
 obtain⟨d,hd,iU⟩:=h;refine⟨d,hd,?_⟩;rcases iU with⟨hy,f,args,hinv,Jz⟩|⟨hy,l,f,tmps,gO,gS,hinv,Mi⟩
 ·refine .inl ⟨hy,f,args,hinv,CallsIn.mono (F:=Fence.wide) Jz fun e w' he=>?_⟩;cases e with
  |returned x=>exact hR x w' he
  |panicked _=>exact he.elim
  |outgrown=>exact he.elim
 refine .inr ⟨hy,l,f,tmps,gO,gS,hinv,RoundIn.mono (F:=Fence.wide) Mi fun e w' he=>?_⟩;cases e with
 |returned x=>exact hR x w' he
 |panicked _=>exact he.elim
 |outgrown=>exact he.elim
structure JA (P:Program) (σ ρ:Nat->Option Nat) (W:List Nat) (s s' S S':St):Prop where
 dq:∀i i',σ i=some i'->i<s.n/\i'<S.n
 inj:∀i j i',σ i=some i'->σ j=some i'->i=j
 iO:∀g,g<P.globals.size->σ g=some g
 obj:∀i i',σ i=some i'->∃o O',s.h.get i=some o/\GI σ o O'/\(S.h.get i'=some O'\/o=.dead)
 old:∀i,i<s.n->ρ i=σ i
 new:∀i i',s.n<=i->ρ i=some i'->S.n<=i'/\i'<S'.n/\i<s'.n
 JB:∀i j i',s.n<=i->s.n<=j->ρ i=some i'->ρ j=some i'->i=j
 full:∀i',S.n<=i'->i'<S'.n->∃i,s.n<=i/\ρ i=some i'
 ij:S.n<=S'.n
 w0:s.w=[]
 W1:∀i i',i∈s'.w->σ i=some i'->i'∈W
 W2:∀j,j∈W->∃i,i∈s'.w/\σ i=some j
 wl:S'.w=W++S.w
 ad:∀j,j<S.n->j∉W->S'.h.get j=S.h.get j
 wr:∀i i',i∈s'.w->σ i=some i'->∃o O',s'.h.get i=some o/\S'.h.get i'=some O'/\(O'=.dead\/o.cj ρ=some O')
 obn:∀i i',s.n<=i->ρ i=some i'->∃o O',s'.h.get i=some o/\S'.h.get i'=some O'/\(O'=.dead\/o.cj ρ=some O')
section
variable {P:Program} {σ ρ:Nat->Option Nat} {W:List Nat} {s s' S S':St}
def JA.vH(F:JA P σ ρ W s s' S S'){μ:Mu}{w:World}(hh:bp P μ w S):bp P (fun i=>(σ i).bind μ) w s:=by
 have hb:∀i l,(σ i).bind μ=some l->∃i',σ i=some i'/\μ i'=some l:=fun i l h=>by
  cases hs:σ i with
  |none=>rw[hs]at h;cases h
  |some i'=>rw[hs]at h;exact⟨i',rfl,h⟩
 refine⟨fun i l hl=>?_,fun i l hl=>?_,fun i j l l' o o' hi hj aZ ho yS hw rn=>?_,fun g hg=>?_⟩
 ·obtain⟨i',h1,h2⟩:=hb i l hl;exact⟨(F.dq i i' h1).1,(hh.dq i' l h2).2⟩
 ·obtain⟨i',h1,h2⟩:=hb i l hl;obtain⟨o,O',g1,g2,g3⟩:=F.obj i i' h1;refine⟨o,g1,?_⟩;rcases g3 with g3|rfl
  ·obtain⟨O2,q1,q2⟩:=hh.obj i' l h2;rw[g3]at q1;cases q1;exact GI.om (fun i i' hi=>by simp[hi]) g2 q2
  trivial
 ·obtain⟨i',h1,h2⟩:=hb i l hi;obtain⟨j',h3,h4⟩:=hb j l' hj;obtain⟨o1,O1,a1,a2,a3⟩:=F.obj i i' h1;obtain⟨o2,O2,b1,b2,b3⟩:=F.obj j j' h3;rw[ho]at a1;cases a1;rw[yS]at b1;cases b1;have a3':S.h.get i'=some O1:=a3.resolve_right fun e=>by subst e;simp[O.wr]at hw
  have b3':S.h.get j'=some O2:=b3.resolve_right fun e=>by subst e;simp[O.live]at rn
  refine hh.inj i' j' l l' O1 O2 h2 h4 (fun e=>aZ ?_) a3' b3' (a2.wr hw).1 (b2.live rn);subst e;exact F.inj i j i' h1 h3
 obtain⟨t,ht⟩:=hh.iO g hg;exact⟨t,by simp[F.iO g hg,ht]⟩
def JA.stp(F:JA P σ ρ W s s' S S'){μ:Mu}{w w':World}(hh:bp P μ w S){μ':Mu}{ws:List Nat}(h:bL P (fun i=>(σ i).bind μ) w s μ' w' s' ws):
  ∃μ2,bL P μ w S μ2 w' S' W/\∀i i',ρ i=some i'->μ' i=μ2 i':=by
 have rZ:s'.w=ws:=by have:=h.wl;rw[F.w0]at this;simpa using this
 have hinv:∃τ:Nat->Nat,∀i',S.n<=i'->i'<S'.n->s.n<=τ i'/\ρ (τ i')=some i':=by
  classical
  refine⟨fun i'=>if hc:∃i,s.n<=i/\ρ i=some i' then hc.choose else 0,fun i' h1 h2=>?_⟩;have hc:=F.full i' h1 h2;simp only[dif_pos hc];exact hc.choose_spec
 obtain⟨τ,hτ⟩:=hinv;let μ2:Mu:=fun i'=>if i'<S.n then μ i' else if i'<S'.n then μ' (τ i') else none
 have hold:∀i',i'<S.n->μ2 i'=μ i':=fun i' hi=>by show (if i'<S.n then _ else _)=_;rw[av hi]
 have tk:∀i',S.n<=i'->i'<S'.n->μ2 i'=μ' (τ i'):=fun i' h1 h2=>by show (if i'<S.n then _ else _)=_;rw[ak (by omega),av h2]
 have dH:∀i' l,μ2 i'=some l->i'<S'.n:=fun i' l hl=>by
  by_cases h1:i'<S.n
  ·exact fg h1 F.ij
  by_cases h2:i'<S'.n
  ·exact h2
  have:μ2 i'=none:=by show (if i'<S.n then _ else _)=_;rw[ak h1,ak h2]
  rw[this]at hl;cases hl
 have hμs:∀i,i<s.n->μ' i=(σ i).bind μ:=fun i hi=>h.ext i hi;have hρ:∀i i',ρ i=some i'->μ' i=μ2 i':=fun i i' hi=>by
  by_cases h1:i<s.n
  ·have h2:σ i=some i':=(F.old i h1).symm.trans hi;rw[hμs i h1,h2,hold i' (F.dq i i' h2).2];rfl
  obtain⟨g1,g2,_⟩:=F.new i i' (by omega) hi;obtain⟨k1,k2⟩:=hτ i' g1 g2;rw[tk i' g1 g2,F.JB i (τ i') i' (by omega) k1 hi k2]
 have BV:∀j,j∈W->∃i,i∈ws/\σ i=some j/\i<s.n/\j<S.n:=fun j hj=>by obtain⟨i,h1,h2⟩:=F.W2 j hj;exact⟨i,rZ▸h1,h2,F.dq i j h2⟩
 have Af:∀i i',i∈ws->σ i=some i'->∃O',S.h.get i'=some O'/\O'.wr=true:=fun i i' hi hs=>by obtain⟨o,ho,hw⟩:=h.AF i hi (F.dq i i' hs).1;obtain⟨o1,O1,a1,a2,a3⟩:=F.obj i i' hs;rw[ho]at a1;cases a1;exact⟨O1,a3.resolve_right fun e=>by subst e;simp[O.wr]at hw,(a2.wr hw).1⟩
 have tA:∀j l,j<S.n->j∉W->μ j=some l->∀O',S.h.get j=some O'->O'.live=true->w'.heap[l.b]?=w.heap[l.b]?:=fun j l hj Ub hl O' hO rn=>by
  refine h.eR.block l.b (hh.dq j l hl).2 fun i hi li Uc=>?_;cases hs:σ i with
  |none=>simp[hs]at Uc
  |some i'=> simp only[hs,Option.bind_some]at Uc;obtain⟨O1,q1,q2⟩:=Af i i' hi hs;refine hh.inj i' j li l O1 O' Uc hl (fun e=>Ub ?_) q1 hO q2 rn;subst e;exact F.W1 i i' (rZ▸hi) hs
 have JC:∀i i' l,ρ i=some i'->μ2 i'=some l->(s.n<=i\/i∈ws)->∃o O',s'.h.get i=some o/\S'.h.get i'=some O'/\(O'=.dead\/o.cj ρ=some O')/\OM P μ2 w' O' l:=fun i i' l hi hl hc=>by
  have key:∃o O',s'.h.get i=some o/\S'.h.get i'=some O'/\(O'=.dead\/o.cj ρ=some O'):=by
   by_cases h1:i<s.n
   ·rcases hc with hc|hc
    ·omega
    exact F.wr i i' (rZ▸hc) ((F.old i h1).symm.trans hi)
   exact F.obn i i' (by omega) hi
  obtain⟨o,O',g1,g2,g3⟩:=key;refine⟨o,O',g1,g2,g3,?_⟩;rcases g3 with rfl|g3
  ·trivial
  obtain⟨o2,q1,q2⟩:=h.hr.obj i l ((hρ i i' hi).trans hl);rw[g1]at q1;cases q1;exact(OM.cj hρ g3).1 q2
 have vM:∀i' l,μ2 i'=some l->(i'<S.n/\i'∉W/\μ i'=some l/\S'.h.get i'=S.h.get i')\/∃i,ρ i=some i'/\μ' i=some l/\(s.n<=i\/i∈ws):=fun i' l hl=>by
  by_cases h1:i'<S.n
  ·by_cases h2:i'∈W
   ·obtain⟨i,q1,q2,q3,_⟩:=BV i' h2;have hr:ρ i=some i':=(F.old i q3).trans q2;exact .inr ⟨i,hr,(hρ i i' hr).trans hl,.inr q1⟩
   exact .inl ⟨h1,h2,(hold i' h1)▸hl,F.ad i' h1 h2⟩
  have h2:=dH i' l hl;obtain⟨k1,k2⟩:=hτ i' (by omega) h2;exact .inr ⟨τ i',k2,(hρ _ _ k2).trans hl,.inl k1⟩
 have BW:∀i' l O',i'<S.n->i'∉W->μ i'=some l->S.h.get i'=some O'->O'.live=true->∀k k' lk,ρ k=some k'->μ' k=some lk->(s.n<=k\/k∈ws)->(O'.wr=true\/∃o,s'.h.get k=some o/\o.wr=true)->l.b≠lk.b:=by
  intro i' l O' hi Ub hl hO rn k k' lk hk fO hc Mj;by_cases h1:k<s.n
  ·have hkw:k∈ws:=hc.resolve_left (by omega);have hs:σ k=some k':=(F.old k h1).symm.trans hk;obtain⟨O1,q1,q2⟩:=Af k k' hkw hs;have kh:μ k'=some lk:=by rw[hμs k h1,hs]at fO;exact fO
   have aZ:k'≠i':=fun e=>Ub (e▸F.W1 k k' (rZ▸hkw) hs);exact(hh.inj k' i' lk l O1 O' kh hl aZ q1 hO q2 rn).symm
  rcases h.new k lk (by omega) fO with q_|⟨j,hj,C3,lj,oj,wG,hb,IU,hjw⟩
  ·have:=(hh.dq i' l hl).2;omega
  cases hs:σ j with
  |none=>simp[hs]at wG
  |some j'=> simp only[hs,Option.bind_some]at wG;obtain⟨O1,q1,q2⟩:=Af j j' hj hs;have aZ:j'≠i':=fun e=>Ub (e▸F.W1 j j' (rZ▸hj) hs);rw[<-hb];exact(hh.inj j' i' lj l O1 O' wG hl aZ q1 hO q2 rn).symm
 refine⟨μ2,⟨⟨fun i' l hl=>⟨dH i' l hl,?_⟩,fun i' l hl=>?_,fun i' j' l l' O1 O2 hi hj aZ Ud zh hw rn=>?_,fun g hg=>?_⟩,hold,F.ij,F.wl,⟨h.eR.os,h.eR.tape,h.eR.output,h.eR.size,fun b hb dV=>?_⟩,fun i' l kf hl=>?_,F.ad,fun i' O' kf hO=>?_,fun i' h1 h2=>?_,fun i' kf _=>?_⟩,hρ⟩
 ·rcases vM i' l hl with⟨_,_,g,_⟩|⟨i,_,g,_⟩
  ·exact fg (hh.dq i' l g).2 h.eR.size
  exact(h.hr.dq i l g).2
 ·rcases vM i' l hl with⟨g1,g2,g3,g4⟩|⟨i,g1,g2,g3⟩
  ·obtain⟨O',q1,q2⟩:=hh.obj i' l g3;refine⟨O',g4.trans q1,?_⟩;cases rn:O'.live with
   |false=>cases O'<;>simp[O.live]at rn;trivial
   |true=> refine OM.congr (w:=w) (tA i' l g1 g2 g3 O' q1 rn) (q2.mono fun k lk hk=>?_);rw[hold k (hh.dq k lk hk).1];exact hk
  obtain⟨o,O',q1,q2,q3,q4⟩:=JC i i' l g1 hl g3;exact⟨O',q2,q4⟩
 ·rcases vM i' l hi with⟨a1,a2,a3,a4⟩|⟨i,a1,a2,a3⟩
  ·rw[a4]at Ud;rcases vM j' l' hj with⟨b1,b2,b3,b4⟩|⟨j,b1,b2,b3⟩
   ·rw[b4]at zh;exact hh.inj i' j' l l' O1 O2 a3 b3 aZ Ud zh hw rn
   exact BW i' l O1 a1 a2 a3 Ud (O.zg hw) j j' l' b1 b2 b3 (.inl hw)
  obtain⟨o1,O1',q1,q2,q3,_⟩:=JC i i' l a1 hi a3;rw[Ud]at q2;cases q2;have Mk:o1.cj ρ=some O1:=q3.resolve_left fun e=>by subst e;simp[O.wr]at hw
  have Lf:o1.wr=true:=(O.BU Mk).symm.trans hw;rcases vM j' l' hj with⟨b1,b2,b3,b4⟩|⟨j,b1,b2,b3⟩
  ·rw[b4]at zh;exact(BW j' l' O2 b1 b2 b3 zh rn i i' l a1 a2 a3 (.inr ⟨o1,q1,Lf⟩)).symm
  obtain⟨o2,O2',r1,r2,r3,_⟩:=JC j j' l' b1 hj b3;rw[zh]at r2;cases r2;have r3':o2.cj ρ=some O2:=r3.resolve_left fun e=>by subst e;simp[O.live]at rn
  refine h.hr.inj i j l l' o1 o2 a2 b2 (fun e=>aZ ?_) q1 r1 Lf ((O.vK r3').symm.trans rn);subst e;rw[a1]at b1;cases b1;rfl
 ·obtain⟨t,ht⟩:=hh.iO g hg;exact⟨t,by rw[hold g (hh.dq g _ ht).1];exact ht⟩
 ·refine h.eR.block b hb fun i hi l hl=>?_;cases hs:σ i with
  |none=>simp[hs]at hl
  |some i'=> simp only[hs,Option.bind_some]at hl;exact dV i' (F.W1 i i' (rZ▸hi) hs) l hl
 ·have h2:=dH i' l hl;obtain⟨k1,k2⟩:=hτ i' kf h2;rcases h.new (τ i') l k1 ((hρ _ _ k2).trans hl)with q_|⟨j,hj,C3,lj,oj,wG,hb,IU,hjw⟩
  ·exact .inl q_
  cases hs:σ j with
  |none=>simp[hs]at wG
  |some j'=> simp only[hs,Option.bind_some]at wG;obtain⟨O1,q1,q2⟩:=Af j j' hj hs;exact .inr ⟨j',F.W1 j j' (rZ▸hj) hs,(F.dq j j' hs).2,lj,O1,wG,hb,q1,q2⟩
 ·by_cases hW:i'∈W
  ·obtain⟨i,q1,q2,q3,q4⟩:=BV i' hW;obtain⟨O1,r1,r2⟩:=Af i i' q1 q2;exact⟨O1,r1,fun _=>r2,fun _=>O.zg r2⟩
  exact⟨O',(F.ad i' kf hW).symm.trans hO,id,id⟩
 ·obtain⟨k1,k2⟩:=hτ i' h1 h2;obtain⟨l,hl⟩:=h.full (τ i') k1 (F.new _ _ k1 k2).2.2;exact⟨l,(tk i' h1 h2).trans hl⟩
 obtain⟨i,q1,q2,_⟩:=BV i' kf;exact Af i i' q1 q2
def Mh.frame{g v:V}{args:List V}(h:Mh P g args s v s')(F:JA P σ ρ W s s' S S'){g' v':V}{BX:List V}(hg:V.cj σ g=some g')(ha:V.eZ σ args=some BX)(hv:V.cj ρ v=some v'):
  Mh P g' BX S v' S':=by
 intro μ w G xs hh hG si;have hσ:∀i i',σ i=some i'->(fun i=>(σ i).bind μ) i=μ i':=fun i i' hi=>by simp[hi]
 have:=h (fun i=>(σ i).bind μ) w G xs (F.vH hh) ((VR.cj hσ g g' G hg).2 hG) ((aY.cj hσ args BX xs ha).2 si);rw[V.ES hg];refine this.mono fun x w' ⟨μ',ws,h1,h2⟩=>?_;obtain⟨μ2,k1,k2⟩:=F.stp hh h2;exact⟨μ2,W,(VR.cj k2 v v' x hv).1 h1,k1⟩
end
def uK(a b:cO):cO:=fun g args st=>match a g args st with
 |some r=>some r
 |none=>b g args st
def kI.or{P:Program}{a b:cO}(ha:kI P a)(hb:kI P b):kI P (uK a b):=by
 intro g args st v aB h;unfold uK at h;split at h
 ·rename_i r hr;cases h;exact ha g args st v aB hr
 exact hb g args st v aB h
end Go.Mx
