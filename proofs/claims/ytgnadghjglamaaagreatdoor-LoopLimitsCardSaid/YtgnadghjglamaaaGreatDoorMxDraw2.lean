/-A region that draws its order-/
import Derived.Test.YtgnadghjglamaaaGreatDoorMxLoc
set_option linter.all false
namespace Go.Mx
open Go
structure Inv (P:Program) (μ:Mu) (w:World) (aO:Nat->St) (bA:Nat->Fr) (bh:Nat->FP) (ds:Nat->Option Nat) (N:Nat) (W:List Nat) (S:Nat->Bool) (μ':Mu) (a':Act) (w':World):Prop where
 ext:∀j,j<(aO 0).n->μ' j=μ j
 dc:∀j l,μ' j=some l->(j<(aO 0).n\/∃k,k<N/\S k=true/\(aO k).n<=j/\j<(aO (k+1)).n)/\l.b<w'.heap.size
 full:∀k,k<N->S k=true->∀j,(aO k).n<=j->j<(aO (k+1)).n->∃l,μ' j=some l
 obj:∀j l,μ' j=some l->∃o,jK aO bh S N j=some o/\OM P μ' w' o l
 inj:∀i j l l' o o',μ' i=some l->μ' j=some l'->i≠j->jK aO bh S N i=some o->jK aO bh S N j=some o'->o.wr=true->o'.live=true->l.b≠l'.b
 vf:a'.tmps.size=(bA 0).n/\∀t v,u_ bA ds S N t=some v->∃x,a'.tmps[t]?=some x/\VR μ' v x
 defs:ph μ' (bA 0).marks a'.defers
 eC:Od μ W w w'
 new:∀i l,(aO 0).n<=i->μ' i=some l->w.heap.size<=l.b\/∃j∈W,j<(aO 0).n/\∃lj oj,μ j=some lj/\lj.b=l.b/\(aO 0).h.get j=some oj/\oj.wr=true
structure Ord (bh:Nat->FP) (mo:Nat->dC) (N:Nat) (kZ:Nat->Nat->Prop):Prop where
 free:∀i k,i<k->k<N->kZ k i\/FP.free (bh i) (bh k)=true
 tmp:∀i k,i<k->k<N->kZ k i\/SH (mo i) (mo k)=true
section
variable {P:Program} {μ μ':Mu} {w w':World} {aO:Nat->St} {bA:Nat->Fr} {bh:Nat->FP} {ds:Nat->Option Nat} {S:Nat->Bool} {N:Nat} {W:List Nat} {a a':Act} {mo:Nat->dC} {kZ:Nat->Nat->Prop}
def vc.mono(T:vc P μ aO bA bh N):∀{i k:Nat},i<=k->k<=N->(aO i).n<=(aO k).n
 |i,0,h,_=>by rw[Nat.le_zero.1 h];exact aZ _
 |i,k+1,h,hk=>by
  by_cases e:i=k+1
  ·rw[e];exact aZ _
  ·exact sF (T.mono (i:=i) (k:=k) (by omega) (by omega)) (T.iT k (by omega))
def SU{a b:FP}(h:FP.free a b=true):(∀j∈a.wr,¬b.du j)/\(∀j∈a.wr,j∉b.wr)/\(∀j∈b.wr,¬a.du j)/\∀j∈b.wr,¬(a.lo<=j/\j<a.hi):=by
 unfold FP.free at h
 simp only[IU,Bool.or_eq_false_iff]at h
 obtain⟨⟨⟨h1,h2⟩,h3⟩,h4⟩:=h
 have key:∀(l:List Nat) (o:Option (List Nat)),vY l o=false->∀j∈l,¬(match o with|none=>True|some q=>j∈q):=by
  intro l o h j hj
  cases o with
  |none=>
   simp only[vY,Bool.not_eq_false',List.isEmpty_iff]at h
   subst h;simp at hj
  |some q=>
   simp only[vY,List.any_eq_false,SF]at h
   exact h j hj
 refine⟨fun j hj=>?_,fun j hj=>?_,fun j hj=>?_,fun j hj=>?_⟩
 ·have:=key _ _ h1 j hj
  unfold FP.du
  exact this
 ·exact key _ _ h2 j hj
 ·have:=key _ _ h3 j hj
  unfold FP.du
  exact this
 ·simp only[List.any_eq_false]at h4
  have:=h4 j hj
  intro hc
  apply this
  simp[Nat.ble_eq,Nat.blt_eq,hc.1,hc.2]
def Zw4(T:vc P μ aO bA bh N)(I:Inv P μ w aO bA bh ds N W S μ' a' w')(Or:Ord bh mo N kZ)(dW:∀k,S k=true->∀i,kZ k i->S i=true){i:Nat}(hi:i<N)(hS:S i=false)(hb:∀j,kZ i j->S j=true)
  {j:Nat} {l:L} (hj:μ' j=some l) (aP:j<(aO i).n) (hs:(bh i).du j):
  (∀k,k<i->u9 aO bh k j->S k=true)/\(∀k,i<=k->k<N->u9 aO bh k j->S k=false):=by
 refine⟨fun k hk ht=>?_,fun k hk Cg ht=>?_⟩
 ·rcases ht with ht|⟨h1,h2⟩
  ·rcases Or.free k i hk hi with h|h
   ·exact hb k h
   ·exact absurd hs ((SU h).1 j ht)
  ·rcases(I.dc j l hj).1 with h0|⟨k',h3,h4,h5,h6⟩
   ·have:=T.mono (i:=0) (k:=k) (by omega) (by omega)
    omega
   ·have:k'=k:=by
     rcases Nat.lt_trichotomy k k' with h|h|h
     ·have:=T.mono (i:=k+1) (k:=k') (by omega) (by omega);omega
     ·exact h.symm
     ·have:=T.mono (i:=k'+1) (k:=k) (by omega) (by omega);omega
    subst this;exact h4
 ·by_cases e:k=i
  ·rw[e];exact hS
  ·rcases ht with ht|⟨h1,h2⟩
   ·rcases Or.free i k (by omega) Cg with h|h
    ·cases hq:S k with
     |false=>rfl
     |true=>rw[dW k hq i h]at hS;cases hS
    ·exact absurd hs ((SU h).2.2.1 j ht)
   ·have:=T.mono (i:=i) (k:=k) hk (by omega)
    omega
def Zso(T:vc P μ aO bA bh N)(Or:Ord bh mo N kZ)(dW:∀k,S k=true->∀i,kZ k i->S i=true){i:Nat}(hi:i<N)(hS:S i=false)
  {j:Nat} (ht:u9 aO bh i j):∀k,i<k->k<N->u9 aO bh k j->S k=false:=by
 intro k hk Cg gO
 have Oo:=Or.free i k hk Cg
 have hno:kZ k i->S k=false:=fun h=>by
  cases hq:S k with
  |false=>rfl
  |true=>rw[dW k hq i h]at hS;cases hS
 rcases Oo with h|h
 ·exact hno h
 ·exfalso
  have hm:=T.mono (i:=i+1) (k:=k) (by omega) (by omega)
  have uV:=T.iT i hi
  rcases ht with ht|⟨h1,h2⟩
  ·rcases gO with gO|⟨h3,h4⟩
   ·exact(SU h).2.1 j ht gO
   ·have:=T.wlt i hi j ht;omega
  ·rcases gO with gO|⟨h3,h4⟩
   ·refine(SU h).2.2.2 j gO ⟨?_,?_⟩
    ·rw[T.lo i hi];exact h1
    ·rw[T.hi i hi];exact h2
   ·omega
def Zm8{d:Option Nat}{l:List Nat}(h:Om d l=false):∀t,d=some t->t∉l:=by
 intro t ht hm
 subst ht
 simp only[Om]at h
 have:l.contains t=true:=SF.2 hm
 rw[this]at h;cases h
def Zi5{a b:dC}(h:SH a b=true):(∀t,a.dst=some t->t∉b.reads)/\(∀t,b.dst=some t->t∉a.reads)/\∀t,a.dst=some t->b.dst≠some t:=by
 unfold SH at h
 simp only[IU,Bool.or_eq_false_iff]at h
 obtain⟨⟨h1,h2⟩,h3⟩:=h
 exact⟨Zm8 h1,Zm8 h2,fun t ht hb=>Zm8 h3 t ht (by rw[hb];simp)⟩
def Zw7(Or:Ord bh mo N kZ)(dW:∀k,S k=true->∀i,kZ k i->S i=true)(pB:∀k,k<N->ds k=(mo k).dst){i:Nat}(hi:i<N)(hS:S i=false)(hb:∀j,kZ i j->S j=true)
  {t:Nat} (ht:t∈(mo i).reads):(∀k,k<i->ds k=some t->S k=true)/\(∀k,i<=k->k<N->ds k=some t->S k=false):=by
 refine⟨fun k hk hd=>?_,fun k hk Cg hd=>?_⟩
 ·rcases Or.tmp k i hk hi with h|h
  ·exact hb k h
  ·rw[pB k (by omega)]at hd
   exact absurd ht ((Zi5 h).1 t hd)
 ·by_cases e:k=i
  ·rw[e];exact hS
  ·rcases Or.tmp i k (by omega) Cg with h|h
   ·cases hq:S k with
    |false=>rfl
    |true=>rw[dW k hq i h]at hS;cases hS
   ·rw[pB k Cg]at hd
    exact absurd ht ((Zi5 h).2.1 t hd)
def Ycs(Or:Ord bh mo N kZ)(dW:∀k,S k=true->∀i,kZ k i->S i=true)(pB:∀k,k<N->ds k=(mo k).dst){i:Nat}(hi:i<N)(hS:S i=false)
  {t:Nat} (ht:ds i=some t):∀k,i<k->k<N->ds k=some t->S k=false:=by
 intro k hk Cg hd
 rcases Or.tmp i k hk Cg with h|h
 ·cases hq:S k with
  |false=>rfl
  |true=>rw[dW k hq i h]at hS;cases hS
 ·rw[pB i hi]at ht
  rw[pB k Cg]at hd
  exact absurd hd ((Zi5 h).2.2 t ht)
end
section
variable {P:Program} {μ μ':Mu} {w w':World} {aO:Nat->St} {bA:Nat->Fr} {bh:Nat->FP} {ds:Nat->Option Nat} {S:Nat->Bool} {N:Nat} {W:List Nat} {a a':Act} {mo:Nat->dC} {kZ:Nat->Nat->Prop}
def zE(μ':Mu)(n:Nat):Mu:=fun j=>if j<n then μ' j else none
def Oq{n j:Nat}(h:j<n):zE μ' n j=μ' j:=aQ h
def DV{n j:Nat}{l:L}(h:zE μ' n j=some l):j<n/\μ' j=some l:=by
 unfold zE at h
 split at h
 ·exact⟨by assumption,h⟩
 ·cases h
def Yc7(h0:bk P μ w (aO 0))(T:vc P μ aO bA bh N)(I:Inv P μ w aO bA bh ds N W S μ' a' w')(Or:Ord bh mo N kZ)(dW:∀k,S k=true->∀i,kZ k i->S i=true){i:Nat}(hi:i<N)(hS:S i=false)(hb:∀j,kZ i j->S j=true)
  {σ:St} (hn:σ.n=(aO i).n) (hs:∀j,j<(aO i).n->(bh i).du j->σ.h.get j=(aO i).h.get j) (hd:∀j,j<(aO i).n->¬(bh i).du j->σ.h.get j=((aO i).h.get j).map fun _=>.dead):
  bk P (zE μ' (aO i).n) w' σ/\∀j l,μ' j=some l->j<(aO i).n->(bh i).du j->σ.h.get j=jK aO bh S N j:=by
 have jL:∀j l,μ' j=some l->j<(aO i).n->(bh i).du j->jK aO bh S N j=(aO i).h.get j:=fun j l hj aP sS=>by
  obtain⟨h1,h2⟩:=Zw4 T I Or dW hi hS hb hj aP sS
  rw[SR (i:=i) (by omega) h2,Zp4 T (by omega) aP h1]
 have vg:∀j l,μ' j=some l->j<(aO i).n->(bh i).du j->σ.h.get j=jK aO bh S N j:=fun j l hj aP sS=>by rw[hs j aP sS,jL j l hj aP sS]
 have hold:∀j l,μ' j=some l->j<(aO 0).n->∃l,μ j=some l:=fun j l hj h0=>⟨l,by rw[<-I.ext j h0];exact hj⟩
 refine⟨⟨fun j l hj=>?_,fun j l hj=>?_,fun j k lj lk oj ok hj hk bF h1 h2 hw hl=>?_,fun g hg=>?_⟩,vg⟩
 ·obtain⟨h1,h2⟩:=DV hj
  exact⟨by omega,(I.dc j l h2).2⟩
 ·obtain⟨h1,h2⟩:=DV hj
  obtain⟨o,μT,wT,lT,t1,t2,t3⟩:=T.sch i (by omega) j (hold j l h2) h1
  by_cases sS:(bh i).du j
  ·obtain⟨o',q1,q2⟩:=I.obj j l h2
   rw[jL j l h2 h1 sS,t1,au]at q1
   subst q1
   exact⟨o,by rw[hs j h1 sS,t1],OM.cut (n:=(aO i).n) (fun k lk hk gO=>by rw[Oq hk];exact gO) t3 t2 q2⟩
  ·exact⟨.dead,by rw[hd j h1 sS,t1];rfl,trivial⟩
 ·obtain⟨a1,a2⟩:=DV hj
  obtain⟨b1,b2⟩:=DV hk
  have sj:(bh i).du j:=Classical.byContradiction fun hn=>by
   rw[hd j a1 hn]at h1
   cases hq:(aO i).h.get j<;>rw[hq]at h1<;>simp at h1
   subst h1;simp[O.wr]at hw
  have sk:(bh i).du k:=Classical.byContradiction fun hn=>by
   rw[hd k b1 hn]at h2
   cases hq:(aO i).h.get k<;>rw[hq]at h2<;>simp at h2
   subst h2;simp[O.live]at hl
  exact I.inj j k lj lk oj ok a2 b2 bF (by rw[<-vg j lj a2 a1 sj];exact h1) (by rw[<-vg k lk b2 b1 sk];exact h2) hw hl
 ·obtain⟨t,ht⟩:=h0.ij g hg
  have BZ:=(h0.dc g _ ht).1
  have:=T.mono (i:=0) (k:=i) (by omega) (by omega)
  exact⟨t,by rw[Oq (by omega),I.ext g BZ];exact ht⟩
def Ygq(T:vc P μ aO bA bh N){vI:Nat->V}(Pu:Jk bA ds vI N)(I:Inv P μ w aO bA bh ds N W S μ' a' w')(Or:Ord bh mo N kZ)(dW:∀k,S k=true->∀i,kZ k i->S i=true)(pB:∀k,k<N->ds k=(mo k).dst)
  {i:Nat} (hi:i<N) (hS:S i=false) (hb:∀j,kZ i j->S j=true):
  RR (zE μ' (aO i).n) (zD (bA i).r (mo i).reads) (bA 0).n a'.tmps:=by
 refine⟨I.vf.1,fun t v hv=>?_⟩
 rw[On]at hv
 split at hv
 ·rename_i ht
  obtain⟨h1,h2⟩:=Zw7 Or dW pB hi hS hb ht
  have hc:u_ bA ds S N t=some v:=by
   rw[SS (i:=i) (by omega) h2,Zp3 Pu (by omega) h1];exact hv
  obtain⟨x,hx,hr⟩:=I.vf.2 t v hc
  exact⟨x,hx,VR.cut (n:=(aO i).n) (fun k lk hk gO=>by rw[Oq hk];exact gO) v x (T.scr i (by omega) t v hv) hr⟩
 ·cases hv
def DW(μ' μ2:Mu)(n n':Nat):Mu:=fun j=>if j<n then μ' j else if j<n' then μ2 j else μ' j
def vc.DX(T:vc P μ aO bA bh N):∀{i j:Nat} {o':O},i<=N->j<(aO 0).n->(aO i).h.get j=some o'->o'.wr=true->∃o,(aO 0).h.get j=some o/\o.wr=true
 |0,j,o',_,_,h,hw=>⟨o',h,hw⟩
 |i+1,j,o',hi,hj,h,hw=>by
  have:=T.mono (i:=0) (k:=i) (by omega) (by omega)
  obtain⟨o,h1,h2,_⟩:=T.grow i (by omega) j o' (by omega) h
  exact T.DX (by omega) hj h1 (h2 hw)
def Zvy(h0:bk P μ w (aO 0))(T:vc P μ aO bA bh N){vI:Nat->V}(Pu:Jk bA ds vI N)(I:Inv P μ w aO bA bh ds N W S μ' a' w')(Or:Ord bh mo N kZ)(dW:∀k,S k=true->∀i,kZ k i->S i=true)
  (pB:∀k,k<N->ds k=(mo k).dst) (hW:∀k,k<N->∀j∈(bh k).wr,j∈W) {i:Nat} (hi:i<N) (hS:S i=false) (xF:∀d,ds i=some d->d<(bA 0).n)
  {σ σ':St} {μ2:Mu} {w2:World} {ws:List Nat} {x:Value} (sU:bk P (zE μ' (aO i).n) w' σ) (jL:∀j l,μ' j=some l->j<(aO i).n->(bh i).du j->σ.h.get j=jK aO bh S N j)
  (hn:σ.n=(aO i).n) (Ch:σ'.n=(aO (i+1)).n) (fk:bD P (zE μ' (aO i).n) w' σ μ2 w2 σ' ws) (pM:∀j,j<(aO i).n->(j∈ws↔j∈(bh i).wr)) (vi:∀j∈ws,(bh i).du j)
  (cU:∀j,((bh i).du j/\j<(aO i).n)\/((aO i).n<=j/\j<(aO (i+1)).n)->σ'.h.get j=(aO (i+1)).h.get j) (hx:VR μ2 (vI i) x):
  Inv P μ w aO bA bh ds N W (me S i) (DW μ' μ2 (aO i).n (aO (i+1)).n) (a'.put (ds i) x) w2:=by
 have hle:=T.iT i hi
 have ze3:=T.mono (i:=0) (k:=i) (by omega) (by omega)
 have zG:∀j l,μ' j=some l->¬((aO i).n<=j/\j<(aO (i+1)).n):=fun j l hj hc=>by
  rcases(I.dc j l hj).1 with h|⟨k,h3,h4,h5,h6⟩
  ·omega
  ·have hk:k=i:=by
    rcases Nat.lt_trichotomy k i with h|h|h
    ·have:=T.mono (i:=k+1) (k:=i) (by omega) (by omega);omega
    ·exact h
    ·have:=T.mono (i:=i+1) (k:=k) (by omega) (by omega);omega
   subst hk;rw[hS]at h4;cases h4
 have Jl:∀j,j<(aO i).n->μ2 j=μ' j:=fun j hj=>by rw[fk.ext j (by omega),Oq hj]
 have Ci:∀j l,μ' j=some l->DW μ' μ2 (aO i).n (aO (i+1)).n j=some l:=fun j l hj=>by
  unfold DW
  by_cases e1:j<(aO i).n
  ·rw[aQ e1];exact hj
  ·by_cases e2:j<(aO (i+1)).n
   ·exact absurd ⟨by omega,e2⟩ (zG j l hj)
   ·rw[aA e1,aA e2];exact hj
 have Cj:∀j l,μ2 j=some l->DW μ' μ2 (aO i).n (aO (i+1)).n j=some l:=fun j l hj=>by
  have hd:=(fk.hr.dc j l hj).1
  unfold DW
  by_cases e1:j<(aO i).n
  ·rw[aQ e1,<-Jl j e1];exact hj
  ·rw[aA e1,aQ (by omega)];exact hj
 have hinv:∀j l,DW μ' μ2 (aO i).n (aO (i+1)).n j=some l->(μ' j=some l)\/((aO i).n<=j/\j<(aO (i+1)).n/\μ2 j=some l):=fun j l hj=>by
  unfold DW at hj
  split at hj
  ·exact .inl hj
  ·split at hj
   ·exact .inr ⟨by omega,by assumption,hj⟩
   ·exact .inl hj
 have vj:∀j,u9 aO bh i j->jK aO bh (me S i) N j=(aO (i+1)).h.get j:=fun j ht=>Ydc hi ht (Zso T Or dW hi hS ht)
 have told:∀j l,μ' j=some l->¬j∈(bh i).wr->jK aO bh (me S i) N j=jK aO bh S N j:=fun j l hj hnw=>Zhh fun h=>h.elim hnw fun h=>zG j l hj h
 have Jm:∀j l o',μ' j=some l->jK aO bh (me S i) N j=some o'->∃o,jK aO bh S N j=some o/\(o'.wr=true->o.wr=true)/\(o'.live=true->o.live=true):=fun j l o' hj ho=>by
  by_cases hw:j∈(bh i).wr
  ·have aP:=T.wlt i hi j hw
   have sS:=vi j ((pM j aP).2 hw)
   rw[vj j (.inl hw),<-cU j (.inl ⟨sS,aP⟩)]at ho
   obtain⟨o,q1,q2,q3⟩:=fk.grow j o' (by omega) ho
   exact⟨o,by rw[<-jL j l hj aP sS];exact q1,q2,q3⟩
  ·rw[told j l hj hw]at ho
   exact⟨o',ho,id,id⟩
 have cwr:∀j∈ws,∀lj,zE μ' (aO i).n j=some lj->∃o,jK aO bh S N j=some o/\o.wr=true:=fun j hj lj tS=>by
  obtain⟨h1,h2⟩:=DV tS
  obtain⟨o,q1,q2⟩:=fk.yk j hj (by omega)
  exact⟨o,by rw[<-jL j lj h2 h1 (vi j hj)];exact q1,q2⟩
 have Ot:∀j l,(aO i).n<=j->μ2 j=some l->w'.heap.size<=l.b\/∃k lk,k∈ws/\k<(aO i).n/\μ' k=some lk/\lk.b=l.b/\∃o,jK aO bh S N k=some o/\o.wr=true:=fun j l hj hl=>by
  rcases fk.new j l (by omega) hl with h|⟨k,hk,hkn,lk,ok,h1,h2,h3,h4⟩
  ·exact .inl h
  ·obtain⟨_,q2⟩:=DV h1
   exact .inr ⟨k,lk,hk,by omega,q2,h2,cwr k hk lk h1⟩
 refine⟨fun j hj=>?_,fun j l hj=>?_,fun k hk hSk j h1 h2=>?_,fun j l hj=>?_,fun j k lj lk oj ok hj hk bF h1 h2 hw hl=>?_,⟨?_,fun t v hv=>?_⟩,?_,?_,fun j l Jn hj=>?_⟩
 ·-- ext
  unfold DW
  rw[aQ (by omega)];exact I.ext j hj
 ·-- dc
  rcases hinv j l hj with h|⟨h1,h2,h3⟩
  ·obtain⟨d1,d2⟩:=I.dc j l h
   refine⟨d1.imp id fun ⟨k,q1,q2,q3⟩=>⟨k,q1,?_,q3⟩,h_ d2 fk.eC.size⟩
   simp only[me];split<;>first|rfl|exact q2
  ·exact⟨.inr ⟨i,hi,by simp[me],h1,h2⟩,(fk.hr.dc j l h3).2⟩
 ·-- full
  by_cases e:k=i
  ·subst e
   obtain⟨l,hl⟩:=fk.full j (by omega) (by omega)
   exact⟨l,Cj j l hl⟩
  ·simp only[me,e,if_false]at hSk
   obtain⟨l,hl⟩:=I.full k hk hSk j h1 h2
   exact⟨l,Ci j l hl⟩
 ·-- obj
  rcases hinv j l hj with h|⟨h1,h2,h3⟩
  ·by_cases hw:j∈(bh i).wr
   ·have aP:=T.wlt i hi j hw
    have sS:=vi j ((pM j aP).2 hw)
    obtain⟨o,q1,q2⟩:=fk.hr.obj j l (by rw[Jl j aP];exact h)
    exact⟨o,by rw[vj j (.inl hw),<-cU j (.inl ⟨sS,aP⟩)];exact q1,q2.mono Cj⟩
   ·obtain⟨o,q1,q2⟩:=I.obj j l h
    refine⟨o,by rw[told j l h hw];exact q1,?_⟩
    cases hl:o.live with
    |false=>cases o<;>simp[O.live]at hl;trivial
    |true=>
     refine(q2.mono Ci).congr (fk.eC.block l.b (I.dc j l h).2 fun k hk lk fY=>?_)
     obtain⟨q3,q4⟩:=DV fY
     obtain⟨ok,q5,q6⟩:=cwr k hk lk fY
     exact I.inj k j lk l ok o q4 h (fun hc=>hw (by rw[<-hc];exact(pM k q3).1 hk)) q5 q1 q6 hl
  ·obtain⟨o,q1,q2⟩:=fk.hr.obj j l h3
   exact⟨o,by rw[vj j (.inr ⟨h1,h2⟩),<-cU j (.inr ⟨h1,h2⟩)];exact q1,q2.mono Cj⟩
 ·-- inj
  have DY:∀j k lj lk oj ok,(aO i).n<=j->j<(aO (i+1)).n->μ2 j=some lj->μ' k=some lk->jK aO bh (me S i) N j=some oj->jK aO bh (me S i) N k=some ok->((oj.wr=true/\ok.live=true)\/(ok.wr=true/\oj.live=true))->lj.b≠lk.b:=by
   intro j k lj lk oj ok DZ nM hj3 hk IS mS D3
   have Ck:ok.live=true:=by
    rcases D3 with h|h
    ·exact h.2
    ·have:=h.1;cases ok<;>simp_all [O.wr,O.live]
   rcases Ot j lj DZ hj3 with h|⟨q,lq,h1,h2,h3,h4,o,h5,h6⟩
   ·have:=(I.dc k lk hk).2;omega
   ·rw[<-h4]
    by_cases e:q=k
    ·subst e
     rw[h3,au]at hk;subst hk
     have hwq:=(pM q h2).1 h1
     rw[vj j (.inr ⟨DZ,nM⟩),<-cU j (.inr ⟨DZ,nM⟩)]at IS
     rw[vj q (.inl hwq),<-cU q (.inl ⟨vi q h1,h2⟩)]at mS
     have lI:μ2 q=some lq:=by rw[Jl q h2];exact h3
     exfalso
     rcases D3 with hb|hb
     ·exact fk.hr.inj j q lj lq oj ok hj3 lI (by omega) IS mS hb.1 hb.2 h4.symm
     ·exact fk.hr.inj q j lq lj ok oj lI hj3 (by omega) mS IS hb.1 hb.2 h4
    ·obtain⟨ok0,g1,g2,g3⟩:=Jm k lk ok hk mS
     exact I.inj q k lq lk o ok0 h3 hk e h5 g1 h6 (g3 Ck)
  rcases hinv j lj hj with Oe|⟨a1,a2,a3⟩
  ·rcases hinv k lk hk with mi|⟨b1,b2,b3⟩
   ·obtain⟨oj0,g1,g2,g3⟩:=Jm j lj oj Oe h1
    obtain⟨ok0,g4,g5,g6⟩:=Jm k lk ok mi h2
    exact I.inj j k lj lk oj0 ok0 Oe mi bF g1 g4 (g2 hw) (g6 hl)
   ·exact(DY k j lk lj ok oj b1 b2 b3 Oe h2 h1 (.inr ⟨hw,hl⟩)).symm
  ·rcases hinv k lk hk with mi|⟨b1,b2,b3⟩
   ·exact DY j k lj lk oj ok a1 a2 a3 mi h1 h2 (.inl ⟨hw,hl⟩)
   ·rw[vj j (.inr ⟨a1,a2⟩),<-cU j (.inr ⟨a1,a2⟩)]at h1
    rw[vj k (.inr ⟨b1,b2⟩),<-cU k (.inr ⟨b1,b2⟩)]at h2
    exact fk.hr.inj j k lj lk oj ok a3 b3 bF h1 h2 hw hl
 ·-- the temporaries' count
  cases hd:ds i<;>simp[Act.put,I.vf.1]
 ·-- the temporaries
  by_cases ht:ds i=some t
  ·rw[Ydb Pu hi ht (Ycs Or dW pB hi hS ht),au]at hv
   subst hv
   refine⟨x,?_,VR.mono Cj _ _ hx⟩
   rw[ht]
   simp[Act.put,I.vf.1,xF t ht]
  ·rw[Zhg ht]at hv
   obtain⟨y,q1,q2⟩:=I.vf.2 t v hv
   refine⟨y,?_,VR.mono Ci _ _ q2⟩
   cases hd:ds i with
   |none=>simpa[Act.put]using q1
   |some d=>
    have:d≠t:=fun hc=>ht (by rw[hd,hc])
    simp only[Act.put]
    rw[LD this];exact q1
 ·-- the marks
  have:(a'.put (ds i) x).defers=a'.defers:=by cases ds i<;>rfl
  rw[this];exact I.defs.mono Ci
 ·-- the frame
  refine⟨fk.eC.os.trans I.eC.os,fk.eC.tape.trans I.eC.tape,fk.eC.output.trans I.eC.output,sF I.eC.size fk.eC.size,fun b hb dH=>?_⟩
  rw[fk.eC.block b (h_ hb I.eC.size) fun j hj lj tS=>?_,I.eC.block b hb dH]
  obtain⟨q1,q2⟩:=DV tS
  by_cases e:j<(aO 0).n
  ·exact dH j (hW i hi j ((pM j q1).1 hj)) lj (by rw[<-I.ext j e];exact q2)
  ·rcases I.new j lj (by omega) q2 with h|⟨k,hk,_,lk,_,h3,h4,_⟩
   ·omega
   ·rw[<-h4];exact dH k hk lk h3
 ·-- new ids
  rcases hinv j l hj with h|⟨h1,h2,h3⟩
  ·exact I.new j l Jn h
  ·rcases Ot j l h1 h3 with h|⟨q,lq,q1,q2,q3,q4,o,q5,q6⟩
   ·exact .inl (sF I.eC.size h)
   ·by_cases e:q<(aO 0).n
    ·have hqW:=hW i hi q ((pM q q2).1 q1)
     obtain⟨oi,g1,g2⟩:=T.yk i hi q ((pM q q2).1 q1)
     obtain⟨o0,g3,g4⟩:=T.DX (by omega) e g1 g2
     exact .inr ⟨q,hqW,e,lq,o0,by rw[<-I.ext q e];exact q3,q4,g3,g4⟩
    ·rcases I.new q lq (by omega) q3 with h|⟨k,hk,g1,lk,ok,g2,g3,g4⟩
     ·exact .inl (by omega)
     ·exact .inr ⟨k,hk,g1,lk,ok,g2,g3.trans q4,g4⟩
end
section
variable {P:Program} {μ:Mu} {w:World} {st aB:St} {fr bG:Fr} {a:Act} {call:cM} {v:V} {lb:Option Nat}
def Zxy:∀(l:List Nat) (n j:Nat),j<n->(j∈aD n l↔j∈l):=by
 intro l n i hi
 induction l with
 |nil=>simp[aD]
 |cons j l ih=>
  simp only[aD]
  split
  ·unfold xr
   split
   ·rename_i hc
    simp only[ku,ih]
    simp only[SF]at hc
    constructor
    ·exact .inr
    ·rintro(rfl|h)
     ·exact ih.1 hc
     ·exact h
   ·simp only[ku,ih]
  ·simp only[ku,ih]
   constructor
   ·exact .inr
   ·rintro(rfl|h)
    ·omega
    ·exact h
def Yfz(b_:js P call)(hE:tN P){ops:Array Oper}{Q:Exit->Act->World->Prop}{aO:Nat->St}{bA:Nat->Fr}{vI:Nat->V}{bh:Nat->FP}{S:Nat->Bool}{W:List Nat}{μ':Mu}{a':Act}{w':World}
  (h0:bk P μ w (aO 0)) (hs:∀i o,ops[i]?=some o->zH P call ops o (aO i) (bA i) (vI i) (bh i) (aO (i+1)) (bA (i+1)))
  (T:vc P μ aO bA bh ops.size) {ds:Nat->Option Nat} {mo:Nat->dC} (D4:∀i o,ops[i]?=some o->mo i=qF P ops o) (pB:∀k,k<ops.size->ds k=(mo k).dst) (Pu:Jk bA ds vI ops.size)
  {kZ:Nat->Nat->Prop} (Or:Ord bh mo ops.size kZ) (I:Inv P μ w aO bA bh ds ops.size W S μ' a' w') (dW:∀k,S k=true->∀i,kZ k i->S i=true) (hW:∀k,k<ops.size->∀j∈(bh k).wr,j∈W)
  (zp:∀i,i<ops.size->∀ds,ph μ' (bA 0).marks ds->ph (zE μ' (aO i).n) (bA 0).marks ds)
  {i:Nat} (hi:i<ops.size) (hS:S i=false) (hb:∀j,kZ i j->S j=true) {K:Act->World->Prop}
  (hK:∀μ2 a2 w2,Inv P μ w aO bA bh ds ops.size W (me S i) μ2 a2 w2->K a2 w2):wpOpIn (FE lb) 0 P ops Q i K a' w':=by
 have ho:ops[i]?=some ops[i]:=Array.getElem?_eq_getElem hi
 obtain⟨g,b,hg,hw,hp,ht,Ou⟩:=hs i _ ho
 have hmi:=D4 i _ ho
 have Jo:mo i=⟨ops[i].dst,zt P ops[i].op,g⟩:=by rw[hmi];unfold qF;rw[hg]
 have iY:ds i=ops[i].dst:=by rw[pB i hi,Jo]
 have Jp:∀s∈(zt P ops[i].op).Cf,∀t∈s.tmps,t∈(mo i).reads:=fun s hs t ht=>by
  rw[Jo];simp only[dC.reads,l7,List.mem_flatMap];exact .inr ⟨s,hs,ht⟩
 have hRR:=Ygq T Pu I Or dW pB hi hS hb
 have wh:bW (zD (bA i).r (mo i).reads) g=bW (bA i).r g:=by
  cases g with
  |none=>rfl
  |some p=>
   obtain⟨t,want⟩:=p
   simp only[bW]
   rw[On,aQ (by rw[Jo];simp[dC.reads])]
 have xF:∀d,ds i=some d->d<(bA 0).n:=fun d hd=>by
  rw[iY]at hd
  rw[hd]at hp
  simp only[Fr.put]at hp
  split at hp
  ·rename_i aP;rw[<-(T.fn i (by omega)).1];exact aP
  ·cases hp
 unfold wpOpIn
 rw[ho]
 simp only[]
 have hwd:Region.wanted ops[i] (yielded ops a'.tmps)=b:=Zob (fr:={r:=zD (bA i).r (mo i).reads,n:=(bA 0).n,marks:=[]}) (a:=a') hRR hg (by rw[wh];exact hw)
 cases b with
 |true=>
  rw[aQ hwd]
  obtain⟨s',hm,jE,Ov⟩:=ht rfl
  obtain⟨σ,σ',k1,k2,k3,k4,k5,k6,k7,k8,k9⟩:=Yfw (ws:=aD (aO i).n s'.w) (lo:=(aO i).n) (hi:=s'.n) hm rfl
  rw[<-Ov]at k6 k7 k8 k9
  obtain⟨sU,jL⟩:=Yc7 h0 T I Or dW hi hS hb k1 k6 k7
  have yn:l9 (zE μ' (aO i).n) {r:=zD (bA i).r (mo i).reads,n:=(bA 0).n,marks:=(bA 0).marks} a':=⟨hRR,zp i hi _ I.defs⟩
  have hm2:cG (zt P ops[i].op) call (zD (bA i).r (mo i).reads) σ=some (vI i,σ'):=by
   rw[Ybj (r':=(bA i).r) fun s hs=>Yk5 (Jp s hs)];exact k3
  refine Yjm b_ hE sU yn hm2 fun x w2 μ2 ws hv fk=>?_
  have pM:ws=s'.w:=by
   have:=fk.wl
   rw[k2,k5,AD]at this
   exact this.symm
  have Ch:(aO (i+1)).n=s'.n:=by rw[jE]
  have hh':(aO (i+1)).h=s'.h:=by rw[jE]
  have hinv:=Zvy h0 T Pu I Or dW pB hW hi hS xF sU jL k1 (by rw[k4,Ch]) fk (fun j hj=>by
   rw[pM,Ov,(Zt6 (call:=call) hm _ _).1]
   exact(Zxy _ _ _ hj).symm) (fun j hj=>k9 j (by rw[<-pM];exact hj)) (fun j hj=>by rw[hh'];exact k8 j (by rw[Ch]at hj;exact hj)) hv
  rw[iY]at hinv
  exact hK _ _ _ hinv
 |false=>
  rw[aA (by rw[hwd];simp)]
  obtain⟨hv,jE,Ov⟩:=Ou rfl
  refine⟨fun _ _=>trivial,?_⟩
  have vi:∀j,¬(bh i).du j:=fun j=>by rw[Ov];simp[FP.du]
  obtain⟨sU,jL⟩:=Yc7 (σ:=⟨qW (aO i).h [] (aO i).n,(aO i).n,[]⟩) h0 T I Or dW hi hS hb rfl (fun j _ hj=>absurd hj (vi j)) (fun j hj _=>by
   show (qW (aO i).h [] (aO i).n).get j=_
   rw[LX,aQ hj];simp)
  have Ch:(aO (i+1)).n=(aO i).n:=by rw[jE]
  have:=Zvy (x:=undef) (ws:=[]) (σ':=⟨qW (aO i).h [] (aO i).n,(aO i).n,[]⟩) h0 T Pu I Or dW pB hW hi hS xF sU jL rfl Ch.symm (bD.refl sU) (fun j hj=>by rw[Ov]) (fun j hj=>by simp at hj) (fun j hj=>by
   rcases hj with⟨h,_⟩|⟨h1,h2⟩
   ·exact absurd h (vi j)
   ·omega) (by rw[hv];exact⟨[],rfl,by simp[aW]⟩)
  rw[iY]at this
  exact hK _ _ _ this
def Zlf:∀{os:List Oper} {b:Nat},LC b os=true->∀i o,os[i]?=some o->∀e∈o.after,Region.binds .any e=true->e.on<b+i
 |[],b,_,i,o,h,_,_,_=>by simp at h
 |o0::os,b,h,i,o,ho,e,he,hb=>by
  simp only[LC,ji]at h
  cases i with
  |zero=>
   simp only[A5,au]at ho
   subst ho
   have h1:=h.1
   rw[Yva]at h1
   have:=h1 e he
   rw[hb]at this
   simpa[Nat.blt_eq]using this
  |succ i=>
   have:=Zlf h.2 i o (by simpa using ho) e he hb
   omega
def Zzc{ops:Array Oper}(he:LC 0 ops.toList=true){listed:Array Bool}(jJ:listed.size=ops.size)(hr:Region.ready .any ops listed=[]):∀k,k<ops.size->listed.getD k false=true:=by
 intro k
 induction k using Nat.strongRecOn with
 |_ k ih=>
  intro hk
  refine Classical.byContradiction fun hn=>?_
  have BX:k∈Region.ready .any ops listed:=by
   unfold Region.ready
   simp only[List.mem_filter,Sa,ji,IU]
   refine⟨hk,?_,?_⟩
   ·have fY:k<listed.size:=by omega
    simp only[Array.getD,fY,dif_pos]at hn ⊢
    simpa using hn
   ·have ho:ops[k]?=some ops[k]:=Array.getElem?_eq_getElem hk
    rw[ho]
    simp only[B5,Yxv,Yva,IV,IU]
    intro e Ow
    cases hb:Region.binds .any e with
    |false=>exact .inl rfl
    |true=>
     have:=Zlf he k ops[k] (by rw[zw];exact ho) e Ow hb
     exact .inr (ih e.on (by omega) (by omega))
  rw[hr]at BX
  cases BX
def Yda{p q:Nat->Bool}{i:Nat}(hp:p i=true)(hq:q i=false)(ho:∀k,k≠i->q k=p k):∀N,i<N->(List.range N).countP q+1=(List.range N).countP p:=by
 have same:∀N,N<=i->(List.range N).countP q=(List.range N).countP p:=by
  intro N
  induction N with
  |zero=>intro _;rfl
  |succ N ih=>
   intro h
   rw[List.range_succ,List.countP_append,List.countP_append,ih (by omega)]
   simp[ho N (by omega)]
 intro N
 induction N with
 |zero=>intro h;omega
 |succ N ih=>
  intro h
  rw[List.range_succ,List.countP_append,List.countP_append]
  by_cases e:N=i
  ·subst e
   rw[same N (aZ _)]
   simp[hp,hq]
  ·have:=ih (by omega)
   simp only[List.countP_singleton,ho N e]
   omega
end
section
variable {P:Program} {μ:Mu} {w:World} {st aB:St} {fr bG:Fr} {a:Act} {call:cM} {v:V} {lb:Option Nat}
def Yg7{listed:Array Bool}{i:Nat}(hi:i<listed.size):(fun k=>(listed.setIfInBounds i true).getD k false)=me (fun k=>listed.getD k false) i:=by
 funext k
 simp only[me,ID]
 by_cases e:k=i
 ·subst e;simp[hi]
 ·rw[LD (Ne.symm e),aA e]
def Ynl(b_:js P call)(hE:tN P){ops:Array Oper}{Q:Exit->Act->World->Prop}{aO:Nat->St}{bA:Nat->Fr}{vI:Nat->V}{bh:Nat->FP}{W:List Nat}
  (h0:bk P μ w (aO 0)) (hs:∀i o,ops[i]?=some o->zH P call ops o (aO i) (bA i) (vI i) (bh i) (aO (i+1)) (bA (i+1)))
  (T:vc P μ aO bA bh ops.size) {ds:Nat->Option Nat} {mo:Nat->dC} (D4:∀i o,ops[i]?=some o->mo i=qF P ops o) (pB:∀k,k<ops.size->ds k=(mo k).dst) (Pu:Jk bA ds vI ops.size)
  (Or:Ord bh mo ops.size (fun k i=>((uP ops.toList []).getD k 0).testBit i=true)) (hW:∀k,k<ops.size->∀j∈(bh k).wr,j∈W) (zJ:LC 0 ops.toList=true)
  (zp:∀μ',(∀j,j<(aO 0).n->μ' j=μ j)->∀i,i<ops.size->∀ds,ph μ' (bA 0).marks ds->ph (zE μ' (aO i).n) (bA 0).marks ds)
  (hQ:∀S μ' a' w',(∀k,k<ops.size->S k=true)->Inv P μ w aO bA bh ds ops.size W S μ' a' w'->Q .normal a' w'):
  ∀(fuel:Nat) (listed:Array Bool) (μ':Mu) (a':Act) (w':World),listed.size=ops.size->(List.range ops.size).countP (fun k=>!listed.getD k false)=fuel->
   (Yig ops fun k=>listed.getD k false=true)->Inv P μ w aO bA bh ds ops.size W (fun k=>listed.getD k false) μ' a' w'->wpAnyIn (FE lb) 0 P .any ops Q fuel listed a' w':=by
 intro fuel
 induction fuel with
 |zero=>
  intro listed μ' a' w' jJ hc dW I
  have Ox:∀k,k<ops.size->listed.getD k false=true:=fun k hk=>by
   rw[List.countP_eq_zero]at hc
   have:=hc k (Sa.2 hk)
   simpa using this
  refine⟨?_,hQ _ μ' a' w' Ox I⟩
  refine List.eq_nil_iff_forall_not_mem.2 fun j hj=>?_
  obtain⟨h1,h2,_⟩:=Zok dW hj
  have:=Ox j h1
  simp only[ID]at h2 this
  have nM:j<listed.size:=by omega
  simp[nM]at h2 this
  rw[h2]at this;cases this
 |succ fuel ih=>
  intro listed μ' a' w' jJ hc dW I
  refine⟨fun hr=>hQ _ μ' a' w' (Zzc zJ jJ hr) I,fun i hi=>?_⟩
  obtain⟨h1,h2,h3⟩:=Zok dW hi
  have Oy:i<listed.size:=by omega
  have hSi:listed.getD i false=false:=by
   simp only[ID]at h2 ⊢
   simp[Oy]at h2 ⊢
   exact h2
  refine Yfz (S:=fun k=>listed.getD k false) b_ hE h0 hs T D4 pB Pu Or I (fun k hk i hb=>dW k i hk hb) hW (zp μ' I.ext) h1 hSi h3 fun μ2 a2 w2 I2=>?_
  have zK:=Yg7 (listed:=listed) Oy
  refine ih (listed.setIfInBounds i true) μ2 a2 w2 (by simp[jJ]) ?_ ?_ (by rw[zK];exact I2)
  ·have:=Yda (p:=fun k=>!listed.getD k false) (q:=fun k=>!(listed.setIfInBounds i true).getD k false) (i:=i) (by simp[hSi]) (by
    have:=congrFun zK i
    simp only[this];simp[me]) (fun k hk=>by
    have:=congrFun zK k
    simp only[this];simp[me,hk]) ops.size h1
   omega
  ·intro k j hk hb
   have e1:=congrFun zK k
   have e2:=congrFun zK j
   simp only[e1,e2,me]at hk ⊢
   by_cases ej:j=i
   ·rw[aQ ej]
   ·rw[aA ej]
    by_cases ek:k=i
    ·subst ek;exact h3 j hb
    ·rw[aA ek]at hk;exact dW k j hk hb
def ph.Oz{μ μ' μ2:Mu}{n:Nat}(hd:∀i l,μ i=some l->i<n)(h:∀i l,i<n->μ' i=some l->μ2 i=some l):∀{ms:List Nat} {ds Dy:List Deferred},ph μ ms ds->ph μ' ms Dy->ph μ2 ms Dy
 |[],_,_,_,h2=>h2
 |m::ms,_,_,⟨l,_,h1,_,h3⟩,⟨l',d',g1,g2,g3⟩=>⟨l',d',h m l' (hd m l h1) g1,g2,ph.Oz hd h h3 g3⟩
def Zof{aO:Nat->St}{bA:Nat->Fr}{bh:Nat->FP}{N:Nat}(T:vc P μ aO bA bh N)(j:Nat):∀i,i<=N->(aO 0).n<=j->j<(aO i).n->∃k,k<i/\(aO k).n<=j/\j<(aO (k+1)).n
 |0,_,h1,h2=>by omega
 |i+1,hi,h1,h2=>by
  by_cases e:j<(aO i).n
  ·obtain⟨k,a1,a2⟩:=Zof T j i (by omega) h1 e
   exact⟨k,by omega,a2⟩
  ·exact⟨i,by omega,by omega,h2⟩
def Zqd{aO:Nat->St}{bA:Nat->Fr}{bh:Nat->FP}{N:Nat}(T:vc P μ aO bA bh N):∀i,i<=N->∃Wi,(aO i).w=Wi++(aO 0).w/\∀k,k<i->∀j∈(bh k).wr,j∈Wi
 |0,_=>⟨[],rfl,fun k hk=>by omega⟩
 |i+1,hi=>by
  obtain⟨Wi,h1,h2⟩:=Zqd T i (by omega)
  refine⟨(bh i).wr++Wi,by rw[T.wl i (by omega),h1,sQ],fun k hk j hj=>?_⟩
  by_cases e:k=i
  ·subst e;simp[hj]
  ·simp[h2 k (by omega) j hj]
def Yct(hm:P.follows .mixedOrders=true)(hE:tN P)(b_:js P call):Yif P call:=by
 intro id ops fr st ex bG aB hp h μ w a lb hh hf
 unfold Yi9 at hp
 simp only[ji]at hp
 obtain⟨zJ,hpt⟩:=hp
 unfold zj at h
 split at h
 ·rename_i iy dS cr bL
  split at h
  ·rename_i OA
   simp only[au,bj]at h
   obtain⟨rfl,rfl,rfl⟩:=h
   obtain⟨aO,bA,vI,bh,e1,e2,e3,e4,e5,hs⟩:=Zq2 ops.toList fr st iy dS cr bL
   subst e1 e2
   have hN:ops.toList.length=ops.size:=by simp
   rw[hN]at e3 e4 e5
   have kQ:∀i o,ops[i]?=some o->zH P call ops o (aO i) (bA i) (vI i) (bh i) (aO (i+1)) (bA (i+1)):=fun i o ho=>(hs i o (by rw[zw];exact ho)).2
   have T:=Yl3 b_ hE hN hh hf fun i o ho=>(hs i o ho).2
   let mo:Nat->dC:=fun i=>match ops[i]? with|some o=>qF P ops o|none=>⟨none,.stop,none⟩
   have D4:∀i o,ops[i]?=some o->mo i=qF P ops o:=fun i o ho=>by simp only[mo,ho]
   have zdT:∀i o,ops[i]?=some o->(mo i).dst=o.dst:=fun i o ho=>by rw[D4 i o ho];unfold qF;split<;>rfl
   have cU:∀i,i<ops.size->ops[i]?=some (ops[i]!):=fun i hi=>by simp[hi]
   have Pu:Jk bA (fun k=>(mo k).dst) vI ops.size:=fun i hi t=>by
    obtain⟨g,b,_,_,hp,_⟩:=kQ i _ (cU i hi)
    show (bA (i+1)).r.get t=if (mo i).dst=some t then some (vI i) else (bA i).r.get t
    rw[zdT i _ (cU i hi)]
    cases hd:(ops[i]!).dst with
    |none=>rw[hd]at hp;simp only[Fr.put,au]at hp;rw[<-hp];simp
    |some d=>
     rw[hd]at hp
     simp only[Fr.put]at hp
     split at hp
     ·simp only[au]at hp
      rw[<-hp,Go.Mx.T.aj]
      by_cases e:t=d
      ·subst e;simp
      ·rw[aA e,aA (by simp[Ne.symm e])]
     ·cases hp
   have Or:Ord bh mo ops.size (fun k i=>((uP ops.toList []).getD k 0).testBit i=true):=by
    refine⟨fun i k hik hk=>?_,fun i k hik hk=>?_⟩
    ·exact Zvb OA hik ((hs i _ (by rw[zw];exact cU i (by omega))).1) ((hs k _ (by rw[zw];exact cU k hk)).1)
    ·refine Zvb hpt hik ?_ ?_
     ·rw[mL,zw,cU i (by omega),B5,D4 i _ (cU i (by omega))]
     ·rw[mL,zw,cU k hk,B5,D4 k _ (cU k hk)]
   obtain⟨W,SV,f_⟩:=Zqd T ops.size (aZ _)
   obtain⟨wT,μT,aT,wsT,SW,hT2⟩:=Zwf b_ hE hN hh hf (fun i o ho=>(hs i o ho).2) ops.size (aZ _)
   have zdU:wsT=W:=List.append_cancel_right (SW.wl.symm.trans SV)
   subst zdU
   have zL:∀k,(Array.replicate ops.size false).getD k false=false:=fun k=>by
    simp only[ID]
    by_cases hk:k<ops.size
    ·simp[hk]
    ·simp[hk]
   have hcH:∀M j,jK aO bh (fun k=>(Array.replicate ops.size false).getD k false) M j=(aO 0).h.get j:=fun M j=>SR (i:=0) (xW _) fun k _ _ _=>zL k
   have hcR:∀M t,u_ bA (fun k=>(mo k).dst) (fun k=>(Array.replicate ops.size false).getD k false) M t=(bA 0).r.get t:=fun M t=>SS (i:=0) (xW _) fun k _ _ _=>zL k
   have I0:Inv P μ w aO bA bh (fun k=>(mo k).dst) ops.size wsT (fun k=>(Array.replicate ops.size false).getD k false) μ a {w with drawn:=w.drawn+1}:=by
    refine⟨fun _ _=>rfl,fun j l hj=>⟨.inl (hh.dc j l hj).1,(hh.dc j l hj).2⟩,fun k _ hk=>?_,fun j l hj=>?_,fun i j l l' o o' h1 h2 h3 h4 h5=>?_,⟨hf.1.1,fun t v hv=>?_⟩,hf.2,⟨rfl,rfl,rfl,aZ _,fun _ _ _=>rfl⟩,fun i l h1 h2=>absurd (hh.dc i l h2).1 (by omega)⟩
    ·rw[zL k]at hk;cases hk
    ·obtain⟨o,q1,q2⟩:=hh.obj j l hj
     exact⟨o,by rw[hcH];exact q1,OM.congr (w:=w) rfl q2⟩
    ·rw[hcH]at h4 h5
     exact hh.inj i j l l' o o' h1 h2 h3 h4 h5
    ·rw[hcR]at hv
     exact hf.1.2 t v hv
   refine wpIn_region_any hm (Ynl b_ hE hh kQ T D4 (fun _ _=>rfl) Pu Or f_ zJ ?_ ?_ ops.size _ μ a _ (by simp) ?_ ?_ I0)
   ·intro μ' nZ i hi ds pB
    exact ph.Oz (n:=(aO 0).n) (fun j l hj=>(hh.dc j l hj).1) (fun j l hj hl=>by
     have:=T.mono (i:=0) (k:=i) (by omega) (by omega)
     rw[Oq (by omega)];exact hl) hf.2 pB
   ·intro S μ' a' w' hS I
    have hfH:∀j,j<(aO ops.size).n->jK aO bh S ops.size j=(aO ops.size).h.get j:=fun j hj=>Zp4 T (aZ _) hj fun k hk _=>hS k hk
    have hfR:∀t,u_ bA (fun k=>(mo k).dst) S ops.size t=(bA ops.size).r.get t:=fun t=>Zp3 Pu (aZ _) fun k hk _=>hS k hk
    have Cl:∀j l,μ' j=some l->j<(aO ops.size).n:=fun j l hj=>by
     rcases(I.dc j l hj).1 with h|⟨k,h1,_,_,h2⟩
     ·have:=T.mono (i:=0) (k:=ops.size) (by omega) (by omega);omega
     ·have:=T.mono (i:=k+1) (k:=ops.size) (by omega) (by omega);omega
    rw[<-e3,<-e4]
    refine⟨rfl,μ',wsT,⟨⟨fun j l hj=>⟨Cl j l hj,(I.dc j l hj).2⟩,fun j l hj=>?_,fun i j l l' o o' h1 h2 h3 h4 h5=>?_,fun g hg=>?_⟩,I.ext,T.mono (xW _) (aZ _),SV,I.eC,I.new,SW.ah,SW.grow,fun j h1 h2=>?_,SW.yk⟩,⟨?_,fun t v hv=>?_⟩,?_⟩
    ·obtain⟨o,q1,q2⟩:=I.obj j l hj
     exact⟨o,by rw[<-hfH j (Cl j l hj)];exact q1,q2⟩
    ·exact I.inj i j l l' o o' h1 h2 h3 (by rw[hfH i (Cl i l h1)];exact h4) (by rw[hfH j (Cl j l' h2)];exact h5)
    ·obtain⟨t,ht⟩:=hh.ij g hg
     exact⟨t,by rw[I.ext g (hh.dc g _ ht).1];exact ht⟩
    ·obtain⟨k,q1,q2,q3⟩:=Zof T j ops.size (aZ _) h1 h2
     exact I.full k q1 (hS k q1) j q2 q3
    ·rw[(T.fn ops.size (aZ _)).1];exact I.vf.1
    ·exact I.vf.2 t v (by rw[hfR];exact hv)
    ·rw[(T.fn ops.size (aZ _)).2];exact I.defs
   ·have:(fun k=>!(Array.replicate ops.size false).getD k false)=fun _=>true:=by funext k;rw[zL];rfl
    rw[this];simp
   ·intro k i hk
    rw[zL k]at hk;cases hk
  ·cases h
 ·cases h
end
end Go.Mx
