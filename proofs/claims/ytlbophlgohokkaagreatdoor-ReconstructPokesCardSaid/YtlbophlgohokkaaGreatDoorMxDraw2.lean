/-
  A region that draws its order: what holds after a set of its operations.
-/
import Derived.Test.YtlbophlgohokkaaGreatDoorMxLoc
set_option linter.all false
namespace Go.Mx
open Go
structure Inv (P:Program) (μ:Mu) (w:World) (aH:Nat->St) (bs:Nat->Fr) (bj:Nat->FP) (ds:Nat->Option Nat) (N:Nat) (W:List Nat) (S:Nat->Bool) (μ':Mu) (a':Act) (w':World):Prop where
 ext:∀j,j<(aH 0).n->μ' j=μ j
 cG:∀j l,μ' j=some l->(j<(aH 0).n\/∃k,k<N/\S k=true/\(aH k).n<=j/\j<(aH (k+1)).n)/\l.b<w'.heap.size
 full:∀k,k<N->S k=true->∀j,(aH k).n<=j->j<(aH (k+1)).n->∃l,μ' j=some l
 obj:∀j l,μ' j=some l->∃o,iI aH bj S N j=some o/\OM P μ' w' o l
 inj:∀i j l l' o o',μ' i=some l->μ' j=some l'->i≠j->iI aH bj S N i=some o->iI aH bj S N j=some o'->o.wr=true->o'.live=true->l.b≠l'.b
 rX:a'.tmps.size=(bs 0).n/\∀t v,rY bs ds S N t=some v->∃x,a'.tmps[t]?=some x/\VR μ' v x
 defs:nb μ' (bs 0).marks a'.defers
 c_:HK μ W w w'
 new:∀i l,(aH 0).n<=i->μ' i=some l->w.heap.size<=l.b\/∃j∈W,j<(aH 0).n/\∃lj oj,μ j=some lj/\lj.b=l.b/\(aH 0).h.get j=some oj/\oj.wr=true
structure Ord (bj:Nat->FP) (mo:Nat->df) (N:Nat) (js:Nat->Nat->Prop):Prop where
 free:∀i k,i<k->k<N->js k i\/FP.free (bj i) (bj k)=true
 tmp:∀i k,i<k->k<N->js k i\/LC (mo i) (mo k)=true
section
variable {P:Program} {μ μ':Mu} {w w':World} {aH:Nat->St} {bs:Nat->Fr} {bj:Nat->FP} {ds:Nat->Option Nat} {S:Nat->Bool} {N:Nat} {W:List Nat} {a a':Act} {mo:Nat->df} {js:Nat->Nat->Prop}
theorem rZ.mono(T:rZ P μ aH bs bj N):∀{i k:Nat},i<=k->k<=N->(aH i).n<=(aH k).n
 |i,0,h,_=>by rw[Nat.le_zero.1 h];exact aS _
 |i,k+1,h,hk=>by
  by_cases e:i=k+1
  ·rw[e];exact aS _
  ·exact p9 (T.mono (i:=i) (k:=k) (by omega) (by omega)) (T.eX k (by omega))
theorem LX{a b:FP}(h:FP.free a b=true):(∀j∈a.wr,¬b.cM j)/\(∀j∈a.wr,j∉b.wr)/\(∀j∈b.wr,¬a.cM j)/\∀j∈b.wr,¬(a.lo<=j/\j<a.hi):=by
 unfold FP.free at h
 simp only[CU,Bool.or_eq_false_iff]at h
 obtain⟨⟨⟨h1,h2⟩,h3⟩,h4⟩:=h
 have key:∀(l:List Nat) (o:Option (List Nat)),zQ l o=false->∀j∈l,¬(match o with|none=>True|some q=>j∈q):=by
  intro l o h j hj
  cases o with
  |none=>
   simp only[zQ,Bool.not_eq_false',List.isEmpty_iff]at h
   subst h;simp at hj
  |some q=>
   simp only[zQ,List.any_eq_false,LH]at h
   exact h j hj
 refine⟨fun j hj=>?_,fun j hj=>?_,fun j hj=>?_,fun j hj=>?_⟩
 ·have:=key _ _ h1 j hj
  unfold FP.cM
  exact this
 ·exact key _ _ h2 j hj
 ·have:=key _ _ h3 j hj
  unfold FP.cM
  exact this
 ·simp only[List.any_eq_false]at h4
  have:=h4 j hj
  intro hc
  apply this
  simp[Nat.ble_eq,Nat.blt_eq,hc.1,hc.2]
theorem Zxc(T:rZ P μ aH bs bj N)(I:Inv P μ w aH bs bj ds N W S μ' a' w')(Or:Ord bj mo N js)(dp:∀k,S k=true->∀i,js k i->S i=true){i:Nat}(hi:i<N)(hS:S i=false)(hb:∀j,js i j->S j=true)
  {j:Nat} {l:L} (hj:μ' j=some l) (aD:j<(aH i).n) (hs:(bj i).cM j):
  (∀k,k<i->r_ aH bj k j->S k=true)/\(∀k,i<=k->k<N->r_ aH bj k j->S k=false):=by
 refine⟨fun k hk ht=>?_,fun k hk Aa ht=>?_⟩
 ·rcases ht with ht|⟨h1,h2⟩
  ·rcases Or.free k i hk hi with h|h
   ·exact hb k h
   ·exact absurd hs ((LX h).1 j ht)
  ·rcases(I.cG j l hj).1 with h0|⟨k',h3,h4,h5,h6⟩
   ·have:=T.mono (i:=0) (k:=k) (by omega) (by omega)
    omega
   ·have:k'=k:=by
     rcases Nat.lt_trichotomy k k' with h|h|h
     ·have:=T.mono (i:=k+1) (k:=k') (by omega) (by omega);omega
     ·exact h.symm
     ·have:=T.mono (i:=k'+1) (k:=k) (by omega) (by omega);omega
    subst this;exact h4
 ·by_cases e:k=i
  ·rw[e];exact hS
  ·rcases ht with ht|⟨h1,h2⟩
   ·rcases Or.free i k (by omega) Aa with h|h
    ·cases hq:S k with
     |false=>rfl
     |true=>rw[dp k hq i h]at hS;cases hS
    ·exact absurd hs ((LX h).2.2.1 j ht)
   ·have:=T.mono (i:=i) (k:=k) hk (by omega)
    omega
theorem Zs3(T:rZ P μ aH bs bj N)(Or:Ord bj mo N js)(dp:∀k,S k=true->∀i,js k i->S i=true){i:Nat}(hi:i<N)(hS:S i=false)
  {j:Nat} (ht:r_ aH bj i j):∀k,i<k->k<N->r_ aH bj k j->S k=false:=by
 intro k hk Aa jJ
 have H0:=Or.free i k hk Aa
 have Ia:js k i->S k=false:=fun h=>by
  cases hq:S k with
  |false=>rfl
  |true=>rw[dp k hq i h]at hS;cases hS
 rcases H0 with h|h
 ·exact Ia h
 ·exfalso
  have hm:=T.mono (i:=i+1) (k:=k) (by omega) (by omega)
  have kj:=T.eX i hi
  rcases ht with ht|⟨h1,h2⟩
  ·rcases jJ with jJ|⟨h3,h4⟩
   ·exact(LX h).2.1 j ht jJ
   ·have:=T.Ry i hi j ht;omega
  ·rcases jJ with jJ|⟨h3,h4⟩
   ·refine(LX h).2.2.2 j jJ ⟨?_,?_⟩
    ·rw[T.lo i hi];exact h1
    ·rw[T.hi i hi];exact h2
   ·omega
theorem Rz{d:Option Nat}{l:List Nat}(h:HR d l=false):∀t,d=some t->t∉l:=by
 intro t ht hm
 subst ht
 simp only[HR]at h
 have:l.contains t=true:=LH.2 hm
 rw[this]at h;cases h
theorem RA{a b:df}(h:LC a b=true):(∀t,a.dst=some t->t∉b.reads)/\(∀t,b.dst=some t->t∉a.reads)/\∀t,a.dst=some t->b.dst≠some t:=by
 unfold LC at h
 simp only[CU,Bool.or_eq_false_iff]at h
 obtain⟨⟨h1,h2⟩,h3⟩:=h
 exact⟨Rz h1,Rz h2,fun t ht hb=>Rz h3 t ht (by rw[hb];simp)⟩
theorem Zxe(Or:Ord bj mo N js)(dp:∀k,S k=true->∀i,js k i->S i=true)(nG:∀k,k<N->ds k=(mo k).dst){i:Nat}(hi:i<N)(hS:S i=false)(hb:∀j,js i j->S j=true)
  {t:Nat} (ht:t∈(mo i).reads):(∀k,k<i->ds k=some t->S k=true)/\(∀k,i<=k->k<N->ds k=some t->S k=false):=by
 refine⟨fun k hk hd=>?_,fun k hk Aa hd=>?_⟩
 ·rcases Or.tmp k i hk hi with h|h
  ·exact hb k h
  ·rw[nG k (by omega)]at hd
   exact absurd ht ((RA h).1 t hd)
 ·by_cases e:k=i
  ·rw[e];exact hS
  ·rcases Or.tmp i k (by omega) Aa with h|h
   ·cases hq:S k with
    |false=>rfl
    |true=>rw[dp k hq i h]at hS;cases hS
   ·rw[nG k Aa]at hd
    exact absurd ht ((RA h).2.1 t hd)
theorem Yc0(Or:Ord bj mo N js)(dp:∀k,S k=true->∀i,js k i->S i=true)(nG:∀k,k<N->ds k=(mo k).dst){i:Nat}(hi:i<N)(hS:S i=false)
  {t:Nat} (ht:ds i=some t):∀k,i<k->k<N->ds k=some t->S k=false:=by
 intro k hk Aa hd
 rcases Or.tmp i k hk Aa with h|h
 ·cases hq:S k with
  |false=>rfl
  |true=>rw[dp k hq i h]at hS;cases hS
 ·rw[nG i hi]at ht
  rw[nG k Aa]at hd
  exact absurd hd ((RA h).2.2 t ht)
end
section
variable {P:Program} {μ μ':Mu} {w w':World} {aH:Nat->St} {bs:Nat->Fr} {bj:Nat->FP} {ds:Nat->Option Nat} {S:Nat->Bool} {N:Nat} {W:List Nat} {a a':Act} {mo:Nat->df} {js:Nat->Nat->Prop}
def xm(μ':Mu)(n:Nat):Mu:=fun j=>if j<n then μ' j else none
theorem Ib{n j:Nat}(h:j<n):xm μ' n j=μ' j:=aF h
theorem BI{n j:Nat}{l:L}(h:xm μ' n j=some l):j<n/\μ' j=some l:=by
 unfold xm at h
 split at h
 ·exact⟨by assumption,h⟩
 ·cases h
theorem WT(h0:bo P μ w (aH 0))(T:rZ P μ aH bs bj N)(I:Inv P μ w aH bs bj ds N W S μ' a' w')(Or:Ord bj mo N js)(dp:∀k,S k=true->∀i,js k i->S i=true){i:Nat}(hi:i<N)(hS:S i=false)(hb:∀j,js i j->S j=true)
  {σ:St} (hn:σ.n=(aH i).n) (hs:∀j,j<(aH i).n->(bj i).cM j->σ.h.get j=(aH i).h.get j) (hd:∀j,j<(aH i).n->¬(bj i).cM j->σ.h.get j=((aH i).h.get j).map fun _=>.dead):
  bo P (xm μ' (aH i).n) w' σ/\∀j l,μ' j=some l->j<(aH i).n->(bj i).cM j->σ.h.get j=iI aH bj S N j:=by
 have iJ:∀j l,μ' j=some l->j<(aH i).n->(bj i).cM j->iI aH bj S N j=(aH i).h.get j:=fun j l hj aD qC=>by
  obtain⟨h1,h2⟩:=Zxc T I Or dp hi hS hb hj aD qC
  rw[LY (i:=i) (by omega) h2,RB T (by omega) aD h1]
 have sa:∀j l,μ' j=some l->j<(aH i).n->(bj i).cM j->σ.h.get j=iI aH bj S N j:=fun j l hj aD qC=>by rw[hs j aD qC,iJ j l hj aD qC]
 have hold:∀j l,μ' j=some l->j<(aH 0).n->∃l,μ j=some l:=fun j l hj h0=>⟨l,by rw[<-I.ext j h0];exact hj⟩
 refine⟨⟨fun j l hj=>?_,fun j l hj=>?_,fun j k lj lk oj ok hj hk bJ h1 h2 hw hl=>?_,fun g hg=>?_⟩,sa⟩
 ·obtain⟨h1,h2⟩:=BI hj
  exact⟨by omega,(I.cG j l h2).2⟩
 ·obtain⟨h1,h2⟩:=BI hj
  obtain⟨o,μT,wT,lT,t1,t2,t3⟩:=T.sch i (by omega) j (hold j l h2) h1
  by_cases qC:(bj i).cM j
  ·obtain⟨o',q1,q2⟩:=I.obj j l h2
   rw[iJ j l h2 h1 qC,t1,aj]at q1
   subst q1
   exact⟨o,by rw[hs j h1 qC,t1],OM.cut (n:=(aH i).n) (fun k lk hk jJ=>by rw[Ib hk];exact jJ) t3 t2 q2⟩
  ·exact⟨.dead,by rw[hd j h1 qC,t1];rfl,trivial⟩
 ·obtain⟨a1,a2⟩:=BI hj
  obtain⟨b1,b2⟩:=BI hk
  have sj:(bj i).cM j:=Classical.byContradiction fun hn=>by
   rw[hd j a1 hn]at h1
   cases hq:(aH i).h.get j<;>rw[hq]at h1<;>simp at h1
   subst h1;simp[O.wr]at hw
  have sk:(bj i).cM k:=Classical.byContradiction fun hn=>by
   rw[hd k b1 hn]at h2
   cases hq:(aH i).h.get k<;>rw[hq]at h2<;>simp at h2
   subst h2;simp[O.live]at hl
  exact I.inj j k lj lk oj ok a2 b2 bJ (by rw[<-sa j lj a2 a1 sj];exact h1) (by rw[<-sa k lk b2 b1 sk];exact h2) hw hl
 ·obtain⟨t,ht⟩:=h0.fF g hg
  have qg:=(h0.cG g _ ht).1
  have:=T.mono (i:=0) (k:=i) (by omega) (by omega)
  exact⟨t,by rw[Ib (by omega),I.ext g qg];exact ht⟩
theorem Yg7(T:rZ P μ aH bs bj N){vI:Nat->V}(Pu:Dv bs ds vI N)(I:Inv P μ w aH bs bj ds N W S μ' a' w')(Or:Ord bj mo N js)(dp:∀k,S k=true->∀i,js k i->S i=true)(nG:∀k,k<N->ds k=(mo k).dst)
  {i:Nat} (hi:i<N) (hS:S i=false) (hb:∀j,js i j->S j=true):
  RR (xm μ' (aH i).n) (xn (bs i).r (mo i).reads) (bs 0).n a'.tmps:=by
 refine⟨I.rX.1,fun t v hv=>?_⟩
 rw[Ic]at hv
 split at hv
 ·rename_i ht
  obtain⟨h1,h2⟩:=Zxe Or dp nG hi hS hb ht
  have hc:rY bs ds S N t=some v:=by
   rw[LZ (i:=i) (by omega) h2,RC Pu (by omega) h1];exact hv
  obtain⟨x,hx,hr⟩:=I.rX.2 t v hc
  exact⟨x,hx,VR.cut (n:=(aH i).n) (fun k lk hk jJ=>by rw[Ib hk];exact jJ) v x (T.scr i (by omega) t v hv) hr⟩
 ·cases hv
def BJ(μ' μ2:Mu)(n n':Nat):Mu:=fun j=>if j<n then μ' j else if j<n' then μ2 j else μ' j
theorem rZ.BK(T:rZ P μ aH bs bj N):∀{i j:Nat} {o':O},i<=N->j<(aH 0).n->(aH i).h.get j=some o'->o'.wr=true->∃o,(aH 0).h.get j=some o/\o.wr=true
 |0,j,o',_,_,h,hw=>⟨o',h,hw⟩
 |i+1,j,o',hi,hj,h,hw=>by
  have:=T.mono (i:=0) (k:=i) (by omega) (by omega)
  obtain⟨o,h1,h2,_⟩:=T.grow i (by omega) j o' (by omega) h
  exact T.BK (by omega) hj h1 (h2 hw)
theorem WU(h0:bo P μ w (aH 0))(T:rZ P μ aH bs bj N){vI:Nat->V}(Pu:Dv bs ds vI N)(I:Inv P μ w aH bs bj ds N W S μ' a' w')(Or:Ord bj mo N js)(dp:∀k,S k=true->∀i,js k i->S i=true)
  (nG:∀k,k<N->ds k=(mo k).dst) (hW:∀k,k<N->∀j∈(bj k).wr,j∈W) {i:Nat} (hi:i<N) (hS:S i=false) (vd:∀d,ds i=some d->d<(bs 0).n)
  {σ σ':St} {μ2:Mu} {w2:World} {ws:List Nat} {x:Value} (qD:bo P (xm μ' (aH i).n) w' σ) (iJ:∀j l,μ' j=some l->j<(aH i).n->(bj i).cM j->σ.h.get j=iI aH bj S N j)
  (hn:σ.n=(aH i).n) (tZ:σ'.n=(aH (i+1)).n) (eP:bB P (xm μ' (aH i).n) w' σ μ2 w2 σ' ws) (nH:∀j,j<(aH i).n->(j∈ws↔j∈(bj i).wr)) (se:∀j∈ws,(bj i).cM j)
  (cC:∀j,((bj i).cM j/\j<(aH i).n)\/((aH i).n<=j/\j<(aH (i+1)).n)->σ'.h.get j=(aH (i+1)).h.get j) (hx:VR μ2 (vI i) x):
  Inv P μ w aH bs bj ds N W (jV S i) (BJ μ' μ2 (aH i).n (aH (i+1)).n) (a'.put (ds i) x) w2:=by
 have hle:=T.eX i hi
 have zae:=T.mono (i:=0) (k:=i) (by omega) (by omega)
 have xo:∀j l,μ' j=some l->¬((aH i).n<=j/\j<(aH (i+1)).n):=fun j l hj hc=>by
  rcases(I.cG j l hj).1 with h|⟨k,h3,h4,h5,h6⟩
  ·omega
  ·have hk:k=i:=by
    rcases Nat.lt_trichotomy k i with h|h|h
    ·have:=T.mono (i:=k+1) (k:=i) (by omega) (by omega);omega
    ·exact h
    ·have:=T.mono (i:=i+1) (k:=k) (by omega) (by omega);omega
   subst hk;rw[hS]at h4;cases h4
 have Dw:∀j,j<(aH i).n->μ2 j=μ' j:=fun j hj=>by rw[eP.ext j (by omega),Ib hj]
 have Ab:∀j l,μ' j=some l->BJ μ' μ2 (aH i).n (aH (i+1)).n j=some l:=fun j l hj=>by
  unfold BJ
  by_cases e1:j<(aH i).n
  ·rw[aF e1];exact hj
  ·by_cases e2:j<(aH (i+1)).n
   ·exact absurd ⟨by omega,e2⟩ (xo j l hj)
   ·rw[au e1,au e2];exact hj
 have Ac:∀j l,μ2 j=some l->BJ μ' μ2 (aH i).n (aH (i+1)).n j=some l:=fun j l hj=>by
  have hd:=(eP.hr.cG j l hj).1
  unfold BJ
  by_cases e1:j<(aH i).n
  ·rw[aF e1,<-Dw j e1];exact hj
  ·rw[au e1,aF (by omega)];exact hj
 have hinv:∀j l,BJ μ' μ2 (aH i).n (aH (i+1)).n j=some l->(μ' j=some l)\/((aH i).n<=j/\j<(aH (i+1)).n/\μ2 j=some l):=fun j l hj=>by
  unfold BJ at hj
  split at hj
  ·exact .inl hj
  ·split at hj
   ·exact .inr ⟨by omega,by assumption,hj⟩
   ·exact .inl hj
 have sg:∀j,r_ aH bj i j->iI aH bj (jV S i) N j=(aH (i+1)).h.get j:=fun j ht=>Ydj hi ht (Zs3 T Or dp hi hS ht)
 have told:∀j l,μ' j=some l->¬j∈(bj i).wr->iI aH bj (jV S i) N j=iI aH bj S N j:=fun j l hj hnw=>WV fun h=>h.elim hnw fun h=>xo j l hj h
 have Dx:∀j l o',μ' j=some l->iI aH bj (jV S i) N j=some o'->∃o,iI aH bj S N j=some o/\(o'.wr=true->o.wr=true)/\(o'.live=true->o.live=true):=fun j l o' hj ho=>by
  by_cases hw:j∈(bj i).wr
  ·have aD:=T.Ry i hi j hw
   have qC:=se j ((nH j aD).2 hw)
   rw[sg j (.inl hw),<-cC j (.inl ⟨qC,aD⟩)]at ho
   obtain⟨o,q1,q2,q3⟩:=eP.grow j o' (by omega) ho
   exact⟨o,by rw[<-iJ j l hj aD qC];exact q1,q2,q3⟩
  ·rw[told j l hj hw]at ho
   exact⟨o',ho,id,id⟩
 have WW:∀j∈ws,∀lj,xm μ' (aH i).n j=some lj->∃o,iI aH bj S N j=some o/\o.wr=true:=fun j hj lj rb=>by
  obtain⟨h1,h2⟩:=BI rb
  obtain⟨o,q1,q2⟩:=eP.tK j hj (by omega)
  exact⟨o,by rw[<-iJ j lj h2 h1 (se j hj)];exact q1,q2⟩
 have Ie:∀j l,(aH i).n<=j->μ2 j=some l->w'.heap.size<=l.b\/∃k lk,k∈ws/\k<(aH i).n/\μ' k=some lk/\lk.b=l.b/\∃o,iI aH bj S N k=some o/\o.wr=true:=fun j l hj hl=>by
  rcases eP.new j l (by omega) hl with h|⟨k,hk,WX,lk,ok,h1,h2,h3,h4⟩
  ·exact .inl h
  ·obtain⟨_,q2⟩:=BI h1
   exact .inr ⟨k,lk,hk,by omega,q2,h2,WW k hk lk h1⟩
 refine⟨fun j hj=>?_,fun j l hj=>?_,fun k hk WY j h1 h2=>?_,fun j l hj=>?_,fun j k lj lk oj ok hj hk bJ h1 h2 hw hl=>?_,⟨?_,fun t v hv=>?_⟩,?_,?_,fun j l Dy hj=>?_⟩
 ·-- ext
  unfold BJ
  rw[aF (by omega)];exact I.ext j hj
 ·-- cG
  rcases hinv j l hj with h|⟨h1,h2,h3⟩
  ·obtain⟨d1,d2⟩:=I.cG j l h
   refine⟨d1.imp id fun ⟨k,q1,q2,q3⟩=>⟨k,q1,?_,q3⟩,eY d2 eP.c_.size⟩
   simp only[jV];split<;>first|rfl|exact q2
  ·exact⟨.inr ⟨i,hi,by simp[jV],h1,h2⟩,(eP.hr.cG j l h3).2⟩
 ·-- full
  by_cases e:k=i
  ·subst e
   obtain⟨l,hl⟩:=eP.full j (by omega) (by omega)
   exact⟨l,Ac j l hl⟩
  ·simp only[jV,e,if_false]at WY
   obtain⟨l,hl⟩:=I.full k hk WY j h1 h2
   exact⟨l,Ab j l hl⟩
 ·-- obj
  rcases hinv j l hj with h|⟨h1,h2,h3⟩
  ·by_cases hw:j∈(bj i).wr
   ·have aD:=T.Ry i hi j hw
    have qC:=se j ((nH j aD).2 hw)
    obtain⟨o,q1,q2⟩:=eP.hr.obj j l (by rw[Dw j aD];exact h)
    exact⟨o,by rw[sg j (.inl hw),<-cC j (.inl ⟨qC,aD⟩)];exact q1,q2.mono Ac⟩
   ·obtain⟨o,q1,q2⟩:=I.obj j l h
    refine⟨o,by rw[told j l h hw];exact q1,?_⟩
    cases hl:o.live with
    |false=>cases o<;>simp[O.live]at hl;trivial
    |true=>
     refine(q2.mono Ab).congr (eP.c_.block l.b (I.cG j l h).2 fun k hk lk jG=>?_)
     obtain⟨q3,q4⟩:=BI jG
     obtain⟨ok,q5,q6⟩:=WW k hk lk jG
     exact I.inj k j lk l ok o q4 h (fun hc=>hw (by rw[<-hc];exact(nH k q3).1 hk)) q5 q1 q6 hl
  ·obtain⟨o,q1,q2⟩:=eP.hr.obj j l h3
   exact⟨o,by rw[sg j (.inr ⟨h1,h2⟩),<-cC j (.inr ⟨h1,h2⟩)];exact q1,q2.mono Ac⟩
 ·-- inj
  have BL:∀j k lj lk oj ok,(aH i).n<=j->j<(aH (i+1)).n->μ2 j=some lj->μ' k=some lk->iI aH bj (jV S i) N j=some oj->iI aH bj (jV S i) N k=some ok->((oj.wr=true/\ok.live=true)\/(ok.wr=true/\oj.live=true))->lj.b≠lk.b:=by
   intro j k lj lk oj ok BM ma RD hk CR jt BN
   have Ad:ok.live=true:=by
    rcases BN with h|h
    ·exact h.2
    ·have:=h.1;cases ok<;>simp_all [O.wr,O.live]
   rcases Ie j lj BM RD with h|⟨q,lq,h1,h2,h3,h4,o,h5,h6⟩
   ·have:=(I.cG k lk hk).2;omega
   ·rw[<-h4]
    by_cases e:q=k
    ·subst e
     rw[h3,aj]at hk;subst hk
     have hwq:=(nH q h2).1 h1
     rw[sg j (.inr ⟨BM,ma⟩),<-cC j (.inr ⟨BM,ma⟩)]at CR
     rw[sg q (.inl hwq),<-cC q (.inl ⟨se q h1,h2⟩)]at jt
     have jK:μ2 q=some lq:=by rw[Dw q h2];exact h3
     exfalso
     rcases BN with hb|hb
     ·exact eP.hr.inj j q lj lq oj ok RD jK (by omega) CR jt hb.1 hb.2 h4.symm
     ·exact eP.hr.inj q j lq lj ok oj jK RD (by omega) jt CR hb.1 hb.2 h4
    ·obtain⟨Ig,g1,g2,g3⟩:=Dx k lk ok hk jt
     exact I.inj q k lq lk o Ig h3 hk e h5 g1 h6 (g3 Ad)
  rcases hinv j lj hj with HL|⟨a1,a2,a3⟩
  ·rcases hinv k lk hk with eQ|⟨b1,b2,b3⟩
   ·obtain⟨oj0,g1,g2,g3⟩:=Dx j lj oj HL h1
    obtain⟨Ig,g4,g5,g6⟩:=Dx k lk ok eQ h2
    exact I.inj j k lj lk oj0 Ig HL eQ bJ g1 g4 (g2 hw) (g6 hl)
   ·exact(BL k j lk lj ok oj b1 b2 b3 HL h2 h1 (.inr ⟨hw,hl⟩)).symm
  ·rcases hinv k lk hk with eQ|⟨b1,b2,b3⟩
   ·exact BL j k lj lk oj ok a1 a2 a3 eQ h1 h2 (.inl ⟨hw,hl⟩)
   ·rw[sg j (.inr ⟨a1,a2⟩),<-cC j (.inr ⟨a1,a2⟩)]at h1
    rw[sg k (.inr ⟨b1,b2⟩),<-cC k (.inr ⟨b1,b2⟩)]at h2
    exact eP.hr.inj j k lj lk oj ok a3 b3 bJ h1 h2 hw hl
 ·-- fC temporaries' count
  cases hd:ds i<;>simp[Act.put,I.rX.1]
 ·-- fC temporaries
  by_cases ht:ds i=some t
  ·rw[Ydi Pu hi ht (Yc0 Or dp nG hi hS ht),aj]at hv
   subst hv
   refine⟨x,?_,VR.mono Ac _ _ hx⟩
   rw[ht]
   simp[Act.put,I.rX.1,vd t ht]
  ·rw[WZ ht]at hv
   obtain⟨y,q1,q2⟩:=I.rX.2 t v hv
   refine⟨y,?_,VR.mono Ab _ _ q2⟩
   cases hd:ds i with
   |none=>simpa[Act.put]using q1
   |some d=>
    have:d≠t:=fun hc=>ht (by rw[hd,hc])
    simp only[Act.put]
    rw[FO this];exact q1
 ·-- fC marks
  have:(a'.put (ds i) x).defers=a'.defers:=by cases ds i<;>rfl
  rw[this];exact I.defs.mono Ab
 ·-- fC frame
  refine⟨eP.c_.os.trans I.c_.os,eP.c_.tape.trans I.c_.tape,eP.c_.output.trans I.c_.output,p9 I.c_.size eP.c_.size,fun b hb cH=>?_⟩
  rw[eP.c_.block b (eY hb I.c_.size) fun j hj lj rb=>?_,I.c_.block b hb cH]
  obtain⟨q1,q2⟩:=BI rb
  by_cases e:j<(aH 0).n
  ·exact cH j (hW i hi j ((nH j q1).1 hj)) lj (by rw[<-I.ext j e];exact q2)
  ·rcases I.new j lj (by omega) q2 with h|⟨k,hk,_,lk,_,h3,h4,_⟩
   ·omega
   ·rw[<-h4];exact cH k hk lk h3
 ·-- new ids
  rcases hinv j l hj with h|⟨h1,h2,h3⟩
  ·exact I.new j l Dy h
  ·rcases Ie j l h1 h3 with h|⟨q,lq,q1,q2,q3,q4,o,q5,q6⟩
   ·exact .inl (p9 I.c_.size h)
   ·by_cases e:q<(aH 0).n
    ·have hqW:=hW i hi q ((nH q q2).1 q1)
     obtain⟨oi,g1,g2⟩:=T.tK i hi q ((nH q q2).1 q1)
     obtain⟨o0,g3,g4⟩:=T.BK (by omega) e g1 g2
     exact .inr ⟨q,hqW,e,lq,o0,by rw[<-I.ext q e];exact q3,q4,g3,g4⟩
    ·rcases I.new q lq (by omega) q3 with h|⟨k,hk,g1,lk,ok,g2,g3,g4⟩
     ·exact .inl (by omega)
     ·exact .inr ⟨k,hk,g1,lk,ok,g2,g3.trans q4,g4⟩
end
section
variable {P:Program} {μ:Mu} {w:World} {st av:St} {fr bC:Fr} {a:Act} {call:cm} {v:V} {lb:Option Nat}
theorem Zx4:∀(l:List Nat) (n j:Nat),j<n->(j∈ad n l↔j∈l):=by
 intro l n i hi
 induction l with
 |nil=>simp[ad]
 |cons j l ih=>
  simp only[ad]
  split
  ·unfold uZ
   split
   ·rename_i hc
    simp only[kb,ih]
    simp only[LH]at hc
    constructor
    ·exact .inr
    ·rintro(rfl|h)
     ·exact ih.1 hc
     ·exact h
   ·simp only[kb,ih]
  ·simp only[kb,ih]
   constructor
   ·exact .inr
   ·rintro(rfl|h)
    ·omega
    ·exact h
theorem Ygb(bR:ix P call)(hE:rm P){ops:Array Oper}{Q:Exit->Act->World->Prop}{aH:Nat->St}{bs:Nat->Fr}{vI:Nat->V}{bj:Nat->FP}{S:Nat->Bool}{W:List Nat}{μ':Mu}{a':Act}{w':World}
  (h0:bo P μ w (aH 0)) (hs:∀i o,ops[i]?=some o->xp P call ops o (aH i) (bs i) (vI i) (bj i) (aH (i+1)) (bs (i+1)))
  (T:rZ P μ aH bs bj ops.size) {ds:Nat->Option Nat} {mo:Nat->df} (BO:∀i o,ops[i]?=some o->mo i=oB P ops o) (nG:∀k,k<ops.size->ds k=(mo k).dst) (Pu:Dv bs ds vI ops.size)
  {js:Nat->Nat->Prop} (Or:Ord bj mo ops.size js) (I:Inv P μ w aH bs bj ds ops.size W S μ' a' w') (dp:∀k,S k=true->∀i,js k i->S i=true) (hW:∀k,k<ops.size->∀j∈(bj k).wr,j∈W)
  (xq:∀i,i<ops.size->∀ds,nb μ' (bs 0).marks ds->nb (xm μ' (aH i).n) (bs 0).marks ds)
  {i:Nat} (hi:i<ops.size) (hS:S i=false) (hb:∀j,js i j->S j=true) {K:Act->World->Prop}
  (hK:∀μ2 a2 w2,Inv P μ w aH bs bj ds ops.size W (jV S i) μ2 a2 w2->K a2 w2):wpOpIn (FE lb) 0 P ops Q i K a' w':=by
 have ho:ops[i]?=some ops[i]:=Array.getElem?_eq_getElem hi
 obtain⟨g,b,hg,hw,hp,ht,Ih⟩:=hs i _ ho
 have hmi:=BO i _ ho
 have Dz:mo i=⟨ops[i].dst,wP P ops[i].op,g⟩:=by rw[hmi];unfold oB;rw[hg]
 have gL:ds i=ops[i].dst:=by rw[nG i hi,Dz]
 have DC:∀s∈(wP P ops[i].op).zR,∀t∈s.tmps,t∈(mo i).reads:=fun s hs t ht=>by
  rw[Dz];simp only[df.reads,oF,List.mem_flatMap];exact .inr ⟨s,hs,ht⟩
 have W7:=Yg7 T Pu I Or dp nG hi hS hb
 have t_:bP (xn (bs i).r (mo i).reads) g=bP (bs i).r g:=by
  cases g with
  |none=>rfl
  |some p=>
   obtain⟨t,want⟩:=p
   simp only[bP]
   rw[Ic,aF (by rw[Dz];simp[df.reads])]
 have vd:∀d,ds i=some d->d<(bs 0).n:=fun d hd=>by
  rw[gL]at hd
  rw[hd]at hp
  simp only[Fr.put]at hp
  split at hp
  ·rename_i aD;rw[<-(T.fn i (by omega)).1];exact aD
  ·cases hp
 unfold wpOpIn
 rw[ho]
 simp only[]
 have W8:Region.wanted ops[i] (yielded ops a'.tmps)=b:=W9 (fr:={r:=xn (bs i).r (mo i).reads,n:=(bs 0).n,marks:=[]}) (a:=a') W7 hg (by rw[t_];exact hw)
 cases b with
 |true=>
  rw[aF W8]
  obtain⟨s',hm,iK,Ii⟩:=ht rfl
  obtain⟨σ,σ',k1,k2,k3,k4,k5,k6,k7,k8,k9⟩:=Yf8 (ws:=ad (aH i).n s'.w) (lo:=(aH i).n) (hi:=s'.n) hm rfl
  rw[<-Ii]at k6 k7 k8 k9
  obtain⟨qD,iJ⟩:=WT h0 T I Or dp hi hS hb k1 k6 k7
  have sh:jW (xm μ' (aH i).n) {r:=xn (bs i).r (mo i).reads,n:=(bs 0).n,marks:=(bs 0).marks} a':=⟨W7,xq i hi _ I.defs⟩
  have hm2:bZ (wP P ops[i].op) call (xn (bs i).r (mo i).reads) σ=some (vI i,σ'):=by
   rw[Ybn (r':=(bs i).r) fun s hs=>Yl7 (DC s hs)];exact k3
  refine RE bR hE qD sh hm2 fun x w2 μ2 ws hv eP=>?_
  have nH:ws=s'.w:=by
   have:=eP.wl
   rw[k2,k5,uT]at this
   exact this.symm
  have tZ:(aH (i+1)).n=s'.n:=by rw[iK]
  have hh':(aH (i+1)).h=s'.h:=by rw[iK]
  have hinv:=WU h0 T Pu I Or dp nG hW hi hS vd qD iJ k1 (by rw[k4,tZ]) eP (fun j hj=>by
   rw[nH,Ii,(RF (call:=call) hm _ _).1]
   exact(Zx4 _ _ _ hj).symm) (fun j hj=>k9 j (by rw[<-nH];exact hj)) (fun j hj=>by rw[hh'];exact k8 j (by rw[tZ]at hj;exact hj)) hv
  rw[gL]at hinv
  exact hK _ _ _ hinv
 |false=>
  rw[au (by rw[W8];simp)]
  obtain⟨hv,iK,Ii⟩:=Ih rfl
  refine⟨fun _ _=>trivial,?_⟩
  have se:∀j,¬(bj i).cM j:=fun j=>by rw[Ii];simp[FP.cM]
  obtain⟨qD,iJ⟩:=WT (σ:=⟨oR (aH i).h [] (aH i).n,(aH i).n,[]⟩) h0 T I Or dp hi hS hb rfl (fun j _ hj=>absurd hj (se j)) (fun j hj _=>by
   show (oR (aH i).h [] (aH i).n).get j=_
   rw[Gk,aF hj];simp)
  have tZ:(aH (i+1)).n=(aH i).n:=by rw[iK]
  have:=WU (x:=undef) (ws:=[]) (σ':=⟨oR (aH i).h [] (aH i).n,(aH i).n,[]⟩) h0 T Pu I Or dp nG hW hi hS vd qD iJ rfl tZ.symm (bB.refl qD) (fun j hj=>by rw[Ii]) (fun j hj=>by simp at hj) (fun j hj=>by
   rcases hj with⟨h,_⟩|⟨h1,h2⟩
   ·exact absurd h (se j)
   ·omega) (by rw[hv];exact⟨[],rfl,by simp[aX]⟩)
  rw[gL]at this
  exact hK _ _ _ this
theorem Xa:∀{os:List Oper} {b:Nat},FN b os=true->∀i o,os[i]?=some o->∀e∈o.after,Region.binds .any e=true->e.on<b+i
 |[],b,_,i,o,h,_,_,_=>by simp at h
 |o0::os,b,h,i,o,ho,e,he,hb=>by
  simp only[FN,gW]at h
  cases i with
  |zero=>
   simp only[yC,aj]at ho
   subst ho
   have h1:=h.1
   rw[Q3]at h1
   have:=h1 e he
   rw[hb]at this
   simpa[Nat.blt_eq]using this
  |succ i=>
   have:=Xa h.2 i o (by simpa using ho) e he hb
   omega
theorem Zzc{ops:Array Oper}(he:FN 0 ops.toList=true){listed:Array Bool}(fz:listed.size=ops.size)(hr:Region.ready .any ops listed=[]):∀k,k<ops.size->listed.getD k false=true:=by
 intro k
 induction k using Nat.strongRecOn with
 |_ k ih=>
  intro hk
  refine Classical.byContradiction fun hn=>?_
  have Ae:k∈Region.ready .any ops listed:=by
   unfold Region.ready
   simp only[List.mem_filter,zB,gW,CU]
   refine⟨hk,?_,?_⟩
   ·have jG:k<listed.size:=by omega
    simp only[Array.getD,jG,dif_pos]at hn ⊢
    simpa using hn
   ·have ho:ops[k]?=some ops[k]:=Array.getElem?_eq_getElem hk
    rw[ho]
    simp only[wK,Bb,Q3,CZ,CU]
    intro e Ij
    cases hb:Region.binds .any e with
    |false=>exact .inl rfl
    |true=>
     have:=Xa he k ops[k] (by rw[wV];exact ho) e Ij hb
     exact .inr (ih e.on (by omega) (by omega))
  rw[hr]at Ae
  cases Ae
theorem Ydh{p q:Nat->Bool}{i:Nat}(hp:p i=true)(hq:q i=false)(ho:∀k,k≠i->q k=p k):∀N,i<N->(List.range N).countP q+1=(List.range N).countP p:=by
 have same:∀N,N<=i->(List.range N).countP q=(List.range N).countP p:=by
  intro N
  induction N with
  |zero=>intro _;rfl
  |succ N ih=>
   intro h
   rw[List.range_succ,List.countP_append,List.countP_append,ih (by omega)]
   simp[ho N (by omega)]
 intro N
 induction N with
 |zero=>intro h;omega
 |succ N ih=>
  intro h
  rw[List.range_succ,List.countP_append,List.countP_append]
  by_cases e:N=i
  ·subst e
   rw[same N (aS _)]
   simp[hp,hq]
  ·have:=ih (by omega)
   simp only[List.countP_singleton,ho N e]
   omega
end
section
variable {P:Program} {μ:Mu} {w:World} {st av:St} {fr bC:Fr} {a:Act} {call:cm} {v:V} {lb:Option Nat}
theorem Yhs{listed:Array Bool}{i:Nat}(hi:i<listed.size):(fun k=>(listed.setIfInBounds i true).getD k false)=jV (fun k=>listed.getD k false) i:=by
 funext k
 simp only[jV,CS]
 by_cases e:k=i
 ·subst e;simp[hi]
 ·rw[FO (Ne.symm e),au e]
theorem Yo7(bR:ix P call)(hE:rm P){ops:Array Oper}{Q:Exit->Act->World->Prop}{aH:Nat->St}{bs:Nat->Fr}{vI:Nat->V}{bj:Nat->FP}{W:List Nat}
  (h0:bo P μ w (aH 0)) (hs:∀i o,ops[i]?=some o->xp P call ops o (aH i) (bs i) (vI i) (bj i) (aH (i+1)) (bs (i+1)))
  (T:rZ P μ aH bs bj ops.size) {ds:Nat->Option Nat} {mo:Nat->df} (BO:∀i o,ops[i]?=some o->mo i=oB P ops o) (nG:∀k,k<ops.size->ds k=(mo k).dst) (Pu:Dv bs ds vI ops.size)
  (Or:Ord bj mo ops.size (fun k i=>((rO ops.toList []).getD k 0).testBit i=true)) (hW:∀k,k<ops.size->∀j∈(bj k).wr,j∈W) (xr:FN 0 ops.toList=true)
  (xq:∀μ',(∀j,j<(aH 0).n->μ' j=μ j)->∀i,i<ops.size->∀ds,nb μ' (bs 0).marks ds->nb (xm μ' (aH i).n) (bs 0).marks ds)
  (hQ:∀S μ' a' w',(∀k,k<ops.size->S k=true)->Inv P μ w aH bs bj ds ops.size W S μ' a' w'->Q .normal a' w'):
  ∀(fuel:Nat) (listed:Array Bool) (μ':Mu) (a':Act) (w':World),listed.size=ops.size->(List.range ops.size).countP (fun k=>!listed.getD k false)=fuel->
   (Xb ops fun k=>listed.getD k false=true)->Inv P μ w aH bs bj ds ops.size W (fun k=>listed.getD k false) μ' a' w'->wpAnyIn (FE lb) 0 P .any ops Q fuel listed a' w':=by
 intro fuel
 induction fuel with
 |zero=>
  intro listed μ' a' w' fz hc dp I
  have fi:∀k,k<ops.size->listed.getD k false=true:=fun k hk=>by
   rw[List.countP_eq_zero]at hc
   have:=hc k (zB.2 hk)
   simpa using this
  refine⟨?_,hQ _ μ' a' w' fi I⟩
  refine List.eq_nil_iff_forall_not_mem.2 fun j hj=>?_
  obtain⟨h1,h2,_⟩:=Xc dp hj
  have:=fi j h1
  simp only[CS]at h2 this
  have ma:j<listed.size:=by omega
  simp[ma]at h2 this
  rw[h2]at this;cases this
 |succ fuel ih=>
  intro listed μ' a' w' fz hc dp I
  refine⟨fun hr=>hQ _ μ' a' w' (Zzc xr fz hr) I,fun i hi=>?_⟩
  obtain⟨h1,h2,h3⟩:=Xc dp hi
  have RG:i<listed.size:=by omega
  have Xd:listed.getD i false=false:=by
   simp only[CS]at h2 ⊢
   simp[RG]at h2 ⊢
   exact h2
  refine Ygb (S:=fun k=>listed.getD k false) bR hE h0 hs T BO nG Pu Or I (fun k hk i hb=>dp k i hk hb) hW (xq μ' I.ext) h1 Xd h3 fun μ2 a2 w2 I2=>?_
  have xu:=Yhs (listed:=listed) RG
  refine ih (listed.setIfInBounds i true) μ2 a2 w2 (by simp[fz]) ?_ ?_ (by rw[xu];exact I2)
  ·have:=Ydh (p:=fun k=>!listed.getD k false) (q:=fun k=>!(listed.setIfInBounds i true).getD k false) (i:=i) (by simp[Xd]) (by
    have:=congrFun xu i
    simp only[this];simp[jV]) (fun k hk=>by
    have:=congrFun xu k
    simp only[this];simp[jV,hk]) ops.size h1
   omega
  ·intro k j hk hb
   have e1:=congrFun xu k
   have e2:=congrFun xu j
   simp only[e1,e2,jV]at hk ⊢
   by_cases ej:j=i
   ·rw[aF ej]
   ·rw[au ej]
    by_cases ek:k=i
    ·subst ek;exact h3 j hb
    ·rw[au ek]at hk;exact dp k j hk hb
theorem nb.Ik{μ μ' μ2:Mu}{n:Nat}(hd:∀i l,μ i=some l->i<n)(h:∀i l,i<n->μ' i=some l->μ2 i=some l):∀{ms:List Nat} {ds BP:List Deferred},nb μ ms ds->nb μ' ms BP->nb μ2 ms BP
 |[],_,_,_,h2=>h2
 |m::ms,_,_,⟨l,_,h1,_,h3⟩,⟨l',d',g1,g2,g3⟩=>⟨l',d',h m l' (hd m l h1) g1,g2,nb.Ik hd h h3 g3⟩
theorem Xe{aH:Nat->St}{bs:Nat->Fr}{bj:Nat->FP}{N:Nat}(T:rZ P μ aH bs bj N)(j:Nat):∀i,i<=N->(aH 0).n<=j->j<(aH i).n->∃k,k<i/\(aH k).n<=j/\j<(aH (k+1)).n
 |0,_,h1,h2=>by omega
 |i+1,hi,h1,h2=>by
  by_cases e:j<(aH i).n
  ·obtain⟨k,a1,a2⟩:=Xe T j i (by omega) h1 e
   exact⟨k,by omega,a2⟩
  ·exact⟨i,by omega,by omega,h2⟩
theorem Xf{aH:Nat->St}{bs:Nat->Fr}{bj:Nat->FP}{N:Nat}(T:rZ P μ aH bs bj N):∀i,i<=N->∃Wi,(aH i).w=Wi++(aH 0).w/\∀k,k<i->∀j∈(bj k).wr,j∈Wi
 |0,_=>⟨[],rfl,fun k hk=>by omega⟩
 |i+1,hi=>by
  obtain⟨Wi,h1,h2⟩:=Xf T i (by omega)
  refine⟨(bj i).wr++Wi,by rw[T.wl i (by omega),h1,qw],fun k hk j hj=>?_⟩
  by_cases e:k=i
  ·subst e;simp[hj]
  ·simp[h2 k (by omega) j hj]
theorem Xg(hm:P.follows .mixedOrders=true)(hE:rm P)(bR:ix P call):Xh P call:=by
 intro id ops fr st ex bC av hp h μ w a lb hh hf
 unfold Q0 at hp
 simp only[gW]at hp
 obtain⟨xr,hpt⟩:=hp
 unfold xe at h
 split at h
 ·rename_i fS dh bS bI
  split at h
  ·rename_i yZ
   simp only[aj,bq]at h
   obtain⟨rfl,rfl,rfl⟩:=h
   obtain⟨aH,bs,vI,bj,e1,e2,e3,e4,e5,hs⟩:=Xi ops.toList fr st fS dh bS bI
   subst e1 e2
   have hN:ops.toList.length=ops.size:=by simp
   rw[hN]at e3 e4 e5
   have iA:∀i o,ops[i]?=some o->xp P call ops o (aH i) (bs i) (vI i) (bj i) (aH (i+1)) (bs (i+1)):=fun i o ho=>(hs i o (by rw[wV];exact ho)).2
   have T:=Yne bR hE hN hh hf fun i o ho=>(hs i o ho).2
   let mo:Nat->df:=fun i=>match ops[i]? with|some o=>oB P ops o|none=>⟨none,.stop,none⟩
   have BO:∀i o,ops[i]?=some o->mo i=oB P ops o:=fun i o ho=>by simp only[mo,ho]
   have RH:∀i o,ops[i]?=some o->(mo i).dst=o.dst:=fun i o ho=>by rw[BO i o ho];unfold oB;split<;>rfl
   have cC:∀i,i<ops.size->ops[i]?=some (ops[i]!):=fun i hi=>by simp[hi]
   have Pu:Dv bs (fun k=>(mo k).dst) vI ops.size:=fun i hi t=>by
    obtain⟨g,b,_,_,hp,_⟩:=iA i _ (cC i hi)
    show (bs (i+1)).r.get t=if (mo i).dst=some t then some (vI i) else (bs i).r.get t
    rw[RH i _ (cC i hi)]
    cases hd:(ops[i]!).dst with
    |none=>rw[hd]at hp;simp only[Fr.put,aj]at hp;rw[<-hp];simp
    |some d=>
     rw[hd]at hp
     simp only[Fr.put]at hp
     split at hp
     ·simp only[aj]at hp
      rw[<-hp,Go.Mx.T.ai]
      by_cases e:t=d
      ·subst e;simp
      ·rw[au e,au (by simp[Ne.symm e])]
     ·cases hp
   have Or:Ord bj mo ops.size (fun k i=>((rO ops.toList []).getD k 0).testBit i=true):=by
    refine⟨fun i k Il hk=>?_,fun i k Il hk=>?_⟩
    ·exact Xj yZ Il ((hs i _ (by rw[wV];exact cC i (by omega))).1) ((hs k _ (by rw[wV];exact cC k hk)).1)
    ·refine Xj hpt Il ?_ ?_
     ·rw[jf,wV,cC i (by omega),wK,BO i _ (cC i (by omega))]
     ·rw[jf,wV,cC k hk,wK,BO k _ (cC k hk)]
   obtain⟨W,Ma,eE⟩:=Xf T ops.size (aS _)
   obtain⟨wT,μT,aT,RI,Mb,hT2⟩:=Xk bR hE hN hh hf (fun i o ho=>(hs i o ho).2) ops.size (aS _)
   have RJ:RI=W:=List.append_cancel_right (Mb.wl.symm.trans Ma)
   subst RJ
   have xw:∀k,(Array.replicate ops.size false).getD k false=false:=fun k=>by
    simp only[CS]
    by_cases hk:k<ops.size
    ·simp[hk]
    ·simp[hk]
   have Xl:∀M j,iI aH bj (fun k=>(Array.replicate ops.size false).getD k false) M j=(aH 0).h.get j:=fun M j=>LY (i:=0) (tQ _) fun k _ _ _=>xw k
   have hcR:∀M t,rY bs (fun k=>(mo k).dst) (fun k=>(Array.replicate ops.size false).getD k false) M t=(bs 0).r.get t:=fun M t=>LZ (i:=0) (tQ _) fun k _ _ _=>xw k
   have I0:Inv P μ w aH bs bj (fun k=>(mo k).dst) ops.size RI (fun k=>(Array.replicate ops.size false).getD k false) μ a {w with drawn:=w.drawn+1}:=by
    refine⟨fun _ _=>rfl,fun j l hj=>⟨.inl (hh.cG j l hj).1,(hh.cG j l hj).2⟩,fun k _ hk=>?_,fun j l hj=>?_,fun i j l l' o o' h1 h2 h3 h4 h5=>?_,⟨hf.1.1,fun t v hv=>?_⟩,hf.2,⟨rfl,rfl,rfl,aS _,fun _ _ _=>rfl⟩,fun i l h1 h2=>absurd (hh.cG i l h2).1 (by omega)⟩
    ·rw[xw k]at hk;cases hk
    ·obtain⟨o,q1,q2⟩:=hh.obj j l hj
     exact⟨o,by rw[Xl];exact q1,OM.congr (w:=w) rfl q2⟩
    ·rw[Xl]at h4 h5
     exact hh.inj i j l l' o o' h1 h2 h3 h4 h5
    ·rw[hcR]at hv
     exact hf.1.2 t v hv
   refine wpIn_region_any hm (Yo7 bR hE hh iA T BO (fun _ _=>rfl) Pu Or eE xr ?_ ?_ ops.size _ μ a _ (by simp) ?_ ?_ I0)
   ·intro μ' si i hi ds nG
    exact nb.Ik (n:=(aH 0).n) (fun j l hj=>(hh.cG j l hj).1) (fun j l hj hl=>by
     have:=T.mono (i:=0) (k:=i) (by omega) (by omega)
     rw[Ib (by omega)];exact hl) hf.2 nG
   ·intro S μ' a' w' hS I
    have RK:∀j,j<(aH ops.size).n->iI aH bj S ops.size j=(aH ops.size).h.get j:=fun j hj=>RB T (aS _) hj fun k hk _=>hS k hk
    have hfR:∀t,rY bs (fun k=>(mo k).dst) S ops.size t=(bs ops.size).r.get t:=fun t=>RC Pu (aS _) fun k hk _=>hS k hk
    have Af:∀j l,μ' j=some l->j<(aH ops.size).n:=fun j l hj=>by
     rcases(I.cG j l hj).1 with h|⟨k,h1,_,_,h2⟩
     ·have:=T.mono (i:=0) (k:=ops.size) (by omega) (by omega);omega
     ·have:=T.mono (i:=k+1) (k:=ops.size) (by omega) (by omega);omega
    rw[<-e3,<-e4]
    refine⟨rfl,μ',RI,⟨⟨fun j l hj=>⟨Af j l hj,(I.cG j l hj).2⟩,fun j l hj=>?_,fun i j l l' o o' h1 h2 h3 h4 h5=>?_,fun g hg=>?_⟩,I.ext,T.mono (tQ _) (aS _),Ma,I.c_,I.new,Mb.ae,Mb.grow,fun j h1 h2=>?_,Mb.tK⟩,⟨?_,fun t v hv=>?_⟩,?_⟩
    ·obtain⟨o,q1,q2⟩:=I.obj j l hj
     exact⟨o,by rw[<-RK j (Af j l hj)];exact q1,q2⟩
    ·exact I.inj i j l l' o o' h1 h2 h3 (by rw[RK i (Af i l h1)];exact h4) (by rw[RK j (Af j l' h2)];exact h5)
    ·obtain⟨t,ht⟩:=hh.fF g hg
     exact⟨t,by rw[I.ext g (hh.cG g _ ht).1];exact ht⟩
    ·obtain⟨k,q1,q2,q3⟩:=Xe T j ops.size (aS _) h1 h2
     exact I.full k q1 (hS k q1) j q2 q3
    ·rw[(T.fn ops.size (aS _)).1];exact I.rX.1
    ·exact I.rX.2 t v (by rw[hfR];exact hv)
    ·rw[(T.fn ops.size (aS _)).2];exact I.defs
   ·have:(fun k=>!(Array.replicate ops.size false).getD k false)=fun _=>true:=by funext k;rw[xw];rfl
    rw[this];simp
   ·intro k i hk
    rw[xw k]at hk;cases hk
  ·cases h
 ·cases h
end
end Go.Mx
