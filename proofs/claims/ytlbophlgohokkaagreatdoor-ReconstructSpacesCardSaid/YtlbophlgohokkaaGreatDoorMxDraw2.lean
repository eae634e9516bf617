/-
  A region that draws its order: what holds after a set of its operations.
-/
import Derived.Test.YtlbophlgohokkaaGreatDoorMxLoc
set_option linter.all false
namespace Go.Mx
open Go
structure Inv (P:Program) (μ:Mu) (w:World) (aG:Nat->St) (bp:Nat->Fr) (bh:Nat->FP) (ds:Nat->Option Nat) (N:Nat) (W:List Nat) (S:Nat->Bool) (μ':Mu) (a':Act) (w':World):Prop where
 ext:∀j,j<(aG 0).n->μ' j=μ j
 cK:∀j l,μ' j=some l->(j<(aG 0).n\/∃k,k<N/\S k=true/\(aG k).n<=j/\j<(aG (k+1)).n)/\l.b<w'.heap.size
 full:∀k,k<N->S k=true->∀j,(aG k).n<=j->j<(aG (k+1)).n->∃l,μ' j=some l
 obj:∀j l,μ' j=some l->∃o,iE aG bh S N j=some o/\OM P μ' w' o l
 inj:∀i j l l' o o',μ' i=some l->μ' j=some l'->i≠j->iE aG bh S N i=some o->iE aG bh S N j=some o'->o.wr=true->o'.live=true->l.b≠l'.b
 qt:a'.tmps.size=(bp 0).n/\∀t v,qu bp ds S N t=some v->∃x,a'.tmps[t]?=some x/\VR μ' v x
 defs:lY μ' (bp 0).marks a'.defers
 dk:FI μ W w w'
 new:∀i l,(aG 0).n<=i->μ' i=some l->w.heap.size<=l.b\/∃j∈W,j<(aG 0).n/\∃lj oj,μ j=some lj/\lj.b=l.b/\(aG 0).h.get j=some oj/\oj.wr=true
structure Ord (bh:Nat->FP) (mo:Nat->du) (N:Nat) (jf:Nat->Nat->Prop):Prop where
 free:∀i k,i<k->k<N->jf k i\/FP.free (bh i) (bh k)=true
 tmp:∀i k,i<k->k<N->jf k i\/JC (mo i) (mo k)=true
section
variable {P:Program} {μ μ':Mu} {w w':World} {aG:Nat->St} {bp:Nat->Fr} {bh:Nat->FP} {ds:Nat->Option Nat} {S:Nat->Bool} {N:Nat} {W:List Nat} {a a':Act} {mo:Nat->du} {jf:Nat->Nat->Prop}
theorem qw.mono(T:qw P μ aG bp bh N):∀{i k:Nat},i<=k->k<=N->(aG i).n<=(aG k).n
 |i,0,h,_=>by rw[Nat.le_zero.1 h];exact aV _
 |i,k+1,h,hk=>by
  by_cases e:i=k+1
  ·rw[e];exact aV _
  ·exact lS (T.mono (i:=i) (k:=k) (by omega) (by omega)) (T.fi k (by omega))
theorem JW{a b:FP}(h:FP.free a b=true):(∀j∈a.wr,¬b.cU j)/\(∀j∈a.wr,j∉b.wr)/\(∀j∈b.wr,¬a.cU j)/\∀j∈b.wr,¬(a.lo<=j/\j<a.hi):=by
 unfold FP.free at h
 simp only[Bo,Bool.or_eq_false_iff]at h
 obtain⟨⟨⟨h1,h2⟩,h3⟩,h4⟩:=h
 have key:∀(l:List Nat) (o:Option (List Nat)),BN l o=false->∀j∈l,¬(match o with|none=>True|some q=>j∈q):=by
  intro l o h j hj
  cases o with
  |none=>
   simp only[BN,Bool.not_eq_false',List.isEmpty_iff]at h
   subst h;simp at hj
  |some q=>
   simp only[BN,List.any_eq_false,JG]at h
   exact h j hj
 refine⟨fun j hj=>?_,fun j hj=>?_,fun j hj=>?_,fun j hj=>?_⟩
 ·have:=key _ _ h1 j hj
  unfold FP.cU
  exact this
 ·exact key _ _ h2 j hj
 ·have:=key _ _ h3 j hj
  unfold FP.cU
  exact this
 ·simp only[List.any_eq_false]at h4
  have:=h4 j hj
  intro hc
  apply this
  simp[Nat.ble_eq,Nat.blt_eq,hc.1,hc.2]
theorem Zxr(T:qw P μ aG bp bh N)(I:Inv P μ w aG bp bh ds N W S μ' a' w')(Or:Ord bh mo N jf)(cr:∀k,S k=true->∀i,jf k i->S i=true){i:Nat}(hi:i<N)(hS:S i=false)(hb:∀j,jf i j->S j=true)
  {j:Nat} {l:L} (hj:μ' j=some l) (aB:j<(aG i).n) (hs:(bh i).cU j):
  (∀k,k<i->qx aG bh k j->S k=true)/\(∀k,i<=k->k<N->qx aG bh k j->S k=false):=by
 refine⟨fun k hk ht=>?_,fun k hk yt ht=>?_⟩
 ·rcases ht with ht|⟨h1,h2⟩
  ·rcases Or.free k i hk hi with h|h
   ·exact hb k h
   ·exact absurd hs ((JW h).1 j ht)
  ·rcases(I.cK j l hj).1 with h0|⟨k',h3,h4,h5,h6⟩
   ·have:=T.mono (i:=0) (k:=k) (by omega) (by omega)
    omega
   ·have:k'=k:=by
     rcases Nat.lt_trichotomy k k' with h|h|h
     ·have:=T.mono (i:=k+1) (k:=k') (by omega) (by omega);omega
     ·exact h.symm
     ·have:=T.mono (i:=k'+1) (k:=k) (by omega) (by omega);omega
    subst this;exact h4
 ·by_cases e:k=i
  ·rw[e];exact hS
  ·rcases ht with ht|⟨h1,h2⟩
   ·rcases Or.free i k (by omega) yt with h|h
    ·cases hq:S k with
     |false=>rfl
     |true=>rw[cr k hq i h]at hS;cases hS
    ·exact absurd hs ((JW h).2.2.1 j ht)
   ·have:=T.mono (i:=i) (k:=k) hk (by omega)
    omega
theorem Zs9(T:qw P μ aG bp bh N)(Or:Ord bh mo N jf)(cr:∀k,S k=true->∀i,jf k i->S i=true){i:Nat}(hi:i<N)(hS:S i=false)
  {j:Nat} (ht:qx aG bh i j):∀k,i<k->k<N->qx aG bh k j->S k=false:=by
 intro k hk yt il
 have FZ:=Or.free i k hk yt
 have FA:jf k i->S k=false:=fun h=>by
  cases hq:S k with
  |false=>rfl
  |true=>rw[cr k hq i h]at hS;cases hS
 rcases FZ with h|h
 ·exact FA h
 ·exfalso
  have hm:=T.mono (i:=i+1) (k:=k) (by omega) (by omega)
  have fA:=T.fi i hi
  rcases ht with ht|⟨h1,h2⟩
  ·rcases il with il|⟨h3,h4⟩
   ·exact(JW h).2.1 j ht il
   ·have:=T.OE i hi j ht;omega
  ·rcases il with il|⟨h3,h4⟩
   ·refine(JW h).2.2.2 j il ⟨?_,?_⟩
    ·rw[T.lo i hi];exact h1
    ·rw[T.hi i hi];exact h2
   ·omega
theorem OF{d:Option Nat}{l:List Nat}(h:FR d l=false):∀t,d=some t->t∉l:=by
 intro t ht hm
 subst ht
 simp only[FR]at h
 have:l.contains t=true:=JG.2 hm
 rw[this]at h;cases h
theorem OG{a b:du}(h:JC a b=true):(∀t,a.dst=some t->t∉b.reads)/\(∀t,b.dst=some t->t∉a.reads)/\∀t,a.dst=some t->b.dst≠some t:=by
 unfold JC at h
 simp only[Bo,Bool.or_eq_false_iff]at h
 obtain⟨⟨h1,h2⟩,h3⟩:=h
 exact⟨OF h1,OF h2,fun t ht hb=>OF h3 t ht (by rw[hb];simp)⟩
theorem Zxt(Or:Ord bh mo N jf)(cr:∀k,S k=true->∀i,jf k i->S i=true)(ks:∀k,k<N->ds k=(mo k).dst){i:Nat}(hi:i<N)(hS:S i=false)(hb:∀j,jf i j->S j=true)
  {t:Nat} (ht:t∈(mo i).reads):(∀k,k<i->ds k=some t->S k=true)/\(∀k,i<=k->k<N->ds k=some t->S k=false):=by
 refine⟨fun k hk hd=>?_,fun k hk yt hd=>?_⟩
 ·rcases Or.tmp k i hk hi with h|h
  ·exact hb k h
  ·rw[ks k (by omega)]at hd
   exact absurd ht ((OG h).1 t hd)
 ·by_cases e:k=i
  ·rw[e];exact hS
  ·rcases Or.tmp i k (by omega) yt with h|h
   ·cases hq:S k with
    |false=>rfl
    |true=>rw[cr k hq i h]at hS;cases hS
   ·rw[ks k yt]at hd
    exact absurd ht ((OG h).2.1 t hd)
theorem Ydm(Or:Ord bh mo N jf)(cr:∀k,S k=true->∀i,jf k i->S i=true)(ks:∀k,k<N->ds k=(mo k).dst){i:Nat}(hi:i<N)(hS:S i=false)
  {t:Nat} (ht:ds i=some t):∀k,i<k->k<N->ds k=some t->S k=false:=by
 intro k hk yt hd
 rcases Or.tmp i k hk yt with h|h
 ·cases hq:S k with
  |false=>rfl
  |true=>rw[cr k hq i h]at hS;cases hS
 ·rw[ks i hi]at ht
  rw[ks k yt]at hd
  exact absurd hd ((OG h).2.2 t ht)
end
section
variable {P:Program} {μ μ':Mu} {w w':World} {aG:Nat->St} {bp:Nat->Fr} {bh:Nat->FP} {ds:Nat->Option Nat} {S:Nat->Bool} {N:Nat} {W:List Nat} {a a':Act} {mo:Nat->du} {jf:Nat->Nat->Prop}
def vc(μ':Mu)(n:Nat):Mu:=fun j=>if j<n then μ' j else none
theorem F0{n j:Nat}(h:j<n):vc μ' n j=μ' j:=aF h
theorem z_{n j:Nat}{l:L}(h:vc μ' n j=some l):j<n/\μ' j=some l:=by
 unfold vc at h
 split at h
 ·exact⟨by assumption,h⟩
 ·cases h
theorem T1(h0:bm P μ w (aG 0))(T:qw P μ aG bp bh N)(I:Inv P μ w aG bp bh ds N W S μ' a' w')(Or:Ord bh mo N jf)(cr:∀k,S k=true->∀i,jf k i->S i=true){i:Nat}(hi:i<N)(hS:S i=false)(hb:∀j,jf i j->S j=true)
  {σ:St} (hn:σ.n=(aG i).n) (hs:∀j,j<(aG i).n->(bh i).cU j->σ.h.get j=(aG i).h.get j) (hd:∀j,j<(aG i).n->¬(bh i).cU j->σ.h.get j=((aG i).h.get j).map fun _=>.dead):
  bm P (vc μ' (aG i).n) w' σ/\∀j l,μ' j=some l->j<(aG i).n->(bh i).cU j->σ.h.get j=iE aG bh S N j:=by
 have fV:∀j l,μ' j=some l->j<(aG i).n->(bh i).cU j->iE aG bh S N j=(aG i).h.get j:=fun j l hj aB oL=>by
  obtain⟨h1,h2⟩:=Zxr T I Or cr hi hS hb hj aB oL
  rw[JX (i:=i) (by omega) h2,OH T (by omega) aB h1]
 have qy:∀j l,μ' j=some l->j<(aG i).n->(bh i).cU j->σ.h.get j=iE aG bh S N j:=fun j l hj aB oL=>by rw[hs j aB oL,fV j l hj aB oL]
 have hold:∀j l,μ' j=some l->j<(aG 0).n->∃l,μ j=some l:=fun j l hj h0=>⟨l,by rw[<-I.ext j h0];exact hj⟩
 refine⟨⟨fun j l hj=>?_,fun j l hj=>?_,fun j k lj lk oj ok hj hk bA h1 h2 hw hl=>?_,fun g hg=>?_⟩,qy⟩
 ·obtain⟨h1,h2⟩:=z_ hj
  exact⟨by omega,(I.cK j l h2).2⟩
 ·obtain⟨h1,h2⟩:=z_ hj
  obtain⟨o,μT,wT,lT,t1,t2,t3⟩:=T.sch i (by omega) j (hold j l h2) h1
  by_cases oL:(bh i).cU j
  ·obtain⟨o',q1,q2⟩:=I.obj j l h2
   rw[fV j l h2 h1 oL,t1,ai]at q1
   subst q1
   exact⟨o,by rw[hs j h1 oL,t1],OM.cut (n:=(aG i).n) (fun k lk hk il=>by rw[F0 hk];exact il) t3 t2 q2⟩
  ·exact⟨.dead,by rw[hd j h1 oL,t1];rfl,trivial⟩
 ·obtain⟨a1,a2⟩:=z_ hj
  obtain⟨b1,b2⟩:=z_ hk
  have sj:(bh i).cU j:=Classical.byContradiction fun hn=>by
   rw[hd j a1 hn]at h1
   cases hq:(aG i).h.get j<;>rw[hq]at h1<;>simp at h1
   subst h1;simp[O.wr]at hw
  have sk:(bh i).cU k:=Classical.byContradiction fun hn=>by
   rw[hd k b1 hn]at h2
   cases hq:(aG i).h.get k<;>rw[hq]at h2<;>simp at h2
   subst h2;simp[O.live]at hl
  exact I.inj j k lj lk oj ok a2 b2 bA (by rw[<-qy j lj a2 a1 sj];exact h1) (by rw[<-qy k lk b2 b1 sk];exact h2) hw hl
 ·obtain⟨t,ht⟩:=h0.fE g hg
  have yu:=(h0.cK g _ ht).1
  have:=T.mono (i:=0) (k:=i) (by omega) (by omega)
  exact⟨t,by rw[F0 (by omega),I.ext g yu];exact ht⟩
theorem Yhw(T:qw P μ aG bp bh N){vI:Nat->V}(Pu:BR bp ds vI N)(I:Inv P μ w aG bp bh ds N W S μ' a' w')(Or:Ord bh mo N jf)(cr:∀k,S k=true->∀i,jf k i->S i=true)(ks:∀k,k<N->ds k=(mo k).dst)
  {i:Nat} (hi:i<N) (hS:S i=false) (hb:∀j,jf i j->S j=true):
  RR (vc μ' (aG i).n) (ve (bp i).r (mo i).reads) (bp 0).n a'.tmps:=by
 refine⟨I.qt.1,fun t v hv=>?_⟩
 rw[F3]at hv
 split at hv
 ·rename_i ht
  obtain⟨h1,h2⟩:=Zxt Or cr ks hi hS hb ht
  have hc:qu bp ds S N t=some v:=by
   rw[JY (i:=i) (by omega) h2,OI Pu (by omega) h1];exact hv
  obtain⟨x,hx,hr⟩:=I.qt.2 t v hc
  exact⟨x,hx,VR.cut (n:=(aG i).n) (fun k lk hk il=>by rw[F0 hk];exact il) v x (T.scr i (by omega) t v hv) hr⟩
 ·cases hv
def Aa(μ' μ2:Mu)(n n':Nat):Mu:=fun j=>if j<n then μ' j else if j<n' then μ2 j else μ' j
theorem qw.Ab(T:qw P μ aG bp bh N):∀{i j:Nat} {o':O},i<=N->j<(aG 0).n->(aG i).h.get j=some o'->o'.wr=true->∃o,(aG 0).h.get j=some o/\o.wr=true
 |0,j,o',_,_,h,hw=>⟨o',h,hw⟩
 |i+1,j,o',hi,hj,h,hw=>by
  have:=T.mono (i:=0) (k:=i) (by omega) (by omega)
  obtain⟨o,h1,h2,_⟩:=T.grow i (by omega) j o' (by omega) h
  exact T.Ab (by omega) hj h1 (h2 hw)
theorem T2(h0:bm P μ w (aG 0))(T:qw P μ aG bp bh N){vI:Nat->V}(Pu:BR bp ds vI N)(I:Inv P μ w aG bp bh ds N W S μ' a' w')(Or:Ord bh mo N jf)(cr:∀k,S k=true->∀i,jf k i->S i=true)
  (ks:∀k,k<N->ds k=(mo k).dst) (hW:∀k,k<N->∀j∈(bh k).wr,j∈W) {i:Nat} (hi:i<N) (hS:S i=false) (pL:∀d,ds i=some d->d<(bp 0).n)
  {σ σ':St} {μ2:Mu} {w2:World} {ws:List Nat} {x:Value} (oM:bm P (vc μ' (aG i).n) w' σ) (fV:∀j l,μ' j=some l->j<(aG i).n->(bh i).cU j->σ.h.get j=iE aG bh S N j)
  (hn:σ.n=(aG i).n) (rb:σ'.n=(aG (i+1)).n) (dH:bB P (vc μ' (aG i).n) w' σ μ2 w2 σ' ws) (mC:∀j,j<(aG i).n->(j∈ws↔j∈(bh i).wr)) (qz:∀j∈ws,(bh i).cU j)
  (cF:∀j,((bh i).cU j/\j<(aG i).n)\/((aG i).n<=j/\j<(aG (i+1)).n)->σ'.h.get j=(aG (i+1)).h.get j) (hx:VR μ2 (vI i) x):
  Inv P μ w aG bp bh ds N W (jH S i) (Aa μ' μ2 (aG i).n (aG (i+1)).n) (a'.put (ds i) x) w2:=by
 have hle:=T.fi i hi
 have zac:=T.mono (i:=0) (k:=i) (by omega) (by omega)
 have vf:∀j l,μ' j=some l->¬((aG i).n<=j/\j<(aG (i+1)).n):=fun j l hj hc=>by
  rcases(I.cK j l hj).1 with h|⟨k,h3,h4,h5,h6⟩
  ·omega
  ·have hk:k=i:=by
    rcases Nat.lt_trichotomy k i with h|h|h
    ·have:=T.mono (i:=k+1) (k:=i) (by omega) (by omega);omega
    ·exact h
    ·have:=T.mono (i:=i+1) (k:=k) (by omega) (by omega);omega
   subst hk;rw[hS]at h4;cases h4
 have BS:∀j,j<(aG i).n->μ2 j=μ' j:=fun j hj=>by rw[dH.ext j (by omega),F0 hj]
 have yv:∀j l,μ' j=some l->Aa μ' μ2 (aG i).n (aG (i+1)).n j=some l:=fun j l hj=>by
  unfold Aa
  by_cases e1:j<(aG i).n
  ·rw[aF e1];exact hj
  ·by_cases e2:j<(aG (i+1)).n
   ·exact absurd ⟨by omega,e2⟩ (vf j l hj)
   ·rw[ar e1,ar e2];exact hj
 have yw:∀j l,μ2 j=some l->Aa μ' μ2 (aG i).n (aG (i+1)).n j=some l:=fun j l hj=>by
  have hd:=(dH.hr.cK j l hj).1
  unfold Aa
  by_cases e1:j<(aG i).n
  ·rw[aF e1,<-BS j e1];exact hj
  ·rw[ar e1,aF (by omega)];exact hj
 have hinv:∀j l,Aa μ' μ2 (aG i).n (aG (i+1)).n j=some l->(μ' j=some l)\/((aG i).n<=j/\j<(aG (i+1)).n/\μ2 j=some l):=fun j l hj=>by
  unfold Aa at hj
  split at hj
  ·exact .inl hj
  ·split at hj
   ·exact .inr ⟨by omega,by assumption,hj⟩
   ·exact .inl hj
 have qA:∀j,qx aG bh i j->iE aG bh (jH S i) N j=(aG (i+1)).h.get j:=fun j ht=>Yd5 hi ht (Zs9 T Or cr hi hS ht)
 have told:∀j l,μ' j=some l->¬j∈(bh i).wr->iE aG bh (jH S i) N j=iE aG bh S N j:=fun j l hj hnw=>T3 fun h=>h.elim hnw fun h=>vf j l hj h
 have BT:∀j l o',μ' j=some l->iE aG bh (jH S i) N j=some o'->∃o,iE aG bh S N j=some o/\(o'.wr=true->o.wr=true)/\(o'.live=true->o.live=true):=fun j l o' hj ho=>by
  by_cases hw:j∈(bh i).wr
  ·have aB:=T.OE i hi j hw
   have oL:=qz j ((mC j aB).2 hw)
   rw[qA j (.inl hw),<-cF j (.inl ⟨oL,aB⟩)]at ho
   obtain⟨o,q1,q2,q3⟩:=dH.grow j o' (by omega) ho
   exact⟨o,by rw[<-fV j l hj aB oL];exact q1,q2,q3⟩
  ·rw[told j l hj hw]at ho
   exact⟨o',ho,id,id⟩
 have T4:∀j∈ws,∀lj,vc μ' (aG i).n j=some lj->∃o,iE aG bh S N j=some o/\o.wr=true:=fun j hj lj pF=>by
  obtain⟨h1,h2⟩:=z_ pF
  obtain⟨o,q1,q2⟩:=dH.rk j hj (by omega)
  exact⟨o,by rw[<-fV j lj h2 h1 (qz j hj)];exact q1,q2⟩
 have F4:∀j l,(aG i).n<=j->μ2 j=some l->w'.heap.size<=l.b\/∃k lk,k∈ws/\k<(aG i).n/\μ' k=some lk/\lk.b=l.b/\∃o,iE aG bh S N k=some o/\o.wr=true:=fun j l hj hl=>by
  rcases dH.new j l (by omega) hl with h|⟨k,hk,tq,lk,ok,h1,h2,h3,h4⟩
  ·exact .inl h
  ·obtain⟨_,q2⟩:=z_ h1
   exact .inr ⟨k,lk,hk,by omega,q2,h2,T4 k hk lk h1⟩
 refine⟨fun j hj=>?_,fun j l hj=>?_,fun k hk T5 j h1 h2=>?_,fun j l hj=>?_,fun j k lj lk oj ok hj hk bA h1 h2 hw hl=>?_,⟨?_,fun t v hv=>?_⟩,?_,?_,fun j l BU hj=>?_⟩
 ·-- ext
  unfold Aa
  rw[aF (by omega)];exact I.ext j hj
 ·-- cK
  rcases hinv j l hj with h|⟨h1,h2,h3⟩
  ·obtain⟨d1,d2⟩:=I.cK j l h
   refine⟨d1.imp id fun ⟨k,q1,q2,q3⟩=>⟨k,q1,?_,q3⟩,dZ d2 dH.dk.size⟩
   simp only[jH];split<;>first|rfl|exact q2
  ·exact⟨.inr ⟨i,hi,by simp[jH],h1,h2⟩,(dH.hr.cK j l h3).2⟩
 ·-- full
  by_cases e:k=i
  ·subst e
   obtain⟨l,hl⟩:=dH.full j (by omega) (by omega)
   exact⟨l,yw j l hl⟩
  ·simp only[jH,e,if_false]at T5
   obtain⟨l,hl⟩:=I.full k hk T5 j h1 h2
   exact⟨l,yv j l hl⟩
 ·-- obj
  rcases hinv j l hj with h|⟨h1,h2,h3⟩
  ·by_cases hw:j∈(bh i).wr
   ·have aB:=T.OE i hi j hw
    have oL:=qz j ((mC j aB).2 hw)
    obtain⟨o,q1,q2⟩:=dH.hr.obj j l (by rw[BS j aB];exact h)
    exact⟨o,by rw[qA j (.inl hw),<-cF j (.inl ⟨oL,aB⟩)];exact q1,q2.mono yw⟩
   ·obtain⟨o,q1,q2⟩:=I.obj j l h
    refine⟨o,by rw[told j l h hw];exact q1,?_⟩
    cases hl:o.live with
    |false=>cases o<;>simp[O.live]at hl;trivial
    |true=>
     refine(q2.mono yv).congr (dH.dk.block l.b (I.cK j l h).2 fun k hk lk mm=>?_)
     obtain⟨q3,q4⟩:=z_ mm
     obtain⟨ok,q5,q6⟩:=T4 k hk lk mm
     exact I.inj k j lk l ok o q4 h (fun hc=>hw (by rw[<-hc];exact(mC k q3).1 hk)) q5 q1 q6 hl
  ·obtain⟨o,q1,q2⟩:=dH.hr.obj j l h3
   exact⟨o,by rw[qA j (.inr ⟨h1,h2⟩),<-cF j (.inr ⟨h1,h2⟩)];exact q1,q2.mono yw⟩
 ·-- inj
  have Ac:∀j k lj lk oj ok,(aG i).n<=j->j<(aG (i+1)).n->μ2 j=some lj->μ' k=some lk->iE aG bh (jH S i) N j=some oj->iE aG bh (jH S i) N k=some ok->((oj.wr=true/\ok.live=true)\/(ok.wr=true/\oj.live=true))->lj.b≠lk.b:=by
   intro j k lj lk oj ok xG ku OJ hk Bi jW Ad
   have yx:ok.live=true:=by
    rcases Ad with h|h
    ·exact h.2
    ·have:=h.1;cases ok<;>simp_all [O.wr,O.live]
   rcases F4 j lj xG OJ with h|⟨q,lq,h1,h2,h3,h4,o,h5,h6⟩
   ·have:=(I.cK k lk hk).2;omega
   ·rw[<-h4]
    by_cases e:q=k
    ·subst e
     rw[h3,ai]at hk;subst hk
     have hwq:=(mC q h2).1 h1
     rw[qA j (.inr ⟨xG,ku⟩),<-cF j (.inr ⟨xG,ku⟩)]at Bi
     rw[qA q (.inl hwq),<-cF q (.inl ⟨qz q h1,h2⟩)]at jW
     have gh:μ2 q=some lq:=by rw[BS q h2];exact h3
     exfalso
     rcases Ad with hb|hb
     ·exact dH.hr.inj j q lj lq oj ok OJ gh (by omega) Bi jW hb.1 hb.2 h4.symm
     ·exact dH.hr.inj q j lq lj ok oj gh OJ (by omega) jW Bi hb.1 hb.2 h4
    ·obtain⟨F5,g1,g2,g3⟩:=BT k lk ok hk jW
     exact I.inj q k lq lk o F5 h3 hk e h5 g1 h6 (g3 yx)
  rcases hinv j lj hj with FJ|⟨a1,a2,a3⟩
  ·rcases hinv k lk hk with ga|⟨b1,b2,b3⟩
   ·obtain⟨oj0,g1,g2,g3⟩:=BT j lj oj FJ h1
    obtain⟨F5,g4,g5,g6⟩:=BT k lk ok ga h2
    exact I.inj j k lj lk oj0 F5 FJ ga bA g1 g4 (g2 hw) (g6 hl)
   ·exact(Ac k j lk lj ok oj b1 b2 b3 FJ h2 h1 (.inr ⟨hw,hl⟩)).symm
  ·rcases hinv k lk hk with ga|⟨b1,b2,b3⟩
   ·exact Ac j k lj lk oj ok a1 a2 a3 ga h1 h2 (.inl ⟨hw,hl⟩)
   ·rw[qA j (.inr ⟨a1,a2⟩),<-cF j (.inr ⟨a1,a2⟩)]at h1
    rw[qA k (.inr ⟨b1,b2⟩),<-cF k (.inr ⟨b1,b2⟩)]at h2
    exact dH.hr.inj j k lj lk oj ok a3 b3 bA h1 h2 hw hl
 ·-- fg temporaries' count
  cases hd:ds i<;>simp[Act.put,I.qt.1]
 ·-- fg temporaries
  by_cases ht:ds i=some t
  ·rw[Yd4 Pu hi ht (Ydm Or cr ks hi hS ht),ai]at hv
   subst hv
   refine⟨x,?_,VR.mono yw _ _ hx⟩
   rw[ht]
   simp[Act.put,I.qt.1,pL t ht]
  ·rw[T6 ht]at hv
   obtain⟨y,q1,q2⟩:=I.qt.2 t v hv
   refine⟨y,?_,VR.mono yv _ _ q2⟩
   cases hd:ds i with
   |none=>simpa[Act.put]using q1
   |some d=>
    have:d≠t:=fun hc=>ht (by rw[hd,hc])
    simp only[Act.put]
    rw[DM this];exact q1
 ·-- fg marks
  have:(a'.put (ds i) x).defers=a'.defers:=by cases ds i<;>rfl
  rw[this];exact I.defs.mono yv
 ·-- fg frame
  refine⟨dH.dk.os.trans I.dk.os,dH.dk.tape.trans I.dk.tape,dH.dk.output.trans I.dk.output,lS I.dk.size dH.dk.size,fun b hb cM=>?_⟩
  rw[dH.dk.block b (dZ hb I.dk.size) fun j hj lj pF=>?_,I.dk.block b hb cM]
  obtain⟨q1,q2⟩:=z_ pF
  by_cases e:j<(aG 0).n
  ·exact cM j (hW i hi j ((mC j q1).1 hj)) lj (by rw[<-I.ext j e];exact q2)
  ·rcases I.new j lj (by omega) q2 with h|⟨k,hk,_,lk,_,h3,h4,_⟩
   ·omega
   ·rw[<-h4];exact cM k hk lk h3
 ·-- new ids
  rcases hinv j l hj with h|⟨h1,h2,h3⟩
  ·exact I.new j l BU h
  ·rcases F4 j l h1 h3 with h|⟨q,lq,q1,q2,q3,q4,o,q5,q6⟩
   ·exact .inl (lS I.dk.size h)
   ·by_cases e:q<(aG 0).n
    ·have hqW:=hW i hi q ((mC q q2).1 q1)
     obtain⟨oi,g1,g2⟩:=T.rk i hi q ((mC q q2).1 q1)
     obtain⟨o0,g3,g4⟩:=T.Ab (by omega) e g1 g2
     exact .inr ⟨q,hqW,e,lq,o0,by rw[<-I.ext q e];exact q3,q4,g3,g4⟩
    ·rcases I.new q lq (by omega) q3 with h|⟨k,hk,g1,lk,ok,g2,g3,g4⟩
     ·exact .inl (by omega)
     ·exact .inr ⟨k,hk,g1,lk,ok,g2,g3.trans q4,g4⟩
end
section
variable {P:Program} {μ:Mu} {w:World} {st av:St} {fr bE:Fr} {a:Act} {call:cA} {v:V} {lb:Option Nat}
theorem Zyl:∀(l:List Nat) (n j:Nat),j<n->(j∈au n l↔j∈l):=by
 intro l n i hi
 induction l with
 |nil=>simp[au]
 |cons j l ih=>
  simp only[au]
  split
  ·unfold qo
   split
   ·rename_i hc
    simp only[jN,ih]
    simp only[JG]at hc
    constructor
    ·exact .inr
    ·rintro(rfl|h)
     ·exact ih.1 hc
     ·exact h
   ·simp only[jN,ih]
  ·simp only[jN,ih]
   constructor
   ·exact .inr
   ·rintro(rfl|h)
    ·omega
    ·exact h
theorem Yg3(bQ:ik P call)(hE:pr P){ops:Array Oper}{Q:Exit->Act->World->Prop}{aG:Nat->St}{bp:Nat->Fr}{vI:Nat->V}{bh:Nat->FP}{S:Nat->Bool}{W:List Nat}{μ':Mu}{a':Act}{w':World}
  (h0:bm P μ w (aG 0)) (hs:∀i o,ops[i]?=some o->vg P call ops o (aG i) (bp i) (vI i) (bh i) (aG (i+1)) (bp (i+1)))
  (T:qw P μ aG bp bh ops.size) {ds:Nat->Option Nat} {mo:Nat->du} (Ae:∀i o,ops[i]?=some o->mo i=m_ P ops o) (ks:∀k,k<ops.size->ds k=(mo k).dst) (Pu:BR bp ds vI ops.size)
  {jf:Nat->Nat->Prop} (Or:Ord bh mo ops.size jf) (I:Inv P μ w aG bp bh ds ops.size W S μ' a' w') (cr:∀k,S k=true->∀i,jf k i->S i=true) (hW:∀k,k<ops.size->∀j∈(bh k).wr,j∈W)
  (vi:∀i,i<ops.size->∀ds,lY μ' (bp 0).marks ds->lY (vc μ' (aG i).n) (bp 0).marks ds)
  {i:Nat} (hi:i<ops.size) (hS:S i=false) (hb:∀j,jf i j->S j=true) {K:Act->World->Prop}
  (hK:∀μ2 a2 w2,Inv P μ w aG bp bh ds ops.size W (jH S i) μ2 a2 w2->K a2 w2):wpOpIn (FE lb) 0 P ops Q i K a' w':=by
 have ho:ops[i]?=some ops[i]:=Array.getElem?_eq_getElem hi
 obtain⟨g,b,hg,hw,hp,ht,F6⟩:=hs i _ ho
 have hmi:=Ae i _ ho
 have BV:mo i=⟨ops[i].dst,uE P ops[i].op,g⟩:=by rw[hmi];unfold m_;rw[hg]
 have gD:ds i=ops[i].dst:=by rw[ks i hi,BV]
 have BW:∀s∈(uE P ops[i].op).yh,∀t∈s.tmps,t∈(mo i).reads:=fun s hs t ht=>by
  rw[BV];simp only[du.reads,pw,List.mem_flatMap];exact .inr ⟨s,hs,ht⟩
 have T7:=Yhw T Pu I Or cr ks hi hS hb
 have rF:bP (ve (bp i).r (mo i).reads) g=bP (bp i).r g:=by
  cases g with
  |none=>rfl
  |some p=>
   obtain⟨t,want⟩:=p
   simp only[bP]
   rw[F3,aF (by rw[BV];simp[du.reads])]
 have pL:∀d,ds i=some d->d<(bp 0).n:=fun d hd=>by
  rw[gD]at hd
  rw[hd]at hp
  simp only[Fr.put]at hp
  split at hp
  ·rename_i aB;rw[<-(T.fn i (by omega)).1];exact aB
  ·cases hp
 unfold wpOpIn
 rw[ho]
 simp only[]
 have T8:Region.wanted ops[i] (yielded ops a'.tmps)=b:=T9 (fr:={r:=ve (bp i).r (mo i).reads,n:=(bp 0).n,marks:=[]}) (a:=a') T7 hg (by rw[rF];exact hw)
 cases b with
 |true=>
  rw[aF T8]
  obtain⟨s',hm,gn,F7⟩:=ht rfl
  obtain⟨σ,σ',k1,k2,k3,k4,k5,k6,k7,k8,k9⟩:=Ygy (ws:=au (aG i).n s'.w) (lo:=(aG i).n) (hi:=s'.n) hm rfl
  rw[<-F7]at k6 k7 k8 k9
  obtain⟨oM,fV⟩:=T1 h0 T I Or cr hi hS hb k1 k6 k7
  have tL:jI (vc μ' (aG i).n) {r:=ve (bp i).r (mo i).reads,n:=(bp 0).n,marks:=(bp 0).marks} a':=⟨T7,vi i hi _ I.defs⟩
  have hm2:bZ (uE P ops[i].op) call (ve (bp i).r (mo i).reads) σ=some (vI i,σ'):=by
   rw[Yb6 (r':=(bp i).r) fun s hs=>Ymo (BW s hs)];exact k3
  refine OK bQ hE oM tL hm2 fun x w2 μ2 ws hv dH=>?_
  have mC:ws=s'.w:=by
   have:=dH.wl
   rw[k2,k5,sJ]at this
   exact this.symm
  have rb:(aG (i+1)).n=s'.n:=by rw[gn]
  have hh':(aG (i+1)).h=s'.h:=by rw[gn]
  have hinv:=T2 h0 T Pu I Or cr ks hW hi hS pL oM fV k1 (by rw[k4,rb]) dH (fun j hj=>by
   rw[mC,F7,(OL (call:=call) hm _ _).1]
   exact(Zyl _ _ _ hj).symm) (fun j hj=>k9 j (by rw[<-mC];exact hj)) (fun j hj=>by rw[hh'];exact k8 j (by rw[rb]at hj;exact hj)) hv
  rw[gD]at hinv
  exact hK _ _ _ hinv
 |false=>
  rw[ar (by rw[T8];simp)]
  obtain⟨hv,gn,F7⟩:=F6 rfl
  refine⟨fun _ _=>trivial,?_⟩
  have qz:∀j,¬(bh i).cU j:=fun j=>by rw[F7];simp[FP.cU]
  obtain⟨oM,fV⟩:=T1 (σ:=⟨nA (aG i).h [] (aG i).n,(aG i).n,[]⟩) h0 T I Or cr hi hS hb rfl (fun j _ hj=>absurd hj (qz j)) (fun j hj _=>by
   show (nA (aG i).h [] (aG i).n).get j=_
   rw[Ee,aF hj];simp)
  have rb:(aG (i+1)).n=(aG i).n:=by rw[gn]
  have:=T2 (x:=undef) (ws:=[]) (σ':=⟨nA (aG i).h [] (aG i).n,(aG i).n,[]⟩) h0 T Pu I Or cr ks hW hi hS pL oM fV rfl rb.symm (bB.refl oM) (fun j hj=>by rw[F7]) (fun j hj=>by simp at hj) (fun j hj=>by
   rcases hj with⟨h,_⟩|⟨h1,h2⟩
   ·exact absurd h (qz j)
   ·omega) (by rw[hv];exact⟨[],rfl,by simp[aW]⟩)
  rw[gD]at this
  exact hK _ _ _ this
theorem Ua:∀{os:List Oper} {b:Nat},DL b os=true->∀i o,os[i]?=some o->∀e∈o.after,Region.binds .any e=true->e.on<b+i
 |[],b,_,i,o,h,_,_,_=>by simp at h
 |o0::os,b,h,i,o,ho,e,he,hb=>by
  simp only[DL,iB]at h
  cases i with
  |zero=>
   simp only[wM,ai]at ho
   subst ho
   have h1:=h.1
   rw[N6]at h1
   have:=h1 e he
   rw[hb]at this
   simpa[Nat.blt_eq]using this
  |succ i=>
   have:=Ua h.2 i o (by simpa using ho) e he hb
   omega
theorem Zzu{ops:Array Oper}(he:DL 0 ops.toList=true){listed:Array Bool}(iz:listed.size=ops.size)(hr:Region.ready .any ops listed=[]):∀k,k<ops.size->listed.getD k false=true:=by
 intro k
 induction k using Nat.strongRecOn with
 |_ k ih=>
  intro hk
  refine Classical.byContradiction fun hn=>?_
  have yy:k∈Region.ready .any ops listed:=by
   unfold Region.ready
   simp only[List.mem_filter,wm,iB,Bo]
   refine⟨hk,?_,?_⟩
   ·have mm:k<listed.size:=by omega
    simp only[Array.getD,mm,dif_pos]at hn ⊢
    simpa using hn
   ·have ho:ops[k]?=some ops[k]:=Array.getElem?_eq_getElem hk
    rw[ho]
    simp only[wE,og,N6,Bq,Bo]
    intro e F8
    cases hb:Region.binds .any e with
    |false=>exact .inl rfl
    |true=>
     have:=Ua he k ops[k] (by rw[uI];exact ho) e F8 hb
     exact .inr (ih e.on (by omega) (by omega))
  rw[hr]at yy
  cases yy
theorem Yd2{p q:Nat->Bool}{i:Nat}(hp:p i=true)(hq:q i=false)(ho:∀k,k≠i->q k=p k):∀N,i<N->(List.range N).countP q+1=(List.range N).countP p:=by
 have same:∀N,N<=i->(List.range N).countP q=(List.range N).countP p:=by
  intro N
  induction N with
  |zero=>intro _;rfl
  |succ N ih=>
   intro h
   rw[List.range_succ,List.countP_append,List.countP_append,ih (by omega)]
   simp[ho N (by omega)]
 intro N
 induction N with
 |zero=>intro h;omega
 |succ N ih=>
  intro h
  rw[List.range_succ,List.countP_append,List.countP_append]
  by_cases e:N=i
  ·subst e
   rw[same N (aV _)]
   simp[hp,hq]
  ·have:=ih (by omega)
   simp only[List.countP_singleton,ho N e]
   omega
end
section
variable {P:Program} {μ:Mu} {w:World} {st av:St} {fr bE:Fr} {a:Act} {call:cA} {v:V} {lb:Option Nat}
theorem Yie{listed:Array Bool}{i:Nat}(hi:i<listed.size):(fun k=>(listed.setIfInBounds i true).getD k false)=jH (fun k=>listed.getD k false) i:=by
 funext k
 simp only[jH,Bk]
 by_cases e:k=i
 ·subst e;simp[hi]
 ·rw[DM (Ne.symm e),ar e]
theorem Ypi(bQ:ik P call)(hE:pr P){ops:Array Oper}{Q:Exit->Act->World->Prop}{aG:Nat->St}{bp:Nat->Fr}{vI:Nat->V}{bh:Nat->FP}{W:List Nat}
  (h0:bm P μ w (aG 0)) (hs:∀i o,ops[i]?=some o->vg P call ops o (aG i) (bp i) (vI i) (bh i) (aG (i+1)) (bp (i+1)))
  (T:qw P μ aG bp bh ops.size) {ds:Nat->Option Nat} {mo:Nat->du} (Ae:∀i o,ops[i]?=some o->mo i=m_ P ops o) (ks:∀k,k<ops.size->ds k=(mo k).dst) (Pu:BR bp ds vI ops.size)
  (Or:Ord bh mo ops.size (fun k i=>((qi ops.toList []).getD k 0).testBit i=true)) (hW:∀k,k<ops.size->∀j∈(bh k).wr,j∈W) (vj:DL 0 ops.toList=true)
  (vi:∀μ',(∀j,j<(aG 0).n->μ' j=μ j)->∀i,i<ops.size->∀ds,lY μ' (bp 0).marks ds->lY (vc μ' (aG i).n) (bp 0).marks ds)
  (hQ:∀S μ' a' w',(∀k,k<ops.size->S k=true)->Inv P μ w aG bp bh ds ops.size W S μ' a' w'->Q .normal a' w'):
  ∀(fuel:Nat) (listed:Array Bool) (μ':Mu) (a':Act) (w':World),listed.size=ops.size->(List.range ops.size).countP (fun k=>!listed.getD k false)=fuel->
   (Ub ops fun k=>listed.getD k false=true)->Inv P μ w aG bp bh ds ops.size W (fun k=>listed.getD k false) μ' a' w'->wpAnyIn (FE lb) 0 P .any ops Q fuel listed a' w':=by
 intro fuel
 induction fuel with
 |zero=>
  intro listed μ' a' w' iz hc cr I
  have F9:∀k,k<ops.size->listed.getD k false=true:=fun k hk=>by
   rw[List.countP_eq_zero]at hc
   have:=hc k (wm.2 hk)
   simpa using this
  refine⟨?_,hQ _ μ' a' w' F9 I⟩
  refine List.eq_nil_iff_forall_not_mem.2 fun j hj=>?_
  obtain⟨h1,h2,_⟩:=Uc cr hj
  have:=F9 j h1
  simp only[Bk]at h2 this
  have ku:j<listed.size:=by omega
  simp[ku]at h2 this
  rw[h2]at this;cases this
 |succ fuel ih=>
  intro listed μ' a' w' iz hc cr I
  refine⟨fun hr=>hQ _ μ' a' w' (Zzu vj iz hr) I,fun i hi=>?_⟩
  obtain⟨h1,h2,h3⟩:=Uc cr hi
  have A9:i<listed.size:=by omega
  have Ud:listed.getD i false=false:=by
   simp only[Bk]at h2 ⊢
   simp[A9]at h2 ⊢
   exact h2
  refine Yg3 (S:=fun k=>listed.getD k false) bQ hE h0 hs T Ae ks Pu Or I (fun k hk i hb=>cr k i hk hb) hW (vi μ' I.ext) h1 Ud h3 fun μ2 a2 w2 I2=>?_
  have kv:=Yie (listed:=listed) A9
  refine ih (listed.setIfInBounds i true) μ2 a2 w2 (by simp[iz]) ?_ ?_ (by rw[kv];exact I2)
  ·have:=Yd2 (p:=fun k=>!listed.getD k false) (q:=fun k=>!(listed.setIfInBounds i true).getD k false) (i:=i) (by simp[Ud]) (by
    have:=congrFun kv i
    simp only[this];simp[jH]) (fun k hk=>by
    have:=congrFun kv k
    simp only[this];simp[jH,hk]) ops.size h1
   omega
  ·intro k j hk hb
   have e1:=congrFun kv k
   have e2:=congrFun kv j
   simp only[e1,e2,jH]at hk ⊢
   by_cases ej:j=i
   ·rw[aF ej]
   ·rw[ar ej]
    by_cases ek:k=i
    ·subst ek;exact h3 j hb
    ·rw[ar ek]at hk;exact cr k j hk hb
theorem lY.Ga{μ μ' μ2:Mu}{n:Nat}(hd:∀i l,μ i=some l->i<n)(h:∀i l,i<n->μ' i=some l->μ2 i=some l):∀{ms:List Nat} {ds Af:List Deferred},lY μ ms ds->lY μ' ms Af->lY μ2 ms Af
 |[],_,_,_,h2=>h2
 |m::ms,_,_,⟨l,_,h1,_,h3⟩,⟨l',d',g1,g2,g3⟩=>⟨l',d',h m l' (hd m l h1) g1,g2,lY.Ga hd h h3 g3⟩
theorem Ue{aG:Nat->St}{bp:Nat->Fr}{bh:Nat->FP}{N:Nat}(T:qw P μ aG bp bh N)(j:Nat):∀i,i<=N->(aG 0).n<=j->j<(aG i).n->∃k,k<i/\(aG k).n<=j/\j<(aG (k+1)).n
 |0,_,h1,h2=>by omega
 |i+1,hi,h1,h2=>by
  by_cases e:j<(aG i).n
  ·obtain⟨k,a1,a2⟩:=Ue T j i (by omega) h1 e
   exact⟨k,by omega,a2⟩
  ·exact⟨i,by omega,by omega,h2⟩
theorem Uf{aG:Nat->St}{bp:Nat->Fr}{bh:Nat->FP}{N:Nat}(T:qw P μ aG bp bh N):∀i,i<=N->∃Wi,(aG i).w=Wi++(aG 0).w/\∀k,k<i->∀j∈(bh k).wr,j∈Wi
 |0,_=>⟨[],rfl,fun k hk=>by omega⟩
 |i+1,hi=>by
  obtain⟨Wi,h1,h2⟩:=Uf T i (by omega)
  refine⟨(bh i).wr++Wi,by rw[T.wl i (by omega),h1,nT],fun k hk j hj=>?_⟩
  by_cases e:k=i
  ·subst e;simp[hj]
  ·simp[h2 k (by omega) j hj]
theorem Ug(hm:P.follows .mixedOrders=true)(hE:pr P)(bQ:ik P call):Uh P call:=by
 intro id ops fr st ex bE av hp h μ w a lb hh hf
 unfold NX at hp
 simp only[iB]at hp
 obtain⟨vj,hpt⟩:=hp
 unfold uT at h
 split at h
 ·rename_i fT dw bR bI
  split at h
  ·rename_i Gb
   simp only[ai,bo]at h
   obtain⟨rfl,rfl,rfl⟩:=h
   obtain⟨aG,bp,vI,bh,e1,e2,e3,e4,e5,hs⟩:=Ui ops.toList fr st fT dw bR bI
   subst e1 e2
   have hN:ops.toList.length=ops.size:=by simp
   rw[hN]at e3 e4 e5
   have im:∀i o,ops[i]?=some o->vg P call ops o (aG i) (bp i) (vI i) (bh i) (aG (i+1)) (bp (i+1)):=fun i o ho=>(hs i o (by rw[uI];exact ho)).2
   have T:=Yns bQ hE hN hh hf fun i o ho=>(hs i o ho).2
   let mo:Nat->du:=fun i=>match ops[i]? with|some o=>m_ P ops o|none=>⟨none,.stop,none⟩
   have Ae:∀i o,ops[i]?=some o->mo i=m_ P ops o:=fun i o ho=>by simp only[mo,ho]
   have ON:∀i o,ops[i]?=some o->(mo i).dst=o.dst:=fun i o ho=>by rw[Ae i o ho];unfold m_;split<;>rfl
   have cF:∀i,i<ops.size->ops[i]?=some (ops[i]!):=fun i hi=>by simp[hi]
   have Pu:BR bp (fun k=>(mo k).dst) vI ops.size:=fun i hi t=>by
    obtain⟨g,b,_,_,hp,_⟩:=im i _ (cF i hi)
    show (bp (i+1)).r.get t=if (mo i).dst=some t then some (vI i) else (bp i).r.get t
    rw[ON i _ (cF i hi)]
    cases hd:(ops[i]!).dst with
    |none=>rw[hd]at hp;simp only[Fr.put,ai]at hp;rw[<-hp];simp
    |some d=>
     rw[hd]at hp
     simp only[Fr.put]at hp
     split at hp
     ·simp only[ai]at hp
      rw[<-hp,Go.Mx.T.ah]
      by_cases e:t=d
      ·subst e;simp
      ·rw[ar e,ar (by simp[Ne.symm e])]
     ·cases hp
   have Or:Ord bh mo ops.size (fun k i=>((qi ops.toList []).getD k 0).testBit i=true):=by
    refine⟨fun i k OO hk=>?_,fun i k OO hk=>?_⟩
    ·exact Uj Gb OO ((hs i _ (by rw[uI];exact cF i (by omega))).1) ((hs k _ (by rw[uI];exact cF k hk)).1)
    ·refine Uj hpt OO ?_ ?_
     ·rw[iX,uI,cF i (by omega),wE,Ae i _ (cF i (by omega))]
     ·rw[iX,uI,cF k hk,wE,Ae k _ (cF k hk)]
   obtain⟨W,JZ,eN⟩:=Uf T ops.size (aV _)
   obtain⟨wT,μT,aT,OP,J0,hT2⟩:=Uk bQ hE hN hh hf (fun i o ho=>(hs i o ho).2) ops.size (aV _)
   have OQ:OP=W:=List.append_cancel_right (J0.wl.symm.trans JZ)
   subst OQ
   have vk:∀k,(Array.replicate ops.size false).getD k false=false:=fun k=>by
    simp only[Bk]
    by_cases hk:k<ops.size
    ·simp[hk]
    ·simp[hk]
   have Ul:∀M j,iE aG bh (fun k=>(Array.replicate ops.size false).getD k false) M j=(aG 0).h.get j:=fun M j=>JX (i:=0) (pC _) fun k _ _ _=>vk k
   have hcR:∀M t,qu bp (fun k=>(mo k).dst) (fun k=>(Array.replicate ops.size false).getD k false) M t=(bp 0).r.get t:=fun M t=>JY (i:=0) (pC _) fun k _ _ _=>vk k
   have I0:Inv P μ w aG bp bh (fun k=>(mo k).dst) ops.size OP (fun k=>(Array.replicate ops.size false).getD k false) μ a {w with drawn:=w.drawn+1}:=by
    refine⟨fun _ _=>rfl,fun j l hj=>⟨.inl (hh.cK j l hj).1,(hh.cK j l hj).2⟩,fun k _ hk=>?_,fun j l hj=>?_,fun i j l l' o o' h1 h2 h3 h4 h5=>?_,⟨hf.1.1,fun t v hv=>?_⟩,hf.2,⟨rfl,rfl,rfl,aV _,fun _ _ _=>rfl⟩,fun i l h1 h2=>absurd (hh.cK i l h2).1 (by omega)⟩
    ·rw[vk k]at hk;cases hk
    ·obtain⟨o,q1,q2⟩:=hh.obj j l hj
     exact⟨o,by rw[Ul];exact q1,OM.congr (w:=w) rfl q2⟩
    ·rw[Ul]at h4 h5
     exact hh.inj i j l l' o o' h1 h2 h3 h4 h5
    ·rw[hcR]at hv
     exact hf.1.2 t v hv
   refine wpIn_region_any hm (Ypi bQ hE hh im T Ae (fun _ _=>rfl) Pu Or eN vj ?_ ?_ ops.size _ μ a _ (by simp) ?_ ?_ I0)
   ·intro μ' qC i hi ds ks
    exact lY.Ga (n:=(aG 0).n) (fun j l hj=>(hh.cK j l hj).1) (fun j l hj hl=>by
     have:=T.mono (i:=0) (k:=i) (by omega) (by omega)
     rw[F0 (by omega)];exact hl) hf.2 ks
   ·intro S μ' a' w' hS I
    have OR:∀j,j<(aG ops.size).n->iE aG bh S ops.size j=(aG ops.size).h.get j:=fun j hj=>OH T (aV _) hj fun k hk _=>hS k hk
    have hfR:∀t,qu bp (fun k=>(mo k).dst) S ops.size t=(bp ops.size).r.get t:=fun t=>OI Pu (aV _) fun k hk _=>hS k hk
    have yz:∀j l,μ' j=some l->j<(aG ops.size).n:=fun j l hj=>by
     rcases(I.cK j l hj).1 with h|⟨k,h1,_,_,h2⟩
     ·have:=T.mono (i:=0) (k:=ops.size) (by omega) (by omega);omega
     ·have:=T.mono (i:=k+1) (k:=ops.size) (by omega) (by omega);omega
    rw[<-e3,<-e4]
    refine⟨rfl,μ',OP,⟨⟨fun j l hj=>⟨yz j l hj,(I.cK j l hj).2⟩,fun j l hj=>?_,fun i j l l' o o' h1 h2 h3 h4 h5=>?_,fun g hg=>?_⟩,I.ext,T.mono (pC _) (aV _),JZ,I.dk,I.new,J0.ad,J0.grow,fun j h1 h2=>?_,J0.rk⟩,⟨?_,fun t v hv=>?_⟩,?_⟩
    ·obtain⟨o,q1,q2⟩:=I.obj j l hj
     exact⟨o,by rw[<-OR j (yz j l hj)];exact q1,q2⟩
    ·exact I.inj i j l l' o o' h1 h2 h3 (by rw[OR i (yz i l h1)];exact h4) (by rw[OR j (yz j l' h2)];exact h5)
    ·obtain⟨t,ht⟩:=hh.fE g hg
     exact⟨t,by rw[I.ext g (hh.cK g _ ht).1];exact ht⟩
    ·obtain⟨k,q1,q2,q3⟩:=Ue T j ops.size (aV _) h1 h2
     exact I.full k q1 (hS k q1) j q2 q3
    ·rw[(T.fn ops.size (aV _)).1];exact I.qt.1
    ·exact I.qt.2 t v (by rw[hfR];exact hv)
    ·rw[(T.fn ops.size (aV _)).2];exact I.defs
   ·have:(fun k=>!(Array.replicate ops.size false).getD k false)=fun _=>true:=by funext k;rw[vk];rfl
    rw[this];simp
   ·intro k i hk
    rw[vk k]at hk;cases hk
  ·cases h
 ·cases h
end
end Go.Mx
