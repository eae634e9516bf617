/-A region that draws its order-/
import Derived.Test.YtlbnjhhebffhdaaGreatDoorMxLoc
set_option linter.all false
namespace Go.Mx
open Go
structure Inv (P:Program) (μ:Mu) (w:World) (stI:Nat->St) (bI:Nat->Fr) (bu:Nat->FP) (ds:Nat->Option Nat) (N:Nat) (W:List Nat) (S:Nat->Bool) (μ':Mu) (a':Act) (w':World):Prop where
 ext:∀j,j<(stI 0).n->μ' j=μ j
 dom:∀j l,μ' j=some l->(j<(stI 0).n\/∃k,k<N/\S k=true/\(stI k).n<=j/\j<(stI (k+1)).n)/\l.b<w'.heap.size
 full:∀k,k<N->S k=true->∀j,(stI k).n<=j->j<(stI (k+1)).n->∃l,μ' j=some l
 obj:∀j l,μ' j=some l->∃o,jn stI bu S N j=some o/\OM P μ' w' o l
 inj:∀i j l l' o o',μ' i=some l->μ' j=some l'->i≠j->jn stI bu S N i=some o->jn stI bu S N j=some o'->o.wr=true->o'.live=true->l.b≠l'.b
 uz:a'.tmps.size=(bI 0).n/\∀t v,uA bI ds S N t=some v->∃x,a'.tmps[t]?=some x/\VR μ' v x
 defs:oP μ' (bI 0).marks a'.defers
 eC:NQ μ W w w'
 new:∀i l,(stI 0).n<=i->μ' i=some l->w.heap.size<=l.b\/∃j∈W,j<(stI 0).n/\∃lj oj,μ j=some lj/\lj.b=l.b/\(stI 0).h.get j=some oj/\oj.wr=true
structure Ord (bu:Nat->FP) (mo:Nat->du) (N:Nat) (ki:Nat->Nat->Prop):Prop where
 free:∀i k,i<k->k<N->ki k i\/FP.free (bu i) (bu k)=true
 tmp:∀i k,i<k->k<N->ki k i\/S8 (mo i) (mo k)=true
section
variable {P:Program} {μ μ':Mu} {w w':World} {stI:Nat->St} {bI:Nat->Fr} {bu:Nat->FP} {ds:Nat->Option Nat} {S:Nat->Bool} {N:Nat} {W:List Nat} {a a':Act} {mo:Nat->du} {ki:Nat->Nat->Prop}
def uB.mono(T:uB P μ stI bI bu N):∀{i k:Nat},i<=k->k<=N->(stI i).n<=(stI k).n
 |i,0,h,_=>by rw[Nat.le_zero.1 h];exact Yv5 _
 |i,k+1,h,hk=>by
  by_cases e:i=k+1
  ·rw[e];exact Yv5 _
  ·exact p9 (T.mono (i:=i) (k:=k) (by omega) (by omega)) (T.gW k (by omega))
def Tt{a b:FP}(h:FP.free a b=true):(∀j∈a.wr,¬b.dq j)/\(∀j∈a.wr,j∉b.wr)/\(∀j∈b.wr,¬a.dq j)/\∀j∈b.wr,¬(a.lo<=j/\j<a.hi):=by
 unfold FP.free at h
 simp only[IE,Bool.or_eq_false_iff]at h
 obtain⟨⟨⟨h1,h2⟩,h3⟩,h4⟩:=h
 have key:∀(l:List Nat) (o:Option (List Nat)),I6 l o=false->∀j∈l,¬(match o with|none=>True|some q=>j∈q):=by
  intro l o h j hj
  cases o with
  |none=>
   simp only[I6,Bool.not_eq_false',List.isEmpty_iff]at h
   subst h;simp at hj
  |some q=>
   simp only[I6,List.any_eq_false,Tc]at h
   exact h j hj
 refine⟨fun j hj=>?_,fun j hj=>?_,fun j hj=>?_,fun j hj=>?_⟩
 ·have:=key _ _ h1 j hj
  unfold FP.dq
  exact this
 ·exact key _ _ h2 j hj
 ·have:=key _ _ h3 j hj
  unfold FP.dq
  exact this
 ·simp only[List.any_eq_false]at h4
  have:=h4 j hj
  intro hc
  apply this
  simp[Nat.ble_eq,Nat.blt_eq,hc.1,hc.2]
def Zy2(T:uB P μ stI bI bu N)(I:Inv P μ w stI bI bu ds N W S μ' a' w')(Or:Ord bu mo N ki)(dW:∀k,S k=true->∀i,ki k i->S i=true){i:Nat}(hi:i<N)(hS:S i=false)(hb:∀j,ki i j->S j=true)
  {j:Nat} {l:L} (hj:μ' j=some l) (aW:j<(stI i).n) (hs:(bu i).dq j):
  (∀k,k<i->uC stI bu k j->S k=true)/\(∀k,i<=k->k<N->uC stI bu k j->S k=false):=by
 refine⟨fun k hk ht=>?_,fun k hk Ci ht=>?_⟩
 ·rcases ht with ht|⟨h1,h2⟩
  ·rcases Or.free k i hk hi with h|h
   ·exact hb k h
   ·exact absurd hs ((Tt h).1 j ht)
  ·rcases(I.dom j l hj).1 with h0|⟨k',h3,h4,h5,h6⟩
   ·have:=T.mono (i:=0) (k:=k) (by omega) (by omega)
    omega
   ·have:k'=k:=by
     rcases Nat.lt_trichotomy k k' with h|h|h
     ·have:=T.mono (i:=k+1) (k:=k') (by omega) (by omega);omega
     ·exact h.symm
     ·have:=T.mono (i:=k'+1) (k:=k) (by omega) (by omega);omega
    subst this;exact h4
 ·by_cases e:k=i
  ·rw[e];exact hS
  ·rcases ht with ht|⟨h1,h2⟩
   ·rcases Or.free i k (by omega) Ci with h|h
    ·cases hq:S k with
     |false=>rfl
     |true=>rw[dW k hq i h]at hS;cases hS
    ·exact absurd hs ((Tt h).2.2.1 j ht)
   ·have:=T.mono (i:=i) (k:=k) hk (by omega)
    omega
def Zt1(T:uB P μ stI bI bu N)(Or:Ord bu mo N ki)(dW:∀k,S k=true->∀i,ki k i->S i=true){i:Nat}(hi:i<N)(hS:S i=false)
  {j:Nat} (ht:uC stI bu i j):∀k,i<k->k<N->uC stI bu k j->S k=false:=by
 intro k hk Ci jZ
 have Oj:=Or.free i k hk Ci
 have hno:ki k i->S k=false:=fun h=>by
  cases hq:S k with
  |false=>rfl
  |true=>rw[dW k hq i h]at hS;cases hS
 rcases Oj with h|h
 ·exact hno h
 ·exfalso
  have hm:=T.mono (i:=i+1) (k:=k) (by omega) (by omega)
  have uD:=T.gW i hi
  rcases ht with ht|⟨h1,h2⟩
  ·rcases jZ with jZ|⟨h3,h4⟩
   ·exact(Tt h).2.1 j ht jZ
   ·have:=T.wlt i hi j ht;omega
  ·rcases jZ with jZ|⟨h3,h4⟩
   ·refine(Tt h).2.2.2 j jZ ⟨?_,?_⟩
    ·rw[T.lo i hi];exact h1
    ·rw[T.hi i hi];exact h2
   ·omega
def Zn7{d:Option Nat}{l:List Nat}(h:Od d l=false):∀t,d=some t->t∉l:=by
 intro t ht hm
 subst ht
 simp only[Od]at h
 have:l.contains t=true:=Tc.2 hm
 rw[this]at h;cases h
def Zjz{a b:du}(h:S8 a b=true):(∀t,a.dst=some t->t∉b.reads)/\(∀t,b.dst=some t->t∉a.reads)/\∀t,a.dst=some t->b.dst≠some t:=by
 unfold S8 at h
 simp only[IE,Bool.or_eq_false_iff]at h
 obtain⟨⟨h1,h2⟩,h3⟩:=h
 exact⟨Zn7 h1,Zn7 h2,fun t ht hb=>Zn7 h3 t ht (by rw[hb];simp)⟩
def Zy6(Or:Ord bu mo N ki)(dW:∀k,S k=true->∀i,ki k i->S i=true)(hds:∀k,k<N->ds k=(mo k).dst){i:Nat}(hi:i<N)(hS:S i=false)(hb:∀j,ki i j->S j=true)
  {t:Nat} (ht:t∈(mo i).reads):(∀k,k<i->ds k=some t->S k=true)/\(∀k,i<=k->k<N->ds k=some t->S k=false):=by
 refine⟨fun k hk hd=>?_,fun k hk Ci hd=>?_⟩
 ·rcases Or.tmp k i hk hi with h|h
  ·exact hb k h
  ·rw[hds k (by omega)]at hd
   exact absurd ht ((Zjz h).1 t hd)
 ·by_cases e:k=i
  ·rw[e];exact hS
  ·rcases Or.tmp i k (by omega) Ci with h|h
   ·cases hq:S k with
    |false=>rfl
    |true=>rw[dW k hq i h]at hS;cases hS
   ·rw[hds k Ci]at hd
    exact absurd ht ((Zjz h).2.1 t hd)
def Yfh(Or:Ord bu mo N ki)(dW:∀k,S k=true->∀i,ki k i->S i=true)(hds:∀k,k<N->ds k=(mo k).dst){i:Nat}(hi:i<N)(hS:S i=false)
  {t:Nat} (ht:ds i=some t):∀k,i<k->k<N->ds k=some t->S k=false:=by
 intro k hk Ci hd
 rcases Or.tmp i k hk Ci with h|h
 ·cases hq:S k with
  |false=>rfl
  |true=>rw[dW k hq i h]at hS;cases hS
 ·rw[hds i hi]at ht
  rw[hds k Ci]at hd
  exact absurd hd ((Zjz h).2.2 t ht)
end
section
variable {P:Program} {μ μ':Mu} {w w':World} {stI:Nat->St} {bI:Nat->Fr} {bu:Nat->FP} {ds:Nat->Option Nat} {S:Nat->Bool} {N:Nat} {W:List Nat} {a a':Act} {mo:Nat->du} {ki:Nat->Nat->Prop}
def zv(μ':Mu)(n:Nat):Mu:=fun j=>if j<n then μ' j else none
def Ok{n j:Nat}(h:j<n):zv μ' n j=μ' j:=aR h
def DX{n j:Nat}{l:L}(h:zv μ' n j=some l):j<n/\μ' j=some l:=by
 unfold zv at h
 split at h
 ·exact⟨by assumption,h⟩
 ·cases h
def Yfw(h0:Za9 P μ w (stI 0))(T:uB P μ stI bI bu N)(I:Inv P μ w stI bI bu ds N W S μ' a' w')(Or:Ord bu mo N ki)(dW:∀k,S k=true->∀i,ki k i->S i=true){i:Nat}(hi:i<N)(hS:S i=false)(hb:∀j,ki i j->S j=true)
  {σ:St} (hn:σ.n=(stI i).n) (hs:∀j,j<(stI i).n->(bu i).dq j->σ.h.get j=(stI i).h.get j) (hd:∀j,j<(stI i).n->¬(bu i).dq j->σ.h.get j=((stI i).h.get j).map fun _=>.dead):
  Za9 P (zv μ' (stI i).n) w' σ/\∀j l,μ' j=some l->j<(stI i).n->(bu i).dq j->σ.h.get j=jn stI bu S N j:=by
 have jo:∀j l,μ' j=some l->j<(stI i).n->(bu i).dq j->jn stI bu S N j=(stI i).h.get j:=fun j l hj aW r_=>by
  obtain⟨h1,h2⟩:=Zy2 T I Or dW hi hS hb hj aW r_
  rw[Tu (i:=i) (by omega) h2,Zrb T (by omega) aW h1]
 have uE:∀j l,μ' j=some l->j<(stI i).n->(bu i).dq j->σ.h.get j=jn stI bu S N j:=fun j l hj aW r_=>by rw[hs j aW r_,jo j l hj aW r_]
 have hold:∀j l,μ' j=some l->j<(stI 0).n->∃l,μ j=some l:=fun j l hj h0=>⟨l,by rw[<-I.ext j h0];exact hj⟩
 refine⟨⟨fun j l hj=>?_,fun j l hj=>?_,fun j k lj lk oj ok hj hk cv h1 h2 hw hl=>?_,fun g hg=>?_⟩,uE⟩
 ·obtain⟨h1,h2⟩:=DX hj
  exact⟨by omega,(I.dom j l h2).2⟩
 ·obtain⟨h1,h2⟩:=DX hj
  obtain⟨o,μT,wT,lT,t1,t2,t3⟩:=T.NN i (by omega) j (hold j l h2) h1
  by_cases r_:(bu i).dq j
  ·obtain⟨o',q1,q2⟩:=I.obj j l h2
   rw[jo j l h2 h1 r_,t1,au]at q1
   subst q1
   exact⟨o,by rw[hs j h1 r_,t1],OM.cut (n:=(stI i).n) (fun k lk hk jZ=>by rw[Ok hk];exact jZ) t3 t2 q2⟩
  ·exact⟨.dead,by rw[hd j h1 r_,t1];rfl,trivial⟩
 ·obtain⟨a1,a2⟩:=DX hj
  obtain⟨b1,b2⟩:=DX hk
  have sj:(bu i).dq j:=Classical.byContradiction fun hn=>by
   rw[hd j a1 hn]at h1
   cases hq:(stI i).h.get j<;>rw[hq]at h1<;>simp at h1
   subst h1;simp[O.wr]at hw
  have sk:(bu i).dq k:=Classical.byContradiction fun hn=>by
   rw[hd k b1 hn]at h2
   cases hq:(stI i).h.get k<;>rw[hq]at h2<;>simp at h2
   subst h2;simp[O.live]at hl
  exact I.inj j k lj lk oj ok a2 b2 cv (by rw[<-uE j lj a2 a1 sj];exact h1) (by rw[<-uE k lk b2 b1 sk];exact h2) hw hl
 ·obtain⟨t,ht⟩:=h0.zgj g hg
  have Cj:=(h0.dom g _ ht).1
  have:=T.mono (i:=0) (k:=i) (by omega) (by omega)
  exact⟨t,by rw[Ok (by omega),I.ext g Cj];exact ht⟩
def Yjn(T:uB P μ stI bI bu N){vI:Nat->V}(Pu:Jd bI ds vI N)(I:Inv P μ w stI bI bu ds N W S μ' a' w')(Or:Ord bu mo N ki)(dW:∀k,S k=true->∀i,ki k i->S i=true)(hds:∀k,k<N->ds k=(mo k).dst)
  {i:Nat} (hi:i<N) (hS:S i=false) (hb:∀j,ki i j->S j=true):
  RR (zv μ' (stI i).n) (zw (bI i).r (mo i).reads) (bI 0).n a'.tmps:=by
 refine⟨I.uz.1,fun t v hv=>?_⟩
 rw[Ol]at hv
 split at hv
 ·rename_i ht
  obtain⟨h1,h2⟩:=Zy6 Or dW hds hi hS hb ht
  have hc:uA bI ds S N t=some v:=by
   rw[Tv (i:=i) (by omega) h2,Zra Pu (by omega) h1];exact hv
  obtain⟨x,hx,hr⟩:=I.uz.2 t v hc
  exact⟨x,hx,VR.cut (n:=(stI i).n) (fun k lk hk jZ=>by rw[Ok hk];exact jZ) v x (T.scr i (by omega) t v hv) hr⟩
 ·cases hv
def DY(μ' μ2:Mu)(n n':Nat):Mu:=fun j=>if j<n then μ' j else if j<n' then μ2 j else μ' j
def uB.DZ(T:uB P μ stI bI bu N):∀{i j:Nat} {o':O},i<=N->j<(stI 0).n->(stI i).h.get j=some o'->o'.wr=true->∃o,(stI 0).h.get j=some o/\o.wr=true
 |0,j,o',_,_,h,hw=>⟨o',h,hw⟩
 |i+1,j,o',hi,hj,h,hw=>by
  have:=T.mono (i:=0) (k:=i) (by omega) (by omega)
  obtain⟨o,h1,h2,_⟩:=T.grow i (by omega) j o' (by omega) h
  exact T.DZ (by omega) hj h1 (h2 hw)
def Zxt(h0:Za9 P μ w (stI 0))(T:uB P μ stI bI bu N){vI:Nat->V}(Pu:Jd bI ds vI N)(I:Inv P μ w stI bI bu ds N W S μ' a' w')(Or:Ord bu mo N ki)(dW:∀k,S k=true->∀i,ki k i->S i=true)
  (hds:∀k,k<N->ds k=(mo k).dst) (hW:∀k,k<N->∀j∈(bu k).wr,j∈W) {i:Nat} (hi:i<N) (hS:S i=false) (xh:∀d,ds i=some d->d<(bI 0).n)
  {σ σ':St} {μ2:Mu} {w2:World} {ws:List Nat} {x:Value} (se:Za9 P (zv μ' (stI i).n) w' σ) (jo:∀j l,μ' j=some l->j<(stI i).n->(bu i).dq j->σ.h.get j=jn stI bu S N j)
  (hn:σ.n=(stI i).n) (Ch:σ'.n=(stI (i+1)).n) (dM:bK P (zv μ' (stI i).n) w' σ μ2 w2 σ' ws) (pj:∀j,j<(stI i).n->(j∈ws↔j∈(bu i).wr)) (uF:∀j∈ws,(bu i).dq j)
  (cY:∀j,((bu i).dq j/\j<(stI i).n)\/((stI i).n<=j/\j<(stI (i+1)).n)->σ'.h.get j=(stI (i+1)).h.get j) (hx:VR μ2 (vI i) x):
  Inv P μ w stI bI bu ds N W (Zml S i) (DY μ' μ2 (stI i).n (stI (i+1)).n) (a'.put (ds i) x) w2:=by
 have hle:=T.gW i hi
 have zfE:=T.mono (i:=0) (k:=i) (by omega) (by omega)
 have zy:∀j l,μ' j=some l->¬((stI i).n<=j/\j<(stI (i+1)).n):=fun j l hj hc=>by
  rcases(I.dom j l hj).1 with h|⟨k,h3,h4,h5,h6⟩
  ·omega
  ·have hk:k=i:=by
    rcases Nat.lt_trichotomy k i with h|h|h
    ·have:=T.mono (i:=k+1) (k:=i) (by omega) (by omega);omega
    ·exact h
    ·have:=T.mono (i:=i+1) (k:=k) (by omega) (by omega);omega
   subst hk;rw[hS]at h4;cases h4
 have Je:∀j,j<(stI i).n->μ2 j=μ' j:=fun j hj=>by rw[dM.ext j (by omega),Ok hj]
 have Ck:∀j l,μ' j=some l->DY μ' μ2 (stI i).n (stI (i+1)).n j=some l:=fun j l hj=>by
  unfold DY
  by_cases e1:j<(stI i).n
  ·rw[aR e1];exact hj
  ·by_cases e2:j<(stI (i+1)).n
   ·exact absurd ⟨by omega,e2⟩ (zy j l hj)
   ·rw[aA e1,aA e2];exact hj
 have Cl:∀j l,μ2 j=some l->DY μ' μ2 (stI i).n (stI (i+1)).n j=some l:=fun j l hj=>by
  have hd:=(dM.hr.dom j l hj).1
  unfold DY
  by_cases e1:j<(stI i).n
  ·rw[aR e1,<-Je j e1];exact hj
  ·rw[aA e1,aR (by omega)];exact hj
 have hinv:∀j l,DY μ' μ2 (stI i).n (stI (i+1)).n j=some l->(μ' j=some l)\/((stI i).n<=j/\j<(stI (i+1)).n/\μ2 j=some l):=fun j l hj=>by
  unfold DY at hj
  split at hj
  ·exact .inl hj
  ·split at hj
   ·exact .inr ⟨by omega,by assumption,hj⟩
   ·exact .inl hj
 have uG:∀j,uC stI bu i j->jn stI bu (Zml S i) N j=(stI (i+1)).h.get j:=fun j ht=>Yf0 hi ht (Zt1 T Or dW hi hS ht)
 have told:∀j l,μ' j=some l->¬j∈(bu i).wr->jn stI bu (Zml S i) N j=jn stI bu S N j:=fun j l hj hnw=>Zhw fun h=>h.elim hnw fun h=>zy j l hj h
 have Jf:∀j l o',μ' j=some l->jn stI bu (Zml S i) N j=some o'->∃o,jn stI bu S N j=some o/\(o'.wr=true->o.wr=true)/\(o'.live=true->o.live=true):=fun j l o' hj ho=>by
  by_cases hw:j∈(bu i).wr
  ·have aW:=T.wlt i hi j hw
   have r_:=uF j ((pj j aW).2 hw)
   rw[uG j (.inl hw),<-cY j (.inl ⟨r_,aW⟩)]at ho
   obtain⟨o,q1,q2,q3⟩:=dM.grow j o' (by omega) ho
   exact⟨o,by rw[<-jo j l hj aW r_];exact q1,q2,q3⟩
  ·rw[told j l hj hw]at ho
   exact⟨o',ho,id,id⟩
 have cwr:∀j∈ws,∀lj,zv μ' (stI i).n j=some lj->∃o,jn stI bu S N j=some o/\o.wr=true:=fun j hj lj tm=>by
  obtain⟨h1,h2⟩:=DX tm
  obtain⟨o,q1,q2⟩:=dM.xQ j hj (by omega)
  exact⟨o,by rw[<-jo j lj h2 h1 (uF j hj)];exact q1,q2⟩
 have Om:∀j l,(stI i).n<=j->μ2 j=some l->w'.heap.size<=l.b\/∃k lk,k∈ws/\k<(stI i).n/\μ' k=some lk/\lk.b=l.b/\∃o,jn stI bu S N k=some o/\o.wr=true:=fun j l hj hl=>by
  rcases dM.new j l (by omega) hl with h|⟨k,hk,hkn,lk,ok,h1,h2,h3,h4⟩
  ·exact .inl h
  ·obtain⟨_,q2⟩:=DX h1
   exact .inr ⟨k,lk,hk,by omega,q2,h2,cwr k hk lk h1⟩
 refine⟨fun j hj=>?_,fun j l hj=>?_,fun k hk hSk j h1 h2=>?_,fun j l hj=>?_,fun j k lj lk oj ok hj hk cv h1 h2 hw hl=>?_,⟨?_,fun t v hv=>?_⟩,?_,?_,fun j l A9 hj=>?_⟩
 ·-- ext
  unfold DY
  rw[aR (by omega)];exact I.ext j hj
 ·-- dom
  rcases hinv j l hj with h|⟨h1,h2,h3⟩
  ·obtain⟨d1,d2⟩:=I.dom j l h
   refine⟨d1.imp id fun ⟨k,q1,q2,q3⟩=>⟨k,q1,?_,q3⟩,iL d2 dM.eC.size⟩
   simp only[Zml];split<;>first|rfl|exact q2
  ·exact⟨.inr ⟨i,hi,by simp[Zml],h1,h2⟩,(dM.hr.dom j l h3).2⟩
 ·-- full
  by_cases e:k=i
  ·subst e
   obtain⟨l,hl⟩:=dM.full j (by omega) (by omega)
   exact⟨l,Cl j l hl⟩
  ·simp only[Zml,e,if_false]at hSk
   obtain⟨l,hl⟩:=I.full k hk hSk j h1 h2
   exact⟨l,Ck j l hl⟩
 ·-- obj
  rcases hinv j l hj with h|⟨h1,h2,h3⟩
  ·by_cases hw:j∈(bu i).wr
   ·have aW:=T.wlt i hi j hw
    have r_:=uF j ((pj j aW).2 hw)
    obtain⟨o,q1,q2⟩:=dM.hr.obj j l (by rw[Je j aW];exact h)
    exact⟨o,by rw[uG j (.inl hw),<-cY j (.inl ⟨r_,aW⟩)];exact q1,q2.mono Cl⟩
   ·obtain⟨o,q1,q2⟩:=I.obj j l h
    refine⟨o,by rw[told j l h hw];exact q1,?_⟩
    cases hl:o.live with
    |false=>cases o<;>simp[O.live]at hl;trivial
    |true=>
     refine(q2.mono Ck).congr (dM.eC.block l.b (I.dom j l h).2 fun k hk lk fN=>?_)
     obtain⟨q3,q4⟩:=DX fN
     obtain⟨ok,q5,q6⟩:=cwr k hk lk fN
     exact I.inj k j lk l ok o q4 h (fun hc=>hw (by rw[<-hc];exact(pj k q3).1 hk)) q5 q1 q6 hl
  ·obtain⟨o,q1,q2⟩:=dM.hr.obj j l h3
   exact⟨o,by rw[uG j (.inr ⟨h1,h2⟩),<-cY j (.inr ⟨h1,h2⟩)];exact q1,q2.mono Cl⟩
 ·-- inj
  have zhp:∀j k lj lk oj ok,(stI i).n<=j->j<(stI (i+1)).n->μ2 j=some lj->μ' k=some lk->jn stI bu (Zml S i) N j=some oj->jn stI bu (Zml S i) N k=some ok->((oj.wr=true/\ok.live=true)\/(ok.wr=true/\oj.live=true))->lj.b≠lk.b:=by
   intro j k lj lk oj ok D4 qJ hj3 hk Iz hok D5
   have Cm:ok.live=true:=by
    rcases D5 with h|h
    ·exact h.2
    ·have:=h.1;cases ok<;>simp_all [O.wr,O.live]
   rcases Om j lj D4 hj3 with h|⟨q,lq,h1,h2,h3,h4,o,h5,h6⟩
   ·have:=(I.dom k lk hk).2;omega
   ·rw[<-h4]
    by_cases e:q=k
    ·subst e
     rw[h3,au]at hk;subst hk
     have hwq:=(pj q h2).1 h1
     rw[uG j (.inr ⟨D4,qJ⟩),<-cY j (.inr ⟨D4,qJ⟩)]at Iz
     rw[uG q (.inl hwq),<-cY q (.inl ⟨uF q h1,h2⟩)]at hok
     have kK:μ2 q=some lq:=by rw[Je q h2];exact h3
     exfalso
     rcases D5 with hb|hb
     ·exact dM.hr.inj j q lj lq oj ok hj3 kK (by omega) Iz hok hb.1 hb.2 h4.symm
     ·exact dM.hr.inj q j lq lj ok oj kK hj3 (by omega) hok Iz hb.1 hb.2 h4
    ·obtain⟨ok0,g1,g2,g3⟩:=Jf k lk ok hk hok
     exact I.inj q k lq lk o ok0 h3 hk e h5 g1 h6 (g3 Cm)
  rcases hinv j lj hj with NS|⟨a1,a2,a3⟩
  ·rcases hinv k lk hk with jO|⟨b1,b2,b3⟩
   ·obtain⟨oj0,g1,g2,g3⟩:=Jf j lj oj NS h1
    obtain⟨ok0,g4,g5,g6⟩:=Jf k lk ok jO h2
    exact I.inj j k lj lk oj0 ok0 NS jO cv g1 g4 (g2 hw) (g6 hl)
   ·exact(zhp k j lk lj ok oj b1 b2 b3 NS h2 h1 (.inr ⟨hw,hl⟩)).symm
  ·rcases hinv k lk hk with jO|⟨b1,b2,b3⟩
   ·exact zhp j k lj lk oj ok a1 a2 a3 jO h1 h2 (.inl ⟨hw,hl⟩)
   ·rw[uG j (.inr ⟨a1,a2⟩),<-cY j (.inr ⟨a1,a2⟩)]at h1
    rw[uG k (.inr ⟨b1,b2⟩),<-cY k (.inr ⟨b1,b2⟩)]at h2
    exact dM.hr.inj j k lj lk oj ok a3 b3 cv h1 h2 hw hl
 ·-- the temporaries' count
  cases hd:ds i<;>simp[Act.put,I.uz.1]
 ·-- the temporaries
  by_cases ht:ds i=some t
  ·rw[Yfz Pu hi ht (Yfh Or dW hds hi hS ht),au]at hv
   subst hv
   refine⟨x,?_,VR.mono Cl _ _ hx⟩
   rw[ht]
   simp[Act.put,I.uz.1,xh t ht]
  ·rw[Zhv ht]at hv
   obtain⟨y,q1,q2⟩:=I.uz.2 t v hv
   refine⟨y,?_,VR.mono Ck _ _ q2⟩
   cases hd:ds i with
   |none=>simpa[Act.put]using q1
   |some d=>
    have:d≠t:=fun hc=>ht (by rw[hd,hc])
    simp only[Act.put]
    rw[Lw this];exact q1
 ·-- the marks
  have:(a'.put (ds i) x).defers=a'.defers:=by cases ds i<;>rfl
  rw[this];exact I.defs.mono Ck
 ·-- the frame
  refine⟨dM.eC.os.trans I.eC.os,dM.eC.tape.trans I.eC.tape,dM.eC.output.trans I.eC.output,p9 I.eC.size dM.eC.size,fun b hb dC=>?_⟩
  rw[dM.eC.block b (iL hb I.eC.size) fun j hj lj tm=>?_,I.eC.block b hb dC]
  obtain⟨q1,q2⟩:=DX tm
  by_cases e:j<(stI 0).n
  ·exact dC j (hW i hi j ((pj j q1).1 hj)) lj (by rw[<-I.ext j e];exact q2)
  ·rcases I.new j lj (by omega) q2 with h|⟨k,hk,_,lk,_,h3,h4,_⟩
   ·omega
   ·rw[<-h4];exact dC k hk lk h3
 ·-- new ids
  rcases hinv j l hj with h|⟨h1,h2,h3⟩
  ·exact I.new j l A9 h
  ·rcases Om j l h1 h3 with h|⟨q,lq,q1,q2,q3,q4,o,q5,q6⟩
   ·exact .inl (p9 I.eC.size h)
   ·by_cases e:q<(stI 0).n
    ·have hqW:=hW i hi q ((pj q q2).1 q1)
     obtain⟨oi,g1,g2⟩:=T.xQ i hi q ((pj q q2).1 q1)
     obtain⟨o0,g3,g4⟩:=T.DZ (by omega) e g1 g2
     exact .inr ⟨q,hqW,e,lq,o0,by rw[<-I.ext q e];exact q3,q4,g3,g4⟩
    ·rcases I.new q lq (by omega) q3 with h|⟨k,hk,g1,lk,ok,g2,g3,g4⟩
     ·exact .inl (by omega)
     ·exact .inr ⟨k,hk,g1,lk,ok,g2,g3.trans q4,g4⟩
end
section
variable {P:Program} {μ:Mu} {w:World} {st st':St} {fr bL:Fr} {a:Act} {call:cP} {v:V} {lb:Option Nat}
def Zzz:∀(l:List Nat) (n j:Nat),j<n->(j∈aL n l↔j∈l):=by
 intro l n i hi
 induction l with
 |nil=>simp[aL]
 |cons j l ih=>
  simp only[aL]
  split
  ·unfold xe
   split
   ·rename_i hc
    simp only[kV,ih]
    simp only[Tc]at hc
    constructor
    ·exact .inr
    ·rintro(rfl|h)
     ·exact ih.1 hc
     ·exact h
   ·simp only[kV,ih]
  ·simp only[kV,ih]
   constructor
   ·exact .inr
   ·rintro(rfl|h)
    ·omega
    ·exact h
def Yiu(bY:i_ P call)(hE:tE P){ops:Array Oper}{Q:Exit->Act->World->Prop}{stI:Nat->St}{bI:Nat->Fr}{vI:Nat->V}{bu:Nat->FP}{S:Nat->Bool}{W:List Nat}{μ':Mu}{a':Act}{w':World}
  (h0:Za9 P μ w (stI 0)) (hs:∀i o,ops[i]?=some o->zz P call ops o (stI i) (bI i) (vI i) (bu i) (stI (i+1)) (bI (i+1)))
  (T:uB P μ stI bI bu ops.size) {ds:Nat->Option Nat} {mo:Nat->du} (D6:∀i o,ops[i]?=some o->mo i=qk P ops o) (hds:∀k,k<ops.size->ds k=(mo k).dst) (Pu:Jd bI ds vI ops.size)
  {ki:Nat->Nat->Prop} (Or:Ord bu mo ops.size ki) (I:Inv P μ w stI bI bu ds ops.size W S μ' a' w') (dW:∀k,S k=true->∀i,ki k i->S i=true) (hW:∀k,k<ops.size->∀j∈(bu k).wr,j∈W)
  (zA:∀i,i<ops.size->∀ds,oP μ' (bI 0).marks ds->oP (zv μ' (stI i).n) (bI 0).marks ds)
  {i:Nat} (hi:i<ops.size) (hS:S i=false) (hb:∀j,ki i j->S j=true) {K:Act->World->Prop}
  (hK:∀μ2 a2 w2,Inv P μ w stI bI bu ds ops.size W (Zml S i) μ2 a2 w2->K a2 w2):wpOpIn (FE lb) 0 P ops Q i K a' w':=by
 have ho:ops[i]?=some ops[i]:=Array.getElem?_eq_getElem hi
 obtain⟨g,b,hg,hw,hp,ht,On⟩:=hs i _ ho
 have hmi:=D6 i _ ho
 have Jg:mo i=⟨ops[i].dst,za P ops[i].op,g⟩:=by rw[hmi];unfold qk;rw[hg]
 have iG:ds i=ops[i].dst:=by rw[hds i hi,Jg]
 have Jh:∀s∈(za P ops[i].op).B5,∀t∈s.tmps,t∈(mo i).reads:=fun s hs t ht=>by
  rw[Jg];simp only[du.reads,tg,List.mem_flatMap];exact .inr ⟨s,hs,ht⟩
 have hRR:=Yjn T Pu I Or dW hds hi hS hb
 have vT:bX (zw (bI i).r (mo i).reads) g=bX (bI i).r g:=by
  cases g with
  |none=>rfl
  |some p=>
   obtain⟨t,want⟩:=p
   simp only[bX]
   rw[Ol,aR (by rw[Jg];simp[du.reads])]
 have xh:∀d,ds i=some d->d<(bI 0).n:=fun d hd=>by
  rw[iG]at hd
  rw[hd]at hp
  simp only[Fr.put]at hp
  split at hp
  ·rename_i aW;rw[<-(T.fn i (by omega)).1];exact aW
  ·cases hp
 unfold wpOpIn
 rw[ho]
 simp only[]
 have hwd:Region.wanted ops[i] (yielded ops a'.tmps)=b:=Zo8 (fr:={r:=zw (bI i).r (mo i).reads,n:=(bI 0).n,marks:=[]}) (a:=a') hRR hg (by rw[vT];exact hw)
 cases b with
 |true=>
  rw[aR hwd]
  obtain⟨s',hm,jq,Oo⟩:=ht rfl
  obtain⟨σ,σ',k1,k2,k3,k4,k5,k6,k7,k8,k9⟩:=Yir (ws:=aL (stI i).n s'.w) (lo:=(stI i).n) (hi:=s'.n) hm rfl
  rw[<-Oo]at k6 k7 k8 k9
  obtain⟨se,jo⟩:=Yfw h0 T I Or dW hi hS hb k1 k6 k7
  have ya:FrR (zv μ' (stI i).n) {r:=zw (bI i).r (mo i).reads,n:=(bI 0).n,marks:=(bI 0).marks} a':=⟨hRR,zA i hi _ I.defs⟩
  have hm2:cJ (za P ops[i].op) call (zw (bI i).r (mo i).reads) σ=some (vI i,σ'):=by
   rw[Yd1 (r':=(bI i).r) fun s hs=>Yom (Jh s hs)];exact k3
  refine Ymw bY hE se ya hm2 fun x w2 μ2 ws hv dM=>?_
  have pj:ws=s'.w:=by
   have:=dM.wl
   rw[k2,k5,AP]at this
   exact this.symm
  have Ch:(stI (i+1)).n=s'.n:=by rw[jq]
  have hh':(stI (i+1)).h=s'.h:=by rw[jq]
  have hinv:=Zxt h0 T Pu I Or dW hds hW hi hS xh se jo k1 (by rw[k4,Ch]) dM (fun j hj=>by
   rw[pj,Oo,(Zvq (call:=call) hm _ _).1]
   exact(Zzz _ _ _ hj).symm) (fun j hj=>k9 j (by rw[<-pj];exact hj)) (fun j hj=>by rw[hh'];exact k8 j (by rw[Ch]at hj;exact hj)) hv
  rw[iG]at hinv
  exact hK _ _ _ hinv
 |false=>
  rw[aA (by rw[hwd];simp)]
  obtain⟨hv,jq,Oo⟩:=On rfl
  refine⟨fun _ _=>trivial,?_⟩
  have uF:∀j,¬(bu i).dq j:=fun j=>by rw[Oo];simp[FP.dq]
  obtain⟨se,jo⟩:=Yfw (σ:=⟨qK (stI i).h [] (stI i).n,(stI i).n,[]⟩) h0 T I Or dW hi hS hb rfl (fun j _ hj=>absurd hj (uF j)) (fun j hj _=>by
   show (qK (stI i).h [] (stI i).n).get j=_
   rw[LY,aR hj];simp)
  have Ch:(stI (i+1)).n=(stI i).n:=by rw[jq]
  have:=Zxt (x:=undef) (ws:=[]) (σ':=⟨qK (stI i).h [] (stI i).n,(stI i).n,[]⟩) h0 T Pu I Or dW hds hW hi hS xh se jo rfl Ch.symm (bK.refl se) (fun j hj=>by rw[Oo]) (fun j hj=>by simp at hj) (fun j hj=>by
   rcases hj with⟨h,_⟩|⟨h1,h2⟩
   ·exact absurd h (uF j)
   ·omega) (by rw[hv];exact⟨[],rfl,by simp[bf]⟩)
  rw[iG]at this
  exact hK _ _ _ this
def Zme:∀{os:List Oper} {b:Nat},Lv b os=true->∀i o,os[i]?=some o->∀e∈o.after,Region.binds .any e=true->e.on<b+i
 |[],b,_,i,o,h,_,_,_=>by simp at h
 |o0::os,b,h,i,o,ho,e,he,hb=>by
  simp only[Lv,jc]at h
  cases i with
  |zero=>
   simp only[AN,au]at ho
   subst ho
   have h1:=h.1
   rw[Yzl]at h1
   have:=h1 e he
   rw[hb]at this
   simpa[Nat.blt_eq]using this
  |succ i=>
   have:=Zme h.2 i o (by simpa using ho) e he hb
   omega
def Ybe{ops:Array Oper}(he:Lv 0 ops.toList=true){listed:Array Bool}(jm:listed.size=ops.size)(hr:Region.ready .any ops listed=[]):∀k,k<ops.size->listed.getD k false=true:=by
 intro k
 induction k using Nat.strongRecOn with
 |_ k ih=>
  intro hk
  refine Classical.byContradiction fun hn=>?_
  have Cn:k∈Region.ready .any ops listed:=by
   unfold Region.ready
   simp only[List.mem_filter,Dh,jc,IE]
   refine⟨hk,?_,?_⟩
   ·have fN:k<listed.size:=by omega
    simp only[Array.getD,fN,dif_pos]at hn ⊢
    simpa using hn
   ·have ho:ops[k]?=some ops[k]:=Array.getElem?_eq_getElem hk
    rw[ho]
    simp only[BX,C8,Yzl,IF,IE]
    intro e Oq
    cases hb:Region.binds .any e with
    |false=>exact .inl rfl
    |true=>
     have:=Zme he k ops[k] (by rw[ze];exact ho) e Oq hb
     exact .inr (ih e.on (by omega) (by omega))
  rw[hr]at Cn
  cases Cn
def Yfy{p q:Nat->Bool}{i:Nat}(hp:p i=true)(hq:q i=false)(ho:∀k,k≠i->q k=p k):∀N,i<N->(List.range N).countP q+1=(List.range N).countP p:=by
 have same:∀N,N<=i->(List.range N).countP q=(List.range N).countP p:=by
  intro N
  induction N with
  |zero=>intro _;rfl
  |succ N ih=>
   intro h
   rw[List.range_succ,List.countP_append,List.countP_append,ih (by omega)]
   simp[ho N (by omega)]
 intro N
 induction N with
 |zero=>intro h;omega
 |succ N ih=>
  intro h
  rw[List.range_succ,List.countP_append,List.countP_append]
  by_cases e:N=i
  ·subst e
   rw[same N (Yv5 _)]
   simp[hp,hq]
  ·have:=ih (by omega)
   simp only[List.countP_singleton,ho N e]
   omega
end
section
variable {P:Program} {μ:Mu} {w:World} {st st':St} {fr bL:Fr} {a:Act} {call:cP} {v:V} {lb:Option Nat}
def Yj6{listed:Array Bool}{i:Nat}(hi:i<listed.size):(fun k=>(listed.setIfInBounds i true).getD k false)=Zml (fun k=>listed.getD k false) i:=by
 funext k
 simp only[Zml,IA]
 by_cases e:k=i
 ·subst e;simp[hi]
 ·rw[Lw (Ne.symm e),aA e]
def Yrn(bY:i_ P call)(hE:tE P){ops:Array Oper}{Q:Exit->Act->World->Prop}{stI:Nat->St}{bI:Nat->Fr}{vI:Nat->V}{bu:Nat->FP}{W:List Nat}
  (h0:Za9 P μ w (stI 0)) (hs:∀i o,ops[i]?=some o->zz P call ops o (stI i) (bI i) (vI i) (bu i) (stI (i+1)) (bI (i+1)))
  (T:uB P μ stI bI bu ops.size) {ds:Nat->Option Nat} {mo:Nat->du} (D6:∀i o,ops[i]?=some o->mo i=qk P ops o) (hds:∀k,k<ops.size->ds k=(mo k).dst) (Pu:Jd bI ds vI ops.size)
  (Or:Ord bu mo ops.size (fun k i=>((uo ops.toList []).getD k 0).testBit i=true)) (hW:∀k,k<ops.size->∀j∈(bu k).wr,j∈W) (zB:Lv 0 ops.toList=true)
  (zA:∀μ',(∀j,j<(stI 0).n->μ' j=μ j)->∀i,i<ops.size->∀ds,oP μ' (bI 0).marks ds->oP (zv μ' (stI i).n) (bI 0).marks ds)
  (hQ:∀S μ' a' w',(∀k,k<ops.size->S k=true)->Inv P μ w stI bI bu ds ops.size W S μ' a' w'->Q .normal a' w'):
  ∀(fuel:Nat) (listed:Array Bool) (μ':Mu) (a':Act) (w':World),listed.size=ops.size->(List.range ops.size).countP (fun k=>!listed.getD k false)=fuel->
   (Ylq ops fun k=>listed.getD k false=true)->Inv P μ w stI bI bu ds ops.size W (fun k=>listed.getD k false) μ' a' w'->wpAnyIn (FE lb) 0 P .any ops Q fuel listed a' w':=by
 intro fuel
 induction fuel with
 |zero=>
  intro listed μ' a' w' jm hc dW I
  have Ot:∀k,k<ops.size->listed.getD k false=true:=fun k hk=>by
   rw[List.countP_eq_zero]at hc
   have:=hc k (Dh.2 hk)
   simpa using this
  refine⟨?_,hQ _ μ' a' w' Ot I⟩
  refine List.eq_nil_iff_forall_not_mem.2 fun j hj=>?_
  obtain⟨h1,h2,_⟩:=Zph dW hj
  have:=Ot j h1
  simp only[IA]at h2 this
  have qJ:j<listed.size:=by omega
  simp[qJ]at h2 this
  rw[h2]at this;cases this
 |succ fuel ih=>
  intro listed μ' a' w' jm hc dW I
  refine⟨fun hr=>hQ _ μ' a' w' (Ybe zB jm hr) I,fun i hi=>?_⟩
  obtain⟨h1,h2,h3⟩:=Zph dW hi
  have Ou:i<listed.size:=by omega
  have hSi:listed.getD i false=false:=by
   simp only[IA]at h2 ⊢
   simp[Ou]at h2 ⊢
   exact h2
  refine Yiu (S:=fun k=>listed.getD k false) bY hE h0 hs T D6 hds Pu Or I (fun k hk i hb=>dW k i hk hb) hW (zA μ' I.ext) h1 hSi h3 fun μ2 a2 w2 I2=>?_
  have zC:=Yj6 (listed:=listed) Ou
  refine ih (listed.setIfInBounds i true) μ2 a2 w2 (by simp[jm]) ?_ ?_ (by rw[zC];exact I2)
  ·have:=Yfy (p:=fun k=>!listed.getD k false) (q:=fun k=>!(listed.setIfInBounds i true).getD k false) (i:=i) (by simp[hSi]) (by
    have:=congrFun zC i
    simp only[this];simp[Zml]) (fun k hk=>by
    have:=congrFun zC k
    simp only[this];simp[Zml,hk]) ops.size h1
   omega
  ·intro k j hk hb
   have e1:=congrFun zC k
   have e2:=congrFun zC j
   simp only[e1,e2,Zml]at hk ⊢
   by_cases ej:j=i
   ·rw[aR ej]
   ·rw[aA ej]
    by_cases ek:k=i
    ·subst ek;exact h3 j hb
    ·rw[aA ek]at hk;exact dW k j hk hb
def oP.Ov{μ μ' μ2:Mu}{n:Nat}(hd:∀i l,μ i=some l->i<n)(h:∀i l,i<n->μ' i=some l->μ2 i=some l):∀{ms:List Nat} {ds D7:List Deferred},oP μ ms ds->oP μ' ms D7->oP μ2 ms D7
 |[],_,_,_,h2=>h2
 |m::ms,_,_,⟨l,_,h1,_,h3⟩,⟨l',d',g1,g2,g3⟩=>⟨l',d',h m l' (hd m l h1) g1,g2,oP.Ov hd h h3 g3⟩
def Zpc{stI:Nat->St}{bI:Nat->Fr}{bu:Nat->FP}{N:Nat}(T:uB P μ stI bI bu N)(j:Nat):∀i,i<=N->(stI 0).n<=j->j<(stI i).n->∃k,k<i/\(stI k).n<=j/\j<(stI (k+1)).n
 |0,_,h1,h2=>by omega
 |i+1,hi,h1,h2=>by
  by_cases e:j<(stI i).n
  ·obtain⟨k,a1,a2⟩:=Zpc T j i (by omega) h1 e
   exact⟨k,by omega,a2⟩
  ·exact⟨i,by omega,by omega,h2⟩
def Zrl{stI:Nat->St}{bI:Nat->Fr}{bu:Nat->FP}{N:Nat}(T:uB P μ stI bI bu N):∀i,i<=N->∃Wi,(stI i).w=Wi++(stI 0).w/\∀k,k<i->∀j∈(bu k).wr,j∈Wi
 |0,_=>⟨[],rfl,fun k hk=>by omega⟩
 |i+1,hi=>by
  obtain⟨Wi,h1,h2⟩:=Zrl T i (by omega)
  refine⟨(bu i).wr++Wi,by rw[T.wl i (by omega),h1,rB],fun k hk j hj=>?_⟩
  by_cases e:k=i
  ·subst e;simp[hj]
  ·simp[h2 k (by omega) j hj]
def Yfi(hm:P.follows .mixedOrders=true)(hE:tE P)(bY:i_ P call):Ylp P call:=by
 intro id ops fr st ex bL st' hp h μ w a lb hh hf
 unfold Ymi at hp
 simp only[jc]at hp
 obtain⟨zB,hpt⟩:=hp
 unfold zn at h
 split at h
 ·rename_i gI dP cj bQ
  split at h
  ·rename_i Ow
   simp only[au,bE]at h
   obtain⟨rfl,rfl,rfl⟩:=h
   obtain⟨stI,bI,vI,bu,e1,e2,e3,e4,e5,hs⟩:=Zsf ops.toList fr st gI dP cj bQ
   subst e1 e2
   have hN:ops.toList.length=ops.size:=by simp
   rw[hN]at e3 e4 e5
   have gg:∀i o,ops[i]?=some o->zz P call ops o (stI i) (bI i) (vI i) (bu i) (stI (i+1)) (bI (i+1)):=fun i o ho=>(hs i o (by rw[ze];exact ho)).2
   have T:=Ypx bY hE hN hh hf fun i o ho=>(hs i o ho).2
   let mo:Nat->du:=fun i=>match ops[i]? with|some o=>qk P ops o|none=>⟨none,.stop,none⟩
   have D6:∀i o,ops[i]?=some o->mo i=qk P ops o:=fun i o ho=>by simp only[mo,ho]
   have zd8:∀i o,ops[i]?=some o->(mo i).dst=o.dst:=fun i o ho=>by rw[D6 i o ho];unfold qk;split<;>rfl
   have cY:∀i,i<ops.size->ops[i]?=some (ops[i]!):=fun i hi=>by simp[hi]
   have Pu:Jd bI (fun k=>(mo k).dst) vI ops.size:=fun i hi t=>by
    obtain⟨g,b,_,_,hp,_⟩:=gg i _ (cY i hi)
    show (bI (i+1)).r.get t=if (mo i).dst=some t then some (vI i) else (bI i).r.get t
    rw[zd8 i _ (cY i hi)]
    cases hd:(ops[i]!).dst with
    |none=>rw[hd]at hp;simp only[Fr.put,au]at hp;rw[<-hp];simp
    |some d=>
     rw[hd]at hp
     simp only[Fr.put]at hp
     split at hp
     ·simp only[au]at hp
      rw[<-hp,Go.Mx.T.al]
      by_cases e:t=d
      ·subst e;simp
      ·rw[aA e,aA (by simp[Ne.symm e])]
     ·cases hp
   have Or:Ord bu mo ops.size (fun k i=>((uo ops.toList []).getD k 0).testBit i=true):=by
    refine⟨fun i k hik hk=>?_,fun i k hik hk=>?_⟩
    ·exact Zw5 Ow hik ((hs i _ (by rw[ze];exact cY i (by omega))).1) ((hs k _ (by rw[ze];exact cY k hk)).1)
    ·refine Zw5 hpt hik ?_ ?_
     ·rw[jT,ze,cY i (by omega),BX,D6 i _ (cY i (by omega))]
     ·rw[jT,ze,cY k hk,BX,D6 k _ (cY k hk)]
   obtain⟨W,Tw,dX⟩:=Zrl T ops.size (Yv5 _)
   obtain⟨wT,μT,aT,wsT,Ty,hT2⟩:=Zx9 bY hE hN hh hf (fun i o ho=>(hs i o ho).2) ops.size (Yv5 _)
   have zd9:wsT=W:=List.append_cancel_right (Ty.wl.symm.trans Tw)
   subst zd9
   have zD:∀k,(Array.replicate ops.size false).getD k false=false:=fun k=>by
    simp only[IA]
    by_cases hk:k<ops.size
    ·simp[hk]
    ·simp[hk]
   have hcH:∀M j,jn stI bu (fun k=>(Array.replicate ops.size false).getD k false) M j=(stI 0).h.get j:=fun M j=>Tu (i:=0) (tR _) fun k _ _ _=>zD k
   have hcR:∀M t,uA bI (fun k=>(mo k).dst) (fun k=>(Array.replicate ops.size false).getD k false) M t=(bI 0).r.get t:=fun M t=>Tv (i:=0) (tR _) fun k _ _ _=>zD k
   have I0:Inv P μ w stI bI bu (fun k=>(mo k).dst) ops.size wsT (fun k=>(Array.replicate ops.size false).getD k false) μ a {w with drawn:=w.drawn+1}:=by
    refine⟨fun _ _=>rfl,fun j l hj=>⟨.inl (hh.dom j l hj).1,(hh.dom j l hj).2⟩,fun k _ hk=>?_,fun j l hj=>?_,fun i j l l' o o' h1 h2 h3 h4 h5=>?_,⟨hf.1.1,fun t v hv=>?_⟩,hf.2,⟨rfl,rfl,rfl,Yv5 _,fun _ _ _=>rfl⟩,fun i l h1 h2=>absurd (hh.dom i l h2).1 (by omega)⟩
    ·rw[zD k]at hk;cases hk
    ·obtain⟨o,q1,q2⟩:=hh.obj j l hj
     exact⟨o,by rw[hcH];exact q1,OM.congr (w:=w) rfl q2⟩
    ·rw[hcH]at h4 h5
     exact hh.inj i j l l' o o' h1 h2 h3 h4 h5
    ·rw[hcR]at hv
     exact hf.1.2 t v hv
   refine wpIn_region_any hm (Yrn bY hE hh gg T D6 (fun _ _=>rfl) Pu Or dX zB ?_ ?_ ops.size _ μ a _ (by simp) ?_ ?_ I0)
   ·intro μ' zgz i hi ds hds
    exact oP.Ov (n:=(stI 0).n) (fun j l hj=>(hh.dom j l hj).1) (fun j l hj hl=>by
     have:=T.mono (i:=0) (k:=i) (by omega) (by omega)
     rw[Ok (by omega)];exact hl) hf.2 hds
   ·intro S μ' a' w' hS I
    have hfH:∀j,j<(stI ops.size).n->jn stI bu S ops.size j=(stI ops.size).h.get j:=fun j hj=>Zrb T (Yv5 _) hj fun k hk _=>hS k hk
    have hfR:∀t,uA bI (fun k=>(mo k).dst) S ops.size t=(bI ops.size).r.get t:=fun t=>Zra Pu (Yv5 _) fun k hk _=>hS k hk
    have Co:∀j l,μ' j=some l->j<(stI ops.size).n:=fun j l hj=>by
     rcases(I.dom j l hj).1 with h|⟨k,h1,_,_,h2⟩
     ·have:=T.mono (i:=0) (k:=ops.size) (by omega) (by omega);omega
     ·have:=T.mono (i:=k+1) (k:=ops.size) (by omega) (by omega);omega
    rw[<-e3,<-e4]
    refine⟨rfl,μ',wsT,⟨⟨fun j l hj=>⟨Co j l hj,(I.dom j l hj).2⟩,fun j l hj=>?_,fun i j l l' o o' h1 h2 h3 h4 h5=>?_,fun g hg=>?_⟩,I.ext,T.mono (tR _) (Yv5 _),Tw,I.eC,I.new,Ty.ai,Ty.grow,fun j h1 h2=>?_,Ty.xQ⟩,⟨?_,fun t v hv=>?_⟩,?_⟩
    ·obtain⟨o,q1,q2⟩:=I.obj j l hj
     exact⟨o,by rw[<-hfH j (Co j l hj)];exact q1,q2⟩
    ·exact I.inj i j l l' o o' h1 h2 h3 (by rw[hfH i (Co i l h1)];exact h4) (by rw[hfH j (Co j l' h2)];exact h5)
    ·obtain⟨t,ht⟩:=hh.zgj g hg
     exact⟨t,by rw[I.ext g (hh.dom g _ ht).1];exact ht⟩
    ·obtain⟨k,q1,q2,q3⟩:=Zpc T j ops.size (Yv5 _) h1 h2
     exact I.full k q1 (hS k q1) j q2 q3
    ·rw[(T.fn ops.size (Yv5 _)).1];exact I.uz.1
    ·exact I.uz.2 t v (by rw[hfR];exact hv)
    ·rw[(T.fn ops.size (Yv5 _)).2];exact I.defs
   ·have:(fun k=>!(Array.replicate ops.size false).getD k false)=fun _=>true:=by funext k;rw[zD];rfl
    rw[this];simp
   ·intro k i hk
    rw[zD k]at hk;cases hk
  ·cases h
 ·cases h
end
end Go.Mx
