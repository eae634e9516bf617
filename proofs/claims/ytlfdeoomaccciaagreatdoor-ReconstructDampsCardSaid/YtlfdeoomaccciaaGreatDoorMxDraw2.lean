/-A region that draws its order-/
import Derived.Test.YtlfdeoomaccciaaGreatDoorMxLoc
set_option linter.all false
namespace Go.Mx
open Go
structure Inv (P:Program) (μ:Mu) (w:World) (aJ:Nat->St) (bq:Nat->Fr) (bg:Nat->FP) (ds:Nat->Option Nat) (N:Nat) (W:List Nat) (S:Nat->Bool) (μ':Mu) (a':Act) (w':World):Prop where
 ext:∀j,j<(aJ 0).n->μ' j=μ j
 c_:∀j l,μ' j=some l->(j<(aJ 0).n\/∃k,k<N/\S k=true/\(aJ k).n<=j/\j<(aJ (k+1)).n)/\l.b<w'.heap.size
 full:∀k,k<N->S k=true->∀j,(aJ k).n<=j->j<(aJ (k+1)).n->∃l,μ' j=some l
 obj:∀j l,μ' j=some l->∃o,jM aJ bg S N j=some o/\OM P μ' w' o l
 inj:∀i j l l' o o',μ' i=some l->μ' j=some l'->i≠j->jM aJ bg S N i=some o->jM aJ bg S N j=some o'->o.wr=true->o'.live=true->l.b≠l'.b
 vH:a'.tmps.size=(bq 0).n/\∀t v,vJ bq ds S N t=some v->∃x,a'.tmps[t]?=some x/\VR μ' v x
 defs:pJ μ' (bq 0).marks a'.defers
 ed:KY μ W w w'
 new:∀i l,(aJ 0).n<=i->μ' i=some l->w.heap.size<=l.b\/∃j∈W,j<(aJ 0).n/\∃lj oj,μ j=some lj/\lj.b=l.b/\(aJ 0).h.get j=some oj/\oj.wr=true
structure Ord (bg:Nat->FP) (mo:Nat->dq) (N:Nat) (lA:Nat->Nat->Prop):Prop where
 free:∀i k,i<k->k<N->lA k i\/FP.free (bg i) (bg k)=true
 tmp:∀i k,i<k->k<N->lA k i\/P2 (mo i) (mo k)=true
section
variable {P:Program} {μ μ':Mu} {w w':World} {aJ:Nat->St} {bq:Nat->Fr} {bg:Nat->FP} {ds:Nat->Option Nat} {S:Nat->Bool} {N:Nat} {W:List Nat} {a a':Act} {mo:Nat->dq} {lA:Nat->Nat->Prop}
def vK.mono(T:vK P μ aJ bq bg N):∀{i k:Nat},i<=k->k<=N->(aJ i).n<=(aJ k).n
 |i,0,h,_=>by rw[Nat.le_zero.1 h];exact aQ _
 |i,k+1,h,hk=>by
  by_cases e:i=k+1
  ·rw[e];exact aQ _
  ·exact tk (T.mono (i:=i) (k:=k) (by omega) (by omega)) (T.fh k (by omega))
def Qo{a b:FP}(h:FP.free a b=true):(∀j∈a.wr,¬b.dk j)/\(∀j∈a.wr,j∉b.wr)/\(∀j∈b.wr,¬a.dk j)/\∀j∈b.wr,¬(a.lo<=j/\j<a.hi):=by
 unfold FP.free at h
 simp only[Gi,Bool.or_eq_false_iff]at h
 obtain⟨⟨⟨h1,h2⟩,h3⟩,h4⟩:=h
 have key:∀(l:List Nat) (o:Option (List Nat)),CB l o=false->∀j∈l,¬(match o with|none=>True|some q=>j∈q):=by
  intro l o h j hj
  cases o with
  |none=>
   simp only[CB,Bool.not_eq_false',List.isEmpty_iff]at h
   subst h;simp at hj
  |some q=>
   simp only[CB,List.any_eq_false,P7]at h
   exact h j hj
 refine⟨fun j hj=>?_,fun j hj=>?_,fun j hj=>?_,fun j hj=>?_⟩
 ·have:=key _ _ h1 j hj
  unfold FP.dk
  exact this
 ·exact key _ _ h2 j hj
 ·have:=key _ _ h3 j hj
  unfold FP.dk
  exact this
 ·simp only[List.any_eq_false]at h4
  have:=h4 j hj
  intro hc
  apply this
  simp[Nat.ble_eq,Nat.blt_eq,hc.1,hc.2]
def Zyw(T:vK P μ aJ bq bg N)(I:Inv P μ w aJ bq bg ds N W S μ' a' w')(Or:Ord bg mo N lA)(cO:∀k,S k=true->∀i,lA k i->S i=true){i:Nat}(hi:i<N)(hS:S i=false)(hb:∀j,lA i j->S j=true)
  {j:Nat} {l:L} (hj:μ' j=some l) (ax:j<(aJ i).n) (hs:(bg i).dk j):
  (∀k,k<i->vL aJ bg k j->S k=true)/\(∀k,i<=k->k<N->vL aJ bg k j->S k=false):=by
 refine⟨fun k hk ht=>?_,fun k hk CL ht=>?_⟩
 ·rcases ht with ht|⟨h1,h2⟩
  ·rcases Or.free k i hk hi with h|h
   ·exact hb k h
   ·exact absurd hs ((Qo h).1 j ht)
  ·rcases(I.c_ j l hj).1 with h0|⟨k',h3,h4,h5,h6⟩
   ·have:=T.mono (i:=0) (k:=k) (by omega) (by omega)
    omega
   ·have:k'=k:=by
     rcases Nat.lt_trichotomy k k' with h|h|h
     ·have:=T.mono (i:=k+1) (k:=k') (by omega) (by omega);omega
     ·exact h.symm
     ·have:=T.mono (i:=k'+1) (k:=k) (by omega) (by omega);omega
    subst this;exact h4
 ·by_cases e:k=i
  ·rw[e];exact hS
  ·rcases ht with ht|⟨h1,h2⟩
   ·rcases Or.free i k (by omega) CL with h|h
    ·cases hq:S k with
     |false=>rfl
     |true=>rw[cO k hq i h]at hS;cases hS
    ·exact absurd hs ((Qo h).2.2.1 j ht)
   ·have:=T.mono (i:=i) (k:=k) hk (by omega)
    omega
def Zui(T:vK P μ aJ bq bg N)(Or:Ord bg mo N lA)(cO:∀k,S k=true->∀i,lA k i->S i=true){i:Nat}(hi:i<N)(hS:S i=false)
  {j:Nat} (ht:vL aJ bg i j):∀k,i<k->k<N->vL aJ bg k j->S k=false:=by
 intro k hk CL eF
 have Lc:=Or.free i k hk CL
 have KP:lA k i->S k=false:=fun h=>by
  cases hq:S k with
  |false=>rfl
  |true=>rw[cO k hq i h]at hS;cases hS
 rcases Lc with h|h
 ·exact KP h
 ·exfalso
  have hm:=T.mono (i:=i+1) (k:=k) (by omega) (by omega)
  have gV:=T.fh i hi
  rcases ht with ht|⟨h1,h2⟩
  ·rcases eF with eF|⟨h3,h4⟩
   ·exact(Qo h).2.1 j ht eF
   ·have:=T.Wv i hi j ht;omega
  ·rcases eF with eF|⟨h3,h4⟩
   ·refine(Qo h).2.2.2 j eF ⟨?_,?_⟩
    ·rw[T.lo i hi];exact h1
    ·rw[T.hi i hi];exact h2
   ·omega
def Ww{d:Option Nat}{l:List Nat}(h:K7 d l=false):∀t,d=some t->t∉l:=by
 intro t ht hm
 subst ht
 simp only[K7]at h
 have:l.contains t=true:=P7.2 hm
 rw[this]at h;cases h
def Wx{a b:dq}(h:P2 a b=true):(∀t,a.dst=some t->t∉b.reads)/\(∀t,b.dst=some t->t∉a.reads)/\∀t,a.dst=some t->b.dst≠some t:=by
 unfold P2 at h
 simp only[Gi,Bool.or_eq_false_iff]at h
 obtain⟨⟨h1,h2⟩,h3⟩:=h
 exact⟨Ww h1,Ww h2,fun t ht hb=>Ww h3 t ht (by rw[hb];simp)⟩
def Zy1(Or:Ord bg mo N lA)(cO:∀k,S k=true->∀i,lA k i->S i=true)(qg:∀k,k<N->ds k=(mo k).dst){i:Nat}(hi:i<N)(hS:S i=false)(hb:∀j,lA i j->S j=true)
  {t:Nat} (ht:t∈(mo i).reads):(∀k,k<i->ds k=some t->S k=true)/\(∀k,i<=k->k<N->ds k=some t->S k=false):=by
 refine⟨fun k hk hd=>?_,fun k hk CL hd=>?_⟩
 ·rcases Or.tmp k i hk hi with h|h
  ·exact hb k h
  ·rw[qg k (by omega)]at hd
   exact absurd ht ((Wx h).1 t hd)
 ·by_cases e:k=i
  ·rw[e];exact hS
  ·rcases Or.tmp i k (by omega) CL with h|h
   ·cases hq:S k with
    |false=>rfl
    |true=>rw[cO k hq i h]at hS;cases hS
   ·rw[qg k CL]at hd
    exact absurd ht ((Wx h).2.1 t hd)
def Yep(Or:Ord bg mo N lA)(cO:∀k,S k=true->∀i,lA k i->S i=true)(qg:∀k,k<N->ds k=(mo k).dst){i:Nat}(hi:i<N)(hS:S i=false)
  {t:Nat} (ht:ds i=some t):∀k,i<k->k<N->ds k=some t->S k=false:=by
 intro k hk CL hd
 rcases Or.tmp i k hk CL with h|h
 ·cases hq:S k with
  |false=>rfl
  |true=>rw[cO k hq i h]at hS;cases hS
 ·rw[qg i hi]at ht
  rw[qg k CL]at hd
  exact absurd hd ((Wx h).2.2 t ht)
end
section
variable {P:Program} {μ μ':Mu} {w w':World} {aJ:Nat->St} {bq:Nat->Fr} {bg:Nat->FP} {ds:Nat->Option Nat} {S:Nat->Bool} {N:Nat} {W:List Nat} {a a':Act} {mo:Nat->dq} {lA:Nat->Nat->Prop}
def Ai(μ':Mu)(n:Nat):Mu:=fun j=>if j<n then μ' j else none
def Ld{n j:Nat}(h:j<n):Ai μ' n j=μ' j:=ay h
def Eo{n j:Nat}{l:L}(h:Ai μ' n j=some l):j<n/\μ' j=some l:=by
 unfold Ai at h
 split at h
 ·exact⟨by assumption,h⟩
 ·cases h
def Ye8(h0:bm P μ w (aJ 0))(T:vK P μ aJ bq bg N)(I:Inv P μ w aJ bq bg ds N W S μ' a' w')(Or:Ord bg mo N lA)(cO:∀k,S k=true->∀i,lA k i->S i=true){i:Nat}(hi:i<N)(hS:S i=false)(hb:∀j,lA i j->S j=true)
  {σ:St} (hn:σ.n=(aJ i).n) (hs:∀j,j<(aJ i).n->(bg i).dk j->σ.h.get j=(aJ i).h.get j) (hd:∀j,j<(aJ i).n->¬(bg i).dk j->σ.h.get j=((aJ i).h.get j).map fun _=>.dead):
  bm P (Ai μ' (aJ i).n) w' σ/\∀j l,μ' j=some l->j<(aJ i).n->(bg i).dk j->σ.h.get j=jM aJ bg S N j:=by
 have jN:∀j l,μ' j=some l->j<(aJ i).n->(bg i).dk j->jM aJ bg S N j=(aJ i).h.get j:=fun j l hj ax yp=>by
  obtain⟨h1,h2⟩:=Zyw T I Or cO hi hS hb hj ax yp
  rw[Zip (i:=i) (by omega) h2,Wy T (by omega) ax h1]
 have vM:∀j l,μ' j=some l->j<(aJ i).n->(bg i).dk j->σ.h.get j=jM aJ bg S N j:=fun j l hj ax yp=>by rw[hs j ax yp,jN j l hj ax yp]
 have hold:∀j l,μ' j=some l->j<(aJ 0).n->∃l,μ j=some l:=fun j l hj h0=>⟨l,by rw[<-I.ext j h0];exact hj⟩
 refine⟨⟨fun j l hj=>?_,fun j l hj=>?_,fun j k lj lk oj ok hj hk aW h1 h2 hw hl=>?_,fun g hg=>?_⟩,vM⟩
 ·obtain⟨h1,h2⟩:=Eo hj
  exact⟨by omega,(I.c_ j l h2).2⟩
 ·obtain⟨h1,h2⟩:=Eo hj
  obtain⟨o,μT,wT,lT,t1,t2,t3⟩:=T.sch i (by omega) j (hold j l h2) h1
  by_cases yp:(bg i).dk j
  ·obtain⟨o',q1,q2⟩:=I.obj j l h2
   rw[jN j l h2 h1 yp,t1,aq]at q1
   subst q1
   exact⟨o,by rw[hs j h1 yp,t1],OM.cut (n:=(aJ i).n) (fun k lk hk eF=>by rw[Ld hk];exact eF) t3 t2 q2⟩
  ·exact⟨.dead,by rw[hd j h1 yp,t1];rfl,trivial⟩
 ·obtain⟨a1,a2⟩:=Eo hj
  obtain⟨b1,b2⟩:=Eo hk
  have sj:(bg i).dk j:=Classical.byContradiction fun hn=>by
   rw[hd j a1 hn]at h1
   cases hq:(aJ i).h.get j<;>rw[hq]at h1<;>simp at h1
   subst h1;simp[O.wr]at hw
  have sk:(bg i).dk k:=Classical.byContradiction fun hn=>by
   rw[hd k b1 hn]at h2
   cases hq:(aJ i).h.get k<;>rw[hq]at h2<;>simp at h2
   subst h2;simp[O.live]at hl
  exact I.inj j k lj lk oj ok a2 b2 aW (by rw[<-vM j lj a2 a1 sj];exact h1) (by rw[<-vM k lk b2 b1 sk];exact h2) hw hl
 ·obtain⟨t,ht⟩:=h0.gU g hg
  have td:=(h0.c_ g _ ht).1
  have:=T.mono (i:=0) (k:=i) (by omega) (by omega)
  exact⟨t,by rw[Ld (by omega),I.ext g td];exact ht⟩
def Yjo(T:vK P μ aJ bq bg N){vI:Nat->V}(Pu:GP bq ds vI N)(I:Inv P μ w aJ bq bg ds N W S μ' a' w')(Or:Ord bg mo N lA)(cO:∀k,S k=true->∀i,lA k i->S i=true)(qg:∀k,k<N->ds k=(mo k).dst)
  {i:Nat} (hi:i<N) (hS:S i=false) (hb:∀j,lA i j->S j=true):
  RR (Ai μ' (aJ i).n) (Aj (bq i).r (mo i).reads) (bq 0).n a'.tmps:=by
 refine⟨I.vH.1,fun t v hv=>?_⟩
 rw[Lf]at hv
 split at hv
 ·rename_i ht
  obtain⟨h1,h2⟩:=Zy1 Or cO qg hi hS hb ht
  have hc:vJ bq ds S N t=some v:=by
   rw[Qp (i:=i) (by omega) h2,Wz Pu (by omega) h1];exact hv
  obtain⟨x,hx,hr⟩:=I.vH.2 t v hc
  exact⟨x,hx,VR.cut (n:=(aJ i).n) (fun k lk hk eF=>by rw[Ld hk];exact eF) v x (T.scr i (by omega) t v hv) hr⟩
 ·cases hv
def Ep(μ' μ2:Mu)(n n':Nat):Mu:=fun j=>if j<n then μ' j else if j<n' then μ2 j else μ' j
def vK.Er(T:vK P μ aJ bq bg N):∀{i j:Nat} {o':O},i<=N->j<(aJ 0).n->(aJ i).h.get j=some o'->o'.wr=true->∃o,(aJ 0).h.get j=some o/\o.wr=true
 |0,j,o',_,_,h,hw=>⟨o',h,hw⟩
 |i+1,j,o',hi,hj,h,hw=>by
  have:=T.mono (i:=0) (k:=i) (by omega) (by omega)
  obtain⟨o,h1,h2,_⟩:=T.grow i (by omega) j o' (by omega) h
  exact T.Er (by omega) hj h1 (h2 hw)
def Zxn(h0:bm P μ w (aJ 0))(T:vK P μ aJ bq bg N){vI:Nat->V}(Pu:GP bq ds vI N)(I:Inv P μ w aJ bq bg ds N W S μ' a' w')(Or:Ord bg mo N lA)(cO:∀k,S k=true->∀i,lA k i->S i=true)
  (qg:∀k,k<N->ds k=(mo k).dst) (hW:∀k,k<N->∀j∈(bg k).wr,j∈W) {i:Nat} (hi:i<N) (hS:S i=false) (yq:∀d,ds i=some d->d<(bq 0).n)
  {σ σ':St} {μ2:Mu} {w2:World} {ws:List Nat} {x:Value} (tC:bm P (Ai μ' (aJ i).n) w' σ) (jN:∀j l,μ' j=some l->j<(aJ i).n->(bg i).dk j->σ.h.get j=jM aJ bg S N j)
  (hn:σ.n=(aJ i).n) (sO:σ'.n=(aJ (i+1)).n) (dJ:bH P (Ai μ' (aJ i).n) w' σ μ2 w2 σ' ws) (pT:∀j,j<(aJ i).n->(j∈ws↔j∈(bg i).wr)) (vN:∀j∈ws,(bg i).dk j)
  (cK:∀j,((bg i).dk j/\j<(aJ i).n)\/((aJ i).n<=j/\j<(aJ (i+1)).n)->σ'.h.get j=(aJ (i+1)).h.get j) (hx:VR μ2 (vI i) x):
  Inv P μ w aJ bq bg ds N W (mw S i) (Ep μ' μ2 (aJ i).n (aJ (i+1)).n) (a'.put (ds i) x) w2:=by
 have hle:=T.fh i hi
 have zap:=T.mono (i:=0) (k:=i) (by omega) (by omega)
 have Ak:∀j l,μ' j=some l->¬((aJ i).n<=j/\j<(aJ (i+1)).n):=fun j l hj hc=>by
  rcases(I.c_ j l hj).1 with h|⟨k,h3,h4,h5,h6⟩
  ·omega
  ·have hk:k=i:=by
    rcases Nat.lt_trichotomy k i with h|h|h
    ·have:=T.mono (i:=k+1) (k:=i) (by omega) (by omega);omega
    ·exact h
    ·have:=T.mono (i:=i+1) (k:=k) (by omega) (by omega);omega
   subst hk;rw[hS]at h4;cases h4
 have GQ:∀j,j<(aJ i).n->μ2 j=μ' j:=fun j hj=>by rw[dJ.ext j (by omega),Ld hj]
 have CM:∀j l,μ' j=some l->Ep μ' μ2 (aJ i).n (aJ (i+1)).n j=some l:=fun j l hj=>by
  unfold Ep
  by_cases e1:j<(aJ i).n
  ·rw[ay e1];exact hj
  ·by_cases e2:j<(aJ (i+1)).n
   ·exact absurd ⟨by omega,e2⟩ (Ak j l hj)
   ·rw[ak e1,ak e2];exact hj
 have CN:∀j l,μ2 j=some l->Ep μ' μ2 (aJ i).n (aJ (i+1)).n j=some l:=fun j l hj=>by
  have hd:=(dJ.hr.c_ j l hj).1
  unfold Ep
  by_cases e1:j<(aJ i).n
  ·rw[ay e1,<-GQ j e1];exact hj
  ·rw[ak e1,ay (by omega)];exact hj
 have hinv:∀j l,Ep μ' μ2 (aJ i).n (aJ (i+1)).n j=some l->(μ' j=some l)\/((aJ i).n<=j/\j<(aJ (i+1)).n/\μ2 j=some l):=fun j l hj=>by
  unfold Ep at hj
  split at hj
  ·exact .inl hj
  ·split at hj
   ·exact .inr ⟨by omega,by assumption,hj⟩
   ·exact .inl hj
 have vO:∀j,vL aJ bg i j->jM aJ bg (mw S i) N j=(aJ (i+1)).h.get j:=fun j ht=>Yfe hi ht (Zui T Or cO hi hS ht)
 have told:∀j l,μ' j=some l->¬j∈(bg i).wr->jM aJ bg (mw S i) N j=jM aJ bg S N j:=fun j l hj hnw=>Zh5 fun h=>h.elim hnw fun h=>Ak j l hj h
 have GR:∀j l o',μ' j=some l->jM aJ bg (mw S i) N j=some o'->∃o,jM aJ bg S N j=some o/\(o'.wr=true->o.wr=true)/\(o'.live=true->o.live=true):=fun j l o' hj ho=>by
  by_cases hw:j∈(bg i).wr
  ·have ax:=T.Wv i hi j hw
   have yp:=vN j ((pT j ax).2 hw)
   rw[vO j (.inl hw),<-cK j (.inl ⟨yp,ax⟩)]at ho
   obtain⟨o,q1,q2,q3⟩:=dJ.grow j o' (by omega) ho
   exact⟨o,by rw[<-jN j l hj ax yp];exact q1,q2,q3⟩
  ·rw[told j l hj hw]at ho
   exact⟨o',ho,id,id⟩
 have cwr:∀j∈ws,∀lj,Ai μ' (aJ i).n j=some lj->∃o,jM aJ bg S N j=some o/\o.wr=true:=fun j hj lj uB=>by
  obtain⟨h1,h2⟩:=Eo uB
  obtain⟨o,q1,q2⟩:=dJ.yX j hj (by omega)
  exact⟨o,by rw[<-jN j lj h2 h1 (vN j hj)];exact q1,q2⟩
 have Lg:∀j l,(aJ i).n<=j->μ2 j=some l->w'.heap.size<=l.b\/∃k lk,k∈ws/\k<(aJ i).n/\μ' k=some lk/\lk.b=l.b/\∃o,jM aJ bg S N k=some o/\o.wr=true:=fun j l hj hl=>by
  rcases dJ.new j l (by omega) hl with h|⟨k,hk,hkn,lk,ok,h1,h2,h3,h4⟩
  ·exact .inl h
  ·obtain⟨_,q2⟩:=Eo h1
   exact .inr ⟨k,lk,hk,by omega,q2,h2,cwr k hk lk h1⟩
 refine⟨fun j hj=>?_,fun j l hj=>?_,fun k hk hSk j h1 h2=>?_,fun j l hj=>?_,fun j k lj lk oj ok hj hk aW h1 h2 hw hl=>?_,⟨?_,fun t v hv=>?_⟩,?_,?_,fun j l GS hj=>?_⟩
 ·-- ext
  unfold Ep
  rw[ay (by omega)];exact I.ext j hj
 ·-- c_
  rcases hinv j l hj with h|⟨h1,h2,h3⟩
  ·obtain⟨d1,d2⟩:=I.c_ j l h
   refine⟨d1.imp id fun ⟨k,q1,q2,q3⟩=>⟨k,q1,?_,q3⟩,eY d2 dJ.ed.size⟩
   simp only[mw];split<;>first|rfl|exact q2
  ·exact⟨.inr ⟨i,hi,by simp[mw],h1,h2⟩,(dJ.hr.c_ j l h3).2⟩
 ·-- full
  by_cases e:k=i
  ·subst e
   obtain⟨l,hl⟩:=dJ.full j (by omega) (by omega)
   exact⟨l,CN j l hl⟩
  ·simp only[mw,e,if_false]at hSk
   obtain⟨l,hl⟩:=I.full k hk hSk j h1 h2
   exact⟨l,CM j l hl⟩
 ·-- obj
  rcases hinv j l hj with h|⟨h1,h2,h3⟩
  ·by_cases hw:j∈(bg i).wr
   ·have ax:=T.Wv i hi j hw
    have yp:=vN j ((pT j ax).2 hw)
    obtain⟨o,q1,q2⟩:=dJ.hr.obj j l (by rw[GQ j ax];exact h)
    exact⟨o,by rw[vO j (.inl hw),<-cK j (.inl ⟨yp,ax⟩)];exact q1,q2.mono CN⟩
   ·obtain⟨o,q1,q2⟩:=I.obj j l h
    refine⟨o,by rw[told j l h hw];exact q1,?_⟩
    cases hl:o.live with
    |false=>cases o<;>simp[O.live]at hl;trivial
    |true=>
     refine(q2.mono CM).congr (dJ.ed.block l.b (I.c_ j l h).2 fun k hk lk fJ=>?_)
     obtain⟨q3,q4⟩:=Eo fJ
     obtain⟨ok,q5,q6⟩:=cwr k hk lk fJ
     exact I.inj k j lk l ok o q4 h (fun hc=>hw (by rw[<-hc];exact(pT k q3).1 hk)) q5 q1 q6 hl
  ·obtain⟨o,q1,q2⟩:=dJ.hr.obj j l h3
   exact⟨o,by rw[vO j (.inr ⟨h1,h2⟩),<-cK j (.inr ⟨h1,h2⟩)];exact q1,q2.mono CN⟩
 ·-- inj
  have Es:∀j k lj lk oj ok,(aJ i).n<=j->j<(aJ (i+1)).n->μ2 j=some lj->μ' k=some lk->jM aJ bg (mw S i) N j=some oj->jM aJ bg (mw S i) N k=some ok->((oj.wr=true/\ok.live=true)\/(ok.wr=true/\oj.live=true))->lj.b≠lk.b:=by
   intro j k lj lk oj ok yr n_ WA hk Gf mL Et
   have CO:ok.live=true:=by
    rcases Et with h|h
    ·exact h.2
    ·have:=h.1;cases ok<;>simp_all [O.wr,O.live]
   rcases Lg j lj yr WA with h|⟨q,lq,h1,h2,h3,h4,o,h5,h6⟩
   ·have:=(I.c_ k lk hk).2;omega
   ·rw[<-h4]
    by_cases e:q=k
    ·subst e
     rw[h3,aq]at hk;subst hk
     have hwq:=(pT q h2).1 h1
     rw[vO j (.inr ⟨yr,n_⟩),<-cK j (.inr ⟨yr,n_⟩)]at Gf
     rw[vO q (.inl hwq),<-cK q (.inl ⟨vN q h1,h2⟩)]at mL
     have kp:μ2 q=some lq:=by rw[GQ q h2];exact h3
     exfalso
     rcases Et with hb|hb
     ·exact dJ.hr.inj j q lj lq oj ok WA kp (by omega) Gf mL hb.1 hb.2 h4.symm
     ·exact dJ.hr.inj q j lq lj ok oj kp WA (by omega) mL Gf hb.1 hb.2 h4
    ·obtain⟨Lh,g1,g2,g3⟩:=GR k lk ok hk mL
     exact I.inj q k lq lk o Lh h3 hk e h5 g1 h6 (g3 CO)
  rcases hinv j lj hj with KZ|⟨a1,a2,a3⟩
  ·rcases hinv k lk hk with gH|⟨b1,b2,b3⟩
   ·obtain⟨oj0,g1,g2,g3⟩:=GR j lj oj KZ h1
    obtain⟨Lh,g4,g5,g6⟩:=GR k lk ok gH h2
    exact I.inj j k lj lk oj0 Lh KZ gH aW g1 g4 (g2 hw) (g6 hl)
   ·exact(Es k j lk lj ok oj b1 b2 b3 KZ h2 h1 (.inr ⟨hw,hl⟩)).symm
  ·rcases hinv k lk hk with gH|⟨b1,b2,b3⟩
   ·exact Es j k lj lk oj ok a1 a2 a3 gH h1 h2 (.inl ⟨hw,hl⟩)
   ·rw[vO j (.inr ⟨a1,a2⟩),<-cK j (.inr ⟨a1,a2⟩)]at h1
    rw[vO k (.inr ⟨b1,b2⟩),<-cK k (.inr ⟨b1,b2⟩)]at h2
    exact dJ.hr.inj j k lj lk oj ok a3 b3 aW h1 h2 hw hl
 ·-- the temporaries' count
  cases hd:ds i<;>simp[Act.put,I.vH.1]
 ·-- the temporaries
  by_cases ht:ds i=some t
  ·rw[Yfd Pu hi ht (Yep Or cO qg hi hS ht),aq]at hv
   subst hv
   refine⟨x,?_,VR.mono CN _ _ hx⟩
   rw[ht]
   simp[Act.put,I.vH.1,yq t ht]
  ·rw[Zh4 ht]at hv
   obtain⟨y,q1,q2⟩:=I.vH.2 t v hv
   refine⟨y,?_,VR.mono CM _ _ q2⟩
   cases hd:ds i with
   |none=>simpa[Act.put]using q1
   |some d=>
    have:d≠t:=fun hc=>ht (by rw[hd,hc])
    simp only[Act.put]
    rw[P3 this];exact q1
 ·-- the marks
  have:(a'.put (ds i) x).defers=a'.defers:=by cases ds i<;>rfl
  rw[this];exact I.defs.mono CM
 ·-- the frame
  refine⟨dJ.ed.os.trans I.ed.os,dJ.ed.tape.trans I.ed.tape,dJ.ed.output.trans I.ed.output,tk I.ed.size dJ.ed.size,fun b hb du=>?_⟩
  rw[dJ.ed.block b (eY hb I.ed.size) fun j hj lj uB=>?_,I.ed.block b hb du]
  obtain⟨q1,q2⟩:=Eo uB
  by_cases e:j<(aJ 0).n
  ·exact du j (hW i hi j ((pT j q1).1 hj)) lj (by rw[<-I.ext j e];exact q2)
  ·rcases I.new j lj (by omega) q2 with h|⟨k,hk,_,lk,_,h3,h4,_⟩
   ·omega
   ·rw[<-h4];exact du k hk lk h3
 ·-- new ids
  rcases hinv j l hj with h|⟨h1,h2,h3⟩
  ·exact I.new j l GS h
  ·rcases Lg j l h1 h3 with h|⟨q,lq,q1,q2,q3,q4,o,q5,q6⟩
   ·exact .inl (tk I.ed.size h)
   ·by_cases e:q<(aJ 0).n
    ·have hqW:=hW i hi q ((pT q q2).1 q1)
     obtain⟨oi,g1,g2⟩:=T.yX i hi q ((pT q q2).1 q1)
     obtain⟨o0,g3,g4⟩:=T.Er (by omega) e g1 g2
     exact .inr ⟨q,hqW,e,lq,o0,by rw[<-I.ext q e];exact q3,q4,g3,g4⟩
    ·rcases I.new q lq (by omega) q3 with h|⟨k,hk,g1,lk,ok,g2,g3,g4⟩
     ·exact .inl (by omega)
     ·exact .inr ⟨k,hk,g1,lk,ok,g2,g3.trans q4,g4⟩
end
section
variable {P:Program} {μ:Mu} {w:World} {st az:St} {fr bE:Fr} {a:Act} {call:cD} {v:V} {lb:Option Nat}
def Zzu:∀(l:List Nat) (n j:Nat),j<n->(j∈av n l↔j∈l):=by
 intro l n i hi
 induction l with
 |nil=>simp[av]
 |cons j l ih=>
  simp only[av]
  split
  ·unfold vD
   split
   ·rename_i hc
    simp only[kv,ih]
    simp only[P7]at hc
    constructor
    ·exact .inr
    ·rintro(rfl|h)
     ·exact ih.1 hc
     ·exact h
   ·simp only[kv,ih]
  ·simp only[kv,ih]
   constructor
   ·exact .inr
   ·rintro(rfl|h)
    ·omega
    ·exact h
def Yiq(bY:jv P call)(hE:ue P){ops:Array Oper}{Q:Exit->Act->World->Prop}{aJ:Nat->St}{bq:Nat->Fr}{vI:Nat->V}{bg:Nat->FP}{S:Nat->Bool}{W:List Nat}{μ':Mu}{a':Act}{w':World}
  (h0:bm P μ w (aJ 0)) (hs:∀i o,ops[i]?=some o->Al P call ops o (aJ i) (bq i) (vI i) (bg i) (aJ (i+1)) (bq (i+1)))
  (T:vK P μ aJ bq bg ops.size) {ds:Nat->Option Nat} {mo:Nat->dq} (Eu:∀i o,ops[i]?=some o->mo i=qW P ops o) (qg:∀k,k<ops.size->ds k=(mo k).dst) (Pu:GP bq ds vI ops.size)
  {lA:Nat->Nat->Prop} (Or:Ord bg mo ops.size lA) (I:Inv P μ w aJ bq bg ds ops.size W S μ' a' w') (cO:∀k,S k=true->∀i,lA k i->S i=true) (hW:∀k,k<ops.size->∀j∈(bg k).wr,j∈W)
  (Am:∀i,i<ops.size->∀ds,pJ μ' (bq 0).marks ds->pJ (Ai μ' (aJ i).n) (bq 0).marks ds)
  {i:Nat} (hi:i<ops.size) (hS:S i=false) (hb:∀j,lA i j->S j=true) {K:Act->World->Prop}
  (hK:∀μ2 a2 w2,Inv P μ w aJ bq bg ds ops.size W (mw S i) μ2 a2 w2->K a2 w2):wpOpIn (FE lb) 0 P ops Q i K a' w':=by
 have ho:ops[i]?=some ops[i]:=Array.getElem?_eq_getElem hi
 obtain⟨g,b,hg,hw,hp,ht,Li⟩:=hs i _ ho
 have hmi:=Eu i _ ho
 have GU:mo i=⟨ops[i].dst,zR P ops[i].op,g⟩:=by rw[hmi];unfold qW;rw[hg]
 have iQ:ds i=ops[i].dst:=by rw[qg i hi,GU]
 have GV:∀s∈(zR P ops[i].op).CC,∀t∈s.tmps,t∈(mo i).reads:=fun s hs t ht=>by
  rw[GU];simp only[dq.reads,kh,List.mem_flatMap];exact .inr ⟨s,hs,ht⟩
 have hRR:=Yjo T Pu I Or cO qg hi hS hb
 have xq:bR (Aj (bq i).r (mo i).reads) g=bR (bq i).r g:=by
  cases g with
  |none=>rfl
  |some p=>
   obtain⟨t,want⟩:=p
   simp only[bR]
   rw[Lf,ay (by rw[GU];simp[dq.reads])]
 have yq:∀d,ds i=some d->d<(bq 0).n:=fun d hd=>by
  rw[iQ]at hd
  rw[hd]at hp
  simp only[Fr.put]at hp
  split at hp
  ·rename_i ax;rw[<-(T.fn i (by omega)).1];exact ax
  ·cases hp
 unfold wpOpIn
 rw[ho]
 simp only[]
 have hwd:Region.wanted ops[i] (yielded ops a'.tmps)=b:=Zpb (fr:={r:=Aj (bq i).r (mo i).reads,n:=(bq 0).n,marks:=[]}) (a:=a') hRR hg (by rw[xq];exact hw)
 cases b with
 |true=>
  rw[ay hwd]
  obtain⟨s',hm,iL,Lj⟩:=ht rfl
  obtain⟨σ,σ',k1,k2,k3,k4,k5,k6,k7,k8,k9⟩:=Yil (ws:=av (aJ i).n s'.w) (lo:=(aJ i).n) (hi:=s'.n) hm rfl
  rw[<-Lj]at k6 k7 k8 k9
  obtain⟨tC,jN⟩:=Ye8 h0 T I Or cO hi hS hb k1 k6 k7
  have sV:mT (Ai μ' (aJ i).n) {r:=Aj (bq i).r (mo i).reads,n:=(bq 0).n,marks:=(bq 0).marks} a':=⟨hRR,Am i hi _ I.defs⟩
  have hm2:cj (zR P ops[i].op) call (Aj (bq i).r (mo i).reads) σ=some (vI i,σ'):=by
   rw[Ydf (r':=(bq i).r) fun s hs=>Ypa (GV s hs)];exact k3
  refine WB bY hE tC sV hm2 fun x w2 μ2 ws hv dJ=>?_
  have pT:ws=s'.w:=by
   have:=dJ.wl
   rw[k2,k5,zy]at this
   exact this.symm
  have sO:(aJ (i+1)).n=s'.n:=by rw[iL]
  have hh':(aJ (i+1)).h=s'.h:=by rw[iL]
  have hinv:=Zxn h0 T Pu I Or cO qg hW hi hS yq tC jN k1 (by rw[k4,sO]) dJ (fun j hj=>by
   rw[pT,Lj,(WC (call:=call) hm _ _).1]
   exact(Zzu _ _ _ hj).symm) (fun j hj=>k9 j (by rw[<-pT];exact hj)) (fun j hj=>by rw[hh'];exact k8 j (by rw[sO]at hj;exact hj)) hv
  rw[iQ]at hinv
  exact hK _ _ _ hinv
 |false=>
  rw[ak (by rw[hwd];simp)]
  obtain⟨hv,iL,Lj⟩:=Li rfl
  refine⟨fun _ _=>trivial,?_⟩
  have vN:∀j,¬(bg i).dk j:=fun j=>by rw[Lj];simp[FP.dk]
  obtain⟨tC,jN⟩:=Ye8 (σ:=⟨rj (aJ i).h [] (aJ i).n,(aJ i).n,[]⟩) h0 T I Or cO hi hS hb rfl (fun j _ hj=>absurd hj (vN j)) (fun j hj _=>by
   show (rj (aJ i).h [] (aJ i).n).get j=_
   rw[JA,ay hj];simp)
  have sO:(aJ (i+1)).n=(aJ i).n:=by rw[iL]
  have:=Zxn (x:=undef) (ws:=[]) (σ':=⟨rj (aJ i).h [] (aJ i).n,(aJ i).n,[]⟩) h0 T Pu I Or cO qg hW hi hS yq tC jN rfl sO.symm (bH.refl tC) (fun j hj=>by rw[Lj]) (fun j hj=>by simp at hj) (fun j hj=>by
   rcases hj with⟨h,_⟩|⟨h1,h2⟩
   ·exact absurd h (vN j)
   ·omega) (by rw[hv];exact⟨[],rfl,by simp[aS]⟩)
  rw[iQ]at this
  exact hK _ _ _ this
def Zl3:∀{os:List Oper} {b:Nat},Jb b os=true->∀i o,os[i]?=some o->∀e∈o.after,Region.binds .any e=true->e.on<b+i
 |[],b,_,i,o,h,_,_,_=>by simp at h
 |o0::os,b,h,i,o,ho,e,he,hb=>by
  simp only[Jb,iy]at h
  cases i with
  |zero=>
   simp only[Bm,aq]at ho
   subst ho
   have h1:=h.1
   rw[VX]at h1
   have:=h1 e he
   rw[hb]at this
   simpa[Nat.blt_eq]using this
  |succ i=>
   have:=Zl3 h.2 i o (by simpa using ho) e he hb
   omega
def Ya4{ops:Array Oper}(he:Jb 0 ops.toList=true){listed:Array Bool}(kX:listed.size=ops.size)(hr:Region.ready .any ops listed=[]):∀k,k<ops.size->listed.getD k false=true:=by
 intro k
 induction k using Nat.strongRecOn with
 |_ k ih=>
  intro hk
  refine Classical.byContradiction fun hn=>?_
  have vP:k∈Region.ready .any ops listed:=by
   unfold Region.ready
   simp only[List.mem_filter,zq,iy,Gi]
   refine⟨hk,?_,?_⟩
   ·have fJ:k<listed.size:=by omega
    simp only[Array.getD,fJ,dif_pos]at hn ⊢
    simpa using hn
   ·have ho:ops[k]?=some ops[k]:=Array.getElem?_eq_getElem hk
    rw[ho]
    simp only[xV,pd,VX,Gj,Gi]
    intro e Lk
    cases hb:Region.binds .any e with
    |false=>exact .inl rfl
    |true=>
     have:=Zl3 he k ops[k] (by rw[Ck];exact ho) e Lk hb
     exact .inr (ih e.on (by omega) (by omega))
  rw[hr]at vP
  cases vP
def Yfc{p q:Nat->Bool}{i:Nat}(hp:p i=true)(hq:q i=false)(ho:∀k,k≠i->q k=p k):∀N,i<N->(List.range N).countP q+1=(List.range N).countP p:=by
 have same:∀N,N<=i->(List.range N).countP q=(List.range N).countP p:=by
  intro N
  induction N with
  |zero=>intro _;rfl
  |succ N ih=>
   intro h
   rw[List.range_succ,List.countP_append,List.countP_append,ih (by omega)]
   simp[ho N (by omega)]
 intro N
 induction N with
 |zero=>intro h;omega
 |succ N ih=>
  intro h
  rw[List.range_succ,List.countP_append,List.countP_append]
  by_cases e:N=i
  ·subst e
   rw[same N (aQ _)]
   simp[hp,hq]
  ·have:=ih (by omega)
   simp only[List.countP_singleton,ho N e]
   omega
end
section
variable {P:Program} {μ:Mu} {w:World} {st az:St} {fr bE:Fr} {a:Act} {call:cD} {v:V} {lb:Option Nat}
def Yka{listed:Array Bool}{i:Nat}(hi:i<listed.size):(fun k=>(listed.setIfInBounds i true).getD k false)=mw (fun k=>listed.getD k false) i:=by
 funext k
 simp only[mw,Gg]
 by_cases e:k=i
 ·subst e;simp[hi]
 ·rw[P3 (Ne.symm e),ak e]
def Ysq(bY:jv P call)(hE:ue P){ops:Array Oper}{Q:Exit->Act->World->Prop}{aJ:Nat->St}{bq:Nat->Fr}{vI:Nat->V}{bg:Nat->FP}{W:List Nat}
  (h0:bm P μ w (aJ 0)) (hs:∀i o,ops[i]?=some o->Al P call ops o (aJ i) (bq i) (vI i) (bg i) (aJ (i+1)) (bq (i+1)))
  (T:vK P μ aJ bq bg ops.size) {ds:Nat->Option Nat} {mo:Nat->dq} (Eu:∀i o,ops[i]?=some o->mo i=qW P ops o) (qg:∀k,k<ops.size->ds k=(mo k).dst) (Pu:GP bq ds vI ops.size)
  (Or:Ord bg mo ops.size (fun k i=>((vn ops.toList []).getD k 0).testBit i=true)) (hW:∀k,k<ops.size->∀j∈(bg k).wr,j∈W) (An:Jb 0 ops.toList=true)
  (Am:∀μ',(∀j,j<(aJ 0).n->μ' j=μ j)->∀i,i<ops.size->∀ds,pJ μ' (bq 0).marks ds->pJ (Ai μ' (aJ i).n) (bq 0).marks ds)
  (hQ:∀S μ' a' w',(∀k,k<ops.size->S k=true)->Inv P μ w aJ bq bg ds ops.size W S μ' a' w'->Q .normal a' w'):
  ∀(fuel:Nat) (listed:Array Bool) (μ':Mu) (a':Act) (w':World),listed.size=ops.size->(List.range ops.size).countP (fun k=>!listed.getD k false)=fuel->
   (Ylr ops fun k=>listed.getD k false=true)->Inv P μ w aJ bq bg ds ops.size W (fun k=>listed.getD k false) μ' a' w'->wpAnyIn (FE lb) 0 P .any ops Q fuel listed a' w':=by
 intro fuel
 induction fuel with
 |zero=>
  intro listed μ' a' w' kX hc cO I
  have Ll:∀k,k<ops.size->listed.getD k false=true:=fun k hk=>by
   rw[List.countP_eq_zero]at hc
   have:=hc k (zq.2 hk)
   simpa using this
  refine⟨?_,hQ _ μ' a' w' Ll I⟩
  refine List.eq_nil_iff_forall_not_mem.2 fun j hj=>?_
  obtain⟨h1,h2,_⟩:=Zpr cO hj
  have:=Ll j h1
  simp only[Gg]at h2 this
  have n_:j<listed.size:=by omega
  simp[n_]at h2 this
  rw[h2]at this;cases this
 |succ fuel ih=>
  intro listed μ' a' w' kX hc cO I
  refine⟨fun hr=>hQ _ μ' a' w' (Ya4 An kX hr) I,fun i hi=>?_⟩
  obtain⟨h1,h2,h3⟩:=Zpr cO hi
  have xX:i<listed.size:=by omega
  have hSi:listed.getD i false=false:=by
   simp only[Gg]at h2 ⊢
   simp[xX]at h2 ⊢
   exact h2
  refine Yiq (S:=fun k=>listed.getD k false) bY hE h0 hs T Eu qg Pu Or I (fun k hk i hb=>cO k i hk hb) hW (Am μ' I.ext) h1 hSi h3 fun μ2 a2 w2 I2=>?_
  have rk:=Yka (listed:=listed) xX
  refine ih (listed.setIfInBounds i true) μ2 a2 w2 (by simp[kX]) ?_ ?_ (by rw[rk];exact I2)
  ·have:=Yfc (p:=fun k=>!listed.getD k false) (q:=fun k=>!(listed.setIfInBounds i true).getD k false) (i:=i) (by simp[hSi]) (by
    have:=congrFun rk i
    simp only[this];simp[mw]) (fun k hk=>by
    have:=congrFun rk k
    simp only[this];simp[mw,hk]) ops.size h1
   omega
  ·intro k j hk hb
   have e1:=congrFun rk k
   have e2:=congrFun rk j
   simp only[e1,e2,mw]at hk ⊢
   by_cases ej:j=i
   ·rw[ay ej]
   ·rw[ak ej]
    by_cases ek:k=i
    ·subst ek;exact h3 j hb
    ·rw[ak ek]at hk;exact cO k j hk hb
def pJ.Lm{μ μ' μ2:Mu}{n:Nat}(hd:∀i l,μ i=some l->i<n)(h:∀i l,i<n->μ' i=some l->μ2 i=some l):∀{ms:List Nat} {ds Ev:List Deferred},pJ μ ms ds->pJ μ' ms Ev->pJ μ2 ms Ev
 |[],_,_,_,h2=>h2
 |m::ms,_,_,⟨l,_,h1,_,h3⟩,⟨l',d',g1,g2,g3⟩=>⟨l',d',h m l' (hd m l h1) g1,g2,pJ.Lm hd h h3 g3⟩
def Zpf{aJ:Nat->St}{bq:Nat->Fr}{bg:Nat->FP}{N:Nat}(T:vK P μ aJ bq bg N)(j:Nat):∀i,i<=N->(aJ 0).n<=j->j<(aJ i).n->∃k,k<i/\(aJ k).n<=j/\j<(aJ (k+1)).n
 |0,_,h1,h2=>by omega
 |i+1,hi,h1,h2=>by
  by_cases e:j<(aJ i).n
  ·obtain⟨k,a1,a2⟩:=Zpf T j i (by omega) h1 e
   exact⟨k,by omega,a2⟩
  ·exact⟨i,by omega,by omega,h2⟩
def Zr5{aJ:Nat->St}{bq:Nat->Fr}{bg:Nat->FP}{N:Nat}(T:vK P μ aJ bq bg N):∀i,i<=N->∃Wi,(aJ i).w=Wi++(aJ 0).w/\∀k,k<i->∀j∈(bg k).wr,j∈Wi
 |0,_=>⟨[],rfl,fun k hk=>by omega⟩
 |i+1,hi=>by
  obtain⟨Wi,h1,h2⟩:=Zr5 T i (by omega)
  refine⟨(bg i).wr++Wi,by rw[T.wl i (by omega),h1,tv],fun k hk j hj=>?_⟩
  by_cases e:k=i
  ·subst e;simp[hj]
  ·simp[h2 k (by omega) j hj]
def Yeq(hm:P.follows .mixedOrders=true)(hE:ue P)(bY:jv P call):Ylq P call:=by
 intro id ops fr st ex bE az hp h μ w a lb hh hf
 unfold VU at hp
 simp only[iy]at hp
 obtain⟨An,WD⟩:=hp
 unfold Ac at h
 split at h
 ·rename_i h_ dT bS bM
  split at h
  ·rename_i GW
   simp only[aq,bs]at h
   obtain⟨rfl,rfl,rfl⟩:=h
   obtain⟨aJ,bq,vI,bg,e1,e2,e3,e4,e5,hs⟩:=Zsz ops.toList fr st h_ dT bS bM
   subst e1 e2
   have hN:ops.toList.length=ops.size:=by simp
   rw[hN]at e3 e4 e5
   have jl:∀i o,ops[i]?=some o->Al P call ops o (aJ i) (bq i) (vI i) (bg i) (aJ (i+1)) (bq (i+1)):=fun i o ho=>(hs i o (by rw[Ck];exact ho)).2
   have T:=Yqo bY hE hN hh hf fun i o ho=>(hs i o ho).2
   let mo:Nat->dq:=fun i=>match ops[i]? with|some o=>qW P ops o|none=>⟨none,.stop,none⟩
   have Eu:∀i o,ops[i]?=some o->mo i=qW P ops o:=fun i o ho=>by simp only[mo,ho]
   have WE:∀i o,ops[i]?=some o->(mo i).dst=o.dst:=fun i o ho=>by rw[Eu i o ho];unfold qW;split<;>rfl
   have cK:∀i,i<ops.size->ops[i]?=some (ops[i]!):=fun i hi=>by simp[hi]
   have Pu:GP bq (fun k=>(mo k).dst) vI ops.size:=fun i hi t=>by
    obtain⟨g,b,_,_,hp,_⟩:=jl i _ (cK i hi)
    show (bq (i+1)).r.get t=if (mo i).dst=some t then some (vI i) else (bq i).r.get t
    rw[WE i _ (cK i hi)]
    cases hd:(ops[i]!).dst with
    |none=>rw[hd]at hp;simp only[Fr.put,aq]at hp;rw[<-hp];simp
    |some d=>
     rw[hd]at hp
     simp only[Fr.put]at hp
     split at hp
     ·simp only[aq]at hp
      rw[<-hp,Go.Mx.T.ag]
      by_cases e:t=d
      ·subst e;simp
      ·rw[ak e,ak (by simp[Ne.symm e])]
     ·cases hp
   have Or:Ord bg mo ops.size (fun k i=>((vn ops.toList []).getD k 0).testBit i=true):=by
    refine⟨fun i k Ln hk=>?_,fun i k Ln hk=>?_⟩
    ·exact Zw0 GW Ln ((hs i _ (by rw[Ck];exact cK i (by omega))).1) ((hs k _ (by rw[Ck];exact cK k hk)).1)
    ·refine Zw0 WD Ln ?_ ?_
     ·rw[fV,Ck,cK i (by omega),xV,Eu i _ (cK i (by omega))]
     ·rw[fV,Ck,cK k hk,xV,Eu k _ (cK k hk)]
   obtain⟨W,Ew,dZ⟩:=Zr5 T ops.size (aQ _)
   obtain⟨wT,μT,aT,WG,Qq,hT2⟩:=Zx8 bY hE hN hh hf (fun i o ho=>(hs i o ho).2) ops.size (aQ _)
   have WH:WG=W:=List.append_cancel_right (Qq.wl.symm.trans Ew)
   subst WH
   have Ao:∀k,(Array.replicate ops.size false).getD k false=false:=fun k=>by
    simp only[Gg]
    by_cases hk:k<ops.size
    ·simp[hk]
    ·simp[hk]
   have hcH:∀M j,jM aJ bg (fun k=>(Array.replicate ops.size false).getD k false) M j=(aJ 0).h.get j:=fun M j=>Zip (i:=0) (uw _) fun k _ _ _=>Ao k
   have hcR:∀M t,vJ bq (fun k=>(mo k).dst) (fun k=>(Array.replicate ops.size false).getD k false) M t=(bq 0).r.get t:=fun M t=>Qp (i:=0) (uw _) fun k _ _ _=>Ao k
   have I0:Inv P μ w aJ bq bg (fun k=>(mo k).dst) ops.size WG (fun k=>(Array.replicate ops.size false).getD k false) μ a {w with drawn:=w.drawn+1}:=by
    refine⟨fun _ _=>rfl,fun j l hj=>⟨.inl (hh.c_ j l hj).1,(hh.c_ j l hj).2⟩,fun k _ hk=>?_,fun j l hj=>?_,fun i j l l' o o' h1 h2 h3 h4 h5=>?_,⟨hf.1.1,fun t v hv=>?_⟩,hf.2,⟨rfl,rfl,rfl,aQ _,fun _ _ _=>rfl⟩,fun i l h1 h2=>absurd (hh.c_ i l h2).1 (by omega)⟩
    ·rw[Ao k]at hk;cases hk
    ·obtain⟨o,q1,q2⟩:=hh.obj j l hj
     exact⟨o,by rw[hcH];exact q1,OM.congr (w:=w) rfl q2⟩
    ·rw[hcH]at h4 h5
     exact hh.inj i j l l' o o' h1 h2 h3 h4 h5
    ·rw[hcR]at hv
     exact hf.1.2 t v hv
   refine wpIn_region_any hm (Ysq bY hE hh jl T Eu (fun _ _=>rfl) Pu Or dZ An ?_ ?_ ops.size _ μ a _ (by simp) ?_ ?_ I0)
   ·intro μ' vQ i hi ds qg
    exact pJ.Lm (n:=(aJ 0).n) (fun j l hj=>(hh.c_ j l hj).1) (fun j l hj hl=>by
     have:=T.mono (i:=0) (k:=i) (by omega) (by omega)
     rw[Ld (by omega)];exact hl) hf.2 qg
   ·intro S μ' a' w' hS I
    have WI:∀j,j<(aJ ops.size).n->jM aJ bg S ops.size j=(aJ ops.size).h.get j:=fun j hj=>Wy T (aQ _) hj fun k hk _=>hS k hk
    have hfR:∀t,vJ bq (fun k=>(mo k).dst) S ops.size t=(bq ops.size).r.get t:=fun t=>Wz Pu (aQ _) fun k hk _=>hS k hk
    have CP:∀j l,μ' j=some l->j<(aJ ops.size).n:=fun j l hj=>by
     rcases(I.c_ j l hj).1 with h|⟨k,h1,_,_,h2⟩
     ·have:=T.mono (i:=0) (k:=ops.size) (by omega) (by omega);omega
     ·have:=T.mono (i:=k+1) (k:=ops.size) (by omega) (by omega);omega
    rw[<-e3,<-e4]
    refine⟨rfl,μ',WG,⟨⟨fun j l hj=>⟨CP j l hj,(I.c_ j l hj).2⟩,fun j l hj=>?_,fun i j l l' o o' h1 h2 h3 h4 h5=>?_,fun g hg=>?_⟩,I.ext,T.mono (uw _) (aQ _),Ew,I.ed,I.new,Qq.ae,Qq.grow,fun j h1 h2=>?_,Qq.yX⟩,⟨?_,fun t v hv=>?_⟩,?_⟩
    ·obtain⟨o,q1,q2⟩:=I.obj j l hj
     exact⟨o,by rw[<-WI j (CP j l hj)];exact q1,q2⟩
    ·exact I.inj i j l l' o o' h1 h2 h3 (by rw[WI i (CP i l h1)];exact h4) (by rw[WI j (CP j l' h2)];exact h5)
    ·obtain⟨t,ht⟩:=hh.gU g hg
     exact⟨t,by rw[I.ext g (hh.c_ g _ ht).1];exact ht⟩
    ·obtain⟨k,q1,q2,q3⟩:=Zpf T j ops.size (aQ _) h1 h2
     exact I.full k q1 (hS k q1) j q2 q3
    ·rw[(T.fn ops.size (aQ _)).1];exact I.vH.1
    ·exact I.vH.2 t v (by rw[hfR];exact hv)
    ·rw[(T.fn ops.size (aQ _)).2];exact I.defs
   ·have:(fun k=>!(Array.replicate ops.size false).getD k false)=fun _=>true:=by funext k;rw[Ao];rfl
    rw[this];simp
   ·intro k i hk
    rw[Ao k]at hk;cases hk
  ·cases h
 ·cases h
end
end Go.Mx
