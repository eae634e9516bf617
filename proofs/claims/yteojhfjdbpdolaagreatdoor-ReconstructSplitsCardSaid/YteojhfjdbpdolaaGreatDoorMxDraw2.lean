/-A region that draws its order-/
import Derived.Test.YteojhfjdbpdolaaGreatDoorMxLoc
set_option linter.all false
namespace Go.Mx
open Go
structure Inv (P:Program) (μ:Mu) (w:World) (aL:Nat->St) (bq:Nat->Fr) (bf:Nat->FP) (ds:Nat->Option Nat) (N:Nat) (W:List Nat) (S:Nat->Bool) (μ':Mu) (a':Act) (w':World):Prop where
 ext:∀j,j<(aL 0).n->μ' j=μ j
 dc:∀j l,μ' j=some l->(j<(aL 0).n\/∃k,k<N/\S k=true/\(aL k).n<=j/\j<(aL (k+1)).n)/\l.b<w'.heap.size
 full:∀k,k<N->S k=true->∀j,(aL k).n<=j->j<(aL (k+1)).n->∃l,μ' j=some l
 obj:∀j l,μ' j=some l->∃o,jI aL bf S N j=some o/\OM P μ' w' o l
 inj:∀i j l l' o o',μ' i=some l->μ' j=some l'->i≠j->jI aL bf S N i=some o->jI aL bf S N j=some o'->o.wr=true->o'.live=true->l.b≠l'.b
 vD:a'.tmps.size=(bq 0).n/\∀t v,vE bq ds S N t=some v->∃x,a'.tmps[t]?=some x/\VR μ' v x
 defs:pA μ' (bq 0).marks a'.defers
 eg:K3 μ W w w'
 new:∀i l,(aL 0).n<=i->μ' i=some l->w.heap.size<=l.b\/∃j∈W,j<(aL 0).n/\∃lj oj,μ j=some lj/\lj.b=l.b/\(aL 0).h.get j=some oj/\oj.wr=true
structure Ord (bf:Nat->FP) (mo:Nat->dw) (N:Nat) (kQ:Nat->Nat->Prop):Prop where
 free:∀i k,i<k->k<N->kQ k i\/FP.free (bf i) (bf k)=true
 tmp:∀i k,i<k->k<N->kQ k i\/Qe (mo i) (mo k)=true
section
variable {P:Program} {μ μ':Mu} {w w':World} {aL:Nat->St} {bq:Nat->Fr} {bf:Nat->FP} {ds:Nat->Option Nat} {S:Nat->Bool} {N:Nat} {W:List Nat} {a a':Act} {mo:Nat->dw} {kQ:Nat->Nat->Prop}
def vF.mono(T:vF P μ aL bq bf N):∀{i k:Nat},i<=k->k<=N->(aL i).n<=(aL k).n
 |i,0,h,_=>by rw[Nat.le_zero.1 h];exact aM _
 |i,k+1,h,hk=>by
  by_cases e:i=k+1
  ·rw[e];exact aM _
  ·exact k_ (T.mono (i:=i) (k:=k) (by omega) (by omega)) (T.fx k (by omega))
def QA{a b:FP}(h:FP.free a b=true):(∀j∈a.wr,¬b.dk j)/\(∀j∈a.wr,j∉b.wr)/\(∀j∈b.wr,¬a.dk j)/\∀j∈b.wr,¬(a.lo<=j/\j<a.hi):=by
 unfold FP.free at h
 simp only[Gf,Bool.or_eq_false_iff]at h
 obtain⟨⟨⟨h1,h2⟩,h3⟩,h4⟩:=h
 have key:∀(l:List Nat) (o:Option (List Nat)),CB l o=false->∀j∈l,¬(match o with|none=>True|some q=>j∈q):=by
  intro l o h j hj
  cases o with
  |none=>
   simp only[CB,Bool.not_eq_false',List.isEmpty_iff]at h
   subst h;simp at hj
  |some q=>
   simp only[CB,List.any_eq_false,Ql]at h
   exact h j hj
 refine⟨fun j hj=>?_,fun j hj=>?_,fun j hj=>?_,fun j hj=>?_⟩
 ·have:=key _ _ h1 j hj
  unfold FP.dk
  exact this
 ·exact key _ _ h2 j hj
 ·have:=key _ _ h3 j hj
  unfold FP.dk
  exact this
 ·simp only[List.any_eq_false]at h4
  have:=h4 j hj
  intro hc
  apply this
  simp[Nat.ble_eq,Nat.blt_eq,hc.1,hc.2]
def Zz3(T:vF P μ aL bq bf N)(I:Inv P μ w aL bq bf ds N W S μ' a' w')(Or:Ord bf mo N kQ)(cN:∀k,S k=true->∀i,kQ k i->S i=true){i:Nat}(hi:i<N)(hS:S i=false)(hb:∀j,kQ i j->S j=true)
  {j:Nat} {l:L} (hj:μ' j=some l) (ay:j<(aL i).n) (hs:(bf i).dk j):
  (∀k,k<i->vG aL bf k j->S k=true)/\(∀k,i<=k->k<N->vG aL bf k j->S k=false):=by
 refine⟨fun k hk ht=>?_,fun k hk CN ht=>?_⟩
 ·rcases ht with ht|⟨h1,h2⟩
  ·rcases Or.free k i hk hi with h|h
   ·exact hb k h
   ·exact absurd hs ((QA h).1 j ht)
  ·rcases(I.dc j l hj).1 with h0|⟨k',h3,h4,h5,h6⟩
   ·have:=T.mono (i:=0) (k:=k) (by omega) (by omega)
    omega
   ·have:k'=k:=by
     rcases Nat.lt_trichotomy k k' with h|h|h
     ·have:=T.mono (i:=k+1) (k:=k') (by omega) (by omega);omega
     ·exact h.symm
     ·have:=T.mono (i:=k'+1) (k:=k) (by omega) (by omega);omega
    subst this;exact h4
 ·by_cases e:k=i
  ·rw[e];exact hS
  ·rcases ht with ht|⟨h1,h2⟩
   ·rcases Or.free i k (by omega) CN with h|h
    ·cases hq:S k with
     |false=>rfl
     |true=>rw[cN k hq i h]at hS;cases hS
    ·exact absurd hs ((QA h).2.2.1 j ht)
   ·have:=T.mono (i:=i) (k:=k) hk (by omega)
    omega
def Zu5(T:vF P μ aL bq bf N)(Or:Ord bf mo N kQ)(cN:∀k,S k=true->∀i,kQ k i->S i=true){i:Nat}(hi:i<N)(hS:S i=false)
  {j:Nat} (ht:vG aL bf i j):∀k,i<k->k<N->vG aL bf k j->S k=false:=by
 intro k hk CN er
 have Li:=Or.free i k hk CN
 have Lj:kQ k i->S k=false:=fun h=>by
  cases hq:S k with
  |false=>rfl
  |true=>rw[cN k hq i h]at hS;cases hS
 rcases Li with h|h
 ·exact Lj h
 ·exfalso
  have hm:=T.mono (i:=i+1) (k:=k) (by omega) (by omega)
  have ix:=T.fx i hi
  rcases ht with ht|⟨h1,h2⟩
  ·rcases er with er|⟨h3,h4⟩
   ·exact(QA h).2.1 j ht er
   ·have:=T.WJ i hi j ht;omega
  ·rcases er with er|⟨h3,h4⟩
   ·refine(QA h).2.2.2 j er ⟨?_,?_⟩
    ·rw[T.lo i hi];exact h1
    ·rw[T.hi i hi];exact h2
   ·omega
def WK{d:Option Nat}{l:List Nat}(h:La d l=false):∀t,d=some t->t∉l:=by
 intro t ht hm
 subst ht
 simp only[La]at h
 have:l.contains t=true:=Ql.2 hm
 rw[this]at h;cases h
def WL{a b:dw}(h:Qe a b=true):(∀t,a.dst=some t->t∉b.reads)/\(∀t,b.dst=some t->t∉a.reads)/\∀t,a.dst=some t->b.dst≠some t:=by
 unfold Qe at h
 simp only[Gf,Bool.or_eq_false_iff]at h
 obtain⟨⟨h1,h2⟩,h3⟩:=h
 exact⟨WK h1,WK h2,fun t ht hb=>WK h3 t ht (by rw[hb];simp)⟩
def Zz6(Or:Ord bf mo N kQ)(cN:∀k,S k=true->∀i,kQ k i->S i=true)(nW:∀k,k<N->ds k=(mo k).dst){i:Nat}(hi:i<N)(hS:S i=false)(hb:∀j,kQ i j->S j=true)
  {t:Nat} (ht:t∈(mo i).reads):(∀k,k<i->ds k=some t->S k=true)/\(∀k,i<=k->k<N->ds k=some t->S k=false):=by
 refine⟨fun k hk hd=>?_,fun k hk CN hd=>?_⟩
 ·rcases Or.tmp k i hk hi with h|h
  ·exact hb k h
  ·rw[nW k (by omega)]at hd
   exact absurd ht ((WL h).1 t hd)
 ·by_cases e:k=i
  ·rw[e];exact hS
  ·rcases Or.tmp i k (by omega) CN with h|h
   ·cases hq:S k with
    |false=>rfl
    |true=>rw[cN k hq i h]at hS;cases hS
   ·rw[nW k CN]at hd
    exact absurd ht ((WL h).2.1 t hd)
def Ygb(Or:Ord bf mo N kQ)(cN:∀k,S k=true->∀i,kQ k i->S i=true)(nW:∀k,k<N->ds k=(mo k).dst){i:Nat}(hi:i<N)(hS:S i=false)
  {t:Nat} (ht:ds i=some t):∀k,i<k->k<N->ds k=some t->S k=false:=by
 intro k hk CN hd
 rcases Or.tmp i k hk CN with h|h
 ·cases hq:S k with
  |false=>rfl
  |true=>rw[cN k hq i h]at hS;cases hS
 ·rw[nW i hi]at ht
  rw[nW k CN]at hd
  exact absurd hd ((WL h).2.2 t ht)
end
section
variable {P:Program} {μ μ':Mu} {w w':World} {aL:Nat->St} {bq:Nat->Fr} {bf:Nat->FP} {ds:Nat->Option Nat} {S:Nat->Bool} {N:Nat} {W:List Nat} {a a':Act} {mo:Nat->dw} {kQ:Nat->Nat->Prop}
def Ak(μ':Mu)(n:Nat):Mu:=fun j=>if j<n then μ' j else none
def Lk{n j:Nat}(h:j<n):Ak μ' n j=μ' j:=av h
def Ep{n j:Nat}{l:L}(h:Ak μ' n j=some l):j<n/\μ' j=some l:=by
 unfold Ak at h
 split at h
 ·exact⟨by assumption,h⟩
 ·cases h
def Ygu(h0:bm P μ w (aL 0))(T:vF P μ aL bq bf N)(I:Inv P μ w aL bq bf ds N W S μ' a' w')(Or:Ord bf mo N kQ)(cN:∀k,S k=true->∀i,kQ k i->S i=true){i:Nat}(hi:i<N)(hS:S i=false)(hb:∀j,kQ i j->S j=true)
  {σ:St} (hn:σ.n=(aL i).n) (hs:∀j,j<(aL i).n->(bf i).dk j->σ.h.get j=(aL i).h.get j) (hd:∀j,j<(aL i).n->¬(bf i).dk j->σ.h.get j=((aL i).h.get j).map fun _=>.dead):
  bm P (Ak μ' (aL i).n) w' σ/\∀j l,μ' j=some l->j<(aL i).n->(bf i).dk j->σ.h.get j=jI aL bf S N j:=by
 have jJ:∀j l,μ' j=some l->j<(aL i).n->(bf i).dk j->jI aL bf S N j=(aL i).h.get j:=fun j l hj ay yt=>by
  obtain⟨h1,h2⟩:=Zz3 T I Or cN hi hS hb hj ay yt
  rw[QC (i:=i) (by omega) h2,WM T (by omega) ay h1]
 have vH:∀j l,μ' j=some l->j<(aL i).n->(bf i).dk j->σ.h.get j=jI aL bf S N j:=fun j l hj ay yt=>by rw[hs j ay yt,jJ j l hj ay yt]
 have hold:∀j l,μ' j=some l->j<(aL 0).n->∃l,μ j=some l:=fun j l hj h0=>⟨l,by rw[<-I.ext j h0];exact hj⟩
 refine⟨⟨fun j l hj=>?_,fun j l hj=>?_,fun j k lj lk oj ok hj hk aW h1 h2 hw hl=>?_,fun g hg=>?_⟩,vH⟩
 ·obtain⟨h1,h2⟩:=Ep hj
  exact⟨by omega,(I.dc j l h2).2⟩
 ·obtain⟨h1,h2⟩:=Ep hj
  obtain⟨o,μT,wT,lT,t1,t2,t3⟩:=T.sch i (by omega) j (hold j l h2) h1
  by_cases yt:(bf i).dk j
  ·obtain⟨o',q1,q2⟩:=I.obj j l h2
   rw[jJ j l h2 h1 yt,t1,al]at q1
   subst q1
   exact⟨o,by rw[hs j h1 yt,t1],OM.cut (n:=(aL i).n) (fun k lk hk er=>by rw[Lk hk];exact er) t3 t2 q2⟩
  ·exact⟨.dead,by rw[hd j h1 yt,t1];rfl,trivial⟩
 ·obtain⟨a1,a2⟩:=Ep hj
  obtain⟨b1,b2⟩:=Ep hk
  have sj:(bf i).dk j:=Classical.byContradiction fun hn=>by
   rw[hd j a1 hn]at h1
   cases hq:(aL i).h.get j<;>rw[hq]at h1<;>simp at h1
   subst h1;simp[O.wr]at hw
  have sk:(bf i).dk k:=Classical.byContradiction fun hn=>by
   rw[hd k b1 hn]at h2
   cases hq:(aL i).h.get k<;>rw[hq]at h2<;>simp at h2
   subst h2;simp[O.live]at hl
  exact I.inj j k lj lk oj ok a2 b2 aW (by rw[<-vH j lj a2 a1 sj];exact h1) (by rw[<-vH k lk b2 b1 sk];exact h2) hw hl
 ·obtain⟨t,ht⟩:=h0.gK g hg
  have sS:=(h0.dc g _ ht).1
  have:=T.mono (i:=0) (k:=i) (by omega) (by omega)
  exact⟨t,by rw[Lk (by omega),I.ext g sS];exact ht⟩
def Yk4(T:vF P μ aL bq bf N){vI:Nat->V}(Pu:GL bq ds vI N)(I:Inv P μ w aL bq bf ds N W S μ' a' w')(Or:Ord bf mo N kQ)(cN:∀k,S k=true->∀i,kQ k i->S i=true)(nW:∀k,k<N->ds k=(mo k).dst)
  {i:Nat} (hi:i<N) (hS:S i=false) (hb:∀j,kQ i j->S j=true):
  RR (Ak μ' (aL i).n) (Al (bq i).r (mo i).reads) (bq 0).n a'.tmps:=by
 refine⟨I.vD.1,fun t v hv=>?_⟩
 rw[Ll]at hv
 split at hv
 ·rename_i ht
  obtain⟨h1,h2⟩:=Zz6 Or cN nW hi hS hb ht
  have hc:vE bq ds S N t=some v:=by
   rw[QD (i:=i) (by omega) h2,WN Pu (by omega) h1];exact hv
  obtain⟨x,hx,hr⟩:=I.vD.2 t v hc
  exact⟨x,hx,VR.cut (n:=(aL i).n) (fun k lk hk er=>by rw[Lk hk];exact er) v x (T.scr i (by omega) t v hv) hr⟩
 ·cases hv
def Er(μ' μ2:Mu)(n n':Nat):Mu:=fun j=>if j<n then μ' j else if j<n' then μ2 j else μ' j
def vF.Es(T:vF P μ aL bq bf N):∀{i j:Nat} {o':O},i<=N->j<(aL 0).n->(aL i).h.get j=some o'->o'.wr=true->∃o,(aL 0).h.get j=some o/\o.wr=true
 |0,j,o',_,_,h,hw=>⟨o',h,hw⟩
 |i+1,j,o',hi,hj,h,hw=>by
  have:=T.mono (i:=0) (k:=i) (by omega) (by omega)
  obtain⟨o,h1,h2,_⟩:=T.grow i (by omega) j o' (by omega) h
  exact T.Es (by omega) hj h1 (h2 hw)
def Zyq(h0:bm P μ w (aL 0))(T:vF P μ aL bq bf N){vI:Nat->V}(Pu:GL bq ds vI N)(I:Inv P μ w aL bq bf ds N W S μ' a' w')(Or:Ord bf mo N kQ)(cN:∀k,S k=true->∀i,kQ k i->S i=true)
  (nW:∀k,k<N->ds k=(mo k).dst) (hW:∀k,k<N->∀j∈(bf k).wr,j∈W) {i:Nat} (hi:i<N) (hS:S i=false) (uU:∀d,ds i=some d->d<(bq 0).n)
  {σ σ':St} {μ2:Mu} {w2:World} {ws:List Nat} {x:Value} (tj:bm P (Ak μ' (aL i).n) w' σ) (jJ:∀j l,μ' j=some l->j<(aL i).n->(bf i).dk j->σ.h.get j=jI aL bf S N j)
  (hn:σ.n=(aL i).n) (sM:σ'.n=(aL (i+1)).n) (dM:bH P (Ak μ' (aL i).n) w' σ μ2 w2 σ' ws) (pY:∀j,j<(aL i).n->(j∈ws↔j∈(bf i).wr)) (vJ:∀j∈ws,(bf i).dk j)
  (cO:∀j,((bf i).dk j/\j<(aL i).n)\/((aL i).n<=j/\j<(aL (i+1)).n)->σ'.h.get j=(aL (i+1)).h.get j) (hx:VR μ2 (vI i) x):
  Inv P μ w aL bq bf ds N W (mi S i) (Er μ' μ2 (aL i).n (aL (i+1)).n) (a'.put (ds i) x) w2:=by
 have hle:=T.fx i hi
 have zaz:=T.mono (i:=0) (k:=i) (by omega) (by omega)
 have Am:∀j l,μ' j=some l->¬((aL i).n<=j/\j<(aL (i+1)).n):=fun j l hj hc=>by
  rcases(I.dc j l hj).1 with h|⟨k,h3,h4,h5,h6⟩
  ·omega
  ·have hk:k=i:=by
    rcases Nat.lt_trichotomy k i with h|h|h
    ·have:=T.mono (i:=k+1) (k:=i) (by omega) (by omega);omega
    ·exact h
    ·have:=T.mono (i:=i+1) (k:=k) (by omega) (by omega);omega
   subst hk;rw[hS]at h4;cases h4
 have GM:∀j,j<(aL i).n->μ2 j=μ' j:=fun j hj=>by rw[dM.ext j (by omega),Lk hj]
 have CO:∀j l,μ' j=some l->Er μ' μ2 (aL i).n (aL (i+1)).n j=some l:=fun j l hj=>by
  unfold Er
  by_cases e1:j<(aL i).n
  ·rw[av e1];exact hj
  ·by_cases e2:j<(aL (i+1)).n
   ·exact absurd ⟨by omega,e2⟩ (Am j l hj)
   ·rw[ak e1,ak e2];exact hj
 have CP:∀j l,μ2 j=some l->Er μ' μ2 (aL i).n (aL (i+1)).n j=some l:=fun j l hj=>by
  have hd:=(dM.hr.dc j l hj).1
  unfold Er
  by_cases e1:j<(aL i).n
  ·rw[av e1,<-GM j e1];exact hj
  ·rw[ak e1,av (by omega)];exact hj
 have hinv:∀j l,Er μ' μ2 (aL i).n (aL (i+1)).n j=some l->(μ' j=some l)\/((aL i).n<=j/\j<(aL (i+1)).n/\μ2 j=some l):=fun j l hj=>by
  unfold Er at hj
  split at hj
  ·exact .inl hj
  ·split at hj
   ·exact .inr ⟨by omega,by assumption,hj⟩
   ·exact .inl hj
 have vK:∀j,vG aL bf i j->jI aL bf (mi S i) N j=(aL (i+1)).h.get j:=fun j ht=>Ygz hi ht (Zu5 T Or cN hi hS ht)
 have told:∀j l,μ' j=some l->¬j∈(bf i).wr->jI aL bf (mi S i) N j=jI aL bf S N j:=fun j l hj hnw=>Zij fun h=>h.elim hnw fun h=>Am j l hj h
 have GN:∀j l o',μ' j=some l->jI aL bf (mi S i) N j=some o'->∃o,jI aL bf S N j=some o/\(o'.wr=true->o.wr=true)/\(o'.live=true->o.live=true):=fun j l o' hj ho=>by
  by_cases hw:j∈(bf i).wr
  ·have ay:=T.WJ i hi j hw
   have yt:=vJ j ((pY j ay).2 hw)
   rw[vK j (.inl hw),<-cO j (.inl ⟨yt,ay⟩)]at ho
   obtain⟨o,q1,q2,q3⟩:=dM.grow j o' (by omega) ho
   exact⟨o,by rw[<-jJ j l hj ay yt];exact q1,q2,q3⟩
  ·rw[told j l hj hw]at ho
   exact⟨o',ho,id,id⟩
 have cwr:∀j∈ws,∀lj,Ak μ' (aL i).n j=some lj->∃o,jI aL bf S N j=some o/\o.wr=true:=fun j hj lj uk=>by
  obtain⟨h1,h2⟩:=Ep uk
  obtain⟨o,q1,q2⟩:=dM.yW j hj (by omega)
  exact⟨o,by rw[<-jJ j lj h2 h1 (vJ j hj)];exact q1,q2⟩
 have Lm:∀j l,(aL i).n<=j->μ2 j=some l->w'.heap.size<=l.b\/∃k lk,k∈ws/\k<(aL i).n/\μ' k=some lk/\lk.b=l.b/\∃o,jI aL bf S N k=some o/\o.wr=true:=fun j l hj hl=>by
  rcases dM.new j l (by omega) hl with h|⟨k,hk,DQ,lk,ok,h1,h2,h3,h4⟩
  ·exact .inl h
  ·obtain⟨_,q2⟩:=Ep h1
   exact .inr ⟨k,lk,hk,by omega,q2,h2,cwr k hk lk h1⟩
 refine⟨fun j hj=>?_,fun j l hj=>?_,fun k hk hSk j h1 h2=>?_,fun j l hj=>?_,fun j k lj lk oj ok hj hk aW h1 h2 hw hl=>?_,⟨?_,fun t v hv=>?_⟩,?_,?_,fun j l GO hj=>?_⟩
 ·-- ext
  unfold Er
  rw[av (by omega)];exact I.ext j hj
 ·-- dc
  rcases hinv j l hj with h|⟨h1,h2,h3⟩
  ·obtain⟨d1,d2⟩:=I.dc j l h
   refine⟨d1.imp id fun ⟨k,q1,q2,q3⟩=>⟨k,q1,?_,q3⟩,eX d2 dM.eg.size⟩
   simp only[mi];split<;>first|rfl|exact q2
  ·exact⟨.inr ⟨i,hi,by simp[mi],h1,h2⟩,(dM.hr.dc j l h3).2⟩
 ·-- full
  by_cases e:k=i
  ·subst e
   obtain⟨l,hl⟩:=dM.full j (by omega) (by omega)
   exact⟨l,CP j l hl⟩
  ·simp only[mi,e,if_false]at hSk
   obtain⟨l,hl⟩:=I.full k hk hSk j h1 h2
   exact⟨l,CO j l hl⟩
 ·-- obj
  rcases hinv j l hj with h|⟨h1,h2,h3⟩
  ·by_cases hw:j∈(bf i).wr
   ·have ay:=T.WJ i hi j hw
    have yt:=vJ j ((pY j ay).2 hw)
    obtain⟨o,q1,q2⟩:=dM.hr.obj j l (by rw[GM j ay];exact h)
    exact⟨o,by rw[vK j (.inl hw),<-cO j (.inl ⟨yt,ay⟩)];exact q1,q2.mono CP⟩
   ·obtain⟨o,q1,q2⟩:=I.obj j l h
    refine⟨o,by rw[told j l h hw];exact q1,?_⟩
    cases hl:o.live with
    |false=>cases o<;>simp[O.live]at hl;trivial
    |true=>
     refine(q2.mono CO).congr (dM.eg.block l.b (I.dc j l h).2 fun k hk lk fM=>?_)
     obtain⟨q3,q4⟩:=Ep fM
     obtain⟨ok,q5,q6⟩:=cwr k hk lk fM
     exact I.inj k j lk l ok o q4 h (fun hc=>hw (by rw[<-hc];exact(pY k q3).1 hk)) q5 q1 q6 hl
  ·obtain⟨o,q1,q2⟩:=dM.hr.obj j l h3
   exact⟨o,by rw[vK j (.inr ⟨h1,h2⟩),<-cO j (.inr ⟨h1,h2⟩)];exact q1,q2.mono CP⟩
 ·-- inj
  have Et:∀j k lj lk oj ok,(aL i).n<=j->j<(aL (i+1)).n->μ2 j=some lj->μ' k=some lk->jI aL bf (mi S i) N j=some oj->jI aL bf (mi S i) N k=some ok->((oj.wr=true/\ok.live=true)\/(ok.wr=true/\oj.live=true))->lj.b≠lk.b:=by
   intro j k lj lk oj ok CQ od WO hk F7 mM Eu
   have CR:ok.live=true:=by
    rcases Eu with h|h
    ·exact h.2
    ·have:=h.1;cases ok<;>simp_all [O.wr,O.live]
   rcases Lm j lj CQ WO with h|⟨q,lq,h1,h2,h3,h4,o,h5,h6⟩
   ·have:=(I.dc k lk hk).2;omega
   ·rw[<-h4]
    by_cases e:q=k
    ·subst e
     rw[h3,al]at hk;subst hk
     have hwq:=(pY q h2).1 h1
     rw[vK j (.inr ⟨CQ,od⟩),<-cO j (.inr ⟨CQ,od⟩)]at F7
     rw[vK q (.inl hwq),<-cO q (.inl ⟨vJ q h1,h2⟩)]at mM
     have jo:μ2 q=some lq:=by rw[GM q h2];exact h3
     exfalso
     rcases Eu with hb|hb
     ·exact dM.hr.inj j q lj lq oj ok WO jo (by omega) F7 mM hb.1 hb.2 h4.symm
     ·exact dM.hr.inj q j lq lj ok oj jo WO (by omega) mM F7 hb.1 hb.2 h4
    ·obtain⟨Ln,g1,g2,g3⟩:=GN k lk ok hk mM
     exact I.inj q k lq lk o Ln h3 hk e h5 g1 h6 (g3 CR)
  rcases hinv j lj hj with K4|⟨a1,a2,a3⟩
  ·rcases hinv k lk hk with gE|⟨b1,b2,b3⟩
   ·obtain⟨oj0,g1,g2,g3⟩:=GN j lj oj K4 h1
    obtain⟨Ln,g4,g5,g6⟩:=GN k lk ok gE h2
    exact I.inj j k lj lk oj0 Ln K4 gE aW g1 g4 (g2 hw) (g6 hl)
   ·exact(Et k j lk lj ok oj b1 b2 b3 K4 h2 h1 (.inr ⟨hw,hl⟩)).symm
  ·rcases hinv k lk hk with gE|⟨b1,b2,b3⟩
   ·exact Et j k lj lk oj ok a1 a2 a3 gE h1 h2 (.inl ⟨hw,hl⟩)
   ·rw[vK j (.inr ⟨a1,a2⟩),<-cO j (.inr ⟨a1,a2⟩)]at h1
    rw[vK k (.inr ⟨b1,b2⟩),<-cO k (.inr ⟨b1,b2⟩)]at h2
    exact dM.hr.inj j k lj lk oj ok a3 b3 aW h1 h2 hw hl
 ·-- the temporaries' count
  cases hd:ds i<;>simp[Act.put,I.vD.1]
 ·-- the temporaries
  by_cases ht:ds i=some t
  ·rw[Ygy Pu hi ht (Ygb Or cN nW hi hS ht),al]at hv
   subst hv
   refine⟨x,?_,VR.mono CP _ _ hx⟩
   rw[ht]
   simp[Act.put,I.vD.1,uU t ht]
  ·rw[Zii ht]at hv
   obtain⟨y,q1,q2⟩:=I.vD.2 t v hv
   refine⟨y,?_,VR.mono CO _ _ q2⟩
   cases hd:ds i with
   |none=>simpa[Act.put]using q1
   |some d=>
    have:d≠t:=fun hc=>ht (by rw[hd,hc])
    simp only[Act.put]
    rw[Qf this];exact q1
 ·-- the marks
  have:(a'.put (ds i) x).defers=a'.defers:=by cases ds i<;>rfl
  rw[this];exact I.defs.mono CO
 ·-- the frame
  refine⟨dM.eg.os.trans I.eg.os,dM.eg.tape.trans I.eg.tape,dM.eg.output.trans I.eg.output,k_ I.eg.size dM.eg.size,fun b hb dB=>?_⟩
  rw[dM.eg.block b (eX hb I.eg.size) fun j hj lj uk=>?_,I.eg.block b hb dB]
  obtain⟨q1,q2⟩:=Ep uk
  by_cases e:j<(aL 0).n
  ·exact dB j (hW i hi j ((pY j q1).1 hj)) lj (by rw[<-I.ext j e];exact q2)
  ·rcases I.new j lj (by omega) q2 with h|⟨k,hk,_,lk,_,h3,h4,_⟩
   ·omega
   ·rw[<-h4];exact dB k hk lk h3
 ·-- new ids
  rcases hinv j l hj with h|⟨h1,h2,h3⟩
  ·exact I.new j l GO h
  ·rcases Lm j l h1 h3 with h|⟨q,lq,q1,q2,q3,q4,o,q5,q6⟩
   ·exact .inl (k_ I.eg.size h)
   ·by_cases e:q<(aL 0).n
    ·have hqW:=hW i hi q ((pY q q2).1 q1)
     obtain⟨oi,g1,g2⟩:=T.yW i hi q ((pY q q2).1 q1)
     obtain⟨o0,g3,g4⟩:=T.Es (by omega) e g1 g2
     exact .inr ⟨q,hqW,e,lq,o0,by rw[<-I.ext q e];exact q3,q4,g3,g4⟩
    ·rcases I.new q lq (by omega) q3 with h|⟨k,hk,g1,lk,ok,g2,g3,g4⟩
     ·exact .inl (by omega)
     ·exact .inr ⟨k,hk,g1,lk,ok,g2,g3.trans q4,g4⟩
end
section
variable {P:Program} {μ:Mu} {w:World} {st aC:St} {fr bE:Fr} {a:Act} {call:cI} {v:V} {lb:Option Nat}
def Yay:∀(l:List Nat) (n j:Nat),j<n->(j∈ax n l↔j∈l):=by
 intro l n i hi
 induction l with
 |nil=>simp[ax]
 |cons j l ih=>
  simp only[ax]
  split
  ·unfold uW
   split
   ·rename_i hc
    simp only[kW,ih]
    simp only[Ql]at hc
    constructor
    ·exact .inr
    ·rintro(rfl|h)
     ·exact ih.1 hc
     ·exact h
   ·simp only[kW,ih]
  ·simp only[kW,ih]
   constructor
   ·exact .inr
   ·rintro(rfl|h)
    ·omega
    ·exact h
def Yj6(bZ:jm P call)(hE:uy P){ops:Array Oper}{Q:Exit->Act->World->Prop}{aL:Nat->St}{bq:Nat->Fr}{vI:Nat->V}{bf:Nat->FP}{S:Nat->Bool}{W:List Nat}{μ':Mu}{a':Act}{w':World}
  (h0:bm P μ w (aL 0)) (hs:∀i o,ops[i]?=some o->An P call ops o (aL i) (bq i) (vI i) (bf i) (aL (i+1)) (bq (i+1)))
  (T:vF P μ aL bq bf ops.size) {ds:Nat->Option Nat} {mo:Nat->dw} (Ev:∀i o,ops[i]?=some o->mo i=qZ P ops o) (nW:∀k,k<ops.size->ds k=(mo k).dst) (Pu:GL bq ds vI ops.size)
  {kQ:Nat->Nat->Prop} (Or:Ord bf mo ops.size kQ) (I:Inv P μ w aL bq bf ds ops.size W S μ' a' w') (cN:∀k,S k=true->∀i,kQ k i->S i=true) (hW:∀k,k<ops.size->∀j∈(bf k).wr,j∈W)
  (Ao:∀i,i<ops.size->∀ds,pA μ' (bq 0).marks ds->pA (Ak μ' (aL i).n) (bq 0).marks ds)
  {i:Nat} (hi:i<ops.size) (hS:S i=false) (hb:∀j,kQ i j->S j=true) {K:Act->World->Prop}
  (hK:∀μ2 a2 w2,Inv P μ w aL bq bf ds ops.size W (mi S i) μ2 a2 w2->K a2 w2):wpOpIn (FE lb) 0 P ops Q i K a' w':=by
 have ho:ops[i]?=some ops[i]:=Array.getElem?_eq_getElem hi
 obtain⟨g,b,hg,hw,hp,ht,Lo⟩:=hs i _ ho
 have hmi:=Ev i _ ho
 have GP:mo i=⟨ops[i].dst,zV P ops[i].op,g⟩:=by rw[hmi];unfold qZ;rw[hg]
 have iJ:ds i=ops[i].dst:=by rw[nW i hi,GP]
 have GQ:∀s∈(zV P ops[i].op).CC,∀t∈s.tmps,t∈(mo i).reads:=fun s hs t ht=>by
  rw[GP];simp only[dw.reads,mE,List.mem_flatMap];exact .inr ⟨s,hs,ht⟩
 have hRR:=Yk4 T Pu I Or cN nW hi hS hb
 have xq:bS (Al (bq i).r (mo i).reads) g=bS (bq i).r g:=by
  cases g with
  |none=>rfl
  |some p=>
   obtain⟨t,want⟩:=p
   simp only[bS]
   rw[Ll,av (by rw[GP];simp[dw.reads])]
 have uU:∀d,ds i=some d->d<(bq 0).n:=fun d hd=>by
  rw[iJ]at hd
  rw[hd]at hp
  simp only[Fr.put]at hp
  split at hp
  ·rename_i ay;rw[<-(T.fn i (by omega)).1];exact ay
  ·cases hp
 unfold wpOpIn
 rw[ho]
 simp only[]
 have hwd:Region.wanted ops[i] (yielded ops a'.tmps)=b:=Zp6 (fr:={r:=Al (bq i).r (mo i).reads,n:=(bq 0).n,marks:=[]}) (a:=a') hRR hg (by rw[xq];exact hw)
 cases b with
 |true=>
  rw[av hwd]
  obtain⟨s',hm,iy,Lp⟩:=ht rfl
  obtain⟨σ,σ',k1,k2,k3,k4,k5,k6,k7,k8,k9⟩:=Yjy (ws:=ax (aL i).n s'.w) (lo:=(aL i).n) (hi:=s'.n) hm rfl
  rw[<-Lp]at k6 k7 k8 k9
  obtain⟨tj,jJ⟩:=Ygu h0 T I Or cN hi hS hb k1 k6 k7
  have zg:mO (Ak μ' (aL i).n) {r:=Al (bq i).r (mo i).reads,n:=(bq 0).n,marks:=(bq 0).marks} a':=⟨hRR,Ao i hi _ I.defs⟩
  have hm2:cm (zV P ops[i].op) call (Al (bq i).r (mo i).reads) σ=some (vI i,σ'):=by
   rw[Yeu (r':=(bq i).r) fun s hs=>Yqw (GQ s hs)];exact k3
  refine WQ bZ hE tj zg hm2 fun x w2 μ2 ws hv dM=>?_
  have pY:ws=s'.w:=by
   have:=dM.wl
   rw[k2,k5,wU]at this
   exact this.symm
  have sM:(aL (i+1)).n=s'.n:=by rw[iy]
  have hh':(aL (i+1)).h=s'.h:=by rw[iy]
  have hinv:=Zyq h0 T Pu I Or cN nW hW hi hS uU tj jJ k1 (by rw[k4,sM]) dM (fun j hj=>by
   rw[pY,Lp,(WR (call:=call) hm _ _).1]
   exact(Yay _ _ _ hj).symm) (fun j hj=>k9 j (by rw[<-pY];exact hj)) (fun j hj=>by rw[hh'];exact k8 j (by rw[sM]at hj;exact hj)) hv
  rw[iJ]at hinv
  exact hK _ _ _ hinv
 |false=>
  rw[ak (by rw[hwd];simp)]
  obtain⟨hv,iy,Lp⟩:=Lo rfl
  refine⟨fun _ _=>trivial,?_⟩
  have vJ:∀j,¬(bf i).dk j:=fun j=>by rw[Lp];simp[FP.dk]
  obtain⟨tj,jJ⟩:=Ygu (σ:=⟨rn (aL i).h [] (aL i).n,(aL i).n,[]⟩) h0 T I Or cN hi hS hb rfl (fun j _ hj=>absurd hj (vJ j)) (fun j hj _=>by
   show (rn (aL i).h [] (aL i).n).get j=_
   rw[Jy,av hj];simp)
  have sM:(aL (i+1)).n=(aL i).n:=by rw[iy]
  have:=Zyq (x:=undef) (ws:=[]) (σ':=⟨rn (aL i).h [] (aL i).n,(aL i).n,[]⟩) h0 T Pu I Or cN nW hW hi hS uU tj jJ rfl sM.symm (bH.refl tj) (fun j hj=>by rw[Lp]) (fun j hj=>by simp at hj) (fun j hj=>by
   rcases hj with⟨h,_⟩|⟨h1,h2⟩
   ·exact absurd h (vJ j)
   ·omega) (by rw[hv];exact⟨[],rfl,by simp[aV]⟩)
  rw[iJ]at this
  exact hK _ _ _ this
def Zms:∀{os:List Oper} {b:Nat},Ja b os=true->∀i o,os[i]?=some o->∀e∈o.after,Region.binds .any e=true->e.on<b+i
 |[],b,_,i,o,h,_,_,_=>by simp at h
 |o0::os,b,h,i,o,ho,e,he,hb=>by
  simp only[Ja,iE]at h
  cases i with
  |zero=>
   simp only[Bl,al]at ho
   subst ho
   have h1:=h.1
   rw[Wa]at h1
   have:=h1 e he
   rw[hb]at this
   simpa[Nat.blt_eq]using this
  |succ i=>
   have:=Zms h.2 i o (by simpa using ho) e he hb
   omega
def Yb6{ops:Array Oper}(he:Ja 0 ops.toList=true){listed:Array Bool}(kM:listed.size=ops.size)(hr:Region.ready .any ops listed=[]):∀k,k<ops.size->listed.getD k false=true:=by
 intro k
 induction k using Nat.strongRecOn with
 |_ k ih=>
  intro hk
  refine Classical.byContradiction fun hn=>?_
  have nX:k∈Region.ready .any ops listed:=by
   unfold Region.ready
   simp only[List.mem_filter,u9,iE,Gf]
   refine⟨hk,?_,?_⟩
   ·have fM:k<listed.size:=by omega
    simp only[Array.getD,fM,dif_pos]at hn ⊢
    simpa using hn
   ·have ho:ops[k]?=some ops[k]:=Array.getElem?_eq_getElem hk
    rw[ho]
    simp only[pL,fX,Wa,Gg,Gf]
    intro e Lq
    cases hb:Region.binds .any e with
    |false=>exact .inl rfl
    |true=>
     have:=Zms he k ops[k] (by rw[Ck];exact ho) e Lq hb
     exact .inr (ih e.on (by omega) (by omega))
  rw[hr]at nX
  cases nX
def Ygx{p q:Nat->Bool}{i:Nat}(hp:p i=true)(hq:q i=false)(ho:∀k,k≠i->q k=p k):∀N,i<N->(List.range N).countP q+1=(List.range N).countP p:=by
 have same:∀N,N<=i->(List.range N).countP q=(List.range N).countP p:=by
  intro N
  induction N with
  |zero=>intro _;rfl
  |succ N ih=>
   intro h
   rw[List.range_succ,List.countP_append,List.countP_append,ih (by omega)]
   simp[ho N (by omega)]
 intro N
 induction N with
 |zero=>intro h;omega
 |succ N ih=>
  intro h
  rw[List.range_succ,List.countP_append,List.countP_append]
  by_cases e:N=i
  ·subst e
   rw[same N (aM _)]
   simp[hp,hq]
  ·have:=ih (by omega)
   simp only[List.countP_singleton,ho N e]
   omega
end
section
variable {P:Program} {μ:Mu} {w:World} {st aC:St} {fr bE:Fr} {a:Act} {call:cI} {v:V} {lb:Option Nat}
def Ylr{listed:Array Bool}{i:Nat}(hi:i<listed.size):(fun k=>(listed.setIfInBounds i true).getD k false)=mi (fun k=>listed.getD k false) i:=by
 funext k
 simp only[mi,Ga]
 by_cases e:k=i
 ·subst e;simp[hi]
 ·rw[Qf (Ne.symm e),ak e]
def Yug(bZ:jm P call)(hE:uy P){ops:Array Oper}{Q:Exit->Act->World->Prop}{aL:Nat->St}{bq:Nat->Fr}{vI:Nat->V}{bf:Nat->FP}{W:List Nat}
  (h0:bm P μ w (aL 0)) (hs:∀i o,ops[i]?=some o->An P call ops o (aL i) (bq i) (vI i) (bf i) (aL (i+1)) (bq (i+1)))
  (T:vF P μ aL bq bf ops.size) {ds:Nat->Option Nat} {mo:Nat->dw} (Ev:∀i o,ops[i]?=some o->mo i=qZ P ops o) (nW:∀k,k<ops.size->ds k=(mo k).dst) (Pu:GL bq ds vI ops.size)
  (Or:Ord bf mo ops.size (fun k i=>((vj ops.toList []).getD k 0).testBit i=true)) (hW:∀k,k<ops.size->∀j∈(bf k).wr,j∈W) (Ap:Ja 0 ops.toList=true)
  (Ao:∀μ',(∀j,j<(aL 0).n->μ' j=μ j)->∀i,i<ops.size->∀ds,pA μ' (bq 0).marks ds->pA (Ak μ' (aL i).n) (bq 0).marks ds)
  (hQ:∀S μ' a' w',(∀k,k<ops.size->S k=true)->Inv P μ w aL bq bf ds ops.size W S μ' a' w'->Q .normal a' w'):
  ∀(fuel:Nat) (listed:Array Bool) (μ':Mu) (a':Act) (w':World),listed.size=ops.size->(List.range ops.size).countP (fun k=>!listed.getD k false)=fuel->
   (Ynb ops fun k=>listed.getD k false=true)->Inv P μ w aL bq bf ds ops.size W (fun k=>listed.getD k false) μ' a' w'->wpAnyIn (FE lb) 0 P .any ops Q fuel listed a' w':=by
 intro fuel
 induction fuel with
 |zero=>
  intro listed μ' a' w' kM hc cN I
  have Lr:∀k,k<ops.size->listed.getD k false=true:=fun k hk=>by
   rw[List.countP_eq_zero]at hc
   have:=hc k (u9.2 hk)
   simpa using this
  refine⟨?_,hQ _ μ' a' w' Lr I⟩
  refine List.eq_nil_iff_forall_not_mem.2 fun j hj=>?_
  obtain⟨h1,h2,_⟩:=Zqj cN hj
  have:=Lr j h1
  simp only[Ga]at h2 this
  have od:j<listed.size:=by omega
  simp[od]at h2 this
  rw[h2]at this;cases this
 |succ fuel ih=>
  intro listed μ' a' w' kM hc cN I
  refine⟨fun hr=>hQ _ μ' a' w' (Yb6 Ap kM hr) I,fun i hi=>?_⟩
  obtain⟨h1,h2,h3⟩:=Zqj cN hi
  have t_:i<listed.size:=by omega
  have hSi:listed.getD i false=false:=by
   simp only[Ga]at h2 ⊢
   simp[t_]at h2 ⊢
   exact h2
  refine Yj6 (S:=fun k=>listed.getD k false) bZ hE h0 hs T Ev nW Pu Or I (fun k hk i hb=>cN k i hk hb) hW (Ao μ' I.ext) h1 hSi h3 fun μ2 a2 w2 I2=>?_
  have nV:=Ylr (listed:=listed) t_
  refine ih (listed.setIfInBounds i true) μ2 a2 w2 (by simp[kM]) ?_ ?_ (by rw[nV];exact I2)
  ·have:=Ygx (p:=fun k=>!listed.getD k false) (q:=fun k=>!(listed.setIfInBounds i true).getD k false) (i:=i) (by simp[hSi]) (by
    have:=congrFun nV i
    simp only[this];simp[mi]) (fun k hk=>by
    have:=congrFun nV k
    simp only[this];simp[mi,hk]) ops.size h1
   omega
  ·intro k j hk hb
   have e1:=congrFun nV k
   have e2:=congrFun nV j
   simp only[e1,e2,mi]at hk ⊢
   by_cases ej:j=i
   ·rw[av ej]
   ·rw[ak ej]
    by_cases ek:k=i
    ·subst ek;exact h3 j hb
    ·rw[ak ek]at hk;exact cN k j hk hb
def pA.Ls{μ μ' μ2:Mu}{n:Nat}(hd:∀i l,μ i=some l->i<n)(h:∀i l,i<n->μ' i=some l->μ2 i=some l):∀{ms:List Nat} {ds Ew:List Deferred},pA μ ms ds->pA μ' ms Ew->pA μ2 ms Ew
 |[],_,_,_,h2=>h2
 |m::ms,_,_,⟨l,_,h1,_,h3⟩,⟨l',d',g1,g2,g3⟩=>⟨l',d',h m l' (hd m l h1) g1,g2,pA.Ls hd h h3 g3⟩
def Zqa{aL:Nat->St}{bq:Nat->Fr}{bf:Nat->FP}{N:Nat}(T:vF P μ aL bq bf N)(j:Nat):∀i,i<=N->(aL 0).n<=j->j<(aL i).n->∃k,k<i/\(aL k).n<=j/\j<(aL (k+1)).n
 |0,_,h1,h2=>by omega
 |i+1,hi,h1,h2=>by
  by_cases e:j<(aL i).n
  ·obtain⟨k,a1,a2⟩:=Zqa T j i (by omega) h1 e
   exact⟨k,by omega,a2⟩
  ·exact⟨i,by omega,by omega,h2⟩
def Zsv{aL:Nat->St}{bq:Nat->Fr}{bf:Nat->FP}{N:Nat}(T:vF P μ aL bq bf N):∀i,i<=N->∃Wi,(aL i).w=Wi++(aL 0).w/\∀k,k<i->∀j∈(bf k).wr,j∈Wi
 |0,_=>⟨[],rfl,fun k hk=>by omega⟩
 |i+1,hi=>by
  obtain⟨Wi,h1,h2⟩:=Zsv T i (by omega)
  refine⟨(bf i).wr++Wi,by rw[T.wl i (by omega),h1,td],fun k hk j hj=>?_⟩
  by_cases e:k=i
  ·subst e;simp[hj]
  ·simp[h2 k (by omega) j hj]
def Ygc(hm:P.follows .mixedOrders=true)(hE:uy P)(bZ:jm P call):Yna P call:=by
 intro id ops fr st ex bE aC hp h μ w a lb hh hf
 unfold V7 at hp
 simp only[iE]at hp
 obtain⟨Ap,VA⟩:=hp
 unfold Af at h
 split at h
 ·rename_i gO ec bY bO
  split at h
  ·rename_i Lt
   simp only[al,bu]at h
   obtain⟨rfl,rfl,rfl⟩:=h
   obtain⟨aL,bq,vI,bf,e1,e2,e3,e4,e5,hs⟩:=Ztl ops.toList fr st gO ec bY bO
   subst e1 e2
   have hN:ops.toList.length=ops.size:=by simp
   rw[hN]at e3 e4 e5
   have jq:∀i o,ops[i]?=some o->An P call ops o (aL i) (bq i) (vI i) (bf i) (aL (i+1)) (bq (i+1)):=fun i o ho=>(hs i o (by rw[Ck];exact ho)).2
   have T:=Yr3 bZ hE hN hh hf fun i o ho=>(hs i o ho).2
   let mo:Nat->dw:=fun i=>match ops[i]? with|some o=>qZ P ops o|none=>⟨none,.stop,none⟩
   have Ev:∀i o,ops[i]?=some o->mo i=qZ P ops o:=fun i o ho=>by simp only[mo,ho]
   have WS:∀i o,ops[i]?=some o->(mo i).dst=o.dst:=fun i o ho=>by rw[Ev i o ho];unfold qZ;split<;>rfl
   have cO:∀i,i<ops.size->ops[i]?=some (ops[i]!):=fun i hi=>by simp[hi]
   have Pu:GL bq (fun k=>(mo k).dst) vI ops.size:=fun i hi t=>by
    obtain⟨g,b,_,_,hp,_⟩:=jq i _ (cO i hi)
    show (bq (i+1)).r.get t=if (mo i).dst=some t then some (vI i) else (bq i).r.get t
    rw[WS i _ (cO i hi)]
    cases hd:(ops[i]!).dst with
    |none=>rw[hd]at hp;simp only[Fr.put,al]at hp;rw[<-hp];simp
    |some d=>
     rw[hd]at hp
     simp only[Fr.put]at hp
     split at hp
     ·simp only[al]at hp
      rw[<-hp,Go.Mx.T.ag]
      by_cases e:t=d
      ·subst e;simp
      ·rw[ak e,ak (by simp[Ne.symm e])]
     ·cases hp
   have Or:Ord bf mo ops.size (fun k i=>((vj ops.toList []).getD k 0).testBit i=true):=by
    refine⟨fun i k Lu hk=>?_,fun i k Lu hk=>?_⟩
    ·exact Zx4 Lt Lu ((hs i _ (by rw[Ck];exact cO i (by omega))).1) ((hs k _ (by rw[Ck];exact cO k hk)).1)
    ·refine Zx4 VA Lu ?_ ?_
     ·rw[eY,Ck,cO i (by omega),pL,Ev i _ (cO i (by omega))]
     ·rw[eY,Ck,cO k hk,pL,Ev k _ (cO k hk)]
   obtain⟨W,DS,eH⟩:=Zsv T ops.size (aM _)
   obtain⟨wT,μT,aT,WT,QE,hT2⟩:=Zzb bZ hE hN hh hf (fun i o ho=>(hs i o ho).2) ops.size (aM _)
   have WU:WT=W:=List.append_cancel_right (QE.wl.symm.trans DS)
   subst WU
   have Aq:∀k,(Array.replicate ops.size false).getD k false=false:=fun k=>by
    simp only[Ga]
    by_cases hk:k<ops.size
    ·simp[hk]
    ·simp[hk]
   have hcH:∀M j,jI aL bf (fun k=>(Array.replicate ops.size false).getD k false) M j=(aL 0).h.get j:=fun M j=>QC (i:=0) (tX _) fun k _ _ _=>Aq k
   have hcR:∀M t,vE bq (fun k=>(mo k).dst) (fun k=>(Array.replicate ops.size false).getD k false) M t=(bq 0).r.get t:=fun M t=>QD (i:=0) (tX _) fun k _ _ _=>Aq k
   have I0:Inv P μ w aL bq bf (fun k=>(mo k).dst) ops.size WT (fun k=>(Array.replicate ops.size false).getD k false) μ a {w with drawn:=w.drawn+1}:=by
    refine⟨fun _ _=>rfl,fun j l hj=>⟨.inl (hh.dc j l hj).1,(hh.dc j l hj).2⟩,fun k _ hk=>?_,fun j l hj=>?_,fun i j l l' o o' h1 h2 h3 h4 h5=>?_,⟨hf.1.1,fun t v hv=>?_⟩,hf.2,⟨rfl,rfl,rfl,aM _,fun _ _ _=>rfl⟩,fun i l h1 h2=>absurd (hh.dc i l h2).1 (by omega)⟩
    ·rw[Aq k]at hk;cases hk
    ·obtain⟨o,q1,q2⟩:=hh.obj j l hj
     exact⟨o,by rw[hcH];exact q1,OM.congr (w:=w) rfl q2⟩
    ·rw[hcH]at h4 h5
     exact hh.inj i j l l' o o' h1 h2 h3 h4 h5
    ·rw[hcR]at hv
     exact hf.1.2 t v hv
   refine wpIn_region_any hm (Yug bZ hE hh jq T Ev (fun _ _=>rfl) Pu Or eH Ap ?_ ?_ ops.size _ μ a _ (by simp) ?_ ?_ I0)
   ·intro μ' vL i hi ds nW
    exact pA.Ls (n:=(aL 0).n) (fun j l hj=>(hh.dc j l hj).1) (fun j l hj hl=>by
     have:=T.mono (i:=0) (k:=i) (by omega) (by omega)
     rw[Lk (by omega)];exact hl) hf.2 nW
   ·intro S μ' a' w' hS I
    have WV:∀j,j<(aL ops.size).n->jI aL bf S ops.size j=(aL ops.size).h.get j:=fun j hj=>WM T (aM _) hj fun k hk _=>hS k hk
    have hfR:∀t,vE bq (fun k=>(mo k).dst) S ops.size t=(bq ops.size).r.get t:=fun t=>WN Pu (aM _) fun k hk _=>hS k hk
    have CS:∀j l,μ' j=some l->j<(aL ops.size).n:=fun j l hj=>by
     rcases(I.dc j l hj).1 with h|⟨k,h1,_,_,h2⟩
     ·have:=T.mono (i:=0) (k:=ops.size) (by omega) (by omega);omega
     ·have:=T.mono (i:=k+1) (k:=ops.size) (by omega) (by omega);omega
    rw[<-e3,<-e4]
    refine⟨rfl,μ',WT,⟨⟨fun j l hj=>⟨CS j l hj,(I.dc j l hj).2⟩,fun j l hj=>?_,fun i j l l' o o' h1 h2 h3 h4 h5=>?_,fun g hg=>?_⟩,I.ext,T.mono (tX _) (aM _),DS,I.eg,I.new,QE.ae,QE.grow,fun j h1 h2=>?_,QE.yW⟩,⟨?_,fun t v hv=>?_⟩,?_⟩
    ·obtain⟨o,q1,q2⟩:=I.obj j l hj
     exact⟨o,by rw[<-WV j (CS j l hj)];exact q1,q2⟩
    ·exact I.inj i j l l' o o' h1 h2 h3 (by rw[WV i (CS i l h1)];exact h4) (by rw[WV j (CS j l' h2)];exact h5)
    ·obtain⟨t,ht⟩:=hh.gK g hg
     exact⟨t,by rw[I.ext g (hh.dc g _ ht).1];exact ht⟩
    ·obtain⟨k,q1,q2,q3⟩:=Zqa T j ops.size (aM _) h1 h2
     exact I.full k q1 (hS k q1) j q2 q3
    ·rw[(T.fn ops.size (aM _)).1];exact I.vD.1
    ·exact I.vD.2 t v (by rw[hfR];exact hv)
    ·rw[(T.fn ops.size (aM _)).2];exact I.defs
   ·have:(fun k=>!(Array.replicate ops.size false).getD k false)=fun _=>true:=by funext k;rw[Aq];rfl
    rw[this];simp
   ·intro k i hk
    rw[Aq k]at hk;cases hk
  ·cases h
 ·cases h
end
end Go.Mx
