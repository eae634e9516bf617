/-A region that draws its order-/
import Derived.Test.YteoackkadadmdaaGreatDoorMxLoc
set_option linter.all false
namespace Go.Mx
open Go
section
variable {P:Program} {μ μ':Mu} {w w':World} {aL:Nat->St} {bE:Nat->Fr} {bo:Nat->FP} {ds:Nat->Option Nat} {S:Nat->Bool} {N:Nat} {W:List Nat} {a a':Act} {mo:Nat->dt} {kl:Nat->Nat->Prop}
def zA(μ':Mu)(n:Nat):Mu:=fun j=>if j<n then μ' j else none
def Kp{n j:Nat}(h:j<n):zA μ' n j=μ' j:=aF h
def DP{n j:Nat}{l:L}(h:zA μ' n j=some l):j<n/\μ' j=some l:=by
 unfold zA at h
 split at h
 ·exact⟨by assumption,h⟩
 ·cases h
def Z1(h0:bA P μ w (aL 0))(T:uR P μ aL bE bo N)(I:Inv P μ w aL bE bo ds N W S μ' a' w')(Or:Ord bo mo N kl)(cO:∀k,S k=true->∀i,kl k i->S i=true){i:Nat}(hi:i<N)(hS:S i=false)(hb:∀j,kl i j->S j=true)
  {σ:St} (hn:σ.n=(aL i).n) (hs:∀j,j<(aL i).n->(bo i).dm j->σ.h.get j=(aL i).h.get j) (hd:∀j,j<(aL i).n->¬(bo i).dm j->σ.h.get j=((aL i).h.get j).map fun _=>.dead):
  bA P (zA μ' (aL i).n) w' σ/\∀j l,μ' j=some l->j<(aL i).n->(bo i).dm j->σ.h.get j=jv aL bo S N j:=by
 have jw:∀j l,μ' j=some l->j<(aL i).n->(bo i).dm j->jv aL bo S N j=(aL i).h.get j:=fun j l hj ay xP=>by
  obtain⟨h1,h2⟩:=Zyj T I Or cO hi hS hb hj ay xP
  rw[OK (i:=i) (by omega) h2,Us T (by omega) ay h1]
 have uS:∀j l,μ' j=some l->j<(aL i).n->(bo i).dm j->σ.h.get j=jv aL bo S N j:=fun j l hj ay xP=>by rw[hs j ay xP,jw j l hj ay xP]
 have hold:∀j l,μ' j=some l->j<(aL 0).n->∃l,μ j=some l:=fun j l hj h0=>⟨l,by rw[<-I.ext j h0];exact hj⟩
 refine⟨⟨fun j l hj=>?_,fun j l hj=>?_,fun j k lj lk oj ok hj hk bB h1 h2 hw hl=>?_,fun g hg=>?_⟩,uS⟩
 ·obtain⟨h1,h2⟩:=DP hj
  exact⟨by omega,(I.df j l h2).2⟩
 ·obtain⟨h1,h2⟩:=DP hj
  obtain⟨o,μT,wT,lT,t1,t2,t3⟩:=T.sch i (by omega) j (hold j l h2) h1
  by_cases xP:(bo i).dm j
  ·obtain⟨o',q1,q2⟩:=I.obj j l h2
   rw[jw j l h2 h1 xP,t1,al]at q1
   subst q1
   exact⟨o,by rw[hs j h1 xP,t1],OM.cut (n:=(aL i).n) (fun k lk hk hk2=>by rw[Kp hk];exact hk2) t3 t2 q2⟩
  ·exact⟨.dead,by rw[hd j h1 xP,t1];rfl,trivial⟩
 ·obtain⟨a1,a2⟩:=DP hj
  obtain⟨b1,b2⟩:=DP hk
  have sj:(bo i).dm j:=Classical.byContradiction fun hn=>by
   rw[hd j a1 hn]at h1
   cases hq:(aL i).h.get j<;>rw[hq]at h1<;>simp at h1
   subst h1;simp[O.wr]at hw
  have sk:(bo i).dm k:=Classical.byContradiction fun hn=>by
   rw[hd k b1 hn]at h2
   cases hq:(aL i).h.get k<;>rw[hq]at h2<;>simp at h2
   subst h2;simp[O.live]at hl
  exact I.inj j k lj lk oj ok a2 b2 bB (by rw[<-uS j lj a2 a1 sj];exact h1) (by rw[<-uS k lk b2 b1 sk];exact h2) hw hl
 ·obtain⟨t,ht⟩:=h0.gK g hg
  have rY:=(h0.df g _ ht).1
  have:=T.mono (i:=0) (k:=i) (by omega) (by omega)
  exact⟨t,by rw[Kp (by omega),I.ext g rY];exact ht⟩
def Yja(T:uR P μ aL bE bo N){vI:Nat->V}(Pu:Gf bE ds vI N)(I:Inv P μ w aL bE bo ds N W S μ' a' w')(Or:Ord bo mo N kl)(cO:∀k,S k=true->∀i,kl k i->S i=true)(pF:∀k,k<N->ds k=(mo k).dst)
  {i:Nat} (hi:i<N) (hS:S i=false) (hb:∀j,kl i j->S j=true):
  RR (zA μ' (aL i).n) (zB (bE i).r (mo i).reads) (bE 0).n a'.tmps:=by
 refine⟨I.uT.1,fun t v hv=>?_⟩
 rw[Kq]at hv
 split at hv
 ·rename_i ht
  obtain⟨h1,h2⟩:=Zyo Or cO pF hi hS hb ht
  have hc:uU bE ds S N t=some v:=by
   rw[OL (i:=i) (by omega) h2,Ut Pu (by omega) h1];exact hv
  obtain⟨x,hx,hr⟩:=I.uT.2 t v hc
  exact⟨x,hx,VR.cut (n:=(aL i).n) (fun k lk hk hk2=>by rw[Kp hk];exact hk2) v x (T.scr i (by omega) t v hv) hr⟩
 ·cases hv
def DQ(μ' μ2:Mu)(n n':Nat):Mu:=fun j=>if j<n then μ' j else if j<n' then μ2 j else μ' j
def uR.DR(T:uR P μ aL bE bo N):∀{i j:Nat} {o':O},i<=N->j<(aL 0).n->(aL i).h.get j=some o'->o'.wr=true->∃o,(aL 0).h.get j=some o/\o.wr=true
 |0,j,o',_,_,h,hw=>⟨o',h,hw⟩
 |i+1,j,o',hi,hj,h,hw=>by
  have:=T.mono (i:=0) (k:=i) (by omega) (by omega)
  obtain⟨o,h1,h2,_⟩:=T.grow i (by omega) j o' (by omega) h
  exact T.DR (by omega) hj h1 (h2 hw)
def Z2(h0:bA P μ w (aL 0))(T:uR P μ aL bE bo N){vI:Nat->V}(Pu:Gf bE ds vI N)(I:Inv P μ w aL bE bo ds N W S μ' a' w')(Or:Ord bo mo N kl)(cO:∀k,S k=true->∀i,kl k i->S i=true)
  (pF:∀k,k<N->ds k=(mo k).dst) (hW:∀k,k<N->∀j∈(bo k).wr,j∈W) {i:Nat} (hi:i<N) (hS:S i=false) (xQ:∀d,ds i=some d->d<(bE 0).n)
  {σ σ':St} {μ2:Mu} {w2:World} {ws:List Nat} {x:Value} (sP:bA P (zA μ' (aL i).n) w' σ) (jw:∀j l,μ' j=some l->j<(aL i).n->(bo i).dm j->σ.h.get j=jv aL bo S N j)
  (hn:σ.n=(aL i).n) (wD:σ'.n=(aL (i+1)).n) (dH:bQ P (zA μ' (aL i).n) w' σ μ2 w2 σ' ws) (pG:∀j,j<(aL i).n->(j∈ws↔j∈(bo i).wr)) (uV:∀j∈ws,(bo i).dm j)
  (cL:∀j,((bo i).dm j/\j<(aL i).n)\/((aL i).n<=j/\j<(aL (i+1)).n)->σ'.h.get j=(aL (i+1)).h.get j) (hx:VR μ2 (vI i) x):
  Inv P μ w aL bE bo ds N W (lY S i) (DQ μ' μ2 (aL i).n (aL (i+1)).n) (a'.put (ds i) x) w2:=by
 have hle:=T.fi i hi
 have zam:=T.mono (i:=0) (k:=i) (by omega) (by omega)
 have zC:∀j l,μ' j=some l->¬((aL i).n<=j/\j<(aL (i+1)).n):=fun j l hj hc=>by
  rcases(I.df j l hj).1 with h|⟨k,h3,h4,h5,h6⟩
  ·omega
  ·have hk:k=i:=by
    rcases Nat.lt_trichotomy k i with h|h|h
    ·have:=T.mono (i:=k+1) (k:=i) (by omega) (by omega);omega
    ·exact h
    ·have:=T.mono (i:=i+1) (k:=k) (by omega) (by omega);omega
   subst hk;rw[hS]at h4;cases h4
 have Gg:∀j,j<(aL i).n->μ2 j=μ' j:=fun j hj=>by rw[dH.ext j (by omega),Kp hj]
 have Cd:∀j l,μ' j=some l->DQ μ' μ2 (aL i).n (aL (i+1)).n j=some l:=fun j l hj=>by
  unfold DQ
  by_cases e1:j<(aL i).n
  ·rw[aF e1];exact hj
  ·by_cases e2:j<(aL (i+1)).n
   ·exact absurd ⟨by omega,e2⟩ (zC j l hj)
   ·rw[ar e1,ar e2];exact hj
 have Ce:∀j l,μ2 j=some l->DQ μ' μ2 (aL i).n (aL (i+1)).n j=some l:=fun j l hj=>by
  have hd:=(dH.hr.df j l hj).1
  unfold DQ
  by_cases e1:j<(aL i).n
  ·rw[aF e1,<-Gg j e1];exact hj
  ·rw[ar e1,aF (by omega)];exact hj
 have hinv:∀j l,DQ μ' μ2 (aL i).n (aL (i+1)).n j=some l->(μ' j=some l)\/((aL i).n<=j/\j<(aL (i+1)).n/\μ2 j=some l):=fun j l hj=>by
  unfold DQ at hj
  split at hj
  ·exact .inl hj
  ·split at hj
   ·exact .inr ⟨by omega,by assumption,hj⟩
   ·exact .inl hj
 have uW:∀j,uX aL bo i j->jv aL bo (lY S i) N j=(aL (i+1)).h.get j:=fun j ht=>Yfa hi ht (Zt6 T Or cO hi hS ht)
 have told:∀j l,μ' j=some l->¬j∈(bo i).wr->jv aL bo (lY S i) N j=jv aL bo S N j:=fun j l hj hnw=>Z3 fun h=>h.elim hnw fun h=>zC j l hj h
 have Gh:∀j l o',μ' j=some l->jv aL bo (lY S i) N j=some o'->∃o,jv aL bo S N j=some o/\(o'.wr=true->o.wr=true)/\(o'.live=true->o.live=true):=fun j l o' hj ho=>by
  by_cases hw:j∈(bo i).wr
  ·have ay:=T.Uu i hi j hw
   have xP:=uV j ((pG j ay).2 hw)
   rw[uW j (.inl hw),<-cL j (.inl ⟨xP,ay⟩)]at ho
   obtain⟨o,q1,q2,q3⟩:=dH.grow j o' (by omega) ho
   exact⟨o,by rw[<-jw j l hj ay xP];exact q1,q2,q3⟩
  ·rw[told j l hj hw]at ho
   exact⟨o',ho,id,id⟩
 have Z4:∀j∈ws,∀lj,zA μ' (aL i).n j=some lj->∃o,jv aL bo S N j=some o/\o.wr=true:=fun j hj lj tM=>by
  obtain⟨h1,h2⟩:=DP tM
  obtain⟨o,q1,q2⟩:=dH.yo j hj (by omega)
  exact⟨o,by rw[<-jw j lj h2 h1 (uV j hj)];exact q1,q2⟩
 have Kr:∀j l,(aL i).n<=j->μ2 j=some l->w'.heap.size<=l.b\/∃k lk,k∈ws/\k<(aL i).n/\μ' k=some lk/\lk.b=l.b/\∃o,jv aL bo S N k=some o/\o.wr=true:=fun j l hj hl=>by
  rcases dH.new j l (by omega) hl with h|⟨k,hk,Z5,lk,ok,h1,h2,h3,h4⟩
  ·exact .inl h
  ·obtain⟨_,q2⟩:=DP h1
   exact .inr ⟨k,lk,hk,by omega,q2,h2,Z4 k hk lk h1⟩
 refine⟨fun j hj=>?_,fun j l hj=>?_,fun k hk Z6 j h1 h2=>?_,fun j l hj=>?_,fun j k lj lk oj ok hj hk bB h1 h2 hw hl=>?_,⟨?_,fun t v hv=>?_⟩,?_,?_,fun j l Gi hj=>?_⟩
 ·-- ext
  unfold DQ
  rw[aF (by omega)];exact I.ext j hj
 ·-- df
  rcases hinv j l hj with h|⟨h1,h2,h3⟩
  ·obtain⟨d1,d2⟩:=I.df j l h
   refine⟨d1.imp id fun ⟨k,q1,q2,q3⟩=>⟨k,q1,?_,q3⟩,fE d2 dH.d_.size⟩
   simp only[lY];split<;>first|rfl|exact q2
  ·exact⟨.inr ⟨i,hi,by simp[lY],h1,h2⟩,(dH.hr.df j l h3).2⟩
 ·-- full
  by_cases e:k=i
  ·subst e
   obtain⟨l,hl⟩:=dH.full j (by omega) (by omega)
   exact⟨l,Ce j l hl⟩
  ·simp only[lY,e,if_false]at Z6
   obtain⟨l,hl⟩:=I.full k hk Z6 j h1 h2
   exact⟨l,Cd j l hl⟩
 ·-- obj
  rcases hinv j l hj with h|⟨h1,h2,h3⟩
  ·by_cases hw:j∈(bo i).wr
   ·have ay:=T.Uu i hi j hw
    have xP:=uV j ((pG j ay).2 hw)
    obtain⟨o,q1,q2⟩:=dH.hr.obj j l (by rw[Gg j ay];exact h)
    exact⟨o,by rw[uW j (.inl hw),<-cL j (.inl ⟨xP,ay⟩)];exact q1,q2.mono Ce⟩
   ·obtain⟨o,q1,q2⟩:=I.obj j l h
    refine⟨o,by rw[told j l h hw];exact q1,?_⟩
    cases hl:o.live with
    |false=>cases o<;>simp[O.live]at hl;trivial
    |true=>
     refine(q2.mono Cd).congr (dH.d_.block l.b (I.df j l h).2 fun k hk lk fK=>?_)
     obtain⟨q3,q4⟩:=DP fK
     obtain⟨ok,q5,q6⟩:=Z4 k hk lk fK
     exact I.inj k j lk l ok o q4 h (fun hc=>hw (by rw[<-hc];exact(pG k q3).1 hk)) q5 q1 q6 hl
  ·obtain⟨o,q1,q2⟩:=dH.hr.obj j l h3
   exact⟨o,by rw[uW j (.inr ⟨h1,h2⟩),<-cL j (.inr ⟨h1,h2⟩)];exact q1,q2.mono Ce⟩
 ·-- inj
  have DS:∀j k lj lk oj ok,(aL i).n<=j->j<(aL (i+1)).n->μ2 j=some lj->μ' k=some lk->jv aL bo (lY S i) N j=some oj->jv aL bo (lY S i) N k=some ok->((oj.wr=true/\ok.live=true)\/(ok.wr=true/\oj.live=true))->lj.b≠lk.b:=by
   intro j k lj lk oj ok xR nM Uv hk FA mC DT
   have Cf:ok.live=true:=by
    rcases DT with h|h
    ·exact h.2
    ·have:=h.1;cases ok<;>simp_all [O.wr,O.live]
   rcases Kr j lj xR Uv with h|⟨q,lq,h1,h2,h3,h4,o,h5,h6⟩
   ·have:=(I.df k lk hk).2;omega
   ·rw[<-h4]
    by_cases e:q=k
    ·subst e
     rw[h3,al]at hk;subst hk
     have hwq:=(pG q h2).1 h1
     rw[uW j (.inr ⟨xR,nM⟩),<-cL j (.inr ⟨xR,nM⟩)]at FA
     rw[uW q (.inl hwq),<-cL q (.inl ⟨uV q h1,h2⟩)]at mC
     have jV:μ2 q=some lq:=by rw[Gg q h2];exact h3
     exfalso
     rcases DT with hb|hb
     ·exact dH.hr.inj j q lj lq oj ok Uv jV (by omega) FA mC hb.1 hb.2 h4.symm
     ·exact dH.hr.inj q j lq lj ok oj jV Uv (by omega) mC FA hb.1 hb.2 h4
    ·obtain⟨Ks,g1,g2,g3⟩:=Gh k lk ok hk mC
     exact I.inj q k lq lk o Ks h3 hk e h5 g1 h6 (g3 Cf)
  rcases hinv j lj hj with Kb|⟨a1,a2,a3⟩
  ·rcases hinv k lk hk with gw|⟨b1,b2,b3⟩
   ·obtain⟨oj0,g1,g2,g3⟩:=Gh j lj oj Kb h1
    obtain⟨Ks,g4,g5,g6⟩:=Gh k lk ok gw h2
    exact I.inj j k lj lk oj0 Ks Kb gw bB g1 g4 (g2 hw) (g6 hl)
   ·exact(DS k j lk lj ok oj b1 b2 b3 Kb h2 h1 (.inr ⟨hw,hl⟩)).symm
  ·rcases hinv k lk hk with gw|⟨b1,b2,b3⟩
   ·exact DS j k lj lk oj ok a1 a2 a3 gw h1 h2 (.inl ⟨hw,hl⟩)
   ·rw[uW j (.inr ⟨a1,a2⟩),<-cL j (.inr ⟨a1,a2⟩)]at h1
    rw[uW k (.inr ⟨b1,b2⟩),<-cL k (.inr ⟨b1,b2⟩)]at h2
    exact dH.hr.inj j k lj lk oj ok a3 b3 bB h1 h2 hw hl
 ·-- the temporaries' count
  cases hd:ds i<;>simp[Act.put,I.uT.1]
 ·-- the temporaries
  by_cases ht:ds i=some t
  ·rw[Ye9 Pu hi ht (Yep Or cO pF hi hS ht),al]at hv
   subst hv
   refine⟨x,?_,VR.mono Ce _ _ hx⟩
   rw[ht]
   simp[Act.put,I.uT.1,xQ t ht]
  ·rw[Z7 ht]at hv
   obtain⟨y,q1,q2⟩:=I.uT.2 t v hv
   refine⟨y,?_,VR.mono Cd _ _ q2⟩
   cases hd:ds i with
   |none=>simpa[Act.put]using q1
   |some d=>
    have:d≠t:=fun hc=>ht (by rw[hd,hc])
    simp only[Act.put]
    rw[Om this];exact q1
 ·-- the marks
  have:(a'.put (ds i) x).defers=a'.defers:=by cases ds i<;>rfl
  rw[this];exact I.defs.mono Cd
 ·-- the frame
  refine⟨dH.d_.os.trans I.d_.os,dH.d_.tape.trans I.d_.tape,dH.d_.output.trans I.d_.output,sJ I.d_.size dH.d_.size,fun b hb dv=>?_⟩
  rw[dH.d_.block b (fE hb I.d_.size) fun j hj lj tM=>?_,I.d_.block b hb dv]
  obtain⟨q1,q2⟩:=DP tM
  by_cases e:j<(aL 0).n
  ·exact dv j (hW i hi j ((pG j q1).1 hj)) lj (by rw[<-I.ext j e];exact q2)
  ·rcases I.new j lj (by omega) q2 with h|⟨k,hk,_,lk,_,h3,h4,_⟩
   ·omega
   ·rw[<-h4];exact dv k hk lk h3
 ·-- new ids
  rcases hinv j l hj with h|⟨h1,h2,h3⟩
  ·exact I.new j l Gi h
  ·rcases Kr j l h1 h3 with h|⟨q,lq,q1,q2,q3,q4,o,q5,q6⟩
   ·exact .inl (sJ I.d_.size h)
   ·by_cases e:q<(aL 0).n
    ·have hqW:=hW i hi q ((pG q q2).1 q1)
     obtain⟨oi,g1,g2⟩:=T.yo i hi q ((pG q q2).1 q1)
     obtain⟨o0,g3,g4⟩:=T.DR (by omega) e g1 g2
     exact .inr ⟨q,hqW,e,lq,o0,by rw[<-I.ext q e];exact q3,q4,g3,g4⟩
    ·rcases I.new q lq (by omega) q3 with h|⟨k,hk,g1,lk,ok,g2,g3,g4⟩
     ·exact .inl (by omega)
     ·exact .inr ⟨k,hk,g1,lk,ok,g2,g3.trans q4,g4⟩
end
section
variable {P:Program} {μ:Mu} {w:World} {st aB:St} {fr bL:Fr} {a:Act} {call:cG} {v:V} {lb:Option Nat}
def Zzg:∀(l:List Nat) (n j:Nat),j<n->(j∈ax n l↔j∈l):=by
 intro l n i hi
 induction l with
 |nil=>simp[ax]
 |cons j l ih=>
  simp only[ax]
  split
  ·unfold uN
   split
   ·rename_i hc
    simp only[kv,ih]
    simp only[Ov]at hc
    constructor
    ·exact .inr
    ·rintro(rfl|h)
     ·exact ih.1 hc
     ·exact h
   ·simp only[kv,ih]
  ·simp only[kv,ih]
   constructor
   ·exact .inr
   ·rintro(rfl|h)
    ·omega
    ·exact h
def Yih(cj:ji P call)(hE:tC P){ops:Array Oper}{Q:Exit->Act->World->Prop}{aL:Nat->St}{bE:Nat->Fr}{vI:Nat->V}{bo:Nat->FP}{S:Nat->Bool}{W:List Nat}{μ':Mu}{a':Act}{w':World}
  (h0:bA P μ w (aL 0)) (hs:∀i o,ops[i]?=some o->zD P call ops o (aL i) (bE i) (vI i) (bo i) (aL (i+1)) (bE (i+1)))
  (T:uR P μ aL bE bo ops.size) {ds:Nat->Option Nat} {mo:Nat->dt} (DV:∀i o,ops[i]?=some o->mo i=qo P ops o) (pF:∀k,k<ops.size->ds k=(mo k).dst) (Pu:Gf bE ds vI ops.size)
  {kl:Nat->Nat->Prop} (Or:Ord bo mo ops.size kl) (I:Inv P μ w aL bE bo ds ops.size W S μ' a' w') (cO:∀k,S k=true->∀i,kl k i->S i=true) (hW:∀k,k<ops.size->∀j∈(bo k).wr,j∈W)
  (zE:∀i,i<ops.size->∀ds,pc μ' (bE 0).marks ds->pc (zA μ' (aL i).n) (bE 0).marks ds)
  {i:Nat} (hi:i<ops.size) (hS:S i=false) (hb:∀j,kl i j->S j=true) {K:Act->World->Prop}
  (hK:∀μ2 a2 w2,Inv P μ w aL bE bo ds ops.size W (lY S i) μ2 a2 w2->K a2 w2):wpOpIn (FE lb) 0 P ops Q i K a' w':=by
 have ho:ops[i]?=some ops[i]:=Array.getElem?_eq_getElem hi
 obtain⟨g,b,hg,hw,hp,ht,Kt⟩:=hs i _ ho
 have hmi:=DV i _ ho
 have Gj:mo i=⟨ops[i].dst,zf P ops[i].op,g⟩:=by rw[hmi];unfold qo;rw[hg]
 have iE:ds i=ops[i].dst:=by rw[pF i hi,Gj]
 have Gk:∀s∈(zf P ops[i].op).B2,∀t∈s.tmps,t∈(mo i).reads:=fun s hs t ht=>by
  rw[Gj];simp only[dt.reads,kb,List.mem_flatMap];exact .inr ⟨s,hs,ht⟩
 have Z8:=Yja T Pu I Or cO pF hi hS hb
 have wU:b_ (zB (bE i).r (mo i).reads) g=b_ (bE i).r g:=by
  cases g with
  |none=>rfl
  |some p=>
   obtain⟨t,want⟩:=p
   simp only[b_]
   rw[Kq,aF (by rw[Gj];simp[dt.reads])]
 have xQ:∀d,ds i=some d->d<(bE 0).n:=fun d hd=>by
  rw[iE]at hd
  rw[hd]at hp
  simp only[Fr.put]at hp
  split at hp
  ·rename_i ay;rw[<-(T.fn i (by omega)).1];exact ay
  ·cases hp
 unfold wpOpIn
 rw[ho]
 simp only[]
 have Z9:Region.wanted ops[i] (yielded ops a'.tmps)=b:=iZ (fr:={r:=zB (bE i).r (mo i).reads,n:=(bE 0).n,marks:=[]}) (a:=a') Z8 hg (by rw[wU];exact hw)
 cases b with
 |true=>
  rw[aF Z9]
  obtain⟨s',hm,iB,Ku⟩:=ht rfl
  obtain⟨σ,σ',k1,k2,k3,k4,k5,k6,k7,k8,k9⟩:=Yid (ws:=ax (aL i).n s'.w) (lo:=(aL i).n) (hi:=s'.n) hm rfl
  rw[<-Ku]at k6 k7 k8 k9
  obtain⟨sP,jw⟩:=Z1 h0 T I Or cO hi hS hb k1 k6 k7
  have uY:mD (zA μ' (aL i).n) {r:=zB (bE i).r (mo i).reads,n:=(bE 0).n,marks:=(bE 0).marks} a':=⟨Z8,zE i hi _ I.defs⟩
  have hm2:ct (zf P ops[i].op) call (zB (bE i).r (mo i).reads) σ=some (vI i,σ'):=by
   rw[Yc3 (r':=(bE i).r) fun s hs=>Yoo (Gk s hs)];exact k3
  refine Uw cj hE sP uY hm2 fun x w2 μ2 ws hv dH=>?_
  have pG:ws=s'.w:=by
   have:=dH.wl
   rw[k2,k5,zn]at this
   exact this.symm
  have wD:(aL (i+1)).n=s'.n:=by rw[iB]
  have hh':(aL (i+1)).h=s'.h:=by rw[iB]
  have hinv:=Z2 h0 T Pu I Or cO pF hW hi hS xQ sP jw k1 (by rw[k4,wD]) dH (fun j hj=>by
   rw[pG,Ku,(Ux (call:=call) hm _ _).1]
   exact(Zzg _ _ _ hj).symm) (fun j hj=>k9 j (by rw[<-pG];exact hj)) (fun j hj=>by rw[hh'];exact k8 j (by rw[wD]at hj;exact hj)) hv
  rw[iE]at hinv
  exact hK _ _ _ hinv
 |false=>
  rw[ar (by rw[Z9];simp)]
  obtain⟨hv,iB,Ku⟩:=Kt rfl
  refine⟨fun _ _=>trivial,?_⟩
  have uV:∀j,¬(bo i).dm j:=fun j=>by rw[Ku];simp[FP.dm]
  obtain⟨sP,jw⟩:=Z1 (σ:=⟨qE (aL i).h [] (aL i).n,(aL i).n,[]⟩) h0 T I Or cO hi hS hb rfl (fun j _ hj=>absurd hj (uV j)) (fun j hj _=>by
   show (qE (aL i).h [] (aL i).n).get j=_
   rw[II,aF hj];simp)
  have wD:(aL (i+1)).n=(aL i).n:=by rw[iB]
  have:=Z2 (x:=undef) (ws:=[]) (σ':=⟨qE (aL i).h [] (aL i).n,(aL i).n,[]⟩) h0 T Pu I Or cO pF hW hi hS xQ sP jw rfl wD.symm (bQ.refl sP) (fun j hj=>by rw[Ku]) (fun j hj=>by simp at hj) (fun j hj=>by
   rcases hj with⟨h,_⟩|⟨h1,h2⟩
   ·exact absurd h (uV j)
   ·omega) (by rw[hv];exact⟨[],rfl,by simp[bb]⟩)
  rw[iE]at this
  exact hK _ _ _ this
def KI:∀{os:List Oper} {b:Nat},Ig b os=true->∀i o,os[i]?=some o->∀e∈o.after,Region.binds .any e=true->e.on<b+i
 |[],b,_,i,o,h,_,_,_=>by simp at h
 |o0::os,b,h,i,o,ho,e,he,hb=>by
  simp only[Ig,ib]at h
  cases i with
  |zero=>
   simp only[AL,al]at ho
   subst ho
   have h1:=h.1
   rw[TX]at h1
   have:=h1 e he
   rw[hb]at this
   simpa[Nat.blt_eq]using this
  |succ i=>
   have:=KI h.2 i o (by simpa using ho) e he hb
   omega
def Yaq{ops:Array Oper}(he:Ig 0 ops.toList=true){listed:Array Bool}(kf:listed.size=ops.size)(hr:Region.ready .any ops listed=[]):∀k,k<ops.size->listed.getD k false=true:=by
 intro k
 induction k using Nat.strongRecOn with
 |_ k ih=>
  intro hk
  refine Classical.byContradiction fun hn=>?_
  have uZ:k∈Region.ready .any ops listed:=by
   unfold Region.ready
   simp only[List.mem_filter,yb,ib,FL]
   refine⟨hk,?_,?_⟩
   ·have fK:k<listed.size:=by omega
    simp only[Array.getD,fK,dif_pos]at hn ⊢
    simpa using hn
   ·have ho:ops[k]?=some ops[k]:=Array.getElem?_eq_getElem hk
    rw[ho]
    simp only[xz,rM,TX,FM,FL]
    intro e Kv
    cases hb:Region.binds .any e with
    |false=>exact .inl rfl
    |true=>
     have:=KI he k ops[k] (by rw[BK];exact ho) e Kv hb
     exact .inr (ih e.on (by omega) (by omega))
  rw[hr]at uZ
  cases uZ
def Ye8{p q:Nat->Bool}{i:Nat}(hp:p i=true)(hq:q i=false)(ho:∀k,k≠i->q k=p k):∀N,i<N->(List.range N).countP q+1=(List.range N).countP p:=by
 have same:∀N,N<=i->(List.range N).countP q=(List.range N).countP p:=by
  intro N
  induction N with
  |zero=>intro _;rfl
  |succ N ih=>
   intro h
   rw[List.range_succ,List.countP_append,List.countP_append,ih (by omega)]
   simp[ho N (by omega)]
 intro N
 induction N with
 |zero=>intro h;omega
 |succ N ih=>
  intro h
  rw[List.range_succ,List.countP_append,List.countP_append]
  by_cases e:N=i
  ·subst e
   rw[same N (aW _)]
   simp[hp,hq]
  ·have:=ih (by omega)
   simp only[List.countP_singleton,ho N e]
   omega
end
section
variable {P:Program} {μ:Mu} {w:World} {st aB:St} {fr bL:Fr} {a:Act} {call:cG} {v:V} {lb:Option Nat}
def Yjt{listed:Array Bool}{i:Nat}(hi:i<listed.size):(fun k=>(listed.setIfInBounds i true).getD k false)=lY (fun k=>listed.getD k false) i:=by
 funext k
 simp only[lY,FC]
 by_cases e:k=i
 ·subst e;simp[hi]
 ·rw[Om (Ne.symm e),ar e]
def Yr3(cj:ji P call)(hE:tC P){ops:Array Oper}{Q:Exit->Act->World->Prop}{aL:Nat->St}{bE:Nat->Fr}{vI:Nat->V}{bo:Nat->FP}{W:List Nat}
  (h0:bA P μ w (aL 0)) (hs:∀i o,ops[i]?=some o->zD P call ops o (aL i) (bE i) (vI i) (bo i) (aL (i+1)) (bE (i+1)))
  (T:uR P μ aL bE bo ops.size) {ds:Nat->Option Nat} {mo:Nat->dt} (DV:∀i o,ops[i]?=some o->mo i=qo P ops o) (pF:∀k,k<ops.size->ds k=(mo k).dst) (Pu:Gf bE ds vI ops.size)
  (Or:Ord bo mo ops.size (fun k i=>((uE ops.toList []).getD k 0).testBit i=true)) (hW:∀k,k<ops.size->∀j∈(bo k).wr,j∈W) (zG:Ig 0 ops.toList=true)
  (zE:∀μ',(∀j,j<(aL 0).n->μ' j=μ j)->∀i,i<ops.size->∀ds,pc μ' (bE 0).marks ds->pc (zA μ' (aL i).n) (bE 0).marks ds)
  (hQ:∀S μ' a' w',(∀k,k<ops.size->S k=true)->Inv P μ w aL bE bo ds ops.size W S μ' a' w'->Q .normal a' w'):
  ∀(fuel:Nat) (listed:Array Bool) (μ':Mu) (a':Act) (w':World),listed.size=ops.size->(List.range ops.size).countP (fun k=>!listed.getD k false)=fuel->
   (UO ops fun k=>listed.getD k false=true)->Inv P μ w aL bE bo ds ops.size W (fun k=>listed.getD k false) μ' a' w'->wpAnyIn (FE lb) 0 P .any ops Q fuel listed a' w':=by
 intro fuel
 induction fuel with
 |zero=>
  intro listed μ' a' w' kf hc cO I
  have Kw:∀k,k<ops.size->listed.getD k false=true:=fun k hk=>by
   rw[List.countP_eq_zero]at hc
   have:=hc k (yb.2 hk)
   simpa using this
  refine⟨?_,hQ _ μ' a' w' Kw I⟩
  refine List.eq_nil_iff_forall_not_mem.2 fun j hj=>?_
  obtain⟨h1,h2,_⟩:=UP cO hj
  have:=Kw j h1
  simp only[FC]at h2 this
  have nM:j<listed.size:=by omega
  simp[nM]at h2 this
  rw[h2]at this;cases this
 |succ fuel ih=>
  intro listed μ' a' w' kf hc cO I
  refine⟨fun hr=>hQ _ μ' a' w' (Yaq zG kf hr) I,fun i hi=>?_⟩
  obtain⟨h1,h2,h3⟩:=UP cO hi
  have Uy:i<listed.size:=by omega
  have hSi:listed.getD i false=false:=by
   simp only[FC]at h2 ⊢
   simp[Uy]at h2 ⊢
   exact h2
  refine Yih (S:=fun k=>listed.getD k false) cj hE h0 hs T DV pF Pu Or I (fun k hk i hb=>cO k i hk hb) hW (zE μ' I.ext) h1 hSi h3 fun μ2 a2 w2 I2=>?_
  have zH:=Yjt (listed:=listed) Uy
  refine ih (listed.setIfInBounds i true) μ2 a2 w2 (by simp[kf]) ?_ ?_ (by rw[zH];exact I2)
  ·have:=Ye8 (p:=fun k=>!listed.getD k false) (q:=fun k=>!(listed.setIfInBounds i true).getD k false) (i:=i) (by simp[hSi]) (by
    have:=congrFun zH i
    simp only[this];simp[lY]) (fun k hk=>by
    have:=congrFun zH k
    simp only[this];simp[lY,hk]) ops.size h1
   omega
  ·intro k j hk hb
   have e1:=congrFun zH k
   have e2:=congrFun zH j
   simp only[e1,e2,lY]at hk ⊢
   by_cases ej:j=i
   ·rw[aF ej]
   ·rw[ar ej]
    by_cases ek:k=i
    ·subst ek;exact h3 j hb
    ·rw[ar ek]at hk;exact cO k j hk hb
def pc.Kx{μ μ' μ2:Mu}{n:Nat}(hd:∀i l,μ i=some l->i<n)(h:∀i l,i<n->μ' i=some l->μ2 i=some l):∀{ms:List Nat} {ds DW:List Deferred},pc μ ms ds->pc μ' ms DW->pc μ2 ms DW
 |[],_,_,_,h2=>h2
 |m::ms,_,_,⟨l,_,h1,_,h3⟩,⟨l',d',g1,g2,g3⟩=>⟨l',d',h m l' (hd m l h1) g1,g2,pc.Kx hd h h3 g3⟩
def A7{aL:Nat->St}{bE:Nat->Fr}{bo:Nat->FP}{N:Nat}(T:uR P μ aL bE bo N)(j:Nat):∀i,i<=N->(aL 0).n<=j->j<(aL i).n->∃k,k<i/\(aL k).n<=j/\j<(aL (k+1)).n
 |0,_,h1,h2=>by omega
 |i+1,hi,h1,h2=>by
  by_cases e:j<(aL i).n
  ·obtain⟨k,a1,a2⟩:=A7 T j i (by omega) h1 e
   exact⟨k,by omega,a2⟩
  ·exact⟨i,by omega,by omega,h2⟩
def K9{aL:Nat->St}{bE:Nat->Fr}{bo:Nat->FP}{N:Nat}(T:uR P μ aL bE bo N):∀i,i<=N->∃Wi,(aL i).w=Wi++(aL 0).w/\∀k,k<i->∀j∈(bo k).wr,j∈Wi
 |0,_=>⟨[],rfl,fun k hk=>by omega⟩
 |i+1,hi=>by
  obtain⟨Wi,h1,h2⟩:=K9 T i (by omega)
  refine⟨(bo i).wr++Wi,by rw[T.wl i (by omega),h1,tL],fun k hk j hj=>?_⟩
  by_cases e:k=i
  ·subst e;simp[hj]
  ·simp[h2 k (by omega) j hj]
def Lb(hm:P.follows .mixedOrders=true)(hE:tC P)(cj:ji P call):Pa P call:=by
 intro id ops fr st ex bL aB hp h μ w a lb hh hf
 unfold TS at hp
 simp only[ib]at hp
 obtain⟨zG,Uz⟩:=hp
 unfold zu at h
 split at h
 ·rename_i gS dS cf bX
  split at h
  ·rename_i Ky
   simp only[al,bF]at h
   obtain⟨rfl,rfl,rfl⟩:=h
   obtain⟨aL,bE,vI,bo,e1,e2,e3,e4,e5,hs⟩:=UN ops.toList fr st gS dS cf bX
   subst e1 e2
   have hN:ops.toList.length=ops.size:=by simp
   rw[hN]at e3 e4 e5
   have iY:∀i o,ops[i]?=some o->zD P call ops o (aL i) (bE i) (vI i) (bo i) (aL (i+1)) (bE (i+1)):=fun i o ho=>(hs i o (by rw[BK];exact ho)).2
   have T:=Yp0 cj hE hN hh hf fun i o ho=>(hs i o ho).2
   let mo:Nat->dt:=fun i=>match ops[i]? with|some o=>qo P ops o|none=>⟨none,.stop,none⟩
   have DV:∀i o,ops[i]?=some o->mo i=qo P ops o:=fun i o ho=>by simp only[mo,ho]
   have UA:∀i o,ops[i]?=some o->(mo i).dst=o.dst:=fun i o ho=>by rw[DV i o ho];unfold qo;split<;>rfl
   have cL:∀i,i<ops.size->ops[i]?=some (ops[i]!):=fun i hi=>by simp[hi]
   have Pu:Gf bE (fun k=>(mo k).dst) vI ops.size:=fun i hi t=>by
    obtain⟨g,b,_,_,hp,_⟩:=iY i _ (cL i hi)
    show (bE (i+1)).r.get t=if (mo i).dst=some t then some (vI i) else (bE i).r.get t
    rw[UA i _ (cL i hi)]
    cases hd:(ops[i]!).dst with
    |none=>rw[hd]at hp;simp only[Fr.put,al]at hp;rw[<-hp];simp
    |some d=>
     rw[hd]at hp
     simp only[Fr.put]at hp
     split at hp
     ·simp only[al]at hp
      rw[<-hp,Go.Mx.T.ag]
      by_cases e:t=d
      ·subst e;simp
      ·rw[ar e,ar (by simp[Ne.symm e])]
     ·cases hp
   have Or:Ord bo mo ops.size (fun k i=>((uE ops.toList []).getD k 0).testBit i=true):=by
    refine⟨fun i k Kz hk=>?_,fun i k Kz hk=>?_⟩
    ·exact Vi Ky Kz ((hs i _ (by rw[BK];exact cL i (by omega))).1) ((hs k _ (by rw[BK];exact cL k hk)).1)
    ·refine Vi Uz Kz ?_ ?_
     ·rw[gG,BK,cL i (by omega),xz,DV i _ (cL i (by omega))]
     ·rw[gG,BK,cL k hk,xz,DV k _ (cL k hk)]
   obtain⟨W,DX,dX⟩:=K9 T ops.size (aW _)
   obtain⟨wT,μT,aT,UC,ON,hT2⟩:=HZ cj hE hN hh hf (fun i o ho=>(hs i o ho).2) ops.size (aW _)
   have UD:UC=W:=List.append_cancel_right (ON.wl.symm.trans DX)
   subst UD
   have zJ:∀k,(Array.replicate ops.size false).getD k false=false:=fun k=>by
    simp only[FC]
    by_cases hk:k<ops.size
    ·simp[hk]
    ·simp[hk]
   have hcH:∀M j,jv aL bo (fun k=>(Array.replicate ops.size false).getD k false) M j=(aL 0).h.get j:=fun M j=>OK (i:=0) (tH _) fun k _ _ _=>zJ k
   have hcR:∀M t,uU bE (fun k=>(mo k).dst) (fun k=>(Array.replicate ops.size false).getD k false) M t=(bE 0).r.get t:=fun M t=>OL (i:=0) (tH _) fun k _ _ _=>zJ k
   have I0:Inv P μ w aL bE bo (fun k=>(mo k).dst) ops.size UC (fun k=>(Array.replicate ops.size false).getD k false) μ a {w with drawn:=w.drawn+1}:=by
    refine⟨fun _ _=>rfl,fun j l hj=>⟨.inl (hh.df j l hj).1,(hh.df j l hj).2⟩,fun k _ hk=>?_,fun j l hj=>?_,fun i j l l' o o' h1 h2 h3 h4 h5=>?_,⟨hf.1.1,fun t v hv=>?_⟩,hf.2,⟨rfl,rfl,rfl,aW _,fun _ _ _=>rfl⟩,fun i l h1 h2=>absurd (hh.df i l h2).1 (by omega)⟩
    ·rw[zJ k]at hk;cases hk
    ·obtain⟨o,q1,q2⟩:=hh.obj j l hj
     exact⟨o,by rw[hcH];exact q1,OM.congr (w:=w) rfl q2⟩
    ·rw[hcH]at h4 h5
     exact hh.inj i j l l' o o' h1 h2 h3 h4 h5
    ·rw[hcR]at hv
     exact hf.1.2 t v hv
   refine wpIn_region_any hm (Yr3 cj hE hh iY T DV (fun _ _=>rfl) Pu Or dX zG ?_ ?_ ops.size _ μ a _ (by simp) ?_ ?_ I0)
   ·intro μ' u9 i hi ds pF
    exact pc.Kx (n:=(aL 0).n) (fun j l hj=>(hh.df j l hj).1) (fun j l hj hl=>by
     have:=T.mono (i:=0) (k:=i) (by omega) (by omega)
     rw[Kp (by omega)];exact hl) hf.2 pF
   ·intro S μ' a' w' hS I
    have UE:∀j,j<(aL ops.size).n->jv aL bo S ops.size j=(aL ops.size).h.get j:=fun j hj=>Us T (aW _) hj fun k hk _=>hS k hk
    have hfR:∀t,uU bE (fun k=>(mo k).dst) S ops.size t=(bE ops.size).r.get t:=fun t=>Ut Pu (aW _) fun k hk _=>hS k hk
    have Cg:∀j l,μ' j=some l->j<(aL ops.size).n:=fun j l hj=>by
     rcases(I.df j l hj).1 with h|⟨k,h1,_,_,h2⟩
     ·have:=T.mono (i:=0) (k:=ops.size) (by omega) (by omega);omega
     ·have:=T.mono (i:=k+1) (k:=ops.size) (by omega) (by omega);omega
    rw[<-e3,<-e4]
    refine⟨rfl,μ',UC,⟨⟨fun j l hj=>⟨Cg j l hj,(I.df j l hj).2⟩,fun j l hj=>?_,fun i j l l' o o' h1 h2 h3 h4 h5=>?_,fun g hg=>?_⟩,I.ext,T.mono (tH _) (aW _),DX,I.d_,I.new,ON.ae,ON.grow,fun j h1 h2=>?_,ON.yo⟩,⟨?_,fun t v hv=>?_⟩,?_⟩
    ·obtain⟨o,q1,q2⟩:=I.obj j l hj
     exact⟨o,by rw[<-UE j (Cg j l hj)];exact q1,q2⟩
    ·exact I.inj i j l l' o o' h1 h2 h3 (by rw[UE i (Cg i l h1)];exact h4) (by rw[UE j (Cg j l' h2)];exact h5)
    ·obtain⟨t,ht⟩:=hh.gK g hg
     exact⟨t,by rw[I.ext g (hh.df g _ ht).1];exact ht⟩
    ·obtain⟨k,q1,q2,q3⟩:=A7 T j ops.size (aW _) h1 h2
     exact I.full k q1 (hS k q1) j q2 q3
    ·rw[(T.fn ops.size (aW _)).1];exact I.uT.1
    ·exact I.uT.2 t v (by rw[hfR];exact hv)
    ·rw[(T.fn ops.size (aW _)).2];exact I.defs
   ·have:(fun k=>!(Array.replicate ops.size false).getD k false)=fun _=>true:=by funext k;rw[zJ];rfl
    rw[this];simp
   ·intro k i hk
    rw[zJ k]at hk;cases hk
  ·cases h
 ·cases h
end
end Go.Mx
