/-A region that draws its order-/
import Derived.Test.YtokjleejipaidaaGreatDoorMxTxt
set_option linter.all false
namespace Go.Mx
open Go
section
variable {P:Program} {μ μ':Mu} {w w':World} {aI:Nat->St} {bq:Nat->Fr} {bf:Nat->FP} {ds:Nat->Option Nat} {S:Nat->Bool} {N:Nat} {W:List Nat} {a a':Act} {mo:Nat->dr} {kW:Nat->Nat->Prop}
def AJ(μ':Mu)(n:Nat):Mu:=fun j=>if j<n then μ' j else none
def Ma{n j:Nat}(h:j<n):AJ μ' n j=μ' j:=ax h
def Fi{n j:Nat}{l:L}(h:AJ μ' n j=some l):j<n/\μ' j=some l:=by
 unfold AJ at h
 split at h
 ·exact⟨by assumption,h⟩
 ·cases h
def Ygn(h0:bm P μ w (aI 0))(T:wg P μ aI bq bf N)(I:Inv P μ w aI bq bf ds N W S μ' a' w')(Or:Ord bf mo N kW)(cO:∀k,S k=true->∀i,kW k i->S i=true){i:Nat}(hi:i<N)(hS:S i=false)(hb:∀j,kW i j->S j=true)
  {σ:St} (hn:σ.n=(aI i).n) (hs:∀j,j<(aI i).n->(bf i).dk j->σ.h.get j=(aI i).h.get j) (hd:∀j,j<(aI i).n->¬(bf i).dk j->σ.h.get j=((aI i).h.get j).map fun _=>.dead):
  bm P (AJ μ' (aI i).n) w' σ/\∀j l,μ' j=some l->j<(aI i).n->(bf i).dk j->σ.h.get j=jM aI bf S N j:=by
 have jN:∀j l,μ' j=some l->j<(aI i).n->(bf i).dk j->jM aI bf S N j=(aI i).h.get j:=fun j l hj au yW=>by
  obtain⟨h1,h2⟩:=Zzw T I Or cO hi hS hb hj au yW
  rw[Rb (i:=i) (by omega) h2,Xj T (by omega) au h1]
 have wh:∀j l,μ' j=some l->j<(aI i).n->(bf i).dk j->σ.h.get j=jM aI bf S N j:=fun j l hj au yW=>by rw[hs j au yW,jN j l hj au yW]
 have hold:∀j l,μ' j=some l->j<(aI 0).n->∃l,μ j=some l:=fun j l hj h0=>⟨l,by rw[<-I.ext j h0];exact hj⟩
 refine⟨⟨fun j l hj=>?_,fun j l hj=>?_,fun j k lj lk oj ok hj hk aW h1 h2 hw hl=>?_,fun g hg=>?_⟩,wh⟩
 ·obtain⟨h1,h2⟩:=Fi hj
  exact⟨by omega,(I.c_ j l h2).2⟩
 ·obtain⟨h1,h2⟩:=Fi hj
  obtain⟨o,μT,wT,lT,t1,t2,t3⟩:=T.sch i (by omega) j (hold j l h2) h1
  by_cases yW:(bf i).dk j
  ·obtain⟨o',q1,q2⟩:=I.obj j l h2
   rw[jN j l h2 h1 yW,t1,an]at q1
   subst q1
   exact⟨o,by rw[hs j h1 yW,t1],OM.cut (n:=(aI i).n) (fun k lk hk eF=>by rw[Ma hk];exact eF) t3 t2 q2⟩
  ·exact⟨.dead,by rw[hd j h1 yW,t1];rfl,trivial⟩
 ·obtain⟨a1,a2⟩:=Fi hj
  obtain⟨b1,b2⟩:=Fi hk
  have sj:(bf i).dk j:=Classical.byContradiction fun hn=>by
   rw[hd j a1 hn]at h1
   cases hq:(aI i).h.get j<;>rw[hq]at h1<;>simp at h1
   subst h1;simp[O.wr]at hw
  have sk:(bf i).dk k:=Classical.byContradiction fun hn=>by
   rw[hd k b1 hn]at h2
   cases hq:(aI i).h.get k<;>rw[hq]at h2<;>simp at h2
   subst h2;simp[O.live]at hl
  exact I.inj j k lj lk oj ok a2 b2 aW (by rw[<-wh j lj a2 a1 sj];exact h1) (by rw[<-wh k lk b2 b1 sk];exact h2) hw hl
 ·obtain⟨t,ht⟩:=h0.ic g hg
  have tC:=(h0.c_ g _ ht).1
  have:=T.mono (i:=0) (k:=i) (by omega) (by omega)
  exact⟨t,by rw[Ma (by omega),I.ext g tC];exact ht⟩
def Yk1(T:wg P μ aI bq bf N){vI:Nat->V}(Pu:Hy bq ds vI N)(I:Inv P μ w aI bq bf ds N W S μ' a' w')(Or:Ord bf mo N kW)(cO:∀k,S k=true->∀i,kW k i->S i=true)(qy:∀k,k<N->ds k=(mo k).dst)
  {i:Nat} (hi:i<N) (hS:S i=false) (hb:∀j,kW i j->S j=true):
  RR (AJ μ' (aI i).n) (AK (bq i).r (mo i).reads) (bq 0).n a'.tmps:=by
 refine⟨I.wi.1,fun t v hv=>?_⟩
 rw[Mb]at hv
 split at hv
 ·rename_i ht
  obtain⟨h1,h2⟩:=Zz1 Or cO qy hi hS hb ht
  have hc:wj bq ds S N t=some v:=by
   rw[Rc (i:=i) (by omega) h2,Xk Pu (by omega) h1];exact hv
  obtain⟨x,hx,hr⟩:=I.wi.2 t v hc
  exact⟨x,hx,VR.cut (n:=(aI i).n) (fun k lk hk eF=>by rw[Ma hk];exact eF) v x (T.scr i (by omega) t v hv) hr⟩
 ·cases hv
def Fj(μ' μ2:Mu)(n n':Nat):Mu:=fun j=>if j<n then μ' j else if j<n' then μ2 j else μ' j
def wg.Fk(T:wg P μ aI bq bf N):∀{i j:Nat} {o':O},i<=N->j<(aI 0).n->(aI i).h.get j=some o'->o'.wr=true->∃o,(aI 0).h.get j=some o/\o.wr=true
 |0,j,o',_,_,h,hw=>⟨o',h,hw⟩
 |i+1,j,o',hi,hj,h,hw=>by
  have:=T.mono (i:=0) (k:=i) (by omega) (by omega)
  obtain⟨o,h1,h2,_⟩:=T.grow i (by omega) j o' (by omega) h
  exact T.Fk (by omega) hj h1 (h2 hw)
def Zyl(h0:bm P μ w (aI 0))(T:wg P μ aI bq bf N){vI:Nat->V}(Pu:Hy bq ds vI N)(I:Inv P μ w aI bq bf ds N W S μ' a' w')(Or:Ord bf mo N kW)(cO:∀k,S k=true->∀i,kW k i->S i=true)
  (qy:∀k,k<N->ds k=(mo k).dst) (hW:∀k,k<N->∀j∈(bf k).wr,j∈W) {i:Nat} (hi:i<N) (hS:S i=false) (yX:∀d,ds i=some d->d<(bq 0).n)
  {σ σ':St} {μ2:Mu} {w2:World} {ws:List Nat} {x:Value} (tY:bm P (AJ μ' (aI i).n) w' σ) (jN:∀j l,μ' j=some l->j<(aI i).n->(bf i).dk j->σ.h.get j=jM aI bf S N j)
  (hn:σ.n=(aI i).n) (tu:σ'.n=(aI (i+1)).n) (dK:bH P (AJ μ' (aI i).n) w' σ μ2 w2 σ' ws) (qz:∀j,j<(aI i).n->(j∈ws↔j∈(bf i).wr)) (wk:∀j∈ws,(bf i).dk j)
  (cL:∀j,((bf i).dk j/\j<(aI i).n)\/((aI i).n<=j/\j<(aI (i+1)).n)->σ'.h.get j=(aI (i+1)).h.get j) (hx:VR μ2 (vI i) x):
  Inv P μ w aI bq bf ds N W (mC S i) (Fj μ' μ2 (aI i).n (aI (i+1)).n) (a'.put (ds i) x) w2:=by
 have hle:=T.fk i hi
 have zaJ:=T.mono (i:=0) (k:=i) (by omega) (by omega)
 have AL:∀j l,μ' j=some l->¬((aI i).n<=j/\j<(aI (i+1)).n):=fun j l hj hc=>by
  rcases(I.c_ j l hj).1 with h|⟨k,h3,h4,h5,h6⟩
  ·omega
  ·have hk:k=i:=by
    rcases Nat.lt_trichotomy k i with h|h|h
    ·have:=T.mono (i:=k+1) (k:=i) (by omega) (by omega);omega
    ·exact h
    ·have:=T.mono (i:=i+1) (k:=k) (by omega) (by omega);omega
   subst hk;rw[hS]at h4;cases h4
 have Hz:∀j,j<(aI i).n->μ2 j=μ' j:=fun j hj=>by rw[dK.ext j (by omega),Ma hj]
 have De:∀j l,μ' j=some l->Fj μ' μ2 (aI i).n (aI (i+1)).n j=some l:=fun j l hj=>by
  unfold Fj
  by_cases e1:j<(aI i).n
  ·rw[ax e1];exact hj
  ·by_cases e2:j<(aI (i+1)).n
   ·exact absurd ⟨by omega,e2⟩ (AL j l hj)
   ·rw[ak e1,ak e2];exact hj
 have Df:∀j l,μ2 j=some l->Fj μ' μ2 (aI i).n (aI (i+1)).n j=some l:=fun j l hj=>by
  have hd:=(dK.hr.c_ j l hj).1
  unfold Fj
  by_cases e1:j<(aI i).n
  ·rw[ax e1,<-Hz j e1];exact hj
  ·rw[ak e1,ax (by omega)];exact hj
 have hinv:∀j l,Fj μ' μ2 (aI i).n (aI (i+1)).n j=some l->(μ' j=some l)\/((aI i).n<=j/\j<(aI (i+1)).n/\μ2 j=some l):=fun j l hj=>by
  unfold Fj at hj
  split at hj
  ·exact .inl hj
  ·split at hj
   ·exact .inr ⟨by omega,by assumption,hj⟩
   ·exact .inl hj
 have wm:∀j,wo aI bf i j->jM aI bf (mC S i) N j=(aI (i+1)).h.get j:=fun j ht=>Ygs hi ht (Zvc T Or cO hi hS ht)
 have told:∀j l,μ' j=some l->¬j∈(bf i).wr->jM aI bf (mC S i) N j=jM aI bf S N j:=fun j l hj hnw=>Zig fun h=>h.elim hnw fun h=>AL j l hj h
 have HC:∀j l o',μ' j=some l->jM aI bf (mC S i) N j=some o'->∃o,jM aI bf S N j=some o/\(o'.wr=true->o.wr=true)/\(o'.live=true->o.live=true):=fun j l o' hj ho=>by
  by_cases hw:j∈(bf i).wr
  ·have au:=T.Xl i hi j hw
   have yW:=wk j ((qz j au).2 hw)
   rw[wm j (.inl hw),<-cL j (.inl ⟨yW,au⟩)]at ho
   obtain⟨o,q1,q2,q3⟩:=dK.grow j o' (by omega) ho
   exact⟨o,by rw[<-jN j l hj au yW];exact q1,q2,q3⟩
  ·rw[told j l hj hw]at ho
   exact⟨o',ho,id,id⟩
 have cwr:∀j∈ws,∀lj,AJ μ' (aI i).n j=some lj->∃o,jM aI bf S N j=some o/\o.wr=true:=fun j hj lj uW=>by
  obtain⟨h1,h2⟩:=Fi uW
  obtain⟨o,q1,q2⟩:=dK.zA j hj (by omega)
  exact⟨o,by rw[<-jN j lj h2 h1 (wk j hj)];exact q1,q2⟩
 have Mc:∀j l,(aI i).n<=j->μ2 j=some l->w'.heap.size<=l.b\/∃k lk,k∈ws/\k<(aI i).n/\μ' k=some lk/\lk.b=l.b/\∃o,jM aI bf S N k=some o/\o.wr=true:=fun j l hj hl=>by
  rcases dK.new j l (by omega) hl with h|⟨k,hk,QD,lk,ok,h1,h2,h3,h4⟩
  ·exact .inl h
  ·obtain⟨_,q2⟩:=Fi h1
   exact .inr ⟨k,lk,hk,by omega,q2,h2,cwr k hk lk h1⟩
 refine⟨fun j hj=>?_,fun j l hj=>?_,fun k hk hSk j h1 h2=>?_,fun j l hj=>?_,fun j k lj lk oj ok hj hk aW h1 h2 hw hl=>?_,⟨?_,fun t v hv=>?_⟩,?_,?_,fun j l yY hj=>?_⟩
 ·-- ext
  unfold Fj
  rw[ax (by omega)];exact I.ext j hj
 ·-- c_
  rcases hinv j l hj with h|⟨h1,h2,h3⟩
  ·obtain⟨d1,d2⟩:=I.c_ j l h
   refine⟨d1.imp id fun ⟨k,q1,q2,q3⟩=>⟨k,q1,?_,q3⟩,e_ d2 dK.ed.size⟩
   simp only[mC];split<;>first|rfl|exact q2
  ·exact⟨.inr ⟨i,hi,by simp[mC],h1,h2⟩,(dK.hr.c_ j l h3).2⟩
 ·-- full
  by_cases e:k=i
  ·subst e
   obtain⟨l,hl⟩:=dK.full j (by omega) (by omega)
   exact⟨l,Df j l hl⟩
  ·simp only[mC,e,if_false]at hSk
   obtain⟨l,hl⟩:=I.full k hk hSk j h1 h2
   exact⟨l,De j l hl⟩
 ·-- obj
  rcases hinv j l hj with h|⟨h1,h2,h3⟩
  ·by_cases hw:j∈(bf i).wr
   ·have au:=T.Xl i hi j hw
    have yW:=wk j ((qz j au).2 hw)
    obtain⟨o,q1,q2⟩:=dK.hr.obj j l (by rw[Hz j au];exact h)
    exact⟨o,by rw[wm j (.inl hw),<-cL j (.inl ⟨yW,au⟩)];exact q1,q2.mono Df⟩
   ·obtain⟨o,q1,q2⟩:=I.obj j l h
    refine⟨o,by rw[told j l h hw];exact q1,?_⟩
    cases hl:o.live with
    |false=>cases o<;>simp[O.live]at hl;trivial
    |true=>
     refine(q2.mono De).congr (dK.ed.block l.b (I.c_ j l h).2 fun k hk lk fR=>?_)
     obtain⟨q3,q4⟩:=Fi fR
     obtain⟨ok,q5,q6⟩:=cwr k hk lk fR
     exact I.inj k j lk l ok o q4 h (fun hc=>hw (by rw[<-hc];exact(qz k q3).1 hk)) q5 q1 q6 hl
  ·obtain⟨o,q1,q2⟩:=dK.hr.obj j l h3
   exact⟨o,by rw[wm j (.inr ⟨h1,h2⟩),<-cL j (.inr ⟨h1,h2⟩)];exact q1,q2.mono Df⟩
 ·-- inj
  have Fl:∀j k lj lk oj ok,(aI i).n<=j->j<(aI (i+1)).n->μ2 j=some lj->μ' k=some lk->jM aI bf (mC S i) N j=some oj->jM aI bf (mC S i) N k=some ok->((oj.wr=true/\ok.live=true)\/(ok.wr=true/\oj.live=true))->lj.b≠lk.b:=by
   intro j k lj lk oj ok qk oR Xm hk GS mW Fm
   have Dh:ok.live=true:=by
    rcases Fm with h|h
    ·exact h.2
    ·have:=h.1;cases ok<;>simp_all [O.wr,O.live]
   rcases Mc j lj qk Xm with h|⟨q,lq,h1,h2,h3,h4,o,h5,h6⟩
   ·have:=(I.c_ k lk hk).2;omega
   ·rw[<-h4]
    by_cases e:q=k
    ·subst e
     rw[h3,an]at hk;subst hk
     have hwq:=(qz q h2).1 h1
     rw[wm j (.inr ⟨qk,oR⟩),<-cL j (.inr ⟨qk,oR⟩)]at GS
     rw[wm q (.inl hwq),<-cL q (.inl ⟨wk q h1,h2⟩)]at mW
     have km:μ2 q=some lq:=by rw[Hz q h2];exact h3
     exfalso
     rcases Fm with hb|hb
     ·exact dK.hr.inj j q lj lq oj ok Xm km (by omega) GS mW hb.1 hb.2 h4.symm
     ·exact dK.hr.inj q j lq lj ok oj km Xm (by omega) mW GS hb.1 hb.2 h4
    ·obtain⟨Md,g1,g2,g3⟩:=HC k lk ok hk mW
     exact I.inj q k lq lk o Md h3 hk e h5 g1 h6 (g3 Dh)
  rcases hinv j lj hj with LN|⟨a1,a2,a3⟩
  ·rcases hinv k lk hk with gS|⟨b1,b2,b3⟩
   ·obtain⟨oj0,g1,g2,g3⟩:=HC j lj oj LN h1
    obtain⟨Md,g4,g5,g6⟩:=HC k lk ok gS h2
    exact I.inj j k lj lk oj0 Md LN gS aW g1 g4 (g2 hw) (g6 hl)
   ·exact(Fl k j lk lj ok oj b1 b2 b3 LN h2 h1 (.inr ⟨hw,hl⟩)).symm
  ·rcases hinv k lk hk with gS|⟨b1,b2,b3⟩
   ·exact Fl j k lj lk oj ok a1 a2 a3 gS h1 h2 (.inl ⟨hw,hl⟩)
   ·rw[wm j (.inr ⟨a1,a2⟩),<-cL j (.inr ⟨a1,a2⟩)]at h1
    rw[wm k (.inr ⟨b1,b2⟩),<-cL k (.inr ⟨b1,b2⟩)]at h2
    exact dK.hr.inj j k lj lk oj ok a3 b3 aW h1 h2 hw hl
 ·-- the temporaries' count
  cases hd:ds i<;>simp[Act.put,I.wi.1]
 ·-- the temporaries
  by_cases ht:ds i=some t
  ·rw[Ygr Pu hi ht (Yf5 Or cO qy hi hS ht),an]at hv
   subst hv
   refine⟨x,?_,VR.mono Df _ _ hx⟩
   rw[ht]
   simp[Act.put,I.wi.1,yX t ht]
  ·rw[Zif ht]at hv
   obtain⟨y,q1,q2⟩:=I.wi.2 t v hv
   refine⟨y,?_,VR.mono De _ _ q2⟩
   cases hd:ds i with
   |none=>simpa[Act.put]using q1
   |some d=>
    have:d≠t:=fun hc=>ht (by rw[hd,hc])
    simp only[Act.put]
    rw[QQ this];exact q1
 ·-- the marks
  have:(a'.put (ds i) x).defers=a'.defers:=by cases ds i<;>rfl
  rw[this];exact I.defs.mono De
 ·-- the frame
  refine⟨dK.ed.os.trans I.ed.os,dK.ed.tape.trans I.ed.tape,dK.ed.output.trans I.ed.output,p9 I.ed.size dK.ed.size,fun b hb dv=>?_⟩
  rw[dK.ed.block b (e_ hb I.ed.size) fun j hj lj uW=>?_,I.ed.block b hb dv]
  obtain⟨q1,q2⟩:=Fi uW
  by_cases e:j<(aI 0).n
  ·exact dv j (hW i hi j ((qz j q1).1 hj)) lj (by rw[<-I.ext j e];exact q2)
  ·rcases I.new j lj (by omega) q2 with h|⟨k,hk,_,lk,_,h3,h4,_⟩
   ·omega
   ·rw[<-h4];exact dv k hk lk h3
 ·-- new ids
  rcases hinv j l hj with h|⟨h1,h2,h3⟩
  ·exact I.new j l yY h
  ·rcases Mc j l h1 h3 with h|⟨q,lq,q1,q2,q3,q4,o,q5,q6⟩
   ·exact .inl (p9 I.ed.size h)
   ·by_cases e:q<(aI 0).n
    ·have hqW:=hW i hi q ((qz q q2).1 q1)
     obtain⟨oi,g1,g2⟩:=T.zA i hi q ((qz q q2).1 q1)
     obtain⟨o0,g3,g4⟩:=T.Fk (by omega) e g1 g2
     exact .inr ⟨q,hqW,e,lq,o0,by rw[<-I.ext q e];exact q3,q4,g3,g4⟩
    ·rcases I.new q lq (by omega) q3 with h|⟨k,hk,g1,lk,ok,g2,g3,g4⟩
     ·exact .inl (by omega)
     ·exact .inr ⟨k,hk,g1,lk,ok,g2,g3.trans q4,g4⟩
end
section
variable {P:Program} {μ:Mu} {w:World} {st aA:St} {fr bE:Fr} {a:Act} {call:cH} {v:V} {lb:Option Nat}
def Yat:∀(l:List Nat) (n j:Nat),j<n->(j∈ar n l↔j∈l):=by
 intro l n i hi
 induction l with
 |nil=>simp[ar]
 |cons j l ih=>
  simp only[ar]
  split
  ·unfold vZ
   split
   ·rename_i hc
    simp only[ku,ih]
    simp only[QV]at hc
    constructor
    ·exact .inr
    ·rintro(rfl|h)
     ·exact ih.1 hc
     ·exact h
   ·simp only[ku,ih]
  ·simp only[ku,ih]
   constructor
   ·exact .inr
   ·rintro(rfl|h)
    ·omega
    ·exact h
def Yj3(b_:js P call)(hE:uJ P){ops:Array Oper}{Q:Exit->Act->World->Prop}{aI:Nat->St}{bq:Nat->Fr}{vI:Nat->V}{bf:Nat->FP}{S:Nat->Bool}{W:List Nat}{μ':Mu}{a':Act}{w':World}
  (h0:bm P μ w (aI 0)) (hs:∀i o,ops[i]?=some o->AM P call ops o (aI i) (bq i) (vI i) (bf i) (aI (i+1)) (bq (i+1)))
  (T:wg P μ aI bq bf ops.size) {ds:Nat->Option Nat} {mo:Nat->dr} (Fo:∀i o,ops[i]?=some o->mo i=rE P ops o) (qy:∀k,k<ops.size->ds k=(mo k).dst) (Pu:Hy bq ds vI ops.size)
  {kW:Nat->Nat->Prop} (Or:Ord bf mo ops.size kW) (I:Inv P μ w aI bq bf ds ops.size W S μ' a' w') (cO:∀k,S k=true->∀i,kW k i->S i=true) (hW:∀k,k<ops.size->∀j∈(bf k).wr,j∈W)
  (AN:∀i,i<ops.size->∀ds,qc μ' (bq 0).marks ds->qc (AJ μ' (aI i).n) (bq 0).marks ds)
  {i:Nat} (hi:i<ops.size) (hS:S i=false) (hb:∀j,kW i j->S j=true) {K:Act->World->Prop}
  (hK:∀μ2 a2 w2,Inv P μ w aI bq bf ds ops.size W (mC S i) μ2 a2 w2->K a2 w2):wpOpIn (FE lb) 0 P ops Q i K a' w':=by
 have ho:ops[i]?=some ops[i]:=Array.getElem?_eq_getElem hi
 obtain⟨g,b,hg,hw,hp,ht,Me⟩:=hs i _ ho
 have hmi:=Fo i _ ho
 have HD:mo i=⟨ops[i].dst,As P ops[i].op,g⟩:=by rw[hmi];unfold rE;rw[hg]
 have iO:ds i=ops[i].dst:=by rw[qy i hi,HD]
 have HE:∀s∈(As P ops[i].op).C5,∀t∈s.tmps,t∈(mo i).reads:=fun s hs t ht=>by
  rw[HD];simp only[dr.reads,lI,List.mem_flatMap];exact .inr ⟨s,hs,ht⟩
 have hRR:=Yk1 T Pu I Or cO qy hi hS hb
 have xW:bU (AK (bq i).r (mo i).reads) g=bU (bq i).r g:=by
  cases g with
  |none=>rfl
  |some p=>
   obtain⟨t,want⟩:=p
   simp only[bU]
   rw[Mb,ax (by rw[HD];simp[dr.reads])]
 have yX:∀d,ds i=some d->d<(bq 0).n:=fun d hd=>by
  rw[iO]at hd
  rw[hd]at hp
  simp only[Fr.put]at hp
  split at hp
  ·rename_i au;rw[<-(T.fn i (by omega)).1];exact au
  ·cases hp
 unfold wpOpIn
 rw[ho]
 simp only[]
 have hwd:Region.wanted ops[i] (yielded ops a'.tmps)=b:=Zp2 (fr:={r:=AK (bq i).r (mo i).reads,n:=(bq 0).n,marks:=[]}) (a:=a') hRR hg (by rw[xW];exact hw)
 cases b with
 |true=>
  rw[ax hwd]
  obtain⟨s',hm,iJ,Mf⟩:=ht rfl
  obtain⟨σ,σ',k1,k2,k3,k4,k5,k6,k7,k8,k9⟩:=Yjy (ws:=ar (aI i).n s'.w) (lo:=(aI i).n) (hi:=s'.n) hm rfl
  rw[<-Mf]at k6 k7 k8 k9
  obtain⟨tY,jN⟩:=Ygn h0 T I Or cO hi hS hb k1 k6 k7
  have wu:mX (AJ μ' (aI i).n) {r:=AK (bq i).r (mo i).reads,n:=(bq 0).n,marks:=(bq 0).marks} a':=⟨hRR,AN i hi _ I.defs⟩
  have hm2:cv (As P ops[i].op) call (AK (bq i).r (mo i).reads) σ=some (vI i,σ'):=by
   rw[Yeo (r':=(bq i).r) fun s hs=>Yqu (HE s hs)];exact k3
  refine Xn b_ hE tY wu hm2 fun x w2 μ2 ws hv dK=>?_
  have qz:ws=s'.w:=by
   have:=dK.wl
   rw[k2,k5,yK]at this
   exact this.symm
  have tu:(aI (i+1)).n=s'.n:=by rw[iJ]
  have hh':(aI (i+1)).h=s'.h:=by rw[iJ]
  have hinv:=Zyl h0 T Pu I Or cO qy hW hi hS yX tY jN k1 (by rw[k4,tu]) dK (fun j hj=>by
   rw[qz,Mf,(Xo (call:=call) hm _ _).1]
   exact(Yat _ _ _ hj).symm) (fun j hj=>k9 j (by rw[<-qz];exact hj)) (fun j hj=>by rw[hh'];exact k8 j (by rw[tu]at hj;exact hj)) hv
  rw[iO]at hinv
  exact hK _ _ _ hinv
 |false=>
  rw[ak (by rw[hwd];simp)]
  obtain⟨hv,iJ,Mf⟩:=Me rfl
  refine⟨fun _ _=>trivial,?_⟩
  have wk:∀j,¬(bf i).dk j:=fun j=>by rw[Mf];simp[FP.dk]
  obtain⟨tY,jN⟩:=Ygn (σ:=⟨rT (aI i).h [] (aI i).n,(aI i).n,[]⟩) h0 T I Or cO hi hS hb rfl (fun j _ hj=>absurd hj (wk j)) (fun j hj _=>by
   show (rT (aI i).h [] (aI i).n).get j=_
   rw[Ka,ax hj];simp)
  have tu:(aI (i+1)).n=(aI i).n:=by rw[iJ]
  have:=Zyl (x:=undef) (ws:=[]) (σ':=⟨rT (aI i).h [] (aI i).n,(aI i).n,[]⟩) h0 T Pu I Or cO qy hW hi hS yX tY jN rfl tu.symm (bH.refl tY) (fun j hj=>by rw[Mf]) (fun j hj=>by simp at hj) (fun j hj=>by
   rcases hj with⟨h,_⟩|⟨h1,h2⟩
   ·exact absurd h (wk j)
   ·omega) (by rw[hv];exact⟨[],rfl,by simp[aU]⟩)
  rw[iO]at this
  exact hK _ _ _ this
def Zmo:∀{os:List Oper} {b:Nat},JH b os=true->∀i o,os[i]?=some o->∀e∈o.after,Region.binds .any e=true->e.on<b+i
 |[],b,_,i,o,h,_,_,_=>by simp at h
 |o0::os,b,h,i,o,ho,e,he,hb=>by
  simp only[JH,iz]at h
  cases i with
  |zero=>
   simp only[BS,an]at ho
   subst ho
   have h1:=h.1
   rw[WH]at h1
   have:=h1 e he
   rw[hb]at this
   simpa[Nat.blt_eq]using this
  |succ i=>
   have:=Zmo h.2 i o (by simpa using ho) e he hb
   omega
def Yb2{ops:Array Oper}(he:JH 0 ops.toList=true){listed:Array Bool}(kM:listed.size=ops.size)(hr:Region.ready .any ops listed=[]):∀k,k<ops.size->listed.getD k false=true:=by
 intro k
 induction k using Nat.strongRecOn with
 |_ k ih=>
  intro hk
  refine Classical.byContradiction fun hn=>?_
  have oS:k∈Region.ready .any ops listed:=by
   unfold Region.ready
   simp only[List.mem_filter,yA,iz,G7]
   refine⟨hk,?_,?_⟩
   ·have fR:k<listed.size:=by omega
    simp only[Array.getD,fR,dif_pos]at hn ⊢
    simpa using hn
   ·have ho:ops[k]?=some ops[k]:=Array.getElem?_eq_getElem hk
    rw[ho]
    simp only[ti,jz,WH,G8,G7]
    intro e Mg
    cases hb:Region.binds .any e with
    |false=>exact .inl rfl
    |true=>
     have:=Zmo he k ops[k] (by rw[CS];exact ho) e Mg hb
     exact .inr (ih e.on (by omega) (by omega))
  rw[hr]at oS
  cases oS
def Ygq{p q:Nat->Bool}{i:Nat}(hp:p i=true)(hq:q i=false)(ho:∀k,k≠i->q k=p k):∀N,i<N->(List.range N).countP q+1=(List.range N).countP p:=by
 have same:∀N,N<=i->(List.range N).countP q=(List.range N).countP p:=by
  intro N
  induction N with
  |zero=>intro _;rfl
  |succ N ih=>
   intro h
   rw[List.range_succ,List.countP_append,List.countP_append,ih (by omega)]
   simp[ho N (by omega)]
 intro N
 induction N with
 |zero=>intro h;omega
 |succ N ih=>
  intro h
  rw[List.range_succ,List.countP_append,List.countP_append]
  by_cases e:N=i
  ·subst e
   rw[same N (aO _)]
   simp[hp,hq]
  ·have:=ih (by omega)
   simp only[List.countP_singleton,ho N e]
   omega
end
section
variable {P:Program} {μ:Mu} {w:World} {st aA:St} {fr bE:Fr} {a:Act} {call:cH} {v:V} {lb:Option Nat}
def Yln{listed:Array Bool}{i:Nat}(hi:i<listed.size):(fun k=>(listed.setIfInBounds i true).getD k false)=mC (fun k=>listed.getD k false) i:=by
 funext k
 simp only[mC,GV]
 by_cases e:k=i
 ·subst e;simp[hi]
 ·rw[QQ (Ne.symm e),ak e]
def Yuc(b_:js P call)(hE:uJ P){ops:Array Oper}{Q:Exit->Act->World->Prop}{aI:Nat->St}{bq:Nat->Fr}{vI:Nat->V}{bf:Nat->FP}{W:List Nat}
  (h0:bm P μ w (aI 0)) (hs:∀i o,ops[i]?=some o->AM P call ops o (aI i) (bq i) (vI i) (bf i) (aI (i+1)) (bq (i+1)))
  (T:wg P μ aI bq bf ops.size) {ds:Nat->Option Nat} {mo:Nat->dr} (Fo:∀i o,ops[i]?=some o->mo i=rE P ops o) (qy:∀k,k<ops.size->ds k=(mo k).dst) (Pu:Hy bq ds vI ops.size)
  (Or:Ord bf mo ops.size (fun k i=>((vQ ops.toList []).getD k 0).testBit i=true)) (hW:∀k,k<ops.size->∀j∈(bf k).wr,j∈W) (AO:JH 0 ops.toList=true)
  (AN:∀μ',(∀j,j<(aI 0).n->μ' j=μ j)->∀i,i<ops.size->∀ds,qc μ' (bq 0).marks ds->qc (AJ μ' (aI i).n) (bq 0).marks ds)
  (hQ:∀S μ' a' w',(∀k,k<ops.size->S k=true)->Inv P μ w aI bq bf ds ops.size W S μ' a' w'->Q .normal a' w'):
  ∀(fuel:Nat) (listed:Array Bool) (μ':Mu) (a':Act) (w':World),listed.size=ops.size->(List.range ops.size).countP (fun k=>!listed.getD k false)=fuel->
   (Ym6 ops fun k=>listed.getD k false=true)->Inv P μ w aI bq bf ds ops.size W (fun k=>listed.getD k false) μ' a' w'->wpAnyIn (FE lb) 0 P .any ops Q fuel listed a' w':=by
 intro fuel
 induction fuel with
 |zero=>
  intro listed μ' a' w' kM hc cO I
  have Mh:∀k,k<ops.size->listed.getD k false=true:=fun k hk=>by
   rw[List.countP_eq_zero]at hc
   have:=hc k (yA.2 hk)
   simpa using this
  refine⟨?_,hQ _ μ' a' w' Mh I⟩
  refine List.eq_nil_iff_forall_not_mem.2 fun j hj=>?_
  obtain⟨h1,h2,_⟩:=Zqf cO hj
  have:=Mh j h1
  simp only[GV]at h2 this
  have oR:j<listed.size:=by omega
  simp[oR]at h2 this
  rw[h2]at this;cases this
 |succ fuel ih=>
  intro listed μ' a' w' kM hc cO I
  refine⟨fun hr=>hQ _ μ' a' w' (Yb2 AO kM hr) I,fun i hi=>?_⟩
  obtain⟨h1,h2,h3⟩:=Zqf cO hi
  have zt:i<listed.size:=by omega
  have QI:listed.getD i false=false:=by
   simp only[GV]at h2 ⊢
   simp[zt]at h2 ⊢
   exact h2
  refine Yj3 (S:=fun k=>listed.getD k false) b_ hE h0 hs T Fo qy Pu Or I (fun k hk i hb=>cO k i hk hb) hW (AN μ' I.ext) h1 QI h3 fun μ2 a2 w2 I2=>?_
  have AP:=Yln (listed:=listed) zt
  refine ih (listed.setIfInBounds i true) μ2 a2 w2 (by simp[kM]) ?_ ?_ (by rw[AP];exact I2)
  ·have:=Ygq (p:=fun k=>!listed.getD k false) (q:=fun k=>!(listed.setIfInBounds i true).getD k false) (i:=i) (by simp[QI]) (by
    have:=congrFun AP i
    simp only[this];simp[mC]) (fun k hk=>by
    have:=congrFun AP k
    simp only[this];simp[mC,hk]) ops.size h1
   omega
  ·intro k j hk hb
   have e1:=congrFun AP k
   have e2:=congrFun AP j
   simp only[e1,e2,mC]at hk ⊢
   by_cases ej:j=i
   ·rw[ax ej]
   ·rw[ak ej]
    by_cases ek:k=i
    ·subst ek;exact h3 j hb
    ·rw[ak ek]at hk;exact cO k j hk hb
def qc.Mi{μ μ' μ2:Mu}{n:Nat}(hd:∀i l,μ i=some l->i<n)(h:∀i l,i<n->μ' i=some l->μ2 i=some l):∀{ms:List Nat} {ds Fp:List Deferred},qc μ ms ds->qc μ' ms Fp->qc μ2 ms Fp
 |[],_,_,_,h2=>h2
 |m::ms,_,_,⟨l,_,h1,_,h3⟩,⟨l',d',g1,g2,g3⟩=>⟨l',d',h m l' (hd m l h1) g1,g2,qc.Mi hd h h3 g3⟩
def Zp6{aI:Nat->St}{bq:Nat->Fr}{bf:Nat->FP}{N:Nat}(T:wg P μ aI bq bf N)(j:Nat):∀i,i<=N->(aI 0).n<=j->j<(aI i).n->∃k,k<i/\(aI k).n<=j/\j<(aI (k+1)).n
 |0,_,h1,h2=>by omega
 |i+1,hi,h1,h2=>by
  by_cases e:j<(aI i).n
  ·obtain⟨k,a1,a2⟩:=Zp6 T j i (by omega) h1 e
   exact⟨k,by omega,a2⟩
  ·exact⟨i,by omega,by omega,h2⟩
def Zsu{aI:Nat->St}{bq:Nat->Fr}{bf:Nat->FP}{N:Nat}(T:wg P μ aI bq bf N):∀i,i<=N->∃Wi,(aI i).w=Wi++(aI 0).w/\∀k,k<i->∀j∈(bf k).wr,j∈Wi
 |0,_=>⟨[],rfl,fun k hk=>by omega⟩
 |i+1,hi=>by
  obtain⟨Wi,h1,h2⟩:=Zsu T i (by omega)
  refine⟨(bf i).wr++Wi,by rw[T.wl i (by omega),h1,tU],fun k hk j hj=>?_⟩
  by_cases e:k=i
  ·subst e;simp[hj]
  ·simp[h2 k (by omega) j hj]
def Yf6(hm:P.follows .mixedOrders=true)(hE:uJ P)(b_:js P call):Ym5 P call:=by
 intro id ops fr st ex bE aA hp h μ w a lb hh hf
 unfold WB at hp
 simp only[iz]at hp
 obtain⟨AO,Xp⟩:=hp
 unfold AF at h
 split at h
 ·rename_i ig dV bV bQ
  split at h
  ·rename_i Mj
   simp only[an,bs]at h
   obtain⟨rfl,rfl,rfl⟩:=h
   obtain⟨aI,bq,vI,bf,e1,e2,e3,e4,e5,hs⟩:=Ztt ops.toList fr st ig dV bV bQ
   subst e1 e2
   have hN:ops.toList.length=ops.size:=by simp
   rw[hN]at e3 e4 e5
   have jh:∀i o,ops[i]?=some o->AM P call ops o (aI i) (bq i) (vI i) (bf i) (aI (i+1)) (bq (i+1)):=fun i o ho=>(hs i o (by rw[CS];exact ho)).2
   have T:=Ysb b_ hE hN hh hf fun i o ho=>(hs i o ho).2
   let mo:Nat->dr:=fun i=>match ops[i]? with|some o=>rE P ops o|none=>⟨none,.stop,none⟩
   have Fo:∀i o,ops[i]?=some o->mo i=rE P ops o:=fun i o ho=>by simp only[mo,ho]
   have Xq:∀i o,ops[i]?=some o->(mo i).dst=o.dst:=fun i o ho=>by rw[Fo i o ho];unfold rE;split<;>rfl
   have cL:∀i,i<ops.size->ops[i]?=some (ops[i]!):=fun i hi=>by simp[hi]
   have Pu:Hy bq (fun k=>(mo k).dst) vI ops.size:=fun i hi t=>by
    obtain⟨g,b,_,_,hp,_⟩:=jh i _ (cL i hi)
    show (bq (i+1)).r.get t=if (mo i).dst=some t then some (vI i) else (bq i).r.get t
    rw[Xq i _ (cL i hi)]
    cases hd:(ops[i]!).dst with
    |none=>rw[hd]at hp;simp only[Fr.put,an]at hp;rw[<-hp];simp
    |some d=>
     rw[hd]at hp
     simp only[Fr.put]at hp
     split at hp
     ·simp only[an]at hp
      rw[<-hp,Go.Mx.T.ag]
      by_cases e:t=d
      ·subst e;simp
      ·rw[ak e,ak (by simp[Ne.symm e])]
     ·cases hp
   have Or:Ord bf mo ops.size (fun k i=>((vQ ops.toList []).getD k 0).testBit i=true):=by
    refine⟨fun i k Mk hk=>?_,fun i k Mk hk=>?_⟩
    ·exact Zxy Mj Mk ((hs i _ (by rw[CS];exact cL i (by omega))).1) ((hs k _ (by rw[CS];exact cL k hk)).1)
    ·refine Zxy Xp Mk ?_ ?_
     ·rw[fm,CS,cL i (by omega),ti,Fo i _ (cL i (by omega))]
     ·rw[fm,CS,cL k hk,ti,Fo k _ (cL k hk)]
   obtain⟨W,Fq,dZ⟩:=Zsu T ops.size (aO _)
   obtain⟨wT,μT,aT,Xr,Re,hT2⟩:=Zy6 b_ hE hN hh hf (fun i o ho=>(hs i o ho).2) ops.size (aO _)
   have Xs:Xr=W:=List.append_cancel_right (Re.wl.symm.trans Fq)
   subst Xs
   have AQ:∀k,(Array.replicate ops.size false).getD k false=false:=fun k=>by
    simp only[GV]
    by_cases hk:k<ops.size
    ·simp[hk]
    ·simp[hk]
   have hcH:∀M j,jM aI bf (fun k=>(Array.replicate ops.size false).getD k false) M j=(aI 0).h.get j:=fun M j=>Rb (i:=0) (uN _) fun k _ _ _=>AQ k
   have hcR:∀M t,wj bq (fun k=>(mo k).dst) (fun k=>(Array.replicate ops.size false).getD k false) M t=(bq 0).r.get t:=fun M t=>Rc (i:=0) (uN _) fun k _ _ _=>AQ k
   have I0:Inv P μ w aI bq bf (fun k=>(mo k).dst) ops.size Xr (fun k=>(Array.replicate ops.size false).getD k false) μ a {w with drawn:=w.drawn+1}:=by
    refine⟨fun _ _=>rfl,fun j l hj=>⟨.inl (hh.c_ j l hj).1,(hh.c_ j l hj).2⟩,fun k _ hk=>?_,fun j l hj=>?_,fun i j l l' o o' h1 h2 h3 h4 h5=>?_,⟨hf.1.1,fun t v hv=>?_⟩,hf.2,⟨rfl,rfl,rfl,aO _,fun _ _ _=>rfl⟩,fun i l h1 h2=>absurd (hh.c_ i l h2).1 (by omega)⟩
    ·rw[AQ k]at hk;cases hk
    ·obtain⟨o,q1,q2⟩:=hh.obj j l hj
     exact⟨o,by rw[hcH];exact q1,OM.congr (w:=w) rfl q2⟩
    ·rw[hcH]at h4 h5
     exact hh.inj i j l l' o o' h1 h2 h3 h4 h5
    ·rw[hcR]at hv
     exact hf.1.2 t v hv
   refine wpIn_region_any hm (Yuc b_ hE hh jh T Fo (fun _ _=>rfl) Pu Or dZ AO ?_ ?_ ops.size _ μ a _ (by simp) ?_ ?_ I0)
   ·intro μ' wx i hi ds qy
    exact qc.Mi (n:=(aI 0).n) (fun j l hj=>(hh.c_ j l hj).1) (fun j l hj hl=>by
     have:=T.mono (i:=0) (k:=i) (by omega) (by omega)
     rw[Ma (by omega)];exact hl) hf.2 qy
   ·intro S μ' a' w' hS I
    have Xt:∀j,j<(aI ops.size).n->jM aI bf S ops.size j=(aI ops.size).h.get j:=fun j hj=>Xj T (aO _) hj fun k hk _=>hS k hk
    have hfR:∀t,wj bq (fun k=>(mo k).dst) S ops.size t=(bq ops.size).r.get t:=fun t=>Xk Pu (aO _) fun k hk _=>hS k hk
    have Dj:∀j l,μ' j=some l->j<(aI ops.size).n:=fun j l hj=>by
     rcases(I.c_ j l hj).1 with h|⟨k,h1,_,_,h2⟩
     ·have:=T.mono (i:=0) (k:=ops.size) (by omega) (by omega);omega
     ·have:=T.mono (i:=k+1) (k:=ops.size) (by omega) (by omega);omega
    rw[<-e3,<-e4]
    refine⟨rfl,μ',Xr,⟨⟨fun j l hj=>⟨Dj j l hj,(I.c_ j l hj).2⟩,fun j l hj=>?_,fun i j l l' o o' h1 h2 h3 h4 h5=>?_,fun g hg=>?_⟩,I.ext,T.mono (uN _) (aO _),Fq,I.ed,I.new,Re.ad,Re.grow,fun j h1 h2=>?_,Re.zA⟩,⟨?_,fun t v hv=>?_⟩,?_⟩
    ·obtain⟨o,q1,q2⟩:=I.obj j l hj
     exact⟨o,by rw[<-Xt j (Dj j l hj)];exact q1,q2⟩
    ·exact I.inj i j l l' o o' h1 h2 h3 (by rw[Xt i (Dj i l h1)];exact h4) (by rw[Xt j (Dj j l' h2)];exact h5)
    ·obtain⟨t,ht⟩:=hh.ic g hg
     exact⟨t,by rw[I.ext g (hh.c_ g _ ht).1];exact ht⟩
    ·obtain⟨k,q1,q2,q3⟩:=Zp6 T j ops.size (aO _) h1 h2
     exact I.full k q1 (hS k q1) j q2 q3
    ·rw[(T.fn ops.size (aO _)).1];exact I.wi.1
    ·exact I.wi.2 t v (by rw[hfR];exact hv)
    ·rw[(T.fn ops.size (aO _)).2];exact I.defs
   ·have:(fun k=>!(Array.replicate ops.size false).getD k false)=fun _=>true:=by funext k;rw[AQ];rfl
    rw[this];simp
   ·intro k i hk
    rw[AQ k]at hk;cases hk
  ·cases h
 ·cases h
end
end Go.Mx
