/-The echelon form of a matrix-/
import Derived.Test.YtnkdakmfipgidaaGreatDoorEcA
set_option linter.all false
set_option maxHeartbeats 4000000
namespace Go.Mx
noncomputable section
open Go Go.Proofs
variable {d i j k:Nat} {m:List (List Rat)}
set_option maxRecDepth 1000000
def al(m:List (List Rat))(i j:Nat):Rat:=(m[i]?.getD [])[j]?.getD 0
def HX{p:Nat}(hd:d<m.length)(hp:p<m.length):al (cr m d p) i j=if i=d then al m p j else if i=p then al m d j else al m i j:=by
 unfold al cr;by_cases e1:i=p
 ·subst e1;rw[mD (by simp;exact hp)];by_cases e2:i=d
  ·subst e2;simp
  simp[e2]
 rw[eX (Ne.symm e1)];by_cases e2:i=d
 ·subst e2;rw[mD hd];simp
 rw[eX (Ne.symm e2)];simp[e1,e2]
def Sj(hd:d<m.length):al (gJ m d k) i j=if i=d then al m d j/al m d k else al m i j:=by
 unfold al gJ;by_cases e:i=d
 ·subst e;rw[mD hd,ar rfl,g_,eG];cases (m[i]?.getD [])[j]? with
  |none=>simp[Rat.div_def,Rat.zero_mul]
  |some q=>rfl
 rw[eX (Ne.symm e),ak e]
def Sk{c:Nat}(h:aR m c)(hi:i<m.length)(hd:d<m.length):al (df m d k m.length) i j=if i=d then al m i j else al m i j-al m i k*al m d j:=by
 unfold al;rw[HV hi,g_];by_cases e:i=d
 ·rw[ak (by omega),ar e]
 rw[ar ⟨hi,e⟩,ak e];have l1:=h.at hi;have l2:=h.at hd;by_cases hj:j<c
 ·unfold tQ;rw[Sg (by omega)];rfl
 rw[fW (by rw[Nc];omega),fW (l:=m[i]?.getD []) (by omega),fW (l:=m[d]?.getD []) (by omega)];show (0:Rat)=0-(m[i]?.getD [])[k]?.getD 0*0;rw[Rat.mul_zero,Rat.sub_self]
def Yn4{m:List (List Rat)}{k:Nat}:∀{n d:Nat},d+n<=rN m k d n->∀i,d<=i->i<d+n->al m i k=0
 |0,d,h,i,h1,h2=>by omega
 |n+1,d,h,i,h1,h2=>by
  unfold rN at h
  split at h
  ·omega
  ·rename_i hc
   by_cases e:i=d
   ·subst e;unfold al;simpa using hc
   ·exact Yn4 (n:=n) (d:=d+1) (by omega) i (by omega) (by omega)
structure ym (m:List (List Rat)) (d:Nat) (ps:List Nat) (n:Nat):Prop where
 len:ps.length=d
 le:d<=m.length
 lt:∀i,i<d->ps[i]?.getD 0<n
 uy:∀i j,i<j->j<d->ps[i]?.getD 0<ps[j]?.getD 0
 one:∀i j,i<d->j<m.length->al m j (ps[i]?.getD 0)=if j=i then 1 else 0
 lead:∀i k,i<d->k<ps[i]?.getD 0->al m i k=0
 rest:∀i k,d<=i->i<m.length->k<n->al m i k=0
def ym.step{s:List (List Rat)×Nat×List Nat}{n c:Nat}(h:ym s.1 s.2.1 s.2.2 n)(hc:aR s.1 c):ym (iE s n).1 (iE s n).2.1 (iE s n).2.2 (n+1):=by
 obtain⟨m,d,ps⟩:=s;simp only at h hc;unfold iE;simp only;have hle:=@FR m n (m.length-d) d;have ka:=h.le;split
 ·rename_i hp;have dX:d<m.length:=by unfold eZ at hp;omega
  have Nw:d<=eZ m d n:=hle.1;have aW:al m (eZ m d n) n≠0:=@HU m n (m.length-d) d (by unfold eZ at hp;omega);generalize eZ m d n=p at*;have jI:=(hc.DI dX hp).KV (d:=d) (k:=n) (by rw[pZ];exact dX);have hlen:(df (gJ (cr m d p) d n) d n m.length).length=m.length:=by rw[CC,CD,pZ]
  have il:(gJ (cr m d p) d n).length=m.length:=by rw[CD,pZ]
  have hb:∀i j,al (cr m d p) i j=if i=d then al m p j else if i=p then al m d j else al m i j:=fun i j=>HX dX hp
  have hs:∀i j,al (gJ (cr m d p) d n) i j=if i=d then al m p j/al m p n else al (cr m d p) i j:=fun i j=>by rw[Sj (by rw[pZ];exact dX),hb d j,hb d n,ar rfl,ar rfl]
  have he:∀i j,i<m.length->al (df (gJ (cr m d p) d n) d n m.length) i j=if i=d then al m p j/al m p n else al (cr m d p) i j-al (cr m d p) i n*(al m p j/al m p n):=fun i j hi=>by have:=Sk (m:=gJ (cr m d p) d n) (k:=n) (j:=j) jI (i:=i) (d:=d) (by rw[il];exact hi) (by rw[il];exact dX);rw[il]at this;rw[this,hs i j,hs i n,hs d j,ar rfl];split<;>rfl
  have vi:al m p n/al m p n=1:=by rw[Rat.div_def];exact Rat.mul_inv_cancel _ aW
  have Il:∀i j,i<d->al (cr m d p) i j=al m i j:=fun i j hi=>by rw[hb,ak (by omega),ak (by omega)]
  have iS:∀i k,d<=i->i<m.length->k<n->al (cr m d p) i k=0:=fun i k h1 h2 h3=>by
   rw[hb];split
   ·exact h.rest p k Nw hp h3
   split
   ·exact h.rest d k (aO _) dX h3
   exact h.rest i k h1 h2 h3
  have uO:∀k,k<n->al m p k/al m p n=0:=fun k hk=>by rw[h.rest p k Nw hp hk,Rat.div_def,Rat.zero_mul]
  have hold:∀i k,i<m.length->k<n->al (df (gJ (cr m d p) d n) d n m.length) i k=if i<d then al m i k else 0:=fun i k hi hk=>by
   rw[he i k hi,uO k hk,Rat.mul_zero];by_cases e:i=d
   ·rw[ar e,ak (by omega)]
   rw[ak e];by_cases e2:i<d
   ·rw[ar e2,Il i k e2,Rat.sub_eq_add_neg,Rat.neg_zero,Rat.add_zero]
   rw[ak e2,iS i k (by omega) hi hk,Rat.sub_eq_add_neg,Rat.neg_zero,Rat.add_zero]
  have sQ:∀i,i<m.length->al (df (gJ (cr m d p) d n) d n m.length) i n=if i=d then 1 else 0:=fun i hi=>by
   rw[he i n hi,vi];split
   ·rfl
   rw[Rat.mul_one,Rat.sub_self]
  have ho:∀i,i<d->(ps++[n])[i]?.getD 0=ps[i]?.getD 0:=fun i hi=>by rw[mj (by have:=h.len;omega)]
  have tV:(ps++[n])[d]?.getD 0=n:=by rw[pY (by have:=h.len;omega),h.len];simp
  show ym (df (gJ (cr m d p) d n) d n m.length) (d+1) (ps++[n]) (n+1);refine⟨by simp[h.len],by rw[hlen];omega,fun i hi=>?_,fun i j h1 h2=>?_,fun i j h1 h2=>?_,fun i k h1 h2=>?_,fun i k h1 h2 h3=>?_⟩
  ·by_cases e:i<d
   ·rw[ho i e];have:=h.lt i e;omega
   obtain rfl:i=d:=by omega
   rw[tV];omega
  ·rw[ho i (by omega)];by_cases e:j<d
   ·rw[ho j e];exact h.uy i j h1 e
   obtain rfl:j=d:=by omega
   rw[tV];exact h.lt i h1
  ·rw[hlen]at h2;by_cases e:i<d
   ·rw[ho i e,hold j _ h2 (h.lt i e)];by_cases e2:j<d
    ·rw[ar e2];exact h.one i j e h2
    rw[ak e2,ak (by omega)]
   obtain rfl:i=d:=by omega
   rw[tV];exact sQ j h2
  ·by_cases e:i<d
   ·rw[ho i e]at h2;rw[hold i k (by omega) (by have:=h.lt i e;omega),ar e];exact h.lead i k e h2
   obtain rfl:i=d:=by omega
   rw[tV]at h2;rw[hold i k dX h2,ak e]
  rw[hlen]at h2;by_cases e:k<n
  ·rw[hold i k h2 e,ak (by omega)]
  obtain rfl:k=n:=by omega
  rw[sQ i h2,ak (by omega)]
 rename_i hp;have PR:=@Yn4 m n (m.length-d) d (by unfold eZ at hp;omega);show ym m d ps (n+1);refine⟨h.len,h.le,fun i hi=>by have:=h.lt i hi;omega,h.uy,h.one,h.lead,fun i k h1 h2 h3=>?_⟩;by_cases e:k<n
 ·exact h.rest i k h1 h2 e
 obtain rfl:k=n:=by omega
 exact PR i h1 (by omega)
def mE{m:List (List Rat)}{c:Nat}(hc:aR m c):∀{n:Nat},ym (aF m n).1 (aF m n).2.1 (aF m n).2.2 n
 |0=>⟨rfl,wh _,fun i hi=>absurd hi (Nat.not_lt_zero i),fun i j _ hj=>absurd hj (Nat.not_lt_zero j),fun i j hi=>absurd hi (Nat.not_lt_zero i),fun i k hi=>absurd hi (Nat.not_lt_zero i),fun i k _ _ hk=>absurd hk (Nat.not_lt_zero k)⟩
 |n+1=>by
  rw[wg]
  exact(@mE m c hc n).step (nR hc).1
def Sm(m:List (List Rat))(ps:List Nat)(n k:Nat):List Rat:=(List.range n).map fun j=>if j=k then 1 else if j∈ps then -al m (ps.idxOf j) k else 0
def jJ(ps:List Nat)(n:Nat):List Nat:=(List.range n).filter fun k=>!ps.contains k
def gG(m:List (List Rat))(n:Nat):List (List Rat):=(jJ (aF m n).2.2 n).map (Sm (bb m n) (aF m n).2.2 n)
def yn(m:List (List Rat))(n:Nat):List (List Rat):=bb (gG m n) n
def HZ:∀{n:Nat} {ps:List Nat},(∀i,i<ps.length->ps[i]?.getD 0<n)->(∀i j,i<j->j<ps.length->ps[i]?.getD 0<ps[j]?.getD 0)->(jJ ps n).length+ps.length=n
 |0,ps,h1,h2=>by
  cases ps with
  |nil=>rfl
  |cons p t=>exact absurd (h1 0 (by simp)) (by omega)
 |n+1,ps,h1,h2=>by
  have hs:jJ ps (n+1)=jJ ps n++if ps.contains n=true then [] else [n]:=by
   unfold jJ
   rw[List.range_succ,List.filter_append]
   congr 1
   rw[List.filter_cons]
   cases hc:ps.contains n<;>rfl
  by_cases hm:n∈ps
  ·have rU:ps=ps.dropLast++[n]:=by
    obtain⟨i,hi⟩:=nw hm
    have vz:=(wj.1 hi).1
    have:i=ps.length-1:=by
     by_cases e:i=ps.length-1
     ·exact e
     ·have h3:=h2 i (ps.length-1) (by omega) (by omega)
      have h4:=h1 (ps.length-1) (by omega)
      rw[hi]at h3
      simp only[g_]at h3
      omega
    subst this
    have aW:ps≠[]:=fun hc=>by rw[hc]at hm;simp at hm
    have hl:ps.getLast aW=n:=by rw[List.getLast_eq_getElem];rw[bV vz]at hi;exact mC hi
    conv=>lhs;rw[<-TC aW,hl]
   generalize ps.dropLast=l at rU
   subst rU
   have nW:(l++[n]).length=l.length+1:=by simp
   have aC:∀i,i<l.length->l[i]?.getD 0<n:=fun i hi=>by
    have:=h2 i l.length hi (by omega)
    rw[mj hi,pY (aO _)]at this
    simpa using this
   have ih:=@HZ n l aC fun i j h3 h4=>by
    have:=h2 i j h3 (by omega)
    rw[mj h4,mj (by omega)]at this
    exact this
   have he:jJ (l++[n]) n=jJ l n:=by
    unfold jJ
    apply List.filter_congr
    intro k hk
    have hk:=gm.1 hk
    have Ae:k≠n:=by omega
    simp[Ae]
   rw[hs,he,nW]
   simp
   omega
  ·have hb:∀i,i<ps.length->ps[i]?.getD 0<n:=fun i hi=>by
    have:=h1 i hi
    have h3:ps[i]?.getD 0≠n:=fun hc=>by
     rw[bV hi]at hc
     simp only[g_]at hc
     exact hm (hc▸List.getElem_mem hi)
    omega
   have ih:=@HZ n ps hb h2
   rw[hs]
   simp[hm]
   omega
def ym.idx{n:Nat}{ps:List Nat}(h:ym m d ps n)(hi:i<d):ps.idxOf (ps[i]?.getD 0)=i:=by
 have hl:=h.len;have hm:ps[i]?.getD 0∈ps:=by rw[bV (by omega)];exact List.getElem_mem _
 have hj:=List.idxOf_lt_length_iff.2 hm;have hg:=List.getElem_idxOf hj;by_cases e:ps.idxOf (ps[i]?.getD 0)=i
 ·exact e
 exfalso;rcases Nat.lt_or_gt_of_ne e with h1|h1
 ·have:=h.uy _ _ h1 hi;rw[bV hj,hg]at this;simp at this
 have:=h.uy _ _ h1 (by omega);rw[bV hj,hg]at this;simp at this
variable {R:Nat} {m:List (List Rat)}
def A.w44:=A.q Tryz.f44
def A.pW:=A.ql A.w44 1 []
def A.tD:=(fun x0=>A.ql A.w44 0 [x0]) A.pW
def A.b44:=(fun x0=>A.qb A.w44 [x0]) A.tD
def A.k44:=@A.kk 44 120 [.tmp 2,.tmp 3] A.b44 (by kernel_rfl) rfl
def nv.at{h:T O}{N:Nat}(s:nv h N R m){j:Nat}{l:List Rat}(hj:m[j]?=some l):∃us u,h.get R=some (.cells us 81 true)/\us.length=m.length/\us[j]?=some u/\ec h N u l:=by obtain⟨us,g1,g2,_,_,g5⟩:=s.ex;obtain⟨u,a1,a2⟩:=g5 j l hj;exact⟨us,u,g1,g2,a1,a2⟩
def nv.FK{h:T O}{N i:Nat}{u:V}{l:List Rat}{us:List V}(s:nv h N R m)(g:h.get R=some (.cells us 81 true))(hu:ec h N u l)(hi:i<m.length):nv (h.set R (.cells (us.set i u) 81 true)) N R (m.set i l):=by obtain⟨vs,g1,_,g2⟩:=s.put hu hi;rw[g]at g1;simp only[aq,O.cells.injEq,and_true]at g1;subst g1;exact g2
def MW{c:List V}(h:c.length=4):aL c 0 4=some c:=by unfold aL;rw[h];simp;exact gp (by omega)
def VO{c:List V}(h:c.length=4):ag [V.int .i64 0,.aa,.int .i64 0,.aa] 0 c=c:=by unfold ag;rw[h];simp
def Yj2{α:Type}{l:List α}{i:Nat}{a:α}(h:l[i]?=some a):l.set i a=l:=by
 apply ph;intro j;by_cases e:j=i
 ·subst e;rw[mD (wj.1 h).1,h]
 rw[eX (Ne.symm e)]
def Yxt{q:Rat}:eE q.num=0↔q=0:=by
 have h1:=@HT q;unfold eE;constructor
 ·intro hh;apply h1.1;split at hh
  ·omega
  split at hh<;>omega
 intro hh;have:=h1.2 hh;rw[this];rfl
def Ykl{W0:List Nat}{N0:Nat}{H:T O}{n P:Nat}{r0:T V}{d k c K:Nat}{cp:Option Nat}(s:nv H n R m)(Cc:N0<=R)(hP:H.get P=some (.cells [.int .i64 k] 3 true))(hPl:P<n)(hc:aR m c)(hk:k<c)(hd:d<m.length)(kl:m.length<1000)(cX:c<1000)(uz:1<=K)(hK:∀i,i≠d->∀q∈m[i]?.getD [],Qb K q)(hPq:∀q∈m[d]?.getD [],Qb (2*K) q)(hKl:3*K<=400000000)(MO:ay N0 W0=[])(a4:r0.get 4=some (.slice R 0 m.length cp 1))(a6:r0.get 6=some (.int .i64 d))(a7:r0.get 7=some (.ptr P 0))(a71:r0.get 71=some (.int .i64 m.length))(a72:r0.get 72=some (.int .i64 0)):
  Code A.C none (.loop A.pW) ⟨r0,120,[]⟩ ⟨H,n,W0⟩ (fun e fr st=>e=.exit 2/\ay N0 st.w=[]/\er (fun i=>i=R) H n st.h st.n/\nv st.h st.n R (df m d k m.length)/\∃r,Fx [(10,12),(72,104)] r0 120 ⟨r,120,[]⟩/\fr=⟨r,120,[]⟩):=by
 have hPR:¬P=R:=fun hc=>by obtain⟨us,g,_⟩:=s.ex;rw[hc,g]at hP;simp at hP
 rw[bu];refine cm [(10,12),(72,104)] (fun e r st=>e=.exit 2/\ay N0 st.w=[]/\er (fun i=>i=R) H n st.h st.n/\nv st.h st.n R (df m d k m.length)) (fun i r st=>ay N0 st.w=[]/\er (fun i=>i=R) H n st.h st.n/\∃t,t<=m.length/\i=m.length-t/\r.get 72=some (.int .i64 t)/\nv st.h st.n R (df m d k t)) (m.length) ?_ ?_ ?_
 ·exact⟨MO,er.refl,0,by omega,by omega,a72,by rw[Yy5];exact s⟩
 ·rintro i r ⟨H1,n1,W⟩ hr hf ⟨hW,k1,t,ht,rfl,RJ,s1⟩;simp only at hW k1 s1;rw[bu];have MY:=(k1.get P hPl hPR).trans hP;have RK:=fm hPl k1.le;by_cases aC:t<m.length
  ·have cg:(t:Int)<(m.length:Int):=by omega
   have Vm:(d:Int)<(m.length:Int):=by omega
   obtain⟨row,az⟩:=bj aC;obtain⟨Cs,vj⟩:=bj hd;have Ag:=hc row (cF az);have jA:=hc Cs (cF vj);have w2:(df m d k t)[d]?=some Cs:=by rw[Yy4 hd];exact vj
   have w1:(df m d k t)[t]?=some row:=by rw[HV aC,ak (by omega),az];rfl
   obtain⟨us,u,g1,g2,g3,g4⟩:=s1.at w1;obtain⟨us',v,QM,_,g3',VP⟩:=s1.at w2;rw[g1]at QM;simp only[aq,O.cells.injEq,and_true]at QM;subst QM;obtain⟨q,hq⟩:=bj (l:=row) (k:=k) (by omega);obtain⟨i1,o1,c1,e1,x1,cs,q1,q2,q3,q4,q5⟩:=g4.1.at hq;obtain⟨z1,z2⟩:=q5.len;have ME:=g4.1.len;have cI:(k:Int)<(row.length:Int):=by omega
   have kc:k<row.length:=by omega
   have hR:=s1.lt;have hRn:¬R=n1:=by omega
   have hPn:¬P=n1:=by omega
   have mW:∀c:List V,(V.agg c).cells=c:=fun _=>rfl;have s0:=MW z1;have e4:=VO z1;have lt1:n1<n1+1:=by omega
   have lR:R<n1+1:=by omega
   have kB:ab H1 n1 ((H1.set n1 (.cells [.int .i64 0,.aa,.int .i64 0,.aa] 123 true)).set n1 (.cells cs 123 true)) (n1+1):=(ab.refl.new _).set (aO _);have gN:((H1.set n1 (.cells [.int .i64 0,.aa,.int .i64 0,.aa] 123 true)).set n1 (.cells cs 123 true)).get n1=some (.cells cs 123 true):=by rw[T.ae,ar rfl]
   by_cases e:t=d
   ·subst e;rw[<-Ymf]at s1;simp(disch:=first|(simp;done)|omega|rfl) [-V.cells, -V.one,A.pW,hr,hf,a4,a6,a7,a71,RJ,cg,g1,g3,hR,q1,q2,q3,q4,ME,MY,RK,bO,mW,z1,z2,e4,lt1,hW];have yw:=k1.le;refine⟨m.length-(t+1),by omega,by omega,(k1.new _).set (.inr yw),t+1,by omega,rfl,by simp,s1.ad kB⟩
   have e':¬(t:Int)=(d:Int):=by omega
   simp[-V.cells, -V.one,A.pW,hr,a4,a6,a7,a71,RJ,cg,g1,g3,hR,q1,q2,q3,q4,ME,cI,MY,RK,bO,mW,z1,z2,s0,e4,lt1,e'];have sB:=s1.ad kB;have gR:=(kB.get R hR).trans g1;have qB:=q5.ad kB;have rB:=g4.ad kB;have pB:=VP.ad kB;have kU:er (fun i=>i=R) H n ((H1.set n1 (.cells [.int .i64 0,.aa,.int .i64 0,.aa] 123 true)).set n1 (.cells cs 123 true)) (n1+1):=(k1.new _).set (.inr k1.le);generalize (H1.set n1 (.cells [.int .i64 0,.aa,.int .i64 0,.aa] 123 true)).set n1 (.cells cs 123 true)=G at*;refine av (Yf qB.fc) ?_;rintro _ H2 n2 k2 rfl;have me:=k2.le;have RL:¬n1<N0:=by have:=s.lt;have:=k1.le;omega
   have zP:=(k2.get R (by omega)).trans gR;have MV:=(k2.get n1 (by omega)).trans gN;have RM:R<n2:=by omega
   have lN2:n1<n2:=by omega
   have hqs:=@HT q;have hz:(eE q.num=0)↔q=0:=Yxt;by_cases c0:q=0
   ·have FL:=hz.2 c0;simp(disch:=first|(simp;done)|omega|rfl) [hf,RJ,FL,RL,hW];refine⟨m.length-(t+1),by omega,kU.trans k2.upd,t+1,by omega,rfl,by simp,?_⟩;rw[Zz4 aC e,az,vj];simp only[g_];rw[Yed (by rw[hq];exact c0),Yj2 w1];exact sB.ad k2
   have FL:¬eE q.num=0:=fun hc=>c0 (hz.1 hc);simp[hr,a4,a6,FL,zP,g3,g3',cg,Vm];have Kd:∀q∈row,Qb K q:=by have:=hK t e;rw[az]at this;exact this
   have HJ:∀q∈Cs,Qb (2*K) q:=by have:=hPq;rw[vj]at this;exact this
   have qO:=Kd q (cF hq);refine av (Yg4 (fun x y=>x-q*y) (rB.1.ad k2) (pB.1.ad k2) (by omega) (fun x hx y hy h' n' ca cb k' ha hb=>Ywf (i:=K) (j:=2*K) (k:=K) ((k'.get n1 lN2).trans MV) (fm lN2 k'.le) ha hb ((qB.ad k2).ad k') (Kd x hx) (HJ y hy) qO (by omega) (by omega) (by omega) (by omega) (by omega)) (by omega)) ?_;rintro v3 H3 n3 k3 t3;have wc:=k3.le;have s3:=(sB.ad k2).ad k3;have VP:=(k3.get R RM).trans zP;have vD:t<us.length:=by rw[g2,CC];exact aC
   have Cn:t+1<=us.length:=vD;have jo:(t:Int)<(us.length:Int):=by omega
   have iK:∀u,ag us t [u]=us.set t u:=fun u=>KW vD;have Od:R<n3:=by omega
   obtain⟨_,hon,hc3⟩:=t3.FQ;simp(disch:=first|(simp;done)|omega|rfl) [-V.cells, -V.one,bO,hc3,hon,iK,Cn,VP,hf,RJ];have eW:zU (fun x y=>x-q*y) row Cs row.length=tQ row Cs k:=by unfold tQ;rw[hq];rfl
   rw[eW]at t3;have sp:=s3.FK VP t3 (i:=t) (by rw[CC];exact aC);refine⟨m.length-(t+1),by omega,by rw[ak (by omega),ak RL];exact hW,((kU.trans k2.upd).trans k3.upd).set (.inl rfl),t+1,by omega,rfl,by simp,?_⟩;rw[Zz4 aC e,az,vj];exact sp
  obtain rfl:t=m.length:=by omega
  simp[A.pW,hr,hf,a71,RJ,k1,hW];exact s1
 rintro _ r st hr ⟨rfl,hw,k1,s1⟩;simp[];exact⟨hw,k1,s1,hr,rfl,rfl⟩
variable {N R:Nat} {h:T O} {m:List (List Rat)}
def Zy3{m:List (List Rat)}{k d:Nat}:∀{n j:Nat},(pg (fun i=>decide (((m.drop d)[i]?.getD [])[k]?.getD 0≠0)) j n= -1/\rN m k (d+j) n=d+j+n)\/∃a:Nat,pg (fun i=>decide (((m.drop d)[i]?.getD [])[k]?.getD 0≠0)) j n=a/\rN m k (d+j) n=d+a/\a<j+n
 |0,j=>.inl ⟨rfl,rfl⟩
 |n+1,j=>by
  unfold pg rN
  simp only[fF]
  by_cases e:(m[d+j]?.getD [])[k]?.getD 0≠0
  ·rw[ar e]
   exact .inr ⟨j,by simp[e],rfl,by omega⟩
  ·rw[ak e]
   simp only[e,decide_false,iy,if_false]
   have ih:=@Zy3 m k d n (j+1)
   simp only[fF]at ih
   rcases ih with⟨h1,h2⟩|⟨a,h1,h2,h3⟩
   ·exact .inl ⟨h1,by rw[show d+j+1=d+(j+1) by omega,h2];omega⟩
   ·exact .inr ⟨a,h1,by rw[show d+j+1=d+(j+1) by omega,h2],by omega⟩
def AM(ps:List Nat):List Int:=ps.map fun p:Nat=>(p:Int)
def nv.bY{h':T O}{N':Nat}{v:V}{e:TypeId}(s:nv h N R m)(k:er (fun i=>i∈dk v) h N h' N')(hd:nQ e NW h v)(he:e≠123)(xf:e≠81):nv h' N' R m:=by
 obtain⟨us,g1,g2,g3,g4,g5⟩:=s.ex;refine⟨fm s.lt k.le,us,(k.get R s.lt fun hc=>?_).trans g1,g2,g3,g4,fun j l hl=>?_⟩
 ·obtain⟨z,hz,_⟩:=hd R hc;rw[g1]at hz;simp at hz;exact xf hz.2.symm
 obtain⟨u,a1,a2⟩:=g5 j l hl;exact⟨u,a1,a2.bY k hd he⟩
def Ybl{W0:List Nat}{N0:Nat}{H:T O}{n:Nat}{r0:T V}{c:Nat}{B:Nat->Nat}(s:nv H n R m)(Cc:N0<=R)(hc:aR m c)(kl:m.length<1000)(jD:0<m.length)(cX:c<1000)(uz:∀n,1<=B n)(hK:∀k,bz (aF m k).1 (B (aF m k).2.1))(hB:∀n,n<m.length->n<c->3*B n<=400000000)(kH:ab h N0 H n)(MO:ay N0 W0=[])(a4:r0.get 4=some (.slice R 0 m.length (some m.length) 1))(a5:r0.get 5=some .aa)(a6:r0.get 6=some (.int .i64 0))(a25:r0.get 25=some (.int .i64 c))(a26:r0.get 26=some (.int .i64 0)):
  Code A.C none (.loop A.tD) ⟨r0,120,[]⟩ ⟨H,n,W0⟩ (fun e fr st=>e=.exit 0/\ay N0 st.w=[]/\ab h N0 st.h st.n/\nv st.h st.n R (aF m c).1/\∃r v,Fx [(5,12),(26,115)] r0 120 ⟨r,120,[]⟩/\fr=⟨r,120,[]⟩/\r.get 6=some (.int .i64 (aF m c).2.1)/\r.get 5=some v/\rP N0 st.h st.n v (AM (aF m c).2.2)):=by
 rw[bu];refine cm [(5,12),(26,115)] (fun e r st=>e=.exit 0/\ay N0 st.w=[]/\ab h N0 st.h st.n/\nv st.h st.n R (aF m c).1/\∃v,r.get 6=some (.int .i64 (aF m c).2.1)/\r.get 5=some v/\rP N0 st.h st.n v (AM (aF m c).2.2)) (fun i r st=>ay N0 st.w=[]/\ab h N0 st.h st.n/\∃k v,k<=c/\i=c-k/\r.get 26=some (.int .i64 k)/\r.get 6=some (.int .i64 (aF m k).2.1)/\r.get 5=some v/\rP N0 st.h st.n v (AM (aF m k).2.2)/\(aF m k).2.1<m.length/\nv st.h st.n R (aF m k).1) c ?_ ?_ ?_
 ·exact⟨MO,kH,0,_,by omega,by omega,a26,a6,a5,rP.nil,jD,s⟩
 ·rintro i r ⟨H1,n1,W⟩ hr hf ⟨hW,k1,k,pv,hk,rfl,VQ,h6,h5,hO,FF,s1⟩;simp only at hW k1 s1 hO;rw[bu];have hlen:(aF m k).1.length=m.length:=AG;obtain⟨SO,ka⟩:=@nR m c hc k;by_cases aC:k<c
  ·have cg:(k:Int)<(c:Int):=by omega
   obtain⟨us,g1,g2,g3,g4,g5⟩:=id s1.ex;have hR:=s1.lt;have kA:ab H1 n1 ((H1.set n1 (.cells [.int .i64 0] 3 true)).set n1 (.cells [.int .i64 k] 3 true)) (n1+1):=(ab.refl.new _).set (aO _);have gP:((H1.set n1 (.cells [.int .i64 0] 3 true)).set n1 (.cells [.int .i64 k] 3 true)).get n1=some (.cells [.int .i64 k] 3 true):=by rw[T.ae,ar rfl]
   have sA:=s1.ad kA;have gA:=(kA.get R hR).trans g1;have oA:=hO.ad kA;have kU:=k1.trans kA;simp[A.tD,hr,a4,h6,a25,VQ,cg,bO,ag];generalize (H1.set n1 (.cells [.int .i64 0] 3 true)).set n1 (.cells [.int .i64 k] 3 true)=G at*;have hs:Sl G (n1+1) (.slice R 0 m.length (some m.length) 1) us:=Sl.row (by omega) gA (by omega) fun k hk=>by simp at hk;omega
   obtain⟨sv,e1,e2⟩:=MD (w:=n1::W) hs (lo:=(aF m k).2.1) (hi:=us.length) (by omega) (aO _) (some (.int .i64 (aF m k).2.1)) none (.inl rfl) (.inr ⟨rfl,rfl⟩);rw[gp (aO _)]at e2;simp[FZ,e1];have EP:eZ (aF m k).1 (aF m k).2.1 k=m.length->aF m (k+1)=aF m k:=fun hp=>by rw[wg];unfold iE;rw[ak (by omega)]
   have jv:eZ (aF m k).1 (aF m k).2.1 k<m.length->aF m (k+1)=(df (gJ (cr (aF m k).1 (aF m k).2.1 (eZ (aF m k).1 (aF m k).2.1 k)) (aF m k).2.1 k) (aF m k).2.1 k (aF m k).1.length,(aF m k).2.1+1,(aF m k).2.2++[k]):=fun hp=>by rw[wg];unfold iE;rw[ar (by omega)]
   have zbi:=@Zz6 m k;have NN:=@Yhq m k;have hqM:bz (aF m k).1 (B (aF m k).2.1):=hK _;have zaR:=@Ni m (k+1);generalize hd:(aF m k).2.1=d at*;generalize qK:(aF m k).1=m1 at*;generalize rU:(aF m k).2.2=ps at*;have MY:n1<n1+1:=by omega
   have zaS:(us.drop d).length=m1.length-d:=by rw[zk,g2]
   refine av (Yr6 (us.drop d) (fun i:Nat=>decide (((m1.drop d)[i]?.getD [])[k]?.getD 0≠0)) e2 (by omega) fun j x hx h' n' iD=>?_) ?_
   ·have mq:us[d+j]?=some x:=by rw[<-fF];exact hx
    obtain⟨row,az⟩:=bj (l:=m1) (k:=d+j) (by have:=gZ mq;omega);obtain⟨y,b1,b2⟩:=g5 _ _ az;rw[mq]at b1;simp only[aq]at b1;subst b1;have:=Ywh (k:=k) ((iD.get n1 MY).trans gP) (fm MY iD.le) ((b2.ad kA).ad iD).1 (by rw[SO row (cF az)];exact aC);simp only[fF,az,g_];exact this
   rintro _ H2 n2 k2 rfl;rw[zaS];have me:=k2.le;have SH:=(k2.get n1 MY).trans gP;have s2:=sA.ad k2;have o2:=oA.ad k2;have zP:=(k2.get R (by omega)).trans gA;have kU2:=kU.trans k2;have RL:¬n1<N0:=by have:=k1.le;omega
   have RM:R<n2:=by omega
   rcases @Zy3 m1 k d (m1.length-d) 0 with⟨f1,f2⟩|⟨a,f1,f2,f3⟩
   ·rw[f1];have He:eZ m1 d k=m.length:=by unfold eZ;have:=f2;rw[gE]at this;omega
    simp(disch:=first|(simp;done)|omega|rfl) [hf,h5,h6,VQ,RL,hW];refine⟨c-(k+1),by omega,kU2,k+1,by omega,rfl,by simp,?_,?_⟩
    ·rw[EP He];simp[hd]
    rw[EP He,qK,rU,hd];exact⟨o2,FF,s2⟩
   rw[f1];rw[gE]at f2;obtain⟨p,hp⟩:∃p,p=d+a:=⟨_,rfl⟩;have DK:eZ m1 d k=p:=by unfold eZ;omega
   have hda:(d:Int)+(a:Int)=(p:Int):=by omega
   have jA:p<m1.length:=by omega
   have dX:d<m1.length:=by omega
   obtain⟨rd,HE⟩:=bj dX;obtain⟨rp,MZ⟩:=bj jA;obtain⟨ud,x3,x4⟩:=g5 _ _ HE;obtain⟨up,y3,y4⟩:=g5 _ _ MZ;have Y7:d<us.length:=by omega
   have hpu:p<us.length:=by omega
   have Vm:(d:Int)<(m.length:Int):=by omega
   have UO:(p:Int)<(m.length:Int):=by omega
   have zaT:d<m.length:=by omega
   have HY:p<m.length:=by omega
   have zaU:¬(a:Int)<0:=by omega
   have z1:∀u,ag us d [u]=us.set d u:=fun u=>KW Y7;have z2:∀u,ag (us.set d up) p [u]=(us.set d up).set p u:=fun u=>KW (by simp;exact hpu);obtain⟨_,c1,o1⟩:=x4.FQ;obtain⟨_,c2,o2'⟩:=y4.FQ;have l1:d+1<=us.length:=Y7;have l2:p+1<=us.length:=hpu;simp(disch:=first|(simp;done)|omega|rfl) [-getElem?_pos, -V.cells, -V.one,hr,a4,h6,hda,zaU,zP,x3,y3,RM,bO,c1,o1,c2,o2',z1,z2,l1,l2];have U2:er (fun i=>i=R) H2 n2 ((H2.set R (.cells (us.set d up) 81 true)).set R (.cells ((us.set d up).set p ud) 81 true)) n2:=⟨aO _,fun i _ hi=>by rw[T.ae,ak hi,T.ae,ak hi]⟩;have gA1:(H2.set R (.cells (us.set d up) 81 true)).get R=some (.cells (us.set d up) 81 true):=by rw[T.ae,ar rfl]
   have AT:=(x4.ad kA).ad k2;have hy4:=(y4.ad kA).ad k2;have sA1:=s2.FK zP hy4 dX;have sB:=sA1.FK gA1 (AT.bm zP (by decide) g3 (by simp)) (i:=p) (by rw[zV];exact jA);have gB:((H2.set R (.cells (us.set d up) 81 true)).set R (.cells ((us.set d up).set p ud) 81 true)).get R=some (.cells ((us.set d up).set p ud) 81 true):=by rw[T.ae,ar rfl]
   have DJ:(m1.set d rp).set p rd=cr m1 d p:=by unfold cr;rw[HE,MZ];rfl
   rw[DJ]at sB;have vD:((us.set d up).set p ud).length=m1.length:=by simp only[zV];omega
   generalize (H2.set R (.cells (us.set d up) 81 true)).set R (.cells ((us.set d up).set p ud) 81 true)=G2 at*;generalize (us.set d up).set p ud=vs at*;have gPB:=(U2.get n1 (by omega) (by omega)).trans SH;have oB:=o2.wi zP (fun z hz=>by simp at hz) U2;have JJ:=hqM.DI (d:=d) (p:=p);have hrB:=SO.DI dX jA;have hlB:(cr m1 d p).length=m1.length:=pZ;have aW:=@HU m1 k (m1.length-d) d (by unfold eZ at DK;omega);have az:(cr m1 d p)[d]?=some rp:=by
    rw[<-DJ];by_cases e:p=d
    ·rw[e,HE]at MZ;simp only[aq]at MZ;rw[e,MZ,mD (by simp;omega)]
    rw[eX e,mD dX]
   have KO:rp[k]?.getD 0≠0:=by have h9:=DK;unfold eZ at h9;rw[h9,MZ]at aW;exact aW
   obtain⟨nb,vd,b1,b2,b3,b4⟩:=sB.at az;rw[gB]at b1;simp only[aq,O.cells.injEq,and_true]at b1;subst b1;have zbY:=hrB rp (cF az);obtain⟨q,hq⟩:=bj (l:=rp) (k:=k) (by omega);have Kd:=JJ rp (cF az);have qO:=Kd q (cF hq);have xy:q≠0:=by rw[hq]at KO;exact KO
   have hkq:=hB d zaT (by omega);obtain⟨i1,t1,w1,e3,v1,cs,q1,q2,q3,q4,q5⟩:=b4.1.at hq;obtain⟨r1,r2⟩:=q5.len;have qG:=b4.1.len;have cI:(k:Int)<(rp.length:Int):=by omega
   have kc:k<rp.length:=by omega
   have mW:∀c:List V,(V.agg c).cells=c:=fun _=>rfl;have s0:=MW r1;have e4:=VO r1;have VS:n2<n2+1:=by omega
   have zaV:¬R=n2:=by omega
   have lP2:n1<n2:=by omega
   have zbZ:¬n1=n2:=by omega
   simp(disch:=first|(simp;done)|omega|rfl) [-getElem?_pos, -V.cells, -V.one,hr,a4,h6,b3,gB,gPB,lP2,RM,q1,q2,q3,q4,qG,bO,mW,r1,r2,e4,VS,zaV];have kC:ab G2 n2 ((G2.set n2 (.cells [.int .i64 0,.aa,.int .i64 0,.aa] 123 true)).set n2 (.cells cs 123 true)) (n2+1):=(ab.refl.new _).set (aO _);have gQ:((G2.set n2 (.cells [.int .i64 0,.aa,.int .i64 0,.aa] 123 true)).set n2 (.cells cs 123 true)).get n2=some (.cells cs 123 true):=by rw[T.ae,ar rfl]
   generalize (G2.set n2 (.cells [.int .i64 0,.aa,.int .i64 0,.aa] 123 true)).set n2 (.cells cs 123 true)=G3 at*;refine av (Yrn (fun x=>x/q) (b4.ad kC).1 (by omega) fun x hx c' h' n' k' jw=>Ywg (j:=B d) (k:=B d) ((k'.get n2 VS).trans gQ) (fm VS k'.le) jw ((q5.ad kC).ad k') xy (Kd x hx) qO (by omega) (by omega)) ?_;rintro v3 H3 n3 k3 t3;have wc:=k3.le;have gR3:=(k3.get R (by omega)).trans ((kC.get R RM).trans gB);have sC:=((sB.ad kC).ad k3).FK gR3 t3 (i:=d) (by rw[hlB];exact dX);have FT:(cr m1 d p).set d (rp.map fun x=>x/q)=gJ (cr m1 d p) d k:=by unfold gJ;rw[az];simp only[g_,hq]
   rw[FT]at sC;have hmC:(gJ (cr m1 d p) d k).length=m.length:=by rw[CD,pZ];exact hlen
   have BV:d<vs.length:=by omega
   have zaW:d+1<=vs.length:=BV;have z3:∀u,ag vs d [u]=vs.set d u:=fun u=>KW BV;have Od:R<n3:=by omega
   have lRp:R<n2+1:=by omega
   obtain⟨_,c3,o3⟩:=t3.FQ;simp(disch:=first|(simp;done)|omega|rfl) [-V.cells, -V.one,hr,a4,gR3,bO,c3,o3,z3,zaW];have U3:er (fun i=>i=R) H2 n2 (H3.set R (.cells (vs.set d v3) 81 true)) n3:=((U2.trans kC.upd).trans k3.upd).set (.inl rfl);have gPC:=(U3.get n1 (by omega) (by omega)).trans SH;have gRC:(H3.set R (.cells (vs.set d v3) 81 true)).get R=some (.cells (vs.set d v3) 81 true):=by rw[T.ae,ar rfl]
   generalize H3.set R (.cells (vs.set d v3) 81 true)=G4 at*;refine mJ (Ykl (cp:=some m.length) (N0:=N0) (P:=n1) (d:=d) (K:=B d) sC Cc gPC (by omega) (hrB.KV (by omega)) aC (by omega) (by omega) (by omega) (uz _) (fun i hi=>by
    unfold gJ
    rw[eX (Ne.symm hi)]
    exact JJ.at) (by
    unfold gJ
    rw[mD (by omega)]
    exact Yny JJ (uz _) (by rw[az];exact KO)) (by omega) (by simp[wx.2 Cc,RL,hW,show ¬n2<N0 by omega]) (by simp[hr,a4,hmC]) (by simp[h6]) (by simp) (by simp[hmC]) (by simp)) ?_;rintro _ _ ⟨H4,n4,W4⟩ ⟨rfl,Tj,U4,s4,r4,f4,rfl⟩;simp only at Tj U4 s4;have xG:=f4.fY;have hf4:=hf.inner (D':=[(10,12),(72,104)]) (by decide) (fun hx=>by simpa[Fx.set]using hx) xG;have CP:=U4.le;have gP4:=(U4.get n1 (by omega) (by omega)).trans gPC;have o4:=(o2.wi zP (fun z hz=>by simp at hz) U3).wi gRC (fun z hz=>by simp at hz) U4;have lP4:n1<n4:=by omega
   have AI:ag [V.int .i64 0] 0 [V.int .i64 k]=[V.int .i64 k]:=rfl;simp[xG,h5,gP4,AI];have kD:ab H4 n4 (H4.set n4 (.cells [.int .i64 k] 3 true)) (n4+1):=ab.refl.new _;obtain⟨v',h',w',j1,j2,j3,j4,j5,j6⟩:=rP.push (B:=N0) (x:=.slice n4 0 1 (some 1) 1) (k:=k) (w:=W4) (o4.ad kD) (aO _) (by omega) Tj (by simp[gb,St.row,aL]) (by simp[AM];omega);have s5:=(s4.ad kD).bY j3 j4 (by decide) (by decide);have kF:ab h N0 h' (n4+1+1):=⟨by have:=kU2.le;omega,fun i hi=>by rw[j3.get i (by omega) (fun hc=>by have:=j5 i hc;omega),T.ae,ak (by omega),U4.get i (by omega) (by omega),U3.get i (by omega) (by omega)];exact kU2.get i hi⟩;have eM:=jv (by omega);rw[DK]at eM;rw[hmC,<-hlen]at s5;have hpi:AM (ps++[k])=AM ps++[(k:Int)]:=by simp[AM]
   by_cases hE:d+1=m.length
   ·have hE':(d:Int)+1=(m.length:Int):=by omega
    have hcf:aF m c=aF m (k+1):=by have:=zaR (n:=c-(k+1)) (by rw[eM];exact hE);rw[<-this,show k+1+(c-(k+1))=c by omega]
    simp(disch:=first|(simp;done)|omega|rfl) [j1,xG,hf4,hr,a4,h6,hE',j2,kF];rw[hcf,eM,hpi];exact⟨s5,hE.symm,j6⟩
   have hE':¬(d:Int)+1=(m.length:Int):=by omega
   simp(disch:=first|(simp;done)|omega|rfl) [j1,xG,hf4,hr,a4,h6,VQ,hE',j2,kF];refine⟨c-(k+1),by omega,k+1,by omega,rfl,by simp,?_⟩;rw[eM,hpi];exact⟨by simp,j6,by show d+1<m.length;omega,s5⟩
  obtain rfl:k=c:=by omega
  simp[A.tD,hr,hf,h5,h6,a25,VQ,k1,hW];exact⟨s1,hO⟩
 rintro _ r st hr ⟨rfl,hw,k1,s1,v,h6,h5,hO⟩;simp[];exact⟨hw,k1,s1,r,⟨hr,rfl,rfl⟩,rfl,h6,v,h5,hO⟩
def nv.DP{d:Nat}{v:V}{us:List V}(s:nv h N R m)(g:h.get R=some (.cells us 81 true))(hv:Sl h N v (us.take d))(hd:d<=m.length):gF h N v (m.take d):=by
 obtain⟨vs,g1,g2,_,_,g3⟩:=s.ex;rw[g]at g1;simp only[aq,O.cells.injEq,and_true]at g1;subst g1;refine⟨us.take d,hv,by simp[g2],fun j l hl=>?_⟩;by_cases hj:j<d
 ·rw[jL,ar hj]at hl ⊢;exact g3 j l hl
 rw[jL,ak hj]at hl;cases hl
def Yw{u:V}{c:Nat}{B:Nat->Nat}(hu:gF h N u m)(hc:aR m c)(kl:m.length<1000)(jD:0<m.length)(cX:c<1000)(uz:∀n,1<=B n)(hK:∀k,bz (aF m k).1 (B (aF m k).2.1))(hB:∀n,n<m.length->n<c->3*B n<=400000000):Fn A.C 44 [u] h N (fun x h' n'=>∃a b,x=.aV [a,b]/\gF h' n' a (bb m c)/\rP N h' n' b (AM (aF m c).2.2)):=by
 intro w;have lu:=hu.len;obtain⟨us,h1,h2,h3⟩:=hu;have h_:=h1;rcases h1 with⟨hn,_⟩|⟨i,o,cp,c',e,rQ,rfl,q2,q3,q4,q5,q6⟩
 ·rw[hn]at h2;simp at h2;omega
 have aW:¬i=N:=by omega
 have Mg:(h.set N (.cells (dm [.aa] m.length) 81 true)).get i=some (.cells c' e rQ):=by rw[T.ae,ak aW];exact q3
 have gz:(h.set N (.cells (dm [.aa] m.length) 81 true)).get N=some (.cells (dm [.aa] m.length) 81 true):=by simp
 have DN:=Yuu (N:=N+1) (w:=[]) (cp:=cp) Mg q4 q5;rw[h2]at DN;have cpy:=Ydd (cp:=some m.length) jD DN h2 gz (by rw[Ydt];simp);have kB:ab h N ((h.set N (.cells (dm [.aa] m.length) 81 true)).set N (.cells us 81 true)) (N+1):=(ab.refl.new _).set (aO _);have gN:((h.set N (.cells (dm [.aa] m.length) 81 true)).set N (.cells us 81 true)).get N=some (.cells us 81 true):=by rw[T.ae,ar rfl]
 have sR:nv ((h.set N (.cells (dm [.aa] m.length) 81 true)).set N (.cells us 81 true)) (N+1) N m:=⟨by omega,us,gN,h2,?nu,?one,fun j l hl=>by obtain⟨x,a1,a2⟩:=h3 j l hl;exact⟨x,a1,a2.ad kB⟩⟩;case nu=>
  intro x hx
  obtain⟨j,hj⟩:=nw hx
  obtain⟨l,hl⟩:=bj (l:=m) (k:=j) (by have:=gZ hj;omega)
  obtain⟨y,a1,a2⟩:=h3 j l hl
  rw[hj]at a1
  simp only[aq]at a1
  subst a1
  exact a2.FQ.1
 case one=>
  rw[jY]
  intro x hx
  obtain⟨j,hj⟩:=nw hx
  obtain⟨l,hl⟩:=bj (l:=m) (k:=j) (by have:=gZ hj;omega)
  obtain⟨y,a1,a2⟩:=h3 j l hl
  rw[hj]at a1
  simp only[aq]at a1
  subst a1
  exact a2.FQ.2.1
 rw[h2]at h_;obtain⟨l0,cH⟩:=bj jD;obtain⟨x0,b1,b2⟩:=h3 0 l0 cH;obtain⟨i2,o2,SG,e2,SF,p1,p2,p3,p4⟩:=(h_.ad kB).at b1;rw[gE]at p4;have b3:=b2.1.len;rw[hc l0 (cF cH)]at b3;have hmn:¬m=[]:=fun hc=>by rw[hc]at jD;simp at jD
 have UN:(24:Int)*(m.length:Int)<=140737488355328:=by omega
 have cc3:(m.length:Int)<4611686018427387904:=by omega
 rw[h2]at lu;rw[aN,A.k44 (by simp)];simp[A.b44,h2,jD,UN,cc3,cpy,hmn,p1,p3,p4,b3];generalize (h.set N (.cells (dm [.aa] m.length) 81 true)).set N (.cells us 81 true)=G at*;refine mJ (Ybl (N0:=N) (h:=h) sR (aO _) hc kl jD cX uz hK hB kB (by simp) (by simp) (by simp) (by simp) (by simp) (by simp)) ?_;rintro _ _ ⟨H4,n4,W4⟩ ⟨rfl,hw,k4,s4,r4,pv,f4,rfl,x6,x5,oI⟩;simp only at hw k4 s4 oI;have xG:=f4.fY;obtain⟨vs,g1,g2,_⟩:=id s4.ex;have hl4:(aF m c).1.length=m.length:=AG;have ka:=(@nR m c hc c).2;have hs:Sl H4 n4 (.slice N 0 m.length (some m.length) 1) vs:=Sl.row s4.lt g1 (by omega) fun k hk=>by simp at hk;omega
 obtain⟨v',e1,e2⟩:=MD (w:=W4) hs (lo:=0) (hi:=(aF m c).2.1) (by omega) (by omega) none (some (.int .i64 (aF m c).2.1)) (.inr ⟨rfl,rfl⟩) (.inl rfl);rw[Br]at e2;simp[FZ,xG,x6,x5,e1,ax,hw];exact⟨k4,v',pv,⟨rfl,rfl⟩,s4.DP g1 e2 (by omega),oI⟩
variable {m:List (List Rat)} {n:Nat}
def Yqh{i:Nat}(h:i<(aF m n).2.1):(bb m n)[i]?=(aF m n).1[i]?:=by unfold bb;rw[jL,ar h]
def KX{i j:Nat}(h:i<(aF m n).2.1):al (bb m n) i j=al (aF m n).1 i j:=by unfold al;rw[Yqh h]
def CI{c:Nat}(h:aR m c):aR (bb m n) c:=fun r hr=>(@nR m c h n).1 r (wB hr)
def Yu0{K:Nat}(h:bz m K)(hK:1<=K):bz (bb m n) (kB K (aF m n).2.1):=fun r hr=>(@Sh m K h hK n) r (wB hr)
def F0:aR (gG m n) n:=fun r hr=>by
 unfold gG at hr
 obtain⟨k,_,rfl⟩:=bF.1 hr
 simp[Sm]
def YJ(hc:aR m n):(gG m n).length+(aF m n).2.1=n:=by have I:=@mE m n hc n;have:=@HZ n (aF m n).2.2 (fun i hi=>I.lt i (by rw[<-I.len];exact hi)) (fun i j h1 h2=>I.uy i j h1 (by rw[<-I.len];exact h2));rw[I.len]at this;unfold gG;rw[cG];exact this
def Yqi(hm:m.length<=6)(hc:aR m n)(h:bz m 96):bz (bb m n) 400000000:=by refine(Yu0 (n:=n) h (by decide)).mono ?_;have:=(@nR m n hc n).2;exact Yvv (by omega)
variable {N R:Nat} {h:T O} {l:List Rat}
def A.w88:=A.q Tryz.f88
def A.xV:=A.ql A.w88 0 []
def A.b88:=(fun x0=>A.qb A.w88 [x0]) A.xV
def A.k88:=@A.kk 88 18 [.tmp 2] A.b88 (by kernel_rfl) rfl
structure ze (h:T O) (N R:Nat) (l:List Rat) (m:Nat):Prop where
 lt:R<N
 ex:∃cs:List (List V),h.get R=some (.cells (cs.flatten++dm zF m) 123 true)/\cs.length=l.length/\∀(j:Nat) (q:Rat),l[j]?=some q->∃c,cs[j]?=some c/\fV h N c q
def ze.ad{h':T O}{N' m:Nat}(s:ze h N R l m)(k:ab h N h' N'):ze h' N' R l m:=by obtain⟨cs,g1,g2,g3⟩:=s.ex;refine⟨fm s.lt k.le,cs,(k.get R s.lt).trans g1,g2,fun j q hq=>?_⟩;obtain⟨c,a,b⟩:=g3 j q hq;exact⟨c,a,b.ad k⟩
def ze.fcs{cs:List (List V)}(g2:cs.length=l.length)(g3:∀(j:Nat) (q:Rat),l[j]?=some q->∃c,cs[j]?=some c/\fV h N c q):(∀c∈cs,c.length=4)/\ux cs.flatten/\cs.flatten.all V.one=true:=QQ (l:=l) (by omega) fun j q _ hq=>g3 j q hq
def ze.next{m:Nat}{c:List V}{q:Rat}(s:ze h N R l (m+1))(hc:fV h N c q):∃X,h.get R=some (.cells X 123 true)/\l.length*4+4<=X.length/\ze (h.set R (.cells (ag X (l.length*4) c) 123 true)) N R (l++[q]) m:=by
 obtain⟨cs,g1,g2,g3⟩:=s.ex;obtain⟨f1,f2,_⟩:=ze.fcs g2 g3;have kg:=AH f1;obtain⟨e1,_⟩:=hc.len;have iK:ag (cs.flatten++dm zF (m+1)) (l.length*4) c=(cs++[c]).flatten++dm zF m:=by rw[Hy,Vg (n:=4) (by rw[kg,g2]) rfl e1,MQ,uG]
 have HC:ux (cs.flatten++dm zF (m+1)):=f2.app Vh;have Hw:((cs++[c]).flatten++dm zF m).length=(cs.flatten++dm zF (m+1)).length:=by rw[Hy,MQ];simp[e1,zF];omega
 refine⟨_,g1,by rw[jm,kg,g2,Ydv];omega,s.lt,cs++[c],by rw[T.ae,ar rfl,iK],by simp[g2],fun j r hr=>?_⟩;rw[iK];by_cases e:j<l.length
 ·rw[mj e]at hr;obtain⟨x,a,b⟩:=g3 j r hr;exact⟨x,by rw[mj (by omega)];exact a,b.aI g1 HC Hw⟩
 have hj:j=l.length:=by have:=gZ hr;simp at this;omega
 subst hj;rw[pY (aO _)]at hr;simp at hr;subst hr;exact⟨c,by rw[pY (by omega),g2];simp,hc.aI g1 HC Hw⟩
def ze.Yn(s:ze h N R l 0):ec h N (.slice R 0 l.length (some l.length) 4) l:=by
 obtain⟨cs,g1,g2,g3⟩:=s.ex;obtain⟨f1,f2,_⟩:=ze.fcs g2 g3;have hz:dm zF 0=[]:=by simp[dm]
 rw[hz,zZ]at g1;refine⟨⟨cs,.inr ⟨R,0,some l.length,cs.flatten,_,true,by rw[g2],s.lt,g1,fun j x hj=>by rw[yE];exact PW f1 hj,by rw[AH f1];omega,fun k hk=>by simp at hk;omega⟩,g2,g3⟩,fun i hi=>?_⟩;simp[dk]at hi;subst hi;exact⟨_,_,g1⟩
def Yjc{n:Nat}(hn:n<1000):Fn A.C 88 [.int .i64 n] h N (fun x h' n'=>x=.slice N 0 n (some n) 4/\ze h' n' N ((List.range n).map fun _=>0) 0):=by
 intro w;have c1:(64:Int)*(n:Int)<=140737488355328:=by omega
 have c2:(n:Int)<4611686018427387904:=by omega
 have kB:ab h N (h.set N (.cells (dm zF n) 123 true)) (N+1):=ab.refl.new _;have gB:(h.set N (.cells (dm zF n) 123 true)).get N=some (.cells (dm zF n) 123 true):=by rw[T.ae,ar rfl]
 rw[aN,A.k88 (by simp)];simp[A.b88,c1,c2];refine cm [(4,4),(9,16)] (fun e r st=>e=.exit 0/\ay N st.w=[]/\ab h N st.h st.n/\ze st.h st.n N ((List.range n).map fun _=>0) 0) (fun i r st=>ay N st.w=[]/\ab h N st.h st.n/\∃t,t+i=n/\r.get 9=some (.int .i64 t)/\ze st.h st.n N ((List.range t).map fun _=>0) i) n ?_ ?_ ?_
 ·exact⟨by simp,kB,0,by omega,by simp,by show N<N+1;omega,[],by simp;rfl,rfl,fun j q hq=>by simp at hq⟩
 ·rintro i r ⟨H,n1,W⟩ hr hf ⟨hW,hK,t,ht,h9,hQ⟩;simp only at hW hK hQ;rw[bu];cases i with
  |zero=>
   obtain rfl:t=n:=by omega
   simp[A.xV,hr,hf,h9,hW,hK];exact hQ
  |succ i=>
   have aC:t<n:=by omega
   have cg:(t:Int)<(n:Int):=by omega
   simp[A.xV,hr,h9,cg];refine av (Yv7 (by decide) (by decide)) ?_;rintro _ H2 n2 k2 hz;obtain⟨c,rfl,hc⟩:=hz.c;obtain⟨e1,e2⟩:=hc.len;have me:=k2.le;have mW:(V.agg c).cells=c:=rfl;obtain⟨X,x1,x2,x3⟩:=(hQ.ad k2).next hc;have lN:N<n2:=fm hQ.lt me;have hl:((List.range t).map fun _=>(0:Rat)).length=t:=by simp
   rw[hl]at x2 x3;simp(disch:=first|(simp;done)|omega|rfl) [-V.cells, -V.one,hf,h9,bO,mW,e1,e2,x1,x2];exact⟨i,by omega,hW,(hK.trans k2).set (aO _),t+1,by omega,by simp,by rw[List.range_succ,List.map_append];exact x3⟩
 rintro _ r ⟨H,n1,W⟩ hr ⟨rfl,hW,hK,hQ⟩;simp only at hW hK hQ;simp[hr,ax,hW,hK];exact hQ
end
end Go.Mx
