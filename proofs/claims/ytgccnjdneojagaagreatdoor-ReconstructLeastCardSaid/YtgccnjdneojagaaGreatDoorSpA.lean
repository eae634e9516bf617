/-The echelon form of a matrix-/
import Derived.Test.YtgccnjdneojagaaGreatDoorCoF
set_option linter.all false
set_option maxHeartbeats 4000000
namespace Go.Mx
noncomputable section
open Go Go.Proofs
variable {d i j k:Nat} {m:List (List Rat)}
set_option maxRecDepth 1000000
def al(m:List (List Rat))(i j:Nat):Rat:=(m[i]?.getD [])[j]?.getD 0
def Ib{p:Nat}(hd:d<m.length)(hp:p<m.length):al (cA m d p) i j=if i=d then al m p j else if i=p then al m d j else al m i j:=by
 unfold al cA;by_cases e1:i=p
 ·subst e1;rw[jW (by simp;exact hp)];by_cases e2:i=d
  ·subst e2;simp
  simp[e2]
 rw[eW (Ne.symm e1)];by_cases e2:i=d
 ·subst e2;rw[jW hd];simp
 rw[eW (Ne.symm e2)];simp[e1,e2]
def SR(hd:d<m.length):al (gJ m d k) i j=if i=d then al m d j/al m d k else al m i j:=by
 unfold al gJ;by_cases e:i=d
 ·subst e;rw[jW hd,av rfl,il,eH];cases (m[i]?.getD [])[j]? with
  |none=>simp[Rat.div_def,Rat.zero_mul]
  |some q=>rfl
 rw[eW (Ne.symm e),ak e]
def SS{c:Nat}(h:aU m c)(hi:i<m.length)(hd:d<m.length):al (de m d k m.length) i j=if i=d then al m i j else al m i j-al m i k*al m d j:=by
 unfold al;rw[HV hi,il];by_cases e:i=d
 ·rw[ak (by omega),av e]
 rw[av ⟨hi,e⟩,ak e];have l1:=h.at hi;have l2:=h.at hd;by_cases hj:j<c
 ·unfold uI;rw[Nh (by omega)];rfl
 rw[fy (by rw[Ni];omega),fy (l:=m[i]?.getD []) (by omega),fy (l:=m[d]?.getD []) (by omega)];show (0:Rat)=0-(m[i]?.getD [])[k]?.getD 0*0;rw[Rat.mul_zero,Rat.sub_self]
def Yps{m:List (List Rat)}{k:Nat}:∀{n d:Nat},d+n<=sY m k d n->∀i,d<=i->i<d+n->al m i k=0
 |0,d,h,i,h1,h2=>by omega
 |n+1,d,h,i,h1,h2=>by
  unfold sY at h
  split at h
  ·omega
  ·rename_i hc
   by_cases e:i=d
   ·subst e;unfold al;simpa using hc
   ·exact Yps (n:=n) (d:=d+1) (by omega) i (by omega) (by omega)
structure zJ (m:List (List Rat)) (d:Nat) (ps:List Nat) (n:Nat):Prop where
 len:ps.length=d
 le:d<=m.length
 lt:∀i,i<d->ps[i]?.getD 0<n
 xc:∀i j,i<j->j<d->ps[i]?.getD 0<ps[j]?.getD 0
 one:∀i j,i<d->j<m.length->al m j (ps[i]?.getD 0)=if j=i then 1 else 0
 lead:∀i k,i<d->k<ps[i]?.getD 0->al m i k=0
 rest:∀i k,d<=i->i<m.length->k<n->al m i k=0
def zJ.step{s:List (List Rat)×Nat×List Nat}{n c:Nat}(h:zJ s.1 s.2.1 s.2.2 n)(hc:aU s.1 c):zJ (iF s n).1 (iF s n).2.1 (iF s n).2.2 (n+1):=by
 obtain⟨m,d,ps⟩:=s;simp only at h hc;unfold iF;simp only;have hle:=@FV m n (m.length-d) d;have kK:=h.le;split
 ·rename_i hp;have ew:d<m.length:=by unfold fh at hp;omega
  have Np:d<=fh m d n:=hle.1;have aZ:al m (fh m d n) n≠0:=@HU m n (m.length-d) d (by unfold fh at hp;omega);generalize fh m d n=p at*;have jX:=(hc.D4 ew hp).K6 (d:=d) (k:=n) (by rw[qJ];exact ew);have hlen:(de (gJ (cA m d p) d n) d n m.length).length=m.length:=by rw[CL,CM,qJ]
  have jq:(gJ (cA m d p) d n).length=m.length:=by rw[CM,qJ]
  have hb:∀i j,al (cA m d p) i j=if i=d then al m p j else if i=p then al m d j else al m i j:=fun i j=>Ib ew hp
  have hs:∀i j,al (gJ (cA m d p) d n) i j=if i=d then al m p j/al m p n else al (cA m d p) i j:=fun i j=>by rw[SR (by rw[qJ];exact ew),hb d j,hb d n,av rfl,av rfl]
  have he:∀i j,i<m.length->al (de (gJ (cA m d p) d n) d n m.length) i j=if i=d then al m p j/al m p n else al (cA m d p) i j-al (cA m d p) i n*(al m p j/al m p n):=fun i j hi=>by have:=SS (m:=gJ (cA m d p) d n) (k:=n) (j:=j) jX (i:=i) (d:=d) (by rw[jq];exact hi) (by rw[jq];exact ew);rw[jq]at this;rw[this,hs i j,hs i n,hs d j,av rfl];split<;>rfl
  have sS:al m p n/al m p n=1:=by rw[Rat.div_def];exact Rat.mul_inv_cancel _ aZ
  have Ie:∀i j,i<d->al (cA m d p) i j=al m i j:=fun i j hi=>by rw[hb,ak (by omega),ak (by omega)]
  have iW:∀i k,d<=i->i<m.length->k<n->al (cA m d p) i k=0:=fun i k h1 h2 h3=>by
   rw[hb];split
   ·exact h.rest p k Np hp h3
   split
   ·exact h.rest d k (aM _) ew h3
   exact h.rest i k h1 h2 h3
  have uT:∀k,k<n->al m p k/al m p n=0:=fun k hk=>by rw[h.rest p k Np hp hk,Rat.div_def,Rat.zero_mul]
  have hold:∀i k,i<m.length->k<n->al (de (gJ (cA m d p) d n) d n m.length) i k=if i<d then al m i k else 0:=fun i k hi hk=>by
   rw[he i k hi,uT k hk,Rat.mul_zero];by_cases e:i=d
   ·rw[av e,ak (by omega)]
   rw[ak e];by_cases e2:i<d
   ·rw[av e2,Ie i k e2,Rat.sub_eq_add_neg,Rat.neg_zero,Rat.add_zero]
   rw[ak e2,iW i k (by omega) hi hk,Rat.sub_eq_add_neg,Rat.neg_zero,Rat.add_zero]
  have tk:∀i,i<m.length->al (de (gJ (cA m d p) d n) d n m.length) i n=if i=d then 1 else 0:=fun i hi=>by
   rw[he i n hi,sS];split
   ·rfl
   rw[Rat.mul_one,Rat.sub_self]
  have ho:∀i,i<d->(ps++[n])[i]?.getD 0=ps[i]?.getD 0:=fun i hi=>by rw[mH (by have:=h.len;omega)]
  have uJ:(ps++[n])[d]?.getD 0=n:=by rw[qI (by have:=h.len;omega),h.len];simp
  show zJ (de (gJ (cA m d p) d n) d n m.length) (d+1) (ps++[n]) (n+1);refine⟨by simp[h.len],by rw[hlen];omega,fun i hi=>?_,fun i j h1 h2=>?_,fun i j h1 h2=>?_,fun i k h1 h2=>?_,fun i k h1 h2 h3=>?_⟩
  ·by_cases e:i<d
   ·rw[ho i e];have:=h.lt i e;omega
   obtain rfl:i=d:=by omega
   rw[uJ];omega
  ·rw[ho i (by omega)];by_cases e:j<d
   ·rw[ho j e];exact h.xc i j h1 e
   obtain rfl:j=d:=by omega
   rw[uJ];exact h.lt i h1
  ·rw[hlen]at h2;by_cases e:i<d
   ·rw[ho i e,hold j _ h2 (h.lt i e)];by_cases e2:j<d
    ·rw[av e2];exact h.one i j e h2
    rw[ak e2,ak (by omega)]
   obtain rfl:i=d:=by omega
   rw[uJ];exact tk j h2
  ·by_cases e:i<d
   ·rw[ho i e]at h2;rw[hold i k (by omega) (by have:=h.lt i e;omega),av e];exact h.lead i k e h2
   obtain rfl:i=d:=by omega
   rw[uJ]at h2;rw[hold i k ew h2,ak e]
  rw[hlen]at h2;by_cases e:k<n
  ·rw[hold i k h2 e,ak (by omega)]
  obtain rfl:k=n:=by omega
  rw[tk i h2,ak (by omega)]
 rename_i hp;have PO:=@Yps m n (m.length-d) d (by unfold fh at hp;omega);show zJ m d ps (n+1);refine⟨h.len,h.le,fun i hi=>by have:=h.lt i hi;omega,h.xc,h.one,h.lead,fun i k h1 h2 h3=>?_⟩;by_cases e:k<n
 ·exact h.rest i k h1 h2 e
 obtain rfl:k=n:=by omega
 exact PO i h1 (by omega)
def mU{m:List (List Rat)}{c:Nat}(hc:aU m c):∀{n:Nat},zJ (aD m n).1 (aD m n).2.1 (aD m n).2.2 n
 |0=>⟨rfl,wx _,fun i hi=>absurd hi (Nat.not_lt_zero i),fun i j _ hj=>absurd hj (Nat.not_lt_zero j),fun i j hi=>absurd hi (Nat.not_lt_zero i),fun i k hi=>absurd hi (Nat.not_lt_zero i),fun i k _ _ hk=>absurd hk (Nat.not_lt_zero k)⟩
 |n+1=>by
  rw[wV]
  exact(@mU m c hc n).step (pH hc).1
def At(m:List (List Rat))(ps:List Nat)(n k:Nat):List Rat:=(List.range n).map fun j=>if j=k then 1 else if j∈ps then -al m (ps.idxOf j) k else 0
def iw(ps:List Nat)(n:Nat):List Nat:=(List.range n).filter fun k=>!ps.contains k
def eE(m:List (List Rat))(n:Nat):List (List Rat):=(iw (aD m n).2.2 n).map (At (aK m n) (aD m n).2.2 n)
def bS(m:List (List Rat))(n:Nat):List (List Rat):=aK (eE m n) n
def Ij:∀{n:Nat} {ps:List Nat},(∀i,i<ps.length->ps[i]?.getD 0<n)->(∀i j,i<j->j<ps.length->ps[i]?.getD 0<ps[j]?.getD 0)->(iw ps n).length+ps.length=n
 |0,ps,h1,h2=>by
  cases ps with
  |nil=>rfl
  |cons p t=>exact absurd (h1 0 (by simp)) (by omega)
 |n+1,ps,h1,h2=>by
  have hs:iw ps (n+1)=iw ps n++if ps.contains n=true then [] else [n]:=by
   unfold iw
   rw[List.range_succ,List.filter_append]
   congr 1
   rw[List.filter_cons]
   cases hc:ps.contains n<;>rfl
  by_cases hm:n∈ps
  ·have pP:ps=ps.dropLast++[n]:=by
    obtain⟨i,hi⟩:=pK hm
    have yH:=(yK.1 hi).1
    have:i=ps.length-1:=by
     by_cases e:i=ps.length-1
     ·exact e
     ·have h3:=h2 i (ps.length-1) (by omega) (by omega)
      have h4:=h1 (ps.length-1) (by omega)
      rw[hi]at h3
      simp only[il]at h3
      omega
    subst this
    have aZ:ps≠[]:=fun hc=>by rw[hc]at hm;simp at hm
    have hl:ps.getLast aZ=n:=by rw[List.getLast_eq_getElem];rw[ct yH]at hi;exact pC hi
    conv=>lhs;rw[<-TT aZ,hl]
   generalize ps.dropLast=l at pP
   subst pP
   have jL:(l++[n]).length=l.length+1:=by simp
   have aE:∀i,i<l.length->l[i]?.getD 0<n:=fun i hi=>by
    have:=h2 i l.length hi (by omega)
    rw[mH hi,qI (aM _)]at this
    simpa using this
   have ih:=@Ij n l aE fun i j h3 h4=>by
    have:=h2 i j h3 (by omega)
    rw[mH h4,mH (by omega)]at this
    exact this
   have he:iw (l++[n]) n=iw l n:=by
    unfold iw
    apply List.filter_congr
    intro k hk
    have hk:=iL.1 hk
    have wC:k≠n:=by omega
    simp[wC]
   rw[hs,he,jL]
   simp
   omega
  ·have hb:∀i,i<ps.length->ps[i]?.getD 0<n:=fun i hi=>by
    have:=h1 i hi
    have h3:ps[i]?.getD 0≠n:=fun hc=>by
     rw[ct hi]at hc
     simp only[il]at hc
     exact hm (hc▸List.getElem_mem hi)
    omega
   have ih:=@Ij n ps hb h2
   rw[hs]
   simp[hm]
   omega
def zJ.idx{n:Nat}{ps:List Nat}(h:zJ m d ps n)(hi:i<d):ps.idxOf (ps[i]?.getD 0)=i:=by
 have hl:=h.len;have hm:ps[i]?.getD 0∈ps:=by rw[ct (by omega)];exact List.getElem_mem _
 have hj:=List.idxOf_lt_length_iff.2 hm;have hg:=List.getElem_idxOf hj;by_cases e:ps.idxOf (ps[i]?.getD 0)=i
 ·exact e
 exfalso;rcases Nat.lt_or_gt_of_ne e with h1|h1
 ·have:=h.xc _ _ h1 hi;rw[ct hj,hg]at this;simp at this
 have:=h.xc _ _ h1 (by omega);rw[ct hj,hg]at this;simp at this
variable {R:Nat} {m:List (List Rat)}
def A.w85:=A.q Tryz.f85
def A.qE:=A.ql A.w85 1 []
def A.ux:=(fun x0=>A.ql A.w85 0 [x0]) A.qE
def A.b85:=(fun x0=>A.qb A.w85 [x0]) A.ux
def A.k85:=@A.kk 85 120 [.tmp 2,.tmp 3] A.b85 (by kernel_rfl) rfl
def nM.at{h:T O}{N:Nat}(s:nM h N R m){j:Nat}{l:List Rat}(hj:m[j]?=some l):∃us u,h.get R=some (.cells us 82 true)/\us.length=m.length/\us[j]?=some u/\d_ h N u l:=by obtain⟨us,g1,g2,_,_,g5⟩:=s.ex;obtain⟨u,a1,a2⟩:=g5 j l hj;exact⟨us,u,g1,g2,a1,a2⟩
def nM.FJ{h:T O}{N i:Nat}{u:V}{l:List Rat}{us:List V}(s:nM h N R m)(g:h.get R=some (.cells us 82 true))(hu:d_ h N u l)(hi:i<m.length):nM (h.set R (.cells (us.set i u) 82 true)) N R (m.set i l):=by obtain⟨vs,g1,_,g2⟩:=s.put hu hi;rw[g]at g1;simp only[au,O.cells.injEq,and_true]at g1;subst g1;exact g2
def Xbb{c:List V}(h:c.length=4):aP c 0 4=some c:=by unfold aP;rw[h];simp;exact fU (by omega)
def Xba{c:List V}(h:c.length=4):ae [V.int .i64 0,.aa,.int .i64 0,.aa] 0 c=c:=by unfold ae;rw[h];simp
def Ylk{α:Type}{l:List α}{i:Nat}{a:α}(h:l[i]?=some a):l.set i a=l:=by
 apply nN;intro j;by_cases e:j=i
 ·subst e;rw[jW (yK.1 h).1,h]
 rw[eW (Ne.symm e)]
def Ywv{q:Rat}:dN q.num=0↔q=0:=by
 have h1:=@DX q;unfold dN;constructor
 ·intro hh;apply h1.1;split at hh
  ·omega
  split at hh<;>omega
 intro hh;have:=h1.2 hh;rw[this];rfl
def Yl5{W0:List Nat}{N0:Nat}{H:T O}{n P:Nat}{r0:T V}{d k c K:Nat}{cp:Option Nat}(s:nM H n R m)(Ck:N0<=R)(hP:H.get P=some (.cells [.int .i64 k] 3 true))(hPl:P<n)(hc:aU m c)(hk:k<c)(hd:d<m.length)(iH:m.length<1000)(cM:c<1000)(Ir:1<=K)(hK:∀i,i≠d->∀q∈m[i]?.getD [],Qb K q)(hPq:∀q∈m[d]?.getD [],Qb (2*K) q)(hKl:3*K<=400000000)(Hw:ay N0 W0=[])(a4:r0.get 4=some (.slice R 0 m.length cp 1))(a6:r0.get 6=some (.int .i64 d))(a7:r0.get 7=some (.ptr P 0))(a71:r0.get 71=some (.int .i64 m.length))(a72:r0.get 72=some (.int .i64 0)):
  Code A.C none (.loop A.qE) ⟨r0,120,[]⟩ ⟨H,n,W0⟩ (fun e fr st=>e=.exit 2/\ay N0 st.w=[]/\dR (fun i=>i=R) H n st.h st.n/\nM st.h st.n R (de m d k m.length)/\∃r,Fx [(10,12),(72,104)] r0 120 ⟨r,120,[]⟩/\fr=⟨r,120,[]⟩):=by
 have hPR:¬P=R:=fun hc=>by obtain⟨us,g,_⟩:=s.ex;rw[hc,g]at hP;simp at hP
 rw[bu];refine b_ [(10,12),(72,104)] (fun e r st=>e=.exit 2/\ay N0 st.w=[]/\dR (fun i=>i=R) H n st.h st.n/\nM st.h st.n R (de m d k m.length)) (fun i r st=>ay N0 st.w=[]/\dR (fun i=>i=R) H n st.h st.n/\∃t,t<=m.length/\i=m.length-t/\r.get 72=some (.int .i64 t)/\nM st.h st.n R (de m d k t)) (m.length) ?_ ?_ ?_
 ·exact⟨Hw,dR.refl,0,by omega,by omega,a72,by rw[Xav];exact s⟩
 ·rintro i r ⟨H1,n1,W⟩ hr hf ⟨hW,k1,t,ht,rfl,R6,s1⟩;simp only at hW k1 s1;rw[bu];have MY:=(k1.get P hPl hPR).trans hP;have R7:=fg hPl k1.le;by_cases aE:t<m.length
  ·have bG:(t:Int)<(m.length:Int):=by omega
   have VH:(d:Int)<(m.length:Int):=by omega
   obtain⟨row,aA⟩:=bj aE;obtain⟨CA,wh⟩:=bj hd;have vo:=hc row (cy aA);have iD:=hc CA (cy wh);have w2:(de m d k t)[d]?=some CA:=by rw[Xau hd];exact wh
   have w1:(de m d k t)[t]?=some row:=by rw[HV aE,ak (by omega),aA];rfl
   obtain⟨us,u,g1,g2,g3,g4⟩:=s1.at w1;obtain⟨us',v,QY,_,g3',Wb⟩:=s1.at w2;rw[g1]at QY;simp only[au,O.cells.injEq,and_true]at QY;subst QY;obtain⟨q,hq⟩:=bj (l:=row) (k:=k) (by omega);obtain⟨i1,o1,c1,e1,x1,cs,q1,q2,q3,q4,q5⟩:=g4.1.at hq;obtain⟨z1,z2⟩:=q5.len;have Hh:=g4.1.len;have cK:(k:Int)<(row.length:Int):=by omega
   have kh:k<row.length:=by omega
   have hR:=s1.lt;have hRn:¬R=n1:=by omega
   have hPn:¬P=n1:=by omega
   have kJ:∀c:List V,(V.agg c).cells=c:=fun _=>rfl;have s0:=Xbb z1;have e4:=Xba z1;have lt1:n1<n1+1:=by omega
   have lR:R<n1+1:=by omega
   have kB:ab H1 n1 ((H1.set n1 (.cells [.int .i64 0,.aa,.int .i64 0,.aa] 96 true)).set n1 (.cells cs 96 true)) (n1+1):=(ab.refl.new _).set (aM _);have gN:((H1.set n1 (.cells [.int .i64 0,.aa,.int .i64 0,.aa] 96 true)).set n1 (.cells cs 96 true)).get n1=some (.cells cs 96 true):=by rw[T.ag,av rfl]
   by_cases e:t=d
   ·subst e;rw[<-Yn0]at s1;simp(disch:=first|(simp;done)|omega|rfl) [-V.cells, -V.one,A.qE,hr,hf,a4,a6,a7,a71,R6,bG,g1,g3,hR,q1,q2,q3,q4,Hh,MY,R7,bO,kJ,z1,z2,e4,lt1,hW];have xr:=k1.le;refine⟨m.length-(t+1),by omega,by omega,(k1.new _).set (.inr xr),t+1,by omega,rfl,by simp,s1.ad kB⟩
   have e':¬(t:Int)=(d:Int):=by omega
   simp[-V.cells, -V.one,A.qE,hr,a4,a6,a7,a71,R6,bG,g1,g3,hR,q1,q2,q3,q4,Hh,cK,MY,R7,bO,kJ,z1,z2,s0,e4,lt1,e'];have sB:=s1.ad kB;have gR:=(kB.get R hR).trans g1;have qB:=q5.ad kB;have rB:=g4.ad kB;have pB:=Wb.ad kB;have kU:dR (fun i=>i=R) H n ((H1.set n1 (.cells [.int .i64 0,.aa,.int .i64 0,.aa] 96 true)).set n1 (.cells cs 96 true)) (n1+1):=(k1.new _).set (.inr k1.le);generalize (H1.set n1 (.cells [.int .i64 0,.aa,.int .i64 0,.aa] 96 true)).set n1 (.cells cs 96 true)=G at*;refine ar (YI qB.fc) ?_;rintro _ H2 n2 k2 rfl;have kR:=k2.le;have R8:¬n1<N0:=by have:=s.lt;have:=k1.le;omega
   have Ai:=(k2.get R (by omega)).trans gR;have MW:=(k2.get n1 (by omega)).trans gN;have R9:R<n2:=by omega
   have lN2:n1<n2:=by omega
   have hqs:=@DX q;have hz:(dN q.num=0)↔q=0:=Ywv;by_cases c0:q=0
   ·have FK:=hz.2 c0;simp(disch:=first|(simp;done)|omega|rfl) [hf,R6,FK,R8,hW];refine⟨m.length-(t+1),by omega,kU.trans k2.upd,t+1,by omega,rfl,by simp,?_⟩;rw[Ybg aE e,aA,wh];simp only[il];rw[Yfj (by rw[hq];exact c0),Ylk w1];exact sB.ad k2
   have FK:¬dN q.num=0:=fun hc=>c0 (hz.1 hc);simp[hr,a4,a6,FK,Ai,g3,g3',bG,VH];have Kb:∀q∈row,Qb K q:=by have:=hK t e;rw[aA]at this;exact this
   have zE:∀q∈CA,Qb (2*K) q:=by have:=hPq;rw[wh]at this;exact this
   have mG:=Kb q (cy hq);refine ar (Zys (fun x y=>x-q*y) (rB.1.ad k2) (pB.1.ad k2) (by omega) (fun x hx y hy h' n' ca cb k' ha hb=>Yyc (i:=K) (j:=2*K) (k:=K) ((k'.get n1 lN2).trans MW) (fg lN2 k'.le) ha hb ((qB.ad k2).ad k') (Kb x hx) (zE y hy) mG (by omega) (by omega) (by omega) (by omega) (by omega)) (by omega)) ?_;rintro v3 H3 n3 k3 t3;have uZ:=k3.le;have s3:=(sB.ad k2).ad k3;have Wb:=(k3.get R R9).trans Ai;have CQ:t<us.length:=by rw[g2,CL];exact aE
   have Cw:t+1<=us.length:=CQ;have mC:(t:Int)<(us.length:Int):=by omega
   have gZ:∀u,ae us t [u]=us.set t u:=fun u=>SO CQ;have lR3:R<n3:=by omega
   obtain⟨_,hon,NY⟩:=t3.D3;simp(disch:=first|(simp;done)|omega|rfl) [-V.cells, -V.one,bO,NY,hon,gZ,Cw,Wb,hf,R6];have eQ:mF (fun x y=>x-q*y) row CA row.length=uI row CA k:=by unfold uI;rw[hq];rfl
   rw[eQ]at t3;have sp:=s3.FJ Wb t3 (i:=t) (by rw[CL];exact aE);refine⟨m.length-(t+1),by omega,by rw[ak (by omega),ak R8];exact hW,((kU.trans k2.upd).trans k3.upd).set (.inl rfl),t+1,by omega,rfl,by simp,?_⟩;rw[Ybg aE e,aA,wh];exact sp
  obtain rfl:t=m.length:=by omega
  simp[A.qE,hr,hf,a71,R6,k1,hW];exact s1
 rintro _ r st hr ⟨rfl,hw,k1,s1⟩;simp[];exact⟨hw,k1,s1,hr,rfl,rfl⟩
variable {N R:Nat} {h:T O} {m:List (List Rat)}
def Zz9{m:List (List Rat)}{k d:Nat}:∀{n j:Nat},(pG (fun i=>decide (((m.drop d)[i]?.getD [])[k]?.getD 0≠0)) j n= -1/\sY m k (d+j) n=d+j+n)\/∃a:Nat,pG (fun i=>decide (((m.drop d)[i]?.getD [])[k]?.getD 0≠0)) j n=a/\sY m k (d+j) n=d+a/\a<j+n
 |0,j=>.inl ⟨rfl,rfl⟩
 |n+1,j=>by
  unfold pG sY
  simp only[fJ]
  by_cases e:(m[d+j]?.getD [])[k]?.getD 0≠0
  ·rw[av e]
   exact .inr ⟨j,by simp[e],rfl,by omega⟩
  ·rw[ak e]
   simp only[e,decide_false,ix,if_false]
   have ih:=@Zz9 m k d n (j+1)
   simp only[fJ]at ih
   rcases ih with⟨h1,h2⟩|⟨a,h1,h2,h3⟩
   ·exact .inl ⟨h1,by rw[show d+j+1=d+(j+1) by omega,h2];omega⟩
   ·exact .inr ⟨a,h1,by rw[show d+j+1=d+(j+1) by omega,h2],by omega⟩
def rT(ps:List Nat):List Int:=ps.map fun p:Nat=>(p:Int)
def nM.cf{h':T O}{N':Nat}{v:V}{e:TypeId}(s:nM h N R m)(k:dR (fun i=>i∈dm v) h N h' N')(hd:n_ e NW h v)(he:e≠96)(xP:e≠82):nM h' N' R m:=by
 obtain⟨us,g1,g2,g3,g4,g5⟩:=s.ex;refine⟨fg s.lt k.le,us,(k.get R s.lt fun hc=>?_).trans g1,g2,g3,g4,fun j l hl=>?_⟩
 ·obtain⟨z,hz,_⟩:=hd R hc;rw[g1]at hz;simp at hz;exact xP hz.2.symm
 obtain⟨u,a1,a2⟩:=g5 j l hl;exact⟨u,a1,a2.cf k hd he⟩
def Ycr{W0:List Nat}{N0:Nat}{H:T O}{n:Nat}{r0:T V}{c:Nat}{B:Nat->Nat}(s:nM H n R m)(Ck:N0<=R)(hc:aU m c)(iH:m.length<1000)(iJ:0<m.length)(cM:c<1000)(Ir:∀n,1<=B n)(hK:∀k,bH (aD m k).1 (B (aD m k).2.1))(hB:∀n,n<m.length->n<c->3*B n<=400000000)(kH:ab h N0 H n)(Hw:ay N0 W0=[])(a4:r0.get 4=some (.slice R 0 m.length (some m.length) 1))(a5:r0.get 5=some .aa)(a6:r0.get 6=some (.int .i64 0))(a25:r0.get 25=some (.int .i64 c))(a26:r0.get 26=some (.int .i64 0)):
  Code A.C none (.loop A.ux) ⟨r0,120,[]⟩ ⟨H,n,W0⟩ (fun e fr st=>e=.exit 0/\ay N0 st.w=[]/\ab h N0 st.h st.n/\nM st.h st.n R (aD m c).1/\∃r v,Fx [(5,12),(26,115)] r0 120 ⟨r,120,[]⟩/\fr=⟨r,120,[]⟩/\r.get 6=some (.int .i64 (aD m c).2.1)/\r.get 5=some v/\sZ N0 st.h st.n v (rT (aD m c).2.2)):=by
 rw[bu];refine b_ [(5,12),(26,115)] (fun e r st=>e=.exit 0/\ay N0 st.w=[]/\ab h N0 st.h st.n/\nM st.h st.n R (aD m c).1/\∃v,r.get 6=some (.int .i64 (aD m c).2.1)/\r.get 5=some v/\sZ N0 st.h st.n v (rT (aD m c).2.2)) (fun i r st=>ay N0 st.w=[]/\ab h N0 st.h st.n/\∃k v,k<=c/\i=c-k/\r.get 26=some (.int .i64 k)/\r.get 6=some (.int .i64 (aD m k).2.1)/\r.get 5=some v/\sZ N0 st.h st.n v (rT (aD m k).2.2)/\(aD m k).2.1<m.length/\nM st.h st.n R (aD m k).1) c ?_ ?_ ?_
 ·exact⟨Hw,kH,0,_,by omega,by omega,a26,a6,a5,sZ.nil,iJ,s⟩
 ·rintro i r ⟨H1,n1,W⟩ hr hf ⟨hW,k1,k,pv,hk,rfl,Wc,h6,h5,hO,FD,s1⟩;simp only at hW k1 s1 hO;rw[bu];have hlen:(aD m k).1.length=m.length:=yG;obtain⟨Tt,kK⟩:=@pH m c hc k;by_cases aE:k<c
  ·have bG:(k:Int)<(c:Int):=by omega
   obtain⟨us,g1,g2,g3,g4,g5⟩:=id s1.ex;have hR:=s1.lt;have kA:ab H1 n1 ((H1.set n1 (.cells [.int .i64 0] 3 true)).set n1 (.cells [.int .i64 k] 3 true)) (n1+1):=(ab.refl.new _).set (aM _);have gP:((H1.set n1 (.cells [.int .i64 0] 3 true)).set n1 (.cells [.int .i64 k] 3 true)).get n1=some (.cells [.int .i64 k] 3 true):=by rw[T.ag,av rfl]
   have sA:=s1.ad kA;have gA:=(kA.get R hR).trans g1;have oA:=hO.ad kA;have kU:=k1.trans kA;simp[A.ux,hr,a4,h6,a25,Wc,bG,bO,ae];generalize (H1.set n1 (.cells [.int .i64 0] 3 true)).set n1 (.cells [.int .i64 k] 3 true)=G at*;have hs:Sl G (n1+1) (.slice R 0 m.length (some m.length) 1) us:=Sl.row (by omega) gA (by omega) fun k hk=>by simp at hk;omega
   obtain⟨sv,e1,e2⟩:=MF (w:=n1::W) hs (lo:=(aD m k).2.1) (hi:=us.length) (by omega) (aM _) (some (.int .i64 (aD m k).2.1)) none (.inl rfl) (.inr ⟨rfl,rfl⟩);rw[fU (aM _)]at e2;simp[F7,e1];have ET:fh (aD m k).1 (aD m k).2.1 k=m.length->aD m (k+1)=aD m k:=fun hp=>by rw[wV];unfold iF;rw[ak (by omega)]
   have jG:fh (aD m k).1 (aD m k).2.1 k<m.length->aD m (k+1)=(de (gJ (cA (aD m k).1 (aD m k).2.1 (fh (aD m k).1 (aD m k).2.1 k)) (aD m k).2.1 k) (aD m k).2.1 k (aD m k).1.length,(aD m k).2.1+1,(aD m k).2.2++[k]):=fun hp=>by rw[wV];unfold iF;rw[av (by omega)]
   have zbD:=@YM m k;have Oh:=@Yi7 m k;have hqM:bH (aD m k).1 (B (aD m k).2.1):=hK _;have zaZ:=@Nm m (k+1);generalize hd:(aD m k).2.1=d at*;generalize rC:(aD m k).1=m1 at*;generalize pP:(aD m k).2.2=ps at*;have MY:n1<n1+1:=by omega
   have za0:(us.drop d).length=m1.length-d:=by rw[yO,g2]
   refine ar (Yud (us.drop d) (fun i:Nat=>decide (((m1.drop d)[i]?.getD [])[k]?.getD 0≠0)) e2 (by omega) fun j x hx h' n' iE=>?_) ?_
   ·have kL:us[d+j]?=some x:=by rw[<-fJ];exact hx
    obtain⟨row,aA⟩:=bj (l:=m1) (k:=d+j) (by have:=gI kL;omega);obtain⟨y,b1,b2⟩:=g5 _ _ aA;rw[kL]at b1;simp only[au]at b1;subst b1;have:=Yye (k:=k) ((iE.get n1 MY).trans gP) (fg MY iE.le) ((b2.ad kA).ad iE).1 (by rw[Tt row (cy aA)];exact aE);simp only[fJ,aA,il];exact this
   rintro _ H2 n2 k2 rfl;rw[za0];have kR:=k2.le;have Wd:=(k2.get n1 MY).trans gP;have s2:=sA.ad k2;have o2:=oA.ad k2;have Ai:=(k2.get R (by omega)).trans gA;have kU2:=kU.trans k2;have R8:¬n1<N0:=by have:=k1.le;omega
   have R9:R<n2:=by omega
   rcases @Zz9 m1 k d (m1.length-d) 0 with⟨f1,f2⟩|⟨a,f1,f2,f3⟩
   ·rw[f1];have GX:fh m1 d k=m.length:=by unfold fh;have:=f2;rw[gE]at this;omega
    simp(disch:=first|(simp;done)|omega|rfl) [hf,h5,h6,Wc,R8,hW];refine⟨c-(k+1),by omega,kU2,k+1,by omega,rfl,by simp,?_,?_⟩
    ·rw[ET GX];simp[hd]
    rw[ET GX,rC,pP,hd];exact⟨o2,FD,s2⟩
   rw[f1];rw[gE]at f2;obtain⟨p,hp⟩:∃p,p=d+a:=⟨_,rfl⟩;have A4:fh m1 d k=p:=by unfold fh;omega
   have hda:(d:Int)+(a:Int)=(p:Int):=by omega
   have iD:p<m1.length:=by omega
   have ew:d<m1.length:=by omega
   obtain⟨rd,HE⟩:=bj ew;obtain⟨rp,MZ⟩:=bj iD;obtain⟨ud,x3,x4⟩:=g5 _ _ HE;obtain⟨up,y3,y4⟩:=g5 _ _ MZ;have Z7:d<us.length:=by omega
   have hpu:p<us.length:=by omega
   have VH:(d:Int)<(m.length:Int):=by omega
   have U5:(p:Int)<(m.length:Int):=by omega
   have za1:d<m.length:=by omega
   have S8:p<m.length:=by omega
   have za2:¬(a:Int)<0:=by omega
   have z1:∀u,ae us d [u]=us.set d u:=fun u=>SO Z7;have z2:∀u,ae (us.set d up) p [u]=(us.set d up).set p u:=fun u=>SO (by simp;exact hpu);obtain⟨_,c1,o1⟩:=x4.D3;obtain⟨_,c2,Vn⟩:=y4.D3;have l1:d+1<=us.length:=Z7;have l2:p+1<=us.length:=hpu;simp(disch:=first|(simp;done)|omega|rfl) [-getElem?_pos, -V.cells, -V.one,hr,a4,h6,hda,za2,Ai,x3,y3,R9,bO,c1,o1,c2,Vn,z1,z2,l1,l2];have U2:dR (fun i=>i=R) H2 n2 ((H2.set R (.cells (us.set d up) 82 true)).set R (.cells ((us.set d up).set p ud) 82 true)) n2:=⟨aM _,fun i _ hi=>by rw[T.ag,ak hi,T.ag,ak hi]⟩;have RX:(H2.set R (.cells (us.set d up) 82 true)).get R=some (.cells (us.set d up) 82 true):=by rw[T.ag,av rfl]
   have KS:=(x4.ad kA).ad k2;have hy4:=(y4.ad kA).ad k2;have sA1:=s2.FJ Ai hy4 ew;have sB:=sA1.FJ RX (KS.bo Ai (by decide) g3 (by simp)) (i:=p) (by rw[A3];exact iD);have gB:((H2.set R (.cells (us.set d up) 82 true)).set R (.cells ((us.set d up).set p ud) 82 true)).get R=some (.cells ((us.set d up).set p ud) 82 true):=by rw[T.ag,av rfl]
   have D5:(m1.set d rp).set p rd=cA m1 d p:=by unfold cA;rw[HE,MZ];rfl
   rw[D5]at sB;have CQ:((us.set d up).set p ud).length=m1.length:=by simp only[A3];omega
   generalize (H2.set R (.cells (us.set d up) 82 true)).set R (.cells ((us.set d up).set p ud) 82 true)=G2 at*;generalize (us.set d up).set p ud=vs at*;have gPB:=(U2.get n1 (by omega) (by omega)).trans Wd;have oB:=o2.wX Ai (fun z hz=>by simp at hz) U2;have JX:=hqM.D4 (d:=d) (p:=p);have hrB:=Tt.D4 ew iD;have hlB:(cA m1 d p).length=m1.length:=qJ;have aZ:=@HU m1 k (m1.length-d) d (by unfold fh at A4;omega);have aA:(cA m1 d p)[d]?=some rp:=by
    rw[<-D5];by_cases e:p=d
    ·rw[e,HE]at MZ;simp only[au]at MZ;rw[e,MZ,jW (by simp;omega)]
    rw[eW e,jW ew]
   have KT:rp[k]?.getD 0≠0:=by have h9:=A4;unfold fh at h9;rw[h9,MZ]at aZ;exact aZ
   obtain⟨nG,vd,b1,b2,b3,b4⟩:=sB.at aA;rw[gB]at b1;simp only[au,O.cells.injEq,and_true]at b1;subst b1;have zce:=hrB rp (cy aA);obtain⟨q,hq⟩:=bj (l:=rp) (k:=k) (by omega);have Kb:=JX rp (cy aA);have mG:=Kb q (cy hq);have xW:q≠0:=by rw[hq]at KT;exact KT
   have hkq:=hB d za1 (by omega);obtain⟨i1,t1,w1,e3,v1,cs,q1,q2,q3,q4,q5⟩:=b4.1.at hq;obtain⟨r1,r2⟩:=q5.len;have rn:=b4.1.len;have cK:(k:Int)<(rp.length:Int):=by omega
   have kh:k<rp.length:=by omega
   have kJ:∀c:List V,(V.agg c).cells=c:=fun _=>rfl;have s0:=Xbb r1;have e4:=Xba r1;have We:n2<n2+1:=by omega
   have za3:¬R=n2:=by omega
   have lP2:n1<n2:=by omega
   have zcf:¬n1=n2:=by omega
   simp(disch:=first|(simp;done)|omega|rfl) [-getElem?_pos, -V.cells, -V.one,hr,a4,h6,b3,gB,gPB,lP2,R9,q1,q2,q3,q4,rn,bO,kJ,r1,r2,e4,We,za3];have kC:ab G2 n2 ((G2.set n2 (.cells [.int .i64 0,.aa,.int .i64 0,.aa] 96 true)).set n2 (.cells cs 96 true)) (n2+1):=(ab.refl.new _).set (aM _);have gQ:((G2.set n2 (.cells [.int .i64 0,.aa,.int .i64 0,.aa] 96 true)).set n2 (.cells cs 96 true)).get n2=some (.cells cs 96 true):=by rw[T.ag,av rfl]
   generalize (G2.set n2 (.cells [.int .i64 0,.aa,.int .i64 0,.aa] 96 true)).set n2 (.cells cs 96 true)=G3 at*;refine ar (Ytn (fun x=>x/q) (b4.ad kC).1 (by omega) fun x hx c' h' n' k' nF=>Yyd (j:=B d) (k:=B d) ((k'.get n2 We).trans gQ) (fg We k'.le) nF ((q5.ad kC).ad k') xW (Kb x hx) mG (by omega) (by omega)) ?_;rintro v3 H3 n3 k3 t3;have uZ:=k3.le;have gR3:=(k3.get R (by omega)).trans ((kC.get R R9).trans gB);have sC:=((sB.ad kC).ad k3).FJ gR3 t3 (i:=d) (by rw[hlB];exact ew);have FW:(cA m1 d p).set d (rp.map fun x=>x/q)=gJ (cA m1 d p) d k:=by unfold gJ;rw[aA];simp only[il,hq]
   rw[FW]at sC;have hmC:(gJ (cA m1 d p) d k).length=m.length:=by rw[CM,qJ];exact hlen
   have Ch:d<vs.length:=by omega
   have za4:d+1<=vs.length:=Ch;have z3:∀u,ae vs d [u]=vs.set d u:=fun u=>SO Ch;have lR3:R<n3:=by omega
   have lRp:R<n2+1:=by omega
   obtain⟨_,c3,o3⟩:=t3.D3;simp(disch:=first|(simp;done)|omega|rfl) [-V.cells, -V.one,hr,a4,gR3,bO,c3,o3,z3,za4];have U3:dR (fun i=>i=R) H2 n2 (H3.set R (.cells (vs.set d v3) 82 true)) n3:=((U2.trans kC.upd).trans k3.upd).set (.inl rfl);have gPC:=(U3.get n1 (by omega) (by omega)).trans Wd;have gRC:(H3.set R (.cells (vs.set d v3) 82 true)).get R=some (.cells (vs.set d v3) 82 true):=by rw[T.ag,av rfl]
   generalize H3.set R (.cells (vs.set d v3) 82 true)=G4 at*;refine mO (Yl5 (cp:=some m.length) (N0:=N0) (P:=n1) (d:=d) (K:=B d) sC Ck gPC (by omega) (hrB.K6 (by omega)) aE (by omega) (by omega) (by omega) (Ir _) (fun i hi=>by
    unfold gJ
    rw[eW (Ne.symm hi)]
    exact JX.at) (by
    unfold gJ
    rw[jW (by omega)]
    exact Ypl JX (Ir _) (by rw[aA];exact KT)) (by omega) (by simp[wz.2 Ck,R8,hW,show ¬n2<N0 by omega]) (by simp[hr,a4,hmC]) (by simp[h6]) (by simp) (by simp[hmC]) (by simp)) ?_;rintro _ _ ⟨H4,n4,W4⟩ ⟨rfl,hw4,U4,s4,r4,f4,rfl⟩;simp only at hw4 U4 s4;have uX:=f4.gw;have Wf:=hf.inner (D':=[(10,12),(72,104)]) (by decide) (fun hx=>by simpa[Fx.set]using hx) uX;have zS:=U4.le;have gP4:=(U4.get n1 (by omega) (by omega)).trans gPC;have o4:=(o2.wX Ai (fun z hz=>by simp at hz) U3).wX gRC (fun z hz=>by simp at hz) U4;have lP4:n1<n4:=by omega
   have vf:ae [V.int .i64 0] 0 [V.int .i64 k]=[V.int .i64 k]:=rfl;simp[uX,h5,gP4,vf];have kD:ab H4 n4 (H4.set n4 (.cells [.int .i64 k] 3 true)) (n4+1):=ab.refl.new _;obtain⟨v',h',w',j1,j2,j3,j4,j5,j6⟩:=sZ.push (B:=N0) (x:=.slice n4 0 1 (some 1) 1) (k:=k) (w:=W4) (o4.ad kD) (aM _) (by omega) hw4 (by simp[fQ,St.row,aP]) (by simp[rT];omega);have s5:=(s4.ad kD).cf j3 j4 (by decide) (by decide);have kF:ab h N0 h' (n4+1+1):=⟨by have:=kU2.le;omega,fun i hi=>by rw[j3.get i (by omega) (fun hc=>by have:=j5 i hc;omega),T.ag,ak (by omega),U4.get i (by omega) (by omega),U3.get i (by omega) (by omega)];exact kU2.get i hi⟩;have fj:=jG (by omega);rw[A4]at fj;rw[hmC,<-hlen]at s5;have hpi:rT (ps++[k])=rT ps++[(k:Int)]:=by simp[rT]
   by_cases hE:d+1=m.length
   ·have hE':(d:Int)+1=(m.length:Int):=by omega
    have hcf:aD m c=aD m (k+1):=by have:=zaZ (n:=c-(k+1)) (by rw[fj];exact hE);rw[<-this,show k+1+(c-(k+1))=c by omega]
    simp(disch:=first|(simp;done)|omega|rfl) [j1,uX,Wf,hr,a4,h6,hE',j2,kF];rw[hcf,fj,hpi];exact⟨s5,hE.symm,j6⟩
   have hE':¬(d:Int)+1=(m.length:Int):=by omega
   simp(disch:=first|(simp;done)|omega|rfl) [j1,uX,Wf,hr,a4,h6,Wc,hE',j2,kF];refine⟨c-(k+1),by omega,k+1,by omega,rfl,by simp,?_⟩;rw[fj,hpi];exact⟨by simp,j6,by show d+1<m.length;omega,s5⟩
  obtain rfl:k=c:=by omega
  simp[A.ux,hr,hf,h5,h6,a25,Wc,k1,hW];exact⟨s1,hO⟩
 rintro _ r st hr ⟨rfl,hw,k1,s1,v,h6,h5,hO⟩;simp[];exact⟨hw,k1,s1,r,⟨hr,rfl,rfl⟩,rfl,h6,v,h5,hO⟩
def nM.Ax{d:Nat}{v:V}{us:List V}(s:nM h N R m)(g:h.get R=some (.cells us 82 true))(hv:Sl h N v (us.take d))(hd:d<=m.length):fN h N v (m.take d):=by
 obtain⟨vs,g1,g2,_,_,g3⟩:=s.ex;rw[g]at g1;simp only[au,O.cells.injEq,and_true]at g1;subst g1;refine⟨us.take d,hv,by simp[g2],fun j l hl=>?_⟩;by_cases hj:j<d
 ·rw[jZ,av hj]at hl ⊢;exact g3 j l hl
 rw[jZ,ak hj]at hl;cases hl
def NI{u:V}{c:Nat}{B:Nat->Nat}(hu:fN h N u m)(hc:aU m c)(iH:m.length<1000)(iJ:0<m.length)(cM:c<1000)(Ir:∀n,1<=B n)(hK:∀k,bH (aD m k).1 (B (aD m k).2.1))(hB:∀n,n<m.length->n<c->3*B n<=400000000):Fn A.C 85 [u] h N (fun x h' n'=>∃a b,x=.aX [a,b]/\fN h' n' a (aK m c)/\sZ N h' n' b (rT (aD m c).2.2)):=by
 intro w;have lu:=hu.len;obtain⟨us,h1,h2,h3⟩:=hu;have g_:=h1;rcases h1 with⟨hn,_⟩|⟨i,o,cp,c',e,rj,rfl,q2,q3,q4,q5,q6⟩
 ·rw[hn]at h2;simp at h2;omega
 have aZ:¬i=N:=by omega
 have Mk:(h.set N (.cells (cW [.aa] m.length) 82 true)).get i=some (.cells c' e rj):=by rw[T.ag,ak aZ];exact q3
 have gz:(h.set N (.cells (cW [.aa] m.length) 82 true)).get N=some (.cells (cW [.aa] m.length) 82 true):=by simp
 have Ec:=Ywt (N:=N+1) (w:=[]) (cp:=cp) Mk q4 q5;rw[h2]at Ec;have cpy:=Yeg (cp:=some m.length) iJ Ec h2 gz (by rw[Yev];simp);have kB:ab h N ((h.set N (.cells (cW [.aa] m.length) 82 true)).set N (.cells us 82 true)) (N+1):=(ab.refl.new _).set (aM _);have gN:((h.set N (.cells (cW [.aa] m.length) 82 true)).set N (.cells us 82 true)).get N=some (.cells us 82 true):=by rw[T.ag,av rfl]
 have sR:nM ((h.set N (.cells (cW [.aa] m.length) 82 true)).set N (.cells us 82 true)) (N+1) N m:=⟨by omega,us,gN,h2,?nu,?one,fun j l hl=>by obtain⟨x,a1,a2⟩:=h3 j l hl;exact⟨x,a1,a2.ad kB⟩⟩;case nu=>
  intro x hx
  obtain⟨j,hj⟩:=pK hx
  obtain⟨l,hl⟩:=bj (l:=m) (k:=j) (by have:=gI hj;omega)
  obtain⟨y,a1,a2⟩:=h3 j l hl
  rw[hj]at a1
  simp only[au]at a1
  subst a1
  exact a2.D3.1
 case one=>
  rw[iK]
  intro x hx
  obtain⟨j,hj⟩:=pK hx
  obtain⟨l,hl⟩:=bj (l:=m) (k:=j) (by have:=gI hj;omega)
  obtain⟨y,a1,a2⟩:=h3 j l hl
  rw[hj]at a1
  simp only[au]at a1
  subst a1
  exact a2.D3.2.1
 rw[h2]at g_;obtain⟨l0,cB⟩:=bj iJ;obtain⟨x0,b1,b2⟩:=h3 0 l0 cB;obtain⟨i2,o2,YG,e2,Nc,p1,p2,p3,p4⟩:=(g_.ad kB).at b1;rw[gE]at p4;have b3:=b2.1.len;rw[hc l0 (cy cB)]at b3;have hmn:¬m=[]:=fun hc=>by rw[hc]at iJ;simp at iJ
 have UY:(24:Int)*(m.length:Int)<=140737488355328:=by omega
 have cc3:(m.length:Int)<4611686018427387904:=by omega
 rw[h2]at lu;rw[aQ,A.k85 (by simp)];simp[A.b85,h2,iJ,UY,cc3,cpy,hmn,p1,p3,p4,b3];generalize (h.set N (.cells (cW [.aa] m.length) 82 true)).set N (.cells us 82 true)=G at*;refine mO (Ycr (N0:=N) (h:=h) sR (aM _) hc iH iJ cM Ir hK hB kB (by simp) (by simp) (by simp) (by simp) (by simp) (by simp)) ?_;rintro _ _ ⟨H4,n4,W4⟩ ⟨rfl,hw,k4,s4,r4,pv,f4,rfl,x6,x5,oI⟩;simp only at hw k4 s4 oI;have uX:=f4.gw;obtain⟨vs,g1,g2,_⟩:=id s4.ex;have hl4:(aD m c).1.length=m.length:=yG;have kK:=(@pH m c hc c).2;have hs:Sl H4 n4 (.slice N 0 m.length (some m.length) 1) vs:=Sl.row s4.lt g1 (by omega) fun k hk=>by simp at hk;omega
 obtain⟨v',e1,e2⟩:=MF (w:=W4) hs (lo:=0) (hi:=(aD m c).2.1) (by omega) (by omega) none (some (.int .i64 (aD m c).2.1)) (.inr ⟨rfl,rfl⟩) (.inl rfl);rw[BB]at e2;simp[F7,uX,x6,x5,e1,az,hw];exact⟨k4,v',pv,⟨rfl,rfl⟩,s4.Ax g1 e2 (by omega),oI⟩
variable {K i k n:Nat} {m:List (List Rat)} {ps:List Nat}
def Ak(m:List (List Rat))(ps:List Nat)(n k:Nat)(p:Nat->Bool):List Rat:=(List.range n).map fun j=>if j=k then 1 else if p j=true then -al m (ps.idxOf j) k else 0
def Sb{p:Nat->Bool}:(Ak m ps n k p).length=n:=by simp[Ak]
def Ytw:Ak m ps n k (fun j=>decide (j∈ps))=At m ps n k:=by
 unfold Ak At;apply Aq;intro j _;by_cases e:j=k
 ·rw[av e,av e]
 rw[ak e,ak e];by_cases h:j∈ps<;>simp[h]
def Ytv{a:Nat}{p q:Nat->Bool}(ha:a<n)(hk:a≠k)(h:∀j,j<n->q j=(p j||decide (j=a))):Ak m ps n k q=(Ak m ps n k p).set a (-al m (ps.idxOf a) k):=by
 apply nN;intro j;by_cases hj:j<n
 ·by_cases e:j=a
  ·subst e;rw[jW (by rw[Sb];exact hj)];unfold Ak;simp[hj,hk,h j hj]
  rw[eW (Ne.symm e)];unfold Ak;simp[hj,h j hj,e]
 rw[fy (by rw[Sb];omega),fy (by rw[A3,Sb];omega)]
def Ztl{t p:Nat}(h:ps[t]?=some p){j:Nat}:decide (j∈ps.take (t+1))=(decide (j∈ps.take t)||decide (j=p)):=by rw[C1,h];simp
def Ygm(h:i<(aD m n).2.1):(aK m n)[i]?=(aD m n).1[i]?:=by unfold aK;rw[jZ,av h]
def Lc{j:Nat}(h:i<(aD m n).2.1):al (aK m n) i j=al (aD m n).1 i j:=by unfold al;rw[Ygm h]
def xg{c:Nat}(h:aU m c):aU (aK m n) c:=fun r hr=>(@pH m c h n).1 r (wy hr)
def Ygk(h:bH m K)(hK:1<=K):bH (aK m n) (kB K (aD m n).2.1):=fun r hr=>(@SQ m K h hK n) r (wy hr)
def Yse:aK [] n=[]:=by have h:(aD [] n).1.length=0:=yG;unfold aK;rw[List.length_eq_zero_iff.1 h,List.take_nil]
def Wg(l:List Rat):Nat->Nat->Nat
 |k,0=>k
 |k,n+1=>if l[k]?.getD 0≠0 then k else Wg l (k+1) n
def Yqb{l:List Rat}{p:Nat}:∀{n k:Nat},k<=p->p<k+n->l[p]?.getD 0≠0->(∀j,k<=j->j<p->l[j]?.getD 0=0)->Wg l k n=p
 |0,k,h1,h2,_,_=>by omega
 |n+1,k,h1,h2,h3,h4=>by
  unfold Wg
  by_cases e:k=p
  ·subst e;rw[av h3]
  ·rw[ak (fun hc=>hc (h4 k (aM _) (by omega)))]
   exact Yqb (by omega) (by omega) h3 fun j a b=>h4 j (by omega) b
def Ysd{c:Nat}{row:List Rat}(hc:aU m c)(hi:(aK m c)[i]?=some row):∃p,(aD m c).2.2[i]?=some p/\p<c/\Wg row 0 row.length=p/\(aD m c).2.2.idxOf p=i:=by
 have I:=@mU m c hc c;have DH:i<(aD m c).2.1:=by have:=gI hi;rw[nO hc]at this;exact this
 rw[Ygm DH]at hi;obtain⟨p,hp⟩:=bj (l:=(aD m c).2.2) (k:=i) (by rw[I.len];exact DH);have hx:=I.idx DH;have hl:=I.lt i DH;have ho:=I.one i i DH (by have:=I.le;omega);have hz:=fun k=>I.lead i k DH;rw[hp]at hx hl ho hz;simp only[il,if_true]at hx hl ho hz;unfold al at ho hz;rw[hi]at ho hz;simp only[il]at ho hz;have hr:=(@pH m c hc c).1 row (cy hi);refine⟨p,hp,hl,Yqb (wx _) (by omega) (by rw[ho];decide) fun j _ hj=>hz j hj,hx⟩
def Yix:iw ps (k+1)=iw ps k++if ps.contains k=true then [] else [k]:=by unfold iw;rw[List.range_succ,List.filter_append];congr 1;rw[List.filter_cons];cases hc:ps.contains k<;>rfl
def zO:aU (eE m n) n:=fun r hr=>by
 unfold eE at hr
 obtain⟨k,_,rfl⟩:=bK.1 hr
 simp[At]
def F0(hc:aU m n):(eE m n).length+(aD m n).2.1=n:=by have I:=@mU m n hc n;have:=@Ij n (aD m n).2.2 (fun i hi=>I.lt i (by rw[<-I.len];exact hi)) (fun i j h1 h2=>I.xc i j h1 (by rw[<-I.len];exact h2));rw[I.len]at this;unfold eE;rw[di];exact this
def Ygu{q:Rat}(h:Qb K q):Qb K (-q):=⟨by rw[Rat.neg_num,yE];exact h.1,by rw[Rat.neg_den];exact h.2⟩
def Yp4(h:bH m K)(hK:1<=K):bH (eE m n) (kB K (aD m n).2.1):=fun r hr q hq=>by
 have hB:1<=kB K (aD m n).2.1:=HZ hK
 have h2:(1:Nat)<2^kB K (aD m n).2.1:=Nat.one_lt_two_pow (by omega)
 unfold eE at hr
 obtain⟨k,_,rfl⟩:=bK.1 hr
 unfold At at hq
 obtain⟨j,_,rfl⟩:=bK.1 hq
 split
 ·exact⟨h2,h2⟩
 ·split
  ·unfold al
   exact Ygu (mS (fun q hq=>(Ygk h hK).at q hq) hB k)
  ·exact⟨by show 0<_;omega,h2⟩
def NL:aU (bS m n) n:=xg zO
def Yt2(hc:aU m n)(hn:n<=6):(∀t,t<(eE m n).length->t<n->3*kB (kB 96 (aD m n).2.1) t<=400000000):=fun t h1 h2=>by
 have:=F0 hc
 rw[YK]
 exact YL (by omega)
def Yt3(hc:aU m n)(hn:n<=6)(h:bH m 96):bH (bS m n) 400000000:=by
 have h1:=Ygk (n:=n) (Yp4 (n:=n) h (by decide)) (HZ (by decide));refine h1.mono ?_;rw[YK];have h2:=F0 hc;have h3:=nO (n:=n) (zO (m:=m) (n:=n));have h4:(aK (eE m n) n).length<=(eE m n).length:=by unfold aK;rw[ik,yG];omega
 exact Yp5 (by omega)
def Ysf(hm:m.length<=6)(hc:aU m n)(h:bH m 96):bH (aK m n) 400000000:=by refine(Ygk (n:=n) h (by decide)).mono ?_;have:=(@pH m n hc n).2;exact Yp5 (by omega)
def Ysm:(rT ps).contains (k:Int)=ps.contains k:=by rw[Bool.eq_iff_iff];simp[rT]
end
end Go.Mx
