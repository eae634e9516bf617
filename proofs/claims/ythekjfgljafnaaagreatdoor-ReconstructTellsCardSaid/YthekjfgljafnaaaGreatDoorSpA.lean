/-The echelon form of a matrix-/
import Derived.Test.YthekjfgljafnaaaGreatDoorEcB
set_option linter.all false
namespace Go.Mx
open Go Go.Proofs
variable {d i j k:Nat} {m:List (List Rat)}
set_option maxRecDepth 1000000
def atQ(m:List (List Rat))(i j:Nat):Rat:=(m[i]?.getD [])[j]?.getD 0
def Zos{p:Nat}(hd:d<m.length)(hp:p<m.length):atQ (Zb6 m d p) i j=if i=d then atQ m p j else if i=p then atQ m d j else atQ m i j:=by
 unfold atQ Zb6
 by_cases e1:i=p
 ·subst e1
  rw[Ywh (by simp;exact hp)]
  by_cases e2:i=d
  ·subst e2;simp
  ·simp[e2]
 ·rw[Ywb (Ne.symm e1)]
  by_cases e2:i=d
  ·subst e2;rw[Ywh hd];simp
  ·rw[Ywb (Ne.symm e2)];simp[e1,e2]
def Zx3(hd:d<m.length):atQ (Zhg m d k) i j=if i=d then atQ m d j/atQ m d k else atQ m i j:=by
 unfold atQ Zhg
 by_cases e:i=d
 ·subst e
  rw[Ywh hd,Yv6 rfl,Yxg,Ywj]
  cases (m[i]?.getD [])[j]? with
  |none=>simp[Rat.div_def,Rat.zero_mul]
  |some q=>rfl
 ·rw[Ywb (Ne.symm e),Yv4 e]
def Zx4{c:Nat}(h:RcN m c)(hi:i<m.length)(hd:d<m.length):atQ (elmQ m d k m.length) i j=if i=d then atQ m i j else atQ m i j-atQ m i k*atQ m d j:=by
 unfold atQ
 rw[Zje hi,Yxg]
 by_cases e:i=d
 ·rw[Yv4 (by omega),Yv6 e]
 ·rw[Yv6 ⟨hi,e⟩,Yv4 e]
  have l1:=h.at hi
  have l2:=h.at hd
  by_cases hj:j<c
  ·unfold Zye
   rw[Zqc (by omega)]
   rfl
  ·rw[Ywd (by rw[Zv8];omega),Ywd (l:=m[i]?.getD []) (by omega),Ywd (l:=m[d]?.getD []) (by omega)]
   show (0:Rat)=0-(m[i]?.getD [])[k]?.getD 0*0
   rw[Rat.mul_zero,Rat.sub_self]
def Yj4{m:List (List Rat)}{k:Nat}:∀{n d:Nat},d+n≤pvF m k d n→∀i,d≤i→i<d+n→atQ m i k=0
 |0,d,h,i,h1,h2=>by omega
 |n+1,d,h,i,h1,h2=>by
  unfold pvF at h
  split at h
  ·omega
  ·rename_i hc
   by_cases e:i=d
   ·subst e;unfold atQ;simpa using hc
   ·exact Yj4 (n:=n) (d:=d+1) (by omega) i (by omega) (by omega)
structure EcI (m:List (List Rat)) (d:Nat) (ps:List Nat) (n:Nat):Prop where
 len:ps.length=d
 le:d≤m.length
 lt:∀i,i<d→ps[i]?.getD 0<n
 asc:∀i j,i<j→j<d→ps[i]?.getD 0<ps[j]?.getD 0
 one:∀i j,i<d→j<m.length→atQ m j (ps[i]?.getD 0)=if j=i then 1 else 0
 lead:∀i k,i<d→k<ps[i]?.getD 0→atQ m i k=0
 rest:∀i k,d≤i→i<m.length→k<n→atQ m i k=0
def EcI.step{s:List (List Rat)×Nat×List Nat}{n c:Nat}(h:EcI s.1 s.2.1 s.2.2 n)(hc:RcN s.1 c):EcI (Zjp s n).1 (Zjp s n).2.1 (Zjp s n).2.2 (n+1):=by
 obtain⟨m,d,ps⟩:=s
 simp only at h hc
 unfold Zjp
 simp only
 have hle:=@Zng m n (m.length-d) d
 have hdl:=h.le
 split
 ·rename_i hp
  have hd2:d<m.length:=by unfold pvQ at hp;omega
  have hpd:d≤pvQ m d n:=hle.1
  have hne:atQ m (pvQ m d n) n≠0:=@Znf m n (m.length-d) d (by unfold pvQ at hp;omega)
  generalize pvQ m d n=p at*
  have hcs:=(hc.swp hd2 hp).scl (d:=d) (k:=n) (by rw[Zcf];exact hd2)
  have hlen:(elmQ (Zhg (Zb6 m d p) d n) d n m.length).length=m.length:=by rw[Zfx,Zgq,Zcf]
  have hl2:(Zhg (Zb6 m d p) d n).length=m.length:=by rw[Zgq,Zcf]
  have hb:∀i j,atQ (Zb6 m d p) i j=if i=d then atQ m p j else if i=p then atQ m d j else atQ m i j:=fun i j=>Zos hd2 hp
  have hs:∀i j,atQ (Zhg (Zb6 m d p) d n) i j=if i=d then atQ m p j/atQ m p n else atQ (Zb6 m d p) i j:=fun i j=>by
   rw[Zx3 (by rw[Zcf];exact hd2),hb d j,hb d n,Yv6 rfl,Yv6 rfl]
  have he:∀i j,i<m.length→atQ (elmQ (Zhg (Zb6 m d p) d n) d n m.length) i j=if i=d then atQ m p j/atQ m p n else atQ (Zb6 m d p) i j-atQ (Zb6 m d p) i n*(atQ m p j/atQ m p n):=fun i j hi=>by
   have:=Zx4 (m:=Zhg (Zb6 m d p) d n) (k:=n) (j:=j) hcs (i:=i) (d:=d) (by rw[hl2];exact hi) (by rw[hl2];exact hd2)
   rw[hl2]at this
   rw[this,hs i j,hs i n,hs d j,Yv6 rfl]
   split<;>rfl
  have hq1:atQ m p n/atQ m p n=1:=by rw[Rat.div_def];exact Rat.mul_inv_cancel _ hne
  have hlow:∀i j,i<d→atQ (Zb6 m d p) i j=atQ m i j:=fun i j hi=>by rw[hb,Yv4 (by omega),Yv4 (by omega)]
  have hhi:∀i k,d≤i→i<m.length→k<n→atQ (Zb6 m d p) i k=0:=fun i k h1 h2 h3=>by
   rw[hb]
   split
   ·exact h.rest p k hpd hp h3
   ·split
    ·exact h.rest d k (Yv5 _) hd2 h3
    ·exact h.rest i k h1 h2 h3
  have hp0:∀k,k<n→atQ m p k/atQ m p n=0:=fun k hk=>by rw[h.rest p k hpd hp hk,Rat.div_def,Rat.zero_mul]
  have hold:∀i k,i<m.length→k<n→atQ (elmQ (Zhg (Zb6 m d p) d n) d n m.length) i k=if i<d then atQ m i k else 0:=fun i k hi hk=>by
   rw[he i k hi,hp0 k hk,Rat.mul_zero]
   by_cases e:i=d
   ·rw[Yv6 e,Yv4 (by omega)]
   ·rw[Yv4 e]
    by_cases e2:i<d
    ·rw[Yv6 e2,hlow i k e2,Rat.sub_eq_add_neg,Rat.neg_zero,Rat.add_zero]
    ·rw[Yv4 e2,hhi i k (by omega) hi hk,Rat.sub_eq_add_neg,Rat.neg_zero,Rat.add_zero]
  have hnew:∀i,i<m.length→atQ (elmQ (Zhg (Zb6 m d p) d n) d n m.length) i n=if i=d then 1 else 0:=fun i hi=>by
   rw[he i n hi,hq1]
   split
   ·rfl
   ·rw[Rat.mul_one,Rat.sub_self]
  have ho:∀i,i<d→(ps++[n])[i]?.getD 0=ps[i]?.getD 0:=fun i hi=>by rw[Ywp (by have:=h.len;omega)]
  have hn':(ps++[n])[d]?.getD 0=n:=by rw[Yw0 (by have:=h.len;omega),h.len];simp
  show EcI (elmQ (Zhg (Zb6 m d p) d n) d n m.length) (d+1) (ps++[n]) (n+1)
  refine⟨by simp[h.len],by rw[hlen];omega,fun i hi=>?_,fun i j h1 h2=>?_,fun i j h1 h2=>?_,fun i k h1 h2=>?_,fun i k h1 h2 h3=>?_⟩
  ·by_cases e:i<d
   ·rw[ho i e];have:=h.lt i e;omega
   ·obtain rfl:i=d:=by omega
    rw[hn'];omega
  ·rw[ho i (by omega)]
   by_cases e:j<d
   ·rw[ho j e];exact h.asc i j h1 e
   ·obtain rfl:j=d:=by omega
    rw[hn'];exact h.lt i h1
  ·rw[hlen]at h2
   by_cases e:i<d
   ·rw[ho i e,hold j _ h2 (h.lt i e)]
    by_cases e2:j<d
    ·rw[Yv6 e2];exact h.one i j e h2
    ·rw[Yv4 e2,Yv4 (by omega)]
   ·obtain rfl:i=d:=by omega
    rw[hn'];exact hnew j h2
  ·by_cases e:i<d
   ·rw[ho i e]at h2
    rw[hold i k (by omega) (by have:=h.lt i e;omega),Yv6 e]
    exact h.lead i k e h2
   ·obtain rfl:i=d:=by omega
    rw[hn']at h2
    rw[hold i k hd2 h2,Yv4 e]
  ·rw[hlen]at h2
   by_cases e:k<n
   ·rw[hold i k h2 e,Yv4 (by omega)]
   ·obtain rfl:k=n:=by omega
    rw[hnew i h2,Yv4 (by omega)]
 ·rename_i hp
  have hno:=@Yj4 m n (m.length-d) d (by unfold pvQ at hp;omega)
  show EcI m d ps (n+1)
  refine⟨h.len,h.le,fun i hi=>by have:=h.lt i hi;omega,h.asc,h.one,h.lead,fun i k h1 h2 h3=>?_⟩
  by_cases e:k<n
  ·exact h.rest i k h1 h2 e
  ·obtain rfl:k=n:=by omega
   exact hno i h1 (by omega)
def Zci{m:List (List Rat)}{c:Nat}(hc:RcN m c):∀{n:Nat},EcI (Za0 m n).1 (Za0 m n).2.1 (Za0 m n).2.2 n
 |0=>⟨rfl,Yyj _,fun i hi=>absurd hi (Nat.not_lt_zero i),fun i j _ hj=>absurd hj (Nat.not_lt_zero j),fun i j hi=>absurd hi (Nat.not_lt_zero i),fun i k hi=>absurd hi (Nat.not_lt_zero i),fun i k _ _ hk=>absurd hk (Nat.not_lt_zero k)⟩
 |n+1=>by
  rw[Zcl]
  exact(@Zci m c hc n).step (Zga hc).1
def kvQ(m:List (List Rat))(ps:List Nat)(n k:Nat):List Rat:=(List.range n).map fun j=>if j=k then 1 else if j∈ps then -atQ m (ps.idxOf j) k else 0
def Zdg(ps:List Nat)(n:Nat):List Nat:=(List.range n).filter fun k=>!ps.contains k
def Zhw(m:List (List Rat))(n:Nat):List (List Rat):=(Zdg (Za0 m n).2.2 n).map (kvQ (Zea m n) (Za0 m n).2.2 n)
def Zll(m:List (List Rat))(n:Nat):List (List Rat):=Zea (Zhw m n) n
def Zkp:∀{n:Nat} {ps:List Nat},(∀i,i<ps.length→ps[i]?.getD 0<n)→(∀i j,i<j→j<ps.length→ps[i]?.getD 0<ps[j]?.getD 0)→(Zdg ps n).length+ps.length=n
 |0,ps,h1,h2=>by
  cases ps with
  |nil=>rfl
  |cons p t=>exact absurd (h1 0 (by simp)) (by omega)
 |n+1,ps,h1,h2=>by
  have hs:Zdg ps (n+1)=Zdg ps n++if ps.contains n=true then [] else [n]:=by
   unfold Zdg
   rw[List.range_succ,List.filter_append]
   congr 1
   rw[List.filter_cons]
   cases hc:ps.contains n<;>rfl
  by_cases hm:n∈ps
  ·have hps:ps=ps.dropLast++[n]:=by
    obtain⟨i,hi⟩:=Yxq hm
    have hil:=(Yw9.1 hi).1
    have:i=ps.length-1:=by
     by_cases e:i=ps.length-1
     ·exact e
     ·have h3:=h2 i (ps.length-1) (by omega) (by omega)
      have h4:=h1 (ps.length-1) (by omega)
      rw[hi]at h3
      simp only[Yxg]at h3
      omega
    subst this
    have hne:ps≠[]:=fun hc=>by rw[hc]at hm;simp at hm
    have hl:ps.getLast hne=n:=by rw[List.getLast_eq_getElem];rw[Yv9 hil]at hi;exact Yxj hi
    conv=>lhs;rw[←Yzj hne,hl]
   generalize ps.dropLast=l at hps
   subst hps
   have hll:(l++[n]).length=l.length+1:=by simp
   have hlt:∀i,i<l.length→l[i]?.getD 0<n:=fun i hi=>by
    have:=h2 i l.length hi (by omega)
    rw[Ywp hi,Yw0 (Yv5 _)]at this
    simpa using this
   have ih:=@Zkp n l hlt fun i j h3 h4=>by
    have:=h2 i j h3 (by omega)
    rw[Ywp h4,Ywp (by omega)]at this
    exact this
   have he:Zdg (l++[n]) n=Zdg l n:=by
    unfold Zdg
    apply List.filter_congr
    intro k hk
    have hk:=Yx1.1 hk
    have hkn:k≠n:=by omega
    simp[hkn]
   rw[hs,he,hll]
   simp
   omega
  ·have hb:∀i,i<ps.length→ps[i]?.getD 0<n:=fun i hi=>by
    have:=h1 i hi
    have h3:ps[i]?.getD 0≠n:=fun hc=>by
     rw[Yv9 hi]at hc
     simp only[Yxg]at hc
     exact hm (hc▸List.getElem_mem hi)
    omega
   have ih:=@Zkp n ps hb h2
   rw[hs]
   simp[hm]
   omega
def EcI.idx{n:Nat}{ps:List Nat}(h:EcI m d ps n)(hi:i<d):ps.idxOf (ps[i]?.getD 0)=i:=by
 have hl:=h.len
 have hm:ps[i]?.getD 0∈ps:=by
  rw[Yv9 (by omega)]
  exact List.getElem_mem _
 have hj:=List.idxOf_lt_length_iff.2 hm
 have hg:=List.getElem_idxOf hj
 by_cases e:ps.idxOf (ps[i]?.getD 0)=i
 ·exact e
 ·exfalso
  rcases Nat.lt_or_gt_of_ne e with h1|h1
  ·have:=h.asc _ _ h1 hi
   rw[Yv9 hj,hg]at this
   simp at this
  ·have:=h.asc _ _ h1 (by omega)
   rw[Yv9 hj,hg]at this
   simp at this
variable {R:Nat} {m:List (List Rat)}
set_option maxHeartbeats 2000000
noncomputable def A.w40:=A.q Tryz.f40
noncomputable def A.lb40_0:=A.ql A.w40 1 []
noncomputable def A.lb40_1:=(fun x0=>A.ql A.w40 0 [x0]) A.lb40_0
noncomputable def A.b40:=(fun x0=>A.qb A.w40 [x0]) A.lb40_1
def A.k40:=@A.kk 40 120 [.tmp 2,.tmp 3] A.b40 (by kernel_rfl) rfl
def RwF.at{h:T O}{N:Nat}(s:RwF h N R m){j:Nat}{l:List Rat}(hj:m[j]?=some l):∃us u,h.get R=some (.cells us 80 true)∧us.length=m.length∧us[j]?=some u∧FrT h N u l:=by
 obtain⟨us,g1,g2,_,_,g5⟩:=s.ex
 obtain⟨u,a1,a2⟩:=g5 j l hj
 exact⟨us,u,g1,g2,a1,a2⟩
def RwF.put2{h:T O}{N i:Nat}{u:V}{l:List Rat}{us:List V}(s:RwF h N R m)(g:h.get R=some (.cells us 80 true))(hu:FrT h N u l)(hi:i<m.length):RwF (h.set R (.cells (us.set i u) 80 true)) N R (m.set i l):=by
 obtain⟨vs,g1,_,g2⟩:=s.put hu hi
 rw[g]at g1
 simp only[Yv3,O.cells.injEq,and_true]at g1
 subst g1
 exact g2
def Ypp{c:List V}(h:c.length=4):slc c 0 4=some c:=by unfold slc;rw[h];simp;exact Ywe (by omega)
def Yr8{c:List V}(h:c.length=4):splice [V.int .i64 0,.nilslice,.int .i64 0,.nilslice] 0 c=c:=by unfold splice;rw[h];simp
def Ygs{α:Type}{l:List α}{i:Nat}{a:α}(h:l[i]?=some a):l.set i a=l:=by
 apply Ywy
 intro j
 by_cases e:j=i
 ·subst e
  rw[Ywh (Yw9.1 h).1,h]
 ·rw[Ywb (Ne.symm e)]
def Yso{q:Rat}:sg3 q.num=0↔q=0:=by
 have h1:=@Ykb q
 unfold sg3
 constructor
 ·intro hh
  apply h1.1
  split at hh
  ·omega
  ·split at hh<;>omega
 ·intro hh
  have:=h1.2 hh
  rw[this]
  rfl
def Yg9{W0:List Nat}{N0:Nat}{H:T O}{n P:Nat}{r0:T V}{d k c K:Nat}{cp:Option Nat}(s:RwF H n R m)(hR0:N0≤R)(hP:H.get P=some (.cells [.int .i64 k] 3 true))(hPl:P<n)(hc:RcN m c)(hk:k<c)(hd:d<m.length)(hml:m.length<1000)(hcl:c<1000)(hK1:1≤K)(hK:∀i,i≠d→∀q∈m[i]?.getD [],Qb K q)(hPq:∀q∈m[d]?.getD [],Qb (2*K) q)(hKl:3*K≤400000000)(hW0:Zaa N0 W0=[])(a4:r0.get 4=some (.slice R 0 m.length cp 1))(a6:r0.get 6=some (.int .i64 d))(a7:r0.get 7=some (.ptr P 0))(a71:r0.get 71=some (.int .i64 m.length))(a72:r0.get 72=some (.int .i64 0)):
  Code A.C none (.loop A.lb40_0) ⟨r0,120,[]⟩ ⟨H,n,W0⟩ (fun e fr st=>e=.exit 2∧Zaa N0 st.w=[]∧Upd (fun i=>i=R) H n st.h st.n∧RwF st.h st.n R (elmQ m d k m.length)∧∃r,Fx [(10,12),(72,104)] r0 120 ⟨r,120,[]⟩∧fr=⟨r,120,[]⟩):=by
 have hPR:¬P=R:=fun hc=>by
  obtain⟨us,g,_⟩:=s.ex
  rw[hc,g]at hP
  simp at hP
 rw[Zah]
 refine Zai [(10,12),(72,104)] (fun e r st=>e=.exit 2∧Zaa N0 st.w=[]∧Upd (fun i=>i=R) H n st.h st.n∧RwF st.h st.n R (elmQ m d k m.length)) (fun i r st=>Zaa N0 st.w=[]∧Upd (fun i=>i=R) H n st.h st.n∧∃t,t≤m.length∧i=m.length-t∧r.get 72=some (.int .i64 t)∧RwF st.h st.n R (elmQ m d k t)) (m.length) ?_ ?_ ?_
 ·exact⟨hW0,Upd.refl,0,by omega,by omega,a72,by rw[Yty];exact s⟩
 ·rintro i r ⟨H1,n1,W⟩ hr hf ⟨hW,k1,t,ht,rfl,h72,s1⟩
  simp only at hW k1 s1
  rw[Zah]
  have hP1:=(k1.get P hPl hPR).trans hP
  have hPl1:=Ywf hPl k1.le
  by_cases hlt:t<m.length
  ·have hlt':(t:Int)<(m.length:Int):=by omega
   have hd':(d:Int)<(m.length:Int):=by omega
   obtain⟨row,hrow⟩:=Zae hlt
   obtain⟨prow,hprow⟩:=Zae hd
   have hrl:=hc row (Yv7 hrow)
   have hpl:=hc prow (Yv7 hprow)
   have w2:(elmQ m d k t)[d]?=some prow:=by rw[Ytx hd];exact hprow
   have w1:(elmQ m d k t)[t]?=some row:=by rw[Zje hlt,Yv4 (by omega),hrow];rfl
   obtain⟨us,u,g1,g2,g3,g4⟩:=s1.at w1
   obtain⟨us',v,g1',_,g3',g4'⟩:=s1.at w2
   rw[g1]at g1'
   simp only[Yv3,O.cells.injEq,and_true]at g1'
   subst g1'
   obtain⟨q,hq⟩:=Zae (l:=row) (k:=k) (by omega)
   obtain⟨i1,o1,c1,e1,x1,cs,q1,q2,q3,q4,q5⟩:=g4.1.at hq
   obtain⟨z1,z2⟩:=q5.len
   have hlu:=g4.1.len
   have hk1:(k:Int)<(row.length:Int):=by omega
   have hk2:k<row.length:=by omega
   have hR:=s1.lt
   have hRn:¬R=n1:=by omega
   have hPn:¬P=n1:=by omega
   have hcc:∀c:List V,(V.agg c).cells=c:=fun _=>rfl
   have s0:=Ypp z1
   have e4:=Yr8 z1
   have lt1:n1<n1+1:=by omega
   have lR:R<n1+1:=by omega
   have kB:Keeps H1 n1 ((H1.set n1 (.cells [.int .i64 0,.nilslice,.int .i64 0,.nilslice] 111 true)).set n1 (.cells cs 111 true)) (n1+1):=(Keeps.refl.new _).set (Yv5 _)
   have gN:((H1.set n1 (.cells [.int .i64 0,.nilslice,.int .i64 0,.nilslice] 111 true)).set n1 (.cells cs 111 true)).get n1=some (.cells cs 111 true):=by rw[T.get_set,Yv6 rfl]
   by_cases e:t=d
   ·subst e
    rw[←Yis]at s1
    simp(disch:=first|(simp;done)|omega|rfl) [-V.cells, -V.one,A.lb40_0,hr,hf,a4,a6,a7,a71,h72,hlt,hlt',g1,g3,hR,q1,q2,q3,q4,Zff q4,hlu,hk1,hk2,hP1,hPl1,Zal,hcc,z1,z2,s0,e4,lt1,hRn,hPn,k1,hW]
    have le1:=k1.le
    refine⟨m.length-(t+1),by omega,by omega,(k1.new _).set (.inr le1),t+1,by omega,rfl,by simp,s1.keep kB⟩
   ·have e':¬(t:Int)=(d:Int):=by omega
    simp[-V.cells, -V.one,A.lb40_0,hr,hf,a4,a6,a7,a71,h72,hlt,hlt',hd',hd,g1,g3,g3',hR,q1,q2,q3,q4,Zff q4,hlu,hk1,hk2,hP1,hPl1,Zal,hcc,z1,z2,s0,e4,lt1,hRn,hPn,e,e']
    have sB:=s1.keep kB
    have gR:=(kB.get R hR).trans g1
    have qB:=q5.keep kB
    have rB:=g4.keep kB
    have pB:=g4'.keep kB
    have kU:Upd (fun i=>i=R) H n ((H1.set n1 (.cells [.int .i64 0,.nilslice,.int .i64 0,.nilslice] 111 true)).set n1 (.cells cs 111 true)) (n1+1):=(k1.new _).set (.inr k1.le)
    generalize (H1.set n1 (.cells [.int .i64 0,.nilslice,.int .i64 0,.nilslice] 111 true)).set n1 (.cells cs 111 true)=G at*
    refine Zac (Zxk qB.fc) ?_
    rintro _ H2 n2 k2 rfl
    have le2:=k2.le
    have hN0:¬n1<N0:=by have:=s.lt;have:=k1.le;omega
    have g2':=(k2.get R (by omega)).trans gR
    have gN2:=(k2.get n1 (by omega)).trans gN
    have lR2:R<n2:=by omega
    have lN2:n1<n2:=by omega
    have hqs:=@Ykb q
    have hz:(sg3 q.num=0)↔q=0:=Yso
    by_cases c0:q=0
    ·have hz':=hz.2 c0
     simp(disch:=first|(simp;done)|omega|rfl) [hr,hf,h72,hz',Zad,hN0,hW]
     refine⟨m.length-(t+1),by omega,kU.trans k2.upd,t+1,by omega,rfl,by simp,?_⟩
     rw[Zxl hlt e,hrow,hprow]
     simp only[Yxg]
     rw[Ybe (by rw[hq];exact c0),Ygs w1]
     exact sB.keep k2
    ·have hz':¬sg3 q.num=0:=fun hc=>c0 (hz.1 hc)
     simp[hr,hf,a4,a6,h72,hz',Zad,g2',lR2,g3,g3',hlt,hlt',hd,hd']
     have hrb:∀q∈row,Qb K q:=by have:=hK t e;rw[hrow]at this;exact this
     have hpb:∀q∈prow,Qb (2*K) q:=by have:=hPq;rw[hprow]at this;exact this
     have hqb:=hrb q (Yv7 hq)
     refine Zac (Yns (fun x y=>x-q*y) (rB.1.keep k2) (pB.1.keep k2) (by omega) (fun x hx y hy h' n' ca cb k' ha hb=>Yrk (i:=K) (j:=2*K) (k:=K) ((k'.get n1 lN2).trans gN2) (Ywf lN2 k'.le) ha hb ((qB.keep k2).keep k') (hrb x hx) (hpb y hy) hqb (by omega) (by omega) (by omega) (by omega) (by omega)) (by omega)) ?_
     rintro v3 H3 n3 k3 t3
     have le3:=k3.le
     have s3:=(sB.keep k2).keep k3
     have g4':=(k3.get R lR2).trans g2'
     have hul:t<us.length:=by rw[g2,Zfx];exact hlt
     have hul2:t+1≤us.length:=hul
     have hul':(t:Int)<(us.length:Int):=by omega
     have hsp:∀u,splice us t [u]=us.set t u:=fun u=>Ze6 hul
     have lR3:R<n3:=by omega
     obtain⟨_,hon,hc3⟩:=t3.nou
     simp(disch:=first|(simp;done)|omega|rfl) [-V.cells, -V.one,Zal,hc3,hon,hsp,hul,hul2,g4',lR2,lR3,hr,hf,h72]
     have hz2:Zmu (fun x y=>x-q*y) row prow row.length=Zye row prow k:=by unfold Zye;rw[hq];rfl
     rw[hz2]at t3
     have sp:=s3.put2 g4' t3 (i:=t) (by rw[Zfx];exact hlt)
     refine⟨m.length-(t+1),by omega,by rw[Yv4 (by omega),Yv4 hN0];exact hW,((kU.trans k2.upd).trans k3.upd).set (.inl rfl),t+1,by omega,rfl,by simp,?_⟩
     rw[Zxl hlt e,hrow,hprow]
     exact sp
  ·obtain rfl:t=m.length:=by omega
   simp[A.lb40_0,hr,hf,a4,a6,a71,h72,k1,hW]
   exact s1
 ·rintro _ r st hr ⟨rfl,hw,k1,s1⟩
  simp[]
  exact⟨hw,k1,s1,hr,rfl,rfl⟩
variable {N R:Nat} {h:T O} {m:List (List Rat)}
set_option maxHeartbeats 4000000
def Zwj{m:List (List Rat)}{k d:Nat}:∀{n j:Nat},(Zct (fun i=>decide (((m.drop d)[i]?.getD [])[k]?.getD 0≠0)) j n= -1∧pvF m k (d+j) n=d+j+n)∨∃a:Nat,Zct (fun i=>decide (((m.drop d)[i]?.getD [])[k]?.getD 0≠0)) j n=a∧pvF m k (d+j) n=d+a∧a<j+n
 |0,j=>.inl ⟨rfl,rfl⟩
 |n+1,j=>by
  unfold Zct pvF
  simp only[Ywg]
  by_cases e:(m[d+j]?.getD [])[k]?.getD 0≠0
  ·rw[Yv6 e]
   exact .inr ⟨j,by simp[e],rfl,by omega⟩
  ·rw[Yv4 e]
   simp only[e,decide_false,Ywi,if_false]
   have ih:=@Zwj m k d n (j+1)
   simp only[Ywg]at ih
   rcases ih with⟨h1,h2⟩|⟨a,h1,h2,h3⟩
   ·exact .inl ⟨h1,by rw[show d+j+1=d+(j+1) by omega,h2];omega⟩
   ·exact .inr ⟨a,h1,by rw[show d+j+1=d+(j+1) by omega,h2],by omega⟩
def pvI(ps:List Nat):List Int:=ps.map fun p:Nat=>(p:Int)
def RwF.moved{h':T O}{N':Nat}{v:V}{e:TypeId}(s:RwF h N R m)(k:Upd (fun i=>i∈Zel v) h N h' N')(hd:Zrl e NW h v)(he:e≠111)(he2:e≠80):RwF h' N' R m:=by
 obtain⟨us,g1,g2,g3,g4,g5⟩:=s.ex
 refine⟨Ywf s.lt k.le,us,(k.get R s.lt fun hc=>?_).trans g1,g2,g3,g4,fun j l hl=>?_⟩
 ·obtain⟨z,hz,_⟩:=hd R hc
  rw[g1]at hz
  simp at hz
  exact he2 hz.2.symm
 ·obtain⟨u,a1,a2⟩:=g5 j l hl
  exact⟨u,a1,a2.moved k hd he⟩
def Zys{W0:List Nat}{N0:Nat}{H:T O}{n:Nat}{r0:T V}{c:Nat}{B:Nat→Nat}(s:RwF H n R m)(hR0:N0≤R)(hc:RcN m c)(hml:m.length<1000)(hm0:0<m.length)(hcl:c<1000)(hK1:∀n,1≤B n)(hK:∀k,QbM (Za0 m k).1 (B (Za0 m k).2.1))(hB:∀n,n<m.length→n<c→3*B n≤400000000)(kH:Keeps h N0 H n)(hW0:Zaa N0 W0=[])(a4:r0.get 4=some (.slice R 0 m.length (some m.length) 1))(a5:r0.get 5=some .nilslice)(a6:r0.get 6=some (.int .i64 0))(a25:r0.get 25=some (.int .i64 c))(a26:r0.get 26=some (.int .i64 0)):
  Code A.C none (.loop A.lb40_1) ⟨r0,120,[]⟩ ⟨H,n,W0⟩ (fun e fr st=>e=.exit 0∧Zaa N0 st.w=[]∧Keeps h N0 st.h st.n∧RwF st.h st.n R (Za0 m c).1∧∃r v,Fx [(5,12),(26,115)] r0 120 ⟨r,120,[]⟩∧fr=⟨r,120,[]⟩∧r.get 6=some (.int .i64 (Za0 m c).2.1)∧r.get 5=some v∧OwI N0 st.h st.n v (pvI (Za0 m c).2.2)):=by
 rw[Zah]
 refine Zai [(5,12),(26,115)] (fun e r st=>e=.exit 0∧Zaa N0 st.w=[]∧Keeps h N0 st.h st.n∧RwF st.h st.n R (Za0 m c).1∧∃v,r.get 6=some (.int .i64 (Za0 m c).2.1)∧r.get 5=some v∧OwI N0 st.h st.n v (pvI (Za0 m c).2.2)) (fun i r st=>Zaa N0 st.w=[]∧Keeps h N0 st.h st.n∧∃k v,k≤c∧i=c-k∧r.get 26=some (.int .i64 k)∧r.get 6=some (.int .i64 (Za0 m k).2.1)∧r.get 5=some v∧OwI N0 st.h st.n v (pvI (Za0 m k).2.2)∧(Za0 m k).2.1<m.length∧RwF st.h st.n R (Za0 m k).1) c ?_ ?_ ?_
 ·exact⟨hW0,kH,0,_,by omega,by omega,a26,a6,a5,OwI.nil,hm0,s⟩
 ·rintro i r ⟨H1,n1,W⟩ hr hf ⟨hW,k1,k,pv,hk,rfl,h26,h6,h5,hO,hdm,s1⟩
  simp only at hW k1 s1 hO
  rw[Zah]
  have hlen:(Za0 m k).1.length=m.length:=Zee
  obtain⟨hrc,hdl⟩:=@Zga m c hc k
  by_cases hlt:k<c
  ·have hlt':(k:Int)<(c:Int):=by omega
   obtain⟨us,g1,g2,g3,g4,g5⟩:=id s1.ex
   have hR:=s1.lt
   have hRn:¬R=n1:=by omega
   have kA:Keeps H1 n1 ((H1.set n1 (.cells [.int .i64 0] 3 true)).set n1 (.cells [.int .i64 k] 3 true)) (n1+1):=(Keeps.refl.new _).set (Yv5 _)
   have gP:((H1.set n1 (.cells [.int .i64 0] 3 true)).set n1 (.cells [.int .i64 k] 3 true)).get n1=some (.cells [.int .i64 k] 3 true):=by rw[T.get_set,Yv6 rfl]
   have sA:=s1.keep kA
   have gA:=(kA.get R hR).trans g1
   have oA:=hO.keep kA
   have kU:=k1.trans kA
   simp[A.lb40_1,hr,hf,a4,h5,h6,a25,h26,hlt,hlt',Zal,splice]
   generalize (H1.set n1 (.cells [.int .i64 0] 3 true)).set n1 (.cells [.int .i64 k] 3 true)=G at*
   have hs:Sl G (n1+1) (.slice R 0 m.length (some m.length) 1) us:=Sl.row (by omega) gA (by omega) fun k hk=>by simp at hk;omega
   obtain⟨sv,e1,e2⟩:=Zfe (w:=n1::W) hs (lo:=(Za0 m k).2.1) (hi:=us.length) (by omega) (Yv5 _) (some (.int .i64 (Za0 m k).2.1)) none (.inl rfl) (.inr ⟨rfl,rfl⟩)
   rw[Ywe (Yv5 _)]at e2
   simp[Zcb,hr,hf,a4,h5,h6,a25,h26,e1]
   have hst0:pvQ (Za0 m k).1 (Za0 m k).2.1 k=m.length→Za0 m (k+1)=Za0 m k:=fun hp=>by
    rw[Zcl]
    unfold Zjp
    rw[Yv4 (by omega)]
   have hst1:pvQ (Za0 m k).1 (Za0 m k).2.1 k<m.length→Za0 m (k+1)=(elmQ (Zhg (Zb6 (Za0 m k).1 (Za0 m k).2.1 (pvQ (Za0 m k).1 (Za0 m k).2.1 k)) (Za0 m k).2.1 k) (Za0 m k).2.1 k (Za0 m k).1.length,(Za0 m k).2.1+1,(Za0 m k).2.2++[k]):=fun hp=>by
    rw[Zcl]
    unfold Zjp
    rw[Yv6 (by omega)]
   have hdone:=@Zq5 m k
   have hpp:=@Yem m k
   have hqM:QbM (Za0 m k).1 (B (Za0 m k).2.1):=hK _
   have hful:=@Zxm m (k+1)
   generalize hd:(Za0 m k).2.1=d at*
   generalize hm1:(Za0 m k).1=m1 at*
   generalize hps:(Za0 m k).2.2=ps at*
   have hP1:n1<n1+1:=by omega
   have hdl2:(us.drop d).length=m1.length-d:=by rw[Yyk,g2]
   refine Zac (Ynx (us.drop d) (fun i:Nat=>decide (((m1.drop d)[i]?.getD [])[k]?.getD 0≠0)) e2 (by omega) fun j x hx h' n' hk'=>?_) ?_
   ·have hx':us[d+j]?=some x:=by rw[←Ywg];exact hx
    obtain⟨row,hrow⟩:=Zae (l:=m1) (k:=d+j) (by have:=Zau hx';omega)
    obtain⟨y,b1,b2⟩:=g5 _ _ hrow
    rw[hx']at b1
    simp only[Yv3]at b1
    subst b1
    have:=Yrm (k:=k) ((hk'.get n1 hP1).trans gP) (Ywf hP1 hk'.le) ((b2.keep kA).keep hk').1 (by rw[hrc row (Yv7 hrow)];exact hlt)
    simp only[Ywg,hrow,Yxg]
    exact this
   rintro _ H2 n2 k2 rfl
   rw[hdl2]
   have le2:=k2.le
   have gP2:=(k2.get n1 hP1).trans gP
   have s2:=sA.keep k2
   have o2:=oA.keep k2
   have g2':=(k2.get R (by omega)).trans gA
   have kU2:=kU.trans k2
   have hN0:¬n1<N0:=by have:=k1.le;omega
   have lR2:R<n2:=by omega
   rcases @Zwj m1 k d (m1.length-d) 0 with⟨f1,f2⟩|⟨a,f1,f2,f3⟩
   ·rw[f1]
    have hpe:pvQ m1 d k=m.length:=by unfold pvQ;have:=f2;rw[Yxc]at this;omega
    simp(disch:=first|(simp;done)|omega|rfl) [hr,hf,h5,h6,h26,a4,hN0,hW]
    refine⟨c-(k+1),by omega,kU2,k+1,by omega,rfl,by simp,?_,?_⟩
    ·rw[hst0 hpe];simp[hd]
    ·rw[hst0 hpe,hm1,hps,hd]
     exact⟨o2,hdm,s2⟩
   ·rw[f1]
    rw[Yxc]at f2
    obtain⟨p,hp⟩:∃p,p=d+a:=⟨_,rfl⟩
    have hpv:pvQ m1 d k=p:=by unfold pvQ;omega
    have hda:(d:Int)+(a:Int)=(p:Int):=by omega
    have hpl:p<m1.length:=by omega
    have hd2:d<m1.length:=by omega
    obtain⟨rd,hrd⟩:=Zae hd2
    obtain⟨rp,hrp⟩:=Zae hpl
    obtain⟨ud,x3,x4⟩:=g5 _ _ hrd
    obtain⟨up,y3,y4⟩:=g5 _ _ hrp
    have hdu:d<us.length:=by omega
    have hpu:p<us.length:=by omega
    have hd':(d:Int)<(m.length:Int):=by omega
    have hp':(p:Int)<(m.length:Int):=by omega
    have hdm2:d<m.length:=by omega
    have hpm:p<m.length:=by omega
    have hda0:¬(a:Int)<0:=by omega
    have z1:∀u,splice us d [u]=us.set d u:=fun u=>Ze6 hdu
    have z2:∀u,splice (us.set d up) p [u]=(us.set d up).set p u:=fun u=>Ze6 (by simp;exact hpu)
    obtain⟨_,c1,o1⟩:=x4.nou
    obtain⟨_,c2,o2'⟩:=y4.nou
    have l1:d+1≤us.length:=hdu
    have l2:p+1≤us.length:=hpu
    simp(disch:=first|(simp;done)|omega|rfl) [-getElem?_pos, -V.cells, -V.one,hr,hf,a4,h5,h6,h26,hda,hda0,hd',hp',hdm2,hpm,g2',x3,y3,lR2,Zal,c1,o1,c2,o2',z1,z2,l1,l2]
    have U2:Upd (fun i=>i=R) H2 n2 ((H2.set R (.cells (us.set d up) 80 true)).set R (.cells ((us.set d up).set p ud) 80 true)) n2:=⟨Yv5 _,fun i _ hi=>by rw[T.get_set,Yv4 hi,T.get_set,Yv4 hi]⟩
    have gA1:(H2.set R (.cells (us.set d up) 80 true)).get R=some (.cells (us.set d up) 80 true):=by rw[T.get_set,Yv6 rfl]
    have hx4:=(x4.keep kA).keep k2
    have hy4:=(y4.keep kA).keep k2
    have sA1:=s2.put2 g2' hy4 hd2
    have sB:=sA1.put2 gA1 (hx4.setR g2' (by decide) g3 (by simp)) (i:=p) (by rw[Yx4];exact hpl)
    have gB:((H2.set R (.cells (us.set d up) 80 true)).set R (.cells ((us.set d up).set p ud) 80 true)).get R=some (.cells ((us.set d up).set p ud) 80 true):=by rw[T.get_set,Yv6 rfl]
    have hsw:(m1.set d rp).set p rd=Zb6 m1 d p:=by unfold Zb6;rw[hrd,hrp];rfl
    rw[hsw]at sB
    have hul:((us.set d up).set p ud).length=m1.length:=by simp only[Yx4];omega
    generalize (H2.set R (.cells (us.set d up) 80 true)).set R (.cells ((us.set d up).set p ud) 80 true)=G2 at*
    generalize (us.set d up).set p ud=vs at*
    have gPB:=(U2.get n1 (by omega) (by omega)).trans gP2
    have oB:=o2.movedR g2' (fun z hz=>by simp at hz) U2
    have hqB:=hqM.swp (d:=d) (p:=p)
    have hrB:=hrc.swp hd2 hpl
    have hlB:(Zb6 m1 d p).length=m1.length:=Zcf
    have hne:=@Znf m1 k (m1.length-d) d (by unfold pvQ at hpv;omega)
    have hrow:(Zb6 m1 d p)[d]?=some rp:=by
     rw[←hsw]
     by_cases e:p=d
     ·rw[e,hrd]at hrp
      simp only[Yv3]at hrp
      rw[e,hrp,Ywh (by simp;omega)]
     ·rw[Ywb e,Ywh hd2]
    have hpvr:rp[k]?.getD 0≠0:=by
     have h9:=hpv
     unfold pvQ at h9
     rw[h9,hrp]at hne
     exact hne
    obtain⟨vs',vd,b1,b2,b3,b4⟩:=sB.at hrow
    rw[gB]at b1
    simp only[Yv3,O.cells.injEq,and_true]at b1
    subst b1
    have hrpl:=hrB rp (Yv7 hrow)
    obtain⟨q,hq⟩:=Zae (l:=rp) (k:=k) (by omega)
    have hrb:=hqB rp (Yv7 hrow)
    have hqb:=hrb q (Yv7 hq)
    have hq0:q≠0:=by rw[hq]at hpvr;exact hpvr
    have hkq:=hB d hdm2 (by omega)
    obtain⟨i1,t1,w1,e3,v1,cs,q1,q2,q3,q4,q5⟩:=b4.1.at hq
    obtain⟨r1,r2⟩:=q5.len
    have hlv:=b4.1.len
    have hk1:(k:Int)<(rp.length:Int):=by omega
    have hk2:k<rp.length:=by omega
    have hcc:∀c:List V,(V.agg c).cells=c:=fun _=>rfl
    have s0:=Ypp r1
    have e4:=Yr8 r1
    have lt2:n2<n2+1:=by omega
    have hRn2:¬R=n2:=by omega
    have lP2:n1<n2:=by omega
    have hPn2:¬n1=n2:=by omega
    simp(disch:=first|(simp;done)|omega|rfl) [-getElem?_pos, -V.cells, -V.one,hr,hf,a4,h5,h6,h26,b3,gB,gPB,lP2,lR2,q1,q2,q3,q4,Zff q4,hlv,hk1,hk2,hd',hdm2,Zal,hcc,r1,r2,s0,e4,lt2,hRn2,hPn2]
    have kC:Keeps G2 n2 ((G2.set n2 (.cells [.int .i64 0,.nilslice,.int .i64 0,.nilslice] 111 true)).set n2 (.cells cs 111 true)) (n2+1):=(Keeps.refl.new _).set (Yv5 _)
    have gQ:((G2.set n2 (.cells [.int .i64 0,.nilslice,.int .i64 0,.nilslice] 111 true)).set n2 (.cells cs 111 true)).get n2=some (.cells cs 111 true):=by rw[T.get_set,Yv6 rfl]
    generalize (G2.set n2 (.cells [.int .i64 0,.nilslice,.int .i64 0,.nilslice] 111 true)).set n2 (.cells cs 111 true)=G3 at*
    refine Zac (Yna (fun x=>x/q) (b4.keep kC).1 (by omega) fun x hx c' h' n' k' hc'=>Yrl (j:=B d) (k:=B d) ((k'.get n2 lt2).trans gQ) (Ywf lt2 k'.le) hc' ((q5.keep kC).keep k') hq0 (hrb x hx) hqb (by omega) (by omega)) ?_
    rintro v3 H3 n3 k3 t3
    have le3:=k3.le
    have gR3:=(k3.get R (by omega)).trans ((kC.get R lR2).trans gB)
    have sC:=((sB.keep kC).keep k3).put2 gR3 t3 (i:=d) (by rw[hlB];exact hd2)
    have hsc:(Zb6 m1 d p).set d (rp.map fun x=>x/q)=Zhg (Zb6 m1 d p) d k:=by
     unfold Zhg
     rw[hrow]
     simp only[Yxg,hq]
    rw[hsc]at sC
    have hmC:(Zhg (Zb6 m1 d p) d k).length=m.length:=by rw[Zgq,Zcf];exact hlen
    have hdv:d<vs.length:=by omega
    have hdv1:d+1≤vs.length:=hdv
    have z3:∀u,splice vs d [u]=vs.set d u:=fun u=>Ze6 hdv
    have lR3:R<n3:=by omega
    have lRp:R<n2+1:=by omega
    obtain⟨_,c3,o3⟩:=t3.nou
    simp(disch:=first|(simp;done)|omega|rfl) [-V.cells, -V.one,hr,hf,a4,h5,h6,h26,gR3,lR3,lR2,lRp,Zal,c3,o3,z3,hdv,hdv1]
    have U3:Upd (fun i=>i=R) H2 n2 (H3.set R (.cells (vs.set d v3) 80 true)) n3:=((U2.trans kC.upd).trans k3.upd).set (.inl rfl)
    have gPC:=(U3.get n1 (by omega) (by omega)).trans gP2
    have gRC:(H3.set R (.cells (vs.set d v3) 80 true)).get R=some (.cells (vs.set d v3) 80 true):=by rw[T.get_set,Yv6 rfl]
    generalize H3.set R (.cells (vs.set d v3) 80 true)=G4 at*
    refine Zbd (Yg9 (cp:=some m.length) (N0:=N0) (P:=n1) (d:=d) (K:=B d) sC hR0 gPC (by omega) (hrB.scl (by omega)) hlt (by omega) (by omega) (by omega) (hK1 _) (fun i hi=>by
     unfold Zhg
     rw[Ywb (Ne.symm hi)]
     exact hqB.at) (by
     unfold Zhg
     rw[Ywh (by omega)]
     exact Yjz hqB (hK1 _) (by rw[hrow];exact hpvr)) (by omega) (by simp[Yy2.2 hR0,hN0,hW,show ¬n2<N0 by omega]) (by simp[hr,a4,hmC]) (by simp[hr,h6]) (by simp[hr]) (by simp[hr,hmC]) (by simp)) ?_
    rintro _ _ ⟨H4,n4,W4⟩ ⟨rfl,hw4,U4,s4,r4,f4,rfl⟩
    simp only at hw4 U4 s4
    have hr4:=f4.reg
    have hf4:=hf.inner (D':=[(10,12),(72,104)]) (by decide) (fun hx=>by simpa[Fx.set]using hx) hr4
    have le4:=U4.le
    have gP4:=(U4.get n1 (by omega) (by omega)).trans gPC
    have o4:=(o2.movedR g2' (fun z hz=>by simp at hz) U3).movedR gRC (fun z hz=>by simp at hz) U4
    have lP4:n1<n4:=by omega
    have sp1:splice [V.int .i64 0] 0 [V.int .i64 k]=[V.int .i64 k]:=rfl
    simp[hr4,hf4,hr,a4,h5,h6,h26,gP4,lP4,sp1]
    have kD:Keeps H4 n4 (H4.set n4 (.cells [.int .i64 k] 3 true)) (n4+1):=Keeps.refl.new _
    obtain⟨v',h',w',j1,j2,j3,j4,j5,j6⟩:=OwI.push (B:=N0) (x:=.slice n4 0 1 (some 1) 1) (k:=k) (w:=W4) (o4.keep kD) (Yv5 _) (by omega) hw4 (by simp[Zaz,St.row,slc]) (by simp[pvI];omega)
    have s5:=(s4.keep kD).moved j3 j4 (by decide) (by decide)
    have kF:Keeps h N0 h' (n4+1+1):=⟨by have:=kU2.le;omega,fun i hi=>by
     rw[j3.get i (by omega) (fun hc=>by have:=j5 i hc;omega),T.get_set,Yv4 (by omega),U4.get i (by omega) (by omega),U3.get i (by omega) (by omega)]
     exact kU2.get i hi⟩
    have hst:=hst1 (by omega)
    rw[hpv]at hst
    rw[hmC,←hlen]at s5
    have hpi:pvI (ps++[k])=pvI ps++[(k:Int)]:=by simp[pvI]
    by_cases hE:d+1=m.length
    ·have hE':(d:Int)+1=(m.length:Int):=by omega
     have hcf:Za0 m c=Za0 m (k+1):=by
      have:=hful (n:=c-(k+1)) (by rw[hst];exact hE)
      rw[←this,show k+1+(c-(k+1))=c by omega]
     simp(disch:=first|(simp;done)|omega|rfl) [Zcw,j1,hr4,hf4,hr,a4,h5,h6,h26,hE',Zad,j2,kF]
     rw[hcf,hst,hpi]
     exact⟨s5,hE.symm,j6⟩
    ·have hE':¬(d:Int)+1=(m.length:Int):=by omega
     simp(disch:=first|(simp;done)|omega|rfl) [Zcw,j1,hr4,hf4,hr,a4,h5,h6,h26,hE',Zad,j2,kF]
     refine⟨c-(k+1),by omega,k+1,by omega,rfl,by simp,?_⟩
     rw[hst,hpi]
     exact⟨by simp,j6,by show d+1<m.length;omega,s5⟩
  ·obtain rfl:k=c:=by omega
   simp[A.lb40_1,hr,hf,a4,h5,h6,a25,h26,k1,hW]
   exact⟨s1,hO⟩
 ·rintro _ r st hr ⟨rfl,hw,k1,s1,v,h6,h5,hO⟩
  simp[]
  exact⟨hw,k1,s1,r,⟨hr,rfl,rfl⟩,rfl,h6,v,h5,hO⟩
def RwF.mfs{d:Nat}{v:V}{us:List V}(s:RwF h N R m)(g:h.get R=some (.cells us 80 true))(hv:Sl h N v (us.take d))(hd:d≤m.length):MfS h N v (m.take d):=by
 obtain⟨vs,g1,g2,_,_,g3⟩:=s.ex
 rw[g]at g1
 simp only[Yv3,O.cells.injEq,and_true]at g1
 subst g1
 refine⟨us.take d,hv,by simp[g2],fun j l hl=>?_⟩
 by_cases hj:j<d
 ·rw[Ywn,Yv6 hj]at hl ⊢
  exact g3 j l hl
 ·rw[Ywn,Yv4 hj]at hl
  cases hl
def Zil{u:V}{c:Nat}{B:Nat→Nat}(hu:MfS h N u m)(hc:RcN m c)(hml:m.length<1000)(hm0:0<m.length)(hcl:c<1000)(hK1:∀n,1≤B n)(hK:∀k,QbM (Za0 m k).1 (B (Za0 m k).2.1))(hB:∀n,n<m.length→n<c→3*B n≤400000000):Fn A.C 40 [u] h N (fun x h' n'=>∃a b,x=.tup [a,b]∧MfS h' n' a (Zea m c)∧OwI N h' n' b (pvI (Za0 m c).2.2)):=by
 intro w
 have lu:=hu.len
 obtain⟨us,h1,h2,h3⟩:=hu
 have h1':=h1
 rcases h1 with⟨hn,_⟩|⟨i,o,cp,c',e,rw',rfl,q2,q3,q4,q5,q6⟩
 ·rw[hn]at h2
  simp at h2
  omega
 have hne:¬i=N:=by omega
 have q3':(h.set N (.cells (Zck [.nilslice] m.length) 80 true)).get i=some (.cells c' e rw'):=by rw[T.get_set,Yv4 hne];exact q3
 have gz:(h.set N (.cells (Zck [.nilslice] m.length) 80 true)).get N=some (.cells (Zck [.nilslice] m.length) 80 true):=by simp
 have hsrc:=Yp9 (N:=N+1) (w:=[]) (cp:=cp) q3' q4 q5
 rw[h2]at hsrc
 have cpy:=Yah (cp:=some m.length) hm0 hsrc h2 gz (by rw[Yaw];simp)
 have kB:Keeps h N ((h.set N (.cells (Zck [.nilslice] m.length) 80 true)).set N (.cells us 80 true)) (N+1):=(Keeps.refl.new _).set (Yv5 _)
 have gN:((h.set N (.cells (Zck [.nilslice] m.length) 80 true)).set N (.cells us 80 true)).get N=some (.cells us 80 true):=by rw[T.get_set,Yv6 rfl]
 have sR:RwF ((h.set N (.cells (Zck [.nilslice] m.length) 80 true)).set N (.cells us 80 true)) (N+1) N m:=⟨by omega,us,gN,h2,?nu,?one,fun j l hl=>by
  obtain⟨x,a1,a2⟩:=h3 j l hl
  exact⟨x,a1,a2.keep kB⟩⟩
 case nu=>
  intro x hx
  obtain⟨j,hj⟩:=Yxq hx
  obtain⟨l,hl⟩:=Zae (l:=m) (k:=j) (by have:=Zau hj;omega)
  obtain⟨y,a1,a2⟩:=h3 j l hl
  rw[hj]at a1
  simp only[Yv3]at a1
  subst a1
  exact a2.nou.1
 case one=>
  rw[Yw1]
  intro x hx
  obtain⟨j,hj⟩:=Yxq hx
  obtain⟨l,hl⟩:=Zae (l:=m) (k:=j) (by have:=Zau hj;omega)
  obtain⟨y,a1,a2⟩:=h3 j l hl
  rw[hj]at a1
  simp only[Yv3]at a1
  subst a1
  exact a2.nou.2.1
 rw[h2]at h1'
 obtain⟨l0,hl0⟩:=Zae hm0
 obtain⟨x0,b1,b2⟩:=h3 0 l0 hl0
 obtain⟨i2,o2,cc2,e2,rw2,p1,p2,p3,p4⟩:=(h1'.keep kB).at b1
 rw[Yxc]at p4
 have b3:=b2.1.len
 rw[hc l0 (Yv7 hl0)]at b3
 have hmn:¬m=[]:=fun hc=>by rw[hc]at hm0;simp at hm0
 have hm0':¬(m.length:Int)=0:=by omega
 have hm0'':(0:Int)<(m.length:Int):=by omega
 have cc1:(24:Int)*(m.length:Int)≤140737488355328:=by omega
 have cc3:(m.length:Int)<4611686018427387904:=by omega
 rw[h2]at lu
 rw[Zab,A.k40 (by simp)]
 simp[A.b40,h2,hm0,hm0',hm0'',cc1,cc3,cpy,Zad,hmn,p1,p2,p3,p4,b3]
 generalize (h.set N (.cells (Zck [.nilslice] m.length) 80 true)).set N (.cells us 80 true)=G at*
 refine Zbd (Zys (N0:=N) (h:=h) sR (Yv5 _) hc hml hm0 hcl hK1 hK hB kB (by simp[Zlh]) (by simp) (by simp) (by simp) (by simp) (by simp)) ?_
 rintro _ _ ⟨H4,n4,W4⟩ ⟨rfl,hw,k4,s4,r4,pv,f4,rfl,x6,x5,oI⟩
 simp only at hw k4 s4 oI
 have hr4:=f4.reg
 obtain⟨vs,g1,g2,_⟩:=id s4.ex
 have hl4:(Za0 m c).1.length=m.length:=Zee
 have hdl:=(@Zga m c hc c).2
 have hs:Sl H4 n4 (.slice N 0 m.length (some m.length) 1) vs:=Sl.row s4.lt g1 (by omega) fun k hk=>by simp at hk;omega
 obtain⟨v',e1,e2⟩:=Zfe (w:=W4) hs (lo:=0) (hi:=(Za0 m c).2.1) (by omega) (by omega) none (some (.int .i64 (Za0 m c).2.1)) (.inr ⟨rfl,rfl⟩) (.inl rfl)
 rw[Yyv]at e2
 simp[Zcb,hr4,x6,x5,e1,Ret,hw]
 exact⟨k4,v',pv,⟨rfl,rfl⟩,s4.mfs g1 e2 (by omega),oI⟩
end Go.Mx
