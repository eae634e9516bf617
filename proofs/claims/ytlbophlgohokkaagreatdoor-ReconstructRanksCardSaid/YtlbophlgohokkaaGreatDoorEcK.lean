/-
  reconstruct.echelon: the rows less the pivot row.
-/
import Derived.Test.YtlbophlgohokkaaGreatDoorCoH
set_option linter.all false
namespace Go.Mx
open Go Go.Proofs
variable {R:Nat} {m:List (List Rat)}
set_option maxHeartbeats 2000000
set_option maxRecDepth 1000000
def A.lb124_0:Zae:=sr [bi 73 .lss 72 71]
 (.seq (cd 73
 (.skip)
 (.exit 2))
 (.seq (.block 3 (sr [mv 74 72,mv 10 74]
 (.seq (.regD [mv 75 4,mv 76 10,ia 77 1 75 76,ld 78 77,ld 79 7,ia 80 4 78 79,lN 81 4 80,⟨(some 11),.alloc [(.int .i64 0),.nilslice,(.int .i64 0),.nilslice] 114,none⟩,⟨none,.store 4 (.tmp 11) (.tmp 81),none⟩] [0,0,3,7,0,31,63,0,255])
 (sr [mv 82 10,mv 83 6,⟨(some 84),.bin .neq (.prim .int) false (.tmp 82) (.tmp 83),none⟩,mv 85 84,⟨(some 86),.load (some 4) (.tmp 11),(some (85,true))⟩,⟨(some 87),.call (.const (.func 128 [] [])) [(.tmp 86)],(some (85,true))⟩,⟨(some 88),.bin .neq (.prim .int) true (.tmp 87) (.const (.int .i64 0)),(some (85,true))⟩,pf 89 85 88]
 (cd 89
 (sr [mv 90 4,mv 91 6,ia 92 1 90 91,ld 93 92,mv 12 93]
 (.reg [mv 94 4,mv 95 10,mv 96 4,mv 97 10,ia 98 1 96 97,ld 99 98,mv 100 12,⟨(some 101),.mkfunc 196 [] [(.tmp 11)],none⟩,⟨(some 102),.call (.const (.func 89 [] [])) [(.tmp 99),(.tmp 100),(.tmp 101)],none⟩,ia 103 1 94 95,so 103 102]))
 (.skip))))))
 (.reg [bc 104 .add 72 1,mv 72 104])))
def A.lb124_1:Zae:=sr [bi 27 .lss 26 25]
 (.seq (cd 27
 (.skip)
 (.exit 0))
 (.seq (.block 1 (sr [mv 28 26,⟨(some 7),.alloc [(.int .i64 0)] 3,none⟩,so 7 28]
 (sr [mv 29 4,mv 30 6,⟨(some 31),.sliceSl 1 (.tmp 29) (some (.tmp 30)) none none,none⟩,⟨(some 32),.mkfunc 194 [] [(.tmp 7)],none⟩,c2 33 193 31 32,mv 8 33]
 (.seq (sr [mv 34 8,bc 35 .lss 34 0]
 (cd 35
 (.exit 1)
 (.skip)))
 (.seq (.regD [mv 36 4,mv 37 6,mv 38 4,mv 39 6,mv 40 8,bi 41 .add 39 40,mv 42 4,mv 43 6,mv 44 8,bi 45 .add 43 44,ia 46 1 42 45,ld 47 46,mv 48 4,mv 49 6,ia 50 1 48 49,ld 51 50,ia 52 1 36 37,so 52 47,ia 53 1 38 41,so 53 51] [0,0,0,0,0,24,0,0,0,384,960,1984,0,0,12288,28672,65475,131011,262143,524287])
 (.seq (.regD [mv 54 4,mv 55 6,ia 56 1 54 55,ld 57 56,ld 58 7,ia 59 4 57 58,lN 60 4 59,⟨(some 9),.alloc [(.int .i64 0),.nilslice,(.int .i64 0),.nilslice] 114,none⟩,⟨none,.store 4 (.tmp 9) (.tmp 60),none⟩] [0,0,3,7,0,31,63,0,255])
 (sr [mv 61 4,mv 62 6,mv 63 4,mv 64 6,ia 65 1 63 64,ld 66 65,⟨(some 67),.mkfunc 195 [] [(.tmp 9)],none⟩,c2 68 187 66 67,ia 69 1 61 62,so 69 68]
 (.seq (sr [mv 70 4,ln 71 70,mc 72 0]
 (.block 2 (.loop A.lb124_0)))
 (sr [mv 105 5,ld 106 7,⟨(some 107),.bslice 3 1 1 [(.int .i64 0)] [(0,1,(.tmp 106))],none⟩,⟨(some 108),.append 1 8 3 [(.int .i64 0)] (.tmp 105) (.tmp 107),none⟩,mv 5 108]
 (sr [mv 109 6,bc 110 .add 109 1,mv 6 110]
 (sr [mv 111 6,mv 112 4,ln 113 112,⟨(some 114),.bin .eql (.prim .int) false (.tmp 111) (.tmp 113),none⟩]
 (cd 114
 (.exit 0)
 (.skip)))))))))))))
 (.reg [bc 115 .add 26 1,mv 26 115])))
def A.b124:Zae:=sr [mN 2,mN 3]
 (.scope (sr [mv 13 0,ln 14 13,⟨(some 15),.mkslice 97 1 24 [.nilslice] (.tmp 14) (.tmp 14),none⟩,mv 4 15]
 (sr [mv 16 4,mv 17 0,⟨(some 18),.copy 1 (.tmp 16) (.tmp 17),none⟩]
 (sr [mN 5]
 (.seq (sr [mv 19 0,ln 20 19,ei 21 20 0]
 (cd 21
 (sr [mN 2,mN 3]
 (.ret))
 (.skip)))
 (sr [mc 6 0]
 (.seq (.skip)
 (.seq (sr [mv 22 0,⟨(some 23),.iaddrSl 1 (.tmp 22) (.const (.int .i64 0)),none⟩,ld 24 23,ln 25 24,mc 26 0]
 (.block 0 (.loop A.lb124_1)))
 (sr [mv 116 4,mv 117 6,⟨(some 118),.sliceSl 1 (.tmp 116) none (some (.tmp 117)) none,none⟩,mv 119 5,mv 2 118,mv 3 119]
 (.ret))))))))))
theorem A.c124:A.F 124=some ⟨120,[.tmp 2,.tmp 3],A.b124⟩:=by kernel_rfl
def A.k124:=@A.kk 124 _ _ _ A.c124 rfl
theorem RwF.at{h:T O}{N:Nat}(s:RwF h N R m){j:Nat}{l:List Rat}(hj:m[j]?=some l):∃us u,h.get R=some (.cells us 97 true)∧us.length=m.length∧us[j]?=some u∧FrT h N u l:=by
 obtain⟨us,g1,g2,_,_,g5⟩:=s.ex
 obtain⟨u,a1,a2⟩:=g5 j l hj
 exact⟨us,u,g1,g2,a1,a2⟩
theorem RwF.put2{h:T O}{N i:Nat}{u:V}{l:List Rat}{us:List V}(s:RwF h N R m)(g:h.get R=some (.cells us 97 true))(hu:FrT h N u l)(hi:i<m.length):RwF (h.set R (.cells (us.set i u) 97 true)) N R (m.set i l):=by
 obtain⟨vs,g1,_,g2⟩:=s.put hu hi
 rw[g]at g1
 simp only[Yox,O.cells.injEq,and_true]at g1
 subst g1
 exact g2
theorem Yl1{c:List V}(h:c.length=4):slc c 0 4=some c:=by unfold slc;rw[h];simp;exact Yo7 (by omega)
theorem Ym9{c:List V}(h:c.length=4):splice [V.int .i64 0,.nilslice,.int .i64 0,.nilslice] 0 c=c:=by unfold splice;rw[h];simp
theorem Yb9{α:Type}{l:List α}{i:Nat}{a:α}(h:l[i]?=some a):l.set i a=l:=by
 apply Ypt
 intro j
 by_cases e:j=i
 ·subst e
  rw[Ypc (Ypz.1 h).1,h]
 ·rw[Yo5 (Ne.symm e)]
theorem Yj3{q:Rat}:sg3 q.num=0↔q=0:=by
 have h1:=@Ybo q
 unfold sg3
 constructor
 ·intro hh
  apply h1.1
  split at hh
  ·omega
  ·split at hh<;>omega
 ·intro hh
  have:=h1.2 hh
  rw[this]
  rfl
theorem Yct{W0:List Nat}{N0:Nat}{H:T O}{n P:Nat}{r0:T V}{d k c K:Nat}{cp:Option Nat}(s:RwF H n R m)(hR0:N0≤R)(hP:H.get P=some (.cells [.int .i64 k] 3 true))(hPl:P<n)(hc:RcN m c)(hk:k<c)(hd:d<m.length)(hml:m.length<1000)(hcl:c<1000)(hK1:1≤K)(hK:∀i,i≠d→∀q∈m[i]?.getD [],Qb K q)(hPq:∀q∈m[d]?.getD [],Qb (2*K) q)(hKl:3*K≤400000)(hW0:Zaa N0 W0=[])(a4:r0.get 4=some (.slice R 0 m.length cp 1))(a6:r0.get 6=some (.int .i64 d))(a7:r0.get 7=some (.ptr P 0))(a71:r0.get 71=some (.int .i64 m.length))(a72:r0.get 72=some (.int .i64 0)):
  Code A.C none (.loop A.lb124_0) ⟨r0,120,[]⟩ ⟨H,n,W0⟩ (fun e fr st=>e=.exit 2∧Zaa N0 st.w=[]∧Upd (fun i=>i=R) H n st.h st.n∧RwF st.h st.n R (Zj3 m d k m.length)∧∃r,Fx [(10,12),(72,104)] r0 120 ⟨r,120,[]⟩∧fr=⟨r,120,[]⟩):=by
 have hPR:¬P=R:=fun hc=>by
  obtain⟨us,g,_⟩:=s.ex
  rw[hc,g]at hP
  simp at hP
 rw[Zah]
 refine Zaj [(10,12),(72,104)] (fun e r st=>e=.exit 2∧Zaa N0 st.w=[]∧Upd (fun i=>i=R) H n st.h st.n∧RwF st.h st.n R (Zj3 m d k m.length)) (fun i r st=>Zaa N0 st.w=[]∧Upd (fun i=>i=R) H n st.h st.n∧∃t,t≤m.length∧i=m.length-t∧r.get 72=some (.int .i64 t)∧RwF st.h st.n R (Zj3 m d k t)) (m.length) ?_ ?_ ?_
 ·exact⟨hW0,Upd.refl,0,by omega,by omega,a72,by rw[Yk0];exact s⟩
 ·rintro i r ⟨H1,n1,W⟩ hr hf ⟨hW,k1,t,ht,rfl,h72,s1⟩
  simp only at hW k1 s1
  rw[Zah]
  have hP1:=(k1.get P hPl hPR).trans hP
  have hPl1:=Yo8 hPl k1.le
  by_cases hlt:t<m.length
  ·have hlt':(t:Int)<(m.length:Int):=by omega
   have hd':(d:Int)<(m.length:Int):=by omega
   obtain⟨row,hrow⟩:=Zaf hlt
   obtain⟨prow,hprow⟩:=Zaf hd
   have hrl:=hc row (Yo3 hrow)
   have hpl:=hc prow (Yo3 hprow)
   have w2:(Zj3 m d k t)[d]?=some prow:=by rw[Ykz hd];exact hprow
   have w1:(Zj3 m d k t)[t]?=some row:=by rw[Zic hlt,Yo0 (by omega),hrow];rfl
   obtain⟨us,u,g1,g2,g3,g4⟩:=s1.at w1
   obtain⟨us',v,g1',_,g3',g4'⟩:=s1.at w2
   rw[g1]at g1'
   simp only[Yox,O.cells.injEq,and_true]at g1'
   subst g1'
   obtain⟨q,hq⟩:=Zaf (l:=row) (k:=k) (by omega)
   obtain⟨i1,o1,c1,e1,x1,cs,q1,q2,q3,q4,q5⟩:=g4.1.at hq
   obtain⟨z1,z2⟩:=q5.len
   have hlu:=g4.1.len
   have hk1:(k:Int)<(row.length:Int):=by omega
   have hk2:k<row.length:=by omega
   have hR:=s1.lt
   have hRn:¬R=n1:=by omega
   have hPn:¬P=n1:=by omega
   have hcc:∀c:List V,(V.agg c).cells=c:=fun _=>rfl
   have s0:=Yl1 z1
   have e4:=Ym9 z1
   have lt1:n1<n1+1:=by omega
   have lR:R<n1+1:=by omega
   have kB:Keeps H1 n1 ((H1.set n1 (.cells [.int .i64 0,.nilslice,.int .i64 0,.nilslice] 114 true)).set n1 (.cells cs 114 true)) (n1+1):=(Keeps.refl.new _).set (Yoy _)
   have gN:((H1.set n1 (.cells [.int .i64 0,.nilslice,.int .i64 0,.nilslice] 114 true)).set n1 (.cells cs 114 true)).get n1=some (.cells cs 114 true):=by rw[T.get_set,Yo4 rfl]
   by_cases e:t=d
   ·subst e
    rw[←Zul]at s1
    simp(disch:=first|(simp;done)|omega|rfl) [-V.cells, -V.one,A.lb124_0,hr,hf,a4,a6,a7,a71,h72,hlt',g1,g3,hR,q1,q2,q3,q4,hlu,hP1,hPl1,Zak,hcc,z1,z2,e4,lt1,hW]
    have le1:=k1.le
    refine⟨m.length-(t+1),by omega,by omega,(k1.new _).set (.inr le1),t+1,by omega,rfl,by simp,s1.keep kB⟩
   ·have e':¬(t:Int)=(d:Int):=by omega
    simp[-V.cells, -V.one,A.lb124_0,hr,a4,a6,a7,a71,h72,hlt',g1,g3,hR,q1,q2,q3,q4,hlu,hk1,hP1,hPl1,Zak,hcc,z1,z2,s0,e4,lt1,e']
    have sB:=s1.keep kB
    have gR:=(kB.get R hR).trans g1
    have qB:=q5.keep kB
    have rB:=g4.keep kB
    have pB:=g4'.keep kB
    have kU:Upd (fun i=>i=R) H n ((H1.set n1 (.cells [.int .i64 0,.nilslice,.int .i64 0,.nilslice] 114 true)).set n1 (.cells cs 114 true)) (n1+1):=(k1.new _).set (.inr k1.le)
    generalize (H1.set n1 (.cells [.int .i64 0,.nilslice,.int .i64 0,.nilslice] 114 true)).set n1 (.cells cs 114 true)=G at*
    refine Zac (Zor qB.fc) ?_
    rintro _ H2 n2 k2 rfl
    have le2:=k2.le
    have hN0:¬n1<N0:=by have:=s.lt;have:=k1.le;omega
    have g2':=(k2.get R (by omega)).trans gR
    have gN2:=(k2.get n1 (by omega)).trans gN
    have lR2:R<n2:=by omega
    have lN2:n1<n2:=by omega
    have hqs:=@Ybo q
    have hz:(sg3 q.num=0)↔q=0:=Yj3
    by_cases c0:q=0
    ·have hz':=hz.2 c0
     simp(disch:=first|(simp;done)|omega|rfl) [hf,h72,hz',hN0,hW]
     refine⟨m.length-(t+1),by omega,kU.trans k2.upd,t+1,by omega,rfl,by simp,?_⟩
     rw[Zou hlt e,hrow,hprow]
     simp only[Yq2]
     rw[Zx7 (by rw[hq];exact c0),Yb9 w1]
     exact sB.keep k2
    ·have hz':¬sg3 q.num=0:=fun hc=>c0 (hz.1 hc)
     simp[hr,a4,a6,hz',g2',g3,g3',hlt',hd']
     have hrb:∀q∈row,Qb K q:=by have:=hK t e;rw[hrow]at this;exact this
     have hpb:∀q∈prow,Qb (2*K) q:=by have:=hPq;rw[hprow]at this;exact this
     have hqb:=hrb q (Yo3 hq)
     refine Zac (Yh9 (fun x y=>x-q*y) (rB.1.keep k2) (pB.1.keep k2) (by omega) (fun x hx y hy h' n' ca cb k' ha hb=>Yk1 (i:=K) (j:=2*K) (k:=K) ((k'.get n1 lN2).trans gN2) (Yo8 lN2 k'.le) ha hb ((qB.keep k2).keep k') (hrb x hx) (hpb y hy) hqb (by omega) (by omega) (by omega) (by omega) (by omega)) (by omega)) ?_
     rintro v3 H3 n3 k3 t3
     have le3:=k3.le
     have s3:=(sB.keep k2).keep k3
     have g4':=(k3.get R lR2).trans g2'
     have hul:t<us.length:=by rw[g2,Zf4];exact hlt
     have hul2:t+1≤us.length:=hul
     have hul':(t:Int)<(us.length:Int):=by omega
     have hsp:∀u,splice us t [u]=us.set t u:=fun u=>Zc1 hul
     have lR3:R<n3:=by omega
     obtain⟨_,hon,hc3⟩:=t3.nou
     simp(disch:=first|(simp;done)|omega|rfl) [-V.cells, -V.one,Zak,hc3,hon,hsp,hul2,g4',hf,h72]
     have hz2:Zks (fun x y=>x-q*y) row prow row.length=Zrk row prow k:=by unfold Zrk;rw[hq];rfl
     rw[hz2]at t3
     have sp:=s3.put2 g4' t3 (i:=t) (by rw[Zf4];exact hlt)
     refine⟨m.length-(t+1),by omega,by rw[Yo0 (by omega),Yo0 hN0];exact hW,((kU.trans k2.upd).trans k3.upd).set (.inl rfl),t+1,by omega,rfl,by simp,?_⟩
     rw[Zou hlt e,hrow,hprow]
     exact sp
  ·obtain rfl:t=m.length:=by omega
   simp[A.lb124_0,hr,hf,a71,h72,k1,hW]
   exact s1
 ·rintro _ r st hr ⟨rfl,hw,k1,s1⟩
  simp[]
  exact⟨hw,k1,s1,hr,rfl,rfl⟩
variable {N R:Nat} {h:T O} {m:List (List Rat)}
set_option maxHeartbeats 4000000
theorem Ztq{m:List (List Rat)}{k d:Nat}:∀{n j:Nat},(Zb8 (fun i=>decide (((m.drop d)[i]?.getD [])[k]?.getD 0≠0)) j n= -1∧pvF m k (d+j) n=d+j+n)∨∃a:Nat,Zb8 (fun i=>decide (((m.drop d)[i]?.getD [])[k]?.getD 0≠0)) j n=a∧pvF m k (d+j) n=d+a∧a<j+n
 |0,j=>.inl ⟨rfl,rfl⟩
 |n+1,j=>by
  unfold Zb8 pvF
  simp only[Yo9]
  by_cases e:(m[d+j]?.getD [])[k]?.getD 0≠0
  ·rw[Yo4 e]
   exact .inr ⟨j,by simp[e],rfl,by omega⟩
  ·rw[Yo0 e]
   simp only[e,decide_false,Ypa,if_false]
   have ih:=@Ztq m k d n (j+1)
   simp only[Yo9]at ih
   rcases ih with⟨h1,h2⟩|⟨a,h1,h2,h3⟩
   ·exact .inl ⟨h1,by rw[show d+j+1=d+(j+1) by omega,h2];omega⟩
   ·exact .inr ⟨a,h1,by rw[show d+j+1=d+(j+1) by omega,h2],by omega⟩
def pvI(ps:List Nat):List Int:=ps.map fun p:Nat=>(p:Int)
theorem RwF.moved{h':T O}{N':Nat}{v:V}{e:TypeId}(s:RwF h N R m)(k:Upd (fun i=>i∈Zcl v) h N h' N')(hd:Zo7 e NW h v)(he:e≠114)(he2:e≠97):RwF h' N' R m:=by
 obtain⟨us,g1,g2,g3,g4,g5⟩:=s.ex
 refine⟨Yo8 s.lt k.le,us,(k.get R s.lt fun hc=>?_).trans g1,g2,g3,g4,fun j l hl=>?_⟩
 ·obtain⟨z,hz,_⟩:=hd R hc
  rw[g1]at hz
  simp at hz
  exact he2 hz.2.symm
 ·obtain⟨u,a1,a2⟩:=g5 j l hl
  exact⟨u,a1,a2.moved k hd he⟩
theorem Zvn{W0:List Nat}{N0:Nat}{H:T O}{n:Nat}{r0:T V}{c K:Nat}(s:RwF H n R m)(hR0:N0≤R)(hc:RcN m c)(hml:m.length<1000)(hm0:0<m.length)(hcl:c<1000)(hK1:1≤K)(hK:QbM m K)(hB:∀n,n<m.length→n<c→3*kB K n≤400000)(kH:Keeps h N0 H n)(hW0:Zaa N0 W0=[])(a4:r0.get 4=some (.slice R 0 m.length (some m.length) 1))(a5:r0.get 5=some .nilslice)(a6:r0.get 6=some (.int .i64 0))(a25:r0.get 25=some (.int .i64 c))(a26:r0.get 26=some (.int .i64 0)):
  Code A.C none (.loop A.lb124_1) ⟨r0,120,[]⟩ ⟨H,n,W0⟩ (fun e fr st=>e=.exit 0∧Zaa N0 st.w=[]∧Keeps h N0 st.h st.n∧RwF st.h st.n R (Zbp m c).1∧∃r v,Fx [(5,12),(26,115)] r0 120 ⟨r,120,[]⟩∧fr=⟨r,120,[]⟩∧r.get 6=some (.int .i64 (Zbp m c).2.1)∧r.get 5=some v∧OwI N0 st.h st.n v (pvI (Zbp m c).2.2)):=by
 rw[Zah]
 refine Zaj [(5,12),(26,115)] (fun e r st=>e=.exit 0∧Zaa N0 st.w=[]∧Keeps h N0 st.h st.n∧RwF st.h st.n R (Zbp m c).1∧∃v,r.get 6=some (.int .i64 (Zbp m c).2.1)∧r.get 5=some v∧OwI N0 st.h st.n v (pvI (Zbp m c).2.2)) (fun i r st=>Zaa N0 st.w=[]∧Keeps h N0 st.h st.n∧∃k v,k≤c∧i=c-k∧r.get 26=some (.int .i64 k)∧r.get 6=some (.int .i64 (Zbp m k).2.1)∧r.get 5=some v∧OwI N0 st.h st.n v (pvI (Zbp m k).2.2)∧(Zbp m k).2.1<m.length∧RwF st.h st.n R (Zbp m k).1) c ?_ ?_ ?_
 ·exact⟨hW0,kH,0,_,by omega,by omega,a26,a6,a5,OwI.nil,hm0,s⟩
 ·rintro i r ⟨H1,n1,W⟩ hr hf ⟨hW,k1,k,pv,hk,rfl,h26,h6,h5,hO,hdm,s1⟩
  simp only at hW k1 s1 hO
  rw[Zah]
  have hlen:(Zbp m k).1.length=m.length:=Zgs
  obtain⟨hrc,hdl⟩:=@Zqw m c hc k
  by_cases hlt:k<c
  ·have hlt':(k:Int)<(c:Int):=by omega
   obtain⟨us,g1,g2,g3,g4,g5⟩:=id s1.ex
   have hR:=s1.lt
   have hRn:¬R=n1:=by omega
   have kA:Keeps H1 n1 ((H1.set n1 (.cells [.int .i64 0] 3 true)).set n1 (.cells [.int .i64 k] 3 true)) (n1+1):=(Keeps.refl.new _).set (Yoy _)
   have gP:((H1.set n1 (.cells [.int .i64 0] 3 true)).set n1 (.cells [.int .i64 k] 3 true)).get n1=some (.cells [.int .i64 k] 3 true):=by rw[T.get_set,Yo4 rfl]
   have sA:=s1.keep kA
   have gA:=(kA.get R hR).trans g1
   have oA:=hO.keep kA
   have kU:=k1.trans kA
   simp[A.lb124_1,hr,a4,h6,a25,h26,hlt',Zak,splice]
   generalize (H1.set n1 (.cells [.int .i64 0] 3 true)).set n1 (.cells [.int .i64 k] 3 true)=G at*
   have hs:Sl G (n1+1) (.slice R 0 m.length (some m.length) 1) us:=Sl.row (by omega) gA (by omega) fun k hk=>by simp at hk;omega
   obtain⟨sv,e1,e2⟩:=Zem (w:=n1::W) hs (lo:=(Zbp m k).2.1) (hi:=us.length) (by omega) (Yoy _) (some (.int .i64 (Zbp m k).2.1)) none (.inl rfl) (.inr ⟨rfl,rfl⟩)
   rw[Yo7 (Yoy _)]at e2
   simp[Zbv,e1]
   have hst0:pvQ (Zbp m k).1 (Zbp m k).2.1 k=m.length→Zbp m (k+1)=Zbp m k:=fun hp=>by
    rw[Zcn]
    unfold Zmu
    rw[Yo0 (by omega)]
   have hst1:pvQ (Zbp m k).1 (Zbp m k).2.1 k<m.length→Zbp m (k+1)=(Zj3 (Zmw (Ziw (Zbp m k).1 (Zbp m k).2.1 (pvQ (Zbp m k).1 (Zbp m k).2.1 k)) (Zbp m k).2.1 k) (Zbp m k).2.1 k (Zbp m k).1.length,(Zbp m k).2.1+1,(Zbp m k).2.2++[k]):=fun hp=>by
    rw[Zcn]
    unfold Zmu
    rw[Yo4 (by omega)]
   have hdone:=@Zov m k
   have hpp:=@Yal m k
   have hqM:QbM (Zbp m k).1 (kB K (Zbp m k).2.1):=Yak hK hK1
   have hful:=@Zum m (k+1)
   generalize hd:(Zbp m k).2.1=d at*
   generalize hm1:(Zbp m k).1=m1 at*
   generalize hps:(Zbp m k).2.2=ps at*
   have hP1:n1<n1+1:=by omega
   have hdl2:(us.drop d).length=m1.length-d:=by rw[Yqu,g2]
   refine Zac (Yid (us.drop d) (fun i:Nat=>decide (((m1.drop d)[i]?.getD [])[k]?.getD 0≠0)) e2 (by omega) fun j x hx h' n' hk'=>?_) ?_
   ·have hx':us[d+j]?=some x:=by rw[←Yo9];exact hx
    obtain⟨row,hrow⟩:=Zaf (l:=m1) (k:=d+j) (by have:=Za6 hx';omega)
    obtain⟨y,b1,b2⟩:=g5 _ _ hrow
    rw[hx']at b1
    simp only[Yox]at b1
    subst b1
    have:=Yk3 (k:=k) ((hk'.get n1 hP1).trans gP) (Yo8 hP1 hk'.le) ((b2.keep kA).keep hk').1 (by rw[hrc row (Yo3 hrow)];exact hlt)
    simp only[Yo9,hrow,Yq2]
    exact this
   rintro _ H2 n2 k2 rfl
   rw[hdl2]
   have le2:=k2.le
   have gP2:=(k2.get n1 hP1).trans gP
   have s2:=sA.keep k2
   have o2:=oA.keep k2
   have g2':=(k2.get R (by omega)).trans gA
   have kU2:=kU.trans k2
   have hN0:¬n1<N0:=by have:=k1.le;omega
   have lR2:R<n2:=by omega
   rcases @Ztq m1 k d (m1.length-d) 0 with⟨f1,f2⟩|⟨a,f1,f2,f3⟩
   ·rw[f1]
    have hpe:pvQ m1 d k=m.length:=by unfold pvQ;have:=f2;rw[Yqd]at this;omega
    simp(disch:=first|(simp;done)|omega|rfl) [hf,h5,h6,h26,hN0,hW]
    refine⟨c-(k+1),by omega,kU2,k+1,by omega,rfl,by simp,?_,?_⟩
    ·rw[hst0 hpe];simp[hd]
    ·rw[hst0 hpe,hm1,hps,hd]
     exact⟨o2,hdm,s2⟩
   ·rw[f1]
    rw[Yqd]at f2
    obtain⟨p,hp⟩:∃p,p=d+a:=⟨_,rfl⟩
    have hpv:pvQ m1 d k=p:=by unfold pvQ;omega
    have hda:(d:Int)+(a:Int)=(p:Int):=by omega
    have hpl:p<m1.length:=by omega
    have hd2:d<m1.length:=by omega
    obtain⟨rd,hrd⟩:=Zaf hd2
    obtain⟨rp,hrp⟩:=Zaf hpl
    obtain⟨ud,x3,x4⟩:=g5 _ _ hrd
    obtain⟨up,y3,y4⟩:=g5 _ _ hrp
    have hdu:d<us.length:=by omega
    have hpu:p<us.length:=by omega
    have hd':(d:Int)<(m.length:Int):=by omega
    have hp':(p:Int)<(m.length:Int):=by omega
    have hdm2:d<m.length:=by omega
    have hpm:p<m.length:=by omega
    have hda0:¬(a:Int)<0:=by omega
    have z1:∀u,splice us d [u]=us.set d u:=fun u=>Zc1 hdu
    have z2:∀u,splice (us.set d up) p [u]=(us.set d up).set p u:=fun u=>Zc1 (by simp;exact hpu)
    obtain⟨_,c1,o1⟩:=x4.nou
    obtain⟨_,c2,o2'⟩:=y4.nou
    have l1:d+1≤us.length:=hdu
    have l2:p+1≤us.length:=hpu
    simp(disch:=first|(simp;done)|omega|rfl) [-getElem?_pos, -V.cells, -V.one,hr,a4,h6,hda,hda0,g2',x3,y3,lR2,Zak,c1,o1,c2,o2',z1,z2,l1,l2]
    have U2:Upd (fun i=>i=R) H2 n2 ((H2.set R (.cells (us.set d up) 97 true)).set R (.cells ((us.set d up).set p ud) 97 true)) n2:=⟨Yoy _,fun i _ hi=>by rw[T.get_set,Yo0 hi,T.get_set,Yo0 hi]⟩
    have gA1:(H2.set R (.cells (us.set d up) 97 true)).get R=some (.cells (us.set d up) 97 true):=by rw[T.get_set,Yo4 rfl]
    have hx4:=(x4.keep kA).keep k2
    have hy4:=(y4.keep kA).keep k2
    have sA1:=s2.put2 g2' hy4 hd2
    have sB:=sA1.put2 gA1 (hx4.setR g2' (by decide) g3 (by simp)) (i:=p) (by rw[Yrd];exact hpl)
    have gB:((H2.set R (.cells (us.set d up) 97 true)).set R (.cells ((us.set d up).set p ud) 97 true)).get R=some (.cells ((us.set d up).set p ud) 97 true):=by rw[T.get_set,Yo4 rfl]
    have hsw:(m1.set d rp).set p rd=Ziw m1 d p:=by unfold Ziw;rw[hrd,hrp];rfl
    rw[hsw]at sB
    have hul:((us.set d up).set p ud).length=m1.length:=by simp only[Yrd];omega
    generalize (H2.set R (.cells (us.set d up) 97 true)).set R (.cells ((us.set d up).set p ud) 97 true)=G2 at*
    generalize (us.set d up).set p ud=vs at*
    have gPB:=(U2.get n1 (by omega) (by omega)).trans gP2
    have oB:=o2.movedR g2' (fun z hz=>by simp at hz) U2
    have hqB:=hqM.swp (d:=d) (p:=p)
    have hrB:=hrc.swp hd2 hpl
    have hlB:(Ziw m1 d p).length=m1.length:=Zgd
    have hne:=@Ztr m1 k (m1.length-d) d (by unfold pvQ at hpv;omega)
    have hrow:(Ziw m1 d p)[d]?=some rp:=by
     rw[←hsw]
     by_cases e:p=d
     ·rw[e,hrd]at hrp
      simp only[Yox]at hrp
      rw[e,hrp,Ypc (by simp;omega)]
     ·rw[Yo5 e,Ypc hd2]
    have hpvr:rp[k]?.getD 0≠0:=by
     have h9:=hpv
     unfold pvQ at h9
     rw[h9,hrp]at hne
     exact hne
    obtain⟨vs',vd,b1,b2,b3,b4⟩:=sB.at hrow
    rw[gB]at b1
    simp only[Yox,O.cells.injEq,and_true]at b1
    subst b1
    have hrpl:=hrB rp (Yo3 hrow)
    obtain⟨q,hq⟩:=Zaf (l:=rp) (k:=k) (by omega)
    have hrb:=hqB rp (Yo3 hrow)
    have hqb:=hrb q (Yo3 hq)
    have hq0:q≠0:=by rw[hq]at hpvr;exact hpvr
    have hkq:=hB d hdm2 (by omega)
    obtain⟨i1,t1,w1,e3,v1,cs,q1,q2,q3,q4,q5⟩:=b4.1.at hq
    obtain⟨r1,r2⟩:=q5.len
    have hlv:=b4.1.len
    have hk1:(k:Int)<(rp.length:Int):=by omega
    have hk2:k<rp.length:=by omega
    have hcc:∀c:List V,(V.agg c).cells=c:=fun _=>rfl
    have s0:=Yl1 r1
    have e4:=Ym9 r1
    have lt2:n2<n2+1:=by omega
    have hRn2:¬R=n2:=by omega
    have lP2:n1<n2:=by omega
    have hPn2:¬n1=n2:=by omega
    simp(disch:=first|(simp;done)|omega|rfl) [-getElem?_pos, -V.cells, -V.one,hr,a4,h6,b3,gB,gPB,lP2,lR2,q1,q2,q3,q4,hlv,Zak,hcc,r1,r2,e4,lt2,hRn2]
    have kC:Keeps G2 n2 ((G2.set n2 (.cells [.int .i64 0,.nilslice,.int .i64 0,.nilslice] 114 true)).set n2 (.cells cs 114 true)) (n2+1):=(Keeps.refl.new _).set (Yoy _)
    have gQ:((G2.set n2 (.cells [.int .i64 0,.nilslice,.int .i64 0,.nilslice] 114 true)).set n2 (.cells cs 114 true)).get n2=some (.cells cs 114 true):=by rw[T.get_set,Yo4 rfl]
    generalize (G2.set n2 (.cells [.int .i64 0,.nilslice,.int .i64 0,.nilslice] 114 true)).set n2 (.cells cs 114 true)=G3 at*
    refine Zac (Yhx (fun x=>x/q) (b4.keep kC).1 (by omega) fun x hx c' h' n' k' hc'=>Yk2 (j:=kB K d) (k:=kB K d) ((k'.get n2 lt2).trans gQ) (Yo8 lt2 k'.le) hc' ((q5.keep kC).keep k') hq0 (hrb x hx) hqb (by omega) (by omega)) ?_
    rintro v3 H3 n3 k3 t3
    have le3:=k3.le
    have gR3:=(k3.get R (by omega)).trans ((kC.get R lR2).trans gB)
    have sC:=((sB.keep kC).keep k3).put2 gR3 t3 (i:=d) (by rw[hlB];exact hd2)
    have hsc:(Ziw m1 d p).set d (rp.map fun x=>x/q)=Zmw (Ziw m1 d p) d k:=by
     unfold Zmw
     rw[hrow]
     simp only[Yq2,hq]
    rw[hsc]at sC
    have hmC:(Zmw (Ziw m1 d p) d k).length=m.length:=by rw[Zod,Zgd];exact hlen
    have hdv:d<vs.length:=by omega
    have hdv1:d+1≤vs.length:=hdv
    have z3:∀u,splice vs d [u]=vs.set d u:=fun u=>Zc1 hdv
    have lR3:R<n3:=by omega
    have lRp:R<n2+1:=by omega
    obtain⟨_,c3,o3⟩:=t3.nou
    simp(disch:=first|(simp;done)|omega|rfl) [-V.cells, -V.one,hr,a4,gR3,Zak,c3,o3,z3,hdv1]
    have U3:Upd (fun i=>i=R) H2 n2 (H3.set R (.cells (vs.set d v3) 97 true)) n3:=((U2.trans kC.upd).trans k3.upd).set (.inl rfl)
    have gPC:=(U3.get n1 (by omega) (by omega)).trans gP2
    have gRC:(H3.set R (.cells (vs.set d v3) 97 true)).get R=some (.cells (vs.set d v3) 97 true):=by rw[T.get_set,Yo4 rfl]
    generalize H3.set R (.cells (vs.set d v3) 97 true)=G4 at*
    refine Zbl (Yct (cp:=some m.length) (N0:=N0) (P:=n1) (d:=d) (K:=kB K d) sC hR0 gPC (by omega) (hrB.scl (by omega)) hlt (by omega) (by omega) (by omega) (Zue hK1) (fun i hi=>by
     unfold Zmw
     rw[Yo5 (Ne.symm hi)]
     exact hqB.at) (by
     unfold Zmw
     rw[Ypc (by omega)]
     exact Zyh hqB (Zue hK1) (by rw[hrow];exact hpvr)) (by omega) (by simp[Yr9.2 hR0,hN0,hW,show ¬n2<N0 by omega]) (by simp[hr,a4,hmC]) (by simp[h6]) (by simp) (by simp[hmC]) (by simp)) ?_
    rintro _ _ ⟨H4,n4,W4⟩ ⟨rfl,hw4,U4,s4,r4,f4,rfl⟩
    simp only at hw4 U4 s4
    have hr4:=f4.reg
    have hf4:=hf.inner (D':=[(10,12),(72,104)]) (by decide) (fun hx=>by simpa[Fx.set]using hx) hr4
    have le4:=U4.le
    have gP4:=(U4.get n1 (by omega) (by omega)).trans gPC
    have o4:=(o2.movedR g2' (fun z hz=>by simp at hz) U3).movedR gRC (fun z hz=>by simp at hz) U4
    have lP4:n1<n4:=by omega
    have sp1:splice [V.int .i64 0] 0 [V.int .i64 k]=[V.int .i64 k]:=rfl
    simp[hr4,h5,gP4,sp1]
    have kD:Keeps H4 n4 (H4.set n4 (.cells [.int .i64 k] 3 true)) (n4+1):=Keeps.refl.new _
    obtain⟨v',h',w',j1,j2,j3,j4,j5,j6⟩:=OwI.push (B:=N0) (x:=.slice n4 0 1 (some 1) 1) (k:=k) (w:=W4) (o4.keep kD) (Yoy _) (by omega) hw4 (by simp[Zaw,St.row,slc]) (by simp[pvI];omega)
    have s5:=(s4.keep kD).moved j3 j4 (by decide) (by decide)
    have kF:Keeps h N0 h' (n4+1+1):=⟨by have:=kU2.le;omega,fun i hi=>by
     rw[j3.get i (by omega) (fun hc=>by have:=j5 i hc;omega),T.get_set,Yo0 (by omega),U4.get i (by omega) (by omega),U3.get i (by omega) (by omega)]
     exact kU2.get i hi⟩
    have hst:=hst1 (by omega)
    rw[hpv]at hst
    rw[hmC,←hlen]at s5
    have hpi:pvI (ps++[k])=pvI ps++[(k:Int)]:=by simp[pvI]
    by_cases hE:d+1=m.length
    ·have hE':(d:Int)+1=(m.length:Int):=by omega
     have hcf:Zbp m c=Zbp m (k+1):=by
      have:=hful (n:=c-(k+1)) (by rw[hst];exact hE)
      rw[←this,show k+1+(c-(k+1))=c by omega]
     simp(disch:=first|(simp;done)|omega|rfl) [j1,hr4,hf4,hr,a4,h6,hE',j2,kF]
     rw[hcf,hst,hpi]
     exact⟨s5,hE.symm,j6⟩
    ·have hE':¬(d:Int)+1=(m.length:Int):=by omega
     simp(disch:=first|(simp;done)|omega|rfl) [j1,hr4,hf4,hr,a4,h6,h26,hE',j2,kF]
     refine⟨c-(k+1),by omega,k+1,by omega,rfl,by simp,?_⟩
     rw[hst,hpi]
     exact⟨by simp,j6,by show d+1<m.length;omega,s5⟩
  ·obtain rfl:k=c:=by omega
   simp[A.lb124_1,hr,hf,h5,h6,a25,h26,k1,hW]
   exact⟨s1,hO⟩
 ·rintro _ r st hr ⟨rfl,hw,k1,s1,v,h6,h5,hO⟩
  simp[]
  exact⟨hw,k1,s1,r,⟨hr,rfl,rfl⟩,rfl,h6,v,h5,hO⟩
theorem RwF.mfs{d:Nat}{v:V}{us:List V}(s:RwF h N R m)(g:h.get R=some (.cells us 97 true))(hv:Sl h N v (us.take d))(hd:d≤m.length):MfS h N v (m.take d):=by
 obtain⟨vs,g1,g2,_,_,g3⟩:=s.ex
 rw[g]at g1
 simp only[Yox,O.cells.injEq,and_true]at g1
 subst g1
 refine⟨us.take d,hv,by simp[g2],fun j l hl=>?_⟩
 by_cases hj:j<d
 ·rw[Ypf,Yo4 hj]at hl ⊢
  exact g3 j l hl
 ·rw[Ypf,Yo0 hj]at hl
  cases hl
theorem Zw9{u:V}{c K:Nat}(hu:MfS h N u m)(hc:RcN m c)(hml:m.length<1000)(hm0:0<m.length)(hcl:c<1000)(hK1:1≤K)(hK:QbM m K)(hB:∀n,n<m.length→n<c→3*kB K n≤400000):Fn A.C 124 [u] h N (fun x h' n'=>∃a b,x=.tup [a,b]∧MfS h' n' a (Yl5 m c)∧OwI N h' n' b (pvI (Zbp m c).2.2)):=by
 intro w
 have lu:=hu.len
 obtain⟨us,h1,h2,h3⟩:=hu
 have h1':=h1
 rcases h1 with⟨hn,_⟩|⟨i,o,cp,c',e,rw',rfl,q2,q3,q4,q5,q6⟩
 ·rw[hn]at h2
  simp at h2
  omega
 have hne:¬i=N:=by omega
 have q3':(h.set N (.cells (Zc7 [.nilslice] m.length) 97 true)).get i=some (.cells c' e rw'):=by rw[T.get_set,Yo0 hne];exact q3
 have gz:(h.set N (.cells (Zc7 [.nilslice] m.length) 97 true)).get N=some (.cells (Zc7 [.nilslice] m.length) 97 true):=by simp
 have hsrc:=Ye9 (N:=N+1) (w:=[]) (cp:=cp) q3' q4 q5
 rw[h2]at hsrc
 have cpy:=Zxd (cp:=some m.length) hm0 hsrc h2 gz (by rw[Ye3];simp)
 have kB:Keeps h N ((h.set N (.cells (Zc7 [.nilslice] m.length) 97 true)).set N (.cells us 97 true)) (N+1):=(Keeps.refl.new _).set (Yoy _)
 have gN:((h.set N (.cells (Zc7 [.nilslice] m.length) 97 true)).set N (.cells us 97 true)).get N=some (.cells us 97 true):=by rw[T.get_set,Yo4 rfl]
 have sR:RwF ((h.set N (.cells (Zc7 [.nilslice] m.length) 97 true)).set N (.cells us 97 true)) (N+1) N m:=⟨by omega,us,gN,h2,?nu,?one,fun j l hl=>by
  obtain⟨x,a1,a2⟩:=h3 j l hl
  exact⟨x,a1,a2.keep kB⟩⟩
 case nu=>
  intro x hx
  obtain⟨j,hj⟩:=Yrf hx
  obtain⟨l,hl⟩:=Zaf (l:=m) (k:=j) (by have:=Za6 hj;omega)
  obtain⟨y,a1,a2⟩:=h3 j l hl
  rw[hj]at a1
  simp only[Yox]at a1
  subst a1
  exact a2.nou.1
 case one=>
  rw[Ypv]
  intro x hx
  obtain⟨j,hj⟩:=Yrf hx
  obtain⟨l,hl⟩:=Zaf (l:=m) (k:=j) (by have:=Za6 hj;omega)
  obtain⟨y,a1,a2⟩:=h3 j l hl
  rw[hj]at a1
  simp only[Yox]at a1
  subst a1
  exact a2.nou.2.1
 rw[h2]at h1'
 obtain⟨l0,hl0⟩:=Zaf hm0
 obtain⟨x0,b1,b2⟩:=h3 0 l0 hl0
 obtain⟨i2,o2,cc2,e2,rw2,p1,p2,p3,p4⟩:=(h1'.keep kB).at b1
 rw[Yqd]at p4
 have b3:=b2.1.len
 rw[hc l0 (Yo3 hl0)]at b3
 have hmn:¬m=[]:=fun hc=>by rw[hc]at hm0;simp at hm0
 have hm0':¬(m.length:Int)=0:=by omega
 have hm0'':(0:Int)<(m.length:Int):=by omega
 have cc1:(24:Int)*(m.length:Int)≤140737488355328:=by omega
 have cc3:(m.length:Int)<4611686018427387904:=by omega
 rw[h2]at lu
 rw[Zab,A.k124 (by simp)]
 simp[A.b124,h2,hm0,cc1,cc3,cpy,hmn,p1,p3,p4,b3]
 generalize (h.set N (.cells (Zc7 [.nilslice] m.length) 97 true)).set N (.cells us 97 true)=G at*
 refine Zbl (Zvn (N0:=N) (h:=h) sR (Yoy _) hc hml hm0 hcl hK1 hK hB kB (by simp) (by simp) (by simp) (by simp) (by simp) (by simp)) ?_
 rintro _ _ ⟨H4,n4,W4⟩ ⟨rfl,hw,k4,s4,r4,pv,f4,rfl,x6,x5,oI⟩
 simp only at hw k4 s4 oI
 have hr4:=f4.reg
 obtain⟨vs,g1,g2,_⟩:=id s4.ex
 have hl4:(Zbp m c).1.length=m.length:=Zgs
 have hdl:=(@Zqw m c hc c).2
 have hs:Sl H4 n4 (.slice N 0 m.length (some m.length) 1) vs:=Sl.row s4.lt g1 (by omega) fun k hk=>by simp at hk;omega
 obtain⟨v',e1,e2⟩:=Zem (w:=W4) hs (lo:=0) (hi:=(Zbp m c).2.1) (by omega) (by omega) none (some (.int .i64 (Zbp m c).2.1)) (.inr ⟨rfl,rfl⟩) (.inl rfl)
 rw[Yri]at e2
 simp[Zbv,hr4,x6,x5,e1,Ret,hw]
 exact⟨k4,v',pv,⟨rfl,rfl⟩,s4.mfs g1 e2 (by omega),oI⟩
variable {N:Nat} {h:T O}
def A.b43:Zae:=sr [mc 2 0,mc 3 0]
 (.seq (sr [mv 7 0,c1 8 47 7,mv 4 8]
 (sr [mv 9 4,ni 10 9 0]
 (cd 10
 (sr [mv 11 4,mc 2 0,mv 3 11]
 (.ret))
 (.skip))))
 (sr [mv 13 0,c1 14 71 13,c1 15 124 14,mv 12 15,xt 16 12 0,xt 17 12 1,mv 5 16,mv 6 17]
 (sr [mv 18 5,ln 19 18,mv 2 19,mc 3 0]
 (.ret))))
theorem A.c43:A.F 43=some ⟨20,[.tmp 2,.tmp 3],A.b43⟩:=by kernel_rfl
def A.k43:=@A.kk 43 _ _ _ A.c43 rfl
def A.b125:Zae:=sr [bx 1 99 0,⟨(some 2),.mov (.const .nilfunc),none⟩]
 (sr [⟨(some 3),.mkfunc 197 [] [(.tmp 1)],none⟩,mv 2 3]
 (.ret))
theorem A.c125:A.F 125=some ⟨4,[.tmp 2],A.b125⟩:=by kernel_rfl
def A.k125:=@A.kk 125 _ _ _ A.c125 rfl
def A.b127:Zae:=sr [bx 1 114 0,⟨(some 2),.mov (.const (.bool false)),none⟩]
 (sr [lN 3 4 1,c1 4 128 3,ni 5 4 0,mv 2 5]
 (.ret))
theorem A.c127:A.F 127=some ⟨6,[.tmp 2],A.b127⟩:=by kernel_rfl
def A.k127:=@A.kk 127 _ _ _ A.c127 rfl
theorem OkM.lens{m:List (List Str)}{n:Nat}(h:OkM m n):(Zrw m).length<1000∧0<(Zrw m).length∧n<1000∧(∀k,k<(Zrw m).length→k<n→3*kB 96 k≤400000)∧(∀l∈Zrw m,l.length<1000000∧∀q∈l,Qb 100 q):=by
 have h1:=h.pos
 have h2:=h.le
 have h3:=h.n6
 rw[Yco]
 refine⟨by omega,h1,by omega,fun k h4 h5=>Ym2 (by omega),fun l hl=>?_⟩
 obtain⟨a,b⟩:=h.rat l hl
 exact⟨by omega,b⟩
def Yl4(m:List (List Str)):Int:=if Zmh m 64 16=0 then ((Yl5 (Zrw m) (hdL m)).length:Int) else 0
theorem Yg1{u:V}{m:List (List Str)}(hm:MtS h N u m)(sm:Zen 6 6 m=true):Fn A.C 43 [u] h N (fun x _ _=>x=.tup [.int .i64 (Yl4 m),.int .i64 (Zmh m 64 16)]):=by
 intro w
 obtain⟨m1,m2⟩:=Zjx sm
 rw[Zab,A.k43 (by simp)]
 simp[A.b43]
 refine Zac (Zky hm m1 m2) ?_
 rintro _ H1 n1 k1 rfl
 unfold Yl4
 by_cases hE:Zmh m 64 16=0
 ·have hM:=Zo1 hE sm
  obtain⟨l1,l2,l3,l4,l5⟩:=hM.lens
  simp[hE]
  refine Zac (Ztm (k0:=100) ((hm.keep k1).rat fun r hr=>(hM.row r hr).2) (by omega) l5 (by decide)) ?_
  rintro v H2 n2 k2 hv
  simp[]
  refine Zac (Zw9 hv hM.qb.1 l1 l2 l3 (by decide) hM.qb.2 l4) ?_
  rintro _ H3 n3 k3 ⟨a,b,rfl,ha,hb⟩
  have la:=ha.len
  simp[la,Ret]
  exact(k1.trans k2).trans k3
 ·simp[hE,Ret]
  exact k1
theorem Yge{c:List V}{q:Rat}(hc:FcC h N c q):FnV A.C (.func 127 [] []) [.agg c] h N (fun x _ _=>x=.bool (decide (q≠0))):=by
 intro w
 obtain⟨c1,c2⟩:=hc.len
 have hcc:∀c:List V,(V.agg c).cells=c:=fun _=>rfl
 have s0:=Yl1 c1
 have kB:Keeps h N (h.set N (.cells c 114 true)) (N+1):=Keeps.refl.new _
 have hz:(sg3 q.num=0)↔q=0:=Yj3
 rw[Zab,A.k127 (by simp)]
 simp[-V.cells, -V.one,A.b127,hcc,c2,s0]
 refine Zac (Zor (hc.keep kB).fc) ?_
 rintro _ H2 n2 k2 rfl
 simp[Ret]
 refine⟨kB.trans k2,?_⟩
 by_cases c0:q=0
 ·subst c0
  simp[sg3]
 ·have:¬sg3 q.num=0:=fun h=>c0 (hz.1 h)
  simp[c0,this]
theorem Yek{u:V}(h1:V.one u=true)(h2:V.cells u=[u]):Fn A.C 125 [u] h N (fun x h' n'=>∃e,x=.func 197 [] [.ptr N 0]∧N<n'∧h'.get N=some (.cells [u] e true)):=by
 intro w
 have kB:∀e,Keeps h N (h.set N (.cells [u] e true)) (N+1):=fun e=>Keeps.refl.new _
 rw[Zab,A.k125 (by simp)]
 simp[-V.cells, -V.one,A.b125,h1,h2,Ret]
 exact kB _
end Go.Mx
