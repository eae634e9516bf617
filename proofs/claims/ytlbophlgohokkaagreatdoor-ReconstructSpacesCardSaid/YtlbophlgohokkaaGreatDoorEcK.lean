/-
  reconstruct.echelon: the rows less the pivot row.
-/
import Derived.Test.YtlbophlgohokkaaGreatDoorCoL
set_option linter.all false
namespace Go.Mx
open Go Go.Proofs
variable {R:Nat} {m:List (List Rat)}
set_option maxHeartbeats 2000000
set_option maxRecDepth 1000000
def A.zaU:aq:=sr [bi 73 .lss 72 71]
 (.seq (cd 73
 (.skip)
 (.exit 2))
 (.seq (.block 3 (sr [mv 74 72,mv 10 74]
 (.seq (.aS [mv 75 4,mv 76 10,ia 77 1 75 76,ld 78 77,ld 79 7,ia 80 4 78 79,lN 81 4 80,⟨(some 11),.alloc [(.int .i64 0),.aa,(.int .i64 0),.aa] 114,none⟩,⟨none,.store 4 (.tmp 11) (.tmp 81),none⟩] [0,0,3,7,0,31,63,0,255])
 (sr [mv 82 10,mv 83 6,⟨(some 84),.bin .neq (.aH .int) false (.tmp 82) (.tmp 83),none⟩,mv 85 84,⟨(some 86),.load (some 4) (.tmp 11),(some (85,true))⟩,⟨(some 87),.call (.const (.func 128 [] [])) [(.tmp 86)],(some (85,true))⟩,⟨(some 88),.bin .neq (.aH .int) true (.tmp 87) (.const (.int .i64 0)),(some (85,true))⟩,pf 89 85 88]
 (cd 89
 (sr [mv 90 4,mv 91 6,ia 92 1 90 91,ld 93 92,mv 12 93]
 (.aL [mv 94 4,mv 95 10,mv 96 4,mv 97 10,ia 98 1 96 97,ld 99 98,mv 100 12,⟨(some 101),.cI 196 [] [(.tmp 11)],none⟩,⟨(some 102),.call (.const (.func 89 [] [])) [(.tmp 99),(.tmp 100),(.tmp 101)],none⟩,ia 103 1 94 95,so 103 102]))
 (.skip))))))
 (.aL [bc 104 .add 72 1,mv 72 104])))
def A.za7:aq:=sr [bi 27 .lss 26 25]
 (.seq (cd 27
 (.skip)
 (.exit 0))
 (.seq (.block 1 (sr [mv 28 26,⟨(some 7),.alloc [(.int .i64 0)] 3,none⟩,so 7 28]
 (sr [mv 29 4,mv 30 6,⟨(some 31),.cP 1 (.tmp 29) (some (.tmp 30)) none none,none⟩,⟨(some 32),.cI 194 [] [(.tmp 7)],none⟩,c2 33 193 31 32,mv 8 33]
 (.seq (sr [mv 34 8,bc 35 .lss 34 0]
 (cd 35
 (.exit 1)
 (.skip)))
 (.seq (.aS [mv 36 4,mv 37 6,mv 38 4,mv 39 6,mv 40 8,bi 41 .add 39 40,mv 42 4,mv 43 6,mv 44 8,bi 45 .add 43 44,ia 46 1 42 45,ld 47 46,mv 48 4,mv 49 6,ia 50 1 48 49,ld 51 50,ia 52 1 36 37,so 52 47,ia 53 1 38 41,so 53 51] [0,0,0,0,0,24,0,0,0,384,960,1984,0,0,12288,28672,65475,131011,262143,524287])
 (.seq (.aS [mv 54 4,mv 55 6,ia 56 1 54 55,ld 57 56,ld 58 7,ia 59 4 57 58,lN 60 4 59,⟨(some 9),.alloc [(.int .i64 0),.aa,(.int .i64 0),.aa] 114,none⟩,⟨none,.store 4 (.tmp 9) (.tmp 60),none⟩] [0,0,3,7,0,31,63,0,255])
 (sr [mv 61 4,mv 62 6,mv 63 4,mv 64 6,ia 65 1 63 64,ld 66 65,⟨(some 67),.cI 195 [] [(.tmp 9)],none⟩,c2 68 187 66 67,ia 69 1 61 62,so 69 68]
 (.seq (sr [mv 70 4,ln 71 70,mc 72 0]
 (.block 2 (.loop A.zaU)))
 (sr [mv 105 5,ld 106 7,⟨(some 107),.aY 3 1 1 [(.int .i64 0)] [(0,1,(.tmp 106))],none⟩,⟨(some 108),.append 1 8 3 [(.int .i64 0)] (.tmp 105) (.tmp 107),none⟩,mv 5 108]
 (sr [mv 109 6,bc 110 .add 109 1,mv 6 110]
 (sr [mv 111 6,mv 112 4,ln 113 112,⟨(some 114),.bin .eql (.aH .int) false (.tmp 111) (.tmp 113),none⟩]
 (cd 114
 (.exit 0)
 (.skip)))))))))))))
 (.aL [bc 115 .add 26 1,mv 26 115])))
def A.b124:aq:=sr [mN 2,mN 3]
 (.scope (sr [mv 13 0,ln 14 13,⟨(some 15),.bD 97 1 24 [.aa] (.tmp 14) (.tmp 14),none⟩,mv 4 15]
 (sr [mv 16 4,mv 17 0,⟨(some 18),.copy 1 (.tmp 16) (.tmp 17),none⟩]
 (sr [mN 5]
 (.seq (sr [mv 19 0,ln 20 19,ei 21 20 0]
 (cd 21
 (sr [mN 2,mN 3]
 (.ret))
 (.skip)))
 (sr [mc 6 0]
 (.seq (.skip)
 (.seq (sr [mv 22 0,⟨(some 23),.aI 1 (.tmp 22) (.const (.int .i64 0)),none⟩,ld 24 23,ln 25 24,mc 26 0]
 (.block 0 (.loop A.za7)))
 (sr [mv 116 4,mv 117 6,⟨(some 118),.cP 1 (.tmp 116) none (some (.tmp 117)) none,none⟩,mv 119 5,mv 2 118,mv 3 119]
 (.ret))))))))))
theorem A.c124:A.F 124=some ⟨120,[.tmp 2,.tmp 3],A.b124⟩:=by kernel_rfl
def A.k124:=@A.kk 124 _ _ _ A.c124 rfl
theorem jB.at{h:T O}{N:Nat}(s:jB h N R m){j:Nat}{l:List Rat}(hj:m[j]?=some l):∃us u,h.get R=some (.cells us 97 true)/\us.length=m.length/\us[j]?=some u/\jA h N u l:=by
 obtain⟨us,g1,g2,_,_,g5⟩:=s.ex
 obtain⟨u,a1,a2⟩:=g5 j l hj
 exact⟨us,u,g1,g2,a1,a2⟩
theorem jB.xR{h:T O}{N i:Nat}{u:V}{l:List Rat}{us:List V}(s:jB h N R m)(g:h.get R=some (.cells us 97 true))(hu:jA h N u l)(hi:i<m.length):jB (h.set R (.cells (us.set i u) 97 true)) N R (m.set i l):=by
 obtain⟨vs,g1,_,g2⟩:=s.put hu hi
 rw[g]at g1
 simp only[ai,O.cells.injEq,and_true]at g1
 subst g1
 exact g2
theorem Dz{c:List V}(h:c.length=4):aM c 0 4=some c:=by unfold aM;rw[h];simp;exact fN (by omega)
theorem Jr{c:List V}(h:c.length=4):ag [V.int .i64 0,.aa,.int .i64 0,.aa] 0 c=c:=by unfold ag;rw[h];simp
theorem Yfh{α:Type}{l:List α}{i:Nat}{a:α}(h:l[i]?=some a):l.set i a=l:=by
 apply iW
 intro j
 by_cases e:j=i
 ·subst e
  rw[fy (tn.1 h).1,h]
 ·rw[dr (Ne.symm e)]
theorem Yp6{q:Rat}:dK q.num=0↔q=0:=by
 have h1:=@wv q
 unfold dK
 constructor
 ·intro hh
  apply h1.1
  split at hh
  ·omega
  ·split at hh<;>omega
 ·intro hh
  have:=h1.2 hh
  rw[this]
  rfl
theorem Yf2{W0:List Nat}{N0:Nat}{H:T O}{n P:Nat}{r0:T V}{d k c K:Nat}{cp:Option Nat}(s:jB H n R m)(uB:N0<=R)(hP:H.get P=some (.cells [.int .i64 k] 3 true))(Tr:P<n)(hc:ew m c)(hk:k<c)(hd:d<m.length)(oe:m.length<1000)(cr:c<1000)(uz:1<=K)(hK:∀i,i≠d->∀q∈m[i]?.getD [],Qb K q)(hPq:∀q∈m[d]?.getD [],Qb (2*K) q)(hKl:3*K<=400000)(pA:au N0 W0=[])(a4:r0.get 4=some (.slice R 0 m.length cp 1))(a6:r0.get 6=some (.int .i64 d))(a7:r0.get 7=some (.ptr P 0))(Nz:r0.get 71=some (.int .i64 m.length))(a72:r0.get 72=some (.int .i64 0)):
  Code A.C none (.loop A.zaU) ⟨r0,120,[]⟩ ⟨H,n,W0⟩ (fun e fr st=>e=.exit 2/\au N0 st.w=[]/\dC (fun i=>i=R) H n st.h st.n/\jB st.h st.n R (gl m d k m.length)/\∃r,Fx [(10,12),(72,104)] r0 120 ⟨r,120,[]⟩/\fr=⟨r,120,[]⟩):=by
 have hPR:¬P=R:=fun hc=>by
  obtain⟨us,g,_⟩:=s.ex
  rw[hc,g]at hP
  simp at hP
 rw[bn]
 refine bN [(10,12),(72,104)] (fun e r st=>e=.exit 2/\au N0 st.w=[]/\dC (fun i=>i=R) H n st.h st.n/\jB st.h st.n R (gl m d k m.length)) (fun i r st=>au N0 st.w=[]/\dC (fun i=>i=R) H n st.h st.n/\∃t,t<=m.length/\i=m.length-t/\r.get 72=some (.int .i64 t)/\jB st.h st.n R (gl m d k t)) (m.length) ?_ ?_ ?_
 ·exact⟨pA,dC.refl,0,by omega,by omega,a72,by rw[S3];exact s⟩
 ·rintro i r ⟨H1,n1,W⟩ hr hf ⟨hW,k1,t,ht,rfl,FB,s1⟩
  simp only at hW k1 s1
  rw[bn]
  have DC:=(k1.get P Tr hPR).trans hP
  have FC:=dZ Tr k1.le
  by_cases aB:t<m.length
  ·have bj:(t:Int)<(m.length:Int):=by omega
   have xL:(d:Int)<(m.length:Int):=by omega
   obtain⟨row,aj⟩:=bs aB
   obtain⟨jE,gJ⟩:=bs hd
   have mV:=hc row (cm aj)
   have jz:=hc jE (cm gJ)
   have w2:(gl m d k t)[d]?=some jE:=by rw[S4 hd];exact gJ
   have w1:(gl m d k t)[t]?=some row:=by rw[zm aB,ar (by omega),aj];rfl
   obtain⟨us,u,g1,g2,g3,g4⟩:=s1.at w1
   obtain⟨us',v,xM,_,A6,Ds⟩:=s1.at w2
   rw[g1]at xM
   simp only[ai,O.cells.injEq,and_true]at xM
   subst xM
   obtain⟨q,hq⟩:=bs (l:=row) (k:=k) (by omega)
   obtain⟨i1,o1,c1,e1,x1,cs,q1,q2,q3,q4,q5⟩:=g4.1.at hq
   obtain⟨z1,z2⟩:=q5.len
   have mW:=g4.1.len
   have bU:(k:Int)<(row.length:Int):=by omega
   have il:k<row.length:=by omega
   have hR:=s1.lt
   have NA:¬R=n1:=by omega
   have Ts:¬P=n1:=by omega
   have jj:∀c:List V,(V.agg c).cells=c:=fun _=>rfl
   have s0:=Dz z1
   have e4:=Jr z1
   have NB:n1<n1+1:=by omega
   have lR:R<n1+1:=by omega
   have kB:ab H1 n1 ((H1.set n1 (.cells [.int .i64 0,.aa,.int .i64 0,.aa] 114 true)).set n1 (.cells cs 114 true)) (n1+1):=(ab.refl.new _).set (aV _)
   have gN:((H1.set n1 (.cells [.int .i64 0,.aa,.int .i64 0,.aa] 114 true)).set n1 (.cells cs 114 true)).get n1=some (.cells cs 114 true):=by rw[T.ah,aF rfl]
   by_cases e:t=d
   ·subst e
    rw[<-S5]at s1
    simp(disch:=first|(simp;done)|omega|rfl) [-V.cells, -V.one,A.zaU,hr,hf,a4,a6,a7,Nz,FB,bj,g1,g3,hR,q1,q2,q3,q4,mW,DC,FC,bL,jj,z1,z2,e4,NB,hW]
    have re:=k1.le
    refine⟨m.length-(t+1),by omega,by omega,(k1.new _).set (.inr re),t+1,by omega,rfl,by simp,s1.ad kB⟩
   ·have e':¬(t:Int)=(d:Int):=by omega
    simp[-V.cells, -V.one,A.zaU,hr,a4,a6,a7,Nz,FB,bj,g1,g3,hR,q1,q2,q3,q4,mW,bU,DC,FC,bL,jj,z1,z2,s0,e4,NB,e']
    have sB:=s1.ad kB
    have gR:=(kB.get R hR).trans g1
    have qB:=q5.ad kB
    have rB:=g4.ad kB
    have pB:=Ds.ad kB
    have kU:dC (fun i=>i=R) H n ((H1.set n1 (.cells [.int .i64 0,.aa,.int .i64 0,.aa] 114 true)).set n1 (.cells cs 114 true)) (n1+1):=(k1.new _).set (.inr k1.le)
    generalize (H1.set n1 (.cells [.int .i64 0,.aa,.int .i64 0,.aa] 114 true)).set n1 (.cells cs 114 true)=G at*
    refine ax (SZ qB.fc) ?_
    rintro _ H2 n2 k2 rfl
    have mT:=k2.le
    have FD:¬n1<N0:=by have:=s.lt;have:=k1.le;omega
    have oh:=(k2.get R (by omega)).trans gR
    have DD:=(k2.get n1 (by omega)).trans gN
    have xN:R<n2:=by omega
    have Tt:n1<n2:=by omega
    have NC:=@wv q
    have hz:(dK q.num=0)↔q=0:=Yp6
    by_cases c0:q=0
    ·have p9:=hz.2 c0
     simp(disch:=first|(simp;done)|omega|rfl) [hf,FB,p9,FD,hW]
     refine⟨m.length-(t+1),by omega,kU.trans k2.upd,t+1,by omega,rfl,by simp,?_⟩
     rw[M5 aB e,aj,gJ]
     simp only[og]
     rw[Yag (by rw[hq];exact c0),Yfh w1]
     exact sB.ad k2
    ·have p9:¬dK q.num=0:=fun hc=>c0 (hz.1 hc)
     simp[hr,a4,a6,p9,oh,g3,A6,bj,xL]
     have su:∀q∈row,Qb K q:=by have:=hK t e;rw[aj]at this;exact this
     have Dq:∀q∈jE,Qb (2*K) q:=by have:=hPq;rw[gJ]at this;exact this
     have jm:=su q (cm hq)
     refine ax (Ylv (fun x y=>x-q*y) (rB.1.ad k2) (pB.1.ad k2) (by omega) (fun x hx y hy h' n' ca cb k' ha hb=>Yo2 (i:=K) (j:=2*K) (k:=K) ((k'.get n1 Tt).trans DD) (dZ Tt k'.le) ha hb ((qB.ad k2).ad k') (su x hx) (Dq y hy) jm (by omega) (by omega) (by omega) (by omega) (by omega)) (by omega)) ?_
     rintro v3 H3 n3 k3 t3
     have tg:=k3.le
     have s3:=(sB.ad k2).ad k3
     have Ds:=(k3.get R xN).trans oh
     have wF:t<us.length:=by rw[g2,wx];exact aB
     have p_:t+1<=us.length:=wF
     have gV:(t:Int)<(us.length:Int):=by omega
     have fz:∀u,ag us t [u]=us.set t u:=fun u=>xI wF
     have Nu:R<n3:=by omega
     obtain⟨_,Nj,ND⟩:=t3.zk
     simp(disch:=first|(simp;done)|omega|rfl) [-V.cells, -V.one,bL,ND,Nj,fz,p_,Ds,hf,FB]
     have dP:jP (fun x y=>x-q*y) row jE row.length=py row jE k:=by unfold py;rw[hq];rfl
     rw[dP]at t3
     have sp:=s3.xR Ds t3 (i:=t) (by rw[wx];exact aB)
     refine⟨m.length-(t+1),by omega,by rw[ar (by omega),ar FD];exact hW,((kU.trans k2.upd).trans k3.upd).set (.inl rfl),t+1,by omega,rfl,by simp,?_⟩
     rw[M5 aB e,aj,gJ]
     exact sp
  ·obtain rfl:t=m.length:=by omega
   simp[A.zaU,hr,hf,Nz,FB,k1,hW]
   exact s1
 ·rintro _ r st hr ⟨rfl,hw,k1,s1⟩
  simp[]
  exact⟨hw,k1,s1,hr,rfl,rfl⟩
variable {N R:Nat} {h:T O} {m:List (List Rat)}
set_option maxHeartbeats 4000000
theorem Tu{m:List (List Rat)}{k d:Nat}:∀{n j:Nat},(ka (fun i=>decide (((m.drop d)[i]?.getD [])[k]?.getD 0≠0)) j n= -1/\ma m k (d+j) n=d+j+n)\/∃a:Nat,ka (fun i=>decide (((m.drop d)[i]?.getD [])[k]?.getD 0≠0)) j n=a/\ma m k (d+j) n=d+a/\a<j+n
 |0,j=>.inl ⟨rfl,rfl⟩
 |n+1,j=>by
  unfold ka ma
  simp only[fe]
  by_cases e:(m[d+j]?.getD [])[k]?.getD 0≠0
  ·rw[aF e]
   exact .inr ⟨j,by simp[e],rfl,by omega⟩
  ·rw[ar e]
   simp only[e,decide_false,eL,if_false]
   have ih:=@Tu m k d n (j+1)
   simp only[fe]at ih
   rcases ih with⟨h1,h2⟩|⟨a,h1,h2,h3⟩
   ·exact .inl ⟨h1,by rw[show d+j+1=d+(j+1) by omega,h2];omega⟩
   ·exact .inr ⟨a,h1,by rw[show d+j+1=d+(j+1) by omega,h2],by omega⟩
def oz(ps:List Nat):List Int:=ps.map fun p:Nat=>(p:Int)
theorem jB.cL{h':T O}{N':Nat}{v:V}{e:TypeId}(s:jB h N R m)(k:dC (fun i=>i∈dj v) h N h' N')(hd:pV e NW h v)(he:e≠114)(qe:e≠97):jB h' N' R m:=by
 obtain⟨us,g1,g2,g3,g4,g5⟩:=s.ex
 refine⟨dZ s.lt k.le,us,(k.get R s.lt fun hc=>?_).trans g1,g2,g3,g4,fun j l hl=>?_⟩
 ·obtain⟨z,hz,_⟩:=hd R hc
  rw[g1]at hz
  simp at hz
  exact qe hz.2.symm
 ·obtain⟨u,a1,a2⟩:=g5 j l hl
  exact⟨u,a1,a2.cL k hd he⟩
theorem Zxx{W0:List Nat}{N0:Nat}{H:T O}{n:Nat}{r0:T V}{c K:Nat}(s:jB H n R m)(uB:N0<=R)(hc:ew m c)(oe:m.length<1000)(fA:0<m.length)(cr:c<1000)(uz:1<=K)(hK:e_ m K)(hB:∀n,n<m.length->n<c->3*kB K n<=400000)(kH:ab h N0 H n)(pA:au N0 W0=[])(a4:r0.get 4=some (.slice R 0 m.length (some m.length) 1))(a5:r0.get 5=some .aa)(a6:r0.get 6=some (.int .i64 0))(a25:r0.get 25=some (.int .i64 c))(a26:r0.get 26=some (.int .i64 0)):
  Code A.C none (.loop A.za7) ⟨r0,120,[]⟩ ⟨H,n,W0⟩ (fun e fr st=>e=.exit 0/\au N0 st.w=[]/\ab h N0 st.h st.n/\jB st.h st.n R (aU m c).1/\∃r v,Fx [(5,12),(26,115)] r0 120 ⟨r,120,[]⟩/\fr=⟨r,120,[]⟩/\r.get 6=some (.int .i64 (aU m c).2.1)/\r.get 5=some v/\mX N0 st.h st.n v (oz (aU m c).2.2)):=by
 rw[bn]
 refine bN [(5,12),(26,115)] (fun e r st=>e=.exit 0/\au N0 st.w=[]/\ab h N0 st.h st.n/\jB st.h st.n R (aU m c).1/\∃v,r.get 6=some (.int .i64 (aU m c).2.1)/\r.get 5=some v/\mX N0 st.h st.n v (oz (aU m c).2.2)) (fun i r st=>au N0 st.w=[]/\ab h N0 st.h st.n/\∃k v,k<=c/\i=c-k/\r.get 26=some (.int .i64 k)/\r.get 6=some (.int .i64 (aU m k).2.1)/\r.get 5=some v/\mX N0 st.h st.n v (oz (aU m k).2.2)/\(aU m k).2.1<m.length/\jB st.h st.n R (aU m k).1) c ?_ ?_ ?_
 ·exact⟨pA,kH,0,_,by omega,by omega,a26,a6,a5,mX.nil,fA,s⟩
 ·rintro i r ⟨H1,n1,W⟩ hr hf ⟨hW,k1,k,pv,hk,rfl,Js,h6,h5,hO,uA,s1⟩
  simp only at hW k1 s1 hO
  rw[bn]
  have hlen:(aU m k).1.length=m.length:=sw
  obtain⟨Du,gW⟩:=@wG m c hc k
  by_cases aB:k<c
  ·have bj:(k:Int)<(c:Int):=by omega
   obtain⟨us,g1,g2,g3,g4,g5⟩:=id s1.ex
   have hR:=s1.lt
   have NA:¬R=n1:=by omega
   have kA:ab H1 n1 ((H1.set n1 (.cells [.int .i64 0] 3 true)).set n1 (.cells [.int .i64 k] 3 true)) (n1+1):=(ab.refl.new _).set (aV _)
   have gP:((H1.set n1 (.cells [.int .i64 0] 3 true)).set n1 (.cells [.int .i64 k] 3 true)).get n1=some (.cells [.int .i64 k] 3 true):=by rw[T.ah,aF rfl]
   have sA:=s1.ad kA
   have gA:=(kA.get R hR).trans g1
   have oA:=hO.ad kA
   have kU:=k1.trans kA
   simp[A.za7,hr,a4,h6,a25,Js,bj,bL,ag]
   generalize (H1.set n1 (.cells [.int .i64 0] 3 true)).set n1 (.cells [.int .i64 k] 3 true)=G at*
   have hs:Sl G (n1+1) (.slice R 0 m.length (some m.length) 1) us:=Sl.row (by omega) gA (by omega) fun k hk=>by simp at hk;omega
   obtain⟨sv,e1,e2⟩:=Ba (w:=n1::W) hs (lo:=(aU m k).2.1) (hi:=us.length) (by omega) (aV _) (some (.int .i64 (aU m k).2.1)) none (.inl rfl) (.inr ⟨rfl,rfl⟩)
   rw[fN (aV _)]at e2
   simp[zu,e1]
   have xS:eJ (aU m k).1 (aU m k).2.1 k=m.length->aU m (k+1)=aU m k:=fun hp=>by
    rw[ui]
    unfold jC
    rw[ar (by omega)]
   have gn:eJ (aU m k).1 (aU m k).2.1 k<m.length->aU m (k+1)=(gl (gS (er (aU m k).1 (aU m k).2.1 (eJ (aU m k).1 (aU m k).2.1 k)) (aU m k).2.1 k) (aU m k).2.1 k (aU m k).1.length,(aU m k).2.1+1,(aU m k).2.2++[k]):=fun hp=>by
    rw[ui]
    unfold jC
    rw[aF (by omega)]
   have Tv:=@Dt m k
   have Tw:=@Tn m k
   have Nr:e_ (aU m k).1 (kB K (aU m k).2.1):=Jl hK uz
   have NF:=@Tm m (k+1)
   generalize hd:(aU m k).2.1=d at*
   generalize jo:(aU m k).1=m1 at*
   generalize ml:(aU m k).2.2=ps at*
   have DC:n1<n1+1:=by omega
   have NG:(us.drop d).length=m1.length-d:=by rw[tr,g2]
   refine ax (Yl0 (us.drop d) (fun i:Nat=>decide (((m1.drop d)[i]?.getD [])[k]?.getD 0≠0)) e2 (by omega) fun j x hx h' n' ga=>?_) ?_
   ·have ja:us[d+j]?=some x:=by rw[<-fe];exact hx
    obtain⟨row,aj⟩:=bs (l:=m1) (k:=d+j) (by have:=kc ja;omega)
    obtain⟨y,b1,b2⟩:=g5 _ _ aj
    rw[ja]at b1
    simp only[ai]at b1
    subst b1
    have:=Yo4 (k:=k) ((ga.get n1 DC).trans gP) (dZ DC ga.le) ((b2.ad kA).ad ga).1 (by rw[Du row (cm aj)];exact aB)
    simp only[fe,aj,og]
    exact this
   rintro _ H2 n2 k2 rfl
   rw[NG]
   have mT:=k2.le
   have Ty:=(k2.get n1 DC).trans gP
   have s2:=sA.ad k2
   have o2:=oA.ad k2
   have oh:=(k2.get R (by omega)).trans gA
   have NH:=kU.trans k2
   have FD:¬n1<N0:=by have:=k1.le;omega
   have xN:R<n2:=by omega
   rcases @Tu m1 k d (m1.length-d) 0 with⟨f1,f2⟩|⟨a,f1,f2,f3⟩
   ·rw[f1]
    have wH:eJ m1 d k=m.length:=by unfold eJ;have:=f2;rw[jR]at this;omega
    simp(disch:=first|(simp;done)|omega|rfl) [hf,h5,h6,Js,FD,hW]
    refine⟨c-(k+1),by omega,NH,k+1,by omega,rfl,by simp,?_,?_⟩
    ·rw[xS wH];simp[hd]
    ·rw[xS wH,jo,ml,hd]
     exact⟨o2,uA,s2⟩
   ·rw[f1]
    rw[jR]at f2
    obtain⟨p,hp⟩:∃p,p=d+a:=⟨_,rfl⟩
    have pz:eJ m1 d k=p:=by unfold eJ;omega
    have hda:(d:Int)+(a:Int)=(p:Int):=by omega
    have jz:p<m1.length:=by omega
    have fu:d<m1.length:=by omega
    obtain⟨rd,tm⟩:=bs fu
    obtain⟨rp,sD⟩:=bs jz
    obtain⟨ud,x3,x4⟩:=g5 _ _ tm
    obtain⟨up,y3,y4⟩:=g5 _ _ sD
    have Fu:d<us.length:=by omega
    have Fv:p<us.length:=by omega
    have xL:(d:Int)<(m.length:Int):=by omega
    have Np:(p:Int)<(m.length:Int):=by omega
    have NI:d<m.length:=by omega
    have Jm:p<m.length:=by omega
    have NJ:¬(a:Int)<0:=by omega
    have z1:∀u,ag us d [u]=us.set d u:=fun u=>xI Fu
    have z2:∀u,ag (us.set d up) p [u]=(us.set d up).set p u:=fun u=>xI (by simp;exact Fv)
    obtain⟨_,c1,o1⟩:=x4.zk
    obtain⟨_,c2,Jt⟩:=y4.zk
    have l1:d+1<=us.length:=Fu
    have l2:p+1<=us.length:=Fv
    simp(disch:=first|(simp;done)|omega|rfl) [-getElem?_pos, -V.cells, -V.one,hr,a4,h6,hda,NJ,oh,x3,y3,xN,bL,c1,o1,c2,Jt,z1,z2,l1,l2]
    have U2:dC (fun i=>i=R) H2 n2 ((H2.set R (.cells (us.set d up) 97 true)).set R (.cells ((us.set d up).set p ud) 97 true)) n2:=⟨aV _,fun i _ hi=>by rw[T.ah,ar hi,T.ah,ar hi]⟩
    have Bb:(H2.set R (.cells (us.set d up) 97 true)).get R=some (.cells (us.set d up) 97 true):=by rw[T.ah,aF rfl]
    have hx4:=(x4.ad kA).ad k2
    have NK:=(y4.ad kA).ad k2
    have sA1:=s2.xR oh NK fu
    have sB:=sA1.xR Bb (hx4.pX oh (by decide) g3 (by simp)) (i:=p) (by rw[q_];exact jz)
    have gB:((H2.set R (.cells (us.set d up) 97 true)).set R (.cells ((us.set d up).set p ud) 97 true)).get R=some (.cells ((us.set d up).set p ud) 97 true):=by rw[T.ah,aF rfl]
    have xH:(m1.set d rp).set p rd=er m1 d p:=by unfold er;rw[tm,sD];rfl
    rw[xH]at sB
    have wF:((us.set d up).set p ud).length=m1.length:=by simp only[q_];omega
    generalize (H2.set R (.cells (us.set d up) 97 true)).set R (.cells ((us.set d up).set p ud) 97 true)=G2 at*
    generalize (us.set d up).set p ud=vs at*
    have gPB:=(U2.get n1 (by omega) (by omega)).trans Ty
    have oB:=o2.qc oh (fun z hz=>by simp at hz) U2
    have sE:=Nr.zn (d:=d) (p:=p)
    have Fw:=Du.zn fu jz
    have Ns:(er m1 d p).length=m1.length:=ti
    have bA:=@Fm m1 k (m1.length-d) d (by unfold eJ at pz;omega)
    have aj:(er m1 d p)[d]?=some rp:=by
     rw[<-xH]
     by_cases e:p=d
     ·rw[e,tm]at sD
      simp only[ai]at sD
      rw[e,sD,fy (by simp;omega)]
     ·rw[dr e,fy fu]
    have qa:rp[k]?.getD 0≠0:=by
     have h9:=pz
     unfold eJ at h9
     rw[h9,sD]at bA
     exact bA
    obtain⟨iZ,vd,b1,b2,b3,b4⟩:=sB.at aj
    rw[gB]at b1
    simp only[ai,O.cells.injEq,and_true]at b1
    subst b1
    have Nt:=Fw rp (cm aj)
    obtain⟨q,hq⟩:=bs (l:=rp) (k:=k) (by omega)
    have su:=sE rp (cm aj)
    have jm:=su q (cm hq)
    have nP:q≠0:=by rw[hq]at qa;exact qa
    have hkq:=hB d NI (by omega)
    obtain⟨i1,t1,w1,e3,v1,cs,q1,q2,q3,q4,q5⟩:=b4.1.at hq
    obtain⟨r1,r2⟩:=q5.len
    have kg:=b4.1.len
    have bU:(k:Int)<(rp.length:Int):=by omega
    have il:k<rp.length:=by omega
    have jj:∀c:List V,(V.agg c).cells=c:=fun _=>rfl
    have s0:=Dz r1
    have e4:=Jr r1
    have NL:n2<n2+1:=by omega
    have NM:¬R=n2:=by omega
    have lP2:n1<n2:=by omega
    have zab:¬n1=n2:=by omega
    simp(disch:=first|(simp;done)|omega|rfl) [-getElem?_pos, -V.cells, -V.one,hr,a4,h6,b3,gB,gPB,lP2,xN,q1,q2,q3,q4,kg,bL,jj,r1,r2,e4,NL,NM]
    have kC:ab G2 n2 ((G2.set n2 (.cells [.int .i64 0,.aa,.int .i64 0,.aa] 114 true)).set n2 (.cells cs 114 true)) (n2+1):=(ab.refl.new _).set (aV _)
    have gQ:((G2.set n2 (.cells [.int .i64 0,.aa,.int .i64 0,.aa] 114 true)).set n2 (.cells cs 114 true)).get n2=some (.cells cs 114 true):=by rw[T.ah,aF rfl]
    generalize (G2.set n2 (.cells [.int .i64 0,.aa,.int .i64 0,.aa] 114 true)).set n2 (.cells cs 114 true)=G3 at*
    refine ax (Ylj (fun x=>x/q) (b4.ad kC).1 (by omega) fun x hx c' h' n' k' lV=>Yo3 (j:=kB K d) (k:=kB K d) ((k'.get n2 NL).trans gQ) (dZ NL k'.le) lV ((q5.ad kC).ad k') nP (su x hx) jm (by omega) (by omega)) ?_
    rintro v3 H3 n3 k3 t3
    have tg:=k3.le
    have Tz:=(k3.get R (by omega)).trans ((kC.get R xN).trans gB)
    have sC:=((sB.ad kC).ad k3).xR Tz t3 (i:=d) (by rw[Ns];exact fu)
    have wy:(er m1 d p).set d (rp.map fun x=>x/q)=gS (er m1 d p) d k:=by
     unfold gS
     rw[aj]
     simp only[og,hq]
    rw[wy]at sC
    have Dv:(gS (er m1 d p) d k).length=m.length:=by rw[Dm,ti];exact hlen
    have ra:d<vs.length:=by omega
    have A8:d+1<=vs.length:=ra
    have z3:∀u,ag vs d [u]=vs.set d u:=fun u=>xI ra
    have Nu:R<n3:=by omega
    have lRp:R<n2+1:=by omega
    obtain⟨_,c3,o3⟩:=t3.zk
    simp(disch:=first|(simp;done)|omega|rfl) [-V.cells, -V.one,hr,a4,Tz,bL,c3,o3,z3,A8]
    have U3:dC (fun i=>i=R) H2 n2 (H3.set R (.cells (vs.set d v3) 97 true)) n3:=((U2.trans kC.upd).trans k3.upd).set (.inl rfl)
    have TA:=(U3.get n1 (by omega) (by omega)).trans Ty
    have gRC:(H3.set R (.cells (vs.set d v3) 97 true)).get R=some (.cells (vs.set d v3) 97 true):=by rw[T.ah,aF rfl]
    generalize H3.set R (.cells (vs.set d v3) 97 true)=G4 at*
    refine iY (Yf2 (cp:=some m.length) (N0:=N0) (P:=n1) (d:=d) (K:=kB K d) sC uB TA (by omega) (Fw.Je (by omega)) aB (by omega) (by omega) (by omega) (zq uz) (fun i hi=>by
     unfold gS
     rw[dr (Ne.symm hi)]
     exact sE.at) (by
     unfold gS
     rw[fy (by omega)]
     exact M7 sE (zq uz) (by rw[aj];exact qa)) (by omega) (by simp[oo.2 uB,FD,hW,show ¬n2<N0 by omega]) (by simp[hr,a4,Dv]) (by simp[h6]) (by simp) (by simp[Dv]) (by simp)) ?_
    rintro _ _ ⟨H4,n4,W4⟩ ⟨rfl,Fy,U4,s4,r4,f4,rfl⟩
    simp only at Fy U4 s4
    have kh:=f4.aL
    have Dw:=hf.inner (D':=[(10,12),(72,104)]) (by decide) (fun hx=>by simpa[Fx.set]using hx) kh
    have NN:=U4.le
    have gP4:=(U4.get n1 (by omega) (by omega)).trans TA
    have o4:=(o2.qc oh (fun z hz=>by simp at hz) U3).qc gRC (fun z hz=>by simp at hz) U4
    have lP4:n1<n4:=by omega
    have xU:ag [V.int .i64 0] 0 [V.int .i64 k]=[V.int .i64 k]:=rfl
    simp[kh,h5,gP4,xU]
    have kD:ab H4 n4 (H4.set n4 (.cells [.int .i64 k] 3 true)) (n4+1):=ab.refl.new _
    obtain⟨v',h',w',j1,j2,j3,j4,j5,j6⟩:=mX.push (B:=N0) (x:=.slice n4 0 1 (some 1) 1) (k:=k) (w:=W4) (o4.ad kD) (aV _) (by omega) Fy (by simp[ft,St.row,aM]) (by simp[oz];omega)
    have s5:=(s4.ad kD).cL j3 j4 (by decide) (by decide)
    have kF:ab h N0 h' (n4+1+1):=⟨by have:=NH.le;omega,fun i hi=>by
     rw[j3.get i (by omega) (fun hc=>by have:=j5 i hc;omega),T.ah,ar (by omega),U4.get i (by omega) (by omega),U3.get i (by omega) (by omega)]
     exact NH.get i hi⟩
    have dH:=gn (by omega)
    rw[pz]at dH
    rw[Dv,<-hlen]at s5
    have Ju:oz (ps++[k])=oz ps++[(k:Int)]:=by simp[oz]
    by_cases hE:d+1=m.length
    ·have NO:(d:Int)+1=(m.length:Int):=by omega
     have hcf:aU m c=aU m (k+1):=by
      have:=NF (n:=c-(k+1)) (by rw[dH];exact hE)
      rw[<-this,show k+1+(c-(k+1))=c by omega]
     simp(disch:=first|(simp;done)|omega|rfl) [j1,kh,Dw,hr,a4,h6,NO,j2,kF]
     rw[hcf,dH,Ju]
     exact⟨s5,hE.symm,j6⟩
    ·have NO:¬(d:Int)+1=(m.length:Int):=by omega
     simp(disch:=first|(simp;done)|omega|rfl) [j1,kh,Dw,hr,a4,h6,Js,NO,j2,kF]
     refine⟨c-(k+1),by omega,k+1,by omega,rfl,by simp,?_⟩
     rw[dH,Ju]
     exact⟨by simp,j6,by show d+1<m.length;omega,s5⟩
  ·obtain rfl:k=c:=by omega
   simp[A.za7,hr,hf,h5,h6,a25,Js,k1,hW]
   exact⟨s1,hO⟩
 ·rintro _ r st hr ⟨rfl,hw,k1,s1,v,h6,h5,hO⟩
  simp[]
  exact⟨hw,k1,s1,r,⟨hr,rfl,rfl⟩,rfl,h6,v,h5,hO⟩
theorem jB.NP{d:Nat}{v:V}{us:List V}(s:jB h N R m)(g:h.get R=some (.cells us 97 true))(hv:Sl h N v (us.take d))(hd:d<=m.length):oC h N v (m.take d):=by
 obtain⟨vs,g1,g2,_,_,g3⟩:=s.ex
 rw[g]at g1
 simp only[ai,O.cells.injEq,and_true]at g1
 subst g1
 refine⟨us.take d,hv,by simp[g2],fun j l hl=>?_⟩
 by_cases hj:j<d
 ·rw[gU,aF hj]at hl ⊢
  exact g3 j l hl
 ·rw[gU,ar hj]at hl
  cases hl
theorem NQ{u:V}{c K:Nat}(hu:oC h N u m)(hc:ew m c)(oe:m.length<1000)(fA:0<m.length)(cr:c<1000)(uz:1<=K)(hK:e_ m K)(hB:∀n,n<m.length->n<c->3*kB K n<=400000):Fn A.C 124 [u] h N (fun x h' n'=>∃a b,x=.bb [a,b]/\oC h' n' a (gm m c)/\mX N h' n' b (oz (aU m c).2.2)):=by
 intro w
 have lu:=hu.len
 obtain⟨us,h1,h2,h3⟩:=hu
 have fB:=h1
 rcases h1 with⟨hn,_⟩|⟨i,o,cp,c',e,oD,rfl,q2,q3,q4,q5,q6⟩
 ·rw[hn]at h2
  simp at h2
  omega
 have bA:¬i=N:=by omega
 have zv:(h.set N (.cells (cj [.aa] m.length) 97 true)).get i=some (.cells c' e oD):=by rw[T.ah,ar bA];exact q3
 have gz:(h.set N (.cells (cj [.aa] m.length) 97 true)).get N=some (.cells (cj [.aa] m.length) 97 true):=by simp
 have FF:=Tb (N:=N+1) (w:=[]) (cp:=cp) zv q4 q5
 rw[h2]at FF
 have cpy:=Zzn (cp:=some m.length) fA FF h2 gz (by rw[Jv];simp)
 have kB:ab h N ((h.set N (.cells (cj [.aa] m.length) 97 true)).set N (.cells us 97 true)) (N+1):=(ab.refl.new _).set (aV _)
 have gN:((h.set N (.cells (cj [.aa] m.length) 97 true)).set N (.cells us 97 true)).get N=some (.cells us 97 true):=by rw[T.ah,aF rfl]
 have sR:jB ((h.set N (.cells (cj [.aa] m.length) 97 true)).set N (.cells us 97 true)) (N+1) N m:=⟨by omega,us,gN,h2,?nu,?one,fun j l hl=>by
  obtain⟨x,a1,a2⟩:=h3 j l hl
  exact⟨x,a1,a2.ad kB⟩⟩
 case nu=>
  intro x hx
  obtain⟨j,hj⟩:=xP hx
  obtain⟨l,hl⟩:=bs (l:=m) (k:=j) (by have:=kc hj;omega)
  obtain⟨y,a1,a2⟩:=h3 j l hl
  rw[hj]at a1
  simp only[ai]at a1
  subst a1
  exact a2.zk.1
 case one=>
  rw[lM]
  intro x hx
  obtain⟨j,hj⟩:=xP hx
  obtain⟨l,hl⟩:=bs (l:=m) (k:=j) (by have:=kc hj;omega)
  obtain⟨y,a1,a2⟩:=h3 j l hl
  rw[hj]at a1
  simp only[ai]at a1
  subst a1
  exact a2.zk.2.1
 rw[h2]at fB
 obtain⟨l0,ff⟩:=bs fA
 obtain⟨x0,b1,b2⟩:=h3 0 l0 ff
 obtain⟨i2,o2,Td,e2,Nc,p1,p2,p3,p4⟩:=(fB.ad kB).at b1
 rw[jR]at p4
 have b3:=b2.1.len
 rw[hc l0 (cm ff)]at b3
 have NR:¬m=[]:=fun hc=>by rw[hc]at fA;simp at fA
 have A7:¬(m.length:Int)=0:=by omega
 have TC:(0:Int)<(m.length:Int):=by omega
 have Jw:(24:Int)*(m.length:Int)<=140737488355328:=by omega
 have cc3:(m.length:Int)<4611686018427387904:=by omega
 rw[h2]at lu
 rw[aP,A.k124 (by simp)]
 simp[A.b124,h2,fA,Jw,cc3,cpy,NR,p1,p3,p4,b3]
 generalize (h.set N (.cells (cj [.aa] m.length) 97 true)).set N (.cells us 97 true)=G at*
 refine iY (Zxx (N0:=N) (h:=h) sR (aV _) hc oe fA cr uz hK hB kB (by simp) (by simp) (by simp) (by simp) (by simp) (by simp)) ?_
 rintro _ _ ⟨H4,n4,W4⟩ ⟨rfl,hw,k4,s4,r4,pv,f4,rfl,x6,x5,oI⟩
 simp only at hw k4 s4 oI
 have kh:=f4.aL
 obtain⟨vs,g1,g2,_⟩:=id s4.ex
 have hl4:(aU m c).1.length=m.length:=sw
 have gW:=(@wG m c hc c).2
 have hs:Sl H4 n4 (.slice N 0 m.length (some m.length) 1) vs:=Sl.row s4.lt g1 (by omega) fun k hk=>by simp at hk;omega
 obtain⟨v',e1,e2⟩:=Ba (w:=W4) hs (lo:=0) (hi:=(aU m c).2.1) (by omega) (by omega) none (some (.int .i64 (aU m c).2.1)) (.inr ⟨rfl,rfl⟩) (.inl rfl)
 rw[tu]at e2
 simp[zu,kh,x6,x5,e1,aA,hw]
 exact⟨k4,v',pv,⟨rfl,rfl⟩,s4.NP g1 e2 (by omega),oI⟩
variable {K k n:Nat} {m:List (List Rat)} {ps:List Nat}
def jS(m:List (List Rat))(ps:List Nat)(n k:Nat)(p:Nat->Bool):List Rat:=(List.range n).map fun j=>if j=k then 1 else if p j=true then -dt m (ps.idxOf j) k else 0
theorem Bc{p:Nat->Bool}:(jS m ps n k p).length=n:=by simp[jS]
theorem TD:jS m ps n k (fun j=>decide (j∈ps))=qd m ps n k:=by
 unfold jS qd
 apply uj
 intro j _
 by_cases e:j=k
 ·rw[aF e,aF e]
 ·rw[ar e,ar e]
  by_cases h:j∈ps<;>simp[h]
theorem TE{p q:Nat->Bool}(h:∀j,j<n->p j=q j):jS m ps n k p=jS m ps n k q:=by
 unfold jS
 apply uj
 intro j hj
 rw[h j (wm.1 hj)]
theorem TF{a:Nat}{p q:Nat->Bool}(ha:a<n)(hk:a≠k)(h:∀j,j<n->q j=(p j||decide (j=a))):jS m ps n k q=(jS m ps n k p).set a (-dt m (ps.idxOf a) k):=by
 apply iW
 intro j
 by_cases hj:j<n
 ·by_cases e:j=a
  ·subst e
   rw[fy (by rw[Bc];exact hj)]
   unfold jS
   simp[hj,hk,h j hj]
  ·rw[dr (Ne.symm e)]
   unfold jS
   simp[hj,h j hj,e]
 ·rw[eG (by rw[Bc];omega),eG (by rw[q_,Bc];omega)]
theorem TG{t p:Nat}(h:ps[t]?=some p){j:Nat}:decide (j∈ps.take (t+1))=(decide (j∈ps.take t)||decide (j=p)):=by
 rw[wA,h]
 simp
theorem Ykj{i:Nat}(h:i<(aU m n).2.1):(gm m n)[i]?=(aU m n).1[i]?:=by
 unfold gm
 rw[gU,aF h]
theorem DE{c:Nat}(h:ew m c):ew (gm m n) c:=fun r hr=>(@wG m c h n).1 r (uC hr)
theorem NS(h:e_ m K)(hK:1<=K):e_ (gm m n) (kB K (aU m n).2.1):=fun r hr=>(@Jl m K h hK n) r (uC hr)
theorem TH:gm [] n=[]:=by
 have h:(aU [] n).1.length=0:=sw
 unfold gm
 rw[List.length_eq_zero_iff.1 h,List.take_nil]
def tv(l:List Rat):Nat->Nat->Nat
 |k,0=>k
 |k,n+1=>if l[k]?.getD 0≠0 then k else tv l (k+1) n
theorem TI{l:List Rat}{p:Nat}:∀{n k:Nat},k<=p->p<k+n->l[p]?.getD 0≠0->(∀j,k<=j->j<p->l[j]?.getD 0=0)->tv l k n=p
 |0,k,h1,h2,_,_=>by omega
 |n+1,k,h1,h2,h3,h4=>by
  unfold tv
  by_cases e:k=p
  ·subst e;rw[aF h3]
  ·rw[ar (fun hc=>hc (h4 k (aV _) (by omega)))]
   exact TI (by omega) (by omega) h3 fun j a b=>h4 j (by omega) b
theorem TJ{c i:Nat}{row:List Rat}(hc:ew m c)(hi:(gm m c)[i]?=some row):∃p,(aU m c).2.2[i]?=some p/\p<c/\tv row 0 row.length=p/\(aU m c).2.2.idxOf p=i:=by
 have I:=@Dy m c hc c
 have wI:i<(aU m c).2.1:=by have:=kc hi;rw[Dx hc]at this;exact this
 rw[Ykj wI]at hi
 obtain⟨p,hp⟩:=bs (l:=(aU m c).2.2) (k:=i) (by rw[I.len];exact wI)
 have hx:=I.idx wI
 have hl:=I.lt i wI
 have ho:=I.one i i wI (by have:=I.le;omega)
 have hz:=fun k=>I.lead i k wI
 rw[hp]at hx hl ho hz
 simp only[og,if_true]at hx hl ho hz
 unfold dt at ho hz
 rw[hi]at ho hz
 simp only[og]at ho hz
 have hr:=(@wG m c hc c).1 row (cm hi)
 refine⟨p,hp,hl,TI (pC _) (by omega) (by rw[ho];decide) fun j _ hj=>hz j hj,hx⟩
theorem TK:ot ps (k+1)=ot ps k++if ps.contains k=true then [] else [k]:=by
 unfold ot
 rw[List.range_succ,List.filter_append]
 congr 1
 rw[List.filter_cons]
 cases hc:ps.contains k<;>rfl
theorem Jx:ew (pE m n) n:=fun r hr=>by
 unfold pE at hr
 obtain⟨k,_,rfl⟩:=jk.1 hr
 simp[qd]
theorem FG(hc:ew m n):(pE m n).length+(aU m n).2.1=n:=by
 have I:=@Dy m n hc n
 have:=@Ny n (aU m n).2.2 (fun i hi=>I.lt i (by rw[<-I.len];exact hi)) (fun i j h1 h2=>I.Fz i j h1 (by rw[<-I.len];exact h2))
 rw[I.len]at this
 unfold pE
 rw[si]
 exact this
theorem Yn2{q:Rat}(h:Qb K q):Qb K (-q):=⟨by rw[Rat.neg_num,sq];exact h.1,by rw[Rat.neg_den];exact h.2⟩
theorem NT(h:e_ m K)(hK:1<=K):e_ (pE m n) (kB K (aU m n).2.1):=fun r hr q hq=>by
 have hB:1<=kB K (aU m n).2.1:=zq hK
 have h2:(1:Nat)<2^kB K (aU m n).2.1:=Nat.one_lt_two_pow (by omega)
 unfold pE at hr
 obtain⟨k,_,rfl⟩:=jk.1 hr
 unfold qd at hq
 obtain⟨j,_,rfl⟩:=jk.1 hq
 split
 ·exact⟨h2,h2⟩
 ·split
  ·unfold dt
   exact Yn2 (Fo (fun q hq=>(NS h hK).at q hq) hB k)
  ·exact⟨by show 0<_;omega,h2⟩
theorem Jy:ew (sF m n) n:=DE Jx
theorem TL(hc:ew m n)(hn:n<=6):(∀t,t<(pE m n).length->t<n->3*kB (kB 96 (aU m n).2.1) t<=400000):=fun t h1 h2=>by
 have:=FG hc
 rw[Nk]
 exact Jk (by omega)
theorem NU(hc:ew m n)(hn:n<=6)(h:e_ m 96):e_ (sF m n) 400000:=by
 have h1:=NS (n:=n) (NT (n:=n) h (by decide)) (zq (by decide))
 refine h1.mono ?_
 rw[Nk]
 have h2:=FG hc
 have h3:=Dx (n:=n) (Jx (m:=m) (n:=n))
 have h4:(gm (pE m n) n).length<=(pE m n).length:=by unfold gm;rw[gK,sw];omega
 exact Tl (by omega)
theorem Jz(hm:m.length<=6)(hc:ew m n)(h:e_ m 96):e_ (gm m n) 400000:=by
 refine(NS (n:=n) h (by decide)).mono ?_
 have:=(@wG m n hc n).2
 exact Tl (by omega)
theorem Yko:(oz ps).contains (k:Int)=ps.contains k:=by
 rw[Bool.eq_iff_iff]
 simp[oz]
end Go.Mx
