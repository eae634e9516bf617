/-
  lensletlaw05.ReconstructCosts: the end of its walk.
-/
import Derived.Test.YtlbophlgohokkaaGreatDoorCoE
set_option linter.all false
namespace Go.Mx
open Go Go.Proofs
set_option maxRecDepth 1000000
def A.zcz:aq:=sr [mv 131 7,mv 132 8,mv 133 17,mv 134 14,⟨(some 135),.call (.const (.func 22 [] [])) [(.tmp 131),(.tmp 132),(.tmp 133),(.tmp 134)],none⟩,mv 136 135,mg 137 9 136,mg 138 10 136,mg 139 18 136,mg 140 15 136,⟨(some 141),.call (.const (.func 28 [] [])) [(.tmp 137),(.tmp 138),(.tmp 139),(.tmp 140)],(some (136,true))⟩,pf 142 136 141,mv 143 142,mg 144 11 143,mg 145 12 143,mg 146 19 143,mg 147 16 143,⟨(some 148),.call (.const (.func 29 [] [])) [(.tmp 144),(.tmp 145),(.tmp 146),(.tmp 147)],(some (143,true))⟩,pf 149 143 148,mv 150 149,⟨(some 151),.call (.const (.func 10 [] [])) [],(some (150,true))⟩,pf 152 150 151,mv 6 152]
 (.ret)
def A.zcA:aq:=.seq (sr [mv 126 16,ei 127 126 0]
 (cd 127
 (.aL [mv 128 0,mv 129 2,c2 130 34 128 129,mv 19 130])
 (.skip)))
 A.zcz
def A.zcB:aq:=.seq (sr [mv 116 15,ei 117 116 0]
 (cd 117
 (.aL [mv 118 0,fa 119 0 4,ld 120 119,fa 121 1 4,ld 122 121,fa 123 2 4,ld 124 123,⟨(some 125),.call (.const (.func 33 [] [])) [(.tmp 118),(.tmp 120),(.tmp 122),(.tmp 124)],none⟩,mv 18 125])
 (.skip)))
 A.zcA
def A.zcC:aq:=.seq (sr [mv 108 14,ei 109 108 0]
 (cd 109
 (.aL [mv 110 0,fa 111 1 4,ld 112 111,fa 113 2 4,ld 114 113,⟨(some 115),.call (.const (.func 32 [] [])) [(.tmp 110),(.tmp 112),(.tmp 114)],none⟩,mv 17 115])
 (.skip)))
 A.zcB
def A.zcD:aq:=.seq (.aS [fa 83 1 4,ld 84 83,mv 85 0,ln 86 85,c2 87 16 84 86,fa 88 2 4,ld 89 88,mv 90 0,⟨(some 91),.aI 1 (.tmp 90) (.const (.int .i64 0)),none⟩,ld 92 91,ln 93 92,c2 94 16 89 93,⟨(some 95),.aY 3 1 2 [(.int .i64 0),(.int .i64 0)] [(0,1,(.tmp 87)),(1,1,(.tmp 94))],none⟩,c1 96 30 95,mv 14 96] [0,1,0,4,15,0,32,0,128,384,896,2047,4095,8191,16383])
 (sr [fa 97 0 4,ld 98 97,mv 99 0,ln 100 99,⟨(some 101),.call (.const (.func 17 [] [])) [(.tmp 98),(.tmp 100),(.const (.int .i64 1))],none⟩,mv 102 14,⟨(some 103),.aY 3 1 2 [(.int .i64 0),(.int .i64 0)] [(0,1,(.tmp 101)),(1,1,(.tmp 102))],none⟩,c1 104 30 103,mv 15 104]
 (sr [mv 105 0,mv 106 2,c2 107 31 105 106,mv 16 107]
 (sr [mN 17]
 (sr [⟨(some 18),.aZ (.const (.str [])),none⟩]
 (sr [mN 19]
 A.zcC)))))
def A.b4:aq:=sr [bx 4 42 1,⟨(some 6),.aZ (.const (.bool false)),none⟩]
 (.seq (sr [mv 20 0,⟨(some 21),.call (.const (.func 8 [] [])) [(.tmp 20),(.const (.int .i64 6)),(.const (.int .i64 6))],none⟩,⟨(some 22),.un .not (.tmp 21),none⟩,mv 23 22,⟨(some 24),.load (some 3) (.tmp 4),(some (23,false))⟩,⟨(some 25),.call (.const (.func 23 [] [])) [(.tmp 24)],(some (23,false))⟩,⟨(some 26),.un .not (.tmp 25),(some (23,false))⟩,pt 27 23 26,mv 28 27,mh 29 2 28,⟨(some 30),.len 1 (.tmp 29),(some (28,false))⟩,⟨(some 31),.bin .gtr (.node []) false (.tmp 30) (.const (.int .i64 8)),(some (28,false))⟩,pt 32 28 31]
 (cd 32
 (sr [⟨(some 33),.call (.const (.func 10 [] [])) [],none⟩,mv 6 33]
 (.ret))
 (.skip)))
 (sr [mv 35 0,fa 36 1 4,ld 37 36,fa 38 2 4,ld 39 38,⟨(some 40),.call (.const (.func 24 [] [])) [(.tmp 35),(.tmp 37),(.tmp 39)],none⟩,mv 34 40,xt 41 34 0,xt 42 34 1,mv 7 41,mv 8 42]
 (sr [mv 44 0,fa 45 0 4,ld 46 45,fa 47 1 4,ld 48 47,fa 49 2 4,ld 50 49,⟨(some 51),.call (.const (.func 25 [] [])) [(.tmp 44),(.tmp 46),(.tmp 48),(.tmp 50)],none⟩,mv 43 51,xt 52 43 0,xt 53 43 1,mv 9 52,mv 10 53]
 (sr [mv 55 0,mv 56 2,c2 57 26 55 56,mv 54 57,xt 58 54 0,xt 59 54 1,mv 11 58,mv 12 59]
 (sr [mv 60 0,c1 61 27 60,mv 13 61]
 (.seq (sr [mv 62 13,ni 63 62 0]
 (cd 63
 (sr [mv 64 7,mv 65 8,mv 66 13,⟨(some 67),.call (.const (.func 22 [] [])) [(.tmp 64),(.tmp 65),(.const .aa),(.tmp 66)],none⟩,mv 68 67,mg 69 9 68,mg 70 10 68,mg 71 13 68,⟨(some 72),.call (.const (.func 28 [] [])) [(.tmp 69),(.tmp 70),(.const (.str [])),(.tmp 71)],(some (68,true))⟩,pf 73 68 72,mv 74 73,mg 75 11 74,mg 76 12 74,mg 77 13 74,⟨(some 78),.call (.const (.func 29 [] [])) [(.tmp 75),(.tmp 76),(.const .aa),(.tmp 77)],(some (74,true))⟩,pf 79 74 78,mv 80 79,⟨(some 81),.call (.const (.func 10 [] [])) [],(some (80,true))⟩,pf 82 80 81,mv 6 82]
 (.ret))
 (.skip)))
 A.zcD))))))
theorem A.c4:A.F 4=some ⟨153,[.tmp 6],A.b4⟩:=by kernel_rfl
def A.k4:=@A.kk 4 _ _ _ A.c4 rfl
structure Rg5 (r0:T V) (u dv:V) (B:Nat) (v1:V) (c1:Int) (s2:aX) (c2:Int) (v3:V) (c3:Int):Prop where
 a0:r0.get 0=some u
 a2:r0.get 2=some dv
 a4:r0.get 4=some (.ptr B 0)
 a7:r0.get 7=some v1
 a8:r0.get 8=some (.int .i64 c1)
 a9:r0.get 9=some (.str s2)
 xK:r0.get 10=some (.int .i64 c2)
 wC:r0.get 11=some v3
 wD:r0.get 12=some (.int .i64 c3)
structure WtN (e:Int) (q:Rat) (s:aX) (c:Int) (t:aX):Prop where
 tp:Th e q s c
 tx:e=0->t=aN q
 ux:e=0->(aN q).length<1000000
structure Ng (e:Int) (m:List (List Rat)) (v:V) (c:Int) (u:V) (h:T O) (n:Nat):Prop where
 tp:xJ e m v c h n
 tx:e=0->iO h n u m
 len:m.length<100000
 ux:e=0->∀r∈m,r.length<100000/\∀q∈r,(aN q).length<1000000
theorem Ng.ad{h h':T O}{n n':Nat}{v u:V}{e c:Int}{m:List (List Rat)}(s:Ng e m v c u h n)(k:ab h n h' n'):Ng e m v c u h' n':=⟨s.tp.ad k,fun a=>(s.tx a).ad k,s.len,s.ux⟩
theorem Ji{N n:Nat}{w:List Nat}(h:au n w=[])(hN:N<=n):au N w=[]:=Dr fun i hi=>by
 have:=Jj h i hi
 omega
set_option maxHeartbeats 2000000
theorem Nh{q:Rat}{k:Nat}(h:Qb k q)(hk:k<=400000):(aN q).length<1000000:=by
 have h1:=A5 h.1
 have h2:=zp h.2
 unfold aN
 split<;>simp<;>omega
variable {h:T O}
theorem Sl.kf{N:Nat}{v:V}{l:List V}(s:Sl h N v l):v.cells=[v]:=by
 rcases s with⟨_,rfl|rfl⟩|⟨j,o,cp,c,e,rw,rfl,hj,_⟩<;>rfl
theorem Sl.uy{N:Nat}{v:V}{l:List V}(s:Sl h N v l):v.one=true:=by
 rcases s with⟨_,rfl|rfl⟩|⟨j,o,cp,c,e,rw,rfl,hj,_⟩<;>rfl
theorem Yjz{r p:List Rat}{k:Nat}:jP (fun x y=>x+y) r (p.map fun q=>q* -(r[k]?.getD 0)) r.length=py r p k:=by
 unfold py jP
 apply uj
 intro i _
 rw[iX]
 cases hb:p[i]? with
 |none=>simp only[Option.map_none,Option.getD_none];rw[Rat.sub_eq_add_neg,Rat.mul_zero,Rat.neg_zero]
 |some q=>simp only[wE,og];rw[Rat.sub_eq_add_neg,Rat.mul_neg,Rat.mul_comm]
theorem Yfu{W0:List Nat}{N0:Nat}{H:T O}{n R:Nat}{r0:T V}{m:List (List Rat)}{d k c K:Nat}(s:me N0 H n R m)(hc:ew m c)(hk:k<c)(hd:d<m.length)(oe:m.length<1000)(cr:c<1000)(hK:∀i,i≠d->∀q∈m[i]?.getD [],Qb K q)(hP:∀q∈m[d]?.getD [],Qb (2*K) q)(hKl:3*K<=400000)(kH:ab h N0 H n)(pA:au N0 W0=[])(a3:r0.get 3=some (.slice R 0 m.length none 1))(a4:r0.get 4=some (.int .i64 d))(a5:r0.get 5=some (.int .i64 k))(a7:r0.get 7=some (.int .i64 0)):
  Code A.C none (.loop A.zbF) ⟨r0,110,[]⟩ ⟨H,n,W0⟩ (fun e fr st=>e=.exit 4/\au N0 st.w=[]/\ab h N0 st.h st.n/\me N0 st.h st.n R (gl m d k m.length)/\∃r,Fx [(7,7),(75,104)] r0 110 ⟨r,110,[]⟩/\fr=⟨r,110,[]⟩):=by
 rw[bn]
 refine bN [(7,7),(75,104)] (fun e r st=>e=.exit 4/\au N0 st.w=[]/\ab h N0 st.h st.n/\me N0 st.h st.n R (gl m d k m.length)) (fun i r st=>au N0 st.w=[]/\ab h N0 st.h st.n/\∃t,t<=m.length/\i=m.length-t/\r.get 7=some (.int .i64 t)/\me N0 st.h st.n R (gl m d k t)) (m.length) ?_ ?_ ?_
 ·exact⟨pA,kH,0,by omega,by omega,a7,by rw[S3];exact s⟩
 ·rintro i r ⟨H1,n1,W⟩ hr hf ⟨hW,k1,t,ht,rfl,h7,s1⟩
  simp only at hW k1 s1
  rw[bn]
  by_cases aB:t<m.length
  ·have bj:(t:Int)<(m.length:Int):=by omega
   by_cases e:t=d
   ·subst e
    rw[<-S5]at s1
    simp(disch:=first|(simp;done)|omega|rfl) [A.zbF,hr,hf,a3,a4,h7,bj,k1,hW]
    exact⟨m.length-(t+1),by omega,t+1,by omega,rfl,by simp,s1⟩
   ·have e':¬(t:Int)=(d:Int):=by omega
    have xL:(d:Int)<(m.length:Int):=by omega
    obtain⟨row,aj⟩:=bs aB
    obtain⟨jE,gJ⟩:=bs hd
    have mV:=hc row (cm aj)
    have jz:=hc jE (cm gJ)
    have w1:(gl m d k t)[t]?=some row:=by rw[zm aB,ar (by omega),aj];rfl
    have w2:(gl m d k t)[d]?=some jE:=by rw[S4 hd];exact gJ
    obtain⟨us,u,g1,g2,g3,g4⟩:=s1.at w1
    obtain⟨us',v,xM,_,A6,Ds⟩:=s1.at w2
    rw[g1]at xM
    simp only[ai,O.cells.injEq,and_true]at xM
    subst xM
    obtain⟨q,hq⟩:=bs (l:=row) (k:=k) (by omega)
    have su:∀q∈row,Qb K q:=by have:=hK t e;rw[aj]at this;exact this
    have Dq:∀q∈jE,Qb (2*K) q:=by have:=hP;rw[gJ]at this;exact this
    have jm:=su q (cm hq)
    have Ti:Qb K (-q):=⟨by rw[Rat.neg_num,sq];exact jm.1,by rw[Rat.neg_den];exact jm.2⟩
    obtain⟨i1,o1,c1,e1,x1,q1,q2,q3,q4⟩:=g4.1.at (wz hq)
    have mW:=g4.1.len
    have bU:(k:Int)<(row.length:Int):=by omega
    have il:k<row.length:=by omega
    have hR:=s1.lt
    have bA:=fun st=>Tj (q:=q) (st:=st) (Nh jm (by omega))
    simp[A.zbF,hr,a3,a4,a5,h7,bj,e',xL,g1,g3,A6,hR,q1,q2,q3,q4,bU,mW,bA]
    refine ax (Tc Ds.1 Dq Ti (by omega) (by omega) (by omega)) ?_
    rintro v2 H2 n2 k2 o2
    have t2:=Ni o2
    have mT:=k2.le
    have s2:=s1.ad k2
    have oh:=(k2.get R hR).trans g1
    simp
    refine ax (Yib (g4.1.ad k2) t2.1 (by simp;omega) su (k:=2*K+K) (fun q' mU=>by
     obtain⟨y,hy,rfl⟩:=jk.1 mU
     exact(Dq y hy).mul Ti) (by omega) (by omega) (by omega)) ?_
    rintro v3 H3 n3 k3 o3
    have t3:=(Ni o3).old (N0:=N0)
    have tg:=k3.le
    have s3:=s2.ad k3
    have Ft:=(k3.get R (by omega)).trans oh
    have wF:t<us.length:=by rw[g2,wx];exact aB
    have p_:t+1<=us.length:=wF
    have lR1:R<n2:=by omega
    have xN:R<n3:=by omega
    have gV:(t:Int)<(us.length:Int):=by omega
    have fz:∀u,ag us t [u]=us.set t u:=fun u=>xI wF
    have jj:v3.cells=[v3]:=Sl.kf t3.1
    have Nj:v3.one=true:=Sl.uy t3.1
    simp(disch:=first|(simp;done)|omega|rfl) [-V.cells, -V.one,bL,jj,Nj,fz,p_,Ft,xN,hf,h7]
    have hz:jP (fun x y=>x+y) row (jE.map fun y=>y* -q) row.length=py row jE k:=by
     have:=Yjz (r:=row) (p:=jE) (k:=k)
     rw[hq]at this
     exact this
    have sp:=s3.put Ft t3 (i:=t) (by rw[wx];exact aB)
    rw[hz]at sp
    refine⟨m.length-(t+1),by omega,by rw[ar (oo.2 s1.ge)];exact hW,((k1.trans k2).trans k3).set s1.ge,t+1,by omega,rfl,by simp,?_⟩
    rw[M5 aB e,aj,gJ]
    exact sp
  ·obtain rfl:t=m.length:=by omega
   simp[A.zbF,hr,hf,a3,h7,k1,hW]
   exact s1
 ·rintro _ r st hr ⟨rfl,hw,k1,s1⟩
  simp[]
  exact⟨hw,k1,s1,hr,rfl,rfl⟩
variable {K:Nat} {m:List (List Rat)}
theorem sw{m:List (List Rat)}:∀{n:Nat},(aU m n).1.length=m.length
 |0=>rfl
 |n+1=>by rw[ui,Yj3];exact sw
theorem wG{m:List (List Rat)}{c:Nat}(h:ew m c):∀{n:Nat},ew (aU m n).1 c/\(aU m n).2.1<=m.length
 |0=>⟨h,pC _⟩
 |n+1=>by
  obtain⟨a,b⟩:=@wG m c h n
  rw[ui]
  have:=Ynv (k:=n) a (by rw[sw];exact b)
  rw[sw]at this
  exact⟨this.1,this.2.1⟩
def kB(K:Nat):Nat->Nat
 |0=>K
 |n+1=>4*kB K n+1
theorem zq{K:Nat}(h:1<=K):∀{n:Nat},1<=kB K n
 |0=>h
 |n+1=>by rw[kB];omega
theorem Tk{K:Nat}:∀{n m:Nat},n<=m->kB K n<=kB K m
 |n,0,h=>by
  obtain rfl:n=0:=by omega
  exact aV _
 |n,m+1,h=>by
  by_cases e:n=m+1
  ·rw[e];exact aV _
  ·have:=@Tk K n m (by omega)
   rw[kB];omega
theorem Nk{K a:Nat}:∀{b:Nat},kB (kB K a) b=kB K (a+b)
 |0=>rfl
 |b+1=>by
  show 4*kB (kB K a) b+1=4*kB K (a+b)+1
  rw[Nk]
theorem Jk:∀{n:Nat},n<6->3*kB 96 n<=400000:=by decide
theorem Tl{n:Nat}(h:n<=6):kB 96 n<=400000:=lS (Tk h) (by decide)
theorem Dt{m:List (List Rat)}:∀{n:Nat},(aU m n).2.1<=n
 |0=>aV _
 |n+1=>by
  have:=@Dt m n
  rw[ui]
  unfold jC
  split
  ·show (aU m n).2.1+1<=n+1
   omega
  ·omega
theorem Jl{m:List (List Rat)}{K:Nat}(h:e_ m K)(hK:1<=K):∀{n:Nat},e_ (aU m n).1 (kB K (aU m n).2.1)
 |0=>h
 |n+1=>by
  have ih:=@Jl m K h hK n
  rw[ui]
  by_cases hp:eJ (aU m n).1 (aU m n).2.1 n<(aU m n).1.length
  ·have hs:=Ynw (k:=n) ih (zq hK)
   have e:(jC (aU m n) n).2.1=(aU m n).2.1+1:=by unfold jC;rw[aF hp]
   rw[e,kB]
   exact hs
  ·have e:jC (aU m n) n=aU m n:=by unfold jC;rw[ar hp]
   rw[e]
   exact ih
theorem Zxu{W0:List Nat}{N0:Nat}{h H:T O}{n R:Nat}{r0:T V}{c:Nat}(s:me N0 H n R m)(hc:ew m c)(oe:m.length<1000)(fA:0<m.length)(cr:c<1000)(uz:1<=K)(hK:e_ m K)(hB:∀n,n<m.length->n<c->3*kB K n<=400000)(kH:ab h N0 H n)(pA:au N0 W0=[])(a3:r0.get 3=some (.slice R 0 m.length none 1))(a4:r0.get 4=some (.int .i64 0))(a5:r0.get 5=some (.int .i64 0)):
  Code A.C none (.loop A.zbH) ⟨r0,110,[]⟩ ⟨H,n,W0⟩ (fun e fr st=>e=.exit 0/\au N0 st.w=[]/\ab h N0 st.h st.n/\me N0 st.h st.n R (aU m c).1/\∃r,Fx [(4,7),(11,106)] r0 110 ⟨r,110,[]⟩/\fr=⟨r,110,[]⟩/\r.get 4=some (.int .i64 (aU m c).2.1)):=by
 rw[bn]
 refine bN [(4,7),(11,106)] (fun e r st=>e=.exit 0/\au N0 st.w=[]/\ab h N0 st.h st.n/\me N0 st.h st.n R (aU m c).1/\r.get 4=some (.int .i64 (aU m c).2.1)) (fun i r st=>au N0 st.w=[]/\ab h N0 st.h st.n/\∃k,k<=c/\i=c-k/\r.get 5=some (.int .i64 k)/\r.get 4=some (.int .i64 (aU m k).2.1)/\me N0 st.h st.n R (aU m k).1) c ?_ ?_ ?_
 ·exact⟨pA,kH,0,by omega,by omega,a5,a4,s⟩
 ·rintro i r ⟨H1,n1,W⟩ hr hf ⟨hW,k1,k,hk,rfl,h5,h4,s1⟩
  simp only at hW k1 s1
  rw[bn]
  have hlen:(aU m k).1.length=m.length:=sw
  obtain⟨Du,gW⟩:=@wG m c hc k
  obtain⟨Nl,zr⟩:=bs (l:=(aU m k).1) (k:=0) (by omega)
  have Nm:=Du Nl (cm zr)
  obtain⟨us,u,g1,g2,g3,g4⟩:=s1.at zr
  have mW:=g4.1.len
  rw[Nm]at mW
  have hR:=s1.lt
  have A7:(0:Int)<(m.length:Int):=by omega
  by_cases aB:k<c
  ·have bj:(k:Int)<(c:Int):=by omega
   simp[A.zbH,hr,a3,h5,h4,fA,g1,g3,mW,bj]
   refine iY (Yfs (d:=(aU m k).2.1) s1 Du aB (by omega) (by omega) (by simp[hr,hlen,a3]) (by simp[h5]) (by simp)) ?_
   rintro _ _ _ ⟨rfl,rfl,r2,f2,rfl,h6⟩
   have cR:=f2.aL
   have dX:=hf.inner (D':=[(6,6),(25,40)]) (by decide) (fun hx=>by simpa[Fx.set]using hx) cR
   have zaa:=@Fl (aU m k).1 k ((aU m k).1.length-(aU m k).2.1) (aU m k).2.1
   by_cases hp:eJ (aU m k).1 (aU m k).2.1 k<(aU m k).1.length
   ·generalize hd:(aU m k).2.1=d at*
    generalize jo:(aU m k).1=m1 at*
    have fu:d<m1.length:=by unfold eJ at hp;omega
    generalize pz:eJ m1 d k=p at*
    obtain⟨rd,tm⟩:=bs fu
    obtain⟨rp,sD⟩:=bs hp
    obtain⟨us1,ud,x1,x2,x3,x4⟩:=s1.at tm
    obtain⟨us2,up,y1,_,y3,y4⟩:=s1.at sD
    rw[g1]at x1 y1
    simp only[ai,O.cells.injEq,and_true]at x1 y1
    subst x1;subst y1
    have sA:=s1.put g1 y4 fu
    have gA:(H1.set R (.cells (us.set d up) 23 true)).get R=some (.cells (us.set d up) 23 true):=by rw[T.ah,aF rfl]
    have sB:=sA.put gA (x4.pX g1 s1.ge) (i:=p) (by rw[q_];exact hp)
    have Fu:d<us.length:=by omega
    have Fv:p<us.length:=by omega
    have Nn:¬(p:Int)=(m.length:Int):=by omega
    have xL:(d:Int)<(m.length:Int):=by omega
    have Np:(p:Int)<(m.length:Int):=by omega
    have uA:d<m.length:=by omega
    have Jm:p<m.length:=by omega
    have hdk:d<c:=by
     have:=@Dt m k
     omega
    have e1:∀u,ag us d [u]=us.set d u:=fun u=>xI Fu
    have e2:∀u,ag (us.set d up) p [u]=(us.set d up).set p u:=fun u=>xI (by simp;exact Fv)
    have c1:ud.cells=[ud]:=Sl.kf x4.1
    have o1:ud.one=true:=Sl.uy x4.1
    have c2:up.cells=[up]:=Sl.kf y4.1
    have o2:up.one=true:=Sl.uy y4.1
    have l1:d+1<=us.length:=Fu
    have l2:p+1<=us.length:=Fv
    simp[-V.cells, -V.one,cR,hr,h6,a3,h4,Nn,xL,Np,g1,x3,y3,hR,bL,c1,o1,c2,o2,e1,e2,l1,l2]
    have kG:=(k1.set (i:=R) (o:=.cells (us.set d up) 23 true) s1.ge).set (i:=R) (o:=.cells ((us.set d up).set p ud) 23 true) s1.ge
    have gB:((H1.set R (.cells (us.set d up) 23 true)).set R (.cells ((us.set d up).set p ud) 23 true)).get R=some (.cells ((us.set d up).set p ud) 23 true):=by rw[T.ah,aF rfl]
    generalize (H1.set R (.cells (us.set d up) 23 true)).set R (.cells ((us.set d up).set p ud) 23 true)=G at*
    have xH:(m1.set d rp).set p rd=er m1 d p:=by unfold er;rw[tm,sD];rfl
    rw[xH]at sB
    have wF:((us.set d up).set p ud).length=m1.length:=by simp only[q_];omega
    generalize (us.set d up).set p ud=vs at*
    have Nr:e_ m1 (kB K d):=by rw[<-jo,<-hd];exact Jl hK uz
    have sE:=Nr.zn (d:=d) (p:=p)
    have Fw:=Du.zn fu hp
    have Ns:(er m1 d p).length=m1.length:=ti
    have bA:=@Fm m1 k (m1.length-d) d (by unfold eJ at pz;omega)
    have aj:(er m1 d p)[d]?=some rp:=by
     rw[<-xH]
     by_cases e:p=d
     ·subst e;rw[tm]at sD;simp only[ai]at sD;subst sD;rw[fy (by simp;omega)]
     ·rw[dr e,fy fu]
    have qa:rp[k]?.getD 0≠0:=by
     have h9:=pz
     unfold eJ at h9
     rw[h9,sD]at bA
     exact bA
    obtain⟨iZ,vd,z1,z2,z3,z4⟩:=sB.at aj
    rw[gB]at z1
    simp only[ai,O.cells.injEq,and_true]at z1
    subst z1
    have Nt:=Fw rp (cm aj)
    obtain⟨q,hq⟩:=bs (l:=rp) (k:=k) (by omega)
    have su:=sE rp (cm aj)
    have jm:=su q (cm hq)
    have nP:q≠0:=by rw[hq]at qa;exact qa
    have hkq:=hB d uA hdk
    obtain⟨i1,t1,w1,e3,v1,q1,q2,q3,q4⟩:=z4.1.at (wz hq)
    have kg:=z4.1.len
    have bU:(k:Int)<(rp.length:Int):=by omega
    have il:k<rp.length:=by omega
    simp[cR,hr,a3,h4,h5,xL,z3,q1,q2,q3,q4,bU,kg,gB,hR]
    refine ax (Ykk jm (by omega) nP) ?_
    rintro _ H2 n2 k2 rfl
    have mT:=k2.le
    have xN:R<n2:=by omega
    have oh:=(k2.get R hR).trans gB
    simp
    refine ax (Tc (z4.1.ad k2) su (M4 jm nP) (by omega) (by omega) (by omega)) ?_
    rintro v3 H3 n3 k3 o3
    have t3:=(Ni o3).old (N0:=N0)
    have tg:=k3.le
    have s3:=(sB.ad k2).ad k3
    have A6:=(k3.get R xN).trans oh
    have Nu:R<n3:=by omega
    have ra:d<vs.length:=by omega
    have A8:d+1<=vs.length:=ra
    have e4:∀u,ag vs d [u]=vs.set d u:=fun u=>xI ra
    have c3:v3.cells=[v3]:=Sl.kf t3.1
    have o4:v3.one=true:=Sl.uy t3.1
    simp(disch:=first|(simp;done)|omega|rfl) [-V.cells, -V.one,A6,Nu,bL,c3,o4,e4,A8]
    have sC:=s3.put A6 t3 (i:=d) (by rw[Ns];exact fu)
    have wy:(er m1 d p).set d (rp.map fun x=>x*q⁻¹)=gS (er m1 d p) d k:=by
     unfold gS
     rw[aj]
     simp only[og,hq,Rat.div_def]
    rw[wy]at sC
    have Dv:(gS (er m1 d p) d k).length=m.length:=by rw[Dm,ti];exact hlen
    refine iY (Yfu (h:=h) (d:=d) (K:=kB K d) sC (Fw.Je (by omega)) aB (by omega) (by omega) (by omega) (fun i hi=>by
     unfold gS
     rw[dr (Ne.symm hi)]
     exact sE.at) (by
     unfold gS
     rw[fy (by omega)]
     exact M7 sE (zq uz) (by rw[aj];exact qa)) (by omega) (((kG.trans k2).trans k3).set sC.ge) (by simp[oo.2 s1.ge,hW]) (by simp[cR,hr,a3,Dv]) (by simp[cR,h4]) (by simp[cR,h5]) (by simp)) ?_
    rintro _ _ ⟨H4,n4,W4⟩ ⟨rfl,Fy,k4,s4,r4,f4,rfl⟩
    simp only at Fy k4 s4
    have kh:=f4.aL
    have Dw:=dX.inner (D':=[(7,7),(75,104)]) (by decide) (fun hx=>by simpa[Fx.set]using hx) kh
    have dH:aU m (k+1)=(gl (gS (er m1 d p) d k) d k m1.length,d+1,(aU m k).2.2++[k]):=by
     rw[ui];unfold jC;rw[jo,hd,pz,aF hp]
    simp(disch:=first|(simp;done)|omega|rfl) [kh,Dw,cR,h4,h5,Fy,k4]
    refine⟨c-(k+1),by omega,k+1,by omega,rfl,by simp,?_,?_⟩
    ·rw[dH];simp
    ·rw[dH];rw[Dv,<-hlen]at s4;exact s4
   ·have dH:aU m (k+1)=aU m k:=by rw[ui];unfold jC;rw[ar hp]
    have wH:eJ (aU m k).1 (aU m k).2.1 k=m.length:=by unfold eJ at hp ⊢;omega
    rw[wH]at h6
    simp(disch:=first|(simp;done)|omega|rfl) [cR,dX,hr,h6,a3,h5,hW,k1]
    refine⟨c-(k+1),by omega,k+1,by omega,rfl,by simp,?_,?_⟩
    ·rw[dH];simpa using h4
    ·rw[dH];exact s1
  ·obtain rfl:k=c:=by omega
   simp[A.zbH,hr,hf,a3,h5,h4,fA,g1,g3,mW,k1,hW]
   exact s1
 ·rintro _ r st hr ⟨rfl,hw,k1,s1,h4⟩
  simp[]
  exact⟨hw,k1,s1,r,⟨hr,rfl,rfl⟩,rfl,h4⟩
variable {N n:Nat} {h:T O} {l:List Int} {m:List (List Rat)} {v:V}
theorem Tm{m:List (List Rat)}{k:Nat}(h:(aU m k).2.1=m.length):∀{n:Nat},aU m (k+n)=aU m k
 |0=>rfl
 |n+1=>by
  rw[Nat.add_succ,ui,Tm h]
  unfold jC
  rw[ar]
  unfold eJ
  rw[sw,h,Nat.sub_self]
  simp[ma]
theorem Tn{m:List (List Rat)}:∀{n:Nat},(aU m n).2.2.length=(aU m n).2.1
 |0=>rfl
 |n+1=>by
  have:=@Tn m n
  rw[ui]
  unfold jC
  split
  ·simp[this]
  ·exact this
def gm(m:List (List Rat))(n:Nat):List (List Rat):=(aU m n).1.take (aU m n).2.1
theorem Dx(h:ew m n):(gm m n).length=(aU m n).2.1:=by
 unfold gm
 rw[gK,sw]
 have:=(@wG m n h n).2
 omega
theorem Ymu{s:aX}(h:bW s=0)(hn:s.length<=n)(h1:0<n):Qb (4*n) (pD s):=by
 obtain⟨e,_,_⟩:=Nv h
 have hb:=Nw (pD s)
 have l1:(bl (aN (pD s))).length<=n:=by
  rw[e];unfold bl;split
  ·simp;omega
  ·exact hn
 rw[hb]at l1
 have g:∀m:Nat,(ak m).length<=n->m<2^(4*n):=fun m hm=>dZ ((Jn h1).1 hm) (To n)
 split at l1
 ·rename_i h2
  have h3:(ak 1).length=1:=by rw[Jo];rfl
  exact⟨g _ l1,by rw[h2];exact g 1 (by omega)⟩
 ·simp at l1
  exact⟨g _ (by omega),g _ (by omega)⟩
theorem uk.qb{m:List (List aX)}(h:uk m n):ew (gb m) n/\e_ (gb m) 96:=⟨fun r hr=>(h.rat r hr).1,fun r hr q hq=>by
 obtain⟨s,hs,rfl⟩:=jk.1 hr
 obtain⟨t,ht,rfl⟩:=jk.1 hq
 have:=(h.row s hs).2 t ht
 exact Ymu this.1 this.2 (by decide)⟩
theorem Jp{m:List (List aX)}:(gb m).length=m.length:=by simp[gb]
def xO(l:List Int):List (List V):=l.map fun z=>[V.int .i64 z]
def mX(N0:Nat)(h:T O)(N:Nat)(v:V)(l:List Int):Prop:=Own 1 3 N0 h N v (xO l)/\(l=[]->v=.aa)
theorem mX.nil{N0:Nat}:mX N0 h N .aa []:=⟨Own.nil,fun _=>rfl⟩
theorem mX.ad{N0:Nat}{h':T O}{N':Nat}(s:mX N0 h N v l)(k:ab h N h' N'):mX N0 h' N' v l:=⟨s.1.ad k,s.2⟩
theorem mX.qc{N0:Nat}{h':T O}{N' R:Nat}{o:O}(s:mX N0 h N v l)(g:h.get R=some o)(he:∀z,o≠.cells z 3 true)(k:dC (fun i=>i=R) h N h' N'):mX N0 h' N' v l:=by
 obtain⟨⟨hl,s|⟨i,h1,h2,h3,h4⟩⟩,hn⟩:=s
 ·exact⟨⟨hl,.inl s⟩,hn⟩
 ·refine⟨⟨hl,.inr ⟨i,h1,h2,dZ h3 k.le,(k.get i h3 fun hc=>?_).trans h4⟩⟩,hn⟩
  rw[hc,g]at h4
  simp only[ai]at h4
  exact he _ h4
theorem mX.push{B N0:Nat}{x:V}{k:Int}{w:List Nat}(s:mX N0 h N v l)(hB:B<=N0)(hN:N0<=N)(hw:au B w=[])(hx:ft ⟨h,N,w⟩ 1 x=some (1,[.int .i64 k]))(hl:l.length<1000):∃v' h' w',jQ ⟨h,N,w⟩ 1 8 3 v x=some (v',⟨h',N+1,w'⟩)/\au B w'=[]/\dC (fun i=>i∈dj v) h N h' (N+1)/\pV 3 NW h v/\(∀i∈dj v,N0<=i)/\mX N0 h' (N+1) v' (l++[k]):=by
 obtain⟨s,hn⟩:=s
 have sB:Own 1 3 B h N v (xO l):=⟨s.1,s.2.imp id fun ⟨i,a,b,c⟩=>⟨i,a,by omega,c⟩⟩
 have hY:∀c∈xO l,∀y∈c,NW y:=fun c hc y hy=>by
  obtain⟨p,_,rfl⟩:=jk.1 hc
  simp at hy
  subst hy
  exact fun m=>by simp
 have h0:xO l=[]->v=.aa:=fun h0=>hn (List.map_eq_nil_iff.1 h0)
 have hb:(2*((xO l).length+1)+1000)*8<=281474976710656:=by simp only[xO,si];omega
 obtain⟨v1,h1,w1,a1,a2,_,_,_,_⟩:=Dl (Y:=NW) (bytes:=8) (w:=w) sB h0 hY (by omega) (by decide) rfl hx hb
 obtain⟨v2,h2,w2,b1,_,_,b4,b5,b6⟩:=Dl (Y:=NW) (bytes:=8) (w:=w) s h0 hY hN (by decide) rfl hx hb
 rw[a1]at b1
 simp only[ai,bo,St.mk.injEq,true_and]at b1
 obtain⟨rfl,rfl,rfl⟩:=b1
 refine⟨v1,h1,w1,a1,a2.trans hw,b4,b5,fun i hi=>?_,by simpa[xO]using b6,fun hc=>by simp at hc⟩
 obtain⟨_,⟨_,rfl⟩|⟨j,rfl,c1,_⟩⟩:=s
 ·simp[dj]at hi
 ·simp[dj]at hi
  omega
theorem mX.sl{N0:Nat}(s:mX N0 h N v l):Sl h N v (dI l):=by
 have:=s.1.sn
 have e:xO l=(dI l).map fun y=>[y]:=by unfold xO dI;rw[List.map_map];rfl
 rw[e]at this
 exact Sn.one.1 this
variable {d i j k:Nat} {m:List (List Rat)}
def dt(m:List (List Rat))(i j:Nat):Rat:=(m[i]?.getD [])[j]?.getD 0
theorem Ypf{p:Nat}(hd:d<m.length)(hp:p<m.length):dt (er m d p) i j=if i=d then dt m p j else if i=p then dt m d j else dt m i j:=by
 unfold dt er
 by_cases e1:i=p
 ·subst e1
  rw[fy (by simp;exact hp)]
  by_cases e2:i=d
  ·subst e2;simp
  ·simp[e2]
 ·rw[dr (Ne.symm e1)]
  by_cases e2:i=d
  ·subst e2;rw[fy hd];simp
  ·rw[dr (Ne.symm e2)];simp[e1,e2]
theorem Ypg(hd:d<m.length):dt (gS m d k) i j=if i=d then dt m d j/dt m d k else dt m i j:=by
 unfold dt gS
 by_cases e:i=d
 ·subst e
  rw[fy hd,aF rfl,og,iX]
  cases (m[i]?.getD [])[j]? with
  |none=>simp[Rat.div_def,Rat.zero_mul]
  |some q=>rfl
 ·rw[dr (Ne.symm e),ar e]
theorem Yph{c:Nat}(h:ew m c)(hi:i<m.length)(hd:d<m.length):dt (gl m d k m.length) i j=if i=d then dt m i j else dt m i j-dt m i k*dt m d j:=by
 unfold dt
 rw[zm hi,og]
 by_cases e:i=d
 ·rw[ar (by omega),aF e]
 ·rw[aF ⟨hi,e⟩,ar e]
  have l1:=h.at hi
  have l2:=h.at hd
  by_cases hj:j<c
  ·unfold py
   rw[M6 (by omega)]
   rfl
  ·rw[eG (by rw[S6];omega),eG (l:=m[i]?.getD []) (by omega),eG (l:=m[d]?.getD []) (by omega)]
   show (0:Rat)=0-(m[i]?.getD [])[k]?.getD 0*0
   rw[Rat.mul_zero,Rat.sub_self]
theorem Tp{m:List (List Rat)}{k:Nat}:∀{n d:Nat},d+n<=ma m k d n->∀i,d<=i->i<d+n->dt m i k=0
 |0,d,h,i,h1,h2=>by omega
 |n+1,d,h,i,h1,h2=>by
  unfold ma at h
  split at h
  ·omega
  ·rename_i hc
   by_cases e:i=d
   ·subst e;unfold dt;simpa using hc
   ·exact Tp (n:=n) (d:=d+1) (by omega) i (by omega) (by omega)
structure zt (m:List (List Rat)) (d:Nat) (ps:List Nat) (n:Nat):Prop where
 len:ps.length=d
 le:d<=m.length
 lt:∀i,i<d->ps[i]?.getD 0<n
 Fz:∀i j,i<j->j<d->ps[i]?.getD 0<ps[j]?.getD 0
 one:∀i j,i<d->j<m.length->dt m j (ps[i]?.getD 0)=if j=i then 1 else 0
 lead:∀i k,i<d->k<ps[i]?.getD 0->dt m i k=0
 rest:∀i k,d<=i->i<m.length->k<n->dt m i k=0
theorem zt.step{s:List (List Rat)×Nat×List Nat}{n c:Nat}(h:zt s.1 s.2.1 s.2.2 n)(hc:ew s.1 c):zt (jC s n).1 (jC s n).2.1 (jC s n).2.2 (n+1):=by
 obtain⟨m,d,ps⟩:=s
 simp only at h hc
 unfold jC
 simp only
 have hle:=@Fl m n (m.length-d) d
 have gW:=h.le
 split
 ·rename_i hp
  have fu:d<m.length:=by unfold eJ at hp;omega
  have Tq:d<=eJ m d n:=hle.1
  have bA:dt m (eJ m d n) n≠0:=@Fm m n (m.length-d) d (by unfold eJ at hp;omega)
  generalize eJ m d n=p at*
  have i_:=(hc.zn fu hp).Je (d:=d) (k:=n) (by rw[ti];exact fu)
  have hlen:(gl (gS (er m d p) d n) d n m.length).length=m.length:=by rw[wx,Dm,ti]
  have jq:(gS (er m d p) d n).length=m.length:=by rw[Dm,ti]
  have hb:∀i j,dt (er m d p) i j=if i=d then dt m p j else if i=p then dt m d j else dt m i j:=fun i j=>Ypf fu hp
  have hs:∀i j,dt (gS (er m d p) d n) i j=if i=d then dt m p j/dt m p n else dt (er m d p) i j:=fun i j=>by
   rw[Ypg (by rw[ti];exact fu),hb d j,hb d n,aF rfl,aF rfl]
  have he:∀i j,i<m.length->dt (gl (gS (er m d p) d n) d n m.length) i j=if i=d then dt m p j/dt m p n else dt (er m d p) i j-dt (er m d p) i n*(dt m p j/dt m p n):=fun i j hi=>by
   have:=Yph (m:=gS (er m d p) d n) (k:=n) (j:=j) i_ (i:=i) (d:=d) (by rw[jq];exact hi) (by rw[jq];exact fu)
   rw[jq]at this
   rw[this,hs i j,hs i n,hs d j,aF rfl]
   split<;>rfl
  have mj:dt m p n/dt m p n=1:=by rw[Rat.div_def];exact Rat.mul_inv_cancel _ bA
  have Nx:∀i j,i<d->dt (er m d p) i j=dt m i j:=fun i j hi=>by rw[hb,ar (by omega),ar (by omega)]
  have fQ:∀i k,d<=i->i<m.length->k<n->dt (er m d p) i k=0:=fun i k h1 h2 h3=>by
   rw[hb]
   split
   ·exact h.rest p k Tq hp h3
   ·split
    ·exact h.rest d k (aV _) fu h3
    ·exact h.rest i k h1 h2 h3
  have nQ:∀k,k<n->dt m p k/dt m p n=0:=fun k hk=>by rw[h.rest p k Tq hp hk,Rat.div_def,Rat.zero_mul]
  have hold:∀i k,i<m.length->k<n->dt (gl (gS (er m d p) d n) d n m.length) i k=if i<d then dt m i k else 0:=fun i k hi hk=>by
   rw[he i k hi,nQ k hk,Rat.mul_zero]
   by_cases e:i=d
   ·rw[aF e,ar (by omega)]
   ·rw[ar e]
    by_cases e2:i<d
    ·rw[aF e2,Nx i k e2,Rat.sub_eq_add_neg,Rat.neg_zero,Rat.add_zero]
    ·rw[ar e2,fQ i k (by omega) hi hk,Rat.sub_eq_add_neg,Rat.neg_zero,Rat.add_zero]
  have mY:∀i,i<m.length->dt (gl (gS (er m d p) d n) d n m.length) i n=if i=d then 1 else 0:=fun i hi=>by
   rw[he i n hi,mj]
   split
   ·rfl
   ·rw[Rat.mul_one,Rat.sub_self]
  have ho:∀i,i<d->(ps++[n])[i]?.getD 0=ps[i]?.getD 0:=fun i hi=>by rw[jO (by have:=h.len;omega)]
  have rb:(ps++[n])[d]?.getD 0=n:=by rw[od (by have:=h.len;omega),h.len];simp
  show zt (gl (gS (er m d p) d n) d n m.length) (d+1) (ps++[n]) (n+1)
  refine⟨by simp[h.len],by rw[hlen];omega,fun i hi=>?_,fun i j h1 h2=>?_,fun i j h1 h2=>?_,fun i k h1 h2=>?_,fun i k h1 h2 h3=>?_⟩
  ·by_cases e:i<d
   ·rw[ho i e];have:=h.lt i e;omega
   ·obtain rfl:i=d:=by omega
    rw[rb];omega
  ·rw[ho i (by omega)]
   by_cases e:j<d
   ·rw[ho j e];exact h.Fz i j h1 e
   ·obtain rfl:j=d:=by omega
    rw[rb];exact h.lt i h1
  ·rw[hlen]at h2
   by_cases e:i<d
   ·rw[ho i e,hold j _ h2 (h.lt i e)]
    by_cases e2:j<d
    ·rw[aF e2];exact h.one i j e h2
    ·rw[ar e2,ar (by omega)]
   ·obtain rfl:i=d:=by omega
    rw[rb];exact mY j h2
  ·by_cases e:i<d
   ·rw[ho i e]at h2
    rw[hold i k (by omega) (by have:=h.lt i e;omega),aF e]
    exact h.lead i k e h2
   ·obtain rfl:i=d:=by omega
    rw[rb]at h2
    rw[hold i k fu h2,ar e]
  ·rw[hlen]at h2
   by_cases e:k<n
   ·rw[hold i k h2 e,ar (by omega)]
   ·obtain rfl:k=n:=by omega
    rw[mY i h2,ar (by omega)]
 ·rename_i hp
  have FA:=@Tp m n (m.length-d) d (by unfold eJ at hp;omega)
  show zt m d ps (n+1)
  refine⟨h.len,h.le,fun i hi=>by have:=h.lt i hi;omega,h.Fz,h.one,h.lead,fun i k h1 h2 h3=>?_⟩
  by_cases e:k<n
  ·exact h.rest i k h1 h2 e
  ·obtain rfl:k=n:=by omega
   exact FA i h1 (by omega)
theorem Dy{m:List (List Rat)}{c:Nat}(hc:ew m c):∀{n:Nat},zt (aU m n).1 (aU m n).2.1 (aU m n).2.2 n
 |0=>⟨rfl,pC _,fun i hi=>absurd hi (Nat.not_lt_zero i),fun i j _ hj=>absurd hj (Nat.not_lt_zero j),fun i j hi=>absurd hi (Nat.not_lt_zero i),fun i k hi=>absurd hi (Nat.not_lt_zero i),fun i k _ _ hk=>absurd hk (Nat.not_lt_zero k)⟩
 |n+1=>by
  rw[ui]
  exact(@Dy m c hc n).step (wG hc).1
def qd(m:List (List Rat))(ps:List Nat)(n k:Nat):List Rat:=(List.range n).map fun j=>if j=k then 1 else if j∈ps then -dt m (ps.idxOf j) k else 0
def ot(ps:List Nat)(n:Nat):List Nat:=(List.range n).filter fun k=>!ps.contains k
def pE(m:List (List Rat))(n:Nat):List (List Rat):=(ot (aU m n).2.2 n).map (qd (gm m n) (aU m n).2.2 n)
def sF(m:List (List Rat))(n:Nat):List (List Rat):=gm (pE m n) n
theorem Ny:∀{n:Nat} {ps:List Nat},(∀i,i<ps.length->ps[i]?.getD 0<n)->(∀i j,i<j->j<ps.length->ps[i]?.getD 0<ps[j]?.getD 0)->(ot ps n).length+ps.length=n
 |0,ps,h1,h2=>by
  cases ps with
  |nil=>rfl
  |cons p t=>exact absurd (h1 0 (by simp)) (by omega)
 |n+1,ps,h1,h2=>by
  have hs:ot ps (n+1)=ot ps n++if ps.contains n=true then [] else [n]:=by
   unfold ot
   rw[List.range_succ,List.filter_append]
   congr 1
   rw[List.filter_cons]
   cases hc:ps.contains n<;>rfl
  by_cases hm:n∈ps
  ·have ml:ps=ps.dropLast++[n]:=by
    obtain⟨i,hi⟩:=xP hm
    have A9:=(tn.1 hi).1
    have:i=ps.length-1:=by
     by_cases e:i=ps.length-1
     ·exact e
     ·have h3:=h2 i (ps.length-1) (by omega) (by omega)
      have h4:=h1 (ps.length-1) (by omega)
      rw[hi]at h3
      simp only[og]at h3
      omega
    subst this
    have bA:ps≠[]:=fun hc=>by rw[hc]at hm;simp at hm
    have hl:ps.getLast bA=n:=by rw[List.getLast_eq_getElem];rw[cW A9]at hi;exact pq hi
    conv=>lhs;rw[<-Jq bA,hl]
   generalize ps.dropLast=l at ml
   subst ml
   have xQ:(l++[n]).length=l.length+1:=by simp
   have aB:∀i,i<l.length->l[i]?.getD 0<n:=fun i hi=>by
    have:=h2 i l.length hi (by omega)
    rw[jO hi,od (aV _)]at this
    simpa using this
   have ih:=@Ny n l aB fun i j h3 h4=>by
    have:=h2 i j h3 (by omega)
    rw[jO h4,jO (by omega)]at this
    exact this
   have he:ot (l++[n]) n=ot l n:=by
    unfold ot
    apply List.filter_congr
    intro k hk
    have hk:=wm.1 hk
    have tq:k≠n:=by omega
    simp[tq]
   rw[hs,he,xQ]
   simp
   omega
  ·have hb:∀i,i<ps.length->ps[i]?.getD 0<n:=fun i hi=>by
    have:=h1 i hi
    have h3:ps[i]?.getD 0≠n:=fun hc=>by
     rw[cW hi]at hc
     simp only[og]at hc
     exact hm (hc▸List.getElem_mem hi)
    omega
   have ih:=@Ny n ps hb h2
   rw[hs]
   simp[hm]
   omega
theorem zt.idx{n:Nat}{ps:List Nat}(h:zt m d ps n)(hi:i<d):ps.idxOf (ps[i]?.getD 0)=i:=by
 have hl:=h.len
 have hm:ps[i]?.getD 0∈ps:=by
  rw[cW (by omega)]
  exact List.getElem_mem _
 have hj:=List.idxOf_lt_length_iff.2 hm
 have hg:=List.getElem_idxOf hj
 by_cases e:ps.idxOf (ps[i]?.getD 0)=i
 ·exact e
 ·exfalso
  rcases Nat.lt_or_gt_of_ne e with h1|h1
  ·have:=h.Fz _ _ h1 hi
   rw[cW hj,hg]at this
   simp at this
  ·have:=h.Fz _ _ h1 (by omega)
   rw[cW hj,hg]at this
   simp at this
end Go.Mx
