/-bits-/
import Derived.Test.YteoackkadadmdaaGreatDoorNaA
set_option linter.all false
namespace Go.Mx
open Go Go.Proofs
variable {b u y:Nat}
set_option maxHeartbeats 8000000
set_option maxRecDepth 1000000
def A.ig:av:=.seq (sr [mv 102 18,ge 103 (.bin .geq (.node []) false (tq 102) (.const (.int .u64 4294967296))),mv 104 103,mh 105 18 104,mh 106 10 104,gz 107 104 (.bin .mul (.node []) false (tq 105) (tq 106)),mh 108 16 104,gz 109 104 (.bin .mul (.node []) false (.const (.int .u64 4294967296)) (tq 108)),mh 110 14 104,gz 111 104 (.bin .add (.node []) false (tq 109) (tq 110)),gz 112 104 (.bin .gtr (.node []) false (tq 107) (tq 111)),pt 113 104 112]
 (cd 113
 (.skip)
 (.exit 2)))
 (.block 3 (sr [mv 114 18,ge 115 (.bin .sub (.node []) false (tq 114) (.const (.int .u64 1))),mv 18 115]
 (sr [mv 116 16,mv 117 9,bi 118 .add 116 117,mv 16 118]
 (sr [mv 119 16,ge 120 (.bin .geq (.node []) false (tq 119) (.const (.int .u64 4294967296)))]
 (cd 120
 (.exit 2)
 (.skip))))))
def A.ij:av:=.seq (sr [mv 67 15,ge 68 (.bin .geq (.node []) false (tq 67) (.const (.int .u64 4294967296))),mv 69 68,mh 70 15 69,mh 71 10 69,gz 72 69 (.bin .mul (.node []) false (tq 70) (tq 71)),mh 73 16 69,gz 74 69 (.bin .mul (.node []) false (.const (.int .u64 4294967296)) (tq 73)),mh 75 13 69,gz 76 69 (.bin .add (.node []) false (tq 74) (tq 75)),gz 77 69 (.bin .gtr (.node []) false (tq 72) (tq 76)),pt 78 69 77]
 (cd 78
 (.skip)
 (.exit 0)))
 (.block 1 (sr [mv 79 15,ge 80 (.bin .sub (.node []) false (tq 79) (.const (.int .u64 1))),mv 15 80]
 (sr [mv 81 16,mv 82 9,bi 83 .add 81 82,mv 16 83]
 (sr [mv 84 16,ge 85 (.bin .geq (.node []) false (tq 84) (.const (.int .u64 4294967296)))]
 (cd 85
 (.exit 0)
 (.skip))))))
def A.b249:av:=sr [ge 6 (.ba (.const (.int .u64 0))),ge 7 (.ba (.const (.int .u64 0)))]
 (.seq (sr [mv 19 2,ge 20 (.bin .eql (.aM .int) true (tq 19) (.const (.int .u64 0)))]
 (cd 20
 (.aR [ge 21 (.load none (.const (.ptr 1 0))),gn (.stop)])
 (.skip)))
 (.seq (sr [mv 22 2,mv 23 0,bi 24 .leq 22 23]
 (cd 24
 (.aR [ge 25 (.load none (.const (.ptr 2 0))),gn (.stop)])
 (.skip)))
 (.seq (sr [mv 26 0,ge 27 (.bin .eql (.aM .int) true (tq 26) (.const (.int .u64 0)))]
 (cd 27
 (.seq (.aX [mv 28 1,mv 29 2,bi 30 .quo 28 29,mv 31 1,mv 32 2,bi 33 .rem 31 32,mv 6 30,mv 7 33] [0,0,3,0,0,24,7,127])
 (.ret))
 (.skip)))
 (sr [mv 34 2,c1 35 250 34,ge 36 (.bj .u64 (tq 35)),mv 8 36]
 (sr [mv 37 2,mv 38 8,bi 39 .shl 37 38,mv 2 39]
 (sr [mv 40 2,ge 41 (.bin .shr (.node []) false (tq 40) (.const (.int .u64 32))),mv 9 41]
 (sr [mv 42 2,ge 43 (.bin .and (.node []) false (tq 42) (.const (.int .u64 4294967295))),mv 10 43]
 (sr [mv 44 0,mv 45 8,bi 46 .shl 44 45,mv 47 1,mv 48 8,ge 49 (.bin .sub (.node []) false (.const (.int .u64 64)) (tq 48)),bi 50 .shr 47 49,bi 51 .or 46 50,mv 11 51]
 (sr [mv 52 1,mv 53 8,bi 54 .shl 52 53,mv 12 54]
 (sr [mv 55 12,ge 56 (.bin .shr (.node []) false (tq 55) (.const (.int .u64 32))),mv 13 56]
 (sr [mv 57 12,ge 58 (.bin .and (.node []) false (tq 57) (.const (.int .u64 4294967295))),mv 14 58]
 (sr [mv 59 11,mv 60 9,bi 61 .quo 59 60,mv 15 61]
 (sr [mv 62 11,mv 63 15,mv 64 9,bi 65 .mul 63 64,bi 66 .sub 62 65,mv 16 66]
 (.seq (.block 0 (.loop A.ij))
 (sr [mv 86 11,ge 87 (.bin .mul (.node []) false (tq 86) (.const (.int .u64 4294967296))),mv 88 13,bi 89 .add 87 88,mv 90 15,mv 91 2,bi 92 .mul 90 91,bi 93 .sub 89 92,mv 17 93]
 (sr [mv 94 17,mv 95 9,bi 96 .quo 94 95,mv 18 96]
 (sr [mv 97 17,mv 98 18,mv 99 9,bi 100 .mul 98 99,bi 101 .sub 97 100,mv 16 101]
 (.seq (.block 2 (.loop A.ig))
 (sr [mv 121 15,ge 122 (.bin .mul (.node []) false (tq 121) (.const (.int .u64 4294967296))),mv 123 18,bi 124 .add 122 123,mv 125 17,ge 126 (.bin .mul (.node []) false (tq 125) (.const (.int .u64 4294967296))),mv 127 14,bi 128 .add 126 127,mv 129 18,mv 130 2,bi 131 .mul 129 130,bi 132 .sub 128 131,mv 133 8,bi 134 .shr 132 133,mv 6 124,mv 7 134]
 (.ret))))))))))))))))))))
def A.c249:A.F 249=some ⟨135,[.tmp 6,.tmp 7],A.b249⟩:=by kernel_rfl
def A.k249:=@A.kk 249 _ _ _ A.c249 rfl
structure DvI (h:T O) (N:Nat) (k1 u cv D m:Nat) (r:T V) (st:St):Prop where
 st:st=⟨h,N,[]⟩
 ex:∃rh:Nat,r.get k1=some (.int .u64 m)/\r.get 16=some (.int .u64 rh)/\u=m*cv+rh/\D<=m/\m<=4294967297/\rh<4294967296
def Ykg(h0:¬y=0)(h:y<18446744073709551616):9223372036854775808<=y*2^(64-bh y)/\y*2^(64-bh y)<18446744073709551616/\64-bh y<64:=by
 have h1:=PI y
 have h2:=Ja h0
 have hp:0<bh y:=by unfold bh;rw[ar h0];omega
 have hl:bh y<=64:=by
  apply yp
  intro hc
  have:2^64<=2^(bh y-1):=sK (by decide) (by omega)
  omega
 refine⟨?_,?_,by omega⟩
 ·have:=lV (2^(64-bh y)) h2
  rw[<-kQ,show bh y-1+(64-bh y)=63 by omega]at this
  exact this
 ·have:=Kd h1 (sN (64-bh y))
  rw[<-kQ,show bh y+(64-bh y)=64 by omega]at this
  exact this
def Wp{a:Nat}(h:a<18446744073709551616):bu .u64 ((a:Int)/(b:Int))=(l8 a b:Nat):=by
 have e:((a:Int)/(b:Int))=((a/b:Nat):Int):=rfl
 have:=uH a b
 rw[e,Ej (Int.natCast_nonneg _) (Int.ofNat_lt.2 (show a/b<18446744073709551616 by omega))]
 rfl
def Zr1{a c:Nat}(h:c<=a)(hr:a-c<18446744073709551616):fM (a%18446744073709551616) (c%18446744073709551616)=a-c:=by
 unfold fM
 split<;>omega
def Yag{c u1 u0 z Y:Nat}(hc:c=b*b)(hY:0<Y):(u1*c+u0*b+z)/Y=(u1*b+u0)/Y*b+((u1*b+u0)%Y*b+z)/Y/\(u1*c+u0*b+z)%Y=((u1*b+u0)%Y*b+z)%Y:=by
 subst hc
 have h:=tP (u1*b+u0) Y
 have e:u1*(b*b)+u0*b+z=Y*((u1*b+u0)/Y*b)+((u1*b+u0)%Y*b+z):=by
  generalize (u1*b+u0)/Y=D at*
  generalize (u1*b+u0)%Y=R at*
  have:(Y*D+R)*b=(u1*b+u0)*b:=by rw[h]
  grind
 rw[e,Nat.mul_add_div hY,Nat.mul_add_mod]
 exact⟨rfl,rfl⟩
def Zs7:u=u/y*y+u%y:=by
 have:=tP u y
 rw[iX]at this
 exact this.symm
def Zxc(h:0<y)(hb:y<=b):u%y<b:=fE (kh _ h) hb
def Zxe{un cv ko:Nat}(h:0<cv)(hn:un<4294967296):(u*4294967296+un)/(cv*4294967296+ko)<=u/cv:=by
 have h1:(u*4294967296+un)/(cv*4294967296+ko)<=(u*4294967296+un)/(cv*4294967296):=Nat.div_le_div_left (by omega) (by omega)
 have h2:(u*4294967296+un)/(cv*4294967296)=u/cv:=by
  rw[iX cv,<-FK,show (u*4294967296+un)/4294967296=u by omega]
 rw[h2]at h1
 exact h1
def Zxd{cv ko:Nat}(h0:ko<4294967296)(h:2147483648<=cv)(hu:u<cv*4294967296+ko):u/cv<=4294967297:=by
 apply Nat.le_of_lt_succ
 apply (pz (by omega)).2
 omega
def Zxj{h:T O}{N:Nat}{hi lo:Nat}(hy:hi<y)(GK:y<18446744073709551616)(fL:lo<18446744073709551616):Fn A.C 249 [.int .u64 hi,.int .u64 lo,.int .u64 y] h N (fun v h' N'=>h'=h/\N'=N/\v=.bg [.int .u64 ((hi*18446744073709551616+lo)/y:Nat),.int .u64 ((hi*18446744073709551616+lo)%y:Nat)]):=by
 intro w
 have xf:¬y=0:=by omega
 have hle:¬y<=hi:=by omega
 rw[aO,A.k249 (by simp)]
 by_cases h0:hi=0
 ·subst h0
  have hq:=Wp (b:=y) fL
  simp[A.b249,xf,cA.cB,az,hq,Lx,l8]
  exact ab.refl
 ·simp[A.b249,xf,hle,h0]
  refine aA (Ydg GK) ?_
  rintro _ h N hk ⟨rfl,rfl,rfl⟩
  obtain⟨n1,n2,n3⟩:=Ykg xf GK
  generalize 64-bh y=s at*
  have hw:bu .u64 (s:Int)=(s:Int):=Ej (by omega) (by omega)
  have A3:bu .u64 (64-(s:Int))=((64-s:Nat):Int):=by rw[Ej (by omega) (by omega)];omega
  obtain⟨Y,hY⟩:∃Y,bU y s=Y:=⟨_,rfl⟩
  have hYe:Y=y*2^s:=by rw[<-hY];unfold bU;omega
  obtain⟨cv,LY⟩:∃x,au Y 32=x:=⟨_,rfl⟩
  obtain⟨ko,LZ⟩:∃x,eL Y=x:=⟨_,rfl⟩
  obtain⟨U,hU⟩:∃x,ja (bU hi s) (au lo (64-s))=x:=⟨_,rfl⟩
  obtain⟨L,hL⟩:∃x,bU lo s=x:=⟨_,rfl⟩
  obtain⟨xg,Ma⟩:∃x,au L 32=x:=⟨_,rfl⟩
  obtain⟨vw,Mb⟩:∃x,eL L=x:=⟨_,rfl⟩
  have hYB:Y<18446744073709551616:=by omega
  have hLB:L<18446744073709551616:=by rw[<-hL];exact VQ
  have PX:Y=cv*4294967296+ko/\ko<4294967296:=by
   rw[<-LY,<-LZ];unfold au eL;omega
  have hLd:L=xg*4294967296+vw/\vw<4294967296:=by
   rw[<-Ma,<-Mb];unfold au eL;omega
  have hA:U*18446744073709551616+L=(hi*18446744073709551616+lo)*2^s:=by
   have e1:=PJ (x:=hi) n3 (Yj3 (x:=lo) (s:=s) fL (by omega))
   have e2:=Ybn (x:=lo) (s:=s) (by omega)
   have e3:bU hi s=hi*2^s:=by
    unfold bU
    have:=Kd hy (sN s)
    omega
   have e4:U=au lo (64-s)+hi*2^s:=by
    rw[<-hU,<-e3,<-e1];unfold ja;exact Nat.or_comm _ _
   rw[hL]at e2
   unfold B at e2
   rw[e4,iW (hi*18446744073709551616),<-e2]
   have:hi*18446744073709551616*2^s=hi*2^s*18446744073709551616:=by grind
   omega
  have hUY:U<Y:=by
   have h1:hi*18446744073709551616+lo<y*18446744073709551616:=by omega
   have h2:=Kd h1 (sN s)
   have h3:y*18446744073709551616*2^s=y*2^s*18446744073709551616:=by grind
   omega
  have hsr:au lo (64-s)<18446744073709551616:=Zwb fL
  have hyp:0<cv:=by omega
  have hyb:cv<=4294967296:=by omega
  have Bf:0<cv*4294967296+ko:=by omega
  have hq:=Wp (b:=cv) (show U<18446744073709551616 by omega)
  have hr:fM U (cN (l8 U cv) cv)=U%cv:=by
   have h1:=tP U cv
   rw[iX]at h1
   have h2:cN (l8 U cv) cv=U/cv*cv:=by unfold cN l8;omega
   rw[h2,Ek (by omega) (by omega)];omega
  simp(disch:=first|(simp;done)|omega|(simp only[bI,cC,bD];omega)|rfl) [hq,hr,hw,A3,hY,LY,LZ,hU,hL,Ma,Mb]
  obtain⟨D1,Ac⟩:∃D,(U*4294967296+xg)/(cv*4294967296+ko)=D:=⟨_,rfl⟩
  refine bP [(15,16),(67,85)] (fun e r st=>e=.exit 0/\st=⟨h,N,[]⟩/\r.get 15=some (.int .u64 D1)) (DvI h N 15 U cv D1) (U/cv) ?_ ?_ ?_
  ·exact⟨rfl,U%cv,by simp[l8],by simp,Zs7,Ac▸Zxe hyp (by omega),Zxd PX.2 (by omega) (by omega),Zxc hyp hyb⟩
  ·rintro q r _ hr hf ⟨rfl,rh,hq,Ad,hu,hD,iJ,xA⟩
   rw[bq]
   obtain⟨P,hP⟩:∃P,P=q*ko:=⟨_,rfl⟩
   obtain⟨R2,Wq⟩:∃P,P=4294967296*rh:=⟨_,rfl⟩
   obtain⟨R3,hR3⟩:∃P,P=4294967296*rh+xg:=⟨_,rfl⟩
   have m2:cN 4294967296 rh=R2:=by unfold cN;omega
   have m3:cJ R2 xg=R3:=by unfold cJ;omega
   have tc:(4294967296<=q\/R3<P)->0<q/\D1<=q-1:=by
    intro hc
    have:D1<q:=by
     rcases hc with hc|hc
     ·have:D1<4294967296:=by rw[<-Ac];exact(pz Bf).2 (by omega)
      omega
     ·rw[<-Ac];exact Ztg (Zxm (b:=4294967296) hu (by omega))
    omega
   have qK:0<q->U=(q-1)*cv+(rh+cv):=by
    intro hc
    obtain⟨s,rfl⟩:∃s,q=s+1:=⟨q-1,by omega⟩
    rw[hu,iW];simp;omega
   have eK:∀GU,U=(q-1)*cv+GU->4294967296<=GU->(q-1)*(cv*4294967296+ko)<=U*4294967296+xg:=by
    intro GU h1 h2
    refine PW h1 ?_
    have:=uI (show q-1<=4294967296 by omega) (show ko<=4294967296 by omega)
    omega
   by_cases c1:4294967296<=q
   ·have c1':(4294967296:Int)<=(q:Int):=by omega
    obtain⟨g1,g2⟩:=tc (.inl c1)
    have s1:fM q 1=q-1:=Ek g1 (by omega)
    have s2:cJ rh cv=rh+cv:=by unfold cJ;omega
    by_cases c3:4294967296<=rh+cv
    ·have c3':(4294967296:Int)<=(rh:Int)+(cv:Int):=by omega
     simp[A.ij,hr,hq,Ad,c1',c3',s1,s2,hf]
     have hd:=Jh Bf (eK _ (qK g1) c3)
     rw[Ac]at hd;omega
    ·have c3':¬(4294967296:Int)<=(rh:Int)+(cv:Int):=by omega
     simp[A.ij,hr,hq,Ad,c1',c3',s1,s2,hf]
     exact⟨q-1,by omega,rfl,rh+cv,by simp,by simp,qK g1,g2,by omega,by omega⟩
   ·have c1':¬(4294967296:Int)<=(q:Int):=by omega
    have m1:cN q ko=P:=by
     have:=uI (show q<=4294967296 by omega) (show ko<=4294967295 by omega)
     unfold cN;omega
    by_cases c2:R3<P
    ·obtain⟨g1,g2⟩:=tc (.inr c2)
     have s1:fM q 1=q-1:=Ek g1 (by omega)
     have s2:cJ rh cv=rh+cv:=by unfold cJ;omega
     by_cases c3:4294967296<=rh+cv
     ·have c3':(4294967296:Int)<=(rh:Int)+(cv:Int):=by omega
      simp[A.ij,hr,hq,Ad,c1',c2,c3',m1,m2,m3,s1,s2,hf]
      have hd:=Jh Bf (eK _ (qK g1) c3)
      rw[Ac]at hd;omega
     ·have c3':¬(4294967296:Int)<=(rh:Int)+(cv:Int):=by omega
      simp[A.ij,hr,hq,Ad,c1',c2,c3',m1,m2,m3,s1,s2,hf]
      exact⟨q-1,by omega,rfl,rh+cv,by simp,by simp,qK g1,g2,by omega,by omega⟩
    ·simp[A.ij,hr,hq,Ad,c1',c2,m1,m2,m3,hf]
     have hd:=Jh Bf (PW (b:=4294967296) (un:=xg) hu (by omega))
     rw[Ac]at hd;omega
  rintro _ r _ eC ⟨rfl,rfl,CL⟩
  obtain⟨R1,PY⟩:∃R,(U*4294967296+xg)%Y=R:=⟨_,rfl⟩
  rw[<-PX.1]at Ac
  have zO:fM (cJ (cN U 4294967296) xg) (cN D1 Y)=R1:=by
   have h1:=tP (U*4294967296+xg) Y
   rw[Ac,PY,iX Y]at h1
   have h2:cJ (cN U 4294967296) xg=(U*4294967296+xg)%18446744073709551616:=by unfold cJ cN;omega
   rw[h2]
   have h3:=kh (U*4294967296+xg) (show 0<Y by omega)
   unfold cN
   rw[Zr1 (by omega) (by omega)];omega
  have zaB:R1<Y:=by rw[<-PY];exact kh _ (by omega)
  have jV:=Wp (b:=cv) (show R1<18446744073709551616 by omega)
  have dK:fM R1 (cN (l8 R1 cv) cv)=R1%cv:=by
   have h1:=tP R1 cv
   rw[iX]at h1
   have h2:cN (l8 R1 cv) cv=R1/cv*cv:=by unfold cN l8;omega
   rw[h2,Ek (by omega) (by omega)];omega
  simp(disch:=first|(simp;done)|omega|(simp only[bI,cC,bD];omega)|rfl) [eC,CL,zO,jV,dK]
  obtain⟨D0,yG⟩:∃D,(R1*4294967296+vw)/(cv*4294967296+ko)=D:=⟨_,rfl⟩
  refine bP [(16,16),(18,18),(102,120)] (fun e r st=>e=.exit 2/\st=⟨h,N,[]⟩/\r.get 18=some (.int .u64 D0)) (DvI h N 18 R1 cv D0) (R1/cv) ?_ ?_ ?_
  ·exact⟨rfl,R1%cv,by simp[l8],by simp,Zs7,yG▸Zxe hyp (by omega),Zxd PX.2 (by omega) (by omega),Zxc hyp hyb⟩
  ·rintro q r _ hr hf ⟨rfl,rh,hq,Ad,hu,hD,iJ,xA⟩
   rw[bq]
   obtain⟨P,hP⟩:∃P,P=q*ko:=⟨_,rfl⟩
   obtain⟨R2,Wq⟩:∃P,P=4294967296*rh:=⟨_,rfl⟩
   obtain⟨R3,hR3⟩:∃P,P=4294967296*rh+vw:=⟨_,rfl⟩
   have m2:cN 4294967296 rh=R2:=by unfold cN;omega
   have m3:cJ R2 vw=R3:=by unfold cJ;omega
   have tc:(4294967296<=q\/R3<P)->0<q/\D0<=q-1:=by
    intro hc
    have:D0<q:=by
     rcases hc with hc|hc
     ·have:D0<4294967296:=by rw[<-yG];exact(pz Bf).2 (by omega)
      omega
     ·rw[<-yG];exact Ztg (Zxm (b:=4294967296) hu (by omega))
    omega
   have qK:0<q->R1=(q-1)*cv+(rh+cv):=by
    intro hc
    obtain⟨s,rfl⟩:∃s,q=s+1:=⟨q-1,by omega⟩
    rw[hu,iW];simp;omega
   have eK:∀GU,R1=(q-1)*cv+GU->4294967296<=GU->(q-1)*(cv*4294967296+ko)<=R1*4294967296+vw:=by
    intro GU h1 h2
    refine PW h1 ?_
    have:=uI (show q-1<=4294967296 by omega) (show ko<=4294967296 by omega)
    omega
   by_cases c1:4294967296<=q
   ·have c1':(4294967296:Int)<=(q:Int):=by omega
    obtain⟨g1,g2⟩:=tc (.inl c1)
    have s1:fM q 1=q-1:=Ek g1 (by omega)
    have s2:cJ rh cv=rh+cv:=by unfold cJ;omega
    by_cases c3:4294967296<=rh+cv
    ·have c3':(4294967296:Int)<=(rh:Int)+(cv:Int):=by omega
     simp[A.ig,hr,eC,hq,Ad,c1',c3',s1,s2,hf]
     have hd:=Jh Bf (eK _ (qK g1) c3)
     rw[yG]at hd;omega
    ·have c3':¬(4294967296:Int)<=(rh:Int)+(cv:Int):=by omega
     simp[A.ig,hr,eC,hq,Ad,c1',c3',s1,s2,hf]
     exact⟨q-1,by omega,rfl,rh+cv,by simp,by simp,qK g1,g2,by omega,by omega⟩
   ·have c1':¬(4294967296:Int)<=(q:Int):=by omega
    have m1:cN q ko=P:=by
     have:=uI (show q<=4294967296 by omega) (show ko<=4294967295 by omega)
     unfold cN;omega
    by_cases c2:R3<P
    ·obtain⟨g1,g2⟩:=tc (.inr c2)
     have s1:fM q 1=q-1:=Ek g1 (by omega)
     have s2:cJ rh cv=rh+cv:=by unfold cJ;omega
     by_cases c3:4294967296<=rh+cv
     ·have c3':(4294967296:Int)<=(rh:Int)+(cv:Int):=by omega
      simp[A.ig,hr,eC,hq,Ad,c1',c2,c3',m1,m2,m3,s1,s2,hf]
      have hd:=Jh Bf (eK _ (qK g1) c3)
      rw[yG]at hd;omega
     ·have c3':¬(4294967296:Int)<=(rh:Int)+(cv:Int):=by omega
      simp[A.ig,hr,eC,hq,Ad,c1',c2,c3',m1,m2,m3,s1,s2,hf]
      exact⟨q-1,by omega,rfl,rh+cv,by simp,by simp,qK g1,g2,by omega,by omega⟩
    ·simp[A.ig,hr,eC,hq,Ad,c1',c2,m1,m2,m3,hf]
     have hd:=Jh Bf (PW (b:=4294967296) (un:=vw) hu (by omega))
     rw[yG]at hd;omega
  rintro _ r2 _ oX ⟨rfl,rfl,h18⟩
  obtain⟨R0,y_⟩:∃R,(R1*4294967296+vw)%Y=R:=⟨_,rfl⟩
  rw[<-PX.1]at yG
  have nO:fM (cJ (cN R1 4294967296) vw) (cN D0 Y)=R0:=by
   have h1:=tP (R1*4294967296+vw) Y
   rw[yG,y_,iX Y]at h1
   have h2:cJ (cN R1 4294967296) vw=(R1*4294967296+vw)%18446744073709551616:=by unfold cJ cN;omega
   rw[h2]
   have h3:=kh (R1*4294967296+vw) (show 0<Y by omega)
   unfold cN
   rw[Zr1 (by omega) (by omega)];omega
  have sX:D1<4294967296:=by rw[<-Ac];exact(pz (by omega)).2 (by omega)
  have pE:D0<4294967296:=by rw[<-yG];exact(pz (by omega)).2 (by omega)
  have ha:cJ (cN D1 4294967296) D0=D1*4294967296+D0:=by unfold cJ cN;omega
  obtain⟨e1,e2⟩:=Yag (b:=4294967296) (c:=18446744073709551616) (by decide) (u1:=U) (u0:=xg) (z:=vw) (show 0<Y by omega)
  rw[PY,Ac,yG]at e1
  rw[PY,y_]at e2
  have e3:U*18446744073709551616+xg*4294967296+vw=(hi*18446744073709551616+lo)*2^s:=by
   rw[<-hA,hLd.1,pw]
  rw[e3,hYe,Oy _ _ (sN s)]at e1
  rw[e3,hYe,Ke]at e2
  have PZ:au R0 s=(hi*18446744073709551616+lo)%y:=by
   unfold au
   rw[<-e2,Nat.mul_div_cancel _ (sN s)]
  simp(disch:=first|(simp;done)|omega|(simp only[bI,cC,bD];omega)|rfl) [eC,oX,CL,h18,nO,ha,az]
  have e5:(hi:Int)*18446744073709551616+lo=((hi*18446744073709551616+lo:Nat):Int):=by omega
  refine⟨ab.refl,?_,?_⟩
  ·rw[e5,<-Int.natCast_ediv,e1];omega
  ·rw[e5,<-Int.natCast_emod,PZ]
open Go
variable {P Y a b d k q u v1:Nat} {l:List Nat}
def Be(h:l[k]?=some d):val b (l.drop k)=d+b*val b (l.drop (k+1)):=by
 have hk:k<l.length:=by
  apply sM;intro hc;rw[fC hc]at h;cases h
 rw[FJ hk]
 rw[cZ hk]at h
 simp only[al]at h
 rw[h];rfl
def Et(b:Nat)(l:List Nat)(k:Nat)(hk:k<=l.length):val b l=val b (l.take k)+b^k*val b (l.drop k):=by
 have:=PC b (l.take k) (l.drop k)
 rw[BL,gm,py hk]at this
 exact this
def Zv4{b:Nat}:∀{l:List Nat},(∀(t:Nat),t<l.length->l[t]?=some 0)->val b l=0
 |[],_=>rfl
 |d::l,h=>by
  have h0:=h 0 (by simp)
  simp at h0
  have:=Zv4 (b:=b) (l:=l) fun t ht=>by simpa using h (t+1) (by simp;omega)
  simp[val,h0,this]
def Yq8{α:Type}{l:List α}{d:α}(h:l[k]?=some d):k<l.length:=by
 apply sM;intro hc;rw[fC hc]at h;cases h
def V7(hz:∀t,k<=t->t<l.length->l[t]?=some 0):val b (l.drop k)=0:=by
 apply Zv4
 intro t ht
 rw[fh]
 rw[xE]at ht
 exact hz _ (by omega) (by omega)
def Yf6{w:List Nat}{c:Nat}(ha:w[k]?=some a)(hc:w[k+1]?=some c)(hd:w[k+2]?=some d)(hz:∀t,k+3<=t->t<w.length->w[t]?=some 0):
  val b w=val b (w.take k)+b^k*(a+b*(d*b+c)):=by
 have:=Yq8 ha
 rw[Et b w k (by omega),Be ha,Be hc,Be hd,V7 hz]
 generalize b^k=p
 grind
def Yf7{w:List Nat}{c:Nat}(ha:w[k]?=some a)(hc:w[k+1]?=some c)(hl:w.length=k+2):
  val b w=val b (w.take k)+b^k*(a+b*c):=by
 rw[Et b w k (by omega),Be ha,Be hc,yd (by omega)]
 simp[val]
def Zm6(g:∀d∈l,d<b)(hk:k<=l.length):val b (l.take k)<b^k:=by
 have:=En (b:=b) (l:=l.take k) fun d hd=>g d (ym hd)
 rwa [gm,py hk]at this
def Yra{c U' v2 V':Nat}(hP:0<P)(B9:V'<P)(jt:v2<b)(hd:v1<=d)(hW:U'+P*(a+b*(d*b+c))<b*(V'+P*(v2+b*v1))):d=v1:=by
 apply Nat.le_antisymm _ hd
 apply yp
 intro ay
 have h1:b*(P*(b*(v1+1)))<=b*(P*(b*d)):=kg _ (kg _ (kg _ ay))
 have h2:V'+P*(v2+b*v1)<P*(b*(v1+1)):=by
  have:P*(v2+1)<=P*b:=kg _ jt
  grind
 have h3:b*(V'+P*(v2+b*v1))<=b*(P*(b*(v1+1))):=kg _ (Nat.le_of_lt h2)
 have h4:b*(P*(b*d))<=U'+P*(a+b*(d*b+c)):=by
  have:P*(b*(d*b))=b*(P*(b*d)):=by grind
  have:P*(b*(d*b))<=P*(a+b*(d*b+c)):=kg _ (by rw[sL];omega)
  omega
 omega
def Yrb{U' u2 u1 v2 V' r:Nat}(hU:U'<P)(fu:u2<b)(hinv:u1=q*v1+r)(hr:r<v1):U'+P*(u2+b*u1)<(q+1)*(V'+P*(v2+b*v1)):=by
 have h1:u1+1<=(q+1)*v1:=by rw[hinv,iW];omega
 have h2:P*(b*(u1+1))<=P*(b*((q+1)*v1)):=kg _ (kg _ h1)
 have h3:P*(u2+1)<=P*b:=kg _ fu
 have h4:P*(b*((q+1)*v1))<=(q+1)*(V'+P*(v2+b*v1)):=by
  have:(q+1)*(V'+P*(v2+b*v1))=(q+1)*V'+P*((q+1)*v2)+P*(b*((q+1)*v1)):=by grind
  omega
 have h5:U'+P*(u2+b*u1)+P<=U'+P*(b*(u1+1)):=by grind
 omega
def vu(q v c:Nat):Nat:=bG (bG (q*v)+c)
def n9(q v c:Nat):Nat:=cJ (cn (q*v)) (cn (bG (q*v)+c))
def Ym3{v c w:Nat}(hq:q<B)(hv:v<B)(hc:c<B)(hu:u<B)(hw:w<=1):
  er u (vu q v c) w+q*v+c+w=u+B*(n9 q v c+fA u (vu q v c) w)/\er u (vu q v c) w<B/\n9 q v c<B/\fA u (vu q v c) w<=1/\vu q v c<B:=by
 have:q*v<=18446744073709551615*18446744073709551615:=uI (by unfold B at*;omega) (by unfold B at*;omega)
 unfold n9 vu
 have h1:bG (bG (q*v)+c)+B*cJ (cn (q*v)) (cn (bG (q*v)+c))=q*v+c/\cJ (cn (q*v)) (cn (bG (q*v)+c))<B/\bG (bG (q*v)+c)<B:=by
  unfold bG cn cJ
  unfold B at*
  generalize q*v=p at*
  omega
 obtain⟨h1,h2,h3⟩:=h1
 generalize bG (bG (q*v)+c)=l at*
 generalize cJ (cn (q*v)) (cn (bG (q*v)+c))=k at*
 have h4:er u l w+l+w=u+B*fA u l w/\er u l w<B/\fA u l w<=1:=by
  unfold er fA
  unfold B at*
  split<;>omega
 obtain⟨h4,h5,h6⟩:=h4
 refine⟨?_,h5,h2,h6,h3⟩
 rw[sL]
 omega
def Yl3{l w:Nat}(hl:l<B)(hu:u<B)(hw:w<=1):er u l w+l+w=u+B*fA u l w/\er u l w<B/\fA u l w<=1:=by
 unfold er fA
 unfold B at*
 split<;>omega
def Yfr{v c:Nat}(hv:v<B)(hu:u<B)(hc:c<=1):bG (u+v+c)+B*cn (u+v+c)=u+v+c/\bG (u+v+c)<B/\cn (u+v+c)<=1:=by
 unfold bG cn
 unfold B at*
 omega
def LS{b:Nat}:∀{l:List Nat} {k old v:Nat},l[k]?=some old->val b (l.set k v)+b^k*old=val b l+b^k*v
 |[],k,old,v,h=>by simp at h
 |d::l,0,old,v,h=>by simp at h;subst h;simp[val];omega
 |d::l,k+1,old,v,h=>by
  have ih:=LS (b:=b) (l:=l) (k:=k) (old:=old) (v:=v) (by simpa using h)
  simp only[List.set_cons_succ,val,gE]
  generalize val b (l.set k v)=p at*
  generalize val b l=q at*
  generalize b^k=z at*
  have:b*(p+z*old)=b*(q+z*v):=by rw[ih]
  grind
def Dg.tl(h:Dg l){k v:Nat}(hv:v<B):Dg (l.set k v):=by
 intro d hd
 rcases EZ hd with hd|hd
 ·exact h d hd
 ·subst hd;exact hv
def Yqz{W U t c t' e:Nat}(hb:1<b)(hP:0<P)(hY:Y<P)(hU:U<P)(ht:t'<b)(he:e<=1)(h1:U+q*Y=W+P*c)(h2:t'+c=t+b*e)(fL:(q-1)*Y<=W+P*t)(gH:W+P*t<(q+1)*Y):
  (e=0->U+P*t'+q*Y=W+P*t/\U+P*t'<Y/\t'=0)/\(e=1->0<q/\U+P*t'+q*Y=W+P*t+P*b/\W+P*t<q*Y):=by
 have h3:P*t'+P*c=P*t+P*(b*e):=by rw[<-sL,h2,sL]
 constructor
 ·rintro rfl
  simp only[Nat.mul_zero,ka]at h3
  have h4:U+P*t'+q*Y=W+P*t:=by omega
  have h5:U+P*t'<Y:=by rw[iW]at gH;omega
  refine⟨h4,h5,?_⟩
  rcases FI t' with h|h
  ·exact h
  ·have:=kg P h
   omega
 ·rintro rfl
  simp only[yc]at h3
  have h4:U+P*t'+q*Y=W+P*t+P*b:=by omega
  have h5:P*(t'+1)<=P*b:=kg _ ht
  rw[sL]at h5
  have h6:W+P*t<q*Y:=by omega
  refine⟨?_,h4,h6⟩
  rcases FI q with h|h
  ·subst h;omega
  ·exact h
def Yns{U t' T A c:Nat}(hP:0<P)(hY:Y<P)(hA:A<P)(hc:c<=1)(ht:t'<b)(hq:0<q)(h1:U+P*t'+q*Y=T+P*b)(h2:T<q*Y)(fL:(q-1)*Y<=T)(h3:A+P*c=U+Y):
  A+(q-1)*Y=T/\A<Y/\(t'+c)%b=0:=by
 obtain⟨s,rfl⟩:∃s,q=s+1:=⟨q-1,by omega⟩
 simp only[Nat.add_sub_cancel]at*
 rw[iW]at h1 h2
 have h4:A+P*(t'+c)+s*Y=T+P*b:=by rw[sL];omega
 have h5:t'+c=b:=by
  rcases Nat.lt_trichotomy (t'+c) b with h|h|h
  ·have:=kg P (show t'+c+1<=b from h)
   rw[sL P (t'+c)]at this
   omega
  ·exact h
  ·omega
 rw[h5]at h4
 refine⟨by omega,by omega,?_⟩
 rw[h5,Nat.mod_self]
def LL:∀{k n:Nat},B^k<=n->n<B^(k+1)->(aJ n).length=k+1/\(aJ n)[k]?=some (n/B^k)
 |0,n,h1,h2=>by
  have h0:n≠0:=by
   rw[DC]at h1;omega
  rw[mG h0]
  have h3:n/B=0:=zo (by simpa using h2)
  rw[h3,qG]
  simp
  exact xI (by simpa using h2)
 |k+1,n,h1,h2=>by
  have hB:0<B:=by decide
  have hp:0<B^(k+1):=zm hB
  have h0:n≠0:=by omega
  have h3:B^k<=n/B:=(Ik hB).2 (by rw[<-gE];exact h1)
  have h4:n/B<B^(k+1):=(pz hB).2 (by rw[<-gE];exact h2)
  obtain⟨e1,e2⟩:=LL h3 h4
  rw[mG h0]
  refine⟨by simp[e1],?_⟩
  rw[Dq,e2,FK,gE,iX (B^k)]
def Yjx{n:Nat}(h:(aJ n).length≠0):n≠0:=by
 rintro rfl
 exact h (by rw[qG];rfl)
def GL:∀{k n:Nat},(aJ n).length=k+1->B^k<=n/\n<B^(k+1)
 |0,n,h=>by
  have h0:=Yjx (n:=n) (by omega)
  rw[mG h0]at h
  have h1:(aJ (n/B)).length=0:=by simpa using h
  have h2:n/B=0:=by
   by_cases hc:n/B=0
   ·exact hc
   ·rw[mG hc]at h1;simp at h1
  have:=(Nat.div_eq_zero_iff).1 h2
  rcases this with hb|hb
  ·exact absurd hb (by decide)
  ·simp;omega
 |k+1,n,h=>by
  have h0:=Yjx (n:=n) (by omega)
  rw[mG h0]at h
  obtain⟨h1,h2⟩:=GL (k:=k) (n:=n/B) (by simpa using h)
  have hB:0<B:=by decide
  exact⟨by rw[gE];exact(Ik hB).1 h1,by rw[gE];exact(pz hB).1 h2⟩
def Yf4{t s:Nat}(hl:(aJ b).length=k+1)(ht:(aJ b)[k]?=some t)(h1:9223372036854775808<=t*2^s)(h2:t*2^s<18446744073709551616)(hs:s<=64):
  (aJ (b*2^s)).length=k+1/\∃v1,(aJ (b*2^s))[k]?=some v1/\9223372036854775808<=v1:=by
 obtain⟨b1,b2⟩:=GL hl
 have hp:0<B^k:=zm (by decide)
 have tI:=sN s
 have htd:t=b/B^k:=by
  have:=(LL b1 b2).2
  rw[ht]at this
  exact pk this
 have b3:t*B^k<=b:=by rw[htd];exact Nat.div_mul_le_self _ _
 have b4:b<(t+1)*B^k:=by
  rw[htd]
  exact(pz hp).1 (uG _)
 have c1:9223372036854775808*B^k<=b*2^s:=by
  have e1:=lV (B^k) h1
  have e2:=lV (2^s) b3
  have e3:t*2^s*B^k=t*B^k*2^s:=by grind
  omega
 have c2:b*2^s<B^(k+1):=by
  have e0:t+1<=2^(64-s):=by
   have:t<2^(64-s):=by
    apply Nat.lt_of_mul_lt_mul_right (a:=2^s)
    rw[<-kQ,show 64-s+s=64 by omega];exact h2
   omega
  have e1:=lV (2^s) e0
  rw[<-kQ,show 64-s+s=64 by omega]at e1
  have e2:=Kd b4 tI
  have e3:=lV (B^k) e1
  have e4:(t+1)*2^s*B^k=(t+1)*B^k*2^s:=by grind
  rw[gE,iX]
  have e5:(2^64:Nat)*B^k=B^k*B:=by unfold B;rw[iX]
  rw[iX b]at e2
  omega
 have c0:B^k<=b*2^s:=by omega
 obtain⟨d1,d2⟩:=LL c0 c2
 exact⟨d1,_,d2,(Ik hp).2 c1⟩
def Ybc{U:List Nat}{la m s:Nat}(hU:val B U=a*2^s)(hl:U.length=la+1)(hm:m+k+1=la+1)(yB:m<=U.length)(ha:a<B^la)(hs:s<64)(hv:9223372036854775808<=v1)(hY:v1*B^k<=Y):val B (U.drop m)<Y:=by
 have h1:=Et B U m yB
 have h2:B^m*val B (U.drop m)<B^la*2^s:=by
  have:=Kd ha (sN s)
  omega
 have h3:(2:Nat)^s<=9223372036854775808:=(sK (by decide) (show s<=63 by omega):(2:Nat)^s<=2^63)
 have h4:B^la=B^m*B^k:=by rw[<-kQ];congr 1;omega
 rw[h4,Dz]at h2
 have h5:=Nat.lt_of_mul_lt_mul_left h2
 have h6:=kg (B^k) h3
 have h7:=kg (B^k) hv
 rw[iX v1]at hY
 omega
end Go.Mx
