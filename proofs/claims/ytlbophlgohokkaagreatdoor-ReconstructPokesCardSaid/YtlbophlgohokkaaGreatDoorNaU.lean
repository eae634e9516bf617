/-
  num.shiftUp: words, times a power of 2.
-/
import Derived.Test.YtlbophlgohokkaaGreatDoorNaA
import Derived.Test.YtlbophlgohokkaaGreatDoorMxWord
set_option linter.all false
namespace Go.Mx
open Go Go.Proofs
variable {s x:Nat}
set_option maxHeartbeats 2000000
set_option maxRecDepth 1000000
def A.kP:aq:=sr [bi 15 .lss 14 13]
 (.seq (cd 15
 (.skip)
 (.exit 0))
 (.seq (.block 1 (sr [mv 16 14,ia 17 1 12 14,ld 18 17,mv 6 16,mv 7 18]
 (.seq (.aV [mv 19 5,mv 20 6,ia 21 1 19 20,ld 22 21,mv 23 7,mv 24 1,bi 25 .shl 23 24,bi 26 .or 22 25,ia 27 1 19 20,so 27 26] [0,0,3,7,0,0,48,127,255,511])
 (sr [mv 28 1,bc 29 .gtr 28 0]
 (cd 29
 (.aM [mv 30 5,mv 31 6,bc 32 .add 31 1,mv 33 7,mv 34 1,⟨(some 35),.bin .sub (.node []) false (.const (.int .i64 64)) (.tmp 34),none⟩,bi 36 .shr 33 35,ia 37 1 30 32,so 37 36])
 (.skip))))))
 (.aM [bc 38 .add 14 1,mv 14 38])))
def A.b273:aq:=sr [mN 4]
 (sr [mv 8 0,ln 9 8,bc 10 .add 9 1,⟨(some 11),.bO 214 1 8 [(.int .u64 0)] (.tmp 10) (.tmp 10),none⟩,mv 5 11]
 (.seq (sr [mv 12 0,ln 13 12,mc 14 0]
 (.block 0 (.loop A.kP)))
 (sr [mv 39 5,mv 4 39]
 (.ret))))
theorem A.c273:A.F 273=some ⟨40,[.tmp 4],A.b273⟩:=by kernel_rfl
def A.k273:=@A.kk 273 _ _ _ A.c273 rfl
theorem M4{c:Nat}(hs:s<64)(hc:c<2^s):ig c (bL x s)=c+bL x s:=by
 unfold ig bL
 have e:x*2^s%18446744073709551616=(x%2^(64-s))<<<s:=by
  rw[Nat.shiftLeft_eq]
  have:(18446744073709551616:Nat)=2^(64-s)*2^s:=by rw[<-jH,show 64-s+s=64 by omega]
  rw[this,HN]
 rw[e,Nat.or_comm,Nat.add_comm,Nat.shiftLeft_add_eq_or_of_lt hc]
theorem ZM(hs:s<=64):bL x s+B*al x (64-s)=x*2^s:=by
 unfold bL al
 have e:x/2^(64-s)=x*2^s/18446744073709551616:=by
  have:(18446744073709551616:Nat)=2^(64-s)*2^s:=by rw[<-jH,show 64-s+s=64 by omega]
  rw[this,LK _ _ (qz s)]
 rw[e]
 have:=ri (x*2^s) 18446744073709551616
 unfold B
 omega
theorem ZN(hx:x<B)(hs:s<=64):al x (64-s)<2^s:=by
 unfold al
 apply (nC (qz _)).2
 rw[<-jH,show s+(64-s)=64 by omega]
 exact hx
theorem Zq{c:Nat}(hs:s<64)(hc:c<2^s):c+bL x s<B:=by
 rw[<-M4 hs hc]
 unfold ig
 apply Nat.or_lt_two_pow (n:=64)
 ·exact Nat.lt_trans hc (Nat.pow_lt_pow_right (by decide) hs)
 ·exact Tg
structure ZO (h:T O) (N:Nat) (l:List Nat) (s k:Nat) (o:List Nat) (c:Nat) (r:T V) (st:St):Prop where
 hk:k<=l.length
 GP:r.get 14=some (.int .i64 k)
 n:st.n=N+1
 w:ad N st.w=[]
 ae:ab h N st.h (N+1)
 row:st.h.get N=some (.cells (dg o) 214 true)
 len:o.length=l.length+1
 dg:Dg o
 zero:∀t,k<t->t<o.length->o[t]?=some 0
 top:o[k]?=some c
 lc:c<2^s
 ex:val B o=val B (l.take k)*2^s
def ShI(h:T O)(N:Nat)(l:List Nat)(s m:Nat)(r:T V)(st:St):Prop:=∃k o c,m=l.length-k/\ZO h N l s k o c r st
def ShE(h:T O)(N:Nat)(l:List Nat)(s:Nat)(r:T V)(st:St):Prop:=∃o c,ZO h N l s l.length o c r st
theorem Zx{h:T O}{N:Nat}{v:V}{l:List Nat}(hv:Sl h N v (Go.Mx.dg l))(hd:Dg l)(hs:s<64)(hl:l.length<1099511627776):Fn A.C 273 [v,.int .i64 s] h N (fun v' h' N'=>∃i o,N<=i/\i<N'/\v'=.slice i 0 (l.length+1) (some (l.length+1)) 1/\h'.get i=some (.cells (dg o) 214 true)/\o.length=l.length+1/\Dg o/\val B o=val B l*2^s):=by
 intro w
 have lx:=hv.len
 rw[bl]at lx
 rw[aR,A.k273 (by simp)]
 simp(disch:=first|(simp;done)|omega|(simp only[bl,bG,bh];omega)|rfl) [A.b273,lx]
 refine bQ [(6,7),(14,38)] (fun e r st=>e=.exit 0/\ShE h N l s r st) (ShI h N l s) l.length ?_ ?_ ?_
 ·refine⟨0,List.replicate (l.length+1) 0,0,by omega,⟨by omega,by simp,by simp,by simp,ab.refl.set (aS _) |>.up (by omega),by simp[D7],by simp,?_,?_,by simp,qz s,by simp[val,YW]⟩⟩
  ·intro d hd
   rw[FV]at hd
   rw[hd.2];decide
  ·intro t _ ht
   simp at ht
   simp[ht]
 ·rintro m r ⟨H,n1,W⟩ hr hf ⟨k,o,c,rfl,hk,mT,hn,hW,hK,hN,ho,GW,hz,hc,zc,he⟩
  simp only at hn hW hK hN
  subst hn
  rw[bA]
  by_cases aD:k<l.length
  ·obtain⟨i1,o1,c1,e1,w1,p1,p2,p3,p4⟩:=hv.at (eW (dk aD))
   have p3:=(hK.get _ p2).trans p3
   have gx:=dk aD
   generalize l[k]=x at*
   have hx:x<B:=hd.get gx
   have TR:c<18446744073709551616:=GW.get hc
   have xU:=M4 (x:=x) hs zc
   have dr:=Zq (x:=x) hs zc
   obtain⟨z,El⟩:∃z,c+bL x s=z:=⟨_,rfl⟩
   rw[El]at xU dr
   have ZP:(o.set k z).length=l.length+1:=by simp[ho]
   have BX:=ZM (x:=x) (s:=s) (by omega)
   have cg:=ZN hx (s:=s) (by omega)
   have v1:=Jq (b:=B) (v:=z) hc
   have xL:(o.set k z)[k+1]?=some 0:=by
    rw[eI (by omega)];exact hz _ (by omega) (by omega)
   have v2:=Jq (b:=B) (v:=al x (64-s)) xL
   by_cases h0:0<s
   ·have qW:(0:Int)<(s:Int):=by omega
    simp(disch:=first|(simp;done)|omega|(simp only[bl,bG,bh];omega)|rfl) [-getElem?_pos,A.kP,hr,mT,aD,lx,p1,p3,p4,hN,eW hc,xU,nU,h0,hf]
    refine⟨_,by omega,k+1,(o.set k z).set (k+1) (al x (64-s)),al x (64-s),rfl,⟨by omega,by simp,rfl,by simp[hW],(hK.set (aS _)).set (aS _),by simp,by simp[ho],(GW.set dr).set (eY cg (qx (by decide) (by omega):2^s<=2^64)),?_,lW (by omega),cg,?_⟩⟩
    ·intro t t1 t2
     rw[eI (by omega),eI (by omega)]
     exact hz t (by omega) (by simpa using t2)
    ·rw[Ca gx,iE,<-he]
     rw[<-El]at v1 v2 ⊢
     have e3:B^k*(bL x s+B*al x (64-s))=B^k*(x*2^s):=by rw[BX]
     rw[fL]at v2
     generalize val B ((o.set k (c+bL x s)).set (k+1) (al x (64-s)))=z1 at*
     generalize val B (o.set k (c+bL x s))=z2 at*
     generalize val B o=z3 at*
     generalize bL x s=z4 at*
     generalize al x (64-s)=z5 at*
     generalize B^k=z6 at*
     grind
   ·have qW:¬(0:Int)<(s:Int):=by omega
    simp(disch:=first|(simp;done)|omega|(simp only[bl,bG,bh];omega)|rfl) [-getElem?_pos,A.kP,hr,mT,aD,lx,p1,p3,p4,hN,eW hc,xU,nU,h0,hf]
    have ui:s=0:=by omega
    subst ui
    have nf:c=0:=by simpa using zc
    subst nf
    have e0:bL x 0=x:=by unfold bL;unfold B at hx;simp;omega
    have nP:z=x:=by rw[<-El,e0];omega
    subst nP
    refine⟨_,by omega,k+1,o.set k z,0,rfl,⟨by omega,by simp,rfl,by simp[hW],hK.set (aS _),by simp,by simp[ho],GW.set hx,?_,?_,by decide,?_⟩⟩
    ·intro t t1 t2
     rw[eI (by omega)]
     exact hz t (by omega) (by simpa using t2)
    ·rw[eI (by omega)];exact hz _ (by omega) (by omega)
    ·rw[Ca gx,iE,<-he]
     simpa using v1
  ·have:k=l.length:=by omega
   subst this
   simp[A.kP,hr,mT,hf]
   exact⟨o,c,⟨by omega,by simp[mT],rfl,hW,hK,hN,ho,GW,hz,hc,zc,he⟩⟩
 ·rintro _ r ⟨H,n1,W⟩ hr ⟨rfl,o,c,hk,mT,hn,hW,hK,hN,ho,GW,hz,hc,zc,he⟩
  simp only at hn hW hK hN
  subst hn
  simp[hr,aA]
  rw[eF (aS _)]at he
  exact⟨hW,hK,N,aS _,by omega,rfl,o,hN,ho,GW,he⟩
open Go
variable {b q r:Nat}
theorem Nj{u un b_ jz:Nat}(hi:u=q*b_+r)(hc:q*jz<=b*r+un):q*(b_*b+jz)<=u*b+un:=by
 subst hi
 rw[qy,iE,<-Bq,gX r b]
 omega
theorem ZQ{u un b_ jz:Nat}(hi:u=q*b_+r)(hc:b*r+un<q*jz):u*b+un<q*(b_*b+jz):=by
 subst hi
 rw[qy,iE,<-Bq,gX r b]
 omega
theorem ZR{a y:Nat}(h:a<q*y):a/y<q:=by
 rcases CT y with rfl|hy
 ·simp at h
 ·exact(nC hy).2 h
theorem GX{a y:Nat}(hy:0<y)(h:q*y<=a):q<=a/y:=(FR hy).2 h
theorem Ylb{P u1 u2 U' v1 v2 V' s:Nat}(l9:0<v1)(zZ:V'<P)(ht:s<=b)(hinv:u1=(s+1)*v1+r)(hc:(s+1)*v2<=r*b+u2):
  s*(V'+P*(v2+b*v1))<=U'+P*(u2+b*u1):=by
 have h1:s*V'<=b*P:=uR ht (by omega)
 have h2:b*P*1<=b*P*v1:=jo _ l9
 have h3:P*((s+1)*v2)<=P*(r*b+u2):=jo _ hc
 have h4:P*((s+1)*v2)=P*(s*v2)+P*v2:=by grind
 have h5:s*(V'+P*(v2+b*v1))=s*V'+P*(s*v2)+b*(P*(s*v1)):=by grind
 have h6:U'+P*(u2+b*u1)=U'+P*(r*b+u2)+b*(P*(s*v1))+b*P*v1:=by subst hinv;grind
 omega
theorem Yla{P u1 u2 U' v1 v2 V' t:Nat}(zY:U'<P)(hinv:u1=t*v1+r)(hc:r*b+u2<t*v2):
  U'+P*(u2+b*u1)<t*(V'+P*(v2+b*v1)):=by
 have h3:P*(r*b+u2+1)<=P*(t*v2):=jo _ hc
 have h5:t*(V'+P*(v2+b*v1))=t*V'+P*(t*v2)+b*(P*(t*v1)):=by grind
 have h6:U'+P*(u2+b*u1)+P=U'+P*(r*b+u2+1)+b*(P*(t*v1)):=by subst hinv;grind
 omega
variable {b u y:Nat}
set_option maxHeartbeats 8000000
def A.gm:aq:=.seq (sr [mv 102 18,⟨(some 103),.bin .geq (.node []) false (.tmp 102) (.const (.int .u64 4294967296)),none⟩,mv 104 103,mh 105 18 104,mh 106 10 104,⟨(some 107),.bin .mul (.node []) false (.tmp 105) (.tmp 106),(some (104,false))⟩,mh 108 16 104,⟨(some 109),.bin .mul (.node []) false (.const (.int .u64 4294967296)) (.tmp 108),(some (104,false))⟩,mh 110 14 104,⟨(some 111),.bin .add (.node []) false (.tmp 109) (.tmp 110),(some (104,false))⟩,⟨(some 112),.bin .gtr (.node []) false (.tmp 107) (.tmp 111),(some (104,false))⟩,pt 113 104 112]
 (cd 113
 (.skip)
 (.exit 2)))
 (.block 3 (sr [mv 114 18,⟨(some 115),.bin .sub (.node []) false (.tmp 114) (.const (.int .u64 1)),none⟩,mv 18 115]
 (sr [mv 116 16,mv 117 9,bi 118 .add 116 117,mv 16 118]
 (sr [mv 119 16,⟨(some 120),.bin .geq (.node []) false (.tmp 119) (.const (.int .u64 4294967296)),none⟩]
 (cd 120
 (.exit 2)
 (.skip))))))
def A.gn:aq:=.seq (sr [mv 67 15,⟨(some 68),.bin .geq (.node []) false (.tmp 67) (.const (.int .u64 4294967296)),none⟩,mv 69 68,mh 70 15 69,mh 71 10 69,⟨(some 72),.bin .mul (.node []) false (.tmp 70) (.tmp 71),(some (69,false))⟩,mh 73 16 69,⟨(some 74),.bin .mul (.node []) false (.const (.int .u64 4294967296)) (.tmp 73),(some (69,false))⟩,mh 75 13 69,⟨(some 76),.bin .add (.node []) false (.tmp 74) (.tmp 75),(some (69,false))⟩,⟨(some 77),.bin .gtr (.node []) false (.tmp 72) (.tmp 76),(some (69,false))⟩,pt 78 69 77]
 (cd 78
 (.skip)
 (.exit 0)))
 (.block 1 (sr [mv 79 15,⟨(some 80),.bin .sub (.node []) false (.tmp 79) (.const (.int .u64 1)),none⟩,mv 15 80]
 (sr [mv 81 16,mv 82 9,bi 83 .add 81 82,mv 16 83]
 (sr [mv 84 16,⟨(some 85),.bin .geq (.node []) false (.tmp 84) (.const (.int .u64 4294967296)),none⟩]
 (cd 85
 (.exit 0)
 (.skip))))))
def A.b271:aq:=sr [⟨(some 6),.aY (.const (.int .u64 0)),none⟩,⟨(some 7),.aY (.const (.int .u64 0)),none⟩]
 (.seq (sr [mv 19 2,⟨(some 20),.bin .eql (.aI .int) true (.tmp 19) (.const (.int .u64 0)),none⟩]
 (cd 20
 (.aM [⟨(some 21),.load none (.const (.ptr 0 0)),none⟩,⟨none,.stop,none⟩])
 (.skip)))
 (.seq (sr [mv 22 2,mv 23 0,bi 24 .leq 22 23]
 (cd 24
 (.aM [⟨(some 25),.load none (.const (.ptr 1 0)),none⟩,⟨none,.stop,none⟩])
 (.skip)))
 (.seq (sr [mv 26 0,⟨(some 27),.bin .eql (.aI .int) true (.tmp 26) (.const (.int .u64 0)),none⟩]
 (cd 27
 (.seq (.aV [mv 28 1,mv 29 2,bi 30 .quo 28 29,mv 31 1,mv 32 2,bi 33 .rem 31 32,mv 6 30,mv 7 33] [0,0,3,0,0,24,7,127])
 (.ret))
 (.skip)))
 (sr [mv 34 2,c1 35 272 34,⟨(some 36),.bb .u64 (.tmp 35),none⟩,mv 8 36]
 (sr [mv 37 2,mv 38 8,bi 39 .shl 37 38,mv 2 39]
 (sr [mv 40 2,⟨(some 41),.bin .shr (.node []) false (.tmp 40) (.const (.int .u64 32)),none⟩,mv 9 41]
 (sr [mv 42 2,⟨(some 43),.bin .and (.node []) false (.tmp 42) (.const (.int .u64 4294967295)),none⟩,mv 10 43]
 (sr [mv 44 0,mv 45 8,bi 46 .shl 44 45,mv 47 1,mv 48 8,⟨(some 49),.bin .sub (.node []) false (.const (.int .u64 64)) (.tmp 48),none⟩,bi 50 .shr 47 49,bi 51 .or 46 50,mv 11 51]
 (sr [mv 52 1,mv 53 8,bi 54 .shl 52 53,mv 12 54]
 (sr [mv 55 12,⟨(some 56),.bin .shr (.node []) false (.tmp 55) (.const (.int .u64 32)),none⟩,mv 13 56]
 (sr [mv 57 12,⟨(some 58),.bin .and (.node []) false (.tmp 57) (.const (.int .u64 4294967295)),none⟩,mv 14 58]
 (sr [mv 59 11,mv 60 9,bi 61 .quo 59 60,mv 15 61]
 (sr [mv 62 11,mv 63 15,mv 64 9,bi 65 .mul 63 64,bi 66 .sub 62 65,mv 16 66]
 (.seq (.block 0 (.loop A.gn))
 (sr [mv 86 11,⟨(some 87),.bin .mul (.node []) false (.tmp 86) (.const (.int .u64 4294967296)),none⟩,mv 88 13,bi 89 .add 87 88,mv 90 15,mv 91 2,bi 92 .mul 90 91,bi 93 .sub 89 92,mv 17 93]
 (sr [mv 94 17,mv 95 9,bi 96 .quo 94 95,mv 18 96]
 (sr [mv 97 17,mv 98 18,mv 99 9,bi 100 .mul 98 99,bi 101 .sub 97 100,mv 16 101]
 (.seq (.block 2 (.loop A.gm))
 (sr [mv 121 15,⟨(some 122),.bin .mul (.node []) false (.tmp 121) (.const (.int .u64 4294967296)),none⟩,mv 123 18,bi 124 .add 122 123,mv 125 17,⟨(some 126),.bin .mul (.node []) false (.tmp 125) (.const (.int .u64 4294967296)),none⟩,mv 127 14,bi 128 .add 126 127,mv 129 18,mv 130 2,bi 131 .mul 129 130,bi 132 .sub 128 131,mv 133 8,bi 134 .shr 132 133,mv 6 124,mv 7 134]
 (.ret))))))))))))))))))))
theorem A.c271:A.F 271=some ⟨135,[.tmp 6,.tmp 7],A.b271⟩:=by kernel_rfl
def A.k271:=@A.kk 271 _ _ _ A.c271 rfl
structure ZS (h:T O) (N:Nat) (k1 u b_ D m:Nat) (r:T V) (st:St):Prop where
 st:st=⟨h,N,[]⟩
 ex:∃rh:Nat,r.get k1=some (.int .u64 m)/\r.get 16=some (.int .u64 rh)/\u=m*b_+rh/\D<=m/\m<=4294967297/\rh<4294967296
theorem Zw(h0:¬y=0)(h:y<18446744073709551616):9223372036854775808<=y*2^(64-ba y)/\y*2^(64-ba y)<18446744073709551616/\64-ba y<64:=by
 have h1:=M3 y
 have h2:=GQ h0
 have hp:0<ba y:=by unfold ba;rw[au h0];omega
 have hl:ba y<=64:=by
  apply vN
  intro hc
  have:2^64<=2^(ba y-1):=qx (by decide) (by omega)
  omega
 refine⟨?_,?_,by omega⟩
 ·have:=jn (2^(64-ba y)) h2
  rw[<-jH,show ba y-1+(64-ba y)=63 by omega]at this
  exact this
 ·have:=HM h1 (qz (64-ba y))
  rw[<-jH,show ba y+(64-ba y)=64 by omega]at this
  exact this
theorem TS{a:Nat}(h:a<18446744073709551616):bn .u64 ((a:Int)/(b:Int))=(jZ a b:Nat):=by
 have e:((a:Int)/(b:Int))=((a/b:Nat):Int):=rfl
 have:=rS a b
 rw[e,B8 (Int.natCast_nonneg _) (Int.ofNat_lt.2 (show a/b<18446744073709551616 by omega))]
 rfl
theorem ZT{a c:Nat}(h:c<=a)(hr:a-c<18446744073709551616):fk (a%18446744073709551616) (c%18446744073709551616)=a-c:=by
 unfold fk
 split<;>omega
theorem Zy3{c u1 u0 z Y:Nat}(hc:c=b*b)(hY:0<Y):(u1*c+u0*b+z)/Y=(u1*b+u0)/Y*b+((u1*b+u0)%Y*b+z)/Y/\(u1*c+u0*b+z)%Y=((u1*b+u0)%Y*b+z)%Y:=by
 subst hc
 have h:=ri (u1*b+u0) Y
 have e:u1*(b*b)+u0*b+z=Y*((u1*b+u0)/Y*b)+((u1*b+u0)%Y*b+z):=by
  generalize (u1*b+u0)/Y=D at*
  generalize (u1*b+u0)%Y=R at*
  have:(Y*D+R)*b=(u1*b+u0)*b:=by rw[h]
  grind
 rw[e,Nat.mul_add_div hY,Nat.mul_add_mod]
 exact⟨rfl,rfl⟩
theorem ZU:u=u/y*y+u%y:=by
 have:=ri u y
 rw[gX]at this
 exact this.symm
theorem ZV(h:0<y)(hb:y<=b):u%y<b:=eY (jg _ h) hb
theorem ZW{un b_ jz:Nat}(h:0<b_)(hn:un<4294967296):(u*4294967296+un)/(b_*4294967296+jz)<=u/b_:=by
 have h1:(u*4294967296+un)/(b_*4294967296+jz)<=(u*4294967296+un)/(b_*4294967296):=Nat.div_le_div_left (by omega) (by omega)
 have h2:(u*4294967296+un)/(b_*4294967296)=u/b_:=by
  rw[gX b_,<-CW,show (u*4294967296+un)/4294967296=u by omega]
 rw[h2]at h1
 exact h1
theorem ZX{b_ jz:Nat}(h0:jz<4294967296)(h:2147483648<=b_)(hu:u<b_*4294967296+jz):u/b_<=4294967297:=by
 apply Nat.le_of_lt_succ
 apply (nC (by omega)).2
 omega
theorem Zr{h:T O}{N:Nat}{hi lo:Nat}(hy:hi<y)(Eb:y<18446744073709551616)(fj:lo<18446744073709551616):Fn A.C 271 [.int .u64 hi,.int .u64 lo,.int .u64 y] h N (fun v h' N'=>h'=h/\N'=N/\v=.aZ [.int .u64 ((hi*18446744073709551616+lo)/y:Nat),.int .u64 ((hi*18446744073709551616+lo)%y:Nat)]):=by
 intro w
 have uC:¬y=0:=by omega
 have hle:¬y<=hi:=by omega
 rw[aR,A.k271 (by simp)]
 by_cases h0:hi=0
 ·subst h0
  have hq:=TS (b:=y) fj
  simp[A.b271,uC,dw.dB,aA,hq,Jm,jZ]
  exact ab.refl
 ·simp[A.b271,uC,hle,h0]
  refine ax (Zp Eb) ?_
  rintro _ h N hk ⟨rfl,rfl,rfl⟩
  obtain⟨n1,n2,n3⟩:=Zw uC Eb
  generalize 64-ba y=s at*
  have hw:bn .u64 (s:Int)=(s:Int):=B8 (by omega) (by omega)
  have RU:bn .u64 (64-(s:Int))=((64-s:Nat):Int):=by rw[B8 (by omega) (by omega)];omega
  obtain⟨Y,hY⟩:∃Y,bL y s=Y:=⟨_,rfl⟩
  have ZY:Y=y*2^s:=by rw[<-hY];unfold bL;omega
  obtain⟨b_,JI⟩:∃x,al Y 32=x:=⟨_,rfl⟩
  obtain⟨jz,JJ⟩:∃x,er Y=x:=⟨_,rfl⟩
  obtain⟨U,hU⟩:∃x,ig (bL hi s) (al lo (64-s))=x:=⟨_,rfl⟩
  obtain⟨L,hL⟩:∃x,bL lo s=x:=⟨_,rfl⟩
  obtain⟨uD,JK⟩:∃x,al L 32=x:=⟨_,rfl⟩
  obtain⟨sK,JL⟩:∃x,er L=x:=⟨_,rfl⟩
  have hYB:Y<18446744073709551616:=by omega
  have hLB:L<18446744073709551616:=by rw[<-hL];exact Tg
  have Nk:Y=b_*4294967296+jz/\jz<4294967296:=by
   rw[<-JI,<-JJ];unfold al er;omega
  have hLd:L=uD*4294967296+sK/\sK<4294967296:=by
   rw[<-JK,<-JL];unfold al er;omega
  have hA:U*18446744073709551616+L=(hi*18446744073709551616+lo)*2^s:=by
   have e1:=M4 (x:=hi) n3 (ZN (x:=lo) (s:=s) fj (by omega))
   have e2:=ZM (x:=lo) (s:=s) (by omega)
   have e3:bL hi s=hi*2^s:=by
    unfold bL
    have:=HM hy (qz s)
    omega
   have e4:U=al lo (64-s)+hi*2^s:=by
    rw[<-hU,<-e3,<-e1];unfold ig;exact Nat.or_comm _ _
   rw[hL]at e2
   unfold B at e2
   rw[e4,iE (hi*18446744073709551616),<-e2]
   have:hi*18446744073709551616*2^s=hi*2^s*18446744073709551616:=by grind
   omega
  have hUY:U<Y:=by
   have h1:hi*18446744073709551616+lo<y*18446744073709551616:=by omega
   have h2:=HM h1 (qz s)
   have h3:y*18446744073709551616*2^s=y*2^s*18446744073709551616:=by grind
   omega
  have hsr:al lo (64-s)<18446744073709551616:=YT fj
  have hyp:0<b_:=by omega
  have Z0:b_<=4294967296:=by omega
  have zl:0<b_*4294967296+jz:=by omega
  have hq:=TS (b:=b_) (show U<18446744073709551616 by omega)
  have hr:fk U (cE (jZ U b_) b_)=U%b_:=by
   have h1:=ri U b_
   rw[gX]at h1
   have h2:cE (jZ U b_) b_=U/b_*b_:=by unfold cE jZ;omega
   rw[h2,B9 (by omega) (by omega)];omega
  simp(disch:=first|(simp;done)|omega|(simp only[bl,bG,bh];omega)|rfl) [hq,hr,hw,RU,hY,JI,JJ,hU,hL,JK,JL]
  obtain⟨D1,xV⟩:∃D,(U*4294967296+uD)/(b_*4294967296+jz)=D:=⟨_,rfl⟩
  refine bQ [(15,16),(67,85)] (fun e r st=>e=.exit 0/\st=⟨h,N,[]⟩/\r.get 15=some (.int .u64 D1)) (ZS h N 15 U b_ D1) (U/b_) ?_ ?_ ?_
  ·exact⟨rfl,U%b_,by simp[jZ],by simp,ZU,xV▸ZW hyp (by omega),ZX Nk.2 (by omega) (by omega),ZV hyp Z0⟩
  ·rintro q r _ hr hf ⟨rfl,rh,hq,xW,hu,hD,rJ,hrb⟩
   rw[bA]
   obtain⟨P,hP⟩:∃P,P=q*jz:=⟨_,rfl⟩
   obtain⟨R2,hR2⟩:∃P,P=4294967296*rh:=⟨_,rfl⟩
   obtain⟨R3,hR3⟩:∃P,P=4294967296*rh+uD:=⟨_,rfl⟩
   have m2:cE 4294967296 rh=R2:=by unfold cE;omega
   have m3:cy R2 uD=R3:=by unfold cy;omega
   have qP:(4294967296<=q\/R3<P)->0<q/\D1<=q-1:=by
    intro hc
    have:D1<q:=by
     rcases hc with hc|hc
     ·have:D1<4294967296:=by rw[<-xV];exact(nC zl).2 (by omega)
      omega
     ·rw[<-xV];exact ZR (ZQ (b:=4294967296) hu (by omega))
    omega
   have o_:0<q->U=(q-1)*b_+(rh+b_):=by
    intro hc
    obtain⟨s,rfl⟩:∃s,q=s+1:=⟨q-1,by omega⟩
    rw[hu,iE];simp;omega
   have ep:∀Em,U=(q-1)*b_+Em->4294967296<=Em->(q-1)*(b_*4294967296+jz)<=U*4294967296+uD:=by
    intro Em h1 h2
    refine Nj h1 ?_
    have:=uR (show q-1<=4294967296 by omega) (show jz<=4294967296 by omega)
    omega
   by_cases c1:4294967296<=q
   ·have c1':(4294967296:Int)<=(q:Int):=by omega
    obtain⟨g1,g2⟩:=qP (.inl c1)
    have s1:fk q 1=q-1:=B9 g1 (by omega)
    have s2:cy rh b_=rh+b_:=by unfold cy;omega
    by_cases c3:4294967296<=rh+b_
    ·have c3':(4294967296:Int)<=(rh:Int)+(b_:Int):=by omega
     simp[A.gn,hr,hq,xW,c1',c3',s1,s2,hf]
     have hd:=GX zl (ep _ (o_ g1) c3)
     rw[xV]at hd;omega
    ·have c3':¬(4294967296:Int)<=(rh:Int)+(b_:Int):=by omega
     simp[A.gn,hr,hq,xW,c1',c3',s1,s2,hf]
     exact⟨q-1,by omega,rfl,rh+b_,by simp,by simp,o_ g1,g2,by omega,by omega⟩
   ·have c1':¬(4294967296:Int)<=(q:Int):=by omega
    have m1:cE q jz=P:=by
     have:=uR (show q<=4294967296 by omega) (show jz<=4294967295 by omega)
     unfold cE;omega
    by_cases c2:R3<P
    ·obtain⟨g1,g2⟩:=qP (.inr c2)
     have s1:fk q 1=q-1:=B9 g1 (by omega)
     have s2:cy rh b_=rh+b_:=by unfold cy;omega
     by_cases c3:4294967296<=rh+b_
     ·have c3':(4294967296:Int)<=(rh:Int)+(b_:Int):=by omega
      simp[A.gn,hr,hq,xW,c1',c2,c3',m1,m2,m3,s1,s2,hf]
      have hd:=GX zl (ep _ (o_ g1) c3)
      rw[xV]at hd;omega
     ·have c3':¬(4294967296:Int)<=(rh:Int)+(b_:Int):=by omega
      simp[A.gn,hr,hq,xW,c1',c2,c3',m1,m2,m3,s1,s2,hf]
      exact⟨q-1,by omega,rfl,rh+b_,by simp,by simp,o_ g1,g2,by omega,by omega⟩
    ·simp[A.gn,hr,hq,xW,c1',c2,m1,m2,m3,hf]
     have hd:=GX zl (Nj (b:=4294967296) (un:=uD) hu (by omega))
     rw[xV]at hd;omega
  rintro _ r _ ef ⟨rfl,rfl,AG⟩
  obtain⟨R1,Nl⟩:∃R,(U*4294967296+uD)%Y=R:=⟨_,rfl⟩
  rw[<-Nk.1]at xV
  have sw:fk (cy (cE U 4294967296) uD) (cE D1 Y)=R1:=by
   have h1:=ri (U*4294967296+uD) Y
   rw[xV,Nl,gX Y]at h1
   have h2:cy (cE U 4294967296) uD=(U*4294967296+uD)%18446744073709551616:=by unfold cy cE;omega
   rw[h2]
   have h3:=jg (U*4294967296+uD) (show 0<Y by omega)
   unfold cE
   rw[ZT (by omega) (by omega)];omega
  have zar:R1<Y:=by rw[<-Nl];exact jg _ (by omega)
  have jK:=TS (b:=b_) (show R1<18446744073709551616 by omega)
  have ew:fk R1 (cE (jZ R1 b_) b_)=R1%b_:=by
   have h1:=ri R1 b_
   rw[gX]at h1
   have h2:cE (jZ R1 b_) b_=R1/b_*b_:=by unfold cE jZ;omega
   rw[h2,B9 (by omega) (by omega)];omega
  simp(disch:=first|(simp;done)|omega|(simp only[bl,bG,bh];omega)|rfl) [ef,AG,sw,jK,ew]
  obtain⟨D0,wo⟩:∃D,(R1*4294967296+sK)/(b_*4294967296+jz)=D:=⟨_,rfl⟩
  refine bQ [(16,16),(18,18),(102,120)] (fun e r st=>e=.exit 2/\st=⟨h,N,[]⟩/\r.get 18=some (.int .u64 D0)) (ZS h N 18 R1 b_ D0) (R1/b_) ?_ ?_ ?_
  ·exact⟨rfl,R1%b_,by simp[jZ],by simp,ZU,wo▸ZW hyp (by omega),ZX Nk.2 (by omega) (by omega),ZV hyp Z0⟩
  ·rintro q r _ hr hf ⟨rfl,rh,hq,xW,hu,hD,rJ,hrb⟩
   rw[bA]
   obtain⟨P,hP⟩:∃P,P=q*jz:=⟨_,rfl⟩
   obtain⟨R2,hR2⟩:∃P,P=4294967296*rh:=⟨_,rfl⟩
   obtain⟨R3,hR3⟩:∃P,P=4294967296*rh+sK:=⟨_,rfl⟩
   have m2:cE 4294967296 rh=R2:=by unfold cE;omega
   have m3:cy R2 sK=R3:=by unfold cy;omega
   have qP:(4294967296<=q\/R3<P)->0<q/\D0<=q-1:=by
    intro hc
    have:D0<q:=by
     rcases hc with hc|hc
     ·have:D0<4294967296:=by rw[<-wo];exact(nC zl).2 (by omega)
      omega
     ·rw[<-wo];exact ZR (ZQ (b:=4294967296) hu (by omega))
    omega
   have o_:0<q->R1=(q-1)*b_+(rh+b_):=by
    intro hc
    obtain⟨s,rfl⟩:∃s,q=s+1:=⟨q-1,by omega⟩
    rw[hu,iE];simp;omega
   have ep:∀Em,R1=(q-1)*b_+Em->4294967296<=Em->(q-1)*(b_*4294967296+jz)<=R1*4294967296+sK:=by
    intro Em h1 h2
    refine Nj h1 ?_
    have:=uR (show q-1<=4294967296 by omega) (show jz<=4294967296 by omega)
    omega
   by_cases c1:4294967296<=q
   ·have c1':(4294967296:Int)<=(q:Int):=by omega
    obtain⟨g1,g2⟩:=qP (.inl c1)
    have s1:fk q 1=q-1:=B9 g1 (by omega)
    have s2:cy rh b_=rh+b_:=by unfold cy;omega
    by_cases c3:4294967296<=rh+b_
    ·have c3':(4294967296:Int)<=(rh:Int)+(b_:Int):=by omega
     simp[A.gm,hr,ef,hq,xW,c1',c3',s1,s2,hf]
     have hd:=GX zl (ep _ (o_ g1) c3)
     rw[wo]at hd;omega
    ·have c3':¬(4294967296:Int)<=(rh:Int)+(b_:Int):=by omega
     simp[A.gm,hr,ef,hq,xW,c1',c3',s1,s2,hf]
     exact⟨q-1,by omega,rfl,rh+b_,by simp,by simp,o_ g1,g2,by omega,by omega⟩
   ·have c1':¬(4294967296:Int)<=(q:Int):=by omega
    have m1:cE q jz=P:=by
     have:=uR (show q<=4294967296 by omega) (show jz<=4294967295 by omega)
     unfold cE;omega
    by_cases c2:R3<P
    ·obtain⟨g1,g2⟩:=qP (.inr c2)
     have s1:fk q 1=q-1:=B9 g1 (by omega)
     have s2:cy rh b_=rh+b_:=by unfold cy;omega
     by_cases c3:4294967296<=rh+b_
     ·have c3':(4294967296:Int)<=(rh:Int)+(b_:Int):=by omega
      simp[A.gm,hr,ef,hq,xW,c1',c2,c3',m1,m2,m3,s1,s2,hf]
      have hd:=GX zl (ep _ (o_ g1) c3)
      rw[wo]at hd;omega
     ·have c3':¬(4294967296:Int)<=(rh:Int)+(b_:Int):=by omega
      simp[A.gm,hr,ef,hq,xW,c1',c2,c3',m1,m2,m3,s1,s2,hf]
      exact⟨q-1,by omega,rfl,rh+b_,by simp,by simp,o_ g1,g2,by omega,by omega⟩
    ·simp[A.gm,hr,ef,hq,xW,c1',c2,m1,m2,m3,hf]
     have hd:=GX zl (Nj (b:=4294967296) (un:=sK) hu (by omega))
     rw[wo]at hd;omega
  rintro _ r2 _ Ck ⟨rfl,rfl,Z1⟩
  obtain⟨R0,En⟩:∃R,(R1*4294967296+sK)%Y=R:=⟨_,rfl⟩
  rw[<-Nk.1]at wo
  have jY:fk (cy (cE R1 4294967296) sK) (cE D0 Y)=R0:=by
   have h1:=ri (R1*4294967296+sK) Y
   rw[wo,En,gX Y]at h1
   have h2:cy (cE R1 4294967296) sK=(R1*4294967296+sK)%18446744073709551616:=by unfold cy cE;omega
   rw[h2]
   have h3:=jg (R1*4294967296+sK) (show 0<Y by omega)
   unfold cE
   rw[ZT (by omega) (by omega)];omega
  have qH:D1<4294967296:=by rw[<-xV];exact(nC (by omega)).2 (by omega)
  have oO:D0<4294967296:=by rw[<-wo];exact(nC (by omega)).2 (by omega)
  have ha:cy (cE D1 4294967296) D0=D1*4294967296+D0:=by unfold cy cE;omega
  obtain⟨e1,e2⟩:=Zy3 (b:=4294967296) (c:=18446744073709551616) (by decide) (u1:=U) (u0:=uD) (z:=sK) (show 0<Y by omega)
  rw[Nl,xV,wo]at e1
  rw[Nl,En]at e2
  have e3:U*18446744073709551616+uD*4294967296+sK=(hi*18446744073709551616+lo)*2^s:=by
   rw[<-hA,hLd.1,nD]
  rw[e3,ZY,LK _ _ (qz s)]at e1
  rw[e3,ZY,HN]at e2
  have pc:al R0 s=(hi*18446744073709551616+lo)%y:=by
   unfold al
   rw[<-e2,Nat.mul_div_cancel _ (qz s)]
  simp(disch:=first|(simp;done)|omega|(simp only[bl,bG,bh];omega)|rfl) [ef,Ck,AG,Z1,jY,ha,aA]
  have e5:(hi:Int)*18446744073709551616+lo=((hi*18446744073709551616+lo:Nat):Int):=by omega
  refine⟨ab.refl,?_,?_⟩
  ·rw[e5,<-Int.natCast_ediv,e1];omega
  ·rw[e5,<-Int.natCast_emod,pc]
variable {P Y a b d k q u v1:Nat} {l:List Nat}
theorem zk(h:l[k]?=some d):val b (l.drop k)=d+b*val b (l.drop (k+1)):=by
 have hk:k<l.length:=by
  apply qd;intro hc;rw[gJ hc]at h;cases h
 rw[CV hk]
 rw[dk hk]at h
 simp only[aj]at h
 rw[h];rfl
theorem Ch(b:Nat)(l:List Nat)(k:Nat)(hk:k<=l.length):val b l=val b (l.take k)+b^k*val b (l.drop k):=by
 have:=MV b (l.take k) (l.drop k)
 rw[yD,fR,nA hk]at this
 exact this
theorem Z2{b:Nat}:∀{l:List Nat},(∀(t:Nat),t<l.length->l[t]?=some 0)->val b l=0
 |[],_=>rfl
 |d::l,h=>by
  have h0:=h 0 (by simp)
  simp at h0
  have:=Z2 (b:=b) (l:=l) fun t ht=>by simpa using h (t+1) (by simp;omega)
  simp[val,h0,this]
theorem Yof{α:Type}{l:List α}{d:α}(h:l[k]?=some d):k<l.length:=by
 apply qd;intro hc;rw[gJ hc]at h;cases h
theorem TA(hz:∀t,k<=t->t<l.length->l[t]?=some 0):val b (l.drop k)=0:=by
 apply Z2
 intro t ht
 rw[fG]
 rw[wX]at ht
 exact hz _ (by omega) (by omega)
theorem Yea{w:List Nat}{c:Nat}(ha:w[k]?=some a)(hc:w[k+1]?=some c)(hd:w[k+2]?=some d)(hz:∀t,k+3<=t->t<w.length->w[t]?=some 0):
  val b w=val b (w.take k)+b^k*(a+b*(d*b+c)):=by
 have:=Yof ha
 rw[Ch b w k (by omega),zk ha,zk hc,zk hd,TA hz]
 generalize b^k=p
 grind
theorem Yeb{w:List Nat}{c:Nat}(ha:w[k]?=some a)(hc:w[k+1]?=some c)(hl:w.length=k+2):
  val b w=val b (w.take k)+b^k*(a+b*c):=by
 rw[Ch b w k (by omega),zk ha,zk hc,wU (by omega)]
 simp[val]
theorem ZE(g:∀d∈l,d<b)(hk:k<=l.length):val b (l.take k)<b^k:=by
 have:=Cb (b:=b) (l:=l.take k) fun d hd=>g d (rQ hd)
 rwa [fR,nA hk]at this
theorem Yoh{c U' v2 V':Nat}(hP:0<P)(zZ:V'<P)(iH:v2<b)(hd:v1<=d)(hW:U'+P*(a+b*(d*b+c))<b*(V'+P*(v2+b*v1))):d=v1:=by
 apply Nat.le_antisymm _ hd
 apply vN
 intro aD
 have h1:b*(P*(b*(v1+1)))<=b*(P*(b*d)):=jo _ (jo _ (jo _ aD))
 have h2:V'+P*(v2+b*v1)<P*(b*(v1+1)):=by
  have:P*(v2+1)<=P*b:=jo _ iH
  grind
 have h3:b*(V'+P*(v2+b*v1))<=b*(P*(b*(v1+1))):=jo _ (Nat.le_of_lt h2)
 have h4:b*(P*(b*d))<=U'+P*(a+b*(d*b+c)):=by
  have:P*(b*(d*b))=b*(P*(b*d)):=by grind
  have:P*(b*(d*b))<=P*(a+b*(d*b+c)):=jo _ (by rw[qy];omega)
  omega
 omega
theorem Yoi{U' u2 u1 v2 V' r:Nat}(hU:U'<P)(eS:u2<b)(hinv:u1=q*v1+r)(hr:r<v1):U'+P*(u2+b*u1)<(q+1)*(V'+P*(v2+b*v1)):=by
 have h1:u1+1<=(q+1)*v1:=by rw[hinv,iE];omega
 have h2:P*(b*(u1+1))<=P*(b*((q+1)*v1)):=jo _ (jo _ h1)
 have h3:P*(u2+1)<=P*b:=jo _ eS
 have h4:P*(b*((q+1)*v1))<=(q+1)*(V'+P*(v2+b*v1)):=by
  have:(q+1)*(V'+P*(v2+b*v1))=(q+1)*V'+P*((q+1)*v2)+P*(b*((q+1)*v1)):=by grind
  omega
 have h5:U'+P*(u2+b*u1)+P<=U'+P*(b*(u1+1)):=by grind
 omega
def sJ(q v c:Nat):Nat:=bz (bz (q*v)+c)
def mB(q v c:Nat):Nat:=cy (bX (q*v)) (bX (bz (q*v)+c))
theorem Ykp{v c w:Nat}(hq:q<B)(hv:v<B)(hc:c<B)(hu:u<B)(hw:w<=1):
  dS u (sJ q v c) w+q*v+c+w=u+B*(mB q v c+fe u (sJ q v c) w)/\dS u (sJ q v c) w<B/\mB q v c<B/\fe u (sJ q v c) w<=1/\sJ q v c<B:=by
 have:q*v<=18446744073709551615*18446744073709551615:=uR (by unfold B at*;omega) (by unfold B at*;omega)
 unfold mB sJ
 have h1:bz (bz (q*v)+c)+B*cy (bX (q*v)) (bX (bz (q*v)+c))=q*v+c/\cy (bX (q*v)) (bX (bz (q*v)+c))<B/\bz (bz (q*v)+c)<B:=by
  unfold bz bX cy
  unfold B at*
  generalize q*v=p at*
  omega
 obtain⟨h1,h2,h3⟩:=h1
 generalize bz (bz (q*v)+c)=l at*
 generalize cy (bX (q*v)) (bX (bz (q*v)+c))=k at*
 have h4:dS u l w+l+w=u+B*fe u l w/\dS u l w<B/\fe u l w<=1:=by
  unfold dS fe
  unfold B at*
  split<;>omega
 obtain⟨h4,h5,h6⟩:=h4
 refine⟨?_,h5,h2,h6,h3⟩
 rw[qy]
 omega
theorem Yjo{l w:Nat}(hl:l<B)(hu:u<B)(hw:w<=1):dS u l w+l+w=u+B*fe u l w/\dS u l w<B/\fe u l w<=1:=by
 unfold dS fe
 unfold B at*
 split<;>omega
theorem ZB{v c:Nat}(hv:v<B)(hu:u<B)(hc:c<=1):bz (u+v+c)+B*bX (u+v+c)=u+v+c/\bz (u+v+c)<B/\bX (u+v+c)<=1:=by
 unfold bz bX
 unfold B at*
 omega
theorem JE{b:Nat}:∀{l:List Nat} {k old v:Nat},l[k]?=some old->val b (l.set k v)+b^k*old=val b l+b^k*v
 |[],k,old,v,h=>by simp at h
 |d::l,0,old,v,h=>by simp at h;subst h;simp[val];omega
 |d::l,k+1,old,v,h=>by
  have ih:=JE (b:=b) (l:=l) (k:=k) (old:=old) (v:=v) (by simpa using h)
  simp only[List.set_cons_succ,val,fL]
  generalize val b (l.set k v)=p at*
  generalize val b l=q at*
  generalize b^k=z at*
  have:b*(p+z*old)=b*(q+z*v):=by rw[ih]
  grind
theorem Dg.qX(h:Dg l){k v:Nat}(hv:v<B):Dg (l.set k v):=by
 intro d hd
 rcases A8 hd with hd|hd
 ·exact h d hd
 ·subst hd;exact hv
theorem Yoa{W U t c t' e:Nat}(hb:1<b)(hP:0<P)(hY:Y<P)(hU:U<P)(ht:t'<b)(he:e<=1)(h1:U+q*Y=W+P*c)(h2:t'+c=t+b*e)(fj:(q-1)*Y<=W+P*t)(fZ:W+P*t<(q+1)*Y):
  (e=0->U+P*t'+q*Y=W+P*t/\U+P*t'<Y/\t'=0)/\(e=1->0<q/\U+P*t'+q*Y=W+P*t+P*b/\W+P*t<q*Y):=by
 have h3:P*t'+P*c=P*t+P*(b*e):=by rw[<-qy,h2,qy]
 constructor
 ·rintro rfl
  simp only[Nat.mul_zero,re]at h3
  have h4:U+P*t'+q*Y=W+P*t:=by omega
  have h5:U+P*t'<Y:=by rw[iE]at fZ;omega
  refine⟨h4,h5,?_⟩
  rcases CT t' with h|h
  ·exact h
  ·have:=jo P h
   omega
 ·rintro rfl
  simp only[vQ]at h3
  have h4:U+P*t'+q*Y=W+P*t+P*b:=by omega
  have h5:P*(t'+1)<=P*b:=jo _ ht
  rw[qy]at h5
  have h6:W+P*t<q*Y:=by omega
  refine⟨?_,h4,h6⟩
  rcases CT q with h|h
  ·subst h;omega
  ·exact h
theorem Yk9{U t' T A c:Nat}(hP:0<P)(hY:Y<P)(hA:A<P)(hc:c<=1)(ht:t'<b)(hq:0<q)(h1:U+P*t'+q*Y=T+P*b)(h2:T<q*Y)(fj:(q-1)*Y<=T)(h3:A+P*c=U+Y):
  A+(q-1)*Y=T/\A<Y/\(t'+c)%b=0:=by
 obtain⟨s,rfl⟩:∃s,q=s+1:=⟨q-1,by omega⟩
 simp only[Nat.add_sub_cancel]at*
 rw[iE]at h1 h2
 have h4:A+P*(t'+c)+s*Y=T+P*b:=by rw[qy];omega
 have h5:t'+c=b:=by
  rcases Nat.lt_trichotomy (t'+c) b with h|h|h
  ·have:=jo P (show t'+c+1<=b from h)
   rw[qy P (t'+c)]at this
   omega
  ·exact h
  ·omega
 rw[h5]at h4
 refine⟨by omega,by omega,?_⟩
 rw[h5,Nat.mod_self]
theorem Jz:∀{k n:Nat},B^k<=n->n<B^(k+1)->(aC n).length=k+1/\(aC n)[k]?=some (n/B^k)
 |0,n,h1,h2=>by
  have h0:n≠0:=by
   rw[Br]at h1;omega
  rw[ku h0]
  have h3:n/B=0:=wY (by simpa using h2)
  rw[h3,oX]
  simp
  exact uU (by simpa using h2)
 |k+1,n,h1,h2=>by
  have hB:0<B:=by decide
  have hp:0<B^(k+1):=wW hB
  have h0:n≠0:=by omega
  have h3:B^k<=n/B:=(FR hB).2 (by rw[<-fL];exact h1)
  have h4:n/B<B^(k+1):=(nC hB).2 (by rw[<-fL];exact h2)
  obtain⟨e1,e2⟩:=Jz h3 h4
  rw[ku h0]
  refine⟨by simp[e1],?_⟩
  rw[Bh,e2,CW,fL,gX (B^k)]
theorem Z3{n:Nat}(h:(aC n).length≠0):n≠0:=by
 rintro rfl
 exact h (by rw[oX];rfl)
theorem Ec:∀{k n:Nat},(aC n).length=k+1->B^k<=n/\n<B^(k+1)
 |0,n,h=>by
  have h0:=Z3 (n:=n) (by omega)
  rw[ku h0]at h
  have h1:(aC (n/B)).length=0:=by simpa using h
  have h2:n/B=0:=by
   by_cases hc:n/B=0
   ·exact hc
   ·rw[ku hc]at h1;simp at h1
  have:=(Nat.div_eq_zero_iff).1 h2
  rcases this with hb|hb
  ·exact absurd hb (by decide)
  ·simp;omega
 |k+1,n,h=>by
  have h0:=Z3 (n:=n) (by omega)
  rw[ku h0]at h
  obtain⟨h1,h2⟩:=Ec (k:=k) (n:=n/B) (by simpa using h)
  have hB:0<B:=by decide
  exact⟨by rw[fL];exact(FR hB).1 h1,by rw[fL];exact(nC hB).1 h2⟩
theorem Yd9{t s:Nat}(hl:(aC b).length=k+1)(ht:(aC b)[k]?=some t)(h1:9223372036854775808<=t*2^s)(h2:t*2^s<18446744073709551616)(hs:s<=64):
  (aC (b*2^s)).length=k+1/\∃v1,(aC (b*2^s))[k]?=some v1/\9223372036854775808<=v1:=by
 obtain⟨b1,b2⟩:=Ec hl
 have hp:0<B^k:=wW (by decide)
 have xK:=qz s
 have Z4:t=b/B^k:=by
  have:=(Jz b1 b2).2
  rw[ht]at this
  exact p_ this
 have b3:t*B^k<=b:=by rw[Z4];exact Nat.div_mul_le_self _ _
 have b4:b<(t+1)*B^k:=by
  rw[Z4]
  exact(nC hp).1 (rR _)
 have c1:9223372036854775808*B^k<=b*2^s:=by
  have e1:=jn (B^k) h1
  have e2:=jn (2^s) b3
  have e3:t*2^s*B^k=t*B^k*2^s:=by grind
  omega
 have c2:b*2^s<B^(k+1):=by
  have e0:t+1<=2^(64-s):=by
   have:t<2^(64-s):=by
    apply Nat.lt_of_mul_lt_mul_right (a:=2^s)
    rw[<-jH,show 64-s+s=64 by omega];exact h2
   omega
  have e1:=jn (2^s) e0
  rw[<-jH,show 64-s+s=64 by omega]at e1
  have e2:=HM b4 xK
  have e3:=jn (B^k) e1
  have e4:(t+1)*2^s*B^k=(t+1)*B^k*2^s:=by grind
  rw[fL,gX]
  have e5:(2^64:Nat)*B^k=B^k*B:=by unfold B;rw[gX]
  rw[gX b]at e2
  omega
 have c0:B^k<=b*2^s:=by omega
 obtain⟨d1,d2⟩:=Jz c0 c2
 exact⟨d1,_,d2,(FR hp).2 c1⟩
theorem Zzx{U:List Nat}{la m s:Nat}(hU:val B U=a*2^s)(hl:U.length=la+1)(hm:m+k+1=la+1)(wg:m<=U.length)(ha:a<B^la)(hs:s<64)(hv:9223372036854775808<=v1)(hY:v1*B^k<=Y):val B (U.drop m)<Y:=by
 have h1:=Ch B U m wg
 have h2:B^m*val B (U.drop m)<B^la*2^s:=by
  have:=HM ha (qz s)
  omega
 have h3:(2:Nat)^s<=9223372036854775808:=(qx (by decide) (show s<=63 by omega):(2:Nat)^s<=2^63)
 have h4:B^la=B^m*B^k:=by rw[<-jH];congr 1;omega
 rw[h4,Bq]at h2
 have h5:=Nat.lt_of_mul_lt_mul_left h2
 have h6:=jo (B^k) h3
 have h7:=jo (B^k) hv
 rw[gX v1]at hY
 omega
end Go.Mx
