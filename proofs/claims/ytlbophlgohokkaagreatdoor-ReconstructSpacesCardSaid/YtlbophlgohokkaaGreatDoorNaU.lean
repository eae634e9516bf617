/-
  num.shiftUp: words, times a power of 2.
-/
import Derived.Test.YtlbophlgohokkaaGreatDoorNaA
import Derived.Test.YtlbophlgohokkaaGreatDoorMxWord
set_option linter.all false
namespace Go.Mx
open Go Go.Proofs
variable {s x:Nat}
set_option maxHeartbeats 2000000
set_option maxRecDepth 1000000
def A.zbf:aq:=sr [bi 15 .lss 14 13]
 (.seq (cd 15
 (.skip)
 (.exit 0))
 (.seq (.block 1 (sr [mv 16 14,ia 17 1 12 14,ld 18 17,mv 6 16,mv 7 18]
 (.seq (.aS [mv 19 5,mv 20 6,ia 21 1 19 20,ld 22 21,mv 23 7,mv 24 1,bi 25 .shl 23 24,bi 26 .or 22 25,ia 27 1 19 20,so 27 26] [0,0,3,7,0,0,48,127,255,511])
 (sr [mv 28 1,bc 29 .gtr 28 0]
 (cd 29
 (.aL [mv 30 5,mv 31 6,bc 32 .add 31 1,mv 33 7,mv 34 1,⟨(some 35),.bin .sub (.node []) false (.const (.int .i64 64)) (.tmp 34),none⟩,bi 36 .shr 33 35,ia 37 1 30 32,so 37 36])
 (.skip))))))
 (.aL [bc 38 .add 14 1,mv 14 38])))
def A.b273:aq:=sr [mN 4]
 (sr [mv 8 0,ln 9 8,bc 10 .add 9 1,⟨(some 11),.bD 214 1 8 [(.int .u64 0)] (.tmp 10) (.tmp 10),none⟩,mv 5 11]
 (.seq (sr [mv 12 0,ln 13 12,mc 14 0]
 (.block 0 (.loop A.zbf)))
 (sr [mv 39 5,mv 4 39]
 (.ret))))
theorem A.c273:A.F 273=some ⟨40,[.tmp 4],A.b273⟩:=by kernel_rfl
def A.k273:=@A.kk 273 _ _ _ A.c273 rfl
theorem KR{c:Nat}(hs:s<64)(hc:c<2^s):ib c (bK x s)=c+bK x s:=by
 unfold ib bK
 have e:x*2^s%18446744073709551616=(x%2^(64-s))<<<s:=by
  rw[Nat.shiftLeft_eq]
  have:(18446744073709551616:Nat)=2^(64-s)*2^s:=by rw[<-jr,show 64-s+s=64 by omega]
  rw[this,FM]
 rw[e,Nat.or_comm,Nat.add_comm,Nat.shiftLeft_add_eq_or_of_lt hc]
theorem WN(hs:s<=64):bK x s+B*al x (64-s)=x*2^s:=by
 unfold bK al
 have e:x/2^(64-s)=x*2^s/18446744073709551616:=by
  have:(18446744073709551616:Nat)=2^(64-s)*2^s:=by rw[<-jr,show 64-s+s=64 by omega]
  rw[this,JJ _ _ (oG s)]
 rw[e]
 have:=pG (x*2^s) 18446744073709551616
 unfold B
 omega
theorem WO(hx:x<B)(hs:s<=64):al x (64-s)<2^s:=by
 unfold al
 apply (mq (oG _)).2
 rw[<-jr,show s+(64-s)=64 by omega]
 exact hx
theorem Wo{c:Nat}(hs:s<64)(hc:c<2^s):c+bK x s<B:=by
 rw[<-KR hs hc]
 unfold ib
 apply Nat.or_lt_two_pow (n:=64)
 ·exact Nat.lt_trans hc (Nat.pow_lt_pow_right (by decide) hs)
 ·exact Qc
structure WQ (h:T O) (N:Nat) (l:List Nat) (s k:Nat) (o:List Nat) (c:Nat) (r:T V) (st:St):Prop where
 hk:k<=l.length
 EJ:r.get 14=some (.int .i64 k)
 n:st.n=N+1
 w:au N st.w=[]
 ad:ab h N st.h (N+1)
 row:st.h.get N=some (.cells (dg o) 214 true)
 len:o.length=l.length+1
 dg:Dg o
 zero:∀t,k<t->t<o.length->o[t]?=some 0
 top:o[k]?=some c
 lc:c<2^s
 ex:val B o=val B (l.take k)*2^s
def ShI(h:T O)(N:Nat)(l:List Nat)(s m:Nat)(r:T V)(st:St):Prop:=∃k o c,m=l.length-k/\WQ h N l s k o c r st
def ShE(h:T O)(N:Nat)(l:List Nat)(s:Nat)(r:T V)(st:St):Prop:=∃o c,WQ h N l s l.length o c r st
theorem Ww{h:T O}{N:Nat}{v:V}{l:List Nat}(hv:Sl h N v (Go.Mx.dg l))(hd:Dg l)(hs:s<64)(hl:l.length<1099511627776):Fn A.C 273 [v,.int .i64 s] h N (fun v' h' N'=>∃i o,N<=i/\i<N'/\v'=.slice i 0 (l.length+1) (some (l.length+1)) 1/\h'.get i=some (.cells (dg o) 214 true)/\o.length=l.length+1/\Dg o/\val B o=val B l*2^s):=by
 intro w
 have lx:=hv.len
 rw[bC]at lx
 rw[aP,A.k273 (by simp)]
 simp(disch:=first|(simp;done)|omega|(simp only[bC,cl,bq];omega)|rfl) [A.b273,lx]
 refine bN [(6,7),(14,38)] (fun e r st=>e=.exit 0/\ShE h N l s r st) (ShI h N l s) l.length ?_ ?_ ?_
 ·refine⟨0,List.replicate (l.length+1) 0,0,by omega,⟨by omega,by simp,by simp,by simp,ab.refl.set (aV _) |>.up (by omega),by simp[Cm],by simp,?_,?_,by simp,oG s,by simp[val,VU]⟩⟩
  ·intro d hd
   rw[DS]at hd
   rw[hd.2];decide
  ·intro t _ ht
   simp at ht
   simp[ht]
 ·rintro m r ⟨H,n1,W⟩ hr hf ⟨k,o,c,rfl,hk,n9,hn,hW,hK,hN,ho,EN,hz,hc,xj,he⟩
  simp only at hn hW hK hN
  subst hn
  rw[bn]
  by_cases aB:k<l.length
  ·obtain⟨i1,o1,c1,e1,w1,p1,p2,p3,p4⟩:=hv.at (eP (cW aB))
   have p3:=(hK.get _ p2).trans p3
   have gx:=cW aB
   generalize l[k]=x at*
   have hx:x<B:=hd.get gx
   have QH:c<18446744073709551616:=EN.get hc
   have vQ:=KR (x:=x) hs xj
   have dW:=Wo (x:=x) hs xj
   obtain⟨z,QI⟩:∃z,c+bK x s=z:=⟨_,rfl⟩
   rw[QI]at vQ dW
   have WR:(o.set k z).length=l.length+1:=by simp[ho]
   have An:=WN (x:=x) (s:=s) (by omega)
   have cC:=WO hx (s:=s) (by omega)
   have v1:=Hg (b:=B) (v:=z) hc
   have sY:(o.set k z)[k+1]?=some 0:=by
    rw[dr (by omega)];exact hz _ (by omega) (by omega)
   have v2:=Hg (b:=B) (v:=al x (64-s)) sY
   by_cases h0:0<s
   ·have pQ:(0:Int)<(s:Int):=by omega
    simp(disch:=first|(simp;done)|omega|(simp only[bC,cl,bq];omega)|rfl) [-getElem?_pos,A.zbf,hr,n9,aB,lx,p1,p3,p4,hN,eP hc,vQ,mO,h0,hf]
    refine⟨_,by omega,k+1,(o.set k z).set (k+1) (al x (64-s)),al x (64-s),rfl,⟨by omega,by simp,rfl,by simp[hW],(hK.set (aV _)).set (aV _),by simp,by simp[ho],(EN.set dW).set (dZ cC (oE (by decide) (by omega):2^s<=2^64)),?_,fy (by omega),cC,?_⟩⟩
    ·intro t t1 t2
     rw[dr (by omega),dr (by omega)]
     exact hz t (by omega) (by simpa using t2)
    ·rw[Ax gx,jG,<-he]
     rw[<-QI]at v1 v2 ⊢
     have e3:B^k*(bK x s+B*al x (64-s))=B^k*(x*2^s):=by rw[An]
     rw[fJ]at v2
     generalize val B ((o.set k (c+bK x s)).set (k+1) (al x (64-s)))=z1 at*
     generalize val B (o.set k (c+bK x s))=z2 at*
     generalize val B o=z3 at*
     generalize bK x s=z4 at*
     generalize al x (64-s)=z5 at*
     generalize B^k=z6 at*
     grind
   ·have pQ:¬(0:Int)<(s:Int):=by omega
    simp(disch:=first|(simp;done)|omega|(simp only[bC,cl,bq];omega)|rfl) [-getElem?_pos,A.zbf,hr,n9,aB,lx,p1,p3,p4,hN,eP hc,vQ,mO,h0,hf]
    have rK:s=0:=by omega
    subst rK
    have k_:c=0:=by simpa using xj
    subst k_
    have e0:bK x 0=x:=by unfold bK;unfold B at hx;simp;omega
    have mI:z=x:=by rw[<-QI,e0];omega
    subst mI
    refine⟨_,by omega,k+1,o.set k z,0,rfl,⟨by omega,by simp,rfl,by simp[hW],hK.set (aV _),by simp,by simp[ho],EN.set hx,?_,?_,by decide,?_⟩⟩
    ·intro t t1 t2
     rw[dr (by omega)]
     exact hz t (by omega) (by simpa using t2)
    ·rw[dr (by omega)];exact hz _ (by omega) (by omega)
    ·rw[Ax gx,jG,<-he]
     simpa using v1
  ·have:k=l.length:=by omega
   subst this
   simp[A.zbf,hr,n9,hf]
   exact⟨o,c,⟨by omega,by simp[n9],rfl,hW,hK,hN,ho,EN,hz,hc,xj,he⟩⟩
 ·rintro _ r ⟨H,n1,W⟩ hr ⟨rfl,o,c,hk,n9,hn,hW,hK,hN,ho,EN,hz,hc,xj,he⟩
  simp only at hn hW hK hN
  subst hn
  simp[hr,aA]
  rw[fN (aV _)]at he
  exact⟨hW,hK,N,aV _,by omega,rfl,o,hN,ho,EN,he⟩
open Go
variable {b q r:Nat}
theorem K4{u un cf jg:Nat}(hi:u=q*cf+r)(hc:q*jg<=b*r+un):q*(cf*b+jg)<=u*b+un:=by
 subst hi
 rw[oH,jG,<-zK,gX r b]
 omega
theorem WS{u un cf jg:Nat}(hi:u=q*cf+r)(hc:b*r+un<q*jg):u*b+un<q*(cf*b+jg):=by
 subst hi
 rw[oH,jG,<-zK,gX r b]
 omega
theorem WT{a y:Nat}(h:a<q*y):a/y<q:=by
 rcases Bn y with rfl|hy
 ·simp at h
 ·exact(mq hy).2 h
theorem EO{a y:Nat}(hy:0<y)(h:q*y<=a):q<=a/y:=(DR hy).2 h
theorem Ylt{P u1 u2 U' v1 v2 V' s:Nat}(ko:0<v1)(yq:V'<P)(ht:s<=b)(hinv:u1=(s+1)*v1+r)(hc:(s+1)*v2<=r*b+u2):
  s*(V'+P*(v2+b*v1))<=U'+P*(u2+b*u1):=by
 have h1:s*V'<=b*P:=sM ht (by omega)
 have h2:b*P*1<=b*P*v1:=jc _ ko
 have h3:P*((s+1)*v2)<=P*(r*b+u2):=jc _ hc
 have h4:P*((s+1)*v2)=P*(s*v2)+P*v2:=by grind
 have h5:s*(V'+P*(v2+b*v1))=s*V'+P*(s*v2)+b*(P*(s*v1)):=by grind
 have h6:U'+P*(u2+b*u1)=U'+P*(r*b+u2)+b*(P*(s*v1))+b*P*v1:=by subst hinv;grind
 omega
theorem Yls{P u1 u2 U' v1 v2 V' t:Nat}(yp:U'<P)(hinv:u1=t*v1+r)(hc:r*b+u2<t*v2):
  U'+P*(u2+b*u1)<t*(V'+P*(v2+b*v1)):=by
 have h3:P*(r*b+u2+1)<=P*(t*v2):=jc _ hc
 have h5:t*(V'+P*(v2+b*v1))=t*V'+P*(t*v2)+b*(P*(t*v1)):=by grind
 have h6:U'+P*(u2+b*u1)+P=U'+P*(r*b+u2+1)+b*(P*(t*v1)):=by subst hinv;grind
 omega
variable {b u y:Nat}
set_option maxHeartbeats 8000000
def A.zaQ:aq:=.seq (sr [mv 102 18,⟨(some 103),.bin .geq (.node []) false (.tmp 102) (.const (.int .u64 4294967296)),none⟩,mv 104 103,mh 105 18 104,mh 106 10 104,⟨(some 107),.bin .mul (.node []) false (.tmp 105) (.tmp 106),(some (104,false))⟩,mh 108 16 104,⟨(some 109),.bin .mul (.node []) false (.const (.int .u64 4294967296)) (.tmp 108),(some (104,false))⟩,mh 110 14 104,⟨(some 111),.bin .add (.node []) false (.tmp 109) (.tmp 110),(some (104,false))⟩,⟨(some 112),.bin .gtr (.node []) false (.tmp 107) (.tmp 111),(some (104,false))⟩,pt 113 104 112]
 (cd 113
 (.skip)
 (.exit 2)))
 (.block 3 (sr [mv 114 18,⟨(some 115),.bin .sub (.node []) false (.tmp 114) (.const (.int .u64 1)),none⟩,mv 18 115]
 (sr [mv 116 16,mv 117 9,bi 118 .add 116 117,mv 16 118]
 (sr [mv 119 16,⟨(some 120),.bin .geq (.node []) false (.tmp 119) (.const (.int .u64 4294967296)),none⟩]
 (cd 120
 (.exit 2)
 (.skip))))))
def A.zaR:aq:=.seq (sr [mv 67 15,⟨(some 68),.bin .geq (.node []) false (.tmp 67) (.const (.int .u64 4294967296)),none⟩,mv 69 68,mh 70 15 69,mh 71 10 69,⟨(some 72),.bin .mul (.node []) false (.tmp 70) (.tmp 71),(some (69,false))⟩,mh 73 16 69,⟨(some 74),.bin .mul (.node []) false (.const (.int .u64 4294967296)) (.tmp 73),(some (69,false))⟩,mh 75 13 69,⟨(some 76),.bin .add (.node []) false (.tmp 74) (.tmp 75),(some (69,false))⟩,⟨(some 77),.bin .gtr (.node []) false (.tmp 72) (.tmp 76),(some (69,false))⟩,pt 78 69 77]
 (cd 78
 (.skip)
 (.exit 0)))
 (.block 1 (sr [mv 79 15,⟨(some 80),.bin .sub (.node []) false (.tmp 79) (.const (.int .u64 1)),none⟩,mv 15 80]
 (sr [mv 81 16,mv 82 9,bi 83 .add 81 82,mv 16 83]
 (sr [mv 84 16,⟨(some 85),.bin .geq (.node []) false (.tmp 84) (.const (.int .u64 4294967296)),none⟩]
 (cd 85
 (.exit 0)
 (.skip))))))
def A.b271:aq:=sr [⟨(some 6),.aZ (.const (.int .u64 0)),none⟩,⟨(some 7),.aZ (.const (.int .u64 0)),none⟩]
 (.seq (sr [mv 19 2,⟨(some 20),.bin .eql (.aH .int) true (.tmp 19) (.const (.int .u64 0)),none⟩]
 (cd 20
 (.aL [⟨(some 21),.load none (.const (.ptr 0 0)),none⟩,⟨none,.stop,none⟩])
 (.skip)))
 (.seq (sr [mv 22 2,mv 23 0,bi 24 .leq 22 23]
 (cd 24
 (.aL [⟨(some 25),.load none (.const (.ptr 1 0)),none⟩,⟨none,.stop,none⟩])
 (.skip)))
 (.seq (sr [mv 26 0,⟨(some 27),.bin .eql (.aH .int) true (.tmp 26) (.const (.int .u64 0)),none⟩]
 (cd 27
 (.seq (.aS [mv 28 1,mv 29 2,bi 30 .quo 28 29,mv 31 1,mv 32 2,bi 33 .rem 31 32,mv 6 30,mv 7 33] [0,0,3,0,0,24,7,127])
 (.ret))
 (.skip)))
 (sr [mv 34 2,c1 35 272 34,⟨(some 36),.ba .u64 (.tmp 35),none⟩,mv 8 36]
 (sr [mv 37 2,mv 38 8,bi 39 .shl 37 38,mv 2 39]
 (sr [mv 40 2,⟨(some 41),.bin .shr (.node []) false (.tmp 40) (.const (.int .u64 32)),none⟩,mv 9 41]
 (sr [mv 42 2,⟨(some 43),.bin .and (.node []) false (.tmp 42) (.const (.int .u64 4294967295)),none⟩,mv 10 43]
 (sr [mv 44 0,mv 45 8,bi 46 .shl 44 45,mv 47 1,mv 48 8,⟨(some 49),.bin .sub (.node []) false (.const (.int .u64 64)) (.tmp 48),none⟩,bi 50 .shr 47 49,bi 51 .or 46 50,mv 11 51]
 (sr [mv 52 1,mv 53 8,bi 54 .shl 52 53,mv 12 54]
 (sr [mv 55 12,⟨(some 56),.bin .shr (.node []) false (.tmp 55) (.const (.int .u64 32)),none⟩,mv 13 56]
 (sr [mv 57 12,⟨(some 58),.bin .and (.node []) false (.tmp 57) (.const (.int .u64 4294967295)),none⟩,mv 14 58]
 (sr [mv 59 11,mv 60 9,bi 61 .quo 59 60,mv 15 61]
 (sr [mv 62 11,mv 63 15,mv 64 9,bi 65 .mul 63 64,bi 66 .sub 62 65,mv 16 66]
 (.seq (.block 0 (.loop A.zaR))
 (sr [mv 86 11,⟨(some 87),.bin .mul (.node []) false (.tmp 86) (.const (.int .u64 4294967296)),none⟩,mv 88 13,bi 89 .add 87 88,mv 90 15,mv 91 2,bi 92 .mul 90 91,bi 93 .sub 89 92,mv 17 93]
 (sr [mv 94 17,mv 95 9,bi 96 .quo 94 95,mv 18 96]
 (sr [mv 97 17,mv 98 18,mv 99 9,bi 100 .mul 98 99,bi 101 .sub 97 100,mv 16 101]
 (.seq (.block 2 (.loop A.zaQ))
 (sr [mv 121 15,⟨(some 122),.bin .mul (.node []) false (.tmp 121) (.const (.int .u64 4294967296)),none⟩,mv 123 18,bi 124 .add 122 123,mv 125 17,⟨(some 126),.bin .mul (.node []) false (.tmp 125) (.const (.int .u64 4294967296)),none⟩,mv 127 14,bi 128 .add 126 127,mv 129 18,mv 130 2,bi 131 .mul 129 130,bi 132 .sub 128 131,mv 133 8,bi 134 .shr 132 133,mv 6 124,mv 7 134]
 (.ret))))))))))))))))))))
theorem A.c271:A.F 271=some ⟨135,[.tmp 6,.tmp 7],A.b271⟩:=by kernel_rfl
def A.k271:=@A.kk 271 _ _ _ A.c271 rfl
structure WU (h:T O) (N:Nat) (k1 u cf D m:Nat) (r:T V) (st:St):Prop where
 st:st=⟨h,N,[]⟩
 ex:∃rh:Nat,r.get k1=some (.int .u64 m)/\r.get 16=some (.int .u64 rh)/\u=m*cf+rh/\D<=m/\m<=4294967297/\rh<4294967296
theorem Wv(h0:¬y=0)(h:y<18446744073709551616):9223372036854775808<=y*2^(64-a_ y)/\y*2^(64-a_ y)<18446744073709551616/\64-a_ y<64:=by
 have h1:=KQ y
 have h2:=EK h0
 have hp:0<a_ y:=by unfold a_;rw[ar h0];omega
 have hl:a_ y<=64:=by
  apply tA
  intro hc
  have:2^64<=2^(a_ y-1):=oE (by decide) (by omega)
  omega
 refine⟨?_,?_,by omega⟩
 ·have:=kl (2^(64-a_ y)) h2
  rw[<-jr,show a_ y-1+(64-a_ y)=63 by omega]at this
  exact this
 ·have:=FL h1 (oG (64-a_ y))
  rw[<-jr,show a_ y+(64-a_ y)=64 by omega]at this
  exact this
theorem QJ{a:Nat}(h:a<18446744073709551616):bk .u64 ((a:Int)/(b:Int))=(jJ a b:Nat):=by
 have e:((a:Int)/(b:Int))=((a/b:Nat):Int):=rfl
 have:=qj a b
 rw[e,Av (Int.natCast_nonneg _) (Int.ofNat_lt.2 (show a/b<18446744073709551616 by omega))]
 rfl
theorem WV{a c:Nat}(h:c<=a)(hr:a-c<18446744073709551616):fm (a%18446744073709551616) (c%18446744073709551616)=a-c:=by
 unfold fm
 split<;>omega
theorem Zzk{c u1 u0 z Y:Nat}(hc:c=b*b)(hY:0<Y):(u1*c+u0*b+z)/Y=(u1*b+u0)/Y*b+((u1*b+u0)%Y*b+z)/Y/\(u1*c+u0*b+z)%Y=((u1*b+u0)%Y*b+z)%Y:=by
 subst hc
 have h:=pG (u1*b+u0) Y
 have e:u1*(b*b)+u0*b+z=Y*((u1*b+u0)/Y*b)+((u1*b+u0)%Y*b+z):=by
  generalize (u1*b+u0)/Y=D at*
  generalize (u1*b+u0)%Y=R at*
  have:(Y*D+R)*b=(u1*b+u0)*b:=by rw[h]
  grind
 rw[e,Nat.mul_add_div hY,Nat.mul_add_mod]
 exact⟨rfl,rfl⟩
theorem WW:u=u/y*y+u%y:=by
 have:=pG u y
 rw[gX]at this
 exact this.symm
theorem WX(h:0<y)(hb:y<=b):u%y<b:=dZ (jd _ h) hb
theorem WY{un cf jg:Nat}(h:0<cf)(hn:un<4294967296):(u*4294967296+un)/(cf*4294967296+jg)<=u/cf:=by
 have h1:(u*4294967296+un)/(cf*4294967296+jg)<=(u*4294967296+un)/(cf*4294967296):=Nat.div_le_div_left (by omega) (by omega)
 have h2:(u*4294967296+un)/(cf*4294967296)=u/cf:=by
  rw[gX cf,<-Bj,show (u*4294967296+un)/4294967296=u by omega]
 rw[h2]at h1
 exact h1
theorem WZ{cf jg:Nat}(h0:jg<4294967296)(h:2147483648<=cf)(hu:u<cf*4294967296+jg):u/cf<=4294967297:=by
 apply Nat.le_of_lt_succ
 apply (mq (by omega)).2
 omega
theorem Wp{h:T O}{N:Nat}{hi lo:Nat}(hy:hi<y)(Ct:y<18446744073709551616)(fl:lo<18446744073709551616):Fn A.C 271 [.int .u64 hi,.int .u64 lo,.int .u64 y] h N (fun v h' N'=>h'=h/\N'=N/\v=.bb [.int .u64 ((hi*18446744073709551616+lo)/y:Nat),.int .u64 ((hi*18446744073709551616+lo)%y:Nat)]):=by
 intro w
 have qZ:¬y=0:=by omega
 have hle:¬y<=hi:=by omega
 rw[aP,A.k271 (by simp)]
 by_cases h0:hi=0
 ·subst h0
  have hq:=QJ (b:=y) fl
  simp[A.b271,qZ,dn.dp,aA,hq,Hd,jJ]
  exact ab.refl
 ·simp[A.b271,qZ,hle,h0]
  refine ax (Wm Ct) ?_
  rintro _ h N hk ⟨rfl,rfl,rfl⟩
  obtain⟨n1,n2,n3⟩:=Wv qZ Ct
  generalize 64-a_ y=s at*
  have hw:bk .u64 (s:Int)=(s:Int):=Av (by omega) (by omega)
  have OZ:bk .u64 (64-(s:Int))=((64-s:Nat):Int):=by rw[Av (by omega) (by omega)];omega
  obtain⟨Y,hY⟩:∃Y,bK y s=Y:=⟨_,rfl⟩
  have W7:Y=y*2^s:=by rw[<-hY];unfold bK;omega
  obtain⟨cf,Hz⟩:∃x,al Y 32=x:=⟨_,rfl⟩
  obtain⟨jg,HC⟩:∃x,eg Y=x:=⟨_,rfl⟩
  obtain⟨U,hU⟩:∃x,ib (bK hi s) (al lo (64-s))=x:=⟨_,rfl⟩
  obtain⟨L,hL⟩:∃x,bK lo s=x:=⟨_,rfl⟩
  obtain⟨rR,HD⟩:∃x,al L 32=x:=⟨_,rfl⟩
  obtain⟨qO,HE⟩:∃x,eg L=x:=⟨_,rfl⟩
  have hYB:Y<18446744073709551616:=by omega
  have hLB:L<18446744073709551616:=by rw[<-hL];exact Qc
  have K6:Y=cf*4294967296+jg/\jg<4294967296:=by
   rw[<-Hz,<-HC];unfold al eg;omega
  have hLd:L=rR*4294967296+qO/\qO<4294967296:=by
   rw[<-HD,<-HE];unfold al eg;omega
  have hA:U*18446744073709551616+L=(hi*18446744073709551616+lo)*2^s:=by
   have e1:=KR (x:=hi) n3 (WO (x:=lo) (s:=s) fl (by omega))
   have e2:=WN (x:=lo) (s:=s) (by omega)
   have e3:bK hi s=hi*2^s:=by
    unfold bK
    have:=FL hy (oG s)
    omega
   have e4:U=al lo (64-s)+hi*2^s:=by
    rw[<-hU,<-e3,<-e1];unfold ib;exact Nat.or_comm _ _
   rw[hL]at e2
   unfold B at e2
   rw[e4,jG (hi*18446744073709551616),<-e2]
   have:hi*18446744073709551616*2^s=hi*2^s*18446744073709551616:=by grind
   omega
  have hUY:U<Y:=by
   have h1:hi*18446744073709551616+lo<y*18446744073709551616:=by omega
   have h2:=FL h1 (oG s)
   have h3:y*18446744073709551616*2^s=y*2^s*18446744073709551616:=by grind
   omega
  have hsr:al lo (64-s)<18446744073709551616:=VQ fl
  have hyp:0<cf:=by omega
  have W8:cf<=4294967296:=by omega
  have xu:0<cf*4294967296+jg:=by omega
  have hq:=QJ (b:=cf) (show U<18446744073709551616 by omega)
  have hr:fm U (cH (jJ U cf) cf)=U%cf:=by
   have h1:=pG U cf
   rw[gX]at h1
   have h2:cH (jJ U cf) cf=U/cf*cf:=by unfold cH jJ;omega
   rw[h2,Aw (by omega) (by omega)];omega
  simp(disch:=first|(simp;done)|omega|(simp only[bC,cl,bq];omega)|rfl) [hq,hr,hw,OZ,hY,Hz,HC,hU,hL,HD,HE]
  obtain⟨D1,vR⟩:∃D,(U*4294967296+rR)/(cf*4294967296+jg)=D:=⟨_,rfl⟩
  refine bN [(15,16),(67,85)] (fun e r st=>e=.exit 0/\st=⟨h,N,[]⟩/\r.get 15=some (.int .u64 D1)) (WU h N 15 U cf D1) (U/cf) ?_ ?_ ?_
  ·exact⟨rfl,U%cf,by simp[jJ],by simp,WW,vR▸WY hyp (by omega),WZ K6.2 (by omega) (by omega),WX hyp W8⟩
  ·rintro q r _ hr hf ⟨rfl,rh,hq,vS,hu,hD,jm,su⟩
   rw[bn]
   obtain⟨P,hP⟩:∃P,P=q*jg:=⟨_,rfl⟩
   obtain⟨R2,hR2⟩:∃P,P=4294967296*rh:=⟨_,rfl⟩
   obtain⟨R3,hR3⟩:∃P,P=4294967296*rh+rR:=⟨_,rfl⟩
   have m2:cH 4294967296 rh=R2:=by unfold cH;omega
   have m3:cD R2 rR=R3:=by unfold cD;omega
   have o8:(4294967296<=q\/R3<P)->0<q/\D1<=q-1:=by
    intro hc
    have:D1<q:=by
     rcases hc with hc|hc
     ·have:D1<4294967296:=by rw[<-vR];exact(mq xu).2 (by omega)
      omega
     ·rw[<-vR];exact WT (WS (b:=4294967296) hu (by omega))
    omega
   have nI:0<q->U=(q-1)*cf+(rh+cf):=by
    intro hc
    obtain⟨s,rfl⟩:∃s,q=s+1:=⟨q-1,by omega⟩
    rw[hu,jG];simp;omega
   have ef:∀CC,U=(q-1)*cf+CC->4294967296<=CC->(q-1)*(cf*4294967296+jg)<=U*4294967296+rR:=by
    intro CC h1 h2
    refine K4 h1 ?_
    have:=sM (show q-1<=4294967296 by omega) (show jg<=4294967296 by omega)
    omega
   by_cases c1:4294967296<=q
   ·have c1':(4294967296:Int)<=(q:Int):=by omega
    obtain⟨g1,g2⟩:=o8 (.inl c1)
    have s1:fm q 1=q-1:=Aw g1 (by omega)
    have s2:cD rh cf=rh+cf:=by unfold cD;omega
    by_cases c3:4294967296<=rh+cf
    ·have c3':(4294967296:Int)<=(rh:Int)+(cf:Int):=by omega
     simp[A.zaR,hr,hq,vS,c1',c3',s1,s2,hf]
     have hd:=EO xu (ef _ (nI g1) c3)
     rw[vR]at hd;omega
    ·have c3':¬(4294967296:Int)<=(rh:Int)+(cf:Int):=by omega
     simp[A.zaR,hr,hq,vS,c1',c3',s1,s2,hf]
     exact⟨q-1,by omega,rfl,rh+cf,by simp,by simp,nI g1,g2,by omega,by omega⟩
   ·have c1':¬(4294967296:Int)<=(q:Int):=by omega
    have m1:cH q jg=P:=by
     have:=sM (show q<=4294967296 by omega) (show jg<=4294967295 by omega)
     unfold cH;omega
    by_cases c2:R3<P
    ·obtain⟨g1,g2⟩:=o8 (.inr c2)
     have s1:fm q 1=q-1:=Aw g1 (by omega)
     have s2:cD rh cf=rh+cf:=by unfold cD;omega
     by_cases c3:4294967296<=rh+cf
     ·have c3':(4294967296:Int)<=(rh:Int)+(cf:Int):=by omega
      simp[A.zaR,hr,hq,vS,c1',c2,c3',m1,m2,m3,s1,s2,hf]
      have hd:=EO xu (ef _ (nI g1) c3)
      rw[vR]at hd;omega
     ·have c3':¬(4294967296:Int)<=(rh:Int)+(cf:Int):=by omega
      simp[A.zaR,hr,hq,vS,c1',c2,c3',m1,m2,m3,s1,s2,hf]
      exact⟨q-1,by omega,rfl,rh+cf,by simp,by simp,nI g1,g2,by omega,by omega⟩
    ·simp[A.zaR,hr,hq,vS,c1',c2,m1,m2,m3,hf]
     have hd:=EO xu (K4 (b:=4294967296) (un:=rR) hu (by omega))
     rw[vR]at hd;omega
  rintro _ r _ eK ⟨rfl,rfl,yU⟩
  obtain⟨R1,K7⟩:∃R,(U*4294967296+rR)%Y=R:=⟨_,rfl⟩
  rw[<-K6.1]at vR
  have qE:fm (cD (cH U 4294967296) rR) (cH D1 Y)=R1:=by
   have h1:=pG (U*4294967296+rR) Y
   rw[vR,K7,gX Y]at h1
   have h2:cD (cH U 4294967296) rR=(U*4294967296+rR)%18446744073709551616:=by unfold cD cH;omega
   rw[h2]
   have h3:=jd (U*4294967296+rR) (show 0<Y by omega)
   unfold cH
   rw[WV (by omega) (by omega)];omega
  have zaq:R1<Y:=by rw[<-K7];exact jd _ (by omega)
  have gh:=QJ (b:=cf) (show R1<18446744073709551616 by omega)
  have cR:fm R1 (cH (jJ R1 cf) cf)=R1%cf:=by
   have h1:=pG R1 cf
   rw[gX]at h1
   have h2:cH (jJ R1 cf) cf=R1/cf*cf:=by unfold cH jJ;omega
   rw[h2,Aw (by omega) (by omega)];omega
  simp(disch:=first|(simp;done)|omega|(simp only[bC,cl,bq];omega)|rfl) [eK,yU,qE,gh,cR]
  obtain⟨D0,tZ⟩:∃D,(R1*4294967296+qO)/(cf*4294967296+jg)=D:=⟨_,rfl⟩
  refine bN [(16,16),(18,18),(102,120)] (fun e r st=>e=.exit 2/\st=⟨h,N,[]⟩/\r.get 18=some (.int .u64 D0)) (WU h N 18 R1 cf D0) (R1/cf) ?_ ?_ ?_
  ·exact⟨rfl,R1%cf,by simp[jJ],by simp,WW,tZ▸WY hyp (by omega),WZ K6.2 (by omega) (by omega),WX hyp W8⟩
  ·rintro q r _ hr hf ⟨rfl,rh,hq,vS,hu,hD,jm,su⟩
   rw[bn]
   obtain⟨P,hP⟩:∃P,P=q*jg:=⟨_,rfl⟩
   obtain⟨R2,hR2⟩:∃P,P=4294967296*rh:=⟨_,rfl⟩
   obtain⟨R3,hR3⟩:∃P,P=4294967296*rh+qO:=⟨_,rfl⟩
   have m2:cH 4294967296 rh=R2:=by unfold cH;omega
   have m3:cD R2 qO=R3:=by unfold cD;omega
   have o8:(4294967296<=q\/R3<P)->0<q/\D0<=q-1:=by
    intro hc
    have:D0<q:=by
     rcases hc with hc|hc
     ·have:D0<4294967296:=by rw[<-tZ];exact(mq xu).2 (by omega)
      omega
     ·rw[<-tZ];exact WT (WS (b:=4294967296) hu (by omega))
    omega
   have nI:0<q->R1=(q-1)*cf+(rh+cf):=by
    intro hc
    obtain⟨s,rfl⟩:∃s,q=s+1:=⟨q-1,by omega⟩
    rw[hu,jG];simp;omega
   have ef:∀CC,R1=(q-1)*cf+CC->4294967296<=CC->(q-1)*(cf*4294967296+jg)<=R1*4294967296+qO:=by
    intro CC h1 h2
    refine K4 h1 ?_
    have:=sM (show q-1<=4294967296 by omega) (show jg<=4294967296 by omega)
    omega
   by_cases c1:4294967296<=q
   ·have c1':(4294967296:Int)<=(q:Int):=by omega
    obtain⟨g1,g2⟩:=o8 (.inl c1)
    have s1:fm q 1=q-1:=Aw g1 (by omega)
    have s2:cD rh cf=rh+cf:=by unfold cD;omega
    by_cases c3:4294967296<=rh+cf
    ·have c3':(4294967296:Int)<=(rh:Int)+(cf:Int):=by omega
     simp[A.zaQ,hr,eK,hq,vS,c1',c3',s1,s2,hf]
     have hd:=EO xu (ef _ (nI g1) c3)
     rw[tZ]at hd;omega
    ·have c3':¬(4294967296:Int)<=(rh:Int)+(cf:Int):=by omega
     simp[A.zaQ,hr,eK,hq,vS,c1',c3',s1,s2,hf]
     exact⟨q-1,by omega,rfl,rh+cf,by simp,by simp,nI g1,g2,by omega,by omega⟩
   ·have c1':¬(4294967296:Int)<=(q:Int):=by omega
    have m1:cH q jg=P:=by
     have:=sM (show q<=4294967296 by omega) (show jg<=4294967295 by omega)
     unfold cH;omega
    by_cases c2:R3<P
    ·obtain⟨g1,g2⟩:=o8 (.inr c2)
     have s1:fm q 1=q-1:=Aw g1 (by omega)
     have s2:cD rh cf=rh+cf:=by unfold cD;omega
     by_cases c3:4294967296<=rh+cf
     ·have c3':(4294967296:Int)<=(rh:Int)+(cf:Int):=by omega
      simp[A.zaQ,hr,eK,hq,vS,c1',c2,c3',m1,m2,m3,s1,s2,hf]
      have hd:=EO xu (ef _ (nI g1) c3)
      rw[tZ]at hd;omega
     ·have c3':¬(4294967296:Int)<=(rh:Int)+(cf:Int):=by omega
      simp[A.zaQ,hr,eK,hq,vS,c1',c2,c3',m1,m2,m3,s1,s2,hf]
      exact⟨q-1,by omega,rfl,rh+cf,by simp,by simp,nI g1,g2,by omega,by omega⟩
    ·simp[A.zaQ,hr,eK,hq,vS,c1',c2,m1,m2,m3,hf]
     have hd:=EO xu (K4 (b:=4294967296) (un:=qO) hu (by omega))
     rw[tZ]at hd;omega
  rintro _ r2 _ kh ⟨rfl,rfl,W9⟩
  obtain⟨R0,uB⟩:∃R,(R1*4294967296+qO)%Y=R:=⟨_,rfl⟩
  rw[<-K6.1]at tZ
  have kI:fm (cD (cH R1 4294967296) qO) (cH D0 Y)=R0:=by
   have h1:=pG (R1*4294967296+qO) Y
   rw[tZ,uB,gX Y]at h1
   have h2:cD (cH R1 4294967296) qO=(R1*4294967296+qO)%18446744073709551616:=by unfold cD cH;omega
   rw[h2]
   have h3:=jd (R1*4294967296+qO) (show 0<Y by omega)
   unfold cH
   rw[WV (by omega) (by omega)];omega
  have oR:D1<4294967296:=by rw[<-vR];exact(mq (by omega)).2 (by omega)
  have nv:D0<4294967296:=by rw[<-tZ];exact(mq (by omega)).2 (by omega)
  have ha:cD (cH D1 4294967296) D0=D1*4294967296+D0:=by unfold cD cH;omega
  obtain⟨e1,e2⟩:=Zzk (b:=4294967296) (c:=18446744073709551616) (by decide) (u1:=U) (u0:=rR) (z:=qO) (show 0<Y by omega)
  rw[K7,vR,tZ]at e1
  rw[K7,uB]at e2
  have e3:U*18446744073709551616+rR*4294967296+qO=(hi*18446744073709551616+lo)*2^s:=by
   rw[<-hA,hLd.1,nj]
  rw[e3,W7,JJ _ _ (oG s)]at e1
  rw[e3,W7,FM]at e2
  have K8:al R0 s=(hi*18446744073709551616+lo)%y:=by
   unfold al
   rw[<-e2,Nat.mul_div_cancel _ (oG s)]
  simp(disch:=first|(simp;done)|omega|(simp only[bC,cl,bq];omega)|rfl) [eK,kh,yU,W9,kI,ha,aA]
  have e5:(hi:Int)*18446744073709551616+lo=((hi*18446744073709551616+lo:Nat):Int):=by omega
  refine⟨ab.refl,?_,?_⟩
  ·rw[e5,<-Int.natCast_ediv,e1];omega
  ·rw[e5,<-Int.natCast_emod,K8]
variable {P Y a b d k q u v1:Nat} {l:List Nat}
theorem xr(h:l[k]?=some d):val b (l.drop k)=d+b*val b (l.drop (k+1)):=by
 have hk:k<l.length:=by
  apply oF;intro hc;rw[eG hc]at h;cases h
 rw[Bl hk]
 rw[cW hk]at h
 simp only[ai]at h
 rw[h];rfl
theorem AE(b:Nat)(l:List Nat)(k:Nat)(hk:k<=l.length):val b l=val b (l.take k)+b^k*val b (l.drop k):=by
 have:=KL b (l.take k) (l.drop k)
 rw[wN,gK,mw hk]at this
 exact this
theorem Xa{b:Nat}:∀{l:List Nat},(∀(t:Nat),t<l.length->l[t]?=some 0)->val b l=0
 |[],_=>rfl
 |d::l,h=>by
  have h0:=h 0 (by simp)
  simp at h0
  have:=Xa (b:=b) (l:=l) fun t ht=>by simpa using h (t+1) (by simp;omega)
  simp[val,h0,this]
theorem Yoq{α:Type}{l:List α}{d:α}(h:l[k]?=some d):k<l.length:=by
 apply oF;intro hc;rw[eG hc]at h;cases h
theorem Qs(hz:∀t,k<=t->t<l.length->l[t]?=some 0):val b (l.drop k)=0:=by
 apply Xa
 intro t ht
 rw[fe]
 rw[tr]at ht
 exact hz _ (by omega) (by omega)
theorem Yew{w:List Nat}{c:Nat}(ha:w[k]?=some a)(hc:w[k+1]?=some c)(hd:w[k+2]?=some d)(hz:∀t,k+3<=t->t<w.length->w[t]?=some 0):
  val b w=val b (w.take k)+b^k*(a+b*(d*b+c)):=by
 have:=Yoq ha
 rw[AE b w k (by omega),xr ha,xr hc,xr hd,Qs hz]
 generalize b^k=p
 grind
theorem Yex{w:List Nat}{c:Nat}(ha:w[k]?=some a)(hc:w[k+1]?=some c)(hl:w.length=k+2):
  val b w=val b (w.take k)+b^k*(a+b*c):=by
 rw[AE b w k (by omega),xr ha,xr hc,mi (by omega)]
 simp[val]
theorem WD(g:∀d∈l,d<b)(hk:k<=l.length):val b (l.take k)<b^k:=by
 have:=Ay (b:=b) (l:=l.take k) fun d hd=>g d (uC hd)
 rwa [gK,mw hk]at this
theorem Yos{c U' v2 V':Nat}(hP:0<P)(yq:V'<P)(iD:v2<b)(hd:v1<=d)(hW:U'+P*(a+b*(d*b+c))<b*(V'+P*(v2+b*v1))):d=v1:=by
 apply Nat.le_antisymm _ hd
 apply tA
 intro aB
 have h1:b*(P*(b*(v1+1)))<=b*(P*(b*d)):=jc _ (jc _ (jc _ aB))
 have h2:V'+P*(v2+b*v1)<P*(b*(v1+1)):=by
  have:P*(v2+1)<=P*b:=jc _ iD
  grind
 have h3:b*(V'+P*(v2+b*v1))<=b*(P*(b*(v1+1))):=jc _ (Nat.le_of_lt h2)
 have h4:b*(P*(b*d))<=U'+P*(a+b*(d*b+c)):=by
  have:P*(b*(d*b))=b*(P*(b*d)):=by grind
  have:P*(b*(d*b))<=P*(a+b*(d*b+c)):=jc _ (by rw[oH];omega)
  omega
 omega
theorem Yot{U' u2 u1 v2 V' r:Nat}(hU:U'<P)(eM:u2<b)(hinv:u1=q*v1+r)(hr:r<v1):U'+P*(u2+b*u1)<(q+1)*(V'+P*(v2+b*v1)):=by
 have h1:u1+1<=(q+1)*v1:=by rw[hinv,jG];omega
 have h2:P*(b*(u1+1))<=P*(b*((q+1)*v1)):=jc _ (jc _ h1)
 have h3:P*(u2+1)<=P*b:=jc _ eM
 have h4:P*(b*((q+1)*v1))<=(q+1)*(V'+P*(v2+b*v1)):=by
  have:(q+1)*(V'+P*(v2+b*v1))=(q+1)*V'+P*((q+1)*v2)+P*(b*((q+1)*v1)):=by grind
  omega
 have h5:U'+P*(u2+b*u1)+P<=U'+P*(b*(u1+1)):=by grind
 omega
def qN(q v c:Nat):Nat:=bz (bz (q*v)+c)
def kZ(q v c:Nat):Nat:=cD (bX (q*v)) (bX (bz (q*v)+c))
theorem Yk6{v c w:Nat}(hq:q<B)(hv:v<B)(hc:c<B)(hu:u<B)(hw:w<=1):
  dT u (qN q v c) w+q*v+c+w=u+B*(kZ q v c+eY u (qN q v c) w)/\dT u (qN q v c) w<B/\kZ q v c<B/\eY u (qN q v c) w<=1/\qN q v c<B:=by
 have:q*v<=18446744073709551615*18446744073709551615:=sM (by unfold B at*;omega) (by unfold B at*;omega)
 unfold kZ qN
 have h1:bz (bz (q*v)+c)+B*cD (bX (q*v)) (bX (bz (q*v)+c))=q*v+c/\cD (bX (q*v)) (bX (bz (q*v)+c))<B/\bz (bz (q*v)+c)<B:=by
  unfold bz bX cD
  unfold B at*
  generalize q*v=p at*
  omega
 obtain⟨h1,h2,h3⟩:=h1
 generalize bz (bz (q*v)+c)=l at*
 generalize cD (bX (q*v)) (bX (bz (q*v)+c))=k at*
 have h4:dT u l w+l+w=u+B*eY u l w/\dT u l w<B/\eY u l w<=1:=by
  unfold dT eY
  unfold B at*
  split<;>omega
 obtain⟨h4,h5,h6⟩:=h4
 refine⟨?_,h5,h2,h6,h3⟩
 rw[oH]
 omega
theorem Yj8{l w:Nat}(hl:l<B)(hu:u<B)(hw:w<=1):dT u l w+l+w=u+B*eY u l w/\dT u l w<B/\eY u l w<=1:=by
 unfold dT eY
 unfold B at*
 split<;>omega
theorem WA{v c:Nat}(hv:v<B)(hu:u<B)(hc:c<=1):bz (u+v+c)+B*bX (u+v+c)=u+v+c/\bz (u+v+c)<B/\bX (u+v+c)<=1:=by
 unfold bz bX
 unfold B at*
 omega
theorem Hv{b:Nat}:∀{l:List Nat} {k old v:Nat},l[k]?=some old->val b (l.set k v)+b^k*old=val b l+b^k*v
 |[],k,old,v,h=>by simp at h
 |d::l,0,old,v,h=>by simp at h;subst h;simp[val];omega
 |d::l,k+1,old,v,h=>by
  have ih:=Hv (b:=b) (l:=l) (k:=k) (old:=old) (v:=v) (by simpa using h)
  simp only[List.set_cons_succ,val,fJ]
  generalize val b (l.set k v)=p at*
  generalize val b l=q at*
  generalize b^k=z at*
  have:b*(p+z*old)=b*(q+z*v):=by rw[ih]
  grind
theorem Dg.pj(h:Dg l){k v:Nat}(hv:v<B):Dg (l.set k v):=by
 intro d hd
 rcases zl hd with hd|hd
 ·exact h d hd
 ·subst hd;exact hv
theorem Yol{W U t c t' e:Nat}(hb:1<b)(hP:0<P)(hY:Y<P)(hU:U<P)(ht:t'<b)(he:e<=1)(h1:U+q*Y=W+P*c)(h2:t'+c=t+b*e)(fl:(q-1)*Y<=W+P*t)(fQ:W+P*t<(q+1)*Y):
  (e=0->U+P*t'+q*Y=W+P*t/\U+P*t'<Y/\t'=0)/\(e=1->0<q/\U+P*t'+q*Y=W+P*t+P*b/\W+P*t<q*Y):=by
 have h3:P*t'+P*c=P*t+P*(b*e):=by rw[<-oH,h2,oH]
 constructor
 ·rintro rfl
  simp only[Nat.mul_zero,jR]at h3
  have h4:U+P*t'+q*Y=W+P*t:=by omega
  have h5:U+P*t'<Y:=by rw[jG]at fQ;omega
  refine⟨h4,h5,?_⟩
  rcases Bn t' with h|h
  ·exact h
  ·have:=jc P h
   omega
 ·rintro rfl
  simp only[tk]at h3
  have h4:U+P*t'+q*Y=W+P*t+P*b:=by omega
  have h5:P*(t'+1)<=P*b:=jc _ ht
  rw[oH]at h5
  have h6:W+P*t<q*Y:=by omega
  refine⟨?_,h4,h6⟩
  rcases Bn q with h|h
  ·subst h;omega
  ·exact h
theorem Ylr{U t' T A c:Nat}(hP:0<P)(hY:Y<P)(hA:A<P)(hc:c<=1)(ht:t'<b)(hq:0<q)(h1:U+P*t'+q*Y=T+P*b)(h2:T<q*Y)(fl:(q-1)*Y<=T)(h3:A+P*c=U+Y):
  A+(q-1)*Y=T/\A<Y/\(t'+c)%b=0:=by
 obtain⟨s,rfl⟩:∃s,q=s+1:=⟨q-1,by omega⟩
 simp only[Nat.add_sub_cancel]at*
 rw[jG]at h1 h2
 have h4:A+P*(t'+c)+s*Y=T+P*b:=by rw[oH];omega
 have h5:t'+c=b:=by
  rcases Nat.lt_trichotomy (t'+c) b with h|h|h
  ·have:=jc P (show t'+c+1<=b from h)
   rw[oH P (t'+c)]at this
   omega
  ·exact h
  ·omega
 rw[h5]at h4
 refine⟨by omega,by omega,?_⟩
 rw[h5,Nat.mod_self]
theorem Hp:∀{k n:Nat},B^k<=n->n<B^(k+1)->(aD n).length=k+1/\(aD n)[k]?=some (n/B^k)
 |0,n,h1,h2=>by
  have h0:n≠0:=by
   rw[zL]at h1;omega
  rw[j0 h0]
  have h3:n/B=0:=uK (by simpa using h2)
  rw[h3,nG]
  simp
  exact sK (by simpa using h2)
 |k+1,n,h1,h2=>by
  have hB:0<B:=by decide
  have hp:0<B^(k+1):=uL hB
  have h0:n≠0:=by omega
  have h3:B^k<=n/B:=(DR hB).2 (by rw[<-fJ];exact h1)
  have h4:n/B<B^(k+1):=(mq hB).2 (by rw[<-fJ];exact h2)
  obtain⟨e1,e2⟩:=Hp h3 h4
  rw[j0 h0]
  refine⟨by simp[e1],?_⟩
  rw[zE,e2,Bj,fJ,gX (B^k)]
theorem Xb{n:Nat}(h:(aD n).length≠0):n≠0:=by
 rintro rfl
 exact h (by rw[nG];rfl)
theorem Cv:∀{k n:Nat},(aD n).length=k+1->B^k<=n/\n<B^(k+1)
 |0,n,h=>by
  have h0:=Xb (n:=n) (by omega)
  rw[j0 h0]at h
  have h1:(aD (n/B)).length=0:=by simpa using h
  have h2:n/B=0:=by
   by_cases hc:n/B=0
   ·exact hc
   ·rw[j0 hc]at h1;simp at h1
  have:=(Nat.div_eq_zero_iff).1 h2
  rcases this with hb|hb
  ·exact absurd hb (by decide)
  ·simp;omega
 |k+1,n,h=>by
  have h0:=Xb (n:=n) (by omega)
  rw[j0 h0]at h
  obtain⟨h1,h2⟩:=Cv (k:=k) (n:=n/B) (by simpa using h)
  have hB:0<B:=by decide
  exact⟨by rw[fJ];exact(DR hB).1 h1,by rw[fJ];exact(mq hB).1 h2⟩
theorem Yev{t s:Nat}(hl:(aD b).length=k+1)(ht:(aD b)[k]?=some t)(h1:9223372036854775808<=t*2^s)(h2:t*2^s<18446744073709551616)(hs:s<=64):
  (aD (b*2^s)).length=k+1/\∃v1,(aD (b*2^s))[k]?=some v1/\9223372036854775808<=v1:=by
 obtain⟨b1,b2⟩:=Cv hl
 have hp:0<B^k:=uL (by decide)
 have ml:=oG s
 have Xc:t=b/B^k:=by
  have:=(Hp b1 b2).2
  rw[ht]at this
  exact pq this
 have b3:t*B^k<=b:=by rw[Xc];exact Nat.div_mul_le_self _ _
 have b4:b<(t+1)*B^k:=by
  rw[Xc]
  exact(mq hp).1 (qk _)
 have c1:9223372036854775808*B^k<=b*2^s:=by
  have e1:=kl (B^k) h1
  have e2:=kl (2^s) b3
  have e3:t*2^s*B^k=t*B^k*2^s:=by grind
  omega
 have c2:b*2^s<B^(k+1):=by
  have e0:t+1<=2^(64-s):=by
   have:t<2^(64-s):=by
    apply Nat.lt_of_mul_lt_mul_right (a:=2^s)
    rw[<-jr,show 64-s+s=64 by omega];exact h2
   omega
  have e1:=kl (2^s) e0
  rw[<-jr,show 64-s+s=64 by omega]at e1
  have e2:=FL b4 ml
  have e3:=kl (B^k) e1
  have e4:(t+1)*2^s*B^k=(t+1)*B^k*2^s:=by grind
  rw[fJ,gX]
  have e5:(2^64:Nat)*B^k=B^k*B:=by unfold B;rw[gX]
  rw[gX b]at e2
  omega
 have c0:B^k<=b*2^s:=by omega
 obtain⟨d1,d2⟩:=Hp c0 c2
 exact⟨d1,_,d2,(DR hp).2 c1⟩
theorem Yad{U:List Nat}{la m s:Nat}(hU:val B U=a*2^s)(hl:U.length=la+1)(hm:m+k+1=la+1)(nZ:m<=U.length)(ha:a<B^la)(hs:s<64)(hv:9223372036854775808<=v1)(hY:v1*B^k<=Y):val B (U.drop m)<Y:=by
 have h1:=AE B U m nZ
 have h2:B^m*val B (U.drop m)<B^la*2^s:=by
  have:=FL ha (oG s)
  omega
 have h3:(2:Nat)^s<=9223372036854775808:=(oE (by decide) (show s<=63 by omega):(2:Nat)^s<=2^63)
 have h4:B^la=B^m*B^k:=by rw[<-jr];congr 1;omega
 rw[h4,zK]at h2
 have h5:=Nat.lt_of_mul_lt_mul_left h2
 have h6:=jc (B^k) h3
 have h7:=jc (B^k) hv
 rw[gX v1]at hY
 omega
end Go.Mx
