/-
  num.Frac: Cmp, Text.
-/
import Derived.Test.YtlbophlgohokkaaGreatDoorNcE
import Derived.Test.YtlbophlgohokkaaGreatDoorMxRg
import Derived.Test.YtlbophlgohokkaaGreatDoorNbA
set_option linter.all false
namespace Go.Mx
open Go Go.Proofs
set_option maxHeartbeats 2000000
set_option maxRecDepth 1000000
def A.b252:aq:=sr [bx 2 114 0,bx 3 114 1,mc 4 0]
 (.seq (.aS [fa 5 0 2,lN 6 2 5,fa 7 2 3,lN 8 2 7,c2 9 157 6 8,fa 10 0 3,lN 11 2 10,fa 12 2 2,lN 13 2 12,c2 14 157 11 13,c2 15 217 9 14,mv 4 15] [0,1,0,4,15,0,32,0,128,511,1023,2047])
 (.ret))
theorem A.c252:A.F 252=some ⟨16,[.tmp 4],A.b252⟩:=by kernel_rfl
def A.k252:=@A.kk 252 _ _ _ A.c252 rfl
def A.b107:aq:=sr [bx 1 114 0,⟨(some 2),.aZ (.const (.str [])),none⟩]
 (.seq (sr [lN 3 4 1,c1 4 171 3]
 (cd 4
 (sr [fa 5 0 1,lN 6 2 5,c1 7 172 6,mv 2 7]
 (.ret))
 (.skip)))
 (.seq (.aS [fa 8 0 1,lN 9 2 8,c1 10 172 9,⟨(some 11),.bin .add (.node []) false (.tmp 10) (.const (.str [47])),none⟩,fa 12 2 1,lN 13 2 12,c1 14 172 13,bi 15 .add 11 14,mv 2 15] [0,1,3,7,0,16,55,127,255])
 (.ret)))
theorem A.c107:A.F 107=some ⟨16,[.tmp 2],A.b107⟩:=by kernel_rfl
def A.k107:=@A.kk 107 _ _ _ A.c107 rfl
theorem Yl9{x y:V}{p q:Rat}{h:T O}{N:Nat}(hx:Fc h N x p)(hy:Fc h N y q)(l1:wl p.num<1000000)(l2:wl (p.den:Nat)<1000000)(l3:wl q.num<1000000)(l4:wl (q.den:Nat)<1000000):Fn A.C 252 [x,y] h N (fun v _ _=>v=.int .i64 (dK (p.num*(q.den:Nat)-q.num*(p.den:Nat)))):=by
 intro w
 rw[aP,A.k252 (by simp)]
 obtain⟨n1,u1,n2,u2,rfl,s1,s2⟩:=hx
 obtain⟨n3,u3,n4,u4,rfl,s3,s4⟩:=hy
 have o1:=cZ s1
 have o2:=cZ s2
 have o3:=cZ s3
 have o4:=cZ s4
 unfold V.one at o1 o2 o3 o4
 have kB:ab h N ((h.set N (.cells [.int .i64 n1,u1,.int .i64 n2,u2] 114 true)).set (N+1) (.cells [.int .i64 n3,u3,.int .i64 n4,u4] 114 true)) (N+2):=aJ (aJ ab.refl _) _
 simp[A.b252,aO,aM,o1,o2,o3,o4]
 generalize gH:(h.set N (.cells [.int .i64 n1,u1,.int .i64 n2,u2] 114 true)).set (N+1) (.cells [.int .i64 n3,u3,.int .i64 n4,u4] 114 true)=hB at*
 have b1:hB.get N=some (.cells [.int .i64 n1,u1,.int .i64 n2,u2] 114 true):=by rw[<-gH];simp
 have b2:hB.get (N+1)=some (.cells [.int .i64 n3,u3,.int .i64 n4,u4] 114 true):=by rw[<-gH];simp
 refine ax (vV (s1.ad kB) (s4.ad kB) (by omega) (by omega)) ?_
 rintro v5 h1 m1 k1 q1
 have ep:=k1.le
 have f1:=(k1.get N (by omega)).trans b1
 have f2:=(k1.get (N+1) (by omega)).trans b2
 have e1:N<m1:=by omega
 have e2:N+1<m1:=by omega
 simp[f1,f2,e1,e2,aO,aM]
 refine ax (vV ((s3.ad kB).ad k1) ((s2.ad kB).ad k1) (by omega) (by omega)) ?_
 rintro v6 h2 m2 k2 q2
 have fH:=k2.le
 simp[]
 refine ax (Xi (q1.ad k2) q2 ?_ ?_) ?_
 ·have:=yW p.num ((q.den:Nat):Int)
  omega
 ·have:=yW q.num ((p.den:Nat):Int)
  omega
 ·rintro _ h3 m3 k3 rfl
  simp[dn.dp,aA]
  exact((kB.trans k1).trans k2).trans k3
theorem Yjx{x:V}{q:Rat}{h:T O}{N:Nat}(hx:Fc h N x q)(hP:jn h N)(l1:(cO q.num.natAbs).length<1000000)(l2:(cO q.den).length<1000000):Fn A.C 107 [x] h N (fun v _ _=>v=.str (aN q)):=by
 intro w
 rw[aP,A.k107 (by simp)]
 have lC:=hx
 obtain⟨n1,u1,n2,u2,rfl,s1,s2⟩:=hx
 have o1:=cZ s1
 have o2:=cZ s2
 unfold V.one at o1 o2
 have kB:=aJ (ab.refl (h:=h) (n:=N)) (.cells [.int .i64 n1,u1,.int .i64 n2,u2] 114 true)
 simp[A.b107,aO,aM,o1,o2]
 generalize gH:h.set N (.cells [.int .i64 n1,u1,.int .i64 n2,u2] 114 true)=hB at*
 have b1:hB.get N=some (.cells [.int .i64 n1,u1,.int .i64 n2,u2] 114 true):=by rw[<-gH];simp
 refine ax (RG (lC.ad kB)) ?_
 rintro _ h1 m1 k1 rfl
 have ep:=k1.le
 have f1:=(k1.get N (by omega)).trans b1
 have kk:=kB.trans k1
 by_cases c1:q.den=1
 ·simp[c1,f1,aO,aM]
  refine ax (Lt (s1.ad kk) (hP.ad kk) (by omega)) ?_
  rintro _ h2 m2 k2 rfl
  simp[aA,aN,c1]
  exact kk.trans k2
 ·have l0:N<m1:=by omega
  simp[c1,f1,l0,aO,aM]
  refine ax (Lt (s1.ad kk) (hP.ad kk) (by omega)) ?_
  rintro _ h2 m2 k2 rfl
  have fH:=k2.le
  have Ig:=kk.trans k2
  have f2:=(k2.get N (by omega)).trans f1
  have l3:N<m2:=by omega
  have dh:IntKind.max .i64=9223372036854775807:=rfl
  have hS1:(aK q.num).length<2000000:=by
   have h1:(ak q.num.natAbs).length<=(cO q.num.natAbs).length+1:=by unfold ak;split<;>simp
   unfold aK
   split<;>simp<;>omega
  have hS2:(ak q.den).length<2000000:=by
   have h1:(ak q.den).length<=(cO q.den).length+1:=by unfold ak;split<;>simp
   omega
  have jx:aN q=aK q.num++47::ak q.den:=by unfold aN;rw[ar c1]
  have RH:aK ((q.den:Nat):Int)=ak q.den:=by unfold aK;rw[ar (by omega)];rfl
  rw[jx]
  generalize aK q.num=S1 at*
  have g1:¬(9223372036854775807:Int)<(S1.length:Int)+1:=by omega
  simp[f2,l3,fM,dh,g1,aO,aM]
  refine ax (Lt (s2.ad Ig) (hP.ad Ig) (by rw[dN];omega)) ?_
  rintro _ h3 m3 k3 rfl
  rw[RH]
  generalize ak q.den=S2 at*
  have g2:¬(9223372036854775807:Int)<(S1.length:Int)+1+(S2.length:Int):=by omega
  simp[fM,dh,g2,dn.dp,aA]
  exact Ig.trans k3
variable {q:Rat}
set_option maxHeartbeats 4000000
def A.zbW:aq:=.seq (.aS [fa 17 0 2,lN 18 2 17,fa 19 2 3,lN 20 2 19,c2 21 157 18 20,fa 22 0 3,lN 23 2 22,fa 24 2 2,lN 25 2 24,c2 26 157 23 25,c2 27 192 21 26,fa 28 2 2,lN 29 2 28,fa 30 2 3,lN 31 2 30,c2 32 157 29 31,c2 33 156 27 32,⟨none,.store 4 (.tmp 4) (.tmp 33),none⟩] [0,1,0,4,15,0,32,0,128,511,1023,0,2048,0,8192,32767,65535,131071])
 (.ret)
def A.b120:aq:=sr [bx 2 114 0,bx 3 114 1,⟨(some 4),.alloc [(.int .i64 0),.aa,(.int .i64 0),.aa] 114,none⟩]
 (.seq (sr [lN 5 4 2,c1 6 171 5,mv 7 6,⟨(some 8),.load (some 4) (.tmp 3),(some (7,true))⟩,⟨(some 9),.call (.const (.func 171 [] [])) [(.tmp 8)],(some (7,true))⟩,pf 10 7 9]
 (cd 10
 (sr [fa 11 0 2,lN 12 2 11,fa 13 0 3,lN 14 2 13,c2 15 192 12 14,c1 16 189 15,⟨none,.store 4 (.tmp 4) (.tmp 16),none⟩]
 (.ret))
 (.skip)))
 A.zbW)
theorem A.c120:A.F 120=some ⟨34,[.cell 4 (some 4)],A.b120⟩:=by kernel_rfl
def A.k120:=@A.kk 120 _ _ _ A.c120 rfl
theorem RI(h:q.den=1):q=(q.num:Rat):=by
 apply Rat.ext
 ·simp
 ·simp[h]
theorem Yj{H:T O}{N n:Nat}{W:List Nat}{r:T V}{p:Rat}{n1 n2 n3 n4:Int}{u1 u2 u3 u4:V}(hn:N+3<=n)(hW:au N W=[])(b1:H.get N=some (.cells [.int .i64 n1,u1,.int .i64 n2,u2] 114 true))(b2:H.get (N+1)=some (.cells [.int .i64 n3,u3,.int .i64 n4,u4] 114 true))(b3:H.get (N+2)=some (.cells [.int .i64 0,.aa,.int .i64 0,.aa] 114 true))
  (s1:In H n (.agg [.int .i64 n1,u1]) p.num) (s2:In H n (.agg [.int .i64 n2,u2]) (p.den:Nat)) (s3:In H n (.agg [.int .i64 n3,u3]) q.num) (s4:In H n (.agg [.int .i64 n4,u4]) (q.den:Nat)) (l1:wl p.num<1000000) (l2:wl (p.den:Nat)<1000000) (l3:wl q.num<1000000) (l4:wl (q.den:Nat)<1000000) (a2:r.get 2=some (.ptr N 0)) (a3:r.get 3=some (.ptr (N+1) 0)) (a4:r.get 4=some (.ptr (N+2) 0)):
  Code A.C none A.zbW ⟨r,34,[]⟩ ⟨H,n,W⟩ (fun e fr st=>e=.ret/\∃r',fr=⟨r',34,[]⟩/\r'.get 4=some (.ptr (N+2) 0)/\Lu H N (p+q) st):=by
 rw[bn]
 have o1:=cZ s1
 have o2:=cZ s2
 have o3:=cZ s3
 have o4:=cZ s4
 unfold V.one at o1 o2 o3 o4
 have z1:N<n:=by omega
 have z2:N+1<n:=by omega
 simp[A.zbW,a2,a3,b1,b2,z1,z2,aO,aM]
 refine ax (vV s1 s4 (by omega) (by omega)) ?_
 rintro v5 h1 m1 k1 q1
 have ep:=k1.le
 have f1:=(k1.get N (by omega)).trans b1
 have f2:=(k1.get (N+1) (by omega)).trans b2
 have f3:=(k1.get (N+2) (by omega)).trans b3
 have e1:N<m1:=by omega
 have e2:N+1<m1:=by omega
 simp[a2,a3,f1,f2,e1,e2,aO,aM]
 refine ax (vV (s3.ad k1) (s2.ad k1) (by omega) (by omega)) ?_
 rintro v6 h2 m2 k2 q2
 have fH:=k2.le
 have w1:=yW p.num ((q.den:Nat):Int)
 have w2:=yW q.num ((p.den:Nat):Int)
 have w3:=yW ((p.den:Nat):Int) ((q.den:Nat):Int)
 have w4:=QO (p.num*((q.den:Nat):Int)) (q.num*((p.den:Nat):Int))
 simp[]
 refine ax (HN (q1.ad k2) q2 (by omega) (by omega)) ?_
 rintro v7 h3 m3 k3 q3
 have iV:=k3.le
 have k13:=(k1.trans k2).trans k3
 have f4:=(k13.get N (by omega)).trans b1
 have f5:=(k13.get (N+1) (by omega)).trans b2
 have e3:N<m3:=by omega
 have e4:N+1<m3:=by omega
 simp[a2,a3,f4,f5,e3,e4,aO,aM]
 refine ax (vV (s2.ad k13) (s4.ad k13) (by omega) (by omega)) ?_
 rintro v8 h4 m4 k4 q4
 have pk:=k4.le
 have k14:=k13.trans k4
 have hd:((p.den:Nat):Int)*((q.den:Nat):Int)≠0:=by
  have:=p.den_nz
  have:=q.den_nz
  exact DQ (by omega) (by omega)
 simp[]
 refine ax (M1 (q3.ad k4) q4 hd (by omega) (by omega)) ?_
 rintro v9 h5 m5 k5 hv
 have nQ:((p.den:Nat):Int)≠0:=by have:=p.den_nz;omega
 have nP:((q.den:Nat):Int)≠0:=by have:=q.den_nz;omega
 rw[<-Rat.divInt_add_divInt _ _ nQ nP,wP,wP]at hv
 obtain⟨n5,u5,n6,u6,rfl,t1,t2⟩:=hv
 have o5:=cZ t1
 have o6:=cZ t2
 unfold V.one at o5 o6
 have CM:=k5.le
 have k15:=k14.trans k5
 have f6:=(k15.get (N+2) (by omega)).trans b3
 have e5:N+2<m5:=by omega
 simp[a4,f6,e5,ag,bL,o5,o6,dn.dp]
 have l8:¬N+2<N:=by omega
 refine⟨by simp[au,hW,l8],fun i hi=>?_,by show N+3<=m5;omega,n5,u5,n6,u6,by show T.get (T.set _ _ _) _=_;rw[T.ah,aF rfl],n5,u5,n6,u6,rfl,t1.aE (i:=N+2) f6 j_ rfl,t2.aE (i:=N+2) f6 j_ rfl⟩
 show T.get (T.set _ _ _) _=_
 rw[T.ah,ar (by omega),k15.get i (by omega)]
theorem Ymb{x y:V}{p:Rat}{h:T O}{N:Nat}(hx:Fc h N x p)(hy:Fc h N y q)(l1:wl p.num<1000000)(l2:wl (p.den:Nat)<1000000)(l3:wl q.num<1000000)(l4:wl (q.den:Nat)<1000000):Fn A.C 120 [x,y] h N (fun v h' n'=>Fc h' n' v (p+q)):=by
 intro w
 rw[aP,A.k120 (by simp)]
 have lC:=hx
 have qZ:=hy
 obtain⟨n1,u1,n2,u2,rfl,s1,s2⟩:=hx
 obtain⟨n3,u3,n4,u4,rfl,s3,s4⟩:=hy
 have o1:=cZ s1
 have o2:=cZ s2
 have o3:=cZ s3
 have o4:=cZ s4
 unfold V.one at o1 o2 o3 o4
 have kB:ab h N (((h.set N (.cells [.int .i64 n1,u1,.int .i64 n2,u2] 114 true)).set (N+1) (.cells [.int .i64 n3,u3,.int .i64 n4,u4] 114 true)).set (N+2) (.cells [.int .i64 0,.aa,.int .i64 0,.aa] 114 true)) (N+3):=aJ (aJ (aJ ab.refl _) _) _
 simp[A.b120,aO,aM,o1,o2,o3,o4]
 generalize gH:((h.set N (.cells [.int .i64 n1,u1,.int .i64 n2,u2] 114 true)).set (N+1) (.cells [.int .i64 n3,u3,.int .i64 n4,u4] 114 true)).set (N+2) (.cells [.int .i64 0,.aa,.int .i64 0,.aa] 114 true)=hB at*
 have b1:hB.get N=some (.cells [.int .i64 n1,u1,.int .i64 n2,u2] 114 true):=by rw[<-gH];simp
 have b2:hB.get (N+1)=some (.cells [.int .i64 n3,u3,.int .i64 n4,u4] 114 true):=by rw[<-gH];simp
 have b3:hB.get (N+2)=some (.cells [.int .i64 0,.aa,.int .i64 0,.aa] 114 true):=by rw[<-gH];simp
 refine ax (RG (lC.ad kB)) ?_
 rintro _ h0 m0 k0 rfl
 have zax:=k0.le
 have k0':=kB.trans k0
 have d1:=(k0.get N (by omega)).trans b1
 have d2:=(k0.get (N+1) (by omega)).trans b2
 have d3:=(k0.get (N+2) (by omega)).trans b3
 by_cases cp:p.den=1
 ·simp[cp,d2,aO,aM]
  refine ax (RG (qZ.ad k0')) ?_
  rintro _ h1 m1 k1 rfl
  have ep:=k1.le
  have g1:=(k1.get N (by omega)).trans d1
  have g2:=(k1.get (N+1) (by omega)).trans d2
  have g3:=(k1.get (N+2) (by omega)).trans d3
  have k1':=k0'.trans k1
  by_cases cq:q.den=1
  ·simp[cq,g1,g2,aO,aM]
   refine ax (HN (s1.ad k1') (s3.ad k1') (by omega) (by omega)) ?_
   rintro v5 h2 m2 k2 q1
   have fH:=k2.le
   simp[]
   refine ax (RB q1) ?_
   rintro _ h3 m3 k3 ⟨n5,u5,n6,u6,rfl,t1,t2⟩
   have o5:=cZ t1
   have o6:=cZ t2
   unfold V.one at o5 o6
   have iV:=k3.le
   have f5:=(k3.get (N+2) (by omega)).trans ((k2.get (N+2) (by omega)).trans g3)
   simp[f5,aO,aM,ag,bL,o5,o6,aA]
   have kk:=(k1'.trans k2).trans k3
   have mP:p+q=((p.num+q.num:Int):Rat):=by rw[RI cp,RI cq];simp
   rw[mP]
   exact⟨kk.set (by omega),n5,u5,n6,u6,rfl,t1.aE (i:=N+2) f5 j_ rfl,t2.aE (i:=N+2) f5 j_ rfl⟩
  ·simp[cq]
   refine iY (Yj (N:=N) (p:=p) (q:=q) (by omega) (by simp[au]) g1 g2 g3 (s1.ad k1') (s2.ad k1') (s3.ad k1') (s4.ad k1') l1 l2 l3 l4 (by simp) (by simp) (by simp)) ?_
   rintro e fr ⟨H6,n6,W6⟩ ⟨rfl,r6,rfl,c4,q1,q2,q3,m5,v5,m6,v6,q4,q5⟩
   simp only at q1 q2 q3 q4 q5
   simp[c4,q4,aO,aM,aA,q1]
   exact⟨⟨by omega,fun i hi=>(q2 i hi).trans (k1'.get i hi)⟩,q5⟩
 ·simp[cp]
  refine iY (Yj (N:=N) (p:=p) (q:=q) (by omega) (by simp[au]) d1 d2 d3 (s1.ad k0') (s2.ad k0') (s3.ad k0') (s4.ad k0') l1 l2 l3 l4 (by simp) (by simp) (by simp)) ?_
  rintro e fr ⟨H6,n6,W6⟩ ⟨rfl,r6,rfl,c4,q1,q2,q3,m5,v5,m6,v6,q4,q5⟩
  simp only at q1 q2 q3 q4 q5
  simp[c4,q4,aO,aM,aA,q1]
  exact⟨⟨by omega,fun i hi=>(q2 i hi).trans (k0'.get i hi)⟩,q5⟩
set_option maxHeartbeats 2000000
def A.b146:aq:=sr [⟨(some 2),.alloc [(.int .i64 0),.aa,(.int .i64 0),.aa] 114,none⟩]
 (sr [mv 7 0,⟨(some 8),.call (.const (.func 210 [] [])) [(.tmp 7),(.const (.str [47]))],none⟩,mv 6 8,xt 9 6 0,xt 10 6 1,xt 11 6 2,mv 3 9,mv 4 10,mv 5 11]
 (.seq (sr [mv 12 5,⟨(some 13),.un .not (.tmp 12),none⟩]
 (cd 13
 (sr [mv 14 3,c1 15 211 14,c1 16 189 15,⟨none,.store 4 (.tmp 2) (.tmp 16),none⟩]
 (.ret))
 (.skip)))
 (sr [mv 17 3,c1 18 211 17,mv 19 4,c1 20 211 19,⟨(some 21),.build [(.int .i64 0),.aa,(.int .i64 0),.aa] [(0,2,(.tmp 18)),(2,2,(.tmp 20))],none⟩,⟨none,.store 4 (.tmp 2) (.tmp 21),none⟩]
 (.ret))))
theorem A.c146:A.F 146=some ⟨22,[.cell 2 (some 4)],A.b146⟩:=by kernel_rfl
def A.k146:=@A.kk 146 _ _ _ A.c146 rfl
theorem RJ{z:Int}{h:T O}{N:Nat}(hl:(aK z).length<=100000):Fn A.C 211 [.str (aK z)] h N (fun v h' n'=>In h' n' v z):=by
 have hb:(ak z.natAbs).length<=100000:=by
  unfold aK at hl
  split at hl<;>(try simp at hl)<;>omega
 have:=XG (s:=aK z) (h:=h) (N:=N) (by rw[EB];exact tR _) (by rw[EB];exact hb)
 rw[EA,EB,yI]at this
 have e:(if decide (z<0)=true then -(z.natAbs:Int) else (z.natAbs:Int))=z:=by
  by_cases hz:z<0<;>simp[hz]<;>omega
 rw[e]at this
 exact this
theorem Yl5{q:Rat}{h:T O}{N:Nat}(l1:(aK q.num).length<=100000)(l2:(ak q.den).length<=100000):Fn A.C 146 [.str (aN q)] h N (fun v h' n'=>Fc h' n' v q):=by
 intro w
 have hc:=fun st=>XO (s:=aN q) (st:=st) (by unfold aN;split<;>(try simp)<;>omega)
 rw[GV]at hc
 have kB:=aJ (ab.refl (h:=h) (n:=N)) (.cells [.int .i64 0,.aa,.int .i64 0,.aa] 114 true)
 rw[aP,A.k146 (by simp)]
 by_cases c1:q.den=1
 ·have aB:¬ae (aN q)<(aN q).length:=fun hx=>(yJ q).1 hx c1
  simp[A.b146,hc,aB]
  refine ax (RJ l1) ?_
  rintro v1 h1 m1 k1 q1
  simp[]
  refine ax (RB q1) ?_
  rintro _ h3 m3 k3 ⟨n5,u5,n6,u6,rfl,t1,t2⟩
  have o5:=cZ t1
  have o6:=cZ t2
  unfold V.one at o5 o6
  have ep:=k1.le
  have iV:=k3.le
  have kk:=(kB.trans k1).trans k3
  have f5:=((k1.trans k3).get N (by omega))
  rw[T.ah,aF rfl]at f5
  simp[f5,aO,aM,ag,bL,o5,o6,aA]
  rw[RI c1]
  exact⟨kk.set (by omega),n5,u5,n6,u6,rfl,t1.aE f5 j_ rfl,t2.aE f5 j_ rfl⟩
 ·have aB:ae (aN q)<(aN q).length:=(yJ q).2 c1
  have hd:=GW q c1
  have RH:ak q.den=aK ((q.den:Nat):Int):=by unfold aK;rw[ar (by omega)];rfl
  rw[RH]at l2 hd
  simp[A.b146,hc,aB,hd]
  refine ax (RJ l1) ?_
  rintro v1 h1 m1 k1 q1
  simp[]
  refine ax (RJ l2) ?_
  rintro v2 h2 m2 k2 q2
  obtain⟨n5,u5,rfl,vZ⟩:=q1.cells
  obtain⟨n6,u6,rfl,CT⟩:=q2.cells
  have o5:=vZ
  have o6:=CT
  unfold V.one at o5 o6
  have ep:=k1.le
  have fH:=k2.le
  have kk:=(kB.trans k1).trans k2
  have f5:=((k1.trans k2).get N (by omega))
  rw[T.ah,aF rfl]at f5
  simp[f5,aO,aM,ag,bL,o5,o6,aA]
  exact⟨kk.set (by omega),n5,u5,n6,u6,rfl,(q1.ad k2).aE f5 j_ rfl,q2.aE f5 j_ rfl⟩
variable {N k:Nat} {h:T O} {q:Rat} {x:V} {z:Int}
def A.b128:aq:=sr [bx 1 114 0,mc 2 0]
 (sr [fa 3 0 1,lN 4 2 3,c1 5 199 4,mv 2 5]
 (.ret))
theorem A.c128:A.F 128=some ⟨6,[.tmp 2],A.b128⟩:=by kernel_rfl
def A.k128:=@A.kk 128 _ _ _ A.c128 rfl
def A.b106:aq:=sr [bx 1 114 0,⟨(some 2),.aZ (.const (.bool false)),none⟩]
 (sr [fa 3 0 1,lN 4 2 3,c1 5 170 4,mv 6 5,⟨(some 7),.ec 2 (.tmp 1),(some (6,false))⟩,⟨(some 8),.load (some 2) (.tmp 7),(some (6,false))⟩,⟨(some 9),.call (.const (.func 170 [] [])) [(.tmp 8)],(some (6,false))⟩,pt 10 6 9,mv 2 10]
 (.ret))
theorem A.c106:A.F 106=some ⟨11,[.tmp 2],A.b106⟩:=by kernel_rfl
def A.k106:=@A.kk 106 _ _ _ A.c106 rfl
def A.b170:aq:=sr [bx 1 112 0,⟨(some 2),.aZ (.const (.bool false)),none⟩]
 (sr [lN 3 2 1,c1 4 239 3,bc 5 .gtr 4 1800,mv 6 5,⟨(some 7),.load (some 2) (.tmp 1),(some (6,true))⟩,⟨(some 8),.call (.const (.func 172 [] [])) [(.tmp 7)],(some (6,true))⟩,⟨(some 9),.call (.const (.func 240 [] [])) [(.tmp 8),(.const (.str [45]))],(some (6,true))⟩,⟨(some 10),.len 0 (.tmp 9),(some (6,true))⟩,⟨(some 11),.bin .gtr (.node []) false (.tmp 10) (.const (.int .i64 600)),(some (6,true))⟩,pf 12 6 11,mv 2 12]
 (.ret))
theorem A.c170:A.F 170=some ⟨13,[.tmp 2],A.b170⟩:=by kernel_rfl
def A.k170:=@A.kk 170 _ _ _ A.c170 rfl
def A.b239:aq:=sr [bx 1 112 0,mc 2 0]
 (sr [lN 6 2 1,c1 7 222 6,mv 5 7,xt 8 5 0,xt 9 5 1,mv 3 8,mv 4 9]
 (.seq (sr [mv 10 4,ln 11 10,ei 12 11 0]
 (cd 12
 (sr [mc 2 0]
 (.ret))
 (.skip)))
 (sr [mv 13 4,ln 14 13,bc 15 .sub 14 1,⟨(some 16),.bin .mul (.node []) false (.const (.int .i64 64)) (.tmp 15),none⟩,mv 17 4,mv 18 4,ln 19 18,bc 20 .sub 19 1,ia 21 1 17 20,ld 22 21,c1 23 268 22,bi 24 .add 16 23,mv 2 24]
 (.ret))))
theorem A.c239:A.F 239=some ⟨25,[.tmp 2],A.b239⟩:=by kernel_rfl
def A.k239:=@A.kk 239 _ _ _ A.c239 rfl
theorem Fc.parts(s:Fc h N x q):∃n1 u1 n2 u2,x=.agg [.int .i64 n1,u1,.int .i64 n2,u2]/\In h N (.agg [.int .i64 n1,u1]) q.num/\In h N (.agg [.int .i64 n2,u2]) (q.den:Int)/\V.one u1=true/\V.one u2=true:=by
 obtain⟨n1,u1,n2,u2,rfl,s1,s2⟩:=s
 exact⟨n1,u1,n2,u2,rfl,s1,s2,cZ s1,cZ s2⟩
theorem SZ(hx:Fc h N x q):Fn A.C 128 [x] h N (fun v _ _=>v=.int .i64 (dK q.num)):=by
 intro w
 obtain⟨n1,u1,n2,u2,rfl,s1,s2,o1,o2⟩:=hx.parts
 unfold V.one at o1 o2
 rw[aP,A.k128 (by simp)]
 have k0:=(ab.refl (h:=h) (n:=N)).new (.cells [.int .i64 n1,u1,.int .i64 n2,u2] 114 true)
 simp[A.b128,aO,aM,o1,o2]
 refine ax (CE (s1.ad k0)) ?_
 rintro _ h1 m1 k1 rfl
 simp[aA]
 exact k0.trans k1
theorem Yh5{n d:Nat}(hk:(aD n).length=k+1)(hd:(aD n)[k]?=some d):n<2^(64*k+a_ d):=by
 have h1:=j9 n
 have h2:=Ax (b:=B) hd
 rw[fN (by omega),h1]at h2
 have h3:val B ((aD n).take k)<B^k:=by
  have:=Ay (b:=B) (l:=(aD n).take k) (fun x hx=>nH n x (uC hx))
  rw[gK,mw (by omega)]at this;exact this
 have h4:d+1<=2^a_ d:=KQ d
 have h5:B^k*(d+1)<=B^k*2^a_ d:=jc _ h4
 have h6:B^k=2^(64*k):=by rw[Nat.pow_mul];rfl
 rw[jr,<-h6]
 rw[oH]at h5
 omega
theorem Zug{n b:Nat}(h:600<(ak n).length)(hb:n<2^b):1800<b:=by
 apply Classical.byContradiction
 intro hc
 obtain⟨M,hM⟩:∃M:Nat,M=600:=⟨_,rfl⟩
 have h1:n<2^(3*M):=dZ hb (GY (by omega))
 have h2:(2:Nat)^(3*M)<=10^M:=by
  rw[Nat.pow_mul]
  exact Bm (by decide) _
 have h3:=(Jn (n:=n) (k:=M) (by omega)).2 (dZ h1 h2)
 omega
theorem Ym1(hx:In h N x z)(hl:wl z<10000000):Fn A.C 239 [x] h N (fun v _ _=>∃b:Nat,v=.int .i64 b/\z.natAbs<2^b):=by
 intro w
 obtain⟨n,u,rfl,hu⟩:=hx.cells
 have kJ:=hu
 unfold V.one at kJ
 have k0:=(ab.refl (h:=h) (n:=N)).new (.cells [.int .i64 n,u] 112 true)
 rw[aP,A.k239 (by simp)]
 simp[A.b239,aO,aM,kJ]
 refine ax (yV (hx.ad k0)) ?_
 rintro _ h1 m1 k1 ⟨u2,rfl,hw⟩
 have hlen:=Sl.len hw
 rw[bC]at hlen
 by_cases h0:(aD z.natAbs).length=0
 ·rw[h0]at hlen
  have hz:z.natAbs=0:=by
   have:=j9 z.natAbs
   rw[nU h0]at this
   simpa[val]using this.symm
  simp[hlen,aA]
  exact⟨k0.trans k1,0,rfl,by omega⟩
 ·obtain⟨k,hk⟩:∃k,(aD z.natAbs).length=k+1:=⟨(aD z.natAbs).length-1,by omega⟩
  rw[hk]at hlen
  obtain⟨d,hd⟩:=bs (l:=aD z.natAbs) (k:=k) (by omega)
  obtain⟨i,o,c,e,rw,q1,q2,q3,q4⟩:=Sl.at hw (eP hd)
  have K0:d<18446744073709551616:=(nH _).get hd
  have nZ:k+1<10000000:=by
   have:=hl
   unfold wl at this
   omega
  have Pb:a_ d<=64:=by
   apply Classical.byContradiction
   intro hc
   have h1:d≠0:=fun h=>by rw[h]at hc;simp[a_]at hc
   have h2:=EK h1
   have h3:=GY (j:=64) (k:=a_ d-1) (by omega)
   have h4:(2:Nat)^64=18446744073709551616:=by decide
   omega
  have c1:¬((k:Int)+1=0):=by omega
  have c2:bk .i64 ((k:Int)+1-1)=(k:Int):=by rw[ct (by omega) (by omega)];omega
  have c3:bk .i64 (64*(k:Int))=64*(k:Int):=ct (by omega) (by omega)
  have c4:bk .i64 (64*(k:Int)+(a_ d:Nat))=64*(k:Int)+(a_ d:Nat):=ct (by omega) (by omega)
  have c5:(k:Int)<(k:Int)+1:=by omega
  simp(disch:=omega) [hlen,c1,c3,q1,q3,q4]
  refine ax (Ql K0) ?_
  rintro _ h2 m2 k2 ⟨rfl,rfl,rfl⟩
  simp[c4,aA]
  exact⟨k0.trans k1,64*k+a_ d,by simp,Yh5 hk hd⟩
theorem Yk(hx:In h N x z)(hP:jn h N)(hl:wl z<10000000)(hd:(cO z.natAbs).length<1000000):Fn A.C 170 [x] h N (fun v _ _=>v=.bool (decide (600<(ak z.natAbs).length))):=by
 intro w
 obtain⟨n,u,rfl,hu⟩:=hx.cells
 have kJ:=hu
 unfold V.one at kJ
 have k0:=(ab.refl (h:=h) (n:=N)).new (.cells [.int .i64 n,u] 112 true)
 have g0:(h.set N (.cells [.int .i64 n,u] 112 true)).get N=some (.cells [.int .i64 n,u] 112 true):=by rw[T.ah,aF rfl]
 rw[aP,A.k170 (by simp)]
 simp[A.b170,aO,aM,kJ]
 refine ax (Ym1 (hx.ad k0) hl) ?_
 rintro _ h1 m1 k1 ⟨b,rfl,hb⟩
 have g1:=(k1.get N (by omega)).trans g0
 by_cases hbb:1800<b
 ·have CX:(1800:Int)<(b:Int):=by omega
  simp[CX,g1,aO,aM]
  refine ax (Lt ((hx.ad k0).ad k1) ((hP.ad k0).ad k1) (by omega)) ?_
  rintro _ h2 m2 k2 rfl
  have ht:=fun st=>XH (s:=aK z) (st:=st)
  rw[EB]at ht
  simp[ht,aA]
  exact⟨(k0.trans k1).trans k2,by omega⟩
 ·have CX:¬(1800:Int)<(b:Int):=by omega
  have FA:¬600<(ak z.natAbs).length:=fun hc=>hbb (Zug hc hb)
  simp[CX,FA,aA]
  exact k0.trans k1
theorem Jd(h:z.natAbs<2^k):wl z<=k:=by
 have:=AM (dZ h (Bm (by decide) k))
 unfold wl at this ⊢
 rwa [dN]at this
theorem Ydg(hx:Fc h N x q)(hP:jn h N)(hq:Qb k q)(hk:k<=400000):Fn A.C 106 [x] h N (fun v _ _=>v=.bool (tj q)):=by
 intro w
 obtain⟨n1,u1,n2,u2,rfl,s1,s2,o1,o2⟩:=hx.parts
 unfold V.one at o1 o2
 have k0:=(ab.refl (h:=h) (n:=N)).new (.cells [.int .i64 n1,u1,.int .i64 n2,u2] 114 true)
 have g0:(h.set N (.cells [.int .i64 n1,u1,.int .i64 n2,u2] 114 true)).get N=some (.cells [.int .i64 n1,u1,.int .i64 n2,u2] 114 true):=by rw[T.ah,aF rfl]
 have l1:=GZ hq.1
 have l2:=GZ hq.2
 have z1:=Jd hq.1
 have z2:=Jd (z:=(q.den:Int)) (k:=k) (by rw[dN];exact hq.2)
 rw[aP,A.k106 (by simp)]
 simp[A.b106,aO,aM,o1,o2]
 refine ax (Yk (s1.ad k0) (hP.ad k0) (by omega) (by omega)) ?_
 rintro _ h1 m1 k1 rfl
 have g1:=(k1.get N (by omega)).trans g0
 unfold tj
 by_cases c1:600<(ak q.num.natAbs).length
 ·simp[c1,aA]
  exact k0.trans k1
 ·simp[c1,g1,aO,aM]
  refine ax (Yk ((s2.ad k0).ad k1) ((hP.ad k0).ad k1) (by omega) (by rw[dN];omega)) ?_
  rintro _ h2 m2 k2 rfl
  simp[aA]
  exact(k0.trans k1).trans k2
variable {N:Nat} {h:T O} {l:List Rat} {q:Rat} {v:V}
set_option maxHeartbeats 1000000
def A.zch:aq:=sr [bi 12 .lss 11 10]
 (.seq (cd 12
 (.skip)
 (.exit 0))
 (.seq (.block 1 (sr [mv 13 11,ia 14 1 9 11,ld 15 14,mv 4 13,mv 5 15]
 (.aL [mv 16 3,mv 17 4,mv 18 5,c1 19 146 18,ia 20 4 16 17,⟨none,.store 4 (.tmp 20) (.tmp 19),none⟩])))
 (.aL [bc 21 .add 11 1,mv 11 21])))
def A.b72:aq:=sr [mN 2]
 (sr [mv 6 0,ln 7 6,⟨(some 8),.bD 114 4 64 [(.int .i64 0),.aa,(.int .i64 0),.aa] (.tmp 7) (.tmp 7),none⟩,mv 3 8]
 (.seq (sr [mv 9 0,ln 10 9,mc 11 0]
 (.block 0 (.loop A.zch)))
 (sr [mv 22 3,mv 2 22]
 (.ret))))
theorem A.c72:A.F 72=some ⟨23,[.tmp 2],A.b72⟩:=by kernel_rfl
def A.k72:=@A.kk 72 _ _ _ A.c72 rfl
def A.zbX:aq:=sr [bi 12 .lss 11 10]
 (.seq (cd 12
 (.skip)
 (.exit 0))
 (.seq (.block 1 (sr [mv 13 11,ia 14 4 9 11,lN 15 4 14,⟨(some 5),.alloc [(.int .i64 0),.aa,(.int .i64 0),.aa] 114,none⟩,mv 4 13,⟨none,.store 4 (.tmp 5) (.tmp 15),none⟩]
 (.aL [mv 16 3,mv 17 4,lN 18 4 5,c1 19 107 18,ia 20 1 16 17,so 20 19])))
 (.aL [bc 21 .add 11 1,mv 11 21])))
def A.b152:aq:=sr [mN 2]
 (sr [mv 6 0,ln 7 6,⟨(some 8),.bD 36 1 16 [(.str [])] (.tmp 7) (.tmp 7),none⟩,mv 3 8]
 (.seq (sr [mv 9 0,ln 10 9,mc 11 0]
 (.block 0 (.loop A.zbX)))
 (sr [mv 22 3,mv 2 22]
 (.ret))))
theorem A.c152:A.F 152=some ⟨23,[.tmp 2],A.b152⟩:=by kernel_rfl
def A.k152:=@A.kk 152 _ _ _ A.c152 rfl
def eQ(h:T O)(N:Nat)(c:List V)(q:Rat):Prop:=∃n1 u1 n2 u2,c=[.int .i64 n1,u1,.int .i64 n2,u2]/\In h N (.agg [.int .i64 n1,u1]) q.num/\In h N (.agg [.int .i64 n2,u2]) (q.den:Int)
theorem eQ.ad{h':T O}{N':Nat}{c:List V}(s:eQ h N c q)(k:ab h N h' N'):eQ h' N' c q:=by
 obtain⟨n1,u1,n2,u2,rfl,s1,s2⟩:=s
 exact⟨n1,u1,n2,u2,rfl,s1.ad k,s2.ad k⟩
theorem eQ.fc{c:List V}(s:eQ h N c q):Fc h N (.agg c) q:=by
 obtain⟨n1,u1,n2,u2,rfl,s1,s2⟩:=s
 exact⟨n1,u1,n2,u2,rfl,s1,s2⟩
theorem Fc.c{x:V}(s:Fc h N x q):∃c,x=.agg c/\eQ h N c q:=by
 obtain⟨n1,u1,n2,u2,rfl,s1,s2⟩:=s
 exact⟨_,rfl,n1,u1,n2,u2,rfl,s1,s2⟩
def pW(c:List V):Prop:=∀x∈c,∀m,x≠.int .u64 m
theorem Yl{n:Int}{u:V}{z:Int}(s:In h N (.agg [.int .i64 n,u]) z):∀m,u≠.int .u64 m:=by
 rcases s with⟨h1,_⟩|⟨i,o,l,c,h1,_⟩
 ·simp at h1;rw[h1.2];simp
 ·simp at h1;rw[h1.2];simp
theorem eQ.S0{c:List V}(s:eQ h N c q):pW c:=by
 obtain⟨n1,u1,n2,u2,rfl,s1,s2⟩:=s
 intro x hx m
 simp at hx
 rcases hx with rfl|rfl|rfl|rfl
 ·simp
 ·exact Yl s1 m
 ·simp
 ·exact Yl s2 m
theorem eQ.len{c:List V}(s:eQ h N c q):c.length=4/\c.all V.one=true:=by
 obtain⟨n1,u1,n2,u2,rfl,s1,s2⟩:=s
 have o1:=cZ s1
 have o2:=cZ s2
 exact⟨rfl,by simp only[List.all_cons,List.all_nil,o1,o2,Bool.and_true];rfl⟩
theorem eQ.aE{i:Nat}{c c0 c1:List V}{e0 e1:TypeId}{w0 w1:Bool}(s:eQ h N c q)(g:h.get i=some (.cells c0 e0 w0))(hn:pW c0)(hc:c1.length=c0.length):eQ (h.set i (.cells c1 e1 w1)) N c q:=by
 obtain⟨n1,u1,n2,u2,rfl,s1,s2⟩:=s
 exact⟨n1,u1,n2,u2,rfl,s1.aE g hn hc,s2.aE g hn hc⟩
def nO(h:T O)(N:Nat)(v:V)(l:List Rat):Prop:=∃cs:List (List V),Sn 4 h N v cs/\cs.length=l.length/\∀(j:Nat) (q:Rat),l[j]?=some q->∃c,cs[j]?=some c/\eQ h N c q
theorem nO.ad{h':T O}{N':Nat}(s:nO h N v l)(k:ab h N h' N'):nO h' N' v l:=by
 obtain⟨cs,h1,h2,h3⟩:=s
 refine⟨cs,h1.ad k,h2,fun j q hq=>?_⟩
 obtain⟨c,g1,g2⟩:=h3 j q hq
 exact⟨c,g1,g2.ad k⟩
theorem nO.len(s:nO h N v l):kq v=some l.length:=by
 obtain⟨cs,h1,h2,_⟩:=s
 rw[h1.len,h2]
theorem nO.at(s:nO h N v l){j:Nat}{q:Rat}(hj:l[j]?=some q):∃i o x e rw c,tK v=some (i,o)/\i<N/\h.get i=some (.cells x e rw)/\aM x (o+j*4) 4=some c/\eQ h N c q:=by
 obtain⟨cs,h1,h2,h3⟩:=s
 obtain⟨c,h4,h5⟩:=h3 j q hj
 obtain⟨i,o,x,e,rw,q1,q2,q3,q4⟩:=h1.at h4
 exact⟨i,o,x,e,rw,c,q1,q2,q3,q4,h5⟩
def jA(h:T O)(N:Nat)(v:V)(l:List Rat):Prop:=nO h N v l/\∀i∈dj v,∃z w,h.get i=some (.cells z 114 w)
def tx(l:List Rat):List V:=strs (l.map aN)
theorem tl(l:List Rat):(tx l).length=l.length:=by simp[tx,strs]
theorem wz{j:Nat}(h:l[j]?=some q):(tx l)[j]?=some (.str (aN q)):=by simp[tx,strs,h]
def zF:List V:=[.int .i64 0,.aa,.int .i64 0,.aa]
theorem AP{z:List V}{n:Nat}:cj z (n+1)=z++cj z n:=by
 unfold cj
 rw[Nat.succ_mul,Nat.add_comm (n*z.length),List.range_add,List.map_append,List.map_map]
 congr 1
 ·apply iW
  intro j
  by_cases hj:j<z.length
  ·rw[iX,FK hj]
   simp[sK hj,hj]
  ·rw[eG (by simp;omega),eG (by omega)]
 ·apply uj
  intro i _
  simp[Nat.add_mod_left]
theorem Ih{a b c x:List V}{n o:Nat}(ha:a.length=o)(hb:b.length=n)(hx:x.length=n):ag (a++(b++c)) o x=a++(x++c):=by
 unfold ag
 rw[<-ha,List.take_left,hx,<-List.drop_drop,List.drop_left,<-hb,List.drop_left,nT]
structure Ym (h:T O) (N:Nat) (l:List Rat) (m:Nat) (r:T V) (st:St):Prop where
 w:au N st.w=[]
 ad:ab h N st.h st.n
 ex:∃(k:Nat) (cs:List (List V)),k+m=l.length/\r.get 11=some (.int .i64 k)/\r.get 3=some (.slice N 0 l.length (some l.length) 4)/\N<st.n/\st.h.get N=some (.cells (cs.flatten++cj zF m) 114 true)/\cs.length=k/\∀(j:Nat) (q:Rat),j<k->l[j]?=some q->∃c,cs[j]?=some c/\eQ st.h st.n c q
theorem Ii{cs:List (List V)}(hl:cs.length<=l.length)(hc:∀(j:Nat) (q:Rat),j<cs.length->l[j]?=some q->∃c,cs[j]?=some c/\eQ h N c q):(∀c∈cs,c.length=4)/\pW cs.flatten/\cs.flatten.all V.one=true:=by
 have key:∀c∈cs,∃q,eQ h N c q:=fun c vH=>by
  obtain⟨j,hj⟩:=xP vH
  have aB:=kc hj
  obtain⟨q,hq⟩:=bs (l:=l) (k:=j) (by omega)
  obtain⟨c',h1,h2⟩:=hc j q aB hq
  rw[hj]at h1
  simp only[ai]at h1
  subst h1
  exact⟨q,h2⟩
 refine⟨fun c vH=>?_,fun x hx m=>?_,?_⟩
 ·obtain⟨q,hq⟩:=key c vH;exact hq.len.1
 ·obtain⟨c,vH,CY⟩:=List.mem_flatten.1 hx
  obtain⟨q,hq⟩:=key c vH
  exact hq.S0 x CY m
 ·rw[lM]
  intro x hx
  obtain⟨c,vH,CY⟩:=List.mem_flatten.1 hx
  obtain⟨q,hq⟩:=key c vH
  exact lM.1 hq.len.2 x CY
theorem Ij:∀{n:Nat},pW (cj zF n)
 |0=>by intro x hx;simp[cj]at hx
 |n+1=>by
  intro x hx m
  rw[AP]at hx
  rcases pw.1 hx with hx|hx
  ·simp[zF]at hx
   rcases hx with rfl|rfl|rfl|rfl<;>simp
  ·exact Ij x hx m
theorem pW.app{a b:List V}(ha:pW a)(hb:pW b):pW (a++b):=fun x hx m=>by
 rcases pw.1 hx with hx|hx
 ·exact ha x hx m
 ·exact hb x hx m
theorem RK(n:Nat):(cj zF n).length=n*4:=by
 induction n with
 |zero=>simp[cj]
 |succ n ih=>rw[AP,fK,ih];simp[zF];omega
theorem Zzb{k0:Nat}(hs:Sl h N v (tx l))(hl:l.length<1000000)(hq:∀q∈l,Qb k0 q)(oV:k0<=4000):Fn A.C 72 [v] h N (fun u h' n'=>jA h' n' u l):=by
 intro w
 have hlen:=hs.len
 rw[tl]at hlen
 have c1:(64:Int)*(l.length:Int)<=140737488355328:=by omega
 have c2:(l.length:Int)<4611686018427387904:=by omega
 have kB:ab h N (h.set N (.cells (cj zF l.length) 114 true)) (N+1):=ab.refl.new _
 rw[aP,A.k72 (by simp)]
 simp[A.b72,hlen,c1,c2]
 refine bN [(4,5),(11,21)] (fun e r st=>e=.exit 0/\Ym h N l 0 r st) (Ym h N l) l.length ?_ ?_ ?_
 ·exact⟨by simp,kB,0,[],by omega,by simp,by simp,by show N<N+1;omega,by rw[T.ah,aF rfl];rfl,rfl,fun j q hj=>by omega⟩
 ·rintro m r ⟨H,n1,W⟩ hr hf ⟨hW,hK,k,cs,hk,iT,h3,lJ,hM,cr,i_⟩
  simp only at hW hK hM lJ i_
  rw[bn]
  cases m with
  |zero=>
   obtain rfl:k=l.length:=by omega
   simp[A.zch,hr,hf,iT]
   exact⟨hW,hK,l.length,cs,by omega,by simp[iT],by simp[h3],lJ,hM,cr,i_⟩
  |succ m=>
   have aB:k<l.length:=by omega
   have bj:(k:Int)<(l.length:Int):=by omega
   obtain⟨q,CZ⟩:=bs aB
   have jm:=hq q (cm CZ)
   obtain⟨i,o,cc,e,rw,q1,q2,q3,q4⟩:=(hs.ad hK).at (wz CZ)
   have la:=A5 jm.1
   have K9:=zp jm.2
   simp[A.zch,hr,iT,bj,hlen,q1,q3,q4]
   refine ax (Yl5 (q:=q) (by omega) (by omega)) ?_
   rintro _ H2 n2 k2 dX
   obtain⟨c,rfl,hc⟩:=dX.c
   have mT:=k2.le
   have fi:=hK.le
   have nJ:=(k2.get N lJ).trans hM
   have C0:∀(j:Nat) (q:Rat),j<cs.length->l[j]?=some q->∃c,cs[j]?=some c/\eQ H2 n2 c q:=fun j q hj hq=>by
    obtain⟨c,g1,g2⟩:=i_ j q (by omega) hq
    exact⟨c,g1,g2.ad k2⟩
   obtain⟨f1,f2,f3⟩:=Ii (l:=l) (by omega) C0
   have jv:=rO f1
   obtain⟨e1,e2⟩:=hc.len
   have fz:ag (cs.flatten++cj zF (m+1)) (k*4) c=(cs++[c]).flatten++cj zF m:=by
    rw[AP,Ih (n:=4) (by rw[jv,cr]) rfl e1,Ey,nT]
   have hb:k*4+4<=(cs.flatten++cj zF (m+1)).length:=by
    rw[fK,jv,RK];omega
   have jj:(V.agg c).cells=c:=rfl
   have v_:pW (cs.flatten++cj zF (m+1)):=f2.app Ij
   have lh:((cs++[c]).flatten++cj zF m).length=(cs.flatten++cj zF (m+1)).length:=by
    rw[AP,Ey];simp[e1,zF];omega
   generalize cs.flatten++cj zF (m+1)=X at*
   obtain⟨Y,hY⟩:∃Y,(cs++[c]).flatten++cj zF m=Y:=⟨_,rfl⟩
   rw[hY]at fz lh
   simp(disch:=first|(simp;done)|omega|(simp only[bC,cl,bq];omega)|rfl) [-V.cells, -V.one,hf,iT,nJ,bL,jj,e1,e2,hb,fz]
   have ix:¬N<N:=by omega
   refine⟨m,by omega,⟨by simp[au,hW],(hK.trans k2).set (aV N),k+1,cs++[c],by omega,by simp,by simp[h3],by show N<n2;omega,by show T.get _ N=_;rw[T.ah,aF rfl,hY],by simp[cr],fun j q' hj mU=>?_⟩⟩
   by_cases px:j<k
   ·obtain⟨c',g1,g2⟩:=i_ j q' px mU
    exact⟨c',by rw[jO (by omega)];exact g1,(g2.ad k2).aE nJ v_ lh⟩
   ·obtain rfl:j=k:=by omega
    rw[CZ]at mU
    simp only[ai]at mU
    subst mU
    exact⟨c,by rw[od (by omega),cr];simp,hc.aE nJ v_ lh⟩
 ·rintro _ r ⟨H,n1,W⟩ hr ⟨rfl,hW,hK,k,cs,hk,iT,h3,lJ,hM,cr,i_⟩
  simp only at hW hK hM lJ i_
  obtain rfl:k=l.length:=by omega
  simp[hr,aA,hW,hK]
  have hz:cj zF 0=[]:=by simp[cj]
  obtain⟨f1,_,_⟩:=Ii (l:=l) (by omega) (fun j q hj hq=>i_ j q (by omega) hq)
  have jv:=rO f1
  rw[hz,sJ]at hM
  refine⟨⟨cs,.inr ⟨N,0,some l.length,cs.flatten,_,true,by rw[cr],lJ,hM,fun j x hx=>by rw[qm];exact Ew f1 hx,by omega,fun k hk=>by simp at hk;omega⟩,cr,fun j q hq=>i_ j q (kc hq) hq⟩,fun i hi=>?_⟩
  simp[dj]at hi
  subst hi
  exact⟨_,_,hM⟩
structure Yn (h:T O) (N:Nat) (l:List Rat) (m:Nat) (r:T V) (st:St):Prop where
 w:au N st.w=[]
 ad:ab h N st.h st.n
 ex:∃(k:Nat),k+m=l.length/\r.get 11=some (.int .i64 k)/\r.get 3=some (.slice N 0 l.length (some l.length) 1)/\N<st.n/\st.h.get N=some (.cells (tx (l.take k)++List.replicate m (V.str [])) 36 true)
theorem Ye7{k0:Nat}(hs:nO h N v l)(hP:jn h N)(hl:l.length<1000000)(hq:∀q∈l,Qb k0 q)(oV:k0<=400000):Fn A.C 152 [v] h N (fun u h' n'=>Sl h' n' u (tx l)/\∀i∈dj u,∃z w,h'.get i=some (.cells z 36 w)):=by
 intro w
 have hlen:=hs.len
 have c1:(16:Int)*(l.length:Int)<=140737488355328:=by omega
 have c2:(l.length:Int)<4611686018427387904:=by omega
 have kB:ab h N (h.set N (.cells (cj [.str []] l.length) 36 true)) (N+1):=ab.refl.new _
 rw[aP,A.k152 (by simp)]
 simp[A.b152,hlen,c1,c2]
 refine bN [(4,5),(11,21)] (fun e r st=>e=.exit 0/\Yn h N l 0 r st) (Yn h N l) l.length ?_ ?_ ?_
 ·exact⟨by simp,kB,0,by omega,by simp,by simp,by show N<N+1;omega,by rw[T.ah,aF rfl,Jv];simp[tx,strs]⟩
 ·rintro m r ⟨H,n1,W⟩ hr hf ⟨hW,hK,k,hk,iT,h3,lJ,hM⟩
  simp only at hW hK hM lJ
  rw[bn]
  cases m with
  |zero=>
   obtain rfl:k=l.length:=by omega
   simp[A.zbX,hr,hf,iT]
   exact⟨hW,hK,l.length,by omega,by simp[iT],by simp[h3],lJ,hM⟩
  |succ m=>
   have aB:k<l.length:=by omega
   have bj:(k:Int)<(l.length:Int):=by omega
   obtain⟨q,CZ⟩:=bs aB
   have jm:=hq q (cm CZ)
   obtain⟨i,o,x,e,rw,c,q1,q2,q3,q4,q5⟩:=(hs.ad hK).at CZ
   obtain⟨rU,u1,l8,u2,rfl,s1,s2⟩:=q5
   have o1:=cZ s1
   have o2:=cZ s2
   unfold V.one at o1 o2
   have la:=GZ jm.1
   have K9:=GZ jm.2
   have fi:=hK.le
   have e4:ag [.int .i64 0,.aa,.int .i64 0,.aa] 0 [.int .i64 rU,u1,.int .i64 l8,u2]=[.int .i64 rU,u1,.int .i64 l8,u2]:=rfl
   have e5:aM [.int .i64 rU,u1,.int .i64 l8,u2] 0 4=some [.int .i64 rU,u1,.int .i64 l8,u2]:=rfl
   have kA:ab H n1 ((H.set n1 (.cells [.int .i64 0,.aa,.int .i64 0,.aa] 114 true)).set n1 (.cells [.int .i64 rU,u1,.int .i64 l8,u2] 114 true)) (n1+1):=(ab.refl.new _).set (aV _)
   simp[A.zbX,hr,iT,bj,hlen,q1,q3,q4,aO,bL,o1,o2,e4,e5]
   refine ax (Yjx (q:=q) (Fc.ad ⟨rU,u1,l8,u2,rfl,s1,s2⟩ kA) ((hP.ad hK).ad kA) (by omega) (by omega)) ?_
   rintro _ H2 n2 k2 rfl
   have mT:=k2.le
   have nJ:=(k2.get N (by omega)).trans ((kA.get N lJ).trans hM)
   have hb:k+1<=(tx (l.take k)++List.replicate (m+1) (V.str [])).length:=by
    rw[fK,tl,List.length_replicate,gK];omega
   have fz:ag (tx (l.take k)++List.replicate (m+1) (V.str [])) k [.str (aN q)]=tx (l.take (k+1))++List.replicate m (V.str []):=by
    have e1:(tx (l.take k)++List.replicate (m+1) (V.str []))=tx (l.take k)++([V.str []]++List.replicate m (V.str [])):=by rw[List.replicate_succ];rfl
    rw[e1,Ih (n:=1) (by rw[tl,gK];omega) rfl rfl,wA,CZ]
    simp[tx,strs]
   generalize tx (l.take k)++List.replicate (m+1) (V.str [])=X at*
   obtain⟨Y,hY⟩:∃Y,tx (l.take (k+1))++List.replicate m (V.str [])=Y:=⟨_,rfl⟩
   rw[hY]at fz
   simp(disch:=first|(simp;done)|omega|(simp only[bC,cl,bq];omega)|rfl) [hf,iT,nJ,bL,hb,fz]
   refine⟨m,by omega,⟨by simp[au,hW];omega,((hK.trans kA).trans k2).set (aV N),k+1,by omega,by simp,by simp[h3],by show N<n2;omega,by show T.get _ N=_;rw[T.ah,aF rfl,hY]⟩⟩
 ·rintro _ r ⟨H,n1,W⟩ hr ⟨rfl,hW,hK,k,hk,iT,h3,lJ,hM⟩
  simp only at hW hK hM lJ
  obtain rfl:k=l.length:=by omega
  rw[uv]at hM
  simp only[List.replicate_zero,sJ]at hM
  simp[hr,aA,hW,hK]
  exact⟨Sl.row lJ hM (tl l) (fun k hk=>by simp at hk;omega),fun i hi=>by simp[dj]at hi;subst hi;exact⟨_,.inr hM⟩⟩
variable {N:Nat} {h:T O} {l:List Rat} {m:List (List Rat)} {v:V}
def Yo(a b:List Rat):Nat->Rat
 |0=>0
 |k+1=>Yo a b k+a[k]?.getD 0*b[k]?.getD 0
theorem Qb.zero:Qb 1 0:=⟨by decide,by decide⟩
theorem Fo{l:List Rat}{k:Nat}(h:∀q∈l,Qb k q)(hk:1<=k)(j:Nat):Qb k (l[j]?.getD 0):=by
 cases hj:l[j]? with
 |none=>exact Qb.zero.mono hk
 |some q=>exact h q (cm hj)
def Tx(h:T O)(N:Nat)(v:V)(l:List Rat):Prop:=Sl h N v (tx l)
theorem Tx.ad{h':T O}{N':Nat}(s:Tx h N v l)(k:ab h N h' N'):Tx h' N' v l:=Sl.ad s k
theorem Tx.len(s:Tx h N v l):kq v=some l.length:=by
 have:=Sl.len s
 rwa [tl]at this
def iO(h:T O)(N:Nat)(v:V)(m:List (List Rat)):Prop:=∃us:List V,Sl h N v us/\us.length=m.length/\∀(j:Nat) (l:List Rat),m[j]?=some l->∃u,us[j]?=some u/\Tx h N u l
theorem iO.ad{h':T O}{N':Nat}(s:iO h N v m)(k:ab h N h' N'):iO h' N' v m:=by
 obtain⟨us,h1,h2,h3⟩:=s
 refine⟨us,h1.ad k,h2,fun j l hl=>?_⟩
 obtain⟨u,g1,g2⟩:=h3 j l hl
 exact⟨u,g1,g2.ad k⟩
theorem iO.len(s:iO h N v m):kq v=some m.length:=by
 obtain⟨us,h1,h2,_⟩:=s
 rw[h1.len,h2]
theorem iO.at(s:iO h N v m){j:Nat}{l:List Rat}(hj:m[j]?=some l):∃i o c e rw u,tK v=some (i,o)/\i<N/\h.get i=some (.cells c e rw)/\c[o+j]?=some u/\Tx h N u l:=by
 obtain⟨us,h1,h2,h3⟩:=s
 obtain⟨u,g1,g2⟩:=h3 j l hj
 obtain⟨i,o,c,e,rw,q1,q2,q3,q4⟩:=h1.at g1
 exact⟨i,o,c,e,rw,u,q1,q2,q3,q4,g2⟩
end Go.Mx
