/-num-/
import Derived.Test.YteoackkadadmdaaGreatDoorNcC
set_option linter.all false
namespace Go.Mx
open Go Go.Proofs
set_option maxHeartbeats 2000000
set_option maxRecDepth 1000000
def A.b86:av:=sr [bx 2 103 0,bx 3 103 1,ge 4 (.alloc [.int .i64 0,.aa,.int .i64 0,.aa] 103)]
 (.seq (.aX [fa 5 0 2,lN 6 2 5,fa 7 0 3,lN 8 2 7,c2 9 148 6 8,fa 10 2 2,lN 11 2 10,fa 12 2 3,lN 13 2 12,c2 14 148 11 13,c2 15 147 9 14,gn (.store 4 (tq 4) (tq 15))] [0,1,0,4,15,0,32,0,128,511,1023,2047])
 (.ret))
def A.c86:A.F 86=some ⟨16,[.cell 4 (some 4)],A.b86⟩:=by kernel_rfl
def A.k86:=@A.kk 86 _ _ _ A.c86 rfl
def Qh{x y:V}{p q:Rat}{h:T O}{N:Nat}(hx:Fc h N x p)(hy:Fc h N y q)(l1:wl p.num<1000000000)(l2:wl (p.den:Nat)<1000000000)(l3:wl q.num<1000000000)(l4:wl (q.den:Nat)<1000000000):Fn A.C 86 [x,y] h N (fun v h' n'=>Fc h' n' v (p*q)):=by
 intro w
 rw[aO,A.k86 (by simp)]
 obtain⟨n1,u1,n2,u2,rfl,s1,s2⟩:=hx
 obtain⟨n3,u3,n4,u4,rfl,s3,s4⟩:=hy
 have o1:=dN s1
 have o2:=dN s2
 have o3:=dN s3
 have o4:=dN s4
 unfold V.one at o1 o2 o3 o4
 have kB:ab h N (((h.set N (.cells [.int .i64 n1,u1,.int .i64 n2,u2] 103 true)).set (N+1) (.cells [.int .i64 n3,u3,.int .i64 n4,u4] 103 true)).set (N+2) (.cells [.int .i64 0,.aa,.int .i64 0,.aa] 103 true)) (N+3):=aP (aP (aP ab.refl _) _) _
 simp[A.b86,aS,aE,o1,o2,o3,o4]
 generalize jH:((h.set N (.cells [.int .i64 n1,u1,.int .i64 n2,u2] 103 true)).set (N+1) (.cells [.int .i64 n3,u3,.int .i64 n4,u4] 103 true)).set (N+2) (.cells [.int .i64 0,.aa,.int .i64 0,.aa] 103 true)=hB at*
 have b1:hB.get N=some (.cells [.int .i64 n1,u1,.int .i64 n2,u2] 103 true):=by rw[<-jH];simp
 have b2:hB.get (N+1)=some (.cells [.int .i64 n3,u3,.int .i64 n4,u4] 103 true):=by rw[<-jH];simp
 have b3:hB.get (N+2)=some (.cells [.int .i64 0,.aa,.int .i64 0,.aa] 103 true):=by rw[<-jH];simp
 refine aA (CS (s1.ae kB) (s3.ae kB) (by omega) (by omega)) ?_
 rintro v5 h1 m1 k1 q1
 have fl:=k1.le
 have f1:=(k1.get N (by omega)).trans b1
 have f2:=(k1.get (N+1) (by omega)).trans b2
 have f3:=(k1.get (N+2) (by omega)).trans b3
 have e1:N<m1:=by omega
 have e2:N+1<m1:=by omega
 simp[f1,f2,e1,e2,aS,aE]
 refine aA (CS ((s2.ae kB).ae k1) ((s4.ae kB).ae k1) (by omega) (by omega)) ?_
 rintro v6 h2 m2 k2 q2
 have gX:=k2.le
 have f4:=(k2.get (N+2) (by omega)).trans f3
 simp[]
 have hd:((p.den:Nat):Int)*((q.den:Nat):Int)≠0:=by
  have:=p.den_nz
  have:=q.den_nz
  exact Is (by omega) (by omega)
 refine aA (Xc (q1.ae k2) q2 hd ?_ ?_) ?_
 ·have:=Hk p.num q.num
  omega
 ·have:=Hk ((p.den:Nat):Int) ((q.den:Nat):Int)
  omega
 ·rintro v7 h3 m3 k3 hv
  rw[<-Rat.divInt_mul_divInt,Dx,Dx]at hv
  obtain⟨n5,u5,n6,u6,rfl,t1,t2⟩:=hv
  have o5:=dN t1
  have o6:=dN t2
  unfold V.one at o5 o6
  have jd:=k3.le
  have f5:=(k3.get (N+2) (by omega)).trans f4
  have e3:N+2<m3:=by omega
  simp[f5,e3,aS,aE,ad,bO,o5,o6,cA.cB,az]
  have kk:=((kB.trans k1).trans k2).trans k3
  exact⟨kk.set (by omega),n5,u5,n6,u6,rfl,t1.aK (i:=N+2) f5 oa rfl,t2.aK (i:=N+2) f5 oa rfl⟩
def Xf{x:V}{q:Rat}{h:T O}{N:Nat}(hx:Fc h N x q):Fn A.C 144 [x] h N (fun v _ _=>v=.bool (decide (q.den=1))):=by
 intro w
 rw[aO,A.k144 (by simp)]
 obtain⟨n1,u1,n2,u2,rfl,s1,s2⟩:=hx
 have o1:=dN s1
 have o2:=dN s2
 unfold V.one at o1 o2
 rcases s2 with⟨e0,_,_⟩|⟨i,o,l,c,e0,_,hz⟩
 ·simp only[V.agg.injEq,iO,V.int.injEq,true_and,and_true]at e0
  obtain⟨rfl,rfl⟩:=e0
  by_cases c1:q.den=1
  ·have c2:((q.den:Nat):Int)=1:=by omega
   simp[A.b144,aS,o1,aI,c1,az]
   exact aP ab.refl _
  ·have c2:¬((q.den:Nat):Int)=1:=by omega
   simp[A.b144,aS,o1,aI,c1,c2,az]
   exact aP ab.refl _
 ·simp only[V.agg.injEq,iO,V.int.injEq,true_and,and_true]at e0
  obtain⟨rfl,rfl⟩:=e0
  have c1:¬q.den=1:=by omega
  simp[A.b144,aS,o1,aI,c1,az]
  exact aP ab.refl _
set_option maxHeartbeats 2000000
def A.b88:av:=sr [bx 1 103 0,ge 2 (.ba (.const (.str [])))]
 (.seq (sr [lN 3 4 1,c1 4 144 3]
 (cd 4
 (sr [fa 5 0 1,lN 6 2 5,c1 7 152 6,mv 2 7]
 (.ret))
 (.skip)))
 (.seq (.aX [fa 8 0 1,lN 9 2 8,c1 10 152 9,ge 11 (.bin .add (.node []) false (tq 10) (.const (.str [47]))),fa 12 2 1,lN 13 2 12,c1 14 152 13,bi 15 .add 11 14,mv 2 15] [0,1,3,7,0,16,55,127,255])
 (.ret)))
def A.c88:A.F 88=some ⟨16,[.tmp 2],A.b88⟩:=by kernel_rfl
def A.k88:=@A.kk 88 _ _ _ A.c88 rfl
def Ylo{x:V}{q:Rat}{h:T O}{N:Nat}(hx:Fc h N x q)(hP:kJ h N)(l1:(di q.num.natAbs).length<1000000000)(l2:(di q.den).length<1000000000):Fn A.C 88 [x] h N (fun v _ _=>v=.str (a_ q)):=by
 intro w
 rw[aO,A.k88 (by simp)]
 have oM:=hx
 obtain⟨n1,u1,n2,u2,rfl,s1,s2⟩:=hx
 have o1:=dN s1
 have o2:=dN s2
 unfold V.one at o1 o2
 have kB:=aP (ab.refl (h:=h) (n:=N)) (.cells [.int .i64 n1,u1,.int .i64 n2,u2] 103 true)
 simp[A.b88,aS,aE,o1,o2]
 generalize jH:h.set N (.cells [.int .i64 n1,u1,.int .i64 n2,u2] 103 true)=hB at*
 have b1:hB.get N=some (.cells [.int .i64 n1,u1,.int .i64 n2,u2] 103 true):=by rw[<-jH];simp
 refine aA (Xf (oM.ae kB)) ?_
 rintro _ h1 m1 k1 rfl
 have fl:=k1.le
 have f1:=(k1.get N (by omega)).trans b1
 have kk:=kB.trans k1
 by_cases c1:q.den=1
 ·simp[c1,f1,aS,aE]
  refine aA (Qf (s1.ae kk) (hP.ae kk) (by omega)) ?_
  rintro _ h2 m2 k2 rfl
  simp[az,a_,c1]
  exact kk.trans k2
 ·have l0:N<m1:=by omega
  simp[c1,f1,l0,aS,aE]
  refine aA (Qf (s1.ae kk) (hP.ae kk) (by omega)) ?_
  rintro _ h2 m2 k2 rfl
  have gX:=k2.le
  have Mz:=kk.trans k2
  have f2:=(k2.get N (by omega)).trans f1
  have l3:N<m2:=by omega
  have dh:IntKind.max .i64=9223372036854775807:=rfl
  have hS1:(aN q.num).length<2000000000:=by
   have h1:(aq q.num.natAbs).length<=(di q.num.natAbs).length+1:=by unfold aq;split<;>simp
   unfold aN
   split<;>simp<;>omega
  have hS2:(aq q.den).length<2000000000:=by
   have h1:(aq q.den).length<=(di q.den).length+1:=by unfold aq;split<;>simp
   omega
  have kY:a_ q=aN q.num++47::aq q.den:=by unfold a_;rw[ar c1]
  have Xg:aN ((q.den:Nat):Int)=aq q.den:=by unfold aN;rw[ar (by omega)];rfl
  rw[kY]
  generalize aN q.num=S1 at*
  have g1:¬(9223372036854775807:Int)<(S1.length:Int)+1:=by omega
  simp[f2,l3,gO,dh,g1,aS,aE]
  refine aA (Qf (s2.ae Mz) (hP.ae Mz) (by rw[dJ];omega)) ?_
  rintro _ h3 m3 k3 rfl
  rw[Xg]
  generalize aq q.den=S2 at*
  have g2:¬(9223372036854775807:Int)<(S1.length:Int)+1+(S2.length:Int):=by omega
  simp[gO,dh,g2,cA.cB,az]
  exact Mz.trans k3
variable {q:Rat}
set_option maxHeartbeats 4000000
def A.vE:av:=.seq (.aX [fa 17 0 2,lN 18 2 17,fa 19 2 3,lN 20 2 19,c2 21 148 18 20,fa 22 0 3,lN 23 2 22,fa 24 2 2,lN 25 2 24,c2 26 148 23 25,c2 27 146 21 26,fa 28 2 2,lN 29 2 28,fa 30 2 3,lN 31 2 30,c2 32 148 29 31,c2 33 147 27 32,gn (.store 4 (tq 4) (tq 33))] [0,1,0,4,15,0,32,0,128,511,1023,0,2048,0,8192,32767,65535,131071])
 (.ret)
def A.b79:av:=sr [bx 2 103 0,bx 3 103 1,ge 4 (.alloc [.int .i64 0,.aa,.int .i64 0,.aa] 103)]
 (.seq (sr [lN 5 4 2,c1 6 144 5,mv 7 6,gy 8 7 (.load (some 4) (tq 3)),gy 9 7 (.call (fq 144) [tq 8]),pf 10 7 9]
 (cd 10
 (sr [fa 11 0 2,lN 12 2 11,fa 13 0 3,lN 14 2 13,c2 15 146 12 14,c1 16 145 15,gn (.store 4 (tq 4) (tq 16))]
 (.ret))
 (.skip)))
 A.vE)
def A.c79:A.F 79=some ⟨34,[.cell 4 (some 4)],A.b79⟩:=by kernel_rfl
def A.k79:=@A.kk 79 _ _ _ A.c79 rfl
def Xh(h:q.den=1):q=(q.num:Rat):=by
 apply Rat.ext
 ·simp
 ·simp[h]
def Yt8{H:T O}{N n:Nat}{W:List Nat}{r:T V}{p:Rat}{n1 n2 n3 n4:Int}{u1 u2 u3 u4:V}(hn:N+3<=n)(hW:ax N W=[])(b1:H.get N=some (.cells [.int .i64 n1,u1,.int .i64 n2,u2] 103 true))(b2:H.get (N+1)=some (.cells [.int .i64 n3,u3,.int .i64 n4,u4] 103 true))(b3:H.get (N+2)=some (.cells [.int .i64 0,.aa,.int .i64 0,.aa] 103 true))
  (s1:In H n (.agg [.int .i64 n1,u1]) p.num) (s2:In H n (.agg [.int .i64 n2,u2]) (p.den:Nat)) (s3:In H n (.agg [.int .i64 n3,u3]) q.num) (s4:In H n (.agg [.int .i64 n4,u4]) (q.den:Nat)) (l1:wl p.num<1000000000) (l2:wl (p.den:Nat)<1000000000) (l3:wl q.num<1000000000) (l4:wl (q.den:Nat)<1000000000) (a2:r.get 2=some (.ptr N 0)) (a3:r.get 3=some (.ptr (N+1) 0)) (a4:r.get 4=some (.ptr (N+2) 0)):
  Code A.C none A.vE ⟨r,34,[]⟩ ⟨H,n,W⟩ (fun e fr st=>e=.ret/\∃r',fr=⟨r',34,[]⟩/\r'.get 4=some (.ptr (N+2) 0)/\Qg H N (p+q) st):=by
 rw[bq]
 have o1:=dN s1
 have o2:=dN s2
 have o3:=dN s3
 have o4:=dN s4
 unfold V.one at o1 o2 o3 o4
 have z1:N<n:=by omega
 have z2:N+1<n:=by omega
 simp[A.vE,a2,a3,b1,b2,z1,z2,aS,aE]
 refine aA (CS s1 s4 (by omega) (by omega)) ?_
 rintro v5 h1 m1 k1 q1
 have fl:=k1.le
 have f1:=(k1.get N (by omega)).trans b1
 have f2:=(k1.get (N+1) (by omega)).trans b2
 have f3:=(k1.get (N+2) (by omega)).trans b3
 have e1:N<m1:=by omega
 have e2:N+1<m1:=by omega
 simp[a2,a3,f1,f2,e1,e2,aS,aE]
 refine aA (CS (s3.ae k1) (s2.ae k1) (by omega) (by omega)) ?_
 rintro v6 h2 m2 k2 q2
 have gX:=k2.le
 have w1:=Hk p.num ((q.den:Nat):Int)
 have w2:=Hk q.num ((p.den:Nat):Int)
 have w3:=Hk ((p.den:Nat):Int) ((q.den:Nat):Int)
 have w4:=Xi (p.num*((q.den:Nat):Int)) (q.num*((p.den:Nat):Int))
 simp[]
 refine aA (Mi (q1.ae k2) q2 (by omega) (by omega)) ?_
 rintro v7 h3 m3 k3 q3
 have jd:=k3.le
 have k13:=(k1.trans k2).trans k3
 have f4:=(k13.get N (by omega)).trans b1
 have f5:=(k13.get (N+1) (by omega)).trans b2
 have e3:N<m3:=by omega
 have e4:N+1<m3:=by omega
 simp[a2,a3,f4,f5,e3,e4,aS,aE]
 refine aA (CS (s2.ae k13) (s4.ae k13) (by omega) (by omega)) ?_
 rintro v8 h4 m4 k4 q4
 have tm:=k4.le
 have k14:=k13.trans k4
 have hd:((p.den:Nat):Int)*((q.den:Nat):Int)≠0:=by
  have:=p.den_nz
  have:=q.den_nz
  exact Is (by omega) (by omega)
 simp[]
 refine aA (Xc (q3.ae k4) q4 hd (by omega) (by omega)) ?_
 rintro v9 h5 m5 k5 hv
 have sI:((p.den:Nat):Int)≠0:=by have:=p.den_nz;omega
 have rO:((q.den:Nat):Int)≠0:=by have:=q.den_nz;omega
 rw[<-Rat.divInt_add_divInt _ _ sI rO,Dx,Dx]at hv
 obtain⟨n5,u5,n6,u6,rfl,t1,t2⟩:=hv
 have o5:=dN t1
 have o6:=dN t2
 unfold V.one at o5 o6
 have Hl:=k5.le
 have k15:=k14.trans k5
 have f6:=(k15.get (N+2) (by omega)).trans b3
 have e5:N+2<m5:=by omega
 simp[a4,f6,e5,ad,bO,o5,o6,cA.cB]
 have ph:¬N+2<N:=by omega
 refine⟨by simp[ax,hW,ph],fun i hi=>?_,by show N+3<=m5;omega,n5,u5,n6,u6,by show T.get (T.set _ _ _) _=_;rw[T.ag,aF rfl],n5,u5,n6,u6,rfl,t1.aK (i:=N+2) f6 oa rfl,t2.aK (i:=N+2) f6 oa rfl⟩
 show T.get (T.set _ _ _) _=_
 rw[T.ag,ar (by omega),k15.get i (by omega)]
def Yeg{x y:V}{p:Rat}{h:T O}{N:Nat}(hx:Fc h N x p)(hy:Fc h N y q)(l1:wl p.num<1000000000)(l2:wl (p.den:Nat)<1000000000)(l3:wl q.num<1000000000)(l4:wl (q.den:Nat)<1000000000):Fn A.C 79 [x,y] h N (fun v h' n'=>Fc h' n' v (p+q)):=by
 intro w
 rw[aO,A.k79 (by simp)]
 have oM:=hx
 have xf:=hy
 obtain⟨n1,u1,n2,u2,rfl,s1,s2⟩:=hx
 obtain⟨n3,u3,n4,u4,rfl,s3,s4⟩:=hy
 have o1:=dN s1
 have o2:=dN s2
 have o3:=dN s3
 have o4:=dN s4
 unfold V.one at o1 o2 o3 o4
 have kB:ab h N (((h.set N (.cells [.int .i64 n1,u1,.int .i64 n2,u2] 103 true)).set (N+1) (.cells [.int .i64 n3,u3,.int .i64 n4,u4] 103 true)).set (N+2) (.cells [.int .i64 0,.aa,.int .i64 0,.aa] 103 true)) (N+3):=aP (aP (aP ab.refl _) _) _
 simp[A.b79,aS,aE,o1,o2,o3,o4]
 generalize jH:((h.set N (.cells [.int .i64 n1,u1,.int .i64 n2,u2] 103 true)).set (N+1) (.cells [.int .i64 n3,u3,.int .i64 n4,u4] 103 true)).set (N+2) (.cells [.int .i64 0,.aa,.int .i64 0,.aa] 103 true)=hB at*
 have b1:hB.get N=some (.cells [.int .i64 n1,u1,.int .i64 n2,u2] 103 true):=by rw[<-jH];simp
 have b2:hB.get (N+1)=some (.cells [.int .i64 n3,u3,.int .i64 n4,u4] 103 true):=by rw[<-jH];simp
 have b3:hB.get (N+2)=some (.cells [.int .i64 0,.aa,.int .i64 0,.aa] 103 true):=by rw[<-jH];simp
 refine aA (Xf (oM.ae kB)) ?_
 rintro _ h0 m0 k0 rfl
 have zaH:=k0.le
 have k0':=kB.trans k0
 have d1:=(k0.get N (by omega)).trans b1
 have d2:=(k0.get (N+1) (by omega)).trans b2
 have d3:=(k0.get (N+2) (by omega)).trans b3
 by_cases cp:p.den=1
 ·simp[cp,d2,aS,aE]
  refine aA (Xf (xf.ae k0')) ?_
  rintro _ h1 m1 k1 rfl
  have fl:=k1.le
  have g1:=(k1.get N (by omega)).trans d1
  have g2:=(k1.get (N+1) (by omega)).trans d2
  have g3:=(k1.get (N+2) (by omega)).trans d3
  have k1':=k0'.trans k1
  by_cases cq:q.den=1
  ·simp[cq,g1,g2,aS,aE]
   refine aA (Mi (s1.ae k1') (s3.ae k1') (by omega) (by omega)) ?_
   rintro v5 h2 m2 k2 q1
   have gX:=k2.le
   simp[]
   refine aA (Xa q1) ?_
   rintro _ h3 m3 k3 ⟨n5,u5,n6,u6,rfl,t1,t2⟩
   have o5:=dN t1
   have o6:=dN t2
   unfold V.one at o5 o6
   have jd:=k3.le
   have f5:=(k3.get (N+2) (by omega)).trans ((k2.get (N+2) (by omega)).trans g3)
   simp[f5,aS,aE,ad,bO,o5,o6,az]
   have kk:=(k1'.trans k2).trans k3
   have Qi:p+q=((p.num+q.num:Int):Rat):=by rw[Xh cp,Xh cq];simp
   rw[Qi]
   exact⟨kk.set (by omega),n5,u5,n6,u6,rfl,t1.aK (i:=N+2) f5 oa rfl,t2.aK (i:=N+2) f5 oa rfl⟩
  ·simp[cq]
   refine jZ (Yt8 (N:=N) (p:=p) (q:=q) (by omega) (by simp[ax]) g1 g2 g3 (s1.ae k1') (s2.ae k1') (s3.ae k1') (s4.ae k1') l1 l2 l3 l4 (by simp) (by simp) (by simp)) ?_
   rintro e fr ⟨H6,n6,W6⟩ ⟨rfl,r6,rfl,c4,q1,q2,q3,m5,v5,m6,v6,q4,q5⟩
   simp only at q1 q2 q3 q4 q5
   simp[c4,q4,aS,aE,az,q1]
   exact⟨⟨by omega,fun i hi=>(q2 i hi).trans (k1'.get i hi)⟩,q5⟩
 ·simp[cp]
  refine jZ (Yt8 (N:=N) (p:=p) (q:=q) (by omega) (by simp[ax]) d1 d2 d3 (s1.ae k0') (s2.ae k0') (s3.ae k0') (s4.ae k0') l1 l2 l3 l4 (by simp) (by simp) (by simp)) ?_
  rintro e fr ⟨H6,n6,W6⟩ ⟨rfl,r6,rfl,c4,q1,q2,q3,m5,v5,m6,v6,q4,q5⟩
  simp only at q1 q2 q3 q4 q5
  simp[c4,q4,aS,aE,az,q1]
  exact⟨⟨by omega,fun i hi=>(q2 i hi).trans (k0'.get i hi)⟩,q5⟩
set_option maxHeartbeats 2000000
def A.b80:av:=sr [ge 2 (.alloc [.int .i64 0,.aa,.int .i64 0,.aa] 103)]
 (sr [mv 7 0,ge 8 (.call (fq 149) [tq 7,(.const (.str [47]))]),mv 6 8,xt 9 6 0,xt 10 6 1,xt 11 6 2,mv 3 9,mv 4 10,mv 5 11]
 (.seq (sr [mv 12 5,ge 13 (.un .not (tq 12))]
 (cd 13
 (sr [mv 14 3,c1 15 150 14,c1 16 145 15,gn (.store 4 (tq 2) (tq 16))]
 (.ret))
 (.skip)))
 (sr [mv 17 3,c1 18 150 17,mv 19 4,c1 20 150 19,ge 21 (.build [.int .i64 0,.aa,.int .i64 0,.aa] [(0,2,(tq 18)),(2,2,(tq 20))]),gn (.store 4 (tq 2) (tq 21))]
 (.ret))))
def A.c80:A.F 80=some ⟨22,[.cell 2 (some 4)],A.b80⟩:=by kernel_rfl
def A.k80:=@A.kk 80 _ _ _ A.c80 rfl
def Xj{z:Int}{h:T O}{N:Nat}(hl:(aN z).length<=100000):Fn A.C 150 [.str (aN z)] h N (fun v h' n'=>In h' n' v z):=by
 have hb:(aq z.natAbs).length<=100000:=by
  unfold aN at hl
  split at hl<;>(try simp at hl)<;>omega
 have:=Yb9 (s:=aN z) (h:=h) (N:=N) (by rw[IZ];exact A8 _) (by rw[IZ];exact hb)
 rw[Lh,IZ,GA]at this
 have e:(if decide (z<0)=true then -(z.natAbs:Int) else (z.natAbs:Int))=z:=by
  by_cases hz:z<0<;>simp[hz]<;>omega
 rw[e]at this
 exact this
def Yeb{q:Rat}{h:T O}{N:Nat}(l1:(aN q.num).length<=100000)(l2:(aq q.den).length<=100000):Fn A.C 80 [.str (a_ q)] h N (fun v h' n'=>Fc h' n' v q):=by
 intro w
 have hc:=fun st=>Yk0 (s:=a_ q) (st:=st) (by unfold a_;split<;>(try simp)<;>omega)
 rw[Li]at hc
 have kB:=aP (ab.refl (h:=h) (n:=N)) (.cells [.int .i64 0,.aa,.int .i64 0,.aa] 103 true)
 rw[aO,A.k80 (by simp)]
 by_cases c1:q.den=1
 ·have ay:¬ah (a_ q)<(a_ q).length:=fun hx=>(Cs q).1 hx c1
  simp[A.b80,hc,ay]
  refine aA (Xj l1) ?_
  rintro v1 h1 m1 k1 q1
  simp[]
  refine aA (Xa q1) ?_
  rintro _ h3 m3 k3 ⟨n5,u5,n6,u6,rfl,t1,t2⟩
  have o5:=dN t1
  have o6:=dN t2
  unfold V.one at o5 o6
  have fl:=k1.le
  have jd:=k3.le
  have kk:=(kB.trans k1).trans k3
  have f5:=((k1.trans k3).get N (by omega))
  rw[T.ag,aF rfl]at f5
  simp[f5,aS,aE,ad,bO,o5,o6,az]
  rw[Xh c1]
  exact⟨kk.set (by omega),n5,u5,n6,u6,rfl,t1.aK f5 oa rfl,t2.aK f5 oa rfl⟩
 ·have ay:ah (a_ q)<(a_ q).length:=(Cs q).2 c1
  have hd:=Lj q c1
  have Xg:aq q.den=aN ((q.den:Nat):Int):=by unfold aN;rw[ar (by omega)];rfl
  rw[Xg]at l2 hd
  simp[A.b80,hc,ay,hd]
  refine aA (Xj l1) ?_
  rintro v1 h1 m1 k1 q1
  simp[]
  refine aA (Xj l2) ?_
  rintro v2 h2 m2 k2 q2
  obtain⟨n5,u5,rfl,Ag⟩:=q1.cells
  obtain⟨n6,u6,rfl,He⟩:=q2.cells
  have o5:=Ag
  have o6:=He
  unfold V.one at o5 o6
  have fl:=k1.le
  have gX:=k2.le
  have kk:=(kB.trans k1).trans k2
  have f5:=((k1.trans k2).get N (by omega))
  rw[T.ag,aF rfl]at f5
  simp[f5,aS,aE,ad,bO,o5,o6,az]
  exact⟨kk.set (by omega),n5,u5,n6,u6,rfl,(q1.ae k2).aK f5 oa rfl,q2.aK f5 oa rfl⟩
variable {N k:Nat} {h:T O} {q:Rat} {x:V} {z:Int}
def A.b110:av:=sr [bx 1 103 0,mc 2 0]
 (sr [fa 3 0 1,lN 4 2 3,c1 5 167 4,mv 2 5]
 (.ret))
def A.c110:A.F 110=some ⟨6,[.tmp 2],A.b110⟩:=by kernel_rfl
def A.k110:=@A.kk 110 _ _ _ A.c110 rfl
def A.b87:av:=sr [bx 1 103 0,ge 2 (.ba (.const (.bool false)))]
 (sr [fa 3 0 1,lN 4 2 3,c1 5 151 4,mv 6 5,gz 7 6 (.eI 2 (tq 1)),gz 8 6 (.load (some 2) (tq 7)),gz 9 6 (.call (fq 151) [tq 8]),pt 10 6 9,mv 2 10]
 (.ret))
def A.c87:A.F 87=some ⟨11,[.tmp 2],A.b87⟩:=by kernel_rfl
def A.k87:=@A.kk 87 _ _ _ A.c87 rfl
def A.b151:av:=sr [bx 1 101 0,ge 2 (.ba (.const (.bool false)))]
 (sr [lN 3 2 1,c1 4 210 3,bc 5 .gtr 4 1800,mv 6 5,gy 7 6 (.load (some 2) (tq 1)),gy 8 6 (.call (fq 152) [tq 7]),gy 9 6 (.call (fq 207) [tq 8,(.const (.str [45]))]),gy 10 6 (.len 0 (tq 9)),gy 11 6 (.bin .gtr (.node []) false (tq 10) (kq 600)),pf 12 6 11,mv 2 12]
 (.ret))
def A.c151:A.F 151=some ⟨13,[.tmp 2],A.b151⟩:=by kernel_rfl
def A.k151:=@A.kk 151 _ _ _ A.c151 rfl
def A.b210:av:=sr [bx 1 101 0,mc 2 0]
 (sr [lN 6 2 1,c1 7 196 6,mv 5 7,xt 8 5 0,xt 9 5 1,mv 3 8,mv 4 9]
 (.seq (sr [mv 10 4,ln 11 10,ei 12 11 0]
 (cd 12
 (sr [mc 2 0]
 (.ret))
 (.skip)))
 (sr [mv 13 4,ln 14 13,bc 15 .sub 14 1,ge 16 (.bin .mul (.node []) false (kq 64) (tq 15)),mv 17 4,mv 18 4,ln 19 18,bc 20 .sub 19 1,ia 21 1 17 20,ld 22 21,c1 23 247 22,bi 24 .add 16 23,mv 2 24]
 (.ret))))
def A.c210:A.F 210=some ⟨25,[.tmp 2],A.b210⟩:=by kernel_rfl
def A.k210:=@A.kk 210 _ _ _ A.c210 rfl
def Fc.parts(s:Fc h N x q):∃n1 u1 n2 u2,x=.agg [.int .i64 n1,u1,.int .i64 n2,u2]/\In h N (.agg [.int .i64 n1,u1]) q.num/\In h N (.agg [.int .i64 n2,u2]) (q.den:Int)/\V.one u1=true/\V.one u2=true:=by
 obtain⟨n1,u1,n2,u2,rfl,s1,s2⟩:=s
 exact⟨n1,u1,n2,u2,rfl,s1,s2,dN s1,dN s2⟩
def Ty(hx:Fc h N x q):Fn A.C 110 [x] h N (fun v _ _=>v=.int .i64 (dW q.num)):=by
 intro w
 obtain⟨n1,u1,n2,u2,rfl,s1,s2,o1,o2⟩:=hx.parts
 unfold V.one at o1 o2
 rw[aO,A.k110 (by simp)]
 have k0:=(ab.refl (h:=h) (n:=N)).new (.cells [.int .i64 n1,u1,.int .i64 n2,u2] 103 true)
 simp[A.b110,aS,aE,o1,o2]
 refine aA (GQ (s1.ae k0)) ?_
 rintro _ h1 m1 k1 rfl
 simp[az]
 exact k0.trans k1
def Yjk{n d:Nat}(hk:(aJ n).length=k+1)(hd:(aJ n)[k]?=some d):n<2^(64*k+bh d):=by
 have h1:=mH n
 have h2:=Em (b:=B) hd
 rw[eZ (by omega),h1]at h2
 have h3:val B ((aJ n).take k)<B^k:=by
  have:=En (b:=B) (l:=(aJ n).take k) (fun x hx=>qH n x (ym hx))
  rw[gm,py (by omega)]at this;exact this
 have h4:d+1<=2^bh d:=PI d
 have h5:B^k*(d+1)<=B^k*2^bh d:=kg _ h4
 have h6:B^k=2^(64*k):=by rw[Nat.pow_mul];rfl
 rw[kQ,<-h6]
 rw[sL]at h5
 omega
def Zvd{n b:Nat}(h:600<(aq n).length)(hb:n<2^b):1800<b:=by
 apply Classical.byContradiction
 intro hc
 obtain⟨M,hM⟩:∃M:Nat,M=600:=⟨_,rfl⟩
 have h1:n<2^(3*M):=fE hb (Ll (by omega))
 have h2:(2:Nat)^(3*M)<=10^M:=by
  rw[Nat.pow_mul]
  exact FH (by decide) _
 have h3:=(NY (n:=n) (k:=M) (by omega)).2 (fE h1 h2)
 omega
def Yo7(hx:In h N x z)(hl:wl z<10000000000):Fn A.C 210 [x] h N (fun v _ _=>∃b:Nat,v=.int .i64 b/\z.natAbs<2^b):=by
 intro w
 obtain⟨n,u,rfl,hu⟩:=hx.cells
 have mE:=hu
 unfold V.one at mE
 have k0:=(ab.refl (h:=h) (n:=N)).new (.cells [.int .i64 n,u] 101 true)
 rw[aO,A.k210 (by simp)]
 simp[A.b210,aS,aE,mE]
 refine aA (CJ (hx.ae k0)) ?_
 rintro _ h1 m1 k1 ⟨u2,rfl,hw⟩
 have hlen:=Sl.len hw
 rw[bI]at hlen
 by_cases h0:(aJ z.natAbs).length=0
 ·rw[h0]at hlen
  have hz:z.natAbs=0:=by
   have:=mH z.natAbs
   rw[qj h0]at this
   simpa[val]using this.symm
  simp[hlen,az]
  exact⟨k0.trans k1,0,rfl,by omega⟩
 ·obtain⟨k,hk⟩:∃k,(aJ z.natAbs).length=k+1:=⟨(aJ z.natAbs).length-1,by omega⟩
  rw[hk]at hlen
  obtain⟨d,hd⟩:=bp (l:=aJ z.natAbs) (k:=k) (by omega)
  obtain⟨i,o,c,e,rw,q1,q2,q3,q4⟩:=Sl.at hw (fv hd)
  have PU:d<18446744073709551616:=(qH _).get hd
  have yB:k+1<10000000000:=by
   have:=hl
   unfold wl at this
   omega
  have CI:bh d<=64:=by
   apply Classical.byContradiction
   intro hc
   have h1:d≠0:=fun h=>by rw[h]at hc;simp[bh]at hc
   have h2:=Ja h1
   have h3:=Ll (j:=64) (k:=bh d-1) (by omega)
   have h4:(2:Nat)^64=18446744073709551616:=by decide
   omega
  have c1:¬((k:Int)+1=0):=by omega
  have c2:bu .i64 ((k:Int)+1-1)=(k:Int):=by rw[cF (by omega) (by omega)];omega
  have c3:bu .i64 (64*(k:Int))=64*(k:Int):=cF (by omega) (by omega)
  have c4:bu .i64 (64*(k:Int)+(bh d:Nat))=64*(k:Int)+(bh d:Nat):=cF (by omega) (by omega)
  have c5:(k:Int)<(k:Int)+1:=by omega
  simp(disch:=omega) [hlen,c1,c3,q1,q3,q4]
  refine aA (V0 PU) ?_
  rintro _ h2 m2 k2 ⟨rfl,rfl,rfl⟩
  simp[c4,az]
  exact⟨k0.trans k1,64*k+bh d,by simp,Yjk hk hd⟩
def Ydj(hx:In h N x z)(hP:kJ h N)(hl:wl z<10000000000)(hd:(di z.natAbs).length<1000000000):Fn A.C 151 [x] h N (fun v _ _=>v=.bool (decide (600<(aq z.natAbs).length))):=by
 intro w
 obtain⟨n,u,rfl,hu⟩:=hx.cells
 have mE:=hu
 unfold V.one at mE
 have k0:=(ab.refl (h:=h) (n:=N)).new (.cells [.int .i64 n,u] 101 true)
 have g0:(h.set N (.cells [.int .i64 n,u] 101 true)).get N=some (.cells [.int .i64 n,u] 101 true):=by rw[T.ag,aF rfl]
 rw[aO,A.k151 (by simp)]
 simp[A.b151,aS,aE,mE]
 refine aA (Yo7 (hx.ae k0) hl) ?_
 rintro _ h1 m1 k1 ⟨b,rfl,hb⟩
 have g1:=(k1.get N (by omega)).trans g0
 by_cases hbb:1800<b
 ·have Hm:(1800:Int)<(b:Int):=by omega
  simp[Hm,g1,aS,aE]
  refine aA (Qf ((hx.ae k0).ae k1) ((hP.ae k0).ae k1) (by omega)) ?_
  rintro _ h2 m2 k2 rfl
  have ht:=fun st=>Zj1 (s:=aN z) (st:=st)
  rw[IZ]at ht
  simp[ht,az]
  exact⟨(k0.trans k1).trans k2,by omega⟩
 ·have Hm:¬(1800:Int)<(b:Int):=by omega
  have J7:¬600<(aq z.natAbs).length:=fun hc=>hbb (Zvd hc hb)
  simp[Hm,J7,az]
  exact k0.trans k1
def tV(h:z.natAbs<2^k):wl z<=k:=by
 have:=EB (fE h (FH (by decide) k))
 unfold wl at this ⊢
 rwa [dJ]at this
def Yed(hx:Fc h N x q)(hP:kJ h N)(hq:Qb k q)(hk:k<=400000000):Fn A.C 87 [x] h N (fun v _ _=>v=.bool (Az q)):=by
 intro w
 obtain⟨n1,u1,n2,u2,rfl,s1,s2,o1,o2⟩:=hx.parts
 unfold V.one at o1 o2
 have k0:=(ab.refl (h:=h) (n:=N)).new (.cells [.int .i64 n1,u1,.int .i64 n2,u2] 103 true)
 have g0:(h.set N (.cells [.int .i64 n1,u1,.int .i64 n2,u2] 103 true)).get N=some (.cells [.int .i64 n1,u1,.int .i64 n2,u2] 103 true):=by rw[T.ag,aF rfl]
 have l1:=Lm hq.1
 have l2:=Lm hq.2
 have z1:=tV hq.1
 have z2:=tV (z:=(q.den:Int)) (k:=k) (by rw[dJ];exact hq.2)
 rw[aO,A.k87 (by simp)]
 simp[A.b87,aS,aE,o1,o2]
 refine aA (Ydj (s1.ae k0) (hP.ae k0) (by omega) (by omega)) ?_
 rintro _ h1 m1 k1 rfl
 have g1:=(k1.get N (by omega)).trans g0
 unfold Az
 by_cases c1:600<(aq q.num.natAbs).length
 ·simp[c1,az]
  exact k0.trans k1
 ·simp[c1,g1,aS,aE]
  refine aA (Ydj ((s2.ae k0).ae k1) ((hP.ae k0).ae k1) (by omega) (by rw[dJ];omega)) ?_
  rintro _ h2 m2 k2 rfl
  simp[az]
  exact(k0.trans k1).trans k2
variable {N:Nat} {h:T O} {l:List Rat} {q:Rat} {v:V}
set_option maxHeartbeats 1000000
def A.vF:av:=sr [bi 12 .lss 11 10]
 (.seq (cd 12
 (.skip)
 (.exit 0))
 (.seq (.block 1 (sr [mv 13 11,ia 14 1 9 11,ld 15 14,mv 4 13,mv 5 15]
 (.aR [mv 16 3,mv 17 4,mv 18 5,c1 19 80 18,ia 20 4 16 17,gn (.store 4 (tq 20) (tq 19))])))
 (.aR [bc 21 .add 11 1,mv 11 21])))
def A.b44:av:=sr [mN 2]
 (sr [mv 6 0,ln 7 6,ge 8 (.bY 103 4 64 [.int .i64 0,.aa,.int .i64 0,.aa] (tq 7) (tq 7)),mv 3 8]
 (.seq (sr [mv 9 0,ln 10 9,mc 11 0]
 (.block 0 (.loop A.vF)))
 (sr [mv 22 3,mv 2 22]
 (.ret))))
def A.c44:A.F 44=some ⟨23,[.tmp 2],A.b44⟩:=by kernel_rfl
def A.k44:=@A.kk 44 _ _ _ A.c44 rfl
def A.qU:av:=sr [bi 12 .lss 11 10]
 (.seq (cd 12
 (.skip)
 (.exit 0))
 (.seq (.block 1 (sr [mv 13 11,ia 14 4 9 11,lN 15 4 14,ge 5 (.alloc [.int .i64 0,.aa,.int .i64 0,.aa] 103),mv 4 13,gn (.store 4 (tq 5) (tq 15))]
 (.aR [mv 16 3,mv 17 4,lN 18 4 5,c1 19 88 18,ia 20 1 16 17,so 20 19])))
 (.aR [bc 21 .add 11 1,mv 11 21])))
def A.b142:av:=sr [mN 2]
 (sr [mv 6 0,ln 7 6,ge 8 (.bY 40 1 16 [(.str [])] (tq 7) (tq 7)),mv 3 8]
 (.seq (sr [mv 9 0,ln 10 9,mc 11 0]
 (.block 0 (.loop A.qU)))
 (sr [mv 22 3,mv 2 22]
 (.ret))))
def A.c142:A.F 142=some ⟨23,[.tmp 2],A.b142⟩:=by kernel_rfl
def A.k142:=@A.kk 142 _ _ _ A.c142 rfl
def fW(h:T O)(N:Nat)(c:List V)(q:Rat):Prop:=∃n1 u1 n2 u2,c=[.int .i64 n1,u1,.int .i64 n2,u2]/\In h N (.agg [.int .i64 n1,u1]) q.num/\In h N (.agg [.int .i64 n2,u2]) (q.den:Int)
def fW.ae{h':T O}{N':Nat}{c:List V}(s:fW h N c q)(k:ab h N h' N'):fW h' N' c q:=by
 obtain⟨n1,u1,n2,u2,rfl,s1,s2⟩:=s
 exact⟨n1,u1,n2,u2,rfl,s1.ae k,s2.ae k⟩
def fW.fc{c:List V}(s:fW h N c q):Fc h N (.agg c) q:=by
 obtain⟨n1,u1,n2,u2,rfl,s1,s2⟩:=s
 exact⟨n1,u1,n2,u2,rfl,s1,s2⟩
def Fc.c{x:V}(s:Fc h N x q):∃c,x=.agg c/\fW h N c q:=by
 obtain⟨n1,u1,n2,u2,rfl,s1,s2⟩:=s
 exact⟨_,rfl,n1,u1,n2,u2,rfl,s1,s2⟩
def vG(c:List V):Prop:=∀x∈c,∀m,x≠.int .u64 m
def Zxb{n:Int}{u:V}{z:Int}(s:In h N (.agg [.int .i64 n,u]) z):∀m,u≠.int .u64 m:=by
 rcases s with⟨h1,_⟩|⟨i,o,l,c,h1,_⟩
 ·simp at h1;rw[h1.2];simp
 ·simp at h1;rw[h1.2];simp
def fW.J6{c:List V}(s:fW h N c q):vG c:=by
 obtain⟨n1,u1,n2,u2,rfl,s1,s2⟩:=s
 intro x hx m
 simp at hx
 rcases hx with rfl|rfl|rfl|rfl
 ·simp
 ·exact Zxb s1 m
 ·simp
 ·exact Zxb s2 m
def fW.len{c:List V}(s:fW h N c q):c.length=4/\c.all V.one=true:=by
 obtain⟨n1,u1,n2,u2,rfl,s1,s2⟩:=s
 have o1:=dN s1
 have o2:=dN s2
 exact⟨rfl,by simp only[List.all_cons,List.all_nil,o1,o2,Bool.and_true];rfl⟩
def fW.aK{i:Nat}{c c0 c1:List V}{e0 e1:TypeId}{w0 w1:Bool}(s:fW h N c q)(g:h.get i=some (.cells c0 e0 w0))(hn:vG c0)(hc:c1.length=c0.length):fW (h.set i (.cells c1 e1 w1)) N c q:=by
 obtain⟨n1,u1,n2,u2,rfl,s1,s2⟩:=s
 exact⟨n1,u1,n2,u2,rfl,s1.aK g hn hc,s2.aK g hn hc⟩
def kM(h:T O)(N:Nat)(v:V)(l:List Rat):Prop:=∃cs:List (List V),Sn 4 h N v cs/\cs.length=l.length/\∀(j:Nat) (q:Rat),l[j]?=some q->∃c,cs[j]?=some c/\fW h N c q
def kM.ae{h':T O}{N':Nat}(s:kM h N v l)(k:ab h N h' N'):kM h' N' v l:=by
 obtain⟨cs,h1,h2,h3⟩:=s
 refine⟨cs,h1.ae k,h2,fun j q hq=>?_⟩
 obtain⟨c,g1,g2⟩:=h3 j q hq
 exact⟨c,g1,g2.ae k⟩
def kM.len(s:kM h N v l):oD v=some l.length:=by
 obtain⟨cs,h1,h2,_⟩:=s
 rw[h1.len,h2]
def kM.at(s:kM h N v l){j:Nat}{q:Rat}(hj:l[j]?=some q):∃i o x e rw c,wB v=some (i,o)/\i<N/\h.get i=some (.cells x e rw)/\aE x (o+j*4) 4=some c/\fW h N c q:=by
 obtain⟨cs,h1,h2,h3⟩:=s
 obtain⟨c,h4,h5⟩:=h3 j q hj
 obtain⟨i,o,x,e,rw,q1,q2,q3,q4⟩:=h1.at h4
 exact⟨i,o,x,e,rw,c,q1,q2,q3,q4,h5⟩
def dZ(h:T O)(N:Nat)(v:V)(l:List Rat):Prop:=kM h N v l/\∀i∈cR v,∃z w,h.get i=some (.cells z 103 w)
def tx(l:List Rat):List V:=strs (l.map a_)
def oT(l:List Rat):(tx l).length=l.length:=by simp[tx,strs]
def wu{j:Nat}(h:l[j]?=some q):(tx l)[j]?=some (.str (a_ q)):=by simp[tx,strs,h]
def zF:List V:=[.int .i64 0,.aa,.int .i64 0,.aa]
def Jn{z:List V}{n:Nat}:dr z (n+1)=z++dr z n:=by
 unfold dr
 rw[Nat.succ_mul,Nat.add_comm (n*z.length),List.range_add,List.map_append,List.map_map]
 congr 1
 ·apply nD
  intro j
  by_cases hj:j<z.length
  ·rw[gG,FG hj]
   simp[xI hj,hj]
  ·rw[fC (by simp;omega),fC (by omega)]
 ·apply AA
  intro i _
  simp[Nat.add_mod_left]
def Xk{a b c x:List V}{n o:Nat}(ha:a.length=o)(hb:b.length=n)(hx:x.length=n):ad (a++(b++c)) o x=a++(x++c):=by
 unfold ad
 rw[<-ha,List.take_left,hx,<-List.drop_drop,List.drop_left,<-hb,List.drop_left,tL]
structure FaI (h:T O) (N:Nat) (l:List Rat) (m:Nat) (r:T V) (st:St):Prop where
 w:ax N st.w=[]
 ae:ab h N st.h st.n
 ex:∃(k:Nat) (cs:List (List V)),k+m=l.length/\r.get 11=some (.int .i64 k)/\r.get 3=some (.slice N 0 l.length (some l.length) 4)/\N<st.n/\st.h.get N=some (.cells (cs.flatten++dr zF m) 103 true)/\cs.length=k/\∀(j:Nat) (q:Rat),j<k->l[j]?=some q->∃c,cs[j]?=some c/\fW st.h st.n c q
def Qj{cs:List (List V)}(hl:cs.length<=l.length)(hc:∀(j:Nat) (q:Rat),j<cs.length->l[j]?=some q->∃c,cs[j]?=some c/\fW h N c q):(∀c∈cs,c.length=4)/\vG cs.flatten/\cs.flatten.all V.one=true:=by
 have key:∀c∈cs,∃q,fW h N c q:=fun c xU=>by
  obtain⟨j,hj⟩:=zb xU
  have ay:=j_ hj
  obtain⟨q,hq⟩:=bp (l:=l) (k:=j) (by omega)
  obtain⟨c',h1,h2⟩:=hc j q ay hq
  rw[hj]at h1
  simp only[al]at h1
  subst h1
  exact⟨q,h2⟩
 refine⟨fun c xU=>?_,fun x hx m=>?_,?_⟩
 ·obtain⟨q,hq⟩:=key c xU;exact hq.len.1
 ·obtain⟨c,xU,CT⟩:=List.mem_flatten.1 hx
  obtain⟨q,hq⟩:=key c xU
  exact hq.J6 x CT m
 ·rw[lA]
  intro x hx
  obtain⟨c,xU,CT⟩:=List.mem_flatten.1 hx
  obtain⟨q,hq⟩:=key c xU
  exact lA.1 hq.len.2 x CT
def Xl:∀{n:Nat},vG (dr zF n)
 |0=>by intro x hx;simp[dr]at hx
 |n+1=>by
  intro x hx m
  rw[Jn]at hx
  rcases kb.1 hx with hx|hx
  ·simp[zF]at hx
   rcases hx with rfl|rfl|rfl|rfl<;>simp
  ·exact Xl x hx m
def vG.app{a b:List V}(ha:vG a)(hb:vG b):vG (a++b):=fun x hx m=>by
 rcases kb.1 hx with hx|hx
 ·exact ha x hx m
 ·exact hb x hx m
def Yjw(n:Nat):(dr zF n).length=n*4:=by
 induction n with
 |zero=>simp[dr]
 |succ n ih=>rw[Jn,iN,ih];simp[zF];omega
def Zp4{k0:Nat}(hs:Sl h N v (tx l))(hl:l.length<1000000000)(hq:∀q∈l,Qb k0 q)(jW:k0<=4000):Fn A.C 44 [v] h N (fun u h' n'=>dZ h' n' u l):=by
 intro w
 have hlen:=hs.len
 rw[oT]at hlen
 have c1:(64:Int)*(l.length:Int)<=140737488355328:=by omega
 have c2:(l.length:Int)<4611686018427387904:=by omega
 have kB:ab h N (h.set N (.cells (dr zF l.length) 103 true)) (N+1):=ab.refl.new _
 rw[aO,A.k44 (by simp)]
 simp[A.b44,hlen,c1,c2]
 refine bP [(4,5),(11,21)] (fun e r st=>e=.exit 0/\FaI h N l 0 r st) (FaI h N l) l.length ?_ ?_ ?_
 ·exact⟨by simp,kB,0,[],by omega,by simp,by simp,by show N<N+1;omega,by rw[T.ag,aF rfl];rfl,rfl,fun j q hj=>by omega⟩
 ·rintro m r ⟨H,n1,W⟩ hr hf ⟨hW,hK,k,cs,hk,jY,h3,oP,hM,cO,lK⟩
  simp only at hW hK hM oP lK
  rw[bq]
  cases m with
  |zero=>
   obtain rfl:k=l.length:=by omega
   simp[A.vF,hr,hf,jY]
   exact⟨hW,hK,l.length,cs,by omega,by simp[jY],by simp[h3],oP,hM,cO,lK⟩
  |succ m=>
   have ay:k<l.length:=by omega
   have bn:(k:Int)<(l.length:Int):=by omega
   obtain⟨q,Hn⟩:=bp ay
   have iJ:=hq q (cm Hn)
   obtain⟨i,o,cc,e,rw,q1,q2,q3,q4⟩:=(hs.ae hK).at (wu Hn)
   have la:=Fi iJ.1
   have Jo:=C9 iJ.2
   simp[A.vF,hr,jY,bn,hlen,q1,q3,q4]
   refine aA (Yeb (q:=q) (by omega) (by omega)) ?_
   rintro _ H2 n2 k2 c_
   obtain⟨c,rfl,hc⟩:=c_.c
   have kI:=k2.le
   have fi:=hK.le
   have qV:=(k2.get N oP).trans hM
   have Ho:∀(j:Nat) (q:Rat),j<cs.length->l[j]?=some q->∃c,cs[j]?=some c/\fW H2 n2 c q:=fun j q hj hq=>by
    obtain⟨c,g1,g2⟩:=lK j q (by omega) hq
    exact⟨c,g1,g2.ae k2⟩
   obtain⟨f1,f2,f3⟩:=Qj (l:=l) (by omega) Ho
   have nI:=BF f1
   obtain⟨e1,e2⟩:=hc.len
   have iU:ad (cs.flatten++dr zF (m+1)) (k*4) c=(cs++[c]).flatten++dr zF m:=by
    rw[Jn,Xk (n:=4) (by rw[nI,cO]) rfl e1,Pd,tL]
   have hb:k*4+4<=(cs.flatten++dr zF (m+1)).length:=by
    rw[iN,nI,Yjw];omega
   have oz:(V.agg c).cells=c:=rfl
   have MA:vG (cs.flatten++dr zF (m+1)):=f2.app Xl
   have oc:((cs++[c]).flatten++dr zF m).length=(cs.flatten++dr zF (m+1)).length:=by
    rw[Jn,Pd];simp[e1,zF];omega
   generalize cs.flatten++dr zF (m+1)=X at*
   obtain⟨Y,hY⟩:∃Y,(cs++[c]).flatten++dr zF m=Y:=⟨_,rfl⟩
   rw[hY]at iU oc
   simp(disch:=first|(simp;done)|omega|(simp only[bI,cC,bD];omega)|rfl) [-V.cells, -V.one,hf,jY,qV,bO,oz,e1,e2,hb,iU]
   have ik:¬N<N:=by omega
   refine⟨m,by omega,⟨by simp[ax,hW],(hK.trans k2).set (aW N),k+1,cs++[c],by omega,by simp,by simp[h3],by show N<n2;omega,by show T.get _ N=_;rw[T.ag,aF rfl,hY],by simp[cO],fun j q' hj uk=>?_⟩⟩
   by_cases rV:j<k
   ·obtain⟨c',g1,g2⟩:=lK j q' rV uk
    exact⟨c',by rw[lE (by omega)];exact g1,(g2.ae k2).aK qV MA oc⟩
   ·obtain rfl:j=k:=by omega
    rw[Hn]at uk
    simp only[al]at uk
    subst uk
    exact⟨c,by rw[oV (by omega),cO];simp,hc.aK qV MA oc⟩
 ·rintro _ r ⟨H,n1,W⟩ hr ⟨rfl,hW,hK,k,cs,hk,jY,h3,oP,hM,cO,lK⟩
  simp only at hW hK hM oP lK
  obtain rfl:k=l.length:=by omega
  simp[hr,az,hW,hK]
  have hz:dr zF 0=[]:=by simp[dr]
  obtain⟨f1,_,_⟩:=Qj (l:=l) (by omega) (fun j q hj hq=>lK j q (by omega) hq)
  have nI:=BF f1
  rw[hz,zn]at hM
  refine⟨⟨cs,.inr ⟨N,0,some l.length,cs.flatten,_,true,by rw[cO],oP,hM,fun j x hx=>by rw[xJ];exact PE f1 hx,by omega,fun k hk=>by simp at hk;omega⟩,cO,fun j q hq=>lK j q (j_ hq) hq⟩,fun i hi=>?_⟩
  simp[cR]at hi
  subst hi
  exact⟨_,_,hM⟩
structure TaI (h:T O) (N:Nat) (l:List Rat) (m:Nat) (r:T V) (st:St):Prop where
 w:ax N st.w=[]
 ae:ab h N st.h st.n
 ex:∃(k:Nat),k+m=l.length/\r.get 11=some (.int .i64 k)/\r.get 3=some (.slice N 0 l.length (some l.length) 1)/\N<st.n/\st.h.get N=some (.cells (tx (l.take k)++List.replicate m (V.str [])) 40 true)
def Ygi{k0:Nat}(hs:kM h N v l)(hP:kJ h N)(hl:l.length<1000000000)(hq:∀q∈l,Qb k0 q)(jW:k0<=400000000):Fn A.C 142 [v] h N (fun u h' n'=>Sl h' n' u (tx l)/\∀i∈cR u,∃z w,h'.get i=some (.cells z 40 w)):=by
 intro w
 have hlen:=hs.len
 have c1:(16:Int)*(l.length:Int)<=140737488355328:=by omega
 have c2:(l.length:Int)<4611686018427387904:=by omega
 have kB:ab h N (h.set N (.cells (dr [.str []] l.length) 40 true)) (N+1):=ab.refl.new _
 rw[aO,A.k142 (by simp)]
 simp[A.b142,hlen,c1,c2]
 refine bP [(4,5),(11,21)] (fun e r st=>e=.exit 0/\TaI h N l 0 r st) (TaI h N l) l.length ?_ ?_ ?_
 ·exact⟨by simp,kB,0,by omega,by simp,by simp,by show N<N+1;omega,by rw[T.ag,aF rfl,TK];simp[tx,strs]⟩
 ·rintro m r ⟨H,n1,W⟩ hr hf ⟨hW,hK,k,hk,jY,h3,oP,hM⟩
  simp only at hW hK hM oP
  rw[bq]
  cases m with
  |zero=>
   obtain rfl:k=l.length:=by omega
   simp[A.qU,hr,hf,jY]
   exact⟨hW,hK,l.length,by omega,by simp[jY],by simp[h3],oP,hM⟩
  |succ m=>
   have ay:k<l.length:=by omega
   have bn:(k:Int)<(l.length:Int):=by omega
   obtain⟨q,Hn⟩:=bp ay
   have iJ:=hq q (cm Hn)
   obtain⟨i,o,x,e,rw,c,q1,q2,q3,q4,q5⟩:=(hs.ae hK).at Hn
   obtain⟨xm,u1,ph,u2,rfl,s1,s2⟩:=q5
   have o1:=dN s1
   have o2:=dN s2
   unfold V.one at o1 o2
   have la:=Lm iJ.1
   have Jo:=Lm iJ.2
   have fi:=hK.le
   have e4:ad [.int .i64 0,.aa,.int .i64 0,.aa] 0 [.int .i64 xm,u1,.int .i64 ph,u2]=[.int .i64 xm,u1,.int .i64 ph,u2]:=rfl
   have e5:aE [.int .i64 xm,u1,.int .i64 ph,u2] 0 4=some [.int .i64 xm,u1,.int .i64 ph,u2]:=rfl
   have kA:ab H n1 ((H.set n1 (.cells [.int .i64 0,.aa,.int .i64 0,.aa] 103 true)).set n1 (.cells [.int .i64 xm,u1,.int .i64 ph,u2] 103 true)) (n1+1):=(ab.refl.new _).set (aW _)
   simp[A.qU,hr,jY,bn,hlen,q1,q3,q4,aS,bO,o1,o2,e4,e5]
   refine aA (Ylo (q:=q) (Fc.ae ⟨xm,u1,ph,u2,rfl,s1,s2⟩ kA) ((hP.ae hK).ae kA) (by omega) (by omega)) ?_
   rintro _ H2 n2 k2 rfl
   have kI:=k2.le
   have qV:=(k2.get N (by omega)).trans ((kA.get N oP).trans hM)
   have hb:k+1<=(tx (l.take k)++List.replicate (m+1) (V.str [])).length:=by
    rw[iN,oT,List.length_replicate,gm];omega
   have iU:ad (tx (l.take k)++List.replicate (m+1) (V.str [])) k [.str (a_ q)]=tx (l.take (k+1))++List.replicate m (V.str []):=by
    have e1:(tx (l.take k)++List.replicate (m+1) (V.str []))=tx (l.take k)++([V.str []]++List.replicate m (V.str [])):=by rw[List.replicate_succ];rfl
    rw[e1,Xk (n:=1) (by rw[oT,gm];omega) rfl rfl,tE,Hn]
    simp[tx,strs]
   generalize tx (l.take k)++List.replicate (m+1) (V.str [])=X at*
   obtain⟨Y,hY⟩:∃Y,tx (l.take (k+1))++List.replicate m (V.str [])=Y:=⟨_,rfl⟩
   rw[hY]at iU
   simp(disch:=first|(simp;done)|omega|(simp only[bI,cC,bD];omega)|rfl) [hf,jY,qV,bO,hb,iU]
   refine⟨m,by omega,⟨by simp[ax,hW];omega,((hK.trans kA).trans k2).set (aW N),k+1,by omega,by simp,by simp[h3],by show N<n2;omega,by show T.get _ N=_;rw[T.ag,aF rfl,hY]⟩⟩
 ·rintro _ r ⟨H,n1,W⟩ hr ⟨rfl,hW,hK,k,hk,jY,h3,oP,hM⟩
  simp only at hW hK hM oP
  obtain rfl:k=l.length:=by omega
  rw[wo]at hM
  simp only[List.replicate_zero,zn]at hM
  simp[hr,az,hW,hK]
  exact⟨Sl.row oP hM (oT l) (fun k hk=>by simp at hk;omega),fun i hi=>by simp[cR]at hi;subst hi;exact⟨_,.inr hM⟩⟩
variable {N j k:Nat} {b l:List Rat} {h:T O} {m:List (List Rat)} {v:V}
def A.rC:av:=.seq (sr [mv 7 6,mv 8 0,ln 9 8,bi 10 .lss 7 9]
 (cd 10
 (.skip)
 (.exit 0)))
 (.seq (.block 1 (.aX [mv 13 5,mv 14 0,mv 15 6,ia 16 1 14 15,ld 17 16,mv 18 1,mv 19 6,ia 20 1 18 19,ld 21 20,c2 22 122 17 21,c2 23 226 13 22,mv 5 23] [0,0,0,6,14,0,0,96,224,510,1023,2047]))
 (.aR [mv 11 6,bc 12 .add 11 1,mv 6 12]))
def A.b176:av:=sr [ge 4 (.ba (.const (.str [])))]
 (sr [ge 5 (.ba (.const (.str [48])))]
 (.seq (sr [mc 6 0]
 (.block 0 (.loop A.rC)))
 (sr [mv 24 5,mv 4 24]
 (.ret))))
def A.c176:A.F 176=some ⟨25,[.tmp 4],A.b176⟩:=by kernel_rfl
def A.k176:=@A.kk 176 _ _ _ A.c176 rfl
def A.rD:av:=.seq (sr [mv 7 6,mv 8 0,ln 9 8,bi 10 .lss 7 9]
 (cd 10
 (.skip)
 (.exit 0)))
 (.seq (.block 1 (.aR [mv 13 5,mv 14 0,mv 15 6,ia 16 1 14 15,ld 17 16,mv 18 1,c2 19 176 17 18,ge 20 (.aV 40 1 1 [(.str [])] [(0,1,(tq 19))]),ge 21 (.append 1 16 40 [(.str [])] (tq 13) (tq 20)),mv 5 21]))
 (.aR [mv 11 6,bc 12 .add 11 1,mv 6 12]))
def A.b121:av:=sr [mN 4]
 (sr [mN 5]
 (.seq (sr [mc 6 0]
 (.block 0 (.loop A.rD)))
 (sr [mv 22 5,mv 4 22]
 (.ret))))
def A.c121:A.F 121=some ⟨23,[.tmp 4],A.b121⟩:=by kernel_rfl
def A.k121:=@A.kk 121 _ _ _ A.c121 rfl
def ks(a b:List Rat):Nat->Rat
 |0=>0
 |k+1=>ks a b k+a[k]?.getD 0*b[k]?.getD 0
def l_(a b:List Rat):Rat:=ks a b a.length
def Qb.zero:Qb 1 0:=⟨by decide,by decide⟩
def Bt{l:List Rat}{k:Nat}(h:∀q∈l,Qb k q)(hk:1<=k)(j:Nat):Qb k (l[j]?.getD 0):=by
 cases hj:l[j]? with
 |none=>exact Qb.zero.mono hk
 |some q=>exact h q (cm hj)
def QY{a b:List Rat}{j k:Nat}(ha:∀q∈a,Qb j q)(hb:∀q∈b,Qb k q)(hj:1<=j)(hk:1<=k):∀n,Qb (n*(j+k+1)+1) (ks a b n)
 |0=>by simpa[ks]using Qb.zero
 |n+1=>by
  have h:=(QY ha hb hj hk n).add ((Bt ha hj n).mul (Bt hb hk n))
  exact h.mono (by rw[iW];omega)
def Tx(h:T O)(N:Nat)(v:V)(l:List Rat):Prop:=Sl h N v (tx l)
def Tx.ae{h':T O}{N':Nat}(s:Tx h N v l)(k:ab h N h' N'):Tx h' N' v l:=Sl.ae s k
def Tx.len(s:Tx h N v l):oD v=some l.length:=by
 have:=Sl.len s
 rwa [oT]at this
def Ymh{u:V}{a:List Rat}(hu:Tx h N u a)(hv:Tx h N v b)(h_:a.length<=b.length)(ha:∀q∈a,Qb j q)(hb:∀q∈b,Qb k q)(hj:1<=j)(hk:1<=k)(hl:a.length*(j+k+1)+j+k+1<=400000000):Fn A.C 176 [u,v] h N (fun x _ _=>x=.str (a_ (l_ a b))):=by
 intro w
 have l1:=hu.len
 have l2:=hv.len
 have hal:a.length<=400000000:=by have:=Nat.le_mul_of_pos_right a.length (show 0<j+k+1 by omega);omega
 rw[aO,A.k176 (by simp)]
 simp[A.b176]
 refine bP [(5,23)] (fun e r st=>e=.exit 0/\ax N st.w=[]/\ab h N st.h st.n/\r.get 5=some (.str (a_ (l_ a b)))) (fun m r st=>ax N st.w=[]/\ab h N st.h st.n/\∃t,t+m=a.length/\r.get 6=some (.int .i64 t)/\r.get 5=some (.str (a_ (ks a b t)))) a.length ?_ ?_ ?_
 ·exact⟨by simp,ab.refl,0,by omega,by simp,by simp[ks,Yh]⟩
 ·rintro m r ⟨H,n1,W⟩ hr hf ⟨hW,hK,t,ht,h6,h5⟩
  simp only at hW hK
  rw[bq]
  cases m with
  |zero=>
   obtain rfl:t=a.length:=by omega
   simp[A.rC,hr,hf,h6,h5,l1,hW,hK]
   rfl
  |succ m=>
   have ay:t<a.length:=by omega
   have bn:(t:Int)<(a.length:Int):=by omega
   have jk:t<b.length:=by omega
   have Ar:(t:Int)<(b.length:Int):=by omega
   obtain⟨p,hp⟩:=bp ay
   obtain⟨q,hq⟩:=bp jk
   have tF:=ha p (cm hp)
   have iJ:=hb q (cm hq)
   have yK:=QY ha hb hj hk t
   have hmul:t*(j+k+1)<=a.length*(j+k+1):=lV _ (by omega)
   have e1:ks a b (t+1)=ks a b t+p*q:=by simp[ks,hp,hq]
   obtain⟨i,o,cc,e,rw,q1,q2,q3,q4⟩:=(Sl.ae hu hK).at (wu hp)
   obtain⟨i',o',YU,e',oC,p1,p2,p3,p4⟩:=(Sl.ae hv hK).at (wu hq)
   simp[A.rC,hr,h6,h5,l1,l2,bn,Ar,q1,q2,q3,q4,p1,p2,p3,p4]
   refine aA (Tg tF iJ (by omega) (by omega)) ?_
   rintro _ H2 n2 k2 rfl
   simp[]
   refine aA (Zj yK (tF.mul iJ) (by omega) (by omega)) ?_
   rintro _ H3 n3 k3 rfl
   rw[<-e1]
   simp(disch:=first|(simp;done)|omega|rfl) [hf,h6,hW]
   exact⟨m,by omega,(hK.trans k2).trans k3,t+1,by omega,by simp,by simp⟩
 ·rintro _ r ⟨H,n1,W⟩ hr ⟨rfl,hW,hK,h5⟩
  simp only at hW hK
  simp[h5,az,hW,hK]
def gh(h:T O)(N:Nat)(v:V)(m:List (List Rat)):Prop:=∃us:List V,Sl h N v us/\us.length=m.length/\∀(j:Nat) (l:List Rat),m[j]?=some l->∃u,us[j]?=some u/\Tx h N u l
def gh.ae{h':T O}{N':Nat}(s:gh h N v m)(k:ab h N h' N'):gh h' N' v m:=by
 obtain⟨us,h1,h2,h3⟩:=s
 refine⟨us,h1.ae k,h2,fun j l hl=>?_⟩
 obtain⟨u,g1,g2⟩:=h3 j l hl
 exact⟨u,g1,g2.ae k⟩
def gh.len(s:gh h N v m):oD v=some m.length:=by
 obtain⟨us,h1,h2,_⟩:=s
 rw[h1.len,h2]
def gh.at(s:gh h N v m){j:Nat}{l:List Rat}(hj:m[j]?=some l):∃i o c e rw u,wB v=some (i,o)/\i<N/\h.get i=some (.cells c e rw)/\c[o+j]?=some u/\Tx h N u l:=by
 obtain⟨us,h1,h2,h3⟩:=s
 obtain⟨u,g1,g2⟩:=h3 j l hj
 obtain⟨i,o,c,e,rw,q1,q2,q3,q4⟩:=h1.at g1
 exact⟨i,o,c,e,rw,u,q1,q2,q3,q4,g2⟩
def Yca{u:V}{n:Nat}(hu:gh h N u m)(hv:Tx h N v b)(hm:∀r∈m,r.length=n/\∀q∈r,Qb j q)(hn:n<=b.length)(hb:∀q∈b,Qb k q)(hj:1<=j)(hk:1<=k)(hl:n*(j+k+1)+j+k+1<=400000000)(jQ:m.length<100000):Fn A.C 121 [u,v] h N (fun x h' n'=>Own 1 40 N h' n' x ((tx (m.map fun r=>l_ r b)).map fun y=>[y])):=by
 intro w
 have l1:=hu.len
 rw[aO,A.k121 (by simp)]
 simp[A.b121]
 refine bP [(5,21)] (fun e r st=>e=.exit 0/\ax N st.w=[]/\ab h N st.h st.n/\∃x,r.get 5=some x/\Own 1 40 N st.h st.n x ((tx (m.map fun r=>l_ r b)).map fun y=>[y])) (fun i r st=>ax N st.w=[]/\ab h N st.h st.n/\∃t x,t+i=m.length/\r.get 6=some (.int .i64 t)/\r.get 5=some x/\Own 1 40 N st.h st.n x ((tx ((m.take t).map fun r=>l_ r b)).map fun y=>[y])) m.length ?_ ?_ ?_
 ·exact⟨by simp,ab.refl,0,.aa,by omega,by simp,by simp,by simpa[tx,strs]using Own.nil⟩
 ·rintro i r ⟨H,n1,W⟩ hr hf ⟨hW,hK,t,x,ht,h6,h5,ho⟩
  simp only at hW hK ho
  rw[bq]
  cases i with
  |zero=>
   obtain rfl:t=m.length:=by omega
   rw[wo]at ho
   simp[A.rD,hr,hf,h6,h5,l1,hW,hK]
   exact ho
  |succ i=>
   have ay:t<m.length:=by omega
   have bn:(t:Int)<(m.length:Int):=by omega
   obtain⟨row,ak⟩:=bp ay
   obtain⟨a1,a2⟩:=hm row (cm ak)
   obtain⟨i',o,cc,e,rw,ru,q1,q2,q3,q4,q5⟩:=(hu.ae hK).at ak
   simp[A.rD,hr,h6,h5,l1,bn,q1,q3,q4]
   refine aA (Ymh q5 (hv.ae hK) (by omega) a2 hb hj hk (by rw[a1];exact hl)) ?_
   rintro _ H2 n2 k2 rfl
   have kI:=k2.le
   have fi:=hK.le
   have jS:(((tx ((m.take t).map fun r=>l_ r b)).map fun y=>[y])).length<=100000:=by simp[oT];omega
   obtain⟨v',h',w',f1,f2,f3,_,f5⟩:=sE (x:=[.str (a_ (l_ row b))]) (u:=.slice n2 0 1 (some 1) 1) (bytes:=16) (w:=W) ((ho.ae k2).ae (ab.refl.new (.cells [.str (a_ (l_ row b))] 40 true))) (by omega) (by decide) rfl (by simp[eD,St.row,aE]) (by omega)
   have e7:((tx ((m.take t).map fun r=>l_ r b)).map fun y=>[y])++[[.str (a_ (l_ row b))]]=(tx ((m.take (t+1)).map fun r=>l_ r b)).map fun y=>[y]:=by rw[tE,ak];simp[tx,strs]
   rw[e7]at f5
   simp(disch:=first|(simp;done)|omega|rfl) [hf,h6,ad,f1]
   exact⟨i,by omega,by rw[f2];exact hW,((hK.trans k2).trans (ab.refl.new (.cells [.str (a_ (l_ row b))] 40 true))).then f3,t+1,by omega,by simp,by rw[<-List.map_take];exact f5⟩
 ·rintro _ r ⟨H,n1,W⟩ hr ⟨rfl,hW,hK,x,h5,ho⟩
  simp only at hW hK ho
  simp[h5,az,hW,hK]
  exact ho
end Go.Mx
