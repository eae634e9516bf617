/-
  num.Frac: Cmp, Text.
-/
import Derived.Test.YtlbophlgohokkaaGreatDoorNcE
import Derived.Test.YtlbophlgohokkaaGreatDoorMxRg
set_option linter.all false
namespace Go.Mx
open Go Go.Proofs
set_option maxHeartbeats 2000000
set_option maxRecDepth 1000000
def A.b107:Zae:=sr [bx 1 114 0,⟨(some 2),.mov (.const (.str [])),none⟩]
 (.seq (sr [lN 3 4 1,c1 4 171 3]
 (cd 4
 (sr [fa 5 0 1,lN 6 2 5,c1 7 172 6,mv 2 7]
 (.ret))
 (.skip)))
 (.seq (.regD [fa 8 0 1,lN 9 2 8,c1 10 172 9,⟨(some 11),.bin .add (.node []) false (.tmp 10) (.const (.str [47])),none⟩,fa 12 2 1,lN 13 2 12,c1 14 172 13,bi 15 .add 11 14,mv 2 15] [0,1,3,7,0,16,55,127,255])
 (.ret)))
theorem A.c107:A.F 107=some ⟨16,[.tmp 2],A.b107⟩:=by kernel_rfl
def A.k107:=@A.kk 107 _ _ _ A.c107 rfl
theorem Zzj{x:V}{q:Rat}{h:T O}{N:Nat}(hx:Fc h N x q)(hP:P10 h N)(l1:(Zcw q.num.natAbs).length<1000000)(l2:(Zcw q.den).length<1000000):Fn A.C 107 [x] h N (fun v _ _=>v=.str (Za1 q)):=by
 intro w
 rw[Zaa,A.k107 (by simp)]
 have hx0:=hx
 obtain⟨n1,u1,n2,u2,rfl,s1,s2⟩:=hx
 have o1:=Za9 s1
 have o2:=Za9 s2
 unfold V.one at o1 o2
 have kB:=kset (Keeps.refl (h:=h) (n:=N)) (.cells [.int .i64 n1,u1,.int .i64 n2,u2] 114 true)
 simp[A.b107,Zam,slc,o1,o2]
 generalize hhB:h.set N (.cells [.int .i64 n1,u1,.int .i64 n2,u2] 114 true)=hB at*
 have b1:hB.get N=some (.cells [.int .i64 n1,u1,.int .i64 n2,u2] 114 true):=by rw[←hhB];simp
 refine Zab (Yb0 (hx0.keep kB)) ?_
 rintro _ h1 m1 k1 rfl
 have kle1:=k1.le
 have f1:=(k1.get N (by omega)).trans b1
 have kk:=kB.trans k1
 by_cases c1:q.den=1
 ·simp[c1,f1,Zam,slc]
  refine Zab (Zjh (s1.keep kk) (hP.keep kk) (by omega)) ?_
  rintro _ h2 m2 k2 rfl
  simp[Ret,Za1,c1]
  exact kk.trans k2
 ·have l0:N<m1:=by omega
  simp[c1,f1,l0,Zam,slc]
  refine Zab (Zjh (s1.keep kk) (hP.keep kk) (by omega)) ?_
  rintro _ h2 m2 k2 rfl
  have kle2:=k2.le
  have kk2:=kk.trans k2
  have f2:=(k2.get N (by omega)).trans f1
  have l3:N<m2:=by omega
  have hmx:IntKind.max .i64=9223372036854775807:=rfl
  have hS1:(decI q.num).length<2000000:=by
   have h1:(decN q.num.natAbs).length≤(Zcw q.num.natAbs).length+1:=by unfold decN;split<;>simp
   unfold decI
   split<;>simp<;>omega
  have hS2:(decN q.den).length<2000000:=by
   have h1:(decN q.den).length≤(Zcw q.den).length+1:=by unfold decN;split<;>simp
   omega
  have htx:Za1 q=decI q.num++47::decN q.den:=by unfold Za1;rw[Yrq c1]
  have hdI:decI ((q.den:Nat):Int)=decN q.den:=by unfold decI;rw[Yrq (by omega)];rfl
  rw[htx]
  generalize decI q.num=S1 at*
  have g1:¬(9223372036854775807:Int)<(S1.length:Int)+1:=by omega
  simp[f2,l3,Zbr,hmx,g1,Zam,slc]
  refine Zab (Zjh (s2.keep kk2) (hP.keep kk2) (by rw[Yrw];omega)) ?_
  rintro _ h3 m3 k3 rfl
  rw[hdI]
  generalize decN q.den=S2 at*
  have g2:¬(9223372036854775807:Int)<(S1.length:Int)+1+(S2.length:Int):=by omega
  simp[Zbr,hmx,g2,Zav.chk,Ret]
  exact kk2.trans k3
variable {q:Rat}
set_option maxHeartbeats 4000000
def A.ta120_0:Zae:=.seq (.regD [fa 17 0 2,lN 18 2 17,fa 19 2 3,lN 20 2 19,c2 21 157 18 20,fa 22 0 3,lN 23 2 22,fa 24 2 2,lN 25 2 24,c2 26 157 23 25,c2 27 192 21 26,fa 28 2 2,lN 29 2 28,fa 30 2 3,lN 31 2 30,c2 32 157 29 31,c2 33 156 27 32,⟨none,.store 4 (.tmp 4) (.tmp 33),none⟩] [0,1,0,4,15,0,32,0,128,511,1023,0,2048,0,8192,32767,65535,131071])
 (.ret)
def A.b120:Zae:=sr [bx 2 114 0,bx 3 114 1,⟨(some 4),.alloc [(.int .i64 0),.nilslice,(.int .i64 0),.nilslice] 114,none⟩]
 (.seq (sr [lN 5 4 2,c1 6 171 5,mv 7 6,⟨(some 8),.load (some 4) (.tmp 3),(some (7,true))⟩,⟨(some 9),.call (.const (.func 171 [] [])) [(.tmp 8)],(some (7,true))⟩,pf 10 7 9]
 (cd 10
 (sr [fa 11 0 2,lN 12 2 11,fa 13 0 3,lN 14 2 13,c2 15 192 12 14,c1 16 189 15,⟨none,.store 4 (.tmp 4) (.tmp 16),none⟩]
 (.ret))
 (.skip)))
 A.ta120_0)
theorem A.c120:A.F 120=some ⟨34,[.cell 4 (some 4)],A.b120⟩:=by kernel_rfl
def A.k120:=@A.kk 120 _ _ _ A.c120 rfl
theorem Zl4(h:q.den=1):q=(q.num:Rat):=by
 apply Rat.ext
 ·simp
 ·simp[h]
theorem Yp3{H:T O}{N n:Nat}{W:List Nat}{r:T V}{p:Rat}{n1 n2 n3 n4:Int}{u1 u2 u3 u4:V}(hn:N+3≤n)(hW:Zac N W=[])(b1:H.get N=some (.cells [.int .i64 n1,u1,.int .i64 n2,u2] 114 true))(b2:H.get (N+1)=some (.cells [.int .i64 n3,u3,.int .i64 n4,u4] 114 true))(b3:H.get (N+2)=some (.cells [.int .i64 0,.nilslice,.int .i64 0,.nilslice] 114 true))
  (s1:In H n (.agg [.int .i64 n1,u1]) p.num) (s2:In H n (.agg [.int .i64 n2,u2]) (p.den:Nat)) (s3:In H n (.agg [.int .i64 n3,u3]) q.num) (s4:In H n (.agg [.int .i64 n4,u4]) (q.den:Nat)) (l1:wl p.num<1000000) (l2:wl (p.den:Nat)<1000000) (l3:wl q.num<1000000) (l4:wl (q.den:Nat)<1000000) (a2:r.get 2=some (.ptr N 0)) (a3:r.get 3=some (.ptr (N+1) 0)) (a4:r.get 4=some (.ptr (N+2) 0)):
  Code A.C none A.ta120_0 ⟨r,34,[]⟩ ⟨H,n,W⟩ (fun e fr st=>e=.ret∧∃r',fr=⟨r',34,[]⟩∧r'.get 4=some (.ptr (N+2) 0)∧MkE H N (p+q) st):=by
 rw[Zah]
 have o1:=Za9 s1
 have o2:=Za9 s2
 have o3:=Za9 s3
 have o4:=Za9 s4
 unfold V.one at o1 o2 o3 o4
 have z1:N<n:=by omega
 have z2:N+1<n:=by omega
 simp[A.ta120_0,a2,a3,b1,b2,z1,z2,Zam,slc]
 refine Zab (Zjs s1 s4 (by omega) (by omega)) ?_
 rintro v5 h1 m1 k1 q1
 have kle1:=k1.le
 have f1:=(k1.get N (by omega)).trans b1
 have f2:=(k1.get (N+1) (by omega)).trans b2
 have f3:=(k1.get (N+2) (by omega)).trans b3
 have e1:N<m1:=by omega
 have e2:N+1<m1:=by omega
 simp[a2,a3,f1,f2,e1,e2,Zam,slc]
 refine Zab (Zjs (s3.keep k1) (s2.keep k1) (by omega) (by omega)) ?_
 rintro v6 h2 m2 k2 q2
 have kle2:=k2.le
 have w1:=Zl3 p.num ((q.den:Nat):Int)
 have w2:=Zl3 q.num ((p.den:Nat):Int)
 have w3:=Zl3 ((p.den:Nat):Int) ((q.den:Nat):Int)
 have w4:=Zza (p.num*((q.den:Nat):Int)) (q.num*((p.den:Nat):Int))
 simp[]
 refine Zab (Zsm (q1.keep k2) q2 (by omega) (by omega)) ?_
 rintro v7 h3 m3 k3 q3
 have kle3:=k3.le
 have k13:=(k1.trans k2).trans k3
 have f4:=(k13.get N (by omega)).trans b1
 have f5:=(k13.get (N+1) (by omega)).trans b2
 have e3:N<m3:=by omega
 have e4:N+1<m3:=by omega
 simp[a2,a3,f4,f5,e3,e4,Zam,slc]
 refine Zab (Zjs (s2.keep k13) (s4.keep k13) (by omega) (by omega)) ?_
 rintro v8 h4 m4 k4 q4
 have kle4:=k4.le
 have k14:=k13.trans k4
 have hd:((p.den:Nat):Int)*((q.den:Nat):Int)≠0:=by
  have:=p.den_nz
  have:=q.den_nz
  exact Yvf (by omega) (by omega)
 simp[]
 refine Zab (Ybg (q3.keep k4) q4 hd (by omega) (by omega)) ?_
 rintro v9 h5 m5 k5 hv
 have hp0:((p.den:Nat):Int)≠0:=by have:=p.den_nz;omega
 have hq0:((q.den:Nat):Int)≠0:=by have:=q.den_nz;omega
 rw[←Rat.divInt_add_divInt _ _ hp0 hq0,Yuf,Yuf]at hv
 obtain⟨n5,u5,n6,u6,rfl,t1,t2⟩:=hv
 have o5:=Za9 t1
 have o6:=Za9 t2
 unfold V.one at o5 o6
 have kle5:=k5.le
 have k15:=k14.trans k5
 have f6:=(k15.get (N+2) (by omega)).trans b3
 have e5:N+2<m5:=by omega
 simp[a4,f6,e5,splice,Zan,o5,o6,Zav.chk]
 have n2':¬N+2<N:=by omega
 refine⟨by simp[Zac,hW,n2'],fun i hi=>?_,by show N+3≤m5;omega,n5,u5,n6,u6,by show T.get (T.set _ _ _) _=_;rw[T.get_set,Yru rfl],n5,u5,n6,u6,rfl,t1.setNU (i:=N+2) f6 nu0 rfl,t2.setNU (i:=N+2) f6 nu0 rfl⟩
 show T.get (T.set _ _ _) _=_
 rw[T.get_set,Yrq (by omega),k15.get i (by omega)]
theorem Ycf{x y:V}{p:Rat}{h:T O}{N:Nat}(hx:Fc h N x p)(hy:Fc h N y q)(l1:wl p.num<1000000)(l2:wl (p.den:Nat)<1000000)(l3:wl q.num<1000000)(l4:wl (q.den:Nat)<1000000):Fn A.C 120 [x,y] h N (fun v h' n'=>Fc h' n' v (p+q)):=by
 intro w
 rw[Zaa,A.k120 (by simp)]
 have hx0:=hx
 have hy0:=hy
 obtain⟨n1,u1,n2,u2,rfl,s1,s2⟩:=hx
 obtain⟨n3,u3,n4,u4,rfl,s3,s4⟩:=hy
 have o1:=Za9 s1
 have o2:=Za9 s2
 have o3:=Za9 s3
 have o4:=Za9 s4
 unfold V.one at o1 o2 o3 o4
 have kB:Keeps h N (((h.set N (.cells [.int .i64 n1,u1,.int .i64 n2,u2] 114 true)).set (N+1) (.cells [.int .i64 n3,u3,.int .i64 n4,u4] 114 true)).set (N+2) (.cells [.int .i64 0,.nilslice,.int .i64 0,.nilslice] 114 true)) (N+3):=kset (kset (kset Keeps.refl _) _) _
 simp[A.b120,Zam,slc,o1,o2,o3,o4]
 generalize hhB:((h.set N (.cells [.int .i64 n1,u1,.int .i64 n2,u2] 114 true)).set (N+1) (.cells [.int .i64 n3,u3,.int .i64 n4,u4] 114 true)).set (N+2) (.cells [.int .i64 0,.nilslice,.int .i64 0,.nilslice] 114 true)=hB at*
 have b1:hB.get N=some (.cells [.int .i64 n1,u1,.int .i64 n2,u2] 114 true):=by rw[←hhB];simp
 have b2:hB.get (N+1)=some (.cells [.int .i64 n3,u3,.int .i64 n4,u4] 114 true):=by rw[←hhB];simp
 have b3:hB.get (N+2)=some (.cells [.int .i64 0,.nilslice,.int .i64 0,.nilslice] 114 true):=by rw[←hhB];simp
 refine Zab (Yb0 (hx0.keep kB)) ?_
 rintro _ h0 m0 k0 rfl
 have kle0:=k0.le
 have k0':=kB.trans k0
 have d1:=(k0.get N (by omega)).trans b1
 have d2:=(k0.get (N+1) (by omega)).trans b2
 have d3:=(k0.get (N+2) (by omega)).trans b3
 by_cases cp:p.den=1
 ·simp[cp,d2,Zam,slc]
  refine Zab (Yb0 (hy0.keep k0')) ?_
  rintro _ h1 m1 k1 rfl
  have kle1:=k1.le
  have g1:=(k1.get N (by omega)).trans d1
  have g2:=(k1.get (N+1) (by omega)).trans d2
  have g3:=(k1.get (N+2) (by omega)).trans d3
  have k1':=k0'.trans k1
  by_cases cq:q.den=1
  ·simp[cq,g1,g2,Zam,slc]
   refine Zab (Zsm (s1.keep k1') (s3.keep k1') (by omega) (by omega)) ?_
   rintro v5 h2 m2 k2 q1
   have kle2:=k2.le
   simp[]
   refine Zab (Zpa q1) ?_
   rintro _ h3 m3 k3 ⟨n5,u5,n6,u6,rfl,t1,t2⟩
   have o5:=Za9 t1
   have o6:=Za9 t2
   unfold V.one at o5 o6
   have kle3:=k3.le
   have f5:=(k3.get (N+2) (by omega)).trans ((k2.get (N+2) (by omega)).trans g3)
   simp[f5,Zam,slc,splice,Zan,o5,o6,Ret]
   have kk:=(k1'.trans k2).trans k3
   have hpq:p+q=((p.num+q.num:Int):Rat):=by rw[Zl4 cp,Zl4 cq];simp
   rw[hpq]
   exact⟨kk.set (by omega),n5,u5,n6,u6,rfl,t1.setNU (i:=N+2) f5 nu0 rfl,t2.setNU (i:=N+2) f5 nu0 rfl⟩
  ·simp[cq]
   refine Za7 (Yp3 (N:=N) (p:=p) (q:=q) (by omega) (by simp[Zac]) g1 g2 g3 (s1.keep k1') (s2.keep k1') (s3.keep k1') (s4.keep k1') l1 l2 l3 l4 (by simp) (by simp) (by simp)) ?_
   rintro e fr ⟨H6,n6,W6⟩ ⟨rfl,r6,rfl,c4,q1,q2,q3,m5,v5,m6,v6,q4,q5⟩
   simp only at q1 q2 q3 q4 q5
   simp[c4,q4,Zam,slc,Ret,q1]
   exact⟨⟨by omega,fun i hi=>(q2 i hi).trans (k1'.get i hi)⟩,q5⟩
 ·simp[cp]
  refine Za7 (Yp3 (N:=N) (p:=p) (q:=q) (by omega) (by simp[Zac]) d1 d2 d3 (s1.keep k0') (s2.keep k0') (s3.keep k0') (s4.keep k0') l1 l2 l3 l4 (by simp) (by simp) (by simp)) ?_
  rintro e fr ⟨H6,n6,W6⟩ ⟨rfl,r6,rfl,c4,q1,q2,q3,m5,v5,m6,v6,q4,q5⟩
  simp only at q1 q2 q3 q4 q5
  simp[c4,q4,Zam,slc,Ret,q1]
  exact⟨⟨by omega,fun i hi=>(q2 i hi).trans (k0'.get i hi)⟩,q5⟩
set_option maxHeartbeats 2000000
def A.b146:Zae:=sr [⟨(some 2),.alloc [(.int .i64 0),.nilslice,(.int .i64 0),.nilslice] 114,none⟩]
 (sr [mv 7 0,⟨(some 8),.call (.const (.func 210 [] [])) [(.tmp 7),(.const (.str [47]))],none⟩,mv 6 8,xt 9 6 0,xt 10 6 1,xt 11 6 2,mv 3 9,mv 4 10,mv 5 11]
 (.seq (sr [mv 12 5,⟨(some 13),.un .not (.tmp 12),none⟩]
 (cd 13
 (sr [mv 14 3,c1 15 211 14,c1 16 189 15,⟨none,.store 4 (.tmp 2) (.tmp 16),none⟩]
 (.ret))
 (.skip)))
 (sr [mv 17 3,c1 18 211 17,mv 19 4,c1 20 211 19,⟨(some 21),.build [(.int .i64 0),.nilslice,(.int .i64 0),.nilslice] [(0,2,(.tmp 18)),(2,2,(.tmp 20))],none⟩,⟨none,.store 4 (.tmp 2) (.tmp 21),none⟩]
 (.ret))))
theorem A.c146:A.F 146=some ⟨22,[.cell 2 (some 4)],A.b146⟩:=by kernel_rfl
def A.k146:=@A.kk 146 _ _ _ A.c146 rfl
theorem Zmk{z:Int}{h:T O}{N:Nat}(hl:(decI z).length≤100000):Fn A.C 211 [.str (decI z)] h N (fun v h' n'=>In h' n' v z):=by
 have hb:(decN z.natAbs).length≤100000:=by
  unfold decI at hl
  split at hl<;>(try simp at hl)<;>omega
 have:=Yaa (s:=decI z) (h:=h) (N:=N) (by rw[Zex];exact Zcy _) (by rw[Zex];exact hb)
 rw[Zg6,Zex,Ze4]at this
 have e:(if decide (z<0)=true then -(z.natAbs:Int) else (z.natAbs:Int))=z:=by
  by_cases hz:z<0<;>simp[hz]<;>omega
 rw[e]at this
 exact this
theorem Ycb{q:Rat}{h:T O}{N:Nat}(l1:(decI q.num).length≤100000)(l2:(decN q.den).length≤100000):Fn A.C 146 [.str (Za1 q)] h N (fun v h' n'=>Fc h' n' v q):=by
 intro w
 have hc:=fun st=>Yh6 (s:=Za1 q) (st:=st) (by unfold Za1;split<;>(try simp)<;>omega)
 rw[Zja]at hc
 have kB:=kset (Keeps.refl (h:=h) (n:=N)) (.cells [.int .i64 0,.nilslice,.int .i64 0,.nilslice] 114 true)
 rw[Zaa,A.k146 (by simp)]
 by_cases c1:q.den=1
 ·have hlt:¬slashAt (Za1 q)<(Za1 q).length:=fun hx=>(Zjb q).1 hx c1
  simp[A.b146,hc,hlt]
  refine Zab (Zmk l1) ?_
  rintro v1 h1 m1 k1 q1
  simp[]
  refine Zab (Zpa q1) ?_
  rintro _ h3 m3 k3 ⟨n5,u5,n6,u6,rfl,t1,t2⟩
  have o5:=Za9 t1
  have o6:=Za9 t2
  unfold V.one at o5 o6
  have kle1:=k1.le
  have kle3:=k3.le
  have kk:=(kB.trans k1).trans k3
  have f5:=((k1.trans k3).get N (by omega))
  rw[T.get_set,Yru rfl]at f5
  simp[f5,Zam,slc,splice,Zan,o5,o6,Ret]
  rw[Zl4 c1]
  exact⟨kk.set (by omega),n5,u5,n6,u6,rfl,t1.setNU f5 nu0 rfl,t2.setNU f5 nu0 rfl⟩
 ·have hlt:slashAt (Za1 q)<(Za1 q).length:=(Zjb q).2 c1
  have hd:=Zjc q c1
  have hdI:decN q.den=decI ((q.den:Nat):Int):=by unfold decI;rw[Yrq (by omega)];rfl
  rw[hdI]at l2 hd
  simp[A.b146,hc,hlt,hd]
  refine Zab (Zmk l1) ?_
  rintro v1 h1 m1 k1 q1
  simp[]
  refine Zab (Zmk l2) ?_
  rintro v2 h2 m2 k2 q2
  obtain⟨n5,u5,rfl,hu5⟩:=q1.cells
  obtain⟨n6,u6,rfl,hu6⟩:=q2.cells
  have o5:=hu5
  have o6:=hu6
  unfold V.one at o5 o6
  have kle1:=k1.le
  have kle2:=k2.le
  have kk:=(kB.trans k1).trans k2
  have f5:=((k1.trans k2).get N (by omega))
  rw[T.get_set,Yru rfl]at f5
  simp[f5,Zam,slc,splice,Zan,o5,o6,Ret]
  exact⟨kk.set (by omega),n5,u5,n6,u6,rfl,(q1.keep k2).setNU f5 nu0 rfl,q2.setNU f5 nu0 rfl⟩
variable {N k:Nat} {h:T O} {q:Rat} {x:V} {z:Int}
def A.b128:Zae:=sr [bx 1 114 0,mc 2 0]
 (sr [fa 3 0 1,lN 4 2 3,c1 5 199 4,mv 2 5]
 (.ret))
theorem A.c128:A.F 128=some ⟨6,[.tmp 2],A.b128⟩:=by kernel_rfl
def A.k128:=@A.kk 128 _ _ _ A.c128 rfl
def A.b106:Zae:=sr [bx 1 114 0,⟨(some 2),.mov (.const (.bool false)),none⟩]
 (sr [fa 3 0 1,lN 4 2 3,c1 5 170 4,mv 6 5,⟨(some 7),.faddr 2 (.tmp 1),(some (6,false))⟩,⟨(some 8),.load (some 2) (.tmp 7),(some (6,false))⟩,⟨(some 9),.call (.const (.func 170 [] [])) [(.tmp 8)],(some (6,false))⟩,pt 10 6 9,mv 2 10]
 (.ret))
theorem A.c106:A.F 106=some ⟨11,[.tmp 2],A.b106⟩:=by kernel_rfl
def A.k106:=@A.kk 106 _ _ _ A.c106 rfl
def A.b170:Zae:=sr [bx 1 112 0,⟨(some 2),.mov (.const (.bool false)),none⟩]
 (sr [lN 3 2 1,c1 4 239 3,bc 5 .gtr 4 1800,mv 6 5,⟨(some 7),.load (some 2) (.tmp 1),(some (6,true))⟩,⟨(some 8),.call (.const (.func 172 [] [])) [(.tmp 7)],(some (6,true))⟩,⟨(some 9),.call (.const (.func 240 [] [])) [(.tmp 8),(.const (.str [45]))],(some (6,true))⟩,⟨(some 10),.len 0 (.tmp 9),(some (6,true))⟩,⟨(some 11),.bin .gtr (.node []) false (.tmp 10) (.const (.int .i64 600)),(some (6,true))⟩,pf 12 6 11,mv 2 12]
 (.ret))
theorem A.c170:A.F 170=some ⟨13,[.tmp 2],A.b170⟩:=by kernel_rfl
def A.k170:=@A.kk 170 _ _ _ A.c170 rfl
def A.b239:Zae:=sr [bx 1 112 0,mc 2 0]
 (sr [lN 6 2 1,c1 7 222 6,mv 5 7,xt 8 5 0,xt 9 5 1,mv 3 8,mv 4 9]
 (.seq (sr [mv 10 4,ln 11 10,ei 12 11 0]
 (cd 12
 (sr [mc 2 0]
 (.ret))
 (.skip)))
 (sr [mv 13 4,ln 14 13,bc 15 .sub 14 1,⟨(some 16),.bin .mul (.node []) false (.const (.int .i64 64)) (.tmp 15),none⟩,mv 17 4,mv 18 4,ln 19 18,bc 20 .sub 19 1,ia 21 1 17 20,ld 22 21,c1 23 268 22,bi 24 .add 16 23,mv 2 24]
 (.ret))))
theorem A.c239:A.F 239=some ⟨25,[.tmp 2],A.b239⟩:=by kernel_rfl
def A.k239:=@A.kk 239 _ _ _ A.c239 rfl
theorem Fc.parts(s:Fc h N x q):∃n1 u1 n2 u2,x=.agg [.int .i64 n1,u1,.int .i64 n2,u2]∧In h N (.agg [.int .i64 n1,u1]) q.num∧In h N (.agg [.int .i64 n2,u2]) (q.den:Int)∧V.one u1=true∧V.one u2=true:=by
 obtain⟨n1,u1,n2,u2,rfl,s1,s2⟩:=s
 exact⟨n1,u1,n2,u2,rfl,s1,s2,Za9 s1,Za9 s2⟩
theorem Yfx(hx:Fc h N x q):Fn A.C 128 [x] h N (fun v _ _=>v=.int .i64 (sg3 q.num)):=by
 intro w
 obtain⟨n1,u1,n2,u2,rfl,s1,s2,o1,o2⟩:=hx.parts
 unfold V.one at o1 o2
 rw[Zaa,A.k128 (by simp)]
 have k0:=(Keeps.refl (h:=h) (n:=N)).new (.cells [.int .i64 n1,u1,.int .i64 n2,u2] 114 true)
 simp[A.b128,Zam,slc,o1,o2]
 refine Zab (Zij (s1.keep k0)) ?_
 rintro _ h1 m1 k1 rfl
 simp[Ret]
 exact k0.trans k1
theorem Ygy{n d:Nat}(hk:(wds n).length=k+1)(hd:(wds n)[k]?=some d):n<2^(64*k+blen d):=by
 have h1:=Zbp n
 have h2:=Zby (b:=B) hd
 rw[Yr1 (by omega),h1]at h2
 have h3:val B ((wds n).take k)<B^k:=by
  have:=Zk1 (b:=B) (l:=(wds n).take k) (fun x hx=>Zde n x (Yt5 hx))
  rw[Ysg,Ysy (by omega)]at this;exact this
 have h4:d+1≤2^blen d:=Zp9 d
 have h5:B^k*(d+1)≤B^k*2^blen d:=Yr9 _ h4
 have h6:B^k=2^(64*k):=by rw[Nat.pow_mul];rfl
 rw[Ysx,←h6]
 rw[Yts]at h5
 omega
theorem Zt2{n b:Nat}(h:600<(decN n).length)(hb:n<2^b):1800<b:=by
 apply Classical.byContradiction
 intro hc
 obtain⟨M,hM⟩:∃M:Nat,M=600:=⟨_,rfl⟩
 have h1:n<2^(3*M):=Yr3 hb (Zmo (by omega))
 have h2:(2:Nat)^(3*M)≤10^M:=by
  rw[Nat.pow_mul]
  exact Yuo (by decide) _
 have h3:=(Zix (n:=n) (k:=M) (by omega)).2 (Yr3 h1 h2)
 omega
theorem Ylr(hx:In h N x z)(hl:wl z<10000000):Fn A.C 239 [x] h N (fun v _ _=>∃b:Nat,v=.int .i64 b∧z.natAbs<2^b):=by
 intro w
 obtain⟨n,u,rfl,hu⟩:=hx.cells
 have hu':=hu
 unfold V.one at hu'
 have k0:=(Keeps.refl (h:=h) (n:=N)).new (.cells [.int .i64 n,u] 112 true)
 rw[Zaa,A.k239 (by simp)]
 simp[A.b239,Zam,slc,hu']
 refine Zab (Zen (hx.keep k0)) ?_
 rintro _ h1 m1 k1 ⟨u2,rfl,hw⟩
 have hlen:=Sl.len hw
 rw[Zad]at hlen
 by_cases h0:(wds z.natAbs).length=0
 ·rw[h0]at hlen
  have hz:z.natAbs=0:=by
   have:=Zbp z.natAbs
   rw[Yr8 h0]at this
   simpa[val]using this.symm
  simp[hlen,Ret]
  exact⟨k0.trans k1,0,rfl,by omega⟩
 ·obtain⟨k,hk⟩:∃k,(wds z.natAbs).length=k+1:=⟨(wds z.natAbs).length-1,by omega⟩
  rw[hk]at hlen
  obtain⟨d,hd⟩:=Zag (l:=wds z.natAbs) (k:=k) (by omega)
  obtain⟨i,o,c,e,rw,q1,q2,q3,q4⟩:=Sl.at hw (Zbb hd)
  have hdB:d<18446744073709551616:=(Zde _).get hd
  have hkl:k+1<10000000:=by
   have:=hl
   unfold wl at this
   omega
  have hbl:blen d≤64:=by
   apply Classical.byContradiction
   intro hc
   have h1:d≠0:=fun h=>by rw[h]at hc;simp[blen]at hc
   have h2:=Zky h1
   have h3:=Zmo (j:=64) (k:=blen d-1) (by omega)
   have h4:(2:Nat)^64=18446744073709551616:=by decide
   omega
  have c1:¬((k:Int)+1=0):=by omega
  have c2:Zar .i64 ((k:Int)+1-1)=(k:Int):=by rw[Zai (by omega) (by omega)];omega
  have c3:Zar .i64 (64*(k:Int))=64*(k:Int):=Zai (by omega) (by omega)
  have c4:Zar .i64 (64*(k:Int)+(blen d:Nat))=64*(k:Int)+(blen d:Nat):=Zai (by omega) (by omega)
  have c5:(k:Int)<(k:Int)+1:=by omega
  simp(disch:=omega) [hlen,c1,c3,q1,q3,q4]
  refine Zab (Zpw hdB) ?_
  rintro _ h2 m2 k2 ⟨rfl,rfl,rfl⟩
  simp[c4,Ret]
  exact⟨k0.trans k1,64*k+blen d,by simp,Ygy hk hd⟩
theorem Ybk(hx:In h N x z)(hP:P10 h N)(hl:wl z<10000000)(hd:(Zcw z.natAbs).length<1000000):Fn A.C 170 [x] h N (fun v _ _=>v=.bool (decide (600<(decN z.natAbs).length))):=by
 intro w
 obtain⟨n,u,rfl,hu⟩:=hx.cells
 have hu':=hu
 unfold V.one at hu'
 have k0:=(Keeps.refl (h:=h) (n:=N)).new (.cells [.int .i64 n,u] 112 true)
 have g0:(h.set N (.cells [.int .i64 n,u] 112 true)).get N=some (.cells [.int .i64 n,u] 112 true):=by rw[T.get_set,Yru rfl]
 rw[Zaa,A.k170 (by simp)]
 simp[A.b170,Zam,slc,hu']
 refine Zab (Ylr (hx.keep k0) hl) ?_
 rintro _ h1 m1 k1 ⟨b,rfl,hb⟩
 have g1:=(k1.get N (by omega)).trans g0
 by_cases hbb:1800<b
 ·have hbb':(1800:Int)<(b:Int):=by omega
  simp[hbb',g1,Zam,slc]
  refine Zab (Zjh ((hx.keep k0).keep k1) ((hP.keep k0).keep k1) (by omega)) ?_
  rintro _ h2 m2 k2 rfl
  have ht:=fun st=>Zje (s:=decI z) (st:=st)
  rw[Zex]at ht
  simp[ht,Ret]
  exact⟨(k0.trans k1).trans k2,by omega⟩
 ·have hbb':¬(1800:Int)<(b:Int):=by omega
  have hno:¬600<(decN z.natAbs).length:=fun hc=>hbb (Zt2 hc hb)
  simp[hbb',hno,Ret]
  exact k0.trans k1
theorem Zh4(h:z.natAbs<2^k):wl z≤k:=by
 have:=Ze8 (Yr3 h (Yuo (by decide) k))
 unfold wl at this ⊢
 rwa [Yrw]at this
theorem Zr0(hx:Fc h N x q)(hP:P10 h N)(hq:Qb k q)(hk:k≤400000):Fn A.C 106 [x] h N (fun v _ _=>v=.bool (Zwg q)):=by
 intro w
 obtain⟨n1,u1,n2,u2,rfl,s1,s2,o1,o2⟩:=hx.parts
 unfold V.one at o1 o2
 have k0:=(Keeps.refl (h:=h) (n:=N)).new (.cells [.int .i64 n1,u1,.int .i64 n2,u2] 114 true)
 have g0:(h.set N (.cells [.int .i64 n1,u1,.int .i64 n2,u2] 114 true)).get N=some (.cells [.int .i64 n1,u1,.int .i64 n2,u2] 114 true):=by rw[T.get_set,Yru rfl]
 have l1:=Ziy hq.1
 have l2:=Ziy hq.2
 have z1:=Zh4 hq.1
 have z2:=Zh4 (z:=(q.den:Int)) (k:=k) (by rw[Yrw];exact hq.2)
 rw[Zaa,A.k106 (by simp)]
 simp[A.b106,Zam,slc,o1,o2]
 refine Zab (Ybk (s1.keep k0) (hP.keep k0) (by omega) (by omega)) ?_
 rintro _ h1 m1 k1 rfl
 have g1:=(k1.get N (by omega)).trans g0
 unfold Zwg
 by_cases c1:600<(decN q.num.natAbs).length
 ·simp[c1,Ret]
  exact k0.trans k1
 ·simp[c1,g1,Zam,slc]
  refine Zab (Ybk ((s2.keep k0).keep k1) ((hP.keep k0).keep k1) (by omega) (by rw[Yrw];omega)) ?_
  rintro _ h2 m2 k2 rfl
  simp[Ret]
  exact(k0.trans k1).trans k2
variable {N:Nat} {h:T O} {l:List Rat} {q:Rat} {v:V}
set_option maxHeartbeats 1000000
def A.lb72_0:Zae:=sr [bi 12 .lss 11 10]
 (.seq (cd 12
 (.skip)
 (.exit 0))
 (.seq (.block 1 (sr [mv 13 11,ia 14 1 9 11,ld 15 14,mv 4 13,mv 5 15]
 (.reg [mv 16 3,mv 17 4,mv 18 5,c1 19 146 18,ia 20 4 16 17,⟨none,.store 4 (.tmp 20) (.tmp 19),none⟩])))
 (.reg [bc 21 .add 11 1,mv 11 21])))
def A.b72:Zae:=sr [mN 2]
 (sr [mv 6 0,ln 7 6,⟨(some 8),.mkslice 114 4 64 [(.int .i64 0),.nilslice,(.int .i64 0),.nilslice] (.tmp 7) (.tmp 7),none⟩,mv 3 8]
 (.seq (sr [mv 9 0,ln 10 9,mc 11 0]
 (.block 0 (.loop A.lb72_0)))
 (sr [mv 22 3,mv 2 22]
 (.ret))))
theorem A.c72:A.F 72=some ⟨23,[.tmp 2],A.b72⟩:=by kernel_rfl
def A.k72:=@A.kk 72 _ _ _ A.c72 rfl
def A.lb152_0:Zae:=sr [bi 12 .lss 11 10]
 (.seq (cd 12
 (.skip)
 (.exit 0))
 (.seq (.block 1 (sr [mv 13 11,ia 14 4 9 11,lN 15 4 14,⟨(some 5),.alloc [(.int .i64 0),.nilslice,(.int .i64 0),.nilslice] 114,none⟩,mv 4 13,⟨none,.store 4 (.tmp 5) (.tmp 15),none⟩]
 (.reg [mv 16 3,mv 17 4,lN 18 4 5,c1 19 107 18,ia 20 1 16 17,so 20 19])))
 (.reg [bc 21 .add 11 1,mv 11 21])))
def A.b152:Zae:=sr [mN 2]
 (sr [mv 6 0,ln 7 6,⟨(some 8),.mkslice 36 1 16 [(.str [])] (.tmp 7) (.tmp 7),none⟩,mv 3 8]
 (.seq (sr [mv 9 0,ln 10 9,mc 11 0]
 (.block 0 (.loop A.lb152_0)))
 (sr [mv 22 3,mv 2 22]
 (.ret))))
theorem A.c152:A.F 152=some ⟨23,[.tmp 2],A.b152⟩:=by kernel_rfl
def A.k152:=@A.kk 152 _ _ _ A.c152 rfl
def FcC(h:T O)(N:Nat)(c:List V)(q:Rat):Prop:=∃n1 u1 n2 u2,c=[.int .i64 n1,u1,.int .i64 n2,u2]∧In h N (.agg [.int .i64 n1,u1]) q.num∧In h N (.agg [.int .i64 n2,u2]) (q.den:Int)
theorem FcC.keep{h':T O}{N':Nat}{c:List V}(s:FcC h N c q)(k:Keeps h N h' N'):FcC h' N' c q:=by
 obtain⟨n1,u1,n2,u2,rfl,s1,s2⟩:=s
 exact⟨n1,u1,n2,u2,rfl,s1.keep k,s2.keep k⟩
theorem FcC.fc{c:List V}(s:FcC h N c q):Fc h N (.agg c) q:=by
 obtain⟨n1,u1,n2,u2,rfl,s1,s2⟩:=s
 exact⟨n1,u1,n2,u2,rfl,s1,s2⟩
theorem Fc.c{x:V}(s:Fc h N x q):∃c,x=.agg c∧FcC h N c q:=by
 obtain⟨n1,u1,n2,u2,rfl,s1,s2⟩:=s
 exact⟨_,rfl,n1,u1,n2,u2,rfl,s1,s2⟩
def NoU(c:List V):Prop:=∀x∈c,∀m,x≠.int .u64 m
theorem Zvw{n:Int}{u:V}{z:Int}(s:In h N (.agg [.int .i64 n,u]) z):∀m,u≠.int .u64 m:=by
 rcases s with⟨h1,_⟩|⟨i,o,l,c,h1,_⟩
 ·simp at h1;rw[h1.2];simp
 ·simp at h1;rw[h1.2];simp
theorem FcC.noU{c:List V}(s:FcC h N c q):NoU c:=by
 obtain⟨n1,u1,n2,u2,rfl,s1,s2⟩:=s
 intro x hx m
 simp at hx
 rcases hx with rfl|rfl|rfl|rfl
 ·simp
 ·exact Zvw s1 m
 ·simp
 ·exact Zvw s2 m
theorem FcC.len{c:List V}(s:FcC h N c q):c.length=4∧c.all V.one=true:=by
 obtain⟨n1,u1,n2,u2,rfl,s1,s2⟩:=s
 have o1:=Za9 s1
 have o2:=Za9 s2
 exact⟨rfl,by simp only[List.all_cons,List.all_nil,o1,o2,Bool.and_true];rfl⟩
theorem FcC.setNU{i:Nat}{c c0 c1:List V}{e0 e1:TypeId}{w0 w1:Bool}(s:FcC h N c q)(g:h.get i=some (.cells c0 e0 w0))(hn:NoU c0)(hc:c1.length=c0.length):FcC (h.set i (.cells c1 e1 w1)) N c q:=by
 obtain⟨n1,u1,n2,u2,rfl,s1,s2⟩:=s
 exact⟨n1,u1,n2,u2,rfl,s1.setNU g hn hc,s2.setNU g hn hc⟩
def FrS(h:T O)(N:Nat)(v:V)(l:List Rat):Prop:=∃cs:List (List V),Sn 4 h N v cs∧cs.length=l.length∧∀(j:Nat) (q:Rat),l[j]?=some q→∃c,cs[j]?=some c∧FcC h N c q
theorem FrS.keep{h':T O}{N':Nat}(s:FrS h N v l)(k:Keeps h N h' N'):FrS h' N' v l:=by
 obtain⟨cs,h1,h2,h3⟩:=s
 refine⟨cs,h1.keep k,h2,fun j q hq=>?_⟩
 obtain⟨c,g1,g2⟩:=h3 j q hq
 exact⟨c,g1,g2.keep k⟩
theorem FrS.len(s:FrS h N v l):Zlh v=some l.length:=by
 obtain⟨cs,h1,h2,_⟩:=s
 rw[h1.len,h2]
theorem FrS.at(s:FrS h N v l){j:Nat}{q:Rat}(hj:l[j]?=some q):∃i o x e rw c,Znr v=some (i,o)∧i<N∧h.get i=some (.cells x e rw)∧slc x (o+j*4) 4=some c∧FcC h N c q:=by
 obtain⟨cs,h1,h2,h3⟩:=s
 obtain⟨c,h4,h5⟩:=h3 j q hj
 obtain⟨i,o,x,e,rw,q1,q2,q3,q4⟩:=h1.at h4
 exact⟨i,o,x,e,rw,c,q1,q2,q3,q4,h5⟩
def FrT(h:T O)(N:Nat)(v:V)(l:List Rat):Prop:=FrS h N v l∧∀i∈Zeg v,∃z w,h.get i=some (.cells z 114 w)
def tx(l:List Rat):List V:=strs (l.map Za1)
theorem Zh9(l:List Rat):(tx l).length=l.length:=by simp[tx,strs]
theorem Zjd{j:Nat}(h:l[j]?=some q):(tx l)[j]?=some (.str (Za1 q)):=by simp[tx,strs,h]
def zF:List V:=[.int .i64 0,.nilslice,.int .i64 0,.nilslice]
theorem Zhm{z:List V}{n:Nat}:Zd5 z (n+1)=z++Zd5 z n:=by
 unfold Zd5
 rw[Nat.succ_mul,Nat.add_comm (n*z.length),List.range_add,List.map_append,List.map_map]
 congr 1
 ·apply Ysk
  intro j
  by_cases hj:j<z.length
  ·rw[Ysd,Yvc hj]
   simp[Yti hj,hj]
  ·rw[Yr2 (by simp;omega),Yr2 (by omega)]
 ·apply Yvd
  intro i _
  simp[Nat.add_mod_left]
theorem Zkl{a b c x:List V}{n o:Nat}(ha:a.length=o)(hb:b.length=n)(hx:x.length=n):splice (a++(b++c)) o x=a++(x++c):=by
 unfold splice
 rw[←ha,List.take_left,hx,←List.drop_drop,List.drop_left,←hb,List.drop_left,Ysz]
structure FaI (h:T O) (N:Nat) (l:List Rat) (m:Nat) (r:T V) (st:St):Prop where
 w:Zac N st.w=[]
 keep:Keeps h N st.h st.n
 ex:∃(k:Nat) (cs:List (List V)),k+m=l.length∧r.get 11=some (.int .i64 k)∧r.get 3=some (.slice N 0 l.length (some l.length) 4)∧N<st.n∧st.h.get N=some (.cells (cs.flatten++Zd5 zF m) 114 true)∧cs.length=k∧∀(j:Nat) (q:Rat),j<k→l[j]?=some q→∃c,cs[j]?=some c∧FcC st.h st.n c q
theorem Zp1{cs:List (List V)}(hl:cs.length≤l.length)(hc:∀(j:Nat) (q:Rat),j<cs.length→l[j]?=some q→∃c,cs[j]?=some c∧FcC h N c q):(∀c∈cs,c.length=4)∧NoU cs.flatten∧cs.flatten.all V.one=true:=by
 have key:∀c∈cs,∃q,FcC h N c q:=fun c hcm=>by
  obtain⟨j,hj⟩:=Yuu hcm
  have hlt:=Zbk hj
  obtain⟨q,hq⟩:=Zag (l:=l) (k:=j) (by omega)
  obtain⟨c',h1,h2⟩:=hc j q hlt hq
  rw[hj]at h1
  simp only[Yro]at h1
  subst h1
  exact⟨q,h2⟩
 refine⟨fun c hcm=>?_,fun x hx m=>?_,?_⟩
 ·obtain⟨q,hq⟩:=key c hcm;exact hq.len.1
 ·obtain⟨c,hcm,hxc⟩:=List.mem_flatten.1 hx
  obtain⟨q,hq⟩:=key c hcm
  exact hq.noU x hxc m
 ·rw[Ysu]
  intro x hx
  obtain⟨c,hcm,hxc⟩:=List.mem_flatten.1 hx
  obtain⟨q,hq⟩:=key c hcm
  exact Ysu.1 hq.len.2 x hxc
theorem Zo7:∀{n:Nat},NoU (Zd5 zF n)
 |0=>by intro x hx;simp[Zd5]at hx
 |n+1=>by
  intro x hx m
  rw[Zhm]at hx
  rcases Ys1.1 hx with hx|hx
  ·simp[zF]at hx
   rcases hx with rfl|rfl|rfl|rfl<;>simp
  ·exact Zo7 x hx m
theorem NoU.app{a b:List V}(ha:NoU a)(hb:NoU b):NoU (a++b):=fun x hx m=>by
 rcases Ys1.1 hx with hx|hx
 ·exact ha x hx m
 ·exact hb x hx m
theorem Yha(n:Nat):(Zd5 zF n).length=n*4:=by
 induction n with
 |zero=>simp[Zd5]
 |succ n ih=>rw[Zhm,Yr4,ih];simp[zF];omega
theorem Zew{k0:Nat}(hs:Sl h N v (tx l))(hl:l.length<1000000)(hq:∀q∈l,Qb k0 q)(hk0:k0≤4000):Fn A.C 72 [v] h N (fun u h' n'=>FrT h' n' u l):=by
 intro w
 have hlen:=hs.len
 rw[Zh9]at hlen
 have c1:(64:Int)*(l.length:Int)≤140737488355328:=by omega
 have c2:(l.length:Int)<4611686018427387904:=by omega
 have kB:Keeps h N (h.set N (.cells (Zd5 zF l.length) 114 true)) (N+1):=Keeps.refl.new _
 rw[Zaa,A.k72 (by simp)]
 simp[A.b72,hlen,c1,c2]
 refine Zaj [(4,5),(11,21)] (fun e r st=>e=.exit 0∧FaI h N l 0 r st) (FaI h N l) l.length ?_ ?_ ?_
 ·exact⟨by simp,kB,0,[],by omega,by simp,by simp,by show N<N+1;omega,by rw[T.get_set,Yru rfl];rfl,rfl,fun j q hj=>by omega⟩
 ·rintro m r ⟨H,n1,W⟩ hr hf ⟨hW,hK,k,cs,hk,h11,h3,hN1,hM,hcl,hcs⟩
  simp only at hW hK hM hN1 hcs
  rw[Zah]
  cases m with
  |zero=>
   obtain rfl:k=l.length:=by omega
   simp[A.lb72_0,hr,hf,h11]
   exact⟨hW,hK,l.length,cs,by omega,by simp[h11],by simp[h3],hN1,hM,hcl,hcs⟩
  |succ m=>
   have hlt:k<l.length:=by omega
   have hlt':(k:Int)<(l.length:Int):=by omega
   obtain⟨q,hqk⟩:=Zag hlt
   have hqb:=hq q (Yrv hqk)
   obtain⟨i,o,cc,e,rw,q1,q2,q3,q4⟩:=(hs.keep hK).at (Zjd hqk)
   have la:=Zkw hqb.1
   have la2:=Ziw hqb.2
   simp[A.lb72_0,hr,h11,hlt',hlen,q1,q3,q4]
   refine Zab (Ycb (q:=q) (by omega) (by omega)) ?_
   rintro _ H2 n2 k2 hf2
   obtain⟨c,rfl,hc⟩:=hf2.c
   have le2:=k2.le
   have nle:=hK.le
   have hM2:=(k2.get N hN1).trans hM
   have hcs2:∀(j:Nat) (q:Rat),j<cs.length→l[j]?=some q→∃c,cs[j]?=some c∧FcC H2 n2 c q:=fun j q hj hq=>by
    obtain⟨c,g1,g2⟩:=hcs j q (by omega) hq
    exact⟨c,g1,g2.keep k2⟩
   obtain⟨f1,f2,f3⟩:=Zp1 (l:=l) (by omega) hcs2
   have hfl:=Zb9 f1
   obtain⟨e1,e2⟩:=hc.len
   have hsp:splice (cs.flatten++Zd5 zF (m+1)) (k*4) c=(cs++[c]).flatten++Zd5 zF m:=by
    rw[Zhm,Zkl (n:=4) (by rw[hfl,hcl]) rfl e1,Zlv,Ysz]
   have hb:k*4+4≤(cs.flatten++Zd5 zF (m+1)).length:=by
    rw[Yr4,hfl,Yha];omega
   have hcc:(V.agg c).cells=c:=rfl
   have hnu:NoU (cs.flatten++Zd5 zF (m+1)):=f2.app Zo7
   have hlen4:((cs++[c]).flatten++Zd5 zF m).length=(cs.flatten++Zd5 zF (m+1)).length:=by
    rw[Zhm,Zlv];simp[e1,zF];omega
   generalize cs.flatten++Zd5 zF (m+1)=X at*
   obtain⟨Y,hY⟩:∃Y,(cs++[c]).flatten++Zd5 zF m=Y:=⟨_,rfl⟩
   rw[hY]at hsp hlen4
   simp(disch:=first|(simp;done)|omega|(simp only[Zad,Zaf,Yrp];omega)|rfl) [-V.cells, -V.one,hf,h11,hM2,Zan,hcc,e1,e2,hb,hsp]
   have wok:¬N<N:=by omega
   refine⟨m,by omega,⟨by simp[Zac,hW],(hK.trans k2).set (Yrr N),k+1,cs++[c],by omega,by simp,by simp[h3],by show N<n2;omega,by show T.get _ N=_;rw[T.get_set,Yru rfl,hY],by simp[hcl],fun j q' hj hq'=>?_⟩⟩
   by_cases hjk:j<k
   ·obtain⟨c',g1,g2⟩:=hcs j q' hjk hq'
    exact⟨c',by rw[Ysc (by omega)];exact g1,(g2.keep k2).setNU hM2 hnu hlen4⟩
   ·obtain rfl:j=k:=by omega
    rw[hqk]at hq'
    simp only[Yro]at hq'
    subst hq'
    exact⟨c,by rw[Ysm (by omega),hcl];simp,hc.setNU hM2 hnu hlen4⟩
 ·rintro _ r ⟨H,n1,W⟩ hr ⟨rfl,hW,hK,k,cs,hk,h11,h3,hN1,hM,hcl,hcs⟩
  simp only at hW hK hM hN1 hcs
  obtain rfl:k=l.length:=by omega
  simp[hr,Ret,hW,hK]
  have hz:Zd5 zF 0=[]:=by simp[Zd5]
  obtain⟨f1,_,_⟩:=Zp1 (l:=l) (by omega) (fun j q hj hq=>hcs j q (by omega) hq)
  have hfl:=Zb9 f1
  rw[hz,Ytm]at hM
  refine⟨⟨cs,.inr ⟨N,0,some l.length,cs.flatten,_,true,by rw[hcl],hN1,hM,fun j x hx=>by rw[Yt3];exact Ze5 f1 hx,by omega,fun k hk=>by simp at hk;omega⟩,hcl,fun j q hq=>hcs j q (Zbk hq) hq⟩,fun i hi=>?_⟩
  simp[Zeg]at hi
  subst hi
  exact⟨_,_,hM⟩
structure TaI (h:T O) (N:Nat) (l:List Rat) (m:Nat) (r:T V) (st:St):Prop where
 w:Zac N st.w=[]
 keep:Keeps h N st.h st.n
 ex:∃(k:Nat),k+m=l.length∧r.get 11=some (.int .i64 k)∧r.get 3=some (.slice N 0 l.length (some l.length) 1)∧N<st.n∧st.h.get N=some (.cells (tx (l.take k)++List.replicate m (V.str [])) 36 true)
theorem Yd3{k0:Nat}(hs:FrS h N v l)(hP:P10 h N)(hl:l.length<1000000)(hq:∀q∈l,Qb k0 q)(hk0:k0≤400000):Fn A.C 152 [v] h N (fun u h' n'=>Sl h' n' u (tx l)∧∀i∈Zeg u,N≤i):=by
 intro w
 have hlen:=hs.len
 have c1:(16:Int)*(l.length:Int)≤140737488355328:=by omega
 have c2:(l.length:Int)<4611686018427387904:=by omega
 have kB:Keeps h N (h.set N (.cells (Zd5 [.str []] l.length) 36 true)) (N+1):=Keeps.refl.new _
 rw[Zaa,A.k152 (by simp)]
 simp[A.b152,hlen,c1,c2]
 refine Zaj [(4,5),(11,21)] (fun e r st=>e=.exit 0∧TaI h N l 0 r st) (TaI h N l) l.length ?_ ?_ ?_
 ·exact⟨by simp,kB,0,by omega,by simp,by simp,by show N<N+1;omega,by rw[T.get_set,Yru rfl,Yg9];simp[tx,strs]⟩
 ·rintro m r ⟨H,n1,W⟩ hr hf ⟨hW,hK,k,hk,h11,h3,hN1,hM⟩
  simp only at hW hK hM hN1
  rw[Zah]
  cases m with
  |zero=>
   obtain rfl:k=l.length:=by omega
   simp[A.lb152_0,hr,hf,h11]
   exact⟨hW,hK,l.length,by omega,by simp[h11],by simp[h3],hN1,hM⟩
  |succ m=>
   have hlt:k<l.length:=by omega
   have hlt':(k:Int)<(l.length:Int):=by omega
   obtain⟨q,hqk⟩:=Zag hlt
   have hqb:=hq q (Yrv hqk)
   obtain⟨i,o,x,e,rw,c,q1,q2,q3,q4,q5⟩:=(hs.keep hK).at hqk
   obtain⟨n1',u1,n2',u2,rfl,s1,s2⟩:=q5
   have o1:=Za9 s1
   have o2:=Za9 s2
   unfold V.one at o1 o2
   have la:=Ziy hqb.1
   have la2:=Ziy hqb.2
   have nle:=hK.le
   have e4:splice [.int .i64 0,.nilslice,.int .i64 0,.nilslice] 0 [.int .i64 n1',u1,.int .i64 n2',u2]=[.int .i64 n1',u1,.int .i64 n2',u2]:=rfl
   have e5:slc [.int .i64 n1',u1,.int .i64 n2',u2] 0 4=some [.int .i64 n1',u1,.int .i64 n2',u2]:=rfl
   have kA:Keeps H n1 ((H.set n1 (.cells [.int .i64 0,.nilslice,.int .i64 0,.nilslice] 114 true)).set n1 (.cells [.int .i64 n1',u1,.int .i64 n2',u2] 114 true)) (n1+1):=(Keeps.refl.new _).set (Yrr _)
   simp[A.lb152_0,hr,h11,hlt',hlen,q1,q3,q4,Zam,Zan,o1,o2,e4,e5]
   refine Zab (Zzj (q:=q) (Fc.keep ⟨n1',u1,n2',u2,rfl,s1,s2⟩ kA) ((hP.keep hK).keep kA) (by omega) (by omega)) ?_
   rintro _ H2 n2 k2 rfl
   have le2:=k2.le
   have hM2:=(k2.get N (by omega)).trans ((kA.get N hN1).trans hM)
   have hb:k+1≤(tx (l.take k)++List.replicate (m+1) (V.str [])).length:=by
    rw[Yr4,Zh9,List.length_replicate,Ysg];omega
   have hsp:splice (tx (l.take k)++List.replicate (m+1) (V.str [])) k [.str (Za1 q)]=tx (l.take (k+1))++List.replicate m (V.str []):=by
    have e1:(tx (l.take k)++List.replicate (m+1) (V.str []))=tx (l.take k)++([V.str []]++List.replicate m (V.str [])):=by rw[List.replicate_succ];rfl
    rw[e1,Zkl (n:=1) (by rw[Zh9,Ysg];omega) rfl rfl,Yt1,hqk]
    simp[tx,strs]
   generalize tx (l.take k)++List.replicate (m+1) (V.str [])=X at*
   obtain⟨Y,hY⟩:∃Y,tx (l.take (k+1))++List.replicate m (V.str [])=Y:=⟨_,rfl⟩
   rw[hY]at hsp
   simp(disch:=first|(simp;done)|omega|(simp only[Zad,Zaf,Yrp];omega)|rfl) [hf,h11,hM2,Zan,hb,hsp]
   refine⟨m,by omega,⟨by simp[Zac,hW];omega,((hK.trans kA).trans k2).set (Yrr N),k+1,by omega,by simp,by simp[h3],by show N<n2;omega,by show T.get _ N=_;rw[T.get_set,Yru rfl,hY]⟩⟩
 ·rintro _ r ⟨H,n1,W⟩ hr ⟨rfl,hW,hK,k,hk,h11,h3,hN1,hM⟩
  simp only at hW hK hM hN1
  obtain rfl:k=l.length:=by omega
  rw[Ytq]at hM
  simp only[List.replicate_zero,Ytm]at hM
  simp[hr,Ret,hW,hK]
  exact⟨Sl.row hN1 hM (Zh9 l) (fun k hk=>by simp at hk;omega),by simp[Zeg]⟩
end Go.Mx
