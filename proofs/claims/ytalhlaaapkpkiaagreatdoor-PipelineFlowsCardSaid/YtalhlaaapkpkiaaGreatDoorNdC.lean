/-num-/
import Derived.Test.YtalhlaaapkpkiaaGreatDoorNcE
set_option linter.all false
namespace Go.Mx
open Go Go.Proofs
set_option maxHeartbeats 2000000
set_option maxRecDepth 1000000
noncomputable def A.b150:=A.q Tryz.f150
def A.k150:=@A.kk 150 16 [.tmp 4] A.b150 (by kernel_rfl) rfl
noncomputable def A.b87:=A.q Tryz.f87
def A.k87:=@A.kk 87 16 [.tmp 2] A.b87 (by kernel_rfl) rfl
def Yl6{x y:V}{p q:Rat}{h:T O}{N:Nat}(hx:Fc h N x p)(hy:Fc h N y q)(l1:wl p.num<1000000000)(l2:wl (p.den:Nat)<1000000000)(l3:wl q.num<1000000000)(l4:wl (q.den:Nat)<1000000000):Fn A.C 150 [x,y] h N (fun v _ _=>v=.int .i64 (sg3 (p.num*(q.den:Nat)-q.num*(p.den:Nat)))):=by
 intro w
 rw[Zae,A.k150 (by simp)]
 obtain⟨n1,u1,n2,u2,rfl,s1,s2⟩:=hx
 obtain⟨n3,u3,n4,u4,rfl,s3,s4⟩:=hy
 have o1:=Za7 s1
 have o2:=Za7 s2
 have o3:=Za7 s3
 have o4:=Za7 s4
 unfold V.one at o1 o2 o3 o4
 have kB:Keeps h N ((h.set N (.cells [.int .i64 n1,u1,.int .i64 n2,u2] 175 true)).set (N+1) (.cells [.int .i64 n3,u3,.int .i64 n4,u4] 175 true)) (N+2):=kset (kset Keeps.refl _) _
 simp[A.b150,Zal,slc,splice,o1,o2,o3,o4]
 generalize hhB:(h.set N (.cells [.int .i64 n1,u1,.int .i64 n2,u2] 175 true)).set (N+1) (.cells [.int .i64 n3,u3,.int .i64 n4,u4] 175 true)=hB at*
 have b1:hB.get N=some (.cells [.int .i64 n1,u1,.int .i64 n2,u2] 175 true):=by rw[←hhB];simp
 have b2:hB.get (N+1)=some (.cells [.int .i64 n3,u3,.int .i64 n4,u4] 175 true):=by rw[←hhB];simp
 refine Zaf (Zg7 (s1.keep kB) (s4.keep kB) (by omega) (by omega)) ?_
 rintro v5 h1 m1 k1 q1
 have kle1:=k1.le
 have f1:=(k1.get N (by omega)).trans b1
 have f2:=(k1.get (N+1) (by omega)).trans b2
 have e1:N<m1:=by omega
 have e2:N+1<m1:=by omega
 simp[f1,f2,e1,e2,Zal,slc,splice]
 refine Zaf (Zg7 ((s3.keep kB).keep k1) ((s2.keep kB).keep k1) (by omega) (by omega)) ?_
 rintro v6 h2 m2 k2 q2
 have kle2:=k2.le
 simp[]
 refine Zaf (Yjk (q1.keep k2) q2 ?_ ?_) ?_
 ·have:=Zjb p.num ((q.den:Nat):Int)
  omega
 ·have:=Zjb q.num ((p.den:Nat):Int)
  omega
 ·rintro _ h3 m3 k3 rfl
  simp[Zan.chk,Ret]
  exact((kB.trans k1).trans k2).trans k3
def Yj7{x:V}{q:Rat}{h:T O}{N:Nat}(hx:Fc h N x q)(hP:P10 h N)(l1:(Zc1 q.num.natAbs).length<1000000000)(l2:(Zc1 q.den).length<1000000000):Fn A.C 87 [x] h N (fun v _ _=>v=.str (Zaz q)):=by
 intro w
 rw[Zae,A.k87 (by simp)]
 have hx0:=hx
 obtain⟨n1,u1,n2,u2,rfl,s1,s2⟩:=hx
 have o1:=Za7 s1
 have o2:=Za7 s2
 unfold V.one at o1 o2
 have kB:=kset (Keeps.refl (h:=h) (n:=N)) (.cells [.int .i64 n1,u1,.int .i64 n2,u2] 175 true)
 simp[A.b87,Zal,slc,splice,o1,o2]
 generalize hhB:h.set N (.cells [.int .i64 n1,u1,.int .i64 n2,u2] 175 true)=hB at*
 have b1:hB.get N=some (.cells [.int .i64 n1,u1,.int .i64 n2,u2] 175 true):=by rw[←hhB];simp
 refine Zaf (Yc7 (hx0.keep kB)) ?_
 rintro _ h1 m1 k1 rfl
 have kle1:=k1.le
 have f1:=(k1.get N (by omega)).trans b1
 have kk:=kB.trans k1
 by_cases c1:q.den=1
 ·simp[c1,f1,Zal,slc]
  refine Zaf (Zjl (s1.keep kk) (hP.keep kk) (by omega)) ?_
  rintro _ h2 m2 k2 rfl
  simp[Ret,Zaz,c1]
  exact kk.trans k2
 ·have l0:N<m1:=by omega
  simp[c1,f1,l0,Zal,slc]
  refine Zaf (Zjl (s1.keep kk) (hP.keep kk) (by omega)) ?_
  rintro _ h2 m2 k2 rfl
  have kle2:=k2.le
  have kk2:=kk.trans k2
  have f2:=(k2.get N (by omega)).trans f1
  have l3:N<m2:=by omega
  have hmx:IntKind.max .i64=9223372036854775807:=rfl
  have hS1:(decI q.num).length<2000000000:=by
   have h1:(decN q.num.natAbs).length≤(Zc1 q.num.natAbs).length+1:=by unfold decN;split<;>simp
   unfold decI
   split<;>simp<;>omega
  have hS2:(decN q.den).length<2000000000:=by
   have h1:(decN q.den).length≤(Zc1 q.den).length+1:=by unfold decN;split<;>simp
   omega
  have htx:Zaz q=decI q.num++47::decN q.den:=by unfold Zaz;rw[Ys5 c1]
  have hdI:decI ((q.den:Nat):Int)=decN q.den:=by unfold decI;rw[Ys5 (by omega)];rfl
  rw[htx]
  generalize decI q.num=S1 at*
  have g1:¬(9223372036854775807:Int)<(S1.length:Int)+1:=by omega
  simp[f2,l3,Zbe,hmx,g1,Zal,slc]
  refine Zaf (Zjl (s2.keep kk2) (hP.keep kk2) (by rw[Ytc];omega)) ?_
  rintro _ h3 m3 k3 rfl
  rw[hdI]
  generalize decN q.den=S2 at*
  have g2:¬(9223372036854775807:Int)<(S1.length:Int)+1+(S2.length:Int):=by omega
  simp[Zbe,hmx,g2,Zan.chk,Ret]
  exact kk2.trans k3
set_option maxHeartbeats 4000000
def A.ta153_0:Zav:=.seq (.regD [fa 17 0 2,lN 18 2 17,fa 19 2 3,lN 20 2 19,c2 21 191 18 20,fa 22 0 3,lN 23 2 22,fa 24 2 2,lN 25 2 24,c2 26 191 23 25,c2 27 193 21 26,fa 28 2 2,lN 29 2 28,fa 30 2 3,lN 31 2 30,c2 32 191 29 31,c2 33 196 27 32,gn (.store 4 (tq 4) (tq 33))] [0,1,0,4,15,0,32,0,128,511,1023,0,2048,0,8192,32767,65535,131071])
 (.ret)
def A.b153:Zav:=sr [bx 2 175 0,bx 3 175 1,ge 4 (.alloc [.int .i64 0,.nilslice,.int .i64 0,.nilslice] 175)]
 (.seq (sr [lN 5 4 2,c1 6 158 5,mv 7 6,gy 8 7 (.load (some 4) (tq 3)),gy 9 7 (.call (fq 158) [tq 8]),pf 10 7 9]
 (cd 10
 (sr [fa 11 0 2,lN 12 2 11,fa 13 0 3,lN 14 2 13,c2 15 193 12 14,c1 16 154 15,gn (.store 4 (tq 4) (tq 16))]
 (.ret))
 (.skip)))
 A.ta153_0)
def A.k153:=@A.kk 153 34 [.cell 4 (some 4)] A.b153 (by kernel_rfl) rfl
def Zmi{q:Rat}(h:q.den=1):q=(q.num:Rat):=by
 apply Rat.ext
 ·simp
 ·simp[h]
def Yre{H:T O}{N n:Nat}{W:List Nat}{r:T V}{p q:Rat}{n1 n2 n3 n4:Int}{u1 u2 u3 u4:V}(hn:N+3≤n)(hW:Zac N W=[])(b1:H.get N=some (.cells [.int .i64 n1,u1,.int .i64 n2,u2] 175 true))(b2:H.get (N+1)=some (.cells [.int .i64 n3,u3,.int .i64 n4,u4] 175 true))(b3:H.get (N+2)=some (.cells [.int .i64 0,.nilslice,.int .i64 0,.nilslice] 175 true))
  (s1:In H n (.agg [.int .i64 n1,u1]) p.num) (s2:In H n (.agg [.int .i64 n2,u2]) (p.den:Nat)) (s3:In H n (.agg [.int .i64 n3,u3]) q.num) (s4:In H n (.agg [.int .i64 n4,u4]) (q.den:Nat)) (l1:wl p.num<1000000000) (l2:wl (p.den:Nat)<1000000000) (l3:wl q.num<1000000000) (l4:wl (q.den:Nat)<1000000000) (a2:r.get 2=some (.ptr N 0)) (a3:r.get 3=some (.ptr (N+1) 0)) (a4:r.get 4=some (.ptr (N+2) 0)):
  Code A.C none A.ta153_0 ⟨r,34,[]⟩ ⟨H,n,W⟩ (fun e fr st=>e=.ret∧∃r',fr=⟨r',34,[]⟩∧r'.get 4=some (.ptr (N+2) 0)∧MkE H N (p+q) st):=by
 rw[Zai]
 have o1:=Za7 s1
 have o2:=Za7 s2
 have o3:=Za7 s3
 have o4:=Za7 s4
 unfold V.one at o1 o2 o3 o4
 have z1:N<n:=by omega
 have z2:N+1<n:=by omega
 simp[A.ta153_0,a2,a3,a4,b1,b2,b3,z1,z2,Zal,slc,splice]
 refine Zaf (Zg7 s1 s4 (by omega) (by omega)) ?_
 rintro v5 h1 m1 k1 q1
 have kle1:=k1.le
 have f1:=(k1.get N (by omega)).trans b1
 have f2:=(k1.get (N+1) (by omega)).trans b2
 have f3:=(k1.get (N+2) (by omega)).trans b3
 have e1:N<m1:=by omega
 have e2:N+1<m1:=by omega
 simp[a2,a3,a4,f1,f2,e1,e2,Zal,slc,splice]
 refine Zaf (Zg7 (s3.keep k1) (s2.keep k1) (by omega) (by omega)) ?_
 rintro v6 h2 m2 k2 q2
 have kle2:=k2.le
 have w1:=Zjb p.num ((q.den:Nat):Int)
 have w2:=Zjb q.num ((p.den:Nat):Int)
 have w3:=Zjb ((p.den:Nat):Int) ((q.den:Nat):Int)
 have w4:=Yab (p.num*((q.den:Nat):Int)) (q.num*((p.den:Nat):Int))
 simp[]
 refine Zaf (Zs3 (q1.keep k2) q2 (by omega) (by omega)) ?_
 rintro v7 h3 m3 k3 q3
 have kle3:=k3.le
 have k13:=(k1.trans k2).trans k3
 have f4:=(k13.get N (by omega)).trans b1
 have f5:=(k13.get (N+1) (by omega)).trans b2
 have e3:N<m3:=by omega
 have e4:N+1<m3:=by omega
 simp[a2,a3,a4,f4,f5,e3,e4,Zal,slc,splice]
 refine Zaf (Zg7 (s2.keep k13) (s4.keep k13) (by omega) (by omega)) ?_
 rintro v8 h4 m4 k4 q4
 have kle4:=k4.le
 have k14:=k13.trans k4
 have hd:((p.den:Nat):Int)*((q.den:Nat):Int)≠0:=by
  have:=p.den_nz
  have:=q.den_nz
  exact Yww (by omega) (by omega)
 simp[]
 refine Zaf (Ycq (q3.keep k4) q4 hd (by omega) (by omega)) ?_
 rintro v9 h5 m5 k5 hv
 have hp0:((p.den:Nat):Int)≠0:=by have:=p.den_nz;omega
 have hq0:((q.den:Nat):Int)≠0:=by have:=q.den_nz;omega
 rw[←Rat.divInt_add_divInt _ _ hp0 hq0,Yvx,Yvx]at hv
 obtain⟨n5,u5,n6,u6,rfl,t1,t2⟩:=hv
 have o5:=Za7 t1
 have o6:=Za7 t2
 unfold V.one at o5 o6
 have kle5:=k5.le
 have k15:=k14.trans k5
 have f6:=(k15.get (N+2) (by omega)).trans b3
 have e5:N+2<m5:=by omega
 simp[a4,f6,e5,Zal,slc,splice,Zak,o5,o6,Zan.chk]
 have n2':¬N+2<N:=by omega
 refine⟨by simp[Zac,hW,n2'],fun i hi=>?_,by show N+3≤m5;omega,n5,u5,n6,u6,by show T.get (T.set _ _ _) _=_;rw[T.get_set,Ys8 rfl],n5,u5,n6,u6,rfl,t1.setNU (i:=N+2) f6 nu0 rfl,t2.setNU (i:=N+2) f6 nu0 rfl⟩
 show T.get (T.set _ _ _) _=_
 rw[T.get_set,Ys5 (by omega),k15.get i (by omega)]
def Ydp{x y:V}{p q:Rat}{h:T O}{N:Nat}(hx:Fc h N x p)(hy:Fc h N y q)(l1:wl p.num<1000000000)(l2:wl (p.den:Nat)<1000000000)(l3:wl q.num<1000000000)(l4:wl (q.den:Nat)<1000000000):Fn A.C 153 [x,y] h N (fun v h' n'=>Fc h' n' v (p+q)):=by
 intro w
 rw[Zae,A.k153 (by simp)]
 have hx0:=hx
 have hy0:=hy
 obtain⟨n1,u1,n2,u2,rfl,s1,s2⟩:=hx
 obtain⟨n3,u3,n4,u4,rfl,s3,s4⟩:=hy
 have o1:=Za7 s1
 have o2:=Za7 s2
 have o3:=Za7 s3
 have o4:=Za7 s4
 unfold V.one at o1 o2 o3 o4
 have kB:Keeps h N (((h.set N (.cells [.int .i64 n1,u1,.int .i64 n2,u2] 175 true)).set (N+1) (.cells [.int .i64 n3,u3,.int .i64 n4,u4] 175 true)).set (N+2) (.cells [.int .i64 0,.nilslice,.int .i64 0,.nilslice] 175 true)) (N+3):=kset (kset (kset Keeps.refl _) _) _
 simp[A.b153,Zal,slc,splice,o1,o2,o3,o4]
 generalize hhB:((h.set N (.cells [.int .i64 n1,u1,.int .i64 n2,u2] 175 true)).set (N+1) (.cells [.int .i64 n3,u3,.int .i64 n4,u4] 175 true)).set (N+2) (.cells [.int .i64 0,.nilslice,.int .i64 0,.nilslice] 175 true)=hB at*
 have b1:hB.get N=some (.cells [.int .i64 n1,u1,.int .i64 n2,u2] 175 true):=by rw[←hhB];simp
 have b2:hB.get (N+1)=some (.cells [.int .i64 n3,u3,.int .i64 n4,u4] 175 true):=by rw[←hhB];simp
 have b3:hB.get (N+2)=some (.cells [.int .i64 0,.nilslice,.int .i64 0,.nilslice] 175 true):=by rw[←hhB];simp
 refine Zaf (Yc7 (hx0.keep kB)) ?_
 rintro _ h0 m0 k0 rfl
 have kle0:=k0.le
 have k0':=kB.trans k0
 have d1:=(k0.get N (by omega)).trans b1
 have d2:=(k0.get (N+1) (by omega)).trans b2
 have d3:=(k0.get (N+2) (by omega)).trans b3
 by_cases cp:p.den=1
 ·simp[cp,d1,d2,Zal,slc]
  refine Zaf (Yc7 (hy0.keep k0')) ?_
  rintro _ h1 m1 k1 rfl
  have kle1:=k1.le
  have g1:=(k1.get N (by omega)).trans d1
  have g2:=(k1.get (N+1) (by omega)).trans d2
  have g3:=(k1.get (N+2) (by omega)).trans d3
  have k1':=k0'.trans k1
  by_cases cq:q.den=1
  ·simp[cq,g1,g2,Zal,slc]
   refine Zaf (Zs3 (s1.keep k1') (s3.keep k1') (by omega) (by omega)) ?_
   rintro v5 h2 m2 k2 q1
   have kle2:=k2.le
   simp[]
   refine Zaf (Zpr q1) ?_
   rintro _ h3 m3 k3 ⟨n5,u5,n6,u6,rfl,t1,t2⟩
   have o5:=Za7 t1
   have o6:=Za7 t2
   unfold V.one at o5 o6
   have kle3:=k3.le
   have f5:=(k3.get (N+2) (by omega)).trans ((k2.get (N+2) (by omega)).trans g3)
   simp[f5,Zal,slc,splice,Zak,o5,o6,Zan.chk,Ret]
   have kk:=(k1'.trans k2).trans k3
   have hpq:p+q=((p.num+q.num:Int):Rat):=by rw[Zmi cp,Zmi cq];simp
   rw[hpq]
   exact⟨kk.set (by omega),n5,u5,n6,u6,rfl,t1.setNU (i:=N+2) f5 nu0 rfl,t2.setNU (i:=N+2) f5 nu0 rfl⟩
  ·simp[cq,g1,g2,Zal,slc]
   refine Zbo (Yre (N:=N) (p:=p) (q:=q) (by omega) (by simp[Zac]) g1 g2 g3 (s1.keep k1') (s2.keep k1') (s3.keep k1') (s4.keep k1') l1 l2 l3 l4 (by simp) (by simp) (by simp)) ?_
   rintro e fr ⟨H6,n6,W6⟩ ⟨rfl,r6,rfl,c4,q1,q2,q3,m5,v5,m6,v6,q4,q5⟩
   simp only at q1 q2 q3 q4 q5
   simp[c4,q4,Zal,slc,Ret,q1]
   exact⟨⟨by omega,fun i hi=>(q2 i hi).trans (k1'.get i hi)⟩,q5⟩
 ·simp[cp,d1,d2,Zal,slc]
  refine Zbo (Yre (N:=N) (p:=p) (q:=q) (by omega) (by simp[Zac]) d1 d2 d3 (s1.keep k0') (s2.keep k0') (s3.keep k0') (s4.keep k0') l1 l2 l3 l4 (by simp) (by simp) (by simp)) ?_
  rintro e fr ⟨H6,n6,W6⟩ ⟨rfl,r6,rfl,c4,q1,q2,q3,m5,v5,m6,v6,q4,q5⟩
  simp only at q1 q2 q3 q4 q5
  simp[c4,q4,Zal,slc,Ret,q1]
  exact⟨⟨by omega,fun i hi=>(q2 i hi).trans (k0'.get i hi)⟩,q5⟩
set_option maxHeartbeats 2000000
noncomputable def A.b84:=A.q Tryz.f84
def A.k84:=@A.kk 84 22 [.cell 2 (some 4)] A.b84 (by kernel_rfl) rfl
def Zm2{z:Int}{h:T O}{N:Nat}(hl:(decI z).length≤100000):Fn A.C 140 [.str (decI z)] h N (fun v h' n'=>In h' n' v z):=by
 have hb:(decN z.natAbs).length≤100000:=by
  unfold decI at hl
  split at hl<;>(try simp at hl)<;>omega
 have:=Ybh (s:=decI z) (h:=h) (N:=N) (by rw[Zew];exact Zb6 _) (by rw[Zew];exact hb)
 rw[Zfm,Zew,Zck]at this
 have e:(if decide (z<0)=true then -(z.natAbs:Int) else (z.natAbs:Int))=z:=by
  by_cases hz:z<0<;>simp[hz]<;>omega
 rw[e]at this
 exact this
def Yl3{q:Rat}{h:T O}{N:Nat}(l1:(decI q.num).length≤100000)(l2:(decN q.den).length≤100000):Fn A.C 84 [.str (Zaz q)] h N (fun v h' n'=>Fc h' n' v q):=by
 intro w
 have hc:=fun st=>Yjj (s:=Zaz q) (st:=st) (by unfold Zaz;split<;>(try simp)<;>omega)
 rw[Zl1]at hc
 have kB:=kset (Keeps.refl (h:=h) (n:=N)) (.cells [.int .i64 0,.nilslice,.int .i64 0,.nilslice] 175 true)
 rw[Zae,A.k84 (by simp)]
 by_cases c1:q.den=1
 ·have hlt:¬slashAt (Zaz q)<(Zaz q).length:=fun hx=>(Zk8 q).1 hx c1
  simp[A.b84,hc,hlt]
  refine Zaf (Zm2 l1) ?_
  rintro v1 h1 m1 k1 q1
  simp[]
  refine Zaf (Zpr q1) ?_
  rintro _ h3 m3 k3 ⟨n5,u5,n6,u6,rfl,t1,t2⟩
  have o5:=Za7 t1
  have o6:=Za7 t2
  unfold V.one at o5 o6
  have kle1:=k1.le
  have kle3:=k3.le
  have kk:=(kB.trans k1).trans k3
  have f5:=((k1.trans k3).get N (by omega))
  rw[T.get_set,Ys8 rfl]at f5
  simp[f5,Zal,slc,splice,Zak,o5,o6,Zan.chk,Ret]
  rw[Zmi c1]
  exact⟨kk.set (by omega),n5,u5,n6,u6,rfl,t1.setNU f5 nu0 rfl,t2.setNU f5 nu0 rfl⟩
 ·have hlt:slashAt (Zaz q)<(Zaz q).length:=(Zk8 q).2 c1
  have hd:=Zl2 q c1
  have hdI:decN q.den=decI ((q.den:Nat):Int):=by unfold decI;rw[Ys5 (by omega)];rfl
  rw[hdI]at l2 hd
  simp[A.b84,hc,hlt,hd]
  refine Zaf (Zm2 l1) ?_
  rintro v1 h1 m1 k1 q1
  simp[]
  refine Zaf (Zm2 l2) ?_
  rintro v2 h2 m2 k2 q2
  obtain⟨n5,u5,rfl,hu5⟩:=q1.cells
  obtain⟨n6,u6,rfl,hu6⟩:=q2.cells
  have o5:=hu5
  have o6:=hu6
  unfold V.one at o5 o6
  have kle1:=k1.le
  have kle2:=k2.le
  have kk:=(kB.trans k1).trans k2
  have f5:=((k1.trans k2).get N (by omega))
  rw[T.get_set,Ys8 rfl]at f5
  simp[f5,Zal,slc,splice,Zak,o5,o6,Zan.chk,Ret]
  exact⟨kk.set (by omega),n5,u5,n6,u6,rfl,(q1.keep k2).setNU f5 nu0 rfl,q2.setNU f5 nu0 rfl⟩
open Go
variable {i j k n:Nat}
def Zw0:∀{i n:Nat},i<(ds n).length→(ds n)[i]?=some ((n/1000000000^i%1000000000:Nat):Int)
 |i,n,h=>by
  by_cases hn:n=0
  ·rw[hn,Zcn]at h;simp at h
  ·rw[Zhd hn]at h ⊢
   cases i with
   |zero=>simp
   |succ i=>
    rw[Yvd,Zw0 (by simpa using h),Yvp,Ytw,Yt3]
def Yje(h:i<(ds n).length):n/1000000000^i≠0:=by
 intro hc
 have h1:n<1000000000^i:=(Nat.div_eq_zero_iff_lt (Ywa (by decide))).1 hc
 have:=Zfp h1
 omega
def Yd0(h:i+1<(ds n).length):decN (n/1000000000^i)=decN (n/1000000000^(i+1))++Zhz (n/1000000000^i%1000000000) 9:=by
 have h0:=Yje (i:=i) (n:=n) (by omega)
 have h1:=Yje (i:=i+1) (n:=n) h
 have e:n/1000000000^(i+1)=n/1000000000^i/1000000000:=by rw[Ytw,Yvp]
 rw[e]at h1 ⊢
 generalize n/1000000000^i=x at*
 unfold decN
 rw[Ys5 h0,Ys5 h1]
 have:=Zpg (k:=9) (a:=x/1000000000) (b:=x%1000000000) h1 (by omega)
 rw[show (10:Nat)^9=1000000000 by decide]at this
 rw[←this]
 congr 1
 omega
def Yhu(h:i+1=(ds n).length):decN (n/1000000000^i)=Zhz (n/1000000000^i%1000000000) 1:=by
 have h1:n<1000000000^(i+1):=by
  have h2:=Zih (Zcd n)
  rw[Zbb,←h]at h2
  unfold pI at h2
  have h3:(1000000000:Int)^(i+1)=((1000000000^(i+1):Nat):Int):=by rw[Int.natCast_pow];rfl
  rw[h3]at h2
  exact Int.ofNat_lt.1 h2
 rw[Ytw]at h1
 have h3:n/1000000000^i<1000000000:=Nat.div_lt_of_lt_mul h1
 rw[Yu7 h3,Zj7]
def Qb(k:Nat)(q:Rat):Prop:=q.num.natAbs<2^k∧q.den<2^k
def Zm7(h:j≤k):2^j≤2^k:=Yt6 (by decide) h
def Qb.mono{q:Rat}(h:Qb j q)(hk:j≤k):Qb k q:=⟨Yti h.1 (Zm7 hk),Yti h.2 (Zm7 hk)⟩
def Zll{a b:Int}(hb:b≠0)(h1:a.natAbs<2^k)(h2:b.natAbs<2^k):Qb k (Rat.divInt a b):=by
 constructor
 ·rw[Rat.num_divInt]
  refine Yt7 ?_ h1
  rw[Int.natAbs_ediv_of_dvd]
  ·rw[Yvg]
   have:b.sign.natAbs=1:=by rw[Int.natAbs_sign,Ys5 hb]
   rw[this,Nat.one_mul]
   exact Yuz _ _
  ·exact Int.dvd_trans (Int.gcd_dvd_right ..) (Int.dvd_mul_left ..)
 ·rw[Rat.den_divInt,Ys5 hb]
  exact Yt7 (Yuz _ _) h2
def Qb.mul{p q:Rat}(hp:Qb j p)(hq:Qb k q):Qb (j+k) (p*q):=by
 have hp0:((p.den:Nat):Int)≠0:=by have:=p.den_nz;omega
 have hq0:((q.den:Nat):Int)≠0:=by have:=q.den_nz;omega
 rw[←Yvx p,←Yvx q,Rat.divInt_mul_divInt]
 refine Zll (Yww hp0 hq0) ?_ ?_
 ·rw[Yvg,Yuj]
  exact Yvw hp.1 hq.1
 ·rw[Yvg,Yuj,Ytc,Ytc]
  exact Yvw hp.2 hq.2
def Qb.add{p q:Rat}(hp:Qb j p)(hq:Qb k q):Qb (j+k+1) (p+q):=by
 have hp0:((p.den:Nat):Int)≠0:=by have:=p.den_nz;omega
 have hq0:((q.den:Nat):Int)≠0:=by have:=q.den_nz;omega
 rw[←Yvx p,←Yvx q,Rat.divInt_add_divInt _ _ hp0 hq0]
 have e:2^(j+k+1)=2^j*2^k+2^k*2^j:=by rw[Ytw,Yuj,Yt3 (2^k)];omega
 refine Zll (Yww hp0 hq0) ?_ ?_
 ·refine Yt7 (Int.natAbs_add_le ..) ?_
  rw[Yvg,Yvg,Ytc,Ytc,e]
  exact Nat.add_lt_add (Yvw hp.1 hq.2) (Yvw hq.1 hp.2)
 ·rw[Yvg,Ytc,Ytc,e]
  exact Yti (Yvw hp.2 hq.2) (Nat.le_add_right _ _)
def Qb.neg{q:Rat}(h:Qb k q):Qb k (-q):=by
 refine⟨?_,?_⟩
 ·rw[Rat.neg_num,Yv0];exact h.1
 ·rw[Rat.neg_den];exact h.2
def Qb.sub{p q:Rat}(hp:Qb j p)(hq:Qb k q):Qb (j+k+1) (p-q):=by
 rw[Rat.sub_eq_add_neg];exact hp.add hq.neg
def Qb.int{z:Int}(h:z.natAbs<2^k)(hk:0<k):Qb k (z:Rat):=by
 refine⟨by simpa using h,?_⟩
 rw[Rat.den_intCast]
 exact Yti (by decide) (Zm7 (j:=1) hk)
def Zj5(h:n<2^k):(ds n).length≤k:=Zfp (Yti h (Yv4 (by decide) k))
def Znz(h:n<2^k):(Zc1 n).length≤k:=Zax.1 (Yti h (Yv4 (by decide) k))
def Zhe(h:n<2^k):(decN n).length≤k+1:=by
 have:=Znz h
 unfold decN
 split<;>simp<;>omega
def Zny{z:Int}(h:z.natAbs<2^k):(decI z).length≤k+2:=by
 have:=Zhe h
 unfold decI
 split<;>simp<;>omega
def Zmp{q:Rat}(h:Qb k q):(Zaz q).length≤2*k+4:=by
 have h1:=Zny h.1
 have h2:=Zhe h.2
 unfold Zaz
 split<;>simp<;>omega
def Ybm(k:Nat):10^k≤2^(4*k):=by
 rw[Nat.pow_mul];exact Yv4 (by decide) k
def Zss{s:Str}(h:chkNum s=0)(hn:s.length≤n):Qb (4*n+4) (Zdv s):=by
 obtain⟨e,_,_⟩:=Zi3 h
 have hb:=Zn9 (Zdv s)
 have l1:(Zao (Zaz (Zdv s))).length≤n:=by
  rw[e];unfold Zao;split
  ·simp;omega
  ·exact hn
 rw[hb]at l1
 have g:∀m:Nat,(decN m).length≤n+1→m<2^(4*n+4):=fun m hm=>by
  have:=(Ze2 (n:=m) (k:=n+1) (by omega)).1 hm
  exact Yti this (by have:=Ybm (n+1);rw[Yvb]at this;exact this)
 split at l1
 ·rename_i h1
  have h2:(decN 1).length=1:=by rw[Zw4];rfl
  exact⟨g _ (by omega),by rw[h1];exact g 1 (by omega)⟩
 ·simp at l1
  exact⟨g _ (by omega),g _ (by omega)⟩
variable {N k:Nat} {h:T O} {x:V} {z:Int}
noncomputable def A.b86:=A.q Tryz.f86
def A.k86:=@A.kk 86 11 [.tmp 2] A.b86 (by kernel_rfl) rfl
noncomputable def A.b157:=A.q Tryz.f157
def A.k157:=@A.kk 157 13 [.tmp 2] A.b157 (by kernel_rfl) rfl
noncomputable def A.b197:=A.q Tryz.f197
def A.k197:=@A.kk 197 25 [.tmp 2] A.b197 (by kernel_rfl) rfl
def Fc.parts{q:Rat}(s:Fc h N x q):∃n1 u1 n2 u2,x=.agg [.int .i64 n1,u1,.int .i64 n2,u2]∧In h N (.agg [.int .i64 n1,u1]) q.num∧In h N (.agg [.int .i64 n2,u2]) (q.den:Int)∧V.one u1=true∧V.one u2=true:=by
 obtain⟨n1,u1,n2,u2,rfl,s1,s2⟩:=s
 exact⟨n1,u1,n2,u2,rfl,s1,s2,Za7 s1,Za7 s2⟩
def Yh4{n d:Nat}(hk:(wds n).length=k+1)(hd:(wds n)[k]?=some d):n<2^(64*k+blen d):=by
 have h1:=Zbm n
 have h2:=Zby (b:=B) hd
 rw[Ytd (by omega),h1]at h2
 have h3:val B ((wds n).take k)<B^k:=by
  have:=Zk6 (b:=B) (l:=(wds n).take k) (fun x hx=>Zdi n x (Yuk hx))
  rw[Yth,Yud (by omega)]at this;exact this
 have h4:d+1≤2^blen d:=Zqt d
 have h5:B^k*(d+1)≤B^k*2^blen d:=Ytp _ h4
 have h6:B^k=2^(64*k):=by rw[Nat.pow_mul];rfl
 rw[Yuj,←h6]
 rw[Yvb]at h5
 omega
def Zuo{n b:Nat}(h:600<(decN n).length)(hb:n<2^b):1800<b:=by
 apply Classical.byContradiction
 intro hc
 obtain⟨M,hM⟩:∃M:Nat,M=600:=⟨_,rfl⟩
 have h1:n<2^(3*M):=Yti hb (Zm7 (by omega))
 have h2:(2:Nat)^(3*M)≤10^M:=by
  rw[Nat.pow_mul]
  exact Yv4 (by decide) _
 have h3:=(Ze2 (n:=n) (k:=M) (by omega)).2 (Yti h1 h2)
 omega
def Ymt(hx:In h N x z)(hl:wl z<10000000000):Fn A.C 197 [x] h N (fun v _ _=>∃b:Nat,v=.int .i64 b∧z.natAbs<2^b):=by
 intro w
 obtain⟨n,u,rfl,hu⟩:=hx.cells
 have hu':=hu
 unfold V.one at hu'
 have k0:=(Keeps.refl (h:=h) (n:=N)).new (.cells [.int .i64 n,u] 173 true)
 rw[Zae,A.k197 (by simp)]
 simp[A.b197,Zal,slc,splice,hu']
 refine Zaf (Zep (hx.keep k0)) ?_
 rintro _ h1 m1 k1 ⟨u2,rfl,hw⟩
 have hlen:=Sl.len hw
 rw[Zaa]at hlen
 by_cases h0:(wds z.natAbs).length=0
 ·rw[h0]at hlen
  have hz:z.natAbs=0:=by
   have:=Zbm z.natAbs
   rw[Ytl h0]at this
   simpa[val]using this.symm
  simp[hlen,Zad,Ret]
  exact⟨k0.trans k1,0,rfl,by omega⟩
 ·obtain⟨k,hk⟩:∃k,(wds z.natAbs).length=k+1:=⟨(wds z.natAbs).length-1,by omega⟩
  rw[hk]at hlen
  obtain⟨d,hd⟩:=Zag (l:=wds z.natAbs) (k:=k) (by omega)
  obtain⟨i,o,c,e,rw,q1,q2,q3,q4⟩:=Sl.at hw (Za5 hd)
  have hdB:d<18446744073709551616:=(Zdi _).get hd
  have hkl:k+1<10000000000:=by
   have:=hl
   unfold wl at this
   omega
  have hbl:blen d≤64:=by
   apply Classical.byContradiction
   intro hc
   have h1:d≠0:=fun h=>by rw[h]at hc;simp[blen]at hc
   have h2:=Zk3 h1
   have h3:=Zm7 (j:=64) (k:=blen d-1) (by omega)
   have h4:(2:Nat)^64=18446744073709551616:=by decide
   omega
  have c1:¬((k:Int)+1=0):=by omega
  have c2:Zaq .i64 ((k:Int)+1-1)=(k:Int):=by rw[Zaj (by omega) (by omega)];omega
  have c3:Zaq .i64 (64*(k:Int))=64*(k:Int):=Zaj (by omega) (by omega)
  have c4:Zaq .i64 (64*(k:Int)+(blen d:Nat))=64*(k:Int)+(blen d:Nat):=Zaj (by omega) (by omega)
  have c5:(k:Int)<(k:Int)+1:=by omega
  simp(disch:=omega) [hlen,Zad,c1,c2,c3,c5,q1,q3,q4]
  refine Zaf (Zqe hdB) ?_
  rintro _ h2 m2 k2 ⟨rfl,rfl,rfl⟩
  simp[c4,Ret]
  exact⟨k0.trans k1,64*k+blen d,by simp,Yh4 hk hd⟩
def Ycw(hx:In h N x z)(hP:P10 h N)(hl:wl z<10000000000)(hd:(Zc1 z.natAbs).length<1000000000):Fn A.C 157 [x] h N (fun v _ _=>v=.bool (decide (600<(decN z.natAbs).length))):=by
 intro w
 obtain⟨n,u,rfl,hu⟩:=hx.cells
 have hu':=hu
 unfold V.one at hu'
 have k0:=(Keeps.refl (h:=h) (n:=N)).new (.cells [.int .i64 n,u] 173 true)
 have g0:(h.set N (.cells [.int .i64 n,u] 173 true)).get N=some (.cells [.int .i64 n,u] 173 true):=by rw[T.get_set,Ys8 rfl]
 rw[Zae,A.k157 (by simp)]
 simp[A.b157,Zal,slc,splice,hu']
 refine Zaf (Ymt (hx.keep k0) hl) ?_
 rintro _ h1 m1 k1 ⟨b,rfl,hb⟩
 have g1:=(k1.get N (by omega)).trans g0
 by_cases hbb:1800<b
 ·have hbb':(1800:Int)<(b:Int):=by omega
  simp[hbb,hbb',g1,Zal,slc]
  refine Zaf (Zjl ((hx.keep k0).keep k1) ((hP.keep k0).keep k1) (by omega)) ?_
  rintro _ h2 m2 k2 rfl
  have ht:=fun st=>Zji (s:=decI z) (st:=st)
  rw[Zew]at ht
  simp[ht,Ret]
  exact⟨(k0.trans k1).trans k2,by omega⟩
 ·have hbb':¬(1800:Int)<(b:Int):=by omega
  have hno:¬600<(decN z.natAbs).length:=fun hc=>hbb (Zuo hc hb)
  simp[hbb,hbb',hno,Ret]
  exact k0.trans k1
def Yey(h:z.natAbs<2^k):wl z≤k:=by
 have:=Ze4 (Yti h (Yv4 (by decide) k))
 unfold wl at this ⊢
 rwa [Ytc]at this
def Zsh{q:Rat}(hx:Fc h N x q)(hP:P10 h N)(hq:Qb k q)(hk:k≤400000000):Fn A.C 86 [x] h N (fun v _ _=>v=.bool (Zvb q)):=by
 intro w
 obtain⟨n1,u1,n2,u2,rfl,s1,s2,o1,o2⟩:=hx.parts
 unfold V.one at o1 o2
 have k0:=(Keeps.refl (h:=h) (n:=N)).new (.cells [.int .i64 n1,u1,.int .i64 n2,u2] 175 true)
 have g0:(h.set N (.cells [.int .i64 n1,u1,.int .i64 n2,u2] 175 true)).get N=some (.cells [.int .i64 n1,u1,.int .i64 n2,u2] 175 true):=by rw[T.get_set,Ys8 rfl]
 have l1:=Znz hq.1
 have l2:=Znz hq.2
 have z1:=Yey hq.1
 have z2:=Yey (z:=(q.den:Int)) (k:=k) (by rw[Ytc];exact hq.2)
 rw[Zae,A.k86 (by simp)]
 simp[A.b86,Zal,slc,splice,o1,o2]
 refine Zaf (Ycw (s1.keep k0) (hP.keep k0) (by omega) (by omega)) ?_
 rintro _ h1 m1 k1 rfl
 have g1:=(k1.get N (by omega)).trans g0
 unfold Zvb
 by_cases c1:600<(decN q.num.natAbs).length
 ·simp[c1,Ret]
  exact k0.trans k1
 ·simp[c1,g1,Zal,slc]
  refine Zaf (Ycw ((s2.keep k0).keep k1) ((hP.keep k0).keep k1) (by omega) (by rw[Ytc];omega)) ?_
  rintro _ h2 m2 k2 rfl
  simp[Ret]
  exact(k0.trans k1).trans k2
variable {N i n:Nat} {h:T O} {r:T V} {v:V}
structure Upd (D:Nat→Prop) (h:T O) (n:Nat) (h':T O) (n':Nat):Prop where
 le:n≤n'
 get:∀i,i<n→¬D i→h'.get i=h.get i
def Keeps.upd{D:Nat→Prop}{h':T O}{n':Nat}(k:Keeps h n h' n'):Upd D h n h' n':=⟨k.le,fun i hi _=>k.get i hi⟩
def Upd.trans{D:Nat→Prop}{h1 h2:T O}{n1 n2:Nat}(a:Upd D h n h1 n1)(b:Upd D h1 n1 h2 n2):Upd D h n h2 n2:=
 ⟨Yu5 a.le b.le,fun i hi hd=>(b.get i (Yti hi a.le) hd).trans (a.get i hi hd)⟩
def Upd.mono{D D2:Nat→Prop}{h1:T O}{n1:Nat}(a:Upd D h n h1 n1)(hd:∀i,i<n→D i→D2 i):Upd D2 h n h1 n1:=⟨a.le,fun i hi hn=>a.get i hi fun hc=>hn (hd i hi hc)⟩
def Zkz{N i:Nat}:∀{w:List Nat},i∈Zac N w→i∈w∧i<N
 |[],h=>by simp[Zac]at h
 |j::w,h=>by
  simp only[Zac]at h
  split at h
  ·unfold Zg6 at h
   split at h
   ·have:=Zkz h;exact⟨Ytv _ this.1,this.2⟩
   ·rcases Yt1.1 h with h|h
    ·subst h;exact⟨Yt2,by assumption⟩
    ·have:=Zkz h;exact⟨Ytv _ this.1,this.2⟩
  ·have:=Zkz h;exact⟨Ytv _ this.1,this.2⟩
def Zyc:Zac N []=[]:=rfl
attribute [simp] Zyc
def Zng{w:List Nat}(h:∀i∈w,N≤i):Zac N w=[]:=Zo3 h
def selV2(st:St)(i:Nat)(send:Option V)(zero:V):Option O→Option (V×St)
 |some (.chan cap buf)=>match send with
  |some v=>if buf.length<cap then some (.tup [.int .i64 0,.bool false],st.write i (.chan cap (buf++[v]))) else some (.tup [.int .i64 (-1),.bool false],st)
  |none=>match buf with
   |v::buf=>some (.tup [.int .i64 0,.bool true,v],st.write i (.chan cap buf))
   |[]=>some (.tup [.int .i64 (-1),.bool false,zero],st)
 |_=>none
def Ynl{st:St}{send:Option V}{zero:V}:Ypf st i send zero=selV2 st i send zero (st.h.get i):=by
 unfold Ypf selV2
 rcases st.h.get i with _|o
 ·rfl
 ·cases o with
  |chan cap buf=>cases send with
   |some v=>rfl
   |none=>cases buf<;>rfl
  |_=>cases send<;>rfl
def Ypg(C:Cx)(K:List Kf)(Q:Rs→Prop)(d:Nat)(ops:List Za9)(r:T V)(n:Nat)(m:List Nat):Option (V×St)→Prop
 |some (v,st1)=>Run C (.reg::K) (Yev (mops C.call ops ⟨r.set d v,n,m⟩ st1)) Q
 |none=>False
def Ypx(C:Cx)(K:List Kf)(Q:Rs→Prop)(d:Nat)(ops:List Za9)(r:T V)(n:Nat)(m:List Nat)(st:St)(zero:V):Option V→Option (Option V)→Prop
 |some (.chan i),some sv=>Ypg C K Q d ops r n m (selV2 st i sv zero (st.h.get i))
 |_,_=>False
def Yfq{C:Cx}{K:List Kf}{Q:Rs→Prop}{ro:Option Nat}{d:Nat}{ch:Src}{send:Option Src}{zero:V}{ops:List Za9}{m:List Nat}{st:St}(hd:d<n):Run C K (exR (C.code ro (.regS (some d) ch send zero ops) ⟨r,n,m⟩ st)) Q↔Ypx C K Q d ops r n m st zero (ch.ev r) (evOpt r send):=by
 have e:C.code ro (.regS (some d) ch send zero ops) ⟨r,n,m⟩ st=Zhi (some d) ch send zero ops C.call C.code ro ⟨r,n,m⟩ st:=Cx.code_eq ..
 rw[e]
 unfold Zhi Ypx
 simp only[]
 rcases ch.ev r with _|v
 ·exact Zhs
 ·cases v<;>try exact Zhs
  rename_i i
  rcases evOpt r send with _|sv
  ·exact Zhs
  ·simp only[Ynl]
   rcases selV2 st i sv zero (st.h.get i)with _|⟨v,st1⟩
   ·exact Zhs
   ·simp only[Fr.put,hd,if_true,Ypg]
    refine Zau ?_
    show _=unw C K (Zen C .reg (Yev (mops C.call ops ⟨r.set d v,n,m⟩ st1)))
    rcases mops C.call ops ⟨r.set d v,n,m⟩ st1 with _|⟨_,_⟩<;>rfl
def Ya2{C K Q d ops r n m st zero i sv}:Ypx C K Q d ops r n m st zero (some (.chan i)) (some sv)=Ypg C K Q d ops r n m (selV2 st i sv zero (st.h.get i)):=rfl
def Ya1{C K Q d ops r n m v st1}:Ypg C K Q d ops r n m (some (v,st1))=Run C (.reg::K) (Yev (mops C.call ops ⟨r.set d v,n,m⟩ st1)) Q:=rfl
def Zxx{st:St}{cap:Nat}{buf:List V}{zero:V}:selV2 st i none zero (some (.chan cap (v::buf)))=some (.tup [.int .i64 0,.bool true,v],st.write i (.chan cap buf)):=rfl
def Ya0{st:St}{cap:Nat}{zero:V}:selV2 st i none zero (some (.chan cap []))=some (.tup [.int .i64 (-1),.bool false,zero],st):=rfl
attribute [simp] Yfq Ya2 Ya1 Zxx Ya0
def Ygp(st:St)(bytes:Nat):Option V→Option (V×St)
 |some (.int _ k)=>if k<0∨k > IntKind.i64.max∨bytes*k > 2^48-112 then none else some (.chan st.n,st.alloc (.chan k.toNat []))
 |_=>none
def Zt1{bytes:Nat}{x:Src}{call:Za1}{st:St}:Zef bytes x call r st=Ygp st bytes (x.ev r):=by unfold Zef Ygp;rfl
def Zyt{st:St}{kk:IntKind}{k:Int}(h0:0≤k)(h1:k≤100):Ygp st 16 (some (.int kk k))=some (.chan st.n,st.alloc (.chan k.toNat [])):=by
 unfold Ygp
 simp only[]
 rw[Ys5]
 have:IntKind.i64.max=9223372036854775807:=rfl
 omega
attribute [simp] Zt1 Zyt
def Zff:V→List Nat
 |.slice i _ _ _ _=>[i]
 |_=>[]
def Sl.moved{D:Nat→Prop}{h':T O}{N':Nat}{l:List V}(s:Sl h N v l)(k:Upd D h N h' N')(hd:∀i∈Zff v,¬D i):Sl h' N' v l:=by
 rcases s with s|⟨i,o,cp,c,e,rw,rfl,h2,h3,h4⟩
 ·exact .inl s
 ·exact .inr ⟨i,o,cp,c,e,rw,rfl,Yti h2 k.le,(k.get i h2 (hd i (by simp[Zff]))).trans h3,h4⟩
def Row(z:Nat)(e:TypeId)(h:T O)(v:V)(l:List (List V)):Prop:=(∀x∈l,x.length=z)∧((l=[]∧v=.nilslice)∨∃i x m,v=.slice i 0 l.length none z∧x.length=m*z∧h.get i=some (.cells (l.flatten++x) e true))
def Yo0(st:St)(size:Nat)(zero:List V):Option V→Option (V×St)
 |some v=>Zhw size zero (.const v) Zqs .nil st
 |none=>none
structure Ys2 (z bytes:Nat) (e:TypeId) (zero:List V) (h:T O) (N:Nat) (v:V) (l:List (List V)) (k:Nat) (v1 v2 v3 v4:V) (h3 h4:T O) (w3:List Nat):Prop where
 a:∀w,∃u,Zci ⟨h,N,w⟩ z (some v) (some (some (.int .i64 k))) (some (some (.int .i64 ((k:Int)+1)))) (some (some (.int .i64 l.length)))=some (u,⟨h,N,w⟩)
 b:∀w,Zci ⟨h,N,w⟩ z (some v) (some none) (some (some (.int .i64 k))) (some none)=some (v1,⟨h,N,w⟩)
 c:∀w,Zci ⟨h,N,w⟩ z (some v) (some (some (.int .i64 ((k:Int)+1)))) (some none) (some none)=some (v2,⟨h,N,w⟩)
 d:∀w,Zbi ⟨h,N,w⟩ z bytes e v1 v2=some (v3,⟨h3,N,w3++w⟩)
 len:Zo9 v3=some (l.length-1)
 f:∀w,Zci ⟨h3,N,w⟩ z (some v3) (some (some (.int .i64 ((l.length-1:Nat):Int)))) (some (some (.int .i64 l.length))) (some none)=some (v4,⟨h3,N,w⟩)
 g:∀w,∃i,i∈Zff v∧Yo0 ⟨h3,N,w⟩ z zero (some v4)=some (.tup [],⟨h4,N,i::w⟩)
 w:∀i∈w3,i∈Zff v
 upd:Upd (fun i=>i∈Zff v) h N h4 N
 ids:Zff v3=Zff v
 row:Row z e h4 v3 (l.take k++l.drop (k+1))
def Yoz(st:St)(size:Nat):Option V→Option V→Option (V×St)
 |some d,some s=>Zg3 size (.const d) (.const s) Zqs .nil st
 |_,_=>none
def Ybt{size:Nat}{d s:Src}{call:Za1}{st:St}:Zg3 size d s call r st=Yoz st size (d.ev r) (s.ev r):=by
 unfold Zg3 Yoz
 rcases d.ev r with _|d
 ·rfl
 ·rcases s.ev r with _|s<;>rfl
attribute [simp] Ybt
def Zz7(e:TypeId)(Y:V→Prop)(h:T O)(u:V):Prop:=∀i∈Zff u,∃z,h.get i=some (.cells z e true)∧z≠[]∧∀y∈z,Y y
def Zz7.nil{e:TypeId}{Y:V→Prop}:Zz7 e Y h .nilslice:=fun i hi=>by simp[Zff]at hi
def Zgm{z:Nat}{e:TypeId}{N0:Nat}{u:V}{l:List (List V)}{x:List V}{bytes:Nat}{w:List Nat}{Y:V→Prop}(s:Own z e N0 h N v l)(hn:l=[]→v=.nilslice)(hY:∀c∈l,∀y∈c,Y y)(hN:N0≤N)(hz:0<z)(hx:x.length=z)
  (hu:Za0 ⟨h,N,w⟩ z u=some (1,x)) (hb:2*(l.length+1)*bytes≤281474976710656):
  ∃v' h' w',Zbi ⟨h,N,w⟩ z bytes e v u=some (v',⟨h',N+1,w'⟩)∧Zac N0 w'=Zac N0 w∧Keeps h N0 h' (N+1)∧Upd (fun i=>i∈Zff v) h N h' (N+1)∧Zz7 e Y h v∧Own z e N0 h' (N+1) v' (l++[x]):=by
 obtain⟨v',h',w',f1,f2,f3,f4,f5⟩:=Zbx s hN hz hx hu hb
 refine⟨v',h',w',f1,f2,f3,⟨Yvz _,fun j hj hd=>?_⟩,fun i hi=>?_,f5⟩
 ·rcases f4 j with h1|h1|⟨o,n,c,q,h1⟩
  ·exact h1
  ·omega
  ·exact absurd (by rw[h1];simp[Zff]) hd
 ·obtain⟨hl,⟨rfl,rfl⟩|⟨j,rfl,h2,h3,h4⟩⟩:=s
  ·simp[Zff]at hi
  ·simp only[Zff,Yuv]at hi
   subst hi
   refine⟨_,h4,fun hc=>?_,fun y hy=>?_⟩
   ·have hfl:=Zd2 hl
    rw[hc]at hfl
    have:l.length=0:=by
     rcases Nat.mul_eq_zero.1 hfl.symm with h|h
     ·exact h
     ·omega
    have:=hn (Ytl this)
    cases this
   ·obtain⟨c,hc,hyc⟩:=List.mem_flatten.1 hy
    exact hY c hc y hyc
def Yia{l:List Nat}:(l.any fun i=>Nat.ble n i&&Nat.blt i n)=false:=by
 rw[List.any_eq_false]
 intro i _ hc
 rw[Ytt]at hc
 have h1:=Yt9 hc.1
 have h2:i<n:=Yt9 hc.2
 omega
def Yck{l:List Nat}:Zqc l (some [])=false:=by
 unfold Zqc
 rw[List.any_eq_false]
 intro i _ hc
 simp at hc
end Go.Mx
