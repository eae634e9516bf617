/-num-/
import Derived.Test.YtdlikflhcjmkeaaGreatDoorNcE
set_option linter.all false
set_option maxHeartbeats 4000000
namespace Go.Mx
noncomputable section
open Go Go.Proofs
set_option maxRecDepth 1000000
def A.b72:=A.q Tryz.f72
def A.k72:=@A.kk 72 16 [.tmp 4] A.b72 (by kernel_rfl) rfl
def A.b153:=A.q Tryz.f153
def A.k153:=@A.kk 153 16 [.tmp 2] A.b153 (by kernel_rfl) rfl
def Ybo{x y:V}{p q:Rat}{h:T O}{N:Nat}(hx:Fc h N x p)(hy:Fc h N y q)(l1:wl p.num<1000000000)(l2:wl (p.den:Nat)<1000000000)(l3:wl q.num<1000000000)(l4:wl (q.den:Nat)<1000000000):Fn A.C 72 [x,y] h N (fun v _ _=>v=.int .i64 (sg3 (p.num*(q.den:Nat)-q.num*(p.den:Nat)))):=by
 intro w
 rw[Zab,A.k72 (by simp)]
 obtain⟨n1,u1,n2,u2,rfl,s1,s2⟩:=hx
 obtain⟨n3,u3,n4,u4,rfl,s3,s4⟩:=hy
 have o1:=Zat s1
 have o2:=Zat s2
 have o3:=Zat s3
 have o4:=Zat s4
 unfold V.one at o1 o2 o3 o4
 have kB:Keeps h N ((h.set N (.cells [.int .i64 n1,u1,.int .i64 n2,u2] 102 true)).set (N+1) (.cells [.int .i64 n3,u3,.int .i64 n4,u4] 102 true)) (N+2):=kset (kset Keeps.refl _) _
 simp[A.b72,Zah,slc,o1,o2,o3,o4]
 generalize hhB:(h.set N (.cells [.int .i64 n1,u1,.int .i64 n2,u2] 102 true)).set (N+1) (.cells [.int .i64 n3,u3,.int .i64 n4,u4] 102 true)=hB at*
 have b1:hB.get N=some (.cells [.int .i64 n1,u1,.int .i64 n2,u2] 102 true):=by rw[←hhB];simp
 have b2:hB.get (N+1)=some (.cells [.int .i64 n3,u3,.int .i64 n4,u4] 102 true):=by rw[←hhB];simp
 refine Zaa (Zgz (s1.keep kB) (s4.keep kB) (by omega) (by omega)) ?_
 rintro v5 h1 m1 k1 q1
 have kle1:=k1.le
 have f1:=(k1.get N (by omega)).trans b1
 have f2:=(k1.get (N+1) (by omega)).trans b2
 have e1:N<m1:=by omega
 have e2:N+1<m1:=by omega
 simp[f1,f2,e1,e2,Zah,slc]
 refine Zaa (Zgz ((s3.keep kB).keep k1) ((s2.keep kB).keep k1) (by omega) (by omega)) ?_
 rintro v6 h2 m2 k2 q2
 have kle2:=k2.le
 simp[]
 refine Zaa (Ygx (q1.keep k2) q2 ?_ ?_) ?_
 ·have:=Zi1 p.num ((q.den:Nat):Int)
  omega
 ·have:=Zi1 q.num ((p.den:Nat):Int)
  omega
 ·rintro _ h3 m3 k3 rfl
  simp[Zam.chk,Ret]
  exact((kB.trans k1).trans k2).trans k3
def Zyt{x:V}{q:Rat}{h:T O}{N:Nat}(hx:Fc h N x q)(hP:P10 h N)(l1:(Zcx q.num.natAbs).length<1000000000)(l2:(Zcx q.den).length<1000000000):Fn A.C 153 [x] h N (fun v _ _=>v=.str (Zaq q)):=by
 intro w
 rw[Zab,A.k153 (by simp)]
 have hx0:=hx
 obtain⟨n1,u1,n2,u2,rfl,s1,s2⟩:=hx
 have o1:=Zat s1
 have o2:=Zat s2
 unfold V.one at o1 o2
 have kB:=kset (Keeps.refl (h:=h) (n:=N)) (.cells [.int .i64 n1,u1,.int .i64 n2,u2] 102 true)
 simp[A.b153,Zah,slc,o1,o2]
 generalize hhB:h.set N (.cells [.int .i64 n1,u1,.int .i64 n2,u2] 102 true)=hB at*
 have b1:hB.get N=some (.cells [.int .i64 n1,u1,.int .i64 n2,u2] 102 true):=by rw[←hhB];simp
 refine Zaa (Ya5 (hx0.keep kB)) ?_
 rintro _ h1 m1 k1 rfl
 have kle1:=k1.le
 have f1:=(k1.get N (by omega)).trans b1
 have kk:=kB.trans k1
 by_cases c1:q.den=1
 ·simp[c1,f1,Zah,slc]
  refine Zaa (Zjc (s1.keep kk) (hP.keep kk) (by omega)) ?_
  rintro _ h2 m2 k2 rfl
  simp[Ret,Zaq,c1]
  exact kk.trans k2
 ·have l0:N<m1:=by omega
  simp[c1,f1,l0,Zah,slc]
  refine Zaa (Zjc (s1.keep kk) (hP.keep kk) (by omega)) ?_
  rintro _ h2 m2 k2 rfl
  have kle2:=k2.le
  have kk2:=kk.trans k2
  have f2:=(k2.get N (by omega)).trans f1
  have l3:N<m2:=by omega
  have hmx:IntKind.max .i64=9223372036854775807:=rfl
  have hS1:(decI q.num).length<2000000000:=by
   have h1:(decN q.num.natAbs).length≤(Zcx q.num.natAbs).length+1:=by unfold decN;split<;>simp
   unfold decI
   split<;>simp<;>omega
  have hS2:(decN q.den).length<2000000000:=by
   have h1:(decN q.den).length≤(Zcx q.den).length+1:=by unfold decN;split<;>simp
   omega
  have htx:Zaq q=decI q.num++47::decN q.den:=by unfold Zaq;rw[Yqe c1]
  have hdI:decI ((q.den:Nat):Int)=decN q.den:=by unfold decI;rw[Yqe (by omega)];rfl
  rw[htx]
  generalize decI q.num=S1 at*
  have g1:¬(9223372036854775807:Int)<(S1.length:Int)+1:=by omega
  simp[f2,l3,Zbk,hmx,g1,Zah,slc]
  refine Zaa (Zjc (s2.keep kk2) (hP.keep kk2) (by rw[Yqk];omega)) ?_
  rintro _ h3 m3 k3 rfl
  rw[hdI]
  generalize decN q.den=S2 at*
  have g2:¬(9223372036854775807:Int)<(S1.length:Int)+1+(S2.length:Int):=by omega
  simp[Zbk,hmx,g2,Zam.chk,Ret]
  exact kk2.trans k3
def A.w74:=A.q Tryz.f74
def A.ta74_0:=A.qt A.w74 [] [] [1,1]
def A.b74:=(fun y0=>A.qt A.w74 [] [([1,1],y0)] []) A.ta74_0
def A.k74:=@A.kk 74 34 [.cell 4 (some 4)] A.b74 (by kernel_rfl) rfl
def Zls{q:Rat}(h:q.den=1):q=(q.num:Rat):=by
 apply Rat.ext
 ·simp
 ·simp[h]
def Yol{H:T O}{N n:Nat}{W:List Nat}{r:T V}{p q:Rat}{n1 n2 n3 n4:Int}{u1 u2 u3 u4:V}(hn:N+3≤n)(hW:Zac N W=[])(b1:H.get N=some (.cells [.int .i64 n1,u1,.int .i64 n2,u2] 102 true))(b2:H.get (N+1)=some (.cells [.int .i64 n3,u3,.int .i64 n4,u4] 102 true))(b3:H.get (N+2)=some (.cells [.int .i64 0,.nilslice,.int .i64 0,.nilslice] 102 true))
  (s1:In H n (.agg [.int .i64 n1,u1]) p.num) (s2:In H n (.agg [.int .i64 n2,u2]) (p.den:Nat)) (s3:In H n (.agg [.int .i64 n3,u3]) q.num) (s4:In H n (.agg [.int .i64 n4,u4]) (q.den:Nat)) (l1:wl p.num<1000000000) (l2:wl (p.den:Nat)<1000000000) (l3:wl q.num<1000000000) (l4:wl (q.den:Nat)<1000000000) (a2:r.get 2=some (.ptr N 0)) (a3:r.get 3=some (.ptr (N+1) 0)) (a4:r.get 4=some (.ptr (N+2) 0)):
  Code A.C none A.ta74_0 ⟨r,34,[]⟩ ⟨H,n,W⟩ (fun e fr st=>e=.ret∧∃r',fr=⟨r',34,[]⟩∧r'.get 4=some (.ptr (N+2) 0)∧MkE H N (p+q) st):=by
 rw[Zai]
 have o1:=Zat s1
 have o2:=Zat s2
 have o3:=Zat s3
 have o4:=Zat s4
 unfold V.one at o1 o2 o3 o4
 have z1:N<n:=by omega
 have z2:N+1<n:=by omega
 simp[A.ta74_0,a2,a3,b1,b2,z1,z2,Zah,slc]
 refine Zaa (Zgz s1 s4 (by omega) (by omega)) ?_
 rintro v5 h1 m1 k1 q1
 have kle1:=k1.le
 have f1:=(k1.get N (by omega)).trans b1
 have f2:=(k1.get (N+1) (by omega)).trans b2
 have f3:=(k1.get (N+2) (by omega)).trans b3
 have e1:N<m1:=by omega
 have e2:N+1<m1:=by omega
 simp[a2,a3,f1,f2,e1,e2,Zah,slc]
 refine Zaa (Zgz (s3.keep k1) (s2.keep k1) (by omega) (by omega)) ?_
 rintro v6 h2 m2 k2 q2
 have kle2:=k2.le
 have w1:=Zi1 p.num ((q.den:Nat):Int)
 have w2:=Zi1 q.num ((p.den:Nat):Int)
 have w3:=Zi1 ((p.den:Nat):Int) ((q.den:Nat):Int)
 have w4:=Zyl (p.num*((q.den:Nat):Int)) (q.num*((p.den:Nat):Int))
 simp[]
 refine Zaa (Zrt (q1.keep k2) q2 (by omega) (by omega)) ?_
 rintro v7 h3 m3 k3 q3
 have kle3:=k3.le
 have k13:=(k1.trans k2).trans k3
 have f4:=(k13.get N (by omega)).trans b1
 have f5:=(k13.get (N+1) (by omega)).trans b2
 have e3:N<m3:=by omega
 have e4:N+1<m3:=by omega
 simp[a2,a3,f4,f5,e3,e4,Zah,slc]
 refine Zaa (Zgz (s2.keep k13) (s4.keep k13) (by omega) (by omega)) ?_
 rintro v8 h4 m4 k4 q4
 have kle4:=k4.le
 have k14:=k13.trans k4
 have hd:((p.den:Nat):Int)*((q.den:Nat):Int)≠0:=by
  have:=p.den_nz
  have:=q.den_nz
  exact Ytz (by omega) (by omega)
 simp[]
 refine Zaa (Zs8 (q3.keep k4) q4 hd (by omega) (by omega)) ?_
 rintro v9 h5 m5 k5 hv
 have hp0:((p.den:Nat):Int)≠0:=by have:=p.den_nz;omega
 have hq0:((q.den:Nat):Int)≠0:=by have:=q.den_nz;omega
 rw[←Rat.divInt_add_divInt _ _ hp0 hq0,Ysn,Ysn]at hv
 obtain⟨n5,u5,n6,u6,rfl,t1,t2⟩:=hv
 have o5:=Zat t1
 have o6:=Zat t2
 unfold V.one at o5 o6
 have kle5:=k5.le
 have k15:=k14.trans k5
 have f6:=(k15.get (N+2) (by omega)).trans b3
 have e5:N+2<m5:=by omega
 simp[a4,f6,e5,splice,Zal,o5,o6,Zam.chk]
 have n2':¬N+2<N:=by omega
 refine⟨by simp[Zac,hW,n2'],fun i hi=>?_,by show N+3≤m5;omega,n5,u5,n6,u6,by show T.get (T.set _ _ _) _=_;rw[T.get_set,Yqi rfl],n5,u5,n6,u6,rfl,t1.setNU (i:=N+2) f6 nu0 rfl,t2.setNU (i:=N+2) f6 nu0 rfl⟩
 show T.get (T.set _ _ _) _=_
 rw[T.get_set,Yqe (by omega),k15.get i (by omega)]
def Zpf{x y:V}{p q:Rat}{h:T O}{N:Nat}(hx:Fc h N x p)(hy:Fc h N y q)(l1:wl p.num<1000000000)(l2:wl (p.den:Nat)<1000000000)(l3:wl q.num<1000000000)(l4:wl (q.den:Nat)<1000000000):Fn A.C 74 [x,y] h N (fun v h' n'=>Fc h' n' v (p+q)):=by
 intro w
 rw[Zab,A.k74 (by simp)]
 have hx0:=hx
 have hy0:=hy
 obtain⟨n1,u1,n2,u2,rfl,s1,s2⟩:=hx
 obtain⟨n3,u3,n4,u4,rfl,s3,s4⟩:=hy
 have o1:=Zat s1
 have o2:=Zat s2
 have o3:=Zat s3
 have o4:=Zat s4
 unfold V.one at o1 o2 o3 o4
 have kB:Keeps h N (((h.set N (.cells [.int .i64 n1,u1,.int .i64 n2,u2] 102 true)).set (N+1) (.cells [.int .i64 n3,u3,.int .i64 n4,u4] 102 true)).set (N+2) (.cells [.int .i64 0,.nilslice,.int .i64 0,.nilslice] 102 true)) (N+3):=kset (kset (kset Keeps.refl _) _) _
 simp[A.b74,Zah,slc,o1,o2,o3,o4]
 generalize hhB:((h.set N (.cells [.int .i64 n1,u1,.int .i64 n2,u2] 102 true)).set (N+1) (.cells [.int .i64 n3,u3,.int .i64 n4,u4] 102 true)).set (N+2) (.cells [.int .i64 0,.nilslice,.int .i64 0,.nilslice] 102 true)=hB at*
 have b1:hB.get N=some (.cells [.int .i64 n1,u1,.int .i64 n2,u2] 102 true):=by rw[←hhB];simp
 have b2:hB.get (N+1)=some (.cells [.int .i64 n3,u3,.int .i64 n4,u4] 102 true):=by rw[←hhB];simp
 have b3:hB.get (N+2)=some (.cells [.int .i64 0,.nilslice,.int .i64 0,.nilslice] 102 true):=by rw[←hhB];simp
 refine Zaa (Ya5 (hx0.keep kB)) ?_
 rintro _ h0 m0 k0 rfl
 have kle0:=k0.le
 have k0':=kB.trans k0
 have d1:=(k0.get N (by omega)).trans b1
 have d2:=(k0.get (N+1) (by omega)).trans b2
 have d3:=(k0.get (N+2) (by omega)).trans b3
 by_cases cp:p.den=1
 ·simp[cp,d2,Zah,slc]
  refine Zaa (Ya5 (hy0.keep k0')) ?_
  rintro _ h1 m1 k1 rfl
  have kle1:=k1.le
  have g1:=(k1.get N (by omega)).trans d1
  have g2:=(k1.get (N+1) (by omega)).trans d2
  have g3:=(k1.get (N+2) (by omega)).trans d3
  have k1':=k0'.trans k1
  by_cases cq:q.den=1
  ·simp[cq,g1,g2,Zah,slc]
   refine Zaa (Zrt (s1.keep k1') (s3.keep k1') (by omega) (by omega)) ?_
   rintro v5 h2 m2 k2 q1
   have kle2:=k2.le
   simp[]
   refine Zaa (Zoo q1) ?_
   rintro _ h3 m3 k3 ⟨n5,u5,n6,u6,rfl,t1,t2⟩
   have o5:=Zat t1
   have o6:=Zat t2
   unfold V.one at o5 o6
   have kle3:=k3.le
   have f5:=(k3.get (N+2) (by omega)).trans ((k2.get (N+2) (by omega)).trans g3)
   simp[f5,Zah,slc,splice,Zal,o5,o6,Ret]
   have kk:=(k1'.trans k2).trans k3
   have hpq:p+q=((p.num+q.num:Int):Rat):=by rw[Zls cp,Zls cq];simp
   rw[hpq]
   exact⟨kk.set (by omega),n5,u5,n6,u6,rfl,t1.setNU (i:=N+2) f5 nu0 rfl,t2.setNU (i:=N+2) f5 nu0 rfl⟩
  ·simp[cq]
   refine Zbo (Yol (N:=N) (p:=p) (q:=q) (by omega) (by simp[Zac]) g1 g2 g3 (s1.keep k1') (s2.keep k1') (s3.keep k1') (s4.keep k1') l1 l2 l3 l4 (by simp) (by simp) (by simp)) ?_
   rintro e fr ⟨H6,n6,W6⟩ ⟨rfl,r6,rfl,c4,q1,q2,q3,m5,v5,m6,v6,q4,q5⟩
   simp only at q1 q2 q3 q4 q5
   simp[c4,q4,Zah,slc,Ret,q1]
   exact⟨⟨by omega,fun i hi=>(q2 i hi).trans (k1'.get i hi)⟩,q5⟩
 ·simp[cp]
  refine Zbo (Yol (N:=N) (p:=p) (q:=q) (by omega) (by simp[Zac]) d1 d2 d3 (s1.keep k0') (s2.keep k0') (s3.keep k0') (s4.keep k0') l1 l2 l3 l4 (by simp) (by simp) (by simp)) ?_
  rintro e fr ⟨H6,n6,W6⟩ ⟨rfl,r6,rfl,c4,q1,q2,q3,m5,v5,m6,v6,q4,q5⟩
  simp only at q1 q2 q3 q4 q5
  simp[c4,q4,Zah,slc,Ret,q1]
  exact⟨⟨by omega,fun i hi=>(q2 i hi).trans (k0'.get i hi)⟩,q5⟩
def A.b102:=A.q Tryz.f102
def A.k102:=@A.kk 102 22 [.cell 2 (some 4)] A.b102 (by kernel_rfl) rfl
def Zl6{z:Int}{h:T O}{N:Nat}(hl:(decI z).length≤100000):Fn A.C 169 [.str (decI z)] h N (fun v h' n'=>In h' n' v z):=by
 have hb:(decN z.natAbs).length≤100000:=by
  unfold decI at hl
  split at hl<;>(try simp at hl)<;>omega
 have:=Zzk (s:=decI z) (h:=h) (N:=N) (by rw[Zet];exact Zcz _) (by rw[Zet];exact hb)
 rw[Zgy,Zet,Zey]at this
 have e:(if decide (z<0)=true then -(z.natAbs:Int) else (z.natAbs:Int))=z:=by
  by_cases hz:z<0<;>simp[hz]<;>omega
 rw[e]at this
 exact this
def Yjj{q:Rat}{h:T O}{N:Nat}(l1:(decI q.num).length≤100000)(l2:(decN q.den).length≤100000):Fn A.C 102 [.str (Zaq q)] h N (fun v h' n'=>Fc h' n' v q):=by
 intro w
 have hc:=fun st=>Ygw (s:=Zaq q) (st:=st) (by unfold Zaq;split<;>(try simp)<;>omega)
 rw[Zi6]at hc
 have kB:=kset (Keeps.refl (h:=h) (n:=N)) (.cells [.int .i64 0,.nilslice,.int .i64 0,.nilslice] 102 true)
 rw[Zab,A.k102 (by simp)]
 by_cases c1:q.den=1
 ·have hlt:¬slashAt (Zaq q)<(Zaq q).length:=fun hx=>(Zi7 q).1 hx c1
  simp[A.b102,hc,hlt]
  refine Zaa (Zl6 l1) ?_
  rintro v1 h1 m1 k1 q1
  simp[]
  refine Zaa (Zoo q1) ?_
  rintro _ h3 m3 k3 ⟨n5,u5,n6,u6,rfl,t1,t2⟩
  have o5:=Zat t1
  have o6:=Zat t2
  unfold V.one at o5 o6
  have kle1:=k1.le
  have kle3:=k3.le
  have kk:=(kB.trans k1).trans k3
  have f5:=((k1.trans k3).get N (by omega))
  rw[T.get_set,Yqi rfl]at f5
  simp[f5,Zah,slc,splice,Zal,o5,o6,Ret]
  rw[Zls c1]
  exact⟨kk.set (by omega),n5,u5,n6,u6,rfl,t1.setNU f5 nu0 rfl,t2.setNU f5 nu0 rfl⟩
 ·have hlt:slashAt (Zaq q)<(Zaq q).length:=(Zi7 q).2 c1
  have hd:=Zi8 q c1
  have hdI:decN q.den=decI ((q.den:Nat):Int):=by unfold decI;rw[Yqe (by omega)];rfl
  rw[hdI]at l2 hd
  simp[A.b102,hc,hlt,hd]
  refine Zaa (Zl6 l1) ?_
  rintro v1 h1 m1 k1 q1
  simp[]
  refine Zaa (Zl6 l2) ?_
  rintro v2 h2 m2 k2 q2
  obtain⟨n5,u5,rfl,hu5⟩:=q1.cells
  obtain⟨n6,u6,rfl,hu6⟩:=q2.cells
  have o5:=hu5
  have o6:=hu6
  unfold V.one at o5 o6
  have kle1:=k1.le
  have kle2:=k2.le
  have kk:=(kB.trans k1).trans k2
  have f5:=((k1.trans k2).get N (by omega))
  rw[T.get_set,Yqi rfl]at f5
  simp[f5,Zah,slc,splice,Zal,o5,o6,Ret]
  exact⟨kk.set (by omega),n5,u5,n6,u6,rfl,(q1.keep k2).setNU f5 nu0 rfl,q2.setNU f5 nu0 rfl⟩
variable {N k:Nat} {h:T O} {x:V} {z:Int}
def A.b152:=A.q Tryz.f152
def A.k152:=@A.kk 152 6 [.tmp 2] A.b152 (by kernel_rfl) rfl
def A.b150:=A.q Tryz.f150
def A.k150:=@A.kk 150 11 [.tmp 2] A.b150 (by kernel_rfl) rfl
def A.b209:=A.q Tryz.f209
def A.k209:=@A.kk 209 13 [.tmp 2] A.b209 (by kernel_rfl) rfl
def A.b247:=A.q Tryz.f247
def A.k247:=@A.kk 247 25 [.tmp 2] A.b247 (by kernel_rfl) rfl
def Fc.parts{q:Rat}(s:Fc h N x q):∃n1 u1 n2 u2,x=.agg [.int .i64 n1,u1,.int .i64 n2,u2]∧In h N (.agg [.int .i64 n1,u1]) q.num∧In h N (.agg [.int .i64 n2,u2]) (q.den:Int)∧V.one u1=true∧V.one u2=true:=by
 obtain⟨n1,u1,n2,u2,rfl,s1,s2⟩:=s
 exact⟨n1,u1,n2,u2,rfl,s1,s2,Zat s1,Zat s2⟩
def Zu8{q:Rat}(hx:Fc h N x q):Fn A.C 152 [x] h N (fun v _ _=>v=.int .i64 (sg3 q.num)):=by
 intro w
 obtain⟨n1,u1,n2,u2,rfl,s1,s2,o1,o2⟩:=hx.parts
 unfold V.one at o1 o2
 rw[Zab,A.k152 (by simp)]
 have k0:=(Keeps.refl (h:=h) (n:=N)).new (.cells [.int .i64 n1,u1,.int .i64 n2,u2] 102 true)
 simp[A.b152,Zah,slc,o1,o2]
 refine Zaa (Zib (s1.keep k0)) ?_
 rintro _ h1 m1 k1 rfl
 simp[Ret]
 exact k0.trans k1
def Yfq{n d:Nat}(hk:(wds n).length=k+1)(hd:(wds n)[k]?=some d):n<2^(64*k+blen d):=by
 have h1:=Zbm n
 have h2:=Zbx (b:=B) hd
 rw[Yqp (by omega),h1]at h2
 have h3:val B ((wds n).take k)<B^k:=by
  have:=Zkq (b:=B) (l:=(wds n).take k) (fun x hx=>Zdf n x (Ysg hx))
  rw[Yq0,Yrb (by omega)]at this;exact this
 have h4:d+1≤2^blen d:=Zpm d
 have h5:B^k*(d+1)≤B^k*2^blen d:=Yqs _ h4
 have h6:B^k=2^(64*k):=by rw[Nat.pow_mul];rfl
 rw[Yre,←h6]
 rw[Ysa]at h5
 omega
def Zs7{n b:Nat}(h:600<(decN n).length)(hb:n<2^b):1800<b:=by
 apply Classical.byContradiction
 intro hc
 obtain⟨M,hM⟩:∃M:Nat,M=600:=⟨_,rfl⟩
 have h1:n<2^(3*M):=Yqq hb (Zma (by omega))
 have h2:(2:Nat)^(3*M)≤10^M:=by
  rw[Nat.pow_mul]
  exact Ys9 (by decide) _
 have h3:=(Zis (n:=n) (k:=M) (by omega)).2 (Yqq h1 h2)
 omega
def Yka(hx:In h N x z)(hl:wl z<10000000000):Fn A.C 247 [x] h N (fun v _ _=>∃b:Nat,v=.int .i64 b∧z.natAbs<2^b):=by
 intro w
 obtain⟨n,u,rfl,hu⟩:=hx.cells
 have hu':=hu
 unfold V.one at hu'
 have k0:=(Keeps.refl (h:=h) (n:=N)).new (.cells [.int .i64 n,u] 100 true)
 rw[Zab,A.k247 (by simp)]
 simp[A.b247,Zah,slc,hu']
 refine Zaa (Zel (hx.keep k0)) ?_
 rintro _ h1 m1 k1 ⟨u2,rfl,hw⟩
 have hlen:=Sl.len hw
 rw[Zad]at hlen
 by_cases h0:(wds z.natAbs).length=0
 ·rw[h0]at hlen
  have hz:z.natAbs=0:=by
   have:=Zbm z.natAbs
   rw[Yqw h0]at this
   simpa[val]using this.symm
  simp[hlen,Ret]
  exact⟨k0.trans k1,0,rfl,by omega⟩
 ·obtain⟨k,hk⟩:∃k,(wds z.natAbs).length=k+1:=⟨(wds z.natAbs).length-1,by omega⟩
  rw[hk]at hlen
  obtain⟨d,hd⟩:=Zan (l:=wds z.natAbs) (k:=k) (by omega)
  obtain⟨i,o,c,e,rw,q1,q2,q3,q4⟩:=Sl.at hw (Za5 hd)
  have hdB:d<18446744073709551616:=(Zdf _).get hd
  have hkl:k+1<10000000000:=by
   have:=hl
   unfold wl at this
   omega
  have hbl:blen d≤64:=by
   apply Classical.byContradiction
   intro hc
   have h1:d≠0:=fun h=>by rw[h]at hc;simp[blen]at hc
   have h2:=Zko h1
   have h3:=Zma (j:=64) (k:=blen d-1) (by omega)
   have h4:(2:Nat)^64=18446744073709551616:=by decide
   omega
  have c1:¬((k:Int)+1=0):=by omega
  have c2:Zao .i64 ((k:Int)+1-1)=(k:Int):=by rw[Zag (by omega) (by omega)];omega
  have c3:Zao .i64 (64*(k:Int))=64*(k:Int):=Zag (by omega) (by omega)
  have c4:Zao .i64 (64*(k:Int)+(blen d:Nat))=64*(k:Int)+(blen d:Nat):=Zag (by omega) (by omega)
  have c5:(k:Int)<(k:Int)+1:=by omega
  simp(disch:=omega) [hlen,c1,c3,q1,q3,q4]
  refine Zaa (Zo8 hdB) ?_
  rintro _ h2 m2 k2 ⟨rfl,rfl,rfl⟩
  simp[c4,Ret]
  exact⟨k0.trans k1,64*k+blen d,by simp,Yfq hk hd⟩
def Yav(hx:In h N x z)(hP:P10 h N)(hl:wl z<10000000000)(hd:(Zcx z.natAbs).length<1000000000):Fn A.C 209 [x] h N (fun v _ _=>v=.bool (decide (600<(decN z.natAbs).length))):=by
 intro w
 obtain⟨n,u,rfl,hu⟩:=hx.cells
 have hu':=hu
 unfold V.one at hu'
 have k0:=(Keeps.refl (h:=h) (n:=N)).new (.cells [.int .i64 n,u] 100 true)
 have g0:(h.set N (.cells [.int .i64 n,u] 100 true)).get N=some (.cells [.int .i64 n,u] 100 true):=by rw[T.get_set,Yqi rfl]
 rw[Zab,A.k209 (by simp)]
 simp[A.b209,Zah,slc,hu']
 refine Zaa (Yka (hx.keep k0) hl) ?_
 rintro _ h1 m1 k1 ⟨b,rfl,hb⟩
 have g1:=(k1.get N (by omega)).trans g0
 by_cases hbb:1800<b
 ·have hbb':(1800:Int)<(b:Int):=by omega
  simp[hbb',g1,Zah,slc]
  refine Zaa (Zjc ((hx.keep k0).keep k1) ((hP.keep k0).keep k1) (by omega)) ?_
  rintro _ h2 m2 k2 rfl
  have ht:=fun st=>Zi9 (s:=decI z) (st:=st)
  rw[Zet]at ht
  simp[ht,Ret]
  exact⟨(k0.trans k1).trans k2,by omega⟩
 ·have hbb':¬(1800:Int)<(b:Int):=by omega
  have hno:¬600<(decN z.natAbs).length:=fun hc=>hbb (Zs7 hc hb)
  simp[hbb',hno,Ret]
  exact k0.trans k1
def Yc0(h:z.natAbs<2^k):wl z≤k:=by
 have:=Ze2 (Yqq h (Ys9 (by decide) k))
 unfold wl at this ⊢
 rwa [Yqk]at this
def Zra{q:Rat}(hx:Fc h N x q)(hP:P10 h N)(hq:Qb k q)(hk:k≤400000000):Fn A.C 150 [x] h N (fun v _ _=>v=.bool (Zrn q)):=by
 intro w
 obtain⟨n1,u1,n2,u2,rfl,s1,s2,o1,o2⟩:=hx.parts
 unfold V.one at o1 o2
 have k0:=(Keeps.refl (h:=h) (n:=N)).new (.cells [.int .i64 n1,u1,.int .i64 n2,u2] 102 true)
 have g0:(h.set N (.cells [.int .i64 n1,u1,.int .i64 n2,u2] 102 true)).get N=some (.cells [.int .i64 n1,u1,.int .i64 n2,u2] 102 true):=by rw[T.get_set,Yqi rfl]
 have l1:=Zit hq.1
 have l2:=Zit hq.2
 have z1:=Yc0 hq.1
 have z2:=Yc0 (z:=(q.den:Int)) (k:=k) (by rw[Yqk];exact hq.2)
 rw[Zab,A.k150 (by simp)]
 simp[A.b150,Zah,slc,o1,o2]
 refine Zaa (Yav (s1.keep k0) (hP.keep k0) (by omega) (by omega)) ?_
 rintro _ h1 m1 k1 rfl
 have g1:=(k1.get N (by omega)).trans g0
 unfold Zrn
 by_cases c1:600<(decN q.num.natAbs).length
 ·simp[c1,Ret]
  exact k0.trans k1
 ·simp[c1,g1,Zah,slc]
  refine Zaa (Yav ((s2.keep k0).keep k1) ((hP.keep k0).keep k1) (by omega) (by rw[Yqk];omega)) ?_
  rintro _ h2 m2 k2 rfl
  simp[Ret]
  exact(k0.trans k1).trans k2
variable {N:Nat} {h:T O} {l:List Rat} {v:V}
def A.w107:=A.q Tryz.f107
def A.lb107_0:=A.ql A.w107 0 []
def A.b107:=(fun x0=>A.qb A.w107 [x0]) A.lb107_0
def A.k107:=@A.kk 107 23 [.tmp 2] A.b107 (by kernel_rfl) rfl
def A.w151:=A.q Tryz.f151
def A.lb151_0:=A.ql A.w151 0 []
def A.b151:=(fun x0=>A.qb A.w151 [x0]) A.lb151_0
def A.k151:=@A.kk 151 23 [.tmp 2] A.b151 (by kernel_rfl) rfl
def FcC(h:T O)(N:Nat)(c:List V)(q:Rat):Prop:=∃n1 u1 n2 u2,c=[.int .i64 n1,u1,.int .i64 n2,u2]∧In h N (.agg [.int .i64 n1,u1]) q.num∧In h N (.agg [.int .i64 n2,u2]) (q.den:Int)
def FcC.keep{h':T O}{N':Nat}{c:List V}{q:Rat}(s:FcC h N c q)(k:Keeps h N h' N'):FcC h' N' c q:=by
 obtain⟨n1,u1,n2,u2,rfl,s1,s2⟩:=s
 exact⟨n1,u1,n2,u2,rfl,s1.keep k,s2.keep k⟩
def FcC.fc{c:List V}{q:Rat}(s:FcC h N c q):Fc h N (.agg c) q:=by
 obtain⟨n1,u1,n2,u2,rfl,s1,s2⟩:=s
 exact⟨n1,u1,n2,u2,rfl,s1,s2⟩
def Fc.c{x:V}{q:Rat}(s:Fc h N x q):∃c,x=.agg c∧FcC h N c q:=by
 obtain⟨n1,u1,n2,u2,rfl,s1,s2⟩:=s
 exact⟨_,rfl,n1,u1,n2,u2,rfl,s1,s2⟩
def NoU(c:List V):Prop:=∀x∈c,∀m,x≠.int .u64 m
def Zu4{n:Int}{u:V}{z:Int}(s:In h N (.agg [.int .i64 n,u]) z):∀m,u≠.int .u64 m:=by
 rcases s with⟨h1,_⟩|⟨i,o,l,c,h1,_⟩
 ·simp at h1;rw[h1.2];simp
 ·simp at h1;rw[h1.2];simp
def FcC.noU{c:List V}{q:Rat}(s:FcC h N c q):NoU c:=by
 obtain⟨n1,u1,n2,u2,rfl,s1,s2⟩:=s
 intro x hx m
 simp at hx
 rcases hx with rfl|rfl|rfl|rfl
 ·simp
 ·exact Zu4 s1 m
 ·simp
 ·exact Zu4 s2 m
def FcC.len{c:List V}{q:Rat}(s:FcC h N c q):c.length=4∧c.all V.one=true:=by
 obtain⟨n1,u1,n2,u2,rfl,s1,s2⟩:=s
 have o1:=Zat s1
 have o2:=Zat s2
 exact⟨rfl,by simp only[List.all_cons,List.all_nil,o1,o2,Bool.and_true];rfl⟩
def FcC.setNU{i:Nat}{c c0 c1:List V}{q:Rat}{e0 e1:TypeId}{w0 w1:Bool}(s:FcC h N c q)(g:h.get i=some (.cells c0 e0 w0))(hn:NoU c0)(hc:c1.length=c0.length):FcC (h.set i (.cells c1 e1 w1)) N c q:=by
 obtain⟨n1,u1,n2,u2,rfl,s1,s2⟩:=s
 exact⟨n1,u1,n2,u2,rfl,s1.setNU g hn hc,s2.setNU g hn hc⟩
def FrS(h:T O)(N:Nat)(v:V)(l:List Rat):Prop:=∃cs:List (List V),Sn 4 h N v cs∧cs.length=l.length∧∀(j:Nat) (q:Rat),l[j]?=some q→∃c,cs[j]?=some c∧FcC h N c q
def FrS.keep{h':T O}{N':Nat}(s:FrS h N v l)(k:Keeps h N h' N'):FrS h' N' v l:=by
 obtain⟨cs,h1,h2,h3⟩:=s
 refine⟨cs,h1.keep k,h2,fun j q hq=>?_⟩
 obtain⟨c,g1,g2⟩:=h3 j q hq
 exact⟨c,g1,g2.keep k⟩
def FrS.len(s:FrS h N v l):Zps v=some l.length:=by
 obtain⟨cs,h1,h2,_⟩:=s
 rw[h1.len,h2]
def FrS.at(s:FrS h N v l){j:Nat}{q:Rat}(hj:l[j]?=some q):∃i o x e rw c,Zno v=some (i,o)∧i<N∧h.get i=some (.cells x e rw)∧slc x (o+j*4) 4=some c∧FcC h N c q:=by
 obtain⟨cs,h1,h2,h3⟩:=s
 obtain⟨c,h4,h5⟩:=h3 j q hj
 obtain⟨i,o,x,e,rw,q1,q2,q3,q4⟩:=h1.at h4
 exact⟨i,o,x,e,rw,c,q1,q2,q3,q4,h5⟩
def FrT(h:T O)(N:Nat)(v:V)(l:List Rat):Prop:=FrS h N v l∧∀i∈Zhk v,∃z w,h.get i=some (.cells z 102 w)
def tx(l:List Rat):List V:=strs (l.map Zaq)
def Zfc(l:List Rat):(tx l).length=l.length:=by simp[tx,strs]
def Zks{j:Nat}{q:Rat}(h:l[j]?=some q):(tx l)[j]?=some (.str (Zaq q)):=by simp[tx,strs,h]
def zF:List V:=[.int .i64 0,.nilslice,.int .i64 0,.nilslice]
def Zlc{z:List V}{n:Nat}:Zeh z (n+1)=z++Zeh z n:=by
 unfold Zeh
 rw[Nat.succ_mul,Nat.add_comm (n*z.length),List.range_add,List.map_append,List.map_map]
 congr 1
 ·apply Yq9
  intro j
  by_cases hj:j<z.length
  ·rw[Yq4,Ytw hj]
   simp[Yr2 hj,hj]
  ·rw[Yqv (by simp;omega),Yqv (by omega)]
 ·apply List.map_congr_left
  intro i _
  simp[Nat.add_mod_left]
def Zkd{a b c x:List V}{n o:Nat}(ha:a.length=o)(hb:b.length=n)(hx:x.length=n):splice (a++(b++c)) o x=a++(x++c):=by
 unfold splice
 rw[←ha,List.take_left,hx,←List.drop_drop,List.drop_left,←hb,List.drop_left,Yrh]
structure FaI (h:T O) (N:Nat) (l:List Rat) (m:Nat) (r:T V) (st:St):Prop where
 w:Zac N st.w=[]
 keep:Keeps h N st.h st.n
 ex:∃(k:Nat) (cs:List (List V)),k+m=l.length∧r.get 11=some (.int .i64 k)∧r.get 3=some (.slice N 0 l.length (some l.length) 4)∧N<st.n∧st.h.get N=some (.cells (cs.flatten++Zeh zF m) 102 true)∧cs.length=k∧∀(j:Nat) (q:Rat),j<k→l[j]?=some q→∃c,cs[j]?=some c∧FcC st.h st.n c q
def Yjl{cs:List (List V)}(hl:cs.length≤l.length)(hc:∀(j:Nat) (q:Rat),j<cs.length→l[j]?=some q→∃c,cs[j]?=some c∧FcC h N c q):(∀c∈cs,c.length=4)∧NoU cs.flatten∧cs.flatten.all V.one=true:=by
 have key:∀c∈cs,∃q,FcC h N c q:=fun c hcm=>by
  obtain⟨j,hj⟩:=Ytr hcm
  have hlt:=Zct hj
  obtain⟨q,hq⟩:=Zan (l:=l) (k:=j) (by omega)
  obtain⟨c',h1,h2⟩:=hc j q hlt hq
  rw[hj]at h1
  simp only[Yqc]at h1
  subst h1
  exact⟨q,h2⟩
 refine⟨fun c hcm=>?_,fun x hx m=>?_,?_⟩
 ·obtain⟨q,hq⟩:=key c hcm;exact hq.len.1
 ·obtain⟨c,hcm,hxc⟩:=List.mem_flatten.1 hx
  obtain⟨q,hq⟩:=key c hcm
  exact hq.noU x hxc m
 ·rw[Yrs]
  intro x hx
  obtain⟨c,hcm,hxc⟩:=List.mem_flatten.1 hx
  obtain⟨q,hq⟩:=key c hcm
  exact Yrs.1 hq.len.2 x hxc
def Zlb:∀{n:Nat},NoU (Zeh zF n)
 |0=>by intro x hx;simp[Zeh]at hx
 |n+1=>by
  intro x hx m
  rw[Zlc]at hx
  rcases Yry.1 hx with hx|hx
  ·simp[zF]at hx
   rcases hx with rfl|rfl|rfl|rfl<;>simp
  ·exact Zlb x hx m
def NoU.app{a b:List V}(ha:NoU a)(hb:NoU b):NoU (a++b):=fun x hx m=>by
 rcases Yry.1 hx with hx|hx
 ·exact ha x hx m
 ·exact hb x hx m
def Ykx(n:Nat):(Zeh zF n).length=n*4:=by
 induction n with
 |zero=>simp[Zeh]
 |succ n ih=>rw[Zlc,Yqr,ih];simp[zF];omega
def Yws{k0:Nat}(hs:Sl h N v (tx l))(hl:l.length<1000000000)(hq:∀q∈l,Qb k0 q)(hk0:k0≤4000):Fn A.C 107 [v] h N (fun u h' n'=>FrT h' n' u l):=by
 intro w
 have hlen:=hs.len
 rw[Zfc]at hlen
 have c1:(64:Int)*(l.length:Int)≤140737488355328:=by omega
 have c2:(l.length:Int)<4611686018427387904:=by omega
 have kB:Keeps h N (h.set N (.cells (Zeh zF l.length) 102 true)) (N+1):=Keeps.refl.new _
 rw[Zab,A.k107 (by simp)]
 simp[A.b107,hlen,c1,c2]
 refine Zaj [(4,5),(11,21)] (fun e r st=>e=.exit 0∧FaI h N l 0 r st) (FaI h N l) l.length ?_ ?_ ?_
 ·exact⟨by simp,kB,0,[],by omega,by simp,by simp,by show N<N+1;omega,by rw[T.get_set,Yqi rfl];rfl,rfl,fun j q hj=>by omega⟩
 ·rintro m r ⟨H,n1,W⟩ hr hf ⟨hW,hK,k,cs,hk,h11,h3,hN1,hM,hcl,hcs⟩
  simp only at hW hK hM hN1 hcs
  rw[Zai]
  cases m with
  |zero=>
   obtain rfl:k=l.length:=by omega
   simp[A.lb107_0,hr,hf,h11]
   exact⟨hW,hK,l.length,cs,by omega,by simp[h11],by simp[h3],hN1,hM,hcl,hcs⟩
  |succ m=>
   have hlt:k<l.length:=by omega
   have hlt':(k:Int)<(l.length:Int):=by omega
   obtain⟨q,hqk⟩:=Zan hlt
   have hqb:=hq q (Yqn hqk)
   obtain⟨i,o,cc,e,rw,q1,q2,q3,q4⟩:=(hs.keep hK).at (Zks hqk)
   have la:=Zgf hqb.1
   have la2:=Zir hqb.2
   simp[A.lb107_0,hr,h11,hlt',hlen,q1,q3,q4]
   refine Zaa (Yjj (q:=q) (by omega) (by omega)) ?_
   rintro _ H2 n2 k2 hf2
   obtain⟨c,rfl,hc⟩:=hf2.c
   have le2:=k2.le
   have nle:=hK.le
   have hM2:=(k2.get N hN1).trans hM
   have hcs2:∀(j:Nat) (q:Rat),j<cs.length→l[j]?=some q→∃c,cs[j]?=some c∧FcC H2 n2 c q:=fun j q hj hq=>by
    obtain⟨c,g1,g2⟩:=hcs j q (by omega) hq
    exact⟨c,g1,g2.keep k2⟩
   obtain⟨f1,f2,f3⟩:=Yjl (l:=l) (by omega) hcs2
   have hfl:=Zb6 f1
   obtain⟨e1,e2⟩:=hc.len
   have hsp:splice (cs.flatten++Zeh zF (m+1)) (k*4) c=(cs++[c]).flatten++Zeh zF m:=by
    rw[Zlc,Zkd (n:=4) (by rw[hfl,hcl]) rfl e1,Zu9,Yrh]
   have hb:k*4+4≤(cs.flatten++Zeh zF (m+1)).length:=by
    rw[Yqr,hfl,Ykx];omega
   have hcc:(V.agg c).cells=c:=rfl
   have hnu:NoU (cs.flatten++Zeh zF (m+1)):=f2.app Zlb
   have hlen4:((cs++[c]).flatten++Zeh zF m).length=(cs.flatten++Zeh zF (m+1)).length:=by
    rw[Zlc,Zu9];simp[e1,zF];omega
   generalize cs.flatten++Zeh zF (m+1)=X at*
   obtain⟨Y,hY⟩:∃Y,(cs++[c]).flatten++Zeh zF m=Y:=⟨_,rfl⟩
   rw[hY]at hsp hlen4
   simp(disch:=first|(simp;done)|omega|(simp only[Zad,Zae,Yqd];omega)|rfl) [-V.cells, -V.one,hr,hf,h11,h3,hlt,hlt',hM2,Zal,hcc,e1,e2,hb,hsp]
   have wok:¬N<N:=by omega
   refine⟨m,by omega,⟨by simp[Zac,hW],(hK.trans k2).set (Yqg N),k+1,cs++[c],by omega,by simp,by simp[h3],by show N<n2;omega,by show T.get _ N=_;rw[T.get_set,Yqi rfl,hY],by simp[hcl],fun j q' hj hq'=>?_⟩⟩
   by_cases hjk:j<k
   ·obtain⟨c',g1,g2⟩:=hcs j q' hjk hq'
    exact⟨c',by rw[Yrp (by omega)];exact g1,(g2.keep k2).setNU hM2 hnu hlen4⟩
   ·obtain rfl:j=k:=by omega
    rw[hqk]at hq'
    simp only[Yqc]at hq'
    subst hq'
    exact⟨c,by rw[Ytd (by omega),hcl];simp,hc.setNU hM2 hnu hlen4⟩
 ·rintro _ r ⟨H,n1,W⟩ hr ⟨rfl,hW,hK,k,cs,hk,h11,h3,hN1,hM,hcl,hcs⟩
  simp only at hW hK hM hN1 hcs
  obtain rfl:k=l.length:=by omega
  simp[hr,Ret,hW,hK]
  have hz:Zeh zF 0=[]:=by simp[Zeh]
  obtain⟨f1,_,_⟩:=Yjl (l:=l) (by omega) (fun j q hj hq=>hcs j q (by omega) hq)
  have hfl:=Zb6 f1
  rw[hz,Ysm]at hM
  refine⟨⟨cs,.inr ⟨N,0,some l.length,cs.flatten,_,true,by rw[hcl],hN1,hM,fun j x hx=>by rw[Yst];exact Zf9 f1 hx,by omega,fun k hk=>by simp at hk;omega⟩,hcl,fun j q hq=>hcs j q (Zct hq) hq⟩,fun i hi=>?_⟩
  simp[Zhk]at hi
  subst hi
  exact⟨_,_,hM⟩
structure TaI (h:T O) (N:Nat) (l:List Rat) (m:Nat) (r:T V) (st:St):Prop where
 w:Zac N st.w=[]
 keep:Keeps h N st.h st.n
 ex:∃(k:Nat),k+m=l.length∧r.get 11=some (.int .i64 k)∧r.get 3=some (.slice N 0 l.length (some l.length) 1)∧N<st.n∧st.h.get N=some (.cells (tx (l.take k)++List.replicate m (V.str [])) 30 true)
def Ydd{k0:Nat}(hs:FrS h N v l)(hP:P10 h N)(hl:l.length<1000000000)(hq:∀q∈l,Qb k0 q)(hk0:k0≤400000000):Fn A.C 151 [v] h N (fun u h' n'=>Sl h' n' u (tx l)∧∀i∈Zhk u,∃z w,h'.get i=some (.cells z 30 w)):=by
 intro w
 have hlen:=hs.len
 have c1:(16:Int)*(l.length:Int)≤140737488355328:=by omega
 have c2:(l.length:Int)<4611686018427387904:=by omega
 have kB:Keeps h N (h.set N (.cells (Zeh [.str []] l.length) 30 true)) (N+1):=Keeps.refl.new _
 rw[Zab,A.k151 (by simp)]
 simp[A.b151,hlen,c1,c2]
 refine Zaj [(4,5),(11,21)] (fun e r st=>e=.exit 0∧TaI h N l 0 r st) (TaI h N l) l.length ?_ ?_ ?_
 ·exact⟨by simp,kB,0,by omega,by simp,by simp,by show N<N+1;omega,by rw[T.get_set,Yqi rfl,Yf0];simp[tx,strs]⟩
 ·rintro m r ⟨H,n1,W⟩ hr hf ⟨hW,hK,k,hk,h11,h3,hN1,hM⟩
  simp only at hW hK hM hN1
  rw[Zai]
  cases m with
  |zero=>
   obtain rfl:k=l.length:=by omega
   simp[A.lb151_0,hr,hf,h11]
   exact⟨hW,hK,l.length,by omega,by simp[h11],by simp[h3],hN1,hM⟩
  |succ m=>
   have hlt:k<l.length:=by omega
   have hlt':(k:Int)<(l.length:Int):=by omega
   obtain⟨q,hqk⟩:=Zan hlt
   have hqb:=hq q (Yqn hqk)
   obtain⟨i,o,x,e,rw,c,q1,q2,q3,q4,q5⟩:=(hs.keep hK).at hqk
   obtain⟨n1',u1,n2',u2,rfl,s1,s2⟩:=q5
   have o1:=Zat s1
   have o2:=Zat s2
   unfold V.one at o1 o2
   have la:=Zit hqb.1
   have la2:=Zit hqb.2
   have nle:=hK.le
   have e4:splice [.int .i64 0,.nilslice,.int .i64 0,.nilslice] 0 [.int .i64 n1',u1,.int .i64 n2',u2]=[.int .i64 n1',u1,.int .i64 n2',u2]:=rfl
   have e5:slc [.int .i64 n1',u1,.int .i64 n2',u2] 0 4=some [.int .i64 n1',u1,.int .i64 n2',u2]:=rfl
   have kA:Keeps H n1 ((H.set n1 (.cells [.int .i64 0,.nilslice,.int .i64 0,.nilslice] 102 true)).set n1 (.cells [.int .i64 n1',u1,.int .i64 n2',u2] 102 true)) (n1+1):=(Keeps.refl.new _).set (Yqg _)
   simp[A.lb151_0,hr,h11,hlt',hlen,q1,q3,q4,Zah,Zal,o1,o2,e4,e5]
   refine Zaa (Zyt (q:=q) (Fc.keep ⟨n1',u1,n2',u2,rfl,s1,s2⟩ kA) ((hP.keep hK).keep kA) (by omega) (by omega)) ?_
   rintro _ H2 n2 k2 rfl
   have le2:=k2.le
   have hM2:=(k2.get N (by omega)).trans ((kA.get N hN1).trans hM)
   have hb:k+1≤(tx (l.take k)++List.replicate (m+1) (V.str [])).length:=by
    rw[Yqr,Zfc,List.length_replicate,Yq0];omega
   have hsp:splice (tx (l.take k)++List.replicate (m+1) (V.str [])) k [.str (Zaq q)]=tx (l.take (k+1))++List.replicate m (V.str []):=by
    have e1:(tx (l.take k)++List.replicate (m+1) (V.str []))=tx (l.take k)++([V.str []]++List.replicate m (V.str [])):=by rw[List.replicate_succ];rfl
    rw[e1,Zkd (n:=1) (by rw[Zfc,Yq0];omega) rfl rfl,Ys4,hqk]
    simp[tx,strs]
   generalize tx (l.take k)++List.replicate (m+1) (V.str [])=X at*
   obtain⟨Y,hY⟩:∃Y,tx (l.take (k+1))++List.replicate m (V.str [])=Y:=⟨_,rfl⟩
   rw[hY]at hsp
   simp(disch:=first|(simp;done)|omega|(simp only[Zad,Zae,Yqd];omega)|rfl) [hr,hf,h11,h3,hlt,hlt',hM2,Zal,hb,hsp]
   refine⟨m,by omega,⟨by simp[Zac,hW];omega,((hK.trans kA).trans k2).set (Yqg N),k+1,by omega,by simp,by simp[h3],by show N<n2;omega,by show T.get _ N=_;rw[T.get_set,Yqi rfl,hY]⟩⟩
 ·rintro _ r ⟨H,n1,W⟩ hr ⟨rfl,hW,hK,k,hk,h11,h3,hN1,hM⟩
  simp only at hW hK hM hN1
  obtain rfl:k=l.length:=by omega
  rw[Ysp]at hM
  simp only[List.replicate_zero,Ysm]at hM
  simp[hr,Ret,hW,hK]
  exact⟨Sl.row hN1 hM (Zfc l) (fun k hk=>by simp at hk;omega),fun i hi=>by simp[Zhk]at hi;subst hi;exact⟨_,.inr hM⟩⟩
def Tx(h:T O)(N:Nat)(v:V)(l:List Rat):Prop:=Sl h N v (tx l)
def Tx.keep{h h':T O}{N N':Nat}{v:V}{l:List Rat}(s:Tx h N v l)(k:Keeps h N h' N'):Tx h' N' v l:=Sl.keep s k
def Tx.len{h:T O}{N:Nat}{v:V}{l:List Rat}(s:Tx h N v l):Zps v=some l.length:=by
 have:=Sl.len s
 rwa [Zfc]at this
variable {N:Nat} {h:T O}
def TxT(h:T O)(N:Nat)(u:V)(l:List Rat):Prop:=Tx h N u l∧∀i∈Zhk u,∃z w,h.get i=some (.cells z 30 w)
def Yh1{v:V}{l:List V}(s:Sl h N v l):∀i∈Zhk v,i<N:=fun i hi=>by
 rcases s with⟨_,rfl|rfl⟩|⟨j,o,cp,c,e,rw,rfl,hj,_⟩
 ·simp[Zhk]at hi
 ·simp[Zhk]at hi
 ·simp[Zhk]at hi;omega
def TxT.keep{h':T O}{N':Nat}{u:V}{l:List Rat}(s:TxT h N u l)(k:Keeps h N h' N'):TxT h' N' u l:=⟨s.1.keep k,fun i hi=>by rw[k.get i (Yh1 s.1 i hi)];exact s.2 i hi⟩
def Ylf{N0:Nat}{v:V}{l:List Rat}(s:Own 1 30 N0 h N v ((tx l).map fun y=>[y])):TxT h N v l:=by
 refine⟨Sn.one.1 s.sn,fun i hi=>?_⟩
 obtain⟨_,⟨_,rfl⟩|⟨j,rfl,_,_,hg⟩⟩:=s
 ·simp[Zhk]at hi
 ·simp[Zhk]at hi;subst hi;exact⟨_,_,hg⟩
def Zun{N i:Nat}:∀{w:List Nat},i∈w→i<N→i∈Zac N w
 |[],h,_=>by simp at h
 |j::w,h,hi=>by
  simp only[Zac]
  rcases Yrd.1 h with rfl|h
  ·rw[Yqi hi]
   unfold Zfi
   split
   ·rename_i hc;simpa using hc
   ·exact Yq8
  ·have:=Zun h hi
   split
   ·unfold Zfi
    split
    ·exact this
    ·exact Yq6 _ this
   ·exact this
def Zum{n1:Nat}{w w':List Nat}(h:Zac n1 w'=Zac n1 w)(hN:N≤n1)(hw:Zac N w=[]):Zac N w'=[]:=by
 apply List.eq_nil_iff_forall_not_mem.2
 intro i hi
 obtain⟨h1,h2⟩:=Zkk hi
 have h3:=Zun h1 (show i<n1 by omega)
 rw[h]at h3
 have h4:=Zun (Zkk h3).1 h2
 rw[hw]at h4
 simp at h4
def Yge{w:List Nat}(h:Zac N w=[]):∀i∈w,N≤i:=fun i hi=>by
 apply Yr7
 intro hc
 have:=Zun hi hc
 rw[h]at this
 simp at this
end
end Go.Mx
