/-num-/
import Derived.Test.YtmhlaoiplmemiaaGreatDoorNcE
set_option linter.all false
namespace Go.Mx
open Go Go.Proofs
set_option maxHeartbeats 2000000
set_option maxRecDepth 1000000
noncomputable def A.b100:=A.q Tryz.f100
def A.k100:=@A.kk 100 16 [.tmp 2] A.b100 (by kernel_rfl) rfl
def Ykw{x:V}{q:Rat}{h:T O}{N:Nat}(hx:Fc h N x q)(hP:P10 h N)(l1:(Zc1 q.num.natAbs).length<1000000000)(l2:(Zc1 q.den).length<1000000000):Fn A.C 100 [x] h N (fun v _ _=>v=.str (Zas q)):=by
 intro w
 rw[Zaa,A.k100 (by simp)]
 have hx0:=hx
 obtain⟨n1,u1,n2,u2,rfl,s1,s2⟩:=hx
 have o1:=Za0 s1
 have o2:=Za0 s2
 unfold V.one at o1 o2
 have kB:=kset (Keeps.refl (h:=h) (n:=N)) (.cells [.int .i64 n1,u1,.int .i64 n2,u2] 95 true)
 simp[A.b100,Zaj,slc,splice,o1,o2]
 generalize hhB:h.set N (.cells [.int .i64 n1,u1,.int .i64 n2,u2] 95 true)=hB at*
 have b1:hB.get N=some (.cells [.int .i64 n1,u1,.int .i64 n2,u2] 95 true):=by rw[←hhB];simp
 refine Zab (Ydb (hx0.keep kB)) ?_
 rintro _ h1 m1 k1 rfl
 have kle1:=k1.le
 have f1:=(k1.get N (by omega)).trans b1
 have kk:=kB.trans k1
 by_cases c1:q.den=1
 ·simp[c1,f1,Zaj,slc]
  refine Zab (Zjp (s1.keep kk) (hP.keep kk) (by omega)) ?_
  rintro _ h2 m2 k2 rfl
  simp[Ret,Zas,c1]
  exact kk.trans k2
 ·have l0:N<m1:=by omega
  simp[c1,f1,l0,Zaj,slc]
  refine Zab (Zjp (s1.keep kk) (hP.keep kk) (by omega)) ?_
  rintro _ h2 m2 k2 rfl
  have kle2:=k2.le
  have kk2:=kk.trans k2
  have f2:=(k2.get N (by omega)).trans f1
  have l3:N<m2:=by omega
  have hmx:IntKind.max .i64=9223372036854775807:=rfl
  have hS1:(decI q.num).length<2000000000:=by
   have h1:(decN q.num.natAbs).length≤(Zc1 q.num.natAbs).length+1:=by unfold decN;split<;>simp
   unfold decI
   split<;>simp<;>omega
  have hS2:(decN q.den).length<2000000000:=by
   have h1:(decN q.den).length≤(Zc1 q.den).length+1:=by unfold decN;split<;>simp
   omega
  have htx:Zas q=decI q.num++47::decN q.den:=by unfold Zas;rw[Yur c1]
  have hdI:decI ((q.den:Nat):Int)=decN q.den:=by unfold decI;rw[Yur (by omega)];rfl
  rw[htx]
  generalize decI q.num=S1 at*
  have g1:¬(9223372036854775807:Int)<(S1.length:Int)+1:=by omega
  simp[f2,l3,Zbm,hmx,g1,Zaj,slc]
  refine Zab (Zjp (s2.keep kk2) (hP.keep kk2) (by rw[Yuw];omega)) ?_
  rintro _ h3 m3 k3 rfl
  rw[hdI]
  generalize decN q.den=S2 at*
  have g2:¬(9223372036854775807:Int)<(S1.length:Int)+1+(S2.length:Int):=by omega
  simp[Zbm,hmx,g2,Zam.chk,Ret]
  exact kk2.trans k3
set_option maxHeartbeats 4000000
def A.ta62_0:Zaw:=.seq (.regD [fa 17 0 2,lN 18 2 17,fa 19 2 3,lN 20 2 19,c2 21 149 18 20,fa 22 0 3,lN 23 2 22,fa 24 2 2,lN 25 2 24,c2 26 149 23 25,c2 27 147 21 26,fa 28 2 2,lN 29 2 28,fa 30 2 3,lN 31 2 30,c2 32 149 29 31,c2 33 148 27 32,gn (.store 4 (tq 4) (tq 33))] [0,1,0,4,15,0,32,0,128,511,1023,0,2048,0,8192,32767,65535,131071])
 (.ret)
def A.b62:Zaw:=sr [bx 2 95 0,bx 3 95 1,ge 4 (.alloc [.int .i64 0,.nilslice,.int .i64 0,.nilslice] 95)]
 (.seq (sr [lN 5 4 2,c1 6 146 5,mv 7 6,gy 8 7 (.load (some 4) (tq 3)),gy 9 7 (.call (fq 146) [tq 8]),pf 10 7 9]
 (cd 10
 (sr [fa 11 0 2,lN 12 2 11,fa 13 0 3,lN 14 2 13,c2 15 147 12 14,c1 16 143 15,gn (.store 4 (tq 4) (tq 16))]
 (.ret))
 (.skip)))
 A.ta62_0)
def A.k62:=@A.kk 62 34 [.cell 4 (some 4)] A.b62 (by kernel_rfl) rfl
def Zmj{q:Rat}(h:q.den=1):q=(q.num:Rat):=by
 apply Rat.ext
 ·simp
 ·simp[h]
def Ys0{H:T O}{N n:Nat}{W:List Nat}{r:T V}{p q:Rat}{n1 n2 n3 n4:Int}{u1 u2 u3 u4:V}(hn:N+3≤n)(hW:oldIds N W=[])(b1:H.get N=some (.cells [.int .i64 n1,u1,.int .i64 n2,u2] 95 true))(b2:H.get (N+1)=some (.cells [.int .i64 n3,u3,.int .i64 n4,u4] 95 true))(b3:H.get (N+2)=some (.cells [.int .i64 0,.nilslice,.int .i64 0,.nilslice] 95 true))
  (s1:In H n (.agg [.int .i64 n1,u1]) p.num) (s2:In H n (.agg [.int .i64 n2,u2]) (p.den:Nat)) (s3:In H n (.agg [.int .i64 n3,u3]) q.num) (s4:In H n (.agg [.int .i64 n4,u4]) (q.den:Nat)) (l1:wl p.num<1000000000) (l2:wl (p.den:Nat)<1000000000) (l3:wl q.num<1000000000) (l4:wl (q.den:Nat)<1000000000) (a2:r.get 2=some (.ptr N 0)) (a3:r.get 3=some (.ptr (N+1) 0)) (a4:r.get 4=some (.ptr (N+2) 0)):
  Code A.C none A.ta62_0 ⟨r,34,[]⟩ ⟨H,n,W⟩ (fun e fr st=>e=.ret∧∃r',fr=⟨r',34,[]⟩∧r'.get 4=some (.ptr (N+2) 0)∧MkE H N (p+q) st):=by
 rw[Zah]
 have o1:=Za0 s1
 have o2:=Za0 s2
 have o3:=Za0 s3
 have o4:=Za0 s4
 unfold V.one at o1 o2 o3 o4
 have z1:N<n:=by omega
 have z2:N+1<n:=by omega
 simp[A.ta62_0,a2,a3,a4,b1,b2,b3,z1,z2,Zaj,slc,splice]
 refine Zab (Zjz s1 s4 (by omega) (by omega)) ?_
 rintro v5 h1 m1 k1 q1
 have kle1:=k1.le
 have f1:=(k1.get N (by omega)).trans b1
 have f2:=(k1.get (N+1) (by omega)).trans b2
 have f3:=(k1.get (N+2) (by omega)).trans b3
 have e1:N<m1:=by omega
 have e2:N+1<m1:=by omega
 simp[a2,a3,a4,f1,f2,e1,e2,Zaj,slc,splice]
 refine Zab (Zjz (s3.keep k1) (s2.keep k1) (by omega) (by omega)) ?_
 rintro v6 h2 m2 k2 q2
 have kle2:=k2.le
 have w1:=Zmi p.num ((q.den:Nat):Int)
 have w2:=Zmi q.num ((p.den:Nat):Int)
 have w3:=Zmi ((p.den:Nat):Int) ((q.den:Nat):Int)
 have w4:=Yah (p.num*((q.den:Nat):Int)) (q.num*((p.den:Nat):Int))
 simp[]
 refine Zab (Zs8 (q1.keep k2) q2 (by omega) (by omega)) ?_
 rintro v7 h3 m3 k3 q3
 have kle3:=k3.le
 have k13:=(k1.trans k2).trans k3
 have f4:=(k13.get N (by omega)).trans b1
 have f5:=(k13.get (N+1) (by omega)).trans b2
 have e3:N<m3:=by omega
 have e4:N+1<m3:=by omega
 simp[a2,a3,a4,f4,f5,e3,e4,Zaj,slc,splice]
 refine Zab (Zjz (s2.keep k13) (s4.keep k13) (by omega) (by omega)) ?_
 rintro v8 h4 m4 k4 q4
 have kle4:=k4.le
 have k14:=k13.trans k4
 have hd:((p.den:Nat):Int)*((q.den:Nat):Int)≠0:=by
  have:=p.den_nz
  have:=q.den_nz
  exact Yx2 (by omega) (by omega)
 simp[]
 refine Zab (Zuv (q3.keep k4) q4 hd (by omega) (by omega)) ?_
 rintro v9 h5 m5 k5 hv
 have hp0:((p.den:Nat):Int)≠0:=by have:=p.den_nz;omega
 have hq0:((q.den:Nat):Int)≠0:=by have:=q.den_nz;omega
 rw[←Rat.divInt_add_divInt _ _ hp0 hq0,Ywr,Ywr]at hv
 obtain⟨n5,u5,n6,u6,rfl,t1,t2⟩:=hv
 have o5:=Za0 t1
 have o6:=Za0 t2
 unfold V.one at o5 o6
 have kle5:=k5.le
 have k15:=k14.trans k5
 have f6:=(k15.get (N+2) (by omega)).trans b3
 have e5:N+2<m5:=by omega
 simp[a4,f6,e5,Zaj,slc,splice,Zak,o5,o6,Zam.chk]
 have n2':¬N+2<N:=by omega
 refine⟨by simp[oldIds,hW,n2'],fun i hi=>?_,by show N+3≤m5;omega,n5,u5,n6,u6,by show T.get (T.set _ _ _) _=_;rw[T.get_set,Yuu rfl],n5,u5,n6,u6,rfl,t1.setNU (i:=N+2) f6 nu0 rfl,t2.setNU (i:=N+2) f6 nu0 rfl⟩
 show T.get (T.set _ _ _) _=_
 rw[T.get_set,Yur (by omega),k15.get i (by omega)]
def Zqo{x y:V}{p q:Rat}{h:T O}{N:Nat}(hx:Fc h N x p)(hy:Fc h N y q)(l1:wl p.num<1000000000)(l2:wl (p.den:Nat)<1000000000)(l3:wl q.num<1000000000)(l4:wl (q.den:Nat)<1000000000):Fn A.C 62 [x,y] h N (fun v h' n'=>Fc h' n' v (p+q)):=by
 intro w
 rw[Zaa,A.k62 (by simp)]
 have hx0:=hx
 have hy0:=hy
 obtain⟨n1,u1,n2,u2,rfl,s1,s2⟩:=hx
 obtain⟨n3,u3,n4,u4,rfl,s3,s4⟩:=hy
 have o1:=Za0 s1
 have o2:=Za0 s2
 have o3:=Za0 s3
 have o4:=Za0 s4
 unfold V.one at o1 o2 o3 o4
 have kB:Keeps h N (((h.set N (.cells [.int .i64 n1,u1,.int .i64 n2,u2] 95 true)).set (N+1) (.cells [.int .i64 n3,u3,.int .i64 n4,u4] 95 true)).set (N+2) (.cells [.int .i64 0,.nilslice,.int .i64 0,.nilslice] 95 true)) (N+3):=kset (kset (kset Keeps.refl _) _) _
 simp[A.b62,Zaj,slc,splice,o1,o2,o3,o4]
 generalize hhB:((h.set N (.cells [.int .i64 n1,u1,.int .i64 n2,u2] 95 true)).set (N+1) (.cells [.int .i64 n3,u3,.int .i64 n4,u4] 95 true)).set (N+2) (.cells [.int .i64 0,.nilslice,.int .i64 0,.nilslice] 95 true)=hB at*
 have b1:hB.get N=some (.cells [.int .i64 n1,u1,.int .i64 n2,u2] 95 true):=by rw[←hhB];simp
 have b2:hB.get (N+1)=some (.cells [.int .i64 n3,u3,.int .i64 n4,u4] 95 true):=by rw[←hhB];simp
 have b3:hB.get (N+2)=some (.cells [.int .i64 0,.nilslice,.int .i64 0,.nilslice] 95 true):=by rw[←hhB];simp
 refine Zab (Ydb (hx0.keep kB)) ?_
 rintro _ h0 m0 k0 rfl
 have kle0:=k0.le
 have k0':=kB.trans k0
 have d1:=(k0.get N (by omega)).trans b1
 have d2:=(k0.get (N+1) (by omega)).trans b2
 have d3:=(k0.get (N+2) (by omega)).trans b3
 by_cases cp:p.den=1
 ·simp[cp,d1,d2,Zaj,slc]
  refine Zab (Ydb (hy0.keep k0')) ?_
  rintro _ h1 m1 k1 rfl
  have kle1:=k1.le
  have g1:=(k1.get N (by omega)).trans d1
  have g2:=(k1.get (N+1) (by omega)).trans d2
  have g3:=(k1.get (N+2) (by omega)).trans d3
  have k1':=k0'.trans k1
  by_cases cq:q.den=1
  ·simp[cq,g1,g2,Zaj,slc]
   refine Zab (Zs8 (s1.keep k1') (s3.keep k1') (by omega) (by omega)) ?_
   rintro v5 h2 m2 k2 q1
   have kle2:=k2.le
   simp[]
   refine Zab (Zpy q1) ?_
   rintro _ h3 m3 k3 ⟨n5,u5,n6,u6,rfl,t1,t2⟩
   have o5:=Za0 t1
   have o6:=Za0 t2
   unfold V.one at o5 o6
   have kle3:=k3.le
   have f5:=(k3.get (N+2) (by omega)).trans ((k2.get (N+2) (by omega)).trans g3)
   simp[f5,Zaj,slc,splice,Zak,o5,o6,Zam.chk,Ret]
   have kk:=(k1'.trans k2).trans k3
   have hpq:p+q=((p.num+q.num:Int):Rat):=by rw[Zmj cp,Zmj cq];simp
   rw[hpq]
   exact⟨kk.set (by omega),n5,u5,n6,u6,rfl,t1.setNU (i:=N+2) f5 nu0 rfl,t2.setNU (i:=N+2) f5 nu0 rfl⟩
  ·simp[cq,g1,g2,Zaj,slc]
   refine Zbn (Ys0 (N:=N) (p:=p) (q:=q) (by omega) (by simp[oldIds]) g1 g2 g3 (s1.keep k1') (s2.keep k1') (s3.keep k1') (s4.keep k1') l1 l2 l3 l4 (by simp) (by simp) (by simp)) ?_
   rintro e fr ⟨H6,n6,W6⟩ ⟨rfl,r6,rfl,c4,q1,q2,q3,m5,v5,m6,v6,q4,q5⟩
   simp only at q1 q2 q3 q4 q5
   simp[c4,q4,Zaj,slc,Ret,q1]
   exact⟨⟨by omega,fun i hi=>(q2 i hi).trans (k1'.get i hi)⟩,q5⟩
 ·simp[cp,d1,d2,Zaj,slc]
  refine Zbn (Ys0 (N:=N) (p:=p) (q:=q) (by omega) (by simp[oldIds]) d1 d2 d3 (s1.keep k0') (s2.keep k0') (s3.keep k0') (s4.keep k0') l1 l2 l3 l4 (by simp) (by simp) (by simp)) ?_
  rintro e fr ⟨H6,n6,W6⟩ ⟨rfl,r6,rfl,c4,q1,q2,q3,m5,v5,m6,v6,q4,q5⟩
  simp only at q1 q2 q3 q4 q5
  simp[c4,q4,Zaj,slc,Ret,q1]
  exact⟨⟨by omega,fun i hi=>(q2 i hi).trans (k0'.get i hi)⟩,q5⟩
set_option maxHeartbeats 2000000
noncomputable def A.b93:=A.q Tryz.f93
def A.k93:=@A.kk 93 22 [.cell 2 (some 4)] A.b93 (by kernel_rfl) rfl
def Zmz{z:Int}{h:T O}{N:Nat}(hl:(decI z).length≤100000):Fn A.C 174 [.str (decI z)] h N (fun v h' n'=>In h' n' v z):=by
 have hb:(decN z.natAbs).length≤100000:=by
  unfold decI at hl
  split at hl<;>(try simp at hl)<;>omega
 have:=Ybr (s:=decI z) (h:=h) (N:=N) (by rw[Ze3];exact Zb7 _) (by rw[Ze3];exact hb)
 rw[Zfw,Ze3,Zcl]at this
 have e:(if decide (z<0)=true then -(z.natAbs:Int) else (z.natAbs:Int))=z:=by
  by_cases hz:z<0<;>simp[hz]<;>omega
 rw[e]at this
 exact this
def Ydm{q:Rat}{h:T O}{N:Nat}(l1:(decI q.num).length≤100000)(l2:(decN q.den).length≤100000):Fn A.C 93 [.str (Zas q)] h N (fun v h' n'=>Fc h' n' v q):=by
 intro w
 have hc:=fun st=>Yj9 (s:=Zas q) (st:=st) (by unfold Zas;split<;>(try simp)<;>omega)
 rw[Zjj]at hc
 have kB:=kset (Keeps.refl (h:=h) (n:=N)) (.cells [.int .i64 0,.nilslice,.int .i64 0,.nilslice] 95 true)
 rw[Zaa,A.k93 (by simp)]
 by_cases c1:q.den=1
 ·have hlt:¬slashAt (Zas q)<(Zas q).length:=fun hx=>(Zjk q).1 hx c1
  simp[A.b93,hc,hlt]
  refine Zab (Zmz l1) ?_
  rintro v1 h1 m1 k1 q1
  simp[]
  refine Zab (Zpy q1) ?_
  rintro _ h3 m3 k3 ⟨n5,u5,n6,u6,rfl,t1,t2⟩
  have o5:=Za0 t1
  have o6:=Za0 t2
  unfold V.one at o5 o6
  have kle1:=k1.le
  have kle3:=k3.le
  have kk:=(kB.trans k1).trans k3
  have f5:=((k1.trans k3).get N (by omega))
  rw[T.get_set,Yuu rfl]at f5
  simp[f5,Zaj,slc,splice,Zak,o5,o6,Zam.chk,Ret]
  rw[Zmj c1]
  exact⟨kk.set (by omega),n5,u5,n6,u6,rfl,t1.setNU f5 nu0 rfl,t2.setNU f5 nu0 rfl⟩
 ·have hlt:slashAt (Zas q)<(Zas q).length:=(Zjk q).2 c1
  have hd:=Zjl q c1
  have hdI:decN q.den=decI ((q.den:Nat):Int):=by unfold decI;rw[Yur (by omega)];rfl
  rw[hdI]at l2 hd
  simp[A.b93,hc,hlt,hd]
  refine Zab (Zmz l1) ?_
  rintro v1 h1 m1 k1 q1
  simp[]
  refine Zab (Zmz l2) ?_
  rintro v2 h2 m2 k2 q2
  obtain⟨n5,u5,rfl,hu5⟩:=q1.cells
  obtain⟨n6,u6,rfl,hu6⟩:=q2.cells
  have o5:=hu5
  have o6:=hu6
  unfold V.one at o5 o6
  have kle1:=k1.le
  have kle2:=k2.le
  have kk:=(kB.trans k1).trans k2
  have f5:=((k1.trans k2).get N (by omega))
  rw[T.get_set,Yuu rfl]at f5
  simp[f5,Zaj,slc,splice,Zak,o5,o6,Zam.chk,Ret]
  exact⟨kk.set (by omega),n5,u5,n6,u6,rfl,(q1.keep k2).setNU f5 nu0 rfl,q2.setNU f5 nu0 rfl⟩
variable {N k:Nat} {h:T O} {x:V} {z:Int}
noncomputable def A.b99:=A.q Tryz.f99
def A.k99:=@A.kk 99 11 [.tmp 2] A.b99 (by kernel_rfl) rfl
noncomputable def A.b175:=A.q Tryz.f175
def A.k175:=@A.kk 175 13 [.tmp 2] A.b175 (by kernel_rfl) rfl
noncomputable def A.b213:=A.q Tryz.f213
def A.k213:=@A.kk 213 25 [.tmp 2] A.b213 (by kernel_rfl) rfl
def Fc.parts{q:Rat}(s:Fc h N x q):∃n1 u1 n2 u2,x=.agg [.int .i64 n1,u1,.int .i64 n2,u2]∧In h N (.agg [.int .i64 n1,u1]) q.num∧In h N (.agg [.int .i64 n2,u2]) (q.den:Int)∧V.one u1=true∧V.one u2=true:=by
 obtain⟨n1,u1,n2,u2,rfl,s1,s2⟩:=s
 exact⟨n1,u1,n2,u2,rfl,s1,s2,Za0 s1,Za0 s2⟩
def Yit{n d:Nat}(hk:(wds n).length=k+1)(hd:(wds n)[k]?=some d):n<2^(64*k+blen d):=by
 have h1:=Zbq n
 have h2:=Zbz (b:=B) hd
 rw[Yuy (by omega),h1]at h2
 have h3:val B ((wds n).take k)<B^k:=by
  have:=Zld (b:=B) (l:=(wds n).take k) (fun x hx=>Zdj n x (Ywq hx))
  rw[Yvh,Yv3 (by omega)]at this;exact this
 have h4:d+1≤2^blen d:=Zqx d
 have h5:B^k*(d+1)≤B^k*2^blen d:=Yvc _ h4
 have h6:B^k=2^(64*k):=by rw[Nat.pow_mul];rfl
 rw[Yv2,←h6]
 rw[Yw1]at h5
 omega
def Zuu{n b:Nat}(h:600<(decN n).length)(hb:n<2^b):1800<b:=by
 apply Classical.byContradiction
 intro hc
 obtain⟨M,hM⟩:∃M:Nat,M=600:=⟨_,rfl⟩
 have h1:n<2^(3*M):=Yu0 hb (Zm6 (by omega))
 have h2:(2:Nat)^(3*M)≤10^M:=by
  rw[Nat.pow_mul]
  exact Yxs (by decide) _
 have h3:=(Zb2 (n:=n) (k:=M) (by omega)).2 (Yu0 h1 h2)
 omega
def Yny(hx:In h N x z)(hl:wl z<10000000000):Fn A.C 213 [x] h N (fun v _ _=>∃b:Nat,v=.int .i64 b∧z.natAbs<2^b):=by
 intro w
 obtain⟨n,u,rfl,hu⟩:=hx.cells
 have hu':=hu
 unfold V.one at hu'
 have k0:=(Keeps.refl (h:=h) (n:=N)).new (.cells [.int .i64 n,u] 93 true)
 rw[Zaa,A.k213 (by simp)]
 simp[A.b213,Zaj,slc,splice,hu']
 refine Zab (Zet (hx.keep k0)) ?_
 rintro _ h1 m1 k1 ⟨u2,rfl,hw⟩
 have hlen:=Sl.len hw
 rw[Zac]at hlen
 by_cases h0:(wds z.natAbs).length=0
 ·rw[h0]at hlen
  have hz:z.natAbs=0:=by
   have:=Zbq z.natAbs
   rw[Yu6 h0]at this
   simpa[val]using this.symm
  simp[hlen,Zae,Ret]
  exact⟨k0.trans k1,0,rfl,by omega⟩
 ·obtain⟨k,hk⟩:∃k,(wds z.natAbs).length=k+1:=⟨(wds z.natAbs).length-1,by omega⟩
  rw[hk]at hlen
  obtain⟨d,hd⟩:=Zaf (l:=wds z.natAbs) (k:=k) (by omega)
  obtain⟨i,o,c,e,rw,q1,q2,q3,q4⟩:=Sl.at hw (Za7 hd)
  have hdB:d<18446744073709551616:=(Zdj _).get hd
  have hkl:k+1<10000000000:=by
   have:=hl
   unfold wl at this
   omega
  have hbl:blen d≤64:=by
   apply Classical.byContradiction
   intro hc
   have h1:d≠0:=fun h=>by rw[h]at hc;simp[blen]at hc
   have h2:=Zla h1
   have h3:=Zm6 (j:=64) (k:=blen d-1) (by omega)
   have h4:(2:Nat)^64=18446744073709551616:=by decide
   omega
  have c1:¬((k:Int)+1=0):=by omega
  have c2:Zao .i64 ((k:Int)+1-1)=(k:Int):=by rw[Zai (by omega) (by omega)];omega
  have c3:Zao .i64 (64*(k:Int))=64*(k:Int):=Zai (by omega) (by omega)
  have c4:Zao .i64 (64*(k:Int)+(blen d:Nat))=64*(k:Int)+(blen d:Nat):=Zai (by omega) (by omega)
  have c5:(k:Int)<(k:Int)+1:=by omega
  simp(disch:=omega) [hlen,Zae,c1,c2,c3,c5,q1,q3,q4]
  refine Zab (Zqj hdB) ?_
  rintro _ h2 m2 k2 ⟨rfl,rfl,rfl⟩
  simp[c4,Ret]
  exact⟨k0.trans k1,64*k+blen d,by simp,Yit hk hd⟩
def Yc0(hx:In h N x z)(hP:P10 h N)(hl:wl z<10000000000)(hd:(Zc1 z.natAbs).length<1000000000):Fn A.C 175 [x] h N (fun v _ _=>v=.bool (decide (600<(decN z.natAbs).length))):=by
 intro w
 obtain⟨n,u,rfl,hu⟩:=hx.cells
 have hu':=hu
 unfold V.one at hu'
 have k0:=(Keeps.refl (h:=h) (n:=N)).new (.cells [.int .i64 n,u] 93 true)
 have g0:(h.set N (.cells [.int .i64 n,u] 93 true)).get N=some (.cells [.int .i64 n,u] 93 true):=by rw[T.get_set,Yuu rfl]
 rw[Zaa,A.k175 (by simp)]
 simp[A.b175,Zaj,slc,splice,hu']
 refine Zab (Yny (hx.keep k0) hl) ?_
 rintro _ h1 m1 k1 ⟨b,rfl,hb⟩
 have g1:=(k1.get N (by omega)).trans g0
 by_cases hbb:1800<b
 ·have hbb':(1800:Int)<(b:Int):=by omega
  simp[hbb,hbb',g1,Zaj,slc]
  refine Zab (Zjp ((hx.keep k0).keep k1) ((hP.keep k0).keep k1) (by omega)) ?_
  rintro _ h2 m2 k2 rfl
  have ht:=fun st=>Zjm (s:=decI z) (st:=st)
  rw[Ze3]at ht
  simp[ht,Ret]
  exact⟨(k0.trans k1).trans k2,by omega⟩
 ·have hbb':¬(1800:Int)<(b:Int):=by omega
  have hno:¬600<(decN z.natAbs).length:=fun hc=>hbb (Zuu hc hb)
  simp[hbb,hbb',hno,Ret]
  exact k0.trans k1
def Zlr(h:z.natAbs<2^k):wl z≤k:=by
 have:=Zfd (Yu0 h (Yxs (by decide) k))
 unfold wl at this ⊢
 rwa [Yuw]at this
def Ydq{q:Rat}(hx:Fc h N x q)(hP:P10 h N)(hq:Qb k q)(hk:k≤400000000):Fn A.C 99 [x] h N (fun v _ _=>v=.bool (Zxf q)):=by
 intro w
 obtain⟨n1,u1,n2,u2,rfl,s1,s2,o1,o2⟩:=hx.parts
 unfold V.one at o1 o2
 have k0:=(Keeps.refl (h:=h) (n:=N)).new (.cells [.int .i64 n1,u1,.int .i64 n2,u2] 95 true)
 have g0:(h.set N (.cells [.int .i64 n1,u1,.int .i64 n2,u2] 95 true)).get N=some (.cells [.int .i64 n1,u1,.int .i64 n2,u2] 95 true):=by rw[T.get_set,Yuu rfl]
 have l1:=Zn2 hq.1
 have l2:=Zn2 hq.2
 have z1:=Zlr hq.1
 have z2:=Zlr (z:=(q.den:Int)) (k:=k) (by rw[Yuw];exact hq.2)
 rw[Zaa,A.k99 (by simp)]
 simp[A.b99,Zaj,slc,splice,o1,o2]
 refine Zab (Yc0 (s1.keep k0) (hP.keep k0) (by omega) (by omega)) ?_
 rintro _ h1 m1 k1 rfl
 have g1:=(k1.get N (by omega)).trans g0
 unfold Zxf
 by_cases c1:600<(decN q.num.natAbs).length
 ·simp[c1,Ret]
  exact k0.trans k1
 ·simp[c1,g1,Zaj,slc]
  refine Zab (Yc0 ((s2.keep k0).keep k1) ((hP.keep k0).keep k1) (by omega) (by rw[Yuw];omega)) ?_
  rintro _ h2 m2 k2 rfl
  simp[Ret]
  exact(k0.trans k1).trans k2
variable {N:Nat} {h:T O} {l:List Rat} {v:V}
set_option maxHeartbeats 1000000
noncomputable def A.w52:=A.q Tryz.f52
noncomputable def A.lb52_0:=A.ql A.w52 0 []
noncomputable def A.b52:=(fun x0=>A.qb A.w52 [x0]) A.lb52_0
def A.k52:=@A.kk 52 23 [.tmp 2] A.b52 (by kernel_rfl) rfl
noncomputable def A.w128:=A.q Tryz.f128
noncomputable def A.lb128_0:=A.ql A.w128 0 []
noncomputable def A.b128:=(fun x0=>A.qb A.w128 [x0]) A.lb128_0
def A.k128:=@A.kk 128 23 [.tmp 2] A.b128 (by kernel_rfl) rfl
def FcC(h:T O)(N:Nat)(c:List V)(q:Rat):Prop:=∃n1 u1 n2 u2,c=[.int .i64 n1,u1,.int .i64 n2,u2]∧In h N (.agg [.int .i64 n1,u1]) q.num∧In h N (.agg [.int .i64 n2,u2]) (q.den:Int)
def FcC.keep{h':T O}{N':Nat}{c:List V}{q:Rat}(s:FcC h N c q)(k:Keeps h N h' N'):FcC h' N' c q:=by
 obtain⟨n1,u1,n2,u2,rfl,s1,s2⟩:=s
 exact⟨n1,u1,n2,u2,rfl,s1.keep k,s2.keep k⟩
def FcC.fc{c:List V}{q:Rat}(s:FcC h N c q):Fc h N (.agg c) q:=by
 obtain⟨n1,u1,n2,u2,rfl,s1,s2⟩:=s
 exact⟨n1,u1,n2,u2,rfl,s1,s2⟩
def Fc.c{x:V}{q:Rat}(s:Fc h N x q):∃c,x=.agg c∧FcC h N c q:=by
 obtain⟨n1,u1,n2,u2,rfl,s1,s2⟩:=s
 exact⟨_,rfl,n1,u1,n2,u2,rfl,s1,s2⟩
def NoU(c:List V):Prop:=∀x∈c,∀m,x≠.int .u64 m
def Zws{n:Int}{u:V}{z:Int}(s:In h N (.agg [.int .i64 n,u]) z):∀m,u≠.int .u64 m:=by
 rcases s with⟨h1,_⟩|⟨i,o,l,c,h1,_⟩
 ·simp at h1;rw[h1.2];simp
 ·simp at h1;rw[h1.2];simp
def FcC.noU{c:List V}{q:Rat}(s:FcC h N c q):NoU c:=by
 obtain⟨n1,u1,n2,u2,rfl,s1,s2⟩:=s
 intro x hx m
 simp at hx
 rcases hx with rfl|rfl|rfl|rfl
 ·simp
 ·exact Zws s1 m
 ·simp
 ·exact Zws s2 m
def FcC.len{c:List V}{q:Rat}(s:FcC h N c q):c.length=4∧c.all V.one=true:=by
 obtain⟨n1,u1,n2,u2,rfl,s1,s2⟩:=s
 have o1:=Za0 s1
 have o2:=Za0 s2
 exact⟨rfl,by simp only[List.all_cons,List.all_nil,o1,o2,Bool.and_true];rfl⟩
def FcC.setNU{i:Nat}{c c0 c1:List V}{q:Rat}{e0 e1:TypeId}{w0 w1:Bool}(s:FcC h N c q)(g:h.get i=some (.cells c0 e0 w0))(hn:NoU c0)(hc:c1.length=c0.length):FcC (h.set i (.cells c1 e1 w1)) N c q:=by
 obtain⟨n1,u1,n2,u2,rfl,s1,s2⟩:=s
 exact⟨n1,u1,n2,u2,rfl,s1.setNU g hn hc,s2.setNU g hn hc⟩
def FrS(h:T O)(N:Nat)(v:V)(l:List Rat):Prop:=∃cs:List (List V),Sn 4 h N v cs∧cs.length=l.length∧∀(j:Nat) (q:Rat),l[j]?=some q→∃c,cs[j]?=some c∧FcC h N c q
def FrS.keep{h':T O}{N':Nat}(s:FrS h N v l)(k:Keeps h N h' N'):FrS h' N' v l:=by
 obtain⟨cs,h1,h2,h3⟩:=s
 refine⟨cs,h1.keep k,h2,fun j q hq=>?_⟩
 obtain⟨c,g1,g2⟩:=h3 j q hq
 exact⟨c,g1,g2.keep k⟩
def FrS.len(s:FrS h N v l):Zom v=some l.length:=by
 obtain⟨cs,h1,h2,_⟩:=s
 rw[h1.len,h2]
def FrS.at(s:FrS h N v l){j:Nat}{q:Rat}(hj:l[j]?=some q):∃i o x e rw c,Zlb v=some (i,o)∧i<N∧h.get i=some (.cells x e rw)∧slc x (o+j*4) 4=some c∧FcC h N c q:=by
 obtain⟨cs,h1,h2,h3⟩:=s
 obtain⟨c,h4,h5⟩:=h3 j q hj
 obtain⟨i,o,x,e,rw,q1,q2,q3,q4⟩:=h1.at h4
 exact⟨i,o,x,e,rw,c,q1,q2,q3,q4,h5⟩
def FrT(h:T O)(N:Nat)(v:V)(l:List Rat):Prop:=FrS h N v l∧∀i∈Zci v,∃z w,h.get i=some (.cells z 95 w)
def tx(l:List Rat):List V:=strs (l.map Zas)
def Zfe(l:List Rat):(tx l).length=l.length:=by simp[tx,strs]
def Yap{j:Nat}{q:Rat}(h:l[j]?=some q):(tx l)[j]?=some (.str (Zas q)):=by simp[tx,strs,h]
def zF:List V:=[.int .i64 0,.nilslice,.int .i64 0,.nilslice]
def Zfc{z:List V}{n:Nat}:Zc2 z (n+1)=z++Zc2 z n:=by
 unfold Zc2
 rw[Nat.succ_mul,Nat.add_comm (n*z.length),List.range_add,List.map_append,List.map_map]
 congr 1
 ·apply Yv0
  intro j
  by_cases hj:j<z.length
  ·rw[Yvd,Yxr hj]
   simp[Ywp hj,hj]
  ·rw[Yva (by simp;omega),Yva (by omega)]
 ·apply Yww
  intro i _
  simp[Nat.add_mod_left]
def Zhy{a b c x:List V}{n o:Nat}(ha:a.length=o)(hb:b.length=n)(hx:x.length=n):splice (a++(b++c)) o x=a++(x++c):=by
 unfold splice
 rw[←ha,List.take_left,hx,←List.drop_drop,List.drop_left,←hb,List.drop_left,Yvz]
structure FaI (h:T O) (N:Nat) (l:List Rat) (m:Nat) (r:T V) (st:St):Prop where
 w:oldIds N st.w=[]
 keep:Keeps h N st.h st.n
 ex:∃(k:Nat) (cs:List (List V)),k+m=l.length∧r.get 11=some (.int .i64 k)∧r.get 3=some (.slice N 0 l.length (some l.length) 4)∧N<st.n∧st.h.get N=some (.cells (cs.flatten++Zc2 zF m) 95 true)∧cs.length=k∧∀(j:Nat) (q:Rat),j<k→l[j]?=some q→∃c,cs[j]?=some c∧FcC st.h st.n c q
def Znu{cs:List (List V)}(hl:cs.length≤l.length)(hc:∀(j:Nat) (q:Rat),j<cs.length→l[j]?=some q→∃c,cs[j]?=some c∧FcC h N c q):(∀c∈cs,c.length=4)∧NoU cs.flatten∧cs.flatten.all V.one=true:=by
 have key:∀c∈cs,∃q,FcC h N c q:=fun c hcm=>by
  obtain⟨j,hj⟩:=Ywg hcm
  have hlt:=Zaz hj
  obtain⟨q,hq⟩:=Zaf (l:=l) (k:=j) (by omega)
  obtain⟨c',h1,h2⟩:=hc j q hlt hq
  rw[hj]at h1
  simp only[Yup]at h1
  subst h1
  exact⟨q,h2⟩
 refine⟨fun c hcm=>?_,fun x hx m=>?_,?_⟩
 ·obtain⟨q,hq⟩:=key c hcm;exact hq.len.1
 ·obtain⟨c,hcm,hxc⟩:=List.mem_flatten.1 hx
  obtain⟨q,hq⟩:=key c hcm
  exact hq.noU x hxc m
 ·rw[Yvk]
  intro x hx
  obtain⟨c,hcm,hxc⟩:=List.mem_flatten.1 hx
  obtain⟨q,hq⟩:=key c hcm
  exact Yvk.1 hq.len.2 x hxc
def Zl0:∀{n:Nat},NoU (Zc2 zF n)
 |0=>by intro x hx;simp[Zc2]at hx
 |n+1=>by
  intro x hx m
  rw[Zfc]at hx
  rcases Yv1.1 hx with hx|hx
  ·simp[zF]at hx
   rcases hx with rfl|rfl|rfl|rfl<;>simp
  ·exact Zl0 x hx m
def NoU.app{a b:List V}(ha:NoU a)(hb:NoU b):NoU (a++b):=fun x hx m=>by
 rcases Yv1.1 hx with hx|hx
 ·exact ha x hx m
 ·exact hb x hx m
def Yae(n:Nat):(Zc2 zF n).length=n*4:=by
 induction n with
 |zero=>simp[Zc2]
 |succ n ih=>rw[Zfc,Yu8,ih];simp[zF];omega
def Zpm{k0:Nat}(hs:Sl h N v (tx l))(hl:l.length<1000000000)(hq:∀q∈l,Qb k0 q)(hk0:k0≤4000):Fn A.C 52 [v] h N (fun u h' n'=>FrT h' n' u l):=by
 intro w
 have hlen:=hs.len
 rw[Zfe]at hlen
 have c1:(64:Int)*(l.length:Int)≤140737488355328:=by omega
 have c2:(l.length:Int)<4611686018427387904:=by omega
 have kB:Keeps h N (h.set N (.cells (Zc2 zF l.length) 95 true)) (N+1):=Keeps.refl.new _
 rw[Zaa,A.k52 (by simp)]
 simp[A.b52,hlen,c1,c2]
 refine Zag [(4,5),(11,21)] (fun e r st=>e=.exit 0∧FaI h N l 0 r st) (FaI h N l) l.length ?_ ?_ ?_
 ·exact⟨by simp,kB,0,[],by omega,by simp,by simp,by show N<N+1;omega,by rw[T.get_set,Yuu rfl];rfl,rfl,fun j q hj=>by omega⟩
 ·rintro m r ⟨H,n1,W⟩ hr hf ⟨hW,hK,k,cs,hk,h11,h3,hN1,hM,hcl,hcs⟩
  simp only at hW hK hM hN1 hcs
  rw[Zah]
  cases m with
  |zero=>
   obtain rfl:k=l.length:=by omega
   simp[A.lb52_0,hr,hf,h11]
   exact⟨hW,hK,l.length,cs,by omega,by simp[h11],by simp[h3],hN1,hM,hcl,hcs⟩
  |succ m=>
   have hlt:k<l.length:=by omega
   have hlt':(k:Int)<(l.length:Int):=by omega
   obtain⟨q,hqk⟩:=Zaf hlt
   have hqb:=hq q (Yux hqk)
   obtain⟨i,o,cc,e,rw,q1,q2,q3,q4⟩:=(hs.keep hK).at (Yap hqk)
   have la:=Zn1 hqb.1
   have la2:=Zk8 hqb.2
   simp[A.lb52_0,hr,hf,h11,h3,hlt,hlt',hlen,q1,q3,q4]
   refine Zab (Ydm (q:=q) (by omega) (by omega)) ?_
   rintro _ H2 n2 k2 hf2
   obtain⟨c,rfl,hc⟩:=hf2.c
   have le2:=k2.le
   have nle:=hK.le
   have hM2:=(k2.get N hN1).trans hM
   have hcs2:∀(j:Nat) (q:Rat),j<cs.length→l[j]?=some q→∃c,cs[j]?=some c∧FcC H2 n2 c q:=fun j q hj hq=>by
    obtain⟨c,g1,g2⟩:=hcs j q (by omega) hq
    exact⟨c,g1,g2.keep k2⟩
   obtain⟨f1,f2,f3⟩:=Znu (l:=l) (by omega) hcs2
   have hfl:=Za8 f1
   obtain⟨e1,e2⟩:=hc.len
   have hsp:splice (cs.flatten++Zc2 zF (m+1)) (k*4) c=(cs++[c]).flatten++Zc2 zF m:=by
    rw[Zfc,Zhy (n:=4) (by rw[hfl,hcl]) rfl e1,Zh7,Yvz]
   have hb:k*4+4≤(cs.flatten++Zc2 zF (m+1)).length:=by
    rw[Yu8,hfl,Yae];omega
   have hcc:(V.agg c).cells=c:=rfl
   have hnu:NoU (cs.flatten++Zc2 zF (m+1)):=f2.app Zl0
   have hlen4:((cs++[c]).flatten++Zc2 zF m).length=(cs.flatten++Zc2 zF (m+1)).length:=by
    rw[Zfc,Zh7];simp[e1,zF];omega
   generalize cs.flatten++Zc2 zF (m+1)=X at*
   obtain⟨Y,hY⟩:∃Y,(cs++[c]).flatten++Zc2 zF m=Y:=⟨_,rfl⟩
   rw[hY]at hsp hlen4
   simp(disch:=first|(simp;done)|omega|(simp only[Zac,Zad,Yuq];omega)|rfl) [-V.cells, -V.one,hr,hf,h11,h3,hlt,hlt',hM2,Zak,hcc,e1,e2,hb,hsp]
   have wok:¬N<N:=by omega
   refine⟨m,by omega,⟨by simp[oldIds,hW],(hK.trans k2).set (Yus N),k+1,cs++[c],by omega,by simp,by simp[h3],by show N<n2;omega,by show T.get _ N=_;rw[T.get_set,Yuu rfl,hY],by simp[hcl],fun j q' hj hq'=>?_⟩⟩
   by_cases hjk:j<k
   ·obtain⟨c',g1,g2⟩:=hcs j q' hjk hq'
    exact⟨c',by rw[Yu7 (by omega)];exact g1,(g2.keep k2).setNU hM2 hnu hlen4⟩
   ·obtain rfl:j=k:=by omega
    rw[hqk]at hq'
    simp only[Yup]at hq'
    subst hq'
    exact⟨c,by rw[Yvj (by omega),hcl];simp,hc.setNU hM2 hnu hlen4⟩
 ·rintro _ r ⟨H,n1,W⟩ hr ⟨rfl,hW,hK,k,cs,hk,h11,h3,hN1,hM,hcl,hcs⟩
  simp only at hW hK hM hN1 hcs
  obtain rfl:k=l.length:=by omega
  simp[hr,h3,Ret,hW,hK]
  have hz:Zc2 zF 0=[]:=by simp[Zc2]
  obtain⟨f1,_,_⟩:=Znu (l:=l) (by omega) (fun j q hj hq=>hcs j q (by omega) hq)
  have hfl:=Za8 f1
  rw[hz,Ywo]at hM
  refine⟨⟨cs,.inr ⟨N,0,some l.length,cs.flatten,_,true,by rw[hcl],hN1,hM,fun j x hx=>by rw[Ywn];exact Zc8 f1 hx,by omega,fun k hk=>by simp at hk;omega⟩,hcl,fun j q hq=>hcs j q (Zaz hq) hq⟩,fun i hi=>?_⟩
  simp[Zci]at hi
  subst hi
  exact⟨_,_,hM⟩
structure TaI (h:T O) (N:Nat) (l:List Rat) (m:Nat) (r:T V) (st:St):Prop where
 w:oldIds N st.w=[]
 keep:Keeps h N st.h st.n
 ex:∃(k:Nat),k+m=l.length∧r.get 11=some (.int .i64 k)∧r.get 3=some (.slice N 0 l.length (some l.length) 1)∧N<st.n∧st.h.get N=some (.cells (tx (l.take k)++List.replicate m (V.str [])) 24 true)
def Yfs{k0:Nat}(hs:FrS h N v l)(hP:P10 h N)(hl:l.length<1000000000)(hq:∀q∈l,Qb k0 q)(hk0:k0≤400000000):Fn A.C 128 [v] h N (fun u h' n'=>Sl h' n' u (tx l)∧∀i∈Zci u,∃z w,h'.get i=some (.cells z 24 w)):=by
 intro w
 have hlen:=hs.len
 have c1:(16:Int)*(l.length:Int)≤140737488355328:=by omega
 have c2:(l.length:Int)<4611686018427387904:=by omega
 have kB:Keeps h N (h.set N (.cells (Zc2 [.str []] l.length) 24 true)) (N+1):=Keeps.refl.new _
 rw[Zaa,A.k128 (by simp)]
 simp[A.b128,hlen,c1,c2]
 refine Zag [(4,5),(11,21)] (fun e r st=>e=.exit 0∧TaI h N l 0 r st) (TaI h N l) l.length ?_ ?_ ?_
 ·exact⟨by simp,kB,0,by omega,by simp,by simp,by show N<N+1;omega,by rw[T.get_set,Yuu rfl,Yi3];simp[tx,strs]⟩
 ·rintro m r ⟨H,n1,W⟩ hr hf ⟨hW,hK,k,hk,h11,h3,hN1,hM⟩
  simp only at hW hK hM hN1
  rw[Zah]
  cases m with
  |zero=>
   obtain rfl:k=l.length:=by omega
   simp[A.lb128_0,hr,hf,h11]
   exact⟨hW,hK,l.length,by omega,by simp[h11],by simp[h3],hN1,hM⟩
  |succ m=>
   have hlt:k<l.length:=by omega
   have hlt':(k:Int)<(l.length:Int):=by omega
   obtain⟨q,hqk⟩:=Zaf hlt
   have hqb:=hq q (Yux hqk)
   obtain⟨i,o,x,e,rw,c,q1,q2,q3,q4,q5⟩:=(hs.keep hK).at hqk
   obtain⟨n1',u1,n2',u2,rfl,s1,s2⟩:=q5
   have o1:=Za0 s1
   have o2:=Za0 s2
   unfold V.one at o1 o2
   have la:=Zn2 hqb.1
   have la2:=Zn2 hqb.2
   have nle:=hK.le
   have e4:splice [.int .i64 0,.nilslice,.int .i64 0,.nilslice] 0 [.int .i64 n1',u1,.int .i64 n2',u2]=[.int .i64 n1',u1,.int .i64 n2',u2]:=rfl
   have e5:slc [.int .i64 n1',u1,.int .i64 n2',u2] 0 4=some [.int .i64 n1',u1,.int .i64 n2',u2]:=rfl
   have kA:Keeps H n1 ((H.set n1 (.cells [.int .i64 0,.nilslice,.int .i64 0,.nilslice] 95 true)).set n1 (.cells [.int .i64 n1',u1,.int .i64 n2',u2] 95 true)) (n1+1):=(Keeps.refl.new _).set (Yus _)
   simp[A.lb128_0,hr,hf,h11,h3,hlt,hlt',hlen,q1,q3,q4,Zaj,Zak,o1,o2,e4,e5]
   refine Zab (Ykw (q:=q) (Fc.keep ⟨n1',u1,n2',u2,rfl,s1,s2⟩ kA) ((hP.keep hK).keep kA) (by omega) (by omega)) ?_
   rintro _ H2 n2 k2 rfl
   have le2:=k2.le
   have hM2:=(k2.get N (by omega)).trans ((kA.get N hN1).trans hM)
   have hb:k+1≤(tx (l.take k)++List.replicate (m+1) (V.str [])).length:=by
    rw[Yu8,Zfe,List.length_replicate,Yvh];omega
   have hsp:splice (tx (l.take k)++List.replicate (m+1) (V.str [])) k [.str (Zas q)]=tx (l.take (k+1))++List.replicate m (V.str []):=by
    have e1:(tx (l.take k)++List.replicate (m+1) (V.str []))=tx (l.take k)++([V.str []]++List.replicate m (V.str [])):=by rw[List.replicate_succ];rfl
    rw[e1,Zhy (n:=1) (by rw[Zfe,Yvh];omega) rfl rfl,Yw0,hqk]
    simp[tx,strs]
   generalize tx (l.take k)++List.replicate (m+1) (V.str [])=X at*
   obtain⟨Y,hY⟩:∃Y,tx (l.take (k+1))++List.replicate m (V.str [])=Y:=⟨_,rfl⟩
   rw[hY]at hsp
   simp(disch:=first|(simp;done)|omega|(simp only[Zac,Zad,Yuq];omega)|rfl) [hr,hf,h11,h3,hlt,hlt',hM2,Zak,hb,hsp]
   refine⟨m,by omega,⟨by simp[oldIds,hW];omega,((hK.trans kA).trans k2).set (Yus N),k+1,by omega,by simp,by simp[h3],by show N<n2;omega,by show T.get _ N=_;rw[T.get_set,Yuu rfl,hY]⟩⟩
 ·rintro _ r ⟨H,n1,W⟩ hr ⟨rfl,hW,hK,k,hk,h11,h3,hN1,hM⟩
  simp only at hW hK hM hN1
  obtain rfl:k=l.length:=by omega
  rw[Yxc]at hM
  simp only[List.replicate_zero,Ywo]at hM
  simp[hr,h3,Ret,hW,hK]
  exact⟨Sl.row hN1 hM (Zfe l) (fun k hk=>by simp at hk;omega),fun i hi=>by simp[Zci]at hi;subst hi;exact⟨_,.inr hM⟩⟩
variable {N:Nat} {h:T O} {m:List (List Rat)} {v:V}
def Yab(a b:List Rat):Nat→Rat
 |0=>0
 |k+1=>Yab a b k+a[k]?.getD 0*b[k]?.getD 0
def Zsq(a b:List Rat):Rat:=Yab a b a.length
def Qb.zero:Qb 1 0:=⟨by decide,by decide⟩
def Zi0{l:List Rat}{k:Nat}(h:∀q∈l,Qb k q)(hk:1≤k)(j:Nat):Qb k (l[j]?.getD 0):=by
 cases hj:l[j]? with
 |none=>exact Qb.zero.mono hk
 |some q=>exact h q (Yux hj)
def Zu7{a b:List Rat}{j k:Nat}(ha:∀q∈a,Qb j q)(hb:∀q∈b,Qb k q)(hj:1≤j)(hk:1≤k):∀n,Qb (n*(j+k+1)+1) (Yab a b n)
 |0=>by simpa[Yab]using Qb.zero
 |n+1=>by
  have h:=(Zu7 ha hb hj hk n).add ((Zi0 ha hj n).mul (Zi0 hb hk n))
  exact h.mono (by rw[Yvv];omega)
def Tx(h:T O)(N:Nat)(v:V)(l:List Rat):Prop:=Sl h N v (tx l)
def Tx.keep{h':T O}{N':Nat}{l:List Rat}(s:Tx h N v l)(k:Keeps h N h' N'):Tx h' N' v l:=Sl.keep s k
def TxM(h:T O)(N:Nat)(v:V)(m:List (List Rat)):Prop:=∃us:List V,Sl h N v us∧us.length=m.length∧∀(j:Nat) (l:List Rat),m[j]?=some l→∃u,us[j]?=some u∧Tx h N u l
def TxM.keep{h':T O}{N':Nat}(s:TxM h N v m)(k:Keeps h N h' N'):TxM h' N' v m:=by
 obtain⟨us,h1,h2,h3⟩:=s
 refine⟨us,h1.keep k,h2,fun j l hl=>?_⟩
 obtain⟨u,g1,g2⟩:=h3 j l hl
 exact⟨u,g1,g2.keep k⟩
def TxM.len(s:TxM h N v m):Zom v=some m.length:=by
 obtain⟨us,h1,h2,_⟩:=s
 rw[h1.len,h2]
def TxM.at(s:TxM h N v m){j:Nat}{l:List Rat}(hj:m[j]?=some l):∃i o c e rw u,Zlb v=some (i,o)∧i<N∧h.get i=some (.cells c e rw)∧c[o+j]?=some u∧Tx h N u l:=by
 obtain⟨us,h1,h2,h3⟩:=s
 obtain⟨u,g1,g2⟩:=h3 j l hj
 obtain⟨i,o,c,e,rw,q1,q2,q3,q4⟩:=h1.at g1
 exact⟨i,o,c,e,rw,u,q1,q2,q3,q4,g2⟩
variable {N:Nat} {h h':T O} {l:List Rat} {m:List (List Rat)} {u v:V}
def TxT(h:T O)(N:Nat)(u:V)(l:List Rat):Prop:=Tx h N u l∧∀i∈Zci u,∃z w,h.get i=some (.cells z 24 w)
def Ztz{l:List V}(s:Sl h N v l):∀i∈Zci v,i<N:=fun i hi=>by
 rcases s with⟨_,rfl|rfl⟩|⟨j,o,cp,c,e,rw,rfl,hj,_⟩
 ·simp[Zci]at hi
 ·simp[Zci]at hi
 ·simp[Zci]at hi;omega
def TxT.keep{N':Nat}(s:TxT h N u l)(k:Keeps h N h' N'):TxT h' N' u l:=⟨s.1.keep k,fun i hi=>by rw[k.get i (Ztz s.1 i hi)];exact s.2 i hi⟩
def TxT.moved{n n':Nat}{Y:V→Prop}{e:TypeId}(s:TxT h n u l)(k:Upd (fun i=>i∈Zci v) h n h' n')(hd:Zos e Y h v)(he:e≠24):TxT h' n' u l:=by
 have hn:∀i∈Zci u,i∉Zci v:=fun i hi hc=>by
  obtain⟨z,w,hz⟩:=s.2 i hi
  obtain⟨z2,hz2,_⟩:=hd i hc
  rw[hz]at hz2
  simp at hz2
  exact he hz2.2.1.symm
 exact⟨Sl.moved s.1 k hn,fun i hi=>by rw[k.get i (Ztz s.1 i hi) (hn i hi)];exact s.2 i hi⟩
def MtO(N0:Nat)(h:T O)(N:Nat)(v:V)(m:List (List Rat)):Prop:=∃us:List V,Own 1 28 N0 h N v (us.map fun y=>[y])∧(us=[]→v=.nilslice)∧us.length=m.length∧∀(j:Nat) (l:List Rat),m[j]?=some l→∃u,us[j]?=some u∧TxT h N u l
def MtO.nil{N0:Nat}:MtO N0 h N .nilslice []:=⟨[],Own.nil,fun _=>rfl,rfl,fun j l hl=>by simp at hl⟩
def MtO.keep{N0:Nat}{N':Nat}(s:MtO N0 h N v m)(k:Keeps h N h' N'):MtO N0 h' N' v m:=by
 obtain⟨us,h1,h2,h3,h4⟩:=s
 refine⟨us,h1.keep k,h2,h3,fun j l hl=>?_⟩
 obtain⟨u,g1,g2⟩:=h4 j l hl
 exact⟨u,g1,g2.keep k⟩
def MtO.txm{N0:Nat}(s:MtO N0 h N v m):TxM h N v m:=by
 obtain⟨us,h1,h2,h3,h4⟩:=s
 refine⟨us,Sn.one.1 h1.sn,h3,fun j l hl=>?_⟩
 obtain⟨u,g1,g2⟩:=h4 j l hl
 exact⟨u,g1,g2.1⟩
def MtO.push{N0:Nat}{x:V}{w:List Nat}(s:MtO N0 h N v m)(hu:TxT h N u l)(hN:N0≤N)(hx:Zat ⟨h,N,w⟩ 1 x=some (1,[u]))(hm:m.length<100000):
  ∃v' h' w',Za6 ⟨h,N,w⟩ 1 24 28 v x=some (v',⟨h',N+1,w'⟩)∧oldIds N0 w'=oldIds N0 w∧Keeps h N0 h' (N+1)∧MtO N0 h' (N+1) v' (m++[l]):=by
 obtain⟨us,h1,h2,h3,h4⟩:=s
 obtain⟨v',h',w',f1,f2,f3,f4,fD,f5⟩:=Zco (Y:=fun _=>True) (x:=[u]) (u:=x) (bytes:=24) (w:=w) h1 (fun h0=>h2 (List.map_eq_nil_iff.1 h0)) (fun _ _ _ _=>trivial) hN (by decide) rfl hx (by rw[Yvn];omega)
 refine⟨v',h',w',f1,f2,f3,us++[u],by simpa using f5,by simp,by simp[h3],fun j r hr=>?_⟩
 by_cases hj:j<m.length
 ·rw[Yu7 hj]at hr
  obtain⟨u',g1,g2⟩:=h4 j r hr
  exact⟨u',by rw[Yu7 (by omega)];exact g1,g2.moved f4 fD (by simp)⟩
 ·rw[Yvj (by omega)]at hr
  cases hd:j-m.length with
  |zero=>
   rw[hd]at hr
   simp at hr
   subst hr
   exact⟨u,by rw[Yvj (by omega),h3,hd];rfl,hu.moved f4 fD (by simp)⟩
  |succ d=>rw[hd]at hr;simp at hr
def Yjj{N i:Nat}:∀{w:List Nat},i∈w→i<N→i∈oldIds N w
 |[],h,_=>by simp at h
 |j::w,h,hi=>by
  simp only[oldIds]
  rcases Yvt.1 h with rfl|h
  ·rw[Yuu hi]
   unfold Zfv
   split
   ·rename_i hc;simpa using hc
   ·exact Yvg
  ·have:=Yjj h hi
   split
   ·unfold Zfv
    split
    ·exact this
    ·exact Yu1 _ this
   ·exact this
def Yb5{w:List Nat}(h:oldIds N w=[]):∀i∈w,N≤i:=fun i hi=>by
 apply Ywu
 intro hc
 have:=Yjj hi hc
 rw[h]at this
 simp at this
def Zib(m:List (List Rat))(k:Nat):List Rat:=m.map fun r=>r[k]?.getD 0
def Ze5(m:List (List Rat))(n:Nat):List (List Rat):=(List.range n).map fun k=>Zib m k
end Go.Mx
