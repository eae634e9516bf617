/-num-/
import Derived.Test.YtgnadghjglamaaaGreatDoorNcE
set_option linter.all false
set_option maxHeartbeats 4000000
namespace Go.Mx
noncomputable section
open Go Go.Proofs
set_option maxRecDepth 1000000
def A.b121:=A.q Tryz.f121
def A.k121:=@A.kk 121 16 [.cell 4 (some 4)] A.b121 (by kernel_rfl) rfl
def Zt8{x y:V}{p q:Rat}{h:T O}{N:Nat}(hx:Fc h N x p)(hy:Fc h N y q)(l1:wl p.num<1000000000)(l2:wl (p.den:Nat)<1000000000)(l3:wl q.num<1000000000)(l4:wl (q.den:Nat)<1000000000):Fn A.C 121 [x,y] h N (fun v h' n'=>Fc h' n' v (p*q)):=by
 intro w
 rw[Zaf,A.k121 (by simp)]
 obtain⟨n1,u1,n2,u2,rfl,s1,s2⟩:=hx
 obtain⟨n3,u3,n4,u4,rfl,s3,s4⟩:=hy
 have o1:=Za2 s1
 have o2:=Za2 s2
 have o3:=Za2 s3
 have o4:=Za2 s4
 unfold V.one at o1 o2 o3 o4
 have kB:Keeps h N (((h.set N (.cells [.int .i64 n1,u1,.int .i64 n2,u2] 110 true)).set (N+1) (.cells [.int .i64 n3,u3,.int .i64 n4,u4] 110 true)).set (N+2) (.cells [.int .i64 0,.nilslice,.int .i64 0,.nilslice] 110 true)) (N+3):=kset (kset (kset Keeps.refl _) _) _
 simp(disch:=first|(simp;done)|omega|(simp only[Zab,Zaa,Yrr];omega)|rfl) [-getElem?_pos,A.b121,Zaj,slc,splice,o1,o2,o3,o4]
 generalize hhB:((h.set N (.cells [.int .i64 n1,u1,.int .i64 n2,u2] 110 true)).set (N+1) (.cells [.int .i64 n3,u3,.int .i64 n4,u4] 110 true)).set (N+2) (.cells [.int .i64 0,.nilslice,.int .i64 0,.nilslice] 110 true)=hB at*
 have b1:hB.get N=some (.cells [.int .i64 n1,u1,.int .i64 n2,u2] 110 true):=by rw[←hhB];simp
 have b2:hB.get (N+1)=some (.cells [.int .i64 n3,u3,.int .i64 n4,u4] 110 true):=by rw[←hhB];simp
 have b3:hB.get (N+2)=some (.cells [.int .i64 0,.nilslice,.int .i64 0,.nilslice] 110 true):=by rw[←hhB];simp
 refine Zac (Zg4 (s1.keep kB) (s3.keep kB) (by omega) (by omega)) ?_
 rintro v5 h1 m1 k1 q1
 have kle1:=k1.le
 have f1:=(k1.get N (by omega)).trans b1
 have f2:=(k1.get (N+1) (by omega)).trans b2
 have f3:=(k1.get (N+2) (by omega)).trans b3
 have e1:N<m1:=by omega
 have e2:N+1<m1:=by omega
 simp(disch:=first|(simp;done)|omega|(simp only[Zab,Zaa,Yrr];omega)|rfl) [-getElem?_pos,f1,f2,e1,e2,Zaj,slc,splice]
 refine Zac (Zg4 ((s2.keep kB).keep k1) ((s4.keep kB).keep k1) (by omega) (by omega)) ?_
 rintro v6 h2 m2 k2 q2
 have kle2:=k2.le
 have f4:=(k2.get (N+2) (by omega)).trans f3
 simp(disch:=first|(simp;done)|omega|(simp only[Zab,Zaa,Yrr];omega)|rfl) [-getElem?_pos,]
 have hd:((p.den:Nat):Int)*((q.den:Nat):Int)≠0:=by
  have:=p.den_nz
  have:=q.den_nz
  exact Yvg (by omega) (by omega)
 refine Zac (Ybu (q1.keep k2) q2 hd ?_ ?_) ?_
 ·have:=Zi8 p.num q.num
  omega
 ·have:=Zi8 ((p.den:Nat):Int) ((q.den:Nat):Int)
  omega
 ·rintro v7 h3 m3 k3 hv
  rw[←Rat.divInt_mul_divInt,Yt7,Yt7]at hv
  obtain⟨n5,u5,n6,u6,rfl,t1,t2⟩:=hv
  have o5:=Za2 t1
  have o6:=Za2 t2
  unfold V.one at o5 o6
  have kle3:=k3.le
  have f5:=(k3.get (N+2) (by omega)).trans f4
  have e3:N+2<m3:=by omega
  simp(disch:=first|(simp;done)|omega|(simp only[Zab,Zaa,Yrr];omega)|rfl) [-getElem?_pos,f5,e3,Zaj,slc,splice,Zam,o5,o6,Zal.chk,Ret]
  have kk:=((kB.trans k1).trans k2).trans k3
  exact⟨kk.set (by omega),n5,u5,n6,u6,rfl,t1.setNU (i:=N+2) f5 nu0 rfl,t2.setNU (i:=N+2) f5 nu0 rfl⟩
def Yb8{x:V}{q:Rat}{h:T O}{N:Nat}(hx:Fc h N x q):Fn A.C 182 [x] h N (fun v _ _=>v=.bool (decide (q.den=1))):=by
 intro w
 rw[Zaf,A.k182 (by simp)]
 obtain⟨n1,u1,n2,u2,rfl,s1,s2⟩:=hx
 have o1:=Za2 s1
 have o2:=Za2 s2
 unfold V.one at o1 o2
 rcases s2 with⟨e0,_,_⟩|⟨i,o,l,c,e0,_,hz⟩
 ·simp only[V.agg.injEq,Yse,V.int.injEq,true_and,and_true]at e0
  obtain⟨rfl,rfl⟩:=e0
  by_cases c1:q.den=1
  ·have c2:((q.den:Nat):Int)=1:=by omega
   simp(disch:=first|(simp;done)|omega|(simp only[Zab,Zaa,Yrr];omega)|rfl) [-getElem?_pos,A.b182,Zaj,slc,splice,o1,Zag,c1,c2,Ret]
   exact kset Keeps.refl _
  ·have c2:¬((q.den:Nat):Int)=1:=by omega
   simp(disch:=first|(simp;done)|omega|(simp only[Zab,Zaa,Yrr];omega)|rfl) [-getElem?_pos,A.b182,Zaj,slc,splice,o1,Zag,c1,c2,Ret]
   exact kset Keeps.refl _
 ·simp only[V.agg.injEq,Yse,V.int.injEq,true_and,and_true]at e0
  obtain⟨rfl,rfl⟩:=e0
  have c1:¬q.den=1:=by omega
  simp(disch:=first|(simp;done)|omega|(simp only[Zab,Zaa,Yrr];omega)|rfl) [-getElem?_pos,A.b182,Zaj,slc,splice,o1,Zag,c1,Ret]
  exact kset Keeps.refl _
def A.b82:=A.q Tryz.f82
def A.k82:=@A.kk 82 16 [.tmp 4] A.b82 (by kernel_rfl) rfl
def A.b165:=A.q Tryz.f165
def A.k165:=@A.kk 165 16 [.tmp 2] A.b165 (by kernel_rfl) rfl
def Ykq{x y:V}{p q:Rat}{h:T O}{N:Nat}(hx:Fc h N x p)(hy:Fc h N y q)(l1:wl p.num<1000000000)(l2:wl (p.den:Nat)<1000000000)(l3:wl q.num<1000000000)(l4:wl (q.den:Nat)<1000000000):Fn A.C 82 [x,y] h N (fun v _ _=>v=.int .i64 (sg3 (p.num*(q.den:Nat)-q.num*(p.den:Nat)))):=by
 intro w
 rw[Zaf,A.k82 (by simp)]
 obtain⟨n1,u1,n2,u2,rfl,s1,s2⟩:=hx
 obtain⟨n3,u3,n4,u4,rfl,s3,s4⟩:=hy
 have o1:=Za2 s1
 have o2:=Za2 s2
 have o3:=Za2 s3
 have o4:=Za2 s4
 unfold V.one at o1 o2 o3 o4
 have kB:Keeps h N ((h.set N (.cells [.int .i64 n1,u1,.int .i64 n2,u2] 110 true)).set (N+1) (.cells [.int .i64 n3,u3,.int .i64 n4,u4] 110 true)) (N+2):=kset (kset Keeps.refl _) _
 simp(disch:=first|(simp;done)|omega|(simp only[Zab,Zaa,Yrr];omega)|rfl) [-getElem?_pos,A.b82,Zaj,slc,splice,o1,o2,o3,o4]
 generalize hhB:(h.set N (.cells [.int .i64 n1,u1,.int .i64 n2,u2] 110 true)).set (N+1) (.cells [.int .i64 n3,u3,.int .i64 n4,u4] 110 true)=hB at*
 have b1:hB.get N=some (.cells [.int .i64 n1,u1,.int .i64 n2,u2] 110 true):=by rw[←hhB];simp
 have b2:hB.get (N+1)=some (.cells [.int .i64 n3,u3,.int .i64 n4,u4] 110 true):=by rw[←hhB];simp
 refine Zac (Zg4 (s1.keep kB) (s4.keep kB) (by omega) (by omega)) ?_
 rintro v5 h1 m1 k1 q1
 have kle1:=k1.le
 have f1:=(k1.get N (by omega)).trans b1
 have f2:=(k1.get (N+1) (by omega)).trans b2
 have e1:N<m1:=by omega
 have e2:N+1<m1:=by omega
 simp(disch:=first|(simp;done)|omega|(simp only[Zab,Zaa,Yrr];omega)|rfl) [-getElem?_pos,f1,f2,e1,e2,Zaj,slc,splice]
 refine Zac (Zg4 ((s3.keep kB).keep k1) ((s2.keep kB).keep k1) (by omega) (by omega)) ?_
 rintro v6 h2 m2 k2 q2
 have kle2:=k2.le
 simp(disch:=first|(simp;done)|omega|(simp only[Zab,Zaa,Yrr];omega)|rfl) [-getElem?_pos,]
 refine Zac (Yh6 (q1.keep k2) q2 ?_ ?_) ?_
 ·have:=Zi8 p.num ((q.den:Nat):Int)
  omega
 ·have:=Zi8 q.num ((p.den:Nat):Int)
  omega
 ·rintro _ h3 m3 k3 rfl
  simp(disch:=first|(simp;done)|omega|(simp only[Zab,Zaa,Yrr];omega)|rfl) [-getElem?_pos,Zal.chk,Ret]
  exact((kB.trans k1).trans k2).trans k3
def Yiq{x:V}{q:Rat}{h:T O}{N:Nat}(hx:Fc h N x q)(hP:P10 h N)(l1:(Zcz q.num.natAbs).length<1000000000)(l2:(Zcz q.den).length<1000000000):Fn A.C 165 [x] h N (fun v _ _=>v=.str (Zas q)):=by
 intro w
 rw[Zaf,A.k165 (by simp)]
 have hx0:=hx
 obtain⟨n1,u1,n2,u2,rfl,s1,s2⟩:=hx
 have o1:=Za2 s1
 have o2:=Za2 s2
 unfold V.one at o1 o2
 have kB:=kset (Keeps.refl (h:=h) (n:=N)) (.cells [.int .i64 n1,u1,.int .i64 n2,u2] 110 true)
 simp(disch:=first|(simp;done)|omega|(simp only[Zab,Zaa,Yrr];omega)|rfl) [-getElem?_pos,A.b165,Zaj,slc,splice,o1,o2]
 generalize hhB:h.set N (.cells [.int .i64 n1,u1,.int .i64 n2,u2] 110 true)=hB at*
 have b1:hB.get N=some (.cells [.int .i64 n1,u1,.int .i64 n2,u2] 110 true):=by rw[←hhB];simp
 refine Zac (Yb8 (hx0.keep kB)) ?_
 rintro _ h1 m1 k1 rfl
 have kle1:=k1.le
 have f1:=(k1.get N (by omega)).trans b1
 have kk:=kB.trans k1
 by_cases c1:q.den=1
 ·simp(disch:=first|(simp;done)|omega|(simp only[Zab,Zaa,Yrr];omega)|rfl) [-getElem?_pos,c1,f1,Zaj,slc]
  refine Zac (Zjk (s1.keep kk) (hP.keep kk) (by omega)) ?_
  rintro _ h2 m2 k2 rfl
  simp(disch:=first|(simp;done)|omega|(simp only[Zab,Zaa,Yrr];omega)|rfl) [-getElem?_pos,Ret,Zas,c1]
  exact kk.trans k2
 ·have l0:N<m1:=by omega
  simp(disch:=first|(simp;done)|omega|(simp only[Zab,Zaa,Yrr];omega)|rfl) [-getElem?_pos,c1,f1,l0,Zaj,slc]
  refine Zac (Zjk (s1.keep kk) (hP.keep kk) (by omega)) ?_
  rintro _ h2 m2 k2 rfl
  have kle2:=k2.le
  have kk2:=kk.trans k2
  have f2:=(k2.get N (by omega)).trans f1
  have l3:N<m2:=by omega
  have hmx:IntKind.max .i64=9223372036854775807:=rfl
  have hS1:(decI q.num).length<2000000000:=by
   have h1:(decN q.num.natAbs).length≤(Zcz q.num.natAbs).length+1:=by unfold decN;split<;>simp
   unfold decI
   split<;>simp<;>omega
  have hS2:(decN q.den).length<2000000000:=by
   have h1:(decN q.den).length≤(Zcz q.den).length+1:=by unfold decN;split<;>simp
   omega
  have htx:Zas q=decI q.num++47::decN q.den:=by unfold Zas;rw[Yrt c1]
  have hdI:decI ((q.den:Nat):Int)=decN q.den:=by unfold decI;rw[Yrt (by omega)];rfl
  rw[htx]
  generalize decI q.num=S1 at*
  have g1:¬(9223372036854775807:Int)<(S1.length:Int)+1:=by omega
  simp(disch:=first|(simp;done)|omega|(simp only[Zab,Zaa,Yrr];omega)|rfl) [-getElem?_pos,f2,l3,Zbo,hmx,g1,Zaj,slc]
  refine Zac (Zjk (s2.keep kk2) (hP.keep kk2) (by rw[Yrz];omega)) ?_
  rintro _ h3 m3 k3 rfl
  rw[hdI]
  generalize decN q.den=S2 at*
  have g2:¬(9223372036854775807:Int)<(S1.length:Int)+1+(S2.length:Int):=by omega
  simp(disch:=first|(simp;done)|omega|(simp only[Zab,Zaa,Yrr];omega)|rfl) [-getElem?_pos,Zbo,hmx,g2,Zal.chk,Ret]
  exact kk2.trans k3
def A.w120:=A.q Tryz.f120
def A.ta120_0:=A.qt A.w120 [] [] [1,1]
def A.b120:=(fun y0=>A.qt A.w120 [] [([1,1],y0)] []) A.ta120_0
def A.k120:=@A.kk 120 34 [.cell 4 (some 4)] A.b120 (by kernel_rfl) rfl
def Zl7{q:Rat}(h:q.den=1):q=(q.num:Rat):=by
 apply Rat.ext
 ·simp
 ·simp[h]
def Yp1{H:T O}{N n:Nat}{W:List Nat}{r:T V}{p q:Rat}{n1 n2 n3 n4:Int}{u1 u2 u3 u4:V}(hn:N+3≤n)(hW:Zae N W=[])(b1:H.get N=some (.cells [.int .i64 n1,u1,.int .i64 n2,u2] 110 true))(b2:H.get (N+1)=some (.cells [.int .i64 n3,u3,.int .i64 n4,u4] 110 true))(b3:H.get (N+2)=some (.cells [.int .i64 0,.nilslice,.int .i64 0,.nilslice] 110 true))
  (s1:In H n (.agg [.int .i64 n1,u1]) p.num) (s2:In H n (.agg [.int .i64 n2,u2]) (p.den:Nat)) (s3:In H n (.agg [.int .i64 n3,u3]) q.num) (s4:In H n (.agg [.int .i64 n4,u4]) (q.den:Nat)) (l1:wl p.num<1000000000) (l2:wl (p.den:Nat)<1000000000) (l3:wl q.num<1000000000) (l4:wl (q.den:Nat)<1000000000) (a2:r.get 2=some (.ptr N 0)) (a3:r.get 3=some (.ptr (N+1) 0)) (a4:r.get 4=some (.ptr (N+2) 0)):
  Code A.C none A.ta120_0 ⟨r,34,[]⟩ ⟨H,n,W⟩ (fun e fr st=>e=.ret∧∃r',fr=⟨r',34,[]⟩∧r'.get 4=some (.ptr (N+2) 0)∧MkE H N (p+q) st):=by
 rw[Zai]
 have o1:=Za2 s1
 have o2:=Za2 s2
 have o3:=Za2 s3
 have o4:=Za2 s4
 unfold V.one at o1 o2 o3 o4
 have z1:N<n:=by omega
 have z2:N+1<n:=by omega
 simp(disch:=first|(simp;done)|omega|(simp only[Zab,Zaa,Yrr];omega)|rfl) [-getElem?_pos,A.ta120_0,a2,a3,a4,b1,b2,b3,z1,z2,Zaj,slc,splice]
 refine Zac (Zg4 s1 s4 (by omega) (by omega)) ?_
 rintro v5 h1 m1 k1 q1
 have kle1:=k1.le
 have f1:=(k1.get N (by omega)).trans b1
 have f2:=(k1.get (N+1) (by omega)).trans b2
 have f3:=(k1.get (N+2) (by omega)).trans b3
 have e1:N<m1:=by omega
 have e2:N+1<m1:=by omega
 simp(disch:=first|(simp;done)|omega|(simp only[Zab,Zaa,Yrr];omega)|rfl) [-getElem?_pos,a2,a3,a4,f1,f2,e1,e2,Zaj,slc,splice]
 refine Zac (Zg4 (s3.keep k1) (s2.keep k1) (by omega) (by omega)) ?_
 rintro v6 h2 m2 k2 q2
 have kle2:=k2.le
 have w1:=Zi8 p.num ((q.den:Nat):Int)
 have w2:=Zi8 q.num ((p.den:Nat):Int)
 have w3:=Zi8 ((p.den:Nat):Int) ((q.den:Nat):Int)
 have w4:=Zzk (p.num*((q.den:Nat):Int)) (q.num*((p.den:Nat):Int))
 simp(disch:=first|(simp;done)|omega|(simp only[Zab,Zaa,Yrr];omega)|rfl) [-getElem?_pos,]
 refine Zac (Zse (q1.keep k2) q2 (by omega) (by omega)) ?_
 rintro v7 h3 m3 k3 q3
 have kle3:=k3.le
 have k13:=(k1.trans k2).trans k3
 have f4:=(k13.get N (by omega)).trans b1
 have f5:=(k13.get (N+1) (by omega)).trans b2
 have e3:N<m3:=by omega
 have e4:N+1<m3:=by omega
 simp(disch:=first|(simp;done)|omega|(simp only[Zab,Zaa,Yrr];omega)|rfl) [-getElem?_pos,a2,a3,a4,f4,f5,e3,e4,Zaj,slc,splice]
 refine Zac (Zg4 (s2.keep k13) (s4.keep k13) (by omega) (by omega)) ?_
 rintro v8 h4 m4 k4 q4
 have kle4:=k4.le
 have k14:=k13.trans k4
 have hd:((p.den:Nat):Int)*((q.den:Nat):Int)≠0:=by
  have:=p.den_nz
  have:=q.den_nz
  exact Yvg (by omega) (by omega)
 simp(disch:=first|(simp;done)|omega|(simp only[Zab,Zaa,Yrr];omega)|rfl) [-getElem?_pos,]
 refine Zac (Ybu (q3.keep k4) q4 hd (by omega) (by omega)) ?_
 rintro v9 h5 m5 k5 hv
 have hp0:((p.den:Nat):Int)≠0:=by have:=p.den_nz;omega
 have hq0:((q.den:Nat):Int)≠0:=by have:=q.den_nz;omega
 rw[←Rat.divInt_add_divInt _ _ hp0 hq0,Yt7,Yt7]at hv
 obtain⟨n5,u5,n6,u6,rfl,t1,t2⟩:=hv
 have o5:=Za2 t1
 have o6:=Za2 t2
 unfold V.one at o5 o6
 have kle5:=k5.le
 have k15:=k14.trans k5
 have f6:=(k15.get (N+2) (by omega)).trans b3
 have e5:N+2<m5:=by omega
 simp(disch:=first|(simp;done)|omega|(simp only[Zab,Zaa,Yrr];omega)|rfl) [-getElem?_pos,a4,f6,e5,Zaj,slc,splice,Zam,o5,o6,Zal.chk]
 have n2':¬N+2<N:=by omega
 refine⟨by simp[Zae,hW,n2'],fun i hi=>?_,by show N+3≤m5;omega,n5,u5,n6,u6,by show T.get (T.set _ _ _) _=_;rw[T.get_set,Yrw rfl],n5,u5,n6,u6,rfl,t1.setNU (i:=N+2) f6 nu0 rfl,t2.setNU (i:=N+2) f6 nu0 rfl⟩
 show T.get (T.set _ _ _) _=_
 rw[T.get_set,Yrt (by omega),k15.get i (by omega)]
def Znc{x y:V}{p q:Rat}{h:T O}{N:Nat}(hx:Fc h N x p)(hy:Fc h N y q)(l1:wl p.num<1000000000)(l2:wl (p.den:Nat)<1000000000)(l3:wl q.num<1000000000)(l4:wl (q.den:Nat)<1000000000):Fn A.C 120 [x,y] h N (fun v h' n'=>Fc h' n' v (p+q)):=by
 intro w
 rw[Zaf,A.k120 (by simp)]
 have hx0:=hx
 have hy0:=hy
 obtain⟨n1,u1,n2,u2,rfl,s1,s2⟩:=hx
 obtain⟨n3,u3,n4,u4,rfl,s3,s4⟩:=hy
 have o1:=Za2 s1
 have o2:=Za2 s2
 have o3:=Za2 s3
 have o4:=Za2 s4
 unfold V.one at o1 o2 o3 o4
 have kB:Keeps h N (((h.set N (.cells [.int .i64 n1,u1,.int .i64 n2,u2] 110 true)).set (N+1) (.cells [.int .i64 n3,u3,.int .i64 n4,u4] 110 true)).set (N+2) (.cells [.int .i64 0,.nilslice,.int .i64 0,.nilslice] 110 true)) (N+3):=kset (kset (kset Keeps.refl _) _) _
 simp(disch:=first|(simp;done)|omega|(simp only[Zab,Zaa,Yrr];omega)|rfl) [-getElem?_pos,A.b120,Zaj,slc,splice,o1,o2,o3,o4]
 generalize hhB:((h.set N (.cells [.int .i64 n1,u1,.int .i64 n2,u2] 110 true)).set (N+1) (.cells [.int .i64 n3,u3,.int .i64 n4,u4] 110 true)).set (N+2) (.cells [.int .i64 0,.nilslice,.int .i64 0,.nilslice] 110 true)=hB at*
 have b1:hB.get N=some (.cells [.int .i64 n1,u1,.int .i64 n2,u2] 110 true):=by rw[←hhB];simp
 have b2:hB.get (N+1)=some (.cells [.int .i64 n3,u3,.int .i64 n4,u4] 110 true):=by rw[←hhB];simp
 have b3:hB.get (N+2)=some (.cells [.int .i64 0,.nilslice,.int .i64 0,.nilslice] 110 true):=by rw[←hhB];simp
 refine Zac (Yb8 (hx0.keep kB)) ?_
 rintro _ h0 m0 k0 rfl
 have kle0:=k0.le
 have k0':=kB.trans k0
 have d1:=(k0.get N (by omega)).trans b1
 have d2:=(k0.get (N+1) (by omega)).trans b2
 have d3:=(k0.get (N+2) (by omega)).trans b3
 by_cases cp:p.den=1
 ·simp(disch:=first|(simp;done)|omega|(simp only[Zab,Zaa,Yrr];omega)|rfl) [-getElem?_pos,cp,d1,d2,Zaj,slc]
  refine Zac (Yb8 (hy0.keep k0')) ?_
  rintro _ h1 m1 k1 rfl
  have kle1:=k1.le
  have g1:=(k1.get N (by omega)).trans d1
  have g2:=(k1.get (N+1) (by omega)).trans d2
  have g3:=(k1.get (N+2) (by omega)).trans d3
  have k1':=k0'.trans k1
  by_cases cq:q.den=1
  ·simp(disch:=first|(simp;done)|omega|(simp only[Zab,Zaa,Yrr];omega)|rfl) [-getElem?_pos,cq,g1,g2,Zaj,slc]
   refine Zac (Zse (s1.keep k1') (s3.keep k1') (by omega) (by omega)) ?_
   rintro v5 h2 m2 k2 q1
   have kle2:=k2.le
   simp(disch:=first|(simp;done)|omega|(simp only[Zab,Zaa,Yrr];omega)|rfl) [-getElem?_pos,]
   refine Zac (Zo9 q1) ?_
   rintro _ h3 m3 k3 ⟨n5,u5,n6,u6,rfl,t1,t2⟩
   have o5:=Za2 t1
   have o6:=Za2 t2
   unfold V.one at o5 o6
   have kle3:=k3.le
   have f5:=(k3.get (N+2) (by omega)).trans ((k2.get (N+2) (by omega)).trans g3)
   simp(disch:=first|(simp;done)|omega|(simp only[Zab,Zaa,Yrr];omega)|rfl) [-getElem?_pos,f5,Zaj,slc,splice,Zam,o5,o6,Zal.chk,Ret]
   have kk:=(k1'.trans k2).trans k3
   have hpq:p+q=((p.num+q.num:Int):Rat):=by rw[Zl7 cp,Zl7 cq];simp
   rw[hpq]
   exact⟨kk.set (by omega),n5,u5,n6,u6,rfl,t1.setNU (i:=N+2) f5 nu0 rfl,t2.setNU (i:=N+2) f5 nu0 rfl⟩
  ·simp(disch:=first|(simp;done)|omega|(simp only[Zab,Zaa,Yrr];omega)|rfl) [-getElem?_pos,cq,g1,g2,Zaj,slc]
   refine Za7 (Yp1 (N:=N) (p:=p) (q:=q) (by omega) (by simp[Zae]) g1 g2 g3 (s1.keep k1') (s2.keep k1') (s3.keep k1') (s4.keep k1') l1 l2 l3 l4 (by simp) (by simp) (by simp)) ?_
   rintro e fr ⟨H6,n6,W6⟩ ⟨rfl,r6,rfl,c4,q1,q2,q3,m5,v5,m6,v6,q4,q5⟩
   simp only at q1 q2 q3 q4 q5
   simp(disch:=first|(simp;done)|omega|(simp only[Zab,Zaa,Yrr];omega)|rfl) [-getElem?_pos,c4,q4,Zaj,slc,Ret,q1]
   exact⟨⟨by omega,fun i hi=>(q2 i hi).trans (k1'.get i hi)⟩,q5⟩
 ·simp(disch:=first|(simp;done)|omega|(simp only[Zab,Zaa,Yrr];omega)|rfl) [-getElem?_pos,cp,d1,d2,Zaj,slc]
  refine Za7 (Yp1 (N:=N) (p:=p) (q:=q) (by omega) (by simp[Zae]) d1 d2 d3 (s1.keep k0') (s2.keep k0') (s3.keep k0') (s4.keep k0') l1 l2 l3 l4 (by simp) (by simp) (by simp)) ?_
  rintro e fr ⟨H6,n6,W6⟩ ⟨rfl,r6,rfl,c4,q1,q2,q3,m5,v5,m6,v6,q4,q5⟩
  simp only at q1 q2 q3 q4 q5
  simp(disch:=first|(simp;done)|omega|(simp only[Zab,Zaa,Yrr];omega)|rfl) [-getElem?_pos,c4,q4,Zaj,slc,Ret,q1]
  exact⟨⟨by omega,fun i hi=>(q2 i hi).trans (k0'.get i hi)⟩,q5⟩
def A.b92:=A.q Tryz.f92
def A.k92:=@A.kk 92 22 [.cell 2 (some 4)] A.b92 (by kernel_rfl) rfl
def Zmk{z:Int}{h:T O}{N:Nat}(hl:(decI z).length≤100000):Fn A.C 169 [.str (decI z)] h N (fun v h' n'=>In h' n' v z):=by
 have hb:(decN z.natAbs).length≤100000:=by
  unfold decI at hl
  split at hl<;>(try simp at hl)<;>omega
 have:=Yai (s:=decI z) (h:=h) (N:=N) (by rw[Zex];exact Zb6 _) (by rw[Zex];exact hb)
 rw[Zfn,Zex,Zck]at this
 have e:(if decide (z<0)=true then -(z.natAbs:Int) else (z.natAbs:Int))=z:=by
  by_cases hz:z<0<;>simp[hz]<;>omega
 rw[e]at this
 exact this
def Yck{q:Rat}{h:T O}{N:Nat}(l1:(decI q.num).length≤100000)(l2:(decN q.den).length≤100000):Fn A.C 92 [.str (Zas q)] h N (fun v h' n'=>Fc h' n' v q):=by
 intro w
 have hc:=fun st=>Yh4 (s:=Zas q) (st:=st) (by unfold Zas;split<;>(try simp)<;>omega)
 rw[Zjd]at hc
 have kB:=kset (Keeps.refl (h:=h) (n:=N)) (.cells [.int .i64 0,.nilslice,.int .i64 0,.nilslice] 110 true)
 rw[Zaf,A.k92 (by simp)]
 by_cases c1:q.den=1
 ·have hlt:¬slashAt (Zas q)<(Zas q).length:=fun hx=>(Zje q).1 hx c1
  simp(disch:=first|(simp;done)|omega|(simp only[Zab,Zaa,Yrr];omega)|rfl) [-getElem?_pos,A.b92,hc,hlt]
  refine Zac (Zmk l1) ?_
  rintro v1 h1 m1 k1 q1
  simp(disch:=first|(simp;done)|omega|(simp only[Zab,Zaa,Yrr];omega)|rfl) [-getElem?_pos,]
  refine Zac (Zo9 q1) ?_
  rintro _ h3 m3 k3 ⟨n5,u5,n6,u6,rfl,t1,t2⟩
  have o5:=Za2 t1
  have o6:=Za2 t2
  unfold V.one at o5 o6
  have kle1:=k1.le
  have kle3:=k3.le
  have kk:=(kB.trans k1).trans k3
  have f5:=((k1.trans k3).get N (by omega))
  rw[T.get_set,Yrw rfl]at f5
  simp(disch:=first|(simp;done)|omega|(simp only[Zab,Zaa,Yrr];omega)|rfl) [-getElem?_pos,f5,Zaj,slc,splice,Zam,o5,o6,Zal.chk,Ret]
  rw[Zl7 c1]
  exact⟨kk.set (by omega),n5,u5,n6,u6,rfl,t1.setNU f5 nu0 rfl,t2.setNU f5 nu0 rfl⟩
 ·have hlt:slashAt (Zas q)<(Zas q).length:=(Zje q).2 c1
  have hd:=Zjf q c1
  have hdI:decN q.den=decI ((q.den:Nat):Int):=by unfold decI;rw[Yrt (by omega)];rfl
  rw[hdI]at l2 hd
  simp(disch:=first|(simp;done)|omega|(simp only[Zab,Zaa,Yrr];omega)|rfl) [-getElem?_pos,A.b92,hc,hlt,hd]
  refine Zac (Zmk l1) ?_
  rintro v1 h1 m1 k1 q1
  simp(disch:=first|(simp;done)|omega|(simp only[Zab,Zaa,Yrr];omega)|rfl) [-getElem?_pos,]
  refine Zac (Zmk l2) ?_
  rintro v2 h2 m2 k2 q2
  obtain⟨n5,u5,rfl,hu5⟩:=q1.cells
  obtain⟨n6,u6,rfl,hu6⟩:=q2.cells
  have o5:=hu5
  have o6:=hu6
  unfold V.one at o5 o6
  have kle1:=k1.le
  have kle2:=k2.le
  have kk:=(kB.trans k1).trans k2
  have f5:=((k1.trans k2).get N (by omega))
  rw[T.get_set,Yrw rfl]at f5
  simp(disch:=first|(simp;done)|omega|(simp only[Zab,Zaa,Yrr];omega)|rfl) [-getElem?_pos,f5,Zaj,slc,splice,Zam,o5,o6,Zal.chk,Ret]
  exact⟨kk.set (by omega),n5,u5,n6,u6,rfl,(q1.keep k2).setNU f5 nu0 rfl,q2.setNU f5 nu0 rfl⟩
variable {N k:Nat} {h:T O} {x:V} {z:Int}
def A.b171:=A.q Tryz.f171
def A.k171:=@A.kk 171 6 [.tmp 2] A.b171 (by kernel_rfl) rfl
def A.b161:=A.q Tryz.f161
def A.k161:=@A.kk 161 11 [.tmp 2] A.b161 (by kernel_rfl) rfl
def A.b209:=A.q Tryz.f209
def A.k209:=@A.kk 209 13 [.tmp 2] A.b209 (by kernel_rfl) rfl
def A.b236:=A.q Tryz.f236
def A.k236:=@A.kk 236 25 [.tmp 2] A.b236 (by kernel_rfl) rfl
def Fc.parts{q:Rat}(s:Fc h N x q):∃n1 u1 n2 u2,x=.agg [.int .i64 n1,u1,.int .i64 n2,u2]∧In h N (.agg [.int .i64 n1,u1]) q.num∧In h N (.agg [.int .i64 n2,u2]) (q.den:Int)∧V.one u1=true∧V.one u2=true:=by
 obtain⟨n1,u1,n2,u2,rfl,s1,s2⟩:=s
 exact⟨n1,u1,n2,u2,rfl,s1,s2,Za2 s1,Za2 s2⟩
def Yf7{q:Rat}(hx:Fc h N x q):Fn A.C 171 [x] h N (fun v _ _=>v=.int .i64 (sg3 q.num)):=by
 intro w
 obtain⟨n1,u1,n2,u2,rfl,s1,s2,o1,o2⟩:=hx.parts
 unfold V.one at o1 o2
 rw[Zaf,A.k171 (by simp)]
 have k0:=(Keeps.refl (h:=h) (n:=N)).new (.cells [.int .i64 n1,u1,.int .i64 n2,u2] 110 true)
 simp(disch:=first|(simp;done)|omega|(simp only[Zab,Zaa,Yrr];omega)|rfl) [-getElem?_pos,A.b171,Zaj,slc,splice,o1,o2]
 refine Zac (Zik (s1.keep k0)) ?_
 rintro _ h1 m1 k1 rfl
 simp(disch:=first|(simp;done)|omega|(simp only[Zab,Zaa,Yrr];omega)|rfl) [-getElem?_pos,Ret]
 exact k0.trans k1
def Ygz{n d:Nat}(hk:(wds n).length=k+1)(hd:(wds n)[k]?=some d):n<2^(64*k+blen d):=by
 have h1:=Zbq n
 have h2:=Zby (b:=B) hd
 rw[Yr2 (by omega),h1]at h2
 have h3:val B ((wds n).take k)<B^k:=by
  have:=Zk4 (b:=B) (l:=(wds n).take k) (fun x hx=>Zdh n x (Ytx hx))
  rw[Ysi,Ysz (by omega)]at this;exact this
 have h4:d+1≤2^blen d:=Zp6 d
 have h5:B^k*(d+1)≤B^k*2^blen d:=Yr9 _ h4
 have h6:B^k=2^(64*k):=by rw[Nat.pow_mul];rfl
 rw[Ysr,←h6]
 rw[Ys8]at h5
 omega
def Zty{n b:Nat}(h:600<(decN n).length)(hb:n<2^b):1800<b:=by
 apply Classical.byContradiction
 intro hc
 obtain⟨M,hM⟩:∃M:Nat,M=600:=⟨_,rfl⟩
 have h1:n<2^(3*M):=Yr5 hb (Zmp (by omega))
 have h2:(2:Nat)^(3*M)≤10^M:=by
  rw[Nat.pow_mul]
  exact Yuf (by decide) _
 have h3:=(Zcn (n:=n) (k:=M) (by omega)).2 (Yr5 h1 h2)
 omega
def Ylf(hx:In h N x z)(hl:wl z<10000000000):Fn A.C 236 [x] h N (fun v _ _=>∃b:Nat,v=.int .i64 b∧z.natAbs<2^b):=by
 intro w
 obtain⟨n,u,rfl,hu⟩:=hx.cells
 have hu':=hu
 unfold V.one at hu'
 have k0:=(Keeps.refl (h:=h) (n:=N)).new (.cells [.int .i64 n,u] 108 true)
 rw[Zaf,A.k236 (by simp)]
 simp(disch:=first|(simp;done)|omega|(simp only[Zab,Zaa,Yrr];omega)|rfl) [-getElem?_pos,A.b236,Zaj,slc,splice,hu']
 refine Zac (Zeq (hx.keep k0)) ?_
 rintro _ h1 m1 k1 ⟨u2,rfl,hw⟩
 have hlen:=Sl.len hw
 rw[Zab]at hlen
 by_cases h0:(wds z.natAbs).length=0
 ·rw[h0]at hlen
  have hz:z.natAbs=0:=by
   have:=Zbq z.natAbs
   rw[Yr7 h0]at this
   simpa[val]using this.symm
  simp(disch:=first|(simp;done)|omega|(simp only[Zab,Zaa,Yrr];omega)|rfl) [-getElem?_pos,hlen,Zag,Ret]
  exact⟨k0.trans k1,0,rfl,by omega⟩
 ·obtain⟨k,hk⟩:∃k,(wds z.natAbs).length=k+1:=⟨(wds z.natAbs).length-1,by omega⟩
  rw[hk]at hlen
  obtain⟨d,hd⟩:=Zao (l:=wds z.natAbs) (k:=k) (by omega)
  obtain⟨i,o,c,e,rw,q1,q2,q3,q4⟩:=Sl.at hw (Za9 hd)
  have hdB:d<18446744073709551616:=(Zdh _).get hd
  have hkl:k+1<10000000000:=by
   have:=hl
   unfold wl at this
   omega
  have hbl:blen d≤64:=by
   apply Classical.byContradiction
   intro hc
   have h1:d≠0:=fun h=>by rw[h]at hc;simp[blen]at hc
   have h2:=Zk1 h1
   have h3:=Zmp (j:=64) (k:=blen d-1) (by omega)
   have h4:(2:Nat)^64=18446744073709551616:=by decide
   omega
  have c1:¬((k:Int)+1=0):=by omega
  have c2:Zap .i64 ((k:Int)+1-1)=(k:Int):=by rw[Zah (by omega) (by omega)];omega
  have c3:Zap .i64 (64*(k:Int))=64*(k:Int):=Zah (by omega) (by omega)
  have c4:Zap .i64 (64*(k:Int)+(blen d:Nat))=64*(k:Int)+(blen d:Nat):=Zah (by omega) (by omega)
  have c5:(k:Int)<(k:Int)+1:=by omega
  simp(disch:=first|(simp;done)|omega|(simp only[Zab,Zaa,Yrr];omega)|rfl) [-getElem?_pos,hlen,Zag,c1,c2,c3,c5,q1,q3,q4]
  refine Zac (Zpu hdB) ?_
  rintro _ h2 m2 k2 ⟨rfl,rfl,rfl⟩
  simp(disch:=first|(simp;done)|omega|(simp only[Zab,Zaa,Yrr];omega)|rfl) [-getElem?_pos,c4,Ret]
  exact⟨k0.trans k1,64*k+blen d,by simp,Ygz hk hd⟩
def Yby(hx:In h N x z)(hP:P10 h N)(hl:wl z<10000000000)(hd:(Zcz z.natAbs).length<1000000000):Fn A.C 209 [x] h N (fun v _ _=>v=.bool (decide (600<(decN z.natAbs).length))):=by
 intro w
 obtain⟨n,u,rfl,hu⟩:=hx.cells
 have hu':=hu
 unfold V.one at hu'
 have k0:=(Keeps.refl (h:=h) (n:=N)).new (.cells [.int .i64 n,u] 108 true)
 have g0:(h.set N (.cells [.int .i64 n,u] 108 true)).get N=some (.cells [.int .i64 n,u] 108 true):=by rw[T.get_set,Yrw rfl]
 rw[Zaf,A.k209 (by simp)]
 simp(disch:=first|(simp;done)|omega|(simp only[Zab,Zaa,Yrr];omega)|rfl) [-getElem?_pos,A.b209,Zaj,slc,splice,hu']
 refine Zac (Ylf (hx.keep k0) hl) ?_
 rintro _ h1 m1 k1 ⟨b,rfl,hb⟩
 have g1:=(k1.get N (by omega)).trans g0
 by_cases hbb:1800<b
 ·have hbb':(1800:Int)<(b:Int):=by omega
  simp(disch:=first|(simp;done)|omega|(simp only[Zab,Zaa,Yrr];omega)|rfl) [-getElem?_pos,hbb,hbb',g1,Zaj,slc]
  refine Zac (Zjk ((hx.keep k0).keep k1) ((hP.keep k0).keep k1) (by omega)) ?_
  rintro _ h2 m2 k2 rfl
  have ht:=fun st=>Zjg (s:=decI z) (st:=st)
  rw[Zex]at ht
  simp(disch:=first|(simp;done)|omega|(simp only[Zab,Zaa,Yrr];omega)|rfl) [-getElem?_pos,ht,Ret]
  exact⟨(k0.trans k1).trans k2,by omega⟩
 ·have hbb':¬(1800:Int)<(b:Int):=by omega
  have hno:¬600<(decN z.natAbs).length:=fun hc=>hbb (Zty hc hb)
  simp(disch:=first|(simp;done)|omega|(simp only[Zab,Zaa,Yrr];omega)|rfl) [-getElem?_pos,hbb,hbb',hno,Ret]
  exact k0.trans k1
def Yd8(h:z.natAbs<2^k):wl z≤k:=by
 have:=Ze7 (Yr5 h (Yuf (by decide) k))
 unfold wl at this ⊢
 rwa [Yrz]at this
def Ycm{q:Rat}(hx:Fc h N x q)(hP:P10 h N)(hq:Qb k q)(hk:k≤400000000):Fn A.C 161 [x] h N (fun v _ _=>v=.bool (Yd4 q)):=by
 intro w
 obtain⟨n1,u1,n2,u2,rfl,s1,s2,o1,o2⟩:=hx.parts
 unfold V.one at o1 o2
 have k0:=(Keeps.refl (h:=h) (n:=N)).new (.cells [.int .i64 n1,u1,.int .i64 n2,u2] 110 true)
 have g0:(h.set N (.cells [.int .i64 n1,u1,.int .i64 n2,u2] 110 true)).get N=some (.cells [.int .i64 n1,u1,.int .i64 n2,u2] 110 true):=by rw[T.get_set,Yrw rfl]
 have l1:=Znj hq.1
 have l2:=Znj hq.2
 have z1:=Yd8 hq.1
 have z2:=Yd8 (z:=(q.den:Int)) (k:=k) (by rw[Yrz];exact hq.2)
 rw[Zaf,A.k161 (by simp)]
 simp(disch:=first|(simp;done)|omega|(simp only[Zab,Zaa,Yrr];omega)|rfl) [-getElem?_pos,A.b161,Zaj,slc,splice,o1,o2]
 refine Zac (Yby (s1.keep k0) (hP.keep k0) (by omega) (by omega)) ?_
 rintro _ h1 m1 k1 rfl
 have g1:=(k1.get N (by omega)).trans g0
 unfold Yd4
 by_cases c1:600<(decN q.num.natAbs).length
 ·simp(disch:=first|(simp;done)|omega|(simp only[Zab,Zaa,Yrr];omega)|rfl) [-getElem?_pos,c1,Ret]
  exact k0.trans k1
 ·simp(disch:=first|(simp;done)|omega|(simp only[Zab,Zaa,Yrr];omega)|rfl) [-getElem?_pos,c1,g1,Zaj,slc]
  refine Zac (Yby ((s2.keep k0).keep k1) ((hP.keep k0).keep k1) (by omega) (by rw[Yrz];omega)) ?_
  rintro _ h2 m2 k2 rfl
  simp(disch:=first|(simp;done)|omega|(simp only[Zab,Zaa,Yrr];omega)|rfl) [-getElem?_pos,Ret]
  exact(k0.trans k1).trans k2
end
end Go.Mx
