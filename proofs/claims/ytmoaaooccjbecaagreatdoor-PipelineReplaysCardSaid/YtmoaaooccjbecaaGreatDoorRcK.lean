/-lensletref01-/
import Derived.Test.YtmoaaooccjbecaaGreatDoorRcG
set_option linter.all false
namespace Go.Mx
open Go Go.Proofs
variable {j:Nat}
set_option maxHeartbeats 2000000
set_option maxRecDepth 1000000
noncomputable def A.b149:=A.q Tryz.f149
def A.k149:=@A.kk 149 55 [.tmp 4] A.b149 (by kernel_rfl) rfl
def Zoz(a b:Rat):a*b=Rat.divInt (a.num*b.num) ((a.den:Int)*(b.den:Int)):=by
 rw[Rat.mul_def,Rat.normalize_eq_mkRat,←Rat.divInt_ofNat]
 simp
def Zph(a b:Rat):a+b=Rat.divInt (a.num*(b.den:Int)+b.num*(a.den:Int)) ((a.den:Int)*(b.den:Int)):=by
 rw[Rat.add_def,Rat.normalize_eq_mkRat,←Rat.divInt_ofNat]
 simp
def Znj{a b:Nat}(h1:a<1000000000)(h2:b<1000000000):a*b≤1000000000000000000:=by
 have:=Yvo (Nat.le_of_lt h1) (Nat.le_of_lt h2)
 omega
def Zl3(q:Rat):∃(n d:Int) (o:Bool),(∀st,A.C.call (.func 202 [] []) [.str (Za0 q)] st=some (.tup [.int .i64 n,.int .i64 d,.bool o],st))∧(o=true→n=q.num∧d=(q.den:Int)∧q.num.natAbs<1000000000∧q.den<1000000000):=by
 by_cases f:q.num.natAbs<1000000000∧q.den<1000000000
 ·exact⟨q.num,q.den,true,fun st=>by rw[Zv4,Ytg f],fun _=>⟨rfl,rfl,f⟩⟩
 ·exact⟨0,0,false,fun st=>by rw[Zv4,Yte f],fun h=>by cases h⟩
def Rg.ones{h:T O}{N:Nat}{v:V}{z:Int}(s:Rg h N v z):∃u,v=.agg [.bool (decide (z<0)),u]∧V.one u=true∧V.cells u=[u]∧SlF u:=by
 obtain⟨u,rfl,hu⟩:=s
 exact⟨u,rfl,(Sl.form hu).one,(Sl.form hu).cells,Sl.form hu⟩
def Zds{a b:Int}{k:Nat}(h1:a.natAbs<2^j)(h2:b.natAbs<2^k):(a*b).natAbs<2^(j+k):=by
 rw[Yvp,Yuu]
 exact Yv8 h1 h2
def Zp4{a b:Int}(h1:a.natAbs<2^j)(h2:b.natAbs<2^j):(a+b).natAbs<2^(j+1):=by
 have:=Int.natAbs_add_le a b
 rw[Yt5];omega
def Yb4{a b:Rat}{k:Nat}{h:T O}{N:Nat}(ha:Qb j a)(hb:Qb k b)(hj:j≤400000000)(hk:k≤400000000):Fn A.C 149 [.str (Za0 a),.str (Za0 b)] h N (fun u _ _=>u=.str (Za0 (a*b))):=by
 intro w
 obtain⟨n1,d1,o1,hq1,f1⟩:=Zl3 a
 obtain⟨n2,d2,o2,hq2,f2⟩:=Zl3 b
 have pa:=Rat.den_pos a
 have pb:=Rat.den_pos b
 rw[Zad,A.k149 (by simp)]
 have key:(o1=true∧o2=true)∨(o1=false∨(o1=true∧o2=false)):=by cases o1<;>cases o2<;>simp
 rcases key with⟨rfl,rfl⟩|key
 ·obtain⟨rfl,rfl,g1⟩:=f1 rfl
  obtain⟨rfl,rfl,g2⟩:=f2 rfl
  have m1:(a.num*b.num).natAbs≤1000000000000000000:=by rw[Yvp];exact Znj g1.1 g2.1
  have m2:a.den*b.den≤1000000000000000000:=Znj g1.2 g2.2
  have m3:0<a.den*b.den:=Ywr pa pb
  have e2:(a.den:Int)*(b.den:Int)=((a.den*b.den:Nat):Int):=by simp
  have w1:Zap .i64 (a.num*b.num)=a.num*b.num:=Zaj (by omega) (by omega)
  have w2:Zap .i64 ((a.den:Int)*(b.den:Int))=(a.den:Int)*(b.den:Int):=by rw[e2];exact Zaj (by omega) (by omega)
  have ho:=fun st=>Yof (p:=a.num*b.num) (q:=(a.den:Int)*(b.den:Int)) (st:=st) (by omega) (by omega) (by omega) (by omega) (by omega)
  rw[←Zoz]at ho
  simp[A.b149,hq1,hq2,w1,w2,ho,Ret]
  exact Keeps.refl
 ·have la:=Znq ha.1
  have la2:=Zk4 ha.2
  have lb:=Znq hb.1
  have lb2:=Zk4 hb.2
  have z1:=Zkd ha.1
  have z2:=Zkd hb.1
  have z3:=Zkd ha.2
  have z4:=Zkd hb.2
  rcases key with rfl|⟨rfl,rfl⟩
  all_goals simp[A.b149,hq1,hq2]
  all_goals
   refine Zaf (Zjz (q:=a) (by omega) (by omega)) ?_
   rintro _ h1 t1 k1 ⟨x1,y1,rfl,X1,Y1⟩
   obtain⟨u1,rfl,p1,p2,F1⟩:=X1.ones
   obtain⟨v1,rfl,p3,p4,G1⟩:=Y1.ones
   unfold V.one at p1 p3
   unfold V.cells at p2 p4
   have KA:=((((Keeps.refl (h:=h1) (n:=t1)).new (.cells [.bool false,.nilslice] 182 true)).new (.cells [.bool false,.nilslice] 182 true)).set (i:=t1) (o:=.cells [.bool (decide (a.num<0)),u1] 182 true) (Ytf _)).set (i:=t1+1) (o:=.cells [.bool (decide ((a.den:Int)<0)),v1] 182 true) (by omega)
   have c0:¬t1+1=t1:=by omega
   have c00:¬t1=t1+1:=by omega
   simp[p1,p2,p3,p4,Zal,splice,c0]
   generalize hHA:(((h1.set t1 (.cells [.bool false,.nilslice] 182 true)).set (t1+1) (.cells [.bool false,.nilslice] 182 true)).set t1 (.cells [.bool (decide (a.num<0)),u1] 182 true)).set (t1+1) (.cells [.bool (decide ((a.den:Int)<0)),v1] 182 true)=HA at*
   have gA1:HA.get t1=some (.cells [.bool (decide (a.num<0)),u1] 182 true):=by rw[←hHA];simp[c0,c00]
   have gA2:HA.get (t1+1)=some (.cells [.bool (decide ((a.den:Int)<0)),v1] 182 true):=by rw[←hHA];simp
   have X1:=X1.keep KA
   have Y1:=Y1.keep KA
   clear hHA
   refine Zaf (Zjz (q:=b) (by omega) (by omega)) ?_
   rintro _ h2 t2 k2 ⟨x2,y2,rfl,X2,Y2⟩
   obtain⟨u2,rfl,p5,p6,F2⟩:=X2.ones
   obtain⟨v2,rfl,p7,p8,G2⟩:=Y2.ones
   unfold V.one at p5 p7
   unfold V.cells at p6 p8
   have KB:=((((Keeps.refl (h:=h2) (n:=t2)).new (.cells [.bool false,.nilslice] 182 true)).new (.cells [.bool false,.nilslice] 182 true)).set (i:=t2) (o:=.cells [.bool (decide (b.num<0)),u2] 182 true) (Ytf _)).set (i:=t2+1) (o:=.cells [.bool (decide ((b.den:Int)<0)),v2] 182 true) (by omega)
   have c1:¬t2+1=t2:=by omega
   have c11:¬t2=t2+1:=by omega
   have i2:=k2.le
   generalize hHB:(((h2.set t2 (.cells [.bool false,.nilslice] 182 true)).set (t2+1) (.cells [.bool false,.nilslice] 182 true)).set t2 (.cells [.bool (decide (b.num<0)),u2] 182 true)).set (t2+1) (.cells [.bool (decide ((b.den:Int)<0)),v2] 182 true)=HB at*
   have gB1:HB.get t2=some (.cells [.bool (decide (b.num<0)),u2] 182 true):=by rw[←hHB];simp[c1,c11]
   have gB2:HB.get (t2+1)=some (.cells [.bool (decide ((b.den:Int)<0)),v2] 182 true):=by rw[←hHB];simp
   have gB3:=(KB.get t1 (by omega)).trans ((k2.get t1 (by omega)).trans gA1)
   have gB4:=(KB.get (t1+1) (by omega)).trans ((k2.get (t1+1) (by omega)).trans gA2)
   have X1:=(X1.keep k2).keep KB
   have Y1:=(Y1.keep k2).keep KB
   have X2:=X2.keep KB
   have Y2:=Y2.keep KB
   have K2:Keeps h N HB (t2+1+1):=((k1.trans KA).trans k2).trans KB
   have j1:t1<t2+1+1:=by omega
   have j2:t1+1<t2+1+1:=by omega
   have j3:t2<t2+1+1:=by omega
   simp[p5,p6,p7,p8,Zal,splice,c1,hHB,gB1,gB2,gB3,gB4,Zam,slc]
   refine Zaf (Zjn X1 X2 (by omega) (by omega)) ?_
   rintro _ h3 t3 k3 X3
   have i3:=k3.le
   have gC2:=(k3.get (t2+1) (by omega)).trans gB2
   have gC4:=(k3.get (t1+1) (by omega)).trans gB4
   simp[gC2,gC4,Zam,slc]
   refine Zaf (Zjn (Y1.keep k3) (Y2.keep k3) (by rw[Ytk];omega) (by rw[Ytk];omega)) ?_
   rintro _ h4 t4 k4 X4
   have m1:=Zkd (Zds ha.1 hb.1)
   have m2:=Zkd (Zds (a:=(a.den:Int)) (b:=(b.den:Int)) (j:=j) (k:=k) (by rw[Ytk];exact ha.2) (by rw[Ytk];exact hb.2))
   simp[]
   refine Zaf (Zng (X3.keep k4) X4 (Yw4 (by omega) (by omega)) (by omega) (by omega)) ?_
   rintro _ h5 t5 k5 rfl
   have j4:t2+1<t3:=by omega
   have j5:t1+1<t3:=by omega
   rw[←Zoz]
   have i1:=k1.le
   simp[-Zaa,Zan.chk,j1,j2,j3,j4,j5,Ret]
   exact⟨Zgh (by simp;omega),((K2.trans k3).trans k4).trans k5⟩
set_option maxHeartbeats 2000000
noncomputable def A.b150:=A.q Tryz.f150
def A.k150:=@A.kk 150 63 [.tmp 4] A.b150 (by kernel_rfl) rfl
def Zvj{a b:Rat}{j k:Nat}{h:T O}{N:Nat}(ha:Qb j a)(hb:Qb k b)(hj:j≤400000000)(hk:k≤400000000):Fn A.C 150 [.str (Za0 a),.str (Za0 b)] h N (fun u _ _=>u=.str (Za0 (a+b))):=by
 intro w
 obtain⟨n1,d1,o1,hq1,f1⟩:=Zl3 a
 obtain⟨n2,d2,o2,hq2,f2⟩:=Zl3 b
 have pa:=Rat.den_pos a
 have pb:=Rat.den_pos b
 rw[Zad,A.k150 (by simp)]
 have key:(o1=true∧o2=true)∨(o1=false∨(o1=true∧o2=false)):=by cases o1<;>cases o2<;>simp
 rcases key with⟨rfl,rfl⟩|key
 ·obtain⟨rfl,rfl,g1⟩:=f1 rfl
  obtain⟨rfl,rfl,g2⟩:=f2 rfl
  have m1:(a.num*(b.den:Int)).natAbs≤1000000000000000000:=by rw[Yvp,Ytk];exact Znj g1.1 g2.2
  have m4:(b.num*(a.den:Int)).natAbs≤1000000000000000000:=by rw[Yvp,Ytk];exact Znj g2.1 g1.2
  have m2:a.den*b.den≤1000000000000000000:=Znj g1.2 g2.2
  have m3:0<a.den*b.den:=Ywr pa pb
  have e2:(a.den:Int)*(b.den:Int)=((a.den*b.den:Nat):Int):=by simp
  have w1:Zap .i64 (a.num*(b.den:Int))=a.num*(b.den:Int):=Zaj (by omega) (by omega)
  have w3:Zap .i64 (b.num*(a.den:Int))=b.num*(a.den:Int):=Zaj (by omega) (by omega)
  have w2:Zap .i64 ((a.den:Int)*(b.den:Int))=(a.den:Int)*(b.den:Int):=by rw[e2];exact Zaj (by omega) (by omega)
  have w4:Zap .i64 (a.num*(b.den:Int)+b.num*(a.den:Int))=a.num*(b.den:Int)+b.num*(a.den:Int):=Zaj (by omega) (by omega)
  have ho:=fun st=>Yof (p:=a.num*(b.den:Int)+b.num*(a.den:Int)) (q:=(a.den:Int)*(b.den:Int)) (st:=st) (by omega) (by omega) (by omega) (by omega) (by omega)
  rw[←Zph]at ho
  simp[A.b150,hq1,hq2,w1,w2,w3,w4,ho,Ret]
  exact Keeps.refl
 ·have la:=Znq ha.1
  have la2:=Zk4 ha.2
  have lb:=Znq hb.1
  have lb2:=Zk4 hb.2
  have z1:=Zkd ha.1
  have z2:=Zkd hb.1
  have z3:=Zkd ha.2
  have z4:=Zkd hb.2
  rcases key with rfl|⟨rfl,rfl⟩
  all_goals simp[A.b150,hq1,hq2]
  all_goals
   refine Zaf (Zjz (q:=a) (by omega) (by omega)) ?_
   rintro _ h1 t1 k1 ⟨x1,y1,rfl,X1,Y1⟩
   obtain⟨u1,rfl,p1,p2,F1⟩:=X1.ones
   obtain⟨v1,rfl,p3,p4,G1⟩:=Y1.ones
   unfold V.one at p1 p3
   unfold V.cells at p2 p4
   have KA:=((((Keeps.refl (h:=h1) (n:=t1)).new (.cells [.bool false,.nilslice] 182 true)).new (.cells [.bool false,.nilslice] 182 true)).set (i:=t1) (o:=.cells [.bool (decide (a.num<0)),u1] 182 true) (Ytf _)).set (i:=t1+1) (o:=.cells [.bool (decide ((a.den:Int)<0)),v1] 182 true) (by omega)
   have c0:¬t1+1=t1:=by omega
   have c00:¬t1=t1+1:=by omega
   simp[p1,p2,p3,p4,Zal,splice,c0]
   generalize hHA:(((h1.set t1 (.cells [.bool false,.nilslice] 182 true)).set (t1+1) (.cells [.bool false,.nilslice] 182 true)).set t1 (.cells [.bool (decide (a.num<0)),u1] 182 true)).set (t1+1) (.cells [.bool (decide ((a.den:Int)<0)),v1] 182 true)=HA at*
   have gA1:HA.get t1=some (.cells [.bool (decide (a.num<0)),u1] 182 true):=by rw[←hHA];simp[c0,c00]
   have gA2:HA.get (t1+1)=some (.cells [.bool (decide ((a.den:Int)<0)),v1] 182 true):=by rw[←hHA];simp
   have X1:=X1.keep KA
   have Y1:=Y1.keep KA
   clear hHA
   refine Zaf (Zjz (q:=b) (by omega) (by omega)) ?_
   rintro _ h2 t2 k2 ⟨x2,y2,rfl,X2,Y2⟩
   obtain⟨u2,rfl,p5,p6,F2⟩:=X2.ones
   obtain⟨v2,rfl,p7,p8,G2⟩:=Y2.ones
   unfold V.one at p5 p7
   unfold V.cells at p6 p8
   have KB:=((((Keeps.refl (h:=h2) (n:=t2)).new (.cells [.bool false,.nilslice] 182 true)).new (.cells [.bool false,.nilslice] 182 true)).set (i:=t2) (o:=.cells [.bool (decide (b.num<0)),u2] 182 true) (Ytf _)).set (i:=t2+1) (o:=.cells [.bool (decide ((b.den:Int)<0)),v2] 182 true) (by omega)
   have c1:¬t2+1=t2:=by omega
   have c11:¬t2=t2+1:=by omega
   have i2:=k2.le
   generalize hHB:(((h2.set t2 (.cells [.bool false,.nilslice] 182 true)).set (t2+1) (.cells [.bool false,.nilslice] 182 true)).set t2 (.cells [.bool (decide (b.num<0)),u2] 182 true)).set (t2+1) (.cells [.bool (decide ((b.den:Int)<0)),v2] 182 true)=HB at*
   have gB1:HB.get t2=some (.cells [.bool (decide (b.num<0)),u2] 182 true):=by rw[←hHB];simp[c1,c11]
   have gB2:HB.get (t2+1)=some (.cells [.bool (decide ((b.den:Int)<0)),v2] 182 true):=by rw[←hHB];simp
   have gB3:=(KB.get t1 (by omega)).trans ((k2.get t1 (by omega)).trans gA1)
   have gB4:=(KB.get (t1+1) (by omega)).trans ((k2.get (t1+1) (by omega)).trans gA2)
   have X1:=(X1.keep k2).keep KB
   have Y1:=(Y1.keep k2).keep KB
   have X2:=X2.keep KB
   have Y2:=Y2.keep KB
   have K2:Keeps h N HB (t2+1+1):=((k1.trans KA).trans k2).trans KB
   have j1:t1<t2+1+1:=by omega
   have j2:t1+1<t2+1+1:=by omega
   have j3:t2<t2+1+1:=by omega
   simp[p5,p6,p7,p8,Zal,splice,c1,hHB,gB1,gB2,gB3,gB4,Zam,slc]
   refine Zaf (Zjn X1 Y2 (by omega) (by rw[Ytk];omega)) ?_
   rintro _ h3 t3 k3 X3
   have i3:=k3.le
   have gC1:=(k3.get t2 (by omega)).trans gB1
   have gC2:=(k3.get (t2+1) (by omega)).trans gB2
   have gC4:=(k3.get (t1+1) (by omega)).trans gB4
   simp[gC1,gC4,Zam,slc]
   refine Zaf (Zjn (X2.keep k3) (Y1.keep k3) (by omega) (by rw[Ytk];omega)) ?_
   rintro _ h4 t4 k4 X4
   have i4:=k4.le
   have b1:=Zds (b:=(b.den:Int)) (k:=k) ha.1 (by rw[Ytk];exact hb.2)
   have b2:=Zds (b:=(a.den:Int)) (k:=j) hb.1 (by rw[Ytk];exact ha.2)
   rw[Nat.add_comm k j]at b2
   have m1:=Zkd b1
   have m2:=Zkd b2
   have m3:=Zkd (Zp4 b1 b2)
   have m4:=Zkd (Zds (a:=(a.den:Int)) (b:=(b.den:Int)) (j:=j) (k:=k) (by rw[Ytk];exact ha.2) (by rw[Ytk];exact hb.2))
   simp[]
   refine Zaf (Ykz (X3.keep k4) X4 (by omega) (by omega)) ?_
   rintro _ h5 t5 k5 X5
   have i5:=k5.le
   have gD2:=(k5.get (t2+1) (by omega)).trans ((k4.get (t2+1) (by omega)).trans gC2)
   have gD4:=(k5.get (t1+1) (by omega)).trans ((k4.get (t1+1) (by omega)).trans gC4)
   simp[gD2,gD4,Zam,slc]
   refine Zaf (Zjn (((Y1.keep k3).keep k4).keep k5) (((Y2.keep k3).keep k4).keep k5) (by rw[Ytk];omega) (by rw[Ytk];omega)) ?_
   rintro _ h6 t6 k6 X6
   simp[]
   refine Zaf (Zng (X5.keep k6) X6 (Yw4 (by omega) (by omega)) (by omega) (by omega)) ?_
   rintro _ h7 t7 k7 rfl
   have j4:t2+1<t3:=by omega
   have j5:t1+1<t3:=by omega
   have j6:t2<t3:=by omega
   have j7:t2+1<t5:=by omega
   have j8:t1+1<t5:=by omega
   rw[←Zph]
   have i1:=k1.le
   simp[-Zaa,Zan.chk,j1,j2,j3,j4,j5,j6,j7,j8,Ret]
   exact⟨Zgh (by simp;omega),((((K2.trans k3).trans k4).trans k5).trans k6).trans k7⟩
noncomputable def A.b208:=A.q Tryz.f208
def A.k208:=@A.kk 208 13 [.tmp 2] A.b208 (by kernel_rfl) rfl
noncomputable def A.b281:=A.q Tryz.f281
def A.k281:=@A.kk 281 14 [.tmp 2] A.b281 (by kernel_rfl) rfl
noncomputable def A.b87:=A.q Tryz.f87
def A.k87:=@A.kk 87 14 [.tmp 2] A.b87 (by kernel_rfl) rfl
noncomputable def A.b153:=A.q Tryz.f153
def A.k153:=@A.kk 153 7 [.tmp 2] A.b153 (by kernel_rfl) rfl
noncomputable def A.b154:=A.q Tryz.f154
def A.k154:=@A.kk 154 14 [.tmp 2] A.b154 (by kernel_rfl) rfl
noncomputable def A.b152:=A.q Tryz.f152
def A.k152:=@A.kk 152 9 [.tmp 2] A.b152 (by kernel_rfl) rfl
def Ynp:Za0 0=[48]:=by decide+kernel
def Yj6{q:Rat}:Za0 q=[48]↔q=0:=⟨fun h=>Ye8 (h.trans Ynp.symm),fun h=>by rw[h,Ynp]⟩
def Ypu{q:Rat}:q.num=0↔q=0:=Rat.num_eq_zero
def Yj5(q:Rat):0<(Za0 q).length:=by
 obtain⟨c,t,h,_⟩:=Zvl q
 rw[Zid,h]
 split<;>simp
def Ye7(q:Rat):∃c,(Za0 q)[0]?=some c∧(Za0 q).head?=some c∧(u8I c=45↔q.num<0):=by
 obtain⟨c,t,h,h1⟩:=Zvl q
 by_cases hz:q.num<0
 ·refine⟨45,?_,?_,?_⟩
  ·rw[Zid,Ytg hz];rfl
  ·rw[Zid,Ytg hz];rfl
  ·exact⟨fun _=>hz,fun _=>rfl⟩
 ·refine⟨c,?_,?_,?_⟩
  ·rw[Zid,Yte hz,h];rfl
  ·rw[Zid,Yte hz,h];rfl
  ·exact⟨fun h2=>by unfold u8I at h2;omega,fun h2=>absurd h2 hz⟩
def Zpr{q:Rat}{st:St}:A.C.call (.func 208 [] []) [.str (Za0 q)] st=some (.int .i64 (sg3 q.num),st):=by
 have e:(Za0 q==[48])=decide (q=0):=by rw[Bool.eq_iff_iff,beq_iff_eq,decide_eq_true_eq];exact Yj6
 obtain⟨c,h1,h2,h3⟩:=Ye7 q
 have hp:=Yj5 q
 have hp':(0:Int)<((Za0 q).length:Int):=by omega
 have hne:Za0 q≠[]:=fun hc=>by rw[hc]at hp;simp at hp
 apply Call.eq
 rw[Zad,A.k208 (by simp)]
 by_cases h0:q=0
 ·have hn:q.num=0:=Ypu.2 h0
  have hs:sg3 q.num=0:=by rw[hn];rfl
  have e0:(Za0 q==[48])=true:=by rw[e];simp[h0]
  rw[hs]
  simp(disch:=first|(simp;done)|omega|rfl) [-getElem?_pos,A.b208,Zae,Zbh,e0]
 ·have hn:q.num≠0:=fun hc=>h0 (Ypu.1 hc)
  by_cases hz:q.num<0
  ·have hs:sg3 q.num= -1:=by unfold sg3;rw[Ytg hz]
   have hc:=h3.2 hz
   rw[hs]
   simp(disch:=first|(simp;done)|omega|rfl) [-getElem?_pos,A.b208,Zae,Zbh,e,h0,hp,hp',hne,h1,h2,hc]
  ·have hs:sg3 q.num=1:=by unfold sg3;rw[Yte hz,Yte hn]
   have hc:¬u8I c=45:=fun hc=>hz (h3.1 hc)
   rw[hs]
   simp(disch:=first|(simp;done)|omega|rfl) [-getElem?_pos,A.b208,Zae,Zbh,e,h0,hp,hp',hne,h1,h2,hc]
def Ypk(q:Rat):QB (-q)=QB q:=by
 unfold QB
 rw[Rat.neg_den,Rat.neg_num,Ywa]
def Yla{q:Rat}{st:St}(hl:(Za0 q).length<1000000000):A.C.call (.func 281 [] []) [.str (Za0 q)] st=some (.str (Za0 (-q)),st):=by
 have hs:=fun st=>Zpr (q:=q) (st:=st)
 have hmx:IntKind.max .i64=9223372036854775807:=rfl
 apply Call.eq
 rw[Zad,A.k281 (by simp)]
 have hn2:=Zid (-q)
 rw[Ypk,Rat.neg_num]at hn2
 by_cases hz:q.num<0
 ·have e1:Za0 q=45::QB q:=by rw[Zid,Ytg hz]
  have e2:Za0 (-q)=QB q:=by rw[hn2,Yte (by omega)]
  have e3:sg3 q.num= -1:=by unfold sg3;rw[Ytg hz]
  rw[e1,e3]at hs
  have a3:∀st:St,Zcl st (some (.str (45::QB q))) (some (some (.int .i64 1))) (some none)=some (.str (QB q),st):=fun st=>by rw[Zd1 (by omega) (by simp only[Ytd];omega)];rfl
  rw[e1,e2]
  simp[A.b281,hs,evOpt,a3]
 ·by_cases h0:q=0
  ·have e3:sg3 q.num=0:=by rw[Ypu.2 h0];rfl
   rw[e3]at hs
   have e4: -q=q:=by rw[h0];rfl
   rw[e4]
   simp[A.b281,hs,Zae]
  ·have hn:q.num≠0:=fun hc=>h0 (Ypu.1 hc)
   have e1:Za0 q=QB q:=by rw[Zid,Yte hz]
   have e2:Za0 (-q)=45::QB q:=by rw[hn2,Ytg (by omega)]
   have e3:sg3 q.num=1:=by unfold sg3;rw[Yte hz,Yte hn]
   rw[e3]at hs
   rw[e1]at hs hl
   have hb:¬(9223372036854775807:Int)<1+((QB q).length:Int):=by omega
   rw[e2,e1]
   simp[A.b281,hs,Zae,Zbh,hmx,hb]
def Yk7{q:Rat}{st:St}(hl:(Za0 q).length<1000000000):A.C.call (.func 153 [] []) [.str (Za0 q)] st=some (.str (decI q.num),st):=by
 have hsl:=fun st=>Zfh (s:=Za0 q) (st:=st) (by omega)
 have h2:slashAt (Za0 q)≤(Za0 q).length:=by
  rw[Zd2]
  unfold Za0
  split
  ·exact Ytf _
  ·rw[Yt1];omega
 have a4:∀st:St,Zcl st (some (.str (Za0 q))) (some none) (some (some (.int .i64 (slashAt (Za0 q):Nat))))=some (.str (decI q.num),st):=fun st=>by rw[Zkv (by omega) (by omega),Int.toNat_natCast,Zji]
 apply Call.eq
 rw[Zad,A.k153 (by simp)]
 simp[A.b153,hsl,evOpt,a4]
def Ymk{q:Rat}{st:St}(hl:(Za0 q).length<1000000000):A.C.call (.func 154 [] []) [.str (Za0 q)] st=some (.str (decN q.den),st):=by
 have hsl:=fun st=>Zfh (s:=Za0 q) (st:=st) (by omega)
 have hlt:=Zjj q
 have h2:slashAt (Za0 q)≤(Za0 q).length:=by
  rw[Zd2]
  unfold Za0
  split
  ·exact Ytf _
  ·rw[Yt1];omega
 apply Call.eq
 rw[Zad,A.k154 (by simp)]
 by_cases hd:q.den=1
 ·have c1:(slashAt (Za0 q):Int)=((Za0 q).length:Int):=by omega
  rw[hd,Yd0]
  simp[A.b154,hsl,Zae,c1]
 ·have hl2:=hlt.2 hd
  have c1:¬(slashAt (Za0 q):Int)=((Za0 q).length:Int):=by omega
  have c2:¬slashAt (Za0 q)=(Za0 q).length:=by omega
  have w1:Zap .i64 ((slashAt (Za0 q):Int)+1)=(slashAt (Za0 q):Int)+1:=Zaj (by omega) (by omega)
  have hdr:=Zjk q hd
  have a4:∀st:St,Zcl st (some (.str (Za0 q))) (some (some (.int .i64 ((slashAt (Za0 q):Int)+1)))) (some none)=some (.str (decN q.den),st):=fun st=>by
   rw[Zd1 (by omega) (by omega)]
   have:((slashAt (Za0 q):Int)+1).toNat=slashAt (Za0 q)+1:=by omega
   rw[this,hdr]
  simp[A.b154,hsl,Zae,c1,c2,w1,evOpt,a4]
def Yj7(z:Int):Za0 (z:Rat)=decI z:=by
 unfold Za0
 rw[Ytg (by simp)];simp
def Ym2{z:Int}{st:St}(hl:(decI z).length<1000000000):A.C.call (.func 152 [] []) [.str (decI z)] st=some (.str (decN z.natAbs),st):=by
 have hs:=fun st=>Zpr (q:=(z:Rat)) (st:=st)
 rw[Yj7]at hs
 have hn:((z:Rat)).num=z:=by simp
 rw[hn]at hs
 apply Call.eq
 rw[Zad,A.k152 (by simp)]
 by_cases hz:z<0
 ·have e1:decI z=45::decN z.natAbs:=by unfold decI;rw[Ytg hz]
  have e3:sg3 z= -1:=by unfold sg3;rw[Ytg hz]
  rw[e1,e3]at hs
  have a3:∀st:St,Zcl st (some (.str (45::decN z.natAbs))) (some (some (.int .i64 1))) (some none)=some (.str (decN z.natAbs),st):=fun st=>by rw[Zd1 (by omega) (by simp only[Ytd];omega)];rfl
  rw[e1]
  simp[A.b152,hs,evOpt,a3]
 ·have e1:decI z=decN z.natAbs:=by unfold decI;rw[Yte hz]
  have e3:¬sg3 z<0:=by unfold sg3;rw[Yte hz];split<;>omega
  rw[e1]at hs
  rw[e1]
  simp[A.b152,hs,e3]
def Yc2{q:Rat}{st:St}(hl:(Za0 q).length<1000000000):A.C.call (.func 87 [] []) [.str (Za0 q)] st=some (.int .i64 (if Zz2 q=true then 4 else 0),st):=by
 have h1:=fun st=>Yk7 (q:=q) (st:=st) hl
 have h2:=fun st=>Ymk (q:=q) (st:=st) hl
 have hdl:(decI q.num).length<1000000000:=by
  have:(decI q.num).length≤(Za0 q).length:=by
   unfold Za0
   split
   ·exact Ytf _
   ·rw[Yt1];omega
  omega
 have h3:=fun st=>Ym2 (z:=q.num) (st:=st) hdl
 apply Call.eq
 rw[Zad,A.k87 (by simp)]
 unfold Zz2
 by_cases c1:600<(decN q.num.natAbs).length
 ·have c1':(600:Int)<((decN q.num.natAbs).length:Int):=by omega
  simp[A.b87,h1,h3,c1,c1']
 ·have c1':¬(600:Int)<((decN q.num.natAbs).length:Int):=by omega
  by_cases c2:600<(decN q.den).length
  ·have c2':(600:Int)<((decN q.den).length:Int):=by omega
   simp[A.b87,h1,h2,h3,c1,c1',c2,c2']
  ·have c2':¬(600:Int)<((decN q.den).length:Int):=by omega
   simp[A.b87,h1,h2,h3,c1,c1',c2,c2']
variable {N j k:Nat} {a b:Rat} {h:T O}
noncomputable def A.b251:=A.q Tryz.f251
def A.k251:=@A.kk 251 9 [.tmp 4] A.b251 (by kernel_rfl) rfl
noncomputable def A.b207:=A.q Tryz.f207
def A.k207:=@A.kk 207 9 [.tmp 4] A.b207 (by kernel_rfl) rfl
noncomputable def A.b151:=A.q Tryz.f151
def A.k151:=@A.kk 151 11 [.tmp 4] A.b151 (by kernel_rfl) rfl
def Yfz(ha:Qb j a)(hb:Qb k b)(hj:j≤400000000)(hk:k≤400000000)(hl:(Za0 b).length<1000000000):Fn A.C 251 [.str (Za0 a),.str (Za0 b)] h N (fun u _ _=>u=.str (Za0 (a-b))):=by
 intro w
 have hn:=fun st=>Yla (q:=b) (st:=st) hl
 rw[Zad,A.k251 (by simp)]
 simp(disch:=first|(simp;done)|omega|rfl) [-getElem?_pos,A.b251,hn]
 refine Zaf (Zvj (a:=a) (b:= -b) ha hb.neg hj hk) ?_
 rintro _ H1 n1 k1 rfl
 rw[←Rat.sub_eq_add_neg]
 simp(disch:=first|(simp;done)|omega|rfl) [-getElem?_pos,Ret]
 exact k1
def Yf4(ha:Qb j a)(hb:Qb k b)(hj:j≤400000000)(hk:k≤400000000)(hl:(Za0 b).length<1000000000):Fn A.C 207 [.str (Za0 a),.str (Za0 b)] h N (fun u _ _=>u=.int .i64 (sg3 (a-b).num)):=by
 intro w
 rw[Zad,A.k207 (by simp)]
 simp(disch:=first|(simp;done)|omega|rfl) [-getElem?_pos,A.b207]
 refine Zaf (Yfz ha hb hj hk hl) ?_
 rintro _ H1 n1 k1 rfl
 have hs:=fun st=>Zpr (q:=a-b) (st:=st)
 simp(disch:=first|(simp;done)|omega|rfl) [-getElem?_pos,hs,Ret]
 exact k1
def Zvz:(0≤sg3 (a-b).num)=¬a<b:=by
 apply propext
 have h1:(0≤sg3 (a-b).num)↔0≤(a-b).num:=by unfold sg3;split<;>(try split)<;>omega
 rw[h1,Rat.num_nonneg,←Rat.le_iff_sub_nonneg,Rat.not_lt]
def Yf2(ha:Qb j a)(hb:Qb k b)(hj:j≤400000000)(hk:k≤400000000)(hl:(Za0 b).length<1000000000):Fn A.C 151 [.str (Za0 a),.str (Za0 b)] h N (fun u _ _=>u=.str (Za0 (mx2 a b))):=by
 intro w
 rw[Zad,A.k151 (by simp)]
 simp(disch:=first|(simp;done)|omega|rfl) [-getElem?_pos,A.b151]
 refine Zaf (Yf4 ha hb hj hk hl) ?_
 rintro _ H1 n1 k1 rfl
 by_cases hc:a<b
 ·have h1:¬0≤sg3 (a-b).num:=by rw[Zvz];simpa using hc
  simp(disch:=first|(simp;done)|omega|rfl) [-getElem?_pos,h1,Ret,mx2,hc]
  exact k1
 ·have h1:0≤sg3 (a-b).num:=by rw[Zvz];exact hc
  simp(disch:=first|(simp;done)|omega|rfl) [-getElem?_pos,h1,Ret,mx2,hc]
  exact k1
noncomputable def A.w77:=A.q Tryz.f77
noncomputable def A.lb77_0:=A.ql A.w77 0 []
noncomputable def A.b77:=(fun x0=>A.qb A.w77 [x0]) A.lb77_0
def A.k77:=@A.kk 77 56 [.tmp 2] A.b77 (by kernel_rfl) rfl
def Zcs{s:Str}{st:St}:A.C.call (.func 77 [] []) [.str s] st=some (.bool (Zgy s),st):=by
 apply Call.eq
 rw[Zad,A.k77 (by simp)]
 unfold Zgy
 by_cases h1:s.length<1
 ·have:s=[]:=Ytt (by omega)
  subst this
  simp[A.b77]
 ·have hne:s≠[]:=fun h=>by rw[h]at h1;simp at h1
  have h1':¬((s.length:Int)<1):=by omega
  by_cases h2:s.length≤24
  ·have h2':¬(24<(s.length:Int)):=by omega
   simp[A.b77,h1',h2',hne,h2]
   refine Zah [(2,5),(14,55)] (fun e r s1=>s1=⟨st.h,st.n,[]⟩∧((e=.exit 0∧Ziv 0 s=true)∨(e=.ret∧Ziv 0 s=false∧r.get 2=some (.bool false)))) (fun m r s1=>s1=⟨st.h,st.n,[]⟩∧∃k,m=s.length-k∧k≤s.length∧r.get 3=some (.int .i64 k)∧Ziv 0 s=Ziv k (s.drop k)) s.length ?_ ?_ ?_
   ·exact⟨rfl,0,by omega,by omega,by simp,by simp⟩
   ·rintro m r _ hr hf ⟨rfl,k,rfl,hk,h3,hz⟩
    rw[Zai]
    by_cases hlt:k<s.length
    ·obtain⟨c,hc⟩:=Zag hlt
     rw[Zao hc,Ziv]at hz
     simp only[Ylc,Yi8,Zsl,Ynn]at hz
     have hk1:(k:Int)<(s.length:Int):=by omega
     by_cases hk0:k=0
     ·have e0:=eq_true hk0
      obtain hx|hx|hx|hx|hx:u8I c<65∨(65≤u8I c∧u8I c≤90)∨(90<u8I c∧u8I c<97)∨(97≤u8I c∧u8I c≤122)∨122<u8I c:=by omega
      all_goals
       first|(have a0:97≤u8I c:=by omega)|(have a0:¬(97≤u8I c):=by omega)
       first|(have a1:u8I c≤122:=by omega)|(have a1:¬(u8I c≤122):=by omega)
       first|(have a2:65≤u8I c:=by omega)|(have a2:¬(65≤u8I c):=by omega)
       first|(have a3:u8I c≤90:=by omega)|(have a3:¬(u8I c≤90):=by omega)
       simp(disch:=first|(simp;done)|omega|rfl) [-getElem?_pos,A.lb77_0,hr,h3,hf,hc,hk1,e0,Zae,a0,a1,a2,a3]
       simp[Zwn,a0,a1,a2,a3,e0]at hz
       first|exact hz|exact⟨_,by omega,k+1,rfl,by omega,rfl,hz⟩
     ·obtain hx|hx|hx|hx|hx|hx|hx|hx|hx:u8I c<48∨(48≤u8I c∧u8I c≤57)∨(57<u8I c∧u8I c<65)∨(65≤u8I c∧u8I c≤90)∨(90<u8I c∧u8I c<95)∨u8I c=95∨u8I c=96∨(97≤u8I c∧u8I c≤122)∨122<u8I c:=by omega
      all_goals
       first|(have a0:97≤u8I c:=by omega)|(have a0:¬(97≤u8I c):=by omega)
       first|(have a1:u8I c≤122:=by omega)|(have a1:¬(u8I c≤122):=by omega)
       first|(have a2:65≤u8I c:=by omega)|(have a2:¬(65≤u8I c):=by omega)
       first|(have a3:u8I c≤90:=by omega)|(have a3:¬(u8I c≤90):=by omega)
       first|(have a4:48≤u8I c:=by omega)|(have a4:¬(48≤u8I c):=by omega)
       first|(have a5:u8I c≤57:=by omega)|(have a5:¬(u8I c≤57):=by omega)
       first|(have a6:u8I c=95:=by omega)|(have a6:¬(u8I c=95):=by omega)
       simp(disch:=first|(simp;done)|omega|rfl) [-getElem?_pos,A.lb77_0,hr,h3,hf,hc,hk1,hk0,Zae,a0,a1,a2,a3,a4,a5,a6]
       simp[Zwn,a0,a1,a2,a3,a4,a5,a6,hk0]at hz
       first|exact hz|exact⟨_,by omega,k+1,rfl,by omega,rfl,hz⟩
    ·have:s.drop k=[]:=Yut (by omega)
     rw[this,Ziv]at hz
     have:k=s.length:=by omega
     subst this
     simp(disch:=first|(simp;done)|omega|rfl) [-getElem?_pos,A.lb77_0,hr,h3,hf,hz]
   ·rintro e r _ hr ⟨rfl,⟨rfl,hz⟩|⟨rfl,hz,h2⟩⟩
    ·simp[hz]
    ·simp[hz,h2]
  ·have h2':24<(s.length:Int):=by omega
   simp[A.b77,h1',h2',h2]
noncomputable def A.w78:=A.q Tryz.f78
noncomputable def A.lb78_0:=A.ql A.w78 0 []
noncomputable def A.b78:=(fun x0=>A.qb A.w78 [x0]) A.lb78_0
def A.k78:=@A.kk 78 20 [.tmp 4] A.b78 (by kernel_rfl) rfl
noncomputable def A.b79:=A.q Tryz.f79
def A.k79:=@A.kk 79 22 [.tmp 4,.tmp 5] A.b79 (by kernel_rfl) rfl
noncomputable def A.b46:=A.q Tryz.f46
def A.k46:=@A.kk 46 15 [.tmp 6] A.b46 (by kernel_rfl) rfl
def Zqp{h:T O}{N:Nat}{v:V}{g:List Stg}{n:Str}{w:List Nat}(hg:Gr h N v g)(hl:g.length<1000000):A.C.call (.func 78 [] []) [v,.str n] ⟨h,N,w⟩=some (.int .i64 (Zh8 g n),⟨h,N,w⟩):=by
 apply Call.eq
 have lg:=hg.len
 rw[Zad,A.k78 (by simp)]
 simp(disch:=first|(simp;done)|omega|rfl) [-getElem?_pos,A.b78]
 refine Zah [(4,19)] (fun e r st=>st=⟨h,N,[]⟩∧((e=.exit 0∧¬pos g n<g.length)∨(e=.ret∧pos g n<g.length∧r.get 4=some (.int .i64 (pos g n:Nat))))) (fun m r st=>st=⟨h,N,[]⟩∧∃k,k+m=g.length∧r.get 5=some (.int .i64 k)∧pos g n=k+pos (g.drop k) n) g.length ?_ ?_ ?_
 ·exact⟨rfl,0,by omega,by simp,by simp⟩
 ·rintro m r _ hr hf ⟨rfl,k,hk,h5,hp⟩
  rw[Zai]
  cases m with
  |zero=>
   have:k=g.length:=by omega
   subst this
   rw[Yug,pos]at hp
   simp(disch:=first|(simp;done)|omega|rfl) [-getElem?_pos,A.lb78_0,hr,hf,h5,lg]
   omega
  |succ m=>
   have hlt:k<g.length:=by omega
   obtain⟨s,hs⟩:=Zag hlt
   obtain⟨i,o,cc,e,rw,inp,q1,q2,q3,q4,q5⟩:=hg.at hs
   obtain⟨p0,p1,p2,p3,p4,p5⟩:=Zjp q4
   have hk1:(k:Int)<(g.length:Int):=by omega
   rw[Zao hs,pos]at hp
   have e1:(s.name==n)=decide (s.name=n):=by rw[Bool.eq_iff_iff];simp
   by_cases hn:s.name=n
   ·rw[Ytg hn]at hp
    simp(disch:=first|(simp;done)|omega|rfl) [-getElem?_pos,A.lb78_0,hr,hf,h5,hk1,hlt,lg,q1,q3,p1,e1,Zae,hn]
    exact⟨by omega,by rw[hp];simp⟩
   ·rw[Yte hn]at hp
    simp(disch:=first|(simp;done)|omega|rfl) [-getElem?_pos,A.lb78_0,hr,hf,h5,hk1,hlt,lg,q1,q3,p1,e1,Zae,hn]
    exact⟨m,by omega,k+1,by omega,by simp,by omega⟩
 ·rintro e r _ hr ⟨rfl,⟨rfl,hp⟩|⟨rfl,hp,h4⟩⟩
  ·simp(disch:=first|(simp;done)|omega|rfl) [-getElem?_pos,hr,Zh8,hp]
  ·simp(disch:=first|(simp;done)|omega|rfl) [-getElem?_pos,hr,Zh8,hp,h4]
def Zd3{x lo hi:Int}{st:St}:A.C.call (.func 46 [] []) [.int .i64 x,.int .i64 lo,.int .i64 hi] st=some (.int .i64 (if x<lo∨hi<x then 3 else 0),st):=by
 apply Call.eq
 rw[Zad,A.k46 (by simp)]
 by_cases h1:x<lo
 ·simp[A.b46,h1]
 ·by_cases h2:hi<x<;>simp[A.b46,h1,h2]
def Yaw(s:Str)(n:Nat):∃b,(∀st,A.C.call (.func 79 [] []) [.str s,.int .i64 n] st=some (.tup [.bool (opOf s).isSome,.bool b],st))∧(n≤16→∀o,opOf s=some o→b=decide (o.lo≤n∧n≤o.hi)):=by
 by_cases h0:s=[102,114,97,109,101]
 ·subst h0
  refine⟨decide (n=0),fun st=>?_,?_⟩
  ·apply Call.eq
   rw[Zad,A.k79 (by simp)]
   simp[A.b79,opOf,Zae]
   try omega
  ·intro hn o ho
   simp[opOf]at ho
   subst ho
   rw[decide_eq_decide]
   show _↔(0≤n∧n≤0)
   omega
 by_cases h1:s=[97,100,100]
 ·subst h1
  refine⟨decide (0<n),fun st=>?_,?_⟩
  ·apply Call.eq
   rw[Zad,A.k79 (by simp)]
   simp[A.b79,opOf,Zae]
   try omega
  ·intro hn o ho
   simp[opOf]at ho
   subst ho
   rw[decide_eq_decide]
   show _↔(1≤n∧n≤16)
   omega
 by_cases h2:s=[109,97,120]
 ·subst h2
  refine⟨decide (0<n),fun st=>?_,?_⟩
  ·apply Call.eq
   rw[Zad,A.k79 (by simp)]
   simp[A.b79,opOf,Zae]
   try omega
  ·intro hn o ho
   simp[opOf]at ho
   subst ho
   rw[decide_eq_decide]
   show _↔(1≤n∧n≤16)
   omega
 by_cases h3:s=[115,99,97,108,101]
 ·subst h3
  refine⟨decide (n=1),fun st=>?_,?_⟩
  ·apply Call.eq
   rw[Zad,A.k79 (by simp)]
   simp[A.b79,opOf,Zae]
   try omega
  ·intro hn o ho
   simp[opOf]at ho
   subst ho
   rw[decide_eq_decide]
   show _↔(1≤n∧n≤1)
   omega
 by_cases h4:s=[100,101,108,97,121]
 ·subst h4
  refine⟨decide (n=1),fun st=>?_,?_⟩
  ·apply Call.eq
   rw[Zad,A.k79 (by simp)]
   simp[A.b79,opOf,Zae]
   try omega
  ·intro hn o ho
   simp[opOf]at ho
   subst ho
   rw[decide_eq_decide]
   show _↔(1≤n∧n≤1)
   omega
 by_cases h5:s=[115,117,109]
 ·subst h5
  refine⟨decide (n=1),fun st=>?_,?_⟩
  ·apply Call.eq
   rw[Zad,A.k79 (by simp)]
   simp[A.b79,opOf,Zae]
   try omega
  ·intro hn o ho
   simp[opOf]at ho
   subst ho
   rw[decide_eq_decide]
   show _↔(1≤n∧n≤1)
   omega
 have e0:(s==[102,114,97,109,101])=false:=by simp[h0]
 have e1:(s==[97,100,100])=false:=by simp[h1]
 have e2:(s==[109,97,120])=false:=by simp[h2]
 have e3:(s==[115,99,97,108,101])=false:=by simp[h3]
 have e4:(s==[100,101,108,97,121])=false:=by simp[h4]
 have e5:(s==[115,117,109])=false:=by simp[h5]
 have ho:opOf s=none:=by simp[opOf,h0,h1,h2,h3,h4,h5]
 refine⟨false,fun st=>?_,fun _ o h=>by rw[ho]at h;cases h⟩
 apply Call.eq
 rw[Zad,A.k79 (by simp)]
 simp[A.b79,ho,Zae,e0,e1,e2,e3,e4,e5,h0,h1,h2,h3,h4,h5]
end Go.Mx
