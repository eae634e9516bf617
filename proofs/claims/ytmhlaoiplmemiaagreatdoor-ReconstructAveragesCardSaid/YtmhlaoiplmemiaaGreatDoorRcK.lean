/-lensletref01-/
import Derived.Test.YtmhlaoiplmemiaaGreatDoorRcG
set_option linter.all false
namespace Go.Mx
open Go Go.Proofs
variable {j:Nat}
set_option maxHeartbeats 2000000
set_option maxRecDepth 1000000
noncomputable def A.b18:=A.q Tryz.f18
def A.k18:=@A.kk 18 55 [.tmp 4] A.b18 (by kernel_rfl) rfl
def Zpe(a b:Rat):a*b=Rat.divInt (a.num*b.num) ((a.den:Int)*(b.den:Int)):=by
 rw[Rat.mul_def,Rat.normalize_eq_mkRat,←Rat.divInt_ofNat]
 simp
def Zpt(a b:Rat):a+b=Rat.divInt (a.num*(b.den:Int)+b.num*(a.den:Int)) ((a.den:Int)*(b.den:Int)):=by
 rw[Rat.add_def,Rat.normalize_eq_mkRat,←Rat.divInt_ofNat]
 simp
def Znt{a b:Nat}(h1:a<1000000000)(h2:b<1000000000):a*b≤1000000000000000000:=by
 have:=Ywb (Nat.le_of_lt h1) (Nat.le_of_lt h2)
 omega
def Zl7(q:Rat):∃(n d:Int) (o:Bool),(∀st,A.C.call (.func 65 [] []) [.str (Zas q)] st=some (.tup [.int .i64 n,.int .i64 d,.bool o],st))∧(o=true→n=q.num∧d=(q.den:Int)∧q.num.natAbs<1000000000∧q.den<1000000000):=by
 by_cases f:q.num.natAbs<1000000000∧q.den<1000000000
 ·exact⟨q.num,q.den,true,fun st=>by rw[Zv5,Yuu f],fun _=>⟨rfl,rfl,f⟩⟩
 ·exact⟨0,0,false,fun st=>by rw[Zv5,Yur f],fun h=>by cases h⟩
def Rg.ones{h:T O}{N:Nat}{v:V}{z:Int}(s:Rg h N v z):∃u,v=.agg [.bool (decide (z<0)),u]∧V.one u=true∧V.cells u=[u]∧SlF u:=by
 obtain⟨u,rfl,hu⟩:=s
 exact⟨u,rfl,(Sl.form hu).one,(Sl.form hu).cells,Sl.form hu⟩
def Zdp{a b:Int}{k:Nat}(h1:a.natAbs<2^j)(h2:b.natAbs<2^k):(a*b).natAbs<2^(j+k):=by
 rw[Yv6,Yv2]
 exact Yxm h1 h2
def Zqh{a b:Int}(h1:a.natAbs<2^j)(h2:b.natAbs<2^j):(a+b).natAbs<2^(j+1):=by
 have:=Int.natAbs_add_le a b
 rw[Yvm];omega
def Ycd{a b:Rat}{k:Nat}{h:T O}{N:Nat}(ha:Qb j a)(hb:Qb k b)(hj:j≤400000000)(hk:k≤400000000):Fn A.C 18 [.str (Zas a),.str (Zas b)] h N (fun u _ _=>u=.str (Zas (a*b))):=by
 intro w
 obtain⟨n1,d1,o1,hq1,f1⟩:=Zl7 a
 obtain⟨n2,d2,o2,hq2,f2⟩:=Zl7 b
 have pa:=Rat.den_pos a
 have pb:=Rat.den_pos b
 rw[Zaa,A.k18 (by simp)]
 have key:(o1=true∧o2=true)∨(o1=false∨(o1=true∧o2=false)):=by cases o1<;>cases o2<;>simp
 rcases key with⟨rfl,rfl⟩|key
 ·obtain⟨rfl,rfl,g1⟩:=f1 rfl
  obtain⟨rfl,rfl,g2⟩:=f2 rfl
  have m1:(a.num*b.num).natAbs≤1000000000000000000:=by rw[Yv6];exact Znt g1.1 g2.1
  have m2:a.den*b.den≤1000000000000000000:=Znt g1.2 g2.2
  have m3:0<a.den*b.den:=Yx4 pa pb
  have e2:(a.den:Int)*(b.den:Int)=((a.den*b.den:Nat):Int):=by simp
  have w1:Zao .i64 (a.num*b.num)=a.num*b.num:=Zai (by omega) (by omega)
  have w2:Zao .i64 ((a.den:Int)*(b.den:Int))=(a.den:Int)*(b.den:Int):=by rw[e2];exact Zai (by omega) (by omega)
  have ho:=fun st=>Ype (p:=a.num*b.num) (q:=(a.den:Int)*(b.den:Int)) (st:=st) (by omega) (by omega) (by omega) (by omega) (by omega)
  rw[←Zpe]at ho
  simp[A.b18,hq1,hq2,w1,w2,ho,Ret]
  exact Keeps.refl
 ·have la:=Zn1 ha.1
  have la2:=Zk8 ha.2
  have lb:=Zn1 hb.1
  have lb2:=Zk8 hb.2
  have z1:=Zi2 ha.1
  have z2:=Zi2 hb.1
  have z3:=Zi2 ha.2
  have z4:=Zi2 hb.2
  rcases key with rfl|⟨rfl,rfl⟩
  all_goals simp[A.b18,hq1,hq2]
  all_goals
   refine Zab (Zju (q:=a) (by omega) (by omega)) ?_
   rintro _ h1 t1 k1 ⟨x1,y1,rfl,X1,Y1⟩
   obtain⟨u1,rfl,p1,p2,F1⟩:=X1.ones
   obtain⟨v1,rfl,p3,p4,G1⟩:=Y1.ones
   unfold V.one at p1 p3
   unfold V.cells at p2 p4
   have KA:=((((Keeps.refl (h:=h1) (n:=t1)).new (.cells [.bool false,.nilslice] 72 true)).new (.cells [.bool false,.nilslice] 72 true)).set (i:=t1) (o:=.cells [.bool (decide (a.num<0)),u1] 72 true) (Yus _)).set (i:=t1+1) (o:=.cells [.bool (decide ((a.den:Int)<0)),v1] 72 true) (by omega)
   have c0:¬t1+1=t1:=by omega
   have c00:¬t1=t1+1:=by omega
   simp[p1,p2,p3,p4,Zak,splice,c0]
   generalize hHA:(((h1.set t1 (.cells [.bool false,.nilslice] 72 true)).set (t1+1) (.cells [.bool false,.nilslice] 72 true)).set t1 (.cells [.bool (decide (a.num<0)),u1] 72 true)).set (t1+1) (.cells [.bool (decide ((a.den:Int)<0)),v1] 72 true)=HA at*
   have gA1:HA.get t1=some (.cells [.bool (decide (a.num<0)),u1] 72 true):=by rw[←hHA];simp[c0,c00]
   have gA2:HA.get (t1+1)=some (.cells [.bool (decide ((a.den:Int)<0)),v1] 72 true):=by rw[←hHA];simp
   have X1:=X1.keep KA
   have Y1:=Y1.keep KA
   clear hHA
   refine Zab (Zju (q:=b) (by omega) (by omega)) ?_
   rintro _ h2 t2 k2 ⟨x2,y2,rfl,X2,Y2⟩
   obtain⟨u2,rfl,p5,p6,F2⟩:=X2.ones
   obtain⟨v2,rfl,p7,p8,G2⟩:=Y2.ones
   unfold V.one at p5 p7
   unfold V.cells at p6 p8
   have KB:=((((Keeps.refl (h:=h2) (n:=t2)).new (.cells [.bool false,.nilslice] 72 true)).new (.cells [.bool false,.nilslice] 72 true)).set (i:=t2) (o:=.cells [.bool (decide (b.num<0)),u2] 72 true) (Yus _)).set (i:=t2+1) (o:=.cells [.bool (decide ((b.den:Int)<0)),v2] 72 true) (by omega)
   have c1:¬t2+1=t2:=by omega
   have c11:¬t2=t2+1:=by omega
   have i2:=k2.le
   generalize hHB:(((h2.set t2 (.cells [.bool false,.nilslice] 72 true)).set (t2+1) (.cells [.bool false,.nilslice] 72 true)).set t2 (.cells [.bool (decide (b.num<0)),u2] 72 true)).set (t2+1) (.cells [.bool (decide ((b.den:Int)<0)),v2] 72 true)=HB at*
   have gB1:HB.get t2=some (.cells [.bool (decide (b.num<0)),u2] 72 true):=by rw[←hHB];simp[c1,c11]
   have gB2:HB.get (t2+1)=some (.cells [.bool (decide ((b.den:Int)<0)),v2] 72 true):=by rw[←hHB];simp
   have gB3:=(KB.get t1 (by omega)).trans ((k2.get t1 (by omega)).trans gA1)
   have gB4:=(KB.get (t1+1) (by omega)).trans ((k2.get (t1+1) (by omega)).trans gA2)
   have X1:=(X1.keep k2).keep KB
   have Y1:=(Y1.keep k2).keep KB
   have X2:=X2.keep KB
   have Y2:=Y2.keep KB
   have K2:Keeps h N HB (t2+1+1):=((k1.trans KA).trans k2).trans KB
   have j1:t1<t2+1+1:=by omega
   have j2:t1+1<t2+1+1:=by omega
   have j3:t2<t2+1+1:=by omega
   simp[p5,p6,p7,p8,Zak,splice,c1,hHB,gB1,gB2,gB3,gB4,Zaj,slc]
   refine Zab (Zjo X1 X2 (by omega) (by omega)) ?_
   rintro _ h3 t3 k3 X3
   have i3:=k3.le
   have gC2:=(k3.get (t2+1) (by omega)).trans gB2
   have gC4:=(k3.get (t1+1) (by omega)).trans gB4
   simp[gC2,gC4,Zaj,slc]
   refine Zab (Zjo (Y1.keep k3) (Y2.keep k3) (by rw[Yuw];omega) (by rw[Yuw];omega)) ?_
   rintro _ h4 t4 k4 X4
   have m1:=Zi2 (Zdp ha.1 hb.1)
   have m2:=Zi2 (Zdp (a:=(a.den:Int)) (b:=(b.den:Int)) (j:=j) (k:=k) (by rw[Yuw];exact ha.2) (by rw[Yuw];exact hb.2))
   simp[]
   refine Zab (Znq (X3.keep k4) X4 (Yx2 (by omega) (by omega)) (by omega) (by omega)) ?_
   rintro _ h5 t5 k5 rfl
   have j4:t2+1<t3:=by omega
   have j5:t1+1<t3:=by omega
   rw[←Zpe]
   have i1:=k1.le
   simp[-oldIds,Zam.chk,j1,j2,j3,j4,j5,Ret]
   exact⟨Znf (by simp;omega),((K2.trans k3).trans k4).trans k5⟩
set_option maxHeartbeats 2000000
noncomputable def A.b17:=A.q Tryz.f17
def A.k17:=@A.kk 17 63 [.tmp 4] A.b17 (by kernel_rfl) rfl
def Ye1{a b:Rat}{j k:Nat}{h:T O}{N:Nat}(ha:Qb j a)(hb:Qb k b)(hj:j≤400000000)(hk:k≤400000000):Fn A.C 17 [.str (Zas a),.str (Zas b)] h N (fun u _ _=>u=.str (Zas (a+b))):=by
 intro w
 obtain⟨n1,d1,o1,hq1,f1⟩:=Zl7 a
 obtain⟨n2,d2,o2,hq2,f2⟩:=Zl7 b
 have pa:=Rat.den_pos a
 have pb:=Rat.den_pos b
 rw[Zaa,A.k17 (by simp)]
 have key:(o1=true∧o2=true)∨(o1=false∨(o1=true∧o2=false)):=by cases o1<;>cases o2<;>simp
 rcases key with⟨rfl,rfl⟩|key
 ·obtain⟨rfl,rfl,g1⟩:=f1 rfl
  obtain⟨rfl,rfl,g2⟩:=f2 rfl
  have m1:(a.num*(b.den:Int)).natAbs≤1000000000000000000:=by rw[Yv6,Yuw];exact Znt g1.1 g2.2
  have m4:(b.num*(a.den:Int)).natAbs≤1000000000000000000:=by rw[Yv6,Yuw];exact Znt g2.1 g1.2
  have m2:a.den*b.den≤1000000000000000000:=Znt g1.2 g2.2
  have m3:0<a.den*b.den:=Yx4 pa pb
  have e2:(a.den:Int)*(b.den:Int)=((a.den*b.den:Nat):Int):=by simp
  have w1:Zao .i64 (a.num*(b.den:Int))=a.num*(b.den:Int):=Zai (by omega) (by omega)
  have w3:Zao .i64 (b.num*(a.den:Int))=b.num*(a.den:Int):=Zai (by omega) (by omega)
  have w2:Zao .i64 ((a.den:Int)*(b.den:Int))=(a.den:Int)*(b.den:Int):=by rw[e2];exact Zai (by omega) (by omega)
  have w4:Zao .i64 (a.num*(b.den:Int)+b.num*(a.den:Int))=a.num*(b.den:Int)+b.num*(a.den:Int):=Zai (by omega) (by omega)
  have ho:=fun st=>Ype (p:=a.num*(b.den:Int)+b.num*(a.den:Int)) (q:=(a.den:Int)*(b.den:Int)) (st:=st) (by omega) (by omega) (by omega) (by omega) (by omega)
  rw[←Zpt]at ho
  simp[A.b17,hq1,hq2,w1,w2,w3,w4,ho,Ret]
  exact Keeps.refl
 ·have la:=Zn1 ha.1
  have la2:=Zk8 ha.2
  have lb:=Zn1 hb.1
  have lb2:=Zk8 hb.2
  have z1:=Zi2 ha.1
  have z2:=Zi2 hb.1
  have z3:=Zi2 ha.2
  have z4:=Zi2 hb.2
  rcases key with rfl|⟨rfl,rfl⟩
  all_goals simp[A.b17,hq1,hq2]
  all_goals
   refine Zab (Zju (q:=a) (by omega) (by omega)) ?_
   rintro _ h1 t1 k1 ⟨x1,y1,rfl,X1,Y1⟩
   obtain⟨u1,rfl,p1,p2,F1⟩:=X1.ones
   obtain⟨v1,rfl,p3,p4,G1⟩:=Y1.ones
   unfold V.one at p1 p3
   unfold V.cells at p2 p4
   have KA:=((((Keeps.refl (h:=h1) (n:=t1)).new (.cells [.bool false,.nilslice] 72 true)).new (.cells [.bool false,.nilslice] 72 true)).set (i:=t1) (o:=.cells [.bool (decide (a.num<0)),u1] 72 true) (Yus _)).set (i:=t1+1) (o:=.cells [.bool (decide ((a.den:Int)<0)),v1] 72 true) (by omega)
   have c0:¬t1+1=t1:=by omega
   have c00:¬t1=t1+1:=by omega
   simp[p1,p2,p3,p4,Zak,splice,c0]
   generalize hHA:(((h1.set t1 (.cells [.bool false,.nilslice] 72 true)).set (t1+1) (.cells [.bool false,.nilslice] 72 true)).set t1 (.cells [.bool (decide (a.num<0)),u1] 72 true)).set (t1+1) (.cells [.bool (decide ((a.den:Int)<0)),v1] 72 true)=HA at*
   have gA1:HA.get t1=some (.cells [.bool (decide (a.num<0)),u1] 72 true):=by rw[←hHA];simp[c0,c00]
   have gA2:HA.get (t1+1)=some (.cells [.bool (decide ((a.den:Int)<0)),v1] 72 true):=by rw[←hHA];simp
   have X1:=X1.keep KA
   have Y1:=Y1.keep KA
   clear hHA
   refine Zab (Zju (q:=b) (by omega) (by omega)) ?_
   rintro _ h2 t2 k2 ⟨x2,y2,rfl,X2,Y2⟩
   obtain⟨u2,rfl,p5,p6,F2⟩:=X2.ones
   obtain⟨v2,rfl,p7,p8,G2⟩:=Y2.ones
   unfold V.one at p5 p7
   unfold V.cells at p6 p8
   have KB:=((((Keeps.refl (h:=h2) (n:=t2)).new (.cells [.bool false,.nilslice] 72 true)).new (.cells [.bool false,.nilslice] 72 true)).set (i:=t2) (o:=.cells [.bool (decide (b.num<0)),u2] 72 true) (Yus _)).set (i:=t2+1) (o:=.cells [.bool (decide ((b.den:Int)<0)),v2] 72 true) (by omega)
   have c1:¬t2+1=t2:=by omega
   have c11:¬t2=t2+1:=by omega
   have i2:=k2.le
   generalize hHB:(((h2.set t2 (.cells [.bool false,.nilslice] 72 true)).set (t2+1) (.cells [.bool false,.nilslice] 72 true)).set t2 (.cells [.bool (decide (b.num<0)),u2] 72 true)).set (t2+1) (.cells [.bool (decide ((b.den:Int)<0)),v2] 72 true)=HB at*
   have gB1:HB.get t2=some (.cells [.bool (decide (b.num<0)),u2] 72 true):=by rw[←hHB];simp[c1,c11]
   have gB2:HB.get (t2+1)=some (.cells [.bool (decide ((b.den:Int)<0)),v2] 72 true):=by rw[←hHB];simp
   have gB3:=(KB.get t1 (by omega)).trans ((k2.get t1 (by omega)).trans gA1)
   have gB4:=(KB.get (t1+1) (by omega)).trans ((k2.get (t1+1) (by omega)).trans gA2)
   have X1:=(X1.keep k2).keep KB
   have Y1:=(Y1.keep k2).keep KB
   have X2:=X2.keep KB
   have Y2:=Y2.keep KB
   have K2:Keeps h N HB (t2+1+1):=((k1.trans KA).trans k2).trans KB
   have j1:t1<t2+1+1:=by omega
   have j2:t1+1<t2+1+1:=by omega
   have j3:t2<t2+1+1:=by omega
   simp[p5,p6,p7,p8,Zak,splice,c1,hHB,gB1,gB2,gB3,gB4,Zaj,slc]
   refine Zab (Zjo X1 Y2 (by omega) (by rw[Yuw];omega)) ?_
   rintro _ h3 t3 k3 X3
   have i3:=k3.le
   have gC1:=(k3.get t2 (by omega)).trans gB1
   have gC2:=(k3.get (t2+1) (by omega)).trans gB2
   have gC4:=(k3.get (t1+1) (by omega)).trans gB4
   simp[gC1,gC4,Zaj,slc]
   refine Zab (Zjo (X2.keep k3) (Y1.keep k3) (by omega) (by rw[Yuw];omega)) ?_
   rintro _ h4 t4 k4 X4
   have i4:=k4.le
   have b1:=Zdp (b:=(b.den:Int)) (k:=k) ha.1 (by rw[Yuw];exact hb.2)
   have b2:=Zdp (b:=(a.den:Int)) (k:=j) hb.1 (by rw[Yuw];exact ha.2)
   rw[Nat.add_comm k j]at b2
   have m1:=Zi2 b1
   have m2:=Zi2 b2
   have m3:=Zi2 (Zqh b1 b2)
   have m4:=Zi2 (Zdp (a:=(a.den:Int)) (b:=(b.den:Int)) (j:=j) (k:=k) (by rw[Yuw];exact ha.2) (by rw[Yuw];exact hb.2))
   simp[]
   refine Zab (Ylj (X3.keep k4) X4 (by omega) (by omega)) ?_
   rintro _ h5 t5 k5 X5
   have i5:=k5.le
   have gD2:=(k5.get (t2+1) (by omega)).trans ((k4.get (t2+1) (by omega)).trans gC2)
   have gD4:=(k5.get (t1+1) (by omega)).trans ((k4.get (t1+1) (by omega)).trans gC4)
   simp[gD2,gD4,Zaj,slc]
   refine Zab (Zjo (((Y1.keep k3).keep k4).keep k5) (((Y2.keep k3).keep k4).keep k5) (by rw[Yuw];omega) (by rw[Yuw];omega)) ?_
   rintro _ h6 t6 k6 X6
   simp[]
   refine Zab (Znq (X5.keep k6) X6 (Yx2 (by omega) (by omega)) (by omega) (by omega)) ?_
   rintro _ h7 t7 k7 rfl
   have j4:t2+1<t3:=by omega
   have j5:t1+1<t3:=by omega
   have j6:t2<t3:=by omega
   have j7:t2+1<t5:=by omega
   have j8:t1+1<t5:=by omega
   rw[←Zpt]
   have i1:=k1.le
   simp[-oldIds,Zam.chk,j1,j2,j3,j4,j5,j6,j7,j8,Ret]
   exact⟨Znf (by simp;omega),((((K2.trans k3).trans k4).trans k5).trans k6).trans k7⟩
set_option maxHeartbeats 2000000
noncomputable def A.b202:=A.q Tryz.f202
def A.k202:=@A.kk 202 51 [.tmp 4,.tmp 5] A.b202 (by kernel_rfl) rfl
def Ypi{x y:Nat}(hx:x<18446744073709551616)(hy:y<18446744073709551616):addu (addu (mulu (shr64 x 32) (shr64 y 32)) (shr64 (addu (mulu (shr64 x 32) (and32 y)) (shr64 (mulu (and32 x) (and32 y)) 32)) 32)) (shr64 (addu (and32 (addu (mulu (shr64 x 32) (and32 y)) (shr64 (mulu (and32 x) (and32 y)) 32))) (mulu (and32 x) (shr64 y 32))) 32)=hi64 (x*y):=by
 simp only[addu,mulu,shr64,and32,hi64,Nat.reducePow]
 have ex:x=x/4294967296*4294967296+x%4294967296:=by omega
 have ey:y=y/4294967296*4294967296+y%4294967296:=by omega
 have hx0:x%4294967296<4294967296:=Yvx _ (by decide)
 have hy0:y%4294967296<4294967296:=Yvx _ (by decide)
 have hx1:x/4294967296<4294967296:=by omega
 have hy1:y/4294967296<4294967296:=by omega
 generalize x/4294967296=x1 at*
 generalize x%4294967296=x0 at*
 generalize y/4294967296=y1 at*
 generalize y%4294967296=y0 at*
 have a1:x0*y0≤4294967295*4294967295:=Ywb (by omega) (by omega)
 have a2:x1*y0≤4294967295*4294967295:=Ywb (by omega) (by omega)
 have a3:x0*y1≤4294967295*4294967295:=Ywb (by omega) (by omega)
 have a4:x1*y1≤4294967295*4294967295:=Ywb (by omega) (by omega)
 have e:x*y=x1*y1*18446744073709551616+(x1*y0+x0*y1)*4294967296+x0*y0:=by
  subst ex;subst ey
  grind
 rw[e]
 generalize x0*y0=p at*
 generalize x1*y0=q at*
 generalize x0*y1=u at*
 generalize x1*y1=z at*
 omega
def Zj0{h:T O}{N:Nat}{x y:Nat}(hx:x<18446744073709551616)(hy:y<18446744073709551616):Fn A.C 202 [.int .u64 x,.int .u64 y] h N (fun v' h' N'=>h'=h∧N'=N∧v'=.tup [.int .u64 (hi64 (x*y):Nat),.int .u64 (lo64 (x*y):Nat)]):=by
 intro w
 rw[Zaa,A.k202 (by simp)]
 simp(disch:=first|(simp;done)|omega|(simp only[Zac,Zad,Yuq];omega)|rfl) [A.b202]
 rw[Ypi hx hy]
 exact⟨rfl,Keeps.refl,rfl,rfl,rfl⟩
noncomputable def A.w227:=A.q Tryz.f227
noncomputable def A.lb227_0:=A.ql A.w227 0 []
noncomputable def A.b227:=(fun x0=>A.qb A.w227 [x0]) A.lb227_0
def A.k227:=@A.kk 227 21 [.tmp 2] A.b227 (by kernel_rfl) rfl
def Zgb{h:T O}{N:Nat}{v:V}{l:List Nat}(hs:Sl h N v (dg l))(hl:l.length<1152921504606846976):Fn A.C 227 [v] h N (fun v' h' N'=>Sl h' N' v' (dg (Zg4 l))):=by
 intro w
 have hlen:=hs.len
 rw[Zac]at hlen
 rw[Zaa,A.k227 (by simp)]
 simp[A.b227,hlen]
 refine Zag [(3,3),(6,17)] (fun e r st=>e=.exit 0∧st=⟨h,N,[]⟩∧∃k,k≤l.length∧r.get 3=some (.int .i64 k)∧Zg4 l=l.take k) (fun k r st=>st=⟨h,N,[]⟩∧k≤l.length∧r.get 3=some (.int .i64 k)∧Zg4 (l.take k)=Zg4 l) l.length ?_ ?_ ?_
 ·exact⟨rfl,Yus _,by simp,by simp⟩
 ·rintro k r _ hr hf ⟨rfl,hk,h3,ht⟩
  rw[Zah]
  cases k with
  |zero=>
   have:Zg4 l=[]:=ht.symm
   simp[A.lb227_0,h3,hf,this]
   exact⟨0,by omega,rfl,.inl rfl⟩
  |succ k=>
   obtain⟨d,hd⟩:∃d,l[k]?=some d:=⟨_,Yut (by omega)⟩
   obtain⟨i,o,c,e,rw,q1,q2,q3,q4⟩:=hs.at (Za7 hd)
   have e1:l.take (k+1)=l.take k++[d]:=by rw[Yw0,hd];rfl
   have k1:(0:Int)<(k:Int)+1:=by omega
   have k2:(k:Int)<(l.length:Int):=by omega
   by_cases h0:d=0
   ·subst h0
    rw[e1,Zow]at ht
    simp(disch:=first|(simp;done)|omega|(simp only[Zac,Zad,Yuq];omega)|rfl) [A.lb227_0,h3,hr,hf,k1,k2,hlen,q1,q3,q4,Zae]
    exact⟨k,by omega,by omega,rfl,ht⟩
   ·rw[e1,Zox h0]at ht
    have hz:((d:Int)==0)=false:=by simp;omega
    simp(disch:=first|(simp;done)|omega|(simp only[Zac,Zad,Yuq];omega)|rfl) [A.lb227_0,h3,hr,hf,k1,k2,hlen,q1,q3,q4,Zae,hz]
    exact⟨k+1,hk,rfl,by rw[e1];exact ht.symm⟩
 ·rintro _ r _ hr ⟨rfl,rfl,k,hk,h3,ht⟩
  simp[hr,h3,Zei,evOpt]
  obtain⟨v',e1,e2⟩:=Zjq (w:=[]) hs (lo:=0) (hi:=k) (Yxe _) (by rw[Zac];exact hk) none (some (.int .i64 k)) (.inr ⟨rfl,rfl⟩) (.inl rfl)
  rw[e1]
  simp[Ret]
  refine⟨Keeps.refl,?_⟩
  rw[ht,show dg (l.take k)=(dg l).take k by simp[dg]]
  exact e2
set_option maxHeartbeats 2000000
noncomputable def A.w198:=A.q Tryz.f198
noncomputable def A.lb198_0:=A.ql A.w198 0 []
noncomputable def A.b198:=(fun x0=>A.qb A.w198 [x0]) A.lb198_0
def A.k198:=@A.kk 198 54 [.tmp 4] A.b198 (by kernel_rfl) rfl
structure Ys6 (h:T O) (N x y k:Nat) (o:List Nat) (c:Nat) (r:T V) (st:St):Prop where
 hk:k≤(wds x).length
 r22:r.get 22=some (.int .i64 k)
 r6:r.get 6=some (.int .u64 c)
 n:st.n=N+1
 w:oldIds N st.w=[]
 keep:Keeps h N st.h (N+1)
 row:st.h.get N=some (.cells (dg o) 200 true)
 len:o.length=(wds x).length+1
 ex:∃d,d.length=k∧o=d++List.replicate ((wds x).length+1-k) 0∧val B d+B^k*c=val B ((wds x).take k)+val B ((wds y).take k)∧c≤1∧Dg d
def Ys7(h:T O)(N x y m:Nat)(r:T V)(st:St):Prop:=∃k o c,m=(wds x).length-k∧Ys6 h N x y k o c r st
def Ys8(h:T O)(N x y:Nat)(r:T V)(st:St):Prop:=∃o c,Ys6 h N x y (wds x).length o c r st
def Ye0{x y o d:List Nat}{k c xk:Nat}(hx:x[k]?=some xk)(d1:d.length=k)(d2:o=d++List.replicate (x.length+1-k) 0)(d3:val B d+B^k*c=val B (x.take k)+val B (y.take k))(d4:c≤1)(d5:Dg d)(gx:Dg x)(gy:Dg y):
  (d++[lo64 (xk+dz y k+c)]).length=k+1∧o.set k (lo64 (xk+dz y k+c))=(d++[lo64 (xk+dz y k+c)])++List.replicate (x.length+1-(k+1)) 0∧val B (d++[lo64 (xk+dz y k+c)])+B^(k+1)*hi64 (xk+dz y k+c)=val B (x.take (k+1))+val B (y.take (k+1))∧hi64 (xk+dz y k+c)≤1∧Dg (d++[lo64 (xk+dz y k+c)]):=by
 have hk:k<x.length:=by
  apply Yv5;intro hc;rw[Yva hc]at hx;cases hx
 have hxk:=gx.get hx
 have hyk:=Yp7 gy k
 have hm:=Ywh (xk+dz y k+c) B
 refine⟨by simp[d1],?_,?_,?_,?_⟩
 ·rw[d2,show x.length+1-k=(x.length-k)+1 by omega,Zp7 d1,show x.length+1-(k+1)=x.length-k by omega]
 ·rw[Zl1,Zb9,Zb9,d1,show dz x k=xk by simp[dz,hx]]
  have e1:lo64 (xk+dz y k+c)=(xk+dz y k+c)%B:=rfl
  have e2:hi64 (xk+dz y k+c)=(xk+dz y k+c)/B:=rfl
  rw[e1,e2,Yvm]
  generalize (xk+dz y k+c)%B=lo at*
  generalize (xk+dz y k+c)/B=hi at*
  generalize B^k=p at*
  have:p*(B*hi+lo)=p*(xk+dz y k+c):=by rw[hm]
  grind
 ·show (xk+dz y k+c)/B≤1
  unfold B at*;omega
 ·intro e he
  rcases Yv1.1 he with he|he
  ·exact d5 e he
  ·simp at he;subst he;exact Yvx _ (by decide)
def Ykh{x y:Nat}{o d:List Nat}{c:Nat}(hl:(wds y).length≤(wds x).length)(d1:d.length=(wds x).length)(d2:o=d++List.replicate ((wds x).length+1-(wds x).length) 0)(d3:val B d+B^(wds x).length*c=val B ((wds x).take (wds x).length)+val B ((wds y).take (wds x).length))(d4:c≤1)(d5:Dg d):Zg4 (o.set (wds x).length c)=wds (x+y):=by
 rw[d2,show (wds x).length+1-(wds x).length=0+1 by omega,Zp7 d1]
 simp only[List.replicate_zero,Ywo]
 rw[Zdk,Zl1,d1,d3,Yuy (Yus _),Yuy hl,Zbq,Zbq]
 intro e he
 rcases Yv1.1 he with he|he
 ·exact d5 e he
 ·simp at he;subst he;unfold B;omega
def Zvl{h:T O}{N:Nat}{vx vy:V}{x y:Nat}(hx:Wn h N vx x)(hy:Wn h N vy y)(hxl:(wds x).length<1099511627776)(hyl:(wds y).length<1099511627776):Fn A.C 198 [vx,vy] h N (fun v' h' N'=>Wn h' N' v' (x+y)):=by
 intro w
 have lx:=hx.len
 have ly:=hy.len
 rw[Zac]at lx ly
 rw[Zaa,A.k198 (by simp)]
 by_cases hl:(wds x).length<(wds y).length
 ·simp(disch:=first|(simp;done)|omega|(simp only[Zac,Zad,Yuq];omega)|rfl) [A.b198,lx,ly,hl]
  refine Zag [(6,8),(22,46)] (fun e r st=>e=.exit 0∧Ys8 h N y x r st) (Ys7 h N y x) (wds y).length ?_ ?_ ?_
  ·refine⟨0,List.replicate ((wds y).length+1) 0,0,by omega,⟨by omega,by simp,by simp,by simp,by simp,Keeps.refl.set (Yus _) |>.up (by omega),by simp[Zgw],by simp,[],by simp,by simp,by simp[val],by decide,by simp[Dg]⟩⟩
  ·rintro m r ⟨H,n1,W⟩ hr hf ⟨k,o,c,rfl,hk,h22,h6,hn,hW,hK,hN,ho,d,hd⟩
   simp only at hn hW hK hN
   subst hn
   rw[Zah]
   by_cases hlt:k<(wds y).length
   ·obtain⟨i1,o1,c1,e1,w1,p1,p2,p3,p4⟩:=hy.at (Za7 (Yut hlt))
    have p3:=(hK.get _ p2).trans p3
    obtain⟨d1,d2,d3,d4,d5⟩:=hd
    have hsp:=Ye0 (x:=wds y) (y:=wds x) (Yut hlt) d1 d2 d3 d4 d5 (Zdj y) (Zdj x)
    by_cases hky:k<(wds x).length
    ·obtain⟨i2,o2,c2,e2,w2,q1,q2,q3,q4⟩:=hx.at (Za7 (Yut hky))
     have q3:=(hK.get _ q2).trans q3
     have hz:dz (wds x) k=(wds x)[k]:=by simp[dz,Yut hky]
     rw[hz]at hsp
     simp(disch:=first|(simp;done)|omega|(simp only[Zac,Zad,Yuq];omega)|rfl) [A.lb198_0,hr,h22,h6,hlt,hky,ly,lx,p1,p3,p4,q1,q3,q4,hN,Zcz,hf]
     exact⟨_,by omega,k+1,_,_,rfl,⟨by omega,by simp,by simp,rfl,by simp[hW],hK.set (Yus _),by simp,by simp[ho],_,hsp⟩⟩
    ·have hz:dz (wds x) k=0:=by simp[dz,Yva (Yxu.1 hky)]
     rw[hz]at hsp
     simp(disch:=first|(simp;done)|omega|(simp only[Zac,Zad,Yuq];omega)|rfl) [A.lb198_0,hr,h22,h6,hlt,hky,ly,lx,p1,p3,p4,hN,Zcz,hf]
     exact⟨_,by omega,k+1,_,_,rfl,⟨by omega,by simp,by simp,rfl,by simp[hW],hK.set (Yus _),by simp,by simp[ho],_,hsp⟩⟩
   ·have hkx:k=(wds y).length:=by omega
    subst hkx
    simp[A.lb198_0,hr,h22,hf]
    exact⟨o,c,⟨by omega,by simp[h22],by simp[h6],rfl,by simp[hW],hK,hN,ho,d,hd⟩⟩
  ·rintro _ r ⟨H,n1,W⟩ hr ⟨rfl,o,c,hk,h22,h6,hn,hW,hK,hN,ho,d,d1,d2,d3,d4,d5⟩
   simp only at hn hW hK hN
   subst hn
   simp(disch:=first|(simp;done)|omega|(simp only[Zac,Zad,Yuq];omega)|rfl) [hr,h6,ly,hN,Zcz]
   refine Zab (Zgb (l:=o.set (wds y).length c) (Sl.row (e:=200) (rw:=true) (by omega) (by simp) (by simp[ho]) (by simp)) (by simp[ho];omega)) ?_
   intro v' h' n' hk' hs
   simp[Ret]
   refine⟨hW,(hK.set (Yus _)).trans hk',?_⟩
   rw[Ykh (by omega) d1 d2 d3 d4 d5]at hs
   exact(Nat.add_comm y x▸hs)
 ·simp(disch:=first|(simp;done)|omega|(simp only[Zac,Zad,Yuq];omega)|rfl) [A.b198,lx,ly,hl]
  refine Zag [(6,8),(22,46)] (fun e r st=>e=.exit 0∧Ys8 h N x y r st) (Ys7 h N x y) (wds x).length ?_ ?_ ?_
  ·refine⟨0,List.replicate ((wds x).length+1) 0,0,by omega,⟨by omega,by simp,by simp,by simp,by simp,Keeps.refl.set (Yus _) |>.up (by omega),by simp[Zgw],by simp,[],by simp,by simp,by simp[val],by decide,by simp[Dg]⟩⟩
  ·rintro m r ⟨H,n1,W⟩ hr hf ⟨k,o,c,rfl,hk,h22,h6,hn,hW,hK,hN,ho,d,hd⟩
   simp only at hn hW hK hN
   subst hn
   rw[Zah]
   by_cases hlt:k<(wds x).length
   ·obtain⟨i1,o1,c1,e1,w1,p1,p2,p3,p4⟩:=hx.at (Za7 (Yut hlt))
    have p3:=(hK.get _ p2).trans p3
    obtain⟨d1,d2,d3,d4,d5⟩:=hd
    have hsp:=Ye0 (x:=wds x) (y:=wds y) (Yut hlt) d1 d2 d3 d4 d5 (Zdj x) (Zdj y)
    by_cases hky:k<(wds y).length
    ·obtain⟨i2,o2,c2,e2,w2,q1,q2,q3,q4⟩:=hy.at (Za7 (Yut hky))
     have q3:=(hK.get _ q2).trans q3
     have hz:dz (wds y) k=(wds y)[k]:=by simp[dz,Yut hky]
     rw[hz]at hsp
     simp(disch:=first|(simp;done)|omega|(simp only[Zac,Zad,Yuq];omega)|rfl) [A.lb198_0,hr,h22,h6,hlt,hky,lx,ly,p1,p3,p4,q1,q3,q4,hN,Zcz,hf]
     exact⟨_,by omega,k+1,_,_,rfl,⟨by omega,by simp,by simp,rfl,by simp[hW],hK.set (Yus _),by simp,by simp[ho],_,hsp⟩⟩
    ·have hz:dz (wds y) k=0:=by simp[dz,Yva (Yxu.1 hky)]
     rw[hz]at hsp
     simp(disch:=first|(simp;done)|omega|(simp only[Zac,Zad,Yuq];omega)|rfl) [A.lb198_0,hr,h22,h6,hlt,hky,lx,ly,p1,p3,p4,hN,Zcz,hf]
     exact⟨_,by omega,k+1,_,_,rfl,⟨by omega,by simp,by simp,rfl,by simp[hW],hK.set (Yus _),by simp,by simp[ho],_,hsp⟩⟩
   ·have hkx:k=(wds x).length:=by omega
    subst hkx
    simp[A.lb198_0,hr,h22,hf]
    exact⟨o,c,⟨by omega,by simp[h22],by simp[h6],rfl,by simp[hW],hK,hN,ho,d,hd⟩⟩
  ·rintro _ r ⟨H,n1,W⟩ hr ⟨rfl,o,c,hk,h22,h6,hn,hW,hK,hN,ho,d,d1,d2,d3,d4,d5⟩
   simp only at hn hW hK hN
   subst hn
   simp(disch:=first|(simp;done)|omega|(simp only[Zac,Zad,Yuq];omega)|rfl) [hr,h6,lx,hN,Zcz]
   refine Zab (Zgb (l:=o.set (wds x).length c) (Sl.row (e:=200) (rw:=true) (by omega) (by simp) (by simp[ho]) (by simp)) (by simp[ho];omega)) ?_
   intro v' h' n' hk' hs
   simp[Ret]
   refine⟨hW,(hK.set (Yus _)).trans hk',?_⟩
   rw[Ykh (by omega) d1 d2 d3 d4 d5]at hs
   exact hs
set_option maxHeartbeats 2000000
noncomputable def A.w200:=A.q Tryz.f200
noncomputable def A.lb200_0:=A.ql A.w200 0 []
noncomputable def A.b200:=(fun x0=>A.qb A.w200 [x0]) A.lb200_0
def A.k200:=@A.kk 200 41 [.tmp 4] A.b200 (by kernel_rfl) rfl
def Zdb{a b:Nat}(h:a≤b):(wds a).length≤(wds b).length:=by
 apply Ywu
 intro hc
 have h1:=Zld (b:=B) (Zdj b)
 rw[Zbq]at h1
 have h2:∀n,n≠0→B^((wds n).length-1)≤n:=by
  intro n
  induction n using Nat.strongRecOn with
  |_ n ih=>
   intro hn
   rw[Zbr hn]
   by_cases h0:n/B=0
   ·rw[h0,Zbp];simp;omega
   ·have:=ih (n/B) (Yxp (by omega) (by decide)) h0
    have hp:0<(wds (n/B)).length:=by rw[Zbr h0];simp
    simp only[Yuq,Nat.add_sub_cancel]
    rw[show (wds (n/B)).length=((wds (n/B)).length-1)+1 by omega,Yvm]
    have h3:B^((wds (n/B)).length-1)*B≤n/B*B:=Yve B this
    have:=Nat.div_mul_le_self n B
    omega
 have ha:a≠0:=by
  rintro rfl
  rw[Zbp]at hc;simp at hc
 have h3:=h2 a ha
 have h4:B^(wds b).length≤B^((wds a).length-1):=Yvs (by decide) (by omega)
 omega
structure Ys3 (h:T O) (N x y k:Nat) (o:List Nat) (c:Nat) (r:T V) (st:St):Prop where
 hk:k≤(wds x).length
 r14:r.get 14=some (.int .i64 k)
 r6:r.get 6=some (.int .u64 c)
 n:st.n=N+1
 w:oldIds N st.w=[]
 keep:Keeps h N st.h (N+1)
 row:st.h.get N=some (.cells (dg o) 200 true)
 len:o.length=(wds x).length
 ex:∃d,d.length=k∧o=d++List.replicate ((wds x).length-k) 0∧val B d+val B ((wds y).take k)=val B ((wds x).take k)+B^k*c∧c≤1∧Dg d
def Yuj(h:T O)(N x y m:Nat)(r:T V)(st:St):Prop:=∃k o c,m=(wds x).length-k∧Ys3 h N x y k o c r st
def Yuk(h:T O)(N x y:Nat)(r:T V)(st:St):Prop:=∃o c,Ys3 h N x y (wds x).length o c r st
def Yky{x y o d:List Nat}{k c xk:Nat}(hx:x[k]?=some xk)(d1:d.length=k)(d2:o=d++List.replicate (x.length-k) 0)(d3:val B d+val B (y.take k)=val B (x.take k)+B^k*c)(d4:c≤1)(d5:Dg d)(gx:Dg x)(gy:Dg y):
  (d++[sb64 xk (dz y k) c]).length=k+1∧o.set k (sb64 xk (dz y k) c)=(d++[sb64 xk (dz y k) c])++List.replicate (x.length-(k+1)) 0∧val B (d++[sb64 xk (dz y k) c])+val B (y.take (k+1))=val B (x.take (k+1))+B^(k+1)*bw64 xk (dz y k) c∧bw64 xk (dz y k) c≤1∧Dg (d++[sb64 xk (dz y k) c]):=by
 have hk:k<x.length:=by
  apply Yv5;intro hc;rw[Yva hc]at hx;cases hx
 have hxk:=gx.get hx
 have hyk:=Yp7 gy k
 have hs:sb64 xk (dz y k) c+dz y k+c=xk+B*bw64 xk (dz y k) c∧sb64 xk (dz y k) c<B∧bw64 xk (dz y k) c≤1:=by
  unfold sb64 bw64
  unfold B at*
  split<;>omega
 refine⟨by simp[d1],?_,?_,hs.2.2,?_⟩
 ·rw[d2,show x.length-k=(x.length-(k+1))+1 by omega,Zp7 d1]
 ·rw[Zl1,Zb9,Zb9,d1,show dz x k=xk by simp[dz,hx],Yvm]
  have h1:=hs.1
  generalize sb64 xk (dz y k) c=s at*
  generalize bw64 xk (dz y k) c=b at*
  generalize B^k=p at*
  have:p*(s+dz y k+c)=p*(xk+B*b):=by rw[h1]
  grind
 ·intro e he
  rcases Yv1.1 he with he|he
  ·exact d5 e he
  ·simp at he;subst he;exact hs.2.1
def Yoy{x y:Nat}{o d:List Nat}{c:Nat}(hl:y≤x)(d1:d.length=(wds x).length)(d2:o=d++List.replicate ((wds x).length-(wds x).length) 0)(d3:val B d+val B ((wds y).take (wds x).length)=val B ((wds x).take (wds x).length)+B^(wds x).length*c)(d4:c≤1)(d5:Dg d):Zg4 o=wds (x-y):=by
 rw[d2,Nat.sub_self]
 simp only[List.replicate_zero,Ywo]
 rw[Zdk d5]
 congr 1
 rw[Yuy (Yus _),Yuy (Zdb hl),Zbq,Zbq]at d3
 have:=Zld d5
 rw[d1]at this
 rcases Nat.lt_or_ge c 1 with hc|hc
 ·have:c=0:=by omega
  subst this
  simp at d3;omega
 ·have:c=1:=by omega
  subst this
  omega
def Zmr{h:T O}{N:Nat}{vx vy:V}{x y:Nat}(hx:Wn h N vx x)(hy:Wn h N vy y)(hxy:y≤x)(hxl:(wds x).length<1099511627776)(hyl:(wds y).length<1099511627776):Fn A.C 200 [vx,vy] h N (fun v' h' N'=>Wn h' N' v' (x-y)):=by
 intro w
 have lx:=hx.len
 have ly:=hy.len
 rw[Zac]at lx ly
 rw[Zaa,A.k200 (by simp)]
 simp(disch:=first|(simp;done)|omega|(simp only[Zac,Zad,Yuq];omega)|rfl) [A.b200,lx,ly]
 refine Zag [(6,8),(14,38)] (fun e r st=>e=.exit 0∧Yuk h N x y r st) (Yuj h N x y) (wds x).length ?_ ?_ ?_
 ·refine⟨0,List.replicate (wds x).length 0,0,by omega,⟨by omega,by simp,by simp,by simp,by simp,Keeps.refl.set (Yus _) |>.up (by omega),by simp[Zgw],by simp,[],by simp,by simp,by simp[val],by decide,by simp[Dg]⟩⟩
 ·rintro m r ⟨H,n1,W⟩ hr hf ⟨k,o,c,rfl,hk,h22,h6,hn,hW,hK,hN,ho,d,hd⟩
  simp only at hn hW hK hN
  subst hn
  rw[Zah]
  by_cases hlt:k<(wds x).length
  ·obtain⟨i1,o1,c1,e1,w1,p1,p2,p3,p4⟩:=hx.at (Za7 (Yut hlt))
   have p3:=(hK.get _ p2).trans p3
   obtain⟨d1,d2,d3,d4,d5⟩:=hd
   have hsp:=Yky (x:=wds x) (y:=wds y) (Yut hlt) d1 d2 d3 d4 d5 (Zdj x) (Zdj y)
   by_cases hky:k<(wds y).length
   ·obtain⟨i2,o2,c2,e2,w2,q1,q2,q3,q4⟩:=hy.at (Za7 (Yut hky))
    have q3:=(hK.get _ q2).trans q3
    have hz:dz (wds y) k=(wds y)[k]:=by simp[dz,Yut hky]
    rw[hz]at hsp
    simp(disch:=first|(simp;done)|omega|(simp only[Zac,Zad,Yuq];omega)|rfl) [A.lb200_0,hr,h22,h6,hlt,hky,lx,ly,p1,p3,p4,q1,q3,q4,hN,Zcz,hf]
    exact⟨_,by omega,k+1,_,_,rfl,⟨by omega,by simp,by simp,rfl,by simp[hW],hK.set (Yus _),by simp,by simp[ho],_,hsp⟩⟩
   ·have hz:dz (wds y) k=0:=by simp[dz,Yva (Yxu.1 hky)]
    rw[hz]at hsp
    simp(disch:=first|(simp;done)|omega|(simp only[Zac,Zad,Yuq];omega)|rfl) [A.lb200_0,hr,h22,h6,hlt,hky,lx,ly,p1,p3,p4,hN,Zcz,hf]
    exact⟨_,by omega,k+1,_,_,rfl,⟨by omega,by simp,by simp,rfl,by simp[hW],hK.set (Yus _),by simp,by simp[ho],_,hsp⟩⟩
  ·have hkx:k=(wds x).length:=by omega
   subst hkx
   simp[A.lb200_0,hr,h22,hf]
   exact⟨o,c,⟨by omega,by simp[h22],by simp[h6],rfl,by simp[hW],hK,hN,ho,d,hd⟩⟩
 ·rintro _ r ⟨H,n1,W⟩ hr ⟨rfl,o,c,hk,h22,h6,hn,hW,hK,hN,ho,d,d1,d2,d3,d4,d5⟩
  simp only at hn hW hK hN
  subst hn
  simp[hr,h6,lx,hN]
  refine Zab (Zgb (l:=o) (Sl.row (e:=200) (rw:=true) (by omega) (by simp[hN]) (by simp[ho]) (by simp)) (by simp[ho];omega)) ?_
  intro v' h' n' hk' hs
  simp[Ret]
  refine⟨hW,hK.trans hk',?_⟩
  rw[Yoy hxy d1 d2 d3 d4 d5]at hs
  exact hs
set_option maxHeartbeats 2000000
noncomputable def A.w199:=A.q Tryz.f199
noncomputable def A.lb199_0:=A.ql A.w199 0 []
noncomputable def A.b199:=(fun x0=>A.qb A.w199 [x0]) A.lb199_0
def A.k199:=@A.kk 199 41 [.tmp 4] A.b199 (by kernel_rfl) rfl
def Zvb(x y:Int):Int:=if x<y then -1 else if y<x then 1 else 0
def Yjr{x y:Nat}(h:(wds x).length<(wds y).length):x<y:=by
 apply Yv5
 intro hc
 have:=Zdb hc
 omega
def Zl2{b:Nat}{l:List Nat}{k d:Nat}(h:l[k]?=some d):val b (l.drop k)=d+b*val b (l.drop (k+1)):=by
 have hk:k<l.length:=by
  apply Yv5;intro hc;rw[Yva hc]at h;cases h
 rw[Yw6 hk]
 rw[Yut hk]at h
 simp only[Yup]at h
 rw[h];rfl
def Zq6(b:Nat)(l:List Nat)(k:Nat)(hk:k≤l.length):val b l=val b (l.take k)+b^k*val b (l.drop k):=by
 have:=Zhw b (l.take k) (l.drop k)
 rw[Ywz,Yvh,Yv3 hk]at this
 exact this
def Yi6{x y:List Nat}{k:Nat}(gx:Dg x)(hx:k≤x.length)(hy:k≤y.length)(h:val B (x.drop k)<val B (y.drop k)):val B x<val B y:=by
 rw[Zq6 B x k hx,Zq6 B y k hy]
 have h1:val B (x.take k)<B^k:=by
  have:=Zld (b:=B) (l:=x.take k) fun d hd=>gx d (Ywq hd)
  rwa [Yvh,Yv3 hx]at this
 have h2:B^k*(val B (x.drop k)+1)≤B^k*val B (y.drop k):=Yvc _ h
 rw[Yw1]at h2
 omega
structure Ys5 (h:T O) (N x y m:Nat) (r:T V) (st:St):Prop where
 hm:m≤(wds x).length
 r5:r.get 5=some (.int .i64 ((m:Int)-1))
 n:st.n=N
 w:st.w=[]
 keep:Keeps h N st.h N
 top:(wds x).drop m=(wds y).drop m
def Zhp{h:T O}{N:Nat}{vx vy:V}{x y:Nat}(hx:Wn h N vx x)(hy:Wn h N vy y)(hxl:(wds x).length<1099511627776)(hyl:(wds y).length<1099511627776):Fn A.C 199 [vx,vy] h N (fun v' h' N'=>v'=.int .i64 (Zvb x y)):=by
 intro w
 have lx:=hx.len
 have ly:=hy.len
 rw[Zac]at lx ly
 rw[Zaa,A.k199 (by simp)]
 by_cases hne:(wds x).length=(wds y).length
 ·have hne':((wds x).length:Int)=((wds y).length:Int):=by omega
  simp(disch:=omega) [A.b199,lx,ly,hne]
  refine Zag [(4,5),(19,40)] (fun e r st=>(e=.exit 0∧Ys5 h N x y 0 r st)∨(e=.ret∧r.get 4=some (.int .i64 (Zvb x y))∧st.n=N∧st.w=[]∧Keeps h N st.h N)) (Ys5 h N x y) (wds x).length ?_ ?_ ?_
  ·exact⟨by omega,by simp[hne],rfl,rfl,Keeps.refl,by rw[Yvu,hne,Yvu]⟩
  ·rintro m r ⟨H,n1,W⟩ hr hf ⟨hm,h5,hn,hW,hK,ht⟩
   simp only at hn hW hK
   subst hn;subst hW
   rw[Zah]
   cases m with
   |zero=>
    simp[A.lb199_0,h5,hf]
    exact⟨by omega,by simp[h5],rfl,rfl,hK,ht⟩
   |succ m=>
    have hmx:m<(wds x).length:=by omega
    have hmy:m<(wds y).length:=by omega
    have h5':r.get 5=some (.int .i64 (m:Int)):=by rw[h5];congr 2;omega
    have gx:=Yut hmx
    have gy:=Yut hmy
    obtain⟨i1,o1,c1,e1,w1,p1,p2,p3,p4⟩:=hx.at (Za7 gx)
    have p3:=(hK.get _ p2).trans p3
    obtain⟨i2,o2,c2,e2,w2,q1,q2,q3,q4⟩:=hy.at (Za7 gy)
    have q3:=(hK.get _ q2).trans q3
    rcases Nat.lt_trichotomy (wds x)[m] (wds y)[m]with hlt|heq|hgt
    ·have hlt2:x<y:=by
      have:=Yi6 (x:=wds x) (y:=wds y) (k:=m) (Zdj x) (by omega) (by omega) (by rw[Zl2 gx,Zl2 gy,ht];omega)
      rwa [Zbq,Zbq]at this
     have hne2:¬(wds x)[m]=(wds y)[m]:=by omega
     simp(disch:=first|(simp;done)|omega|(simp only[Zac,Zad,Yuq];omega)|rfl) [A.lb199_0,h5',hr,hf,lx,ly,p1,p2,p3,p4,q1,q2,q3,q4,hne2,hlt]
     exact⟨by simp[Zvb,hlt2],hK⟩
    ·have ht':(wds x).drop m=(wds y).drop m:=by rw[Yw6 hmx,Yw6 hmy,ht,heq]
     simp(disch:=first|(simp;done)|omega|(simp only[Zac,Zad,Yuq];omega)|rfl) [A.lb199_0,h5',hr,hf,lx,ly,p1,p2,p3,p4,q1,q2,q3,q4,heq]
     exact⟨m,by omega,⟨by omega,by simp,rfl,rfl,hK,ht'⟩⟩
    ·have hlt2:y<x:=by
      have:=Yi6 (x:=wds y) (y:=wds x) (k:=m) (Zdj y) (by omega) (by omega) (by rw[Zl2 gx,Zl2 gy,ht];omega)
      rwa [Zbq,Zbq]at this
     have hne2:¬(wds x)[m]=(wds y)[m]:=by omega
     have hlt:¬(wds x)[m]<(wds y)[m]:=by omega
     have hlt3:¬x<y:=by omega
     simp(disch:=first|(simp;done)|omega|(simp only[Zac,Zad,Yuq];omega)|rfl) [A.lb199_0,h5',hr,hf,lx,ly,p1,p2,p3,p4,q1,q2,q3,q4,hne2,hlt]
     exact⟨by simp[Zvb,hlt2,hlt3],hK⟩
  ·rintro e r ⟨H,n1,W⟩ hr (⟨rfl,hm,h5,hn,hW,hK,ht⟩|⟨rfl,h4,hn,hW,hK⟩)
   ·simp only at hn hW hK
    subst hn;subst hW
    simp only[Yw9]at ht
    have:x=y:=by rw[←Zbq x,ht,Zbq]
    subst this
    simp[Ret]
    exact⟨hK,by simp[Zvb]⟩
   ·simp only at hn hW hK
    subst hn;subst hW
    simp[h4,Ret]
    exact hK
 ·have hne':¬((wds x).length:Int)=((wds y).length:Int):=by omega
  by_cases hlt:(wds x).length<(wds y).length
  ·have:=Yjr hlt
   simp[A.b199,lx,ly,hne,hlt,Ret]
   exact⟨Keeps.refl,by simp[Zvb,this]⟩
  ·have h1:=Yjr (x:=y) (y:=x) (by omega)
   have h2:¬x<y:=by omega
   simp[A.b199,lx,ly,hne,hlt,Ret]
   exact⟨Keeps.refl,by simp[Zvb,h1,h2]⟩
end Go.Mx
