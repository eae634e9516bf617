/-lensletref01-/
import Derived.Test.YtgnadghjglamaaaGreatDoorRcG
set_option linter.all false
set_option maxHeartbeats 2000000
namespace Go.Mx
noncomputable section
open Go Go.Proofs
variable {j:Nat}
set_option maxRecDepth 1000000
def A.b16:=A.q Tryz.f16
def A.k16:=@A.kk 16 55 [.tmp 4] A.b16 (by kernel_rfl) rfl
def Zos(a b:Rat):a*b=Rat.divInt (a.num*b.num) ((a.den:Int)*(b.den:Int)):=by
 rw[Rat.mul_def,Rat.normalize_eq_mkRat,←Rat.divInt_ofNat]
 simp
def Zo5(a b:Rat):a+b=Rat.divInt (a.num*(b.den:Int)+b.num*(a.den:Int)) ((a.den:Int)*(b.den:Int)):=by
 rw[Rat.add_def,Rat.normalize_eq_mkRat,←Rat.divInt_ofNat]
 simp
def Znb{a b:Nat}(h1:a<1000000000)(h2:b<1000000000):a*b≤1000000000000000000:=by
 have:=Ysp (Nat.le_of_lt h1) (Nat.le_of_lt h2)
 omega
def Zlv(q:Rat):∃(n d:Int) (o:Bool),(∀st,A.C.call (.func 63 [] []) [.str (Zas q)] st=some (.tup [.int .i64 n,.int .i64 d,.bool o],st))∧(o=true→n=q.num∧d=(q.den:Int)∧q.num.natAbs<1000000000∧q.den<1000000000):=by
 by_cases f:q.num.natAbs<1000000000∧q.den<1000000000
 ·exact⟨q.num,q.den,true,fun st=>by rw[Zu8,Yrw f],fun _=>⟨rfl,rfl,f⟩⟩
 ·exact⟨0,0,false,fun st=>by rw[Zu8,Yrt f],fun h=>by cases h⟩
def Rg.ones{h:T O}{N:Nat}{v:V}{z:Int}(s:Rg h N v z):∃u,v=.agg [.bool (decide (z<0)),u]∧V.one u=true∧V.cells u=[u]∧SlF u:=by
 obtain⟨u,rfl,hu⟩:=s
 exact⟨u,rfl,(Sl.form hu).one,(Sl.form hu).cells,Sl.form hu⟩
def Zdn{a b:Int}{k:Nat}(h1:a.natAbs<2^j)(h2:b.natAbs<2^k):(a*b).natAbs<2^(j+k):=by
 rw[Ytk,Ysr]
 exact Yul h1 h2
def Zpt{a b:Int}(h1:a.natAbs<2^j)(h2:b.natAbs<2^j):(a+b).natAbs<2^(j+1):=by
 have:=Int.natAbs_add_le a b
 rw[Ysg];omega
def Yjt{a b:Rat}{k:Nat}{h:T O}{N:Nat}(ha:Qb j a)(hb:Qb k b)(hj:j≤400000000)(hk:k≤400000000):Fn A.C 16 [.str (Zas a),.str (Zas b)] h N (fun u _ _=>u=.str (Zas (a*b))):=by
 intro w
 obtain⟨n1,d1,o1,hq1,f1⟩:=Zlv a
 obtain⟨n2,d2,o2,hq2,f2⟩:=Zlv b
 have pa:=Rat.den_pos a
 have pb:=Rat.den_pos b
 rw[Zaf,A.k16 (by simp)]
 have key:(o1=true∧o2=true)∨(o1=false∨(o1=true∧o2=false)):=by cases o1<;>cases o2<;>simp
 rcases key with⟨rfl,rfl⟩|key
 ·obtain⟨rfl,rfl,g1⟩:=f1 rfl
  obtain⟨rfl,rfl,g2⟩:=f2 rfl
  have m1:(a.num*b.num).natAbs≤1000000000000000000:=by rw[Ytk];exact Znb g1.1 g2.1
  have m2:a.den*b.den≤1000000000000000000:=Znb g1.2 g2.2
  have m3:0<a.den*b.den:=Yuc pa pb
  have e2:(a.den:Int)*(b.den:Int)=((a.den*b.den:Nat):Int):=by simp
  have w1:Zap .i64 (a.num*b.num)=a.num*b.num:=Zah (by omega) (by omega)
  have w2:Zap .i64 ((a.den:Int)*(b.den:Int))=(a.den:Int)*(b.den:Int):=by rw[e2];exact Zah (by omega) (by omega)
  have ho:=fun st=>Ymm (p:=a.num*b.num) (q:=(a.den:Int)*(b.den:Int)) (st:=st) (by omega) (by omega) (by omega) (by omega) (by omega)
  rw[←Zos]at ho
  simp(disch:=first|(simp;done)|omega|rfl) [-getElem?_pos,A.b16,hq1,hq2,w1,w2,ho,Ret]
  exact Keeps.refl
 ·have la:=Zgl ha.1
  have la2:=Zix ha.2
  have lb:=Zgl hb.1
  have lb2:=Zix hb.2
  have z1:=Zj9 ha.1
  have z2:=Zj9 hb.1
  have z3:=Zj9 ha.2
  have z4:=Zj9 hb.2
  rcases key with rfl|⟨rfl,rfl⟩
  all_goals simp(disch:=first|(simp;done)|omega|rfl) [-getElem?_pos,A.b16,hq1,hq2]
  all_goals
   refine Zac (Zjs (q:=a) (by omega) (by omega)) ?_
   rintro _ h1 t1 k1 ⟨x1,y1,rfl,X1,Y1⟩
   obtain⟨u1,rfl,p1,p2,F1⟩:=X1.ones
   obtain⟨v1,rfl,p3,p4,G1⟩:=Y1.ones
   unfold V.one at p1 p3
   unfold V.cells at p2 p4
   have KA:=((((Keeps.refl (h:=h1) (n:=t1)).new (.cells [.bool false,.nilslice] 92 true)).new (.cells [.bool false,.nilslice] 92 true)).set (i:=t1) (o:=.cells [.bool (decide (a.num<0)),u1] 92 true) (Yru _)).set (i:=t1+1) (o:=.cells [.bool (decide ((a.den:Int)<0)),v1] 92 true) (by omega)
   have c0:¬t1+1=t1:=by omega
   have c00:¬t1=t1+1:=by omega
   simp(disch:=first|(simp;done)|omega|rfl) [-getElem?_pos,p1,p2,p3,p4,Zam,splice,c0]
   generalize hHA:(((h1.set t1 (.cells [.bool false,.nilslice] 92 true)).set (t1+1) (.cells [.bool false,.nilslice] 92 true)).set t1 (.cells [.bool (decide (a.num<0)),u1] 92 true)).set (t1+1) (.cells [.bool (decide ((a.den:Int)<0)),v1] 92 true)=HA at*
   have gA1:HA.get t1=some (.cells [.bool (decide (a.num<0)),u1] 92 true):=by rw[←hHA];simp[c0,c00]
   have gA2:HA.get (t1+1)=some (.cells [.bool (decide ((a.den:Int)<0)),v1] 92 true):=by rw[←hHA];simp
   have X1:=X1.keep KA
   have Y1:=Y1.keep KA
   clear hHA
   refine Zac (Zjs (q:=b) (by omega) (by omega)) ?_
   rintro _ h2 t2 k2 ⟨x2,y2,rfl,X2,Y2⟩
   obtain⟨u2,rfl,p5,p6,F2⟩:=X2.ones
   obtain⟨v2,rfl,p7,p8,G2⟩:=Y2.ones
   unfold V.one at p5 p7
   unfold V.cells at p6 p8
   have KB:=((((Keeps.refl (h:=h2) (n:=t2)).new (.cells [.bool false,.nilslice] 92 true)).new (.cells [.bool false,.nilslice] 92 true)).set (i:=t2) (o:=.cells [.bool (decide (b.num<0)),u2] 92 true) (Yru _)).set (i:=t2+1) (o:=.cells [.bool (decide ((b.den:Int)<0)),v2] 92 true) (by omega)
   have c1:¬t2+1=t2:=by omega
   have c11:¬t2=t2+1:=by omega
   have i2:=k2.le
   generalize hHB:(((h2.set t2 (.cells [.bool false,.nilslice] 92 true)).set (t2+1) (.cells [.bool false,.nilslice] 92 true)).set t2 (.cells [.bool (decide (b.num<0)),u2] 92 true)).set (t2+1) (.cells [.bool (decide ((b.den:Int)<0)),v2] 92 true)=HB at*
   have gB1:HB.get t2=some (.cells [.bool (decide (b.num<0)),u2] 92 true):=by rw[←hHB];simp[c1,c11]
   have gB2:HB.get (t2+1)=some (.cells [.bool (decide ((b.den:Int)<0)),v2] 92 true):=by rw[←hHB];simp
   have gB3:=(KB.get t1 (by omega)).trans ((k2.get t1 (by omega)).trans gA1)
   have gB4:=(KB.get (t1+1) (by omega)).trans ((k2.get (t1+1) (by omega)).trans gA2)
   have X1:=(X1.keep k2).keep KB
   have Y1:=(Y1.keep k2).keep KB
   have X2:=X2.keep KB
   have Y2:=Y2.keep KB
   have K2:Keeps h N HB (t2+1+1):=((k1.trans KA).trans k2).trans KB
   have j1:t1<t2+1+1:=by omega
   have j2:t1+1<t2+1+1:=by omega
   have j3:t2<t2+1+1:=by omega
   simp(disch:=first|(simp;done)|omega|rfl) [-getElem?_pos,p5,p6,p7,p8,Zam,splice,c1,hHB,gB1,gB2,gB3,gB4,Zaj,slc]
   refine Zac (Zjj X1 X2 (by omega) (by omega)) ?_
   rintro _ h3 t3 k3 X3
   have i3:=k3.le
   have gC2:=(k3.get (t2+1) (by omega)).trans gB2
   have gC4:=(k3.get (t1+1) (by omega)).trans gB4
   simp(disch:=first|(simp;done)|omega|rfl) [-getElem?_pos,gC2,gC4,Zaj,slc]
   refine Zac (Zjj (Y1.keep k3) (Y2.keep k3) (by rw[Yrz];omega) (by rw[Yrz];omega)) ?_
   rintro _ h4 t4 k4 X4
   have m1:=Zj9 (Zdn ha.1 hb.1)
   have m2:=Zj9 (Zdn (a:=(a.den:Int)) (b:=(b.den:Int)) (j:=j) (k:=k) (by rw[Yrz];exact ha.2) (by rw[Yrz];exact hb.2))
   simp(disch:=first|(simp;done)|omega|rfl) [-getElem?_pos,]
   refine Zac (Zm9 (X3.keep k4) X4 (Yvg (by omega) (by omega)) (by omega) (by omega)) ?_
   rintro _ h5 t5 k5 rfl
   have j4:t2+1<t3:=by omega
   have j5:t1+1<t3:=by omega
   rw[←Zos]
   have i1:=k1.le
   simp(disch:=first|(simp;done)|omega|rfl) [-getElem?_pos, -Zae,Zal.chk,j1,j2,j3,j4,j5,Ret]
   exact⟨Zm0 (by simp;omega),((K2.trans k3).trans k4).trans k5⟩
def A.b10:=A.q Tryz.f10
def A.k10:=@A.kk 10 63 [.tmp 4] A.b10 (by kernel_rfl) rfl
def Zny{a b:Rat}{j k:Nat}{h:T O}{N:Nat}(ha:Qb j a)(hb:Qb k b)(hj:j≤400000000)(hk:k≤400000000):Fn A.C 10 [.str (Zas a),.str (Zas b)] h N (fun u _ _=>u=.str (Zas (a+b))):=by
 intro w
 obtain⟨n1,d1,o1,hq1,f1⟩:=Zlv a
 obtain⟨n2,d2,o2,hq2,f2⟩:=Zlv b
 have pa:=Rat.den_pos a
 have pb:=Rat.den_pos b
 rw[Zaf,A.k10 (by simp)]
 have key:(o1=true∧o2=true)∨(o1=false∨(o1=true∧o2=false)):=by cases o1<;>cases o2<;>simp
 rcases key with⟨rfl,rfl⟩|key
 ·obtain⟨rfl,rfl,g1⟩:=f1 rfl
  obtain⟨rfl,rfl,g2⟩:=f2 rfl
  have m1:(a.num*(b.den:Int)).natAbs≤1000000000000000000:=by rw[Ytk,Yrz];exact Znb g1.1 g2.2
  have m4:(b.num*(a.den:Int)).natAbs≤1000000000000000000:=by rw[Ytk,Yrz];exact Znb g2.1 g1.2
  have m2:a.den*b.den≤1000000000000000000:=Znb g1.2 g2.2
  have m3:0<a.den*b.den:=Yuc pa pb
  have e2:(a.den:Int)*(b.den:Int)=((a.den*b.den:Nat):Int):=by simp
  have w1:Zap .i64 (a.num*(b.den:Int))=a.num*(b.den:Int):=Zah (by omega) (by omega)
  have w3:Zap .i64 (b.num*(a.den:Int))=b.num*(a.den:Int):=Zah (by omega) (by omega)
  have w2:Zap .i64 ((a.den:Int)*(b.den:Int))=(a.den:Int)*(b.den:Int):=by rw[e2];exact Zah (by omega) (by omega)
  have w4:Zap .i64 (a.num*(b.den:Int)+b.num*(a.den:Int))=a.num*(b.den:Int)+b.num*(a.den:Int):=Zah (by omega) (by omega)
  have ho:=fun st=>Ymm (p:=a.num*(b.den:Int)+b.num*(a.den:Int)) (q:=(a.den:Int)*(b.den:Int)) (st:=st) (by omega) (by omega) (by omega) (by omega) (by omega)
  rw[←Zo5]at ho
  simp(disch:=first|(simp;done)|omega|rfl) [-getElem?_pos,A.b10,hq1,hq2,w1,w2,w3,w4,ho,Ret]
  exact Keeps.refl
 ·have la:=Zgl ha.1
  have la2:=Zix ha.2
  have lb:=Zgl hb.1
  have lb2:=Zix hb.2
  have z1:=Zj9 ha.1
  have z2:=Zj9 hb.1
  have z3:=Zj9 ha.2
  have z4:=Zj9 hb.2
  rcases key with rfl|⟨rfl,rfl⟩
  all_goals simp(disch:=first|(simp;done)|omega|rfl) [-getElem?_pos,A.b10,hq1,hq2]
  all_goals
   refine Zac (Zjs (q:=a) (by omega) (by omega)) ?_
   rintro _ h1 t1 k1 ⟨x1,y1,rfl,X1,Y1⟩
   obtain⟨u1,rfl,p1,p2,F1⟩:=X1.ones
   obtain⟨v1,rfl,p3,p4,G1⟩:=Y1.ones
   unfold V.one at p1 p3
   unfold V.cells at p2 p4
   have KA:=((((Keeps.refl (h:=h1) (n:=t1)).new (.cells [.bool false,.nilslice] 92 true)).new (.cells [.bool false,.nilslice] 92 true)).set (i:=t1) (o:=.cells [.bool (decide (a.num<0)),u1] 92 true) (Yru _)).set (i:=t1+1) (o:=.cells [.bool (decide ((a.den:Int)<0)),v1] 92 true) (by omega)
   have c0:¬t1+1=t1:=by omega
   have c00:¬t1=t1+1:=by omega
   simp(disch:=first|(simp;done)|omega|rfl) [-getElem?_pos,p1,p2,p3,p4,Zam,splice,c0]
   generalize hHA:(((h1.set t1 (.cells [.bool false,.nilslice] 92 true)).set (t1+1) (.cells [.bool false,.nilslice] 92 true)).set t1 (.cells [.bool (decide (a.num<0)),u1] 92 true)).set (t1+1) (.cells [.bool (decide ((a.den:Int)<0)),v1] 92 true)=HA at*
   have gA1:HA.get t1=some (.cells [.bool (decide (a.num<0)),u1] 92 true):=by rw[←hHA];simp[c0,c00]
   have gA2:HA.get (t1+1)=some (.cells [.bool (decide ((a.den:Int)<0)),v1] 92 true):=by rw[←hHA];simp
   have X1:=X1.keep KA
   have Y1:=Y1.keep KA
   clear hHA
   refine Zac (Zjs (q:=b) (by omega) (by omega)) ?_
   rintro _ h2 t2 k2 ⟨x2,y2,rfl,X2,Y2⟩
   obtain⟨u2,rfl,p5,p6,F2⟩:=X2.ones
   obtain⟨v2,rfl,p7,p8,G2⟩:=Y2.ones
   unfold V.one at p5 p7
   unfold V.cells at p6 p8
   have KB:=((((Keeps.refl (h:=h2) (n:=t2)).new (.cells [.bool false,.nilslice] 92 true)).new (.cells [.bool false,.nilslice] 92 true)).set (i:=t2) (o:=.cells [.bool (decide (b.num<0)),u2] 92 true) (Yru _)).set (i:=t2+1) (o:=.cells [.bool (decide ((b.den:Int)<0)),v2] 92 true) (by omega)
   have c1:¬t2+1=t2:=by omega
   have c11:¬t2=t2+1:=by omega
   have i2:=k2.le
   generalize hHB:(((h2.set t2 (.cells [.bool false,.nilslice] 92 true)).set (t2+1) (.cells [.bool false,.nilslice] 92 true)).set t2 (.cells [.bool (decide (b.num<0)),u2] 92 true)).set (t2+1) (.cells [.bool (decide ((b.den:Int)<0)),v2] 92 true)=HB at*
   have gB1:HB.get t2=some (.cells [.bool (decide (b.num<0)),u2] 92 true):=by rw[←hHB];simp[c1,c11]
   have gB2:HB.get (t2+1)=some (.cells [.bool (decide ((b.den:Int)<0)),v2] 92 true):=by rw[←hHB];simp
   have gB3:=(KB.get t1 (by omega)).trans ((k2.get t1 (by omega)).trans gA1)
   have gB4:=(KB.get (t1+1) (by omega)).trans ((k2.get (t1+1) (by omega)).trans gA2)
   have X1:=(X1.keep k2).keep KB
   have Y1:=(Y1.keep k2).keep KB
   have X2:=X2.keep KB
   have Y2:=Y2.keep KB
   have K2:Keeps h N HB (t2+1+1):=((k1.trans KA).trans k2).trans KB
   have j1:t1<t2+1+1:=by omega
   have j2:t1+1<t2+1+1:=by omega
   have j3:t2<t2+1+1:=by omega
   simp(disch:=first|(simp;done)|omega|rfl) [-getElem?_pos,p5,p6,p7,p8,Zam,splice,c1,hHB,gB1,gB2,gB3,gB4,Zaj,slc]
   refine Zac (Zjj X1 Y2 (by omega) (by rw[Yrz];omega)) ?_
   rintro _ h3 t3 k3 X3
   have i3:=k3.le
   have gC1:=(k3.get t2 (by omega)).trans gB1
   have gC2:=(k3.get (t2+1) (by omega)).trans gB2
   have gC4:=(k3.get (t1+1) (by omega)).trans gB4
   simp(disch:=first|(simp;done)|omega|rfl) [-getElem?_pos,gC1,gC4,Zaj,slc]
   refine Zac (Zjj (X2.keep k3) (Y1.keep k3) (by omega) (by rw[Yrz];omega)) ?_
   rintro _ h4 t4 k4 X4
   have i4:=k4.le
   have b1:=Zdn (b:=(b.den:Int)) (k:=k) ha.1 (by rw[Yrz];exact hb.2)
   have b2:=Zdn (b:=(a.den:Int)) (k:=j) hb.1 (by rw[Yrz];exact ha.2)
   rw[Nat.add_comm k j]at b2
   have m1:=Zj9 b1
   have m2:=Zj9 b2
   have m3:=Zj9 (Zpt b1 b2)
   have m4:=Zj9 (Zdn (a:=(a.den:Int)) (b:=(b.den:Int)) (j:=j) (k:=k) (by rw[Yrz];exact ha.2) (by rw[Yrz];exact hb.2))
   simp(disch:=first|(simp;done)|omega|rfl) [-getElem?_pos,]
   refine Zac (Yjf (X3.keep k4) X4 (by omega) (by omega)) ?_
   rintro _ h5 t5 k5 X5
   have i5:=k5.le
   have gD2:=(k5.get (t2+1) (by omega)).trans ((k4.get (t2+1) (by omega)).trans gC2)
   have gD4:=(k5.get (t1+1) (by omega)).trans ((k4.get (t1+1) (by omega)).trans gC4)
   simp(disch:=first|(simp;done)|omega|rfl) [-getElem?_pos,gD2,gD4,Zaj,slc]
   refine Zac (Zjj (((Y1.keep k3).keep k4).keep k5) (((Y2.keep k3).keep k4).keep k5) (by rw[Yrz];omega) (by rw[Yrz];omega)) ?_
   rintro _ h6 t6 k6 X6
   simp(disch:=first|(simp;done)|omega|rfl) [-getElem?_pos,]
   refine Zac (Zm9 (X5.keep k6) X6 (Yvg (by omega) (by omega)) (by omega) (by omega)) ?_
   rintro _ h7 t7 k7 rfl
   have j4:t2+1<t3:=by omega
   have j5:t1+1<t3:=by omega
   have j6:t2<t3:=by omega
   have j7:t2+1<t5:=by omega
   have j8:t1+1<t5:=by omega
   rw[←Zo5]
   have i1:=k1.le
   simp(disch:=first|(simp;done)|omega|rfl) [-getElem?_pos, -Zae,Zal.chk,j1,j2,j3,j4,j5,j6,j7,j8,Ret]
   exact⟨Zm0 (by simp;omega),((((K2.trans k3).trans k4).trans k5).trans k6).trans k7⟩
def A.b210:=A.q Tryz.f210
def A.k210:=@A.kk 210 51 [.tmp 4,.tmp 5] A.b210 (by kernel_rfl) rfl
def Ymq{x y:Nat}(hx:x<18446744073709551616)(hy:y<18446744073709551616):addu (addu (mulu (shr64 x 32) (shr64 y 32)) (shr64 (addu (mulu (shr64 x 32) (and32 y)) (shr64 (mulu (and32 x) (and32 y)) 32)) 32)) (shr64 (addu (and32 (addu (mulu (shr64 x 32) (and32 y)) (shr64 (mulu (and32 x) (and32 y)) 32))) (mulu (and32 x) (shr64 y 32))) 32)=hi64 (x*y):=by
 simp only[addu,mulu,shr64,and32,hi64,Nat.reducePow]
 have ex:x=x/4294967296*4294967296+x%4294967296:=by omega
 have ey:y=y/4294967296*4294967296+y%4294967296:=by omega
 have hx0:x%4294967296<4294967296:=Ys2 _ (by decide)
 have hy0:y%4294967296<4294967296:=Ys2 _ (by decide)
 have hx1:x/4294967296<4294967296:=by omega
 have hy1:y/4294967296<4294967296:=by omega
 generalize x/4294967296=x1 at*
 generalize x%4294967296=x0 at*
 generalize y/4294967296=y1 at*
 generalize y%4294967296=y0 at*
 have a1:x0*y0≤4294967295*4294967295:=Ysp (by omega) (by omega)
 have a2:x1*y0≤4294967295*4294967295:=Ysp (by omega) (by omega)
 have a3:x0*y1≤4294967295*4294967295:=Ysp (by omega) (by omega)
 have a4:x1*y1≤4294967295*4294967295:=Ysp (by omega) (by omega)
 have e:x*y=x1*y1*18446744073709551616+(x1*y0+x0*y1)*4294967296+x0*y0:=by
  subst ex;subst ey
  grind
 rw[e]
 generalize x0*y0=p at*
 generalize x1*y0=q at*
 generalize x0*y1=u at*
 generalize x1*y1=z at*
 omega
def Zjy{h:T O}{N:Nat}{x y:Nat}(hx:x<18446744073709551616)(hy:y<18446744073709551616):Fn A.C 210 [.int .u64 x,.int .u64 y] h N (fun v' h' N'=>h'=h∧N'=N∧v'=.tup [.int .u64 (hi64 (x*y):Nat),.int .u64 (lo64 (x*y):Nat)]):=by
 intro w
 rw[Zaf,A.k210 (by simp)]
 simp(disch:=first|(simp;done)|omega|(simp only[Zab,Zaa,Yrr];omega)|rfl) [-getElem?_pos,A.b210]
 rw[Ymq hx hy]
 exact⟨rfl,Keeps.refl,rfl,rfl,rfl⟩
def A.w238:=A.q Tryz.f238
def A.lb238_0:=A.ql A.w238 0 []
def A.b238:=(fun x0=>A.qb A.w238 [x0]) A.lb238_0
def A.k238:=@A.kk 238 21 [.tmp 2] A.b238 (by kernel_rfl) rfl
def Zfy{h:T O}{N:Nat}{v:V}{l:List Nat}(hs:Sl h N v (dg l))(hl:l.length<1152921504606846976):Fn A.C 238 [v] h N (fun v' h' N'=>Sl h' N' v' (dg (Zgt l))):=by
 intro w
 have hlen:=hs.len
 rw[Zab]at hlen
 rw[Zaf,A.k238 (by simp)]
 simp[A.b238,hlen]
 refine Zak [(3,3),(6,17)] (fun e r st=>e=.exit 0∧st=⟨h,N,[]⟩∧∃k,k≤l.length∧r.get 3=some (.int .i64 k)∧Zgt l=l.take k) (fun k r st=>st=⟨h,N,[]⟩∧k≤l.length∧r.get 3=some (.int .i64 k)∧Zgt (l.take k)=Zgt l) l.length ?_ ?_ ?_
 ·exact⟨rfl,Yru _,by simp,by simp⟩
 ·rintro k r _ hr hf ⟨rfl,hk,h3,ht⟩
  rw[Zai]
  cases k with
  |zero=>
   have:Zgt l=[]:=ht.symm
   simp[A.lb238_0,h3,hf,this]
   exact⟨0,by omega,rfl,.inl rfl⟩
  |succ k=>
   obtain⟨d,hd⟩:∃d,l[k]?=some d:=⟨_,Yrx (by omega)⟩
   obtain⟨i,o,c,e,rw,q1,q2,q3,q4⟩:=hs.at (Za9 hd)
   have e1:l.take (k+1)=l.take k++[d]:=by rw[Yup,hd];rfl
   have k1:(0:Int)<(k:Int)+1:=by omega
   have k2:(k:Int)<(l.length:Int):=by omega
   by_cases h0:d=0
   ·subst h0
    rw[e1,Zoc]at ht
    simp(disch:=first|(simp;done)|omega|(simp only[Zab,Zaa,Yrr];omega)|rfl) [-getElem?_pos,A.lb238_0,h3,hr,hf,k1,k2,hlen,q1,q3,q4,Zag]
    exact⟨k,by omega,by omega,rfl,ht⟩
   ·rw[e1,Zod h0]at ht
    have hz:((d:Int)==0)=false:=by simp;omega
    simp(disch:=first|(simp;done)|omega|(simp only[Zab,Zaa,Yrr];omega)|rfl) [-getElem?_pos,A.lb238_0,h3,hr,hf,k1,k2,hlen,q1,q3,q4,Zag,hz]
    exact⟨k+1,hk,rfl,by rw[e1];exact ht.symm⟩
 ·rintro _ r _ hr ⟨rfl,rfl,k,hk,h3,ht⟩
  simp[hr,h3,Zef,evOpt]
  obtain⟨v',e1,e2⟩:=Zjn (w:=[]) hs (lo:=0) (hi:=k) (Yum _) (by rw[Zab];exact hk) none (some (.int .i64 k)) (.inr ⟨rfl,rfl⟩) (.inl rfl)
  rw[e1]
  simp[Ret]
  refine⟨Keeps.refl,?_⟩
  rw[ht,show dg (l.take k)=(dg l).take k by simp[dg]]
  exact e2
def A.w222:=A.q Tryz.f222
def A.lb222_0:=A.ql A.w222 0 []
def A.b222:=(fun x0=>A.qb A.w222 [x0]) A.lb222_0
def A.k222:=@A.kk 222 54 [.tmp 4] A.b222 (by kernel_rfl) rfl
structure Yp6 (h:T O) (N x y k:Nat) (o:List Nat) (c:Nat) (r:T V) (st:St):Prop where
 hk:k≤(wds x).length
 r22:r.get 22=some (.int .i64 k)
 r6:r.get 6=some (.int .u64 c)
 n:st.n=N+1
 w:Zae N st.w=[]
 keep:Keeps h N st.h (N+1)
 row:st.h.get N=some (.cells (dg o) 217 true)
 len:o.length=(wds x).length+1
 ex:∃d,d.length=k∧o=d++List.replicate ((wds x).length+1-k) 0∧val B d+B^k*c=val B ((wds x).take k)+val B ((wds y).take k)∧c≤1∧Dg d
def Yp7(h:T O)(N x y m:Nat)(r:T V)(st:St):Prop:=∃k o c,m=(wds x).length-k∧Yp6 h N x y k o c r st
def Yp8(h:T O)(N x y:Nat)(r:T V)(st:St):Prop:=∃o c,Yp6 h N x y (wds x).length o c r st
def Ydt{x y o d:List Nat}{k c xk:Nat}(hx:x[k]?=some xk)(d1:d.length=k)(d2:o=d++List.replicate (x.length+1-k) 0)(d3:val B d+B^k*c=val B (x.take k)+val B (y.take k))(d4:c≤1)(d5:Dg d)(gx:Dg x)(gy:Dg y):
  (d++[lo64 (xk+dz y k+c)]).length=k+1∧o.set k (lo64 (xk+dz y k+c))=(d++[lo64 (xk+dz y k+c)])++List.replicate (x.length+1-(k+1)) 0∧val B (d++[lo64 (xk+dz y k+c)])+B^(k+1)*hi64 (xk+dz y k+c)=val B (x.take (k+1))+val B (y.take (k+1))∧hi64 (xk+dz y k+c)≤1∧Dg (d++[lo64 (xk+dz y k+c)]):=by
 have hk:k<x.length:=by
  apply Ys6;intro hc;rw[Yr6 hc]at hx;cases hx
 have hxk:=gx.get hx
 have hyk:=Ync gy k
 have hm:=Ytc (xk+dz y k+c) B
 refine⟨by simp[d1],?_,?_,?_,?_⟩
 ·rw[d2,show x.length+1-k=(x.length-k)+1 by omega,Zpi d1,show x.length+1-(k+1)=x.length-k by omega]
 ·rw[Zln,Zb8,Zb8,d1,show dz x k=xk by simp[dz,hx]]
  have e1:lo64 (xk+dz y k+c)=(xk+dz y k+c)%B:=rfl
  have e2:hi64 (xk+dz y k+c)=(xk+dz y k+c)/B:=rfl
  rw[e1,e2,Ysg]
  generalize (xk+dz y k+c)%B=lo at*
  generalize (xk+dz y k+c)/B=hi at*
  generalize B^k=p at*
  have:p*(B*hi+lo)=p*(xk+dz y k+c):=by rw[hm]
  grind
 ·show (xk+dz y k+c)/B≤1
  unfold B at*;omega
 ·intro e he
  rcases Ysq.1 he with he|he
  ·exact d5 e he
  ·simp at he;subst he;exact Ys2 _ (by decide)
def Yib{x y:Nat}{o d:List Nat}{c:Nat}(hl:(wds y).length≤(wds x).length)(d1:d.length=(wds x).length)(d2:o=d++List.replicate ((wds x).length+1-(wds x).length) 0)(d3:val B d+B^(wds x).length*c=val B ((wds x).take (wds x).length)+val B ((wds y).take (wds x).length))(d4:c≤1)(d5:Dg d):Zgt (o.set (wds x).length c)=wds (x+y):=by
 rw[d2,show (wds x).length+1-(wds x).length=0+1 by omega,Zpi d1]
 simp only[List.replicate_zero,Ytz]
 rw[Zdi,Zln,d1,d3,Yr2 (Yru _),Yr2 hl,Zbq,Zbq]
 intro e he
 rcases Ysq.1 he with he|he
 ·exact d5 e he
 ·simp at he;subst he;unfold B;omega
def Zur{h:T O}{N:Nat}{vx vy:V}{x y:Nat}(hx:Wn h N vx x)(hy:Wn h N vy y)(hxl:(wds x).length<1099511627776)(hyl:(wds y).length<1099511627776):Fn A.C 222 [vx,vy] h N (fun v' h' N'=>Wn h' N' v' (x+y)):=by
 intro w
 have lx:=hx.len
 have ly:=hy.len
 rw[Zab]at lx ly
 rw[Zaf,A.k222 (by simp)]
 by_cases hl:(wds x).length<(wds y).length
 ·simp(disch:=first|(simp;done)|omega|(simp only[Zab,Zaa,Yrr];omega)|rfl) [-getElem?_pos,A.b222,lx,ly,hl]
  refine Zak [(6,8),(22,46)] (fun e r st=>e=.exit 0∧Yp8 h N y x r st) (Yp7 h N y x) (wds y).length ?_ ?_ ?_
  ·refine⟨0,List.replicate ((wds y).length+1) 0,0,by omega,⟨by omega,by simp,by simp,by simp,by simp,Keeps.refl.set (Yru _) |>.up (by omega),by simp[Zgj],by simp,[],by simp,by simp,by simp[val],by decide,by simp[Dg]⟩⟩
  ·rintro m r ⟨H,n1,W⟩ hr hf ⟨k,o,c,rfl,hk,h22,h6,hn,hW,hK,hN,ho,d,hd⟩
   simp only at hn hW hK hN
   subst hn
   rw[Zai]
   by_cases hlt:k<(wds y).length
   ·obtain⟨i1,o1,c1,e1,w1,p1,p2,p3,p4⟩:=hy.at (Za9 (Yrx hlt))
    have p3:=(hK.get _ p2).trans p3
    obtain⟨d1,d2,d3,d4,d5⟩:=hd
    have hsp:=Ydt (x:=wds y) (y:=wds x) (Yrx hlt) d1 d2 d3 d4 d5 (Zdh y) (Zdh x)
    by_cases hky:k<(wds x).length
    ·obtain⟨i2,o2,c2,e2,w2,q1,q2,q3,q4⟩:=hx.at (Za9 (Yrx hky))
     have q3:=(hK.get _ q2).trans q3
     have hz:dz (wds x) k=(wds x)[k]:=by simp[dz,Yrx hky]
     rw[hz]at hsp
     simp(disch:=first|(simp;done)|omega|(simp only[Zab,Zaa,Yrr];omega)|rfl) [-getElem?_pos,A.lb222_0,hr,h22,h6,hlt,hky,ly,lx,p1,p3,p4,q1,q3,q4,hN,Zcx,hf]
     exact⟨_,by omega,k+1,_,_,rfl,⟨by omega,by simp,by simp,rfl,by simp[hW],hK.set (Yru _),by simp,by simp[ho],_,hsp⟩⟩
    ·have hz:dz (wds x) k=0:=by simp[dz,Yr6 (Yuw.1 hky)]
     rw[hz]at hsp
     simp(disch:=first|(simp;done)|omega|(simp only[Zab,Zaa,Yrr];omega)|rfl) [-getElem?_pos,A.lb222_0,hr,h22,h6,hlt,hky,ly,lx,p1,p3,p4,hN,Zcx,hf]
     exact⟨_,by omega,k+1,_,_,rfl,⟨by omega,by simp,by simp,rfl,by simp[hW],hK.set (Yru _),by simp,by simp[ho],_,hsp⟩⟩
   ·have hkx:k=(wds y).length:=by omega
    subst hkx
    simp(disch:=first|(simp;done)|omega|(simp only[Zab,Zaa,Yrr];omega)|rfl) [-getElem?_pos,A.lb222_0,hr,h22,hf]
    exact⟨o,c,⟨by omega,by simp[h22],by simp[h6],rfl,by simp[hW],hK,hN,ho,d,hd⟩⟩
  ·rintro _ r ⟨H,n1,W⟩ hr ⟨rfl,o,c,hk,h22,h6,hn,hW,hK,hN,ho,d,d1,d2,d3,d4,d5⟩
   simp only at hn hW hK hN
   subst hn
   simp(disch:=first|(simp;done)|omega|(simp only[Zab,Zaa,Yrr];omega)|rfl) [-getElem?_pos,hr,h6,ly,hN,Zcx]
   refine Zac (Zfy (l:=o.set (wds y).length c) (Sl.row (e:=217) (rw:=true) (by omega) (by simp) (by simp[ho]) (by simp)) (by simp[ho];omega)) ?_
   intro v' h' n' hk' hs
   simp(disch:=first|(simp;done)|omega|(simp only[Zab,Zaa,Yrr];omega)|rfl) [-getElem?_pos,Ret]
   refine⟨hW,(hK.set (Yru _)).trans hk',?_⟩
   rw[Yib (by omega) d1 d2 d3 d4 d5]at hs
   exact(Nat.add_comm y x▸hs)
 ·simp(disch:=first|(simp;done)|omega|(simp only[Zab,Zaa,Yrr];omega)|rfl) [-getElem?_pos,A.b222,lx,ly,hl]
  refine Zak [(6,8),(22,46)] (fun e r st=>e=.exit 0∧Yp8 h N x y r st) (Yp7 h N x y) (wds x).length ?_ ?_ ?_
  ·refine⟨0,List.replicate ((wds x).length+1) 0,0,by omega,⟨by omega,by simp,by simp,by simp,by simp,Keeps.refl.set (Yru _) |>.up (by omega),by simp[Zgj],by simp,[],by simp,by simp,by simp[val],by decide,by simp[Dg]⟩⟩
  ·rintro m r ⟨H,n1,W⟩ hr hf ⟨k,o,c,rfl,hk,h22,h6,hn,hW,hK,hN,ho,d,hd⟩
   simp only at hn hW hK hN
   subst hn
   rw[Zai]
   by_cases hlt:k<(wds x).length
   ·obtain⟨i1,o1,c1,e1,w1,p1,p2,p3,p4⟩:=hx.at (Za9 (Yrx hlt))
    have p3:=(hK.get _ p2).trans p3
    obtain⟨d1,d2,d3,d4,d5⟩:=hd
    have hsp:=Ydt (x:=wds x) (y:=wds y) (Yrx hlt) d1 d2 d3 d4 d5 (Zdh x) (Zdh y)
    by_cases hky:k<(wds y).length
    ·obtain⟨i2,o2,c2,e2,w2,q1,q2,q3,q4⟩:=hy.at (Za9 (Yrx hky))
     have q3:=(hK.get _ q2).trans q3
     have hz:dz (wds y) k=(wds y)[k]:=by simp[dz,Yrx hky]
     rw[hz]at hsp
     simp(disch:=first|(simp;done)|omega|(simp only[Zab,Zaa,Yrr];omega)|rfl) [-getElem?_pos,A.lb222_0,hr,h22,h6,hlt,hky,lx,ly,p1,p3,p4,q1,q3,q4,hN,Zcx,hf]
     exact⟨_,by omega,k+1,_,_,rfl,⟨by omega,by simp,by simp,rfl,by simp[hW],hK.set (Yru _),by simp,by simp[ho],_,hsp⟩⟩
    ·have hz:dz (wds y) k=0:=by simp[dz,Yr6 (Yuw.1 hky)]
     rw[hz]at hsp
     simp(disch:=first|(simp;done)|omega|(simp only[Zab,Zaa,Yrr];omega)|rfl) [-getElem?_pos,A.lb222_0,hr,h22,h6,hlt,hky,lx,ly,p1,p3,p4,hN,Zcx,hf]
     exact⟨_,by omega,k+1,_,_,rfl,⟨by omega,by simp,by simp,rfl,by simp[hW],hK.set (Yru _),by simp,by simp[ho],_,hsp⟩⟩
   ·have hkx:k=(wds x).length:=by omega
    subst hkx
    simp(disch:=first|(simp;done)|omega|(simp only[Zab,Zaa,Yrr];omega)|rfl) [-getElem?_pos,A.lb222_0,hr,h22,hf]
    exact⟨o,c,⟨by omega,by simp[h22],by simp[h6],rfl,by simp[hW],hK,hN,ho,d,hd⟩⟩
  ·rintro _ r ⟨H,n1,W⟩ hr ⟨rfl,o,c,hk,h22,h6,hn,hW,hK,hN,ho,d,d1,d2,d3,d4,d5⟩
   simp only at hn hW hK hN
   subst hn
   simp(disch:=first|(simp;done)|omega|(simp only[Zab,Zaa,Yrr];omega)|rfl) [-getElem?_pos,hr,h6,lx,hN,Zcx]
   refine Zac (Zfy (l:=o.set (wds x).length c) (Sl.row (e:=217) (rw:=true) (by omega) (by simp) (by simp[ho]) (by simp)) (by simp[ho];omega)) ?_
   intro v' h' n' hk' hs
   simp(disch:=first|(simp;done)|omega|(simp only[Zab,Zaa,Yrr];omega)|rfl) [-getElem?_pos,Ret]
   refine⟨hW,(hK.set (Yru _)).trans hk',?_⟩
   rw[Yib (by omega) d1 d2 d3 d4 d5]at hs
   exact hs
def A.w224:=A.q Tryz.f224
def A.lb224_0:=A.ql A.w224 0 []
def A.b224:=(fun x0=>A.qb A.w224 [x0]) A.lb224_0
def A.k224:=@A.kk 224 41 [.tmp 4] A.b224 (by kernel_rfl) rfl
def Zc9{a b:Nat}(h:a≤b):(wds a).length≤(wds b).length:=by
 apply Ytr
 intro hc
 have h1:=Zk4 (b:=B) (Zdh b)
 rw[Zbq]at h1
 have h2:∀n,n≠0→B^((wds n).length-1)≤n:=by
  intro n
  induction n using Nat.strongRecOn with
  |_ n ih=>
   intro hn
   rw[Zbr hn]
   by_cases h0:n/B=0
   ·rw[h0,Zbp];simp;omega
   ·have:=ih (n/B) (Yus (by omega) (by decide)) h0
    have hp:0<(wds (n/B)).length:=by rw[Zbr h0];simp
    simp only[Yrr,Nat.add_sub_cancel]
    rw[show (wds (n/B)).length=((wds (n/B)).length-1)+1 by omega,Ysg]
    have h3:B^((wds (n/B)).length-1)*B≤n/B*B:=Ysb B this
    have:=Nat.div_mul_le_self n B
    omega
 have ha:a≠0:=by
  rintro rfl
  rw[Zbp]at hc;simp at hc
 have h3:=h2 a ha
 have h4:B^(wds b).length≤B^((wds a).length-1):=Ysu (by decide) (by omega)
 omega
structure Yp3 (h:T O) (N x y k:Nat) (o:List Nat) (c:Nat) (r:T V) (st:St):Prop where
 hk:k≤(wds x).length
 r14:r.get 14=some (.int .i64 k)
 r6:r.get 6=some (.int .u64 c)
 n:st.n=N+1
 w:Zae N st.w=[]
 keep:Keeps h N st.h (N+1)
 row:st.h.get N=some (.cells (dg o) 217 true)
 len:o.length=(wds x).length
 ex:∃d,d.length=k∧o=d++List.replicate ((wds x).length-k) 0∧val B d+val B ((wds y).take k)=val B ((wds x).take k)+B^k*c∧c≤1∧Dg d
def Yri(h:T O)(N x y m:Nat)(r:T V)(st:St):Prop:=∃k o c,m=(wds x).length-k∧Yp3 h N x y k o c r st
def Yrj(h:T O)(N x y:Nat)(r:T V)(st:St):Prop:=∃o c,Yp3 h N x y (wds x).length o c r st
def Yis{x y o d:List Nat}{k c xk:Nat}(hx:x[k]?=some xk)(d1:d.length=k)(d2:o=d++List.replicate (x.length-k) 0)(d3:val B d+val B (y.take k)=val B (x.take k)+B^k*c)(d4:c≤1)(d5:Dg d)(gx:Dg x)(gy:Dg y):
  (d++[sb64 xk (dz y k) c]).length=k+1∧o.set k (sb64 xk (dz y k) c)=(d++[sb64 xk (dz y k) c])++List.replicate (x.length-(k+1)) 0∧val B (d++[sb64 xk (dz y k) c])+val B (y.take (k+1))=val B (x.take (k+1))+B^(k+1)*bw64 xk (dz y k) c∧bw64 xk (dz y k) c≤1∧Dg (d++[sb64 xk (dz y k) c]):=by
 have hk:k<x.length:=by
  apply Ys6;intro hc;rw[Yr6 hc]at hx;cases hx
 have hxk:=gx.get hx
 have hyk:=Ync gy k
 have hs:sb64 xk (dz y k) c+dz y k+c=xk+B*bw64 xk (dz y k) c∧sb64 xk (dz y k) c<B∧bw64 xk (dz y k) c≤1:=by
  unfold sb64 bw64
  unfold B at*
  split<;>omega
 refine⟨by simp[d1],?_,?_,hs.2.2,?_⟩
 ·rw[d2,show x.length-k=(x.length-(k+1))+1 by omega,Zpi d1]
 ·rw[Zln,Zb8,Zb8,d1,show dz x k=xk by simp[dz,hx],Ysg]
  have h1:=hs.1
  generalize sb64 xk (dz y k) c=s at*
  generalize bw64 xk (dz y k) c=b at*
  generalize B^k=p at*
  have:p*(s+dz y k+c)=p*(xk+B*b):=by rw[h1]
  grind
 ·intro e he
  rcases Ysq.1 he with he|he
  ·exact d5 e he
  ·simp at he;subst he;exact hs.2.1
def Yl4{x y:Nat}{o d:List Nat}{c:Nat}(hl:y≤x)(d1:d.length=(wds x).length)(d2:o=d++List.replicate ((wds x).length-(wds x).length) 0)(d3:val B d+val B ((wds y).take (wds x).length)=val B ((wds x).take (wds x).length)+B^(wds x).length*c)(d4:c≤1)(d5:Dg d):Zgt o=wds (x-y):=by
 rw[d2,Nat.sub_self]
 simp only[List.replicate_zero,Ytz]
 rw[Zdi d5]
 congr 1
 rw[Yr2 (Yru _),Yr2 (Zc9 hl),Zbq,Zbq]at d3
 have:=Zk4 d5
 rw[d1]at this
 rcases Nat.lt_or_ge c 1 with hc|hc
 ·have:c=0:=by omega
  subst this
  simp at d3;omega
 ·have:c=1:=by omega
  subst this
  omega
def Zme{h:T O}{N:Nat}{vx vy:V}{x y:Nat}(hx:Wn h N vx x)(hy:Wn h N vy y)(hxy:y≤x)(hxl:(wds x).length<1099511627776)(hyl:(wds y).length<1099511627776):Fn A.C 224 [vx,vy] h N (fun v' h' N'=>Wn h' N' v' (x-y)):=by
 intro w
 have lx:=hx.len
 have ly:=hy.len
 rw[Zab]at lx ly
 rw[Zaf,A.k224 (by simp)]
 simp(disch:=first|(simp;done)|omega|(simp only[Zab,Zaa,Yrr];omega)|rfl) [-getElem?_pos,A.b224,lx,ly]
 refine Zak [(6,8),(14,38)] (fun e r st=>e=.exit 0∧Yrj h N x y r st) (Yri h N x y) (wds x).length ?_ ?_ ?_
 ·refine⟨0,List.replicate (wds x).length 0,0,by omega,⟨by omega,by simp,by simp,by simp,by simp,Keeps.refl.set (Yru _) |>.up (by omega),by simp[Zgj],by simp,[],by simp,by simp,by simp[val],by decide,by simp[Dg]⟩⟩
 ·rintro m r ⟨H,n1,W⟩ hr hf ⟨k,o,c,rfl,hk,h22,h6,hn,hW,hK,hN,ho,d,hd⟩
  simp only at hn hW hK hN
  subst hn
  rw[Zai]
  by_cases hlt:k<(wds x).length
  ·obtain⟨i1,o1,c1,e1,w1,p1,p2,p3,p4⟩:=hx.at (Za9 (Yrx hlt))
   have p3:=(hK.get _ p2).trans p3
   obtain⟨d1,d2,d3,d4,d5⟩:=hd
   have hsp:=Yis (x:=wds x) (y:=wds y) (Yrx hlt) d1 d2 d3 d4 d5 (Zdh x) (Zdh y)
   by_cases hky:k<(wds y).length
   ·obtain⟨i2,o2,c2,e2,w2,q1,q2,q3,q4⟩:=hy.at (Za9 (Yrx hky))
    have q3:=(hK.get _ q2).trans q3
    have hz:dz (wds y) k=(wds y)[k]:=by simp[dz,Yrx hky]
    rw[hz]at hsp
    simp(disch:=first|(simp;done)|omega|(simp only[Zab,Zaa,Yrr];omega)|rfl) [-getElem?_pos,A.lb224_0,hr,h22,h6,hlt,hky,lx,ly,p1,p3,p4,q1,q3,q4,hN,Zcx,hf]
    exact⟨_,by omega,k+1,_,_,rfl,⟨by omega,by simp,by simp,rfl,by simp[hW],hK.set (Yru _),by simp,by simp[ho],_,hsp⟩⟩
   ·have hz:dz (wds y) k=0:=by simp[dz,Yr6 (Yuw.1 hky)]
    rw[hz]at hsp
    simp(disch:=first|(simp;done)|omega|(simp only[Zab,Zaa,Yrr];omega)|rfl) [-getElem?_pos,A.lb224_0,hr,h22,h6,hlt,hky,lx,ly,p1,p3,p4,hN,Zcx,hf]
    exact⟨_,by omega,k+1,_,_,rfl,⟨by omega,by simp,by simp,rfl,by simp[hW],hK.set (Yru _),by simp,by simp[ho],_,hsp⟩⟩
  ·have hkx:k=(wds x).length:=by omega
   subst hkx
   simp(disch:=first|(simp;done)|omega|(simp only[Zab,Zaa,Yrr];omega)|rfl) [-getElem?_pos,A.lb224_0,hr,h22,hf]
   exact⟨o,c,⟨by omega,by simp[h22],by simp[h6],rfl,by simp[hW],hK,hN,ho,d,hd⟩⟩
 ·rintro _ r ⟨H,n1,W⟩ hr ⟨rfl,o,c,hk,h22,h6,hn,hW,hK,hN,ho,d,d1,d2,d3,d4,d5⟩
  simp only at hn hW hK hN
  subst hn
  simp(disch:=first|(simp;done)|omega|(simp only[Zab,Zaa,Yrr];omega)|rfl) [-getElem?_pos,hr,h6,lx,hN]
  refine Zac (Zfy (l:=o) (Sl.row (e:=217) (rw:=true) (by omega) (by simp[hN]) (by simp[ho]) (by simp)) (by simp[ho];omega)) ?_
  intro v' h' n' hk' hs
  simp(disch:=first|(simp;done)|omega|(simp only[Zab,Zaa,Yrr];omega)|rfl) [-getElem?_pos,Ret]
  refine⟨hW,hK.trans hk',?_⟩
  rw[Yl4 hxy d1 d2 d3 d4 d5]at hs
  exact hs
end
end Go.Mx
