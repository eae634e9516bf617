/-
  lensletref01: Mul.
-/
import Derived.Test.YtlbophlgohokkaaGreatDoorRcF
import Derived.Test.YtlbophlgohokkaaGreatDoorNaC
set_option linter.all false
namespace Go.Mx
open Go Go.Proofs
variable {j:Nat}
set_option maxHeartbeats 2000000
set_option maxRecDepth 1000000
def A.b96:Zae:=sr [⟨(some 4),.mov (.const (.str [])),none⟩]
 (sr [mv 16 0,c1 17 162 16,mv 15 17,xt 18 15 0,xt 19 15 1,xt 20 15 2,mv 5 18,mv 6 19,mv 7 20]
 (sr [mv 22 1,c1 23 162 22,mv 21 23,xt 24 21 0,xt 25 21 1,xt 26 21 2,mv 8 24,mv 9 25,mv 10 26]
 (.seq (sr [mv 27 7,mv 28 27,mg 29 10 28,pf 30 28 29]
 (cd 30
 (sr [mv 31 5,mv 32 8,bi 33 .mul 31 32,mv 34 6,mv 35 9,bi 36 .mul 34 35,c2 37 163 33 36,mv 4 37]
 (.ret))
 (.skip)))
 (sr [mv 39 0,c1 40 160 39,mv 38 40,xt 41 38 0,xt 42 38 1,⟨(some 11),.alloc [(.bool false),.nilslice] 175,none⟩,⟨(some 12),.alloc [(.bool false),.nilslice] 175,none⟩,⟨none,.store 2 (.tmp 11) (.tmp 41),none⟩,⟨none,.store 2 (.tmp 12) (.tmp 42),none⟩]
 (sr [mv 44 1,c1 45 160 44,mv 43 45,xt 46 43 0,xt 47 43 1,⟨(some 13),.alloc [(.bool false),.nilslice] 175,none⟩,⟨(some 14),.alloc [(.bool false),.nilslice] 175,none⟩,⟨none,.store 2 (.tmp 13) (.tmp 46),none⟩,⟨none,.store 2 (.tmp 14) (.tmp 47),none⟩]
 (.seq (.regD [lN 48 2 11,lN 49 2 13,c2 50 166 48 49,lN 51 2 12,lN 52 2 14,c2 53 166 51 52,c2 54 164 50 53,mv 4 54] [0,0,3,0,0,31,63,127])
 (.ret)))))))
theorem A.c96:A.F 96=some ⟨55,[.tmp 4],A.b96⟩:=by kernel_rfl
def A.k96:=@A.kk 96 _ _ _ A.c96 rfl
theorem Znp(a b:Rat):a*b=Rat.divInt (a.num*b.num) ((a.den:Int)*(b.den:Int)):=by
 rw[Rat.mul_def,Rat.normalize_eq_mkRat,←Rat.divInt_ofNat]
 simp
theorem Zny(a b:Rat):a+b=Rat.divInt (a.num*(b.den:Int)+b.num*(a.den:Int)) ((a.den:Int)*(b.den:Int)):=by
 rw[Rat.add_def,Rat.normalize_eq_mkRat,←Rat.divInt_ofNat]
 simp
theorem Zma{a b:Nat}(h1:a<1000000000)(h2:b<1000000000):a*b≤1000000000000000000:=by
 have:=Yq0 (Nat.le_of_lt h1) (Nat.le_of_lt h2)
 omega
theorem Zkx(q:Rat):∃(n d:Int) (o:Bool),(∀st,A.C.call (.func 162 [] []) [.str (Zax q)] st=some (.tup [.int .i64 n,.int .i64 d,.bool o],st))∧(o=true→n=q.num∧d=(q.den:Int)∧q.num.natAbs<1000000000∧q.den<1000000000):=by
 by_cases f:q.num.natAbs<1000000000∧q.den<1000000000
 ·exact⟨q.num,q.den,true,fun st=>by rw[Ztp,Yo4 f],fun _=>⟨rfl,rfl,f⟩⟩
 ·exact⟨0,0,false,fun st=>by rw[Ztp,Yo0 f],fun h=>by cases h⟩
theorem Rg.ones{h:T O}{N:Nat}{v:V}{z:Int}(s:Rg h N v z):∃u,v=.agg [.bool (decide (z<0)),u]∧V.one u=true∧V.cells u=[u]∧SlF u:=by
 obtain⟨u,rfl,hu⟩:=s
 exact⟨u,rfl,(Sl.form hu).one,(Sl.form hu).cells,Sl.form hu⟩
theorem Zde{a b:Int}{k:Nat}(h1:a.natAbs<2^j)(h2:b.natAbs<2^k):(a*b).natAbs<2^(j+k):=by
 rw[Yqt,Yqc]
 exact Yrq h1 h2
theorem Zom{a b:Int}(h1:a.natAbs<2^j)(h2:b.natAbs<2^j):(a+b).natAbs<2^(j+1):=by
 have:=Int.natAbs_add_le a b
 rw[Ypn];omega
theorem Yhi{a b:Rat}{k:Nat}{h:T O}{N:Nat}(ha:Qb j a)(hb:Qb k b)(hj:j≤400000)(hk:k≤400000):Fn A.C 96 [.str (Zax a),.str (Zax b)] h N (fun u _ _=>u=.str (Zax (a*b))):=by
 intro w
 obtain⟨n1,d1,o1,hq1,f1⟩:=Zkx a
 obtain⟨n2,d2,o2,hq2,f2⟩:=Zkx b
 have pa:=Rat.den_pos a
 have pb:=Rat.den_pos b
 rw[Zab,A.k96 (by simp)]
 have key:(o1=true∧o2=true)∨(o1=false∨(o1=true∧o2=false)):=by cases o1<;>cases o2<;>simp
 rcases key with⟨rfl,rfl⟩|key
 ·obtain⟨rfl,rfl,g1⟩:=f1 rfl
  obtain⟨rfl,rfl,g2⟩:=f2 rfl
  have m1:(a.num*b.num).natAbs≤1000000000000000000:=by rw[Yqt];exact Zma g1.1 g2.1
  have m2:a.den*b.den≤1000000000000000000:=Zma g1.2 g2.2
  have m3:0<a.den*b.den:=Ysa pa pb
  have e2:(a.den:Int)*(b.den:Int)=((a.den*b.den:Nat):Int):=by simp
  have w1:Zaq .i64 (a.num*b.num)=a.num*b.num:=Zai (by omega) (by omega)
  have w2:Zaq .i64 ((a.den:Int)*(b.den:Int))=(a.den:Int)*(b.den:Int):=by rw[e2];exact Zai (by omega) (by omega)
  have ho:=fun st=>Yke (p:=a.num*b.num) (q:=(a.den:Int)*(b.den:Int)) (st:=st) (by omega) (by omega) (by omega) (by omega) (by omega)
  rw[←Znp]at ho
  simp[A.b96,hq1,hq2,w1,w2,ho,Ret]
  exact Keeps.refl
 ·have la:=Zie ha.1
  have la2:=Zgu ha.2
  have lb:=Zie hb.1
  have lb2:=Zgu hb.2
  have z1:=Zhi ha.1
  have z2:=Zhi hb.1
  have z3:=Zhi ha.2
  have z4:=Zhi hb.2
  rcases key with rfl|⟨rfl,rfl⟩
  all_goals simp[A.b96,hq1,hq2]
  all_goals
   refine Zac (Zgh (q:=a) (by omega) (by omega)) ?_
   rintro _ h1 t1 k1 ⟨x1,y1,rfl,X1,Y1⟩
   obtain⟨u1,rfl,p1,p2,F1⟩:=X1.ones
   obtain⟨v1,rfl,p3,p4,G1⟩:=Y1.ones
   unfold V.one at p1 p3
   unfold V.cells at p2 p4
   have KA:=((((Keeps.refl (h:=h1) (n:=t1)).new (.cells [.bool false,.nilslice] 175 true)).new (.cells [.bool false,.nilslice] 175 true)).set (i:=t1) (o:=.cells [.bool (decide (a.num<0)),u1] 175 true) (Yoy _)).set (i:=t1+1) (o:=.cells [.bool (decide ((a.den:Int)<0)),v1] 175 true) (by omega)
   have c0:¬t1+1=t1:=by omega
   have c00:¬t1=t1+1:=by omega
   simp[p1,p3,Zak,splice]
   generalize hHA:(((h1.set t1 (.cells [.bool false,.nilslice] 175 true)).set (t1+1) (.cells [.bool false,.nilslice] 175 true)).set t1 (.cells [.bool (decide (a.num<0)),u1] 175 true)).set (t1+1) (.cells [.bool (decide ((a.den:Int)<0)),v1] 175 true)=HA at*
   have gA1:HA.get t1=some (.cells [.bool (decide (a.num<0)),u1] 175 true):=by rw[←hHA];simp
   have gA2:HA.get (t1+1)=some (.cells [.bool (decide ((a.den:Int)<0)),v1] 175 true):=by rw[←hHA];simp
   have X1:=X1.keep KA
   have Y1:=Y1.keep KA
   clear hHA
   refine Zac (Zgh (q:=b) (by omega) (by omega)) ?_
   rintro _ h2 t2 k2 ⟨x2,y2,rfl,X2,Y2⟩
   obtain⟨u2,rfl,p5,p6,F2⟩:=X2.ones
   obtain⟨v2,rfl,p7,p8,G2⟩:=Y2.ones
   unfold V.one at p5 p7
   unfold V.cells at p6 p8
   have KB:=((((Keeps.refl (h:=h2) (n:=t2)).new (.cells [.bool false,.nilslice] 175 true)).new (.cells [.bool false,.nilslice] 175 true)).set (i:=t2) (o:=.cells [.bool (decide (b.num<0)),u2] 175 true) (Yoy _)).set (i:=t2+1) (o:=.cells [.bool (decide ((b.den:Int)<0)),v2] 175 true) (by omega)
   have c1:¬t2+1=t2:=by omega
   have c11:¬t2=t2+1:=by omega
   have i2:=k2.le
   generalize hHB:(((h2.set t2 (.cells [.bool false,.nilslice] 175 true)).set (t2+1) (.cells [.bool false,.nilslice] 175 true)).set t2 (.cells [.bool (decide (b.num<0)),u2] 175 true)).set (t2+1) (.cells [.bool (decide ((b.den:Int)<0)),v2] 175 true)=HB at*
   have gB1:HB.get t2=some (.cells [.bool (decide (b.num<0)),u2] 175 true):=by rw[←hHB];simp
   have gB2:HB.get (t2+1)=some (.cells [.bool (decide ((b.den:Int)<0)),v2] 175 true):=by rw[←hHB];simp
   have gB3:=(KB.get t1 (by omega)).trans ((k2.get t1 (by omega)).trans gA1)
   have gB4:=(KB.get (t1+1) (by omega)).trans ((k2.get (t1+1) (by omega)).trans gA2)
   have X1:=(X1.keep k2).keep KB
   have Y1:=(Y1.keep k2).keep KB
   have X2:=X2.keep KB
   have Y2:=Y2.keep KB
   have K2:Keeps h N HB (t2+1+1):=((k1.trans KA).trans k2).trans KB
   have j1:t1<t2+1+1:=by omega
   have j2:t1+1<t2+1+1:=by omega
   have j3:t2<t2+1+1:=by omega
   simp[p5,p7,Zak,splice,hHB,gB1,gB3,Zal,slc]
   refine Zac (Ziv X1 X2 (by omega) (by omega)) ?_
   rintro _ h3 t3 k3 X3
   have i3:=k3.le
   have gC2:=(k3.get (t2+1) (by omega)).trans gB2
   have gC4:=(k3.get (t1+1) (by omega)).trans gB4
   simp[gC2,gC4,Zal,slc]
   refine Zac (Ziv (Y1.keep k3) (Y2.keep k3) (by rw[Yo6];omega) (by rw[Yo6];omega)) ?_
   rintro _ h4 t4 k4 X4
   have m1:=Zhi (Zde ha.1 hb.1)
   have m2:=Zhi (Zde (a:=(a.den:Int)) (b:=(b.den:Int)) (j:=j) (k:=k) (by rw[Yo6];exact ha.2) (by rw[Yo6];exact hb.2))
   simp[]
   refine Zac (Zia (X3.keep k4) X4 (Yso (by omega) (by omega)) (by omega) (by omega)) ?_
   rintro _ h5 t5 k5 rfl
   have j4:t2+1<t3:=by omega
   have j5:t1+1<t3:=by omega
   rw[←Znp]
   have i1:=k1.le
   simp[-Zaa,Zap.chk,j1,j4,j5,Ret]
   exact⟨Zj0 (by simp;omega),((K2.trans k3).trans k4).trans k5⟩
set_option maxHeartbeats 2000000
def A.b95:Zae:=sr [⟨(some 4),.mov (.const (.str [])),none⟩]
 (sr [mv 16 0,c1 17 162 16,mv 15 17,xt 18 15 0,xt 19 15 1,xt 20 15 2,mv 5 18,mv 6 19,mv 7 20]
 (sr [mv 22 1,c1 23 162 22,mv 21 23,xt 24 21 0,xt 25 21 1,xt 26 21 2,mv 8 24,mv 9 25,mv 10 26]
 (.seq (sr [mv 27 7,mv 28 27,mg 29 10 28,pf 30 28 29]
 (cd 30
 (sr [mv 31 5,mv 32 9,bi 33 .mul 31 32,mv 34 8,mv 35 6,bi 36 .mul 34 35,bi 37 .add 33 36,mv 38 6,mv 39 9,bi 40 .mul 38 39,c2 41 163 37 40,mv 4 41]
 (.ret))
 (.skip)))
 (sr [mv 43 0,c1 44 160 43,mv 42 44,xt 45 42 0,xt 46 42 1,⟨(some 11),.alloc [(.bool false),.nilslice] 175,none⟩,⟨(some 12),.alloc [(.bool false),.nilslice] 175,none⟩,⟨none,.store 2 (.tmp 11) (.tmp 45),none⟩,⟨none,.store 2 (.tmp 12) (.tmp 46),none⟩]
 (sr [mv 48 1,c1 49 160 48,mv 47 49,xt 50 47 0,xt 51 47 1,⟨(some 13),.alloc [(.bool false),.nilslice] 175,none⟩,⟨(some 14),.alloc [(.bool false),.nilslice] 175,none⟩,⟨none,.store 2 (.tmp 13) (.tmp 50),none⟩,⟨none,.store 2 (.tmp 14) (.tmp 51),none⟩]
 (.seq (.regD [lN 52 2 11,lN 53 2 14,c2 54 166 52 53,lN 55 2 13,lN 56 2 12,c2 57 166 55 56,c2 58 165 54 57,lN 59 2 12,lN 60 2 14,c2 61 166 59 60,c2 62 164 58 61,mv 4 62] [0,0,3,0,0,31,63,0,0,511,1023,2047])
 (.ret)))))))
theorem A.c95:A.F 95=some ⟨63,[.tmp 4],A.b95⟩:=by kernel_rfl
def A.k95:=@A.kk 95 _ _ _ A.c95 rfl
theorem Yjb{a b:Rat}{j k:Nat}{h:T O}{N:Nat}(ha:Qb j a)(hb:Qb k b)(hj:j≤400000)(hk:k≤400000):Fn A.C 95 [.str (Zax a),.str (Zax b)] h N (fun u _ _=>u=.str (Zax (a+b))):=by
 intro w
 obtain⟨n1,d1,o1,hq1,f1⟩:=Zkx a
 obtain⟨n2,d2,o2,hq2,f2⟩:=Zkx b
 have pa:=Rat.den_pos a
 have pb:=Rat.den_pos b
 rw[Zab,A.k95 (by simp)]
 have key:(o1=true∧o2=true)∨(o1=false∨(o1=true∧o2=false)):=by cases o1<;>cases o2<;>simp
 rcases key with⟨rfl,rfl⟩|key
 ·obtain⟨rfl,rfl,g1⟩:=f1 rfl
  obtain⟨rfl,rfl,g2⟩:=f2 rfl
  have m1:(a.num*(b.den:Int)).natAbs≤1000000000000000000:=by rw[Yqt,Yo6];exact Zma g1.1 g2.2
  have m4:(b.num*(a.den:Int)).natAbs≤1000000000000000000:=by rw[Yqt,Yo6];exact Zma g2.1 g1.2
  have m2:a.den*b.den≤1000000000000000000:=Zma g1.2 g2.2
  have m3:0<a.den*b.den:=Ysa pa pb
  have e2:(a.den:Int)*(b.den:Int)=((a.den*b.den:Nat):Int):=by simp
  have w1:Zaq .i64 (a.num*(b.den:Int))=a.num*(b.den:Int):=Zai (by omega) (by omega)
  have w3:Zaq .i64 (b.num*(a.den:Int))=b.num*(a.den:Int):=Zai (by omega) (by omega)
  have w2:Zaq .i64 ((a.den:Int)*(b.den:Int))=(a.den:Int)*(b.den:Int):=by rw[e2];exact Zai (by omega) (by omega)
  have w4:Zaq .i64 (a.num*(b.den:Int)+b.num*(a.den:Int))=a.num*(b.den:Int)+b.num*(a.den:Int):=Zai (by omega) (by omega)
  have ho:=fun st=>Yke (p:=a.num*(b.den:Int)+b.num*(a.den:Int)) (q:=(a.den:Int)*(b.den:Int)) (st:=st) (by omega) (by omega) (by omega) (by omega) (by omega)
  rw[←Zny]at ho
  simp[A.b95,hq1,hq2,w1,w2,w3,w4,ho,Ret]
  exact Keeps.refl
 ·have la:=Zie ha.1
  have la2:=Zgu ha.2
  have lb:=Zie hb.1
  have lb2:=Zgu hb.2
  have z1:=Zhi ha.1
  have z2:=Zhi hb.1
  have z3:=Zhi ha.2
  have z4:=Zhi hb.2
  rcases key with rfl|⟨rfl,rfl⟩
  all_goals simp[A.b95,hq1,hq2]
  all_goals
   refine Zac (Zgh (q:=a) (by omega) (by omega)) ?_
   rintro _ h1 t1 k1 ⟨x1,y1,rfl,X1,Y1⟩
   obtain⟨u1,rfl,p1,p2,F1⟩:=X1.ones
   obtain⟨v1,rfl,p3,p4,G1⟩:=Y1.ones
   unfold V.one at p1 p3
   unfold V.cells at p2 p4
   have KA:=((((Keeps.refl (h:=h1) (n:=t1)).new (.cells [.bool false,.nilslice] 175 true)).new (.cells [.bool false,.nilslice] 175 true)).set (i:=t1) (o:=.cells [.bool (decide (a.num<0)),u1] 175 true) (Yoy _)).set (i:=t1+1) (o:=.cells [.bool (decide ((a.den:Int)<0)),v1] 175 true) (by omega)
   have c0:¬t1+1=t1:=by omega
   have c00:¬t1=t1+1:=by omega
   simp[p1,p3,Zak,splice]
   generalize hHA:(((h1.set t1 (.cells [.bool false,.nilslice] 175 true)).set (t1+1) (.cells [.bool false,.nilslice] 175 true)).set t1 (.cells [.bool (decide (a.num<0)),u1] 175 true)).set (t1+1) (.cells [.bool (decide ((a.den:Int)<0)),v1] 175 true)=HA at*
   have gA1:HA.get t1=some (.cells [.bool (decide (a.num<0)),u1] 175 true):=by rw[←hHA];simp
   have gA2:HA.get (t1+1)=some (.cells [.bool (decide ((a.den:Int)<0)),v1] 175 true):=by rw[←hHA];simp
   have X1:=X1.keep KA
   have Y1:=Y1.keep KA
   clear hHA
   refine Zac (Zgh (q:=b) (by omega) (by omega)) ?_
   rintro _ h2 t2 k2 ⟨x2,y2,rfl,X2,Y2⟩
   obtain⟨u2,rfl,p5,p6,F2⟩:=X2.ones
   obtain⟨v2,rfl,p7,p8,G2⟩:=Y2.ones
   unfold V.one at p5 p7
   unfold V.cells at p6 p8
   have KB:=((((Keeps.refl (h:=h2) (n:=t2)).new (.cells [.bool false,.nilslice] 175 true)).new (.cells [.bool false,.nilslice] 175 true)).set (i:=t2) (o:=.cells [.bool (decide (b.num<0)),u2] 175 true) (Yoy _)).set (i:=t2+1) (o:=.cells [.bool (decide ((b.den:Int)<0)),v2] 175 true) (by omega)
   have c1:¬t2+1=t2:=by omega
   have c11:¬t2=t2+1:=by omega
   have i2:=k2.le
   generalize hHB:(((h2.set t2 (.cells [.bool false,.nilslice] 175 true)).set (t2+1) (.cells [.bool false,.nilslice] 175 true)).set t2 (.cells [.bool (decide (b.num<0)),u2] 175 true)).set (t2+1) (.cells [.bool (decide ((b.den:Int)<0)),v2] 175 true)=HB at*
   have gB1:HB.get t2=some (.cells [.bool (decide (b.num<0)),u2] 175 true):=by rw[←hHB];simp
   have gB2:HB.get (t2+1)=some (.cells [.bool (decide ((b.den:Int)<0)),v2] 175 true):=by rw[←hHB];simp
   have gB3:=(KB.get t1 (by omega)).trans ((k2.get t1 (by omega)).trans gA1)
   have gB4:=(KB.get (t1+1) (by omega)).trans ((k2.get (t1+1) (by omega)).trans gA2)
   have X1:=(X1.keep k2).keep KB
   have Y1:=(Y1.keep k2).keep KB
   have X2:=X2.keep KB
   have Y2:=Y2.keep KB
   have K2:Keeps h N HB (t2+1+1):=((k1.trans KA).trans k2).trans KB
   have j1:t1<t2+1+1:=by omega
   have j2:t1+1<t2+1+1:=by omega
   have j3:t2<t2+1+1:=by omega
   simp[p5,p7,Zak,splice,hHB,gB2,gB3,Zal,slc]
   refine Zac (Ziv X1 Y2 (by omega) (by rw[Yo6];omega)) ?_
   rintro _ h3 t3 k3 X3
   have i3:=k3.le
   have gC1:=(k3.get t2 (by omega)).trans gB1
   have gC2:=(k3.get (t2+1) (by omega)).trans gB2
   have gC4:=(k3.get (t1+1) (by omega)).trans gB4
   simp[gC1,gC4,Zal,slc]
   refine Zac (Ziv (X2.keep k3) (Y1.keep k3) (by omega) (by rw[Yo6];omega)) ?_
   rintro _ h4 t4 k4 X4
   have i4:=k4.le
   have b1:=Zde (b:=(b.den:Int)) (k:=k) ha.1 (by rw[Yo6];exact hb.2)
   have b2:=Zde (b:=(a.den:Int)) (k:=j) hb.1 (by rw[Yo6];exact ha.2)
   rw[Nat.add_comm k j]at b2
   have m1:=Zhi b1
   have m2:=Zhi b2
   have m3:=Zhi (Zom b1 b2)
   have m4:=Zhi (Zde (a:=(a.den:Int)) (b:=(b.den:Int)) (j:=j) (k:=k) (by rw[Yo6];exact ha.2) (by rw[Yo6];exact hb.2))
   simp[]
   refine Zac (Yg6 (X3.keep k4) X4 (by omega) (by omega)) ?_
   rintro _ h5 t5 k5 X5
   have i5:=k5.le
   have gD2:=(k5.get (t2+1) (by omega)).trans ((k4.get (t2+1) (by omega)).trans gC2)
   have gD4:=(k5.get (t1+1) (by omega)).trans ((k4.get (t1+1) (by omega)).trans gC4)
   simp[gD2,gD4,Zal,slc]
   refine Zac (Ziv (((Y1.keep k3).keep k4).keep k5) (((Y2.keep k3).keep k4).keep k5) (by rw[Yo6];omega) (by rw[Yo6];omega)) ?_
   rintro _ h6 t6 k6 X6
   simp[]
   refine Zac (Zia (X5.keep k6) X6 (Yso (by omega) (by omega)) (by omega) (by omega)) ?_
   rintro _ h7 t7 k7 rfl
   have j4:t2+1<t3:=by omega
   have j5:t1+1<t3:=by omega
   have j6:t2<t3:=by omega
   have j7:t2+1<t5:=by omega
   have j8:t1+1<t5:=by omega
   rw[←Zny]
   have i1:=k1.le
   simp[-Zaa,Zap.chk,j1,j5,j6,j7,j8,Ret]
   exact⟨Zj0 (by simp;omega),((((K2.trans k3).trans k4).trans k5).trans k6).trans k7⟩
set_option maxHeartbeats 2000000
def A.b220:Zae:=sr [⟨(some 4),.mov (.const (.int .u64 0)),none⟩,⟨(some 5),.mov (.const (.int .u64 0)),none⟩]
 (sr [mv 14 0,⟨(some 15),.bin .and (.node []) false (.tmp 14) (.const (.int .u64 4294967295)),none⟩,mv 6 15]
 (sr [mv 16 0,⟨(some 17),.bin .shr (.node []) false (.tmp 16) (.const (.int .u64 32)),none⟩,mv 7 17]
 (sr [mv 18 1,⟨(some 19),.bin .and (.node []) false (.tmp 18) (.const (.int .u64 4294967295)),none⟩,mv 8 19]
 (sr [mv 20 1,⟨(some 21),.bin .shr (.node []) false (.tmp 20) (.const (.int .u64 32)),none⟩,mv 9 21]
 (sr [mv 22 6,mv 23 8,bi 24 .mul 22 23,mv 10 24]
 (sr [mv 25 7,mv 26 8,bi 27 .mul 25 26,mv 28 10,⟨(some 29),.bin .shr (.node []) false (.tmp 28) (.const (.int .u64 32)),none⟩,bi 30 .add 27 29,mv 11 30]
 (sr [mv 31 11,⟨(some 32),.bin .and (.node []) false (.tmp 31) (.const (.int .u64 4294967295)),none⟩,mv 12 32]
 (sr [mv 33 11,⟨(some 34),.bin .shr (.node []) false (.tmp 33) (.const (.int .u64 32)),none⟩,mv 13 34]
 (sr [mv 35 12,mv 36 6,mv 37 9,bi 38 .mul 36 37,bi 39 .add 35 38,mv 12 39]
 (sr [mv 40 7,mv 41 9,bi 42 .mul 40 41,mv 43 13,bi 44 .add 42 43,mv 45 12,⟨(some 46),.bin .shr (.node []) false (.tmp 45) (.const (.int .u64 32)),none⟩,bi 47 .add 44 46,mv 4 47]
 (sr [mv 48 0,mv 49 1,bi 50 .mul 48 49,mv 5 50]
 (.ret))))))))))))
theorem A.c220:A.F 220=some ⟨51,[.tmp 4,.tmp 5],A.b220⟩:=by kernel_rfl
def A.k220:=@A.kk 220 _ _ _ A.c220 rfl
theorem Yki{x y:Nat}(hx:x<18446744073709551616)(hy:y<18446744073709551616):addu (addu (mulu (shr64 x 32) (shr64 y 32)) (shr64 (addu (mulu (shr64 x 32) (and32 y)) (shr64 (mulu (and32 x) (and32 y)) 32)) 32)) (shr64 (addu (and32 (addu (mulu (shr64 x 32) (and32 y)) (shr64 (mulu (and32 x) (and32 y)) 32))) (mulu (and32 x) (shr64 y 32))) 32)=hi64 (x*y):=by
 simp only[addu,mulu,shr64,and32,hi64,Nat.reducePow]
 have ex:x=x/4294967296*4294967296+x%4294967296:=by omega
 have ey:y=y/4294967296*4294967296+y%4294967296:=by omega
 have hx0:x%4294967296<4294967296:=Yqa _ (by decide)
 have hy0:y%4294967296<4294967296:=Yqa _ (by decide)
 have hx1:x/4294967296<4294967296:=by omega
 have hy1:y/4294967296<4294967296:=by omega
 generalize x/4294967296=x1 at*
 generalize x%4294967296=x0 at*
 generalize y/4294967296=y1 at*
 generalize y%4294967296=y0 at*
 have a1:x0*y0≤4294967295*4294967295:=Yq0 (by omega) (by omega)
 have a2:x1*y0≤4294967295*4294967295:=Yq0 (by omega) (by omega)
 have a3:x0*y1≤4294967295*4294967295:=Yq0 (by omega) (by omega)
 have a4:x1*y1≤4294967295*4294967295:=Yq0 (by omega) (by omega)
 have e:x*y=x1*y1*18446744073709551616+(x1*y0+x0*y1)*4294967296+x0*y0:=by
  subst ex;subst ey
  grind
 rw[e]
 generalize x0*y0=p at*
 generalize x1*y0=q at*
 generalize x0*y1=u at*
 generalize x1*y1=z at*
 omega
theorem Zk1{h:T O}{N:Nat}{x y:Nat}(hx:x<18446744073709551616)(hy:y<18446744073709551616):Fn A.C 220 [.int .u64 x,.int .u64 y] h N (fun v' h' N'=>h'=h∧N'=N∧v'=.tup [.int .u64 (hi64 (x*y):Nat),.int .u64 (lo64 (x*y):Nat)]):=by
 intro w
 rw[Zab,A.k220 (by simp)]
 simp(disch:=first|(simp;done)|omega|(simp only[Zad,Zag,Yoz];omega)|rfl) [A.b220]
 rw[Yki hx hy]
 exact⟨rfl,Keeps.refl,rfl,rfl,rfl⟩
def A.lb263_0:Zae:=.seq (sr [mv 6 3,bc 7 .gtr 6 0,mv 8 7,mg 9 0 8,mg 10 3 8,⟨(some 11),.bin .sub (.node []) false (.tmp 10) (.const (.int .i64 1)),(some (8,true))⟩,⟨(some 12),.iaddrSl 1 (.tmp 9) (.tmp 11),(some (8,true))⟩,⟨(some 13),.load none (.tmp 12),(some (8,true))⟩,⟨(some 14),.bin .eql (.prim .int) true (.tmp 13) (.const (.int .u64 0)),(some (8,true))⟩,pf 15 8 14]
 (cd 15
 (.skip)
 (.exit 0)))
 (.block 1 (.reg [mv 16 3,bc 17 .sub 16 1,mv 3 17]))
def A.b263:Zae:=sr [mN 2]
 (sr [mv 4 0,ln 5 4,mv 3 5]
 (.seq (.block 0 (.loop A.lb263_0))
 (sr [mv 18 0,mv 19 3,⟨(some 20),.sliceSl 1 (.tmp 18) none (some (.tmp 19)) none,none⟩,mv 2 20]
 (.ret))))
theorem A.c263:A.F 263=some ⟨21,[.tmp 2],A.b263⟩:=by kernel_rfl
def A.k263:=@A.kk 263 _ _ _ A.c263 rfl
theorem Zfn{h:T O}{N:Nat}{v:V}{l:List Nat}(hs:Sl h N v (dg l))(hl:l.length<1152921504606846976):Fn A.C 263 [v] h N (fun v' h' N'=>Sl h' N' v' (dg (Zf9 l))):=by
 intro w
 have hlen:=hs.len
 rw[Zad]at hlen
 rw[Zab,A.k263 (by simp)]
 simp[A.b263,hlen]
 refine Zaj [(3,3),(6,17)] (fun e r st=>e=.exit 0∧st=⟨h,N,[]⟩∧∃k,k≤l.length∧r.get 3=some (.int .i64 k)∧Zf9 l=l.take k) (fun k r st=>st=⟨h,N,[]⟩∧k≤l.length∧r.get 3=some (.int .i64 k)∧Zf9 (l.take k)=Zf9 l) l.length ?_ ?_ ?_
 ·exact⟨rfl,Yoy _,by simp,by simp⟩
 ·rintro k r _ hr hf ⟨rfl,hk,h3,ht⟩
  rw[Zah]
  cases k with
  |zero=>
   have:Zf9 l=[]:=ht.symm
   simp[A.lb263_0,h3,hf,this]
   exact⟨0,by omega,rfl,.inl rfl⟩
  |succ k=>
   obtain⟨d,hd⟩:∃d,l[k]?=some d:=⟨_,Yo2 (by omega)⟩
   obtain⟨i,o,c,e,rw,q1,q2,q3,q4⟩:=hs.at (Zba hd)
   have e1:l.take (k+1)=l.take k++[d]:=by rw[Yrs,hd];rfl
   have k1:(0:Int)<(k:Int)+1:=by omega
   have k2:(k:Int)<(l.length:Int):=by omega
   by_cases h0:d=0
   ·subst h0
    rw[e1,Zm5]at ht
    simp(disch:=first|(simp;done)|omega|(simp only[Zad,Zag,Yoz];omega)|rfl) [A.lb263_0,h3,hr,hf,k1,hlen,q1,q3,q4]
    exact⟨k,by omega,by omega,rfl,ht⟩
   ·rw[e1,Zm6 h0]at ht
    have hz:((d:Int)==0)=false:=by simp;omega
    simp(disch:=first|(simp;done)|omega|(simp only[Zad,Zag,Yoz];omega)|rfl) [A.lb263_0,h3,hr,hf,k1,hlen,q1,q3,q4,hz]
    exact⟨k+1,hk,rfl,by rw[e1];exact ht.symm⟩
 ·rintro _ r _ hr ⟨rfl,rfl,k,hk,h3,ht⟩
  simp[hr,h3,Zbv,evOpt]
  obtain⟨v',e1,e2⟩:=Zem (w:=[]) hs (lo:=0) (hi:=k) (Yrv _) (by rw[Zad];exact hk) none (some (.int .i64 k)) (.inr ⟨rfl,rfl⟩) (.inl rfl)
  rw[e1]
  simp[Ret]
  refine⟨Keeps.refl,?_⟩
  rw[ht,show dg (l.take k)=(dg l).take k by simp[dg]]
  exact e2
set_option maxHeartbeats 2000000
def A.lb249_0:Zae:=sr [bi 23 .lss 22 21]
 (.seq (cd 23
 (.skip)
 (.exit 0))
 (.seq (.block 1 (sr [mv 24 22,mv 7 24]
 (sr [⟨(some 8),.mov (.const (.int .u64 0)),none⟩]
 (.seq (sr [mv 25 7,mv 26 1,ln 27 26,bi 28 .lss 25 27]
 (cd 28
 (.reg [mv 29 1,mv 30 7,ia 31 1 29 30,ld 32 31,mv 8 32])
 (.skip)))
 (.reg [mv 34 5,mv 35 7,mv 36 0,mv 37 7,ia 38 1 36 37,ld 39 38,mv 40 8,mv 41 6,⟨(some 42),.ext .add64 [(.tmp 39),(.tmp 40),(.tmp 41)],none⟩,mv 33 42,xt 43 33 0,xt 44 33 1,ia 45 1 34 35,so 45 43,mv 6 44])))))
 (.reg [bc 46 .add 22 1,mv 22 46])))
def A.b249:Zae:=sr [mN 4]
 (.seq (sr [mv 9 0,ln 10 9,mv 11 1,ln 12 11,bi 13 .lss 10 12]
 (cd 13
 (.reg [mv 14 1,mv 15 0,mv 0 14,mv 1 15])
 (.skip)))
 (sr [mv 16 0,ln 17 16,bc 18 .add 17 1,⟨(some 19),.mkslice 214 1 8 [(.int .u64 0)] (.tmp 18) (.tmp 18),none⟩,mv 5 19]
 (sr [⟨(some 6),.mov (.const (.int .u64 0)),none⟩]
 (.seq (sr [mv 20 0,ln 21 20,mc 22 0]
 (.block 0 (.loop A.lb249_0)))
 (sr [mv 47 5,mv 48 0,ln 49 48,mv 50 6,ia 51 1 47 49,so 51 50]
 (sr [mv 52 5,c1 53 263 52,mv 4 53]
 (.ret)))))))
theorem A.c249:A.F 249=some ⟨54,[.tmp 4],A.b249⟩:=by kernel_rfl
def A.k249:=@A.kk 249 _ _ _ A.c249 rfl
structure Ynj (h:T O) (N x y k:Nat) (o:List Nat) (c:Nat) (r:T V) (st:St):Prop where
 hk:k≤(wds x).length
 r22:r.get 22=some (.int .i64 k)
 r6:r.get 6=some (.int .u64 c)
 n:st.n=N+1
 w:Zaa N st.w=[]
 keep:Keeps h N st.h (N+1)
 row:st.h.get N=some (.cells (dg o) 214 true)
 len:o.length=(wds x).length+1
 ex:∃d,d.length=k∧o=d++List.replicate ((wds x).length+1-k) 0∧val B d+B^k*c=val B ((wds x).take k)+val B ((wds y).take k)∧c≤1∧Dg d
def Ynk(h:T O)(N x y m:Nat)(r:T V)(st:St):Prop:=∃k o c,m=(wds x).length-k∧Ynj h N x y k o c r st
def Ynl(h:T O)(N x y:Nat)(r:T V)(st:St):Prop:=∃o c,Ynj h N x y (wds x).length o c r st
theorem Ybg{x y o d:List Nat}{k c xk:Nat}(hx:x[k]?=some xk)(d1:d.length=k)(d2:o=d++List.replicate (x.length+1-k) 0)(d3:val B d+B^k*c=val B (x.take k)+val B (y.take k))(d4:c≤1)(d5:Dg d)(gx:Dg x)(gy:Dg y):
  (d++[lo64 (xk+dz y k+c)]).length=k+1∧o.set k (lo64 (xk+dz y k+c))=(d++[lo64 (xk+dz y k+c)])++List.replicate (x.length+1-(k+1)) 0∧val B (d++[lo64 (xk+dz y k+c)])+B^(k+1)*hi64 (xk+dz y k+c)=val B (x.take (k+1))+val B (y.take (k+1))∧hi64 (xk+dz y k+c)≤1∧Dg (d++[lo64 (xk+dz y k+c)]):=by
 have hk:k<x.length:=by
  apply Yp5;intro hc;rw[Ypd hc]at hx;cases hx
 have hxk:=gx.get hx
 have hyk:=Yk4 gy k
 have hm:=Yqn (xk+dz y k+c) B
 refine⟨by simp[d1],?_,?_,?_,?_⟩
 ·rw[d2,show x.length+1-k=(x.length-k)+1 by omega,Zoc d1,show x.length+1-(k+1)=x.length-k by omega]
 ·rw[Zkt,Zby,Zby,d1,show dz x k=xk by simp[dz,hx]]
  have e1:lo64 (xk+dz y k+c)=(xk+dz y k+c)%B:=rfl
  have e2:hi64 (xk+dz y k+c)=(xk+dz y k+c)/B:=rfl
  rw[e1,e2,Ypn]
  generalize (xk+dz y k+c)%B=lo at*
  generalize (xk+dz y k+c)/B=hi at*
  generalize B^k=p at*
  have:p*(B*hi+lo)=p*(xk+dz y k+c):=by rw[hm]
  grind
 ·show (xk+dz y k+c)/B≤1
  unfold B at*;omega
 ·intro e he
  rcases Yp2.1 he with he|he
  ·exact d5 e he
  ·simp at he;subst he;exact Yqa _ (by decide)
theorem Yf0{x y:Nat}{o d:List Nat}{c:Nat}(hl:(wds y).length≤(wds x).length)(d1:d.length=(wds x).length)(d2:o=d++List.replicate ((wds x).length+1-(wds x).length) 0)(d3:val B d+B^(wds x).length*c=val B ((wds x).take (wds x).length)+val B ((wds y).take (wds x).length))(d4:c≤1)(d5:Dg d):Zf9 (o.set (wds x).length c)=wds (x+y):=by
 rw[d2,show (wds x).length+1-(wds x).length=0+1 by omega,Zoc d1]
 simp only[List.replicate_zero,Yrb]
 rw[Zc9,Zkt,d1,d3,Yo7 (Yoy _),Yo7 hl,Zbo,Zbo]
 intro e he
 rcases Yp2.1 he with he|he
 ·exact d5 e he
 ·simp at he;subst he;unfold B;omega
theorem Zs8{h:T O}{N:Nat}{vx vy:V}{x y:Nat}(hx:Wn h N vx x)(hy:Wn h N vy y)(hxl:(wds x).length<1099511627776)(hyl:(wds y).length<1099511627776):Fn A.C 249 [vx,vy] h N (fun v' h' N'=>Wn h' N' v' (x+y)):=by
 intro w
 have lx:=hx.len
 have ly:=hy.len
 rw[Zad]at lx ly
 rw[Zab,A.k249 (by simp)]
 by_cases hl:(wds x).length<(wds y).length
 ·simp(disch:=first|(simp;done)|omega|(simp only[Zad,Zag,Yoz];omega)|rfl) [A.b249,lx,ly,hl]
  refine Zaj [(6,8),(22,46)] (fun e r st=>e=.exit 0∧Ynl h N y x r st) (Ynk h N y x) (wds y).length ?_ ?_ ?_
  ·refine⟨0,List.replicate ((wds y).length+1) 0,0,by omega,⟨by omega,by simp,by simp,by simp,by simp,Keeps.refl.set (Yoy _) |>.up (by omega),by simp[Zf5],by simp,[],by simp,by simp,by simp[val],by decide,by simp[Dg]⟩⟩
  ·rintro m r ⟨H,n1,W⟩ hr hf ⟨k,o,c,rfl,hk,h22,h6,hn,hW,hK,hN,ho,d,hd⟩
   simp only at hn hW hK hN
   subst hn
   rw[Zah]
   by_cases hlt:k<(wds y).length
   ·obtain⟨i1,o1,c1,e1,w1,p1,p2,p3,p4⟩:=hy.at (Zba (Yo2 hlt))
    have p3:=(hK.get _ p2).trans p3
    obtain⟨d1,d2,d3,d4,d5⟩:=hd
    have hsp:=Ybg (x:=wds y) (y:=wds x) (Yo2 hlt) d1 d2 d3 d4 d5 (Zd0 y) (Zd0 x)
    by_cases hky:k<(wds x).length
    ·obtain⟨i2,o2,c2,e2,w2,q1,q2,q3,q4⟩:=hx.at (Zba (Yo2 hky))
     have q3:=(hK.get _ q2).trans q3
     have hz:dz (wds x) k=(wds x)[k]:=by simp[dz,Yo2 hky]
     rw[hz]at hsp
     simp(disch:=first|(simp;done)|omega|(simp only[Zad,Zag,Yoz];omega)|rfl) [A.lb249_0,hr,h22,h6,hlt,hky,ly,lx,p1,p3,p4,q1,q3,q4,hN,Zc6,hf]
     exact⟨_,by omega,k+1,_,_,rfl,⟨by omega,by simp,by simp,rfl,by simp[hW],hK.set (Yoy _),by simp,by simp[ho],_,hsp⟩⟩
    ·have hz:dz (wds x) k=0:=by simp[dz,Ypd (Yr9.1 hky)]
     rw[hz]at hsp
     simp(disch:=first|(simp;done)|omega|(simp only[Zad,Zag,Yoz];omega)|rfl) [A.lb249_0,hr,h22,h6,hlt,hky,ly,lx,p1,p3,p4,hN,Zc6,hf]
     exact⟨_,by omega,k+1,_,_,rfl,⟨by omega,by simp,by simp,rfl,by simp[hW],hK.set (Yoy _),by simp,by simp[ho],_,hsp⟩⟩
   ·have hkx:k=(wds y).length:=by omega
    subst hkx
    simp[A.lb249_0,hr,h22,hf]
    exact⟨o,c,⟨by omega,by simp[h22],by simp[h6],rfl,by simp[hW],hK,hN,ho,d,hd⟩⟩
  ·rintro _ r ⟨H,n1,W⟩ hr ⟨rfl,o,c,hk,h22,h6,hn,hW,hK,hN,ho,d,d1,d2,d3,d4,d5⟩
   simp only at hn hW hK hN
   subst hn
   simp(disch:=first|(simp;done)|omega|(simp only[Zad,Zag,Yoz];omega)|rfl) [hr,h6,ly,hN,Zc6]
   refine Zac (Zfn (l:=o.set (wds y).length c) (Sl.row (e:=214) (rw:=true) (by omega) (by simp) (by simp[ho]) (by simp)) (by simp[ho];omega)) ?_
   intro v' h' n' hk' hs
   simp[Ret]
   refine⟨hW,(hK.set (Yoy _)).trans hk',?_⟩
   rw[Yf0 (by omega) d1 d2 d3 d4 d5]at hs
   exact(Nat.add_comm y x▸hs)
 ·simp(disch:=first|(simp;done)|omega|(simp only[Zad,Zag,Yoz];omega)|rfl) [A.b249,lx,ly,hl]
  refine Zaj [(6,8),(22,46)] (fun e r st=>e=.exit 0∧Ynl h N x y r st) (Ynk h N x y) (wds x).length ?_ ?_ ?_
  ·refine⟨0,List.replicate ((wds x).length+1) 0,0,by omega,⟨by omega,by simp,by simp,by simp,by simp,Keeps.refl.set (Yoy _) |>.up (by omega),by simp[Zf5],by simp,[],by simp,by simp,by simp[val],by decide,by simp[Dg]⟩⟩
  ·rintro m r ⟨H,n1,W⟩ hr hf ⟨k,o,c,rfl,hk,h22,h6,hn,hW,hK,hN,ho,d,hd⟩
   simp only at hn hW hK hN
   subst hn
   rw[Zah]
   by_cases hlt:k<(wds x).length
   ·obtain⟨i1,o1,c1,e1,w1,p1,p2,p3,p4⟩:=hx.at (Zba (Yo2 hlt))
    have p3:=(hK.get _ p2).trans p3
    obtain⟨d1,d2,d3,d4,d5⟩:=hd
    have hsp:=Ybg (x:=wds x) (y:=wds y) (Yo2 hlt) d1 d2 d3 d4 d5 (Zd0 x) (Zd0 y)
    by_cases hky:k<(wds y).length
    ·obtain⟨i2,o2,c2,e2,w2,q1,q2,q3,q4⟩:=hy.at (Zba (Yo2 hky))
     have q3:=(hK.get _ q2).trans q3
     have hz:dz (wds y) k=(wds y)[k]:=by simp[dz,Yo2 hky]
     rw[hz]at hsp
     simp(disch:=first|(simp;done)|omega|(simp only[Zad,Zag,Yoz];omega)|rfl) [A.lb249_0,hr,h22,h6,hlt,hky,lx,ly,p1,p3,p4,q1,q3,q4,hN,Zc6,hf]
     exact⟨_,by omega,k+1,_,_,rfl,⟨by omega,by simp,by simp,rfl,by simp[hW],hK.set (Yoy _),by simp,by simp[ho],_,hsp⟩⟩
    ·have hz:dz (wds y) k=0:=by simp[dz,Ypd (Yr9.1 hky)]
     rw[hz]at hsp
     simp(disch:=first|(simp;done)|omega|(simp only[Zad,Zag,Yoz];omega)|rfl) [A.lb249_0,hr,h22,h6,hlt,hky,lx,ly,p1,p3,p4,hN,Zc6,hf]
     exact⟨_,by omega,k+1,_,_,rfl,⟨by omega,by simp,by simp,rfl,by simp[hW],hK.set (Yoy _),by simp,by simp[ho],_,hsp⟩⟩
   ·have hkx:k=(wds x).length:=by omega
    subst hkx
    simp[A.lb249_0,hr,h22,hf]
    exact⟨o,c,⟨by omega,by simp[h22],by simp[h6],rfl,by simp[hW],hK,hN,ho,d,hd⟩⟩
  ·rintro _ r ⟨H,n1,W⟩ hr ⟨rfl,o,c,hk,h22,h6,hn,hW,hK,hN,ho,d,d1,d2,d3,d4,d5⟩
   simp only at hn hW hK hN
   subst hn
   simp(disch:=first|(simp;done)|omega|(simp only[Zad,Zag,Yoz];omega)|rfl) [hr,h6,lx,hN,Zc6]
   refine Zac (Zfn (l:=o.set (wds x).length c) (Sl.row (e:=214) (rw:=true) (by omega) (by simp) (by simp[ho]) (by simp)) (by simp[ho];omega)) ?_
   intro v' h' n' hk' hs
   simp[Ret]
   refine⟨hW,(hK.set (Yoy _)).trans hk',?_⟩
   rw[Yf0 (by omega) d1 d2 d3 d4 d5]at hs
   exact hs
set_option maxHeartbeats 2000000
def A.lb251_0:Zae:=sr [bi 15 .lss 14 13]
 (.seq (cd 15
 (.skip)
 (.exit 0))
 (.seq (.block 1 (sr [mv 16 14,mv 7 16]
 (sr [⟨(some 8),.mov (.const (.int .u64 0)),none⟩]
 (.seq (sr [mv 17 7,mv 18 1,ln 19 18,bi 20 .lss 17 19]
 (cd 20
 (.reg [mv 21 1,mv 22 7,ia 23 1 21 22,ld 24 23,mv 8 24])
 (.skip)))
 (.reg [mv 26 5,mv 27 7,mv 28 0,mv 29 7,ia 30 1 28 29,ld 31 30,mv 32 8,mv 33 6,⟨(some 34),.ext .sub64 [(.tmp 31),(.tmp 32),(.tmp 33)],none⟩,mv 25 34,xt 35 25 0,xt 36 25 1,ia 37 1 26 27,so 37 35,mv 6 36])))))
 (.reg [bc 38 .add 14 1,mv 14 38])))
def A.b251:Zae:=sr [mN 4]
 (sr [mv 9 0,ln 10 9,⟨(some 11),.mkslice 214 1 8 [(.int .u64 0)] (.tmp 10) (.tmp 10),none⟩,mv 5 11]
 (sr [⟨(some 6),.mov (.const (.int .u64 0)),none⟩]
 (.seq (sr [mv 12 0,ln 13 12,mc 14 0]
 (.block 0 (.loop A.lb251_0)))
 (sr [mv 39 5,c1 40 263 39,mv 4 40]
 (.ret)))))
theorem A.c251:A.F 251=some ⟨41,[.tmp 4],A.b251⟩:=by kernel_rfl
def A.k251:=@A.kk 251 _ _ _ A.c251 rfl
theorem Zcz{a b:Nat}(h:a≤b):(wds a).length≤(wds b).length:=by
 apply Yqv
 intro hc
 have h1:=Zld (b:=B) (Zd0 b)
 rw[Zbo]at h1
 have h2:∀n,n≠0→B^((wds n).length-1)≤n:=by
  intro n
  induction n using Nat.strongRecOn with
  |_ n ih=>
   intro hn
   rw[Zb6 hn]
   by_cases h0:n/B=0
   ·rw[h0,Zbw];simp;omega
   ·have:=ih (n/B) (Yr2 (by omega) (by decide)) h0
    have hp:0<(wds (n/B)).length:=by rw[Zb6 h0];simp
    simp only[Yoz,Nat.add_sub_cancel]
    rw[show (wds (n/B)).length=((wds (n/B)).length-1)+1 by omega,Ypn]
    have h3:B^((wds (n/B)).length-1)*B≤n/B*B:=Ypk B this
    have:=Nat.div_mul_le_self n B
    omega
 have ha:a≠0:=by
  rintro rfl
  rw[Zbw]at hc;simp at hc
 have h3:=h2 a ha
 have h4:B^(wds b).length≤B^((wds a).length-1):=Yp3 (by decide) (by omega)
 omega
structure Yng (h:T O) (N x y k:Nat) (o:List Nat) (c:Nat) (r:T V) (st:St):Prop where
 hk:k≤(wds x).length
 r14:r.get 14=some (.int .i64 k)
 r6:r.get 6=some (.int .u64 c)
 n:st.n=N+1
 w:Zaa N st.w=[]
 keep:Keeps h N st.h (N+1)
 row:st.h.get N=some (.cells (dg o) 214 true)
 len:o.length=(wds x).length
 ex:∃d,d.length=k∧o=d++List.replicate ((wds x).length-k) 0∧val B d+val B ((wds y).take k)=val B ((wds x).take k)+B^k*c∧c≤1∧Dg d
def Yos(h:T O)(N x y m:Nat)(r:T V)(st:St):Prop:=∃k o c,m=(wds x).length-k∧Yng h N x y k o c r st
def Yot(h:T O)(N x y:Nat)(r:T V)(st:St):Prop:=∃o c,Yng h N x y (wds x).length o c r st
theorem Ygj{x y o d:List Nat}{k c xk:Nat}(hx:x[k]?=some xk)(d1:d.length=k)(d2:o=d++List.replicate (x.length-k) 0)(d3:val B d+val B (y.take k)=val B (x.take k)+B^k*c)(d4:c≤1)(d5:Dg d)(gx:Dg x)(gy:Dg y):
  (d++[sb64 xk (dz y k) c]).length=k+1∧o.set k (sb64 xk (dz y k) c)=(d++[sb64 xk (dz y k) c])++List.replicate (x.length-(k+1)) 0∧val B (d++[sb64 xk (dz y k) c])+val B (y.take (k+1))=val B (x.take (k+1))+B^(k+1)*bw64 xk (dz y k) c∧bw64 xk (dz y k) c≤1∧Dg (d++[sb64 xk (dz y k) c]):=by
 have hk:k<x.length:=by
  apply Yp5;intro hc;rw[Ypd hc]at hx;cases hx
 have hxk:=gx.get hx
 have hyk:=Yk4 gy k
 have hs:sb64 xk (dz y k) c+dz y k+c=xk+B*bw64 xk (dz y k) c∧sb64 xk (dz y k) c<B∧bw64 xk (dz y k) c≤1:=by
  unfold sb64 bw64
  unfold B at*
  split<;>omega
 refine⟨by simp[d1],?_,?_,hs.2.2,?_⟩
 ·rw[d2,show x.length-k=(x.length-(k+1))+1 by omega,Zoc d1]
 ·rw[Zkt,Zby,Zby,d1,show dz x k=xk by simp[dz,hx],Ypn]
  have h1:=hs.1
  generalize sb64 xk (dz y k) c=s at*
  generalize bw64 xk (dz y k) c=b at*
  generalize B^k=p at*
  have:p*(s+dz y k+c)=p*(xk+B*b):=by rw[h1]
  grind
 ·intro e he
  rcases Yp2.1 he with he|he
  ·exact d5 e he
  ·simp at he;subst he;exact hs.2.1
theorem Yjz{x y:Nat}{o d:List Nat}{c:Nat}(hl:y≤x)(d1:d.length=(wds x).length)(d2:o=d++List.replicate ((wds x).length-(wds x).length) 0)(d3:val B d+val B ((wds y).take (wds x).length)=val B ((wds x).take (wds x).length)+B^(wds x).length*c)(d4:c≤1)(d5:Dg d):Zf9 o=wds (x-y):=by
 rw[d2,Nat.sub_self]
 simp only[List.replicate_zero,Yrb]
 rw[Zc9 d5]
 congr 1
 rw[Yo7 (Yoy _),Yo7 (Zcz hl),Zbo,Zbo]at d3
 have:=Zld d5
 rw[d1]at this
 rcases Nat.lt_or_ge c 1 with hc|hc
 ·have:c=0:=by omega
  subst this
  simp at d3;omega
 ·have:c=1:=by omega
  subst this
  omega
theorem Zlh{h:T O}{N:Nat}{vx vy:V}{x y:Nat}(hx:Wn h N vx x)(hy:Wn h N vy y)(hxy:y≤x)(hxl:(wds x).length<1099511627776)(hyl:(wds y).length<1099511627776):Fn A.C 251 [vx,vy] h N (fun v' h' N'=>Wn h' N' v' (x-y)):=by
 intro w
 have lx:=hx.len
 have ly:=hy.len
 rw[Zad]at lx ly
 rw[Zab,A.k251 (by simp)]
 simp(disch:=first|(simp;done)|omega|(simp only[Zad,Zag,Yoz];omega)|rfl) [A.b251,lx]
 refine Zaj [(6,8),(14,38)] (fun e r st=>e=.exit 0∧Yot h N x y r st) (Yos h N x y) (wds x).length ?_ ?_ ?_
 ·refine⟨0,List.replicate (wds x).length 0,0,by omega,⟨by omega,by simp,by simp,by simp,by simp,Keeps.refl.set (Yoy _) |>.up (by omega),by simp[Zf5],by simp,[],by simp,by simp,by simp[val],by decide,by simp[Dg]⟩⟩
 ·rintro m r ⟨H,n1,W⟩ hr hf ⟨k,o,c,rfl,hk,h22,h6,hn,hW,hK,hN,ho,d,hd⟩
  simp only at hn hW hK hN
  subst hn
  rw[Zah]
  by_cases hlt:k<(wds x).length
  ·obtain⟨i1,o1,c1,e1,w1,p1,p2,p3,p4⟩:=hx.at (Zba (Yo2 hlt))
   have p3:=(hK.get _ p2).trans p3
   obtain⟨d1,d2,d3,d4,d5⟩:=hd
   have hsp:=Ygj (x:=wds x) (y:=wds y) (Yo2 hlt) d1 d2 d3 d4 d5 (Zd0 x) (Zd0 y)
   by_cases hky:k<(wds y).length
   ·obtain⟨i2,o2,c2,e2,w2,q1,q2,q3,q4⟩:=hy.at (Zba (Yo2 hky))
    have q3:=(hK.get _ q2).trans q3
    have hz:dz (wds y) k=(wds y)[k]:=by simp[dz,Yo2 hky]
    rw[hz]at hsp
    simp(disch:=first|(simp;done)|omega|(simp only[Zad,Zag,Yoz];omega)|rfl) [A.lb251_0,hr,h22,h6,hlt,hky,lx,ly,p1,p3,p4,q1,q3,q4,hN,Zc6,hf]
    exact⟨_,by omega,k+1,_,_,rfl,⟨by omega,by simp,by simp,rfl,by simp[hW],hK.set (Yoy _),by simp,by simp[ho],_,hsp⟩⟩
   ·have hz:dz (wds y) k=0:=by simp[dz,Ypd (Yr9.1 hky)]
    rw[hz]at hsp
    simp(disch:=first|(simp;done)|omega|(simp only[Zad,Zag,Yoz];omega)|rfl) [A.lb251_0,hr,h22,h6,hlt,hky,lx,ly,p1,p3,p4,hN,Zc6,hf]
    exact⟨_,by omega,k+1,_,_,rfl,⟨by omega,by simp,by simp,rfl,by simp[hW],hK.set (Yoy _),by simp,by simp[ho],_,hsp⟩⟩
  ·have hkx:k=(wds x).length:=by omega
   subst hkx
   simp[A.lb251_0,hr,h22,hf]
   exact⟨o,c,⟨by omega,by simp[h22],by simp[h6],rfl,by simp[hW],hK,hN,ho,d,hd⟩⟩
 ·rintro _ r ⟨H,n1,W⟩ hr ⟨rfl,o,c,hk,h22,h6,hn,hW,hK,hN,ho,d,d1,d2,d3,d4,d5⟩
  simp only at hn hW hK hN
  subst hn
  simp[hr]
  refine Zac (Zfn (l:=o) (Sl.row (e:=214) (rw:=true) (by omega) (by simp[hN]) (by simp[ho]) (by simp)) (by simp[ho];omega)) ?_
  intro v' h' n' hk' hs
  simp[Ret]
  refine⟨hW,hK.trans hk',?_⟩
  rw[Yjz hxy d1 d2 d3 d4 d5]at hs
  exact hs
end Go.Mx
