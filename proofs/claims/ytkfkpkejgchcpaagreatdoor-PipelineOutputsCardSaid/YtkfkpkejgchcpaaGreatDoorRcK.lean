/-lensletref01-/
import Derived.Test.YtkfkpkejgchcpaaGreatDoorRcG
set_option linter.all false
namespace Go.Mx
open Go Go.Proofs
variable {j:Nat}
set_option maxHeartbeats 2000000
set_option maxRecDepth 1000000
def A.b81:Zah:=sr [ge 4 (.mov (.const (.str [])))]
 (sr [mv 16 0,c1 17 149 16,mv 15 17,xt 18 15 0,xt 19 15 1,xt 20 15 2,mv 5 18,mv 6 19,mv 7 20]
 (sr [mv 22 1,c1 23 149 22,mv 21 23,xt 24 21 0,xt 25 21 1,xt 26 21 2,mv 8 24,mv 9 25,mv 10 26]
 (.seq (sr [mv 27 7,mv 28 27,mg 29 10 28,pf 30 28 29]
 (cd 30
 (sr [mv 31 5,mv 32 8,bi 33 .mul 31 32,mv 34 6,mv 35 9,bi 36 .mul 34 35,c2 37 150 33 36,mv 4 37]
 (.ret))
 (.skip)))
 (sr [mv 39 0,c1 40 79 39,mv 38 40,xt 41 38 0,xt 42 38 1,ge 11 (.alloc [.bool false,.nilslice] 176),ge 12 (.alloc [.bool false,.nilslice] 176),gn (.store 2 (tq 11) (tq 41)),gn (.store 2 (tq 12) (tq 42))]
 (sr [mv 44 1,c1 45 79 44,mv 43 45,xt 46 43 0,xt 47 43 1,ge 13 (.alloc [.bool false,.nilslice] 176),ge 14 (.alloc [.bool false,.nilslice] 176),gn (.store 2 (tq 13) (tq 46)),gn (.store 2 (tq 14) (tq 47))]
 (.seq (.regD [lN 48 2 11,lN 49 2 13,c2 50 152 48 49,lN 51 2 12,lN 52 2 14,c2 53 152 51 52,c2 54 151 50 53,mv 4 54] [0,0,3,0,0,31,63,127])
 (.ret)))))))
def A.k81:=@A.kk 81 55 [.tmp 4] A.b81 (by kernel_rfl) rfl
def Zoq(a b:Rat):a*b=Rat.divInt (a.num*b.num) ((a.den:Int)*(b.den:Int)):=by
 rw[Rat.mul_def,Rat.normalize_eq_mkRat,←Rat.divInt_ofNat]
 simp
def Zo5(a b:Rat):a+b=Rat.divInt (a.num*(b.den:Int)+b.num*(a.den:Int)) ((a.den:Int)*(b.den:Int)):=by
 rw[Rat.add_def,Rat.normalize_eq_mkRat,←Rat.divInt_ofNat]
 simp
def Zm9{a b:Nat}(h1:a<1000000000)(h2:b<1000000000):a*b≤1000000000000000000:=by
 have:=Yub (Nat.le_of_lt h1) (Nat.le_of_lt h2)
 omega
def Zls(q:Rat):∃(n d:Int) (o:Bool),(∀st,A.C.call (.func 149 [] []) [.str (Za0 q)] st=some (.tup [.int .i64 n,.int .i64 d,.bool o],st))∧(o=true→n=q.num∧d=(q.den:Int)∧q.num.natAbs<1000000000∧q.den<1000000000):=by
 by_cases f:q.num.natAbs<1000000000∧q.den<1000000000
 ·exact⟨q.num,q.den,true,fun st=>by rw[Zve,Yr6 f],fun _=>⟨rfl,rfl,f⟩⟩
 ·exact⟨0,0,false,fun st=>by rw[Zve,Yr3 f],fun h=>by cases h⟩
def Rg.ones{h:T O}{N:Nat}{v:V}{z:Int}(s:Rg h N v z):∃u,v=.agg [.bool (decide (z<0)),u]∧V.one u=true∧V.cells u=[u]∧SlF u:=by
 obtain⟨u,rfl,hu⟩:=s
 exact⟨u,rfl,(Sl.form hu).one,(Sl.form hu).cells,Sl.form hu⟩
def Zdo{a b:Int}{k:Nat}(h1:a.natAbs<2^j)(h2:b.natAbs<2^k):(a*b).natAbs<2^(j+k):=by
 rw[Yuc,Yte]
 exact Yut h1 h2
def Zpu{a b:Int}(h1:a.natAbs<2^j)(h2:b.natAbs<2^j):(a+b).natAbs<2^(j+1):=by
 have:=Int.natAbs_add_le a b
 rw[Ysr];omega
def Ybc{a b:Rat}{k:Nat}{h:T O}{N:Nat}(ha:Qb j a)(hb:Qb k b)(hj:j≤400000000)(hk:k≤400000000):Fn A.C 81 [.str (Za0 a),.str (Za0 b)] h N (fun u _ _=>u=.str (Za0 (a*b))):=by
 intro w
 obtain⟨n1,d1,o1,hq1,f1⟩:=Zls a
 obtain⟨n2,d2,o2,hq2,f2⟩:=Zls b
 have pa:=Rat.den_pos a
 have pb:=Rat.den_pos b
 rw[Zac,A.k81 (by simp)]
 have key:(o1=true∧o2=true)∨(o1=false∨(o1=true∧o2=false)):=by cases o1<;>cases o2<;>simp
 rcases key with⟨rfl,rfl⟩|key
 ·obtain⟨rfl,rfl,g1⟩:=f1 rfl
  obtain⟨rfl,rfl,g2⟩:=f2 rfl
  have m1:(a.num*b.num).natAbs≤1000000000000000000:=by rw[Yuc];exact Zm9 g1.1 g2.1
  have m2:a.den*b.den≤1000000000000000000:=Zm9 g1.2 g2.2
  have m3:0<a.den*b.den:=Yvd pa pb
  have e2:(a.den:Int)*(b.den:Int)=((a.den*b.den:Nat):Int):=by simp
  have w1:Zap .i64 (a.num*b.num)=a.num*b.num:=Zak (by omega) (by omega)
  have w2:Zap .i64 ((a.den:Int)*(b.den:Int))=(a.den:Int)*(b.den:Int):=by rw[e2];exact Zak (by omega) (by omega)
  have ho:=fun st=>Ym5 (p:=a.num*b.num) (q:=(a.den:Int)*(b.den:Int)) (st:=st) (by omega) (by omega) (by omega) (by omega) (by omega)
  rw[←Zoq]at ho
  simp[A.b81,hq1,hq2,w1,w2,ho,Ret]
  exact Keeps.refl
 ·have la:=Zng ha.1
  have la2:=Zku ha.2
  have lb:=Zng hb.1
  have lb2:=Zku hb.2
  have z1:=Zj0 ha.1
  have z2:=Zj0 hb.1
  have z3:=Zj0 ha.2
  have z4:=Zj0 hb.2
  rcases key with rfl|⟨rfl,rfl⟩
  all_goals simp[A.b81,hq1,hq2]
  all_goals
   refine Zaf (Zjl (q:=a) (by omega) (by omega)) ?_
   rintro _ h1 t1 k1 ⟨x1,y1,rfl,X1,Y1⟩
   obtain⟨u1,rfl,p1,p2,F1⟩:=X1.ones
   obtain⟨v1,rfl,p3,p4,G1⟩:=Y1.ones
   unfold V.one at p1 p3
   unfold V.cells at p2 p4
   have KA:=((((Keeps.refl (h:=h1) (n:=t1)).new (.cells [.bool false,.nilslice] 176 true)).new (.cells [.bool false,.nilslice] 176 true)).set (i:=t1) (o:=.cells [.bool (decide (a.num<0)),u1] 176 true) (Yr4 _)).set (i:=t1+1) (o:=.cells [.bool (decide ((a.den:Int)<0)),v1] 176 true) (by omega)
   have c0:¬t1+1=t1:=by omega
   have c00:¬t1=t1+1:=by omega
   simp[p1,p2,p3,p4,Zal,splice,c0]
   generalize hHA:(((h1.set t1 (.cells [.bool false,.nilslice] 176 true)).set (t1+1) (.cells [.bool false,.nilslice] 176 true)).set t1 (.cells [.bool (decide (a.num<0)),u1] 176 true)).set (t1+1) (.cells [.bool (decide ((a.den:Int)<0)),v1] 176 true)=HA at*
   have gA1:HA.get t1=some (.cells [.bool (decide (a.num<0)),u1] 176 true):=by rw[←hHA];simp[c0,c00]
   have gA2:HA.get (t1+1)=some (.cells [.bool (decide ((a.den:Int)<0)),v1] 176 true):=by rw[←hHA];simp
   have X1:=X1.keep KA
   have Y1:=Y1.keep KA
   clear hHA
   refine Zaf (Zjl (q:=b) (by omega) (by omega)) ?_
   rintro _ h2 t2 k2 ⟨x2,y2,rfl,X2,Y2⟩
   obtain⟨u2,rfl,p5,p6,F2⟩:=X2.ones
   obtain⟨v2,rfl,p7,p8,G2⟩:=Y2.ones
   unfold V.one at p5 p7
   unfold V.cells at p6 p8
   have KB:=((((Keeps.refl (h:=h2) (n:=t2)).new (.cells [.bool false,.nilslice] 176 true)).new (.cells [.bool false,.nilslice] 176 true)).set (i:=t2) (o:=.cells [.bool (decide (b.num<0)),u2] 176 true) (Yr4 _)).set (i:=t2+1) (o:=.cells [.bool (decide ((b.den:Int)<0)),v2] 176 true) (by omega)
   have c1:¬t2+1=t2:=by omega
   have c11:¬t2=t2+1:=by omega
   have i2:=k2.le
   generalize hHB:(((h2.set t2 (.cells [.bool false,.nilslice] 176 true)).set (t2+1) (.cells [.bool false,.nilslice] 176 true)).set t2 (.cells [.bool (decide (b.num<0)),u2] 176 true)).set (t2+1) (.cells [.bool (decide ((b.den:Int)<0)),v2] 176 true)=HB at*
   have gB1:HB.get t2=some (.cells [.bool (decide (b.num<0)),u2] 176 true):=by rw[←hHB];simp[c1,c11]
   have gB2:HB.get (t2+1)=some (.cells [.bool (decide ((b.den:Int)<0)),v2] 176 true):=by rw[←hHB];simp
   have gB3:=(KB.get t1 (by omega)).trans ((k2.get t1 (by omega)).trans gA1)
   have gB4:=(KB.get (t1+1) (by omega)).trans ((k2.get (t1+1) (by omega)).trans gA2)
   have X1:=(X1.keep k2).keep KB
   have Y1:=(Y1.keep k2).keep KB
   have X2:=X2.keep KB
   have Y2:=Y2.keep KB
   have K2:Keeps h N HB (t2+1+1):=((k1.trans KA).trans k2).trans KB
   have j1:t1<t2+1+1:=by omega
   have j2:t1+1<t2+1+1:=by omega
   have j3:t2<t2+1+1:=by omega
   simp[p5,p6,p7,p8,Zal,splice,c1,hHB,gB1,gB2,gB3,gB4,Zam,slc]
   refine Zaf (Zjb X1 X2 (by omega) (by omega)) ?_
   rintro _ h3 t3 k3 X3
   have i3:=k3.le
   have gC2:=(k3.get (t2+1) (by omega)).trans gB2
   have gC4:=(k3.get (t1+1) (by omega)).trans gB4
   simp[gC2,gC4,Zam,slc]
   refine Zaf (Zjb (Y1.keep k3) (Y2.keep k3) (by rw[Yr9];omega) (by rw[Yr9];omega)) ?_
   rintro _ h4 t4 k4 X4
   have m1:=Zj0 (Zdo ha.1 hb.1)
   have m2:=Zj0 (Zdo (a:=(a.den:Int)) (b:=(b.den:Int)) (j:=j) (k:=k) (by rw[Yr9];exact ha.2) (by rw[Yr9];exact hb.2))
   simp[]
   refine Zaf (Zm5 (X3.keep k4) X4 (Yvt (by omega) (by omega)) (by omega) (by omega)) ?_
   rintro _ h5 t5 k5 rfl
   have j4:t2+1<t3:=by omega
   have j5:t1+1<t3:=by omega
   rw[←Zoq]
   have i1:=k1.le
   simp[-Zad,Zao.chk,j1,j2,j3,j4,j5,Ret]
   exact⟨Zgy (by simp;omega),((K2.trans k3).trans k4).trans k5⟩
set_option maxHeartbeats 2000000
def A.b82:Zah:=sr [ge 4 (.mov (.const (.str [])))]
 (sr [mv 16 0,c1 17 149 16,mv 15 17,xt 18 15 0,xt 19 15 1,xt 20 15 2,mv 5 18,mv 6 19,mv 7 20]
 (sr [mv 22 1,c1 23 149 22,mv 21 23,xt 24 21 0,xt 25 21 1,xt 26 21 2,mv 8 24,mv 9 25,mv 10 26]
 (.seq (sr [mv 27 7,mv 28 27,mg 29 10 28,pf 30 28 29]
 (cd 30
 (sr [mv 31 5,mv 32 9,bi 33 .mul 31 32,mv 34 8,mv 35 6,bi 36 .mul 34 35,bi 37 .add 33 36,mv 38 6,mv 39 9,bi 40 .mul 38 39,c2 41 150 37 40,mv 4 41]
 (.ret))
 (.skip)))
 (sr [mv 43 0,c1 44 79 43,mv 42 44,xt 45 42 0,xt 46 42 1,ge 11 (.alloc [.bool false,.nilslice] 176),ge 12 (.alloc [.bool false,.nilslice] 176),gn (.store 2 (tq 11) (tq 45)),gn (.store 2 (tq 12) (tq 46))]
 (sr [mv 48 1,c1 49 79 48,mv 47 49,xt 50 47 0,xt 51 47 1,ge 13 (.alloc [.bool false,.nilslice] 176),ge 14 (.alloc [.bool false,.nilslice] 176),gn (.store 2 (tq 13) (tq 50)),gn (.store 2 (tq 14) (tq 51))]
 (.seq (.regD [lN 52 2 11,lN 53 2 14,c2 54 152 52 53,lN 55 2 13,lN 56 2 12,c2 57 152 55 56,c2 58 153 54 57,lN 59 2 12,lN 60 2 14,c2 61 152 59 60,c2 62 151 58 61,mv 4 62] [0,0,3,0,0,31,63,0,0,511,1023,2047])
 (.ret)))))))
def A.k82:=@A.kk 82 63 [.tmp 4] A.b82 (by kernel_rfl) rfl
def Zuv{a b:Rat}{j k:Nat}{h:T O}{N:Nat}(ha:Qb j a)(hb:Qb k b)(hj:j≤400000000)(hk:k≤400000000):Fn A.C 82 [.str (Za0 a),.str (Za0 b)] h N (fun u _ _=>u=.str (Za0 (a+b))):=by
 intro w
 obtain⟨n1,d1,o1,hq1,f1⟩:=Zls a
 obtain⟨n2,d2,o2,hq2,f2⟩:=Zls b
 have pa:=Rat.den_pos a
 have pb:=Rat.den_pos b
 rw[Zac,A.k82 (by simp)]
 have key:(o1=true∧o2=true)∨(o1=false∨(o1=true∧o2=false)):=by cases o1<;>cases o2<;>simp
 rcases key with⟨rfl,rfl⟩|key
 ·obtain⟨rfl,rfl,g1⟩:=f1 rfl
  obtain⟨rfl,rfl,g2⟩:=f2 rfl
  have m1:(a.num*(b.den:Int)).natAbs≤1000000000000000000:=by rw[Yuc,Yr9];exact Zm9 g1.1 g2.2
  have m4:(b.num*(a.den:Int)).natAbs≤1000000000000000000:=by rw[Yuc,Yr9];exact Zm9 g2.1 g1.2
  have m2:a.den*b.den≤1000000000000000000:=Zm9 g1.2 g2.2
  have m3:0<a.den*b.den:=Yvd pa pb
  have e2:(a.den:Int)*(b.den:Int)=((a.den*b.den:Nat):Int):=by simp
  have w1:Zap .i64 (a.num*(b.den:Int))=a.num*(b.den:Int):=Zak (by omega) (by omega)
  have w3:Zap .i64 (b.num*(a.den:Int))=b.num*(a.den:Int):=Zak (by omega) (by omega)
  have w2:Zap .i64 ((a.den:Int)*(b.den:Int))=(a.den:Int)*(b.den:Int):=by rw[e2];exact Zak (by omega) (by omega)
  have w4:Zap .i64 (a.num*(b.den:Int)+b.num*(a.den:Int))=a.num*(b.den:Int)+b.num*(a.den:Int):=Zak (by omega) (by omega)
  have ho:=fun st=>Ym5 (p:=a.num*(b.den:Int)+b.num*(a.den:Int)) (q:=(a.den:Int)*(b.den:Int)) (st:=st) (by omega) (by omega) (by omega) (by omega) (by omega)
  rw[←Zo5]at ho
  simp[A.b82,hq1,hq2,w1,w2,w3,w4,ho,Ret]
  exact Keeps.refl
 ·have la:=Zng ha.1
  have la2:=Zku ha.2
  have lb:=Zng hb.1
  have lb2:=Zku hb.2
  have z1:=Zj0 ha.1
  have z2:=Zj0 hb.1
  have z3:=Zj0 ha.2
  have z4:=Zj0 hb.2
  rcases key with rfl|⟨rfl,rfl⟩
  all_goals simp[A.b82,hq1,hq2]
  all_goals
   refine Zaf (Zjl (q:=a) (by omega) (by omega)) ?_
   rintro _ h1 t1 k1 ⟨x1,y1,rfl,X1,Y1⟩
   obtain⟨u1,rfl,p1,p2,F1⟩:=X1.ones
   obtain⟨v1,rfl,p3,p4,G1⟩:=Y1.ones
   unfold V.one at p1 p3
   unfold V.cells at p2 p4
   have KA:=((((Keeps.refl (h:=h1) (n:=t1)).new (.cells [.bool false,.nilslice] 176 true)).new (.cells [.bool false,.nilslice] 176 true)).set (i:=t1) (o:=.cells [.bool (decide (a.num<0)),u1] 176 true) (Yr4 _)).set (i:=t1+1) (o:=.cells [.bool (decide ((a.den:Int)<0)),v1] 176 true) (by omega)
   have c0:¬t1+1=t1:=by omega
   have c00:¬t1=t1+1:=by omega
   simp[p1,p2,p3,p4,Zal,splice,c0]
   generalize hHA:(((h1.set t1 (.cells [.bool false,.nilslice] 176 true)).set (t1+1) (.cells [.bool false,.nilslice] 176 true)).set t1 (.cells [.bool (decide (a.num<0)),u1] 176 true)).set (t1+1) (.cells [.bool (decide ((a.den:Int)<0)),v1] 176 true)=HA at*
   have gA1:HA.get t1=some (.cells [.bool (decide (a.num<0)),u1] 176 true):=by rw[←hHA];simp[c0,c00]
   have gA2:HA.get (t1+1)=some (.cells [.bool (decide ((a.den:Int)<0)),v1] 176 true):=by rw[←hHA];simp
   have X1:=X1.keep KA
   have Y1:=Y1.keep KA
   clear hHA
   refine Zaf (Zjl (q:=b) (by omega) (by omega)) ?_
   rintro _ h2 t2 k2 ⟨x2,y2,rfl,X2,Y2⟩
   obtain⟨u2,rfl,p5,p6,F2⟩:=X2.ones
   obtain⟨v2,rfl,p7,p8,G2⟩:=Y2.ones
   unfold V.one at p5 p7
   unfold V.cells at p6 p8
   have KB:=((((Keeps.refl (h:=h2) (n:=t2)).new (.cells [.bool false,.nilslice] 176 true)).new (.cells [.bool false,.nilslice] 176 true)).set (i:=t2) (o:=.cells [.bool (decide (b.num<0)),u2] 176 true) (Yr4 _)).set (i:=t2+1) (o:=.cells [.bool (decide ((b.den:Int)<0)),v2] 176 true) (by omega)
   have c1:¬t2+1=t2:=by omega
   have c11:¬t2=t2+1:=by omega
   have i2:=k2.le
   generalize hHB:(((h2.set t2 (.cells [.bool false,.nilslice] 176 true)).set (t2+1) (.cells [.bool false,.nilslice] 176 true)).set t2 (.cells [.bool (decide (b.num<0)),u2] 176 true)).set (t2+1) (.cells [.bool (decide ((b.den:Int)<0)),v2] 176 true)=HB at*
   have gB1:HB.get t2=some (.cells [.bool (decide (b.num<0)),u2] 176 true):=by rw[←hHB];simp[c1,c11]
   have gB2:HB.get (t2+1)=some (.cells [.bool (decide ((b.den:Int)<0)),v2] 176 true):=by rw[←hHB];simp
   have gB3:=(KB.get t1 (by omega)).trans ((k2.get t1 (by omega)).trans gA1)
   have gB4:=(KB.get (t1+1) (by omega)).trans ((k2.get (t1+1) (by omega)).trans gA2)
   have X1:=(X1.keep k2).keep KB
   have Y1:=(Y1.keep k2).keep KB
   have X2:=X2.keep KB
   have Y2:=Y2.keep KB
   have K2:Keeps h N HB (t2+1+1):=((k1.trans KA).trans k2).trans KB
   have j1:t1<t2+1+1:=by omega
   have j2:t1+1<t2+1+1:=by omega
   have j3:t2<t2+1+1:=by omega
   simp[p5,p6,p7,p8,Zal,splice,c1,hHB,gB1,gB2,gB3,gB4,Zam,slc]
   refine Zaf (Zjb X1 Y2 (by omega) (by rw[Yr9];omega)) ?_
   rintro _ h3 t3 k3 X3
   have i3:=k3.le
   have gC1:=(k3.get t2 (by omega)).trans gB1
   have gC2:=(k3.get (t2+1) (by omega)).trans gB2
   have gC4:=(k3.get (t1+1) (by omega)).trans gB4
   simp[gC1,gC4,Zam,slc]
   refine Zaf (Zjb (X2.keep k3) (Y1.keep k3) (by omega) (by rw[Yr9];omega)) ?_
   rintro _ h4 t4 k4 X4
   have i4:=k4.le
   have b1:=Zdo (b:=(b.den:Int)) (k:=k) ha.1 (by rw[Yr9];exact hb.2)
   have b2:=Zdo (b:=(a.den:Int)) (k:=j) hb.1 (by rw[Yr9];exact ha.2)
   rw[Nat.add_comm k j]at b2
   have m1:=Zj0 b1
   have m2:=Zj0 b2
   have m3:=Zj0 (Zpu b1 b2)
   have m4:=Zj0 (Zdo (a:=(a.den:Int)) (b:=(b.den:Int)) (j:=j) (k:=k) (by rw[Yr9];exact ha.2) (by rw[Yr9];exact hb.2))
   simp[]
   refine Zaf (Yjx (X3.keep k4) X4 (by omega) (by omega)) ?_
   rintro _ h5 t5 k5 X5
   have i5:=k5.le
   have gD2:=(k5.get (t2+1) (by omega)).trans ((k4.get (t2+1) (by omega)).trans gC2)
   have gD4:=(k5.get (t1+1) (by omega)).trans ((k4.get (t1+1) (by omega)).trans gC4)
   simp[gD2,gD4,Zam,slc]
   refine Zaf (Zjb (((Y1.keep k3).keep k4).keep k5) (((Y2.keep k3).keep k4).keep k5) (by rw[Yr9];omega) (by rw[Yr9];omega)) ?_
   rintro _ h6 t6 k6 X6
   simp[]
   refine Zaf (Zm5 (X5.keep k6) X6 (Yvt (by omega) (by omega)) (by omega) (by omega)) ?_
   rintro _ h7 t7 k7 rfl
   have j4:t2+1<t3:=by omega
   have j5:t1+1<t3:=by omega
   have j6:t2<t3:=by omega
   have j7:t2+1<t5:=by omega
   have j8:t1+1<t5:=by omega
   rw[←Zo5]
   have i1:=k1.le
   simp[-Zad,Zao.chk,j1,j2,j3,j4,j5,j6,j7,j8,Ret]
   exact⟨Zgy (by simp;omega),((((K2.trans k3).trans k4).trans k5).trans k6).trans k7⟩
variable {q:Rat}
def A.b155:Zah:=sr [mc 2 0]
 (.seq (sr [mv 3 0,ge 4 (.bin .eql (.prim .str) true (tq 3) (.const (.str [48])))]
 (cd 4
 (sr [mc 2 0]
 (.ret))
 (.skip)))
 (.seq (sr [mv 5 0,ge 6 (.len 0 (tq 5)),bc 7 .gtr 6 0,mv 8 7,mg 9 0 8,gy 10 8 (.idxStr (tq 9) (kq 0)),gy 11 8 (.bin .eql (.prim .int) true (tq 10) (.const (.int .u8 45))),pf 12 8 11]
 (cd 12
 (sr [ge 2 (.mov (.const (.int .i64 (-1))))]
 (.ret))
 (.skip)))
 (sr [mc 2 1]
 (.ret))))
def A.k155:=@A.kk 155 13 [.tmp 2] A.b155 (by kernel_rfl) rfl
def A.b247:Zah:=sr [ge 2 (.mov (.const (.str [])))]
 (.seq (sr [mv 3 0,c1 4 155 3,bc 5 .lss 4 0]
 (cd 5
 (sr [mv 6 0,ge 7 (.sliceStr (tq 6) (some (kq 1)) none),mv 2 7]
 (.ret))
 (.skip)))
 (.seq (sr [mv 8 0,c1 9 155 8,ei 10 9 0]
 (cd 10
 (sr [mv 11 0,mv 2 11]
 (.ret))
 (.skip)))
 (sr [mv 12 0,ge 13 (.bin .add (.node []) false (.const (.str [45])) (tq 12)),mv 2 13]
 (.ret))))
def A.k247:=@A.kk 247 14 [.tmp 2] A.b247 (by kernel_rfl) rfl
def A.b43:Zah:=sr [mc 2 0]
 (.seq (sr [mv 3 0,c1 4 85 3,c1 5 84 4,ge 6 (.len 0 (tq 5)),bc 7 .gtr 6 600,mv 8 7,mh 9 0 8,gz 10 8 (.call (fq 86) [tq 9]),gz 11 8 (.len 0 (tq 10)),gz 12 8 (.bin .gtr (.node []) false (tq 11) (kq 600)),pt 13 8 12]
 (cd 13
 (sr [mc 2 4]
 (.ret))
 (.skip)))
 (sr [mc 2 0]
 (.ret)))
def A.k43:=@A.kk 43 14 [.tmp 2] A.b43 (by kernel_rfl) rfl
def A.b85:Zah:=sr [ge 2 (.mov (.const (.str [])))]
 (sr [mv 3 0,mv 4 0,c1 5 77 4,ge 6 (.sliceStr (tq 3) none (some (tq 5))),mv 2 6]
 (.ret))
def A.k85:=@A.kk 85 7 [.tmp 2] A.b85 (by kernel_rfl) rfl
def A.b86:Zah:=sr [ge 2 (.mov (.const (.str [])))]
 (sr [mv 4 0,c1 5 77 4,mv 3 5]
 (.seq (sr [mv 6 3,mv 7 0,ge 8 (.len 0 (tq 7)),ge 9 (.bin .eql (.prim .int) false (tq 6) (tq 8))]
 (cd 9
 (sr [ge 2 (.mov (.const (.str [49])))]
 (.ret))
 (.skip)))
 (sr [mv 10 0,mv 11 3,bc 12 .add 11 1,ge 13 (.sliceStr (tq 10) (some (tq 12)) none),mv 2 13]
 (.ret))))
def A.k86:=@A.kk 86 14 [.tmp 2] A.b86 (by kernel_rfl) rfl
def A.b84:Zah:=sr [ge 2 (.mov (.const (.str [])))]
 (.seq (sr [mv 3 0,c1 4 155 3,bc 5 .lss 4 0]
 (cd 5
 (sr [mv 6 0,ge 7 (.sliceStr (tq 6) (some (kq 1)) none),mv 2 7]
 (.ret))
 (.skip)))
 (sr [mv 8 0,mv 2 8]
 (.ret)))
def A.k84:=@A.kk 84 9 [.tmp 2] A.b84 (by kernel_rfl) rfl
def Ymk:Za0 0=[48]:=by decide+kernel
def Yi8:Za0 q=[48]↔q=0:=⟨fun h=>Yeg (h.trans Ymk.symm),fun h=>by rw[h,Ymk]⟩
def Yoj:q.num=0↔q=0:=Rat.num_eq_zero
def Yi7(q:Rat):0<(Za0 q).length:=by
 obtain⟨c,t,h,_⟩:=Zux q
 rw[Zh3,h]
 split<;>simp
def Yef(q:Rat):∃c,(Za0 q)[0]?=some c∧(Za0 q).head?=some c∧(u8I c=45↔q.num<0):=by
 obtain⟨c,t,h,h1⟩:=Zux q
 by_cases hz:q.num<0
 ·refine⟨45,?_,?_,?_⟩
  ·rw[Zh3,Yr6 hz];rfl
  ·rw[Zh3,Yr6 hz];rfl
  ·exact⟨fun _=>hz,fun _=>rfl⟩
 ·refine⟨c,?_,?_,?_⟩
  ·rw[Zh3,Yr3 hz,h];rfl
  ·rw[Zh3,Yr3 hz,h];rfl
  ·exact⟨fun h2=>by unfold u8I at h2;omega,fun h2=>absurd h2 hz⟩
def Zpf{st:St}:A.C.call (.func 155 [] []) [.str (Za0 q)] st=some (.int .i64 (sg3 q.num),st):=by
 have e:(Za0 q==[48])=decide (q=0):=by rw[Bool.eq_iff_iff,beq_iff_eq,decide_eq_true_eq];exact Yi8
 obtain⟨c,h1,h2,h3⟩:=Yef q
 have hp:=Yi7 q
 have hp':(0:Int)<((Za0 q).length:Int):=by omega
 have hne:Za0 q≠[]:=fun hc=>by rw[hc]at hp;simp at hp
 apply Call.eq
 rw[Zac,A.k155 (by simp)]
 by_cases h0:q=0
 ·have hn:q.num=0:=Yoj.2 h0
  have hs:sg3 q.num=0:=by rw[hn];rfl
  have e0:(Za0 q==[48])=true:=by rw[e];simp[h0]
  rw[hs]
  simp(disch:=first|(simp;done)|omega|rfl) [-getElem?_pos,A.b155,Zae,Zbh,e0]
 ·have hn:q.num≠0:=fun hc=>h0 (Yoj.1 hc)
  by_cases hz:q.num<0
  ·have hs:sg3 q.num= -1:=by unfold sg3;rw[Yr6 hz]
   have hc:=h3.2 hz
   rw[hs]
   simp(disch:=first|(simp;done)|omega|rfl) [-getElem?_pos,A.b155,Zae,Zbh,e,h0,hp,hp',hne,h1,h2,hc]
  ·have hs:sg3 q.num=1:=by unfold sg3;rw[Yr3 hz,Yr3 hn]
   have hc:¬u8I c=45:=fun hc=>hz (h3.1 hc)
   rw[hs]
   simp(disch:=first|(simp;done)|omega|rfl) [-getElem?_pos,A.b155,Zae,Zbh,e,h0,hp,hp',hne,h1,h2,hc]
def Yn9(q:Rat):QB (-q)=QB q:=by
 unfold QB
 rw[Rat.neg_den,Rat.neg_num,Yux]
def Yj8{st:St}(hl:(Za0 q).length<1000000000):A.C.call (.func 247 [] []) [.str (Za0 q)] st=some (.str (Za0 (-q)),st):=by
 have hs:=fun st=>Zpf (q:=q) (st:=st)
 have hmx:IntKind.max .i64=9223372036854775807:=rfl
 apply Call.eq
 rw[Zac,A.k247 (by simp)]
 have hn2:=Zh3 (-q)
 rw[Yn9,Rat.neg_num]at hn2
 by_cases hz:q.num<0
 ·have e1:Za0 q=45::QB q:=by rw[Zh3,Yr6 hz]
  have e2:Za0 (-q)=QB q:=by rw[hn2,Yr3 (by omega)]
  have e3:sg3 q.num= -1:=by unfold sg3;rw[Yr6 hz]
  rw[e1,e3]at hs
  have a3:∀st:St,Zch st (some (.str (45::QB q))) (some (some (.int .i64 1))) (some none)=some (.str (QB q),st):=fun st=>by rw[Zdx (by omega) (by simp only[Yr2];omega)];rfl
  rw[e1,e2]
  simp[A.b247,hs,evOpt,a3]
 ·by_cases h0:q=0
  ·have e3:sg3 q.num=0:=by rw[Yoj.2 h0];rfl
   rw[e3]at hs
   have e4: -q=q:=by rw[h0];rfl
   rw[e4]
   simp[A.b247,hs,Zae]
  ·have hn:q.num≠0:=fun hc=>h0 (Yoj.1 hc)
   have e1:Za0 q=QB q:=by rw[Zh3,Yr3 hz]
   have e2:Za0 (-q)=45::QB q:=by rw[hn2,Yr6 (by omega)]
   have e3:sg3 q.num=1:=by unfold sg3;rw[Yr3 hz,Yr3 hn]
   rw[e3]at hs
   rw[e1]at hs hl
   have hb:¬(9223372036854775807:Int)<1+((QB q).length:Int):=by omega
   rw[e2,e1]
   simp[A.b247,hs,Zae,Zbh,hmx,hb]
def Yj5{st:St}(hl:(Za0 q).length<1000000000):A.C.call (.func 85 [] []) [.str (Za0 q)] st=some (.str (decI q.num),st):=by
 have hsl:=fun st=>Ze6 (s:=Za0 q) (st:=st) (by omega)
 have h2:slashAt (Za0 q)≤(Za0 q).length:=by
  rw[Zdy]
  unfold Za0
  split
  ·exact Yr4 _
  ·rw[Ysn];omega
 have a4:∀st:St,Zch st (some (.str (Za0 q))) (some none) (some (some (.int .i64 (slashAt (Za0 q):Nat))))=some (.str (decI q.num),st):=fun st=>by rw[Zkj (by omega) (by omega),Int.toNat_natCast,Zi6]
 apply Call.eq
 rw[Zac,A.k85 (by simp)]
 simp[A.b85,hsl,evOpt,a4]
def Yli{st:St}(hl:(Za0 q).length<1000000000):A.C.call (.func 86 [] []) [.str (Za0 q)] st=some (.str (decN q.den),st):=by
 have hsl:=fun st=>Ze6 (s:=Za0 q) (st:=st) (by omega)
 have hlt:=Zi7 q
 have h2:slashAt (Za0 q)≤(Za0 q).length:=by
  rw[Zdy]
  unfold Za0
  split
  ·exact Yr4 _
  ·rw[Ysn];omega
 apply Call.eq
 rw[Zac,A.k86 (by simp)]
 by_cases hd:q.den=1
 ·have c1:(slashAt (Za0 q):Int)=((Za0 q).length:Int):=by omega
  rw[hd,Yc7]
  simp[A.b86,hsl,Zae,c1]
 ·have hl2:=hlt.2 hd
  have c1:¬(slashAt (Za0 q):Int)=((Za0 q).length:Int):=by omega
  have c2:¬slashAt (Za0 q)=(Za0 q).length:=by omega
  have w1:Zap .i64 ((slashAt (Za0 q):Int)+1)=(slashAt (Za0 q):Int)+1:=Zak (by omega) (by omega)
  have hdr:=Zi8 q hd
  have a4:∀st:St,Zch st (some (.str (Za0 q))) (some (some (.int .i64 ((slashAt (Za0 q):Int)+1)))) (some none)=some (.str (decN q.den),st):=fun st=>by
   rw[Zdx (by omega) (by omega)]
   have:((slashAt (Za0 q):Int)+1).toNat=slashAt (Za0 q)+1:=by omega
   rw[this,hdr]
  simp[A.b86,hsl,Zae,c1,c2,w1,evOpt,a4]
def Yi9(z:Int):Za0 (z:Rat)=decI z:=by
 unfold Za0
 rw[Yr6 (by simp)];simp
def Ylx{z:Int}{st:St}(hl:(decI z).length<1000000000):A.C.call (.func 84 [] []) [.str (decI z)] st=some (.str (decN z.natAbs),st):=by
 have hs:=fun st=>Zpf (q:=(z:Rat)) (st:=st)
 rw[Yi9]at hs
 have hn:((z:Rat)).num=z:=by simp
 rw[hn]at hs
 apply Call.eq
 rw[Zac,A.k84 (by simp)]
 by_cases hz:z<0
 ·have e1:decI z=45::decN z.natAbs:=by unfold decI;rw[Yr6 hz]
  have e3:sg3 z= -1:=by unfold sg3;rw[Yr6 hz]
  rw[e1,e3]at hs
  have a3:∀st:St,Zch st (some (.str (45::decN z.natAbs))) (some (some (.int .i64 1))) (some none)=some (.str (decN z.natAbs),st):=fun st=>by rw[Zdx (by omega) (by simp only[Yr2];omega)];rfl
  rw[e1]
  simp[A.b84,hs,evOpt,a3]
 ·have e1:decI z=decN z.natAbs:=by unfold decI;rw[Yr3 hz]
  have e3:¬sg3 z<0:=by unfold sg3;rw[Yr3 hz];split<;>omega
  rw[e1]at hs
  rw[e1]
  simp[A.b84,hs,e3]
def Yca{st:St}(hl:(Za0 q).length<1000000000):A.C.call (.func 43 [] []) [.str (Za0 q)] st=some (.int .i64 (if Zy6 q=true then 4 else 0),st):=by
 have h1:=fun st=>Yj5 (q:=q) (st:=st) hl
 have h2:=fun st=>Yli (q:=q) (st:=st) hl
 have hdl:(decI q.num).length<1000000000:=by
  have:(decI q.num).length≤(Za0 q).length:=by
   unfold Za0
   split
   ·exact Yr4 _
   ·rw[Ysn];omega
  omega
 have h3:=fun st=>Ylx (z:=q.num) (st:=st) hdl
 apply Call.eq
 rw[Zac,A.k43 (by simp)]
 unfold Zy6
 by_cases c1:600<(decN q.num.natAbs).length
 ·have c1':(600:Int)<((decN q.num.natAbs).length:Int):=by omega
  simp[A.b43,h1,h3,c1,c1']
 ·have c1':¬(600:Int)<((decN q.num.natAbs).length:Int):=by omega
  by_cases c2:600<(decN q.den).length
  ·have c2':(600:Int)<((decN q.den).length:Int):=by omega
   simp[A.b43,h1,h2,h3,c1,c1',c2,c2']
  ·have c2':¬(600:Int)<((decN q.den).length:Int):=by omega
   simp[A.b43,h1,h2,h3,c1,c1',c2,c2']
variable {N j k:Nat} {a b:Rat} {h:T O}
def A.b209:Zah:=sr [ge 4 (.mov (.const (.str [])))]
 (sr [mv 5 0,mv 6 1,c1 7 247 6,c2 8 82 5 7,mv 4 8]
 (.ret))
def A.k209:=@A.kk 209 9 [.tmp 4] A.b209 (by kernel_rfl) rfl
def A.b154:Zah:=sr [mc 4 0]
 (sr [mv 5 0,mv 6 1,c2 7 209 5 6,c1 8 155 7,mv 4 8]
 (.ret))
def A.k154:=@A.kk 154 9 [.tmp 4] A.b154 (by kernel_rfl) rfl
def A.b83:Zah:=sr [ge 4 (.mov (.const (.str [])))]
 (.seq (sr [mv 5 0,mv 6 1,c2 7 154 5 6,bc 8 .geq 7 0]
 (cd 8
 (sr [mv 9 0,mv 4 9]
 (.ret))
 (.skip)))
 (sr [mv 10 1,mv 4 10]
 (.ret)))
def A.k83:=@A.kk 83 11 [.tmp 4] A.b83 (by kernel_rfl) rfl
def Ye6(ha:Qb j a)(hb:Qb k b)(hj:j≤400000000)(hk:k≤400000000)(hl:(Za0 b).length<1000000000):Fn A.C 209 [.str (Za0 a),.str (Za0 b)] h N (fun u _ _=>u=.str (Za0 (a-b))):=by
 intro w
 have hn:=fun st=>Yj8 (q:=b) (st:=st) hl
 rw[Zac,A.k209 (by simp)]
 simp(disch:=first|(simp;done)|omega|rfl) [-getElem?_pos,A.b209,hn]
 refine Zaf (Zuv (a:=a) (b:= -b) ha hb.neg hj hk) ?_
 rintro _ H1 n1 k1 rfl
 rw[←Rat.sub_eq_add_neg]
 simp(disch:=first|(simp;done)|omega|rfl) [-getElem?_pos,Ret]
 exact k1
def Ye9(ha:Qb j a)(hb:Qb k b)(hj:j≤400000000)(hk:k≤400000000)(hl:(Za0 b).length<1000000000):Fn A.C 154 [.str (Za0 a),.str (Za0 b)] h N (fun u _ _=>u=.int .i64 (sg3 (a-b).num)):=by
 intro w
 rw[Zac,A.k154 (by simp)]
 simp(disch:=first|(simp;done)|omega|rfl) [-getElem?_pos,A.b154]
 refine Zaf (Ye6 ha hb hj hk hl) ?_
 rintro _ H1 n1 k1 rfl
 have hs:=fun st=>Zpf (q:=a-b) (st:=st)
 simp(disch:=first|(simp;done)|omega|rfl) [-getElem?_pos,hs,Ret]
 exact k1
def Zva:(0≤sg3 (a-b).num)=¬a<b:=by
 apply propext
 have h1:(0≤sg3 (a-b).num)↔0≤(a-b).num:=by unfold sg3;split<;>(try split)<;>omega
 rw[h1,Rat.num_nonneg,←Rat.le_iff_sub_nonneg,Rat.not_lt]
def Ye8(ha:Qb j a)(hb:Qb k b)(hj:j≤400000000)(hk:k≤400000000)(hl:(Za0 b).length<1000000000):Fn A.C 83 [.str (Za0 a),.str (Za0 b)] h N (fun u _ _=>u=.str (Za0 (mx2 a b))):=by
 intro w
 rw[Zac,A.k83 (by simp)]
 simp(disch:=first|(simp;done)|omega|rfl) [-getElem?_pos,A.b83]
 refine Zaf (Ye9 ha hb hj hk hl) ?_
 rintro _ H1 n1 k1 rfl
 by_cases hc:a<b
 ·have h1:¬0≤sg3 (a-b).num:=by rw[Zva];simpa using hc
  simp(disch:=first|(simp;done)|omega|rfl) [-getElem?_pos,h1,Ret,mx2,hc]
  exact k1
 ·have h1:0≤sg3 (a-b).num:=by rw[Zva];exact hc
  simp(disch:=first|(simp;done)|omega|rfl) [-getElem?_pos,h1,Ret,mx2,hc]
  exact k1
def A.lb74_0:Zah:=.seq (sr [mv 14 3,mv 15 0,ge 16 (.len 0 (tq 15)),bi 17 .lss 14 16]
 (cd 17
 (.skip)
 (.exit 0)))
 (.seq (.block 1 (sr [mv 20 0,mv 21 3,ge 22 (.idxStr (tq 20) (tq 21)),mv 4 22]
 (sr [mv 23 4,ge 24 (.bin .geq (.node []) false (tq 23) (.const (.int .u8 97))),mv 25 24,mg 26 4 25,gy 27 25 (.bin .leq (.node []) false (tq 26) (.const (.int .u8 122))),pf 28 25 27,mv 29 28,mh 30 4 29,gz 31 29 (.bin .geq (.node []) false (tq 30) (.const (.int .u8 65))),mh 32 31 29,mg 33 4 32,gy 34 32 (.bin .leq (.node []) false (tq 33) (.const (.int .u8 90))),gz 35 29 (.pick (tq 32) (tq 34) (.const (.bool false))),pt 36 29 35,mv 5 36]
 (sr [mv 37 5,ge 38 (.un .not (tq 37)),mv 39 38,mg 40 3 39,gy 41 39 (.bin .eql (.prim .int) true (tq 40) (kq 0)),mg 42 41 39,mh 43 4 42,gz 44 42 (.bin .geq (.node []) false (tq 43) (.const (.int .u8 48))),mh 45 44 42,mg 46 4 45,gy 47 45 (.bin .leq (.node []) false (tq 46) (.const (.int .u8 57))),gz 48 42 (.pick (tq 45) (tq 47) (.const (.bool false))),mh 49 48 42,mh 50 4 49,gz 51 49 (.bin .eql (.prim .int) true (tq 50) (.const (.int .u8 95))),gz 52 42 (.pick (tq 49) (.const (.bool true)) (tq 51)),gz 53 42 (.un .not (tq 52)),gy 54 39 (.pick (tq 42) (.const (.bool true)) (tq 53)),pf 55 39 54]
 (cd 55
 (sr [ge 2 (.mov (.const (.bool false)))]
 (.ret))
 (.skip))))))
 (.reg [mv 18 3,bc 19 .add 18 1,mv 3 19]))
def A.b74:Zah:=sr [ge 2 (.mov (.const (.bool false)))]
 (.seq (sr [mv 6 0,ge 7 (.len 0 (tq 6)),bc 8 .lss 7 1,mv 9 8,mh 10 0 9,gz 11 9 (.len 0 (tq 10)),gz 12 9 (.bin .gtr (.node []) false (tq 11) (kq 24)),pt 13 9 12]
 (cd 13
 (sr [ge 2 (.mov (.const (.bool false)))]
 (.ret))
 (.skip)))
 (.seq (sr [mc 3 0]
 (.block 0 (.loop A.lb74_0)))
 (sr [ge 2 (.mov (.const (.bool true)))]
 (.ret))))
def A.k74:=@A.kk 74 56 [.tmp 2] A.b74 (by kernel_rfl) rfl
def Zcp{s:Str}{st:St}:A.C.call (.func 74 [] []) [.str s] st=some (.bool (Zgm s),st):=by
 apply Call.eq
 rw[Zac,A.k74 (by simp)]
 unfold Zgm
 by_cases h1:s.length<1
 ·have:s=[]:=Ysh (by omega)
  subst this
  simp[A.b74]
 ·have hne:s≠[]:=fun h=>by rw[h]at h1;simp at h1
  have h1':¬((s.length:Int)<1):=by omega
  by_cases h2:s.length≤24
  ·have h2':¬(24<(s.length:Int)):=by omega
   simp[A.b74,h1',h2',hne,h2]
   refine Zai [(2,5),(14,55)] (fun e r s1=>s1=⟨st.h,st.n,[]⟩∧((e=.exit 0∧Zik 0 s=true)∨(e=.ret∧Zik 0 s=false∧r.get 2=some (.bool false)))) (fun m r s1=>s1=⟨st.h,st.n,[]⟩∧∃k,m=s.length-k∧k≤s.length∧r.get 3=some (.int .i64 k)∧Zik 0 s=Zik k (s.drop k)) s.length ?_ ?_ ?_
   ·exact⟨rfl,0,by omega,by omega,by simp,by simp⟩
   ·rintro m r _ hr hf ⟨rfl,k,rfl,hk,h3,hz⟩
    rw[Zaj]
    by_cases hlt:k<s.length
    ·obtain⟨c,hc⟩:=Zag hlt
     rw[Zaq hc,Zik]at hz
     simp only[Yka,Yh9,Zr5,Ymi]at hz
     have hk1:(k:Int)<(s.length:Int):=by omega
     by_cases hk0:k=0
     ·have e0:=eq_true hk0
      obtain hx|hx|hx|hx|hx:u8I c<65∨(65≤u8I c∧u8I c≤90)∨(90<u8I c∧u8I c<97)∨(97≤u8I c∧u8I c≤122)∨122<u8I c:=by omega
      all_goals
       first|(have a0:97≤u8I c:=by omega)|(have a0:¬(97≤u8I c):=by omega)
       first|(have a1:u8I c≤122:=by omega)|(have a1:¬(u8I c≤122):=by omega)
       first|(have a2:65≤u8I c:=by omega)|(have a2:¬(65≤u8I c):=by omega)
       first|(have a3:u8I c≤90:=by omega)|(have a3:¬(u8I c≤90):=by omega)
       simp(disch:=first|(simp;done)|omega|rfl) [-getElem?_pos,A.lb74_0,hr,h3,hf,hc,hk1,e0,Zae,a0,a1,a2,a3]
       simp[Zvx,a0,a1,a2,a3,e0]at hz
       first|exact hz|exact⟨_,by omega,k+1,rfl,by omega,rfl,hz⟩
     ·obtain hx|hx|hx|hx|hx|hx|hx|hx|hx:u8I c<48∨(48≤u8I c∧u8I c≤57)∨(57<u8I c∧u8I c<65)∨(65≤u8I c∧u8I c≤90)∨(90<u8I c∧u8I c<95)∨u8I c=95∨u8I c=96∨(97≤u8I c∧u8I c≤122)∨122<u8I c:=by omega
      all_goals
       first|(have a0:97≤u8I c:=by omega)|(have a0:¬(97≤u8I c):=by omega)
       first|(have a1:u8I c≤122:=by omega)|(have a1:¬(u8I c≤122):=by omega)
       first|(have a2:65≤u8I c:=by omega)|(have a2:¬(65≤u8I c):=by omega)
       first|(have a3:u8I c≤90:=by omega)|(have a3:¬(u8I c≤90):=by omega)
       first|(have a4:48≤u8I c:=by omega)|(have a4:¬(48≤u8I c):=by omega)
       first|(have a5:u8I c≤57:=by omega)|(have a5:¬(u8I c≤57):=by omega)
       first|(have a6:u8I c=95:=by omega)|(have a6:¬(u8I c=95):=by omega)
       simp(disch:=first|(simp;done)|omega|rfl) [-getElem?_pos,A.lb74_0,hr,h3,hf,hc,hk1,hk0,Zae,a0,a1,a2,a3,a4,a5,a6]
       simp[Zvx,a0,a1,a2,a3,a4,a5,a6,hk0]at hz
       first|exact hz|exact⟨_,by omega,k+1,rfl,by omega,rfl,hz⟩
    ·have:s.drop k=[]:=Ytd (by omega)
     rw[this,Zik]at hz
     have:k=s.length:=by omega
     subst this
     simp(disch:=first|(simp;done)|omega|rfl) [-getElem?_pos,A.lb74_0,hr,h3,hf,hz]
   ·rintro e r _ hr ⟨rfl,⟨rfl,hz⟩|⟨rfl,hz,h2⟩⟩
    ·simp[hz]
    ·simp[hz,h2]
  ·have h2':24<(s.length:Int):=by omega
   simp[A.b74,h1',h2',h2]
def A.lb75_0:Zah:=.seq (sr [mv 6 5,mv 7 0,ln 8 7,bi 9 .lss 6 8]
 (cd 9
 (.skip)
 (.exit 0)))
 (.seq (.block 1 (sr [mv 12 0,mv 13 5,ia 14 5 12 13,fa 15 0 14,ld 16 15,mv 17 1,ge 18 (.bin .eql (.prim .str) false (tq 16) (tq 17))]
 (cd 18
 (sr [mv 19 5,mv 4 19]
 (.ret))
 (.skip))))
 (.reg [mv 10 5,bc 11 .add 10 1,mv 5 11]))
def A.b75:Zah:=sr [mc 4 0]
 (.seq (sr [mc 5 0]
 (.block 0 (.loop A.lb75_0)))
 (sr [ge 4 (.mov (.const (.int .i64 (-1))))]
 (.ret)))
def A.k75:=@A.kk 75 20 [.tmp 4] A.b75 (by kernel_rfl) rfl
def A.b76:Zah:=sr [ge 4 (.mov (.const (.bool false))),ge 5 (.mov (.const (.bool false)))]
 (.seq (sr [mv 6 0]
 (.block 0 (sr [ge 8 (.bin .eql (.prim .str) true (tq 6) (.const (.str [102,114,97,109,101]))),mv 7 8]
 (cd 7
 (sr [mv 9 1,ei 10 9 0,ge 4 (.mov (.const (.bool true))),mv 5 10]
 (.ret))
 (.seq (sr [ge 12 (.bin .eql (.prim .str) true (tq 6) (.const (.str [97,100,100]))),mv 11 12]
 (cd 11
 (.skip)
 (.reg [ge 13 (.bin .eql (.prim .str) true (tq 6) (.const (.str [109,97,120]))),mv 11 13])))
 (cd 11
 (sr [mv 14 1,bc 15 .gtr 14 0,ge 4 (.mov (.const (.bool true))),mv 5 15]
 (.ret))
 (.seq (sr [ge 17 (.bin .eql (.prim .str) true (tq 6) (.const (.str [115,99,97,108,101]))),mv 16 17]
 (cd 16
 (.skip)
 (sr [ge 18 (.bin .eql (.prim .str) true (tq 6) (.const (.str [100,101,108,97,121]))),mv 16 18]
 (cd 16
 (.skip)
 (.reg [ge 19 (.bin .eql (.prim .str) true (tq 6) (.const (.str [115,117,109]))),mv 16 19])))))
 (cd 16
 (sr [mv 20 1,ei 21 20 1,ge 4 (.mov (.const (.bool true))),mv 5 21]
 (.ret))
 (.skip)))))))))
 (sr [ge 4 (.mov (.const (.bool false))),ge 5 (.mov (.const (.bool false)))]
 (.ret)))
def A.k76:=@A.kk 76 22 [.tmp 4,.tmp 5] A.b76 (by kernel_rfl) rfl
def A.b39:Zah:=sr [mc 6 0]
 (.seq (sr [mv 7 0,mv 8 1,bi 9 .lss 7 8,mv 10 9,mh 11 0 10,mh 12 2 10,gz 13 10 (.bin .gtr (.node []) false (tq 11) (tq 12)),pt 14 10 13]
 (cd 14
 (sr [mc 6 3]
 (.ret))
 (.skip)))
 (sr [mc 6 0]
 (.ret)))
def A.k39:=@A.kk 39 15 [.tmp 6] A.b39 (by kernel_rfl) rfl
def Zqf{h:T O}{N:Nat}{v:V}{g:List Stg}{n:Str}{w:List Nat}(hg:Gr h N v g)(hl:g.length<1000000):A.C.call (.func 75 [] []) [v,.str n] ⟨h,N,w⟩=some (.int .i64 (Zhy g n),⟨h,N,w⟩):=by
 apply Call.eq
 have lg:=hg.len
 rw[Zac,A.k75 (by simp)]
 simp(disch:=first|(simp;done)|omega|rfl) [-getElem?_pos,A.b75]
 refine Zai [(4,19)] (fun e r st=>st=⟨h,N,[]⟩∧((e=.exit 0∧¬pos g n<g.length)∨(e=.ret∧pos g n<g.length∧r.get 4=some (.int .i64 (pos g n:Nat))))) (fun m r st=>st=⟨h,N,[]⟩∧∃k,k+m=g.length∧r.get 5=some (.int .i64 k)∧pos g n=k+pos (g.drop k) n) g.length ?_ ?_ ?_
 ·exact⟨rfl,0,by omega,by simp,by simp⟩
 ·rintro m r _ hr hf ⟨rfl,k,hk,h5,hp⟩
  rw[Zaj]
  cases m with
  |zero=>
   have:k=g.length:=by omega
   subst this
   rw[Yti,pos]at hp
   simp(disch:=first|(simp;done)|omega|rfl) [-getElem?_pos,A.lb75_0,hr,hf,h5,lg]
   omega
  |succ m=>
   have hlt:k<g.length:=by omega
   obtain⟨s,hs⟩:=Zag hlt
   obtain⟨i,o,cc,e,rw,inp,q1,q2,q3,q4,q5⟩:=hg.at hs
   obtain⟨p0,p1,p2,p3,p4,p5⟩:=Zjd q4
   have hk1:(k:Int)<(g.length:Int):=by omega
   rw[Zaq hs,pos]at hp
   have e1:(s.name==n)=decide (s.name=n):=by rw[Bool.eq_iff_iff];simp
   by_cases hn:s.name=n
   ·rw[Yr6 hn]at hp
    simp(disch:=first|(simp;done)|omega|rfl) [-getElem?_pos,A.lb75_0,hr,hf,h5,hk1,hlt,lg,q1,q3,p1,e1,Zae,hn]
    exact⟨by omega,by rw[hp];simp⟩
   ·rw[Yr3 hn]at hp
    simp(disch:=first|(simp;done)|omega|rfl) [-getElem?_pos,A.lb75_0,hr,hf,h5,hk1,hlt,lg,q1,q3,p1,e1,Zae,hn]
    exact⟨m,by omega,k+1,by omega,by simp,by omega⟩
 ·rintro e r _ hr ⟨rfl,⟨rfl,hp⟩|⟨rfl,hp,h4⟩⟩
  ·simp(disch:=first|(simp;done)|omega|rfl) [-getElem?_pos,hr,Zhy,hp]
  ·simp(disch:=first|(simp;done)|omega|rfl) [-getElem?_pos,hr,Zhy,hp,h4]
def Zkm{x lo hi:Int}{st:St}:A.C.call (.func 39 [] []) [.int .i64 x,.int .i64 lo,.int .i64 hi] st=some (.int .i64 (if x<lo∨hi<x then 3 else 0),st):=by
 apply Call.eq
 rw[Zac,A.k39 (by simp)]
 by_cases h1:x<lo
 ·simp[A.b39,h1]
 ·by_cases h2:hi<x<;>simp[A.b39,h1,h2]
def Zz2(s:Str)(n:Nat):∃b,(∀st,A.C.call (.func 76 [] []) [.str s,.int .i64 n] st=some (.tup [.bool (opOf s).isSome,.bool b],st))∧(n≤16→∀o,opOf s=some o→b=decide (o.lo≤n∧n≤o.hi)):=by
 by_cases h0:s=[102,114,97,109,101]
 ·subst h0
  refine⟨decide (n=0),fun st=>?_,?_⟩
  ·apply Call.eq
   rw[Zac,A.k76 (by simp)]
   simp[A.b76,opOf,Zae]
   try omega
  ·intro hn o ho
   simp[opOf]at ho
   subst ho
   rw[decide_eq_decide]
   show _↔(0≤n∧n≤0)
   omega
 by_cases h1:s=[97,100,100]
 ·subst h1
  refine⟨decide (0<n),fun st=>?_,?_⟩
  ·apply Call.eq
   rw[Zac,A.k76 (by simp)]
   simp[A.b76,opOf,Zae]
   try omega
  ·intro hn o ho
   simp[opOf]at ho
   subst ho
   rw[decide_eq_decide]
   show _↔(1≤n∧n≤16)
   omega
 by_cases h2:s=[109,97,120]
 ·subst h2
  refine⟨decide (0<n),fun st=>?_,?_⟩
  ·apply Call.eq
   rw[Zac,A.k76 (by simp)]
   simp[A.b76,opOf,Zae]
   try omega
  ·intro hn o ho
   simp[opOf]at ho
   subst ho
   rw[decide_eq_decide]
   show _↔(1≤n∧n≤16)
   omega
 by_cases h3:s=[115,99,97,108,101]
 ·subst h3
  refine⟨decide (n=1),fun st=>?_,?_⟩
  ·apply Call.eq
   rw[Zac,A.k76 (by simp)]
   simp[A.b76,opOf,Zae]
   try omega
  ·intro hn o ho
   simp[opOf]at ho
   subst ho
   rw[decide_eq_decide]
   show _↔(1≤n∧n≤1)
   omega
 by_cases h4:s=[100,101,108,97,121]
 ·subst h4
  refine⟨decide (n=1),fun st=>?_,?_⟩
  ·apply Call.eq
   rw[Zac,A.k76 (by simp)]
   simp[A.b76,opOf,Zae]
   try omega
  ·intro hn o ho
   simp[opOf]at ho
   subst ho
   rw[decide_eq_decide]
   show _↔(1≤n∧n≤1)
   omega
 by_cases h5:s=[115,117,109]
 ·subst h5
  refine⟨decide (n=1),fun st=>?_,?_⟩
  ·apply Call.eq
   rw[Zac,A.k76 (by simp)]
   simp[A.b76,opOf,Zae]
   try omega
  ·intro hn o ho
   simp[opOf]at ho
   subst ho
   rw[decide_eq_decide]
   show _↔(1≤n∧n≤1)
   omega
 have e0:(s==[102,114,97,109,101])=false:=by simp[h0]
 have e1:(s==[97,100,100])=false:=by simp[h1]
 have e2:(s==[109,97,120])=false:=by simp[h2]
 have e3:(s==[115,99,97,108,101])=false:=by simp[h3]
 have e4:(s==[100,101,108,97,121])=false:=by simp[h4]
 have e5:(s==[115,117,109])=false:=by simp[h5]
 have ho:opOf s=none:=by simp[opOf,h0,h1,h2,h3,h4,h5]
 refine⟨false,fun st=>?_,fun _ o h=>by rw[ho]at h;cases h⟩
 apply Call.eq
 rw[Zac,A.k76 (by simp)]
 simp[A.b76,ho,Zae,e0,e1,e2,e3,e4,e5,h0,h1,h2,h3,h4,h5]
end Go.Mx
