/-lensletref01-/
import Derived.Test.YtjjmkflbfpeagaaGreatDoorRcG
set_option linter.all false
set_option maxHeartbeats 2000000
namespace Go.Mx
noncomputable section
open Go Go.Proofs
variable {j:Nat}
set_option maxRecDepth 1000000
def A.b13:=A.q Tryz.f13
def A.k13:=@A.kk 13 55 [.tmp 4] A.b13 (by kernel_rfl) rfl
def Zou(a b:Rat):a*b=Rat.divInt (a.num*b.num) ((a.den:Int)*(b.den:Int)):=by
 rw[Rat.mul_def,Rat.normalize_eq_mkRat,<-Rat.divInt_ofNat]
 simp
def Zo7(a b:Rat):a+b=Rat.divInt (a.num*(b.den:Int)+b.num*(a.den:Int)) ((a.den:Int)*(b.den:Int)):=by
 rw[Rat.add_def,Rat.normalize_eq_mkRat,<-Rat.divInt_ofNat]
 simp
def LM{a b:Nat}(h1:a<1000000000)(h2:b<1000000000):a*b<=1000000000000000000:=by
 have:=jL (Nat.le_of_lt h1) (Nat.le_of_lt h2)
 omega
def Pr(q:Rat):∃(n d:Int) (o:Bool),(∀st,A.C.call (.func 41 [] []) [.str (av q)] st=some (.aY [.int .i64 n,.int .i64 d,.bool o],st))/\(o=true->n=q.num/\d=(q.den:Int)/\q.num.natAbs<1000000000/\q.den<1000000000):=by
 by_cases f:q.num.natAbs<1000000000/\q.den<1000000000
 ·exact⟨q.num,q.den,true,fun st=>by rw[Zvi,aJ f],fun _=>⟨rfl,rfl,f⟩⟩
 ·exact⟨0,0,false,fun st=>by rw[Zvi,aq f],fun h=>by cases h⟩
def Rg.qV{h:T O}{N:Nat}{v:V}{z:Int}(s:Rg h N v z):∃u,v=.agg [.bool (decide (z<0)),u]/\V.one u=true/\V.cells u=[u]/\Ey u:=by
 obtain⟨u,rfl,hu⟩:=s
 exact⟨u,rfl,(Sl.form hu).one,(Sl.form hu).cells,Sl.form hu⟩
def LN{a b:Int}{k:Nat}(h1:a.natAbs<2^j)(h2:b.natAbs<2^k):(a*b).natAbs<2^(j+k):=by
 rw[sC,gL]
 exact Ap h1 h2
def Zpu{a b:Int}(h1:a.natAbs<2^j)(h2:b.natAbs<2^j):(a+b).natAbs<2^(j+1):=by
 have:=Int.natAbs_add_le a b
 rw[fv];omega
def Yke{a b:Rat}{k:Nat}{h:T O}{N:Nat}(ha:Qb j a)(hb:Qb k b)(hj:j<=400000000)(hk:k<=400000000):Fn A.C 13 [.str (av a),.str (av b)] h N (fun u _ _=>u=.str (av (a*b))):=by
 intro w
 obtain⟨n1,d1,o1,pX,f1⟩:=Pr a
 obtain⟨n2,d2,o2,jZ,f2⟩:=Pr b
 have pa:=Rat.den_pos a
 have pb:=Rat.den_pos b
 rw[aQ,A.k13 (by simp)]
 have key:(o1=true/\o2=true)\/(o1=false\/(o1=true/\o2=false)):=by cases o1<;>cases o2<;>simp
 rcases key with⟨rfl,rfl⟩|key
 ·obtain⟨rfl,rfl,g1⟩:=f1 rfl
  obtain⟨rfl,rfl,g2⟩:=f2 rfl
  have m1:(a.num*b.num).natAbs<=1000000000000000000:=by rw[sC];exact LM g1.1 g2.1
  have m2:a.den*b.den<=1000000000000000000:=LM g1.2 g2.2
  have m3:0<a.den*b.den:=sh pa pb
  have e2:(a.den:Int)*(b.den:Int)=((a.den*b.den:Nat):Int):=by simp
  have w1:bb .i64 (a.num*b.num)=a.num*b.num:=cb (by omega) (by omega)
  have w2:bb .i64 ((a.den:Int)*(b.den:Int))=(a.den:Int)*(b.den:Int):=by rw[e2];exact cb (by omega) (by omega)
  have ho:=fun st=>Ync (p:=a.num*b.num) (q:=(a.den:Int)*(b.den:Int)) (st:=st) (by omega) (by omega) (by omega) (by omega) (by omega)
  rw[<-Zou]at ho
  simp[A.b13,pX,jZ,w1,w2,ho,aA]
  exact ad.refl
 ·have la:=Ad ha.1
  have Rn:=C7 ha.2
  have lb:=Ad hb.1
  have lb2:=C7 hb.2
  have z1:=uO ha.1
  have z2:=uO hb.1
  have z3:=uO ha.2
  have z4:=uO hb.2
  rcases key with rfl|⟨rfl,rfl⟩
  all_goals simp[A.b13,pX,jZ]
  all_goals
   refine au (Pq (q:=a) (by omega) (by omega)) ?_
   rintro _ h1 t1 k1 ⟨x1,y1,rfl,X1,Y1⟩
   obtain⟨u1,rfl,p1,p2,F1⟩:=X1.qV
   obtain⟨v1,rfl,p3,p4,G1⟩:=Y1.qV
   unfold V.one at p1 p3
   unfold V.cells at p2 p4
   have KA:=((((ad.refl (h:=h1) (n:=t1)).new (.cells [.bool false,.aa] 88 true)).new (.cells [.bool false,.aa] 88 true)).set (i:=t1) (o:=.cells [.bool (decide (a.num<0)),u1] 88 true) (aR _)).set (i:=t1+1) (o:=.cells [.bool (decide ((a.den:Int)<0)),v1] 88 true) (by omega)
   have c0:¬t1+1=t1:=by omega
   have c00:¬t1=t1+1:=by omega
   simp[p1,p3,bS,ag]
   generalize FM:(((h1.set t1 (.cells [.bool false,.aa] 88 true)).set (t1+1) (.cells [.bool false,.aa] 88 true)).set t1 (.cells [.bool (decide (a.num<0)),u1] 88 true)).set (t1+1) (.cells [.bool (decide ((a.den:Int)<0)),v1] 88 true)=HA at*
   have Gg:HA.get t1=some (.cells [.bool (decide (a.num<0)),u1] 88 true):=by rw[<-FM];simp
   have Iv:HA.get (t1+1)=some (.cells [.bool (decide ((a.den:Int)<0)),v1] 88 true):=by rw[<-FM];simp
   have X1:=X1.ae KA
   have Y1:=Y1.ae KA
   clear FM
   refine au (Pq (q:=b) (by omega) (by omega)) ?_
   rintro _ h2 t2 k2 ⟨x2,y2,rfl,X2,Y2⟩
   obtain⟨u2,rfl,p5,p6,F2⟩:=X2.qV
   obtain⟨v2,rfl,p7,p8,G2⟩:=Y2.qV
   unfold V.one at p5 p7
   unfold V.cells at p6 p8
   have KB:=((((ad.refl (h:=h2) (n:=t2)).new (.cells [.bool false,.aa] 88 true)).new (.cells [.bool false,.aa] 88 true)).set (i:=t2) (o:=.cells [.bool (decide (b.num<0)),u2] 88 true) (aR _)).set (i:=t2+1) (o:=.cells [.bool (decide ((b.den:Int)<0)),v2] 88 true) (by omega)
   have c1:¬t2+1=t2:=by omega
   have c11:¬t2=t2+1:=by omega
   have i2:=k2.le
   generalize FN:(((h2.set t2 (.cells [.bool false,.aa] 88 true)).set (t2+1) (.cells [.bool false,.aa] 88 true)).set t2 (.cells [.bool (decide (b.num<0)),u2] 88 true)).set (t2+1) (.cells [.bool (decide ((b.den:Int)<0)),v2] 88 true)=HB at*
   have Gd:HB.get t2=some (.cells [.bool (decide (b.num<0)),u2] 88 true):=by rw[<-FN];simp
   have Ps:HB.get (t2+1)=some (.cells [.bool (decide ((b.den:Int)<0)),v2] 88 true):=by rw[<-FN];simp
   have Wa:=(KB.get t1 (by omega)).trans ((k2.get t1 (by omega)).trans Gg)
   have Wb:=(KB.get (t1+1) (by omega)).trans ((k2.get (t1+1) (by omega)).trans Iv)
   have X1:=(X1.ae k2).ae KB
   have Y1:=(Y1.ae k2).ae KB
   have X2:=X2.ae KB
   have Y2:=Y2.ae KB
   have K2:ad h N HB (t2+1+1):=((k1.trans KA).trans k2).trans KB
   have j1:t1<t2+1+1:=by omega
   have j2:t1+1<t2+1+1:=by omega
   have j3:t2<t2+1+1:=by omega
   simp[p5,p7,bS,ag,FN,Gd,Wa,aL,aM]
   refine au (LI X1 X2 (by omega) (by omega)) ?_
   rintro _ h3 t3 k3 X3
   have i3:=k3.le
   have LP:=(k3.get (t2+1) (by omega)).trans Ps
   have Pt:=(k3.get (t1+1) (by omega)).trans Wb
   simp[LP,Pt,aL,aM]
   refine au (LI (Y1.ae k3) (Y2.ae k3) (by rw[ed];omega) (by rw[ed];omega)) ?_
   rintro _ h4 t4 k4 X4
   have m1:=uO (LN ha.1 hb.1)
   have m2:=uO (LN (a:=(a.den:Int)) (b:=(b.den:Int)) (j:=j) (k:=k) (by rw[ed];exact ha.2) (by rw[ed];exact hb.2))
   simp[]
   refine au (Zng (X3.ae k4) X4 (GB (by omega) (by omega)) (by omega) (by omega)) ?_
   rintro _ h5 t5 k5 rfl
   have j4:t2+1<t3:=by omega
   have j5:t1+1<t3:=by omega
   rw[<-Zou]
   have i1:=k1.le
   simp[-aB,cD.cG,j1,j4,j5,aA]
   exact⟨Im (by simp;omega),((K2.trans k3).trans k4).trans k5⟩
def A.b94:=A.q Tryz.f94
def A.k94:=@A.kk 94 63 [.tmp 4] A.b94 (by kernel_rfl) rfl
def Yl5{a b:Rat}{j k:Nat}{h:T O}{N:Nat}(ha:Qb j a)(hb:Qb k b)(hj:j<=400000000)(hk:k<=400000000):Fn A.C 94 [.str (av a),.str (av b)] h N (fun u _ _=>u=.str (av (a+b))):=by
 intro w
 obtain⟨n1,d1,o1,pX,f1⟩:=Pr a
 obtain⟨n2,d2,o2,jZ,f2⟩:=Pr b
 have pa:=Rat.den_pos a
 have pb:=Rat.den_pos b
 rw[aQ,A.k94 (by simp)]
 have key:(o1=true/\o2=true)\/(o1=false\/(o1=true/\o2=false)):=by cases o1<;>cases o2<;>simp
 rcases key with⟨rfl,rfl⟩|key
 ·obtain⟨rfl,rfl,g1⟩:=f1 rfl
  obtain⟨rfl,rfl,g2⟩:=f2 rfl
  have m1:(a.num*(b.den:Int)).natAbs<=1000000000000000000:=by rw[sC,ed];exact LM g1.1 g2.2
  have m4:(b.num*(a.den:Int)).natAbs<=1000000000000000000:=by rw[sC,ed];exact LM g2.1 g1.2
  have m2:a.den*b.den<=1000000000000000000:=LM g1.2 g2.2
  have m3:0<a.den*b.den:=sh pa pb
  have e2:(a.den:Int)*(b.den:Int)=((a.den*b.den:Nat):Int):=by simp
  have w1:bb .i64 (a.num*(b.den:Int))=a.num*(b.den:Int):=cb (by omega) (by omega)
  have w3:bb .i64 (b.num*(a.den:Int))=b.num*(a.den:Int):=cb (by omega) (by omega)
  have w2:bb .i64 ((a.den:Int)*(b.den:Int))=(a.den:Int)*(b.den:Int):=by rw[e2];exact cb (by omega) (by omega)
  have w4:bb .i64 (a.num*(b.den:Int)+b.num*(a.den:Int))=a.num*(b.den:Int)+b.num*(a.den:Int):=cb (by omega) (by omega)
  have ho:=fun st=>Ync (p:=a.num*(b.den:Int)+b.num*(a.den:Int)) (q:=(a.den:Int)*(b.den:Int)) (st:=st) (by omega) (by omega) (by omega) (by omega) (by omega)
  rw[<-Zo7]at ho
  simp[A.b94,pX,jZ,w1,w2,w3,w4,ho,aA]
  exact ad.refl
 ·have la:=Ad ha.1
  have Rn:=C7 ha.2
  have lb:=Ad hb.1
  have lb2:=C7 hb.2
  have z1:=uO ha.1
  have z2:=uO hb.1
  have z3:=uO ha.2
  have z4:=uO hb.2
  rcases key with rfl|⟨rfl,rfl⟩
  all_goals simp[A.b94,pX,jZ]
  all_goals
   refine au (Pq (q:=a) (by omega) (by omega)) ?_
   rintro _ h1 t1 k1 ⟨x1,y1,rfl,X1,Y1⟩
   obtain⟨u1,rfl,p1,p2,F1⟩:=X1.qV
   obtain⟨v1,rfl,p3,p4,G1⟩:=Y1.qV
   unfold V.one at p1 p3
   unfold V.cells at p2 p4
   have KA:=((((ad.refl (h:=h1) (n:=t1)).new (.cells [.bool false,.aa] 88 true)).new (.cells [.bool false,.aa] 88 true)).set (i:=t1) (o:=.cells [.bool (decide (a.num<0)),u1] 88 true) (aR _)).set (i:=t1+1) (o:=.cells [.bool (decide ((a.den:Int)<0)),v1] 88 true) (by omega)
   have c0:¬t1+1=t1:=by omega
   have c00:¬t1=t1+1:=by omega
   simp[p1,p3,bS,ag]
   generalize FM:(((h1.set t1 (.cells [.bool false,.aa] 88 true)).set (t1+1) (.cells [.bool false,.aa] 88 true)).set t1 (.cells [.bool (decide (a.num<0)),u1] 88 true)).set (t1+1) (.cells [.bool (decide ((a.den:Int)<0)),v1] 88 true)=HA at*
   have Gg:HA.get t1=some (.cells [.bool (decide (a.num<0)),u1] 88 true):=by rw[<-FM];simp
   have Iv:HA.get (t1+1)=some (.cells [.bool (decide ((a.den:Int)<0)),v1] 88 true):=by rw[<-FM];simp
   have X1:=X1.ae KA
   have Y1:=Y1.ae KA
   clear FM
   refine au (Pq (q:=b) (by omega) (by omega)) ?_
   rintro _ h2 t2 k2 ⟨x2,y2,rfl,X2,Y2⟩
   obtain⟨u2,rfl,p5,p6,F2⟩:=X2.qV
   obtain⟨v2,rfl,p7,p8,G2⟩:=Y2.qV
   unfold V.one at p5 p7
   unfold V.cells at p6 p8
   have KB:=((((ad.refl (h:=h2) (n:=t2)).new (.cells [.bool false,.aa] 88 true)).new (.cells [.bool false,.aa] 88 true)).set (i:=t2) (o:=.cells [.bool (decide (b.num<0)),u2] 88 true) (aR _)).set (i:=t2+1) (o:=.cells [.bool (decide ((b.den:Int)<0)),v2] 88 true) (by omega)
   have c1:¬t2+1=t2:=by omega
   have c11:¬t2=t2+1:=by omega
   have i2:=k2.le
   generalize FN:(((h2.set t2 (.cells [.bool false,.aa] 88 true)).set (t2+1) (.cells [.bool false,.aa] 88 true)).set t2 (.cells [.bool (decide (b.num<0)),u2] 88 true)).set (t2+1) (.cells [.bool (decide ((b.den:Int)<0)),v2] 88 true)=HB at*
   have Gd:HB.get t2=some (.cells [.bool (decide (b.num<0)),u2] 88 true):=by rw[<-FN];simp
   have Ps:HB.get (t2+1)=some (.cells [.bool (decide ((b.den:Int)<0)),v2] 88 true):=by rw[<-FN];simp
   have Wa:=(KB.get t1 (by omega)).trans ((k2.get t1 (by omega)).trans Gg)
   have Wb:=(KB.get (t1+1) (by omega)).trans ((k2.get (t1+1) (by omega)).trans Iv)
   have X1:=(X1.ae k2).ae KB
   have Y1:=(Y1.ae k2).ae KB
   have X2:=X2.ae KB
   have Y2:=Y2.ae KB
   have K2:ad h N HB (t2+1+1):=((k1.trans KA).trans k2).trans KB
   have j1:t1<t2+1+1:=by omega
   have j2:t1+1<t2+1+1:=by omega
   have j3:t2<t2+1+1:=by omega
   simp[p5,p7,bS,ag,FN,Ps,Wa,aL,aM]
   refine au (LI X1 Y2 (by omega) (by rw[ed];omega)) ?_
   rintro _ h3 t3 k3 X3
   have i3:=k3.le
   have gC1:=(k3.get t2 (by omega)).trans Gd
   have LP:=(k3.get (t2+1) (by omega)).trans Ps
   have Pt:=(k3.get (t1+1) (by omega)).trans Wb
   simp[gC1,Pt,aL,aM]
   refine au (LI (X2.ae k3) (Y1.ae k3) (by omega) (by rw[ed];omega)) ?_
   rintro _ h4 t4 k4 X4
   have i4:=k4.le
   have b1:=LN (b:=(b.den:Int)) (k:=k) ha.1 (by rw[ed];exact hb.2)
   have b2:=LN (b:=(a.den:Int)) (k:=j) hb.1 (by rw[ed];exact ha.2)
   rw[Nat.add_comm k j]at b2
   have m1:=uO b1
   have m2:=uO b2
   have m3:=uO (Zpu b1 b2)
   have m4:=uO (LN (a:=(a.den:Int)) (b:=(b.den:Int)) (j:=j) (k:=k) (by rw[ed];exact ha.2) (by rw[ed];exact hb.2))
   simp[]
   refine au (Yjx (X3.ae k4) X4 (by omega) (by omega)) ?_
   rintro _ h5 t5 k5 X5
   have i5:=k5.le
   have gD2:=(k5.get (t2+1) (by omega)).trans ((k4.get (t2+1) (by omega)).trans LP)
   have gD4:=(k5.get (t1+1) (by omega)).trans ((k4.get (t1+1) (by omega)).trans Pt)
   simp[gD2,gD4,aL,aM]
   refine au (LI (((Y1.ae k3).ae k4).ae k5) (((Y2.ae k3).ae k4).ae k5) (by rw[ed];omega) (by rw[ed];omega)) ?_
   rintro _ h6 t6 k6 X6
   simp[]
   refine au (Zng (X5.ae k6) X6 (GB (by omega) (by omega)) (by omega) (by omega)) ?_
   rintro _ h7 t7 k7 rfl
   have j4:t2+1<t3:=by omega
   have j5:t1+1<t3:=by omega
   have j6:t2<t3:=by omega
   have j7:t2+1<t5:=by omega
   have j8:t1+1<t5:=by omega
   rw[<-Zo7]
   have i1:=k1.le
   simp[-aB,cD.cG,j1,j5,j6,j7,j8,aA]
   exact⟨Im (by simp;omega),((((K2.trans k3).trans k4).trans k5).trans k6).trans k7⟩
def A.b178:=A.q Tryz.f178
def A.k178:=@A.kk 178 51 [.tmp 4,.tmp 5] A.b178 (by kernel_rfl) rfl
def Ynh{x y:Nat}(hx:x<18446744073709551616)(hy:y<18446744073709551616):cI (cI (cM (al x 32) (al y 32)) (al (cI (cM (al x 32) (eG y)) (al (cM (eG x) (eG y)) 32)) 32)) (al (cI (eG (cI (cM (al x 32) (eG y)) (al (cM (eG x) (eG y)) 32))) (cM (eG x) (al y 32))) 32)=bZ (x*y):=by
 simp only[cI,cM,al,eG,bZ,Nat.reducePow]
 have ex:x=x/4294967296*4294967296+x%4294967296:=by omega
 have ey:y=y/4294967296*4294967296+y%4294967296:=by omega
 have oR:x%4294967296<4294967296:=jO _ (by decide)
 have tR:y%4294967296<4294967296:=jO _ (by decide)
 have xW:x/4294967296<4294967296:=by omega
 have qf:y/4294967296<4294967296:=by omega
 generalize x/4294967296=x1 at*
 generalize x%4294967296=x0 at*
 generalize y/4294967296=y1 at*
 generalize y%4294967296=y0 at*
 have a1:x0*y0<=4294967295*4294967295:=jL (by omega) (by omega)
 have a2:x1*y0<=4294967295*4294967295:=jL (by omega) (by omega)
 have a3:x0*y1<=4294967295*4294967295:=jL (by omega) (by omega)
 have a4:x1*y1<=4294967295*4294967295:=jL (by omega) (by omega)
 have e:x*y=x1*y1*18446744073709551616+(x1*y0+x0*y1)*4294967296+x0*y0:=by
  subst ex;subst ey
  grind
 rw[e]
 generalize x0*y0=p at*
 generalize x1*y0=q at*
 generalize x0*y1=u at*
 generalize x1*y1=z at*
 omega
def Kh{h:T O}{N:Nat}{x y:Nat}(hx:x<18446744073709551616)(hy:y<18446744073709551616):Fn A.C 178 [.int .u64 x,.int .u64 y] h N (fun v' h' N'=>h'=h/\N'=N/\v'=.aY [.int .u64 (bZ (x*y):Nat),.int .u64 (bs (x*y):Nat)]):=by
 intro w
 rw[aQ,A.k178 (by simp)]
 simp(disch:=first|(simp;done)|omega|(simp only[bn,bW,bf];omega)|rfl) [A.b178]
 rw[Ynh hx hy]
 exact⟨rfl,ad.refl,rfl,rfl,rfl⟩
def A.LQ:=A.q Tryz.f222
def A.l8:=A.ql A.LQ 0 []
def A.b222:=(fun x0=>A.qb A.LQ [x0]) A.l8
def A.k222:=@A.kk 222 21 [.tmp 2] A.b222 (by kernel_rfl) rfl
def Ba{h:T O}{N:Nat}{v:V}{l:List Nat}(hs:Sl h N v (dg l))(hl:l.length<1152921504606846976):Fn A.C 222 [v] h N (fun v' h' N'=>Sl h' N' v' (dg (qj l))):=by
 intro w
 have hlen:=hs.len
 rw[bn]at hlen
 rw[aQ,A.k222 (by simp)]
 simp[A.b222,hlen]
 refine cX [(3,3),(6,17)] (fun e r st=>e=.exit 0/\st=⟨h,N,[]⟩/\∃k,k<=l.length/\r.get 3=some (.int .i64 k)/\qj l=l.take k) (fun k r st=>st=⟨h,N,[]⟩/\k<=l.length/\r.get 3=some (.int .i64 k)/\qj (l.take k)=qj l) l.length ?_ ?_ ?_
 ·exact⟨rfl,aR _,by simp,by simp⟩
 ·rintro k r _ hr hf ⟨rfl,hk,h3,ht⟩
  rw[cm]
  cases k with
  |zero=>
   have:qj l=[]:=ht.symm
   simp[A.l8,h3,hf,this]
   exact⟨0,by omega,rfl,.inl rfl⟩
  |succ k=>
   obtain⟨d,hd⟩:∃d,l[k]?=some d:=⟨_,dT (by omega)⟩
   obtain⟨i,o,c,e,rw,q1,q2,q3,q4⟩:=hs.at (eY hd)
   have e1:l.take (k+1)=l.take k++[d]:=by rw[CP,hd];rfl
   have k1:(0:Int)<(k:Int)+1:=by omega
   have k2:(k:Int)<(l.length:Int):=by omega
   by_cases h0:d=0
   ·subst h0
    rw[e1,Zoe]at ht
    simp(disch:=first|(simp;done)|omega|(simp only[bn,bW,bf];omega)|rfl) [A.l8,h3,hr,hf,k1,k2,hlen,q1,q3,q4,aW]
    exact⟨k,by omega,by omega,rfl,ht⟩
   ·rw[e1,Zof h0]at ht
    have hz:((d:Int)==0)=false:=by simp;omega
    simp(disch:=first|(simp;done)|omega|(simp only[bn,bW,bf];omega)|rfl) [A.l8,h3,hr,hf,k1,k2,hlen,q1,q3,q4,aW,hz]
    exact⟨k+1,hk,rfl,by rw[e1];exact ht.symm⟩
 ·rintro _ r _ hr ⟨rfl,rfl,k,hk,h3,ht⟩
  simp[hr,h3,HH,az]
  obtain⟨v',e1,e2⟩:=Mq (w:=[]) hs (lo:=0) (hi:=k) (tN _) (by rw[bn];exact hk) none (some (.int .i64 k)) (.inr ⟨rfl,rfl⟩) (.inl rfl)
  rw[e1]
  simp[aA]
  refine⟨ad.refl,?_⟩
  rw[ht,show dg (l.take k)=(dg l).take k by simp[dg]]
  exact e2
def A.LR:=A.q Tryz.f189
def A.fI:=A.ql A.LR 0 []
def A.b189:=(fun x0=>A.qb A.LR [x0]) A.fI
def A.k189:=@A.kk 189 54 [.tmp 4] A.b189 (by kernel_rfl) rfl
structure Yqx (h:T O) (N x y k:Nat) (o:List Nat) (c:Nat) (r:T V) (st:St):Prop where
 hk:k<=(aH x).length
 r22:r.get 22=some (.int .i64 k)
 r6:r.get 6=some (.int .u64 c)
 n:st.n=N+1
 w:aB N st.w=[]
 ae:ad h N st.h (N+1)
 row:st.h.get N=some (.cells (dg o) 212 true)
 len:o.length=(aH x).length+1
 ex:∃d,d.length=k/\o=d++List.replicate ((aH x).length+1-k) 0/\val B d+B^k*c=val B ((aH x).take k)+val B ((aH y).take k)/\c<=1/\Dg d
def Yqy(h:T O)(N x y m:Nat)(r:T V)(st:St):Prop:=∃k o c,m=(aH x).length-k/\Yqx h N x y k o c r st
def Yqz(h:T O)(N x y:Nat)(r:T V)(st:St):Prop:=∃o c,Yqx h N x y (aH x).length o c r st
def Yd5{x y o d:List Nat}{k c xk:Nat}(hx:x[k]?=some xk)(d1:d.length=k)(d2:o=d++List.replicate (x.length+1-k) 0)(d3:val B d+B^k*c=val B (x.take k)+val B (y.take k))(d4:c<=1)(d5:Dg d)(gx:Dg x)(gy:Dg y):
  (d++[bs (xk+dz y k+c)]).length=k+1/\o.set k (bs (xk+dz y k+c))=(d++[bs (xk+dz y k+c)])++List.replicate (x.length+1-(k+1)) 0/\val B (d++[bs (xk+dz y k+c)])+B^(k+1)*bZ (xk+dz y k+c)=val B (x.take (k+1))+val B (y.take (k+1))/\bZ (xk+dz y k+c)<=1/\Dg (d++[bs (xk+dz y k+c)]):=by
 have hk:k<x.length:=by
  apply qZ;intro hc;rw[jC hc]at hx;cases hx
 have hxk:=gx.get hx
 have hyk:=Yn3 gy k
 have hm:=rz (xk+dz y k+c) B
 refine⟨by simp[d1],?_,?_,?_,?_⟩
 ·rw[d2,show x.length+1-k=(x.length-k)+1 by omega,T3 d1,show x.length+1-(k+1)=x.length-k by omega]
 ·rw[Om,A4,A4,d1,show dz x k=xk by simp[dz,hx]]
  have e1:bs (xk+dz y k+c)=(xk+dz y k+c)%B:=rfl
  have e2:bZ (xk+dz y k+c)=(xk+dz y k+c)/B:=rfl
  rw[e1,e2,fv]
  generalize (xk+dz y k+c)%B=lo at*
  generalize (xk+dz y k+c)/B=hi at*
  generalize B^k=p at*
  have:p*(B*hi+lo)=p*(xk+dz y k+c):=by rw[hm]
  grind
 ·show (xk+dz y k+c)/B<=1
  unfold B at*;omega
 ·intro e he
  rcases kl.1 he with he|he
  ·exact d5 e he
  ·simp at he;subst he;exact jO _ (by decide)
def Yio{x y:Nat}{o d:List Nat}{c:Nat}(hl:(aH y).length<=(aH x).length)(d1:d.length=(aH x).length)(d2:o=d++List.replicate ((aH x).length+1-(aH x).length) 0)(d3:val B d+B^(aH x).length*c=val B ((aH x).take (aH x).length)+val B ((aH y).take (aH x).length))(d4:c<=1)(d5:Dg d):qj (o.set (aH x).length c)=aH (x+y):=by
 rw[d2,show (aH x).length+1-(aH x).length=0+1 by omega,T3 d1]
 simp only[List.replicate_zero,yX]
 rw[A5,Om,d1,d3,gI (aR _),gI hl,kP,kP]
 intro e he
 rcases kl.1 he with he|he
 ·exact d5 e he
 ·simp at he;subst he;unfold B;omega
def Zuu{h:T O}{N:Nat}{vx vy:V}{x y:Nat}(hx:Wn h N vx x)(hy:Wn h N vy y)(AL:(aH x).length<1099511627776)(Ji:(aH y).length<1099511627776):Fn A.C 189 [vx,vy] h N (fun v' h' N'=>Wn h' N' v' (x+y)):=by
 intro w
 have lx:=hx.len
 have ly:=hy.len
 rw[bn]at lx ly
 rw[aQ,A.k189 (by simp)]
 by_cases hl:(aH x).length<(aH y).length
 ·simp(disch:=first|(simp;done)|omega|(simp only[bn,bW,bf];omega)|rfl) [A.b189,lx,ly,hl]
  refine cX [(6,8),(22,46)] (fun e r st=>e=.exit 0/\Yqz h N y x r st) (Yqy h N y x) (aH y).length ?_ ?_ ?_
  ·refine⟨0,List.replicate ((aH y).length+1) 0,0,by omega,⟨by omega,by simp,by simp,by simp,by simp,ad.refl.set (aR _) |>.up (by omega),by simp[EC],by simp,[],by simp,by simp,by simp[val],by decide,by simp[Dg]⟩⟩
  ·rintro m r ⟨H,n1,W⟩ hr hf ⟨k,o,c,rfl,hk,m_,h6,hn,hW,hK,hN,ho,d,hd⟩
   simp only at hn hW hK hN
   subst hn
   rw[cm]
   by_cases aO:k<(aH y).length
   ·obtain⟨i1,o1,c1,e1,w1,p1,p2,p3,p4⟩:=hy.at (eY (dT aO))
    have p3:=(hK.get _ p2).trans p3
    obtain⟨d1,d2,d3,d4,d5⟩:=hd
    have iP:=Yd5 (x:=aH y) (y:=aH x) (dT aO) d1 d2 d3 d4 d5 (pC y) (pC x)
    by_cases oI:k<(aH x).length
    ·obtain⟨i2,o2,c2,e2,w2,q1,q2,q3,q4⟩:=hx.at (eY (dT oI))
     have q3:=(hK.get _ q2).trans q3
     have hz:dz (aH x) k=(aH x)[k]:=by simp[dz,dT oI]
     rw[hz]at iP
     simp(disch:=first|(simp;done)|omega|(simp only[bn,bW,bf];omega)|rfl) [A.fI,hr,m_,h6,aO,oI,ly,lx,p1,p3,p4,q1,q3,q4,hN,nR,hf]
     exact⟨_,by omega,k+1,_,_,rfl,⟨by omega,by simp,by simp,rfl,by simp[hW],hK.set (aR _),by simp,by simp[ho],_,iP⟩⟩
    ·have hz:dz (aH x) k=0:=by simp[dz,jC (vz.1 oI)]
     rw[hz]at iP
     simp(disch:=first|(simp;done)|omega|(simp only[bn,bW,bf];omega)|rfl) [A.fI,hr,m_,h6,aO,oI,ly,lx,p1,p3,p4,hN,nR,hf]
     exact⟨_,by omega,k+1,_,_,rfl,⟨by omega,by simp,by simp,rfl,by simp[hW],hK.set (aR _),by simp,by simp[ho],_,iP⟩⟩
   ·have LS:k=(aH y).length:=by omega
    subst LS
    simp[A.fI,hr,m_,hf]
    exact⟨o,c,⟨by omega,by simp[m_],by simp[h6],rfl,by simp[hW],hK,hN,ho,d,hd⟩⟩
  ·rintro _ r ⟨H,n1,W⟩ hr ⟨rfl,o,c,hk,m_,h6,hn,hW,hK,hN,ho,d,d1,d2,d3,d4,d5⟩
   simp only at hn hW hK hN
   subst hn
   simp(disch:=first|(simp;done)|omega|(simp only[bn,bW,bf];omega)|rfl) [hr,h6,ly,hN,nR]
   refine au (Ba (l:=o.set (aH y).length c) (Sl.row (e:=212) (rw:=true) (by omega) (by simp) (by simp[ho]) (by simp)) (by simp[ho];omega)) ?_
   intro v' h' n' jE hs
   simp[aA]
   refine⟨hW,(hK.set (aR _)).trans jE,?_⟩
   rw[Yio (by omega) d1 d2 d3 d4 d5]at hs
   exact(Nat.add_comm y x▸hs)
 ·simp(disch:=first|(simp;done)|omega|(simp only[bn,bW,bf];omega)|rfl) [A.b189,lx,ly,hl]
  refine cX [(6,8),(22,46)] (fun e r st=>e=.exit 0/\Yqz h N x y r st) (Yqy h N x y) (aH x).length ?_ ?_ ?_
  ·refine⟨0,List.replicate ((aH x).length+1) 0,0,by omega,⟨by omega,by simp,by simp,by simp,by simp,ad.refl.set (aR _) |>.up (by omega),by simp[EC],by simp,[],by simp,by simp,by simp[val],by decide,by simp[Dg]⟩⟩
  ·rintro m r ⟨H,n1,W⟩ hr hf ⟨k,o,c,rfl,hk,m_,h6,hn,hW,hK,hN,ho,d,hd⟩
   simp only at hn hW hK hN
   subst hn
   rw[cm]
   by_cases aO:k<(aH x).length
   ·obtain⟨i1,o1,c1,e1,w1,p1,p2,p3,p4⟩:=hx.at (eY (dT aO))
    have p3:=(hK.get _ p2).trans p3
    obtain⟨d1,d2,d3,d4,d5⟩:=hd
    have iP:=Yd5 (x:=aH x) (y:=aH y) (dT aO) d1 d2 d3 d4 d5 (pC x) (pC y)
    by_cases oI:k<(aH y).length
    ·obtain⟨i2,o2,c2,e2,w2,q1,q2,q3,q4⟩:=hy.at (eY (dT oI))
     have q3:=(hK.get _ q2).trans q3
     have hz:dz (aH y) k=(aH y)[k]:=by simp[dz,dT oI]
     rw[hz]at iP
     simp(disch:=first|(simp;done)|omega|(simp only[bn,bW,bf];omega)|rfl) [A.fI,hr,m_,h6,aO,oI,lx,ly,p1,p3,p4,q1,q3,q4,hN,nR,hf]
     exact⟨_,by omega,k+1,_,_,rfl,⟨by omega,by simp,by simp,rfl,by simp[hW],hK.set (aR _),by simp,by simp[ho],_,iP⟩⟩
    ·have hz:dz (aH y) k=0:=by simp[dz,jC (vz.1 oI)]
     rw[hz]at iP
     simp(disch:=first|(simp;done)|omega|(simp only[bn,bW,bf];omega)|rfl) [A.fI,hr,m_,h6,aO,oI,lx,ly,p1,p3,p4,hN,nR,hf]
     exact⟨_,by omega,k+1,_,_,rfl,⟨by omega,by simp,by simp,rfl,by simp[hW],hK.set (aR _),by simp,by simp[ho],_,iP⟩⟩
   ·have LS:k=(aH x).length:=by omega
    subst LS
    simp[A.fI,hr,m_,hf]
    exact⟨o,c,⟨by omega,by simp[m_],by simp[h6],rfl,by simp[hW],hK,hN,ho,d,hd⟩⟩
  ·rintro _ r ⟨H,n1,W⟩ hr ⟨rfl,o,c,hk,m_,h6,hn,hW,hK,hN,ho,d,d1,d2,d3,d4,d5⟩
   simp only at hn hW hK hN
   subst hn
   simp(disch:=first|(simp;done)|omega|(simp only[bn,bW,bf];omega)|rfl) [hr,h6,lx,hN,nR]
   refine au (Ba (l:=o.set (aH x).length c) (Sl.row (e:=212) (rw:=true) (by omega) (by simp) (by simp[ho]) (by simp)) (by simp[ho];omega)) ?_
   intro v' h' n' jE hs
   simp[aA]
   refine⟨hW,(hK.set (aR _)).trans jE,?_⟩
   rw[Yio (by omega) d1 d2 d3 d4 d5]at hs
   exact hs
def A.LU:=A.q Tryz.f191
def A.l9:=A.ql A.LU 0 []
def A.b191:=(fun x0=>A.qb A.LU [x0]) A.l9
def A.k191:=@A.kk 191 41 [.tmp 4] A.b191 (by kernel_rfl) rfl
def Cv{a b:Nat}(h:a<=b):(aH a).length<=(aH b).length:=by
 apply wB
 intro hc
 have h1:=Cr (b:=B) (pC b)
 rw[kP]at h1
 have h2:∀n,n≠0->B^((aH n).length-1)<=n:=by
  intro n
  induction n using Nat.strongRecOn with
  |_ n ih=>
   intro hn
   rw[lD hn]
   by_cases h0:n/B=0
   ·rw[h0,pB];simp;omega
   ·have:=ih (n/B) (zX (by omega) (by decide)) h0
    have hp:0<(aH (n/B)).length:=by rw[lD h0];simp
    simp only[bf,Nat.add_sub_cancel]
    rw[show (aH (n/B)).length=((aH (n/B)).length-1)+1 by omega,fv]
    have h3:B^((aH (n/B)).length-1)*B<=n/B*B:=kp B this
    have:=Nat.div_mul_le_self n B
    omega
 have ha:a≠0:=by
  rintro rfl
  rw[pB]at hc;simp at hc
 have h3:=h2 a ha
 have h4:B^(aH b).length<=B^((aH a).length-1):=nY (by decide) (by omega)
 omega
structure Yqu (h:T O) (N x y k:Nat) (o:List Nat) (c:Nat) (r:T V) (st:St):Prop where
 hk:k<=(aH x).length
 Hk:r.get 14=some (.int .i64 k)
 r6:r.get 6=some (.int .u64 c)
 n:st.n=N+1
 w:aB N st.w=[]
 ae:ad h N st.h (N+1)
 row:st.h.get N=some (.cells (dg o) 212 true)
 len:o.length=(aH x).length
 ex:∃d,d.length=k/\o=d++List.replicate ((aH x).length-k) 0/\val B d+val B ((aH y).take k)=val B ((aH x).take k)+B^k*c/\c<=1/\Dg d
def Yr9(h:T O)(N x y m:Nat)(r:T V)(st:St):Prop:=∃k o c,m=(aH x).length-k/\Yqu h N x y k o c r st
def Ysa(h:T O)(N x y:Nat)(r:T V)(st:St):Prop:=∃o c,Yqu h N x y (aH x).length o c r st
def Yi5{x y o d:List Nat}{k c xk:Nat}(hx:x[k]?=some xk)(d1:d.length=k)(d2:o=d++List.replicate (x.length-k) 0)(d3:val B d+val B (y.take k)=val B (x.take k)+B^k*c)(d4:c<=1)(d5:Dg d)(gx:Dg x)(gy:Dg y):
  (d++[d_ xk (dz y k) c]).length=k+1/\o.set k (d_ xk (dz y k) c)=(d++[d_ xk (dz y k) c])++List.replicate (x.length-(k+1)) 0/\val B (d++[d_ xk (dz y k) c])+val B (y.take (k+1))=val B (x.take (k+1))+B^(k+1)*fj xk (dz y k) c/\fj xk (dz y k) c<=1/\Dg (d++[d_ xk (dz y k) c]):=by
 have hk:k<x.length:=by
  apply qZ;intro hc;rw[jC hc]at hx;cases hx
 have hxk:=gx.get hx
 have hyk:=Yn3 gy k
 have hs:d_ xk (dz y k) c+dz y k+c=xk+B*fj xk (dz y k) c/\d_ xk (dz y k) c<B/\fj xk (dz y k) c<=1:=by
  unfold d_ fj
  unfold B at*
  split<;>omega
 refine⟨by simp[d1],?_,?_,hs.2.2,?_⟩
 ·rw[d2,show x.length-k=(x.length-(k+1))+1 by omega,T3 d1]
 ·rw[Om,A4,A4,d1,show dz x k=xk by simp[dz,hx],fv]
  have h1:=hs.1
  generalize d_ xk (dz y k) c=s at*
  generalize fj xk (dz y k) c=b at*
  generalize B^k=p at*
  have:p*(s+dz y k+c)=p*(xk+B*b):=by rw[h1]
  grind
 ·intro e he
  rcases kl.1 he with he|he
  ·exact d5 e he
  ·simp at he;subst he;exact hs.2.1
def Yms{x y:Nat}{o d:List Nat}{c:Nat}(hl:y<=x)(d1:d.length=(aH x).length)(d2:o=d++List.replicate ((aH x).length-(aH x).length) 0)(d3:val B d+val B ((aH y).take (aH x).length)=val B ((aH x).take (aH x).length)+B^(aH x).length*c)(d4:c<=1)(d5:Dg d):qj o=aH (x-y):=by
 rw[d2,Nat.sub_self]
 simp only[List.replicate_zero,yX]
 rw[A5 d5]
 congr 1
 rw[gI (aR _),gI (Cv hl),kP,kP]at d3
 have:=Cr d5
 rw[d1]at this
 rcases Nat.lt_or_ge c 1 with hc|hc
 ·have:c=0:=by omega
  subst this
  simp at d3;omega
 ·have:c=1:=by omega
  subst this
  omega
def Zmn{h:T O}{N:Nat}{vx vy:V}{x y:Nat}(hx:Wn h N vx x)(hy:Wn h N vy y)(Ms:y<=x)(AL:(aH x).length<1099511627776)(Ji:(aH y).length<1099511627776):Fn A.C 191 [vx,vy] h N (fun v' h' N'=>Wn h' N' v' (x-y)):=by
 intro w
 have lx:=hx.len
 have ly:=hy.len
 rw[bn]at lx ly
 rw[aQ,A.k191 (by simp)]
 simp(disch:=first|(simp;done)|omega|(simp only[bn,bW,bf];omega)|rfl) [A.b191,lx,ly]
 refine cX [(6,8),(14,38)] (fun e r st=>e=.exit 0/\Ysa h N x y r st) (Yr9 h N x y) (aH x).length ?_ ?_ ?_
 ·refine⟨0,List.replicate (aH x).length 0,0,by omega,⟨by omega,by simp,by simp,by simp,by simp,ad.refl.set (aR _) |>.up (by omega),by simp[EC],by simp,[],by simp,by simp,by simp[val],by decide,by simp[Dg]⟩⟩
 ·rintro m r ⟨H,n1,W⟩ hr hf ⟨k,o,c,rfl,hk,m_,h6,hn,hW,hK,hN,ho,d,hd⟩
  simp only at hn hW hK hN
  subst hn
  rw[cm]
  by_cases aO:k<(aH x).length
  ·obtain⟨i1,o1,c1,e1,w1,p1,p2,p3,p4⟩:=hx.at (eY (dT aO))
   have p3:=(hK.get _ p2).trans p3
   obtain⟨d1,d2,d3,d4,d5⟩:=hd
   have iP:=Yi5 (x:=aH x) (y:=aH y) (dT aO) d1 d2 d3 d4 d5 (pC x) (pC y)
   by_cases oI:k<(aH y).length
   ·obtain⟨i2,o2,c2,e2,w2,q1,q2,q3,q4⟩:=hy.at (eY (dT oI))
    have q3:=(hK.get _ q2).trans q3
    have hz:dz (aH y) k=(aH y)[k]:=by simp[dz,dT oI]
    rw[hz]at iP
    simp(disch:=first|(simp;done)|omega|(simp only[bn,bW,bf];omega)|rfl) [A.l9,hr,m_,h6,aO,oI,lx,ly,p1,p3,p4,q1,q3,q4,hN,nR,hf]
    exact⟨_,by omega,k+1,_,_,rfl,⟨by omega,by simp,by simp,rfl,by simp[hW],hK.set (aR _),by simp,by simp[ho],_,iP⟩⟩
   ·have hz:dz (aH y) k=0:=by simp[dz,jC (vz.1 oI)]
    rw[hz]at iP
    simp(disch:=first|(simp;done)|omega|(simp only[bn,bW,bf];omega)|rfl) [A.l9,hr,m_,h6,aO,oI,lx,ly,p1,p3,p4,hN,nR,hf]
    exact⟨_,by omega,k+1,_,_,rfl,⟨by omega,by simp,by simp,rfl,by simp[hW],hK.set (aR _),by simp,by simp[ho],_,iP⟩⟩
  ·have LS:k=(aH x).length:=by omega
   subst LS
   simp[A.l9,hr,m_,hf]
   exact⟨o,c,⟨by omega,by simp[m_],by simp[h6],rfl,by simp[hW],hK,hN,ho,d,hd⟩⟩
 ·rintro _ r ⟨H,n1,W⟩ hr ⟨rfl,o,c,hk,m_,h6,hn,hW,hK,hN,ho,d,d1,d2,d3,d4,d5⟩
  simp only at hn hW hK hN
  subst hn
  simp[hr]
  refine au (Ba (l:=o) (Sl.row (e:=212) (rw:=true) (by omega) (by simp[hN]) (by simp[ho]) (by simp)) (by simp[ho];omega)) ?_
  intro v' h' n' jE hs
  simp[aA]
  refine⟨hW,hK.trans jE,?_⟩
  rw[Yms Ms d1 d2 d3 d4 d5]at hs
  exact hs
end
end Go.Mx
