/-lensletref01-/
import Derived.Test.YtfeehbdhikiikaaGreatDoorRcE
set_option linter.all false
set_option maxHeartbeats 4000000
namespace Go.Mx
variable{d l o:List Nat}{N a b k x xk y:Nat}{h:T O}{v vx vy:V}
noncomputable section
open Go Go.Proofs
variable {j:Nat}
set_option maxRecDepth 1000000
def A.b12:=A.q Tryz.f12
def A.k12:=@A.kk 12 55 [.tmp 4] A.b12 (by kernel_rfl) rfl
def Zro(a b:Rat):a*b=Rat.divInt (a.num*b.num) ((a.den:Int)*(b.den:Int)):=by rw[Rat.mul_def,Rat.normalize_eq_mkRat,<-Rat.divInt_ofNat];simp
def Zr9(a b:Rat):a+b=Rat.divInt (a.num*(b.den:Int)+b.num*(a.den:Int)) ((a.den:Int)*(b.den:Int)):=by rw[Rat.add_def,Rat.normalize_eq_mkRat,<-Rat.divInt_ofNat];simp
def Sg(h1:a<1000000000)(h2:b<1000000000):a*b<=1000000000000000000:=by have:=oc (Nat.le_of_lt h1) (Nat.le_of_lt h2);omega
def V6(q:Rat):∃(n d:Int) (o:Bool),(∀st,A.C.call (.func 48 [] []) [.str (aI q)] st=some (.aU [.int .i64 n,.int .i64 d,.bool o],st))/\(o=true->n=q.num/\d=(q.den:Int)/\q.num.natAbs<1000000000/\q.den<1000000000):=by
 by_cases f:q.num.natAbs<1000000000/\q.den<1000000000
 ·exact⟨q.num,q.den,true,fun st=>by rw[Zzo,av f],fun _=>⟨rfl,rfl,f⟩⟩
 exact⟨0,0,false,fun st=>by rw[Zzo,ak f],fun h=>by cases h⟩
def Rg.vN{z:Int}(s:Rg h N v z):∃u,v=.agg [.bool (decide (z<0)),u]/\V.one u=true/\V.cells u=[u]/\JE u:=by obtain⟨u,rfl,hu⟩:=s;exact⟨u,rfl,(Sl.form hu).one,(Sl.form hu).cells,Sl.form hu⟩
def Sh{a b:Int}(h1:a.natAbs<2^j)(h2:b.natAbs<2^k):(a*b).natAbs<2^(j+k):=by rw[wg,mT];exact Dh h1 h2
def Zs0{a b:Int}(h1:a.natAbs<2^j)(h2:b.natAbs<2^j):(a+b).natAbs<2^(j+1):=by have:=Int.natAbs_add_le a b;rw[iD];omega
def IF{a b:Rat}(ha:Qb j a)(hb:Qb k b)(hj:j<=400000000)(hk:k<=400000000):Fn A.C 12 [.str (aI a),.str (aI b)] h N (fun u _ _=>u=.str (aI (a*b))):=by
 intro w;obtain⟨n1,d1,o1,rO,f1⟩:=V6 a;obtain⟨n2,d2,o2,mV,f2⟩:=V6 b;have pa:=Rat.den_pos a;have pb:=Rat.den_pos b;rw[aP,A.k12 (by simp)];have key:(o1=true/\o2=true)\/(o1=false\/(o1=true/\o2=false)):=by cases o1<;>cases o2<;>simp
 rcases key with⟨rfl,rfl⟩|key
 ·obtain⟨rfl,rfl,g1⟩:=f1 rfl;obtain⟨rfl,rfl,g2⟩:=f2 rfl;have m1:(a.num*b.num).natAbs<=1000000000000000000:=by rw[wg];exact Sg g1.1 g2.1
  have m2:a.den*b.den<=1000000000000000000:=Sg g1.2 g2.2;have m3:0<a.den*b.den:=Au pa pb;have e2:(a.den:Int)*(b.den:Int)=((a.den*b.den:Nat):Int):=by simp
  have w1:bn .i64 (a.num*b.num)=a.num*b.num:=cN (by omega) (by omega);have w2:bn .i64 ((a.den:Int)*(b.den:Int))=(a.den:Int)*(b.den:Int):=by rw[e2];exact cN (by omega) (by omega)
  have ho:=fun st=>Ywj (p:=a.num*b.num) (q:=(a.den:Int)*(b.den:Int)) (st:=st) (by omega) (by omega) (by omega) (by omega) (by omega);rw[<-Zro]at ho;simp[A.b12,rO,mV,w1,w2,ho,ay];exact ab.refl
 have la:=LF ha.1;have Lq:=IK ha.2;have lb:=LF hb.1;have Zk:=IK hb.2;have z1:=zm ha.1;have z2:=zm hb.1;have z3:=zm ha.2;have z4:=zm hb.2;rcases key with rfl|⟨rfl,rfl⟩
 all_goals simp[A.b12,rO,mV]
 all_goals
  refine au (V5 (q:=a) (by omega) (by omega)) ?_
  rintro _ h1 t1 k1 ⟨x1,y1,rfl,X1,Y1⟩
  obtain⟨u1,rfl,p1,p2,F1⟩:=X1.vN
  obtain⟨v1,rfl,p3,p4,G1⟩:=Y1.vN
  unfold V.one at p1 p3
  unfold V.cells at p2 p4
  have KA:=((((ab.refl (h:=h1) (n:=t1)).new (.cells [.bool false,.aa] 80 true)).new (.cells [.bool false,.aa] 80 true)).set (i:=t1) (o:=.cells [.bool (decide (a.num<0)),u1] 80 true) (aN _)).set (i:=t1+1) (o:=.cells [.bool (decide ((a.den:Int)<0)),v1] 80 true) (by omega)
  have c0:¬t1+1=t1:=by omega
  have c00:¬t1=t1+1:=by omega
  simp[p1,p3,bM,ae]
  generalize KX:(((h1.set t1 (.cells [.bool false,.aa] 80 true)).set (t1+1) (.cells [.bool false,.aa] 80 true)).set t1 (.cells [.bool (decide (a.num<0)),u1] 80 true)).set (t1+1) (.cells [.bool (decide ((a.den:Int)<0)),v1] 80 true)=HA at*
  have Oy:HA.get t1=some (.cells [.bool (decide (a.num<0)),u1] 80 true):=by rw[<-KX];simp
  have gA2:HA.get (t1+1)=some (.cells [.bool (decide ((a.den:Int)<0)),v1] 80 true):=by rw[<-KX];simp
  have X1:=X1.ad KA
  have Y1:=Y1.ad KA
  clear KX
  refine au (V5 (q:=b) (by omega) (by omega)) ?_
  rintro _ h2 t2 k2 ⟨x2,y2,rfl,X2,Y2⟩
  obtain⟨u2,rfl,p5,p6,F2⟩:=X2.vN
  obtain⟨v2,rfl,p7,p8,G2⟩:=Y2.vN
  unfold V.one at p5 p7
  unfold V.cells at p6 p8
  have KB:=((((ab.refl (h:=h2) (n:=t2)).new (.cells [.bool false,.aa] 80 true)).new (.cells [.bool false,.aa] 80 true)).set (i:=t2) (o:=.cells [.bool (decide (b.num<0)),u2] 80 true) (aN _)).set (i:=t2+1) (o:=.cells [.bool (decide ((b.den:Int)<0)),v2] 80 true) (by omega)
  have c1:¬t2+1=t2:=by omega
  have c11:¬t2=t2+1:=by omega
  have i2:=k2.le
  generalize KY:(((h2.set t2 (.cells [.bool false,.aa] 80 true)).set (t2+1) (.cells [.bool false,.aa] 80 true)).set t2 (.cells [.bool (decide (b.num<0)),u2] 80 true)).set (t2+1) (.cells [.bool (decide ((b.den:Int)<0)),v2] 80 true)=HB at*
  have DS:HB.get t2=some (.cells [.bool (decide (b.num<0)),u2] 80 true):=by rw[<-KY];simp
  have CU:HB.get (t2+1)=some (.cells [.bool (decide ((b.den:Int)<0)),v2] 80 true):=by rw[<-KY];simp
  have zN:=(KB.get t1 (by omega)).trans ((k2.get t1 (by omega)).trans Oy)
  have Gm:=(KB.get (t1+1) (by omega)).trans ((k2.get (t1+1) (by omega)).trans gA2)
  have X1:=(X1.ad k2).ad KB
  have Y1:=(Y1.ad k2).ad KB
  have X2:=X2.ad KB
  have Y2:=Y2.ad KB
  have K2:ab h N HB (t2+1+1):=((k1.trans KA).trans k2).trans KB
  have j1:t1<t2+1+1:=by omega
  have j2:t1+1<t2+1+1:=by omega
  have j3:t2<t2+1+1:=by omega
  simp[p5,p7,bM,ae,KY,DS,zN,aS,aO]
  refine au (Qm X1 X2 (by omega) (by omega)) ?_
  rintro _ h3 t3 k3 X3
  have i3:=k3.le
  have gC2:=(k3.get (t2+1) (by omega)).trans CU
  have V7:=(k3.get (t1+1) (by omega)).trans Gm
  simp[gC2,V7,aS,aO]
  refine au (Qm (Y1.ad k3) (Y2.ad k3) (by rw[dT];omega) (by rw[dT];omega)) ?_
  rintro _ h4 t4 k4 X4
  have m1:=zm (Sh ha.1 hb.1)
  have m2:=zm (Sh (a:=(a.den:Int)) (b:=(b.den:Int)) (j:=j) (k:=k) (by rw[dT];exact ha.2) (by rw[dT];exact hb.2))
  simp[]
  refine au (Zpr (X3.ad k4) X4 (Mm (by omega) (by omega)) (by omega) (by omega)) ?_
  rintro _ h5 t5 k5 rfl
  have j4:t2+1<t3:=by omega
  have j5:t1+1<t3:=by omega
  rw[<-Zro]
  have i1:=k1.le
  simp[-az,c9.c_,j1,j4,j5,ay]
  exact⟨Iq (by simp;omega),((K2.trans k3).trans k4).trans k5⟩
def A.b23:=A.q Tryz.f23
def A.k23:=@A.kk 23 63 [.tmp 4] A.b23 (by kernel_rfl) rfl
def NL{a b:Rat}(ha:Qb j a)(hb:Qb k b)(hj:j<=400000000)(hk:k<=400000000):Fn A.C 23 [.str (aI a),.str (aI b)] h N (fun u _ _=>u=.str (aI (a+b))):=by
 intro w;obtain⟨n1,d1,o1,rO,f1⟩:=V6 a;obtain⟨n2,d2,o2,mV,f2⟩:=V6 b;have pa:=Rat.den_pos a;have pb:=Rat.den_pos b;rw[aP,A.k23 (by simp)];have key:(o1=true/\o2=true)\/(o1=false\/(o1=true/\o2=false)):=by cases o1<;>cases o2<;>simp
 rcases key with⟨rfl,rfl⟩|key
 ·obtain⟨rfl,rfl,g1⟩:=f1 rfl;obtain⟨rfl,rfl,g2⟩:=f2 rfl;have m1:(a.num*(b.den:Int)).natAbs<=1000000000000000000:=by rw[wg,dT];exact Sg g1.1 g2.2
  have m4:(b.num*(a.den:Int)).natAbs<=1000000000000000000:=by rw[wg,dT];exact Sg g2.1 g1.2
  have m2:a.den*b.den<=1000000000000000000:=Sg g1.2 g2.2;have m3:0<a.den*b.den:=Au pa pb;have e2:(a.den:Int)*(b.den:Int)=((a.den*b.den:Nat):Int):=by simp
  have w1:bn .i64 (a.num*(b.den:Int))=a.num*(b.den:Int):=cN (by omega) (by omega);have w3:bn .i64 (b.num*(a.den:Int))=b.num*(a.den:Int):=cN (by omega) (by omega);have w2:bn .i64 ((a.den:Int)*(b.den:Int))=(a.den:Int)*(b.den:Int):=by rw[e2];exact cN (by omega) (by omega)
  have w4:bn .i64 (a.num*(b.den:Int)+b.num*(a.den:Int))=a.num*(b.den:Int)+b.num*(a.den:Int):=cN (by omega) (by omega);have ho:=fun st=>Ywj (p:=a.num*(b.den:Int)+b.num*(a.den:Int)) (q:=(a.den:Int)*(b.den:Int)) (st:=st) (by omega) (by omega) (by omega) (by omega) (by omega);rw[<-Zr9]at ho;simp[A.b23,rO,mV,w1,w2,w3,w4,ho,ay];exact ab.refl
 have la:=LF ha.1;have Lq:=IK ha.2;have lb:=LF hb.1;have Zk:=IK hb.2;have z1:=zm ha.1;have z2:=zm hb.1;have z3:=zm ha.2;have z4:=zm hb.2;rcases key with rfl|⟨rfl,rfl⟩
 all_goals simp[A.b23,rO,mV]
 all_goals
  refine au (V5 (q:=a) (by omega) (by omega)) ?_
  rintro _ h1 t1 k1 ⟨x1,y1,rfl,X1,Y1⟩
  obtain⟨u1,rfl,p1,p2,F1⟩:=X1.vN
  obtain⟨v1,rfl,p3,p4,G1⟩:=Y1.vN
  unfold V.one at p1 p3
  unfold V.cells at p2 p4
  have KA:=((((ab.refl (h:=h1) (n:=t1)).new (.cells [.bool false,.aa] 80 true)).new (.cells [.bool false,.aa] 80 true)).set (i:=t1) (o:=.cells [.bool (decide (a.num<0)),u1] 80 true) (aN _)).set (i:=t1+1) (o:=.cells [.bool (decide ((a.den:Int)<0)),v1] 80 true) (by omega)
  have c0:¬t1+1=t1:=by omega
  have c00:¬t1=t1+1:=by omega
  simp[p1,p3,bM,ae]
  generalize KX:(((h1.set t1 (.cells [.bool false,.aa] 80 true)).set (t1+1) (.cells [.bool false,.aa] 80 true)).set t1 (.cells [.bool (decide (a.num<0)),u1] 80 true)).set (t1+1) (.cells [.bool (decide ((a.den:Int)<0)),v1] 80 true)=HA at*
  have Oy:HA.get t1=some (.cells [.bool (decide (a.num<0)),u1] 80 true):=by rw[<-KX];simp
  have gA2:HA.get (t1+1)=some (.cells [.bool (decide ((a.den:Int)<0)),v1] 80 true):=by rw[<-KX];simp
  have X1:=X1.ad KA
  have Y1:=Y1.ad KA
  clear KX
  refine au (V5 (q:=b) (by omega) (by omega)) ?_
  rintro _ h2 t2 k2 ⟨x2,y2,rfl,X2,Y2⟩
  obtain⟨u2,rfl,p5,p6,F2⟩:=X2.vN
  obtain⟨v2,rfl,p7,p8,G2⟩:=Y2.vN
  unfold V.one at p5 p7
  unfold V.cells at p6 p8
  have KB:=((((ab.refl (h:=h2) (n:=t2)).new (.cells [.bool false,.aa] 80 true)).new (.cells [.bool false,.aa] 80 true)).set (i:=t2) (o:=.cells [.bool (decide (b.num<0)),u2] 80 true) (aN _)).set (i:=t2+1) (o:=.cells [.bool (decide ((b.den:Int)<0)),v2] 80 true) (by omega)
  have c1:¬t2+1=t2:=by omega
  have c11:¬t2=t2+1:=by omega
  have i2:=k2.le
  generalize KY:(((h2.set t2 (.cells [.bool false,.aa] 80 true)).set (t2+1) (.cells [.bool false,.aa] 80 true)).set t2 (.cells [.bool (decide (b.num<0)),u2] 80 true)).set (t2+1) (.cells [.bool (decide ((b.den:Int)<0)),v2] 80 true)=HB at*
  have DS:HB.get t2=some (.cells [.bool (decide (b.num<0)),u2] 80 true):=by rw[<-KY];simp
  have CU:HB.get (t2+1)=some (.cells [.bool (decide ((b.den:Int)<0)),v2] 80 true):=by rw[<-KY];simp
  have zN:=(KB.get t1 (by omega)).trans ((k2.get t1 (by omega)).trans Oy)
  have Gm:=(KB.get (t1+1) (by omega)).trans ((k2.get (t1+1) (by omega)).trans gA2)
  have X1:=(X1.ad k2).ad KB
  have Y1:=(Y1.ad k2).ad KB
  have X2:=X2.ad KB
  have Y2:=Y2.ad KB
  have K2:ab h N HB (t2+1+1):=((k1.trans KA).trans k2).trans KB
  have j1:t1<t2+1+1:=by omega
  have j2:t1+1<t2+1+1:=by omega
  have j3:t2<t2+1+1:=by omega
  simp[p5,p7,bM,ae,KY,CU,zN,aS,aO]
  refine au (Qm X1 Y2 (by omega) (by rw[dT];omega)) ?_
  rintro _ h3 t3 k3 X3
  have i3:=k3.le
  have gC1:=(k3.get t2 (by omega)).trans DS
  have gC2:=(k3.get (t2+1) (by omega)).trans CU
  have V7:=(k3.get (t1+1) (by omega)).trans Gm
  simp[gC1,V7,aS,aO]
  refine au (Qm (X2.ad k3) (Y1.ad k3) (by omega) (by rw[dT];omega)) ?_
  rintro _ h4 t4 k4 X4
  have i4:=k4.le
  have b1:=Sh (b:=(b.den:Int)) (k:=k) ha.1 (by rw[dT];exact hb.2)
  have b2:=Sh (b:=(a.den:Int)) (k:=j) hb.1 (by rw[dT];exact ha.2)
  rw[Nat.add_comm k j]at b2
  have m1:=zm b1
  have m2:=zm b2
  have m3:=zm (Zs0 b1 b2)
  have m4:=zm (Sh (a:=(a.den:Int)) (b:=(b.den:Int)) (j:=j) (k:=k) (by rw[dT];exact ha.2) (by rw[dT];exact hb.2))
  simp[]
  refine au (Yrd (X3.ad k4) X4 (by omega) (by omega)) ?_
  rintro _ h5 t5 k5 X5
  have i5:=k5.le
  have gD2:=(k5.get (t2+1) (by omega)).trans ((k4.get (t2+1) (by omega)).trans gC2)
  have V8:=(k5.get (t1+1) (by omega)).trans ((k4.get (t1+1) (by omega)).trans V7)
  simp[gD2,V8,aS,aO]
  refine au (Qm (((Y1.ad k3).ad k4).ad k5) (((Y2.ad k3).ad k4).ad k5) (by rw[dT];omega) (by rw[dT];omega)) ?_
  rintro _ h6 t6 k6 X6
  simp[]
  refine au (Zpr (X5.ad k6) X6 (Mm (by omega) (by omega)) (by omega) (by omega)) ?_
  rintro _ h7 t7 k7 rfl
  have j4:t2+1<t3:=by omega
  have j5:t1+1<t3:=by omega
  have j6:t2<t3:=by omega
  have j7:t2+1<t5:=by omega
  have j8:t1+1<t5:=by omega
  rw[<-Zr9]
  have i1:=k1.le
  simp[-az,c9.c_,j1,j5,j6,j7,j8,ay]
  exact⟨Iq (by simp;omega),((((K2.trans k3).trans k4).trans k5).trans k6).trans k7⟩
def A.b205:=A.q Tryz.f205
def A.k205:=@A.kk 205 51 [.tmp 4,.tmp 5] A.b205 (by kernel_rfl) rfl
def Ywn(hx:x<18446744073709551616)(hy:y<18446744073709551616):cU (cU (dh (ax x 32) (ax y 32)) (ax (cU (dh (ax x 32) (fM y)) (ax (dh (fM x) (fM y)) 32)) 32)) (ax (cU (fM (cU (dh (ax x 32) (fM y)) (ax (dh (fM x) (fM y)) 32))) (dh (fM x) (ax y 32))) 32)=cC (x*y):=by
 simp only[cU,dh,ax,fM,cC,Nat.reducePow];have ex:x=x/4294967296*4294967296+x%4294967296:=by omega
 have ey:y=y/4294967296*4294967296+y%4294967296:=by omega
 have jP:x%4294967296<4294967296:=m_ _ (by decide);have zr:y%4294967296<4294967296:=m_ _ (by decide);have wK:x/4294967296<4294967296:=by omega
 have rS:y/4294967296<4294967296:=by omega
 generalize x/4294967296=x1 at*;generalize x%4294967296=x0 at*;generalize y/4294967296=y1 at*;generalize y%4294967296=y0 at*;have a1:x0*y0<=4294967295*4294967295:=oc (by omega) (by omega);have a2:x1*y0<=4294967295*4294967295:=oc (by omega) (by omega);have a3:x0*y1<=4294967295*4294967295:=oc (by omega) (by omega);have a4:x1*y1<=4294967295*4294967295:=oc (by omega) (by omega);have e:x*y=x1*y1*18446744073709551616+(x1*y0+x0*y1)*4294967296+x0*y0:=by subst ex;subst ey;grind
 rw[e];generalize x0*y0=p at*;generalize x1*y0=q at*;generalize x0*y1=u at*;generalize x1*y1=z at*;omega
def PC(hx:x<18446744073709551616)(hy:y<18446744073709551616):Fn A.C 205 [.int .u64 x,.int .u64 y] h N (fun v' h' N'=>h'=h/\N'=N/\v'=.aU [.int .u64 (cC (x*y):Nat),.int .u64 (bC (x*y):Nat)]):=by intro w;rw[aP,A.k205 (by simp)];simp(disch:=first|(simp;done)|omega|(simp only[bu,cr,bl];omega)|rfl) [A.b205];rw[Ywn hx hy];exact⟨rfl,ab.refl,rfl,rfl,rfl⟩
def A.Si:=A.q Tryz.f231
def A.pq:=A.ql A.Si 0 []
def A.b231:=(fun x0=>A.qb A.Si [x0]) A.pq
def A.k231:=@A.kk 231 21 [.tmp 2] A.b231 (by kernel_rfl) rfl
def Fv(hs:Sl h N v (dg l))(hl:l.length<1152921504606846976):Fn A.C 231 [v] h N (fun v' h' N'=>Sl h' N' v' (dg (uR l))):=by
 intro w;have hlen:=hs.len;rw[bu]at hlen;rw[aP,A.k231 (by simp)];simp[A.b231,hlen];refine cB [(3,3),(6,17)] (fun e r st=>e=.exit 0/\st=⟨h,N,[]⟩/\∃k,k<=l.length/\r.get 3=some (.int .i64 k)/\uR l=l.take k) (fun k r st=>st=⟨h,N,[]⟩/\k<=l.length/\r.get 3=some (.int .i64 k)/\uR (l.take k)=uR l) l.length ?_ ?_ ?_
 ·exact⟨rfl,aN _,by simp,by simp⟩
 ·rintro k r _ hr hf ⟨rfl,hk,h3,ht⟩;rw[bG];cases k with
  |zero=> have:uR l=[]:=ht.symm;simp[A.pq,h3,hf,this];exact⟨0,by omega,rfl,.inl rfl⟩
  |succ k=>
   obtain⟨d,hd⟩:∃d,l[k]?=some d:=⟨_,cj (by omega)⟩;obtain⟨i,o,c,e,rw,q1,q2,q3,q4⟩:=hs.at (gw hd);have e1:l.take (k+1)=l.take k++[d]:=by rw[Bi,hd];rfl
   have k1:(0:Int)<(k:Int)+1:=by omega
   have k2:(k:Int)<(l.length:Int):=by omega
   by_cases h0:d=0
   ·subst h0;rw[e1,Zq2]at ht;simp(disch:=first|(simp;done)|omega|(simp only[bu,cr,bl];omega)|rfl) [A.pq,h3,hr,hf,k1,k2,hlen,q1,q3,q4,bz];exact⟨k,by omega,by omega,rfl,ht⟩
   rw[e1,Zq3 h0]at ht;have hz:((d:Int)==0)=false:=by simp;omega
   simp(disch:=first|(simp;done)|omega|(simp only[bu,cr,bl];omega)|rfl) [A.pq,h3,hr,hf,k1,k2,hlen,q1,q3,q4,bz,hz];exact⟨k+1,hk,rfl,by rw[e1];exact ht.symm⟩
 rintro _ r _ hr ⟨rfl,rfl,k,hk,h3,ht⟩;simp[hr,h3,Ge,aC];obtain⟨v',e1,e2⟩:=LK (w:=[]) hs (lo:=0) (hi:=k) (wX _) (by rw[bu];exact hk) none (some (.int .i64 k)) (.inr ⟨rfl,rfl⟩) (.inl rfl);rw[e1];simp[ay];refine⟨ab.refl,?_⟩;rw[ht,show dg (l.take k)=(dg l).take k by simp[dg]];exact e2
def A.Sj:=A.q Tryz.f200
def A.im:=A.ql A.Sj 0 []
def A.b200:=(fun x0=>A.qb A.Sj [x0]) A.im
def A.k200:=@A.kk 200 54 [.tmp 4] A.b200 (by kernel_rfl) rfl
structure Xa6 (h:T O) (N x y k:Nat) (o:List Nat) (c:Nat) (r:T V) (st:St):Prop where
 hk:k<=(aJ x).length
 r22:r.get 22=some (.int .i64 k)
 r6:r.get 6=some (.int .u64 c)
 n:st.n=N+1
 w:az N st.w=[]
 ad:ab h N st.h (N+1)
 row:st.h.get N=some (.cells (dg o) 205 true)
 len:o.length=(aJ x).length+1
 ex:∃d,d.length=k/\o=d++List.replicate ((aJ x).length+1-k) 0/\val B d+B^k*c=val B ((aJ x).take k)+val B ((aJ y).take k)/\c<=1/\Dg d
def Xa7(h:T O)(N x y m:Nat)(r:T V)(st:St):Prop:=∃k o c,m=(aJ x).length-k/\Xa6 h N x y k o c r st
def Xa8(h:T O)(N x y:Nat)(r:T V)(st:St):Prop:=∃o c,Xa6 h N x y (aJ x).length o c r st
def Yjk{x y:List Nat}{c:Nat}(hx:x[k]?=some xk)(d1:d.length=k)(d2:o=d++List.replicate (x.length+1-k) 0)(d3:val B d+B^k*c=val B (x.take k)+val B (y.take k))(d4:c<=1)(d5:Dg d)(gx:Dg x)(gy:Dg y):
  (d++[bC (xk+dz y k+c)]).length=k+1/\o.set k (bC (xk+dz y k+c))=(d++[bC (xk+dz y k+c)])++List.replicate (x.length+1-(k+1)) 0/\val B (d++[bC (xk+dz y k+c)])+B^(k+1)*cC (xk+dz y k+c)=val B (x.take (k+1))+val B (y.take (k+1))/\cC (xk+dz y k+c)<=1/\Dg (d++[bC (xk+dz y k+c)]):=by
 have hk:k<x.length:=by apply u_;intro hc;rw[gl hc]at hx;cases hx
 have hxk:=gx.get hx;have hyk:=Yxj gy k;have hm:=wy (xk+dz y k+c) B;refine⟨by simp[d1],?_,?_,?_,?_⟩
 ·rw[d2,show x.length+1-k=(x.length-k)+1 by omega,Zso d1,show x.length+1-(k+1)=x.length-k by omega]
 ·rw[U6,Fs,Fs,d1,show dz x k=xk by simp[dz,hx]];have e1:bC (xk+dz y k+c)=(xk+dz y k+c)%B:=rfl;have e2:cC (xk+dz y k+c)=(xk+dz y k+c)/B:=rfl;rw[e1,e2,iD];generalize (xk+dz y k+c)%B=lo at*;generalize (xk+dz y k+c)/B=hi at*;generalize B^k=p at*;have:p*(B*hi+lo)=p*(xk+dz y k+c):=by rw[hm]
  grind
 ·show (xk+dz y k+c)/B<=1;unfold B at*;omega
 intro e he;rcases iS.1 he with he|he
 ·exact d5 e he
 simp at he;subst he;exact m_ _ (by decide)
def Ypj{c:Nat}(hl:(aJ y).length<=(aJ x).length)(d1:d.length=(aJ x).length)(d2:o=d++List.replicate ((aJ x).length+1-(aJ x).length) 0)(d3:val B d+B^(aJ x).length*c=val B ((aJ x).take (aJ x).length)+val B ((aJ y).take (aJ x).length))(d4:c<=1)(d5:Dg d):uR (o.set (aJ x).length c)=aJ (x+y):=by
 rw[d2,show (aJ x).length+1-(aJ x).length=0+1 by omega,Zso d1];simp only[List.replicate_zero,zO];rw[Ft,U6,d1,d3,gm (aN _),gm hl,oM,oM];intro e he;rcases iS.1 he with he|he
 ·exact d5 e he
 simp at he;subst he;unfold B;omega
def Zy0(hx:Wn h N vx x)(hy:Wn h N vy y)(uU:(aJ x).length<1099511627776)(PN:(aJ y).length<1099511627776):Fn A.C 200 [vx,vy] h N (fun v' h' N'=>Wn h' N' v' (x+y)):=by
 intro w;have lx:=hx.len;have ly:=hy.len;rw[bu]at lx ly;rw[aP,A.k200 (by simp)];by_cases hl:(aJ x).length<(aJ y).length
 ·simp(disch:=first|(simp;done)|omega|(simp only[bu,cr,bl];omega)|rfl) [A.b200,lx,ly,hl];refine cB [(6,8),(22,46)] (fun e r st=>e=.exit 0/\Xa8 h N y x r st) (Xa7 h N y x) (aJ y).length ?_ ?_ ?_
  ·refine⟨0,List.replicate ((aJ y).length+1) 0,0,by omega,⟨by omega,by simp,by simp,by simp,by simp,ab.refl.set (aN _) |>.up (by omega),by simp[J9],by simp,[],by simp,by simp,by simp[val],by decide,by simp[Dg]⟩⟩
  ·rintro m r ⟨H,n1,W⟩ hr hf ⟨k,o,c,rfl,hk,qo,h6,hn,hW,hK,hN,ho,d,hd⟩;simp only at hn hW hK hN;subst hn;rw[bG];by_cases aD:k<(aJ y).length
   ·obtain⟨i1,o1,c1,e1,w1,p1,p2,p3,p4⟩:=hy.at (gw (cj aD));have p3:=(hK.get _ p2).trans p3;obtain⟨d1,d2,d3,d4,d5⟩:=hd;have iw:=Yjk (x:=aJ y) (y:=aJ x) (cj aD) d1 d2 d3 d4 d5 (tR y) (tR x);by_cases sH:k<(aJ x).length
    ·obtain⟨i2,o2,c2,e2,w2,q1,q2,q3,q4⟩:=hx.at (gw (cj sH));have q3:=(hK.get _ q2).trans q3;have hz:dz (aJ x) k=(aJ x)[k]:=by simp[dz,cj sH]
     rw[hz]at iw;simp(disch:=first|(simp;done)|omega|(simp only[bu,cr,bl];omega)|rfl) [A.im,hr,qo,h6,aD,sH,ly,lx,p1,p3,p4,q1,q3,q4,hN,rH,hf];exact⟨_,by omega,k+1,_,_,rfl,⟨by omega,by simp,by simp,rfl,by simp[hW],hK.set (aN _),by simp,by simp[ho],_,iw⟩⟩
    have hz:dz (aJ x) k=0:=by simp[dz,gl (xb.1 sH)]
    rw[hz]at iw;simp(disch:=first|(simp;done)|omega|(simp only[bu,cr,bl];omega)|rfl) [A.im,hr,qo,h6,aD,sH,ly,lx,p1,p3,p4,hN,rH,hf];exact⟨_,by omega,k+1,_,_,rfl,⟨by omega,by simp,by simp,rfl,by simp[hW],hK.set (aN _),by simp,by simp[ho],_,iw⟩⟩
   have Sk:k=(aJ y).length:=by omega
   subst Sk;simp[A.im,hr,qo,hf];exact⟨o,c,⟨by omega,by simp[qo],by simp[h6],rfl,by simp[hW],hK,hN,ho,d,hd⟩⟩
  rintro _ r ⟨H,n1,W⟩ hr ⟨rfl,o,c,hk,qo,h6,hn,hW,hK,hN,ho,d,d1,d2,d3,d4,d5⟩;simp only at hn hW hK hN;subst hn;simp(disch:=first|(simp;done)|omega|(simp only[bu,cr,bl];omega)|rfl) [hr,h6,ly,hN,rH];refine au (Fv (l:=o.set (aJ y).length c) (Sl.row (e:=205) (rw:=true) (by omega) (by simp) (by simp[ho]) (by simp)) (by simp[ho];omega)) ?_;intro v' h' n' gW hs;simp[ay];refine⟨hW,(hK.set (aN _)).trans gW,?_⟩;rw[Ypj (by omega) d1 d2 d3 d4 d5]at hs;exact(Nat.add_comm y x▸hs)
 simp(disch:=first|(simp;done)|omega|(simp only[bu,cr,bl];omega)|rfl) [A.b200,lx,ly,hl];refine cB [(6,8),(22,46)] (fun e r st=>e=.exit 0/\Xa8 h N x y r st) (Xa7 h N x y) (aJ x).length ?_ ?_ ?_
 ·refine⟨0,List.replicate ((aJ x).length+1) 0,0,by omega,⟨by omega,by simp,by simp,by simp,by simp,ab.refl.set (aN _) |>.up (by omega),by simp[J9],by simp,[],by simp,by simp,by simp[val],by decide,by simp[Dg]⟩⟩
 ·rintro m r ⟨H,n1,W⟩ hr hf ⟨k,o,c,rfl,hk,qo,h6,hn,hW,hK,hN,ho,d,hd⟩;simp only at hn hW hK hN;subst hn;rw[bG];by_cases aD:k<(aJ x).length
  ·obtain⟨i1,o1,c1,e1,w1,p1,p2,p3,p4⟩:=hx.at (gw (cj aD));have p3:=(hK.get _ p2).trans p3;obtain⟨d1,d2,d3,d4,d5⟩:=hd;have iw:=Yjk (x:=aJ x) (y:=aJ y) (cj aD) d1 d2 d3 d4 d5 (tR x) (tR y);by_cases sH:k<(aJ y).length
   ·obtain⟨i2,o2,c2,e2,w2,q1,q2,q3,q4⟩:=hy.at (gw (cj sH));have q3:=(hK.get _ q2).trans q3;have hz:dz (aJ y) k=(aJ y)[k]:=by simp[dz,cj sH]
    rw[hz]at iw;simp(disch:=first|(simp;done)|omega|(simp only[bu,cr,bl];omega)|rfl) [A.im,hr,qo,h6,aD,sH,lx,ly,p1,p3,p4,q1,q3,q4,hN,rH,hf];exact⟨_,by omega,k+1,_,_,rfl,⟨by omega,by simp,by simp,rfl,by simp[hW],hK.set (aN _),by simp,by simp[ho],_,iw⟩⟩
   have hz:dz (aJ y) k=0:=by simp[dz,gl (xb.1 sH)]
   rw[hz]at iw;simp(disch:=first|(simp;done)|omega|(simp only[bu,cr,bl];omega)|rfl) [A.im,hr,qo,h6,aD,sH,lx,ly,p1,p3,p4,hN,rH,hf];exact⟨_,by omega,k+1,_,_,rfl,⟨by omega,by simp,by simp,rfl,by simp[hW],hK.set (aN _),by simp,by simp[ho],_,iw⟩⟩
  have Sk:k=(aJ x).length:=by omega
  subst Sk;simp[A.im,hr,qo,hf];exact⟨o,c,⟨by omega,by simp[qo],by simp[h6],rfl,by simp[hW],hK,hN,ho,d,hd⟩⟩
 rintro _ r ⟨H,n1,W⟩ hr ⟨rfl,o,c,hk,qo,h6,hn,hW,hK,hN,ho,d,d1,d2,d3,d4,d5⟩;simp only at hn hW hK hN;subst hn;simp(disch:=first|(simp;done)|omega|(simp only[bu,cr,bl];omega)|rfl) [hr,h6,lx,hN,rH];refine au (Fv (l:=o.set (aJ x).length c) (Sl.row (e:=205) (rw:=true) (by omega) (by simp) (by simp[ho]) (by simp)) (by simp[ho];omega)) ?_;intro v' h' n' gW hs;simp[ay];refine⟨hW,(hK.set (aN _)).trans gW,?_⟩;rw[Ypj (by omega) d1 d2 d3 d4 d5]at hs;exact hs
def A.Sm:=A.q Tryz.f202
def A.pr:=A.ql A.Sm 0 []
def A.b202:=(fun x0=>A.qb A.Sm [x0]) A.pr
def A.k202:=@A.kk 202 41 [.tmp 4] A.b202 (by kernel_rfl) rfl
def HL(h:a<=b):(aJ a).length<=(aJ b).length:=by
 apply AK;intro hc;have h1:=Hh (b:=B) (tR b);rw[oM]at h1;have h2:∀n,n≠0->B^((aJ n).length-1)<=n:=by
  intro n;induction n using Nat.strongRecOn with
  |_ n ih=>
   intro hn;rw[oJ hn];by_cases h0:n/B=0
   ·rw[h0,tP];simp;omega
   have:=ih (n/B) (Ez (by omega) (by decide)) h0;have hp:0<(aJ (n/B)).length:=by rw[oJ h0];simp
   simp only[bl,Nat.add_sub_cancel];rw[show (aJ (n/B)).length=((aJ (n/B)).length-1)+1 by omega,iD];have h3:B^((aJ (n/B)).length-1)*B<=n/B*B:=kg B this;have:=Nat.div_mul_le_self n B;omega
 have ha:a≠0:=by rintro rfl;rw[tP]at hc;simp at hc
 have h3:=h2 a ha;have h4:B^(aJ b).length<=B^((aJ a).length-1):=rL (by decide) (by omega);omega
structure Xa3 (h:T O) (N x y k:Nat) (o:List Nat) (c:Nat) (r:T V) (st:St):Prop where
 hk:k<=(aJ x).length
 M9:r.get 14=some (.int .i64 k)
 r6:r.get 6=some (.int .u64 c)
 n:st.n=N+1
 w:az N st.w=[]
 ad:ab h N st.h (N+1)
 row:st.h.get N=some (.cells (dg o) 205 true)
 len:o.length=(aJ x).length
 ex:∃d,d.length=k/\o=d++List.replicate ((aJ x).length-k) 0/\val B d+val B ((aJ y).take k)=val B ((aJ x).take k)+B^k*c/\c<=1/\Dg d
def Xcn(h:T O)(N x y m:Nat)(r:T V)(st:St):Prop:=∃k o c,m=(aJ x).length-k/\Xa3 h N x y k o c r st
def Xco(h:T O)(N x y:Nat)(r:T V)(st:St):Prop:=∃o c,Xa3 h N x y (aJ x).length o c r st
def Yqa{x y:List Nat}{c:Nat}(hx:x[k]?=some xk)(d1:d.length=k)(d2:o=d++List.replicate (x.length-k) 0)(d3:val B d+val B (y.take k)=val B (x.take k)+B^k*c)(d4:c<=1)(d5:Dg d)(gx:Dg x)(gy:Dg y):
  (d++[fh xk (dz y k) c]).length=k+1/\o.set k (fh xk (dz y k) c)=(d++[fh xk (dz y k) c])++List.replicate (x.length-(k+1)) 0/\val B (d++[fh xk (dz y k) c])+val B (y.take (k+1))=val B (x.take (k+1))+B^(k+1)*gK xk (dz y k) c/\gK xk (dz y k) c<=1/\Dg (d++[fh xk (dz y k) c]):=by
 have hk:k<x.length:=by apply u_;intro hc;rw[gl hc]at hx;cases hx
 have hxk:=gx.get hx;have hyk:=Yxj gy k;have hs:fh xk (dz y k) c+dz y k+c=xk+B*gK xk (dz y k) c/\fh xk (dz y k) c<B/\gK xk (dz y k) c<=1:=by unfold fh gK;unfold B at*;split<;>omega
 refine⟨by simp[d1],?_,?_,hs.2.2,?_⟩
 ·rw[d2,show x.length-k=(x.length-(k+1))+1 by omega,Zso d1]
 ·rw[U6,Fs,Fs,d1,show dz x k=xk by simp[dz,hx],iD];have h1:=hs.1;generalize fh xk (dz y k) c=s at*;generalize gK xk (dz y k) c=b at*;generalize B^k=p at*;have:p*(s+dz y k+c)=p*(xk+B*b):=by rw[h1]
  grind
 intro e he;rcases iS.1 he with he|he
 ·exact d5 e he
 simp at he;subst he;exact hs.2.1
def Yvn{c:Nat}(hl:y<=x)(d1:d.length=(aJ x).length)(d2:o=d++List.replicate ((aJ x).length-(aJ x).length) 0)(d3:val B d+val B ((aJ y).take (aJ x).length)=val B ((aJ x).take (aJ x).length)+B^(aJ x).length*c)(d4:c<=1)(d5:Dg d):uR o=aJ (x-y):=by
 rw[d2,Nat.sub_self];simp only[List.replicate_zero,zO];rw[Ft d5];congr 1;rw[gm (aN _),gm (HL hl),oM,oM]at d3;have:=Hh d5;rw[d1]at this;rcases Nat.lt_or_ge c 1 with hc|hc
 ·have:c=0:=by omega
  subst this;simp at d3;omega
 have:c=1:=by omega
 subst this;omega
def Zoo(hx:Wn h N vx x)(hy:Wn h N vy y)(VH:y<=x)(uU:(aJ x).length<1099511627776)(PN:(aJ y).length<1099511627776):Fn A.C 202 [vx,vy] h N (fun v' h' N'=>Wn h' N' v' (x-y)):=by
 intro w;have lx:=hx.len;have ly:=hy.len;rw[bu]at lx ly;rw[aP,A.k202 (by simp)];simp(disch:=first|(simp;done)|omega|(simp only[bu,cr,bl];omega)|rfl) [A.b202,lx,ly];refine cB [(6,8),(14,38)] (fun e r st=>e=.exit 0/\Xco h N x y r st) (Xcn h N x y) (aJ x).length ?_ ?_ ?_
 ·refine⟨0,List.replicate (aJ x).length 0,0,by omega,⟨by omega,by simp,by simp,by simp,by simp,ab.refl.set (aN _) |>.up (by omega),by simp[J9],by simp,[],by simp,by simp,by simp[val],by decide,by simp[Dg]⟩⟩
 ·rintro m r ⟨H,n1,W⟩ hr hf ⟨k,o,c,rfl,hk,qo,h6,hn,hW,hK,hN,ho,d,hd⟩;simp only at hn hW hK hN;subst hn;rw[bG];by_cases aD:k<(aJ x).length
  ·obtain⟨i1,o1,c1,e1,w1,p1,p2,p3,p4⟩:=hx.at (gw (cj aD));have p3:=(hK.get _ p2).trans p3;obtain⟨d1,d2,d3,d4,d5⟩:=hd;have iw:=Yqa (x:=aJ x) (y:=aJ y) (cj aD) d1 d2 d3 d4 d5 (tR x) (tR y);by_cases sH:k<(aJ y).length
   ·obtain⟨i2,o2,c2,e2,w2,q1,q2,q3,q4⟩:=hy.at (gw (cj sH));have q3:=(hK.get _ q2).trans q3;have hz:dz (aJ y) k=(aJ y)[k]:=by simp[dz,cj sH]
    rw[hz]at iw;simp(disch:=first|(simp;done)|omega|(simp only[bu,cr,bl];omega)|rfl) [A.pr,hr,qo,h6,aD,sH,lx,ly,p1,p3,p4,q1,q3,q4,hN,rH,hf];exact⟨_,by omega,k+1,_,_,rfl,⟨by omega,by simp,by simp,rfl,by simp[hW],hK.set (aN _),by simp,by simp[ho],_,iw⟩⟩
   have hz:dz (aJ y) k=0:=by simp[dz,gl (xb.1 sH)]
   rw[hz]at iw;simp(disch:=first|(simp;done)|omega|(simp only[bu,cr,bl];omega)|rfl) [A.pr,hr,qo,h6,aD,sH,lx,ly,p1,p3,p4,hN,rH,hf];exact⟨_,by omega,k+1,_,_,rfl,⟨by omega,by simp,by simp,rfl,by simp[hW],hK.set (aN _),by simp,by simp[ho],_,iw⟩⟩
  have Sk:k=(aJ x).length:=by omega
  subst Sk;simp[A.pr,hr,qo,hf];exact⟨o,c,⟨by omega,by simp[qo],by simp[h6],rfl,by simp[hW],hK,hN,ho,d,hd⟩⟩
 rintro _ r ⟨H,n1,W⟩ hr ⟨rfl,o,c,hk,qo,h6,hn,hW,hK,hN,ho,d,d1,d2,d3,d4,d5⟩;simp only at hn hW hK hN;subst hn;simp[hr];refine au (Fv (l:=o) (Sl.row (e:=205) (rw:=true) (by omega) (by simp[hN]) (by simp[ho]) (by simp)) (by simp[ho];omega)) ?_;intro v' h' n' gW hs;simp[ay];refine⟨hW,hK.trans gW,?_⟩;rw[Yvn VH d1 d2 d3 d4 d5]at hs;exact hs
def A.QI:=A.q Tryz.f201
def A.mC:=A.ql A.QI 0 []
def A.b201:=(fun x0=>A.qb A.QI [x0]) A.mC
def A.k201:=@A.kk 201 41 [.tmp 4] A.b201 (by kernel_rfl) rfl
def xX(x y:Int):Int:=if x<y then -1 else if y<x then 1 else 0
def Yot(h:(aJ x).length<(aJ y).length):x<y:=by apply u_;intro hc;have:=HL hc;omega
def Vc{d:Nat}(h:l[k]?=some d):val b (l.drop k)=d+b*val b (l.drop (k+1)):=by
 have hk:k<l.length:=by apply u_;intro hc;rw[gl hc]at h;cases h
 rw[Je hk];rw[cj hk]at h;simp only[ar]at h;rw[h];rfl
def Zt2(b:Nat)(l:List Nat)(k:Nat)(hk:k<=l.length):val b l=val b (l.take k)+b^k*val b (l.drop k):=by have:=Um b (l.take k) (l.drop k);rw[Et,iV,rP hk]at this;exact this
def Yn3{x y:List Nat}(gx:Dg x)(hx:k<=x.length)(hy:k<=y.length)(h:val B (x.drop k)<val B (y.drop k)):val B x<val B y:=by
 rw[Zt2 B x k hx,Zt2 B y k hy];have h1:val B (x.take k)<B^k:=by have:=Hh (b:=B) (l:=x.take k) fun d hd=>gx d (AG hd);rwa [iV,rP hx]at this
 have h2:B^k*(val B (x.drop k)+1)<=B^k*val B (y.drop k):=mZ _ h;rw[vc]at h2;omega
structure Xa5 (h:T O) (N x y m:Nat) (r:T V) (st:St):Prop where
 hm:m<=(aJ x).length
 r5:r.get 5=some (.int .i64 ((m:Int)-1))
 n:st.n=N
 w:st.w=[]
 ad:ab h N st.h N
 top:(aJ x).drop m=(aJ y).drop m
def Ziw(hx:Wn h N vx x)(hy:Wn h N vy y)(uU:(aJ x).length<1099511627776)(PN:(aJ y).length<1099511627776):Fn A.C 201 [vx,vy] h N (fun v' h' N'=>v'=.int .i64 (xX x y)):=by
 intro w;have lx:=hx.len;have ly:=hy.len;rw[bu]at lx ly;rw[aP,A.k201 (by simp)];by_cases aX:(aJ x).length=(aJ y).length
 ·have zaI:((aJ x).length:Int)=((aJ y).length:Int):=by omega
  simp(disch:=omega) [A.b201,lx,ly,aX];refine cB [(4,5),(19,40)] (fun e r st=>(e=.exit 0/\Xa5 h N x y 0 r st)\/(e=.ret/\r.get 4=some (.int .i64 (xX x y))/\st.n=N/\st.w=[]/\ab h N st.h N)) (Xa5 h N x y) (aJ x).length ?_ ?_ ?_
  ·exact⟨by omega,by simp[aX],rfl,rfl,ab.refl,by rw[rE,aX,rE]⟩
  ·rintro m r ⟨H,n1,W⟩ hr hf ⟨hm,h5,hn,hW,hK,ht⟩;simp only at hn hW hK;subst hn;subst hW;rw[bG];cases m with
   |zero=> simp[A.mC,h5,hf];exact⟨by omega,by simp[h5],rfl,rfl,hK,ht⟩
   |succ m=>
    have dq:m<(aJ x).length:=by omega
    have hmy:m<(aJ y).length:=by omega
    have h5':r.get 5=some (.int .i64 (m:Int)):=by rw[h5];congr 2;omega
    have gx:=cj dq;have gy:=cj hmy;obtain⟨i1,o1,c1,e1,w1,p1,p2,p3,p4⟩:=hx.at (gw gx);have p3:=(hK.get _ p2).trans p3;obtain⟨i2,o2,c2,e2,w2,q1,q2,q3,q4⟩:=hy.at (gw gy);have q3:=(hK.get _ q2).trans q3;rcases Nat.lt_trichotomy (aJ x)[m] (aJ y)[m]with aD|heq|MP
    ·have fi:x<y:=by have:=Yn3 (x:=aJ x) (y:=aJ y) (k:=m) (tR x) (by omega) (by omega) (by rw[Vc gx,Vc gy,ht];omega);rwa [oM,oM]at this
     have np:¬(aJ x)[m]=(aJ y)[m]:=by omega
     simp(disch:=first|(simp;done)|omega|(simp only[bu,cr,bl];omega)|rfl) [A.mC,h5',hr,hf,lx,ly,p1,p2,p3,p4,q1,q2,q3,q4,bz,np,aD];exact⟨by simp[xX,fi],hK⟩
    ·have PG:(aJ x).drop m=(aJ y).drop m:=by rw[Je dq,Je hmy,ht,heq]
     simp(disch:=first|(simp;done)|omega|(simp only[bu,cr,bl];omega)|rfl) [A.mC,h5',hr,hf,lx,ly,p1,p2,p3,p4,q1,q2,q3,q4,bz,heq];exact⟨m,by omega,⟨by omega,by simp,rfl,rfl,hK,PG⟩⟩
    have fi:y<x:=by have:=Yn3 (x:=aJ y) (y:=aJ x) (k:=m) (tR y) (by omega) (by omega) (by rw[Vc gx,Vc gy,ht];omega);rwa [oM,oM]at this
    have np:¬(aJ x)[m]=(aJ y)[m]:=by omega
    have aD:¬(aJ x)[m]<(aJ y)[m]:=by omega
    have Cg:¬x<y:=by omega
    simp(disch:=first|(simp;done)|omega|(simp only[bu,cr,bl];omega)|rfl) [A.mC,h5',hr,hf,lx,ly,p1,p2,p3,p4,q1,q2,q3,q4,bz,np,aD];exact⟨by simp[xX,fi,Cg],hK⟩
  rintro e r ⟨H,n1,W⟩ hr (⟨rfl,hm,h5,hn,hW,hK,ht⟩|⟨rfl,h4,hn,hW,hK⟩)
  ·simp only at hn hW hK;subst hn;subst hW;simp only[Bx]at ht;have:x=y:=by rw[<-oM x,ht,oM]
   subst this;simp[ay];exact⟨hK,by simp[xX]⟩
  simp only at hn hW hK;subst hn;subst hW;simp[h4,ay];exact hK
 have zaI:¬((aJ x).length:Int)=((aJ y).length:Int):=by omega
 by_cases aD:(aJ x).length<(aJ y).length
 ·have:=Yot aD;simp[A.b201,lx,ly,aX,aD,ay];exact⟨ab.refl,by simp[xX,this]⟩
 have h1:=Yot (x:=y) (y:=x) (by omega);have h2:¬x<y:=by omega
 simp[A.b201,lx,ly,aX,aD,ay];exact⟨ab.refl,by simp[xX,h1,h2]⟩
def A.Kl:=A.q Tryz.f207
def A.tU:=A.ql A.Kl 1 []
def A.tV:=(fun x0=>A.ql A.Kl 0 [x0]) A.tU
def A.b207:=(fun x0=>A.qb A.Kl [x0]) A.tV
def A.k207:=@A.kk 207 80 [.tmp 4] A.b207 (by kernel_rfl) rfl
def QJ{b:Nat}:∀{l:List Nat} {k old v:Nat},l[k]?=some old->val b (l.set k v)+b^k*old=val b l+b^k*v
 |[],k,old,v,h=>by simp at h
 |d::l,0,old,v,h=>by simp at h;subst h;simp[val];omega
 |d::l,k+1,old,v,h=>by
  have ih:=QJ (b:=b) (l:=l) (k:=k) (old:=old) (v:=v) (by simpa using h)
  simp only[List.set_cons_succ,val,iD]
  generalize val b (l.set k v)=p at*
  generalize val b l=q at*
  generalize b^k=z at*
  have:b*(p+z*old)=b*(q+z*v):=by rw[ih]
  grind
def Dg.set{l:List Nat}(h:Dg l){k v:Nat}(hv:v<B):Dg (l.set k v):=by
 intro d hd;rcases CV hd with hd|hd
 ·exact h d hd
 subst hd;exact hv
def ik(x y o c:Nat):Nat:=bC (bC (bC (x*y)+o)+c)
def ku(x y o c:Nat):Nat:=cU (cU (cC (x*y)) (cC (bC (x*y)+o))) (cC (bC (bC (x*y)+o)+c))
def Yln{o c:Nat}(hx:x<B)(hy:y<B)(ho:o<B)(hc:c<B):ik x y o c+B*ku x y o c=x*y+o+c/\ik x y o c<B/\ku x y o c<B:=by have:x*y<=18446744073709551615*18446744073709551615:=oc (by unfold B at*;omega) (by unfold B at*;omega);unfold ik ku bC cC cU;unfold B at*;generalize x*y=p at*;omega
structure Xa4 (h:T O) (N x y i j:Nat) (o:List Nat) (c xi:Nat) (r:T V) (st:St):Prop where
 hj:j<=(aJ y).length
 r29:r.get 29=some (.int .i64 j)
 r8:r.get 8=some (.int .u64 c)
 n:st.n=N+1
 w:az N st.w=[]
 ad:ab h N st.h (N+1)
 row:st.h.get N=some (.cells (dg o) 205 true)
 len:o.length=(aJ x).length+(aJ y).length
 dg:Dg o
 zero:∀t,i+(aJ y).length<=t->t<o.length->o[t]?=some 0
 lc:c<B
 ex:val B o+B^(i+j)*c=val B ((aJ x).take i)*y+B^i*(xi*val B ((aJ y).take j))
def Xcp(h:T O)(N x y i xi m:Nat)(r:T V)(st:St):Prop:=∃j o c,m=(aJ y).length-j/\Xa4 h N x y i j o c xi r st
def Xcq(h:T O)(N x y i xi:Nat)(r:T V)(st:St):Prop:=∃o c,Xa4 h N x y i (aJ y).length o c xi r st
structure Yyc (h:T O) (N x y i:Nat) (o:List Nat) (r:T V) (st:St):Prop where
 hi:i<=(aJ x).length
 r22:r.get 22=some (.int .i64 i)
 n:st.n=N+1
 w:az N st.w=[]
 ad:ab h N st.h (N+1)
 row:st.h.get N=some (.cells (Go.Mx.dg o) 205 true)
 len:o.length=(aJ x).length+(aJ y).length
 dg:Dg o
 zero:∀t,i+(aJ y).length<=t->t<o.length->o[t]?=some 0
 ex:val B o=val B ((aJ x).take i)*y
def Xal(h:T O)(N x y m:Nat)(r:T V)(st:St):Prop:=∃i o,m=(aJ x).length-i/\Yyc h N x y i o r st
def Xam(h:T O)(N x y:Nat)(r:T V)(st:St):Prop:=∃o,Yyc h N x y (aJ x).length o r st
def Zxn(hx:Wn h N vx x)(hy:Wn h N vy y)(uU:(aJ x).length<1099511627776)(PN:(aJ y).length<1099511627776):Fn A.C 207 [vx,vy] h N (fun v' h' N'=>Wn h' N' v' (x*y)):=by
 intro w;have lx:=hx.len;have ly:=hy.len;rw[bu]at lx ly;rw[aP,A.k207 (by simp)];simp(disch:=first|(simp;done)|omega|(simp only[bu,cr,bl];omega)|rfl) [A.b207,lx,ly];refine cB [(6,13),(22,77)] (fun e r st=>e=.exit 0/\Xam h N x y r st) (Xal h N x y) (aJ x).length ?_ ?_ ?_
 ·refine⟨0,List.replicate ((aJ x).length+(aJ y).length) 0,by omega,⟨by omega,by simp,by simp,by simp,ab.refl.set (aN _) |>.up (by omega),?_,by simp,?_,?_,by simp[val,Zt1]⟩⟩
  ·simp[J9]
  ·intro d hd;rw[Jc]at hd;rw[hd.2];decide
  intro t _ ht;simp at ht;simp[ht]
 ·rintro m r ⟨H,n1,W⟩ hr hf ⟨i,o,rfl,hi,qo,hn,hW,hK,hN,ho,hd,hz,he⟩;simp only at hn hW hK hN;subst hn;rw[bG];by_cases aD:i<(aJ x).length
  ·obtain⟨i1,o1,c1,e1,w1,p1,p2,p3,p4⟩:=hx.at (gw (cj aD));have p3:=(hK.get _ p2).trans p3;have gx:=cj aD;generalize (aJ x)[i]=xi at*;simp[A.tV,hr,qo,aD,lx,ly,p1,p3,p4];refine cB [(8,13),(29,69)] (fun e r st=>e=.exit 2/\Xcq h N x y i xi r st) (Xcp h N x y i xi) (aJ y).length ?_ ?_ ?_
   ·exact⟨0,o,0,by omega,⟨by omega,by simp,by simp,rfl,hW,hK,hN,ho,hd,hz,by decide,by simp[val,he]⟩⟩
   ·rintro m r2 ⟨H2,n2,W2⟩ fL eI ⟨j,o2,c,rfl,hj,QK,h8,gE,g_,qm,xZ,Ab,eY,er,BB,wZ⟩;simp only at gE g_ qm xZ;subst gE;rw[bG];have hi:xi<B:=(tR x).get gx;by_cases fi:j<(aJ y).length
    ·obtain⟨i2,o3,c3,e3,w3,q1,q2,q3,q4⟩:=hy.at (gw (cj fi));have q3:=(qm.get _ q2).trans q3;have gy:=cj fi;generalize (aJ y)[j]=yj at*;have hyj:yj<B:=(tR y).get gy;have go:=cj (l:=o2) (i:=i+j) (by omega);generalize o2[i+j]'(by omega)=ov at*;simp[A.tU,fL,QK,fi,ly,q1,q3,q4];refine au (PC hi hyj) ?_;rintro _ _ _ EW ⟨rfl,rfl,rfl⟩;simp(disch:=first|(simp;done)|omega|(simp only[bu,cr,bl];omega)|rfl) [-getElem?_pos,hr,fL,QK,h8,fi,lx,ly,q1,q3,q4,eI,xZ,gw go,rH];obtain⟨m1,m2,m3⟩:=Yln hi hyj (eY.get go) BB;refine⟨_,by omega,j+1,o2.set (i+j) (ik xi yj ov c),ku xi yj ov c,rfl,⟨by omega,by simp,?_,rfl,by simp[g_],qm.set (aN _),?_,by simp[Ab],eY.set m2,?_,m3,?_⟩⟩
     ·simp[ku]
     ·simp[ik]
     ·intro t t1 t2;rw[fk (by omega)];exact er t t1 (by simpa using t2)
     have v1:=QJ (b:=B) (v:=ik xi yj ov c) go;rw[Hi gy];have e1:B^(i+(j+1))=B^(i+j)*B:=by rw[show i+(j+1)=(i+j)+1 by omega,iD]
     have e2:B^i*(xi*(B^j*yj))=B^(i+j)*(xi*yj):=by rw[mT];grind
     have e3:B^(i+j)*(ik xi yj ov c+B*ku xi yj ov c)=B^(i+j)*(xi*yj+ov+c):=by rw[m1]
     rw[e1];generalize val B (List.set o2 (i+j) (ik xi yj ov c))=z1 at*;generalize val B o2=z2 at*;generalize ik xi yj ov c=z3 at*;generalize ku xi yj ov c=z4 at*;generalize val B (List.take j (aJ y))=z5 at*;generalize B^(i+j)=z6 at*;grind
    have:j=(aJ y).length:=by omega
    subst this;simp[A.tU,fL,QK,eI];exact⟨o2,c,⟨by omega,by simp[QK],by simp[h8],rfl,g_,qm,xZ,Ab,eY,er,BB,wZ⟩⟩
   rintro e r2 ⟨H2,n2,W2⟩ fL ⟨rfl,o2,c,hj,QK,h8,gE,g_,qm,xZ,Ab,eY,er,BB,wZ⟩;simp only at gE g_ qm xZ;subst gE;have eI:=hf.inner (D':=[(8,13),(29,69)]) rfl (by simp) fL;simp(disch:=first|(simp;done)|omega|(simp only[bu,cr,bl];omega)|rfl) [hr,fL,qo,h8,ly,xZ,rH,eI];have uQ:o2[i+(aJ y).length]?=some 0:=er _ (aN _) (by omega);refine⟨_,by omega,i+1,o2.set (i+(aJ y).length) c,rfl,⟨by omega,by simp,rfl,by simp[g_],qm.set (aN _),by simp,by simp[Ab],eY.set BB,?_,?_⟩⟩
   ·intro t t1 t2;rw[fk (by omega)];exact er t (by omega) (by simpa using t2)
   have v1:=QJ (b:=B) (v:=c) uQ;rw[gm (aN _),oM]at wZ;rw[Hi gx];simp only[Nat.mul_zero,iX]at v1;rw[v1,wZ];grind
  have:i=(aJ x).length:=by omega
  subst this;simp[A.tV,hr,qo,hf];exact⟨o,⟨by omega,by simp[qo],rfl,hW,hK,hN,ho,hd,hz,he⟩⟩
 rintro _ r ⟨H,n1,W⟩ hr ⟨rfl,o,hi,qo,hn,hW,hK,hN,ho,hd,hz,he⟩;simp only at hn hW hK hN;subst hn;simp[hr];refine au (Fv (l:=o) (Sl.row (e:=205) (rw:=true) (by omega) (by simp[hN]) (by simp[ho]) (by simp)) (by simp[ho];omega)) ?_;intro v' h' n' gW hs;simp[ay];refine⟨hW,hK.trans gW,?_⟩;rw[gm (aN _),oM]at he;rw[Ft hd,he]at hs;exact hs
end
end Go.Mx
