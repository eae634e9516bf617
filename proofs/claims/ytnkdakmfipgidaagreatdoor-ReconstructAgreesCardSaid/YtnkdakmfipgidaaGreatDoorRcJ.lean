/-lensletref01-/
import Derived.Test.YtnkdakmfipgidaaGreatDoorRcE
set_option linter.all false
set_option maxHeartbeats 2000000
namespace Go.Mx
noncomputable section
open Go Go.Proofs
set_option maxRecDepth 1000000
def A.b54:=A.q Tryz.f54
def A.k54:=@A.kk 54 54 [.tmp 2,.tmp 3,.tmp 4] A.b54 (by kernel_rfl) rfl
def QB(q:Rat):aD:=if q.den=1 then an q.num.natAbs else an q.num.natAbs++47::an q.den
def Ka(q:Rat):aP q=if q.num<0 then 45::QB q else QB q:=by unfold aP QB aK;by_cases h1:q.den=1<;>by_cases h2:q.num<0<;>simp[h1,h2]
def Ynn(q:Rat):ah (QB q)=(an q.num.natAbs).length:=by
 unfold QB;split
 ·exact Up (Ms (zM _))
 exact Uo (Ms (zM _))
def Yt3(q:Rat):(QB q).take (an q.num.natAbs).length=an q.num.natAbs:=by
 unfold QB;split
 ·exact gp (aO _)
 exact List.take_left
def Yt4{q:Rat}(h:q.den≠1):(QB q).drop ((an q.num.natAbs).length+1)=an q.den:=by unfold QB;rw[ak h,<-List.drop_drop,List.drop_left];rfl
def Yo5(q:Rat):(QB q).length=(an q.num.natAbs).length+(if q.den=1 then 0 else (an q.den).length+1):=by unfold QB;split<;>simp
def Zyg(q:Rat):∃c t,QB q=c::t/\48<=c.toNat:=by
 obtain⟨c,t,h,h1,_⟩:=Zrh (n:=q.num.natAbs);unfold QB;split
 ·exact⟨c,t,h,h1⟩
 exact⟨c,t++47::an q.den,by rw[h];rfl,h1⟩
def Yfj{q:Rat}{st:St}(hl:(aP q).length<=20):A.C.call (.func 54 [] []) [.str (aP q)] st=some (if q.num.natAbs<1000000000/\q.den<1000000000 then .aV [.int .i64 q.num,.int .i64 q.den,.bool true] else .aV [.int .i64 0,.int .i64 0,.bool false],st):=by
 obtain⟨c,t,hB,hc⟩:=Zyg q;have hs:=Ynn q;have ht:=Yt3 q;have Hw:=Yo5 q;have h9:=RC (n:=q.num.natAbs);have h9d:=RC (n:=q.den);have hn:=fun h st=>Yoa (n:=q.num.natAbs) h st;have hd:=fun h st=>Yoa (n:=q.den) h st;have yX:=Yt4 (q:=q);have FH:¬cW c=45:=by unfold cW;omega
 have nk:=Ka q;have hBl:(QB q).length<=20:=by
  rw[nk]at hl;split at hl
  ·simp only[bk]at hl;omega
  exact hl
 have ct:=fun st=>Hq (s:=QB q) (st:=st) (by omega);rw[hs]at ct;have im:(QB q)[0]?=some c:=by rw[hB];rfl
 have hh:(QB q).head?=some c:=by rw[hB];rfl
 have aW:QB q≠[]:=by rw[hB];simp
 have nH:0<(QB q).length:=by rw[hB];simp
 have zbW:(0:Int)<((QB q).length:Int):=by omega
 have FI:¬(20:Int)<((QB q).length:Int):=by omega
 have tW:(an q.num.natAbs).length<=(QB q).length:=by omega
 have zbX:((an q.num.natAbs).length:Int)<=((QB q).length:Int):=by omega
 have k0:0<=(an q.num.natAbs).length:=wh _;have w1:bo .i64 (((QB q).length:Int)-((an q.num.natAbs).length:Int))=((QB q).length:Int)-((an q.num.natAbs).length:Int):=cP (by omega) (by omega);have w2:bo .i64 (((an q.num.natAbs).length:Int)+1)=((an q.num.natAbs).length:Int)+1:=cP (by omega) (by omega);have a3:∀st:St,vg st (some (.str (45::QB q))) (some (some (.int .i64 1))) (some none)=some (.str (QB q),st):=fun st=>by rw[JZ (by omega) (by simp only[bk];omega)];rfl
 have a4:∀st:St,vg st (some (.str (QB q))) (some none) (some (some (.int .i64 (an q.num.natAbs).length)))=some (.str (an q.num.natAbs),st):=fun st=>by rw[Zmk (by omega) (by omega),Int.toNat_natCast,ht]
 apply Call.eq;rw[aN,A.k54 (by simp),nk];by_cases e9:q.num.natAbs<1000000000
 ·have g9:¬(9:Int)<((an q.num.natAbs).length:Int):=by have:=h9.2 e9;omega
  have hn:=hn e9;by_cases e1:q.den=1
  ·rw[ar e1]at Hw;have HH:¬(10:Int)<((QB q).length:Int)-((an q.num.natAbs).length:Int):=by omega
   have RD:¬((an q.num.natAbs).length:Int)<((QB q).length:Int):=by omega
   have g12:¬(an q.num.natAbs).length<(QB q).length:=by omega
   rw[e1];by_cases hz:q.num<0
   ·have ez:(q.num.natAbs:Int)= -q.num:=by omega
    have w3:bo .i64 (0-(q.num.natAbs:Int))=q.num:=by rw[ez];rw[cP (by omega) (by omega)];omega
    have a5:cW 45=45:=rfl;have eW:(QB q).length+1<=20:=by rw[nk,ar hz]at hl;simpa using hl
    have Fy:¬(20:Int)<((QB q).length:Int)+1:=by omega
    have Ax:(0:Int)<((QB q).length:Int)+1:=by omega
    simp(disch:=first|(simp;done)|omega|rfl) [-getElem?_pos,A.b54,hz,Fy,Ax,a3,a5,ct,aB,g9,HH,RD,w1,a4,hn,e9];omega
   have ez:(q.num.natAbs:Int)=q.num:=by omega
   simp(disch:=first|(simp;done)|omega|rfl) [-getElem?_pos,A.b54,hz,im,nH,FI,FH,ct,aB,g9,HH,RD,w1,a4,hn,ez,e9]
  rw[ak e1]at Hw;have yX:=yX e1;have RD:((an q.num.natAbs).length:Int)<((QB q).length:Int):=by omega
  have g12:(an q.num.natAbs).length<(QB q).length:=by omega
  have a6:∀st:St,vg st (some (.str (QB q))) (some (some (.int .i64 (((an q.num.natAbs).length:Int)+1)))) (some none)=some (.str (an q.den),st):=fun st=>by
   rw[JZ (by omega) (by omega)];have:(((an q.num.natAbs).length:Int)+1).toNat=(an q.num.natAbs).length+1:=by omega
   rw[this,yX]
  by_cases e10:q.den<1000000000
  ·have HH:¬(10:Int)<((QB q).length:Int)-((an q.num.natAbs).length:Int):=by have:=h9d.2 e10;omega
   have hd:=hd e10;by_cases hz:q.num<0
   ·have ez:(q.num.natAbs:Int)= -q.num:=by omega
    have w3:bo .i64 (0-(q.num.natAbs:Int))=q.num:=by rw[ez];rw[cP (by omega) (by omega)];omega
    have a5:cW 45=45:=rfl;have eW:(QB q).length+1<=20:=by rw[nk,ar hz]at hl;simpa using hl
    have Fy:¬(20:Int)<((QB q).length:Int)+1:=by omega
    have Ax:(0:Int)<((QB q).length:Int)+1:=by omega
    simp(disch:=first|(simp;done)|omega|rfl) [-getElem?_pos,A.b54,hz,Fy,Ax,a3,a5,a6,ct,aB,g9,HH,RD,w1,w2,a4,hn,hd,e9,e10];omega
   have ez:(q.num.natAbs:Int)=q.num:=by omega
   simp(disch:=first|(simp;done)|omega|rfl) [-getElem?_pos,A.b54,hz,im,nH,FI,FH,a6,ct,aB,g9,HH,RD,w1,w2,a4,hn,hd,ez,e9,e10]
  have HH:(10:Int)<((QB q).length:Int)-((an q.num.natAbs).length:Int):=by have:¬(an q.den).length<=9:=fun hc=>e10 (h9d.1 hc);omega
  by_cases hz:q.num<0
  ·have a5:cW 45=45:=rfl;have eW:(QB q).length+1<=20:=by rw[nk,ar hz]at hl;simpa using hl
   have Fy:¬(20:Int)<((QB q).length:Int)+1:=by omega
   have Ax:(0:Int)<((QB q).length:Int)+1:=by omega
   simp(disch:=first|(simp;done)|omega|rfl) [-getElem?_pos,A.b54,hz,Fy,Ax,a3,a5,ct,aB,g9,HH,w1,e9,e10]
  simp(disch:=first|(simp;done)|omega|rfl) [-getElem?_pos,A.b54,hz,im,nH,FI,FH,ct,g9,HH,w1,e9,e10]
 have g9:(9:Int)<((an q.num.natAbs).length:Int):=by have:¬(an q.num.natAbs).length<=9:=fun hc=>e9 (h9.1 hc);omega
 by_cases hz:q.num<0
 ·have a5:cW 45=45:=rfl;have eW:(QB q).length+1<=20:=by rw[nk,ar hz]at hl;simpa using hl
  have Fy:¬(20:Int)<((QB q).length:Int)+1:=by omega
  have Ax:(0:Int)<((QB q).length:Int)+1:=by omega
  simp(disch:=first|(simp;done)|omega|rfl) [-getElem?_pos,A.b54,hz,Fy,Ax,a3,a5,ct,aB,g9,e9]
 simp(disch:=first|(simp;done)|omega|rfl) [-getElem?_pos,A.b54,hz,im,nH,FI,FH,ct,g9,e9]
def Ybi{q:Rat}{st:St}(h1:20<(aP q).length):A.C.call (.func 54 [] []) [.str (aP q)] st=some (.aV [.int .i64 0,.int .i64 0,.bool false],st):=by
 have h2:(20:Int)<((aP q).length:Int):=by omega
 apply Call.eq;rw[aN,A.k54 (by simp)];simp[A.b54,h2]
def Yhi{q:Rat}(h:q.num.natAbs<1000000000/\q.den<1000000000):(aP q).length<=20:=by
 have h1:=RC.2 h.1;have h2:=RC.2 h.2;have h3:=Yo5 q;rw[Ka];split
 ·simp only[bk];split at h3<;>omega
 split at h3<;>omega
def Zy2{q:Rat}{st:St}:A.C.call (.func 54 [] []) [.str (aP q)] st=some (if q.num.natAbs<1000000000/\q.den<1000000000 then .aV [.int .i64 q.num,.int .i64 q.den,.bool true] else .aV [.int .i64 0,.int .i64 0,.bool false],st):=by
 by_cases h:(aP q).length<=20
 ·exact Yfj h
 rw[ak fun hc=>h (Yhi hc)];exact Ybi (by omega)
def Zro(a b:Rat):a+b=Rat.divInt (a.num*(b.den:Int)+b.num*(a.den:Int)) ((a.den:Int)*(b.den:Int)):=by rw[Rat.add_def,Rat.normalize_eq_mkRat,<-Rat.divInt_ofNat];simp
def Zxp{a b:Nat}(h1:a<1000000000)(h2:b<1000000000):a*b<=1000000000000000000:=by have:=nC (Nat.le_of_lt h1) (Nat.le_of_lt h2);omega
def Zy1(q:Rat):∃(n d:Int) (o:Bool),(∀st,A.C.call (.func 54 [] []) [.str (aP q)] st=some (.aV [.int .i64 n,.int .i64 d,.bool o],st))/\(o=true->n=q.num/\d=(q.den:Int)/\q.num.natAbs<1000000000/\q.den<1000000000):=by
 by_cases f:q.num.natAbs<1000000000/\q.den<1000000000
 ·exact⟨q.num,q.den,true,fun st=>by rw[Zy2,ar f],fun _=>⟨rfl,rfl,f⟩⟩
 exact⟨0,0,false,fun st=>by rw[Zy2,ak f],fun h=>by cases h⟩
def Rg.FJ{h:T O}{N:Nat}{v:V}{z:Int}(s:Rg h N v z):∃u,v=.agg [.bool (decide (z<0)),u]/\V.one u=true/\V.cells u=[u]/\Jr u:=by obtain⟨u,rfl,hu⟩:=s;exact⟨u,rfl,(Sl.form hu).one,(Sl.form hu).cells,Sl.form hu⟩
def Zhx{a b:Int}{j k:Nat}(h1:a.natAbs<2^j)(h2:b.natAbs<2^k):(a*b).natAbs<2^(j+k):=by rw[ye,mr];exact CK h1 h2
def Zsh{a b:Int}{j:Nat}(h1:a.natAbs<2^j)(h2:b.natAbs<2^j):(a+b).natAbs<2^(j+1):=by have:=Int.natAbs_add_le a b;rw[ix];omega
def A.b15:=A.q Tryz.f15
def A.k15:=@A.kk 15 63 [.tmp 4] A.b15 (by kernel_rfl) rfl
def Ytx{a b:Rat}{j k:Nat}{h:T O}{N:Nat}(ha:Qb j a)(hb:Qb k b)(hj:j<=400000000)(hk:k<=400000000):Fn A.C 15 [.str (aP a),.str (aP b)] h N (fun u _ _=>u=.str (aP (a+b))):=by
 intro w;obtain⟨n1,d1,o1,vi,f1⟩:=Zy1 a;obtain⟨n2,d2,o2,nL,f2⟩:=Zy1 b;have pa:=Rat.den_pos a;have pb:=Rat.den_pos b;rw[aN,A.k15 (by simp)];have key:(o1=true/\o2=true)\/(o1=false\/(o1=true/\o2=false)):=by cases o1<;>cases o2<;>simp
 rcases key with⟨rfl,rfl⟩|key
 ·obtain⟨rfl,rfl,g1⟩:=f1 rfl;obtain⟨rfl,rfl,g2⟩:=f2 rfl;have m1:(a.num*(b.den:Int)).natAbs<=1000000000000000000:=by rw[ye,eh];exact Zxp g1.1 g2.2
  have m4:(b.num*(a.den:Int)).natAbs<=1000000000000000000:=by rw[ye,eh];exact Zxp g2.1 g1.2
  have m2:a.den*b.den<=1000000000000000000:=Zxp g1.2 g2.2;have m3:0<a.den*b.den:=z_ pa pb;have e2:(a.den:Int)*(b.den:Int)=((a.den*b.den:Nat):Int):=by simp
  have w1:bo .i64 (a.num*(b.den:Int))=a.num*(b.den:Int):=cP (by omega) (by omega);have w3:bo .i64 (b.num*(a.den:Int))=b.num*(a.den:Int):=cP (by omega) (by omega);have w2:bo .i64 ((a.den:Int)*(b.den:Int))=(a.den:Int)*(b.den:Int):=by rw[e2];exact cP (by omega) (by omega)
  have w4:bo .i64 (a.num*(b.den:Int)+b.num*(a.den:Int))=a.num*(b.den:Int)+b.num*(a.den:Int):=cP (by omega) (by omega);have ho:=fun st=>Yx0 (p:=a.num*(b.den:Int)+b.num*(a.den:Int)) (q:=(a.den:Int)*(b.den:Int)) (st:=st) (by omega) (by omega) (by omega) (by omega) (by omega);rw[<-Zro]at ho;simp[A.b15,vi,nL,w1,w2,w3,w4,ho,ax];exact ab.refl
 have la:=Zx0 ha.1;have Vi:=Ur ha.2;have lb:=Zx0 hb.1;have lb2:=Ur hb.2;have z1:=D9 ha.1;have z2:=D9 hb.1;have z3:=D9 ha.2;have z4:=D9 hb.2;rcases key with rfl|⟨rfl,rfl⟩
 all_goals simp[A.b15,vi,nL]
 all_goals
  refine av (Zt4 (q:=a) (by omega) (by omega)) ?_
  rintro _ h1 t1 k1 ⟨x1,y1,rfl,X1,Y1⟩
  obtain⟨u1,rfl,p1,p2,F1⟩:=X1.FJ
  obtain⟨v1,rfl,p3,p4,G1⟩:=Y1.FJ
  unfold V.one at p1 p3
  unfold V.cells at p2 p4
  have KA:=((((ab.refl (h:=h1) (n:=t1)).new (.cells [.bool false,.aa] 93 true)).new (.cells [.bool false,.aa] 93 true)).set (i:=t1) (o:=.cells [.bool (decide (a.num<0)),u1] 93 true) (aO _)).set (i:=t1+1) (o:=.cells [.bool (decide ((a.den:Int)<0)),v1] 93 true) (by omega)
  have c0:¬t1+1=t1:=by omega
  have c00:¬t1=t1+1:=by omega
  simp[p1,p3,bO,ag]
  generalize hHA:(((h1.set t1 (.cells [.bool false,.aa] 93 true)).set (t1+1) (.cells [.bool false,.aa] 93 true)).set t1 (.cells [.bool (decide (a.num<0)),u1] 93 true)).set (t1+1) (.cells [.bool (decide ((a.den:Int)<0)),v1] 93 true)=HA at*
  have gA1:HA.get t1=some (.cells [.bool (decide (a.num<0)),u1] 93 true):=by rw[<-hHA];simp
  have gA2:HA.get (t1+1)=some (.cells [.bool (decide ((a.den:Int)<0)),v1] 93 true):=by rw[<-hHA];simp
  have X1:=X1.ad KA
  have Y1:=Y1.ad KA
  clear hHA
  refine av (Zt4 (q:=b) (by omega) (by omega)) ?_
  rintro _ h2 t2 k2 ⟨x2,y2,rfl,X2,Y2⟩
  obtain⟨u2,rfl,p5,p6,F2⟩:=X2.FJ
  obtain⟨v2,rfl,p7,p8,G2⟩:=Y2.FJ
  unfold V.one at p5 p7
  unfold V.cells at p6 p8
  have KB:=((((ab.refl (h:=h2) (n:=t2)).new (.cells [.bool false,.aa] 93 true)).new (.cells [.bool false,.aa] 93 true)).set (i:=t2) (o:=.cells [.bool (decide (b.num<0)),u2] 93 true) (aO _)).set (i:=t2+1) (o:=.cells [.bool (decide ((b.den:Int)<0)),v2] 93 true) (by omega)
  have c1:¬t2+1=t2:=by omega
  have c11:¬t2=t2+1:=by omega
  have i2:=k2.le
  generalize hHB:(((h2.set t2 (.cells [.bool false,.aa] 93 true)).set (t2+1) (.cells [.bool false,.aa] 93 true)).set t2 (.cells [.bool (decide (b.num<0)),u2] 93 true)).set (t2+1) (.cells [.bool (decide ((b.den:Int)<0)),v2] 93 true)=HB at*
  have F6:HB.get t2=some (.cells [.bool (decide (b.num<0)),u2] 93 true):=by rw[<-hHB];simp
  have ND:HB.get (t2+1)=some (.cells [.bool (decide ((b.den:Int)<0)),v2] 93 true):=by rw[<-hHB];simp
  have AR:=(KB.get t1 (by omega)).trans ((k2.get t1 (by omega)).trans gA1)
  have SJ:=(KB.get (t1+1) (by omega)).trans ((k2.get (t1+1) (by omega)).trans gA2)
  have X1:=(X1.ad k2).ad KB
  have Y1:=(Y1.ad k2).ad KB
  have X2:=X2.ad KB
  have Y2:=Y2.ad KB
  have K2:ab h N HB (t2+1+1):=((k1.trans KA).trans k2).trans KB
  have j1:t1<t2+1+1:=by omega
  have j2:t1+1<t2+1+1:=by omega
  have j3:t2<t2+1+1:=by omega
  simp[p5,p7,bO,ag,hHB,ND,AR,aQ,aL]
  refine av (Zrw X1 Y2 (by omega) (by rw[eh];omega)) ?_
  rintro _ h3 t3 k3 X3
  have i3:=k3.le
  have YR:=(k3.get t2 (by omega)).trans F6
  have gC2:=(k3.get (t2+1) (by omega)).trans ND
  have gC4:=(k3.get (t1+1) (by omega)).trans SJ
  simp[YR,gC4,aQ,aL]
  refine av (Zrw (X2.ad k3) (Y1.ad k3) (by omega) (by rw[eh];omega)) ?_
  rintro _ h4 t4 k4 X4
  have i4:=k4.le
  have b1:=Zhx (b:=(b.den:Int)) (k:=k) ha.1 (by rw[eh];exact hb.2)
  have b2:=Zhx (b:=(a.den:Int)) (k:=j) hb.1 (by rw[eh];exact ha.2)
  rw[Nat.add_comm k j]at b2
  have m1:=D9 b1
  have m2:=D9 b2
  have m3:=D9 (Zsh b1 b2)
  have m4:=D9 (Zhx (a:=(a.den:Int)) (b:=(b.den:Int)) (j:=j) (k:=k) (by rw[eh];exact ha.2) (by rw[eh];exact hb.2))
  simp[]
  refine av (Yqo (X3.ad k4) X4 (by omega) (by omega)) ?_
  rintro _ h5 t5 k5 X5
  have i5:=k5.le
  have gD2:=(k5.get (t2+1) (by omega)).trans ((k4.get (t2+1) (by omega)).trans gC2)
  have SI:=(k5.get (t1+1) (by omega)).trans ((k4.get (t1+1) (by omega)).trans gC4)
  simp[gD2,SI,aQ,aL]
  refine av (Zrw (((Y1.ad k3).ad k4).ad k5) (((Y2.ad k3).ad k4).ad k5) (by rw[eh];omega) (by rw[eh];omega)) ?_
  rintro _ h6 t6 k6 X6
  simp[]
  refine av (Zxn (X5.ad k6) X6 (Int.mul_ne_zero (by omega) (by omega)) (by omega) (by omega)) ?_
  rintro _ h7 t7 k7 rfl
  have j4:t2+1<t3:=by omega
  have j5:t1+1<t3:=by omega
  have j6:t2<t3:=by omega
  have j7:t2+1<t5:=by omega
  have j8:t1+1<t5:=by omega
  rw[<-Zro]
  have i1:=k1.le
  simp[-ay,cQ.cU,j1,j5,j6,j7,j8,ax]
  exact⟨Ng (by simp;omega),((((K2.trans k3).trans k4).trans k5).trans k6).trans k7⟩
def A.b205:=A.q Tryz.f205
def A.k205:=@A.kk 205 51 [.tmp 4,.tmp 5] A.b205 (by kernel_rfl) rfl
def Yvf{x y:Nat}(hx:x<18446744073709551616)(hy:y<18446744073709551616):cN (cN (dc (au x 32) (au y 32)) (au (cN (dc (au x 32) (fj y)) (au (dc (fj x) (fj y)) 32)) 32)) (au (cN (fj (cN (dc (au x 32) (fj y)) (au (dc (fj x) (fj y)) 32))) (dc (fj x) (au y 32))) 32)=cy (x*y):=by
 simp only[cN,dc,au,fj,cy,Nat.reducePow];have ex:x=x/4294967296*4294967296+x%4294967296:=by omega
 have ey:y=y/4294967296*4294967296+y%4294967296:=by omega
 have fK:x%4294967296<4294967296:=mO _ (by decide);have tO:y%4294967296<4294967296:=mO _ (by decide);have wD:x/4294967296<4294967296:=by omega
 have uf:y/4294967296<4294967296:=by omega
 generalize x/4294967296=x1 at*;generalize x%4294967296=x0 at*;generalize y/4294967296=y1 at*;generalize y%4294967296=y0 at*;have a1:x0*y0<=4294967295*4294967295:=nC (by omega) (by omega);have a2:x1*y0<=4294967295*4294967295:=nC (by omega) (by omega);have a3:x0*y1<=4294967295*4294967295:=nC (by omega) (by omega);have a4:x1*y1<=4294967295*4294967295:=nC (by omega) (by omega);have e:x*y=x1*y1*18446744073709551616+(x1*y0+x0*y1)*4294967296+x0*y0:=by subst ex;subst ey;grind
 rw[e];generalize x0*y0=p at*;generalize x1*y0=q at*;generalize x0*y1=u at*;generalize x1*y1=z at*;omega
def OT{h:T O}{N:Nat}{x y:Nat}(hx:x<18446744073709551616)(hy:y<18446744073709551616):Fn A.C 205 [.int .u64 x,.int .u64 y] h N (fun v' h' N'=>h'=h/\N'=N/\v'=.aV [.int .u64 (cy (x*y):Nat),.int .u64 (bA (x*y):Nat)]):=by intro w;rw[aN,A.k205 (by simp)];simp(disch:=first|(simp;done)|omega|(simp only[bq,b_,bk];omega)|rfl) [A.b205];rw[Yvf hx hy];exact⟨rfl,ab.refl,rfl,rfl,rfl⟩
def A.RE:=A.q Tryz.f227
def A.oZ:=A.ql A.RE 0 []
def A.b227:=(fun x0=>A.qb A.RE [x0]) A.oZ
def A.k227:=@A.kk 227 21 [.tmp 2] A.b227 (by kernel_rfl) rfl
def Fp{h:T O}{N:Nat}{v:V}{l:List Nat}(hs:Sl h N v (dg l))(hl:l.length<1152921504606846976):Fn A.C 227 [v] h N (fun v' h' N'=>Sl h' N' v' (dg (uk l))):=by
 intro w;have hlen:=hs.len;rw[bq]at hlen;rw[aN,A.k227 (by simp)];simp[A.b227,hlen];refine cm [(3,3),(6,17)] (fun e r st=>e=.exit 0/\st=⟨h,N,[]⟩/\∃k,k<=l.length/\r.get 3=some (.int .i64 k)/\uk l=l.take k) (fun k r st=>st=⟨h,N,[]⟩/\k<=l.length/\r.get 3=some (.int .i64 k)/\uk (l.take k)=uk l) l.length ?_ ?_ ?_
 ·exact⟨rfl,aO _,by simp,by simp⟩
 ·rintro k r _ hr hf ⟨rfl,hk,h3,ht⟩;rw[bu];cases k with
  |zero=> have:uk l=[]:=ht.symm;simp[A.oZ,h3,hf,this];exact⟨0,by omega,rfl,.inl rfl⟩
  |succ k=>
   obtain⟨d,hd⟩:∃d,l[k]?=some d:=⟨_,bV (by omega)⟩;obtain⟨i,o,c,e,rw,q1,q2,q3,q4⟩:=hs.at (f_ hd);have e1:l.take (k+1)=l.take k++[d]:=by rw[DQ,hd];rfl
   have k1:(0:Int)<(k:Int)+1:=by omega
   have k2:(k:Int)<(l.length:Int):=by omega
   by_cases h0:d=0
   ·subst h0;rw[e1,Zqp]at ht;simp(disch:=first|(simp;done)|omega|(simp only[bq,b_,bk];omega)|rfl) [A.oZ,h3,hr,hf,k1,k2,hlen,q1,q3,q4,bh];exact⟨k,by omega,by omega,rfl,ht⟩
   rw[e1,Zqq h0]at ht;have hz:((d:Int)==0)=false:=by simp;omega
   simp(disch:=first|(simp;done)|omega|(simp only[bq,b_,bk];omega)|rfl) [A.oZ,h3,hr,hf,k1,k2,hlen,q1,q3,q4,bh,hz];exact⟨k+1,hk,rfl,by rw[e1];exact ht.symm⟩
 rintro _ r _ hr ⟨rfl,rfl,k,hk,h3,ht⟩;simp[hr,h3,FZ,aB];obtain⟨v',e1,e2⟩:=MD (w:=[]) hs (lo:=0) (hi:=k) (wh _) (by rw[bq];exact hk) none (some (.int .i64 k)) (.inr ⟨rfl,rfl⟩) (.inl rfl);rw[e1];simp[ax];refine⟨ab.refl,?_⟩;rw[ht,show dg (l.take k)=(dg l).take k by simp[dg]];exact e2
def A.RF:=A.q Tryz.f201
def A.gY:=A.ql A.RF 0 []
def A.b201:=(fun x0=>A.qb A.RF [x0]) A.gY
def A.k201:=@A.kk 201 54 [.tmp 4] A.b201 (by kernel_rfl) rfl
structure Yzv (h:T O) (N x y k:Nat) (o:List Nat) (c:Nat) (r:T V) (st:St):Prop where
 hk:k<=(aH x).length
 r22:r.get 22=some (.int .i64 k)
 r6:r.get 6=some (.int .u64 c)
 n:st.n=N+1
 w:ay N st.w=[]
 ad:ab h N st.h (N+1)
 row:st.h.get N=some (.cells (dg o) 205 true)
 len:o.length=(aH x).length+1
 ex:∃d,d.length=k/\o=d++List.replicate ((aH x).length+1-k) 0/\val B d+B^k*c=val B ((aH x).take k)+val B ((aH y).take k)/\c<=1/\Dg d
def Yzw(h:T O)(N x y m:Nat)(r:T V)(st:St):Prop:=∃k o c,m=(aH x).length-k/\Yzv h N x y k o c r st
def Yzx(h:T O)(N x y:Nat)(r:T V)(st:St):Prop:=∃o c,Yzv h N x y (aH x).length o c r st
def Yi2{x y o d:List Nat}{k c xk:Nat}(hx:x[k]?=some xk)(d1:d.length=k)(d2:o=d++List.replicate (x.length+1-k) 0)(d3:val B d+B^k*c=val B (x.take k)+val B (y.take k))(d4:c<=1)(d5:Dg d)(gx:Dg x)(gy:Dg y):
  (d++[bA (xk+dz y k+c)]).length=k+1/\o.set k (bA (xk+dz y k+c))=(d++[bA (xk+dz y k+c)])++List.replicate (x.length+1-(k+1)) 0/\val B (d++[bA (xk+dz y k+c)])+B^(k+1)*cy (xk+dz y k+c)=val B (x.take (k+1))+val B (y.take (k+1))/\cy (xk+dz y k+c)<=1/\Dg (d++[bA (xk+dz y k+c)]):=by
 have hk:k<x.length:=by apply uH;intro hc;rw[fW hc]at hx;cases hx
 have hxk:=gx.get hx;have hyk:=Ywi gy k;have hm:=vM (xk+dz y k+c) B;refine⟨by simp[d1],?_,?_,?_,?_⟩
 ·rw[d2,show x.length+1-k=(x.length-k)+1 by omega,Zr5 d1,show x.length+1-(k+1)=x.length-k by omega]
 ·rw[UH,Fl,Fl,d1,show dz x k=xk by simp[dz,hx]];have e1:bA (xk+dz y k+c)=(xk+dz y k+c)%B:=rfl;have e2:cy (xk+dz y k+c)=(xk+dz y k+c)/B:=rfl;rw[e1,e2,ix];generalize (xk+dz y k+c)%B=lo at*;generalize (xk+dz y k+c)/B=hi at*;generalize B^k=p at*;have:p*(B*hi+lo)=p*(xk+dz y k+c):=by rw[hm]
  grind
 ·show (xk+dz y k+c)/B<=1;unfold B at*;omega
 intro e he;rcases jB.1 he with he|he
 ·exact d5 e he
 simp at he;subst he;exact mO _ (by decide)
def Yo3{x y:Nat}{o d:List Nat}{c:Nat}(hl:(aH y).length<=(aH x).length)(d1:d.length=(aH x).length)(d2:o=d++List.replicate ((aH x).length+1-(aH x).length) 0)(d3:val B d+B^(aH x).length*c=val B ((aH x).take (aH x).length)+val B ((aH y).take (aH x).length))(d4:c<=1)(d5:Dg d):uk (o.set (aH x).length c)=aH (x+y):=by
 rw[d2,show (aH x).length+1-(aH x).length=0+1 by omega,Zr5 d1];simp only[List.replicate_zero,zZ];rw[Fm,UH,d1,d3,gp (aO _),gp hl,oz,oz];intro e he;rcases jB.1 he with he|he
 ·exact d5 e he
 simp at he;subst he;unfold B;omega
def Zye{h:T O}{N:Nat}{vx vy:V}{x y:Nat}(hx:Wn h N vx x)(hy:Wn h N vy y)(zo:(aH x).length<1099511627776)(O5:(aH y).length<1099511627776):Fn A.C 201 [vx,vy] h N (fun v' h' N'=>Wn h' N' v' (x+y)):=by
 intro w;have lx:=hx.len;have ly:=hy.len;rw[bq]at lx ly;rw[aN,A.k201 (by simp)];by_cases hl:(aH x).length<(aH y).length
 ·simp(disch:=first|(simp;done)|omega|(simp only[bq,b_,bk];omega)|rfl) [A.b201,lx,ly,hl];refine cm [(6,8),(22,46)] (fun e r st=>e=.exit 0/\Yzx h N y x r st) (Yzw h N y x) (aH y).length ?_ ?_ ?_
  ·refine⟨0,List.replicate ((aH y).length+1) 0,0,by omega,⟨by omega,by simp,by simp,by simp,by simp,ab.refl.set (aO _) |>.up (by omega),by simp[JX],by simp,[],by simp,by simp,by simp[val],by decide,by simp[Dg]⟩⟩
  ·rintro m r ⟨H,n1,W⟩ hr hf ⟨k,o,c,rfl,hk,pQ,h6,hn,hW,hK,hN,ho,d,hd⟩;simp only at hn hW hK hN;subst hn;rw[bu];by_cases aC:k<(aH y).length
   ·obtain⟨i1,o1,c1,e1,w1,p1,p2,p3,p4⟩:=hy.at (f_ (bV aC));have p3:=(hK.get _ p2).trans p3;obtain⟨d1,d2,d3,d4,d5⟩:=hd;have iK:=Yi2 (x:=aH y) (y:=aH x) (bV aC) d1 d2 d3 d4 d5 (sX y) (sX x);by_cases rF:k<(aH x).length
    ·obtain⟨i2,o2,c2,e2,w2,q1,q2,q3,q4⟩:=hx.at (f_ (bV rF));have q3:=(hK.get _ q2).trans q3;have hz:dz (aH x) k=(aH x)[k]:=by simp[dz,bV rF]
     rw[hz]at iK;simp(disch:=first|(simp;done)|omega|(simp only[bq,b_,bk];omega)|rfl) [A.gY,hr,pQ,h6,aC,rF,ly,lx,p1,p3,p4,q1,q3,q4,hN,qL,hf];exact⟨_,by omega,k+1,_,_,rfl,⟨by omega,by simp,by simp,rfl,by simp[hW],hK.set (aO _),by simp,by simp[ho],_,iK⟩⟩
    have hz:dz (aH x) k=0:=by simp[dz,fW (wx.1 rF)]
    rw[hz]at iK;simp(disch:=first|(simp;done)|omega|(simp only[bq,b_,bk];omega)|rfl) [A.gY,hr,pQ,h6,aC,rF,ly,lx,p1,p3,p4,hN,qL,hf];exact⟨_,by omega,k+1,_,_,rfl,⟨by omega,by simp,by simp,rfl,by simp[hW],hK.set (aO _),by simp,by simp[ho],_,iK⟩⟩
   have RG:k=(aH y).length:=by omega
   subst RG;simp[A.gY,hr,pQ,hf];exact⟨o,c,⟨by omega,by simp[pQ],by simp[h6],rfl,by simp[hW],hK,hN,ho,d,hd⟩⟩
  rintro _ r ⟨H,n1,W⟩ hr ⟨rfl,o,c,hk,pQ,h6,hn,hW,hK,hN,ho,d,d1,d2,d3,d4,d5⟩;simp only at hn hW hK hN;subst hn;simp(disch:=first|(simp;done)|omega|(simp only[bq,b_,bk];omega)|rfl) [hr,h6,ly,hN,qL];refine av (Fp (l:=o.set (aH y).length c) (Sl.row (e:=205) (rw:=true) (by omega) (by simp) (by simp[ho]) (by simp)) (by simp[ho];omega)) ?_;intro v' h' n' iD hs;simp[ax];refine⟨hW,(hK.set (aO _)).trans iD,?_⟩;rw[Yo3 (by omega) d1 d2 d3 d4 d5]at hs;exact(Nat.add_comm y x▸hs)
 simp(disch:=first|(simp;done)|omega|(simp only[bq,b_,bk];omega)|rfl) [A.b201,lx,ly,hl];refine cm [(6,8),(22,46)] (fun e r st=>e=.exit 0/\Yzx h N x y r st) (Yzw h N x y) (aH x).length ?_ ?_ ?_
 ·refine⟨0,List.replicate ((aH x).length+1) 0,0,by omega,⟨by omega,by simp,by simp,by simp,by simp,ab.refl.set (aO _) |>.up (by omega),by simp[JX],by simp,[],by simp,by simp,by simp[val],by decide,by simp[Dg]⟩⟩
 ·rintro m r ⟨H,n1,W⟩ hr hf ⟨k,o,c,rfl,hk,pQ,h6,hn,hW,hK,hN,ho,d,hd⟩;simp only at hn hW hK hN;subst hn;rw[bu];by_cases aC:k<(aH x).length
  ·obtain⟨i1,o1,c1,e1,w1,p1,p2,p3,p4⟩:=hx.at (f_ (bV aC));have p3:=(hK.get _ p2).trans p3;obtain⟨d1,d2,d3,d4,d5⟩:=hd;have iK:=Yi2 (x:=aH x) (y:=aH y) (bV aC) d1 d2 d3 d4 d5 (sX x) (sX y);by_cases rF:k<(aH y).length
   ·obtain⟨i2,o2,c2,e2,w2,q1,q2,q3,q4⟩:=hy.at (f_ (bV rF));have q3:=(hK.get _ q2).trans q3;have hz:dz (aH y) k=(aH y)[k]:=by simp[dz,bV rF]
    rw[hz]at iK;simp(disch:=first|(simp;done)|omega|(simp only[bq,b_,bk];omega)|rfl) [A.gY,hr,pQ,h6,aC,rF,lx,ly,p1,p3,p4,q1,q3,q4,hN,qL,hf];exact⟨_,by omega,k+1,_,_,rfl,⟨by omega,by simp,by simp,rfl,by simp[hW],hK.set (aO _),by simp,by simp[ho],_,iK⟩⟩
   have hz:dz (aH y) k=0:=by simp[dz,fW (wx.1 rF)]
   rw[hz]at iK;simp(disch:=first|(simp;done)|omega|(simp only[bq,b_,bk];omega)|rfl) [A.gY,hr,pQ,h6,aC,rF,lx,ly,p1,p3,p4,hN,qL,hf];exact⟨_,by omega,k+1,_,_,rfl,⟨by omega,by simp,by simp,rfl,by simp[hW],hK.set (aO _),by simp,by simp[ho],_,iK⟩⟩
  have RG:k=(aH x).length:=by omega
  subst RG;simp[A.gY,hr,pQ,hf];exact⟨o,c,⟨by omega,by simp[pQ],by simp[h6],rfl,by simp[hW],hK,hN,ho,d,hd⟩⟩
 rintro _ r ⟨H,n1,W⟩ hr ⟨rfl,o,c,hk,pQ,h6,hn,hW,hK,hN,ho,d,d1,d2,d3,d4,d5⟩;simp only at hn hW hK hN;subst hn;simp(disch:=first|(simp;done)|omega|(simp only[bq,b_,bk];omega)|rfl) [hr,h6,lx,hN,qL];refine av (Fp (l:=o.set (aH x).length c) (Sl.row (e:=205) (rw:=true) (by omega) (by simp) (by simp[ho]) (by simp)) (by simp[ho];omega)) ?_;intro v' h' n' iD hs;simp[ax];refine⟨hW,(hK.set (aO _)).trans iD,?_⟩;rw[Yo3 (by omega) d1 d2 d3 d4 d5]at hs;exact hs
def A.RH:=A.q Tryz.f203
def A.o_:=A.ql A.RH 0 []
def A.b203:=(fun x0=>A.qb A.RH [x0]) A.o_
def A.k203:=@A.kk 203 41 [.tmp 4] A.b203 (by kernel_rfl) rfl
def Ho{a b:Nat}(h:a<=b):(aH a).length<=(aH b).length:=by
 apply zB;intro hc;have h1:=GU (b:=B) (sX b);rw[oz]at h1;have h2:∀n,n≠0->B^((aH n).length-1)<=n:=by
  intro n;induction n using Nat.strongRecOn with
  |_ n ih=>
   intro hn;rw[og hn];by_cases h0:n/B=0
   ·rw[h0,sV];simp;omega
   have:=ih (n/B) (Et (by omega) (by decide)) h0;have hp:0<(aH (n/B)).length:=by rw[og h0];simp
   simp only[bk,Nat.add_sub_cancel];rw[show (aH (n/B)).length=((aH (n/B)).length-1)+1 by omega,ix];have h3:B^((aH (n/B)).length-1)*B<=n/B*B:=nf B this;have:=Nat.div_mul_le_self n B;omega
 have ha:a≠0:=by rintro rfl;rw[sV]at hc;simp at hc
 have h3:=h2 a ha;have h4:B^(aH b).length<=B^((aH a).length-1):=qW (by decide) (by omega);omega
structure Yzs (h:T O) (N x y k:Nat) (o:List Nat) (c:Nat) (r:T V) (st:St):Prop where
 hk:k<=(aH x).length
 MI:r.get 14=some (.int .i64 k)
 r6:r.get 6=some (.int .u64 c)
 n:st.n=N+1
 w:ay N st.w=[]
 ad:ab h N st.h (N+1)
 row:st.h.get N=some (.cells (dg o) 205 true)
 len:o.length=(aH x).length
 ex:∃d,d.length=k/\o=d++List.replicate ((aH x).length-k) 0/\val B d+val B ((aH y).take k)=val B ((aH x).take k)+B^k*c/\c<=1/\Dg d
def Xa8(h:T O)(N x y m:Nat)(r:T V)(st:St):Prop:=∃k o c,m=(aH x).length-k/\Yzs h N x y k o c r st
def Xa9(h:T O)(N x y:Nat)(r:T V)(st:St):Prop:=∃o c,Yzs h N x y (aH x).length o c r st
def Ypu{x y o d:List Nat}{k c xk:Nat}(hx:x[k]?=some xk)(d1:d.length=k)(d2:o=d++List.replicate (x.length-k) 0)(d3:val B d+val B (y.take k)=val B (x.take k)+B^k*c)(d4:c<=1)(d5:Dg d)(gx:Dg x)(gy:Dg y):
  (d++[eJ xk (dz y k) c]).length=k+1/\o.set k (eJ xk (dz y k) c)=(d++[eJ xk (dz y k) c])++List.replicate (x.length-(k+1)) 0/\val B (d++[eJ xk (dz y k) c])+val B (y.take (k+1))=val B (x.take (k+1))+B^(k+1)*gh xk (dz y k) c/\gh xk (dz y k) c<=1/\Dg (d++[eJ xk (dz y k) c]):=by
 have hk:k<x.length:=by apply uH;intro hc;rw[fW hc]at hx;cases hx
 have hxk:=gx.get hx;have hyk:=Ywi gy k;have hs:eJ xk (dz y k) c+dz y k+c=xk+B*gh xk (dz y k) c/\eJ xk (dz y k) c<B/\gh xk (dz y k) c<=1:=by unfold eJ gh;unfold B at*;split<;>omega
 refine⟨by simp[d1],?_,?_,hs.2.2,?_⟩
 ·rw[d2,show x.length-k=(x.length-(k+1))+1 by omega,Zr5 d1]
 ·rw[UH,Fl,Fl,d1,show dz x k=xk by simp[dz,hx],ix];have h1:=hs.1;generalize eJ xk (dz y k) c=s at*;generalize gh xk (dz y k) c=b at*;generalize B^k=p at*;have:p*(s+dz y k+c)=p*(xk+B*b):=by rw[h1]
  grind
 intro e he;rcases jB.1 he with he|he
 ·exact d5 e he
 simp at he;subst he;exact hs.2.1
def Yuo{x y:Nat}{o d:List Nat}{c:Nat}(hl:y<=x)(d1:d.length=(aH x).length)(d2:o=d++List.replicate ((aH x).length-(aH x).length) 0)(d3:val B d+val B ((aH y).take (aH x).length)=val B ((aH x).take (aH x).length)+B^(aH x).length*c)(d4:c<=1)(d5:Dg d):uk o=aH (x-y):=by
 rw[d2,Nat.sub_self];simp only[List.replicate_zero,zZ];rw[Fm d5];congr 1;rw[gp (aO _),gp (Ho hl),oz,oz]at d3;have:=GU d5;rw[d1]at this;rcases Nat.lt_or_ge c 1 with hc|hc
 ·have:c=0:=by omega
  subst this;simp at d3;omega
 have:c=1:=by omega
 subst this;omega
def Zol{h:T O}{N:Nat}{vx vy:V}{x y:Nat}(hx:Wn h N vx x)(hy:Wn h N vy y)(Vo:y<=x)(zo:(aH x).length<1099511627776)(O5:(aH y).length<1099511627776):Fn A.C 203 [vx,vy] h N (fun v' h' N'=>Wn h' N' v' (x-y)):=by
 intro w;have lx:=hx.len;have ly:=hy.len;rw[bq]at lx ly;rw[aN,A.k203 (by simp)];simp(disch:=first|(simp;done)|omega|(simp only[bq,b_,bk];omega)|rfl) [A.b203,lx,ly];refine cm [(6,8),(14,38)] (fun e r st=>e=.exit 0/\Xa9 h N x y r st) (Xa8 h N x y) (aH x).length ?_ ?_ ?_
 ·refine⟨0,List.replicate (aH x).length 0,0,by omega,⟨by omega,by simp,by simp,by simp,by simp,ab.refl.set (aO _) |>.up (by omega),by simp[JX],by simp,[],by simp,by simp,by simp[val],by decide,by simp[Dg]⟩⟩
 ·rintro m r ⟨H,n1,W⟩ hr hf ⟨k,o,c,rfl,hk,pQ,h6,hn,hW,hK,hN,ho,d,hd⟩;simp only at hn hW hK hN;subst hn;rw[bu];by_cases aC:k<(aH x).length
  ·obtain⟨i1,o1,c1,e1,w1,p1,p2,p3,p4⟩:=hx.at (f_ (bV aC));have p3:=(hK.get _ p2).trans p3;obtain⟨d1,d2,d3,d4,d5⟩:=hd;have iK:=Ypu (x:=aH x) (y:=aH y) (bV aC) d1 d2 d3 d4 d5 (sX x) (sX y);by_cases rF:k<(aH y).length
   ·obtain⟨i2,o2,c2,e2,w2,q1,q2,q3,q4⟩:=hy.at (f_ (bV rF));have q3:=(hK.get _ q2).trans q3;have hz:dz (aH y) k=(aH y)[k]:=by simp[dz,bV rF]
    rw[hz]at iK;simp(disch:=first|(simp;done)|omega|(simp only[bq,b_,bk];omega)|rfl) [A.o_,hr,pQ,h6,aC,rF,lx,ly,p1,p3,p4,q1,q3,q4,hN,qL,hf];exact⟨_,by omega,k+1,_,_,rfl,⟨by omega,by simp,by simp,rfl,by simp[hW],hK.set (aO _),by simp,by simp[ho],_,iK⟩⟩
   have hz:dz (aH y) k=0:=by simp[dz,fW (wx.1 rF)]
   rw[hz]at iK;simp(disch:=first|(simp;done)|omega|(simp only[bq,b_,bk];omega)|rfl) [A.o_,hr,pQ,h6,aC,rF,lx,ly,p1,p3,p4,hN,qL,hf];exact⟨_,by omega,k+1,_,_,rfl,⟨by omega,by simp,by simp,rfl,by simp[hW],hK.set (aO _),by simp,by simp[ho],_,iK⟩⟩
  have RG:k=(aH x).length:=by omega
  subst RG;simp[A.o_,hr,pQ,hf];exact⟨o,c,⟨by omega,by simp[pQ],by simp[h6],rfl,by simp[hW],hK,hN,ho,d,hd⟩⟩
 rintro _ r ⟨H,n1,W⟩ hr ⟨rfl,o,c,hk,pQ,h6,hn,hW,hK,hN,ho,d,d1,d2,d3,d4,d5⟩;simp only at hn hW hK hN;subst hn;simp[hr];refine av (Fp (l:=o) (Sl.row (e:=205) (rw:=true) (by omega) (by simp[hN]) (by simp[ho]) (by simp)) (by simp[ho];omega)) ?_;intro v' h' n' iD hs;simp[ax];refine⟨hW,hK.trans iD,?_⟩;rw[Yuo Vo d1 d2 d3 d4 d5]at hs;exact hs
def A.RI:=A.q Tryz.f202
def A.l7:=A.ql A.RI 0 []
def A.b202:=(fun x0=>A.qb A.RI [x0]) A.l7
def A.k202:=@A.kk 202 41 [.tmp 4] A.b202 (by kernel_rfl) rfl
def xC(x y:Int):Int:=if x<y then -1 else if y<x then 1 else 0
def Yoh{x y:Nat}(h:(aH x).length<(aH y).length):x<y:=by apply uH;intro hc;have:=Ho hc;omega
def VN{b:Nat}{l:List Nat}{k d:Nat}(h:l[k]?=some d):val b (l.drop k)=d+b*val b (l.drop (k+1)):=by
 have hk:k<l.length:=by apply uH;intro hc;rw[fW hc]at h;cases h
 rw[IY hk];rw[bV hk]at h;simp only[aq]at h;rw[h];rfl
def Ztm(b:Nat)(l:List Nat)(k:Nat)(hk:k<=l.length):val b l=val b (l.take k)+b^k*val b (l.drop k):=by have:=T0 b (l.take k) (l.drop k);rw[En,iX,rj hk]at this;exact this
def Ynt{x y:List Nat}{k:Nat}(gx:Dg x)(hx:k<=x.length)(hy:k<=y.length)(h:val B (x.drop k)<val B (y.drop k)):val B x<val B y:=by
 rw[Ztm B x k hx,Ztm B y k hy];have h1:val B (x.take k)<B^k:=by have:=GU (b:=B) (l:=x.take k) fun d hd=>gx d (wB hd);rwa [iX,rj hx]at this
 have h2:B^k*(val B (x.drop k)+1)<=B^k*val B (y.drop k):=mM _ h;rw[uI]at h2;omega
structure Yzu (h:T O) (N x y m:Nat) (r:T V) (st:St):Prop where
 hm:m<=(aH x).length
 r5:r.get 5=some (.int .i64 ((m:Int)-1))
 n:st.n=N
 w:st.w=[]
 ad:ab h N st.h N
 top:(aH x).drop m=(aH y).drop m
def Zi4{h:T O}{N:Nat}{vx vy:V}{x y:Nat}(hx:Wn h N vx x)(hy:Wn h N vy y)(zo:(aH x).length<1099511627776)(O5:(aH y).length<1099511627776):Fn A.C 202 [vx,vy] h N (fun v' h' N'=>v'=.int .i64 (xC x y)):=by
 intro w;have lx:=hx.len;have ly:=hy.len;rw[bq]at lx ly;rw[aN,A.k202 (by simp)];by_cases aW:(aH x).length=(aH y).length
 ·have zaQ:((aH x).length:Int)=((aH y).length:Int):=by omega
  simp(disch:=omega) [A.b202,lx,ly,aW];refine cm [(4,5),(19,40)] (fun e r st=>(e=.exit 0/\Yzu h N x y 0 r st)\/(e=.ret/\r.get 4=some (.int .i64 (xC x y))/\st.n=N/\st.w=[]/\ab h N st.h N)) (Yzu h N x y) (aH x).length ?_ ?_ ?_
  ·exact⟨by omega,by simp[aW],rfl,rfl,ab.refl,by rw[pw,aW,pw]⟩
  ·rintro m r ⟨H,n1,W⟩ hr hf ⟨hm,h5,hn,hW,hK,ht⟩;simp only at hn hW hK;subst hn;subst hW;rw[bu];cases m with
   |zero=> simp[A.l7,h5,hf];exact⟨by omega,by simp[h5],rfl,rfl,hK,ht⟩
   |succ m=>
    have dh:m<(aH x).length:=by omega
    have hmy:m<(aH y).length:=by omega
    have h5':r.get 5=some (.int .i64 (m:Int)):=by rw[h5];congr 2;omega
    have gx:=bV dh;have gy:=bV hmy;obtain⟨i1,o1,c1,e1,w1,p1,p2,p3,p4⟩:=hx.at (f_ gx);have p3:=(hK.get _ p2).trans p3;obtain⟨i2,o2,c2,e2,w2,q1,q2,q3,q4⟩:=hy.at (f_ gy);have q3:=(hK.get _ q2).trans q3;rcases Nat.lt_trichotomy (aH x)[m] (aH y)[m]with aC|heq|Mn
    ·have eK:x<y:=by have:=Ynt (x:=aH x) (y:=aH y) (k:=m) (sX x) (by omega) (by omega) (by rw[VN gx,VN gy,ht];omega);rwa [oz,oz]at this
     have mS:¬(aH x)[m]=(aH y)[m]:=by omega
     simp(disch:=first|(simp;done)|omega|(simp only[bq,b_,bk];omega)|rfl) [A.l7,h5',hr,hf,lx,ly,p1,p2,p3,p4,q1,q2,q3,q4,bh,mS,aC];exact⟨by simp[xC,eK],hK⟩
    ·have OX:(aH x).drop m=(aH y).drop m:=by rw[IY dh,IY hmy,ht,heq]
     simp(disch:=first|(simp;done)|omega|(simp only[bq,b_,bk];omega)|rfl) [A.l7,h5',hr,hf,lx,ly,p1,p2,p3,p4,q1,q2,q3,q4,bh,heq];exact⟨m,by omega,⟨by omega,by simp,rfl,rfl,hK,OX⟩⟩
    have eK:y<x:=by have:=Ynt (x:=aH y) (y:=aH x) (k:=m) (sX y) (by omega) (by omega) (by rw[VN gx,VN gy,ht];omega);rwa [oz,oz]at this
    have mS:¬(aH x)[m]=(aH y)[m]:=by omega
    have aC:¬(aH x)[m]<(aH y)[m]:=by omega
    have BS:¬x<y:=by omega
    simp(disch:=first|(simp;done)|omega|(simp only[bq,b_,bk];omega)|rfl) [A.l7,h5',hr,hf,lx,ly,p1,p2,p3,p4,q1,q2,q3,q4,bh,mS,aC];exact⟨by simp[xC,eK,BS],hK⟩
  rintro e r ⟨H,n1,W⟩ hr (⟨rfl,hm,h5,hn,hW,hK,ht⟩|⟨rfl,h4,hn,hW,hK⟩)
  ·simp only at hn hW hK;subst hn;subst hW;simp only[Br]at ht;have:x=y:=by rw[<-oz x,ht,oz]
   subst this;simp[ax];exact⟨hK,by simp[xC]⟩
  simp only at hn hW hK;subst hn;subst hW;simp[h4,ax];exact hK
 have zaQ:¬((aH x).length:Int)=((aH y).length:Int):=by omega
 by_cases aC:(aH x).length<(aH y).length
 ·have:=Yoh aC;simp[A.b202,lx,ly,aW,aC,ax];exact⟨ab.refl,by simp[xC,this]⟩
 have h1:=Yoh (x:=y) (y:=x) (by omega);have h2:¬x<y:=by omega
 simp[A.b202,lx,ly,aW,aC,ax];exact⟨ab.refl,by simp[xC,h1,h2]⟩
end
end Go.Mx
