/-lensletref01-/
import Derived.Test.YtgccnjdneojagaaGreatDoorRcE
set_option linter.all false
set_option maxHeartbeats 2000000
namespace Go.Mx
noncomputable section
open Go Go.Proofs
set_option maxRecDepth 1000000
def A.b77:=A.q Tryz.f77
def A.k77:=@A.kk 77 54 [.tmp 2,.tmp 3,.tmp 4] A.b77 (by kernel_rfl) rfl
def QB(q:Rat):aG:=if q.den=1 then aq q.num.natAbs else aq q.num.natAbs++47::aq q.den
def DP(q:Rat):aO q=if q.num<0 then 45::QB q else QB q:=by unfold aO QB aN;by_cases h1:q.den=1<;>by_cases h2:q.num<0<;>simp[h1,h2]
def Yo5(q:Rat):ah (QB q)=(aq q.num.natAbs).length:=by
 unfold QB;split
 ·exact Uz (Mv (Ag _))
 exact Uy (Mv (Ag _))
def Yv4(q:Rat):(QB q).take (aq q.num.natAbs).length=aq q.num.natAbs:=by
 unfold QB;split
 ·exact fU (aM _)
 exact List.take_left
def Yv5{q:Rat}(h:q.den≠1):(QB q).drop ((aq q.num.natAbs).length+1)=aq q.den:=by unfold QB;rw[ak h,<-List.drop_drop,List.drop_left];rfl
def Yqs(q:Rat):(QB q).length=(aq q.num.natAbs).length+(if q.den=1 then 0 else (aq q.den).length+1):=by unfold QB;split<;>simp
def Zzn(q:Rat):∃c t,QB q=c::t/\48<=c.toNat:=by
 obtain⟨c,t,h,h1,_⟩:=Zsf (n:=q.num.natAbs);unfold QB;split
 ·exact⟨c,t,h,h1⟩
 exact⟨c,t++47::aq q.den,by rw[h];rfl,h1⟩
def Ygt{q:Rat}{st:St}(hl:(aO q).length<=20):A.C.call (.func 77 [] []) [.str (aO q)] st=some (if q.num.natAbs<1000000000/\q.den<1000000000 then .aX [.int .i64 q.num,.int .i64 q.den,.bool true] else .aX [.int .i64 0,.int .i64 0,.bool false],st):=by
 obtain⟨c,t,hB,hc⟩:=Zzn q;have hs:=Yo5 q;have ht:=Yv4 q;have Cr:=Yqs q;have h9:=RT (n:=q.num.natAbs);have h9d:=RT (n:=q.den);have hn:=fun h st=>Ypy (n:=q.num.natAbs) h st;have hd:=fun h st=>Ypy (n:=q.den) h st;have zt:=Yv5 (q:=q);have FG:¬cX c=45:=by unfold cX;omega
 have nJ:=DP q;have hBl:(QB q).length<=20:=by
  rw[nJ]at hl;split at hl
  ·simp only[bl]at hl;omega
  exact hl
 have cC:=fun st=>Hm (s:=QB q) (st:=st) (by omega);rw[hs]at cC;have iy:(QB q)[0]?=some c:=by rw[hB];rfl
 have hh:(QB q).head?=some c:=by rw[hB];rfl
 have aZ:QB q≠[]:=by rw[hB];simp
 have nE:0<(QB q).length:=by rw[hB];simp
 have zcc:(0:Int)<((QB q).length:Int):=by omega
 have FH:¬(20:Int)<((QB q).length:Int):=by omega
 have rP:(aq q.num.natAbs).length<=(QB q).length:=by omega
 have zcd:((aq q.num.natAbs).length:Int)<=((QB q).length:Int):=by omega
 have k0:0<=(aq q.num.natAbs).length:=wx _;have w1:bn .i64 (((QB q).length:Int)-((aq q.num.natAbs).length:Int))=((QB q).length:Int)-((aq q.num.natAbs).length:Int):=cL (by omega) (by omega);have w2:bn .i64 (((aq q.num.natAbs).length:Int)+1)=((aq q.num.natAbs).length:Int)+1:=cL (by omega) (by omega);have a3:∀st:St,uW st (some (.str (45::QB q))) (some (some (.int .i64 1))) (some none)=some (.str (QB q),st):=fun st=>by rw[Hg (by omega) (by simp only[bl];omega)];rfl
 have a4:∀st:St,uW st (some (.str (QB q))) (some none) (some (some (.int .i64 (aq q.num.natAbs).length)))=some (.str (aq q.num.natAbs),st):=fun st=>by rw[Zm8 (by omega) (by omega),Int.toNat_natCast,ht]
 apply Call.eq;rw[aQ,A.k77 (by simp),nJ];by_cases e9:q.num.natAbs<1000000000
 ·have g9:¬(9:Int)<((aq q.num.natAbs).length:Int):=by have:=h9.2 e9;omega
  have hn:=hn e9;by_cases e1:q.den=1
  ·rw[av e1]at Cr;have HH:¬(10:Int)<((QB q).length:Int)-((aq q.num.natAbs).length:Int):=by omega
   have RU:¬((aq q.num.natAbs).length:Int)<((QB q).length:Int):=by omega
   have g12:¬(aq q.num.natAbs).length<(QB q).length:=by omega
   rw[e1];by_cases hz:q.num<0
   ·have ez:(q.num.natAbs:Int)= -q.num:=by omega
    have w3:bn .i64 (0-(q.num.natAbs:Int))=q.num:=by rw[ez];rw[cL (by omega) (by omega)];omega
    have a5:cX 45=45:=rfl;have eQ:(QB q).length+1<=20:=by rw[nJ,av hz]at hl;simpa using hl
    have Bh:¬(20:Int)<((QB q).length:Int)+1:=by omega
    have AW:(0:Int)<((QB q).length:Int)+1:=by omega
    simp(disch:=first|(simp;done)|omega|rfl) [-getElem?_pos,A.b77,hz,Bh,AW,a3,a5,cC,aC,g9,HH,RU,w1,a4,hn,e9];omega
   have ez:(q.num.natAbs:Int)=q.num:=by omega
   simp(disch:=first|(simp;done)|omega|rfl) [-getElem?_pos,A.b77,hz,iy,nE,FH,FG,cC,aC,g9,HH,RU,w1,a4,hn,ez,e9]
  rw[ak e1]at Cr;have zt:=zt e1;have RU:((aq q.num.natAbs).length:Int)<((QB q).length:Int):=by omega
  have g12:(aq q.num.natAbs).length<(QB q).length:=by omega
  have a6:∀st:St,uW st (some (.str (QB q))) (some (some (.int .i64 (((aq q.num.natAbs).length:Int)+1)))) (some none)=some (.str (aq q.den),st):=fun st=>by
   rw[Hg (by omega) (by omega)];have:(((aq q.num.natAbs).length:Int)+1).toNat=(aq q.num.natAbs).length+1:=by omega
   rw[this,zt]
  by_cases FI:q.den<1000000000
  ·have HH:¬(10:Int)<((QB q).length:Int)-((aq q.num.natAbs).length:Int):=by have:=h9d.2 FI;omega
   have hd:=hd FI;by_cases hz:q.num<0
   ·have ez:(q.num.natAbs:Int)= -q.num:=by omega
    have w3:bn .i64 (0-(q.num.natAbs:Int))=q.num:=by rw[ez];rw[cL (by omega) (by omega)];omega
    have a5:cX 45=45:=rfl;have eQ:(QB q).length+1<=20:=by rw[nJ,av hz]at hl;simpa using hl
    have Bh:¬(20:Int)<((QB q).length:Int)+1:=by omega
    have AW:(0:Int)<((QB q).length:Int)+1:=by omega
    simp(disch:=first|(simp;done)|omega|rfl) [-getElem?_pos,A.b77,hz,Bh,AW,a3,a5,a6,cC,aC,g9,HH,RU,w1,w2,a4,hn,hd,e9,FI];omega
   have ez:(q.num.natAbs:Int)=q.num:=by omega
   simp(disch:=first|(simp;done)|omega|rfl) [-getElem?_pos,A.b77,hz,iy,nE,FH,FG,a6,cC,aC,g9,HH,RU,w1,w2,a4,hn,hd,ez,e9,FI]
  have HH:(10:Int)<((QB q).length:Int)-((aq q.num.natAbs).length:Int):=by have:¬(aq q.den).length<=9:=fun hc=>FI (h9d.1 hc);omega
  by_cases hz:q.num<0
  ·have a5:cX 45=45:=rfl;have eQ:(QB q).length+1<=20:=by rw[nJ,av hz]at hl;simpa using hl
   have Bh:¬(20:Int)<((QB q).length:Int)+1:=by omega
   have AW:(0:Int)<((QB q).length:Int)+1:=by omega
   simp(disch:=first|(simp;done)|omega|rfl) [-getElem?_pos,A.b77,hz,Bh,AW,a3,a5,cC,aC,g9,HH,w1,e9,FI]
  simp(disch:=first|(simp;done)|omega|rfl) [-getElem?_pos,A.b77,hz,iy,nE,FH,FG,cC,g9,HH,w1,e9,FI]
 have g9:(9:Int)<((aq q.num.natAbs).length:Int):=by have:¬(aq q.num.natAbs).length<=9:=fun hc=>e9 (h9.1 hc);omega
 by_cases hz:q.num<0
 ·have a5:cX 45=45:=rfl;have eQ:(QB q).length+1<=20:=by rw[nJ,av hz]at hl;simpa using hl
  have Bh:¬(20:Int)<((QB q).length:Int)+1:=by omega
  have AW:(0:Int)<((QB q).length:Int)+1:=by omega
  simp(disch:=first|(simp;done)|omega|rfl) [-getElem?_pos,A.b77,hz,Bh,AW,a3,a5,cC,aC,g9,e9]
 simp(disch:=first|(simp;done)|omega|rfl) [-getElem?_pos,A.b77,hz,iy,nE,FH,FG,cC,g9,e9]
def Ycp{q:Rat}{st:St}(h1:20<(aO q).length):A.C.call (.func 77 [] []) [.str (aO q)] st=some (.aX [.int .i64 0,.int .i64 0,.bool false],st):=by
 have h2:(20:Int)<((aO q).length:Int):=by omega
 apply Call.eq;rw[aQ,A.k77 (by simp)];simp[A.b77,h2]
def Yi0{q:Rat}(h:q.num.natAbs<1000000000/\q.den<1000000000):(aO q).length<=20:=by
 have h1:=RT.2 h.1;have h2:=RT.2 h.2;have h3:=Yqs q;rw[DP];split
 ·simp only[bl];split at h3<;>omega
 split at h3<;>omega
def Zz8{q:Rat}{st:St}:A.C.call (.func 77 [] []) [.str (aO q)] st=some (if q.num.natAbs<1000000000/\q.den<1000000000 then .aX [.int .i64 q.num,.int .i64 q.den,.bool true] else .aX [.int .i64 0,.int .i64 0,.bool false],st):=by
 by_cases h:(aO q).length<=20
 ·exact Ygt h
 rw[ak fun hc=>h (Yi0 hc)];exact Ycp (by omega)
variable {j:Nat}
def A.b18:=A.q Tryz.f18
def A.k18:=@A.kk 18 55 [.tmp 4] A.b18 (by kernel_rfl) rfl
def Zr5(a b:Rat):a*b=Rat.divInt (a.num*b.num) ((a.den:Int)*(b.den:Int)):=by rw[Rat.mul_def,Rat.normalize_eq_mkRat,<-Rat.divInt_ofNat];simp
def Zsm(a b:Rat):a+b=Rat.divInt (a.num*(b.den:Int)+b.num*(a.den:Int)) ((a.den:Int)*(b.den:Int)):=by rw[Rat.add_def,Rat.normalize_eq_mkRat,<-Rat.divInt_ofNat];simp
def RV{a b:Nat}(h1:a<1000000000)(h2:b<1000000000):a*b<=1000000000000000000:=by have:=mI (Nat.le_of_lt h1) (Nat.le_of_lt h2);omega
def V8(q:Rat):∃(n d:Int) (o:Bool),(∀st,A.C.call (.func 77 [] []) [.str (aO q)] st=some (.aX [.int .i64 n,.int .i64 d,.bool o],st))/\(o=true->n=q.num/\d=(q.den:Int)/\q.num.natAbs<1000000000/\q.den<1000000000):=by
 by_cases f:q.num.natAbs<1000000000/\q.den<1000000000
 ·exact⟨q.num,q.den,true,fun st=>by rw[Zz8,av f],fun _=>⟨rfl,rfl,f⟩⟩
 exact⟨0,0,false,fun st=>by rw[Zz8,ak f],fun h=>by cases h⟩
def Rg.wg{h:T O}{N:Nat}{v:V}{z:Int}(s:Rg h N v z):∃u,v=.agg [.bool (decide (z<0)),u]/\V.one u=true/\V.cells u=[u]/\Js u:=by obtain⟨u,rfl,hu⟩:=s;exact⟨u,rfl,(Sl.form hu).one,(Sl.form hu).cells,Sl.form hu⟩
def RW{a b:Int}{k:Nat}(h1:a.natAbs<2^j)(h2:b.natAbs<2^k):(a*b).natAbs<2^(j+k):=by rw[wS,mJ];exact C2 h1 h2
def Ztk{a b:Int}(h1:a.natAbs<2^j)(h2:b.natAbs<2^j):(a+b).natAbs<2^(j+1):=by have:=Int.natAbs_add_le a b;rw[im];omega
def ZC{a b:Rat}{k:Nat}{h:T O}{N:Nat}(ha:Qb j a)(hb:Qb k b)(hj:j<=400000000)(hk:k<=400000000):Fn A.C 18 [.str (aO a),.str (aO b)] h N (fun u _ _=>u=.str (aO (a*b))):=by
 intro w;obtain⟨n1,d1,o1,sS,f1⟩:=V8 a;obtain⟨n2,d2,o2,jS,f2⟩:=V8 b;have pa:=Rat.den_pos a;have pb:=Rat.den_pos b;rw[aQ,A.k18 (by simp)];have key:(o1=true/\o2=true)\/(o1=false\/(o1=true/\o2=false)):=by cases o1<;>cases o2<;>simp
 rcases key with⟨rfl,rfl⟩|key
 ·obtain⟨rfl,rfl,g1⟩:=f1 rfl;obtain⟨rfl,rfl,g2⟩:=f2 rfl;have m1:(a.num*b.num).natAbs<=1000000000000000000:=by rw[wS];exact RV g1.1 g2.1
  have m2:a.den*b.den<=1000000000000000000:=RV g1.2 g2.2;have m3:0<a.den*b.den:=zN pa pb;have e2:(a.den:Int)*(b.den:Int)=((a.den*b.den:Nat):Int):=by simp
  have w1:bn .i64 (a.num*b.num)=a.num*b.num:=cL (by omega) (by omega);have w2:bn .i64 ((a.den:Int)*(b.den:Int))=(a.den:Int)*(b.den:Int):=by rw[e2];exact cL (by omega) (by omega)
  have ho:=fun st=>Yxe (p:=a.num*b.num) (q:=(a.den:Int)*(b.den:Int)) (st:=st) (by omega) (by omega) (by omega) (by omega) (by omega);rw[<-Zr5]at ho;simp[A.b18,sS,jS,w1,w2,ho,az];exact ab.refl
 have la:=K7 ha.1;have Q4:=HY ha.2;have lb:=K7 hb.1;have lb2:=HY hb.2;have z1:=zo ha.1;have z2:=zo hb.1;have z3:=zo ha.2;have z4:=zo hb.2;rcases key with rfl|⟨rfl,rfl⟩
 all_goals simp[A.b18,sS,jS]
 all_goals
  refine ar (V7 (q:=a) (by omega) (by omega)) ?_
  rintro _ h1 t1 k1 ⟨x1,y1,rfl,X1,Y1⟩
  obtain⟨u1,rfl,p1,p2,F1⟩:=X1.wg
  obtain⟨v1,rfl,p3,p4,G1⟩:=Y1.wg
  unfold V.one at p1 p3
  unfold V.cells at p2 p4
  have KA:=((((ab.refl (h:=h1) (n:=t1)).new (.cells [.bool false,.aa] 105 true)).new (.cells [.bool false,.aa] 105 true)).set (i:=t1) (o:=.cells [.bool (decide (a.num<0)),u1] 105 true) (aM _)).set (i:=t1+1) (o:=.cells [.bool (decide ((a.den:Int)<0)),v1] 105 true) (by omega)
  have c0:¬t1+1=t1:=by omega
  have c00:¬t1=t1+1:=by omega
  simp[p1,p3,bO,ae]
  generalize KQ:(((h1.set t1 (.cells [.bool false,.aa] 105 true)).set (t1+1) (.cells [.bool false,.aa] 105 true)).set t1 (.cells [.bool (decide (a.num<0)),u1] 105 true)).set (t1+1) (.cells [.bool (decide ((a.den:Int)<0)),v1] 105 true)=HA at*
  have RX:HA.get t1=some (.cells [.bool (decide (a.num<0)),u1] 105 true):=by rw[<-KQ];simp
  have gA2:HA.get (t1+1)=some (.cells [.bool (decide ((a.den:Int)<0)),v1] 105 true):=by rw[<-KQ];simp
  have X1:=X1.ad KA
  have Y1:=Y1.ad KA
  clear KQ
  refine ar (V7 (q:=b) (by omega) (by omega)) ?_
  rintro _ h2 t2 k2 ⟨x2,y2,rfl,X2,Y2⟩
  obtain⟨u2,rfl,p5,p6,F2⟩:=X2.wg
  obtain⟨v2,rfl,p7,p8,G2⟩:=Y2.wg
  unfold V.one at p5 p7
  unfold V.cells at p6 p8
  have KB:=((((ab.refl (h:=h2) (n:=t2)).new (.cells [.bool false,.aa] 105 true)).new (.cells [.bool false,.aa] 105 true)).set (i:=t2) (o:=.cells [.bool (decide (b.num<0)),u2] 105 true) (aM _)).set (i:=t2+1) (o:=.cells [.bool (decide ((b.den:Int)<0)),v2] 105 true) (by omega)
  have c1:¬t2+1=t2:=by omega
  have c11:¬t2=t2+1:=by omega
  have i2:=k2.le
  generalize KR:(((h2.set t2 (.cells [.bool false,.aa] 105 true)).set (t2+1) (.cells [.bool false,.aa] 105 true)).set t2 (.cells [.bool (decide (b.num<0)),u2] 105 true)).set (t2+1) (.cells [.bool (decide ((b.den:Int)<0)),v2] 105 true)=HB at*
  have DV:HB.get t2=some (.cells [.bool (decide (b.num<0)),u2] 105 true):=by rw[<-KR];simp
  have Lg:HB.get (t2+1)=some (.cells [.bool (decide ((b.den:Int)<0)),v2] 105 true):=by rw[<-KR];simp
  have Ba:=(KB.get t1 (by omega)).trans ((k2.get t1 (by omega)).trans RX)
  have C6:=(KB.get (t1+1) (by omega)).trans ((k2.get (t1+1) (by omega)).trans gA2)
  have X1:=(X1.ad k2).ad KB
  have Y1:=(Y1.ad k2).ad KB
  have X2:=X2.ad KB
  have Y2:=Y2.ad KB
  have K2:ab h N HB (t2+1+1):=((k1.trans KA).trans k2).trans KB
  have j1:t1<t2+1+1:=by omega
  have j2:t1+1<t2+1+1:=by omega
  have j3:t2<t2+1+1:=by omega
  simp[p5,p7,bO,ae,KR,DV,Ba,aS,aP]
  refine ar (PE X1 X2 (by omega) (by omega)) ?_
  rintro _ h3 t3 k3 X3
  have i3:=k3.le
  have gC2:=(k3.get (t2+1) (by omega)).trans Lg
  have V9:=(k3.get (t1+1) (by omega)).trans C6
  simp[gC2,V9,aS,aP]
  refine ar (PE (Y1.ad k3) (Y2.ad k3) (by rw[ed];omega) (by rw[ed];omega)) ?_
  rintro _ h4 t4 k4 X4
  have m1:=zo (RW ha.1 hb.1)
  have m2:=zo (RW (a:=(a.den:Int)) (b:=(b.den:Int)) (j:=j) (k:=k) (by rw[ed];exact ha.2) (by rw[ed];exact hb.2))
  simp[]
  refine ar (Zqc (X3.ad k4) X4 (LP (by omega) (by omega)) (by omega) (by omega)) ?_
  rintro _ h5 t5 k5 rfl
  have j4:t2+1<t3:=by omega
  have j5:t1+1<t3:=by omega
  rw[<-Zr5]
  have i1:=k1.le
  simp[-ay,dv.dw,j1,j4,j5,az]
  exact⟨HX (by simp;omega),((K2.trans k3).trans k4).trans k5⟩
def A.b17:=A.q Tryz.f17
def A.k17:=@A.kk 17 63 [.tmp 4] A.b17 (by kernel_rfl) rfl
def SM{a b:Rat}{j k:Nat}{h:T O}{N:Nat}(ha:Qb j a)(hb:Qb k b)(hj:j<=400000000)(hk:k<=400000000):Fn A.C 17 [.str (aO a),.str (aO b)] h N (fun u _ _=>u=.str (aO (a+b))):=by
 intro w;obtain⟨n1,d1,o1,sS,f1⟩:=V8 a;obtain⟨n2,d2,o2,jS,f2⟩:=V8 b;have pa:=Rat.den_pos a;have pb:=Rat.den_pos b;rw[aQ,A.k17 (by simp)];have key:(o1=true/\o2=true)\/(o1=false\/(o1=true/\o2=false)):=by cases o1<;>cases o2<;>simp
 rcases key with⟨rfl,rfl⟩|key
 ·obtain⟨rfl,rfl,g1⟩:=f1 rfl;obtain⟨rfl,rfl,g2⟩:=f2 rfl;have m1:(a.num*(b.den:Int)).natAbs<=1000000000000000000:=by rw[wS,ed];exact RV g1.1 g2.2
  have m4:(b.num*(a.den:Int)).natAbs<=1000000000000000000:=by rw[wS,ed];exact RV g2.1 g1.2
  have m2:a.den*b.den<=1000000000000000000:=RV g1.2 g2.2;have m3:0<a.den*b.den:=zN pa pb;have e2:(a.den:Int)*(b.den:Int)=((a.den*b.den:Nat):Int):=by simp
  have w1:bn .i64 (a.num*(b.den:Int))=a.num*(b.den:Int):=cL (by omega) (by omega);have w3:bn .i64 (b.num*(a.den:Int))=b.num*(a.den:Int):=cL (by omega) (by omega);have w2:bn .i64 ((a.den:Int)*(b.den:Int))=(a.den:Int)*(b.den:Int):=by rw[e2];exact cL (by omega) (by omega)
  have w4:bn .i64 (a.num*(b.den:Int)+b.num*(a.den:Int))=a.num*(b.den:Int)+b.num*(a.den:Int):=cL (by omega) (by omega);have ho:=fun st=>Yxe (p:=a.num*(b.den:Int)+b.num*(a.den:Int)) (q:=(a.den:Int)*(b.den:Int)) (st:=st) (by omega) (by omega) (by omega) (by omega) (by omega);rw[<-Zsm]at ho;simp[A.b17,sS,jS,w1,w2,w3,w4,ho,az];exact ab.refl
 have la:=K7 ha.1;have Q4:=HY ha.2;have lb:=K7 hb.1;have lb2:=HY hb.2;have z1:=zo ha.1;have z2:=zo hb.1;have z3:=zo ha.2;have z4:=zo hb.2;rcases key with rfl|⟨rfl,rfl⟩
 all_goals simp[A.b17,sS,jS]
 all_goals
  refine ar (V7 (q:=a) (by omega) (by omega)) ?_
  rintro _ h1 t1 k1 ⟨x1,y1,rfl,X1,Y1⟩
  obtain⟨u1,rfl,p1,p2,F1⟩:=X1.wg
  obtain⟨v1,rfl,p3,p4,G1⟩:=Y1.wg
  unfold V.one at p1 p3
  unfold V.cells at p2 p4
  have KA:=((((ab.refl (h:=h1) (n:=t1)).new (.cells [.bool false,.aa] 105 true)).new (.cells [.bool false,.aa] 105 true)).set (i:=t1) (o:=.cells [.bool (decide (a.num<0)),u1] 105 true) (aM _)).set (i:=t1+1) (o:=.cells [.bool (decide ((a.den:Int)<0)),v1] 105 true) (by omega)
  have c0:¬t1+1=t1:=by omega
  have c00:¬t1=t1+1:=by omega
  simp[p1,p3,bO,ae]
  generalize KQ:(((h1.set t1 (.cells [.bool false,.aa] 105 true)).set (t1+1) (.cells [.bool false,.aa] 105 true)).set t1 (.cells [.bool (decide (a.num<0)),u1] 105 true)).set (t1+1) (.cells [.bool (decide ((a.den:Int)<0)),v1] 105 true)=HA at*
  have RX:HA.get t1=some (.cells [.bool (decide (a.num<0)),u1] 105 true):=by rw[<-KQ];simp
  have gA2:HA.get (t1+1)=some (.cells [.bool (decide ((a.den:Int)<0)),v1] 105 true):=by rw[<-KQ];simp
  have X1:=X1.ad KA
  have Y1:=Y1.ad KA
  clear KQ
  refine ar (V7 (q:=b) (by omega) (by omega)) ?_
  rintro _ h2 t2 k2 ⟨x2,y2,rfl,X2,Y2⟩
  obtain⟨u2,rfl,p5,p6,F2⟩:=X2.wg
  obtain⟨v2,rfl,p7,p8,G2⟩:=Y2.wg
  unfold V.one at p5 p7
  unfold V.cells at p6 p8
  have KB:=((((ab.refl (h:=h2) (n:=t2)).new (.cells [.bool false,.aa] 105 true)).new (.cells [.bool false,.aa] 105 true)).set (i:=t2) (o:=.cells [.bool (decide (b.num<0)),u2] 105 true) (aM _)).set (i:=t2+1) (o:=.cells [.bool (decide ((b.den:Int)<0)),v2] 105 true) (by omega)
  have c1:¬t2+1=t2:=by omega
  have c11:¬t2=t2+1:=by omega
  have i2:=k2.le
  generalize KR:(((h2.set t2 (.cells [.bool false,.aa] 105 true)).set (t2+1) (.cells [.bool false,.aa] 105 true)).set t2 (.cells [.bool (decide (b.num<0)),u2] 105 true)).set (t2+1) (.cells [.bool (decide ((b.den:Int)<0)),v2] 105 true)=HB at*
  have DV:HB.get t2=some (.cells [.bool (decide (b.num<0)),u2] 105 true):=by rw[<-KR];simp
  have Lg:HB.get (t2+1)=some (.cells [.bool (decide ((b.den:Int)<0)),v2] 105 true):=by rw[<-KR];simp
  have Ba:=(KB.get t1 (by omega)).trans ((k2.get t1 (by omega)).trans RX)
  have C6:=(KB.get (t1+1) (by omega)).trans ((k2.get (t1+1) (by omega)).trans gA2)
  have X1:=(X1.ad k2).ad KB
  have Y1:=(Y1.ad k2).ad KB
  have X2:=X2.ad KB
  have Y2:=Y2.ad KB
  have K2:ab h N HB (t2+1+1):=((k1.trans KA).trans k2).trans KB
  have j1:t1<t2+1+1:=by omega
  have j2:t1+1<t2+1+1:=by omega
  have j3:t2<t2+1+1:=by omega
  simp[p5,p7,bO,ae,KR,Lg,Ba,aS,aP]
  refine ar (PE X1 Y2 (by omega) (by rw[ed];omega)) ?_
  rintro _ h3 t3 k3 X3
  have i3:=k3.le
  have gC1:=(k3.get t2 (by omega)).trans DV
  have gC2:=(k3.get (t2+1) (by omega)).trans Lg
  have V9:=(k3.get (t1+1) (by omega)).trans C6
  simp[gC1,V9,aS,aP]
  refine ar (PE (X2.ad k3) (Y1.ad k3) (by omega) (by rw[ed];omega)) ?_
  rintro _ h4 t4 k4 X4
  have i4:=k4.le
  have b1:=RW (b:=(b.den:Int)) (k:=k) ha.1 (by rw[ed];exact hb.2)
  have b2:=RW (b:=(a.den:Int)) (k:=j) hb.1 (by rw[ed];exact ha.2)
  rw[Nat.add_comm k j]at b2
  have m1:=zo b1
  have m2:=zo b2
  have m3:=zo (Ztk b1 b2)
  have m4:=zo (RW (a:=(a.den:Int)) (b:=(b.den:Int)) (j:=j) (k:=k) (by rw[ed];exact ha.2) (by rw[ed];exact hb.2))
  simp[]
  refine ar (Yso (X3.ad k4) X4 (by omega) (by omega)) ?_
  rintro _ h5 t5 k5 X5
  have i5:=k5.le
  have gD2:=(k5.get (t2+1) (by omega)).trans ((k4.get (t2+1) (by omega)).trans gC2)
  have Wa:=(k5.get (t1+1) (by omega)).trans ((k4.get (t1+1) (by omega)).trans V9)
  simp[gD2,Wa,aS,aP]
  refine ar (PE (((Y1.ad k3).ad k4).ad k5) (((Y2.ad k3).ad k4).ad k5) (by rw[ed];omega) (by rw[ed];omega)) ?_
  rintro _ h6 t6 k6 X6
  simp[]
  refine ar (Zqc (X5.ad k6) X6 (LP (by omega) (by omega)) (by omega) (by omega)) ?_
  rintro _ h7 t7 k7 rfl
  have j4:t2+1<t3:=by omega
  have j5:t1+1<t3:=by omega
  have j6:t2<t3:=by omega
  have j7:t2+1<t5:=by omega
  have j8:t1+1<t5:=by omega
  rw[<-Zsm]
  have i1:=k1.le
  simp[-ay,dv.dw,j1,j5,j6,j7,j8,az]
  exact⟨HX (by simp;omega),((((K2.trans k3).trans k4).trans k5).trans k6).trans k7⟩
def A.b203:=A.q Tryz.f203
def A.k203:=@A.kk 203 51 [.tmp 4,.tmp 5] A.b203 (by kernel_rfl) rfl
def Yxj{x y:Nat}(hx:x<18446744073709551616)(hy:y<18446744073709551616):cQ (cQ (c_ (ax x 32) (ax y 32)) (ax (cQ (c_ (ax x 32) (fv y)) (ax (c_ (fv x) (fv y)) 32)) 32)) (ax (cQ (fv (cQ (c_ (ax x 32) (fv y)) (ax (c_ (fv x) (fv y)) 32))) (c_ (fv x) (ax y 32))) 32)=cE (x*y):=by
 simp only[cQ,c_,ax,fv,cE,Nat.reducePow];have ex:x=x/4294967296*4294967296+x%4294967296:=by omega
 have ey:y=y/4294967296*4294967296+y%4294967296:=by omega
 have jK:x%4294967296<4294967296:=m8 _ (by decide);have yD:y%4294967296<4294967296:=m8 _ (by decide);have xe:x/4294967296<4294967296:=by omega
 have uS:y/4294967296<4294967296:=by omega
 generalize x/4294967296=x1 at*;generalize x%4294967296=x0 at*;generalize y/4294967296=y1 at*;generalize y%4294967296=y0 at*;have a1:x0*y0<=4294967295*4294967295:=mI (by omega) (by omega);have a2:x1*y0<=4294967295*4294967295:=mI (by omega) (by omega);have a3:x0*y1<=4294967295*4294967295:=mI (by omega) (by omega);have a4:x1*y1<=4294967295*4294967295:=mI (by omega) (by omega);have e:x*y=x1*y1*18446744073709551616+(x1*y0+x0*y1)*4294967296+x0*y0:=by subst ex;subst ey;grind
 rw[e];generalize x0*y0=p at*;generalize x1*y0=q at*;generalize x0*y1=u at*;generalize x1*y1=z at*;omega
def Qa{h:T O}{N:Nat}{x y:Nat}(hx:x<18446744073709551616)(hy:y<18446744073709551616):Fn A.C 203 [.int .u64 x,.int .u64 y] h N (fun v' h' N'=>h'=h/\N'=N/\v'=.aX [.int .u64 (cE (x*y):Nat),.int .u64 (bC (x*y):Nat)]):=by intro w;rw[aQ,A.k203 (by simp)];simp(disch:=first|(simp;done)|omega|(simp only[bz,cm,bl];omega)|rfl) [A.b203];rw[Yxj hx hy];exact⟨rfl,ab.refl,rfl,rfl,rfl⟩
def A.RY:=A.q Tryz.f236
def A.px:=A.ql A.RY 0 []
def A.b236:=(fun x0=>A.qb A.RY [x0]) A.px
def A.k236:=@A.kk 236 21 [.tmp 2] A.b236 (by kernel_rfl) rfl
def Fo{h:T O}{N:Nat}{v:V}{l:List Nat}(hs:Sl h N v (dg l))(hl:l.length<1152921504606846976):Fn A.C 236 [v] h N (fun v' h' N'=>Sl h' N' v' (dg (uV l))):=by
 intro w;have hlen:=hs.len;rw[bz]at hlen;rw[aQ,A.k236 (by simp)];simp[A.b236,hlen];refine b_ [(3,3),(6,17)] (fun e r st=>e=.exit 0/\st=⟨h,N,[]⟩/\∃k,k<=l.length/\r.get 3=some (.int .i64 k)/\uV l=l.take k) (fun k r st=>st=⟨h,N,[]⟩/\k<=l.length/\r.get 3=some (.int .i64 k)/\uV (l.take k)=uV l) l.length ?_ ?_ ?_
 ·exact⟨rfl,aM _,by simp,by simp⟩
 ·rintro k r _ hr hf ⟨rfl,hk,h3,ht⟩;rw[bu];cases k with
  |zero=> have:uV l=[]:=ht.symm;simp[A.px,h3,hf,this];exact⟨0,by omega,rfl,.inl rfl⟩
  |succ k=>
   obtain⟨d,hd⟩:∃d,l[k]?=some d:=⟨_,ct (by omega)⟩;obtain⟨i,o,c,e,rw,q1,q2,q3,q4⟩:=hs.at (fZ hd);have e1:l.take (k+1)=l.take k++[d]:=by rw[C1,hd];rfl
   have k1:(0:Int)<(k:Int)+1:=by omega
   have k2:(k:Int)<(l.length:Int):=by omega
   by_cases h0:d=0
   ·subst h0;rw[e1,Zrj]at ht;simp(disch:=first|(simp;done)|omega|(simp only[bz,cm,bl];omega)|rfl) [A.px,h3,hr,hf,k1,k2,hlen,q1,q3,q4,bA];exact⟨k,by omega,by omega,rfl,ht⟩
   rw[e1,Zrk h0]at ht;have hz:((d:Int)==0)=false:=by simp;omega
   simp(disch:=first|(simp;done)|omega|(simp only[bz,cm,bl];omega)|rfl) [A.px,h3,hr,hf,k1,k2,hlen,q1,q3,q4,bA,hz];exact⟨k+1,hk,rfl,by rw[e1];exact ht.symm⟩
 rintro _ r _ hr ⟨rfl,rfl,k,hk,h3,ht⟩;simp[hr,h3,F7,aC];obtain⟨v',e1,e2⟩:=MF (w:=[]) hs (lo:=0) (hi:=k) (wx _) (by rw[bz];exact hk) none (some (.int .i64 k)) (.inr ⟨rfl,rfl⟩) (.inl rfl);rw[e1];simp[az];refine⟨ab.refl,?_⟩;rw[ht,show dg (l.take k)=(dg l).take k by simp[dg]];exact e2
def A.RZ:=A.q Tryz.f221
def A.gY:=A.ql A.RZ 0 []
def A.b221:=(fun x0=>A.qb A.RZ [x0]) A.gY
def A.k221:=@A.kk 221 54 [.tmp 4] A.b221 (by kernel_rfl) rfl
structure Xbl (h:T O) (N x y k:Nat) (o:List Nat) (c:Nat) (r:T V) (st:St):Prop where
 hk:k<=(aJ x).length
 r22:r.get 22=some (.int .i64 k)
 r6:r.get 6=some (.int .u64 c)
 n:st.n=N+1
 w:ay N st.w=[]
 ad:ab h N st.h (N+1)
 row:st.h.get N=some (.cells (dg o) 199 true)
 len:o.length=(aJ x).length+1
 ex:∃d,d.length=k/\o=d++List.replicate ((aJ x).length+1-k) 0/\val B d+B^k*c=val B ((aJ x).take k)+val B ((aJ y).take k)/\c<=1/\Dg d
def Xbm(h:T O)(N x y m:Nat)(r:T V)(st:St):Prop:=∃k o c,m=(aJ x).length-k/\Xbl h N x y k o c r st
def Xbn(h:T O)(N x y:Nat)(r:T V)(st:St):Prop:=∃o c,Xbl h N x y (aJ x).length o c r st
def Yki{x y o d:List Nat}{k c xk:Nat}(hx:x[k]?=some xk)(d1:d.length=k)(d2:o=d++List.replicate (x.length+1-k) 0)(d3:val B d+B^k*c=val B (x.take k)+val B (y.take k))(d4:c<=1)(d5:Dg d)(gx:Dg x)(gy:Dg y):
  (d++[bC (xk+dz y k+c)]).length=k+1/\o.set k (bC (xk+dz y k+c))=(d++[bC (xk+dz y k+c)])++List.replicate (x.length+1-(k+1)) 0/\val B (d++[bC (xk+dz y k+c)])+B^(k+1)*cE (xk+dz y k+c)=val B (x.take (k+1))+val B (y.take (k+1))/\cE (xk+dz y k+c)<=1/\Dg (d++[bC (xk+dz y k+c)]):=by
 have hk:k<x.length:=by apply vC;intro hc;rw[fy hc]at hx;cases hx
 have hxk:=gx.get hx;have hyk:=Yyf gy k;have hm:=wI (xk+dz y k+c) B;refine⟨by simp[d1],?_,?_,?_,?_⟩
 ·rw[d2,show x.length+1-k=(x.length-k)+1 by omega,Zs3 d1,show x.length+1-(k+1)=x.length-k by omega]
 ·rw[UR,Fj,Fj,d1,show dz x k=xk by simp[dz,hx]];have e1:bC (xk+dz y k+c)=(xk+dz y k+c)%B:=rfl;have e2:cE (xk+dz y k+c)=(xk+dz y k+c)/B:=rfl;rw[e1,e2,im];generalize (xk+dz y k+c)%B=lo at*;generalize (xk+dz y k+c)/B=hi at*;generalize B^k=p at*;have:p*(B*hi+lo)=p*(xk+dz y k+c):=by rw[hm]
  grind
 ·show (xk+dz y k+c)/B<=1;unfold B at*;omega
 intro e he;rcases jn.1 he with he|he
 ·exact d5 e he
 simp at he;subst he;exact m8 _ (by decide)
def Yqq{x y:Nat}{o d:List Nat}{c:Nat}(hl:(aJ y).length<=(aJ x).length)(d1:d.length=(aJ x).length)(d2:o=d++List.replicate ((aJ x).length+1-(aJ x).length) 0)(d3:val B d+B^(aJ x).length*c=val B ((aJ x).take (aJ x).length)+val B ((aJ y).take (aJ x).length))(d4:c<=1)(d5:Dg d):uV (o.set (aJ x).length c)=aJ (x+y):=by
 rw[d2,show (aJ x).length+1-(aJ x).length=0+1 by omega,Zs3 d1];simp only[List.replicate_zero,zQ];rw[Fk,UR,d1,d3,fU (aM _),fU hl,oO,oO];intro e he;rcases jn.1 he with he|he
 ·exact d5 e he
 simp at he;subst he;unfold B;omega
def Zzl{h:T O}{N:Nat}{vx vy:V}{x y:Nat}(hx:Wn h N vx x)(hy:Wn h N vy y)(rM:(aJ x).length<1099511627776)(O3:(aJ y).length<1099511627776):Fn A.C 221 [vx,vy] h N (fun v' h' N'=>Wn h' N' v' (x+y)):=by
 intro w;have lx:=hx.len;have ly:=hy.len;rw[bz]at lx ly;rw[aQ,A.k221 (by simp)];by_cases hl:(aJ x).length<(aJ y).length
 ·simp(disch:=first|(simp;done)|omega|(simp only[bz,cm,bl];omega)|rfl) [A.b221,lx,ly,hl];refine b_ [(6,8),(22,46)] (fun e r st=>e=.exit 0/\Xbn h N y x r st) (Xbm h N y x) (aJ y).length ?_ ?_ ?_
  ·refine⟨0,List.replicate ((aJ y).length+1) 0,0,by omega,⟨by omega,by simp,by simp,by simp,by simp,ab.refl.set (aM _) |>.up (by omega),by simp[JU],by simp,[],by simp,by simp,by simp[val],by decide,by simp[Dg]⟩⟩
  ·rintro m r ⟨H,n1,W⟩ hr hf ⟨k,o,c,rfl,hk,qo,h6,hn,hW,hK,hN,ho,d,hd⟩;simp only at hn hW hK hN;subst hn;rw[bu];by_cases aE:k<(aJ y).length
   ·obtain⟨i1,o1,c1,e1,w1,p1,p2,p3,p4⟩:=hy.at (fZ (ct aE));have p3:=(hK.get _ p2).trans p3;obtain⟨d1,d2,d3,d4,d5⟩:=hd;have gZ:=Yki (x:=aJ y) (y:=aJ x) (ct aE) d1 d2 d3 d4 d5 (tK y) (tK x);by_cases sL:k<(aJ x).length
    ·obtain⟨i2,o2,c2,e2,w2,q1,q2,q3,q4⟩:=hx.at (fZ (ct sL));have q3:=(hK.get _ q2).trans q3;have hz:dz (aJ x) k=(aJ x)[k]:=by simp[dz,ct sL]
     rw[hz]at gZ;simp(disch:=first|(simp;done)|omega|(simp only[bz,cm,bl];omega)|rfl) [A.gY,hr,qo,h6,aE,sL,ly,lx,p1,p3,p4,q1,q3,q4,hN,rF,hf];exact⟨_,by omega,k+1,_,_,rfl,⟨by omega,by simp,by simp,rfl,by simp[hW],hK.set (aM _),by simp,by simp[ho],_,gZ⟩⟩
    have hz:dz (aJ x) k=0:=by simp[dz,fy (wz.1 sL)]
    rw[hz]at gZ;simp(disch:=first|(simp;done)|omega|(simp only[bz,cm,bl];omega)|rfl) [A.gY,hr,qo,h6,aE,sL,ly,lx,p1,p3,p4,hN,rF,hf];exact⟨_,by omega,k+1,_,_,rfl,⟨by omega,by simp,by simp,rfl,by simp[hW],hK.set (aM _),by simp,by simp[ho],_,gZ⟩⟩
   have R4:k=(aJ y).length:=by omega
   subst R4;simp[A.gY,hr,qo,hf];exact⟨o,c,⟨by omega,by simp[qo],by simp[h6],rfl,by simp[hW],hK,hN,ho,d,hd⟩⟩
  rintro _ r ⟨H,n1,W⟩ hr ⟨rfl,o,c,hk,qo,h6,hn,hW,hK,hN,ho,d,d1,d2,d3,d4,d5⟩;simp only at hn hW hK hN;subst hn;simp(disch:=first|(simp;done)|omega|(simp only[bz,cm,bl];omega)|rfl) [hr,h6,ly,hN,rF];refine ar (Fo (l:=o.set (aJ y).length c) (Sl.row (e:=199) (rw:=true) (by omega) (by simp) (by simp[ho]) (by simp)) (by simp[ho];omega)) ?_;intro v' h' n' iE hs;simp[az];refine⟨hW,(hK.set (aM _)).trans iE,?_⟩;rw[Yqq (by omega) d1 d2 d3 d4 d5]at hs;exact(Nat.add_comm y x▸hs)
 simp(disch:=first|(simp;done)|omega|(simp only[bz,cm,bl];omega)|rfl) [A.b221,lx,ly,hl];refine b_ [(6,8),(22,46)] (fun e r st=>e=.exit 0/\Xbn h N x y r st) (Xbm h N x y) (aJ x).length ?_ ?_ ?_
 ·refine⟨0,List.replicate ((aJ x).length+1) 0,0,by omega,⟨by omega,by simp,by simp,by simp,by simp,ab.refl.set (aM _) |>.up (by omega),by simp[JU],by simp,[],by simp,by simp,by simp[val],by decide,by simp[Dg]⟩⟩
 ·rintro m r ⟨H,n1,W⟩ hr hf ⟨k,o,c,rfl,hk,qo,h6,hn,hW,hK,hN,ho,d,hd⟩;simp only at hn hW hK hN;subst hn;rw[bu];by_cases aE:k<(aJ x).length
  ·obtain⟨i1,o1,c1,e1,w1,p1,p2,p3,p4⟩:=hx.at (fZ (ct aE));have p3:=(hK.get _ p2).trans p3;obtain⟨d1,d2,d3,d4,d5⟩:=hd;have gZ:=Yki (x:=aJ x) (y:=aJ y) (ct aE) d1 d2 d3 d4 d5 (tK x) (tK y);by_cases sL:k<(aJ y).length
   ·obtain⟨i2,o2,c2,e2,w2,q1,q2,q3,q4⟩:=hy.at (fZ (ct sL));have q3:=(hK.get _ q2).trans q3;have hz:dz (aJ y) k=(aJ y)[k]:=by simp[dz,ct sL]
    rw[hz]at gZ;simp(disch:=first|(simp;done)|omega|(simp only[bz,cm,bl];omega)|rfl) [A.gY,hr,qo,h6,aE,sL,lx,ly,p1,p3,p4,q1,q3,q4,hN,rF,hf];exact⟨_,by omega,k+1,_,_,rfl,⟨by omega,by simp,by simp,rfl,by simp[hW],hK.set (aM _),by simp,by simp[ho],_,gZ⟩⟩
   have hz:dz (aJ y) k=0:=by simp[dz,fy (wz.1 sL)]
   rw[hz]at gZ;simp(disch:=first|(simp;done)|omega|(simp only[bz,cm,bl];omega)|rfl) [A.gY,hr,qo,h6,aE,sL,lx,ly,p1,p3,p4,hN,rF,hf];exact⟨_,by omega,k+1,_,_,rfl,⟨by omega,by simp,by simp,rfl,by simp[hW],hK.set (aM _),by simp,by simp[ho],_,gZ⟩⟩
  have R4:k=(aJ x).length:=by omega
  subst R4;simp[A.gY,hr,qo,hf];exact⟨o,c,⟨by omega,by simp[qo],by simp[h6],rfl,by simp[hW],hK,hN,ho,d,hd⟩⟩
 rintro _ r ⟨H,n1,W⟩ hr ⟨rfl,o,c,hk,qo,h6,hn,hW,hK,hN,ho,d,d1,d2,d3,d4,d5⟩;simp only at hn hW hK hN;subst hn;simp(disch:=first|(simp;done)|omega|(simp only[bz,cm,bl];omega)|rfl) [hr,h6,lx,hN,rF];refine ar (Fo (l:=o.set (aJ x).length c) (Sl.row (e:=199) (rw:=true) (by omega) (by simp) (by simp[ho]) (by simp)) (by simp[ho];omega)) ?_;intro v' h' n' iE hs;simp[az];refine⟨hW,(hK.set (aM _)).trans iE,?_⟩;rw[Yqq (by omega) d1 d2 d3 d4 d5]at hs;exact hs
def A.R5:=A.q Tryz.f223
def A.py:=A.ql A.R5 0 []
def A.b223:=(fun x0=>A.qb A.R5 [x0]) A.py
def A.k223:=@A.kk 223 41 [.tmp 4] A.b223 (by kernel_rfl) rfl
def Hk{a b:Nat}(h:a<=b):(aJ a).length<=(aJ b).length:=by
 apply AG;intro hc;have h1:=Hf (b:=B) (tK b);rw[oO]at h1;have h2:∀n,n≠0->B^((aJ n).length-1)<=n:=by
  intro n;induction n using Nat.strongRecOn with
  |_ n ih=>
   intro hn;rw[oM hn];by_cases h0:n/B=0
   ·rw[h0,tJ];simp;omega
   have:=ih (n/B) (Ez (by omega) (by decide)) h0;have hp:0<(aJ (n/B)).length:=by rw[oM h0];simp
   simp only[bl,Nat.add_sub_cancel];rw[show (aJ (n/B)).length=((aJ (n/B)).length-1)+1 by omega,im];have h3:B^((aJ (n/B)).length-1)*B<=n/B*B:=jz B this;have:=Nat.div_mul_le_self n B;omega
 have ha:a≠0:=by rintro rfl;rw[tJ]at hc;simp at hc
 have h3:=h2 a ha;have h4:B^(aJ b).length<=B^((aJ a).length-1):=rO (by decide) (by omega);omega
structure Xbi (h:T O) (N x y k:Nat) (o:List Nat) (c:Nat) (r:T V) (st:St):Prop where
 hk:k<=(aJ x).length
 MK:r.get 14=some (.int .i64 k)
 r6:r.get 6=some (.int .u64 c)
 n:st.n=N+1
 w:ay N st.w=[]
 ad:ab h N st.h (N+1)
 row:st.h.get N=some (.cells (dg o) 199 true)
 len:o.length=(aJ x).length
 ex:∃d,d.length=k/\o=d++List.replicate ((aJ x).length-k) 0/\val B d+val B ((aJ y).take k)=val B ((aJ x).take k)+B^k*c/\c<=1/\Dg d
def Xcz(h:T O)(N x y m:Nat)(r:T V)(st:St):Prop:=∃k o c,m=(aJ x).length-k/\Xbi h N x y k o c r st
def Xc0(h:T O)(N x y:Nat)(r:T V)(st:St):Prop:=∃o c,Xbi h N x y (aJ x).length o c r st
def Yrg{x y o d:List Nat}{k c xk:Nat}(hx:x[k]?=some xk)(d1:d.length=k)(d2:o=d++List.replicate (x.length-k) 0)(d3:val B d+val B (y.take k)=val B (x.take k)+B^k*c)(d4:c<=1)(d5:Dg d)(gx:Dg x)(gy:Dg y):
  (d++[e_ xk (dz y k) c]).length=k+1/\o.set k (e_ xk (dz y k) c)=(d++[e_ xk (dz y k) c])++List.replicate (x.length-(k+1)) 0/\val B (d++[e_ xk (dz y k) c])+val B (y.take (k+1))=val B (x.take (k+1))+B^(k+1)*gk xk (dz y k) c/\gk xk (dz y k) c<=1/\Dg (d++[e_ xk (dz y k) c]):=by
 have hk:k<x.length:=by apply vC;intro hc;rw[fy hc]at hx;cases hx
 have hxk:=gx.get hx;have hyk:=Yyf gy k;have hs:e_ xk (dz y k) c+dz y k+c=xk+B*gk xk (dz y k) c/\e_ xk (dz y k) c<B/\gk xk (dz y k) c<=1:=by unfold e_ gk;unfold B at*;split<;>omega
 refine⟨by simp[d1],?_,?_,hs.2.2,?_⟩
 ·rw[d2,show x.length-k=(x.length-(k+1))+1 by omega,Zs3 d1]
 ·rw[UR,Fj,Fj,d1,show dz x k=xk by simp[dz,hx],im];have h1:=hs.1;generalize e_ xk (dz y k) c=s at*;generalize gk xk (dz y k) c=b at*;generalize B^k=p at*;have:p*(s+dz y k+c)=p*(xk+B*b):=by rw[h1]
  grind
 intro e he;rcases jn.1 he with he|he
 ·exact d5 e he
 simp at he;subst he;exact hs.2.1
def Ywk{x y:Nat}{o d:List Nat}{c:Nat}(hl:y<=x)(d1:d.length=(aJ x).length)(d2:o=d++List.replicate ((aJ x).length-(aJ x).length) 0)(d3:val B d+val B ((aJ y).take (aJ x).length)=val B ((aJ x).take (aJ x).length)+B^(aJ x).length*c)(d4:c<=1)(d5:Dg d):uV o=aJ (x-y):=by
 rw[d2,Nat.sub_self];simp only[List.replicate_zero,zQ];rw[Fk d5];congr 1;rw[fU (aM _),fU (Hk hl),oO,oO]at d3;have:=Hf d5;rw[d1]at this;rcases Nat.lt_or_ge c 1 with hc|hc
 ·have:c=0:=by omega
  subst this;simp at d3;omega
 have:c=1:=by omega
 subst this;omega
def Zo8{h:T O}{N:Nat}{vx vy:V}{x y:Nat}(hx:Wn h N vx x)(hy:Wn h N vy y)(VJ:y<=x)(rM:(aJ x).length<1099511627776)(O3:(aJ y).length<1099511627776):Fn A.C 223 [vx,vy] h N (fun v' h' N'=>Wn h' N' v' (x-y)):=by
 intro w;have lx:=hx.len;have ly:=hy.len;rw[bz]at lx ly;rw[aQ,A.k223 (by simp)];simp(disch:=first|(simp;done)|omega|(simp only[bz,cm,bl];omega)|rfl) [A.b223,lx,ly];refine b_ [(6,8),(14,38)] (fun e r st=>e=.exit 0/\Xc0 h N x y r st) (Xcz h N x y) (aJ x).length ?_ ?_ ?_
 ·refine⟨0,List.replicate (aJ x).length 0,0,by omega,⟨by omega,by simp,by simp,by simp,by simp,ab.refl.set (aM _) |>.up (by omega),by simp[JU],by simp,[],by simp,by simp,by simp[val],by decide,by simp[Dg]⟩⟩
 ·rintro m r ⟨H,n1,W⟩ hr hf ⟨k,o,c,rfl,hk,qo,h6,hn,hW,hK,hN,ho,d,hd⟩;simp only at hn hW hK hN;subst hn;rw[bu];by_cases aE:k<(aJ x).length
  ·obtain⟨i1,o1,c1,e1,w1,p1,p2,p3,p4⟩:=hx.at (fZ (ct aE));have p3:=(hK.get _ p2).trans p3;obtain⟨d1,d2,d3,d4,d5⟩:=hd;have gZ:=Yrg (x:=aJ x) (y:=aJ y) (ct aE) d1 d2 d3 d4 d5 (tK x) (tK y);by_cases sL:k<(aJ y).length
   ·obtain⟨i2,o2,c2,e2,w2,q1,q2,q3,q4⟩:=hy.at (fZ (ct sL));have q3:=(hK.get _ q2).trans q3;have hz:dz (aJ y) k=(aJ y)[k]:=by simp[dz,ct sL]
    rw[hz]at gZ;simp(disch:=first|(simp;done)|omega|(simp only[bz,cm,bl];omega)|rfl) [A.py,hr,qo,h6,aE,sL,lx,ly,p1,p3,p4,q1,q3,q4,hN,rF,hf];exact⟨_,by omega,k+1,_,_,rfl,⟨by omega,by simp,by simp,rfl,by simp[hW],hK.set (aM _),by simp,by simp[ho],_,gZ⟩⟩
   have hz:dz (aJ y) k=0:=by simp[dz,fy (wz.1 sL)]
   rw[hz]at gZ;simp(disch:=first|(simp;done)|omega|(simp only[bz,cm,bl];omega)|rfl) [A.py,hr,qo,h6,aE,sL,lx,ly,p1,p3,p4,hN,rF,hf];exact⟨_,by omega,k+1,_,_,rfl,⟨by omega,by simp,by simp,rfl,by simp[hW],hK.set (aM _),by simp,by simp[ho],_,gZ⟩⟩
  have R4:k=(aJ x).length:=by omega
  subst R4;simp[A.py,hr,qo,hf];exact⟨o,c,⟨by omega,by simp[qo],by simp[h6],rfl,by simp[hW],hK,hN,ho,d,hd⟩⟩
 rintro _ r ⟨H,n1,W⟩ hr ⟨rfl,o,c,hk,qo,h6,hn,hW,hK,hN,ho,d,d1,d2,d3,d4,d5⟩;simp only at hn hW hK hN;subst hn;simp[hr];refine ar (Fo (l:=o) (Sl.row (e:=199) (rw:=true) (by omega) (by simp[hN]) (by simp[ho]) (by simp)) (by simp[ho];omega)) ?_;intro v' h' n' iE hs;simp[az];refine⟨hW,hK.trans iE,?_⟩;rw[Ywk VJ d1 d2 d3 d4 d5]at hs;exact hs
end
end Go.Mx
