/-lensletref01-/
import Derived.Test.YtokjleejipaidaaGreatDoorRcE
set_option linter.all false
namespace Go.Mx
noncomputable section
open Go Go.Proofs
set_option maxRecDepth 1000000
def A.b225:=A.q Tryz.f225
def A.k225:=@A.kk 225 54 [.tmp 2,.tmp 3,.tmp 4] A.b225 (by kernel_rfl) rfl
def QB(q:Rat):aQ:=if q.den=1 then aq q.num.natAbs else aq q.num.natAbs++47::aq q.den
def Cr(q:Rat):aP q=if q.num<0 then 45::QB q else QB q:=by
 unfold aP QB aL
 by_cases h1:q.den=1<;>by_cases h2:q.num<0<;>simp[h1,h2]
def Ylp(q:Rat):ah (QB q)=(aq q.num.natAbs).length:=by
 unfold QB
 split
 ·exact RD (Kp (zQ _))
 ·exact RC (Kp (zQ _))
def Yrq(q:Rat):(QB q).take (aq q.num.natAbs).length=aq q.num.natAbs:=by
 unfold QB
 split
 ·exact fb (aO _)
 ·exact List.take_left
def Yrr{q:Rat}(h:q.den≠1):(QB q).drop ((aq q.num.natAbs).length+1)=aq q.den:=by
 unfold QB
 rw[ak h,<-List.drop_drop,List.drop_left];rfl
def Ym2(q:Rat):(QB q).length=(aq q.num.natAbs).length+(if q.den=1 then 0 else (aq q.den).length+1):=by
 unfold QB
 split<;>simp
def Zxf(q:Rat):∃c t,QB q=c::t/\48<=c.toNat:=by
 obtain⟨c,t,h,h1,_⟩:=Zqw (n:=q.num.natAbs)
 unfold QB
 split
 ·exact⟨c,t,h,h1⟩
 ·exact⟨c,t++47::aq q.den,by rw[h];rfl,h1⟩
def Ydx{q:Rat}{st:St}(hl:(aP q).length<=20):A.C.call (.func 225 [] []) [.str (aP q)] st=some (if q.num.natAbs<1000000000/\q.den<1000000000 then .aV [.int .i64 q.num,.int .i64 q.den,.bool true] else .aV [.int .i64 0,.int .i64 0,.bool false],st):=by
 obtain⟨c,t,hB,hc⟩:=Zxf q
 have hs:=Ylp q
 have ht:=Yrq q
 have DW:=Ym2 q
 have h9:=Pp (n:=q.num.natAbs)
 have h9d:=Pp (n:=q.den)
 have hn:=fun h st=>Yma (n:=q.num.natAbs) h st
 have hd:=fun h st=>Yma (n:=q.den) h st
 have yp:=Yrr (q:=q)
 have D8:¬cK c=45:=by unfold cK;omega
 have l7:=Cr q
 have Pq:(QB q).length<=20:=by
  rw[l7]at hl
  split at hl
  ·simp only[bo]at hl;omega
  ·exact hl
 have cD:=fun st=>F7 (s:=QB q) (st:=st) (by omega)
 rw[hs]at cD
 have gl:(QB q)[0]?=some c:=by rw[hB];rfl
 have hh:(QB q).head?=some c:=by rw[hB];rfl
 have aW:QB q≠[]:=by rw[hB];simp
 have DT:0<(QB q).length:=by rw[hB];simp
 have D9:(0:Int)<((QB q).length:Int):=by omega
 have uG:¬(20:Int)<((QB q).length:Int):=by omega
 have zP:(aq q.num.natAbs).length<=(QB q).length:=by omega
 have zbh:((aq q.num.natAbs).length:Int)<=((QB q).length:Int):=by omega
 have k0:0<=(aq q.num.natAbs).length:=uN _
 have w1:bh .i64 (((QB q).length:Int)-((aq q.num.natAbs).length:Int))=((QB q).length:Int)-((aq q.num.natAbs).length:Int):=cE (by omega) (by omega)
 have w2:bh .i64 (((aq q.num.natAbs).length:Int)+1)=((aq q.num.natAbs).length:Int)+1:=cE (by omega) (by omega)
 have a3:∀st:St,uC st (some (.str (45::QB q))) (some (some (.int .i64 1))) (some none)=some (.str (QB q),st):=fun st=>by rw[Ia (by omega) (by simp only[bo];omega)];rfl
 have a4:∀st:St,uC st (some (.str (QB q))) (some none) (some (some (.int .i64 (aq q.num.natAbs).length)))=some (.str (aq q.num.natAbs),st):=fun st=>by rw[YL (by omega) (by omega),Int.toNat_natCast,ht]
 apply Call.eq
 rw[aM,A.k225 (by simp),l7]
 by_cases e9:q.num.natAbs<1000000000
 ·have g9:¬(9:Int)<((aq q.num.natAbs).length:Int):=by have:=h9.2 e9;omega
  have hn:=hn e9
  by_cases e1:q.den=1
  ·rw[ax e1]at DW
   have Gb:¬(10:Int)<((QB q).length:Int)-((aq q.num.natAbs).length:Int):=by omega
   have Pr:¬((aq q.num.natAbs).length:Int)<((QB q).length:Int):=by omega
   have Ps:¬(aq q.num.natAbs).length<(QB q).length:=by omega
   rw[e1]
   by_cases hz:q.num<0
   ·have ez:(q.num.natAbs:Int)= -q.num:=by omega
    have w3:bh .i64 (0-(q.num.natAbs:Int))=q.num:=by rw[ez];rw[cE (by omega) (by omega)];omega
    have a5:cK 45=45:=rfl
    have eg:(QB q).length+1<=20:=by rw[l7,ax hz]at hl;simpa using hl
    have DR:¬(20:Int)<((QB q).length:Int)+1:=by omega
    have zV:(0:Int)<((QB q).length:Int)+1:=by omega
    simp(disch:=first|(simp;done)|omega|rfl) [-getElem?_pos,A.b225,hz,uG,DR,zV,a3,a5,cD,aJ,aB,g9,Gb,Pr,Ps,w1,w3,a4,hn,e9]
    omega
   ·have ez:(q.num.natAbs:Int)=q.num:=by omega
    simp(disch:=first|(simp;done)|omega|rfl) [-getElem?_pos,A.b225,hz,gl,hh,aW,DT,D9,uG,D8,cD,aJ,aB,g9,Gb,Pr,Ps,w1,a4,hn,ez,e9]
  ·rw[ak e1]at DW
   have yp:=yp e1
   have Pr:((aq q.num.natAbs).length:Int)<((QB q).length:Int):=by omega
   have Ps:(aq q.num.natAbs).length<(QB q).length:=by omega
   have a6:∀st:St,uC st (some (.str (QB q))) (some (some (.int .i64 (((aq q.num.natAbs).length:Int)+1)))) (some none)=some (.str (aq q.den),st):=fun st=>by
    rw[Ia (by omega) (by omega)]
    have:(((aq q.num.natAbs).length:Int)+1).toNat=(aq q.num.natAbs).length+1:=by omega
    rw[this,yp]
   by_cases e10:q.den<1000000000
   ·have Gb:¬(10:Int)<((QB q).length:Int)-((aq q.num.natAbs).length:Int):=by have:=h9d.2 e10;omega
    have hd:=hd e10
    by_cases hz:q.num<0
    ·have ez:(q.num.natAbs:Int)= -q.num:=by omega
     have w3:bh .i64 (0-(q.num.natAbs:Int))=q.num:=by rw[ez];rw[cE (by omega) (by omega)];omega
     have a5:cK 45=45:=rfl
     have eg:(QB q).length+1<=20:=by rw[l7,ax hz]at hl;simpa using hl
     have DR:¬(20:Int)<((QB q).length:Int)+1:=by omega
     have zV:(0:Int)<((QB q).length:Int)+1:=by omega
     simp(disch:=first|(simp;done)|omega|rfl) [-getElem?_pos,A.b225,hz,uG,DR,zV,a3,a5,a6,cD,aJ,aB,g9,Gb,Pr,Ps,w1,w2,w3,a4,hn,hd,e9,e10]
     omega
    ·have ez:(q.num.natAbs:Int)=q.num:=by omega
     simp(disch:=first|(simp;done)|omega|rfl) [-getElem?_pos,A.b225,hz,gl,hh,aW,DT,D9,uG,D8,a6,cD,aJ,aB,g9,Gb,Pr,Ps,w1,w2,a4,hn,hd,ez,e9,e10]
   ·have Gb:(10:Int)<((QB q).length:Int)-((aq q.num.natAbs).length:Int):=by
     have:¬(aq q.den).length<=9:=fun hc=>e10 (h9d.1 hc)
     omega
    by_cases hz:q.num<0
    ·have a5:cK 45=45:=rfl
     have eg:(QB q).length+1<=20:=by rw[l7,ax hz]at hl;simpa using hl
     have DR:¬(20:Int)<((QB q).length:Int)+1:=by omega
     have zV:(0:Int)<((QB q).length:Int)+1:=by omega
     simp(disch:=first|(simp;done)|omega|rfl) [-getElem?_pos,A.b225,hz,uG,DR,zV,a3,a5,cD,aJ,aB,g9,Gb,w1,e9,e10]
    ·simp(disch:=first|(simp;done)|omega|rfl) [-getElem?_pos,A.b225,hz,gl,hh,aW,DT,D9,uG,D8,cD,aJ,aB,g9,Gb,w1,e9,e10]
 ·have g9:(9:Int)<((aq q.num.natAbs).length:Int):=by
   have:¬(aq q.num.natAbs).length<=9:=fun hc=>e9 (h9.1 hc)
   omega
  by_cases hz:q.num<0
  ·have a5:cK 45=45:=rfl
   have eg:(QB q).length+1<=20:=by rw[l7,ax hz]at hl;simpa using hl
   have DR:¬(20:Int)<((QB q).length:Int)+1:=by omega
   have zV:(0:Int)<((QB q).length:Int)+1:=by omega
   simp(disch:=first|(simp;done)|omega|rfl) [-getElem?_pos,A.b225,hz,uG,DR,zV,a3,a5,cD,aJ,aB,g9,e9]
  ·simp(disch:=first|(simp;done)|omega|rfl) [-getElem?_pos,A.b225,hz,gl,hh,aW,DT,D9,uG,D8,cD,aJ,aB,g9,e9]
def Zz3{q:Rat}{st:St}(h1:20<(aP q).length):A.C.call (.func 225 [] []) [.str (aP q)] st=some (.aV [.int .i64 0,.int .i64 0,.bool false],st):=by
 have h2:(20:Int)<((aP q).length:Int):=by omega
 apply Call.eq
 rw[aM,A.k225 (by simp)]
 simp[A.b225,h2]
def Yfw{q:Rat}(h:q.num.natAbs<1000000000/\q.den<1000000000):(aP q).length<=20:=by
 have h1:=Pp.2 h.1
 have h2:=Pp.2 h.2
 have h3:=Ym2 q
 rw[Cr]
 split
 ·simp only[bo];split at h3<;>omega
 ·split at h3<;>omega
def Zxv{q:Rat}{st:St}:A.C.call (.func 225 [] []) [.str (aP q)] st=some (if q.num.natAbs<1000000000/\q.den<1000000000 then .aV [.int .i64 q.num,.int .i64 q.den,.bool true] else .aV [.int .i64 0,.int .i64 0,.bool false],st):=by
 by_cases h:(aP q).length<=20
 ·exact Ydx h
 ·rw[ak fun hc=>h (Yfw hc)]
  exact Zz3 (by omega)
variable {j:Nat}
set_option maxHeartbeats 2000000
def A.b181:=A.q Tryz.f181
def A.k181:=@A.kk 181 55 [.tmp 4] A.b181 (by kernel_rfl) rfl
def Zqn(a b:Rat):a*b=Rat.divInt (a.num*b.num) ((a.den:Int)*(b.den:Int)):=by
 rw[Rat.mul_def,Rat.normalize_eq_mkRat,<-Rat.divInt_ofNat]
 simp
def Zq2(a b:Rat):a+b=Rat.divInt (a.num*(b.den:Int)+b.num*(a.den:Int)) ((a.den:Int)*(b.den:Int)):=by
 rw[Rat.add_def,Rat.normalize_eq_mkRat,<-Rat.divInt_ofNat]
 simp
def Pt{a b:Nat}(h1:a<1000000000)(h2:b<1000000000):a*b<=1000000000000000000:=by
 have:=oL (Nat.le_of_lt h1) (Nat.le_of_lt h2)
 omega
def S8(q:Rat):∃(n d:Int) (o:Bool),(∀st,A.C.call (.func 225 [] []) [.str (aP q)] st=some (.aV [.int .i64 n,.int .i64 d,.bool o],st))/\(o=true->n=q.num/\d=(q.den:Int)/\q.num.natAbs<1000000000/\q.den<1000000000):=by
 by_cases f:q.num.natAbs<1000000000/\q.den<1000000000
 ·exact⟨q.num,q.den,true,fun st=>by rw[Zxv,ax f],fun _=>⟨rfl,rfl,f⟩⟩
 ·exact⟨0,0,false,fun st=>by rw[Zxv,ak f],fun h=>by cases h⟩
def Rg.qg{h:T O}{N:Nat}{v:V}{z:Int}(s:Rg h N v z):∃u,v=.agg [.bool (decide (z<0)),u]/\V.one u=true/\V.cells u=[u]/\Hw u:=by
 obtain⟨u,rfl,hu⟩:=s
 exact⟨u,rfl,(Sl.form hu).one,(Sl.form hu).cells,Sl.form hu⟩
def Pv{a b:Int}{k:Nat}(h1:a.natAbs<2^j)(h2:b.natAbs<2^k):(a*b).natAbs<2^(j+k):=by
 rw[vA,kj]
 exact BR h1 h2
def Zrv{a b:Int}(h1:a.natAbs<2^j)(h2:b.natAbs<2^j):(a+b).natAbs<2^(j+1):=by
 have:=Int.natAbs_add_le a b
 rw[gw];omega
def VV{a b:Rat}{k:Nat}{h:T O}{N:Nat}(ha:Qb j a)(hb:Qb k b)(hj:j<=400000000)(hk:k<=400000000):Fn A.C 181 [.str (aP a),.str (aP b)] h N (fun u _ _=>u=.str (aP (a*b))):=by
 intro w
 obtain⟨n1,d1,o1,qo,f1⟩:=S8 a
 obtain⟨n2,d2,o2,km,f2⟩:=S8 b
 have pa:=Rat.den_pos a
 have pb:=Rat.den_pos b
 rw[aM,A.k181 (by simp)]
 have key:(o1=true/\o2=true)\/(o1=false\/(o1=true/\o2=false)):=by cases o1<;>cases o2<;>simp
 rcases key with⟨rfl,rfl⟩|key
 ·obtain⟨rfl,rfl,g1⟩:=f1 rfl
  obtain⟨rfl,rfl,g2⟩:=f2 rfl
  have m1:(a.num*b.num).natAbs<=1000000000000000000:=by rw[vA];exact Pt g1.1 g2.1
  have m2:a.den*b.den<=1000000000000000000:=Pt g1.2 g2.2
  have m3:0<a.den*b.den:=zr pa pb
  have e2:(a.den:Int)*(b.den:Int)=((a.den*b.den:Nat):Int):=by simp
  have w1:bh .i64 (a.num*b.num)=a.num*b.num:=cE (by omega) (by omega)
  have w2:bh .i64 ((a.den:Int)*(b.den:Int))=(a.den:Int)*(b.den:Int):=by rw[e2];exact cE (by omega) (by omega)
  have ho:=fun st=>Ysy (p:=a.num*b.num) (q:=(a.den:Int)*(b.den:Int)) (st:=st) (by omega) (by omega) (by omega) (by omega) (by omega)
  rw[<-Zqn]at ho
  simp[A.b181,qo,km,w1,w2,ho,az]
  exact ab.refl
 ·have la:=Gm ha.1
  have KM:=Eh ha.2
  have lb:=Gm hb.1
  have lb2:=Eh hb.2
  have z1:=u_ ha.1
  have z2:=u_ hb.1
  have z3:=u_ ha.2
  have z4:=u_ hb.2
  rcases key with rfl|⟨rfl,rfl⟩
  all_goals simp[A.b181,qo,km]
  all_goals
   refine ay (Po (q:=a) (by omega) (by omega)) ?_
   rintro _ h1 t1 k1 ⟨x1,y1,rfl,X1,Y1⟩
   obtain⟨u1,rfl,p1,p2,F1⟩:=X1.qg
   obtain⟨v1,rfl,p3,p4,G1⟩:=Y1.qg
   unfold V.one at p1 p3
   unfold V.cells at p2 p4
   have KA:=((((ab.refl (h:=h1) (n:=t1)).new (.cells [.bool false,.aa] 143 true)).new (.cells [.bool false,.aa] 143 true)).set (i:=t1) (o:=.cells [.bool (decide (a.num<0)),u1] 143 true) (aO _)).set (i:=t1+1) (o:=.cells [.bool (decide ((a.den:Int)<0)),v1] 143 true) (by omega)
   have c0:¬t1+1=t1:=by omega
   have c00:¬t1=t1+1:=by omega
   simp[p1,p2,p3,p4,bD,ae,c0]
   generalize Bk:(((h1.set t1 (.cells [.bool false,.aa] 143 true)).set (t1+1) (.cells [.bool false,.aa] 143 true)).set t1 (.cells [.bool (decide (a.num<0)),u1] 143 true)).set (t1+1) (.cells [.bool (decide ((a.den:Int)<0)),v1] 143 true)=HA at*
   have GC:HA.get t1=some (.cells [.bool (decide (a.num<0)),u1] 143 true):=by rw[<-Bk];simp[c0,c00]
   have Pw:HA.get (t1+1)=some (.cells [.bool (decide ((a.den:Int)<0)),v1] 143 true):=by rw[<-Bk];simp
   have X1:=X1.ad KA
   have Y1:=Y1.ad KA
   clear Bk
   refine ay (Po (q:=b) (by omega) (by omega)) ?_
   rintro _ h2 t2 k2 ⟨x2,y2,rfl,X2,Y2⟩
   obtain⟨u2,rfl,p5,p6,F2⟩:=X2.qg
   obtain⟨v2,rfl,p7,p8,G2⟩:=Y2.qg
   unfold V.one at p5 p7
   unfold V.cells at p6 p8
   have KB:=((((ab.refl (h:=h2) (n:=t2)).new (.cells [.bool false,.aa] 143 true)).new (.cells [.bool false,.aa] 143 true)).set (i:=t2) (o:=.cells [.bool (decide (b.num<0)),u2] 143 true) (aO _)).set (i:=t2+1) (o:=.cells [.bool (decide ((b.den:Int)<0)),v2] 143 true) (by omega)
   have c1:¬t2+1=t2:=by omega
   have c11:¬t2=t2+1:=by omega
   have i2:=k2.le
   generalize I5:(((h2.set t2 (.cells [.bool false,.aa] 143 true)).set (t2+1) (.cells [.bool false,.aa] 143 true)).set t2 (.cells [.bool (decide (b.num<0)),u2] 143 true)).set (t2+1) (.cells [.bool (decide ((b.den:Int)<0)),v2] 143 true)=HB at*
   have Am:HB.get t2=some (.cells [.bool (decide (b.num<0)),u2] 143 true):=by rw[<-I5];simp[c1,c11]
   have I6:HB.get (t2+1)=some (.cells [.bool (decide ((b.den:Int)<0)),v2] 143 true):=by rw[<-I5];simp
   have Ao:=(KB.get t1 (by omega)).trans ((k2.get t1 (by omega)).trans GC)
   have EB:=(KB.get (t1+1) (by omega)).trans ((k2.get (t1+1) (by omega)).trans Pw)
   have X1:=(X1.ad k2).ad KB
   have Y1:=(Y1.ad k2).ad KB
   have X2:=X2.ad KB
   have Y2:=Y2.ad KB
   have K2:ab h N HB (t2+1+1):=((k1.trans KA).trans k2).trans KB
   have j1:t1<t2+1+1:=by omega
   have j2:t1+1<t2+1+1:=by omega
   have j3:t2<t2+1+1:=by omega
   simp[p5,p6,p7,p8,bD,ae,c1,I5,Am,I6,Ao,EB,aR,aC]
   refine ay (M7 X1 X2 (by omega) (by omega)) ?_
   rintro _ h3 t3 k3 X3
   have i3:=k3.le
   have gC2:=(k3.get (t2+1) (by omega)).trans I6
   have S9:=(k3.get (t1+1) (by omega)).trans EB
   simp[gC2,S9,aR,aC]
   refine ay (M7 (Y1.ad k3) (Y2.ad k3) (by rw[dH];omega) (by rw[dH];omega)) ?_
   rintro _ h4 t4 k4 X4
   have m1:=u_ (Pv ha.1 hb.1)
   have m2:=u_ (Pv (a:=(a.den:Int)) (b:=(b.den:Int)) (j:=j) (k:=k) (by rw[dH];exact ha.2) (by rw[dH];exact hb.2))
   simp[]
   refine ay (Zjx (X3.ad k4) X4 (JN (by omega) (by omega)) (by omega) (by omega)) ?_
   rintro _ h5 t5 k5 rfl
   have j4:t2+1<t3:=by omega
   have j5:t1+1<t3:=by omega
   rw[<-Zqn]
   have i1:=k1.le
   simp[-ar,cn.cr,j1,j2,j3,j4,j5,az]
   exact⟨uK (by simp;omega),((K2.trans k3).trans k4).trans k5⟩
set_option maxHeartbeats 2000000
def A.b183:=A.q Tryz.f183
def A.k183:=@A.kk 183 63 [.tmp 4] A.b183 (by kernel_rfl) rfl
def Yg9{a b:Rat}{j k:Nat}{h:T O}{N:Nat}(ha:Qb j a)(hb:Qb k b)(hj:j<=400000000)(hk:k<=400000000):Fn A.C 183 [.str (aP a),.str (aP b)] h N (fun u _ _=>u=.str (aP (a+b))):=by
 intro w
 obtain⟨n1,d1,o1,qo,f1⟩:=S8 a
 obtain⟨n2,d2,o2,km,f2⟩:=S8 b
 have pa:=Rat.den_pos a
 have pb:=Rat.den_pos b
 rw[aM,A.k183 (by simp)]
 have key:(o1=true/\o2=true)\/(o1=false\/(o1=true/\o2=false)):=by cases o1<;>cases o2<;>simp
 rcases key with⟨rfl,rfl⟩|key
 ·obtain⟨rfl,rfl,g1⟩:=f1 rfl
  obtain⟨rfl,rfl,g2⟩:=f2 rfl
  have m1:(a.num*(b.den:Int)).natAbs<=1000000000000000000:=by rw[vA,dH];exact Pt g1.1 g2.2
  have m4:(b.num*(a.den:Int)).natAbs<=1000000000000000000:=by rw[vA,dH];exact Pt g2.1 g1.2
  have m2:a.den*b.den<=1000000000000000000:=Pt g1.2 g2.2
  have m3:0<a.den*b.den:=zr pa pb
  have e2:(a.den:Int)*(b.den:Int)=((a.den*b.den:Nat):Int):=by simp
  have w1:bh .i64 (a.num*(b.den:Int))=a.num*(b.den:Int):=cE (by omega) (by omega)
  have w3:bh .i64 (b.num*(a.den:Int))=b.num*(a.den:Int):=cE (by omega) (by omega)
  have w2:bh .i64 ((a.den:Int)*(b.den:Int))=(a.den:Int)*(b.den:Int):=by rw[e2];exact cE (by omega) (by omega)
  have w4:bh .i64 (a.num*(b.den:Int)+b.num*(a.den:Int))=a.num*(b.den:Int)+b.num*(a.den:Int):=cE (by omega) (by omega)
  have ho:=fun st=>Ysy (p:=a.num*(b.den:Int)+b.num*(a.den:Int)) (q:=(a.den:Int)*(b.den:Int)) (st:=st) (by omega) (by omega) (by omega) (by omega) (by omega)
  rw[<-Zq2]at ho
  simp[A.b183,qo,km,w1,w2,w3,w4,ho,az]
  exact ab.refl
 ·have la:=Gm ha.1
  have KM:=Eh ha.2
  have lb:=Gm hb.1
  have lb2:=Eh hb.2
  have z1:=u_ ha.1
  have z2:=u_ hb.1
  have z3:=u_ ha.2
  have z4:=u_ hb.2
  rcases key with rfl|⟨rfl,rfl⟩
  all_goals simp[A.b183,qo,km]
  all_goals
   refine ay (Po (q:=a) (by omega) (by omega)) ?_
   rintro _ h1 t1 k1 ⟨x1,y1,rfl,X1,Y1⟩
   obtain⟨u1,rfl,p1,p2,F1⟩:=X1.qg
   obtain⟨v1,rfl,p3,p4,G1⟩:=Y1.qg
   unfold V.one at p1 p3
   unfold V.cells at p2 p4
   have KA:=((((ab.refl (h:=h1) (n:=t1)).new (.cells [.bool false,.aa] 143 true)).new (.cells [.bool false,.aa] 143 true)).set (i:=t1) (o:=.cells [.bool (decide (a.num<0)),u1] 143 true) (aO _)).set (i:=t1+1) (o:=.cells [.bool (decide ((a.den:Int)<0)),v1] 143 true) (by omega)
   have c0:¬t1+1=t1:=by omega
   have c00:¬t1=t1+1:=by omega
   simp[p1,p2,p3,p4,bD,ae,c0]
   generalize Bk:(((h1.set t1 (.cells [.bool false,.aa] 143 true)).set (t1+1) (.cells [.bool false,.aa] 143 true)).set t1 (.cells [.bool (decide (a.num<0)),u1] 143 true)).set (t1+1) (.cells [.bool (decide ((a.den:Int)<0)),v1] 143 true)=HA at*
   have GC:HA.get t1=some (.cells [.bool (decide (a.num<0)),u1] 143 true):=by rw[<-Bk];simp[c0,c00]
   have Pw:HA.get (t1+1)=some (.cells [.bool (decide ((a.den:Int)<0)),v1] 143 true):=by rw[<-Bk];simp
   have X1:=X1.ad KA
   have Y1:=Y1.ad KA
   clear Bk
   refine ay (Po (q:=b) (by omega) (by omega)) ?_
   rintro _ h2 t2 k2 ⟨x2,y2,rfl,X2,Y2⟩
   obtain⟨u2,rfl,p5,p6,F2⟩:=X2.qg
   obtain⟨v2,rfl,p7,p8,G2⟩:=Y2.qg
   unfold V.one at p5 p7
   unfold V.cells at p6 p8
   have KB:=((((ab.refl (h:=h2) (n:=t2)).new (.cells [.bool false,.aa] 143 true)).new (.cells [.bool false,.aa] 143 true)).set (i:=t2) (o:=.cells [.bool (decide (b.num<0)),u2] 143 true) (aO _)).set (i:=t2+1) (o:=.cells [.bool (decide ((b.den:Int)<0)),v2] 143 true) (by omega)
   have c1:¬t2+1=t2:=by omega
   have c11:¬t2=t2+1:=by omega
   have i2:=k2.le
   generalize I5:(((h2.set t2 (.cells [.bool false,.aa] 143 true)).set (t2+1) (.cells [.bool false,.aa] 143 true)).set t2 (.cells [.bool (decide (b.num<0)),u2] 143 true)).set (t2+1) (.cells [.bool (decide ((b.den:Int)<0)),v2] 143 true)=HB at*
   have Am:HB.get t2=some (.cells [.bool (decide (b.num<0)),u2] 143 true):=by rw[<-I5];simp[c1,c11]
   have I6:HB.get (t2+1)=some (.cells [.bool (decide ((b.den:Int)<0)),v2] 143 true):=by rw[<-I5];simp
   have Ao:=(KB.get t1 (by omega)).trans ((k2.get t1 (by omega)).trans GC)
   have EB:=(KB.get (t1+1) (by omega)).trans ((k2.get (t1+1) (by omega)).trans Pw)
   have X1:=(X1.ad k2).ad KB
   have Y1:=(Y1.ad k2).ad KB
   have X2:=X2.ad KB
   have Y2:=Y2.ad KB
   have K2:ab h N HB (t2+1+1):=((k1.trans KA).trans k2).trans KB
   have j1:t1<t2+1+1:=by omega
   have j2:t1+1<t2+1+1:=by omega
   have j3:t2<t2+1+1:=by omega
   simp[p5,p6,p7,p8,bD,ae,c1,I5,Am,I6,Ao,EB,aR,aC]
   refine ay (M7 X1 Y2 (by omega) (by rw[dH];omega)) ?_
   rintro _ h3 t3 k3 X3
   have i3:=k3.le
   have Wm:=(k3.get t2 (by omega)).trans Am
   have gC2:=(k3.get (t2+1) (by omega)).trans I6
   have S9:=(k3.get (t1+1) (by omega)).trans EB
   simp[Wm,S9,aR,aC]
   refine ay (M7 (X2.ad k3) (Y1.ad k3) (by omega) (by rw[dH];omega)) ?_
   rintro _ h4 t4 k4 X4
   have i4:=k4.le
   have b1:=Pv (b:=(b.den:Int)) (k:=k) ha.1 (by rw[dH];exact hb.2)
   have b2:=Pv (b:=(a.den:Int)) (k:=j) hb.1 (by rw[dH];exact ha.2)
   rw[Nat.add_comm k j]at b2
   have m1:=u_ b1
   have m2:=u_ b2
   have m3:=u_ (Zrv b1 b2)
   have m4:=u_ (Pv (a:=(a.den:Int)) (b:=(b.den:Int)) (j:=j) (k:=k) (by rw[dH];exact ha.2) (by rw[dH];exact hb.2))
   simp[]
   refine ay (Yoo (X3.ad k4) X4 (by omega) (by omega)) ?_
   rintro _ h5 t5 k5 X5
   have i5:=k5.le
   have gD2:=(k5.get (t2+1) (by omega)).trans ((k4.get (t2+1) (by omega)).trans gC2)
   have QJ:=(k5.get (t1+1) (by omega)).trans ((k4.get (t1+1) (by omega)).trans S9)
   simp[gD2,QJ,aR,aC]
   refine ay (M7 (((Y1.ad k3).ad k4).ad k5) (((Y2.ad k3).ad k4).ad k5) (by rw[dH];omega) (by rw[dH];omega)) ?_
   rintro _ h6 t6 k6 X6
   simp[]
   refine ay (Zjx (X5.ad k6) X6 (JN (by omega) (by omega)) (by omega) (by omega)) ?_
   rintro _ h7 t7 k7 rfl
   have j4:t2+1<t3:=by omega
   have j5:t1+1<t3:=by omega
   have j6:t2<t3:=by omega
   have j7:t2+1<t5:=by omega
   have j8:t1+1<t5:=by omega
   rw[<-Zq2]
   have i1:=k1.le
   simp[-ar,cn.cr,j1,j2,j3,j4,j5,j6,j7,j8,az]
   exact⟨uK (by simp;omega),((((K2.trans k3).trans k4).trans k5).trans k6).trans k7⟩
set_option maxHeartbeats 2000000
def A.b202:=A.q Tryz.f202
def A.k202:=@A.kk 202 51 [.tmp 4,.tmp 5] A.b202 (by kernel_rfl) rfl
def Ys2{x y:Nat}(hx:x<18446744073709551616)(hy:y<18446744073709551616):cJ (cJ (cN (av x 32) (av y 32)) (av (cJ (cN (av x 32) (eP y)) (av (cN (eP x) (eP y)) 32)) 32)) (av (cJ (eP (cJ (cN (av x 32) (eP y)) (av (cN (eP x) (eP y)) 32))) (cN (eP x) (av y 32))) 32)=cm (x*y):=by
 simp only[cJ,cN,av,eP,cm,Nat.reducePow]
 have ex:x=x/4294967296*4294967296+x%4294967296:=by omega
 have ey:y=y/4294967296*4294967296+y%4294967296:=by omega
 have nz:x%4294967296<4294967296:=kQ _ (by decide)
 have yk:y%4294967296<4294967296:=kQ _ (by decide)
 have tS:x/4294967296<4294967296:=by omega
 have tD:y/4294967296<4294967296:=by omega
 generalize x/4294967296=x1 at*
 generalize x%4294967296=x0 at*
 generalize y/4294967296=y1 at*
 generalize y%4294967296=y0 at*
 have a1:x0*y0<=4294967295*4294967295:=oL (by omega) (by omega)
 have a2:x1*y0<=4294967295*4294967295:=oL (by omega) (by omega)
 have a3:x0*y1<=4294967295*4294967295:=oL (by omega) (by omega)
 have a4:x1*y1<=4294967295*4294967295:=oL (by omega) (by omega)
 have e:x*y=x1*y1*18446744073709551616+(x1*y0+x0*y1)*4294967296+x0*y0:=by
  subst ex;subst ey
  grind
 rw[e]
 generalize x0*y0=p at*
 generalize x1*y0=q at*
 generalize x0*y1=u at*
 generalize x1*y1=z at*
 omega
def Nz{h:T O}{N:Nat}{x y:Nat}(hx:x<18446744073709551616)(hy:y<18446744073709551616):Fn A.C 202 [.int .u64 x,.int .u64 y] h N (fun v' h' N'=>h'=h/\N'=N/\v'=.aV [.int .u64 (cm (x*y):Nat),.int .u64 (bu (x*y):Nat)]):=by
 intro w
 rw[aM,A.k202 (by simp)]
 simp(disch:=first|(simp;done)|omega|(simp only[bB,cC,bo];omega)|rfl) [A.b202]
 rw[Ys2 hx hy]
 exact⟨rfl,ab.refl,rfl,rfl,rfl⟩
def A.Px:=A.q Tryz.f240
def A.nP:=A.ql A.Px 0 []
def A.b240:=(fun x0=>A.qb A.Px [x0]) A.nP
def A.k240:=@A.kk 240 21 [.tmp 2] A.b240 (by kernel_rfl) rfl
def DK{h:T O}{N:Nat}{v:V}{l:List Nat}(hs:Sl h N v (dg l))(hl:l.length<1152921504606846976):Fn A.C 240 [v] h N (fun v' h' N'=>Sl h' N' v' (dg (tF l))):=by
 intro w
 have hlen:=hs.len
 rw[bB]at hlen
 rw[aM,A.k240 (by simp)]
 simp[A.b240,hlen]
 refine bA [(3,3),(6,17)] (fun e r st=>e=.exit 0/\st=⟨h,N,[]⟩/\∃k,k<=l.length/\r.get 3=some (.int .i64 k)/\tF l=l.take k) (fun k r st=>st=⟨h,N,[]⟩/\k<=l.length/\r.get 3=some (.int .i64 k)/\tF (l.take k)=tF l) l.length ?_ ?_ ?_
 ·exact⟨rfl,aO _,by simp,by simp⟩
 ·rintro k r _ hr hf ⟨rfl,hk,h3,ht⟩
  rw[bb]
  cases k with
  |zero=>
   have:tF l=[]:=ht.symm
   simp[A.nP,h3,hf,this]
   exact⟨0,by omega,rfl,.inl rfl⟩
  |succ k=>
   obtain⟨d,hd⟩:∃d,l[k]?=some d:=⟨_,cF (by omega)⟩
   obtain⟨i,o,c,e,rw,q1,q2,q3,q4⟩:=hs.at (fz hd)
   have e1:l.take (k+1)=l.take k++[d]:=by rw[uQ,hd];rfl
   have k1:(0:Int)<(k:Int)+1:=by omega
   have k2:(k:Int)<(l.length:Int):=by omega
   by_cases h0:d=0
   ·subst h0
    rw[e1,Zp3]at ht
    simp(disch:=first|(simp;done)|omega|(simp only[bB,cC,bo];omega)|rfl) [A.nP,h3,hr,hf,k1,hlen,q1,q3,q4]
    exact⟨k,by omega,by omega,rfl,ht⟩
   ·rw[e1,Zp4 h0]at ht
    have hz:((d:Int)==0)=false:=by simp;omega
    simp(disch:=first|(simp;done)|omega|(simp only[bB,cC,bo];omega)|rfl) [A.nP,h3,hr,hf,k1,hlen,q1,q3,q4,hz]
    exact⟨k+1,hk,rfl,by rw[e1];exact ht.symm⟩
 ·rintro _ r _ hr ⟨rfl,rfl,k,hk,h3,ht⟩
  simp[hr,h3,BH,aB]
  obtain⟨v',e1,e2⟩:=Es (w:=[]) hs (lo:=0) (hi:=k) (uN _) (by rw[bB];exact hk) none (some (.int .i64 k)) (.inr ⟨rfl,rfl⟩) (.inl rfl)
  rw[e1]
  simp[az]
  refine⟨ab.refl,?_⟩
  rw[ht,show dg (l.take k)=(dg l).take k by simp[dg]]
  exact e2
set_option maxHeartbeats 2000000
def A.Py:=A.q Tryz.f198
def A.fW:=A.ql A.Py 0 []
def A.b198:=(fun x0=>A.qb A.Py [x0]) A.fW
def A.k198:=@A.kk 198 54 [.tmp 4] A.b198 (by kernel_rfl) rfl
structure Ywo (h:T O) (N x y k:Nat) (o:List Nat) (c:Nat) (r:T V) (st:St):Prop where
 hk:k<=(aG x).length
 r22:r.get 22=some (.int .i64 k)
 r6:r.get 6=some (.int .u64 c)
 n:st.n=N+1
 w:ar N st.w=[]
 ad:ab h N st.h (N+1)
 row:st.h.get N=some (.cells (dg o) 200 true)
 len:o.length=(aG x).length+1
 ex:∃d,d.length=k/\o=d++List.replicate ((aG x).length+1-k) 0/\val B d+B^k*c=val B ((aG x).take k)+val B ((aG y).take k)/\c<=1/\Dg d
def Ywp(h:T O)(N x y m:Nat)(r:T V)(st:St):Prop:=∃k o c,m=(aG x).length-k/\Ywo h N x y k o c r st
def Ywq(h:T O)(N x y:Nat)(r:T V)(st:St):Prop:=∃o c,Ywo h N x y (aG x).length o c r st
def Yg8{x y o d:List Nat}{k c xk:Nat}(hx:x[k]?=some xk)(d1:d.length=k)(d2:o=d++List.replicate (x.length+1-k) 0)(d3:val B d+B^k*c=val B (x.take k)+val B (y.take k))(d4:c<=1)(d5:Dg d)(gx:Dg x)(gy:Dg y):
  (d++[bu (xk+dz y k+c)]).length=k+1/\o.set k (bu (xk+dz y k+c))=(d++[bu (xk+dz y k+c)])++List.replicate (x.length+1-(k+1)) 0/\val B (d++[bu (xk+dz y k+c)])+B^(k+1)*cm (xk+dz y k+c)=val B (x.take (k+1))+val B (y.take (k+1))/\cm (xk+dz y k+c)<=1/\Dg (d++[bu (xk+dz y k+c)]):=by
 have hk:k<x.length:=by
  apply tW;intro hc;rw[fv hc]at hx;cases hx
 have Pz:=gx.get hx
 have hyk:=Yty gy k
 have hm:=uZ (xk+dz y k+c) B
 refine⟨by simp[d1],?_,?_,?_,?_⟩
 ·rw[d2,show x.length+1-k=(x.length-k)+1 by omega,YI d1,show x.length+1-(k+1)=x.length-k by omega]
 ·rw[RX,DF,DF,d1,show dz x k=xk by simp[dz,hx]]
  have e1:bu (xk+dz y k+c)=(xk+dz y k+c)%B:=rfl
  have e2:cm (xk+dz y k+c)=(xk+dz y k+c)/B:=rfl
  rw[e1,e2,gw]
  generalize (xk+dz y k+c)%B=lo at*
  generalize (xk+dz y k+c)/B=hi at*
  generalize B^k=p at*
  have:p*(B*hi+lo)=p*(xk+dz y k+c):=by rw[hm]
  grind
 ·show (xk+dz y k+c)/B<=1
  unfold B at*;omega
 ·intro e he
  rcases lI.1 he with he|he
  ·exact d5 e he
  ·simp at he;subst he;exact kQ _ (by decide)
def Ym0{x y:Nat}{o d:List Nat}{c:Nat}(hl:(aG y).length<=(aG x).length)(d1:d.length=(aG x).length)(d2:o=d++List.replicate ((aG x).length+1-(aG x).length) 0)(d3:val B d+B^(aG x).length*c=val B ((aG x).take (aG x).length)+val B ((aG y).take (aG x).length))(d4:c<=1)(d5:Dg d):tF (o.set (aG x).length c)=aG (x+y):=by
 rw[d2,show (aG x).length+1-(aG x).length=0+1 by omega,YI d1]
 simp only[List.replicate_zero,yK]
 rw[DG,RX,d1,d3,fb (aO _),fb hl,m7,m7]
 intro e he
 rcases lI.1 he with he|he
 ·exact d5 e he
 ·simp at he;subst he;unfold B;omega
def Zxd{h:T O}{N:Nat}{vx vy:V}{x y:Nat}(hx:Wn h N vx x)(hy:Wn h N vy y)(zL:(aG x).length<1099511627776)(Mw:(aG y).length<1099511627776):Fn A.C 198 [vx,vy] h N (fun v' h' N'=>Wn h' N' v' (x+y)):=by
 intro w
 have lx:=hx.len
 have ly:=hy.len
 rw[bB]at lx ly
 rw[aM,A.k198 (by simp)]
 by_cases hl:(aG x).length<(aG y).length
 ·simp(disch:=first|(simp;done)|omega|(simp only[bB,cC,bo];omega)|rfl) [A.b198,lx,ly,hl]
  refine bA [(6,8),(22,46)] (fun e r st=>e=.exit 0/\Ywq h N y x r st) (Ywp h N y x) (aG y).length ?_ ?_ ?_
  ·refine⟨0,List.replicate ((aG y).length+1) 0,0,by omega,⟨by omega,by simp,by simp,by simp,by simp,ab.refl.set (aO _) |>.up (by omega),by simp[HY],by simp,[],by simp,by simp,by simp[val],by decide,by simp[Dg]⟩⟩
  ·rintro m r ⟨H,n1,W⟩ hr hf ⟨k,o,c,rfl,hk,pg,h6,hn,hW,hK,hN,ho,d,hd⟩
   simp only at hn hW hK hN
   subst hn
   rw[bb]
   by_cases au:k<(aG y).length
   ·obtain⟨i1,o1,c1,e1,w1,p1,p2,p3,p4⟩:=hy.at (fz (cF au))
    have p3:=(hK.get _ p2).trans p3
    obtain⟨d1,d2,d3,d4,d5⟩:=hd
    have gb:=Yg8 (x:=aG y) (y:=aG x) (cF au) d1 d2 d3 d4 d5 (rW y) (rW x)
    by_cases qI:k<(aG x).length
    ·obtain⟨i2,o2,c2,e2,w2,q1,q2,q3,q4⟩:=hx.at (fz (cF qI))
     have q3:=(hK.get _ q2).trans q3
     have hz:dz (aG x) k=(aG x)[k]:=by simp[dz,cF qI]
     rw[hz]at gb
     simp(disch:=first|(simp;done)|omega|(simp only[bB,cC,bo];omega)|rfl) [A.fW,hr,pg,h6,au,qI,ly,lx,p1,p3,p4,q1,q3,q4,hN,qe,hf]
     exact⟨_,by omega,k+1,_,_,rfl,⟨by omega,by simp,by simp,rfl,by simp[hW],hK.set (aO _),by simp,by simp[ho],_,gb⟩⟩
    ·have hz:dz (aG x) k=0:=by simp[dz,fv (tK.1 qI)]
     rw[hz]at gb
     simp(disch:=first|(simp;done)|omega|(simp only[bB,cC,bo];omega)|rfl) [A.fW,hr,pg,h6,au,qI,ly,lx,p1,p3,p4,hN,qe,hf]
     exact⟨_,by omega,k+1,_,_,rfl,⟨by omega,by simp,by simp,rfl,by simp[hW],hK.set (aO _),by simp,by simp[ho],_,gb⟩⟩
   ·have PA:k=(aG y).length:=by omega
    subst PA
    simp[A.fW,hr,pg,hf]
    exact⟨o,c,⟨by omega,by simp[pg],by simp[h6],rfl,by simp[hW],hK,hN,ho,d,hd⟩⟩
  ·rintro _ r ⟨H,n1,W⟩ hr ⟨rfl,o,c,hk,pg,h6,hn,hW,hK,hN,ho,d,d1,d2,d3,d4,d5⟩
   simp only at hn hW hK hN
   subst hn
   simp(disch:=first|(simp;done)|omega|(simp only[bB,cC,bo];omega)|rfl) [hr,h6,ly,hN,qe]
   refine ay (DK (l:=o.set (aG y).length c) (Sl.row (e:=200) (rw:=true) (by omega) (by simp) (by simp[ho]) (by simp)) (by simp[ho];omega)) ?_
   intro v' h' n' gS hs
   simp[az]
   refine⟨hW,(hK.set (aO _)).trans gS,?_⟩
   rw[Ym0 (by omega) d1 d2 d3 d4 d5]at hs
   exact(Nat.add_comm y x▸hs)
 ·simp(disch:=first|(simp;done)|omega|(simp only[bB,cC,bo];omega)|rfl) [A.b198,lx,ly,hl]
  refine bA [(6,8),(22,46)] (fun e r st=>e=.exit 0/\Ywq h N x y r st) (Ywp h N x y) (aG x).length ?_ ?_ ?_
  ·refine⟨0,List.replicate ((aG x).length+1) 0,0,by omega,⟨by omega,by simp,by simp,by simp,by simp,ab.refl.set (aO _) |>.up (by omega),by simp[HY],by simp,[],by simp,by simp,by simp[val],by decide,by simp[Dg]⟩⟩
  ·rintro m r ⟨H,n1,W⟩ hr hf ⟨k,o,c,rfl,hk,pg,h6,hn,hW,hK,hN,ho,d,hd⟩
   simp only at hn hW hK hN
   subst hn
   rw[bb]
   by_cases au:k<(aG x).length
   ·obtain⟨i1,o1,c1,e1,w1,p1,p2,p3,p4⟩:=hx.at (fz (cF au))
    have p3:=(hK.get _ p2).trans p3
    obtain⟨d1,d2,d3,d4,d5⟩:=hd
    have gb:=Yg8 (x:=aG x) (y:=aG y) (cF au) d1 d2 d3 d4 d5 (rW x) (rW y)
    by_cases qI:k<(aG y).length
    ·obtain⟨i2,o2,c2,e2,w2,q1,q2,q3,q4⟩:=hy.at (fz (cF qI))
     have q3:=(hK.get _ q2).trans q3
     have hz:dz (aG y) k=(aG y)[k]:=by simp[dz,cF qI]
     rw[hz]at gb
     simp(disch:=first|(simp;done)|omega|(simp only[bB,cC,bo];omega)|rfl) [A.fW,hr,pg,h6,au,qI,lx,ly,p1,p3,p4,q1,q3,q4,hN,qe,hf]
     exact⟨_,by omega,k+1,_,_,rfl,⟨by omega,by simp,by simp,rfl,by simp[hW],hK.set (aO _),by simp,by simp[ho],_,gb⟩⟩
    ·have hz:dz (aG y) k=0:=by simp[dz,fv (tK.1 qI)]
     rw[hz]at gb
     simp(disch:=first|(simp;done)|omega|(simp only[bB,cC,bo];omega)|rfl) [A.fW,hr,pg,h6,au,qI,lx,ly,p1,p3,p4,hN,qe,hf]
     exact⟨_,by omega,k+1,_,_,rfl,⟨by omega,by simp,by simp,rfl,by simp[hW],hK.set (aO _),by simp,by simp[ho],_,gb⟩⟩
   ·have PA:k=(aG x).length:=by omega
    subst PA
    simp[A.fW,hr,pg,hf]
    exact⟨o,c,⟨by omega,by simp[pg],by simp[h6],rfl,by simp[hW],hK,hN,ho,d,hd⟩⟩
  ·rintro _ r ⟨H,n1,W⟩ hr ⟨rfl,o,c,hk,pg,h6,hn,hW,hK,hN,ho,d,d1,d2,d3,d4,d5⟩
   simp only at hn hW hK hN
   subst hn
   simp(disch:=first|(simp;done)|omega|(simp only[bB,cC,bo];omega)|rfl) [hr,h6,lx,hN,qe]
   refine ay (DK (l:=o.set (aG x).length c) (Sl.row (e:=200) (rw:=true) (by omega) (by simp) (by simp[ho]) (by simp)) (by simp[ho];omega)) ?_
   intro v' h' n' gS hs
   simp[az]
   refine⟨hW,(hK.set (aO _)).trans gS,?_⟩
   rw[Ym0 (by omega) d1 d2 d3 d4 d5]at hs
   exact hs
set_option maxHeartbeats 2000000
def A.PB:=A.q Tryz.f200
def A.nQ:=A.ql A.PB 0 []
def A.b200:=(fun x0=>A.qb A.PB [x0]) A.nQ
def A.k200:=@A.kk 200 41 [.tmp 4] A.b200 (by kernel_rfl) rfl
def FR{a b:Nat}(h:a<=b):(aG a).length<=(aG b).length:=by
 apply zB
 intro hc
 have h1:=FN (b:=B) (rW b)
 rw[m7]at h1
 have h2:∀n,n≠0->B^((aG n).length-1)<=n:=by
  intro n
  induction n using Nat.strongRecOn with
  |_ n ih=>
   intro hn
   rw[mZ hn]
   by_cases h0:n/B=0
   ·rw[h0,rV];simp;omega
   ·have:=ih (n/B) (CV (by omega) (by decide)) h0
    have hp:0<(aG (n/B)).length:=by rw[mZ h0];simp
    simp only[bo,Nat.add_sub_cancel]
    rw[show (aG (n/B)).length=((aG (n/B)).length-1)+1 by omega,gw]
    have h3:B^((aG (n/B)).length-1)*B<=n/B*B:=ki B this
    have:=Nat.div_mul_le_self n B
    omega
 have ha:a≠0:=by
  rintro rfl
  rw[rV]at hc;simp at hc
 have h3:=h2 a ha
 have h4:B^(aG b).length<=B^((aG a).length-1):=rJ (by decide) (by omega)
 omega
structure Ywl (h:T O) (N x y k:Nat) (o:List Nat) (c:Nat) (r:T V) (st:St):Prop where
 hk:k<=(aG x).length
 KF:r.get 14=some (.int .i64 k)
 r6:r.get 6=some (.int .u64 c)
 n:st.n=N+1
 w:ar N st.w=[]
 ad:ab h N st.h (N+1)
 row:st.h.get N=some (.cells (dg o) 200 true)
 len:o.length=(aG x).length
 ex:∃d,d.length=k/\o=d++List.replicate ((aG x).length-k) 0/\val B d+val B ((aG y).take k)=val B ((aG x).take k)+B^k*c/\c<=1/\Dg d
def Yx0(h:T O)(N x y m:Nat)(r:T V)(st:St):Prop:=∃k o c,m=(aG x).length-k/\Ywl h N x y k o c r st
def Yx1(h:T O)(N x y:Nat)(r:T V)(st:St):Prop:=∃o c,Ywl h N x y (aG x).length o c r st
def Ynp{x y o d:List Nat}{k c xk:Nat}(hx:x[k]?=some xk)(d1:d.length=k)(d2:o=d++List.replicate (x.length-k) 0)(d3:val B d+val B (y.take k)=val B (x.take k)+B^k*c)(d4:c<=1)(d5:Dg d)(gx:Dg x)(gy:Dg y):
  (d++[eA xk (dz y k) c]).length=k+1/\o.set k (eA xk (dz y k) c)=(d++[eA xk (dz y k) c])++List.replicate (x.length-(k+1)) 0/\val B (d++[eA xk (dz y k) c])+val B (y.take (k+1))=val B (x.take (k+1))+B^(k+1)*fH xk (dz y k) c/\fH xk (dz y k) c<=1/\Dg (d++[eA xk (dz y k) c]):=by
 have hk:k<x.length:=by
  apply tW;intro hc;rw[fv hc]at hx;cases hx
 have Pz:=gx.get hx
 have hyk:=Yty gy k
 have hs:eA xk (dz y k) c+dz y k+c=xk+B*fH xk (dz y k) c/\eA xk (dz y k) c<B/\fH xk (dz y k) c<=1:=by
  unfold eA fH
  unfold B at*
  split<;>omega
 refine⟨by simp[d1],?_,?_,hs.2.2,?_⟩
 ·rw[d2,show x.length-k=(x.length-(k+1))+1 by omega,YI d1]
 ·rw[RX,DF,DF,d1,show dz x k=xk by simp[dz,hx],gw]
  have h1:=hs.1
  generalize eA xk (dz y k) c=s at*
  generalize fH xk (dz y k) c=b at*
  generalize B^k=p at*
  have:p*(s+dz y k+c)=p*(xk+B*b):=by rw[h1]
  grind
 ·intro e he
  rcases lI.1 he with he|he
  ·exact d5 e he
  ·simp at he;subst he;exact hs.2.1
def Ysc{x y:Nat}{o d:List Nat}{c:Nat}(hl:y<=x)(d1:d.length=(aG x).length)(d2:o=d++List.replicate ((aG x).length-(aG x).length) 0)(d3:val B d+val B ((aG y).take (aG x).length)=val B ((aG x).take (aG x).length)+B^(aG x).length*c)(d4:c<=1)(d5:Dg d):tF o=aG (x-y):=by
 rw[d2,Nat.sub_self]
 simp only[List.replicate_zero,yK]
 rw[DG d5]
 congr 1
 rw[fb (aO _),fb (FR hl),m7,m7]at d3
 have:=FN d5
 rw[d1]at this
 rcases Nat.lt_or_ge c 1 with hc|hc
 ·have:c=0:=by omega
  subst this
  simp at d3;omega
 ·have:c=1:=by omega
  subst this
  omega
def Znx{h:T O}{N:Nat}{vx vy:V}{x y:Nat}(hx:Wn h N vx x)(hy:Wn h N vy y)(SK:y<=x)(zL:(aG x).length<1099511627776)(Mw:(aG y).length<1099511627776):Fn A.C 200 [vx,vy] h N (fun v' h' N'=>Wn h' N' v' (x-y)):=by
 intro w
 have lx:=hx.len
 have ly:=hy.len
 rw[bB]at lx ly
 rw[aM,A.k200 (by simp)]
 simp(disch:=first|(simp;done)|omega|(simp only[bB,cC,bo];omega)|rfl) [A.b200,lx,ly]
 refine bA [(6,8),(14,38)] (fun e r st=>e=.exit 0/\Yx1 h N x y r st) (Yx0 h N x y) (aG x).length ?_ ?_ ?_
 ·refine⟨0,List.replicate (aG x).length 0,0,by omega,⟨by omega,by simp,by simp,by simp,by simp,ab.refl.set (aO _) |>.up (by omega),by simp[HY],by simp,[],by simp,by simp,by simp[val],by decide,by simp[Dg]⟩⟩
 ·rintro m r ⟨H,n1,W⟩ hr hf ⟨k,o,c,rfl,hk,pg,h6,hn,hW,hK,hN,ho,d,hd⟩
  simp only at hn hW hK hN
  subst hn
  rw[bb]
  by_cases au:k<(aG x).length
  ·obtain⟨i1,o1,c1,e1,w1,p1,p2,p3,p4⟩:=hx.at (fz (cF au))
   have p3:=(hK.get _ p2).trans p3
   obtain⟨d1,d2,d3,d4,d5⟩:=hd
   have gb:=Ynp (x:=aG x) (y:=aG y) (cF au) d1 d2 d3 d4 d5 (rW x) (rW y)
   by_cases qI:k<(aG y).length
   ·obtain⟨i2,o2,c2,e2,w2,q1,q2,q3,q4⟩:=hy.at (fz (cF qI))
    have q3:=(hK.get _ q2).trans q3
    have hz:dz (aG y) k=(aG y)[k]:=by simp[dz,cF qI]
    rw[hz]at gb
    simp(disch:=first|(simp;done)|omega|(simp only[bB,cC,bo];omega)|rfl) [A.nQ,hr,pg,h6,au,qI,lx,ly,p1,p3,p4,q1,q3,q4,hN,qe,hf]
    exact⟨_,by omega,k+1,_,_,rfl,⟨by omega,by simp,by simp,rfl,by simp[hW],hK.set (aO _),by simp,by simp[ho],_,gb⟩⟩
   ·have hz:dz (aG y) k=0:=by simp[dz,fv (tK.1 qI)]
    rw[hz]at gb
    simp(disch:=first|(simp;done)|omega|(simp only[bB,cC,bo];omega)|rfl) [A.nQ,hr,pg,h6,au,qI,lx,ly,p1,p3,p4,hN,qe,hf]
    exact⟨_,by omega,k+1,_,_,rfl,⟨by omega,by simp,by simp,rfl,by simp[hW],hK.set (aO _),by simp,by simp[ho],_,gb⟩⟩
  ·have PA:k=(aG x).length:=by omega
   subst PA
   simp[A.nQ,hr,pg,hf]
   exact⟨o,c,⟨by omega,by simp[pg],by simp[h6],rfl,by simp[hW],hK,hN,ho,d,hd⟩⟩
 ·rintro _ r ⟨H,n1,W⟩ hr ⟨rfl,o,c,hk,pg,h6,hn,hW,hK,hN,ho,d,d1,d2,d3,d4,d5⟩
  simp only at hn hW hK hN
  subst hn
  simp[hr,h6,lx,hN]
  refine ay (DK (l:=o) (Sl.row (e:=200) (rw:=true) (by omega) (by simp[hN]) (by simp[ho]) (by simp)) (by simp[ho];omega)) ?_
  intro v' h' n' gS hs
  simp[az]
  refine⟨hW,hK.trans gS,?_⟩
  rw[Ysc SK d1 d2 d3 d4 d5]at hs
  exact hs
end
end Go.Mx
