/-lensletref01-/
import Derived.Test.YtlbnjhhebffhdaaGreatDoorRcE
set_option linter.all false
set_option maxHeartbeats 2000000
namespace Go.Mx
noncomputable section
open Go Go.Proofs
set_option maxRecDepth 1000000
def A.b95:=A.q Tryz.f95
def A.k95:=@A.kk 95 54 [.tmp 2,.tmp 3,.tmp 4] A.b95 (by kernel_rfl) rfl
def QB(q:Rat):bj:=if q.den=1 then aq q.num.natAbs else aq q.num.natAbs++47::aq q.den
def xH(q:Rat):Zao q=if q.num<0 then 45::QB q else QB q:=by
 unfold Zao QB aU
 by_cases h1:q.den=1<;>by_cases h2:q.num<0<;>simp[h1,h2]
def Yj8(q:Rat):ak (QB q)=(aq q.num.natAbs).length:=by
 unfold QB
 split
 ·exact TZ (Mo (Zb9 _))
 ·exact TY (Mo (Zb9 _))
def Ypg(q:Rat):(QB q).take (aq q.num.natAbs).length=aq q.num.natAbs:=by
 unfold QB
 split
 ·exact jP (Yv5 _)
 ·exact List.take_left
def Yph{q:Rat}(h:q.den≠1):(QB q).drop ((aq q.num.natAbs).length+1)=aq q.den:=by
 unfold QB
 rw[aA h,<-List.drop_drop,List.drop_left];rfl
def Yln(q:Rat):(QB q).length=(aq q.num.natAbs).length+(if q.den=1 then 0 else (aq q.den).length+1):=by
 unfold QB
 split<;>simp
def Zwf(q:Rat):∃c t,QB q=c::t/\48<=c.toNat:=by
 obtain⟨c,t,h,h1,_⟩:=Zpw (n:=q.num.natAbs)
 unfold QB
 split
 ·exact⟨c,t,h,h1⟩
 ·exact⟨c,t++47::aq q.den,by rw[h];rfl,h1⟩
def Yc0{q:Rat}{st:St}(hl:(Zao q).length<=20):A.C.call (.func 95 [] []) [.str (Zao q)] st=some (if q.num.natAbs<1000000000/\q.den<1000000000 then .aX [.int .i64 q.num,.int .i64 q.den,.bool true] else .aX [.int .i64 0,.int .i64 0,.bool false],st):=by
 obtain⟨c,t,hB,hc⟩:=Zwf q
 have hs:=Yj8 q
 have ht:=Ypg q
 have yD:=Yln q
 have h9:=Rw (n:=q.num.natAbs)
 have h9d:=Rw (n:=q.den)
 have hn:=fun h st=>Ykx (n:=q.num.natAbs) h st
 have hd:=fun h st=>Ykx (n:=q.den) h st
 have hdr:=Yph (q:=q)
 have CZ:¬cX c=45:=by unfold cX;omega
 have kP:=xH q
 have hBl:(QB q).length<=20:=by
  rw[kP]at hl
  split at hl
  ·simp only[bC]at hl;omega
  ·exact hl
 have de:=fun st=>By (s:=QB q) (st:=st) (by omega)
 rw[hs]at de
 have iM:(QB q)[0]?=some c:=by rw[hB];rfl
 have hh:(QB q).head?=some c:=by rw[hB];rfl
 have cv:QB q≠[]:=by rw[hB];simp
 have ud:0<(QB q).length:=by rw[hB];simp
 have zf6:(0:Int)<((QB q).length:Int):=by omega
 have C1:¬(20:Int)<((QB q).length:Int):=by omega
 have xr:(aq q.num.natAbs).length<=(QB q).length:=by omega
 have zf7:((aq q.num.natAbs).length:Int)<=((QB q).length:Int):=by omega
 have k0:0<=(aq q.num.natAbs).length:=tR _
 have w1:bA .i64 (((QB q).length:Int)-((aq q.num.natAbs).length:Int))=((QB q).length:Int)-((aq q.num.natAbs).length:Int):=cH (by omega) (by omega)
 have w2:bA .i64 (((aq q.num.natAbs).length:Int)+1)=((aq q.num.natAbs).length:Int)+1:=cH (by omega) (by omega)
 have a3:∀st:St,pR st (some (.str (45::QB q))) (some (some (.int .i64 1))) (some none)=some (.str (QB q),st):=fun st=>by rw[BC (by omega) (by simp only[bC];omega)];rfl
 have a4:∀st:St,pR st (some (.str (QB q))) (some none) (some (some (.int .i64 (aq q.num.natAbs).length)))=some (.str (aq q.num.natAbs),st):=fun st=>by rw[Zln (by omega) (by omega),Int.toNat_natCast,ht]
 apply Call.eq
 rw[aZ,A.k95 (by simp),kP]
 by_cases e9:q.num.natAbs<1000000000
 ·have g9:¬(9:Int)<((aq q.num.natAbs).length:Int):=by have:=h9.2 e9;omega
  have hn:=hn e9
  by_cases e1:q.den=1
  ·rw[aR e1]at yD
   have EH:¬(10:Int)<((QB q).length:Int)-((aq q.num.natAbs).length:Int):=by omega
   have Rx:¬((aq q.num.natAbs).length:Int)<((QB q).length:Int):=by omega
   have g12:¬(aq q.num.natAbs).length<(QB q).length:=by omega
   rw[e1]
   by_cases hz:q.num<0
   ·have ez:(q.num.natAbs:Int)= -q.num:=by omega
    have w3:bA .i64 (0-(q.num.natAbs:Int))=q.num:=by rw[ez];rw[cH (by omega) (by omega)];omega
    have a5:cX 45=45:=rfl
    have fK:(QB q).length+1<=20:=by rw[kP,aR hz]at hl;simpa using hl
    have CT:¬(20:Int)<((QB q).length:Int)+1:=by omega
    have yl:(0:Int)<((QB q).length:Int)+1:=by omega
    simp(disch:=first|(simp;done)|omega|rfl) [-getElem?_pos,A.b95,hz,CT,yl,a3,a5,de,aH,g9,EH,Rx,w1,a4,hn,e9]
    omega
   ·have ez:(q.num.natAbs:Int)=q.num:=by omega
    simp(disch:=first|(simp;done)|omega|rfl) [-getElem?_pos,A.b95,hz,iM,ud,C1,CZ,de,aH,g9,EH,Rx,w1,a4,hn,ez,e9]
  ·rw[aA e1]at yD
   have hdr:=hdr e1
   have Rx:((aq q.num.natAbs).length:Int)<((QB q).length:Int):=by omega
   have g12:(aq q.num.natAbs).length<(QB q).length:=by omega
   have a6:∀st:St,pR st (some (.str (QB q))) (some (some (.int .i64 (((aq q.num.natAbs).length:Int)+1)))) (some none)=some (.str (aq q.den),st):=fun st=>by
    rw[BC (by omega) (by omega)]
    have:(((aq q.num.natAbs).length:Int)+1).toNat=(aq q.num.natAbs).length+1:=by omega
    rw[this,hdr]
   by_cases De:q.den<1000000000
   ·have EH:¬(10:Int)<((QB q).length:Int)-((aq q.num.natAbs).length:Int):=by have:=h9d.2 De;omega
    have hd:=hd De
    by_cases hz:q.num<0
    ·have ez:(q.num.natAbs:Int)= -q.num:=by omega
     have w3:bA .i64 (0-(q.num.natAbs:Int))=q.num:=by rw[ez];rw[cH (by omega) (by omega)];omega
     have a5:cX 45=45:=rfl
     have fK:(QB q).length+1<=20:=by rw[kP,aR hz]at hl;simpa using hl
     have CT:¬(20:Int)<((QB q).length:Int)+1:=by omega
     have yl:(0:Int)<((QB q).length:Int)+1:=by omega
     simp(disch:=first|(simp;done)|omega|rfl) [-getElem?_pos,A.b95,hz,CT,yl,a3,a5,a6,de,aH,g9,EH,Rx,w1,w2,a4,hn,hd,e9,De]
     omega
    ·have ez:(q.num.natAbs:Int)=q.num:=by omega
     simp(disch:=first|(simp;done)|omega|rfl) [-getElem?_pos,A.b95,hz,iM,ud,C1,CZ,a6,de,aH,g9,EH,Rx,w1,w2,a4,hn,hd,ez,e9,De]
   ·have EH:(10:Int)<((QB q).length:Int)-((aq q.num.natAbs).length:Int):=by
     have:¬(aq q.den).length<=9:=fun hc=>De (h9d.1 hc)
     omega
    by_cases hz:q.num<0
    ·have a5:cX 45=45:=rfl
     have fK:(QB q).length+1<=20:=by rw[kP,aR hz]at hl;simpa using hl
     have CT:¬(20:Int)<((QB q).length:Int)+1:=by omega
     have yl:(0:Int)<((QB q).length:Int)+1:=by omega
     simp(disch:=first|(simp;done)|omega|rfl) [-getElem?_pos,A.b95,hz,CT,yl,a3,a5,de,aH,g9,EH,w1,e9,De]
    ·simp(disch:=first|(simp;done)|omega|rfl) [-getElem?_pos,A.b95,hz,iM,ud,C1,CZ,de,g9,EH,w1,e9,De]
 ·have g9:(9:Int)<((aq q.num.natAbs).length:Int):=by
   have:¬(aq q.num.natAbs).length<=9:=fun hc=>e9 (h9.1 hc)
   omega
  by_cases hz:q.num<0
  ·have a5:cX 45=45:=rfl
   have fK:(QB q).length+1<=20:=by rw[kP,aR hz]at hl;simpa using hl
   have CT:¬(20:Int)<((QB q).length:Int)+1:=by omega
   have yl:(0:Int)<((QB q).length:Int)+1:=by omega
   simp(disch:=first|(simp;done)|omega|rfl) [-getElem?_pos,A.b95,hz,CT,yl,a3,a5,de,aH,g9,e9]
  ·simp(disch:=first|(simp;done)|omega|rfl) [-getElem?_pos,A.b95,hz,iM,ud,C1,CZ,de,g9,e9]
def Zy9{q:Rat}{st:St}(h1:20<(Zao q).length):A.C.call (.func 95 [] []) [.str (Zao q)] st=some (.aX [.int .i64 0,.int .i64 0,.bool false],st):=by
 have h2:(20:Int)<((Zao q).length:Int):=by omega
 apply Call.eq
 rw[aZ,A.k95 (by simp)]
 simp[A.b95,h2]
def Yfc{q:Rat}(h:q.num.natAbs<1000000000/\q.den<1000000000):(Zao q).length<=20:=by
 have h1:=Rw.2 h.1
 have h2:=Rw.2 h.2
 have h3:=Yln q
 rw[xH]
 split
 ·simp only[bC];split at h3<;>omega
 ·split at h3<;>omega
def Zw4{q:Rat}{st:St}:A.C.call (.func 95 [] []) [.str (Zao q)] st=some (if q.num.natAbs<1000000000/\q.den<1000000000 then .aX [.int .i64 q.num,.int .i64 q.den,.bool true] else .aX [.int .i64 0,.int .i64 0,.bool false],st):=by
 by_cases h:(Zao q).length<=20
 ·exact Yc0 h
 ·rw[aA fun hc=>h (Yfc hc)]
  exact Zy9 (by omega)
variable {j:Nat}
def A.b29:=A.q Tryz.f29
def A.k29:=@A.kk 29 55 [.tmp 4] A.b29 (by kernel_rfl) rfl
def Zpp(a b:Rat):a*b=Rat.divInt (a.num*b.num) ((a.den:Int)*(b.den:Int)):=by
 rw[Rat.mul_def,Rat.normalize_eq_mkRat,<-Rat.divInt_ofNat]
 simp
def Zp4(a b:Rat):a+b=Rat.divInt (a.num*(b.den:Int)+b.num*(a.den:Int)) ((a.den:Int)*(b.den:Int)):=by
 rw[Rat.add_def,Rat.normalize_eq_mkRat,<-Rat.divInt_ofNat]
 simp
def Ry{a b:Nat}(h1:a<1000000000)(h2:b<1000000000):a*b<=1000000000000000000:=by
 have:=tU (Nat.le_of_lt h1) (Nat.le_of_lt h2)
 omega
def Vn(q:Rat):∃(n d:Int) (o:Bool),(∀st,A.C.call (.func 95 [] []) [.str (Zao q)] st=some (.aX [.int .i64 n,.int .i64 d,.bool o],st))/\(o=true->n=q.num/\d=(q.den:Int)/\q.num.natAbs<1000000000/\q.den<1000000000):=by
 by_cases f:q.num.natAbs<1000000000/\q.den<1000000000
 ·exact⟨q.num,q.den,true,fun st=>by rw[Zw4,aR f],fun _=>⟨rfl,rfl,f⟩⟩
 ·exact⟨0,0,false,fun st=>by rw[Zw4,aA f],fun h=>by cases h⟩
def Rg.p_{h:T O}{N:Nat}{v:V}{z:Int}(s:Rg h N v z):∃u,v=.agg [.bool (decide (z<0)),u]/\V.one u=true/\V.cells u=[u]/\I9 u:=by
 obtain⟨u,rfl,hu⟩:=s
 exact⟨u,rfl,(Sl.form hu).one,(Sl.form hu).cells,Sl.form hu⟩
def Rz{a b:Int}{k:Nat}(h1:a.natAbs<2^j)(h2:b.natAbs<2^k):(a*b).natAbs<2^(j+k):=by
 rw[wY,Yw8]
 exact BW h1 h2
def Zqq{a b:Int}(h1:a.natAbs<2^j)(h2:b.natAbs<2^j):(a+b).natAbs<2^(j+1):=by
 have:=Int.natAbs_add_le a b
 rw[fV];omega
def SP{a b:Rat}{k:Nat}{h:T O}{N:Nat}(ha:Qb j a)(hb:Qb k b)(hj:j<=400000000)(hk:k<=400000000):Fn A.C 29 [.str (Zao a),.str (Zao b)] h N (fun u _ _=>u=.str (Zao (a*b))):=by
 intro w
 obtain⟨n1,d1,o1,rR,f1⟩:=Vn a
 obtain⟨n2,d2,o2,kK,f2⟩:=Vn b
 have pa:=Xed a
 have pb:=Xed b
 rw[aZ,A.k29 (by simp)]
 have key:(o1=true/\o2=true)\/(o1=false\/(o1=true/\o2=false)):=by cases o1<;>cases o2<;>simp
 rcases key with⟨rfl,rfl⟩|key
 ·obtain⟨rfl,rfl,g1⟩:=f1 rfl
  obtain⟨rfl,rfl,g2⟩:=f2 rfl
  have m1:(a.num*b.num).natAbs<=1000000000000000000:=by rw[wY];exact Ry g1.1 g2.1
  have m2:a.den*b.den<=1000000000000000000:=Ry g1.2 g2.2
  have m3:0<a.den*b.den:=xM pa pb
  have e2:(a.den:Int)*(b.den:Int)=((a.den*b.den:Nat):Int):=by simp
  have w1:bA .i64 (a.num*b.num)=a.num*b.num:=cH (by omega) (by omega)
  have w2:bA .i64 ((a.den:Int)*(b.den:Int))=(a.den:Int)*(b.den:Int):=by rw[e2];exact cH (by omega) (by omega)
  have ho:=fun st=>Yqk (p:=a.num*b.num) (q:=(a.den:Int)*(b.den:Int)) (st:=st) (by omega) (by omega) (by omega) (by omega) (by omega)
  rw[<-Zpp]at ho
  simp[A.b29,rR,kK,w1,w2,ho,Ret]
  exact ah.refl
 ·have la:=BE ha.1
  have la2:=Ie ha.2
  have lb:=BE hb.1
  have lb2:=Ie hb.2
  have z1:=wk ha.1
  have z2:=wk hb.1
  have z3:=wk ha.2
  have z4:=wk hb.2
  rcases key with rfl|⟨rfl,rfl⟩
  all_goals simp[A.b29,rR,kK]
  all_goals
   refine av (Vm (q:=a) (by omega) (by omega)) ?_
   rintro _ h1 t1 k1 ⟨x1,y1,rfl,X1,Y1⟩
   obtain⟨u1,rfl,p1,p2,F1⟩:=X1.p_
   obtain⟨v1,rfl,p3,p4,G1⟩:=Y1.p_
   unfold V.one at p1 p3
   unfold V.cells at p2 p4
   have KA:=((((ah.refl (h:=h1) (n:=t1)).new (.cells [.bool false,.ziA] 129 true)).new (.cells [.bool false,.ziA] 129 true)).set (i:=t1) (o:=.cells [.bool (decide (a.num<0)),u1] 129 true) (Yv5 _)).set (i:=t1+1) (o:=.cells [.bool (decide ((a.den:Int)<0)),v1] 129 true) (by omega)
   have c0:¬t1+1=t1:=by omega
   have c00:¬t1=t1+1:=by omega
   simp[p1,p3,bM,aj]
   generalize hHA:(((h1.set t1 (.cells [.bool false,.ziA] 129 true)).set (t1+1) (.cells [.bool false,.ziA] 129 true)).set t1 (.cells [.bool (decide (a.num<0)),u1] 129 true)).set (t1+1) (.cells [.bool (decide ((a.den:Int)<0)),v1] 129 true)=HA at*
   have Sw:HA.get t1=some (.cells [.bool (decide (a.num<0)),u1] 129 true):=by rw[<-hHA];simp
   have Sx:HA.get (t1+1)=some (.cells [.bool (decide ((a.den:Int)<0)),v1] 129 true):=by rw[<-hHA];simp
   have X1:=X1.ai KA
   have Y1:=Y1.ai KA
   clear hHA
   refine av (Vm (q:=b) (by omega) (by omega)) ?_
   rintro _ h2 t2 k2 ⟨x2,y2,rfl,X2,Y2⟩
   obtain⟨u2,rfl,p5,p6,F2⟩:=X2.p_
   obtain⟨v2,rfl,p7,p8,G2⟩:=Y2.p_
   unfold V.one at p5 p7
   unfold V.cells at p6 p8
   have KB:=((((ah.refl (h:=h2) (n:=t2)).new (.cells [.bool false,.ziA] 129 true)).new (.cells [.bool false,.ziA] 129 true)).set (i:=t2) (o:=.cells [.bool (decide (b.num<0)),u2] 129 true) (Yv5 _)).set (i:=t2+1) (o:=.cells [.bool (decide ((b.den:Int)<0)),v2] 129 true) (by omega)
   have c1:¬t2+1=t2:=by omega
   have c11:¬t2=t2+1:=by omega
   have i2:=k2.le
   generalize KG:(((h2.set t2 (.cells [.bool false,.ziA] 129 true)).set (t2+1) (.cells [.bool false,.ziA] 129 true)).set t2 (.cells [.bool (decide (b.num<0)),u2] 129 true)).set (t2+1) (.cells [.bool (decide ((b.den:Int)<0)),v2] 129 true)=HB at*
   have gB1:HB.get t2=some (.cells [.bool (decide (b.num<0)),u2] 129 true):=by rw[<-KG];simp
   have Vo:HB.get (t2+1)=some (.cells [.bool (decide ((b.den:Int)<0)),v2] 129 true):=by rw[<-KG];simp
   have gB3:=(KB.get t1 (by omega)).trans ((k2.get t1 (by omega)).trans Sw)
   have gB4:=(KB.get (t1+1) (by omega)).trans ((k2.get (t1+1) (by omega)).trans Sx)
   have X1:=(X1.ai k2).ai KB
   have Y1:=(Y1.ai k2).ai KB
   have X2:=X2.ai KB
   have Y2:=Y2.ai KB
   have K2:ah h N HB (t2+1+1):=((k1.trans KA).trans k2).trans KB
   have j1:t1<t2+1+1:=by omega
   have j2:t1+1<t2+1+1:=by omega
   have j3:t2<t2+1+1:=by omega
   simp[p5,p7,bM,aj,KG,gB1,gB3,aI,aK]
   refine av (Pq X1 X2 (by omega) (by omega)) ?_
   rintro _ h3 t3 k3 X3
   have i3:=k3.le
   have gC2:=(k3.get (t2+1) (by omega)).trans Vo
   have Vp:=(k3.get (t1+1) (by omega)).trans gB4
   simp[gC2,Vp,aI,aK]
   refine av (Pq (Y1.ai k3) (Y2.ai k3) (by rw[eA];omega) (by rw[eA];omega)) ?_
   rintro _ h4 t4 k4 X4
   have m1:=wk (Rz ha.1 hb.1)
   have m2:=wk (Rz (a:=(a.den:Int)) (b:=(b.den:Int)) (j:=j) (k:=k) (by rw[eA];exact ha.2) (by rw[eA];exact hb.2))
   simp[]
   refine av (Zn8 (X3.ai k4) X4 (LF (by omega) (by omega)) (by omega) (by omega)) ?_
   rintro _ h5 t5 k5 rfl
   have j4:t2+1<t3:=by omega
   have j5:t1+1<t3:=by omega
   rw[<-Zpp]
   have i1:=k1.le
   simp[-aL,b_.chk,j1,j4,j5,Ret]
   exact⟨KY (by simp;omega),((K2.trans k3).trans k4).trans k5⟩
def A.b28:=A.q Tryz.f28
def A.k28:=@A.kk 28 63 [.tmp 4] A.b28 (by kernel_rfl) rfl
def Zwc{a b:Rat}{j k:Nat}{h:T O}{N:Nat}(ha:Qb j a)(hb:Qb k b)(hj:j<=400000000)(hk:k<=400000000):Fn A.C 28 [.str (Zao a),.str (Zao b)] h N (fun u _ _=>u=.str (Zao (a+b))):=by
 intro w
 obtain⟨n1,d1,o1,rR,f1⟩:=Vn a
 obtain⟨n2,d2,o2,kK,f2⟩:=Vn b
 have pa:=Xed a
 have pb:=Xed b
 rw[aZ,A.k28 (by simp)]
 have key:(o1=true/\o2=true)\/(o1=false\/(o1=true/\o2=false)):=by cases o1<;>cases o2<;>simp
 rcases key with⟨rfl,rfl⟩|key
 ·obtain⟨rfl,rfl,g1⟩:=f1 rfl
  obtain⟨rfl,rfl,g2⟩:=f2 rfl
  have m1:(a.num*(b.den:Int)).natAbs<=1000000000000000000:=by rw[wY,eA];exact Ry g1.1 g2.2
  have m4:(b.num*(a.den:Int)).natAbs<=1000000000000000000:=by rw[wY,eA];exact Ry g2.1 g1.2
  have m2:a.den*b.den<=1000000000000000000:=Ry g1.2 g2.2
  have m3:0<a.den*b.den:=xM pa pb
  have e2:(a.den:Int)*(b.den:Int)=((a.den*b.den:Nat):Int):=by simp
  have w1:bA .i64 (a.num*(b.den:Int))=a.num*(b.den:Int):=cH (by omega) (by omega)
  have w3:bA .i64 (b.num*(a.den:Int))=b.num*(a.den:Int):=cH (by omega) (by omega)
  have w2:bA .i64 ((a.den:Int)*(b.den:Int))=(a.den:Int)*(b.den:Int):=by rw[e2];exact cH (by omega) (by omega)
  have w4:bA .i64 (a.num*(b.den:Int)+b.num*(a.den:Int))=a.num*(b.den:Int)+b.num*(a.den:Int):=cH (by omega) (by omega)
  have ho:=fun st=>Yqk (p:=a.num*(b.den:Int)+b.num*(a.den:Int)) (q:=(a.den:Int)*(b.den:Int)) (st:=st) (by omega) (by omega) (by omega) (by omega) (by omega)
  rw[<-Zp4]at ho
  simp[A.b28,rR,kK,w1,w2,w3,w4,ho,Ret]
  exact ah.refl
 ·have la:=BE ha.1
  have la2:=Ie ha.2
  have lb:=BE hb.1
  have lb2:=Ie hb.2
  have z1:=wk ha.1
  have z2:=wk hb.1
  have z3:=wk ha.2
  have z4:=wk hb.2
  rcases key with rfl|⟨rfl,rfl⟩
  all_goals simp[A.b28,rR,kK]
  all_goals
   refine av (Vm (q:=a) (by omega) (by omega)) ?_
   rintro _ h1 t1 k1 ⟨x1,y1,rfl,X1,Y1⟩
   obtain⟨u1,rfl,p1,p2,F1⟩:=X1.p_
   obtain⟨v1,rfl,p3,p4,G1⟩:=Y1.p_
   unfold V.one at p1 p3
   unfold V.cells at p2 p4
   have KA:=((((ah.refl (h:=h1) (n:=t1)).new (.cells [.bool false,.ziA] 129 true)).new (.cells [.bool false,.ziA] 129 true)).set (i:=t1) (o:=.cells [.bool (decide (a.num<0)),u1] 129 true) (Yv5 _)).set (i:=t1+1) (o:=.cells [.bool (decide ((a.den:Int)<0)),v1] 129 true) (by omega)
   have c0:¬t1+1=t1:=by omega
   have c00:¬t1=t1+1:=by omega
   simp[p1,p3,bM,aj]
   generalize hHA:(((h1.set t1 (.cells [.bool false,.ziA] 129 true)).set (t1+1) (.cells [.bool false,.ziA] 129 true)).set t1 (.cells [.bool (decide (a.num<0)),u1] 129 true)).set (t1+1) (.cells [.bool (decide ((a.den:Int)<0)),v1] 129 true)=HA at*
   have Sw:HA.get t1=some (.cells [.bool (decide (a.num<0)),u1] 129 true):=by rw[<-hHA];simp
   have Sx:HA.get (t1+1)=some (.cells [.bool (decide ((a.den:Int)<0)),v1] 129 true):=by rw[<-hHA];simp
   have X1:=X1.ai KA
   have Y1:=Y1.ai KA
   clear hHA
   refine av (Vm (q:=b) (by omega) (by omega)) ?_
   rintro _ h2 t2 k2 ⟨x2,y2,rfl,X2,Y2⟩
   obtain⟨u2,rfl,p5,p6,F2⟩:=X2.p_
   obtain⟨v2,rfl,p7,p8,G2⟩:=Y2.p_
   unfold V.one at p5 p7
   unfold V.cells at p6 p8
   have KB:=((((ah.refl (h:=h2) (n:=t2)).new (.cells [.bool false,.ziA] 129 true)).new (.cells [.bool false,.ziA] 129 true)).set (i:=t2) (o:=.cells [.bool (decide (b.num<0)),u2] 129 true) (Yv5 _)).set (i:=t2+1) (o:=.cells [.bool (decide ((b.den:Int)<0)),v2] 129 true) (by omega)
   have c1:¬t2+1=t2:=by omega
   have c11:¬t2=t2+1:=by omega
   have i2:=k2.le
   generalize KG:(((h2.set t2 (.cells [.bool false,.ziA] 129 true)).set (t2+1) (.cells [.bool false,.ziA] 129 true)).set t2 (.cells [.bool (decide (b.num<0)),u2] 129 true)).set (t2+1) (.cells [.bool (decide ((b.den:Int)<0)),v2] 129 true)=HB at*
   have gB1:HB.get t2=some (.cells [.bool (decide (b.num<0)),u2] 129 true):=by rw[<-KG];simp
   have Vo:HB.get (t2+1)=some (.cells [.bool (decide ((b.den:Int)<0)),v2] 129 true):=by rw[<-KG];simp
   have gB3:=(KB.get t1 (by omega)).trans ((k2.get t1 (by omega)).trans Sw)
   have gB4:=(KB.get (t1+1) (by omega)).trans ((k2.get (t1+1) (by omega)).trans Sx)
   have X1:=(X1.ai k2).ai KB
   have Y1:=(Y1.ai k2).ai KB
   have X2:=X2.ai KB
   have Y2:=Y2.ai KB
   have K2:ah h N HB (t2+1+1):=((k1.trans KA).trans k2).trans KB
   have j1:t1<t2+1+1:=by omega
   have j2:t1+1<t2+1+1:=by omega
   have j3:t2<t2+1+1:=by omega
   simp[p5,p7,bM,aj,KG,Vo,gB3,aI,aK]
   refine av (Pq X1 Y2 (by omega) (by rw[eA];omega)) ?_
   rintro _ h3 t3 k3 X3
   have i3:=k3.le
   have gC1:=(k3.get t2 (by omega)).trans gB1
   have gC2:=(k3.get (t2+1) (by omega)).trans Vo
   have Vp:=(k3.get (t1+1) (by omega)).trans gB4
   simp[gC1,Vp,aI,aK]
   refine av (Pq (X2.ai k3) (Y1.ai k3) (by omega) (by rw[eA];omega)) ?_
   rintro _ h4 t4 k4 X4
   have i4:=k4.le
   have b1:=Rz (b:=(b.den:Int)) (k:=k) ha.1 (by rw[eA];exact hb.2)
   have b2:=Rz (b:=(a.den:Int)) (k:=j) hb.1 (by rw[eA];exact ha.2)
   rw[Nat.add_comm k j]at b2
   have m1:=wk b1
   have m2:=wk b2
   have m3:=wk (Zqq b1 b2)
   have m4:=wk (Rz (a:=(a.den:Int)) (b:=(b.den:Int)) (j:=j) (k:=k) (by rw[eA];exact ha.2) (by rw[eA];exact hb.2))
   simp[]
   refine av (Ymp (X3.ai k4) X4 (by omega) (by omega)) ?_
   rintro _ h5 t5 k5 X5
   have i5:=k5.le
   have gD2:=(k5.get (t2+1) (by omega)).trans ((k4.get (t2+1) (by omega)).trans gC2)
   have gD4:=(k5.get (t1+1) (by omega)).trans ((k4.get (t1+1) (by omega)).trans Vp)
   simp[gD2,gD4,aI,aK]
   refine av (Pq (((Y1.ai k3).ai k4).ai k5) (((Y2.ai k3).ai k4).ai k5) (by rw[eA];omega) (by rw[eA];omega)) ?_
   rintro _ h6 t6 k6 X6
   simp[]
   refine av (Zn8 (X5.ai k6) X6 (LF (by omega) (by omega)) (by omega) (by omega)) ?_
   rintro _ h7 t7 k7 rfl
   have j4:t2+1<t3:=by omega
   have j5:t1+1<t3:=by omega
   have j6:t2<t3:=by omega
   have j7:t2+1<t5:=by omega
   have j8:t1+1<t5:=by omega
   rw[<-Zp4]
   have i1:=k1.le
   simp[-aL,b_.chk,j1,j5,j6,j7,j8,Ret]
   exact⟨KY (by simp;omega),((((K2.trans k3).trans k4).trans k5).trans k6).trans k7⟩
def A.b202:=A.q Tryz.f202
def A.k202:=@A.kk 202 51 [.tmp 4,.tmp 5] A.b202 (by kernel_rfl) rfl
def Yqq{x y:Nat}(hx:x<18446744073709551616)(hy:y<18446744073709551616):cW (cW (c_ (zid x 32) (zid y 32)) (zid (cW (c_ (zid x 32) (ff y)) (zid (c_ (ff x) (ff y)) 32)) 32)) (zid (cW (ff (cW (c_ (zid x 32) (ff y)) (zid (c_ (ff x) (ff y)) 32))) (c_ (ff x) (zid y 32))) 32)=cG (x*y):=by
 simp only[cW,c_,zid,ff,cG,Nat.reducePow]
 have ex:x=x/4294967296*4294967296+x%4294967296:=by omega
 have ey:y=y/4294967296*4294967296+y%4294967296:=by omega
 have oI:x%4294967296<4294967296:=kf _ (by decide)
 have tK:y%4294967296<4294967296:=kf _ (by decide)
 have zK:x/4294967296<4294967296:=by omega
 have rN:y/4294967296<4294967296:=by omega
 generalize x/4294967296=x1 at*
 generalize x%4294967296=x0 at*
 generalize y/4294967296=y1 at*
 generalize y%4294967296=y0 at*
 have a1:x0*y0<=4294967295*4294967295:=tU (by omega) (by omega)
 have a2:x1*y0<=4294967295*4294967295:=tU (by omega) (by omega)
 have a3:x0*y1<=4294967295*4294967295:=tU (by omega) (by omega)
 have a4:x1*y1<=4294967295*4294967295:=tU (by omega) (by omega)
 have e:x*y=x1*y1*18446744073709551616+(x1*y0+x0*y1)*4294967296+x0*y0:=by
  subst ex;subst ey
  grind
 rw[e]
 generalize x0*y0=p at*
 generalize x1*y0=q at*
 generalize x0*y1=u at*
 generalize x1*y1=z at*
 omega
def PU{h:T O}{N:Nat}{x y:Nat}(hx:x<18446744073709551616)(hy:y<18446744073709551616):Fn A.C 202 [.int .u64 x,.int .u64 y] h N (fun v' h' N'=>h'=h/\N'=N/\v'=.aX [.int .u64 (cG (x*y):Nat),.int .u64 (bJ (x*y):Nat)]):=by
 intro w
 rw[aZ,A.k202 (by simp)]
 simp(disch:=first|(simp;done)|omega|(simp only[bH,cy,bC];omega)|rfl) [A.b202]
 rw[Yqq hx hy]
 exact⟨rfl,ah.refl,rfl,rfl,rfl⟩
def A.RA:=A.q Tryz.f237
def A.mR:=A.ql A.RA 0 []
def A.b237:=(fun x0=>A.qb A.RA [x0]) A.mR
def A.k237:=@A.kk 237 21 [.tmp 2] A.b237 (by kernel_rfl) rfl
def CM{h:T O}{N:Nat}{v:V}{l:List Nat}(hs:Sl h N v (dg l))(hl:l.length<1152921504606846976):Fn A.C 237 [v] h N (fun v' h' N'=>Sl h' N' v' (dg (rP l))):=by
 intro w
 have hlen:=hs.len
 rw[bH]at hlen
 rw[aZ,A.k237 (by simp)]
 simp[A.b237,hlen]
 refine Zal [(3,3),(6,17)] (fun e r st=>e=.exit 0/\st=⟨h,N,[]⟩/\∃k,k<=l.length/\r.get 3=some (.int .i64 k)/\rP l=l.take k) (fun k r st=>st=⟨h,N,[]⟩/\k<=l.length/\r.get 3=some (.int .i64 k)/\rP (l.take k)=rP l) l.length ?_ ?_ ?_
 ·exact⟨rfl,Yv5 _,by simp,by simp⟩
 ·rintro k r _ hr hf ⟨rfl,hk,h3,ht⟩
  rw[cn]
  cases k with
  |zero=>
   have:rP l=[]:=ht.symm
   simp[A.mR,h3,hf,this]
   exact⟨0,by omega,rfl,.inl rfl⟩
  |succ k=>
   obtain⟨d,hd⟩:∃d,l[k]?=some d:=⟨_,Yv8 (by omega)⟩
   obtain⟨i,o,c,e,rw,q1,q2,q3,q4⟩:=hs.at (Za8 hd)
   have e1:l.take (k+1)=l.take k++[d]:=by rw[HQ,hd];rfl
   have k1:(0:Int)<(k:Int)+1:=by omega
   have k2:(k:Int)<(l.length:Int):=by omega
   by_cases h0:d=0
   ·subst h0
    rw[e1,Zo9]at ht
    simp(disch:=first|(simp;done)|omega|(simp only[bH,cy,bC];omega)|rfl) [A.mR,h3,hr,hf,k1,k2,hlen,q1,q3,q4,a_]
    exact⟨k,by omega,by omega,rfl,ht⟩
   ·rw[e1,Zpa h0]at ht
    have hz:((d:Int)==0)=false:=by simp;omega
    simp(disch:=first|(simp;done)|omega|(simp only[bH,cy,bC];omega)|rfl) [A.mR,h3,hr,hf,k1,k2,hlen,q1,q3,q4,a_,hz]
    exact⟨k+1,hk,rfl,by rw[e1];exact ht.symm⟩
 ·rintro _ r _ hr ⟨rfl,rfl,k,hk,h3,ht⟩
  simp[hr,h3,Nb,aH]
  obtain⟨v',e1,e2⟩:=R6 (w:=[]) hs (lo:=0) (hi:=k) (tR _) (by rw[bH];exact hk) none (some (.int .i64 k)) (.inr ⟨rfl,rfl⟩) (.inl rfl)
  rw[e1]
  simp[Ret]
  refine⟨ah.refl,?_⟩
  rw[ht,show dg (l.take k)=(dg l).take k by simp[dg]]
  exact e2
def A.RB:=A.q Tryz.f207
def A.fS:=A.ql A.RB 0 []
def A.b207:=(fun x0=>A.qb A.RB [x0]) A.fS
def A.k207:=@A.kk 207 54 [.tmp 4] A.b207 (by kernel_rfl) rfl
structure Yt6 (h:T O) (N x y k:Nat) (o:List Nat) (c:Nat) (r:T V) (st:St):Prop where
 hk:k<=(aQ x).length
 r22:r.get 22=some (.int .i64 k)
 r6:r.get 6=some (.int .u64 c)
 n:st.n=N+1
 w:aL N st.w=[]
 ai:ah h N st.h (N+1)
 row:st.h.get N=some (.cells (dg o) 215 true)
 len:o.length=(aQ x).length+1
 ex:∃d,d.length=k/\o=d++List.replicate ((aQ x).length+1-k) 0/\val B d+B^k*c=val B ((aQ x).take k)+val B ((aQ y).take k)/\c<=1/\Dg d
def Yt7(h:T O)(N x y m:Nat)(r:T V)(st:St):Prop:=∃k o c,m=(aQ x).length-k/\Yt6 h N x y k o c r st
def Yt8(h:T O)(N x y:Nat)(r:T V)(st:St):Prop:=∃o c,Yt6 h N x y (aQ x).length o c r st
def Ygi{x y o d:List Nat}{k c xk:Nat}(hx:x[k]?=some xk)(d1:d.length=k)(d2:o=d++List.replicate (x.length+1-k) 0)(d3:val B d+B^k*c=val B (x.take k)+val B (y.take k))(d4:c<=1)(d5:Dg d)(gx:Dg x)(gy:Dg y):
  (d++[bJ (xk+dz y k+c)]).length=k+1/\o.set k (bJ (xk+dz y k+c))=(d++[bJ (xk+dz y k+c)])++List.replicate (x.length+1-(k+1)) 0/\val B (d++[bJ (xk+dz y k+c)])+B^(k+1)*cG (xk+dz y k+c)=val B (x.take (k+1))+val B (y.take (k+1))/\cG (xk+dz y k+c)<=1/\Dg (d++[bJ (xk+dz y k+c)]):=by
 have hk:k<x.length:=by
  apply Yxf;intro hc;rw[kc hc]at hx;cases hx
 have hxk:=gx.get hx
 have hyk:=Yra gy k
 have hm:=tA (xk+dz y k+c) B
 refine⟨by simp[d1],?_,?_,?_,?_⟩
 ·rw[d2,show x.length+1-k=(x.length-k)+1 by omega,Zqh d1,show x.length+1-(k+1)=x.length-k by omega]
 ·rw[Uf,CH,CH,d1,show dz x k=xk by simp[dz,hx]]
  have e1:bJ (xk+dz y k+c)=(xk+dz y k+c)%B:=rfl
  have e2:cG (xk+dz y k+c)=(xk+dz y k+c)/B:=rfl
  rw[e1,e2,fV]
  generalize (xk+dz y k+c)%B=lo at*
  generalize (xk+dz y k+c)/B=hi at*
  generalize B^k=p at*
  have:p*(B*hi+lo)=p*(xk+dz y k+c):=by rw[hm]
  grind
 ·show (xk+dz y k+c)/B<=1
  unfold B at*;omega
 ·intro e he
  rcases tg.1 he with he|he
  ·exact d5 e he
  ·simp at he;subst he;exact kf _ (by decide)
def Ylk{x y:Nat}{o d:List Nat}{c:Nat}(hl:(aQ y).length<=(aQ x).length)(d1:d.length=(aQ x).length)(d2:o=d++List.replicate ((aQ x).length+1-(aQ x).length) 0)(d3:val B d+B^(aQ x).length*c=val B ((aQ x).take (aQ x).length)+val B ((aQ y).take (aQ x).length))(d4:c<=1)(d5:Dg d):rP (o.set (aQ x).length c)=aQ (x+y):=by
 rw[d2,show (aQ x).length+1-(aQ x).length=0+1 by omega,Zqh d1]
 simp only[List.replicate_zero,AP]
 rw[CI,Uf,d1,d3,jP (Yv5 _),jP hl,mj,mj]
 intro e he
 rcases tg.1 he with he|he
 ·exact d5 e he
 ·simp at he;subst he;unfold B;omega
def Zwb{h:T O}{N:Nat}{vx vy:V}{x y:Nat}(hx:Wn h N vx x)(hy:Wn h N vy y)(Cs:(aQ x).length<1099511627776)(OV:(aQ y).length<1099511627776):Fn A.C 207 [vx,vy] h N (fun v' h' N'=>Wn h' N' v' (x+y)):=by
 intro w
 have lx:=hx.len
 have ly:=hy.len
 rw[bH]at lx ly
 rw[aZ,A.k207 (by simp)]
 by_cases hl:(aQ x).length<(aQ y).length
 ·simp(disch:=first|(simp;done)|omega|(simp only[bH,cy,bC];omega)|rfl) [A.b207,lx,ly,hl]
  refine Zal [(6,8),(22,46)] (fun e r st=>e=.exit 0/\Yt8 h N y x r st) (Yt7 h N y x) (aQ y).length ?_ ?_ ?_
  ·refine⟨0,List.replicate ((aQ y).length+1) 0,0,by omega,⟨by omega,by simp,by simp,by simp,by simp,ah.refl.set (Yv5 _) |>.up (by omega),by simp[JK],by simp,[],by simp,by simp,by simp[val],by decide,by simp[Dg]⟩⟩
  ·rintro m r ⟨H,n1,W⟩ hr hf ⟨k,o,c,rfl,hk,h22,h6,hn,hW,hK,hN,ho,d,hd⟩
   simp only at hn hW hK hN
   subst hn
   rw[cn]
   by_cases aW:k<(aQ y).length
   ·obtain⟨i1,o1,c1,e1,w1,p1,p2,p3,p4⟩:=hy.at (Za8 (Yv8 aW))
    have p3:=(hK.get _ p2).trans p3
    obtain⟨d1,d2,d3,d4,d5⟩:=hd
    have hsp:=Ygi (x:=aQ y) (y:=aQ x) (Yv8 aW) d1 d2 d3 d4 d5 (qP y) (qP x)
    by_cases hky:k<(aQ x).length
    ·obtain⟨i2,o2,c2,e2,w2,q1,q2,q3,q4⟩:=hx.at (Za8 (Yv8 hky))
     have q3:=(hK.get _ q2).trans q3
     have hz:dz (aQ x) k=(aQ x)[k]:=by simp[dz,Yv8 hky]
     rw[hz]at hsp
     simp(disch:=first|(simp;done)|omega|(simp only[bH,cy,bC];omega)|rfl) [A.fS,hr,h22,h6,aW,hky,ly,lx,p1,p3,p4,q1,q3,q4,hN,oT,hf]
     exact⟨_,by omega,k+1,_,_,rfl,⟨by omega,by simp,by simp,rfl,by simp[hW],hK.set (Yv5 _),by simp,by simp[ho],_,hsp⟩⟩
    ·have hz:dz (aQ x) k=0:=by simp[dz,kc (w_.1 hky)]
     rw[hz]at hsp
     simp(disch:=first|(simp;done)|omega|(simp only[bH,cy,bC];omega)|rfl) [A.fS,hr,h22,h6,aW,hky,ly,lx,p1,p3,p4,hN,oT,hf]
     exact⟨_,by omega,k+1,_,_,rfl,⟨by omega,by simp,by simp,rfl,by simp[hW],hK.set (Yv5 _),by simp,by simp[ho],_,hsp⟩⟩
   ·have RC:k=(aQ y).length:=by omega
    subst RC
    simp[A.fS,hr,h22,hf]
    exact⟨o,c,⟨by omega,by simp[h22],by simp[h6],rfl,by simp[hW],hK,hN,ho,d,hd⟩⟩
  ·rintro _ r ⟨H,n1,W⟩ hr ⟨rfl,o,c,hk,h22,h6,hn,hW,hK,hN,ho,d,d1,d2,d3,d4,d5⟩
   simp only at hn hW hK hN
   subst hn
   simp(disch:=first|(simp;done)|omega|(simp only[bH,cy,bC];omega)|rfl) [hr,h6,ly,hN,oT]
   refine av (CM (l:=o.set (aQ y).length c) (Sl.row (e:=215) (rw:=true) (by omega) (by simp) (by simp[ho]) (by simp)) (by simp[ho];omega)) ?_
   intro v' h' n' jO hs
   simp[Ret]
   refine⟨hW,(hK.set (Yv5 _)).trans jO,?_⟩
   rw[Ylk (by omega) d1 d2 d3 d4 d5]at hs
   exact(Nat.add_comm y x▸hs)
 ·simp(disch:=first|(simp;done)|omega|(simp only[bH,cy,bC];omega)|rfl) [A.b207,lx,ly,hl]
  refine Zal [(6,8),(22,46)] (fun e r st=>e=.exit 0/\Yt8 h N x y r st) (Yt7 h N x y) (aQ x).length ?_ ?_ ?_
  ·refine⟨0,List.replicate ((aQ x).length+1) 0,0,by omega,⟨by omega,by simp,by simp,by simp,by simp,ah.refl.set (Yv5 _) |>.up (by omega),by simp[JK],by simp,[],by simp,by simp,by simp[val],by decide,by simp[Dg]⟩⟩
  ·rintro m r ⟨H,n1,W⟩ hr hf ⟨k,o,c,rfl,hk,h22,h6,hn,hW,hK,hN,ho,d,hd⟩
   simp only at hn hW hK hN
   subst hn
   rw[cn]
   by_cases aW:k<(aQ x).length
   ·obtain⟨i1,o1,c1,e1,w1,p1,p2,p3,p4⟩:=hx.at (Za8 (Yv8 aW))
    have p3:=(hK.get _ p2).trans p3
    obtain⟨d1,d2,d3,d4,d5⟩:=hd
    have hsp:=Ygi (x:=aQ x) (y:=aQ y) (Yv8 aW) d1 d2 d3 d4 d5 (qP x) (qP y)
    by_cases hky:k<(aQ y).length
    ·obtain⟨i2,o2,c2,e2,w2,q1,q2,q3,q4⟩:=hy.at (Za8 (Yv8 hky))
     have q3:=(hK.get _ q2).trans q3
     have hz:dz (aQ y) k=(aQ y)[k]:=by simp[dz,Yv8 hky]
     rw[hz]at hsp
     simp(disch:=first|(simp;done)|omega|(simp only[bH,cy,bC];omega)|rfl) [A.fS,hr,h22,h6,aW,hky,lx,ly,p1,p3,p4,q1,q3,q4,hN,oT,hf]
     exact⟨_,by omega,k+1,_,_,rfl,⟨by omega,by simp,by simp,rfl,by simp[hW],hK.set (Yv5 _),by simp,by simp[ho],_,hsp⟩⟩
    ·have hz:dz (aQ y) k=0:=by simp[dz,kc (w_.1 hky)]
     rw[hz]at hsp
     simp(disch:=first|(simp;done)|omega|(simp only[bH,cy,bC];omega)|rfl) [A.fS,hr,h22,h6,aW,hky,lx,ly,p1,p3,p4,hN,oT,hf]
     exact⟨_,by omega,k+1,_,_,rfl,⟨by omega,by simp,by simp,rfl,by simp[hW],hK.set (Yv5 _),by simp,by simp[ho],_,hsp⟩⟩
   ·have RC:k=(aQ x).length:=by omega
    subst RC
    simp[A.fS,hr,h22,hf]
    exact⟨o,c,⟨by omega,by simp[h22],by simp[h6],rfl,by simp[hW],hK,hN,ho,d,hd⟩⟩
  ·rintro _ r ⟨H,n1,W⟩ hr ⟨rfl,o,c,hk,h22,h6,hn,hW,hK,hN,ho,d,d1,d2,d3,d4,d5⟩
   simp only at hn hW hK hN
   subst hn
   simp(disch:=first|(simp;done)|omega|(simp only[bH,cy,bC];omega)|rfl) [hr,h6,lx,hN,oT]
   refine av (CM (l:=o.set (aQ x).length c) (Sl.row (e:=215) (rw:=true) (by omega) (by simp) (by simp[ho]) (by simp)) (by simp[ho];omega)) ?_
   intro v' h' n' jO hs
   simp[Ret]
   refine⟨hW,(hK.set (Yv5 _)).trans jO,?_⟩
   rw[Ylk (by omega) d1 d2 d3 d4 d5]at hs
   exact hs
def A.RD:=A.q Tryz.f209
def A.mS:=A.ql A.RD 0 []
def A.b209:=(fun x0=>A.qb A.RD [x0]) A.mS
def A.k209:=@A.kk 209 41 [.tmp 4] A.b209 (by kernel_rfl) rfl
def Ep{a b:Nat}(h:a<=b):(aQ a).length<=(aQ b).length:=by
 apply vD
 intro hc
 have h1:=Em (b:=B) (qP b)
 rw[mj]at h1
 have h2:∀n,n≠0->B^((aQ n).length-1)<=n:=by
  intro n
  induction n using Nat.strongRecOn with
  |_ n ih=>
   intro hn
   rw[mi hn]
   by_cases h0:n/B=0
   ·rw[h0,qO];simp;omega
   ·have:=ih (n/B) (BQ (by omega) (by decide)) h0
    have hp:0<(aQ (n/B)).length:=by rw[mi h0];simp
    simp only[bC,Nat.add_sub_cancel]
    rw[show (aQ (n/B)).length=((aQ (n/B)).length-1)+1 by omega,fV]
    have h3:B^((aQ (n/B)).length-1)*B<=n/B*B:=ot B this
    have:=Nat.div_mul_le_self n B
    omega
 have ha:a≠0:=by
  rintro rfl
  rw[qO]at hc;simp at hc
 have h3:=h2 a ha
 have h4:B^(aQ b).length<=B^((aQ a).length-1):=Ywo (by decide) (by omega)
 omega
structure Yt3 (h:T O) (N x y k:Nat) (o:List Nat) (c:Nat) (r:T V) (st:St):Prop where
 hk:k<=(aQ x).length
 ME:r.get 14=some (.int .i64 k)
 r6:r.get 6=some (.int .u64 c)
 n:st.n=N+1
 w:aL N st.w=[]
 ai:ah h N st.h (N+1)
 row:st.h.get N=some (.cells (dg o) 215 true)
 len:o.length=(aQ x).length
 ex:∃d,d.length=k/\o=d++List.replicate ((aQ x).length-k) 0/\val B d+val B ((aQ y).take k)=val B ((aQ x).take k)+B^k*c/\c<=1/\Dg d
def Yvr(h:T O)(N x y m:Nat)(r:T V)(st:St):Prop:=∃k o c,m=(aQ x).length-k/\Yt3 h N x y k o c r st
def Yvs(h:T O)(N x y:Nat)(r:T V)(st:St):Prop:=∃o c,Yt3 h N x y (aQ x).length o c r st
def Yl1{x y o d:List Nat}{k c xk:Nat}(hx:x[k]?=some xk)(d1:d.length=k)(d2:o=d++List.replicate (x.length-k) 0)(d3:val B d+val B (y.take k)=val B (x.take k)+B^k*c)(d4:c<=1)(d5:Dg d)(gx:Dg x)(gy:Dg y):
  (d++[eG xk (dz y k) c]).length=k+1/\o.set k (eG xk (dz y k) c)=(d++[eG xk (dz y k) c])++List.replicate (x.length-(k+1)) 0/\val B (d++[eG xk (dz y k) c])+val B (y.take (k+1))=val B (x.take (k+1))+B^(k+1)*fG xk (dz y k) c/\fG xk (dz y k) c<=1/\Dg (d++[eG xk (dz y k) c]):=by
 have hk:k<x.length:=by
  apply Yxf;intro hc;rw[kc hc]at hx;cases hx
 have hxk:=gx.get hx
 have hyk:=Yra gy k
 have hs:eG xk (dz y k) c+dz y k+c=xk+B*fG xk (dz y k) c/\eG xk (dz y k) c<B/\fG xk (dz y k) c<=1:=by
  unfold eG fG
  unfold B at*
  split<;>omega
 refine⟨by simp[d1],?_,?_,hs.2.2,?_⟩
 ·rw[d2,show x.length-k=(x.length-(k+1))+1 by omega,Zqh d1]
 ·rw[Uf,CH,CH,d1,show dz x k=xk by simp[dz,hx],fV]
  have h1:=hs.1
  generalize eG xk (dz y k) c=s at*
  generalize fG xk (dz y k) c=b at*
  generalize B^k=p at*
  have:p*(s+dz y k+c)=p*(xk+B*b):=by rw[h1]
  grind
 ·intro e he
  rcases tg.1 he with he|he
  ·exact d5 e he
  ·simp at he;subst he;exact hs.2.1
def Ypy{x y:Nat}{o d:List Nat}{c:Nat}(hl:y<=x)(d1:d.length=(aQ x).length)(d2:o=d++List.replicate ((aQ x).length-(aQ x).length) 0)(d3:val B d+val B ((aQ y).take (aQ x).length)=val B ((aQ x).take (aQ x).length)+B^(aQ x).length*c)(d4:c<=1)(d5:Dg d):rP o=aQ (x-y):=by
 rw[d2,Nat.sub_self]
 simp only[List.replicate_zero,AP]
 rw[CI d5]
 congr 1
 rw[jP (Yv5 _),jP (Ep hl),mj,mj]at d3
 have:=Em d5
 rw[d1]at this
 rcases Nat.lt_or_ge c 1 with hc|hc
 ·have:c=0:=by omega
  subst this
  simp at d3;omega
 ·have:c=1:=by omega
  subst this
  omega
def Znb{h:T O}{N:Nat}{vx vy:V}{x y:Nat}(hx:Wn h N vx x)(hy:Wn h N vy y)(UU:y<=x)(Cs:(aQ x).length<1099511627776)(OV:(aQ y).length<1099511627776):Fn A.C 209 [vx,vy] h N (fun v' h' N'=>Wn h' N' v' (x-y)):=by
 intro w
 have lx:=hx.len
 have ly:=hy.len
 rw[bH]at lx ly
 rw[aZ,A.k209 (by simp)]
 simp(disch:=first|(simp;done)|omega|(simp only[bH,cy,bC];omega)|rfl) [A.b209,lx,ly]
 refine Zal [(6,8),(14,38)] (fun e r st=>e=.exit 0/\Yvs h N x y r st) (Yvr h N x y) (aQ x).length ?_ ?_ ?_
 ·refine⟨0,List.replicate (aQ x).length 0,0,by omega,⟨by omega,by simp,by simp,by simp,by simp,ah.refl.set (Yv5 _) |>.up (by omega),by simp[JK],by simp,[],by simp,by simp,by simp[val],by decide,by simp[Dg]⟩⟩
 ·rintro m r ⟨H,n1,W⟩ hr hf ⟨k,o,c,rfl,hk,h22,h6,hn,hW,hK,hN,ho,d,hd⟩
  simp only at hn hW hK hN
  subst hn
  rw[cn]
  by_cases aW:k<(aQ x).length
  ·obtain⟨i1,o1,c1,e1,w1,p1,p2,p3,p4⟩:=hx.at (Za8 (Yv8 aW))
   have p3:=(hK.get _ p2).trans p3
   obtain⟨d1,d2,d3,d4,d5⟩:=hd
   have hsp:=Yl1 (x:=aQ x) (y:=aQ y) (Yv8 aW) d1 d2 d3 d4 d5 (qP x) (qP y)
   by_cases hky:k<(aQ y).length
   ·obtain⟨i2,o2,c2,e2,w2,q1,q2,q3,q4⟩:=hy.at (Za8 (Yv8 hky))
    have q3:=(hK.get _ q2).trans q3
    have hz:dz (aQ y) k=(aQ y)[k]:=by simp[dz,Yv8 hky]
    rw[hz]at hsp
    simp(disch:=first|(simp;done)|omega|(simp only[bH,cy,bC];omega)|rfl) [A.mS,hr,h22,h6,aW,hky,lx,ly,p1,p3,p4,q1,q3,q4,hN,oT,hf]
    exact⟨_,by omega,k+1,_,_,rfl,⟨by omega,by simp,by simp,rfl,by simp[hW],hK.set (Yv5 _),by simp,by simp[ho],_,hsp⟩⟩
   ·have hz:dz (aQ y) k=0:=by simp[dz,kc (w_.1 hky)]
    rw[hz]at hsp
    simp(disch:=first|(simp;done)|omega|(simp only[bH,cy,bC];omega)|rfl) [A.mS,hr,h22,h6,aW,hky,lx,ly,p1,p3,p4,hN,oT,hf]
    exact⟨_,by omega,k+1,_,_,rfl,⟨by omega,by simp,by simp,rfl,by simp[hW],hK.set (Yv5 _),by simp,by simp[ho],_,hsp⟩⟩
  ·have RC:k=(aQ x).length:=by omega
   subst RC
   simp[A.mS,hr,h22,hf]
   exact⟨o,c,⟨by omega,by simp[h22],by simp[h6],rfl,by simp[hW],hK,hN,ho,d,hd⟩⟩
 ·rintro _ r ⟨H,n1,W⟩ hr ⟨rfl,o,c,hk,h22,h6,hn,hW,hK,hN,ho,d,d1,d2,d3,d4,d5⟩
  simp only at hn hW hK hN
  subst hn
  simp[hr]
  refine av (CM (l:=o) (Sl.row (e:=215) (rw:=true) (by omega) (by simp[hN]) (by simp[ho]) (by simp)) (by simp[ho];omega)) ?_
  intro v' h' n' jO hs
  simp[Ret]
  refine⟨hW,hK.trans jO,?_⟩
  rw[Ypy UU d1 d2 d3 d4 d5]at hs
  exact hs
end
end Go.Mx
