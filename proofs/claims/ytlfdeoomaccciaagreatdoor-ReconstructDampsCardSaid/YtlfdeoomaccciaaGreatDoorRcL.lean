/-lensletref01-/
import Derived.Test.YtlfdeoomaccciaaGreatDoorRcG
set_option linter.all false
namespace Go.Mx
noncomputable section
open Go Go.Proofs
set_option maxHeartbeats 2000000
set_option maxRecDepth 1000000
def A.b54:=A.q Tryz.f54
def A.k54:=@A.kk 54 63 [.tmp 4] A.b54 (by kernel_rfl) rfl
def U6{a b:Rat}{j k:Nat}{h:T O}{N:Nat}(ha:Qb j a)(hb:Qb k b)(hj:j<=400000000)(hk:k<=400000000):Fn A.C 54 [.str (aR a),.str (aR b)] h N (fun u _ _=>u=.str (aR (a+b))):=by
 intro w
 obtain⟨n1,d1,o1,pY,f1⟩:=Sk a
 obtain⟨n2,d2,o2,kp,f2⟩:=Sk b
 have pa:=Rat.den_pos a
 have pb:=Rat.den_pos b
 rw[aN,A.k54 (by simp)]
 have key:(o1=true/\o2=true)\/(o1=false\/(o1=true/\o2=false)):=by cases o1<;>cases o2<;>simp
 rcases key with⟨rfl,rfl⟩|key
 ·obtain⟨rfl,rfl,g1⟩:=f1 rfl
  obtain⟨rfl,rfl,g2⟩:=f2 rfl
  have m1:(a.num*(b.den:Int)).natAbs<=1000000000000000000:=by rw[uO,dC];exact OL g1.1 g2.2
  have m4:(b.num*(a.den:Int)).natAbs<=1000000000000000000:=by rw[uO,dC];exact OL g2.1 g1.2
  have m2:a.den*b.den<=1000000000000000000:=OL g1.2 g2.2
  have m3:0<a.den*b.den:=yF pa pb
  have e2:(a.den:Int)*(b.den:Int)=((a.den*b.den:Nat):Int):=by simp
  have w1:bl .i64 (a.num*(b.den:Int))=a.num*(b.den:Int):=cA (by omega) (by omega)
  have w3:bl .i64 (b.num*(a.den:Int))=b.num*(a.den:Int):=cA (by omega) (by omega)
  have w2:bl .i64 ((a.den:Int)*(b.den:Int))=(a.den:Int)*(b.den:Int):=by rw[e2];exact cA (by omega) (by omega)
  have w4:bl .i64 (a.num*(b.den:Int)+b.num*(a.den:Int))=a.num*(b.den:Int)+b.num*(a.den:Int):=cA (by omega) (by omega)
  have ho:=fun st=>Yrc (p:=a.num*(b.den:Int)+b.num*(a.den:Int)) (q:=(a.den:Int)*(b.den:Int)) (st:=st) (by omega) (by omega) (by omega) (by omega) (by omega)
  rw[<-Zqg]at ho
  simp[A.b54,pY,kp,w1,w2,w3,w4,ho,aA]
  exact ab.refl
 ·have la:=Hi ha.1
  have RM:=EL ha.2
  have lb:=Hi hb.1
  have lb2:=EL hb.2
  have z1:=uH ha.1
  have z2:=uH hb.1
  have z3:=uH ha.2
  have z4:=uH hb.2
  rcases key with rfl|⟨rfl,rfl⟩
  all_goals simp[A.b54,pY,kp]
  all_goals
   refine aB (OH (q:=a) (by omega) (by omega)) ?_
   rintro _ h1 t1 k1 ⟨x1,y1,rfl,X1,Y1⟩
   obtain⟨u1,rfl,p1,p2,F1⟩:=X1.pN
   obtain⟨v1,rfl,p3,p4,G1⟩:=Y1.pN
   unfold V.one at p1 p3
   unfold V.cells at p2 p4
   have KA:=((((ab.refl (h:=h1) (n:=t1)).new (.cells [.bool false,.aa] 146 true)).new (.cells [.bool false,.aa] 146 true)).set (i:=t1) (o:=.cells [.bool (decide (a.num<0)),u1] 146 true) (aQ _)).set (i:=t1+1) (o:=.cells [.bool (decide ((a.den:Int)<0)),v1] 146 true) (by omega)
   have c0:¬t1+1=t1:=by omega
   have c00:¬t1=t1+1:=by omega
   simp[p1,p2,p3,p4,bD,ad,c0]
   generalize AT:(((h1.set t1 (.cells [.bool false,.aa] 146 true)).set (t1+1) (.cells [.bool false,.aa] 146 true)).set t1 (.cells [.bool (decide (a.num<0)),u1] 146 true)).set (t1+1) (.cells [.bool (decide ((a.den:Int)<0)),v1] 146 true)=HA at*
   have F9:HA.get t1=some (.cells [.bool (decide (a.num<0)),u1] 146 true):=by rw[<-AT];simp[c0,c00]
   have OO:HA.get (t1+1)=some (.cells [.bool (decide ((a.den:Int)<0)),v1] 146 true):=by rw[<-AT];simp
   have X1:=X1.ae KA
   have Y1:=Y1.ae KA
   clear AT
   refine aB (OH (q:=b) (by omega) (by omega)) ?_
   rintro _ h2 t2 k2 ⟨x2,y2,rfl,X2,Y2⟩
   obtain⟨u2,rfl,p5,p6,F2⟩:=X2.pN
   obtain⟨v2,rfl,p7,p8,G2⟩:=Y2.pN
   unfold V.one at p5 p7
   unfold V.cells at p6 p8
   have KB:=((((ab.refl (h:=h2) (n:=t2)).new (.cells [.bool false,.aa] 146 true)).new (.cells [.bool false,.aa] 146 true)).set (i:=t2) (o:=.cells [.bool (decide (b.num<0)),u2] 146 true) (aQ _)).set (i:=t2+1) (o:=.cells [.bool (decide ((b.den:Int)<0)),v2] 146 true) (by omega)
   have c1:¬t2+1=t2:=by omega
   have c11:¬t2=t2+1:=by omega
   have i2:=k2.le
   generalize It:(((h2.set t2 (.cells [.bool false,.aa] 146 true)).set (t2+1) (.cells [.bool false,.aa] 146 true)).set t2 (.cells [.bool (decide (b.num<0)),u2] 146 true)).set (t2+1) (.cells [.bool (decide ((b.den:Int)<0)),v2] 146 true)=HB at*
   have AU:HB.get t2=some (.cells [.bool (decide (b.num<0)),u2] 146 true):=by rw[<-It];simp[c1,c11]
   have FK:HB.get (t2+1)=some (.cells [.bool (decide ((b.den:Int)<0)),v2] 146 true):=by rw[<-It];simp
   have zu:=(KB.get t1 (by omega)).trans ((k2.get t1 (by omega)).trans F9)
   have Fq:=(KB.get (t1+1) (by omega)).trans ((k2.get (t1+1) (by omega)).trans OO)
   have X1:=(X1.ae k2).ae KB
   have Y1:=(Y1.ae k2).ae KB
   have X2:=X2.ae KB
   have Y2:=Y2.ae KB
   have K2:ab h N HB (t2+1+1):=((k1.trans KA).trans k2).trans KB
   have j1:t1<t2+1+1:=by omega
   have j2:t1+1<t2+1+1:=by omega
   have j3:t2<t2+1+1:=by omega
   simp[p5,p6,p7,p8,bD,ad,c1,It,AU,FK,zu,Fq,aO,aD]
   refine aB (Ml X1 Y2 (by omega) (by rw[dC];omega)) ?_
   rintro _ h3 t3 k3 X3
   have i3:=k3.le
   have gC1:=(k3.get t2 (by omega)).trans AU
   have gC2:=(k3.get (t2+1) (by omega)).trans FK
   have Sm:=(k3.get (t1+1) (by omega)).trans Fq
   simp[gC1,Sm,aO,aD]
   refine aB (Ml (X2.ae k3) (Y1.ae k3) (by omega) (by rw[dC];omega)) ?_
   rintro _ h4 t4 k4 X4
   have i4:=k4.le
   have b1:=ON (b:=(b.den:Int)) (k:=k) ha.1 (by rw[dC];exact hb.2)
   have b2:=ON (b:=(a.den:Int)) (k:=j) hb.1 (by rw[dC];exact ha.2)
   rw[Nat.add_comm k j]at b2
   have m1:=uH b1
   have m2:=uH b2
   have m3:=uH (Zq8 b1 b2)
   have m4:=uH (ON (a:=(a.den:Int)) (b:=(b.den:Int)) (j:=j) (k:=k) (by rw[dC];exact ha.2) (by rw[dC];exact hb.2))
   simp[]
   refine aB (Ym6 (X3.ae k4) X4 (by omega) (by omega)) ?_
   rintro _ h5 t5 k5 X5
   have i5:=k5.le
   have gD2:=(k5.get (t2+1) (by omega)).trans ((k4.get (t2+1) (by omega)).trans gC2)
   have So:=(k5.get (t1+1) (by omega)).trans ((k4.get (t1+1) (by omega)).trans Sm)
   simp[gD2,So,aO,aD]
   refine aB (Ml (((Y1.ae k3).ae k4).ae k5) (((Y2.ae k3).ae k4).ae k5) (by rw[dC];omega) (by rw[dC];omega)) ?_
   rintro _ h6 t6 k6 X6
   simp[]
   refine aB (Zji (X5.ae k6) X6 (Jg (by omega) (by omega)) (by omega) (by omega)) ?_
   rintro _ h7 t7 k7 rfl
   have j4:t2+1<t3:=by omega
   have j5:t1+1<t3:=by omega
   have j6:t2<t3:=by omega
   have j7:t2+1<t5:=by omega
   have j8:t1+1<t5:=by omega
   rw[<-Zqg]
   have i1:=k1.le
   simp[-av,ct.cv,j1,j2,j3,j4,j5,j6,j7,j8,aA]
   exact⟨ui (by simp;omega),((((K2.trans k3).trans k4).trans k5).trans k6).trans k7⟩
set_option maxHeartbeats 2000000
def A.b188:=A.q Tryz.f188
def A.k188:=@A.kk 188 51 [.tmp 4,.tmp 5] A.b188 (by kernel_rfl) rfl
def Yrg{x y:Nat}(hx:x<18446744073709551616)(hy:y<18446744073709551616):cG (cG (cM (au x 32) (au y 32)) (au (cG (cM (au x 32) (eM y)) (au (cM (eM x) (eM y)) 32)) 32)) (au (cG (eM (cG (cM (au x 32) (eM y)) (au (cM (eM x) (eM y)) 32))) (cM (eM x) (au y 32))) 32)=cf (x*y):=by
 simp only[cG,cM,au,eM,cf,Nat.reducePow]
 have ex:x=x/4294967296*4294967296+x%4294967296:=by omega
 have ey:y=y/4294967296*4294967296+y%4294967296:=by omega
 have mG:x%4294967296<4294967296:=kZ _ (by decide)
 have xG:y%4294967296<4294967296:=kZ _ (by decide)
 have xY:x/4294967296<4294967296:=by omega
 have ph:y/4294967296<4294967296:=by omega
 generalize x/4294967296=x1 at*
 generalize x%4294967296=x0 at*
 generalize y/4294967296=y1 at*
 generalize y%4294967296=y0 at*
 have a1:x0*y0<=4294967295*4294967295:=wS (by omega) (by omega)
 have a2:x1*y0<=4294967295*4294967295:=wS (by omega) (by omega)
 have a3:x0*y1<=4294967295*4294967295:=wS (by omega) (by omega)
 have a4:x1*y1<=4294967295*4294967295:=wS (by omega) (by omega)
 have e:x*y=x1*y1*18446744073709551616+(x1*y0+x0*y1)*4294967296+x0*y0:=by
  subst ex;subst ey
  grind
 rw[e]
 generalize x0*y0=p at*
 generalize x1*y0=q at*
 generalize x0*y1=u at*
 generalize x1*y1=z at*
 omega
def MU{h:T O}{N:Nat}{x y:Nat}(hx:x<18446744073709551616)(hy:y<18446744073709551616):Fn A.C 188 [.int .u64 x,.int .u64 y] h N (fun v' h' N'=>h'=h/\N'=N/\v'=.aV [.int .u64 (cf (x*y):Nat),.int .u64 (bu (x*y):Nat)]):=by
 intro w
 rw[aN,A.k188 (by simp)]
 simp(disch:=first|(simp;done)|omega|(simp only[bC,cB,bp];omega)|rfl) [A.b188]
 rw[Yrg hx hy]
 exact⟨rfl,ab.refl,rfl,rfl,rfl⟩
def A.OP:=A.q Tryz.f235
def A.nM:=A.ql A.OP 0 []
def A.b235:=(fun x0=>A.qb A.OP [x0]) A.nM
def A.k235:=@A.kk 235 21 [.tmp 2] A.b235 (by kernel_rfl) rfl
def C9{h:T O}{N:Nat}{v:V}{l:List Nat}(hs:Sl h N v (dg l))(hl:l.length<1152921504606846976):Fn A.C 235 [v] h N (fun v' h' N'=>Sl h' N' v' (dg (th l))):=by
 intro w
 have hlen:=hs.len
 rw[bC]at hlen
 rw[aN,A.k235 (by simp)]
 simp[A.b235,hlen]
 refine bG [(3,3),(6,17)] (fun e r st=>e=.exit 0/\st=⟨h,N,[]⟩/\∃k,k<=l.length/\r.get 3=some (.int .i64 k)/\th l=l.take k) (fun k r st=>st=⟨h,N,[]⟩/\k<=l.length/\r.get 3=some (.int .i64 k)/\th (l.take k)=th l) l.length ?_ ?_ ?_
 ·exact⟨rfl,aQ _,by simp,by simp⟩
 ·rintro k r _ hr hf ⟨rfl,hk,h3,ht⟩
  rw[bk]
  cases k with
  |zero=>
   have:th l=[]:=ht.symm
   simp[A.nM,h3,hf,this]
   exact⟨0,by omega,rfl,.inl rfl⟩
  |succ k=>
   obtain⟨d,hd⟩:∃d,l[k]?=some d:=⟨_,c9 (by omega)⟩
   obtain⟨i,o,c,e,rw,q1,q2,q3,q4⟩:=hs.at (fu hd)
   have e1:l.take (k+1)=l.take k++[d]:=by rw[uC,hd];rfl
   have k1:(0:Int)<(k:Int)+1:=by omega
   have k2:(k:Int)<(l.length:Int):=by omega
   by_cases h0:d=0
   ·subst h0
    rw[e1,Zpc]at ht
    simp(disch:=first|(simp;done)|omega|(simp only[bC,cB,bp];omega)|rfl) [A.nM,h3,hr,hf,k1,k2,hlen,q1,q3,q4,aE]
    exact⟨k,by omega,by omega,rfl,ht⟩
   ·rw[e1,Zpd h0]at ht
    have hz:((d:Int)==0)=false:=by simp;omega
    simp(disch:=first|(simp;done)|omega|(simp only[bC,cB,bp];omega)|rfl) [A.nM,h3,hr,hf,k1,k2,hlen,q1,q3,q4,aE,hz]
    exact⟨k+1,hk,rfl,by rw[e1];exact ht.symm⟩
 ·rintro _ r _ hr ⟨rfl,rfl,k,hk,h3,ht⟩
  simp[hr,h3,Bh,aC]
  obtain⟨v',e1,e2⟩:=DS (w:=[]) hs (lo:=0) (hi:=k) (uw _) (by rw[bC];exact hk) none (some (.int .i64 k)) (.inr ⟨rfl,rfl⟩) (.inl rfl)
  rw[e1]
  simp[aA]
  refine⟨ab.refl,?_⟩
  rw[ht,show dg (l.take k)=(dg l).take k by simp[dg]]
  exact e2
set_option maxHeartbeats 2000000
def A.OQ:=A.q Tryz.f183
def A.fS:=A.ql A.OQ 0 []
def A.b183:=(fun x0=>A.qb A.OQ [x0]) A.fS
def A.k183:=@A.kk 183 54 [.tmp 4] A.b183 (by kernel_rfl) rfl
structure Yu6 (h:T O) (N x y k:Nat) (o:List Nat) (c:Nat) (r:T V) (st:St):Prop where
 hk:k<=(aH x).length
 r22:r.get 22=some (.int .i64 k)
 r6:r.get 6=some (.int .u64 c)
 n:st.n=N+1
 w:av N st.w=[]
 ae:ab h N st.h (N+1)
 row:st.h.get N=some (.cells (dg o) 191 true)
 len:o.length=(aH x).length+1
 ex:∃d,d.length=k/\o=d++List.replicate ((aH x).length+1-k) 0/\val B d+B^k*c=val B ((aH x).take k)+val B ((aH y).take k)/\c<=1/\Dg d
def Yu7(h:T O)(N x y m:Nat)(r:T V)(st:St):Prop:=∃k o c,m=(aH x).length-k/\Yu6 h N x y k o c r st
def Yu8(h:T O)(N x y:Nat)(r:T V)(st:St):Prop:=∃o c,Yu6 h N x y (aH x).length o c r st
def Yfx{x y o d:List Nat}{k c xk:Nat}(hx:x[k]?=some xk)(d1:d.length=k)(d2:o=d++List.replicate (x.length+1-k) 0)(d3:val B d+B^k*c=val B (x.take k)+val B (y.take k))(d4:c<=1)(d5:Dg d)(gx:Dg x)(gy:Dg y):
  (d++[bu (xk+dz y k+c)]).length=k+1/\o.set k (bu (xk+dz y k+c))=(d++[bu (xk+dz y k+c)])++List.replicate (x.length+1-(k+1)) 0/\val B (d++[bu (xk+dz y k+c)])+B^(k+1)*cf (xk+dz y k+c)=val B (x.take (k+1))+val B (y.take (k+1))/\cf (xk+dz y k+c)<=1/\Dg (d++[bu (xk+dz y k+c)]):=by
 have hk:k<x.length:=by
  apply tn;intro hc;rw[fl hc]at hx;cases hx
 have Kv:=gx.get hx
 have hyk:=Ysa gy k
 have hm:=uD (xk+dz y k+c) B
 refine⟨by simp[d1],?_,?_,?_,?_⟩
 ·rw[d2,show x.length+1-k=(x.length-k)+1 by omega,Ya d1,show x.length+1-(k+1)=x.length-k by omega]
 ·rw[Q7,C5,C5,d1,show dz x k=xk by simp[dz,hx]]
  have e1:bu (xk+dz y k+c)=(xk+dz y k+c)%B:=rfl
  have e2:cf (xk+dz y k+c)=(xk+dz y k+c)/B:=rfl
  rw[e1,e2,fZ]
  generalize (xk+dz y k+c)%B=lo at*
  generalize (xk+dz y k+c)/B=hi at*
  generalize B^k=p at*
  have:p*(B*hi+lo)=p*(xk+dz y k+c):=by rw[hm]
  grind
 ·show (xk+dz y k+c)/B<=1
  unfold B at*;omega
 ·intro e he
  rcases kh.1 he with he|he
  ·exact d5 e he
  ·simp at he;subst he;exact kZ _ (by decide)
def Yll{x y:Nat}{o d:List Nat}{c:Nat}(hl:(aH y).length<=(aH x).length)(d1:d.length=(aH x).length)(d2:o=d++List.replicate ((aH x).length+1-(aH x).length) 0)(d3:val B d+B^(aH x).length*c=val B ((aH x).take (aH x).length)+val B ((aH y).take (aH x).length))(d4:c<=1)(d5:Dg d):th (o.set (aH x).length c)=aH (x+y):=by
 rw[d2,show (aH x).length+1-(aH x).length=0+1 by omega,Ya d1]
 simp only[List.replicate_zero,zy]
 rw[C6,Q7,d1,d3,eZ (aQ _),eZ hl,mY,mY]
 intro e he
 rcases kh.1 he with he|he
 ·exact d5 e he
 ·simp at he;subst he;unfold B;omega
def Zwh{h:T O}{N:Nat}{vx vy:V}{x y:Nat}(hx:Wn h N vx x)(hy:Wn h N vy y)(uf:(aH x).length<1099511627776)(LB:(aH y).length<1099511627776):Fn A.C 183 [vx,vy] h N (fun v' h' N'=>Wn h' N' v' (x+y)):=by
 intro w
 have lx:=hx.len
 have ly:=hy.len
 rw[bC]at lx ly
 rw[aN,A.k183 (by simp)]
 by_cases hl:(aH x).length<(aH y).length
 ·simp(disch:=first|(simp;done)|omega|(simp only[bC,cB,bp];omega)|rfl) [A.b183,lx,ly,hl]
  refine bG [(6,8),(22,46)] (fun e r st=>e=.exit 0/\Yu8 h N y x r st) (Yu7 h N y x) (aH y).length ?_ ?_ ?_
  ·refine⟨0,List.replicate ((aH y).length+1) 0,0,by omega,⟨by omega,by simp,by simp,by simp,by simp,ab.refl.set (aQ _) |>.up (by omega),by simp[Hq],by simp,[],by simp,by simp,by simp[val],by decide,by simp[Dg]⟩⟩
  ·rintro m r ⟨H,n1,W⟩ hr hf ⟨k,o,c,rfl,hk,oZ,h6,hn,hW,hK,hN,ho,d,hd⟩
   simp only at hn hW hK hN
   subst hn
   rw[bk]
   by_cases ax:k<(aH y).length
   ·obtain⟨i1,o1,c1,e1,w1,p1,p2,p3,p4⟩:=hy.at (fu (c9 ax))
    have p3:=(hK.get _ p2).trans p3
    obtain⟨d1,d2,d3,d4,d5⟩:=hd
    have ix:=Yfx (x:=aH y) (y:=aH x) (c9 ax) d1 d2 d3 d4 d5 (rF y) (rF x)
    by_cases qp:k<(aH x).length
    ·obtain⟨i2,o2,c2,e2,w2,q1,q2,q3,q4⟩:=hx.at (fu (c9 qp))
     have q3:=(hK.get _ q2).trans q3
     have hz:dz (aH x) k=(aH x)[k]:=by simp[dz,c9 qp]
     rw[hz]at ix
     simp(disch:=first|(simp;done)|omega|(simp only[bC,cB,bp];omega)|rfl) [A.fS,hr,oZ,h6,ax,qp,ly,lx,p1,p3,p4,q1,q3,q4,hN,pL,hf]
     exact⟨_,by omega,k+1,_,_,rfl,⟨by omega,by simp,by simp,rfl,by simp[hW],hK.set (aQ _),by simp,by simp[ho],_,ix⟩⟩
    ·have hz:dz (aH x) k=0:=by simp[dz,fl (tr.1 qp)]
     rw[hz]at ix
     simp(disch:=first|(simp;done)|omega|(simp only[bC,cB,bp];omega)|rfl) [A.fS,hr,oZ,h6,ax,qp,ly,lx,p1,p3,p4,hN,pL,hf]
     exact⟨_,by omega,k+1,_,_,rfl,⟨by omega,by simp,by simp,rfl,by simp[hW],hK.set (aQ _),by simp,by simp[ho],_,ix⟩⟩
   ·have OR:k=(aH y).length:=by omega
    subst OR
    simp[A.fS,hr,oZ,hf]
    exact⟨o,c,⟨by omega,by simp[oZ],by simp[h6],rfl,by simp[hW],hK,hN,ho,d,hd⟩⟩
  ·rintro _ r ⟨H,n1,W⟩ hr ⟨rfl,o,c,hk,oZ,h6,hn,hW,hK,hN,ho,d,d1,d2,d3,d4,d5⟩
   simp only at hn hW hK hN
   subst hn
   simp(disch:=first|(simp;done)|omega|(simp only[bC,cB,bp];omega)|rfl) [hr,h6,ly,hN,pL]
   refine aB (C9 (l:=o.set (aH y).length c) (Sl.row (e:=191) (rw:=true) (by omega) (by simp) (by simp[ho]) (by simp)) (by simp[ho];omega)) ?_
   intro v' h' n' gH hs
   simp[aA]
   refine⟨hW,(hK.set (aQ _)).trans gH,?_⟩
   rw[Yll (by omega) d1 d2 d3 d4 d5]at hs
   exact(Nat.add_comm y x▸hs)
 ·simp(disch:=first|(simp;done)|omega|(simp only[bC,cB,bp];omega)|rfl) [A.b183,lx,ly,hl]
  refine bG [(6,8),(22,46)] (fun e r st=>e=.exit 0/\Yu8 h N x y r st) (Yu7 h N x y) (aH x).length ?_ ?_ ?_
  ·refine⟨0,List.replicate ((aH x).length+1) 0,0,by omega,⟨by omega,by simp,by simp,by simp,by simp,ab.refl.set (aQ _) |>.up (by omega),by simp[Hq],by simp,[],by simp,by simp,by simp[val],by decide,by simp[Dg]⟩⟩
  ·rintro m r ⟨H,n1,W⟩ hr hf ⟨k,o,c,rfl,hk,oZ,h6,hn,hW,hK,hN,ho,d,hd⟩
   simp only at hn hW hK hN
   subst hn
   rw[bk]
   by_cases ax:k<(aH x).length
   ·obtain⟨i1,o1,c1,e1,w1,p1,p2,p3,p4⟩:=hx.at (fu (c9 ax))
    have p3:=(hK.get _ p2).trans p3
    obtain⟨d1,d2,d3,d4,d5⟩:=hd
    have ix:=Yfx (x:=aH x) (y:=aH y) (c9 ax) d1 d2 d3 d4 d5 (rF x) (rF y)
    by_cases qp:k<(aH y).length
    ·obtain⟨i2,o2,c2,e2,w2,q1,q2,q3,q4⟩:=hy.at (fu (c9 qp))
     have q3:=(hK.get _ q2).trans q3
     have hz:dz (aH y) k=(aH y)[k]:=by simp[dz,c9 qp]
     rw[hz]at ix
     simp(disch:=first|(simp;done)|omega|(simp only[bC,cB,bp];omega)|rfl) [A.fS,hr,oZ,h6,ax,qp,lx,ly,p1,p3,p4,q1,q3,q4,hN,pL,hf]
     exact⟨_,by omega,k+1,_,_,rfl,⟨by omega,by simp,by simp,rfl,by simp[hW],hK.set (aQ _),by simp,by simp[ho],_,ix⟩⟩
    ·have hz:dz (aH y) k=0:=by simp[dz,fl (tr.1 qp)]
     rw[hz]at ix
     simp(disch:=first|(simp;done)|omega|(simp only[bC,cB,bp];omega)|rfl) [A.fS,hr,oZ,h6,ax,qp,lx,ly,p1,p3,p4,hN,pL,hf]
     exact⟨_,by omega,k+1,_,_,rfl,⟨by omega,by simp,by simp,rfl,by simp[hW],hK.set (aQ _),by simp,by simp[ho],_,ix⟩⟩
   ·have OR:k=(aH x).length:=by omega
    subst OR
    simp[A.fS,hr,oZ,hf]
    exact⟨o,c,⟨by omega,by simp[oZ],by simp[h6],rfl,by simp[hW],hK,hN,ho,d,hd⟩⟩
  ·rintro _ r ⟨H,n1,W⟩ hr ⟨rfl,o,c,hk,oZ,h6,hn,hW,hK,hN,ho,d,d1,d2,d3,d4,d5⟩
   simp only at hn hW hK hN
   subst hn
   simp(disch:=first|(simp;done)|omega|(simp only[bC,cB,bp];omega)|rfl) [hr,h6,lx,hN,pL]
   refine aB (C9 (l:=o.set (aH x).length c) (Sl.row (e:=191) (rw:=true) (by omega) (by simp) (by simp[ho]) (by simp)) (by simp[ho];omega)) ?_
   intro v' h' n' gH hs
   simp[aA]
   refine⟨hW,(hK.set (aQ _)).trans gH,?_⟩
   rw[Yll (by omega) d1 d2 d3 d4 d5]at hs
   exact hs
set_option maxHeartbeats 2000000
def A.OS:=A.q Tryz.f185
def A.nN:=A.ql A.OS 0 []
def A.b185:=(fun x0=>A.qb A.OS [x0]) A.nN
def A.k185:=@A.kk 185 41 [.tmp 4] A.b185 (by kernel_rfl) rfl
def EX{a b:Nat}(h:a<=b):(aH a).length<=(aH b).length:=by
 apply yY
 intro hc
 have h1:=EU (b:=B) (rF b)
 rw[mY]at h1
 have h2:∀n,n≠0->B^((aH n).length-1)<=n:=by
  intro n
  induction n using Nat.strongRecOn with
  |_ n ih=>
   intro hn
   rw[mX hn]
   by_cases h0:n/B=0
   ·rw[h0,rE];simp;omega
   ·have:=ih (n/B) (Cr (by omega) (by decide)) h0
    have hp:0<(aH (n/B)).length:=by rw[mX h0];simp
    simp only[bp,Nat.add_sub_cancel]
    rw[show (aH (n/B)).length=((aH (n/B)).length-1)+1 by omega,fZ]
    have h3:B^((aH (n/B)).length-1)*B<=n/B*B:=mr B this
    have:=Nat.div_mul_le_self n B
    omega
 have ha:a≠0:=by
  rintro rfl
  rw[rE]at hc;simp at hc
 have h3:=h2 a ha
 have h4:B^(aH b).length<=B^((aH a).length-1):=qz (by decide) (by omega)
 omega
structure Yu3 (h:T O) (N x y k:Nat) (o:List Nat) (c:Nat) (r:T V) (st:St):Prop where
 hk:k<=(aH x).length
 J3:r.get 14=some (.int .i64 k)
 r6:r.get 6=some (.int .u64 c)
 n:st.n=N+1
 w:av N st.w=[]
 ae:ab h N st.h (N+1)
 row:st.h.get N=some (.cells (dg o) 191 true)
 len:o.length=(aH x).length
 ex:∃d,d.length=k/\o=d++List.replicate ((aH x).length-k) 0/\val B d+val B ((aH y).take k)=val B ((aH x).take k)+B^k*c/\c<=1/\Dg d
def Ywi(h:T O)(N x y m:Nat)(r:T V)(st:St):Prop:=∃k o c,m=(aH x).length-k/\Yu3 h N x y k o c r st
def Ywj(h:T O)(N x y:Nat)(r:T V)(st:St):Prop:=∃o c,Yu3 h N x y (aH x).length o c r st
def Yl9{x y o d:List Nat}{k c xk:Nat}(hx:x[k]?=some xk)(d1:d.length=k)(d2:o=d++List.replicate (x.length-k) 0)(d3:val B d+val B (y.take k)=val B (x.take k)+B^k*c)(d4:c<=1)(d5:Dg d)(gx:Dg x)(gy:Dg y):
  (d++[ew xk (dz y k) c]).length=k+1/\o.set k (ew xk (dz y k) c)=(d++[ew xk (dz y k) c])++List.replicate (x.length-(k+1)) 0/\val B (d++[ew xk (dz y k) c])+val B (y.take (k+1))=val B (x.take (k+1))+B^(k+1)*fC xk (dz y k) c/\fC xk (dz y k) c<=1/\Dg (d++[ew xk (dz y k) c]):=by
 have hk:k<x.length:=by
  apply tn;intro hc;rw[fl hc]at hx;cases hx
 have Kv:=gx.get hx
 have hyk:=Ysa gy k
 have hs:ew xk (dz y k) c+dz y k+c=xk+B*fC xk (dz y k) c/\ew xk (dz y k) c<B/\fC xk (dz y k) c<=1:=by
  unfold ew fC
  unfold B at*
  split<;>omega
 refine⟨by simp[d1],?_,?_,hs.2.2,?_⟩
 ·rw[d2,show x.length-k=(x.length-(k+1))+1 by omega,Ya d1]
 ·rw[Q7,C5,C5,d1,show dz x k=xk by simp[dz,hx],fZ]
  have h1:=hs.1
  generalize ew xk (dz y k) c=s at*
  generalize fC xk (dz y k) c=b at*
  generalize B^k=p at*
  have:p*(s+dz y k+c)=p*(xk+B*b):=by rw[h1]
  grind
 ·intro e he
  rcases kh.1 he with he|he
  ·exact d5 e he
  ·simp at he;subst he;exact hs.2.1
def Yqr{x y:Nat}{o d:List Nat}{c:Nat}(hl:y<=x)(d1:d.length=(aH x).length)(d2:o=d++List.replicate ((aH x).length-(aH x).length) 0)(d3:val B d+val B ((aH y).take (aH x).length)=val B ((aH x).take (aH x).length)+B^(aH x).length*c)(d4:c<=1)(d5:Dg d):th o=aH (x-y):=by
 rw[d2,Nat.sub_self]
 simp only[List.replicate_zero,zy]
 rw[C6 d5]
 congr 1
 rw[eZ (aQ _),eZ (EX hl),mY,mY]at d3
 have:=EU d5
 rw[d1]at this
 rcases Nat.lt_or_ge c 1 with hc|hc
 ·have:c=0:=by omega
  subst this
  simp at d3;omega
 ·have:c=1:=by omega
  subst this
  omega
def Zna{h:T O}{N:Nat}{vx vy:V}{x y:Nat}(hx:Wn h N vx x)(hy:Wn h N vy y)(RV:y<=x)(uf:(aH x).length<1099511627776)(LB:(aH y).length<1099511627776):Fn A.C 185 [vx,vy] h N (fun v' h' N'=>Wn h' N' v' (x-y)):=by
 intro w
 have lx:=hx.len
 have ly:=hy.len
 rw[bC]at lx ly
 rw[aN,A.k185 (by simp)]
 simp(disch:=first|(simp;done)|omega|(simp only[bC,cB,bp];omega)|rfl) [A.b185,lx,ly]
 refine bG [(6,8),(14,38)] (fun e r st=>e=.exit 0/\Ywj h N x y r st) (Ywi h N x y) (aH x).length ?_ ?_ ?_
 ·refine⟨0,List.replicate (aH x).length 0,0,by omega,⟨by omega,by simp,by simp,by simp,by simp,ab.refl.set (aQ _) |>.up (by omega),by simp[Hq],by simp,[],by simp,by simp,by simp[val],by decide,by simp[Dg]⟩⟩
 ·rintro m r ⟨H,n1,W⟩ hr hf ⟨k,o,c,rfl,hk,oZ,h6,hn,hW,hK,hN,ho,d,hd⟩
  simp only at hn hW hK hN
  subst hn
  rw[bk]
  by_cases ax:k<(aH x).length
  ·obtain⟨i1,o1,c1,e1,w1,p1,p2,p3,p4⟩:=hx.at (fu (c9 ax))
   have p3:=(hK.get _ p2).trans p3
   obtain⟨d1,d2,d3,d4,d5⟩:=hd
   have ix:=Yl9 (x:=aH x) (y:=aH y) (c9 ax) d1 d2 d3 d4 d5 (rF x) (rF y)
   by_cases qp:k<(aH y).length
   ·obtain⟨i2,o2,c2,e2,w2,q1,q2,q3,q4⟩:=hy.at (fu (c9 qp))
    have q3:=(hK.get _ q2).trans q3
    have hz:dz (aH y) k=(aH y)[k]:=by simp[dz,c9 qp]
    rw[hz]at ix
    simp(disch:=first|(simp;done)|omega|(simp only[bC,cB,bp];omega)|rfl) [A.nN,hr,oZ,h6,ax,qp,lx,ly,p1,p3,p4,q1,q3,q4,hN,pL,hf]
    exact⟨_,by omega,k+1,_,_,rfl,⟨by omega,by simp,by simp,rfl,by simp[hW],hK.set (aQ _),by simp,by simp[ho],_,ix⟩⟩
   ·have hz:dz (aH y) k=0:=by simp[dz,fl (tr.1 qp)]
    rw[hz]at ix
    simp(disch:=first|(simp;done)|omega|(simp only[bC,cB,bp];omega)|rfl) [A.nN,hr,oZ,h6,ax,qp,lx,ly,p1,p3,p4,hN,pL,hf]
    exact⟨_,by omega,k+1,_,_,rfl,⟨by omega,by simp,by simp,rfl,by simp[hW],hK.set (aQ _),by simp,by simp[ho],_,ix⟩⟩
  ·have OR:k=(aH x).length:=by omega
   subst OR
   simp[A.nN,hr,oZ,hf]
   exact⟨o,c,⟨by omega,by simp[oZ],by simp[h6],rfl,by simp[hW],hK,hN,ho,d,hd⟩⟩
 ·rintro _ r ⟨H,n1,W⟩ hr ⟨rfl,o,c,hk,oZ,h6,hn,hW,hK,hN,ho,d,d1,d2,d3,d4,d5⟩
  simp only at hn hW hK hN
  subst hn
  simp[hr,h6,lx,hN]
  refine aB (C9 (l:=o) (Sl.row (e:=191) (rw:=true) (by omega) (by simp[hN]) (by simp[ho]) (by simp)) (by simp[ho];omega)) ?_
  intro v' h' n' gH hs
  simp[aA]
  refine⟨hW,hK.trans gH,?_⟩
  rw[Yqr RV d1 d2 d3 d4 d5]at hs
  exact hs
set_option maxHeartbeats 2000000
def A.OT:=A.q Tryz.f184
def A.kb:=A.ql A.OT 0 []
def A.b184:=(fun x0=>A.qb A.OT [x0]) A.kb
def A.k184:=@A.kk 184 41 [.tmp 4] A.b184 (by kernel_rfl) rfl
def vW(x y:Int):Int:=if x<y then -1 else if y<x then 1 else 0
def Yky{x y:Nat}(h:(aH x).length<(aH y).length):x<y:=by
 apply tn
 intro hc
 have:=EX hc
 omega
def Sp{b:Nat}{l:List Nat}{k d:Nat}(h:l[k]?=some d):val b (l.drop k)=d+b*val b (l.drop (k+1)):=by
 have hk:k<l.length:=by
  apply tn;intro hc;rw[fl hc]at h;cases h
 rw[Gh hk]
 rw[c9 hk]at h
 simp only[aq]at h
 rw[h];rfl
def Zr9(b:Nat)(l:List Nat)(k:Nat)(hk:k<=l.length):val b l=val b (l.take k)+b^k*val b (l.drop k):=by
 have:=Q6 b (l.take k) (l.drop k)
 rw[Cl,gG,pZ hk]at this
 exact this
def Ykf{x y:List Nat}{k:Nat}(gx:Dg x)(hx:k<=x.length)(hy:k<=y.length)(h:val B (x.drop k)<val B (y.drop k)):val B x<val B y:=by
 rw[Zr9 B x k hx,Zr9 B y k hy]
 have h1:val B (x.take k)<B^k:=by
  have:=EU (b:=B) (l:=x.take k) fun d hd=>gx d (yL hd)
  rwa [gG,pZ hx]at this
 have h2:B^k*(val B (x.drop k)+1)<=B^k*val B (y.drop k):=kY _ h
 rw[tA]at h2
 omega
structure Yu5 (h:T O) (N x y m:Nat) (r:T V) (st:St):Prop where
 hm:m<=(aH x).length
 r5:r.get 5=some (.int .i64 ((m:Int)-1))
 n:st.n=N
 w:st.w=[]
 ae:ab h N st.h N
 top:(aH x).drop m=(aH y).drop m
def Zh6{h:T O}{N:Nat}{vx vy:V}{x y:Nat}(hx:Wn h N vx x)(hy:Wn h N vy y)(uf:(aH x).length<1099511627776)(LB:(aH y).length<1099511627776):Fn A.C 184 [vx,vy] h N (fun v' h' N'=>v'=.int .i64 (vW x y)):=by
 intro w
 have lx:=hx.len
 have ly:=hy.len
 rw[bC]at lx ly
 rw[aN,A.k184 (by simp)]
 by_cases aW:(aH x).length=(aH y).length
 ·have zaa:((aH x).length:Int)=((aH y).length:Int):=by omega
  simp(disch:=omega) [A.b184,lx,ly,aW]
  refine bG [(4,5),(19,40)] (fun e r st=>(e=.exit 0/\Yu5 h N x y 0 r st)\/(e=.ret/\r.get 4=some (.int .i64 (vW x y))/\st.n=N/\st.w=[]/\ab h N st.h N)) (Yu5 h N x y) (aH x).length ?_ ?_ ?_
  ·exact⟨by omega,by simp[aW],rfl,rfl,ab.refl,by rw[pg,aW,pg]⟩
  ·rintro m r ⟨H,n1,W⟩ hr hf ⟨hm,h5,hn,hW,hK,ht⟩
   simp only at hn hW hK
   subst hn;subst hW
   rw[bk]
   cases m with
   |zero=>
    simp[A.kb,h5,hr,hf]
    exact⟨by omega,by simp[h5],rfl,rfl,hK,ht⟩
   |succ m=>
    have df:m<(aH x).length:=by omega
    have Xm:m<(aH y).length:=by omega
    have h5':r.get 5=some (.int .i64 (m:Int)):=by rw[h5];congr 2;omega
    have gx:=c9 df
    have gy:=c9 Xm
    obtain⟨i1,o1,c1,e1,w1,p1,p2,p3,p4⟩:=hx.at (fu gx)
    have p3:=(hK.get _ p2).trans p3
    obtain⟨i2,o2,c2,e2,w2,q1,q2,q3,q4⟩:=hy.at (fu gy)
    have q3:=(hK.get _ q2).trans q3
    rcases Nat.lt_trichotomy (aH x)[m] (aH y)[m]with ax|heq|JJ
    ·have cX:x<y:=by
      have:=Ykf (x:=aH x) (y:=aH y) (k:=m) (rF x) (by omega) (by omega) (by rw[Sp gx,Sp gy,ht];omega)
      rwa [mY,mY]at this
     have iS:¬(aH x)[m]=(aH y)[m]:=by omega
     simp(disch:=first|(simp;done)|omega|(simp only[bC,cB,bp];omega)|rfl) [A.kb,h5',hr,hf,lx,ly,p1,p2,p3,p4,q1,q2,q3,q4,aE,iS,ax]
     exact⟨by simp[vW,cX],hK⟩
    ·have M0:(aH x).drop m=(aH y).drop m:=by rw[Gh df,Gh Xm,ht,heq]
     simp(disch:=first|(simp;done)|omega|(simp only[bC,cB,bp];omega)|rfl) [A.kb,h5',hr,hf,lx,ly,p1,p2,p3,p4,q1,q2,q3,q4,aE,heq]
     exact⟨m,by omega,⟨by omega,by simp,rfl,rfl,hK,M0⟩⟩
    ·have cX:y<x:=by
      have:=Ykf (x:=aH y) (y:=aH x) (k:=m) (rF y) (by omega) (by omega) (by rw[Sp gx,Sp gy,ht];omega)
      rwa [mY,mY]at this
     have iS:¬(aH x)[m]=(aH y)[m]:=by omega
     have ax:¬(aH x)[m]<(aH y)[m]:=by omega
     have AF:¬x<y:=by omega
     simp(disch:=first|(simp;done)|omega|(simp only[bC,cB,bp];omega)|rfl) [A.kb,h5',hr,hf,lx,ly,p1,p2,p3,p4,q1,q2,q3,q4,aE,iS,ax]
     exact⟨by simp[vW,cX,AF],hK⟩
  ·rintro e r ⟨H,n1,W⟩ hr (⟨rfl,hm,h5,hn,hW,hK,ht⟩|⟨rfl,h4,hn,hW,hK⟩)
   ·simp only at hn hW hK
    subst hn;subst hW
    simp only[yU]at ht
    have:x=y:=by rw[<-mY x,ht,mY]
    subst this
    simp[hr,aA]
    exact⟨hK,by simp[vW]⟩
   ·simp only at hn hW hK
    subst hn;subst hW
    simp[h4,aA]
    exact hK
 ·have zaa:¬((aH x).length:Int)=((aH y).length:Int):=by omega
  by_cases ax:(aH x).length<(aH y).length
  ·have:=Yky ax
   simp[A.b184,lx,ly,aW,ax,aE,aA]
   exact⟨ab.refl,by simp[vW,this]⟩
  ·have h1:=Yky (x:=y) (y:=x) (by omega)
   have h2:¬x<y:=by omega
   simp[A.b184,lx,ly,aW,ax,aE,aA]
   exact⟨ab.refl,by simp[vW,h1,h2]⟩
set_option maxHeartbeats 4000000
def A.Iu:=A.q Tryz.f190
def A.se:=A.ql A.Iu 1 []
def A.sh:=(fun x0=>A.ql A.Iu 0 [x0]) A.se
def A.b190:=(fun x0=>A.qb A.Iu [x0]) A.sh
def A.k190:=@A.kk 190 80 [.tmp 4] A.b190 (by kernel_rfl) rfl
def M6{b:Nat}:∀{l:List Nat} {k old v:Nat},l[k]?=some old->val b (l.set k v)+b^k*old=val b l+b^k*v
 |[],k,old,v,h=>by simp at h
 |d::l,0,old,v,h=>by simp at h;subst h;simp[val];omega
 |d::l,k+1,old,v,h=>by
  have ih:=M6 (b:=b) (l:=l) (k:=k) (old:=old) (v:=v) (by simpa using h)
  simp only[List.set_cons_succ,val,fZ]
  generalize val b (l.set k v)=p at*
  generalize val b l=q at*
  generalize b^k=z at*
  have:b*(p+z*old)=b*(q+z*v):=by rw[ih]
  grind
def Dg.set{l:List Nat}(h:Dg l){k v:Nat}(hv:v<B):Dg (l.set k v):=by
 intro d hd
 rcases A7 hd with hd|hd
 ·exact h d hd
 ·subst hd;exact hv
def fT(x y o c:Nat):Nat:=bu (bu (bu (x*y)+o)+c)
def js(x y o c:Nat):Nat:=cG (cG (cf (x*y)) (cf (bu (x*y)+o))) (cf (bu (bu (x*y)+o)+c))
def Yh3{x y o c:Nat}(hx:x<B)(hy:y<B)(ho:o<B)(hc:c<B):fT x y o c+B*js x y o c=x*y+o+c/\fT x y o c<B/\js x y o c<B:=by
 have:x*y<=18446744073709551615*18446744073709551615:=wS (by unfold B at*;omega) (by unfold B at*;omega)
 unfold fT js bu cf cG
 unfold B at*
 generalize x*y=p at*
 omega
structure Yu4 (h:T O) (N x y i j:Nat) (o:List Nat) (c xi:Nat) (r:T V) (st:St):Prop where
 hj:j<=(aH y).length
 r29:r.get 29=some (.int .i64 j)
 r8:r.get 8=some (.int .u64 c)
 n:st.n=N+1
 w:av N st.w=[]
 ae:ab h N st.h (N+1)
 row:st.h.get N=some (.cells (dg o) 191 true)
 len:o.length=(aH x).length+(aH y).length
 dg:Dg o
 zero:∀t,i+(aH y).length<=t->t<o.length->o[t]?=some 0
 lc:c<B
 ex:val B o+B^(i+j)*c=val B ((aH x).take i)*y+B^i*(xi*val B ((aH y).take j))
def Ywk(h:T O)(N x y i xi m:Nat)(r:T V)(st:St):Prop:=∃j o c,m=(aH y).length-j/\Yu4 h N x y i j o c xi r st
def Ywl(h:T O)(N x y i xi:Nat)(r:T V)(st:St):Prop:=∃o c,Yu4 h N x y i (aH y).length o c xi r st
structure Ysu (h:T O) (N x y i:Nat) (o:List Nat) (r:T V) (st:St):Prop where
 hi:i<=(aH x).length
 r22:r.get 22=some (.int .i64 i)
 n:st.n=N+1
 w:av N st.w=[]
 ae:ab h N st.h (N+1)
 row:st.h.get N=some (.cells (Go.Mx.dg o) 191 true)
 len:o.length=(aH x).length+(aH y).length
 dg:Dg o
 zero:∀t,i+(aH y).length<=t->t<o.length->o[t]?=some 0
 ex:val B o=val B ((aH x).take i)*y
def Yuu(h:T O)(N x y m:Nat)(r:T V)(st:St):Prop:=∃i o,m=(aH x).length-i/\Ysu h N x y i o r st
def Yuv(h:T O)(N x y:Nat)(r:T V)(st:St):Prop:=∃o,Ysu h N x y (aH x).length o r st
def Zvb{h:T O}{N:Nat}{vx vy:V}{x y:Nat}(hx:Wn h N vx x)(hy:Wn h N vy y)(uf:(aH x).length<1099511627776)(LB:(aH y).length<1099511627776):Fn A.C 190 [vx,vy] h N (fun v' h' N'=>Wn h' N' v' (x*y)):=by
 intro w
 have lx:=hx.len
 have ly:=hy.len
 rw[bC]at lx ly
 rw[aN,A.k190 (by simp)]
 simp(disch:=first|(simp;done)|omega|(simp only[bC,cB,bp];omega)|rfl) [A.b190,lx,ly]
 refine bG [(6,13),(22,77)] (fun e r st=>e=.exit 0/\Yuv h N x y r st) (Yuu h N x y) (aH x).length ?_ ?_ ?_
 ·refine⟨0,List.replicate ((aH x).length+(aH y).length) 0,by omega,⟨by omega,by simp,by simp,by simp,ab.refl.set (aQ _) |>.up (by omega),?_,by simp,?_,?_,by simp[val,Zr8]⟩⟩
  ·simp[Hq]
  ·intro d hd
   rw[Jh]at hd
   rw[hd.2];decide
  ·intro t _ ht
   simp at ht
   simp[ht]
 ·rintro m r ⟨H,n1,W⟩ hr hf ⟨i,o,rfl,hi,oZ,hn,hW,hK,hN,ho,hd,hz,he⟩
  simp only at hn hW hK hN
  subst hn
  rw[bk]
  by_cases ax:i<(aH x).length
  ·obtain⟨i1,o1,c1,e1,w1,p1,p2,p3,p4⟩:=hx.at (fu (c9 ax))
   have p3:=(hK.get _ p2).trans p3
   have gx:=c9 ax
   generalize (aH x)[i]=xi at*
   simp[A.sh,hr,oZ,ax,lx,ly,p1,p3,p4]
   refine bG [(8,13),(29,69)] (fun e r st=>e=.exit 2/\Ywl h N x y i xi r st) (Ywk h N x y i xi) (aH y).length ?_ ?_ ?_
   ·exact⟨0,o,0,by omega,⟨by omega,by simp,by simp,rfl,hW,hK,hN,ho,hd,hz,by decide,by simp[val,he]⟩⟩
   ·rintro m r2 ⟨H2,n2,W2⟩ dt cU ⟨j,o2,c,rfl,hj,OU,h8,ff,dZ,eN,we,yi,d_,dL,CV,vf⟩
    simp only at ff dZ eN we
    subst ff
    rw[bk]
    have hi:xi<B:=(rF x).get gx
    by_cases cX:j<(aH y).length
    ·obtain⟨i2,o3,c3,e3,w3,q1,q2,q3,q4⟩:=hy.at (fu (c9 cX))
     have q3:=(eN.get _ q2).trans q3
     have gy:=c9 cX
     generalize (aH y)[j]=yj at*
     have hyj:yj<B:=(rF y).get gy
     have go:=c9 (l:=o2) (i:=i+j) (by omega)
     generalize o2[i+j]'(by omega)=ov at*
     simp[A.se,hr,dt,OU,h8,cX,lx,ly,q1,q3,q4,cU]
     refine aB (MU hi hyj) ?_
     rintro _ _ _ BM ⟨rfl,rfl,rfl⟩
     simp(disch:=first|(simp;done)|omega|(simp only[bC,cB,bp];omega)|rfl) [-getElem?_pos,hr,dt,OU,h8,cX,lx,ly,q1,q3,q4,cU,we,fu go,pL]
     obtain⟨m1,m2,m3⟩:=Yh3 hi hyj (d_.get go) CV
     refine⟨_,by omega,j+1,o2.set (i+j) (fT xi yj ov c),js xi yj ov c,rfl,⟨by omega,by simp,?_,rfl,by simp[dZ],eN.set (aQ _),?_,by simp[yi],d_.set m2,?_,m3,?_⟩⟩
     ·simp[js]
     ·simp[fT]
     ·intro t t1 t2
      rw[dW (by omega)]
      exact dL t t1 (by simpa using t2)
     ·have v1:=M6 (b:=B) (v:=fT xi yj ov c) go
      rw[ET gy]
      have e1:B^(i+(j+1))=B^(i+j)*B:=by rw[show i+(j+1)=(i+j)+1 by omega,fZ]
      have e2:B^i*(xi*(B^j*yj))=B^(i+j)*(xi*yj):=by rw[kf];grind
      have e3:B^(i+j)*(fT xi yj ov c+B*js xi yj ov c)=B^(i+j)*(xi*yj+ov+c):=by rw[m1]
      rw[e1]
      generalize val B (List.set o2 (i+j) (fT xi yj ov c))=z1 at*
      generalize val B o2=z2 at*
      generalize fT xi yj ov c=z3 at*
      generalize js xi yj ov c=z4 at*
      generalize val B (List.take j (aH y))=z5 at*
      generalize B^(i+j)=z6 at*
      grind
    ·have:j=(aH y).length:=by omega
     subst this
     simp[A.se,hr,dt,OU,h8,cU]
     exact⟨o2,c,⟨by omega,by simp[OU],by simp[h8],rfl,dZ,eN,we,yi,d_,dL,CV,vf⟩⟩
   ·rintro e r2 ⟨H2,n2,W2⟩ dt ⟨rfl,o2,c,hj,OU,h8,ff,dZ,eN,we,yi,d_,dL,CV,vf⟩
    simp only at ff dZ eN we
    subst ff
    have cU:=hf.inner (D':=[(8,13),(29,69)]) rfl (by simp) dt
    simp(disch:=first|(simp;done)|omega|(simp only[bC,cB,bp];omega)|rfl) [hr,dt,oZ,h8,ly,we,pL,cU]
    have tg:o2[i+(aH y).length]?=some 0:=dL _ (aQ _) (by omega)
    refine⟨_,by omega,i+1,o2.set (i+(aH y).length) c,rfl,⟨by omega,by simp,rfl,by simp[dZ],eN.set (aQ _),by simp,by simp[yi],d_.set CV,?_,?_⟩⟩
    ·intro t t1 t2
     rw[dW (by omega)]
     exact dL t (by omega) (by simpa using t2)
    ·have v1:=M6 (b:=B) (v:=c) tg
     rw[eZ (aQ _),mY]at vf
     rw[ET gx]
     simp only[Nat.mul_zero,mP]at v1
     rw[v1,vf]
     grind
  ·have:i=(aH x).length:=by omega
   subst this
   simp[A.sh,hr,oZ,hf]
   exact⟨o,⟨by omega,by simp[oZ],rfl,hW,hK,hN,ho,hd,hz,he⟩⟩
 ·rintro _ r ⟨H,n1,W⟩ hr ⟨rfl,o,hi,oZ,hn,hW,hK,hN,ho,hd,hz,he⟩
  simp only at hn hW hK hN
  subst hn
  simp[hr,hN]
  refine aB (C9 (l:=o) (Sl.row (e:=191) (rw:=true) (by omega) (by simp[hN]) (by simp[ho]) (by simp)) (by simp[ho];omega)) ?_
  intro v' h' n' gH hs
  simp[aA]
  refine⟨hW,hK.trans gH,?_⟩
  rw[eZ (aQ _),mY]at he
  rw[C6 hd,he]at hs
  exact hs
end
end Go.Mx
