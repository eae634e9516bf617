/-lensletref01-/
import Derived.Test.YteojhfjdbpdolaaGreatDoorRcG
set_option linter.all false
namespace Go.Mx
noncomputable section
open Go Go.Proofs
set_option maxHeartbeats 2000000
set_option maxRecDepth 1000000
def A.b134:=A.q Tryz.f134
def A.k134:=@A.kk 134 63 [.tmp 4] A.b134 (by kernel_rfl) rfl
def Yhi{a b:Rat}{j k:Nat}{h:T O}{N:Nat}(ha:Qb j a)(hb:Qb k b)(hj:j<=400000000)(hk:k<=400000000):Fn A.C 134 [.str (aS a),.str (aS b)] h N (fun u _ _=>u=.str (aS (a+b))):=by
 intro w
 obtain⟨n1,d1,o1,qk,f1⟩:=Sx a
 obtain⟨n2,d2,o2,jo,f2⟩:=Sx b
 have pa:=Rat.den_pos a
 have pb:=Rat.den_pos b
 rw[aR,A.k134 (by simp)]
 have key:(o1=true/\o2=true)\/(o1=false\/(o1=true/\o2=false)):=by cases o1<;>cases o2<;>simp
 rcases key with⟨rfl,rfl⟩|key
 ·obtain⟨rfl,rfl,g1⟩:=f1 rfl
  obtain⟨rfl,rfl,g2⟩:=f2 rfl
  have m1:(a.num*(b.den:Int)).natAbs<=1000000000000000000:=by rw[u_,dR];exact ON g1.1 g2.2
  have m4:(b.num*(a.den:Int)).natAbs<=1000000000000000000:=by rw[u_,dR];exact ON g2.1 g1.2
  have m2:a.den*b.den<=1000000000000000000:=ON g1.2 g2.2
  have m3:0<a.den*b.den:=yK pa pb
  have e2:(a.den:Int)*(b.den:Int)=((a.den*b.den:Nat):Int):=by simp
  have w1:bj .i64 (a.num*(b.den:Int))=a.num*(b.den:Int):=cD (by omega) (by omega)
  have w3:bj .i64 (b.num*(a.den:Int))=b.num*(a.den:Int):=cD (by omega) (by omega)
  have w2:bj .i64 ((a.den:Int)*(b.den:Int))=(a.den:Int)*(b.den:Int):=by rw[e2];exact cD (by omega) (by omega)
  have w4:bj .i64 (a.num*(b.den:Int)+b.num*(a.den:Int))=a.num*(b.den:Int)+b.num*(a.den:Int):=cD (by omega) (by omega)
  have ho:=fun st=>Ysx (p:=a.num*(b.den:Int)+b.num*(a.den:Int)) (q:=(a.den:Int)*(b.den:Int)) (st:=st) (by omega) (by omega) (by omega) (by omega) (by omega)
  rw[<-Zra]at ho
  simp[A.b134,qk,jo,w1,w2,w3,w4,ho,aE]
  exact ab.refl
 ·have la:=FB ha.1
  have R4:=DI ha.2
  have lb:=FB hb.1
  have lb2:=DI hb.2
  have z1:=uB ha.1
  have z2:=uB hb.1
  have z3:=uB ha.2
  have z4:=uB hb.2
  rcases key with rfl|⟨rfl,rfl⟩
  all_goals simp[A.b134,qk,jo]
  all_goals
   refine aA (OH (q:=a) (by omega) (by omega)) ?_
   rintro _ h1 t1 k1 ⟨x1,y1,rfl,X1,Y1⟩
   obtain⟨u1,rfl,p1,p2,F1⟩:=X1.pH
   obtain⟨v1,rfl,p3,p4,G1⟩:=Y1.pH
   unfold V.one at p1 p3
   unfold V.cells at p2 p4
   have KA:=((((ab.refl (h:=h1) (n:=t1)).new (.cells [.bool false,.aa] 180 true)).new (.cells [.bool false,.aa] 180 true)).set (i:=t1) (o:=.cells [.bool (decide (a.num<0)),u1] 180 true) (aM _)).set (i:=t1+1) (o:=.cells [.bool (decide ((a.den:Int)<0)),v1] 180 true) (by omega)
   have c0:¬t1+1=t1:=by omega
   have c00:¬t1=t1+1:=by omega
   simp[p1,p2,p3,p4,bC,ad,c0]
   generalize AX:(((h1.set t1 (.cells [.bool false,.aa] 180 true)).set (t1+1) (.cells [.bool false,.aa] 180 true)).set t1 (.cells [.bool (decide (a.num<0)),u1] 180 true)).set (t1+1) (.cells [.bool (decide ((a.den:Int)<0)),v1] 180 true)=HA at*
   have FH:HA.get t1=some (.cells [.bool (decide (a.num<0)),u1] 180 true):=by rw[<-AX];simp[c0,c00]
   have OP:HA.get (t1+1)=some (.cells [.bool (decide ((a.den:Int)<0)),v1] 180 true):=by rw[<-AX];simp
   have X1:=X1.ae KA
   have Y1:=Y1.ae KA
   clear AX
   refine aA (OH (q:=b) (by omega) (by omega)) ?_
   rintro _ h2 t2 k2 ⟨x2,y2,rfl,X2,Y2⟩
   obtain⟨u2,rfl,p5,p6,F2⟩:=X2.pH
   obtain⟨v2,rfl,p7,p8,G2⟩:=Y2.pH
   unfold V.one at p5 p7
   unfold V.cells at p6 p8
   have KB:=((((ab.refl (h:=h2) (n:=t2)).new (.cells [.bool false,.aa] 180 true)).new (.cells [.bool false,.aa] 180 true)).set (i:=t2) (o:=.cells [.bool (decide (b.num<0)),u2] 180 true) (aM _)).set (i:=t2+1) (o:=.cells [.bool (decide ((b.den:Int)<0)),v2] 180 true) (by omega)
   have c1:¬t2+1=t2:=by omega
   have c11:¬t2=t2+1:=by omega
   have i2:=k2.le
   generalize It:(((h2.set t2 (.cells [.bool false,.aa] 180 true)).set (t2+1) (.cells [.bool false,.aa] 180 true)).set t2 (.cells [.bool (decide (b.num<0)),u2] 180 true)).set (t2+1) (.cells [.bool (decide ((b.den:Int)<0)),v2] 180 true)=HB at*
   have Sy:HB.get t2=some (.cells [.bool (decide (b.num<0)),u2] 180 true):=by rw[<-It];simp[c1,c11]
   have OQ:HB.get (t2+1)=some (.cells [.bool (decide ((b.den:Int)<0)),v2] 180 true):=by rw[<-It];simp
   have gB3:=(KB.get t1 (by omega)).trans ((k2.get t1 (by omega)).trans FH)
   have OR:=(KB.get (t1+1) (by omega)).trans ((k2.get (t1+1) (by omega)).trans OP)
   have X1:=(X1.ae k2).ae KB
   have Y1:=(Y1.ae k2).ae KB
   have X2:=X2.ae KB
   have Y2:=Y2.ae KB
   have K2:ab h N HB (t2+1+1):=((k1.trans KA).trans k2).trans KB
   have j1:t1<t2+1+1:=by omega
   have j2:t1+1<t2+1+1:=by omega
   have j3:t2<t2+1+1:=by omega
   simp[p5,p6,p7,p8,bC,ad,c1,It,Sy,OQ,gB3,OR,aO,aF]
   refine aA (Ms X1 Y2 (by omega) (by rw[dR];omega)) ?_
   rintro _ h3 t3 k3 X3
   have i3:=k3.le
   have gC1:=(k3.get t2 (by omega)).trans Sy
   have gC2:=(k3.get (t2+1) (by omega)).trans OQ
   have Sz:=(k3.get (t1+1) (by omega)).trans OR
   simp[gC1,Sz,aO,aF]
   refine aA (Ms (X2.ae k3) (Y1.ae k3) (by omega) (by rw[dR];omega)) ?_
   rintro _ h4 t4 k4 X4
   have i4:=k4.le
   have b1:=OO (b:=(b.den:Int)) (k:=k) ha.1 (by rw[dR];exact hb.2)
   have b2:=OO (b:=(a.den:Int)) (k:=j) hb.1 (by rw[dR];exact ha.2)
   rw[Nat.add_comm k j]at b2
   have m1:=uB b1
   have m2:=uB b2
   have m3:=uB (Zr2 b1 b2)
   have m4:=uB (OO (a:=(a.den:Int)) (b:=(b.den:Int)) (j:=j) (k:=k) (by rw[dR];exact ha.2) (by rw[dR];exact hb.2))
   simp[]
   refine aA (Yoq (X3.ae k4) X4 (by omega) (by omega)) ?_
   rintro _ h5 t5 k5 X5
   have i5:=k5.le
   have gD2:=(k5.get (t2+1) (by omega)).trans ((k4.get (t2+1) (by omega)).trans gC2)
   have gD4:=(k5.get (t1+1) (by omega)).trans ((k4.get (t1+1) (by omega)).trans Sz)
   simp[gD2,gD4,aO,aF]
   refine aA (Ms (((Y1.ae k3).ae k4).ae k5) (((Y2.ae k3).ae k4).ae k5) (by rw[dR];omega) (by rw[dR];omega)) ?_
   rintro _ h6 t6 k6 X6
   simp[]
   refine aA (Zjy (X5.ae k6) X6 (Jg (by omega) (by omega)) (by omega) (by omega)) ?_
   rintro _ h7 t7 k7 rfl
   have j4:t2+1<t3:=by omega
   have j5:t1+1<t3:=by omega
   have j6:t2<t3:=by omega
   have j7:t2+1<t5:=by omega
   have j8:t1+1<t5:=by omega
   rw[<-Zra]
   have i1:=k1.le
   simp[-ax,ct.cv,j1,j2,j3,j4,j5,j6,j7,j8,aE]
   exact⟨yD (by simp;omega),((((K2.trans k3).trans k4).trans k5).trans k6).trans k7⟩
set_option maxHeartbeats 2000000
def A.b198:=A.q Tryz.f198
def A.k198:=@A.kk 198 51 [.tmp 4,.tmp 5] A.b198 (by kernel_rfl) rfl
def Ys1{x y:Nat}(hx:x<18446744073709551616)(hy:y<18446744073709551616):cL (cL (cQ (au x 32) (au y 32)) (au (cL (cQ (au x 32) (eR y)) (au (cQ (eR x) (eR y)) 32)) 32)) (au (cL (eR (cL (cQ (au x 32) (eR y)) (au (cQ (eR x) (eR y)) 32))) (cQ (eR x) (au y 32))) 32)=cg (x*y):=by
 simp only[cL,cQ,au,eR,cg,Nat.reducePow]
 have ex:x=x/4294967296*4294967296+x%4294967296:=by omega
 have ey:y=y/4294967296*4294967296+y%4294967296:=by omega
 have mH:x%4294967296<4294967296:=kO _ (by decide)
 have xH:y%4294967296<4294967296:=kO _ (by decide)
 have Av:x/4294967296<4294967296:=by omega
 have sU:y/4294967296<4294967296:=by omega
 generalize x/4294967296=x1 at*
 generalize x%4294967296=x0 at*
 generalize y/4294967296=y1 at*
 generalize y%4294967296=y0 at*
 have a1:x0*y0<=4294967295*4294967295:=uf (by omega) (by omega)
 have a2:x1*y0<=4294967295*4294967295:=uf (by omega) (by omega)
 have a3:x0*y1<=4294967295*4294967295:=uf (by omega) (by omega)
 have a4:x1*y1<=4294967295*4294967295:=uf (by omega) (by omega)
 have e:x*y=x1*y1*18446744073709551616+(x1*y0+x0*y1)*4294967296+x0*y0:=by
  subst ex;subst ey
  grind
 rw[e]
 generalize x0*y0=p at*
 generalize x1*y0=q at*
 generalize x0*y1=u at*
 generalize x1*y1=z at*
 omega
def MT{h:T O}{N:Nat}{x y:Nat}(hx:x<18446744073709551616)(hy:y<18446744073709551616):Fn A.C 198 [.int .u64 x,.int .u64 y] h N (fun v' h' N'=>h'=h/\N'=N/\v'=.aX [.int .u64 (cg (x*y):Nat),.int .u64 (bz (x*y):Nat)]):=by
 intro w
 rw[aR,A.k198 (by simp)]
 simp(disch:=first|(simp;done)|omega|(simp only[bA,cA,bo];omega)|rfl) [A.b198]
 rw[Ys1 hx hy]
 exact⟨rfl,ab.refl,rfl,rfl,rfl⟩
def A.OS:=A.q Tryz.f235
def A.nJ:=A.ql A.OS 0 []
def A.b235:=(fun x0=>A.qb A.OS [x0]) A.nJ
def A.k235:=@A.kk 235 21 [.tmp 2] A.b235 (by kernel_rfl) rfl
def Dc{h:T O}{N:Nat}{v:V}{l:List Nat}(hs:Sl h N v (dg l))(hl:l.length<1152921504606846976):Fn A.C 235 [v] h N (fun v' h' N'=>Sl h' N' v' (dg (sV l))):=by
 intro w
 have hlen:=hs.len
 rw[bA]at hlen
 rw[aR,A.k235 (by simp)]
 simp[A.b235,hlen]
 refine bL [(3,3),(6,17)] (fun e r st=>e=.exit 0/\st=⟨h,N,[]⟩/\∃k,k<=l.length/\r.get 3=some (.int .i64 k)/\sV l=l.take k) (fun k r st=>st=⟨h,N,[]⟩/\k<=l.length/\r.get 3=some (.int .i64 k)/\sV (l.take k)=sV l) l.length ?_ ?_ ?_
 ·exact⟨rfl,aM _,by simp,by simp⟩
 ·rintro k r _ hr hf ⟨rfl,hk,h3,ht⟩
  rw[bl]
  cases k with
  |zero=>
   have:sV l=[]:=ht.symm
   simp[A.nJ,h3,hf,this]
   exact⟨0,by omega,rfl,.inl rfl⟩
  |succ k=>
   obtain⟨d,hd⟩:∃d,l[k]?=some d:=⟨_,cy (by omega)⟩
   obtain⟨i,o,c,e,rw,q1,q2,q3,q4⟩:=hs.at (fw hd)
   have e1:l.take (k+1)=l.take k++[d]:=by rw[uJ,hd];rfl
   have k1:(0:Int)<(k:Int)+1:=by omega
   have k2:(k:Int)<(l.length:Int):=by omega
   by_cases h0:d=0
   ·subst h0
    rw[e1,Zp7]at ht
    simp(disch:=first|(simp;done)|omega|(simp only[bA,cA,bo];omega)|rfl) [A.nJ,h3,hr,hf,k1,k2,hlen,q1,q3,q4,aG]
    exact⟨k,by omega,by omega,rfl,ht⟩
   ·rw[e1,Zp8 h0]at ht
    have hz:((d:Int)==0)=false:=by simp;omega
    simp(disch:=first|(simp;done)|omega|(simp only[bA,cA,bo];omega)|rfl) [A.nJ,h3,hr,hf,k1,k2,hlen,q1,q3,q4,aG,hz]
    exact⟨k+1,hk,rfl,by rw[e1];exact ht.symm⟩
 ·rintro _ r _ hr ⟨rfl,rfl,k,hk,h3,ht⟩
  simp[hr,h3,zJ,aB]
  obtain⟨v',e1,e2⟩:=DO (w:=[]) hs (lo:=0) (hi:=k) (tX _) (by rw[bA];exact hk) none (some (.int .i64 k)) (.inr ⟨rfl,rfl⟩) (.inl rfl)
  rw[e1]
  simp[aE]
  refine⟨ab.refl,?_⟩
  rw[ht,show dg (l.take k)=(dg l).take k by simp[dg]]
  exact e2
set_option maxHeartbeats 2000000
def A.OT:=A.q Tryz.f194
def A.fQ:=A.ql A.OT 0 []
def A.b194:=(fun x0=>A.qb A.OT [x0]) A.fQ
def A.k194:=@A.kk 194 54 [.tmp 4] A.b194 (by kernel_rfl) rfl
structure Yww (h:T O) (N x y k:Nat) (o:List Nat) (c:Nat) (r:T V) (st:St):Prop where
 hk:k<=(aJ x).length
 r22:r.get 22=some (.int .i64 k)
 r6:r.get 6=some (.int .u64 c)
 n:st.n=N+1
 w:ax N st.w=[]
 ae:ab h N st.h (N+1)
 row:st.h.get N=some (.cells (dg o) 195 true)
 len:o.length=(aJ x).length+1
 ex:∃d,d.length=k/\o=d++List.replicate ((aJ x).length+1-k) 0/\val B d+B^k*c=val B ((aJ x).take k)+val B ((aJ y).take k)/\c<=1/\Dg d
def Ywx(h:T O)(N x y m:Nat)(r:T V)(st:St):Prop:=∃k o c,m=(aJ x).length-k/\Yww h N x y k o c r st
def Ywy(h:T O)(N x y:Nat)(r:T V)(st:St):Prop:=∃o c,Yww h N x y (aJ x).length o c r st
def Yhh{x y o d:List Nat}{k c xk:Nat}(hx:x[k]?=some xk)(d1:d.length=k)(d2:o=d++List.replicate (x.length+1-k) 0)(d3:val B d+B^k*c=val B (x.take k)+val B (y.take k))(d4:c<=1)(d5:Dg d)(gx:Dg x)(gy:Dg y):
  (d++[bz (xk+dz y k+c)]).length=k+1/\o.set k (bz (xk+dz y k+c))=(d++[bz (xk+dz y k+c)])++List.replicate (x.length+1-(k+1)) 0/\val B (d++[bz (xk+dz y k+c)])+B^(k+1)*cg (xk+dz y k+c)=val B (x.take (k+1))+val B (y.take (k+1))/\cg (xk+dz y k+c)<=1/\Dg (d++[bz (xk+dz y k+c)]):=by
 have hk:k<x.length:=by
  apply tg;intro hc;rw[eJ hc]at hx;cases hx
 have KU:=gx.get hx
 have hyk:=Yt1 gy k
 have hm:=uo (xk+dz y k+c) B
 refine⟨by simp[d1],?_,?_,?_,?_⟩
 ·rw[d2,show x.length+1-k=(x.length-k)+1 by omega,Yn d1,show x.length+1-(k+1)=x.length-k by omega]
 ·rw[Rm,C8,C8,d1,show dz x k=xk by simp[dz,hx]]
  have e1:bz (xk+dz y k+c)=(xk+dz y k+c)%B:=rfl
  have e2:cg (xk+dz y k+c)=(xk+dz y k+c)/B:=rfl
  rw[e1,e2,gg]
  generalize (xk+dz y k+c)%B=lo at*
  generalize (xk+dz y k+c)/B=hi at*
  generalize B^k=p at*
  have:p*(B*hi+lo)=p*(xk+dz y k+c):=by rw[hm]
  grind
 ·show (xk+dz y k+c)/B<=1
  unfold B at*;omega
 ·intro e he
  rcases mE.1 he with he|he
  ·exact d5 e he
  ·simp at he;subst he;exact kO _ (by decide)
def Ym6{x y:Nat}{o d:List Nat}{c:Nat}(hl:(aJ y).length<=(aJ x).length)(d1:d.length=(aJ x).length)(d2:o=d++List.replicate ((aJ x).length+1-(aJ x).length) 0)(d3:val B d+B^(aJ x).length*c=val B ((aJ x).take (aJ x).length)+val B ((aJ y).take (aJ x).length))(d4:c<=1)(d5:Dg d):sV (o.set (aJ x).length c)=aJ (x+y):=by
 rw[d2,show (aJ x).length+1-(aJ x).length=0+1 by omega,Yn d1]
 simp only[List.replicate_zero,wU]
 rw[C9,Rm,d1,d3,fe (aM _),fe hl,mV,mV]
 intro e he
 rcases mE.1 he with he|he
 ·exact d5 e he
 ·simp at he;subst he;unfold B;omega
def Zxb{h:T O}{N:Nat}{vx vy:V}{x y:Nat}(hx:Wn h N vx x)(hy:Wn h N vy y)(yS:(aJ x).length<1099511627776)(LJ:(aJ y).length<1099511627776):Fn A.C 194 [vx,vy] h N (fun v' h' N'=>Wn h' N' v' (x+y)):=by
 intro w
 have lx:=hx.len
 have ly:=hy.len
 rw[bA]at lx ly
 rw[aR,A.k194 (by simp)]
 by_cases hl:(aJ x).length<(aJ y).length
 ·simp(disch:=first|(simp;done)|omega|(simp only[bA,cA,bo];omega)|rfl) [A.b194,lx,ly,hl]
  refine bL [(6,8),(22,46)] (fun e r st=>e=.exit 0/\Ywy h N y x r st) (Ywx h N y x) (aJ y).length ?_ ?_ ?_
  ·refine⟨0,List.replicate ((aJ y).length+1) 0,0,by omega,⟨by omega,by simp,by simp,by simp,by simp,ab.refl.set (aM _) |>.up (by omega),by simp[Hm],by simp,[],by simp,by simp,by simp[val],by decide,by simp[Dg]⟩⟩
  ·rintro m r ⟨H,n1,W⟩ hr hf ⟨k,o,c,rfl,hk,oQ,h6,hn,hW,hK,hN,ho,d,hd⟩
   simp only at hn hW hK hN
   subst hn
   rw[bl]
   by_cases ay:k<(aJ y).length
   ·obtain⟨i1,o1,c1,e1,w1,p1,p2,p3,p4⟩:=hy.at (fw (cy ay))
    have p3:=(hK.get _ p2).trans p3
    obtain⟨d1,d2,d3,d4,d5⟩:=hd
    have f_:=Yhh (x:=aJ y) (y:=aJ x) (cy ay) d1 d2 d3 d4 d5 (rE y) (rE x)
    by_cases qf:k<(aJ x).length
    ·obtain⟨i2,o2,c2,e2,w2,q1,q2,q3,q4⟩:=hx.at (fw (cy qf))
     have q3:=(hK.get _ q2).trans q3
     have hz:dz (aJ x) k=(aJ x)[k]:=by simp[dz,cy qf]
     rw[hz]at f_
     simp(disch:=first|(simp;done)|omega|(simp only[bA,cA,bo];omega)|rfl) [A.fQ,hr,oQ,h6,ay,qf,ly,lx,p1,p3,p4,q1,q3,q4,hN,pE,hf]
     exact⟨_,by omega,k+1,_,_,rfl,⟨by omega,by simp,by simp,rfl,by simp[hW],hK.set (aM _),by simp,by simp[ho],_,f_⟩⟩
    ·have hz:dz (aJ x) k=0:=by simp[dz,eJ (s_.1 qf)]
     rw[hz]at f_
     simp(disch:=first|(simp;done)|omega|(simp only[bA,cA,bo];omega)|rfl) [A.fQ,hr,oQ,h6,ay,qf,ly,lx,p1,p3,p4,hN,pE,hf]
     exact⟨_,by omega,k+1,_,_,rfl,⟨by omega,by simp,by simp,rfl,by simp[hW],hK.set (aM _),by simp,by simp[ho],_,f_⟩⟩
   ·have OU:k=(aJ y).length:=by omega
    subst OU
    simp[A.fQ,hr,oQ,hf]
    exact⟨o,c,⟨by omega,by simp[oQ],by simp[h6],rfl,by simp[hW],hK,hN,ho,d,hd⟩⟩
  ·rintro _ r ⟨H,n1,W⟩ hr ⟨rfl,o,c,hk,oQ,h6,hn,hW,hK,hN,ho,d,d1,d2,d3,d4,d5⟩
   simp only at hn hW hK hN
   subst hn
   simp(disch:=first|(simp;done)|omega|(simp only[bA,cA,bo];omega)|rfl) [hr,h6,ly,hN,pE]
   refine aA (Dc (l:=o.set (aJ y).length c) (Sl.row (e:=195) (rw:=true) (by omega) (by simp) (by simp[ho]) (by simp)) (by simp[ho];omega)) ?_
   intro v' h' n' gE hs
   simp[aE]
   refine⟨hW,(hK.set (aM _)).trans gE,?_⟩
   rw[Ym6 (by omega) d1 d2 d3 d4 d5]at hs
   exact(Nat.add_comm y x▸hs)
 ·simp(disch:=first|(simp;done)|omega|(simp only[bA,cA,bo];omega)|rfl) [A.b194,lx,ly,hl]
  refine bL [(6,8),(22,46)] (fun e r st=>e=.exit 0/\Ywy h N x y r st) (Ywx h N x y) (aJ x).length ?_ ?_ ?_
  ·refine⟨0,List.replicate ((aJ x).length+1) 0,0,by omega,⟨by omega,by simp,by simp,by simp,by simp,ab.refl.set (aM _) |>.up (by omega),by simp[Hm],by simp,[],by simp,by simp,by simp[val],by decide,by simp[Dg]⟩⟩
  ·rintro m r ⟨H,n1,W⟩ hr hf ⟨k,o,c,rfl,hk,oQ,h6,hn,hW,hK,hN,ho,d,hd⟩
   simp only at hn hW hK hN
   subst hn
   rw[bl]
   by_cases ay:k<(aJ x).length
   ·obtain⟨i1,o1,c1,e1,w1,p1,p2,p3,p4⟩:=hx.at (fw (cy ay))
    have p3:=(hK.get _ p2).trans p3
    obtain⟨d1,d2,d3,d4,d5⟩:=hd
    have f_:=Yhh (x:=aJ x) (y:=aJ y) (cy ay) d1 d2 d3 d4 d5 (rE x) (rE y)
    by_cases qf:k<(aJ y).length
    ·obtain⟨i2,o2,c2,e2,w2,q1,q2,q3,q4⟩:=hy.at (fw (cy qf))
     have q3:=(hK.get _ q2).trans q3
     have hz:dz (aJ y) k=(aJ y)[k]:=by simp[dz,cy qf]
     rw[hz]at f_
     simp(disch:=first|(simp;done)|omega|(simp only[bA,cA,bo];omega)|rfl) [A.fQ,hr,oQ,h6,ay,qf,lx,ly,p1,p3,p4,q1,q3,q4,hN,pE,hf]
     exact⟨_,by omega,k+1,_,_,rfl,⟨by omega,by simp,by simp,rfl,by simp[hW],hK.set (aM _),by simp,by simp[ho],_,f_⟩⟩
    ·have hz:dz (aJ y) k=0:=by simp[dz,eJ (s_.1 qf)]
     rw[hz]at f_
     simp(disch:=first|(simp;done)|omega|(simp only[bA,cA,bo];omega)|rfl) [A.fQ,hr,oQ,h6,ay,qf,lx,ly,p1,p3,p4,hN,pE,hf]
     exact⟨_,by omega,k+1,_,_,rfl,⟨by omega,by simp,by simp,rfl,by simp[hW],hK.set (aM _),by simp,by simp[ho],_,f_⟩⟩
   ·have OU:k=(aJ x).length:=by omega
    subst OU
    simp[A.fQ,hr,oQ,hf]
    exact⟨o,c,⟨by omega,by simp[oQ],by simp[h6],rfl,by simp[hW],hK,hN,ho,d,hd⟩⟩
  ·rintro _ r ⟨H,n1,W⟩ hr ⟨rfl,o,c,hk,oQ,h6,hn,hW,hK,hN,ho,d,d1,d2,d3,d4,d5⟩
   simp only at hn hW hK hN
   subst hn
   simp(disch:=first|(simp;done)|omega|(simp only[bA,cA,bo];omega)|rfl) [hr,h6,lx,hN,pE]
   refine aA (Dc (l:=o.set (aJ x).length c) (Sl.row (e:=195) (rw:=true) (by omega) (by simp) (by simp[ho]) (by simp)) (by simp[ho];omega)) ?_
   intro v' h' n' gE hs
   simp[aE]
   refine⟨hW,(hK.set (aM _)).trans gE,?_⟩
   rw[Ym6 (by omega) d1 d2 d3 d4 d5]at hs
   exact hs
set_option maxHeartbeats 2000000
def A.OV:=A.q Tryz.f196
def A.nK:=A.ql A.OV 0 []
def A.b196:=(fun x0=>A.qb A.OV [x0]) A.nK
def A.k196:=@A.kk 196 41 [.tmp 4] A.b196 (by kernel_rfl) rfl
def EW{a b:Nat}(h:a<=b):(aJ a).length<=(aJ b).length:=by
 apply yX
 intro hc
 have h1:=ET (b:=B) (rE b)
 rw[mV]at h1
 have h2:∀n,n≠0->B^((aJ n).length-1)<=n:=by
  intro n
  induction n using Nat.strongRecOn with
  |_ n ih=>
   intro hn
   rw[mU hn]
   by_cases h0:n/B=0
   ·rw[h0,rD];simp;omega
   ·have:=ih (n/B) (Cr (by omega) (by decide)) h0
    have hp:0<(aJ (n/B)).length:=by rw[mU h0];simp
    simp only[bo,Nat.add_sub_cancel]
    rw[show (aJ (n/B)).length=((aJ (n/B)).length-1)+1 by omega,gg]
    have h3:B^((aJ (n/B)).length-1)*B<=n/B*B:=jB B this
    have:=Nat.div_mul_le_self n B
    omega
 have ha:a≠0:=by
  rintro rfl
  rw[rD]at hc;simp at hc
 have h3:=h2 a ha
 have h4:B^(aJ b).length<=B^((aJ a).length-1):=qS (by decide) (by omega)
 omega
structure Ywt (h:T O) (N x y k:Nat) (o:List Nat) (c:Nat) (r:T V) (st:St):Prop where
 hk:k<=(aJ x).length
 JY:r.get 14=some (.int .i64 k)
 r6:r.get 6=some (.int .u64 c)
 n:st.n=N+1
 w:ax N st.w=[]
 ae:ab h N st.h (N+1)
 row:st.h.get N=some (.cells (dg o) 195 true)
 len:o.length=(aJ x).length
 ex:∃d,d.length=k/\o=d++List.replicate ((aJ x).length-k) 0/\val B d+val B ((aJ y).take k)=val B ((aJ x).take k)+B^k*c/\c<=1/\Dg d
def Yx8(h:T O)(N x y m:Nat)(r:T V)(st:St):Prop:=∃k o c,m=(aJ x).length-k/\Ywt h N x y k o c r st
def Yx9(h:T O)(N x y:Nat)(r:T V)(st:St):Prop:=∃o c,Ywt h N x y (aJ x).length o c r st
def Ynr{x y o d:List Nat}{k c xk:Nat}(hx:x[k]?=some xk)(d1:d.length=k)(d2:o=d++List.replicate (x.length-k) 0)(d3:val B d+val B (y.take k)=val B (x.take k)+B^k*c)(d4:c<=1)(d5:Dg d)(gx:Dg x)(gy:Dg y):
  (d++[eD xk (dz y k) c]).length=k+1/\o.set k (eD xk (dz y k) c)=(d++[eD xk (dz y k) c])++List.replicate (x.length-(k+1)) 0/\val B (d++[eD xk (dz y k) c])+val B (y.take (k+1))=val B (x.take (k+1))+B^(k+1)*fB xk (dz y k) c/\fB xk (dz y k) c<=1/\Dg (d++[eD xk (dz y k) c]):=by
 have hk:k<x.length:=by
  apply tg;intro hc;rw[eJ hc]at hx;cases hx
 have KU:=gx.get hx
 have hyk:=Yt1 gy k
 have hs:eD xk (dz y k) c+dz y k+c=xk+B*fB xk (dz y k) c/\eD xk (dz y k) c<B/\fB xk (dz y k) c<=1:=by
  unfold eD fB
  unfold B at*
  split<;>omega
 refine⟨by simp[d1],?_,?_,hs.2.2,?_⟩
 ·rw[d2,show x.length-k=(x.length-(k+1))+1 by omega,Yn d1]
 ·rw[Rm,C8,C8,d1,show dz x k=xk by simp[dz,hx],gg]
  have h1:=hs.1
  generalize eD xk (dz y k) c=s at*
  generalize fB xk (dz y k) c=b at*
  generalize B^k=p at*
  have:p*(s+dz y k+c)=p*(xk+B*b):=by rw[h1]
  grind
 ·intro e he
  rcases mE.1 he with he|he
  ·exact d5 e he
  ·simp at he;subst he;exact hs.2.1
def Yr6{x y:Nat}{o d:List Nat}{c:Nat}(hl:y<=x)(d1:d.length=(aJ x).length)(d2:o=d++List.replicate ((aJ x).length-(aJ x).length) 0)(d3:val B d+val B ((aJ y).take (aJ x).length)=val B ((aJ x).take (aJ x).length)+B^(aJ x).length*c)(d4:c<=1)(d5:Dg d):sV o=aJ (x-y):=by
 rw[d2,Nat.sub_self]
 simp only[List.replicate_zero,wU]
 rw[C9 d5]
 congr 1
 rw[fe (aM _),fe (EW hl),mV,mV]at d3
 have:=ET d5
 rw[d1]at this
 rcases Nat.lt_or_ge c 1 with hc|hc
 ·have:c=0:=by omega
  subst this
  simp at d3;omega
 ·have:c=1:=by omega
  subst this
  omega
def Zny{h:T O}{N:Nat}{vx vy:V}{x y:Nat}(hx:Wn h N vx x)(hy:Wn h N vy y)(Sa:y<=x)(yS:(aJ x).length<1099511627776)(LJ:(aJ y).length<1099511627776):Fn A.C 196 [vx,vy] h N (fun v' h' N'=>Wn h' N' v' (x-y)):=by
 intro w
 have lx:=hx.len
 have ly:=hy.len
 rw[bA]at lx ly
 rw[aR,A.k196 (by simp)]
 simp(disch:=first|(simp;done)|omega|(simp only[bA,cA,bo];omega)|rfl) [A.b196,lx,ly]
 refine bL [(6,8),(14,38)] (fun e r st=>e=.exit 0/\Yx9 h N x y r st) (Yx8 h N x y) (aJ x).length ?_ ?_ ?_
 ·refine⟨0,List.replicate (aJ x).length 0,0,by omega,⟨by omega,by simp,by simp,by simp,by simp,ab.refl.set (aM _) |>.up (by omega),by simp[Hm],by simp,[],by simp,by simp,by simp[val],by decide,by simp[Dg]⟩⟩
 ·rintro m r ⟨H,n1,W⟩ hr hf ⟨k,o,c,rfl,hk,oQ,h6,hn,hW,hK,hN,ho,d,hd⟩
  simp only at hn hW hK hN
  subst hn
  rw[bl]
  by_cases ay:k<(aJ x).length
  ·obtain⟨i1,o1,c1,e1,w1,p1,p2,p3,p4⟩:=hx.at (fw (cy ay))
   have p3:=(hK.get _ p2).trans p3
   obtain⟨d1,d2,d3,d4,d5⟩:=hd
   have f_:=Ynr (x:=aJ x) (y:=aJ y) (cy ay) d1 d2 d3 d4 d5 (rE x) (rE y)
   by_cases qf:k<(aJ y).length
   ·obtain⟨i2,o2,c2,e2,w2,q1,q2,q3,q4⟩:=hy.at (fw (cy qf))
    have q3:=(hK.get _ q2).trans q3
    have hz:dz (aJ y) k=(aJ y)[k]:=by simp[dz,cy qf]
    rw[hz]at f_
    simp(disch:=first|(simp;done)|omega|(simp only[bA,cA,bo];omega)|rfl) [A.nK,hr,oQ,h6,ay,qf,lx,ly,p1,p3,p4,q1,q3,q4,hN,pE,hf]
    exact⟨_,by omega,k+1,_,_,rfl,⟨by omega,by simp,by simp,rfl,by simp[hW],hK.set (aM _),by simp,by simp[ho],_,f_⟩⟩
   ·have hz:dz (aJ y) k=0:=by simp[dz,eJ (s_.1 qf)]
    rw[hz]at f_
    simp(disch:=first|(simp;done)|omega|(simp only[bA,cA,bo];omega)|rfl) [A.nK,hr,oQ,h6,ay,qf,lx,ly,p1,p3,p4,hN,pE,hf]
    exact⟨_,by omega,k+1,_,_,rfl,⟨by omega,by simp,by simp,rfl,by simp[hW],hK.set (aM _),by simp,by simp[ho],_,f_⟩⟩
  ·have OU:k=(aJ x).length:=by omega
   subst OU
   simp[A.nK,hr,oQ,hf]
   exact⟨o,c,⟨by omega,by simp[oQ],by simp[h6],rfl,by simp[hW],hK,hN,ho,d,hd⟩⟩
 ·rintro _ r ⟨H,n1,W⟩ hr ⟨rfl,o,c,hk,oQ,h6,hn,hW,hK,hN,ho,d,d1,d2,d3,d4,d5⟩
  simp only at hn hW hK hN
  subst hn
  simp[hr,h6,lx,hN]
  refine aA (Dc (l:=o) (Sl.row (e:=195) (rw:=true) (by omega) (by simp[hN]) (by simp[ho]) (by simp)) (by simp[ho];omega)) ?_
  intro v' h' n' gE hs
  simp[aE]
  refine⟨hW,hK.trans gE,?_⟩
  rw[Yr6 Sa d1 d2 d3 d4 d5]at hs
  exact hs
set_option maxHeartbeats 2000000
def A.OW:=A.q Tryz.f195
def A.j0:=A.ql A.OW 0 []
def A.b195:=(fun x0=>A.qb A.OW [x0]) A.j0
def A.k195:=@A.kk 195 41 [.tmp 4] A.b195 (by kernel_rfl) rfl
def vT(x y:Int):Int:=if x<y then -1 else if y<x then 1 else 0
def Ymm{x y:Nat}(h:(aJ x).length<(aJ y).length):x<y:=by
 apply tg
 intro hc
 have:=EW hc
 omega
def SA{b:Nat}{l:List Nat}{k d:Nat}(h:l[k]?=some d):val b (l.drop k)=d+b*val b (l.drop (k+1)):=by
 have hk:k<l.length:=by
  apply tg;intro hc;rw[eJ hc]at h;cases h
 rw[F8 hk]
 rw[cy hk]at h
 simp only[al]at h
 rw[h];rfl
def Zsz(b:Nat)(l:List Nat)(k:Nat)(hk:k<=l.length):val b l=val b (l.take k)+b^k*val b (l.drop k):=by
 have:=Rl b (l.take k) (l.drop k)
 rw[Cl,gD,pV hk]at this
 exact this
def Ylv{x y:List Nat}{k:Nat}(gx:Dg x)(hx:k<=x.length)(hy:k<=y.length)(h:val B (x.drop k)<val B (y.drop k)):val B x<val B y:=by
 rw[Zsz B x k hx,Zsz B y k hy]
 have h1:val B (x.take k)<B^k:=by
  have:=ET (b:=B) (l:=x.take k) fun d hd=>gx d (wW hd)
  rwa [gD,pV hx]at this
 have h2:B^k*(val B (x.drop k)+1)<=B^k*val B (y.drop k):=jr _ h
 rw[tf]at h2
 omega
structure Ywv (h:T O) (N x y m:Nat) (r:T V) (st:St):Prop where
 hm:m<=(aJ x).length
 r5:r.get 5=some (.int .i64 ((m:Int)-1))
 n:st.n=N
 w:st.w=[]
 ae:ab h N st.h N
 top:(aJ x).drop m=(aJ y).drop m
def Zik{h:T O}{N:Nat}{vx vy:V}{x y:Nat}(hx:Wn h N vx x)(hy:Wn h N vy y)(yS:(aJ x).length<1099511627776)(LJ:(aJ y).length<1099511627776):Fn A.C 195 [vx,vy] h N (fun v' h' N'=>v'=.int .i64 (vT x y)):=by
 intro w
 have lx:=hx.len
 have ly:=hy.len
 rw[bA]at lx ly
 rw[aR,A.k195 (by simp)]
 by_cases aW:(aJ x).length=(aJ y).length
 ·have zae:((aJ x).length:Int)=((aJ y).length:Int):=by omega
  simp(disch:=omega) [A.b195,lx,ly,aW]
  refine bL [(4,5),(19,40)] (fun e r st=>(e=.exit 0/\Ywv h N x y 0 r st)\/(e=.ret/\r.get 4=some (.int .i64 (vT x y))/\st.n=N/\st.w=[]/\ab h N st.h N)) (Ywv h N x y) (aJ x).length ?_ ?_ ?_
  ·exact⟨by omega,by simp[aW],rfl,rfl,ab.refl,by rw[qW,aW,qW]⟩
  ·rintro m r ⟨H,n1,W⟩ hr hf ⟨hm,h5,hn,hW,hK,ht⟩
   simp only at hn hW hK
   subst hn;subst hW
   rw[bl]
   cases m with
   |zero=>
    simp[A.j0,h5,hr,hf]
    exact⟨by omega,by simp[h5],rfl,rfl,hK,ht⟩
   |succ m=>
    have dq:m<(aJ x).length:=by omega
    have Xz:m<(aJ y).length:=by omega
    have h5':r.get 5=some (.int .i64 (m:Int)):=by rw[h5];congr 2;omega
    have gx:=cy dq
    have gy:=cy Xz
    obtain⟨i1,o1,c1,e1,w1,p1,p2,p3,p4⟩:=hx.at (fw gx)
    have p3:=(hK.get _ p2).trans p3
    obtain⟨i2,o2,c2,e2,w2,q1,q2,q3,q4⟩:=hy.at (fw gy)
    have q3:=(hK.get _ q2).trans q3
    rcases Nat.lt_trichotomy (aJ x)[m] (aJ y)[m]with ay|heq|Bb
    ·have dj:x<y:=by
      have:=Ylv (x:=aJ x) (y:=aJ y) (k:=m) (rE x) (by omega) (by omega) (by rw[SA gx,SA gy,ht];omega)
      rwa [mV,mV]at this
     have iA:¬(aJ x)[m]=(aJ y)[m]:=by omega
     simp(disch:=first|(simp;done)|omega|(simp only[bA,cA,bo];omega)|rfl) [A.j0,h5',hr,hf,lx,ly,p1,p2,p3,p4,q1,q2,q3,q4,aG,iA,ay]
     exact⟨by simp[vT,dj],hK⟩
    ·have MZ:(aJ x).drop m=(aJ y).drop m:=by rw[F8 dq,F8 Xz,ht,heq]
     simp(disch:=first|(simp;done)|omega|(simp only[bA,cA,bo];omega)|rfl) [A.j0,h5',hr,hf,lx,ly,p1,p2,p3,p4,q1,q2,q3,q4,aG,heq]
     exact⟨m,by omega,⟨by omega,by simp,rfl,rfl,hK,MZ⟩⟩
    ·have dj:y<x:=by
      have:=Ylv (x:=aJ y) (y:=aJ x) (k:=m) (rE y) (by omega) (by omega) (by rw[SA gx,SA gy,ht];omega)
      rwa [mV,mV]at this
     have iA:¬(aJ x)[m]=(aJ y)[m]:=by omega
     have ay:¬(aJ x)[m]<(aJ y)[m]:=by omega
     have AJ:¬x<y:=by omega
     simp(disch:=first|(simp;done)|omega|(simp only[bA,cA,bo];omega)|rfl) [A.j0,h5',hr,hf,lx,ly,p1,p2,p3,p4,q1,q2,q3,q4,aG,iA,ay]
     exact⟨by simp[vT,dj,AJ],hK⟩
  ·rintro e r ⟨H,n1,W⟩ hr (⟨rfl,hm,h5,hn,hW,hK,ht⟩|⟨rfl,h4,hn,hW,hK⟩)
   ·simp only at hn hW hK
    subst hn;subst hW
    simp only[yJ]at ht
    have:x=y:=by rw[<-mV x,ht,mV]
    subst this
    simp[hr,aE]
    exact⟨hK,by simp[vT]⟩
   ·simp only at hn hW hK
    subst hn;subst hW
    simp[h4,aE]
    exact hK
 ·have zae:¬((aJ x).length:Int)=((aJ y).length:Int):=by omega
  by_cases ay:(aJ x).length<(aJ y).length
  ·have:=Ymm ay
   simp[A.b195,lx,ly,aW,ay,aG,aE]
   exact⟨ab.refl,by simp[vT,this]⟩
  ·have h1:=Ymm (x:=y) (y:=x) (by omega)
   have h2:¬x<y:=by omega
   simp[A.b195,lx,ly,aW,ay,aG,aE]
   exact⟨ab.refl,by simp[vT,h1,h2]⟩
set_option maxHeartbeats 4000000
def A.Iu:=A.q Tryz.f200
def A.sh:=A.ql A.Iu 1 []
def A.si:=(fun x0=>A.ql A.Iu 0 [x0]) A.sh
def A.b200:=(fun x0=>A.qb A.Iu [x0]) A.si
def A.k200:=@A.kk 200 80 [.tmp 4] A.b200 (by kernel_rfl) rfl
def M6{b:Nat}:∀{l:List Nat} {k old v:Nat},l[k]?=some old->val b (l.set k v)+b^k*old=val b l+b^k*v
 |[],k,old,v,h=>by simp at h
 |d::l,0,old,v,h=>by simp at h;subst h;simp[val];omega
 |d::l,k+1,old,v,h=>by
  have ih:=M6 (b:=b) (l:=l) (k:=k) (old:=old) (v:=v) (by simpa using h)
  simp only[List.set_cons_succ,val,gg]
  generalize val b (l.set k v)=p at*
  generalize val b l=q at*
  generalize b^k=z at*
  have:b*(p+z*old)=b*(q+z*v):=by rw[ih]
  grind
def Dg.set{l:List Nat}(h:Dg l){k v:Nat}(hv:v<B):Dg (l.set k v):=by
 intro d hd
 rcases F9 hd with hd|hd
 ·exact h d hd
 ·subst hd;exact hv
def fR(x y o c:Nat):Nat:=bz (bz (bz (x*y)+o)+c)
def jk(x y o c:Nat):Nat:=cL (cL (cg (x*y)) (cg (bz (x*y)+o))) (cg (bz (bz (x*y)+o)+c))
def Yjj{x y o c:Nat}(hx:x<B)(hy:y<B)(ho:o<B)(hc:c<B):fR x y o c+B*jk x y o c=x*y+o+c/\fR x y o c<B/\jk x y o c<B:=by
 have:x*y<=18446744073709551615*18446744073709551615:=uf (by unfold B at*;omega) (by unfold B at*;omega)
 unfold fR jk bz cg cL
 unfold B at*
 generalize x*y=p at*
 omega
structure Ywu (h:T O) (N x y i j:Nat) (o:List Nat) (c xi:Nat) (r:T V) (st:St):Prop where
 hj:j<=(aJ y).length
 r29:r.get 29=some (.int .i64 j)
 r8:r.get 8=some (.int .u64 c)
 n:st.n=N+1
 w:ax N st.w=[]
 ae:ab h N st.h (N+1)
 row:st.h.get N=some (.cells (dg o) 195 true)
 len:o.length=(aJ x).length+(aJ y).length
 dg:Dg o
 zero:∀t,i+(aJ y).length<=t->t<o.length->o[t]?=some 0
 lc:c<B
 ex:val B o+B^(i+j)*c=val B ((aJ x).take i)*y+B^i*(xi*val B ((aJ y).take j))
def Yya(h:T O)(N x y i xi m:Nat)(r:T V)(st:St):Prop:=∃j o c,m=(aJ y).length-j/\Ywu h N x y i j o c xi r st
def Yyb(h:T O)(N x y i xi:Nat)(r:T V)(st:St):Prop:=∃o c,Ywu h N x y i (aJ y).length o c xi r st
structure Yuk (h:T O) (N x y i:Nat) (o:List Nat) (r:T V) (st:St):Prop where
 hi:i<=(aJ x).length
 r22:r.get 22=some (.int .i64 i)
 n:st.n=N+1
 w:ax N st.w=[]
 ae:ab h N st.h (N+1)
 row:st.h.get N=some (.cells (Go.Mx.dg o) 195 true)
 len:o.length=(aJ x).length+(aJ y).length
 dg:Dg o
 zero:∀t,i+(aJ y).length<=t->t<o.length->o[t]?=some 0
 ex:val B o=val B ((aJ x).take i)*y
def Ywi(h:T O)(N x y m:Nat)(r:T V)(st:St):Prop:=∃i o,m=(aJ x).length-i/\Yuk h N x y i o r st
def Ywj(h:T O)(N x y:Nat)(r:T V)(st:St):Prop:=∃o,Yuk h N x y (aJ x).length o r st
def Zv1{h:T O}{N:Nat}{vx vy:V}{x y:Nat}(hx:Wn h N vx x)(hy:Wn h N vy y)(yS:(aJ x).length<1099511627776)(LJ:(aJ y).length<1099511627776):Fn A.C 200 [vx,vy] h N (fun v' h' N'=>Wn h' N' v' (x*y)):=by
 intro w
 have lx:=hx.len
 have ly:=hy.len
 rw[bA]at lx ly
 rw[aR,A.k200 (by simp)]
 simp(disch:=first|(simp;done)|omega|(simp only[bA,cA,bo];omega)|rfl) [A.b200,lx,ly]
 refine bL [(6,13),(22,77)] (fun e r st=>e=.exit 0/\Ywj h N x y r st) (Ywi h N x y) (aJ x).length ?_ ?_ ?_
 ·refine⟨0,List.replicate ((aJ x).length+(aJ y).length) 0,by omega,⟨by omega,by simp,by simp,by simp,ab.refl.set (aM _) |>.up (by omega),?_,by simp,?_,?_,by simp[val,Zsy]⟩⟩
  ·simp[Hm]
  ·intro d hd
   rw[Ge]at hd
   rw[hd.2];decide
  ·intro t _ ht
   simp at ht
   simp[ht]
 ·rintro m r ⟨H,n1,W⟩ hr hf ⟨i,o,rfl,hi,oQ,hn,hW,hK,hN,ho,hd,hz,he⟩
  simp only at hn hW hK hN
  subst hn
  rw[bl]
  by_cases ay:i<(aJ x).length
  ·obtain⟨i1,o1,c1,e1,w1,p1,p2,p3,p4⟩:=hx.at (fw (cy ay))
   have p3:=(hK.get _ p2).trans p3
   have gx:=cy ay
   generalize (aJ x)[i]=xi at*
   simp[A.si,hr,oQ,ay,lx,ly,p1,p3,p4]
   refine bL [(8,13),(29,69)] (fun e r st=>e=.exit 2/\Yyb h N x y i xi r st) (Yya h N x y i xi) (aJ y).length ?_ ?_ ?_
   ·exact⟨0,o,0,by omega,⟨by omega,by simp,by simp,rfl,hW,hK,hN,ho,hd,hz,by decide,by simp[val,he]⟩⟩
   ·rintro m r2 ⟨H2,n2,W2⟩ cZ c9 ⟨j,o2,c,rfl,hj,OX,h8,eM,eH,ib,vZ,ym,dp,dT,JG,uP⟩
    simp only at eM eH ib vZ
    subst eM
    rw[bl]
    have hi:xi<B:=(rE x).get gx
    by_cases dj:j<(aJ y).length
    ·obtain⟨i2,o3,c3,e3,w3,q1,q2,q3,q4⟩:=hy.at (fw (cy dj))
     have q3:=(ib.get _ q2).trans q3
     have gy:=cy dj
     generalize (aJ y)[j]=yj at*
     have hyj:yj<B:=(rE y).get gy
     have go:=cy (l:=o2) (i:=i+j) (by omega)
     generalize o2[i+j]'(by omega)=ov at*
     simp[A.sh,hr,cZ,OX,h8,dj,lx,ly,q1,q3,q4,c9]
     refine aA (MT hi hyj) ?_
     rintro _ _ _ BP ⟨rfl,rfl,rfl⟩
     simp(disch:=first|(simp;done)|omega|(simp only[bA,cA,bo];omega)|rfl) [-getElem?_pos,hr,cZ,OX,h8,dj,lx,ly,q1,q3,q4,c9,vZ,fw go,pE]
     obtain⟨m1,m2,m3⟩:=Yjj hi hyj (dp.get go) JG
     refine⟨_,by omega,j+1,o2.set (i+j) (fR xi yj ov c),jk xi yj ov c,rfl,⟨by omega,by simp,?_,rfl,by simp[eH],ib.set (aM _),?_,by simp[ym],dp.set m2,?_,m3,?_⟩⟩
     ·simp[jk]
     ·simp[fR]
     ·intro t t1 t2
      rw[d_ (by omega)]
      exact dT t t1 (by simpa using t2)
     ·have v1:=M6 (b:=B) (v:=fR xi yj ov c) go
      rw[ES gy]
      have e1:B^(i+(j+1))=B^(i+j)*B:=by rw[show i+(j+1)=(i+j)+1 by omega,gg]
      have e2:B^i*(xi*(B^j*yj))=B^(i+j)*(xi*yj):=by rw[ke];grind
      have e3:B^(i+j)*(fR xi yj ov c+B*jk xi yj ov c)=B^(i+j)*(xi*yj+ov+c):=by rw[m1]
      rw[e1]
      generalize val B (List.set o2 (i+j) (fR xi yj ov c))=z1 at*
      generalize val B o2=z2 at*
      generalize fR xi yj ov c=z3 at*
      generalize jk xi yj ov c=z4 at*
      generalize val B (List.take j (aJ y))=z5 at*
      generalize B^(i+j)=z6 at*
      grind
    ·have:j=(aJ y).length:=by omega
     subst this
     simp[A.sh,hr,cZ,OX,h8,c9]
     exact⟨o2,c,⟨by omega,by simp[OX],by simp[h8],rfl,eH,ib,vZ,ym,dp,dT,JG,uP⟩⟩
   ·rintro e r2 ⟨H2,n2,W2⟩ cZ ⟨rfl,o2,c,hj,OX,h8,eM,eH,ib,vZ,ym,dp,dT,JG,uP⟩
    simp only at eM eH ib vZ
    subst eM
    have c9:=hf.inner (D':=[(8,13),(29,69)]) rfl (by simp) cZ
    simp(disch:=first|(simp;done)|omega|(simp only[bA,cA,bo];omega)|rfl) [hr,cZ,oQ,h8,ly,vZ,pE,c9]
    have pP:o2[i+(aJ y).length]?=some 0:=dT _ (aM _) (by omega)
    refine⟨_,by omega,i+1,o2.set (i+(aJ y).length) c,rfl,⟨by omega,by simp,rfl,by simp[eH],ib.set (aM _),by simp,by simp[ym],dp.set JG,?_,?_⟩⟩
    ·intro t t1 t2
     rw[d_ (by omega)]
     exact dT t (by omega) (by simpa using t2)
    ·have v1:=M6 (b:=B) (v:=c) pP
     rw[fe (aM _),mV]at uP
     rw[ES gx]
     simp only[Nat.mul_zero,kv]at v1
     rw[v1,uP]
     grind
  ·have:i=(aJ x).length:=by omega
   subst this
   simp[A.si,hr,oQ,hf]
   exact⟨o,⟨by omega,by simp[oQ],rfl,hW,hK,hN,ho,hd,hz,he⟩⟩
 ·rintro _ r ⟨H,n1,W⟩ hr ⟨rfl,o,hi,oQ,hn,hW,hK,hN,ho,hd,hz,he⟩
  simp only at hn hW hK hN
  subst hn
  simp[hr,hN]
  refine aA (Dc (l:=o) (Sl.row (e:=195) (rw:=true) (by omega) (by simp[hN]) (by simp[ho]) (by simp)) (by simp[ho];omega)) ?_
  intro v' h' n' gE hs
  simp[aE]
  refine⟨hW,hK.trans gE,?_⟩
  rw[fe (aM _),mV]at he
  rw[C9 hd,he]at hs
  exact hs
end
end Go.Mx
