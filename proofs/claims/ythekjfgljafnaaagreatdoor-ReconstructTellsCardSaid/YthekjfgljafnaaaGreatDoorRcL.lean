/-lensletref01-/
import Derived.Test.YthekjfgljafnaaaGreatDoorRcG
set_option linter.all false
namespace Go.Mx
open Go Go.Proofs
set_option maxHeartbeats 2000000
set_option maxRecDepth 1000000
noncomputable def A.b19:=A.q Tryz.f19
def A.k19:=@A.kk 19 63 [.tmp 4] A.b19 (by kernel_rfl) rfl
def Zv1{a b:Rat}{j k:Nat}{h:T O}{N:Nat}(ha:Qb j a)(hb:Qb k b)(hj:j≤400000000)(hk:k≤400000000):Fn A.C 19 [.str (Zax a),.str (Zax b)] h N (fun u _ _=>u=.str (Zax (a+b))):=by
 intro w
 obtain⟨n1,d1,o1,hq1,f1⟩:=Zmh a
 obtain⟨n2,d2,o2,hq2,f2⟩:=Zmh b
 have pa:=Rat.den_pos a
 have pb:=Rat.den_pos b
 rw[Zab,A.k19 (by simp)]
 have key:(o1=true∧o2=true)∨(o1=false∨(o1=true∧o2=false)):=by cases o1<;>cases o2<;>simp
 rcases key with⟨rfl,rfl⟩|key
 ·obtain⟨rfl,rfl,g1⟩:=f1 rfl
  obtain⟨rfl,rfl,g2⟩:=f2 rfl
  have m1:(a.num*(b.den:Int)).natAbs≤1000000000000000000:=by rw[Yx3,Ywc];exact Zn3 g1.1 g2.2
  have m4:(b.num*(a.den:Int)).natAbs≤1000000000000000000:=by rw[Yx3,Ywc];exact Zn3 g2.1 g1.2
  have m2:a.den*b.den≤1000000000000000000:=Zn3 g1.2 g2.2
  have m3:0<a.den*b.den:=Yzg pa pb
  have e2:(a.den:Int)*(b.den:Int)=((a.den*b.den:Nat):Int):=by simp
  have w1:Zar .i64 (a.num*(b.den:Int))=a.num*(b.den:Int):=Zaj (by omega) (by omega)
  have w3:Zar .i64 (b.num*(a.den:Int))=b.num*(a.den:Int):=Zaj (by omega) (by omega)
  have w2:Zar .i64 ((a.den:Int)*(b.den:Int))=(a.den:Int)*(b.den:Int):=by rw[e2];exact Zaj (by omega) (by omega)
  have w4:Zar .i64 (a.num*(b.den:Int)+b.num*(a.den:Int))=a.num*(b.den:Int)+b.num*(a.den:Int):=Zaj (by omega) (by omega)
  have ho:=fun st=>Yqq (p:=a.num*(b.den:Int)+b.num*(a.den:Int)) (q:=(a.den:Int)*(b.den:Int)) (st:=st) (by omega) (by omega) (by omega) (by omega) (by omega)
  rw[←Zp8]at ho
  simp[A.b19,hq1,hq2,w1,w2,w3,w4,ho,Ret]
  exact Keeps.refl
 ·have la:=Zod ha.1
  have la2:=Zln ha.2
  have lb:=Zod hb.1
  have lb2:=Zln hb.2
  have z1:=Zkr ha.1
  have z2:=Zkr hb.1
  have z3:=Zkr ha.2
  have z4:=Zkr hb.2
  rcases key with rfl|⟨rfl,rfl⟩
  all_goals simp[A.b19,hq1,hq2]
  all_goals
   refine Zac (Zj9 (q:=a) (by omega) (by omega)) ?_
   rintro _ h1 t1 k1 ⟨x1,y1,rfl,X1,Y1⟩
   obtain⟨u1,rfl,p1,p2,F1⟩:=X1.ones
   obtain⟨v1,rfl,p3,p4,G1⟩:=Y1.ones
   unfold V.one at p1 p3
   unfold V.cells at p2 p4
   have KA:=((((Keeps.refl (h:=h1) (n:=t1)).new (.cells [.bool false,.nilslice] 92 true)).new (.cells [.bool false,.nilslice] 92 true)).set (i:=t1) (o:=.cells [.bool (decide (a.num<0)),u1] 92 true) (Yv5 _)).set (i:=t1+1) (o:=.cells [.bool (decide ((a.den:Int)<0)),v1] 92 true) (by omega)
   have c0:¬t1+1=t1:=by omega
   have c00:¬t1=t1+1:=by omega
   simp[p1,p2,p3,p4,Zal,splice,c0]
   generalize hHA:(((h1.set t1 (.cells [.bool false,.nilslice] 92 true)).set (t1+1) (.cells [.bool false,.nilslice] 92 true)).set t1 (.cells [.bool (decide (a.num<0)),u1] 92 true)).set (t1+1) (.cells [.bool (decide ((a.den:Int)<0)),v1] 92 true)=HA at*
   have gA1:HA.get t1=some (.cells [.bool (decide (a.num<0)),u1] 92 true):=by rw[←hHA];simp[c0,c00]
   have gA2:HA.get (t1+1)=some (.cells [.bool (decide ((a.den:Int)<0)),v1] 92 true):=by rw[←hHA];simp
   have X1:=X1.keep KA
   have Y1:=Y1.keep KA
   clear hHA
   refine Zac (Zj9 (q:=b) (by omega) (by omega)) ?_
   rintro _ h2 t2 k2 ⟨x2,y2,rfl,X2,Y2⟩
   obtain⟨u2,rfl,p5,p6,F2⟩:=X2.ones
   obtain⟨v2,rfl,p7,p8,G2⟩:=Y2.ones
   unfold V.one at p5 p7
   unfold V.cells at p6 p8
   have KB:=((((Keeps.refl (h:=h2) (n:=t2)).new (.cells [.bool false,.nilslice] 92 true)).new (.cells [.bool false,.nilslice] 92 true)).set (i:=t2) (o:=.cells [.bool (decide (b.num<0)),u2] 92 true) (Yv5 _)).set (i:=t2+1) (o:=.cells [.bool (decide ((b.den:Int)<0)),v2] 92 true) (by omega)
   have c1:¬t2+1=t2:=by omega
   have c11:¬t2=t2+1:=by omega
   have i2:=k2.le
   generalize hHB:(((h2.set t2 (.cells [.bool false,.nilslice] 92 true)).set (t2+1) (.cells [.bool false,.nilslice] 92 true)).set t2 (.cells [.bool (decide (b.num<0)),u2] 92 true)).set (t2+1) (.cells [.bool (decide ((b.den:Int)<0)),v2] 92 true)=HB at*
   have gB1:HB.get t2=some (.cells [.bool (decide (b.num<0)),u2] 92 true):=by rw[←hHB];simp[c1,c11]
   have gB2:HB.get (t2+1)=some (.cells [.bool (decide ((b.den:Int)<0)),v2] 92 true):=by rw[←hHB];simp
   have gB3:=(KB.get t1 (by omega)).trans ((k2.get t1 (by omega)).trans gA1)
   have gB4:=(KB.get (t1+1) (by omega)).trans ((k2.get (t1+1) (by omega)).trans gA2)
   have X1:=(X1.keep k2).keep KB
   have Y1:=(Y1.keep k2).keep KB
   have X2:=X2.keep KB
   have Y2:=Y2.keep KB
   have K2:Keeps h N HB (t2+1+1):=((k1.trans KA).trans k2).trans KB
   have j1:t1<t2+1+1:=by omega
   have j2:t1+1<t2+1+1:=by omega
   have j3:t2<t2+1+1:=by omega
   simp[p5,p6,p7,p8,Zal,splice,c1,hHB,gB1,gB2,gB3,gB4,Zak,slc]
   refine Zac (Zj2 X1 Y2 (by omega) (by rw[Ywc];omega)) ?_
   rintro _ h3 t3 k3 X3
   have i3:=k3.le
   have gC1:=(k3.get t2 (by omega)).trans gB1
   have gC2:=(k3.get (t2+1) (by omega)).trans gB2
   have gC4:=(k3.get (t1+1) (by omega)).trans gB4
   simp[gC1,gC4,Zak,slc]
   refine Zac (Zj2 (X2.keep k3) (Y1.keep k3) (by omega) (by rw[Ywc];omega)) ?_
   rintro _ h4 t4 k4 X4
   have i4:=k4.le
   have b1:=Zdz (b:=(b.den:Int)) (k:=k) ha.1 (by rw[Ywc];exact hb.2)
   have b2:=Zdz (b:=(a.den:Int)) (k:=j) hb.1 (by rw[Ywc];exact ha.2)
   rw[Nat.add_comm k j]at b2
   have m1:=Zkr b1
   have m2:=Zkr b2
   have m3:=Zkr (Zqw b1 b2)
   have m4:=Zkr (Zdz (a:=(a.den:Int)) (b:=(b.den:Int)) (j:=j) (k:=k) (by rw[Ywc];exact ha.2) (by rw[Ywc];exact hb.2))
   simp[]
   refine Zac (Ymg (X3.keep k4) X4 (by omega) (by omega)) ?_
   rintro _ h5 t5 k5 X5
   have i5:=k5.le
   have gD2:=(k5.get (t2+1) (by omega)).trans ((k4.get (t2+1) (by omega)).trans gC2)
   have gD4:=(k5.get (t1+1) (by omega)).trans ((k4.get (t1+1) (by omega)).trans gC4)
   simp[gD2,gD4,Zak,slc]
   refine Zac (Zj2 (((Y1.keep k3).keep k4).keep k5) (((Y2.keep k3).keep k4).keep k5) (by rw[Ywc];omega) (by rw[Ywc];omega)) ?_
   rintro _ h6 t6 k6 X6
   simp[]
   refine Zac (Zn1 (X5.keep k6) X6 (Yzv (by omega) (by omega)) (by omega) (by omega)) ?_
   rintro _ h7 t7 k7 rfl
   have j4:t2+1<t3:=by omega
   have j5:t1+1<t3:=by omega
   have j6:t2<t3:=by omega
   have j7:t2+1<t5:=by omega
   have j8:t1+1<t5:=by omega
   rw[←Zp8]
   have i1:=k1.le
   simp[-Zaa,Zao.chk,j1,j2,j3,j4,j5,j6,j7,j8,Ret]
   exact⟨Zlh (by simp;omega),((((K2.trans k3).trans k4).trans k5).trans k6).trans k7⟩
set_option maxHeartbeats 2000000
noncomputable def A.b208:=A.q Tryz.f208
def A.k208:=@A.kk 208 51 [.tmp 4,.tmp 5] A.b208 (by kernel_rfl) rfl
def Yqu{x y:Nat}(hx:x<18446744073709551616)(hy:y<18446744073709551616):addu (addu (mulu (shr64 x 32) (shr64 y 32)) (shr64 (addu (mulu (shr64 x 32) (and32 y)) (shr64 (mulu (and32 x) (and32 y)) 32)) 32)) (shr64 (addu (and32 (addu (mulu (shr64 x 32) (and32 y)) (shr64 (mulu (and32 x) (and32 y)) 32))) (mulu (and32 x) (shr64 y 32))) 32)=hi64 (x*y):=by
 simp only[addu,mulu,shr64,and32,hi64,Nat.reducePow]
 have ex:x=x/4294967296*4294967296+x%4294967296:=by omega
 have ey:y=y/4294967296*4294967296+y%4294967296:=by omega
 have hx0:x%4294967296<4294967296:=Yxo _ (by decide)
 have hy0:y%4294967296<4294967296:=Yxo _ (by decide)
 have hx1:x/4294967296<4294967296:=by omega
 have hy1:y/4294967296<4294967296:=by omega
 generalize x/4294967296=x1 at*
 generalize x%4294967296=x0 at*
 generalize y/4294967296=y1 at*
 generalize y%4294967296=y0 at*
 have a1:x0*y0≤4294967295*4294967295:=Yx9 (by omega) (by omega)
 have a2:x1*y0≤4294967295*4294967295:=Yx9 (by omega) (by omega)
 have a3:x0*y1≤4294967295*4294967295:=Yx9 (by omega) (by omega)
 have a4:x1*y1≤4294967295*4294967295:=Yx9 (by omega) (by omega)
 have e:x*y=x1*y1*18446744073709551616+(x1*y0+x0*y1)*4294967296+x0*y0:=by
  subst ex;subst ey
  grind
 rw[e]
 generalize x0*y0=p at*
 generalize x1*y0=q at*
 generalize x0*y1=u at*
 generalize x1*y1=z at*
 omega
def Zkd{h:T O}{N:Nat}{x y:Nat}(hx:x<18446744073709551616)(hy:y<18446744073709551616):Fn A.C 208 [.int .u64 x,.int .u64 y] h N (fun v' h' N'=>h'=h∧N'=N∧v'=.tup [.int .u64 (hi64 (x*y):Nat),.int .u64 (lo64 (x*y):Nat)]):=by
 intro w
 rw[Zab,A.k208 (by simp)]
 simp(disch:=first|(simp;done)|omega|(simp only[Zaf,Zag,Yv8];omega)|rfl) [A.b208]
 rw[Yqu hx hy]
 exact⟨rfl,Keeps.refl,rfl,rfl,rfl⟩
noncomputable def A.w231:=A.q Tryz.f231
noncomputable def A.lb231_0:=A.ql A.w231 0 []
noncomputable def A.b231:=(fun x0=>A.qb A.w231 [x0]) A.lb231_0
def A.k231:=@A.kk 231 21 [.tmp 2] A.b231 (by kernel_rfl) rfl
def Zgl{h:T O}{N:Nat}{v:V}{l:List Nat}(hs:Sl h N v (dg l))(hl:l.length<1152921504606846976):Fn A.C 231 [v] h N (fun v' h' N'=>Sl h' N' v' (dg (Zhf l))):=by
 intro w
 have hlen:=hs.len
 rw[Zaf]at hlen
 rw[Zab,A.k231 (by simp)]
 simp[A.b231,hlen]
 refine Zai [(3,3),(6,17)] (fun e r st=>e=.exit 0∧st=⟨h,N,[]⟩∧∃k,k≤l.length∧r.get 3=some (.int .i64 k)∧Zhf l=l.take k) (fun k r st=>st=⟨h,N,[]⟩∧k≤l.length∧r.get 3=some (.int .i64 k)∧Zhf (l.take k)=Zhf l) l.length ?_ ?_ ?_
 ·exact⟨rfl,Yv5 _,by simp,by simp⟩
 ·rintro k r _ hr hf ⟨rfl,hk,h3,ht⟩
  rw[Zah]
  cases k with
  |zero=>
   have:Zhf l=[]:=ht.symm
   simp[A.lb231_0,h3,hf,this]
   exact⟨0,by omega,rfl,.inl rfl⟩
  |succ k=>
   obtain⟨d,hd⟩:∃d,l[k]?=some d:=⟨_,Yv9 (by omega)⟩
   obtain⟨i,o,c,e,rw,q1,q2,q3,q4⟩:=hs.at (Za9 hd)
   have e1:l.take (k+1)=l.take k++[d]:=by rw[Yyq,hd];rfl
   have k1:(0:Int)<(k:Int)+1:=by omega
   have k2:(k:Int)<(l.length:Int):=by omega
   by_cases h0:d=0
   ·subst h0
    rw[e1,Zpb]at ht
    simp(disch:=first|(simp;done)|omega|(simp only[Zaf,Zag,Yv8];omega)|rfl) [A.lb231_0,h3,hr,hf,k1,k2,hlen,q1,q3,q4,Zad]
    exact⟨k,by omega,by omega,rfl,ht⟩
   ·rw[e1,Zpc h0]at ht
    have hz:((d:Int)==0)=false:=by simp;omega
    simp(disch:=first|(simp;done)|omega|(simp only[Zaf,Zag,Yv8];omega)|rfl) [A.lb231_0,h3,hr,hf,k1,k2,hlen,q1,q3,q4,Zad,hz]
    exact⟨k+1,hk,rfl,by rw[e1];exact ht.symm⟩
 ·rintro _ r _ hr ⟨rfl,rfl,k,hk,h3,ht⟩
  simp[hr,h3,Zcb,evOpt]
  obtain⟨v',e1,e2⟩:=Zfe (w:=[]) hs (lo:=0) (hi:=k) (Yyj _) (by rw[Zaf];exact hk) none (some (.int .i64 k)) (.inr ⟨rfl,rfl⟩) (.inl rfl)
  rw[e1]
  simp[Ret]
  refine⟨Keeps.refl,?_⟩
  rw[ht,show dg (l.take k)=(dg l).take k by simp[dg]]
  exact e2
set_option maxHeartbeats 2000000
noncomputable def A.w204:=A.q Tryz.f204
noncomputable def A.lb204_0:=A.ql A.w204 0 []
noncomputable def A.b204:=(fun x0=>A.qb A.w204 [x0]) A.lb204_0
def A.k204:=@A.kk 204 54 [.tmp 4] A.b204 (by kernel_rfl) rfl
structure Yuj (h:T O) (N x y k:Nat) (o:List Nat) (c:Nat) (r:T V) (st:St):Prop where
 hk:k≤(wds x).length
 r22:r.get 22=some (.int .i64 k)
 r6:r.get 6=some (.int .u64 c)
 n:st.n=N+1
 w:Zaa N st.w=[]
 keep:Keeps h N st.h (N+1)
 row:st.h.get N=some (.cells (dg o) 205 true)
 len:o.length=(wds x).length+1
 ex:∃d,d.length=k∧o=d++List.replicate ((wds x).length+1-k) 0∧val B d+B^k*c=val B ((wds x).take k)+val B ((wds y).take k)∧c≤1∧Dg d
def Yuk(h:T O)(N x y m:Nat)(r:T V)(st:St):Prop:=∃k o c,m=(wds x).length-k∧Yuj h N x y k o c r st
def Yul(h:T O)(N x y:Nat)(r:T V)(st:St):Prop:=∃o c,Yuj h N x y (wds x).length o c r st
def Yfr{x y o d:List Nat}{k c xk:Nat}(hx:x[k]?=some xk)(d1:d.length=k)(d2:o=d++List.replicate (x.length+1-k) 0)(d3:val B d+B^k*c=val B (x.take k)+val B (y.take k))(d4:c≤1)(d5:Dg d)(gx:Dg x)(gy:Dg y):
  (d++[lo64 (xk+dz y k+c)]).length=k+1∧o.set k (lo64 (xk+dz y k+c))=(d++[lo64 (xk+dz y k+c)])++List.replicate (x.length+1-(k+1)) 0∧val B (d++[lo64 (xk+dz y k+c)])+B^(k+1)*hi64 (xk+dz y k+c)=val B (x.take (k+1))+val B (y.take (k+1))∧hi64 (xk+dz y k+c)≤1∧Dg (d++[lo64 (xk+dz y k+c)]):=by
 have hk:k<x.length:=by
  apply Yxn;intro hc;rw[Ywd hc]at hx;cases hx
 have hxk:=gx.get hx
 have hyk:=Yrn gy k
 have hm:=Yxv (xk+dz y k+c) B
 refine⟨by simp[d1],?_,?_,?_,?_⟩
 ·rw[d2,show x.length+1-k=(x.length-k)+1 by omega,Zqm d1,show x.length+1-(k+1)=x.length-k by omega]
 ·rw[Zmc,Zce,Zce,d1,show dz x k=xk by simp[dz,hx]]
  have e1:lo64 (xk+dz y k+c)=(xk+dz y k+c)%B:=rfl
  have e2:hi64 (xk+dz y k+c)=(xk+dz y k+c)/B:=rfl
  rw[e1,e2,Ywx]
  generalize (xk+dz y k+c)%B=lo at*
  generalize (xk+dz y k+c)/B=hi at*
  generalize B^k=p at*
  have:p*(B*hi+lo)=p*(xk+dz y k+c):=by rw[hm]
  grind
 ·show (xk+dz y k+c)/B≤1
  unfold B at*;omega
 ·intro e he
  rcases Yxs.1 he with he|he
  ·exact d5 e he
  ·simp at he;subst he;exact Yxo _ (by decide)
def Yk3{x y:Nat}{o d:List Nat}{c:Nat}(hl:(wds y).length≤(wds x).length)(d1:d.length=(wds x).length)(d2:o=d++List.replicate ((wds x).length+1-(wds x).length) 0)(d3:val B d+B^(wds x).length*c=val B ((wds x).take (wds x).length)+val B ((wds y).take (wds x).length))(d4:c≤1)(d5:Dg d):Zhf (o.set (wds x).length c)=wds (x+y):=by
 rw[d2,show (wds x).length+1-(wds x).length=0+1 by omega,Zqm d1]
 simp only[List.replicate_zero,Yyb]
 rw[Zdt,Zmc,d1,d3,Ywe (Yv5 _),Ywe hl,Zbp,Zbp]
 intro e he
 rcases Yxs.1 he with he|he
 ·exact d5 e he
 ·simp at he;subst he;unfold B;omega
def Zv0{h:T O}{N:Nat}{vx vy:V}{x y:Nat}(hx:Wn h N vx x)(hy:Wn h N vy y)(hxl:(wds x).length<1099511627776)(hyl:(wds y).length<1099511627776):Fn A.C 204 [vx,vy] h N (fun v' h' N'=>Wn h' N' v' (x+y)):=by
 intro w
 have lx:=hx.len
 have ly:=hy.len
 rw[Zaf]at lx ly
 rw[Zab,A.k204 (by simp)]
 by_cases hl:(wds x).length<(wds y).length
 ·simp(disch:=first|(simp;done)|omega|(simp only[Zaf,Zag,Yv8];omega)|rfl) [A.b204,lx,ly,hl]
  refine Zai [(6,8),(22,46)] (fun e r st=>e=.exit 0∧Yul h N y x r st) (Yuk h N y x) (wds y).length ?_ ?_ ?_
  ·refine⟨0,List.replicate ((wds y).length+1) 0,0,by omega,⟨by omega,by simp,by simp,by simp,by simp,Keeps.refl.set (Yv5 _) |>.up (by omega),by simp[Zg7],by simp,[],by simp,by simp,by simp[val],by decide,by simp[Dg]⟩⟩
  ·rintro m r ⟨H,n1,W⟩ hr hf ⟨k,o,c,rfl,hk,h22,h6,hn,hW,hK,hN,ho,d,hd⟩
   simp only at hn hW hK hN
   subst hn
   rw[Zah]
   by_cases hlt:k<(wds y).length
   ·obtain⟨i1,o1,c1,e1,w1,p1,p2,p3,p4⟩:=hy.at (Za9 (Yv9 hlt))
    have p3:=(hK.get _ p2).trans p3
    obtain⟨d1,d2,d3,d4,d5⟩:=hd
    have hsp:=Yfr (x:=wds y) (y:=wds x) (Yv9 hlt) d1 d2 d3 d4 d5 (Zds y) (Zds x)
    by_cases hky:k<(wds x).length
    ·obtain⟨i2,o2,c2,e2,w2,q1,q2,q3,q4⟩:=hx.at (Za9 (Yv9 hky))
     have q3:=(hK.get _ q2).trans q3
     have hz:dz (wds x) k=(wds x)[k]:=by simp[dz,Yv9 hky]
     rw[hz]at hsp
     simp(disch:=first|(simp;done)|omega|(simp only[Zaf,Zag,Yv8];omega)|rfl) [A.lb204_0,hr,h22,h6,hlt,hky,ly,lx,p1,p3,p4,q1,q3,q4,hN,Zc7,hf]
     exact⟨_,by omega,k+1,_,_,rfl,⟨by omega,by simp,by simp,rfl,by simp[hW],hK.set (Yv5 _),by simp,by simp[ho],_,hsp⟩⟩
    ·have hz:dz (wds x) k=0:=by simp[dz,Ywd (Yy2.1 hky)]
     rw[hz]at hsp
     simp(disch:=first|(simp;done)|omega|(simp only[Zaf,Zag,Yv8];omega)|rfl) [A.lb204_0,hr,h22,h6,hlt,hky,ly,lx,p1,p3,p4,hN,Zc7,hf]
     exact⟨_,by omega,k+1,_,_,rfl,⟨by omega,by simp,by simp,rfl,by simp[hW],hK.set (Yv5 _),by simp,by simp[ho],_,hsp⟩⟩
   ·have hkx:k=(wds y).length:=by omega
    subst hkx
    simp[A.lb204_0,hr,h22,hf]
    exact⟨o,c,⟨by omega,by simp[h22],by simp[h6],rfl,by simp[hW],hK,hN,ho,d,hd⟩⟩
  ·rintro _ r ⟨H,n1,W⟩ hr ⟨rfl,o,c,hk,h22,h6,hn,hW,hK,hN,ho,d,d1,d2,d3,d4,d5⟩
   simp only at hn hW hK hN
   subst hn
   simp(disch:=first|(simp;done)|omega|(simp only[Zaf,Zag,Yv8];omega)|rfl) [hr,h6,ly,hN,Zc7]
   refine Zac (Zgl (l:=o.set (wds y).length c) (Sl.row (e:=205) (rw:=true) (by omega) (by simp) (by simp[ho]) (by simp)) (by simp[ho];omega)) ?_
   intro v' h' n' hk' hs
   simp[Ret]
   refine⟨hW,(hK.set (Yv5 _)).trans hk',?_⟩
   rw[Yk3 (by omega) d1 d2 d3 d4 d5]at hs
   exact(Nat.add_comm y x▸hs)
 ·simp(disch:=first|(simp;done)|omega|(simp only[Zaf,Zag,Yv8];omega)|rfl) [A.b204,lx,ly,hl]
  refine Zai [(6,8),(22,46)] (fun e r st=>e=.exit 0∧Yul h N x y r st) (Yuk h N x y) (wds x).length ?_ ?_ ?_
  ·refine⟨0,List.replicate ((wds x).length+1) 0,0,by omega,⟨by omega,by simp,by simp,by simp,by simp,Keeps.refl.set (Yv5 _) |>.up (by omega),by simp[Zg7],by simp,[],by simp,by simp,by simp[val],by decide,by simp[Dg]⟩⟩
  ·rintro m r ⟨H,n1,W⟩ hr hf ⟨k,o,c,rfl,hk,h22,h6,hn,hW,hK,hN,ho,d,hd⟩
   simp only at hn hW hK hN
   subst hn
   rw[Zah]
   by_cases hlt:k<(wds x).length
   ·obtain⟨i1,o1,c1,e1,w1,p1,p2,p3,p4⟩:=hx.at (Za9 (Yv9 hlt))
    have p3:=(hK.get _ p2).trans p3
    obtain⟨d1,d2,d3,d4,d5⟩:=hd
    have hsp:=Yfr (x:=wds x) (y:=wds y) (Yv9 hlt) d1 d2 d3 d4 d5 (Zds x) (Zds y)
    by_cases hky:k<(wds y).length
    ·obtain⟨i2,o2,c2,e2,w2,q1,q2,q3,q4⟩:=hy.at (Za9 (Yv9 hky))
     have q3:=(hK.get _ q2).trans q3
     have hz:dz (wds y) k=(wds y)[k]:=by simp[dz,Yv9 hky]
     rw[hz]at hsp
     simp(disch:=first|(simp;done)|omega|(simp only[Zaf,Zag,Yv8];omega)|rfl) [A.lb204_0,hr,h22,h6,hlt,hky,lx,ly,p1,p3,p4,q1,q3,q4,hN,Zc7,hf]
     exact⟨_,by omega,k+1,_,_,rfl,⟨by omega,by simp,by simp,rfl,by simp[hW],hK.set (Yv5 _),by simp,by simp[ho],_,hsp⟩⟩
    ·have hz:dz (wds y) k=0:=by simp[dz,Ywd (Yy2.1 hky)]
     rw[hz]at hsp
     simp(disch:=first|(simp;done)|omega|(simp only[Zaf,Zag,Yv8];omega)|rfl) [A.lb204_0,hr,h22,h6,hlt,hky,lx,ly,p1,p3,p4,hN,Zc7,hf]
     exact⟨_,by omega,k+1,_,_,rfl,⟨by omega,by simp,by simp,rfl,by simp[hW],hK.set (Yv5 _),by simp,by simp[ho],_,hsp⟩⟩
   ·have hkx:k=(wds x).length:=by omega
    subst hkx
    simp[A.lb204_0,hr,h22,hf]
    exact⟨o,c,⟨by omega,by simp[h22],by simp[h6],rfl,by simp[hW],hK,hN,ho,d,hd⟩⟩
  ·rintro _ r ⟨H,n1,W⟩ hr ⟨rfl,o,c,hk,h22,h6,hn,hW,hK,hN,ho,d,d1,d2,d3,d4,d5⟩
   simp only at hn hW hK hN
   subst hn
   simp(disch:=first|(simp;done)|omega|(simp only[Zaf,Zag,Yv8];omega)|rfl) [hr,h6,lx,hN,Zc7]
   refine Zac (Zgl (l:=o.set (wds x).length c) (Sl.row (e:=205) (rw:=true) (by omega) (by simp) (by simp[ho]) (by simp)) (by simp[ho];omega)) ?_
   intro v' h' n' hk' hs
   simp[Ret]
   refine⟨hW,(hK.set (Yv5 _)).trans hk',?_⟩
   rw[Yk3 (by omega) d1 d2 d3 d4 d5]at hs
   exact hs
set_option maxHeartbeats 2000000
noncomputable def A.w206:=A.q Tryz.f206
noncomputable def A.lb206_0:=A.ql A.w206 0 []
noncomputable def A.b206:=(fun x0=>A.qb A.w206 [x0]) A.lb206_0
def A.k206:=@A.kk 206 41 [.tmp 4] A.b206 (by kernel_rfl) rfl
def Zdk{a b:Nat}(h:a≤b):(wds a).length≤(wds b).length:=by
 apply Yyc
 intro hc
 have h1:=Zlr (b:=B) (Zds b)
 rw[Zbp]at h1
 have h2:∀n,n≠0→B^((wds n).length-1)≤n:=by
  intro n
  induction n using Nat.strongRecOn with
  |_ n ih=>
   intro hn
   rw[Zbq hn]
   by_cases h0:n/B=0
   ·rw[h0,Zbo];simp;omega
   ·have:=ih (n/B) (Yy8 (by omega) (by decide)) h0
    have hp:0<(wds (n/B)).length:=by rw[Zbq h0];simp
    simp only[Yv8,Nat.add_sub_cancel]
    rw[show (wds (n/B)).length=((wds (n/B)).length-1)+1 by omega,Ywx]
    have h3:B^((wds (n/B)).length-1)*B≤n/B*B:=Ywr B this
    have:=Nat.div_mul_le_self n B
    omega
 have ha:a≠0:=by
  rintro rfl
  rw[Zbo]at hc;simp at hc
 have h3:=h2 a ha
 have h4:B^(wds b).length≤B^((wds a).length-1):=Yw3 (by decide) (by omega)
 omega
structure Yug (h:T O) (N x y k:Nat) (o:List Nat) (c:Nat) (r:T V) (st:St):Prop where
 hk:k≤(wds x).length
 r14:r.get 14=some (.int .i64 k)
 r6:r.get 6=some (.int .u64 c)
 n:st.n=N+1
 w:Zaa N st.w=[]
 keep:Keeps h N st.h (N+1)
 row:st.h.get N=some (.cells (dg o) 205 true)
 len:o.length=(wds x).length
 ex:∃d,d.length=k∧o=d++List.replicate ((wds x).length-k) 0∧val B d+val B ((wds y).take k)=val B ((wds x).take k)+B^k*c∧c≤1∧Dg d
def Yvw(h:T O)(N x y m:Nat)(r:T V)(st:St):Prop:=∃k o c,m=(wds x).length-k∧Yug h N x y k o c r st
def Yvx(h:T O)(N x y:Nat)(r:T V)(st:St):Prop:=∃o c,Yug h N x y (wds x).length o c r st
def Ylo{x y o d:List Nat}{k c xk:Nat}(hx:x[k]?=some xk)(d1:d.length=k)(d2:o=d++List.replicate (x.length-k) 0)(d3:val B d+val B (y.take k)=val B (x.take k)+B^k*c)(d4:c≤1)(d5:Dg d)(gx:Dg x)(gy:Dg y):
  (d++[sb64 xk (dz y k) c]).length=k+1∧o.set k (sb64 xk (dz y k) c)=(d++[sb64 xk (dz y k) c])++List.replicate (x.length-(k+1)) 0∧val B (d++[sb64 xk (dz y k) c])+val B (y.take (k+1))=val B (x.take (k+1))+B^(k+1)*bw64 xk (dz y k) c∧bw64 xk (dz y k) c≤1∧Dg (d++[sb64 xk (dz y k) c]):=by
 have hk:k<x.length:=by
  apply Yxn;intro hc;rw[Ywd hc]at hx;cases hx
 have hxk:=gx.get hx
 have hyk:=Yrn gy k
 have hs:sb64 xk (dz y k) c+dz y k+c=xk+B*bw64 xk (dz y k) c∧sb64 xk (dz y k) c<B∧bw64 xk (dz y k) c≤1:=by
  unfold sb64 bw64
  unfold B at*
  split<;>omega
 refine⟨by simp[d1],?_,?_,hs.2.2,?_⟩
 ·rw[d2,show x.length-k=(x.length-(k+1))+1 by omega,Zqm d1]
 ·rw[Zmc,Zce,Zce,d1,show dz x k=xk by simp[dz,hx],Ywx]
  have h1:=hs.1
  generalize sb64 xk (dz y k) c=s at*
  generalize bw64 xk (dz y k) c=b at*
  generalize B^k=p at*
  have:p*(s+dz y k+c)=p*(xk+B*b):=by rw[h1]
  grind
 ·intro e he
  rcases Yxs.1 he with he|he
  ·exact d5 e he
  ·simp at he;subst he;exact hs.2.1
def Yp6{x y:Nat}{o d:List Nat}{c:Nat}(hl:y≤x)(d1:d.length=(wds x).length)(d2:o=d++List.replicate ((wds x).length-(wds x).length) 0)(d3:val B d+val B ((wds y).take (wds x).length)=val B ((wds x).take (wds x).length)+B^(wds x).length*c)(d4:c≤1)(d5:Dg d):Zhf o=wds (x-y):=by
 rw[d2,Nat.sub_self]
 simp only[List.replicate_zero,Yyb]
 rw[Zdt d5]
 congr 1
 rw[Ywe (Yv5 _),Ywe (Zdk hl),Zbp,Zbp]at d3
 have:=Zlr d5
 rw[d1]at this
 rcases Nat.lt_or_ge c 1 with hc|hc
 ·have:c=0:=by omega
  subst this
  simp at d3;omega
 ·have:c=1:=by omega
  subst this
  omega
def Zm4{h:T O}{N:Nat}{vx vy:V}{x y:Nat}(hx:Wn h N vx x)(hy:Wn h N vy y)(hxy:y≤x)(hxl:(wds x).length<1099511627776)(hyl:(wds y).length<1099511627776):Fn A.C 206 [vx,vy] h N (fun v' h' N'=>Wn h' N' v' (x-y)):=by
 intro w
 have lx:=hx.len
 have ly:=hy.len
 rw[Zaf]at lx ly
 rw[Zab,A.k206 (by simp)]
 simp(disch:=first|(simp;done)|omega|(simp only[Zaf,Zag,Yv8];omega)|rfl) [A.b206,lx,ly]
 refine Zai [(6,8),(14,38)] (fun e r st=>e=.exit 0∧Yvx h N x y r st) (Yvw h N x y) (wds x).length ?_ ?_ ?_
 ·refine⟨0,List.replicate (wds x).length 0,0,by omega,⟨by omega,by simp,by simp,by simp,by simp,Keeps.refl.set (Yv5 _) |>.up (by omega),by simp[Zg7],by simp,[],by simp,by simp,by simp[val],by decide,by simp[Dg]⟩⟩
 ·rintro m r ⟨H,n1,W⟩ hr hf ⟨k,o,c,rfl,hk,h22,h6,hn,hW,hK,hN,ho,d,hd⟩
  simp only at hn hW hK hN
  subst hn
  rw[Zah]
  by_cases hlt:k<(wds x).length
  ·obtain⟨i1,o1,c1,e1,w1,p1,p2,p3,p4⟩:=hx.at (Za9 (Yv9 hlt))
   have p3:=(hK.get _ p2).trans p3
   obtain⟨d1,d2,d3,d4,d5⟩:=hd
   have hsp:=Ylo (x:=wds x) (y:=wds y) (Yv9 hlt) d1 d2 d3 d4 d5 (Zds x) (Zds y)
   by_cases hky:k<(wds y).length
   ·obtain⟨i2,o2,c2,e2,w2,q1,q2,q3,q4⟩:=hy.at (Za9 (Yv9 hky))
    have q3:=(hK.get _ q2).trans q3
    have hz:dz (wds y) k=(wds y)[k]:=by simp[dz,Yv9 hky]
    rw[hz]at hsp
    simp(disch:=first|(simp;done)|omega|(simp only[Zaf,Zag,Yv8];omega)|rfl) [A.lb206_0,hr,h22,h6,hlt,hky,lx,ly,p1,p3,p4,q1,q3,q4,hN,Zc7,hf]
    exact⟨_,by omega,k+1,_,_,rfl,⟨by omega,by simp,by simp,rfl,by simp[hW],hK.set (Yv5 _),by simp,by simp[ho],_,hsp⟩⟩
   ·have hz:dz (wds y) k=0:=by simp[dz,Ywd (Yy2.1 hky)]
    rw[hz]at hsp
    simp(disch:=first|(simp;done)|omega|(simp only[Zaf,Zag,Yv8];omega)|rfl) [A.lb206_0,hr,h22,h6,hlt,hky,lx,ly,p1,p3,p4,hN,Zc7,hf]
    exact⟨_,by omega,k+1,_,_,rfl,⟨by omega,by simp,by simp,rfl,by simp[hW],hK.set (Yv5 _),by simp,by simp[ho],_,hsp⟩⟩
  ·have hkx:k=(wds x).length:=by omega
   subst hkx
   simp[A.lb206_0,hr,h22,hf]
   exact⟨o,c,⟨by omega,by simp[h22],by simp[h6],rfl,by simp[hW],hK,hN,ho,d,hd⟩⟩
 ·rintro _ r ⟨H,n1,W⟩ hr ⟨rfl,o,c,hk,h22,h6,hn,hW,hK,hN,ho,d,d1,d2,d3,d4,d5⟩
  simp only at hn hW hK hN
  subst hn
  simp[hr,h6,lx,hN]
  refine Zac (Zgl (l:=o) (Sl.row (e:=205) (rw:=true) (by omega) (by simp[hN]) (by simp[ho]) (by simp)) (by simp[ho];omega)) ?_
  intro v' h' n' hk' hs
  simp[Ret]
  refine⟨hW,hK.trans hk',?_⟩
  rw[Yp6 hxy d1 d2 d3 d4 d5]at hs
  exact hs
set_option maxHeartbeats 2000000
noncomputable def A.w205:=A.q Tryz.f205
noncomputable def A.lb205_0:=A.ql A.w205 0 []
noncomputable def A.b205:=(fun x0=>A.qb A.w205 [x0]) A.lb205_0
def A.k205:=@A.kk 205 41 [.tmp 4] A.b205 (by kernel_rfl) rfl
def Zvs(x y:Int):Int:=if x<y then -1 else if y<x then 1 else 0
def Ykf{x y:Nat}(h:(wds x).length<(wds y).length):x<y:=by
 apply Yxn
 intro hc
 have:=Zdk hc
 omega
def Zmd{b:Nat}{l:List Nat}{k d:Nat}(h:l[k]?=some d):val b (l.drop k)=d+b*val b (l.drop (k+1)):=by
 have hk:k<l.length:=by
  apply Yxn;intro hc;rw[Ywd hc]at h;cases h
 rw[Yyn hk]
 rw[Yv9 hk]at h
 simp only[Yv3]at h
 rw[h];rfl
def Zrq(b:Nat)(l:List Nat)(k:Nat)(hk:k≤l.length):val b l=val b (l.take k)+b^k*val b (l.drop k):=by
 have:=Zh9 b (l.take k) (l.drop k)
 rw[Yx2,Ywm,Yxh hk]at this
 exact this
def Yjv{x y:List Nat}{k:Nat}(gx:Dg x)(hx:k≤x.length)(hy:k≤y.length)(h:val B (x.drop k)<val B (y.drop k)):val B x<val B y:=by
 rw[Zrq B x k hx,Zrq B y k hy]
 have h1:val B (x.take k)<B^k:=by
  have:=Zlr (b:=B) (l:=x.take k) fun d hd=>gx d (Yxi hd)
  rwa [Ywm,Yxh hx]at this
 have h2:B^k*(val B (x.drop k)+1)≤B^k*val B (y.drop k):=Ywt _ h
 rw[Yyg]at h2
 omega
structure Yui (h:T O) (N x y m:Nat) (r:T V) (st:St):Prop where
 hm:m≤(wds x).length
 r5:r.get 5=some (.int .i64 ((m:Int)-1))
 n:st.n=N
 w:st.w=[]
 keep:Keeps h N st.h N
 top:(wds x).drop m=(wds y).drop m
def Zh4{h:T O}{N:Nat}{vx vy:V}{x y:Nat}(hx:Wn h N vx x)(hy:Wn h N vy y)(hxl:(wds x).length<1099511627776)(hyl:(wds y).length<1099511627776):Fn A.C 205 [vx,vy] h N (fun v' h' N'=>v'=.int .i64 (Zvs x y)):=by
 intro w
 have lx:=hx.len
 have ly:=hy.len
 rw[Zaf]at lx ly
 rw[Zab,A.k205 (by simp)]
 by_cases hne:(wds x).length=(wds y).length
 ·have hne':((wds x).length:Int)=((wds y).length:Int):=by omega
  simp(disch:=omega) [A.b205,lx,ly,hne]
  refine Zai [(4,5),(19,40)] (fun e r st=>(e=.exit 0∧Yui h N x y 0 r st)∨(e=.ret∧r.get 4=some (.int .i64 (Zvs x y))∧st.n=N∧st.w=[]∧Keeps h N st.h N)) (Yui h N x y) (wds x).length ?_ ?_ ?_
  ·exact⟨by omega,by simp[hne],rfl,rfl,Keeps.refl,by rw[Yw5,hne,Yw5]⟩
  ·rintro m r ⟨H,n1,W⟩ hr hf ⟨hm,h5,hn,hW,hK,ht⟩
   simp only at hn hW hK
   subst hn;subst hW
   rw[Zah]
   cases m with
   |zero=>
    simp[A.lb205_0,h5,hr,hf]
    exact⟨by omega,by simp[h5],rfl,rfl,hK,ht⟩
   |succ m=>
    have hmx:m<(wds x).length:=by omega
    have hmy:m<(wds y).length:=by omega
    have h5':r.get 5=some (.int .i64 (m:Int)):=by rw[h5];congr 2;omega
    have gx:=Yv9 hmx
    have gy:=Yv9 hmy
    obtain⟨i1,o1,c1,e1,w1,p1,p2,p3,p4⟩:=hx.at (Za9 gx)
    have p3:=(hK.get _ p2).trans p3
    obtain⟨i2,o2,c2,e2,w2,q1,q2,q3,q4⟩:=hy.at (Za9 gy)
    have q3:=(hK.get _ q2).trans q3
    rcases Nat.lt_trichotomy (wds x)[m] (wds y)[m]with hlt|heq|hgt
    ·have hlt2:x<y:=by
      have:=Yjv (x:=wds x) (y:=wds y) (k:=m) (Zds x) (by omega) (by omega) (by rw[Zmd gx,Zmd gy,ht];omega)
      rwa [Zbp,Zbp]at this
     have hne2:¬(wds x)[m]=(wds y)[m]:=by omega
     simp(disch:=first|(simp;done)|omega|(simp only[Zaf,Zag,Yv8];omega)|rfl) [A.lb205_0,h5',hr,hf,lx,ly,p1,p2,p3,p4,q1,q2,q3,q4,Zad,hne2,hlt]
     exact⟨by simp[Zvs,hlt2],hK⟩
    ·have ht':(wds x).drop m=(wds y).drop m:=by rw[Yyn hmx,Yyn hmy,ht,heq]
     simp(disch:=first|(simp;done)|omega|(simp only[Zaf,Zag,Yv8];omega)|rfl) [A.lb205_0,h5',hr,hf,lx,ly,p1,p2,p3,p4,q1,q2,q3,q4,Zad,heq]
     exact⟨m,by omega,⟨by omega,by simp,rfl,rfl,hK,ht'⟩⟩
    ·have hlt2:y<x:=by
      have:=Yjv (x:=wds y) (y:=wds x) (k:=m) (Zds y) (by omega) (by omega) (by rw[Zmd gx,Zmd gy,ht];omega)
      rwa [Zbp,Zbp]at this
     have hne2:¬(wds x)[m]=(wds y)[m]:=by omega
     have hlt:¬(wds x)[m]<(wds y)[m]:=by omega
     have hlt3:¬x<y:=by omega
     simp(disch:=first|(simp;done)|omega|(simp only[Zaf,Zag,Yv8];omega)|rfl) [A.lb205_0,h5',hr,hf,lx,ly,p1,p2,p3,p4,q1,q2,q3,q4,Zad,hne2,hlt]
     exact⟨by simp[Zvs,hlt2,hlt3],hK⟩
  ·rintro e r ⟨H,n1,W⟩ hr (⟨rfl,hm,h5,hn,hW,hK,ht⟩|⟨rfl,h4,hn,hW,hK⟩)
   ·simp only at hn hW hK
    subst hn;subst hW
    simp only[Yyv]at ht
    have:x=y:=by rw[←Zbp x,ht,Zbp]
    subst this
    simp[hr,Ret]
    exact⟨hK,by simp[Zvs]⟩
   ·simp only at hn hW hK
    subst hn;subst hW
    simp[h4,Ret]
    exact hK
 ·have hne':¬((wds x).length:Int)=((wds y).length:Int):=by omega
  by_cases hlt:(wds x).length<(wds y).length
  ·have:=Ykf hlt
   simp[A.b205,lx,ly,hne,hlt,Zad,Ret]
   exact⟨Keeps.refl,by simp[Zvs,this]⟩
  ·have h1:=Ykf (x:=y) (y:=x) (by omega)
   have h2:¬x<y:=by omega
   simp[A.b205,lx,ly,hne,hlt,Zad,Ret]
   exact⟨Keeps.refl,by simp[Zvs,h1,h2]⟩
set_option maxHeartbeats 4000000
noncomputable def A.w210:=A.q Tryz.f210
noncomputable def A.lb210_0:=A.ql A.w210 1 []
noncomputable def A.lb210_1:=(fun x0=>A.ql A.w210 0 [x0]) A.lb210_0
noncomputable def A.b210:=(fun x0=>A.qb A.w210 [x0]) A.lb210_1
def A.k210:=@A.kk 210 80 [.tmp 4] A.b210 (by kernel_rfl) rfl
def Zmy{b:Nat}:∀{l:List Nat} {k old v:Nat},l[k]?=some old→val b (l.set k v)+b^k*old=val b l+b^k*v
 |[],k,old,v,h=>by simp at h
 |d::l,0,old,v,h=>by simp at h;subst h;simp[val];omega
 |d::l,k+1,old,v,h=>by
  have ih:=Zmy (b:=b) (l:=l) (k:=k) (old:=old) (v:=v) (by simpa using h)
  simp only[List.set_cons_succ,val,Ywx]
  generalize val b (l.set k v)=p at*
  generalize val b l=q at*
  generalize b^k=z at*
  have:b*(p+z*old)=b*(q+z*v):=by rw[ih]
  grind
def Dg.set{l:List Nat}(h:Dg l){k v:Nat}(hv:v<B):Dg (l.set k v):=by
 intro d hd
 rcases Yxm hd with hd|hd
 ·exact h d hd
 ·subst hd;exact hv
def mulNew(x y o c:Nat):Nat:=lo64 (lo64 (lo64 (x*y)+o)+c)
def mulCar(x y o c:Nat):Nat:=addu (addu (hi64 (x*y)) (hi64 (lo64 (x*y)+o))) (hi64 (lo64 (lo64 (x*y)+o)+c))
def Yhp{x y o c:Nat}(hx:x<B)(hy:y<B)(ho:o<B)(hc:c<B):mulNew x y o c+B*mulCar x y o c=x*y+o+c∧mulNew x y o c<B∧mulCar x y o c<B:=by
 have:x*y≤18446744073709551615*18446744073709551615:=Yx9 (by unfold B at*;omega) (by unfold B at*;omega)
 unfold mulNew mulCar lo64 hi64 addu
 unfold B at*
 generalize x*y=p at*
 omega
structure Yuh (h:T O) (N x y i j:Nat) (o:List Nat) (c xi:Nat) (r:T V) (st:St):Prop where
 hj:j≤(wds y).length
 r29:r.get 29=some (.int .i64 j)
 r8:r.get 8=some (.int .u64 c)
 n:st.n=N+1
 w:Zaa N st.w=[]
 keep:Keeps h N st.h (N+1)
 row:st.h.get N=some (.cells (dg o) 205 true)
 len:o.length=(wds x).length+(wds y).length
 dg:Dg o
 zero:∀t,i+(wds y).length≤t→t<o.length→o[t]?=some 0
 lc:c<B
 ex:val B o+B^(i+j)*c=val B ((wds x).take i)*y+B^i*(xi*val B ((wds y).take j))
def Yvy(h:T O)(N x y i xi m:Nat)(r:T V)(st:St):Prop:=∃j o c,m=(wds y).length-j∧Yuh h N x y i j o c xi r st
def Yvz(h:T O)(N x y i xi:Nat)(r:T V)(st:St):Prop:=∃o c,Yuh h N x y i (wds y).length o c xi r st
structure Yr3 (h:T O) (N x y i:Nat) (o:List Nat) (r:T V) (st:St):Prop where
 hi:i≤(wds x).length
 r22:r.get 22=some (.int .i64 i)
 n:st.n=N+1
 w:Zaa N st.w=[]
 keep:Keeps h N st.h (N+1)
 row:st.h.get N=some (.cells (Go.Mx.dg o) 205 true)
 len:o.length=(wds x).length+(wds y).length
 dg:Dg o
 zero:∀t,i+(wds y).length≤t→t<o.length→o[t]?=some 0
 ex:val B o=val B ((wds x).take i)*y
def Yt7(h:T O)(N x y m:Nat)(r:T V)(st:St):Prop:=∃i o,m=(wds x).length-i∧Yr3 h N x y i o r st
def Yt8(h:T O)(N x y:Nat)(r:T V)(st:St):Prop:=∃o,Yr3 h N x y (wds x).length o r st
def Zuu{h:T O}{N:Nat}{vx vy:V}{x y:Nat}(hx:Wn h N vx x)(hy:Wn h N vy y)(hxl:(wds x).length<1099511627776)(hyl:(wds y).length<1099511627776):Fn A.C 210 [vx,vy] h N (fun v' h' N'=>Wn h' N' v' (x*y)):=by
 intro w
 have lx:=hx.len
 have ly:=hy.len
 rw[Zaf]at lx ly
 rw[Zab,A.k210 (by simp)]
 simp(disch:=first|(simp;done)|omega|(simp only[Zaf,Zag,Yv8];omega)|rfl) [A.b210,lx,ly]
 refine Zai [(6,13),(22,77)] (fun e r st=>e=.exit 0∧Yt8 h N x y r st) (Yt7 h N x y) (wds x).length ?_ ?_ ?_
 ·refine⟨0,List.replicate ((wds x).length+(wds y).length) 0,by omega,⟨by omega,by simp,by simp,by simp,Keeps.refl.set (Yv5 _) |>.up (by omega),?_,by simp,?_,?_,by simp[val,Zrp]⟩⟩
  ·simp[Zg7]
  ·intro d hd
   rw[Yzk]at hd
   rw[hd.2];decide
  ·intro t _ ht
   simp at ht
   simp[ht]
 ·rintro m r ⟨H,n1,W⟩ hr hf ⟨i,o,rfl,hi,h22,hn,hW,hK,hN,ho,hd,hz,he⟩
  simp only at hn hW hK hN
  subst hn
  rw[Zah]
  by_cases hlt:i<(wds x).length
  ·obtain⟨i1,o1,c1,e1,w1,p1,p2,p3,p4⟩:=hx.at (Za9 (Yv9 hlt))
   have p3:=(hK.get _ p2).trans p3
   have gx:=Yv9 hlt
   generalize (wds x)[i]=xi at*
   simp[A.lb210_1,hr,h22,hlt,lx,ly,p1,p3,p4]
   refine Zai [(8,13),(29,69)] (fun e r st=>e=.exit 2∧Yvz h N x y i xi r st) (Yvy h N x y i xi) (wds y).length ?_ ?_ ?_
   ·exact⟨0,o,0,by omega,⟨by omega,by simp,by simp,rfl,hW,hK,hN,ho,hd,hz,by decide,by simp[val,he]⟩⟩
   ·rintro m r2 ⟨H2,n2,W2⟩ hr2 hf2 ⟨j,o2,c,rfl,hj,h29,h8,hn2,hW2,hK2,hN2,ho2,hd2,hz2,hc2,he2⟩
    simp only at hn2 hW2 hK2 hN2
    subst hn2
    rw[Zah]
    have hi:xi<B:=(Zds x).get gx
    by_cases hlt2:j<(wds y).length
    ·obtain⟨i2,o3,c3,e3,w3,q1,q2,q3,q4⟩:=hy.at (Za9 (Yv9 hlt2))
     have q3:=(hK2.get _ q2).trans q3
     have gy:=Yv9 hlt2
     generalize (wds y)[j]=yj at*
     have hyj:yj<B:=(Zds y).get gy
     have go:=Yv9 (l:=o2) (i:=i+j) (by omega)
     generalize o2[i+j]'(by omega)=ov at*
     simp[A.lb210_0,hr,hr2,h29,h8,hlt2,lx,ly,q1,q3,q4,hf2]
     refine Zac (Zkd hi hyj) ?_
     rintro _ _ _ hk3 ⟨rfl,rfl,rfl⟩
     simp(disch:=first|(simp;done)|omega|(simp only[Zaf,Zag,Yv8];omega)|rfl) [-getElem?_pos,hr,hr2,h29,h8,hlt2,lx,ly,q1,q3,q4,hf2,hN2,Za9 go,Zc7]
     obtain⟨m1,m2,m3⟩:=Yhp hi hyj (hd2.get go) hc2
     refine⟨_,by omega,j+1,o2.set (i+j) (mulNew xi yj ov c),mulCar xi yj ov c,rfl,⟨by omega,by simp,?_,rfl,by simp[hW2],hK2.set (Yv5 _),?_,by simp[ho2],hd2.set m2,?_,m3,?_⟩⟩
     ·simp[mulCar]
     ·simp[mulNew]
     ·intro t t1 t2
      rw[Ywb (by omega)]
      exact hz2 t t1 (by simpa using t2)
     ·have v1:=Zmy (b:=B) (v:=mulNew xi yj ov c) go
      rw[Zb1 gy]
      have e1:B^(i+(j+1))=B^(i+j)*B:=by rw[show i+(j+1)=(i+j)+1 by omega,Ywx]
      have e2:B^i*(xi*(B^j*yj))=B^(i+j)*(xi*yj):=by rw[Yxe];grind
      have e3:B^(i+j)*(mulNew xi yj ov c+B*mulCar xi yj ov c)=B^(i+j)*(xi*yj+ov+c):=by rw[m1]
      rw[e1]
      generalize val B (List.set o2 (i+j) (mulNew xi yj ov c))=z1 at*
      generalize val B o2=z2 at*
      generalize mulNew xi yj ov c=z3 at*
      generalize mulCar xi yj ov c=z4 at*
      generalize val B (List.take j (wds y))=z5 at*
      generalize B^(i+j)=z6 at*
      grind
    ·have:j=(wds y).length:=by omega
     subst this
     simp[A.lb210_0,hr,hr2,h29,h8,hf2]
     exact⟨o2,c,⟨by omega,by simp[h29],by simp[h8],rfl,hW2,hK2,hN2,ho2,hd2,hz2,hc2,he2⟩⟩
   ·rintro e r2 ⟨H2,n2,W2⟩ hr2 ⟨rfl,o2,c,hj,h29,h8,hn2,hW2,hK2,hN2,ho2,hd2,hz2,hc2,he2⟩
    simp only at hn2 hW2 hK2 hN2
    subst hn2
    have hf2:=hf.inner (D':=[(8,13),(29,69)]) rfl (by simp) hr2
    simp(disch:=first|(simp;done)|omega|(simp only[Zaf,Zag,Yv8];omega)|rfl) [hr,hr2,h22,h8,ly,hN2,Zc7,hf2]
    have hz0:o2[i+(wds y).length]?=some 0:=hz2 _ (Yv5 _) (by omega)
    refine⟨_,by omega,i+1,o2.set (i+(wds y).length) c,rfl,⟨by omega,by simp,rfl,by simp[hW2],hK2.set (Yv5 _),by simp,by simp[ho2],hd2.set hc2,?_,?_⟩⟩
    ·intro t t1 t2
     rw[Ywb (by omega)]
     exact hz2 t (by omega) (by simpa using t2)
    ·have v1:=Zmy (b:=B) (v:=c) hz0
     rw[Ywe (Yv5 _),Zbp]at he2
     rw[Zb1 gx]
     simp only[Nat.mul_zero,Yxc]at v1
     rw[v1,he2]
     grind
  ·have:i=(wds x).length:=by omega
   subst this
   simp[A.lb210_1,hr,h22,hf]
   exact⟨o,⟨by omega,by simp[h22],rfl,hW,hK,hN,ho,hd,hz,he⟩⟩
 ·rintro _ r ⟨H,n1,W⟩ hr ⟨rfl,o,hi,h22,hn,hW,hK,hN,ho,hd,hz,he⟩
  simp only at hn hW hK hN
  subst hn
  simp[hr,hN]
  refine Zac (Zgl (l:=o) (Sl.row (e:=205) (rw:=true) (by omega) (by simp[hN]) (by simp[ho]) (by simp)) (by simp[ho];omega)) ?_
  intro v' h' n' hk' hs
  simp[Ret]
  refine⟨hW,hK.trans hk',?_⟩
  rw[Ywe (Yv5 _),Zbp]at he
  rw[Zdt hd,he]at hs
  exact hs
end Go.Mx
