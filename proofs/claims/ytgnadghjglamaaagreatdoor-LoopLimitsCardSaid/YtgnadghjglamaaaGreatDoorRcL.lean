/-lensletref01-/
import Derived.Test.YtgnadghjglamaaaGreatDoorRcG
set_option linter.all false
set_option maxHeartbeats 4000000
namespace Go.Mx
noncomputable section
open Go Go.Proofs
set_option maxRecDepth 1000000
def A.b10:=A.q Tryz.f10
def A.k10:=@A.kk 10 63 [.tmp 4] A.b10 (by kernel_rfl) rfl
def AI{a b:Rat}{j k:Nat}{h:T O}{N:Nat}(ha:Qb j a)(hb:Qb k b)(hj:j<=400000000)(hk:k<=400000000):Fn A.C 10 [.str (ax a),.str (ax b)] h N (fun u _ _=>u=.str (ax (a+b))):=by
 intro w
 obtain⟨n1,d1,o1,sh,f1⟩:=UF a
 obtain⟨n2,d2,o2,lI,f2⟩:=UF b
 have pa:=Rat.den_pos a
 have pb:=Rat.den_pos b
 rw[aV,A.k10 (by simp)]
 have key:(o1=true/\o2=true)\/(o1=false\/(o1=true/\o2=false)):=by cases o1<;>cases o2<;>simp
 rcases key with⟨rfl,rfl⟩|key
 ·obtain⟨rfl,rfl,g1⟩:=f1 rfl
  obtain⟨rfl,rfl,g2⟩:=f2 rfl
  have m1:(a.num*(b.den:Int)).natAbs<=1000000000000000000:=by rw[uI,eG];exact Rq g1.1 g2.2
  have m4:(b.num*(a.den:Int)).natAbs<=1000000000000000000:=by rw[uI,eG];exact Rq g2.1 g1.2
  have m2:a.den*b.den<=1000000000000000000:=Rq g1.2 g2.2
  have m3:0<a.den*b.den:=tH pa pb
  have e2:(a.den:Int)*(b.den:Int)=((a.den*b.den:Nat):Int):=by simp
  have w1:bn .i64 (a.num*(b.den:Int))=a.num*(b.den:Int):=cL (by omega) (by omega)
  have w3:bn .i64 (b.num*(a.den:Int))=b.num*(a.den:Int):=cL (by omega) (by omega)
  have w2:bn .i64 ((a.den:Int)*(b.den:Int))=(a.den:Int)*(b.den:Int):=by rw[e2];exact cL (by omega) (by omega)
  have w4:bn .i64 (a.num*(b.den:Int)+b.num*(a.den:Int))=a.num*(b.den:Int)+b.num*(a.den:Int):=cL (by omega) (by omega)
  have ho:=fun st=>Ymm (p:=a.num*(b.den:Int)+b.num*(a.den:Int)) (q:=(a.den:Int)*(b.den:Int)) (st:=st) (by omega) (by omega) (by omega) (by omega) (by omega)
  rw[<-Zo5]at ho
  simp(disch:=first|(simp;done)|omega|rfl) [-getElem?_pos,A.b10,sh,lI,w1,w2,w3,w4,ho,aF]
  exact ae.refl
 ·have la:=Bo ha.1
  have QD:=Io ha.2
  have lb:=Bo hb.1
  have lb2:=Io hb.2
  have z1:=uc ha.1
  have z2:=uc hb.1
  have z3:=uc ha.2
  have z4:=uc hb.2
  rcases key with rfl|⟨rfl,rfl⟩
  all_goals simp(disch:=first|(simp;done)|omega|rfl) [-getElem?_pos,A.b10,sh,lI]
  all_goals
   refine az (Rm (q:=a) (by omega) (by omega)) ?_
   rintro _ h1 t1 k1 ⟨x1,y1,rfl,X1,Y1⟩
   obtain⟨u1,rfl,p1,p2,F1⟩:=X1.py
   obtain⟨v1,rfl,p3,p4,G1⟩:=Y1.py
   unfold V.one at p1 p3
   unfold V.cells at p2 p4
   have KA:=((((ae.refl (h:=h1) (n:=t1)).new (.cells [.bool false,.aa] 92 true)).new (.cells [.bool false,.aa] 92 true)).set (i:=t1) (o:=.cells [.bool (decide (a.num<0)),u1] 92 true) (aZ _)).set (i:=t1+1) (o:=.cells [.bool (decide ((a.den:Int)<0)),v1] 92 true) (by omega)
   have c0:¬t1+1=t1:=by omega
   have c00:¬t1=t1+1:=by omega
   simp(disch:=first|(simp;done)|omega|rfl) [-getElem?_pos,p1,p2,p3,p4,bE,ag,c0]
   generalize Aw:(((h1.set t1 (.cells [.bool false,.aa] 92 true)).set (t1+1) (.cells [.bool false,.aa] 92 true)).set t1 (.cells [.bool (decide (a.num<0)),u1] 92 true)).set (t1+1) (.cells [.bool (decide ((a.den:Int)<0)),v1] 92 true)=HA at*
   have Ds:HA.get t1=some (.cells [.bool (decide (a.num<0)),u1] 92 true):=by rw[<-Aw];simp[c0,c00]
   have It:HA.get (t1+1)=some (.cells [.bool (decide ((a.den:Int)<0)),v1] 92 true):=by rw[<-Aw];simp
   have X1:=X1.ah KA
   have Y1:=Y1.ah KA
   clear Aw
   refine az (Rm (q:=b) (by omega) (by omega)) ?_
   rintro _ h2 t2 k2 ⟨x2,y2,rfl,X2,Y2⟩
   obtain⟨u2,rfl,p5,p6,F2⟩:=X2.py
   obtain⟨v2,rfl,p7,p8,G2⟩:=Y2.py
   unfold V.one at p5 p7
   unfold V.cells at p6 p8
   have KB:=((((ae.refl (h:=h2) (n:=t2)).new (.cells [.bool false,.aa] 92 true)).new (.cells [.bool false,.aa] 92 true)).set (i:=t2) (o:=.cells [.bool (decide (b.num<0)),u2] 92 true) (aZ _)).set (i:=t2+1) (o:=.cells [.bool (decide ((b.den:Int)<0)),v2] 92 true) (by omega)
   have c1:¬t2+1=t2:=by omega
   have c11:¬t2=t2+1:=by omega
   have i2:=k2.le
   generalize KP:(((h2.set t2 (.cells [.bool false,.aa] 92 true)).set (t2+1) (.cells [.bool false,.aa] 92 true)).set t2 (.cells [.bool (decide (b.num<0)),u2] 92 true)).set (t2+1) (.cells [.bool (decide ((b.den:Int)<0)),v2] 92 true)=HB at*
   have Ip:HB.get t2=some (.cells [.bool (decide (b.num<0)),u2] 92 true):=by rw[<-KP];simp[c1,c11]
   have Rt:HB.get (t2+1)=some (.cells [.bool (decide ((b.den:Int)<0)),v2] 92 true):=by rw[<-KP];simp
   have gB3:=(KB.get t1 (by omega)).trans ((k2.get t1 (by omega)).trans Ds)
   have Ru:=(KB.get (t1+1) (by omega)).trans ((k2.get (t1+1) (by omega)).trans It)
   have X1:=(X1.ah k2).ah KB
   have Y1:=(Y1.ah k2).ah KB
   have X2:=X2.ah KB
   have Y2:=Y2.ah KB
   have K2:ae h N HB (t2+1+1):=((k1.trans KA).trans k2).trans KB
   have j1:t1<t2+1+1:=by omega
   have j2:t1+1<t2+1+1:=by omega
   have j3:t2<t2+1+1:=by omega
   simp(disch:=first|(simp;done)|omega|rfl) [-getElem?_pos,p5,p6,p7,p8,bE,ag,c1,KP,Ip,Rt,gB3,Ru,aJ,aE]
   refine az (Pj X1 Y2 (by omega) (by rw[eG];omega)) ?_
   rintro _ h3 t3 k3 X3
   have i3:=k3.le
   have gC1:=(k3.get t2 (by omega)).trans Ip
   have gC2:=(k3.get (t2+1) (by omega)).trans Rt
   have UG:=(k3.get (t1+1) (by omega)).trans Ru
   simp(disch:=first|(simp;done)|omega|rfl) [-getElem?_pos,gC1,UG,aJ,aE]
   refine az (Pj (X2.ah k3) (Y1.ah k3) (by omega) (by rw[eG];omega)) ?_
   rintro _ h4 t4 k4 X4
   have i4:=k4.le
   have b1:=Rr (b:=(b.den:Int)) (k:=k) ha.1 (by rw[eG];exact hb.2)
   have b2:=Rr (b:=(a.den:Int)) (k:=j) hb.1 (by rw[eG];exact ha.2)
   rw[Nat.add_comm k j]at b2
   have m1:=uc b1
   have m2:=uc b2
   have m3:=uc (Zpt b1 b2)
   have m4:=uc (Rr (a:=(a.den:Int)) (b:=(b.den:Int)) (j:=j) (k:=k) (by rw[eG];exact ha.2) (by rw[eG];exact hb.2))
   simp(disch:=first|(simp;done)|omega|rfl) [-getElem?_pos,]
   refine az (Yjf (X3.ah k4) X4 (by omega) (by omega)) ?_
   rintro _ h5 t5 k5 X5
   have i5:=k5.le
   have gD2:=(k5.get (t2+1) (by omega)).trans ((k4.get (t2+1) (by omega)).trans gC2)
   have gD4:=(k5.get (t1+1) (by omega)).trans ((k4.get (t1+1) (by omega)).trans UG)
   simp(disch:=first|(simp;done)|omega|rfl) [-getElem?_pos,gD2,gD4,aJ,aE]
   refine az (Pj (((Y1.ah k3).ah k4).ah k5) (((Y2.ah k3).ah k4).ah k5) (by rw[eG];omega) (by rw[eG];omega)) ?_
   rintro _ h6 t6 k6 X6
   simp(disch:=first|(simp;done)|omega|rfl) [-getElem?_pos,]
   refine az (Zm9 (X5.ah k6) X6 (LL (by omega) (by omega)) (by omega) (by omega)) ?_
   rintro _ h7 t7 k7 rfl
   have j4:t2+1<t3:=by omega
   have j5:t1+1<t3:=by omega
   have j6:t2<t3:=by omega
   have j7:t2+1<t5:=by omega
   have j8:t1+1<t5:=by omega
   rw[<-Zo5]
   have i1:=k1.le
   simp(disch:=first|(simp;done)|omega|rfl) [-getElem?_pos, -aD,bU.bZ,j1,j2,j3,j4,j5,j6,j7,j8,aF]
   exact⟨Dr (by simp;omega),((((K2.trans k3).trans k4).trans k5).trans k6).trans k7⟩
def A.b210:=A.q Tryz.f210
def A.k210:=@A.kk 210 51 [.tmp 4,.tmp 5] A.b210 (by kernel_rfl) rfl
def Ymq{x y:Nat}(hx:x<18446744073709551616)(hy:y<18446744073709551616):cQ (cQ (cX (ay x 32) (ay y 32)) (ay (cQ (cX (ay x 32) (fh y)) (ay (cX (fh x) (fh y)) 32)) 32)) (ay (cQ (fh (cQ (cX (ay x 32) (fh y)) (ay (cX (fh x) (fh y)) 32))) (cX (fh x) (ay y 32))) 32)=cC (x*y):=by
 simp only[cQ,cX,ay,fh,cC,Nat.reducePow]
 have ex:x=x/4294967296*4294967296+x%4294967296:=by omega
 have ey:y=y/4294967296*4294967296+y%4294967296:=by omega
 have ry:x%4294967296<4294967296:=kW _ (by decide)
 have wU:y%4294967296<4294967296:=kW _ (by decide)
 have zn:x/4294967296<4294967296:=by omega
 have rV:y/4294967296<4294967296:=by omega
 generalize x/4294967296=x1 at*
 generalize x%4294967296=x0 at*
 generalize y/4294967296=y1 at*
 generalize y%4294967296=y0 at*
 have a1:x0*y0<=4294967295*4294967295:=jf (by omega) (by omega)
 have a2:x1*y0<=4294967295*4294967295:=jf (by omega) (by omega)
 have a3:x0*y1<=4294967295*4294967295:=jf (by omega) (by omega)
 have a4:x1*y1<=4294967295*4294967295:=jf (by omega) (by omega)
 have e:x*y=x1*y1*18446744073709551616+(x1*y0+x0*y1)*4294967296+x0*y0:=by
  subst ex;subst ey
  grind
 rw[e]
 generalize x0*y0=p at*
 generalize x1*y0=q at*
 generalize x0*y1=u at*
 generalize x1*y1=z at*
 omega
def PT{h:T O}{N:Nat}{x y:Nat}(hx:x<18446744073709551616)(hy:y<18446744073709551616):Fn A.C 210 [.int .u64 x,.int .u64 y] h N (fun v' h' N'=>h'=h/\N'=N/\v'=.aS [.int .u64 (cC (x*y):Nat),.int .u64 (bC (x*y):Nat)]):=by
 intro w
 rw[aV,A.k210 (by simp)]
 simp(disch:=first|(simp;done)|omega|(simp only[Zab,aq,ak];omega)|rfl) [-getElem?_pos,A.b210]
 rw[Ymq hx hy]
 exact⟨rfl,ae.refl,rfl,rfl,rfl⟩
def A.Rv:=A.q Tryz.f238
def A.pC:=A.ql A.Rv 0 []
def A.b238:=(fun x0=>A.qb A.Rv [x0]) A.pC
def A.k238:=@A.kk 238 21 [.tmp 2] A.b238 (by kernel_rfl) rfl
def CR{h:T O}{N:Nat}{v:V}{l:List Nat}(hs:Sl h N v (dg l))(hl:l.length<1152921504606846976):Fn A.C 238 [v] h N (fun v' h' N'=>Sl h' N' v' (dg (se l))):=by
 intro w
 have hlen:=hs.len
 rw[Zab]at hlen
 rw[aV,A.k238 (by simp)]
 simp[A.b238,hlen]
 refine c_ [(3,3),(6,17)] (fun e r st=>e=.exit 0/\st=⟨h,N,[]⟩/\∃k,k<=l.length/\r.get 3=some (.int .i64 k)/\se l=l.take k) (fun k r st=>st=⟨h,N,[]⟩/\k<=l.length/\r.get 3=some (.int .i64 k)/\se (l.take k)=se l) l.length ?_ ?_ ?_
 ·exact⟨rfl,aZ _,by simp,by simp⟩
 ·rintro k r _ hr hf ⟨rfl,hk,h3,ht⟩
  rw[dk]
  cases k with
  |zero=>
   have:se l=[]:=ht.symm
   simp[A.pC,h3,hf,this]
   exact⟨0,by omega,rfl,.inl rfl⟩
  |succ k=>
   obtain⟨d,hd⟩:∃d,l[k]?=some d:=⟨_,eA (by omega)⟩
   obtain⟨i,o,c,e,rw,q1,q2,q3,q4⟩:=hs.at (fH hd)
   have e1:l.take (k+1)=l.take k++[d]:=by rw[HY,hd];rfl
   have k1:(0:Int)<(k:Int)+1:=by omega
   have k2:(k:Int)<(l.length:Int):=by omega
   by_cases h0:d=0
   ·subst h0
    rw[e1,Zoc]at ht
    simp(disch:=first|(simp;done)|omega|(simp only[Zab,aq,ak];omega)|rfl) [-getElem?_pos,A.pC,h3,hr,hf,k1,k2,hlen,q1,q3,q4,aL]
    exact⟨k,by omega,by omega,rfl,ht⟩
   ·rw[e1,Zod h0]at ht
    have hz:((d:Int)==0)=false:=by simp;omega
    simp(disch:=first|(simp;done)|omega|(simp only[Zab,aq,ak];omega)|rfl) [-getElem?_pos,A.pC,h3,hr,hf,k1,k2,hlen,q1,q3,q4,aL,hz]
    exact⟨k+1,hk,rfl,by rw[e1];exact ht.symm⟩
 ·rintro _ r _ hr ⟨rfl,rfl,k,hk,h3,ht⟩
  simp[hr,h3,M7,aC]
  obtain⟨v',e1,e2⟩:=RS (w:=[]) hs (lo:=0) (hi:=k) (xW _) (by rw[Zab];exact hk) none (some (.int .i64 k)) (.inr ⟨rfl,rfl⟩) (.inl rfl)
  rw[e1]
  simp[aF]
  refine⟨ae.refl,?_⟩
  rw[ht,show dg (l.take k)=(dg l).take k by simp[dg]]
  exact e2
def A.Rw:=A.q Tryz.f222
def A.gh:=A.ql A.Rw 0 []
def A.b222:=(fun x0=>A.qb A.Rw [x0]) A.gh
def A.k222:=@A.kk 222 54 [.tmp 4] A.b222 (by kernel_rfl) rfl
structure Yp6 (h:T O) (N x y k:Nat) (o:List Nat) (c:Nat) (r:T V) (st:St):Prop where
 hk:k<=(aN x).length
 r22:r.get 22=some (.int .i64 k)
 r6:r.get 6=some (.int .u64 c)
 n:st.n=N+1
 w:aD N st.w=[]
 ah:ae h N st.h (N+1)
 row:st.h.get N=some (.cells (dg o) 217 true)
 len:o.length=(aN x).length+1
 ex:∃d,d.length=k/\o=d++List.replicate ((aN x).length+1-k) 0/\val B d+B^k*c=val B ((aN x).take k)+val B ((aN y).take k)/\c<=1/\Dg d
def Yp7(h:T O)(N x y m:Nat)(r:T V)(st:St):Prop:=∃k o c,m=(aN x).length-k/\Yp6 h N x y k o c r st
def Yp8(h:T O)(N x y:Nat)(r:T V)(st:St):Prop:=∃o c,Yp6 h N x y (aN x).length o c r st
def Ydt{x y o d:List Nat}{k c xk:Nat}(hx:x[k]?=some xk)(d1:d.length=k)(d2:o=d++List.replicate (x.length+1-k) 0)(d3:val B d+B^k*c=val B (x.take k)+val B (y.take k))(d4:c<=1)(d5:Dg d)(gx:Dg x)(gy:Dg y):
  (d++[bC (xk+dz y k+c)]).length=k+1/\o.set k (bC (xk+dz y k+c))=(d++[bC (xk+dz y k+c)])++List.replicate (x.length+1-(k+1)) 0/\val B (d++[bC (xk+dz y k+c)])+B^(k+1)*cC (xk+dz y k+c)=val B (x.take (k+1))+val B (y.take (k+1))/\cC (xk+dz y k+c)<=1/\Dg (d++[bC (xk+dz y k+c)]):=by
 have hk:k<x.length:=by
  apply tV;intro hc;rw[mb hc]at hx;cases hx
 have hxk:=gx.get hx
 have hyk:=Ync gy k
 have hm:=tW (xk+dz y k+c) B
 refine⟨by simp[d1],?_,?_,?_,?_⟩
 ·rw[d2,show x.length+1-k=(x.length-k)+1 by omega,Zpi d1,show x.length+1-(k+1)=x.length-k by omega]
 ·rw[TH,CN,CN,d1,show dz x k=xk by simp[dz,hx]]
  have e1:bC (xk+dz y k+c)=(xk+dz y k+c)%B:=rfl
  have e2:cC (xk+dz y k+c)=(xk+dz y k+c)/B:=rfl
  rw[e1,e2,fO]
  generalize (xk+dz y k+c)%B=lo at*
  generalize (xk+dz y k+c)/B=hi at*
  generalize B^k=p at*
  have:p*(B*hi+lo)=p*(xk+dz y k+c):=by rw[hm]
  grind
 ·show (xk+dz y k+c)/B<=1
  unfold B at*;omega
 ·intro e he
  rcases l7.1 he with he|he
  ·exact d5 e he
  ·simp at he;subst he;exact kW _ (by decide)
def Yib{x y:Nat}{o d:List Nat}{c:Nat}(hl:(aN y).length<=(aN x).length)(d1:d.length=(aN x).length)(d2:o=d++List.replicate ((aN x).length+1-(aN x).length) 0)(d3:val B d+B^(aN x).length*c=val B ((aN x).take (aN x).length)+val B ((aN y).take (aN x).length))(d4:c<=1)(d5:Dg d):se (o.set (aN x).length c)=aN (x+y):=by
 rw[d2,show (aN x).length+1-(aN x).length=0+1 by omega,Zpi d1]
 simp only[List.replicate_zero,AD]
 rw[CO,TH,d1,d3,iP (aZ _),iP hl,mB,mB]
 intro e he
 rcases l7.1 he with he|he
 ·exact d5 e he
 ·simp at he;subst he;unfold B;omega
def Zur{h:T O}{N:Nat}{vx vy:V}{x y:Nat}(hx:Wn h N vx x)(hy:Wn h N vy y)(BV:(aN x).length<1099511627776)(OL:(aN y).length<1099511627776):Fn A.C 222 [vx,vy] h N (fun v' h' N'=>Wn h' N' v' (x+y)):=by
 intro w
 have lx:=hx.len
 have ly:=hy.len
 rw[Zab]at lx ly
 rw[aV,A.k222 (by simp)]
 by_cases hl:(aN x).length<(aN y).length
 ·simp(disch:=first|(simp;done)|omega|(simp only[Zab,aq,ak];omega)|rfl) [-getElem?_pos,A.b222,lx,ly,hl]
  refine c_ [(6,8),(22,46)] (fun e r st=>e=.exit 0/\Yp8 h N y x r st) (Yp7 h N y x) (aN y).length ?_ ?_ ?_
  ·refine⟨0,List.replicate ((aN y).length+1) 0,0,by omega,⟨by omega,by simp,by simp,by simp,by simp,ae.refl.set (aZ _) |>.up (by omega),by simp[JO],by simp,[],by simp,by simp,by simp[val],by decide,by simp[Dg]⟩⟩
  ·rintro m r ⟨H,n1,W⟩ hr hf ⟨k,o,c,rfl,hk,oG,h6,hn,hW,hK,hN,ho,d,hd⟩
   simp only at hn hW hK hN
   subst hn
   rw[dk]
   by_cases aP:k<(aN y).length
   ·obtain⟨i1,o1,c1,e1,w1,p1,p2,p3,p4⟩:=hy.at (fH (eA aP))
    have p3:=(hK.get _ p2).trans p3
    obtain⟨d1,d2,d3,d4,d5⟩:=hd
    have lh:=Ydt (x:=aN y) (y:=aN x) (eA aP) d1 d2 d3 d4 d5 (rb y) (rb x)
    by_cases pU:k<(aN x).length
    ·obtain⟨i2,o2,c2,e2,w2,q1,q2,q3,q4⟩:=hx.at (fH (eA pU))
     have q3:=(hK.get _ q2).trans q3
     have hz:dz (aN x) k=(aN x)[k]:=by simp[dz,eA pU]
     rw[hz]at lh
     simp(disch:=first|(simp;done)|omega|(simp only[Zab,aq,ak];omega)|rfl) [-getElem?_pos,A.gh,hr,oG,h6,aP,pU,ly,lx,p1,p3,p4,q1,q3,q4,hN,pw,hf]
     exact⟨_,by omega,k+1,_,_,rfl,⟨by omega,by simp,by simp,rfl,by simp[hW],hK.set (aZ _),by simp,by simp[ho],_,lh⟩⟩
    ·have hz:dz (aN x) k=0:=by simp[dz,mb (xC.1 pU)]
     rw[hz]at lh
     simp(disch:=first|(simp;done)|omega|(simp only[Zab,aq,ak];omega)|rfl) [-getElem?_pos,A.gh,hr,oG,h6,aP,pU,ly,lx,p1,p3,p4,hN,pw,hf]
     exact⟨_,by omega,k+1,_,_,rfl,⟨by omega,by simp,by simp,rfl,by simp[hW],hK.set (aZ _),by simp,by simp[ho],_,lh⟩⟩
   ·have Rx:k=(aN y).length:=by omega
    subst Rx
    simp(disch:=first|(simp;done)|omega|(simp only[Zab,aq,ak];omega)|rfl) [-getElem?_pos,A.gh,hr,oG,hf]
    exact⟨o,c,⟨by omega,by simp[oG],by simp[h6],rfl,by simp[hW],hK,hN,ho,d,hd⟩⟩
  ·rintro _ r ⟨H,n1,W⟩ hr ⟨rfl,o,c,hk,oG,h6,hn,hW,hK,hN,ho,d,d1,d2,d3,d4,d5⟩
   simp only at hn hW hK hN
   subst hn
   simp(disch:=first|(simp;done)|omega|(simp only[Zab,aq,ak];omega)|rfl) [-getElem?_pos,hr,h6,ly,hN,pw]
   refine az (CR (l:=o.set (aN y).length c) (Sl.row (e:=217) (rw:=true) (by omega) (by simp) (by simp[ho]) (by simp)) (by simp[ho];omega)) ?_
   intro v' h' n' mi hs
   simp(disch:=first|(simp;done)|omega|(simp only[Zab,aq,ak];omega)|rfl) [-getElem?_pos,aF]
   refine⟨hW,(hK.set (aZ _)).trans mi,?_⟩
   rw[Yib (by omega) d1 d2 d3 d4 d5]at hs
   exact(Nat.add_comm y x▸hs)
 ·simp(disch:=first|(simp;done)|omega|(simp only[Zab,aq,ak];omega)|rfl) [-getElem?_pos,A.b222,lx,ly,hl]
  refine c_ [(6,8),(22,46)] (fun e r st=>e=.exit 0/\Yp8 h N x y r st) (Yp7 h N x y) (aN x).length ?_ ?_ ?_
  ·refine⟨0,List.replicate ((aN x).length+1) 0,0,by omega,⟨by omega,by simp,by simp,by simp,by simp,ae.refl.set (aZ _) |>.up (by omega),by simp[JO],by simp,[],by simp,by simp,by simp[val],by decide,by simp[Dg]⟩⟩
  ·rintro m r ⟨H,n1,W⟩ hr hf ⟨k,o,c,rfl,hk,oG,h6,hn,hW,hK,hN,ho,d,hd⟩
   simp only at hn hW hK hN
   subst hn
   rw[dk]
   by_cases aP:k<(aN x).length
   ·obtain⟨i1,o1,c1,e1,w1,p1,p2,p3,p4⟩:=hx.at (fH (eA aP))
    have p3:=(hK.get _ p2).trans p3
    obtain⟨d1,d2,d3,d4,d5⟩:=hd
    have lh:=Ydt (x:=aN x) (y:=aN y) (eA aP) d1 d2 d3 d4 d5 (rb x) (rb y)
    by_cases pU:k<(aN y).length
    ·obtain⟨i2,o2,c2,e2,w2,q1,q2,q3,q4⟩:=hy.at (fH (eA pU))
     have q3:=(hK.get _ q2).trans q3
     have hz:dz (aN y) k=(aN y)[k]:=by simp[dz,eA pU]
     rw[hz]at lh
     simp(disch:=first|(simp;done)|omega|(simp only[Zab,aq,ak];omega)|rfl) [-getElem?_pos,A.gh,hr,oG,h6,aP,pU,lx,ly,p1,p3,p4,q1,q3,q4,hN,pw,hf]
     exact⟨_,by omega,k+1,_,_,rfl,⟨by omega,by simp,by simp,rfl,by simp[hW],hK.set (aZ _),by simp,by simp[ho],_,lh⟩⟩
    ·have hz:dz (aN y) k=0:=by simp[dz,mb (xC.1 pU)]
     rw[hz]at lh
     simp(disch:=first|(simp;done)|omega|(simp only[Zab,aq,ak];omega)|rfl) [-getElem?_pos,A.gh,hr,oG,h6,aP,pU,lx,ly,p1,p3,p4,hN,pw,hf]
     exact⟨_,by omega,k+1,_,_,rfl,⟨by omega,by simp,by simp,rfl,by simp[hW],hK.set (aZ _),by simp,by simp[ho],_,lh⟩⟩
   ·have Rx:k=(aN x).length:=by omega
    subst Rx
    simp(disch:=first|(simp;done)|omega|(simp only[Zab,aq,ak];omega)|rfl) [-getElem?_pos,A.gh,hr,oG,hf]
    exact⟨o,c,⟨by omega,by simp[oG],by simp[h6],rfl,by simp[hW],hK,hN,ho,d,hd⟩⟩
  ·rintro _ r ⟨H,n1,W⟩ hr ⟨rfl,o,c,hk,oG,h6,hn,hW,hK,hN,ho,d,d1,d2,d3,d4,d5⟩
   simp only at hn hW hK hN
   subst hn
   simp(disch:=first|(simp;done)|omega|(simp only[Zab,aq,ak];omega)|rfl) [-getElem?_pos,hr,h6,lx,hN,pw]
   refine az (CR (l:=o.set (aN x).length c) (Sl.row (e:=217) (rw:=true) (by omega) (by simp) (by simp[ho]) (by simp)) (by simp[ho];omega)) ?_
   intro v' h' n' mi hs
   simp(disch:=first|(simp;done)|omega|(simp only[Zab,aq,ak];omega)|rfl) [-getElem?_pos,aF]
   refine⟨hW,(hK.set (aZ _)).trans mi,?_⟩
   rw[Yib (by omega) d1 d2 d3 d4 d5]at hs
   exact hs
def A.Ry:=A.q Tryz.f224
def A.nF:=A.ql A.Ry 0 []
def A.b224:=(fun x0=>A.qb A.Ry [x0]) A.nF
def A.k224:=@A.kk 224 41 [.tmp 4] A.b224 (by kernel_rfl) rfl
def Es{a b:Nat}(h:a<=b):(aN a).length<=(aN b).length:=by
 apply yl
 intro hc
 have h1:=Eo (b:=B) (rb b)
 rw[mB]at h1
 have h2:∀n,n≠0->B^((aN n).length-1)<=n:=by
  intro n
  induction n using Nat.strongRecOn with
  |_ n ih=>
   intro hn
   rw[mW hn]
   by_cases h0:n/B=0
   ·rw[h0,q_];simp;omega
   ·have:=ih (n/B) (B7 (by omega) (by decide)) h0
    have hp:0<(aN (n/B)).length:=by rw[mW h0];simp
    simp only[ak,Nat.add_sub_cancel]
    rw[show (aN (n/B)).length=((aN (n/B)).length-1)+1 by omega,fO]
    have h3:B^((aN (n/B)).length-1)*B<=n/B*B:=ky B this
    have:=Nat.div_mul_le_self n B
    omega
 have ha:a≠0:=by
  rintro rfl
  rw[q_]at hc;simp at hc
 have h3:=h2 a ha
 have h4:B^(aN b).length<=B^((aN a).length-1):=pc (by decide) (by omega)
 omega
structure Yp3 (h:T O) (N x y k:Nat) (o:List Nat) (c:Nat) (r:T V) (st:St):Prop where
 hk:k<=(aN x).length
 MA:r.get 14=some (.int .i64 k)
 r6:r.get 6=some (.int .u64 c)
 n:st.n=N+1
 w:aD N st.w=[]
 ah:ae h N st.h (N+1)
 row:st.h.get N=some (.cells (dg o) 217 true)
 len:o.length=(aN x).length
 ex:∃d,d.length=k/\o=d++List.replicate ((aN x).length-k) 0/\val B d+val B ((aN y).take k)=val B ((aN x).take k)+B^k*c/\c<=1/\Dg d
def Yri(h:T O)(N x y m:Nat)(r:T V)(st:St):Prop:=∃k o c,m=(aN x).length-k/\Yp3 h N x y k o c r st
def Yrj(h:T O)(N x y:Nat)(r:T V)(st:St):Prop:=∃o c,Yp3 h N x y (aN x).length o c r st
def Yis{x y o d:List Nat}{k c xk:Nat}(hx:x[k]?=some xk)(d1:d.length=k)(d2:o=d++List.replicate (x.length-k) 0)(d3:val B d+val B (y.take k)=val B (x.take k)+B^k*c)(d4:c<=1)(d5:Dg d)(gx:Dg x)(gy:Dg y):
  (d++[eJ xk (dz y k) c]).length=k+1/\o.set k (eJ xk (dz y k) c)=(d++[eJ xk (dz y k) c])++List.replicate (x.length-(k+1)) 0/\val B (d++[eJ xk (dz y k) c])+val B (y.take (k+1))=val B (x.take (k+1))+B^(k+1)*fL xk (dz y k) c/\fL xk (dz y k) c<=1/\Dg (d++[eJ xk (dz y k) c]):=by
 have hk:k<x.length:=by
  apply tV;intro hc;rw[mb hc]at hx;cases hx
 have hxk:=gx.get hx
 have hyk:=Ync gy k
 have hs:eJ xk (dz y k) c+dz y k+c=xk+B*fL xk (dz y k) c/\eJ xk (dz y k) c<B/\fL xk (dz y k) c<=1:=by
  unfold eJ fL
  unfold B at*
  split<;>omega
 refine⟨by simp[d1],?_,?_,hs.2.2,?_⟩
 ·rw[d2,show x.length-k=(x.length-(k+1))+1 by omega,Zpi d1]
 ·rw[TH,CN,CN,d1,show dz x k=xk by simp[dz,hx],fO]
  have h1:=hs.1
  generalize eJ xk (dz y k) c=s at*
  generalize fL xk (dz y k) c=b at*
  generalize B^k=p at*
  have:p*(s+dz y k+c)=p*(xk+B*b):=by rw[h1]
  grind
 ·intro e he
  rcases l7.1 he with he|he
  ·exact d5 e he
  ·simp at he;subst he;exact hs.2.1
def Yl4{x y:Nat}{o d:List Nat}{c:Nat}(hl:y<=x)(d1:d.length=(aN x).length)(d2:o=d++List.replicate ((aN x).length-(aN x).length) 0)(d3:val B d+val B ((aN y).take (aN x).length)=val B ((aN x).take (aN x).length)+B^(aN x).length*c)(d4:c<=1)(d5:Dg d):se o=aN (x-y):=by
 rw[d2,Nat.sub_self]
 simp only[List.replicate_zero,AD]
 rw[CO d5]
 congr 1
 rw[iP (aZ _),iP (Es hl),mB,mB]at d3
 have:=Eo d5
 rw[d1]at this
 rcases Nat.lt_or_ge c 1 with hc|hc
 ·have:c=0:=by omega
  subst this
  simp at d3;omega
 ·have:c=1:=by omega
  subst this
  omega
def Zme{h:T O}{N:Nat}{vx vy:V}{x y:Nat}(hx:Wn h N vx x)(hy:Wn h N vy y)(Uk:y<=x)(BV:(aN x).length<1099511627776)(OL:(aN y).length<1099511627776):Fn A.C 224 [vx,vy] h N (fun v' h' N'=>Wn h' N' v' (x-y)):=by
 intro w
 have lx:=hx.len
 have ly:=hy.len
 rw[Zab]at lx ly
 rw[aV,A.k224 (by simp)]
 simp(disch:=first|(simp;done)|omega|(simp only[Zab,aq,ak];omega)|rfl) [-getElem?_pos,A.b224,lx,ly]
 refine c_ [(6,8),(14,38)] (fun e r st=>e=.exit 0/\Yrj h N x y r st) (Yri h N x y) (aN x).length ?_ ?_ ?_
 ·refine⟨0,List.replicate (aN x).length 0,0,by omega,⟨by omega,by simp,by simp,by simp,by simp,ae.refl.set (aZ _) |>.up (by omega),by simp[JO],by simp,[],by simp,by simp,by simp[val],by decide,by simp[Dg]⟩⟩
 ·rintro m r ⟨H,n1,W⟩ hr hf ⟨k,o,c,rfl,hk,oG,h6,hn,hW,hK,hN,ho,d,hd⟩
  simp only at hn hW hK hN
  subst hn
  rw[dk]
  by_cases aP:k<(aN x).length
  ·obtain⟨i1,o1,c1,e1,w1,p1,p2,p3,p4⟩:=hx.at (fH (eA aP))
   have p3:=(hK.get _ p2).trans p3
   obtain⟨d1,d2,d3,d4,d5⟩:=hd
   have lh:=Yis (x:=aN x) (y:=aN y) (eA aP) d1 d2 d3 d4 d5 (rb x) (rb y)
   by_cases pU:k<(aN y).length
   ·obtain⟨i2,o2,c2,e2,w2,q1,q2,q3,q4⟩:=hy.at (fH (eA pU))
    have q3:=(hK.get _ q2).trans q3
    have hz:dz (aN y) k=(aN y)[k]:=by simp[dz,eA pU]
    rw[hz]at lh
    simp(disch:=first|(simp;done)|omega|(simp only[Zab,aq,ak];omega)|rfl) [-getElem?_pos,A.nF,hr,oG,h6,aP,pU,lx,ly,p1,p3,p4,q1,q3,q4,hN,pw,hf]
    exact⟨_,by omega,k+1,_,_,rfl,⟨by omega,by simp,by simp,rfl,by simp[hW],hK.set (aZ _),by simp,by simp[ho],_,lh⟩⟩
   ·have hz:dz (aN y) k=0:=by simp[dz,mb (xC.1 pU)]
    rw[hz]at lh
    simp(disch:=first|(simp;done)|omega|(simp only[Zab,aq,ak];omega)|rfl) [-getElem?_pos,A.nF,hr,oG,h6,aP,pU,lx,ly,p1,p3,p4,hN,pw,hf]
    exact⟨_,by omega,k+1,_,_,rfl,⟨by omega,by simp,by simp,rfl,by simp[hW],hK.set (aZ _),by simp,by simp[ho],_,lh⟩⟩
  ·have Rx:k=(aN x).length:=by omega
   subst Rx
   simp(disch:=first|(simp;done)|omega|(simp only[Zab,aq,ak];omega)|rfl) [-getElem?_pos,A.nF,hr,oG,hf]
   exact⟨o,c,⟨by omega,by simp[oG],by simp[h6],rfl,by simp[hW],hK,hN,ho,d,hd⟩⟩
 ·rintro _ r ⟨H,n1,W⟩ hr ⟨rfl,o,c,hk,oG,h6,hn,hW,hK,hN,ho,d,d1,d2,d3,d4,d5⟩
  simp only at hn hW hK hN
  subst hn
  simp(disch:=first|(simp;done)|omega|(simp only[Zab,aq,ak];omega)|rfl) [-getElem?_pos,hr,h6,lx,hN]
  refine az (CR (l:=o) (Sl.row (e:=217) (rw:=true) (by omega) (by simp[hN]) (by simp[ho]) (by simp)) (by simp[ho];omega)) ?_
  intro v' h' n' mi hs
  simp(disch:=first|(simp;done)|omega|(simp only[Zab,aq,ak];omega)|rfl) [-getElem?_pos,aF]
  refine⟨hW,hK.trans mi,?_⟩
  rw[Yl4 Uk d1 d2 d3 d4 d5]at hs
  exact hs
def A.P2:=A.q Tryz.f223
def A.jX:=A.ql A.P2 0 []
def A.b223:=(fun x0=>A.qb A.P2 [x0]) A.jX
def A.k223:=@A.kk 223 41 [.tmp 4] A.b223 (by kernel_rfl) rfl
def vE(x y:Int):Int:=if x<y then -1 else if y<x then 1 else 0
def Yhr{x y:Nat}(h:(aN x).length<(aN y).length):x<y:=by
 apply tV
 intro hc
 have:=Es hc
 omega
def TS{b:Nat}{l:List Nat}{k d:Nat}(h:l[k]?=some d):val b (l.drop k)=d+b*val b (l.drop (k+1)):=by
 have hk:k<l.length:=by
  apply tV;intro hc;rw[mb hc]at h;cases h
 rw[IT hk]
 rw[eA hk]at h
 simp only[au]at h
 rw[h];rfl
def Zqh(b:Nat)(l:List Nat)(k:Nat)(hk:k<=l.length):val b l=val b (l.take k)+b^k*val b (l.drop k):=by
 have:=TG b (l.take k) (l.drop k)
 rw[A6,lW,pA hk]at this
 exact this
def Yhe{x y:List Nat}{k:Nat}(gx:Dg x)(hx:k<=x.length)(hy:k<=y.length)(h:val B (x.drop k)<val B (y.drop k)):val B x<val B y:=by
 rw[Zqh B x k hx,Zqh B y k hy]
 have h1:val B (x.take k)<B^k:=by
  have:=Eo (b:=B) (l:=x.take k) fun d hd=>gx d (B0 hd)
  rwa [lW,pA hx]at this
 have h2:B^k*(val B (x.drop k)+1)<=B^k*val B (y.drop k):=je _ h
 rw[nL]at h2
 omega
structure Yp5 (h:T O) (N x y m:Nat) (r:T V) (st:St):Prop where
 hm:m<=(aN x).length
 r5:r.get 5=some (.int .i64 ((m:Int)-1))
 n:st.n=N
 w:st.w=[]
 ah:ae h N st.h N
 top:(aN x).drop m=(aN y).drop m
def Zhi{h:T O}{N:Nat}{vx vy:V}{x y:Nat}(hx:Wn h N vx x)(hy:Wn h N vy y)(BV:(aN x).length<1099511627776)(OL:(aN y).length<1099511627776):Fn A.C 223 [vx,vy] h N (fun v' h' N'=>v'=.int .i64 (vE x y)):=by
 intro w
 have lx:=hx.len
 have ly:=hy.len
 rw[Zab]at lx ly
 rw[aV,A.k223 (by simp)]
 by_cases bF:(aN x).length=(aN y).length
 ·have zeg:((aN x).length:Int)=((aN y).length:Int):=by omega
  simp(disch:=first|(simp;done)|omega|(simp only[Zab,aq,ak];omega)|rfl) [-getElem?_pos,A.b223,lx,ly,bF]
  refine c_ [(4,5),(19,40)] (fun e r st=>(e=.exit 0/\Yp5 h N x y 0 r st)\/(e=.ret/\r.get 4=some (.int .i64 (vE x y))/\st.n=N/\st.w=[]/\ae h N st.h N)) (Yp5 h N x y) (aN x).length ?_ ?_ ?_
  ·exact⟨by omega,by simp[bF],rfl,rfl,ae.refl,by rw[vR,bF,vR]⟩
  ·rintro m r ⟨H,n1,W⟩ hr hf ⟨hm,h5,hn,hW,hK,ht⟩
   simp only at hn hW hK
   subst hn;subst hW
   rw[dk]
   cases m with
   |zero=>
    simp(disch:=first|(simp;done)|omega|(simp only[Zab,aq,ak];omega)|rfl) [-getElem?_pos,A.jX,h5,hr,hf]
    exact⟨by omega,by simp[h5],rfl,rfl,hK,ht⟩
   |succ m=>
    have dP:m<(aN x).length:=by omega
    have hmy:m<(aN y).length:=by omega
    have h5':r.get 5=some (.int .i64 (m:Int)):=by rw[h5];congr 2;omega
    have gx:=eA dP
    have gy:=eA hmy
    obtain⟨i1,o1,c1,e1,w1,p1,p2,p3,p4⟩:=hx.at (fH gx)
    have p3:=(hK.get _ p2).trans p3
    obtain⟨i2,o2,c2,e2,w2,q1,q2,q3,q4⟩:=hy.at (fH gy)
    have q3:=(hK.get _ q2).trans q3
    rcases Nat.lt_trichotomy (aN x)[m] (aN y)[m]with aP|heq|Md
    ·have fm:x<y:=by
      have:=Yhe (x:=aN x) (y:=aN y) (k:=m) (rb x) (by omega) (by omega) (by rw[TS gx,TS gy,ht];omega)
      rwa [mB,mB]at this
     have jT:¬(aN x)[m]=(aN y)[m]:=by omega
     simp(disch:=first|(simp;done)|omega|(simp only[Zab,aq,ak];omega)|rfl) [-getElem?_pos,A.jX,h5',hr,hf,lx,ly,p1,p2,p3,p4,q1,q2,q3,q4,aL,jT,aP]
     exact⟨by simp[vE,fm],hK⟩
    ·have PY:(aN x).drop m=(aN y).drop m:=by rw[IT dP,IT hmy,ht,heq]
     simp(disch:=first|(simp;done)|omega|(simp only[Zab,aq,ak];omega)|rfl) [-getElem?_pos,A.jX,h5',hr,hf,lx,ly,p1,p2,p3,p4,q1,q2,q3,q4,aL,heq]
     exact⟨m,by omega,⟨by omega,by simp,rfl,rfl,hK,PY⟩⟩
    ·have fm:y<x:=by
      have:=Yhe (x:=aN y) (y:=aN x) (k:=m) (rb y) (by omega) (by omega) (by rw[TS gx,TS gy,ht];omega)
      rwa [mB,mB]at this
     have jT:¬(aN x)[m]=(aN y)[m]:=by omega
     have aP:¬(aN x)[m]<(aN y)[m]:=by omega
     have Ah:¬x<y:=by omega
     simp(disch:=first|(simp;done)|omega|(simp only[Zab,aq,ak];omega)|rfl) [-getElem?_pos,A.jX,h5',hr,hf,lx,ly,p1,p2,p3,p4,q1,q2,q3,q4,aL,jT,aP]
     exact⟨by simp[vE,fm,Ah],hK⟩
  ·rintro e r ⟨H,n1,W⟩ hr (⟨rfl,hm,h5,hn,hW,hK,ht⟩|⟨rfl,h4,hn,hW,hK⟩)
   ·simp only at hn hW hK
    subst hn;subst hW
    simp only[AA]at ht
    have:x=y:=by rw[<-mB x,ht,mB]
    subst this
    simp(disch:=first|(simp;done)|omega|(simp only[Zab,aq,ak];omega)|rfl) [-getElem?_pos,hr,aF]
    exact⟨hK,by simp[vE]⟩
   ·simp only at hn hW hK
    subst hn;subst hW
    simp(disch:=first|(simp;done)|omega|(simp only[Zab,aq,ak];omega)|rfl) [-getElem?_pos,h4,aF]
    exact hK
 ·have zeg:¬((aN x).length:Int)=((aN y).length:Int):=by omega
  by_cases aP:(aN x).length<(aN y).length
  ·have:=Yhr aP
   simp(disch:=first|(simp;done)|omega|(simp only[Zab,aq,ak];omega)|rfl) [-getElem?_pos,A.b223,lx,ly,bF,aP,aL,aF]
   exact⟨ae.refl,by simp[vE,this]⟩
  ·have h1:=Yhr (x:=y) (y:=x) (by omega)
   have h2:¬x<y:=by omega
   simp(disch:=first|(simp;done)|omega|(simp only[Zab,aq,ak];omega)|rfl) [-getElem?_pos,A.b223,lx,ly,bF,aP,aL,aF]
   exact⟨ae.refl,by simp[vE,h1,h2]⟩
def A.J3:=A.q Tryz.f214
def A.ri:=A.ql A.J3 1 []
def A.rj:=(fun x0=>A.ql A.J3 0 [x0]) A.ri
def A.b214:=(fun x0=>A.qb A.J3 [x0]) A.rj
def A.k214:=@A.kk 214 80 [.tmp 4] A.b214 (by kernel_rfl) rfl
def P3{b:Nat}:∀{l:List Nat} {k old v:Nat},l[k]?=some old->val b (l.set k v)+b^k*old=val b l+b^k*v
 |[],k,old,v,h=>by simp at h
 |d::l,0,old,v,h=>by simp at h;subst h;simp[val];omega
 |d::l,k+1,old,v,h=>by
  have ih:=P3 (b:=b) (l:=l) (k:=k) (old:=old) (v:=v) (by simpa using h)
  simp only[List.set_cons_succ,val,fO]
  generalize val b (l.set k v)=p at*
  generalize val b l=q at*
  generalize b^k=z at*
  have:b*(p+z*old)=b*(q+z*v):=by rw[ih]
  grind
def Dg.set{l:List Nat}(h:Dg l){k v:Nat}(hv:v<B):Dg (l.set k v):=by
 intro d hd
 rcases Dh hd with hd|hd
 ·exact h d hd
 ·subst hd;exact hv
def gb(x y o c:Nat):Nat:=bC (bC (bC (x*y)+o)+c)
def jr(x y o c:Nat):Nat:=cQ (cQ (cC (x*y)) (cC (bC (x*y)+o))) (cC (bC (bC (x*y)+o)+c))
def Yfm{x y o c:Nat}(hx:x<B)(hy:y<B)(ho:o<B)(hc:c<B):gb x y o c+B*jr x y o c=x*y+o+c/\gb x y o c<B/\jr x y o c<B:=by
 have:x*y<=18446744073709551615*18446744073709551615:=jf (by unfold B at*;omega) (by unfold B at*;omega)
 unfold gb jr bC cC cQ
 unfold B at*
 generalize x*y=p at*
 omega
structure Yp4 (h:T O) (N x y i j:Nat) (o:List Nat) (c xi:Nat) (r:T V) (st:St):Prop where
 hj:j<=(aN y).length
 r29:r.get 29=some (.int .i64 j)
 r8:r.get 8=some (.int .u64 c)
 n:st.n=N+1
 w:aD N st.w=[]
 ah:ae h N st.h (N+1)
 row:st.h.get N=some (.cells (dg o) 217 true)
 len:o.length=(aN x).length+(aN y).length
 dg:Dg o
 zero:∀t,i+(aN y).length<=t->t<o.length->o[t]?=some 0
 lc:c<B
 ex:val B o+B^(i+j)*c=val B ((aN x).take i)*y+B^i*(xi*val B ((aN y).take j))
def Yrm(h:T O)(N x y i xi m:Nat)(r:T V)(st:St):Prop:=∃j o c,m=(aN y).length-j/\Yp4 h N x y i j o c xi r st
def Yrn(h:T O)(N x y i xi:Nat)(r:T V)(st:St):Prop:=∃o c,Yp4 h N x y i (aN y).length o c xi r st
structure Ynq (h:T O) (N x y i:Nat) (o:List Nat) (r:T V) (st:St):Prop where
 hi:i<=(aN x).length
 r22:r.get 22=some (.int .i64 i)
 n:st.n=N+1
 w:aD N st.w=[]
 ah:ae h N st.h (N+1)
 row:st.h.get N=some (.cells (Go.Mx.dg o) 217 true)
 len:o.length=(aN x).length+(aN y).length
 dg:Dg o
 zero:∀t,i+(aN y).length<=t->t<o.length->o[t]?=some 0
 ex:val B o=val B ((aN x).take i)*y
def Ypw(h:T O)(N x y m:Nat)(r:T V)(st:St):Prop:=∃i o,m=(aN x).length-i/\Ynq h N x y i o r st
def Ypx(h:T O)(N x y:Nat)(r:T V)(st:St):Prop:=∃o,Ynq h N x y (aN x).length o r st
def Ztn{h:T O}{N:Nat}{vx vy:V}{x y:Nat}(hx:Wn h N vx x)(hy:Wn h N vy y)(BV:(aN x).length<1099511627776)(OL:(aN y).length<1099511627776):Fn A.C 214 [vx,vy] h N (fun v' h' N'=>Wn h' N' v' (x*y)):=by
 intro w
 have lx:=hx.len
 have ly:=hy.len
 rw[Zab]at lx ly
 rw[aV,A.k214 (by simp)]
 simp(disch:=first|(simp;done)|omega|(simp only[Zab,aq,ak];omega)|rfl) [-getElem?_pos,A.b214,lx,ly]
 refine c_ [(6,13),(22,77)] (fun e r st=>e=.exit 0/\Ypx h N x y r st) (Ypw h N x y) (aN x).length ?_ ?_ ?_
 ·refine⟨0,List.replicate ((aN x).length+(aN y).length) 0,by omega,⟨by omega,by simp,by simp,by simp,ae.refl.set (aZ _) |>.up (by omega),?_,by simp,?_,?_,by simp[val,Zqg]⟩⟩
  ·simp[JO]
  ·intro d hd
   rw[LH]at hd
   rw[hd.2];decide
  ·intro t _ ht
   simp at ht
   simp[ht]
 ·rintro m r ⟨H,n1,W⟩ hr hf ⟨i,o,rfl,hi,oG,hn,hW,hK,hN,ho,hd,hz,he⟩
  simp only at hn hW hK hN
  subst hn
  rw[dk]
  by_cases aP:i<(aN x).length
  ·obtain⟨i1,o1,c1,e1,w1,p1,p2,p3,p4⟩:=hx.at (fH (eA aP))
   have p3:=(hK.get _ p2).trans p3
   have gx:=eA aP
   generalize (aN x)[i]=xi at*
   simp(disch:=first|(simp;done)|omega|(simp only[Zab,aq,ak];omega)|rfl) [-getElem?_pos,A.rj,hr,oG,aP,lx,ly,p1,p3,p4]
   refine c_ [(8,13),(29,69)] (fun e r st=>e=.exit 2/\Yrn h N x y i xi r st) (Yrm h N x y i xi) (aN y).length ?_ ?_ ?_
   ·exact⟨0,o,0,by omega,⟨by omega,by simp,by simp,rfl,hW,hK,hN,ho,hd,hz,by decide,by simp[val,he]⟩⟩
   ·rintro m r2 ⟨H2,n2,W2⟩ bK jv ⟨j,o2,c,rfl,hj,P4,h8,fw,f_,jC,vG,xz,ym,fS,BH,xu⟩
    simp only at fw f_ jC vG
    subst fw
    rw[dk]
    have hi:xi<B:=(rb x).get gx
    by_cases fm:j<(aN y).length
    ·obtain⟨i2,o3,c3,e3,w3,q1,q2,q3,q4⟩:=hy.at (fH (eA fm))
     have q3:=(jC.get _ q2).trans q3
     have gy:=eA fm
     generalize (aN y)[j]=yj at*
     have hyj:yj<B:=(rb y).get gy
     have go:=eA (l:=o2) (i:=i+j) (by omega)
     generalize o2[i+j]'(by omega)=ov at*
     simp(disch:=first|(simp;done)|omega|(simp only[Zab,aq,ak];omega)|rfl) [-getElem?_pos,A.ri,hr,bK,P4,h8,fm,lx,ly,q1,q3,q4,jv]
     refine az (PT hi hyj) ?_
     rintro _ _ _ Bv ⟨rfl,rfl,rfl⟩
     simp(disch:=first|(simp;done)|omega|(simp only[Zab,aq,ak];omega)|rfl) [-getElem?_pos,hr,bK,P4,h8,fm,lx,ly,q1,q3,q4,jv,vG,fH go,pw]
     obtain⟨m1,m2,m3⟩:=Yfm hi hyj (ym.get go) BH
     refine⟨_,by omega,j+1,o2.set (i+j) (gb xi yj ov c),jr xi yj ov c,rfl,⟨by omega,by simp,?_,rfl,by simp[f_],jC.set (aZ _),?_,by simp[xz],ym.set m2,?_,m3,?_⟩⟩
     ·simp[jr]
     ·simp[gb]
     ·intro t t1 t2
      rw[eR (by omega)]
      exact fS t t1 (by simpa using t2)
     ·have v1:=P3 (b:=B) (v:=gb xi yj ov c) go
      rw[En gy]
      have e1:B^(i+(j+1))=B^(i+j)*B:=by rw[show i+(j+1)=(i+j)+1 by omega,fO]
      have e2:B^i*(xi*(B^j*yj))=B^(i+j)*(xi*yj):=by rw[iF];grind
      have e3:B^(i+j)*(gb xi yj ov c+B*jr xi yj ov c)=B^(i+j)*(xi*yj+ov+c):=by rw[m1]
      rw[e1]
      generalize val B (List.set o2 (i+j) (gb xi yj ov c))=z1 at*
      generalize val B o2=z2 at*
      generalize gb xi yj ov c=z3 at*
      generalize jr xi yj ov c=z4 at*
      generalize val B (List.take j (aN y))=z5 at*
      generalize B^(i+j)=z6 at*
      grind
    ·have:j=(aN y).length:=by omega
     subst this
     simp(disch:=first|(simp;done)|omega|(simp only[Zab,aq,ak];omega)|rfl) [-getElem?_pos,A.ri,hr,bK,P4,h8,jv]
     exact⟨o2,c,⟨by omega,by simp[P4],by simp[h8],rfl,f_,jC,vG,xz,ym,fS,BH,xu⟩⟩
   ·rintro e r2 ⟨H2,n2,W2⟩ bK ⟨rfl,o2,c,hj,P4,h8,fw,f_,jC,vG,xz,ym,fS,BH,xu⟩
    simp only at fw f_ jC vG
    subst fw
    have jv:=hf.inner (D':=[(8,13),(29,69)]) rfl (by simp) bK
    simp(disch:=first|(simp;done)|omega|(simp only[Zab,aq,ak];omega)|rfl) [-getElem?_pos,hr,bK,oG,h8,ly,vG,pw,jv]
    have pd:o2[i+(aN y).length]?=some 0:=fS _ (aZ _) (by omega)
    refine⟨_,by omega,i+1,o2.set (i+(aN y).length) c,rfl,⟨by omega,by simp,rfl,by simp[f_],jC.set (aZ _),by simp,by simp[xz],ym.set BH,?_,?_⟩⟩
    ·intro t t1 t2
     rw[eR (by omega)]
     exact fS t (by omega) (by simpa using t2)
    ·have v1:=P3 (b:=B) (v:=c) pd
     rw[iP (aZ _),mB]at xu
     rw[En gx]
     simp only[Nat.mul_zero,tF]at v1
     rw[v1,xu]
     grind
  ·have:i=(aN x).length:=by omega
   subst this
   simp(disch:=first|(simp;done)|omega|(simp only[Zab,aq,ak];omega)|rfl) [-getElem?_pos,A.rj,hr,oG,hf]
   exact⟨o,⟨by omega,by simp[oG],rfl,hW,hK,hN,ho,hd,hz,he⟩⟩
 ·rintro _ r ⟨H,n1,W⟩ hr ⟨rfl,o,hi,oG,hn,hW,hK,hN,ho,hd,hz,he⟩
  simp only at hn hW hK hN
  subst hn
  simp(disch:=first|(simp;done)|omega|(simp only[Zab,aq,ak];omega)|rfl) [-getElem?_pos,hr,hN]
  refine az (CR (l:=o) (Sl.row (e:=217) (rw:=true) (by omega) (by simp[hN]) (by simp[ho]) (by simp)) (by simp[ho];omega)) ?_
  intro v' h' n' mi hs
  simp(disch:=first|(simp;done)|omega|(simp only[Zab,aq,ak];omega)|rfl) [-getElem?_pos,aF]
  refine⟨hW,hK.trans mi,?_⟩
  rw[iP (aZ _),mB]at he
  rw[CO hd,he]at hs
  exact hs
end
end Go.Mx
