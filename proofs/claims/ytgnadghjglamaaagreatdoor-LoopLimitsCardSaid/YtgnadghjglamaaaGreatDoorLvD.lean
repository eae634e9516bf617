/-loop-/
import Derived.Test.YtgnadghjglamaaaGreatDoorLvA
set_option linter.all false
set_option maxHeartbeats 8000000
namespace Go.Mx
noncomputable section
open Go Go.Proofs
variable {N:Nat} {h:T O}
set_option maxRecDepth 1000000
def A.b99:=A.q Tryz.f99
def A.k99:=@A.kk 99 32 [.cell 4 (some 8)] A.b99 (by kernel_rfl) rfl
def A.b140:=A.q Tryz.f140
def A.k140:=@A.kk 140 13 [.tmp 2] A.b140 (by kernel_rfl) rfl
def A.b97:=A.q Tryz.f97
def A.k97:=@A.kk 97 11 [.cell 2 (some 4)] A.b97 (by kernel_rfl) rfl
def A.b98:=A.q Tryz.f98
def A.k98:=@A.kk 98 14 [.cell 2 (some 4)] A.b98 (by kernel_rfl) rfl
def yR.NL{i:Nat}{e:TypeId}{rw:Bool}{a1 a2 a3 a4:Int}{x1 x2 x3 x4:V}{p q:Rat}(hi:i<N)(g:h.get i=some (.cells [.int .i64 a1,x1,.int .i64 a2,x2,.int .i64 a3,x3,.int .i64 a4,x4] e rw))(f1:dB h N [.int .i64 a1,x1,.int .i64 a2,x2] p)(f2:dB h N [.int .i64 a3,x3,.int .i64 a4,x4] q):yR h N (.slice i 0 2 (some 2) 4) [p,q]:=by
 refine⟨[[.int .i64 a1,x1,.int .i64 a2,x2],[.int .i64 a3,x3,.int .i64 a4,x4]],.inr ⟨i,0,some 2,_,e,rw,rfl,hi,g,fun j x hj=>?_,by simp,by simp⟩,rfl,fun j y hj=>?_⟩
 ·rcases j with _|_|j
  ·simp at hj;subst hj;simp[aE]
  ·simp at hj;subst hj;simp[aE]
  simp at hj
 rcases j with _|_|j
 ·simp at hj;subst hj;exact⟨_,rfl,f1⟩
 ·simp at hj;subst hj;exact⟨_,rfl,f2⟩
 simp at hj
def yR.zdB{i:Nat}{e:TypeId}{rw:Bool}{a1 a2 a3 a4 a5 a6 a7 a8:Int}{x1 x2 x3 x4 x5 x6 x7 x8:V}{p q r s:Rat}(hi:i<N)(g:h.get i=some (.cells [.int .i64 a1,x1,.int .i64 a2,x2,.int .i64 a3,x3,.int .i64 a4,x4,.int .i64 a5,x5,.int .i64 a6,x6,.int .i64 a7,x7,.int .i64 a8,x8] e rw))(f1:dB h N [.int .i64 a1,x1,.int .i64 a2,x2] p)(f2:dB h N [.int .i64 a3,x3,.int .i64 a4,x4] q)(f3:dB h N [.int .i64 a5,x5,.int .i64 a6,x6] r)(f4:dB h N [.int .i64 a7,x7,.int .i64 a8,x8] s):yR h N (.slice i 0 4 (some 4) 4) [p,q,r,s]:=by
 refine⟨[[.int .i64 a1,x1,.int .i64 a2,x2],[.int .i64 a3,x3,.int .i64 a4,x4],[.int .i64 a5,x5,.int .i64 a6,x6],[.int .i64 a7,x7,.int .i64 a8,x8]],.inr ⟨i,0,some 4,_,e,rw,rfl,hi,g,fun j x hj=>?_,by simp,by simp⟩,rfl,fun j y hj=>?_⟩
 ·rcases j with _|_|_|_|j
  ·simp at hj;subst hj;simp[aE]
  ·simp at hj;subst hj;simp[aE]
  ·simp at hj;subst hj;simp[aE]
  ·simp at hj;subst hj;simp[aE]
  simp at hj
 rcases j with _|_|_|_|j
 ·simp at hj;subst hj;exact⟨_,rfl,f1⟩
 ·simp at hj;subst hj;exact⟨_,rfl,f2⟩
 ·simp at hj;subst hj;exact⟨_,rfl,f3⟩
 ·simp at hj;subst hj;exact⟨_,rfl,f4⟩
 simp at hj
def Zv4{q:Rat}:df q.num<=0↔q<=0:=by
 have e:q<=0↔q.num<=0:=by rw[Rat.le_iff];simp
 rw[e];unfold df;split
 ·constructor<;>intro h<;>omega
 split<;>constructor<;>intro h<;>omega
def Ye0{q:Rat}:0<=df q.num↔0<=q:=by
 have e:0<=q↔0<=q.num:=by rw[Rat.le_iff];simp
 rw[e];unfold df;split
 ·constructor<;>intro h<;>omega
 split<;>constructor<;>intro h<;>omega
def Yme(a b:Rat):Bool:=decide (a<=0/\0<=b)
def Zjp(a b:Rat):Rat:=Zva [iE a,iE b] 1
def Za5(a b:Rat):Rat:=if Yme a b=true then 0 else Ztl [iE a,iE b] 1
def Ywo(a b c d:Rat):Rat:=Ztl [a*c,a*d,b*c,b*d] 3
def Yws(a b c d:Rat):Rat:=Zva [a*c,a*d,b*c,b*d] 3
def Yvy{x:V}{a b:Rat}(hx:Bc h N x a b):Fn A.C 140 [x] h N (fun v _ _=>v=.bool (Yme a b)):=by
 intro w;obtain⟨n1,u1,n2,u2,n3,u3,n4,u4,rfl,s1,s2,s3,s4⟩:=hx;have o1:=de s1;have o2:=de s2;have o3:=de s3;have o4:=de s4;unfold V.one at o1 o2 o3 o4;have kB:ae h N (h.set N (.cells [.int .i64 n1,u1,.int .i64 n2,u2,.int .i64 n3,u3,.int .i64 n4,u4] 128 true)) (N+1):=ae.refl.new _;have b0:(h.set N (.cells [.int .i64 n1,u1,.int .i64 n2,u2,.int .i64 n3,u3,.int .i64 n4,u4] 128 true)).get N=some (.cells [.int .i64 n1,u1,.int .i64 n2,u2,.int .i64 n3,u3,.int .i64 n4,u4] 128 true):=by simp
 rw[aV,A.k140 (by simp)];simp(disch:=first|(simp;done)|omega|rfl) [-getElem?_pos,A.b140,o1,o2,o3,o4,aJ,aE];generalize h.set N (.cells [.int .i64 n1,u1,.int .i64 n2,u2,.int .i64 n3,u3,.int .i64 n4,u4] 128 true)=HB at*;have fa:Fc HB (N+1) (.agg [.int .i64 n1,u1,.int .i64 n2,u2]) a:=⟨n1,u1,n2,u2,rfl,s1.ah kB,s2.ah kB⟩;have fb:Fc HB (N+1) (.agg [.int .i64 n3,u3,.int .i64 n4,u4]) b:=⟨n3,u3,n4,u4,rfl,s3.ah kB,s4.ah kB⟩;refine az (Ld fa) ?_;rintro _ h1 Kt k1 rfl;have b1:=(k1.get N (by omega)).trans b0;have e1:N<Kt:=by have:=k1.le;omega
 by_cases c1:a<=0
 ·have t1:=Zv4.2 c1;simp(disch:=first|(simp;done)|omega|rfl) [-getElem?_pos,t1,b1,e1,aJ,aE];refine az (Ld (fb.ah k1)) ?_;rintro _ h2 wY k2 rfl;have K2:=(kB.trans k1).trans k2;by_cases c2:0<=b
  ·have t2:=Ye0.2 c2;simp(disch:=first|(simp;done)|omega|rfl) [-getElem?_pos,t2,Yme,c1,c2,aF];exact K2
  have t2:=mt Ye0.1 c2;simp(disch:=first|(simp;done)|omega|rfl) [-getElem?_pos,t2,Yme,c1,c2,aF];exact K2
 have t1:=mt Zv4.1 c1;simp(disch:=first|(simp;done)|omega|rfl) [-getElem?_pos,t1,Yme,c1,aF];exact kB.trans k1
def tJ{q:Rat}{k:Nat}(h:Qb k q):Qb k (iE q):=by
 unfold iE;split
 ·exact h.neg
 exact h
def Yvz{K:Nat}{x:V}{a b:Rat}(hx:Bc h N x a b)(qa:Qb K a)(qb:Qb K b)(hK:K<=100000000):Fn A.C 97 [x] h N (fun v h' n'=>Fc h' n' v (Zjp a b)):=by
 intro w;obtain⟨n1,u1,n2,u2,n3,u3,n4,u4,rfl,s1,s2,s3,s4⟩:=hx;have o1:=de s1;have o2:=de s2;have o3:=de s3;have o4:=de s4;unfold V.one at o1 o2 o3 o4;have wa:=qa.iC;have wb:=qb.iC;have kB:ae h N ((h.set N (.cells [.int .i64 n1,u1,.int .i64 n2,u2,.int .i64 n3,u3,.int .i64 n4,u4] 128 true)).set (N+1) (.cells [.int .i64 0,.aa,.int .i64 0,.aa] 110 true)) (N+1+1):=(ae.refl.new _).new _;have b0:((h.set N (.cells [.int .i64 n1,u1,.int .i64 n2,u2,.int .i64 n3,u3,.int .i64 n4,u4] 128 true)).set (N+1) (.cells [.int .i64 0,.aa,.int .i64 0,.aa] 110 true)).get N=some (.cells [.int .i64 n1,u1,.int .i64 n2,u2,.int .i64 n3,u3,.int .i64 n4,u4] 128 true):=by simp
 have b1:((h.set N (.cells [.int .i64 n1,u1,.int .i64 n2,u2,.int .i64 n3,u3,.int .i64 n4,u4] 128 true)).set (N+1) (.cells [.int .i64 0,.aa,.int .i64 0,.aa] 110 true)).get (N+1)=some (.cells [.int .i64 0,.aa,.int .i64 0,.aa] 110 true):=by simp
 rw[aV,A.k97 (by simp)];simp(disch:=first|(simp;done)|omega|rfl) [-getElem?_pos,A.b97,o1,o2,o3,o4,aJ,aE];generalize (h.set N (.cells [.int .i64 n1,u1,.int .i64 n2,u2,.int .i64 n3,u3,.int .i64 n4,u4] 128 true)).set (N+1) (.cells [.int .i64 0,.aa,.int .i64 0,.aa] 110 true)=HB at*;have fa:Fc HB (N+1+1) (.agg [.int .i64 n1,u1,.int .i64 n2,u2]) a:=⟨n1,u1,n2,u2,rfl,s1.ah kB,s2.ah kB⟩;have fb:Fc HB (N+1+1) (.agg [.int .i64 n3,u3,.int .i64 n4,u4]) b:=⟨n3,u3,n4,u4,rfl,s3.ah kB,s4.ah kB⟩;refine az (Lf fa (by omega)) ?_;rintro _ h1 Kt k1 ⟨a1,x1,a2,x2,rfl,r1,r2⟩;have b01:=(k1.get N (by omega)).trans b0;have b11:=(k1.get (N+1) (by omega)).trans b1;have l1:=k1.le;have e0:N<Kt:=by omega
 have e1:N+1<Kt:=by omega
 simp(disch:=first|(simp;done)|omega|rfl) [-getElem?_pos,b01,e0,aJ,aE];refine az (Lf (fb.ah k1) (by omega)) ?_;rintro _ h2 wY k2 ⟨a3,x3,a4,x4,rfl,r3,r4⟩;have b12:=(k2.get (N+1) e1).trans b11;have l2:=k2.le;have q1:=de r1;have q2:=de r2;have q3:=de r3;have q4:=de r4;unfold V.one at q1 q2 q3 q4;have kS:ae h2 wY (h2.set wY (.cells [.int .i64 a1,x1,.int .i64 a2,x2,.int .i64 a3,x3,.int .i64 a4,x4] 110 true)) (wY+1):=ae.refl.new _;have fs:yR (h2.set wY (.cells [.int .i64 a1,x1,.int .i64 a2,x2,.int .i64 a3,x3,.int .i64 a4,x4] 110 true)) (wY+1) (.slice wY 0 2 (some 2) 4) [iE a,iE b]:=yR.NL (e:=110) (rw:=true) (by omega) (by simp) ⟨a1,x1,a2,x2,rfl,(r1.ah k2).ah kS,(r2.ah k2).ah kS⟩ ⟨a3,x3,a4,x4,rfl,r3.ah kS,r4.ah kS⟩;have b13:=(kS.get (N+1) (by omega)).trans b12;simp(disch:=first|(simp;done)|omega|rfl) [-getElem?_pos,q1,q2,q3,q4,ag,bU.bZ];refine az (Ykl fs (by simp) (fun y hy=>by
  simp at hy
  rcases hy with rfl|rfl
  ·exact tJ qa
  ·exact tJ qb) (by simp) hK) ?_;rintro _ h3 sM k3 ⟨a5,x5,a6,x6,rfl,r5,r6⟩;have l3:=k3.le;have b14:=(k3.get (N+1) (by omega)).trans b13;have e3:N+1<sM:=by omega
 have q5:=de r5;have q6:=de r6;unfold V.one at q5 q6;simp(disch:=first|(simp;done)|omega|rfl) [-getElem?_pos,b14,e3,q5,q6,aJ,aE,ag,bE,aF];exact⟨((kB.trans k1).trans (k2.trans kS)).trans k3 |>.set (by omega),a5,x5,a6,x6,rfl,r5.aG b14 lZ rfl,r6.aG b14 lZ rfl⟩
def Yoe{h:T O}{N K:Nat}{x:V}{a b:Rat}(hx:Bc h N x a b)(qa:Qb K a)(qb:Qb K b)(hK:K<=100000000):Fn A.C 98 [x] h N (fun v h' n'=>Fc h' n' v (Za5 a b)):=by
 intro w;have ry:=hx;obtain⟨n1,u1,n2,u2,n3,u3,n4,u4,rfl,s1,s2,s3,s4⟩:=hx;have o1:=de s1;have o2:=de s2;have o3:=de s3;have o4:=de s4;unfold V.one at o1 o2 o3 o4;have wa:=qa.iC;have wb:=qb.iC;have kB:ae h N ((h.set N (.cells [.int .i64 n1,u1,.int .i64 n2,u2,.int .i64 n3,u3,.int .i64 n4,u4] 128 true)).set (N+1) (.cells [.int .i64 0,.aa,.int .i64 0,.aa] 110 true)) (N+1+1):=(ae.refl.new _).new _;have b0:((h.set N (.cells [.int .i64 n1,u1,.int .i64 n2,u2,.int .i64 n3,u3,.int .i64 n4,u4] 128 true)).set (N+1) (.cells [.int .i64 0,.aa,.int .i64 0,.aa] 110 true)).get N=some (.cells [.int .i64 n1,u1,.int .i64 n2,u2,.int .i64 n3,u3,.int .i64 n4,u4] 128 true):=by simp
 have b1:((h.set N (.cells [.int .i64 n1,u1,.int .i64 n2,u2,.int .i64 n3,u3,.int .i64 n4,u4] 128 true)).set (N+1) (.cells [.int .i64 0,.aa,.int .i64 0,.aa] 110 true)).get (N+1)=some (.cells [.int .i64 0,.aa,.int .i64 0,.aa] 110 true):=by simp
 rw[aV,A.k98 (by simp)];simp(disch:=first|(simp;done)|omega|rfl) [-getElem?_pos,A.b98,o1,o2,o3,o4,aJ,aE];generalize (h.set N (.cells [.int .i64 n1,u1,.int .i64 n2,u2,.int .i64 n3,u3,.int .i64 n4,u4] 128 true)).set (N+1) (.cells [.int .i64 0,.aa,.int .i64 0,.aa] 110 true)=HB at*;refine az (Yvy (ry.ah kB)) ?_;rintro _ h0 n0 k0 rfl;have KB:=kB.trans k0;have l0:=k0.le;have b00:=(k0.get N (by omega)).trans b0;have b10:=(k0.get (N+1) (by omega)).trans b1;have e00:N<n0:=by omega
 have Nw:N+1<n0:=by omega
 have fa:Fc h0 n0 (.agg [.int .i64 n1,u1,.int .i64 n2,u2]) a:=⟨n1,u1,n2,u2,rfl,s1.ah KB,s2.ah KB⟩;have fb:Fc h0 n0 (.agg [.int .i64 n3,u3,.int .i64 n4,u4]) b:=⟨n3,u3,n4,u4,rfl,s3.ah KB,s4.ah KB⟩;cases hz:Yme a b with
 |true=>
  have el:Za5 a b=0:=by unfold Za5;rw[aQ hz]
  rw[el];simp(disch:=first|(simp;done)|omega|rfl) [-getElem?_pos,];refine az (xj (z:=0) (by decide) (by decide)) ?_;rintro _ h3 sM k3 ⟨a5,x5,a6,x6,rfl,r5,r6⟩;have l3:=k3.le;have b14:=(k3.get (N+1) (by omega)).trans b10;have e3:N+1<sM:=by omega
  have q5:=de r5;have q6:=de r6;unfold V.one at q5 q6;simp(disch:=first|(simp;done)|omega|rfl) [-getElem?_pos,b14,e3,q5,q6,aJ,aE,ag,bE,aF];exact⟨(KB.trans k3).set (by omega),a5,x5,a6,x6,rfl,r5.aG b14 lZ rfl,r6.aG b14 lZ rfl⟩
 |false=>
  have el:Za5 a b=Ztl [iE a,iE b] 1:=by unfold Za5;rw[aA (by rw[hz];decide)]
  rw[el];simp(disch:=first|(simp;done)|omega|rfl) [-getElem?_pos,b00,e00,aJ,aE];refine az (Lf fa (by omega)) ?_;rintro _ h1 Kt k1 ⟨a1,x1,a2,x2,rfl,r1,r2⟩;have b01:=(k1.get N (by omega)).trans b00;have b11:=(k1.get (N+1) (by omega)).trans b10;have l1:=k1.le;have e0:N<Kt:=by omega
  have e1:N+1<Kt:=by omega
  simp(disch:=first|(simp;done)|omega|rfl) [-getElem?_pos,b01,e0,aJ,aE];refine az (Lf (fb.ah k1) (by omega)) ?_;rintro _ h2 wY k2 ⟨a3,x3,a4,x4,rfl,r3,r4⟩;have b12:=(k2.get (N+1) e1).trans b11;have l2:=k2.le;have q1:=de r1;have q2:=de r2;have q3:=de r3;have q4:=de r4;unfold V.one at q1 q2 q3 q4;have kS:ae h2 wY (h2.set wY (.cells [.int .i64 a1,x1,.int .i64 a2,x2,.int .i64 a3,x3,.int .i64 a4,x4] 110 true)) (wY+1):=ae.refl.new _;have fs:yR (h2.set wY (.cells [.int .i64 a1,x1,.int .i64 a2,x2,.int .i64 a3,x3,.int .i64 a4,x4] 110 true)) (wY+1) (.slice wY 0 2 (some 2) 4) [iE a,iE b]:=yR.NL (e:=110) (rw:=true) (by omega) (by simp) ⟨a1,x1,a2,x2,rfl,(r1.ah k2).ah kS,(r2.ah k2).ah kS⟩ ⟨a3,x3,a4,x4,rfl,r3.ah kS,r4.ah kS⟩;have b13:=(kS.get (N+1) (by omega)).trans b12;simp(disch:=first|(simp;done)|omega|rfl) [-getElem?_pos,q1,q2,q3,q4,ag,bU.bZ];refine az (Yjg fs (by simp) (fun y hy=>by
   simp at hy
   rcases hy with rfl|rfl
   ·exact tJ qa
   ·exact tJ qb) (by simp) hK) ?_;rintro _ h3 sM k3 ⟨a5,x5,a6,x6,rfl,r5,r6⟩;have l3:=k3.le;have b14:=(k3.get (N+1) (by omega)).trans b13;have e3:N+1<sM:=by omega
  have q5:=de r5;have q6:=de r6;unfold V.one at q5 q6;simp(disch:=first|(simp;done)|omega|rfl) [-getElem?_pos,b14,e3,q5,q6,aJ,aE,ag,bE,aF];exact⟨(((KB.trans k1).trans (k2.trans kS)).trans k3).set (by omega),a5,x5,a6,x6,rfl,r5.aG b14 lZ rfl,r6.aG b14 lZ rfl⟩
def Ya5{h:T O}{N K:Nat}{x y:V}{a b c d:Rat}(hx:Bc h N x a b)(hy:Bc h N y c d)(qa:Qb K a)(qb:Qb K b)(qc:Qb K c)(qd:Qb K d)(hK:K<=40000000):Fn A.C 99 [x,y] h N (fun v h' n'=>Bc h' n' v (Ywo a b c d) (Yws a b c d)):=by
 intro w;obtain⟨n1,u1,n2,u2,n3,u3,n4,u4,rfl,s1,s2,s3,s4⟩:=hx;obtain⟨m1,v1,m2,v2,m3,v3,m4,v4,rfl,t1,t2,t3,t4⟩:=hy;have o1:=de s1;have o2:=de s2;have o3:=de s3;have o4:=de s4;have p1:=de t1;have p2:=de t2;have p3:=de t3;have p4:=de t4;unfold V.one at o1 o2 o3 o4 p1 p2 p3 p4;have wa:=qa.iC;have wb:=qb.iC;have wc:=qc.iC;have wd:=qd.iC;have kB:ae h N (((h.set N (.cells [.int .i64 n1,u1,.int .i64 n2,u2,.int .i64 n3,u3,.int .i64 n4,u4] 128 true)).set (N+1) (.cells [.int .i64 m1,v1,.int .i64 m2,v2,.int .i64 m3,v3,.int .i64 m4,v4] 128 true)).set (N+1+1) (.cells [.int .i64 0,.aa,.int .i64 0,.aa,.int .i64 0,.aa,.int .i64 0,.aa] 128 true)) (N+1+1+1):=((ae.refl.new _).new _).new _;have b0:(((h.set N (.cells [.int .i64 n1,u1,.int .i64 n2,u2,.int .i64 n3,u3,.int .i64 n4,u4] 128 true)).set (N+1) (.cells [.int .i64 m1,v1,.int .i64 m2,v2,.int .i64 m3,v3,.int .i64 m4,v4] 128 true)).set (N+1+1) (.cells [.int .i64 0,.aa,.int .i64 0,.aa,.int .i64 0,.aa,.int .i64 0,.aa] 128 true)).get N=some (.cells [.int .i64 n1,u1,.int .i64 n2,u2,.int .i64 n3,u3,.int .i64 n4,u4] 128 true):=by simp
 have b1:(((h.set N (.cells [.int .i64 n1,u1,.int .i64 n2,u2,.int .i64 n3,u3,.int .i64 n4,u4] 128 true)).set (N+1) (.cells [.int .i64 m1,v1,.int .i64 m2,v2,.int .i64 m3,v3,.int .i64 m4,v4] 128 true)).set (N+1+1) (.cells [.int .i64 0,.aa,.int .i64 0,.aa,.int .i64 0,.aa,.int .i64 0,.aa] 128 true)).get (N+1)=some (.cells [.int .i64 m1,v1,.int .i64 m2,v2,.int .i64 m3,v3,.int .i64 m4,v4] 128 true):=by simp
 have b2:(((h.set N (.cells [.int .i64 n1,u1,.int .i64 n2,u2,.int .i64 n3,u3,.int .i64 n4,u4] 128 true)).set (N+1) (.cells [.int .i64 m1,v1,.int .i64 m2,v2,.int .i64 m3,v3,.int .i64 m4,v4] 128 true)).set (N+1+1) (.cells [.int .i64 0,.aa,.int .i64 0,.aa,.int .i64 0,.aa,.int .i64 0,.aa] 128 true)).get (N+1+1)=some (.cells [.int .i64 0,.aa,.int .i64 0,.aa,.int .i64 0,.aa,.int .i64 0,.aa] 128 true):=by simp
 rw[aV,A.k99 (by simp)];simp(disch:=first|(simp;done)|omega|rfl) [-getElem?_pos,A.b99,o1,o2,o3,o4,p1,p2,p3,p4,aJ,aE];generalize ((h.set N (.cells [.int .i64 n1,u1,.int .i64 n2,u2,.int .i64 n3,u3,.int .i64 n4,u4] 128 true)).set (N+1) (.cells [.int .i64 m1,v1,.int .i64 m2,v2,.int .i64 m3,v3,.int .i64 m4,v4] 128 true)).set (N+1+1) (.cells [.int .i64 0,.aa,.int .i64 0,.aa,.int .i64 0,.aa,.int .i64 0,.aa] 128 true)=HB at*;have fa:Fc HB (N+1+1+1) (.agg [.int .i64 n1,u1,.int .i64 n2,u2]) a:=⟨n1,u1,n2,u2,rfl,s1.ah kB,s2.ah kB⟩;have fb:Fc HB (N+1+1+1) (.agg [.int .i64 n3,u3,.int .i64 n4,u4]) b:=⟨n3,u3,n4,u4,rfl,s3.ah kB,s4.ah kB⟩;have fc:Fc HB (N+1+1+1) (.agg [.int .i64 m1,v1,.int .i64 m2,v2]) c:=⟨m1,v1,m2,v2,rfl,t1.ah kB,t2.ah kB⟩;have fd:Fc HB (N+1+1+1) (.agg [.int .i64 m3,v3,.int .i64 m4,v4]) d:=⟨m3,v3,m4,v4,rfl,t3.ah kB,t4.ah kB⟩;refine az (KY fa fc (by omega) (by omega) (by omega) (by omega)) ?_;rintro _ h1 Kt k1 ⟨a1,x1,a2,x2,rfl,r1,r2⟩;have l1:=k1.le;have b01:=(k1.get N (by omega)).trans b0;have b11:=(k1.get (N+1) (by omega)).trans b1;have e01:N<Kt:=by omega
 have RG:N+1<Kt:=by omega
 simp(disch:=first|(simp;done)|omega|rfl) [-getElem?_pos,b01,b11,e01,RG,aJ,aE];refine az (KY (fa.ah k1) (fd.ah k1) (by omega) (by omega) (by omega) (by omega)) ?_;rintro _ h2 wY k2 ⟨a3,x3,a4,x4,rfl,r3,r4⟩;have K2:=k1.trans k2;have l2:=k2.le;have b02:=(k2.get N (by omega)).trans b01;have b12:=(k2.get (N+1) (by omega)).trans b11;have e02:N<wY:=by omega
 have Nz:N+1<wY:=by omega
 simp(disch:=first|(simp;done)|omega|rfl) [-getElem?_pos,b02,b12,e02,Nz,aJ,aE];refine az (KY (fb.ah K2) (fc.ah K2) (by omega) (by omega) (by omega) (by omega)) ?_;rintro _ h3 sM k3 ⟨a5,x5,a6,x6,rfl,r5,r6⟩;have K3:=K2.trans k3;have l3:=k3.le;have b03:=(k3.get N (by omega)).trans b02;have b13:=(k3.get (N+1) (by omega)).trans b12;have e03:N<sM:=by omega
 have e13:N+1<sM:=by omega
 simp(disch:=first|(simp;done)|omega|rfl) [-getElem?_pos,b03,b13,e03,e13,aJ,aE];refine az (KY (fb.ah K3) (fd.ah K3) (by omega) (by omega) (by omega) (by omega)) ?_;rintro _ h4 n4' k4 ⟨a7,x7,a8,x8,rfl,r7,r8⟩;have K4:=K3.trans k4;have l4:=k4.le;have b24:=(K4.get (N+1+1) (by omega)).trans b2;have q1:=de r1;have q2:=de r2;have q3:=de r3;have q4:=de r4;have q5:=de r5;have q6:=de r6;have q7:=de r7;have q8:=de r8;unfold V.one at q1 q2 q3 q4 q5 q6 q7 q8;have kS:ae h4 n4' (h4.set n4' (.cells [.int .i64 a1,x1,.int .i64 a2,x2,.int .i64 a3,x3,.int .i64 a4,x4,.int .i64 a5,x5,.int .i64 a6,x6,.int .i64 a7,x7,.int .i64 a8,x8] 110 true)) (n4'+1):=ae.refl.new _;have k24:=(k2.trans k3).trans k4;have k34:=k3.trans k4;have fs:yR (h4.set n4' (.cells [.int .i64 a1,x1,.int .i64 a2,x2,.int .i64 a3,x3,.int .i64 a4,x4,.int .i64 a5,x5,.int .i64 a6,x6,.int .i64 a7,x7,.int .i64 a8,x8] 110 true)) (n4'+1) (.slice n4' 0 4 (some 4) 4) [a*c,a*d,b*c,b*d]:=yR.zdB (e:=110) (rw:=true) (by omega) (by simp) ⟨a1,x1,a2,x2,rfl,(r1.ah k24).ah kS,(r2.ah k24).ah kS⟩ ⟨a3,x3,a4,x4,rfl,(r3.ah k34).ah kS,(r4.ah k34).ah kS⟩ ⟨a5,x5,a6,x6,rfl,(r5.ah k4).ah kS,(r6.ah k4).ah kS⟩ ⟨a7,x7,a8,x8,rfl,r7.ah kS,r8.ah kS⟩;have b25:=(kS.get (N+1+1) (by omega)).trans b24;have hq:∀y∈[a*c,a*d,b*c,b*d],Qb (K+K) y:=fun y hy=>by
  simp at hy;rcases hy with rfl|rfl|rfl|rfl
  ·exact qa.mul qc
  ·exact qa.mul qd
  ·exact qb.mul qc
  exact qb.mul qd
 simp(disch:=first|(simp;done)|omega|rfl) [-getElem?_pos,q1,q2,q3,q4,q5,q6,q7,q8,ag,bU.bZ];refine az (Yjg fs (by simp) hq (by simp) (by omega)) ?_;rintro _ h5 n5' k5 ⟨c1,y1,c2,y2,rfl,g1,g2⟩;simp(disch:=first|(simp;done)|omega|rfl) [-getElem?_pos,];refine az (Ykl (fs.ah k5) (by simp) hq (by simp) (by omega)) ?_;rintro _ h6 n6' k6 ⟨c3,y3,c4,y4,rfl,g3,g4⟩;have k56:=k5.trans k6;have l56:=k56.le;have b26:=(k56.get (N+1+1) (by omega)).trans b25;have e26:N+1+1<n6':=by omega
 have z1:=de g1;have z2:=de g2;have z3:=de g3;have z4:=de g4;unfold V.one at z1 z2 z3 z4;simp(disch:=first|(simp;done)|omega|rfl) [-getElem?_pos,b26,e26,z1,z2,z3,z4,aJ,aE,ag,bE,bU.bZ,aF];exact⟨(((kB.trans K4).trans kS).trans k56).set (by omega),c1,y1,c2,y2,c3,y3,c4,y4,rfl,(g1.ah k6).aG b26 nu8 rfl,(g2.ah k6).aG b26 nu8 rfl,g3.aG b26 nu8 rfl,g4.aG b26 nu8 rfl⟩
variable {K N:Nat} {a b:Rat} {h:T O}
def A.b101:=A.q Tryz.f101
def A.k101:=@A.kk 101 16 [.cell 4 (some 2)] A.b101 (by kernel_rfl) rfl
def A.b104:=A.q Tryz.f104
def A.k104:=@A.kk 104 16 [.cell 4 (some 2)] A.b104 (by kernel_rfl) rfl
def A.b105:=A.q Tryz.f105
def A.k105:=@A.kk 105 27 [.cell 4 (some 2)] A.b105 (by kernel_rfl) rfl
def A.b60:=A.q Tryz.f60
def A.k60:=@A.kk 60 6 [.cell 2 (some 2)] A.b60 (by kernel_rfl) rfl
def A.b176:=A.q Tryz.f176
def A.k176:=@A.kk 176 17 [.tmp 4] A.b176 (by kernel_rfl) rfl
def A.b102:=A.q Tryz.f102
def A.k102:=@A.kk 102 10 [.tmp 2] A.b102 (by kernel_rfl) rfl
def A.b103:=A.q Tryz.f103
def A.k103:=@A.kk 103 12 [.tmp 2] A.b103 (by kernel_rfl) rfl
def A.b175:=A.q Tryz.f175
def A.k175:=@A.kk 175 11 [.tmp 4] A.b175 (by kernel_rfl) rfl
def A.b177:=A.q Tryz.f177
def A.k177:=@A.kk 177 11 [.tmp 4] A.b177 (by kernel_rfl) rfl
def A.zga:=A.q Tryz.f178
def A.zgw:=A.ql A.zga 0 []
def A.b178:=(fun x0=>A.qb A.zga [x0]) A.zgw
def A.k178:=@A.kk 178 35 [.cell 2 (some 2)] A.b178 (by kernel_rfl) rfl
def Xa2{s:aU}:Fn A.C 60 [.str s] h N (fun v _ _=>v=.agg [.str s,.str s]):=by intro w;rw[aV,A.k60 (by simp)];simp(disch:=first|(simp;done)|omega|rfl) [-getElem?_pos,A.b60,aJ,aE,ag,bE,bU.bZ,aF];exact(ae.refl.new _).set (by omega)
def Xa0(qa:Qb K a)(qb:Qb K b)(hK:K<=100000000):Fn A.C 175 [.str (ax a),.str (ax b)] h N (fun v _ _=>v=.str (ax (if a<b then b else a))):=by
 intro w;have tb:=jt qb;rw[aV,A.k175 (by simp)];simp(disch:=first|(simp;done)|omega|rfl) [-getElem?_pos,A.b175];refine az (zg qa qb (by omega) (by omega) (by omega)) ?_;rintro _ h1 n1 k1 rfl;by_cases c:a<b
 ·have s1:¬0<=df (a-b).num:=by have:=Yek.2 c;omega
  simp(disch:=first|(simp;done)|omega|rfl) [-getElem?_pos,s1,c,aF];exact k1
 have s1:0<=df (a-b).num:=by have:=mt Yek.1 c;omega
 simp(disch:=first|(simp;done)|omega|rfl) [-getElem?_pos,s1,c,aF];exact k1
def Xaz(qa:Qb K a)(qb:Qb K b)(hK:K<=100000000):Fn A.C 177 [.str (ax a),.str (ax b)] h N (fun v _ _=>v=.str (ax (if b<a then b else a))):=by
 intro w;have tb:=jt qb;rw[aV,A.k177 (by simp)];simp(disch:=first|(simp;done)|omega|rfl) [-getElem?_pos,A.b177];refine az (zg qa qb (by omega) (by omega) (by omega)) ?_;rintro _ h1 n1 k1 rfl;by_cases c:b<a
 ·have s1:¬df (a-b).num<=0:=by have:=Zz8.2 c;omega
  simp(disch:=first|(simp;done)|omega|rfl) [-getElem?_pos,s1,c,aF];exact k1
 have s1:df (a-b).num<=0:=by have:=mt Zz8.1 c;omega
 simp(disch:=first|(simp;done)|omega|rfl) [-getElem?_pos,s1,c,aF];exact k1
def Xbg(qa:Qb K a)(qb:Qb K b)(hK:K<=100000000):Fn A.C 176 [.agg [.str (ax (a)),.str (ax (b))],.str [48]] h N (fun v _ _=>v=.bool (Yme a b)):=by
 intro w;have tb:=jt qb;have q0:Qb K 0:=⟨vU (by decide),by have:=qa.2;have:=a.den_pos;show (1:Nat)<2^K;omega⟩;have kB:ae h N (h.set N (.cells [.str (ax (a)),.str (ax (b))] 52 true)) (N+1):=ae.refl.new _;have b0:(h.set N (.cells [.str (ax (a)),.str (ax (b))] 52 true)).get N=some (.cells [.str (ax (a)),.str (ax (b))] 52 true):=by simp
 rw[aV,A.k176 (by simp)];simp(disch:=first|(simp;done)|omega|rfl) [-getElem?_pos,A.b176];generalize h.set N (.cells [.str (ax (a)),.str (ax (b))] 52 true)=HB at*;rw[<-Ij];refine az (zg qa q0 (by omega) (by omega) (by rw[Ij];decide)) ?_;rintro _ h1 n1 k1 rfl;have b1:=(k1.get N (by omega)).trans b0;have e1:N<n1:=by have:=k1.le;omega
 have z1:a-0=a:=by grind
 rw[z1];by_cases c1:a<=0
 ·have t1:=Zv4.2 c1;simp(disch:=first|(simp;done)|omega|rfl) [-getElem?_pos,t1,b1,e1];refine az (zg q0 qb (by omega) (by omega) (by omega)) ?_;rintro _ h2 n2 k2 rfl;have K2:=(kB.trans k1).trans k2;have z2:df (0-b).num<=0↔0<=b:=by rw[Zv4];constructor<;>intro h<;>grind
  by_cases c2:0<=b
  ·have t2:=z2.2 c2;simp(disch:=first|(simp;done)|omega|rfl) [-getElem?_pos,t2,Yme,c1,c2,aF];exact K2
  have t2:=mt z2.1 c2;simp(disch:=first|(simp;done)|omega|rfl) [-getElem?_pos,t2,Yme,c1,c2,aF];exact K2
 have t1:=mt Zv4.1 c1;simp(disch:=first|(simp;done)|omega|rfl) [-getElem?_pos,t1,Yme,c1,aF];exact kB.trans k1
def Xa8{c d:Rat}(qa:Qb K a)(qb:Qb K b)(qc:Qb K c)(qd:Qb K d)(hK:K<=100000000):Fn A.C 101 [.agg [.str (ax (a)),.str (ax (b))],.agg [.str (ax (c)),.str (ax (d))]] h N (fun v _ _=>v=.agg [.str (ax (a+c)),.str (ax (b+d))]):=by
 intro w;have ta:=jt qa;have tb:=jt qb;have tc:=jt qc;have td:=jt qd;have kB:ae h N (((h.set N (.cells [.str (ax (a)),.str (ax (b))] 52 true)).set (N+1) (.cells [.str (ax (c)),.str (ax (d))] 52 true)).set (N+1+1) (.cells [.str [],.str []] 52 true)) (N+1+1+1):=((ae.refl.new _).new _).new _;have b0:(((h.set N (.cells [.str (ax (a)),.str (ax (b))] 52 true)).set (N+1) (.cells [.str (ax (c)),.str (ax (d))] 52 true)).set (N+1+1) (.cells [.str [],.str []] 52 true)).get N=some (.cells [.str (ax (a)),.str (ax (b))] 52 true):=by simp
 have b1:(((h.set N (.cells [.str (ax (a)),.str (ax (b))] 52 true)).set (N+1) (.cells [.str (ax (c)),.str (ax (d))] 52 true)).set (N+1+1) (.cells [.str [],.str []] 52 true)).get (N+1)=some (.cells [.str (ax (c)),.str (ax (d))] 52 true):=by simp
 have b2:(((h.set N (.cells [.str (ax (a)),.str (ax (b))] 52 true)).set (N+1) (.cells [.str (ax (c)),.str (ax (d))] 52 true)).set (N+1+1) (.cells [.str [],.str []] 52 true)).get (N+1+1)=some (.cells [.str [],.str []] 52 true):=by simp
 rw[aV,A.k101 (by simp)];simp(disch:=first|(simp;done)|omega|rfl) [-getElem?_pos,A.b101];generalize ((h.set N (.cells [.str (ax (a)),.str (ax (b))] 52 true)).set (N+1) (.cells [.str (ax (c)),.str (ax (d))] 52 true)).set (N+1+1) (.cells [.str [],.str []] 52 true)=HB at*;refine az (AI qa qc (by omega) (by omega)) ?_;rintro _ h1 Kt k1 rfl;have b01:=(k1.get N (by omega)).trans b0;have b11:=(k1.get (N+1) (by omega)).trans b1;have b21:=(k1.get (N+1+1) (by omega)).trans b2;have l1:=k1.le;have e0:N<Kt:=by omega
 have e1:N+1<Kt:=by omega
 have e2:N+1+1<Kt:=by omega
 simp(disch:=first|(simp;done)|omega|rfl) [-getElem?_pos,b01,b11,e0,e1];refine az (AI qb qd (by omega) (by omega)) ?_;rintro _ h2 wY k2 rfl;have b22:=(k2.get (N+1+1) e2).trans b21;have l2:=k2.le;have e22:N+1+1<wY:=by omega
 simp(disch:=first|(simp;done)|omega|rfl) [-getElem?_pos,b22,e22,aJ,aE,ag,bE,bU.bZ,aF];exact((kB.trans k1).trans k2).set (by omega)
def Xa4{c d:Rat}(qa:Qb K a)(qb:Qb K b)(qc:Qb K c)(qd:Qb K d)(hK:K<=100000000):Fn A.C 104 [.agg [.str (ax (a)),.str (ax (b))],.agg [.str (ax (c)),.str (ax (d))]] h N (fun v _ _=>v=.agg [.str (ax (a-d)),.str (ax (b-c))]):=by
 intro w;have ta:=jt qa;have tb:=jt qb;have tc:=jt qc;have td:=jt qd;have kB:ae h N (((h.set N (.cells [.str (ax (a)),.str (ax (b))] 52 true)).set (N+1) (.cells [.str (ax (c)),.str (ax (d))] 52 true)).set (N+1+1) (.cells [.str [],.str []] 52 true)) (N+1+1+1):=((ae.refl.new _).new _).new _;have b0:(((h.set N (.cells [.str (ax (a)),.str (ax (b))] 52 true)).set (N+1) (.cells [.str (ax (c)),.str (ax (d))] 52 true)).set (N+1+1) (.cells [.str [],.str []] 52 true)).get N=some (.cells [.str (ax (a)),.str (ax (b))] 52 true):=by simp
 have b1:(((h.set N (.cells [.str (ax (a)),.str (ax (b))] 52 true)).set (N+1) (.cells [.str (ax (c)),.str (ax (d))] 52 true)).set (N+1+1) (.cells [.str [],.str []] 52 true)).get (N+1)=some (.cells [.str (ax (c)),.str (ax (d))] 52 true):=by simp
 have b2:(((h.set N (.cells [.str (ax (a)),.str (ax (b))] 52 true)).set (N+1) (.cells [.str (ax (c)),.str (ax (d))] 52 true)).set (N+1+1) (.cells [.str [],.str []] 52 true)).get (N+1+1)=some (.cells [.str [],.str []] 52 true):=by simp
 rw[aV,A.k104 (by simp)];simp(disch:=first|(simp;done)|omega|rfl) [-getElem?_pos,A.b104];generalize ((h.set N (.cells [.str (ax (a)),.str (ax (b))] 52 true)).set (N+1) (.cells [.str (ax (c)),.str (ax (d))] 52 true)).set (N+1+1) (.cells [.str [],.str []] 52 true)=HB at*;refine az (Dl qa qd (by omega) (by omega) (by omega)) ?_;rintro _ h1 Kt k1 rfl;have b01:=(k1.get N (by omega)).trans b0;have b11:=(k1.get (N+1) (by omega)).trans b1;have b21:=(k1.get (N+1+1) (by omega)).trans b2;have l1:=k1.le;have e0:N<Kt:=by omega
 have e1:N+1<Kt:=by omega
 have e2:N+1+1<Kt:=by omega
 simp(disch:=first|(simp;done)|omega|rfl) [-getElem?_pos,b01,b11,e0,e1];refine az (Dl qb qc (by omega) (by omega) (by omega)) ?_;rintro _ h2 wY k2 rfl;have b22:=(k2.get (N+1+1) e2).trans b21;have l2:=k2.le;have e22:N+1+1<wY:=by omega
 simp(disch:=first|(simp;done)|omega|rfl) [-getElem?_pos,b22,e22,aJ,aE,ag,bE,bU.bZ,aF];exact((kB.trans k1).trans k2).set (by omega)
variable {K N:Nat} {a b:Rat} {h:T O}
def Xba{v:V}{l:List Rat}(hs:Tx h N v l)(h0:0<l.length)(bl:∀y∈l,Qb K y)(hl:l.length<1000)(hK:K<=100000000):Fn A.C 178 [v] h N (fun x _ _=>x=.agg [.str (ax (Ztl l (l.length-1))),.str (ax (Zva l (l.length-1)))]):=by
 intro w;have lv:=hs.len;try rw[rS]at lv
 have c2:(0:Int)<(l.length:Int):=by omega
 obtain⟨i0,o0,y0,z0,q0,b1,b2,b3,b4⟩:=hs.at (vV (eL (p:=l) (i:=0) h0));rw[tF]at b4;have kB:ae h N (((h.set N (.cells [.str [],.str []] 52 true)).set (N+1) (.cells [.str [],.str []] 52 true)).set (N+1) (.cells [.str (ax (pg l 0)),.str (ax (pg l 0))] 52 true)) (N+1+1):=((ae.refl.new _).new _).set (by omega);have gR:(((h.set N (.cells [.str [],.str []] 52 true)).set (N+1) (.cells [.str [],.str []] 52 true)).set (N+1) (.cells [.str (ax (pg l 0)),.str (ax (pg l 0))] 52 true)).get N=some (.cells [.str [],.str []] 52 true):=by simp
 have gM:(((h.set N (.cells [.str [],.str []] 52 true)).set (N+1) (.cells [.str [],.str []] 52 true)).set (N+1) (.cells [.str (ax (pg l 0)),.str (ax (pg l 0))] 52 true)).get (N+1)=some (.cells [.str (ax (pg l 0)),.str (ax (pg l 0))] 52 true):=by simp
 have NK:¬i0=N:=by omega
 have zgd:i0<N+1:=by omega
 rw[aV,A.k178 (by simp)];simp(disch:=first|(simp;done)|omega|rfl) [-getElem?_pos,A.b178,lv,c2,h0,NK,zgd,b1,b2,b3,b4,aJ,aE,ag,bE];generalize ((h.set N (.cells [.str [],.str []] 52 true)).set (N+1) (.cells [.str [],.str []] 52 true)).set (N+1) (.cells [.str (ax (pg l 0)),.str (ax (pg l 0))] 52 true)=H2 at*;refine c_ [(4,4),(12,33)] (fun e r st=>e=.exit 0/\aD N st.w=[]/\ae h N st.h st.n/\N+1<st.n/\st.h.get N=some (.cells [.str [],.str []] 52 true)/\st.h.get (N+1)=some (.cells [.str (ax (Ztl l (l.length-1))),.str (ax (Zva l (l.length-1)))] 52 true)) (fun m r st=>aD N st.w=[]/\ae h N st.h st.n/\N+1<st.n/\st.h.get N=some (.cells [.str [],.str []] 52 true)/\∃t,t+1+m=l.length/\r.get 4=some (.int .i64 ((t:Int)+1))/\st.h.get (N+1)=some (.cells [.str (ax (Ztl l t)),.str (ax (Zva l t))] 52 true)) (l.length-1) ?_ ?_ ?_
 ·exact⟨Dr fun i hi=>by simp at hi;omega,kB,by show N+1<N+1+1;omega,gR,0,by omega,by simp,gM⟩
 ·rintro m r ⟨H,n2,W⟩ hr hf ⟨hW,hK',hn,gN,t,ht,h4,gs⟩;simp only at hW hK' hn gN gs;rw[dk];cases m with
  |zero=>
   have e1:l.length-1=t:=by omega
   have c3:¬(t:Int)+1<(l.length:Int):=by omega
   rw[e1];simp(disch:=first|(simp;done)|omega|rfl) [-getElem?_pos,A.zgw,hr,hf,h4,lv,c3,hW,hK',hn,gN,gs]
  |succ m=>
   have aP:t+1<l.length:=by omega
   have dE:(t:Int)+1<(l.length:Int):=by omega
   have oW:(0:Int)<=(t:Int)+1:=by omega
   have NO:((t:Int)+1).toNat=t+1:=by omega
   obtain⟨i0,o0,y0,z0,q0,b1,b2,b3,b4⟩:=(hs.ah hK').at (vV (eL (p:=l) (i:=t+1) aP));have bq:=bl _ (eZ (eL (p:=l) (i:=t+1) aP));have bm:=ND bl (k:=t) (by omega);have bM:=NG bl (k:=t) (by omega);simp(disch:=first|(simp;done)|omega|rfl) [-getElem?_pos,A.zgw,hr,hf,h4,aP,dE,oW,NO,lv,b1,b2,b3,b4,gs,hn];refine az (Xaz bm bq hK) ?_;rintro _ h3 n3 k3 rfl;have xX:=k3.le;have gs3:=(k3.get (N+1) hn).trans gs;have b3':=(k3.get i0 b2).trans b3;have b2':i0<n3:=by omega
   have l3:N+1<n3:=by omega
   simp(disch:=first|(simp;done)|omega|rfl) [-getElem?_pos,hr,hf,h4,aP,dE,oW,NO,lv,b1,b2',b3',b4,gs3,l3];refine az (Xa0 bM bq hK) ?_;rintro _ h5 n5 k5 rfl;have NC:=k5.le;have K5:=(hK'.trans k3).trans k5;have gs5:=(k5.get (N+1) l3).trans gs3;have gN5:=((k3.trans k5).get N (by omega)).trans gN;have l5:N+1<n5:=by omega
   have nN2:¬N=N+1:=by omega
   simp(disch:=first|(simp;done)|omega|rfl) [-getElem?_pos,hr,hf,h4,gs5,l5,ag,bE];exact⟨m,by omega,hW,(K5.set (by omega)).set (by omega),gN5,t+1,by omega,by simp,by rw[Ztl,Zva];exact⟨rfl,rfl⟩⟩
 rintro _ r ⟨H,n2,W⟩ hr ⟨rfl,hW,hK',hn,gN,gs⟩;simp only at hW hK' hn gN gs;have lN:N<n2:=by omega
 simp(disch:=first|(simp;done)|omega|rfl) [-getElem?_pos,hr,gs,hn,gN,lN,aJ,aE,ag,bE,aF];exact⟨hW,hK'.set (aZ _)⟩
def Xa9(qa:Qb K a)(qb:Qb K b)(hK:K<=100000000):Fn A.C 102 [.agg [.str (ax (a)),.str (ax (b))]] h N (fun v _ _=>v=.str (ax (Zjp a b))):=by intro w;have ta:=jt qa;have tb:=jt qb;have ea:=fun st=>Li (q:=a) (st:=st) (by omega);have eb:=fun st=>Li (q:=b) (st:=st) (by omega);have kB:ae h N (h.set N (.cells [.str (ax (a)),.str (ax (b))] 52 true)) (N+1):=ae.refl.new _;rw[aV,A.k102 (by simp)];simp(disch:=first|(simp;done)|omega|rfl) [-getElem?_pos,A.b102,ea,eb];generalize h.set N (.cells [.str (ax (a)),.str (ax (b))] 52 true)=HB at*;refine az (Xa0 (tJ qa) (tJ qb) hK) ?_;rintro _ h1 n1 k1 rfl;simp(disch:=first|(simp;done)|omega|rfl) [-getElem?_pos,aF];exact⟨kB.trans k1,rfl⟩
def Xa5{h:T O}{N K:Nat}{a b:Rat}(qa:Qb K a)(qb:Qb K b)(hK:K<=100000000):Fn A.C 103 [.agg [.str (ax (a)),.str (ax (b))]] h N (fun v _ _=>v=.str (ax (Za5 a b))):=by
 intro w;have ta:=jt qa;have tb:=jt qb;have ea:=fun st=>Li (q:=a) (st:=st) (by omega);have eb:=fun st=>Li (q:=b) (st:=st) (by omega);have kB:ae h N (h.set N (.cells [.str (ax (a)),.str (ax (b))] 52 true)) (N+1):=ae.refl.new _;have b0:(h.set N (.cells [.str (ax (a)),.str (ax (b))] 52 true)).get N=some (.cells [.str (ax (a)),.str (ax (b))] 52 true):=by simp
 rw[aV,A.k103 (by simp)];simp(disch:=first|(simp;done)|omega|rfl) [-getElem?_pos,A.b103,aJ,aE];generalize h.set N (.cells [.str (ax (a)),.str (ax (b))] 52 true)=HB at*;refine az (Xbg qa qb hK) ?_;rintro _ h1 n1 k1 rfl;have b1:=(k1.get N (by omega)).trans b0;have e1:N<n1:=by have:=k1.le;omega
 cases hz:Yme a b with
 |true=>
  have el:Za5 a b=0:=by unfold Za5;rw[aQ hz]
  rw[el,Ij];simp(disch:=first|(simp;done)|omega|rfl) [-getElem?_pos,aF];exact kB.trans k1
 |false=>
  have el:Za5 a b=if iE b<iE a then iE b else iE a:=by unfold Za5;rw[aA (by rw[hz];decide)];rfl
  rw[el];simp(disch:=first|(simp;done)|omega|rfl) [-getElem?_pos,b1,e1,ea,eb];refine az (Xaz (tJ qa) (tJ qb) hK) ?_;rintro _ h2 n2 k2 rfl;simp(disch:=first|(simp;done)|omega|rfl) [-getElem?_pos,aF];exact(kB.trans k1).trans k2
def Xax{c d:Rat}(qa:Qb K a)(qb:Qb K b)(qc:Qb K c)(qd:Qb K d)(hK:K<=40000000):Fn A.C 105 [.agg [.str (ax (a)),.str (ax (b))],.agg [.str (ax (c)),.str (ax (d))]] h N (fun v _ _=>v=.agg [.str (ax (Ywo a b c d)),.str (ax (Yws a b c d))]):=by
 intro w;have kB:ae h N (((h.set N (.cells [.str (ax (a)),.str (ax (b))] 52 true)).set (N+1) (.cells [.str (ax (c)),.str (ax (d))] 52 true)).set (N+1+1) (.cells [.str [],.str []] 52 true)) (N+1+1+1):=((ae.refl.new _).new _).new _;have b0:(((h.set N (.cells [.str (ax (a)),.str (ax (b))] 52 true)).set (N+1) (.cells [.str (ax (c)),.str (ax (d))] 52 true)).set (N+1+1) (.cells [.str [],.str []] 52 true)).get N=some (.cells [.str (ax (a)),.str (ax (b))] 52 true):=by simp
 have b1:(((h.set N (.cells [.str (ax (a)),.str (ax (b))] 52 true)).set (N+1) (.cells [.str (ax (c)),.str (ax (d))] 52 true)).set (N+1+1) (.cells [.str [],.str []] 52 true)).get (N+1)=some (.cells [.str (ax (c)),.str (ax (d))] 52 true):=by simp
 have b2:(((h.set N (.cells [.str (ax (a)),.str (ax (b))] 52 true)).set (N+1) (.cells [.str (ax (c)),.str (ax (d))] 52 true)).set (N+1+1) (.cells [.str [],.str []] 52 true)).get (N+1+1)=some (.cells [.str [],.str []] 52 true):=by simp
 rw[aV,A.k105 (by simp)];simp(disch:=first|(simp;done)|omega|rfl) [-getElem?_pos,A.b105];generalize ((h.set N (.cells [.str (ax (a)),.str (ax (b))] 52 true)).set (N+1) (.cells [.str (ax (c)),.str (ax (d))] 52 true)).set (N+1+1) (.cells [.str [],.str []] 52 true)=HB at*;refine az (uM qa qc (by omega) (by omega)) ?_;rintro _ h1 Kt k1 rfl;have l1:=k1.le;have b01:=(k1.get N (by omega)).trans b0;have b11:=(k1.get (N+1) (by omega)).trans b1;have e01:N<Kt:=by omega
 have RG:N+1<Kt:=by omega
 simp(disch:=first|(simp;done)|omega|rfl) [-getElem?_pos,b01,b11,e01,RG];refine az (uM qa qd (by omega) (by omega)) ?_;rintro _ h2 wY k2 rfl;have l2:=k2.le;have b02:=(k2.get N (by omega)).trans b01;have b12:=(k2.get (N+1) (by omega)).trans b11;have e02:N<wY:=by omega
 have Nz:N+1<wY:=by omega
 simp(disch:=first|(simp;done)|omega|rfl) [-getElem?_pos,b02,b12,e02,Nz];refine az (uM qb qc (by omega) (by omega)) ?_;rintro _ h3 sM k3 rfl;have l3:=k3.le;have b03:=(k3.get N (by omega)).trans b02;have b13:=(k3.get (N+1) (by omega)).trans b12;have e03:N<sM:=by omega
 have e13:N+1<sM:=by omega
 simp(disch:=first|(simp;done)|omega|rfl) [-getElem?_pos,b03,b13,e03,e13];refine az (uM qb qd (by omega) (by omega)) ?_;rintro _ h4 n4' k4 rfl;have K4:=((k1.trans k2).trans k3).trans k4;have l4:=K4.le;have b24:=(K4.get (N+1+1) (by omega)).trans b2;have kS:ae h4 n4' (h4.set n4' (.cells [.str (ax (a*c)),.str (ax (a*d)),.str (ax (b*c)),.str (ax (b*d))] 22 true)) (n4'+1):=ae.refl.new _;have fs:Tx (h4.set n4' (.cells [.str (ax (a*c)),.str (ax (a*d)),.str (ax (b*c)),.str (ax (b*d))] 22 true)) (n4'+1) (.slice n4' 0 4 (some 4) 1) [a*c,a*d,b*c,b*d]:=Sl.row (e:=22) (rw:=true) (cp:=some 4) (by omega) (by simp[tx,strs]) rfl (by simp);have b25:=(kS.get (N+1+1) (by omega)).trans b24;have hq:∀y∈[a*c,a*d,b*c,b*d],Qb (K+K) y:=fun y hy=>by
  simp at hy;rcases hy with rfl|rfl|rfl|rfl
  ·exact qa.mul qc
  ·exact qa.mul qd
  ·exact qb.mul qc
  exact qb.mul qd
 simp(disch:=first|(simp;done)|omega|rfl) [-getElem?_pos,ag,bU.bZ];refine az (Xba fs (by simp) hq (by simp) (by omega)) ?_;rintro _ h5 n5' k5 rfl;have l5:=k5.le;have b26:=(k5.get (N+1+1) (by omega)).trans b25;have e26:N+1+1<n5':=by omega
 simp(disch:=first|(simp;done)|omega|rfl) [-getElem?_pos,b26,e26,aJ,aE,ag,bE,aF];exact⟨(((kB.trans K4).trans kS).trans k5).set (by omega),rfl,rfl⟩
end
end Go.Mx
