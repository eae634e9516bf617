/-loop-/
import Derived.Test.YtlbnjhhebffhdaaGreatDoorLvA
set_option linter.all false
set_option maxHeartbeats 8000000
namespace Go.Mx
noncomputable section
open Go Go.Proofs
variable {N:Nat} {h:T O}
set_option maxRecDepth 1000000
def A.b112:=A.q Tryz.f112
def A.k112:=@A.kk 112 32 [.cell 4 (some 8)] A.b112 (by kernel_rfl) rfl
def A.b132:=A.q Tryz.f132
def A.k132:=@A.kk 132 13 [.tmp 2] A.b132 (by kernel_rfl) rfl
def A.b110:=A.q Tryz.f110
def A.k110:=@A.kk 110 11 [.cell 2 (some 4)] A.b110 (by kernel_rfl) rfl
def A.b111:=A.q Tryz.f111
def A.k111:=@A.kk 111 14 [.cell 2 (some 4)] A.b111 (by kernel_rfl) rfl
def mV.Np{i:Nat}{e:TypeId}{rw:Bool}{a1 a2 a3 a4:Int}{x1 x2 x3 x4:V}{p q:Rat}(hi:i<N)(g:h.get i=some (.cells [.int .i64 a1,x1,.int .i64 a2,x2,.int .i64 a3,x3,.int .i64 a4,x4] e rw))(f1:fz h N [.int .i64 a1,x1,.int .i64 a2,x2] p)(f2:fz h N [.int .i64 a3,x3,.int .i64 a4,x4] q):mV h N (.slice i 0 2 (some 2) 4) [p,q]:=by
 refine⟨[[.int .i64 a1,x1,.int .i64 a2,x2],[.int .i64 a3,x3,.int .i64 a4,x4]],.inr ⟨i,0,some 2,_,e,rw,rfl,hi,g,fun j x hj=>?_,by simp,by simp⟩,rfl,fun j y hj=>?_⟩
 ·rcases j with _|_|j
  ·simp at hj;subst hj;simp[aK]
  ·simp at hj;subst hj;simp[aK]
  ·simp at hj
 ·rcases j with _|_|j
  ·simp at hj;subst hj;exact⟨_,rfl,f1⟩
  ·simp at hj;subst hj;exact⟨_,rfl,f2⟩
  ·simp at hj
def mV.zdY{i:Nat}{e:TypeId}{rw:Bool}{a1 a2 a3 a4 a5 a6 a7 a8:Int}{x1 x2 x3 x4 x5 x6 x7 x8:V}{p q r s:Rat}(hi:i<N)(g:h.get i=some (.cells [.int .i64 a1,x1,.int .i64 a2,x2,.int .i64 a3,x3,.int .i64 a4,x4,.int .i64 a5,x5,.int .i64 a6,x6,.int .i64 a7,x7,.int .i64 a8,x8] e rw))(f1:fz h N [.int .i64 a1,x1,.int .i64 a2,x2] p)(f2:fz h N [.int .i64 a3,x3,.int .i64 a4,x4] q)(f3:fz h N [.int .i64 a5,x5,.int .i64 a6,x6] r)(f4:fz h N [.int .i64 a7,x7,.int .i64 a8,x8] s):mV h N (.slice i 0 4 (some 4) 4) [p,q,r,s]:=by
 refine⟨[[.int .i64 a1,x1,.int .i64 a2,x2],[.int .i64 a3,x3,.int .i64 a4,x4],[.int .i64 a5,x5,.int .i64 a6,x6],[.int .i64 a7,x7,.int .i64 a8,x8]],.inr ⟨i,0,some 4,_,e,rw,rfl,hi,g,fun j x hj=>?_,by simp,by simp⟩,rfl,fun j y hj=>?_⟩
 ·rcases j with _|_|_|_|j
  ·simp at hj;subst hj;simp[aK]
  ·simp at hj;subst hj;simp[aK]
  ·simp at hj;subst hj;simp[aK]
  ·simp at hj;subst hj;simp[aK]
  ·simp at hj
 ·rcases j with _|_|_|_|j
  ·simp at hj;subst hj;exact⟨_,rfl,f1⟩
  ·simp at hj;subst hj;exact⟨_,rfl,f2⟩
  ·simp at hj;subst hj;exact⟨_,rfl,f3⟩
  ·simp at hj;subst hj;exact⟨_,rfl,f4⟩
  ·simp at hj
def Yca{q:Rat}:sg3 q.num<=0↔q<=0:=by
 have e:q<=0↔q.num<=0:=by rw[Rat.le_iff];simp
 rw[e];unfold sg3;split
 ·constructor<;>intro h<;>omega
 ·split<;>constructor<;>intro h<;>omega
def Ykn{q:Rat}:0<=sg3 q.num↔0<=q:=by
 have e:0<=q↔0<=q.num:=by rw[Rat.le_iff];simp
 rw[e];unfold sg3;split
 ·constructor<;>intro h<;>omega
 ·split<;>constructor<;>intro h<;>omega
def AD(a b:Rat):Bool:=decide (a<=0/\0<=b)
def s_(a b:Rat):Rat:=pY [zgb a,zgb b] 1
def mZ(a b:Rat):Rat:=if AD a b=true then 0 else mX [zgb a,zgb b] 1
def yF(a b c d:Rat):Rat:=mX [a*c,a*d,b*c,b*d] 3
def yG(a b c d:Rat):Rat:=pY [a*c,a*d,b*c,b*d] 3
def Yju{x:V}{a b:Rat}(hx:Bc h N x a b):Fn A.C 132 [x] h N (fun v _ _=>v=.bool (AD a b)):=by
 intro w
 obtain⟨n1,u1,n2,u2,n3,u3,n4,u4,rfl,s1,s2,s3,s4⟩:=hx
 have o1:=Zaj s1
 have o2:=Zaj s2
 have o3:=Zaj s3
 have o4:=Zaj s4
 unfold V.one at o1 o2 o3 o4
 have kB:ah h N (h.set N (.cells [.int .i64 n1,u1,.int .i64 n2,u2,.int .i64 n3,u3,.int .i64 n4,u4] 142 true)) (N+1):=ah.refl.new _
 have b0:(h.set N (.cells [.int .i64 n1,u1,.int .i64 n2,u2,.int .i64 n3,u3,.int .i64 n4,u4] 142 true)).get N=some (.cells [.int .i64 n1,u1,.int .i64 n2,u2,.int .i64 n3,u3,.int .i64 n4,u4] 142 true):=by simp
 rw[aZ,A.k132 (by simp)]
 simp(disch:=first|(simp;done)|omega|rfl) [-getElem?_pos,A.b132,o1,o2,o3,o4,aI,aK]
 generalize h.set N (.cells [.int .i64 n1,u1,.int .i64 n2,u2,.int .i64 n3,u3,.int .i64 n4,u4] 142 true)=HB at*
 have fa:Fc HB (N+1) (.agg [.int .i64 n1,u1,.int .i64 n2,u2]) a:=⟨n1,u1,n2,u2,rfl,s1.ai kB,s2.ai kB⟩
 have fb:Fc HB (N+1) (.agg [.int .i64 n3,u3,.int .i64 n4,u4]) b:=⟨n3,u3,n4,u4,rfl,s3.ai kB,s4.ai kB⟩
 refine av (Nm fa) ?_
 rintro _ h1 gw k1 rfl
 have b1:=(k1.get N (by omega)).trans b0
 have e1:N<gw:=by have:=k1.le;omega
 by_cases c1:a<=0
 ·have t1:=Yca.2 c1
  simp(disch:=first|(simp;done)|omega|rfl) [-getElem?_pos,t1,b1,e1,aI,aK]
  refine av (Nm (fb.ai k1)) ?_
  rintro _ h2 fj k2 rfl
  have K2:=(kB.trans k1).trans k2
  by_cases c2:0<=b
  ·have t2:=Ykn.2 c2
   simp(disch:=first|(simp;done)|omega|rfl) [-getElem?_pos,t2,AD,c1,c2,Ret]
   exact K2
  ·have t2:=mt Ykn.1 c2
   simp(disch:=first|(simp;done)|omega|rfl) [-getElem?_pos,t2,AD,c1,c2,Ret]
   exact K2
 ·have t1:=mt Yca.1 c1
  simp(disch:=first|(simp;done)|omega|rfl) [-getElem?_pos,t1,AD,c1,Ret]
  exact kB.trans k1
def yH{q:Rat}{k:Nat}(h:Qb k q):Qb k (zgb q):=by
 unfold zgb;split
 ·exact h.neg
 ·exact h
def Yjx{K:Nat}{x:V}{a b:Rat}(hx:Bc h N x a b)(qa:Qb K a)(qb:Qb K b)(hK:K<=100000000):Fn A.C 110 [x] h N (fun v h' n'=>Fc h' n' v (s_ a b)):=by
 intro w
 obtain⟨n1,u1,n2,u2,n3,u3,n4,u4,rfl,s1,s2,s3,s4⟩:=hx
 have o1:=Zaj s1
 have o2:=Zaj s2
 have o3:=Zaj s3
 have o4:=Zaj s4
 unfold V.one at o1 o2 o3 o4
 have wa:=qa.eX
 have wb:=qb.eX
 have kB:ah h N ((h.set N (.cells [.int .i64 n1,u1,.int .i64 n2,u2,.int .i64 n3,u3,.int .i64 n4,u4] 142 true)).set (N+1) (.cells [.int .i64 0,.ziA,.int .i64 0,.ziA] 102 true)) (N+1+1):=(ah.refl.new _).new _
 have b0:((h.set N (.cells [.int .i64 n1,u1,.int .i64 n2,u2,.int .i64 n3,u3,.int .i64 n4,u4] 142 true)).set (N+1) (.cells [.int .i64 0,.ziA,.int .i64 0,.ziA] 102 true)).get N=some (.cells [.int .i64 n1,u1,.int .i64 n2,u2,.int .i64 n3,u3,.int .i64 n4,u4] 142 true):=by simp
 have b1:((h.set N (.cells [.int .i64 n1,u1,.int .i64 n2,u2,.int .i64 n3,u3,.int .i64 n4,u4] 142 true)).set (N+1) (.cells [.int .i64 0,.ziA,.int .i64 0,.ziA] 102 true)).get (N+1)=some (.cells [.int .i64 0,.ziA,.int .i64 0,.ziA] 102 true):=by simp
 rw[aZ,A.k110 (by simp)]
 simp(disch:=first|(simp;done)|omega|rfl) [-getElem?_pos,A.b110,o1,o2,o3,o4,aI,aK]
 generalize (h.set N (.cells [.int .i64 n1,u1,.int .i64 n2,u2,.int .i64 n3,u3,.int .i64 n4,u4] 142 true)).set (N+1) (.cells [.int .i64 0,.ziA,.int .i64 0,.ziA] 102 true)=HB at*
 have fa:Fc HB (N+1+1) (.agg [.int .i64 n1,u1,.int .i64 n2,u2]) a:=⟨n1,u1,n2,u2,rfl,s1.ai kB,s2.ai kB⟩
 have fb:Fc HB (N+1+1) (.agg [.int .i64 n3,u3,.int .i64 n4,u4]) b:=⟨n3,u3,n4,u4,rfl,s3.ai kB,s4.ai kB⟩
 refine av (Nr fa (by omega)) ?_
 rintro _ h1 gw k1 ⟨a1,x1,a2,x2,rfl,r1,r2⟩
 have b01:=(k1.get N (by omega)).trans b0
 have b11:=(k1.get (N+1) (by omega)).trans b1
 have l1:=k1.le
 have e0:N<gw:=by omega
 have e1:N+1<gw:=by omega
 simp(disch:=first|(simp;done)|omega|rfl) [-getElem?_pos,b01,e0,aI,aK]
 refine av (Nr (fb.ai k1) (by omega)) ?_
 rintro _ h2 fj k2 ⟨a3,x3,a4,x4,rfl,r3,r4⟩
 have b12:=(k2.get (N+1) e1).trans b11
 have l2:=k2.le
 have q1:=Zaj r1
 have q2:=Zaj r2
 have q3:=Zaj r3
 have q4:=Zaj r4
 unfold V.one at q1 q2 q3 q4
 have kS:ah h2 fj (h2.set fj (.cells [.int .i64 a1,x1,.int .i64 a2,x2,.int .i64 a3,x3,.int .i64 a4,x4] 102 true)) (fj+1):=ah.refl.new _
 have fs:mV (h2.set fj (.cells [.int .i64 a1,x1,.int .i64 a2,x2,.int .i64 a3,x3,.int .i64 a4,x4] 102 true)) (fj+1) (.slice fj 0 2 (some 2) 4) [zgb a,zgb b]:=mV.Np (e:=102) (rw:=true) (by omega) (by simp) ⟨a1,x1,a2,x2,rfl,(r1.ai k2).ai kS,(r2.ai k2).ai kS⟩ ⟨a3,x3,a4,x4,rfl,r3.ai kS,r4.ai kS⟩
 have b13:=(kS.get (N+1) (by omega)).trans b12
 simp(disch:=first|(simp;done)|omega|rfl) [-getElem?_pos,q1,q2,q3,q4,aj,b_.chk]
 refine av (Yeb fs (by simp) (fun y hy=>by
  simp at hy
  rcases hy with rfl|rfl
  ·exact yH qa
  ·exact yH qb) (by simp) hK) ?_
 rintro _ h3 AE k3 ⟨a5,x5,a6,x6,rfl,r5,r6⟩
 have l3:=k3.le
 have b14:=(k3.get (N+1) (by omega)).trans b13
 have e3:N+1<AE:=by omega
 have q5:=Zaj r5
 have q6:=Zaj r6
 unfold V.one at q5 q6
 simp(disch:=first|(simp;done)|omega|rfl) [-getElem?_pos,b14,e3,q5,q6,aI,aK,aj,bM,Ret]
 exact⟨((kB.trans k1).trans (k2.trans kS)).trans k3 |>.set (by omega),a5,x5,a6,x6,rfl,r5.ay b14 nu0 rfl,r6.ay b14 nu0 rfl⟩
def Ygd{h:T O}{N K:Nat}{x:V}{a b:Rat}(hx:Bc h N x a b)(qa:Qb K a)(qb:Qb K b)(hK:K<=100000000):Fn A.C 111 [x] h N (fun v h' n'=>Fc h' n' v (mZ a b)):=by
 intro w
 have oI:=hx
 obtain⟨n1,u1,n2,u2,n3,u3,n4,u4,rfl,s1,s2,s3,s4⟩:=hx
 have o1:=Zaj s1
 have o2:=Zaj s2
 have o3:=Zaj s3
 have o4:=Zaj s4
 unfold V.one at o1 o2 o3 o4
 have wa:=qa.eX
 have wb:=qb.eX
 have kB:ah h N ((h.set N (.cells [.int .i64 n1,u1,.int .i64 n2,u2,.int .i64 n3,u3,.int .i64 n4,u4] 142 true)).set (N+1) (.cells [.int .i64 0,.ziA,.int .i64 0,.ziA] 102 true)) (N+1+1):=(ah.refl.new _).new _
 have b0:((h.set N (.cells [.int .i64 n1,u1,.int .i64 n2,u2,.int .i64 n3,u3,.int .i64 n4,u4] 142 true)).set (N+1) (.cells [.int .i64 0,.ziA,.int .i64 0,.ziA] 102 true)).get N=some (.cells [.int .i64 n1,u1,.int .i64 n2,u2,.int .i64 n3,u3,.int .i64 n4,u4] 142 true):=by simp
 have b1:((h.set N (.cells [.int .i64 n1,u1,.int .i64 n2,u2,.int .i64 n3,u3,.int .i64 n4,u4] 142 true)).set (N+1) (.cells [.int .i64 0,.ziA,.int .i64 0,.ziA] 102 true)).get (N+1)=some (.cells [.int .i64 0,.ziA,.int .i64 0,.ziA] 102 true):=by simp
 rw[aZ,A.k111 (by simp)]
 simp(disch:=first|(simp;done)|omega|rfl) [-getElem?_pos,A.b111,o1,o2,o3,o4,aI,aK]
 generalize (h.set N (.cells [.int .i64 n1,u1,.int .i64 n2,u2,.int .i64 n3,u3,.int .i64 n4,u4] 142 true)).set (N+1) (.cells [.int .i64 0,.ziA,.int .i64 0,.ziA] 102 true)=HB at*
 refine av (Yju (oI.ai kB)) ?_
 rintro _ h0 n0 k0 rfl
 have KB:=kB.trans k0
 have l0:=k0.le
 have b00:=(k0.get N (by omega)).trans b0
 have b10:=(k0.get (N+1) (by omega)).trans b1
 have e00:N<n0:=by omega
 have De:N+1<n0:=by omega
 have fa:Fc h0 n0 (.agg [.int .i64 n1,u1,.int .i64 n2,u2]) a:=⟨n1,u1,n2,u2,rfl,s1.ai KB,s2.ai KB⟩
 have fb:Fc h0 n0 (.agg [.int .i64 n3,u3,.int .i64 n4,u4]) b:=⟨n3,u3,n4,u4,rfl,s3.ai KB,s4.ai KB⟩
 cases hz:AD a b with
 |true=>
  have el:mZ a b=0:=by unfold mZ;rw[aR hz]
  rw[el]
  simp(disch:=first|(simp;done)|omega|rfl) [-getElem?_pos,]
  refine av (BI (z:=0) (by decide) (by decide)) ?_
  rintro _ h3 AE k3 ⟨a5,x5,a6,x6,rfl,r5,r6⟩
  have l3:=k3.le
  have b14:=(k3.get (N+1) (by omega)).trans b10
  have e3:N+1<AE:=by omega
  have q5:=Zaj r5
  have q6:=Zaj r6
  unfold V.one at q5 q6
  simp(disch:=first|(simp;done)|omega|rfl) [-getElem?_pos,b14,e3,q5,q6,aI,aK,aj,bM,Ret]
  exact⟨(KB.trans k3).set (by omega),a5,x5,a6,x6,rfl,r5.ay b14 nu0 rfl,r6.ay b14 nu0 rfl⟩
 |false=>
  have el:mZ a b=mX [zgb a,zgb b] 1:=by unfold mZ;rw[aA (by rw[hz];decide)]
  rw[el]
  simp(disch:=first|(simp;done)|omega|rfl) [-getElem?_pos,b00,e00,aI,aK]
  refine av (Nr fa (by omega)) ?_
  rintro _ h1 gw k1 ⟨a1,x1,a2,x2,rfl,r1,r2⟩
  have b01:=(k1.get N (by omega)).trans b00
  have b11:=(k1.get (N+1) (by omega)).trans b10
  have l1:=k1.le
  have e0:N<gw:=by omega
  have e1:N+1<gw:=by omega
  simp(disch:=first|(simp;done)|omega|rfl) [-getElem?_pos,b01,e0,aI,aK]
  refine av (Nr (fb.ai k1) (by omega)) ?_
  rintro _ h2 fj k2 ⟨a3,x3,a4,x4,rfl,r3,r4⟩
  have b12:=(k2.get (N+1) e1).trans b11
  have l2:=k2.le
  have q1:=Zaj r1
  have q2:=Zaj r2
  have q3:=Zaj r3
  have q4:=Zaj r4
  unfold V.one at q1 q2 q3 q4
  have kS:ah h2 fj (h2.set fj (.cells [.int .i64 a1,x1,.int .i64 a2,x2,.int .i64 a3,x3,.int .i64 a4,x4] 102 true)) (fj+1):=ah.refl.new _
  have fs:mV (h2.set fj (.cells [.int .i64 a1,x1,.int .i64 a2,x2,.int .i64 a3,x3,.int .i64 a4,x4] 102 true)) (fj+1) (.slice fj 0 2 (some 2) 4) [zgb a,zgb b]:=mV.Np (e:=102) (rw:=true) (by omega) (by simp) ⟨a1,x1,a2,x2,rfl,(r1.ai k2).ai kS,(r2.ai k2).ai kS⟩ ⟨a3,x3,a4,x4,rfl,r3.ai kS,r4.ai kS⟩
  have b13:=(kS.get (N+1) (by omega)).trans b12
  simp(disch:=first|(simp;done)|omega|rfl) [-getElem?_pos,q1,q2,q3,q4,aj,b_.chk]
  refine av (Yd7 fs (by simp) (fun y hy=>by
   simp at hy
   rcases hy with rfl|rfl
   ·exact yH qa
   ·exact yH qb) (by simp) hK) ?_
  rintro _ h3 AE k3 ⟨a5,x5,a6,x6,rfl,r5,r6⟩
  have l3:=k3.le
  have b14:=(k3.get (N+1) (by omega)).trans b13
  have e3:N+1<AE:=by omega
  have q5:=Zaj r5
  have q6:=Zaj r6
  unfold V.one at q5 q6
  simp(disch:=first|(simp;done)|omega|rfl) [-getElem?_pos,b14,e3,q5,q6,aI,aK,aj,bM,Ret]
  exact⟨(((KB.trans k1).trans (k2.trans kS)).trans k3).set (by omega),a5,x5,a6,x6,rfl,r5.ay b14 nu0 rfl,r6.ay b14 nu0 rfl⟩
def Zyh{h:T O}{N K:Nat}{x y:V}{a b c d:Rat}(hx:Bc h N x a b)(hy:Bc h N y c d)(qa:Qb K a)(qb:Qb K b)(qc:Qb K c)(qd:Qb K d)(hK:K<=40000000):Fn A.C 112 [x,y] h N (fun v h' n'=>Bc h' n' v (yF a b c d) (yG a b c d)):=by
 intro w
 obtain⟨n1,u1,n2,u2,n3,u3,n4,u4,rfl,s1,s2,s3,s4⟩:=hx
 obtain⟨m1,v1,m2,v2,m3,v3,m4,v4,rfl,t1,t2,t3,t4⟩:=hy
 have o1:=Zaj s1
 have o2:=Zaj s2
 have o3:=Zaj s3
 have o4:=Zaj s4
 have p1:=Zaj t1
 have p2:=Zaj t2
 have p3:=Zaj t3
 have p4:=Zaj t4
 unfold V.one at o1 o2 o3 o4 p1 p2 p3 p4
 have wa:=qa.eX
 have wb:=qb.eX
 have wc:=qc.eX
 have wd:=qd.eX
 have kB:ah h N (((h.set N (.cells [.int .i64 n1,u1,.int .i64 n2,u2,.int .i64 n3,u3,.int .i64 n4,u4] 142 true)).set (N+1) (.cells [.int .i64 m1,v1,.int .i64 m2,v2,.int .i64 m3,v3,.int .i64 m4,v4] 142 true)).set (N+1+1) (.cells [.int .i64 0,.ziA,.int .i64 0,.ziA,.int .i64 0,.ziA,.int .i64 0,.ziA] 142 true)) (N+1+1+1):=((ah.refl.new _).new _).new _
 have b0:(((h.set N (.cells [.int .i64 n1,u1,.int .i64 n2,u2,.int .i64 n3,u3,.int .i64 n4,u4] 142 true)).set (N+1) (.cells [.int .i64 m1,v1,.int .i64 m2,v2,.int .i64 m3,v3,.int .i64 m4,v4] 142 true)).set (N+1+1) (.cells [.int .i64 0,.ziA,.int .i64 0,.ziA,.int .i64 0,.ziA,.int .i64 0,.ziA] 142 true)).get N=some (.cells [.int .i64 n1,u1,.int .i64 n2,u2,.int .i64 n3,u3,.int .i64 n4,u4] 142 true):=by simp
 have b1:(((h.set N (.cells [.int .i64 n1,u1,.int .i64 n2,u2,.int .i64 n3,u3,.int .i64 n4,u4] 142 true)).set (N+1) (.cells [.int .i64 m1,v1,.int .i64 m2,v2,.int .i64 m3,v3,.int .i64 m4,v4] 142 true)).set (N+1+1) (.cells [.int .i64 0,.ziA,.int .i64 0,.ziA,.int .i64 0,.ziA,.int .i64 0,.ziA] 142 true)).get (N+1)=some (.cells [.int .i64 m1,v1,.int .i64 m2,v2,.int .i64 m3,v3,.int .i64 m4,v4] 142 true):=by simp
 have b2:(((h.set N (.cells [.int .i64 n1,u1,.int .i64 n2,u2,.int .i64 n3,u3,.int .i64 n4,u4] 142 true)).set (N+1) (.cells [.int .i64 m1,v1,.int .i64 m2,v2,.int .i64 m3,v3,.int .i64 m4,v4] 142 true)).set (N+1+1) (.cells [.int .i64 0,.ziA,.int .i64 0,.ziA,.int .i64 0,.ziA,.int .i64 0,.ziA] 142 true)).get (N+1+1)=some (.cells [.int .i64 0,.ziA,.int .i64 0,.ziA,.int .i64 0,.ziA,.int .i64 0,.ziA] 142 true):=by simp
 rw[aZ,A.k112 (by simp)]
 simp(disch:=first|(simp;done)|omega|rfl) [-getElem?_pos,A.b112,o1,o2,o3,o4,p1,p2,p3,p4,aI,aK]
 generalize ((h.set N (.cells [.int .i64 n1,u1,.int .i64 n2,u2,.int .i64 n3,u3,.int .i64 n4,u4] 142 true)).set (N+1) (.cells [.int .i64 m1,v1,.int .i64 m2,v2,.int .i64 m3,v3,.int .i64 m4,v4] 142 true)).set (N+1+1) (.cells [.int .i64 0,.ziA,.int .i64 0,.ziA,.int .i64 0,.ziA,.int .i64 0,.ziA] 142 true)=HB at*
 have fa:Fc HB (N+1+1+1) (.agg [.int .i64 n1,u1,.int .i64 n2,u2]) a:=⟨n1,u1,n2,u2,rfl,s1.ai kB,s2.ai kB⟩
 have fb:Fc HB (N+1+1+1) (.agg [.int .i64 n3,u3,.int .i64 n4,u4]) b:=⟨n3,u3,n4,u4,rfl,s3.ai kB,s4.ai kB⟩
 have fc:Fc HB (N+1+1+1) (.agg [.int .i64 m1,v1,.int .i64 m2,v2]) c:=⟨m1,v1,m2,v2,rfl,t1.ai kB,t2.ai kB⟩
 have fd:Fc HB (N+1+1+1) (.agg [.int .i64 m3,v3,.int .i64 m4,v4]) d:=⟨m3,v3,m4,v4,rfl,t3.ai kB,t4.ai kB⟩
 refine av (KZ fa fc (by omega) (by omega) (by omega) (by omega)) ?_
 rintro _ h1 gw k1 ⟨a1,x1,a2,x2,rfl,r1,r2⟩
 have l1:=k1.le
 have b01:=(k1.get N (by omega)).trans b0
 have b11:=(k1.get (N+1) (by omega)).trans b1
 have e01:N<gw:=by omega
 have e11:N+1<gw:=by omega
 simp(disch:=first|(simp;done)|omega|rfl) [-getElem?_pos,b01,b11,e01,e11,aI,aK]
 refine av (KZ (fa.ai k1) (fd.ai k1) (by omega) (by omega) (by omega) (by omega)) ?_
 rintro _ h2 fj k2 ⟨a3,x3,a4,x4,rfl,r3,r4⟩
 have K2:=k1.trans k2
 have l2:=k2.le
 have b02:=(k2.get N (by omega)).trans b01
 have b12:=(k2.get (N+1) (by omega)).trans b11
 have e02:N<fj:=by omega
 have e12:N+1<fj:=by omega
 simp(disch:=first|(simp;done)|omega|rfl) [-getElem?_pos,b02,b12,e02,e12,aI,aK]
 refine av (KZ (fb.ai K2) (fc.ai K2) (by omega) (by omega) (by omega) (by omega)) ?_
 rintro _ h3 AE k3 ⟨a5,x5,a6,x6,rfl,r5,r6⟩
 have K3:=K2.trans k3
 have l3:=k3.le
 have b03:=(k3.get N (by omega)).trans b02
 have b13:=(k3.get (N+1) (by omega)).trans b12
 have e03:N<AE:=by omega
 have Ns:N+1<AE:=by omega
 simp(disch:=first|(simp;done)|omega|rfl) [-getElem?_pos,b03,b13,e03,Ns,aI,aK]
 refine av (KZ (fb.ai K3) (fd.ai K3) (by omega) (by omega) (by omega) (by omega)) ?_
 rintro _ h4 K0 k4 ⟨a7,x7,a8,x8,rfl,r7,r8⟩
 have K4:=K3.trans k4
 have l4:=k4.le
 have b24:=(K4.get (N+1+1) (by omega)).trans b2
 have q1:=Zaj r1
 have q2:=Zaj r2
 have q3:=Zaj r3
 have q4:=Zaj r4
 have q5:=Zaj r5
 have q6:=Zaj r6
 have q7:=Zaj r7
 have q8:=Zaj r8
 unfold V.one at q1 q2 q3 q4 q5 q6 q7 q8
 have kS:ah h4 K0 (h4.set K0 (.cells [.int .i64 a1,x1,.int .i64 a2,x2,.int .i64 a3,x3,.int .i64 a4,x4,.int .i64 a5,x5,.int .i64 a6,x6,.int .i64 a7,x7,.int .i64 a8,x8] 102 true)) (K0+1):=ah.refl.new _
 have k24:=(k2.trans k3).trans k4
 have k34:=k3.trans k4
 have fs:mV (h4.set K0 (.cells [.int .i64 a1,x1,.int .i64 a2,x2,.int .i64 a3,x3,.int .i64 a4,x4,.int .i64 a5,x5,.int .i64 a6,x6,.int .i64 a7,x7,.int .i64 a8,x8] 102 true)) (K0+1) (.slice K0 0 4 (some 4) 4) [a*c,a*d,b*c,b*d]:=mV.zdY (e:=102) (rw:=true) (by omega) (by simp) ⟨a1,x1,a2,x2,rfl,(r1.ai k24).ai kS,(r2.ai k24).ai kS⟩ ⟨a3,x3,a4,x4,rfl,(r3.ai k34).ai kS,(r4.ai k34).ai kS⟩ ⟨a5,x5,a6,x6,rfl,(r5.ai k4).ai kS,(r6.ai k4).ai kS⟩ ⟨a7,x7,a8,x8,rfl,r7.ai kS,r8.ai kS⟩
 have b25:=(kS.get (N+1+1) (by omega)).trans b24
 have hq:∀y∈[a*c,a*d,b*c,b*d],Qb (K+K) y:=fun y hy=>by
  simp at hy
  rcases hy with rfl|rfl|rfl|rfl
  ·exact qa.mul qc
  ·exact qa.mul qd
  ·exact qb.mul qc
  ·exact qb.mul qd
 simp(disch:=first|(simp;done)|omega|rfl) [-getElem?_pos,q1,q2,q3,q4,q5,q6,q7,q8,aj,b_.chk]
 refine av (Yd7 fs (by simp) hq (by simp) (by omega)) ?_
 rintro _ h5 n5' k5 ⟨c1,y1,c2,y2,rfl,g1,g2⟩
 simp(disch:=first|(simp;done)|omega|rfl) [-getElem?_pos,]
 refine av (Yeb (fs.ai k5) (by simp) hq (by simp) (by omega)) ?_
 rintro _ h6 n6' k6 ⟨c3,y3,c4,y4,rfl,g3,g4⟩
 have k56:=k5.trans k6
 have l56:=k56.le
 have b26:=(k56.get (N+1+1) (by omega)).trans b25
 have e26:N+1+1<n6':=by omega
 have z1:=Zaj g1
 have z2:=Zaj g2
 have z3:=Zaj g3
 have z4:=Zaj g4
 unfold V.one at z1 z2 z3 z4
 simp(disch:=first|(simp;done)|omega|rfl) [-getElem?_pos,b26,e26,z1,z2,z3,z4,aI,aK,aj,bM,b_.chk,Ret]
 exact⟨(((kB.trans K4).trans kS).trans k56).set (by omega),c1,y1,c2,y2,c3,y3,c4,y4,rfl,(g1.ai k6).ay b26 sZ rfl,(g2.ai k6).ay b26 sZ rfl,g3.ay b26 sZ rfl,g4.ay b26 sZ rfl⟩
def Zxy{z:Nat}{x:List V}(hx:x.length=z):∀{l:List (List V)},(∀y∈l,y.length=z)->∀{k:Nat},k<l.length->aj l.flatten (k*z) x=(l.set k x).flatten
 |[],_,k,h=>by simp at h
 |y::l,h,0,_=>by
  have hy:=h y oV
  rw[List.flatten_cons,List.set_cons_zero,List.flatten_cons,Nat.zero_mul]
  unfold aj
  rw[List.take_zero,List.nil_append,oJ,hx,<-hy,List.drop_left]
 |y::l,h,k+1,hk=>by
  have hy:=h y oV
  have ih:=Zxy hx (l:=l) (fun y hy=>h y (oY _ hy)) (k:=k) (by simpa using hk)
  rw[List.flatten_cons,List.set_cons_succ,List.flatten_cons,<-ih]
  unfold aj
  have e1:(k+1)*z=y.length+k*z:=by rw[hy,ku];omega
  rw[e1,List.take_length_add_append,oZ,List.drop_length_add_append]
  simp only[rB]
def pgI(p:List (Rat×Rat))(i:Nat):Rat×Rat:=(p[i]?).getD (0,0)
def Df{p:List (Rat×Rat)}{i:Nat}(h:i<p.length):p[i]?=some (pgI p i):=by
 unfold pgI;rw[Yv8 h];rfl
def Ii(x y:Rat×Rat):Rat×Rat:=(yF x.1 x.2 y.1 y.2,yG x.1 x.2 y.1 y.2)
def Nt(x y:Rat×Rat):Rat×Rat:=(x.1-y.2,x.2-y.1)
def Nu(p:List (Rat×Rat))(k:Nat):Rat×Rat:=Nt (Ii (pgI p (p.length-1)) (pgI p (k+1))) (Ii (pgI p 0) (pgI p (p.length-1-1-k)))
def vt(p:List (Rat×Rat)):List (Rat×Rat):=(List.range (p.length-1)).map (Nu p)
def Zo0:Nat->List (Rat×Rat)->Bool
 |0,_=>true
 |n+1,p=>if p.length<=1 then true else if mZ (pgI p (p.length-1)).1 (pgI p (p.length-1)).2<=s_ (pgI p 0).1 (pgI p 0).2 then false else Zo0 n (vt p)
def tZ(l:List Rat):List (Rat×Rat):=l.map fun q=>(q,q)
def jg(l p:Rat)(D:Nat)(lo hi:Rat):List (Rat×Rat):=(tZ (aJ 0 l p D)).set 1 (pg (aJ 0 l p D) 1+lo,pg (aJ 0 l p D) 1+hi)
def Ij(K:Nat)(x:Rat×Rat):Prop:=Qb K x.1/\Qb K x.2
def So{K:Nat}{x y:Rat×Rat}(hx:Ij K x)(hy:Ij K y):Ij (K+K) (Ii x y):=by
 have hq:∀z∈[x.1*y.1,x.1*y.2,x.2*y.1,x.2*y.2],Qb (K+K) z:=fun z hz=>by
  simp at hz
  rcases hz with rfl|rfl|rfl|rfl
  ·exact hx.1.mul hy.1
  ·exact hx.1.mul hy.2
  ·exact hx.2.mul hy.1
  ·exact hx.2.mul hy.2
 exact⟨Si hq (by simp),Sj hq (by simp)⟩
def Sp{p:List (Rat×Rat)}:(vt p).length=p.length-1:=by simp[vt]
def Zn1{p:List (Rat×Rat)}{k:Nat}(h:k<p.length-1):pgI (vt p) k=Nu p k:=by
 unfold pgI vt;simp[h]
def Yic{p:List (Rat×Rat)}{K:Nat}(hK:1<=K)(hq:∀x∈p,Ij K x):∀x∈vt p,Ij (5*K) x:=fun x hx=>by
 obtain⟨k,hk,rfl⟩:=vo.1 hx
 rw[Dh]at hk
 have q0:=hq _ (eI (Df (p:=p) (i:=0) (by omega)))
 have q1:=hq _ (eI (Df (p:=p) (i:=p.length-1) (by omega)))
 have q2:=hq _ (eI (Df (p:=p) (i:=k+1) (by omega)))
 have q3:=hq _ (eI (Df (p:=p) (i:=p.length-1-1-k) (by omega)))
 have a:=So q1 q2
 have b:=So q0 q3
 exact⟨(a.1.sub b.2).mono (by omega),(a.2.sub b.1).mono (by omega)⟩
def Yvj{p:List (Rat×Rat)}{n:Nat}(h:p.length<=1):Zo0 n p=true:=by
 cases n with
 |zero=>rfl
 |succ n=>unfold Zo0;rw[aR h]
def Dj{l:List Rat}:(tZ l).length=l.length:=by simp[tZ]
def Nv{l p lo hi:Rat}{D:Nat}:(jg l p D lo hi).length=D+3:=by
 unfold jg;rw[xL,Dj];exact(@xG 0 l p D).1
def Yrm{l p lo hi:Rat}{D k:Nat}(ql:Qb k l)(qp:Qb k p)(q1:Qb k lo)(q2:Qb k hi)(hk:1<=k):∀x∈jg l p D lo hi,Ij (4*k+3) x:=fun x hx=>by
 have qc:=C9 (d:=D) (g:=0) (k:=k) ((Qb.int (z:=0) (k:=1) (by decide) (by decide)).mono hk) ql qp hk
 rcases Aw hx with h|rfl
 ·obtain⟨q,hq,rfl⟩:=vo.1 h
  exact⟨(qc q hq).mono (by omega),(qc q hq).mono (by omega)⟩
 ·have qa:=qc _ (eI (iy (p:=aJ 0 l p D) (i:=1) (by rw[(@xG 0 l p D).1];omega)))
  exact⟨(qa.add q1).mono (by omega),(qa.add q2).mono (by omega)⟩
def Sq{g l p:Rat}{D k:Nat}(hk:k<=D+2):pg (aJ g l p D) (D+2-k)=(if k=0 then 1 else 0)+(if k=1 then -l else 0)+(if k=D+1 then g+p else 0)+(if k=D+2 then -p else 0):=by
 unfold aJ pg
 by_cases h2:k=D+2
 ·subst h2
  rw[show D+2-(D+2)=0 by omega,lM (by simp)]
  rw[aA (by omega),aA (by omega),aA (by omega),aR rfl]
  simp only[C8];grind
 ·rw[eJ (by omega)]
  by_cases h1:k=D+1
  ·subst h1
   rw[show D+2-(D+1)=1 by omega,lM (by simp)]
   simp only[C8]
   by_cases hD:D=0
   ·subst hD
    simp
    grind
   ·rw[aA hD,aA (show ¬D+1=0 by omega),aA (show ¬D+1=1 by omega),aR True.intro,aA (show ¬D+1=D+2 by omega)]
    grind
  ·rw[eJ (by omega),aA h1,aA h2]
   by_cases hk1:k=1
   ·subst hk1
    rw[show D+2-1=D+1 by omega,lM (by simp),aA (by omega),aR rfl]
    simp only[C8];grind
   ·rw[eJ (by omega),aA hk1]
    by_cases sW:k=0
    ·subst sW
     rw[Nat.sub_zero,lM (by simp),aR rfl]
     simp only[C8];grind
    ·rw[eJ (by omega),aA sW]
     have aW:D+2-k<D+3:=by omega
     simp[aW]
     grind
variable {b:Rat}
def Zb2{q:Rat}:0<=zgb q:=by unfold zgb;split<;>grind
def Nw{q:Rat}:q<=zgb q/\ -q<=zgb q:=by unfold zgb;split<;>constructor<;>grind
def Zwd{q:Rat}(h1: -b<=q)(h2:q<=b):zgb q<=b:=by unfold zgb;split<;>grind
def BJ{a:Rat}:zgb (a*b)=zgb a*zgb b:=by
 unfold zgb
 by_cases ha:a<0
 ·by_cases hb:b<0
  ·have h:=Rat.mul_pos (show (0:Rat)< -a by grind) (show (0:Rat)< -b by grind)
   rw[aR ha,aR hb,aA (by grind)]
   grind
  ·have h:=Rat.mul_nonneg (show (0:Rat)<= -a by grind) (show (0:Rat)<=b by grind)
   rw[aR ha,aA hb]
   split<;>grind
 ·by_cases hb:b<0
  ·have h:=Rat.mul_nonneg (show (0:Rat)<=a by grind) (show (0:Rat)<= -b by grind)
   rw[aA ha,aR hb]
   split<;>grind
  ·have h:=Rat.mul_nonneg (show (0:Rat)<=a by grind) (show (0:Rat)<=b by grind)
   rw[aA ha,aA hb,aA (by grind)]
def Zrh{a b:Rat}:zgb (a+b)<=zgb a+zgb b:=by
 have h1:=@Nw a
 have h2:=@Nw b
 exact Zwd (by grind) (by grind)
def Yep{x y d:Rat}(hd:0<d)(h:x*d<=y*d):x<=y:=by
 apply Rat.not_lt.1
 intro hc
 have:=Rat.mul_pos (show (0:Rat)<x-y by grind) hd
 grind
def iK{x y d:Rat}(hd:0<=d)(h:x<=y):x*d<=y*d:=by
 have:=Rat.mul_nonneg (show (0:Rat)<=y-x by grind) hd
 grind
def oK:Nat->Nat->Nat
 |_,0=>1
 |0,_+1=>0
 |n+1,k+1=>oK n k+oK n (k+1)
def Yf4:∀{n k:Nat},n<k->oK n k=0
 |_,0,h=>by omega
 |0,_+1,_=>rfl
 |n+1,k+1,h=>by
  rw[oK,Yf4 (by omega),Yf4 (by omega)]
def Sr:∀{n:Nat},oK n n=1
 |0=>rfl
 |n+1=>by rw[oK,Sr,Yf4 (by omega)]
def Ss{n:Nat}:oK n 0=1:=by cases n<;>rfl
def Yrf:∀{n:Nat},oK n 1=n
 |0=>rfl
 |n+1=>by rw[oK,Ss,Yrf];omega
def Zv2:∀{n k:Nat},k<=n->oK n (n-k)=oK n k
 |n,0,_=>by rw[Nat.sub_zero,Sr,Ss]
 |0,k+1,h=>by omega
 |n+1,k+1,h=>by
  by_cases e:k=n
  ·subst e
   rw[Nat.sub_self,Ss,Sr]
  ·have h1:=Zv2 (n:=n) (k:=k+1) (by omega)
   have h2:=Zv2 (n:=n) (k:=k) (by omega)
   rw[show n+1-(k+1)=n-(k+1)+1 by omega,oK,oK,h1,show n-(k+1)+1=n-k by omega,h2]
   omega
def Zwm:∀{n:Nat} {p:List Rat},p.length=n+1->pg p n≠0->mW (n+1) p=true->∀k,k<=n->zgb (pg p k)<=(oK n k:Rat)*zgb (pg p n)
 |0,p,hl,h0,hs,k,hk=>by
  obtain rfl:k=0:=by omega
  have:(oK 0 0:Rat)=1:=rfl
  rw[this]
  grind
 |m+1,p,hl,h0,hs,k,hk=>by
  unfold mW at hs
  rw[aA (by omega)]at hs
  split at hs
  ·cases hs
  ·rename_i hr
   have lt1:zgb (ratio p)<1:=Rat.not_le.1 hr
   have hz:pg p (p.length-1)≠0:=by rw[hl];exact h0
   have nl:(gh p).length=m+1:=by rw[BK,hl];rfl
   have nz:=Zsd (by omega) hz lt1
   rw[nl,show m+1-1=m from rfl]at nz
   have ih:=Zwm nl nz hs
   have e0:pg p 0=ratio p*pg p (m+1):=by unfold ratio;rw[hl,show m+1+1-1=m+1 from rfl];exact(Rat.div_mul_cancel h0).symm
   have ng:∀j,j<=m->pg (gh p) j=pg p (j+1)-ratio p*pg p (m-j):=fun j hj=>by
    rw[La (by omega),hl,show m+1+1-1-1-j=m-j by omega]
   have em:pg (gh p) m=pg p (m+1)*(1-ratio p*ratio p):=by
    rw[ng m (Yv5 _),Nat.sub_self,e0];grind
   generalize ratio p=r at*
   have hR:=@Zb2 r
   have rr:r*r=zgb r*zgb r:=by unfold zgb;split<;>grind
   have d0:(0:Rat)<1-r*r:=by
    have h1:=Rat.mul_nonneg hR (show (0:Rat)<=1-zgb r by grind)
    rw[rr]
    grind
   have hd:zgb (1-r*r)=1-r*r:=aA (by grind)
   have hL:=@Zb2 (pg p (m+1))
   have am:zgb (pg (gh p) m)=zgb (pg p (m+1))*(1-r*r):=by rw[em,BJ,hd]
   cases k with
   |zero=>
    rw[Ss,e0,BJ]
    have:=iK hL (show zgb r<=1 by grind)
    have c1:((1:Nat):Rat)=1:=rfl
    rw[c1]
    exact this
   |succ j=>
    by_cases hj:j=m
    ·subst hj
     rw[Sr]
     have c1:((1:Nat):Rat)=1:=rfl
     rw[c1]
     grind
    ·have a1:=ih j (by omega)
     have a2:=ih (m-1-j) (by omega)
     have s1:oK m (m-1-j)=oK m (j+1):=by
      rw[show m-1-j=m-(j+1) by omega];exact Zv2 (by omega)
     rw[s1]at a2
     rw[am]at a1 a2
     have q1:=ng j (by omega)
     have q2:=ng (m-1-j) (by omega)
     rw[show m-1-j+1=m-j by omega,show m-(m-1-j)=j+1 by omega]at q2
     have ex:pg p (j+1)*(1-r*r)=pg (gh p) j+r*pg (gh p) (m-1-j):=by rw[q1,q2];grind
     apply Yep d0
     have t1:zgb (pg p (j+1))*(1-r*r)=zgb (pg (gh p) j+r*pg (gh p) (m-1-j)):=by rw[<-ex,BJ,hd]
     have t2:=@Zrh (pg (gh p) j) (r*pg (gh p) (m-1-j))
     rw[BJ]at t2
     have t3:=iK (@Zb2 (pg (gh p) (m-1-j))) (show zgb r<=1 by grind)
     have cc:((oK (m+1) (j+1):Nat):Rat)=(oK m j:Rat)+(oK m (j+1):Rat):=by
      rw[oK];exact Rat.natCast_add _ _
     rw[t1,cc]
     grind
def Yn1{g l p:Rat}{D:Nat}(hl:l<=1)(hp:0<=p)(hs:Ax g l p D=true):g<=(D:Rat)+3:=by
 have cl:=@xG g l p D
 have h:=Zwm (n:=D+2) cl.1 (by rw[cl.2];decide) hs 1 (by omega)
 rw[cl.2,Yrf]at h
 have a1:zgb (1:Rat)=1:=by decide+kernel
 have e1:=Sq (g:=g) (l:=l) (p:=p) (D:=D) (k:=D+1) (by omega)
 rw[show D+2-(D+1)=1 by omega,aA (show ¬D+1=0 by omega),aR (show D+1=D+1 from rfl),aA (show ¬D+1=D+2 by omega)]at e1
 have c2:((D+2:Nat):Rat)=(D:Rat)+2:=Rat.natCast_add _ _
 rw[a1,c2]at h
 have h2:=(@Nw (pg (aJ g l p D) 1)).1
 rw[e1]at h h2
 by_cases hD:D+1=1
 ·rw[aR hD]at h h2
  grind
 ·rw[aA hD]at h h2
  grind
def Su(f:Nat->Bool)(n:Nat):Prop:=1<=n/\f n=false/\∀i,1<=i->i<n->f i=true
def Dk(l p:Rat)(D u:Nat)(i:Nat):Bool:=Ax ((i:Rat)/(u:Rat)) l p D
def Ykj{l p:Rat}{D u i:Nat}(hl:l<=1)(hp:0<=p)(hu:0<u)(h:Dk l p D u i=true):i<=(D+3)*u:=by
 have h1:=Yn1 hl hp h
 have u0:(0:Rat)<(u:Rat):=by exact_mod_cast hu
 have h2:=iK (Rat.le_of_lt u0) h1
 rw[Rat.div_mul_cancel (by grind)]at h2
 have h3:(((D+3)*u:Nat):Rat)=((D:Rat)+3)*(u:Rat):=by rw[Rat.natCast_mul,Rat.natCast_add];rfl
 rw[<-h3]at h2
 exact_mod_cast h2
end
end Go.Mx
