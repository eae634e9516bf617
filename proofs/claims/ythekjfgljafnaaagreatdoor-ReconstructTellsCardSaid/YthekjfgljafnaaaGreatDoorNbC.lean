/-num-/
import Derived.Test.YthekjfgljafnaaaGreatDoorNbB
set_option linter.all false
namespace Go.Mx
open Go Go.Proofs
variable {N:Nat} {a b:Int} {h:T O} {r0:T V} {x y:V}
set_option maxHeartbeats 2000000
set_option maxRecDepth 1000000
def A.ta227_0:Zaw:=.seq (.regD [lN 82 2 14,lN 83 2 15,gn (.store 2 (tq 4) (tq 82)),gn (.store 2 (tq 5) (tq 83))] [0,0,1,7])
 (.ret)
def A.ta227_1:Zaw:=sr [lN 52 2 2,c1 53 202 52,mv 51 53,xt 54 51 0,xt 55 51 1,mv 8 54,mv 9 55]
 (sr [lN 57 2 3,c1 58 202 57,mv 56 58,xt 59 56 0,xt 60 56 1,mv 10 59,mv 11 60]
 (sr [mv 62 9,mv 63 11,c2 64 218 62 63,mv 61 64,xt 65 61 0,xt 66 61 1,mv 12 65,mv 13 66]
 (sr [mv 67 8,mv 68 12,c2 69 203 67 68,mv 70 8,mv 71 13,c2 72 203 70 71,ge 14 (.alloc [.int .i64 0,.nilslice] 109),ge 15 (.alloc [.int .i64 0,.nilslice] 109),gn (.store 2 (tq 14) (tq 69)),gn (.store 2 (tq 15) (tq 72))]
 (.seq (sr [lN 73 2 15,c1 74 185 73,bc 75 .lss 74 0]
 (cd 75
 (.regD [lN 76 2 14,ge 77 (.call (fq 181) [.const (.int .i64 1)]),c2 78 228 76 77,lN 79 2 15,lN 80 2 3,c2 81 164 79 80,gn (.store 2 (tq 14) (tq 78)),gn (.store 2 (tq 15) (tq 81))] [0,0,3,0,0,31,63,127])
 (.skip)))
 A.ta227_0))))
def A.b227:Zaw:=sr [bx 2 109 0,bx 3 109 1,ge 4 (.alloc [.int .i64 0,.nilslice] 109),ge 5 (.alloc [.int .i64 0,.nilslice] 109)]
 (.seq (sr [fa 16 1 2,ld 17 16,ge 18 (.bin .eql (.prim .slice) true (tq 17) (.const .nilslice)),mv 19 18,gy 20 19 (.faddr 1 (tq 3)),gy 21 19 (.load none (tq 20)),gy 22 19 (.bin .eql (.prim .slice) true (tq 21) (.const .nilslice)),pf 23 19 22,mv 24 23,gy 25 24 (.faddr 0 (tq 2)),gy 26 24 (.load none (tq 25)),gy 27 24 (.bin .neq (.prim .int) true (tq 26) (.const (.int .i64 (-9223372036854775808)))),pf 28 24 27]
 (cd 28
 (.seq (.regD [fa 29 0 2,ld 30 29,fa 31 0 3,ld 32 31,bi 33 .quo 30 32,fa 34 0 2,ld 35 34,fa 36 0 3,ld 37 36,bi 38 .rem 35 37,mv 6 33,mv 7 38] [0,1,0,4,15,0,32,0,128,480,31,2047])
 (.seq (sr [mv 39 7,bc 40 .lss 39 0]
 (cd 40
 (.regD [mv 41 6,bc 42 .sub 41 1,mv 43 7,fa 44 0 3,ld 45 44,bi 46 .add 43 45,mv 6 42,mv 7 46] [0,1,0,0,8,28,3,127])
 (.skip)))
 (sr [mv 47 6,ge 48 (.build [.int .i64 0,.nilslice] [(0,1,(tq 47))]),mv 49 7,ge 50 (.build [.int .i64 0,.nilslice] [(0,1,(tq 49))]),gn (.store 2 (tq 4) (tq 48)),gn (.store 2 (tq 5) (tq 50))]
 (.ret))))
 (.skip)))
 A.ta227_1)
def A.k227:=@A.kk 227 84 [.cell 4 (some 2),.cell 5 (some 2)] A.b227 (by kernel_rfl) rfl
noncomputable def A.b207:=A.q Tryz.f207
def A.k207:=@A.kk 207 21 [.cell 4 (some 2)] A.b207 (by kernel_rfl) rfl
noncomputable def A.w193:=A.q Tryz.f193
noncomputable def A.lb193_0:=A.ql A.w193 0 []
noncomputable def A.b193:=(fun x0=>A.qb A.w193 [x0]) A.lb193_0
def A.k193:=@A.kk 193 23 [.cell 4 (some 2)] A.b193 (by kernel_rfl) rfl
def Zyd(hb:0<b):(if a.tmod b<0 then a.tdiv b-1 else a.tdiv b)=a/b∧(if a.tmod b<0 then a.tmod b+b else a.tmod b)=a%b:=by
 have h1:=Int.mul_tdiv_add_tmod a b
 have h2:=Int.tmod_lt_of_pos a hb
 have h3: -b<a.tmod b:=by
  have:=Int.tmod_lt_of_pos (-a) hb
  rw[Int.neg_tmod]at this
  omega
 have key:∀q r:Int,b*q+r=a→0≤r→r<b→q=a/b∧r=a%b:=by
  intro q r e r0 r1
  have:=(Int.ediv_emod_unique hb (r:=r) (q:=q) (a:=a)).2 ⟨by omega,r0,r1⟩
  exact⟨this.1.symm,this.2.symm⟩
 by_cases h:a.tmod b<0
 ·rw[Yv6 h,Yv6 h]
  exact key _ _ (by rw[Int.mul_sub];omega) (by omega) (by omega)
 ·rw[Yv4 h,Yv4 h]
  exact key _ _ (by omega) (by omega) h2
def Yft(hb:0<b):∀q r:Int,q=(if decide (a<0)=true then -((a.natAbs/b.natAbs:Nat):Int) else (a.natAbs/b.natAbs:Nat))→r=(if decide (a<0)=true then -((a.natAbs%b.natAbs:Nat):Int) else (a.natAbs%b.natAbs:Nat))→(if r<0 then q-1 else q)=a/b∧(if r<0 then r+b else r)=a%b:=by
 intro q r hq hr
 have h1:=Yxv a.natAbs b.natAbs
 have h2:=Yxo a.natAbs (show 0<b.natAbs by omega)
 have hbe:(b.natAbs:Int)=b:=by omega
 have h1':b*((a.natAbs/b.natAbs:Nat):Int)+((a.natAbs%b.natAbs:Nat):Int)=a.natAbs:=by
  rw[←hbe,←Yzu,←Int.natCast_add,Ywc,h1]
 have key:∀q r:Int,b*q+r=a→0≤r→r<b→q=a/b∧r=a%b:=by
  intro q r e r0 r1
  have:=(Int.ediv_emod_unique hb (r:=r) (q:=q) (a:=a)).2 ⟨by omega,r0,r1⟩
  exact⟨this.1.symm,this.2.symm⟩
 generalize a.natAbs/b.natAbs=Q at*
 generalize a.natAbs%b.natAbs=R at*
 by_cases ha:a<0
 ·simp only[ha,decide_true,if_true]at hq hr
  subst hq hr
  by_cases h: -(R:Int)<0
  ·rw[Yv6 h,Yv6 h]
   exact key _ _ (by rw[Int.mul_sub,Int.mul_neg];omega) (by omega) (by omega)
  ·rw[Yv4 h,Yv4 h]
   exact key _ _ (by rw[Int.mul_neg];omega) (by omega) (by omega)
 ·simp only[ha,decide_false,Ywi,if_false]at hq hr
  subst hq hr
  rw[Yv4 (by omega),Yv4 (by omega)]
  exact key _ _ (by omega) (by omega) (by omega)
def Ypx(hb:0<b):wl (a%b)≤wl b:=by
 apply Ztu
 have h1:=Yy5 a hb
 have h2:=Yzh a (show b≠0 by omega)
 omega
def Zpu{c:Bool}{n:Nat}:(if c=true then -(n:Int) else (n:Int)).natAbs=n:=by split<;>omega
def Yku{H:T O}{n m:Nat}{nq nr q s:Int}{uq ur:V}{W:List Nat}(hW:Zaa N W=[])(hK:Keeps h N H n)(hm:N+4≤m)(hmn:m+1<n)(hq:In H n (.agg [.int .i64 nq,uq]) q)(hr:In H n (.agg [.int .i64 nr,ur]) s)(oq:V.one uq=true)(or:V.one ur=true)
  (gz:H.get (N+2)=some (.cells [.int .i64 0,.nilslice] 109 true)) (gt:H.get (N+3)=some (.cells [.int .i64 0,.nilslice] 109 true)) (gq:H.get m=some (.cells [.int .i64 nq,uq] 109 true)) (gr:H.get (m+1)=some (.cells [.int .i64 nr,ur] 109 true))
  (r4:r0.get 4=some (.ptr (N+2) 0)) (r5:r0.get 5=some (.ptr (N+3) 0)) (r14:r0.get 14=some (.ptr m 0)) (r15:r0.get 15=some (.ptr (m+1) 0)):
  Code A.C none A.ta227_0 ⟨r0,84,[]⟩ ⟨H,n,W⟩ (fun e fr st=>e=.ret∧∃r,fr=⟨r,84,[]⟩∧r.get 4=some (.ptr (N+2) 0)∧r.get 5=some (.ptr (N+3) 0)∧Yph h N (N+2) q st∧Yph h N (N+3) s st):=by
 have n1:m<n:=by omega
 have n2:N+2<n:=by omega
 have n3:N+3<n:=by omega
 have d1:¬m=N+2:=by omega
 have d2:¬m=N+3:=by omega
 have d3:¬N+2=m:=by omega
 have d4:¬N+3=m:=by omega
 have d5:¬N+2=m+1:=by omega
 have d6:¬N+3=m+1:=by omega
 have d7:¬m+1=N+2:=by omega
 have d8:¬m+1=N+3:=by omega
 have d9:¬N+3=N+2:=by omega
 have d10:¬N+2=N+3:=by omega
 rw[Zah]
 have k1:=(hK.set (i:=N+2) (o:=.cells [.int .i64 nq,uq] 109 true) (by omega)).set (i:=N+3) (o:=.cells [.int .i64 nr,ur] 109 true) (by omega)
 have hq2:=(hq.setNU (c1:=[.int .i64 nq,uq]) (e1:=109) (w1:=true) gz (by simp) rfl)
 have hr2:=(hr.setNU (c1:=[.int .i64 nq,uq]) (e1:=109) (w1:=true) gz (by simp) rfl)
 have gt2:(H.set (N+2) (.cells [.int .i64 nq,uq] 109 true)).get (N+3)=some (.cells [.int .i64 0,.nilslice] 109 true):=by rw[T.get_set,Yv4 d9];exact gt
 have hq3:=(hq2.setNU (c1:=[.int .i64 nr,ur]) (e1:=109) (w1:=true) gt2 (by simp) rfl)
 have hr3:=(hr2.setNU (c1:=[.int .i64 nr,ur]) (e1:=109) (w1:=true) gt2 (by simp) rfl)
 have hW2:Zaa N ((N+3)::(N+2)::W)=[]:=by simp[Zaa,hW]
 unfold V.one at oq or
 simp(disch:=omega) [A.ta227_0,r4,r5,r14,r15,gz,gt,gq,gr,n1,n2,n3,hmn,d1,d2,d3,d4,d5,d6,d7,d8,d9,d10,oq,or,Zak,slc,splice,Zal,Zao.chk]
 rw[Zl0 (by simp[d1,d2,d3,d4,d5,d6,d7,d8,d9,d10]<;>omega)]
 simp[r4,r5]
 exact⟨⟨hW2,k1,nq,uq,by simp,hq3⟩,⟨hW2,k1,nr,ur,by simp,hr3⟩⟩
def Yoj{H:T O}{n1 n2:Int}{u1 u2:V}(hx:In H (N+4) (.agg [.int .i64 n1,u1]) a)(hy:In H (N+4) (.agg [.int .i64 n2,u2]) b)(hb:0<b)(la:wl a<10000000000)(lb:wl b<10000000000)(hK:Keeps h N H (N+4))(oy:V.one u2=true)
  (gx:H.get N=some (.cells [.int .i64 n1,u1] 109 true)) (gy:H.get (N+1)=some (.cells [.int .i64 n2,u2] 109 true)) (gz:H.get (N+2)=some (.cells [.int .i64 0,.nilslice] 109 true)) (gt:H.get (N+3)=some (.cells [.int .i64 0,.nilslice] 109 true)) (r2:r0.get 2=some (.ptr N 0)) (r3:r0.get 3=some (.ptr (N+1) 0)) (r4:r0.get 4=some (.ptr (N+2) 0)) (r5:r0.get 5=some (.ptr (N+3) 0)):
  Code A.C none A.ta227_1 ⟨r0,84,[]⟩ ⟨H,N+4,[]⟩ (fun e fr st=>e=.ret∧∃r,fr=⟨r,84,[]⟩∧r.get 4=some (.ptr (N+2) 0)∧r.get 5=some (.ptr (N+3) 0)∧Yph h N (N+2) (a/b) st∧Yph h N (N+3) (a%b) st):=by
 rw[Zah]
 simp[A.ta227_1,r2,gx,Zak,slc]
 refine Zac (Ze2 hx) ?_
 rintro _ h1 N1 k1 ⟨ua,rfl,hua⟩
 have kle1:=k1.le
 have gy1:=(k1.get (N+1) (by omega)).trans gy
 simp[r3,gy1,Zak,slc]
 refine Zac (Ze2 (hy.keep k1)) ?_
 rintro _ h2 N2 k2 ⟨ub,rfl,hub⟩
 have kle2:=k2.le
 have hua2:=hua.keep k2
 have la':(wds a.natAbs).length<10000000000:=la
 have lb':(wds b.natAbs).length<10000000000:=lb
 simp[]
 refine Zac (Zs7 hua2 hub (by omega) (by omega) (by omega)) ?_
 rintro _ h3 N3 k3 ⟨q,r,rfl,hq,hr⟩
 simp[]
 have lq:=Zdk (Yxz a.natAbs b.natAbs)
 have lr:=Zdk (Nat.mod_le a.natAbs b.natAbs)
 refine Zac (Zhv hq (by omega)) ?_
 rintro vq h4 N4 k4 hq4
 simp[]
 refine Zac (Zhv (hr.keep k4) (by omega)) ?_
 rintro vr h5 N5 k5 hr5
 have kA:=(((k1.trans k2).trans k3).trans k4).trans k5
 have kleA:=kA.le
 have hq5:=hq4.keep k5
 have gy5:=(kA.get (N+1) (by omega)).trans gy
 have gz5:=(kA.get (N+2) (by omega)).trans gz
 have gt5:=(kA.get (N+3) (by omega)).trans gt
 obtain⟨qv,hqv⟩:∃q,(if decide (a<0)=true then -((a.natAbs/b.natAbs:Nat):Int) else (a.natAbs/b.natAbs:Nat))=q:=⟨_,rfl⟩
 obtain⟨rv,hrv⟩:∃q,(if decide (a<0)=true then -((a.natAbs%b.natAbs:Nat):Int) else (a.natAbs%b.natAbs:Nat))=q:=⟨_,rfl⟩
 rw[hqv]at hq5
 rw[hrv]at hr5
 obtain⟨e1,e2⟩:=Yft hb qv rv hqv.symm hrv.symm
 have wq:wl qv<20000000000:=by
  have:qv.natAbs=a.natAbs/b.natAbs:=by rw[←hqv];exact Zpu
  unfold wl;rw[this];omega
 have wr:wl rv<20000000000:=by
  have:rv.natAbs=a.natAbs%b.natAbs:=by rw[←hrv];exact Zpu
  unfold wl;rw[this];omega
 obtain⟨nq,uq,rfl,oq⟩:=hq5.cells
 obtain⟨nr,ur,rfl,or⟩:=hr5.cells
 have kB:=fun o1 o2=>kset (kset (Keeps.refl (h:=h5) (n:=N5)) o1) o2
 have oq':=oq
 have or':=or
 unfold V.one at oq or oy
 have d1:¬N5=N5+1:=by omega
 have gq6:(((h5.set N5 (.cells [.int .i64 0,.nilslice] 109 true)).set (N5+1) (.cells [.int .i64 0,.nilslice] 109 true)).set N5 (.cells [.int .i64 nq,uq] 109 true)).get N5=some (.cells [.int .i64 nq,uq] 109 true):=by simp
 simp[oq,or,splice,Zal,Zak,slc]
 have kC:=((kB (.cells [.int .i64 0,.nilslice] 109 true) (.cells [.int .i64 0,.nilslice] 109 true)).set (i:=N5) (o:=.cells [.int .i64 nq,uq] 109 true) (Yv5 _)).set (i:=N5+1) (o:=.cells [.int .i64 nr,ur] 109 true) (by omega)
 generalize hH6:(((h5.set N5 (.cells [.int .i64 0,.nilslice] 109 true)).set (N5+1) (.cells [.int .i64 0,.nilslice] 109 true)).set N5 (.cells [.int .i64 nq,uq] 109 true)).set (N5+1) (.cells [.int .i64 nr,ur] 109 true)=H6 at*
 have q6:H6.get N5=some (.cells [.int .i64 nq,uq] 109 true):=by rw[←hH6];simp
 have r6:H6.get (N5+1)=some (.cells [.int .i64 nr,ur] 109 true):=by rw[←hH6];simp
 have hq6:=hq5.keep kC
 have hr6:=hr5.keep kC
 have gy6:=(kC.get (N+1) (by omega)).trans gy5
 have gz6:=(kC.get (N+2) (by omega)).trans gz5
 have gt6:=(kC.get (N+3) (by omega)).trans gt5
 refine Zac (Zi2 hr6) ?_
 rintro _ h7 N7 k7 rfl
 have kle7:=k7.le
 have q7:=(k7.get N5 (by omega)).trans q6
 have r7:=(k7.get (N5+1) (by omega)).trans r6
 have gy7:=(k7.get (N+1) (by omega)).trans gy6
 have gz7:=(k7.get (N+2) (by omega)).trans gz6
 have gt7:=(k7.get (N+3) (by omega)).trans gt6
 have hq7:=hq6.keep k7
 have hr7:=hr6.keep k7
 have kF:=((hK.trans kA).trans kC).trans k7
 have wok:¬N5<N:=by omega
 have wok2:¬N5+1<N:=by omega
 have hWW:Zaa N [N5+1,N5]=[]:=by simp[Zaa,wok,wok2]
 by_cases hneg:rv<0
 ·have c1:sg3 rv<0:=by simp[sg3,hneg]
  rw[Yv6 hneg]at e1 e2
  have hn7:N5<N7:=by omega
  have hn7':N5+1<N7:=by omega
  have hny:N+1<N7:=by omega
  simp[c1,r3,q7,r7,gy7,Zak,slc,splice,hn7]
  refine Zac Zus ?_
  rintro _ h8 N8 k8 rfl
  simp[]
  refine Zac (Yjw (hq7.keep k8) (In.small (z:=1) (by omega) (by omega)) (by omega) (by decide+kernel)) ?_
  rintro vq9 h9 N9 k9 hq9
  have k89:=k8.trans k9
  have r9:=(k89.get (N5+1) (by omega)).trans r7
  have y9:=(k89.get (N+1) (by omega)).trans gy7
  have hr9:=hr7.keep k89
  have hb9:In h9 N9 (.agg [.int .i64 n2,u2]) b:=(((((hy.keep k1).keep k2).keep k3).keep k4).keep k5 |>.keep kC |>.keep k7).keep k89
  have kle89:=k89.le
  have z1:N5+1<N9:=by omega
  have z2:N+1<N9:=by omega
  simp[r3,r9,y9,Zak,slc,splice,z1,z2]
  refine Zac (Ztn hr9 hb9 (by omega) (by omega)) ?_
  rintro vr10 h10 N10 k10 hr10
  have kle10:=k10.le
  have hq10:=hq9.keep k10
  obtain⟨nq2,uq2,rfl,oq2⟩:=hq10.cells
  obtain⟨nr2,ur2,rfl,or2⟩:=hr10.cells
  have q10:=(k10.get N5 (by omega)).trans ((k89.get N5 (by omega)).trans q7)
  have r10:=(k10.get (N5+1) (by omega)).trans r9
  have z10:=(k10.get (N+2) (by omega)).trans ((k89.get (N+2) (by omega)).trans gz7)
  have t10:=(k10.get (N+3) (by omega)).trans ((k89.get (N+3) (by omega)).trans gt7)
  have oq2':=oq2
  have or2':=or2
  unfold V.one at oq2 or2
  have z3:N5<N10:=by omega
  have z4:N5+1<N10:=by omega
  simp[q10,r10,oq2,or2,splice,Zal,z3,z4]
  have q11:=hq10.setNU (c1:=[.int .i64 nq2,uq2]) (e1:=109) (w1:=true) q10 hq7.nu rfl
  have r11:=hr10.setNU (c1:=[.int .i64 nq2,uq2]) (e1:=109) (w1:=true) q10 hq7.nu rfl
  have rr11:(h10.set N5 (.cells [.int .i64 nq2,uq2] 109 true)).get (N5+1)=some (.cells [.int .i64 nr,ur] 109 true):=by rw[T.get_set,Yv4 (by omega)];exact r10
  have q12:=q11.setNU (c1:=[.int .i64 nr2,ur2]) (e1:=109) (w1:=true) rr11 hr7.nu rfl
  have r12:=r11.setNU (c1:=[.int .i64 nr2,ur2]) (e1:=109) (w1:=true) rr11 hr7.nu rfl
  rw[e1]at q12
  rw[e2]at r12
  have kG:=(((kF.trans k89).trans k10).set (i:=N5) (o:=.cells [.int .i64 nq2,uq2] 109 true) (by omega)).set (i:=N5+1) (o:=.cells [.int .i64 nr2,ur2] 109 true) (by omega)
  refine Zbd (Yku (m:=N5) (by simp[Zaa,wok,wok2]) kG (by omega) (by omega) q12 r12 oq2' or2' (by rw[T.get_set,Yv4 (by omega),T.get_set,Yv4 (by omega)];exact z10) (by rw[T.get_set,Yv4 (by omega),T.get_set,Yv4 (by omega)];exact t10) (by simp) (by simp) (by simp[r4]) (by simp[r5]) (by simp) (by simp)) ?_
  rintro e fr st ⟨rfl,r,rfl,p1,p2,p3,p4⟩
  simp[p1,p2]
  exact⟨p3,p4⟩
 ·have c1:¬sg3 rv<0:=by unfold sg3;rw[Yv4 hneg];split<;>omega
  rw[Yv4 hneg]at e1 e2
  rw[e1]at hq7
  rw[e2]at hr7
  simp[c1]
  refine Zbd (Yku hWW kF (by omega) (by omega) hq7 hr7 oq' or' gz7 gt7 q7 r7 (by simp[r4]) (by simp[r5]) (by simp) (by simp)) ?_
  rintro e fr st ⟨rfl,r,rfl,p1,p2,p3,p4⟩
  simp[p1,p2]
  exact⟨p3,p4⟩
def Zs9(hx:In h N x a)(hy:In h N y b)(hb:0<b)(la:wl a<10000000000)(lb:wl b<10000000000):Fn A.C 227 [x,y] h N (fun v h' n'=>∃q r,v=.tup [q,r]∧In h' n' q (a/b)∧In h' n' r (a%b)):=by
 intro w
 rw[Zab,A.k227 (by simp)]
 obtain⟨n1,u1,rfl,o1⟩:=hx.cells
 obtain⟨n2,u2,rfl,o2⟩:=hy.cells
 have kk:=kset (kset (kset (kset (Keeps.refl (h:=h) (n:=N)) (.cells [.int .i64 n1,u1] 109 true)) (.cells [.int .i64 n2,u2] 109 true)) (.cells [.int .i64 0,.nilslice] 109 true)) (.cells [.int .i64 0,.nilslice] 109 true)
 have o2':=o2
 unfold V.one at o1 o2
 have go:∀r:T V,r.get 2=some (.ptr N 0)→r.get 3=some (.ptr (N+1) 0)→r.get 4=some (.ptr (N+2) 0)→r.get 5=some (.ptr (N+3) 0)→Run A.C [.fin [.cell 4 (some 2),.cell 5 (some 2)] ⟨h,N,w⟩] (exR (A.C.code none A.ta227_1 ⟨r,84,[]⟩ ⟨(((h.set N (.cells [.int .i64 n1,u1] 109 true)).set (N+1) (.cells [.int .i64 n2,u2] 109 true)).set (N+1+1) (.cells [.int .i64 0,.nilslice] 109 true)).set (N+1+1+1) (.cells [.int .i64 0,.nilslice] 109 true),N+1+1+1+1,[]⟩)) (Yf7 (Ret (fun v h' n'=>∃q r,v=.tup [q,r]∧In h' n' q (a/b)∧In h' n' r (a%b)) h N w)):=by
  intro r r2 r3 r4 r5
  refine Zbd (Yoj (hx.keep kk) (hy.keep kk) hb la lb kk o2' (by simp) (by simp) (by simp) (by simp) r2 r3 r4 r5) ?_
  rintro e fr ⟨h5,n5,w5⟩ ⟨rfl,r',rfl,r4',r5',⟨hW,hK,n6,u6,g6,hi⟩,⟨_,_,n7,u7,g7,hi7⟩⟩
  simp only at hW hK g6 hi g7 hi7
  simp[r4',r5',g6,g7,Zak,slc,Ret,hW]
  exact⟨hK,_,_,⟨rfl,rfl⟩,hi,hi7⟩
 rcases id hx with⟨e1,s1,s2⟩|⟨i,o,l,c,e1,_⟩
 ·simp only[V.agg.injEq,Ywu,V.int.injEq,true_and,and_true]at e1
  obtain⟨rfl,rfl⟩:=e1
  rcases id hy with⟨e2,t1,t2⟩|⟨i,o,l,c,e2,_⟩
  ·simp only[V.agg.injEq,Ywu,V.int.injEq,true_and,and_true]at e2
   obtain⟨rfl,rfl⟩:=e2
   by_cases hmin:n1= -9223372036854775808
   ·simp[A.b227,Zak,slc,splice,Zad,hmin]
    subst hmin
    exact go _ (by simp) (by simp) (by simp) (by simp)
   ·have hz:¬n2=0:=by omega
    obtain⟨f1,f2⟩:=Zyd (a:=n1) hb
    have b1:(n1.tdiv n2).natAbs≤n1.natAbs:=by rw[Int.natAbs_tdiv];exact Yxz _ _
    have b2:(n1.tmod n2).natAbs≤n1.natAbs:=by rw[Int.natAbs_tmod];exact Nat.mod_le _ _
    have b3:=Int.tmod_lt_of_pos n1 hb
    obtain⟨q,hq⟩:∃q,n1.tdiv n2=q:=⟨_,rfl⟩
    obtain⟨s,hs⟩:∃q,n1.tmod n2=q:=⟨_,rfl⟩
    rw[hq]at b1 f1
    rw[hs]at b2 b3 f1 f2
    have w1:Zar .i64 q=q:=Zaj (by omega) (by omega)
    have d1:¬N=N+1:=by omega
    by_cases hneg:s<0
    ·rw[Yv6 hneg]at f1 f2
     have w2:Zar .i64 (s+n2)=s+n2:=Zaj (by omega) (by omega)
     have hq0: -9223372036854775808<q:=by
      have:=Int.mul_tdiv_add_tmod n1 n2
      omega
     have w3:Zar .i64 (q-1)=q-1:=Zaj (by omega) (by omega)
     simp[A.b227,Zak,slc,splice,Zad,hmin,hz,hq,hs,w1,w2,w3,hneg,Ret,Zao.chk]
     exact⟨(kk.set (by omega)).set (by omega),_,_,⟨rfl,rfl⟩,by rw[←f1];exact In.small (by omega) (by omega),by rw[←f2];exact In.small (by omega) (by omega)⟩
    ·rw[Yv4 hneg]at f1 f2
     simp[A.b227,Zak,slc,splice,Zad,hmin,hz,hq,hs,w1,hneg,Ret,Zao.chk]
     exact⟨(kk.set (by omega)).set (by omega),_,_,⟨rfl,rfl⟩,by rw[←f1];exact In.small (by omega) (by omega),by rw[←f2];exact In.small (by omega) (by omega)⟩
  ·simp only[V.agg.injEq,Ywu,V.int.injEq,true_and,and_true]at e2
   obtain⟨rfl,rfl⟩:=e2
   simp[A.b227,Zak,slc,splice,Zad]
   exact go _ (by simp) (by simp) (by simp) (by simp)
 ·simp only[V.agg.injEq,Ywu,V.int.injEq,true_and,and_true]at e1
  obtain⟨rfl,rfl⟩:=e1
  simp[A.b227,Zak,slc,splice,Zad,o2]
  exact go _ (by simp) (by simp) (by simp) (by simp)
def Yj3(hx:In h N x a)(hy:In h N y b)(hb:0<b)(la:wl a<10000000000)(lb:wl b<10000000000):Fn A.C 207 [x,y] h N (fun v h' n'=>In h' n' v (a/b)):=by
 intro w
 rw[Zab,A.k207 (by simp)]
 obtain⟨n1,u1,rfl,o1⟩:=hx.cells
 obtain⟨n2,u2,rfl,o2⟩:=hy.cells
 have kk:=kset (kset (kset (Keeps.refl (h:=h) (n:=N)) (.cells [.int .i64 n1,u1] 109 true)) (.cells [.int .i64 n2,u2] 109 true)) (.cells [.int .i64 0,.nilslice] 109 true)
 have hx':=hx.keep kk
 have hy':=hy.keep kk
 have hsg:=Zi2 hy'
 unfold V.one at o1 o2
 have c1:¬sg3 b<0:=by unfold sg3;rw[Yv4 (by omega)];split<;>omega
 simp[A.b207,Zak,slc,splice,o1,o2]
 refine Zac hsg ?_
 rintro _ h1 m1 k1 rfl
 have kle1:=k1.le
 have g0:=k1.get N (by omega)
 have g1:=k1.get (N+1) (by omega)
 have g2:=k1.get (N+1+1) (by omega)
 simp at g0 g1 g2
 simp[c1,g0,g1,Zak,slc]
 refine Zac (Zs9 (hx'.keep k1) (hy'.keep k1) hb la lb) ?_
 rintro _ h2 m2 k2 ⟨q,r,rfl,hq,hr⟩
 have kle2:=k2.le
 have g22:=(k2.get (N+1+1) (by omega)).trans g2
 obtain⟨n3,u3,rfl,o3⟩:=hq.cells
 obtain⟨n4,u4,rfl,o4⟩:=hr.cells
 unfold V.one at o3 o4
 have d1:¬m2=m2+1:=by omega
 have d2:¬N+1+1=m2:=by omega
 have d3:¬N+1+1=m2+1:=by omega
 have wok:¬m2<N:=by omega
 have wok1:¬m2+1<N:=by omega
 have wok2:¬N+1+1<N:=by omega
 have kE:=((kset (kset (Keeps.refl (h:=h2) (n:=m2)) (.cells [.int .i64 0,.nilslice] 109 true)) (.cells [.int .i64 0,.nilslice] 109 true)).set (i:=m2) (o:=.cells [.int .i64 n3,u3] 109 true) (Yv5 _)).set (i:=m2+1) (o:=.cells [.int .i64 n4,u4] 109 true) (by omega)
 have g23:=(kE.get (N+1+1) (by omega)).trans g22
 have d4:¬N+1=m2:=by omega
 simp[g22,Zak,slc,splice,Zal,o3,o4,d1,d2,d3,d4,Ret,wok,wok1,wok2]
 exact⟨(((kk.trans k1).trans k2).trans kE).set (by omega),(hq.keep kE).setNU g23 (by simp) rfl⟩
structure GcI (h:T O) (N G m:Nat) (r:T V) (st:St):Prop where
 w:Zaa N st.w=[]
 keep:Keeps h N st.h st.n
 le:N+3≤st.n
 row:st.h.get (N+2)=some (.cells [.int .i64 0,.nilslice] 109 true)
 ex:∃(n1 n2:Int) (u1 u2:V) (p:Nat),st.h.get N=some (.cells [.int .i64 n1,u1] 109 true)∧st.h.get (N+1)=some (.cells [.int .i64 n2,u2] 109 true)∧In st.h st.n (.agg [.int .i64 n1,u1]) p∧In st.h st.n (.agg [.int .i64 n2,u2]) m∧Nat.gcd p m=G∧wl p<10000000000∧wl m<10000000000
def Yik{G:Nat}(a2:r0.get 2=some (.ptr N 0))(a3:r0.get 3=some (.ptr (N+1) 0)):
  ∀x r st,(∀t,inD [(5,6),(11,21)] t=false→r.get t=r0.get t)→Fx [(5,6),(11,21)] r0 23 ⟨r,23,[]⟩→GcI h N G x r st→Code A.C none A.lb193_0 ⟨r,23,[]⟩ st (Rd [(5,6),(11,21)] r0 23 (GcI h N G) x (fun e r st=>e=.exit 0∧GcI h N G 0 r st)):=by
 rintro m r ⟨H,n0,W⟩ hr hf ⟨hW,hK,hle,hrow,n1,n2,u1,u2,p,g0,g1,hp,hm,hg,lp,lm⟩
 simp only at hW hK hle hrow g0 g1 hp hm
 rw[Zah]
 simp[A.lb193_0,hr,hf,a2,a3,g1,Zak,slc]
 refine Zac (Zi2 hm) ?_
 rintro _ h1 m1 k1 rfl
 have kle1:=k1.le
 have f0:=(k1.get N (by omega)).trans g0
 have f1:=(k1.get (N+1) (by omega)).trans g1
 have f2:=(k1.get (N+2) (by omega)).trans hrow
 by_cases h0:m=0
 ·subst h0
  simp[hr,hf,sg3,Zad]
  exact⟨hW,hK.trans k1,by show N+3≤m1;omega,f2,n1,n2,u1,u2,p,f0,f1,hp.keep k1,hm.keep k1,hg,lp,lm⟩
 ·have c1:¬sg3 m=0:=by unfold sg3;rw[Yv4 (by omega),Yv4 (by omega)];decide
  simp[hr,hf,a2,a3,c1,Zad,f0,f1,Zak,slc]
  refine Zac (Zs9 (hp.keep k1) (hm.keep k1) (by omega) lp lm) ?_
  rintro _ h2 m2 k2 ⟨q,s,rfl,hq,hs⟩
  have kle2:=k2.le
  have e0:=(k2.get N (by omega)).trans f0
  have e1:=(k2.get (N+1) (by omega)).trans f1
  have e2:=(k2.get (N+2) (by omega)).trans f2
  obtain⟨n3,u3,rfl,o3⟩:=hq.cells
  obtain⟨n4,u4,rfl,o4⟩:=hs.cells
  obtain⟨_,_,e5,o2⟩:=hm.cells
  simp only[V.agg.injEq,Ywu,V.int.injEq,true_and,and_true]at e5
  obtain⟨rfl,rfl⟩:=e5
  have o2':=o2
  unfold V.one at o3 o4 o2
  have kE:=((kset (kset (Keeps.refl (h:=h2) (n:=m2)) (.cells [.int .i64 0,.nilslice] 109 true)) (.cells [.int .i64 0,.nilslice] 109 true)).set (i:=m2) (o:=.cells [.int .i64 n3,u3] 109 true) (Yv5 _)).set (i:=m2+1) (o:=.cells [.int .i64 n4,u4] 109 true) (by omega)
  have i0:=(kE.get N (by omega)).trans e0
  have i1:=(kE.get (N+1) (by omega)).trans e1
  have i2:=(kE.get (N+2) (by omega)).trans e2
  have d1:¬m2=m2+1:=by omega
  have d2:¬N=m2:=by omega
  have d3:¬N=m2+1:=by omega
  have d4:¬N+1=m2:=by omega
  have d5:¬N+1=m2+1:=by omega
  have d6:¬m2=N:=by omega
  have d7:¬m2+1=N:=by omega
  have d8:¬m2=N+1:=by omega
  have d9:¬m2+1=N+1:=by omega
  have d10:¬N=N+1:=by omega
  have l1:N<m2+1+1:=by omega
  have l2:N+1<m2+1+1:=by omega
  simp(disch:=first|(simp;done)|omega|(simp only[Zaf,Zag,Yv8];omega)|rfl) [hr,hf,a2,a3,e0,e1,Zak,slc,splice,Zal,o2,o3,o4,d1,d2,d3,d4,d5,d6,d7,d8,d9,d10,l1,l2,Zao.chk]
  rw[Zl0 (by simp[d1,d2,d3,d4,d5,d6,d7,d8,d9,d10]<;>omega)]
  simp[hr,hf]
  have wok:¬m2<N:=by omega
  have wok1:¬m2+1<N:=by omega
  have q1:=((hm.keep k1).keep k2).keep kE
  have s1:=hs.keep kE
  have q2:=q1.setNU (c1:=[.int .i64 n2,u2]) (e1:=109) (w1:=true) i0 hp.nu rfl
  have s2:=s1.setNU (c1:=[.int .i64 n2,u2]) (e1:=109) (w1:=true) i0 hp.nu rfl
  have i3:(((((h2.set m2 (.cells [.int .i64 0,.nilslice] 109 true)).set (m2+1) (.cells [.int .i64 0,.nilslice] 109 true)).set m2 (.cells [.int .i64 n3,u3] 109 true)).set (m2+1) (.cells [.int .i64 n4,u4] 109 true)).set N (.cells [.int .i64 n2,u2] 109 true)).get (N+1)=some (.cells [.int .i64 n2,u2] 109 true):=by rw[T.get_set,Yv4 (by omega)];exact i1
  have q3:=q2.setNU (c1:=[.int .i64 n4,u4]) (e1:=109) (w1:=true) i3 hm.nu rfl
  have s3:=s2.setNU (c1:=[.int .i64 n4,u4]) (e1:=109) (w1:=true) i3 hm.nu rfl
  refine⟨p%m,Yxo _ (by omega),by simp[Zaa,hW,wok,wok1],((((hK.trans k1).trans k2).trans kE).set (Yv5 _)).set (by omega),by show N+3≤m2+1+1;omega,?_,n2,n4,u2,u4,m,by simp,by simp,q3,?_,?_,lm,?_⟩
  ·rw[T.get_set,Yv4 (by omega),T.get_set,Yv4 (by omega)];exact i2
  ·rw[←Int.natCast_emod]at s3;exact s3
  ·rw[←hg,Nat.gcd_comm p m,Nat.gcd_rec m p,Nat.gcd_comm]
  ·have:=Ypx (a:=(p:Int)) (b:=(m:Int)) (by omega)
   rw[←Int.natCast_emod]at this
   omega
def Ykm(hx:In h N x a)(hy:In h N y b)(la:wl a<10000000000)(lb:wl b<10000000000):Fn A.C 193 [x,y] h N (fun v h' n'=>In h' n' v (Int.gcd a b:Nat)):=by
 intro w
 rw[Zab,A.k193 (by simp)]
 obtain⟨n1,u1,rfl,o1⟩:=hx.cells
 obtain⟨n2,u2,rfl,o2⟩:=hy.cells
 have kk:=kset (kset (kset (Keeps.refl (h:=h) (n:=N)) (.cells [.int .i64 n1,u1] 109 true)) (.cells [.int .i64 n2,u2] 109 true)) (.cells [.int .i64 0,.nilslice] 109 true)
 have hx':=hx.keep kk
 have hy':=hy.keep kk
 unfold V.one at o1 o2
 simp[A.b193,Zak,slc,splice,o1,o2]
 refine Zac (Yk4 hx' (by omega)) ?_
 rintro v1 h1 m1 k1 hv1
 have kle1:=k1.le
 have g1:=k1.get (N+1) (by omega)
 simp at g1
 have l1:N+1<m1:=by omega
 simp[g1,l1,Zak,slc]
 refine Zac (Yk4 (hy'.keep k1) (by omega)) ?_
 rintro v2 h2 m2 k2 hv2
 have hv1':=hv1.keep k2
 have k12:=k1.trans k2
 have kle2:=k2.le
 obtain⟨n3,u3,rfl,o3⟩:=hv1.cells
 obtain⟨n4,u4,rfl,o4⟩:=hv2.cells
 unfold V.one at o3 o4
 have i0:=k12.get N (by omega)
 have i1:=k12.get (N+1) (by omega)
 have i2:=k12.get (N+1+1) (by omega)
 simp at i0 i1 i2
 have l2:N<m2:=by omega
 have l3:N+1<m2:=by omega
 have l4:N<m1:=by omega
 simp[i0,i1,Zak,slc,splice,Zal,o3,o4,l1,l2,l3,l4,Zao.chk]
 have q1:=hv1'.setNU (c1:=[.int .i64 n3,u3]) (e1:=109) (w1:=true) i0 hx.nu rfl
 have s1:=hv2.setNU (c1:=[.int .i64 n3,u3]) (e1:=109) (w1:=true) i0 hx.nu rfl
 have i3:(h2.set N (.cells [.int .i64 n3,u3] 109 true)).get (N+1)=some (.cells [.int .i64 n2,u2] 109 true):=by rw[T.get_set,Yv4 (by omega)];exact i1
 have q2:=q1.setNU (c1:=[.int .i64 n4,u4]) (e1:=109) (w1:=true) i3 hy.nu rfl
 have s2:=s1.setNU (c1:=[.int .i64 n4,u4]) (e1:=109) (w1:=true) i3 hy.nu rfl
 have wa:wl (a.natAbs:Int)=wl a:=by unfold wl;rw[Ywc]
 have wb:wl (b.natAbs:Int)=wl b:=by unfold wl;rw[Ywc]
 refine Zai [(5,6),(11,21)] _ (GcI h N (Int.gcd a b)) b.natAbs ?_ (Yik (by simp) (by simp)) ?_
 ·refine⟨by simp[Zaa],((kk.trans k12).set (Yv5 _)).set (by omega),by show N+3≤m2;omega,?_,n3,n4,u3,u4,a.natAbs,by simp,by simp,q2,s2,rfl,by rw[wa];exact la,by rw[wb];exact lb⟩
  rw[T.get_set,Yv4 (by omega),T.get_set,Yv4 (by omega)];exact i2
 rintro e r ⟨h5,m5,W5⟩ hr ⟨rfl,hW,hK,hle,hrow,n5,n6,u5,u6,p,g5,g6,hp,hm,hg,lp,lm⟩
 simp only at hW hK hle hrow g5 g6 hp hm
 obtain⟨_,_,e5,o5⟩:=hp.cells
 simp only[V.agg.injEq,Ywu,V.int.injEq,true_and,and_true]at e5
 obtain⟨rfl,rfl⟩:=e5
 unfold V.one at o5
 rw[Nat.gcd_zero_right]at hg
 have hrow':h5.get (N+1+1)=some (.cells [.int .i64 0,.nilslice] 109 true):=hrow
 have wok:¬N+1+1<N:=by omega
 simp[hr,g5,hrow',Zak,slc,splice,Zal,o5,Ret,hW,wok]
 exact⟨hK.set (by omega),by rw[←hg];exact hp.setNU hrow' (by simp) rfl⟩
noncomputable def A.b56:=A.q Tryz.f56
def A.k56:=@A.kk 56 7 [.tmp 4] A.b56 (by kernel_rfl) rfl
noncomputable def A.b192:=A.q Tryz.f192
def A.k192:=@A.kk 192 7 [.tmp 4] A.b192 (by kernel_rfl) rfl
def Ztv{b:Bool}{e:Int}{st:St}:A.C.call (.func 56 [] []) [.bool b,.int .i64 e] st=some (.int .i64 (if b=true then e else 0),st):=by
 apply Call.eq
 rw[Zab,A.k56 (by simp)]
 cases b<;>simp[A.b56]
def Zem{b:Bool}{e:Int}{st:St}:A.C.call (.func 192 [] []) [.bool b,.int .i64 e] st=some (.int .i64 (if b=true then e else 0),st):=by
 apply Call.eq
 rw[Zab,A.k192 (by simp)]
 cases b<;>simp[A.b192]
variable {s:Str}
noncomputable def A.b234:=A.q Tryz.f234
def A.k234:=@A.kk 234 18 [.tmp 4] A.b234 (by kernel_rfl) rfl
noncomputable def A.b189:=A.q Tryz.f189
def A.k189:=@A.kk 189 11 [.tmp 4,.tmp 5] A.b189 (by kernel_rfl) rfl
noncomputable def A.b224:=A.q Tryz.f224
def A.k224:=@A.kk 224 15 [.tmp 4,.tmp 5] A.b224 (by kernel_rfl) rfl
noncomputable def A.b213:=A.q Tryz.f213
def A.k213:=@A.kk 213 8 [.tmp 4] A.b213 (by kernel_rfl) rfl
noncomputable def A.b235:=A.q Tryz.f235
def A.k235:=@A.kk 235 13 [.tmp 4] A.b235 (by kernel_rfl) rfl
noncomputable def A.b212:=A.q Tryz.f212
def A.k212:=@A.kk 212 8 [.tmp 4] A.b212 (by kernel_rfl) rfl
noncomputable def A.b256:=A.q Tryz.f256
def A.k256:=@A.kk 256 8 [.tmp 4] A.b256 (by kernel_rfl) rfl
noncomputable def A.w233:=A.q Tryz.f233
noncomputable def A.lb233_0:=A.ql A.w233 0 []
noncomputable def A.b233:=(fun x0=>A.qb A.w233 [x0]) A.lb233_0
def A.k233:=@A.kk 233 143 [.tmp 4] A.b233 (by kernel_rfl) rfl
noncomputable def A.b211:=A.q Tryz.f211
def A.k211:=@A.kk 211 23 [.tmp 4,.tmp 5,.tmp 6] A.b211 (by kernel_rfl) rfl
noncomputable def A.b167:=A.q Tryz.f167
def A.k167:=@A.kk 167 13 [.tmp 4,.tmp 5,.tmp 6] A.b167 (by kernel_rfl) rfl
def Zd1{s:Str}{st:St}:A.C.call (.func 234 [] []) [.str s,.str [45]] st=some (.bool (negS s),st):=by
 apply Call.eq
 rw[Zab,A.k234 (by simp)]
 cases s with
 |nil=>simp[A.b234,negS]
 |cons c s=>
  have e:(([c]:Str)==[45])=decide (c.toNat=45):=by
   rw[Bool.eq_iff_iff]
   simp only[beq_iff_eq,decide_eq_true_eq,Ywu,and_true]
   exact⟨fun h=>by rw[h];rfl,fun h=>UInt8.toNat_inj.1 h⟩
  have h1:(1:Int)≤(s.length:Int)+1:=by omega
  simp[A.b234,negS,evOpt,e,h1]
def Zte{st:St}:A.C.call (.func 189 [] []) [.str s,.str [45]] st=some (.tup [.str (Zaq s),.bool (negS s)],st):=by
 apply Call.eq
 rw[Zab,A.k189 (by simp)]
 simp[A.b189]
 rw[A.k224 (by simp)]
 by_cases hn:negS s=true
 ·have h1:1≤s.length:=by cases s<;>simp[negS]at hn ⊢
  have h1':(1:Int)≤s.length:=by omega
  simp[A.b224,Zd1,hn,evOpt,h1',Zaq]
 ·simp[A.b224,Zd1,hn,Zaq]
def Zj0{st:St}:A.C.call (.func 213 [] []) [.str s,.str [45]] st=some (.str (Zaq s),st):=by
 apply Call.eq
 rw[Zab,A.k213 (by simp)]
 simp[A.b213]
 rw[A.k235 (by simp)]
 by_cases hn:negS s=true
 ·have h1:1≤s.length:=by cases s<;>simp[negS]at hn ⊢
  have h1':(1:Int)≤s.length:=by omega
  simp[A.b235,Zd1,hn,evOpt,h1',Zaq]
 ·simp[A.b235,Zd1,hn,Zaq]
def Zsz{st:St}:A.C.call (.func 212 [] []) [.str s,.str [45]] st=some (.bool (negS s),st):=by
 apply Call.eq
 rw[Zab,A.k212 (by simp)]
 simp[A.b212,Zd1]
def Zsy{st:St}:A.C.call (.func 256 [] []) [.str s,.int .u8 47] st=some (.int .i64 (if slashAt s<s.length then (slashAt s:Int) else -1),st):=by
 apply Call.eq
 rw[Zab,A.k256 (by simp)]
 have e:=Zkn s 0
 simp only[Yyt]at e
 simp[A.b256,Yob,Yiq,e]
def Zxe{st:St}:A.C.call (.func 233 [] []) [.str s,.str [47]] st=some (.int .i64 (if slashAt s<s.length then (slashAt s:Int) else -1),st):=by
 apply Call.eq
 rw[Zab,A.k233 (by simp)]
 by_cases hs:s=[47]
 ·subst hs
  simp[A.b233,Zad,slashAt]
 ·have e1:(([47]:Str)==s)=false:=by simp;exact fun h=>hs h.symm
  have e2:u8I 47=47:=rfl
  simp[A.b233,Zad,Zsy,e1,e2]
def Ykx{st:St}(hl:s.length<4611686018427387904):A.C.call (.func 167 [] []) [.str s,.str [47]] st=some (.tup [.str (s.take (slashAt s)),.str (s.drop (slashAt s+1)),.bool (decide (slashAt s<s.length))],st):=by
 apply Call.eq
 rw[Zab,A.k167 (by simp)]
 simp[A.b167]
 rw[A.k211 (by simp)]
 have hle:=Zdm s
 by_cases hs:slashAt s<s.length
 ·simp(disch:=first|(simp;done)|omega|(simp only[Zaf,Zag,Yv8];omega)|rfl) [A.b211,Zxe,hs,evOpt]
  try omega
 ·have:s.take (slashAt s)=s:=Ywe (by omega)
  have h2:s.drop (slashAt s+1)=[]:=Yw8 (by omega)
  simp(disch:=first|(simp;done)|omega|(simp only[Zaf,Zag,Yv8];omega)|rfl) [-getElem?_pos,A.b211,Zxe,hs,this,h2]
end Go.Mx
