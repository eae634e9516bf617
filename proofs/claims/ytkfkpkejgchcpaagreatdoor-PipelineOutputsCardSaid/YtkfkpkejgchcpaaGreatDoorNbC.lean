/-num-/
import Derived.Test.YtkfkpkejgchcpaaGreatDoorNbA
set_option linter.all false
namespace Go.Mx
open Go Go.Proofs
variable {N:Nat} {a b:Int} {h:T O} {r0:T V} {x y:V}
set_option maxHeartbeats 2000000
set_option maxRecDepth 1000000
def A.ta161_0:Zah:=.seq (.regD [lN 82 2 14,lN 83 2 15,gn (.store 2 (tq 4) (tq 82)),gn (.store 2 (tq 5) (tq 83))] [0,0,1,7])
 (.ret)
def A.ta161_1:Zah:=sr [lN 52 2 2,c1 53 190 52,mv 51 53,xt 54 51 0,xt 55 51 1,mv 8 54,mv 9 55]
 (sr [lN 57 2 3,c1 58 190 57,mv 56 58,xt 59 56 0,xt 60 56 1,mv 10 59,mv 11 60]
 (sr [mv 62 9,mv 63 11,c2 64 191 62 63,mv 61 64,xt 65 61 0,xt 66 61 1,mv 12 65,mv 13 66]
 (sr [mv 67 8,mv 68 12,c2 69 219 67 68,mv 70 8,mv 71 13,c2 72 219 70 71,ge 14 (.alloc [.int .i64 0,.nilslice] 156),ge 15 (.alloc [.int .i64 0,.nilslice] 156),gn (.store 2 (tq 14) (tq 69)),gn (.store 2 (tq 15) (tq 72))]
 (.seq (sr [lN 73 2 15,c1 74 160 73,bc 75 .lss 74 0]
 (cd 75
 (.regD [lN 76 2 14,ge 77 (.call (fq 95) [.const (.int .i64 1)]),c2 78 169 76 77,lN 79 2 15,lN 80 2 3,c2 81 167 79 80,gn (.store 2 (tq 14) (tq 78)),gn (.store 2 (tq 15) (tq 81))] [0,0,3,0,0,31,63,127])
 (.skip)))
 A.ta161_0))))
def A.b161:Zah:=sr [bx 2 156 0,bx 3 156 1,ge 4 (.alloc [.int .i64 0,.nilslice] 156),ge 5 (.alloc [.int .i64 0,.nilslice] 156)]
 (.seq (sr [fa 16 1 2,ld 17 16,ge 18 (.bin .eql (.prim .slice) true (tq 17) (.const .nilslice)),mv 19 18,gy 20 19 (.faddr 1 (tq 3)),gy 21 19 (.load none (tq 20)),gy 22 19 (.bin .eql (.prim .slice) true (tq 21) (.const .nilslice)),pf 23 19 22,mv 24 23,gy 25 24 (.faddr 0 (tq 2)),gy 26 24 (.load none (tq 25)),gy 27 24 (.bin .neq (.prim .int) true (tq 26) (.const (.int .i64 (-9223372036854775808)))),pf 28 24 27]
 (cd 28
 (.seq (.regD [fa 29 0 2,ld 30 29,fa 31 0 3,ld 32 31,bi 33 .quo 30 32,fa 34 0 2,ld 35 34,fa 36 0 3,ld 37 36,bi 38 .rem 35 37,mv 6 33,mv 7 38] [0,1,0,4,15,0,32,0,128,480,31,2047])
 (.seq (sr [mv 39 7,bc 40 .lss 39 0]
 (cd 40
 (.regD [mv 41 6,bc 42 .sub 41 1,mv 43 7,fa 44 0 3,ld 45 44,bi 46 .add 43 45,mv 6 42,mv 7 46] [0,1,0,0,8,28,3,127])
 (.skip)))
 (sr [mv 47 6,ge 48 (.build [.int .i64 0,.nilslice] [(0,1,(tq 47))]),mv 49 7,ge 50 (.build [.int .i64 0,.nilslice] [(0,1,(tq 49))]),gn (.store 2 (tq 4) (tq 48)),gn (.store 2 (tq 5) (tq 50))]
 (.ret))))
 (.skip)))
 A.ta161_1)
def A.k161:=@A.kk 161 84 [.cell 4 (some 2),.cell 5 (some 2)] A.b161 (by kernel_rfl) rfl
def A.b234:Zah:=sr [bx 2 156 0,bx 3 156 1,ge 4 (.alloc [.int .i64 0,.nilslice] 156)]
 (.seq (sr [lN 7 2 3,c1 8 160 7,bc 9 .lss 8 0]
 (cd 9
 (.regD [lN 10 2 2,c1 11 168 10,lN 12 2 3,c1 13 168 12,gn (.store 2 (tq 2) (tq 11)),gn (.store 2 (tq 3) (tq 13))] [0,1,0,7,15,31])
 (.skip)))
 (sr [lN 15 2 2,lN 16 2 3,c2 17 161 15 16,mv 14 17,xt 18 14 0,xt 19 14 1,ge 5 (.alloc [.int .i64 0,.nilslice] 156),ge 6 (.alloc [.int .i64 0,.nilslice] 156),gn (.store 2 (tq 5) (tq 18)),gn (.store 2 (tq 6) (tq 19))]
 (sr [lN 20 2 5,gn (.store 2 (tq 4) (tq 20))]
 (.ret))))
def A.k234:=@A.kk 234 21 [.cell 4 (some 2)] A.b234 (by kernel_rfl) rfl
def A.lb92_0:Zah:=.seq (sr [lN 11 2 3,c1 12 160 11,ni 13 12 0]
 (cd 13
 (.skip)
 (.exit 0)))
 (.block 1 (sr [lN 15 2 2,lN 16 2 3,c2 17 161 15 16,mv 14 17,xt 18 14 0,xt 19 14 1,ge 5 (.alloc [.int .i64 0,.nilslice] 156),ge 6 (.alloc [.int .i64 0,.nilslice] 156),gn (.store 2 (tq 5) (tq 18)),gn (.store 2 (tq 6) (tq 19))]
 (.regD [lN 20 2 3,lN 21 2 6,gn (.store 2 (tq 2) (tq 20)),gn (.store 2 (tq 3) (tq 21))] [0,0,1,7])))
def A.b92:Zah:=sr [bx 2 156 0,bx 3 156 1,ge 4 (.alloc [.int .i64 0,.nilslice] 156)]
 (.seq (.regD [lN 7 2 2,c1 8 159 7,lN 9 2 3,c1 10 159 9,gn (.store 2 (tq 2) (tq 8)),gn (.store 2 (tq 3) (tq 10))] [0,1,0,7,15,31])
 (.seq (.block 0 (.loop A.lb92_0))
 (sr [lN 22 2 2,gn (.store 2 (tq 4) (tq 22))]
 (.ret))))
def A.k92:=@A.kk 92 23 [.cell 4 (some 2)] A.b92 (by kernel_rfl) rfl
def Zwu(hb:0<b):(if a.tmod b<0 then a.tdiv b-1 else a.tdiv b)=a/b∧(if a.tmod b<0 then a.tmod b+b else a.tmod b)=a%b:=by
 have h1:=Int.mul_tdiv_add_tmod a b
 have h2:=Int.tmod_lt_of_pos a hb
 have h3: -b<a.tmod b:=by
  have:=Int.tmod_lt_of_pos (-a) hb
  rw[Int.neg_tmod]at this
  omega
 have key:∀q r:Int,b*q+r=a→0≤r→r<b→q=a/b∧r=a%b:=by
  intro q r e r0 r1
  have:=(Int.ediv_emod_unique hb (r:=r) (q:=q) (a:=a)).2 ⟨by omega,r0,r1⟩
  exact⟨this.1.symm,this.2.symm⟩
 by_cases h:a.tmod b<0
 ·rw[Yr6 h,Yr6 h]
  exact key _ _ (by rw[Int.mul_sub];omega) (by omega) (by omega)
 ·rw[Yr3 h,Yr3 h]
  exact key _ _ (by omega) (by omega) h2
def Yd0(hb:0<b):∀q r:Int,q=(if decide (a<0)=true then -((a.natAbs/b.natAbs:Nat):Int) else (a.natAbs/b.natAbs:Nat))→r=(if decide (a<0)=true then -((a.natAbs%b.natAbs:Nat):Int) else (a.natAbs%b.natAbs:Nat))→(if r<0 then q-1 else q)=a/b∧(if r<0 then r+b else r)=a%b:=by
 intro q r hq hr
 have h1:=Ytp a.natAbs b.natAbs
 have h2:=Ys9 a.natAbs (show 0<b.natAbs by omega)
 have hbe:(b.natAbs:Int)=b:=by omega
 have h1':b*((a.natAbs/b.natAbs:Nat):Int)+((a.natAbs%b.natAbs:Nat):Int)=a.natAbs:=by
  rw[←hbe,←Yvr,←Int.natCast_add,Yr9,h1]
 have key:∀q r:Int,b*q+r=a→0≤r→r<b→q=a/b∧r=a%b:=by
  intro q r e r0 r1
  have:=(Int.ediv_emod_unique hb (r:=r) (q:=q) (a:=a)).2 ⟨by omega,r0,r1⟩
  exact⟨this.1.symm,this.2.symm⟩
 generalize a.natAbs/b.natAbs=Q at*
 generalize a.natAbs%b.natAbs=R at*
 by_cases ha:a<0
 ·simp only[ha,decide_true,if_true]at hq hr
  subst hq hr
  by_cases h: -(R:Int)<0
  ·rw[Yr6 h,Yr6 h]
   exact key _ _ (by rw[Int.mul_sub,Int.mul_neg];omega) (by omega) (by omega)
  ·rw[Yr3 h,Yr3 h]
   exact key _ _ (by rw[Int.mul_neg];omega) (by omega) (by omega)
 ·simp only[ha,decide_false,Yse,if_false]at hq hr
  subst hq hr
  rw[Yr3 (by omega),Yr3 (by omega)]
  exact key _ _ (by omega) (by omega) (by omega)
def Yme(hb:0<b):wl (a%b)≤wl b:=by
 apply Zsn
 have h1:=Yus a hb
 have h2:=Yu8 a (show b≠0 by omega)
 omega
def Zov{c:Bool}{n:Nat}:(if c=true then -(n:Int) else (n:Int)).natAbs=n:=by split<;>omega
def Yil{H:T O}{n m:Nat}{nq nr q s:Int}{uq ur:V}{W:List Nat}(hW:Zad N W=[])(hK:Keeps h N H n)(hm:N+4≤m)(hmn:m+1<n)(hq:In H n (.agg [.int .i64 nq,uq]) q)(hr:In H n (.agg [.int .i64 nr,ur]) s)(oq:V.one uq=true)(or:V.one ur=true)
  (gz:H.get (N+2)=some (.cells [.int .i64 0,.nilslice] 156 true)) (gt:H.get (N+3)=some (.cells [.int .i64 0,.nilslice] 156 true)) (gq:H.get m=some (.cells [.int .i64 nq,uq] 156 true)) (gr:H.get (m+1)=some (.cells [.int .i64 nr,ur] 156 true))
  (r4:r0.get 4=some (.ptr (N+2) 0)) (r5:r0.get 5=some (.ptr (N+3) 0)) (r14:r0.get 14=some (.ptr m 0)) (r15:r0.get 15=some (.ptr (m+1) 0)):
  Code A.C none A.ta161_0 ⟨r0,84,[]⟩ ⟨H,n,W⟩ (fun e fr st=>e=.ret∧∃r,fr=⟨r,84,[]⟩∧r.get 4=some (.ptr (N+2) 0)∧r.get 5=some (.ptr (N+3) 0)∧Yl0 h N (N+2) q st∧Yl0 h N (N+3) s st):=by
 have n1:m<n:=by omega
 have n2:N+2<n:=by omega
 have n3:N+3<n:=by omega
 have d1:¬m=N+2:=by omega
 have d2:¬m=N+3:=by omega
 have d3:¬N+2=m:=by omega
 have d4:¬N+3=m:=by omega
 have d5:¬N+2=m+1:=by omega
 have d6:¬N+3=m+1:=by omega
 have d7:¬m+1=N+2:=by omega
 have d8:¬m+1=N+3:=by omega
 have d9:¬N+3=N+2:=by omega
 have d10:¬N+2=N+3:=by omega
 rw[Zaj]
 have k1:=(hK.set (i:=N+2) (o:=.cells [.int .i64 nq,uq] 156 true) (by omega)).set (i:=N+3) (o:=.cells [.int .i64 nr,ur] 156 true) (by omega)
 have hq2:=(hq.setNU (c1:=[.int .i64 nq,uq]) (e1:=156) (w1:=true) gz (by simp) rfl)
 have hr2:=(hr.setNU (c1:=[.int .i64 nq,uq]) (e1:=156) (w1:=true) gz (by simp) rfl)
 have gt2:(H.set (N+2) (.cells [.int .i64 nq,uq] 156 true)).get (N+3)=some (.cells [.int .i64 0,.nilslice] 156 true):=by rw[T.get_set,Yr3 d9];exact gt
 have hq3:=(hq2.setNU (c1:=[.int .i64 nr,ur]) (e1:=156) (w1:=true) gt2 (by simp) rfl)
 have hr3:=(hr2.setNU (c1:=[.int .i64 nr,ur]) (e1:=156) (w1:=true) gt2 (by simp) rfl)
 have hW2:Zad N ((N+3)::(N+2)::W)=[]:=by simp[Zad,hW]
 unfold V.one at oq or
 simp(disch:=omega) [A.ta161_0,r4,r5,r14,r15,gz,gt,gq,gr,n1,n2,n3,hmn,d1,d2,d3,d4,d5,d6,d7,d8,d9,d10,oq,or,Zam,slc,splice,Zal,Zao.chk]
 rw[Zro (by simp[d1,d2,d3,d4,d5,d6,d7,d8,d9,d10]<;>omega)]
 simp[r4,r5]
 exact⟨⟨hW2,k1,nq,uq,by simp,hq3⟩,⟨hW2,k1,nr,ur,by simp,hr3⟩⟩
def Ylf{H:T O}{n1 n2:Int}{u1 u2:V}(hx:In H (N+4) (.agg [.int .i64 n1,u1]) a)(hy:In H (N+4) (.agg [.int .i64 n2,u2]) b)(hb:0<b)(la:wl a<10000000000)(lb:wl b<10000000000)(hK:Keeps h N H (N+4))(oy:V.one u2=true)
  (gx:H.get N=some (.cells [.int .i64 n1,u1] 156 true)) (gy:H.get (N+1)=some (.cells [.int .i64 n2,u2] 156 true)) (gz:H.get (N+2)=some (.cells [.int .i64 0,.nilslice] 156 true)) (gt:H.get (N+3)=some (.cells [.int .i64 0,.nilslice] 156 true)) (r2:r0.get 2=some (.ptr N 0)) (r3:r0.get 3=some (.ptr (N+1) 0)) (r4:r0.get 4=some (.ptr (N+2) 0)) (r5:r0.get 5=some (.ptr (N+3) 0)):
  Code A.C none A.ta161_1 ⟨r0,84,[]⟩ ⟨H,N+4,[]⟩ (fun e fr st=>e=.ret∧∃r,fr=⟨r,84,[]⟩∧r.get 4=some (.ptr (N+2) 0)∧r.get 5=some (.ptr (N+3) 0)∧Yl0 h N (N+2) (a/b) st∧Yl0 h N (N+3) (a%b) st):=by
 rw[Zaj]
 simp[A.ta161_1,r2,gx,Zam,slc]
 refine Zaf (Zeo hx) ?_
 rintro _ h1 N1 k1 ⟨ua,rfl,hua⟩
 have kle1:=k1.le
 have gy1:=(k1.get (N+1) (by omega)).trans gy
 simp[r3,gy1,Zam,slc]
 refine Zaf (Zeo (hy.keep k1)) ?_
 rintro _ h2 N2 k2 ⟨ub,rfl,hub⟩
 have kle2:=k2.le
 have hua2:=hua.keep k2
 have la':(wds a.natAbs).length<10000000000:=la
 have lb':(wds b.natAbs).length<10000000000:=lb
 simp[]
 refine Zaf (Zr2 hua2 hub (by omega) (by omega) (by omega)) ?_
 rintro _ h3 N3 k3 ⟨q,r,rfl,hq,hr⟩
 simp[]
 have lq:=Zdb (Ytw a.natAbs b.natAbs)
 have lr:=Zdb (Nat.mod_le a.natAbs b.natAbs)
 refine Zaf (Zg6 hq (by omega)) ?_
 rintro vq h4 N4 k4 hq4
 simp[]
 refine Zaf (Zg6 (hr.keep k4) (by omega)) ?_
 rintro vr h5 N5 k5 hr5
 have kA:=(((k1.trans k2).trans k3).trans k4).trans k5
 have kleA:=kA.le
 have hq5:=hq4.keep k5
 have gy5:=(kA.get (N+1) (by omega)).trans gy
 have gz5:=(kA.get (N+2) (by omega)).trans gz
 have gt5:=(kA.get (N+3) (by omega)).trans gt
 obtain⟨qv,hqv⟩:∃q,(if decide (a<0)=true then -((a.natAbs/b.natAbs:Nat):Int) else (a.natAbs/b.natAbs:Nat))=q:=⟨_,rfl⟩
 obtain⟨rv,hrv⟩:∃q,(if decide (a<0)=true then -((a.natAbs%b.natAbs:Nat):Int) else (a.natAbs%b.natAbs:Nat))=q:=⟨_,rfl⟩
 rw[hqv]at hq5
 rw[hrv]at hr5
 obtain⟨e1,e2⟩:=Yd0 hb qv rv hqv.symm hrv.symm
 have wq:wl qv<20000000000:=by
  have:qv.natAbs=a.natAbs/b.natAbs:=by rw[←hqv];exact Zov
  unfold wl;rw[this];omega
 have wr:wl rv<20000000000:=by
  have:rv.natAbs=a.natAbs%b.natAbs:=by rw[←hrv];exact Zov
  unfold wl;rw[this];omega
 obtain⟨nq,uq,rfl,oq⟩:=hq5.cells
 obtain⟨nr,ur,rfl,or⟩:=hr5.cells
 have kB:=fun o1 o2=>kset (kset (Keeps.refl (h:=h5) (n:=N5)) o1) o2
 have oq':=oq
 have or':=or
 unfold V.one at oq or oy
 have d1:¬N5=N5+1:=by omega
 have gq6:(((h5.set N5 (.cells [.int .i64 0,.nilslice] 156 true)).set (N5+1) (.cells [.int .i64 0,.nilslice] 156 true)).set N5 (.cells [.int .i64 nq,uq] 156 true)).get N5=some (.cells [.int .i64 nq,uq] 156 true):=by simp
 simp[oq,or,splice,Zal,Zam,slc]
 have kC:=((kB (.cells [.int .i64 0,.nilslice] 156 true) (.cells [.int .i64 0,.nilslice] 156 true)).set (i:=N5) (o:=.cells [.int .i64 nq,uq] 156 true) (Yr4 _)).set (i:=N5+1) (o:=.cells [.int .i64 nr,ur] 156 true) (by omega)
 generalize hH6:(((h5.set N5 (.cells [.int .i64 0,.nilslice] 156 true)).set (N5+1) (.cells [.int .i64 0,.nilslice] 156 true)).set N5 (.cells [.int .i64 nq,uq] 156 true)).set (N5+1) (.cells [.int .i64 nr,ur] 156 true)=H6 at*
 have q6:H6.get N5=some (.cells [.int .i64 nq,uq] 156 true):=by rw[←hH6];simp
 have r6:H6.get (N5+1)=some (.cells [.int .i64 nr,ur] 156 true):=by rw[←hH6];simp
 have hq6:=hq5.keep kC
 have hr6:=hr5.keep kC
 have gy6:=(kC.get (N+1) (by omega)).trans gy5
 have gz6:=(kC.get (N+2) (by omega)).trans gz5
 have gt6:=(kC.get (N+3) (by omega)).trans gt5
 refine Zaf (Zkl hr6) ?_
 rintro _ h7 N7 k7 rfl
 have kle7:=k7.le
 have q7:=(k7.get N5 (by omega)).trans q6
 have r7:=(k7.get (N5+1) (by omega)).trans r6
 have gy7:=(k7.get (N+1) (by omega)).trans gy6
 have gz7:=(k7.get (N+2) (by omega)).trans gz6
 have gt7:=(k7.get (N+3) (by omega)).trans gt6
 have hq7:=hq6.keep k7
 have hr7:=hr6.keep k7
 have kF:=((hK.trans kA).trans kC).trans k7
 have wok:¬N5<N:=by omega
 have wok2:¬N5+1<N:=by omega
 have hWW:Zad N [N5+1,N5]=[]:=by simp[Zad,wok,wok2]
 by_cases hneg:rv<0
 ·have c1:sg3 rv<0:=by simp[sg3,hneg]
  rw[Yr6 hneg]at e1 e2
  have hn7:N5<N7:=by omega
  have hn7':N5+1<N7:=by omega
  have hny:N+1<N7:=by omega
  simp[c1,r3,q7,r7,gy7,Zam,slc,splice,hn7]
  refine Zaf Ztm ?_
  rintro _ h8 N8 k8 rfl
  simp[]
  refine Zaf (Yhs (hq7.keep k8) (In.small (z:=1) (by omega) (by omega)) (by omega) (by decide+kernel)) ?_
  rintro vq9 h9 N9 k9 hq9
  have k89:=k8.trans k9
  have r9:=(k89.get (N5+1) (by omega)).trans r7
  have y9:=(k89.get (N+1) (by omega)).trans gy7
  have hr9:=hr7.keep k89
  have hb9:In h9 N9 (.agg [.int .i64 n2,u2]) b:=(((((hy.keep k1).keep k2).keep k3).keep k4).keep k5 |>.keep kC |>.keep k7).keep k89
  have kle89:=k89.le
  have z1:N5+1<N9:=by omega
  have z2:N+1<N9:=by omega
  simp[r3,r9,y9,Zam,slc,splice,z1,z2]
  refine Zaf (Zsj hr9 hb9 (by omega) (by omega)) ?_
  rintro vr10 h10 N10 k10 hr10
  have kle10:=k10.le
  have hq10:=hq9.keep k10
  obtain⟨nq2,uq2,rfl,oq2⟩:=hq10.cells
  obtain⟨nr2,ur2,rfl,or2⟩:=hr10.cells
  have q10:=(k10.get N5 (by omega)).trans ((k89.get N5 (by omega)).trans q7)
  have r10:=(k10.get (N5+1) (by omega)).trans r9
  have z10:=(k10.get (N+2) (by omega)).trans ((k89.get (N+2) (by omega)).trans gz7)
  have t10:=(k10.get (N+3) (by omega)).trans ((k89.get (N+3) (by omega)).trans gt7)
  have oq2':=oq2
  have or2':=or2
  unfold V.one at oq2 or2
  have z3:N5<N10:=by omega
  have z4:N5+1<N10:=by omega
  simp[q10,r10,oq2,or2,splice,Zal,z3,z4]
  have q11:=hq10.setNU (c1:=[.int .i64 nq2,uq2]) (e1:=156) (w1:=true) q10 hq7.nu rfl
  have r11:=hr10.setNU (c1:=[.int .i64 nq2,uq2]) (e1:=156) (w1:=true) q10 hq7.nu rfl
  have rr11:(h10.set N5 (.cells [.int .i64 nq2,uq2] 156 true)).get (N5+1)=some (.cells [.int .i64 nr,ur] 156 true):=by rw[T.get_set,Yr3 (by omega)];exact r10
  have q12:=q11.setNU (c1:=[.int .i64 nr2,ur2]) (e1:=156) (w1:=true) rr11 hr7.nu rfl
  have r12:=r11.setNU (c1:=[.int .i64 nr2,ur2]) (e1:=156) (w1:=true) rr11 hr7.nu rfl
  rw[e1]at q12
  rw[e2]at r12
  have kG:=(((kF.trans k89).trans k10).set (i:=N5) (o:=.cells [.int .i64 nq2,uq2] 156 true) (by omega)).set (i:=N5+1) (o:=.cells [.int .i64 nr2,ur2] 156 true) (by omega)
  refine Zbo (Yil (m:=N5) (by simp[Zad,wok,wok2]) kG (by omega) (by omega) q12 r12 oq2' or2' (by rw[T.get_set,Yr3 (by omega),T.get_set,Yr3 (by omega)];exact z10) (by rw[T.get_set,Yr3 (by omega),T.get_set,Yr3 (by omega)];exact t10) (by simp) (by simp) (by simp[r4]) (by simp[r5]) (by simp) (by simp)) ?_
  rintro e fr st ⟨rfl,r,rfl,p1,p2,p3,p4⟩
  simp[p1,p2]
  exact⟨p3,p4⟩
 ·have c1:¬sg3 rv<0:=by unfold sg3;rw[Yr3 hneg];split<;>omega
  rw[Yr3 hneg]at e1 e2
  rw[e1]at hq7
  rw[e2]at hr7
  simp[c1]
  refine Zbo (Yil hWW kF (by omega) (by omega) hq7 hr7 oq' or' gz7 gt7 q7 r7 (by simp[r4]) (by simp[r5]) (by simp) (by simp)) ?_
  rintro e fr st ⟨rfl,r,rfl,p1,p2,p3,p4⟩
  simp[p1,p2]
  exact⟨p3,p4⟩
def Zr4(hx:In h N x a)(hy:In h N y b)(hb:0<b)(la:wl a<10000000000)(lb:wl b<10000000000):Fn A.C 161 [x,y] h N (fun v h' n'=>∃q r,v=.tup [q,r]∧In h' n' q (a/b)∧In h' n' r (a%b)):=by
 intro w
 rw[Zac,A.k161 (by simp)]
 obtain⟨n1,u1,rfl,o1⟩:=hx.cells
 obtain⟨n2,u2,rfl,o2⟩:=hy.cells
 have kk:=kset (kset (kset (kset (Keeps.refl (h:=h) (n:=N)) (.cells [.int .i64 n1,u1] 156 true)) (.cells [.int .i64 n2,u2] 156 true)) (.cells [.int .i64 0,.nilslice] 156 true)) (.cells [.int .i64 0,.nilslice] 156 true)
 have o2':=o2
 unfold V.one at o1 o2
 have go:∀r:T V,r.get 2=some (.ptr N 0)→r.get 3=some (.ptr (N+1) 0)→r.get 4=some (.ptr (N+2) 0)→r.get 5=some (.ptr (N+3) 0)→Run A.C [.fin [.cell 4 (some 2),.cell 5 (some 2)] ⟨h,N,w⟩] (exR (A.C.code none A.ta161_1 ⟨r,84,[]⟩ ⟨(((h.set N (.cells [.int .i64 n1,u1] 156 true)).set (N+1) (.cells [.int .i64 n2,u2] 156 true)).set (N+1+1) (.cells [.int .i64 0,.nilslice] 156 true)).set (N+1+1+1) (.cells [.int .i64 0,.nilslice] 156 true),N+1+1+1+1,[]⟩)) (Yee (Ret (fun v h' n'=>∃q r,v=.tup [q,r]∧In h' n' q (a/b)∧In h' n' r (a%b)) h N w)):=by
  intro r r2 r3 r4 r5
  refine Zbo (Ylf (hx.keep kk) (hy.keep kk) hb la lb kk o2' (by simp) (by simp) (by simp) (by simp) r2 r3 r4 r5) ?_
  rintro e fr ⟨h5,n5,w5⟩ ⟨rfl,r',rfl,r4',r5',⟨hW,hK,n6,u6,g6,hi⟩,⟨_,_,n7,u7,g7,hi7⟩⟩
  simp only at hW hK g6 hi g7 hi7
  simp[r4',r5',g6,g7,Zam,slc,Ret,hW]
  exact⟨hK,_,_,⟨rfl,rfl⟩,hi,hi7⟩
 rcases id hx with⟨e1,s1,s2⟩|⟨i,o,l,c,e1,_⟩
 ·simp only[V.agg.injEq,Ysm,V.int.injEq,true_and,and_true]at e1
  obtain⟨rfl,rfl⟩:=e1
  rcases id hy with⟨e2,t1,t2⟩|⟨i,o,l,c,e2,_⟩
  ·simp only[V.agg.injEq,Ysm,V.int.injEq,true_and,and_true]at e2
   obtain⟨rfl,rfl⟩:=e2
   by_cases hmin:n1= -9223372036854775808
   ·simp[A.b161,Zam,slc,splice,Zae,hmin]
    subst hmin
    exact go _ (by simp) (by simp) (by simp) (by simp)
   ·have hz:¬n2=0:=by omega
    obtain⟨f1,f2⟩:=Zwu (a:=n1) hb
    have b1:(n1.tdiv n2).natAbs≤n1.natAbs:=by rw[Int.natAbs_tdiv];exact Ytw _ _
    have b2:(n1.tmod n2).natAbs≤n1.natAbs:=by rw[Int.natAbs_tmod];exact Nat.mod_le _ _
    have b3:=Int.tmod_lt_of_pos n1 hb
    obtain⟨q,hq⟩:∃q,n1.tdiv n2=q:=⟨_,rfl⟩
    obtain⟨s,hs⟩:∃q,n1.tmod n2=q:=⟨_,rfl⟩
    rw[hq]at b1 f1
    rw[hs]at b2 b3 f1 f2
    have w1:Zap .i64 q=q:=Zak (by omega) (by omega)
    have d1:¬N=N+1:=by omega
    by_cases hneg:s<0
    ·rw[Yr6 hneg]at f1 f2
     have w2:Zap .i64 (s+n2)=s+n2:=Zak (by omega) (by omega)
     have hq0: -9223372036854775808<q:=by
      have:=Int.mul_tdiv_add_tmod n1 n2
      omega
     have w3:Zap .i64 (q-1)=q-1:=Zak (by omega) (by omega)
     simp[A.b161,Zam,slc,splice,Zae,hmin,hz,hq,hs,w1,w2,w3,hneg,Ret,Zao.chk]
     exact⟨(kk.set (by omega)).set (by omega),_,_,⟨rfl,rfl⟩,by rw[←f1];exact In.small (by omega) (by omega),by rw[←f2];exact In.small (by omega) (by omega)⟩
    ·rw[Yr3 hneg]at f1 f2
     simp[A.b161,Zam,slc,splice,Zae,hmin,hz,hq,hs,w1,hneg,Ret,Zao.chk]
     exact⟨(kk.set (by omega)).set (by omega),_,_,⟨rfl,rfl⟩,by rw[←f1];exact In.small (by omega) (by omega),by rw[←f2];exact In.small (by omega) (by omega)⟩
  ·simp only[V.agg.injEq,Ysm,V.int.injEq,true_and,and_true]at e2
   obtain⟨rfl,rfl⟩:=e2
   simp[A.b161,Zam,slc,splice,Zae]
   exact go _ (by simp) (by simp) (by simp) (by simp)
 ·simp only[V.agg.injEq,Ysm,V.int.injEq,true_and,and_true]at e1
  obtain⟨rfl,rfl⟩:=e1
  simp[A.b161,Zam,slc,splice,Zae,o2]
  exact go _ (by simp) (by simp) (by simp) (by simp)
def Yhx(hx:In h N x a)(hy:In h N y b)(hb:0<b)(la:wl a<10000000000)(lb:wl b<10000000000):Fn A.C 234 [x,y] h N (fun v h' n'=>In h' n' v (a/b)):=by
 intro w
 rw[Zac,A.k234 (by simp)]
 obtain⟨n1,u1,rfl,o1⟩:=hx.cells
 obtain⟨n2,u2,rfl,o2⟩:=hy.cells
 have kk:=kset (kset (kset (Keeps.refl (h:=h) (n:=N)) (.cells [.int .i64 n1,u1] 156 true)) (.cells [.int .i64 n2,u2] 156 true)) (.cells [.int .i64 0,.nilslice] 156 true)
 have hx':=hx.keep kk
 have hy':=hy.keep kk
 have hsg:=Zkl hy'
 unfold V.one at o1 o2
 have c1:¬sg3 b<0:=by unfold sg3;rw[Yr3 (by omega)];split<;>omega
 simp[A.b234,Zam,slc,splice,o1,o2]
 refine Zaf hsg ?_
 rintro _ h1 m1 k1 rfl
 have kle1:=k1.le
 have g0:=k1.get N (by omega)
 have g1:=k1.get (N+1) (by omega)
 have g2:=k1.get (N+1+1) (by omega)
 simp at g0 g1 g2
 simp[c1,g0,g1,Zam,slc]
 refine Zaf (Zr4 (hx'.keep k1) (hy'.keep k1) hb la lb) ?_
 rintro _ h2 m2 k2 ⟨q,r,rfl,hq,hr⟩
 have kle2:=k2.le
 have g22:=(k2.get (N+1+1) (by omega)).trans g2
 obtain⟨n3,u3,rfl,o3⟩:=hq.cells
 obtain⟨n4,u4,rfl,o4⟩:=hr.cells
 unfold V.one at o3 o4
 have d1:¬m2=m2+1:=by omega
 have d2:¬N+1+1=m2:=by omega
 have d3:¬N+1+1=m2+1:=by omega
 have wok:¬m2<N:=by omega
 have wok1:¬m2+1<N:=by omega
 have wok2:¬N+1+1<N:=by omega
 have kE:=((kset (kset (Keeps.refl (h:=h2) (n:=m2)) (.cells [.int .i64 0,.nilslice] 156 true)) (.cells [.int .i64 0,.nilslice] 156 true)).set (i:=m2) (o:=.cells [.int .i64 n3,u3] 156 true) (Yr4 _)).set (i:=m2+1) (o:=.cells [.int .i64 n4,u4] 156 true) (by omega)
 have g23:=(kE.get (N+1+1) (by omega)).trans g22
 have d4:¬N+1=m2:=by omega
 simp[g22,Zam,slc,splice,Zal,o3,o4,d1,d2,d3,d4,Ret,wok,wok1,wok2]
 exact⟨(((kk.trans k1).trans k2).trans kE).set (by omega),(hq.keep kE).setNU g23 (by simp) rfl⟩
structure GcI (h:T O) (N G m:Nat) (r:T V) (st:St):Prop where
 w:Zad N st.w=[]
 keep:Keeps h N st.h st.n
 le:N+3≤st.n
 row:st.h.get (N+2)=some (.cells [.int .i64 0,.nilslice] 156 true)
 ex:∃(n1 n2:Int) (u1 u2:V) (p:Nat),st.h.get N=some (.cells [.int .i64 n1,u1] 156 true)∧st.h.get (N+1)=some (.cells [.int .i64 n2,u2] 156 true)∧In st.h st.n (.agg [.int .i64 n1,u1]) p∧In st.h st.n (.agg [.int .i64 n2,u2]) m∧Nat.gcd p m=G∧wl p<10000000000∧wl m<10000000000
def Ygi{G:Nat}(a2:r0.get 2=some (.ptr N 0))(a3:r0.get 3=some (.ptr (N+1) 0)):
  ∀x r st,(∀t,inD [(5,6),(11,21)] t=false→r.get t=r0.get t)→Fx [(5,6),(11,21)] r0 23 ⟨r,23,[]⟩→GcI h N G x r st→Code A.C none A.lb92_0 ⟨r,23,[]⟩ st (Rd [(5,6),(11,21)] r0 23 (GcI h N G) x (fun e r st=>e=.exit 0∧GcI h N G 0 r st)):=by
 rintro m r ⟨H,n0,W⟩ hr hf ⟨hW,hK,hle,hrow,n1,n2,u1,u2,p,g0,g1,hp,hm,hg,lp,lm⟩
 simp only at hW hK hle hrow g0 g1 hp hm
 rw[Zaj]
 simp[A.lb92_0,hr,hf,a2,a3,g1,Zam,slc]
 refine Zaf (Zkl hm) ?_
 rintro _ h1 m1 k1 rfl
 have kle1:=k1.le
 have f0:=(k1.get N (by omega)).trans g0
 have f1:=(k1.get (N+1) (by omega)).trans g1
 have f2:=(k1.get (N+2) (by omega)).trans hrow
 by_cases h0:m=0
 ·subst h0
  simp[hr,hf,sg3,Zae]
  exact⟨hW,hK.trans k1,by show N+3≤m1;omega,f2,n1,n2,u1,u2,p,f0,f1,hp.keep k1,hm.keep k1,hg,lp,lm⟩
 ·have c1:¬sg3 m=0:=by unfold sg3;rw[Yr3 (by omega),Yr3 (by omega)];decide
  simp[hr,hf,a2,a3,c1,Zae,f0,f1,Zam,slc]
  refine Zaf (Zr4 (hp.keep k1) (hm.keep k1) (by omega) lp lm) ?_
  rintro _ h2 m2 k2 ⟨q,s,rfl,hq,hs⟩
  have kle2:=k2.le
  have e0:=(k2.get N (by omega)).trans f0
  have e1:=(k2.get (N+1) (by omega)).trans f1
  have e2:=(k2.get (N+2) (by omega)).trans f2
  obtain⟨n3,u3,rfl,o3⟩:=hq.cells
  obtain⟨n4,u4,rfl,o4⟩:=hs.cells
  obtain⟨_,_,e5,o2⟩:=hm.cells
  simp only[V.agg.injEq,Ysm,V.int.injEq,true_and,and_true]at e5
  obtain⟨rfl,rfl⟩:=e5
  have o2':=o2
  unfold V.one at o3 o4 o2
  have kE:=((kset (kset (Keeps.refl (h:=h2) (n:=m2)) (.cells [.int .i64 0,.nilslice] 156 true)) (.cells [.int .i64 0,.nilslice] 156 true)).set (i:=m2) (o:=.cells [.int .i64 n3,u3] 156 true) (Yr4 _)).set (i:=m2+1) (o:=.cells [.int .i64 n4,u4] 156 true) (by omega)
  have i0:=(kE.get N (by omega)).trans e0
  have i1:=(kE.get (N+1) (by omega)).trans e1
  have i2:=(kE.get (N+2) (by omega)).trans e2
  have d1:¬m2=m2+1:=by omega
  have d2:¬N=m2:=by omega
  have d3:¬N=m2+1:=by omega
  have d4:¬N+1=m2:=by omega
  have d5:¬N+1=m2+1:=by omega
  have d6:¬m2=N:=by omega
  have d7:¬m2+1=N:=by omega
  have d8:¬m2=N+1:=by omega
  have d9:¬m2+1=N+1:=by omega
  have d10:¬N=N+1:=by omega
  have l1:N<m2+1+1:=by omega
  have l2:N+1<m2+1+1:=by omega
  simp(disch:=first|(simp;done)|omega|(simp only[Zaa,Zab,Yr2];omega)|rfl) [hr,hf,a2,a3,e0,e1,Zam,slc,splice,Zal,o2,o3,o4,d1,d2,d3,d4,d5,d6,d7,d8,d9,d10,l1,l2,Zao.chk]
  rw[Zro (by simp[d1,d2,d3,d4,d5,d6,d7,d8,d9,d10]<;>omega)]
  simp[hr,hf]
  have wok:¬m2<N:=by omega
  have wok1:¬m2+1<N:=by omega
  have q1:=((hm.keep k1).keep k2).keep kE
  have s1:=hs.keep kE
  have q2:=q1.setNU (c1:=[.int .i64 n2,u2]) (e1:=156) (w1:=true) i0 hp.nu rfl
  have s2:=s1.setNU (c1:=[.int .i64 n2,u2]) (e1:=156) (w1:=true) i0 hp.nu rfl
  have i3:(((((h2.set m2 (.cells [.int .i64 0,.nilslice] 156 true)).set (m2+1) (.cells [.int .i64 0,.nilslice] 156 true)).set m2 (.cells [.int .i64 n3,u3] 156 true)).set (m2+1) (.cells [.int .i64 n4,u4] 156 true)).set N (.cells [.int .i64 n2,u2] 156 true)).get (N+1)=some (.cells [.int .i64 n2,u2] 156 true):=by rw[T.get_set,Yr3 (by omega)];exact i1
  have q3:=q2.setNU (c1:=[.int .i64 n4,u4]) (e1:=156) (w1:=true) i3 hm.nu rfl
  have s3:=s2.setNU (c1:=[.int .i64 n4,u4]) (e1:=156) (w1:=true) i3 hm.nu rfl
  refine⟨p%m,Ys9 _ (by omega),by simp[Zad,hW,wok,wok1],((((hK.trans k1).trans k2).trans kE).set (Yr4 _)).set (by omega),by show N+3≤m2+1+1;omega,?_,n2,n4,u2,u4,m,by simp,by simp,q3,?_,?_,lm,?_⟩
  ·rw[T.get_set,Yr3 (by omega),T.get_set,Yr3 (by omega)];exact i2
  ·rw[←Int.natCast_emod]at s3;exact s3
  ·rw[←hg,Nat.gcd_comm p m,Nat.gcd_rec m p,Nat.gcd_comm]
  ·have:=Yme (a:=(p:Int)) (b:=(m:Int)) (by omega)
   rw[←Int.natCast_emod]at this
   omega
def Yie(hx:In h N x a)(hy:In h N y b)(la:wl a<10000000000)(lb:wl b<10000000000):Fn A.C 92 [x,y] h N (fun v h' n'=>In h' n' v (Int.gcd a b:Nat)):=by
 intro w
 rw[Zac,A.k92 (by simp)]
 obtain⟨n1,u1,rfl,o1⟩:=hx.cells
 obtain⟨n2,u2,rfl,o2⟩:=hy.cells
 have kk:=kset (kset (kset (Keeps.refl (h:=h) (n:=N)) (.cells [.int .i64 n1,u1] 156 true)) (.cells [.int .i64 n2,u2] 156 true)) (.cells [.int .i64 0,.nilslice] 156 true)
 have hx':=hx.keep kk
 have hy':=hy.keep kk
 unfold V.one at o1 o2
 simp[A.b92,Zam,slc,splice,o1,o2]
 refine Zaf (Yiu hx' (by omega)) ?_
 rintro v1 h1 m1 k1 hv1
 have kle1:=k1.le
 have g1:=k1.get (N+1) (by omega)
 simp at g1
 have l1:N+1<m1:=by omega
 simp[g1,l1,Zam,slc]
 refine Zaf (Yiu (hy'.keep k1) (by omega)) ?_
 rintro v2 h2 m2 k2 hv2
 have hv1':=hv1.keep k2
 have k12:=k1.trans k2
 have kle2:=k2.le
 obtain⟨n3,u3,rfl,o3⟩:=hv1.cells
 obtain⟨n4,u4,rfl,o4⟩:=hv2.cells
 unfold V.one at o3 o4
 have i0:=k12.get N (by omega)
 have i1:=k12.get (N+1) (by omega)
 have i2:=k12.get (N+1+1) (by omega)
 simp at i0 i1 i2
 have l2:N<m2:=by omega
 have l3:N+1<m2:=by omega
 have l4:N<m1:=by omega
 simp[i0,i1,Zam,slc,splice,Zal,o3,o4,l1,l2,l3,l4,Zao.chk]
 have q1:=hv1'.setNU (c1:=[.int .i64 n3,u3]) (e1:=156) (w1:=true) i0 hx.nu rfl
 have s1:=hv2.setNU (c1:=[.int .i64 n3,u3]) (e1:=156) (w1:=true) i0 hx.nu rfl
 have i3:(h2.set N (.cells [.int .i64 n3,u3] 156 true)).get (N+1)=some (.cells [.int .i64 n2,u2] 156 true):=by rw[T.get_set,Yr3 (by omega)];exact i1
 have q2:=q1.setNU (c1:=[.int .i64 n4,u4]) (e1:=156) (w1:=true) i3 hy.nu rfl
 have s2:=s1.setNU (c1:=[.int .i64 n4,u4]) (e1:=156) (w1:=true) i3 hy.nu rfl
 have wa:wl (a.natAbs:Int)=wl a:=by unfold wl;rw[Yr9]
 have wb:wl (b.natAbs:Int)=wl b:=by unfold wl;rw[Yr9]
 refine Zai [(5,6),(11,21)] _ (GcI h N (Int.gcd a b)) b.natAbs ?_ (Ygi (by simp) (by simp)) ?_
 ·refine⟨by simp[Zad],((kk.trans k12).set (Yr4 _)).set (by omega),by show N+3≤m2;omega,?_,n3,n4,u3,u4,a.natAbs,by simp,by simp,q2,s2,rfl,by rw[wa];exact la,by rw[wb];exact lb⟩
  rw[T.get_set,Yr3 (by omega),T.get_set,Yr3 (by omega)];exact i2
 rintro e r ⟨h5,m5,W5⟩ hr ⟨rfl,hW,hK,hle,hrow,n5,n6,u5,u6,p,g5,g6,hp,hm,hg,lp,lm⟩
 simp only at hW hK hle hrow g5 g6 hp hm
 obtain⟨_,_,e5,o5⟩:=hp.cells
 simp only[V.agg.injEq,Ysm,V.int.injEq,true_and,and_true]at e5
 obtain⟨rfl,rfl⟩:=e5
 unfold V.one at o5
 rw[Nat.gcd_zero_right]at hg
 have hrow':h5.get (N+1+1)=some (.cells [.int .i64 0,.nilslice] 156 true):=hrow
 have wok:¬N+1+1<N:=by omega
 simp[hr,g5,hrow',Zam,slc,splice,Zal,o5,Ret,hW,wok]
 exact⟨hK.set (by omega),by rw[←hg];exact hp.setNU hrow' (by simp) rfl⟩
variable {s:Str}
def A.b210:Zah:=sr [ge 4 (.mov (.const (.bool false)))]
 (sr [mv 5 0,ge 6 (.len 0 (tq 5)),mv 7 1,ge 8 (.len 0 (tq 7)),bi 9 .geq 6 8,mv 10 9,mg 11 0 10,mg 12 1 10,gy 13 10 (.len 0 (tq 12)),gy 14 10 (.sliceStr (tq 11) none (some (tq 13))),mg 15 1 10,gy 16 10 (.bin .eql (.prim .str) false (tq 14) (tq 15)),pf 17 10 16,mv 4 17]
 (.ret))
def A.k210:=@A.kk 210 18 [.tmp 4] A.b210 (by kernel_rfl) rfl
def A.b87:Zah:=sr [ge 4 (.mov (.const (.str []))),ge 5 (.mov (.const (.bool false)))]
 (sr [mv 6 0,mv 7 1,c2 8 156 6 7,xt 9 8 0,xt 10 8 1,mv 4 9,mv 5 10]
 (.ret))
def A.k87:=@A.kk 87 11 [.tmp 4,.tmp 5] A.b87 (by kernel_rfl) rfl
def A.b156:Zah:=sr [ge 4 (.mov (.const (.str []))),ge 5 (.mov (.const (.bool false)))]
 (.seq (sr [mv 6 0,mv 7 1,c2 8 210 6 7,ge 9 (.un .not (tq 8))]
 (cd 9
 (sr [mv 10 0,mv 4 10,ge 5 (.mov (.const (.bool false)))]
 (.ret))
 (.skip)))
 (sr [mv 11 0,mv 12 1,ge 13 (.len 0 (tq 12)),ge 14 (.sliceStr (tq 11) (some (tq 13)) none),mv 4 14,ge 5 (.mov (.const (.bool true)))]
 (.ret)))
def A.k156:=@A.kk 156 15 [.tmp 4,.tmp 5] A.b156 (by kernel_rfl) rfl
def A.b163:Zah:=sr [ge 4 (.mov (.const (.str [])))]
 (sr [mv 5 0,mv 6 1,c2 7 220 5 6,mv 4 7]
 (.ret))
def A.k163:=@A.kk 163 8 [.tmp 4] A.b163 (by kernel_rfl) rfl
def A.b220:Zah:=sr [ge 4 (.mov (.const (.str [])))]
 (.seq (sr [mv 5 0,mv 6 1,c2 7 210 5 6]
 (cd 7
 (sr [mv 8 0,mv 9 1,ge 10 (.len 0 (tq 9)),ge 11 (.sliceStr (tq 8) (some (tq 10)) none),mv 4 11]
 (.ret))
 (.skip)))
 (sr [mv 12 0,mv 4 12]
 (.ret)))
def A.k220:=@A.kk 220 13 [.tmp 4] A.b220 (by kernel_rfl) rfl
def A.b162:Zah:=sr [ge 4 (.mov (.const (.bool false)))]
 (sr [mv 5 0,mv 6 1,c2 7 210 5 6,mv 4 7]
 (.ret))
def A.k162:=@A.kk 162 8 [.tmp 4] A.b162 (by kernel_rfl) rfl
def A.b248:Zah:=sr [mc 4 0]
 (sr [mv 5 0,mv 6 1,ge 7 (.ext .indexByteString [tq 5,tq 6]),mv 4 7]
 (.ret))
def A.k248:=@A.kk 248 8 [.tmp 4] A.b248 (by kernel_rfl) rfl
def A.lb211_0:Zah:=.seq (sr [mv 57 8,mv 58 9,bi 59 .lss 57 58]
 (cd 59
 (.skip)
 (.exit 1)))
 (.block 2 (.seq (sr [mv 60 0,mv 61 8,ge 62 (.idxStr (tq 60) (tq 61)),mv 63 6,ge 64 (.bin .neq (.prim .int) false (tq 62) (tq 63))]
 (cd 64
 (sr [mv 65 0,mv 66 8,bc 67 .add 66 1,mv 68 9,ge 69 (.sliceStr (tq 65) (some (tq 67)) (some (tq 68))),mv 70 6,c2 71 248 69 70,mv 11 71]
 (.seq (sr [mv 72 11,bc 73 .lss 72 0]
 (cd 73
 (sr [ge 4 (.mov (.const (.int .i64 (-1))))]
 (.ret))
 (.skip)))
 (.reg [mv 74 8,mv 75 11,bc 76 .add 75 1,bi 77 .add 74 76,mv 8 77])))
 (.skip)))
 (.seq (sr [mv 78 0,mv 79 8,bc 80 .add 79 1,ge 81 (.idxStr (tq 78) (tq 80)),mv 82 7,ge 83 (.bin .eql (.prim .int) false (tq 81) (tq 82)),mv 84 83,mg 85 0 84,mg 86 8 84,mg 87 8 84,mg 88 5 84,gy 89 84 (.bin .add (.node []) false (tq 87) (tq 88)),gy 90 84 (.sliceStr (tq 85) (some (tq 86)) (some (tq 89))),mg 91 1 84,gy 92 84 (.bin .eql (.prim .str) false (tq 90) (tq 91)),pf 93 84 92]
 (cd 93
 (sr [mv 94 8,mv 4 94]
 (.ret))
 (.skip)))
 (sr [mv 95 8,bc 96 .add 95 1,mv 8 96]
 (sr [mv 97 10,bc 98 .add 97 1,mv 10 98]
 (sr [mv 99 5,ge 100 (.load none (.const (.ptr 0 0))),bi 101 .leq 99 100,mv 102 101,mg 103 10 102,mg 104 8 102,gy 105 102 (.call (fq 250) [tq 104]),gy 106 102 (.bin .gtr (.node []) false (tq 103) (tq 105)),pf 107 102 106]
 (cd 107
 (sr [mv 108 0,mv 109 8,ge 110 (.sliceStr (tq 108) (some (tq 109)) none),mv 111 1,ge 112 (.stop),mv 12 112]
 (.seq (sr [mv 113 12,bc 114 .geq 113 0]
 (cd 114
 (sr [mv 115 12,mv 116 8,bi 117 .add 115 116,mv 4 117]
 (.ret))
 (.skip)))
 (sr [ge 4 (.mov (.const (.int .i64 (-1))))]
 (.ret))))
 (sr [mv 118 5,ge 119 (.load none (.const (.ptr 0 0))),bi 120 .gtr 118 119,mv 121 120,mg 122 10 121,mg 123 8 121,gy 124 121 (.bin .shr (.node []) false (tq 123) (.const (.int .u64 4))),gy 125 121 (.bin .add (.node []) false (kq 4) (tq 124)),gy 126 121 (.bin .geq (.node []) false (tq 122) (tq 125)),pf 127 121 126,mv 128 127,mg 129 8 128,mg 130 9 128,gy 131 128 (.bin .lss (.node []) false (tq 129) (tq 130)),pf 132 128 131]
 (cd 132
 (sr [mv 133 0,mv 134 8,ge 135 (.sliceStr (tq 133) (some (tq 134)) none),mv 136 1,c2 137 251 135 136,mv 13 137]
 (.seq (sr [mv 138 13,bc 139 .lss 138 0]
 (cd 139
 (sr [ge 4 (.mov (.const (.int .i64 (-1))))]
 (.ret))
 (.skip)))
 (sr [mv 140 8,mv 141 13,bi 142 .add 140 141,mv 4 142]
 (.ret))))
 (.skip))))))))))
def A.b211:Zah:=sr [mc 4 0]
 (sr [mv 14 1,ge 15 (.len 0 (tq 14)),mv 5 15]
 (.seq (.block 0 (sr [mv 17 5,ei 18 17 0,mv 19 18,mh 20 1 19,mh 21 0 19,gz 22 19 (.bin .eql (.prim .str) false (tq 20) (tq 21)),pt 23 19 22,mv 16 23]
 (cd 16
 (sr [mc 4 0]
 (.ret))
 (sr [mv 25 5,ei 26 25 1,mv 24 26]
 (cd 24
 (sr [mv 27 0,mv 28 1,ge 29 (.idxStr (tq 28) (kq 0)),c2 30 248 27 29,mv 4 30]
 (.ret))
 (sr [mv 32 5,mv 33 0,ge 34 (.len 0 (tq 33)),bi 35 .geq 32 34,mv 31 35]
 (cd 31
 (sr [ge 4 (.mov (.const (.int .i64 (-1))))]
 (.ret))
 (sr [mv 37 5,ge 38 (.load none (.const (.ptr 0 0))),bi 39 .leq 37 38,mv 40 39,mg 41 0 40,gy 42 40 (.len 0 (tq 41)),gy 43 40 (.bin .leq (.node []) false (tq 42) (kq 64)),pf 44 40 43,mv 36 44]
 (cd 36
 (sr [mv 45 0,mv 46 1,ge 47 (.stop),mv 4 47]
 (.ret))
 (.skip))))))))))
 (sr [mv 48 1,ge 49 (.idxStr (tq 48) (kq 0)),mv 6 49]
 (sr [mv 50 1,ge 51 (.idxStr (tq 50) (kq 1)),mv 7 51]
 (sr [mc 8 0]
 (sr [mv 52 0,ge 53 (.len 0 (tq 52)),mv 54 5,bi 55 .sub 53 54,bc 56 .add 55 1,mv 9 56]
 (sr [mc 10 0]
 (.seq (.block 1 (.loop A.lb211_0))
 (sr [ge 4 (.mov (.const (.int .i64 (-1))))]
 (.ret))))))))))
def A.k211:=@A.kk 211 143 [.tmp 4] A.b211 (by kernel_rfl) rfl
def A.b157:Zah:=sr [ge 4 (.mov (.const (.str []))),ge 5 (.mov (.const (.str []))),ge 6 (.mov (.const (.bool false)))]
 (.seq (sr [mv 8 0,mv 9 1,c2 10 211 8 9,mv 7 10]
 (sr [mv 11 7,bc 12 .geq 11 0]
 (cd 12
 (.seq (.regD [mv 13 0,mv 14 7,ge 15 (.sliceStr (tq 13) none (some (tq 14))),mv 16 0,mv 17 7,mv 18 1,ge 19 (.len 0 (tq 18)),bi 20 .add 17 19,ge 21 (.sliceStr (tq 16) (some (tq 20)) none),mv 4 15,mv 5 21,ge 6 (.mov (.const (.bool true)))] [0,0,3,0,0,0,32,112,248,7,1023,2047])
 (.ret))
 (.skip))))
 (sr [mv 22 0,mv 4 22,ge 5 (.mov (.const (.str []))),ge 6 (.mov (.const (.bool false)))]
 (.ret)))
def A.k157:=@A.kk 157 23 [.tmp 4,.tmp 5,.tmp 6] A.b157 (by kernel_rfl) rfl
def A.b88:Zah:=sr [ge 4 (.mov (.const (.str []))),ge 5 (.mov (.const (.str []))),ge 6 (.mov (.const (.bool false)))]
 (sr [mv 7 0,mv 8 1,c2 9 157 7 8,xt 10 9 0,xt 11 9 1,xt 12 9 2,mv 4 10,mv 5 11,mv 6 12]
 (.ret))
def A.k88:=@A.kk 88 13 [.tmp 4,.tmp 5,.tmp 6] A.b88 (by kernel_rfl) rfl
def Zdq{s:Str}{st:St}:A.C.call (.func 210 [] []) [.str s,.str [45]] st=some (.bool (negS s),st):=by
 apply Call.eq
 rw[Zac,A.k210 (by simp)]
 cases s with
 |nil=>simp[A.b210,negS]
 |cons c s=>
  have e:(([c]:Str)==[45])=decide (c.toNat=45):=by
   rw[Bool.eq_iff_iff]
   simp only[beq_iff_eq,decide_eq_true_eq,Ysm,and_true]
   exact⟨fun h=>by rw[h];rfl,fun h=>UInt8.toNat_inj.1 h⟩
  have h1:(1:Int)≤(s.length:Int)+1:=by omega
  simp[A.b210,negS,evOpt,e,h1]
def Zr9{st:St}:A.C.call (.func 87 [] []) [.str s,.str [45]] st=some (.tup [.str (Zar s),.bool (negS s)],st):=by
 apply Call.eq
 rw[Zac,A.k87 (by simp)]
 simp[A.b87]
 rw[A.k156 (by simp)]
 by_cases hn:negS s=true
 ·have h1:1≤s.length:=by cases s<;>simp[negS]at hn ⊢
  have h1':(1:Int)≤s.length:=by omega
  simp[A.b156,Zdq,hn,evOpt,h1',Zar]
 ·simp[A.b156,Zdq,hn,Zar]
def Zi9{st:St}:A.C.call (.func 163 [] []) [.str s,.str [45]] st=some (.str (Zar s),st):=by
 apply Call.eq
 rw[Zac,A.k163 (by simp)]
 simp[A.b163]
 rw[A.k220 (by simp)]
 by_cases hn:negS s=true
 ·have h1:1≤s.length:=by cases s<;>simp[negS]at hn ⊢
  have h1':(1:Int)≤s.length:=by omega
  simp[A.b220,Zdq,hn,evOpt,h1',Zar]
 ·simp[A.b220,Zdq,hn,Zar]
def Zrt{st:St}:A.C.call (.func 162 [] []) [.str s,.str [45]] st=some (.bool (negS s),st):=by
 apply Call.eq
 rw[Zac,A.k162 (by simp)]
 simp[A.b162,Zdq]
def Zrs{st:St}:A.C.call (.func 248 [] []) [.str s,.int .u8 47] st=some (.int .i64 (if slashAt s<s.length then (slashAt s:Int) else -1),st):=by
 apply Call.eq
 rw[Zac,A.k248 (by simp)]
 have e:=Zjw s 0
 simp only[Yul]at e
 simp[A.b248,Yk9,Ygp,e]
def Zv1{st:St}:A.C.call (.func 211 [] []) [.str s,.str [47]] st=some (.int .i64 (if slashAt s<s.length then (slashAt s:Int) else -1),st):=by
 apply Call.eq
 rw[Zac,A.k211 (by simp)]
 by_cases hs:s=[47]
 ·subst hs
  simp[A.b211,Zae,slashAt]
 ·have e1:(([47]:Str)==s)=false:=by simp;exact fun h=>hs h.symm
  have e2:u8I 47=47:=rfl
  simp[A.b211,Zae,Zrs,e1,e2]
def Yio{st:St}(hl:s.length<4611686018427387904):A.C.call (.func 88 [] []) [.str s,.str [47]] st=some (.tup [.str (s.take (slashAt s)),.str (s.drop (slashAt s+1)),.bool (decide (slashAt s<s.length))],st):=by
 apply Call.eq
 rw[Zac,A.k88 (by simp)]
 simp[A.b88]
 rw[A.k157 (by simp)]
 have hle:=Zdd s
 by_cases hs:slashAt s<s.length
 ·simp(disch:=first|(simp;done)|omega|(simp only[Zaa,Zab,Yr2];omega)|rfl) [A.b157,Zv1,hs,evOpt]
  try omega
 ·have:s.take (slashAt s)=s:=Ysd (by omega)
  have h2:s.drop (slashAt s+1)=[]:=Ytd (by omega)
  simp(disch:=first|(simp;done)|omega|(simp only[Zaa,Zab,Yr2];omega)|rfl) [-getElem?_pos,A.b157,Zv1,hs,this,h2]
end Go.Mx
