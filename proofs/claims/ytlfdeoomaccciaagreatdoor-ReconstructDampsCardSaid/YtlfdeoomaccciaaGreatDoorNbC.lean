/-num-/
import Derived.Test.YtlfdeoomaccciaaGreatDoorRcM
set_option linter.all false
namespace Go.Mx
noncomputable section
open Go Go.Proofs
variable {N:Nat} {a b:Int} {h:T O} {r0:T V} {x y:V}
set_option maxHeartbeats 2000000
set_option maxRecDepth 1000000
def A.rH:bO:=.seq (.dj [lN 82 2 14,lN 83 2 15,gn (.store 2 (tq 4) (tq 82)),gn (.store 2 (tq 5) (tq 83))] [0,0,1,7])
 (.ret)
def A.nh:bO:=sr [lN 52 2 2,c1 53 181 52,mv 51 53,xt 54 51 0,xt 55 51 1,mv 8 54,mv 9 55]
 (sr [lN 57 2 3,c1 58 181 57,mv 56 58,xt 59 56 0,xt 60 56 1,mv 10 59,mv 11 60]
 (sr [mv 62 9,mv 63 11,c2 64 222 62 63,mv 61 64,xt 65 61 0,xt 66 61 1,mv 12 65,mv 13 66]
 (sr [mv 67 8,mv 68 12,c2 69 182 67 68,mv 70 8,mv 71 13,c2 72 182 70 71,ge 14 (.alloc [.int .i64 0,.aa] 78),ge 15 (.alloc [.int .i64 0,.aa] 78),gn (.store 2 (tq 14) (tq 69)),gn (.store 2 (tq 15) (tq 72))]
 (.seq (sr [lN 73 2 15,c1 74 170 73,bc 75 .lss 74 0]
 (cd 75
 (.dj [lN 76 2 14,ge 77 (.call (fq 166) [.const (.int .i64 1)]),c2 78 233 76 77,lN 79 2 15,lN 80 2 3,c2 81 120 79 80,gn (.store 2 (tq 14) (tq 78)),gn (.store 2 (tq 15) (tq 81))] [0,0,3,0,0,31,63,127])
 (.skip)))
 A.rH))))
def A.b232:bO:=sr [bx 2 78 0,bx 3 78 1,ge 4 (.alloc [.int .i64 0,.aa] 78),ge 5 (.alloc [.int .i64 0,.aa] 78)]
 (.seq (sr [fa 16 1 2,ld 17 16,ge 18 (.bin .eql (.bX .slice) true (tq 17) (.const .aa)),mv 19 18,gy 20 19 (.ja 1 (tq 3)),gy 21 19 (.load none (tq 20)),gy 22 19 (.bin .eql (.bX .slice) true (tq 21) (.const .aa)),pf 23 19 22,mv 24 23,gy 25 24 (.ja 0 (tq 2)),gy 26 24 (.load none (tq 25)),gy 27 24 (.bin .neq (.bX .int) true (tq 26) (.const (.int .i64 (-9223372036854775808)))),pf 28 24 27]
 (cd 28
 (.seq (.dj [fa 29 0 2,ld 30 29,fa 31 0 3,ld 32 31,bi 33 .quo 30 32,fa 34 0 2,ld 35 34,fa 36 0 3,ld 37 36,bi 38 .rem 35 37,mv 6 33,mv 7 38] [0,1,0,4,15,0,32,0,128,480,31,2047])
 (.seq (sr [mv 39 7,bc 40 .lss 39 0]
 (cd 40
 (.dj [mv 41 6,bc 42 .sub 41 1,mv 43 7,fa 44 0 3,ld 45 44,bi 46 .add 43 45,mv 6 42,mv 7 46] [0,1,0,0,8,28,3,127])
 (.skip)))
 (sr [mv 47 6,ge 48 (.build [.int .i64 0,.aa] [(0,1,(tq 47))]),mv 49 7,ge 50 (.build [.int .i64 0,.aa] [(0,1,(tq 49))]),gn (.store 2 (tq 4) (tq 48)),gn (.store 2 (tq 5) (tq 50))]
 (.ret))))
 (.skip)))
 A.nh)
def A.k232:=@A.kk 232 84 [.cell 4 (some 2),.cell 5 (some 2)] A.b232 (by kernel_rfl) rfl
def A.b187:=A.q Tryz.f187
def A.k187:=@A.kk 187 21 [.cell 4 (some 2)] A.b187 (by kernel_rfl) rfl
def A.Nb:=A.q Tryz.f179
def A.rI:=A.ql A.Nb 0 []
def A.b179:=(fun x0=>A.qb A.Nb [x0]) A.rI
def A.k179:=@A.kk 179 23 [.cell 4 (some 2)] A.b179 (by kernel_rfl) rfl
def Zyo(hb:0<b):(if a.tmod b<0 then a.tdiv b-1 else a.tdiv b)=a/b/\(if a.tmod b<0 then a.tmod b+b else a.tmod b)=a%b:=by
 have h1:=Int.mul_tdiv_add_tmod a b
 have h2:=Int.tmod_lt_of_pos a hb
 have h3: -b<a.tmod b:=by
  have:=Int.tmod_lt_of_pos (-a) hb
  rw[Int.neg_tmod]at this
  omega
 have key:∀q r:Int,b*q+r=a->0<=r->r<b->q=a/b/\r=a%b:=by
  intro q r e r0 r1
  have:=(Int.ediv_emod_unique hb (r:=r) (q:=q) (a:=a)).2 ⟨by omega,r0,r1⟩
  exact⟨this.1.symm,this.2.symm⟩
 by_cases h:a.tmod b<0
 ·rw[ay h,ay h]
  exact key _ _ (by rw[Int.mul_sub];omega) (by omega) (by omega)
 ·rw[ak h,ak h]
  exact key _ _ (by omega) (by omega) h2
def Yfz(hb:0<b):∀q r:Int,q=(if decide (a<0)=true then -((a.natAbs/b.natAbs:Nat):Int) else (a.natAbs/b.natAbs:Nat))->r=(if decide (a<0)=true then -((a.natAbs%b.natAbs:Nat):Int) else (a.natAbs%b.natAbs:Nat))->(if r<0 then q-1 else q)=a/b/\(if r<0 then r+b else r)=a%b:=by
 intro q r hq hr
 have h1:=uD a.natAbs b.natAbs
 have h2:=kZ a.natAbs (show 0<b.natAbs by omega)
 have hbe:(b.natAbs:Int)=b:=by omega
 have fL:b*((a.natAbs/b.natAbs:Nat):Int)+((a.natAbs%b.natAbs:Nat):Int)=a.natAbs:=by
  rw[<-hbe,<-Jf,<-Int.natCast_add,dC,h1]
 have key:∀q r:Int,b*q+r=a->0<=r->r<b->q=a/b/\r=a%b:=by
  intro q r e r0 r1
  have:=(Int.ediv_emod_unique hb (r:=r) (q:=q) (a:=a)).2 ⟨by omega,r0,r1⟩
  exact⟨this.1.symm,this.2.symm⟩
 generalize a.natAbs/b.natAbs=Q at*
 generalize a.natAbs%b.natAbs=R at*
 by_cases ha:a<0
 ·simp only[ha,decide_true,if_true]at hq hr
  subst hq hr
  by_cases h: -(R:Int)<0
  ·rw[ay h,ay h]
   exact key _ _ (by rw[Int.mul_sub,Int.mul_neg];omega) (by omega) (by omega)
  ·rw[ak h,ak h]
   exact key _ _ (by rw[Int.mul_neg];omega) (by omega) (by omega)
 ·simp only[ha,decide_false,fI,if_false]at hq hr
  subst hq hr
  rw[ak (by omega),ak (by omega)]
  exact key _ _ (by omega) (by omega) (by omega)
def Yqj(hb:0<b):wl (a%b)<=wl b:=by
 apply HL
 have h1:=D9 a hb
 have h2:=D6 a (show b≠0 by omega)
 omega
def Zp6{c:Bool}{n:Nat}:(if c=true then -(n:Int) else (n:Int)).natAbs=n:=by split<;>omega
def Ylb{H:T O}{n m:Nat}{nq nr q s:Int}{uq ur:V}{W:List Nat}(hW:av N W=[])(hK:ab h N H n)(hm:N+4<=m)(VO:m+1<n)(hq:In H n (.agg [.int .i64 nq,uq]) q)(hr:In H n (.agg [.int .i64 nr,ur]) s)(oq:V.one uq=true)(or:V.one ur=true)
  (gz:H.get (N+2)=some (.cells [.int .i64 0,.aa] 78 true)) (gt:H.get (N+3)=some (.cells [.int .i64 0,.aa] 78 true)) (gq:H.get m=some (.cells [.int .i64 nq,uq] 78 true)) (gr:H.get (m+1)=some (.cells [.int .i64 nr,ur] 78 true))
  (r4:r0.get 4=some (.ptr (N+2) 0)) (r5:r0.get 5=some (.ptr (N+3) 0)) (J3:r0.get 14=some (.ptr m 0)) (r15:r0.get 15=some (.ptr (m+1) 0)):
  Code A.C none A.rH ⟨r0,84,[]⟩ ⟨H,n,W⟩ (fun e fr st=>e=.ret/\∃r,fr=⟨r,84,[]⟩/\r.get 4=some (.ptr (N+2) 0)/\r.get 5=some (.ptr (N+3) 0)/\HM h N (N+2) q st/\HM h N (N+3) s st):=by
 have n1:m<n:=by omega
 have n2:N+2<n:=by omega
 have n3:N+3<n:=by omega
 have d1:¬m=N+2:=by omega
 have d2:¬m=N+3:=by omega
 have d3:¬N+2=m:=by omega
 have d4:¬N+3=m:=by omega
 have d5:¬N+2=m+1:=by omega
 have d6:¬N+3=m+1:=by omega
 have d7:¬m+1=N+2:=by omega
 have d8:¬m+1=N+3:=by omega
 have d9:¬N+3=N+2:=by omega
 have d10:¬N+2=N+3:=by omega
 rw[bk]
 have k1:=(hK.set (i:=N+2) (o:=.cells [.int .i64 nq,uq] 78 true) (by omega)).set (i:=N+3) (o:=.cells [.int .i64 nr,ur] 78 true) (by omega)
 have kp:=(hq.aI (c1:=[.int .i64 nq,uq]) (e1:=78) (w1:=true) gz (by simp) rfl)
 have dt:=(hr.aI (c1:=[.int .i64 nq,uq]) (e1:=78) (w1:=true) gz (by simp) rfl)
 have gt2:(H.set (N+2) (.cells [.int .i64 nq,uq] 78 true)).get (N+3)=some (.cells [.int .i64 0,.aa] 78 true):=by rw[T.ag,ak d9];exact gt
 have Nc:=(kp.aI (c1:=[.int .i64 nr,ur]) (e1:=78) (w1:=true) gt2 (by simp) rfl)
 have MQ:=(dt.aI (c1:=[.int .i64 nr,ur]) (e1:=78) (w1:=true) gt2 (by simp) rfl)
 have dZ:av N ((N+3)::(N+2)::W)=[]:=by simp[av,hW]
 unfold V.one at oq or
 simp(disch:=omega) [A.rH,r4,r5,J3,r15,gz,gt,gq,gr,n1,n2,n3,VO,d1,d2,d3,d4,d5,d6,d7,d8,d9,d10,oq,or,aO,aD,ad,bD,ct.cv]
 rw[G9 (by simp[d1,d2,d3,d4,d5,d6,d7,d8,d9,d10]<;>omega)]
 simp[r4,r5]
 exact⟨⟨dZ,k1,nq,uq,by simp,Nc⟩,⟨dZ,k1,nr,ur,by simp,MQ⟩⟩
def Yo1{H:T O}{n1 n2:Int}{u1 u2:V}(hx:In H (N+4) (.agg [.int .i64 n1,u1]) a)(hy:In H (N+4) (.agg [.int .i64 n2,u2]) b)(hb:0<b)(la:wl a<10000000000)(lb:wl b<10000000000)(hK:ab h N H (N+4))(oy:V.one u2=true)
  (gx:H.get N=some (.cells [.int .i64 n1,u1] 78 true)) (gy:H.get (N+1)=some (.cells [.int .i64 n2,u2] 78 true)) (gz:H.get (N+2)=some (.cells [.int .i64 0,.aa] 78 true)) (gt:H.get (N+3)=some (.cells [.int .i64 0,.aa] 78 true)) (r2:r0.get 2=some (.ptr N 0)) (r3:r0.get 3=some (.ptr (N+1) 0)) (r4:r0.get 4=some (.ptr (N+2) 0)) (r5:r0.get 5=some (.ptr (N+3) 0)):
  Code A.C none A.nh ⟨r0,84,[]⟩ ⟨H,N+4,[]⟩ (fun e fr st=>e=.ret/\∃r,fr=⟨r,84,[]⟩/\r.get 4=some (.ptr (N+2) 0)/\r.get 5=some (.ptr (N+3) 0)/\HM h N (N+2) (a/b) st/\HM h N (N+3) (a%b) st):=by
 rw[bk]
 simp[A.nh,r2,gx,aO,aD]
 refine aB (Db hx) ?_
 rintro _ h1 N1 k1 ⟨ua,rfl,Nd⟩
 have fk:=k1.le
 have Nf:=(k1.get (N+1) (by omega)).trans gy
 simp[r3,Nf,aO,aD]
 refine aB (Db (hy.ae k1)) ?_
 rintro _ h2 N2 k2 ⟨ub,rfl,HN⟩
 have il:=k2.le
 have vZ:=Nd.ae k2
 have Ff:(aH a.natAbs).length<10000000000:=la
 have Rr:(aH b.natAbs).length<10000000000:=lb
 simp[]
 refine aB (Zts vZ HN (by omega) (by omega) (by omega)) ?_
 rintro _ h3 N3 k3 ⟨q,r,rfl,hq,hr⟩
 simp[]
 have lq:=EX (vu a.natAbs b.natAbs)
 have lr:=EX (Nat.mod_le a.natAbs b.natAbs)
 refine aB (EY hq (by omega)) ?_
 rintro vq h4 N4 k4 xc
 simp[]
 refine aB (EY (hr.ae k4) (by omega)) ?_
 rintro vr h5 N5 k5 YG
 have kA:=(((k1.trans k2).trans k3).trans k4).trans k5
 have zaz:=kA.le
 have YH:=xc.ae k5
 have gy5:=(kA.get (N+1) (by omega)).trans gy
 have gz5:=(kA.get (N+2) (by omega)).trans gz
 have gt5:=(kA.get (N+3) (by omega)).trans gt
 obtain⟨qv,Hz⟩:∃q,(if decide (a<0)=true then -((a.natAbs/b.natAbs:Nat):Int) else (a.natAbs/b.natAbs:Nat))=q:=⟨_,rfl⟩
 obtain⟨rv,Da⟩:∃q,(if decide (a<0)=true then -((a.natAbs%b.natAbs:Nat):Int) else (a.natAbs%b.natAbs:Nat))=q:=⟨_,rfl⟩
 rw[Hz]at YH
 rw[Da]at YG
 obtain⟨e1,e2⟩:=Yfz hb qv rv Hz.symm Da.symm
 have wq:wl qv<20000000000:=by
  have:qv.natAbs=a.natAbs/b.natAbs:=by rw[<-Hz];exact Zp6
  unfold wl;rw[this];omega
 have wr:wl rv<20000000000:=by
  have:rv.natAbs=a.natAbs%b.natAbs:=by rw[<-Da];exact Zp6
  unfold wl;rw[this];omega
 obtain⟨nq,uq,rfl,oq⟩:=YH.cells
 obtain⟨nr,ur,rfl,or⟩:=YG.cells
 have kB:=fun o1 o2=>aL (aL (ab.refl (h:=h5) (n:=N5)) o1) o2
 have oq':=oq
 have or':=or
 unfold V.one at oq or oy
 have d1:¬N5=N5+1:=by omega
 have gq6:(((h5.set N5 (.cells [.int .i64 0,.aa] 78 true)).set (N5+1) (.cells [.int .i64 0,.aa] 78 true)).set N5 (.cells [.int .i64 nq,uq] 78 true)).get N5=some (.cells [.int .i64 nq,uq] 78 true):=by simp
 simp[oq,or,ad,bD,aO,aD]
 have kC:=((kB (.cells [.int .i64 0,.aa] 78 true) (.cells [.int .i64 0,.aa] 78 true)).set (i:=N5) (o:=.cells [.int .i64 nq,uq] 78 true) (aQ _)).set (i:=N5+1) (o:=.cells [.int .i64 nr,ur] 78 true) (by omega)
 generalize hH6:(((h5.set N5 (.cells [.int .i64 0,.aa] 78 true)).set (N5+1) (.cells [.int .i64 0,.aa] 78 true)).set N5 (.cells [.int .i64 nq,uq] 78 true)).set (N5+1) (.cells [.int .i64 nr,ur] 78 true)=H6 at*
 have q6:H6.get N5=some (.cells [.int .i64 nq,uq] 78 true):=by rw[<-hH6];simp
 have r6:H6.get (N5+1)=some (.cells [.int .i64 nr,ur] 78 true):=by rw[<-hH6];simp
 have Ng:=YH.ae kC
 have hr6:=YG.ae kC
 have gy6:=(kC.get (N+1) (by omega)).trans gy5
 have gz6:=(kC.get (N+2) (by omega)).trans gz5
 have gt6:=(kC.get (N+3) (by omega)).trans gt5
 refine aB (HE hr6) ?_
 rintro _ h7 N7 k7 rfl
 have zaA:=k7.le
 have q7:=(k7.get N5 (by omega)).trans q6
 have r7:=(k7.get (N5+1) (by omega)).trans r6
 have gy7:=(k7.get (N+1) (by omega)).trans gy6
 have gz7:=(k7.get (N+2) (by omega)).trans gz6
 have gt7:=(k7.get (N+3) (by omega)).trans gt6
 have Nh:=Ng.ae k7
 have Ni:=hr6.ae k7
 have kF:=((hK.trans kA).trans kC).trans k7
 have fH:¬N5<N:=by omega
 have mC:¬N5+1<N:=by omega
 have hWW:av N [N5+1,N5]=[]:=by simp[av,fH,mC]
 by_cases er:rv<0
 ·have c1:dX rv<0:=by simp[dX,er]
  rw[ay er]at e1 e2
  have hn7:N5<N7:=by omega
  have zaB:N5+1<N7:=by omega
  have hny:N+1<N7:=by omega
  simp[c1,r3,q7,r7,gy7,aO,aD,ad,hn7]
  refine aB HD ?_
  rintro _ h8 N8 k8 rfl
  simp[]
  refine aB (Ykg (Nh.ae k8) (In.small (z:=1) (by omega) (by omega)) (by omega) (by decide+kernel)) ?_
  rintro vq9 h9 N9 k9 hq9
  have k89:=k8.trans k9
  have r9:=(k89.get (N5+1) (by omega)).trans r7
  have y9:=(k89.get (N+1) (by omega)).trans gy7
  have hr9:=Ni.ae k89
  have hb9:In h9 N9 (.agg [.int .i64 n2,u2]) b:=(((((hy.ae k1).ae k2).ae k3).ae k4).ae k5 |>.ae kC |>.ae k7).ae k89
  have zaj:=k89.le
  have z1:N5+1<N9:=by omega
  have z2:N+1<N9:=by omega
  simp[r3,r9,y9,aO,aD,ad,z1,z2]
  refine aB (Nj hr9 hb9 (by omega) (by omega)) ?_
  rintro zaC fx N10 k10 Nk
  have zak:=k10.le
  have Nl:=hq9.ae k10
  obtain⟨Rt,Ru,rfl,YI⟩:=Nl.cells
  obtain⟨YJ,YK,rfl,YL⟩:=Nk.cells
  have YM:=(k10.get N5 (by omega)).trans ((k89.get N5 (by omega)).trans q7)
  have tZ:=(k10.get (N5+1) (by omega)).trans r9
  have T9:=(k10.get (N+2) (by omega)).trans ((k89.get (N+2) (by omega)).trans gz7)
  have t10:=(k10.get (N+3) (by omega)).trans ((k89.get (N+3) (by omega)).trans gt7)
  have YN:=YI
  have YO:=YL
  unfold V.one at YI YL
  have z3:N5<N10:=by omega
  have z4:N5+1<N10:=by omega
  simp[YM,tZ,YI,YL,ad,bD,z3,z4]
  have q11:=Nl.aI (c1:=[.int .i64 Rt,Ru]) (e1:=78) (w1:=true) YM Nh.nu rfl
  have v_:=Nk.aI (c1:=[.int .i64 Rt,Ru]) (e1:=78) (w1:=true) YM Nh.nu rfl
  have Nm:(fx.set N5 (.cells [.int .i64 Rt,Ru] 78 true)).get (N5+1)=some (.cells [.int .i64 nr,ur] 78 true):=by rw[T.ag,ak (by omega)];exact tZ
  have q12:=q11.aI (c1:=[.int .i64 YJ,YK]) (e1:=78) (w1:=true) Nm Ni.nu rfl
  have HO:=v_.aI (c1:=[.int .i64 YJ,YK]) (e1:=78) (w1:=true) Nm Ni.nu rfl
  rw[e1]at q12
  rw[e2]at HO
  have kG:=(((kF.trans k89).trans k10).set (i:=N5) (o:=.cells [.int .i64 Rt,Ru] 78 true) (by omega)).set (i:=N5+1) (o:=.cells [.int .i64 YJ,YK] 78 true) (by omega)
  refine mi (Ylb (m:=N5) (by simp[av,fH,mC]) kG (by omega) (by omega) q12 HO YN YO (by rw[T.ag,ak (by omega),T.ag,ak (by omega)];exact T9) (by rw[T.ag,ak (by omega),T.ag,ak (by omega)];exact t10) (by simp) (by simp) (by simp[r4]) (by simp[r5]) (by simp) (by simp)) ?_
  rintro e fr st ⟨rfl,r,rfl,p1,p2,p3,p4⟩
  simp[p1,p2]
  exact⟨p3,p4⟩
 ·have c1:¬dX rv<0:=by unfold dX;rw[ak er];split<;>omega
  rw[ak er]at e1 e2
  rw[e1]at Nh
  rw[e2]at Ni
  simp[c1]
  refine mi (Ylb hWW kF (by omega) (by omega) Nh Ni oq' or' gz7 gt7 q7 r7 (by simp[r4]) (by simp[r5]) (by simp) (by simp)) ?_
  rintro e fr st ⟨rfl,r,rfl,p1,p2,p3,p4⟩
  simp[p1,p2]
  exact⟨p3,p4⟩
def Ztu(hx:In h N x a)(hy:In h N y b)(hb:0<b)(la:wl a<10000000000)(lb:wl b<10000000000):Fn A.C 232 [x,y] h N (fun v h' n'=>∃q r,v=.aV [q,r]/\In h' n' q (a/b)/\In h' n' r (a%b)):=by
 intro w
 rw[aN,A.k232 (by simp)]
 obtain⟨n1,u1,rfl,o1⟩:=hx.cells
 obtain⟨n2,u2,rfl,o2⟩:=hy.cells
 have kk:=aL (aL (aL (aL (ab.refl (h:=h) (n:=N)) (.cells [.int .i64 n1,u1] 78 true)) (.cells [.int .i64 n2,u2] 78 true)) (.cells [.int .i64 0,.aa] 78 true)) (.cells [.int .i64 0,.aa] 78 true)
 have PV:=o2
 unfold V.one at o1 o2
 have go:∀r:T V,r.get 2=some (.ptr N 0)->r.get 3=some (.ptr (N+1) 0)->r.get 4=some (.ptr (N+2) 0)->r.get 5=some (.ptr (N+3) 0)->bA A.C [.fin [.cell 4 (some 2),.cell 5 (some 2)] ⟨h,N,w⟩] (eJ (A.C.code none A.nh ⟨r,84,[]⟩ ⟨(((h.set N (.cells [.int .i64 n1,u1] 78 true)).set (N+1) (.cells [.int .i64 n2,u2] 78 true)).set (N+1+1) (.cells [.int .i64 0,.aa] 78 true)).set (N+1+1+1) (.cells [.int .i64 0,.aa] 78 true),N+1+1+1+1,[]⟩)) (CR (aA (fun v h' n'=>∃q r,v=.aV [q,r]/\In h' n' q (a/b)/\In h' n' r (a%b)) h N w)):=by
  intro r r2 r3 r4 r5
  refine mi (Yo1 (hx.ae kk) (hy.ae kk) hb la lb kk PV (by simp) (by simp) (by simp) (by simp) r2 r3 r4 r5) ?_
  rintro e fr ⟨h5,n5,w5⟩ ⟨rfl,r',rfl,J6,r5',⟨hW,hK,n6,u6,g6,hi⟩,⟨_,_,n7,u7,g7,hi7⟩⟩
  simp only at hW hK g6 hi g7 hi7
  simp[J6,r5',g6,g7,aO,aD,aA,hW]
  exact⟨hK,_,_,⟨rfl,rfl⟩,hi,hi7⟩
 rcases id hx with⟨e1,s1,s2⟩|⟨i,o,l,c,e1,_⟩
 ·simp only[V.agg.injEq,iY,V.int.injEq,true_and,and_true]at e1
  obtain⟨rfl,rfl⟩:=e1
  rcases id hy with⟨e2,t1,t2⟩|⟨i,o,l,c,e2,_⟩
  ·simp only[V.agg.injEq,iY,V.int.injEq,true_and,and_true]at e2
   obtain⟨rfl,rfl⟩:=e2
   by_cases tJ:n1= -9223372036854775808
   ·simp[A.b232,aO,aD,ad,aE,tJ]
    subst tJ
    exact go _ (by simp) (by simp) (by simp) (by simp)
   ·have hz:¬n2=0:=by omega
    obtain⟨f1,f2⟩:=Zyo (a:=n1) hb
    have b1:(n1.tdiv n2).natAbs<=n1.natAbs:=by rw[Int.natAbs_tdiv];exact vu _ _
    have b2:(n1.tmod n2).natAbs<=n1.natAbs:=by rw[Int.natAbs_tmod];exact Nat.mod_le _ _
    have b3:=Int.tmod_lt_of_pos n1 hb
    obtain⟨q,hq⟩:∃q,n1.tdiv n2=q:=⟨_,rfl⟩
    obtain⟨s,hs⟩:∃q,n1.tmod n2=q:=⟨_,rfl⟩
    rw[hq]at b1 f1
    rw[hs]at b2 b3 f1 f2
    have w1:bl .i64 q=q:=cA (by omega) (by omega)
    have d1:¬N=N+1:=by omega
    by_cases er:s<0
    ·rw[ay er]at f1 f2
     have w2:bl .i64 (s+n2)=s+n2:=cA (by omega) (by omega)
     have pj: -9223372036854775808<q:=by
      have:=Int.mul_tdiv_add_tmod n1 n2
      omega
     have w3:bl .i64 (q-1)=q-1:=cA (by omega) (by omega)
     simp[A.b232,aO,aD,ad,aE,tJ,hz,hq,hs,w1,w2,w3,er,aA,ct.cv]
     exact⟨(kk.set (by omega)).set (by omega),_,_,⟨rfl,rfl⟩,by rw[<-f1];exact In.small (by omega) (by omega),by rw[<-f2];exact In.small (by omega) (by omega)⟩
    ·rw[ak er]at f1 f2
     simp[A.b232,aO,aD,ad,aE,tJ,hz,hq,hs,w1,er,aA,ct.cv]
     exact⟨(kk.set (by omega)).set (by omega),_,_,⟨rfl,rfl⟩,by rw[<-f1];exact In.small (by omega) (by omega),by rw[<-f2];exact In.small (by omega) (by omega)⟩
  ·simp only[V.agg.injEq,iY,V.int.injEq,true_and,and_true]at e2
   obtain⟨rfl,rfl⟩:=e2
   simp[A.b232,aO,aD,ad,aE]
   exact go _ (by simp) (by simp) (by simp) (by simp)
 ·simp only[V.agg.injEq,iY,V.int.injEq,true_and,and_true]at e1
  obtain⟨rfl,rfl⟩:=e1
  simp[A.b232,aO,aD,ad,aE,o2]
  exact go _ (by simp) (by simp) (by simp) (by simp)
def Ykm(hx:In h N x a)(hy:In h N y b)(hb:0<b)(la:wl a<10000000000)(lb:wl b<10000000000):Fn A.C 187 [x,y] h N (fun v h' n'=>In h' n' v (a/b)):=by
 intro w
 rw[aN,A.k187 (by simp)]
 obtain⟨n1,u1,rfl,o1⟩:=hx.cells
 obtain⟨n2,u2,rfl,o2⟩:=hy.cells
 have kk:=aL (aL (aL (ab.refl (h:=h) (n:=N)) (.cells [.int .i64 n1,u1] 78 true)) (.cells [.int .i64 n2,u2] 78 true)) (.cells [.int .i64 0,.aa] 78 true)
 have jx:=hx.ae kk
 have vS:=hy.ae kk
 have C1:=HE vS
 unfold V.one at o1 o2
 have c1:¬dX b<0:=by unfold dX;rw[ak (by omega)];split<;>omega
 simp[A.b187,aO,aD,ad,o1,o2]
 refine aB C1 ?_
 rintro _ h1 m1 k1 rfl
 have fk:=k1.le
 have g0:=k1.get N (by omega)
 have g1:=k1.get (N+1) (by omega)
 have g2:=k1.get (N+1+1) (by omega)
 simp at g0 g1 g2
 simp[c1,g0,g1,aO,aD]
 refine aB (Ztu (jx.ae k1) (vS.ae k1) hb la lb) ?_
 rintro _ h2 m2 k2 ⟨q,r,rfl,hq,hr⟩
 have il:=k2.le
 have g22:=(k2.get (N+1+1) (by omega)).trans g2
 obtain⟨n3,u3,rfl,o3⟩:=hq.cells
 obtain⟨n4,u4,rfl,o4⟩:=hr.cells
 unfold V.one at o3 o4
 have d1:¬m2=m2+1:=by omega
 have d2:¬N+1+1=m2:=by omega
 have d3:¬N+1+1=m2+1:=by omega
 have fH:¬m2<N:=by omega
 have HP:¬m2+1<N:=by omega
 have mC:¬N+1+1<N:=by omega
 have kE:=((aL (aL (ab.refl (h:=h2) (n:=m2)) (.cells [.int .i64 0,.aa] 78 true)) (.cells [.int .i64 0,.aa] 78 true)).set (i:=m2) (o:=.cells [.int .i64 n3,u3] 78 true) (aQ _)).set (i:=m2+1) (o:=.cells [.int .i64 n4,u4] 78 true) (by omega)
 have g23:=(kE.get (N+1+1) (by omega)).trans g22
 have d4:¬N+1=m2:=by omega
 simp[g22,aO,aD,ad,bD,o3,o4,d1,d2,d3,d4,aA,fH,HP,mC]
 exact⟨(((kk.trans k1).trans k2).trans kE).set (by omega),(hq.ae kE).aI g23 (by simp) rfl⟩
structure Rv (h:T O) (N G m:Nat) (r:T V) (st:St):Prop where
 w:av N st.w=[]
 ae:ab h N st.h st.n
 le:N+3<=st.n
 row:st.h.get (N+2)=some (.cells [.int .i64 0,.aa] 78 true)
 ex:∃(n1 n2:Int) (u1 u2:V) (p:Nat),st.h.get N=some (.cells [.int .i64 n1,u1] 78 true)/\st.h.get (N+1)=some (.cells [.int .i64 n2,u2] 78 true)/\In st.h st.n (.agg [.int .i64 n1,u1]) p/\In st.h st.n (.agg [.int .i64 n2,u2]) m/\Nat.gcd p m=G/\wl p<10000000000/\wl m<10000000000
def Yiz{G:Nat}(a2:r0.get 2=some (.ptr N 0))(a3:r0.get 3=some (.ptr (N+1) 0)):
  ∀x r st,(∀t,jS [(5,6),(11,21)] t=false->r.get t=r0.get t)->Fx [(5,6),(11,21)] r0 23 ⟨r,23,[]⟩->Rv h N G x r st->Code A.C none A.rI ⟨r,23,[]⟩ st (Rd [(5,6),(11,21)] r0 23 (Rv h N G) x (fun e r st=>e=.exit 0/\Rv h N G 0 r st)):=by
 rintro m r ⟨H,n0,W⟩ hr hf ⟨hW,hK,hle,al,n1,n2,u1,u2,p,g0,g1,hp,hm,hg,lp,lm⟩
 simp only at hW hK hle al g0 g1 hp hm
 rw[bk]
 simp[A.rI,hr,hf,a2,a3,g1,aO,aD]
 refine aB (HE hm) ?_
 rintro _ h1 m1 k1 rfl
 have fk:=k1.le
 have f0:=(k1.get N (by omega)).trans g0
 have f1:=(k1.get (N+1) (by omega)).trans g1
 have f2:=(k1.get (N+2) (by omega)).trans al
 by_cases h0:m=0
 ·subst h0
  simp[hr,hf,dX,aE]
  exact⟨hW,hK.trans k1,by show N+3<=m1;omega,f2,n1,n2,u1,u2,p,f0,f1,hp.ae k1,hm.ae k1,hg,lp,lm⟩
 ·have c1:¬dX m=0:=by unfold dX;rw[ak (by omega),ak (by omega)];decide
  simp[hr,hf,a2,a3,c1,aE,f0,f1,aO,aD]
  refine aB (Ztu (hp.ae k1) (hm.ae k1) (by omega) lp lm) ?_
  rintro _ h2 m2 k2 ⟨q,s,rfl,hq,hs⟩
  have il:=k2.le
  have e0:=(k2.get N (by omega)).trans f0
  have e1:=(k2.get (N+1) (by omega)).trans f1
  have e2:=(k2.get (N+2) (by omega)).trans f2
  obtain⟨n3,u3,rfl,o3⟩:=hq.cells
  obtain⟨n4,u4,rfl,o4⟩:=hs.cells
  obtain⟨_,_,e5,o2⟩:=hm.cells
  simp only[V.agg.injEq,iY,V.int.injEq,true_and,and_true]at e5
  obtain⟨rfl,rfl⟩:=e5
  have PV:=o2
  unfold V.one at o3 o4 o2
  have kE:=((aL (aL (ab.refl (h:=h2) (n:=m2)) (.cells [.int .i64 0,.aa] 78 true)) (.cells [.int .i64 0,.aa] 78 true)).set (i:=m2) (o:=.cells [.int .i64 n3,u3] 78 true) (aQ _)).set (i:=m2+1) (o:=.cells [.int .i64 n4,u4] 78 true) (by omega)
  have i0:=(kE.get N (by omega)).trans e0
  have i1:=(kE.get (N+1) (by omega)).trans e1
  have i2:=(kE.get (N+2) (by omega)).trans e2
  have d1:¬m2=m2+1:=by omega
  have d2:¬N=m2:=by omega
  have d3:¬N=m2+1:=by omega
  have d4:¬N+1=m2:=by omega
  have d5:¬N+1=m2+1:=by omega
  have d6:¬m2=N:=by omega
  have d7:¬m2+1=N:=by omega
  have d8:¬m2=N+1:=by omega
  have d9:¬m2+1=N+1:=by omega
  have d10:¬N=N+1:=by omega
  have l1:N<m2+1+1:=by omega
  have l2:N+1<m2+1+1:=by omega
  simp(disch:=first|(simp;done)|omega|(simp only[bC,cB,bp];omega)|rfl) [hr,hf,a2,a3,e0,e1,aO,aD,ad,bD,o2,o3,o4,d1,d2,d3,d4,d5,d6,d7,d8,d9,d10,l1,l2,ct.cv]
  rw[G9 (by simp[d1,d2,d3,d4,d5,d6,d7,d8,d9,d10]<;>omega)]
  simp[hr,hf]
  have fH:¬m2<N:=by omega
  have HP:¬m2+1<N:=by omega
  have q1:=((hm.ae k1).ae k2).ae kE
  have s1:=hs.ae kE
  have q2:=q1.aI (c1:=[.int .i64 n2,u2]) (e1:=78) (w1:=true) i0 hp.nu rfl
  have s2:=s1.aI (c1:=[.int .i64 n2,u2]) (e1:=78) (w1:=true) i0 hp.nu rfl
  have i3:(((((h2.set m2 (.cells [.int .i64 0,.aa] 78 true)).set (m2+1) (.cells [.int .i64 0,.aa] 78 true)).set m2 (.cells [.int .i64 n3,u3] 78 true)).set (m2+1) (.cells [.int .i64 n4,u4] 78 true)).set N (.cells [.int .i64 n2,u2] 78 true)).get (N+1)=some (.cells [.int .i64 n2,u2] 78 true):=by rw[T.ag,ak (by omega)];exact i1
  have q3:=q2.aI (c1:=[.int .i64 n4,u4]) (e1:=78) (w1:=true) i3 hm.nu rfl
  have s3:=s2.aI (c1:=[.int .i64 n4,u4]) (e1:=78) (w1:=true) i3 hm.nu rfl
  refine⟨p%m,kZ _ (by omega),by simp[av,hW,fH,HP],((((hK.trans k1).trans k2).trans kE).set (aQ _)).set (by omega),by show N+3<=m2+1+1;omega,?_,n2,n4,u2,u4,m,by simp,by simp,q3,?_,?_,lm,?_⟩
  ·rw[T.ag,ak (by omega),T.ag,ak (by omega)];exact i2
  ·rw[<-Int.natCast_emod]at s3;exact s3
  ·rw[<-hg,Nat.gcd_comm p m,Nat.gcd_rec m p,Nat.gcd_comm]
  ·have:=Yqj (a:=(p:Int)) (b:=(m:Int)) (by omega)
   rw[<-Int.natCast_emod]at this
   omega
def Yk2(hx:In h N x a)(hy:In h N y b)(la:wl a<10000000000)(lb:wl b<10000000000):Fn A.C 179 [x,y] h N (fun v h' n'=>In h' n' v (Int.gcd a b:Nat)):=by
 intro w
 rw[aN,A.k179 (by simp)]
 obtain⟨n1,u1,rfl,o1⟩:=hx.cells
 obtain⟨n2,u2,rfl,o2⟩:=hy.cells
 have kk:=aL (aL (aL (ab.refl (h:=h) (n:=N)) (.cells [.int .i64 n1,u1] 78 true)) (.cells [.int .i64 n2,u2] 78 true)) (.cells [.int .i64 0,.aa] 78 true)
 have jx:=hx.ae kk
 have vS:=hy.ae kk
 unfold V.one at o1 o2
 simp[A.b179,aO,aD,ad,o1,o2]
 refine aB (Ylm jx (by omega)) ?_
 rintro v1 h1 m1 k1 oC
 have fk:=k1.le
 have g1:=k1.get (N+1) (by omega)
 simp at g1
 have l1:N+1<m1:=by omega
 simp[g1,l1,aO,aD]
 refine aB (Ylm (vS.ae k1) (by omega)) ?_
 rintro v2 h2 m2 k2 jL
 have Hy:=oC.ae k2
 have k12:=k1.trans k2
 have il:=k2.le
 obtain⟨n3,u3,rfl,o3⟩:=oC.cells
 obtain⟨n4,u4,rfl,o4⟩:=jL.cells
 unfold V.one at o3 o4
 have i0:=k12.get N (by omega)
 have i1:=k12.get (N+1) (by omega)
 have i2:=k12.get (N+1+1) (by omega)
 simp at i0 i1 i2
 have l2:N<m2:=by omega
 have l3:N+1<m2:=by omega
 have l4:N<m1:=by omega
 simp[i0,i1,aO,aD,ad,bD,o3,o4,l1,l2,l3,l4,ct.cv]
 have q1:=Hy.aI (c1:=[.int .i64 n3,u3]) (e1:=78) (w1:=true) i0 hx.nu rfl
 have s1:=jL.aI (c1:=[.int .i64 n3,u3]) (e1:=78) (w1:=true) i0 hx.nu rfl
 have i3:(h2.set N (.cells [.int .i64 n3,u3] 78 true)).get (N+1)=some (.cells [.int .i64 n2,u2] 78 true):=by rw[T.ag,ak (by omega)];exact i1
 have q2:=q1.aI (c1:=[.int .i64 n4,u4]) (e1:=78) (w1:=true) i3 hy.nu rfl
 have s2:=s1.aI (c1:=[.int .i64 n4,u4]) (e1:=78) (w1:=true) i3 hy.nu rfl
 have wa:wl (a.natAbs:Int)=wl a:=by unfold wl;rw[dC]
 have wb:wl (b.natAbs:Int)=wl b:=by unfold wl;rw[dC]
 refine bG [(5,6),(11,21)] _ (Rv h N (Int.gcd a b)) b.natAbs ?_ (Yiz (by simp) (by simp)) ?_
 ·refine⟨by simp[av],((kk.trans k12).set (aQ _)).set (by omega),by show N+3<=m2;omega,?_,n3,n4,u3,u4,a.natAbs,by simp,by simp,q2,s2,rfl,by rw[wa];exact la,by rw[wb];exact lb⟩
  rw[T.ag,ak (by omega),T.ag,ak (by omega)];exact i2
 rintro e r ⟨h5,m5,W5⟩ hr ⟨rfl,hW,hK,hle,al,n5,n6,u5,u6,p,g5,g6,hp,hm,hg,lp,lm⟩
 simp only at hW hK hle al g5 g6 hp hm
 obtain⟨_,_,e5,o5⟩:=hp.cells
 simp only[V.agg.injEq,iY,V.int.injEq,true_and,and_true]at e5
 obtain⟨rfl,rfl⟩:=e5
 unfold V.one at o5
 rw[Nat.gcd_zero_right]at hg
 have Fg:h5.get (N+1+1)=some (.cells [.int .i64 0,.aa] 78 true):=al
 have fH:¬N+1+1<N:=by omega
 simp[hr,g5,Fg,aO,aD,ad,bD,o5,aA,hW,fH]
 exact⟨hK.set (by omega),by rw[<-hg];exact hp.aI Fg (by simp) rfl⟩
def A.b85:=A.q Tryz.f85
def A.k85:=@A.kk 85 7 [.tmp 4] A.b85 (by kernel_rfl) rfl
def A.b178:=A.q Tryz.f178
def A.k178:=@A.kk 178 7 [.tmp 4] A.b178 (by kernel_rfl) rfl
def Ybh{b:Bool}{e:Int}{st:St}:A.C.call (.func 85 [] []) [.bool b,.int .i64 e] st=some (.int .i64 (if b=true then e else 0),st):=by
 apply Call.eq
 rw[aN,A.k85 (by simp)]
 cases b<;>simp[A.b85]
def BT{b:Bool}{e:Int}{st:St}:A.C.call (.func 178 [] []) [.bool b,.int .i64 e] st=some (.int .i64 (if b=true then e else 0),st):=by
 apply Call.eq
 rw[aN,A.k178 (by simp)]
 cases b<;>simp[A.b178]
variable {s:aM}
def A.b238:=A.q Tryz.f238
def A.k238:=@A.kk 238 18 [.tmp 4] A.b238 (by kernel_rfl) rfl
def A.b175:=A.q Tryz.f175
def A.k175:=@A.kk 175 11 [.tmp 4,.tmp 5] A.b175 (by kernel_rfl) rfl
def A.b229:=A.q Tryz.f229
def A.k229:=@A.kk 229 15 [.tmp 4,.tmp 5] A.b229 (by kernel_rfl) rfl
def A.b193:=A.q Tryz.f193
def A.k193:=@A.kk 193 8 [.tmp 4] A.b193 (by kernel_rfl) rfl
def A.b239:=A.q Tryz.f239
def A.k239:=@A.kk 239 13 [.tmp 4] A.b239 (by kernel_rfl) rfl
def A.b192:=A.q Tryz.f192
def A.k192:=@A.kk 192 8 [.tmp 4] A.b192 (by kernel_rfl) rfl
def A.b267:=A.q Tryz.f267
def A.k267:=@A.kk 267 8 [.tmp 4] A.b267 (by kernel_rfl) rfl
def A.Nn:=A.q Tryz.f237
def A.Df:=A.ql A.Nn 0 []
def A.b237:=(fun x0=>A.qb A.Nn [x0]) A.Df
def A.k237:=@A.kk 237 143 [.tmp 4] A.b237 (by kernel_rfl) rfl
def A.b191:=A.q Tryz.f191
def A.k191:=@A.kk 191 23 [.tmp 4,.tmp 5,.tmp 6] A.b191 (by kernel_rfl) rfl
def A.b123:=A.q Tryz.f123
def A.k123:=@A.kk 123 13 [.tmp 4,.tmp 5,.tmp 6] A.b123 (by kernel_rfl) rfl
def Np{s:aM}{st:St}:A.C.call (.func 238 [] []) [.str s,.str [45]] st=some (.bool (cF s),st):=by
 apply Call.eq
 rw[aN,A.k238 (by simp)]
 cases s with
 |nil=>simp[A.b238,cF]
 |cons c s=>
  have e:(([c]:aM)==[45])=decide (c.toNat=45):=by
   rw[Bool.eq_iff_iff]
   simp only[beq_iff_eq,decide_eq_true_eq,iY,and_true]
   exact⟨fun h=>by rw[h];rfl,fun h=>UInt8.toNat_inj.1 h⟩
  have h1:(1:Int)<=(s.length:Int)+1:=by omega
  simp[A.b238,cF,aC,e,h1]
def Zty{st:St}:A.C.call (.func 175 [] []) [.str s,.str [45]] st=some (.aV [.str (bn s),.bool (cF s)],st):=by
 apply Call.eq
 rw[aN,A.k175 (by simp)]
 simp[A.b175]
 rw[A.k229 (by simp)]
 by_cases hn:cF s=true
 ·have h1:1<=s.length:=by cases s<;>simp[cF]at hn ⊢
  have fL:(1:Int)<=s.length:=by omega
  simp[A.b229,Np,hn,aC,fL,bn]
 ·simp[A.b229,Np,hn,bn]
def Zj5{st:St}:A.C.call (.func 193 [] []) [.str s,.str [45]] st=some (.str (bn s),st):=by
 apply Call.eq
 rw[aN,A.k193 (by simp)]
 simp[A.b193]
 rw[A.k239 (by simp)]
 by_cases hn:cF s=true
 ·have h1:1<=s.length:=by cases s<;>simp[cF]at hn ⊢
  have fL:(1:Int)<=s.length:=by omega
  simp[A.b239,Np,hn,aC,fL,bn]
 ·simp[A.b239,Np,hn,bn]
def Zti{st:St}:A.C.call (.func 192 [] []) [.str s,.str [45]] st=some (.bool (cF s),st):=by
 apply Call.eq
 rw[aN,A.k192 (by simp)]
 simp[A.b192,Np]
def Zth{st:St}:A.C.call (.func 267 [] []) [.str s,.int .u8 47] st=some (.int .i64 (if ah s<s.length then (ah s:Int) else -1),st):=by
 apply Call.eq
 rw[aN,A.k267 (by simp)]
 have e:=Zkr s 0
 simp only[wX]at e
 simp[A.b267,Hp,Ct,e]
def Zxo{st:St}:A.C.call (.func 237 [] []) [.str s,.str [47]] st=some (.int .i64 (if ah s<s.length then (ah s:Int) else -1),st):=by
 apply Call.eq
 rw[aN,A.k237 (by simp)]
 by_cases hs:s=[47]
 ·subst hs
  simp[A.b237,aE,ah]
 ·have e1:(([47]:aM)==s)=false:=by simp;exact fun h=>hs h.symm
  have e2:cI 47=47:=rfl
  simp[A.b237,aE,Zth,e1,e2]
def Ylf{st:St}(hl:s.length<4611686018427387904):A.C.call (.func 123 [] []) [.str s,.str [47]] st=some (.aV [.str (s.take (ah s)),.str (s.drop (ah s+1)),.bool (decide (ah s<s.length))],st):=by
 apply Call.eq
 rw[aN,A.k123 (by simp)]
 simp[A.b123]
 rw[A.k191 (by simp)]
 have hle:=EK s
 by_cases hs:ah s<s.length
 ·simp(disch:=first|(simp;done)|omega|(simp only[bC,cB,bp];omega)|rfl) [A.b191,Zxo,hs,aC]
  try omega
 ·have:s.take (ah s)=s:=eZ (by omega)
  have h2:s.drop (ah s+1)=[]:=zV (by omega)
  simp(disch:=first|(simp;done)|omega|(simp only[bC,cB,bp];omega)|rfl) [-getElem?_pos,A.b191,Zxo,hs,this,h2]
end
end Go.Mx
