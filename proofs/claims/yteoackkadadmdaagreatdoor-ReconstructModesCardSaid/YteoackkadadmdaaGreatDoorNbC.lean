/-num-/
import Derived.Test.YteoackkadadmdaaGreatDoorRcM
set_option linter.all false
namespace Go.Mx
open Go Go.Proofs
variable {N:Nat} {a b:Int} {h:T O} {r0:T V} {x y:V}
set_option maxHeartbeats 2000000
set_option maxRecDepth 1000000
def A.qL:av:=.seq (.aX [lN 82 2 14,lN 83 2 15,gn (.store 2 (tq 4) (tq 82)),gn (.store 2 (tq 5) (tq 83))] [0,0,1,7])
 (.ret)
def A.mR:av:=sr [lN 52 2 2,c1 53 196 52,mv 51 53,xt 54 51 0,xt 55 51 1,mv 8 54,mv 9 55]
 (sr [lN 57 2 3,c1 58 196 57,mv 56 58,xt 59 56 0,xt 60 56 1,mv 10 59,mv 11 60]
 (sr [mv 62 9,mv 63 11,c2 64 212 62 63,mv 61 64,xt 65 61 0,xt 66 61 1,mv 12 65,mv 13 66]
 (sr [mv 67 8,mv 68 12,c2 69 197 67 68,mv 70 8,mv 71 13,c2 72 197 70 71,ge 14 (.alloc [.int .i64 0,.aa] 101),ge 15 (.alloc [.int .i64 0,.aa] 101),gn (.store 2 (tq 14) (tq 69)),gn (.store 2 (tq 15) (tq 72))]
 (.seq (sr [lN 73 2 15,c1 74 167 73,bc 75 .lss 74 0]
 (cd 75
 (.aX [lN 76 2 14,ge 77 (.call (fq 163) [.const (.int .i64 1)]),c2 78 238 76 77,lN 79 2 15,lN 80 2 3,c2 81 146 79 80,gn (.store 2 (tq 14) (tq 78)),gn (.store 2 (tq 15) (tq 81))] [0,0,3,0,0,31,63,127])
 (.skip)))
 A.qL))))
def A.b237:av:=sr [bx 2 101 0,bx 3 101 1,ge 4 (.alloc [.int .i64 0,.aa] 101),ge 5 (.alloc [.int .i64 0,.aa] 101)]
 (.seq (sr [fa 16 1 2,ld 17 16,ge 18 (.bin .eql (.aM .slice) true (tq 17) (.const .aa)),mv 19 18,gy 20 19 (.eI 1 (tq 3)),gy 21 19 (.load none (tq 20)),gy 22 19 (.bin .eql (.aM .slice) true (tq 21) (.const .aa)),pf 23 19 22,mv 24 23,gy 25 24 (.eI 0 (tq 2)),gy 26 24 (.load none (tq 25)),gy 27 24 (.bin .neq (.aM .int) true (tq 26) (.const (.int .i64 (-9223372036854775808)))),pf 28 24 27]
 (cd 28
 (.seq (.aX [fa 29 0 2,ld 30 29,fa 31 0 3,ld 32 31,bi 33 .quo 30 32,fa 34 0 2,ld 35 34,fa 36 0 3,ld 37 36,bi 38 .rem 35 37,mv 6 33,mv 7 38] [0,1,0,4,15,0,32,0,128,480,31,2047])
 (.seq (sr [mv 39 7,bc 40 .lss 39 0]
 (cd 40
 (.aX [mv 41 6,bc 42 .sub 41 1,mv 43 7,fa 44 0 3,ld 45 44,bi 46 .add 43 45,mv 6 42,mv 7 46] [0,1,0,0,8,28,3,127])
 (.skip)))
 (sr [mv 47 6,ge 48 (.build [.int .i64 0,.aa] [(0,1,(tq 47))]),mv 49 7,ge 50 (.build [.int .i64 0,.aa] [(0,1,(tq 49))]),gn (.store 2 (tq 4) (tq 48)),gn (.store 2 (tq 5) (tq 50))]
 (.ret))))
 (.skip)))
 A.mR)
def A.c237:A.F 237=some ⟨84,[.cell 4 (some 2),.cell 5 (some 2)],A.b237⟩:=by kernel_rfl
def A.k237:=@A.kk 237 _ _ _ A.c237 rfl
def A.b201:av:=sr [bx 2 101 0,bx 3 101 1,ge 4 (.alloc [.int .i64 0,.aa] 101)]
 (.seq (sr [lN 7 2 3,c1 8 167 7,bc 9 .lss 8 0]
 (cd 9
 (.aX [lN 10 2 2,c1 11 189 10,lN 12 2 3,c1 13 189 12,gn (.store 2 (tq 2) (tq 11)),gn (.store 2 (tq 3) (tq 13))] [0,1,0,7,15,31])
 (.skip)))
 (sr [lN 15 2 2,lN 16 2 3,c2 17 237 15 16,mv 14 17,xt 18 14 0,xt 19 14 1,ge 5 (.alloc [.int .i64 0,.aa] 101),ge 6 (.alloc [.int .i64 0,.aa] 101),gn (.store 2 (tq 5) (tq 18)),gn (.store 2 (tq 6) (tq 19))]
 (sr [lN 20 2 5,gn (.store 2 (tq 4) (tq 20))]
 (.ret))))
def A.c201:A.F 201=some ⟨21,[.cell 4 (some 2)],A.b201⟩:=by kernel_rfl
def A.k201:=@A.kk 201 _ _ _ A.c201 rfl
def A.qN:av:=.seq (sr [lN 11 2 3,c1 12 167 11,ni 13 12 0]
 (cd 13
 (.skip)
 (.exit 0)))
 (.block 1 (sr [lN 15 2 2,lN 16 2 3,c2 17 237 15 16,mv 14 17,xt 18 14 0,xt 19 14 1,ge 5 (.alloc [.int .i64 0,.aa] 101),ge 6 (.alloc [.int .i64 0,.aa] 101),gn (.store 2 (tq 5) (tq 18)),gn (.store 2 (tq 6) (tq 19))]
 (.aX [lN 20 2 3,lN 21 2 6,gn (.store 2 (tq 2) (tq 20)),gn (.store 2 (tq 3) (tq 21))] [0,0,1,7])))
def A.b194:av:=sr [bx 2 101 0,bx 3 101 1,ge 4 (.alloc [.int .i64 0,.aa] 101)]
 (.seq (.aX [lN 7 2 2,c1 8 236 7,lN 9 2 3,c1 10 236 9,gn (.store 2 (tq 2) (tq 8)),gn (.store 2 (tq 3) (tq 10))] [0,1,0,7,15,31])
 (.seq (.block 0 (.loop A.qN))
 (sr [lN 22 2 2,gn (.store 2 (tq 4) (tq 22))]
 (.ret))))
def A.c194:A.F 194=some ⟨23,[.cell 4 (some 2)],A.b194⟩:=by kernel_rfl
def A.k194:=@A.kk 194 _ _ _ A.c194 rfl
def Zx9(hb:0<b):(if a.tmod b<0 then a.tdiv b-1 else a.tdiv b)=a/b/\(if a.tmod b<0 then a.tmod b+b else a.tmod b)=a%b:=by
 have h1:=Int.mul_tdiv_add_tmod a b
 have h2:=Int.tmod_lt_of_pos a hb
 have h3: -b<a.tmod b:=by
  have:=Int.tmod_lt_of_pos (-a) hb
  rw[Int.neg_tmod]at this
  omega
 have key:∀q r:Int,b*q+r=a->0<=r->r<b->q=a/b/\r=a%b:=by
  intro q r e r0 r1
  have:=(Int.ediv_emod_unique hb (r:=r) (q:=q) (a:=a)).2 ⟨by omega,r0,r1⟩
  exact⟨this.1.symm,this.2.symm⟩
 by_cases h:a.tmod b<0
 ·rw[aF h,aF h]
  exact key _ _ (by rw[Int.mul_sub];omega) (by omega) (by omega)
 ·rw[ar h,ar h]
  exact key _ _ (by omega) (by omega) h2
def Yfs(hb:0<b):∀q r:Int,q=(if decide (a<0)=true then -((a.natAbs/b.natAbs:Nat):Int) else (a.natAbs/b.natAbs:Nat))->r=(if decide (a<0)=true then -((a.natAbs%b.natAbs:Nat):Int) else (a.natAbs%b.natAbs:Nat))->(if r<0 then q-1 else q)=a/b/\(if r<0 then r+b else r)=a%b:=by
 intro q r hq hr
 have h1:=tP a.natAbs b.natAbs
 have h2:=kh a.natAbs (show 0<b.natAbs by omega)
 have hbe:(b.natAbs:Int)=b:=by omega
 have fH:b*((a.natAbs/b.natAbs:Nat):Int)+((a.natAbs%b.natAbs:Nat):Int)=a.natAbs:=by
  rw[<-hbe,<-Ir,<-Int.natCast_add,dJ,h1]
 have key:∀q r:Int,b*q+r=a->0<=r->r<b->q=a/b/\r=a%b:=by
  intro q r e r0 r1
  have:=(Int.ediv_emod_unique hb (r:=r) (q:=q) (a:=a)).2 ⟨by omega,r0,r1⟩
  exact⟨this.1.symm,this.2.symm⟩
 generalize a.natAbs/b.natAbs=Q at*
 generalize a.natAbs%b.natAbs=R at*
 by_cases ha:a<0
 ·simp only[ha,decide_true,if_true]at hq hr
  subst hq hr
  by_cases h: -(R:Int)<0
  ·rw[aF h,aF h]
   exact key _ _ (by rw[Int.mul_sub,Int.mul_neg];omega) (by omega) (by omega)
  ·rw[ar h,ar h]
   exact key _ _ (by rw[Int.mul_neg];omega) (by omega) (by omega)
 ·simp only[ha,decide_false,fF,if_false]at hq hr
  subst hq hr
  rw[ar (by omega),ar (by omega)]
  exact key _ _ (by omega) (by omega) (by omega)
def Ypw(hb:0<b):wl (a%b)<=wl b:=by
 apply GV
 have h1:=Dw a hb
 have h2:=Dy a (show b≠0 by omega)
 omega
def Zp2{c:Bool}{n:Nat}:(if c=true then -(n:Int) else (n:Int)).natAbs=n:=by split<;>omega
def Yky{H:T O}{n m:Nat}{nq nr q s:Int}{uq ur:V}{W:List Nat}(hW:ax N W=[])(hK:ab h N H n)(hm:N+4<=m)(TL:m+1<n)(hq:In H n (.agg [.int .i64 nq,uq]) q)(hr:In H n (.agg [.int .i64 nr,ur]) s)(oq:V.one uq=true)(or:V.one ur=true)
  (gz:H.get (N+2)=some (.cells [.int .i64 0,.aa] 101 true)) (gt:H.get (N+3)=some (.cells [.int .i64 0,.aa] 101 true)) (gq:H.get m=some (.cells [.int .i64 nq,uq] 101 true)) (gr:H.get (m+1)=some (.cells [.int .i64 nr,ur] 101 true))
  (r4:r0.get 4=some (.ptr (N+2) 0)) (r5:r0.get 5=some (.ptr (N+3) 0)) (I9:r0.get 14=some (.ptr m 0)) (r15:r0.get 15=some (.ptr (m+1) 0)):
  Code A.C none A.qL ⟨r0,84,[]⟩ ⟨H,n,W⟩ (fun e fr st=>e=.ret/\∃r,fr=⟨r,84,[]⟩/\r.get 4=some (.ptr (N+2) 0)/\r.get 5=some (.ptr (N+3) 0)/\GW h N (N+2) q st/\GW h N (N+3) s st):=by
 have n1:m<n:=by omega
 have n2:N+2<n:=by omega
 have n3:N+3<n:=by omega
 have d1:¬m=N+2:=by omega
 have d2:¬m=N+3:=by omega
 have d3:¬N+2=m:=by omega
 have d4:¬N+3=m:=by omega
 have d5:¬N+2=m+1:=by omega
 have d6:¬N+3=m+1:=by omega
 have d7:¬m+1=N+2:=by omega
 have d8:¬m+1=N+3:=by omega
 have d9:¬N+3=N+2:=by omega
 have d10:¬N+2=N+3:=by omega
 rw[bq]
 have k1:=(hK.set (i:=N+2) (o:=.cells [.int .i64 nq,uq] 101 true) (by omega)).set (i:=N+3) (o:=.cells [.int .i64 nr,ur] 101 true) (by omega)
 have jV:=(hq.aK (c1:=[.int .i64 nq,uq]) (e1:=101) (w1:=true) gz (by simp) rfl)
 have dK:=(hr.aK (c1:=[.int .i64 nq,uq]) (e1:=101) (w1:=true) gz (by simp) rfl)
 have gt2:(H.set (N+2) (.cells [.int .i64 nq,uq] 101 true)).get (N+3)=some (.cells [.int .i64 0,.aa] 101 true):=by rw[T.ag,ar d9];exact gt
 have Mc:=(jV.aK (c1:=[.int .i64 nr,ur]) (e1:=101) (w1:=true) gt2 (by simp) rfl)
 have LN:=(dK.aK (c1:=[.int .i64 nr,ur]) (e1:=101) (w1:=true) gt2 (by simp) rfl)
 have dX:ax N ((N+3)::(N+2)::W)=[]:=by simp[ax,hW]
 unfold V.one at oq or
 simp(disch:=omega) [A.qL,r4,r5,I9,r15,gz,gt,gq,gr,n1,n2,n3,TL,oq,or,aS,aE,ad,bO]
 rw[D9 (by simp[d3,d4,d5,d6]<;>omega)]
 simp[r4,r5]
 exact⟨⟨dX,k1,nq,uq,by simp,Mc⟩,⟨dX,k1,nr,ur,by simp,LN⟩⟩
def Yoj{H:T O}{n1 n2:Int}{u1 u2:V}(hx:In H (N+4) (.agg [.int .i64 n1,u1]) a)(hy:In H (N+4) (.agg [.int .i64 n2,u2]) b)(hb:0<b)(la:wl a<10000000000)(lb:wl b<10000000000)(hK:ab h N H (N+4))(oy:V.one u2=true)
  (gx:H.get N=some (.cells [.int .i64 n1,u1] 101 true)) (gy:H.get (N+1)=some (.cells [.int .i64 n2,u2] 101 true)) (gz:H.get (N+2)=some (.cells [.int .i64 0,.aa] 101 true)) (gt:H.get (N+3)=some (.cells [.int .i64 0,.aa] 101 true)) (r2:r0.get 2=some (.ptr N 0)) (r3:r0.get 3=some (.ptr (N+1) 0)) (r4:r0.get 4=some (.ptr (N+2) 0)) (r5:r0.get 5=some (.ptr (N+3) 0)):
  Code A.C none A.mR ⟨r0,84,[]⟩ ⟨H,N+4,[]⟩ (fun e fr st=>e=.ret/\∃r,fr=⟨r,84,[]⟩/\r.get 4=some (.ptr (N+2) 0)/\r.get 5=some (.ptr (N+3) 0)/\GW h N (N+2) (a/b) st/\GW h N (N+3) (a%b) st):=by
 rw[bq]
 simp[A.mR,r2,gx,aS,aE]
 refine aA (CJ hx) ?_
 rintro _ h1 N1 k1 ⟨ua,rfl,Md⟩
 have fl:=k1.le
 have Me:=(k1.get (N+1) (by omega)).trans gy
 simp[r3,Me,aS,aE]
 refine aA (CJ (hy.ae k1)) ?_
 rintro _ h2 N2 k2 ⟨ub,rfl,GX⟩
 have gX:=k2.le
 have vz:=Md.ae k2
 have Ez:(aJ a.natAbs).length<10000000000:=la
 have P0:(aJ b.natAbs).length<10000000000:=lb
 simp[]
 refine aA (Ztf vz GX (by omega) (by omega) (by omega)) ?_
 rintro _ h3 N3 k3 ⟨q,r,rfl,hq,hr⟩
 simp[]
 have lq:=Eo (uH a.natAbs b.natAbs)
 have lr:=Eo (Nat.mod_le a.natAbs b.natAbs)
 refine aA (Eu hq (by omega)) ?_
 rintro vq h4 N4 k4 yH
 simp[]
 refine aA (Eu (hr.ae k4) (by omega)) ?_
 rintro vr h5 N5 k5 Wr
 have kA:=(((k1.trans k2).trans k3).trans k4).trans k5
 have zaC:=kA.le
 have Ws:=yH.ae k5
 have gy5:=(kA.get (N+1) (by omega)).trans gy
 have gz5:=(kA.get (N+2) (by omega)).trans gz
 have gt5:=(kA.get (N+3) (by omega)).trans gt
 obtain⟨qv,GN⟩:∃q,(if decide (a<0)=true then -((a.natAbs/b.natAbs:Nat):Int) else (a.natAbs/b.natAbs:Nat))=q:=⟨_,rfl⟩
 obtain⟨rv,CH⟩:∃q,(if decide (a<0)=true then -((a.natAbs%b.natAbs:Nat):Int) else (a.natAbs%b.natAbs:Nat))=q:=⟨_,rfl⟩
 rw[GN]at Ws
 rw[CH]at Wr
 obtain⟨e1,e2⟩:=Yfs hb qv rv GN.symm CH.symm
 have wq:wl qv<20000000000:=by
  have:qv.natAbs=a.natAbs/b.natAbs:=by rw[<-GN];exact Zp2
  unfold wl;rw[this];omega
 have wr:wl rv<20000000000:=by
  have:rv.natAbs=a.natAbs%b.natAbs:=by rw[<-CH];exact Zp2
  unfold wl;rw[this];omega
 obtain⟨nq,uq,rfl,oq⟩:=Ws.cells
 obtain⟨nr,ur,rfl,or⟩:=Wr.cells
 have kB:=fun o1 o2=>aP (aP (ab.refl (h:=h5) (n:=N5)) o1) o2
 have oq':=oq
 have or':=or
 unfold V.one at oq or oy
 have d1:¬N5=N5+1:=by omega
 have gq6:(((h5.set N5 (.cells [.int .i64 0,.aa] 101 true)).set (N5+1) (.cells [.int .i64 0,.aa] 101 true)).set N5 (.cells [.int .i64 nq,uq] 101 true)).get N5=some (.cells [.int .i64 nq,uq] 101 true):=by simp
 simp[oq,or,ad,bO,aS,aE]
 have kC:=((kB (.cells [.int .i64 0,.aa] 101 true) (.cells [.int .i64 0,.aa] 101 true)).set (i:=N5) (o:=.cells [.int .i64 nq,uq] 101 true) (aW _)).set (i:=N5+1) (o:=.cells [.int .i64 nr,ur] 101 true) (by omega)
 generalize hH6:(((h5.set N5 (.cells [.int .i64 0,.aa] 101 true)).set (N5+1) (.cells [.int .i64 0,.aa] 101 true)).set N5 (.cells [.int .i64 nq,uq] 101 true)).set (N5+1) (.cells [.int .i64 nr,ur] 101 true)=H6 at*
 have q6:H6.get N5=some (.cells [.int .i64 nq,uq] 101 true):=by rw[<-hH6];simp
 have r6:H6.get (N5+1)=some (.cells [.int .i64 nr,ur] 101 true):=by rw[<-hH6];simp
 have Mf:=Ws.ae kC
 have hr6:=Wr.ae kC
 have gy6:=(kC.get (N+1) (by omega)).trans gy5
 have gz6:=(kC.get (N+2) (by omega)).trans gz5
 have gt6:=(kC.get (N+3) (by omega)).trans gt5
 refine aA (GQ hr6) ?_
 rintro _ h7 N7 k7 rfl
 have zaD:=k7.le
 have q7:=(k7.get N5 (by omega)).trans q6
 have r7:=(k7.get (N5+1) (by omega)).trans r6
 have gy7:=(k7.get (N+1) (by omega)).trans gy6
 have gz7:=(k7.get (N+2) (by omega)).trans gz6
 have gt7:=(k7.get (N+3) (by omega)).trans gt6
 have Mg:=Mf.ae k7
 have Mh:=hr6.ae k7
 have kF:=((hK.trans kA).trans kC).trans k7
 have ik:¬N5<N:=by omega
 have l9:¬N5+1<N:=by omega
 have hWW:ax N [N5+1,N5]=[]:=by simp[ax,ik,l9]
 by_cases eh:rv<0
 ·have c1:dW rv<0:=by simp[dW,eh]
  rw[aF eh]at e1 e2
  have hn7:N5<N7:=by omega
  have zaE:N5+1<N7:=by omega
  have hny:N+1<N7:=by omega
  simp[c1,q7,aS,aE,hn7]
  refine aA GP ?_
  rintro _ h8 N8 k8 rfl
  simp[]
  refine aA (Yj1 (Mg.ae k8) (In.small (z:=1) (by omega) (by omega)) (by omega) (by decide+kernel)) ?_
  rintro vq9 h9 N9 k9 hq9
  have k89:=k8.trans k9
  have r9:=(k89.get (N5+1) (by omega)).trans r7
  have y9:=(k89.get (N+1) (by omega)).trans gy7
  have hr9:=Mh.ae k89
  have hb9:In h9 N9 (.agg [.int .i64 n2,u2]) b:=(((((hy.ae k1).ae k2).ae k3).ae k4).ae k5 |>.ae kC |>.ae k7).ae k89
  have zae:=k89.le
  have z1:N5+1<N9:=by omega
  have z2:N+1<N9:=by omega
  simp[r3,r9,y9,aS,aE,z1,z2]
  refine aA (Mi hr9 hb9 (by omega) (by omega)) ?_
  rintro zaF gY N10 k10 Mj
  have zaf:=k10.le
  have Mk:=hq9.ae k10
  obtain⟨P1,P2,rfl,Wu⟩:=Mk.cells
  obtain⟨Wv,Ww,rfl,Wx⟩:=Mj.cells
  have Wy:=(k10.get N5 (by omega)).trans ((k89.get N5 (by omega)).trans q7)
  have tn:=(k10.get (N5+1) (by omega)).trans r9
  have SK:=(k10.get (N+2) (by omega)).trans ((k89.get (N+2) (by omega)).trans gz7)
  have t10:=(k10.get (N+3) (by omega)).trans ((k89.get (N+3) (by omega)).trans gt7)
  have Wz:=Wu
  have WA:=Wx
  unfold V.one at Wu Wx
  have z3:N5<N10:=by omega
  have z4:N5+1<N10:=by omega
  simp[Wy,tn,Wu,Wx,ad,bO,z3,z4]
  have q11:=Mk.aK (c1:=[.int .i64 P1,P2]) (e1:=101) (w1:=true) Wy Mg.nu rfl
  have vA:=Mj.aK (c1:=[.int .i64 P1,P2]) (e1:=101) (w1:=true) Wy Mg.nu rfl
  have Ml:(gY.set N5 (.cells [.int .i64 P1,P2] 101 true)).get (N5+1)=some (.cells [.int .i64 nr,ur] 101 true):=by rw[T.ag,ar (by omega)];exact tn
  have q12:=q11.aK (c1:=[.int .i64 Wv,Ww]) (e1:=101) (w1:=true) Ml Mh.nu rfl
  have GY:=vA.aK (c1:=[.int .i64 Wv,Ww]) (e1:=101) (w1:=true) Ml Mh.nu rfl
  rw[e1]at q12
  rw[e2]at GY
  have kG:=(((kF.trans k89).trans k10).set (i:=N5) (o:=.cells [.int .i64 P1,P2] 101 true) (by omega)).set (i:=N5+1) (o:=.cells [.int .i64 Wv,Ww] 101 true) (by omega)
  refine jZ (Yky (m:=N5) (by simp[ax,ik,l9]) kG (by omega) (by omega) q12 GY Wz WA (by rw[T.ag,ar (by omega),T.ag,ar (by omega)];exact SK) (by rw[T.ag,ar (by omega),T.ag,ar (by omega)];exact t10) (by simp) (by simp) (by simp[r4]) (by simp[r5]) (by simp) (by simp)) ?_
  rintro e fr st ⟨rfl,r,rfl,p1,p2,p3,p4⟩
  simp[p1,p2]
  exact⟨p3,p4⟩
 ·have c1:¬dW rv<0:=by unfold dW;rw[ar eh];split<;>omega
  rw[ar eh]at e1 e2
  rw[e1]at Mg
  rw[e2]at Mh
  simp[c1]
  refine jZ (Yky hWW kF (by omega) (by omega) Mg Mh oq' or' gz7 gt7 q7 r7 (by simp[r4]) (by simp[r5]) (by simp) (by simp)) ?_
  rintro e fr st ⟨rfl,r,rfl,p1,p2,p3,p4⟩
  simp[p1,p2]
  exact⟨p3,p4⟩
def Zth(hx:In h N x a)(hy:In h N y b)(hb:0<b)(la:wl a<10000000000)(lb:wl b<10000000000):Fn A.C 237 [x,y] h N (fun v h' n'=>∃q r,v=.bg [q,r]/\In h' n' q (a/b)/\In h' n' r (a%b)):=by
 intro w
 rw[aO,A.k237 (by simp)]
 obtain⟨n1,u1,rfl,o1⟩:=hx.cells
 obtain⟨n2,u2,rfl,o2⟩:=hy.cells
 have kk:=aP (aP (aP (aP (ab.refl (h:=h) (n:=N)) (.cells [.int .i64 n1,u1] 101 true)) (.cells [.int .i64 n2,u2] 101 true)) (.cells [.int .i64 0,.aa] 101 true)) (.cells [.int .i64 0,.aa] 101 true)
 have Of:=o2
 unfold V.one at o1 o2
 have go:∀r:T V,r.get 2=some (.ptr N 0)->r.get 3=some (.ptr (N+1) 0)->r.get 4=some (.ptr (N+2) 0)->r.get 5=some (.ptr (N+3) 0)->bH A.C [.fin [.cell 4 (some 2),.cell 5 (some 2)] ⟨h,N,w⟩] (eH (A.C.code none A.mR ⟨r,84,[]⟩ ⟨(((h.set N (.cells [.int .i64 n1,u1] 101 true)).set (N+1) (.cells [.int .i64 n2,u2] 101 true)).set (N+1+1) (.cells [.int .i64 0,.aa] 101 true)).set (N+1+1+1) (.cells [.int .i64 0,.aa] 101 true),N+1+1+1+1,[]⟩)) (Ci (az (fun v h' n'=>∃q r,v=.bg [q,r]/\In h' n' q (a/b)/\In h' n' r (a%b)) h N w)):=by
  intro r r2 r3 r4 r5
  refine jZ (Yoj (hx.ae kk) (hy.ae kk) hb la lb kk Of (by simp) (by simp) (by simp) (by simp) r2 r3 r4 r5) ?_
  rintro e fr ⟨h5,n5,w5⟩ ⟨rfl,r',rfl,Ji,r5',⟨hW,hK,n6,u6,g6,hi⟩,⟨_,_,n7,u7,g7,hi7⟩⟩
  simp only at hW hK g6 hi g7 hi7
  simp[Ji,r5',g6,g7,aS,aE,az,hW]
  exact⟨hK,_,_,⟨rfl,rfl⟩,hi,hi7⟩
 rcases id hx with⟨e1,s1,s2⟩|⟨i,o,l,c,e1,_⟩
 ·simp only[V.agg.injEq,iO,V.int.injEq,true_and,and_true]at e1
  obtain⟨rfl,rfl⟩:=e1
  rcases id hy with⟨e2,t1,t2⟩|⟨i,o,l,c,e2,_⟩
  ·simp only[V.agg.injEq,iO,V.int.injEq,true_and,and_true]at e2
   obtain⟨rfl,rfl⟩:=e2
   by_cases sZ:n1= -9223372036854775808
   ·simp[A.b237,aS,aI,sZ]
    subst sZ
    exact go _ (by simp) (by simp) (by simp) (by simp)
   ·have hz:¬n2=0:=by omega
    obtain⟨f1,f2⟩:=Zx9 (a:=n1) hb
    have b1:(n1.tdiv n2).natAbs<=n1.natAbs:=by rw[Int.natAbs_tdiv];exact uH _ _
    have b2:(n1.tmod n2).natAbs<=n1.natAbs:=by rw[Int.natAbs_tmod];exact Nat.mod_le _ _
    have b3:=Int.tmod_lt_of_pos n1 hb
    obtain⟨q,hq⟩:∃q,n1.tdiv n2=q:=⟨_,rfl⟩
    obtain⟨s,hs⟩:∃q,n1.tmod n2=q:=⟨_,rfl⟩
    rw[hq]at b1 f1
    rw[hs]at b2 b3 f1 f2
    have w1:bu .i64 q=q:=cF (by omega) (by omega)
    have d1:¬N=N+1:=by omega
    by_cases eh:s<0
    ·rw[aF eh]at f1 f2
     have w2:bu .i64 (s+n2)=s+n2:=cF (by omega) (by omega)
     have rO: -9223372036854775808<q:=by
      have:=Int.mul_tdiv_add_tmod n1 n2
      omega
     have w3:bu .i64 (q-1)=q-1:=cF (by omega) (by omega)
     simp[A.b237,aS,aE,ad,aI,sZ,hz,hq,hs,w1,w2,w3,eh,az,cA.cB]
     exact⟨(kk.set (by omega)).set (by omega),_,_,⟨rfl,rfl⟩,by rw[<-f1];exact In.small (by omega) (by omega),by rw[<-f2];exact In.small (by omega) (by omega)⟩
    ·rw[ar eh]at f1 f2
     simp[A.b237,aS,aE,ad,aI,sZ,hz,hq,hs,w1,eh,az,cA.cB]
     exact⟨(kk.set (by omega)).set (by omega),_,_,⟨rfl,rfl⟩,by rw[<-f1];exact In.small (by omega) (by omega),by rw[<-f2];exact In.small (by omega) (by omega)⟩
  ·simp only[V.agg.injEq,iO,V.int.injEq,true_and,and_true]at e2
   obtain⟨rfl,rfl⟩:=e2
   simp[A.b237,aS,aI]
   exact go _ (by simp) (by simp) (by simp) (by simp)
 ·simp only[V.agg.injEq,iO,V.int.injEq,true_and,and_true]at e1
  obtain⟨rfl,rfl⟩:=e1
  simp[A.b237,aS,aI,o2]
  exact go _ (by simp) (by simp) (by simp) (by simp)
def Yj6(hx:In h N x a)(hy:In h N y b)(hb:0<b)(la:wl a<10000000000)(lb:wl b<10000000000):Fn A.C 201 [x,y] h N (fun v h' n'=>In h' n' v (a/b)):=by
 intro w
 rw[aO,A.k201 (by simp)]
 obtain⟨n1,u1,rfl,o1⟩:=hx.cells
 obtain⟨n2,u2,rfl,o2⟩:=hy.cells
 have kk:=aP (aP (aP (ab.refl (h:=h) (n:=N)) (.cells [.int .i64 n1,u1] 101 true)) (.cells [.int .i64 n2,u2] 101 true)) (.cells [.int .i64 0,.aa] 101 true)
 have lI:=hx.ae kk
 have ve:=hy.ae kk
 have CM:=GQ ve
 unfold V.one at o1 o2
 have c1:¬dW b<0:=by unfold dW;rw[ar (by omega)];split<;>omega
 simp[A.b201,aS,aE,o1,o2]
 refine aA CM ?_
 rintro _ h1 m1 k1 rfl
 have fl:=k1.le
 have g0:=k1.get N (by omega)
 have g1:=k1.get (N+1) (by omega)
 have g2:=k1.get (N+1+1) (by omega)
 simp at g0 g1 g2
 simp[c1,g0,g1,aS,aE]
 refine aA (Zth (lI.ae k1) (ve.ae k1) hb la lb) ?_
 rintro _ h2 m2 k2 ⟨q,r,rfl,hq,hr⟩
 have gX:=k2.le
 have g22:=(k2.get (N+1+1) (by omega)).trans g2
 obtain⟨n3,u3,rfl,o3⟩:=hq.cells
 obtain⟨n4,u4,rfl,o4⟩:=hr.cells
 unfold V.one at o3 o4
 have d1:¬m2=m2+1:=by omega
 have d2:¬N+1+1=m2:=by omega
 have d3:¬N+1+1=m2+1:=by omega
 have ik:¬m2<N:=by omega
 have GZ:¬m2+1<N:=by omega
 have l9:¬N+1+1<N:=by omega
 have kE:=((aP (aP (ab.refl (h:=h2) (n:=m2)) (.cells [.int .i64 0,.aa] 101 true)) (.cells [.int .i64 0,.aa] 101 true)).set (i:=m2) (o:=.cells [.int .i64 n3,u3] 101 true) (aW _)).set (i:=m2+1) (o:=.cells [.int .i64 n4,u4] 101 true) (by omega)
 have g23:=(kE.get (N+1+1) (by omega)).trans g22
 have d4:¬N+1=m2:=by omega
 simp[g22,aS,aE,ad,bO,o3,o4,d2,d4,az,ik,GZ,l9]
 exact⟨(((kk.trans k1).trans k2).trans kE).set (by omega),(hq.ae kE).aK g23 (by simp) rfl⟩
structure P3 (h:T O) (N G m:Nat) (r:T V) (st:St):Prop where
 w:ax N st.w=[]
 ae:ab h N st.h st.n
 le:N+3<=st.n
 row:st.h.get (N+2)=some (.cells [.int .i64 0,.aa] 101 true)
 ex:∃(n1 n2:Int) (u1 u2:V) (p:Nat),st.h.get N=some (.cells [.int .i64 n1,u1] 101 true)/\st.h.get (N+1)=some (.cells [.int .i64 n2,u2] 101 true)/\In st.h st.n (.agg [.int .i64 n1,u1]) p/\In st.h st.n (.agg [.int .i64 n2,u2]) m/\Nat.gcd p m=G/\wl p<10000000000/\wl m<10000000000
def Yip{G:Nat}(a2:r0.get 2=some (.ptr N 0))(a3:r0.get 3=some (.ptr (N+1) 0)):
  ∀x r st,(∀t,jD [(5,6),(11,21)] t=false->r.get t=r0.get t)->Fx [(5,6),(11,21)] r0 23 ⟨r,23,[]⟩->P3 h N G x r st->Code A.C none A.qN ⟨r,23,[]⟩ st (Rd [(5,6),(11,21)] r0 23 (P3 h N G) x (fun e r st=>e=.exit 0/\P3 h N G 0 r st)):=by
 rintro m r ⟨H,n0,W⟩ hr hf ⟨hW,hK,hle,ak,n1,n2,u1,u2,p,g0,g1,hp,hm,hg,lp,lm⟩
 simp only at hW hK hle ak g0 g1 hp hm
 rw[bq]
 simp[A.qN,hr,a3,g1,aS,aE]
 refine aA (GQ hm) ?_
 rintro _ h1 m1 k1 rfl
 have fl:=k1.le
 have f0:=(k1.get N (by omega)).trans g0
 have f1:=(k1.get (N+1) (by omega)).trans g1
 have f2:=(k1.get (N+2) (by omega)).trans ak
 by_cases h0:m=0
 ·subst h0
  simp[hf,dW]
  exact⟨hW,hK.trans k1,by show N+3<=m1;omega,f2,n1,n2,u1,u2,p,f0,f1,hp.ae k1,hm.ae k1,hg,lp,lm⟩
 ·have c1:¬dW m=0:=by unfold dW;rw[ar (by omega),ar (by omega)];decide
  simp[hr,a2,a3,c1,f0,f1,aS,aE]
  refine aA (Zth (hp.ae k1) (hm.ae k1) (by omega) lp lm) ?_
  rintro _ h2 m2 k2 ⟨q,s,rfl,hq,hs⟩
  have gX:=k2.le
  have e0:=(k2.get N (by omega)).trans f0
  have e1:=(k2.get (N+1) (by omega)).trans f1
  have e2:=(k2.get (N+2) (by omega)).trans f2
  obtain⟨n3,u3,rfl,o3⟩:=hq.cells
  obtain⟨n4,u4,rfl,o4⟩:=hs.cells
  obtain⟨_,_,e5,o2⟩:=hm.cells
  simp only[V.agg.injEq,iO,V.int.injEq,true_and,and_true]at e5
  obtain⟨rfl,rfl⟩:=e5
  have Of:=o2
  unfold V.one at o3 o4 o2
  have kE:=((aP (aP (ab.refl (h:=h2) (n:=m2)) (.cells [.int .i64 0,.aa] 101 true)) (.cells [.int .i64 0,.aa] 101 true)).set (i:=m2) (o:=.cells [.int .i64 n3,u3] 101 true) (aW _)).set (i:=m2+1) (o:=.cells [.int .i64 n4,u4] 101 true) (by omega)
  have i0:=(kE.get N (by omega)).trans e0
  have i1:=(kE.get (N+1) (by omega)).trans e1
  have i2:=(kE.get (N+2) (by omega)).trans e2
  have d1:¬m2=m2+1:=by omega
  have d2:¬N=m2:=by omega
  have d3:¬N=m2+1:=by omega
  have d4:¬N+1=m2:=by omega
  have d5:¬N+1=m2+1:=by omega
  have d6:¬m2=N:=by omega
  have d7:¬m2+1=N:=by omega
  have d8:¬m2=N+1:=by omega
  have d9:¬m2+1=N+1:=by omega
  have d10:¬N=N+1:=by omega
  have l1:N<m2+1+1:=by omega
  have l2:N+1<m2+1+1:=by omega
  simp(disch:=first|(simp;done)|omega|(simp only[bI,cC,bD];omega)|rfl) [hr,a2,a3,e0,e1,aS,aE,ad,bO,o2,o3,o4,d2,d3,d4,l1,l2]
  rw[D9 (by simp[d2,d3]<;>omega)]
  simp[hf]
  have ik:¬m2<N:=by omega
  have GZ:¬m2+1<N:=by omega
  have q1:=((hm.ae k1).ae k2).ae kE
  have s1:=hs.ae kE
  have q2:=q1.aK (c1:=[.int .i64 n2,u2]) (e1:=101) (w1:=true) i0 hp.nu rfl
  have s2:=s1.aK (c1:=[.int .i64 n2,u2]) (e1:=101) (w1:=true) i0 hp.nu rfl
  have i3:(((((h2.set m2 (.cells [.int .i64 0,.aa] 101 true)).set (m2+1) (.cells [.int .i64 0,.aa] 101 true)).set m2 (.cells [.int .i64 n3,u3] 101 true)).set (m2+1) (.cells [.int .i64 n4,u4] 101 true)).set N (.cells [.int .i64 n2,u2] 101 true)).get (N+1)=some (.cells [.int .i64 n2,u2] 101 true):=by rw[T.ag,ar (by omega)];exact i1
  have q3:=q2.aK (c1:=[.int .i64 n4,u4]) (e1:=101) (w1:=true) i3 hm.nu rfl
  have s3:=s2.aK (c1:=[.int .i64 n4,u4]) (e1:=101) (w1:=true) i3 hm.nu rfl
  refine⟨p%m,kh _ (by omega),by simp[ax,hW,ik,GZ],((((hK.trans k1).trans k2).trans kE).set (aW _)).set (by omega),by show N+3<=m2+1+1;omega,?_,n2,n4,u2,u4,m,by simp,by simp,q3,?_,?_,lm,?_⟩
  ·rw[T.ag,ar (by omega),T.ag,ar (by omega)];exact i2
  ·rw[<-Int.natCast_emod]at s3;exact s3
  ·rw[<-hg,Nat.gcd_comm p m,Nat.gcd_rec m p,Nat.gcd_comm]
  ·have:=Ypw (a:=(p:Int)) (b:=(m:Int)) (by omega)
   rw[<-Int.natCast_emod]at this
   omega
def Ykr(hx:In h N x a)(hy:In h N y b)(la:wl a<10000000000)(lb:wl b<10000000000):Fn A.C 194 [x,y] h N (fun v h' n'=>In h' n' v (Int.gcd a b:Nat)):=by
 intro w
 rw[aO,A.k194 (by simp)]
 obtain⟨n1,u1,rfl,o1⟩:=hx.cells
 obtain⟨n2,u2,rfl,o2⟩:=hy.cells
 have kk:=aP (aP (aP (ab.refl (h:=h) (n:=N)) (.cells [.int .i64 n1,u1] 101 true)) (.cells [.int .i64 n2,u2] 101 true)) (.cells [.int .i64 0,.aa] 101 true)
 have lI:=hx.ae kk
 have ve:=hy.ae kk
 unfold V.one at o1 o2
 simp[A.b194,aS,aE,o1,o2]
 refine aA (Yk5 lI (by omega)) ?_
 rintro v1 h1 m1 k1 nK
 have fl:=k1.le
 have g1:=k1.get (N+1) (by omega)
 simp at g1
 have l1:N+1<m1:=by omega
 simp[g1,l1,aS,aE]
 refine aA (Yk5 (ve.ae k1) (by omega)) ?_
 rintro v2 h2 m2 k2 jt
 have GM:=nK.ae k2
 have k12:=k1.trans k2
 have gX:=k2.le
 obtain⟨n3,u3,rfl,o3⟩:=nK.cells
 obtain⟨n4,u4,rfl,o4⟩:=jt.cells
 unfold V.one at o3 o4
 have i0:=k12.get N (by omega)
 have i1:=k12.get (N+1) (by omega)
 have i2:=k12.get (N+1+1) (by omega)
 simp at i0 i1 i2
 have l2:N<m2:=by omega
 have l3:N+1<m2:=by omega
 have l4:N<m1:=by omega
 simp[i0,i1,ad,bO,o3,o4,l1,l2,l3,l4,cA.cB]
 have q1:=GM.aK (c1:=[.int .i64 n3,u3]) (e1:=101) (w1:=true) i0 hx.nu rfl
 have s1:=jt.aK (c1:=[.int .i64 n3,u3]) (e1:=101) (w1:=true) i0 hx.nu rfl
 have i3:(h2.set N (.cells [.int .i64 n3,u3] 101 true)).get (N+1)=some (.cells [.int .i64 n2,u2] 101 true):=by rw[T.ag,ar (by omega)];exact i1
 have q2:=q1.aK (c1:=[.int .i64 n4,u4]) (e1:=101) (w1:=true) i3 hy.nu rfl
 have s2:=s1.aK (c1:=[.int .i64 n4,u4]) (e1:=101) (w1:=true) i3 hy.nu rfl
 have wa:wl (a.natAbs:Int)=wl a:=by unfold wl;rw[dJ]
 have wb:wl (b.natAbs:Int)=wl b:=by unfold wl;rw[dJ]
 refine bP [(5,6),(11,21)] _ (P3 h N (Int.gcd a b)) b.natAbs ?_ (Yip (by simp) (by simp)) ?_
 ·refine⟨by simp[ax],((kk.trans k12).set (aW _)).set (by omega),by show N+3<=m2;omega,?_,n3,n4,u3,u4,a.natAbs,by simp,by simp,q2,s2,rfl,by rw[wa];exact la,by rw[wb];exact lb⟩
  rw[T.ag,ar (by omega),T.ag,ar (by omega)];exact i2
 rintro e r ⟨h5,m5,W5⟩ hr ⟨rfl,hW,hK,hle,ak,n5,n6,u5,u6,p,g5,g6,hp,hm,hg,lp,lm⟩
 simp only at hW hK hle ak g5 g6 hp hm
 obtain⟨_,_,e5,o5⟩:=hp.cells
 simp only[V.agg.injEq,iO,V.int.injEq,true_and,and_true]at e5
 obtain⟨rfl,rfl⟩:=e5
 unfold V.one at o5
 rw[Nat.gcd_zero_right]at hg
 have EA:h5.get (N+1+1)=some (.cells [.int .i64 0,.aa] 101 true):=ak
 have ik:¬N+1+1<N:=by omega
 simp[hr,g5,EA,aS,aE,ad,bO,o5,az,hW,ik]
 exact⟨hK.set (by omega),by rw[<-hg];exact hp.aK EA (by simp) rfl⟩
def A.b91:av:=sr [mc 4 0]
 (.seq (sr [mv 5 0]
 (cd 5
 (sr [mv 6 1,mv 4 6]
 (.ret))
 (.skip)))
 (sr [mc 4 0]
 (.ret)))
def A.c91:A.F 91=some ⟨7,[.tmp 4],A.b91⟩:=by kernel_rfl
def A.k91:=@A.kk 91 _ _ _ A.c91 rfl
def A.b193:av:=sr [mc 4 0]
 (.seq (sr [mv 5 0]
 (cd 5
 (sr [mv 6 1,mv 4 6]
 (.ret))
 (.skip)))
 (sr [mc 4 0]
 (.ret)))
def A.c193:A.F 193=some ⟨7,[.tmp 4],A.b193⟩:=by kernel_rfl
def A.k193:=@A.kk 193 _ _ _ A.c193 rfl
def Mm{b:Bool}{e:Int}{st:St}:A.C.call (.func 91 [] []) [.bool b,.int .i64 e] st=some (.int .i64 (if b=true then e else 0),st):=by
 apply Call.eq
 rw[aO,A.k91 (by simp)]
 cases b<;>simp[A.b91]
def Bi{b:Bool}{e:Int}{st:St}:A.C.call (.func 193 [] []) [.bool b,.int .i64 e] st=some (.int .i64 (if b=true then e else 0),st):=by
 apply Call.eq
 rw[aO,A.k193 (by simp)]
 cases b<;>simp[A.b193]
variable {s:aQ}
def A.b243:av:=sr [ge 4 (.ba (.const (.bool false)))]
 (sr [mv 5 0,ge 6 (.len 0 (tq 5)),mv 7 1,ge 8 (.len 0 (tq 7)),bi 9 .geq 6 8,mv 10 9,mg 11 0 10,mg 12 1 10,gy 13 10 (.len 0 (tq 12)),gy 14 10 (.aD (tq 11) none (some (tq 13))),mg 15 1 10,gy 16 10 (.bin .eql (.aM .str) false (tq 14) (tq 15)),pf 17 10 16,mv 4 17]
 (.ret))
def A.c243:A.F 243=some ⟨18,[.tmp 4],A.b243⟩:=by kernel_rfl
def A.k243:=@A.kk 243 _ _ _ A.c243 rfl
def A.b190:av:=sr [ge 4 (.ba (.const (.str []))),ge 5 (.ba (.const (.bool false)))]
 (sr [mv 6 0,mv 7 1,c2 8 234 6 7,xt 9 8 0,xt 10 8 1,mv 4 9,mv 5 10]
 (.ret))
def A.c190:A.F 190=some ⟨11,[.tmp 4,.tmp 5],A.b190⟩:=by kernel_rfl
def A.k190:=@A.kk 190 _ _ _ A.c190 rfl
def A.b234:av:=sr [ge 4 (.ba (.const (.str []))),ge 5 (.ba (.const (.bool false)))]
 (.seq (sr [mv 6 0,mv 7 1,c2 8 243 6 7,ge 9 (.un .not (tq 8))]
 (cd 9
 (sr [mv 10 0,mv 4 10,ge 5 (.ba (.const (.bool false)))]
 (.ret))
 (.skip)))
 (sr [mv 11 0,mv 12 1,ge 13 (.len 0 (tq 12)),ge 14 (.aD (tq 11) (some (tq 13)) none),mv 4 14,ge 5 (.ba (.const (.bool true)))]
 (.ret)))
def A.c234:A.F 234=some ⟨15,[.tmp 4,.tmp 5],A.b234⟩:=by kernel_rfl
def A.k234:=@A.kk 234 _ _ _ A.c234 rfl
def A.b207:av:=sr [ge 4 (.ba (.const (.str [])))]
 (sr [mv 5 0,mv 6 1,c2 7 244 5 6,mv 4 7]
 (.ret))
def A.c207:A.F 207=some ⟨8,[.tmp 4],A.b207⟩:=by kernel_rfl
def A.k207:=@A.kk 207 _ _ _ A.c207 rfl
def A.b244:av:=sr [ge 4 (.ba (.const (.str [])))]
 (.seq (sr [mv 5 0,mv 6 1,c2 7 243 5 6]
 (cd 7
 (sr [mv 8 0,mv 9 1,ge 10 (.len 0 (tq 9)),ge 11 (.aD (tq 8) (some (tq 10)) none),mv 4 11]
 (.ret))
 (.skip)))
 (sr [mv 12 0,mv 4 12]
 (.ret)))
def A.c244:A.F 244=some ⟨13,[.tmp 4],A.b244⟩:=by kernel_rfl
def A.k244:=@A.kk 244 _ _ _ A.c244 rfl
def A.b206:av:=sr [ge 4 (.ba (.const (.bool false)))]
 (sr [mv 5 0,mv 6 1,c2 7 243 5 6,mv 4 7]
 (.ret))
def A.c206:A.F 206=some ⟨8,[.tmp 4],A.b206⟩:=by kernel_rfl
def A.k206:=@A.kk 206 _ _ _ A.c206 rfl
def A.b266:av:=sr [mc 4 0]
 (sr [mv 5 0,mv 6 1,ge 7 (.ext .bM [tq 5,tq 6]),mv 4 7]
 (.ret))
def A.c266:A.F 266=some ⟨8,[.tmp 4],A.b266⟩:=by kernel_rfl
def A.k266:=@A.kk 266 _ _ _ A.c266 rfl
def A.CN:av:=.seq (sr [mv 57 8,mv 58 9,bi 59 .lss 57 58]
 (cd 59
 (.skip)
 (.exit 1)))
 (.block 2 (.seq (sr [mv 60 0,mv 61 8,ge 62 (.aZ (tq 60) (tq 61)),mv 63 6,ge 64 (.bin .neq (.aM .int) false (tq 62) (tq 63))]
 (cd 64
 (sr [mv 65 0,mv 66 8,bc 67 .add 66 1,mv 68 9,ge 69 (.aD (tq 65) (some (tq 67)) (some (tq 68))),mv 70 6,c2 71 266 69 70,mv 11 71]
 (.seq (sr [mv 72 11,bc 73 .lss 72 0]
 (cd 73
 (sr [ge 4 (.ba (.const (.int .i64 (-1))))]
 (.ret))
 (.skip)))
 (.aR [mv 74 8,mv 75 11,bc 76 .add 75 1,bi 77 .add 74 76,mv 8 77])))
 (.skip)))
 (.seq (sr [mv 78 0,mv 79 8,bc 80 .add 79 1,ge 81 (.aZ (tq 78) (tq 80)),mv 82 7,ge 83 (.bin .eql (.aM .int) false (tq 81) (tq 82)),mv 84 83,mg 85 0 84,mg 86 8 84,mg 87 8 84,mg 88 5 84,gy 89 84 (.bin .add (.node []) false (tq 87) (tq 88)),gy 90 84 (.aD (tq 85) (some (tq 86)) (some (tq 89))),mg 91 1 84,gy 92 84 (.bin .eql (.aM .str) false (tq 90) (tq 91)),pf 93 84 92]
 (cd 93
 (sr [mv 94 8,mv 4 94]
 (.ret))
 (.skip)))
 (sr [mv 95 8,bc 96 .add 95 1,mv 8 96]
 (sr [mv 97 10,bc 98 .add 97 1,mv 10 98]
 (sr [mv 99 5,ge 100 (.load none (.const (.ptr 0 0))),bi 101 .leq 99 100,mv 102 101,mg 103 10 102,mg 104 8 102,gy 105 102 (.call (fq 268) [tq 104]),gy 106 102 (.bin .gtr (.node []) false (tq 103) (tq 105)),pf 107 102 106]
 (cd 107
 (sr [mv 108 0,mv 109 8,ge 110 (.aD (tq 108) (some (tq 109)) none),mv 111 1,ge 112 (.stop),mv 12 112]
 (.seq (sr [mv 113 12,bc 114 .geq 113 0]
 (cd 114
 (sr [mv 115 12,mv 116 8,bi 117 .add 115 116,mv 4 117]
 (.ret))
 (.skip)))
 (sr [ge 4 (.ba (.const (.int .i64 (-1))))]
 (.ret))))
 (sr [mv 118 5,ge 119 (.load none (.const (.ptr 0 0))),bi 120 .gtr 118 119,mv 121 120,mg 122 10 121,mg 123 8 121,gy 124 121 (.bin .shr (.node []) false (tq 123) (.const (.int .u64 4))),gy 125 121 (.bin .add (.node []) false (kq 4) (tq 124)),gy 126 121 (.bin .geq (.node []) false (tq 122) (tq 125)),pf 127 121 126,mv 128 127,mg 129 8 128,mg 130 9 128,gy 131 128 (.bin .lss (.node []) false (tq 129) (tq 130)),pf 132 128 131]
 (cd 132
 (sr [mv 133 0,mv 134 8,ge 135 (.aD (tq 133) (some (tq 134)) none),mv 136 1,c2 137 269 135 136,mv 13 137]
 (.seq (sr [mv 138 13,bc 139 .lss 138 0]
 (cd 139
 (sr [ge 4 (.ba (.const (.int .i64 (-1))))]
 (.ret))
 (.skip)))
 (sr [mv 140 8,mv 141 13,bi 142 .add 140 141,mv 4 142]
 (.ret))))
 (.skip))))))))))
def A.b242:av:=sr [mc 4 0]
 (sr [mv 14 1,ge 15 (.len 0 (tq 14)),mv 5 15]
 (.seq (.block 0 (sr [mv 17 5,ei 18 17 0,mv 19 18,mh 20 1 19,mh 21 0 19,gz 22 19 (.bin .eql (.aM .str) false (tq 20) (tq 21)),pt 23 19 22,mv 16 23]
 (cd 16
 (sr [mc 4 0]
 (.ret))
 (sr [mv 25 5,ei 26 25 1,mv 24 26]
 (cd 24
 (sr [mv 27 0,mv 28 1,ge 29 (.aZ (tq 28) (kq 0)),c2 30 266 27 29,mv 4 30]
 (.ret))
 (sr [mv 32 5,mv 33 0,ge 34 (.len 0 (tq 33)),bi 35 .geq 32 34,mv 31 35]
 (cd 31
 (sr [ge 4 (.ba (.const (.int .i64 (-1))))]
 (.ret))
 (sr [mv 37 5,ge 38 (.load none (.const (.ptr 0 0))),bi 39 .leq 37 38,mv 40 39,mg 41 0 40,gy 42 40 (.len 0 (tq 41)),gy 43 40 (.bin .leq (.node []) false (tq 42) (kq 64)),pf 44 40 43,mv 36 44]
 (cd 36
 (sr [mv 45 0,mv 46 1,ge 47 (.stop),mv 4 47]
 (.ret))
 (.skip))))))))))
 (sr [mv 48 1,ge 49 (.aZ (tq 48) (kq 0)),mv 6 49]
 (sr [mv 50 1,ge 51 (.aZ (tq 50) (kq 1)),mv 7 51]
 (sr [mc 8 0]
 (sr [mv 52 0,ge 53 (.len 0 (tq 52)),mv 54 5,bi 55 .sub 53 54,bc 56 .add 55 1,mv 9 56]
 (sr [mc 10 0]
 (.seq (.block 1 (.loop A.CN))
 (sr [ge 4 (.ba (.const (.int .i64 (-1))))]
 (.ret))))))))))
def A.c242:A.F 242=some ⟨143,[.tmp 4],A.b242⟩:=by kernel_rfl
def A.k242:=@A.kk 242 _ _ _ A.c242 rfl
def A.b205:av:=sr [ge 4 (.ba (.const (.str []))),ge 5 (.ba (.const (.str []))),ge 6 (.ba (.const (.bool false)))]
 (.seq (sr [mv 8 0,mv 9 1,c2 10 242 8 9,mv 7 10]
 (sr [mv 11 7,bc 12 .geq 11 0]
 (cd 12
 (.seq (.aX [mv 13 0,mv 14 7,ge 15 (.aD (tq 13) none (some (tq 14))),mv 16 0,mv 17 7,mv 18 1,ge 19 (.len 0 (tq 18)),bi 20 .add 17 19,ge 21 (.aD (tq 16) (some (tq 20)) none),mv 4 15,mv 5 21,ge 6 (.ba (.const (.bool true)))] [0,0,3,0,0,0,32,112,248,7,1023,2047])
 (.ret))
 (.skip))))
 (sr [mv 22 0,mv 4 22,ge 5 (.ba (.const (.str []))),ge 6 (.ba (.const (.bool false)))]
 (.ret)))
def A.c205:A.F 205=some ⟨23,[.tmp 4,.tmp 5,.tmp 6],A.b205⟩:=by kernel_rfl
def A.k205:=@A.kk 205 _ _ _ A.c205 rfl
def A.b149:av:=sr [ge 4 (.ba (.const (.str []))),ge 5 (.ba (.const (.str []))),ge 6 (.ba (.const (.bool false)))]
 (sr [mv 7 0,mv 8 1,c2 9 205 7 8,xt 10 9 0,xt 11 9 1,xt 12 9 2,mv 4 10,mv 5 11,mv 6 12]
 (.ret))
def A.c149:A.F 149=some ⟨13,[.tmp 4,.tmp 5,.tmp 6],A.b149⟩:=by kernel_rfl
def A.k149:=@A.kk 149 _ _ _ A.c149 rfl
def Mn{s:aQ}{st:St}:A.C.call (.func 243 [] []) [.str s,.str [45]] st=some (.bool (cI s),st):=by
 apply Call.eq
 rw[aO,A.k243 (by simp)]
 cases s with
 |nil=>simp[A.b243,cI]
 |cons c s=>
  have e:(([c]:aQ)==[45])=decide (c.toNat=45):=by
   rw[Bool.eq_iff_iff]
   simp only[beq_iff_eq,decide_eq_true_eq,iO,and_true]
   exact⟨fun h=>by rw[h];rfl,fun h=>UInt8.toNat_inj.1 h⟩
  have h1:(1:Int)<=(s.length:Int)+1:=by omega
  simp[A.b243,cI,aC,e,h1]
def Ztl{st:St}:A.C.call (.func 190 [] []) [.str s,.str [45]] st=some (.bg [.str (bC s),.bool (cI s)],st):=by
 apply Call.eq
 rw[aO,A.k190 (by simp)]
 simp[A.b190]
 rw[A.k234 (by simp)]
 by_cases hn:cI s=true
 ·have h1:1<=s.length:=by cases s<;>simp[cI]at hn ⊢
  have fH:(1:Int)<=s.length:=by omega
  simp[A.b234,Mn,hn,aC,fH,bC]
 ·simp[A.b234,Mn,hn,bC]
def Zj1{st:St}:A.C.call (.func 207 [] []) [.str s,.str [45]] st=some (.str (bC s),st):=by
 apply Call.eq
 rw[aO,A.k207 (by simp)]
 simp[A.b207]
 rw[A.k244 (by simp)]
 by_cases hn:cI s=true
 ·have h1:1<=s.length:=by cases s<;>simp[cI]at hn ⊢
  have fH:(1:Int)<=s.length:=by omega
  simp[A.b244,Mn,hn,aC,fH,bC]
 ·simp[A.b244,Mn,hn,bC]
def Zs6{st:St}:A.C.call (.func 206 [] []) [.str s,.str [45]] st=some (.bool (cI s),st):=by
 apply Call.eq
 rw[aO,A.k206 (by simp)]
 simp[A.b206,Mn]
def Zs5{st:St}:A.C.call (.func 266 [] []) [.str s,.int .u8 47] st=some (.int .i64 (if ah s<s.length then (ah s:Int) else -1),st):=by
 apply Call.eq
 rw[aO,A.k266 (by simp)]
 have e:=Zko s 0
 simp only[xJ]at e
 simp[A.b266,GD,BU,e]
def Zxa{st:St}:A.C.call (.func 242 [] []) [.str s,.str [47]] st=some (.int .i64 (if ah s<s.length then (ah s:Int) else -1),st):=by
 apply Call.eq
 rw[aO,A.k242 (by simp)]
 by_cases hs:s=[47]
 ·subst hs
  simp[A.b242,ah]
 ·have e1:(([47]:aQ)==s)=false:=by simp;exact fun h=>hs h.symm
  have e2:cK 47=47:=rfl
  simp[A.b242,Zs5,e1,e2]
def Yk0{st:St}(hl:s.length<4611686018427387904):A.C.call (.func 149 [] []) [.str s,.str [47]] st=some (.bg [.str (s.take (ah s)),.str (s.drop (ah s+1)),.bool (decide (ah s<s.length))],st):=by
 apply Call.eq
 rw[aO,A.k149 (by simp)]
 simp[A.b149]
 rw[A.k205 (by simp)]
 have hle:=Ee s
 by_cases hs:ah s<s.length
 ·simp(disch:=first|(simp;done)|omega|(simp only[bI,cC,bD];omega)|rfl) [A.b205,Zxa,hs,aC]
  try omega
 ·have:s.take (ah s)=s:=eZ (by omega)
  have h2:s.drop (ah s+1)=[]:=yd (by omega)
  simp(disch:=first|(simp;done)|omega|(simp only[bI,cC,bD];omega)|rfl) [-getElem?_pos,A.b205,Zxa,hs,this,h2]
end Go.Mx
