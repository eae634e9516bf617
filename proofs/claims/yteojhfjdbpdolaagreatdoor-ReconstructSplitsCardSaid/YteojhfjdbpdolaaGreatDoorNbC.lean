/-num-/
import Derived.Test.YteojhfjdbpdolaaGreatDoorRcM
set_option linter.all false
namespace Go.Mx
noncomputable section
open Go Go.Proofs
variable {N:Nat} {a b:Int} {h:T O} {r0:T V} {x y:V}
set_option maxHeartbeats 2000000
set_option maxRecDepth 1000000
def A.rG:bU:=.seq (.du [lN 82 2 14,lN 83 2 15,gn (.store 2 (tq 4) (tq 82)),gn (.store 2 (tq 5) (tq 83))] [0,0,1,7])
 (.ret)
def A.nb:bU:=sr [lN 52 2 2,c1 53 192 52,mv 51 53,xt 54 51 0,xt 55 51 1,mv 8 54,mv 9 55]
 (sr [lN 57 2 3,c1 58 192 57,mv 56 58,xt 59 56 0,xt 60 56 1,mv 10 59,mv 11 60]
 (sr [mv 62 9,mv 63 11,c2 64 208 62 63,mv 61 64,xt 65 61 0,xt 66 61 1,mv 12 65,mv 13 66]
 (sr [mv 67 8,mv 68 12,c2 69 193 67 68,mv 70 8,mv 71 13,c2 72 193 70 71,ge 14 (.alloc [.int .i64 0,.aa] 87),ge 15 (.alloc [.int .i64 0,.aa] 87),gn (.store 2 (tq 14) (tq 69)),gn (.store 2 (tq 15) (tq 72))]
 (.seq (sr [lN 73 2 15,c1 74 166 73,bc 75 .lss 74 0]
 (cd 75
 (.du [lN 76 2 14,ge 77 (.call (fq 162) [.const (.int .i64 1)]),c2 78 219 76 77,lN 79 2 15,lN 80 2 3,c2 81 145 79 80,gn (.store 2 (tq 14) (tq 78)),gn (.store 2 (tq 15) (tq 81))] [0,0,3,0,0,31,63,127])
 (.skip)))
 A.rG))))
def A.b218:bU:=sr [bx 2 87 0,bx 3 87 1,ge 4 (.alloc [.int .i64 0,.aa] 87),ge 5 (.alloc [.int .i64 0,.aa] 87)]
 (.seq (sr [fa 16 1 2,ld 17 16,ge 18 (.bin .eql (.bX .slice) true (tq 17) (.const .aa)),mv 19 18,gy 20 19 (.iP 1 (tq 3)),gy 21 19 (.load none (tq 20)),gy 22 19 (.bin .eql (.bX .slice) true (tq 21) (.const .aa)),pf 23 19 22,mv 24 23,gy 25 24 (.iP 0 (tq 2)),gy 26 24 (.load none (tq 25)),gy 27 24 (.bin .neq (.bX .int) true (tq 26) (.const (.int .i64 (-9223372036854775808)))),pf 28 24 27]
 (cd 28
 (.seq (.du [fa 29 0 2,ld 30 29,fa 31 0 3,ld 32 31,bi 33 .quo 30 32,fa 34 0 2,ld 35 34,fa 36 0 3,ld 37 36,bi 38 .rem 35 37,mv 6 33,mv 7 38] [0,1,0,4,15,0,32,0,128,480,31,2047])
 (.seq (sr [mv 39 7,bc 40 .lss 39 0]
 (cd 40
 (.du [mv 41 6,bc 42 .sub 41 1,mv 43 7,fa 44 0 3,ld 45 44,bi 46 .add 43 45,mv 6 42,mv 7 46] [0,1,0,0,8,28,3,127])
 (.skip)))
 (sr [mv 47 6,ge 48 (.build [.int .i64 0,.aa] [(0,1,(tq 47))]),mv 49 7,ge 50 (.build [.int .i64 0,.aa] [(0,1,(tq 49))]),gn (.store 2 (tq 4) (tq 48)),gn (.store 2 (tq 5) (tq 50))]
 (.ret))))
 (.skip)))
 A.nb)
def A.k218:=@A.kk 218 84 [.cell 4 (some 2),.cell 5 (some 2)] A.b218 (by kernel_rfl) rfl
def A.b197:=A.q Tryz.f197
def A.k197:=@A.kk 197 21 [.cell 4 (some 2)] A.b197 (by kernel_rfl) rfl
def A.Nb:=A.q Tryz.f176
def A.rI:=A.ql A.Nb 0 []
def A.b176:=(fun x0=>A.qb A.Nb [x0]) A.rI
def A.k176:=@A.kk 176 23 [.cell 4 (some 2)] A.b176 (by kernel_rfl) rfl
def Zzv(hb:0<b):(if a.tmod b<0 then a.tdiv b-1 else a.tdiv b)=a/b/\(if a.tmod b<0 then a.tmod b+b else a.tmod b)=a%b:=by
 have h1:=Int.mul_tdiv_add_tmod a b
 have h2:=Int.tmod_lt_of_pos a hb
 have h3: -b<a.tmod b:=by
  have:=Int.tmod_lt_of_pos (-a) hb
  rw[Int.neg_tmod]at this
  omega
 have key:∀q r:Int,b*q+r=a->0<=r->r<b->q=a/b/\r=a%b:=by
  intro q r e r0 r1
  have:=(Int.ediv_emod_unique hb (r:=r) (q:=q) (a:=a)).2 ⟨by omega,r0,r1⟩
  exact⟨this.1.symm,this.2.symm⟩
 by_cases h:a.tmod b<0
 ·rw[av h,av h]
  exact key _ _ (by rw[Int.mul_sub];omega) (by omega) (by omega)
 ·rw[ak h,ak h]
  exact key _ _ (by omega) (by omega) h2
def Yhk(hb:0<b):∀q r:Int,q=(if decide (a<0)=true then -((a.natAbs/b.natAbs:Nat):Int) else (a.natAbs/b.natAbs:Nat))->r=(if decide (a<0)=true then -((a.natAbs%b.natAbs:Nat):Int) else (a.natAbs%b.natAbs:Nat))->(if r<0 then q-1 else q)=a/b/\(if r<0 then r+b else r)=a%b:=by
 intro q r hq hr
 have h1:=uo a.natAbs b.natAbs
 have h2:=kO a.natAbs (show 0<b.natAbs by omega)
 have hbe:(b.natAbs:Int)=b:=by omega
 have fI:b*((a.natAbs/b.natAbs:Nat):Int)+((a.natAbs%b.natAbs:Nat):Int)=a.natAbs:=by
  rw[<-hbe,<-Jf,<-Int.natCast_add,dR,h1]
 have key:∀q r:Int,b*q+r=a->0<=r->r<b->q=a/b/\r=a%b:=by
  intro q r e r0 r1
  have:=(Int.ediv_emod_unique hb (r:=r) (q:=q) (a:=a)).2 ⟨by omega,r0,r1⟩
  exact⟨this.1.symm,this.2.symm⟩
 generalize a.natAbs/b.natAbs=Q at*
 generalize a.natAbs%b.natAbs=R at*
 by_cases ha:a<0
 ·simp only[ha,decide_true,if_true]at hq hr
  subst hq hr
  by_cases h: -(R:Int)<0
  ·rw[av h,av h]
   exact key _ _ (by rw[Int.mul_sub,Int.mul_neg];omega) (by omega) (by omega)
  ·rw[ak h,ak h]
   exact key _ _ (by rw[Int.mul_neg];omega) (by omega) (by omega)
 ·simp only[ha,decide_false,fH,if_false]at hq hr
  subst hq hr
  rw[ak (by omega),ak (by omega)]
  exact key _ _ (by omega) (by omega) (by omega)
def Yr0(hb:0<b):wl (a%b)<=wl b:=by
 apply HH
 have h1:=D9 a hb
 have h2:=Eb a (show b≠0 by omega)
 omega
def Zqz{c:Bool}{n:Nat}:(if c=true then -(n:Int) else (n:Int)).natAbs=n:=by split<;>omega
def Ym0{H:T O}{n m:Nat}{nq nr q s:Int}{uq ur:V}{W:List Nat}(hW:ax N W=[])(hK:ab h N H n)(hm:N+4<=m)(Vh:m+1<n)(hq:In H n (.agg [.int .i64 nq,uq]) q)(hr:In H n (.agg [.int .i64 nr,ur]) s)(oq:V.one uq=true)(or:V.one ur=true)
  (gz:H.get (N+2)=some (.cells [.int .i64 0,.aa] 87 true)) (gt:H.get (N+3)=some (.cells [.int .i64 0,.aa] 87 true)) (gq:H.get m=some (.cells [.int .i64 nq,uq] 87 true)) (gr:H.get (m+1)=some (.cells [.int .i64 nr,ur] 87 true))
  (r4:r0.get 4=some (.ptr (N+2) 0)) (r5:r0.get 5=some (.ptr (N+3) 0)) (JY:r0.get 14=some (.ptr m 0)) (r15:r0.get 15=some (.ptr (m+1) 0)):
  Code A.C none A.rG ⟨r0,84,[]⟩ ⟨H,n,W⟩ (fun e fr st=>e=.ret/\∃r,fr=⟨r,84,[]⟩/\r.get 4=some (.ptr (N+2) 0)/\r.get 5=some (.ptr (N+3) 0)/\HJ h N (N+2) q st/\HJ h N (N+3) s st):=by
 have n1:m<n:=by omega
 have n2:N+2<n:=by omega
 have n3:N+3<n:=by omega
 have d1:¬m=N+2:=by omega
 have d2:¬m=N+3:=by omega
 have d3:¬N+2=m:=by omega
 have d4:¬N+3=m:=by omega
 have d5:¬N+2=m+1:=by omega
 have d6:¬N+3=m+1:=by omega
 have d7:¬m+1=N+2:=by omega
 have d8:¬m+1=N+3:=by omega
 have d9:¬N+3=N+2:=by omega
 have d10:¬N+2=N+3:=by omega
 rw[bl]
 have k1:=(hK.set (i:=N+2) (o:=.cells [.int .i64 nq,uq] 87 true) (by omega)).set (i:=N+3) (o:=.cells [.int .i64 nr,ur] 87 true) (by omega)
 have jo:=(hq.aK (c1:=[.int .i64 nq,uq]) (e1:=87) (w1:=true) gz (by simp) rfl)
 have cZ:=(hr.aK (c1:=[.int .i64 nq,uq]) (e1:=87) (w1:=true) gz (by simp) rfl)
 have gt2:(H.set (N+2) (.cells [.int .i64 nq,uq] 87 true)).get (N+3)=some (.cells [.int .i64 0,.aa] 87 true):=by rw[T.ag,ak d9];exact gt
 have YU:=(jo.aK (c1:=[.int .i64 nr,ur]) (e1:=87) (w1:=true) gt2 (by simp) rfl)
 have MP:=(cZ.aK (c1:=[.int .i64 nr,ur]) (e1:=87) (w1:=true) gt2 (by simp) rfl)
 have eH:ax N ((N+3)::(N+2)::W)=[]:=by simp[ax,hW]
 unfold V.one at oq or
 simp(disch:=omega) [A.rG,r4,r5,JY,r15,gz,gt,gq,gr,n1,n2,n3,Vh,d1,d2,d3,d4,d5,d6,d7,d8,d9,d10,oq,or,aO,aF,ad,bC,ct.cv]
 rw[IX (by simp[d1,d2,d3,d4,d5,d6,d7,d8,d9,d10]<;>omega)]
 simp[r4,r5]
 exact⟨⟨eH,k1,nq,uq,by simp,YU⟩,⟨eH,k1,nr,ur,by simp,MP⟩⟩
def Yqq{H:T O}{n1 n2:Int}{u1 u2:V}(hx:In H (N+4) (.agg [.int .i64 n1,u1]) a)(hy:In H (N+4) (.agg [.int .i64 n2,u2]) b)(hb:0<b)(la:wl a<10000000000)(lb:wl b<10000000000)(hK:ab h N H (N+4))(oy:V.one u2=true)
  (gx:H.get N=some (.cells [.int .i64 n1,u1] 87 true)) (gy:H.get (N+1)=some (.cells [.int .i64 n2,u2] 87 true)) (gz:H.get (N+2)=some (.cells [.int .i64 0,.aa] 87 true)) (gt:H.get (N+3)=some (.cells [.int .i64 0,.aa] 87 true)) (r2:r0.get 2=some (.ptr N 0)) (r3:r0.get 3=some (.ptr (N+1) 0)) (r4:r0.get 4=some (.ptr (N+2) 0)) (r5:r0.get 5=some (.ptr (N+3) 0)):
  Code A.C none A.nb ⟨r0,84,[]⟩ ⟨H,N+4,[]⟩ (fun e fr st=>e=.ret/\∃r,fr=⟨r,84,[]⟩/\r.get 4=some (.ptr (N+2) 0)/\r.get 5=some (.ptr (N+3) 0)/\HJ h N (N+2) (a/b) st/\HJ h N (N+3) (a%b) st):=by
 rw[bl]
 simp[A.nb,r2,gx,aO,aF]
 refine aA (Dd hx) ?_
 rintro _ h1 N1 k1 ⟨ua,rfl,Nc⟩
 have fu:=k1.le
 have Nd:=(k1.get (N+1) (by omega)).trans gy
 simp[r3,Nd,aO,aF]
 refine aA (Dd (hy.ae k1)) ?_
 rintro _ h2 N2 k2 ⟨ub,rfl,HK⟩
 have gY:=k2.le
 have vW:=Nc.ae k2
 have Fb:(aJ a.natAbs).length<10000000000:=la
 have RG:(aJ b.natAbs).length<10000000000:=lb
 simp[]
 refine aA (Zue vW HK (by omega) (by omega) (by omega)) ?_
 rintro _ h3 N3 k3 ⟨q,r,rfl,hq,hr⟩
 simp[]
 have lq:=EW (vk a.natAbs b.natAbs)
 have lr:=EW (Nat.mod_le a.natAbs b.natAbs)
 refine aA (EX hq (by omega)) ?_
 rintro vq h4 N4 k4 Dj
 simp[]
 refine aA (EX (hr.ae k4) (by omega)) ?_
 rintro vr h5 N5 k5 IM
 have kA:=(((k1.trans k2).trans k3).trans k4).trans k5
 have zaJ:=kA.le
 have YV:=Dj.ae k5
 have gy5:=(kA.get (N+1) (by omega)).trans gy
 have gz5:=(kA.get (N+2) (by omega)).trans gz
 have gt5:=(kA.get (N+3) (by omega)).trans gt
 obtain⟨qv,Hv⟩:∃q,(if decide (a<0)=true then -((a.natAbs/b.natAbs:Nat):Int) else (a.natAbs/b.natAbs:Nat))=q:=⟨_,rfl⟩
 obtain⟨rv,yN⟩:∃q,(if decide (a<0)=true then -((a.natAbs%b.natAbs:Nat):Int) else (a.natAbs%b.natAbs:Nat))=q:=⟨_,rfl⟩
 rw[Hv]at YV
 rw[yN]at IM
 obtain⟨e1,e2⟩:=Yhk hb qv rv Hv.symm yN.symm
 have wq:wl qv<20000000000:=by
  have:qv.natAbs=a.natAbs/b.natAbs:=by rw[<-Hv];exact Zqz
  unfold wl;rw[this];omega
 have wr:wl rv<20000000000:=by
  have:rv.natAbs=a.natAbs%b.natAbs:=by rw[<-yN];exact Zqz
  unfold wl;rw[this];omega
 obtain⟨nq,uq,rfl,oq⟩:=YV.cells
 obtain⟨nr,ur,rfl,or⟩:=IM.cells
 have kB:=fun o1 o2=>aN (aN (ab.refl (h:=h5) (n:=N5)) o1) o2
 have oq':=oq
 have or':=or
 unfold V.one at oq or oy
 have d1:¬N5=N5+1:=by omega
 have gq6:(((h5.set N5 (.cells [.int .i64 0,.aa] 87 true)).set (N5+1) (.cells [.int .i64 0,.aa] 87 true)).set N5 (.cells [.int .i64 nq,uq] 87 true)).get N5=some (.cells [.int .i64 nq,uq] 87 true):=by simp
 simp[oq,or,ad,bC,aO,aF]
 have kC:=((kB (.cells [.int .i64 0,.aa] 87 true) (.cells [.int .i64 0,.aa] 87 true)).set (i:=N5) (o:=.cells [.int .i64 nq,uq] 87 true) (aM _)).set (i:=N5+1) (o:=.cells [.int .i64 nr,ur] 87 true) (by omega)
 generalize hH6:(((h5.set N5 (.cells [.int .i64 0,.aa] 87 true)).set (N5+1) (.cells [.int .i64 0,.aa] 87 true)).set N5 (.cells [.int .i64 nq,uq] 87 true)).set (N5+1) (.cells [.int .i64 nr,ur] 87 true)=H6 at*
 have q6:H6.get N5=some (.cells [.int .i64 nq,uq] 87 true):=by rw[<-hH6];simp
 have r6:H6.get (N5+1)=some (.cells [.int .i64 nr,ur] 87 true):=by rw[<-hH6];simp
 have Nf:=YV.ae kC
 have hr6:=IM.ae kC
 have gy6:=(kC.get (N+1) (by omega)).trans gy5
 have gz6:=(kC.get (N+2) (by omega)).trans gz5
 have gt6:=(kC.get (N+3) (by omega)).trans gt5
 refine aA (Hy hr6) ?_
 rintro _ h7 N7 k7 rfl
 have zaK:=k7.le
 have q7:=(k7.get N5 (by omega)).trans q6
 have r7:=(k7.get (N5+1) (by omega)).trans r6
 have gy7:=(k7.get (N+1) (by omega)).trans gy6
 have gz7:=(k7.get (N+2) (by omega)).trans gz6
 have gt7:=(k7.get (N+3) (by omega)).trans gt6
 have Ng:=Nf.ae k7
 have Nh:=hr6.ae k7
 have kF:=((hK.trans kA).trans kC).trans k7
 have ij:¬N5<N:=by omega
 have mq:¬N5+1<N:=by omega
 have hWW:ax N [N5+1,N5]=[]:=by simp[ax,ij,mq]
 by_cases eC:rv<0
 ·have c1:eF rv<0:=by simp[eF,eC]
  rw[av eC]at e1 e2
  have hn7:N5<N7:=by omega
  have zaL:N5+1<N7:=by omega
  have hny:N+1<N7:=by omega
  simp[c1,r3,q7,r7,gy7,aO,aF,ad,hn7]
  refine aA Hx ?_
  rintro _ h8 N8 k8 rfl
  simp[]
  refine aA (Ylw (Ng.ae k8) (In.small (z:=1) (by omega) (by omega)) (by omega) (by decide+kernel)) ?_
  rintro vq9 h9 N9 k9 hq9
  have k89:=k8.trans k9
  have r9:=(k89.get (N5+1) (by omega)).trans r7
  have y9:=(k89.get (N+1) (by omega)).trans gy7
  have hr9:=Nh.ae k89
  have hb9:In h9 N9 (.agg [.int .i64 n2,u2]) b:=(((((hy.ae k1).ae k2).ae k3).ae k4).ae k5 |>.ae kC |>.ae k7).ae k89
  have zat:=k89.le
  have z1:N5+1<N9:=by omega
  have z2:N+1<N9:=by omega
  simp[r3,r9,y9,aO,aF,ad,z1,z2]
  refine aA (Ni hr9 hb9 (by omega) (by omega)) ?_
  rintro zaM fF N10 k10 Nj
  have zau:=k10.le
  have Nk:=hq9.ae k10
  obtain⟨RH,RI,rfl,YW⟩:=Nk.cells
  obtain⟨YX,YY,rfl,YZ⟩:=Nj.cells
  have Y0:=(k10.get N5 (by omega)).trans ((k89.get N5 (by omega)).trans q7)
  have tO:=(k10.get (N5+1) (by omega)).trans r9
  have SL:=(k10.get (N+2) (by omega)).trans ((k89.get (N+2) (by omega)).trans gz7)
  have t10:=(k10.get (N+3) (by omega)).trans ((k89.get (N+3) (by omega)).trans gt7)
  have Y3:=YW
  have Y4:=YZ
  unfold V.one at YW YZ
  have z3:N5<N10:=by omega
  have z4:N5+1<N10:=by omega
  simp[Y0,tO,YW,YZ,ad,bC,z3,z4]
  have q11:=Nk.aK (c1:=[.int .i64 RH,RI]) (e1:=87) (w1:=true) Y0 Ng.nu rfl
  have vX:=Nj.aK (c1:=[.int .i64 RH,RI]) (e1:=87) (w1:=true) Y0 Ng.nu rfl
  have Nl:(fF.set N5 (.cells [.int .i64 RH,RI] 87 true)).get (N5+1)=some (.cells [.int .i64 nr,ur] 87 true):=by rw[T.ag,ak (by omega)];exact tO
  have q12:=q11.aK (c1:=[.int .i64 YX,YY]) (e1:=87) (w1:=true) Nl Nh.nu rfl
  have HL:=vX.aK (c1:=[.int .i64 YX,YY]) (e1:=87) (w1:=true) Nl Nh.nu rfl
  rw[e1]at q12
  rw[e2]at HL
  have kG:=(((kF.trans k89).trans k10).set (i:=N5) (o:=.cells [.int .i64 RH,RI] 87 true) (by omega)).set (i:=N5+1) (o:=.cells [.int .i64 YX,YY] 87 true) (by omega)
  refine jy (Ym0 (m:=N5) (by simp[ax,ij,mq]) kG (by omega) (by omega) q12 HL Y3 Y4 (by rw[T.ag,ak (by omega),T.ag,ak (by omega)];exact SL) (by rw[T.ag,ak (by omega),T.ag,ak (by omega)];exact t10) (by simp) (by simp) (by simp[r4]) (by simp[r5]) (by simp) (by simp)) ?_
  rintro e fr st ⟨rfl,r,rfl,p1,p2,p3,p4⟩
  simp[p1,p2]
  exact⟨p3,p4⟩
 ·have c1:¬eF rv<0:=by unfold eF;rw[ak eC];split<;>omega
  rw[ak eC]at e1 e2
  rw[e1]at Ng
  rw[e2]at Nh
  simp[c1]
  refine jy (Ym0 hWW kF (by omega) (by omega) Ng Nh oq' or' gz7 gt7 q7 r7 (by simp[r4]) (by simp[r5]) (by simp) (by simp)) ?_
  rintro e fr st ⟨rfl,r,rfl,p1,p2,p3,p4⟩
  simp[p1,p2]
  exact⟨p3,p4⟩
def Zug(hx:In h N x a)(hy:In h N y b)(hb:0<b)(la:wl a<10000000000)(lb:wl b<10000000000):Fn A.C 218 [x,y] h N (fun v h' n'=>∃q r,v=.aX [q,r]/\In h' n' q (a/b)/\In h' n' r (a%b)):=by
 intro w
 rw[aR,A.k218 (by simp)]
 obtain⟨n1,u1,rfl,o1⟩:=hx.cells
 obtain⟨n2,u2,rfl,o2⟩:=hy.cells
 have kk:=aN (aN (aN (aN (ab.refl (h:=h) (n:=N)) (.cells [.int .i64 n1,u1] 87 true)) (.cells [.int .i64 n2,u2] 87 true)) (.cells [.int .i64 0,.aa] 87 true)) (.cells [.int .i64 0,.aa] 87 true)
 have PI:=o2
 unfold V.one at o1 o2
 have go:∀r:T V,r.get 2=some (.ptr N 0)->r.get 3=some (.ptr (N+1) 0)->r.get 4=some (.ptr (N+2) 0)->r.get 5=some (.ptr (N+3) 0)->bG A.C [.fin [.cell 4 (some 2),.cell 5 (some 2)] ⟨h,N,w⟩] (fj (A.C.code none A.nb ⟨r,84,[]⟩ ⟨(((h.set N (.cells [.int .i64 n1,u1] 87 true)).set (N+1) (.cells [.int .i64 n2,u2] 87 true)).set (N+1+1) (.cells [.int .i64 0,.aa] 87 true)).set (N+1+1+1) (.cells [.int .i64 0,.aa] 87 true),N+1+1+1+1,[]⟩)) (CV (aE (fun v h' n'=>∃q r,v=.aX [q,r]/\In h' n' q (a/b)/\In h' n' r (a%b)) h N w)):=by
  intro r r2 r3 r4 r5
  refine jy (Yqq (hx.ae kk) (hy.ae kk) hb la lb kk PI (by simp) (by simp) (by simp) (by simp) r2 r3 r4 r5) ?_
  rintro e fr ⟨h5,n5,w5⟩ ⟨rfl,r',rfl,Nm,r5',⟨hW,hK,n6,u6,g6,hi⟩,⟨_,_,n7,u7,g7,hi7⟩⟩
  simp only at hW hK g6 hi g7 hi7
  simp[Nm,r5',g6,g7,aO,aF,aE,hW]
  exact⟨hK,_,_,⟨rfl,rfl⟩,hi,hi7⟩
 rcases id hx with⟨e1,s1,s2⟩|⟨i,o,l,c,e1,_⟩
 ·simp only[V.agg.injEq,iQ,V.int.injEq,true_and,and_true]at e1
  obtain⟨rfl,rfl⟩:=e1
  rcases id hy with⟨e2,t1,t2⟩|⟨i,o,l,c,e2,_⟩
  ·simp only[V.agg.injEq,iQ,V.int.injEq,true_and,and_true]at e2
   obtain⟨rfl,rfl⟩:=e2
   by_cases tB:n1= -9223372036854775808
   ·simp[A.b218,aO,aF,ad,aG,tB]
    subst tB
    exact go _ (by simp) (by simp) (by simp) (by simp)
   ·have hz:¬n2=0:=by omega
    obtain⟨f1,f2⟩:=Zzv (a:=n1) hb
    have b1:(n1.tdiv n2).natAbs<=n1.natAbs:=by rw[Int.natAbs_tdiv];exact vk _ _
    have b2:(n1.tmod n2).natAbs<=n1.natAbs:=by rw[Int.natAbs_tmod];exact Nat.mod_le _ _
    have b3:=Int.tmod_lt_of_pos n1 hb
    obtain⟨q,hq⟩:∃q,n1.tdiv n2=q:=⟨_,rfl⟩
    obtain⟨s,hs⟩:∃q,n1.tmod n2=q:=⟨_,rfl⟩
    rw[hq]at b1 f1
    rw[hs]at b2 b3 f1 f2
    have w1:bj .i64 q=q:=cD (by omega) (by omega)
    have d1:¬N=N+1:=by omega
    by_cases eC:s<0
    ·rw[av eC]at f1 f2
     have w2:bj .i64 (s+n2)=s+n2:=cD (by omega) (by omega)
     have sI: -9223372036854775808<q:=by
      have:=Int.mul_tdiv_add_tmod n1 n2
      omega
     have w3:bj .i64 (q-1)=q-1:=cD (by omega) (by omega)
     simp[A.b218,aO,aF,ad,aG,tB,hz,hq,hs,w1,w2,w3,eC,aE,ct.cv]
     exact⟨(kk.set (by omega)).set (by omega),_,_,⟨rfl,rfl⟩,by rw[<-f1];exact In.small (by omega) (by omega),by rw[<-f2];exact In.small (by omega) (by omega)⟩
    ·rw[ak eC]at f1 f2
     simp[A.b218,aO,aF,ad,aG,tB,hz,hq,hs,w1,eC,aE,ct.cv]
     exact⟨(kk.set (by omega)).set (by omega),_,_,⟨rfl,rfl⟩,by rw[<-f1];exact In.small (by omega) (by omega),by rw[<-f2];exact In.small (by omega) (by omega)⟩
  ·simp only[V.agg.injEq,iQ,V.int.injEq,true_and,and_true]at e2
   obtain⟨rfl,rfl⟩:=e2
   simp[A.b218,aO,aF,ad,aG]
   exact go _ (by simp) (by simp) (by simp) (by simp)
 ·simp only[V.agg.injEq,iQ,V.int.injEq,true_and,and_true]at e1
  obtain⟨rfl,rfl⟩:=e1
  simp[A.b218,aO,aF,ad,aG,o2]
  exact go _ (by simp) (by simp) (by simp) (by simp)
def Yma(hx:In h N x a)(hy:In h N y b)(hb:0<b)(la:wl a<10000000000)(lb:wl b<10000000000):Fn A.C 197 [x,y] h N (fun v h' n'=>In h' n' v (a/b)):=by
 intro w
 rw[aR,A.k197 (by simp)]
 obtain⟨n1,u1,rfl,o1⟩:=hx.cells
 obtain⟨n2,u2,rfl,o2⟩:=hy.cells
 have kk:=aN (aN (aN (ab.refl (h:=h) (n:=N)) (.cells [.int .i64 n1,u1] 87 true)) (.cells [.int .i64 n2,u2] 87 true)) (.cells [.int .i64 0,.aa] 87 true)
 have jn:=hx.ae kk
 have vO:=hy.ae kk
 have C4:=Hy vO
 unfold V.one at o1 o2
 have c1:¬eF b<0:=by unfold eF;rw[ak (by omega)];split<;>omega
 simp[A.b197,aO,aF,ad,o1,o2]
 refine aA C4 ?_
 rintro _ h1 m1 k1 rfl
 have fu:=k1.le
 have g0:=k1.get N (by omega)
 have g1:=k1.get (N+1) (by omega)
 have g2:=k1.get (N+1+1) (by omega)
 simp at g0 g1 g2
 simp[c1,g0,g1,aO,aF]
 refine aA (Zug (jn.ae k1) (vO.ae k1) hb la lb) ?_
 rintro _ h2 m2 k2 ⟨q,r,rfl,hq,hr⟩
 have gY:=k2.le
 have g22:=(k2.get (N+1+1) (by omega)).trans g2
 obtain⟨n3,u3,rfl,o3⟩:=hq.cells
 obtain⟨n4,u4,rfl,o4⟩:=hr.cells
 unfold V.one at o3 o4
 have d1:¬m2=m2+1:=by omega
 have d2:¬N+1+1=m2:=by omega
 have d3:¬N+1+1=m2+1:=by omega
 have ij:¬m2<N:=by omega
 have HM:¬m2+1<N:=by omega
 have mq:¬N+1+1<N:=by omega
 have kE:=((aN (aN (ab.refl (h:=h2) (n:=m2)) (.cells [.int .i64 0,.aa] 87 true)) (.cells [.int .i64 0,.aa] 87 true)).set (i:=m2) (o:=.cells [.int .i64 n3,u3] 87 true) (aM _)).set (i:=m2+1) (o:=.cells [.int .i64 n4,u4] 87 true) (by omega)
 have g23:=(kE.get (N+1+1) (by omega)).trans g22
 have d4:¬N+1=m2:=by omega
 simp[g22,aO,aF,ad,bC,o3,o4,d1,d2,d3,d4,aE,ij,HM,mq]
 exact⟨(((kk.trans k1).trans k2).trans kE).set (by omega),(hq.ae kE).aK g23 (by simp) rfl⟩
structure RJ (h:T O) (N G m:Nat) (r:T V) (st:St):Prop where
 w:ax N st.w=[]
 ae:ab h N st.h st.n
 le:N+3<=st.n
 row:st.h.get (N+2)=some (.cells [.int .i64 0,.aa] 87 true)
 ex:∃(n1 n2:Int) (u1 u2:V) (p:Nat),st.h.get N=some (.cells [.int .i64 n1,u1] 87 true)/\st.h.get (N+1)=some (.cells [.int .i64 n2,u2] 87 true)/\In st.h st.n (.agg [.int .i64 n1,u1]) p/\In st.h st.n (.agg [.int .i64 n2,u2]) m/\Nat.gcd p m=G/\wl p<10000000000/\wl m<10000000000
def Ykg{G:Nat}(a2:r0.get 2=some (.ptr N 0))(a3:r0.get 3=some (.ptr (N+1) 0)):
  ∀x r st,(∀t,jP [(5,6),(11,21)] t=false->r.get t=r0.get t)->Fx [(5,6),(11,21)] r0 23 ⟨r,23,[]⟩->RJ h N G x r st->Code A.C none A.rI ⟨r,23,[]⟩ st (Rd [(5,6),(11,21)] r0 23 (RJ h N G) x (fun e r st=>e=.exit 0/\RJ h N G 0 r st)):=by
 rintro m r ⟨H,n0,W⟩ hr hf ⟨hW,hK,hle,aq,n1,n2,u1,u2,p,g0,g1,hp,hm,hg,lp,lm⟩
 simp only at hW hK hle aq g0 g1 hp hm
 rw[bl]
 simp[A.rI,hr,hf,a2,a3,g1,aO,aF]
 refine aA (Hy hm) ?_
 rintro _ h1 m1 k1 rfl
 have fu:=k1.le
 have f0:=(k1.get N (by omega)).trans g0
 have f1:=(k1.get (N+1) (by omega)).trans g1
 have f2:=(k1.get (N+2) (by omega)).trans aq
 by_cases h0:m=0
 ·subst h0
  simp[hr,hf,eF,aG]
  exact⟨hW,hK.trans k1,by show N+3<=m1;omega,f2,n1,n2,u1,u2,p,f0,f1,hp.ae k1,hm.ae k1,hg,lp,lm⟩
 ·have c1:¬eF m=0:=by unfold eF;rw[ak (by omega),ak (by omega)];decide
  simp[hr,hf,a2,a3,c1,aG,f0,f1,aO,aF]
  refine aA (Zug (hp.ae k1) (hm.ae k1) (by omega) lp lm) ?_
  rintro _ h2 m2 k2 ⟨q,s,rfl,hq,hs⟩
  have gY:=k2.le
  have e0:=(k2.get N (by omega)).trans f0
  have e1:=(k2.get (N+1) (by omega)).trans f1
  have e2:=(k2.get (N+2) (by omega)).trans f2
  obtain⟨n3,u3,rfl,o3⟩:=hq.cells
  obtain⟨n4,u4,rfl,o4⟩:=hs.cells
  obtain⟨_,_,e5,o2⟩:=hm.cells
  simp only[V.agg.injEq,iQ,V.int.injEq,true_and,and_true]at e5
  obtain⟨rfl,rfl⟩:=e5
  have PI:=o2
  unfold V.one at o3 o4 o2
  have kE:=((aN (aN (ab.refl (h:=h2) (n:=m2)) (.cells [.int .i64 0,.aa] 87 true)) (.cells [.int .i64 0,.aa] 87 true)).set (i:=m2) (o:=.cells [.int .i64 n3,u3] 87 true) (aM _)).set (i:=m2+1) (o:=.cells [.int .i64 n4,u4] 87 true) (by omega)
  have i0:=(kE.get N (by omega)).trans e0
  have i1:=(kE.get (N+1) (by omega)).trans e1
  have i2:=(kE.get (N+2) (by omega)).trans e2
  have d1:¬m2=m2+1:=by omega
  have d2:¬N=m2:=by omega
  have d3:¬N=m2+1:=by omega
  have d4:¬N+1=m2:=by omega
  have d5:¬N+1=m2+1:=by omega
  have d6:¬m2=N:=by omega
  have d7:¬m2+1=N:=by omega
  have d8:¬m2=N+1:=by omega
  have d9:¬m2+1=N+1:=by omega
  have d10:¬N=N+1:=by omega
  have l1:N<m2+1+1:=by omega
  have l2:N+1<m2+1+1:=by omega
  simp(disch:=first|(simp;done)|omega|(simp only[bA,cA,bo];omega)|rfl) [hr,hf,a2,a3,e0,e1,aO,aF,ad,bC,o2,o3,o4,d1,d2,d3,d4,d5,d6,d7,d8,d9,d10,l1,l2,ct.cv]
  rw[IX (by simp[d1,d2,d3,d4,d5,d6,d7,d8,d9,d10]<;>omega)]
  simp[hr,hf]
  have ij:¬m2<N:=by omega
  have HM:¬m2+1<N:=by omega
  have q1:=((hm.ae k1).ae k2).ae kE
  have s1:=hs.ae kE
  have q2:=q1.aK (c1:=[.int .i64 n2,u2]) (e1:=87) (w1:=true) i0 hp.nu rfl
  have s2:=s1.aK (c1:=[.int .i64 n2,u2]) (e1:=87) (w1:=true) i0 hp.nu rfl
  have i3:(((((h2.set m2 (.cells [.int .i64 0,.aa] 87 true)).set (m2+1) (.cells [.int .i64 0,.aa] 87 true)).set m2 (.cells [.int .i64 n3,u3] 87 true)).set (m2+1) (.cells [.int .i64 n4,u4] 87 true)).set N (.cells [.int .i64 n2,u2] 87 true)).get (N+1)=some (.cells [.int .i64 n2,u2] 87 true):=by rw[T.ag,ak (by omega)];exact i1
  have q3:=q2.aK (c1:=[.int .i64 n4,u4]) (e1:=87) (w1:=true) i3 hm.nu rfl
  have s3:=s2.aK (c1:=[.int .i64 n4,u4]) (e1:=87) (w1:=true) i3 hm.nu rfl
  refine⟨p%m,kO _ (by omega),by simp[ax,hW,ij,HM],((((hK.trans k1).trans k2).trans kE).set (aM _)).set (by omega),by show N+3<=m2+1+1;omega,?_,n2,n4,u2,u4,m,by simp,by simp,q3,?_,?_,lm,?_⟩
  ·rw[T.ag,ak (by omega),T.ag,ak (by omega)];exact i2
  ·rw[<-Int.natCast_emod]at s3;exact s3
  ·rw[<-hg,Nat.gcd_comm p m,Nat.gcd_rec m p,Nat.gcd_comm]
  ·have:=Yr0 (a:=(p:Int)) (b:=(m:Int)) (by omega)
   rw[<-Int.natCast_emod]at this
   omega
def Ymt(hx:In h N x a)(hy:In h N y b)(la:wl a<10000000000)(lb:wl b<10000000000):Fn A.C 176 [x,y] h N (fun v h' n'=>In h' n' v (Int.gcd a b:Nat)):=by
 intro w
 rw[aR,A.k176 (by simp)]
 obtain⟨n1,u1,rfl,o1⟩:=hx.cells
 obtain⟨n2,u2,rfl,o2⟩:=hy.cells
 have kk:=aN (aN (aN (ab.refl (h:=h) (n:=N)) (.cells [.int .i64 n1,u1] 87 true)) (.cells [.int .i64 n2,u2] 87 true)) (.cells [.int .i64 0,.aa] 87 true)
 have jn:=hx.ae kk
 have vO:=hy.ae kk
 unfold V.one at o1 o2
 simp[A.b176,aO,aF,ad,o1,o2]
 refine aA (Ym7 jn (by omega)) ?_
 rintro v1 h1 m1 k1 me
 have fu:=k1.le
 have g1:=k1.get (N+1) (by omega)
 simp at g1
 have l1:N+1<m1:=by omega
 simp[g1,l1,aO,aF]
 refine aA (Ym7 (vO.ae k1) (by omega)) ?_
 rintro v2 h2 m2 k2 iR
 have Hu:=me.ae k2
 have k12:=k1.trans k2
 have gY:=k2.le
 obtain⟨n3,u3,rfl,o3⟩:=me.cells
 obtain⟨n4,u4,rfl,o4⟩:=iR.cells
 unfold V.one at o3 o4
 have i0:=k12.get N (by omega)
 have i1:=k12.get (N+1) (by omega)
 have i2:=k12.get (N+1+1) (by omega)
 simp at i0 i1 i2
 have l2:N<m2:=by omega
 have l3:N+1<m2:=by omega
 have l4:N<m1:=by omega
 simp[i0,i1,aO,aF,ad,bC,o3,o4,l1,l2,l3,l4,ct.cv]
 have q1:=Hu.aK (c1:=[.int .i64 n3,u3]) (e1:=87) (w1:=true) i0 hx.nu rfl
 have s1:=iR.aK (c1:=[.int .i64 n3,u3]) (e1:=87) (w1:=true) i0 hx.nu rfl
 have i3:(h2.set N (.cells [.int .i64 n3,u3] 87 true)).get (N+1)=some (.cells [.int .i64 n2,u2] 87 true):=by rw[T.ag,ak (by omega)];exact i1
 have q2:=q1.aK (c1:=[.int .i64 n4,u4]) (e1:=87) (w1:=true) i3 hy.nu rfl
 have s2:=s1.aK (c1:=[.int .i64 n4,u4]) (e1:=87) (w1:=true) i3 hy.nu rfl
 have wa:wl (a.natAbs:Int)=wl a:=by unfold wl;rw[dR]
 have wb:wl (b.natAbs:Int)=wl b:=by unfold wl;rw[dR]
 refine bL [(5,6),(11,21)] _ (RJ h N (Int.gcd a b)) b.natAbs ?_ (Ykg (by simp) (by simp)) ?_
 ·refine⟨by simp[ax],((kk.trans k12).set (aM _)).set (by omega),by show N+3<=m2;omega,?_,n3,n4,u3,u4,a.natAbs,by simp,by simp,q2,s2,rfl,by rw[wa];exact la,by rw[wb];exact lb⟩
  rw[T.ag,ak (by omega),T.ag,ak (by omega)];exact i2
 rintro e r ⟨h5,m5,W5⟩ hr ⟨rfl,hW,hK,hle,aq,n5,n6,u5,u6,p,g5,g6,hp,hm,hg,lp,lm⟩
 simp only at hW hK hle aq g5 g6 hp hm
 obtain⟨_,_,e5,o5⟩:=hp.cells
 simp only[V.agg.injEq,iQ,V.int.injEq,true_and,and_true]at e5
 obtain⟨rfl,rfl⟩:=e5
 unfold V.one at o5
 rw[Nat.gcd_zero_right]at hg
 have Fe:h5.get (N+1+1)=some (.cells [.int .i64 0,.aa] 87 true):=aq
 have ij:¬N+1+1<N:=by omega
 simp[hr,g5,Fe,aO,aF,ad,bC,o5,aE,hW,ij]
 exact⟨hK.set (by omega),by rw[<-hg];exact hp.aK Fe (by simp) rfl⟩
def A.b175:=A.q Tryz.f175
def A.k175:=@A.kk 175 7 [.tmp 4] A.b175 (by kernel_rfl) rfl
def BT{b:Bool}{e:Int}{st:St}:A.C.call (.func 175 [] []) [.bool b,.int .i64 e] st=some (.int .i64 (if b=true then e else 0),st):=by
 apply Call.eq
 rw[aR,A.k175 (by simp)]
 cases b<;>simp[A.b175]
variable {s:aQ}
def A.b238:=A.q Tryz.f238
def A.k238:=@A.kk 238 18 [.tmp 4] A.b238 (by kernel_rfl) rfl
def A.b172:=A.q Tryz.f172
def A.k172:=@A.kk 172 11 [.tmp 4,.tmp 5] A.b172 (by kernel_rfl) rfl
def A.b215:=A.q Tryz.f215
def A.k215:=@A.kk 215 15 [.tmp 4,.tmp 5] A.b215 (by kernel_rfl) rfl
def A.b203:=A.q Tryz.f203
def A.k203:=@A.kk 203 8 [.tmp 4] A.b203 (by kernel_rfl) rfl
def A.b239:=A.q Tryz.f239
def A.k239:=@A.kk 239 13 [.tmp 4] A.b239 (by kernel_rfl) rfl
def A.b202:=A.q Tryz.f202
def A.k202:=@A.kk 202 8 [.tmp 4] A.b202 (by kernel_rfl) rfl
def A.b264:=A.q Tryz.f264
def A.k264:=@A.kk 264 8 [.tmp 4] A.b264 (by kernel_rfl) rfl
def A.Nn:=A.q Tryz.f237
def A.Dk:=A.ql A.Nn 0 []
def A.b237:=(fun x0=>A.qb A.Nn [x0]) A.Dk
def A.k237:=@A.kk 237 143 [.tmp 4] A.b237 (by kernel_rfl) rfl
def A.b201:=A.q Tryz.f201
def A.k201:=@A.kk 201 23 [.tmp 4,.tmp 5,.tmp 6] A.b201 (by kernel_rfl) rfl
def A.b148:=A.q Tryz.f148
def A.k148:=@A.kk 148 13 [.tmp 4,.tmp 5,.tmp 6] A.b148 (by kernel_rfl) rfl
def Np{s:aQ}{st:St}:A.C.call (.func 238 [] []) [.str s,.str [45]] st=some (.bool (cK s),st):=by
 apply Call.eq
 rw[aR,A.k238 (by simp)]
 cases s with
 |nil=>simp[A.b238,cK]
 |cons c s=>
  have e:(([c]:aQ)==[45])=decide (c.toNat=45):=by
   rw[Bool.eq_iff_iff]
   simp only[beq_iff_eq,decide_eq_true_eq,iQ,and_true]
   exact⟨fun h=>by rw[h];rfl,fun h=>UInt8.toNat_inj.1 h⟩
  have h1:(1:Int)<=(s.length:Int)+1:=by omega
  simp[A.b238,cK,aB,e,h1]
def Zul{st:St}:A.C.call (.func 172 [] []) [.str s,.str [45]] st=some (.aX [.str (bn s),.bool (cK s)],st):=by
 apply Call.eq
 rw[aR,A.k172 (by simp)]
 simp[A.b172]
 rw[A.k215 (by simp)]
 by_cases hn:cK s=true
 ·have h1:1<=s.length:=by cases s<;>simp[cK]at hn ⊢
  have fI:(1:Int)<=s.length:=by omega
  simp[A.b215,Np,hn,aB,fI,bn]
 ·simp[A.b215,Np,hn,bn]
def Zkj{st:St}:A.C.call (.func 203 [] []) [.str s,.str [45]] st=some (.str (bn s),st):=by
 apply Call.eq
 rw[aR,A.k203 (by simp)]
 simp[A.b203]
 rw[A.k239 (by simp)]
 by_cases hn:cK s=true
 ·have h1:1<=s.length:=by cases s<;>simp[cK]at hn ⊢
  have fI:(1:Int)<=s.length:=by omega
  simp[A.b239,Np,hn,aB,fI,bn]
 ·simp[A.b239,Np,hn,bn]
def Zt6{st:St}:A.C.call (.func 202 [] []) [.str s,.str [45]] st=some (.bool (cK s),st):=by
 apply Call.eq
 rw[aR,A.k202 (by simp)]
 simp[A.b202,Np]
def Zt5{st:St}:A.C.call (.func 264 [] []) [.str s,.int .u8 47] st=some (.int .i64 (if ah s<s.length then (ah s:Int) else -1),st):=by
 apply Call.eq
 rw[aR,A.k264 (by simp)]
 have e:=Zk7 s 0
 simp only[xg]at e
 simp[A.b264,Hl,Ct,e]
def Zyr{st:St}:A.C.call (.func 237 [] []) [.str s,.str [47]] st=some (.int .i64 (if ah s<s.length then (ah s:Int) else -1),st):=by
 apply Call.eq
 rw[aR,A.k237 (by simp)]
 by_cases hs:s=[47]
 ·subst hs
  simp[A.b237,aG,ah]
 ·have e1:(([47]:aQ)==s)=false:=by simp;exact fun h=>hs h.symm
  have e2:cM 47=47:=rfl
  simp[A.b237,aG,Zt5,e1,e2]
def Ym2{st:St}(hl:s.length<4611686018427387904):A.C.call (.func 148 [] []) [.str s,.str [47]] st=some (.aX [.str (s.take (ah s)),.str (s.drop (ah s+1)),.bool (decide (ah s<s.length))],st):=by
 apply Call.eq
 rw[aR,A.k148 (by simp)]
 simp[A.b148]
 rw[A.k201 (by simp)]
 have hle:=EJ s
 by_cases hs:ah s<s.length
 ·simp(disch:=first|(simp;done)|omega|(simp only[bA,cA,bo];omega)|rfl) [A.b201,Zyr,hs,aB]
  try omega
 ·have:s.take (ah s)=s:=fe (by omega)
  have h2:s.drop (ah s+1)=[]:=yC (by omega)
  simp(disch:=first|(simp;done)|omega|(simp only[bA,cA,bo];omega)|rfl) [-getElem?_pos,A.b201,Zyr,hs,this,h2]
end
end Go.Mx
