/-num-/
import Derived.Test.YtokjleejipaidaaGreatDoorRcM
set_option linter.all false
namespace Go.Mx
noncomputable section
open Go Go.Proofs
variable {N:Nat} {a b:Int} {h:T O} {r0:T V} {x y:V}
set_option maxHeartbeats 2000000
set_option maxRecDepth 1000000
def A.r_:bN:=.seq (.dc [lN 82 2 14,lN 83 2 15,gn (.store 2 (tq 4) (tq 82)),gn (.store 2 (tq 5) (tq 83))] [0,0,1,7])
 (.ret)
def A.nk:bN:=sr [lN 52 2 2,c1 53 196 52,mv 51 53,xt 54 51 0,xt 55 51 1,mv 8 54,mv 9 55]
 (sr [lN 57 2 3,c1 58 196 57,mv 56 58,xt 59 56 0,xt 60 56 1,mv 10 59,mv 11 60]
 (sr [mv 62 9,mv 63 11,c2 64 212 62 63,mv 61 64,xt 65 61 0,xt 66 61 1,mv 12 65,mv 13 66]
 (sr [mv 67 8,mv 68 12,c2 69 197 67 68,mv 70 8,mv 71 13,c2 72 197 70 71,ge 14 (.alloc [.int .i64 0,.aa] 106),ge 15 (.alloc [.int .i64 0,.aa] 106),gn (.store 2 (tq 14) (tq 69)),gn (.store 2 (tq 15) (tq 72))]
 (.seq (sr [lN 73 2 15,c1 74 175 73,bc 75 .lss 74 0]
 (cd 75
 (.dc [lN 76 2 14,ge 77 (.call (fq 171) [.const (.int .i64 1)]),c2 78 238 76 77,lN 79 2 15,lN 80 2 3,c2 81 154 79 80,gn (.store 2 (tq 14) (tq 78)),gn (.store 2 (tq 15) (tq 81))] [0,0,3,0,0,31,63,127])
 (.skip)))
 A.r_))))
def A.b237:bN:=sr [bx 2 106 0,bx 3 106 1,ge 4 (.alloc [.int .i64 0,.aa] 106),ge 5 (.alloc [.int .i64 0,.aa] 106)]
 (.seq (sr [fa 16 1 2,ld 17 16,ge 18 (.bin .eql (.bI .slice) true (tq 17) (.const .aa)),mv 19 18,gy 20 19 (.i_ 1 (tq 3)),gy 21 19 (.load none (tq 20)),gy 22 19 (.bin .eql (.bI .slice) true (tq 21) (.const .aa)),pf 23 19 22,mv 24 23,gy 25 24 (.i_ 0 (tq 2)),gy 26 24 (.load none (tq 25)),gy 27 24 (.bin .neq (.bI .int) true (tq 26) (.const (.int .i64 (-9223372036854775808)))),pf 28 24 27]
 (cd 28
 (.seq (.dc [fa 29 0 2,ld 30 29,fa 31 0 3,ld 32 31,bi 33 .quo 30 32,fa 34 0 2,ld 35 34,fa 36 0 3,ld 37 36,bi 38 .rem 35 37,mv 6 33,mv 7 38] [0,1,0,4,15,0,32,0,128,480,31,2047])
 (.seq (sr [mv 39 7,bc 40 .lss 39 0]
 (cd 40
 (.dc [mv 41 6,bc 42 .sub 41 1,mv 43 7,fa 44 0 3,ld 45 44,bi 46 .add 43 45,mv 6 42,mv 7 46] [0,1,0,0,8,28,3,127])
 (.skip)))
 (sr [mv 47 6,ge 48 (.build [.int .i64 0,.aa] [(0,1,(tq 47))]),mv 49 7,ge 50 (.build [.int .i64 0,.aa] [(0,1,(tq 49))]),gn (.store 2 (tq 4) (tq 48)),gn (.store 2 (tq 5) (tq 50))]
 (.ret))))
 (.skip)))
 A.nk)
def A.k237:=@A.kk 237 84 [.cell 4 (some 2),.cell 5 (some 2)] A.b237 (by kernel_rfl) rfl
def A.b201:=A.q Tryz.f201
def A.k201:=@A.kk 201 21 [.cell 4 (some 2)] A.b201 (by kernel_rfl) rfl
def A.NO:=A.q Tryz.f194
def A.se:=A.ql A.NO 0 []
def A.b194:=(fun x0=>A.qb A.NO [x0]) A.se
def A.k194:=@A.kk 194 23 [.cell 4 (some 2)] A.b194 (by kernel_rfl) rfl
def Zzn(hb:0<b):(if a.tmod b<0 then a.tdiv b-1 else a.tdiv b)=a/b/\(if a.tmod b<0 then a.tmod b+b else a.tmod b)=a%b:=by
 have h1:=Int.mul_tdiv_add_tmod a b
 have h2:=Int.tmod_lt_of_pos a hb
 have h3: -b<a.tmod b:=by
  have:=Int.tmod_lt_of_pos (-a) hb
  rw[Int.neg_tmod]at this
  omega
 have key:∀q r:Int,b*q+r=a->0<=r->r<b->q=a/b/\r=a%b:=by
  intro q r e r0 r1
  have:=(Int.ediv_emod_unique hb (r:=r) (q:=q) (a:=a)).2 ⟨by omega,r0,r1⟩
  exact⟨this.1.symm,this.2.symm⟩
 by_cases h:a.tmod b<0
 ·rw[ax h,ax h]
  exact key _ _ (by rw[Int.mul_sub];omega) (by omega) (by omega)
 ·rw[ak h,ak h]
  exact key _ _ (by omega) (by omega) h2
def Yhb(hb:0<b):∀q r:Int,q=(if decide (a<0)=true then -((a.natAbs/b.natAbs:Nat):Int) else (a.natAbs/b.natAbs:Nat))->r=(if decide (a<0)=true then -((a.natAbs%b.natAbs:Nat):Int) else (a.natAbs%b.natAbs:Nat))->(if r<0 then q-1 else q)=a/b/\(if r<0 then r+b else r)=a%b:=by
 intro q r hq hr
 have h1:=uZ a.natAbs b.natAbs
 have h2:=kQ a.natAbs (show 0<b.natAbs by omega)
 have hbe:(b.natAbs:Int)=b:=by omega
 have fO:b*((a.natAbs/b.natAbs:Nat):Int)+((a.natAbs%b.natAbs:Nat):Int)=a.natAbs:=by
  rw[<-hbe,<-JS,<-Int.natCast_add,dH,h1]
 have key:∀q r:Int,b*q+r=a->0<=r->r<b->q=a/b/\r=a%b:=by
  intro q r e r0 r1
  have:=(Int.ediv_emod_unique hb (r:=r) (q:=q) (a:=a)).2 ⟨by omega,r0,r1⟩
  exact⟨this.1.symm,this.2.symm⟩
 generalize a.natAbs/b.natAbs=Q at*
 generalize a.natAbs%b.natAbs=R at*
 by_cases ha:a<0
 ·simp only[ha,decide_true,if_true]at hq hr
  subst hq hr
  by_cases h: -(R:Int)<0
  ·rw[ax h,ax h]
   exact key _ _ (by rw[Int.mul_sub,Int.mul_neg];omega) (by omega) (by omega)
  ·rw[ak h,ak h]
   exact key _ _ (by rw[Int.mul_neg];omega) (by omega) (by omega)
 ·simp only[ha,decide_false,fL,if_false]at hq hr
  subst hq hr
  rw[ak (by omega),ak (by omega)]
  exact key _ _ (by omega) (by omega) (by omega)
def Yr7(hb:0<b):wl (a%b)<=wl b:=by
 apply Iv
 have h1:=EH a hb
 have h2:=EN a (show b≠0 by omega)
 omega
def Zqs{c:Bool}{n:Nat}:(if c=true then -(n:Int) else (n:Int)).natAbs=n:=by split<;>omega
def Ymr{H:T O}{n m:Nat}{nq nr q s:Int}{uq ur:V}{W:List Nat}(hW:ar N W=[])(hK:ab h N H n)(hm:N+4<=m)(V6:m+1<n)(hq:In H n (.agg [.int .i64 nq,uq]) q)(hr:In H n (.agg [.int .i64 nr,ur]) s)(oq:V.one uq=true)(or:V.one ur=true)
  (gz:H.get (N+2)=some (.cells [.int .i64 0,.aa] 106 true)) (gt:H.get (N+3)=some (.cells [.int .i64 0,.aa] 106 true)) (gq:H.get m=some (.cells [.int .i64 nq,uq] 106 true)) (gr:H.get (m+1)=some (.cells [.int .i64 nr,ur] 106 true))
  (r4:r0.get 4=some (.ptr (N+2) 0)) (r5:r0.get 5=some (.ptr (N+3) 0)) (KF:r0.get 14=some (.ptr m 0)) (r15:r0.get 15=some (.ptr (m+1) 0)):
  Code A.C none A.r_ ⟨r0,84,[]⟩ ⟨H,n,W⟩ (fun e fr st=>e=.ret/\∃r,fr=⟨r,84,[]⟩/\r.get 4=some (.ptr (N+2) 0)/\r.get 5=some (.ptr (N+3) 0)/\Iw h N (N+2) q st/\Iw h N (N+3) s st):=by
 have n1:m<n:=by omega
 have n2:N+2<n:=by omega
 have n3:N+3<n:=by omega
 have d1:¬m=N+2:=by omega
 have d2:¬m=N+3:=by omega
 have d3:¬N+2=m:=by omega
 have d4:¬N+3=m:=by omega
 have d5:¬N+2=m+1:=by omega
 have d6:¬N+3=m+1:=by omega
 have d7:¬m+1=N+2:=by omega
 have d8:¬m+1=N+3:=by omega
 have d9:¬N+3=N+2:=by omega
 have d10:¬N+2=N+3:=by omega
 rw[bb]
 have k1:=(hK.set (i:=N+2) (o:=.cells [.int .i64 nq,uq] 106 true) (by omega)).set (i:=N+3) (o:=.cells [.int .i64 nr,ur] 106 true) (by omega)
 have km:=(hq.aH (c1:=[.int .i64 nq,uq]) (e1:=106) (w1:=true) gz (by simp) rfl)
 have dt:=(hr.aH (c1:=[.int .i64 nq,uq]) (e1:=106) (w1:=true) gz (by simp) rfl)
 have gt2:(H.set (N+2) (.cells [.int .i64 nq,uq] 106 true)).get (N+3)=some (.cells [.int .i64 0,.aa] 106 true):=by rw[T.ag,ak d9];exact gt
 have NP:=(km.aH (c1:=[.int .i64 nr,ur]) (e1:=106) (w1:=true) gt2 (by simp) rfl)
 have Nv:=(dt.aH (c1:=[.int .i64 nr,ur]) (e1:=106) (w1:=true) gt2 (by simp) rfl)
 have dZ:ar N ((N+3)::(N+2)::W)=[]:=by simp[ar,hW]
 unfold V.one at oq or
 simp(disch:=omega) [A.r_,r4,r5,KF,r15,gz,gt,gq,gr,n1,n2,n3,V6,d1,d2,d3,d4,d5,d6,d7,d8,d9,d10,oq,or,aR,aC,ae,bD,cn.cr]
 rw[HM (by simp[d1,d2,d3,d4,d5,d6,d7,d8,d9,d10]<;>omega)]
 simp[r4,r5]
 exact⟨⟨dZ,k1,nq,uq,by simp,NP⟩,⟨dZ,k1,nr,ur,by simp,Nv⟩⟩
def Yqo{H:T O}{n1 n2:Int}{u1 u2:V}(hx:In H (N+4) (.agg [.int .i64 n1,u1]) a)(hy:In H (N+4) (.agg [.int .i64 n2,u2]) b)(hb:0<b)(la:wl a<10000000000)(lb:wl b<10000000000)(hK:ab h N H (N+4))(oy:V.one u2=true)
  (gx:H.get N=some (.cells [.int .i64 n1,u1] 106 true)) (gy:H.get (N+1)=some (.cells [.int .i64 n2,u2] 106 true)) (gz:H.get (N+2)=some (.cells [.int .i64 0,.aa] 106 true)) (gt:H.get (N+3)=some (.cells [.int .i64 0,.aa] 106 true)) (r2:r0.get 2=some (.ptr N 0)) (r3:r0.get 3=some (.ptr (N+1) 0)) (r4:r0.get 4=some (.ptr (N+2) 0)) (r5:r0.get 5=some (.ptr (N+3) 0)):
  Code A.C none A.nk ⟨r0,84,[]⟩ ⟨H,N+4,[]⟩ (fun e fr st=>e=.ret/\∃r,fr=⟨r,84,[]⟩/\r.get 4=some (.ptr (N+2) 0)/\r.get 5=some (.ptr (N+3) 0)/\Iw h N (N+2) (a/b) st/\Iw h N (N+3) (a%b) st):=by
 rw[bb]
 simp[A.nk,r2,gx,aR,aC]
 refine ay (DL hx) ?_
 rintro _ h1 N1 k1 ⟨ua,rfl,NQ⟩
 have eY:=k1.le
 have NR:=(k1.get (N+1) (by omega)).trans gy
 simp[r3,NR,aR,aC]
 refine ay (DL (hy.ad k1)) ?_
 rintro _ h2 N2 k2 ⟨ub,rfl,Ix⟩
 have gI:=k2.le
 have wK:=NQ.ad k2
 have FY:(aG a.natAbs).length<10000000000:=la
 have Sk:(aG b.natAbs).length<10000000000:=lb
 simp[]
 refine ay (Zul wK Ix (by omega) (by omega) (by omega)) ?_
 rintro _ h3 N3 k3 ⟨q,r,rfl,hq,hr⟩
 simp[]
 have lq:=FR (vT a.natAbs b.natAbs)
 have lr:=FR (Nat.mod_le a.natAbs b.natAbs)
 refine ay (FU hq (by omega)) ?_
 rintro vq h4 N4 k4 zo
 simp[]
 refine ay (FU (hr.ad k4) (by omega)) ?_
 rintro vr h5 N5 k5 Zh
 have kA:=(((k1.trans k2).trans k3).trans k4).trans k5
 have zaZ:=kA.le
 have Zi:=zo.ad k5
 have gy5:=(kA.get (N+1) (by omega)).trans gy
 have gz5:=(kA.get (N+2) (by omega)).trans gz
 have gt5:=(kA.get (N+3) (by omega)).trans gt
 obtain⟨qv,Ij⟩:∃q,(if decide (a<0)=true then -((a.natAbs/b.natAbs:Nat):Int) else (a.natAbs/b.natAbs:Nat))=q:=⟨_,rfl⟩
 obtain⟨rv,tR⟩:∃q,(if decide (a<0)=true then -((a.natAbs%b.natAbs:Nat):Int) else (a.natAbs%b.natAbs:Nat))=q:=⟨_,rfl⟩
 rw[Ij]at Zi
 rw[tR]at Zh
 obtain⟨e1,e2⟩:=Yhb hb qv rv Ij.symm tR.symm
 have wq:wl qv<20000000000:=by
  have:qv.natAbs=a.natAbs/b.natAbs:=by rw[<-Ij];exact Zqs
  unfold wl;rw[this];omega
 have wr:wl rv<20000000000:=by
  have:rv.natAbs=a.natAbs%b.natAbs:=by rw[<-tR];exact Zqs
  unfold wl;rw[this];omega
 obtain⟨nq,uq,rfl,oq⟩:=Zi.cells
 obtain⟨nr,ur,rfl,or⟩:=Zh.cells
 have kB:=fun o1 o2=>aN (aN (ab.refl (h:=h5) (n:=N5)) o1) o2
 have oq':=oq
 have or':=or
 unfold V.one at oq or oy
 have d1:¬N5=N5+1:=by omega
 have gq6:(((h5.set N5 (.cells [.int .i64 0,.aa] 106 true)).set (N5+1) (.cells [.int .i64 0,.aa] 106 true)).set N5 (.cells [.int .i64 nq,uq] 106 true)).get N5=some (.cells [.int .i64 nq,uq] 106 true):=by simp
 simp[oq,or,ae,bD,aR,aC]
 have kC:=((kB (.cells [.int .i64 0,.aa] 106 true) (.cells [.int .i64 0,.aa] 106 true)).set (i:=N5) (o:=.cells [.int .i64 nq,uq] 106 true) (aO _)).set (i:=N5+1) (o:=.cells [.int .i64 nr,ur] 106 true) (by omega)
 generalize hH6:(((h5.set N5 (.cells [.int .i64 0,.aa] 106 true)).set (N5+1) (.cells [.int .i64 0,.aa] 106 true)).set N5 (.cells [.int .i64 nq,uq] 106 true)).set (N5+1) (.cells [.int .i64 nr,ur] 106 true)=H6 at*
 have q6:H6.get N5=some (.cells [.int .i64 nq,uq] 106 true):=by rw[<-hH6];simp
 have r6:H6.get (N5+1)=some (.cells [.int .i64 nr,ur] 106 true):=by rw[<-hH6];simp
 have NS:=Zi.ad kC
 have hr6:=Zh.ad kC
 have gy6:=(kC.get (N+1) (by omega)).trans gy5
 have gz6:=(kC.get (N+2) (by omega)).trans gz5
 have gt6:=(kC.get (N+3) (by omega)).trans gt5
 refine ay (Im hr6) ?_
 rintro _ h7 N7 k7 rfl
 have za0:=k7.le
 have q7:=(k7.get N5 (by omega)).trans q6
 have r7:=(k7.get (N5+1) (by omega)).trans r6
 have gy7:=(k7.get (N+1) (by omega)).trans gy6
 have gz7:=(k7.get (N+2) (by omega)).trans gz6
 have gt7:=(k7.get (N+3) (by omega)).trans gt6
 have NT:=NS.ad k7
 have NU:=hr6.ad k7
 have kF:=((hK.trans kA).trans kC).trans k7
 have ix:¬N5<N:=by omega
 have mE:¬N5+1<N:=by omega
 have hWW:ar N [N5+1,N5]=[]:=by simp[ar,ix,mE]
 by_cases dM:rv<0
 ·have c1:dL rv<0:=by simp[dL,dM]
  rw[ax dM]at e1 e2
  have hn7:N5<N7:=by omega
  have za1:N5+1<N7:=by omega
  have hny:N+1<N7:=by omega
  simp[c1,r3,q7,r7,gy7,aR,aC,ae,hn7]
  refine ay Il ?_
  rintro _ h8 N8 k8 rfl
  simp[]
  refine ay (Ylt (NT.ad k8) (In.small (z:=1) (by omega) (by omega)) (by omega) (by decide+kernel)) ?_
  rintro vq9 h9 N9 k9 hq9
  have k89:=k8.trans k9
  have r9:=(k89.get (N5+1) (by omega)).trans r7
  have y9:=(k89.get (N+1) (by omega)).trans gy7
  have hr9:=NU.ad k89
  have hb9:In h9 N9 (.agg [.int .i64 n2,u2]) b:=(((((hy.ad k1).ad k2).ad k3).ad k4).ad k5 |>.ad kC |>.ad k7).ad k89
  have zaC:=k89.le
  have z1:N5+1<N9:=by omega
  have z2:N+1<N9:=by omega
  simp[r3,r9,y9,aR,aC,ae,z1,z2]
  refine ay (NV hr9 hb9 (by omega) (by omega)) ?_
  rintro za2 gT N10 k10 NX
  have zaD:=k10.le
  have NY:=hq9.ad k10
  obtain⟨Sm,So,rfl,Zj⟩:=NY.cells
  obtain⟨Zk,Zl,rfl,Zm⟩:=NX.cells
  have Zn:=(k10.get N5 (by omega)).trans ((k89.get N5 (by omega)).trans q7)
  have uF:=(k10.get (N5+1) (by omega)).trans r9
  have U6:=(k10.get (N+2) (by omega)).trans ((k89.get (N+2) (by omega)).trans gz7)
  have t10:=(k10.get (N+3) (by omega)).trans ((k89.get (N+3) (by omega)).trans gt7)
  have Zo:=Zj
  have Zp:=Zm
  unfold V.one at Zj Zm
  have z3:N5<N10:=by omega
  have z4:N5+1<N10:=by omega
  simp[Zn,uF,Zj,Zm,ae,bD,z3,z4]
  have q11:=NY.aH (c1:=[.int .i64 Sm,So]) (e1:=106) (w1:=true) Zn NT.nu rfl
  have wL:=NX.aH (c1:=[.int .i64 Sm,So]) (e1:=106) (w1:=true) Zn NT.nu rfl
  have NZ:(gT.set N5 (.cells [.int .i64 Sm,So] 106 true)).get (N5+1)=some (.cells [.int .i64 nr,ur] 106 true):=by rw[T.ag,ak (by omega)];exact uF
  have q12:=q11.aH (c1:=[.int .i64 Zk,Zl]) (e1:=106) (w1:=true) NZ NU.nu rfl
  have Iy:=wL.aH (c1:=[.int .i64 Zk,Zl]) (e1:=106) (w1:=true) NZ NU.nu rfl
  rw[e1]at q12
  rw[e2]at Iy
  have kG:=(((kF.trans k89).trans k10).set (i:=N5) (o:=.cells [.int .i64 Sm,So] 106 true) (by omega)).set (i:=N5+1) (o:=.cells [.int .i64 Zk,Zl] 106 true) (by omega)
  refine lG (Ymr (m:=N5) (by simp[ar,ix,mE]) kG (by omega) (by omega) q12 Iy Zo Zp (by rw[T.ag,ak (by omega),T.ag,ak (by omega)];exact U6) (by rw[T.ag,ak (by omega),T.ag,ak (by omega)];exact t10) (by simp) (by simp) (by simp[r4]) (by simp[r5]) (by simp) (by simp)) ?_
  rintro e fr st ⟨rfl,r,rfl,p1,p2,p3,p4⟩
  simp[p1,p2]
  exact⟨p3,p4⟩
 ·have c1:¬dL rv<0:=by unfold dL;rw[ak dM];split<;>omega
  rw[ak dM]at e1 e2
  rw[e1]at NT
  rw[e2]at NU
  simp[c1]
  refine lG (Ymr hWW kF (by omega) (by omega) NT NU oq' or' gz7 gt7 q7 r7 (by simp[r4]) (by simp[r5]) (by simp) (by simp)) ?_
  rintro e fr st ⟨rfl,r,rfl,p1,p2,p3,p4⟩
  simp[p1,p2]
  exact⟨p3,p4⟩
def Zun(hx:In h N x a)(hy:In h N y b)(hb:0<b)(la:wl a<10000000000)(lb:wl b<10000000000):Fn A.C 237 [x,y] h N (fun v h' n'=>∃q r,v=.aV [q,r]/\In h' n' q (a/b)/\In h' n' r (a%b)):=by
 intro w
 rw[aM,A.k237 (by simp)]
 obtain⟨n1,u1,rfl,o1⟩:=hx.cells
 obtain⟨n2,u2,rfl,o2⟩:=hy.cells
 have kk:=aN (aN (aN (aN (ab.refl (h:=h) (n:=N)) (.cells [.int .i64 n1,u1] 106 true)) (.cells [.int .i64 n2,u2] 106 true)) (.cells [.int .i64 0,.aa] 106 true)) (.cells [.int .i64 0,.aa] 106 true)
 have Qw:=o2
 unfold V.one at o1 o2
 have go:∀r:T V,r.get 2=some (.ptr N 0)->r.get 3=some (.ptr (N+1) 0)->r.get 4=some (.ptr (N+2) 0)->r.get 5=some (.ptr (N+3) 0)->bz A.C [.fin [.cell 4 (some 2),.cell 5 (some 2)] ⟨h,N,w⟩] (eK (A.C.code none A.nk ⟨r,84,[]⟩ ⟨(((h.set N (.cells [.int .i64 n1,u1] 106 true)).set (N+1) (.cells [.int .i64 n2,u2] 106 true)).set (N+1+1) (.cells [.int .i64 0,.aa] 106 true)).set (N+1+1+1) (.cells [.int .i64 0,.aa] 106 true),N+1+1+1+1,[]⟩)) (Dl (az (fun v h' n'=>∃q r,v=.aV [q,r]/\In h' n' q (a/b)/\In h' n' r (a%b)) h N w)):=by
  intro r r2 r3 r4 r5
  refine lG (Yqo (hx.ad kk) (hy.ad kk) hb la lb kk Qw (by simp) (by simp) (by simp) (by simp) r2 r3 r4 r5) ?_
  rintro e fr ⟨h5,n5,w5⟩ ⟨rfl,r',rfl,KI,r5',⟨hW,hK,n6,u6,g6,hi⟩,⟨_,_,n7,u7,g7,hi7⟩⟩
  simp only at hW hK g6 hi g7 hi7
  simp[KI,r5',g6,g7,aR,aC,az,hW]
  exact⟨hK,_,_,⟨rfl,rfl⟩,hi,hi7⟩
 rcases id hx with⟨e1,s1,s2⟩|⟨i,o,l,c,e1,_⟩
 ·simp only[V.agg.injEq,gU,V.int.injEq,true_and,and_true]at e1
  obtain⟨rfl,rfl⟩:=e1
  rcases id hy with⟨e2,t1,t2⟩|⟨i,o,l,c,e2,_⟩
  ·simp only[V.agg.injEq,gU,V.int.injEq,true_and,and_true]at e2
   obtain⟨rfl,rfl⟩:=e2
   by_cases uj:n1= -9223372036854775808
   ·simp[A.b237,aR,aC,ae,aJ,uj]
    subst uj
    exact go _ (by simp) (by simp) (by simp) (by simp)
   ·have hz:¬n2=0:=by omega
    obtain⟨f1,f2⟩:=Zzn (a:=n1) hb
    have b1:(n1.tdiv n2).natAbs<=n1.natAbs:=by rw[Int.natAbs_tdiv];exact vT _ _
    have b2:(n1.tmod n2).natAbs<=n1.natAbs:=by rw[Int.natAbs_tmod];exact Nat.mod_le _ _
    have b3:=Int.tmod_lt_of_pos n1 hb
    obtain⟨q,hq⟩:∃q,n1.tdiv n2=q:=⟨_,rfl⟩
    obtain⟨s,hs⟩:∃q,n1.tmod n2=q:=⟨_,rfl⟩
    rw[hq]at b1 f1
    rw[hs]at b2 b3 f1 f2
    have w1:bh .i64 q=q:=cE (by omega) (by omega)
    have d1:¬N=N+1:=by omega
    by_cases dM:s<0
    ·rw[ax dM]at f1 f2
     have w2:bh .i64 (s+n2)=s+n2:=cE (by omega) (by omega)
     have tj: -9223372036854775808<q:=by
      have:=Int.mul_tdiv_add_tmod n1 n2
      omega
     have w3:bh .i64 (q-1)=q-1:=cE (by omega) (by omega)
     simp[A.b237,aR,aC,ae,aJ,uj,hz,hq,hs,w1,w2,w3,dM,az,cn.cr]
     exact⟨(kk.set (by omega)).set (by omega),_,_,⟨rfl,rfl⟩,by rw[<-f1];exact In.small (by omega) (by omega),by rw[<-f2];exact In.small (by omega) (by omega)⟩
    ·rw[ak dM]at f1 f2
     simp[A.b237,aR,aC,ae,aJ,uj,hz,hq,hs,w1,dM,az,cn.cr]
     exact⟨(kk.set (by omega)).set (by omega),_,_,⟨rfl,rfl⟩,by rw[<-f1];exact In.small (by omega) (by omega),by rw[<-f2];exact In.small (by omega) (by omega)⟩
  ·simp only[V.agg.injEq,gU,V.int.injEq,true_and,and_true]at e2
   obtain⟨rfl,rfl⟩:=e2
   simp[A.b237,aR,aC,ae,aJ]
   exact go _ (by simp) (by simp) (by simp) (by simp)
 ·simp only[V.agg.injEq,gU,V.int.injEq,true_and,and_true]at e1
  obtain⟨rfl,rfl⟩:=e1
  simp[A.b237,aR,aC,ae,aJ,o2]
  exact go _ (by simp) (by simp) (by simp) (by simp)
def Yl4(hx:In h N x a)(hy:In h N y b)(hb:0<b)(la:wl a<10000000000)(lb:wl b<10000000000):Fn A.C 201 [x,y] h N (fun v h' n'=>In h' n' v (a/b)):=by
 intro w
 rw[aM,A.k201 (by simp)]
 obtain⟨n1,u1,rfl,o1⟩:=hx.cells
 obtain⟨n2,u2,rfl,o2⟩:=hy.cells
 have kk:=aN (aN (aN (ab.refl (h:=h) (n:=N)) (.cells [.int .i64 n1,u1] 106 true)) (.cells [.int .i64 n2,u2] 106 true)) (.cells [.int .i64 0,.aa] 106 true)
 have jv:=hx.ad kk
 have wz:=hy.ad kk
 have Dy:=Im wz
 unfold V.one at o1 o2
 have c1:¬dL b<0:=by unfold dL;rw[ak (by omega)];split<;>omega
 simp[A.b201,aR,aC,ae,o1,o2]
 refine ay Dy ?_
 rintro _ h1 m1 k1 rfl
 have eY:=k1.le
 have g0:=k1.get N (by omega)
 have g1:=k1.get (N+1) (by omega)
 have g2:=k1.get (N+1+1) (by omega)
 simp at g0 g1 g2
 simp[c1,g0,g1,aR,aC]
 refine ay (Zun (jv.ad k1) (wz.ad k1) hb la lb) ?_
 rintro _ h2 m2 k2 ⟨q,r,rfl,hq,hr⟩
 have gI:=k2.le
 have g22:=(k2.get (N+1+1) (by omega)).trans g2
 obtain⟨n3,u3,rfl,o3⟩:=hq.cells
 obtain⟨n4,u4,rfl,o4⟩:=hr.cells
 unfold V.one at o3 o4
 have d1:¬m2=m2+1:=by omega
 have d2:¬N+1+1=m2:=by omega
 have d3:¬N+1+1=m2+1:=by omega
 have ix:¬m2<N:=by omega
 have Iz:¬m2+1<N:=by omega
 have mE:¬N+1+1<N:=by omega
 have kE:=((aN (aN (ab.refl (h:=h2) (n:=m2)) (.cells [.int .i64 0,.aa] 106 true)) (.cells [.int .i64 0,.aa] 106 true)).set (i:=m2) (o:=.cells [.int .i64 n3,u3] 106 true) (aO _)).set (i:=m2+1) (o:=.cells [.int .i64 n4,u4] 106 true) (by omega)
 have g23:=(kE.get (N+1+1) (by omega)).trans g22
 have d4:¬N+1=m2:=by omega
 simp[g22,aR,aC,ae,bD,o3,o4,d1,d2,d3,d4,az,ix,Iz,mE]
 exact⟨(((kk.trans k1).trans k2).trans kE).set (by omega),(hq.ad kE).aH g23 (by simp) rfl⟩
structure Sp (h:T O) (N G m:Nat) (r:T V) (st:St):Prop where
 w:ar N st.w=[]
 ad:ab h N st.h st.n
 le:N+3<=st.n
 row:st.h.get (N+2)=some (.cells [.int .i64 0,.aa] 106 true)
 ex:∃(n1 n2:Int) (u1 u2:V) (p:Nat),st.h.get N=some (.cells [.int .i64 n1,u1] 106 true)/\st.h.get (N+1)=some (.cells [.int .i64 n2,u2] 106 true)/\In st.h st.n (.agg [.int .i64 n1,u1]) p/\In st.h st.n (.agg [.int .i64 n2,u2]) m/\Nat.gcd p m=G/\wl p<10000000000/\wl m<10000000000
def Ykc{G:Nat}(a2:r0.get 2=some (.ptr N 0))(a3:r0.get 3=some (.ptr (N+1) 0)):
  ∀x r st,(∀t,jT [(5,6),(11,21)] t=false->r.get t=r0.get t)->Fx [(5,6),(11,21)] r0 23 ⟨r,23,[]⟩->Sp h N G x r st->Code A.C none A.se ⟨r,23,[]⟩ st (Rd [(5,6),(11,21)] r0 23 (Sp h N G) x (fun e r st=>e=.exit 0/\Sp h N G 0 r st)):=by
 rintro m r ⟨H,n0,W⟩ hr hf ⟨hW,hK,hle,al,n1,n2,u1,u2,p,g0,g1,hp,hm,hg,lp,lm⟩
 simp only at hW hK hle al g0 g1 hp hm
 rw[bb]
 simp[A.se,hr,hf,a2,a3,g1,aR,aC]
 refine ay (Im hm) ?_
 rintro _ h1 m1 k1 rfl
 have eY:=k1.le
 have f0:=(k1.get N (by omega)).trans g0
 have f1:=(k1.get (N+1) (by omega)).trans g1
 have f2:=(k1.get (N+2) (by omega)).trans al
 by_cases h0:m=0
 ·subst h0
  simp[hr,hf,dL,aJ]
  exact⟨hW,hK.trans k1,by show N+3<=m1;omega,f2,n1,n2,u1,u2,p,f0,f1,hp.ad k1,hm.ad k1,hg,lp,lm⟩
 ·have c1:¬dL m=0:=by unfold dL;rw[ak (by omega),ak (by omega)];decide
  simp[hr,hf,a2,a3,c1,aJ,f0,f1,aR,aC]
  refine ay (Zun (hp.ad k1) (hm.ad k1) (by omega) lp lm) ?_
  rintro _ h2 m2 k2 ⟨q,s,rfl,hq,hs⟩
  have gI:=k2.le
  have e0:=(k2.get N (by omega)).trans f0
  have e1:=(k2.get (N+1) (by omega)).trans f1
  have e2:=(k2.get (N+2) (by omega)).trans f2
  obtain⟨n3,u3,rfl,o3⟩:=hq.cells
  obtain⟨n4,u4,rfl,o4⟩:=hs.cells
  obtain⟨_,_,e5,o2⟩:=hm.cells
  simp only[V.agg.injEq,gU,V.int.injEq,true_and,and_true]at e5
  obtain⟨rfl,rfl⟩:=e5
  have Qw:=o2
  unfold V.one at o3 o4 o2
  have kE:=((aN (aN (ab.refl (h:=h2) (n:=m2)) (.cells [.int .i64 0,.aa] 106 true)) (.cells [.int .i64 0,.aa] 106 true)).set (i:=m2) (o:=.cells [.int .i64 n3,u3] 106 true) (aO _)).set (i:=m2+1) (o:=.cells [.int .i64 n4,u4] 106 true) (by omega)
  have i0:=(kE.get N (by omega)).trans e0
  have i1:=(kE.get (N+1) (by omega)).trans e1
  have i2:=(kE.get (N+2) (by omega)).trans e2
  have d1:¬m2=m2+1:=by omega
  have d2:¬N=m2:=by omega
  have d3:¬N=m2+1:=by omega
  have d4:¬N+1=m2:=by omega
  have d5:¬N+1=m2+1:=by omega
  have d6:¬m2=N:=by omega
  have d7:¬m2+1=N:=by omega
  have d8:¬m2=N+1:=by omega
  have d9:¬m2+1=N+1:=by omega
  have d10:¬N=N+1:=by omega
  have l1:N<m2+1+1:=by omega
  have l2:N+1<m2+1+1:=by omega
  simp(disch:=first|(simp;done)|omega|(simp only[bB,cC,bo];omega)|rfl) [hr,hf,a2,a3,e0,e1,aR,aC,ae,bD,o2,o3,o4,d1,d2,d3,d4,d5,d6,d7,d8,d9,d10,l1,l2,cn.cr]
  rw[HM (by simp[d1,d2,d3,d4,d5,d6,d7,d8,d9,d10]<;>omega)]
  simp[hr,hf]
  have ix:¬m2<N:=by omega
  have Iz:¬m2+1<N:=by omega
  have q1:=((hm.ad k1).ad k2).ad kE
  have s1:=hs.ad kE
  have q2:=q1.aH (c1:=[.int .i64 n2,u2]) (e1:=106) (w1:=true) i0 hp.nu rfl
  have s2:=s1.aH (c1:=[.int .i64 n2,u2]) (e1:=106) (w1:=true) i0 hp.nu rfl
  have i3:(((((h2.set m2 (.cells [.int .i64 0,.aa] 106 true)).set (m2+1) (.cells [.int .i64 0,.aa] 106 true)).set m2 (.cells [.int .i64 n3,u3] 106 true)).set (m2+1) (.cells [.int .i64 n4,u4] 106 true)).set N (.cells [.int .i64 n2,u2] 106 true)).get (N+1)=some (.cells [.int .i64 n2,u2] 106 true):=by rw[T.ag,ak (by omega)];exact i1
  have q3:=q2.aH (c1:=[.int .i64 n4,u4]) (e1:=106) (w1:=true) i3 hm.nu rfl
  have s3:=s2.aH (c1:=[.int .i64 n4,u4]) (e1:=106) (w1:=true) i3 hm.nu rfl
  refine⟨p%m,kQ _ (by omega),by simp[ar,hW,ix,Iz],((((hK.trans k1).trans k2).trans kE).set (aO _)).set (by omega),by show N+3<=m2+1+1;omega,?_,n2,n4,u2,u4,m,by simp,by simp,q3,?_,?_,lm,?_⟩
  ·rw[T.ag,ak (by omega),T.ag,ak (by omega)];exact i2
  ·rw[<-Int.natCast_emod]at s3;exact s3
  ·rw[<-hg,Nat.gcd_comm p m,Nat.gcd_rec m p,Nat.gcd_comm]
  ·have:=Yr7 (a:=(p:Int)) (b:=(m:Int)) (by omega)
   rw[<-Int.natCast_emod]at this
   omega
def Ymj(hx:In h N x a)(hy:In h N y b)(la:wl a<10000000000)(lb:wl b<10000000000):Fn A.C 194 [x,y] h N (fun v h' n'=>In h' n' v (Int.gcd a b:Nat)):=by
 intro w
 rw[aM,A.k194 (by simp)]
 obtain⟨n1,u1,rfl,o1⟩:=hx.cells
 obtain⟨n2,u2,rfl,o2⟩:=hy.cells
 have kk:=aN (aN (aN (ab.refl (h:=h) (n:=N)) (.cells [.int .i64 n1,u1] 106 true)) (.cells [.int .i64 n2,u2] 106 true)) (.cells [.int .i64 0,.aa] 106 true)
 have jv:=hx.ad kk
 have wz:=hy.ad kk
 unfold V.one at o1 o2
 simp[A.b194,aR,aC,ae,o1,o2]
 refine ay (Ym1 jv (by omega)) ?_
 rintro v1 h1 m1 k1 oP
 have eY:=k1.le
 have g1:=k1.get (N+1) (by omega)
 simp at g1
 have l1:N+1<m1:=by omega
 simp[g1,l1,aR,aC]
 refine ay (Ym1 (wz.ad k1) (by omega)) ?_
 rintro v2 h2 m2 k2 jL
 have Ii:=oP.ad k2
 have k12:=k1.trans k2
 have gI:=k2.le
 obtain⟨n3,u3,rfl,o3⟩:=oP.cells
 obtain⟨n4,u4,rfl,o4⟩:=jL.cells
 unfold V.one at o3 o4
 have i0:=k12.get N (by omega)
 have i1:=k12.get (N+1) (by omega)
 have i2:=k12.get (N+1+1) (by omega)
 simp at i0 i1 i2
 have l2:N<m2:=by omega
 have l3:N+1<m2:=by omega
 have l4:N<m1:=by omega
 simp[i0,i1,aR,aC,ae,bD,o3,o4,l1,l2,l3,l4,cn.cr]
 have q1:=Ii.aH (c1:=[.int .i64 n3,u3]) (e1:=106) (w1:=true) i0 hx.nu rfl
 have s1:=jL.aH (c1:=[.int .i64 n3,u3]) (e1:=106) (w1:=true) i0 hx.nu rfl
 have i3:(h2.set N (.cells [.int .i64 n3,u3] 106 true)).get (N+1)=some (.cells [.int .i64 n2,u2] 106 true):=by rw[T.ag,ak (by omega)];exact i1
 have q2:=q1.aH (c1:=[.int .i64 n4,u4]) (e1:=106) (w1:=true) i3 hy.nu rfl
 have s2:=s1.aH (c1:=[.int .i64 n4,u4]) (e1:=106) (w1:=true) i3 hy.nu rfl
 have wa:wl (a.natAbs:Int)=wl a:=by unfold wl;rw[dH]
 have wb:wl (b.natAbs:Int)=wl b:=by unfold wl;rw[dH]
 refine bA [(5,6),(11,21)] _ (Sp h N (Int.gcd a b)) b.natAbs ?_ (Ykc (by simp) (by simp)) ?_
 ·refine⟨by simp[ar],((kk.trans k12).set (aO _)).set (by omega),by show N+3<=m2;omega,?_,n3,n4,u3,u4,a.natAbs,by simp,by simp,q2,s2,rfl,by rw[wa];exact la,by rw[wb];exact lb⟩
  rw[T.ag,ak (by omega),T.ag,ak (by omega)];exact i2
 rintro e r ⟨h5,m5,W5⟩ hr ⟨rfl,hW,hK,hle,al,n5,n6,u5,u6,p,g5,g6,hp,hm,hg,lp,lm⟩
 simp only at hW hK hle al g5 g6 hp hm
 obtain⟨_,_,e5,o5⟩:=hp.cells
 simp only[V.agg.injEq,gU,V.int.injEq,true_and,and_true]at e5
 obtain⟨rfl,rfl⟩:=e5
 unfold V.one at o5
 rw[Nat.gcd_zero_right]at hg
 have FZ:h5.get (N+1+1)=some (.cells [.int .i64 0,.aa] 106 true):=al
 have ix:¬N+1+1<N:=by omega
 simp[hr,g5,FZ,aR,aC,ae,bD,o5,az,hW,ix]
 exact⟨hK.set (by omega),by rw[<-hg];exact hp.aH FZ (by simp) rfl⟩
def A.b43:=A.q Tryz.f43
def A.k43:=@A.kk 43 7 [.tmp 4] A.b43 (by kernel_rfl) rfl
def A.b193:=A.q Tryz.f193
def A.k193:=@A.kk 193 7 [.tmp 4] A.b193 (by kernel_rfl) rfl
def N6{b:Bool}{e:Int}{st:St}:A.C.call (.func 43 [] []) [.bool b,.int .i64 e] st=some (.int .i64 (if b=true then e else 0),st):=by
 apply Call.eq
 rw[aM,A.k43 (by simp)]
 cases b<;>simp[A.b43]
def DP{b:Bool}{e:Int}{st:St}:A.C.call (.func 193 [] []) [.bool b,.int .i64 e] st=some (.int .i64 (if b=true then e else 0),st):=by
 apply Call.eq
 rw[aM,A.k193 (by simp)]
 cases b<;>simp[A.b193]
variable {s:aQ}
def A.b243:=A.q Tryz.f243
def A.k243:=@A.kk 243 18 [.tmp 4] A.b243 (by kernel_rfl) rfl
def A.b190:=A.q Tryz.f190
def A.k190:=@A.kk 190 11 [.tmp 4,.tmp 5] A.b190 (by kernel_rfl) rfl
def A.b234:=A.q Tryz.f234
def A.k234:=@A.kk 234 15 [.tmp 4,.tmp 5] A.b234 (by kernel_rfl) rfl
def A.b207:=A.q Tryz.f207
def A.k207:=@A.kk 207 8 [.tmp 4] A.b207 (by kernel_rfl) rfl
def A.b244:=A.q Tryz.f244
def A.k244:=@A.kk 244 13 [.tmp 4] A.b244 (by kernel_rfl) rfl
def A.b206:=A.q Tryz.f206
def A.k206:=@A.kk 206 8 [.tmp 4] A.b206 (by kernel_rfl) rfl
def A.b269:=A.q Tryz.f269
def A.k269:=@A.kk 269 8 [.tmp 4] A.b269 (by kernel_rfl) rfl
def A.Oa:=A.q Tryz.f242
def A.DQ:=A.ql A.Oa 0 []
def A.b242:=(fun x0=>A.qb A.Oa [x0]) A.DQ
def A.k242:=@A.kk 242 143 [.tmp 4] A.b242 (by kernel_rfl) rfl
def A.b205:=A.q Tryz.f205
def A.k205:=@A.kk 205 23 [.tmp 4,.tmp 5,.tmp 6] A.b205 (by kernel_rfl) rfl
def A.b157:=A.q Tryz.f157
def A.k157:=@A.kk 157 13 [.tmp 4,.tmp 5,.tmp 6] A.b157 (by kernel_rfl) rfl
def Ob{s:aQ}{st:St}:A.C.call (.func 243 [] []) [.str s,.str [45]] st=some (.bool (cy s),st):=by
 apply Call.eq
 rw[aM,A.k243 (by simp)]
 cases s with
 |nil=>simp[A.b243,cy]
 |cons c s=>
  have e:(([c]:aQ)==[45])=decide (c.toNat=45):=by
   rw[Bool.eq_iff_iff]
   simp only[beq_iff_eq,decide_eq_true_eq,gU,and_true]
   exact⟨fun h=>by rw[h];rfl,fun h=>UInt8.toNat_inj.1 h⟩
  have h1:(1:Int)<=(s.length:Int)+1:=by omega
  simp[A.b243,cy,aB,e,h1]
def Zur{st:St}:A.C.call (.func 190 [] []) [.str s,.str [45]] st=some (.aV [.str (bk s),.bool (cy s)],st):=by
 apply Call.eq
 rw[aM,A.k190 (by simp)]
 simp[A.b190]
 rw[A.k234 (by simp)]
 by_cases hn:cy s=true
 ·have h1:1<=s.length:=by cases s<;>simp[cy]at hn ⊢
  have fO:(1:Int)<=s.length:=by omega
  simp[A.b234,Ob,hn,aB,fO,bk]
 ·simp[A.b234,Ob,hn,bk]
def Zkj{st:St}:A.C.call (.func 207 [] []) [.str s,.str [45]] st=some (.str (bk s),st):=by
 apply Call.eq
 rw[aM,A.k207 (by simp)]
 simp[A.b207]
 rw[A.k244 (by simp)]
 by_cases hn:cy s=true
 ·have h1:1<=s.length:=by cases s<;>simp[cy]at hn ⊢
  have fO:(1:Int)<=s.length:=by omega
  simp[A.b244,Ob,hn,aB,fO,bk]
 ·simp[A.b244,Ob,hn,bk]
def Zuc{st:St}:A.C.call (.func 206 [] []) [.str s,.str [45]] st=some (.bool (cy s),st):=by
 apply Call.eq
 rw[aM,A.k206 (by simp)]
 simp[A.b206,Ob]
def Zub{st:St}:A.C.call (.func 269 [] []) [.str s,.int .u8 47] st=some (.int .i64 (if ah s<s.length then (ah s:Int) else -1),st):=by
 apply Call.eq
 rw[aM,A.k269 (by simp)]
 have e:=Zk6 s 0
 simp only[xP]at e
 simp[A.b269,HX,CY,e]
def Zym{st:St}:A.C.call (.func 242 [] []) [.str s,.str [47]] st=some (.int .i64 (if ah s<s.length then (ah s:Int) else -1),st):=by
 apply Call.eq
 rw[aM,A.k242 (by simp)]
 by_cases hs:s=[47]
 ·subst hs
  simp[A.b242,ah]
 ·have e1:(([47]:aQ)==s)=false:=by simp;exact fun h=>hs h.symm
  have e2:cK 47=47:=rfl
  simp[A.b242,Zub,e1,e2]
def Ymt{st:St}(hl:s.length<4611686018427387904):A.C.call (.func 157 [] []) [.str s,.str [47]] st=some (.aV [.str (s.take (ah s)),.str (s.drop (ah s+1)),.bool (decide (ah s<s.length))],st):=by
 apply Call.eq
 rw[aM,A.k157 (by simp)]
 simp[A.b157]
 rw[A.k205 (by simp)]
 have hle:=FF s
 by_cases hs:ah s<s.length
 ·simp(disch:=first|(simp;done)|omega|(simp only[bB,cC,bo];omega)|rfl) [A.b205,Zym,hs,aB]
  try omega
 ·have:s.take (ah s)=s:=fb (by omega)
  have h2:s.drop (ah s+1)=[]:=qh (by omega)
  simp(disch:=first|(simp;done)|omega|(simp only[bB,cC,bo];omega)|rfl) [-getElem?_pos,A.b205,Zym,hs,this,h2]
end
end Go.Mx
