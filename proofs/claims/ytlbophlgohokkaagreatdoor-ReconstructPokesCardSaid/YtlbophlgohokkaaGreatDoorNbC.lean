/-
  num.Int: DivMod, Quo, Gcd.
-/
import Derived.Test.YtlbophlgohokkaaGreatDoorRcM
import Derived.Test.YtlbophlgohokkaaGreatDoorMxDec
set_option linter.all false
namespace Go.Mx
open Go Go.Proofs
variable {N:Nat} {a b:Int} {h:T O} {r0:T V} {x y:V}
set_option maxHeartbeats 2000000
set_option maxRecDepth 1000000
def A.pd:aq:=.seq (.aV [lN 82 2 14,lN 83 2 15,⟨none,.store 2 (.tmp 4) (.tmp 82),none⟩,⟨none,.store 2 (.tmp 5) (.tmp 83),none⟩] [0,0,1,7])
 (.ret)
def A.kQ:aq:=sr [lN 52 2 2,c1 53 222 52,mv 51 53,xt 54 51 0,xt 55 51 1,mv 8 54,mv 9 55]
 (sr [lN 57 2 3,c1 58 222 57,mv 56 58,xt 59 56 0,xt 60 56 1,mv 10 59,mv 11 60]
 (sr [mv 62 9,mv 63 11,c2 64 242 62 63,mv 61 64,xt 65 61 0,xt 66 61 1,mv 12 65,mv 13 66]
 (sr [mv 67 8,mv 68 12,c2 69 223 67 68,mv 70 8,mv 71 13,c2 72 223 70 71,⟨(some 14),.alloc [(.int .i64 0),.aa] 112,none⟩,⟨(some 15),.alloc [(.int .i64 0),.aa] 112,none⟩,⟨none,.store 2 (.tmp 14) (.tmp 69),none⟩,⟨none,.store 2 (.tmp 15) (.tmp 72),none⟩]
 (.seq (sr [lN 73 2 15,c1 74 199 73,bc 75 .lss 74 0]
 (cd 75
 (.aV [lN 76 2 14,⟨(some 77),.call (.const (.func 190 [] [])) [(.const (.int .i64 1))],none⟩,c2 78 261 76 77,lN 79 2 15,lN 80 2 3,c2 81 192 79 80,⟨none,.store 2 (.tmp 14) (.tmp 78),none⟩,⟨none,.store 2 (.tmp 15) (.tmp 81),none⟩] [0,0,3,0,0,31,63,127])
 (.skip)))
 A.pd))))
def A.b260:aq:=sr [bx 2 112 0,bx 3 112 1,⟨(some 4),.alloc [(.int .i64 0),.aa] 112,none⟩,⟨(some 5),.alloc [(.int .i64 0),.aa] 112,none⟩]
 (.seq (sr [fa 16 1 2,ld 17 16,⟨(some 18),.bin .eql (.aI .slice) true (.tmp 17) (.const .aa),none⟩,mv 19 18,⟨(some 20),.de 1 (.tmp 3),(some (19,true))⟩,⟨(some 21),.load none (.tmp 20),(some (19,true))⟩,⟨(some 22),.bin .eql (.aI .slice) true (.tmp 21) (.const .aa),(some (19,true))⟩,pf 23 19 22,mv 24 23,⟨(some 25),.de 0 (.tmp 2),(some (24,true))⟩,⟨(some 26),.load none (.tmp 25),(some (24,true))⟩,⟨(some 27),.bin .neq (.aI .int) true (.tmp 26) (.const (.int .i64 (-9223372036854775808))),(some (24,true))⟩,pf 28 24 27]
 (cd 28
 (.seq (.aV [fa 29 0 2,ld 30 29,fa 31 0 3,ld 32 31,bi 33 .quo 30 32,fa 34 0 2,ld 35 34,fa 36 0 3,ld 37 36,bi 38 .rem 35 37,mv 6 33,mv 7 38] [0,1,0,4,15,0,32,0,128,480,31,2047])
 (.seq (sr [mv 39 7,bc 40 .lss 39 0]
 (cd 40
 (.aV [mv 41 6,bc 42 .sub 41 1,mv 43 7,fa 44 0 3,ld 45 44,bi 46 .add 43 45,mv 6 42,mv 7 46] [0,1,0,0,8,28,3,127])
 (.skip)))
 (sr [mv 47 6,⟨(some 48),.build [(.int .i64 0),.aa] [(0,1,(.tmp 47))],none⟩,mv 49 7,⟨(some 50),.build [(.int .i64 0),.aa] [(0,1,(.tmp 49))],none⟩,⟨none,.store 2 (.tmp 4) (.tmp 48),none⟩,⟨none,.store 2 (.tmp 5) (.tmp 50),none⟩]
 (.ret))))
 (.skip)))
 A.kQ)
theorem A.c260:A.F 260=some ⟨84,[.cell 4 (some 2),.cell 5 (some 2)],A.b260⟩:=by kernel_rfl
def A.k260:=@A.kk 260 _ _ _ A.c260 rfl
def A.b219:aq:=sr [bx 2 112 0,bx 3 112 1,⟨(some 4),.alloc [(.int .i64 0),.aa] 112,none⟩]
 (.seq (sr [lN 7 2 3,c1 8 199 7,bc 9 .lss 8 0]
 (cd 9
 (.aV [lN 10 2 2,c1 11 218 10,lN 12 2 3,c1 13 218 12,⟨none,.store 2 (.tmp 2) (.tmp 11),none⟩,⟨none,.store 2 (.tmp 3) (.tmp 13),none⟩] [0,1,0,7,15,31])
 (.skip)))
 (sr [lN 15 2 2,lN 16 2 3,c2 17 260 15 16,mv 14 17,xt 18 14 0,xt 19 14 1,⟨(some 5),.alloc [(.int .i64 0),.aa] 112,none⟩,⟨(some 6),.alloc [(.int .i64 0),.aa] 112,none⟩,⟨none,.store 2 (.tmp 5) (.tmp 18),none⟩,⟨none,.store 2 (.tmp 6) (.tmp 19),none⟩]
 (sr [lN 20 2 5,⟨none,.store 2 (.tmp 4) (.tmp 20),none⟩]
 (.ret))))
theorem A.c219:A.F 219=some ⟨21,[.cell 4 (some 2)],A.b219⟩:=by kernel_rfl
def A.k219:=@A.kk 219 _ _ _ A.c219 rfl
def A.pe:aq:=.seq (sr [lN 11 2 3,c1 12 199 11,ni 13 12 0]
 (cd 13
 (.skip)
 (.exit 0)))
 (.block 1 (sr [lN 15 2 2,lN 16 2 3,c2 17 260 15 16,mv 14 17,xt 18 14 0,xt 19 14 1,⟨(some 5),.alloc [(.int .i64 0),.aa] 112,none⟩,⟨(some 6),.alloc [(.int .i64 0),.aa] 112,none⟩,⟨none,.store 2 (.tmp 5) (.tmp 18),none⟩,⟨none,.store 2 (.tmp 6) (.tmp 19),none⟩]
 (.aV [lN 20 2 3,lN 21 2 6,⟨none,.store 2 (.tmp 2) (.tmp 20),none⟩,⟨none,.store 2 (.tmp 3) (.tmp 21),none⟩] [0,0,1,7])))
def A.b216:aq:=sr [bx 2 112 0,bx 3 112 1,⟨(some 4),.alloc [(.int .i64 0),.aa] 112,none⟩]
 (.seq (.aV [lN 7 2 2,c1 8 259 7,lN 9 2 3,c1 10 259 9,⟨none,.store 2 (.tmp 2) (.tmp 8),none⟩,⟨none,.store 2 (.tmp 3) (.tmp 10),none⟩] [0,1,0,7,15,31])
 (.seq (.block 0 (.loop A.pe))
 (sr [lN 22 2 2,⟨none,.store 2 (.tmp 4) (.tmp 22),none⟩]
 (.ret))))
theorem A.c216:A.F 216=some ⟨23,[.cell 4 (some 2)],A.b216⟩:=by kernel_rfl
def A.k216:=@A.kk 216 _ _ _ A.c216 rfl
theorem Zw3(hb:0<b):(if a.tmod b<0 then a.tdiv b-1 else a.tdiv b)=a/b/\(if a.tmod b<0 then a.tmod b+b else a.tmod b)=a%b:=by
 have h1:=Int.mul_tdiv_add_tmod a b
 have h2:=Int.tmod_lt_of_pos a hb
 have h3: -b<a.tmod b:=by
  have:=Int.tmod_lt_of_pos (-a) hb
  rw[Int.neg_tmod]at this
  omega
 have key:∀q r:Int,b*q+r=a->0<=r->r<b->q=a/b/\r=a%b:=by
  intro q r e r0 r1
  have:=(Int.ediv_emod_unique hb (r:=r) (q:=q) (a:=a)).2 ⟨by omega,r0,r1⟩
  exact⟨this.1.symm,this.2.symm⟩
 by_cases h:a.tmod b<0
 ·rw[aF h,aF h]
  exact key _ _ (by rw[Int.mul_sub];omega) (by omega) (by omega)
 ·rw[au h,au h]
  exact key _ _ (by omega) (by omega) h2
theorem Yd1(hb:0<b):∀q r:Int,q=(if decide (a<0)=true then -((a.natAbs/b.natAbs:Nat):Int) else (a.natAbs/b.natAbs:Nat))->r=(if decide (a<0)=true then -((a.natAbs%b.natAbs:Nat):Int) else (a.natAbs%b.natAbs:Nat))->(if r<0 then q-1 else q)=a/b/\(if r<0 then r+b else r)=a%b:=by
 intro q r hq hr
 have h1:=ri a.natAbs b.natAbs
 have h2:=jg a.natAbs (show 0<b.natAbs by omega)
 have hbe:(b.natAbs:Int)=b:=by omega
 have gh:b*((a.natAbs/b.natAbs:Nat):Int)+((a.natAbs%b.natAbs:Nat):Int)=a.natAbs:=by
  rw[<-hbe,<-FX,<-Int.natCast_add,dm,h1]
 have key:∀q r:Int,b*q+r=a->0<=r->r<b->q=a/b/\r=a%b:=by
  intro q r e r0 r1
  have:=(Int.ediv_emod_unique hb (r:=r) (q:=q) (a:=a)).2 ⟨by omega,r0,r1⟩
  exact⟨this.1.symm,this.2.symm⟩
 generalize a.natAbs/b.natAbs=Q at*
 generalize a.natAbs%b.natAbs=R at*
 by_cases ha:a<0
 ·simp only[ha,decide_true,if_true]at hq hr
  subst hq hr
  by_cases h: -(R:Int)<0
  ·rw[aF h,aF h]
   exact key _ _ (by rw[Int.mul_sub,Int.mul_neg];omega) (by omega) (by omega)
  ·rw[au h,au h]
   exact key _ _ (by rw[Int.mul_neg];omega) (by omega) (by omega)
 ·simp only[ha,decide_false,fx,if_false]at hq hr
  subst hq hr
  rw[au (by omega),au (by omega)]
  exact key _ _ (by omega) (by omega) (by omega)
theorem Ynb(hb:0<b):wl (a%b)<=wl b:=by
 apply Eo
 have h1:=Bo a hb
 have h2:=Bm a (show b≠0 by omega)
 omega
theorem Z5{c:Bool}{n:Nat}:(if c=true then -(n:Int) else (n:Int)).natAbs=n:=by split<;>omega
theorem Z6{H:T O}{n m:Nat}{nq nr q s:Int}{uq ur:V}{W:List Nat}(hW:ad N W=[])(hK:ab h N H n)(hm:N+4<=m)(hmn:m+1<n)(hq:In H n (.agg [.int .i64 nq,uq]) q)(hr:In H n (.agg [.int .i64 nr,ur]) s)(oq:V.one uq=true)(or:V.one ur=true)
  (gz:H.get (N+2)=some (.cells [.int .i64 0,.aa] 112 true)) (gt:H.get (N+3)=some (.cells [.int .i64 0,.aa] 112 true)) (gq:H.get m=some (.cells [.int .i64 nq,uq] 112 true)) (gr:H.get (m+1)=some (.cells [.int .i64 nr,ur] 112 true))
  (r4:r0.get 4=some (.ptr (N+2) 0)) (r5:r0.get 5=some (.ptr (N+3) 0)) (GP:r0.get 14=some (.ptr m 0)) (r15:r0.get 15=some (.ptr (m+1) 0)):
  Code A.C none A.pd ⟨r0,84,[]⟩ ⟨H,n,W⟩ (fun e fr st=>e=.ret/\∃r,fr=⟨r,84,[]⟩/\r.get 4=some (.ptr (N+2) 0)/\r.get 5=some (.ptr (N+3) 0)/\Ep h N (N+2) q st/\Ep h N (N+3) s st):=by
 have n1:m<n:=by omega
 have n2:N+2<n:=by omega
 have n3:N+3<n:=by omega
 have d1:¬m=N+2:=by omega
 have d2:¬m=N+3:=by omega
 have d3:¬N+2=m:=by omega
 have d4:¬N+3=m:=by omega
 have d5:¬N+2=m+1:=by omega
 have d6:¬N+3=m+1:=by omega
 have d7:¬m+1=N+2:=by omega
 have d8:¬m+1=N+3:=by omega
 have d9:¬N+3=N+2:=by omega
 have d10:¬N+2=N+3:=by omega
 rw[bA]
 have k1:=(hK.set (i:=N+2) (o:=.cells [.int .i64 nq,uq] 112 true) (by omega)).set (i:=N+3) (o:=.cells [.int .i64 nr,ur] 112 true) (by omega)
 have jK:=(hq.aE (c1:=[.int .i64 nq,uq]) (e1:=112) (w1:=true) gz (by simp) rfl)
 have ew:=(hr.aE (c1:=[.int .i64 nq,uq]) (e1:=112) (w1:=true) gz (by simp) rfl)
 have Z7:(H.set (N+2) (.cells [.int .i64 nq,uq] 112 true)).get (N+3)=some (.cells [.int .i64 0,.aa] 112 true):=by rw[T.ai,au d9];exact gt
 have TT:=(jK.aE (c1:=[.int .i64 nr,ur]) (e1:=112) (w1:=true) Z7 (by simp) rfl)
 have uz:=(ew.aE (c1:=[.int .i64 nr,ur]) (e1:=112) (w1:=true) Z7 (by simp) rfl)
 have eE:ad N ((N+3)::(N+2)::W)=[]:=by simp[ad,hW]
 unfold V.one at oq or
 simp(disch:=omega) [A.pd,r4,r5,GP,r15,gz,gt,gq,gr,n1,n2,n3,hmn,oq,or,aU,aJ,ag,bW]
 rw[DM (by simp[d3,d4,d5,d6]<;>omega)]
 simp[r4,r5]
 exact⟨⟨eE,k1,nq,uq,by simp,TT⟩,⟨eE,k1,nr,ur,by simp,uz⟩⟩
theorem Yl2{H:T O}{n1 n2:Int}{u1 u2:V}(hx:In H (N+4) (.agg [.int .i64 n1,u1]) a)(hy:In H (N+4) (.agg [.int .i64 n2,u2]) b)(hb:0<b)(la:wl a<10000000000)(lb:wl b<10000000000)(hK:ab h N H (N+4))(oy:V.one u2=true)
  (gx:H.get N=some (.cells [.int .i64 n1,u1] 112 true)) (gy:H.get (N+1)=some (.cells [.int .i64 n2,u2] 112 true)) (gz:H.get (N+2)=some (.cells [.int .i64 0,.aa] 112 true)) (gt:H.get (N+3)=some (.cells [.int .i64 0,.aa] 112 true)) (r2:r0.get 2=some (.ptr N 0)) (r3:r0.get 3=some (.ptr (N+1) 0)) (r4:r0.get 4=some (.ptr (N+2) 0)) (r5:r0.get 5=some (.ptr (N+3) 0)):
  Code A.C none A.kQ ⟨r0,84,[]⟩ ⟨H,N+4,[]⟩ (fun e fr st=>e=.ret/\∃r,fr=⟨r,84,[]⟩/\r.get 4=some (.ptr (N+2) 0)/\r.get 5=some (.ptr (N+3) 0)/\Ep h N (N+2) (a/b) st/\Ep h N (N+3) (a%b) st):=by
 rw[bA]
 simp[A.kQ,r2,gx,aU,aJ]
 refine ax (AE hx) ?_
 rintro _ h1 N1 k1 ⟨ua,rfl,JM⟩
 have eR:=k1.le
 have JN:=(k1.get (N+1) (by omega)).trans gy
 simp[r3,JN,aU,aJ]
 refine ax (AE (hy.ae k1)) ?_
 rintro _ h2 N2 k2 ⟨ub,rfl,Er⟩
 have f_:=k2.le
 have sL:=JM.ae k2
 have Cl:(aC a.natAbs).length<10000000000:=la
 have Nm:(aC b.natAbs).length<10000000000:=lb
 simp[]
 refine ax (Zv sL Er (by omega) (by omega) (by omega)) ?_
 rintro _ h3 N3 k3 ⟨q,r,rfl,hq,hr⟩
 simp[]
 have lq:=Cd (rS a.natAbs b.natAbs)
 have lr:=Cd (Nat.mod_le a.natAbs b.natAbs)
 refine ax (Ci hq (by omega)) ?_
 rintro vq h4 N4 k4 Es
 simp[]
 refine ax (Ci (hr.ae k4) (by omega)) ?_
 rintro vr h5 N5 k5 TU
 have kA:=(((k1.trans k2).trans k3).trans k4).trans k5
 have zas:=kA.le
 have TV:=Es.ae k5
 have gy5:=(kA.get (N+1) (by omega)).trans gy
 have gz5:=(kA.get (N+2) (by omega)).trans gz
 have gt5:=(kA.get (N+3) (by omega)).trans gt
 obtain⟨qv,Ee⟩:∃q,(if decide (a<0)=true then -((a.natAbs/b.natAbs:Nat):Int) else (a.natAbs/b.natAbs:Nat))=q:=⟨_,rfl⟩
 obtain⟨rv,Ef⟩:∃q,(if decide (a<0)=true then -((a.natAbs%b.natAbs:Nat):Int) else (a.natAbs%b.natAbs:Nat))=q:=⟨_,rfl⟩
 rw[Ee]at TV
 rw[Ef]at TU
 obtain⟨e1,e2⟩:=Yd1 hb qv rv Ee.symm Ef.symm
 have wq:wl qv<20000000000:=by
  have:qv.natAbs=a.natAbs/b.natAbs:=by rw[<-Ee];exact Z5
  unfold wl;rw[this];omega
 have wr:wl rv<20000000000:=by
  have:rv.natAbs=a.natAbs%b.natAbs:=by rw[<-Ef];exact Z5
  unfold wl;rw[this];omega
 obtain⟨nq,uq,rfl,oq⟩:=TV.cells
 obtain⟨nr,ur,rfl,or⟩:=TU.cells
 have kB:=fun o1 o2=>aL (aL (ab.refl (h:=h5) (n:=N5)) o1) o2
 have oq':=oq
 have or':=or
 unfold V.one at oq or oy
 have d1:¬N5=N5+1:=by omega
 have gq6:(((h5.set N5 (.cells [.int .i64 0,.aa] 112 true)).set (N5+1) (.cells [.int .i64 0,.aa] 112 true)).set N5 (.cells [.int .i64 nq,uq] 112 true)).get N5=some (.cells [.int .i64 nq,uq] 112 true):=by simp
 simp[oq,or,ag,bW,aU,aJ]
 have kC:=((kB (.cells [.int .i64 0,.aa] 112 true) (.cells [.int .i64 0,.aa] 112 true)).set (i:=N5) (o:=.cells [.int .i64 nq,uq] 112 true) (aS _)).set (i:=N5+1) (o:=.cells [.int .i64 nr,ur] 112 true) (by omega)
 generalize Z8:(((h5.set N5 (.cells [.int .i64 0,.aa] 112 true)).set (N5+1) (.cells [.int .i64 0,.aa] 112 true)).set N5 (.cells [.int .i64 nq,uq] 112 true)).set (N5+1) (.cells [.int .i64 nr,ur] 112 true)=H6 at*
 have q6:H6.get N5=some (.cells [.int .i64 nq,uq] 112 true):=by rw[<-Z8];simp
 have r6:H6.get (N5+1)=some (.cells [.int .i64 nr,ur] 112 true):=by rw[<-Z8];simp
 have JO:=TV.ae kC
 have Z9:=TU.ae kC
 have gy6:=(kC.get (N+1) (by omega)).trans gy5
 have gz6:=(kC.get (N+2) (by omega)).trans gz5
 have gt6:=(kC.get (N+3) (by omega)).trans gt5
 refine ax (GS Z9) ?_
 rintro _ h7 N7 k7 rfl
 have zat:=k7.le
 have q7:=(k7.get N5 (by omega)).trans q6
 have r7:=(k7.get (N5+1) (by omega)).trans r6
 have gy7:=(k7.get (N+1) (by omega)).trans gy6
 have gz7:=(k7.get (N+2) (by omega)).trans gz6
 have gt7:=(k7.get (N+3) (by omega)).trans gt6
 have JP:=JO.ae k7
 have JQ:=Z9.ae k7
 have kF:=((hK.trans kA).trans kC).trans k7
 have iV:¬N5<N:=by omega
 have j0:¬N5+1<N:=by omega
 have hWW:ad N [N5+1,N5]=[]:=by simp[ad,iV,j0]
 by_cases dR:rv<0
 ·have c1:fM rv<0:=by simp[fM,dR]
  rw[aF dR]at e1 e2
  have hn7:N5<N7:=by omega
  have zau:N5+1<N7:=by omega
  have hny:N+1<N7:=by omega
  simp[c1,q7,aU,aJ,hn7]
  refine ax Eh ?_
  rintro _ h8 N8 k8 rfl
  simp[]
  refine ax (Yh0 (JP.ae k8) (In.small (z:=1) (by omega) (by omega)) (by omega) (by decide+kernel)) ?_
  rintro vq9 h9 N9 k9 hq9
  have k89:=k8.trans k9
  have r9:=(k89.get (N5+1) (by omega)).trans r7
  have y9:=(k89.get (N+1) (by omega)).trans gy7
  have hr9:=JQ.ae k89
  have hb9:In h9 N9 (.agg [.int .i64 n2,u2]) b:=(((((hy.ae k1).ae k2).ae k3).ae k4).ae k5 |>.ae kC |>.ae k7).ae k89
  have zaa:=k89.le
  have z1:N5+1<N9:=by omega
  have z2:N+1<N9:=by omega
  simp[r3,r9,y9,aU,aJ,z1,z2]
  refine ax (JR hr9 hb9 (by omega) (by omega)) ?_
  rintro zav eM N10 k10 JS
  have zab:=k10.le
  have JT:=hq9.ae k10
  obtain⟨Nn,Np,rfl,TW⟩:=JT.cells
  obtain⟨TX,TY,rfl,TZ⟩:=JS.cells
  have T0:=(k10.get N5 (by omega)).trans ((k89.get N5 (by omega)).trans q7)
  have rB:=(k10.get (N5+1) (by omega)).trans r9
  have Qr:=(k10.get (N+2) (by omega)).trans ((k89.get (N+2) (by omega)).trans gz7)
  have t10:=(k10.get (N+3) (by omega)).trans ((k89.get (N+3) (by omega)).trans gt7)
  have T1:=TW
  have T2:=TZ
  unfold V.one at TW TZ
  have z3:N5<N10:=by omega
  have z4:N5+1<N10:=by omega
  simp[T0,rB,TW,TZ,ag,bW,z3,z4]
  have q11:=JT.aE (c1:=[.int .i64 Nn,Np]) (e1:=112) (w1:=true) T0 JP.nu rfl
  have sM:=JS.aE (c1:=[.int .i64 Nn,Np]) (e1:=112) (w1:=true) T0 JP.nu rfl
  have JU:(eM.set N5 (.cells [.int .i64 Nn,Np] 112 true)).get (N5+1)=some (.cells [.int .i64 nr,ur] 112 true):=by rw[T.ai,au (by omega)];exact rB
  have q12:=q11.aE (c1:=[.int .i64 TX,TY]) (e1:=112) (w1:=true) JU JQ.nu rfl
  have JV:=sM.aE (c1:=[.int .i64 TX,TY]) (e1:=112) (w1:=true) JU JQ.nu rfl
  rw[e1]at q12
  rw[e2]at JV
  have kG:=(((kF.trans k89).trans k10).set (i:=N5) (o:=.cells [.int .i64 Nn,Np] 112 true) (by omega)).set (i:=N5+1) (o:=.cells [.int .i64 TX,TY] 112 true) (by omega)
  refine oU (Z6 (m:=N5) (by simp[ad,iV,j0]) kG (by omega) (by omega) q12 JV T1 T2 (by rw[T.ai,au (by omega),T.ai,au (by omega)];exact Qr) (by rw[T.ai,au (by omega),T.ai,au (by omega)];exact t10) (by simp) (by simp) (by simp[r4]) (by simp[r5]) (by simp) (by simp)) ?_
  rintro e fr st ⟨rfl,r,rfl,p1,p2,p3,p4⟩
  simp[p1,p2]
  exact⟨p3,p4⟩
 ·have c1:¬fM rv<0:=by unfold fM;rw[au dR];split<;>omega
  rw[au dR]at e1 e2
  rw[e1]at JP
  rw[e2]at JQ
  simp[c1]
  refine oU (Z6 hWW kF (by omega) (by omega) JP JQ oq' or' gz7 gt7 q7 r7 (by simp[r4]) (by simp[r5]) (by simp) (by simp)) ?_
  rintro e fr st ⟨rfl,r,rfl,p1,p2,p3,p4⟩
  simp[p1,p2]
  exact⟨p3,p4⟩
theorem Zse(hx:In h N x a)(hy:In h N y b)(hb:0<b)(la:wl a<10000000000)(lb:wl b<10000000000):Fn A.C 260 [x,y] h N (fun v h' n'=>∃q r,v=.aZ [q,r]/\In h' n' q (a/b)/\In h' n' r (a%b)):=by
 intro w
 rw[aR,A.k260 (by simp)]
 obtain⟨n1,u1,rfl,o1⟩:=hx.cells
 obtain⟨n2,u2,rfl,o2⟩:=hy.cells
 have kk:=aL (aL (aL (aL (ab.refl (h:=h) (n:=N)) (.cells [.int .i64 n1,u1] 112 true)) (.cells [.int .i64 n2,u2] 112 true)) (.cells [.int .i64 0,.aa] 112 true)) (.cells [.int .i64 0,.aa] 112 true)
 have o2':=o2
 unfold V.one at o1 o2
 have go:∀r:T V,r.get 2=some (.ptr N 0)->r.get 3=some (.ptr (N+1) 0)->r.get 4=some (.ptr (N+2) 0)->r.get 5=some (.ptr (N+3) 0)->bF A.C [.fin [.cell 4 (some 2),.cell 5 (some 2)] ⟨h,N,w⟩] (eL (A.C.code none A.kQ ⟨r,84,[]⟩ ⟨(((h.set N (.cells [.int .i64 n1,u1] 112 true)).set (N+1) (.cells [.int .i64 n2,u2] 112 true)).set (N+1+1) (.cells [.int .i64 0,.aa] 112 true)).set (N+1+1+1) (.cells [.int .i64 0,.aa] 112 true),N+1+1+1+1,[]⟩)) (Ak (aA (fun v h' n'=>∃q r,v=.aZ [q,r]/\In h' n' q (a/b)/\In h' n' r (a%b)) h N w)):=by
  intro r r2 r3 r4 r5
  refine oU (Yl2 (hx.ae kk) (hy.ae kk) hb la lb kk o2' (by simp) (by simp) (by simp) (by simp) r2 r3 r4 r5) ?_
  rintro e fr ⟨h5,n5,w5⟩ ⟨rfl,r',rfl,JW,r5',⟨hW,hK,n6,u6,g6,hi⟩,⟨_,_,n7,u7,g7,hi7⟩⟩
  simp only at hW hK g6 hi g7 hi7
  simp[JW,r5',g6,g7,aU,aJ,aA,hW]
  exact⟨hK,_,_,⟨rfl,rfl⟩,hi,hi7⟩
 rcases id hx with⟨e1,s1,s2⟩|⟨i,o,l,c,e1,_⟩
 ·simp only[V.agg.injEq,gK,V.int.injEq,true_and,and_true]at e1
  obtain⟨rfl,rfl⟩:=e1
  rcases id hy with⟨e2,t1,t2⟩|⟨i,o,l,c,e2,_⟩
  ·simp only[V.agg.injEq,gK,V.int.injEq,true_and,and_true]at e2
   obtain⟨rfl,rfl⟩:=e2
   by_cases qM:n1= -9223372036854775808
   ·simp[A.b260,aU,dJ,qM]
    subst qM
    exact go _ (by simp) (by simp) (by simp) (by simp)
   ·have hz:¬n2=0:=by omega
    obtain⟨f1,f2⟩:=Zw3 (a:=n1) hb
    have b1:(n1.tdiv n2).natAbs<=n1.natAbs:=by rw[Int.natAbs_tdiv];exact rS _ _
    have b2:(n1.tmod n2).natAbs<=n1.natAbs:=by rw[Int.natAbs_tmod];exact Nat.mod_le _ _
    have b3:=Int.tmod_lt_of_pos n1 hb
    obtain⟨q,hq⟩:∃q,n1.tdiv n2=q:=⟨_,rfl⟩
    obtain⟨s,hs⟩:∃q,n1.tmod n2=q:=⟨_,rfl⟩
    rw[hq]at b1 f1
    rw[hs]at b2 b3 f1 f2
    have w1:bn .i64 q=q:=cj (by omega) (by omega)
    have d1:¬N=N+1:=by omega
    by_cases dR:s<0
    ·rw[aF dR]at f1 f2
     have w2:bn .i64 (s+n2)=s+n2:=cj (by omega) (by omega)
     have vn: -9223372036854775808<q:=by
      have:=Int.mul_tdiv_add_tmod n1 n2
      omega
     have w3:bn .i64 (q-1)=q-1:=cj (by omega) (by omega)
     simp[A.b260,aU,aJ,ag,dJ,qM,hz,hq,hs,w1,w2,w3,dR,aA,dw.dB]
     exact⟨(kk.set (by omega)).set (by omega),_,_,⟨rfl,rfl⟩,by rw[<-f1];exact In.small (by omega) (by omega),by rw[<-f2];exact In.small (by omega) (by omega)⟩
    ·rw[au dR]at f1 f2
     simp[A.b260,aU,aJ,ag,dJ,qM,hz,hq,hs,w1,dR,aA,dw.dB]
     exact⟨(kk.set (by omega)).set (by omega),_,_,⟨rfl,rfl⟩,by rw[<-f1];exact In.small (by omega) (by omega),by rw[<-f2];exact In.small (by omega) (by omega)⟩
  ·simp only[V.agg.injEq,gK,V.int.injEq,true_and,and_true]at e2
   obtain⟨rfl,rfl⟩:=e2
   simp[A.b260,aU,dJ]
   exact go _ (by simp) (by simp) (by simp) (by simp)
 ·simp only[V.agg.injEq,gK,V.int.injEq,true_and,and_true]at e1
  obtain⟨rfl,rfl⟩:=e1
  simp[A.b260,aU,dJ,o2]
  exact go _ (by simp) (by simp) (by simp) (by simp)
theorem Yh4(hx:In h N x a)(hy:In h N y b)(hb:0<b)(la:wl a<10000000000)(lb:wl b<10000000000):Fn A.C 219 [x,y] h N (fun v h' n'=>In h' n' v (a/b)):=by
 intro w
 rw[aR,A.k219 (by simp)]
 obtain⟨n1,u1,rfl,o1⟩:=hx.cells
 obtain⟨n2,u2,rfl,o2⟩:=hy.cells
 have kk:=aL (aL (aL (ab.refl (h:=h) (n:=N)) (.cells [.int .i64 n1,u1] 112 true)) (.cells [.int .i64 n2,u2] 112 true)) (.cells [.int .i64 0,.aa] 112 true)
 have mR:=hx.ae kk
 have sC:=hy.ae kk
 have uE:=GS sC
 unfold V.one at o1 o2
 have c1:¬fM b<0:=by unfold fM;rw[au (by omega)];split<;>omega
 simp[A.b219,aU,aJ,o1,o2]
 refine ax uE ?_
 rintro _ h1 m1 k1 rfl
 have eR:=k1.le
 have g0:=k1.get N (by omega)
 have g1:=k1.get (N+1) (by omega)
 have g2:=k1.get (N+1+1) (by omega)
 simp at g0 g1 g2
 simp[c1,g0,g1,aU,aJ]
 refine ax (Zse (mR.ae k1) (sC.ae k1) hb la lb) ?_
 rintro _ h2 m2 k2 ⟨q,r,rfl,hq,hr⟩
 have f_:=k2.le
 have g22:=(k2.get (N+1+1) (by omega)).trans g2
 obtain⟨n3,u3,rfl,o3⟩:=hq.cells
 obtain⟨n4,u4,rfl,o4⟩:=hr.cells
 unfold V.one at o3 o4
 have d1:¬m2=m2+1:=by omega
 have d2:¬N+1+1=m2:=by omega
 have d3:¬N+1+1=m2+1:=by omega
 have iV:¬m2<N:=by omega
 have Et:¬m2+1<N:=by omega
 have j0:¬N+1+1<N:=by omega
 have kE:=((aL (aL (ab.refl (h:=h2) (n:=m2)) (.cells [.int .i64 0,.aa] 112 true)) (.cells [.int .i64 0,.aa] 112 true)).set (i:=m2) (o:=.cells [.int .i64 n3,u3] 112 true) (aS _)).set (i:=m2+1) (o:=.cells [.int .i64 n4,u4] 112 true) (by omega)
 have g23:=(kE.get (N+1+1) (by omega)).trans g22
 have d4:¬N+1=m2:=by omega
 simp[g22,aU,aJ,ag,bW,o3,o4,d2,d4,aA,iV,Et,j0]
 exact⟨(((kk.trans k1).trans k2).trans kE).set (by omega),(hq.ae kE).aE g23 (by simp) rfl⟩
structure Nr (h:T O) (N G m:Nat) (r:T V) (st:St):Prop where
 w:ad N st.w=[]
 ae:ab h N st.h st.n
 le:N+3<=st.n
 row:st.h.get (N+2)=some (.cells [.int .i64 0,.aa] 112 true)
 ex:∃(n1 n2:Int) (u1 u2:V) (p:Nat),st.h.get N=some (.cells [.int .i64 n1,u1] 112 true)/\st.h.get (N+1)=some (.cells [.int .i64 n2,u2] 112 true)/\In st.h st.n (.agg [.int .i64 n1,u1]) p/\In st.h st.n (.agg [.int .i64 n2,u2]) m/\Nat.gcd p m=G/\wl p<10000000000/\wl m<10000000000
theorem Ygk{G:Nat}(a2:r0.get 2=some (.ptr N 0))(a3:r0.get 3=some (.ptr (N+1) 0)):
  ∀x r st,(∀t,iS [(5,6),(11,21)] t=false->r.get t=r0.get t)->Fx [(5,6),(11,21)] r0 23 ⟨r,23,[]⟩->Nr h N G x r st->Code A.C none A.pe ⟨r,23,[]⟩ st (Rd [(5,6),(11,21)] r0 23 (Nr h N G) x (fun e r st=>e=.exit 0/\Nr h N G 0 r st)):=by
 rintro m r ⟨H,n0,W⟩ hr hf ⟨hW,hK,hle,ar,n1,n2,u1,u2,p,g0,g1,hp,hm,hg,lp,lm⟩
 simp only at hW hK hle ar g0 g1 hp hm
 rw[bA]
 simp[A.pe,hr,a3,g1,aU,aJ]
 refine ax (GS hm) ?_
 rintro _ h1 m1 k1 rfl
 have eR:=k1.le
 have f0:=(k1.get N (by omega)).trans g0
 have f1:=(k1.get (N+1) (by omega)).trans g1
 have f2:=(k1.get (N+2) (by omega)).trans ar
 by_cases h0:m=0
 ·subst h0
  simp[hf,fM]
  exact⟨hW,hK.trans k1,by show N+3<=m1;omega,f2,n1,n2,u1,u2,p,f0,f1,hp.ae k1,hm.ae k1,hg,lp,lm⟩
 ·have c1:¬fM m=0:=by unfold fM;rw[au (by omega),au (by omega)];decide
  simp[hr,a2,a3,c1,f0,f1,aU,aJ]
  refine ax (Zse (hp.ae k1) (hm.ae k1) (by omega) lp lm) ?_
  rintro _ h2 m2 k2 ⟨q,s,rfl,hq,hs⟩
  have f_:=k2.le
  have e0:=(k2.get N (by omega)).trans f0
  have e1:=(k2.get (N+1) (by omega)).trans f1
  have e2:=(k2.get (N+2) (by omega)).trans f2
  obtain⟨n3,u3,rfl,o3⟩:=hq.cells
  obtain⟨n4,u4,rfl,o4⟩:=hs.cells
  obtain⟨_,_,e5,o2⟩:=hm.cells
  simp only[V.agg.injEq,gK,V.int.injEq,true_and,and_true]at e5
  obtain⟨rfl,rfl⟩:=e5
  have o2':=o2
  unfold V.one at o3 o4 o2
  have kE:=((aL (aL (ab.refl (h:=h2) (n:=m2)) (.cells [.int .i64 0,.aa] 112 true)) (.cells [.int .i64 0,.aa] 112 true)).set (i:=m2) (o:=.cells [.int .i64 n3,u3] 112 true) (aS _)).set (i:=m2+1) (o:=.cells [.int .i64 n4,u4] 112 true) (by omega)
  have i0:=(kE.get N (by omega)).trans e0
  have i1:=(kE.get (N+1) (by omega)).trans e1
  have i2:=(kE.get (N+2) (by omega)).trans e2
  have d1:¬m2=m2+1:=by omega
  have d2:¬N=m2:=by omega
  have d3:¬N=m2+1:=by omega
  have d4:¬N+1=m2:=by omega
  have d5:¬N+1=m2+1:=by omega
  have d6:¬m2=N:=by omega
  have d7:¬m2+1=N:=by omega
  have d8:¬m2=N+1:=by omega
  have d9:¬m2+1=N+1:=by omega
  have d10:¬N=N+1:=by omega
  have l1:N<m2+1+1:=by omega
  have l2:N+1<m2+1+1:=by omega
  simp(disch:=first|(simp;done)|omega|(simp only[bl,bG,bh];omega)|rfl) [hr,a2,a3,e0,e1,aU,aJ,ag,bW,o2,o3,o4,d2,d3,d4,l1,l2]
  rw[DM (by simp[d2,d3]<;>omega)]
  simp[hf]
  have iV:¬m2<N:=by omega
  have Et:¬m2+1<N:=by omega
  have q1:=((hm.ae k1).ae k2).ae kE
  have s1:=hs.ae kE
  have q2:=q1.aE (c1:=[.int .i64 n2,u2]) (e1:=112) (w1:=true) i0 hp.nu rfl
  have s2:=s1.aE (c1:=[.int .i64 n2,u2]) (e1:=112) (w1:=true) i0 hp.nu rfl
  have i3:(((((h2.set m2 (.cells [.int .i64 0,.aa] 112 true)).set (m2+1) (.cells [.int .i64 0,.aa] 112 true)).set m2 (.cells [.int .i64 n3,u3] 112 true)).set (m2+1) (.cells [.int .i64 n4,u4] 112 true)).set N (.cells [.int .i64 n2,u2] 112 true)).get (N+1)=some (.cells [.int .i64 n2,u2] 112 true):=by rw[T.ai,au (by omega)];exact i1
  have q3:=q2.aE (c1:=[.int .i64 n4,u4]) (e1:=112) (w1:=true) i3 hm.nu rfl
  have s3:=s2.aE (c1:=[.int .i64 n4,u4]) (e1:=112) (w1:=true) i3 hm.nu rfl
  refine⟨p%m,jg _ (by omega),by simp[ad,hW,iV,Et],((((hK.trans k1).trans k2).trans kE).set (aS _)).set (by omega),by show N+3<=m2+1+1;omega,?_,n2,n4,u2,u4,m,by simp,by simp,q3,?_,?_,lm,?_⟩
  ·rw[T.ai,au (by omega),T.ai,au (by omega)];exact i2
  ·rw[<-Int.natCast_emod]at s3;exact s3
  ·rw[<-hg,Nat.gcd_comm p m,Nat.gcd_rec m p,Nat.gcd_comm]
  ·have:=Ynb (a:=(p:Int)) (b:=(m:Int)) (by omega)
   rw[<-Int.natCast_emod]at this
   omega
theorem Yil(hx:In h N x a)(hy:In h N y b)(la:wl a<10000000000)(lb:wl b<10000000000):Fn A.C 216 [x,y] h N (fun v h' n'=>In h' n' v (Int.gcd a b:Nat)):=by
 intro w
 rw[aR,A.k216 (by simp)]
 obtain⟨n1,u1,rfl,o1⟩:=hx.cells
 obtain⟨n2,u2,rfl,o2⟩:=hy.cells
 have kk:=aL (aL (aL (ab.refl (h:=h) (n:=N)) (.cells [.int .i64 n1,u1] 112 true)) (.cells [.int .i64 n2,u2] 112 true)) (.cells [.int .i64 0,.aa] 112 true)
 have mR:=hx.ae kk
 have sC:=hy.ae kk
 unfold V.one at o1 o2
 simp[A.b216,aU,aJ,o1,o2]
 refine ax (Yiz mR (by omega)) ?_
 rintro v1 h1 m1 k1 l9
 have eR:=k1.le
 have g1:=k1.get (N+1) (by omega)
 simp at g1
 have l1:N+1<m1:=by omega
 simp[g1,l1,aU,aJ]
 refine ax (Yiz (sC.ae k1) (by omega)) ?_
 rintro v2 h2 m2 k2 iH
 have Ed:=l9.ae k2
 have k12:=k1.trans k2
 have f_:=k2.le
 obtain⟨n3,u3,rfl,o3⟩:=l9.cells
 obtain⟨n4,u4,rfl,o4⟩:=iH.cells
 unfold V.one at o3 o4
 have i0:=k12.get N (by omega)
 have i1:=k12.get (N+1) (by omega)
 have i2:=k12.get (N+1+1) (by omega)
 simp at i0 i1 i2
 have l2:N<m2:=by omega
 have l3:N+1<m2:=by omega
 have l4:N<m1:=by omega
 simp[i0,i1,ag,bW,o3,o4,l1,l2,l3,l4,dw.dB]
 have q1:=Ed.aE (c1:=[.int .i64 n3,u3]) (e1:=112) (w1:=true) i0 hx.nu rfl
 have s1:=iH.aE (c1:=[.int .i64 n3,u3]) (e1:=112) (w1:=true) i0 hx.nu rfl
 have i3:(h2.set N (.cells [.int .i64 n3,u3] 112 true)).get (N+1)=some (.cells [.int .i64 n2,u2] 112 true):=by rw[T.ai,au (by omega)];exact i1
 have q2:=q1.aE (c1:=[.int .i64 n4,u4]) (e1:=112) (w1:=true) i3 hy.nu rfl
 have s2:=s1.aE (c1:=[.int .i64 n4,u4]) (e1:=112) (w1:=true) i3 hy.nu rfl
 have wa:wl (a.natAbs:Int)=wl a:=by unfold wl;rw[dm]
 have wb:wl (b.natAbs:Int)=wl b:=by unfold wl;rw[dm]
 refine bQ [(5,6),(11,21)] _ (Nr h N (Int.gcd a b)) b.natAbs ?_ (Ygk (by simp) (by simp)) ?_
 ·refine⟨by simp[ad],((kk.trans k12).set (aS _)).set (by omega),by show N+3<=m2;omega,?_,n3,n4,u3,u4,a.natAbs,by simp,by simp,q2,s2,rfl,by rw[wa];exact la,by rw[wb];exact lb⟩
  rw[T.ai,au (by omega),T.ai,au (by omega)];exact i2
 rintro e r ⟨h5,m5,W5⟩ hr ⟨rfl,hW,hK,hle,ar,n5,n6,u5,u6,p,g5,g6,hp,hm,hg,lp,lm⟩
 simp only at hW hK hle ar g5 g6 hp hm
 obtain⟨_,_,e5,o5⟩:=hp.cells
 simp only[V.agg.injEq,gK,V.int.injEq,true_and,and_true]at e5
 obtain⟨rfl,rfl⟩:=e5
 unfold V.one at o5
 rw[Nat.gcd_zero_right]at hg
 have Cm:h5.get (N+1+1)=some (.cells [.int .i64 0,.aa] 112 true):=ar
 have iV:¬N+1+1<N:=by omega
 simp[hr,g5,Cm,aU,aJ,ag,bW,o5,aA,hW,iV]
 exact⟨hK.set (by omega),by rw[<-hg];exact hp.aE Cm (by simp) rfl⟩
def A.b75:aq:=sr [mc 4 0]
 (.seq (sr [mv 5 0]
 (cd 5
 (sr [mv 6 1,mv 4 6]
 (.ret))
 (.skip)))
 (sr [mc 4 0]
 (.ret)))
theorem A.c75:A.F 75=some ⟨7,[.tmp 4],A.b75⟩:=by kernel_rfl
def A.k75:=@A.kk 75 _ _ _ A.c75 rfl
def A.b215:aq:=sr [mc 4 0]
 (.seq (sr [mv 5 0]
 (cd 5
 (sr [mv 6 1,mv 4 6]
 (.ret))
 (.skip)))
 (sr [mc 4 0]
 (.ret)))
theorem A.c215:A.F 215=some ⟨7,[.tmp 4],A.b215⟩:=by kernel_rfl
def A.k215:=@A.kk 215 _ _ _ A.c215 rfl
def A.b177:aq:=sr [mc 6 0]
 (sr [mv 7 0,mv 8 1,bi 9 .lss 7 8,mv 10 9,mh 11 0 10,mh 12 2 10,⟨(some 13),.bin .gtr (.node []) false (.tmp 11) (.tmp 12),(some (10,false))⟩,pt 14 10 13,⟨(some 15),.call (.const (.func 75 [] [])) [(.tmp 14),(.const (.int .i64 3))],none⟩,mv 6 15]
 (.ret))
theorem A.c177:A.F 177=some ⟨16,[.tmp 6],A.b177⟩:=by kernel_rfl
def A.k177:=@A.kk 177 _ _ _ A.c177 rfl
theorem Cn{b:Bool}{e:Int}{st:St}:A.C.call (.func 75 [] []) [.bool b,.int .i64 e] st=some (.int .i64 (if b=true then e else 0),st):=by
 apply Call.eq
 rw[aR,A.k75 (by simp)]
 cases b<;>simp[A.b75]
theorem AH{b:Bool}{e:Int}{st:St}:A.C.call (.func 215 [] []) [.bool b,.int .i64 e] st=some (.int .i64 (if b=true then e else 0),st):=by
 apply Call.eq
 rw[aR,A.k215 (by simp)]
 cases b<;>simp[A.b215]
theorem Zzr{x lo hi:Int}{st:St}:A.C.call (.func 177 [] []) [.int .i64 x,.int .i64 lo,.int .i64 hi] st=some (.int .i64 (if x<lo\/hi<x then 3 else 0),st):=by
 apply Call.eq
 rw[aR,A.k177 (by simp)]
 by_cases h1:x<lo
 ·simp[A.b177,h1,Cn]
 ·by_cases h2:hi<x<;>simp[A.b177,h1,h2,Cn]
end Go.Mx
