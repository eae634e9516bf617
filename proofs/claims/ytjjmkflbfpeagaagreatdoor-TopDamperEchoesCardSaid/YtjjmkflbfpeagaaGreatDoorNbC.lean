/-num-/
import Derived.Test.YtjjmkflbfpeagaaGreatDoorRcM
set_option linter.all false
namespace Go.Mx
noncomputable section
open Go Go.Proofs
variable {N:Nat} {a b:Int} {h:T O} {r0:T V} {x y:V}
set_option maxHeartbeats 2000000
set_option maxRecDepth 1000000
def A.Fa:=A.q Tryz.f210
def A.pH:=A.qt A.Fa [] [] [1,1,1,1,1,1,1]
def A.lJ:=(fun y0=>A.qt A.Fa [] [([1,1,1,1,1,1,1],y0)] [1,1]) A.pH
def A.b210:=(fun y0=>A.qt A.Fa [] [([1,1],y0)] []) A.lJ
def A.k210:=@A.kk 210 84 [.cell 4 (some 2),.cell 5 (some 2)] A.b210 (by kernel_rfl) rfl
def A.b177:=A.q Tryz.f177
def A.k177:=@A.kk 177 21 [.cell 4 (some 2)] A.b177 (by kernel_rfl) rfl
def A.Kx:=A.q Tryz.f164
def A.pJ:=A.ql A.Kx 0 []
def A.b164:=(fun x0=>A.qb A.Kx [x0]) A.pJ
def A.k164:=@A.kk 164 23 [.cell 4 (some 2)] A.b164 (by kernel_rfl) rfl
def Zw5(hb:0<b):(if a.tmod b<0 then a.tdiv b-1 else a.tdiv b)=a/b/\(if a.tmod b<0 then a.tmod b+b else a.tmod b)=a%b:=by
 have h1:=Int.mul_tdiv_add_tmod a b
 have h2:=Int.tmod_lt_of_pos a hb
 have h3: -b<a.tmod b:=by
  have:=Int.tmod_lt_of_pos (-a) hb
  rw[Int.neg_tmod]at this
  omega
 have key:∀q r:Int,b*q+r=a->0<=r->r<b->q=a/b/\r=a%b:=by
  intro q r e r0 r1
  have:=(Int.ediv_emod_unique hb (r:=r) (q:=q) (a:=a)).2 ⟨by omega,r0,r1⟩
  exact⟨this.1.symm,this.2.symm⟩
 by_cases h:a.tmod b<0
 ·rw[aJ h,aJ h]
  exact key _ _ (by rw[Int.mul_sub];omega) (by omega) (by omega)
 ·rw[aq h,aq h]
  exact key _ _ (by omega) (by omega) h2
def Yd7(hb:0<b):∀q r:Int,q=(if decide (a<0)=true then -((a.natAbs/b.natAbs:Nat):Int) else (a.natAbs/b.natAbs:Nat))->r=(if decide (a<0)=true then -((a.natAbs%b.natAbs:Nat):Int) else (a.natAbs%b.natAbs:Nat))->(if r<0 then q-1 else q)=a/b/\(if r<0 then r+b else r)=a%b:=by
 intro q r hq hr
 have h1:=rz a.natAbs b.natAbs
 have h2:=jO a.natAbs (show 0<b.natAbs by omega)
 have hbe:(b.natAbs:Int)=b:=by omega
 have h_:b*((a.natAbs/b.natAbs:Nat):Int)+((a.natAbs%b.natAbs:Nat):Int)=a.natAbs:=by
  rw[<-hbe,<-GA,<-Int.natCast_add,ed,h1]
 have key:∀q r:Int,b*q+r=a->0<=r->r<b->q=a/b/\r=a%b:=by
  intro q r e r0 r1
  have:=(Int.ediv_emod_unique hb (r:=r) (q:=q) (a:=a)).2 ⟨by omega,r0,r1⟩
  exact⟨this.1.symm,this.2.symm⟩
 generalize a.natAbs/b.natAbs=Q at*
 generalize a.natAbs%b.natAbs=R at*
 by_cases ha:a<0
 ·simp only[ha,decide_true,if_true]at hq hr
  subst hq hr
  by_cases h: -(R:Int)<0
  ·rw[aJ h,aJ h]
   exact key _ _ (by rw[Int.mul_sub,Int.mul_neg];omega) (by omega) (by omega)
  ·rw[aq h,aq h]
   exact key _ _ (by rw[Int.mul_neg];omega) (by omega) (by omega)
 ·simp only[ha,decide_false,fY,if_false]at hq hr
  subst hq hr
  rw[aq (by omega),aq (by omega)]
  exact key _ _ (by omega) (by omega) (by omega)
def Ymo(hb:0<b):wl (a%b)<=wl b:=by
 apply Hn
 have h1:=By a hb
 have h2:=Bx a (show b≠0 by omega)
 omega
def Zox{c:Bool}{n:Nat}:(if c=true then -(n:Int) else (n:Int)).natAbs=n:=by split<;>omega
def Yid{H:T O}{n m:Nat}{nq nr q s:Int}{uq ur:V}{W:List Nat}(hW:aB N W=[])(hK:ad h N H n)(hm:N+4<=m)(hmn:m+1<n)(hq:In H n (.agg [.int .i64 nq,uq]) q)(hr:In H n (.agg [.int .i64 nr,ur]) s)(oq:V.one uq=true)(or:V.one ur=true)
  (gz:H.get (N+2)=some (.cells [.int .i64 0,.aa] 70 true)) (gt:H.get (N+3)=some (.cells [.int .i64 0,.aa] 70 true)) (gq:H.get m=some (.cells [.int .i64 nq,uq] 70 true)) (gr:H.get (m+1)=some (.cells [.int .i64 nr,ur] 70 true))
  (r4:r0.get 4=some (.ptr (N+2) 0)) (r5:r0.get 5=some (.ptr (N+3) 0)) (Hk:r0.get 14=some (.ptr m 0)) (r15:r0.get 15=some (.ptr (m+1) 0)):
  Code A.C none A.pH ⟨r0,84,[]⟩ ⟨H,n,W⟩ (fun e fr st=>e=.ret/\∃r,fr=⟨r,84,[]⟩/\r.get 4=some (.ptr (N+2) 0)/\r.get 5=some (.ptr (N+3) 0)/\Fb h N (N+2) q st/\Fb h N (N+3) s st):=by
 have n1:m<n:=by omega
 have n2:N+2<n:=by omega
 have n3:N+3<n:=by omega
 have d3:¬N+2=m:=by omega
 have d4:¬N+3=m:=by omega
 have d5:¬N+2=m+1:=by omega
 have d6:¬N+3=m+1:=by omega
 have d9:¬N+3=N+2:=by omega
 rw[cm]
 have k1:=(hK.set (i:=N+2) (o:=.cells [.int .i64 nq,uq] 70 true) (by omega)).set (i:=N+3) (o:=.cells [.int .i64 nr,ur] 70 true) (by omega)
 have jZ:=(hq.aC (c1:=[.int .i64 nq,uq]) (e1:=70) (w1:=true) gz (by simp) rfl)
 have dW:=(hr.aC (c1:=[.int .i64 nq,uq]) (e1:=70) (w1:=true) gz (by simp) rfl)
 have gt2:(H.set (N+2) (.cells [.int .i64 nq,uq] 70 true)).get (N+3)=some (.cells [.int .i64 0,.aa] 70 true):=by rw[T.ai,aq d9];exact gt
 have UK:=(jZ.aC (c1:=[.int .i64 nr,ur]) (e1:=70) (w1:=true) gt2 (by simp) rfl)
 have Kc:=(dW.aC (c1:=[.int .i64 nr,ur]) (e1:=70) (w1:=true) gt2 (by simp) rfl)
 have ft:aB N ((N+3)::(N+2)::W)=[]:=by simp[aB,hW]
 unfold V.one at oq or
 simp(disch:=omega) [A.pH,r4,r5,Hk,r15,gz,gt,gq,gr,n1,n2,n3,hmn,oq,or,aL,aM,ag,bS]
 rw[Ir (by simp[d3,d4,d5,d6]<;>omega)]
 simp[r4,r5]
 exact⟨⟨ft,k1,nq,uq,by simp,UK⟩,⟨ft,k1,nr,ur,by simp,Kc⟩⟩
def Yll{H:T O}{n1 n2:Int}{u1 u2:V}(hx:In H (N+4) (.agg [.int .i64 n1,u1]) a)(hy:In H (N+4) (.agg [.int .i64 n2,u2]) b)(hb:0<b)(la:wl a<10000000000)(lb:wl b<10000000000)(hK:ad h N H (N+4))(oy:V.one u2=true)
  (gx:H.get N=some (.cells [.int .i64 n1,u1] 70 true)) (gy:H.get (N+1)=some (.cells [.int .i64 n2,u2] 70 true)) (gz:H.get (N+2)=some (.cells [.int .i64 0,.aa] 70 true)) (gt:H.get (N+3)=some (.cells [.int .i64 0,.aa] 70 true)) (r2:r0.get 2=some (.ptr N 0)) (r3:r0.get 3=some (.ptr (N+1) 0)) (r4:r0.get 4=some (.ptr (N+2) 0)) (r5:r0.get 5=some (.ptr (N+3) 0)):
  Code A.C none A.lJ ⟨r0,84,[]⟩ ⟨H,N+4,[]⟩ (fun e fr st=>e=.ret/\∃r,fr=⟨r,84,[]⟩/\r.get 4=some (.ptr (N+2) 0)/\r.get 5=some (.ptr (N+3) 0)/\Fb h N (N+2) (a/b) st/\Fb h N (N+3) (a%b) st):=by
 rw[cm]
 simp[A.lJ,r2,gx,aL,aM]
 refine au (Bb hx) ?_
 rintro _ h1 N1 k1 ⟨ua,rfl,CY⟩
 have Ky:=(k1.get (N+1) (by omega)).trans gy
 simp[r3,Ky,aL,aM]
 refine au (Bb (hy.ae k1)) ?_
 rintro _ h2 N2 k2 ⟨ub,rfl,Fe⟩
 have tr:=CY.ae k2
 have CE:(aH a.natAbs).length<10000000000:=la
 have OH:(aH b.natAbs).length<10000000000:=lb
 simp[]
 refine au (Zr5 tr Fe (by omega) (by omega) (by omega)) ?_
 rintro _ h3 N3 k3 ⟨q,r,rfl,hq,hr⟩
 simp[]
 have lq:=Cv (sM a.natAbs b.natAbs)
 have lr:=Cv (Nat.mod_le a.natAbs b.natAbs)
 refine au (Cw hq (by omega)) ?_
 rintro vq h4 N4 k4 hq4
 simp[]
 refine au (Cw (hr.ae k4) (by omega)) ?_
 rintro vr h5 N5 k5 Ii
 have kA:=(((k1.trans k2).trans k3).trans k4).trans k5
 have zax:=kA.le
 have UL:=hq4.ae k5
 have gy5:=(kA.get (N+1) (by omega)).trans gy
 have gz5:=(kA.get (N+2) (by omega)).trans gz
 have gt5:=(kA.get (N+3) (by omega)).trans gt
 obtain⟨qv,EL⟩:∃q,(if decide (a<0)=true then -((a.natAbs/b.natAbs:Nat):Int) else (a.natAbs/b.natAbs:Nat))=q:=⟨_,rfl⟩
 obtain⟨rv,EM⟩:∃q,(if decide (a<0)=true then -((a.natAbs%b.natAbs:Nat):Int) else (a.natAbs%b.natAbs:Nat))=q:=⟨_,rfl⟩
 rw[EL]at UL
 rw[EM]at Ii
 obtain⟨e1,e2⟩:=Yd7 hb qv rv EL.symm EM.symm
 have wq:wl qv<20000000000:=by
  have:qv.natAbs=a.natAbs/b.natAbs:=by rw[<-EL];exact Zox
  unfold wl;rw[this];omega
 have wr:wl rv<20000000000:=by
  have:rv.natAbs=a.natAbs%b.natAbs:=by rw[<-EM];exact Zox
  unfold wl;rw[this];omega
 obtain⟨nq,uq,rfl,oq⟩:=UL.cells
 obtain⟨nr,ur,rfl,or⟩:=Ii.cells
 have kB:=fun o1 o2=>aG (aG (ad.refl (h:=h5) (n:=N5)) o1) o2
 have oq':=oq
 have or':=or
 unfold V.one at oq or oy
 have d1:¬N5=N5+1:=by omega
 have gq6:(((h5.set N5 (.cells [.int .i64 0,.aa] 70 true)).set (N5+1) (.cells [.int .i64 0,.aa] 70 true)).set N5 (.cells [.int .i64 nq,uq] 70 true)).get N5=some (.cells [.int .i64 nq,uq] 70 true):=by simp
 simp[oq,or,ag,bS,aL,aM]
 have kC:=((kB (.cells [.int .i64 0,.aa] 70 true) (.cells [.int .i64 0,.aa] 70 true)).set (i:=N5) (o:=.cells [.int .i64 nq,uq] 70 true) (aR _)).set (i:=N5+1) (o:=.cells [.int .i64 nr,ur] 70 true) (by omega)
 generalize hH6:(((h5.set N5 (.cells [.int .i64 0,.aa] 70 true)).set (N5+1) (.cells [.int .i64 0,.aa] 70 true)).set N5 (.cells [.int .i64 nq,uq] 70 true)).set (N5+1) (.cells [.int .i64 nr,ur] 70 true)=H6 at*
 have q6:H6.get N5=some (.cells [.int .i64 nq,uq] 70 true):=by rw[<-hH6];simp
 have r6:H6.get (N5+1)=some (.cells [.int .i64 nr,ur] 70 true):=by rw[<-hH6];simp
 have Kz:=UL.ae kC
 have hr6:=Ii.ae kC
 have gy6:=(kC.get (N+1) (by omega)).trans gy5
 have gz6:=(kC.get (N+2) (by omega)).trans gz5
 have gt6:=(kC.get (N+3) (by omega)).trans gt5
 refine au (EP hr6) ?_
 rintro _ h7 N7 k7 rfl
 have zay:=k7.le
 have q7:=(k7.get N5 (by omega)).trans q6
 have r7:=(k7.get (N5+1) (by omega)).trans r6
 have gy7:=(k7.get (N+1) (by omega)).trans gy6
 have gz7:=(k7.get (N+2) (by omega)).trans gz6
 have gt7:=(k7.get (N+3) (by omega)).trans gt6
 have KD:=Kz.ae k7
 have KE:=hr6.ae k7
 have kF:=((hK.trans kA).trans kC).trans k7
 have kQ:¬N5<N:=by omega
 have kJ:¬N5+1<N:=by omega
 have hWW:aB N [N5+1,N5]=[]:=by simp[aB,kQ,kJ]
 by_cases dC:rv<0
 ·have c1:cY rv<0:=by simp[cY,dC]
  rw[aJ dC]at e1 e2
  have hn7:N5<N7:=by omega
  have zaz:N5+1<N7:=by omega
  have hny:N+1<N7:=by omega
  simp[c1,q7,aL,aM,hn7]
  refine au EO ?_
  rintro _ h8 N8 k8 rfl
  simp[]
  refine au (Yho (KD.ae k8) (In.small (z:=1) (by omega) (by omega)) (by omega) (by decide+kernel)) ?_
  rintro vq9 h9 N9 k9 hq9
  have k89:=k8.trans k9
  have r9:=(k89.get (N5+1) (by omega)).trans r7
  have y9:=(k89.get (N+1) (by omega)).trans gy7
  have hr9:=KE.ae k89
  have hb9:In h9 N9 (.agg [.int .i64 n2,u2]) b:=(((((hy.ae k1).ae k2).ae k3).ae k4).ae k5 |>.ae kC |>.ae k7).ae k89
  have zac:=k89.le
  have z1:N5+1<N9:=by omega
  have z2:N+1<N9:=by omega
  simp[r3,r9,y9,aL,aM,z1,z2]
  refine au (KF hr9 hb9 (by omega) (by omega)) ?_
  rintro zaA ud N10 k10 KG
  have zad:=k10.le
  have KH:=hq9.ae k10
  obtain⟨OI,OJ,rfl,UM⟩:=KH.cells
  obtain⟨UN,UO,rfl,UP⟩:=KG.cells
  have UQ:=(k10.get N5 (by omega)).trans ((k89.get N5 (by omega)).trans q7)
  have rH:=(k10.get (N5+1) (by omega)).trans r9
  have PB:=(k10.get (N+2) (by omega)).trans ((k89.get (N+2) (by omega)).trans gz7)
  have t10:=(k10.get (N+3) (by omega)).trans ((k89.get (N+3) (by omega)).trans gt7)
  have UR:=UM
  have US:=UP
  unfold V.one at UM UP
  have z3:N5<N10:=by omega
  have z4:N5+1<N10:=by omega
  simp[UQ,rH,UM,UP,ag,bS,z3,z4]
  have q11:=KH.aC (c1:=[.int .i64 OI,OJ]) (e1:=70) (w1:=true) UQ KD.nu rfl
  have tu:=KG.aC (c1:=[.int .i64 OI,OJ]) (e1:=70) (w1:=true) UQ KD.nu rfl
  have KI:(ud.set N5 (.cells [.int .i64 OI,OJ] 70 true)).get (N5+1)=some (.cells [.int .i64 nr,ur] 70 true):=by rw[T.ai,aq (by omega)];exact rH
  have q12:=q11.aC (c1:=[.int .i64 UN,UO]) (e1:=70) (w1:=true) KI KE.nu rfl
  have KJ:=tu.aC (c1:=[.int .i64 UN,UO]) (e1:=70) (w1:=true) KI KE.nu rfl
  rw[e1]at q12
  rw[e2]at KJ
  have kG:=(((kF.trans k89).trans k10).set (i:=N5) (o:=.cells [.int .i64 OI,OJ] 70 true) (by omega)).set (i:=N5+1) (o:=.cells [.int .i64 UN,UO] 70 true) (by omega)
  refine nP (Yid (m:=N5) (by simp[aB,kQ,kJ]) kG (by omega) (by omega) q12 KJ UR US (by rw[T.ai,aq (by omega),T.ai,aq (by omega)];exact PB) (by rw[T.ai,aq (by omega),T.ai,aq (by omega)];exact t10) (by simp) (by simp) (by simp[r4]) (by simp[r5]) (by simp) (by simp)) ?_
  rintro e fr st ⟨rfl,r,rfl,p1,p2,p3,p4⟩
  simp[p1,p2]
  exact⟨p3,p4⟩
 ·have c1:¬cY rv<0:=by unfold cY;rw[aq dC];split<;>omega
  rw[aq dC]at e1 e2
  rw[e1]at KD
  rw[e2]at KE
  simp[c1]
  refine nP (Yid hWW kF (by omega) (by omega) KD KE oq' or' gz7 gt7 q7 r7 (by simp[r4]) (by simp[r5]) (by simp) (by simp)) ?_
  rintro e fr st ⟨rfl,r,rfl,p1,p2,p3,p4⟩
  simp[p1,p2]
  exact⟨p3,p4⟩
def Zr7(hx:In h N x a)(hy:In h N y b)(hb:0<b)(la:wl a<10000000000)(lb:wl b<10000000000):Fn A.C 210 [x,y] h N (fun v h' n'=>∃q r,v=.aY [q,r]/\In h' n' q (a/b)/\In h' n' r (a%b)):=by
 intro w
 rw[aQ,A.k210 (by simp)]
 obtain⟨n1,u1,rfl,o1⟩:=hx.cells
 obtain⟨n2,u2,rfl,o2⟩:=hy.cells
 have kk:=aG (aG (aG (aG (ad.refl (h:=h) (n:=N)) (.cells [.int .i64 n1,u1] 70 true)) (.cells [.int .i64 n2,u2] 70 true)) (.cells [.int .i64 0,.aa] 70 true)) (.cells [.int .i64 0,.aa] 70 true)
 have o2':=o2
 unfold V.one at o1 o2
 have go:∀r:T V,r.get 2=some (.ptr N 0)->r.get 3=some (.ptr (N+1) 0)->r.get 4=some (.ptr (N+2) 0)->r.get 5=some (.ptr (N+3) 0)->bD A.C [.fin [.cell 4 (some 2),.cell 5 (some 2)] ⟨h,N,w⟩] (eR (A.C.code none A.lJ ⟨r,84,[]⟩ ⟨(((h.set N (.cells [.int .i64 n1,u1] 70 true)).set (N+1) (.cells [.int .i64 n2,u2] 70 true)).set (N+1+1) (.cells [.int .i64 0,.aa] 70 true)).set (N+1+1+1) (.cells [.int .i64 0,.aa] 70 true),N+1+1+1+1,[]⟩)) (AU (aA (fun v h' n'=>∃q r,v=.aY [q,r]/\In h' n' q (a/b)/\In h' n' r (a%b)) h N w)):=by
  intro r r2 r3 r4 r5
  refine nP (Yll (hx.ae kk) (hy.ae kk) hb la lb kk o2' (by simp) (by simp) (by simp) (by simp) r2 r3 r4 r5) ?_
  rintro e fr ⟨h5,n5,w5⟩ ⟨rfl,r',rfl,KK,r5',⟨hW,hK,n6,u6,g6,hi⟩,⟨_,_,n7,u7,g7,BC⟩⟩
  simp only at hW hK g6 hi g7 BC
  simp[KK,r5',g6,g7,aL,aM,aA,hW]
  exact⟨hK,_,_,⟨rfl,rfl⟩,hi,BC⟩
 rcases id hx with⟨e1,s1,s2⟩|⟨i,o,l,c,e1,_⟩
 ·simp only[V.agg.injEq,iB,V.int.injEq,true_and,and_true]at e1
  obtain⟨rfl,rfl⟩:=e1
  rcases id hy with⟨e2,t1,t2⟩|⟨i,o,l,c,e2,_⟩
  ·simp only[V.agg.injEq,iB,V.int.injEq,true_and,and_true]at e2
   obtain⟨rfl,rfl⟩:=e2
   by_cases qJ:n1= -9223372036854775808
   ·simp[A.b210,aL,aW,qJ]
    subst qJ
    exact go _ (by simp) (by simp) (by simp) (by simp)
   ·have hz:¬n2=0:=by omega
    obtain⟨f1,f2⟩:=Zw5 (a:=n1) hb
    have b1:(n1.tdiv n2).natAbs<=n1.natAbs:=by rw[Int.natAbs_tdiv];exact sM _ _
    have b2:(n1.tmod n2).natAbs<=n1.natAbs:=by rw[Int.natAbs_tmod];exact Nat.mod_le _ _
    have b3:=Int.tmod_lt_of_pos n1 hb
    obtain⟨q,hq⟩:∃q,n1.tdiv n2=q:=⟨_,rfl⟩
    obtain⟨s,hs⟩:∃q,n1.tmod n2=q:=⟨_,rfl⟩
    rw[hq]at b1 f1
    rw[hs]at b2 b3 f1 f2
    have w1:bb .i64 q=q:=cb (by omega) (by omega)
    by_cases dC:s<0
    ·rw[aJ dC]at f1 f2
     have w2:bb .i64 (s+n2)=s+n2:=cb (by omega) (by omega)
     have vO: -9223372036854775808<q:=by
      have:=Int.mul_tdiv_add_tmod n1 n2
      omega
     have w3:bb .i64 (q-1)=q-1:=cb (by omega) (by omega)
     simp[A.b210,aL,aM,ag,aW,qJ,hz,hq,hs,w1,w2,w3,dC,aA,cD.cG]
     exact⟨(kk.set (by omega)).set (by omega),_,_,⟨rfl,rfl⟩,by rw[<-f1];exact In.small (by omega) (by omega),by rw[<-f2];exact In.small (by omega) (by omega)⟩
    ·rw[aq dC]at f1 f2
     simp[A.b210,aL,aM,ag,aW,qJ,hz,hq,hs,w1,dC,aA,cD.cG]
     exact⟨(kk.set (by omega)).set (by omega),_,_,⟨rfl,rfl⟩,by rw[<-f1];exact In.small (by omega) (by omega),by rw[<-f2];exact In.small (by omega) (by omega)⟩
  ·simp only[V.agg.injEq,iB,V.int.injEq,true_and,and_true]at e2
   obtain⟨rfl,rfl⟩:=e2
   simp[A.b210,aL,aW]
   exact go _ (by simp) (by simp) (by simp) (by simp)
 ·simp only[V.agg.injEq,iB,V.int.injEq,true_and,and_true]at e1
  obtain⟨rfl,rfl⟩:=e1
  simp[A.b210,aL,aW,o2]
  exact go _ (by simp) (by simp) (by simp) (by simp)
def Yht(hx:In h N x a)(hy:In h N y b)(hb:0<b)(la:wl a<10000000000)(lb:wl b<10000000000):Fn A.C 177 [x,y] h N (fun v h' n'=>In h' n' v (a/b)):=by
 intro w
 rw[aQ,A.k177 (by simp)]
 obtain⟨n1,u1,rfl,o1⟩:=hx.cells
 obtain⟨n2,u2,rfl,o2⟩:=hy.cells
 have kk:=aG (aG (aG (ad.refl (h:=h) (n:=N)) (.cells [.int .i64 n1,u1] 70 true)) (.cells [.int .i64 n2,u2] 70 true)) (.cells [.int .i64 0,.aa] 70 true)
 have nz:=hx.ae kk
 have sZ:=hy.ae kk
 have Bf:=EP sZ
 unfold V.one at o1 o2
 have c1:¬cY b<0:=by unfold cY;rw[aq (by omega)];split<;>omega
 simp[A.b177,aL,aM,o1,o2]
 refine au Bf ?_
 rintro _ h1 m1 k1 rfl
 have eS:=k1.le
 have g0:=k1.get N (by omega)
 have g1:=k1.get (N+1) (by omega)
 have g2:=k1.get (N+1+1) (by omega)
 simp at g0 g1 g2
 simp[c1,g0,g1,aL,aM]
 refine au (Zr7 (nz.ae k1) (sZ.ae k1) hb la lb) ?_
 rintro _ h2 m2 k2 ⟨q,r,rfl,hq,hr⟩
 have gF:=k2.le
 have g22:=(k2.get (N+1+1) (by omega)).trans g2
 obtain⟨n3,u3,rfl,o3⟩:=hq.cells
 obtain⟨n4,u4,rfl,o4⟩:=hr.cells
 unfold V.one at o3 o4
 have d2:¬N+1+1=m2:=by omega
 have kQ:¬m2<N:=by omega
 have Ff:¬m2+1<N:=by omega
 have kJ:¬N+1+1<N:=by omega
 have kE:=((aG (aG (ad.refl (h:=h2) (n:=m2)) (.cells [.int .i64 0,.aa] 70 true)) (.cells [.int .i64 0,.aa] 70 true)).set (i:=m2) (o:=.cells [.int .i64 n3,u3] 70 true) (aR _)).set (i:=m2+1) (o:=.cells [.int .i64 n4,u4] 70 true) (by omega)
 have g23:=(kE.get (N+1+1) (by omega)).trans g22
 have d4:¬N+1=m2:=by omega
 simp[g22,aL,aM,ag,bS,o3,o4,d2,d4,aA,kQ,Ff,kJ]
 exact⟨(((kk.trans k1).trans k2).trans kE).set (by omega),(hq.ae kE).aC g23 (by simp) rfl⟩
structure OK (h:T O) (N G m:Nat) (r:T V) (st:St):Prop where
 w:aB N st.w=[]
 ae:ad h N st.h st.n
 le:N+3<=st.n
 row:st.h.get (N+2)=some (.cells [.int .i64 0,.aa] 70 true)
 ex:∃(n1 n2:Int) (u1 u2:V) (p:Nat),st.h.get N=some (.cells [.int .i64 n1,u1] 70 true)/\st.h.get (N+1)=some (.cells [.int .i64 n2,u2] 70 true)/\In st.h st.n (.agg [.int .i64 n1,u1]) p/\In st.h st.n (.agg [.int .i64 n2,u2]) m/\Nat.gcd p m=G/\wl p<10000000000/\wl m<10000000000
def Ygi{G:Nat}(a2:r0.get 2=some (.ptr N 0))(a3:r0.get 3=some (.ptr (N+1) 0)):
  ∀x r st,(∀t,jk [(5,6),(11,21)] t=false->r.get t=r0.get t)->Fx [(5,6),(11,21)] r0 23 ⟨r,23,[]⟩->OK h N G x r st->Code A.C none A.pJ ⟨r,23,[]⟩ st (Rd [(5,6),(11,21)] r0 23 (OK h N G) x (fun e r st=>e=.exit 0/\OK h N G 0 r st)):=by
 rintro m r ⟨H,n0,W⟩ hr hf ⟨hW,hK,hle,aE,n1,n2,u1,u2,p,g0,g1,hp,hm,hg,lp,lm⟩
 simp only at hW hK hle aE g0 g1 hp hm
 rw[cm]
 simp[A.pJ,hr,a3,g1,aL,aM]
 refine au (EP hm) ?_
 rintro _ h1 m1 k1 rfl
 have eS:=k1.le
 have f0:=(k1.get N (by omega)).trans g0
 have f1:=(k1.get (N+1) (by omega)).trans g1
 have f2:=(k1.get (N+2) (by omega)).trans aE
 by_cases h0:m=0
 ·subst h0
  simp[hf,cY]
  exact⟨hW,hK.trans k1,by show N+3<=m1;omega,f2,n1,n2,u1,u2,p,f0,f1,hp.ae k1,hm.ae k1,hg,lp,lm⟩
 ·have c1:¬cY m=0:=by unfold cY;rw[aq (by omega),aq (by omega)];decide
  simp[hr,a2,a3,c1,f0,f1,aL,aM]
  refine au (Zr7 (hp.ae k1) (hm.ae k1) (by omega) lp lm) ?_
  rintro _ h2 m2 k2 ⟨q,s,rfl,hq,hs⟩
  have gF:=k2.le
  have e0:=(k2.get N (by omega)).trans f0
  have e1:=(k2.get (N+1) (by omega)).trans f1
  have e2:=(k2.get (N+2) (by omega)).trans f2
  obtain⟨n3,u3,rfl,o3⟩:=hq.cells
  obtain⟨n4,u4,rfl,o4⟩:=hs.cells
  obtain⟨_,_,e5,o2⟩:=hm.cells
  simp only[V.agg.injEq,iB,V.int.injEq,true_and,and_true]at e5
  obtain⟨rfl,rfl⟩:=e5
  unfold V.one at o3 o4 o2
  have kE:=((aG (aG (ad.refl (h:=h2) (n:=m2)) (.cells [.int .i64 0,.aa] 70 true)) (.cells [.int .i64 0,.aa] 70 true)).set (i:=m2) (o:=.cells [.int .i64 n3,u3] 70 true) (aR _)).set (i:=m2+1) (o:=.cells [.int .i64 n4,u4] 70 true) (by omega)
  have i0:=(kE.get N (by omega)).trans e0
  have i1:=(kE.get (N+1) (by omega)).trans e1
  have i2:=(kE.get (N+2) (by omega)).trans e2
  have d1:¬m2=m2+1:=by omega
  have d2:¬N=m2:=by omega
  have d3:¬N=m2+1:=by omega
  have d4:¬N+1=m2:=by omega
  have d5:¬N+1=m2+1:=by omega
  have d6:¬m2=N:=by omega
  have d7:¬m2+1=N:=by omega
  have d8:¬m2=N+1:=by omega
  have d9:¬m2+1=N+1:=by omega
  have d10:¬N=N+1:=by omega
  have l1:N<m2+1+1:=by omega
  have l2:N+1<m2+1+1:=by omega
  simp(disch:=first|(simp;done)|omega|(simp only[bn,bW,bf];omega)|rfl) [hr,hf,a2,a3,e0,e1,aL,aM,ag,bS,o2,o3,o4,d1,d2,d3,d4,d5,d6,d7,d8,d9,d10,l1,l2,cD.cG]
  rw[Ir (by simp[d2,d3]<;>omega)]
  simp[hf]
  have kQ:¬m2<N:=by omega
  have Ff:¬m2+1<N:=by omega
  have q1:=((hm.ae k1).ae k2).ae kE
  have s1:=hs.ae kE
  have q2:=q1.aC (c1:=[.int .i64 n2,u2]) (e1:=70) (w1:=true) i0 hp.nu rfl
  have s2:=s1.aC (c1:=[.int .i64 n2,u2]) (e1:=70) (w1:=true) i0 hp.nu rfl
  have i3:(((((h2.set m2 (.cells [.int .i64 0,.aa] 70 true)).set (m2+1) (.cells [.int .i64 0,.aa] 70 true)).set m2 (.cells [.int .i64 n3,u3] 70 true)).set (m2+1) (.cells [.int .i64 n4,u4] 70 true)).set N (.cells [.int .i64 n2,u2] 70 true)).get (N+1)=some (.cells [.int .i64 n2,u2] 70 true):=by rw[T.ai,aq (by omega)];exact i1
  have q3:=q2.aC (c1:=[.int .i64 n4,u4]) (e1:=70) (w1:=true) i3 hm.nu rfl
  have s3:=s2.aC (c1:=[.int .i64 n4,u4]) (e1:=70) (w1:=true) i3 hm.nu rfl
  refine⟨p%m,jO _ (by omega),by simp[aB,hW,kQ,Ff],((((hK.trans k1).trans k2).trans kE).set (aR _)).set (by omega),by show N+3<=m2+1+1;omega,?_,n2,n4,u2,u4,m,by simp,by simp,q3,?_,?_,lm,?_⟩
  ·rw[T.ai,aq (by omega),T.ai,aq (by omega)];exact i2
  ·rw[<-Int.natCast_emod]at s3;exact s3
  ·rw[<-hg,Nat.gcd_comm p m,Nat.gcd_rec m p,Nat.gcd_comm]
  ·have:=Ymo (a:=(p:Int)) (b:=(m:Int)) (by omega)
   rw[<-Int.natCast_emod]at this
   omega
def Yh7(hx:In h N x a)(hy:In h N y b)(la:wl a<10000000000)(lb:wl b<10000000000):Fn A.C 164 [x,y] h N (fun v h' n'=>In h' n' v (Int.gcd a b:Nat)):=by
 intro w
 rw[aQ,A.k164 (by simp)]
 obtain⟨n1,u1,rfl,o1⟩:=hx.cells
 obtain⟨n2,u2,rfl,o2⟩:=hy.cells
 have kk:=aG (aG (aG (ad.refl (h:=h) (n:=N)) (.cells [.int .i64 n1,u1] 70 true)) (.cells [.int .i64 n2,u2] 70 true)) (.cells [.int .i64 0,.aa] 70 true)
 have nz:=hx.ae kk
 have sZ:=hy.ae kk
 unfold V.one at o1 o2
 simp[A.b164,aL,aM,o1,o2]
 refine au (Yip nz (by omega)) ?_
 rintro v1 h1 m1 k1 mY
 have eS:=k1.le
 have g1:=k1.get (N+1) (by omega)
 simp at g1
 have l1:N+1<m1:=by omega
 simp[g1,l1,aL,aM]
 refine au (Yip (sZ.ae k1) (by omega)) ?_
 rintro v2 h2 m2 k2 iY
 have EK:=mY.ae k2
 have k12:=k1.trans k2
 have gF:=k2.le
 obtain⟨n3,u3,rfl,o3⟩:=mY.cells
 obtain⟨n4,u4,rfl,o4⟩:=iY.cells
 unfold V.one at o3 o4
 have i0:=k12.get N (by omega)
 have i1:=k12.get (N+1) (by omega)
 have i2:=k12.get (N+1+1) (by omega)
 simp at i0 i1 i2
 have l2:N<m2:=by omega
 have l3:N+1<m2:=by omega
 have l4:N<m1:=by omega
 simp[i0,i1,ag,bS,o3,o4,l1,l2,l3,l4,cD.cG]
 have q1:=EK.aC (c1:=[.int .i64 n3,u3]) (e1:=70) (w1:=true) i0 hx.nu rfl
 have s1:=iY.aC (c1:=[.int .i64 n3,u3]) (e1:=70) (w1:=true) i0 hx.nu rfl
 have i3:(h2.set N (.cells [.int .i64 n3,u3] 70 true)).get (N+1)=some (.cells [.int .i64 n2,u2] 70 true):=by rw[T.ai,aq (by omega)];exact i1
 have q2:=q1.aC (c1:=[.int .i64 n4,u4]) (e1:=70) (w1:=true) i3 hy.nu rfl
 have s2:=s1.aC (c1:=[.int .i64 n4,u4]) (e1:=70) (w1:=true) i3 hy.nu rfl
 have wa:wl (a.natAbs:Int)=wl a:=by unfold wl;rw[ed]
 have wb:wl (b.natAbs:Int)=wl b:=by unfold wl;rw[ed]
 refine cX [(5,6),(11,21)] _ (OK h N (Int.gcd a b)) b.natAbs ?_ (Ygi (by simp) (by simp)) ?_
 ·refine⟨by simp[aB],((kk.trans k12).set (aR _)).set (by omega),by show N+3<=m2;omega,?_,n3,n4,u3,u4,a.natAbs,by simp,by simp,q2,s2,rfl,by rw[wa];exact la,by rw[wb];exact lb⟩
  rw[T.ai,aq (by omega),T.ai,aq (by omega)];exact i2
 rintro e r ⟨h5,m5,W5⟩ hr ⟨rfl,hW,hK,hle,aE,n5,n6,u5,u6,p,g5,g6,hp,hm,hg,lp,lm⟩
 simp only at hW hK hle aE g5 g6 hp hm
 obtain⟨_,_,e5,o5⟩:=hp.cells
 simp only[V.agg.injEq,iB,V.int.injEq,true_and,and_true]at e5
 obtain⟨rfl,rfl⟩:=e5
 unfold V.one at o5
 rw[Nat.gcd_zero_right]at hg
 have CF:h5.get (N+1+1)=some (.cells [.int .i64 0,.aa] 70 true):=aE
 have kQ:¬N+1+1<N:=by omega
 simp[hr,g5,CF,aL,aM,ag,bS,o5,aA,hW,kQ]
 exact⟨hK.set (by omega),by rw[<-hg];exact hp.aC CF (by simp) rfl⟩
def A.b65:=A.q Tryz.f65
def A.k65:=@A.kk 65 7 [.tmp 4] A.b65 (by kernel_rfl) rfl
def A.b163:=A.q Tryz.f163
def A.k163:=@A.kk 163 7 [.tmp 4] A.b163 (by kernel_rfl) rfl
def A.b26:=A.q Tryz.f26
def A.k26:=@A.kk 26 16 [.tmp 6] A.b26 (by kernel_rfl) rfl
def xa{b:Bool}{e:Int}{st:St}:A.C.call (.func 65 [] []) [.bool b,.int .i64 e] st=some (.int .i64 (if b=true then e else 0),st):=by
 apply Call.eq
 rw[aQ,A.k65 (by simp)]
 cases b<;>simp[A.b65]
def Bg{b:Bool}{e:Int}{st:St}:A.C.call (.func 163 [] []) [.bool b,.int .i64 e] st=some (.int .i64 (if b=true then e else 0),st):=by
 apply Call.eq
 rw[aQ,A.k163 (by simp)]
 cases b<;>simp[A.b163]
def QD{x lo hi:Int}{st:St}:A.C.call (.func 26 [] []) [.int .i64 x,.int .i64 lo,.int .i64 hi] st=some (.int .i64 (if x<lo\/hi<x then 3 else 0),st):=by
 apply Call.eq
 rw[aQ,A.k26 (by simp)]
 by_cases h1:x<lo
 ·simp[A.b26,h1,xa]
 ·by_cases h2:hi<x<;>simp[A.b26,h1,h2,xa]
variable {s:aU}
def A.b224:=A.q Tryz.f224
def A.k224:=@A.kk 224 18 [.tmp 4] A.b224 (by kernel_rfl) rfl
def A.b160:=A.q Tryz.f160
def A.k160:=@A.kk 160 11 [.tmp 4,.tmp 5] A.b160 (by kernel_rfl) rfl
def A.b207:=A.q Tryz.f207
def A.k207:=@A.kk 207 15 [.tmp 4,.tmp 5] A.b207 (by kernel_rfl) rfl
def A.b185:=A.q Tryz.f185
def A.k185:=@A.kk 185 8 [.tmp 4] A.b185 (by kernel_rfl) rfl
def A.b225:=A.q Tryz.f225
def A.k225:=@A.kk 225 13 [.tmp 4] A.b225 (by kernel_rfl) rfl
def A.b184:=A.q Tryz.f184
def A.k184:=@A.kk 184 8 [.tmp 4] A.b184 (by kernel_rfl) rfl
def A.b248:=A.q Tryz.f248
def A.k248:=@A.kk 248 8 [.tmp 4] A.b248 (by kernel_rfl) rfl
def A.KL:=A.q Tryz.f223
def A.Bh:=A.ql A.KL 0 []
def A.b223:=(fun x0=>A.qb A.KL [x0]) A.Bh
def A.k223:=@A.kk 223 143 [.tmp 4] A.b223 (by kernel_rfl) rfl
def A.b183:=A.q Tryz.f183
def A.k183:=@A.kk 183 23 [.tmp 4,.tmp 5,.tmp 6] A.b183 (by kernel_rfl) rfl
def A.b125:=A.q Tryz.f125
def A.k125:=@A.kk 125 13 [.tmp 4,.tmp 5,.tmp 6] A.b125 (by kernel_rfl) rfl
def KM{s:aU}{st:St}:A.C.call (.func 224 [] []) [.str s,.str [45]] st=some (.bool (bY s),st):=by
 apply Call.eq
 rw[aQ,A.k224 (by simp)]
 cases s with
 |nil=>simp[A.b224,bY]
 |cons c s=>
  have e:(([c]:aU)==[45])=decide (c.toNat=45):=by
   rw[Bool.eq_iff_iff]
   simp only[beq_iff_eq,decide_eq_true_eq,iB,and_true]
   exact⟨fun h=>by rw[h];rfl,fun h=>UInt8.toNat_inj.1 h⟩
  have h1:(1:Int)<=(s.length:Int)+1:=by omega
  simp[A.b224,bY,az,e,h1]
def Zsb{st:St}:A.C.call (.func 160 [] []) [.str s,.str [45]] st=some (.aY [.str (bj s),.bool (bY s)],st):=by
 apply Call.eq
 rw[aQ,A.k160 (by simp)]
 simp[A.b160]
 rw[A.k207 (by simp)]
 by_cases hn:bY s=true
 ·have h1:1<=s.length:=by cases s<;>simp[bY]at hn ⊢
  have h_:(1:Int)<=s.length:=by omega
  simp[A.b207,KM,hn,az,h_,bj]
 ·simp[A.b207,KM,hn,bj]
def Zjq{st:St}:A.C.call (.func 185 [] []) [.str s,.str [45]] st=some (.str (bj s),st):=by
 apply Call.eq
 rw[aQ,A.k185 (by simp)]
 simp[A.b185]
 rw[A.k225 (by simp)]
 by_cases hn:bY s=true
 ·have h1:1<=s.length:=by cases s<;>simp[bY]at hn ⊢
  have h_:(1:Int)<=s.length:=by omega
  simp[A.b225,KM,hn,az,h_,bj]
 ·simp[A.b225,KM,hn,bj]
def Zrv{st:St}:A.C.call (.func 184 [] []) [.str s,.str [45]] st=some (.bool (bY s),st):=by
 apply Call.eq
 rw[aQ,A.k184 (by simp)]
 simp[A.b184,KM]
def Zru{st:St}:A.C.call (.func 248 [] []) [.str s,.int .u8 47] st=some (.int .i64 (if ah s<s.length then (ah s:Int) else -1),st):=by
 apply Call.eq
 rw[aQ,A.k248 (by simp)]
 have e:=Zke s 0
 simp only[vW]at e
 simp[A.b248,EA,At,e]
def Zv7{st:St}:A.C.call (.func 223 [] []) [.str s,.str [47]] st=some (.int .i64 (if ah s<s.length then (ah s:Int) else -1),st):=by
 apply Call.eq
 rw[aQ,A.k223 (by simp)]
 by_cases hs:s=[47]
 ·subst hs
  simp[A.b223,ah]
 ·have e1:(([47]:aU)==s)=false:=by simp;exact fun h=>hs h.symm
  have e2:cJ 47=47:=rfl
  simp[A.b223,Zru,e1,e2]
def Yig{st:St}(hl:s.length<4611686018427387904):A.C.call (.func 125 [] []) [.str s,.str [47]] st=some (.aY [.str (s.take (ah s)),.str (s.drop (ah s+1)),.bool (decide (ah s<s.length))],st):=by
 apply Call.eq
 rw[aQ,A.k125 (by simp)]
 simp[A.b125]
 rw[A.k183 (by simp)]
 have hle:=Ci s
 by_cases hs:ah s<s.length
 ·simp(disch:=first|(simp;done)|omega|(simp only[bn,bW,bf];omega)|rfl) [A.b183,Zv7,hs,az]
  try omega
 ·have:s.take (ah s)=s:=gI (by omega)
  have h2:s.drop (ah s+1)=[]:=w_ (by omega)
  simp(disch:=first|(simp;done)|omega|(simp only[bn,bW,bf];omega)|rfl) [-getElem?_pos,A.b183,Zv7,hs,this,h2]
end
end Go.Mx
