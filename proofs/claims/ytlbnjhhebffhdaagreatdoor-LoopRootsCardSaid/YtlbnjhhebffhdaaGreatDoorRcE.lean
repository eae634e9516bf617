/-lensletref01-/
import Derived.Test.YtlbnjhhebffhdaaGreatDoorRbF
set_option linter.all false
namespace Go.Mx
noncomputable section
open Go Go.Proofs
variable {N:Nat} {a b:Int} {h:T O} {x y:V}
set_option maxRecDepth 1000000
def A.b97:=A.q Tryz.f97
def A.k97:=@A.kk 97 57 [.tmp 4] A.b97 (by kernel_rfl) rfl
def Rb(hb:0<b):b.natAbs/Nat.gcd a.natAbs b.natAbs=(Rat.divInt a b).den:=by
 have h:((Rat.divInt a b).den:Int)=((b.natAbs/Nat.gcd a.natAbs b.natAbs:Nat):Int):=by
  rw[Rat.den_divInt,aA (by omega),Int.gcd_comm]
  rfl
 exact(Int.ofNat_inj.1 h).symm
def Kv(hb:0<b):(if decide (a<0)=true then -((a.natAbs/Nat.gcd a.natAbs b.natAbs:Nat):Int) else ((a.natAbs/Nat.gcd a.natAbs b.natAbs:Nat):Int))=(Rat.divInt a b).num:=by
 rw[Rat.num_divInt,Int.sign_eq_one_of_pos hb,Int.one_mul,Int.gcd_comm]
 have hd:((Int.gcd a b:Nat):Int)∣a:=Int.gcd_dvd_left ..
 have he:Nat.gcd a.natAbs b.natAbs=Int.gcd a b:=rfl
 rw[he,Int.natCast_ediv]
 by_cases ha:a<0
 ·have h1:(a.natAbs:Int)= -a:=by omega
  simp only[ha,decide_true,if_true,h1]
  rw[Int.neg_ediv_of_dvd hd,Int.neg_neg]
 ·have h1:(a.natAbs:Int)=a:=by omega
  simp[ha,h1]
def Yfu{z:Int}:(aU z).length<=9*(ds z.natAbs).length+2:=by
 have:=Rc (n:=z.natAbs)
 unfold aU
 split<;>simp<;>omega
def Yla{m e:Nat}(h0:0<m)(he:m%1000000000=e):m=1↔(ds m).length=1/\e=1:=by
 constructor
 ·rintro rfl
  exact⟨by have:=Yk9 (r:=1) (by omega);rw[<-this];decide,by omega⟩
 ·rintro⟨h1,h2⟩
  have h3:=uy (fW m)
  rw[ga,h1,T3,Nat.pow_one]at h3
  omega
def Zs3(hx:Rg h N x a)(hy:Rg h N y b)(hb:0<b)(l3:(ds a.natAbs).length<100000000000)(l4:(ds b.natAbs).length<100000000000):Fn A.C 97 [x,y] h N (fun u _ _=>u=.str (Zao (Rat.divInt a b))):=by
 intro w
 obtain⟨u,rfl,l_⟩:=hx
 obtain⟨v,rfl,nP⟩:=hy
 have o1:=Sl.form l_ |>.one
 have o2:=Sl.form l_ |>.cells
 have o3:=Sl.form nP |>.one
 have o4:=Sl.form nP |>.cells
 unfold V.one at o1 o3
 unfold V.cells at o2 o4
 have l1:(ds a.natAbs).length<1000000000000:=by omega
 have l2:(ds b.natAbs).length<1000000000000:=by omega
 have vL:¬b<0:=by omega
 rw[show decide (b<0)=false by simp[vL]]
 have kB:=(((ah.refl (h:=h) (n:=N)).new (.cells [.bool (decide (a<0)),u] 129 true)).new (.cells [.bool false,v] 129 true))
 have hu:=Sl.ai l_ kB
 have hv:=Sl.ai nP kB
 rw[aZ,A.k97 (by simp)]
 simp[A.b97,o1,o3,aI]
 generalize hB:(h.set N (.cells [.bool (decide (a<0)),u] 129 true)).set (N+1) (.cells [.bool false,v] 129 true)=HB at*
 have gN:HB.get N=some (.cells [.bool (decide (a<0)),u] 129 true):=by rw[<-hB];simp
 have gM:HB.get (N+1)=some (.cells [.bool false,v] 129 true):=by rw[<-hB];simp
 refine av (Zk7 hu hv l1 l2) ?_
 rintro v1 h1 n1 k1 q1
 have EF:=(k1.get N (by omega)).trans gN
 have Kw:=(k1.get (N+1) (by omega)).trans gM
 have Cj:0<Nat.gcd a.natAbs b.natAbs:=Ta _ (by omega)
 have lg:(ds (Nat.gcd a.natAbs b.natAbs)).length<1000000000000:=oe (tJ (Nat.gcd_le_right _ (by omega))) l2
 have xF:=k1.le
 simp[EF,aI]
 refine av (QY (hu.ai k1) q1 Cj l1 lg) ?_
 rintro _ h2 n2 k2 ⟨q,r1,rfl,q2, -⟩
 have Kx:=(k2.get (N+1) (by omega)).trans Kw
 have oH:=k2.le
 simp[Kx,aI]
 refine av (QY ((hv.ai k1).ai k2) (q1.ai k2) Cj l2 lg) ?_
 rintro _ h3 n3 k3 ⟨d,r2,rfl,q3, -⟩
 have BH:=(k3.get N (by omega)).trans ((k2.get N (by omega)).trans EF)
 have KU:=k3.le
 rw[Rb hb]at q3
 have lq:(ds (a.natAbs/Nat.gcd a.natAbs b.natAbs)).length<100000000000:=oe (tJ (th _ _)) l3
 have ld3:(ds (Rat.divInt a b).den).length<100000000000:=by rw[<-Rb hb];exact oe (tJ (th _ _)) l4
 simp[BH,aI]
 refine av (vj (n:=a.natAbs/Nat.gcd a.natAbs b.natAbs) (q2.ai k3) (fW _) (ga _) (by omega)) ?_
 rintro v4 h4 n4 k4 q4
 have le4:=k4.le
 rw[Kv hb]at q4
 simp[]
 refine av (MQ q4 (by rw[<-Kv hb];split<;>(first|rw[AR,eA]|rw[eA])<;>exact lq)) ?_
 rintro _ h5 n5 k5 rfl
 have le5:=k5.le
 obtain⟨m,hm⟩:∃m,(Rat.divInt a b).den=m:=⟨_,rfl⟩
 have uD:0<m:=by rw[<-hm];exact Xed _
 rw[hm]at q3 ld3
 have de:=Yfu (z:=(Rat.divInt a b).num)
 have Ky:(ds (Rat.divInt a b).num.natAbs).length<100000000000:=by rw[<-Kv hb];split<;>(first|rw[AR,eA]|rw[eA])<;>exact lq
 have kP:Zao (Rat.divInt a b)=if m=1 then aU (Rat.divInt a b).num else aU (Rat.divInt a b).num++47::aq m:=by unfold Zao;rw[hm]
 rw[kP]
 generalize aU (Rat.divInt a b).num=s at*
 have CY:Dn h5 n5 d m:=(q3.ai k4).ai k5
 have ld:=Sl.len CY
 rw[gp]at ld
 have sP:(ds m).length≠0:=fun hc=>(by omega:m≠0) (Bz.1 (rz hc))
 have hg:=T1 (i:=0) (n:=m) (by omega)
 rw[AF,Nat.div_one]at hg
 obtain⟨e,he⟩:∃e,m%1000000000=e:=⟨_,rfl⟩
 rw[he]at hg
 have rW:m=1↔(ds m).length=1/\e=1:=Yla uD he
 obtain⟨i,o,c,te,rw_,p1,p2,p3,p4⟩:=Sl.at CY (fY hg)
 rw[mY]at p4
 obtain⟨L,hL⟩:∃L,(ds m).length=L:=⟨_,rfl⟩
 rw[hL]at ld rW
 have hdl:=Rc (n:=m)
 rw[hL]at hdl ld3
 have dT:IntKind.max .i64=9223372036854775807:=rfl
 have b1:¬(9223372036854775807:Int)<(s.length:Int)+1:=by omega
 have b2:¬(9223372036854775807:Int)<(s.length:Int)+1+((aq m).length:Int):=by omega
 have Kz:aU (m:Int)=aq m:=by unfold aU;rw[aA (by omega),eA]
 have vd:(ds m).length<1152921504606846976:=by omega
 have K5:ah h N h5 n5:=((((kB.trans k1).trans k2).trans k3).trans k4).trans k5
 by_cases oQ:m=1
 ·obtain⟨rfl,rfl⟩:=rW.1 oQ
  rw[aR oQ]
  clear de Ky hdl b1 b2 vd ld3
  simp[ld,p1,p3,p4,Ret]
  exact K5
 ·rw[aA oQ]
  by_cases MO:L=1
  ·have JY:¬e=1:=fun hc=>oQ (rW.2 ⟨MO,hc⟩)
   have he2:¬(e:Int)=1:=by omega
   subst MO
   clear de Ky hdl
   simp[ld,p1,p3,p4,he2,iF,dT,b1]
   refine av (vj (b:=false) (n:=m) CY (fW _) (ga _) vd) ?_
   rintro v6 h6 n6 k6 q6
   have q7:Rg h6 n6 v6 (m:Int):=by simpa using q6
   simp[]
   refine av (MQ q7 (by rw[eA,hL];exact ld3)) ?_
   rintro _ h7 n7 k7 rfl
   rw[Kz]
   simp[iF,dT,b2,Ret]
   exact(K5.trans k6).trans k7
  ·have hL2:¬(L:Int)=1:=by omega
   clear de Ky hdl
   simp[ld,hL2,iF,dT,b1]
   refine av (vj (b:=false) (n:=m) CY (fW _) (ga _) vd) ?_
   rintro v6 h6 n6 k6 q6
   have q7:Rg h6 n6 v6 (m:Int):=by simpa using q6
   simp[]
   refine av (MQ q7 (by rw[eA,hL];exact ld3)) ?_
   rintro _ h7 n7 k7 rfl
   rw[Kz]
   simp[iF,dT,b2,Ret]
   exact(K5.trans k6).trans k7
def Zs4{P Q:Int}(hx:Rg h N x P)(hy:Rg h N y Q)(ud:Q<0)(l3:(ds P.natAbs).length<100000000000)(l4:(ds Q.natAbs).length<100000000000):Fn A.C 97 [x,y] h N (fun u _ _=>u=.str (Zao (Rat.divInt P Q))):=by
 intro w
 obtain⟨u0,rfl,l_⟩:=hx
 obtain⟨v0,rfl,nP⟩:=hy
 have o1:=Sl.form l_ |>.one
 have o2:=Sl.form l_ |>.cells
 have o3:=Sl.form nP |>.one
 have o4:=Sl.form nP |>.cells
 unfold V.one at o1 o3
 unfold V.cells at o2 o4
 have oI:Rg h N (.agg [.bool (decide (P<0)),u0]) P:=⟨u0,rfl,l_⟩
 have tK:Rg h N (.agg [.bool true,v0]) Q:=⟨v0,by simp[ud],nP⟩
 rw[show decide (Q<0)=true by simp[ud]]
 have kA:=(((ah.refl (h:=h) (n:=N)).new (.cells [.bool (decide (P<0)),u0] 129 true)).new (.cells [.bool true,v0] 129 true))
 rw[aZ,A.k97 (by simp)]
 simp[A.b97,o1,o3,aI,aK]
 generalize hA:(h.set N (.cells [.bool (decide (P<0)),u0] 129 true)).set (N+1) (.cells [.bool true,v0] 129 true)=HA at*
 have gN0:HA.get N=some (.cells [.bool (decide (P<0)),u0] 129 true):=by rw[<-hA];simp
 have gM0:HA.get (N+1)=some (.cells [.bool true,v0] 129 true):=by rw[<-hA];simp
 refine av (Zxm (oI.ai kA) (by omega)) ?_
 rintro _ m1 t1 j1 q1
 obtain⟨a,ha⟩:∃a,a= -P:=⟨_,rfl⟩
 rw[<-ha]at q1
 obtain⟨u,rfl,zp⟩:=q1
 have i1:=j1.le
 have EF:=(j1.get N (by omega)).trans gN0
 have Kw:=(j1.get (N+1) (by omega)).trans gM0
 simp[Kw,aI,aK]
 refine av (Zxm ((tK.ai kA).ai j1) (by omega)) ?_
 rintro _ m2 t2 j2 q2
 obtain⟨b,qN⟩:∃b,b= -Q:=⟨_,rfl⟩
 rw[<-qN]at q2
 have hb:0<b:=by omega
 obtain⟨v,rfl,ix⟩:=q2
 rw[show decide (b<0)=false by simp;omega]
 have jb:Rat.divInt P Q=Rat.divInt a b:=by rw[ha,qN];exact(Rat.neg_divInt_neg P Q).symm
 rw[jb]
 have n1:=Yqn (b:=decide (P<0)) (Sl.form l_)
 have n2:=Yqn (b:=true) (Sl.form nP)
 have i2:=j2.le
 have Vd:=(j2.get N (by omega)).trans EF
 have Kx:=(j2.get (N+1) (by omega)).trans Kw
 have s1:=Sl.form zp |>.one
 have s2:=Sl.form zp |>.cells
 have s3:=Sl.form ix |>.one
 have s4:=Sl.form ix |>.cells
 unfold V.one at s1 s3
 unfold V.cells at s2 s4
 have g1:N+1<t1:=by omega
 have g2:N+1<t2:=by omega
 have g3:N<t2:=by omega
 simp[Vd,Kx,s1,s3,aj,bM,aI,b_.chk,g1,g2,g3]
 have gM3:(m2.set N (.cells [.bool (decide (a<0)),u] 129 true)).get (N+1)=some (.cells [.bool true,v0] 129 true):=by rw[T.al,aA (by omega)];exact Kx
 have kB:=((((kA.trans j1).trans j2).set (i:=N) (o:=.cells [.bool (decide (a<0)),u] 129 true) (by omega))).set (i:=N+1) (o:=.cells [.bool false,v] 129 true) (by omega)
 have hu:=Sl.setInt (Sl.setInt (zp.ai j2) Vd n1 (c1:=[.bool (decide (a<0)),u]) (e1:=129) (w1:=true) rfl) gM3 n2 (c1:=[.bool false,v]) (e1:=129) (w1:=true) rfl
 have hv:=Sl.setInt (Sl.setInt ix Vd n1 (c1:=[.bool (decide (a<0)),u]) (e1:=129) (w1:=true) rfl) gM3 n2 (c1:=[.bool false,v]) (e1:=129) (w1:=true) rfl
 generalize hB:(m2.set N (.cells [.bool (decide (a<0)),u] 129 true)).set (N+1) (.cells [.bool false,v] 129 true)=HB at*
 have gN:HB.get N=some (.cells [.bool (decide (a<0)),u] 129 true):=by rw[<-hB];simp
 have gM:HB.get (N+1)=some (.cells [.bool false,v] 129 true):=by rw[<-hB];simp
 have ea:a.natAbs=P.natAbs:=by omega
 have eb:b.natAbs=Q.natAbs:=by omega
 rw[<-ea]at l3
 rw[<-eb]at l4
 have l1:(ds a.natAbs).length<1000000000000:=by omega
 have l2:(ds b.natAbs).length<1000000000000:=by omega
 clear o1 o2 o3 o4
 have o1:=s1
 have o2:=s2
 have o3:=s3
 have o4:=s4
 clear s1 s2 s3 s4 gM3 Vd Kx EF Kw gN0 gM0 n1 n2 hA jb
 refine av (Zk7 hu hv l1 l2) ?_
 rintro v1 h1 n1 k1 q1
 have EF:=(k1.get N (by omega)).trans gN
 have Kw:=(k1.get (N+1) (by omega)).trans gM
 have Cj:0<Nat.gcd a.natAbs b.natAbs:=Ta _ (by omega)
 have lg:(ds (Nat.gcd a.natAbs b.natAbs)).length<1000000000000:=oe (tJ (Nat.gcd_le_right _ (by omega))) l2
 have xF:=k1.le
 simp[EF,aI]
 refine av (QY (hu.ai k1) q1 Cj l1 lg) ?_
 rintro _ h2 n2 k2 ⟨q,r1,rfl,q2, -⟩
 have Kx:=(k2.get (N+1) (by omega)).trans Kw
 have oH:=k2.le
 simp[Kx,aI]
 refine av (QY ((hv.ai k1).ai k2) (q1.ai k2) Cj l2 lg) ?_
 rintro _ h3 n3 k3 ⟨d,r2,rfl,q3, -⟩
 have BH:=(k3.get N (by omega)).trans ((k2.get N (by omega)).trans EF)
 have KU:=k3.le
 rw[Rb hb]at q3
 have lq:(ds (a.natAbs/Nat.gcd a.natAbs b.natAbs)).length<100000000000:=oe (tJ (th _ _)) l3
 have ld3:(ds (Rat.divInt a b).den).length<100000000000:=by rw[<-Rb hb];exact oe (tJ (th _ _)) l4
 simp[BH,aI]
 refine av (vj (n:=a.natAbs/Nat.gcd a.natAbs b.natAbs) (q2.ai k3) (fW _) (ga _) (by omega)) ?_
 rintro v4 h4 n4 k4 q4
 have le4:=k4.le
 rw[Kv hb]at q4
 simp[]
 refine av (MQ q4 (by rw[<-Kv hb];split<;>(first|rw[AR,eA]|rw[eA])<;>exact lq)) ?_
 rintro _ h5 n5 k5 rfl
 have le5:=k5.le
 obtain⟨m,hm⟩:∃m,(Rat.divInt a b).den=m:=⟨_,rfl⟩
 have uD:0<m:=by rw[<-hm];exact Xed _
 rw[hm]at q3 ld3
 have de:=Yfu (z:=(Rat.divInt a b).num)
 have Ky:(ds (Rat.divInt a b).num.natAbs).length<100000000000:=by rw[<-Kv hb];split<;>(first|rw[AR,eA]|rw[eA])<;>exact lq
 have kP:Zao (Rat.divInt a b)=if m=1 then aU (Rat.divInt a b).num else aU (Rat.divInt a b).num++47::aq m:=by unfold Zao;rw[hm]
 rw[kP]
 generalize aU (Rat.divInt a b).num=s at*
 have CY:Dn h5 n5 d m:=(q3.ai k4).ai k5
 have ld:=Sl.len CY
 rw[gp]at ld
 have sP:(ds m).length≠0:=fun hc=>(by omega:m≠0) (Bz.1 (rz hc))
 have hg:=T1 (i:=0) (n:=m) (by omega)
 rw[AF,Nat.div_one]at hg
 obtain⟨e,he⟩:∃e,m%1000000000=e:=⟨_,rfl⟩
 rw[he]at hg
 have rW:m=1↔(ds m).length=1/\e=1:=Yla uD he
 obtain⟨i,o,c,te,rw_,p1,p2,p3,p4⟩:=Sl.at CY (fY hg)
 rw[mY]at p4
 obtain⟨L,hL⟩:∃L,(ds m).length=L:=⟨_,rfl⟩
 rw[hL]at ld rW
 have hdl:=Rc (n:=m)
 rw[hL]at hdl ld3
 have dT:IntKind.max .i64=9223372036854775807:=rfl
 have b1:¬(9223372036854775807:Int)<(s.length:Int)+1:=by omega
 have b2:¬(9223372036854775807:Int)<(s.length:Int)+1+((aq m).length:Int):=by omega
 have Kz:aU (m:Int)=aq m:=by unfold aU;rw[aA (by omega),eA]
 have vd:(ds m).length<1152921504606846976:=by omega
 have K5:ah h N h5 n5:=((((kB.trans k1).trans k2).trans k3).trans k4).trans k5
 by_cases oQ:m=1
 ·obtain⟨rfl,rfl⟩:=rW.1 oQ
  rw[aR oQ]
  clear de Ky hdl b1 b2 vd ld3
  simp[ld,p1,p3,p4,Ret]
  exact K5
 ·rw[aA oQ]
  by_cases MO:L=1
  ·have JY:¬e=1:=fun hc=>oQ (rW.2 ⟨MO,hc⟩)
   have he2:¬(e:Int)=1:=by omega
   subst MO
   clear de Ky hdl
   simp[ld,p1,p3,p4,he2,iF,dT,b1]
   refine av (vj (b:=false) (n:=m) CY (fW _) (ga _) vd) ?_
   rintro v6 h6 n6 k6 q6
   have q7:Rg h6 n6 v6 (m:Int):=by simpa using q6
   simp[]
   refine av (MQ q7 (by rw[eA,hL];exact ld3)) ?_
   rintro _ h7 n7 k7 rfl
   rw[Kz]
   simp[iF,dT,b2,Ret]
   exact(K5.trans k6).trans k7
  ·have hL2:¬(L:Int)=1:=by omega
   clear de Ky hdl
   simp[ld,hL2,iF,dT,b1]
   refine av (vj (b:=false) (n:=m) CY (fW _) (ga _) vd) ?_
   rintro v6 h6 n6 k6 q6
   have q7:Rg h6 n6 v6 (m:Int):=by simpa using q6
   simp[]
   refine av (MQ q7 (by rw[eA,hL];exact ld3)) ?_
   rintro _ h7 n7 k7 rfl
   rw[Kz]
   simp[iF,dT,b2,Ret]
   exact(K5.trans k6).trans k7
def Zn8(hx:Rg h N x a)(hy:Rg h N y b)(hb:b≠0)(l3:(ds a.natAbs).length<100000000000)(l4:(ds b.natAbs).length<100000000000):Fn A.C 97 [x,y] h N (fun u _ _=>u=.str (Zao (Rat.divInt a b))):=by
 rcases Int.lt_or_gt_of_ne hb with hb|hb
 ·exact Zs4 hx hy hb l3 l4
 ·exact Zs3 hx hy hb l3 l4
def A.Re:=A.q Tryz.f101
def A.zin:=A.ql A.Re 0 []
def A.b101:=(fun x0=>A.qb A.Re [x0]) A.zin
def A.k101:=@A.kk 101 12 [.tmp 4] A.b101 (by kernel_rfl) rfl
def Ye3{a b:Nat}{st:St}(ha:a<9223372036854775808)(hb:b<9223372036854775808):A.C.call (.func 101 [] []) [.int .i64 a,.int .i64 b] st=some (.int .i64 (Nat.gcd a b:Nat),st):=by
 apply Call.eq
 rw[aZ,A.k101 (by simp)]
 simp[A.b101]
 refine Zal [(0,1),(5,10)] (fun e r s1=>s1=⟨st.h,st.n,[]⟩/\e=.exit 0/\r.get 0=some (.int .i64 (Nat.gcd a b:Nat))) (fun q r s1=>s1=⟨st.h,st.n,[]⟩/\q<9223372036854775808/\r.get 1=some (.int .i64 q)/\∃k:Nat,k<9223372036854775808/\r.get 0=some (.int .i64 k)/\Nat.gcd k q=Nat.gcd a b) b ?_ ?_ ?_
 ·exact⟨rfl,hb,by simp,a,ha,by simp,rfl⟩
 ·rintro q r _ hr hf ⟨rfl,hq,h1,k,hk,h0,hg⟩
  rw[cn]
  by_cases hz:q=0
  ·subst hz
   rw[Nat.gcd_zero_right]at hg
   simp[A.zin,hf,h0,h1,hg]
  ·have i1:(0:Int)<(q:Int):=by omega
   have i2:0<q:=by omega
   have i3:¬(q:Int)=0:=by omega
   have t1:(k:Int).tmod q=((k%q:Nat):Int):=by rw[DE (by omega)];omega
   have t2:bA .i64 ((k%q:Nat):Int)=((k%q:Nat):Int):=cH (by omega) (by have:=kf k i2;omega)
   have aW:=kf k i2
   simp[A.zin,hf,h0,h1,i2,hz,t1,b_.chk]
   exact⟨k%q,aW,by omega,by simp,q,hq,rfl,by rw[<-hg,Nat.gcd_comm k q,Nat.gcd_rec q k,Nat.gcd_comm]⟩
 ·rintro _ r _ hr ⟨rfl,rfl,h0⟩
  simp[h0]
def A.b30:=A.q Tryz.f30
def A.k30:=@A.kk 30 61 [.tmp 4] A.b30 (by kernel_rfl) rfl
def EG{z:Int}:xP [.int .i64 z,.int .i64 (-z)]=some (.int .i64 (z.natAbs:Nat)):=by
 have h:xP [.int .i64 z,.int .i64 (-z)]=some (.int .i64 (if z< -z then -z else z)):=rfl
 rw[h]
 congr 2
 split<;>omega
def Ye8{a:Int}{m:Nat}(hm:0<m):(Rat.divInt a m).num=a.tdiv (Nat.gcd a.natAbs m:Nat)/\(Rat.divInt a m).num.natAbs<=a.natAbs/\(Rat.divInt a m).den=m/Nat.gcd a.natAbs m:=by
 have hb:(0:Int)<(m:Int):=by omega
 have h1:=Kv (a:=a) hb
 have h2:=Rb (a:=a) hb
 rw[eA]at h1 h2
 have hd:((Nat.gcd a.natAbs m:Nat):Int)∣a:=Int.gcd_dvd_left (a:=a) (b:=(m:Int))
 refine⟨?_,?_,h2.symm⟩
 ·rw[Int.tdiv_eq_ediv_of_dvd hd,Rat.num_divInt,Int.sign_eq_one_of_pos hb,Int.one_mul,Int.gcd_comm]
  rfl
 ·rw[<-h1]
  have:=th a.natAbs (Nat.gcd a.natAbs m)
  generalize a.natAbs/Nat.gcd a.natAbs m=k at*
  split
  ·rw[AR,eA];exact this
  ·rw[eA];exact this
def SR{a:Int}{m:Nat}{st:St}(hm:0<m)(h1: -4000000000000000000<=a)(h2:a<=4000000000000000000)(h3:m<=4000000000000000000):A.C.call (.func 30 [] []) [.int .i64 a,.int .i64 m] st=some (.str (Zao (Rat.divInt a m)),st):=by
 apply Call.eq
 rw[aZ,A.k30 (by simp)]
 have c1:¬a< -4000000000000000000:=by omega
 have c2:¬4000000000000000000<a:=by omega
 have c3:¬(m:Int)< -4000000000000000000:=by omega
 have c4:¬4000000000000000000<(m:Int):=by omega
 have c5:¬(m:Int)<0:=by omega
 have w1:bA .i64 (-a)= -a:=cH (by omega) (by omega)
 have w2:bA .i64 (0-a)= -a:=by rw[Int.zero_sub];exact w1
 have hg:=fun st=>Ye3 (a:=a.natAbs) (b:=m) (st:=st) (by omega) (by omega)
 obtain⟨e1,e2,e3⟩:=Ye8 (a:=a) hm
 have yk:0<(Rat.divInt a m).den:=Xed _
 have kP:Zao (Rat.divInt a m)=if (Rat.divInt a m).den=1 then aU (Rat.divInt a m).num else aU (Rat.divInt a m).num++47::aq (Rat.divInt a m).den:=rfl
 rw[kP]
 clear kP
 have ED:0<Nat.gcd a.natAbs m:=Ta _ hm
 generalize (Rat.divInt a m).num=P at*
 generalize (Rat.divInt a m).den=D at*
 generalize Nat.gcd a.natAbs m=g at*
 have hDm:D<=m:=by rw[e3];exact th _ _
 have e4:(m:Int).tdiv (g:Int)=(D:Int):=by rw[AL (by omega),e3];rfl
 have g0:¬(g:Int)=0:=by omega
 have g1:¬g=0:=by omega
 have v1:bA .i64 P=P:=cH (by omega) (by omega)
 have v2:bA .i64 (-P)= -P:=cH (by omega) (by omega)
 have v3:bA .i64 (D:Int)=(D:Int):=cH (by omega) (by omega)
 have d1:∀st,A.C.call (.func 102 [] []) [.int .i64 (P.natAbs:Nat),.int .i64 1] st=some (.str (aq P.natAbs),st):=fun st=>(MR (n:=P.natAbs) (m:=1) (st:=st) (by omega) (by omega)).trans (by rw[Zk2])
 have d2:∀st,A.C.call (.func 102 [] []) [.int .i64 D,.int .i64 1] st=some (.str (aq D),st):=fun st=>(MR (n:=D) (m:=1) (st:=st) (by omega) (by omega)).trans (by rw[Zk2])
 have x1:(aq P.natAbs).length<30:=by
  have:(dk P.natAbs).length<=19:=oS.1 (by omega)
  unfold aq;split<;>simp;omega
 have x2:(aq D).length<30:=by
  have:(dk D).length<=19:=oS.1 (by omega)
  unfold aq;split<;>simp;omega
 have dT:IntKind.max .i64=9223372036854775807:=rfl
 have y1:¬(9223372036854775807:Int)<((aq P.natAbs).length:Int):=by omega
 have y2:¬(9223372036854775807:Int)<1+((aq P.natAbs).length:Int):=by omega
 have z1:D=1\/(¬D=1/\1<D):=by omega
 rcases z1 with rfl|⟨z1,z2⟩<;>by_cases hP:P<0
 ·simp[A.b30,c1,c2,c3,c4,c5,w1,o9,EG,hg,<-e1,e4,g1,v1,v2,hP,d1,iF,dT,y2,aU,b_.chk]
 ·simp[A.b30,c1,c2,c3,c4,c5,w1,o9,EG,hg,<-e1,e4,g1,v1,v2,hP,d1,iF,dT,y1,aU,b_.chk]
 ·have z3:(1:Int)<(D:Int):=by omega
  have y3:¬(9223372036854775807:Int)<((aq P.natAbs).length:Int)+1+1:=by omega
  have y4:¬(9223372036854775807:Int)<((aq P.natAbs).length:Int)+1+1+((aq D).length:Int):=by omega
  simp[A.b30,c1,c2,c3,c4,c5,w1,o9,EG,hg,<-e1,e4,g1,v1,v2,v3,hP,d1,d2,iF,dT,y2,aU,b_.chk,z1,z3,y3,y4]
 ·have z3:(1:Int)<(D:Int):=by omega
  have y3:¬(9223372036854775807:Int)<((aq P.natAbs).length:Int)+1:=by omega
  have y4:¬(9223372036854775807:Int)<((aq P.natAbs).length:Int)+1+((aq D).length:Int):=by omega
  simp[A.b30,c1,c2,c3,c4,c5,w1,o9,EG,hg,<-e1,e4,g1,v1,v2,v3,hP,d1,d2,iF,dT,y1,aU,b_.chk,z1,z3,y3,y4]
def Yqj{p q:Int}{st:St}(hq:q<0)(h1: -4000000000000000000<=p)(h2:p<=4000000000000000000)(h3: -4000000000000000000<=q):A.C.call (.func 30 [] []) [.int .i64 p,.int .i64 q] st=some (.str (Zao (Rat.divInt p q)),st):=by
 apply Call.eq
 rw[aZ,A.k30 (by simp)]
 have c1:¬p< -4000000000000000000:=by omega
 have c2:¬4000000000000000000<p:=by omega
 have c3:¬q< -4000000000000000000:=by omega
 have c4:¬4000000000000000000<q:=by omega
 obtain⟨a,ha⟩:∃a,a= -p:=⟨_,rfl⟩
 obtain⟨m,oQ⟩:∃m:Nat,(m:Int)= -q:=⟨(-q).toNat,by omega⟩
 have hm:0<m:=by omega
 have c5:bA .i64 (-p)=a:=by rw[<-ha];exact cH (by omega) (by omega)
 have c6:bA .i64 (-q)=(m:Int):=by rw[<-oQ];exact cH (by omega) (by omega)
 have jb:Rat.divInt p q=Rat.divInt a m:=by rw[ha,oQ];exact(Rat.neg_divInt_neg p q).symm
 rw[jb]
 clear jb
 have w1:bA .i64 (-a)= -a:=cH (by omega) (by omega)
 have w2:bA .i64 (0-a)= -a:=by rw[Int.zero_sub];exact w1
 have hg:=fun st=>Ye3 (a:=a.natAbs) (b:=m) (st:=st) (by omega) (by omega)
 obtain⟨e1,e2,e3⟩:=Ye8 (a:=a) hm
 have yk:0<(Rat.divInt a m).den:=Xed _
 have kP:Zao (Rat.divInt a m)=if (Rat.divInt a m).den=1 then aU (Rat.divInt a m).num else aU (Rat.divInt a m).num++47::aq (Rat.divInt a m).den:=rfl
 rw[kP]
 clear kP
 have ED:0<Nat.gcd a.natAbs m:=Ta _ hm
 generalize (Rat.divInt a m).num=P at*
 generalize (Rat.divInt a m).den=D at*
 generalize Nat.gcd a.natAbs m=g at*
 have hDm:D<=m:=by rw[e3];exact th _ _
 have e4:(m:Int).tdiv (g:Int)=(D:Int):=by rw[AL (by omega),e3];rfl
 have g0:¬(g:Int)=0:=by omega
 have g1:¬g=0:=by omega
 have v1:bA .i64 P=P:=cH (by omega) (by omega)
 have v2:bA .i64 (-P)= -P:=cH (by omega) (by omega)
 have v3:bA .i64 (D:Int)=(D:Int):=cH (by omega) (by omega)
 have d1:∀st,A.C.call (.func 102 [] []) [.int .i64 (P.natAbs:Nat),.int .i64 1] st=some (.str (aq P.natAbs),st):=fun st=>(MR (n:=P.natAbs) (m:=1) (st:=st) (by omega) (by omega)).trans (by rw[Zk2])
 have d2:∀st,A.C.call (.func 102 [] []) [.int .i64 D,.int .i64 1] st=some (.str (aq D),st):=fun st=>(MR (n:=D) (m:=1) (st:=st) (by omega) (by omega)).trans (by rw[Zk2])
 have x1:(aq P.natAbs).length<30:=by
  have:(dk P.natAbs).length<=19:=oS.1 (by omega)
  unfold aq;split<;>simp;omega
 have x2:(aq D).length<30:=by
  have:(dk D).length<=19:=oS.1 (by omega)
  unfold aq;split<;>simp;omega
 have dT:IntKind.max .i64=9223372036854775807:=rfl
 have y1:¬(9223372036854775807:Int)<((aq P.natAbs).length:Int):=by omega
 have y2:¬(9223372036854775807:Int)<1+((aq P.natAbs).length:Int):=by omega
 have z1:D=1\/(¬D=1/\1<D):=by omega
 rcases z1 with rfl|⟨z1,z2⟩<;>by_cases hP:P<0
 ·simp[A.b30,c1,c2,c3,c4,c5,c6,hq,w1,o9,EG,hg,<-e1,e4,g1,v1,v2,hP,d1,iF,dT,y2,aU,b_.chk]
 ·simp[A.b30,c1,c2,c3,c4,c5,c6,hq,w1,o9,EG,hg,<-e1,e4,g1,v1,v2,hP,d1,iF,dT,y1,aU,b_.chk]
 ·have z3:(1:Int)<(D:Int):=by omega
  have y3:¬(9223372036854775807:Int)<((aq P.natAbs).length:Int)+1+1:=by omega
  have y4:¬(9223372036854775807:Int)<((aq P.natAbs).length:Int)+1+1+((aq D).length:Int):=by omega
  simp[A.b30,c1,c2,c3,c4,c5,c6,hq,w1,o9,EG,hg,<-e1,e4,g1,v1,v2,v3,hP,d1,d2,iF,dT,y2,aU,b_.chk,z1,z3,y3,y4]
 ·have z3:(1:Int)<(D:Int):=by omega
  have y3:¬(9223372036854775807:Int)<((aq P.natAbs).length:Int)+1:=by omega
  have y4:¬(9223372036854775807:Int)<((aq P.natAbs).length:Int)+1+((aq D).length:Int):=by omega
  simp[A.b30,c1,c2,c3,c4,c5,c6,hq,w1,o9,EG,hg,<-e1,e4,g1,v1,v2,v3,hP,d1,d2,iF,dT,y1,aU,b_.chk,z1,z3,y3,y4]
def Yqk{p q:Int}{st:St}(hq:q≠0)(h1: -4000000000000000000<=p)(h2:p<=4000000000000000000)(h3: -4000000000000000000<=q)(h4:q<=4000000000000000000):A.C.call (.func 30 [] []) [.int .i64 p,.int .i64 q] st=some (.str (Zao (Rat.divInt p q)),st):=by
 rcases Int.lt_or_gt_of_ne hq with hq|hq
 ·exact Yqj hq h1 h2 h3
 ·obtain⟨m,rfl⟩:∃m:Nat,q=(m:Int):=⟨q.toNat,by omega⟩
  exact SR (by omega) h1 h2 (by omega)
def A.Rv:=A.q Tryz.f100
def A.mQ:=A.ql A.Rv 0 []
def A.b100:=(fun x0=>A.qb A.Rv [x0]) A.mQ
def A.k100:=@A.kk 100 25 [.cell 2 (some 2)] A.b100 (by kernel_rfl) rfl
def Yc5{s:bj}(hd:cO s=true)(h1:1<=s.length)(h2:s.length<=3000000000){h:T O}{N:Nat}:Fn A.C 119 [.str (45::s)] h N (fun v h' n'=>Rg h' n' v (-((aN s:Nat):Int))):=by
 intro w
 have a1:cX 45=45:=rfl
 have a2:(1:Int)<=(s.length:Int)+1:=by omega
 have a3:∀st:St,pR st (some (.str (45::s))) (some (some (.int .i64 1))) (some none)=some (.str s,st):=fun st=>by rw[BC (by omega) (by simp only[bC];omega)];rfl
 rw[aZ,A.k119 (by simp)]
 simp[A.b119,a1,a3,aH]
 refine Zal [(0,0),(4,4),(16,32)] (fun e r st=>e=.exit 0/\∃m,m<=9/\U5 (h.set N (.cells [.bool false,.ziA] 129 true)) (N+1) s m r st) (U5 (h.set N (.cells [.bool false,.ziA] 129 true)) (N+1) s) s.length ?_ ?_ ?_
 ·exact⟨by simp,ah.refl,s,.ziA,[],by simp,rfl,h1,Yv5 _,hd,by simp,Own.nil,Di.nil,by simp,by simp[vI,pI]⟩
 ·rintro m r ⟨H,n1,W⟩ hr hf ⟨hW,hK,cur,u,l,g0,dW,m1,m2,oD,g4,ho,iG,JA,hv⟩
  simp only at hW hK ho
  subst dW
  rw[cn]
  by_cases h9:9<cur.length
  ·have Ks:(9:Int)<(cur.length:Int):=by omega
   have gW:=hK.le
   have Kt:=M6 (s:=cur.drop (cur.length-9)) (st:=⟨H,n1,W⟩) (Zlf oD _) (by simp;omega)
   have Cz:((cur.length:Int)-9).toNat=cur.length-9:=by omega
   have EE:=A5 (Zlf oD (cur.length-9))
   have hdl:(cur.drop (cur.length-9)).length=9:=by simp;omega
   rw[hdl]at EE
   have hsp:=Zxe (cur.take (cur.length-9)) (cur.drop (cur.length-9))
   rw[AO,hdl,show (10:Nat)^9=1000000000 by decide]at hsp
   generalize hD:aN (cur.drop (cur.length-9))=D at*
   obtain⟨v',h',w',e1,e2,e3,e4,e5⟩:=Bj (x:=[.int .i64 (D:Int)]) (u:=.slice n1 0 1 (some 1) 1) (bytes:=8) (w:=W) (ho.ai (ah.refl.new (.cells [.int .i64 (D:Int)] 3 true))) (by omega) (by decide) rfl (by simp[oL,St.row,aK]) (by rw[Cd];omega)
   rw[<-DU]at e5
   simp(disch:=first|(simp;done)|omega|rfl) [A.jH,hf,g0,g4,Ks,Cz,aH,Kt,aj,e1]
   refine⟨cur.length-9,by omega,⟨by rw[e2];exact hW,(hK.new _).then e3,cur.take (cur.length-9),v',l++[(D:Int)],by simp,by simp,by omega,by omega,Ztp oD _,by simp,e5,iG.app (Di.one (by omega) (by omega)),by simp;omega,?_⟩⟩
   rw[B9,iJ,zf,uw,<-hv]
   have Ku:((aN cur:Nat):Int)=(aN (cur.take (cur.length-9)):Nat)*1000000000+D:=by omega
   rw[Ku]
   generalize ((aN (cur.take (cur.length-9)):Nat):Int)=X
   generalize pI l.length=P
   grind
  ·have Ks:¬(9:Int)<(cur.length:Int):=by omega
   simp[A.jH,hf,g0,Ks]
   exact⟨cur.length,by omega,hW,hK,cur,u,l,by simp[g0],rfl,m1,m2,oD,by simp[g4],ho,iG,JA,hv⟩
 ·rintro _ r ⟨H,n1,W⟩ hr ⟨rfl,m,m9,hW,hK,cur,u,l,g0,dW,m1,m2,oD,g4,ho,iG,JA,hv⟩
  simp only at hW hK ho
  subst dW
  have gW:=hK.le
  have Kt:=M6 (s:=cur) (st:=⟨H,n1,W⟩) oD (by omega)
  have EE:=A5 oD
  have hp9:=R4 m9
  generalize hD:aN cur=D at*
  obtain⟨v',h',w',e1,e2,e3,e4,e5⟩:=Bj (x:=[.int .i64 (D:Int)]) (u:=.slice n1 0 1 (some 1) 1) (bytes:=8) (w:=W) (ho.ai (ah.refl.new (.cells [.int .i64 (D:Int)] 3 true))) (by omega) (by decide) rfl (by simp[oL,St.row,aK]) (by rw[Cd];omega)
  rw[<-DU]at e5
  simp[hr,g0,g4,Kt,aj,e1]
  have km:Di (l++[(D:Int)]):=iG.app (Di.one (by omega) (by omega))
  refine av (vj (b:=true) (n:=aN s) e5.sl km (by rw[B9];exact hv) (by simp;omega)) ?_
  rintro y h5 n5 k5 hy
  have kk:=((hK.new (.cells [.int .i64 (D:Int)] 3 true)).then e3).trans k5
  have xE:=kk.le
  have nW:=kk.get N (by omega)
  simp at nW
  obtain⟨u5,rfl,Ak⟩:=hy
  have Kg:=fun c1 (hc:c1.length=2)=>Sl.setInt (i:=N) (c1:=c1) (e1:=129) (w1:=true) Ak nW (by intro x hx k m;simp at hx;rcases hx with rfl|rfl<;>simp) hc
  have Av:=Sl.form Ak |>.one
  unfold V.one at Av
  have ow:aL N w'=[]:=QW (xS N) (by rw[e2];exact hW)
  have k0:=(ah.refl (h:=h) (n:=N)).new (.cells [.bool false,.ziA] 129 true)
  simp[hr,nW,aj,bM,Av,aI,aK,Ret,ow]
  exact⟨(k0.trans kk).set (Yv5 N),u5,by simp,by simpa[Dn]using Kg _ rfl⟩
structure WhI (h:T O) (N a:Nat) (neg:Bool) (m:Nat) (r:T V) (st:St):Prop where
 w:aL N st.w=[]
 ai:ah h N st.h st.n
 ex:∃z u l,z.natAbs=m/\m<=a/\(z<0->neg=true)/\(0<z->neg=false)/\r.get 0=some (.int .i64 z)/\r.get 3=some u/\Own 1 3 N st.h st.n u (oO l)/\Di l/\vI l+pI l.length*m=a/\l.length<=100/\(m≠0->pI l.length<=a)
def Yck{z:Int}{h:T O}{N:Nat}(h1: -9223372036854775808<=z)(h2:z<9223372036854775808):Fn A.C 100 [.int .i64 z] h N (fun v h' n'=>Rg h' n' v z):=by
 intro w
 rw[aZ,A.k100 (by simp)]
 have kB:=(ah.refl (h:=h) (n:=N)).new (.cells [.bool false,.ziA] 129 true)
 simp[A.b100]
 refine Zal [(0,0),(3,3),(5,5),(8,21)] (fun e r st=>e=.exit 0/\WhI (h.set N (.cells [.bool false,.ziA] 129 true)) (N+1) z.natAbs (decide (z<0)) 0 r st) (WhI (h.set N (.cells [.bool false,.ziA] 129 true)) (N+1) z.natAbs (decide (z<0))) z.natAbs ?_ ?_ ?_
 ·exact⟨by simp,ah.refl,z,.ziA,[],rfl,Yv5 _,fun h=>by simp[h],fun h=>by simp;omega,by simp,by simp,Own.nil,Di.nil,by simp[vI,pI],by simp,fun h=>by simp[pI];omega⟩
 ·rintro m r ⟨H,n1,W⟩ hr hf ⟨hW,hK,y,u,l,rfl,hm,yM,eP,g0,g3,ho,hd,hv,hl,hp⟩
  simp only at hW hK ho
  rw[cn]
  by_cases hy:y=0
  ·subst hy
   simp[A.mQ,hf,g0]
   exact⟨hW,hK,0,u,l,rfl,by omega,yM,eP,by simp[g0],by simp[g3],ho,hd,hv,hl,hp⟩
  ·have gW:=hK.le
   obtain⟨d,lK⟩:∃d:Nat,d=y.natAbs%1000000000:=⟨_,rfl⟩
   obtain⟨q,xw⟩:∃q:Nat,q=y.natAbs/1000000000:=⟨_,rfl⟩
   have hdl:d<1000000000:=by omega
   have Ev:(y.tdiv 1000000000).natAbs=q:=by rw[Int.natAbs_tdiv];exact xw.symm
   have hml:(y.tmod 1000000000).natAbs=d:=by rw[Int.natAbs_tmod];exact lK.symm
   have hqs:(y<0->y.tdiv 1000000000<=0)/\(0<y->0<=y.tdiv 1000000000):=by
    constructor
    ·intro h
     have:(-y).tdiv 1000000000= -(y.tdiv 1000000000):=Int.neg_tdiv _ _
     have h3:0<=(-y).tdiv 1000000000:=Int.tdiv_nonneg (by omega) (by omega)
     omega
    ·intro h
     exact Int.tdiv_nonneg (by omega) (by omega)
   have hms:(y<0->y.tmod 1000000000<=0)/\(0<y->0<=y.tmod 1000000000):=by
    constructor
    ·intro h
     have:(-y).tmod 1000000000= -(y.tmod 1000000000):=Int.neg_tmod _ _
     have h3:0<=(-y).tmod 1000000000:=Int.tmod_nonneg _ (by omega)
     omega
    ·intro h
     exact Int.tmod_nonneg _ (by omega)
   generalize hyq:y.tdiv 1000000000=Y at*
   generalize hym:y.tmod 1000000000=D at*
   have w1:bA .i64 Y=Y:=cH (by omega) (by omega)
   have w2:bA .i64 (0-D)= -D:=by rw[Int.zero_sub];exact cH (by omega) (by omega)
   have w3:bA .i64 (-D)= -D:=cH (by omega) (by omega)
   have hlen:l.length+1<=100:=by
    apply Classical.byContradiction
    intro hc
    have h5:l.length=100:=by omega
    have h6:=hp (by omega)
    rw[h5,T3]at h6
    have h7:(1000000000^100:Nat)<=z.natAbs:=by exact_mod_cast h6
    have h8:(9223372036854775808:Nat)<1000000000^100:=by decide
    omega
   obtain⟨v',h',w',e1,e2,e3,e4,e5⟩:=Bj (x:=[.int .i64 (d:Int)]) (u:=.slice n1 0 1 (some 1) 1) (bytes:=8) (w:=W) (ho.ai (ah.refl.new (.cells [.int .i64 (d:Int)] 3 true))) (by omega) (by decide) rfl (by simp[oL,St.row,aK]) (by rw[Cd];omega)
   rw[<-DU]at e5
   have zgm:vI (l++[(d:Int)])+pI (l++[(d:Int)]).length*(q:Int)=z.natAbs:=by
    rw[B9,iJ,zf,uw,<-hv]
    have:(y.natAbs:Int)=1000000000*(q:Int)+d:=by omega
    rw[this]
    generalize pI l.length=P
    grind
   have hqa:q<y.natAbs:=by omega
   have hpp:q≠0->pI (l++[(d:Int)]).length<=z.natAbs:=fun hq=>by
    have h3:0<=vI (l++[(d:Int)]):=ux (hd.app (Di.one (by omega) (by omega)))
    have h4:0<pI (l++[(d:Int)]).length:=B8 _
    have h5:pI (l++[(d:Int)]).length*1<=pI (l++[(d:Int)]).length*(q:Int):=qE (by omega) (by omega)
    omega
   have fin:WhI (h.set N (.cells [.bool false,.ziA] 129 true)) (N+1) z.natAbs (decide (z<0)) q ((r.set 3 v').set 0 (.int .i64 Y)) ⟨h',n1+1+1,w'⟩:=⟨by rw[e2];exact hW,(hK.new _).then e3,Y,v',l++[(d:Int)],Ev,by omega,fun h=>yM (by have:=hqs.2;omega),fun h=>eP (by have:=hqs.1;omega),by simp,by simp,e5,hd.app (Di.one (by omega) (by omega)),zgm,by simp;omega,hpp⟩
   obtain⟨f1,f2,f3⟩:=fin
   by_cases hD:D<0
   ·have Vl: -D=(d:Int):=by omega
    rw[Vl]at w2 w3
    simp[A.mQ,hf,g0,g3,hy,hyq,hym,hD,w1,w3,Vl,aj,e1]
    exact⟨q,by omega,f1,f2,by simpa using f3⟩
   ·have Vl:D=(d:Int):=by omega
    have hD':¬(d:Int)<0:=by omega
    simp[A.mQ,hf,g0,g3,hy,hyq,hym,hD',w1,Vl,aj,e1]
    exact⟨q,by omega,f1,f2,by simpa using f3⟩
 ·rintro _ r ⟨H,n1,W⟩ hr ⟨rfl,hW,hK,y,u,l,hy,hm,yM,eP,g0,g3,ho,hd,hv,hl,hp⟩
  simp only at hW hK ho
  have h0:y=0:=by omega
  subst h0
  have ix:vI l=(z.natAbs:Nat):=by simpa using hv
  simp[hr,g3]
  refine av (vj (n:=z.natAbs) ho.sl hd ix (by omega)) ?_
  rintro v5 h5 n5 k5 U0
  have ez:(if decide (z<0)=true then -((z.natAbs:Nat):Int) else ((z.natAbs:Nat):Int))=z:=by
   by_cases h0:z<0<;>simp[h0]<;>omega
  rw[ez]at U0
  have xE:=hK.le
  have Kl:=k5.le
  have nW:=(k5.get N (by omega)).trans (hK.get N (by omega))
  rw[T.al,aR rfl]at nW
  obtain⟨u5,rfl,Ak⟩:=U0
  have p1:=Sl.form Ak |>.one
  have p2:=Sl.form Ak |>.cells
  unfold V.one at p1
  unfold V.cells at p2
  have ow:aL N W=[]:=QW (xS N) hW
  simp[hr,nW,aj,bM,p1,aI,aK,Ret,ow]
  exact⟨((kB.trans hK).trans k5).set (Yv5 N),u5,by simp,Sl.setInt Ak nW iX rfl⟩
def Znm{z:Int}{h:T O}{N:Nat}(hl:(aU z).length<=2000000000):Fn A.C 119 [.str (aU z)] h N (fun v h' n'=>Rg h' n' v z):=by
 have h1:1<=(aq z.natAbs).length:=List.length_pos_iff.2 (JD _)
 unfold aU at hl ⊢
 by_cases hz:z<0
 ·rw[aR hz]at hl ⊢
  simp only[bC]at hl
  have e: -((aN (aq z.natAbs):Nat):Int)=z:=by rw[zU];omega
  have:=Yc5 (Zb9 z.natAbs) h1 (by omega) (h:=h) (N:=N)
  rw[e]at this
  exact this
 ·rw[aA hz]at hl ⊢
  have e:((aN (aq z.natAbs):Nat):Int)=z:=by rw[zU];omega
  have:=U6 (Zb9 z.natAbs) h1 (by omega) (h:=h) (N:=N)
  rw[e]at this
  exact this
def Zr5{h h2:T O}{N n2:Nat}{a b:Int}{x y:V}(hx:Sl h2 n2 x (dI (ds a.natAbs)))(hy:Sl h2 n2 y (dI (ds b.natAbs)))(r0:h2.get N=some (.cells [.bool false,.ziA] 129 true))(r1:h2.get (N+1)=some (.cells [.bool false,.ziA] 129 true)):Rg ((h2.set N (.cells [.bool (decide (a<0)),x] 129 true)).set (N+1) (.cells [.bool (decide (b<0)),y] 129 true)) n2 (.agg [.bool (decide (a<0)),x]) a/\Rg ((h2.set N (.cells [.bool (decide (a<0)),x] 129 true)).set (N+1) (.cells [.bool (decide (b<0)),y] 129 true)) n2 (.agg [.bool (decide (b<0)),y]) b:=by
 have Q9:(h2.set N (.cells [.bool (decide (a<0)),x] 129 true)).get (N+1)=some (.cells [.bool false,.ziA] 129 true):=by rw[T.al,aA (by omega)];exact r1
 exact⟨⟨x,rfl,Sl.setInt (Sl.setInt hx r0 iX rfl) Q9 iX rfl⟩,⟨y,rfl,Sl.setInt (Sl.setInt hy r0 iX rfl) Q9 iX rfl⟩⟩
def Vm{q:Rat}{h:T O}{N:Nat}(l1:(aU q.num).length<=1000000000)(l2:(aq q.den).length<=1000000000):Fn A.C 96 [.str (Zao q)] h N (fun v h' n'=>∃x y,v=.aX [x,y]/\Rg h' n' x q.num/\Rg h' n' y (q.den:Int)):=by
 intro w
 have aW:(Zao q).length<=3000000000:=by
  unfold Zao
  split
  ·omega
  ·simp only[iJ,bC];omega
 have de:=fun st=>By (s:=Zao q) (st:=st) (by omega)
 have hsa:=Mr q
 have htk:=Pg q
 have sW:=(ah.refl (h:=h) (n:=N)).new (.cells [.bool false,.ziA] 129 true)
 have k0:=sW.new (.cells [.bool false,.ziA] 129 true)
 have d4':¬N+1=N:=by omega
 have d5':¬N=N+1:=by omega
 rw[aZ,A.k96 (by simp)]
 by_cases hd:q.den=1
 ·have he:ak (Zao q)=(Zao q).length:=by
   have:=yJ q
   have h2:ak (Zao q)<=(Zao q).length:=by
    rw[hsa]
    unfold Zao
    rw[aR hd]
    exact Yv5 _
   omega
  have kP:Zao q=aU q.num:=by unfold Zao;rw[aR hd]
  have c1:((ak (Zao q):Int)=((Zao q).length:Int)):=by omega
  rw[hd]
  simp[A.b96,de,he]
  rw[kP]
  refine av (Znm (z:=q.num) (by omega)) ?_
  rintro v1 h1 n1 k1 ⟨x,rfl,hx⟩
  simp[]
  refine av (Yck (z:=1) (by omega) (by omega)) ?_
  rintro v2 h2 n2 k2 ⟨y,rfl,hy⟩
  have fC:=k1.le
  have zgl:=k2.le
  have hx:=Sl.ai hx k2
  have r0:=(k2.get N (by omega)).trans (k1.get N (by omega))
  have r1:=(k2.get (N+1) (by omega)).trans (k1.get (N+1) (by omega))
  simp at r0 r1
  have wG:=(Sl.form hx).one
  have wH:=(Sl.form hy).one
  have Kn:=(Sl.form hx).cells
  have QV:=(Sl.form hy).cells
  unfold V.one at wG wH
  unfold V.cells at Kn QV
  obtain⟨e1,e2⟩:=Zr5 (h:=h) (b:=1) hx hy r0 r1
  have U7:N<n1:=by omega
  have U8:N<n2:=by omega
  have U9:N+1<n2:=by omega
  simp[r0,r1,aj,bM,wG,wH,aI,aK,Ret]
  simp only[show decide ((1:Int)<0)=false from rfl]at e1 e2
  exact⟨(((k0.trans k1).trans k2).set (by omega)).set (by omega),_,_,⟨rfl,rfl⟩,e1,e2⟩
 ·have zik:=(yJ q).2 hd
  have hdr:=Ph q hd
  have c1:¬((ak (Zao q):Int)=((Zao q).length:Int)):=by omega
  have c2:¬(ak (Zao q)=(Zao q).length):=by omega
  have c3:(ak (Zao q):Int)<=((Zao q).length:Int):=by omega
  have c4:(ak (Zao q):Int)+1<=((Zao q).length:Int):=by omega
  have c5:((ak (Zao q):Int)+1).toNat=ak (Zao q)+1:=by omega
  have Ba:aN (aq q.den)=q.den:=zU _
  simp[A.b96,de,c1,c3,aH,htk]
  refine av (Znm (z:=q.num) (by omega)) ?_
  rintro v1 h1 n1 k1 ⟨x,rfl,hx⟩
  simp(disch:=omega) [c5,aH,hdr]
  refine av (U6 (Zb9 q.den) (List.length_pos_iff.2 (JD _)) (by omega)) ?_
  rintro v2 h2 n2 k2 hy
  rw[Ba]at hy
  obtain⟨y,rfl,hy⟩:=hy
  have fC:=k1.le
  have zgl:=k2.le
  have hx:=Sl.ai hx k2
  have r0:=(k2.get N (by omega)).trans (k1.get N (by omega))
  have r1:=(k2.get (N+1) (by omega)).trans (k1.get (N+1) (by omega))
  simp at r0 r1
  have wG:=(Sl.form hx).one
  have wH:=(Sl.form hy).one
  have Kn:=(Sl.form hx).cells
  have QV:=(Sl.form hy).cells
  unfold V.one at wG wH
  unfold V.cells at Kn QV
  obtain⟨e1,e2⟩:=Zr5 (h:=h) (b:=(q.den:Int)) hx hy r0 r1
  have U7:N<n1:=by omega
  have U8:N<n2:=by omega
  have U9:N+1<n2:=by omega
  have xh:¬(q.den:Int)<0:=by omega
  simp only[show decide ((q.den:Int)<0)=false by simp[xh]]at e1 e2
  simp[r0,r1,aj,bM,wG,wH,U7,U8,U9,aI,aK,b_.chk,Ret,xh]
  exact⟨(((k0.trans k1).trans k2).set (by omega)).set (by omega),_,_,⟨rfl,rfl⟩,e1,e2⟩
def Rw{n:Nat}:(aq n).length<=9↔n<1000000000:=yK (k:=9) (by omega)
def Ykx{n:Nat}(h:n<1000000000)(st:St):A.C.call (.func 165 [] []) [.str (aq n)] st=some (.int .i64 n,st):=by
 have:=M6 (s:=aq n) (st:=st) (Zb9 n) (by have:=Rw.2 h;omega)
 rwa [zU]at this
end
end Go.Mx
