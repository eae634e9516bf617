/-lensletref01-/
import Derived.Test.YtokjleejipaidaaGreatDoorRbF
set_option linter.all false
namespace Go.Mx
noncomputable section
open Go Go.Proofs
variable {N:Nat} {a b:Int} {h:T O} {x y:V}
set_option maxRecDepth 1000000
def A.b182:=A.q Tryz.f182
def A.k182:=@A.kk 182 57 [.tmp 4] A.b182 (by kernel_rfl) rfl
def Pj(hb:0<b):b.natAbs/Nat.gcd a.natAbs b.natAbs=(Rat.divInt a b).den:=by
 have h:((Rat.divInt a b).den:Int)=((b.natAbs/Nat.gcd a.natAbs b.natAbs:Nat):Int):=by
  rw[Rat.den_divInt,ak (by omega),Int.gcd_comm]
  rfl
 exact(Int.ofNat_inj.1 h).symm
def I1(hb:0<b):(if decide (a<0)=true then -((a.natAbs/Nat.gcd a.natAbs b.natAbs:Nat):Int) else ((a.natAbs/Nat.gcd a.natAbs b.natAbs:Nat):Int))=(Rat.divInt a b).num:=by
 rw[Rat.num_divInt,Int.sign_eq_one_of_pos hb,Int.one_mul,Int.gcd_comm]
 have hd:((Int.gcd a b:Nat):Int)∣a:=Int.gcd_dvd_left ..
 have he:Nat.gcd a.natAbs b.natAbs=Int.gcd a b:=rfl
 rw[he,Int.natCast_ediv]
 by_cases ha:a<0
 ·have h1:(a.natAbs:Int)= -a:=by omega
  simp only[ha,decide_true,if_true,h1]
  rw[Int.neg_ediv_of_dvd hd,Int.neg_neg]
 ·have h1:(a.natAbs:Int)=a:=by omega
  simp[ha,h1]
def Ygl{z:Int}:(aL z).length<=9*(ds z.natAbs).length+2:=by
 have:=O6 (n:=z.natAbs)
 unfold aL
 split<;>simp<;>omega
def Ymo{m e:Nat}(h0:0<m)(he:m%1000000000=e):m=1↔(ds m).length=1/\e=1:=by
 constructor
 ·rintro rfl
  exact⟨by have:=Ymn (r:=1) (by omega);rw[<-this];decide,by omega⟩
 ·rintro⟨h1,h2⟩
  have h3:=we (fY m)
  rw[gF,h1,RG,Nat.pow_one]at h3
  omega
def Zuf(hx:Rg h N x a)(hy:Rg h N y b)(hb:0<b)(l3:(ds a.natAbs).length<100000000000)(l4:(ds b.natAbs).length<100000000000):Fn A.C 182 [x,y] h N (fun u _ _=>u=.str (aP (Rat.divInt a b))):=by
 intro w
 obtain⟨u,rfl,lV⟩:=hx
 obtain⟨v,rfl,mA⟩:=hy
 have o1:=Sl.form lV |>.one
 have o2:=Sl.form lV |>.cells
 have o3:=Sl.form mA |>.one
 have o4:=Sl.form mA |>.cells
 unfold V.one at o1 o3
 unfold V.cells at o2 o4
 have l1:(ds a.natAbs).length<1000000000000:=by omega
 have l2:(ds b.natAbs).length<1000000000000:=by omega
 have pC:¬b<0:=by omega
 rw[show decide (b<0)=false by simp[pC]]
 have kB:=(((ab.refl (h:=h) (n:=N)).new (.cells [.bool (decide (a<0)),u] 143 true)).new (.cells [.bool false,v] 143 true))
 have hu:=Sl.ad lV kB
 have hv:=Sl.ad mA kB
 rw[aM,A.k182 (by simp)]
 simp[A.b182,o1,o2,o3,o4,ae,aR,aC,aJ,pC]
 generalize hB:(h.set N (.cells [.bool (decide (a<0)),u] 143 true)).set (N+1) (.cells [.bool false,v] 143 true)=HB at*
 have gN:HB.get N=some (.cells [.bool (decide (a<0)),u] 143 true):=by rw[<-hB];simp
 have gM:HB.get (N+1)=some (.cells [.bool false,v] 143 true):=by rw[<-hB];simp
 refine ay (SP hu hv l1 l2) ?_
 rintro v1 h1 n1 k1 q1
 have D5:=(k1.get N (by omega)).trans gN
 have D6:=(k1.get (N+1) (by omega)).trans gM
 have tC:0<Nat.gcd a.natAbs b.natAbs:=QZ _ (by omega)
 have lg:(ds (Nat.gcd a.natAbs b.natAbs)).length<1000000000000:=rK (vc (Nat.gcd_le_right _ (by omega))) l2
 have tL:=k1.le
 simp[D5,D6,o1,o2,o3,o4,ae,aR,aC]
 refine ay (ON (hu.ad k1) q1 tC l1 lg) ?_
 rintro _ h2 n2 k2 ⟨q,r1,rfl,q2, -⟩
 have I3:=(k2.get (N+1) (by omega)).trans D6
 have jA:=k2.le
 simp[I3,o1,o2,o3,o4,ae,aR,aC]
 refine ay (ON ((hv.ad k1).ad k2) (q1.ad k2) tC l2 lg) ?_
 rintro _ h3 n3 k3 ⟨d,r2,rfl,q3, -⟩
 have gN3:=(k3.get N (by omega)).trans ((k2.get N (by omega)).trans D5)
 have BA:=k3.le
 rw[Pj hb]at q3
 have lq:(ds (a.natAbs/Nat.gcd a.natAbs b.natAbs)).length<100000000000:=rK (vc (vT _ _)) l3
 have Bj:(ds (Rat.divInt a b).den).length<100000000000:=by rw[<-Pj hb];exact rK (vc (vT _ _)) l4
 simp[gN3,o1,o2,o3,o4,ae,aR,aC]
 refine ay (yd (n:=a.natAbs/Nat.gcd a.natAbs b.natAbs) (q2.ad k3) (fY _) (gF _) (by omega)) ?_
 rintro v4 h4 n4 k4 q4
 have Lx:=k4.le
 rw[I1 hb]at q4
 simp[]
 refine ay (KS q4 (by rw[<-I1 hb];split<;>(first|rw[Bz,dH]|rw[dH])<;>exact lq)) ?_
 rintro _ h5 n5 k5 rfl
 have le5:=k5.le
 obtain⟨m,hm⟩:∃m,(Rat.divInt a b).den=m:=⟨_,rfl⟩
 have gg:0<m:=by rw[<-hm];exact Rat.den_pos _
 rw[hm]at q3 Bj
 have cD:=Ygl (z:=(Rat.divInt a b).num)
 have I4:(ds (Rat.divInt a b).num.natAbs).length<100000000000:=by rw[<-I1 hb];split<;>(first|rw[Bz,dH]|rw[dH])<;>exact lq
 have l7:aP (Rat.divInt a b)=if m=1 then aL (Rat.divInt a b).num else aL (Rat.divInt a b).num++47::aq m:=by unfold aP;rw[hm]
 rw[l7]
 generalize aL (Rat.divInt a b).num=s at*
 have D7:Dn h5 n5 d m:=(q3.ad k4).ad k5
 have ld:=Sl.len D7
 rw[gJ]at ld
 have iK:(ds m).length≠0:=fun hc=>(by omega:m≠0) (Da.1 (rm hc))
 have hg:=RE (i:=0) (n:=m) (by omega)
 rw[EP,Nat.div_one]at hg
 obtain⟨e,he⟩:∃e,m%1000000000=e:=⟨_,rfl⟩
 rw[he]at hg
 have uf:m=1↔(ds m).length=1/\e=1:=Ymo gg he
 obtain⟨i,o,c,te,rw_,p1,p2,p3,p4⟩:=Sl.at D7 (gK hg)
 rw[iX]at p4
 obtain⟨L,hL⟩:∃L,(ds m).length=L:=⟨_,rfl⟩
 rw[hL]at ld uf
 have iw:=O6 (n:=m)
 rw[hL]at iw Bj
 have dm:IntKind.max .i64=9223372036854775807:=rfl
 have b1:¬(9223372036854775807:Int)<(s.length:Int)+1:=by omega
 have b2:¬(9223372036854775807:Int)<(s.length:Int)+1+((aq m).length:Int):=by omega
 have yH:aL (m:Int)=aq m:=by unfold aL;rw[ak (by omega),dH]
 have wS:(ds m).length<1152921504606846976:=by omega
 have K5:ab h N h5 n5:=((((kB.trans k1).trans k2).trans k3).trans k4).trans k5
 by_cases mL:m=1
 ·obtain⟨rfl,rfl⟩:=uf.1 mL
  rw[ax mL]
  clear cD I4 iw b1 b2 wS Bj
  simp[ld,p1,p3,p4,ae,az,aJ]
  exact K5
 ·rw[ak mL]
  by_cases F8:L=1
  ·have NF:¬e=1:=fun hc=>mL (uf.2 ⟨F8,hc⟩)
   have vD:¬(e:Int)=1:=by omega
   subst F8
   clear cD I4 iw
   simp[ld,p1,p3,p4,ae,az,aJ,NF,vD,gE,dm,b1]
   refine ay (yd (b:=false) (n:=m) D7 (fY _) (gF _) wS) ?_
   rintro v6 h6 n6 k6 q6
   have q7:Rg h6 n6 v6 (m:Int):=by simpa using q6
   simp[]
   refine ay (KS q7 (by rw[dH,hL];exact Bj)) ?_
   rintro _ h7 n7 k7 rfl
   rw[yH]
   simp[gE,dm,b2,az]
   exact(K5.trans k6).trans k7
  ·have hL2:¬(L:Int)=1:=by omega
   clear cD I4 iw
   simp[ld,F8,hL2,ae,az,aJ,gE,dm,b1]
   refine ay (yd (b:=false) (n:=m) D7 (fY _) (gF _) wS) ?_
   rintro v6 h6 n6 k6 q6
   have q7:Rg h6 n6 v6 (m:Int):=by simpa using q6
   simp[]
   refine ay (KS q7 (by rw[dH,hL];exact Bj)) ?_
   rintro _ h7 n7 k7 rfl
   rw[yH]
   simp[gE,dm,b2,az]
   exact(K5.trans k6).trans k7
def Zug{P Q:Int}(hx:Rg h N x P)(hy:Rg h N y Q)(DT:Q<0)(l3:(ds P.natAbs).length<100000000000)(l4:(ds Q.natAbs).length<100000000000):Fn A.C 182 [x,y] h N (fun u _ _=>u=.str (aP (Rat.divInt P Q))):=by
 intro w
 obtain⟨u0,rfl,lV⟩:=hx
 obtain⟨v0,rfl,mA⟩:=hy
 have o1:=Sl.form lV |>.one
 have o2:=Sl.form lV |>.cells
 have o3:=Sl.form mA |>.one
 have o4:=Sl.form mA |>.cells
 unfold V.one at o1 o3
 unfold V.cells at o2 o4
 have nz:Rg h N (.agg [.bool (decide (P<0)),u0]) P:=⟨u0,rfl,lV⟩
 have yk:Rg h N (.agg [.bool true,v0]) Q:=⟨v0,by simp[DT],mA⟩
 rw[show decide (Q<0)=true by simp[DT]]
 have kA:=(((ab.refl (h:=h) (n:=N)).new (.cells [.bool (decide (P<0)),u0] 143 true)).new (.cells [.bool true,v0] 143 true))
 rw[aM,A.k182 (by simp)]
 simp[A.b182,o1,o2,o3,o4,ae,aR,aC,aJ]
 generalize hA:(h.set N (.cells [.bool (decide (P<0)),u0] 143 true)).set (N+1) (.cells [.bool true,v0] 143 true)=HA at*
 have gN0:HA.get N=some (.cells [.bool (decide (P<0)),u0] 143 true):=by rw[<-hA];simp
 have gM0:HA.get (N+1)=some (.cells [.bool true,v0] 143 true):=by rw[<-hA];simp
 refine ay (Zya (nz.ad kA) (by omega)) ?_
 rintro _ m1 t1 j1 q1
 obtain⟨a,ha⟩:∃a,a= -P:=⟨_,rfl⟩
 rw[<-ha]at q1
 obtain⟨u,rfl,yL⟩:=q1
 have i1:=j1.le
 have D5:=(j1.get N (by omega)).trans gN0
 have D6:=(j1.get (N+1) (by omega)).trans gM0
 simp[D6,D5,o1,o2,o3,o4,ae,aR,aC]
 refine ay (Zya ((yk.ad kA).ad j1) (by omega)) ?_
 rintro _ m2 t2 j2 q2
 obtain⟨b,jj⟩:∃b,b= -Q:=⟨_,rfl⟩
 rw[<-jj]at q2
 have hb:0<b:=by omega
 obtain⟨v,rfl,jL⟩:=q2
 rw[show decide (b<0)=false by simp;omega]
 have ec:Rat.divInt P Q=Rat.divInt a b:=by rw[ha,jj];exact(Rat.neg_divInt_neg P Q).symm
 rw[ec]
 have n1:=Ysz (b:=decide (P<0)) (Sl.form lV)
 have n2:=Ysz (b:=true) (Sl.form mA)
 have i2:=j2.le
 have Jv:=(j2.get N (by omega)).trans D5
 have I3:=(j2.get (N+1) (by omega)).trans D6
 have s1:=Sl.form yL |>.one
 have s2:=Sl.form yL |>.cells
 have s3:=Sl.form jL |>.one
 have s4:=Sl.form jL |>.cells
 unfold V.one at s1 s3
 unfold V.cells at s2 s4
 have g1:N+1<t1:=by omega
 have g2:N+1<t2:=by omega
 have g3:N<t2:=by omega
 simp[Jv,I3,s1,s2,s3,s4,ae,bD,aR,aC,cn.cr,g1,g2,g3]
 have gM3:(m2.set N (.cells [.bool (decide (a<0)),u] 143 true)).get (N+1)=some (.cells [.bool true,v0] 143 true):=by rw[T.ag,ak (by omega)];exact I3
 have kB:=((((kA.trans j1).trans j2).set (i:=N) (o:=.cells [.bool (decide (a<0)),u] 143 true) (by omega))).set (i:=N+1) (o:=.cells [.bool false,v] 143 true) (by omega)
 have hu:=Sl.setInt (Sl.setInt (yL.ad j2) Jv n1 (c1:=[.bool (decide (a<0)),u]) (e1:=143) (w1:=true) rfl) gM3 n2 (c1:=[.bool false,v]) (e1:=143) (w1:=true) rfl
 have hv:=Sl.setInt (Sl.setInt jL Jv n1 (c1:=[.bool (decide (a<0)),u]) (e1:=143) (w1:=true) rfl) gM3 n2 (c1:=[.bool false,v]) (e1:=143) (w1:=true) rfl
 generalize hB:(m2.set N (.cells [.bool (decide (a<0)),u] 143 true)).set (N+1) (.cells [.bool false,v] 143 true)=HB at*
 have gN:HB.get N=some (.cells [.bool (decide (a<0)),u] 143 true):=by rw[<-hB];simp
 have gM:HB.get (N+1)=some (.cells [.bool false,v] 143 true):=by rw[<-hB];simp
 have ea:a.natAbs=P.natAbs:=by omega
 have eb:b.natAbs=Q.natAbs:=by omega
 rw[<-ea]at l3
 rw[<-eb]at l4
 have l1:(ds a.natAbs).length<1000000000000:=by omega
 have l2:(ds b.natAbs).length<1000000000000:=by omega
 clear o1 o2 o3 o4
 have o1:=s1
 have o2:=s2
 have o3:=s3
 have o4:=s4
 clear s1 s2 s3 s4 gM3 Jv I3 D5 D6 gN0 gM0 n1 n2 hA ec
 refine ay (SP hu hv l1 l2) ?_
 rintro v1 h1 n1 k1 q1
 have D5:=(k1.get N (by omega)).trans gN
 have D6:=(k1.get (N+1) (by omega)).trans gM
 have tC:0<Nat.gcd a.natAbs b.natAbs:=QZ _ (by omega)
 have lg:(ds (Nat.gcd a.natAbs b.natAbs)).length<1000000000000:=rK (vc (Nat.gcd_le_right _ (by omega))) l2
 have tL:=k1.le
 simp[D5,D6,o1,o2,o3,o4,ae,aR,aC]
 refine ay (ON (hu.ad k1) q1 tC l1 lg) ?_
 rintro _ h2 n2 k2 ⟨q,r1,rfl,q2, -⟩
 have I3:=(k2.get (N+1) (by omega)).trans D6
 have jA:=k2.le
 simp[I3,o1,o2,o3,o4,ae,aR,aC]
 refine ay (ON ((hv.ad k1).ad k2) (q1.ad k2) tC l2 lg) ?_
 rintro _ h3 n3 k3 ⟨d,r2,rfl,q3, -⟩
 have gN3:=(k3.get N (by omega)).trans ((k2.get N (by omega)).trans D5)
 have BA:=k3.le
 rw[Pj hb]at q3
 have lq:(ds (a.natAbs/Nat.gcd a.natAbs b.natAbs)).length<100000000000:=rK (vc (vT _ _)) l3
 have Bj:(ds (Rat.divInt a b).den).length<100000000000:=by rw[<-Pj hb];exact rK (vc (vT _ _)) l4
 simp[gN3,o1,o2,o3,o4,ae,aR,aC]
 refine ay (yd (n:=a.natAbs/Nat.gcd a.natAbs b.natAbs) (q2.ad k3) (fY _) (gF _) (by omega)) ?_
 rintro v4 h4 n4 k4 q4
 have Lx:=k4.le
 rw[I1 hb]at q4
 simp[]
 refine ay (KS q4 (by rw[<-I1 hb];split<;>(first|rw[Bz,dH]|rw[dH])<;>exact lq)) ?_
 rintro _ h5 n5 k5 rfl
 have le5:=k5.le
 obtain⟨m,hm⟩:∃m,(Rat.divInt a b).den=m:=⟨_,rfl⟩
 have gg:0<m:=by rw[<-hm];exact Rat.den_pos _
 rw[hm]at q3 Bj
 have cD:=Ygl (z:=(Rat.divInt a b).num)
 have I4:(ds (Rat.divInt a b).num.natAbs).length<100000000000:=by rw[<-I1 hb];split<;>(first|rw[Bz,dH]|rw[dH])<;>exact lq
 have l7:aP (Rat.divInt a b)=if m=1 then aL (Rat.divInt a b).num else aL (Rat.divInt a b).num++47::aq m:=by unfold aP;rw[hm]
 rw[l7]
 generalize aL (Rat.divInt a b).num=s at*
 have D7:Dn h5 n5 d m:=(q3.ad k4).ad k5
 have ld:=Sl.len D7
 rw[gJ]at ld
 have iK:(ds m).length≠0:=fun hc=>(by omega:m≠0) (Da.1 (rm hc))
 have hg:=RE (i:=0) (n:=m) (by omega)
 rw[EP,Nat.div_one]at hg
 obtain⟨e,he⟩:∃e,m%1000000000=e:=⟨_,rfl⟩
 rw[he]at hg
 have uf:m=1↔(ds m).length=1/\e=1:=Ymo gg he
 obtain⟨i,o,c,te,rw_,p1,p2,p3,p4⟩:=Sl.at D7 (gK hg)
 rw[iX]at p4
 obtain⟨L,hL⟩:∃L,(ds m).length=L:=⟨_,rfl⟩
 rw[hL]at ld uf
 have iw:=O6 (n:=m)
 rw[hL]at iw Bj
 have dm:IntKind.max .i64=9223372036854775807:=rfl
 have b1:¬(9223372036854775807:Int)<(s.length:Int)+1:=by omega
 have b2:¬(9223372036854775807:Int)<(s.length:Int)+1+((aq m).length:Int):=by omega
 have yH:aL (m:Int)=aq m:=by unfold aL;rw[ak (by omega),dH]
 have wS:(ds m).length<1152921504606846976:=by omega
 have K5:ab h N h5 n5:=((((kB.trans k1).trans k2).trans k3).trans k4).trans k5
 by_cases mL:m=1
 ·obtain⟨rfl,rfl⟩:=uf.1 mL
  rw[ax mL]
  clear cD I4 iw b1 b2 wS Bj
  simp[ld,p1,p3,p4,ae,az,aJ]
  exact K5
 ·rw[ak mL]
  by_cases F8:L=1
  ·have NF:¬e=1:=fun hc=>mL (uf.2 ⟨F8,hc⟩)
   have vD:¬(e:Int)=1:=by omega
   subst F8
   clear cD I4 iw
   simp[ld,p1,p3,p4,ae,az,aJ,NF,vD,gE,dm,b1]
   refine ay (yd (b:=false) (n:=m) D7 (fY _) (gF _) wS) ?_
   rintro v6 h6 n6 k6 q6
   have q7:Rg h6 n6 v6 (m:Int):=by simpa using q6
   simp[]
   refine ay (KS q7 (by rw[dH,hL];exact Bj)) ?_
   rintro _ h7 n7 k7 rfl
   rw[yH]
   simp[gE,dm,b2,az]
   exact(K5.trans k6).trans k7
  ·have hL2:¬(L:Int)=1:=by omega
   clear cD I4 iw
   simp[ld,F8,hL2,ae,az,aJ,gE,dm,b1]
   refine ay (yd (b:=false) (n:=m) D7 (fY _) (gF _) wS) ?_
   rintro v6 h6 n6 k6 q6
   have q7:Rg h6 n6 v6 (m:Int):=by simpa using q6
   simp[]
   refine ay (KS q7 (by rw[dH,hL];exact Bj)) ?_
   rintro _ h7 n7 k7 rfl
   rw[yH]
   simp[gE,dm,b2,az]
   exact(K5.trans k6).trans k7
def Zjx(hx:Rg h N x a)(hy:Rg h N y b)(hb:b≠0)(l3:(ds a.natAbs).length<100000000000)(l4:(ds b.natAbs).length<100000000000):Fn A.C 182 [x,y] h N (fun u _ _=>u=.str (aP (Rat.divInt a b))):=by
 rcases Int.lt_or_gt_of_ne hb with hb|hb
 ·exact Zug hx hy hb l3 l4
 ·exact Zuf hx hy hb l3 l4
def A.Pm:=A.q Tryz.f258
def A.sP:=A.ql A.Pm 0 []
def A.b258:=(fun x0=>A.qb A.Pm [x0]) A.sP
def A.k258:=@A.kk 258 12 [.tmp 4] A.b258 (by kernel_rfl) rfl
def Yfq{a b:Nat}{st:St}(ha:a<9223372036854775808)(hb:b<9223372036854775808):A.C.call (.func 258 [] []) [.int .i64 a,.int .i64 b] st=some (.int .i64 (Nat.gcd a b:Nat),st):=by
 apply Call.eq
 rw[aM,A.k258 (by simp)]
 simp[A.b258]
 refine bA [(0,1),(5,10)] (fun e r s1=>s1=⟨st.h,st.n,[]⟩/\e=.exit 0/\r.get 0=some (.int .i64 (Nat.gcd a b:Nat))) (fun q r s1=>s1=⟨st.h,st.n,[]⟩/\q<9223372036854775808/\r.get 1=some (.int .i64 q)/\∃k:Nat,k<9223372036854775808/\r.get 0=some (.int .i64 k)/\Nat.gcd k q=Nat.gcd a b) b ?_ ?_ ?_
 ·exact⟨rfl,hb,by simp,a,ha,by simp,rfl⟩
 ·rintro q r _ hr hf ⟨rfl,hq,h1,k,hk,h0,hg⟩
  rw[bb]
  by_cases hz:q=0
  ·subst hz
   rw[Nat.gcd_zero_right]at hg
   simp[A.sP,hr,hf,h0,h1,hg]
  ·have i1:(0:Int)<(q:Int):=by omega
   have i2:0<q:=by omega
   have i3:¬(q:Int)=0:=by omega
   have t1:(k:Int).tmod q=((k%q:Nat):Int):=by rw[EI (by omega)];omega
   have t2:bh .i64 ((k%q:Nat):Int)=((k%q:Nat):Int):=cE (by omega) (by have:=kQ k i2;omega)
   have au:=kQ k i2
   simp[A.sP,hr,hf,h0,h1,i1,i2,i3,hz,t1,t2,cn.cr]
   exact⟨k%q,au,by omega,by simp,q,hq,rfl,by rw[<-hg,Nat.gcd_comm k q,Nat.gcd_rec q k,Nat.gcd_comm]⟩
 ·rintro _ r _ hr ⟨rfl,rfl,h0⟩
  simp[hr,h0]
def A.b226:=A.q Tryz.f226
def A.k226:=@A.kk 226 61 [.tmp 4] A.b226 (by kernel_rfl) rfl
def Ga{z:Int}:BW [.int .i64 z,.int .i64 (-z)]=some (.int .i64 (z.natAbs:Nat)):=by
 have h:BW [.int .i64 z,.int .i64 (-z)]=some (.int .i64 (if z< -z then -z else z)):=rfl
 rw[h]
 congr 2
 split<;>omega
def Yml{a:Int}{m:Nat}(hm:0<m):(Rat.divInt a m).num=a.tdiv (Nat.gcd a.natAbs m:Nat)/\(Rat.divInt a m).num.natAbs<=a.natAbs/\(Rat.divInt a m).den=m/Nat.gcd a.natAbs m:=by
 have hb:(0:Int)<(m:Int):=by omega
 have h1:=I1 (a:=a) hb
 have h2:=Pj (a:=a) hb
 rw[dH]at h1 h2
 have hd:((Nat.gcd a.natAbs m:Nat):Int)∣a:=Int.gcd_dvd_left (a:=a) (b:=(m:Int))
 refine⟨?_,?_,h2.symm⟩
 ·rw[Int.tdiv_eq_ediv_of_dvd hd,Rat.num_divInt,Int.sign_eq_one_of_pos hb,Int.one_mul,Int.gcd_comm]
  rfl
 ·rw[<-h1]
  have:=vT a.natAbs (Nat.gcd a.natAbs m)
  generalize a.natAbs/Nat.gcd a.natAbs m=k at*
  split
  ·rw[Bz,dH];exact this
  ·rw[dH];exact this
def Ysw{a:Int}{m:Nat}{st:St}(hm:0<m)(h1: -4000000000000000000<=a)(h2:a<=4000000000000000000)(h3:m<=4000000000000000000):A.C.call (.func 226 [] []) [.int .i64 a,.int .i64 m] st=some (.str (aP (Rat.divInt a m)),st):=by
 apply Call.eq
 rw[aM,A.k226 (by simp)]
 have c1:¬a< -4000000000000000000:=by omega
 have c2:¬4000000000000000000<a:=by omega
 have c3:¬(m:Int)< -4000000000000000000:=by omega
 have c4:¬4000000000000000000<(m:Int):=by omega
 have c5:¬(m:Int)<0:=by omega
 have w1:bh .i64 (-a)= -a:=cE (by omega) (by omega)
 have w2:bh .i64 (0-a)= -a:=by rw[Int.zero_sub];exact w1
 have hg:=fun st=>Yfq (a:=a.natAbs) (b:=m) (st:=st) (by omega) (by omega)
 obtain⟨e1,e2,e3⟩:=Yml (a:=a) hm
 have zU:0<(Rat.divInt a m).den:=Rat.den_pos _
 have l7:aP (Rat.divInt a m)=if (Rat.divInt a m).den=1 then aL (Rat.divInt a m).num else aL (Rat.divInt a m).num++47::aq (Rat.divInt a m).den:=rfl
 rw[l7]
 clear l7
 have pV:0<Nat.gcd a.natAbs m:=QZ _ hm
 generalize (Rat.divInt a m).num=P at*
 generalize (Rat.divInt a m).den=D at*
 generalize Nat.gcd a.natAbs m=g at*
 have hDm:D<=m:=by rw[e3];exact vT _ _
 have e4:(m:Int).tdiv (g:Int)=(D:Int):=by rw[BT (by omega),e3];rfl
 have g0:¬(g:Int)=0:=by omega
 have g1:¬g=0:=by omega
 have v1:bh .i64 P=P:=cE (by omega) (by omega)
 have v2:bh .i64 (-P)= -P:=cE (by omega) (by omega)
 have v3:bh .i64 (D:Int)=(D:Int):=cE (by omega) (by omega)
 have d1:∀st,A.C.call (.func 259 [] []) [.int .i64 (P.natAbs:Nat),.int .i64 1] st=some (.str (aq P.natAbs),st):=fun st=>(KR (n:=P.natAbs) (m:=1) (st:=st) (by omega) (by omega)).trans (by rw[MY])
 have d2:∀st,A.C.call (.func 259 [] []) [.int .i64 D,.int .i64 1] st=some (.str (aq D),st):=fun st=>(KR (n:=D) (m:=1) (st:=st) (by omega) (by omega)).trans (by rw[MY])
 have x1:(aq P.natAbs).length<30:=by
  have:(de P.natAbs).length<=19:=qd.1 (by omega)
  unfold aq;split<;>simp;omega
 have x2:(aq D).length<30:=by
  have:(de D).length<=19:=qd.1 (by omega)
  unfold aq;split<;>simp;omega
 have dm:IntKind.max .i64=9223372036854775807:=rfl
 have y1:¬(9223372036854775807:Int)<((aq P.natAbs).length:Int):=by omega
 have y2:¬(9223372036854775807:Int)<1+((aq P.natAbs).length:Int):=by omega
 have z1:D=1\/(¬D=1/\1<D):=by omega
 rcases z1 with rfl|⟨z1,z2⟩<;>by_cases hP:P<0
 ·simp[A.b226,c1,c2,c3,c4,c5,w1,w2,rO,Ga,hg,<-e1,e4,g0,g1,v1,v2,v3,hP,d1,d2,gE,dm,y1,y2,aL,cn.cr]
 ·simp[A.b226,c1,c2,c3,c4,c5,w1,w2,rO,Ga,hg,<-e1,e4,g0,g1,v1,v2,v3,hP,d1,d2,gE,dm,y1,y2,aL,cn.cr]
 ·have z3:(1:Int)<(D:Int):=by omega
  have y3:¬(9223372036854775807:Int)<((aq P.natAbs).length:Int)+1+1:=by omega
  have y4:¬(9223372036854775807:Int)<((aq P.natAbs).length:Int)+1+1+((aq D).length:Int):=by omega
  simp[A.b226,c1,c2,c3,c4,c5,w1,w2,rO,Ga,hg,<-e1,e4,g0,g1,v1,v2,v3,hP,d1,d2,gE,dm,y1,y2,aL,cn.cr,z1,z2,z3,y3,y4]
 ·have z3:(1:Int)<(D:Int):=by omega
  have y3:¬(9223372036854775807:Int)<((aq P.natAbs).length:Int)+1:=by omega
  have y4:¬(9223372036854775807:Int)<((aq P.natAbs).length:Int)+1+((aq D).length:Int):=by omega
  simp[A.b226,c1,c2,c3,c4,c5,w1,w2,rO,Ga,hg,<-e1,e4,g0,g1,v1,v2,v3,hP,d1,d2,gE,dm,y1,y2,aL,cn.cr,z1,z2,z3,y3,y4]
def Ysx{p q:Int}{st:St}(hq:q<0)(h1: -4000000000000000000<=p)(h2:p<=4000000000000000000)(h3: -4000000000000000000<=q):A.C.call (.func 226 [] []) [.int .i64 p,.int .i64 q] st=some (.str (aP (Rat.divInt p q)),st):=by
 apply Call.eq
 rw[aM,A.k226 (by simp)]
 have c1:¬p< -4000000000000000000:=by omega
 have c2:¬4000000000000000000<p:=by omega
 have c3:¬q< -4000000000000000000:=by omega
 have c4:¬4000000000000000000<q:=by omega
 obtain⟨a,ha⟩:∃a,a= -p:=⟨_,rfl⟩
 obtain⟨m,mL⟩:∃m:Nat,(m:Int)= -q:=⟨(-q).toNat,by omega⟩
 have hm:0<m:=by omega
 have c5:bh .i64 (-p)=a:=by rw[<-ha];exact cE (by omega) (by omega)
 have c6:bh .i64 (-q)=(m:Int):=by rw[<-mL];exact cE (by omega) (by omega)
 have ec:Rat.divInt p q=Rat.divInt a m:=by rw[ha,mL];exact(Rat.neg_divInt_neg p q).symm
 rw[ec]
 clear ec
 have w1:bh .i64 (-a)= -a:=cE (by omega) (by omega)
 have w2:bh .i64 (0-a)= -a:=by rw[Int.zero_sub];exact w1
 have hg:=fun st=>Yfq (a:=a.natAbs) (b:=m) (st:=st) (by omega) (by omega)
 obtain⟨e1,e2,e3⟩:=Yml (a:=a) hm
 have zU:0<(Rat.divInt a m).den:=Rat.den_pos _
 have l7:aP (Rat.divInt a m)=if (Rat.divInt a m).den=1 then aL (Rat.divInt a m).num else aL (Rat.divInt a m).num++47::aq (Rat.divInt a m).den:=rfl
 rw[l7]
 clear l7
 have pV:0<Nat.gcd a.natAbs m:=QZ _ hm
 generalize (Rat.divInt a m).num=P at*
 generalize (Rat.divInt a m).den=D at*
 generalize Nat.gcd a.natAbs m=g at*
 have hDm:D<=m:=by rw[e3];exact vT _ _
 have e4:(m:Int).tdiv (g:Int)=(D:Int):=by rw[BT (by omega),e3];rfl
 have g0:¬(g:Int)=0:=by omega
 have g1:¬g=0:=by omega
 have v1:bh .i64 P=P:=cE (by omega) (by omega)
 have v2:bh .i64 (-P)= -P:=cE (by omega) (by omega)
 have v3:bh .i64 (D:Int)=(D:Int):=cE (by omega) (by omega)
 have d1:∀st,A.C.call (.func 259 [] []) [.int .i64 (P.natAbs:Nat),.int .i64 1] st=some (.str (aq P.natAbs),st):=fun st=>(KR (n:=P.natAbs) (m:=1) (st:=st) (by omega) (by omega)).trans (by rw[MY])
 have d2:∀st,A.C.call (.func 259 [] []) [.int .i64 D,.int .i64 1] st=some (.str (aq D),st):=fun st=>(KR (n:=D) (m:=1) (st:=st) (by omega) (by omega)).trans (by rw[MY])
 have x1:(aq P.natAbs).length<30:=by
  have:(de P.natAbs).length<=19:=qd.1 (by omega)
  unfold aq;split<;>simp;omega
 have x2:(aq D).length<30:=by
  have:(de D).length<=19:=qd.1 (by omega)
  unfold aq;split<;>simp;omega
 have dm:IntKind.max .i64=9223372036854775807:=rfl
 have y1:¬(9223372036854775807:Int)<((aq P.natAbs).length:Int):=by omega
 have y2:¬(9223372036854775807:Int)<1+((aq P.natAbs).length:Int):=by omega
 have z1:D=1\/(¬D=1/\1<D):=by omega
 rcases z1 with rfl|⟨z1,z2⟩<;>by_cases hP:P<0
 ·simp[A.b226,c1,c2,c3,c4,c5,c6,hq,w1,w2,rO,Ga,hg,<-e1,e4,g0,g1,v1,v2,v3,hP,d1,d2,gE,dm,y1,y2,aL,cn.cr]
 ·simp[A.b226,c1,c2,c3,c4,c5,c6,hq,w1,w2,rO,Ga,hg,<-e1,e4,g0,g1,v1,v2,v3,hP,d1,d2,gE,dm,y1,y2,aL,cn.cr]
 ·have z3:(1:Int)<(D:Int):=by omega
  have y3:¬(9223372036854775807:Int)<((aq P.natAbs).length:Int)+1+1:=by omega
  have y4:¬(9223372036854775807:Int)<((aq P.natAbs).length:Int)+1+1+((aq D).length:Int):=by omega
  simp[A.b226,c1,c2,c3,c4,c5,c6,hq,w1,w2,rO,Ga,hg,<-e1,e4,g0,g1,v1,v2,v3,hP,d1,d2,gE,dm,y1,y2,aL,cn.cr,z1,z2,z3,y3,y4]
 ·have z3:(1:Int)<(D:Int):=by omega
  have y3:¬(9223372036854775807:Int)<((aq P.natAbs).length:Int)+1:=by omega
  have y4:¬(9223372036854775807:Int)<((aq P.natAbs).length:Int)+1+((aq D).length:Int):=by omega
  simp[A.b226,c1,c2,c3,c4,c5,c6,hq,w1,w2,rO,Ga,hg,<-e1,e4,g0,g1,v1,v2,v3,hP,d1,d2,gE,dm,y1,y2,aL,cn.cr,z1,z2,z3,y3,y4]
def Ysy{p q:Int}{st:St}(hq:q≠0)(h1: -4000000000000000000<=p)(h2:p<=4000000000000000000)(h3: -4000000000000000000<=q)(h4:q<=4000000000000000000):A.C.call (.func 226 [] []) [.int .i64 p,.int .i64 q] st=some (.str (aP (Rat.divInt p q)),st):=by
 rcases Int.lt_or_gt_of_ne hq with hq|hq
 ·exact Ysx hq h1 h2 h3
 ·obtain⟨m,rfl⟩:∃m:Nat,q=(m:Int):=⟨q.toNat,by omega⟩
  exact Ysw (by omega) h1 h2 (by omega)
def A.Pn:=A.q Tryz.f179
def A.nO:=A.ql A.Pn 0 []
def A.b179:=(fun x0=>A.qb A.Pn [x0]) A.nO
def A.k179:=@A.kk 179 25 [.cell 2 (some 2)] A.b179 (by kernel_rfl) rfl
def Yd0{s:aQ}(hd:cI s=true)(h1:1<=s.length)(h2:s.length<=3000000000){h:T O}{N:Nat}:Fn A.C 178 [.str (45::s)] h N (fun v h' n'=>Rg h' n' v (-((aF s:Nat):Int))):=by
 intro w
 have a1:cK 45=45:=rfl
 have a2:(1:Int)<=(s.length:Int)+1:=by omega
 have a3:∀st:St,uC st (some (.str (45::s))) (some (some (.int .i64 1))) (some none)=some (.str s,st):=fun st=>by rw[Ia (by omega) (by simp only[bo];omega)];rfl
 rw[aM,A.k178 (by simp)]
 simp[A.b178,a1,a2,a3,aJ,aB]
 refine bA [(0,0),(4,4),(16,32)] (fun e r st=>e=.exit 0/\∃m,m<=9/\SR (h.set N (.cells [.bool false,.aa] 143 true)) (N+1) s m r st) (SR (h.set N (.cells [.bool false,.aa] 143 true)) (N+1) s) s.length ?_ ?_ ?_
 ·exact⟨by simp,ab.refl,s,.aa,[],by simp,rfl,h1,aO _,hd,by simp,Own.nil,Di.nil,by simp,by simp[vI,pI]⟩
 ·rintro m r ⟨H,n1,W⟩ hr hf ⟨hW,hK,cur,u,l,g0,cO,m1,m2,pP,g4,ho,iO,tm,hv⟩
  simp only at hW hK ho
  subst cO
  rw[bb]
  by_cases h9:9<cur.length
  ·have IU:(9:Int)<(cur.length:Int):=by omega
   have fk:=hK.le
   have IV:=OE (s:=cur.drop (cur.length-9)) (st:=⟨H,n1,W⟩) (SQ pP _) (by simp;omega)
   have Dp:((cur.length:Int)-9).toNat=cur.length-9:=by omega
   have F6:=B7 (SQ pP (cur.length-9))
   have iw:(cur.drop (cur.length-9)).length=9:=by simp;omega
   rw[iw]at F6
   have gb:=Zx6 (cur.take (cur.length-9)) (cur.drop (cur.length-9))
   rw[CT,iw,show (10:Nat)^9=1000000000 by decide]at gb
   generalize hD:aF (cur.drop (cur.length-9))=D at*
   obtain⟨v',h',w',e1,e2,e3,e4,e5⟩:=tJ (x:=[.int .i64 (D:Int)]) (u:=.slice n1 0 1 (some 1) 1) (bytes:=8) (w:=W) (ho.ad (ab.refl.new (.cells [.int .i64 (D:Int)] 3 true))) (by omega) (by decide) rfl (by simp[ef,St.row,aC]) (by rw[Dd];omega)
   rw[<-Fe]at e5
   simp(disch:=first|(simp;done)|omega|rfl) [A.j_,hr,hf,g0,g4,h9,IU,Dp,aB,IV,ae,e1]
   refine⟨cur.length-9,by omega,⟨by rw[e2];exact hW,(hK.new _).then e3,cur.take (cur.length-9),v',l++[(D:Int)],by simp,by simp,by omega,by omega,Zux pP _,by simp,e5,iO.app (Di.one (by omega) (by omega)),by simp;omega,?_⟩⟩
   rw[C8,iN,Az,v_,<-hv]
   have IW:((aF cur:Nat):Int)=(aF (cur.take (cur.length-9)):Nat)*1000000000+D:=by omega
   rw[IW]
   generalize ((aF (cur.take (cur.length-9)):Nat):Int)=X
   generalize pI l.length=P
   grind
  ·have IU:¬(9:Int)<(cur.length:Int):=by omega
   simp[A.j_,hr,hf,g0,h9,IU]
   exact⟨cur.length,by omega,hW,hK,cur,u,l,by simp[g0],rfl,m1,m2,pP,by simp[g4],ho,iO,tm,hv⟩
 ·rintro _ r ⟨H,n1,W⟩ hr ⟨rfl,m,m9,hW,hK,cur,u,l,g0,cO,m1,m2,pP,g4,ho,iO,tm,hv⟩
  simp only at hW hK ho
  subst cO
  have fk:=hK.le
  have IV:=OE (s:=cur) (st:=⟨H,n1,W⟩) pP (by omega)
  have F6:=B7 pP
  have hp9:=Q7 m9
  generalize hD:aF cur=D at*
  obtain⟨v',h',w',e1,e2,e3,e4,e5⟩:=tJ (x:=[.int .i64 (D:Int)]) (u:=.slice n1 0 1 (some 1) 1) (bytes:=8) (w:=W) (ho.ad (ab.refl.new (.cells [.int .i64 (D:Int)] 3 true))) (by omega) (by decide) rfl (by simp[ef,St.row,aC]) (by rw[Dd];omega)
  rw[<-Fe]at e5
  simp[hr,g0,g4,IV,ae,e1]
  have kZ:Di (l++[(D:Int)]):=iO.app (Di.one (by omega) (by omega))
  refine ay (yd (b:=true) (n:=aF s) e5.sl kZ (by rw[C8];exact hv) (by simp;omega)) ?_
  rintro y h5 n5 k5 hy
  have kk:=((hK.new (.cells [.int .i64 (D:Int)] 3 true)).then e3).trans k5
  have ye:=kk.le
  have pq:=kk.get N (by omega)
  simp at pq
  obtain⟨u5,rfl,Bf⟩:=hy
  have IH:=fun c1 (hc:c1.length=2)=>Sl.setInt (i:=N) (c1:=c1) (e1:=143) (w1:=true) Bf pq (by intro x hx k m;simp at hx;rcases hx with rfl|rfl<;>simp) hc
  have Co:=Sl.form Bf |>.one
  unfold V.one at Co
  have ow:ar N w'=[]:=OK (vF N) (by rw[e2];exact hW)
  have k0:=(ab.refl (h:=h) (n:=N)).new (.cells [.bool false,.aa] 143 true)
  simp[hr,pq,ae,bD,Co,aR,aC,az,ow]
  exact⟨(k0.trans kk).set (aO N),u5,by simp,by simpa[Dn]using IH _ rfl⟩
structure WhI (h:T O) (N a:Nat) (neg:Bool) (m:Nat) (r:T V) (st:St):Prop where
 w:ar N st.w=[]
 ad:ab h N st.h st.n
 ex:∃z u l,z.natAbs=m/\m<=a/\(z<0->neg=true)/\(0<z->neg=false)/\r.get 0=some (.int .i64 z)/\r.get 3=some u/\Own 1 3 N st.h st.n u (p_ l)/\Di l/\vI l+pI l.length*m=a/\l.length<=100/\(m≠0->pI l.length<=a)
def Yda{z:Int}{h:T O}{N:Nat}(h1: -9223372036854775808<=z)(h2:z<9223372036854775808):Fn A.C 179 [.int .i64 z] h N (fun v h' n'=>Rg h' n' v z):=by
 intro w
 rw[aM,A.k179 (by simp)]
 have kB:=(ab.refl (h:=h) (n:=N)).new (.cells [.bool false,.aa] 143 true)
 simp[A.b179]
 refine bA [(0,0),(3,3),(5,5),(8,21)] (fun e r st=>e=.exit 0/\WhI (h.set N (.cells [.bool false,.aa] 143 true)) (N+1) z.natAbs (decide (z<0)) 0 r st) (WhI (h.set N (.cells [.bool false,.aa] 143 true)) (N+1) z.natAbs (decide (z<0))) z.natAbs ?_ ?_ ?_
 ·exact⟨by simp,ab.refl,z,.aa,[],rfl,aO _,fun h=>by simp[h],fun h=>by simp;omega,by simp,by simp,Own.nil,Di.nil,by simp[vI,pI],by simp,fun h=>by simp[pI];omega⟩
 ·rintro m r ⟨H,n1,W⟩ hr hf ⟨hW,hK,y,u,l,rfl,hm,xG,fg,g0,g3,ho,hd,hv,hl,hp⟩
  simp only at hW hK ho
  rw[bb]
  by_cases hy:y=0
  ·subst hy
   simp[A.nO,hr,hf,g0,aJ]
   exact⟨hW,hK,0,u,l,rfl,by omega,xG,fg,by simp[g0],by simp[g3],ho,hd,hv,hl,hp⟩
  ·have fk:=hK.le
   obtain⟨d,oO⟩:∃d:Nat,d=y.natAbs%1000000000:=⟨_,rfl⟩
   obtain⟨q,tj⟩:∃q:Nat,q=y.natAbs/1000000000:=⟨_,rfl⟩
   have iw:d<1000000000:=by omega
   have uO:(y.tdiv 1000000000).natAbs=q:=by rw[Int.natAbs_tdiv];exact tj.symm
   have mj:(y.tmod 1000000000).natAbs=d:=by rw[Int.natAbs_tmod];exact oO.symm
   have VN:(y<0->y.tdiv 1000000000<=0)/\(0<y->0<=y.tdiv 1000000000):=by
    constructor
    ·intro h
     have:(-y).tdiv 1000000000= -(y.tdiv 1000000000):=Int.neg_tdiv _ _
     have h3:0<=(-y).tdiv 1000000000:=Int.tdiv_nonneg (by omega) (by omega)
     omega
    ·intro h
     exact Int.tdiv_nonneg (by omega) (by omega)
   have hms:(y<0->y.tmod 1000000000<=0)/\(0<y->0<=y.tmod 1000000000):=by
    constructor
    ·intro h
     have:(-y).tmod 1000000000= -(y.tmod 1000000000):=Int.neg_tmod _ _
     have h3:0<=(-y).tmod 1000000000:=Int.tmod_nonneg _ (by omega)
     omega
    ·intro h
     exact Int.tmod_nonneg _ (by omega)
   generalize hyq:y.tdiv 1000000000=Y at*
   generalize hym:y.tmod 1000000000=D at*
   have w1:bh .i64 Y=Y:=cE (by omega) (by omega)
   have w2:bh .i64 (0-D)= -D:=by rw[Int.zero_sub];exact cE (by omega) (by omega)
   have w3:bh .i64 (-D)= -D:=cE (by omega) (by omega)
   have hlen:l.length+1<=100:=by
    apply Classical.byContradiction
    intro hc
    have h5:l.length=100:=by omega
    have h6:=hp (by omega)
    rw[h5,RG]at h6
    have h7:(1000000000^100:Nat)<=z.natAbs:=by exact_mod_cast h6
    have h8:(9223372036854775808:Nat)<1000000000^100:=by decide
    omega
   obtain⟨v',h',w',e1,e2,e3,e4,e5⟩:=tJ (x:=[.int .i64 (d:Int)]) (u:=.slice n1 0 1 (some 1) 1) (bytes:=8) (w:=W) (ho.ad (ab.refl.new (.cells [.int .i64 (d:Int)] 3 true))) (by omega) (by decide) rfl (by simp[ef,St.row,aC]) (by rw[Dd];omega)
   rw[<-Fe]at e5
   have im:vI (l++[(d:Int)])+pI (l++[(d:Int)]).length*(q:Int)=z.natAbs:=by
    rw[C8,iN,Az,v_,<-hv]
    have:(y.natAbs:Int)=1000000000*(q:Int)+d:=by omega
    rw[this]
    generalize pI l.length=P
    grind
   have hqa:q<y.natAbs:=by omega
   have hpp:q≠0->pI (l++[(d:Int)]).length<=z.natAbs:=fun hq=>by
    have h3:0<=vI (l++[(d:Int)]):=wc (hd.app (Di.one (by omega) (by omega)))
    have h4:0<pI (l++[(d:Int)]).length:=C7 _
    have h5:pI (l++[(d:Int)]).length*1<=pI (l++[(d:Int)]).length*(q:Int):=rI (by omega) (by omega)
    omega
   have fin:WhI (h.set N (.cells [.bool false,.aa] 143 true)) (N+1) z.natAbs (decide (z<0)) q ((r.set 3 v').set 0 (.int .i64 Y)) ⟨h',n1+1+1,w'⟩:=⟨by rw[e2];exact hW,(hK.new _).then e3,Y,v',l++[(d:Int)],uO,by omega,fun h=>xG (by have:=VN.2;omega),fun h=>fg (by have:=VN.1;omega),by simp,by simp,e5,hd.app (Di.one (by omega) (by omega)),im,by simp;omega,hpp⟩
   obtain⟨f1,f2,f3⟩:=fin
   by_cases hD:D<0
   ·have S7: -D=(d:Int):=by omega
    rw[S7]at w2 w3
    simp[A.nO,hr,hf,g0,g3,hy,aJ,hyq,hym,hD,w1,w2,w3,S7,ae,e1]
    exact⟨q,by omega,f1,f2,by simpa using f3⟩
   ·have S7:D=(d:Int):=by omega
    have hD':¬(d:Int)<0:=by omega
    simp[A.nO,hr,hf,g0,g3,hy,aJ,hyq,hym,hD',w1,S7,ae,e1]
    exact⟨q,by omega,f1,f2,by simpa using f3⟩
 ·rintro _ r ⟨H,n1,W⟩ hr ⟨rfl,hW,hK,y,u,l,hy,hm,xG,fg,g0,g3,ho,hd,hv,hl,hp⟩
  simp only at hW hK ho
  have h0:y=0:=by omega
  subst h0
  have jL:vI l=(z.natAbs:Nat):=by simpa using hv
  simp[hr,g3]
  refine ay (yd (n:=z.natAbs) ho.sl hd jL (by omega)) ?_
  rintro v5 h5 n5 k5 SO
  have ez:(if decide (z<0)=true then -((z.natAbs:Nat):Int) else ((z.natAbs:Nat):Int))=z:=by
   by_cases h0:z<0<;>simp[h0]<;>omega
  rw[ez]at SO
  have ye:=hK.le
  have IM:=k5.le
  have pq:=(k5.get N (by omega)).trans (hK.get N (by omega))
  rw[T.ag,ax rfl]at pq
  obtain⟨u5,rfl,Bf⟩:=SO
  have p1:=Sl.form Bf |>.one
  have p2:=Sl.form Bf |>.cells
  unfold V.one at p1
  unfold V.cells at p2
  have ow:ar N W=[]:=OK (vF N) hW
  simp[hr,pq,ae,bD,p1,p2,aR,aC,az,ow]
  exact⟨((kB.trans hK).trans k5).set (aO N),u5,by simp,Sl.setInt Bf pq jl rfl⟩
def Ztl{z:Int}{h:T O}{N:Nat}(hl:(aL z).length<=2000000000):Fn A.C 178 [.str (aL z)] h N (fun v h' n'=>Rg h' n' v z):=by
 have h1:1<=(aq z.natAbs).length:=List.length_pos_iff.2 (HT _)
 unfold aL at hl ⊢
 by_cases hz:z<0
 ·rw[ax hz]at hl ⊢
  simp only[bo]at hl
  have e: -((aF (aq z.natAbs):Nat):Int)=z:=by rw[Dv];omega
  have:=Yd0 (zQ z.natAbs) h1 (by omega) (h:=h) (N:=N)
  rw[e]at this
  exact this
 ·rw[ak hz]at hl ⊢
  have e:((aF (aq z.natAbs):Nat):Int)=z:=by rw[Dv];omega
  have:=SS (zQ z.natAbs) h1 (by omega) (h:=h) (N:=N)
  rw[e]at this
  exact this
def Ztk{h h2:T O}{N n2:Nat}{a b:Int}{x y:V}(hx:Sl h2 n2 x (dI (ds a.natAbs)))(hy:Sl h2 n2 y (dI (ds b.natAbs)))(r0:h2.get N=some (.cells [.bool false,.aa] 143 true))(r1:h2.get (N+1)=some (.cells [.bool false,.aa] 143 true)):Rg ((h2.set N (.cells [.bool (decide (a<0)),x] 143 true)).set (N+1) (.cells [.bool (decide (b<0)),y] 143 true)) n2 (.agg [.bool (decide (a<0)),x]) a/\Rg ((h2.set N (.cells [.bool (decide (a<0)),x] 143 true)).set (N+1) (.cells [.bool (decide (b<0)),y] 143 true)) n2 (.agg [.bool (decide (b<0)),y]) b:=by
 have F9:(h2.set N (.cells [.bool (decide (a<0)),x] 143 true)).get (N+1)=some (.cells [.bool false,.aa] 143 true):=by rw[T.ag,ak (by omega)];exact r1
 exact⟨⟨x,rfl,Sl.setInt (Sl.setInt hx r0 jl rfl) F9 jl rfl⟩,⟨y,rfl,Sl.setInt (Sl.setInt hy r0 jl rfl) F9 jl rfl⟩⟩
def Po{q:Rat}{h:T O}{N:Nat}(l1:(aL q.num).length<=1000000000)(l2:(aq q.den).length<=1000000000):Fn A.C 123 [.str (aP q)] h N (fun v h' n'=>∃x y,v=.aV [x,y]/\Rg h' n' x q.num/\Rg h' n' y (q.den:Int)):=by
 intro w
 have au:(aP q).length<=3000000000:=by
  unfold aP
  split
  ·omega
  ·simp only[iN,bo];omega
 have cD:=fun st=>F7 (s:=aP q) (st:=st) (by omega)
 have hsa:=Ks q
 have htk:=MZ q
 have kg:=(ab.refl (h:=h) (n:=N)).new (.cells [.bool false,.aa] 143 true)
 have k0:=kg.new (.cells [.bool false,.aa] 143 true)
 have d4':¬N+1=N:=by omega
 have d5':¬N=N+1:=by omega
 rw[aM,A.k123 (by simp)]
 by_cases hd:q.den=1
 ·have he:ah (aP q)=(aP q).length:=by
   have:=Dw q
   have h2:ah (aP q)<=(aP q).length:=by
    rw[hsa]
    unfold aP
    rw[ax hd]
    exact aO _
   omega
  have l7:aP q=aL q.num:=by unfold aP;rw[ax hd]
  have c1:((ah (aP q):Int)=((aP q).length:Int)):=by omega
  rw[hd]
  simp[A.b123,cD,he,aJ]
  rw[l7]
  refine ay (Ztl (z:=q.num) (by omega)) ?_
  rintro v1 h1 n1 k1 ⟨x,rfl,hx⟩
  simp[]
  refine ay (Yda (z:=1) (by omega) (by omega)) ?_
  rintro v2 h2 n2 k2 ⟨y,rfl,hy⟩
  have eY:=k1.le
  have gI:=k2.le
  have hx:=Sl.ad hx k2
  have r0:=(k2.get N (by omega)).trans (k1.get N (by omega))
  have r1:=(k2.get (N+1) (by omega)).trans (k1.get (N+1) (by omega))
  simp at r0 r1
  have yq:=(Sl.form hx).one
  have qO:=(Sl.form hy).one
  have DY:=(Sl.form hx).cells
  have vG:=(Sl.form hy).cells
  unfold V.one at yq qO
  unfold V.cells at DY vG
  obtain⟨e1,e2⟩:=Ztk (h:=h) (b:=1) hx hy r0 r1
  have OX:N<n1:=by omega
  have OY:N<n2:=by omega
  have OZ:N+1<n2:=by omega
  simp[r0,r1,ae,bD,yq,qO,DY,vG,OX,OY,OZ,d4',d5',aR,aC,cn.cr,az]
  simp only[show decide ((1:Int)<0)=false from rfl]at e1 e2
  exact⟨(((k0.trans k1).trans k2).set (by omega)).set (by omega),_,_,⟨rfl,rfl⟩,e1,e2⟩
 ·have cX:=(Dw q).2 hd
  have yp:=M0 q hd
  have c1:¬((ah (aP q):Int)=((aP q).length:Int)):=by omega
  have c2:¬(ah (aP q)=(aP q).length):=by omega
  have c3:(ah (aP q):Int)<=((aP q).length:Int):=by omega
  have c4:(ah (aP q):Int)+1<=((aP q).length:Int):=by omega
  have c5:((ah (aP q):Int)+1).toNat=ah (aP q)+1:=by omega
  have Yb:aF (aq q.den)=q.den:=Dv _
  simp[A.b123,cD,c1,c2,c3,c4,c5,aJ,aB,htk]
  refine ay (Ztl (z:=q.num) (by omega)) ?_
  rintro v1 h1 n1 k1 ⟨x,rfl,hx⟩
  simp(disch:=omega) [cD,c1,c2,c3,c4,c5,aJ,aB,yp]
  refine ay (SS (zQ q.den) (List.length_pos_iff.2 (HT _)) (by omega)) ?_
  rintro v2 h2 n2 k2 hy
  rw[Yb]at hy
  obtain⟨y,rfl,hy⟩:=hy
  have eY:=k1.le
  have gI:=k2.le
  have hx:=Sl.ad hx k2
  have r0:=(k2.get N (by omega)).trans (k1.get N (by omega))
  have r1:=(k2.get (N+1) (by omega)).trans (k1.get (N+1) (by omega))
  simp at r0 r1
  have yq:=(Sl.form hx).one
  have qO:=(Sl.form hy).one
  have DY:=(Sl.form hx).cells
  have vG:=(Sl.form hy).cells
  unfold V.one at yq qO
  unfold V.cells at DY vG
  obtain⟨e1,e2⟩:=Ztk (h:=h) (b:=(q.den:Int)) hx hy r0 r1
  have OX:N<n1:=by omega
  have OY:N<n2:=by omega
  have OZ:N+1<n2:=by omega
  have yX:¬(q.den:Int)<0:=by omega
  simp only[show decide ((q.den:Int)<0)=false by simp[yX]]at e1 e2
  simp[r0,r1,ae,bD,yq,qO,DY,vG,OX,OY,OZ,d4',d5',aR,aC,cn.cr,az,yX]
  exact⟨(((k0.trans k1).trans k2).set (by omega)).set (by omega),_,_,⟨rfl,rfl⟩,e1,e2⟩
def Pp{n:Nat}:(aq n).length<=9↔n<1000000000:=Ql (k:=9) (by omega)
def Yma{n:Nat}(h:n<1000000000)(st:St):A.C.call (.func 218 [] []) [.str (aq n)] st=some (.int .i64 n,st):=by
 have:=OE (s:=aq n) (st:=st) (zQ n) (by have:=Pp.2 h;omega)
 rwa [Dv]at this
end
end Go.Mx
