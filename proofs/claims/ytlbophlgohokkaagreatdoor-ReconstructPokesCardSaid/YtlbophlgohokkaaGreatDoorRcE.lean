/-
  lensletref01: fraction.
-/
import Derived.Test.YtlbophlgohokkaaGreatDoorRcB
import Derived.Test.YtlbophlgohokkaaGreatDoorRbI
set_option linter.all false
namespace Go.Mx
open Go Go.Proofs
variable {N:Nat} {a b:Int} {h:T O} {x y:V}
set_option maxRecDepth 1000000
def A.b164:aq:=sr [bx 2 175 0,bx 3 175 1,⟨(some 4),.aY (.const (.str [])),none⟩]
 (.seq (sr [fa 11 0 3,ld 12 11]
 (cd 12
 (.aV [lN 13 2 2,c1 14 232 13,lN 15 2 3,c1 16 232 15,⟨none,.store 2 (.tmp 2) (.tmp 14),none⟩,⟨none,.store 2 (.tmp 3) (.tmp 16),none⟩] [0,1,0,7,15,31])
 (.skip)))
 (sr [fa 17 1 2,ld 18 17,fa 19 1 3,ld 20 19,c2 21 161 18 20,mv 5 21]
 (sr [fa 23 1 2,ld 24 23,mv 25 5,c2 26 228 24 25,mv 22 26,xt 27 22 0,xt 28 22 1,mv 6 27,mv 7 28]
 (sr [fa 30 1 3,ld 31 30,mv 32 5,c2 33 228 31 32,mv 29 33,xt 34 29 0,xt 35 29 1,mv 8 34,mv 9 35]
 (sr [fa 36 0 2,ld 37 36,mv 38 6,c2 39 234 37 38,c1 40 233 39,mv 10 40]
 (.seq (sr [mv 41 8,ln 42 41,ei 43 42 1,mv 44 43,mg 45 8 44,⟨(some 46),.aN 1 (.tmp 45) (.const (.int .i64 0)),(some (44,true))⟩,⟨(some 47),.load none (.tmp 46),(some (44,true))⟩,⟨(some 48),.bin .eql (.aI .int) true (.tmp 47) (.const (.int .i64 1)),(some (44,true))⟩,pf 49 44 48]
 (cd 49
 (sr [mv 50 10,mv 4 50]
 (.ret))
 (.skip)))
 (sr [mv 51 10,⟨(some 52),.bin .add (.node []) false (.tmp 51) (.const (.str [47])),none⟩,mv 53 8,⟨(some 54),.call (.const (.func 234 [] [])) [(.const (.bool false)),(.tmp 53)],none⟩,c1 55 233 54,bi 56 .add 52 55,mv 4 56]
 (.ret))))))))
theorem A.c164:A.F 164=some ⟨57,[.tmp 4],A.b164⟩:=by kernel_rfl
def A.k164:=@A.kk 164 _ _ _ A.c164 rfl
theorem KW(hb:0<b):b.natAbs/Nat.gcd a.natAbs b.natAbs=(Rat.divInt a b).den:=by
 have h:((Rat.divInt a b).den:Int)=((b.natAbs/Nat.gcd a.natAbs b.natAbs:Nat):Int):=by
  rw[Rat.den_divInt,au (by omega),Int.gcd_comm]
  rfl
 exact(Int.ofNat_inj.1 h).symm
theorem Fm(hb:0<b):(if decide (a<0)=true then -((a.natAbs/Nat.gcd a.natAbs b.natAbs:Nat):Int) else ((a.natAbs/Nat.gcd a.natAbs b.natAbs:Nat):Int))=(Rat.divInt a b).num:=by
 rw[Rat.num_divInt,Int.sign_eq_one_of_pos hb,Int.one_mul,Int.gcd_comm]
 have hd:((Int.gcd a b:Nat):Int)∣a:=Int.gcd_dvd_left ..
 have he:Nat.gcd a.natAbs b.natAbs=Int.gcd a b:=rfl
 rw[he,Int.natCast_ediv]
 by_cases ha:a<0
 ·have h1:(a.natAbs:Int)= -a:=by omega
  simp only[ha,decide_true,if_true,h1]
  rw[Int.neg_ediv_of_dvd hd,Int.neg_neg]
 ·have h1:(a.natAbs:Int)=a:=by omega
  simp[ha,h1]
theorem Ydd{z:Int}:(aK z).length<=9*(ds z.natAbs).length+2:=by
 have:=KU (n:=z.natAbs)
 unfold aK
 split<;>simp<;>omega
theorem Yip{m e:Nat}(h0:0<m)(he:m%1000000000=e):m=1↔(ds m).length=1/\e=1:=by
 constructor
 ·rintro rfl
  exact⟨by have:=Yio (r:=1) (by omega);rw[<-this];decide,by omega⟩
 ·rintro⟨h1,h2⟩
  have h3:=rW (fA m)
  rw[fH,h1,OA,Nat.pow_one]at h3
  omega
theorem Zr8(hx:Rg h N x a)(hy:Rg h N y b)(hb:0<b)(l3:(ds a.natAbs).length<100000000000)(l4:(ds b.natAbs).length<100000000000):Fn A.C 164 [x,y] h N (fun u _ _=>u=.str (aW (Rat.divInt a b))):=by
 intro w
 obtain⟨u,rfl,kp⟩:=hx
 obtain⟨v,rfl,mw⟩:=hy
 have o1:=Sl.form kp |>.one
 have o2:=Sl.form kp |>.cells
 have o3:=Sl.form mw |>.one
 have o4:=Sl.form mw |>.cells
 unfold V.one at o1 o3
 unfold V.cells at o2 o4
 have l1:(ds a.natAbs).length<1000000000000:=by omega
 have l2:(ds b.natAbs).length<1000000000000:=by omega
 have rP:¬b<0:=by omega
 rw[show decide (b<0)=false by simp[rP]]
 have kB:=(((ab.refl (h:=h) (n:=N)).new (.cells [.bool (decide (a<0)),u] 175 true)).new (.cells [.bool false,v] 175 true))
 have hu:=Sl.ae kp kB
 have hv:=Sl.ae mw kB
 rw[aR,A.k164 (by simp)]
 simp[A.b164,o1,o3,aU]
 generalize hB:(h.set N (.cells [.bool (decide (a<0)),u] 175 true)).set (N+1) (.cells [.bool false,v] 175 true)=HB at*
 have gN:HB.get N=some (.cells [.bool (decide (a<0)),u] 175 true):=by rw[<-hB];simp
 have gM:HB.get (N+1)=some (.cells [.bool false,v] 175 true):=by rw[<-hB];simp
 refine ax (On hu hv l1 l2) ?_
 rintro v1 h1 n1 k1 q1
 have Cv:=(k1.get N (by omega)).trans gN
 have Fo:=(k1.get (N+1) (by omega)).trans gM
 have qg:0<Nat.gcd a.natAbs b.natAbs:=LF _ (by omega)
 have lg:(ds (Nat.gcd a.natAbs b.natAbs)).length<1000000000000:=qc (rG (Nat.gcd_le_right _ (by omega))) l2
 have Fi:=k1.le
 simp[Cv,aU]
 refine ax (KL (hu.ae k1) q1 qg l1 lg) ?_
 rintro _ h2 n2 k2 ⟨q,r1,rfl,q2, -⟩
 have Fp:=(k2.get (N+1) (by omega)).trans Fo
 have nw:=k2.le
 simp[Fp,aU]
 refine ax (KL ((hv.ae k1).ae k2) (q1.ae k2) qg l2 lg) ?_
 rintro _ h3 n3 k3 ⟨d,r2,rfl,q3, -⟩
 have VI:=(k3.get N (by omega)).trans ((k2.get N (by omega)).trans Cv)
 have zp:=k3.le
 rw[KW hb]at q3
 have lq:(ds (a.natAbs/Nat.gcd a.natAbs b.natAbs)).length<100000000000:=qc (rG (rS _ _)) l3
 have yi:(ds (Rat.divInt a b).den).length<100000000000:=by rw[<-KW hb];exact qc (rG (rS _ _)) l4
 simp[VI,aU]
 refine ax (uK (n:=a.natAbs/Nat.gcd a.natAbs b.natAbs) (q2.ae k3) (fA _) (fH _) (by omega)) ?_
 rintro v4 h4 n4 k4 q4
 have Kk:=k4.le
 rw[Fm hb]at q4
 simp[]
 refine ax (Hl q4 (by rw[<-Fm hb];split<;>(first|rw[yG,dm]|rw[dm])<;>exact lq)) ?_
 rintro _ h5 n5 k5 rfl
 have U7:=k5.le
 obtain⟨m,hm⟩:∃m,(Rat.divInt a b).den=m:=⟨_,rfl⟩
 have kj:0<m:=by rw[<-hm];exact Rat.den_pos _
 rw[hm]at q3 yi
 have cg:=Ydd (z:=(Rat.divInt a b).num)
 have Fq:(ds (Rat.divInt a b).num.natAbs).length<100000000000:=by rw[<-Fm hb];split<;>(first|rw[yG,dm]|rw[dm])<;>exact lq
 have jO:aW (Rat.divInt a b)=if m=1 then aK (Rat.divInt a b).num else aK (Rat.divInt a b).num++47::ak m:=by unfold aW;rw[hm]
 rw[jO]
 generalize aK (Rat.divInt a b).num=s at*
 have AW:Dn h5 n5 d m:=(q3.ae k4).ae k5
 have ld:=Sl.len AW
 rw[gk]at ld
 have qS:(ds m).length≠0:=fun hc=>(by omega:m≠0) (zX.1 (qa hc))
 have hg:=MG (i:=0) (n:=m) (by omega)
 rw[Br,Nat.div_one]at hg
 obtain⟨e,he⟩:∃e,m%1000000000=e:=⟨_,rfl⟩
 rw[he]at hg
 have qH:m=1↔(ds m).length=1/\e=1:=Yip kj he
 obtain⟨i,o,c,te,rw_,p1,p2,p3,p4⟩:=Sl.at AW (fU hg)
 rw[re]at p4
 obtain⟨L,hL⟩:∃L,(ds m).length=L:=⟨_,rfl⟩
 rw[hL]at ld qH
 have jx:=KU (n:=m)
 rw[hL]at jx yi
 have di:IntKind.max .i64=9223372036854775807:=rfl
 have b1:¬(9223372036854775807:Int)<(s.length:Int)+1:=by omega
 have b2:¬(9223372036854775807:Int)<(s.length:Int)+1+((ak m).length:Int):=by omega
 have Fj:aK (m:Int)=ak m:=by unfold aK;rw[au (by omega),dm]
 have tl:(ds m).length<1152921504606846976:=by omega
 have K5:ab h N h5 n5:=((((kB.trans k1).trans k2).trans k3).trans k4).trans k5
 by_cases nc:m=1
 ·obtain⟨rfl,rfl⟩:=qH.1 nc
  rw[aF nc]
  clear cg Fq jx b1 b2 tl yi
  simp[ld,p1,p3,p4,aA]
  exact K5
 ·rw[au nc]
  by_cases Hj:L=1
  ·have TJ:¬e=1:=fun hc=>nc (qH.2 ⟨Hj,hc⟩)
   have sA:¬(e:Int)=1:=by omega
   subst Hj
   clear cg Fq jx
   simp[ld,p1,p3,p4,sA,gj,di,b1]
   refine ax (uK (b:=false) (n:=m) AW (fA _) (fH _) tl) ?_
   rintro v6 h6 n6 k6 q6
   have q7:Rg h6 n6 v6 (m:Int):=by simpa using q6
   simp[]
   refine ax (Hl q7 (by rw[dm,hL];exact yi)) ?_
   rintro _ h7 n7 k7 rfl
   rw[Fj]
   simp[gj,di,b2,aA]
   exact(K5.trans k6).trans k7
  ·have VJ:¬(L:Int)=1:=by omega
   clear cg Fq jx
   simp[ld,VJ,gj,di,b1]
   refine ax (uK (b:=false) (n:=m) AW (fA _) (fH _) tl) ?_
   rintro v6 h6 n6 k6 q6
   have q7:Rg h6 n6 v6 (m:Int):=by simpa using q6
   simp[]
   refine ax (Hl q7 (by rw[dm,hL];exact yi)) ?_
   rintro _ h7 n7 k7 rfl
   rw[Fj]
   simp[gj,di,b2,aA]
   exact(K5.trans k6).trans k7
theorem Zr9{P Q:Int}(hx:Rg h N x P)(hy:Rg h N y Q)(AL:Q<0)(l3:(ds P.natAbs).length<100000000000)(l4:(ds Q.natAbs).length<100000000000):Fn A.C 164 [x,y] h N (fun u _ _=>u=.str (aW (Rat.divInt P Q))):=by
 intro w
 obtain⟨u0,rfl,kp⟩:=hx
 obtain⟨v0,rfl,mw⟩:=hy
 have o1:=Sl.form kp |>.one
 have o2:=Sl.form kp |>.cells
 have o3:=Sl.form mw |>.one
 have o4:=Sl.form mw |>.cells
 unfold V.one at o1 o3
 unfold V.cells at o2 o4
 have mW:Rg h N (.agg [.bool (decide (P<0)),u0]) P:=⟨u0,rfl,kp⟩
 have uC:Rg h N (.agg [.bool true,v0]) Q:=⟨v0,by simp[AL],mw⟩
 rw[show decide (Q<0)=true by simp[AL]]
 have kA:=(((ab.refl (h:=h) (n:=N)).new (.cells [.bool (decide (P<0)),u0] 175 true)).new (.cells [.bool true,v0] 175 true))
 rw[aR,A.k164 (by simp)]
 simp[A.b164,o1,o3,aU,aJ]
 generalize hA:(h.set N (.cells [.bool (decide (P<0)),u0] 175 true)).set (N+1) (.cells [.bool true,v0] 175 true)=HA at*
 have gN0:HA.get N=some (.cells [.bool (decide (P<0)),u0] 175 true):=by rw[<-hA];simp
 have gM0:HA.get (N+1)=some (.cells [.bool true,v0] 175 true):=by rw[<-hA];simp
 refine ax (Zv0 (mW.ae kA) (by omega)) ?_
 rintro _ m1 t1 j1 q1
 obtain⟨a,ha⟩:∃a,a= -P:=⟨_,rfl⟩
 rw[<-ha]at q1
 obtain⟨u,rfl,xh⟩:=q1
 have i1:=j1.le
 have Cv:=(j1.get N (by omega)).trans gN0
 have Fo:=(j1.get (N+1) (by omega)).trans gM0
 simp[Fo,aU,aJ]
 refine ax (Zv0 ((uC.ae kA).ae j1) (by omega)) ?_
 rintro _ m2 t2 j2 q2
 obtain⟨b,oV⟩:∃b,b= -Q:=⟨_,rfl⟩
 rw[<-oV]at q2
 have hb:0<b:=by omega
 obtain⟨v,rfl,iH⟩:=q2
 rw[show decide (b<0)=false by simp;omega]
 have gT:Rat.divInt P Q=Rat.divInt a b:=by rw[ha,oV];exact(Rat.neg_divInt_neg P Q).symm
 rw[gT]
 have n1:=Yn0 (b:=decide (P<0)) (Sl.form kp)
 have n2:=Yn0 (b:=true) (Sl.form mw)
 have i2:=j2.le
 have OD:=(j2.get N (by omega)).trans Cv
 have Fp:=(j2.get (N+1) (by omega)).trans Fo
 have s1:=Sl.form xh |>.one
 have s2:=Sl.form xh |>.cells
 have s3:=Sl.form iH |>.one
 have s4:=Sl.form iH |>.cells
 unfold V.one at s1 s3
 unfold V.cells at s2 s4
 have g1:N+1<t1:=by omega
 have g2:N+1<t2:=by omega
 have g3:N<t2:=by omega
 simp[OD,Fp,s1,s3,ag,bW,aU,dw.dB,g1,g2,g3]
 have VK:(m2.set N (.cells [.bool (decide (a<0)),u] 175 true)).get (N+1)=some (.cells [.bool true,v0] 175 true):=by rw[T.ai,au (by omega)];exact Fp
 have kB:=((((kA.trans j1).trans j2).set (i:=N) (o:=.cells [.bool (decide (a<0)),u] 175 true) (by omega))).set (i:=N+1) (o:=.cells [.bool false,v] 175 true) (by omega)
 have hu:=Sl.setInt (Sl.setInt (xh.ae j2) OD n1 (c1:=[.bool (decide (a<0)),u]) (e1:=175) (w1:=true) rfl) VK n2 (c1:=[.bool false,v]) (e1:=175) (w1:=true) rfl
 have hv:=Sl.setInt (Sl.setInt iH OD n1 (c1:=[.bool (decide (a<0)),u]) (e1:=175) (w1:=true) rfl) VK n2 (c1:=[.bool false,v]) (e1:=175) (w1:=true) rfl
 generalize hB:(m2.set N (.cells [.bool (decide (a<0)),u] 175 true)).set (N+1) (.cells [.bool false,v] 175 true)=HB at*
 have gN:HB.get N=some (.cells [.bool (decide (a<0)),u] 175 true):=by rw[<-hB];simp
 have gM:HB.get (N+1)=some (.cells [.bool false,v] 175 true):=by rw[<-hB];simp
 have ea:a.natAbs=P.natAbs:=by omega
 have eb:b.natAbs=Q.natAbs:=by omega
 rw[<-ea]at l3
 rw[<-eb]at l4
 have l1:(ds a.natAbs).length<1000000000000:=by omega
 have l2:(ds b.natAbs).length<1000000000000:=by omega
 clear o1 o2 o3 o4
 have o1:=s1
 have o2:=s2
 have o3:=s3
 have o4:=s4
 clear s1 s2 s3 s4 VK OD Fp Cv Fo gN0 gM0 n1 n2 hA gT
 refine ax (On hu hv l1 l2) ?_
 rintro v1 h1 n1 k1 q1
 have Cv:=(k1.get N (by omega)).trans gN
 have Fo:=(k1.get (N+1) (by omega)).trans gM
 have qg:0<Nat.gcd a.natAbs b.natAbs:=LF _ (by omega)
 have lg:(ds (Nat.gcd a.natAbs b.natAbs)).length<1000000000000:=qc (rG (Nat.gcd_le_right _ (by omega))) l2
 have Fi:=k1.le
 simp[Cv,aU]
 refine ax (KL (hu.ae k1) q1 qg l1 lg) ?_
 rintro _ h2 n2 k2 ⟨q,r1,rfl,q2, -⟩
 have Fp:=(k2.get (N+1) (by omega)).trans Fo
 have nw:=k2.le
 simp[Fp,aU]
 refine ax (KL ((hv.ae k1).ae k2) (q1.ae k2) qg l2 lg) ?_
 rintro _ h3 n3 k3 ⟨d,r2,rfl,q3, -⟩
 have VI:=(k3.get N (by omega)).trans ((k2.get N (by omega)).trans Cv)
 have zp:=k3.le
 rw[KW hb]at q3
 have lq:(ds (a.natAbs/Nat.gcd a.natAbs b.natAbs)).length<100000000000:=qc (rG (rS _ _)) l3
 have yi:(ds (Rat.divInt a b).den).length<100000000000:=by rw[<-KW hb];exact qc (rG (rS _ _)) l4
 simp[VI,aU]
 refine ax (uK (n:=a.natAbs/Nat.gcd a.natAbs b.natAbs) (q2.ae k3) (fA _) (fH _) (by omega)) ?_
 rintro v4 h4 n4 k4 q4
 have Kk:=k4.le
 rw[Fm hb]at q4
 simp[]
 refine ax (Hl q4 (by rw[<-Fm hb];split<;>(first|rw[yG,dm]|rw[dm])<;>exact lq)) ?_
 rintro _ h5 n5 k5 rfl
 have U7:=k5.le
 obtain⟨m,hm⟩:∃m,(Rat.divInt a b).den=m:=⟨_,rfl⟩
 have kj:0<m:=by rw[<-hm];exact Rat.den_pos _
 rw[hm]at q3 yi
 have cg:=Ydd (z:=(Rat.divInt a b).num)
 have Fq:(ds (Rat.divInt a b).num.natAbs).length<100000000000:=by rw[<-Fm hb];split<;>(first|rw[yG,dm]|rw[dm])<;>exact lq
 have jO:aW (Rat.divInt a b)=if m=1 then aK (Rat.divInt a b).num else aK (Rat.divInt a b).num++47::ak m:=by unfold aW;rw[hm]
 rw[jO]
 generalize aK (Rat.divInt a b).num=s at*
 have AW:Dn h5 n5 d m:=(q3.ae k4).ae k5
 have ld:=Sl.len AW
 rw[gk]at ld
 have qS:(ds m).length≠0:=fun hc=>(by omega:m≠0) (zX.1 (qa hc))
 have hg:=MG (i:=0) (n:=m) (by omega)
 rw[Br,Nat.div_one]at hg
 obtain⟨e,he⟩:∃e,m%1000000000=e:=⟨_,rfl⟩
 rw[he]at hg
 have qH:m=1↔(ds m).length=1/\e=1:=Yip kj he
 obtain⟨i,o,c,te,rw_,p1,p2,p3,p4⟩:=Sl.at AW (fU hg)
 rw[re]at p4
 obtain⟨L,hL⟩:∃L,(ds m).length=L:=⟨_,rfl⟩
 rw[hL]at ld qH
 have jx:=KU (n:=m)
 rw[hL]at jx yi
 have di:IntKind.max .i64=9223372036854775807:=rfl
 have b1:¬(9223372036854775807:Int)<(s.length:Int)+1:=by omega
 have b2:¬(9223372036854775807:Int)<(s.length:Int)+1+((ak m).length:Int):=by omega
 have Fj:aK (m:Int)=ak m:=by unfold aK;rw[au (by omega),dm]
 have tl:(ds m).length<1152921504606846976:=by omega
 have K5:ab h N h5 n5:=((((kB.trans k1).trans k2).trans k3).trans k4).trans k5
 by_cases nc:m=1
 ·obtain⟨rfl,rfl⟩:=qH.1 nc
  rw[aF nc]
  clear cg Fq jx b1 b2 tl yi
  simp[ld,p1,p3,p4,aA]
  exact K5
 ·rw[au nc]
  by_cases Hj:L=1
  ·have TJ:¬e=1:=fun hc=>nc (qH.2 ⟨Hj,hc⟩)
   have sA:¬(e:Int)=1:=by omega
   subst Hj
   clear cg Fq jx
   simp[ld,p1,p3,p4,sA,gj,di,b1]
   refine ax (uK (b:=false) (n:=m) AW (fA _) (fH _) tl) ?_
   rintro v6 h6 n6 k6 q6
   have q7:Rg h6 n6 v6 (m:Int):=by simpa using q6
   simp[]
   refine ax (Hl q7 (by rw[dm,hL];exact yi)) ?_
   rintro _ h7 n7 k7 rfl
   rw[Fj]
   simp[gj,di,b2,aA]
   exact(K5.trans k6).trans k7
  ·have VJ:¬(L:Int)=1:=by omega
   clear cg Fq jx
   simp[ld,VJ,gj,di,b1]
   refine ax (uK (b:=false) (n:=m) AW (fA _) (fH _) tl) ?_
   rintro v6 h6 n6 k6 q6
   have q7:Rg h6 n6 v6 (m:Int):=by simpa using q6
   simp[]
   refine ax (Hl q7 (by rw[dm,hL];exact yi)) ?_
   rintro _ h7 n7 k7 rfl
   rw[Fj]
   simp[gj,di,b2,aA]
   exact(K5.trans k6).trans k7
theorem VL(hx:Rg h N x a)(hy:Rg h N y b)(hb:b≠0)(l3:(ds a.natAbs).length<100000000000)(l4:(ds b.natAbs).length<100000000000):Fn A.C 164 [x,y] h N (fun u _ _=>u=.str (aW (Rat.divInt a b))):=by
 rcases Int.lt_or_gt_of_ne hb with hb|hb
 ·exact Zr9 hx hy hb l3 l4
 ·exact Zr8 hx hy hb l3 l4
def A.pH:aq:=.seq (sr [mv 5 1,bc 6 .gtr 5 0]
 (cd 6
 (.skip)
 (.exit 0)))
 (.block 1 (.aV [mv 7 1,mv 8 0,mv 9 1,bi 10 .rem 8 9,mv 0 7,mv 1 10] [0,0,0,6,3,31]))
def A.b230:aq:=sr [mc 4 0]
 (.seq (.block 0 (.loop A.pH))
 (sr [mv 11 0,mv 4 11]
 (.ret)))
theorem A.c230:A.F 230=some ⟨12,[.tmp 4],A.b230⟩:=by kernel_rfl
def A.k230:=@A.kk 230 _ _ _ A.c230 rfl
theorem Ycp{a b:Nat}{st:St}(ha:a<9223372036854775808)(hb:b<9223372036854775808):A.C.call (.func 230 [] []) [.int .i64 a,.int .i64 b] st=some (.int .i64 (Nat.gcd a b:Nat),st):=by
 apply Call.eq
 rw[aR,A.k230 (by simp)]
 simp[A.b230]
 refine bQ [(0,1),(5,10)] (fun e r s1=>s1=⟨st.h,st.n,[]⟩/\e=.exit 0/\r.get 0=some (.int .i64 (Nat.gcd a b:Nat))) (fun q r s1=>s1=⟨st.h,st.n,[]⟩/\q<9223372036854775808/\r.get 1=some (.int .i64 q)/\∃k:Nat,k<9223372036854775808/\r.get 0=some (.int .i64 k)/\Nat.gcd k q=Nat.gcd a b) b ?_ ?_ ?_
 ·exact⟨rfl,hb,by simp,a,ha,by simp,rfl⟩
 ·rintro q r _ hr hf ⟨rfl,hq,h1,k,hk,h0,hg⟩
  rw[bA]
  by_cases hz:q=0
  ·subst hz
   rw[Nat.gcd_zero_right]at hg
   simp[A.pH,hf,h0,h1,hg]
  ·have i1:(0:Int)<(q:Int):=by omega
   have i2:0<q:=by omega
   have i3:¬(q:Int)=0:=by omega
   have t1:(k:Int).tmod q=((k%q:Nat):Int):=by rw[Bk (by omega)];omega
   have t2:bn .i64 ((k%q:Nat):Int)=((k%q:Nat):Int):=cj (by omega) (by have:=jg k i2;omega)
   have aD:=jg k i2
   simp[A.pH,hf,h0,h1,i2,hz,t1,dw.dB]
   exact⟨k%q,aD,by omega,by simp,q,hq,rfl,by rw[<-hg,Nat.gcd_comm k q,Nat.gcd_rec q k,Nat.gcd_comm]⟩
 ·rintro _ r _ hr ⟨rfl,rfl,h0⟩
  simp[h0]
def A.b163:aq:=sr [⟨(some 4),.aY (.const (.str [])),none⟩]
 (.seq (sr [mv 7 0,⟨(some 8),.bin .lss (.node []) false (.tmp 7) (.const (.int .i64 (-4000000000000000000))),none⟩,mv 9 8,mh 10 0 9,⟨(some 11),.bin .gtr (.node []) false (.tmp 10) (.const (.int .i64 4000000000000000000)),(some (9,false))⟩,pt 12 9 11,mv 13 12,mh 14 1 13,⟨(some 15),.bin .lss (.node []) false (.tmp 14) (.const (.int .i64 (-4000000000000000000))),(some (13,false))⟩,pt 16 13 15,mv 17 16,mh 18 1 17,⟨(some 19),.bin .gtr (.node []) false (.tmp 18) (.const (.int .i64 4000000000000000000)),(some (17,false))⟩,pt 20 17 19]
 (cd 20
 (sr [mv 21 0,c1 22 227 21,mv 23 1,c1 24 227 23,c2 25 164 22 24,mv 4 25]
 (.ret))
 (.skip)))
 (.seq (sr [mv 26 1,bc 27 .lss 26 0]
 (cd 27
 (.aM [mv 28 0,⟨(some 29),.bin .sub (.node []) false (.const (.int .i64 0)) (.tmp 28),none⟩,mv 30 1,⟨(some 31),.bin .sub (.node []) false (.const (.int .i64 0)) (.tmp 30),none⟩,mv 0 29,mv 1 31])
 (.skip)))
 (sr [mv 32 0,mv 33 0,⟨(some 34),.bin .sub (.node []) false (.const (.int .i64 0)) (.tmp 33),none⟩,⟨(some 35),.mx [(.tmp 32),(.tmp 34)],none⟩,mv 36 1,c2 37 230 35 36,mv 5 37]
 (.seq (.aV [mv 38 0,mv 39 5,bi 40 .quo 38 39,mv 41 1,mv 42 5,bi 43 .quo 41 42,mv 0 40,mv 1 43] [0,0,3,0,0,24,7,127])
 (sr [⟨(some 6),.aY (.const (.str [])),none⟩]
 (.seq (sr [mv 44 0,bc 45 .lss 44 0]
 (cd 45
 (.aM [⟨(some 6),.aY (.const (.str [45])),none⟩])
 (.skip)))
 (sr [mv 46 6,mv 47 0,mv 48 0,⟨(some 49),.bin .sub (.node []) false (.const (.int .i64 0)) (.tmp 48),none⟩,⟨(some 50),.mx [(.tmp 47),(.tmp 49)],none⟩,⟨(some 51),.call (.const (.func 231 [] [])) [(.tmp 50),(.const (.int .i64 1))],none⟩,bi 52 .add 46 51,mv 6 52]
 (.seq (sr [mv 53 1,bc 54 .gtr 53 1]
 (cd 54
 (.aM [mv 55 6,⟨(some 56),.bin .add (.node []) false (.tmp 55) (.const (.str [47])),none⟩,mv 57 1,⟨(some 58),.call (.const (.func 231 [] [])) [(.tmp 57),(.const (.int .i64 1))],none⟩,bi 59 .add 56 58,mv 6 59])
 (.skip)))
 (sr [mv 60 6,mv 4 60]
 (.ret))))))))))
theorem A.c163:A.F 163=some ⟨61,[.tmp 4],A.b163⟩:=by kernel_rfl
def A.k163:=@A.kk 163 _ _ _ A.c163 rfl
theorem Cw{z:Int}:yL [.int .i64 z,.int .i64 (-z)]=some (.int .i64 (z.natAbs:Nat)):=by
 have h:yL [.int .i64 z,.int .i64 (-z)]=some (.int .i64 (if z< -z then -z else z)):=rfl
 rw[h]
 congr 2
 split<;>omega
theorem Yin{a:Int}{m:Nat}(hm:0<m):(Rat.divInt a m).num=a.tdiv (Nat.gcd a.natAbs m:Nat)/\(Rat.divInt a m).num.natAbs<=a.natAbs/\(Rat.divInt a m).den=m/Nat.gcd a.natAbs m:=by
 have hb:(0:Int)<(m:Int):=by omega
 have h1:=Fm (a:=a) hb
 have h2:=KW (a:=a) hb
 rw[dm]at h1 h2
 have hd:((Nat.gcd a.natAbs m:Nat):Int)∣a:=Int.gcd_dvd_left (a:=a) (b:=(m:Int))
 refine⟨?_,?_,h2.symm⟩
 ·rw[Int.tdiv_eq_ediv_of_dvd hd,Rat.num_divInt,Int.sign_eq_one_of_pos hb,Int.one_mul,Int.gcd_comm]
  rfl
 ·rw[<-h1]
  have:=rS a.natAbs (Nat.gcd a.natAbs m)
  generalize a.natAbs/Nat.gcd a.natAbs m=k at*
  split
  ·rw[yG,dm];exact this
  ·rw[dm];exact this
theorem Yic{a:Int}{m:Nat}{st:St}(hm:0<m)(h1: -4000000000000000000<=a)(h2:a<=4000000000000000000)(h3:m<=4000000000000000000):A.C.call (.func 163 [] []) [.int .i64 a,.int .i64 m] st=some (.str (aW (Rat.divInt a m)),st):=by
 apply Call.eq
 rw[aR,A.k163 (by simp)]
 have c1:¬a< -4000000000000000000:=by omega
 have c2:¬4000000000000000000<a:=by omega
 have c3:¬(m:Int)< -4000000000000000000:=by omega
 have c4:¬4000000000000000000<(m:Int):=by omega
 have c5:¬(m:Int)<0:=by omega
 have w1:bn .i64 (-a)= -a:=cj (by omega) (by omega)
 have w2:bn .i64 (0-a)= -a:=by rw[Int.zero_sub];exact w1
 have hg:=fun st=>Ycp (a:=a.natAbs) (b:=m) (st:=st) (by omega) (by omega)
 obtain⟨e1,e2,e3⟩:=Yin (a:=a) hm
 have wo:0<(Rat.divInt a m).den:=Rat.den_pos _
 have jO:aW (Rat.divInt a m)=if (Rat.divInt a m).den=1 then aK (Rat.divInt a m).num else aK (Rat.divInt a m).num++47::ak (Rat.divInt a m).den:=rfl
 rw[jO]
 clear jO
 have rC:0<Nat.gcd a.natAbs m:=LF _ hm
 generalize (Rat.divInt a m).num=P at*
 generalize (Rat.divInt a m).den=D at*
 generalize Nat.gcd a.natAbs m=g at*
 have hDm:D<=m:=by rw[e3];exact rS _ _
 have e4:(m:Int).tdiv (g:Int)=(D:Int):=by rw[yA (by omega),e3];rfl
 have g0:¬(g:Int)=0:=by omega
 have g1:¬g=0:=by omega
 have v1:bn .i64 P=P:=cj (by omega) (by omega)
 have v2:bn .i64 (-P)= -P:=cj (by omega) (by omega)
 have v3:bn .i64 (D:Int)=(D:Int):=cj (by omega) (by omega)
 have d1:∀st,A.C.call (.func 231 [] []) [.int .i64 (P.natAbs:Nat),.int .i64 1] st=some (.str (ak P.natAbs),st):=fun st=>(Hk (n:=P.natAbs) (m:=1) (st:=st) (by omega) (by omega)).trans (by rw[I4])
 have d2:∀st,A.C.call (.func 231 [] []) [.int .i64 D,.int .i64 1] st=some (.str (ak D),st):=fun st=>(Hk (n:=D) (m:=1) (st:=st) (by omega) (by omega)).trans (by rw[I4])
 have x1:(ak P.natAbs).length<30:=by
  have:(cJ P.natAbs).length<=19:=nd.1 (by omega)
  unfold ak;split<;>simp;omega
 have x2:(ak D).length<30:=by
  have:(cJ D).length<=19:=nd.1 (by omega)
  unfold ak;split<;>simp;omega
 have di:IntKind.max .i64=9223372036854775807:=rfl
 have y1:¬(9223372036854775807:Int)<((ak P.natAbs).length:Int):=by omega
 have y2:¬(9223372036854775807:Int)<1+((ak P.natAbs).length:Int):=by omega
 have z1:D=1\/(¬D=1/\1<D):=by omega
 rcases z1 with rfl|⟨z1,z2⟩<;>by_cases hP:P<0
 ·simp[A.b163,c1,c2,c3,c4,c5,w1,oL,Cw,hg,<-e1,e4,g1,v1,v2,hP,d1,gj,di,y2,aK,dw.dB]
 ·simp[A.b163,c1,c2,c3,c4,c5,w1,oL,Cw,hg,<-e1,e4,g1,v1,v2,hP,d1,gj,di,y1,aK,dw.dB]
 ·have z3:(1:Int)<(D:Int):=by omega
  have y3:¬(9223372036854775807:Int)<((ak P.natAbs).length:Int)+1+1:=by omega
  have y4:¬(9223372036854775807:Int)<((ak P.natAbs).length:Int)+1+1+((ak D).length:Int):=by omega
  simp[A.b163,c1,c2,c3,c4,c5,w1,oL,Cw,hg,<-e1,e4,g1,v1,v2,v3,hP,d1,d2,gj,di,y2,aK,dw.dB,z1,z3,y3,y4]
 ·have z3:(1:Int)<(D:Int):=by omega
  have y3:¬(9223372036854775807:Int)<((ak P.natAbs).length:Int)+1:=by omega
  have y4:¬(9223372036854775807:Int)<((ak P.natAbs).length:Int)+1+((ak D).length:Int):=by omega
  simp[A.b163,c1,c2,c3,c4,c5,w1,oL,Cw,hg,<-e1,e4,g1,v1,v2,v3,hP,d1,d2,gj,di,y1,aK,dw.dB,z1,z3,y3,y4]
theorem Ynx{p q:Int}{st:St}(hq:q<0)(h1: -4000000000000000000<=p)(h2:p<=4000000000000000000)(h3: -4000000000000000000<=q):A.C.call (.func 163 [] []) [.int .i64 p,.int .i64 q] st=some (.str (aW (Rat.divInt p q)),st):=by
 apply Call.eq
 rw[aR,A.k163 (by simp)]
 have c1:¬p< -4000000000000000000:=by omega
 have c2:¬4000000000000000000<p:=by omega
 have c3:¬q< -4000000000000000000:=by omega
 have c4:¬4000000000000000000<q:=by omega
 obtain⟨a,ha⟩:∃a,a= -p:=⟨_,rfl⟩
 obtain⟨m,nc⟩:∃m:Nat,(m:Int)= -q:=⟨(-q).toNat,by omega⟩
 have hm:0<m:=by omega
 have c5:bn .i64 (-p)=a:=by rw[<-ha];exact cj (by omega) (by omega)
 have c6:bn .i64 (-q)=(m:Int):=by rw[<-nc];exact cj (by omega) (by omega)
 have gT:Rat.divInt p q=Rat.divInt a m:=by rw[ha,nc];exact(Rat.neg_divInt_neg p q).symm
 rw[gT]
 clear gT
 have w1:bn .i64 (-a)= -a:=cj (by omega) (by omega)
 have w2:bn .i64 (0-a)= -a:=by rw[Int.zero_sub];exact w1
 have hg:=fun st=>Ycp (a:=a.natAbs) (b:=m) (st:=st) (by omega) (by omega)
 obtain⟨e1,e2,e3⟩:=Yin (a:=a) hm
 have wo:0<(Rat.divInt a m).den:=Rat.den_pos _
 have jO:aW (Rat.divInt a m)=if (Rat.divInt a m).den=1 then aK (Rat.divInt a m).num else aK (Rat.divInt a m).num++47::ak (Rat.divInt a m).den:=rfl
 rw[jO]
 clear jO
 have rC:0<Nat.gcd a.natAbs m:=LF _ hm
 generalize (Rat.divInt a m).num=P at*
 generalize (Rat.divInt a m).den=D at*
 generalize Nat.gcd a.natAbs m=g at*
 have hDm:D<=m:=by rw[e3];exact rS _ _
 have e4:(m:Int).tdiv (g:Int)=(D:Int):=by rw[yA (by omega),e3];rfl
 have g0:¬(g:Int)=0:=by omega
 have g1:¬g=0:=by omega
 have v1:bn .i64 P=P:=cj (by omega) (by omega)
 have v2:bn .i64 (-P)= -P:=cj (by omega) (by omega)
 have v3:bn .i64 (D:Int)=(D:Int):=cj (by omega) (by omega)
 have d1:∀st,A.C.call (.func 231 [] []) [.int .i64 (P.natAbs:Nat),.int .i64 1] st=some (.str (ak P.natAbs),st):=fun st=>(Hk (n:=P.natAbs) (m:=1) (st:=st) (by omega) (by omega)).trans (by rw[I4])
 have d2:∀st,A.C.call (.func 231 [] []) [.int .i64 D,.int .i64 1] st=some (.str (ak D),st):=fun st=>(Hk (n:=D) (m:=1) (st:=st) (by omega) (by omega)).trans (by rw[I4])
 have x1:(ak P.natAbs).length<30:=by
  have:(cJ P.natAbs).length<=19:=nd.1 (by omega)
  unfold ak;split<;>simp;omega
 have x2:(ak D).length<30:=by
  have:(cJ D).length<=19:=nd.1 (by omega)
  unfold ak;split<;>simp;omega
 have di:IntKind.max .i64=9223372036854775807:=rfl
 have y1:¬(9223372036854775807:Int)<((ak P.natAbs).length:Int):=by omega
 have y2:¬(9223372036854775807:Int)<1+((ak P.natAbs).length:Int):=by omega
 have z1:D=1\/(¬D=1/\1<D):=by omega
 rcases z1 with rfl|⟨z1,z2⟩<;>by_cases hP:P<0
 ·simp[A.b163,c1,c2,c3,c4,c5,c6,hq,w1,oL,Cw,hg,<-e1,e4,g1,v1,v2,hP,d1,gj,di,y2,aK,dw.dB]
 ·simp[A.b163,c1,c2,c3,c4,c5,c6,hq,w1,oL,Cw,hg,<-e1,e4,g1,v1,v2,hP,d1,gj,di,y1,aK,dw.dB]
 ·have z3:(1:Int)<(D:Int):=by omega
  have y3:¬(9223372036854775807:Int)<((ak P.natAbs).length:Int)+1+1:=by omega
  have y4:¬(9223372036854775807:Int)<((ak P.natAbs).length:Int)+1+1+((ak D).length:Int):=by omega
  simp[A.b163,c1,c2,c3,c4,c5,c6,hq,w1,oL,Cw,hg,<-e1,e4,g1,v1,v2,v3,hP,d1,d2,gj,di,y2,aK,dw.dB,z1,z3,y3,y4]
 ·have z3:(1:Int)<(D:Int):=by omega
  have y3:¬(9223372036854775807:Int)<((ak P.natAbs).length:Int)+1:=by omega
  have y4:¬(9223372036854775807:Int)<((ak P.natAbs).length:Int)+1+((ak D).length:Int):=by omega
  simp[A.b163,c1,c2,c3,c4,c5,c6,hq,w1,oL,Cw,hg,<-e1,e4,g1,v1,v2,v3,hP,d1,d2,gj,di,y1,aK,dw.dB,z1,z3,y3,y4]
theorem Yny{p q:Int}{st:St}(hq:q≠0)(h1: -4000000000000000000<=p)(h2:p<=4000000000000000000)(h3: -4000000000000000000<=q)(h4:q<=4000000000000000000):A.C.call (.func 163 [] []) [.int .i64 p,.int .i64 q] st=some (.str (aW (Rat.divInt p q)),st):=by
 rcases Int.lt_or_gt_of_ne hq with hq|hq
 ·exact Ynx hq h1 h2 h3
 ·obtain⟨m,rfl⟩:∃m:Nat,q=(m:Int):=⟨q.toNat,by omega⟩
  exact Yic (by omega) h1 h2 (by omega)
def A.lO:aq:=.seq (sr [mv 8 0,ni 9 8 0]
 (cd 9
 (.skip)
 (.exit 0)))
 (.block 1 (sr [mv 10 0,bc 11 .rem 10 1000000000,mv 5 11]
 (.seq (sr [mv 12 5,bc 13 .lss 12 0]
 (cd 13
 (.aM [mv 14 5,⟨(some 15),.bin .sub (.node []) false (.const (.int .i64 0)) (.tmp 14),none⟩,mv 5 15])
 (.skip)))
 (sr [mv 16 3,mv 17 5,⟨(some 18),.aO 3 1 1 [(.int .i64 0)] [(0,1,(.tmp 17))],none⟩,⟨(some 19),.append 1 8 3 [(.int .i64 0)] (.tmp 16) (.tmp 18),none⟩,mv 3 19]
 (.aM [mv 20 0,bc 21 .quo 20 1000000000,mv 0 21])))))
def A.b227:aq:=sr [⟨(some 2),.alloc [(.bool false),.aa] 175,none⟩]
 (sr [mN 3]
 (sr [mv 6 0,bc 7 .lss 6 0,mv 4 7]
 (.seq (.block 0 (.loop A.lO))
 (sr [mv 22 4,mv 23 3,c2 24 234 22 23,⟨none,.store 2 (.tmp 2) (.tmp 24),none⟩]
 (.ret)))))
theorem A.c227:A.F 227=some ⟨25,[.cell 2 (some 2)],A.b227⟩:=by kernel_rfl
def A.k227:=@A.kk 227 _ _ _ A.c227 rfl
theorem Yav{s:a_}(hd:ct s=true)(h1:1<=s.length)(h2:s.length<=3000000000){h:T O}{N:Nat}:Fn A.C 226 [.str (45::s)] h N (fun v h' n'=>Rg h' n' v (-((aB s:Nat):Int))):=by
 intro w
 have a1:cB 45=45:=rfl
 have a2:(1:Int)<=(s.length:Int)+1:=by omega
 have a3:∀st:St,rA st (some (.str (45::s))) (some (some (.int .i64 1))) (some none)=some (.str s,st):=fun st=>by rw[GO (by omega) (by simp only[bh];omega)];rfl
 rw[aR,A.k226 (by simp)]
 simp[A.b226,a1,a3,ay]
 refine bQ [(0,0),(4,4),(16,32)] (fun e r st=>e=.exit 0/\∃m,m<=9/\Oq (h.set N (.cells [.bool false,.aa] 175 true)) (N+1) s m r st) (Oq (h.set N (.cells [.bool false,.aa] 175 true)) (N+1) s) s.length ?_ ?_ ?_
 ·exact⟨by simp,ab.refl,s,.aa,[],by simp,rfl,h1,aS _,hd,by simp,Own.nil,Di.nil,by simp,by simp[vI,pI]⟩
 ·rintro m r ⟨H,n1,W⟩ hr hf ⟨hW,hK,cur,u,l,g0,dp,m1,m2,mV,g4,ho,gL,DU,hv⟩
  simp only at hW hK ho
  subst dp
  rw[bA]
  by_cases h9:9<cur.length
  ·have Ff:(9:Int)<(cur.length:Int):=by omega
   have eX:=hK.le
   have Fg:=Kr (s:=cur.drop (cur.length-9)) (st:=⟨H,n1,W⟩) (Oo mV _) (by simp;omega)
   have Ao:((cur.length:Int)-9).toNat=cur.length-9:=by omega
   have Cq:=yW (Oo mV (cur.length-9))
   have jx:(cur.drop (cur.length-9)).length=9:=by simp;omega
   rw[jx]at Cq
   have iB:=Zvx (cur.take (cur.length-9)) (cur.drop (cur.length-9))
   rw[yD,jx,show (10:Nat)^9=1000000000 by decide]at iB
   generalize hD:aB (cur.drop (cur.length-9))=D at*
   obtain⟨v',h',w',e1,e2,e3,e4,e5⟩:=pU (x:=[.int .i64 (D:Int)]) (u:=.slice n1 0 1 (some 1) 1) (bytes:=8) (w:=W) (ho.ae (ab.refl.new (.cells [.int .i64 (D:Int)] 3 true))) (by omega) (by decide) rfl (by simp[eC,St.row,aJ]) (by rw[z_];omega)
   rw[<-BF]at e5
   simp(disch:=first|(simp;done)|omega|rfl) [A.jd,hf,g0,g4,Ff,Ao,ay,Fg,ag,e1]
   refine⟨cur.length-9,by omega,⟨by rw[e2];exact hW,(hK.new _).then e3,cur.take (cur.length-9),v',l++[(D:Int)],by simp,by simp,by omega,by omega,Zsq mV _,by simp,e5,gL.app (Di.one (by omega) (by omega)),by simp;omega,?_⟩⟩
   rw[zV,fQ,vO,rU,<-hv]
   have Fh:((aB cur:Nat):Int)=(aB (cur.take (cur.length-9)):Nat)*1000000000+D:=by omega
   rw[Fh]
   generalize ((aB (cur.take (cur.length-9)):Nat):Int)=X
   generalize pI l.length=P
   grind
  ·have Ff:¬(9:Int)<(cur.length:Int):=by omega
   simp[A.jd,hf,g0,Ff]
   exact⟨cur.length,by omega,hW,hK,cur,u,l,by simp[g0],rfl,m1,m2,mV,by simp[g4],ho,gL,DU,hv⟩
 ·rintro _ r ⟨H,n1,W⟩ hr ⟨rfl,m,m9,hW,hK,cur,u,l,g0,dp,m1,m2,mV,g4,ho,gL,DU,hv⟩
  simp only at hW hK ho
  subst dp
  have eX:=hK.le
  have Fg:=Kr (s:=cur) (st:=⟨H,n1,W⟩) mV (by omega)
  have Cq:=yW mV
  have hp9:=LU m9
  generalize hD:aB cur=D at*
  obtain⟨v',h',w',e1,e2,e3,e4,e5⟩:=pU (x:=[.int .i64 (D:Int)]) (u:=.slice n1 0 1 (some 1) 1) (bytes:=8) (w:=W) (ho.ae (ab.refl.new (.cells [.int .i64 (D:Int)] 3 true))) (by omega) (by decide) rfl (by simp[eC,St.row,aJ]) (by rw[z_];omega)
  rw[<-BF]at e5
  simp[hr,g0,g4,Fg,ag,e1]
  have jC:Di (l++[(D:Int)]):=gL.app (Di.one (by omega) (by omega))
  refine ax (uK (b:=true) (n:=aB s) e5.sl jC (by rw[zV];exact hv) (by simp;omega)) ?_
  rintro y h5 n5 k5 hy
  have kk:=((hK.new (.cells [.int .i64 (D:Int)] 3 true)).then e3).trans k5
  have uA:=kk.le
  have mH:=kk.get N (by omega)
  simp at mH
  obtain⟨u5,rfl,x6⟩:=hy
  have ED:=fun c1 (hc:c1.length=2)=>Sl.setInt (i:=N) (c1:=c1) (e1:=175) (w1:=true) x6 mH (by intro x hx k m;simp at hx;rcases hx with rfl|rfl<;>simp) hc
  have zr:=Sl.form x6 |>.one
  unfold V.one at zr
  have ow:ad N w'=[]:=KJ (uW N) (by rw[e2];exact hW)
  have k0:=(ab.refl (h:=h) (n:=N)).new (.cells [.bool false,.aa] 175 true)
  simp[hr,mH,ag,bW,zr,aU,aJ,aA,ow]
  exact⟨(k0.trans kk).set (aS N),u5,by simp,by simpa[Dn]using ED _ rfl⟩
structure VM (h:T O) (N a:Nat) (neg:Bool) (m:Nat) (r:T V) (st:St):Prop where
 w:ad N st.w=[]
 ae:ab h N st.h st.n
 ex:∃z u l,z.natAbs=m/\m<=a/\(z<0->neg=true)/\(0<z->neg=false)/\r.get 0=some (.int .i64 z)/\r.get 3=some u/\Own 1 3 N st.h st.n u (na l)/\Di l/\vI l+pI l.length*m=a/\l.length<=100/\(m≠0->pI l.length<=a)
theorem Yah{z:Int}{h:T O}{N:Nat}(h1: -9223372036854775808<=z)(h2:z<9223372036854775808):Fn A.C 227 [.int .i64 z] h N (fun v h' n'=>Rg h' n' v z):=by
 intro w
 rw[aR,A.k227 (by simp)]
 have kB:=(ab.refl (h:=h) (n:=N)).new (.cells [.bool false,.aa] 175 true)
 simp[A.b227]
 refine bQ [(0,0),(3,3),(5,5),(8,21)] (fun e r st=>e=.exit 0/\VM (h.set N (.cells [.bool false,.aa] 175 true)) (N+1) z.natAbs (decide (z<0)) 0 r st) (VM (h.set N (.cells [.bool false,.aa] 175 true)) (N+1) z.natAbs (decide (z<0))) z.natAbs ?_ ?_ ?_
 ·exact⟨by simp,ab.refl,z,.aa,[],rfl,aS _,fun h=>by simp[h],fun h=>by simp;omega,by simp,by simp,Own.nil,Di.nil,by simp[vI,pI],by simp,fun h=>by simp[pI];omega⟩
 ·rintro m r ⟨H,n1,W⟩ hr hf ⟨hW,hK,y,u,l,rfl,hm,BZ,ft,g0,g3,ho,hd,hv,hl,hp⟩
  simp only at hW hK ho
  rw[bA]
  by_cases hy:y=0
  ·subst hy
   simp[A.lO,hf,g0]
   exact⟨hW,hK,0,u,l,rfl,by omega,BZ,ft,by simp[g0],by simp[g3],ho,hd,hv,hl,hp⟩
  ·have eX:=hK.le
   obtain⟨d,oO⟩:∃d:Nat,d=y.natAbs%1000000000:=⟨_,rfl⟩
   obtain⟨q,vn⟩:∃q:Nat,q=y.natAbs/1000000000:=⟨_,rfl⟩
   have jx:d<1000000000:=by omega
   have zm:(y.tdiv 1000000000).natAbs=q:=by rw[Int.natAbs_tdiv];exact vn.symm
   have vo:(y.tmod 1000000000).natAbs=d:=by rw[Int.natAbs_tmod];exact oO.symm
   have hqs:(y<0->y.tdiv 1000000000<=0)/\(0<y->0<=y.tdiv 1000000000):=by
    constructor
    ·intro h
     have:(-y).tdiv 1000000000= -(y.tdiv 1000000000):=Int.neg_tdiv _ _
     have h3:0<=(-y).tdiv 1000000000:=Int.tdiv_nonneg (by omega) (by omega)
     omega
    ·intro h
     exact Int.tdiv_nonneg (by omega) (by omega)
   have Nv:(y<0->y.tmod 1000000000<=0)/\(0<y->0<=y.tmod 1000000000):=by
    constructor
    ·intro h
     have:(-y).tmod 1000000000= -(y.tmod 1000000000):=Int.neg_tmod _ _
     have h3:0<=(-y).tmod 1000000000:=Int.tmod_nonneg _ (by omega)
     omega
    ·intro h
     exact Int.tmod_nonneg _ (by omega)
   generalize hyq:y.tdiv 1000000000=Y at*
   generalize hym:y.tmod 1000000000=D at*
   have w1:bn .i64 Y=Y:=cj (by omega) (by omega)
   have w2:bn .i64 (0-D)= -D:=by rw[Int.zero_sub];exact cj (by omega) (by omega)
   have w3:bn .i64 (-D)= -D:=cj (by omega) (by omega)
   have hlen:l.length+1<=100:=by
    apply Classical.byContradiction
    intro hc
    have h5:l.length=100:=by omega
    have h6:=hp (by omega)
    rw[h5,OA]at h6
    have h7:(1000000000^100:Nat)<=z.natAbs:=by exact_mod_cast h6
    have h8:(9223372036854775808:Nat)<1000000000^100:=by decide
    omega
   obtain⟨v',h',w',e1,e2,e3,e4,e5⟩:=pU (x:=[.int .i64 (d:Int)]) (u:=.slice n1 0 1 (some 1) 1) (bytes:=8) (w:=W) (ho.ae (ab.refl.new (.cells [.int .i64 (d:Int)] 3 true))) (by omega) (by decide) rfl (by simp[eC,St.row,aJ]) (by rw[z_];omega)
   rw[<-BF]at e5
   have ga:vI (l++[(d:Int)])+pI (l++[(d:Int)]).length*(q:Int)=z.natAbs:=by
    rw[zV,fQ,vO,rU,<-hv]
    have:(y.natAbs:Int)=1000000000*(q:Int)+d:=by omega
    rw[this]
    generalize pI l.length=P
    grind
   have hqa:q<y.natAbs:=by omega
   have hpp:q≠0->pI (l++[(d:Int)]).length<=z.natAbs:=fun hq=>by
    have h3:0<=vI (l++[(d:Int)]):=rV (hd.app (Di.one (by omega) (by omega)))
    have h4:0<pI (l++[(d:Int)]).length:=zU _
    have h5:pI (l++[(d:Int)]).length*1<=pI (l++[(d:Int)]).length*(q:Int):=oI (by omega) (by omega)
    omega
   have fin:VM (h.set N (.cells [.bool false,.aa] 175 true)) (N+1) z.natAbs (decide (z<0)) q ((r.set 3 v').set 0 (.int .i64 Y)) ⟨h',n1+1+1,w'⟩:=⟨by rw[e2];exact hW,(hK.new _).then e3,Y,v',l++[(d:Int)],zm,by omega,fun h=>BZ (by have:=hqs.2;omega),fun h=>ft (by have:=hqs.1;omega),by simp,by simp,e5,hd.app (Di.one (by omega) (by omega)),ga,by simp;omega,hpp⟩
   obtain⟨f1,f2,f3⟩:=fin
   by_cases hD:D<0
   ·have OE: -D=(d:Int):=by omega
    rw[OE]at w2 w3
    simp[A.lO,hf,g0,g3,hy,hyq,hym,hD,w1,w3,OE,ag,e1]
    exact⟨q,by omega,f1,f2,by simpa using f3⟩
   ·have OE:D=(d:Int):=by omega
    have hD':¬(d:Int)<0:=by omega
    simp[A.lO,hf,g0,g3,hy,hyq,hym,hD',w1,OE,ag,e1]
    exact⟨q,by omega,f1,f2,by simpa using f3⟩
 ·rintro _ r ⟨H,n1,W⟩ hr ⟨rfl,hW,hK,y,u,l,hy,hm,BZ,ft,g0,g3,ho,hd,hv,hl,hp⟩
  simp only at hW hK ho
  have h0:y=0:=by omega
  subst h0
  have iH:vI l=(z.natAbs:Nat):=by simpa using hv
  simp[hr,g3]
  refine ax (uK (n:=z.natAbs) ho.sl hd iH (by omega)) ?_
  rintro v5 h5 n5 k5 Om
  have ez:(if decide (z<0)=true then -((z.natAbs:Nat):Int) else ((z.natAbs:Nat):Int))=z:=by
   by_cases h0:z<0<;>simp[h0]<;>omega
  rw[ez]at Om
  have uA:=hK.le
  have Ev:=k5.le
  have mH:=(k5.get N (by omega)).trans (hK.get N (by omega))
  rw[T.ai,aF rfl]at mH
  obtain⟨u5,rfl,x6⟩:=Om
  have p1:=Sl.form x6 |>.one
  have p2:=Sl.form x6 |>.cells
  unfold V.one at p1
  unfold V.cells at p2
  have ow:ad N W=[]:=KJ (uW N) hW
  simp[hr,mH,ag,bW,p1,aU,aJ,aA,ow]
  exact⟨((kB.trans hK).trans k5).set (aS N),u5,by simp,Sl.setInt x6 mH im rfl⟩
theorem Zrd{z:Int}{h:T O}{N:Nat}(hl:(aK z).length<=2000000000):Fn A.C 226 [.str (aK z)] h N (fun v h' n'=>Rg h' n' v z):=by
 have h1:1<=(ak z.natAbs).length:=List.length_pos_iff.2 (GF _)
 unfold aK at hl ⊢
 by_cases hz:z<0
 ·rw[aF hz]at hl ⊢
  simp only[bh]at hl
  have e: -((aB (ak z.natAbs):Nat):Int)=z:=by rw[DW];omega
  have:=Yav (zf z.natAbs) h1 (by omega) (h:=h) (N:=N)
  rw[e]at this
  exact this
 ·rw[au hz]at hl ⊢
  have e:((aB (ak z.natAbs):Nat):Int)=z:=by rw[DW];omega
  have:=Ot (zf z.natAbs) h1 (by omega) (h:=h) (N:=N)
  rw[e]at this
  exact this
end Go.Mx
