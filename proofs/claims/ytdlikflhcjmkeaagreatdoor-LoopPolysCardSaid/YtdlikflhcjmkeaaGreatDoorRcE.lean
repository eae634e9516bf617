/-lensletref01-/
import Derived.Test.YtdlikflhcjmkeaaGreatDoorRbH
set_option linter.all false
namespace Go.Mx
noncomputable section
open Go Go.Proofs
variable {N:Nat} {a b:Int} {h:T O} {x y:V}
set_option maxRecDepth 1000000
def A.b159:=A.q Tryz.f159
def A.k159:=@A.kk 159 57 [.tmp 4] A.b159 (by kernel_rfl) rfl
def Zq9(hb:0<b):b.natAbs/Nat.gcd a.natAbs b.natAbs=(Rat.divInt a b).den:=by
 have h:((Rat.divInt a b).den:Int)=((b.natAbs/Nat.gcd a.natAbs b.natAbs:Nat):Int):=by
  rw[Rat.den_divInt,Yqe (by omega),Int.gcd_comm]
  rfl
 exact(Int.ofNat_inj.1 h).symm
def Zmu(hb:0<b):(if decide (a<0)=true then -((a.natAbs/Nat.gcd a.natAbs b.natAbs:Nat):Int) else ((a.natAbs/Nat.gcd a.natAbs b.natAbs:Nat):Int))=(Rat.divInt a b).num:=by
 rw[Rat.num_divInt,Int.sign_eq_one_of_pos hb,Int.one_mul,Int.gcd_comm]
 have hd:((Int.gcd a b:Nat):Int)∣a:=Int.gcd_dvd_left ..
 have he:Nat.gcd a.natAbs b.natAbs=Int.gcd a b:=rfl
 rw[he,Int.natCast_ediv]
 by_cases ha:a<0
 ·have h1:(a.natAbs:Int)= -a:=by omega
  simp only[ha,decide_true,if_true,h1]
  rw[Int.neg_ediv_of_dvd hd,Int.neg_neg]
 ·have h1:(a.natAbs:Int)=a:=by omega
  simp[ha,h1]
def Yb4{z:Int}:(decI z).length≤9*(ds z.natAbs).length+2:=by
 have:=Zm1 (n:=z.natAbs)
 unfold decI
 split<;>simp<;>omega
def Ygr{m e:Nat}(h0:0<m)(he:m%1000000000=e):m=1↔(ds m).length=1∧e=1:=by
 constructor
 ·rintro rfl
  exact⟨by have:=Ygq (r:=1) (by omega);rw[←this];decide,by omega⟩
 ·rintro⟨h1,h2⟩
  have h3:=Zh8 (Zb9 m)
  rw[Zbd,h1,Zo2,Nat.pow_one]at h3
  omega
def Zq7(hx:Rg h N x a)(hy:Rg h N y b)(hb:0<b)(l3:(ds a.natAbs).length<100000000000)(l4:(ds b.natAbs).length<100000000000):Fn A.C 159 [x,y] h N (fun u _ _=>u=.str (Zaq (Rat.divInt a b))):=by
 intro w
 obtain⟨u,rfl,hu0⟩:=hx
 obtain⟨v,rfl,hv0⟩:=hy
 have o1:=Sl.form hu0 |>.one
 have o2:=Sl.form hu0 |>.cells
 have o3:=Sl.form hv0 |>.one
 have o4:=Sl.form hv0 |>.cells
 unfold V.one at o1 o3
 unfold V.cells at o2 o4
 have l1:(ds a.natAbs).length<1000000000000:=by omega
 have l2:(ds b.natAbs).length<1000000000000:=by omega
 have hb':¬b<0:=by omega
 rw[show decide (b<0)=false by simp[hb']]
 have kB:=(((Keeps.refl (h:=h) (n:=N)).new (.cells [.bool (decide (a<0)),u] 144 true)).new (.cells [.bool false,v] 144 true))
 have hu:=Sl.keep hu0 kB
 have hv:=Sl.keep hv0 kB
 rw[Zab,A.k159 (by simp)]
 simp[A.b159,o1,o3,Zah]
 generalize hB:(h.set N (.cells [.bool (decide (a<0)),u] 144 true)).set (N+1) (.cells [.bool false,v] 144 true)=HB at*
 have gN:HB.get N=some (.cells [.bool (decide (a<0)),u] 144 true):=by rw[←hB];simp
 have gM:HB.get (N+1)=some (.cells [.bool false,v] 144 true):=by rw[←hB];simp
 refine Zaa (Zj0 hu hv l1 l2) ?_
 rintro v1 h1 n1 k1 q1
 have gN1:=(k1.get N (by omega)).trans gN
 have gM1:=(k1.get (N+1) (by omega)).trans gM
 have hg0:0<Nat.gcd a.natAbs b.natAbs:=Ytv _ (by omega)
 have lg:(ds (Nat.gcd a.natAbs b.natAbs)).length<1000000000000:=Yra (Zcn (Nat.gcd_le_right _ (by omega))) l2
 have le1:=k1.le
 simp[gN1,Zah]
 refine Zaa (Zl7 (hu.keep k1) q1 hg0 l1 lg) ?_
 rintro _ h2 n2 k2 ⟨q,r1,rfl,q2, -⟩
 have gM2:=(k2.get (N+1) (by omega)).trans gM1
 have le2:=k2.le
 simp[gM2,Zah]
 refine Zaa (Zl7 ((hv.keep k1).keep k2) (q1.keep k2) hg0 l2 lg) ?_
 rintro _ h3 n3 k3 ⟨d,r2,rfl,q3, -⟩
 have gN3:=(k3.get N (by omega)).trans ((k2.get N (by omega)).trans gN1)
 have le3:=k3.le
 rw[Zq9 hb]at q3
 have lq:(ds (a.natAbs/Nat.gcd a.natAbs b.natAbs)).length<100000000000:=Yra (Zcn (Yrz _ _)) l3
 have ld3:(ds (Rat.divInt a b).den).length<100000000000:=by rw[←Zq9 hb];exact Yra (Zcn (Yrz _ _)) l4
 simp[gN3,Zah]
 refine Zaa (Zby (n:=a.natAbs/Nat.gcd a.natAbs b.natAbs) (q2.keep k3) (Zb9 _) (Zbd _) (by omega)) ?_
 rintro v4 h4 n4 k4 q4
 have le4:=k4.le
 rw[Zmu hb]at q4
 simp[]
 refine Zaa (Zhh q4 (by rw[←Zmu hb];split<;>(first|rw[Ys3,Yqk]|rw[Yqk])<;>exact lq)) ?_
 rintro _ h5 n5 k5 rfl
 have le5:=k5.le
 obtain⟨m,hm⟩:∃m,(Rat.divInt a b).den=m:=⟨_,rfl⟩
 have hm0:0<m:=by rw[←hm];exact Rat.den_pos _
 rw[hm]at q3 ld3
 have hsl:=Yb4 (z:=(Rat.divInt a b).num)
 have hnl:(ds (Rat.divInt a b).num.natAbs).length<100000000000:=by rw[←Zmu hb];split<;>(first|rw[Ys3,Yqk]|rw[Yqk])<;>exact lq
 have htx:Zaq (Rat.divInt a b)=if m=1 then decI (Rat.divInt a b).num else decI (Rat.divInt a b).num++47::decN m:=by unfold Zaq;rw[hm]
 rw[htx]
 generalize decI (Rat.divInt a b).num=s at*
 have hd5:Dn h5 n5 d m:=(q3.keep k4).keep k5
 have ld:=Sl.len hd5
 rw[Zas]at ld
 have hpos:(ds m).length≠0:=fun hc=>(by omega:m≠0) (Zdo.1 (Yqw hc))
 have hg:=Zvb (i:=0) (n:=m) (by omega)
 rw[Ytj,Nat.div_one]at hg
 obtain⟨e,he⟩:∃e,m%1000000000=e:=⟨_,rfl⟩
 rw[he]at hg
 have hd1:m=1↔(ds m).length=1∧e=1:=Ygr hm0 he
 obtain⟨i,o,c,te,rw_,p1,p2,p3,p4⟩:=Sl.at hd5 (Zbf hg)
 rw[Ysh]at p4
 obtain⟨L,hL⟩:∃L,(ds m).length=L:=⟨_,rfl⟩
 rw[hL]at ld hd1
 have hdl:=Zm1 (n:=m)
 rw[hL]at hdl ld3
 have hmx:IntKind.max .i64=9223372036854775807:=rfl
 have b1:¬(9223372036854775807:Int)<(s.length:Int)+1:=by omega
 have b2:¬(9223372036854775807:Int)<(s.length:Int)+1+((decN m).length:Int):=by omega
 have hdm:decI (m:Int)=decN m:=by unfold decI;rw[Yqe (by omega),Yqk]
 have hldm:(ds m).length<1152921504606846976:=by omega
 have K5:Keeps h N h5 n5:=((((kB.trans k1).trans k2).trans k3).trans k4).trans k5
 by_cases hm1:m=1
 ·obtain⟨rfl,rfl⟩:=hd1.1 hm1
  rw[Yqi hm1]
  clear hsl hnl hdl b1 b2 hldm ld3
  simp[ld,p1,p3,p4,Ret]
  exact K5
 ·rw[Yqe hm1]
  by_cases hL1:L=1
  ·have he1:¬e=1:=fun hc=>hm1 (hd1.2 ⟨hL1,hc⟩)
   have he2:¬(e:Int)=1:=by omega
   subst hL1
   clear hsl hnl hdl
   simp[ld,p1,p3,p4,he2,Zbk,hmx,b1]
   refine Zaa (Zby (b:=false) (n:=m) hd5 (Zb9 _) (Zbd _) hldm) ?_
   rintro v6 h6 n6 k6 q6
   have q7:Rg h6 n6 v6 (m:Int):=by simpa using q6
   simp[]
   refine Zaa (Zhh q7 (by rw[Yqk,hL];exact ld3)) ?_
   rintro _ h7 n7 k7 rfl
   rw[hdm]
   simp[Zbk,hmx,b2,Ret]
   exact(K5.trans k6).trans k7
  ·have hL2:¬(L:Int)=1:=by omega
   clear hsl hnl hdl
   simp[ld,hL2,Zbk,hmx,b1]
   refine Zaa (Zby (b:=false) (n:=m) hd5 (Zb9 _) (Zbd _) hldm) ?_
   rintro v6 h6 n6 k6 q6
   have q7:Rg h6 n6 v6 (m:Int):=by simpa using q6
   simp[]
   refine Zaa (Zhh q7 (by rw[Yqk,hL];exact ld3)) ?_
   rintro _ h7 n7 k7 rfl
   rw[hdm]
   simp[Zbk,hmx,b2,Ret]
   exact(K5.trans k6).trans k7
def Zq8{P Q:Int}(hx:Rg h N x P)(hy:Rg h N y Q)(hB0:Q<0)(l3:(ds P.natAbs).length<100000000000)(l4:(ds Q.natAbs).length<100000000000):Fn A.C 159 [x,y] h N (fun u _ _=>u=.str (Zaq (Rat.divInt P Q))):=by
 intro w
 obtain⟨u0,rfl,hu0⟩:=hx
 obtain⟨v0,rfl,hv0⟩:=hy
 have o1:=Sl.form hu0 |>.one
 have o2:=Sl.form hu0 |>.cells
 have o3:=Sl.form hv0 |>.one
 have o4:=Sl.form hv0 |>.cells
 unfold V.one at o1 o3
 unfold V.cells at o2 o4
 have hx0:Rg h N (.agg [.bool (decide (P<0)),u0]) P:=⟨u0,rfl,hu0⟩
 have hy0:Rg h N (.agg [.bool true,v0]) Q:=⟨v0,by simp[hB0],hv0⟩
 rw[show decide (Q<0)=true by simp[hB0]]
 have kA:=(((Keeps.refl (h:=h) (n:=N)).new (.cells [.bool (decide (P<0)),u0] 144 true)).new (.cells [.bool true,v0] 144 true))
 rw[Zab,A.k159 (by simp)]
 simp[A.b159,o1,o3,Zah,slc]
 generalize hA:(h.set N (.cells [.bool (decide (P<0)),u0] 144 true)).set (N+1) (.cells [.bool true,v0] 144 true)=HA at*
 have gN0:HA.get N=some (.cells [.bool (decide (P<0)),u0] 144 true):=by rw[←hA];simp
 have gM0:HA.get (N+1)=some (.cells [.bool true,v0] 144 true):=by rw[←hA];simp
 refine Zaa (Zuu (hx0.keep kA) (by omega)) ?_
 rintro _ m1 t1 j1 q1
 obtain⟨a,ha⟩:∃a,a= -P:=⟨_,rfl⟩
 rw[←ha]at q1
 obtain⟨u,rfl,hu1⟩:=q1
 have i1:=j1.le
 have gN1:=(j1.get N (by omega)).trans gN0
 have gM1:=(j1.get (N+1) (by omega)).trans gM0
 simp[gM1,Zah,slc]
 refine Zaa (Zuu ((hy0.keep kA).keep j1) (by omega)) ?_
 rintro _ m2 t2 j2 q2
 obtain⟨b,hb0⟩:∃b,b= -Q:=⟨_,rfl⟩
 rw[←hb0]at q2
 have hb:0<b:=by omega
 obtain⟨v,rfl,hv2⟩:=q2
 rw[show decide (b<0)=false by simp;omega]
 have hab:Rat.divInt P Q=Rat.divInt a b:=by rw[ha,hb0];exact(Rat.neg_divInt_neg P Q).symm
 rw[hab]
 have n1:=Ylm (b:=decide (P<0)) (Sl.form hu0)
 have n2:=Ylm (b:=true) (Sl.form hv0)
 have i2:=j2.le
 have gN2:=(j2.get N (by omega)).trans gN1
 have gM2:=(j2.get (N+1) (by omega)).trans gM1
 have s1:=Sl.form hu1 |>.one
 have s2:=Sl.form hu1 |>.cells
 have s3:=Sl.form hv2 |>.one
 have s4:=Sl.form hv2 |>.cells
 unfold V.one at s1 s3
 unfold V.cells at s2 s4
 have g1:N+1<t1:=by omega
 have g2:N+1<t2:=by omega
 have g3:N<t2:=by omega
 simp[gN2,gM2,s1,s3,splice,Zal,Zah,Zam.chk,g1,g2,g3]
 have gM3:(m2.set N (.cells [.bool (decide (a<0)),u] 144 true)).get (N+1)=some (.cells [.bool true,v0] 144 true):=by rw[T.get_set,Yqe (by omega)];exact gM2
 have kB:=((((kA.trans j1).trans j2).set (i:=N) (o:=.cells [.bool (decide (a<0)),u] 144 true) (by omega))).set (i:=N+1) (o:=.cells [.bool false,v] 144 true) (by omega)
 have hu:=Sl.setInt (Sl.setInt (hu1.keep j2) gN2 n1 (c1:=[.bool (decide (a<0)),u]) (e1:=144) (w1:=true) rfl) gM3 n2 (c1:=[.bool false,v]) (e1:=144) (w1:=true) rfl
 have hv:=Sl.setInt (Sl.setInt hv2 gN2 n1 (c1:=[.bool (decide (a<0)),u]) (e1:=144) (w1:=true) rfl) gM3 n2 (c1:=[.bool false,v]) (e1:=144) (w1:=true) rfl
 generalize hB:(m2.set N (.cells [.bool (decide (a<0)),u] 144 true)).set (N+1) (.cells [.bool false,v] 144 true)=HB at*
 have gN:HB.get N=some (.cells [.bool (decide (a<0)),u] 144 true):=by rw[←hB];simp
 have gM:HB.get (N+1)=some (.cells [.bool false,v] 144 true):=by rw[←hB];simp
 have ea:a.natAbs=P.natAbs:=by omega
 have eb:b.natAbs=Q.natAbs:=by omega
 rw[←ea]at l3
 rw[←eb]at l4
 have l1:(ds a.natAbs).length<1000000000000:=by omega
 have l2:(ds b.natAbs).length<1000000000000:=by omega
 clear o1 o2 o3 o4
 have o1:=s1
 have o2:=s2
 have o3:=s3
 have o4:=s4
 clear s1 s2 s3 s4 gM3 gN2 gM2 gN1 gM1 gN0 gM0 n1 n2 hA hab
 refine Zaa (Zj0 hu hv l1 l2) ?_
 rintro v1 h1 n1 k1 q1
 have gN1:=(k1.get N (by omega)).trans gN
 have gM1:=(k1.get (N+1) (by omega)).trans gM
 have hg0:0<Nat.gcd a.natAbs b.natAbs:=Ytv _ (by omega)
 have lg:(ds (Nat.gcd a.natAbs b.natAbs)).length<1000000000000:=Yra (Zcn (Nat.gcd_le_right _ (by omega))) l2
 have le1:=k1.le
 simp[gN1,Zah]
 refine Zaa (Zl7 (hu.keep k1) q1 hg0 l1 lg) ?_
 rintro _ h2 n2 k2 ⟨q,r1,rfl,q2, -⟩
 have gM2:=(k2.get (N+1) (by omega)).trans gM1
 have le2:=k2.le
 simp[gM2,Zah]
 refine Zaa (Zl7 ((hv.keep k1).keep k2) (q1.keep k2) hg0 l2 lg) ?_
 rintro _ h3 n3 k3 ⟨d,r2,rfl,q3, -⟩
 have gN3:=(k3.get N (by omega)).trans ((k2.get N (by omega)).trans gN1)
 have le3:=k3.le
 rw[Zq9 hb]at q3
 have lq:(ds (a.natAbs/Nat.gcd a.natAbs b.natAbs)).length<100000000000:=Yra (Zcn (Yrz _ _)) l3
 have ld3:(ds (Rat.divInt a b).den).length<100000000000:=by rw[←Zq9 hb];exact Yra (Zcn (Yrz _ _)) l4
 simp[gN3,Zah]
 refine Zaa (Zby (n:=a.natAbs/Nat.gcd a.natAbs b.natAbs) (q2.keep k3) (Zb9 _) (Zbd _) (by omega)) ?_
 rintro v4 h4 n4 k4 q4
 have le4:=k4.le
 rw[Zmu hb]at q4
 simp[]
 refine Zaa (Zhh q4 (by rw[←Zmu hb];split<;>(first|rw[Ys3,Yqk]|rw[Yqk])<;>exact lq)) ?_
 rintro _ h5 n5 k5 rfl
 have le5:=k5.le
 obtain⟨m,hm⟩:∃m,(Rat.divInt a b).den=m:=⟨_,rfl⟩
 have hm0:0<m:=by rw[←hm];exact Rat.den_pos _
 rw[hm]at q3 ld3
 have hsl:=Yb4 (z:=(Rat.divInt a b).num)
 have hnl:(ds (Rat.divInt a b).num.natAbs).length<100000000000:=by rw[←Zmu hb];split<;>(first|rw[Ys3,Yqk]|rw[Yqk])<;>exact lq
 have htx:Zaq (Rat.divInt a b)=if m=1 then decI (Rat.divInt a b).num else decI (Rat.divInt a b).num++47::decN m:=by unfold Zaq;rw[hm]
 rw[htx]
 generalize decI (Rat.divInt a b).num=s at*
 have hd5:Dn h5 n5 d m:=(q3.keep k4).keep k5
 have ld:=Sl.len hd5
 rw[Zas]at ld
 have hpos:(ds m).length≠0:=fun hc=>(by omega:m≠0) (Zdo.1 (Yqw hc))
 have hg:=Zvb (i:=0) (n:=m) (by omega)
 rw[Ytj,Nat.div_one]at hg
 obtain⟨e,he⟩:∃e,m%1000000000=e:=⟨_,rfl⟩
 rw[he]at hg
 have hd1:m=1↔(ds m).length=1∧e=1:=Ygr hm0 he
 obtain⟨i,o,c,te,rw_,p1,p2,p3,p4⟩:=Sl.at hd5 (Zbf hg)
 rw[Ysh]at p4
 obtain⟨L,hL⟩:∃L,(ds m).length=L:=⟨_,rfl⟩
 rw[hL]at ld hd1
 have hdl:=Zm1 (n:=m)
 rw[hL]at hdl ld3
 have hmx:IntKind.max .i64=9223372036854775807:=rfl
 have b1:¬(9223372036854775807:Int)<(s.length:Int)+1:=by omega
 have b2:¬(9223372036854775807:Int)<(s.length:Int)+1+((decN m).length:Int):=by omega
 have hdm:decI (m:Int)=decN m:=by unfold decI;rw[Yqe (by omega),Yqk]
 have hldm:(ds m).length<1152921504606846976:=by omega
 have K5:Keeps h N h5 n5:=((((kB.trans k1).trans k2).trans k3).trans k4).trans k5
 by_cases hm1:m=1
 ·obtain⟨rfl,rfl⟩:=hd1.1 hm1
  rw[Yqi hm1]
  clear hsl hnl hdl b1 b2 hldm ld3
  simp[ld,p1,p3,p4,Ret]
  exact K5
 ·rw[Yqe hm1]
  by_cases hL1:L=1
  ·have he1:¬e=1:=fun hc=>hm1 (hd1.2 ⟨hL1,hc⟩)
   have he2:¬(e:Int)=1:=by omega
   subst hL1
   clear hsl hnl hdl
   simp[ld,p1,p3,p4,he2,Zbk,hmx,b1]
   refine Zaa (Zby (b:=false) (n:=m) hd5 (Zb9 _) (Zbd _) hldm) ?_
   rintro v6 h6 n6 k6 q6
   have q7:Rg h6 n6 v6 (m:Int):=by simpa using q6
   simp[]
   refine Zaa (Zhh q7 (by rw[Yqk,hL];exact ld3)) ?_
   rintro _ h7 n7 k7 rfl
   rw[hdm]
   simp[Zbk,hmx,b2,Ret]
   exact(K5.trans k6).trans k7
  ·have hL2:¬(L:Int)=1:=by omega
   clear hsl hnl hdl
   simp[ld,hL2,Zbk,hmx,b1]
   refine Zaa (Zby (b:=false) (n:=m) hd5 (Zb9 _) (Zbd _) hldm) ?_
   rintro v6 h6 n6 k6 q6
   have q7:Rg h6 n6 v6 (m:Int):=by simpa using q6
   simp[]
   refine Zaa (Zhh q7 (by rw[Yqk,hL];exact ld3)) ?_
   rintro _ h7 n7 k7 rfl
   rw[hdm]
   simp[Zbk,hmx,b2,Ret]
   exact(K5.trans k6).trans k7
def Zin(hx:Rg h N x a)(hy:Rg h N y b)(hb:b≠0)(l3:(ds a.natAbs).length<100000000000)(l4:(ds b.natAbs).length<100000000000):Fn A.C 159 [x,y] h N (fun u _ _=>u=.str (Zaq (Rat.divInt a b))):=by
 rcases Int.lt_or_gt_of_ne hb with hb|hb
 ·exact Zq8 hx hy hb l3 l4
 ·exact Zq7 hx hy hb l3 l4
def A.w212:=A.q Tryz.f212
def A.lb212_0:=A.ql A.w212 0 []
def A.b212:=(fun x0=>A.qb A.w212 [x0]) A.lb212_0
def A.k212:=@A.kk 212 12 [.tmp 4] A.b212 (by kernel_rfl) rfl
def Ybe{a b:Nat}{st:St}(ha:a<9223372036854775808)(hb:b<9223372036854775808):A.C.call (.func 212 [] []) [.int .i64 a,.int .i64 b] st=some (.int .i64 (Nat.gcd a b:Nat),st):=by
 apply Call.eq
 rw[Zab,A.k212 (by simp)]
 simp[A.b212]
 refine Zaj [(0,1),(5,10)] (fun e r s1=>s1=⟨st.h,st.n,[]⟩∧e=.exit 0∧r.get 0=some (.int .i64 (Nat.gcd a b:Nat))) (fun q r s1=>s1=⟨st.h,st.n,[]⟩∧q<9223372036854775808∧r.get 1=some (.int .i64 q)∧∃k:Nat,k<9223372036854775808∧r.get 0=some (.int .i64 k)∧Nat.gcd k q=Nat.gcd a b) b ?_ ?_ ?_
 ·exact⟨rfl,hb,by simp,a,ha,by simp,rfl⟩
 ·rintro q r _ hr hf ⟨rfl,hq,h1,k,hk,h0,hg⟩
  rw[Zai]
  by_cases hz:q=0
  ·subst hz
   rw[Nat.gcd_zero_right]at hg
   simp[A.lb212_0,hf,h0,h1,hg]
  ·have i1:(0:Int)<(q:Int):=by omega
   have i2:0<q:=by omega
   have i3:¬(q:Int)=0:=by omega
   have t1:(k:Int).tmod q=((k%q:Nat):Int):=by rw[Yr3 (by omega)];omega
   have t2:Zao .i64 ((k%q:Nat):Int)=((k%q:Nat):Int):=Zag (by omega) (by have:=Yri k i2;omega)
   have hlt:=Yri k i2
   simp[A.lb212_0,hf,h0,h1,i2,hz,t1,Zam.chk]
   exact⟨k%q,hlt,by omega,by simp,q,hq,rfl,by rw[←hg,Nat.gcd_comm k q,Nat.gcd_rec q k,Nat.gcd_comm]⟩
 ·rintro _ r _ hr ⟨rfl,rfl,h0⟩
  simp[h0]
def A.b158:=A.q Tryz.f158
def A.k158:=@A.kk 158 61 [.tmp 4] A.b158 (by kernel_rfl) rfl
def Zkz{z:Int}:Ycy [.int .i64 z,.int .i64 (-z)]=some (.int .i64 (z.natAbs:Nat)):=by
 have h:Ycy [.int .i64 z,.int .i64 (-z)]=some (.int .i64 (if z< -z then -z else z)):=rfl
 rw[h]
 congr 2
 split<;>omega
def Ygp{a:Int}{m:Nat}(hm:0<m):(Rat.divInt a m).num=a.tdiv (Nat.gcd a.natAbs m:Nat)∧(Rat.divInt a m).num.natAbs≤a.natAbs∧(Rat.divInt a m).den=m/Nat.gcd a.natAbs m:=by
 have hb:(0:Int)<(m:Int):=by omega
 have h1:=Zmu (a:=a) hb
 have h2:=Zq9 (a:=a) hb
 rw[Yqk]at h1 h2
 have hd:((Nat.gcd a.natAbs m:Nat):Int)∣a:=Int.gcd_dvd_left (a:=a) (b:=(m:Int))
 refine⟨?_,?_,h2.symm⟩
 ·rw[Int.tdiv_eq_ediv_of_dvd hd,Rat.num_divInt,Int.sign_eq_one_of_pos hb,Int.one_mul,Int.gcd_comm]
  rfl
 ·rw[←h1]
  have:=Yrz a.natAbs (Nat.gcd a.natAbs m)
  generalize a.natAbs/Nat.gcd a.natAbs m=k at*
  split
  ·rw[Ys3,Yqk];exact this
  ·rw[Yqk];exact this
def Ylj{a:Int}{m:Nat}{st:St}(hm:0<m)(h1: -4000000000000000000≤a)(h2:a≤4000000000000000000)(h3:m≤4000000000000000000):A.C.call (.func 158 [] []) [.int .i64 a,.int .i64 m] st=some (.str (Zaq (Rat.divInt a m)),st):=by
 apply Call.eq
 rw[Zab,A.k158 (by simp)]
 have c1:¬a< -4000000000000000000:=by omega
 have c2:¬4000000000000000000<a:=by omega
 have c3:¬(m:Int)< -4000000000000000000:=by omega
 have c4:¬4000000000000000000<(m:Int):=by omega
 have c5:¬(m:Int)<0:=by omega
 have w1:Zao .i64 (-a)= -a:=Zag (by omega) (by omega)
 have w2:Zao .i64 (0-a)= -a:=by rw[Int.zero_sub];exact w1
 have hg:=fun st=>Ybe (a:=a.natAbs) (b:=m) (st:=st) (by omega) (by omega)
 obtain⟨e1,e2,e3⟩:=Ygp (a:=a) hm
 have hD0:0<(Rat.divInt a m).den:=Rat.den_pos _
 have htx:Zaq (Rat.divInt a m)=if (Rat.divInt a m).den=1 then decI (Rat.divInt a m).num else decI (Rat.divInt a m).num++47::decN (Rat.divInt a m).den:=rfl
 rw[htx]
 clear htx
 have hgp:0<Nat.gcd a.natAbs m:=Ytv _ hm
 generalize (Rat.divInt a m).num=P at*
 generalize (Rat.divInt a m).den=D at*
 generalize Nat.gcd a.natAbs m=g at*
 have hDm:D≤m:=by rw[e3];exact Yrz _ _
 have e4:(m:Int).tdiv (g:Int)=(D:Int):=by rw[Yrk (by omega),e3];rfl
 have g0:¬(g:Int)=0:=by omega
 have g1:¬g=0:=by omega
 have v1:Zao .i64 P=P:=Zag (by omega) (by omega)
 have v2:Zao .i64 (-P)= -P:=Zag (by omega) (by omega)
 have v3:Zao .i64 (D:Int)=(D:Int):=Zag (by omega) (by omega)
 have d1:∀st,A.C.call (.func 213 [] []) [.int .i64 (P.natAbs:Nat),.int .i64 1] st=some (.str (decN P.natAbs),st):=fun st=>(Zdy (n:=P.natAbs) (m:=1) (st:=st) (by omega) (by omega)).trans (by rw[Zjx])
 have d2:∀st,A.C.call (.func 213 [] []) [.int .i64 D,.int .i64 1] st=some (.str (decN D),st):=fun st=>(Zdy (n:=D) (m:=1) (st:=st) (by omega) (by omega)).trans (by rw[Zjx])
 have x1:(decN P.natAbs).length<30:=by
  have:(Zcx P.natAbs).length≤19:=Zay.1 (by omega)
  unfold decN;split<;>simp;omega
 have x2:(decN D).length<30:=by
  have:(Zcx D).length≤19:=Zay.1 (by omega)
  unfold decN;split<;>simp;omega
 have hmx:IntKind.max .i64=9223372036854775807:=rfl
 have y1:¬(9223372036854775807:Int)<((decN P.natAbs).length:Int):=by omega
 have y2:¬(9223372036854775807:Int)<1+((decN P.natAbs).length:Int):=by omega
 have z1:D=1∨(¬D=1∧1<D):=by omega
 rcases z1 with rfl|⟨z1,z2⟩<;>by_cases hP:P<0
 ·simp[A.b158,c1,c2,c3,c4,c5,w1,Zf2,Zkz,hg,←e1,e4,g1,v1,v2,hP,d1,Zbk,hmx,y2,decI,Zam.chk]
 ·simp[A.b158,c1,c2,c3,c4,c5,w1,Zf2,Zkz,hg,←e1,e4,g1,v1,v2,hP,d1,Zbk,hmx,y1,decI,Zam.chk]
 ·have z3:(1:Int)<(D:Int):=by omega
  have y3:¬(9223372036854775807:Int)<((decN P.natAbs).length:Int)+1+1:=by omega
  have y4:¬(9223372036854775807:Int)<((decN P.natAbs).length:Int)+1+1+((decN D).length:Int):=by omega
  simp[A.b158,c1,c2,c3,c4,c5,w1,Zf2,Zkz,hg,←e1,e4,g1,v1,v2,v3,hP,d1,d2,Zbk,hmx,y2,decI,Zam.chk,z1,z3,y3,y4]
 ·have z3:(1:Int)<(D:Int):=by omega
  have y3:¬(9223372036854775807:Int)<((decN P.natAbs).length:Int)+1:=by omega
  have y4:¬(9223372036854775807:Int)<((decN P.natAbs).length:Int)+1+((decN D).length:Int):=by omega
  simp[A.b158,c1,c2,c3,c4,c5,w1,Zf2,Zkz,hg,←e1,e4,g1,v1,v2,v3,hP,d1,d2,Zbk,hmx,y1,decI,Zam.chk,z1,z3,y3,y4]
def Ylk{p q:Int}{st:St}(hq:q<0)(h1: -4000000000000000000≤p)(h2:p≤4000000000000000000)(h3: -4000000000000000000≤q):A.C.call (.func 158 [] []) [.int .i64 p,.int .i64 q] st=some (.str (Zaq (Rat.divInt p q)),st):=by
 apply Call.eq
 rw[Zab,A.k158 (by simp)]
 have c1:¬p< -4000000000000000000:=by omega
 have c2:¬4000000000000000000<p:=by omega
 have c3:¬q< -4000000000000000000:=by omega
 have c4:¬4000000000000000000<q:=by omega
 obtain⟨a,ha⟩:∃a,a= -p:=⟨_,rfl⟩
 obtain⟨m,hm1⟩:∃m:Nat,(m:Int)= -q:=⟨(-q).toNat,by omega⟩
 have hm:0<m:=by omega
 have c5:Zao .i64 (-p)=a:=by rw[←ha];exact Zag (by omega) (by omega)
 have c6:Zao .i64 (-q)=(m:Int):=by rw[←hm1];exact Zag (by omega) (by omega)
 have hab:Rat.divInt p q=Rat.divInt a m:=by rw[ha,hm1];exact(Rat.neg_divInt_neg p q).symm
 rw[hab]
 clear hab
 have w1:Zao .i64 (-a)= -a:=Zag (by omega) (by omega)
 have w2:Zao .i64 (0-a)= -a:=by rw[Int.zero_sub];exact w1
 have hg:=fun st=>Ybe (a:=a.natAbs) (b:=m) (st:=st) (by omega) (by omega)
 obtain⟨e1,e2,e3⟩:=Ygp (a:=a) hm
 have hD0:0<(Rat.divInt a m).den:=Rat.den_pos _
 have htx:Zaq (Rat.divInt a m)=if (Rat.divInt a m).den=1 then decI (Rat.divInt a m).num else decI (Rat.divInt a m).num++47::decN (Rat.divInt a m).den:=rfl
 rw[htx]
 clear htx
 have hgp:0<Nat.gcd a.natAbs m:=Ytv _ hm
 generalize (Rat.divInt a m).num=P at*
 generalize (Rat.divInt a m).den=D at*
 generalize Nat.gcd a.natAbs m=g at*
 have hDm:D≤m:=by rw[e3];exact Yrz _ _
 have e4:(m:Int).tdiv (g:Int)=(D:Int):=by rw[Yrk (by omega),e3];rfl
 have g0:¬(g:Int)=0:=by omega
 have g1:¬g=0:=by omega
 have v1:Zao .i64 P=P:=Zag (by omega) (by omega)
 have v2:Zao .i64 (-P)= -P:=Zag (by omega) (by omega)
 have v3:Zao .i64 (D:Int)=(D:Int):=Zag (by omega) (by omega)
 have d1:∀st,A.C.call (.func 213 [] []) [.int .i64 (P.natAbs:Nat),.int .i64 1] st=some (.str (decN P.natAbs),st):=fun st=>(Zdy (n:=P.natAbs) (m:=1) (st:=st) (by omega) (by omega)).trans (by rw[Zjx])
 have d2:∀st,A.C.call (.func 213 [] []) [.int .i64 D,.int .i64 1] st=some (.str (decN D),st):=fun st=>(Zdy (n:=D) (m:=1) (st:=st) (by omega) (by omega)).trans (by rw[Zjx])
 have x1:(decN P.natAbs).length<30:=by
  have:(Zcx P.natAbs).length≤19:=Zay.1 (by omega)
  unfold decN;split<;>simp;omega
 have x2:(decN D).length<30:=by
  have:(Zcx D).length≤19:=Zay.1 (by omega)
  unfold decN;split<;>simp;omega
 have hmx:IntKind.max .i64=9223372036854775807:=rfl
 have y1:¬(9223372036854775807:Int)<((decN P.natAbs).length:Int):=by omega
 have y2:¬(9223372036854775807:Int)<1+((decN P.natAbs).length:Int):=by omega
 have z1:D=1∨(¬D=1∧1<D):=by omega
 rcases z1 with rfl|⟨z1,z2⟩<;>by_cases hP:P<0
 ·simp[A.b158,c1,c2,c3,c4,c5,c6,hq,w1,Zf2,Zkz,hg,←e1,e4,g1,v1,v2,hP,d1,Zbk,hmx,y2,decI,Zam.chk]
 ·simp[A.b158,c1,c2,c3,c4,c5,c6,hq,w1,Zf2,Zkz,hg,←e1,e4,g1,v1,v2,hP,d1,Zbk,hmx,y1,decI,Zam.chk]
 ·have z3:(1:Int)<(D:Int):=by omega
  have y3:¬(9223372036854775807:Int)<((decN P.natAbs).length:Int)+1+1:=by omega
  have y4:¬(9223372036854775807:Int)<((decN P.natAbs).length:Int)+1+1+((decN D).length:Int):=by omega
  simp[A.b158,c1,c2,c3,c4,c5,c6,hq,w1,Zf2,Zkz,hg,←e1,e4,g1,v1,v2,v3,hP,d1,d2,Zbk,hmx,y2,decI,Zam.chk,z1,z3,y3,y4]
 ·have z3:(1:Int)<(D:Int):=by omega
  have y3:¬(9223372036854775807:Int)<((decN P.natAbs).length:Int)+1:=by omega
  have y4:¬(9223372036854775807:Int)<((decN P.natAbs).length:Int)+1+((decN D).length:Int):=by omega
  simp[A.b158,c1,c2,c3,c4,c5,c6,hq,w1,Zf2,Zkz,hg,←e1,e4,g1,v1,v2,v3,hP,d1,d2,Zbk,hmx,y1,decI,Zam.chk,z1,z3,y3,y4]
def Yll{p q:Int}{st:St}(hq:q≠0)(h1: -4000000000000000000≤p)(h2:p≤4000000000000000000)(h3: -4000000000000000000≤q)(h4:q≤4000000000000000000):A.C.call (.func 158 [] []) [.int .i64 p,.int .i64 q] st=some (.str (Zaq (Rat.divInt p q)),st):=by
 rcases Int.lt_or_gt_of_ne hq with hq|hq
 ·exact Ylk hq h1 h2 h3
 ·obtain⟨m,rfl⟩:∃m:Nat,q=(m:Int):=⟨q.toNat,by omega⟩
  exact Ylj (by omega) h1 h2 (by omega)
def A.w181:=A.q Tryz.f181
def A.lb181_0:=A.ql A.w181 0 []
def A.b181:=(fun x0=>A.qb A.w181 [x0]) A.lb181_0
def A.k181:=@A.kk 181 25 [.cell 2 (some 2)] A.b181 (by kernel_rfl) rfl
def Zzp{s:Str}(hd:Zb8 s=true)(h1:1≤s.length)(h2:s.length≤3000000000){h:T O}{N:Nat}:Fn A.C 180 [.str (45::s)] h N (fun v h' n'=>Rg h' n' v (-((numV s:Nat):Int))):=by
 intro w
 have a1:u8I 45=45:=rfl
 have a2:(1:Int)≤(s.length:Int)+1:=by omega
 have a3:∀st:St,Zb4 st (some (.str (45::s))) (some (some (.int .i64 1))) (some none)=some (.str s,st):=fun st=>by rw[Zcj (by omega) (by simp only[Yqd];omega)];rfl
 rw[Zab,A.k180 (by simp)]
 simp[A.b180,a1,a3,evOpt]
 refine Zaj [(0,0),(4,4),(16,32)] (fun e r st=>e=.exit 0∧∃m,m≤9∧PsI (h.set N (.cells [.bool false,.nilslice] 144 true)) (N+1) s m r st) (PsI (h.set N (.cells [.bool false,.nilslice] 144 true)) (N+1) s) s.length ?_ ?_ ?_
 ·exact⟨by simp,Keeps.refl,s,.nilslice,[],by simp,rfl,h1,Yqg _,hd,by simp,Own.nil,Di.nil,by simp,by simp[vI,pI]⟩
 ·rintro m r ⟨H,n1,W⟩ hr hf ⟨hW,hK,cur,u,l,g0,hcl,m1,m2,hcd,g4,ho,hdi,hll,hv⟩
  simp only at hW hK ho
  subst hcl
  rw[Zai]
  by_cases h9:9<cur.length
  ·have h9':(9:Int)<(cur.length:Int):=by omega
   have nle:=hK.le
   have hvd:=Zi2 (s:=cur.drop (cur.length-9)) (st:=⟨H,n1,W⟩) (Zj5 hcd _) (by simp;omega)
   have hcn:((cur.length:Int)-9).toNat=cur.length-9:=by omega
   have hnv:=Zd4 (Zj5 hcd (cur.length-9))
   have hdl:(cur.drop (cur.length-9)).length=9:=by simp;omega
   rw[hdl]at hnv
   have hsp:=Zup (cur.take (cur.length-9)) (cur.drop (cur.length-9))
   rw[Yr0,hdl,show (10:Nat)^9=1000000000 by decide]at hsp
   generalize hD:numV (cur.drop (cur.length-9))=D at*
   obtain⟨v',h',w',e1,e2,e3,e4,e5⟩:=Zbw (x:=[.int .i64 (D:Int)]) (u:=.slice n1 0 1 (some 1) 1) (bytes:=8) (w:=W) (ho.keep (Keeps.refl.new (.cells [.int .i64 (D:Int)] 3 true))) (by omega) (by decide) rfl (by simp[Zbc,St.row,slc]) (by rw[Zdj];omega)
   rw[←Zdb]at e5
   simp(disch:=first|(simp;done)|omega|rfl) [A.lb180_0,hf,g0,g4,h9',hcn,evOpt,hvd,splice,e1]
   refine⟨cur.length-9,by omega,⟨by rw[e2];exact hW,(hK.new _).then e3,cur.take (cur.length-9),v',l++[(D:Int)],by simp,by simp,by omega,by omega,Zrq hcd _,by simp,e5,hdi.app (Di.one (by omega) (by omega)),by simp;omega,?_⟩⟩
   rw[Zfs,Yqr,Yrw,Zc1,←hv]
   have hsp':((numV cur:Nat):Int)=(numV (cur.take (cur.length-9)):Nat)*1000000000+D:=by omega
   rw[hsp']
   generalize ((numV (cur.take (cur.length-9)):Nat):Int)=X
   generalize pI l.length=P
   grind
  ·have h9':¬(9:Int)<(cur.length:Int):=by omega
   simp[A.lb180_0,hf,g0,h9']
   exact⟨cur.length,by omega,hW,hK,cur,u,l,by simp[g0],rfl,m1,m2,hcd,by simp[g4],ho,hdi,hll,hv⟩
 ·rintro _ r ⟨H,n1,W⟩ hr ⟨rfl,m,m9,hW,hK,cur,u,l,g0,hcl,m1,m2,hcd,g4,ho,hdi,hll,hv⟩
  simp only at hW hK ho
  subst hcl
  have nle:=hK.le
  have hvd:=Zi2 (s:=cur) (st:=⟨H,n1,W⟩) hcd (by omega)
  have hnv:=Zd4 hcd
  have hp9:=Zuk m9
  generalize hD:numV cur=D at*
  obtain⟨v',h',w',e1,e2,e3,e4,e5⟩:=Zbw (x:=[.int .i64 (D:Int)]) (u:=.slice n1 0 1 (some 1) 1) (bytes:=8) (w:=W) (ho.keep (Keeps.refl.new (.cells [.int .i64 (D:Int)] 3 true))) (by omega) (by decide) rfl (by simp[Zbc,St.row,slc]) (by rw[Zdj];omega)
  rw[←Zdb]at e5
  simp[hr,g0,g4,hvd,splice,e1]
  have hdi2:Di (l++[(D:Int)]):=hdi.app (Di.one (by omega) (by omega))
  refine Zaa (Zby (b:=true) (n:=numV s) e5.sl hdi2 (by rw[Zfs];exact hv) (by simp;omega)) ?_
  rintro y h5 n5 k5 hy
  have kk:=((hK.new (.cells [.int .i64 (D:Int)] 3 true)).then e3).trans k5
  have kle:=kk.le
  have nrow:=kk.get N (by omega)
  simp at nrow
  obtain⟨u5,rfl,hu5⟩:=hy
  have hu6:=fun c1 (hc:c1.length=2)=>Sl.setInt (i:=N) (c1:=c1) (e1:=144) (w1:=true) hu5 nrow (by intro x hx k m;simp at hx;rcases hx with rfl|rfl<;>simp) hc
  have huo:=Sl.form hu5 |>.one
  unfold V.one at huo
  have ow:Zac N w'=[]:=Zgw (Ytb N) (by rw[e2];exact hW)
  have k0:=(Keeps.refl (h:=h) (n:=N)).new (.cells [.bool false,.nilslice] 144 true)
  simp[hr,nrow,splice,Zal,huo,Zah,slc,Ret,ow]
  exact⟨(k0.trans kk).set (Yqg N),u5,by simp,by simpa[Dn]using hu6 _ rfl⟩
structure WhI (h:T O) (N a:Nat) (neg:Bool) (m:Nat) (r:T V) (st:St):Prop where
 w:Zac N st.w=[]
 keep:Keeps h N st.h st.n
 ex:∃z u l,z.natAbs=m∧m≤a∧(z<0→neg=true)∧(0<z→neg=false)∧r.get 0=some (.int .i64 z)∧r.get 3=some u∧Own 1 3 N st.h st.n u (Ze7 l)∧Di l∧vI l+pI l.length*m=a∧l.length≤100∧(m≠0→pI l.length≤a)
def Zy9{z:Int}{h:T O}{N:Nat}(h1: -9223372036854775808≤z)(h2:z<9223372036854775808):Fn A.C 181 [.int .i64 z] h N (fun v h' n'=>Rg h' n' v z):=by
 intro w
 rw[Zab,A.k181 (by simp)]
 have kB:=(Keeps.refl (h:=h) (n:=N)).new (.cells [.bool false,.nilslice] 144 true)
 simp[A.b181]
 refine Zaj [(0,0),(3,3),(5,5),(8,21)] (fun e r st=>e=.exit 0∧WhI (h.set N (.cells [.bool false,.nilslice] 144 true)) (N+1) z.natAbs (decide (z<0)) 0 r st) (WhI (h.set N (.cells [.bool false,.nilslice] 144 true)) (N+1) z.natAbs (decide (z<0))) z.natAbs ?_ ?_ ?_
 ·exact⟨by simp,Keeps.refl,z,.nilslice,[],rfl,Yqg _,fun h=>by simp[h],fun h=>by simp;omega,by simp,by simp,Own.nil,Di.nil,by simp[vI,pI],by simp,fun h=>by simp[pI];omega⟩
 ·rintro m r ⟨H,n1,W⟩ hr hf ⟨hW,hK,y,u,l,rfl,hm,hn1,hn2,g0,g3,ho,hd,hv,hl,hp⟩
  simp only at hW hK ho
  rw[Zai]
  by_cases hy:y=0
  ·subst hy
   simp[A.lb181_0,hf,g0]
   exact⟨hW,hK,0,u,l,rfl,by omega,hn1,hn2,by simp[g0],by simp[g3],ho,hd,hv,hl,hp⟩
  ·have nle:=hK.le
   obtain⟨d,hd0⟩:∃d:Nat,d=y.natAbs%1000000000:=⟨_,rfl⟩
   obtain⟨q,hq0⟩:∃q:Nat,q=y.natAbs/1000000000:=⟨_,rfl⟩
   have hdl:d<1000000000:=by omega
   have hdv:(y.tdiv 1000000000).natAbs=q:=by rw[Int.natAbs_tdiv];exact hq0.symm
   have hml:(y.tmod 1000000000).natAbs=d:=by rw[Int.natAbs_tmod];exact hd0.symm
   have hqs:(y<0→y.tdiv 1000000000≤0)∧(0<y→0≤y.tdiv 1000000000):=by
    constructor
    ·intro h
     have:(-y).tdiv 1000000000= -(y.tdiv 1000000000):=Int.neg_tdiv _ _
     have h3:0≤(-y).tdiv 1000000000:=Int.tdiv_nonneg (by omega) (by omega)
     omega
    ·intro h
     exact Int.tdiv_nonneg (by omega) (by omega)
   have hms:(y<0→y.tmod 1000000000≤0)∧(0<y→0≤y.tmod 1000000000):=by
    constructor
    ·intro h
     have:(-y).tmod 1000000000= -(y.tmod 1000000000):=Int.neg_tmod _ _
     have h3:0≤(-y).tmod 1000000000:=Int.tmod_nonneg _ (by omega)
     omega
    ·intro h
     exact Int.tmod_nonneg _ (by omega)
   generalize hyq:y.tdiv 1000000000=Y at*
   generalize hym:y.tmod 1000000000=D at*
   have w1:Zao .i64 Y=Y:=Zag (by omega) (by omega)
   have w2:Zao .i64 (0-D)= -D:=by rw[Int.zero_sub];exact Zag (by omega) (by omega)
   have w3:Zao .i64 (-D)= -D:=Zag (by omega) (by omega)
   have hlen:l.length+1≤100:=by
    apply Classical.byContradiction
    intro hc
    have h5:l.length=100:=by omega
    have h6:=hp (by omega)
    rw[h5,Zo2]at h6
    have h7:(1000000000^100:Nat)≤z.natAbs:=by exact_mod_cast h6
    have h8:(9223372036854775808:Nat)<1000000000^100:=by decide
    omega
   obtain⟨v',h',w',e1,e2,e3,e4,e5⟩:=Zbw (x:=[.int .i64 (d:Int)]) (u:=.slice n1 0 1 (some 1) 1) (bytes:=8) (w:=W) (ho.keep (Keeps.refl.new (.cells [.int .i64 (d:Int)] 3 true))) (by omega) (by decide) rfl (by simp[Zbc,St.row,slc]) (by rw[Zdj];omega)
   rw[←Zdb]at e5
   have hval:vI (l++[(d:Int)])+pI (l++[(d:Int)]).length*(q:Int)=z.natAbs:=by
    rw[Zfs,Yqr,Yrw,Zc1,←hv]
    have:(y.natAbs:Int)=1000000000*(q:Int)+d:=by omega
    rw[this]
    generalize pI l.length=P
    grind
   have hqa:q<y.natAbs:=by omega
   have hpp:q≠0→pI (l++[(d:Int)]).length≤z.natAbs:=fun hq=>by
    have h3:0≤vI (l++[(d:Int)]):=Zh7 (hd.app (Di.one (by omega) (by omega)))
    have h4:0<pI (l++[(d:Int)]).length:=Zjk _
    have h5:pI (l++[(d:Int)]).length*1≤pI (l++[(d:Int)]).length*(q:Int):=Yqt (by omega) (by omega)
    omega
   have fin:WhI (h.set N (.cells [.bool false,.nilslice] 144 true)) (N+1) z.natAbs (decide (z<0)) q ((r.set 3 v').set 0 (.int .i64 Y)) ⟨h',n1+1+1,w'⟩:=⟨by rw[e2];exact hW,(hK.new _).then e3,Y,v',l++[(d:Int)],hdv,by omega,fun h=>hn1 (by have:=hqs.2;omega),fun h=>hn2 (by have:=hqs.1;omega),by simp,by simp,e5,hd.app (Di.one (by omega) (by omega)),hval,by simp;omega,hpp⟩
   obtain⟨f1,f2,f3⟩:=fin
   by_cases hD:D<0
   ·have hDd: -D=(d:Int):=by omega
    rw[hDd]at w2 w3
    simp[A.lb181_0,hf,g0,g3,hy,hyq,hym,hD,w1,w3,hDd,splice,e1]
    exact⟨q,by omega,f1,f2,by simpa using f3⟩
   ·have hDd:D=(d:Int):=by omega
    have hD':¬(d:Int)<0:=by omega
    simp[A.lb181_0,hf,g0,g3,hy,hyq,hym,hD',w1,hDd,splice,e1]
    exact⟨q,by omega,f1,f2,by simpa using f3⟩
 ·rintro _ r ⟨H,n1,W⟩ hr ⟨rfl,hW,hK,y,u,l,hy,hm,hn1,hn2,g0,g3,ho,hd,hv,hl,hp⟩
  simp only at hW hK ho
  have h0:y=0:=by omega
  subst h0
  have hv2:vI l=(z.natAbs:Nat):=by simpa using hv
  simp[hr,g3]
  refine Zaa (Zby (n:=z.natAbs) ho.sl hd hv2 (by omega)) ?_
  rintro v5 h5 n5 k5 hy5
  have ez:(if decide (z<0)=true then -((z.natAbs:Nat):Int) else ((z.natAbs:Nat):Int))=z:=by
   by_cases h0:z<0<;>simp[h0]<;>omega
  rw[ez]at hy5
  have kle:=hK.le
  have kle5:=k5.le
  have nrow:=(k5.get N (by omega)).trans (hK.get N (by omega))
  rw[T.get_set,Yqi rfl]at nrow
  obtain⟨u5,rfl,hu5⟩:=hy5
  have p1:=Sl.form hu5 |>.one
  have p2:=Sl.form hu5 |>.cells
  unfold V.one at p1
  unfold V.cells at p2
  have ow:Zac N W=[]:=Zgw (Ytb N) hW
  simp[hr,nrow,splice,Zal,p1,Zah,slc,Ret,ow]
  exact⟨((kB.trans hK).trans k5).set (Yqg N),u5,by simp,Sl.setInt hu5 nrow nint rfl⟩
def Zqd{z:Int}{h:T O}{N:Nat}(hl:(decI z).length≤2000000000):Fn A.C 180 [.str (decI z)] h N (fun v h' n'=>Rg h' n' v z):=by
 have h1:1≤(decN z.natAbs).length:=List.length_pos_iff.2 (Zkn _)
 unfold decI at hl ⊢
 by_cases hz:z<0
 ·rw[Yqi hz]at hl ⊢
  simp only[Yqd]at hl
  have e: -((numV (decN z.natAbs):Nat):Int)=z:=by rw[Zey];omega
  have:=Zzp (Zcz z.natAbs) h1 (by omega) (h:=h) (N:=N)
  rw[e]at this
  exact this
 ·rw[Yqe hz]at hl ⊢
  have e:((numV (decN z.natAbs):Nat):Int)=z:=by rw[Zey];omega
  have:=Zlj (Zcz z.natAbs) h1 (by omega) (h:=h) (N:=N)
  rw[e]at this
  exact this
end
end Go.Mx
