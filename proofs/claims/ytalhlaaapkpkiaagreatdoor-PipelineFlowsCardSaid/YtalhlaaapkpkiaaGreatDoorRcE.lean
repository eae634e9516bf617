/-lensletref01-/
import Derived.Test.YtalhlaaapkpkiaaGreatDoorRbH
set_option linter.all false
namespace Go.Mx
open Go Go.Proofs
variable {N:Nat} {a b:Int} {h:T O} {x y:V}
set_option maxRecDepth 1000000
noncomputable def A.b47:=A.q Tryz.f47
def A.k47:=@A.kk 47 57 [.tmp 4] A.b47 (by kernel_rfl) rfl
def Zsf(hb:0<b):b.natAbs/Nat.gcd a.natAbs b.natAbs=(Rat.divInt a b).den:=by
 have h:((Rat.divInt a b).den:Int)=((b.natAbs/Nat.gcd a.natAbs b.natAbs:Nat):Int):=by
  rw[Rat.den_divInt,Ys5 (by omega),Int.gcd_comm]
  rfl
 exact(Int.ofNat_inj.1 h).symm
def Znq(hb:0<b):(if decide (a<0)=true then -((a.natAbs/Nat.gcd a.natAbs b.natAbs:Nat):Int) else ((a.natAbs/Nat.gcd a.natAbs b.natAbs:Nat):Int))=(Rat.divInt a b).num:=by
 rw[Rat.num_divInt,Int.sign_eq_one_of_pos hb,Int.one_mul,Int.gcd_comm]
 have hd:((Int.gcd a b:Nat):Int)∣a:=Int.gcd_dvd_left ..
 have he:Nat.gcd a.natAbs b.natAbs=Int.gcd a b:=rfl
 rw[he,Int.natCast_ediv]
 by_cases ha:a<0
 ·have h1:(a.natAbs:Int)= -a:=by omega
  simp only[ha,decide_true,if_true,h1]
  rw[Int.neg_ediv_of_dvd hd,Int.neg_neg]
 ·have h1:(a.natAbs:Int)=a:=by omega
  simp[ha,h1]
def Yd3{z:Int}:(decI z).length≤9*(ds z.natAbs).length+2:=by
 have:=Znx (n:=z.natAbs)
 unfold decI
 split<;>simp<;>omega
def Yjd{m e:Nat}(h0:0<m)(he:m%1000000000=e):m=1↔(ds m).length=1∧e=1:=by
 constructor
 ·rintro rfl
  exact⟨by have:=Yjc (r:=1) (by omega);rw[←this];decide,by omega⟩
 ·rintro⟨h1,h2⟩
  have h3:=Zih (Zcd m)
  rw[Zbb,h1,Zp6,Nat.pow_one]at h3
  omega
def Zsd(hx:Rg h N x a)(hy:Rg h N y b)(hb:0<b)(l3:(ds a.natAbs).length<100000000000)(l4:(ds b.natAbs).length<100000000000):Fn A.C 47 [x,y] h N (fun u _ _=>u=.str (Zaz (Rat.divInt a b))):=by
 intro w
 obtain⟨u,rfl,hu0⟩:=hx
 obtain⟨v,rfl,hv0⟩:=hy
 have o1:=Sl.form hu0 |>.one
 have o2:=Sl.form hu0 |>.cells
 have o3:=Sl.form hv0 |>.one
 have o4:=Sl.form hv0 |>.cells
 unfold V.one at o1 o3
 unfold V.cells at o2 o4
 have l1:(ds a.natAbs).length<1000000000000:=by omega
 have l2:(ds b.natAbs).length<1000000000000:=by omega
 have hb':¬b<0:=by omega
 rw[show decide (b<0)=false by simp[hb']]
 have kB:=(((Keeps.refl (h:=h) (n:=N)).new (.cells [.bool (decide (a<0)),u] 114 true)).new (.cells [.bool false,v] 114 true))
 have hu:=Sl.keep hu0 kB
 have hv:=Sl.keep hv0 kB
 rw[Zae,A.k47 (by simp)]
 simp[A.b47,o1,o2,o3,o4,splice,Zal,slc,Zad,hb']
 generalize hB:(h.set N (.cells [.bool (decide (a<0)),u] 114 true)).set (N+1) (.cells [.bool false,v] 114 true)=HB at*
 have gN:HB.get N=some (.cells [.bool (decide (a<0)),u] 114 true):=by rw[←hB];simp
 have gM:HB.get (N+1)=some (.cells [.bool false,v] 114 true):=by rw[←hB];simp
 refine Zaf (Zkc hu hv l1 l2) ?_
 rintro v1 h1 n1 k1 q1
 have gN1:=(k1.get N (by omega)).trans gN
 have gM1:=(k1.get (N+1) (by omega)).trans gM
 have hg0:0<Nat.gcd a.natAbs b.natAbs:=Ywt _ (by omega)
 have lg:(ds (Nat.gcd a.natAbs b.natAbs)).length<1000000000000:=Yt7 (Zcw (Nat.gcd_le_right _ (by omega))) l2
 have le1:=k1.le
 simp[gN1,gM1,o1,o2,o3,o4,splice,Zal,slc]
 refine Zaf (Zm3 (hu.keep k1) q1 hg0 l1 lg) ?_
 rintro _ h2 n2 k2 ⟨q,r1,rfl,q2, -⟩
 have gM2:=(k2.get (N+1) (by omega)).trans gM1
 have le2:=k2.le
 simp[gM2,o1,o2,o3,o4,splice,Zal,slc]
 refine Zaf (Zm3 ((hv.keep k1).keep k2) (q1.keep k2) hg0 l2 lg) ?_
 rintro _ h3 n3 k3 ⟨d,r2,rfl,q3, -⟩
 have gN3:=(k3.get N (by omega)).trans ((k2.get N (by omega)).trans gN1)
 have le3:=k3.le
 rw[Zsf hb]at q3
 have lq:(ds (a.natAbs/Nat.gcd a.natAbs b.natAbs)).length<100000000000:=Yt7 (Zcw (Yuz _ _)) l3
 have ld3:(ds (Rat.divInt a b).den).length<100000000000:=by rw[←Zsf hb];exact Yt7 (Zcw (Yuz _ _)) l4
 simp[gN3,o1,o2,o3,o4,splice,Zal,slc]
 refine Zaf (Zbz (n:=a.natAbs/Nat.gcd a.natAbs b.natAbs) (q2.keep k3) (Zcd _) (Zbb _) (by omega)) ?_
 rintro v4 h4 n4 k4 q4
 have le4:=k4.le
 rw[Znq hb]at q4
 simp[]
 refine Zaf (Zhp q4 (by rw[←Znq hb];split<;>(first|rw[Yv0,Ytc]|rw[Ytc])<;>exact lq)) ?_
 rintro _ h5 n5 k5 rfl
 have le5:=k5.le
 obtain⟨m,hm⟩:∃m,(Rat.divInt a b).den=m:=⟨_,rfl⟩
 have hm0:0<m:=by rw[←hm];exact Rat.den_pos _
 rw[hm]at q3 ld3
 have hsl:=Yd3 (z:=(Rat.divInt a b).num)
 have hnl:(ds (Rat.divInt a b).num.natAbs).length<100000000000:=by rw[←Znq hb];split<;>(first|rw[Yv0,Ytc]|rw[Ytc])<;>exact lq
 have htx:Zaz (Rat.divInt a b)=if m=1 then decI (Rat.divInt a b).num else decI (Rat.divInt a b).num++47::decN m:=by unfold Zaz;rw[hm]
 rw[htx]
 generalize decI (Rat.divInt a b).num=s at*
 have hd5:Dn h5 n5 d m:=(q3.keep k4).keep k5
 have ld:=Sl.len hd5
 rw[Zas]at ld
 have hpos:(ds m).length≠0:=fun hc=>(by omega:m≠0) (Zds.1 (Ytl hc))
 have hg:=Zw0 (i:=0) (n:=m) (by omega)
 rw[Yws,Nat.div_one]at hg
 obtain⟨e,he⟩:∃e,m%1000000000=e:=⟨_,rfl⟩
 rw[he]at hg
 have hd1:m=1↔(ds m).length=1∧e=1:=Yjd hm0 he
 obtain⟨i,o,c,te,rw_,p1,p2,p3,p4⟩:=Sl.at hd5 (Zbf hg)
 rw[Yue]at p4
 obtain⟨L,hL⟩:∃L,(ds m).length=L:=⟨_,rfl⟩
 rw[hL]at ld hd1
 have hdl:=Znx (n:=m)
 rw[hL]at hdl ld3
 have hmx:IntKind.max .i64=9223372036854775807:=rfl
 have b1:¬(9223372036854775807:Int)<(s.length:Int)+1:=by omega
 have b2:¬(9223372036854775807:Int)<(s.length:Int)+1+((decN m).length:Int):=by omega
 have hdm:decI (m:Int)=decN m:=by unfold decI;rw[Ys5 (by omega),Ytc]
 have hldm:(ds m).length<1152921504606846976:=by omega
 have K5:Keeps h N h5 n5:=((((kB.trans k1).trans k2).trans k3).trans k4).trans k5
 by_cases hm1:m=1
 ·obtain⟨rfl,rfl⟩:=hd1.1 hm1
  rw[Ys8 hm1]
  clear hsl hnl hdl b1 b2 hldm ld3
  simp[ld,p1,p3,p4,splice,Ret,Zad]
  exact K5
 ·rw[Ys5 hm1]
  by_cases hL1:L=1
  ·have he1:¬e=1:=fun hc=>hm1 (hd1.2 ⟨hL1,hc⟩)
   have he2:¬(e:Int)=1:=by omega
   subst hL1
   clear hsl hnl hdl
   simp[ld,p1,p3,p4,splice,Ret,Zad,he1,he2,Zbe,hmx,b1]
   refine Zaf (Zbz (b:=false) (n:=m) hd5 (Zcd _) (Zbb _) hldm) ?_
   rintro v6 h6 n6 k6 q6
   have q7:Rg h6 n6 v6 (m:Int):=by simpa using q6
   simp[]
   refine Zaf (Zhp q7 (by rw[Ytc,hL];exact ld3)) ?_
   rintro _ h7 n7 k7 rfl
   rw[hdm]
   simp[Zbe,hmx,b2,Ret]
   exact(K5.trans k6).trans k7
  ·have hL2:¬(L:Int)=1:=by omega
   clear hsl hnl hdl
   simp[ld,hL1,hL2,splice,Ret,Zad,Zbe,hmx,b1]
   refine Zaf (Zbz (b:=false) (n:=m) hd5 (Zcd _) (Zbb _) hldm) ?_
   rintro v6 h6 n6 k6 q6
   have q7:Rg h6 n6 v6 (m:Int):=by simpa using q6
   simp[]
   refine Zaf (Zhp q7 (by rw[Ytc,hL];exact ld3)) ?_
   rintro _ h7 n7 k7 rfl
   rw[hdm]
   simp[Zbe,hmx,b2,Ret]
   exact(K5.trans k6).trans k7
def Zse{P Q:Int}(hx:Rg h N x P)(hy:Rg h N y Q)(hB0:Q<0)(l3:(ds P.natAbs).length<100000000000)(l4:(ds Q.natAbs).length<100000000000):Fn A.C 47 [x,y] h N (fun u _ _=>u=.str (Zaz (Rat.divInt P Q))):=by
 intro w
 obtain⟨u0,rfl,hu0⟩:=hx
 obtain⟨v0,rfl,hv0⟩:=hy
 have o1:=Sl.form hu0 |>.one
 have o2:=Sl.form hu0 |>.cells
 have o3:=Sl.form hv0 |>.one
 have o4:=Sl.form hv0 |>.cells
 unfold V.one at o1 o3
 unfold V.cells at o2 o4
 have hx0:Rg h N (.agg [.bool (decide (P<0)),u0]) P:=⟨u0,rfl,hu0⟩
 have hy0:Rg h N (.agg [.bool true,v0]) Q:=⟨v0,by simp[hB0],hv0⟩
 rw[show decide (Q<0)=true by simp[hB0]]
 have kA:=(((Keeps.refl (h:=h) (n:=N)).new (.cells [.bool (decide (P<0)),u0] 114 true)).new (.cells [.bool true,v0] 114 true))
 rw[Zae,A.k47 (by simp)]
 simp[A.b47,o1,o2,o3,o4,splice,Zal,slc,Zad]
 generalize hA:(h.set N (.cells [.bool (decide (P<0)),u0] 114 true)).set (N+1) (.cells [.bool true,v0] 114 true)=HA at*
 have gN0:HA.get N=some (.cells [.bool (decide (P<0)),u0] 114 true):=by rw[←hA];simp
 have gM0:HA.get (N+1)=some (.cells [.bool true,v0] 114 true):=by rw[←hA];simp
 refine Zaf (Zwj (hx0.keep kA) (by omega)) ?_
 rintro _ m1 t1 j1 q1
 obtain⟨a,ha⟩:∃a,a= -P:=⟨_,rfl⟩
 rw[←ha]at q1
 obtain⟨u,rfl,hu1⟩:=q1
 have i1:=j1.le
 have gN1:=(j1.get N (by omega)).trans gN0
 have gM1:=(j1.get (N+1) (by omega)).trans gM0
 simp[gM1,gN1,o1,o2,o3,o4,splice,Zal,slc]
 refine Zaf (Zwj ((hy0.keep kA).keep j1) (by omega)) ?_
 rintro _ m2 t2 j2 q2
 obtain⟨b,hb0⟩:∃b,b= -Q:=⟨_,rfl⟩
 rw[←hb0]at q2
 have hb:0<b:=by omega
 obtain⟨v,rfl,hv2⟩:=q2
 rw[show decide (b<0)=false by simp;omega]
 have hab:Rat.divInt P Q=Rat.divInt a b:=by rw[ha,hb0];exact(Rat.neg_divInt_neg P Q).symm
 rw[hab]
 have n1:=Yn5 (b:=decide (P<0)) (Sl.form hu0)
 have n2:=Yn5 (b:=true) (Sl.form hv0)
 have i2:=j2.le
 have gN2:=(j2.get N (by omega)).trans gN1
 have gM2:=(j2.get (N+1) (by omega)).trans gM1
 have s1:=Sl.form hu1 |>.one
 have s2:=Sl.form hu1 |>.cells
 have s3:=Sl.form hv2 |>.one
 have s4:=Sl.form hv2 |>.cells
 unfold V.one at s1 s3
 unfold V.cells at s2 s4
 have g1:N+1<t1:=by omega
 have g2:N+1<t2:=by omega
 have g3:N<t2:=by omega
 simp[gN2,gM2,s1,s2,s3,s4,splice,Zak,Zal,slc,Zan.chk,g1,g2,g3]
 have gM3:(m2.set N (.cells [.bool (decide (a<0)),u] 114 true)).get (N+1)=some (.cells [.bool true,v0] 114 true):=by rw[T.get_set,Ys5 (by omega)];exact gM2
 have kB:=((((kA.trans j1).trans j2).set (i:=N) (o:=.cells [.bool (decide (a<0)),u] 114 true) (by omega))).set (i:=N+1) (o:=.cells [.bool false,v] 114 true) (by omega)
 have hu:=Sl.setInt (Sl.setInt (hu1.keep j2) gN2 n1 (c1:=[.bool (decide (a<0)),u]) (e1:=114) (w1:=true) rfl) gM3 n2 (c1:=[.bool false,v]) (e1:=114) (w1:=true) rfl
 have hv:=Sl.setInt (Sl.setInt hv2 gN2 n1 (c1:=[.bool (decide (a<0)),u]) (e1:=114) (w1:=true) rfl) gM3 n2 (c1:=[.bool false,v]) (e1:=114) (w1:=true) rfl
 generalize hB:(m2.set N (.cells [.bool (decide (a<0)),u] 114 true)).set (N+1) (.cells [.bool false,v] 114 true)=HB at*
 have gN:HB.get N=some (.cells [.bool (decide (a<0)),u] 114 true):=by rw[←hB];simp
 have gM:HB.get (N+1)=some (.cells [.bool false,v] 114 true):=by rw[←hB];simp
 have ea:a.natAbs=P.natAbs:=by omega
 have eb:b.natAbs=Q.natAbs:=by omega
 rw[←ea]at l3
 rw[←eb]at l4
 have l1:(ds a.natAbs).length<1000000000000:=by omega
 have l2:(ds b.natAbs).length<1000000000000:=by omega
 clear o1 o2 o3 o4
 have o1:=s1
 have o2:=s2
 have o3:=s3
 have o4:=s4
 clear s1 s2 s3 s4 gM3 gN2 gM2 gN1 gM1 gN0 gM0 n1 n2 hA hab
 refine Zaf (Zkc hu hv l1 l2) ?_
 rintro v1 h1 n1 k1 q1
 have gN1:=(k1.get N (by omega)).trans gN
 have gM1:=(k1.get (N+1) (by omega)).trans gM
 have hg0:0<Nat.gcd a.natAbs b.natAbs:=Ywt _ (by omega)
 have lg:(ds (Nat.gcd a.natAbs b.natAbs)).length<1000000000000:=Yt7 (Zcw (Nat.gcd_le_right _ (by omega))) l2
 have le1:=k1.le
 simp[gN1,gM1,o1,o2,o3,o4,splice,Zal,slc]
 refine Zaf (Zm3 (hu.keep k1) q1 hg0 l1 lg) ?_
 rintro _ h2 n2 k2 ⟨q,r1,rfl,q2, -⟩
 have gM2:=(k2.get (N+1) (by omega)).trans gM1
 have le2:=k2.le
 simp[gM2,o1,o2,o3,o4,splice,Zal,slc]
 refine Zaf (Zm3 ((hv.keep k1).keep k2) (q1.keep k2) hg0 l2 lg) ?_
 rintro _ h3 n3 k3 ⟨d,r2,rfl,q3, -⟩
 have gN3:=(k3.get N (by omega)).trans ((k2.get N (by omega)).trans gN1)
 have le3:=k3.le
 rw[Zsf hb]at q3
 have lq:(ds (a.natAbs/Nat.gcd a.natAbs b.natAbs)).length<100000000000:=Yt7 (Zcw (Yuz _ _)) l3
 have ld3:(ds (Rat.divInt a b).den).length<100000000000:=by rw[←Zsf hb];exact Yt7 (Zcw (Yuz _ _)) l4
 simp[gN3,o1,o2,o3,o4,splice,Zal,slc]
 refine Zaf (Zbz (n:=a.natAbs/Nat.gcd a.natAbs b.natAbs) (q2.keep k3) (Zcd _) (Zbb _) (by omega)) ?_
 rintro v4 h4 n4 k4 q4
 have le4:=k4.le
 rw[Znq hb]at q4
 simp[]
 refine Zaf (Zhp q4 (by rw[←Znq hb];split<;>(first|rw[Yv0,Ytc]|rw[Ytc])<;>exact lq)) ?_
 rintro _ h5 n5 k5 rfl
 have le5:=k5.le
 obtain⟨m,hm⟩:∃m,(Rat.divInt a b).den=m:=⟨_,rfl⟩
 have hm0:0<m:=by rw[←hm];exact Rat.den_pos _
 rw[hm]at q3 ld3
 have hsl:=Yd3 (z:=(Rat.divInt a b).num)
 have hnl:(ds (Rat.divInt a b).num.natAbs).length<100000000000:=by rw[←Znq hb];split<;>(first|rw[Yv0,Ytc]|rw[Ytc])<;>exact lq
 have htx:Zaz (Rat.divInt a b)=if m=1 then decI (Rat.divInt a b).num else decI (Rat.divInt a b).num++47::decN m:=by unfold Zaz;rw[hm]
 rw[htx]
 generalize decI (Rat.divInt a b).num=s at*
 have hd5:Dn h5 n5 d m:=(q3.keep k4).keep k5
 have ld:=Sl.len hd5
 rw[Zas]at ld
 have hpos:(ds m).length≠0:=fun hc=>(by omega:m≠0) (Zds.1 (Ytl hc))
 have hg:=Zw0 (i:=0) (n:=m) (by omega)
 rw[Yws,Nat.div_one]at hg
 obtain⟨e,he⟩:∃e,m%1000000000=e:=⟨_,rfl⟩
 rw[he]at hg
 have hd1:m=1↔(ds m).length=1∧e=1:=Yjd hm0 he
 obtain⟨i,o,c,te,rw_,p1,p2,p3,p4⟩:=Sl.at hd5 (Zbf hg)
 rw[Yue]at p4
 obtain⟨L,hL⟩:∃L,(ds m).length=L:=⟨_,rfl⟩
 rw[hL]at ld hd1
 have hdl:=Znx (n:=m)
 rw[hL]at hdl ld3
 have hmx:IntKind.max .i64=9223372036854775807:=rfl
 have b1:¬(9223372036854775807:Int)<(s.length:Int)+1:=by omega
 have b2:¬(9223372036854775807:Int)<(s.length:Int)+1+((decN m).length:Int):=by omega
 have hdm:decI (m:Int)=decN m:=by unfold decI;rw[Ys5 (by omega),Ytc]
 have hldm:(ds m).length<1152921504606846976:=by omega
 have K5:Keeps h N h5 n5:=((((kB.trans k1).trans k2).trans k3).trans k4).trans k5
 by_cases hm1:m=1
 ·obtain⟨rfl,rfl⟩:=hd1.1 hm1
  rw[Ys8 hm1]
  clear hsl hnl hdl b1 b2 hldm ld3
  simp[ld,p1,p3,p4,splice,Ret,Zad]
  exact K5
 ·rw[Ys5 hm1]
  by_cases hL1:L=1
  ·have he1:¬e=1:=fun hc=>hm1 (hd1.2 ⟨hL1,hc⟩)
   have he2:¬(e:Int)=1:=by omega
   subst hL1
   clear hsl hnl hdl
   simp[ld,p1,p3,p4,splice,Ret,Zad,he1,he2,Zbe,hmx,b1]
   refine Zaf (Zbz (b:=false) (n:=m) hd5 (Zcd _) (Zbb _) hldm) ?_
   rintro v6 h6 n6 k6 q6
   have q7:Rg h6 n6 v6 (m:Int):=by simpa using q6
   simp[]
   refine Zaf (Zhp q7 (by rw[Ytc,hL];exact ld3)) ?_
   rintro _ h7 n7 k7 rfl
   rw[hdm]
   simp[Zbe,hmx,b2,Ret]
   exact(K5.trans k6).trans k7
  ·have hL2:¬(L:Int)=1:=by omega
   clear hsl hnl hdl
   simp[ld,hL1,hL2,splice,Ret,Zad,Zbe,hmx,b1]
   refine Zaf (Zbz (b:=false) (n:=m) hd5 (Zcd _) (Zbb _) hldm) ?_
   rintro v6 h6 n6 k6 q6
   have q7:Rg h6 n6 v6 (m:Int):=by simpa using q6
   simp[]
   refine Zaf (Zhp q7 (by rw[Ytc,hL];exact ld3)) ?_
   rintro _ h7 n7 k7 rfl
   rw[hdm]
   simp[Zbe,hmx,b2,Ret]
   exact(K5.trans k6).trans k7
def Znp(hx:Rg h N x a)(hy:Rg h N y b)(hb:b≠0)(l3:(ds a.natAbs).length<100000000000)(l4:(ds b.natAbs).length<100000000000):Fn A.C 47 [x,y] h N (fun u _ _=>u=.str (Zaz (Rat.divInt a b))):=by
 rcases Int.lt_or_gt_of_ne hb with hb|hb
 ·exact Zse hx hy hb l3 l4
 ·exact Zsd hx hy hb l3 l4
noncomputable def A.w90:=A.q Tryz.f90
noncomputable def A.lb90_0:=A.ql A.w90 0 []
noncomputable def A.b90:=(fun x0=>A.qb A.w90 [x0]) A.lb90_0
def A.k90:=@A.kk 90 12 [.tmp 4] A.b90 (by kernel_rfl) rfl
def Ydi{a b:Nat}{st:St}(ha:a<9223372036854775808)(hb:b<9223372036854775808):A.C.call (.func 90 [] []) [.int .i64 a,.int .i64 b] st=some (.int .i64 (Nat.gcd a b:Nat),st):=by
 apply Call.eq
 rw[Zae,A.k90 (by simp)]
 simp[A.b90]
 refine Zah [(0,1),(5,10)] (fun e r s1=>s1=⟨st.h,st.n,[]⟩∧e=.exit 0∧r.get 0=some (.int .i64 (Nat.gcd a b:Nat))) (fun q r s1=>s1=⟨st.h,st.n,[]⟩∧q<9223372036854775808∧r.get 1=some (.int .i64 q)∧∃k:Nat,k<9223372036854775808∧r.get 0=some (.int .i64 k)∧Nat.gcd k q=Nat.gcd a b) b ?_ ?_ ?_
 ·exact⟨rfl,hb,by simp,a,ha,by simp,rfl⟩
 ·rintro q r _ hr hf ⟨rfl,hq,h1,k,hk,h0,hg⟩
  rw[Zai]
  by_cases hz:q=0
  ·subst hz
   rw[Nat.gcd_zero_right]at hg
   simp[A.lb90_0,hr,hf,h0,h1,hg]
  ·have i1:(0:Int)<(q:Int):=by omega
   have i2:0<q:=by omega
   have i3:¬(q:Int)=0:=by omega
   have t1:(k:Int).tmod q=((k%q:Nat):Int):=by rw[Yu1 (by omega)];omega
   have t2:Zaq .i64 ((k%q:Nat):Int)=((k%q:Nat):Int):=Zaj (by omega) (by have:=Yuf k i2;omega)
   have hlt:=Yuf k i2
   simp[A.lb90_0,hr,hf,h0,h1,i1,i2,i3,hz,t1,t2,Zan.chk]
   exact⟨k%q,hlt,by omega,by simp,q,hq,rfl,by rw[←hg,Nat.gcd_comm k q,Nat.gcd_rec q k,Nat.gcd_comm]⟩
 ·rintro _ r _ hr ⟨rfl,rfl,h0⟩
  simp[hr,h0]
noncomputable def A.b45:=A.q Tryz.f45
def A.k45:=@A.kk 45 61 [.tmp 4] A.b45 (by kernel_rfl) rfl
def Zlg{z:Int}:Yco [.int .i64 z,.int .i64 (-z)]=some (.int .i64 (z.natAbs:Nat)):=by
 have h:Yco [.int .i64 z,.int .i64 (-z)]=some (.int .i64 (if z< -z then -z else z)):=rfl
 rw[h]
 congr 2
 split<;>omega
def Yja{a:Int}{m:Nat}(hm:0<m):(Rat.divInt a m).num=a.tdiv (Nat.gcd a.natAbs m:Nat)∧(Rat.divInt a m).num.natAbs≤a.natAbs∧(Rat.divInt a m).den=m/Nat.gcd a.natAbs m:=by
 have hb:(0:Int)<(m:Int):=by omega
 have h1:=Znq (a:=a) hb
 have h2:=Zsf (a:=a) hb
 rw[Ytc]at h1 h2
 have hd:((Nat.gcd a.natAbs m:Nat):Int)∣a:=Int.gcd_dvd_left (a:=a) (b:=(m:Int))
 refine⟨?_,?_,h2.symm⟩
 ·rw[Int.tdiv_eq_ediv_of_dvd hd,Rat.num_divInt,Int.sign_eq_one_of_pos hb,Int.one_mul,Int.gcd_comm]
  rfl
 ·rw[←h1]
  have:=Yuz a.natAbs (Nat.gcd a.natAbs m)
  generalize a.natAbs/Nat.gcd a.natAbs m=k at*
  split
  ·rw[Yv0,Ytc];exact this
  ·rw[Ytc];exact this
def Yn2{a:Int}{m:Nat}{st:St}(hm:0<m)(h1: -4000000000000000000≤a)(h2:a≤4000000000000000000)(h3:m≤4000000000000000000):A.C.call (.func 45 [] []) [.int .i64 a,.int .i64 m] st=some (.str (Zaz (Rat.divInt a m)),st):=by
 apply Call.eq
 rw[Zae,A.k45 (by simp)]
 have c1:¬a< -4000000000000000000:=by omega
 have c2:¬4000000000000000000<a:=by omega
 have c3:¬(m:Int)< -4000000000000000000:=by omega
 have c4:¬4000000000000000000<(m:Int):=by omega
 have c5:¬(m:Int)<0:=by omega
 have w1:Zaq .i64 (-a)= -a:=Zaj (by omega) (by omega)
 have w2:Zaq .i64 (0-a)= -a:=by rw[Int.zero_sub];exact w1
 have hg:=fun st=>Ydi (a:=a.natAbs) (b:=m) (st:=st) (by omega) (by omega)
 obtain⟨e1,e2,e3⟩:=Yja (a:=a) hm
 have hD0:0<(Rat.divInt a m).den:=Rat.den_pos _
 have htx:Zaz (Rat.divInt a m)=if (Rat.divInt a m).den=1 then decI (Rat.divInt a m).num else decI (Rat.divInt a m).num++47::decN (Rat.divInt a m).den:=rfl
 rw[htx]
 clear htx
 have hgp:0<Nat.gcd a.natAbs m:=Ywt _ hm
 generalize (Rat.divInt a m).num=P at*
 generalize (Rat.divInt a m).den=D at*
 generalize Nat.gcd a.natAbs m=g at*
 have hDm:D≤m:=by rw[e3];exact Yuz _ _
 have e4:(m:Int).tdiv (g:Int)=(D:Int):=by rw[Yun (by omega),e3];rfl
 have g0:¬(g:Int)=0:=by omega
 have g1:¬g=0:=by omega
 have v1:Zaq .i64 P=P:=Zaj (by omega) (by omega)
 have v2:Zaq .i64 (-P)= -P:=Zaj (by omega) (by omega)
 have v3:Zaq .i64 (D:Int)=(D:Int):=Zaj (by omega) (by omega)
 have d1:∀st,A.C.call (.func 91 [] []) [.int .i64 (P.natAbs:Nat),.int .i64 1] st=some (.str (decN P.natAbs),st):=fun st=>(Zd3 (n:=P.natAbs) (m:=1) (st:=st) (by omega) (by omega)).trans (by rw[Zj7])
 have d2:∀st,A.C.call (.func 91 [] []) [.int .i64 D,.int .i64 1] st=some (.str (decN D),st):=fun st=>(Zd3 (n:=D) (m:=1) (st:=st) (by omega) (by omega)).trans (by rw[Zj7])
 have x1:(decN P.natAbs).length<30:=by
  have:(Zc1 P.natAbs).length≤19:=Zax.1 (by omega)
  unfold decN;split<;>simp;omega
 have x2:(decN D).length<30:=by
  have:(Zc1 D).length≤19:=Zax.1 (by omega)
  unfold decN;split<;>simp;omega
 have hmx:IntKind.max .i64=9223372036854775807:=rfl
 have y1:¬(9223372036854775807:Int)<((decN P.natAbs).length:Int):=by omega
 have y2:¬(9223372036854775807:Int)<1+((decN P.natAbs).length:Int):=by omega
 have z1:D=1∨(¬D=1∧1<D):=by omega
 rcases z1 with rfl|⟨z1,z2⟩<;>by_cases hP:P<0
 ·simp[A.b45,c1,c2,c3,c4,c5,w1,w2,Zfg,Zlg,hg,←e1,e4,g0,g1,v1,v2,v3,hP,d1,d2,Zbe,hmx,y1,y2,decI,Zan.chk]
 ·simp[A.b45,c1,c2,c3,c4,c5,w1,w2,Zfg,Zlg,hg,←e1,e4,g0,g1,v1,v2,v3,hP,d1,d2,Zbe,hmx,y1,y2,decI,Zan.chk]
 ·have z3:(1:Int)<(D:Int):=by omega
  have y3:¬(9223372036854775807:Int)<((decN P.natAbs).length:Int)+1+1:=by omega
  have y4:¬(9223372036854775807:Int)<((decN P.natAbs).length:Int)+1+1+((decN D).length:Int):=by omega
  simp[A.b45,c1,c2,c3,c4,c5,w1,w2,Zfg,Zlg,hg,←e1,e4,g0,g1,v1,v2,v3,hP,d1,d2,Zbe,hmx,y1,y2,decI,Zan.chk,z1,z2,z3,y3,y4]
 ·have z3:(1:Int)<(D:Int):=by omega
  have y3:¬(9223372036854775807:Int)<((decN P.natAbs).length:Int)+1:=by omega
  have y4:¬(9223372036854775807:Int)<((decN P.natAbs).length:Int)+1+((decN D).length:Int):=by omega
  simp[A.b45,c1,c2,c3,c4,c5,w1,w2,Zfg,Zlg,hg,←e1,e4,g0,g1,v1,v2,v3,hP,d1,d2,Zbe,hmx,y1,y2,decI,Zan.chk,z1,z2,z3,y3,y4]
def Yn3{p q:Int}{st:St}(hq:q<0)(h1: -4000000000000000000≤p)(h2:p≤4000000000000000000)(h3: -4000000000000000000≤q):A.C.call (.func 45 [] []) [.int .i64 p,.int .i64 q] st=some (.str (Zaz (Rat.divInt p q)),st):=by
 apply Call.eq
 rw[Zae,A.k45 (by simp)]
 have c1:¬p< -4000000000000000000:=by omega
 have c2:¬4000000000000000000<p:=by omega
 have c3:¬q< -4000000000000000000:=by omega
 have c4:¬4000000000000000000<q:=by omega
 obtain⟨a,ha⟩:∃a,a= -p:=⟨_,rfl⟩
 obtain⟨m,hm1⟩:∃m:Nat,(m:Int)= -q:=⟨(-q).toNat,by omega⟩
 have hm:0<m:=by omega
 have c5:Zaq .i64 (-p)=a:=by rw[←ha];exact Zaj (by omega) (by omega)
 have c6:Zaq .i64 (-q)=(m:Int):=by rw[←hm1];exact Zaj (by omega) (by omega)
 have hab:Rat.divInt p q=Rat.divInt a m:=by rw[ha,hm1];exact(Rat.neg_divInt_neg p q).symm
 rw[hab]
 clear hab
 have w1:Zaq .i64 (-a)= -a:=Zaj (by omega) (by omega)
 have w2:Zaq .i64 (0-a)= -a:=by rw[Int.zero_sub];exact w1
 have hg:=fun st=>Ydi (a:=a.natAbs) (b:=m) (st:=st) (by omega) (by omega)
 obtain⟨e1,e2,e3⟩:=Yja (a:=a) hm
 have hD0:0<(Rat.divInt a m).den:=Rat.den_pos _
 have htx:Zaz (Rat.divInt a m)=if (Rat.divInt a m).den=1 then decI (Rat.divInt a m).num else decI (Rat.divInt a m).num++47::decN (Rat.divInt a m).den:=rfl
 rw[htx]
 clear htx
 have hgp:0<Nat.gcd a.natAbs m:=Ywt _ hm
 generalize (Rat.divInt a m).num=P at*
 generalize (Rat.divInt a m).den=D at*
 generalize Nat.gcd a.natAbs m=g at*
 have hDm:D≤m:=by rw[e3];exact Yuz _ _
 have e4:(m:Int).tdiv (g:Int)=(D:Int):=by rw[Yun (by omega),e3];rfl
 have g0:¬(g:Int)=0:=by omega
 have g1:¬g=0:=by omega
 have v1:Zaq .i64 P=P:=Zaj (by omega) (by omega)
 have v2:Zaq .i64 (-P)= -P:=Zaj (by omega) (by omega)
 have v3:Zaq .i64 (D:Int)=(D:Int):=Zaj (by omega) (by omega)
 have d1:∀st,A.C.call (.func 91 [] []) [.int .i64 (P.natAbs:Nat),.int .i64 1] st=some (.str (decN P.natAbs),st):=fun st=>(Zd3 (n:=P.natAbs) (m:=1) (st:=st) (by omega) (by omega)).trans (by rw[Zj7])
 have d2:∀st,A.C.call (.func 91 [] []) [.int .i64 D,.int .i64 1] st=some (.str (decN D),st):=fun st=>(Zd3 (n:=D) (m:=1) (st:=st) (by omega) (by omega)).trans (by rw[Zj7])
 have x1:(decN P.natAbs).length<30:=by
  have:(Zc1 P.natAbs).length≤19:=Zax.1 (by omega)
  unfold decN;split<;>simp;omega
 have x2:(decN D).length<30:=by
  have:(Zc1 D).length≤19:=Zax.1 (by omega)
  unfold decN;split<;>simp;omega
 have hmx:IntKind.max .i64=9223372036854775807:=rfl
 have y1:¬(9223372036854775807:Int)<((decN P.natAbs).length:Int):=by omega
 have y2:¬(9223372036854775807:Int)<1+((decN P.natAbs).length:Int):=by omega
 have z1:D=1∨(¬D=1∧1<D):=by omega
 rcases z1 with rfl|⟨z1,z2⟩<;>by_cases hP:P<0
 ·simp[A.b45,c1,c2,c3,c4,c5,c6,hq,w1,w2,Zfg,Zlg,hg,←e1,e4,g0,g1,v1,v2,v3,hP,d1,d2,Zbe,hmx,y1,y2,decI,Zan.chk]
 ·simp[A.b45,c1,c2,c3,c4,c5,c6,hq,w1,w2,Zfg,Zlg,hg,←e1,e4,g0,g1,v1,v2,v3,hP,d1,d2,Zbe,hmx,y1,y2,decI,Zan.chk]
 ·have z3:(1:Int)<(D:Int):=by omega
  have y3:¬(9223372036854775807:Int)<((decN P.natAbs).length:Int)+1+1:=by omega
  have y4:¬(9223372036854775807:Int)<((decN P.natAbs).length:Int)+1+1+((decN D).length:Int):=by omega
  simp[A.b45,c1,c2,c3,c4,c5,c6,hq,w1,w2,Zfg,Zlg,hg,←e1,e4,g0,g1,v1,v2,v3,hP,d1,d2,Zbe,hmx,y1,y2,decI,Zan.chk,z1,z2,z3,y3,y4]
 ·have z3:(1:Int)<(D:Int):=by omega
  have y3:¬(9223372036854775807:Int)<((decN P.natAbs).length:Int)+1:=by omega
  have y4:¬(9223372036854775807:Int)<((decN P.natAbs).length:Int)+1+((decN D).length:Int):=by omega
  simp[A.b45,c1,c2,c3,c4,c5,c6,hq,w1,w2,Zfg,Zlg,hg,←e1,e4,g0,g1,v1,v2,v3,hP,d1,d2,Zbe,hmx,y1,y2,decI,Zan.chk,z1,z2,z3,y3,y4]
def Yn4{p q:Int}{st:St}(hq:q≠0)(h1: -4000000000000000000≤p)(h2:p≤4000000000000000000)(h3: -4000000000000000000≤q)(h4:q≤4000000000000000000):A.C.call (.func 45 [] []) [.int .i64 p,.int .i64 q] st=some (.str (Zaz (Rat.divInt p q)),st):=by
 rcases Int.lt_or_gt_of_ne hq with hq|hq
 ·exact Yn3 hq h1 h2 h3
 ·obtain⟨m,rfl⟩:∃m:Nat,q=(m:Int):=⟨q.toNat,by omega⟩
  exact Yn2 (by omega) h1 h2 (by omega)
noncomputable def A.w89:=A.q Tryz.f89
noncomputable def A.lb89_0:=A.ql A.w89 0 []
noncomputable def A.b89:=(fun x0=>A.qb A.w89 [x0]) A.lb89_0
def A.k89:=@A.kk 89 25 [.cell 2 (some 2)] A.b89 (by kernel_rfl) rfl
def Ybl{s:Str}(hd:Zb7 s=true)(h1:1≤s.length)(h2:s.length≤3000000000){h:T O}{N:Nat}:Fn A.C 92 [.str (45::s)] h N (fun v h' n'=>Rg h' n' v (-((numV s:Nat):Int))):=by
 intro w
 have a1:u8I 45=45:=rfl
 have a2:(1:Int)≤(s.length:Int)+1:=by omega
 have a3:∀st:St,Zdk st (some (.str (45::s))) (some (some (.int .i64 1))) (some none)=some (.str s,st):=fun st=>by rw[Zfe (by omega) (by simp only[Ys4];omega)];rfl
 rw[Zae,A.k92 (by simp)]
 simp[A.b92,a1,a2,a3,Zad,evOpt]
 refine Zah [(0,0),(4,4),(16,32)] (fun e r st=>e=.exit 0∧∃m,m≤9∧PsI (h.set N (.cells [.bool false,.nilslice] 114 true)) (N+1) s m r st) (PsI (h.set N (.cells [.bool false,.nilslice] 114 true)) (N+1) s) s.length ?_ ?_ ?_
 ·exact⟨by simp,Keeps.refl,s,.nilslice,[],by simp,rfl,h1,Ys6 _,hd,by simp,Own.nil,Di.nil,by simp,by simp[vI,pI]⟩
 ·rintro m r ⟨H,n1,W⟩ hr hf ⟨hW,hK,cur,u,l,g0,hcl,m1,m2,hcd,g4,ho,hdi,hll,hv⟩
  simp only at hW hK ho
  subst hcl
  rw[Zai]
  by_cases h9:9<cur.length
  ·have h9':(9:Int)<(cur.length:Int):=by omega
   have nle:=hK.le
   have hvd:=Zjc (s:=cur.drop (cur.length-9)) (st:=⟨H,n1,W⟩) (Zki hcd _) (by simp;omega)
   have hcn:((cur.length:Int)-9).toNat=cur.length-9:=by omega
   have hnv:=Zea (Zki hcd (cur.length-9))
   have hdl:(cur.drop (cur.length-9)).length=9:=by simp;omega
   rw[hdl]at hnv
   have hsp:=Zwe (cur.take (cur.length-9)) (cur.drop (cur.length-9))
   rw[Yva,hdl,show (10:Nat)^9=1000000000 by decide]at hsp
   generalize hD:numV (cur.drop (cur.length-9))=D at*
   obtain⟨v',h',w',e1,e2,e3,e4,e5⟩:=Zbx (x:=[.int .i64 (D:Int)]) (u:=.slice n1 0 1 (some 1) 1) (bytes:=8) (w:=W) (ho.keep (Keeps.refl.new (.cells [.int .i64 (D:Int)] 3 true))) (by omega) (by decide) rfl (by simp[Za0,St.row,slc]) (by rw[Zdn];omega)
   rw[←Zdd]at e5
   simp(disch:=first|(simp;done)|omega|rfl) [A.lb92_0,hr,hf,g0,g4,h9,h9',hcn,evOpt,hvd,splice,e1]
   refine⟨cur.length-9,by omega,⟨by rw[e2];exact hW,(hK.new _).then e3,cur.take (cur.length-9),v',l++[(D:Int)],by simp,by simp,by omega,by omega,Zs0 hcd _,by simp,e5,hdi.app (Di.one (by omega) (by omega)),by simp;omega,?_⟩⟩
   rw[Zfy,Ytu,Yux,Zc4,←hv]
   have hsp':((numV cur:Nat):Int)=(numV (cur.take (cur.length-9)):Nat)*1000000000+D:=by omega
   rw[hsp']
   generalize ((numV (cur.take (cur.length-9)):Nat):Int)=X
   generalize pI l.length=P
   grind
  ·have h9':¬(9:Int)<(cur.length:Int):=by omega
   simp[A.lb92_0,hr,hf,g0,h9,h9']
   exact⟨cur.length,by omega,hW,hK,cur,u,l,by simp[g0],rfl,m1,m2,hcd,by simp[g4],ho,hdi,hll,hv⟩
 ·rintro _ r ⟨H,n1,W⟩ hr ⟨rfl,m,m9,hW,hK,cur,u,l,g0,hcl,m1,m2,hcd,g4,ho,hdi,hll,hv⟩
  simp only at hW hK ho
  subst hcl
  have nle:=hK.le
  have hvd:=Zjc (s:=cur) (st:=⟨H,n1,W⟩) hcd (by omega)
  have hnv:=Zea hcd
  have hp9:=Zv9 m9
  generalize hD:numV cur=D at*
  obtain⟨v',h',w',e1,e2,e3,e4,e5⟩:=Zbx (x:=[.int .i64 (D:Int)]) (u:=.slice n1 0 1 (some 1) 1) (bytes:=8) (w:=W) (ho.keep (Keeps.refl.new (.cells [.int .i64 (D:Int)] 3 true))) (by omega) (by decide) rfl (by simp[Za0,St.row,slc]) (by rw[Zdn];omega)
  rw[←Zdd]at e5
  simp[hr,g0,g4,hvd,splice,e1]
  have hdi2:Di (l++[(D:Int)]):=hdi.app (Di.one (by omega) (by omega))
  refine Zaf (Zbz (b:=true) (n:=numV s) e5.sl hdi2 (by rw[Zfy];exact hv) (by simp;omega)) ?_
  rintro y h5 n5 k5 hy
  have kk:=((hK.new (.cells [.int .i64 (D:Int)] 3 true)).then e3).trans k5
  have kle:=kk.le
  have nrow:=kk.get N (by omega)
  simp at nrow
  obtain⟨u5,rfl,hu5⟩:=hy
  have hu6:=fun c1 (hc:c1.length=2)=>Sl.setInt (i:=N) (c1:=c1) (e1:=114) (w1:=true) hu5 nrow (by intro x hx k m;simp at hx;rcases hx with rfl|rfl<;>simp) hc
  have huo:=Sl.form hu5 |>.one
  unfold V.one at huo
  have ow:Zac N w'=[]:=Zg4 (Yvz N) (by rw[e2];exact hW)
  have k0:=(Keeps.refl (h:=h) (n:=N)).new (.cells [.bool false,.nilslice] 114 true)
  simp[hr,nrow,splice,Zak,huo,Zal,slc,Ret,ow]
  exact⟨(k0.trans kk).set (Ys6 N),u5,by simp,by simpa[Dn]using hu6 _ rfl⟩
structure WhI (h:T O) (N a:Nat) (neg:Bool) (m:Nat) (r:T V) (st:St):Prop where
 w:Zac N st.w=[]
 keep:Keeps h N st.h st.n
 ex:∃z u l,z.natAbs=m∧m≤a∧(z<0→neg=true)∧(0<z→neg=false)∧r.get 0=some (.int .i64 z)∧r.get 3=some u∧Own 1 3 N st.h st.n u (Ze8 l)∧Di l∧vI l+pI l.length*m=a∧l.length≤100∧(m≠0→pI l.length≤a)
def Ya5{z:Int}{h:T O}{N:Nat}(h1: -9223372036854775808≤z)(h2:z<9223372036854775808):Fn A.C 89 [.int .i64 z] h N (fun v h' n'=>Rg h' n' v z):=by
 intro w
 rw[Zae,A.k89 (by simp)]
 have kB:=(Keeps.refl (h:=h) (n:=N)).new (.cells [.bool false,.nilslice] 114 true)
 simp[A.b89]
 refine Zah [(0,0),(3,3),(5,5),(8,21)] (fun e r st=>e=.exit 0∧WhI (h.set N (.cells [.bool false,.nilslice] 114 true)) (N+1) z.natAbs (decide (z<0)) 0 r st) (WhI (h.set N (.cells [.bool false,.nilslice] 114 true)) (N+1) z.natAbs (decide (z<0))) z.natAbs ?_ ?_ ?_
 ·exact⟨by simp,Keeps.refl,z,.nilslice,[],rfl,Ys6 _,fun h=>by simp[h],fun h=>by simp;omega,by simp,by simp,Own.nil,Di.nil,by simp[vI,pI],by simp,fun h=>by simp[pI];omega⟩
 ·rintro m r ⟨H,n1,W⟩ hr hf ⟨hW,hK,y,u,l,rfl,hm,hn1,hn2,g0,g3,ho,hd,hv,hl,hp⟩
  simp only at hW hK ho
  rw[Zai]
  by_cases hy:y=0
  ·subst hy
   simp[A.lb89_0,hr,hf,g0,Zad]
   exact⟨hW,hK,0,u,l,rfl,by omega,hn1,hn2,by simp[g0],by simp[g3],ho,hd,hv,hl,hp⟩
  ·have nle:=hK.le
   obtain⟨d,hd0⟩:∃d:Nat,d=y.natAbs%1000000000:=⟨_,rfl⟩
   obtain⟨q,hq0⟩:∃q:Nat,q=y.natAbs/1000000000:=⟨_,rfl⟩
   have hdl:d<1000000000:=by omega
   have hdv:(y.tdiv 1000000000).natAbs=q:=by rw[Int.natAbs_tdiv];exact hq0.symm
   have hml:(y.tmod 1000000000).natAbs=d:=by rw[Int.natAbs_tmod];exact hd0.symm
   have hqs:(y<0→y.tdiv 1000000000≤0)∧(0<y→0≤y.tdiv 1000000000):=by
    constructor
    ·intro h
     have:(-y).tdiv 1000000000= -(y.tdiv 1000000000):=Int.neg_tdiv _ _
     have h3:0≤(-y).tdiv 1000000000:=Int.tdiv_nonneg (by omega) (by omega)
     omega
    ·intro h
     exact Int.tdiv_nonneg (by omega) (by omega)
   have hms:(y<0→y.tmod 1000000000≤0)∧(0<y→0≤y.tmod 1000000000):=by
    constructor
    ·intro h
     have:(-y).tmod 1000000000= -(y.tmod 1000000000):=Int.neg_tmod _ _
     have h3:0≤(-y).tmod 1000000000:=Int.tmod_nonneg _ (by omega)
     omega
    ·intro h
     exact Int.tmod_nonneg _ (by omega)
   generalize hyq:y.tdiv 1000000000=Y at*
   generalize hym:y.tmod 1000000000=D at*
   have w1:Zaq .i64 Y=Y:=Zaj (by omega) (by omega)
   have w2:Zaq .i64 (0-D)= -D:=by rw[Int.zero_sub];exact Zaj (by omega) (by omega)
   have w3:Zaq .i64 (-D)= -D:=Zaj (by omega) (by omega)
   have hlen:l.length+1≤100:=by
    apply Classical.byContradiction
    intro hc
    have h5:l.length=100:=by omega
    have h6:=hp (by omega)
    rw[h5,Zp6]at h6
    have h7:(1000000000^100:Nat)≤z.natAbs:=by exact_mod_cast h6
    have h8:(9223372036854775808:Nat)<1000000000^100:=by decide
    omega
   obtain⟨v',h',w',e1,e2,e3,e4,e5⟩:=Zbx (x:=[.int .i64 (d:Int)]) (u:=.slice n1 0 1 (some 1) 1) (bytes:=8) (w:=W) (ho.keep (Keeps.refl.new (.cells [.int .i64 (d:Int)] 3 true))) (by omega) (by decide) rfl (by simp[Za0,St.row,slc]) (by rw[Zdn];omega)
   rw[←Zdd]at e5
   have hval:vI (l++[(d:Int)])+pI (l++[(d:Int)]).length*(q:Int)=z.natAbs:=by
    rw[Zfy,Ytu,Yux,Zc4,←hv]
    have:(y.natAbs:Int)=1000000000*(q:Int)+d:=by omega
    rw[this]
    generalize pI l.length=P
    grind
   have hqa:q<y.natAbs:=by omega
   have hpp:q≠0→pI (l++[(d:Int)]).length≤z.natAbs:=fun hq=>by
    have h3:0≤vI (l++[(d:Int)]):=Zig (hd.app (Di.one (by omega) (by omega)))
    have h4:0<pI (l++[(d:Int)]).length:=Zjr _
    have h5:pI (l++[(d:Int)]).length*1≤pI (l++[(d:Int)]).length*(q:Int):=Ytm (by omega) (by omega)
    omega
   have fin:WhI (h.set N (.cells [.bool false,.nilslice] 114 true)) (N+1) z.natAbs (decide (z<0)) q ((r.set 3 v').set 0 (.int .i64 Y)) ⟨h',n1+1+1,w'⟩:=⟨by rw[e2];exact hW,(hK.new _).then e3,Y,v',l++[(d:Int)],hdv,by omega,fun h=>hn1 (by have:=hqs.2;omega),fun h=>hn2 (by have:=hqs.1;omega),by simp,by simp,e5,hd.app (Di.one (by omega) (by omega)),hval,by simp;omega,hpp⟩
   obtain⟨f1,f2,f3⟩:=fin
   by_cases hD:D<0
   ·have hDd: -D=(d:Int):=by omega
    rw[hDd]at w2 w3
    simp[A.lb89_0,hr,hf,g0,g3,hy,Zad,hyq,hym,hD,w1,w2,w3,hDd,splice,e1]
    exact⟨q,by omega,f1,f2,by simpa using f3⟩
   ·have hDd:D=(d:Int):=by omega
    have hD':¬(d:Int)<0:=by omega
    simp[A.lb89_0,hr,hf,g0,g3,hy,Zad,hyq,hym,hD',w1,hDd,splice,e1]
    exact⟨q,by omega,f1,f2,by simpa using f3⟩
 ·rintro _ r ⟨H,n1,W⟩ hr ⟨rfl,hW,hK,y,u,l,hy,hm,hn1,hn2,g0,g3,ho,hd,hv,hl,hp⟩
  simp only at hW hK ho
  have h0:y=0:=by omega
  subst h0
  have hv2:vI l=(z.natAbs:Nat):=by simpa using hv
  simp[hr,g3]
  refine Zaf (Zbz (n:=z.natAbs) ho.sl hd hv2 (by omega)) ?_
  rintro v5 h5 n5 k5 hy5
  have ez:(if decide (z<0)=true then -((z.natAbs:Nat):Int) else ((z.natAbs:Nat):Int))=z:=by
   by_cases h0:z<0<;>simp[h0]<;>omega
  rw[ez]at hy5
  have kle:=hK.le
  have kle5:=k5.le
  have nrow:=(k5.get N (by omega)).trans (hK.get N (by omega))
  rw[T.get_set,Ys8 rfl]at nrow
  obtain⟨u5,rfl,hu5⟩:=hy5
  have p1:=Sl.form hu5 |>.one
  have p2:=Sl.form hu5 |>.cells
  unfold V.one at p1
  unfold V.cells at p2
  have ow:Zac N W=[]:=Zg4 (Yvz N) hW
  simp[hr,nrow,splice,Zak,p1,p2,Zal,slc,Ret,ow]
  exact⟨((kB.trans hK).trans k5).set (Ys6 N),u5,by simp,Sl.setInt hu5 nrow nint rfl⟩
def Zrg{z:Int}{h:T O}{N:Nat}(hl:(decI z).length≤2000000000):Fn A.C 92 [.str (decI z)] h N (fun v h' n'=>Rg h' n' v z):=by
 have h1:1≤(decN z.natAbs).length:=Ywu.2 (Zi0 _)
 unfold decI at hl ⊢
 by_cases hz:z<0
 ·rw[Ys8 hz]at hl ⊢
  simp only[Ys4]at hl
  have e: -((numV (decN z.natAbs):Nat):Int)=z:=by rw[Zck];omega
  have:=Ybl (Zb6 z.natAbs) h1 (by omega) (h:=h) (N:=N)
  rw[e]at this
  exact this
 ·rw[Ys5 hz]at hl ⊢
  have e:((numV (decN z.natAbs):Nat):Int)=z:=by rw[Zck];omega
  have:=Zma (Zb6 z.natAbs) h1 (by omega) (h:=h) (N:=N)
  rw[e]at this
  exact this
end Go.Mx
