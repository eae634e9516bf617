/-lensletref01-/
import Derived.Test.YtnkdakmfipgidaaGreatDoorRbF
set_option linter.all false
namespace Go.Mx
noncomputable section
open Go Go.Proofs
variable {N:Nat} {a b:Int} {h:T O} {x y:V}
set_option maxRecDepth 1000000
def A.b57:=A.q Tryz.f57
def A.k57:=@A.kk 57 57 [.tmp 4] A.b57 (by kernel_rfl) rfl
def RA(hb:0<b):b.natAbs/Nat.gcd a.natAbs b.natAbs=(Rat.divInt a b).den:=by
 have h:((Rat.divInt a b).den:Int)=((b.natAbs/Nat.gcd a.natAbs b.natAbs:Nat):Int):=by rw[Rat.den_divInt,ak (by omega),Int.gcd_comm];rfl
 exact(Int.ofNat_inj.1 h).symm
def KK(hb:0<b):(if decide (a<0)=true then -((a.natAbs/Nat.gcd a.natAbs b.natAbs:Nat):Int) else ((a.natAbs/Nat.gcd a.natAbs b.natAbs:Nat):Int))=(Rat.divInt a b).num:=by
 rw[Rat.num_divInt,Int.sign_eq_one_of_pos hb,Int.one_mul,Int.gcd_comm];have hd:((Int.gcd a b:Nat):Int)∣a:=Int.gcd_dvd_left ..;have he:Nat.gcd a.natAbs b.natAbs=Int.gcd a b:=rfl;rw[he,Int.natCast_ediv];by_cases ha:a<0
 ·have h1:(a.natAbs:Int)= -a:=by omega
  simp only[ha,decide_true,if_true,h1];rw[Int.neg_ediv_of_dvd hd,Int.neg_neg]
 have h1:(a.natAbs:Int)=a:=by omega
 simp[ha,h1]
def Yia{z:Int}:(aK z).length<=9*(ds z.natAbs).length+2:=by have:=Rm (n:=z.natAbs);unfold aK;split<;>simp<;>omega
def Yos{m e:Nat}(h0:0<m)(he:m%1000000000=e):m=1↔(ds m).length=1/\e=1:=by
 constructor
 ·rintro rfl;exact⟨by have:=Yor (r:=1) (by omega);rw[<-this];decide,by omega⟩
 rintro⟨h1,h2⟩;have h3:=wZ (ig m);rw[iC,h1,Ut,Nat.pow_one]at h3;omega
def Zu2(hx:Rg h N x a)(hy:Rg h N y b)(hb:0<b)(l3:(ds a.natAbs).length<100000000000)(l4:(ds b.natAbs).length<100000000000):Fn A.C 57 [x,y] h N (fun u _ _=>u=.str (aP (Rat.divInt a b))):=by
 intro w;obtain⟨u,rfl,kj⟩:=hx;obtain⟨v,rfl,nA⟩:=hy;have o1:=Sl.form kj |>.one;have o2:=Sl.form kj |>.cells;have o3:=Sl.form nA |>.one;have o4:=Sl.form nA |>.cells;unfold V.one at o1 o3;unfold V.cells at o2 o4;have l1:(ds a.natAbs).length<1000000000000:=by omega
 have l2:(ds b.natAbs).length<1000000000000:=by omega
 have vw:¬b<0:=by omega
 rw[show decide (b<0)=false by simp[vw]];have kB:=(((ab.refl (h:=h) (n:=N)).new (.cells [.bool (decide (a<0)),u] 93 true)).new (.cells [.bool false,v] 93 true));have hu:=Sl.ad kj kB;have hv:=Sl.ad nA kB;rw[aN,A.k57 (by simp)];simp[A.b57,o1,o3,aQ];generalize hB:(h.set N (.cells [.bool (decide (a<0)),u] 93 true)).set (N+1) (.cells [.bool false,v] 93 true)=HB at*;have gN:HB.get N=some (.cells [.bool (decide (a<0)),u] 93 true):=by rw[<-hB];simp
 have gM:HB.get (N+1)=some (.cells [.bool false,v] 93 true):=by rw[<-hB];simp
 refine av (Vu hu hv l1 l2) ?_;rintro v1 h1 n1 k1 q1;have HF:=(k1.get N (by omega)).trans gN;have KL:=(k1.get (N+1) (by omega)).trans gM;have ui:0<Nat.gcd a.natAbs b.natAbs:=Tv _ (by omega);have lg:(ds (Nat.gcd a.natAbs b.natAbs)).length<1000000000000:=po (vQ (Nat.gcd_le_right _ (by omega))) l2;have yw:=k1.le;simp[HF,aQ];refine av (Q7 (hu.ad k1) q1 ui l1 lg) ?_;rintro _ h2 n2 k2 ⟨q,r1,rfl,q2, -⟩;have KM:=(k2.get (N+1) (by omega)).trans KL;have me:=k2.le;simp[KM,aQ];refine av (Q7 ((hv.ad k1).ad k2) (q1.ad k2) ui l2 lg) ?_;rintro _ h3 n3 k3 ⟨d,r2,rfl,q3, -⟩;have gN3:=(k3.get N (by omega)).trans ((k2.get N (by omega)).trans HF);have wc:=k3.le;rw[RA hb]at q3;have lq:(ds (a.natAbs/Nat.gcd a.natAbs b.natAbs)).length<100000000000:=po (vQ (wS _ _)) l3;have Cq:(ds (Rat.divInt a b).den).length<100000000000:=by rw[<-RA hb];exact po (vQ (wS _ _)) l4
 simp[gN3,aQ];refine av (yU (n:=a.natAbs/Nat.gcd a.natAbs b.natAbs) (q2.ad k3) (ig _) (iC _) (by omega)) ?_;rintro v4 h4 n4 k4 q4;have CP:=k4.le;rw[KK hb]at q4;simp[];refine av (Iy q4 (by rw[<-KK hb];split<;>(first|rw[CE,eh]|rw[eh])<;>exact lq)) ?_;rintro _ h5 n5 k5 rfl;have IF:=k5.le;obtain⟨m,hm⟩:∃m,(Rat.divInt a b).den=m:=⟨_,rfl⟩;have jD:0<m:=by rw[<-hm];exact Rat.den_pos _
 rw[hm]at q3 Cq;have ct:=Yia (z:=(Rat.divInt a b).num);have KN:(ds (Rat.divInt a b).num.natAbs).length<100000000000:=by rw[<-KK hb];split<;>(first|rw[CE,eh]|rw[eh])<;>exact lq
 have nk:aP (Rat.divInt a b)=if m=1 then aK (Rat.divInt a b).num else aK (Rat.divInt a b).num++47::an m:=by unfold aP;rw[hm]
 rw[nk];generalize aK (Rat.divInt a b).num=s at*;have FG:Dn h5 n5 d m:=(q3.ad k4).ad k5;have ld:=Sl.len FG;rw[iJ]at ld;have mF:(ds m).length≠0:=fun hc=>(by omega:m≠0) (EI.1 (rS hc));have hg:=Uq (i:=0) (n:=m) (by omega);rw[Gp,Nat.div_one]at hg;obtain⟨e,he⟩:∃e,m%1000000000=e:=⟨_,rfl⟩;rw[he]at hg;have uP:m=1↔(ds m).length=1/\e=1:=Yos jD he;obtain⟨i,o,c,te,rw_,p1,p2,p3,p4⟩:=Sl.at FG (iP hg);rw[gE]at p4;obtain⟨L,hL⟩:∃L,(ds m).length=L:=⟨_,rfl⟩;rw[hL]at ld uP;have ka:=Rm (n:=m);rw[hL]at ka Cq;have dh:IntKind.max .i64=9223372036854775807:=rfl;have b1:¬(9223372036854775807:Int)<(s.length:Int)+1:=by omega
 have b2:¬(9223372036854775807:Int)<(s.length:Int)+1+((an m).length:Int):=by omega
 have FF:aK (m:Int)=an m:=by unfold aK;rw[ak (by omega),eh]
 have xU:(ds m).length<1152921504606846976:=by omega
 have K5:ab h N h5 n5:=((((kB.trans k1).trans k2).trans k3).trans k4).trans k5;by_cases qK:m=1
 ·obtain⟨rfl,rfl⟩:=uP.1 qK;rw[ar qK];clear ct KN ka b1 b2 xU Cq;simp[ld,p1,p3,p4,ax];exact K5
 rw[ak qK];by_cases MS:L=1
 ·have he1:¬e=1:=fun hc=>qK (uP.2 ⟨MS,hc⟩);have xf:¬(e:Int)=1:=by omega
  subst MS;clear ct KN ka;simp[ld,p1,p3,p4,xf,jF,dh,b1];refine av (yU (b:=false) (n:=m) FG (ig _) (iC _) xU) ?_;rintro v6 h6 n6 k6 q6;have q7:Rg h6 n6 v6 (m:Int):=by simpa using q6
  simp[];refine av (Iy q7 (by rw[eh,hL];exact Cq)) ?_;rintro _ h7 n7 k7 rfl;rw[FF];simp[jF,dh,b2,ax];exact(K5.trans k6).trans k7
 have hL2:¬(L:Int)=1:=by omega
 clear ct KN ka;simp[ld,hL2,jF,dh,b1];refine av (yU (b:=false) (n:=m) FG (ig _) (iC _) xU) ?_;rintro v6 h6 n6 k6 q6;have q7:Rg h6 n6 v6 (m:Int):=by simpa using q6
 simp[];refine av (Iy q7 (by rw[eh,hL];exact Cq)) ?_;rintro _ h7 n7 k7 rfl;rw[FF];simp[jF,dh,b2,ax];exact(K5.trans k6).trans k7
def Zu3{P Q:Int}(hx:Rg h N x P)(hy:Rg h N y Q)(nH:Q<0)(l3:(ds P.natAbs).length<100000000000)(l4:(ds Q.natAbs).length<100000000000):Fn A.C 57 [x,y] h N (fun u _ _=>u=.str (aP (Rat.divInt P Q))):=by
 intro w;obtain⟨u0,rfl,kj⟩:=hx;obtain⟨v0,rfl,nA⟩:=hy;have o1:=Sl.form kj |>.one;have o2:=Sl.form kj |>.cells;have o3:=Sl.form nA |>.one;have o4:=Sl.form nA |>.cells;unfold V.one at o1 o3;unfold V.cells at o2 o4;have fK:Rg h N (.agg [.bool (decide (P<0)),u0]) P:=⟨u0,rfl,kj⟩;have tO:Rg h N (.agg [.bool true,v0]) Q:=⟨v0,by simp[nH],nA⟩;rw[show decide (Q<0)=true by simp[nH]];have kA:=(((ab.refl (h:=h) (n:=N)).new (.cells [.bool (decide (P<0)),u0] 93 true)).new (.cells [.bool true,v0] 93 true));rw[aN,A.k57 (by simp)];simp[A.b57,o1,o3,aQ,aL];generalize hA:(h.set N (.cells [.bool (decide (P<0)),u0] 93 true)).set (N+1) (.cells [.bool true,v0] 93 true)=HA at*;have gN0:HA.get N=some (.cells [.bool (decide (P<0)),u0] 93 true):=by rw[<-hA];simp
 have gM0:HA.get (N+1)=some (.cells [.bool true,v0] 93 true):=by rw[<-hA];simp
 refine av (Zzk (fK.ad kA) (by omega)) ?_;rintro _ m1 t1 j1 q1;obtain⟨a,ha⟩:∃a,a= -P:=⟨_,rfl⟩;rw[<-ha]at q1;obtain⟨u,rfl,zp⟩:=q1;have i1:=j1.le;have HF:=(j1.get N (by omega)).trans gN0;have KL:=(j1.get (N+1) (by omega)).trans gM0;simp[KL,aQ,aL];refine av (Zzk ((tO.ad kA).ad j1) (by omega)) ?_;rintro _ m2 t2 j2 q2;obtain⟨b,ki⟩:∃b,b= -Q:=⟨_,rfl⟩;rw[<-ki]at q2;have hb:0<b:=by omega
 obtain⟨v,rfl,kK⟩:=q2;rw[show decide (b<0)=false by simp;omega];have fX:Rat.divInt P Q=Rat.divInt a b:=by rw[ha,ki];exact(Rat.neg_divInt_neg P Q).symm
 rw[fX];have n1:=Yvc (b:=decide (P<0)) (Sl.form kj);have n2:=Yvc (b:=true) (Sl.form nA);have i2:=j2.le;have MV:=(j2.get N (by omega)).trans HF;have KM:=(j2.get (N+1) (by omega)).trans KL;have s1:=Sl.form zp |>.one;have s2:=Sl.form zp |>.cells;have s3:=Sl.form kK |>.one;have s4:=Sl.form kK |>.cells;unfold V.one at s1 s3;unfold V.cells at s2 s4;have g1:N+1<t1:=by omega
 have g2:N+1<t2:=by omega
 have g3:N<t2:=by omega
 simp[MV,KM,s1,s3,ag,bO,aQ,cQ.cU,g1,g2,g3];have gM3:(m2.set N (.cells [.bool (decide (a<0)),u] 93 true)).get (N+1)=some (.cells [.bool true,v0] 93 true):=by rw[T.ae,ak (by omega)];exact KM
 have kB:=((((kA.trans j1).trans j2).set (i:=N) (o:=.cells [.bool (decide (a<0)),u] 93 true) (by omega))).set (i:=N+1) (o:=.cells [.bool false,v] 93 true) (by omega);have hu:=Sl.setInt (Sl.setInt (zp.ad j2) MV n1 (c1:=[.bool (decide (a<0)),u]) (e1:=93) (w1:=true) rfl) gM3 n2 (c1:=[.bool false,v]) (e1:=93) (w1:=true) rfl;have hv:=Sl.setInt (Sl.setInt kK MV n1 (c1:=[.bool (decide (a<0)),u]) (e1:=93) (w1:=true) rfl) gM3 n2 (c1:=[.bool false,v]) (e1:=93) (w1:=true) rfl;generalize hB:(m2.set N (.cells [.bool (decide (a<0)),u] 93 true)).set (N+1) (.cells [.bool false,v] 93 true)=HB at*;have gN:HB.get N=some (.cells [.bool (decide (a<0)),u] 93 true):=by rw[<-hB];simp
 have gM:HB.get (N+1)=some (.cells [.bool false,v] 93 true):=by rw[<-hB];simp
 have ea:a.natAbs=P.natAbs:=by omega
 have eb:b.natAbs=Q.natAbs:=by omega
 rw[<-ea]at l3;rw[<-eb]at l4;have l1:(ds a.natAbs).length<1000000000000:=by omega
 have l2:(ds b.natAbs).length<1000000000000:=by omega
 clear o1 o2 o3 o4;have o1:=s1;have o2:=s2;have o3:=s3;have o4:=s4;clear s1 s2 s3 s4 gM3 MV KM HF KL gN0 gM0 n1 n2 hA fX;refine av (Vu hu hv l1 l2) ?_;rintro v1 h1 n1 k1 q1;have HF:=(k1.get N (by omega)).trans gN;have KL:=(k1.get (N+1) (by omega)).trans gM;have ui:0<Nat.gcd a.natAbs b.natAbs:=Tv _ (by omega);have lg:(ds (Nat.gcd a.natAbs b.natAbs)).length<1000000000000:=po (vQ (Nat.gcd_le_right _ (by omega))) l2;have yw:=k1.le;simp[HF,aQ];refine av (Q7 (hu.ad k1) q1 ui l1 lg) ?_;rintro _ h2 n2 k2 ⟨q,r1,rfl,q2, -⟩;have KM:=(k2.get (N+1) (by omega)).trans KL;have me:=k2.le;simp[KM,aQ];refine av (Q7 ((hv.ad k1).ad k2) (q1.ad k2) ui l2 lg) ?_;rintro _ h3 n3 k3 ⟨d,r2,rfl,q3, -⟩;have gN3:=(k3.get N (by omega)).trans ((k2.get N (by omega)).trans HF);have wc:=k3.le;rw[RA hb]at q3;have lq:(ds (a.natAbs/Nat.gcd a.natAbs b.natAbs)).length<100000000000:=po (vQ (wS _ _)) l3;have Cq:(ds (Rat.divInt a b).den).length<100000000000:=by rw[<-RA hb];exact po (vQ (wS _ _)) l4
 simp[gN3,aQ];refine av (yU (n:=a.natAbs/Nat.gcd a.natAbs b.natAbs) (q2.ad k3) (ig _) (iC _) (by omega)) ?_;rintro v4 h4 n4 k4 q4;have CP:=k4.le;rw[KK hb]at q4;simp[];refine av (Iy q4 (by rw[<-KK hb];split<;>(first|rw[CE,eh]|rw[eh])<;>exact lq)) ?_;rintro _ h5 n5 k5 rfl;have IF:=k5.le;obtain⟨m,hm⟩:∃m,(Rat.divInt a b).den=m:=⟨_,rfl⟩;have jD:0<m:=by rw[<-hm];exact Rat.den_pos _
 rw[hm]at q3 Cq;have ct:=Yia (z:=(Rat.divInt a b).num);have KN:(ds (Rat.divInt a b).num.natAbs).length<100000000000:=by rw[<-KK hb];split<;>(first|rw[CE,eh]|rw[eh])<;>exact lq
 have nk:aP (Rat.divInt a b)=if m=1 then aK (Rat.divInt a b).num else aK (Rat.divInt a b).num++47::an m:=by unfold aP;rw[hm]
 rw[nk];generalize aK (Rat.divInt a b).num=s at*;have FG:Dn h5 n5 d m:=(q3.ad k4).ad k5;have ld:=Sl.len FG;rw[iJ]at ld;have mF:(ds m).length≠0:=fun hc=>(by omega:m≠0) (EI.1 (rS hc));have hg:=Uq (i:=0) (n:=m) (by omega);rw[Gp,Nat.div_one]at hg;obtain⟨e,he⟩:∃e,m%1000000000=e:=⟨_,rfl⟩;rw[he]at hg;have uP:m=1↔(ds m).length=1/\e=1:=Yos jD he;obtain⟨i,o,c,te,rw_,p1,p2,p3,p4⟩:=Sl.at FG (iP hg);rw[gE]at p4;obtain⟨L,hL⟩:∃L,(ds m).length=L:=⟨_,rfl⟩;rw[hL]at ld uP;have ka:=Rm (n:=m);rw[hL]at ka Cq;have dh:IntKind.max .i64=9223372036854775807:=rfl;have b1:¬(9223372036854775807:Int)<(s.length:Int)+1:=by omega
 have b2:¬(9223372036854775807:Int)<(s.length:Int)+1+((an m).length:Int):=by omega
 have FF:aK (m:Int)=an m:=by unfold aK;rw[ak (by omega),eh]
 have xU:(ds m).length<1152921504606846976:=by omega
 have K5:ab h N h5 n5:=((((kB.trans k1).trans k2).trans k3).trans k4).trans k5;by_cases qK:m=1
 ·obtain⟨rfl,rfl⟩:=uP.1 qK;rw[ar qK];clear ct KN ka b1 b2 xU Cq;simp[ld,p1,p3,p4,ax];exact K5
 rw[ak qK];by_cases MS:L=1
 ·have he1:¬e=1:=fun hc=>qK (uP.2 ⟨MS,hc⟩);have xf:¬(e:Int)=1:=by omega
  subst MS;clear ct KN ka;simp[ld,p1,p3,p4,xf,jF,dh,b1];refine av (yU (b:=false) (n:=m) FG (ig _) (iC _) xU) ?_;rintro v6 h6 n6 k6 q6;have q7:Rg h6 n6 v6 (m:Int):=by simpa using q6
  simp[];refine av (Iy q7 (by rw[eh,hL];exact Cq)) ?_;rintro _ h7 n7 k7 rfl;rw[FF];simp[jF,dh,b2,ax];exact(K5.trans k6).trans k7
 have hL2:¬(L:Int)=1:=by omega
 clear ct KN ka;simp[ld,hL2,jF,dh,b1];refine av (yU (b:=false) (n:=m) FG (ig _) (iC _) xU) ?_;rintro v6 h6 n6 k6 q6;have q7:Rg h6 n6 v6 (m:Int):=by simpa using q6
 simp[];refine av (Iy q7 (by rw[eh,hL];exact Cq)) ?_;rintro _ h7 n7 k7 rfl;rw[FF];simp[jF,dh,b2,ax];exact(K5.trans k6).trans k7
def Zxn(hx:Rg h N x a)(hy:Rg h N y b)(hb:b≠0)(l3:(ds a.natAbs).length<100000000000)(l4:(ds b.natAbs).length<100000000000):Fn A.C 57 [x,y] h N (fun u _ _=>u=.str (aP (Rat.divInt a b))):=by
 rcases Int.lt_or_gt_of_ne hb with hb|hb
 ·exact Zu3 hx hy hb l3 l4
 exact Zu2 hx hy hb l3 l4
def A.RB:=A.q Tryz.f140
def A.tA:=A.ql A.RB 0 []
def A.b140:=(fun x0=>A.qb A.RB [x0]) A.tA
def A.k140:=@A.kk 140 12 [.tmp 4] A.b140 (by kernel_rfl) rfl
def Yhd{a b:Nat}{st:St}(ha:a<9223372036854775808)(hb:b<9223372036854775808):A.C.call (.func 140 [] []) [.int .i64 a,.int .i64 b] st=some (.int .i64 (Nat.gcd a b:Nat),st):=by
 apply Call.eq;rw[aN,A.k140 (by simp)];simp[A.b140];refine cm [(0,1),(5,10)] (fun e r s1=>s1=⟨st.h,st.n,[]⟩/\e=.exit 0/\r.get 0=some (.int .i64 (Nat.gcd a b:Nat))) (fun q r s1=>s1=⟨st.h,st.n,[]⟩/\q<9223372036854775808/\r.get 1=some (.int .i64 q)/\∃k:Nat,k<9223372036854775808/\r.get 0=some (.int .i64 k)/\Nat.gcd k q=Nat.gcd a b) b ?_ ?_ ?_
 ·exact⟨rfl,hb,by simp,a,ha,by simp,rfl⟩
 ·rintro q r _ hr hf ⟨rfl,hq,h1,k,hk,h0,hg⟩;rw[bu];by_cases hz:q=0
  ·subst hz;rw[Nat.gcd_zero_right]at hg;simp[A.tA,hf,h0,h1,hg]
  have i1:(0:Int)<(q:Int):=by omega
  have i2:0<q:=by omega
  have i3:¬(q:Int)=0:=by omega
  have t1:(k:Int).tmod q=((k%q:Nat):Int):=by rw[Gl (by omega)];omega
  have t2:bo .i64 ((k%q:Nat):Int)=((k%q:Nat):Int):=cP (by omega) (by have:=mO k i2;omega);have aC:=mO k i2;simp[A.tA,hf,h0,h1,i2,hz,t1,cQ.cU];exact⟨k%q,aC,by omega,by simp,q,hq,rfl,by rw[<-hg,Nat.gcd_comm k q,Nat.gcd_rec q k,Nat.gcd_comm]⟩
 rintro _ r _ hr ⟨rfl,rfl,h0⟩;simp[h0]
def A.b55:=A.q Tryz.f55
def A.k55:=@A.kk 55 61 [.tmp 4] A.b55 (by kernel_rfl) rfl
def HG{z:Int}:C7 [.int .i64 z,.int .i64 (-z)]=some (.int .i64 (z.natAbs:Nat)):=by have h:C7 [.int .i64 z,.int .i64 (-z)]=some (.int .i64 (if z< -z then -z else z)):=rfl;rw[h];congr 2;split<;>omega
def Yoq{a:Int}{m:Nat}(hm:0<m):(Rat.divInt a m).num=a.tdiv (Nat.gcd a.natAbs m:Nat)/\(Rat.divInt a m).num.natAbs<=a.natAbs/\(Rat.divInt a m).den=m/Nat.gcd a.natAbs m:=by
 have hb:(0:Int)<(m:Int):=by omega
 have h1:=KK (a:=a) hb;have h2:=RA (a:=a) hb;rw[eh]at h1 h2;have hd:((Nat.gcd a.natAbs m:Nat):Int)∣a:=Int.gcd_dvd_left (a:=a) (b:=(m:Int));refine⟨?_,?_,h2.symm⟩
 ·rw[Int.tdiv_eq_ediv_of_dvd hd,Rat.num_divInt,Int.sign_eq_one_of_pos hb,Int.one_mul,Int.gcd_comm];rfl
 rw[<-h1];have:=wS a.natAbs (Nat.gcd a.natAbs m);generalize a.natAbs/Nat.gcd a.natAbs m=k at*;split
 ·rw[CE,eh];exact this
 rw[eh];exact this
def Yva{a:Int}{m:Nat}{st:St}(hm:0<m)(h1: -4000000000000000000<=a)(h2:a<=4000000000000000000)(h3:m<=4000000000000000000):A.C.call (.func 55 [] []) [.int .i64 a,.int .i64 m] st=some (.str (aP (Rat.divInt a m)),st):=by
 apply Call.eq;rw[aN,A.k55 (by simp)];have c1:¬a< -4000000000000000000:=by omega
 have c2:¬4000000000000000000<a:=by omega
 have c3:¬(m:Int)< -4000000000000000000:=by omega
 have c4:¬4000000000000000000<(m:Int):=by omega
 have c5:¬(m:Int)<0:=by omega
 have w1:bo .i64 (-a)= -a:=cP (by omega) (by omega);have w2:bo .i64 (0-a)= -a:=by rw[Int.zero_sub];exact w1
 have hg:=fun st=>Yhd (a:=a.natAbs) (b:=m) (st:=st) (by omega) (by omega);obtain⟨e1,e2,e3⟩:=Yoq (a:=a) hm;have Aw:0<(Rat.divInt a m).den:=Rat.den_pos _;have nk:aP (Rat.divInt a m)=if (Rat.divInt a m).den=1 then aK (Rat.divInt a m).num else aK (Rat.divInt a m).num++47::an (Rat.divInt a m).den:=rfl
 rw[nk];clear nk;have mZ:0<Nat.gcd a.natAbs m:=Tv _ hm;generalize (Rat.divInt a m).num=P at*;generalize (Rat.divInt a m).den=D at*;generalize Nat.gcd a.natAbs m=g at*;have hDm:D<=m:=by rw[e3];exact wS _ _
 have e4:(m:Int).tdiv (g:Int)=(D:Int):=by rw[C2 (by omega),e3];rfl
 have g0:¬(g:Int)=0:=by omega
 have g1:¬g=0:=by omega
 have v1:bo .i64 P=P:=cP (by omega) (by omega);have v2:bo .i64 (-P)= -P:=cP (by omega) (by omega);have v3:bo .i64 (D:Int)=(D:Int):=cP (by omega) (by omega);have d1:∀st,A.C.call (.func 141 [] []) [.int .i64 (P.natAbs:Nat),.int .i64 1] st=some (.str (an P.natAbs),st):=fun st=>(MU (n:=P.natAbs) (m:=1) (st:=st) (by omega) (by omega)).trans (by rw[Pz]);have d2:∀st,A.C.call (.func 141 [] []) [.int .i64 D,.int .i64 1] st=some (.str (an D),st):=fun st=>(MU (n:=D) (m:=1) (st:=st) (by omega) (by omega)).trans (by rw[Pz]);have x1:(an P.natAbs).length<30:=by have:(dv P.natAbs).length<=19:=qN.1 (by omega);unfold an;split<;>simp;omega
 have x2:(an D).length<30:=by have:(dv D).length<=19:=qN.1 (by omega);unfold an;split<;>simp;omega
 have dh:IntKind.max .i64=9223372036854775807:=rfl;have y1:¬(9223372036854775807:Int)<((an P.natAbs).length:Int):=by omega
 have y2:¬(9223372036854775807:Int)<1+((an P.natAbs).length:Int):=by omega
 have z1:D=1\/(¬D=1/\1<D):=by omega
 rcases z1 with rfl|⟨z1,z2⟩<;>by_cases hP:P<0
 ·simp[A.b55,c1,c2,c3,c4,c5,w1,sL,HG,hg,<-e1,e4,g1,v1,v2,hP,d1,jF,dh,y2,aK,cQ.cU]
 ·simp[A.b55,c1,c2,c3,c4,c5,w1,sL,HG,hg,<-e1,e4,g1,v1,v2,hP,d1,jF,dh,y1,aK,cQ.cU]
 ·have z3:(1:Int)<(D:Int):=by omega
  have y3:¬(9223372036854775807:Int)<((an P.natAbs).length:Int)+1+1:=by omega
  have y4:¬(9223372036854775807:Int)<((an P.natAbs).length:Int)+1+1+((an D).length:Int):=by omega
  simp[A.b55,c1,c2,c3,c4,c5,w1,sL,HG,hg,<-e1,e4,g1,v1,v2,v3,hP,d1,d2,jF,dh,y2,aK,cQ.cU,z1,z3,y3,y4]
 have z3:(1:Int)<(D:Int):=by omega
 have y3:¬(9223372036854775807:Int)<((an P.natAbs).length:Int)+1:=by omega
 have y4:¬(9223372036854775807:Int)<((an P.natAbs).length:Int)+1+((an D).length:Int):=by omega
 simp[A.b55,c1,c2,c3,c4,c5,w1,sL,HG,hg,<-e1,e4,g1,v1,v2,v3,hP,d1,d2,jF,dh,y1,aK,cQ.cU,z1,z3,y3,y4]
def Yvb{p q:Int}{st:St}(hq:q<0)(h1: -4000000000000000000<=p)(h2:p<=4000000000000000000)(h3: -4000000000000000000<=q):A.C.call (.func 55 [] []) [.int .i64 p,.int .i64 q] st=some (.str (aP (Rat.divInt p q)),st):=by
 apply Call.eq;rw[aN,A.k55 (by simp)];have c1:¬p< -4000000000000000000:=by omega
 have c2:¬4000000000000000000<p:=by omega
 have c3:¬q< -4000000000000000000:=by omega
 have c4:¬4000000000000000000<q:=by omega
 obtain⟨a,ha⟩:∃a,a= -p:=⟨_,rfl⟩;obtain⟨m,qK⟩:∃m:Nat,(m:Int)= -q:=⟨(-q).toNat,by omega⟩;have hm:0<m:=by omega
 have c5:bo .i64 (-p)=a:=by rw[<-ha];exact cP (by omega) (by omega)
 have c6:bo .i64 (-q)=(m:Int):=by rw[<-qK];exact cP (by omega) (by omega)
 have fX:Rat.divInt p q=Rat.divInt a m:=by rw[ha,qK];exact(Rat.neg_divInt_neg p q).symm
 rw[fX];clear fX;have w1:bo .i64 (-a)= -a:=cP (by omega) (by omega);have w2:bo .i64 (0-a)= -a:=by rw[Int.zero_sub];exact w1
 have hg:=fun st=>Yhd (a:=a.natAbs) (b:=m) (st:=st) (by omega) (by omega);obtain⟨e1,e2,e3⟩:=Yoq (a:=a) hm;have Aw:0<(Rat.divInt a m).den:=Rat.den_pos _;have nk:aP (Rat.divInt a m)=if (Rat.divInt a m).den=1 then aK (Rat.divInt a m).num else aK (Rat.divInt a m).num++47::an (Rat.divInt a m).den:=rfl
 rw[nk];clear nk;have mZ:0<Nat.gcd a.natAbs m:=Tv _ hm;generalize (Rat.divInt a m).num=P at*;generalize (Rat.divInt a m).den=D at*;generalize Nat.gcd a.natAbs m=g at*;have hDm:D<=m:=by rw[e3];exact wS _ _
 have e4:(m:Int).tdiv (g:Int)=(D:Int):=by rw[C2 (by omega),e3];rfl
 have g0:¬(g:Int)=0:=by omega
 have g1:¬g=0:=by omega
 have v1:bo .i64 P=P:=cP (by omega) (by omega);have v2:bo .i64 (-P)= -P:=cP (by omega) (by omega);have v3:bo .i64 (D:Int)=(D:Int):=cP (by omega) (by omega);have d1:∀st,A.C.call (.func 141 [] []) [.int .i64 (P.natAbs:Nat),.int .i64 1] st=some (.str (an P.natAbs),st):=fun st=>(MU (n:=P.natAbs) (m:=1) (st:=st) (by omega) (by omega)).trans (by rw[Pz]);have d2:∀st,A.C.call (.func 141 [] []) [.int .i64 D,.int .i64 1] st=some (.str (an D),st):=fun st=>(MU (n:=D) (m:=1) (st:=st) (by omega) (by omega)).trans (by rw[Pz]);have x1:(an P.natAbs).length<30:=by have:(dv P.natAbs).length<=19:=qN.1 (by omega);unfold an;split<;>simp;omega
 have x2:(an D).length<30:=by have:(dv D).length<=19:=qN.1 (by omega);unfold an;split<;>simp;omega
 have dh:IntKind.max .i64=9223372036854775807:=rfl;have y1:¬(9223372036854775807:Int)<((an P.natAbs).length:Int):=by omega
 have y2:¬(9223372036854775807:Int)<1+((an P.natAbs).length:Int):=by omega
 have z1:D=1\/(¬D=1/\1<D):=by omega
 rcases z1 with rfl|⟨z1,z2⟩<;>by_cases hP:P<0
 ·simp[A.b55,c1,c2,c3,c4,c5,c6,hq,w1,sL,HG,hg,<-e1,e4,g1,v1,v2,hP,d1,jF,dh,y2,aK,cQ.cU]
 ·simp[A.b55,c1,c2,c3,c4,c5,c6,hq,w1,sL,HG,hg,<-e1,e4,g1,v1,v2,hP,d1,jF,dh,y1,aK,cQ.cU]
 ·have z3:(1:Int)<(D:Int):=by omega
  have y3:¬(9223372036854775807:Int)<((an P.natAbs).length:Int)+1+1:=by omega
  have y4:¬(9223372036854775807:Int)<((an P.natAbs).length:Int)+1+1+((an D).length:Int):=by omega
  simp[A.b55,c1,c2,c3,c4,c5,c6,hq,w1,sL,HG,hg,<-e1,e4,g1,v1,v2,v3,hP,d1,d2,jF,dh,y2,aK,cQ.cU,z1,z3,y3,y4]
 have z3:(1:Int)<(D:Int):=by omega
 have y3:¬(9223372036854775807:Int)<((an P.natAbs).length:Int)+1:=by omega
 have y4:¬(9223372036854775807:Int)<((an P.natAbs).length:Int)+1+((an D).length:Int):=by omega
 simp[A.b55,c1,c2,c3,c4,c5,c6,hq,w1,sL,HG,hg,<-e1,e4,g1,v1,v2,v3,hP,d1,d2,jF,dh,y1,aK,cQ.cU,z1,z3,y3,y4]
def Yx0{p q:Int}{st:St}(hq:q≠0)(h1: -4000000000000000000<=p)(h2:p<=4000000000000000000)(h3: -4000000000000000000<=q)(h4:q<=4000000000000000000):A.C.call (.func 55 [] []) [.int .i64 p,.int .i64 q] st=some (.str (aP (Rat.divInt p q)),st):=by
 rcases Int.lt_or_gt_of_ne hq with hq|hq
 ·exact Yvb hq h1 h2 h3
 obtain⟨m,rfl⟩:∃m:Nat,q=(m:Int):=⟨q.toNat,by omega⟩;exact Yva (by omega) h1 h2 (by omega)
def A.w77:=A.q Tryz.f77
def A.tB:=A.ql A.w77 0 []
def A.b77:=(fun x0=>A.qb A.w77 [x0]) A.tB
def A.k77:=@A.kk 77 25 [.cell 2 (some 2)] A.b77 (by kernel_rfl) rfl
def Yfk{s:aD}(hd:cK s=true)(h1:1<=s.length)(h2:s.length<=3000000000){h:T O}{N:Nat}:Fn A.C 142 [.str (45::s)] h N (fun v h' n'=>Rg h' n' v (-((aE s:Nat):Int))):=by
 intro w;have a1:cW 45=45:=rfl;have a2:(1:Int)<=(s.length:Int)+1:=by omega
 have a3:∀st:St,vg st (some (.str (45::s))) (some (some (.int .i64 1))) (some none)=some (.str s,st):=fun st=>by rw[JZ (by omega) (by simp only[bk];omega)];rfl
 rw[aN,A.k142 (by simp)];simp[A.b142,a1,a3,aB];refine cm [(0,0),(4,4),(16,32)] (fun e r st=>e=.exit 0/\∃m,m<=9/\Vx (h.set N (.cells [.bool false,.aa] 93 true)) (N+1) s m r st) (Vx (h.set N (.cells [.bool false,.aa] 93 true)) (N+1) s) s.length ?_ ?_ ?_
 ·exact⟨by simp,ab.refl,s,.aa,[],by simp,rfl,h1,aO _,hd,by simp,Own.nil,Di.nil,by simp,by simp[vI,pI]⟩
 ·rintro m r ⟨H,n1,W⟩ hr hf ⟨hW,hK,cur,u,l,g0,cX,m1,m2,qy,g4,ho,jt,nW,hv⟩;simp only at hW hK ho;subst cX;rw[bu];by_cases h9:9<cur.length
  ·have KF:(9:Int)<(cur.length:Int):=by omega
   have iG:=hK.le;have KG:=Q0 (s:=cur.drop (cur.length-9)) (st:=⟨H,n1,W⟩) (Vw qy _) (by simp;omega);have EW:((cur.length:Int)-9).toNat=cur.length-9:=by omega
   have HD:=Dk (Vw qy (cur.length-9));have ka:(cur.drop (cur.length-9)).length=9:=by simp;omega
   rw[ka]at HD;have iK:=Zze (cur.take (cur.length-9)) (cur.drop (cur.length-9));rw[En,ka,show (10:Nat)^9=1000000000 by decide]at iK;generalize hD:aE (cur.drop (cur.length-9))=D at*;obtain⟨v',h',w',e1,e2,e3,e4,e5⟩:=A7 (x:=[.int .i64 (D:Int)]) (u:=.slice n1 0 1 (some 1) 1) (bytes:=8) (w:=W) (ho.ad (ab.refl.new (.cells [.int .i64 (D:Int)] 3 true))) (by omega) (by decide) rfl (by simp[gb,St.row,aL]) (by rw[EL];omega);rw[<-GI]at e5;simp(disch:=first|(simp;done)|omega|rfl) [A.lO,hf,g0,g4,KF,EW,aB,KG,ag,e1];refine⟨cur.length-9,by omega,⟨by rw[e2];exact hW,(hK.new _).then e3,cur.take (cur.length-9),v',l++[(D:Int)],by simp,by simp,by omega,by omega,Zvq qy _,by simp,e5,jt.app (Di.one (by omega) (by omega)),by simp;omega,?_⟩⟩;rw[EG,jm,Af,wX,<-hv];have KH:((aE cur:Nat):Int)=(aE (cur.take (cur.length-9)):Nat)*1000000000+D:=by omega
   rw[KH];generalize ((aE (cur.take (cur.length-9)):Nat):Int)=X;generalize pI l.length=P;grind
  have KF:¬(9:Int)<(cur.length:Int):=by omega
  simp[A.lO,hf,g0,KF];exact⟨cur.length,by omega,hW,hK,cur,u,l,by simp[g0],rfl,m1,m2,qy,by simp[g4],ho,jt,nW,hv⟩
 rintro _ r ⟨H,n1,W⟩ hr ⟨rfl,m,m9,hW,hK,cur,u,l,g0,cX,m1,m2,qy,g4,ho,jt,nW,hv⟩;simp only at hW hK ho;subst cX;have iG:=hK.le;have KG:=Q0 (s:=cur) (st:=⟨H,n1,W⟩) qy (by omega);have HD:=Dk qy;have hp9:=TL m9;generalize hD:aE cur=D at*;obtain⟨v',h',w',e1,e2,e3,e4,e5⟩:=A7 (x:=[.int .i64 (D:Int)]) (u:=.slice n1 0 1 (some 1) 1) (bytes:=8) (w:=W) (ho.ad (ab.refl.new (.cells [.int .i64 (D:Int)] 3 true))) (by omega) (by decide) rfl (by simp[gb,St.row,aL]) (by rw[EL];omega);rw[<-GI]at e5;simp[hr,g0,g4,KG,ag,e1];have mU:Di (l++[(D:Int)]):=jt.app (Di.one (by omega) (by omega));refine av (yU (b:=true) (n:=aE s) e5.sl mU (by rw[EG];exact hv) (by simp;omega)) ?_;rintro y h5 n5 k5 hy;have kk:=((hK.new (.cells [.int .i64 (D:Int)] 3 true)).then e3).trans k5;have wE:=kk.le;have pV:=kk.get N (by omega);simp at pV;obtain⟨u5,rfl,Cj⟩:=hy;have Kq:=fun c1 (hc:c1.length=2)=>Sl.setInt (i:=N) (c1:=c1) (e1:=93) (w1:=true) Cj pV (by intro x hx k m;simp at hx;rcases hx with rfl|rfl<;>simp) hc;have DC:=Sl.form Cj |>.one;unfold V.one at DC;have ow:ay N w'=[]:=Zip (wm N) (by rw[e2];exact hW);have k0:=(ab.refl (h:=h) (n:=N)).new (.cells [.bool false,.aa] 93 true);simp[hr,pV,ag,bO,DC,aQ,aL,ax,ow];exact⟨(k0.trans kk).set (aO N),u5,by simp,by simpa[Dn]using Kq _ rfl⟩
structure WhI (h:T O) (N a:Nat) (neg:Bool) (m:Nat) (r:T V) (st:St):Prop where
 w:ay N st.w=[]
 ad:ab h N st.h st.n
 ex:∃z u l,z.natAbs=m/\m<=a/\(z<0->neg=true)/\(0<z->neg=false)/\r.get 0=some (.int .i64 z)/\r.get 3=some u/\Own 1 3 N st.h st.n u (qI l)/\Di l/\vI l+pI l.length*m=a/\l.length<=100/\(m≠0->pI l.length<=a)
def Ztw{z:Int}{h:T O}{N:Nat}(h1: -9223372036854775808<=z)(h2:z<9223372036854775808):Fn A.C 77 [.int .i64 z] h N (fun v h' n'=>Rg h' n' v z):=by
 intro w;rw[aN,A.k77 (by simp)];have kB:=(ab.refl (h:=h) (n:=N)).new (.cells [.bool false,.aa] 93 true);simp[A.b77];refine cm [(0,0),(3,3),(5,5),(8,21)] (fun e r st=>e=.exit 0/\WhI (h.set N (.cells [.bool false,.aa] 93 true)) (N+1) z.natAbs (decide (z<0)) 0 r st) (WhI (h.set N (.cells [.bool false,.aa] 93 true)) (N+1) z.natAbs (decide (z<0))) z.natAbs ?_ ?_ ?_
 ·exact⟨by simp,ab.refl,z,.aa,[],rfl,aO _,fun h=>by simp[h],fun h=>by simp;omega,by simp,by simp,Own.nil,Di.nil,by simp[vI,pI],by simp,fun h=>by simp[pI];omega⟩
 ·rintro m r ⟨H,n1,W⟩ hr hf ⟨hW,hK,y,u,l,rfl,hm,yl,ib,g0,g3,ho,hd,hv,hl,hp⟩;simp only at hW hK ho;rw[bu];by_cases hy:y=0
  ·subst hy;simp[A.tB,hf,g0];exact⟨hW,hK,0,u,l,rfl,by omega,yl,ib,by simp[g0],by simp[g3],ho,hd,hv,hl,hp⟩
  have iG:=hK.le;obtain⟨d,qf⟩:∃d:Nat,d=y.natAbs%1000000000:=⟨_,rfl⟩;obtain⟨q,xy⟩:∃q:Nat,q=y.natAbs/1000000000:=⟨_,rfl⟩;have ka:d<1000000000:=by omega
  have BV:(y.tdiv 1000000000).natAbs=q:=by rw[Int.natAbs_tdiv];exact xy.symm
  have kl:(y.tmod 1000000000).natAbs=d:=by rw[Int.natAbs_tmod];exact qf.symm
  have hqs:(y<0->y.tdiv 1000000000<=0)/\(0<y->0<=y.tdiv 1000000000):=by
   constructor
   ·intro h;have:(-y).tdiv 1000000000= -(y.tdiv 1000000000):=Int.neg_tdiv _ _;have h3:0<=(-y).tdiv 1000000000:=Int.tdiv_nonneg (by omega) (by omega);omega
   intro h;exact Int.tdiv_nonneg (by omega) (by omega)
  have hms:(y<0->y.tmod 1000000000<=0)/\(0<y->0<=y.tmod 1000000000):=by
   constructor
   ·intro h;have:(-y).tmod 1000000000= -(y.tmod 1000000000):=Int.neg_tmod _ _;have h3:0<=(-y).tmod 1000000000:=Int.tmod_nonneg _ (by omega);omega
   intro h;exact Int.tmod_nonneg _ (by omega)
  generalize hyq:y.tdiv 1000000000=Y at*;generalize hym:y.tmod 1000000000=D at*;have w1:bo .i64 Y=Y:=cP (by omega) (by omega);have w2:bo .i64 (0-D)= -D:=by rw[Int.zero_sub];exact cP (by omega) (by omega)
  have w3:bo .i64 (-D)= -D:=cP (by omega) (by omega);have hlen:l.length+1<=100:=by
   apply Classical.byContradiction;intro hc;have h5:l.length=100:=by omega
   have h6:=hp (by omega);rw[h5,Ut]at h6;have h7:(1000000000^100:Nat)<=z.natAbs:=by exact_mod_cast h6
   have h8:(9223372036854775808:Nat)<1000000000^100:=by decide
   omega
  obtain⟨v',h',w',e1,e2,e3,e4,e5⟩:=A7 (x:=[.int .i64 (d:Int)]) (u:=.slice n1 0 1 (some 1) 1) (bytes:=8) (w:=W) (ho.ad (ab.refl.new (.cells [.int .i64 (d:Int)] 3 true))) (by omega) (by decide) rfl (by simp[gb,St.row,aL]) (by rw[EL];omega);rw[<-GI]at e5;have iV:vI (l++[(d:Int)])+pI (l++[(d:Int)]).length*(q:Int)=z.natAbs:=by
   rw[EG,jm,Af,wX,<-hv];have:(y.natAbs:Int)=1000000000*(q:Int)+d:=by omega
   rw[this];generalize pI l.length=P;grind
  have hqa:q<y.natAbs:=by omega
  have NN:q≠0->pI (l++[(d:Int)]).length<=z.natAbs:=fun hq=>by have h3:0<=vI (l++[(d:Int)]):=wY (hd.app (Di.one (by omega) (by omega)));have h4:0<pI (l++[(d:Int)]).length:=EF _;have h5:pI (l++[(d:Int)]).length*1<=pI (l++[(d:Int)]).length*(q:Int):=sI (by omega) (by omega);omega
  have fin:WhI (h.set N (.cells [.bool false,.aa] 93 true)) (N+1) z.natAbs (decide (z<0)) q ((r.set 3 v').set 0 (.int .i64 Y)) ⟨h',n1+1+1,w'⟩:=⟨by rw[e2];exact hW,(hK.new _).then e3,Y,v',l++[(d:Int)],BV,by omega,fun h=>yl (by have:=hqs.2;omega),fun h=>ib (by have:=hqs.1;omega),by simp,by simp,e5,hd.app (Di.one (by omega) (by omega)),iV,by simp;omega,NN⟩;obtain⟨f1,f2,f3⟩:=fin;by_cases hD:D<0
  ·have VM: -D=(d:Int):=by omega
   rw[VM]at w2 w3;simp[A.tB,hf,g0,g3,hy,hyq,hym,hD,w1,w3,VM,ag,e1];exact⟨q,by omega,f1,f2,by simpa using f3⟩
  have VM:D=(d:Int):=by omega
  have hD':¬(d:Int)<0:=by omega
  simp[A.tB,hf,g0,g3,hy,hyq,hym,hD',w1,VM,ag,e1];exact⟨q,by omega,f1,f2,by simpa using f3⟩
 rintro _ r ⟨H,n1,W⟩ hr ⟨rfl,hW,hK,y,u,l,hy,hm,yl,ib,g0,g3,ho,hd,hv,hl,hp⟩;simp only at hW hK ho;have h0:y=0:=by omega
 subst h0;have kK:vI l=(z.natAbs:Nat):=by simpa using hv
 simp[hr,g3];refine av (yU (n:=z.natAbs) ho.sl hd kK (by omega)) ?_;rintro v5 h5 n5 k5 Vt;have ez:(if decide (z<0)=true then -((z.natAbs:Nat):Int) else ((z.natAbs:Nat):Int))=z:=by by_cases h0:z<0<;>simp[h0]<;>omega
 rw[ez]at Vt;have wE:=hK.le;have Kv:=k5.le;have pV:=(k5.get N (by omega)).trans (hK.get N (by omega));rw[T.ae,ar rfl]at pV;obtain⟨u5,rfl,Cj⟩:=Vt;have p1:=Sl.form Cj |>.one;have p2:=Sl.form Cj |>.cells;unfold V.one at p1;unfold V.cells at p2;have ow:ay N W=[]:=Zip (wm N) hW;simp[hr,pV,ag,bO,p1,aQ,aL,ax,ow];exact⟨((kB.trans hK).trans k5).set (aO N),u5,by simp,Sl.setInt Cj pV jS rfl⟩
def Zt8{z:Int}{h:T O}{N:Nat}(hl:(aK z).length<=2000000000):Fn A.C 142 [.str (aK z)] h N (fun v h' n'=>Rg h' n' v z):=by
 have h1:1<=(an z.natAbs).length:=List.length_pos_iff.2 (JP _);unfold aK at hl ⊢;by_cases hz:z<0
 ·rw[ar hz]at hl ⊢;simp only[bk]at hl;have e: -((aE (an z.natAbs):Nat):Int)=z:=by rw[B5];omega
  have:=Yfk (zM z.natAbs) h1 (by omega) (h:=h) (N:=N);rw[e]at this;exact this
 rw[ak hz]at hl ⊢;have e:((aE (an z.natAbs):Nat):Int)=z:=by rw[B5];omega
 have:=Vy (zM z.natAbs) h1 (by omega) (h:=h) (N:=N);rw[e]at this;exact this
def Zt7{h h2:T O}{N n2:Nat}{a b:Int}{x y:V}(hx:Sl h2 n2 x (dI (ds a.natAbs)))(hy:Sl h2 n2 y (dI (ds b.natAbs)))(r0:h2.get N=some (.cells [.bool false,.aa] 93 true))(r1:h2.get (N+1)=some (.cells [.bool false,.aa] 93 true)):Rg ((h2.set N (.cells [.bool (decide (a<0)),x] 93 true)).set (N+1) (.cells [.bool (decide (b<0)),y] 93 true)) n2 (.agg [.bool (decide (a<0)),x]) a/\Rg ((h2.set N (.cells [.bool (decide (a<0)),x] 93 true)).set (N+1) (.cells [.bool (decide (b<0)),y] 93 true)) n2 (.agg [.bool (decide (b<0)),y]) b:=by
 have Ri:(h2.set N (.cells [.bool (decide (a<0)),x] 93 true)).get (N+1)=some (.cells [.bool false,.aa] 93 true):=by rw[T.ae,ak (by omega)];exact r1
 exact⟨⟨x,rfl,Sl.setInt (Sl.setInt hx r0 jS rfl) Ri jS rfl⟩,⟨y,rfl,Sl.setInt (Sl.setInt hy r0 jS rfl) Ri jS rfl⟩⟩
def Zt4{q:Rat}{h:T O}{N:Nat}(l1:(aK q.num).length<=1000000000)(l2:(an q.den).length<=1000000000):Fn A.C 56 [.str (aP q)] h N (fun v h' n'=>∃x y,v=.aV [x,y]/\Rg h' n' x q.num/\Rg h' n' y (q.den:Int)):=by
 intro w;have aC:(aP q).length<=3000000000:=by
  unfold aP;split
  ·omega
  simp only[jm,bk];omega
 have ct:=fun st=>Hq (s:=aP q) (st:=st) (by omega);have hsa:=Mw q;have htk:=PA q;have nY:=(ab.refl (h:=h) (n:=N)).new (.cells [.bool false,.aa] 93 true);have k0:=nY.new (.cells [.bool false,.aa] 93 true);have d4':¬N+1=N:=by omega
 have d5':¬N=N+1:=by omega
 rw[aN,A.k56 (by simp)];by_cases hd:q.den=1
 ·have he:ah (aP q)=(aP q).length:=by
   have:=Fa q;have h2:ah (aP q)<=(aP q).length:=by rw[hsa];unfold aP;rw[ar hd];exact aO _
   omega
  have nk:aP q=aK q.num:=by unfold aP;rw[ar hd]
  have c1:((ah (aP q):Int)=((aP q).length:Int)):=by omega
  rw[hd];simp[A.b56,ct,he];rw[nk];refine av (Zt8 (z:=q.num) (by omega)) ?_;rintro v1 h1 n1 k1 ⟨x,rfl,hx⟩;simp[];refine av (Ztw (z:=1) (by omega) (by omega)) ?_;rintro v2 h2 n2 k2 ⟨y,rfl,hy⟩;have fL:=k1.le;have iU:=k2.le;have hx:=Sl.ad hx k2;have r0:=(k2.get N (by omega)).trans (k1.get N (by omega));have r1:=(k2.get (N+1) (by omega)).trans (k1.get (N+1) (by omega));simp at r0 r1;have zc:=(Sl.form hx).one;have zd:=(Sl.form hy).one;have Kx:=(Sl.form hx).cells;have Ic:=(Sl.form hy).cells;unfold V.one at zc zd;unfold V.cells at Kx Ic;obtain⟨e1,e2⟩:=Zt7 (h:=h) (b:=1) hx hy r0 r1;have Vz:N<n1:=by omega
  have VA:N<n2:=by omega
  have VB:N+1<n2:=by omega
  simp[r0,r1,ag,bO,zc,zd,aQ,aL,ax];simp only[show decide ((1:Int)<0)=false from rfl]at e1 e2;exact⟨(((k0.trans k1).trans k2).set (by omega)).set (by omega),_,_,⟨rfl,rfl⟩,e1,e2⟩
 have eK:=(Fa q).2 hd;have yX:=PB q hd;have c1:¬((ah (aP q):Int)=((aP q).length:Int)):=by omega
 have c2:¬(ah (aP q)=(aP q).length):=by omega
 have c3:(ah (aP q):Int)<=((aP q).length:Int):=by omega
 have c4:(ah (aP q):Int)+1<=((aP q).length:Int):=by omega
 have c5:((ah (aP q):Int)+1).toNat=ah (aP q)+1:=by omega
 have La:aE (an q.den)=q.den:=B5 _;simp[A.b56,ct,c1,c3,aB,htk];refine av (Zt8 (z:=q.num) (by omega)) ?_;rintro v1 h1 n1 k1 ⟨x,rfl,hx⟩;simp(disch:=omega) [c5,aB,yX];refine av (Vy (zM q.den) (List.length_pos_iff.2 (JP _)) (by omega)) ?_;rintro v2 h2 n2 k2 hy;rw[La]at hy;obtain⟨y,rfl,hy⟩:=hy;have fL:=k1.le;have iU:=k2.le;have hx:=Sl.ad hx k2;have r0:=(k2.get N (by omega)).trans (k1.get N (by omega));have r1:=(k2.get (N+1) (by omega)).trans (k1.get (N+1) (by omega));simp at r0 r1;have zc:=(Sl.form hx).one;have zd:=(Sl.form hy).one;have Kx:=(Sl.form hx).cells;have Ic:=(Sl.form hy).cells;unfold V.one at zc zd;unfold V.cells at Kx Ic;obtain⟨e1,e2⟩:=Zt7 (h:=h) (b:=(q.den:Int)) hx hy r0 r1;have Vz:N<n1:=by omega
 have VA:N<n2:=by omega
 have VB:N+1<n2:=by omega
 have zH:¬(q.den:Int)<0:=by omega
 simp only[show decide ((q.den:Int)<0)=false by simp[zH]]at e1 e2;simp[r0,r1,ag,bO,zc,zd,Vz,VA,VB,aQ,aL,cQ.cU,ax,zH];exact⟨(((k0.trans k1).trans k2).set (by omega)).set (by omega),_,_,⟨rfl,rfl⟩,e1,e2⟩
def RC{n:Nat}:(an n).length<=9↔n<1000000000:=CF (k:=9) (by omega)
def Yoa{n:Nat}(h:n<1000000000)(st:St):A.C.call (.func 139 [] []) [.str (an n)] st=some (.int .i64 n,st):=by have:=Q0 (s:=an n) (st:=st) (zM n) (by have:=RC.2 h;omega);rwa [B5]at this
end
end Go.Mx
