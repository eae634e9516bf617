/-lensletref01-/
import Derived.Test.YtfeehbdhikiikaaGreatDoorRbF
set_option linter.all false
namespace Go.Mx
variable{P Q z:Int}{m n n2:Nat}
noncomputable section
open Go Go.Proofs
variable {N:Nat} {a b:Int} {h:T O} {x y:V}
set_option maxRecDepth 1000000
def A.b51:=A.q Tryz.f51
def A.k51:=@A.kk 51 57 [.tmp 4] A.b51 (by kernel_rfl) rfl
def Sa(hb:0<b):b.natAbs/Nat.gcd a.natAbs b.natAbs=(Rat.divInt a b).den:=by
 have h:((Rat.divInt a b).den:Int)=((b.natAbs/Nat.gcd a.natAbs b.natAbs:Nat):Int):=by rw[Rat.den_divInt,ak (by omega),Int.gcd_comm];rfl
 exact(Int.ofNat_inj.1 h).symm
def KT(hb:0<b):(if decide (a<0)=true then -((a.natAbs/Nat.gcd a.natAbs b.natAbs:Nat):Int) else ((a.natAbs/Nat.gcd a.natAbs b.natAbs:Nat):Int))=(Rat.divInt a b).num:=by
 rw[Rat.num_divInt,Int.sign_eq_one_of_pos hb,Int.one_mul,Int.gcd_comm];have hd:((Int.gcd a b:Nat):Int)∣a:=Int.gcd_dvd_left ..;have he:Nat.gcd a.natAbs b.natAbs=Int.gcd a b:=rfl;rw[he,Int.natCast_ediv];by_cases ha:a<0
 ·have h1:(a.natAbs:Int)= -a:=by omega
  simp only[ha,decide_true,if_true,h1];rw[Int.neg_ediv_of_dvd hd,Int.neg_neg]
 have h1:(a.natAbs:Int)=a:=by omega
 simp[ha,h1]
def Yit:(aM z).length<=9*(ds z.natAbs).length+2:=by have:=RU (n:=z.natAbs);unfold aM;split<;>simp<;>omega
def Yo5{e:Nat}(h0:0<m)(he:m%1000000000=e):m=1↔(ds m).length=1/\e=1:=by
 constructor
 ·rintro rfl;exact⟨by have:=Yo4 (r:=1) (by omega);rw[<-this];decide,by omega⟩
 rintro⟨h1,h2⟩;have h3:=xE (iB m);rw[iJ,h1,UO,Nat.pow_one]at h3;omega
def Zvh(hx:Rg h N x a)(hy:Rg h N y b)(hb:0<b)(l3:(ds a.natAbs).length<100000000000)(l4:(ds b.natAbs).length<100000000000):Fn A.C 51 [x,y] h N (fun u _ _=>u=.str (aI (Rat.divInt a b))):=by
 intro w;obtain⟨u,rfl,nL⟩:=hx;obtain⟨v,rfl,nW⟩:=hy;have o1:=Sl.form nL |>.one;have o2:=Sl.form nL |>.cells;have o3:=Sl.form nW |>.one;have o4:=Sl.form nW |>.cells;unfold V.one at o1 o3;unfold V.cells at o2 o4;have l1:(ds a.natAbs).length<1000000000000:=by omega
 have l2:(ds b.natAbs).length<1000000000000:=by omega
 have wm:¬b<0:=by omega
 rw[show decide (b<0)=false by simp[wm]];have kB:=(((ab.refl (h:=h) (n:=N)).new (.cells [.bool (decide (a<0)),u] 80 true)).new (.cells [.bool false,v] 80 true));have hu:=Sl.ad nL kB;have hv:=Sl.ad nW kB;rw[aP,A.k51 (by simp)];simp[A.b51,o1,o3,aS];generalize hB:(h.set N (.cells [.bool (decide (a<0)),u] 80 true)).set (N+1) (.cells [.bool false,v] 80 true)=HB at*;have gN:HB.get N=some (.cells [.bool (decide (a<0)),u] 80 true):=by rw[<-hB];simp
 have gM:HB.get (N+1)=some (.cells [.bool false,v] 80 true):=by rw[<-hB];simp
 refine au (VO hu hv l1 l2) ?_;rintro v1 h1 n1 k1 q1;have HT:=(k1.get N (by omega)).trans gN;have KU:=(k1.get (N+1) (by omega)).trans gM;have uN:0<Nat.gcd a.natAbs b.natAbs:=TR _ (by omega);have lg:(ds (Nat.gcd a.natAbs b.natAbs)).length<1000000000000:=pT (wC (Nat.gcd_le_right _ (by omega))) l2;have yJ:=k1.le;simp[HT,aS];refine au (RF (hu.ad k1) q1 uN l1 lg) ?_;rintro _ h2 n2 k2 ⟨q,r1,rfl,q2, -⟩;have KV:=(k2.get (N+1) (by omega)).trans KU;have lf:=k2.le;simp[KV,aS];refine au (RF ((hv.ad k1).ad k2) (q1.ad k2) uN l2 lg) ?_;rintro _ h3 n3 k3 ⟨d,r2,rfl,q3, -⟩;have gN3:=(k3.get N (by omega)).trans ((k2.get N (by omega)).trans HT);have yG:=k3.le;rw[Sa hb]at q3;have lq:(ds (a.natAbs/Nat.gcd a.natAbs b.natAbs)).length<100000000000:=pT (wC (xy _ _)) l3;have CH:(ds (Rat.divInt a b).den).length<100000000000:=by rw[<-Sa hb];exact pT (wC (xy _ _)) l4
 simp[gN3,aS];refine au (zn (n:=a.natAbs/Nat.gcd a.natAbs b.natAbs) (q2.ad k3) (iB _) (iJ _) (by omega)) ?_;rintro v4 h4 n4 k4 q4;have Bj:=k4.le;rw[KT hb]at q4;simp[];refine au (Nl q4 (by rw[<-KT hb];split<;>(first|rw[zY,dT]|rw[dT])<;>exact lq)) ?_;rintro _ h5 n5 k5 rfl;have Ix:=k5.le;obtain⟨m,hm⟩:∃m,(Rat.divInt a b).den=m:=⟨_,rfl⟩;have jU:0<m:=by rw[<-hm];exact Rat.den_pos _
 rw[hm]at q3 CH;have cv:=Yit (z:=(Rat.divInt a b).num);have KW:(ds (Rat.divInt a b).num.natAbs).length<100000000000:=by rw[<-KT hb];split<;>(first|rw[zY,dT]|rw[dT])<;>exact lq
 have nN:aI (Rat.divInt a b)=if m=1 then aM (Rat.divInt a b).num else aM (Rat.divInt a b).num++47::aq m:=by unfold aI;rw[hm]
 rw[nN];generalize aM (Rat.divInt a b).num=s at*;have FK:Dn h5 n5 d m:=(q3.ad k4).ad k5;have ld:=Sl.len FK;rw[jo]at ld;have qz:(ds m).length≠0:=fun hc=>(by omega:m≠0) (EN.1 (tC hc));have hg:=UM (i:=0) (n:=m) (by omega);rw[GB,Nat.div_one]at hg;obtain⟨e,he⟩:∃e,m%1000000000=e:=⟨_,rfl⟩;rw[he]at hg;have vf:m=1↔(ds m).length=1/\e=1:=Yo5 jU he;obtain⟨i,o,c,te,rw_,p1,p2,p3,p4⟩:=Sl.at FK (jq hg);rw[iX]at p4;obtain⟨L,hL⟩:∃L,(ds m).length=L:=⟨_,rfl⟩;rw[hL]at ld vf;have kM:=RU (n:=m);rw[hL]at kM CH;have dq:IntKind.max .i64=9223372036854775807:=rfl;have b1:¬(9223372036854775807:Int)<(s.length:Int)+1:=by omega
 have b2:¬(9223372036854775807:Int)<(s.length:Int)+1+((aq m).length:Int):=by omega
 have Ee:aM (m:Int)=aq m:=by unfold aM;rw[ak (by omega),dT]
 have yk:(ds m).length<1152921504606846976:=by omega
 have K5:ab h N h5 n5:=((((kB.trans k1).trans k2).trans k3).trans k4).trans k5;by_cases rA:m=1
 ·obtain⟨rfl,rfl⟩:=vf.1 rA;rw[av rA];clear cv KW kM b1 b2 yk CH;simp[ld,p1,p3,p4,ay];exact K5
 rw[ak rA];by_cases Ni:L=1
 ·have he1:¬e=1:=fun hc=>rA (vf.2 ⟨Ni,hc⟩);have wZ:¬(e:Int)=1:=by omega
  subst Ni;clear cv KW kM;simp[ld,p1,p3,p4,wZ,jJ,dq,b1];refine au (zn (b:=false) (n:=m) FK (iB _) (iJ _) yk) ?_;rintro v6 h6 n6 k6 q6;have q7:Rg h6 n6 v6 (m:Int):=by simpa using q6
  simp[];refine au (Nl q7 (by rw[dT,hL];exact CH)) ?_;rintro _ h7 n7 k7 rfl;rw[Ee];simp[jJ,dq,b2,ay];exact(K5.trans k6).trans k7
 have hL2:¬(L:Int)=1:=by omega
 clear cv KW kM;simp[ld,hL2,jJ,dq,b1];refine au (zn (b:=false) (n:=m) FK (iB _) (iJ _) yk) ?_;rintro v6 h6 n6 k6 q6;have q7:Rg h6 n6 v6 (m:Int):=by simpa using q6
 simp[];refine au (Nl q7 (by rw[dT,hL];exact CH)) ?_;rintro _ h7 n7 k7 rfl;rw[Ee];simp[jJ,dq,b2,ay];exact(K5.trans k6).trans k7
def Zvi(hx:Rg h N x P)(hy:Rg h N y Q)(qQ:Q<0)(l3:(ds P.natAbs).length<100000000000)(l4:(ds Q.natAbs).length<100000000000):Fn A.C 51 [x,y] h N (fun u _ _=>u=.str (aI (Rat.divInt P Q))):=by
 intro w;obtain⟨u0,rfl,nL⟩:=hx;obtain⟨v0,rfl,nW⟩:=hy;have o1:=Sl.form nL |>.one;have o2:=Sl.form nL |>.cells;have o3:=Sl.form nW |>.one;have o4:=Sl.form nW |>.cells;unfold V.one at o1 o3;unfold V.cells at o2 o4;have jP:Rg h N (.agg [.bool (decide (P<0)),u0]) P:=⟨u0,rfl,nL⟩;have zr:Rg h N (.agg [.bool true,v0]) Q:=⟨v0,by simp[qQ],nW⟩;rw[show decide (Q<0)=true by simp[qQ]];have kA:=(((ab.refl (h:=h) (n:=N)).new (.cells [.bool (decide (P<0)),u0] 80 true)).new (.cells [.bool true,v0] 80 true));rw[aP,A.k51 (by simp)];simp[A.b51,o1,o3,aS,aO];generalize hA:(h.set N (.cells [.bool (decide (P<0)),u0] 80 true)).set (N+1) (.cells [.bool true,v0] 80 true)=HA at*;have gN0:HA.get N=some (.cells [.bool (decide (P<0)),u0] 80 true):=by rw[<-hA];simp
 have gM0:HA.get (N+1)=some (.cells [.bool true,v0] 80 true):=by rw[<-hA];simp
 refine au (Yad (jP.ad kA) (by omega)) ?_;rintro _ m1 t1 j1 q1;obtain⟨a,ha⟩:∃a,a= -P:=⟨_,rfl⟩;rw[<-ha]at q1;obtain⟨u,rfl,Aj⟩:=q1;have i1:=j1.le;have HT:=(j1.get N (by omega)).trans gN0;have KU:=(j1.get (N+1) (by omega)).trans gM0;simp[KU,aS,aO];refine au (Yad ((zr.ad kA).ad j1) (by omega)) ?_;rintro _ m2 t2 j2 q2;obtain⟨b,nT⟩:∃b,b= -Q:=⟨_,rfl⟩;rw[<-nT]at q2;have hb:0<b:=by omega
 obtain⟨v,rfl,l8⟩:=q2;rw[show decide (b<0)=false by simp;omega];have eF:Rat.divInt P Q=Rat.divInt a b:=by rw[ha,nT];exact(Rat.neg_divInt_neg P Q).symm
 rw[eF];have n1:=Ywk (b:=decide (P<0)) (Sl.form nL);have n2:=Ywk (b:=true) (Sl.form nW);have i2:=j2.le;have LJ:=(j2.get N (by omega)).trans HT;have KV:=(j2.get (N+1) (by omega)).trans KU;have s1:=Sl.form Aj |>.one;have s2:=Sl.form Aj |>.cells;have s3:=Sl.form l8 |>.one;have s4:=Sl.form l8 |>.cells;unfold V.one at s1 s3;unfold V.cells at s2 s4;have g1:N+1<t1:=by omega
 have g2:N+1<t2:=by omega
 have g3:N<t2:=by omega
 simp[LJ,KV,s1,s3,ae,bM,aS,c9.c_,g1,g2,g3];have gM3:(m2.set N (.cells [.bool (decide (a<0)),u] 80 true)).get (N+1)=some (.cells [.bool true,v0] 80 true):=by rw[T.ag,ak (by omega)];exact KV
 have kB:=((((kA.trans j1).trans j2).set (i:=N) (o:=.cells [.bool (decide (a<0)),u] 80 true) (by omega))).set (i:=N+1) (o:=.cells [.bool false,v] 80 true) (by omega);have hu:=Sl.setInt (Sl.setInt (Aj.ad j2) LJ n1 (c1:=[.bool (decide (a<0)),u]) (e1:=80) (w1:=true) rfl) gM3 n2 (c1:=[.bool false,v]) (e1:=80) (w1:=true) rfl;have hv:=Sl.setInt (Sl.setInt l8 LJ n1 (c1:=[.bool (decide (a<0)),u]) (e1:=80) (w1:=true) rfl) gM3 n2 (c1:=[.bool false,v]) (e1:=80) (w1:=true) rfl;generalize hB:(m2.set N (.cells [.bool (decide (a<0)),u] 80 true)).set (N+1) (.cells [.bool false,v] 80 true)=HB at*;have gN:HB.get N=some (.cells [.bool (decide (a<0)),u] 80 true):=by rw[<-hB];simp
 have gM:HB.get (N+1)=some (.cells [.bool false,v] 80 true):=by rw[<-hB];simp
 have ea:a.natAbs=P.natAbs:=by omega
 have eb:b.natAbs=Q.natAbs:=by omega
 rw[<-ea]at l3;rw[<-eb]at l4;have l1:(ds a.natAbs).length<1000000000000:=by omega
 have l2:(ds b.natAbs).length<1000000000000:=by omega
 clear o1 o2 o3 o4;have o1:=s1;have o2:=s2;have o3:=s3;have o4:=s4;clear s1 s2 s3 s4 gM3 LJ KV HT KU gN0 gM0 n1 n2 hA eF;refine au (VO hu hv l1 l2) ?_;rintro v1 h1 n1 k1 q1;have HT:=(k1.get N (by omega)).trans gN;have KU:=(k1.get (N+1) (by omega)).trans gM;have uN:0<Nat.gcd a.natAbs b.natAbs:=TR _ (by omega);have lg:(ds (Nat.gcd a.natAbs b.natAbs)).length<1000000000000:=pT (wC (Nat.gcd_le_right _ (by omega))) l2;have yJ:=k1.le;simp[HT,aS];refine au (RF (hu.ad k1) q1 uN l1 lg) ?_;rintro _ h2 n2 k2 ⟨q,r1,rfl,q2, -⟩;have KV:=(k2.get (N+1) (by omega)).trans KU;have lf:=k2.le;simp[KV,aS];refine au (RF ((hv.ad k1).ad k2) (q1.ad k2) uN l2 lg) ?_;rintro _ h3 n3 k3 ⟨d,r2,rfl,q3, -⟩;have gN3:=(k3.get N (by omega)).trans ((k2.get N (by omega)).trans HT);have yG:=k3.le;rw[Sa hb]at q3;have lq:(ds (a.natAbs/Nat.gcd a.natAbs b.natAbs)).length<100000000000:=pT (wC (xy _ _)) l3;have CH:(ds (Rat.divInt a b).den).length<100000000000:=by rw[<-Sa hb];exact pT (wC (xy _ _)) l4
 simp[gN3,aS];refine au (zn (n:=a.natAbs/Nat.gcd a.natAbs b.natAbs) (q2.ad k3) (iB _) (iJ _) (by omega)) ?_;rintro v4 h4 n4 k4 q4;have Bj:=k4.le;rw[KT hb]at q4;simp[];refine au (Nl q4 (by rw[<-KT hb];split<;>(first|rw[zY,dT]|rw[dT])<;>exact lq)) ?_;rintro _ h5 n5 k5 rfl;have Ix:=k5.le;obtain⟨m,hm⟩:∃m,(Rat.divInt a b).den=m:=⟨_,rfl⟩;have jU:0<m:=by rw[<-hm];exact Rat.den_pos _
 rw[hm]at q3 CH;have cv:=Yit (z:=(Rat.divInt a b).num);have KW:(ds (Rat.divInt a b).num.natAbs).length<100000000000:=by rw[<-KT hb];split<;>(first|rw[zY,dT]|rw[dT])<;>exact lq
 have nN:aI (Rat.divInt a b)=if m=1 then aM (Rat.divInt a b).num else aM (Rat.divInt a b).num++47::aq m:=by unfold aI;rw[hm]
 rw[nN];generalize aM (Rat.divInt a b).num=s at*;have FK:Dn h5 n5 d m:=(q3.ad k4).ad k5;have ld:=Sl.len FK;rw[jo]at ld;have qz:(ds m).length≠0:=fun hc=>(by omega:m≠0) (EN.1 (tC hc));have hg:=UM (i:=0) (n:=m) (by omega);rw[GB,Nat.div_one]at hg;obtain⟨e,he⟩:∃e,m%1000000000=e:=⟨_,rfl⟩;rw[he]at hg;have vf:m=1↔(ds m).length=1/\e=1:=Yo5 jU he;obtain⟨i,o,c,te,rw_,p1,p2,p3,p4⟩:=Sl.at FK (jq hg);rw[iX]at p4;obtain⟨L,hL⟩:∃L,(ds m).length=L:=⟨_,rfl⟩;rw[hL]at ld vf;have kM:=RU (n:=m);rw[hL]at kM CH;have dq:IntKind.max .i64=9223372036854775807:=rfl;have b1:¬(9223372036854775807:Int)<(s.length:Int)+1:=by omega
 have b2:¬(9223372036854775807:Int)<(s.length:Int)+1+((aq m).length:Int):=by omega
 have Ee:aM (m:Int)=aq m:=by unfold aM;rw[ak (by omega),dT]
 have yk:(ds m).length<1152921504606846976:=by omega
 have K5:ab h N h5 n5:=((((kB.trans k1).trans k2).trans k3).trans k4).trans k5;by_cases rA:m=1
 ·obtain⟨rfl,rfl⟩:=vf.1 rA;rw[av rA];clear cv KW kM b1 b2 yk CH;simp[ld,p1,p3,p4,ay];exact K5
 rw[ak rA];by_cases Ni:L=1
 ·have he1:¬e=1:=fun hc=>rA (vf.2 ⟨Ni,hc⟩);have wZ:¬(e:Int)=1:=by omega
  subst Ni;clear cv KW kM;simp[ld,p1,p3,p4,wZ,jJ,dq,b1];refine au (zn (b:=false) (n:=m) FK (iB _) (iJ _) yk) ?_;rintro v6 h6 n6 k6 q6;have q7:Rg h6 n6 v6 (m:Int):=by simpa using q6
  simp[];refine au (Nl q7 (by rw[dT,hL];exact CH)) ?_;rintro _ h7 n7 k7 rfl;rw[Ee];simp[jJ,dq,b2,ay];exact(K5.trans k6).trans k7
 have hL2:¬(L:Int)=1:=by omega
 clear cv KW kM;simp[ld,hL2,jJ,dq,b1];refine au (zn (b:=false) (n:=m) FK (iB _) (iJ _) yk) ?_;rintro v6 h6 n6 k6 q6;have q7:Rg h6 n6 v6 (m:Int):=by simpa using q6
 simp[];refine au (Nl q7 (by rw[dT,hL];exact CH)) ?_;rintro _ h7 n7 k7 rfl;rw[Ee];simp[jJ,dq,b2,ay];exact(K5.trans k6).trans k7
def Zpr(hx:Rg h N x a)(hy:Rg h N y b)(hb:b≠0)(l3:(ds a.natAbs).length<100000000000)(l4:(ds b.natAbs).length<100000000000):Fn A.C 51 [x,y] h N (fun u _ _=>u=.str (aI (Rat.divInt a b))):=by
 rcases Int.lt_or_gt_of_ne hb with hb|hb
 ·exact Zvi hx hy hb l3 l4
 exact Zvh hx hy hb l3 l4
def A.Sb:=A.q Tryz.f127
def A.uw:=A.ql A.Sb 0 []
def A.b127:=(fun x0=>A.qb A.Sb [x0]) A.uw
def A.k127:=@A.kk 127 12 [.tmp 4] A.b127 (by kernel_rfl) rfl
def Yhx{a b:Nat}{st:St}(ha:a<9223372036854775808)(hb:b<9223372036854775808):A.C.call (.func 127 [] []) [.int .i64 a,.int .i64 b] st=some (.int .i64 (Nat.gcd a b:Nat),st):=by
 apply Call.eq;rw[aP,A.k127 (by simp)];simp[A.b127];refine cB [(0,1),(5,10)] (fun e r s1=>s1=⟨st.h,st.n,[]⟩/\e=.exit 0/\r.get 0=some (.int .i64 (Nat.gcd a b:Nat))) (fun q r s1=>s1=⟨st.h,st.n,[]⟩/\q<9223372036854775808/\r.get 1=some (.int .i64 q)/\∃k:Nat,k<9223372036854775808/\r.get 0=some (.int .i64 k)/\Nat.gcd k q=Nat.gcd a b) b ?_ ?_ ?_
 ·exact⟨rfl,hb,by simp,a,ha,by simp,rfl⟩
 ·rintro q r _ hr hf ⟨rfl,hq,h1,k,hk,h0,hg⟩;rw[bG];by_cases hz:q=0
  ·subst hz;rw[Nat.gcd_zero_right]at hg;simp[A.uw,hf,h0,h1,hg]
  have i1:(0:Int)<(q:Int):=by omega
  have i2:0<q:=by omega
  have i3:¬(q:Int)=0:=by omega
  have t1:(k:Int).tmod q=((k%q:Nat):Int):=by rw[Gq (by omega)];omega
  have t2:bn .i64 ((k%q:Nat):Int)=((k%q:Nat):Int):=cN (by omega) (by have:=m_ k i2;omega);have aD:=m_ k i2;simp[A.uw,hf,h0,h1,i2,hz,t1,c9.c_];exact⟨k%q,aD,by omega,by simp,q,hq,rfl,by rw[<-hg,Nat.gcd_comm k q,Nat.gcd_rec q k,Nat.gcd_comm]⟩
 rintro _ r _ hr ⟨rfl,rfl,h0⟩;simp[h0]
def A.b49:=A.q Tryz.f49
def A.k49:=@A.kk 49 61 [.tmp 4] A.b49 (by kernel_rfl) rfl
def HU:Dl [.int .i64 z,.int .i64 (-z)]=some (.int .i64 (z.natAbs:Nat)):=by have h:Dl [.int .i64 z,.int .i64 (-z)]=some (.int .i64 (if z< -z then -z else z)):=rfl;rw[h];congr 2;split<;>omega
def Yo2(hm:0<m):(Rat.divInt a m).num=a.tdiv (Nat.gcd a.natAbs m:Nat)/\(Rat.divInt a m).num.natAbs<=a.natAbs/\(Rat.divInt a m).den=m/Nat.gcd a.natAbs m:=by
 have hb:(0:Int)<(m:Int):=by omega
 have h1:=KT (a:=a) hb;have h2:=Sa (a:=a) hb;rw[dT]at h1 h2;have hd:((Nat.gcd a.natAbs m:Nat):Int)∣a:=Int.gcd_dvd_left (a:=a) (b:=(m:Int));refine⟨?_,?_,h2.symm⟩
 ·rw[Int.tdiv_eq_ediv_of_dvd hd,Rat.num_divInt,Int.sign_eq_one_of_pos hb,Int.one_mul,Int.gcd_comm];rfl
 rw[<-h1];have:=xy a.natAbs (Nat.gcd a.natAbs m);generalize a.natAbs/Nat.gcd a.natAbs m=k at*;split
 ·rw[zY,dT];exact this
 rw[dT];exact this
def Ywh{st:St}(hm:0<m)(h1: -4000000000000000000<=a)(h2:a<=4000000000000000000)(h3:m<=4000000000000000000):A.C.call (.func 49 [] []) [.int .i64 a,.int .i64 m] st=some (.str (aI (Rat.divInt a m)),st):=by
 apply Call.eq;rw[aP,A.k49 (by simp)];have c1:¬a< -4000000000000000000:=by omega
 have c2:¬4000000000000000000<a:=by omega
 have c3:¬(m:Int)< -4000000000000000000:=by omega
 have c4:¬4000000000000000000<(m:Int):=by omega
 have c5:¬(m:Int)<0:=by omega
 have w1:bn .i64 (-a)= -a:=cN (by omega) (by omega);have w2:bn .i64 (0-a)= -a:=by rw[Int.zero_sub];exact w1
 have hg:=fun st=>Yhx (a:=a.natAbs) (b:=m) (st:=st) (by omega) (by omega);obtain⟨e1,e2,e3⟩:=Yo2 (a:=a) hm;have A2:0<(Rat.divInt a m).den:=Rat.den_pos _;have nN:aI (Rat.divInt a m)=if (Rat.divInt a m).den=1 then aM (Rat.divInt a m).num else aM (Rat.divInt a m).num++47::aq (Rat.divInt a m).den:=rfl
 rw[nN];clear nN;have jG:0<Nat.gcd a.natAbs m:=TR _ hm;generalize (Rat.divInt a m).num=P at*;generalize (Rat.divInt a m).den=D at*;generalize Nat.gcd a.natAbs m=g at*;have hDm:D<=m:=by rw[e3];exact xy _ _
 have e4:(m:Int).tdiv (g:Int)=(D:Int):=by rw[Dd (by omega),e3];rfl
 have g0:¬(g:Int)=0:=by omega
 have g1:¬g=0:=by omega
 have v1:bn .i64 P=P:=cN (by omega) (by omega);have v2:bn .i64 (-P)= -P:=cN (by omega) (by omega);have v3:bn .i64 (D:Int)=(D:Int):=cN (by omega) (by omega);have d1:∀st,A.C.call (.func 128 [] []) [.int .i64 (P.natAbs:Nat),.int .i64 1] st=some (.str (aq P.natAbs),st):=fun st=>(Nk (n:=P.natAbs) (m:=1) (st:=st) (by omega) (by omega)).trans (by rw[Qi]);have d2:∀st,A.C.call (.func 128 [] []) [.int .i64 D,.int .i64 1] st=some (.str (aq D),st):=fun st=>(Nk (n:=D) (m:=1) (st:=st) (by omega) (by omega)).trans (by rw[Qi]);have x1:(aq P.natAbs).length<30:=by have:(dC P.natAbs).length<=19:=rI.1 (by omega);unfold aq;split<;>simp;omega
 have x2:(aq D).length<30:=by have:(dC D).length<=19:=rI.1 (by omega);unfold aq;split<;>simp;omega
 have dq:IntKind.max .i64=9223372036854775807:=rfl;have y1:¬(9223372036854775807:Int)<((aq P.natAbs).length:Int):=by omega
 have y2:¬(9223372036854775807:Int)<1+((aq P.natAbs).length:Int):=by omega
 have z1:D=1\/(¬D=1/\1<D):=by omega
 rcases z1 with rfl|⟨z1,z2⟩<;>by_cases hP:P<0
 ·simp[A.b49,c1,c2,c3,c4,c5,w1,tG,HU,hg,<-e1,e4,g1,v1,v2,hP,d1,jJ,dq,y2,aM,c9.c_]
 ·simp[A.b49,c1,c2,c3,c4,c5,w1,tG,HU,hg,<-e1,e4,g1,v1,v2,hP,d1,jJ,dq,y1,aM,c9.c_]
 ·have z3:(1:Int)<(D:Int):=by omega
  have y3:¬(9223372036854775807:Int)<((aq P.natAbs).length:Int)+1+1:=by omega
  have y4:¬(9223372036854775807:Int)<((aq P.natAbs).length:Int)+1+1+((aq D).length:Int):=by omega
  simp[A.b49,c1,c2,c3,c4,c5,w1,tG,HU,hg,<-e1,e4,g1,v1,v2,v3,hP,d1,d2,jJ,dq,y2,aM,c9.c_,z1,z3,y3,y4]
 have z3:(1:Int)<(D:Int):=by omega
 have y3:¬(9223372036854775807:Int)<((aq P.natAbs).length:Int)+1:=by omega
 have y4:¬(9223372036854775807:Int)<((aq P.natAbs).length:Int)+1+((aq D).length:Int):=by omega
 simp[A.b49,c1,c2,c3,c4,c5,w1,tG,HU,hg,<-e1,e4,g1,v1,v2,v3,hP,d1,d2,jJ,dq,y1,aM,c9.c_,z1,z3,y3,y4]
def Ywi{p q:Int}{st:St}(hq:q<0)(h1: -4000000000000000000<=p)(h2:p<=4000000000000000000)(h3: -4000000000000000000<=q):A.C.call (.func 49 [] []) [.int .i64 p,.int .i64 q] st=some (.str (aI (Rat.divInt p q)),st):=by
 apply Call.eq;rw[aP,A.k49 (by simp)];have c1:¬p< -4000000000000000000:=by omega
 have c2:¬4000000000000000000<p:=by omega
 have c3:¬q< -4000000000000000000:=by omega
 have c4:¬4000000000000000000<q:=by omega
 obtain⟨a,ha⟩:∃a,a= -p:=⟨_,rfl⟩;obtain⟨m,rA⟩:∃m:Nat,(m:Int)= -q:=⟨(-q).toNat,by omega⟩;have hm:0<m:=by omega
 have c5:bn .i64 (-p)=a:=by rw[<-ha];exact cN (by omega) (by omega)
 have c6:bn .i64 (-q)=(m:Int):=by rw[<-rA];exact cN (by omega) (by omega)
 have eF:Rat.divInt p q=Rat.divInt a m:=by rw[ha,rA];exact(Rat.neg_divInt_neg p q).symm
 rw[eF];clear eF;have w1:bn .i64 (-a)= -a:=cN (by omega) (by omega);have w2:bn .i64 (0-a)= -a:=by rw[Int.zero_sub];exact w1
 have hg:=fun st=>Yhx (a:=a.natAbs) (b:=m) (st:=st) (by omega) (by omega);obtain⟨e1,e2,e3⟩:=Yo2 (a:=a) hm;have A2:0<(Rat.divInt a m).den:=Rat.den_pos _;have nN:aI (Rat.divInt a m)=if (Rat.divInt a m).den=1 then aM (Rat.divInt a m).num else aM (Rat.divInt a m).num++47::aq (Rat.divInt a m).den:=rfl
 rw[nN];clear nN;have jG:0<Nat.gcd a.natAbs m:=TR _ hm;generalize (Rat.divInt a m).num=P at*;generalize (Rat.divInt a m).den=D at*;generalize Nat.gcd a.natAbs m=g at*;have hDm:D<=m:=by rw[e3];exact xy _ _
 have e4:(m:Int).tdiv (g:Int)=(D:Int):=by rw[Dd (by omega),e3];rfl
 have g0:¬(g:Int)=0:=by omega
 have g1:¬g=0:=by omega
 have v1:bn .i64 P=P:=cN (by omega) (by omega);have v2:bn .i64 (-P)= -P:=cN (by omega) (by omega);have v3:bn .i64 (D:Int)=(D:Int):=cN (by omega) (by omega);have d1:∀st,A.C.call (.func 128 [] []) [.int .i64 (P.natAbs:Nat),.int .i64 1] st=some (.str (aq P.natAbs),st):=fun st=>(Nk (n:=P.natAbs) (m:=1) (st:=st) (by omega) (by omega)).trans (by rw[Qi]);have d2:∀st,A.C.call (.func 128 [] []) [.int .i64 D,.int .i64 1] st=some (.str (aq D),st):=fun st=>(Nk (n:=D) (m:=1) (st:=st) (by omega) (by omega)).trans (by rw[Qi]);have x1:(aq P.natAbs).length<30:=by have:(dC P.natAbs).length<=19:=rI.1 (by omega);unfold aq;split<;>simp;omega
 have x2:(aq D).length<30:=by have:(dC D).length<=19:=rI.1 (by omega);unfold aq;split<;>simp;omega
 have dq:IntKind.max .i64=9223372036854775807:=rfl;have y1:¬(9223372036854775807:Int)<((aq P.natAbs).length:Int):=by omega
 have y2:¬(9223372036854775807:Int)<1+((aq P.natAbs).length:Int):=by omega
 have z1:D=1\/(¬D=1/\1<D):=by omega
 rcases z1 with rfl|⟨z1,z2⟩<;>by_cases hP:P<0
 ·simp[A.b49,c1,c2,c3,c4,c5,c6,hq,w1,tG,HU,hg,<-e1,e4,g1,v1,v2,hP,d1,jJ,dq,y2,aM,c9.c_]
 ·simp[A.b49,c1,c2,c3,c4,c5,c6,hq,w1,tG,HU,hg,<-e1,e4,g1,v1,v2,hP,d1,jJ,dq,y1,aM,c9.c_]
 ·have z3:(1:Int)<(D:Int):=by omega
  have y3:¬(9223372036854775807:Int)<((aq P.natAbs).length:Int)+1+1:=by omega
  have y4:¬(9223372036854775807:Int)<((aq P.natAbs).length:Int)+1+1+((aq D).length:Int):=by omega
  simp[A.b49,c1,c2,c3,c4,c5,c6,hq,w1,tG,HU,hg,<-e1,e4,g1,v1,v2,v3,hP,d1,d2,jJ,dq,y2,aM,c9.c_,z1,z3,y3,y4]
 have z3:(1:Int)<(D:Int):=by omega
 have y3:¬(9223372036854775807:Int)<((aq P.natAbs).length:Int)+1:=by omega
 have y4:¬(9223372036854775807:Int)<((aq P.natAbs).length:Int)+1+((aq D).length:Int):=by omega
 simp[A.b49,c1,c2,c3,c4,c5,c6,hq,w1,tG,HU,hg,<-e1,e4,g1,v1,v2,v3,hP,d1,d2,jJ,dq,y1,aM,c9.c_,z1,z3,y3,y4]
def Ywj{p q:Int}{st:St}(hq:q≠0)(h1: -4000000000000000000<=p)(h2:p<=4000000000000000000)(h3: -4000000000000000000<=q)(h4:q<=4000000000000000000):A.C.call (.func 49 [] []) [.int .i64 p,.int .i64 q] st=some (.str (aI (Rat.divInt p q)),st):=by
 rcases Int.lt_or_gt_of_ne hq with hq|hq
 ·exact Ywi hq h1 h2 h3
 obtain⟨m,rfl⟩:∃m:Nat,q=(m:Int):=⟨q.toNat,by omega⟩;exact Ywh (by omega) h1 h2 (by omega)
def A.Sd:=A.q Tryz.f126
def A.po:=A.ql A.Sd 0 []
def A.b126:=(fun x0=>A.qb A.Sd [x0]) A.po
def A.k126:=@A.kk 126 25 [.cell 2 (some 2)] A.b126 (by kernel_rfl) rfl
def Yga{s:aH}(hd:cO s=true)(h1:1<=s.length)(h2:s.length<=3000000000):Fn A.C 129 [.str (45::s)] h N (fun v h' n'=>Rg h' n' v (-((aE s:Nat):Int))):=by
 intro w;have a1:cZ 45=45:=rfl;have a2:(1:Int)<=(s.length:Int)+1:=by omega
 have a3:∀st:St,uS st (some (.str (45::s))) (some (some (.int .i64 1))) (some none)=some (.str s,st):=fun st=>by rw[HJ (by omega) (by simp only[bl];omega)];rfl
 rw[aP,A.k129 (by simp)];simp[A.b129,a1,a3,aC];refine cB [(0,0),(4,4),(16,32)] (fun e r st=>e=.exit 0/\∃m,m<=9/\VQ (h.set N (.cells [.bool false,.aa] 80 true)) (N+1) s m r st) (VQ (h.set N (.cells [.bool false,.aa] 80 true)) (N+1) s) s.length ?_ ?_ ?_
 ·exact⟨by simp,ab.refl,s,.aa,[],by simp,rfl,h1,aN _,hd,by simp,Own.nil,Di.nil,by simp,by simp[vI,pI]⟩
 ·rintro m r ⟨H,n1,W⟩ hr hf ⟨hW,hK,cur,u,l,g0,cy,m1,m2,rk,g4,ho,jL,jX,hv⟩;simp only at hW hK ho;subst cy;rw[bG];by_cases h9:9<cur.length
  ·have KO:(9:Int)<(cur.length:Int):=by omega
   have iy:=hK.le;have KP:=Pa (s:=cur.drop (cur.length-9)) (st:=⟨H,n1,W⟩) (VP rk _) (by simp;omega);have Fe:((cur.length:Int)-9).toNat=cur.length-9:=by omega
   have HS:=Dy (VP rk (cur.length-9));have kM:(cur.drop (cur.length-9)).length=9:=by simp;omega
   rw[kM]at HS;have iw:=Zz6 (cur.take (cur.length-9)) (cur.drop (cur.length-9));rw[Et,kM,show (10:Nat)^9=1000000000 by decide]at iw;generalize hD:aE (cur.drop (cur.length-9))=D at*;obtain⟨v',h',w',e1,e2,e3,e4,e5⟩:=Az (x:=[.int .i64 (D:Int)]) (u:=.slice n1 0 1 (some 1) 1) (bytes:=8) (w:=W) (ho.ad (ab.refl.new (.cells [.int .i64 (D:Int)] 3 true))) (by omega) (by decide) rfl (by simp[fO,St.row,aO]) (by rw[ER];omega);rw[<-GN]at e5;simp(disch:=first|(simp;done)|omega|rfl) [A.mJ,hf,g0,g4,KO,Fe,aC,KP,ae,e1];refine⟨cur.length-9,by omega,⟨by rw[e2];exact hW,(hK.new _).then e3,cur.take (cur.length-9),v',l++[(D:Int)],by simp,by simp,by omega,by omega,Zv2 rk _,by simp,e5,jL.app (Di.one (by omega) (by omega)),by simp;omega,?_⟩⟩;rw[EL,iU,AH,xC,<-hv];have KQ:((aE cur:Nat):Int)=(aE (cur.take (cur.length-9)):Nat)*1000000000+D:=by omega
   rw[KQ];generalize ((aE (cur.take (cur.length-9)):Nat):Int)=X;generalize pI l.length=P;grind
  have KO:¬(9:Int)<(cur.length:Int):=by omega
  simp[A.mJ,hf,g0,KO];exact⟨cur.length,by omega,hW,hK,cur,u,l,by simp[g0],rfl,m1,m2,rk,by simp[g4],ho,jL,jX,hv⟩
 rintro _ r ⟨H,n1,W⟩ hr ⟨rfl,m,m9,hW,hK,cur,u,l,g0,cy,m1,m2,rk,g4,ho,jL,jX,hv⟩;simp only at hW hK ho;subst cy;have iy:=hK.le;have KP:=Pa (s:=cur) (st:=⟨H,n1,W⟩) rk (by omega);have HS:=Dy rk;have hp9:=T5 m9;generalize hD:aE cur=D at*;obtain⟨v',h',w',e1,e2,e3,e4,e5⟩:=Az (x:=[.int .i64 (D:Int)]) (u:=.slice n1 0 1 (some 1) 1) (bytes:=8) (w:=W) (ho.ad (ab.refl.new (.cells [.int .i64 (D:Int)] 3 true))) (by omega) (by decide) rfl (by simp[fO,St.row,aO]) (by rw[ER];omega);rw[<-GN]at e5;simp[hr,g0,g4,KP,ae,e1];have nA:Di (l++[(D:Int)]):=jL.app (Di.one (by omega) (by omega));refine au (zn (b:=true) (n:=aE s) e5.sl nA (by rw[EL];exact hv) (by simp;omega)) ?_;rintro y h5 n5 k5 hy;have kk:=((hK.new (.cells [.int .i64 (D:Int)] 3 true)).then e3).trans k5;have xS:=kk.le;have qE:=kk.get N (by omega);simp at qE;obtain⟨u5,rfl,CD⟩:=hy;have KC:=fun c1 (hc:c1.length=2)=>Sl.setInt (i:=N) (c1:=c1) (e1:=80) (w1:=true) CD qE (by intro x hx k m;simp at hx;rcases hx with rfl|rfl<;>simp) hc;have DR:=Sl.form CD |>.one;unfold V.one at DR;have ow:az N w'=[]:=RD (vY N) (by rw[e2];exact hW);have k0:=(ab.refl (h:=h) (n:=N)).new (.cells [.bool false,.aa] 80 true);simp[hr,qE,ae,bM,DR,aS,aO,ay,ow];exact⟨(k0.trans kk).set (aN N),u5,by simp,by simpa[Dn]using KC _ rfl⟩
structure WhI (h:T O) (N a:Nat) (neg:Bool) (m:Nat) (r:T V) (st:St):Prop where
 w:az N st.w=[]
 ad:ab h N st.h st.n
 ex:∃z u l,z.natAbs=m/\m<=a/\(z<0->neg=true)/\(0<z->neg=false)/\r.get 0=some (.int .i64 z)/\r.get 3=some u/\Own 1 3 N st.h st.n u (rF l)/\Di l/\vI l+pI l.length*m=a/\l.length<=100/\(m≠0->pI l.length<=a)
def Yfo(h1: -9223372036854775808<=z)(h2:z<9223372036854775808):Fn A.C 126 [.int .i64 z] h N (fun v h' n'=>Rg h' n' v z):=by
 intro w;rw[aP,A.k126 (by simp)];have kB:=(ab.refl (h:=h) (n:=N)).new (.cells [.bool false,.aa] 80 true);simp[A.b126];refine cB [(0,0),(3,3),(5,5),(8,21)] (fun e r st=>e=.exit 0/\WhI (h.set N (.cells [.bool false,.aa] 80 true)) (N+1) z.natAbs (decide (z<0)) 0 r st) (WhI (h.set N (.cells [.bool false,.aa] 80 true)) (N+1) z.natAbs (decide (z<0))) z.natAbs ?_ ?_ ?_
 ·exact⟨by simp,ab.refl,z,.aa,[],rfl,aN _,fun h=>by simp[h],fun h=>by simp;omega,by simp,by simp,Own.nil,Di.nil,by simp[vI,pI],by simp,fun h=>by simp[pI];omega⟩
 ·rintro m r ⟨H,n1,W⟩ hr hf ⟨hW,hK,y,u,l,rfl,hm,zi,gE,g0,g3,ho,hd,hv,hl,hp⟩;simp only at hW hK ho;rw[bG];by_cases hy:y=0
  ·subst hy;simp[A.po,hf,g0];exact⟨hW,hK,0,u,l,rfl,by omega,zi,gE,by simp[g0],by simp[g3],ho,hd,hv,hl,hp⟩
  have iy:=hK.le;obtain⟨d,qG⟩:∃d:Nat,d=y.natAbs%1000000000:=⟨_,rfl⟩;obtain⟨q,w_⟩:∃q:Nat,q=y.natAbs/1000000000:=⟨_,rfl⟩;have kM:d<1000000000:=by omega
  have Bw:(y.tdiv 1000000000).natAbs=q:=by rw[Int.natAbs_tdiv];exact w_.symm
  have jR:(y.tmod 1000000000).natAbs=d:=by rw[Int.natAbs_tmod];exact qG.symm
  have ZN:(y<0->y.tdiv 1000000000<=0)/\(0<y->0<=y.tdiv 1000000000):=by
   constructor
   ·intro h;have:(-y).tdiv 1000000000= -(y.tdiv 1000000000):=Int.neg_tdiv _ _;have h3:0<=(-y).tdiv 1000000000:=Int.tdiv_nonneg (by omega) (by omega);omega
   intro h;exact Int.tdiv_nonneg (by omega) (by omega)
  have hms:(y<0->y.tmod 1000000000<=0)/\(0<y->0<=y.tmod 1000000000):=by
   constructor
   ·intro h;have:(-y).tmod 1000000000= -(y.tmod 1000000000):=Int.neg_tmod _ _;have h3:0<=(-y).tmod 1000000000:=Int.tmod_nonneg _ (by omega);omega
   intro h;exact Int.tmod_nonneg _ (by omega)
  generalize hyq:y.tdiv 1000000000=Y at*;generalize hym:y.tmod 1000000000=D at*;have w1:bn .i64 Y=Y:=cN (by omega) (by omega);have w2:bn .i64 (0-D)= -D:=by rw[Int.zero_sub];exact cN (by omega) (by omega)
  have w3:bn .i64 (-D)= -D:=cN (by omega) (by omega);have hlen:l.length+1<=100:=by
   apply Classical.byContradiction;intro hc;have h5:l.length=100:=by omega
   have h6:=hp (by omega);rw[h5,UO]at h6;have h7:(1000000000^100:Nat)<=z.natAbs:=by exact_mod_cast h6
   have h8:(9223372036854775808:Nat)<1000000000^100:=by decide
   omega
  obtain⟨v',h',w',e1,e2,e3,e4,e5⟩:=Az (x:=[.int .i64 (d:Int)]) (u:=.slice n1 0 1 (some 1) 1) (bytes:=8) (w:=W) (ho.ad (ab.refl.new (.cells [.int .i64 (d:Int)] 3 true))) (by omega) (by decide) rfl (by simp[fO,St.row,aO]) (by rw[ER];omega);rw[<-GN]at e5;have jj:vI (l++[(d:Int)])+pI (l++[(d:Int)]).length*(q:Int)=z.natAbs:=by
   rw[EL,iU,AH,xC,<-hv];have:(y.natAbs:Int)=1000000000*(q:Int)+d:=by omega
   rw[this];generalize pI l.length=P;grind
  have hqa:q<y.natAbs:=by omega
  have Eg:q≠0->pI (l++[(d:Int)]).length<=z.natAbs:=fun hq=>by have h3:0<=vI (l++[(d:Int)]):=xD (hd.app (Di.one (by omega) (by omega)));have h4:0<pI (l++[(d:Int)]).length:=EK _;have h5:pI (l++[(d:Int)]).length*1<=pI (l++[(d:Int)]).length*(q:Int):=tD (by omega) (by omega);omega
  have fin:WhI (h.set N (.cells [.bool false,.aa] 80 true)) (N+1) z.natAbs (decide (z<0)) q ((r.set 3 v').set 0 (.int .i64 Y)) ⟨h',n1+1+1,w'⟩:=⟨by rw[e2];exact hW,(hK.new _).then e3,Y,v',l++[(d:Int)],Bw,by omega,fun h=>zi (by have:=ZN.2;omega),fun h=>gE (by have:=ZN.1;omega),by simp,by simp,e5,hd.app (Di.one (by omega) (by omega)),jj,by simp;omega,Eg⟩;obtain⟨f1,f2,f3⟩:=fin;by_cases hD:D<0
  ·have V4: -D=(d:Int):=by omega
   rw[V4]at w2 w3;simp[A.po,hf,g0,g3,hy,hyq,hym,hD,w1,w3,V4,ae,e1];exact⟨q,by omega,f1,f2,by simpa using f3⟩
  have V4:D=(d:Int):=by omega
  have hD':¬(d:Int)<0:=by omega
  simp[A.po,hf,g0,g3,hy,hyq,hym,hD',w1,V4,ae,e1];exact⟨q,by omega,f1,f2,by simpa using f3⟩
 rintro _ r ⟨H,n1,W⟩ hr ⟨rfl,hW,hK,y,u,l,hy,hm,zi,gE,g0,g3,ho,hd,hv,hl,hp⟩;simp only at hW hK ho;have h0:y=0:=by omega
 subst h0;have l8:vI l=(z.natAbs:Nat):=by simpa using hv
 simp[hr,g3];refine au (zn (n:=z.natAbs) ho.sl hd l8 (by omega)) ?_;rintro v5 h5 n5 k5 VN;have ez:(if decide (z<0)=true then -((z.natAbs:Nat):Int) else ((z.natAbs:Nat):Int))=z:=by by_cases h0:z<0<;>simp[h0]<;>omega
 rw[ez]at VN;have xS:=hK.le;have KH:=k5.le;have qE:=(k5.get N (by omega)).trans (hK.get N (by omega));rw[T.ag,av rfl]at qE;obtain⟨u5,rfl,CD⟩:=VN;have p1:=Sl.form CD |>.one;have p2:=Sl.form CD |>.cells;unfold V.one at p1;unfold V.cells at p2;have ow:az N W=[]:=RD (vY N) hW;simp[hr,qE,ae,bM,p1,aS,aO,ay,ow];exact⟨((kB.trans hK).trans k5).set (aN N),u5,by simp,Sl.setInt CD qE kr rfl⟩
def Zun(hl:(aM z).length<=2000000000):Fn A.C 129 [.str (aM z)] h N (fun v h' n'=>Rg h' n' v z):=by
 have h1:1<=(aq z.natAbs).length:=List.length_pos_iff.2 (J1 _);unfold aM at hl ⊢;by_cases hz:z<0
 ·rw[av hz]at hl ⊢;simp only[bl]at hl;have e: -((aE (aq z.natAbs):Nat):Int)=z:=by rw[Cs];omega
  have:=Yga (Am z.natAbs) h1 (by omega) (h:=h) (N:=N);rw[e]at this;exact this
 rw[ak hz]at hl ⊢;have e:((aE (aq z.natAbs):Nat):Int)=z:=by rw[Cs];omega
 have:=VS (Am z.natAbs) h1 (by omega) (h:=h) (N:=N);rw[e]at this;exact this
def Zum{h h2:T O}(hx:Sl h2 n2 x (dI (ds a.natAbs)))(hy:Sl h2 n2 y (dI (ds b.natAbs)))(r0:h2.get N=some (.cells [.bool false,.aa] 80 true))(r1:h2.get (N+1)=some (.cells [.bool false,.aa] 80 true)):Rg ((h2.set N (.cells [.bool (decide (a<0)),x] 80 true)).set (N+1) (.cells [.bool (decide (b<0)),y] 80 true)) n2 (.agg [.bool (decide (a<0)),x]) a/\Rg ((h2.set N (.cells [.bool (decide (a<0)),x] 80 true)).set (N+1) (.cells [.bool (decide (b<0)),y] 80 true)) n2 (.agg [.bool (decide (b<0)),y]) b:=by
 have RO:(h2.set N (.cells [.bool (decide (a<0)),x] 80 true)).get (N+1)=some (.cells [.bool false,.aa] 80 true):=by rw[T.ag,ak (by omega)];exact r1
 exact⟨⟨x,rfl,Sl.setInt (Sl.setInt hx r0 kr rfl) RO kr rfl⟩,⟨y,rfl,Sl.setInt (Sl.setInt hy r0 kr rfl) RO kr rfl⟩⟩
def V5{q:Rat}(l1:(aM q.num).length<=1000000000)(l2:(aq q.den).length<=1000000000):Fn A.C 50 [.str (aI q)] h N (fun v h' n'=>∃x y,v=.aU [x,y]/\Rg h' n' x q.num/\Rg h' n' y (q.den:Int)):=by
 intro w;have aD:(aI q).length<=3000000000:=by
  unfold aI;split
  ·omega
  simp only[iU,bl];omega
 have cv:=fun st=>GQ (s:=aI q) (st:=st) (by omega);have hsa:=MY q;have htk:=Qe q;have pG:=(ab.refl (h:=h) (n:=N)).new (.cells [.bool false,.aa] 80 true);have k0:=pG.new (.cells [.bool false,.aa] 80 true);have d4':¬N+1=N:=by omega
 have d5':¬N=N+1:=by omega
 rw[aP,A.k50 (by simp)];by_cases hd:q.den=1
 ·have he:ah (aI q)=(aI q).length:=by
   have:=Fi q;have h2:ah (aI q)<=(aI q).length:=by rw[hsa];unfold aI;rw[av hd];exact aN _
   omega
  have nN:aI q=aM q.num:=by unfold aI;rw[av hd]
  have c1:((ah (aI q):Int)=((aI q).length:Int)):=by omega
  rw[hd];simp[A.b50,cv,he];rw[nN];refine au (Zun (z:=q.num) (by omega)) ?_;rintro v1 h1 n1 k1 ⟨x,rfl,hx⟩;simp[];refine au (Yfo (z:=1) (by omega) (by omega)) ?_;rintro v2 h2 n2 k2 ⟨y,rfl,hy⟩;have gT:=k1.le;have jN:=k2.le;have hx:=Sl.ad hx k2;have r0:=(k2.get N (by omega)).trans (k1.get N (by omega));have r1:=(k2.get (N+1) (by omega)).trans (k1.get (N+1) (by omega));simp at r0 r1;have zy:=(Sl.form hx).one;have zz:=(Sl.form hy).one;have KJ:=(Sl.form hx).cells;have Eo:=(Sl.form hy).cells;unfold V.one at zy zz;unfold V.cells at KJ Eo;obtain⟨e1,e2⟩:=Zum (h:=h) (b:=1) hx hy r0 r1;have LD:N<n1:=by omega
  have Of:N<n2:=by omega
  have VT:N+1<n2:=by omega
  simp[r0,r1,ae,bM,zy,zz,aS,aO,ay];simp only[show decide ((1:Int)<0)=false from rfl]at e1 e2;exact⟨(((k0.trans k1).trans k2).set (by omega)).set (by omega),_,_,⟨rfl,rfl⟩,e1,e2⟩
 have fi:=(Fi q).2 hd;have zq:=Qf q hd;have c1:¬((ah (aI q):Int)=((aI q).length:Int)):=by omega
 have c2:¬(ah (aI q)=(aI q).length):=by omega
 have c3:(ah (aI q):Int)<=((aI q).length:Int):=by omega
 have c4:(ah (aI q):Int)+1<=((aI q).length:Int):=by omega
 have c5:((ah (aI q):Int)+1).toNat=ah (aI q)+1:=by omega
 have hnd:aE (aq q.den)=q.den:=Cs _;simp[A.b50,cv,c1,c3,aC,htk];refine au (Zun (z:=q.num) (by omega)) ?_;rintro v1 h1 n1 k1 ⟨x,rfl,hx⟩;simp(disch:=omega) [c5,aC,zq];refine au (VS (Am q.den) (List.length_pos_iff.2 (J1 _)) (by omega)) ?_;rintro v2 h2 n2 k2 hy;rw[hnd]at hy;obtain⟨y,rfl,hy⟩:=hy;have gT:=k1.le;have jN:=k2.le;have hx:=Sl.ad hx k2;have r0:=(k2.get N (by omega)).trans (k1.get N (by omega));have r1:=(k2.get (N+1) (by omega)).trans (k1.get (N+1) (by omega));simp at r0 r1;have zy:=(Sl.form hx).one;have zz:=(Sl.form hy).one;have KJ:=(Sl.form hx).cells;have Eo:=(Sl.form hy).cells;unfold V.one at zy zz;unfold V.cells at KJ Eo;obtain⟨e1,e2⟩:=Zum (h:=h) (b:=(q.den:Int)) hx hy r0 r1;have LD:N<n1:=by omega
 have Of:N<n2:=by omega
 have VT:N+1<n2:=by omega
 have Ak:¬(q.den:Int)<0:=by omega
 simp only[show decide ((q.den:Int)<0)=false by simp[Ak]]at e1 e2;simp[r0,r1,ae,bM,zy,zz,LD,Of,VT,aS,aO,c9.c_,ay,Ak];exact⟨(((k0.trans k1).trans k2).set (by omega)).set (by omega),_,_,⟨rfl,rfl⟩,e1,e2⟩
def Se:(aq n).length<=9↔n<1000000000:=C5 (k:=9) (by omega)
def Yop(h:n<1000000000)(st:St):A.C.call (.func 125 [] []) [.str (aq n)] st=some (.int .i64 n,st):=by have:=Pa (s:=aq n) (st:=st) (Am n) (by have:=Se.2 h;omega);rwa [Cs]at this
def A.b48:=A.q Tryz.f48
def A.k48:=@A.kk 48 54 [.tmp 2,.tmp 3,.tmp 4] A.b48 (by kernel_rfl) rfl
def QB(q:Rat):aH:=if q.den=1 then aq q.num.natAbs else aq q.num.natAbs++47::aq q.den
def DP(q:Rat):aI q=if q.num<0 then 45::QB q else QB q:=by unfold aI QB aM;by_cases h1:q.den=1<;>by_cases h2:q.num<0<;>simp[h1,h2]
def Yn0(q:Rat):ah (QB q)=(aq q.num.natAbs).length:=by
 unfold QB;split
 ·exact UL (MU (Am _))
 exact UK (MU (Am _))
def Yu0(q:Rat):(QB q).take (aq q.num.natAbs).length=aq q.num.natAbs:=by
 unfold QB;split
 ·exact gm (aN _)
 exact List.take_left
def Yu1{q:Rat}(h:q.den≠1):(QB q).drop ((aq q.num.natAbs).length+1)=aq q.den:=by unfold QB;rw[ak h,<-List.drop_drop,List.drop_left];rfl
def Ypl(q:Rat):(QB q).length=(aq q.num.natAbs).length+(if q.den=1 then 0 else (aq q.den).length+1):=by unfold QB;split<;>simp
def Zy2(q:Rat):∃c t,QB q=c::t/\48<=c.toNat:=by
 obtain⟨c,t,h,h1,_⟩:=Zr1 (n:=q.num.natAbs);unfold QB;split
 ·exact⟨c,t,h,h1⟩
 exact⟨c,t++47::aq q.den,by rw[h];rfl,h1⟩
def Yf8{q:Rat}{st:St}(hl:(aI q).length<=20):A.C.call (.func 48 [] []) [.str (aI q)] st=some (if q.num.natAbs<1000000000/\q.den<1000000000 then .aU [.int .i64 q.num,.int .i64 q.den,.bool true] else .aU [.int .i64 0,.int .i64 0,.bool false],st):=by
 obtain⟨c,t,hB,hc⟩:=Zy2 q;have hs:=Yn0 q;have ht:=Yu0 q;have Gj:=Ypl q;have h9:=Se (n:=q.num.natAbs);have h9d:=Se (n:=q.den);have hn:=fun h st=>Yop (n:=q.num.natAbs) h st;have hd:=fun h st=>Yop (n:=q.den) h st;have zq:=Yu1 (q:=q);have FL:¬cZ c=45:=by unfold cZ;omega
 have nN:=DP q;have hBl:(QB q).length<=20:=by
  rw[nN]at hl;split at hl
  ·simp only[bl]at hl;omega
  exact hl
 have cv:=fun st=>GQ (s:=QB q) (st:=st) (by omega);rw[hs]at cv;have iK:(QB q)[0]?=some c:=by rw[hB];rfl
 have hh:(QB q).head?=some c:=by rw[hB];rfl
 have aX:QB q≠[]:=by rw[hB];simp
 have qQ:0<(QB q).length:=by rw[hB];simp
 have zb1:(0:Int)<((QB q).length:Int):=by omega
 have FM:¬(20:Int)<((QB q).length:Int):=by omega
 have yO:(aq q.num.natAbs).length<=(QB q).length:=by omega
 have zb2:((aq q.num.natAbs).length:Int)<=((QB q).length:Int):=by omega
 have k0:0<=(aq q.num.natAbs).length:=wX _;have w1:bn .i64 (((QB q).length:Int)-((aq q.num.natAbs).length:Int))=((QB q).length:Int)-((aq q.num.natAbs).length:Int):=cN (by omega) (by omega);have w2:bn .i64 (((aq q.num.natAbs).length:Int)+1)=((aq q.num.natAbs).length:Int)+1:=cN (by omega) (by omega);have a3:∀st:St,uS st (some (.str (45::QB q))) (some (some (.int .i64 1))) (some none)=some (.str (QB q),st):=fun st=>by rw[HJ (by omega) (by simp only[bl];omega)];rfl
 have a4:∀st:St,uS st (some (.str (QB q))) (some none) (some (some (.int .i64 (aq q.num.natAbs).length)))=some (.str (aq q.num.natAbs),st):=fun st=>by rw[Zmp (by omega) (by omega),Int.toNat_natCast,ht]
 apply Call.eq;rw[aP,A.k48 (by simp),nN];by_cases e9:q.num.natAbs<1000000000
 ·have g9:¬(9:Int)<((aq q.num.natAbs).length:Int):=by have:=h9.2 e9;omega
  have hn:=hn e9;by_cases e1:q.den=1
  ·rw[av e1]at Gj;have HV:¬(10:Int)<((QB q).length:Int)-((aq q.num.natAbs).length:Int):=by omega
   have Sf:¬((aq q.num.natAbs).length:Int)<((QB q).length:Int):=by omega
   have g12:¬(aq q.num.natAbs).length<(QB q).length:=by omega
   rw[e1];by_cases hz:q.num<0
   ·have ez:(q.num.natAbs:Int)= -q.num:=by omega
    have w3:bn .i64 (0-(q.num.natAbs:Int))=q.num:=by rw[ez];rw[cN (by omega) (by omega)];omega
    have a5:cZ 45=45:=rfl;have er:(QB q).length+1<=20:=by rw[nN,av hz]at hl;simpa using hl
    have FD:¬(20:Int)<((QB q).length:Int)+1:=by omega
    have A3:(0:Int)<((QB q).length:Int)+1:=by omega
    simp(disch:=first|(simp;done)|omega|rfl) [-getElem?_pos,A.b48,hz,FD,A3,a3,a5,cv,aC,g9,HV,Sf,w1,a4,hn,e9];omega
   have ez:(q.num.natAbs:Int)=q.num:=by omega
   simp(disch:=first|(simp;done)|omega|rfl) [-getElem?_pos,A.b48,hz,iK,qQ,FM,FL,cv,aC,g9,HV,Sf,w1,a4,hn,ez,e9]
  rw[ak e1]at Gj;have zq:=zq e1;have Sf:((aq q.num.natAbs).length:Int)<((QB q).length:Int):=by omega
  have g12:(aq q.num.natAbs).length<(QB q).length:=by omega
  have a6:∀st:St,uS st (some (.str (QB q))) (some (some (.int .i64 (((aq q.num.natAbs).length:Int)+1)))) (some none)=some (.str (aq q.den),st):=fun st=>by
   rw[HJ (by omega) (by omega)];have:(((aq q.num.natAbs).length:Int)+1).toNat=(aq q.num.natAbs).length+1:=by omega
   rw[this,zq]
  by_cases C3:q.den<1000000000
  ·have HV:¬(10:Int)<((QB q).length:Int)-((aq q.num.natAbs).length:Int):=by have:=h9d.2 C3;omega
   have hd:=hd C3;by_cases hz:q.num<0
   ·have ez:(q.num.natAbs:Int)= -q.num:=by omega
    have w3:bn .i64 (0-(q.num.natAbs:Int))=q.num:=by rw[ez];rw[cN (by omega) (by omega)];omega
    have a5:cZ 45=45:=rfl;have er:(QB q).length+1<=20:=by rw[nN,av hz]at hl;simpa using hl
    have FD:¬(20:Int)<((QB q).length:Int)+1:=by omega
    have A3:(0:Int)<((QB q).length:Int)+1:=by omega
    simp(disch:=first|(simp;done)|omega|rfl) [-getElem?_pos,A.b48,hz,FD,A3,a3,a5,a6,cv,aC,g9,HV,Sf,w1,w2,a4,hn,hd,e9,C3];omega
   have ez:(q.num.natAbs:Int)=q.num:=by omega
   simp(disch:=first|(simp;done)|omega|rfl) [-getElem?_pos,A.b48,hz,iK,qQ,FM,FL,a6,cv,aC,g9,HV,Sf,w1,w2,a4,hn,hd,ez,e9,C3]
  have HV:(10:Int)<((QB q).length:Int)-((aq q.num.natAbs).length:Int):=by have:¬(aq q.den).length<=9:=fun hc=>C3 (h9d.1 hc);omega
  by_cases hz:q.num<0
  ·have a5:cZ 45=45:=rfl;have er:(QB q).length+1<=20:=by rw[nN,av hz]at hl;simpa using hl
   have FD:¬(20:Int)<((QB q).length:Int)+1:=by omega
   have A3:(0:Int)<((QB q).length:Int)+1:=by omega
   simp(disch:=first|(simp;done)|omega|rfl) [-getElem?_pos,A.b48,hz,FD,A3,a3,a5,cv,aC,g9,HV,w1,e9,C3]
  simp(disch:=first|(simp;done)|omega|rfl) [-getElem?_pos,A.b48,hz,iK,qQ,FM,FL,cv,g9,HV,w1,e9,C3]
 have g9:(9:Int)<((aq q.num.natAbs).length:Int):=by have:¬(aq q.num.natAbs).length<=9:=fun hc=>e9 (h9.1 hc);omega
 by_cases hz:q.num<0
 ·have a5:cZ 45=45:=rfl;have er:(QB q).length+1<=20:=by rw[nN,av hz]at hl;simpa using hl
  have FD:¬(20:Int)<((QB q).length:Int)+1:=by omega
  have A3:(0:Int)<((QB q).length:Int)+1:=by omega
  simp(disch:=first|(simp;done)|omega|rfl) [-getElem?_pos,A.b48,hz,FD,A3,a3,a5,cv,aC,g9,e9]
 simp(disch:=first|(simp;done)|omega|rfl) [-getElem?_pos,A.b48,hz,iK,qQ,FM,FL,cv,g9,e9]
def Ycg{q:Rat}{st:St}(h1:20<(aI q).length):A.C.call (.func 48 [] []) [.str (aI q)] st=some (.aU [.int .i64 0,.int .i64 0,.bool false],st):=by
 have h2:(20:Int)<((aI q).length:Int):=by omega
 apply Call.eq;rw[aP,A.k48 (by simp)];simp[A.b48,h2]
def Yh1{q:Rat}(h:q.num.natAbs<1000000000/\q.den<1000000000):(aI q).length<=20:=by
 have h1:=Se.2 h.1;have h2:=Se.2 h.2;have h3:=Ypl q;rw[DP];split
 ·simp only[bl];split at h3<;>omega
 split at h3<;>omega
def Zzo{q:Rat}{st:St}:A.C.call (.func 48 [] []) [.str (aI q)] st=some (if q.num.natAbs<1000000000/\q.den<1000000000 then .aU [.int .i64 q.num,.int .i64 q.den,.bool true] else .aU [.int .i64 0,.int .i64 0,.bool false],st):=by
 by_cases h:(aI q).length<=20
 ·exact Yf8 h
 rw[ak fun hc=>h (Yh1 hc)];exact Ycg (by omega)
end
end Go.Mx
