/-lensletref01-/
import Derived.Test.YtgccnjdneojagaaGreatDoorRbF
set_option linter.all false
namespace Go.Mx
noncomputable section
open Go Go.Proofs
variable {N:Nat} {a b:Int} {h:T O} {x y:V}
set_option maxRecDepth 1000000
def A.b79:=A.q Tryz.f79
def A.k79:=@A.kk 79 57 [.tmp 4] A.b79 (by kernel_rfl) rfl
def RP(hb:0<b):b.natAbs/Nat.gcd a.natAbs b.natAbs=(Rat.divInt a b).den:=by
 have h:((Rat.divInt a b).den:Int)=((b.natAbs/Nat.gcd a.natAbs b.natAbs:Nat):Int):=by rw[Rat.den_divInt,ak (by omega),Int.gcd_comm];rfl
 exact(Int.ofNat_inj.1 h).symm
def KM(hb:0<b):(if decide (a<0)=true then -((a.natAbs/Nat.gcd a.natAbs b.natAbs:Nat):Int) else ((a.natAbs/Nat.gcd a.natAbs b.natAbs:Nat):Int))=(Rat.divInt a b).num:=by
 rw[Rat.num_divInt,Int.sign_eq_one_of_pos hb,Int.one_mul,Int.gcd_comm];have hd:((Int.gcd a b:Nat):Int)∣a:=Int.gcd_dvd_left ..;have he:Nat.gcd a.natAbs b.natAbs=Int.gcd a b:=rfl;rw[he,Int.natCast_ediv];by_cases ha:a<0
 ·have h1:(a.natAbs:Int)= -a:=by omega
  simp only[ha,decide_true,if_true,h1];rw[Int.neg_ediv_of_dvd hd,Int.neg_neg]
 have h1:(a.natAbs:Int)=a:=by omega
 simp[ha,h1]
def Yjs{z:Int}:(aN z).length<=9*(ds z.natAbs).length+2:=by have:=RD (n:=z.natAbs);unfold aN;split<;>simp<;>omega
def Yqd{m e:Nat}(h0:0<m)(he:m%1000000000=e):m=1↔(ds m).length=1/\e=1:=by
 constructor
 ·rintro rfl;exact⟨by have:=Yqc (r:=1) (by omega);rw[<-this];decide,by omega⟩
 rintro⟨h1,h2⟩;have h3:=xJ (ig m);rw[iC,h1,UD,Nat.pow_one]at h3;omega
def Zv3(hx:Rg h N x a)(hy:Rg h N y b)(hb:0<b)(l3:(ds a.natAbs).length<100000000000)(l4:(ds b.natAbs).length<100000000000):Fn A.C 79 [x,y] h N (fun u _ _=>u=.str (aO (Rat.divInt a b))):=by
 intro w;obtain⟨u,rfl,nD⟩:=hx;obtain⟨v,rfl,nP⟩:=hy;have o1:=Sl.form nD |>.one;have o2:=Sl.form nD |>.cells;have o3:=Sl.form nP |>.one;have o4:=Sl.form nP |>.cells;unfold V.one at o1 o3;unfold V.cells at o2 o4;have l1:(ds a.natAbs).length<1000000000000:=by omega
 have l2:(ds b.natAbs).length<1000000000000:=by omega
 have vi:¬b<0:=by omega
 rw[show decide (b<0)=false by simp[vi]];have kB:=(((ab.refl (h:=h) (n:=N)).new (.cells [.bool (decide (a<0)),u] 105 true)).new (.cells [.bool false,v] 105 true));have hu:=Sl.ad nD kB;have hv:=Sl.ad nP kB;rw[aQ,A.k79 (by simp)];simp[A.b79,o1,o3,aS];generalize hB:(h.set N (.cells [.bool (decide (a<0)),u] 105 true)).set (N+1) (.cells [.bool false,v] 105 true)=HB at*;have gN:HB.get N=some (.cells [.bool (decide (a<0)),u] 105 true):=by rw[<-hB];simp
 have gM:HB.get (N+1)=some (.cells [.bool false,v] 105 true):=by rw[<-hB];simp
 refine ar (VP hu hv l1 l2) ?_;rintro v1 h1 n1 k1 q1;have HF:=(k1.get N (by omega)).trans gN;have KN:=(k1.get (N+1) (by omega)).trans gM;have uU:0<Nat.gcd a.natAbs b.natAbs:=TU _ (by omega);have lg:(ds (Nat.gcd a.natAbs b.natAbs)).length<1000000000000:=oC (wL (Nat.gcd_le_right _ (by omega))) l2;have xr:=k1.le;simp[HF,aS];refine ar (Ro (hu.ad k1) q1 uU l1 lg) ?_;rintro _ h2 n2 k2 ⟨q,r1,rfl,q2, -⟩;have KO:=(k2.get (N+1) (by omega)).trans KN;have kR:=k2.le;simp[KO,aS];refine ar (Ro ((hv.ad k1).ad k2) (q1.ad k2) uU l2 lg) ?_;rintro _ h3 n3 k3 ⟨d,r2,rfl,q3, -⟩;have gN3:=(k3.get N (by omega)).trans ((k2.get N (by omega)).trans HF);have uZ:=k3.le;rw[RP hb]at q3;have lq:(ds (a.natAbs/Nat.gcd a.natAbs b.natAbs)).length<100000000000:=oC (wL (xD _ _)) l3;have Cz:(ds (Rat.divInt a b).den).length<100000000000:=by rw[<-RP hb];exact oC (wL (xD _ _)) l4
 simp[gN3,aS];refine ar (zp (n:=a.natAbs/Nat.gcd a.natAbs b.natAbs) (q2.ad k3) (ig _) (iC _) (by omega)) ?_;rintro v4 h4 n4 k4 q4;have zS:=k4.le;rw[KM hb]at q4;simp[];refine ar (MV q4 (by rw[<-KM hb];split<;>(first|rw[yE,ed]|rw[ed])<;>exact lq)) ?_;rintro _ h5 n5 k5 rfl;have ID:=k5.le;obtain⟨m,hm⟩:∃m,(Rat.divInt a b).den=m:=⟨_,rfl⟩;have iJ:0<m:=by rw[<-hm];exact Rat.den_pos _
 rw[hm]at q3 Cz;have cC:=Yjs (z:=(Rat.divInt a b).num);have KP:(ds (Rat.divInt a b).num.natAbs).length<100000000000:=by rw[<-KM hb];split<;>(first|rw[yE,ed]|rw[ed])<;>exact lq
 have nJ:aO (Rat.divInt a b)=if m=1 then aN (Rat.divInt a b).num else aN (Rat.divInt a b).num++47::aq m:=by unfold aO;rw[hm]
 rw[nJ];generalize aN (Rat.divInt a b).num=s at*;have FF:Dn h5 n5 d m:=(q3.ad k4).ad k5;have ld:=Sl.len FF;rw[h_]at ld;have pO:(ds m).length≠0:=fun hc=>(by omega:m≠0) (EL.1 (th hc));have hg:=UA (i:=0) (n:=m) (by omega);rw[Gn,Nat.div_one]at hg;obtain⟨e,he⟩:∃e,m%1000000000=e:=⟨_,rfl⟩;rw[he]at hg;have vN:m=1↔(ds m).length=1/\e=1:=Yqd iJ he;obtain⟨i,o,c,te,rw_,p1,p2,p3,p4⟩:=Sl.at FF (iB hg);rw[gE]at p4;obtain⟨L,hL⟩:∃L,(ds m).length=L:=⟨_,rfl⟩;rw[hL]at ld vN;have kK:=RD (n:=m);rw[hL]at kK Cz;have cU:IntKind.max .i64=9223372036854775807:=rfl;have b1:¬(9223372036854775807:Int)<(s.length:Int)+1:=by omega
 have b2:¬(9223372036854775807:Int)<(s.length:Int)+1+((aq m).length:Int):=by omega
 have FD:aN (m:Int)=aq m:=by unfold aN;rw[ak (by omega),ed]
 have yq:(ds m).length<1152921504606846976:=by omega
 have K5:ab h N h5 n5:=((((kB.trans k1).trans k2).trans k3).trans k4).trans k5;by_cases rC:m=1
 ·obtain⟨rfl,rfl⟩:=vN.1 rC;rw[av rC];clear cC KP kK b1 b2 yq Cz;simp[ld,p1,p3,p4,az];exact K5
 rw[ak rC];by_cases MT:L=1
 ·have he1:¬e=1:=fun hc=>rC (vN.2 ⟨MT,hc⟩);have xP:¬(e:Int)=1:=by omega
  subst MT;clear cC KP kK;simp[ld,p1,p3,p4,xP,jE,cU,b1];refine ar (zp (b:=false) (n:=m) FF (ig _) (iC _) yq) ?_;rintro v6 h6 n6 k6 q6;have q7:Rg h6 n6 v6 (m:Int):=by simpa using q6
  simp[];refine ar (MV q7 (by rw[ed,hL];exact Cz)) ?_;rintro _ h7 n7 k7 rfl;rw[FD];simp[jE,cU,b2,az];exact(K5.trans k6).trans k7
 have hL2:¬(L:Int)=1:=by omega
 clear cC KP kK;simp[ld,hL2,jE,cU,b1];refine ar (zp (b:=false) (n:=m) FF (ig _) (iC _) yq) ?_;rintro v6 h6 n6 k6 q6;have q7:Rg h6 n6 v6 (m:Int):=by simpa using q6
 simp[];refine ar (MV q7 (by rw[ed,hL];exact Cz)) ?_;rintro _ h7 n7 k7 rfl;rw[FD];simp[jE,cU,b2,az];exact(K5.trans k6).trans k7
def Zv4{P Q:Int}(hx:Rg h N x P)(hy:Rg h N y Q)(nE:Q<0)(l3:(ds P.natAbs).length<100000000000)(l4:(ds Q.natAbs).length<100000000000):Fn A.C 79 [x,y] h N (fun u _ _=>u=.str (aO (Rat.divInt P Q))):=by
 intro w;obtain⟨u0,rfl,nD⟩:=hx;obtain⟨v0,rfl,nP⟩:=hy;have o1:=Sl.form nD |>.one;have o2:=Sl.form nD |>.cells;have o3:=Sl.form nP |>.one;have o4:=Sl.form nP |>.cells;unfold V.one at o1 o3;unfold V.cells at o2 o4;have jK:Rg h N (.agg [.bool (decide (P<0)),u0]) P:=⟨u0,rfl,nD⟩;have yD:Rg h N (.agg [.bool true,v0]) Q:=⟨v0,by simp[nE],nP⟩;rw[show decide (Q<0)=true by simp[nE]];have kA:=(((ab.refl (h:=h) (n:=N)).new (.cells [.bool (decide (P<0)),u0] 105 true)).new (.cells [.bool true,v0] 105 true));rw[aQ,A.k79 (by simp)];simp[A.b79,o1,o3,aS,aP];generalize hA:(h.set N (.cells [.bool (decide (P<0)),u0] 105 true)).set (N+1) (.cells [.bool true,v0] 105 true)=HA at*;have gN0:HA.get N=some (.cells [.bool (decide (P<0)),u0] 105 true):=by rw[<-hA];simp
 have gM0:HA.get (N+1)=some (.cells [.bool true,v0] 105 true):=by rw[<-hA];simp
 refine ar (Yat (jK.ad kA) (by omega)) ?_;rintro _ m1 t1 j1 q1;obtain⟨a,ha⟩:∃a,a= -P:=⟨_,rfl⟩;rw[<-ha]at q1;obtain⟨u,rfl,Ae⟩:=q1;have i1:=j1.le;have HF:=(j1.get N (by omega)).trans gN0;have KN:=(j1.get (N+1) (by omega)).trans gM0;simp[KN,aS,aP];refine ar (Yat ((yD.ad kA).ad j1) (by omega)) ?_;rintro _ m2 t2 j2 q2;obtain⟨b,qU⟩:∃b,b= -Q:=⟨_,rfl⟩;rw[<-qU]at q2;have hb:0<b:=by omega
 obtain⟨v,rfl,jQ⟩:=q2;rw[show decide (b<0)=false by simp;omega];have f_:Rat.divInt P Q=Rat.divInt a b:=by rw[ha,qU];exact(Rat.neg_divInt_neg P Q).symm
 rw[f_];have n1:=Yxg (b:=decide (P<0)) (Sl.form nD);have n2:=Yxg (b:=true) (Sl.form nP);have i2:=j2.le;have MW:=(j2.get N (by omega)).trans HF;have KO:=(j2.get (N+1) (by omega)).trans KN;have s1:=Sl.form Ae |>.one;have s2:=Sl.form Ae |>.cells;have s3:=Sl.form jQ |>.one;have s4:=Sl.form jQ |>.cells;unfold V.one at s1 s3;unfold V.cells at s2 s4;have g1:N+1<t1:=by omega
 have g2:N+1<t2:=by omega
 have g3:N<t2:=by omega
 simp[MW,KO,s1,s3,ae,bO,aS,dv.dw,g1,g2,g3];have gM3:(m2.set N (.cells [.bool (decide (a<0)),u] 105 true)).get (N+1)=some (.cells [.bool true,v0] 105 true):=by rw[T.ag,ak (by omega)];exact KO
 have kB:=((((kA.trans j1).trans j2).set (i:=N) (o:=.cells [.bool (decide (a<0)),u] 105 true) (by omega))).set (i:=N+1) (o:=.cells [.bool false,v] 105 true) (by omega);have hu:=Sl.setInt (Sl.setInt (Ae.ad j2) MW n1 (c1:=[.bool (decide (a<0)),u]) (e1:=105) (w1:=true) rfl) gM3 n2 (c1:=[.bool false,v]) (e1:=105) (w1:=true) rfl;have hv:=Sl.setInt (Sl.setInt jQ MW n1 (c1:=[.bool (decide (a<0)),u]) (e1:=105) (w1:=true) rfl) gM3 n2 (c1:=[.bool false,v]) (e1:=105) (w1:=true) rfl;generalize hB:(m2.set N (.cells [.bool (decide (a<0)),u] 105 true)).set (N+1) (.cells [.bool false,v] 105 true)=HB at*;have gN:HB.get N=some (.cells [.bool (decide (a<0)),u] 105 true):=by rw[<-hB];simp
 have gM:HB.get (N+1)=some (.cells [.bool false,v] 105 true):=by rw[<-hB];simp
 have ea:a.natAbs=P.natAbs:=by omega
 have eb:b.natAbs=Q.natAbs:=by omega
 rw[<-ea]at l3;rw[<-eb]at l4;have l1:(ds a.natAbs).length<1000000000000:=by omega
 have l2:(ds b.natAbs).length<1000000000000:=by omega
 clear o1 o2 o3 o4;have o1:=s1;have o2:=s2;have o3:=s3;have o4:=s4;clear s1 s2 s3 s4 gM3 MW KO HF KN gN0 gM0 n1 n2 hA f_;refine ar (VP hu hv l1 l2) ?_;rintro v1 h1 n1 k1 q1;have HF:=(k1.get N (by omega)).trans gN;have KN:=(k1.get (N+1) (by omega)).trans gM;have uU:0<Nat.gcd a.natAbs b.natAbs:=TU _ (by omega);have lg:(ds (Nat.gcd a.natAbs b.natAbs)).length<1000000000000:=oC (wL (Nat.gcd_le_right _ (by omega))) l2;have xr:=k1.le;simp[HF,aS];refine ar (Ro (hu.ad k1) q1 uU l1 lg) ?_;rintro _ h2 n2 k2 ⟨q,r1,rfl,q2, -⟩;have KO:=(k2.get (N+1) (by omega)).trans KN;have kR:=k2.le;simp[KO,aS];refine ar (Ro ((hv.ad k1).ad k2) (q1.ad k2) uU l2 lg) ?_;rintro _ h3 n3 k3 ⟨d,r2,rfl,q3, -⟩;have gN3:=(k3.get N (by omega)).trans ((k2.get N (by omega)).trans HF);have uZ:=k3.le;rw[RP hb]at q3;have lq:(ds (a.natAbs/Nat.gcd a.natAbs b.natAbs)).length<100000000000:=oC (wL (xD _ _)) l3;have Cz:(ds (Rat.divInt a b).den).length<100000000000:=by rw[<-RP hb];exact oC (wL (xD _ _)) l4
 simp[gN3,aS];refine ar (zp (n:=a.natAbs/Nat.gcd a.natAbs b.natAbs) (q2.ad k3) (ig _) (iC _) (by omega)) ?_;rintro v4 h4 n4 k4 q4;have zS:=k4.le;rw[KM hb]at q4;simp[];refine ar (MV q4 (by rw[<-KM hb];split<;>(first|rw[yE,ed]|rw[ed])<;>exact lq)) ?_;rintro _ h5 n5 k5 rfl;have ID:=k5.le;obtain⟨m,hm⟩:∃m,(Rat.divInt a b).den=m:=⟨_,rfl⟩;have iJ:0<m:=by rw[<-hm];exact Rat.den_pos _
 rw[hm]at q3 Cz;have cC:=Yjs (z:=(Rat.divInt a b).num);have KP:(ds (Rat.divInt a b).num.natAbs).length<100000000000:=by rw[<-KM hb];split<;>(first|rw[yE,ed]|rw[ed])<;>exact lq
 have nJ:aO (Rat.divInt a b)=if m=1 then aN (Rat.divInt a b).num else aN (Rat.divInt a b).num++47::aq m:=by unfold aO;rw[hm]
 rw[nJ];generalize aN (Rat.divInt a b).num=s at*;have FF:Dn h5 n5 d m:=(q3.ad k4).ad k5;have ld:=Sl.len FF;rw[h_]at ld;have pO:(ds m).length≠0:=fun hc=>(by omega:m≠0) (EL.1 (th hc));have hg:=UA (i:=0) (n:=m) (by omega);rw[Gn,Nat.div_one]at hg;obtain⟨e,he⟩:∃e,m%1000000000=e:=⟨_,rfl⟩;rw[he]at hg;have vN:m=1↔(ds m).length=1/\e=1:=Yqd iJ he;obtain⟨i,o,c,te,rw_,p1,p2,p3,p4⟩:=Sl.at FF (iB hg);rw[gE]at p4;obtain⟨L,hL⟩:∃L,(ds m).length=L:=⟨_,rfl⟩;rw[hL]at ld vN;have kK:=RD (n:=m);rw[hL]at kK Cz;have cU:IntKind.max .i64=9223372036854775807:=rfl;have b1:¬(9223372036854775807:Int)<(s.length:Int)+1:=by omega
 have b2:¬(9223372036854775807:Int)<(s.length:Int)+1+((aq m).length:Int):=by omega
 have FD:aN (m:Int)=aq m:=by unfold aN;rw[ak (by omega),ed]
 have yq:(ds m).length<1152921504606846976:=by omega
 have K5:ab h N h5 n5:=((((kB.trans k1).trans k2).trans k3).trans k4).trans k5;by_cases rC:m=1
 ·obtain⟨rfl,rfl⟩:=vN.1 rC;rw[av rC];clear cC KP kK b1 b2 yq Cz;simp[ld,p1,p3,p4,az];exact K5
 rw[ak rC];by_cases MT:L=1
 ·have he1:¬e=1:=fun hc=>rC (vN.2 ⟨MT,hc⟩);have xP:¬(e:Int)=1:=by omega
  subst MT;clear cC KP kK;simp[ld,p1,p3,p4,xP,jE,cU,b1];refine ar (zp (b:=false) (n:=m) FF (ig _) (iC _) yq) ?_;rintro v6 h6 n6 k6 q6;have q7:Rg h6 n6 v6 (m:Int):=by simpa using q6
  simp[];refine ar (MV q7 (by rw[ed,hL];exact Cz)) ?_;rintro _ h7 n7 k7 rfl;rw[FD];simp[jE,cU,b2,az];exact(K5.trans k6).trans k7
 have hL2:¬(L:Int)=1:=by omega
 clear cC KP kK;simp[ld,hL2,jE,cU,b1];refine ar (zp (b:=false) (n:=m) FF (ig _) (iC _) yq) ?_;rintro v6 h6 n6 k6 q6;have q7:Rg h6 n6 v6 (m:Int):=by simpa using q6
 simp[];refine ar (MV q7 (by rw[ed,hL];exact Cz)) ?_;rintro _ h7 n7 k7 rfl;rw[FD];simp[jE,cU,b2,az];exact(K5.trans k6).trans k7
def Zqc(hx:Rg h N x a)(hy:Rg h N y b)(hb:b≠0)(l3:(ds a.natAbs).length<100000000000)(l4:(ds b.natAbs).length<100000000000):Fn A.C 79 [x,y] h N (fun u _ _=>u=.str (aO (Rat.divInt a b))):=by
 rcases Int.lt_or_gt_of_ne hb with hb|hb
 ·exact Zv4 hx hy hb l3 l4
 exact Zv3 hx hy hb l3 l4
def A.RQ:=A.q Tryz.f149
def A.uw:=A.ql A.RQ 0 []
def A.b149:=(fun x0=>A.qb A.RQ [x0]) A.uw
def A.k149:=@A.kk 149 12 [.tmp 4] A.b149 (by kernel_rfl) rfl
def Yit{a b:Nat}{st:St}(ha:a<9223372036854775808)(hb:b<9223372036854775808):A.C.call (.func 149 [] []) [.int .i64 a,.int .i64 b] st=some (.int .i64 (Nat.gcd a b:Nat),st):=by
 apply Call.eq;rw[aQ,A.k149 (by simp)];simp[A.b149];refine b_ [(0,1),(5,10)] (fun e r s1=>s1=⟨st.h,st.n,[]⟩/\e=.exit 0/\r.get 0=some (.int .i64 (Nat.gcd a b:Nat))) (fun q r s1=>s1=⟨st.h,st.n,[]⟩/\q<9223372036854775808/\r.get 1=some (.int .i64 q)/\∃k:Nat,k<9223372036854775808/\r.get 0=some (.int .i64 k)/\Nat.gcd k q=Nat.gcd a b) b ?_ ?_ ?_
 ·exact⟨rfl,hb,by simp,a,ha,by simp,rfl⟩
 ·rintro q r _ hr hf ⟨rfl,hq,h1,k,hk,h0,hg⟩;rw[bu];by_cases hz:q=0
  ·subst hz;rw[Nat.gcd_zero_right]at hg;simp[A.uw,hf,h0,h1,hg]
  have i1:(0:Int)<(q:Int):=by omega
  have i2:0<q:=by omega
  have i3:¬(q:Int)=0:=by omega
  have t1:(k:Int).tmod q=((k%q:Nat):Int):=by rw[Gg (by omega)];omega
  have t2:bn .i64 ((k%q:Nat):Int)=((k%q:Nat):Int):=cL (by omega) (by have:=m8 k i2;omega);have aE:=m8 k i2;simp[A.uw,hf,h0,h1,i2,hz,t1,dv.dw];exact⟨k%q,aE,by omega,by simp,q,hq,rfl,by rw[<-hg,Nat.gcd_comm k q,Nat.gcd_rec q k,Nat.gcd_comm]⟩
 rintro _ r _ hr ⟨rfl,rfl,h0⟩;simp[h0]
def A.b78:=A.q Tryz.f78
def A.k78:=@A.kk 78 61 [.tmp 4] A.b78 (by kernel_rfl) rfl
def HG{z:Int}:Dm [.int .i64 z,.int .i64 (-z)]=some (.int .i64 (z.natAbs:Nat)):=by have h:Dm [.int .i64 z,.int .i64 (-z)]=some (.int .i64 (if z< -z then -z else z)):=rfl;rw[h];congr 2;split<;>omega
def Yqa{a:Int}{m:Nat}(hm:0<m):(Rat.divInt a m).num=a.tdiv (Nat.gcd a.natAbs m:Nat)/\(Rat.divInt a m).num.natAbs<=a.natAbs/\(Rat.divInt a m).den=m/Nat.gcd a.natAbs m:=by
 have hb:(0:Int)<(m:Int):=by omega
 have h1:=KM (a:=a) hb;have h2:=RP (a:=a) hb;rw[ed]at h1 h2;have hd:((Nat.gcd a.natAbs m:Nat):Int)∣a:=Int.gcd_dvd_left (a:=a) (b:=(m:Int));refine⟨?_,?_,h2.symm⟩
 ·rw[Int.tdiv_eq_ediv_of_dvd hd,Rat.num_divInt,Int.sign_eq_one_of_pos hb,Int.one_mul,Int.gcd_comm];rfl
 rw[<-h1];have:=xD a.natAbs (Nat.gcd a.natAbs m);generalize a.natAbs/Nat.gcd a.natAbs m=k at*;split
 ·rw[yE,ed];exact this
 rw[ed];exact this
def Yxc{a:Int}{m:Nat}{st:St}(hm:0<m)(h1: -4000000000000000000<=a)(h2:a<=4000000000000000000)(h3:m<=4000000000000000000):A.C.call (.func 78 [] []) [.int .i64 a,.int .i64 m] st=some (.str (aO (Rat.divInt a m)),st):=by
 apply Call.eq;rw[aQ,A.k78 (by simp)];have c1:¬a< -4000000000000000000:=by omega
 have c2:¬4000000000000000000<a:=by omega
 have c3:¬(m:Int)< -4000000000000000000:=by omega
 have c4:¬4000000000000000000<(m:Int):=by omega
 have c5:¬(m:Int)<0:=by omega
 have w1:bn .i64 (-a)= -a:=cL (by omega) (by omega);have w2:bn .i64 (0-a)= -a:=by rw[Int.zero_sub];exact w1
 have hg:=fun st=>Yit (a:=a.natAbs) (b:=m) (st:=st) (by omega) (by omega);obtain⟨e1,e2,e3⟩:=Yqa (a:=a) hm;have AV:0<(Rat.divInt a m).den:=Rat.den_pos _;have nJ:aO (Rat.divInt a m)=if (Rat.divInt a m).den=1 then aN (Rat.divInt a m).num else aN (Rat.divInt a m).num++47::aq (Rat.divInt a m).den:=rfl
 rw[nJ];clear nJ;have jP:0<Nat.gcd a.natAbs m:=TU _ hm;generalize (Rat.divInt a m).num=P at*;generalize (Rat.divInt a m).den=D at*;generalize Nat.gcd a.natAbs m=g at*;have hDm:D<=m:=by rw[e3];exact xD _ _
 have e4:(m:Int).tdiv (g:Int)=(D:Int):=by rw[Dh (by omega),e3];rfl
 have g0:¬(g:Int)=0:=by omega
 have g1:¬g=0:=by omega
 have v1:bn .i64 P=P:=cL (by omega) (by omega);have v2:bn .i64 (-P)= -P:=cL (by omega) (by omega);have v3:bn .i64 (D:Int)=(D:Int):=cL (by omega) (by omega);have d1:∀st,A.C.call (.func 150 [] []) [.int .i64 (P.natAbs:Nat),.int .i64 1] st=some (.str (aq P.natAbs),st):=fun st=>(MU (n:=P.natAbs) (m:=1) (st:=st) (by omega) (by omega)).trans (by rw[Px]);have d2:∀st,A.C.call (.func 150 [] []) [.int .i64 D,.int .i64 1] st=some (.str (aq D),st):=fun st=>(MU (n:=D) (m:=1) (st:=st) (by omega) (by omega)).trans (by rw[Px]);have x1:(aq P.natAbs).length<30:=by have:(du P.natAbs).length<=19:=rE.1 (by omega);unfold aq;split<;>simp;omega
 have x2:(aq D).length<30:=by have:(du D).length<=19:=rE.1 (by omega);unfold aq;split<;>simp;omega
 have cU:IntKind.max .i64=9223372036854775807:=rfl;have y1:¬(9223372036854775807:Int)<((aq P.natAbs).length:Int):=by omega
 have y2:¬(9223372036854775807:Int)<1+((aq P.natAbs).length:Int):=by omega
 have z1:D=1\/(¬D=1/\1<D):=by omega
 rcases z1 with rfl|⟨z1,z2⟩<;>by_cases hP:P<0
 ·simp[A.b78,c1,c2,c3,c4,c5,w1,tE,HG,hg,<-e1,e4,g1,v1,v2,hP,d1,jE,cU,y2,aN,dv.dw]
 ·simp[A.b78,c1,c2,c3,c4,c5,w1,tE,HG,hg,<-e1,e4,g1,v1,v2,hP,d1,jE,cU,y1,aN,dv.dw]
 ·have z3:(1:Int)<(D:Int):=by omega
  have y3:¬(9223372036854775807:Int)<((aq P.natAbs).length:Int)+1+1:=by omega
  have y4:¬(9223372036854775807:Int)<((aq P.natAbs).length:Int)+1+1+((aq D).length:Int):=by omega
  simp[A.b78,c1,c2,c3,c4,c5,w1,tE,HG,hg,<-e1,e4,g1,v1,v2,v3,hP,d1,d2,jE,cU,y2,aN,dv.dw,z1,z3,y3,y4]
 have z3:(1:Int)<(D:Int):=by omega
 have y3:¬(9223372036854775807:Int)<((aq P.natAbs).length:Int)+1:=by omega
 have y4:¬(9223372036854775807:Int)<((aq P.natAbs).length:Int)+1+((aq D).length:Int):=by omega
 simp[A.b78,c1,c2,c3,c4,c5,w1,tE,HG,hg,<-e1,e4,g1,v1,v2,v3,hP,d1,d2,jE,cU,y1,aN,dv.dw,z1,z3,y3,y4]
def Yxd{p q:Int}{st:St}(hq:q<0)(h1: -4000000000000000000<=p)(h2:p<=4000000000000000000)(h3: -4000000000000000000<=q):A.C.call (.func 78 [] []) [.int .i64 p,.int .i64 q] st=some (.str (aO (Rat.divInt p q)),st):=by
 apply Call.eq;rw[aQ,A.k78 (by simp)];have c1:¬p< -4000000000000000000:=by omega
 have c2:¬4000000000000000000<p:=by omega
 have c3:¬q< -4000000000000000000:=by omega
 have c4:¬4000000000000000000<q:=by omega
 obtain⟨a,ha⟩:∃a,a= -p:=⟨_,rfl⟩;obtain⟨m,rC⟩:∃m:Nat,(m:Int)= -q:=⟨(-q).toNat,by omega⟩;have hm:0<m:=by omega
 have c5:bn .i64 (-p)=a:=by rw[<-ha];exact cL (by omega) (by omega)
 have c6:bn .i64 (-q)=(m:Int):=by rw[<-rC];exact cL (by omega) (by omega)
 have f_:Rat.divInt p q=Rat.divInt a m:=by rw[ha,rC];exact(Rat.neg_divInt_neg p q).symm
 rw[f_];clear f_;have w1:bn .i64 (-a)= -a:=cL (by omega) (by omega);have w2:bn .i64 (0-a)= -a:=by rw[Int.zero_sub];exact w1
 have hg:=fun st=>Yit (a:=a.natAbs) (b:=m) (st:=st) (by omega) (by omega);obtain⟨e1,e2,e3⟩:=Yqa (a:=a) hm;have AV:0<(Rat.divInt a m).den:=Rat.den_pos _;have nJ:aO (Rat.divInt a m)=if (Rat.divInt a m).den=1 then aN (Rat.divInt a m).num else aN (Rat.divInt a m).num++47::aq (Rat.divInt a m).den:=rfl
 rw[nJ];clear nJ;have jP:0<Nat.gcd a.natAbs m:=TU _ hm;generalize (Rat.divInt a m).num=P at*;generalize (Rat.divInt a m).den=D at*;generalize Nat.gcd a.natAbs m=g at*;have hDm:D<=m:=by rw[e3];exact xD _ _
 have e4:(m:Int).tdiv (g:Int)=(D:Int):=by rw[Dh (by omega),e3];rfl
 have g0:¬(g:Int)=0:=by omega
 have g1:¬g=0:=by omega
 have v1:bn .i64 P=P:=cL (by omega) (by omega);have v2:bn .i64 (-P)= -P:=cL (by omega) (by omega);have v3:bn .i64 (D:Int)=(D:Int):=cL (by omega) (by omega);have d1:∀st,A.C.call (.func 150 [] []) [.int .i64 (P.natAbs:Nat),.int .i64 1] st=some (.str (aq P.natAbs),st):=fun st=>(MU (n:=P.natAbs) (m:=1) (st:=st) (by omega) (by omega)).trans (by rw[Px]);have d2:∀st,A.C.call (.func 150 [] []) [.int .i64 D,.int .i64 1] st=some (.str (aq D),st):=fun st=>(MU (n:=D) (m:=1) (st:=st) (by omega) (by omega)).trans (by rw[Px]);have x1:(aq P.natAbs).length<30:=by have:(du P.natAbs).length<=19:=rE.1 (by omega);unfold aq;split<;>simp;omega
 have x2:(aq D).length<30:=by have:(du D).length<=19:=rE.1 (by omega);unfold aq;split<;>simp;omega
 have cU:IntKind.max .i64=9223372036854775807:=rfl;have y1:¬(9223372036854775807:Int)<((aq P.natAbs).length:Int):=by omega
 have y2:¬(9223372036854775807:Int)<1+((aq P.natAbs).length:Int):=by omega
 have z1:D=1\/(¬D=1/\1<D):=by omega
 rcases z1 with rfl|⟨z1,z2⟩<;>by_cases hP:P<0
 ·simp[A.b78,c1,c2,c3,c4,c5,c6,hq,w1,tE,HG,hg,<-e1,e4,g1,v1,v2,hP,d1,jE,cU,y2,aN,dv.dw]
 ·simp[A.b78,c1,c2,c3,c4,c5,c6,hq,w1,tE,HG,hg,<-e1,e4,g1,v1,v2,hP,d1,jE,cU,y1,aN,dv.dw]
 ·have z3:(1:Int)<(D:Int):=by omega
  have y3:¬(9223372036854775807:Int)<((aq P.natAbs).length:Int)+1+1:=by omega
  have y4:¬(9223372036854775807:Int)<((aq P.natAbs).length:Int)+1+1+((aq D).length:Int):=by omega
  simp[A.b78,c1,c2,c3,c4,c5,c6,hq,w1,tE,HG,hg,<-e1,e4,g1,v1,v2,v3,hP,d1,d2,jE,cU,y2,aN,dv.dw,z1,z3,y3,y4]
 have z3:(1:Int)<(D:Int):=by omega
 have y3:¬(9223372036854775807:Int)<((aq P.natAbs).length:Int)+1:=by omega
 have y4:¬(9223372036854775807:Int)<((aq P.natAbs).length:Int)+1+((aq D).length:Int):=by omega
 simp[A.b78,c1,c2,c3,c4,c5,c6,hq,w1,tE,HG,hg,<-e1,e4,g1,v1,v2,v3,hP,d1,d2,jE,cU,y1,aN,dv.dw,z1,z3,y3,y4]
def Yxe{p q:Int}{st:St}(hq:q≠0)(h1: -4000000000000000000<=p)(h2:p<=4000000000000000000)(h3: -4000000000000000000<=q)(h4:q<=4000000000000000000):A.C.call (.func 78 [] []) [.int .i64 p,.int .i64 q] st=some (.str (aO (Rat.divInt p q)),st):=by
 rcases Int.lt_or_gt_of_ne hq with hq|hq
 ·exact Yxd hq h1 h2 h3
 obtain⟨m,rfl⟩:∃m:Nat,q=(m:Int):=⟨q.toNat,by omega⟩;exact Yxc (by omega) h1 h2 (by omega)
def A.RS:=A.q Tryz.f146
def A.pw:=A.ql A.RS 0 []
def A.b146:=(fun x0=>A.qb A.RS [x0]) A.pw
def A.k146:=@A.kk 146 25 [.cell 2 (some 2)] A.b146 (by kernel_rfl) rfl
def Ygx{s:aG}(hd:cN s=true)(h1:1<=s.length)(h2:s.length<=3000000000){h:T O}{N:Nat}:Fn A.C 145 [.str (45::s)] h N (fun v h' n'=>Rg h' n' v (-((aF s:Nat):Int))):=by
 intro w;have a1:cX 45=45:=rfl;have a2:(1:Int)<=(s.length:Int)+1:=by omega
 have a3:∀st:St,uW st (some (.str (45::s))) (some (some (.int .i64 1))) (some none)=some (.str s,st):=fun st=>by rw[Hg (by omega) (by simp only[bl];omega)];rfl
 rw[aQ,A.k145 (by simp)];simp[A.b145,a1,a3,aC];refine b_ [(0,0),(4,4),(16,32)] (fun e r st=>e=.exit 0/\∃m,m<=9/\VS (h.set N (.cells [.bool false,.aa] 105 true)) (N+1) s m r st) (VS (h.set N (.cells [.bool false,.aa] 105 true)) (N+1) s) s.length ?_ ?_ ?_
 ·exact⟨by simp,ab.refl,s,.aa,[],by simp,rfl,h1,aM _,hd,by simp,Own.nil,Di.nil,by simp,by simp[vI,pI]⟩
 ·rintro m r ⟨H,n1,W⟩ hr hf ⟨hW,hK,cur,u,l,g0,cM,m1,m2,re,g4,ho,jF,jL,hv⟩;simp only at hW hK ho;subst cM;rw[bu];by_cases h9:9<cur.length
  ·have KH:(9:Int)<(cur.length:Int):=by omega
   have ij:=hK.le;have KI:=Rf (s:=cur.drop (cur.length-9)) (st:=⟨H,n1,W⟩) (VQ re _) (by simp;omega);have xU:((cur.length:Int)-9).toNat=cur.length-9:=by omega
   have HD:=DC (VQ re (cur.length-9));have kK:(cur.drop (cur.length-9)).length=9:=by simp;omega
   rw[kK]at HD;have gZ:=Yan (cur.take (cur.length-9)) (cur.drop (cur.length-9));rw[Df,kK,show (10:Nat)^9=1000000000 by decide]at gZ;generalize hD:aF (cur.drop (cur.length-9))=D at*;obtain⟨v',h',w',e1,e2,e3,e4,e5⟩:=Ao (x:=[.int .i64 (D:Int)]) (u:=.slice n1 0 1 (some 1) 1) (bytes:=8) (w:=W) (ho.ad (ab.refl.new (.cells [.int .i64 (D:Int)] 3 true))) (by omega) (by decide) rfl (by simp[fQ,St.row,aP]) (by rw[EO];omega);rw[<-GC]at e5;simp(disch:=first|(simp;done)|omega|rfl) [A.my,hf,g0,g4,KH,xU,aC,KI,ae,e1];refine⟨cur.length-9,by omega,⟨by rw[e2];exact hW,(hK.new _).then e3,cur.take (cur.length-9),v',l++[(D:Int)],by simp,by simp,by omega,by omega,Zwq re _,by simp,e5,jF.app (Di.one (by omega) (by omega)),by simp;omega,?_⟩⟩;rw[EJ,iI,Az,xH,<-hv];have KJ:((aF cur:Nat):Int)=(aF (cur.take (cur.length-9)):Nat)*1000000000+D:=by omega
   rw[KJ];generalize ((aF (cur.take (cur.length-9)):Nat):Int)=X;generalize pI l.length=P;grind
  have KH:¬(9:Int)<(cur.length:Int):=by omega
  simp[A.my,hf,g0,KH];exact⟨cur.length,by omega,hW,hK,cur,u,l,by simp[g0],rfl,m1,m2,re,by simp[g4],ho,jF,jL,hv⟩
 rintro _ r ⟨H,n1,W⟩ hr ⟨rfl,m,m9,hW,hK,cur,u,l,g0,cM,m1,m2,re,g4,ho,jF,jL,hv⟩;simp only at hW hK ho;subst cM;have ij:=hK.le;have KI:=Rf (s:=cur) (st:=⟨H,n1,W⟩) re (by omega);have HD:=DC re;have hp9:=T3 m9;generalize hD:aF cur=D at*;obtain⟨v',h',w',e1,e2,e3,e4,e5⟩:=Ao (x:=[.int .i64 (D:Int)]) (u:=.slice n1 0 1 (some 1) 1) (bytes:=8) (w:=W) (ho.ad (ab.refl.new (.cells [.int .i64 (D:Int)] 3 true))) (by omega) (by decide) rfl (by simp[fQ,St.row,aP]) (by rw[EO];omega);rw[<-GC]at e5;simp[hr,g0,g4,KI,ae,e1];have nw:Di (l++[(D:Int)]):=jF.app (Di.one (by omega) (by omega));refine ar (zp (b:=true) (n:=aF s) e5.sl nw (by rw[EJ];exact hv) (by simp;omega)) ?_;rintro y h5 n5 k5 hy;have kk:=((hK.new (.cells [.int .i64 (D:Int)] 3 true)).then e3).trans k5;have uM:=kk.le;have qC:=kk.get N (by omega);simp at qC;obtain⟨u5,rfl,Cs⟩:=hy;have Kq:=fun c1 (hc:c1.length=2)=>Sl.setInt (i:=N) (c1:=c1) (e1:=105) (w1:=true) Cs qC (by intro x hx k m;simp at hx;rcases hx with rfl|rfl<;>simp) hc;have DT:=Sl.form Cs |>.one;unfold V.one at DT;have ow:ay N w'=[]:=Rm (xf N) (by rw[e2];exact hW);have k0:=(ab.refl (h:=h) (n:=N)).new (.cells [.bool false,.aa] 105 true);simp[hr,qC,ae,bO,DT,aS,aP,az,ow];exact⟨(k0.trans kk).set (aM N),u5,by simp,by simpa[Dn]using Kq _ rfl⟩
structure WhI (h:T O) (N a:Nat) (neg:Bool) (m:Nat) (r:T V) (st:St):Prop where
 w:ay N st.w=[]
 ad:ab h N st.h st.n
 ex:∃z u l,z.natAbs=m/\m<=a/\(z<0->neg=true)/\(0<z->neg=false)/\r.get 0=some (.int .i64 z)/\r.get 3=some u/\Own 1 3 N st.h st.n u (rz l)/\Di l/\vI l+pI l.length*m=a/\l.length<=100/\(m≠0->pI l.length<=a)
def Yf3{z:Int}{h:T O}{N:Nat}(h1: -9223372036854775808<=z)(h2:z<9223372036854775808):Fn A.C 146 [.int .i64 z] h N (fun v h' n'=>Rg h' n' v z):=by
 intro w;rw[aQ,A.k146 (by simp)];have kB:=(ab.refl (h:=h) (n:=N)).new (.cells [.bool false,.aa] 105 true);simp[A.b146];refine b_ [(0,0),(3,3),(5,5),(8,21)] (fun e r st=>e=.exit 0/\WhI (h.set N (.cells [.bool false,.aa] 105 true)) (N+1) z.natAbs (decide (z<0)) 0 r st) (WhI (h.set N (.cells [.bool false,.aa] 105 true)) (N+1) z.natAbs (decide (z<0))) z.natAbs ?_ ?_ ?_
 ·exact⟨by simp,ab.refl,z,.aa,[],rfl,aM _,fun h=>by simp[h],fun h=>by simp;omega,by simp,by simp,Own.nil,Di.nil,by simp[vI,pI],by simp,fun h=>by simp[pI];omega⟩
 ·rintro m r ⟨H,n1,W⟩ hr hf ⟨hW,hK,y,u,l,rfl,hm,wA,fV,g0,g3,ho,hd,hv,hl,hp⟩;simp only at hW hK ho;rw[bu];by_cases hy:y=0
  ·subst hy;simp[A.pw,hf,g0];exact⟨hW,hK,0,u,l,rfl,by omega,wA,fV,by simp[g0],by simp[g3],ho,hd,hv,hl,hp⟩
  have ij:=hK.le;obtain⟨d,qN⟩:∃d:Nat,d=y.natAbs%1000000000:=⟨_,rfl⟩;obtain⟨q,xW⟩:∃q:Nat,q=y.natAbs/1000000000:=⟨_,rfl⟩;have kK:d<1000000000:=by omega
  have Ch:(y.tdiv 1000000000).natAbs=q:=by rw[Int.natAbs_tdiv];exact xW.symm
  have iH:(y.tmod 1000000000).natAbs=d:=by rw[Int.natAbs_tmod];exact qN.symm
  have hqs:(y<0->y.tdiv 1000000000<=0)/\(0<y->0<=y.tdiv 1000000000):=by
   constructor
   ·intro h;have:(-y).tdiv 1000000000= -(y.tdiv 1000000000):=Int.neg_tdiv _ _;have h3:0<=(-y).tdiv 1000000000:=Int.tdiv_nonneg (by omega) (by omega);omega
   intro h;exact Int.tdiv_nonneg (by omega) (by omega)
  have hms:(y<0->y.tmod 1000000000<=0)/\(0<y->0<=y.tmod 1000000000):=by
   constructor
   ·intro h;have:(-y).tmod 1000000000= -(y.tmod 1000000000):=Int.neg_tmod _ _;have h3:0<=(-y).tmod 1000000000:=Int.tmod_nonneg _ (by omega);omega
   intro h;exact Int.tmod_nonneg _ (by omega)
  generalize hyq:y.tdiv 1000000000=Y at*;generalize hym:y.tmod 1000000000=D at*;have w1:bn .i64 Y=Y:=cL (by omega) (by omega);have w2:bn .i64 (0-D)= -D:=by rw[Int.zero_sub];exact cL (by omega) (by omega)
  have w3:bn .i64 (-D)= -D:=cL (by omega) (by omega);have hlen:l.length+1<=100:=by
   apply Classical.byContradiction;intro hc;have h5:l.length=100:=by omega
   have h6:=hp (by omega);rw[h5,UD]at h6;have h7:(1000000000^100:Nat)<=z.natAbs:=by exact_mod_cast h6
   have h8:(9223372036854775808:Nat)<1000000000^100:=by decide
   omega
  obtain⟨v',h',w',e1,e2,e3,e4,e5⟩:=Ao (x:=[.int .i64 (d:Int)]) (u:=.slice n1 0 1 (some 1) 1) (bytes:=8) (w:=W) (ho.ad (ab.refl.new (.cells [.int .i64 (d:Int)] 3 true))) (by omega) (by decide) rfl (by simp[fQ,St.row,aP]) (by rw[EO];omega);rw[<-GC]at e5;have iY:vI (l++[(d:Int)])+pI (l++[(d:Int)]).length*(q:Int)=z.natAbs:=by
   rw[EJ,iI,Az,xH,<-hv];have:(y.natAbs:Int)=1000000000*(q:Int)+d:=by omega
   rw[this];generalize pI l.length=P;grind
  have hqa:q<y.natAbs:=by omega
  have Oh:q≠0->pI (l++[(d:Int)]).length<=z.natAbs:=fun hq=>by have h3:0<=vI (l++[(d:Int)]):=xI (hd.app (Di.one (by omega) (by omega)));have h4:0<pI (l++[(d:Int)]).length:=EI _;have h5:pI (l++[(d:Int)]).length*1<=pI (l++[(d:Int)]).length*(q:Int):=tB (by omega) (by omega);omega
  have fin:WhI (h.set N (.cells [.bool false,.aa] 105 true)) (N+1) z.natAbs (decide (z<0)) q ((r.set 3 v').set 0 (.int .i64 Y)) ⟨h',n1+1+1,w'⟩:=⟨by rw[e2];exact hW,(hK.new _).then e3,Y,v',l++[(d:Int)],Ch,by omega,fun h=>wA (by have:=hqs.2;omega),fun h=>fV (by have:=hqs.1;omega),by simp,by simp,e5,hd.app (Di.one (by omega) (by omega)),iY,by simp;omega,Oh⟩;obtain⟨f1,f2,f3⟩:=fin;by_cases hD:D<0
  ·have V6: -D=(d:Int):=by omega
   rw[V6]at w2 w3;simp[A.pw,hf,g0,g3,hy,hyq,hym,hD,w1,w3,V6,ae,e1];exact⟨q,by omega,f1,f2,by simpa using f3⟩
  have V6:D=(d:Int):=by omega
  have hD':¬(d:Int)<0:=by omega
  simp[A.pw,hf,g0,g3,hy,hyq,hym,hD',w1,V6,ae,e1];exact⟨q,by omega,f1,f2,by simpa using f3⟩
 rintro _ r ⟨H,n1,W⟩ hr ⟨rfl,hW,hK,y,u,l,hy,hm,wA,fV,g0,g3,ho,hd,hv,hl,hp⟩;simp only at hW hK ho;have h0:y=0:=by omega
 subst h0;have jQ:vI l=(z.natAbs:Nat):=by simpa using hv
 simp[hr,g3];refine ar (zp (n:=z.natAbs) ho.sl hd jQ (by omega)) ?_;rintro v5 h5 n5 k5 VO;have ez:(if decide (z<0)=true then -((z.natAbs:Nat):Int) else ((z.natAbs:Nat):Int))=z:=by by_cases h0:z<0<;>simp[h0]<;>omega
 rw[ez]at VO;have uM:=hK.le;have Kw:=k5.le;have qC:=(k5.get N (by omega)).trans (hK.get N (by omega));rw[T.ag,av rfl]at qC;obtain⟨u5,rfl,Cs⟩:=VO;have p1:=Sl.form Cs |>.one;have p2:=Sl.form Cs |>.cells;unfold V.one at p1;unfold V.cells at p2;have ow:ay N W=[]:=Rm (xf N) hW;simp[hr,qC,ae,bO,p1,aS,aP,az,ow];exact⟨((kB.trans hK).trans k5).set (aM N),u5,by simp,Sl.setInt Cs qC km rfl⟩
def Zu7{z:Int}{h:T O}{N:Nat}(hl:(aN z).length<=2000000000):Fn A.C 145 [.str (aN z)] h N (fun v h' n'=>Rg h' n' v z):=by
 have h1:1<=(aq z.natAbs).length:=List.length_pos_iff.2 (JM _);unfold aN at hl ⊢;by_cases hz:z<0
 ·rw[av hz]at hl ⊢;simp only[bl]at hl;have e: -((aF (aq z.natAbs):Nat):Int)=z:=by rw[B6];omega
  have:=Ygx (Ag z.natAbs) h1 (by omega) (h:=h) (N:=N);rw[e]at this;exact this
 rw[ak hz]at hl ⊢;have e:((aF (aq z.natAbs):Nat):Int)=z:=by rw[B6];omega
 have:=VT (Ag z.natAbs) h1 (by omega) (h:=h) (N:=N);rw[e]at this;exact this
def Zu6{h h2:T O}{N n2:Nat}{a b:Int}{x y:V}(hx:Sl h2 n2 x (dI (ds a.natAbs)))(hy:Sl h2 n2 y (dI (ds b.natAbs)))(r0:h2.get N=some (.cells [.bool false,.aa] 105 true))(r1:h2.get (N+1)=some (.cells [.bool false,.aa] 105 true)):Rg ((h2.set N (.cells [.bool (decide (a<0)),x] 105 true)).set (N+1) (.cells [.bool (decide (b<0)),y] 105 true)) n2 (.agg [.bool (decide (a<0)),x]) a/\Rg ((h2.set N (.cells [.bool (decide (a<0)),x] 105 true)).set (N+1) (.cells [.bool (decide (b<0)),y] 105 true)) n2 (.agg [.bool (decide (b<0)),y]) b:=by
 have Ry:(h2.set N (.cells [.bool (decide (a<0)),x] 105 true)).get (N+1)=some (.cells [.bool false,.aa] 105 true):=by rw[T.ag,ak (by omega)];exact r1
 exact⟨⟨x,rfl,Sl.setInt (Sl.setInt hx r0 km rfl) Ry km rfl⟩,⟨y,rfl,Sl.setInt (Sl.setInt hy r0 km rfl) Ry km rfl⟩⟩
def V7{q:Rat}{h:T O}{N:Nat}(l1:(aN q.num).length<=1000000000)(l2:(aq q.den).length<=1000000000):Fn A.C 75 [.str (aO q)] h N (fun v h' n'=>∃x y,v=.aX [x,y]/\Rg h' n' x q.num/\Rg h' n' y (q.den:Int)):=by
 intro w;have aE:(aO q).length<=3000000000:=by
  unfold aO;split
  ·omega
  simp only[iI,bl];omega
 have cC:=fun st=>Hm (s:=aO q) (st:=st) (by omega);have hsa:=Mz q;have htk:=Py q;have oh:=(ab.refl (h:=h) (n:=N)).new (.cells [.bool false,.aa] 105 true);have k0:=oh.new (.cells [.bool false,.aa] 105 true);have d4':¬N+1=N:=by omega
 have d5':¬N=N+1:=by omega
 rw[aQ,A.k75 (by simp)];by_cases hd:q.den=1
 ·have he:ah (aO q)=(aO q).length:=by
   have:=EY q;have h2:ah (aO q)<=(aO q).length:=by rw[hsa];unfold aO;rw[av hd];exact aM _
   omega
  have nJ:aO q=aN q.num:=by unfold aO;rw[av hd]
  have c1:((ah (aO q):Int)=((aO q).length:Int)):=by omega
  rw[hd];simp[A.b75,cC,he];rw[nJ];refine ar (Zu7 (z:=q.num) (by omega)) ?_;rintro v1 h1 n1 k1 ⟨x,rfl,hx⟩;simp[];refine ar (Yf3 (z:=1) (by omega) (by omega)) ?_;rintro v2 h2 n2 k2 ⟨y,rfl,hy⟩;have fM:=k1.le;have iX:=k2.le;have hx:=Sl.ad hx k2;have r0:=(k2.get N (by omega)).trans (k1.get N (by omega));have r1:=(k2.get (N+1) (by omega)).trans (k1.get (N+1) (by omega));simp at r0 r1;have zA:=(Sl.form hx).one;have zB:=(Sl.form hy).one;have Ky:=(Sl.form hx).cells;have Ip:=(Sl.form hy).cells;unfold V.one at zA zB;unfold V.cells at Ky Ip;obtain⟨e1,e2⟩:=Zu6 (h:=h) (b:=1) hx hy r0 r1;have VU:N<n1:=by omega
  have VV:N<n2:=by omega
  have VW:N+1<n2:=by omega
  simp[r0,r1,ae,bO,zA,zB,aS,aP,az];simp only[show decide ((1:Int)<0)=false from rfl]at e1 e2;exact⟨(((k0.trans k1).trans k2).set (by omega)).set (by omega),_,_,⟨rfl,rfl⟩,e1,e2⟩
 have fb:=(EY q).2 hd;have zt:=Pz q hd;have c1:¬((ah (aO q):Int)=((aO q).length:Int)):=by omega
 have c2:¬(ah (aO q)=(aO q).length):=by omega
 have c3:(ah (aO q):Int)<=((aO q).length:Int):=by omega
 have c4:(ah (aO q):Int)+1<=((aO q).length:Int):=by omega
 have c5:((ah (aO q):Int)+1).toNat=ah (aO q)+1:=by omega
 have Lb:aF (aq q.den)=q.den:=B6 _;simp[A.b75,cC,c1,c3,aC,htk];refine ar (Zu7 (z:=q.num) (by omega)) ?_;rintro v1 h1 n1 k1 ⟨x,rfl,hx⟩;simp(disch:=omega) [c5,aC,zt];refine ar (VT (Ag q.den) (List.length_pos_iff.2 (JM _)) (by omega)) ?_;rintro v2 h2 n2 k2 hy;rw[Lb]at hy;obtain⟨y,rfl,hy⟩:=hy;have fM:=k1.le;have iX:=k2.le;have hx:=Sl.ad hx k2;have r0:=(k2.get N (by omega)).trans (k1.get N (by omega));have r1:=(k2.get (N+1) (by omega)).trans (k1.get (N+1) (by omega));simp at r0 r1;have zA:=(Sl.form hx).one;have zB:=(Sl.form hy).one;have Ky:=(Sl.form hx).cells;have Ip:=(Sl.form hy).cells;unfold V.one at zA zB;unfold V.cells at Ky Ip;obtain⟨e1,e2⟩:=Zu6 (h:=h) (b:=(q.den:Int)) hx hy r0 r1;have VU:N<n1:=by omega
 have VV:N<n2:=by omega
 have VW:N+1<n2:=by omega
 have zf:¬(q.den:Int)<0:=by omega
 simp only[show decide ((q.den:Int)<0)=false by simp[zf]]at e1 e2;simp[r0,r1,ae,bO,zA,zB,VU,VV,VW,aS,aP,dv.dw,az,zf];exact⟨(((k0.trans k1).trans k2).set (by omega)).set (by omega),_,_,⟨rfl,rfl⟩,e1,e2⟩
def RT{n:Nat}:(aq n).length<=9↔n<1000000000:=CO (k:=9) (by omega)
def Ypy{n:Nat}(h:n<1000000000)(st:St):A.C.call (.func 148 [] []) [.str (aq n)] st=some (.int .i64 n,st):=by have:=Rf (s:=aq n) (st:=st) (Ag n) (by have:=RT.2 h;omega);rwa [B6]at this
end
end Go.Mx
