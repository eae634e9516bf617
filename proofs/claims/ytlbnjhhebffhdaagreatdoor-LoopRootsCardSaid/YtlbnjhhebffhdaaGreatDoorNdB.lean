/-num-/
import Derived.Test.YtlbnjhhebffhdaaGreatDoorNcC
set_option linter.all false
set_option maxHeartbeats 4000000
namespace Go.Mx
noncomputable section
open Go Go.Proofs
set_option maxRecDepth 1000000
def A.b71:=A.q Tryz.f71
def A.k71:=@A.kk 71 16 [.cell 4 (some 4)] A.b71 (by kernel_rfl) rfl
def KZ{x y:V}{p q:Rat}{h:T O}{N:Nat}(hx:Fc h N x p)(hy:Fc h N y q)(l1:wl p.num<1000000000)(l2:wl (p.den:Nat)<1000000000)(l3:wl q.num<1000000000)(l4:wl (q.den:Nat)<1000000000):Fn A.C 71 [x,y] h N (fun v h' n'=>Fc h' n' v (p*q)):=by
 intro w
 rw[aZ,A.k71 (by simp)]
 obtain⟨n1,u1,n2,u2,rfl,s1,s2⟩:=hx
 obtain⟨n3,u3,n4,u4,rfl,s3,s4⟩:=hy
 have o1:=Zaj s1
 have o2:=Zaj s2
 have o3:=Zaj s3
 have o4:=Zaj s4
 unfold V.one at o1 o2 o3 o4
 have kB:ah h N (((h.set N (.cells [.int .i64 n1,u1,.int .i64 n2,u2] 102 true)).set (N+1) (.cells [.int .i64 n3,u3,.int .i64 n4,u4] 102 true)).set (N+2) (.cells [.int .i64 0,.ziA,.int .i64 0,.ziA] 102 true)) (N+3):=aO (aO (aO ah.refl _) _) _
 simp[A.b71,aI,aK,o1,o2,o3,o4]
 generalize gb:((h.set N (.cells [.int .i64 n1,u1,.int .i64 n2,u2] 102 true)).set (N+1) (.cells [.int .i64 n3,u3,.int .i64 n4,u4] 102 true)).set (N+2) (.cells [.int .i64 0,.ziA,.int .i64 0,.ziA] 102 true)=hB at*
 have b1:hB.get N=some (.cells [.int .i64 n1,u1,.int .i64 n2,u2] 102 true):=by rw[<-gb];simp
 have b2:hB.get (N+1)=some (.cells [.int .i64 n3,u3,.int .i64 n4,u4] 102 true):=by rw[<-gb];simp
 have b3:hB.get (N+2)=some (.cells [.int .i64 0,.ziA,.int .i64 0,.ziA] 102 true):=by rw[<-gb];simp
 refine av (Af (s1.ai kB) (s3.ai kB) (by omega) (by omega)) ?_
 rintro v5 h1 m1 k1 q1
 have fC:=k1.le
 have f1:=(k1.get N (by omega)).trans b1
 have f2:=(k1.get (N+1) (by omega)).trans b2
 have f3:=(k1.get (N+2) (by omega)).trans b3
 have e1:N<m1:=by omega
 have e2:N+1<m1:=by omega
 simp[f1,f2,e1,e2,aI,aK]
 refine av (Af ((s2.ai kB).ai k1) ((s4.ai kB).ai k1) (by omega) (by omega)) ?_
 rintro v6 h2 m2 k2 q2
 have zgl:=k2.le
 have f4:=(k2.get (N+2) (by omega)).trans f3
 simp[]
 have hd:((p.den:Nat):Int)*((q.den:Nat):Int)≠0:=by
  have:=p.den_nz
  have:=q.den_nz
  exact LF (by omega) (by omega)
 refine av (Zvg (q1.ai k2) q2 hd ?_ ?_) ?_
 ·have:=CR p.num q.num
  omega
 ·have:=CR ((p.den:Nat):Int) ((q.den:Nat):Int)
  omega
 ·rintro v7 h3 m3 k3 hv
  rw[<-Rat.divInt_mul_divInt,AA,AA]at hv
  obtain⟨n5,u5,n6,u6,rfl,t1,t2⟩:=hv
  have o5:=Zaj t1
  have o6:=Zaj t2
  unfold V.one at o5 o6
  have zgC:=k3.le
  have f5:=(k3.get (N+2) (by omega)).trans f4
  have e3:N+2<m3:=by omega
  simp[f5,e3,aI,aK,aj,bM,o5,o6,b_.chk,Ret]
  have kk:=((kB.trans k1).trans k2).trans k3
  exact⟨kk.set (by omega),n5,u5,n6,u6,rfl,t1.ay (i:=N+2) f5 nu0 rfl,t2.ay (i:=N+2) f5 nu0 rfl⟩
def Yeu{x:V}{q:Rat}{h:T O}{N:Nat}(hx:Fc h N x q):Fn A.C 149 [x] h N (fun v _ _=>v=.bool (decide (q.den=1))):=by
 intro w
 rw[aZ,A.k149 (by simp)]
 obtain⟨n1,u1,n2,u2,rfl,s1,s2⟩:=hx
 have o1:=Zaj s1
 have o2:=Zaj s2
 unfold V.one at o1 o2
 rcases s2 with⟨e0,_,_⟩|⟨i,o,l,c,e0,_,hz⟩
 ·simp only[V.agg.injEq,iA,V.int.injEq,true_and,and_true]at e0
  obtain⟨rfl,rfl⟩:=e0
  by_cases c1:q.den=1
  ·have c2:((q.den:Nat):Int)=1:=by omega
   simp[A.b149,aI,o1,a_,c1,Ret]
   exact aO ah.refl _
  ·have c2:¬((q.den:Nat):Int)=1:=by omega
   simp[A.b149,aI,o1,a_,c1,c2,Ret]
   exact aO ah.refl _
 ·simp only[V.agg.injEq,iA,V.int.injEq,true_and,and_true]at e0
  obtain⟨rfl,rfl⟩:=e0
  have c1:¬q.den=1:=by omega
  simp[A.b149,aI,o1,a_,c1,Ret]
  exact aO ah.refl _
def A.b73:=A.q Tryz.f73
def A.k73:=@A.kk 73 16 [.tmp 4] A.b73 (by kernel_rfl) rfl
def A.b156:=A.q Tryz.f156
def A.k156:=@A.kk 156 16 [.tmp 2] A.b156 (by kernel_rfl) rfl
def KW{x y:V}{p q:Rat}{h:T O}{N:Nat}(hx:Fc h N x p)(hy:Fc h N y q)(l1:wl p.num<1000000000)(l2:wl (p.den:Nat)<1000000000)(l3:wl q.num<1000000000)(l4:wl (q.den:Nat)<1000000000):Fn A.C 73 [x,y] h N (fun v _ _=>v=.int .i64 (sg3 (p.num*(q.den:Nat)-q.num*(p.den:Nat)))):=by
 intro w
 rw[aZ,A.k73 (by simp)]
 obtain⟨n1,u1,n2,u2,rfl,s1,s2⟩:=hx
 obtain⟨n3,u3,n4,u4,rfl,s3,s4⟩:=hy
 have o1:=Zaj s1
 have o2:=Zaj s2
 have o3:=Zaj s3
 have o4:=Zaj s4
 unfold V.one at o1 o2 o3 o4
 have kB:ah h N ((h.set N (.cells [.int .i64 n1,u1,.int .i64 n2,u2] 102 true)).set (N+1) (.cells [.int .i64 n3,u3,.int .i64 n4,u4] 102 true)) (N+2):=aO (aO ah.refl _) _
 simp[A.b73,aI,aK,o1,o2,o3,o4]
 generalize gb:(h.set N (.cells [.int .i64 n1,u1,.int .i64 n2,u2] 102 true)).set (N+1) (.cells [.int .i64 n3,u3,.int .i64 n4,u4] 102 true)=hB at*
 have b1:hB.get N=some (.cells [.int .i64 n1,u1,.int .i64 n2,u2] 102 true):=by rw[<-gb];simp
 have b2:hB.get (N+1)=some (.cells [.int .i64 n3,u3,.int .i64 n4,u4] 102 true):=by rw[<-gb];simp
 refine av (Af (s1.ai kB) (s4.ai kB) (by omega) (by omega)) ?_
 rintro v5 h1 m1 k1 q1
 have fC:=k1.le
 have f1:=(k1.get N (by omega)).trans b1
 have f2:=(k1.get (N+1) (by omega)).trans b2
 have e1:N<m1:=by omega
 have e2:N+1<m1:=by omega
 simp[f1,f2,e1,e2,aI,aK]
 refine av (Af ((s3.ai kB).ai k1) ((s2.ai kB).ai k1) (by omega) (by omega)) ?_
 rintro v6 h2 m2 k2 q2
 have zgl:=k2.le
 simp[]
 refine av (Ylg (q1.ai k2) q2 ?_ ?_) ?_
 ·have:=CR p.num ((q.den:Nat):Int)
  omega
 ·have:=CR q.num ((p.den:Nat):Int)
  omega
 ·rintro _ h3 m3 k3 rfl
  simp[b_.chk,Ret]
  exact((kB.trans k1).trans k2).trans k3
def Yb0{x:V}{q:Rat}{h:T O}{N:Nat}(hx:Fc h N x q)(hP:j_ h N)(l1:(dk q.num.natAbs).length<1000000000)(l2:(dk q.den).length<1000000000):Fn A.C 156 [x] h N (fun v _ _=>v=.str (Zao q)):=by
 intro w
 rw[aZ,A.k156 (by simp)]
 have oI:=hx
 obtain⟨n1,u1,n2,u2,rfl,s1,s2⟩:=hx
 have o1:=Zaj s1
 have o2:=Zaj s2
 unfold V.one at o1 o2
 have kB:=aO (ah.refl (h:=h) (n:=N)) (.cells [.int .i64 n1,u1,.int .i64 n2,u2] 102 true)
 simp[A.b156,aI,aK,o1,o2]
 generalize gb:h.set N (.cells [.int .i64 n1,u1,.int .i64 n2,u2] 102 true)=hB at*
 have b1:hB.get N=some (.cells [.int .i64 n1,u1,.int .i64 n2,u2] 102 true):=by rw[<-gb];simp
 refine av (Yeu (oI.ai kB)) ?_
 rintro _ h1 m1 k1 rfl
 have fC:=k1.le
 have f1:=(k1.get N (by omega)).trans b1
 have kk:=kB.trans k1
 by_cases c1:q.den=1
 ·simp[c1,f1,aI,aK]
  refine av (UK (s1.ai kk) (hP.ai kk) (by omega)) ?_
  rintro _ h2 m2 k2 rfl
  simp[Ret,Zao,c1]
  exact kk.trans k2
 ·have l0:N<m1:=by omega
  simp[c1,f1,l0,aI,aK]
  refine av (UK (s1.ai kk) (hP.ai kk) (by omega)) ?_
  rintro _ h2 m2 k2 rfl
  have zgl:=k2.le
  have QK:=kk.trans k2
  have f2:=(k2.get N (by omega)).trans f1
  have l3:N<m2:=by omega
  have dT:IntKind.max .i64=9223372036854775807:=rfl
  have hS1:(aU q.num).length<2000000000:=by
   have h1:(aq q.num.natAbs).length<=(dk q.num.natAbs).length+1:=by unfold aq;split<;>simp
   unfold aU
   split<;>simp<;>omega
  have hS2:(aq q.den).length<2000000000:=by
   have h1:(aq q.den).length<=(dk q.den).length+1:=by unfold aq;split<;>simp
   omega
  have kP:Zao q=aU q.num++47::aq q.den:=by unfold Zao;rw[aA c1]
  have hdI:aU ((q.den:Nat):Int)=aq q.den:=by unfold aU;rw[aA (by omega)];rfl
  rw[kP]
  generalize aU q.num=S1 at*
  have g1:¬(9223372036854775807:Int)<(S1.length:Int)+1:=by omega
  simp[f2,l3,iF,dT,g1,aI,aK]
  refine av (UK (s2.ai QK) (hP.ai QK) (by rw[eA];omega)) ?_
  rintro _ h3 m3 k3 rfl
  rw[hdI]
  generalize aq q.den=S2 at*
  have g2:¬(9223372036854775807:Int)<(S1.length:Int)+1+(S2.length:Int):=by omega
  simp[iF,dT,g2,b_.chk,Ret]
  exact QK.trans k3
def A.w75:=A.q Tryz.f75
def A.u_:=A.qt A.w75 [] [] [1,1]
def A.b75:=(fun y0=>A.qt A.w75 [] [([1,1],y0)] []) A.u_
def A.k75:=@A.kk 75 34 [.cell 4 (some 4)] A.b75 (by kernel_rfl) rfl
def Zm4{q:Rat}(h:q.den=1):q=(q.num:Rat):=by
 apply Rat.ext
 ·simp
 ·simp[h]
def Ytz{H:T O}{N n:Nat}{W:List Nat}{r:T V}{p q:Rat}{n1 n2 n3 n4:Int}{u1 u2 u3 u4:V}(hn:N+3<=n)(hW:aL N W=[])(b1:H.get N=some (.cells [.int .i64 n1,u1,.int .i64 n2,u2] 102 true))(b2:H.get (N+1)=some (.cells [.int .i64 n3,u3,.int .i64 n4,u4] 102 true))(b3:H.get (N+2)=some (.cells [.int .i64 0,.ziA,.int .i64 0,.ziA] 102 true))
  (s1:In H n (.agg [.int .i64 n1,u1]) p.num) (s2:In H n (.agg [.int .i64 n2,u2]) (p.den:Nat)) (s3:In H n (.agg [.int .i64 n3,u3]) q.num) (s4:In H n (.agg [.int .i64 n4,u4]) (q.den:Nat)) (l1:wl p.num<1000000000) (l2:wl (p.den:Nat)<1000000000) (l3:wl q.num<1000000000) (l4:wl (q.den:Nat)<1000000000) (a2:r.get 2=some (.ptr N 0)) (a3:r.get 3=some (.ptr (N+1) 0)) (a4:r.get 4=some (.ptr (N+2) 0)):
  Code A.C none A.u_ ⟨r,34,[]⟩ ⟨H,n,W⟩ (fun e fr st=>e=.ret/\∃r',fr=⟨r',34,[]⟩/\r'.get 4=some (.ptr (N+2) 0)/\UL H N (p+q) st):=by
 rw[cn]
 have o1:=Zaj s1
 have o2:=Zaj s2
 have o3:=Zaj s3
 have o4:=Zaj s4
 unfold V.one at o1 o2 o3 o4
 have z1:N<n:=by omega
 have z2:N+1<n:=by omega
 simp[A.u_,a2,a3,b1,b2,z1,z2,aI,aK]
 refine av (Af s1 s4 (by omega) (by omega)) ?_
 rintro v5 h1 m1 k1 q1
 have fC:=k1.le
 have f1:=(k1.get N (by omega)).trans b1
 have f2:=(k1.get (N+1) (by omega)).trans b2
 have f3:=(k1.get (N+2) (by omega)).trans b3
 have e1:N<m1:=by omega
 have e2:N+1<m1:=by omega
 simp[a2,a3,f1,f2,e1,e2,aI,aK]
 refine av (Af (s3.ai k1) (s2.ai k1) (by omega) (by omega)) ?_
 rintro v6 h2 m2 k2 q2
 have zgl:=k2.le
 have w1:=CR p.num ((q.den:Nat):Int)
 have w2:=CR q.num ((p.den:Nat):Int)
 have w3:=CR ((p.den:Nat):Int) ((q.den:Nat):Int)
 have w4:=Ybo (p.num*((q.den:Nat):Int)) (q.num*((p.den:Nat):Int))
 simp[]
 refine av (Qj (q1.ai k2) q2 (by omega) (by omega)) ?_
 rintro v7 h3 m3 k3 q3
 have zgC:=k3.le
 have k13:=(k1.trans k2).trans k3
 have f4:=(k13.get N (by omega)).trans b1
 have f5:=(k13.get (N+1) (by omega)).trans b2
 have e3:N<m3:=by omega
 have e4:N+1<m3:=by omega
 simp[a2,a3,f4,f5,e3,e4,aI,aK]
 refine av (Af (s2.ai k13) (s4.ai k13) (by omega) (by omega)) ?_
 rintro v8 h4 m4 k4 q4
 have uU:=k4.le
 have k14:=k13.trans k4
 have hd:((p.den:Nat):Int)*((q.den:Nat):Int)≠0:=by
  have:=p.den_nz
  have:=q.den_nz
  exact LF (by omega) (by omega)
 simp[]
 refine av (Zvg (q3.ai k4) q4 hd (by omega) (by omega)) ?_
 rintro v9 h5 m5 k5 hv
 have uH:((p.den:Nat):Int)≠0:=by have:=p.den_nz;omega
 have xw:((q.den:Nat):Int)≠0:=by have:=q.den_nz;omega
 rw[<-Rat.divInt_add_divInt _ _ uH xw,AA,AA]at hv
 obtain⟨n5,u5,n6,u6,rfl,t1,t2⟩:=hv
 have o5:=Zaj t1
 have o6:=Zaj t2
 unfold V.one at o5 o6
 have Kl:=k5.le
 have k15:=k14.trans k5
 have f6:=(k15.get (N+2) (by omega)).trans b3
 have e5:N+2<m5:=by omega
 simp[a4,f6,e5,aj,bM,o5,o6,b_.chk]
 have fj:¬N+2<N:=by omega
 refine⟨by simp[aL,hW,fj],fun i hi=>?_,by show N+3<=m5;omega,n5,u5,n6,u6,by show T.get (T.set _ _ _) _=_;rw[T.al,aR rfl],n5,u5,n6,u6,rfl,t1.ay (i:=N+2) f6 nu0 rfl,t2.ay (i:=N+2) f6 nu0 rfl⟩
 show T.get (T.set _ _ _) _=_
 rw[T.al,aA (by omega),k15.get i (by omega)]
def Nn{x y:V}{p q:Rat}{h:T O}{N:Nat}(hx:Fc h N x p)(hy:Fc h N y q)(l1:wl p.num<1000000000)(l2:wl (p.den:Nat)<1000000000)(l3:wl q.num<1000000000)(l4:wl (q.den:Nat)<1000000000):Fn A.C 75 [x,y] h N (fun v h' n'=>Fc h' n' v (p+q)):=by
 intro w
 rw[aZ,A.k75 (by simp)]
 have oI:=hx
 have tK:=hy
 obtain⟨n1,u1,n2,u2,rfl,s1,s2⟩:=hx
 obtain⟨n3,u3,n4,u4,rfl,s3,s4⟩:=hy
 have o1:=Zaj s1
 have o2:=Zaj s2
 have o3:=Zaj s3
 have o4:=Zaj s4
 unfold V.one at o1 o2 o3 o4
 have kB:ah h N (((h.set N (.cells [.int .i64 n1,u1,.int .i64 n2,u2] 102 true)).set (N+1) (.cells [.int .i64 n3,u3,.int .i64 n4,u4] 102 true)).set (N+2) (.cells [.int .i64 0,.ziA,.int .i64 0,.ziA] 102 true)) (N+3):=aO (aO (aO ah.refl _) _) _
 simp[A.b75,aI,aK,o1,o2,o3,o4]
 generalize gb:((h.set N (.cells [.int .i64 n1,u1,.int .i64 n2,u2] 102 true)).set (N+1) (.cells [.int .i64 n3,u3,.int .i64 n4,u4] 102 true)).set (N+2) (.cells [.int .i64 0,.ziA,.int .i64 0,.ziA] 102 true)=hB at*
 have b1:hB.get N=some (.cells [.int .i64 n1,u1,.int .i64 n2,u2] 102 true):=by rw[<-gb];simp
 have b2:hB.get (N+1)=some (.cells [.int .i64 n3,u3,.int .i64 n4,u4] 102 true):=by rw[<-gb];simp
 have b3:hB.get (N+2)=some (.cells [.int .i64 0,.ziA,.int .i64 0,.ziA] 102 true):=by rw[<-gb];simp
 refine av (Yeu (oI.ai kB)) ?_
 rintro _ h0 m0 k0 rfl
 have zfT:=k0.le
 have k0':=kB.trans k0
 have d1:=(k0.get N (by omega)).trans b1
 have d2:=(k0.get (N+1) (by omega)).trans b2
 have d3:=(k0.get (N+2) (by omega)).trans b3
 by_cases cp:p.den=1
 ·simp[cp,d2,aI,aK]
  refine av (Yeu (tK.ai k0')) ?_
  rintro _ h1 m1 k1 rfl
  have fC:=k1.le
  have g1:=(k1.get N (by omega)).trans d1
  have g2:=(k1.get (N+1) (by omega)).trans d2
  have g3:=(k1.get (N+2) (by omega)).trans d3
  have k1':=k0'.trans k1
  by_cases cq:q.den=1
  ·simp[cq,g1,g2,aI,aK]
   refine av (Qj (s1.ai k1') (s3.ai k1') (by omega) (by omega)) ?_
   rintro v5 h2 m2 k2 q1
   have zgl:=k2.le
   simp[]
   refine av (Zp8 q1) ?_
   rintro _ h3 m3 k3 ⟨n5,u5,n6,u6,rfl,t1,t2⟩
   have o5:=Zaj t1
   have o6:=Zaj t2
   unfold V.one at o5 o6
   have zgC:=k3.le
   have f5:=(k3.get (N+2) (by omega)).trans ((k2.get (N+2) (by omega)).trans g3)
   simp[f5,aI,aK,aj,bM,o5,o6,Ret]
   have kk:=(k1'.trans k2).trans k3
   have hpq:p+q=((p.num+q.num:Int):Rat):=by rw[Zm4 cp,Zm4 cq];simp
   rw[hpq]
   exact⟨kk.set (by omega),n5,u5,n6,u6,rfl,t1.ay (i:=N+2) f5 nu0 rfl,t2.ay (i:=N+2) f5 nu0 rfl⟩
  ·simp[cq]
   refine nc (Ytz (N:=N) (p:=p) (q:=q) (by omega) (by simp[aL]) g1 g2 g3 (s1.ai k1') (s2.ai k1') (s3.ai k1') (s4.ai k1') l1 l2 l3 l4 (by simp) (by simp) (by simp)) ?_
   rintro e fr ⟨H6,n6,W6⟩ ⟨rfl,r6,rfl,c4,q1,q2,q3,m5,v5,m6,v6,q4,q5⟩
   simp only at q1 q2 q3 q4 q5
   simp[c4,q4,aI,aK,Ret,q1]
   exact⟨⟨by omega,fun i hi=>(q2 i hi).trans (k1'.get i hi)⟩,q5⟩
 ·simp[cp]
  refine nc (Ytz (N:=N) (p:=p) (q:=q) (by omega) (by simp[aL]) d1 d2 d3 (s1.ai k0') (s2.ai k0') (s3.ai k0') (s4.ai k0') l1 l2 l3 l4 (by simp) (by simp) (by simp)) ?_
  rintro e fr ⟨H6,n6,W6⟩ ⟨rfl,r6,rfl,c4,q1,q2,q3,m5,v5,m6,v6,q4,q5⟩
  simp only at q1 q2 q3 q4 q5
  simp[c4,q4,aI,aK,Ret,q1]
  exact⟨⟨by omega,fun i hi=>(q2 i hi).trans (k0'.get i hi)⟩,q5⟩
def A.b109:=A.q Tryz.f109
def A.k109:=@A.kk 109 22 [.cell 2 (some 4)] A.b109 (by kernel_rfl) rfl
def Znj{z:Int}{h:T O}{N:Nat}(hl:(aU z).length<=100000):Fn A.C 176 [.str (aU z)] h N (fun v h' n'=>In h' n' v z):=by
 have hb:(aq z.natAbs).length<=100000:=by
  unfold aU at hl
  split at hl<;>(try simp at hl)<;>omega
 have:=Ycw (s:=aU z) (h:=h) (N:=N) (by rw[Mq];exact Zb9 _) (by rw[Mq];exact hb)
 rw[Zf3,Mq,zU]at this
 have e:(if decide (z<0)=true then -(z.natAbs:Int) else (z.natAbs:Int))=z:=by
  by_cases hz:z<0<;>simp[hz]<;>omega
 rw[e]at this
 exact this
def Ye6{q:Rat}{h:T O}{N:Nat}(l1:(aU q.num).length<=100000)(l2:(aq q.den).length<=100000):Fn A.C 109 [.str (Zao q)] h N (fun v h' n'=>Fc h' n' v q):=by
 intro w
 have hc:=fun st=>Ylf (s:=Zao q) (st:=st) (by unfold Zao;split<;>(try simp)<;>omega)
 rw[Pg]at hc
 have kB:=aO (ah.refl (h:=h) (n:=N)) (.cells [.int .i64 0,.ziA,.int .i64 0,.ziA] 102 true)
 rw[aZ,A.k109 (by simp)]
 by_cases c1:q.den=1
 ·have aW:¬ak (Zao q)<(Zao q).length:=fun hx=>(yJ q).1 hx c1
  simp[A.b109,hc,aW]
  refine av (Znj l1) ?_
  rintro v1 h1 m1 k1 q1
  simp[]
  refine av (Zp8 q1) ?_
  rintro _ h3 m3 k3 ⟨n5,u5,n6,u6,rfl,t1,t2⟩
  have o5:=Zaj t1
  have o6:=Zaj t2
  unfold V.one at o5 o6
  have fC:=k1.le
  have zgC:=k3.le
  have kk:=(kB.trans k1).trans k3
  have f5:=((k1.trans k3).get N (by omega))
  rw[T.al,aR rfl]at f5
  simp[f5,aI,aK,aj,bM,o5,o6,Ret]
  rw[Zm4 c1]
  exact⟨kk.set (by omega),n5,u5,n6,u6,rfl,t1.ay f5 nu0 rfl,t2.ay f5 nu0 rfl⟩
 ·have aW:ak (Zao q)<(Zao q).length:=(yJ q).2 c1
  have hd:=Ph q c1
  have hdI:aq q.den=aU ((q.den:Nat):Int):=by unfold aU;rw[aA (by omega)];rfl
  rw[hdI]at l2 hd
  simp[A.b109,hc,aW,hd]
  refine av (Znj l1) ?_
  rintro v1 h1 m1 k1 q1
  simp[]
  refine av (Znj l2) ?_
  rintro v2 h2 m2 k2 q2
  obtain⟨n5,u5,rfl,Ak⟩:=q1.cells
  obtain⟨n6,u6,rfl,Kg⟩:=q2.cells
  have o5:=Ak
  have o6:=Kg
  unfold V.one at o5 o6
  have fC:=k1.le
  have zgl:=k2.le
  have kk:=(kB.trans k1).trans k2
  have f5:=((k1.trans k2).get N (by omega))
  rw[T.al,aR rfl]at f5
  simp[f5,aI,aK,aj,bM,o5,o6,Ret]
  exact⟨kk.set (by omega),n5,u5,n6,u6,rfl,(q1.ai k2).ay f5 nu0 rfl,q2.ay f5 nu0 rfl⟩
variable {N k:Nat} {h:T O} {x:V}
def A.b155:=A.q Tryz.f155
def A.k155:=@A.kk 155 6 [.tmp 2] A.b155 (by kernel_rfl) rfl
def A.b153:=A.q Tryz.f153
def A.k153:=@A.kk 153 11 [.tmp 2] A.b153 (by kernel_rfl) rfl
def A.b212:=A.q Tryz.f212
def A.k212:=@A.kk 212 13 [.tmp 2] A.b212 (by kernel_rfl) rfl
def A.b243:=A.q Tryz.f243
def A.k243:=@A.kk 243 25 [.tmp 2] A.b243 (by kernel_rfl) rfl
def Fc.parts{q:Rat}(s:Fc h N x q):∃n1 u1 n2 u2,x=.agg [.int .i64 n1,u1,.int .i64 n2,u2]/\In h N (.agg [.int .i64 n1,u1]) q.num/\In h N (.agg [.int .i64 n2,u2]) (q.den:Int)/\V.one u1=true/\V.one u2=true:=by
 obtain⟨n1,u1,n2,u2,rfl,s1,s2⟩:=s
 exact⟨n1,u1,n2,u2,rfl,s1,s2,Zaj s1,Zaj s2⟩
def Nm{q:Rat}(hx:Fc h N x q):Fn A.C 155 [x] h N (fun v _ _=>v=.int .i64 (sg3 q.num)):=by
 intro w
 obtain⟨n1,u1,n2,u2,rfl,s1,s2,o1,o2⟩:=hx.parts
 unfold V.one at o1 o2
 rw[aZ,A.k155 (by simp)]
 have k0:=(ah.refl (h:=h) (n:=N)).new (.cells [.int .i64 n1,u1,.int .i64 n2,u2] 102 true)
 simp[A.b155,aI,aK,o1,o2]
 refine av (JV (s1.ai k0)) ?_
 rintro _ h1 m1 k1 rfl
 simp[Ret]
 exact k0.trans k1
def Yjy{n d:Nat}(hk:(aQ n).length=k+1)(hd:(aQ n)[k]?=some d):n<2^(64*k+zgd d):=by
 have h1:=mj n
 have h2:=El (b:=B) hd
 rw[jP (by omega),h1]at h2
 have h3:val B ((aQ n).take k)<B^k:=by
  have:=Em (b:=B) (l:=(aQ n).take k) (fun x hx=>qP n x (BR hx))
  rw[j9,oW (by omega)]at this;exact this
 have h4:d+1<=2^zgd d:=Ur d
 have h5:B^k*(d+1)<=B^k*2^zgd d:=jh _ h4
 have h6:B^k=2^(64*k):=by rw[Nat.pow_mul];rfl
 rw[Yw8,<-h6]
 rw[rX]at h5
 omega
def Zvf{n b:Nat}(h:600<(aq n).length)(hb:n<2^b):1800<b:=by
 apply Classical.byContradiction
 intro hc
 obtain⟨M,hM⟩:∃M:Nat,M=600:=⟨_,rfl⟩
 have h1:n<2^(3*M):=iL hb (Pm (by omega))
 have h2:(2:Nat)^(3*M)<=10^M:=by
  rw[Nat.pow_mul]
  exact IB (by decide) _
 have h3:=(yK (n:=n) (k:=M) (by omega)).2 (iL h1 h2)
 omega
def Yoy{z:Int}(hx:In h N x z)(hl:wl z<10000000000):Fn A.C 243 [x] h N (fun v _ _=>∃b:Nat,v=.int .i64 b/\z.natAbs<2^b):=by
 intro w
 obtain⟨n,u,rfl,hu⟩:=hx.cells
 have nL:=hu
 unfold V.one at nL
 have k0:=(ah.refl (h:=h) (n:=N)).new (.cells [.int .i64 n,u] 100 true)
 rw[aZ,A.k243 (by simp)]
 simp[A.b243,aI,aK,nL]
 refine av (CN (hx.ai k0)) ?_
 rintro _ h1 m1 k1 ⟨u2,rfl,hw⟩
 have hlen:=Sl.len hw
 rw[bH]at hlen
 by_cases h0:(aQ z.natAbs).length=0
 ·rw[h0]at hlen
  have hz:z.natAbs=0:=by
   have:=mj z.natAbs
   rw[rz h0]at this
   simpa[val]using this.symm
  simp[hlen,Ret]
  exact⟨k0.trans k1,0,rfl,by omega⟩
 ·obtain⟨k,hk⟩:∃k,(aQ z.natAbs).length=k+1:=⟨(aQ z.natAbs).length-1,by omega⟩
  rw[hk]at hlen
  obtain⟨d,hd⟩:=eQ (l:=aQ z.natAbs) (k:=k) (by omega)
  obtain⟨i,o,c,e,rw,q1,q2,q3,q4⟩:=Sl.at hw (Za8 hd)
  have hdB:d<18446744073709551616:=(qP _).get hd
  have xr:k+1<10000000000:=by
   have:=hl
   unfold wl at this
   omega
  have hbl:zgd d<=64:=by
   apply Classical.byContradiction
   intro hc
   have h1:d≠0:=fun h=>by rw[h]at hc;simp[zgd]at hc
   have h2:=MD h1
   have h3:=Pm (j:=64) (k:=zgd d-1) (by omega)
   have h4:(2:Nat)^64=18446744073709551616:=by decide
   omega
  have c1:¬((k:Int)+1=0):=by omega
  have c2:bA .i64 ((k:Int)+1-1)=(k:Int):=by rw[cH (by omega) (by omega)];omega
  have c3:bA .i64 (64*(k:Int))=64*(k:Int):=cH (by omega) (by omega)
  have c4:bA .i64 (64*(k:Int)+(zgd d:Nat))=64*(k:Int)+(zgd d:Nat):=cH (by omega) (by omega)
  have c5:(k:Int)<(k:Int)+1:=by omega
  simp(disch:=omega) [hlen,c1,c3,q1,q3,q4]
  refine av (Zqx hdB) ?_
  rintro _ h2 m2 k2 ⟨rfl,rfl,rfl⟩
  simp[c4,Ret]
  exact⟨k0.trans k1,64*k+zgd d,by simp,Yjy hk hd⟩
def Yeh{z:Int}(hx:In h N x z)(hP:j_ h N)(hl:wl z<10000000000)(hd:(dk z.natAbs).length<1000000000):Fn A.C 212 [x] h N (fun v _ _=>v=.bool (decide (600<(aq z.natAbs).length))):=by
 intro w
 obtain⟨n,u,rfl,hu⟩:=hx.cells
 have nL:=hu
 unfold V.one at nL
 have k0:=(ah.refl (h:=h) (n:=N)).new (.cells [.int .i64 n,u] 100 true)
 have g0:(h.set N (.cells [.int .i64 n,u] 100 true)).get N=some (.cells [.int .i64 n,u] 100 true):=by rw[T.al,aR rfl]
 rw[aZ,A.k212 (by simp)]
 simp[A.b212,aI,aK,nL]
 refine av (Yoy (hx.ai k0) hl) ?_
 rintro _ h1 m1 k1 ⟨b,rfl,hb⟩
 have g1:=(k1.get N (by omega)).trans g0
 by_cases hbb:1800<b
 ·have Km:(1800:Int)<(b:Int):=by omega
  simp[Km,g1,aI,aK]
  refine av (UK ((hx.ai k0).ai k1) ((hP.ai k0).ai k1) (by omega)) ?_
  rintro _ h2 m2 k2 rfl
  have ht:=fun st=>Zka (s:=aU z) (st:=st)
  rw[Mq]at ht
  simp[ht,Ret]
  exact⟨(k0.trans k1).trans k2,by omega⟩
 ·have Km:¬(1800:Int)<(b:Int):=by omega
  have hno:¬600<(aq z.natAbs).length:=fun hc=>hbb (Zvf hc hb)
  simp[Km,hno,Ret]
  exact k0.trans k1
def UN{z:Int}(h:z.natAbs<2^k):wl z<=k:=by
 have:=EC (iL h (IB (by decide) k))
 unfold wl at this ⊢
 rwa [eA]at this
def Zs6{q:Rat}(hx:Fc h N x q)(hP:j_ h N)(hq:Qb k q)(hk:k<=400000000):Fn A.C 153 [x] h N (fun v _ _=>v=.bool (vk q)):=by
 intro w
 obtain⟨n1,u1,n2,u2,rfl,s1,s2,o1,o2⟩:=hx.parts
 unfold V.one at o1 o2
 have k0:=(ah.refl (h:=h) (n:=N)).new (.cells [.int .i64 n1,u1,.int .i64 n2,u2] 102 true)
 have g0:(h.set N (.cells [.int .i64 n1,u1,.int .i64 n2,u2] 102 true)).get N=some (.cells [.int .i64 n1,u1,.int .i64 n2,u2] 102 true):=by rw[T.al,aR rfl]
 have l1:=HT hq.1
 have l2:=HT hq.2
 have z1:=UN hq.1
 have z2:=UN (z:=(q.den:Int)) (k:=k) (by rw[eA];exact hq.2)
 rw[aZ,A.k153 (by simp)]
 simp[A.b153,aI,aK,o1,o2]
 refine av (Yeh (s1.ai k0) (hP.ai k0) (by omega) (by omega)) ?_
 rintro _ h1 m1 k1 rfl
 have g1:=(k1.get N (by omega)).trans g0
 unfold vk
 by_cases c1:600<(aq q.num.natAbs).length
 ·simp[c1,Ret]
  exact k0.trans k1
 ·simp[c1,g1,aI,aK]
  refine av (Yeh ((s2.ai k0).ai k1) ((hP.ai k0).ai k1) (by omega) (by rw[eA];omega)) ?_
  rintro _ h2 m2 k2 rfl
  simp[Ret]
  exact(k0.trans k1).trans k2
variable {N:Nat} {h:T O} {l:List Rat} {v:V}
def A.QL:=A.q Tryz.f125
def A.pT:=A.ql A.QL 0 []
def A.b125:=(fun x0=>A.qb A.QL [x0]) A.pT
def A.k125:=@A.kk 125 23 [.tmp 2] A.b125 (by kernel_rfl) rfl
def A.QM:=A.q Tryz.f154
def A.qZ:=A.ql A.QM 0 []
def A.b154:=(fun x0=>A.qb A.QM [x0]) A.qZ
def A.k154:=@A.kk 154 23 [.tmp 2] A.b154 (by kernel_rfl) rfl
def fz(h:T O)(N:Nat)(c:List V)(q:Rat):Prop:=∃n1 u1 n2 u2,c=[.int .i64 n1,u1,.int .i64 n2,u2]/\In h N (.agg [.int .i64 n1,u1]) q.num/\In h N (.agg [.int .i64 n2,u2]) (q.den:Int)
def fz.ai{h':T O}{N':Nat}{c:List V}{q:Rat}(s:fz h N c q)(k:ah h N h' N'):fz h' N' c q:=by
 obtain⟨n1,u1,n2,u2,rfl,s1,s2⟩:=s
 exact⟨n1,u1,n2,u2,rfl,s1.ai k,s2.ai k⟩
def fz.fc{c:List V}{q:Rat}(s:fz h N c q):Fc h N (.agg c) q:=by
 obtain⟨n1,u1,n2,u2,rfl,s1,s2⟩:=s
 exact⟨n1,u1,n2,u2,rfl,s1,s2⟩
def Fc.c{x:V}{q:Rat}(s:Fc h N x q):∃c,x=.agg c/\fz h N c q:=by
 obtain⟨n1,u1,n2,u2,rfl,s1,s2⟩:=s
 exact⟨_,rfl,n1,u1,n2,u2,rfl,s1,s2⟩
def sY(c:List V):Prop:=∀x∈c,∀m,x≠.int .u64 m
def Ll{n:Int}{u:V}{z:Int}(s:In h N (.agg [.int .i64 n,u]) z):∀m,u≠.int .u64 m:=by
 rcases s with⟨h1,_⟩|⟨i,o,l,c,h1,_⟩
 ·simp at h1;rw[h1.2];simp
 ·simp at h1;rw[h1.2];simp
def fz.Sk{c:List V}{q:Rat}(s:fz h N c q):sY c:=by
 obtain⟨n1,u1,n2,u2,rfl,s1,s2⟩:=s
 intro x hx m
 simp at hx
 rcases hx with rfl|rfl|rfl|rfl
 ·simp
 ·exact Ll s1 m
 ·simp
 ·exact Ll s2 m
def fz.len{c:List V}{q:Rat}(s:fz h N c q):c.length=4/\c.all V.one=true:=by
 obtain⟨n1,u1,n2,u2,rfl,s1,s2⟩:=s
 have o1:=Zaj s1
 have o2:=Zaj s2
 exact⟨rfl,by simp only[List.all_cons,List.all_nil,o1,o2,Bool.and_true];rfl⟩
def fz.ay{i:Nat}{c c0 c1:List V}{q:Rat}{e0 e1:TypeId}{w0 w1:Bool}(s:fz h N c q)(g:h.get i=some (.cells c0 e0 w0))(hn:sY c0)(hc:c1.length=c0.length):fz (h.set i (.cells c1 e1 w1)) N c q:=by
 obtain⟨n1,u1,n2,u2,rfl,s1,s2⟩:=s
 exact⟨n1,u1,n2,u2,rfl,s1.ay g hn hc,s2.ay g hn hc⟩
def mV(h:T O)(N:Nat)(v:V)(l:List Rat):Prop:=∃cs:List (List V),Sn 4 h N v cs/\cs.length=l.length/\∀(j:Nat) (q:Rat),l[j]?=some q->∃c,cs[j]?=some c/\fz h N c q
def mV.ai{h':T O}{N':Nat}(s:mV h N v l)(k:ah h N h' N'):mV h' N' v l:=by
 obtain⟨cs,h1,h2,h3⟩:=s
 refine⟨cs,h1.ai k,h2,fun j q hq=>?_⟩
 obtain⟨c,g1,g2⟩:=h3 j q hq
 exact⟨c,g1,g2.ai k⟩
def mV.len(s:mV h N v l):rH v=some l.length:=by
 obtain⟨cs,h1,h2,_⟩:=s
 rw[h1.len,h2]
def mV.at(s:mV h N v l){j:Nat}{q:Rat}(hj:l[j]?=some q):∃i o x e rw c,wQ v=some (i,o)/\i<N/\h.get i=some (.cells x e rw)/\aK x (o+j*4) 4=some c/\fz h N c q:=by
 obtain⟨cs,h1,h2,h3⟩:=s
 obtain⟨c,h4,h5⟩:=h3 j q hj
 obtain⟨i,o,x,e,rw,q1,q2,q3,q4⟩:=h1.at h4
 exact⟨i,o,x,e,rw,c,q1,q2,q3,q4,h5⟩
def Al(h:T O)(N:Nat)(v:V)(l:List Rat):Prop:=mV h N v l/\∀i∈jU v,∃z w,h.get i=some (.cells z 102 w)
def tx(l:List Rat):List V:=strs (l.map Zao)
def Sb(l:List Rat):(tx l).length=l.length:=by simp[tx,strs]
def Ykf{j:Nat}{q:Rat}(h:l[j]?=some q):(tx l)[j]?=some (.str (Zao q)):=by simp[tx,strs,h]
def zF:List V:=[.int .i64 0,.ziA,.int .i64 0,.ziA]
def KT{z:List V}{n:Nat}:dr z (n+1)=z++dr z n:=by
 unfold dr
 rw[Nat.succ_mul,Nat.add_comm (n*z.length),List.range_add,List.map_append,List.map_map]
 congr 1
 ·apply o8
  intro j
  by_cases hj:j<z.length
  ·rw[jT,NX hj]
   simp[w6 hj,hj]
  ·rw[kc (by simp;omega),kc (by omega)]
 ·apply Nj
  intro i _
  simp[Nat.add_mod_left]
def Sd{a b c x:List V}{n o:Nat}(ha:a.length=o)(hb:b.length=n)(hx:x.length=n):aj (a++(b++c)) o x=a++(x++c):=by
 unfold aj
 rw[<-ha,List.take_left,hx,<-List.drop_drop,List.drop_left,<-hb,List.drop_left,rB]
structure FaI (h:T O) (N:Nat) (l:List Rat) (m:Nat) (r:T V) (st:St):Prop where
 w:aL N st.w=[]
 ai:ah h N st.h st.n
 ex:∃(k:Nat) (cs:List (List V)),k+m=l.length/\r.get 11=some (.int .i64 k)/\r.get 3=some (.slice N 0 l.length (some l.length) 4)/\N<st.n/\st.h.get N=some (.cells (cs.flatten++dr zF m) 102 true)/\cs.length=k/\∀(j:Nat) (q:Rat),j<k->l[j]?=some q->∃c,cs[j]?=some c/\fz st.h st.n c q
def Zvs{cs:List (List V)}(hl:cs.length<=l.length)(hc:∀(j:Nat) (q:Rat),j<cs.length->l[j]?=some q->∃c,cs[j]?=some c/\fz h N c q):(∀c∈cs,c.length=4)/\sY cs.flatten/\cs.flatten.all V.one=true:=by
 have key:∀c∈cs,∃q,fz h N c q:=fun c hcm=>by
  obtain⟨j,hj⟩:=Nd hcm
  have aW:=yz hj
  obtain⟨q,hq⟩:=eQ (l:=l) (k:=j) (by omega)
  obtain⟨c',h1,h2⟩:=hc j q aW hq
  rw[hj]at h1
  simp only[au]at h1
  subst h1
  exact⟨q,h2⟩
 refine⟨fun c hcm=>?_,fun x hx m=>?_,?_⟩
 ·obtain⟨q,hq⟩:=key c hcm;exact hq.len.1
 ·obtain⟨c,hcm,Kn⟩:=List.mem_flatten.1 hx
  obtain⟨q,hq⟩:=key c hcm
  exact hq.Sk x Kn m
 ·rw[uv]
  intro x hx
  obtain⟨c,hcm,Kn⟩:=List.mem_flatten.1 hx
  obtain⟨q,hq⟩:=key c hcm
  exact uv.1 hq.len.2 x Kn
def Ni:∀{n:Nat},sY (dr zF n)
 |0=>by intro x hx;simp[dr]at hx
 |n+1=>by
  intro x hx m
  rw[KT]at hx
  rcases tg.1 hx with hx|hx
  ·simp[zF]at hx
   rcases hx with rfl|rfl|rfl|rfl<;>simp
  ·exact Ni x hx m
def sY.app{a b:List V}(ha:sY a)(hb:sY b):sY (a++b):=fun x hx m=>by
 rcases tg.1 hx with hx|hx
 ·exact ha x hx m
 ·exact hb x hx m
def Ykc(n:Nat):(dr zF n).length=n*4:=by
 induction n with
 |zero=>simp[dr]
 |succ n ih=>rw[KT,iJ,ih];simp[zF];omega
structure TaI (h:T O) (N:Nat) (l:List Rat) (m:Nat) (r:T V) (st:St):Prop where
 w:aL N st.w=[]
 ai:ah h N st.h st.n
 ex:∃(k:Nat),k+m=l.length/\r.get 11=some (.int .i64 k)/\r.get 3=some (.slice N 0 l.length (some l.length) 1)/\N<st.n/\st.h.get N=some (.cells (tx (l.take k)++List.replicate m (V.str [])) 30 true)
def Yg7{k0:Nat}(hs:mV h N v l)(hP:j_ h N)(hl:l.length<1000000000)(hq:∀q∈l,Qb k0 q)(sW:k0<=400000000):Fn A.C 154 [v] h N (fun u h' n'=>Sl h' n' u (tx l)/\∀i∈jU u,∃z w,h'.get i=some (.cells z 30 w)):=by
 intro w
 have hlen:=hs.len
 have c1:(16:Int)*(l.length:Int)<=140737488355328:=by omega
 have c2:(l.length:Int)<4611686018427387904:=by omega
 have kB:ah h N (h.set N (.cells (dr [.str []] l.length) 30 true)) (N+1):=ah.refl.new _
 rw[aZ,A.k154 (by simp)]
 simp[A.b154,hlen,c1,c2]
 refine Zal [(4,5),(11,21)] (fun e r st=>e=.exit 0/\TaI h N l 0 r st) (TaI h N l) l.length ?_ ?_ ?_
 ·exact⟨by simp,kB,0,by omega,by simp,by simp,by show N<N+1;omega,by rw[T.al,aR rfl,Ykb];simp[tx,strs]⟩
 ·rintro m r ⟨H,n1,W⟩ hr hf ⟨hW,hK,k,hk,jR,h3,tW,hM⟩
  simp only at hW hK hM tW
  rw[cn]
  cases m with
  |zero=>
   obtain rfl:k=l.length:=by omega
   simp[A.qZ,hr,hf,jR]
   exact⟨hW,hK,l.length,by omega,by simp[jR],by simp[h3],tW,hM⟩
  |succ m=>
   have aW:k<l.length:=by omega
   have zij:(k:Int)<(l.length:Int):=by omega
   obtain⟨q,Ib⟩:=eQ aW
   have Ic:=hq q (eI Ib)
   obtain⟨i,o,x,e,rw,c,q1,q2,q3,q4,q5⟩:=(hs.ai hK).at Ib
   obtain⟨gw,u1,fj,u2,rfl,s1,s2⟩:=q5
   have o1:=Zaj s1
   have o2:=Zaj s2
   unfold V.one at o1 o2
   have la:=HT Ic.1
   have la2:=HT Ic.2
   have gW:=hK.le
   have e4:aj [.int .i64 0,.ziA,.int .i64 0,.ziA] 0 [.int .i64 gw,u1,.int .i64 fj,u2]=[.int .i64 gw,u1,.int .i64 fj,u2]:=rfl
   have e5:aK [.int .i64 gw,u1,.int .i64 fj,u2] 0 4=some [.int .i64 gw,u1,.int .i64 fj,u2]:=rfl
   have kA:ah H n1 ((H.set n1 (.cells [.int .i64 0,.ziA,.int .i64 0,.ziA] 102 true)).set n1 (.cells [.int .i64 gw,u1,.int .i64 fj,u2] 102 true)) (n1+1):=(ah.refl.new _).set (Yv5 _)
   simp[A.qZ,hr,jR,zij,hlen,q1,q3,q4,aI,bM,o1,o2,e4,e5]
   refine av (Yb0 (q:=q) (Fc.ai ⟨gw,u1,fj,u2,rfl,s1,s2⟩ kA) ((hP.ai hK).ai kA) (by omega) (by omega)) ?_
   rintro _ H2 n2 k2 rfl
   have oH:=k2.le
   have tX:=(k2.get N (by omega)).trans ((kA.get N tW).trans hM)
   have hb:k+1<=(tx (l.take k)++List.replicate (m+1) (V.str [])).length:=by
    rw[iJ,Sb,List.length_replicate,j9];omega
   have hsp:aj (tx (l.take k)++List.replicate (m+1) (V.str [])) k [.str (Zao q)]=tx (l.take (k+1))++List.replicate m (V.str []):=by
    have e1:(tx (l.take k)++List.replicate (m+1) (V.str []))=tx (l.take k)++([V.str []]++List.replicate m (V.str [])):=by rw[Xee];rfl
    rw[e1,Sd (n:=1) (by rw[Sb,j9];omega) rfl rfl,HQ,Ib]
    simp[tx,strs]
   generalize tx (l.take k)++List.replicate (m+1) (V.str [])=X at*
   obtain⟨Y,hY⟩:∃Y,tx (l.take (k+1))++List.replicate m (V.str [])=Y:=⟨_,rfl⟩
   rw[hY]at hsp
   simp(disch:=first|(simp;done)|omega|(simp only[bH,cy,bC];omega)|rfl) [hr,hf,jR,h3,aW,zij,tX,bM,hb,hsp]
   refine⟨m,by omega,⟨by simp[aL,hW];omega,((hK.trans kA).trans k2).set (Yv5 N),k+1,by omega,by simp,by simp[h3],by show N<n2;omega,by show T.get _ N=_;rw[T.al,aR rfl,hY]⟩⟩
 ·rintro _ r ⟨H,n1,W⟩ hr ⟨rfl,hW,hK,k,hk,jR,h3,tW,hM⟩
  simp only at hW hK hM tW
  obtain rfl:k=l.length:=by omega
  rw[At]at hM
  simp only[List.replicate_zero,AP]at hM
  simp[hr,Ret,hW,hK]
  exact⟨Sl.row tW hM (Sb l) (fun k hk=>by simp at hk;omega),fun i hi=>by simp[jU]at hi;subst hi;exact⟨_,.inr hM⟩⟩
variable {N:Nat} {h:T O} {l:List Rat} {m:List (List Rat)} {v:V}
def Xbl(a b:List Rat):Nat->Rat
 |0=>0
 |k+1=>Xbl a b k+a[k]?.getD 0*b[k]?.getD 0
def Xaw(a b:List Rat):Rat:=Xbl a b a.length
def Qb.zero:Qb 1 0:=⟨by decide,by decide⟩
def Xa1{l:List Rat}{k:Nat}(h:∀q∈l,Qb k q)(hk:1<=k)(j:Nat):Qb k (l[j]?.getD 0):=by
 cases hj:l[j]? with
 |none=>exact Qb.zero.mono hk
 |some q=>exact h q (eI hj)
def Xb5{a b:List Rat}{j k:Nat}(ha:∀q∈a,Qb j q)(hb:∀q∈b,Qb k q)(hj:1<=j)(hk:1<=k):∀n,Qb (n*(j+k+1)+1) (Xbl a b n)
 |0=>by simpa[Xbl]using Qb.zero
 |n+1=>by
  have h:=(Xb5 ha hb hj hk n).add ((Xa1 ha hj n).mul (Xa1 hb hk n))
  exact h.mono (by rw[ku];omega)
def Tx(h:T O)(N:Nat)(v:V)(l:List Rat):Prop:=Sl h N v (tx l)
def Tx.ai{h':T O}{N':Nat}(s:Tx h N v l)(k:ah h N h' N'):Tx h' N' v l:=Sl.ai s k
def Tx.len(s:Tx h N v l):rH v=some l.length:=by
 have:=Sl.len s
 rwa [Sb]at this
def TxM(h:T O)(N:Nat)(v:V)(m:List (List Rat)):Prop:=∃us:List V,Sl h N v us/\us.length=m.length/\∀(j:Nat) (l:List Rat),m[j]?=some l->∃u,us[j]?=some u/\Tx h N u l
def TxM.ai{h':T O}{N':Nat}(s:TxM h N v m)(k:ah h N h' N'):TxM h' N' v m:=by
 obtain⟨us,h1,h2,h3⟩:=s
 refine⟨us,h1.ai k,h2,fun j l hl=>?_⟩
 obtain⟨u,g1,g2⟩:=h3 j l hl
 exact⟨u,g1,g2.ai k⟩
def TxM.len(s:TxM h N v m):rH v=some m.length:=by
 obtain⟨us,h1,h2,_⟩:=s
 rw[h1.len,h2]
def TxM.at(s:TxM h N v m){j:Nat}{l:List Rat}(hj:m[j]?=some l):∃i o c e rw u,wQ v=some (i,o)/\i<N/\h.get i=some (.cells c e rw)/\c[o+j]?=some u/\Tx h N u l:=by
 obtain⟨us,h1,h2,h3⟩:=s
 obtain⟨u,g1,g2⟩:=h3 j l hj
 obtain⟨i,o,c,e,rw,q1,q2,q3,q4⟩:=h1.at g1
 exact⟨i,o,c,e,rw,u,q1,q2,q3,q4,g2⟩
variable {N:Nat} {h h':T O} {l:List Rat} {m:List (List Rat)} {u v:V}
def TxT(h:T O)(N:Nat)(u:V)(l:List Rat):Prop:=Tx h N u l/\∀i∈jU u,∃z w,h.get i=some (.cells z 30 w)
def Xbv{l:List V}(s:Sl h N v l):∀i∈jU v,i<N:=fun i hi=>by
 rcases s with⟨_,rfl|rfl⟩|⟨j,o,cp,c,e,rw,rfl,hj,_⟩
 ·simp[jU]at hi
 ·simp[jU]at hi
 ·simp[jU]at hi;omega
def TxT.ai{N':Nat}(s:TxT h N u l)(k:ah h N h' N'):TxT h' N' u l:=⟨s.1.ai k,fun i hi=>by rw[k.get i (Xbv s.1 i hi)];exact s.2 i hi⟩
def TxT.fv{n n':Nat}{Y:V->Prop}{e:TypeId}(s:TxT h n u l)(k:wS (fun i=>i∈jU v) h n h' n')(hd:Lm e Y h v)(he:e≠30):TxT h' n' u l:=by
 have hn:∀i∈jU u,i∉jU v:=fun i hi hc=>by
  obtain⟨z,w,hz⟩:=s.2 i hi
  obtain⟨z2,fK,_⟩:=hd i hc
  rw[hz]at fK
  simp at fK
  exact he fK.2.1.symm
 exact⟨Sl.fv s.1 k hn,fun i hi=>by rw[k.get i (Xbv s.1 i hi) (hn i hi)];exact s.2 i hi⟩
def Xa9{N0:Nat}(s:Own 1 30 N0 h N v ((tx l).map fun y=>[y])):TxT h N v l:=by
 refine⟨Sn.one.1 s.sn,fun i hi=>?_⟩
 obtain⟨_,⟨_,rfl⟩|⟨j,rfl,_,_,hg⟩⟩:=s
 ·simp[jU]at hi
 ·simp[jU]at hi;subst hi;exact⟨_,_,hg⟩
def MtO(N0:Nat)(h:T O)(N:Nat)(v:V)(m:List (List Rat)):Prop:=∃us:List V,Own 1 22 N0 h N v (us.map fun y=>[y])/\(us=[]->v=.ziA)/\us.length=m.length/\∀(j:Nat) (l:List Rat),m[j]?=some l->∃u,us[j]?=some u/\TxT h N u l
def MtO.nil{N0:Nat}:MtO N0 h N .ziA []:=⟨[],Own.nil,fun _=>rfl,rfl,fun j l hl=>by simp at hl⟩
def MtO.ai{N0:Nat}{N':Nat}(s:MtO N0 h N v m)(k:ah h N h' N'):MtO N0 h' N' v m:=by
 obtain⟨us,h1,h2,h3,h4⟩:=s
 refine⟨us,h1.ai k,h2,h3,fun j l hl=>?_⟩
 obtain⟨u,g1,g2⟩:=h4 j l hl
 exact⟨u,g1,g2.ai k⟩
def MtO.txm{N0:Nat}(s:MtO N0 h N v m):TxM h N v m:=by
 obtain⟨us,h1,h2,h3,h4⟩:=s
 refine⟨us,Sn.one.1 h1.sn,h3,fun j l hl=>?_⟩
 obtain⟨u,g1,g2⟩:=h4 j l hl
 exact⟨u,g1,g2.1⟩
def MtO.push{N0:Nat}{x:V}{w:List Nat}(s:MtO N0 h N v m)(hu:TxT h N u l)(hN:N0<=N)(hx:oL ⟨h,N,w⟩ 1 x=some (1,[u]))(hm:m.length<100000):
  ∃v' h' w',tf ⟨h,N,w⟩ 1 24 22 v x=some (v',⟨h',N+1,w'⟩)/\aL N0 w'=aL N0 w/\ah h N0 h' (N+1)/\MtO N0 h' (N+1) v' (m++[l]):=by
 obtain⟨us,h1,h2,h3,h4⟩:=s
 obtain⟨v',h',w',f1,f2,f3,f4,fD,f5⟩:=Zou (Y:=fun _=>True) (x:=[u]) (u:=x) (bytes:=24) (w:=w) h1 (fun h0=>h2 (List.map_eq_nil_iff.1 h0)) (fun _ _ _ _=>trivial) hN (by decide) rfl hx (by rw[Lh];omega)
 refine⟨v',h',w',f1,f2,f3,us++[u],by simpa using f5,by simp,by simp[h3],fun j r hr=>?_⟩
 by_cases hj:j<m.length
 ·rw[xJ hj]at hr
  obtain⟨u',g1,g2⟩:=h4 j r hr
  exact⟨u',by rw[xJ (by omega)];exact g1,g2.fv f4 fD (by simp)⟩
 ·rw[Ig (by omega)]at hr
  cases hd:j-m.length with
  |zero=>
   rw[hd]at hr
   simp at hr
   subst hr
   exact⟨u,by rw[Ig (by omega),h3,hd];rfl,hu.fv f4 fD (by simp)⟩
  |succ d=>rw[hd]at hr;simp at hr
def UO{N i:Nat}:∀{w:List Nat},i∈w->i<N->i∈aL N w
 |[],h,_=>by simp at h
 |j::w,h,hi=>by
  simp only[aL]
  rcases kV.1 h with rfl|h
  ·rw[aR hi]
   unfold xe
   split
   ·rename_i hc;simpa using hc
   ·exact oV
  ·have:=UO h hi
   split
   ·unfold xe
    split
    ·exact this
    ·exact oY _ this
   ·exact this
def Zqo{n1:Nat}{w w':List Nat}(h:aL n1 w'=aL n1 w)(hN:N<=n1)(hw:aL N w=[]):aL N w'=[]:=by
 apply List.eq_nil_iff_forall_not_mem.2
 intro i hi
 obtain⟨h1,h2⟩:=MM hi
 have h3:=UO h1 (show i<n1 by omega)
 rw[h]at h3
 have h4:=UO (MM h3).1 h2
 rw[hw]at h4
 simp at h4
def Ykw{w:List Nat}(h:aL N w=[]):∀i∈w,N<=i:=fun i hi=>by
 apply vD
 intro hc
 have:=UO hi hc
 rw[h]at this
 simp at this
def Ydc{n:Nat}{a b:List Nat}(ha:aL N a=[])(hb:aL N b=[]):aL N (aL n a++b)=[]:=KY fun i hi=>by
 rcases tg.1 hi with hi|hi
 ·exact Ykw ha i (MM hi).1
 ·exact Ykw hb i hi
def Xar(m:List (List Rat))(k:Nat):List Rat:=m.map fun r=>r[k]?.getD 0
def Yz6(m:List (List Rat))(n:Nat):List (List Rat):=(List.range n).map fun k=>Xar m k
def Xcr{k t:Nat}{r:List Rat}{q:Rat}(h:m[t]?=some r)(hq:r[k]?=some q):Xar (m.take (t+1)) k=Xar (m.take t) k++[q]:=by
 unfold Xar
 rw[HQ,h]
 simp[hq]
def MtS(h:T O)(N:Nat)(v:V)(m:List (List bj)):Prop:=∃us:List V,Sl h N v us/\us.length=m.length/\∀(j:Nat) (l:List bj),m[j]?=some l->∃u,us[j]?=some u/\Sl h N u (strs l)
def MtS.ai{h h':T O}{N N':Nat}{v:V}{m:List (List bj)}(s:MtS h N v m)(k:ah h N h' N'):MtS h' N' v m:=by
 obtain⟨us,h1,h2,h3⟩:=s
 refine⟨us,h1.ai k,h2,fun j l hl=>?_⟩
 obtain⟨u,g1,g2⟩:=h3 j l hl
 exact⟨u,g1,g2.ai k⟩
def MtS.at{h:T O}{N:Nat}{v:V}{m:List (List bj)}(s:MtS h N v m){j:Nat}{l:List bj}(hj:m[j]?=some l):∃i o c e rw u,wQ v=some (i,o)/\i<N/\h.get i=some (.cells c e rw)/\c[o+j]?=some u/\Sl h N u (strs l):=by
 obtain⟨us,h1,h2,h3⟩:=s
 obtain⟨u,g1,g2⟩:=h3 j l hj
 obtain⟨i,o,c,e,rw,q1,q2,q3,q4⟩:=h1.at g1
 exact⟨i,o,c,e,rw,u,q1,q2,q3,q4,g2⟩
def A.w41:=A.q Tryz.f41
def A.zgS:=A.ql A.w41 0 []
def A.b41:=(fun x0=>A.qb A.w41 [x0]) A.zgS
def A.k41:=@A.kk 41 19 [.tmp 2] A.b41 (by kernel_rfl) rfl
def Zx7{h:T O}{N:Nat}{v:V}{l:List bj}(hs:Sl h N v (strs l))(hl:l.length<100000)(rA:∀s∈l,s.length<9223372036854775808):Fn A.C 41 [v] h N (fun u _ _=>u=.int .i64 (cN (l.map fun s=>((aV s:Nat):Int)))):=by
 intro w
 have hlen:=hs.len
 rw[HZ]at hlen
 rw[aZ,A.k41 (by simp)]
 simp(disch:=first|(simp;done)|omega|rfl) [-getElem?_pos,A.b41]
 refine Zal [(2,18)] (fun e r st=>aL N st.w=[]/\ah h N st.h st.n/\((e=.exit 0/\cN (l.map fun s=>((aV s:Nat):Int))=0)\/(e=.ret/\r.get 2=some (.int .i64 (cN (l.map fun s=>((aV s:Nat):Int))))))) (fun m r st=>aL N st.w=[]/\ah h N st.h st.n/\∃k,k+m=l.length/\r.get 3=some (.int .i64 k)/\cN (l.map fun s=>((aV s:Nat):Int))=cN ((l.drop k).map fun s=>((aV s:Nat):Int))) l.length ?_ ?_ ?_
 ·exact⟨by simp,ah.refl,0,by omega,by simp,by simp⟩
 ·rintro m r ⟨H,n1,W⟩ hr hf ⟨hW,hK,k,hk,h7,hz⟩
  simp only at hW hK
  rw[cn]
  cases m with
  |zero=>
   obtain rfl:k=l.length:=by omega
   rw[xD,tV,cN]at hz
   simp(disch:=first|(simp;done)|omega|rfl) [-getElem?_pos,A.zgS,hr,hf,h7,hlen,hz,hW,hK]
  |succ m=>
   have aW:k<l.length:=by omega
   obtain⟨s,hc⟩:=eQ aW
   obtain⟨i,o,cc,e,rw,q1,q2,q3,q4⟩:=(hs.ai hK).at (KR hc)
   rw[rV hc,Yw1,cN]at hz
   have hk1:(k:Int)<(l.length:Int):=by omega
   simp(disch:=first|(simp;done)|omega|rfl) [-getElem?_pos,A.zgS,hr,hf,h7,hk1,aW,hlen,q1,q3,q4]
   refine av (SO (rA s (eI hc))) ?_
   rintro _ h3 n3 k3 rfl
   have kk:=hK.trans k3
   by_cases h0:aV s=0
   ·rw[aR (by omega)]at hz
    simp(disch:=first|(simp;done)|omega|rfl) [-getElem?_pos,hr,hf,h7,h0,hW,a_]
    exact⟨m,by omega,kk,k+1,by omega,by simp,by simpa using hz⟩
   ·rw[aA (by omega)]at hz
    have rQ:¬((aV s:Nat):Int)=0:=by omega
    simp(disch:=first|(simp;done)|omega|rfl) [-getElem?_pos,hr,hf,h7,h0,rQ,hW,a_,hz]
    exact kk
 ·rintro _ r ⟨H,n1,W⟩ hr ⟨hW,hK,⟨rfl,hz⟩|⟨rfl,h2⟩⟩
  ·simp only at hW hK
   simp(disch:=first|(simp;done)|omega|rfl) [-getElem?_pos,hr,hz,Ret,hW,hK]
  ·simp only at hW hK
   simp(disch:=first|(simp;done)|omega|rfl) [-getElem?_pos,hr,h2,Ret,hW,hK]
end
end Go.Mx
