/-num-/
import Derived.Test.YtjjmkflbfpeagaaGreatDoorNcE
set_option linter.all false
set_option maxHeartbeats 4000000
namespace Go.Mx
noncomputable section
open Go Go.Proofs
set_option maxRecDepth 1000000
def A.b67:=A.q Tryz.f67
def A.k67:=@A.kk 67 16 [.tmp 4] A.b67 (by kernel_rfl) rfl
def A.b132:=A.q Tryz.f132
def A.k132:=@A.kk 132 16 [.tmp 2] A.b132 (by kernel_rfl) rfl
def WY{x y:V}{p q:Rat}{h:T O}{N:Nat}(hx:Fc h N x p)(hy:Fc h N y q)(l1:wl p.num<1000000000)(l2:wl (p.den:Nat)<1000000000)(l3:wl q.num<1000000000)(l4:wl (q.den:Nat)<1000000000):Fn A.C 67 [x,y] h N (fun v _ _=>v=.int .i64 (cY (p.num*(q.den:Nat)-q.num*(p.den:Nat)))):=by
 intro w
 rw[aQ,A.k67 (by simp)]
 obtain⟨n1,u1,n2,u2,rfl,s1,s2⟩:=hx
 obtain⟨n3,u3,n4,u4,rfl,s3,s4⟩:=hy
 have o1:=cP s1
 have o2:=cP s2
 have o3:=cP s3
 have o4:=cP s4
 unfold V.one at o1 o2 o3 o4
 have kB:ad h N ((h.set N (.cells [.int .i64 n1,u1,.int .i64 n2,u2] 72 true)).set (N+1) (.cells [.int .i64 n3,u3,.int .i64 n4,u4] 72 true)) (N+2):=aG (aG ad.refl _) _
 simp[A.b67,aL,aM,o1,o2,o3,o4]
 generalize fV:(h.set N (.cells [.int .i64 n1,u1,.int .i64 n2,u2] 72 true)).set (N+1) (.cells [.int .i64 n3,u3,.int .i64 n4,u4] 72 true)=hB at*
 have b1:hB.get N=some (.cells [.int .i64 n1,u1,.int .i64 n2,u2] 72 true):=by rw[<-fV];simp
 have b2:hB.get (N+1)=some (.cells [.int .i64 n3,u3,.int .i64 n4,u4] 72 true):=by rw[<-fV];simp
 refine au (yy (s1.ae kB) (s4.ae kB) (by omega) (by omega)) ?_
 rintro v5 h1 m1 k1 q1
 have eS:=k1.le
 have f1:=(k1.get N (by omega)).trans b1
 have f2:=(k1.get (N+1) (by omega)).trans b2
 have e1:N<m1:=by omega
 have e2:N+1<m1:=by omega
 simp[f1,f2,e1,e2,aL,aM]
 refine au (yy ((s3.ae kB).ae k1) ((s2.ae kB).ae k1) (by omega) (by omega)) ?_
 rintro v6 h2 m2 k2 q2
 have gF:=k2.le
 simp[]
 refine au (Yih (q1.ae k2) q2 ?_ ?_) ?_
 ·have:=Bm p.num ((q.den:Nat):Int)
  omega
 ·have:=Bm q.num ((p.den:Nat):Int)
  omega
 ·rintro _ h3 m3 k3 rfl
  simp[cD.cG,aA]
  exact((kB.trans k1).trans k2).trans k3
def Zz5{x:V}{q:Rat}{h:T O}{N:Nat}(hx:Fc h N x q)(hP:jB h N)(l1:(cZ q.num.natAbs).length<1000000000)(l2:(cZ q.den).length<1000000000):Fn A.C 132 [x] h N (fun v _ _=>v=.str (av q)):=by
 intro w
 rw[aQ,A.k132 (by simp)]
 have oR:=hx
 obtain⟨n1,u1,n2,u2,rfl,s1,s2⟩:=hx
 have o1:=cP s1
 have o2:=cP s2
 unfold V.one at o1 o2
 have kB:=aG (ad.refl (h:=h) (n:=N)) (.cells [.int .i64 n1,u1,.int .i64 n2,u2] 72 true)
 simp[A.b132,aL,aM,o1,o2]
 generalize fV:h.set N (.cells [.int .i64 n1,u1,.int .i64 n2,u2] 72 true)=hB at*
 have b1:hB.get N=some (.cells [.int .i64 n1,u1,.int .i64 n2,u2] 72 true):=by rw[<-fV];simp
 refine au (Vt (oR.ae kB)) ?_
 rintro _ h1 m1 k1 rfl
 have eS:=k1.le
 have f1:=(k1.get N (by omega)).trans b1
 have kk:=kB.trans k1
 by_cases c1:q.den=1
 ·simp[c1,f1,aL,aM]
  refine au (OV (s1.ae kk) (hP.ae kk) (by omega)) ?_
  rintro _ h2 m2 k2 rfl
  simp[aA,av,c1]
  exact kk.trans k2
 ·have l0:N<m1:=by omega
  simp[c1,f1,l0,aL,aM]
  refine au (OV (s1.ae kk) (hP.ae kk) (by omega)) ?_
  rintro _ h2 m2 k2 rfl
  have gF:=k2.le
  have KW:=kk.trans k2
  have f2:=(k2.get N (by omega)).trans f1
  have l3:N<m2:=by omega
  have dJ:IntKind.max .i64=9223372036854775807:=rfl
  have hS1:(aK q.num).length<2000000000:=by
   have h1:(aj q.num.natAbs).length<=(cZ q.num.natAbs).length+1:=by unfold aj;split<;>simp
   unfold aK
   split<;>simp<;>omega
  have hS2:(aj q.den).length<2000000000:=by
   have h1:(aj q.den).length<=(cZ q.den).length+1:=by unfold aj;split<;>simp
   omega
  have kb:av q=aK q.num++47::aj q.den:=by unfold av;rw[aq c1]
  have Vu:aK ((q.den:Nat):Int)=aj q.den:=by unfold aK;rw[aq (by omega)];rfl
  rw[kb]
  generalize aK q.num=S1 at*
  have g1:¬(9223372036854775807:Int)<(S1.length:Int)+1:=by omega
  simp[f2,l3,iC,dJ,g1,aL,aM]
  refine au (OV (s2.ae KW) (hP.ae KW) (by rw[ed];omega)) ?_
  rintro _ h3 m3 k3 rfl
  rw[Vu]
  generalize aj q.den=S2 at*
  have g2:¬(9223372036854775807:Int)<(S1.length:Int)+1+(S2.length:Int):=by omega
  simp[iC,dJ,g2,cD.cG,aA]
  exact KW.trans k3
def A.w71:=A.q Tryz.f71
def A.tC:=A.qt A.w71 [] [] [1,1]
def A.b71:=(fun y0=>A.qt A.w71 [] [([1,1],y0)] []) A.tC
def A.k71:=@A.kk 71 34 [.cell 4 (some 4)] A.b71 (by kernel_rfl) rfl
def Vv{q:Rat}(h:q.den=1):q=(q.num:Rat):=by
 apply Rat.ext
 ·simp
 ·simp[h]
def Yqq{H:T O}{N n:Nat}{W:List Nat}{r:T V}{p q:Rat}{n1 n2 n3 n4:Int}{u1 u2 u3 u4:V}(hn:N+3<=n)(hW:aB N W=[])(b1:H.get N=some (.cells [.int .i64 n1,u1,.int .i64 n2,u2] 72 true))(b2:H.get (N+1)=some (.cells [.int .i64 n3,u3,.int .i64 n4,u4] 72 true))(b3:H.get (N+2)=some (.cells [.int .i64 0,.aa,.int .i64 0,.aa] 72 true))
  (s1:In H n (.agg [.int .i64 n1,u1]) p.num) (s2:In H n (.agg [.int .i64 n2,u2]) (p.den:Nat)) (s3:In H n (.agg [.int .i64 n3,u3]) q.num) (s4:In H n (.agg [.int .i64 n4,u4]) (q.den:Nat)) (l1:wl p.num<1000000000) (l2:wl (p.den:Nat)<1000000000) (l3:wl q.num<1000000000) (l4:wl (q.den:Nat)<1000000000) (a2:r.get 2=some (.ptr N 0)) (a3:r.get 3=some (.ptr (N+1) 0)) (a4:r.get 4=some (.ptr (N+2) 0)):
  Code A.C none A.tC ⟨r,34,[]⟩ ⟨H,n,W⟩ (fun e fr st=>e=.ret/\∃r',fr=⟨r',34,[]⟩/\r'.get 4=some (.ptr (N+2) 0)/\OX H N (p+q) st):=by
 rw[cm]
 have o1:=cP s1
 have o2:=cP s2
 have o3:=cP s3
 have o4:=cP s4
 unfold V.one at o1 o2 o3 o4
 have z1:N<n:=by omega
 have z2:N+1<n:=by omega
 simp[A.tC,a2,a3,b1,b2,z1,z2,aL,aM]
 refine au (yy s1 s4 (by omega) (by omega)) ?_
 rintro v5 h1 m1 k1 q1
 have eS:=k1.le
 have f1:=(k1.get N (by omega)).trans b1
 have f2:=(k1.get (N+1) (by omega)).trans b2
 have f3:=(k1.get (N+2) (by omega)).trans b3
 have e1:N<m1:=by omega
 have e2:N+1<m1:=by omega
 simp[a2,a3,f1,f2,e1,e2,aL,aM]
 refine au (yy (s3.ae k1) (s2.ae k1) (by omega) (by omega)) ?_
 rintro v6 h2 m2 k2 q2
 have gF:=k2.le
 have w1:=Bm p.num ((q.den:Nat):Int)
 have w2:=Bm q.num ((p.den:Nat):Int)
 have w3:=Bm ((p.den:Nat):Int) ((q.den:Nat):Int)
 have w4:=Vw (p.num*((q.den:Nat):Int)) (q.num*((p.den:Nat):Int))
 simp[]
 refine au (KF (q1.ae k2) q2 (by omega) (by omega)) ?_
 rintro v7 h3 m3 k3 q3
 have mm:=k3.le
 have k13:=(k1.trans k2).trans k3
 have f4:=(k13.get N (by omega)).trans b1
 have f5:=(k13.get (N+1) (by omega)).trans b2
 have e3:N<m3:=by omega
 have e4:N+1<m3:=by omega
 simp[a2,a3,f4,f5,e3,e4,aL,aM]
 refine au (yy (s2.ae k13) (s4.ae k13) (by omega) (by omega)) ?_
 rintro v8 h4 m4 k4 q4
 have tj:=k4.le
 have k14:=k13.trans k4
 have hd:((p.den:Nat):Int)*((q.den:Nat):Int)≠0:=by
  have:=p.den_nz
  have:=q.den_nz
  exact GB (by omega) (by omega)
 simp[]
 refine au (Qw (q3.ae k4) q4 hd (by omega) (by omega)) ?_
 rintro v9 h5 m5 k5 hv
 have sF:((p.den:Nat):Int)≠0:=by have:=p.den_nz;omega
 have vO:((q.den:Nat):Int)≠0:=by have:=q.den_nz;omega
 rw[<-Rat.divInt_add_divInt _ _ sF vO,zd,zd]at hv
 obtain⟨n5,u5,n6,u6,rfl,t1,t2⟩:=hv
 have o5:=cP t1
 have o6:=cP t2
 unfold V.one at o5 o6
 have Fu:=k5.le
 have k15:=k14.trans k5
 have f6:=(k15.get (N+2) (by omega)).trans b3
 have e5:N+2<m5:=by omega
 simp[a4,f6,e5,ag,bS,o5,o6,cD.cG]
 have mw:¬N+2<N:=by omega
 refine⟨by simp[aB,hW,mw],fun i hi=>?_,by show N+3<=m5;omega,n5,u5,n6,u6,by show T.get (T.set _ _ _) _=_;rw[T.ai,aJ rfl],n5,u5,n6,u6,rfl,t1.aC (i:=N+2) f6 ki rfl,t2.aC (i:=N+2) f6 ki rfl⟩
 show T.get (T.set _ _ _) _=_
 rw[T.ai,aq (by omega),k15.get i (by omega)]
def HN{x y:V}{p q:Rat}{h:T O}{N:Nat}(hx:Fc h N x p)(hy:Fc h N y q)(l1:wl p.num<1000000000)(l2:wl (p.den:Nat)<1000000000)(l3:wl q.num<1000000000)(l4:wl (q.den:Nat)<1000000000):Fn A.C 71 [x,y] h N (fun v h' n'=>Fc h' n' v (p+q)):=by
 intro w
 rw[aQ,A.k71 (by simp)]
 have oR:=hx
 have tR:=hy
 obtain⟨n1,u1,n2,u2,rfl,s1,s2⟩:=hx
 obtain⟨n3,u3,n4,u4,rfl,s3,s4⟩:=hy
 have o1:=cP s1
 have o2:=cP s2
 have o3:=cP s3
 have o4:=cP s4
 unfold V.one at o1 o2 o3 o4
 have kB:ad h N (((h.set N (.cells [.int .i64 n1,u1,.int .i64 n2,u2] 72 true)).set (N+1) (.cells [.int .i64 n3,u3,.int .i64 n4,u4] 72 true)).set (N+2) (.cells [.int .i64 0,.aa,.int .i64 0,.aa] 72 true)) (N+3):=aG (aG (aG ad.refl _) _) _
 simp[A.b71,aL,aM,o1,o2,o3,o4]
 generalize fV:((h.set N (.cells [.int .i64 n1,u1,.int .i64 n2,u2] 72 true)).set (N+1) (.cells [.int .i64 n3,u3,.int .i64 n4,u4] 72 true)).set (N+2) (.cells [.int .i64 0,.aa,.int .i64 0,.aa] 72 true)=hB at*
 have b1:hB.get N=some (.cells [.int .i64 n1,u1,.int .i64 n2,u2] 72 true):=by rw[<-fV];simp
 have b2:hB.get (N+1)=some (.cells [.int .i64 n3,u3,.int .i64 n4,u4] 72 true):=by rw[<-fV];simp
 have b3:hB.get (N+2)=some (.cells [.int .i64 0,.aa,.int .i64 0,.aa] 72 true):=by rw[<-fV];simp
 refine au (Vt (oR.ae kB)) ?_
 rintro _ h0 m0 k0 rfl
 have zaC:=k0.le
 have k0':=kB.trans k0
 have d1:=(k0.get N (by omega)).trans b1
 have d2:=(k0.get (N+1) (by omega)).trans b2
 have d3:=(k0.get (N+2) (by omega)).trans b3
 by_cases cp:p.den=1
 ·simp[cp,d2,aL,aM]
  refine au (Vt (tR.ae k0')) ?_
  rintro _ h1 m1 k1 rfl
  have eS:=k1.le
  have g1:=(k1.get N (by omega)).trans d1
  have g2:=(k1.get (N+1) (by omega)).trans d2
  have g3:=(k1.get (N+2) (by omega)).trans d3
  have k1':=k0'.trans k1
  by_cases cq:q.den=1
  ·simp[cq,g1,g2,aL,aM]
   refine au (KF (s1.ae k1') (s3.ae k1') (by omega) (by omega)) ?_
   rintro v5 h2 m2 k2 q1
   have gF:=k2.le
   simp[]
   refine au (Vo q1) ?_
   rintro _ h3 m3 k3 ⟨n5,u5,n6,u6,rfl,t1,t2⟩
   have o5:=cP t1
   have o6:=cP t2
   unfold V.one at o5 o6
   have mm:=k3.le
   have f5:=(k3.get (N+2) (by omega)).trans ((k2.get (N+2) (by omega)).trans g3)
   simp[f5,aL,aM,ag,bS,o5,o6,aA]
   have kk:=(k1'.trans k2).trans k3
   have hpq:p+q=((p.num+q.num:Int):Rat):=by rw[Vv cp,Vv cq];simp
   rw[hpq]
   exact⟨kk.set (by omega),n5,u5,n6,u6,rfl,t1.aC (i:=N+2) f5 ki rfl,t2.aC (i:=N+2) f5 ki rfl⟩
  ·simp[cq]
   refine nP (Yqq (N:=N) (p:=p) (q:=q) (by omega) (by simp[aB]) g1 g2 g3 (s1.ae k1') (s2.ae k1') (s3.ae k1') (s4.ae k1') l1 l2 l3 l4 (by simp) (by simp) (by simp)) ?_
   rintro e fr ⟨H6,n6,W6⟩ ⟨rfl,r6,rfl,c4,q1,q2,q3,m5,v5,m6,v6,q4,q5⟩
   simp only at q1 q2 q3 q4 q5
   simp[c4,q4,aL,aM,aA,q1]
   exact⟨⟨by omega,fun i hi=>(q2 i hi).trans (k1'.get i hi)⟩,q5⟩
 ·simp[cp]
  refine nP (Yqq (N:=N) (p:=p) (q:=q) (by omega) (by simp[aB]) d1 d2 d3 (s1.ae k0') (s2.ae k0') (s3.ae k0') (s4.ae k0') l1 l2 l3 l4 (by simp) (by simp) (by simp)) ?_
  rintro e fr ⟨H6,n6,W6⟩ ⟨rfl,r6,rfl,c4,q1,q2,q3,m5,v5,m6,v6,q4,q5⟩
  simp only at q1 q2 q3 q4 q5
  simp[c4,q4,aL,aM,aA,q1]
  exact⟨⟨by omega,fun i hi=>(q2 i hi).trans (k0'.get i hi)⟩,q5⟩
def A.b66:=A.q Tryz.f66
def A.k66:=@A.kk 66 22 [.cell 2 (some 4)] A.b66 (by kernel_rfl) rfl
def Vx{z:Int}{h:T O}{N:Nat}(hl:(aK z).length<=100000):Fn A.C 126 [.str (aK z)] h N (fun v h' n'=>In h' n' v z):=by
 have hb:(aj z.natAbs).length<=100000:=by
  unfold aK at hl
  split at hl<;>(try simp at hl)<;>omega
 have:=Yav (s:=aK z) (h:=h) (N:=N) (by rw[G3];exact vN _) (by rw[G3];exact hb)
 rw[G0,G3,ye]at this
 have e:(if decide (z<0)=true then -(z.natAbs:Int) else (z.natAbs:Int))=z:=by
  by_cases hz:z<0<;>simp[hz]<;>omega
 rw[e]at this
 exact this
def WN{q:Rat}{h:T O}{N:Nat}(l1:(aK q.num).length<=100000)(l2:(aj q.den).length<=100000):Fn A.C 66 [.str (av q)] h N (fun v h' n'=>Fc h' n' v q):=by
 intro w
 have hc:=fun st=>Yig (s:=av q) (st:=st) (by unfold av;split<;>(try simp)<;>omega)
 rw[JI]at hc
 have kB:=aG (ad.refl (h:=h) (n:=N)) (.cells [.int .i64 0,.aa,.int .i64 0,.aa] 72 true)
 rw[aQ,A.k66 (by simp)]
 by_cases c1:q.den=1
 ·have aO:¬ah (av q)<(av q).length:=fun hx=>(AT q).1 hx c1
  simp[A.b66,hc,aO]
  refine au (Vx l1) ?_
  rintro v1 h1 m1 k1 q1
  simp[]
  refine au (Vo q1) ?_
  rintro _ h3 m3 k3 ⟨n5,u5,n6,u6,rfl,t1,t2⟩
  have o5:=cP t1
  have o6:=cP t2
  unfold V.one at o5 o6
  have eS:=k1.le
  have mm:=k3.le
  have kk:=(kB.trans k1).trans k3
  have f5:=((k1.trans k3).get N (by omega))
  rw[T.ai,aJ rfl]at f5
  simp[f5,aL,aM,ag,bS,o5,o6,aA]
  rw[Vv c1]
  exact⟨kk.set (by omega),n5,u5,n6,u6,rfl,t1.aC f5 ki rfl,t2.aC f5 ki rfl⟩
 ·have aO:ah (av q)<(av q).length:=(AT q).2 c1
  have hd:=JJ q c1
  have Vu:aj q.den=aK ((q.den:Nat):Int):=by unfold aK;rw[aq (by omega)];rfl
  rw[Vu]at l2 hd
  simp[A.b66,hc,aO,hd]
  refine au (Vx l1) ?_
  rintro v1 h1 m1 k1 q1
  simp[]
  refine au (Vx l2) ?_
  rintro v2 h2 m2 k2 q2
  obtain⟨n5,u5,rfl,yz⟩:=q1.cells
  obtain⟨n6,u6,rfl,Fo⟩:=q2.cells
  have o5:=yz
  have o6:=Fo
  unfold V.one at o5 o6
  have eS:=k1.le
  have gF:=k2.le
  have kk:=(kB.trans k1).trans k2
  have f5:=((k1.trans k2).get N (by omega))
  rw[T.ai,aJ rfl]at f5
  simp[f5,aL,aM,ag,bS,o5,o6,aA]
  exact⟨kk.set (by omega),n5,u5,n6,u6,rfl,(q1.ae k2).aC f5 ki rfl,q2.aC f5 ki rfl⟩
variable {N k:Nat} {h:T O} {x:V} {z:Int}
def A.b124:=A.q Tryz.f124
def A.k124:=@A.kk 124 6 [.tmp 2] A.b124 (by kernel_rfl) rfl
def A.b73:=A.q Tryz.f73
def A.k73:=@A.kk 73 11 [.tmp 2] A.b73 (by kernel_rfl) rfl
def A.b131:=A.q Tryz.f131
def A.k131:=@A.kk 131 13 [.tmp 2] A.b131 (by kernel_rfl) rfl
def A.b192:=A.q Tryz.f192
def A.k192:=@A.kk 192 25 [.tmp 2] A.b192 (by kernel_rfl) rfl
def Fc.parts{q:Rat}(s:Fc h N x q):∃n1 u1 n2 u2,x=.agg [.int .i64 n1,u1,.int .i64 n2,u2]/\In h N (.agg [.int .i64 n1,u1]) q.num/\In h N (.agg [.int .i64 n2,u2]) (q.den:Int)/\V.one u1=true/\V.one u2=true:=by
 obtain⟨n1,u1,n2,u2,rfl,s1,s2⟩:=s
 exact⟨n1,u1,n2,u2,rfl,s1,s2,cP s1,cP s2⟩
def WO{q:Rat}(hx:Fc h N x q):Fn A.C 124 [x] h N (fun v _ _=>v=.int .i64 (cY q.num)):=by
 intro w
 obtain⟨n1,u1,n2,u2,rfl,s1,s2,o1,o2⟩:=hx.parts
 unfold V.one at o1 o2
 rw[aQ,A.k124 (by simp)]
 have k0:=(ad.refl (h:=h) (n:=N)).new (.cells [.int .i64 n1,u1,.int .i64 n2,u2] 72 true)
 simp[A.b124,aL,aM,o1,o2]
 refine au (EP (s1.ae k0)) ?_
 rintro _ h1 m1 k1 rfl
 simp[aA]
 exact k0.trans k1
def Yg9{n d:Nat}(hk:(aH n).length=k+1)(hd:(aH n)[k]?=some d):n<2^(64*k+aV d):=by
 have h1:=kP n
 have h2:=Cq (b:=B) hd
 rw[gI (by omega),h1]at h2
 have h3:val B ((aH n).take k)<B^k:=by
  have:=Cr (b:=B) (l:=(aH n).take k) (fun x hx=>pC n x (Ae hx))
  rw[jH,nU (by omega)]at this;exact this
 have h4:d+1<=2^aV d:=OC d
 have h5:B^k*(d+1)<=B^k*2^aV d:=iT _ h4
 have h6:B^k=2^(64*k):=by rw[Nat.pow_mul];rfl
 rw[gL,<-h6]
 rw[my]at h5
 omega
def Zt3{n b:Nat}(h:600<(aj n).length)(hb:n<2^b):1800<b:=by
 apply Classical.byContradiction
 intro hc
 obtain⟨M,hM⟩:∃M:Nat,M=600:=⟨_,rfl⟩
 have h1:n<2^(3*M):=ic hb (JL (by omega))
 have h2:(2:Nat)^(3*M)<=10^M:=by
  rw[Nat.pow_mul]
  exact BK (by decide) _
 have h3:=(yZ (n:=n) (k:=M) (by omega)).2 (ic h1 h2)
 omega
def Yl1(hx:In h N x z)(hl:wl z<10000000000):Fn A.C 192 [x] h N (fun v _ _=>∃b:Nat,v=.int .i64 b/\z.natAbs<2^b):=by
 intro w
 obtain⟨n,u,rfl,hu⟩:=hx.cells
 have mR:=hu
 unfold V.one at mR
 have k0:=(ad.refl (h:=h) (n:=N)).new (.cells [.int .i64 n,u] 70 true)
 rw[aQ,A.k192 (by simp)]
 simp[A.b192,aL,aM,mR]
 refine au (Bb (hx.ae k0)) ?_
 rintro _ h1 m1 k1 ⟨u2,rfl,hw⟩
 have hlen:=Sl.len hw
 rw[bn]at hlen
 by_cases h0:(aH z.natAbs).length=0
 ·rw[h0]at hlen
  have hz:z.natAbs=0:=by
   have:=kP z.natAbs
   rw[pV h0]at this
   simpa[val]using this.symm
  simp[hlen,aA]
  exact⟨k0.trans k1,0,rfl,by omega⟩
 ·obtain⟨k,hk⟩:∃k,(aH z.natAbs).length=k+1:=⟨(aH z.natAbs).length-1,by omega⟩
  rw[hk]at hlen
  obtain⟨d,hd⟩:=eA (l:=aH z.natAbs) (k:=k) (by omega)
  obtain⟨i,o,c,e,rw,q1,q2,q3,q4⟩:=Sl.at hw (eY hd)
  have Uu:d<18446744073709551616:=(pC _).get hd
  have vM:k+1<10000000000:=by
   have:=hl
   unfold wl at this
   omega
  have Zk:aV d<=64:=by
   apply Classical.byContradiction
   intro hc
   have h1:d≠0:=fun h=>by rw[h]at hc;simp[aV]at hc
   have h2:=Hj h1
   have h3:=JL (j:=64) (k:=aV d-1) (by omega)
   have h4:(2:Nat)^64=18446744073709551616:=by decide
   omega
  have c1:¬((k:Int)+1=0):=by omega
  have c2:bb .i64 ((k:Int)+1-1)=(k:Int):=by rw[cb (by omega) (by omega)];omega
  have c3:bb .i64 (64*(k:Int))=64*(k:Int):=cb (by omega) (by omega)
  have c4:bb .i64 (64*(k:Int)+(aV d:Nat))=64*(k:Int)+(aV d:Nat):=cb (by omega) (by omega)
  have c5:(k:Int)<(k:Int)+1:=by omega
  simp(disch:=omega) [hlen,c1,c3,q1,q3,q4]
  refine au (UH Uu) ?_
  rintro _ h2 m2 k2 ⟨rfl,rfl,rfl⟩
  simp[c4,aA]
  exact⟨k0.trans k1,64*k+aV d,by simp,Yg9 hk hd⟩
def Yb8(hx:In h N x z)(hP:jB h N)(hl:wl z<10000000000)(hd:(cZ z.natAbs).length<1000000000):Fn A.C 131 [x] h N (fun v _ _=>v=.bool (decide (600<(aj z.natAbs).length))):=by
 intro w
 obtain⟨n,u,rfl,hu⟩:=hx.cells
 have mR:=hu
 unfold V.one at mR
 have k0:=(ad.refl (h:=h) (n:=N)).new (.cells [.int .i64 n,u] 70 true)
 have g0:(h.set N (.cells [.int .i64 n,u] 70 true)).get N=some (.cells [.int .i64 n,u] 70 true):=by rw[T.ai,aJ rfl]
 rw[aQ,A.k131 (by simp)]
 simp[A.b131,aL,aM,mR]
 refine au (Yl1 (hx.ae k0) hl) ?_
 rintro _ h1 m1 k1 ⟨b,rfl,hb⟩
 have g1:=(k1.get N (by omega)).trans g0
 by_cases hbb:1800<b
 ·have Fv:(1800:Int)<(b:Int):=by omega
  simp[Fv,g1,aL,aM]
  refine au (OV ((hx.ae k0).ae k1) ((hP.ae k0).ae k1) (by omega)) ?_
  rintro _ h2 m2 k2 rfl
  have ht:=fun st=>Zjq (s:=aK z) (st:=st)
  rw[G3]at ht
  simp[ht,aA]
  exact⟨(k0.trans k1).trans k2,by omega⟩
 ·have Fv:¬(1800:Int)<(b:Int):=by omega
  have Sj:¬600<(aj z.natAbs).length:=fun hc=>hbb (Zt3 hc hb)
  simp[Fv,Sj,aA]
  exact k0.trans k1
def Mz(h:z.natAbs<2^k):wl z<=k:=by
 have:=CG (ic h (BK (by decide) k))
 unfold wl at this ⊢
 rwa [ed]at this
def XH{q:Rat}(hx:Fc h N x q)(hP:jB h N)(hq:Qb k q)(hk:k<=400000000):Fn A.C 73 [x] h N (fun v _ _=>v=.bool (vZ q)):=by
 intro w
 obtain⟨n1,u1,n2,u2,rfl,s1,s2,o1,o2⟩:=hx.parts
 unfold V.one at o1 o2
 have k0:=(ad.refl (h:=h) (n:=N)).new (.cells [.int .i64 n1,u1,.int .i64 n2,u2] 72 true)
 have g0:(h.set N (.cells [.int .i64 n1,u1,.int .i64 n2,u2] 72 true)).get N=some (.cells [.int .i64 n1,u1,.int .i64 n2,u2] 72 true):=by rw[T.ai,aJ rfl]
 have l1:=Es hq.1
 have l2:=Es hq.2
 have z1:=Mz hq.1
 have z2:=Mz (z:=(q.den:Int)) (k:=k) (by rw[ed];exact hq.2)
 rw[aQ,A.k73 (by simp)]
 simp[A.b73,aL,aM,o1,o2]
 refine au (Yb8 (s1.ae k0) (hP.ae k0) (by omega) (by omega)) ?_
 rintro _ h1 m1 k1 rfl
 have g1:=(k1.get N (by omega)).trans g0
 unfold vZ
 by_cases c1:600<(aj q.num.natAbs).length
 ·simp[c1,aA]
  exact k0.trans k1
 ·simp[c1,g1,aL,aM]
  refine au (Yb8 ((s2.ae k0).ae k1) ((hP.ae k0).ae k1) (by omega) (by rw[ed];omega)) ?_
  rintro _ h2 m2 k2 rfl
  simp[aA]
  exact(k0.trans k1).trans k2
variable {N:Nat} {h:T O} {l:List Rat} {v:V}
def A.w51:=A.q Tryz.f51
def A.sw:=A.ql A.w51 0 []
def A.b51:=(fun x0=>A.qb A.w51 [x0]) A.sw
def A.k51:=@A.kk 51 23 [.tmp 2] A.b51 (by kernel_rfl) rfl
def A.w74:=A.q Tryz.f74
def A.tD:=A.ql A.w74 0 []
def A.b74:=(fun x0=>A.qb A.w74 [x0]) A.tD
def A.k74:=@A.kk 74 23 [.tmp 2] A.b74 (by kernel_rfl) rfl
def dX(h:T O)(N:Nat)(c:List V)(q:Rat):Prop:=∃n1 u1 n2 u2,c=[.int .i64 n1,u1,.int .i64 n2,u2]/\In h N (.agg [.int .i64 n1,u1]) q.num/\In h N (.agg [.int .i64 n2,u2]) (q.den:Int)
def dX.ae{h':T O}{N':Nat}{c:List V}{q:Rat}(s:dX h N c q)(k:ad h N h' N'):dX h' N' c q:=by
 obtain⟨n1,u1,n2,u2,rfl,s1,s2⟩:=s
 exact⟨n1,u1,n2,u2,rfl,s1.ae k,s2.ae k⟩
def dX.fc{c:List V}{q:Rat}(s:dX h N c q):Fc h N (.agg c) q:=by
 obtain⟨n1,u1,n2,u2,rfl,s1,s2⟩:=s
 exact⟨n1,u1,n2,u2,rfl,s1,s2⟩
def Fc.c{x:V}{q:Rat}(s:Fc h N x q):∃c,x=.agg c/\dX h N c q:=by
 obtain⟨n1,u1,n2,u2,rfl,s1,s2⟩:=s
 exact⟨_,rfl,n1,u1,n2,u2,rfl,s1,s2⟩
def q_(c:List V):Prop:=∀x∈c,∀m,x≠.int .u64 m
def Zv8{n:Int}{u:V}{z:Int}(s:In h N (.agg [.int .i64 n,u]) z):∀m,u≠.int .u64 m:=by
 rcases s with⟨h1,_⟩|⟨i,o,l,c,h1,_⟩
 ·simp at h1;rw[h1.2];simp
 ·simp at h1;rw[h1.2];simp
def dX.CX{c:List V}{q:Rat}(s:dX h N c q):q_ c:=by
 obtain⟨n1,u1,n2,u2,rfl,s1,s2⟩:=s
 intro x hx m
 simp at hx
 rcases hx with rfl|rfl|rfl|rfl
 ·simp
 ·exact Zv8 s1 m
 ·simp
 ·exact Zv8 s2 m
def dX.len{c:List V}{q:Rat}(s:dX h N c q):c.length=4/\c.all V.one=true:=by
 obtain⟨n1,u1,n2,u2,rfl,s1,s2⟩:=s
 have o1:=cP s1
 have o2:=cP s2
 exact⟨rfl,by simp only[List.all_cons,List.all_nil,o1,o2,Bool.and_true];rfl⟩
def dX.aC{i:Nat}{c c0 c1:List V}{q:Rat}{e0 e1:TypeId}{w0 w1:Bool}(s:dX h N c q)(g:h.get i=some (.cells c0 e0 w0))(hn:q_ c0)(hc:c1.length=c0.length):dX (h.set i (.cells c1 e1 w1)) N c q:=by
 obtain⟨n1,u1,n2,u2,rfl,s1,s2⟩:=s
 exact⟨n1,u1,n2,u2,rfl,s1.aC g hn hc,s2.aC g hn hc⟩
def we(h:T O)(N:Nat)(v:V)(l:List Rat):Prop:=∃cs:List (List V),Sn 4 h N v cs/\cs.length=l.length/\∀(j:Nat) (q:Rat),l[j]?=some q->∃c,cs[j]?=some c/\dX h N c q
def we.ae{h':T O}{N':Nat}(s:we h N v l)(k:ad h N h' N'):we h' N' v l:=by
 obtain⟨cs,h1,h2,h3⟩:=s
 refine⟨cs,h1.ae k,h2,fun j q hq=>?_⟩
 obtain⟨c,g1,g2⟩:=h3 j q hq
 exact⟨c,g1,g2.ae k⟩
def we.len(s:we h N v l):qh v=some l.length:=by
 obtain⟨cs,h1,h2,_⟩:=s
 rw[h1.len,h2]
def we.at(s:we h N v l){j:Nat}{q:Rat}(hj:l[j]?=some q):∃i o x e rw c,y8 v=some (i,o)/\i<N/\h.get i=some (.cells x e rw)/\aM x (o+j*4) 4=some c/\dX h N c q:=by
 obtain⟨cs,h1,h2,h3⟩:=s
 obtain⟨c,h4,h5⟩:=h3 j q hj
 obtain⟨i,o,x,e,rw,q1,q2,q3,q4⟩:=h1.at h4
 exact⟨i,o,x,e,rw,c,q1,q2,q3,q4,h5⟩
def mq(h:T O)(N:Nat)(v:V)(l:List Rat):Prop:=we h N v l/\∀i∈eL v,∃z w,h.get i=some (.cells z 72 w)
def tx(l:List Rat):List V:=jV (l.map av)
def Ik(l:List Rat):(tx l).length=l.length:=by simp[tx,jV]
def C6{j:Nat}{q:Rat}(h:l[j]?=some q):(tx l)[j]?=some (.str (av q)):=by simp[tx,jV,h]
def zF:List V:=[.int .i64 0,.aa,.int .i64 0,.aa]
def F3{z:List V}{n:Nat}:df z (n+1)=z++df z n:=by
 unfold df
 rw[Nat.succ_mul,Nat.add_comm (n*z.length),List.range_add,List.map_append,List.map_map]
 congr 1
 ·apply nX
  intro j
  by_cases hj:j<z.length
  ·rw[ko,ID hj]
   simp[vw hj,hj]
  ·rw[jC (by simp;omega),jC (by omega)]
 ·apply List.map_congr_left
  intro i _
  simp[Nat.add_mod_left]
def MC{a b c x:List V}{n o:Nat}(ha:a.length=o)(hb:b.length=n)(hx:x.length=n):ag (a++(b++c)) o x=a++(x++c):=by
 unfold ag
 rw[<-ha,List.take_left,hx,<-List.drop_drop,List.drop_left,<-hb,List.drop_left,qs]
structure XN (h:T O) (N:Nat) (l:List Rat) (m:Nat) (r:T V) (st:St):Prop where
 w:aB N st.w=[]
 ae:ad h N st.h st.n
 ex:∃(k:Nat) (cs:List (List V)),k+m=l.length/\r.get 11=some (.int .i64 k)/\r.get 3=some (.slice N 0 l.length (some l.length) 4)/\N<st.n/\st.h.get N=some (.cells (cs.flatten++df zF m) 72 true)/\cs.length=k/\∀(j:Nat) (q:Rat),j<k->l[j]?=some q->∃c,cs[j]?=some c/\dX st.h st.n c q
def QE{cs:List (List V)}(hl:cs.length<=l.length)(hc:∀(j:Nat) (q:Rat),j<cs.length->l[j]?=some q->∃c,cs[j]?=some c/\dX h N c q):(∀c∈cs,c.length=4)/\q_ cs.flatten/\cs.flatten.all V.one=true:=by
 have key:∀c∈cs,∃q,dX h N c q:=fun c x_=>by
  obtain⟨j,hj⟩:=F9 x_
  have aO:=uZ hj
  obtain⟨q,hq⟩:=eA (l:=l) (k:=j) (by omega)
  obtain⟨c',h1,h2⟩:=hc j q aO hq
  rw[hj]at h1
  simp only[ak]at h1
  subst h1
  exact⟨q,h2⟩
 refine⟨fun c x_=>?_,fun x hx m=>?_,?_⟩
 ·obtain⟨q,hq⟩:=key c x_;exact hq.len.1
 ·obtain⟨c,x_,Fw⟩:=List.mem_flatten.1 hx
  obtain⟨q,hq⟩:=key c x_
  exact hq.CX x Fw m
 ·rw[sJ]
  intro x hx
  obtain⟨c,x_,Fw⟩:=List.mem_flatten.1 hx
  obtain⟨q,hq⟩:=key c x_
  exact sJ.1 hq.len.2 x Fw
def HT:∀{n:Nat},q_ (df zF n)
 |0=>by intro x hx;simp[df]at hx
 |n+1=>by
  intro x hx m
  rw[F3]at hx
  rcases kl.1 hx with hx|hx
  ·simp[zF]at hx
   rcases hx with rfl|rfl|rfl|rfl<;>simp
  ·exact HT x hx m
def q_.app{a b:List V}(ha:q_ a)(hb:q_ b):q_ (a++b):=fun x hx m=>by
 rcases kl.1 hx with hx|hx
 ·exact ha x hx m
 ·exact hb x hx m
def W8(n:Nat):(df zF n).length=n*4:=by
 induction n with
 |zero=>simp[df]
 |succ n ih=>rw[F3,iy,ih];simp[zF];omega
structure TaI (h:T O) (N:Nat) (l:List Rat) (m:Nat) (r:T V) (st:St):Prop where
 w:aB N st.w=[]
 ae:ad h N st.h st.n
 ex:∃(k:Nat),k+m=l.length/\r.get 11=some (.int .i64 k)/\r.get 3=some (.slice N 0 l.length (some l.length) 1)/\N<st.n/\st.h.get N=some (.cells (tx (l.take k)++List.replicate m (V.str [])) 22 true)
def Yet{k0:Nat}(hs:we h N v l)(hP:jB h N)(hl:l.length<1000000000)(hq:∀q∈l,Qb k0 q)(rb:k0<=400000000):Fn A.C 74 [v] h N (fun u h' n'=>Sl h' n' u (tx l)/\∀i∈eL u,∃z w,h'.get i=some (.cells z 22 w)):=by
 intro w
 have hlen:=hs.len
 have c1:(16:Int)*(l.length:Int)<=140737488355328:=by omega
 have c2:(l.length:Int)<4611686018427387904:=by omega
 have kB:ad h N (h.set N (.cells (df [.str []] l.length) 22 true)) (N+1):=ad.refl.new _
 rw[aQ,A.k74 (by simp)]
 simp[A.b74,hlen,c1,c2]
 refine cX [(4,5),(11,21)] (fun e r st=>e=.exit 0/\TaI h N l 0 r st) (TaI h N l) l.length ?_ ?_ ?_
 ·exact⟨by simp,kB,0,by omega,by simp,by simp,by show N<N+1;omega,by rw[T.ai,aJ rfl,Yhj];simp[tx,jV]⟩
 ·rintro m r ⟨H,n1,W⟩ hr hf ⟨hW,hK,k,hk,jW,h3,su,hM⟩
  simp only at hW hK hM su
  rw[cm]
  cases m with
  |zero=>
   obtain rfl:k=l.length:=by omega
   simp[A.tD,hr,hf,jW]
   exact⟨hW,hK,l.length,by omega,by simp[jW],by simp[h3],su,hM⟩
  |succ m=>
   have aO:k<l.length:=by omega
   have dB:(k:Int)<(l.length:Int):=by omega
   obtain⟨q,C4⟩:=eA aO
   have C5:=hq q (fW C4)
   obtain⟨i,o,x,e,rw,c,q1,q2,q3,q4,q5⟩:=(hs.ae hK).at C4
   obtain⟨rj,u1,mw,u2,rfl,s1,s2⟩:=q5
   have o1:=cP s1
   have o2:=cP s2
   unfold V.one at o1 o2
   have la:=Es C5.1
   have Rn:=Es C5.2
   have gJ:=hK.le
   have e4:ag [.int .i64 0,.aa,.int .i64 0,.aa] 0 [.int .i64 rj,u1,.int .i64 mw,u2]=[.int .i64 rj,u1,.int .i64 mw,u2]:=rfl
   have e5:aM [.int .i64 rj,u1,.int .i64 mw,u2] 0 4=some [.int .i64 rj,u1,.int .i64 mw,u2]:=rfl
   have kA:ad H n1 ((H.set n1 (.cells [.int .i64 0,.aa,.int .i64 0,.aa] 72 true)).set n1 (.cells [.int .i64 rj,u1,.int .i64 mw,u2] 72 true)) (n1+1):=(ad.refl.new _).set (aR _)
   simp[A.tD,hr,jW,dB,hlen,q1,q3,q4,aL,bS,o1,o2,e4,e5]
   refine au (Zz5 (q:=q) (Fc.ae ⟨rj,u1,mw,u2,rfl,s1,s2⟩ kA) ((hP.ae hK).ae kA) (by omega) (by omega)) ?_
   rintro _ H2 n2 k2 rfl
   have nk:=k2.le
   have sA:=(k2.get N (by omega)).trans ((kA.get N su).trans hM)
   have hb:k+1<=(tx (l.take k)++List.replicate (m+1) (V.str [])).length:=by
    rw[iy,Ik,List.length_replicate,jH];omega
   have iP:ag (tx (l.take k)++List.replicate (m+1) (V.str [])) k [.str (av q)]=tx (l.take (k+1))++List.replicate m (V.str []):=by
    have e1:(tx (l.take k)++List.replicate (m+1) (V.str []))=tx (l.take k)++([V.str []]++List.replicate m (V.str [])):=by rw[List.replicate_succ];rfl
    rw[e1,MC (n:=1) (by rw[Ik,jH];omega) rfl rfl,CP,C4]
    simp[tx,jV]
   generalize tx (l.take k)++List.replicate (m+1) (V.str [])=X at*
   obtain⟨Y,hY⟩:∃Y,tx (l.take (k+1))++List.replicate m (V.str [])=Y:=⟨_,rfl⟩
   rw[hY]at iP
   simp(disch:=first|(simp;done)|omega|(simp only[bn,bW,bf];omega)|rfl) [hr,hf,jW,h3,aO,dB,sA,bS,hb,iP]
   refine⟨m,by omega,⟨by simp[aB,hW];omega,((hK.trans kA).trans k2).set (aR N),k+1,by omega,by simp,by simp[h3],by show N<n2;omega,by show T.get _ N=_;rw[T.ai,aJ rfl,hY]⟩⟩
 ·rintro _ r ⟨H,n1,W⟩ hr ⟨rfl,hW,hK,k,hk,jW,h3,su,hM⟩
  simp only at hW hK hM su
  obtain rfl:k=l.length:=by omega
  rw[yN]at hM
  simp only[List.replicate_zero,yX]at hM
  simp[hr,aA,hW,hK]
  exact⟨Sl.row su hM (Ik l) (fun k hk=>by simp at hk;omega),fun i hi=>by simp[eL]at hi;subst hi;exact⟨_,.inr hM⟩⟩
def Tx(h:T O)(N:Nat)(v:V)(l:List Rat):Prop:=Sl h N v (tx l)
def Tx.ae{h h':T O}{N N':Nat}{v:V}{l:List Rat}(s:Tx h N v l)(k:ad h N h' N'):Tx h' N' v l:=Sl.ae s k
def Tx.len{h:T O}{N:Nat}{v:V}{l:List Rat}(s:Tx h N v l):qh v=some l.length:=by
 have:=Sl.len s
 rwa [Ik]at this
variable {N:Nat}
def MP(h:T O)(N:Nat)(u:V)(l:List Rat):Prop:=Tx h N u l/\∀i∈eL u,∃z w,h.get i=some (.cells z 22 w)
def OZ{N i:Nat}:∀{w:List Nat},i∈w->i<N->i∈aB N w
 |[],h,_=>by simp at h
 |j::w,h,hi=>by
  simp only[aB]
  rcases jy.1 h with rfl|h
  ·rw[aJ hi]
   unfold vD
   split
   ·rename_i hc;simpa using hc
   ·exact nT
  ·have:=OZ h hi
   split
   ·unfold vD
    split
    ·exact this
    ·exact nt _ this
   ·exact this
def QH{n1:Nat}{w w':List Nat}(h:aB n1 w'=aB n1 w)(hN:N<=n1)(hw:aB N w=[]):aB N w'=[]:=by
 apply List.eq_nil_iff_forall_not_mem.2
 intro i hi
 obtain⟨h1,h2⟩:=xm hi
 have h3:=OZ h1 (show i<n1 by omega)
 rw[h]at h3
 have h4:=OZ (xm h3).1 h2
 rw[hw]at h4
 simp at h4
def RQ{w:List Nat}(h:aB N w=[]):∀i∈w,N<=i:=fun i hi=>by
 apply wB
 intro hc
 have:=OZ hi hc
 rw[h]at this
 simp at this
def Yj5{n:Nat}{a b:List Nat}(ha:aB N a=[])(hb:aB N b=[]):aB N (aB n a++b)=[]:=Im fun i hi=>by
 rcases kl.1 hi with hi|hi
 ·exact RQ ha i (xm hi).1
 ·exact RQ hb i hi
def MtS(h:T O)(N:Nat)(v:V)(m:List (List aU)):Prop:=∃us:List V,Sl h N v us/\us.length=m.length/\∀(j:Nat) (l:List aU),m[j]?=some l->∃u,us[j]?=some u/\Sl h N u (jV l)
def MtS.at{h:T O}{N:Nat}{v:V}{m:List (List aU)}(s:MtS h N v m){j:Nat}{l:List aU}(hj:m[j]?=some l):∃i o c e rw u,y8 v=some (i,o)/\i<N/\h.get i=some (.cells c e rw)/\c[o+j]?=some u/\Sl h N u (jV l):=by
 obtain⟨us,h1,h2,h3⟩:=s
 obtain⟨u,g1,g2⟩:=h3 j l hj
 obtain⟨i,o,c,e,rw,q1,q2,q3,q4⟩:=h1.at g1
 exact⟨i,o,c,e,rw,u,q1,q2,q3,q4,g2⟩
def A.w9:=A.q Tryz.f9
def A.yA:=A.ql A.w9 0 []
def A.b9:=(fun x0=>A.qb A.w9 [x0]) A.yA
def A.k9:=@A.kk 9 19 [.tmp 2] A.b9 (by kernel_rfl) rfl
def Yg2{h:T O}{N:Nat}{v:V}{l:List aU}(hs:Sl h N v (jV l))(hl:l.length<100000)(ra:∀s∈l,s.length<9223372036854775808):Fn A.C 9 [v] h N (fun u _ _=>u=.int .i64 (cN (l.map fun s=>((aN s:Nat):Int)))):=by
 intro w
 have hlen:=hs.len
 rw[F4]at hlen
 rw[aQ,A.k9 (by simp)]
 simp(disch:=first|(simp;done)|omega|rfl) [-getElem?_pos,A.b9]
 refine cX [(2,18)] (fun e r st=>aB N st.w=[]/\ad h N st.h st.n/\((e=.exit 0/\cN (l.map fun s=>((aN s:Nat):Int))=0)\/(e=.ret/\r.get 2=some (.int .i64 (cN (l.map fun s=>((aN s:Nat):Int))))))) (fun m r st=>aB N st.w=[]/\ad h N st.h st.n/\∃k,k+m=l.length/\r.get 3=some (.int .i64 k)/\cN (l.map fun s=>((aN s:Nat):Int))=cN ((l.drop k).map fun s=>((aN s:Nat):Int))) l.length ?_ ?_ ?_
 ·exact⟨by simp,ad.refl,0,by omega,by simp,by simp⟩
 ·rintro m r ⟨H,n1,W⟩ hr hf ⟨hW,hK,k,hk,h7,hz⟩
  simp only at hW hK
  rw[cm]
  cases m with
  |zero=>
   obtain rfl:k=l.length:=by omega
   rw[vS,rV,cN]at hz
   simp(disch:=first|(simp;done)|omega|rfl) [-getElem?_pos,A.yA,hr,hf,h7,hlen,hz,hW,hK]
  |succ m=>
   have aO:k<l.length:=by omega
   obtain⟨s,hc⟩:=eA aO
   obtain⟨i,o,cc,e,rw,q1,q2,q3,q4⟩:=(hs.ae hK).at (HV hc)
   rw[qm hc,km,cN]at hz
   have ew:(k:Int)<(l.length:Int):=by omega
   simp(disch:=first|(simp;done)|omega|rfl) [-getElem?_pos,A.yA,hr,hf,h7,ew,aO,hlen,q1,q3,q4]
   refine au (Qz (ra s (fW hc))) ?_
   rintro _ h3 n3 k3 rfl
   have kk:=hK.trans k3
   by_cases h0:aN s=0
   ·rw[aJ (by omega)]at hz
    simp(disch:=first|(simp;done)|omega|rfl) [-getElem?_pos,hr,hf,h7,h0,hW,aW]
    exact⟨m,by omega,kk,k+1,by omega,by simp,by simpa using hz⟩
   ·rw[aq (by omega)]at hz
    have qk:¬((aN s:Nat):Int)=0:=by omega
    simp(disch:=first|(simp;done)|omega|rfl) [-getElem?_pos,hr,hf,h7,h0,qk,hW,aW,hz]
    exact kk
 ·rintro _ r ⟨H,n1,W⟩ hr ⟨hW,hK,⟨rfl,hz⟩|⟨rfl,h2⟩⟩
  ·simp only at hW hK
   simp(disch:=first|(simp;done)|omega|rfl) [-getElem?_pos,hr,hz,aA,hW,hK]
  ·simp only at hW hK
   simp(disch:=first|(simp;done)|omega|rfl) [-getElem?_pos,hr,h2,aA,hW,hK]
def vd(l:List Rat):Bool:=l.any vZ
end
end Go.Mx
