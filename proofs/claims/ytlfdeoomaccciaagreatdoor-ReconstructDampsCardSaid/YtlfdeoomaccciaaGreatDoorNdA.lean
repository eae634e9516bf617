/-num-/
import Derived.Test.YtlfdeoomaccciaaGreatDoorNcC
set_option linter.all false
namespace Go.Mx
noncomputable section
open Go Go.Proofs
variable {N:Nat} {a b z:Int} {h:T O} {x:V}
set_option maxHeartbeats 2000000
set_option maxRecDepth 1000000
def A.b119:=A.q Tryz.f119
def A.k119:=@A.kk 119 6 [.cell 2 (some 4)] A.b119 (by kernel_rfl) rfl
def A.b93:=A.q Tryz.f93
def A.k93:=@A.kk 93 6 [.cell 2 (some 4)] A.b93 (by kernel_rfl) rfl
def A.b118:=A.q Tryz.f118
def A.k118:=@A.kk 118 13 [.tmp 2] A.b118 (by kernel_rfl) rfl
def A.nz:bO:=sr [lN 24 2 2,lN 25 2 3,c2 26 179 24 25,ge 5 (.alloc [.int .i64 0,.aa] 78),gn (.store 2 (tq 5) (tq 26))]
 (.seq (.dj [lN 27 2 2,lN 28 2 5,c2 29 187 27 28,lN 30 2 3,lN 31 2 5,c2 32 187 30 31,ge 33 (.build [.int .i64 0,.aa,.int .i64 0,.aa] [(0,2,(tq 29)),(2,2,(tq 32))]),gn (.store 4 (tq 4) (tq 33))] [0,0,3,0,0,31,63,127])
 (.ret))
def A.iD:bO:=.seq (sr [fa 13 1 3,ld 14 13,ge 15 (.bin .eql (.bX .slice) true (tq 14) (.const .aa)),mv 16 15,gy 17 16 (.ja 0 (tq 3)),gy 18 16 (.load none (tq 17)),gy 19 16 (.bin .eql (.bX .int) true (tq 18) (kq 1)),pf 20 16 19]
 (cd 20
 (sr [lN 21 2 2,lN 22 2 3,ge 23 (.build [.int .i64 0,.aa,.int .i64 0,.aa] [(0,2,(tq 21)),(2,2,(tq 22))]),gn (.store 4 (tq 4) (tq 23))]
 (.ret))
 (.skip)))
 A.nz
def A.b121:bO:=sr [bx 2 78 0,bx 3 78 1,ge 4 (.alloc [.int .i64 0,.aa,.int .i64 0,.aa] 80)]
 (.seq (sr [lN 6 2 3,c1 7 170 6,bc 8 .lss 7 0]
 (cd 8
 (.dj [lN 9 2 2,c1 10 186 9,lN 11 2 3,c1 12 186 11,gn (.store 2 (tq 2) (tq 10)),gn (.store 2 (tq 3) (tq 12))] [0,1,0,7,15,31])
 (.skip)))
 A.iD)
def A.k121:=@A.kk 121 34 [.cell 4 (some 4)] A.b121 (by kernel_rfl) rfl
def Fc(h:T O)(N:Nat)(x:V)(q:Rat):Prop:=∃n1 u1 n2 u2,x=.agg [.int .i64 n1,u1,.int .i64 n2,u2]/\In h N (.agg [.int .i64 n1,u1]) q.num/\In h N (.agg [.int .i64 n2,u2]) (q.den:Nat)
def Fc.ae{h':T O}{N':Nat}{q:Rat}(s:Fc h N x q)(k:ab h N h' N'):Fc h' N' x q:=by
 obtain⟨n1,u1,n2,u2,rfl,s1,s2⟩:=s
 exact⟨n1,u1,n2,u2,rfl,s1.ae k,s2.ae k⟩
def dN{n:Int}{u:V}(s:In h N (.agg [.int .i64 n,u]) z):V.one u=true:=by
 obtain⟨n',u',e,h1⟩:=s.cells
 simp at e
 rw[e.2];exact h1
def Zi(hx:In h N x z):Fn A.C 119 [x] h N (fun v h' N'=>Fc h' N' v (z:Rat)):=by
 intro w
 rw[aN,A.k119 (by simp)]
 obtain⟨n,u,rfl,hu⟩:=hx.cells
 have mU:=hu
 unfold V.one at mU
 simp[A.b119,aO,aD,ad,mU]
 refine aB HD ?_
 rintro _ h1 n1 k1 rfl
 have xD:=k1.le
 have g0:=k1.get (N+1) (by omega)
 simp at g0
 simp[aO,aD,ad,bD,g0,mU,ct.cv,aA]
 have kk:=(((aL (aL ab.refl (.cells [.int .i64 n,u] 78 true)) (.cells [.int .i64 0,.aa,.int .i64 0,.aa] 80 true)).trans k1).set (h:=h) (n:=N) (i:=N+1) (o:=.cells [.int .i64 n,u,.int .i64 1,.aa] 80 true) (by omega))
 refine⟨?_,kk,n,u,1,.aa,rfl,?_,?_⟩
 ·split<;>simp[av]
 ·exact hx.ae kk
 ·exact In.small (by decide) (by decide)
def Yuj(h1: -9223372036854775808<=z)(h2:z<9223372036854775808){h:T O}{N:Nat}:Fn A.C 93 [.int .i64 z] h N (fun v h' N'=>Fc h' N' v (z:Rat)):=by
 intro w
 rw[aN,A.k93 (by simp)]
 simp[A.b93]
 refine aB HD ?_
 rintro _ h3 n3 k3 rfl
 simp[]
 refine aB (Zi (In.small h1 h2)) ?_
 rintro _ h4 n4 k4 ⟨n1,u1,n2,u2,rfl,s1,s2⟩
 have xD:=k3.le
 have tY:=k4.le
 have g0:=(k4.get N (by omega)).trans (k3.get N (by omega))
 simp at g0
 have o1:=dN s1
 have o2:=dN s2
 unfold V.one at o1 o2
 simp[aO,aD,ad,bD,g0,o1,o2,ct.cv,aA]
 have kk:=(((aL (ab.refl (h:=h) (n:=N)) (.cells [.int .i64 0,.aa,.int .i64 0,.aa] 80 true)).trans k3).trans k4).set (h:=h) (n:=N) (i:=N) (o:=.cells [.int .i64 n1,u1,.int .i64 n2,u2] 80 true) (by omega)
 have g1:=(k4.get N (by omega)).trans (k3.get N (by omega))
 rw[T.ag,ay rfl]at g1
 have hn:∀x∈[V.int .i64 0,V.aa,V.int .i64 0,V.aa],∀m,x≠.int .u64 m:=by
  intro x hx m hc
  simp at hx
  rcases hx with rfl|rfl|rfl|rfl<;>cases hc
 exact⟨kk,n1,u1,n2,u2,rfl,s1.aI g1 hn rfl,s2.aI g1 hn rfl⟩
def oT:∀x∈[V.int .i64 0,V.aa,V.int .i64 0,V.aa],∀m,x≠.int .u64 m:=by
 intro x hx m hc
 simp at hx
 rcases hx with rfl|rfl|rfl|rfl<;>cases hc
structure RI (H:T O) (N:Nat) (q:Rat) (st:St):Prop where
 w:av N st.w=[]
 old:∀i,i<N->st.h.get i=H.get i
 le:N+3<=st.n
 ex:∃n1 u1 n2 u2,st.h.get (N+2)=some (.cells [.int .i64 n1,u1,.int .i64 n2,u2] 80 true)/\Fc st.h st.n (.agg [.int .i64 n1,u1,.int .i64 n2,u2]) q
def Ywc{H:T O}{n:Nat}{W:List Nat}{r:T V}{n1 n2:Int}{u1 u2:V}(hn:N+3<=n)(hW:av N W=[])(g1:H.get N=some (.cells [.int .i64 n1,u1] 78 true))(g2:H.get (N+1)=some (.cells [.int .i64 n2,u2] 78 true))(g3:H.get (N+2)=some (.cells [.int .i64 0,.aa,.int .i64 0,.aa] 80 true))
  (hx:In H n (.agg [.int .i64 n1,u1]) a) (hy:In H n (.agg [.int .i64 n2,u2]) b) (hb:0<b) (la:wl a<10000000000) (lb:wl b<10000000000) (a2:r.get 2=some (.ptr N 0)) (a3:r.get 3=some (.ptr (N+1) 0)) (a4:r.get 4=some (.ptr (N+2) 0)):
  Code A.C none A.nz ⟨r,34,[]⟩ ⟨H,n,W⟩ (fun e fr st=>e=.ret/\∃r',fr=⟨r',34,[]⟩/\r'.get 4=some (.ptr (N+2) 0)/\RI H N (Rat.divInt a b) st):=by
 rw[bk]
 have o1:=dN hx
 have o2:=dN hy
 unfold V.one at o1 o2
 simp[A.nz,a2,a3,a4,g1,g2,aO,aD,ad]
 refine aB (Yk2 hx hy la lb) ?_
 rintro _ h1 m1 k1 hg
 obtain⟨ng,ug,rfl,hug⟩:=hg.cells
 have Ia:=hug
 unfold V.one at Ia
 have xD:=k1.le
 have Cc:=(k1.get N (by omega)).trans g1
 have pX:=(k1.get (N+1) (by omega)).trans g2
 have DP:=(k1.get (N+2) (by omega)).trans g3
 have d1:¬N=m1:=by omega
 have d2:¬N+1=m1:=by omega
 have d3:¬N+2=m1:=by omega
 have e1:N<m1+1:=by omega
 have e2:N+1<m1+1:=by omega
 have e3:N+2<m1+1:=by omega
 have nX:0<Int.gcd a b:=Int.gcd_pos_of_ne_zero_right a (by omega)
 obtain⟨G,hG⟩:∃G,Int.gcd a b=G:=⟨_,rfl⟩
 rw[hG]at nX hg
 have hGb:(G:Int)<=b:=by
  rw[<-hG]
  exact Int.le_of_dvd hb (Int.gcd_dvd_right ..)
 have lg:wl (G:Int)<10000000000:=qx (HL (by omega)) lb
 have kS:ab h1 m1 ((h1.set m1 (.cells [.int .i64 0,.aa] 78 true)).set m1 (.cells [.int .i64 ng,ug] 78 true)) (m1+1):=(aL ab.refl _).set (aQ _)
 simp[a2,a3,a4,Cc,pX,d1,d2,d3,aO,aD,ad,bD,Ia,o1,o2,e1,e2]
 refine aB (Ykm ((hx.ae k1).ae kS) (hg.ae kS) (by omega) la lg) ?_
 rintro _ h2 m2 k2 pY
 obtain⟨n3,u3,rfl,Ka⟩:=pY.cells
 have o3:=Ka
 unfold V.one at o3
 have kT:=(k1.trans kS).trans k2
 have il:=kT.le
 have f1:=(kT.get N (by omega)).trans g1
 have f2:=(kT.get (N+1) (by omega)).trans g2
 have f3:=(kT.get (N+2) (by omega)).trans g3
 have f5:=k2.get m1 (by omega)
 rw[T.ag,ay rfl]at f5
 have iN:=k2.le
 have e4:N+1<m2:=by omega
 have e5:m1<m2:=by omega
 have e6:N+2<m2:=by omega
 simp[a2,a3,a4,f1,f2,f5,aO,aD,ad,bD,Ia,o1,o2,o3,e4,e5]
 refine aB (Ykm ((hy.ae kT)) ((hg.ae kS).ae k2) (by omega) lb lg) ?_
 rintro _ h3 m3 k3 kp
 obtain⟨n4,u4,rfl,Nu⟩:=kp.cells
 have o4:=Nu
 unfold V.one at o4
 have kU:=kT.trans k3
 have tY:=kU.le
 have f6:=(kU.get (N+2) (by omega)).trans g3
 have e7:N+2<m3:=by omega
 simp[a4,f6,aO,aD,ad,bD,o3,o4,e7,ct.cv]
 have FV:(Rat.divInt a b).num=a/(G:Int):=by
  rw[Rat.num_divInt,Int.sign_eq_one_of_pos hb,Int.one_mul,Int.gcd_comm,hG]
 have Zj:((Rat.divInt a b).den:Int)=b/(G:Int):=by
  rw[Rat.den_divInt,ak (by omega),Int.gcd_comm,hG,Int.natCast_ediv,Int.natAbs_of_nonneg (by omega)]
 have mH:¬N+2<N:=by omega
 have n3':¬m1<N:=by omega
 refine⟨by simp[av,hW,mH,n3'],fun i hi=>?_,by show N+3<=m3;omega,n3,u3,n4,u4,by show T.get (T.set _ _ _) _=_;rw[T.ag,ay rfl],n3,u3,n4,u4,rfl,?_,?_⟩
 ·show T.get (T.set _ _ _) _=_
  rw[T.ag,ak (by omega),kU.get i (by omega)]
 ·rw[FV];exact(pY.ae k3).aI f6 oT rfl
 ·rw[Zj];exact kp.aI f6 oT rfl
def Ywb{H:T O}{n:Nat}{W:List Nat}{r:T V}{n1 n2:Int}{u1 u2:V}(hn:N+3<=n)(hW:av N W=[])(g1:H.get N=some (.cells [.int .i64 n1,u1] 78 true))(g2:H.get (N+1)=some (.cells [.int .i64 n2,u2] 78 true))(g3:H.get (N+2)=some (.cells [.int .i64 0,.aa,.int .i64 0,.aa] 80 true))
  (hx:In H n (.agg [.int .i64 n1,u1]) a) (hy:In H n (.agg [.int .i64 n2,u2]) b) (hb:0<b) (la:wl a<10000000000) (lb:wl b<10000000000) (a2:r.get 2=some (.ptr N 0)) (a3:r.get 3=some (.ptr (N+1) 0)) (a4:r.get 4=some (.ptr (N+2) 0)):
  Code A.C none A.iD ⟨r,34,[]⟩ ⟨H,n,W⟩ (fun e fr st=>e=.ret/\∃r',fr=⟨r',34,[]⟩/\r'.get 4=some (.ptr (N+2) 0)/\RI H N (Rat.divInt a b) st):=by
 rw[bk]
 have o1:=dN hx
 have o2:=dN hy
 unfold V.one at o1 o2
 have fin:∀r':T V,r'.get 2=some (.ptr N 0)->r'.get 3=some (.ptr (N+1) 0)->r'.get 4=some (.ptr (N+2) 0)->bA A.C [] (eJ (A.C.code none A.nz ⟨r',34,[]⟩ ⟨H,n,W⟩)) (WZ (fun e fr st=>e=.ret/\∃r',fr=⟨r',34,[]⟩/\r'.get 4=some (.ptr (N+2) 0)/\RI H N (Rat.divInt a b) st)):=fun r' b2 b3 b4=>bk.1 (Ywc hn hW g1 g2 g3 hx hy hb la lb b2 b3 b4)
 have xG:=hy
 rcases xG with⟨e0,_,_⟩|⟨i,o,l,c,e0,_,_⟩
 ·simp only[V.agg.injEq,iY,V.int.injEq,true_and,and_true]at e0
  obtain⟨rfl,rfl⟩:=e0
  by_cases c1:n2=1
  ·subst c1
   simp[A.iD,a2,a3,a4,g1,g2,g3,aO,aD,ad,aE,bD,o1]
   have mH:¬N+2<N:=by omega
   refine⟨by simp[av,hW,mH],fun i hi=>?_,hn,n1,u1,1,.aa,by show T.get (T.set _ _ _) _=_;rw[T.ag,ay rfl],n1,u1,1,.aa,rfl,?_,?_⟩
   ·show T.get (T.set _ _ _) _=_
    rw[T.ag,ak (by omega)]
   ·rw[show (Rat.divInt a 1).num=a by rw[Rat.num_divInt];simp];exact hx.aI g3 oT rfl
   ·rw[show ((Rat.divInt a 1).den:Int)=1 by rw[Rat.den_divInt];simp];exact In.small (by decide) (by decide)
  ·simp[A.iD,a2,a3,a4,g1,g2,g3,aO,aD,ad,aE,bD,o1,c1]
   exact fin _ (by simp[a2]) (by simp[a3]) (by simp[a4])
 ·simp only[V.agg.injEq,iY,V.int.injEq,true_and,and_true]at e0
  obtain⟨rfl,rfl⟩:=e0
  simp[A.iD,a2,a3,a4,g1,g2,g3,aO,aD,ad,aE,bD,o1]
  exact fin _ (by simp[a2]) (by simp[a3]) (by simp[a4])
def Zk{y:V}(hx:In h N x a)(hy:In h N y b)(hb:b≠0)(la:wl a<10000000000)(lb:wl b<10000000000):Fn A.C 121 [x,y] h N (fun v h' n'=>Fc h' n' v (Rat.divInt a b)):=by
 intro w
 rw[aN,A.k121 (by simp)]
 obtain⟨n1,u1,rfl,yo⟩:=hx.cells
 obtain⟨n2,u2,rfl,fm⟩:=hy.cells
 have o1:=yo
 have o2:=fm
 unfold V.one at o1 o2
 have kB:ab h N (((h.set N (.cells [.int .i64 n1,u1] 78 true)).set (N+1) (.cells [.int .i64 n2,u2] 78 true)).set (N+2) (.cells [.int .i64 0,.aa,.int .i64 0,.aa] 80 true)) (N+3):=aL (aL (aL ab.refl _) _) _
 have done:∀(r:T V) (h1:T O) (m:Nat) (W1:List Nat) (a' b' xL mH:Int) (Zl Zm:V),N+3<=m->av N W1=[]->(∀i,i<N->h1.get i=h.get i)->h1.get N=some (.cells [.int .i64 xL,Zl] 78 true)->h1.get (N+1)=some (.cells [.int .i64 mH,Zm] 78 true)->h1.get (N+2)=some (.cells [.int .i64 0,.aa,.int .i64 0,.aa] 80 true)->
   In h1 m (.agg [.int .i64 xL,Zl]) a'->In h1 m (.agg [.int .i64 mH,Zm]) b'->0<b'->wl a'<10000000000->wl b'<10000000000->Rat.divInt a' b'=Rat.divInt a b->r.get 2=some (.ptr N 0)->r.get 3=some (.ptr (N+1) 0)->r.get 4=some (.ptr (N+2) 0)->
   bA A.C [.fin [.cell 4 (some 4)] ⟨h,N,w⟩] (eJ (A.C.code none A.iD ⟨r,34,[]⟩ ⟨h1,m,W1⟩)) (CR (aA (fun v h' n'=>Fc h' n' v (Rat.divInt a b)) h N w)):=by
  intro r h1 m W1 a' b' xL mH Zl Zm hm Ew hO g1 g2 g3 i1 i2 ta Ff Rr hq b2 b3 b4
  refine mi (Ywb hm Ew g1 g2 g3 i1 i2 ta Ff Rr b2 b3 b4) ?_
  rintro e fr ⟨H6,n6,W6⟩ ⟨rfl,r6,rfl,c4,q1,q2,q3,m1,v1,m2,v2,q4,q5⟩
  simp only at q1 q2 q3 q4 q5
  rw[hq]at q5
  simp[c4,q4,aO,aD,aA,q1]
  exact⟨⟨by omega,fun i hi=>(q2 i hi).trans (hO i hi)⟩,q5⟩
 simp[A.b121,aO,aD,ad,o1,o2]
 generalize jW:((h.set N (.cells [.int .i64 n1,u1] 78 true)).set (N+1) (.cells [.int .i64 n2,u2] 78 true)).set (N+2) (.cells [.int .i64 0,.aa,.int .i64 0,.aa] 80 true)=hB at*
 have b1:hB.get N=some (.cells [.int .i64 n1,u1] 78 true):=by rw[<-jW];simp
 have b2:hB.get (N+1)=some (.cells [.int .i64 n2,u2] 78 true):=by rw[<-jW];simp
 have b3:hB.get (N+2)=some (.cells [.int .i64 0,.aa,.int .i64 0,.aa] 80 true):=by rw[<-jW];simp
 refine aB (HE (hy.ae kB)) ?_
 rintro _ h1 m1 k1 rfl
 have kk:=kB.trans k1
 have xD:=kk.le
 have fk:=k1.le
 have f1:=(k1.get N (by omega)).trans b1
 have f2:=(k1.get (N+1) (by omega)).trans b2
 have f3:=(k1.get (N+2) (by omega)).trans b3
 by_cases hbn:b<0
 ·have s1:dX b= -1:=by unfold dX;rw[ay hbn]
  have l1:N<m1:=by omega
  simp[s1,f1,f2,l1,aO,aD,ad]
  refine aB (JZ (hx.ae kk) (by omega)) ?_
  rintro _ h2 m2 k2 q1
  obtain⟨n3,u3,rfl,Ka⟩:=q1.cells
  have o3:=Ka
  unfold V.one at o3
  have il:=k2.le
  have f4:=(k2.get N (by omega)).trans f1
  have f5:=(k2.get (N+1) (by omega)).trans f2
  have f6:=(k2.get (N+2) (by omega)).trans f3
  have l2:N+1<m2:=by omega
  simp[f4,f5,l2,aO,aD,ad]
  refine aB (JZ ((hy.ae kk).ae k2) (by omega)) ?_
  rintro _ h3 m3 k3 q2
  obtain⟨n4,u4,rfl,Nu⟩:=q2.cells
  have o4:=Nu
  unfold V.one at o4
  have iN:=k3.le
  have f7:=(k3.get N (by omega)).trans f4
  have f8:=(k3.get (N+1) (by omega)).trans f5
  have f9:=(k3.get (N+2) (by omega)).trans f6
  have l3:N+1<m3:=by omega
  have l4:N<m3:=by omega
  simp[f7,f8,l3,l4,aO,aD,ad,bD,o3,o4,ct.cv]
  have i1:=(q1.ae k3).aI (c1:=[.int .i64 n3,u3]) (e1:=78) (w1:=true) f7 hx.nu rfl
  have i2:=q2.aI (c1:=[.int .i64 n3,u3]) (e1:=78) (w1:=true) f7 hx.nu rfl
  have f8':((h3.set N (.cells [.int .i64 n3,u3] 78 true)):T O).get (N+1)=some (.cells [.int .i64 n2,u2] 78 true):=by rw[T.ag,ak (by omega)];exact f8
  have j1:=i1.aI (c1:=[.int .i64 n4,u4]) (e1:=78) (w1:=true) f8' hy.nu rfl
  have j2:=i2.aI (c1:=[.int .i64 n4,u4]) (e1:=78) (w1:=true) f8' hy.nu rfl
  have l5:¬N+1<N:=by omega
  exact done _ _ _ _ (-a) (-b) n3 n4 u3 u4 (by omega) (by simp[av,l5]) (fun i hi=>by rw[T.ag,ak (by omega),T.ag,ak (by omega),k3.get i (by omega),k2.get i (by omega),kk.get i hi]) (by rw[T.ag,ak (by omega),T.ag,ay rfl]) (by rw[T.ag,ay rfl]) (by rw[T.ag,ak (by omega),T.ag,ak (by omega)];exact f9) j1 j2 (by omega) (by rw[Nz];exact la) (by rw[Nz];exact lb) (Rat.neg_divInt_neg a b) (by simp) (by simp) (by simp)
 ·have s1:dX b=1:=by unfold dX;rw[ak hbn,ak hb]
  simp[s1]
  exact done _ _ _ _ a b n1 n2 u1 u2 (by omega) (by simp[av]) (fun i hi=>kk.get i hi) f1 f2 f3 (hx.ae kk) (hy.ae kk) (by omega) la lb rfl (by simp) (by simp) (by simp)
set_option maxHeartbeats 2000000
def A.b80:=A.q Tryz.f80
def A.k80:=@A.kk 80 16 [.cell 4 (some 4)] A.b80 (by kernel_rfl) rfl
def RJ{x y:V}{p q:Rat}{h:T O}{N:Nat}(hx:Fc h N x p)(hy:Fc h N y q)(l1:wl p.num<1000000000)(l2:wl (p.den:Nat)<1000000000)(l3:wl q.num<1000000000)(l4:wl (q.den:Nat)<1000000000):Fn A.C 80 [x,y] h N (fun v h' n'=>Fc h' n' v (p*q)):=by
 intro w
 rw[aN,A.k80 (by simp)]
 obtain⟨n1,u1,n2,u2,rfl,s1,s2⟩:=hx
 obtain⟨n3,u3,n4,u4,rfl,s3,s4⟩:=hy
 have o1:=dN s1
 have o2:=dN s2
 have o3:=dN s3
 have o4:=dN s4
 unfold V.one at o1 o2 o3 o4
 have kB:ab h N (((h.set N (.cells [.int .i64 n1,u1,.int .i64 n2,u2] 80 true)).set (N+1) (.cells [.int .i64 n3,u3,.int .i64 n4,u4] 80 true)).set (N+2) (.cells [.int .i64 0,.aa,.int .i64 0,.aa] 80 true)) (N+3):=aL (aL (aL ab.refl _) _) _
 simp[A.b80,aO,aD,ad,o1,o2,o3,o4]
 generalize jW:((h.set N (.cells [.int .i64 n1,u1,.int .i64 n2,u2] 80 true)).set (N+1) (.cells [.int .i64 n3,u3,.int .i64 n4,u4] 80 true)).set (N+2) (.cells [.int .i64 0,.aa,.int .i64 0,.aa] 80 true)=hB at*
 have b1:hB.get N=some (.cells [.int .i64 n1,u1,.int .i64 n2,u2] 80 true):=by rw[<-jW];simp
 have b2:hB.get (N+1)=some (.cells [.int .i64 n3,u3,.int .i64 n4,u4] 80 true):=by rw[<-jW];simp
 have b3:hB.get (N+2)=some (.cells [.int .i64 0,.aa,.int .i64 0,.aa] 80 true):=by rw[<-jW];simp
 refine aB (Dm (s1.ae kB) (s3.ae kB) (by omega) (by omega)) ?_
 rintro v5 h1 m1 k1 q1
 have fk:=k1.le
 have f1:=(k1.get N (by omega)).trans b1
 have f2:=(k1.get (N+1) (by omega)).trans b2
 have f3:=(k1.get (N+2) (by omega)).trans b3
 have e1:N<m1:=by omega
 have e2:N+1<m1:=by omega
 simp[f1,f2,e1,e2,aO,aD,ad]
 refine aB (Dm ((s2.ae kB).ae k1) ((s4.ae kB).ae k1) (by omega) (by omega)) ?_
 rintro v6 h2 m2 k2 q2
 have il:=k2.le
 have f4:=(k2.get (N+2) (by omega)).trans f3
 simp[]
 have hd:((p.den:Nat):Int)*((q.den:Nat):Int)≠0:=by
  have:=p.den_nz
  have:=q.den_nz
  exact Jg (by omega) (by omega)
 refine aB (Zk (q1.ae k2) q2 hd ?_ ?_) ?_
 ·have:=Ib p.num q.num
  omega
 ·have:=Ib ((p.den:Nat):Int) ((q.den:Nat):Int)
  omega
 ·rintro v7 h3 m3 k3 hv
  rw[<-Rat.divInt_mul_divInt,BZ,BZ]at hv
  obtain⟨n5,u5,n6,u6,rfl,t1,t2⟩:=hv
  have o5:=dN t1
  have o6:=dN t2
  unfold V.one at o5 o6
  have iN:=k3.le
  have f5:=(k3.get (N+2) (by omega)).trans f4
  have e3:N+2<m3:=by omega
  simp[f5,e3,aO,aD,ad,bD,o5,o6,ct.cv,aA]
  have kk:=((kB.trans k1).trans k2).trans k3
  exact⟨kk.set (by omega),n5,u5,n6,u6,rfl,t1.aI (i:=N+2) f5 oT rfl,t2.aI (i:=N+2) f5 oT rfl⟩
def Zn{x:V}{q:Rat}{h:T O}{N:Nat}(hx:Fc h N x q):Fn A.C 118 [x] h N (fun v _ _=>v=.bool (decide (q.den=1))):=by
 intro w
 rw[aN,A.k118 (by simp)]
 obtain⟨n1,u1,n2,u2,rfl,s1,s2⟩:=hx
 have o1:=dN s1
 have o2:=dN s2
 unfold V.one at o1 o2
 rcases s2 with⟨e0,_,_⟩|⟨i,o,l,c,e0,_,hz⟩
 ·simp only[V.agg.injEq,iY,V.int.injEq,true_and,and_true]at e0
  obtain⟨rfl,rfl⟩:=e0
  by_cases c1:q.den=1
  ·have c2:((q.den:Nat):Int)=1:=by omega
   simp[A.b118,aO,aD,ad,o1,aE,c1,c2,aA]
   exact aL ab.refl _
  ·have c2:¬((q.den:Nat):Int)=1:=by omega
   simp[A.b118,aO,aD,ad,o1,aE,c1,c2,aA]
   exact aL ab.refl _
 ·simp only[V.agg.injEq,iY,V.int.injEq,true_and,and_true]at e0
  obtain⟨rfl,rfl⟩:=e0
  have c1:¬q.den=1:=by omega
  simp[A.b118,aO,aD,ad,o1,aE,c1,aA]
  exact aL ab.refl _
set_option maxHeartbeats 2000000
def A.b82:=A.q Tryz.f82
def A.k82:=@A.kk 82 16 [.tmp 2] A.b82 (by kernel_rfl) rfl
def Yl5{x:V}{q:Rat}{h:T O}{N:Nat}(hx:Fc h N x q)(hP:l_ h N)(l1:(de q.num.natAbs).length<1000000000)(l2:(de q.den).length<1000000000):Fn A.C 82 [x] h N (fun v _ _=>v=.str (aR q)):=by
 intro w
 rw[aN,A.k82 (by simp)]
 have mG:=hx
 obtain⟨n1,u1,n2,u2,rfl,s1,s2⟩:=hx
 have o1:=dN s1
 have o2:=dN s2
 unfold V.one at o1 o2
 have kB:=aL (ab.refl (h:=h) (n:=N)) (.cells [.int .i64 n1,u1,.int .i64 n2,u2] 80 true)
 simp[A.b82,aO,aD,ad,o1,o2]
 generalize jW:h.set N (.cells [.int .i64 n1,u1,.int .i64 n2,u2] 80 true)=hB at*
 have b1:hB.get N=some (.cells [.int .i64 n1,u1,.int .i64 n2,u2] 80 true):=by rw[<-jW];simp
 refine aB (Zn (mG.ae kB)) ?_
 rintro _ h1 m1 k1 rfl
 have fk:=k1.le
 have f1:=(k1.get N (by omega)).trans b1
 have kk:=kB.trans k1
 by_cases c1:q.den=1
 ·simp[c1,f1,aO,aD]
  refine aB (RH (s1.ae kk) (hP.ae kk) (by omega)) ?_
  rintro _ h2 m2 k2 rfl
  simp[aA,aR,c1]
  exact kk.trans k2
 ·have l0:N<m1:=by omega
  simp[c1,f1,l0,aO,aD]
  refine aB (RH (s1.ae kk) (hP.ae kk) (by omega)) ?_
  rintro _ h2 m2 k2 rfl
  have il:=k2.le
  have NA:=kk.trans k2
  have f2:=(k2.get N (by omega)).trans f1
  have l3:N<m2:=by omega
  have df:IntKind.max .i64=9223372036854775807:=rfl
  have hS1:(aK q.num).length<2000000000:=by
   have h1:(ar q.num.natAbs).length<=(de q.num.natAbs).length+1:=by unfold ar;split<;>simp
   unfold aK
   split<;>simp<;>omega
  have hS2:(ar q.den).length<2000000000:=by
   have h1:(ar q.den).length<=(de q.den).length+1:=by unfold ar;split<;>simp
   omega
  have ki:aR q=aK q.num++47::ar q.den:=by unfold aR;rw[ak c1]
  have Zo:aK ((q.den:Nat):Int)=ar q.den:=by unfold aK;rw[ak (by omega)];rfl
  rw[ki]
  generalize aK q.num=S1 at*
  have g1:¬(9223372036854775807:Int)<(S1.length:Int)+1:=by omega
  simp[f2,l3,g_,df,g1,aO,aD]
  refine aB (RH (s2.ae NA) (hP.ae NA) (by rw[dC];omega)) ?_
  rintro _ h3 m3 k3 rfl
  rw[Zo]
  generalize ar q.den=S2 at*
  have g2:¬(9223372036854775807:Int)<(S1.length:Int)+1+(S2.length:Int):=by omega
  simp[g_,df,g2,ct.cv,aA]
  exact NA.trans k3
set_option maxHeartbeats 4000000
def A.wh:bO:=.seq (.dj [fa 17 0 2,lN 18 2 17,fa 19 2 3,lN 20 2 19,c2 21 122 18 20,fa 22 0 3,lN 23 2 22,fa 24 2 2,lN 25 2 24,c2 26 122 23 25,c2 27 120 21 26,fa 28 2 2,lN 29 2 28,fa 30 2 3,lN 31 2 30,c2 32 122 29 31,c2 33 121 27 32,gn (.store 4 (tq 4) (tq 33))] [0,1,0,4,15,0,32,0,128,511,1023,0,2048,0,8192,32767,65535,131071])
 (.ret)
def A.b44:bO:=sr [bx 2 80 0,bx 3 80 1,ge 4 (.alloc [.int .i64 0,.aa,.int .i64 0,.aa] 80)]
 (.seq (sr [lN 5 4 2,c1 6 118 5,mv 7 6,gy 8 7 (.load (some 4) (tq 3)),gy 9 7 (.call (fq 118) [tq 8]),pf 10 7 9]
 (cd 10
 (sr [fa 11 0 2,lN 12 2 11,fa 13 0 3,lN 14 2 13,c2 15 120 12 14,c1 16 119 15,gn (.store 4 (tq 4) (tq 16))]
 (.ret))
 (.skip)))
 A.wh)
def A.k44:=@A.kk 44 34 [.cell 4 (some 4)] A.b44 (by kernel_rfl) rfl
def Zp{q:Rat}(h:q.den=1):q=(q.num:Rat):=by
 apply Rat.ext
 ·simp
 ·simp[h]
def Yu0{H:T O}{N n:Nat}{W:List Nat}{r:T V}{p q:Rat}{n1 n2 n3 n4:Int}{u1 u2 u3 u4:V}(hn:N+3<=n)(hW:av N W=[])(b1:H.get N=some (.cells [.int .i64 n1,u1,.int .i64 n2,u2] 80 true))(b2:H.get (N+1)=some (.cells [.int .i64 n3,u3,.int .i64 n4,u4] 80 true))(b3:H.get (N+2)=some (.cells [.int .i64 0,.aa,.int .i64 0,.aa] 80 true))
  (s1:In H n (.agg [.int .i64 n1,u1]) p.num) (s2:In H n (.agg [.int .i64 n2,u2]) (p.den:Nat)) (s3:In H n (.agg [.int .i64 n3,u3]) q.num) (s4:In H n (.agg [.int .i64 n4,u4]) (q.den:Nat)) (l1:wl p.num<1000000000) (l2:wl (p.den:Nat)<1000000000) (l3:wl q.num<1000000000) (l4:wl (q.den:Nat)<1000000000) (a2:r.get 2=some (.ptr N 0)) (a3:r.get 3=some (.ptr (N+1) 0)) (a4:r.get 4=some (.ptr (N+2) 0)):
  Code A.C none A.wh ⟨r,34,[]⟩ ⟨H,n,W⟩ (fun e fr st=>e=.ret/\∃r',fr=⟨r',34,[]⟩/\r'.get 4=some (.ptr (N+2) 0)/\RI H N (p+q) st):=by
 rw[bk]
 have o1:=dN s1
 have o2:=dN s2
 have o3:=dN s3
 have o4:=dN s4
 unfold V.one at o1 o2 o3 o4
 have z1:N<n:=by omega
 have z2:N+1<n:=by omega
 simp[A.wh,a2,a3,a4,b1,b2,b3,z1,z2,aO,aD,ad]
 refine aB (Dm s1 s4 (by omega) (by omega)) ?_
 rintro v5 h1 m1 k1 q1
 have fk:=k1.le
 have f1:=(k1.get N (by omega)).trans b1
 have f2:=(k1.get (N+1) (by omega)).trans b2
 have f3:=(k1.get (N+2) (by omega)).trans b3
 have e1:N<m1:=by omega
 have e2:N+1<m1:=by omega
 simp[a2,a3,a4,f1,f2,e1,e2,aO,aD,ad]
 refine aB (Dm (s3.ae k1) (s2.ae k1) (by omega) (by omega)) ?_
 rintro v6 h2 m2 k2 q2
 have il:=k2.le
 have w1:=Ib p.num ((q.den:Nat):Int)
 have w2:=Ib q.num ((p.den:Nat):Int)
 have w3:=Ib ((p.den:Nat):Int) ((q.den:Nat):Int)
 have w4:=Zq (p.num*((q.den:Nat):Int)) (q.num*((p.den:Nat):Int))
 simp[]
 refine aB (Nj (q1.ae k2) q2 (by omega) (by omega)) ?_
 rintro v7 h3 m3 k3 q3
 have iN:=k3.le
 have k13:=(k1.trans k2).trans k3
 have f4:=(k13.get N (by omega)).trans b1
 have f5:=(k13.get (N+1) (by omega)).trans b2
 have e3:N<m3:=by omega
 have e4:N+1<m3:=by omega
 simp[a2,a3,a4,f4,f5,e3,e4,aO,aD,ad]
 refine aB (Dm (s2.ae k13) (s4.ae k13) (by omega) (by omega)) ?_
 rintro v8 h4 m4 k4 q4
 have tY:=k4.le
 have k14:=k13.trans k4
 have hd:((p.den:Nat):Int)*((q.den:Nat):Int)≠0:=by
  have:=p.den_nz
  have:=q.den_nz
  exact Jg (by omega) (by omega)
 simp[]
 refine aB (Zk (q3.ae k4) q4 hd (by omega) (by omega)) ?_
 rintro v9 h5 m5 k5 hv
 have tu:((p.den:Nat):Int)≠0:=by have:=p.den_nz;omega
 have pj:((q.den:Nat):Int)≠0:=by have:=q.den_nz;omega
 rw[<-Rat.divInt_add_divInt _ _ tu pj,BZ,BZ]at hv
 obtain⟨n5,u5,n6,u6,rfl,t1,t2⟩:=hv
 have o5:=dN t1
 have o6:=dN t2
 unfold V.one at o5 o6
 have Ic:=k5.le
 have k15:=k14.trans k5
 have f6:=(k15.get (N+2) (by omega)).trans b3
 have e5:N+2<m5:=by omega
 simp[a4,f6,e5,aO,aD,ad,bD,o5,o6,ct.cv]
 have mH:¬N+2<N:=by omega
 refine⟨by simp[av,hW,mH],fun i hi=>?_,by show N+3<=m5;omega,n5,u5,n6,u6,by show T.get (T.set _ _ _) _=_;rw[T.ag,ay rfl],n5,u5,n6,u6,rfl,t1.aI (i:=N+2) f6 oT rfl,t2.aI (i:=N+2) f6 oT rfl⟩
 show T.get (T.set _ _ _) _=_
 rw[T.ag,ak (by omega),k15.get i (by omega)]
def Vd{x y:V}{p q:Rat}{h:T O}{N:Nat}(hx:Fc h N x p)(hy:Fc h N y q)(l1:wl p.num<1000000000)(l2:wl (p.den:Nat)<1000000000)(l3:wl q.num<1000000000)(l4:wl (q.den:Nat)<1000000000):Fn A.C 44 [x,y] h N (fun v h' n'=>Fc h' n' v (p+q)):=by
 intro w
 rw[aN,A.k44 (by simp)]
 have mG:=hx
 have xG:=hy
 obtain⟨n1,u1,n2,u2,rfl,s1,s2⟩:=hx
 obtain⟨n3,u3,n4,u4,rfl,s3,s4⟩:=hy
 have o1:=dN s1
 have o2:=dN s2
 have o3:=dN s3
 have o4:=dN s4
 unfold V.one at o1 o2 o3 o4
 have kB:ab h N (((h.set N (.cells [.int .i64 n1,u1,.int .i64 n2,u2] 80 true)).set (N+1) (.cells [.int .i64 n3,u3,.int .i64 n4,u4] 80 true)).set (N+2) (.cells [.int .i64 0,.aa,.int .i64 0,.aa] 80 true)) (N+3):=aL (aL (aL ab.refl _) _) _
 simp[A.b44,aO,aD,ad,o1,o2,o3,o4]
 generalize jW:((h.set N (.cells [.int .i64 n1,u1,.int .i64 n2,u2] 80 true)).set (N+1) (.cells [.int .i64 n3,u3,.int .i64 n4,u4] 80 true)).set (N+2) (.cells [.int .i64 0,.aa,.int .i64 0,.aa] 80 true)=hB at*
 have b1:hB.get N=some (.cells [.int .i64 n1,u1,.int .i64 n2,u2] 80 true):=by rw[<-jW];simp
 have b2:hB.get (N+1)=some (.cells [.int .i64 n3,u3,.int .i64 n4,u4] 80 true):=by rw[<-jW];simp
 have b3:hB.get (N+2)=some (.cells [.int .i64 0,.aa,.int .i64 0,.aa] 80 true):=by rw[<-jW];simp
 refine aB (Zn (mG.ae kB)) ?_
 rintro _ h0 m0 k0 rfl
 have zaE:=k0.le
 have k0':=kB.trans k0
 have d1:=(k0.get N (by omega)).trans b1
 have d2:=(k0.get (N+1) (by omega)).trans b2
 have d3:=(k0.get (N+2) (by omega)).trans b3
 by_cases cp:p.den=1
 ·simp[cp,d1,d2,aO,aD]
  refine aB (Zn (xG.ae k0')) ?_
  rintro _ h1 m1 k1 rfl
  have fk:=k1.le
  have g1:=(k1.get N (by omega)).trans d1
  have g2:=(k1.get (N+1) (by omega)).trans d2
  have g3:=(k1.get (N+2) (by omega)).trans d3
  have k1':=k0'.trans k1
  by_cases cq:q.den=1
  ·simp[cq,g1,g2,aO,aD]
   refine aB (Nj (s1.ae k1') (s3.ae k1') (by omega) (by omega)) ?_
   rintro v5 h2 m2 k2 q1
   have il:=k2.le
   simp[]
   refine aB (Zi q1) ?_
   rintro _ h3 m3 k3 ⟨n5,u5,n6,u6,rfl,t1,t2⟩
   have o5:=dN t1
   have o6:=dN t2
   unfold V.one at o5 o6
   have iN:=k3.le
   have f5:=(k3.get (N+2) (by omega)).trans ((k2.get (N+2) (by omega)).trans g3)
   simp[f5,aO,aD,ad,bD,o5,o6,ct.cv,aA]
   have kk:=(k1'.trans k2).trans k3
   have RK:p+q=((p.num+q.num:Int):Rat):=by rw[Zp cp,Zp cq];simp
   rw[RK]
   exact⟨kk.set (by omega),n5,u5,n6,u6,rfl,t1.aI (i:=N+2) f5 oT rfl,t2.aI (i:=N+2) f5 oT rfl⟩
  ·simp[cq,g1,g2,aO,aD]
   refine mi (Yu0 (N:=N) (p:=p) (q:=q) (by omega) (by simp[av]) g1 g2 g3 (s1.ae k1') (s2.ae k1') (s3.ae k1') (s4.ae k1') l1 l2 l3 l4 (by simp) (by simp) (by simp)) ?_
   rintro e fr ⟨H6,n6,W6⟩ ⟨rfl,r6,rfl,c4,q1,q2,q3,m5,v5,m6,v6,q4,q5⟩
   simp only at q1 q2 q3 q4 q5
   simp[c4,q4,aO,aD,aA,q1]
   exact⟨⟨by omega,fun i hi=>(q2 i hi).trans (k1'.get i hi)⟩,q5⟩
 ·simp[cp,d1,d2,aO,aD]
  refine mi (Yu0 (N:=N) (p:=p) (q:=q) (by omega) (by simp[av]) d1 d2 d3 (s1.ae k0') (s2.ae k0') (s3.ae k0') (s4.ae k0') l1 l2 l3 l4 (by simp) (by simp) (by simp)) ?_
  rintro e fr ⟨H6,n6,W6⟩ ⟨rfl,r6,rfl,c4,q1,q2,q3,m5,v5,m6,v6,q4,q5⟩
  simp only at q1 q2 q3 q4 q5
  simp[c4,q4,aO,aD,aA,q1]
  exact⟨⟨by omega,fun i hi=>(q2 i hi).trans (k0'.get i hi)⟩,q5⟩
set_option maxHeartbeats 2000000
def A.b45:=A.q Tryz.f45
def A.k45:=@A.kk 45 22 [.cell 2 (some 4)] A.b45 (by kernel_rfl) rfl
def Zr{z:Int}{h:T O}{N:Nat}(hl:(aK z).length<=100000):Fn A.C 124 [.str (aK z)] h N (fun v h' n'=>In h' n' v z):=by
 have hb:(ar z.natAbs).length<=100000:=by
  unfold aK at hl
  split at hl<;>(try simp at hl)<;>omega
 have:=Ycm (s:=aK z) (h:=h) (N:=N) (by rw[JP];exact BH _) (by rw[JP];exact hb)
 rw[Md,JP,Hh]at this
 have e:(if decide (z<0)=true then -(z.natAbs:Int) else (z.natAbs:Int))=z:=by
  by_cases hz:z<0<;>simp[hz]<;>omega
 rw[e]at this
 exact this
def UT{q:Rat}{h:T O}{N:Nat}(l1:(aK q.num).length<=100000)(l2:(ar q.den).length<=100000):Fn A.C 45 [.str (aR q)] h N (fun v h' n'=>Fc h' n' v q):=by
 intro w
 have hc:=fun st=>Ylf (s:=aR q) (st:=st) (by unfold aR;split<;>(try simp)<;>omega)
 rw[Me]at hc
 have kB:=aL (ab.refl (h:=h) (n:=N)) (.cells [.int .i64 0,.aa,.int .i64 0,.aa] 80 true)
 rw[aN,A.k45 (by simp)]
 by_cases c1:q.den=1
 ·have ax:¬ah (aR q)<(aR q).length:=fun hx=>(CZ q).1 hx c1
  simp[A.b45,hc,ax]
  refine aB (Zr l1) ?_
  rintro v1 h1 m1 k1 q1
  simp[]
  refine aB (Zi q1) ?_
  rintro _ h3 m3 k3 ⟨n5,u5,n6,u6,rfl,t1,t2⟩
  have o5:=dN t1
  have o6:=dN t2
  unfold V.one at o5 o6
  have fk:=k1.le
  have iN:=k3.le
  have kk:=(kB.trans k1).trans k3
  have f5:=((k1.trans k3).get N (by omega))
  rw[T.ag,ay rfl]at f5
  simp[f5,aO,aD,ad,bD,o5,o6,ct.cv,aA]
  rw[Zp c1]
  exact⟨kk.set (by omega),n5,u5,n6,u6,rfl,t1.aI f5 oT rfl,t2.aI f5 oT rfl⟩
 ·have ax:ah (aR q)<(aR q).length:=(CZ q).2 c1
  have hd:=Mf q c1
  have Zo:ar q.den=aK ((q.den:Nat):Int):=by unfold aK;rw[ak (by omega)];rfl
  rw[Zo]at l2 hd
  simp[A.b45,hc,ax,hd]
  refine aB (Zr l1) ?_
  rintro v1 h1 m1 k1 q1
  simp[]
  refine aB (Zr l2) ?_
  rintro v2 h2 m2 k2 q2
  obtain⟨n5,u5,rfl,AM⟩:=q1.cells
  obtain⟨n6,u6,rfl,HX⟩:=q2.cells
  have o5:=AM
  have o6:=HX
  unfold V.one at o5 o6
  have fk:=k1.le
  have il:=k2.le
  have kk:=(kB.trans k1).trans k2
  have f5:=((k1.trans k2).get N (by omega))
  rw[T.ag,ay rfl]at f5
  simp[f5,aO,aD,ad,bD,o5,o6,ct.cv,aA]
  exact⟨kk.set (by omega),n5,u5,n6,u6,rfl,(q1.ae k2).aI f5 oT rfl,q2.aI f5 oT rfl⟩
variable {N k:Nat} {h:T O} {x:V} {z:Int}
def A.b108:=A.q Tryz.f108
def A.k108:=@A.kk 108 6 [.tmp 2] A.b108 (by kernel_rfl) rfl
def A.b81:=A.q Tryz.f81
def A.k81:=@A.kk 81 11 [.tmp 2] A.b81 (by kernel_rfl) rfl
def A.b154:=A.q Tryz.f154
def A.k154:=@A.kk 154 13 [.tmp 2] A.b154 (by kernel_rfl) rfl
def A.b220:=A.q Tryz.f220
def A.k220:=@A.kk 220 25 [.tmp 2] A.b220 (by kernel_rfl) rfl
def Fc.parts{q:Rat}(s:Fc h N x q):∃n1 u1 n2 u2,x=.agg [.int .i64 n1,u1,.int .i64 n2,u2]/\In h N (.agg [.int .i64 n1,u1]) q.num/\In h N (.agg [.int .i64 n2,u2]) (q.den:Int)/\V.one u1=true/\V.one u2=true:=by
 obtain⟨n1,u1,n2,u2,rfl,s1,s2⟩:=s
 exact⟨n1,u1,n2,u2,rfl,s1,s2,dN s1,dN s2⟩
def VC{q:Rat}(hx:Fc h N x q):Fn A.C 108 [x] h N (fun v _ _=>v=.int .i64 (dX q.num)):=by
 intro w
 obtain⟨n1,u1,n2,u2,rfl,s1,s2,o1,o2⟩:=hx.parts
 unfold V.one at o1 o2
 rw[aN,A.k108 (by simp)]
 have k0:=(ab.refl (h:=h) (n:=N)).new (.cells [.int .i64 n1,u1,.int .i64 n2,u2] 80 true)
 simp[A.b108,aO,aD,ad,o1,o2]
 refine aB (HE (s1.ae k0)) ?_
 rintro _ h1 m1 k1 rfl
 simp[aA]
 exact k0.trans k1
def Yj1{n d:Nat}(hk:(aH n).length=k+1)(hd:(aH n)[k]?=some d):n<2^(64*k+aX d):=by
 have h1:=mY n
 have h2:=ET (b:=B) hd
 rw[eZ (by omega),h1]at h2
 have h3:val B ((aH n).take k)<B^k:=by
  have:=EU (b:=B) (l:=(aH n).take k) (fun x hx=>rF n x (yL hx))
  rw[gG,pZ (by omega)]at this;exact this
 have h4:d+1<=2^aX d:=Rm d
 have h5:B^k*(d+1)<=B^k*2^aX d:=kY _ h4
 have h6:B^k=2^(64*k):=by rw[Nat.pow_mul];rfl
 rw[kf,<-h6]
 rw[tA]at h5
 omega
def Zvn{n b:Nat}(h:600<(ar n).length)(hb:n<2^b):1800<b:=by
 apply Classical.byContradiction
 intro hc
 obtain⟨M,hM⟩:∃M:Nat,M=600:=⟨_,rfl⟩
 have h1:n<2^(3*M):=eY hb (Mh (by omega))
 have h2:(2:Nat)^(3*M)<=10^M:=by
  rw[Nat.pow_mul]
  exact Gl (by decide) _
 have h3:=(PQ (n:=n) (k:=M) (by omega)).2 (eY h1 h2)
 omega
def Ypt(hx:In h N x z)(hl:wl z<10000000000):Fn A.C 220 [x] h N (fun v _ _=>∃b:Nat,v=.int .i64 b/\z.natAbs<2^b):=by
 intro w
 obtain⟨n,u,rfl,hu⟩:=hx.cells
 have mU:=hu
 unfold V.one at mU
 have k0:=(ab.refl (h:=h) (n:=N)).new (.cells [.int .i64 n,u] 78 true)
 rw[aN,A.k220 (by simp)]
 simp[A.b220,aO,aD,ad,mU]
 refine aB (Db (hx.ae k0)) ?_
 rintro _ h1 m1 k1 ⟨u2,rfl,hw⟩
 have hlen:=Sl.len hw
 rw[bC]at hlen
 by_cases h0:(aH z.natAbs).length=0
 ·rw[h0]at hlen
  have hz:z.natAbs=0:=by
   have:=mY z.natAbs
   rw[q8 h0]at this
   simpa[val]using this.symm
  simp[hlen,aE,aA]
  exact⟨k0.trans k1,0,rfl,by omega⟩
 ·obtain⟨k,hk⟩:∃k,(aH z.natAbs).length=k+1:=⟨(aH z.natAbs).length-1,by omega⟩
  rw[hk]at hlen
  obtain⟨d,hd⟩:=bh (l:=aH z.natAbs) (k:=k) (by omega)
  obtain⟨i,o,c,e,rw,q1,q2,q3,q4⟩:=Sl.at hw (fu hd)
  have Rk:d<18446744073709551616:=(rF _).get hd
  have yv:k+1<10000000000:=by
   have:=hl
   unfold wl at this
   omega
  have hbl:aX d<=64:=by
   apply Classical.byContradiction
   intro hc
   have h1:d≠0:=fun h=>by rw[h]at hc;simp[aX]at hc
   have h2:=J1 h1
   have h3:=Mh (j:=64) (k:=aX d-1) (by omega)
   have h4:(2:Nat)^64=18446744073709551616:=by decide
   omega
  have c1:¬((k:Int)+1=0):=by omega
  have c2:bl .i64 ((k:Int)+1-1)=(k:Int):=by rw[cA (by omega) (by omega)];omega
  have c3:bl .i64 (64*(k:Int))=64*(k:Int):=cA (by omega) (by omega)
  have c4:bl .i64 (64*(k:Int)+(aX d:Nat))=64*(k:Int)+(aX d:Nat):=cA (by omega) (by omega)
  have c5:(k:Int)<(k:Int)+1:=by omega
  simp(disch:=omega) [hlen,aE,c1,c2,c3,c5,q1,q3,q4]
  refine aB (YD Rk) ?_
  rintro _ h2 m2 k2 ⟨rfl,rfl,rfl⟩
  simp[c4,aA]
  exact⟨k0.trans k1,64*k+aX d,by simp,Yj1 hk hd⟩
def Ydr(hx:In h N x z)(hP:l_ h N)(hl:wl z<10000000000)(hd:(de z.natAbs).length<1000000000):Fn A.C 154 [x] h N (fun v _ _=>v=.bool (decide (600<(ar z.natAbs).length))):=by
 intro w
 obtain⟨n,u,rfl,hu⟩:=hx.cells
 have mU:=hu
 unfold V.one at mU
 have k0:=(ab.refl (h:=h) (n:=N)).new (.cells [.int .i64 n,u] 78 true)
 have g0:(h.set N (.cells [.int .i64 n,u] 78 true)).get N=some (.cells [.int .i64 n,u] 78 true):=by rw[T.ag,ay rfl]
 rw[aN,A.k154 (by simp)]
 simp[A.b154,aO,aD,ad,mU]
 refine aB (Ypt (hx.ae k0) hl) ?_
 rintro _ h1 m1 k1 ⟨b,rfl,hb⟩
 have g1:=(k1.get N (by omega)).trans g0
 by_cases Mv:1800<b
 ·have Ie:(1800:Int)<(b:Int):=by omega
  simp[Mv,Ie,g1,aO,aD]
  refine aB (RH ((hx.ae k0).ae k1) ((hP.ae k0).ae k1) (by omega)) ?_
  rintro _ h2 m2 k2 rfl
  have ht:=fun st=>Zj5 (s:=aK z) (st:=st)
  rw[JP]at ht
  simp[ht,aA]
  exact⟨(k0.trans k1).trans k2,by omega⟩
 ·have Ie:¬(1800:Int)<(b:Int):=by omega
  have KP:¬600<(ar z.natAbs).length:=fun hc=>Mv (Zvn hc hb)
  simp[Mv,Ie,KP,aA]
  exact k0.trans k1
def uK(h:z.natAbs<2^k):wl z<=k:=by
 have:=Fh (eY h (Gl (by decide) k))
 unfold wl at this ⊢
 rwa [dC]at this
def Yef{q:Rat}(hx:Fc h N x q)(hP:l_ h N)(hq:Qb k q)(hk:k<=400000000):Fn A.C 81 [x] h N (fun v _ _=>v=.bool (BJ q)):=by
 intro w
 obtain⟨n1,u1,n2,u2,rfl,s1,s2,o1,o2⟩:=hx.parts
 unfold V.one at o1 o2
 have k0:=(ab.refl (h:=h) (n:=N)).new (.cells [.int .i64 n1,u1,.int .i64 n2,u2] 80 true)
 have g0:(h.set N (.cells [.int .i64 n1,u1,.int .i64 n2,u2] 80 true)).get N=some (.cells [.int .i64 n1,u1,.int .i64 n2,u2] 80 true):=by rw[T.ag,ay rfl]
 have l1:=Mi hq.1
 have l2:=Mi hq.2
 have z1:=uK hq.1
 have z2:=uK (z:=(q.den:Int)) (k:=k) (by rw[dC];exact hq.2)
 rw[aN,A.k81 (by simp)]
 simp[A.b81,aO,aD,ad,o1,o2]
 refine aB (Ydr (s1.ae k0) (hP.ae k0) (by omega) (by omega)) ?_
 rintro _ h1 m1 k1 rfl
 have g1:=(k1.get N (by omega)).trans g0
 unfold BJ
 by_cases c1:600<(ar q.num.natAbs).length
 ·simp[c1,aA]
  exact k0.trans k1
 ·simp[c1,g1,aO,aD]
  refine aB (Ydr ((s2.ae k0).ae k1) ((hP.ae k0).ae k1) (by omega) (by rw[dC];omega)) ?_
  rintro _ h2 m2 k2 rfl
  simp[aA]
  exact(k0.trans k1).trans k2
end
end Go.Mx
