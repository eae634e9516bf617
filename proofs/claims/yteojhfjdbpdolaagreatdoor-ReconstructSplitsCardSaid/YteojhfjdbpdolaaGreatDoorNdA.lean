/-num-/
import Derived.Test.YteojhfjdbpdolaaGreatDoorNcC
set_option linter.all false
namespace Go.Mx
noncomputable section
open Go Go.Proofs
variable {N:Nat} {a b z:Int} {h:T O} {x:V}
set_option maxHeartbeats 2000000
set_option maxRecDepth 1000000
def A.b144:=A.q Tryz.f144
def A.k144:=@A.kk 144 6 [.cell 2 (some 4)] A.b144 (by kernel_rfl) rfl
def A.b95:=A.q Tryz.f95
def A.k95:=@A.kk 95 6 [.cell 2 (some 4)] A.b95 (by kernel_rfl) rfl
def A.b143:=A.q Tryz.f143
def A.k143:=@A.kk 143 13 [.tmp 2] A.b143 (by kernel_rfl) rfl
def A.np:bU:=sr [lN 24 2 2,lN 25 2 3,c2 26 176 24 25,ge 5 (.alloc [.int .i64 0,.aa] 87),gn (.store 2 (tq 5) (tq 26))]
 (.seq (.du [lN 27 2 2,lN 28 2 5,c2 29 197 27 28,lN 30 2 3,lN 31 2 5,c2 32 197 30 31,ge 33 (.build [.int .i64 0,.aa,.int .i64 0,.aa] [(0,2,(tq 29)),(2,2,(tq 32))]),gn (.store 4 (tq 4) (tq 33))] [0,0,3,0,0,31,63,127])
 (.ret))
def A.ik:bU:=.seq (sr [fa 13 1 3,ld 14 13,ge 15 (.bin .eql (.bX .slice) true (tq 14) (.const .aa)),mv 16 15,gy 17 16 (.iP 0 (tq 3)),gy 18 16 (.load none (tq 17)),gy 19 16 (.bin .eql (.bX .int) true (tq 18) (kq 1)),pf 20 16 19]
 (cd 20
 (sr [lN 21 2 2,lN 22 2 3,ge 23 (.build [.int .i64 0,.aa,.int .i64 0,.aa] [(0,2,(tq 21)),(2,2,(tq 22))]),gn (.store 4 (tq 4) (tq 23))]
 (.ret))
 (.skip)))
 A.np
def A.b146:bU:=sr [bx 2 87 0,bx 3 87 1,ge 4 (.alloc [.int .i64 0,.aa,.int .i64 0,.aa] 89)]
 (.seq (sr [lN 6 2 3,c1 7 166 6,bc 8 .lss 7 0]
 (cd 8
 (.du [lN 9 2 2,c1 10 179 9,lN 11 2 3,c1 12 179 11,gn (.store 2 (tq 2) (tq 10)),gn (.store 2 (tq 3) (tq 12))] [0,1,0,7,15,31])
 (.skip)))
 A.ik)
def A.k146:=@A.kk 146 34 [.cell 4 (some 4)] A.b146 (by kernel_rfl) rfl
def Fc(h:T O)(N:Nat)(x:V)(q:Rat):Prop:=∃n1 u1 n2 u2,x=.agg [.int .i64 n1,u1,.int .i64 n2,u2]/\In h N (.agg [.int .i64 n1,u1]) q.num/\In h N (.agg [.int .i64 n2,u2]) (q.den:Nat)
def Fc.ae{h':T O}{N':Nat}{q:Rat}(s:Fc h N x q)(k:ab h N h' N'):Fc h' N' x q:=by
 obtain⟨n1,u1,n2,u2,rfl,s1,s2⟩:=s
 exact⟨n1,u1,n2,u2,rfl,s1.ae k,s2.ae k⟩
def dZ{n:Int}{u:V}(s:In h N (.agg [.int .i64 n,u]) z):V.one u=true:=by
 obtain⟨n',u',e,h1⟩:=s.cells
 simp at e
 rw[e.2];exact h1
def Zv(hx:In h N x z):Fn A.C 144 [x] h N (fun v h' N'=>Fc h' N' v (z:Rat)):=by
 intro w
 rw[aR,A.k144 (by simp)]
 obtain⟨n,u,rfl,hu⟩:=hx.cells
 have mQ:=hu
 unfold V.one at mQ
 simp[A.b144,aO,aF,ad,mQ]
 refine aA Hx ?_
 rintro _ h1 n1 k1 rfl
 have ve:=k1.le
 have g0:=k1.get (N+1) (by omega)
 simp at g0
 simp[aO,aF,ad,bC,g0,mQ,ct.cv,aE]
 have kk:=(((aN (aN ab.refl (.cells [.int .i64 n,u] 87 true)) (.cells [.int .i64 0,.aa,.int .i64 0,.aa] 89 true)).trans k1).set (h:=h) (n:=N) (i:=N+1) (o:=.cells [.int .i64 n,u,.int .i64 1,.aa] 89 true) (by omega))
 refine⟨?_,kk,n,u,1,.aa,rfl,?_,?_⟩
 ·split<;>simp[ax]
 ·exact hx.ae kk
 ·exact In.small (by decide) (by decide)
def Ytr(h1: -9223372036854775808<=z)(h2:z<9223372036854775808){h:T O}{N:Nat}:Fn A.C 95 [.int .i64 z] h N (fun v h' N'=>Fc h' N' v (z:Rat)):=by
 intro w
 rw[aR,A.k95 (by simp)]
 simp[A.b95]
 refine aA Hx ?_
 rintro _ h3 n3 k3 rfl
 simp[]
 refine aA (Zv (In.small h1 h2)) ?_
 rintro _ h4 n4 k4 ⟨n1,u1,n2,u2,rfl,s1,s2⟩
 have ve:=k3.le
 have tN:=k4.le
 have g0:=(k4.get N (by omega)).trans (k3.get N (by omega))
 simp at g0
 have o1:=dZ s1
 have o2:=dZ s2
 unfold V.one at o1 o2
 simp[aO,aF,ad,bC,g0,o1,o2,ct.cv,aE]
 have kk:=(((aN (ab.refl (h:=h) (n:=N)) (.cells [.int .i64 0,.aa,.int .i64 0,.aa] 89 true)).trans k3).trans k4).set (h:=h) (n:=N) (i:=N) (o:=.cells [.int .i64 n1,u1,.int .i64 n2,u2] 89 true) (by omega)
 have g1:=(k4.get N (by omega)).trans (k3.get N (by omega))
 rw[T.ag,av rfl]at g1
 have hn:∀x∈[V.int .i64 0,V.aa,V.int .i64 0,V.aa],∀m,x≠.int .u64 m:=by
  intro x hx m hc
  simp at hx
  rcases hx with rfl|rfl|rfl|rfl<;>cases hc
 exact⟨kk,n1,u1,n2,u2,rfl,s1.aK g1 hn rfl,s2.aK g1 hn rfl⟩
def oK:∀x∈[V.int .i64 0,V.aa,V.int .i64 0,V.aa],∀m,x≠.int .u64 m:=by
 intro x hx m hc
 simp at hx
 rcases hx with rfl|rfl|rfl|rfl<;>cases hc
structure RW (H:T O) (N:Nat) (q:Rat) (st:St):Prop where
 w:ax N st.w=[]
 old:∀i,i<N->st.h.get i=H.get i
 le:N+3<=st.n
 ex:∃n1 u1 n2 u2,st.h.get (N+2)=some (.cells [.int .i64 n1,u1,.int .i64 n2,u2] 89 true)/\Fc st.h st.n (.agg [.int .i64 n1,u1,.int .i64 n2,u2]) q
def Yx2{H:T O}{n:Nat}{W:List Nat}{r:T V}{n1 n2:Int}{u1 u2:V}(hn:N+3<=n)(hW:ax N W=[])(g1:H.get N=some (.cells [.int .i64 n1,u1] 87 true))(g2:H.get (N+1)=some (.cells [.int .i64 n2,u2] 87 true))(g3:H.get (N+2)=some (.cells [.int .i64 0,.aa,.int .i64 0,.aa] 89 true))
  (hx:In H n (.agg [.int .i64 n1,u1]) a) (hy:In H n (.agg [.int .i64 n2,u2]) b) (hb:0<b) (la:wl a<10000000000) (lb:wl b<10000000000) (a2:r.get 2=some (.ptr N 0)) (a3:r.get 3=some (.ptr (N+1) 0)) (a4:r.get 4=some (.ptr (N+2) 0)):
  Code A.C none A.np ⟨r,34,[]⟩ ⟨H,n,W⟩ (fun e fr st=>e=.ret/\∃r',fr=⟨r',34,[]⟩/\r'.get 4=some (.ptr (N+2) 0)/\RW H N (Rat.divInt a b) st):=by
 rw[bl]
 have o1:=dZ hx
 have o2:=dZ hy
 unfold V.one at o1 o2
 simp[A.np,a2,a3,a4,g1,g2,aO,aF,ad]
 refine aA (Ymt hx hy la lb) ?_
 rintro _ h1 m1 k1 hg
 obtain⟨ng,ug,rfl,hug⟩:=hg.cells
 have HY:=hug
 unfold V.one at HY
 have ve:=k1.le
 have B2:=(k1.get N (by omega)).trans g1
 have pM:=(k1.get (N+1) (by omega)).trans g2
 have DK:=(k1.get (N+2) (by omega)).trans g3
 have d1:¬N=m1:=by omega
 have d2:¬N+1=m1:=by omega
 have d3:¬N+2=m1:=by omega
 have e1:N<m1+1:=by omega
 have e2:N+1<m1+1:=by omega
 have e3:N+2<m1+1:=by omega
 have pw:0<Int.gcd a b:=Int.gcd_pos_of_ne_zero_right a (by omega)
 obtain⟨G,hG⟩:∃G,Int.gcd a b=G:=⟨_,rfl⟩
 rw[hG]at pw hg
 have hGb:(G:Int)<=b:=by
  rw[<-hG]
  exact Int.le_of_dvd hb (Int.gcd_dvd_right ..)
 have lg:wl (G:Int)<10000000000:=qP (HH (by omega)) lb
 have kS:ab h1 m1 ((h1.set m1 (.cells [.int .i64 0,.aa] 87 true)).set m1 (.cells [.int .i64 ng,ug] 87 true)) (m1+1):=(aN ab.refl _).set (aM _)
 simp[a2,a3,a4,B2,pM,d1,d2,d3,aO,aF,ad,bC,HY,o1,o2,e1,e2]
 refine aA (Yma ((hx.ae k1).ae kS) (hg.ae kS) (by omega) la lg) ?_
 rintro _ h2 m2 k2 qk
 obtain⟨n3,u3,rfl,J5⟩:=qk.cells
 have o3:=J5
 unfold V.one at o3
 have kT:=(k1.trans kS).trans k2
 have gY:=kT.le
 have f1:=(kT.get N (by omega)).trans g1
 have f2:=(kT.get (N+1) (by omega)).trans g2
 have f3:=(kT.get (N+2) (by omega)).trans g3
 have f5:=k2.get m1 (by omega)
 rw[T.ag,av rfl]at f5
 have jj:=k2.le
 have e4:N+1<m2:=by omega
 have e5:m1<m2:=by omega
 have e6:N+2<m2:=by omega
 simp[a2,a3,a4,f1,f2,f5,aO,aF,ad,bC,HY,o1,o2,o3,e4,e5]
 refine aA (Yma ((hy.ae kT)) ((hg.ae kS).ae k2) (by omega) lb lg) ?_
 rintro _ h3 m3 k3 jo
 obtain⟨n4,u4,rfl,Nu⟩:=jo.cells
 have o4:=Nu
 unfold V.one at o4
 have kU:=kT.trans k3
 have tN:=kU.le
 have f6:=(kU.get (N+2) (by omega)).trans g3
 have e7:N+2<m3:=by omega
 simp[a4,f6,aO,aF,ad,bC,o3,o4,e7,ct.cv]
 have Zw:(Rat.divInt a b).num=a/(G:Int):=by
  rw[Rat.num_divInt,Int.sign_eq_one_of_pos hb,Int.one_mul,Int.gcd_comm,hG]
 have Zx:((Rat.divInt a b).den:Int)=b/(G:Int):=by
  rw[Rat.den_divInt,ak (by omega),Int.gcd_comm,hG,Int.natCast_ediv,Int.natAbs_of_nonneg (by omega)]
 have pG:¬N+2<N:=by omega
 have n3':¬m1<N:=by omega
 refine⟨by simp[ax,hW,pG,n3'],fun i hi=>?_,by show N+3<=m3;omega,n3,u3,n4,u4,by show T.get (T.set _ _ _) _=_;rw[T.ag,av rfl],n3,u3,n4,u4,rfl,?_,?_⟩
 ·show T.get (T.set _ _ _) _=_
  rw[T.ag,ak (by omega),kU.get i (by omega)]
 ·rw[Zw];exact(qk.ae k3).aK f6 oK rfl
 ·rw[Zx];exact jo.aK f6 oK rfl
def Yx1{H:T O}{n:Nat}{W:List Nat}{r:T V}{n1 n2:Int}{u1 u2:V}(hn:N+3<=n)(hW:ax N W=[])(g1:H.get N=some (.cells [.int .i64 n1,u1] 87 true))(g2:H.get (N+1)=some (.cells [.int .i64 n2,u2] 87 true))(g3:H.get (N+2)=some (.cells [.int .i64 0,.aa,.int .i64 0,.aa] 89 true))
  (hx:In H n (.agg [.int .i64 n1,u1]) a) (hy:In H n (.agg [.int .i64 n2,u2]) b) (hb:0<b) (la:wl a<10000000000) (lb:wl b<10000000000) (a2:r.get 2=some (.ptr N 0)) (a3:r.get 3=some (.ptr (N+1) 0)) (a4:r.get 4=some (.ptr (N+2) 0)):
  Code A.C none A.ik ⟨r,34,[]⟩ ⟨H,n,W⟩ (fun e fr st=>e=.ret/\∃r',fr=⟨r',34,[]⟩/\r'.get 4=some (.ptr (N+2) 0)/\RW H N (Rat.divInt a b) st):=by
 rw[bl]
 have o1:=dZ hx
 have o2:=dZ hy
 unfold V.one at o1 o2
 have fin:∀r':T V,r'.get 2=some (.ptr N 0)->r'.get 3=some (.ptr (N+1) 0)->r'.get 4=some (.ptr (N+2) 0)->bG A.C [] (fj (A.C.code none A.np ⟨r',34,[]⟩ ⟨H,n,W⟩)) (Xj (fun e fr st=>e=.ret/\∃r',fr=⟨r',34,[]⟩/\r'.get 4=some (.ptr (N+2) 0)/\RW H N (Rat.divInt a b) st)):=fun r' b2 b3 b4=>bl.1 (Yx2 hn hW g1 g2 g3 hx hy hb la lb b2 b3 b4)
 have xH:=hy
 rcases xH with⟨e0,_,_⟩|⟨i,o,l,c,e0,_,_⟩
 ·simp only[V.agg.injEq,iQ,V.int.injEq,true_and,and_true]at e0
  obtain⟨rfl,rfl⟩:=e0
  by_cases c1:n2=1
  ·subst c1
   simp[A.ik,a2,a3,a4,g1,g2,g3,aO,aF,ad,aG,bC,o1]
   have pG:¬N+2<N:=by omega
   refine⟨by simp[ax,hW,pG],fun i hi=>?_,hn,n1,u1,1,.aa,by show T.get (T.set _ _ _) _=_;rw[T.ag,av rfl],n1,u1,1,.aa,rfl,?_,?_⟩
   ·show T.get (T.set _ _ _) _=_
    rw[T.ag,ak (by omega)]
   ·rw[show (Rat.divInt a 1).num=a by rw[Rat.num_divInt];simp];exact hx.aK g3 oK rfl
   ·rw[show ((Rat.divInt a 1).den:Int)=1 by rw[Rat.den_divInt];simp];exact In.small (by decide) (by decide)
  ·simp[A.ik,a2,a3,a4,g1,g2,g3,aO,aF,ad,aG,bC,o1,c1]
   exact fin _ (by simp[a2]) (by simp[a3]) (by simp[a4])
 ·simp only[V.agg.injEq,iQ,V.int.injEq,true_and,and_true]at e0
  obtain⟨rfl,rfl⟩:=e0
  simp[A.ik,a2,a3,a4,g1,g2,g3,aO,aF,ad,aG,bC,o1]
  exact fin _ (by simp[a2]) (by simp[a3]) (by simp[a4])
def Zy{y:V}(hx:In h N x a)(hy:In h N y b)(hb:b≠0)(la:wl a<10000000000)(lb:wl b<10000000000):Fn A.C 146 [x,y] h N (fun v h' n'=>Fc h' n' v (Rat.divInt a b)):=by
 intro w
 rw[aR,A.k146 (by simp)]
 obtain⟨n1,u1,rfl,Ah⟩:=hx.cells
 obtain⟨n2,u2,rfl,fG⟩:=hy.cells
 have o1:=Ah
 have o2:=fG
 unfold V.one at o1 o2
 have kB:ab h N (((h.set N (.cells [.int .i64 n1,u1] 87 true)).set (N+1) (.cells [.int .i64 n2,u2] 87 true)).set (N+2) (.cells [.int .i64 0,.aa,.int .i64 0,.aa] 89 true)) (N+3):=aN (aN (aN ab.refl _) _) _
 have done:∀(r:T V) (h1:T O) (m:Nat) (W1:List Nat) (a' b' xM pG:Int) (Zz ZA:V),N+3<=m->ax N W1=[]->(∀i,i<N->h1.get i=h.get i)->h1.get N=some (.cells [.int .i64 xM,Zz] 87 true)->h1.get (N+1)=some (.cells [.int .i64 pG,ZA] 87 true)->h1.get (N+2)=some (.cells [.int .i64 0,.aa,.int .i64 0,.aa] 89 true)->
   In h1 m (.agg [.int .i64 xM,Zz]) a'->In h1 m (.agg [.int .i64 pG,ZA]) b'->0<b'->wl a'<10000000000->wl b'<10000000000->Rat.divInt a' b'=Rat.divInt a b->r.get 2=some (.ptr N 0)->r.get 3=some (.ptr (N+1) 0)->r.get 4=some (.ptr (N+2) 0)->
   bG A.C [.fin [.cell 4 (some 4)] ⟨h,N,w⟩] (fj (A.C.code none A.ik ⟨r,34,[]⟩ ⟨h1,m,W1⟩)) (CV (aE (fun v h' n'=>Fc h' n' v (Rat.divInt a b)) h N w)):=by
  intro r h1 m W1 a' b' xM pG Zz ZA hm DS hO g1 g2 g3 i1 i2 sK Fb RG hq b2 b3 b4
  refine jy (Yx1 hm DS g1 g2 g3 i1 i2 sK Fb RG b2 b3 b4) ?_
  rintro e fr ⟨H6,n6,W6⟩ ⟨rfl,r6,rfl,c4,q1,q2,q3,m1,v1,m2,v2,q4,q5⟩
  simp only at q1 q2 q3 q4 q5
  rw[hq]at q5
  simp[c4,q4,aO,aF,aE,q1]
  exact⟨⟨by omega,fun i hi=>(q2 i hi).trans (hO i hi)⟩,q5⟩
 simp[A.b146,aO,aF,ad,o1,o2]
 generalize jS:((h.set N (.cells [.int .i64 n1,u1] 87 true)).set (N+1) (.cells [.int .i64 n2,u2] 87 true)).set (N+2) (.cells [.int .i64 0,.aa,.int .i64 0,.aa] 89 true)=hB at*
 have b1:hB.get N=some (.cells [.int .i64 n1,u1] 87 true):=by rw[<-jS];simp
 have b2:hB.get (N+1)=some (.cells [.int .i64 n2,u2] 87 true):=by rw[<-jS];simp
 have b3:hB.get (N+2)=some (.cells [.int .i64 0,.aa,.int .i64 0,.aa] 89 true):=by rw[<-jS];simp
 refine aA (Hy (hy.ae kB)) ?_
 rintro _ h1 m1 k1 rfl
 have kk:=kB.trans k1
 have ve:=kk.le
 have fu:=k1.le
 have f1:=(k1.get N (by omega)).trans b1
 have f2:=(k1.get (N+1) (by omega)).trans b2
 have f3:=(k1.get (N+2) (by omega)).trans b3
 by_cases hbn:b<0
 ·have s1:eF b= -1:=by unfold eF;rw[av hbn]
  have l1:N<m1:=by omega
  simp[s1,f1,f2,l1,aO,aF,ad]
  refine aA (JV (hx.ae kk) (by omega)) ?_
  rintro _ h2 m2 k2 q1
  obtain⟨n3,u3,rfl,J5⟩:=q1.cells
  have o3:=J5
  unfold V.one at o3
  have gY:=k2.le
  have f4:=(k2.get N (by omega)).trans f1
  have f5:=(k2.get (N+1) (by omega)).trans f2
  have f6:=(k2.get (N+2) (by omega)).trans f3
  have l2:N+1<m2:=by omega
  simp[f4,f5,l2,aO,aF,ad]
  refine aA (JV ((hy.ae kk).ae k2) (by omega)) ?_
  rintro _ h3 m3 k3 q2
  obtain⟨n4,u4,rfl,Nu⟩:=q2.cells
  have o4:=Nu
  unfold V.one at o4
  have jj:=k3.le
  have f7:=(k3.get N (by omega)).trans f4
  have f8:=(k3.get (N+1) (by omega)).trans f5
  have f9:=(k3.get (N+2) (by omega)).trans f6
  have l3:N+1<m3:=by omega
  have l4:N<m3:=by omega
  simp[f7,f8,l3,l4,aO,aF,ad,bC,o3,o4,ct.cv]
  have i1:=(q1.ae k3).aK (c1:=[.int .i64 n3,u3]) (e1:=87) (w1:=true) f7 hx.nu rfl
  have i2:=q2.aK (c1:=[.int .i64 n3,u3]) (e1:=87) (w1:=true) f7 hx.nu rfl
  have f8':((h3.set N (.cells [.int .i64 n3,u3] 87 true)):T O).get (N+1)=some (.cells [.int .i64 n2,u2] 87 true):=by rw[T.ag,ak (by omega)];exact f8
  have j1:=i1.aK (c1:=[.int .i64 n4,u4]) (e1:=87) (w1:=true) f8' hy.nu rfl
  have j2:=i2.aK (c1:=[.int .i64 n4,u4]) (e1:=87) (w1:=true) f8' hy.nu rfl
  have l5:¬N+1<N:=by omega
  exact done _ _ _ _ (-a) (-b) n3 n4 u3 u4 (by omega) (by simp[ax,l5]) (fun i hi=>by rw[T.ag,ak (by omega),T.ag,ak (by omega),k3.get i (by omega),k2.get i (by omega),kk.get i hi]) (by rw[T.ag,ak (by omega),T.ag,av rfl]) (by rw[T.ag,av rfl]) (by rw[T.ag,ak (by omega),T.ag,ak (by omega)];exact f9) j1 j2 (by omega) (by rw[Nz];exact la) (by rw[Nz];exact lb) (Rat.neg_divInt_neg a b) (by simp) (by simp) (by simp)
 ·have s1:eF b=1:=by unfold eF;rw[ak hbn,ak hb]
  simp[s1]
  exact done _ _ _ _ a b n1 n2 u1 u2 (by omega) (by simp[ax]) (fun i hi=>kk.get i hi) f1 f2 f3 (hx.ae kk) (hy.ae kk) (by omega) la lb rfl (by simp) (by simp) (by simp)
set_option maxHeartbeats 2000000
def A.b82:=A.q Tryz.f82
def A.k82:=@A.kk 82 16 [.cell 4 (some 4)] A.b82 (by kernel_rfl) rfl
def ZB{x y:V}{p q:Rat}{h:T O}{N:Nat}(hx:Fc h N x p)(hy:Fc h N y q)(l1:wl p.num<1000000000)(l2:wl (p.den:Nat)<1000000000)(l3:wl q.num<1000000000)(l4:wl (q.den:Nat)<1000000000):Fn A.C 82 [x,y] h N (fun v h' n'=>Fc h' n' v (p*q)):=by
 intro w
 rw[aR,A.k82 (by simp)]
 obtain⟨n1,u1,n2,u2,rfl,s1,s2⟩:=hx
 obtain⟨n3,u3,n4,u4,rfl,s3,s4⟩:=hy
 have o1:=dZ s1
 have o2:=dZ s2
 have o3:=dZ s3
 have o4:=dZ s4
 unfold V.one at o1 o2 o3 o4
 have kB:ab h N (((h.set N (.cells [.int .i64 n1,u1,.int .i64 n2,u2] 89 true)).set (N+1) (.cells [.int .i64 n3,u3,.int .i64 n4,u4] 89 true)).set (N+2) (.cells [.int .i64 0,.aa,.int .i64 0,.aa] 89 true)) (N+3):=aN (aN (aN ab.refl _) _) _
 simp[A.b82,aO,aF,ad,o1,o2,o3,o4]
 generalize jS:((h.set N (.cells [.int .i64 n1,u1,.int .i64 n2,u2] 89 true)).set (N+1) (.cells [.int .i64 n3,u3,.int .i64 n4,u4] 89 true)).set (N+2) (.cells [.int .i64 0,.aa,.int .i64 0,.aa] 89 true)=hB at*
 have b1:hB.get N=some (.cells [.int .i64 n1,u1,.int .i64 n2,u2] 89 true):=by rw[<-jS];simp
 have b2:hB.get (N+1)=some (.cells [.int .i64 n3,u3,.int .i64 n4,u4] 89 true):=by rw[<-jS];simp
 have b3:hB.get (N+2)=some (.cells [.int .i64 0,.aa,.int .i64 0,.aa] 89 true):=by rw[<-jS];simp
 refine aA (Dq (s1.ae kB) (s3.ae kB) (by omega) (by omega)) ?_
 rintro v5 h1 m1 k1 q1
 have fu:=k1.le
 have f1:=(k1.get N (by omega)).trans b1
 have f2:=(k1.get (N+1) (by omega)).trans b2
 have f3:=(k1.get (N+2) (by omega)).trans b3
 have e1:N<m1:=by omega
 have e2:N+1<m1:=by omega
 simp[f1,f2,e1,e2,aO,aF,ad]
 refine aA (Dq ((s2.ae kB).ae k1) ((s4.ae kB).ae k1) (by omega) (by omega)) ?_
 rintro v6 h2 m2 k2 q2
 have gY:=k2.le
 have f4:=(k2.get (N+2) (by omega)).trans f3
 simp[]
 have hd:((p.den:Nat):Int)*((q.den:Nat):Int)≠0:=by
  have:=p.den_nz
  have:=q.den_nz
  exact Jg (by omega) (by omega)
 refine aA (Zy (q1.ae k2) q2 hd ?_ ?_) ?_
 ·have:=HZ p.num q.num
  omega
 ·have:=HZ ((p.den:Nat):Int) ((q.den:Nat):Int)
  omega
 ·rintro v7 h3 m3 k3 hv
  rw[<-Rat.divInt_mul_divInt,Cd,Cd]at hv
  obtain⟨n5,u5,n6,u6,rfl,t1,t2⟩:=hv
  have o5:=dZ t1
  have o6:=dZ t2
  unfold V.one at o5 o6
  have jj:=k3.le
  have f5:=(k3.get (N+2) (by omega)).trans f4
  have e3:N+2<m3:=by omega
  simp[f5,e3,aO,aF,ad,bC,o5,o6,ct.cv,aE]
  have kk:=((kB.trans k1).trans k2).trans k3
  exact⟨kk.set (by omega),n5,u5,n6,u6,rfl,t1.aK (i:=N+2) f5 oK rfl,t2.aK (i:=N+2) f5 oK rfl⟩
def ZC{x:V}{q:Rat}{h:T O}{N:Nat}(hx:Fc h N x q):Fn A.C 143 [x] h N (fun v _ _=>v=.bool (decide (q.den=1))):=by
 intro w
 rw[aR,A.k143 (by simp)]
 obtain⟨n1,u1,n2,u2,rfl,s1,s2⟩:=hx
 have o1:=dZ s1
 have o2:=dZ s2
 unfold V.one at o1 o2
 rcases s2 with⟨e0,_,_⟩|⟨i,o,l,c,e0,_,hz⟩
 ·simp only[V.agg.injEq,iQ,V.int.injEq,true_and,and_true]at e0
  obtain⟨rfl,rfl⟩:=e0
  by_cases c1:q.den=1
  ·have c2:((q.den:Nat):Int)=1:=by omega
   simp[A.b143,aO,aF,ad,o1,aG,c1,c2,aE]
   exact aN ab.refl _
  ·have c2:¬((q.den:Nat):Int)=1:=by omega
   simp[A.b143,aO,aF,ad,o1,aG,c1,c2,aE]
   exact aN ab.refl _
 ·simp only[V.agg.injEq,iQ,V.int.injEq,true_and,and_true]at e0
  obtain⟨rfl,rfl⟩:=e0
  have c1:¬q.den=1:=by omega
  simp[A.b143,aO,aF,ad,o1,aG,c1,aE]
  exact aN ab.refl _
set_option maxHeartbeats 2000000
def A.b84:=A.q Tryz.f84
def A.k84:=@A.kk 84 16 [.tmp 2] A.b84 (by kernel_rfl) rfl
def Ynn{x:V}{q:Rat}{h:T O}{N:Nat}(hx:Fc h N x q)(hP:kZ h N)(l1:(df q.num.natAbs).length<1000000000)(l2:(df q.den).length<1000000000):Fn A.C 84 [x] h N (fun v _ _=>v=.str (aS q)):=by
 intro w
 rw[aR,A.k84 (by simp)]
 have mH:=hx
 obtain⟨n1,u1,n2,u2,rfl,s1,s2⟩:=hx
 have o1:=dZ s1
 have o2:=dZ s2
 unfold V.one at o1 o2
 have kB:=aN (ab.refl (h:=h) (n:=N)) (.cells [.int .i64 n1,u1,.int .i64 n2,u2] 89 true)
 simp[A.b84,aO,aF,ad,o1,o2]
 generalize jS:h.set N (.cells [.int .i64 n1,u1,.int .i64 n2,u2] 89 true)=hB at*
 have b1:hB.get N=some (.cells [.int .i64 n1,u1,.int .i64 n2,u2] 89 true):=by rw[<-jS];simp
 refine aA (ZC (mH.ae kB)) ?_
 rintro _ h1 m1 k1 rfl
 have fu:=k1.le
 have f1:=(k1.get N (by omega)).trans b1
 have kk:=kB.trans k1
 by_cases c1:q.den=1
 ·simp[c1,f1,aO,aF]
  refine aA (RV (s1.ae kk) (hP.ae kk) (by omega)) ?_
  rintro _ h2 m2 k2 rfl
  simp[aE,aS,c1]
  exact kk.trans k2
 ·have l0:N<m1:=by omega
  simp[c1,f1,l0,aO,aF]
  refine aA (RV (s1.ae kk) (hP.ae kk) (by omega)) ?_
  rintro _ h2 m2 k2 rfl
  have gY:=k2.le
  have NA:=kk.trans k2
  have f2:=(k2.get N (by omega)).trans f1
  have l3:N<m2:=by omega
  have dq:IntKind.max .i64=9223372036854775807:=rfl
  have hS1:(aP q.num).length<2000000000:=by
   have h1:(ar q.num.natAbs).length<=(df q.num.natAbs).length+1:=by unfold ar;split<;>simp
   unfold aP
   split<;>simp<;>omega
  have hS2:(ar q.den).length<2000000000:=by
   have h1:(ar q.den).length<=(df q.den).length+1:=by unfold ar;split<;>simp
   omega
  have lL:aS q=aP q.num++47::ar q.den:=by unfold aS;rw[ak c1]
  have ZD:aP ((q.den:Nat):Int)=ar q.den:=by unfold aP;rw[ak (by omega)];rfl
  rw[lL]
  generalize aP q.num=S1 at*
  have g1:¬(9223372036854775807:Int)<(S1.length:Int)+1:=by omega
  simp[f2,l3,gL,dq,g1,aO,aF]
  refine aA (RV (s2.ae NA) (hP.ae NA) (by rw[dR];omega)) ?_
  rintro _ h3 m3 k3 rfl
  rw[ZD]
  generalize ar q.den=S2 at*
  have g2:¬(9223372036854775807:Int)<(S1.length:Int)+1+(S2.length:Int):=by omega
  simp[gL,dq,g2,ct.cv,aE]
  exact NA.trans k3
set_option maxHeartbeats 4000000
def A.wc:bU:=.seq (.du [fa 17 0 2,lN 18 2 17,fa 19 2 3,lN 20 2 19,c2 21 147 18 20,fa 22 0 3,lN 23 2 22,fa 24 2 2,lN 25 2 24,c2 26 147 23 25,c2 27 145 21 26,fa 28 2 2,lN 29 2 28,fa 30 2 3,lN 31 2 30,c2 32 147 29 31,c2 33 146 27 32,gn (.store 4 (tq 4) (tq 33))] [0,1,0,4,15,0,32,0,128,511,1023,0,2048,0,8192,32767,65535,131071])
 (.ret)
def A.b75:bU:=sr [bx 2 89 0,bx 3 89 1,ge 4 (.alloc [.int .i64 0,.aa,.int .i64 0,.aa] 89)]
 (.seq (sr [lN 5 4 2,c1 6 143 5,mv 7 6,gy 8 7 (.load (some 4) (tq 3)),gy 9 7 (.call (fq 143) [tq 8]),pf 10 7 9]
 (cd 10
 (sr [fa 11 0 2,lN 12 2 11,fa 13 0 3,lN 14 2 13,c2 15 145 12 14,c1 16 144 15,gn (.store 4 (tq 4) (tq 16))]
 (.ret))
 (.skip)))
 A.wc)
def A.k75:=@A.kk 75 34 [.cell 4 (some 4)] A.b75 (by kernel_rfl) rfl
def ZE{q:Rat}(h:q.den=1):q=(q.num:Rat):=by
 apply Rat.ext
 ·simp
 ·simp[h]
def Ywp{H:T O}{N n:Nat}{W:List Nat}{r:T V}{p q:Rat}{n1 n2 n3 n4:Int}{u1 u2 u3 u4:V}(hn:N+3<=n)(hW:ax N W=[])(b1:H.get N=some (.cells [.int .i64 n1,u1,.int .i64 n2,u2] 89 true))(b2:H.get (N+1)=some (.cells [.int .i64 n3,u3,.int .i64 n4,u4] 89 true))(b3:H.get (N+2)=some (.cells [.int .i64 0,.aa,.int .i64 0,.aa] 89 true))
  (s1:In H n (.agg [.int .i64 n1,u1]) p.num) (s2:In H n (.agg [.int .i64 n2,u2]) (p.den:Nat)) (s3:In H n (.agg [.int .i64 n3,u3]) q.num) (s4:In H n (.agg [.int .i64 n4,u4]) (q.den:Nat)) (l1:wl p.num<1000000000) (l2:wl (p.den:Nat)<1000000000) (l3:wl q.num<1000000000) (l4:wl (q.den:Nat)<1000000000) (a2:r.get 2=some (.ptr N 0)) (a3:r.get 3=some (.ptr (N+1) 0)) (a4:r.get 4=some (.ptr (N+2) 0)):
  Code A.C none A.wc ⟨r,34,[]⟩ ⟨H,n,W⟩ (fun e fr st=>e=.ret/\∃r',fr=⟨r',34,[]⟩/\r'.get 4=some (.ptr (N+2) 0)/\RW H N (p+q) st):=by
 rw[bl]
 have o1:=dZ s1
 have o2:=dZ s2
 have o3:=dZ s3
 have o4:=dZ s4
 unfold V.one at o1 o2 o3 o4
 have z1:N<n:=by omega
 have z2:N+1<n:=by omega
 simp[A.wc,a2,a3,a4,b1,b2,b3,z1,z2,aO,aF,ad]
 refine aA (Dq s1 s4 (by omega) (by omega)) ?_
 rintro v5 h1 m1 k1 q1
 have fu:=k1.le
 have f1:=(k1.get N (by omega)).trans b1
 have f2:=(k1.get (N+1) (by omega)).trans b2
 have f3:=(k1.get (N+2) (by omega)).trans b3
 have e1:N<m1:=by omega
 have e2:N+1<m1:=by omega
 simp[a2,a3,a4,f1,f2,e1,e2,aO,aF,ad]
 refine aA (Dq (s3.ae k1) (s2.ae k1) (by omega) (by omega)) ?_
 rintro v6 h2 m2 k2 q2
 have gY:=k2.le
 have w1:=HZ p.num ((q.den:Nat):Int)
 have w2:=HZ q.num ((p.den:Nat):Int)
 have w3:=HZ ((p.den:Nat):Int) ((q.den:Nat):Int)
 have w4:=ZF (p.num*((q.den:Nat):Int)) (q.num*((p.den:Nat):Int))
 simp[]
 refine aA (Ni (q1.ae k2) q2 (by omega) (by omega)) ?_
 rintro v7 h3 m3 k3 q3
 have jj:=k3.le
 have k13:=(k1.trans k2).trans k3
 have f4:=(k13.get N (by omega)).trans b1
 have f5:=(k13.get (N+1) (by omega)).trans b2
 have e3:N<m3:=by omega
 have e4:N+1<m3:=by omega
 simp[a2,a3,a4,f4,f5,e3,e4,aO,aF,ad]
 refine aA (Dq (s2.ae k13) (s4.ae k13) (by omega) (by omega)) ?_
 rintro v8 h4 m4 k4 q4
 have tN:=k4.le
 have k14:=k13.trans k4
 have hd:((p.den:Nat):Int)*((q.den:Nat):Int)≠0:=by
  have:=p.den_nz
  have:=q.den_nz
  exact Jg (by omega) (by omega)
 simp[]
 refine aA (Zy (q3.ae k4) q4 hd (by omega) (by omega)) ?_
 rintro v9 h5 m5 k5 hv
 have tn:((p.den:Nat):Int)≠0:=by have:=p.den_nz;omega
 have sI:((q.den:Nat):Int)≠0:=by have:=q.den_nz;omega
 rw[<-Rat.divInt_add_divInt _ _ tn sI,Cd,Cd]at hv
 obtain⟨n5,u5,n6,u6,rfl,t1,t2⟩:=hv
 have o5:=dZ t1
 have o6:=dZ t2
 unfold V.one at o5 o6
 have Ia:=k5.le
 have k15:=k14.trans k5
 have f6:=(k15.get (N+2) (by omega)).trans b3
 have e5:N+2<m5:=by omega
 simp[a4,f6,e5,aO,aF,ad,bC,o5,o6,ct.cv]
 have pG:¬N+2<N:=by omega
 refine⟨by simp[ax,hW,pG],fun i hi=>?_,by show N+3<=m5;omega,n5,u5,n6,u6,by show T.get (T.set _ _ _) _=_;rw[T.ag,av rfl],n5,u5,n6,u6,rfl,t1.aK (i:=N+2) f6 oK rfl,t2.aK (i:=N+2) f6 oK rfl⟩
 show T.get (T.set _ _ _) _=_
 rw[T.ag,ak (by omega),k15.get i (by omega)]
def Yf5{x y:V}{p q:Rat}{h:T O}{N:Nat}(hx:Fc h N x p)(hy:Fc h N y q)(l1:wl p.num<1000000000)(l2:wl (p.den:Nat)<1000000000)(l3:wl q.num<1000000000)(l4:wl (q.den:Nat)<1000000000):Fn A.C 75 [x,y] h N (fun v h' n'=>Fc h' n' v (p+q)):=by
 intro w
 rw[aR,A.k75 (by simp)]
 have mH:=hx
 have xH:=hy
 obtain⟨n1,u1,n2,u2,rfl,s1,s2⟩:=hx
 obtain⟨n3,u3,n4,u4,rfl,s3,s4⟩:=hy
 have o1:=dZ s1
 have o2:=dZ s2
 have o3:=dZ s3
 have o4:=dZ s4
 unfold V.one at o1 o2 o3 o4
 have kB:ab h N (((h.set N (.cells [.int .i64 n1,u1,.int .i64 n2,u2] 89 true)).set (N+1) (.cells [.int .i64 n3,u3,.int .i64 n4,u4] 89 true)).set (N+2) (.cells [.int .i64 0,.aa,.int .i64 0,.aa] 89 true)) (N+3):=aN (aN (aN ab.refl _) _) _
 simp[A.b75,aO,aF,ad,o1,o2,o3,o4]
 generalize jS:((h.set N (.cells [.int .i64 n1,u1,.int .i64 n2,u2] 89 true)).set (N+1) (.cells [.int .i64 n3,u3,.int .i64 n4,u4] 89 true)).set (N+2) (.cells [.int .i64 0,.aa,.int .i64 0,.aa] 89 true)=hB at*
 have b1:hB.get N=some (.cells [.int .i64 n1,u1,.int .i64 n2,u2] 89 true):=by rw[<-jS];simp
 have b2:hB.get (N+1)=some (.cells [.int .i64 n3,u3,.int .i64 n4,u4] 89 true):=by rw[<-jS];simp
 have b3:hB.get (N+2)=some (.cells [.int .i64 0,.aa,.int .i64 0,.aa] 89 true):=by rw[<-jS];simp
 refine aA (ZC (mH.ae kB)) ?_
 rintro _ h0 m0 k0 rfl
 have zaO:=k0.le
 have k0':=kB.trans k0
 have d1:=(k0.get N (by omega)).trans b1
 have d2:=(k0.get (N+1) (by omega)).trans b2
 have d3:=(k0.get (N+2) (by omega)).trans b3
 by_cases cp:p.den=1
 ·simp[cp,d1,d2,aO,aF]
  refine aA (ZC (xH.ae k0')) ?_
  rintro _ h1 m1 k1 rfl
  have fu:=k1.le
  have g1:=(k1.get N (by omega)).trans d1
  have g2:=(k1.get (N+1) (by omega)).trans d2
  have g3:=(k1.get (N+2) (by omega)).trans d3
  have k1':=k0'.trans k1
  by_cases cq:q.den=1
  ·simp[cq,g1,g2,aO,aF]
   refine aA (Ni (s1.ae k1') (s3.ae k1') (by omega) (by omega)) ?_
   rintro v5 h2 m2 k2 q1
   have gY:=k2.le
   simp[]
   refine aA (Zv q1) ?_
   rintro _ h3 m3 k3 ⟨n5,u5,n6,u6,rfl,t1,t2⟩
   have o5:=dZ t1
   have o6:=dZ t2
   unfold V.one at o5 o6
   have jj:=k3.le
   have f5:=(k3.get (N+2) (by omega)).trans ((k2.get (N+2) (by omega)).trans g3)
   simp[f5,aO,aF,ad,bC,o5,o6,ct.cv,aE]
   have kk:=(k1'.trans k2).trans k3
   have RX:p+q=((p.num+q.num:Int):Rat):=by rw[ZE cp,ZE cq];simp
   rw[RX]
   exact⟨kk.set (by omega),n5,u5,n6,u6,rfl,t1.aK (i:=N+2) f5 oK rfl,t2.aK (i:=N+2) f5 oK rfl⟩
  ·simp[cq,g1,g2,aO,aF]
   refine jy (Ywp (N:=N) (p:=p) (q:=q) (by omega) (by simp[ax]) g1 g2 g3 (s1.ae k1') (s2.ae k1') (s3.ae k1') (s4.ae k1') l1 l2 l3 l4 (by simp) (by simp) (by simp)) ?_
   rintro e fr ⟨H6,n6,W6⟩ ⟨rfl,r6,rfl,c4,q1,q2,q3,m5,v5,m6,v6,q4,q5⟩
   simp only at q1 q2 q3 q4 q5
   simp[c4,q4,aO,aF,aE,q1]
   exact⟨⟨by omega,fun i hi=>(q2 i hi).trans (k1'.get i hi)⟩,q5⟩
 ·simp[cp,d1,d2,aO,aF]
  refine jy (Ywp (N:=N) (p:=p) (q:=q) (by omega) (by simp[ax]) d1 d2 d3 (s1.ae k0') (s2.ae k0') (s3.ae k0') (s4.ae k0') l1 l2 l3 l4 (by simp) (by simp) (by simp)) ?_
  rintro e fr ⟨H6,n6,W6⟩ ⟨rfl,r6,rfl,c4,q1,q2,q3,m5,v5,m6,v6,q4,q5⟩
  simp only at q1 q2 q3 q4 q5
  simp[c4,q4,aO,aF,aE,q1]
  exact⟨⟨by omega,fun i hi=>(q2 i hi).trans (k0'.get i hi)⟩,q5⟩
set_option maxHeartbeats 2000000
def A.b76:=A.q Tryz.f76
def A.k76:=@A.kk 76 22 [.cell 2 (some 4)] A.b76 (by kernel_rfl) rfl
def ZG{z:Int}{h:T O}{N:Nat}(hl:(aP z).length<=100000):Fn A.C 149 [.str (aP z)] h N (fun v h' n'=>In h' n' v z):=by
 have hb:(ar z.natAbs).length<=100000:=by
  unfold aP at hl
  split at hl<;>(try simp at hl)<;>omega
 have:=Ydy (s:=aP z) (h:=h) (N:=N) (by rw[JN];exact BJ _) (by rw[JN];exact hb)
 rw[Mk,JN,Hh]at this
 have e:(if decide (z<0)=true then -(z.natAbs:Int) else (z.natAbs:Int))=z:=by
  by_cases hz:z<0<;>simp[hz]<;>omega
 rw[e]at this
 exact this
def Yqc{q:Rat}{h:T O}{N:Nat}(l1:(aP q.num).length<=100000)(l2:(ar q.den).length<=100000):Fn A.C 76 [.str (aS q)] h N (fun v h' n'=>Fc h' n' v q):=by
 intro w
 have hc:=fun st=>Ym2 (s:=aS q) (st:=st) (by unfold aS;split<;>(try simp)<;>omega)
 rw[Ml]at hc
 have kB:=aN (ab.refl (h:=h) (n:=N)) (.cells [.int .i64 0,.aa,.int .i64 0,.aa] 89 true)
 rw[aR,A.k76 (by simp)]
 by_cases c1:q.den=1
 ·have ay:¬ah (aS q)<(aS q).length:=fun hx=>(C2 q).1 hx c1
  simp[A.b76,hc,ay]
  refine aA (ZG l1) ?_
  rintro v1 h1 m1 k1 q1
  simp[]
  refine aA (Zv q1) ?_
  rintro _ h3 m3 k3 ⟨n5,u5,n6,u6,rfl,t1,t2⟩
  have o5:=dZ t1
  have o6:=dZ t2
  unfold V.one at o5 o6
  have fu:=k1.le
  have jj:=k3.le
  have kk:=(kB.trans k1).trans k3
  have f5:=((k1.trans k3).get N (by omega))
  rw[T.ag,av rfl]at f5
  simp[f5,aO,aF,ad,bC,o5,o6,ct.cv,aE]
  rw[ZE c1]
  exact⟨kk.set (by omega),n5,u5,n6,u6,rfl,t1.aK f5 oK rfl,t2.aK f5 oK rfl⟩
 ·have ay:ah (aS q)<(aS q).length:=(C2 q).2 c1
  have hd:=Mm q c1
  have ZD:ar q.den=aP ((q.den:Nat):Int):=by unfold aP;rw[ak (by omega)];rfl
  rw[ZD]at l2 hd
  simp[A.b76,hc,ay,hd]
  refine aA (ZG l1) ?_
  rintro v1 h1 m1 k1 q1
  simp[]
  refine aA (ZG l2) ?_
  rintro v2 h2 m2 k2 q2
  obtain⟨n5,u5,rfl,AR⟩:=q1.cells
  obtain⟨n6,u6,rfl,HU⟩:=q2.cells
  have o5:=AR
  have o6:=HU
  unfold V.one at o5 o6
  have fu:=k1.le
  have gY:=k2.le
  have kk:=(kB.trans k1).trans k2
  have f5:=((k1.trans k2).get N (by omega))
  rw[T.ag,av rfl]at f5
  simp[f5,aO,aF,ad,bC,o5,o6,ct.cv,aE]
  exact⟨kk.set (by omega),n5,u5,n6,u6,rfl,(q1.ae k2).aK f5 oK rfl,q2.aK f5 oK rfl⟩
variable {N k:Nat} {h:T O} {x:V} {z:Int}
def A.b110:=A.q Tryz.f110
def A.k110:=@A.kk 110 6 [.tmp 2] A.b110 (by kernel_rfl) rfl
def A.b83:=A.q Tryz.f83
def A.k83:=@A.kk 83 11 [.tmp 2] A.b83 (by kernel_rfl) rfl
def A.b150:=A.q Tryz.f150
def A.k150:=@A.kk 150 13 [.tmp 2] A.b150 (by kernel_rfl) rfl
def A.b206:=A.q Tryz.f206
def A.k206:=@A.kk 206 25 [.tmp 2] A.b206 (by kernel_rfl) rfl
def Fc.parts{q:Rat}(s:Fc h N x q):∃n1 u1 n2 u2,x=.agg [.int .i64 n1,u1,.int .i64 n2,u2]/\In h N (.agg [.int .i64 n1,u1]) q.num/\In h N (.agg [.int .i64 n2,u2]) (q.den:Int)/\V.one u1=true/\V.one u2=true:=by
 obtain⟨n1,u1,n2,u2,rfl,s1,s2⟩:=s
 exact⟨n1,u1,n2,u2,rfl,s1,s2,dZ s1,dZ s2⟩
def Zyw{q:Rat}(hx:Fc h N x q):Fn A.C 110 [x] h N (fun v _ _=>v=.int .i64 (eF q.num)):=by
 intro w
 obtain⟨n1,u1,n2,u2,rfl,s1,s2,o1,o2⟩:=hx.parts
 unfold V.one at o1 o2
 rw[aR,A.k110 (by simp)]
 have k0:=(ab.refl (h:=h) (n:=N)).new (.cells [.int .i64 n1,u1,.int .i64 n2,u2] 89 true)
 simp[A.b110,aO,aF,ad,o1,o2]
 refine aA (Hy (s1.ae k0)) ?_
 rintro _ h1 m1 k1 rfl
 simp[aE]
 exact k0.trans k1
def Yli{n d:Nat}(hk:(aJ n).length=k+1)(hd:(aJ n)[k]?=some d):n<2^(64*k+aY d):=by
 have h1:=mV n
 have h2:=ES (b:=B) hd
 rw[fe (by omega),h1]at h2
 have h3:val B ((aJ n).take k)<B^k:=by
  have:=ET (b:=B) (l:=(aJ n).take k) (fun x hx=>rE n x (wW hx))
  rw[gD,pV (by omega)]at this;exact this
 have h4:d+1<=2^aY d:=RB d
 have h5:B^k*(d+1)<=B^k*2^aY d:=jr _ h4
 have h6:B^k=2^(64*k):=by rw[Nat.pow_mul];rfl
 rw[ke,<-h6]
 rw[tf]at h5
 omega
def Zwd{n b:Nat}(h:600<(ar n).length)(hb:n<2^b):1800<b:=by
 apply Classical.byContradiction
 intro hc
 obtain⟨M,hM⟩:∃M:Nat,M=600:=⟨_,rfl⟩
 have h1:n<2^(3*M):=eX hb (Mo (by omega))
 have h2:(2:Nat)^(3*M)<=10^M:=by
  rw[Nat.pow_mul]
  exact Gc (by decide) _
 have h3:=(PE (n:=n) (k:=M) (by omega)).2 (eX h1 h2)
 omega
def Yq9(hx:In h N x z)(hl:wl z<10000000000):Fn A.C 206 [x] h N (fun v _ _=>∃b:Nat,v=.int .i64 b/\z.natAbs<2^b):=by
 intro w
 obtain⟨n,u,rfl,hu⟩:=hx.cells
 have mQ:=hu
 unfold V.one at mQ
 have k0:=(ab.refl (h:=h) (n:=N)).new (.cells [.int .i64 n,u] 87 true)
 rw[aR,A.k206 (by simp)]
 simp[A.b206,aO,aF,ad,mQ]
 refine aA (Dd (hx.ae k0)) ?_
 rintro _ h1 m1 k1 ⟨u2,rfl,hw⟩
 have hlen:=Sl.len hw
 rw[bA]at hlen
 by_cases h0:(aJ z.natAbs).length=0
 ·rw[h0]at hlen
  have hz:z.natAbs=0:=by
   have:=mV z.natAbs
   rw[qE h0]at this
   simpa[val]using this.symm
  simp[hlen,aG,aE]
  exact⟨k0.trans k1,0,rfl,by omega⟩
 ·obtain⟨k,hk⟩:∃k,(aJ z.natAbs).length=k+1:=⟨(aJ z.natAbs).length-1,by omega⟩
  rw[hk]at hlen
  obtain⟨d,hd⟩:=bk (l:=aJ z.natAbs) (k:=k) (by omega)
  obtain⟨i,o,c,e,rw,q1,q2,q3,q4⟩:=Sl.at hw (fw hd)
  have Rz:d<18446744073709551616:=(rE _).get hd
  have wV:k+1<10000000000:=by
   have:=hl
   unfold wl at this
   omega
  have hbl:aY d<=64:=by
   apply Classical.byContradiction
   intro hc
   have h1:d≠0:=fun h=>by rw[h]at hc;simp[aY]at hc
   have h2:=JX h1
   have h3:=Mo (j:=64) (k:=aY d-1) (by omega)
   have h4:(2:Nat)^64=18446744073709551616:=by decide
   omega
  have c1:¬((k:Int)+1=0):=by omega
  have c2:bj .i64 ((k:Int)+1-1)=(k:Int):=by rw[cD (by omega) (by omega)];omega
  have c3:bj .i64 (64*(k:Int))=64*(k:Int):=cD (by omega) (by omega)
  have c4:bj .i64 (64*(k:Int)+(aY d:Nat))=64*(k:Int)+(aY d:Nat):=cD (by omega) (by omega)
  have c5:(k:Int)<(k:Int)+1:=by omega
  simp(disch:=omega) [hlen,aG,c1,c2,c3,c5,q1,q3,q4]
  refine aA (YQ Rz) ?_
  rintro _ h2 m2 k2 ⟨rfl,rfl,rfl⟩
  simp[c4,aE]
  exact⟨k0.trans k1,64*k+aY d,by simp,Yli hk hd⟩
def Ye9(hx:In h N x z)(hP:kZ h N)(hl:wl z<10000000000)(hd:(df z.natAbs).length<1000000000):Fn A.C 150 [x] h N (fun v _ _=>v=.bool (decide (600<(ar z.natAbs).length))):=by
 intro w
 obtain⟨n,u,rfl,hu⟩:=hx.cells
 have mQ:=hu
 unfold V.one at mQ
 have k0:=(ab.refl (h:=h) (n:=N)).new (.cells [.int .i64 n,u] 87 true)
 have g0:(h.set N (.cells [.int .i64 n,u] 87 true)).get N=some (.cells [.int .i64 n,u] 87 true):=by rw[T.ag,av rfl]
 rw[aR,A.k150 (by simp)]
 simp[A.b150,aO,aF,ad,mQ]
 refine aA (Yq9 (hx.ae k0) hl) ?_
 rintro _ h1 m1 k1 ⟨b,rfl,hb⟩
 have g1:=(k1.get N (by omega)).trans g0
 by_cases hbb:1800<b
 ·have Ib:(1800:Int)<(b:Int):=by omega
  simp[hbb,Ib,g1,aO,aF]
  refine aA (RV ((hx.ae k0).ae k1) ((hP.ae k0).ae k1) (by omega)) ?_
  rintro _ h2 m2 k2 rfl
  have ht:=fun st=>Zkj (s:=aP z) (st:=st)
  rw[JN]at ht
  simp[ht,aE]
  exact⟨(k0.trans k1).trans k2,by omega⟩
 ·have Ib:¬(1800:Int)<(b:Int):=by omega
  have Lj:¬600<(ar z.natAbs).length:=fun hc=>hbb (Zwd hc hb)
  simp[hbb,Ib,Lj,aE]
  exact k0.trans k1
def zt(h:z.natAbs<2^k):wl z<=k:=by
 have:=Ff (eX h (Gc (by decide) k))
 unfold wl at this ⊢
 rwa [dR]at this
def Yf2{q:Rat}(hx:Fc h N x q)(hP:kZ h N)(hq:Qb k q)(hk:k<=400000000):Fn A.C 83 [x] h N (fun v _ _=>v=.bool (A6 q)):=by
 intro w
 obtain⟨n1,u1,n2,u2,rfl,s1,s2,o1,o2⟩:=hx.parts
 unfold V.one at o1 o2
 have k0:=(ab.refl (h:=h) (n:=N)).new (.cells [.int .i64 n1,u1,.int .i64 n2,u2] 89 true)
 have g0:(h.set N (.cells [.int .i64 n1,u1,.int .i64 n2,u2] 89 true)).get N=some (.cells [.int .i64 n1,u1,.int .i64 n2,u2] 89 true):=by rw[T.ag,av rfl]
 have l1:=Mp hq.1
 have l2:=Mp hq.2
 have z1:=zt hq.1
 have z2:=zt (z:=(q.den:Int)) (k:=k) (by rw[dR];exact hq.2)
 rw[aR,A.k83 (by simp)]
 simp[A.b83,aO,aF,ad,o1,o2]
 refine aA (Ye9 (s1.ae k0) (hP.ae k0) (by omega) (by omega)) ?_
 rintro _ h1 m1 k1 rfl
 have g1:=(k1.get N (by omega)).trans g0
 unfold A6
 by_cases c1:600<(ar q.num.natAbs).length
 ·simp[c1,aE]
  exact k0.trans k1
 ·simp[c1,g1,aO,aF]
  refine aA (Ye9 ((s2.ae k0).ae k1) ((hP.ae k0).ae k1) (by omega) (by rw[dR];omega)) ?_
  rintro _ h2 m2 k2 rfl
  simp[aE]
  exact(k0.trans k1).trans k2
end
end Go.Mx
