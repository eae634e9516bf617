/-num-/
import Derived.Test.YthekjfgljafnaaaGreatDoorNcC
set_option linter.all false
namespace Go.Mx
open Go Go.Proofs
variable {N:Nat} {a b z:Int} {h:T O} {x:V}
set_option maxHeartbeats 2000000
set_option maxRecDepth 1000000
noncomputable def A.b163:=A.q Tryz.f163
def A.k163:=@A.kk 163 6 [.cell 2 (some 4)] A.b163 (by kernel_rfl) rfl
noncomputable def A.b102:=A.q Tryz.f102
def A.k102:=@A.kk 102 6 [.cell 2 (some 4)] A.b102 (by kernel_rfl) rfl
noncomputable def A.b162:=A.q Tryz.f162
def A.k162:=@A.kk 162 13 [.tmp 2] A.b162 (by kernel_rfl) rfl
def A.ta165_0:Zaw:=sr [lN 24 2 2,lN 25 2 3,c2 26 193 24 25,ge 5 (.alloc [.int .i64 0,.nilslice] 109),gn (.store 2 (tq 5) (tq 26))]
 (.seq (.regD [lN 27 2 2,lN 28 2 5,c2 29 207 27 28,lN 30 2 3,lN 31 2 5,c2 32 207 30 31,ge 33 (.build [.int .i64 0,.nilslice,.int .i64 0,.nilslice] [(0,2,(tq 29)),(2,2,(tq 32))]),gn (.store 4 (tq 4) (tq 33))] [0,0,3,0,0,31,63,127])
 (.ret))
def A.ta165_1:Zaw:=.seq (sr [fa 13 1 3,ld 14 13,ge 15 (.bin .eql (.prim .slice) true (tq 14) (.const .nilslice)),mv 16 15,gy 17 16 (.faddr 0 (tq 3)),gy 18 16 (.load none (tq 17)),gy 19 16 (.bin .eql (.prim .int) true (tq 18) (kq 1)),pf 20 16 19]
 (cd 20
 (sr [lN 21 2 2,lN 22 2 3,ge 23 (.build [.int .i64 0,.nilslice,.int .i64 0,.nilslice] [(0,2,(tq 21)),(2,2,(tq 22))]),gn (.store 4 (tq 4) (tq 23))]
 (.ret))
 (.skip)))
 A.ta165_0
def A.b165:Zaw:=sr [bx 2 109 0,bx 3 109 1,ge 4 (.alloc [.int .i64 0,.nilslice,.int .i64 0,.nilslice] 111)]
 (.seq (sr [lN 6 2 3,c1 7 185 6,bc 8 .lss 7 0]
 (cd 8
 (.regD [lN 9 2 2,c1 10 188 9,lN 11 2 3,c1 12 188 11,gn (.store 2 (tq 2) (tq 10)),gn (.store 2 (tq 3) (tq 12))] [0,1,0,7,15,31])
 (.skip)))
 A.ta165_1)
def A.k165:=@A.kk 165 34 [.cell 4 (some 4)] A.b165 (by kernel_rfl) rfl
def Fc(h:T O)(N:Nat)(x:V)(q:Rat):Prop:=∃n1 u1 n2 u2,x=.agg [.int .i64 n1,u1,.int .i64 n2,u2]∧In h N (.agg [.int .i64 n1,u1]) q.num∧In h N (.agg [.int .i64 n2,u2]) (q.den:Nat)
def Fc.keep{h':T O}{N':Nat}{q:Rat}(s:Fc h N x q)(k:Keeps h N h' N'):Fc h' N' x q:=by
 obtain⟨n1,u1,n2,u2,rfl,s1,s2⟩:=s
 exact⟨n1,u1,n2,u2,rfl,s1.keep k,s2.keep k⟩
def Za1{n:Int}{u:V}(s:In h N (.agg [.int .i64 n,u]) z):V.one u=true:=by
 obtain⟨n',u',e,h1⟩:=s.cells
 simp at e
 rw[e.2];exact h1
def Zqe(hx:In h N x z):Fn A.C 163 [x] h N (fun v h' N'=>Fc h' N' v (z:Rat)):=by
 intro w
 rw[Zab,A.k163 (by simp)]
 obtain⟨n,u,rfl,hu⟩:=hx.cells
 have hu':=hu
 unfold V.one at hu'
 simp[A.b163,Zak,slc,splice,hu']
 refine Zac Zus ?_
 rintro _ h1 n1 k1 rfl
 have kle:=k1.le
 have g0:=k1.get (N+1) (by omega)
 simp at g0
 simp[Zak,slc,splice,Zal,g0,hu',Zao.chk,Ret]
 have kk:=(((kset (kset Keeps.refl (.cells [.int .i64 n,u] 109 true)) (.cells [.int .i64 0,.nilslice,.int .i64 0,.nilslice] 111 true)).trans k1).set (h:=h) (n:=N) (i:=N+1) (o:=.cells [.int .i64 n,u,.int .i64 1,.nilslice] 111 true) (by omega))
 refine⟨?_,kk,n,u,1,.nilslice,rfl,?_,?_⟩
 ·split<;>simp[Zaa]
 ·exact hx.keep kk
 ·exact In.small (by decide) (by decide)
def Yn5(h1: -9223372036854775808≤z)(h2:z<9223372036854775808){h:T O}{N:Nat}:Fn A.C 102 [.int .i64 z] h N (fun v h' N'=>Fc h' N' v (z:Rat)):=by
 intro w
 rw[Zab,A.k102 (by simp)]
 simp[A.b102]
 refine Zac Zus ?_
 rintro _ h3 n3 k3 rfl
 simp[]
 refine Zac (Zqe (In.small h1 h2)) ?_
 rintro _ h4 n4 k4 ⟨n1,u1,n2,u2,rfl,s1,s2⟩
 have kle:=k3.le
 have kle4:=k4.le
 have g0:=(k4.get N (by omega)).trans (k3.get N (by omega))
 simp at g0
 have o1:=Za1 s1
 have o2:=Za1 s2
 unfold V.one at o1 o2
 simp[Zak,slc,splice,Zal,g0,o1,o2,Zao.chk,Ret]
 have kk:=(((kset (Keeps.refl (h:=h) (n:=N)) (.cells [.int .i64 0,.nilslice,.int .i64 0,.nilslice] 111 true)).trans k3).trans k4).set (h:=h) (n:=N) (i:=N) (o:=.cells [.int .i64 n1,u1,.int .i64 n2,u2] 111 true) (by omega)
 have g1:=(k4.get N (by omega)).trans (k3.get N (by omega))
 rw[T.get_set,Yv6 rfl]at g1
 have hn:∀x∈[V.int .i64 0,V.nilslice,V.int .i64 0,V.nilslice],∀m,x≠.int .u64 m:=by
  intro x hx m hc
  simp at hx
  rcases hx with rfl|rfl|rfl|rfl<;>cases hc
 exact⟨kk,n1,u1,n2,u2,rfl,s1.setNU g1 hn rfl,s2.setNU g1 hn rfl⟩
def nu0:∀x∈[V.int .i64 0,V.nilslice,V.int .i64 0,V.nilslice],∀m,x≠.int .u64 m:=by
 intro x hx m hc
 simp at hx
 rcases hx with rfl|rfl|rfl|rfl<;>cases hc
structure MkE (H:T O) (N:Nat) (q:Rat) (st:St):Prop where
 w:Zaa N st.w=[]
 old:∀i,i<N→st.h.get i=H.get i
 le:N+3≤st.n
 ex:∃n1 u1 n2 u2,st.h.get (N+2)=some (.cells [.int .i64 n1,u1,.int .i64 n2,u2] 111 true)∧Fc st.h st.n (.agg [.int .i64 n1,u1,.int .i64 n2,u2]) q
def Yvp{H:T O}{n:Nat}{W:List Nat}{r:T V}{n1 n2:Int}{u1 u2:V}(hn:N+3≤n)(hW:Zaa N W=[])(g1:H.get N=some (.cells [.int .i64 n1,u1] 109 true))(g2:H.get (N+1)=some (.cells [.int .i64 n2,u2] 109 true))(g3:H.get (N+2)=some (.cells [.int .i64 0,.nilslice,.int .i64 0,.nilslice] 111 true))
  (hx:In H n (.agg [.int .i64 n1,u1]) a) (hy:In H n (.agg [.int .i64 n2,u2]) b) (hb:0<b) (la:wl a<10000000000) (lb:wl b<10000000000) (a2:r.get 2=some (.ptr N 0)) (a3:r.get 3=some (.ptr (N+1) 0)) (a4:r.get 4=some (.ptr (N+2) 0)):
  Code A.C none A.ta165_0 ⟨r,34,[]⟩ ⟨H,n,W⟩ (fun e fr st=>e=.ret∧∃r',fr=⟨r',34,[]⟩∧r'.get 4=some (.ptr (N+2) 0)∧MkE H N (Rat.divInt a b) st):=by
 rw[Zah]
 have o1:=Za1 hx
 have o2:=Za1 hy
 unfold V.one at o1 o2
 simp[A.ta165_0,a2,a3,a4,g1,g2,Zak,slc,splice]
 refine Zac (Ykm hx hy la lb) ?_
 rintro _ h1 m1 k1 hg
 obtain⟨ng,ug,rfl,hug⟩:=hg.cells
 have hug':=hug
 unfold V.one at hug'
 have kle:=k1.le
 have g1':=(k1.get N (by omega)).trans g1
 have g2':=(k1.get (N+1) (by omega)).trans g2
 have g3':=(k1.get (N+2) (by omega)).trans g3
 have d1:¬N=m1:=by omega
 have d2:¬N+1=m1:=by omega
 have d3:¬N+2=m1:=by omega
 have e1:N<m1+1:=by omega
 have e2:N+1<m1+1:=by omega
 have e3:N+2<m1+1:=by omega
 have hgp:0<Int.gcd a b:=Int.gcd_pos_of_ne_zero_right a (by omega)
 obtain⟨G,hG⟩:∃G,Int.gcd a b=G:=⟨_,rfl⟩
 rw[hG]at hgp hg
 have hGb:(G:Int)≤b:=by
  rw[←hG]
  exact Int.le_of_dvd hb (Int.gcd_dvd_right ..)
 have lg:wl (G:Int)<10000000000:=Yww (Ztu (by omega)) lb
 have kS:Keeps h1 m1 ((h1.set m1 (.cells [.int .i64 0,.nilslice] 109 true)).set m1 (.cells [.int .i64 ng,ug] 109 true)) (m1+1):=(kset Keeps.refl _).set (Yv5 _)
 simp[a2,a3,a4,g1',g2',d1,d2,d3,Zak,slc,splice,Zal,hug',o1,o2,e1,e2]
 refine Zac (Yj3 ((hx.keep k1).keep kS) (hg.keep kS) (by omega) la lg) ?_
 rintro _ h2 m2 k2 hq1
 obtain⟨n3,u3,rfl,hu3⟩:=hq1.cells
 have o3:=hu3
 unfold V.one at o3
 have kT:=(k1.trans kS).trans k2
 have kle2:=kT.le
 have f1:=(kT.get N (by omega)).trans g1
 have f2:=(kT.get (N+1) (by omega)).trans g2
 have f3:=(kT.get (N+2) (by omega)).trans g3
 have f5:=k2.get m1 (by omega)
 rw[T.get_set,Yv6 rfl]at f5
 have kle3:=k2.le
 have e4:N+1<m2:=by omega
 have e5:m1<m2:=by omega
 have e6:N+2<m2:=by omega
 simp[a2,a3,a4,f1,f2,f5,Zak,slc,splice,Zal,hug',o1,o2,o3,e4,e5]
 refine Zac (Yj3 ((hy.keep kT)) ((hg.keep kS).keep k2) (by omega) lb lg) ?_
 rintro _ h3 m3 k3 hq2
 obtain⟨n4,u4,rfl,hu4⟩:=hq2.cells
 have o4:=hu4
 unfold V.one at o4
 have kU:=kT.trans k3
 have kle4:=kU.le
 have f6:=(kU.get (N+2) (by omega)).trans g3
 have e7:N+2<m3:=by omega
 simp[a4,f6,Zak,slc,splice,Zal,o3,o4,e7,Zao.chk]
 have hnum:(Rat.divInt a b).num=a/(G:Int):=by
  rw[Rat.num_divInt,Int.sign_eq_one_of_pos hb,Int.one_mul,Int.gcd_comm,hG]
 have hden:((Rat.divInt a b).den:Int)=b/(G:Int):=by
  rw[Rat.den_divInt,Yv4 (by omega),Int.gcd_comm,hG,Int.natCast_ediv,Int.natAbs_of_nonneg (by omega)]
 have n2':¬N+2<N:=by omega
 have n3':¬m1<N:=by omega
 refine⟨by simp[Zaa,hW,n2',n3'],fun i hi=>?_,by show N+3≤m3;omega,n3,u3,n4,u4,by show T.get (T.set _ _ _) _=_;rw[T.get_set,Yv6 rfl],n3,u3,n4,u4,rfl,?_,?_⟩
 ·show T.get (T.set _ _ _) _=_
  rw[T.get_set,Yv4 (by omega),kU.get i (by omega)]
 ·rw[hnum];exact(hq1.keep k3).setNU f6 nu0 rfl
 ·rw[hden];exact hq2.setNU f6 nu0 rfl
def Yvo{H:T O}{n:Nat}{W:List Nat}{r:T V}{n1 n2:Int}{u1 u2:V}(hn:N+3≤n)(hW:Zaa N W=[])(g1:H.get N=some (.cells [.int .i64 n1,u1] 109 true))(g2:H.get (N+1)=some (.cells [.int .i64 n2,u2] 109 true))(g3:H.get (N+2)=some (.cells [.int .i64 0,.nilslice,.int .i64 0,.nilslice] 111 true))
  (hx:In H n (.agg [.int .i64 n1,u1]) a) (hy:In H n (.agg [.int .i64 n2,u2]) b) (hb:0<b) (la:wl a<10000000000) (lb:wl b<10000000000) (a2:r.get 2=some (.ptr N 0)) (a3:r.get 3=some (.ptr (N+1) 0)) (a4:r.get 4=some (.ptr (N+2) 0)):
  Code A.C none A.ta165_1 ⟨r,34,[]⟩ ⟨H,n,W⟩ (fun e fr st=>e=.ret∧∃r',fr=⟨r',34,[]⟩∧r'.get 4=some (.ptr (N+2) 0)∧MkE H N (Rat.divInt a b) st):=by
 rw[Zah]
 have o1:=Za1 hx
 have o2:=Za1 hy
 unfold V.one at o1 o2
 have fin:∀r':T V,r'.get 2=some (.ptr N 0)→r'.get 3=some (.ptr (N+1) 0)→r'.get 4=some (.ptr (N+2) 0)→Run A.C [] (exR (A.C.code none A.ta165_0 ⟨r',34,[]⟩ ⟨H,n,W⟩)) (exQ (fun e fr st=>e=.ret∧∃r',fr=⟨r',34,[]⟩∧r'.get 4=some (.ptr (N+2) 0)∧MkE H N (Rat.divInt a b) st)):=fun r' b2 b3 b4=>Zah.1 (Yvp hn hW g1 g2 g3 hx hy hb la lb b2 b3 b4)
 have hy0:=hy
 rcases hy0 with⟨e0,_,_⟩|⟨i,o,l,c,e0,_,_⟩
 ·simp only[V.agg.injEq,Ywu,V.int.injEq,true_and,and_true]at e0
  obtain⟨rfl,rfl⟩:=e0
  by_cases c1:n2=1
  ·subst c1
   simp[A.ta165_1,a2,a3,a4,g1,g2,g3,Zak,slc,splice,Zad,Zal,o1]
   have n2':¬N+2<N:=by omega
   refine⟨by simp[Zaa,hW,n2'],fun i hi=>?_,hn,n1,u1,1,.nilslice,by show T.get (T.set _ _ _) _=_;rw[T.get_set,Yv6 rfl],n1,u1,1,.nilslice,rfl,?_,?_⟩
   ·show T.get (T.set _ _ _) _=_
    rw[T.get_set,Yv4 (by omega)]
   ·rw[show (Rat.divInt a 1).num=a by rw[Rat.num_divInt];simp];exact hx.setNU g3 nu0 rfl
   ·rw[show ((Rat.divInt a 1).den:Int)=1 by rw[Rat.den_divInt];simp];exact In.small (by decide) (by decide)
  ·simp[A.ta165_1,a2,a3,a4,g1,g2,g3,Zak,slc,splice,Zad,Zal,o1,c1]
   exact fin _ (by simp[a2]) (by simp[a3]) (by simp[a4])
 ·simp only[V.agg.injEq,Ywu,V.int.injEq,true_and,and_true]at e0
  obtain⟨rfl,rfl⟩:=e0
  simp[A.ta165_1,a2,a3,a4,g1,g2,g3,Zak,slc,splice,Zad,Zal,o1]
  exact fin _ (by simp[a2]) (by simp[a3]) (by simp[a4])
def Zu7{y:V}(hx:In h N x a)(hy:In h N y b)(hb:b≠0)(la:wl a<10000000000)(lb:wl b<10000000000):Fn A.C 165 [x,y] h N (fun v h' n'=>Fc h' n' v (Rat.divInt a b)):=by
 intro w
 rw[Zab,A.k165 (by simp)]
 obtain⟨n1,u1,rfl,hu1⟩:=hx.cells
 obtain⟨n2,u2,rfl,hu2⟩:=hy.cells
 have o1:=hu1
 have o2:=hu2
 unfold V.one at o1 o2
 have kB:Keeps h N (((h.set N (.cells [.int .i64 n1,u1] 109 true)).set (N+1) (.cells [.int .i64 n2,u2] 109 true)).set (N+2) (.cells [.int .i64 0,.nilslice,.int .i64 0,.nilslice] 111 true)) (N+3):=kset (kset (kset Keeps.refl _) _) _
 have done:∀(r:T V) (h1:T O) (m:Nat) (W1:List Nat) (a' b' n1' n2':Int) (u1' u2':V),N+3≤m→Zaa N W1=[]→(∀i,i<N→h1.get i=h.get i)→h1.get N=some (.cells [.int .i64 n1',u1'] 109 true)→h1.get (N+1)=some (.cells [.int .i64 n2',u2'] 109 true)→h1.get (N+2)=some (.cells [.int .i64 0,.nilslice,.int .i64 0,.nilslice] 111 true)→
   In h1 m (.agg [.int .i64 n1',u1']) a'→In h1 m (.agg [.int .i64 n2',u2']) b'→0<b'→wl a'<10000000000→wl b'<10000000000→Rat.divInt a' b'=Rat.divInt a b→r.get 2=some (.ptr N 0)→r.get 3=some (.ptr (N+1) 0)→r.get 4=some (.ptr (N+2) 0)→
   Run A.C [.fin [.cell 4 (some 4)] ⟨h,N,w⟩] (exR (A.C.code none A.ta165_1 ⟨r,34,[]⟩ ⟨h1,m,W1⟩)) (Yf7 (Ret (fun v h' n'=>Fc h' n' v (Rat.divInt a b)) h N w)):=by
  intro r h1 m W1 a' b' n1' n2' u1' u2' hm hW1 hO g1 g2 g3 i1 i2 hb' la' lb' hq b2 b3 b4
  refine Zbd (Yvo hm hW1 g1 g2 g3 i1 i2 hb' la' lb' b2 b3 b4) ?_
  rintro e fr ⟨H6,n6,W6⟩ ⟨rfl,r6,rfl,c4,q1,q2,q3,m1,v1,m2,v2,q4,q5⟩
  simp only at q1 q2 q3 q4 q5
  rw[hq]at q5
  simp[c4,q4,Zak,slc,Ret,q1]
  exact⟨⟨by omega,fun i hi=>(q2 i hi).trans (hO i hi)⟩,q5⟩
 simp[A.b165,Zak,slc,splice,o1,o2]
 generalize hhB:((h.set N (.cells [.int .i64 n1,u1] 109 true)).set (N+1) (.cells [.int .i64 n2,u2] 109 true)).set (N+2) (.cells [.int .i64 0,.nilslice,.int .i64 0,.nilslice] 111 true)=hB at*
 have b1:hB.get N=some (.cells [.int .i64 n1,u1] 109 true):=by rw[←hhB];simp
 have b2:hB.get (N+1)=some (.cells [.int .i64 n2,u2] 109 true):=by rw[←hhB];simp
 have b3:hB.get (N+2)=some (.cells [.int .i64 0,.nilslice,.int .i64 0,.nilslice] 111 true):=by rw[←hhB];simp
 refine Zac (Zi2 (hy.keep kB)) ?_
 rintro _ h1 m1 k1 rfl
 have kk:=kB.trans k1
 have kle:=kk.le
 have kle1:=k1.le
 have f1:=(k1.get N (by omega)).trans b1
 have f2:=(k1.get (N+1) (by omega)).trans b2
 have f3:=(k1.get (N+2) (by omega)).trans b3
 by_cases hbn:b<0
 ·have s1:sg3 b= -1:=by unfold sg3;rw[Yv6 hbn]
  have l1:N<m1:=by omega
  simp[s1,f1,f2,l1,Zak,slc,splice]
  refine Zac (Zpq (hx.keep kk) (by omega)) ?_
  rintro _ h2 m2 k2 q1
  obtain⟨n3,u3,rfl,hu3⟩:=q1.cells
  have o3:=hu3
  unfold V.one at o3
  have kle2:=k2.le
  have f4:=(k2.get N (by omega)).trans f1
  have f5:=(k2.get (N+1) (by omega)).trans f2
  have f6:=(k2.get (N+2) (by omega)).trans f3
  have l2:N+1<m2:=by omega
  simp[f4,f5,l2,Zak,slc,splice]
  refine Zac (Zpq ((hy.keep kk).keep k2) (by omega)) ?_
  rintro _ h3 m3 k3 q2
  obtain⟨n4,u4,rfl,hu4⟩:=q2.cells
  have o4:=hu4
  unfold V.one at o4
  have kle3:=k3.le
  have f7:=(k3.get N (by omega)).trans f4
  have f8:=(k3.get (N+1) (by omega)).trans f5
  have f9:=(k3.get (N+2) (by omega)).trans f6
  have l3:N+1<m3:=by omega
  have l4:N<m3:=by omega
  simp[f7,f8,l3,l4,Zak,slc,splice,Zal,o3,o4,Zao.chk]
  have i1:=(q1.keep k3).setNU (c1:=[.int .i64 n3,u3]) (e1:=109) (w1:=true) f7 hx.nu rfl
  have i2:=q2.setNU (c1:=[.int .i64 n3,u3]) (e1:=109) (w1:=true) f7 hx.nu rfl
  have f8':((h3.set N (.cells [.int .i64 n3,u3] 109 true)):T O).get (N+1)=some (.cells [.int .i64 n2,u2] 109 true):=by rw[T.get_set,Yv4 (by omega)];exact f8
  have j1:=i1.setNU (c1:=[.int .i64 n4,u4]) (e1:=109) (w1:=true) f8' hy.nu rfl
  have j2:=i2.setNU (c1:=[.int .i64 n4,u4]) (e1:=109) (w1:=true) f8' hy.nu rfl
  have l5:¬N+1<N:=by omega
  exact done _ _ _ _ (-a) (-b) n3 n4 u3 u4 (by omega) (by simp[Zaa,l5]) (fun i hi=>by rw[T.get_set,Yv4 (by omega),T.get_set,Yv4 (by omega),k3.get i (by omega),k2.get i (by omega),kk.get i hi]) (by rw[T.get_set,Yv4 (by omega),T.get_set,Yv6 rfl]) (by rw[T.get_set,Yv6 rfl]) (by rw[T.get_set,Yv4 (by omega),T.get_set,Yv4 (by omega)];exact f9) j1 j2 (by omega) (by rw[Zro];exact la) (by rw[Zro];exact lb) (Rat.neg_divInt_neg a b) (by simp) (by simp) (by simp)
 ·have s1:sg3 b=1:=by unfold sg3;rw[Yv4 hbn,Yv4 hb]
  simp[s1]
  exact done _ _ _ _ a b n1 n2 u1 u2 (by omega) (by simp[Zaa]) (fun i hi=>kk.get i hi) f1 f2 f3 (hx.keep kk) (hy.keep kk) (by omega) la lb rfl (by simp) (by simp) (by simp)
set_option maxHeartbeats 2000000
noncomputable def A.b90:=A.q Tryz.f90
def A.k90:=@A.kk 90 16 [.cell 4 (some 4)] A.b90 (by kernel_rfl) rfl
def Zvg{x y:V}{p q:Rat}{h:T O}{N:Nat}(hx:Fc h N x p)(hy:Fc h N y q)(l1:wl p.num<1000000000)(l2:wl (p.den:Nat)<1000000000)(l3:wl q.num<1000000000)(l4:wl (q.den:Nat)<1000000000):Fn A.C 90 [x,y] h N (fun v h' n'=>Fc h' n' v (p*q)):=by
 intro w
 rw[Zab,A.k90 (by simp)]
 obtain⟨n1,u1,n2,u2,rfl,s1,s2⟩:=hx
 obtain⟨n3,u3,n4,u4,rfl,s3,s4⟩:=hy
 have o1:=Za1 s1
 have o2:=Za1 s2
 have o3:=Za1 s3
 have o4:=Za1 s4
 unfold V.one at o1 o2 o3 o4
 have kB:Keeps h N (((h.set N (.cells [.int .i64 n1,u1,.int .i64 n2,u2] 111 true)).set (N+1) (.cells [.int .i64 n3,u3,.int .i64 n4,u4] 111 true)).set (N+2) (.cells [.int .i64 0,.nilslice,.int .i64 0,.nilslice] 111 true)) (N+3):=kset (kset (kset Keeps.refl _) _) _
 simp[A.b90,Zak,slc,splice,o1,o2,o3,o4]
 generalize hhB:((h.set N (.cells [.int .i64 n1,u1,.int .i64 n2,u2] 111 true)).set (N+1) (.cells [.int .i64 n3,u3,.int .i64 n4,u4] 111 true)).set (N+2) (.cells [.int .i64 0,.nilslice,.int .i64 0,.nilslice] 111 true)=hB at*
 have b1:hB.get N=some (.cells [.int .i64 n1,u1,.int .i64 n2,u2] 111 true):=by rw[←hhB];simp
 have b2:hB.get (N+1)=some (.cells [.int .i64 n3,u3,.int .i64 n4,u4] 111 true):=by rw[←hhB];simp
 have b3:hB.get (N+2)=some (.cells [.int .i64 0,.nilslice,.int .i64 0,.nilslice] 111 true):=by rw[←hhB];simp
 refine Zac (Zht (s1.keep kB) (s3.keep kB) (by omega) (by omega)) ?_
 rintro v5 h1 m1 k1 q1
 have kle1:=k1.le
 have f1:=(k1.get N (by omega)).trans b1
 have f2:=(k1.get (N+1) (by omega)).trans b2
 have f3:=(k1.get (N+2) (by omega)).trans b3
 have e1:N<m1:=by omega
 have e2:N+1<m1:=by omega
 simp[f1,f2,e1,e2,Zak,slc,splice]
 refine Zac (Zht ((s2.keep kB).keep k1) ((s4.keep kB).keep k1) (by omega) (by omega)) ?_
 rintro v6 h2 m2 k2 q2
 have kle2:=k2.le
 have f4:=(k2.get (N+2) (by omega)).trans f3
 simp[]
 have hd:((p.den:Nat):Int)*((q.den:Nat):Int)≠0:=by
  have:=p.den_nz
  have:=q.den_nz
  exact Yzv (by omega) (by omega)
 refine Zac (Zu7 (q1.keep k2) q2 hd ?_ ?_) ?_
 ·have:=Zjs p.num q.num
  omega
 ·have:=Zjs ((p.den:Nat):Int) ((q.den:Nat):Int)
  omega
 ·rintro v7 h3 m3 k3 hv
  rw[←Rat.divInt_mul_divInt,Yx7,Yx7]at hv
  obtain⟨n5,u5,n6,u6,rfl,t1,t2⟩:=hv
  have o5:=Za1 t1
  have o6:=Za1 t2
  unfold V.one at o5 o6
  have kle3:=k3.le
  have f5:=(k3.get (N+2) (by omega)).trans f4
  have e3:N+2<m3:=by omega
  simp[f5,e3,Zak,slc,splice,Zal,o5,o6,Zao.chk,Ret]
  have kk:=((kB.trans k1).trans k2).trans k3
  exact⟨kk.set (by omega),n5,u5,n6,u6,rfl,t1.setNU (i:=N+2) f5 nu0 rfl,t2.setNU (i:=N+2) f5 nu0 rfl⟩
def Yd3{x:V}{q:Rat}{h:T O}{N:Nat}(hx:Fc h N x q):Fn A.C 162 [x] h N (fun v _ _=>v=.bool (decide (q.den=1))):=by
 intro w
 rw[Zab,A.k162 (by simp)]
 obtain⟨n1,u1,n2,u2,rfl,s1,s2⟩:=hx
 have o1:=Za1 s1
 have o2:=Za1 s2
 unfold V.one at o1 o2
 rcases s2 with⟨e0,_,_⟩|⟨i,o,l,c,e0,_,hz⟩
 ·simp only[V.agg.injEq,Ywu,V.int.injEq,true_and,and_true]at e0
  obtain⟨rfl,rfl⟩:=e0
  by_cases c1:q.den=1
  ·have c2:((q.den:Nat):Int)=1:=by omega
   simp[A.b162,Zak,slc,splice,o1,Zad,c1,c2,Ret]
   exact kset Keeps.refl _
  ·have c2:¬((q.den:Nat):Int)=1:=by omega
   simp[A.b162,Zak,slc,splice,o1,Zad,c1,c2,Ret]
   exact kset Keeps.refl _
 ·simp only[V.agg.injEq,Ywu,V.int.injEq,true_and,and_true]at e0
  obtain⟨rfl,rfl⟩:=e0
  have c1:¬q.den=1:=by omega
  simp[A.b162,Zak,slc,splice,o1,Zad,c1,Ret]
  exact kset Keeps.refl _
set_option maxHeartbeats 2000000
noncomputable def A.b195:=A.q Tryz.f195
def A.k195:=@A.kk 195 16 [.tmp 4] A.b195 (by kernel_rfl) rfl
noncomputable def A.b92:=A.q Tryz.f92
def A.k92:=@A.kk 92 16 [.tmp 2] A.b92 (by kernel_rfl) rfl
def Yn9{x y:V}{p q:Rat}{h:T O}{N:Nat}(hx:Fc h N x p)(hy:Fc h N y q)(l1:wl p.num<1000000000)(l2:wl (p.den:Nat)<1000000000)(l3:wl q.num<1000000000)(l4:wl (q.den:Nat)<1000000000):Fn A.C 195 [x,y] h N (fun v _ _=>v=.int .i64 (sg3 (p.num*(q.den:Nat)-q.num*(p.den:Nat)))):=by
 intro w
 rw[Zab,A.k195 (by simp)]
 obtain⟨n1,u1,n2,u2,rfl,s1,s2⟩:=hx
 obtain⟨n3,u3,n4,u4,rfl,s3,s4⟩:=hy
 have o1:=Za1 s1
 have o2:=Za1 s2
 have o3:=Za1 s3
 have o4:=Za1 s4
 unfold V.one at o1 o2 o3 o4
 have kB:Keeps h N ((h.set N (.cells [.int .i64 n1,u1,.int .i64 n2,u2] 111 true)).set (N+1) (.cells [.int .i64 n3,u3,.int .i64 n4,u4] 111 true)) (N+2):=kset (kset Keeps.refl _) _
 simp[A.b195,Zak,slc,splice,o1,o2,o3,o4]
 generalize hhB:(h.set N (.cells [.int .i64 n1,u1,.int .i64 n2,u2] 111 true)).set (N+1) (.cells [.int .i64 n3,u3,.int .i64 n4,u4] 111 true)=hB at*
 have b1:hB.get N=some (.cells [.int .i64 n1,u1,.int .i64 n2,u2] 111 true):=by rw[←hhB];simp
 have b2:hB.get (N+1)=some (.cells [.int .i64 n3,u3,.int .i64 n4,u4] 111 true):=by rw[←hhB];simp
 refine Zac (Zht (s1.keep kB) (s4.keep kB) (by omega) (by omega)) ?_
 rintro v5 h1 m1 k1 q1
 have kle1:=k1.le
 have f1:=(k1.get N (by omega)).trans b1
 have f2:=(k1.get (N+1) (by omega)).trans b2
 have e1:N<m1:=by omega
 have e2:N+1<m1:=by omega
 simp[f1,f2,e1,e2,Zak,slc,splice]
 refine Zac (Zht ((s3.keep kB).keep k1) ((s2.keep kB).keep k1) (by omega) (by omega)) ?_
 rintro v6 h2 m2 k2 q2
 have kle2:=k2.le
 simp[]
 refine Zac (Yky (q1.keep k2) q2 ?_ ?_) ?_
 ·have:=Zjs p.num ((q.den:Nat):Int)
  omega
 ·have:=Zjs q.num ((p.den:Nat):Int)
  omega
 ·rintro _ h3 m3 k3 rfl
  simp[Zao.chk,Ret]
  exact((kB.trans k1).trans k2).trans k3
def Yll{x:V}{q:Rat}{h:T O}{N:Nat}(hx:Fc h N x q)(hP:P10 h N)(l1:(Zc9 q.num.natAbs).length<1000000000)(l2:(Zc9 q.den).length<1000000000):Fn A.C 92 [x] h N (fun v _ _=>v=.str (Zax q)):=by
 intro w
 rw[Zab,A.k92 (by simp)]
 have hx0:=hx
 obtain⟨n1,u1,n2,u2,rfl,s1,s2⟩:=hx
 have o1:=Za1 s1
 have o2:=Za1 s2
 unfold V.one at o1 o2
 have kB:=kset (Keeps.refl (h:=h) (n:=N)) (.cells [.int .i64 n1,u1,.int .i64 n2,u2] 111 true)
 simp[A.b92,Zak,slc,splice,o1,o2]
 generalize hhB:h.set N (.cells [.int .i64 n1,u1,.int .i64 n2,u2] 111 true)=hB at*
 have b1:hB.get N=some (.cells [.int .i64 n1,u1,.int .i64 n2,u2] 111 true):=by rw[←hhB];simp
 refine Zac (Yd3 (hx0.keep kB)) ?_
 rintro _ h1 m1 k1 rfl
 have kle1:=k1.le
 have f1:=(k1.get N (by omega)).trans b1
 have kk:=kB.trans k1
 by_cases c1:q.den=1
 ·simp[c1,f1,Zak,slc]
  refine Zac (Zj4 (s1.keep kk) (hP.keep kk) (by omega)) ?_
  rintro _ h2 m2 k2 rfl
  simp[Ret,Zax,c1]
  exact kk.trans k2
 ·have l0:N<m1:=by omega
  simp[c1,f1,l0,Zak,slc]
  refine Zac (Zj4 (s1.keep kk) (hP.keep kk) (by omega)) ?_
  rintro _ h2 m2 k2 rfl
  have kle2:=k2.le
  have kk2:=kk.trans k2
  have f2:=(k2.get N (by omega)).trans f1
  have l3:N<m2:=by omega
  have hmx:IntKind.max .i64=9223372036854775807:=rfl
  have hS1:(decI q.num).length<2000000000:=by
   have h1:(decN q.num.natAbs).length≤(Zc9 q.num.natAbs).length+1:=by unfold decN;split<;>simp
   unfold decI
   split<;>simp<;>omega
  have hS2:(decN q.den).length<2000000000:=by
   have h1:(decN q.den).length≤(Zc9 q.den).length+1:=by unfold decN;split<;>simp
   omega
  have htx:Zax q=decI q.num++47::decN q.den:=by unfold Zax;rw[Yv4 c1]
  have hdI:decI ((q.den:Nat):Int)=decN q.den:=by unfold decI;rw[Yv4 (by omega)];rfl
  rw[htx]
  generalize decI q.num=S1 at*
  have g1:¬(9223372036854775807:Int)<(S1.length:Int)+1:=by omega
  simp[f2,l3,Zbm,hmx,g1,Zak,slc]
  refine Zac (Zj4 (s2.keep kk2) (hP.keep kk2) (by rw[Ywc];omega)) ?_
  rintro _ h3 m3 k3 rfl
  rw[hdI]
  generalize decN q.den=S2 at*
  have g2:¬(9223372036854775807:Int)<(S1.length:Int)+1+(S2.length:Int):=by omega
  simp[Zbm,hmx,g2,Zao.chk,Ret]
  exact kk2.trans k3
set_option maxHeartbeats 4000000
def A.ta83_0:Zaw:=.seq (.regD [fa 17 0 2,lN 18 2 17,fa 19 2 3,lN 20 2 19,c2 21 166 18 20,fa 22 0 3,lN 23 2 22,fa 24 2 2,lN 25 2 24,c2 26 166 23 25,c2 27 164 21 26,fa 28 2 2,lN 29 2 28,fa 30 2 3,lN 31 2 30,c2 32 166 29 31,c2 33 165 27 32,gn (.store 4 (tq 4) (tq 33))] [0,1,0,4,15,0,32,0,128,511,1023,0,2048,0,8192,32767,65535,131071])
 (.ret)
def A.b83:Zaw:=sr [bx 2 111 0,bx 3 111 1,ge 4 (.alloc [.int .i64 0,.nilslice,.int .i64 0,.nilslice] 111)]
 (.seq (sr [lN 5 4 2,c1 6 162 5,mv 7 6,gy 8 7 (.load (some 4) (tq 3)),gy 9 7 (.call (fq 162) [tq 8]),pf 10 7 9]
 (cd 10
 (sr [fa 11 0 2,lN 12 2 11,fa 13 0 3,lN 14 2 13,c2 15 164 12 14,c1 16 163 15,gn (.store 4 (tq 4) (tq 16))]
 (.ret))
 (.skip)))
 A.ta83_0)
def A.k83:=@A.kk 83 34 [.cell 4 (some 4)] A.b83 (by kernel_rfl) rfl
def Zmv{q:Rat}(h:q.den=1):q=(q.num:Rat):=by
 apply Rat.ext
 ·simp
 ·simp[h]
def Yud{H:T O}{N n:Nat}{W:List Nat}{r:T V}{p q:Rat}{n1 n2 n3 n4:Int}{u1 u2 u3 u4:V}(hn:N+3≤n)(hW:Zaa N W=[])(b1:H.get N=some (.cells [.int .i64 n1,u1,.int .i64 n2,u2] 111 true))(b2:H.get (N+1)=some (.cells [.int .i64 n3,u3,.int .i64 n4,u4] 111 true))(b3:H.get (N+2)=some (.cells [.int .i64 0,.nilslice,.int .i64 0,.nilslice] 111 true))
  (s1:In H n (.agg [.int .i64 n1,u1]) p.num) (s2:In H n (.agg [.int .i64 n2,u2]) (p.den:Nat)) (s3:In H n (.agg [.int .i64 n3,u3]) q.num) (s4:In H n (.agg [.int .i64 n4,u4]) (q.den:Nat)) (l1:wl p.num<1000000000) (l2:wl (p.den:Nat)<1000000000) (l3:wl q.num<1000000000) (l4:wl (q.den:Nat)<1000000000) (a2:r.get 2=some (.ptr N 0)) (a3:r.get 3=some (.ptr (N+1) 0)) (a4:r.get 4=some (.ptr (N+2) 0)):
  Code A.C none A.ta83_0 ⟨r,34,[]⟩ ⟨H,n,W⟩ (fun e fr st=>e=.ret∧∃r',fr=⟨r',34,[]⟩∧r'.get 4=some (.ptr (N+2) 0)∧MkE H N (p+q) st):=by
 rw[Zah]
 have o1:=Za1 s1
 have o2:=Za1 s2
 have o3:=Za1 s3
 have o4:=Za1 s4
 unfold V.one at o1 o2 o3 o4
 have z1:N<n:=by omega
 have z2:N+1<n:=by omega
 simp[A.ta83_0,a2,a3,a4,b1,b2,b3,z1,z2,Zak,slc,splice]
 refine Zac (Zht s1 s4 (by omega) (by omega)) ?_
 rintro v5 h1 m1 k1 q1
 have kle1:=k1.le
 have f1:=(k1.get N (by omega)).trans b1
 have f2:=(k1.get (N+1) (by omega)).trans b2
 have f3:=(k1.get (N+2) (by omega)).trans b3
 have e1:N<m1:=by omega
 have e2:N+1<m1:=by omega
 simp[a2,a3,a4,f1,f2,e1,e2,Zak,slc,splice]
 refine Zac (Zht (s3.keep k1) (s2.keep k1) (by omega) (by omega)) ?_
 rintro v6 h2 m2 k2 q2
 have kle2:=k2.le
 have w1:=Zjs p.num ((q.den:Nat):Int)
 have w2:=Zjs q.num ((p.den:Nat):Int)
 have w3:=Zjs ((p.den:Nat):Int) ((q.den:Nat):Int)
 have w4:=Ya1 (p.num*((q.den:Nat):Int)) (q.num*((p.den:Nat):Int))
 simp[]
 refine Zac (Ztn (q1.keep k2) q2 (by omega) (by omega)) ?_
 rintro v7 h3 m3 k3 q3
 have kle3:=k3.le
 have k13:=(k1.trans k2).trans k3
 have f4:=(k13.get N (by omega)).trans b1
 have f5:=(k13.get (N+1) (by omega)).trans b2
 have e3:N<m3:=by omega
 have e4:N+1<m3:=by omega
 simp[a2,a3,a4,f4,f5,e3,e4,Zak,slc,splice]
 refine Zac (Zht (s2.keep k13) (s4.keep k13) (by omega) (by omega)) ?_
 rintro v8 h4 m4 k4 q4
 have kle4:=k4.le
 have k14:=k13.trans k4
 have hd:((p.den:Nat):Int)*((q.den:Nat):Int)≠0:=by
  have:=p.den_nz
  have:=q.den_nz
  exact Yzv (by omega) (by omega)
 simp[]
 refine Zac (Zu7 (q3.keep k4) q4 hd (by omega) (by omega)) ?_
 rintro v9 h5 m5 k5 hv
 have hp0:((p.den:Nat):Int)≠0:=by have:=p.den_nz;omega
 have hq0:((q.den:Nat):Int)≠0:=by have:=q.den_nz;omega
 rw[←Rat.divInt_add_divInt _ _ hp0 hq0,Yx7,Yx7]at hv
 obtain⟨n5,u5,n6,u6,rfl,t1,t2⟩:=hv
 have o5:=Za1 t1
 have o6:=Za1 t2
 unfold V.one at o5 o6
 have kle5:=k5.le
 have k15:=k14.trans k5
 have f6:=(k15.get (N+2) (by omega)).trans b3
 have e5:N+2<m5:=by omega
 simp[a4,f6,e5,Zak,slc,splice,Zal,o5,o6,Zao.chk]
 have n2':¬N+2<N:=by omega
 refine⟨by simp[Zaa,hW,n2'],fun i hi=>?_,by show N+3≤m5;omega,n5,u5,n6,u6,by show T.get (T.set _ _ _) _=_;rw[T.get_set,Yv6 rfl],n5,u5,n6,u6,rfl,t1.setNU (i:=N+2) f6 nu0 rfl,t2.setNU (i:=N+2) f6 nu0 rfl⟩
 show T.get (T.set _ _ _) _=_
 rw[T.get_set,Yv4 (by omega),k15.get i (by omega)]
def Yei{x y:V}{p q:Rat}{h:T O}{N:Nat}(hx:Fc h N x p)(hy:Fc h N y q)(l1:wl p.num<1000000000)(l2:wl (p.den:Nat)<1000000000)(l3:wl q.num<1000000000)(l4:wl (q.den:Nat)<1000000000):Fn A.C 83 [x,y] h N (fun v h' n'=>Fc h' n' v (p+q)):=by
 intro w
 rw[Zab,A.k83 (by simp)]
 have hx0:=hx
 have hy0:=hy
 obtain⟨n1,u1,n2,u2,rfl,s1,s2⟩:=hx
 obtain⟨n3,u3,n4,u4,rfl,s3,s4⟩:=hy
 have o1:=Za1 s1
 have o2:=Za1 s2
 have o3:=Za1 s3
 have o4:=Za1 s4
 unfold V.one at o1 o2 o3 o4
 have kB:Keeps h N (((h.set N (.cells [.int .i64 n1,u1,.int .i64 n2,u2] 111 true)).set (N+1) (.cells [.int .i64 n3,u3,.int .i64 n4,u4] 111 true)).set (N+2) (.cells [.int .i64 0,.nilslice,.int .i64 0,.nilslice] 111 true)) (N+3):=kset (kset (kset Keeps.refl _) _) _
 simp[A.b83,Zak,slc,splice,o1,o2,o3,o4]
 generalize hhB:((h.set N (.cells [.int .i64 n1,u1,.int .i64 n2,u2] 111 true)).set (N+1) (.cells [.int .i64 n3,u3,.int .i64 n4,u4] 111 true)).set (N+2) (.cells [.int .i64 0,.nilslice,.int .i64 0,.nilslice] 111 true)=hB at*
 have b1:hB.get N=some (.cells [.int .i64 n1,u1,.int .i64 n2,u2] 111 true):=by rw[←hhB];simp
 have b2:hB.get (N+1)=some (.cells [.int .i64 n3,u3,.int .i64 n4,u4] 111 true):=by rw[←hhB];simp
 have b3:hB.get (N+2)=some (.cells [.int .i64 0,.nilslice,.int .i64 0,.nilslice] 111 true):=by rw[←hhB];simp
 refine Zac (Yd3 (hx0.keep kB)) ?_
 rintro _ h0 m0 k0 rfl
 have kle0:=k0.le
 have k0':=kB.trans k0
 have d1:=(k0.get N (by omega)).trans b1
 have d2:=(k0.get (N+1) (by omega)).trans b2
 have d3:=(k0.get (N+2) (by omega)).trans b3
 by_cases cp:p.den=1
 ·simp[cp,d1,d2,Zak,slc]
  refine Zac (Yd3 (hy0.keep k0')) ?_
  rintro _ h1 m1 k1 rfl
  have kle1:=k1.le
  have g1:=(k1.get N (by omega)).trans d1
  have g2:=(k1.get (N+1) (by omega)).trans d2
  have g3:=(k1.get (N+2) (by omega)).trans d3
  have k1':=k0'.trans k1
  by_cases cq:q.den=1
  ·simp[cq,g1,g2,Zak,slc]
   refine Zac (Ztn (s1.keep k1') (s3.keep k1') (by omega) (by omega)) ?_
   rintro v5 h2 m2 k2 q1
   have kle2:=k2.le
   simp[]
   refine Zac (Zqe q1) ?_
   rintro _ h3 m3 k3 ⟨n5,u5,n6,u6,rfl,t1,t2⟩
   have o5:=Za1 t1
   have o6:=Za1 t2
   unfold V.one at o5 o6
   have kle3:=k3.le
   have f5:=(k3.get (N+2) (by omega)).trans ((k2.get (N+2) (by omega)).trans g3)
   simp[f5,Zak,slc,splice,Zal,o5,o6,Zao.chk,Ret]
   have kk:=(k1'.trans k2).trans k3
   have hpq:p+q=((p.num+q.num:Int):Rat):=by rw[Zmv cp,Zmv cq];simp
   rw[hpq]
   exact⟨kk.set (by omega),n5,u5,n6,u6,rfl,t1.setNU (i:=N+2) f5 nu0 rfl,t2.setNU (i:=N+2) f5 nu0 rfl⟩
  ·simp[cq,g1,g2,Zak,slc]
   refine Zbd (Yud (N:=N) (p:=p) (q:=q) (by omega) (by simp[Zaa]) g1 g2 g3 (s1.keep k1') (s2.keep k1') (s3.keep k1') (s4.keep k1') l1 l2 l3 l4 (by simp) (by simp) (by simp)) ?_
   rintro e fr ⟨H6,n6,W6⟩ ⟨rfl,r6,rfl,c4,q1,q2,q3,m5,v5,m6,v6,q4,q5⟩
   simp only at q1 q2 q3 q4 q5
   simp[c4,q4,Zak,slc,Ret,q1]
   exact⟨⟨by omega,fun i hi=>(q2 i hi).trans (k1'.get i hi)⟩,q5⟩
 ·simp[cp,d1,d2,Zak,slc]
  refine Zbd (Yud (N:=N) (p:=p) (q:=q) (by omega) (by simp[Zaa]) d1 d2 d3 (s1.keep k0') (s2.keep k0') (s3.keep k0') (s4.keep k0') l1 l2 l3 l4 (by simp) (by simp) (by simp)) ?_
  rintro e fr ⟨H6,n6,W6⟩ ⟨rfl,r6,rfl,c4,q1,q2,q3,m5,v5,m6,v6,q4,q5⟩
  simp only at q1 q2 q3 q4 q5
  simp[c4,q4,Zak,slc,Ret,q1]
  exact⟨⟨by omega,fun i hi=>(q2 i hi).trans (k0'.get i hi)⟩,q5⟩
set_option maxHeartbeats 2000000
noncomputable def A.b84:=A.q Tryz.f84
def A.k84:=@A.kk 84 22 [.cell 2 (some 4)] A.b84 (by kernel_rfl) rfl
def Znd{z:Int}{h:T O}{N:Nat}(hl:(decI z).length≤100000):Fn A.C 168 [.str (decI z)] h N (fun v h' n'=>In h' n' v z):=by
 have hb:(decN z.natAbs).length≤100000:=by
  unfold decI at hl
  split at hl<;>(try simp at hl)<;>omega
 have:=Yce (s:=decI z) (h:=h) (N:=N) (by rw[Zfc];exact Zca _) (by rw[Zfc];exact hb)
 rw[Zf8,Zfc,Zcs]at this
 have e:(if decide (z<0)=true then -(z.natAbs:Int) else (z.natAbs:Int))=z:=by
  by_cases hz:z<0<;>simp[hz]<;>omega
 rw[e]at this
 exact this
def Yn2{q:Rat}{h:T O}{N:Nat}(l1:(decI q.num).length≤100000)(l2:(decN q.den).length≤100000):Fn A.C 84 [.str (Zax q)] h N (fun v h' n'=>Fc h' n' v q):=by
 intro w
 have hc:=fun st=>Ykx (s:=Zax q) (st:=st) (by unfold Zax;split<;>(try simp)<;>omega)
 rw[Zjx]at hc
 have kB:=kset (Keeps.refl (h:=h) (n:=N)) (.cells [.int .i64 0,.nilslice,.int .i64 0,.nilslice] 111 true)
 rw[Zab,A.k84 (by simp)]
 by_cases c1:q.den=1
 ·have hlt:¬slashAt (Zax q)<(Zax q).length:=fun hx=>(Zjy q).1 hx c1
  simp[A.b84,hc,hlt]
  refine Zac (Znd l1) ?_
  rintro v1 h1 m1 k1 q1
  simp[]
  refine Zac (Zqe q1) ?_
  rintro _ h3 m3 k3 ⟨n5,u5,n6,u6,rfl,t1,t2⟩
  have o5:=Za1 t1
  have o6:=Za1 t2
  unfold V.one at o5 o6
  have kle1:=k1.le
  have kle3:=k3.le
  have kk:=(kB.trans k1).trans k3
  have f5:=((k1.trans k3).get N (by omega))
  rw[T.get_set,Yv6 rfl]at f5
  simp[f5,Zak,slc,splice,Zal,o5,o6,Zao.chk,Ret]
  rw[Zmv c1]
  exact⟨kk.set (by omega),n5,u5,n6,u6,rfl,t1.setNU f5 nu0 rfl,t2.setNU f5 nu0 rfl⟩
 ·have hlt:slashAt (Zax q)<(Zax q).length:=(Zjy q).2 c1
  have hd:=Zjz q c1
  have hdI:decN q.den=decI ((q.den:Nat):Int):=by unfold decI;rw[Yv4 (by omega)];rfl
  rw[hdI]at l2 hd
  simp[A.b84,hc,hlt,hd]
  refine Zac (Znd l1) ?_
  rintro v1 h1 m1 k1 q1
  simp[]
  refine Zac (Znd l2) ?_
  rintro v2 h2 m2 k2 q2
  obtain⟨n5,u5,rfl,hu5⟩:=q1.cells
  obtain⟨n6,u6,rfl,hu6⟩:=q2.cells
  have o5:=hu5
  have o6:=hu6
  unfold V.one at o5 o6
  have kle1:=k1.le
  have kle2:=k2.le
  have kk:=(kB.trans k1).trans k2
  have f5:=((k1.trans k2).get N (by omega))
  rw[T.get_set,Yv6 rfl]at f5
  simp[f5,Zak,slc,splice,Zal,o5,o6,Zao.chk,Ret]
  exact⟨kk.set (by omega),n5,u5,n6,u6,rfl,(q1.keep k2).setNU f5 nu0 rfl,q2.setNU f5 nu0 rfl⟩
variable {N k:Nat} {h:T O} {x:V} {z:Int}
noncomputable def A.b116:=A.q Tryz.f116
def A.k116:=@A.kk 116 6 [.tmp 2] A.b116 (by kernel_rfl) rfl
noncomputable def A.b91:=A.q Tryz.f91
def A.k91:=@A.kk 91 11 [.tmp 2] A.b91 (by kernel_rfl) rfl
noncomputable def A.b169:=A.q Tryz.f169
def A.k169:=@A.kk 169 13 [.tmp 2] A.b169 (by kernel_rfl) rfl
noncomputable def A.b216:=A.q Tryz.f216
def A.k216:=@A.kk 216 25 [.tmp 2] A.b216 (by kernel_rfl) rfl
def Fc.parts{q:Rat}(s:Fc h N x q):∃n1 u1 n2 u2,x=.agg [.int .i64 n1,u1,.int .i64 n2,u2]∧In h N (.agg [.int .i64 n1,u1]) q.num∧In h N (.agg [.int .i64 n2,u2]) (q.den:Int)∧V.one u1=true∧V.one u2=true:=by
 obtain⟨n1,u1,n2,u2,rfl,s1,s2⟩:=s
 exact⟨n1,u1,n2,u2,rfl,s1,s2,Za1 s1,Za1 s2⟩
def Zxk{q:Rat}(hx:Fc h N x q):Fn A.C 116 [x] h N (fun v _ _=>v=.int .i64 (sg3 q.num)):=by
 intro w
 obtain⟨n1,u1,n2,u2,rfl,s1,s2,o1,o2⟩:=hx.parts
 unfold V.one at o1 o2
 rw[Zab,A.k116 (by simp)]
 have k0:=(Keeps.refl (h:=h) (n:=N)).new (.cells [.int .i64 n1,u1,.int .i64 n2,u2] 111 true)
 simp[A.b116,Zak,slc,splice,o1,o2]
 refine Zac (Zi2 (s1.keep k0)) ?_
 rintro _ h1 m1 k1 rfl
 simp[Ret]
 exact k0.trans k1
def Yjh{n d:Nat}(hk:(wds n).length=k+1)(hd:(wds n)[k]?=some d):n<2^(64*k+blen d):=by
 have h1:=Zbp n
 have h2:=Zb1 (b:=B) hd
 rw[Ywe (by omega),h1]at h2
 have h3:val B ((wds n).take k)<B^k:=by
  have:=Zlr (b:=B) (l:=(wds n).take k) (fun x hx=>Zds n x (Yxi hx))
  rw[Ywm,Yxh (by omega)]at this;exact this
 have h4:d+1≤2^blen d:=Zrh d
 have h5:B^k*(d+1)≤B^k*2^blen d:=Ywt _ h4
 have h6:B^k=2^(64*k):=by rw[Nat.pow_mul];rfl
 rw[Yxe,←h6]
 rw[Yyg]at h5
 omega
def Zu6{n b:Nat}(h:600<(decN n).length)(hb:n<2^b):1800<b:=by
 apply Classical.byContradiction
 intro hc
 obtain⟨M,hM⟩:∃M:Nat,M=600:=⟨_,rfl⟩
 have h1:n<2^(3*M):=Ywf hb (Znk (by omega))
 have h2:(2:Nat)^(3*M)≤10^M:=by
  rw[Nat.pow_mul]
  exact Yy9 (by decide) _
 have h3:=(Zb4 (n:=n) (k:=M) (by omega)).2 (Ywf h1 h2)
 omega
def Yo5(hx:In h N x z)(hl:wl z<10000000000):Fn A.C 216 [x] h N (fun v _ _=>∃b:Nat,v=.int .i64 b∧z.natAbs<2^b):=by
 intro w
 obtain⟨n,u,rfl,hu⟩:=hx.cells
 have hu':=hu
 unfold V.one at hu'
 have k0:=(Keeps.refl (h:=h) (n:=N)).new (.cells [.int .i64 n,u] 109 true)
 rw[Zab,A.k216 (by simp)]
 simp[A.b216,Zak,slc,splice,hu']
 refine Zac (Ze2 (hx.keep k0)) ?_
 rintro _ h1 m1 k1 ⟨u2,rfl,hw⟩
 have hlen:=Sl.len hw
 rw[Zaf]at hlen
 by_cases h0:(wds z.natAbs).length=0
 ·rw[h0]at hlen
  have hz:z.natAbs=0:=by
   have:=Zbp z.natAbs
   rw[Yws h0]at this
   simpa[val]using this.symm
  simp[hlen,Zad,Ret]
  exact⟨k0.trans k1,0,rfl,by omega⟩
 ·obtain⟨k,hk⟩:∃k,(wds z.natAbs).length=k+1:=⟨(wds z.natAbs).length-1,by omega⟩
  rw[hk]at hlen
  obtain⟨d,hd⟩:=Zae (l:=wds z.natAbs) (k:=k) (by omega)
  obtain⟨i,o,c,e,rw,q1,q2,q3,q4⟩:=Sl.at hw (Za9 hd)
  have hdB:d<18446744073709551616:=(Zds _).get hd
  have hkl:k+1<10000000000:=by
   have:=hl
   unfold wl at this
   omega
  have hbl:blen d≤64:=by
   apply Classical.byContradiction
   intro hc
   have h1:d≠0:=fun h=>by rw[h]at hc;simp[blen]at hc
   have h2:=Zlo h1
   have h3:=Znk (j:=64) (k:=blen d-1) (by omega)
   have h4:(2:Nat)^64=18446744073709551616:=by decide
   omega
  have c1:¬((k:Int)+1=0):=by omega
  have c2:Zar .i64 ((k:Int)+1-1)=(k:Int):=by rw[Zaj (by omega) (by omega)];omega
  have c3:Zar .i64 (64*(k:Int))=64*(k:Int):=Zaj (by omega) (by omega)
  have c4:Zar .i64 (64*(k:Int)+(blen d:Nat))=64*(k:Int)+(blen d:Nat):=Zaj (by omega) (by omega)
  have c5:(k:Int)<(k:Int)+1:=by omega
  simp(disch:=omega) [hlen,Zad,c1,c2,c3,c5,q1,q3,q4]
  refine Zac (Zqz hdB) ?_
  rintro _ h2 m2 k2 ⟨rfl,rfl,rfl⟩
  simp[c4,Ret]
  exact⟨k0.trans k1,64*k+blen d,by simp,Yjh hk hd⟩
def Ydl(hx:In h N x z)(hP:P10 h N)(hl:wl z<10000000000)(hd:(Zc9 z.natAbs).length<1000000000):Fn A.C 169 [x] h N (fun v _ _=>v=.bool (decide (600<(decN z.natAbs).length))):=by
 intro w
 obtain⟨n,u,rfl,hu⟩:=hx.cells
 have hu':=hu
 unfold V.one at hu'
 have k0:=(Keeps.refl (h:=h) (n:=N)).new (.cells [.int .i64 n,u] 109 true)
 have g0:(h.set N (.cells [.int .i64 n,u] 109 true)).get N=some (.cells [.int .i64 n,u] 109 true):=by rw[T.get_set,Yv6 rfl]
 rw[Zab,A.k169 (by simp)]
 simp[A.b169,Zak,slc,splice,hu']
 refine Zac (Yo5 (hx.keep k0) hl) ?_
 rintro _ h1 m1 k1 ⟨b,rfl,hb⟩
 have g1:=(k1.get N (by omega)).trans g0
 by_cases hbb:1800<b
 ·have hbb':(1800:Int)<(b:Int):=by omega
  simp[hbb,hbb',g1,Zak,slc]
  refine Zac (Zj4 ((hx.keep k0).keep k1) ((hP.keep k0).keep k1) (by omega)) ?_
  rintro _ h2 m2 k2 rfl
  have ht:=fun st=>Zj0 (s:=decI z) (st:=st)
  rw[Zfc]at ht
  simp[ht,Ret]
  exact⟨(k0.trans k1).trans k2,by omega⟩
 ·have hbb':¬(1800:Int)<(b:Int):=by omega
  have hno:¬600<(decN z.natAbs).length:=fun hc=>hbb (Zu6 hc hb)
  simp[hbb,hbb',hno,Ret]
  exact k0.trans k1
def Zl3(h:z.natAbs<2^k):wl z≤k:=by
 have:=Zfn (Ywf h (Yy9 (by decide) k))
 unfold wl at this ⊢
 rwa [Ywc]at this
def Yef{q:Rat}(hx:Fc h N x q)(hP:P10 h N)(hq:Qb k q)(hk:k≤400000000):Fn A.C 91 [x] h N (fun v _ _=>v=.bool (Yav q)):=by
 intro w
 obtain⟨n1,u1,n2,u2,rfl,s1,s2,o1,o2⟩:=hx.parts
 unfold V.one at o1 o2
 have k0:=(Keeps.refl (h:=h) (n:=N)).new (.cells [.int .i64 n1,u1,.int .i64 n2,u2] 111 true)
 have g0:(h.set N (.cells [.int .i64 n1,u1,.int .i64 n2,u2] 111 true)).get N=some (.cells [.int .i64 n1,u1,.int .i64 n2,u2] 111 true):=by rw[T.get_set,Yv6 rfl]
 have l1:=Zoe hq.1
 have l2:=Zoe hq.2
 have z1:=Zl3 hq.1
 have z2:=Zl3 (z:=(q.den:Int)) (k:=k) (by rw[Ywc];exact hq.2)
 rw[Zab,A.k91 (by simp)]
 simp[A.b91,Zak,slc,splice,o1,o2]
 refine Zac (Ydl (s1.keep k0) (hP.keep k0) (by omega) (by omega)) ?_
 rintro _ h1 m1 k1 rfl
 have g1:=(k1.get N (by omega)).trans g0
 unfold Yav
 by_cases c1:600<(decN q.num.natAbs).length
 ·simp[c1,Ret]
  exact k0.trans k1
 ·simp[c1,g1,Zak,slc]
  refine Zac (Ydl ((s2.keep k0).keep k1) ((hP.keep k0).keep k1) (by omega) (by rw[Ywc];omega)) ?_
  rintro _ h2 m2 k2 rfl
  simp[Ret]
  exact(k0.trans k1).trans k2
end Go.Mx
