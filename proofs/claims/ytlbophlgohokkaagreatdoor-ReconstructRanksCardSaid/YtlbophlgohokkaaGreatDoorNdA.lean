/-
  num.Frac: Whole, F, Make.
-/
import Derived.Test.YtlbophlgohokkaaGreatDoorNbD
import Derived.Test.YtlbophlgohokkaaGreatDoorMxRg
set_option linter.all false
namespace Go.Mx
open Go Go.Proofs
variable {N:Nat} {a b:Int} {h:T O} {x:V}
set_option maxHeartbeats 2000000
set_option maxRecDepth 1000000
def A.b189:Zae:=sr [bx 1 112 0,⟨(some 2),.alloc [(.int .i64 0),.nilslice,(.int .i64 0),.nilslice] 114,none⟩]
 (.seq (.regD [lN 3 2 1,⟨(some 4),.call (.const (.func 190 [] [])) [(.const (.int .i64 1))],none⟩,⟨(some 5),.build [(.int .i64 0),.nilslice,(.int .i64 0),.nilslice] [(0,2,(.tmp 3)),(2,2,(.tmp 4))],none⟩,⟨none,.store 4 (.tmp 2) (.tmp 5),none⟩] [0,0,3,7])
 (.ret))
theorem A.c189:A.F 189=some ⟨6,[.cell 2 (some 4)],A.b189⟩:=by kernel_rfl
def A.k189:=@A.kk 189 _ _ _ A.c189 rfl
def A.b171:Zae:=sr [bx 1 114 0,⟨(some 2),.mov (.const (.bool false)),none⟩]
 (sr [fa 3 2 1,fa 4 1 3,ld 5 4,⟨(some 6),.bin .eql (.prim .slice) true (.tmp 5) (.const .nilslice),none⟩,mv 7 6,⟨(some 8),.faddr 2 (.tmp 1),(some (7,true))⟩,⟨(some 9),.faddr 0 (.tmp 8),(some (7,true))⟩,⟨(some 10),.load none (.tmp 9),(some (7,true))⟩,⟨(some 11),.bin .eql (.prim .int) true (.tmp 10) (.const (.int .i64 1)),(some (7,true))⟩,pf 12 7 11,mv 2 12]
 (.ret))
theorem A.c171:A.F 171=some ⟨13,[.tmp 2],A.b171⟩:=by kernel_rfl
def A.k171:=@A.kk 171 _ _ _ A.c171 rfl
def A.ta156_0:Zae:=sr [lN 24 2 2,lN 25 2 3,c2 26 216 24 25,⟨(some 5),.alloc [(.int .i64 0),.nilslice] 112,none⟩,⟨none,.store 2 (.tmp 5) (.tmp 26),none⟩]
 (.seq (.regD [lN 27 2 2,lN 28 2 5,c2 29 219 27 28,lN 30 2 3,lN 31 2 5,c2 32 219 30 31,⟨(some 33),.build [(.int .i64 0),.nilslice,(.int .i64 0),.nilslice] [(0,2,(.tmp 29)),(2,2,(.tmp 32))],none⟩,⟨none,.store 4 (.tmp 4) (.tmp 33),none⟩] [0,0,3,0,0,31,63,127])
 (.ret))
def A.ta156_1:Zae:=.seq (sr [fa 13 1 3,ld 14 13,⟨(some 15),.bin .eql (.prim .slice) true (.tmp 14) (.const .nilslice),none⟩,mv 16 15,⟨(some 17),.faddr 0 (.tmp 3),(some (16,true))⟩,⟨(some 18),.load none (.tmp 17),(some (16,true))⟩,⟨(some 19),.bin .eql (.prim .int) true (.tmp 18) (.const (.int .i64 1)),(some (16,true))⟩,pf 20 16 19]
 (cd 20
 (sr [lN 21 2 2,lN 22 2 3,⟨(some 23),.build [(.int .i64 0),.nilslice,(.int .i64 0),.nilslice] [(0,2,(.tmp 21)),(2,2,(.tmp 22))],none⟩,⟨none,.store 4 (.tmp 4) (.tmp 23),none⟩]
 (.ret))
 (.skip)))
 A.ta156_0
def A.b156:Zae:=sr [bx 2 112 0,bx 3 112 1,⟨(some 4),.alloc [(.int .i64 0),.nilslice,(.int .i64 0),.nilslice] 114,none⟩]
 (.seq (sr [lN 6 2 3,c1 7 199 6,bc 8 .lss 7 0]
 (cd 8
 (.regD [lN 9 2 2,c1 10 218 9,lN 11 2 3,c1 12 218 11,⟨none,.store 2 (.tmp 2) (.tmp 10),none⟩,⟨none,.store 2 (.tmp 3) (.tmp 12),none⟩] [0,1,0,7,15,31])
 (.skip)))
 A.ta156_1)
theorem A.c156:A.F 156=some ⟨34,[.cell 4 (some 4)],A.b156⟩:=by kernel_rfl
def A.k156:=@A.kk 156 _ _ _ A.c156 rfl
def Fc(h:T O)(N:Nat)(x:V)(q:Rat):Prop:=∃n1 u1 n2 u2,x=.agg [.int .i64 n1,u1,.int .i64 n2,u2]∧In h N (.agg [.int .i64 n1,u1]) q.num∧In h N (.agg [.int .i64 n2,u2]) (q.den:Nat)
theorem Fc.keep{h':T O}{N':Nat}{q:Rat}(s:Fc h N x q)(k:Keeps h N h' N'):Fc h' N' x q:=by
 obtain⟨n1,u1,n2,u2,rfl,s1,s2⟩:=s
 exact⟨n1,u1,n2,u2,rfl,s1.keep k,s2.keep k⟩
theorem Za0{n:Int}{u:V}{z:Int}(s:In h N (.agg [.int .i64 n,u]) z):V.one u=true:=by
 obtain⟨n',u',e,h1⟩:=s.cells
 simp at e
 rw[e.2];exact h1
theorem Ztc{z:Int}(hx:In h N x z):Fn A.C 189 [x] h N (fun v h' N'=>Fc h' N' v (z:Rat)):=by
 intro w
 rw[Zab,A.k189 (by simp)]
 obtain⟨n,u,rfl,hu⟩:=hx.cells
 have hu':=hu
 unfold V.one at hu'
 simp[A.b189,Zal,slc,hu']
 refine Zac Zvt ?_
 rintro _ h1 n1 k1 rfl
 have kle:=k1.le
 have g0:=k1.get (N+1) (by omega)
 simp at g0
 simp[Zal,slc,splice,Zak,g0,hu',Zap.chk,Ret]
 have kk:=(((kset (kset Keeps.refl (.cells [.int .i64 n,u] 112 true)) (.cells [.int .i64 0,.nilslice,.int .i64 0,.nilslice] 114 true)).trans k1).set (h:=h) (n:=N) (i:=N+1) (o:=.cells [.int .i64 n,u,.int .i64 1,.nilslice] 114 true) (by omega))
 refine⟨?_,kk,n,u,1,.nilslice,rfl,?_,?_⟩
 ·split<;>simp[Zaa]
 ·exact hx.keep kk
 ·exact In.small (by decide) (by decide)
theorem nu0:∀x∈[V.int .i64 0,V.nilslice,V.int .i64 0,V.nilslice],∀m,x≠.int .u64 m:=by
 intro x hx m hc
 simp at hx
 rcases hx with rfl|rfl|rfl|rfl<;>cases hc
structure MkE (H:T O) (N:Nat) (q:Rat) (st:St):Prop where
 w:Zaa N st.w=[]
 old:∀i,i<N→st.h.get i=H.get i
 le:N+3≤st.n
 ex:∃n1 u1 n2 u2,st.h.get (N+2)=some (.cells [.int .i64 n1,u1,.int .i64 n2,u2] 114 true)∧Fc st.h st.n (.agg [.int .i64 n1,u1,.int .i64 n2,u2]) q
theorem Yop{H:T O}{n:Nat}{W:List Nat}{r:T V}{n1 n2:Int}{u1 u2:V}(hn:N+3≤n)(hW:Zaa N W=[])(g1:H.get N=some (.cells [.int .i64 n1,u1] 112 true))(g2:H.get (N+1)=some (.cells [.int .i64 n2,u2] 112 true))(g3:H.get (N+2)=some (.cells [.int .i64 0,.nilslice,.int .i64 0,.nilslice] 114 true))
  (hx:In H n (.agg [.int .i64 n1,u1]) a) (hy:In H n (.agg [.int .i64 n2,u2]) b) (hb:0<b) (la:wl a<10000000) (lb:wl b<10000000) (a2:r.get 2=some (.ptr N 0)) (a3:r.get 3=some (.ptr (N+1) 0)) (a4:r.get 4=some (.ptr (N+2) 0)):
  Code A.C none A.ta156_0 ⟨r,34,[]⟩ ⟨H,n,W⟩ (fun e fr st=>e=.ret∧∃r',fr=⟨r',34,[]⟩∧r'.get 4=some (.ptr (N+2) 0)∧MkE H N (Rat.divInt a b) st):=by
 rw[Zah]
 have o1:=Za0 hx
 have o2:=Za0 hy
 unfold V.one at o1 o2
 simp[A.ta156_0,a2,a3,g1,g2,Zal,slc]
 refine Zac (Yfo hx hy la lb) ?_
 rintro _ h1 m1 k1 hg
 obtain⟨ng,ug,rfl,hug⟩:=hg.cells
 have hug':=hug
 unfold V.one at hug'
 have kle:=k1.le
 have g1':=(k1.get N (by omega)).trans g1
 have g2':=(k1.get (N+1) (by omega)).trans g2
 have g3':=(k1.get (N+2) (by omega)).trans g3
 have d1:¬N=m1:=by omega
 have d2:¬N+1=m1:=by omega
 have d3:¬N+2=m1:=by omega
 have e1:N<m1+1:=by omega
 have e2:N+1<m1+1:=by omega
 have e3:N+2<m1+1:=by omega
 have hgp:0<Int.gcd a b:=Int.gcd_pos_of_ne_zero_right a (by omega)
 obtain⟨G,hG⟩:∃G,Int.gcd a b=G:=⟨_,rfl⟩
 rw[hG]at hgp hg
 have hGb:(G:Int)≤b:=by
  rw[←hG]
  exact Int.le_of_dvd hb (Int.gcd_dvd_right ..)
 have lg:wl (G:Int)<10000000:=Ypx (Zrf (by omega)) lb
 have kS:Keeps h1 m1 ((h1.set m1 (.cells [.int .i64 0,.nilslice] 112 true)).set m1 (.cells [.int .i64 ng,ug] 112 true)) (m1+1):=(kset Keeps.refl _).set (Yoy _)
 simp[a2,g1',d1,Zal,slc,splice,Zak,hug',e1]
 refine Zac (Yfc ((hx.keep k1).keep kS) (hg.keep kS) (by omega) la lg) ?_
 rintro _ h2 m2 k2 hq1
 obtain⟨n3,u3,rfl,hu3⟩:=hq1.cells
 have o3:=hu3
 unfold V.one at o3
 have kT:=(k1.trans kS).trans k2
 have kle2:=kT.le
 have f1:=(kT.get N (by omega)).trans g1
 have f2:=(kT.get (N+1) (by omega)).trans g2
 have f3:=(kT.get (N+2) (by omega)).trans g3
 have f5:=k2.get m1 (by omega)
 rw[T.get_set,Yo4 rfl]at f5
 have kle3:=k2.le
 have e4:N+1<m2:=by omega
 have e5:m1<m2:=by omega
 have e6:N+2<m2:=by omega
 simp[a3,f2,f5,Zal,slc,e4,e5]
 refine Zac (Yfc ((hy.keep kT)) ((hg.keep kS).keep k2) (by omega) lb lg) ?_
 rintro _ h3 m3 k3 hq2
 obtain⟨n4,u4,rfl,hu4⟩:=hq2.cells
 have o4:=hu4
 unfold V.one at o4
 have kU:=kT.trans k3
 have kle4:=kU.le
 have f6:=(kU.get (N+2) (by omega)).trans g3
 have e7:N+2<m3:=by omega
 simp[a4,f6,splice,Zak,o3,o4,e7,Zap.chk]
 have hnum:(Rat.divInt a b).num=a/(G:Int):=by
  rw[Rat.num_divInt,Int.sign_eq_one_of_pos hb,Int.one_mul,Int.gcd_comm,hG]
 have hden:((Rat.divInt a b).den:Int)=b/(G:Int):=by
  rw[Rat.den_divInt,Yo0 (by omega),Int.gcd_comm,hG,Int.natCast_ediv,Int.natAbs_of_nonneg (by omega)]
 have n2':¬N+2<N:=by omega
 have n3':¬m1<N:=by omega
 refine⟨by simp[Zaa,hW,n2',n3'],fun i hi=>?_,by show N+3≤m3;omega,n3,u3,n4,u4,by show T.get (T.set _ _ _) _=_;rw[T.get_set,Yo4 rfl],n3,u3,n4,u4,rfl,?_,?_⟩
 ·show T.get (T.set _ _ _) _=_
  rw[T.get_set,Yo0 (by omega),kU.get i (by omega)]
 ·rw[hnum];exact(hq1.keep k3).setNU f6 nu0 rfl
 ·rw[hden];exact hq2.setNU f6 nu0 rfl
theorem Yoo{H:T O}{n:Nat}{W:List Nat}{r:T V}{n1 n2:Int}{u1 u2:V}(hn:N+3≤n)(hW:Zaa N W=[])(g1:H.get N=some (.cells [.int .i64 n1,u1] 112 true))(g2:H.get (N+1)=some (.cells [.int .i64 n2,u2] 112 true))(g3:H.get (N+2)=some (.cells [.int .i64 0,.nilslice,.int .i64 0,.nilslice] 114 true))
  (hx:In H n (.agg [.int .i64 n1,u1]) a) (hy:In H n (.agg [.int .i64 n2,u2]) b) (hb:0<b) (la:wl a<10000000) (lb:wl b<10000000) (a2:r.get 2=some (.ptr N 0)) (a3:r.get 3=some (.ptr (N+1) 0)) (a4:r.get 4=some (.ptr (N+2) 0)):
  Code A.C none A.ta156_1 ⟨r,34,[]⟩ ⟨H,n,W⟩ (fun e fr st=>e=.ret∧∃r',fr=⟨r',34,[]⟩∧r'.get 4=some (.ptr (N+2) 0)∧MkE H N (Rat.divInt a b) st):=by
 rw[Zah]
 have o1:=Za0 hx
 have o2:=Za0 hy
 unfold V.one at o1 o2
 have fin:∀r':T V,r'.get 2=some (.ptr N 0)→r'.get 3=some (.ptr (N+1) 0)→r'.get 4=some (.ptr (N+2) 0)→Run A.C [] (exR (A.C.code none A.ta156_0 ⟨r',34,[]⟩ ⟨H,n,W⟩)) (exQ (fun e fr st=>e=.ret∧∃r',fr=⟨r',34,[]⟩∧r'.get 4=some (.ptr (N+2) 0)∧MkE H N (Rat.divInt a b) st)):=fun r' b2 b3 b4=>Zah.1 (Yop hn hW g1 g2 g3 hx hy hb la lb b2 b3 b4)
 have hy0:=hy
 rcases hy0 with⟨e0,_,_⟩|⟨i,o,l,c,e0,_,_⟩
 ·simp only[V.agg.injEq,Ypi,V.int.injEq,true_and,and_true]at e0
  obtain⟨rfl,rfl⟩:=e0
  by_cases c1:n2=1
  ·subst c1
   simp[A.ta156_1,a2,a3,a4,g1,g2,g3,Zal,slc,splice,Za3,Zak,o1]
   have n2':¬N+2<N:=by omega
   refine⟨by simp[Zaa,hW,n2'],fun i hi=>?_,hn,n1,u1,1,.nilslice,by show T.get (T.set _ _ _) _=_;rw[T.get_set,Yo4 rfl],n1,u1,1,.nilslice,rfl,?_,?_⟩
   ·show T.get (T.set _ _ _) _=_
    rw[T.get_set,Yo0 (by omega)]
   ·rw[show (Rat.divInt a 1).num=a by rw[Rat.num_divInt];simp];exact hx.setNU g3 nu0 rfl
   ·rw[show ((Rat.divInt a 1).den:Int)=1 by rw[Rat.den_divInt];simp];exact In.small (by decide) (by decide)
  ·simp[A.ta156_1,a3,g2,Zal,Za3,c1]
   exact fin _ (by simp[a2]) (by simp[a3]) (by simp[a4])
 ·simp only[V.agg.injEq,Ypi,V.int.injEq,true_and,and_true]at e0
  obtain⟨rfl,rfl⟩:=e0
  simp[A.ta156_1,a3,g2,Zal,Za3]
  exact fin _ (by simp[a2]) (by simp[a3]) (by simp[a4])
theorem Zsl{y:V}(hx:In h N x a)(hy:In h N y b)(hb:b≠0)(la:wl a<10000000)(lb:wl b<10000000):Fn A.C 156 [x,y] h N (fun v h' n'=>Fc h' n' v (Rat.divInt a b)):=by
 intro w
 rw[Zab,A.k156 (by simp)]
 obtain⟨n1,u1,rfl,hu1⟩:=hx.cells
 obtain⟨n2,u2,rfl,hu2⟩:=hy.cells
 have o1:=hu1
 have o2:=hu2
 unfold V.one at o1 o2
 have kB:Keeps h N (((h.set N (.cells [.int .i64 n1,u1] 112 true)).set (N+1) (.cells [.int .i64 n2,u2] 112 true)).set (N+2) (.cells [.int .i64 0,.nilslice,.int .i64 0,.nilslice] 114 true)) (N+3):=kset (kset (kset Keeps.refl _) _) _
 have done:∀(r:T V) (h1:T O) (m:Nat) (W1:List Nat) (a' b' n1' n2':Int) (u1' u2':V),N+3≤m→Zaa N W1=[]→(∀i,i<N→h1.get i=h.get i)→h1.get N=some (.cells [.int .i64 n1',u1'] 112 true)→h1.get (N+1)=some (.cells [.int .i64 n2',u2'] 112 true)→h1.get (N+2)=some (.cells [.int .i64 0,.nilslice,.int .i64 0,.nilslice] 114 true)→
   In h1 m (.agg [.int .i64 n1',u1']) a'→In h1 m (.agg [.int .i64 n2',u2']) b'→0<b'→wl a'<10000000→wl b'<10000000→Rat.divInt a' b'=Rat.divInt a b→r.get 2=some (.ptr N 0)→r.get 3=some (.ptr (N+1) 0)→r.get 4=some (.ptr (N+2) 0)→
   Run A.C [.fin [.cell 4 (some 4)] ⟨h,N,w⟩] (exR (A.C.code none A.ta156_1 ⟨r,34,[]⟩ ⟨h1,m,W1⟩)) (Ybv (Ret (fun v h' n'=>Fc h' n' v (Rat.divInt a b)) h N w)):=by
  intro r h1 m W1 a' b' n1' n2' u1' u2' hm hW1 hO g1 g2 g3 i1 i2 hb' la' lb' hq b2 b3 b4
  refine Zbl (Yoo hm hW1 g1 g2 g3 i1 i2 hb' la' lb' b2 b3 b4) ?_
  rintro e fr ⟨H6,n6,W6⟩ ⟨rfl,r6,rfl,c4,q1,q2,q3,m1,v1,m2,v2,q4,q5⟩
  simp only at q1 q2 q3 q4 q5
  rw[hq]at q5
  simp[c4,q4,Zal,slc,Ret,q1]
  exact⟨⟨by omega,fun i hi=>(q2 i hi).trans (hO i hi)⟩,q5⟩
 simp[A.b156,Zal,slc,o1,o2]
 generalize hhB:((h.set N (.cells [.int .i64 n1,u1] 112 true)).set (N+1) (.cells [.int .i64 n2,u2] 112 true)).set (N+2) (.cells [.int .i64 0,.nilslice,.int .i64 0,.nilslice] 114 true)=hB at*
 have b1:hB.get N=some (.cells [.int .i64 n1,u1] 112 true):=by rw[←hhB];simp
 have b2:hB.get (N+1)=some (.cells [.int .i64 n2,u2] 112 true):=by rw[←hhB];simp
 have b3:hB.get (N+2)=some (.cells [.int .i64 0,.nilslice,.int .i64 0,.nilslice] 114 true):=by rw[←hhB];simp
 refine Zac (Zhy (hy.keep kB)) ?_
 rintro _ h1 m1 k1 rfl
 have kk:=kB.trans k1
 have kle:=kk.le
 have kle1:=k1.le
 have f1:=(k1.get N (by omega)).trans b1
 have f2:=(k1.get (N+1) (by omega)).trans b2
 have f3:=(k1.get (N+2) (by omega)).trans b3
 by_cases hbn:b<0
 ·have s1:sg3 b= -1:=by unfold sg3;rw[Yo4 hbn]
  have l1:N<m1:=by omega
  simp[s1,f1,l1,Zal,slc]
  refine Zac (Zno (hx.keep kk) (by omega)) ?_
  rintro _ h2 m2 k2 q1
  obtain⟨n3,u3,rfl,hu3⟩:=q1.cells
  have o3:=hu3
  unfold V.one at o3
  have kle2:=k2.le
  have f4:=(k2.get N (by omega)).trans f1
  have f5:=(k2.get (N+1) (by omega)).trans f2
  have f6:=(k2.get (N+2) (by omega)).trans f3
  have l2:N+1<m2:=by omega
  simp[f5,l2,Zal,slc]
  refine Zac (Zno ((hy.keep kk).keep k2) (by omega)) ?_
  rintro _ h3 m3 k3 q2
  obtain⟨n4,u4,rfl,hu4⟩:=q2.cells
  have o4:=hu4
  unfold V.one at o4
  have kle3:=k3.le
  have f7:=(k3.get N (by omega)).trans f4
  have f8:=(k3.get (N+1) (by omega)).trans f5
  have f9:=(k3.get (N+2) (by omega)).trans f6
  have l3:N+1<m3:=by omega
  have l4:N<m3:=by omega
  simp[f7,f8,l3,l4,splice,Zak,o3,o4,Zap.chk]
  have i1:=(q1.keep k3).setNU (c1:=[.int .i64 n3,u3]) (e1:=112) (w1:=true) f7 hx.nu rfl
  have i2:=q2.setNU (c1:=[.int .i64 n3,u3]) (e1:=112) (w1:=true) f7 hx.nu rfl
  have f8':((h3.set N (.cells [.int .i64 n3,u3] 112 true)):T O).get (N+1)=some (.cells [.int .i64 n2,u2] 112 true):=by rw[T.get_set,Yo0 (by omega)];exact f8
  have j1:=i1.setNU (c1:=[.int .i64 n4,u4]) (e1:=112) (w1:=true) f8' hy.nu rfl
  have j2:=i2.setNU (c1:=[.int .i64 n4,u4]) (e1:=112) (w1:=true) f8' hy.nu rfl
  have l5:¬N+1<N:=by omega
  exact done _ _ _ _ (-a) (-b) n3 n4 u3 u4 (by omega) (by simp[Zaa,l5]) (fun i hi=>by rw[T.get_set,Yo0 (by omega),T.get_set,Yo0 (by omega),k3.get i (by omega),k2.get i (by omega),kk.get i hi]) (by rw[T.get_set,Yo0 (by omega),T.get_set,Yo4 rfl]) (by rw[T.get_set,Yo4 rfl]) (by rw[T.get_set,Yo0 (by omega),T.get_set,Yo0 (by omega)];exact f9) j1 j2 (by omega) (by rw[Zpd];exact la) (by rw[Zpd];exact lb) (Rat.neg_divInt_neg a b) (by simp) (by simp) (by simp)
 ·have s1:sg3 b=1:=by unfold sg3;rw[Yo0 hbn,Yo0 hb]
  simp[s1]
  exact done _ _ _ _ a b n1 n2 u1 u2 (by omega) (by simp[Zaa]) (fun i hi=>kk.get i hi) f1 f2 f3 (hx.keep kk) (hy.keep kk) (by omega) la lb rfl (by simp) (by simp) (by simp)
set_option maxHeartbeats 2000000
def A.b90:Zae:=sr [bx 2 114 0,bx 3 114 1,⟨(some 4),.alloc [(.int .i64 0),.nilslice,(.int .i64 0),.nilslice] 114,none⟩]
 (.seq (.regD [fa 5 0 2,lN 6 2 5,fa 7 0 3,lN 8 2 7,c2 9 157 6 8,fa 10 2 2,lN 11 2 10,fa 12 2 3,lN 13 2 12,c2 14 157 11 13,c2 15 156 9 14,⟨none,.store 4 (.tmp 4) (.tmp 15),none⟩] [0,1,0,4,15,0,32,0,128,511,1023,2047])
 (.ret))
theorem A.c90:A.F 90=some ⟨16,[.cell 4 (some 4)],A.b90⟩:=by kernel_rfl
def A.k90:=@A.kk 90 _ _ _ A.c90 rfl
theorem Yaf{x y:V}{p q:Rat}{h:T O}{N:Nat}(hx:Fc h N x p)(hy:Fc h N y q)(l1:wl p.num<1000000)(l2:wl (p.den:Nat)<1000000)(l3:wl q.num<1000000)(l4:wl (q.den:Nat)<1000000):Fn A.C 90 [x,y] h N (fun v h' n'=>Fc h' n' v (p*q)):=by
 intro w
 rw[Zab,A.k90 (by simp)]
 obtain⟨n1,u1,n2,u2,rfl,s1,s2⟩:=hx
 obtain⟨n3,u3,n4,u4,rfl,s3,s4⟩:=hy
 have o1:=Za0 s1
 have o2:=Za0 s2
 have o3:=Za0 s3
 have o4:=Za0 s4
 unfold V.one at o1 o2 o3 o4
 have kB:Keeps h N (((h.set N (.cells [.int .i64 n1,u1,.int .i64 n2,u2] 114 true)).set (N+1) (.cells [.int .i64 n3,u3,.int .i64 n4,u4] 114 true)).set (N+2) (.cells [.int .i64 0,.nilslice,.int .i64 0,.nilslice] 114 true)) (N+3):=kset (kset (kset Keeps.refl _) _) _
 simp[A.b90,Zal,slc,o1,o2,o3,o4]
 generalize hhB:((h.set N (.cells [.int .i64 n1,u1,.int .i64 n2,u2] 114 true)).set (N+1) (.cells [.int .i64 n3,u3,.int .i64 n4,u4] 114 true)).set (N+2) (.cells [.int .i64 0,.nilslice,.int .i64 0,.nilslice] 114 true)=hB at*
 have b1:hB.get N=some (.cells [.int .i64 n1,u1,.int .i64 n2,u2] 114 true):=by rw[←hhB];simp
 have b2:hB.get (N+1)=some (.cells [.int .i64 n3,u3,.int .i64 n4,u4] 114 true):=by rw[←hhB];simp
 have b3:hB.get (N+2)=some (.cells [.int .i64 0,.nilslice,.int .i64 0,.nilslice] 114 true):=by rw[←hhB];simp
 refine Zac (Zi6 (s1.keep kB) (s3.keep kB) (by omega) (by omega)) ?_
 rintro v5 h1 m1 k1 q1
 have kle1:=k1.le
 have f1:=(k1.get N (by omega)).trans b1
 have f2:=(k1.get (N+1) (by omega)).trans b2
 have f3:=(k1.get (N+2) (by omega)).trans b3
 have e1:N<m1:=by omega
 have e2:N+1<m1:=by omega
 simp[f1,f2,e1,e2,Zal,slc]
 refine Zac (Zi6 ((s2.keep kB).keep k1) ((s4.keep kB).keep k1) (by omega) (by omega)) ?_
 rintro v6 h2 m2 k2 q2
 have kle2:=k2.le
 have f4:=(k2.get (N+2) (by omega)).trans f3
 simp[]
 have hd:((p.den:Nat):Int)*((q.den:Nat):Int)≠0:=by
  have:=p.den_nz
  have:=q.den_nz
  exact Yso (by omega) (by omega)
 refine Zac (Zsl (q1.keep k2) q2 hd ?_ ?_) ?_
 ·have:=Zk8 p.num q.num
  omega
 ·have:=Zk8 ((p.den:Nat):Int) ((q.den:Nat):Int)
  omega
 ·rintro v7 h3 m3 k3 hv
  rw[←Rat.divInt_mul_divInt,Yrp,Yrp]at hv
  obtain⟨n5,u5,n6,u6,rfl,t1,t2⟩:=hv
  have o5:=Za0 t1
  have o6:=Za0 t2
  unfold V.one at o5 o6
  have kle3:=k3.le
  have f5:=(k3.get (N+2) (by omega)).trans f4
  have e3:N+2<m3:=by omega
  simp[f5,e3,Zal,slc,splice,Zak,o5,o6,Zap.chk,Ret]
  have kk:=((kB.trans k1).trans k2).trans k3
  exact⟨kk.set (by omega),n5,u5,n6,u6,rfl,t1.setNU (i:=N+2) f5 nu0 rfl,t2.setNU (i:=N+2) f5 nu0 rfl⟩
theorem Yfm{x:V}{q:Rat}{h:T O}{N:Nat}(hx:Fc h N x q):Fn A.C 171 [x] h N (fun v _ _=>v=.bool (decide (q.den=1))):=by
 intro w
 rw[Zab,A.k171 (by simp)]
 obtain⟨n1,u1,n2,u2,rfl,s1,s2⟩:=hx
 have o1:=Za0 s1
 have o2:=Za0 s2
 unfold V.one at o1 o2
 rcases s2 with⟨e0,_,_⟩|⟨i,o,l,c,e0,_,hz⟩
 ·simp only[V.agg.injEq,Ypi,V.int.injEq,true_and,and_true]at e0
  obtain⟨rfl,rfl⟩:=e0
  by_cases c1:q.den=1
  ·have c2:((q.den:Nat):Int)=1:=by omega
   simp[A.b171,Zal,o1,Za3,c1,Ret]
   exact kset Keeps.refl _
  ·have c2:¬((q.den:Nat):Int)=1:=by omega
   simp[A.b171,Zal,o1,Za3,c1,c2,Ret]
   exact kset Keeps.refl _
 ·simp only[V.agg.injEq,Ypi,V.int.injEq,true_and,and_true]at e0
  obtain⟨rfl,rfl⟩:=e0
  have c1:¬q.den=1:=by omega
  simp[A.b171,Zal,o1,Za3,c1,Ret]
  exact kset Keeps.refl _
set_option maxHeartbeats 2000000
variable {q:Rat}
set_option maxHeartbeats 4000000
def A.ta120_0:Zae:=.seq (.regD [fa 17 0 2,lN 18 2 17,fa 19 2 3,lN 20 2 19,c2 21 157 18 20,fa 22 0 3,lN 23 2 22,fa 24 2 2,lN 25 2 24,c2 26 157 23 25,c2 27 192 21 26,fa 28 2 2,lN 29 2 28,fa 30 2 3,lN 31 2 30,c2 32 157 29 31,c2 33 156 27 32,⟨none,.store 4 (.tmp 4) (.tmp 33),none⟩] [0,1,0,4,15,0,32,0,128,511,1023,0,2048,0,8192,32767,65535,131071])
 (.ret)
def A.b120:Zae:=sr [bx 2 114 0,bx 3 114 1,⟨(some 4),.alloc [(.int .i64 0),.nilslice,(.int .i64 0),.nilslice] 114,none⟩]
 (.seq (sr [lN 5 4 2,c1 6 171 5,mv 7 6,⟨(some 8),.load (some 4) (.tmp 3),(some (7,true))⟩,⟨(some 9),.call (.const (.func 171 [] [])) [(.tmp 8)],(some (7,true))⟩,pf 10 7 9]
 (cd 10
 (sr [fa 11 0 2,lN 12 2 11,fa 13 0 3,lN 14 2 13,c2 15 192 12 14,c1 16 189 15,⟨none,.store 4 (.tmp 4) (.tmp 16),none⟩]
 (.ret))
 (.skip)))
 A.ta120_0)
theorem A.c120:A.F 120=some ⟨34,[.cell 4 (some 4)],A.b120⟩:=by kernel_rfl
def A.k120:=@A.kk 120 _ _ _ A.c120 rfl
theorem Zk9(h:q.den=1):q=(q.num:Rat):=by
 apply Rat.ext
 ·simp
 ·simp[h]
theorem Ynb{H:T O}{N n:Nat}{W:List Nat}{r:T V}{p:Rat}{n1 n2 n3 n4:Int}{u1 u2 u3 u4:V}(hn:N+3≤n)(hW:Zaa N W=[])(b1:H.get N=some (.cells [.int .i64 n1,u1,.int .i64 n2,u2] 114 true))(b2:H.get (N+1)=some (.cells [.int .i64 n3,u3,.int .i64 n4,u4] 114 true))(b3:H.get (N+2)=some (.cells [.int .i64 0,.nilslice,.int .i64 0,.nilslice] 114 true))
  (s1:In H n (.agg [.int .i64 n1,u1]) p.num) (s2:In H n (.agg [.int .i64 n2,u2]) (p.den:Nat)) (s3:In H n (.agg [.int .i64 n3,u3]) q.num) (s4:In H n (.agg [.int .i64 n4,u4]) (q.den:Nat)) (l1:wl p.num<1000000) (l2:wl (p.den:Nat)<1000000) (l3:wl q.num<1000000) (l4:wl (q.den:Nat)<1000000) (a2:r.get 2=some (.ptr N 0)) (a3:r.get 3=some (.ptr (N+1) 0)) (a4:r.get 4=some (.ptr (N+2) 0)):
  Code A.C none A.ta120_0 ⟨r,34,[]⟩ ⟨H,n,W⟩ (fun e fr st=>e=.ret∧∃r',fr=⟨r',34,[]⟩∧r'.get 4=some (.ptr (N+2) 0)∧MkE H N (p+q) st):=by
 rw[Zah]
 have o1:=Za0 s1
 have o2:=Za0 s2
 have o3:=Za0 s3
 have o4:=Za0 s4
 unfold V.one at o1 o2 o3 o4
 have z1:N<n:=by omega
 have z2:N+1<n:=by omega
 simp[A.ta120_0,a2,a3,b1,b2,z1,z2,Zal,slc]
 refine Zac (Zi6 s1 s4 (by omega) (by omega)) ?_
 rintro v5 h1 m1 k1 q1
 have kle1:=k1.le
 have f1:=(k1.get N (by omega)).trans b1
 have f2:=(k1.get (N+1) (by omega)).trans b2
 have f3:=(k1.get (N+2) (by omega)).trans b3
 have e1:N<m1:=by omega
 have e2:N+1<m1:=by omega
 simp[a2,a3,f1,f2,e1,e2,Zal,slc]
 refine Zac (Zi6 (s3.keep k1) (s2.keep k1) (by omega) (by omega)) ?_
 rintro v6 h2 m2 k2 q2
 have kle2:=k2.le
 have w1:=Zk8 p.num ((q.den:Nat):Int)
 have w2:=Zk8 q.num ((p.den:Nat):Int)
 have w3:=Zk8 ((p.den:Nat):Int) ((q.den:Nat):Int)
 have w4:=Zxv (p.num*((q.den:Nat):Int)) (q.num*((p.den:Nat):Int))
 simp[]
 refine Zac (Zrb (q1.keep k2) q2 (by omega) (by omega)) ?_
 rintro v7 h3 m3 k3 q3
 have kle3:=k3.le
 have k13:=(k1.trans k2).trans k3
 have f4:=(k13.get N (by omega)).trans b1
 have f5:=(k13.get (N+1) (by omega)).trans b2
 have e3:N<m3:=by omega
 have e4:N+1<m3:=by omega
 simp[a2,a3,f4,f5,e3,e4,Zal,slc]
 refine Zac (Zi6 (s2.keep k13) (s4.keep k13) (by omega) (by omega)) ?_
 rintro v8 h4 m4 k4 q4
 have kle4:=k4.le
 have k14:=k13.trans k4
 have hd:((p.den:Nat):Int)*((q.den:Nat):Int)≠0:=by
  have:=p.den_nz
  have:=q.den_nz
  exact Yso (by omega) (by omega)
 simp[]
 refine Zac (Zsl (q3.keep k4) q4 hd (by omega) (by omega)) ?_
 rintro v9 h5 m5 k5 hv
 have hp0:((p.den:Nat):Int)≠0:=by have:=p.den_nz;omega
 have hq0:((q.den:Nat):Int)≠0:=by have:=q.den_nz;omega
 rw[←Rat.divInt_add_divInt _ _ hp0 hq0,Yrp,Yrp]at hv
 obtain⟨n5,u5,n6,u6,rfl,t1,t2⟩:=hv
 have o5:=Za0 t1
 have o6:=Za0 t2
 unfold V.one at o5 o6
 have kle5:=k5.le
 have k15:=k14.trans k5
 have f6:=(k15.get (N+2) (by omega)).trans b3
 have e5:N+2<m5:=by omega
 simp[a4,f6,e5,splice,Zak,o5,o6,Zap.chk]
 have n2':¬N+2<N:=by omega
 refine⟨by simp[Zaa,hW,n2'],fun i hi=>?_,by show N+3≤m5;omega,n5,u5,n6,u6,by show T.get (T.set _ _ _) _=_;rw[T.get_set,Yo4 rfl],n5,u5,n6,u6,rfl,t1.setNU (i:=N+2) f6 nu0 rfl,t2.setNU (i:=N+2) f6 nu0 rfl⟩
 show T.get (T.set _ _ _) _=_
 rw[T.get_set,Yo0 (by omega),k15.get i (by omega)]
theorem Yim{x y:V}{p:Rat}{h:T O}{N:Nat}(hx:Fc h N x p)(hy:Fc h N y q)(l1:wl p.num<1000000)(l2:wl (p.den:Nat)<1000000)(l3:wl q.num<1000000)(l4:wl (q.den:Nat)<1000000):Fn A.C 120 [x,y] h N (fun v h' n'=>Fc h' n' v (p+q)):=by
 intro w
 rw[Zab,A.k120 (by simp)]
 have hx0:=hx
 have hy0:=hy
 obtain⟨n1,u1,n2,u2,rfl,s1,s2⟩:=hx
 obtain⟨n3,u3,n4,u4,rfl,s3,s4⟩:=hy
 have o1:=Za0 s1
 have o2:=Za0 s2
 have o3:=Za0 s3
 have o4:=Za0 s4
 unfold V.one at o1 o2 o3 o4
 have kB:Keeps h N (((h.set N (.cells [.int .i64 n1,u1,.int .i64 n2,u2] 114 true)).set (N+1) (.cells [.int .i64 n3,u3,.int .i64 n4,u4] 114 true)).set (N+2) (.cells [.int .i64 0,.nilslice,.int .i64 0,.nilslice] 114 true)) (N+3):=kset (kset (kset Keeps.refl _) _) _
 simp[A.b120,Zal,slc,o1,o2,o3,o4]
 generalize hhB:((h.set N (.cells [.int .i64 n1,u1,.int .i64 n2,u2] 114 true)).set (N+1) (.cells [.int .i64 n3,u3,.int .i64 n4,u4] 114 true)).set (N+2) (.cells [.int .i64 0,.nilslice,.int .i64 0,.nilslice] 114 true)=hB at*
 have b1:hB.get N=some (.cells [.int .i64 n1,u1,.int .i64 n2,u2] 114 true):=by rw[←hhB];simp
 have b2:hB.get (N+1)=some (.cells [.int .i64 n3,u3,.int .i64 n4,u4] 114 true):=by rw[←hhB];simp
 have b3:hB.get (N+2)=some (.cells [.int .i64 0,.nilslice,.int .i64 0,.nilslice] 114 true):=by rw[←hhB];simp
 refine Zac (Yfm (hx0.keep kB)) ?_
 rintro _ h0 m0 k0 rfl
 have kle0:=k0.le
 have k0':=kB.trans k0
 have d1:=(k0.get N (by omega)).trans b1
 have d2:=(k0.get (N+1) (by omega)).trans b2
 have d3:=(k0.get (N+2) (by omega)).trans b3
 by_cases cp:p.den=1
 ·simp[cp,d2,Zal,slc]
  refine Zac (Yfm (hy0.keep k0')) ?_
  rintro _ h1 m1 k1 rfl
  have kle1:=k1.le
  have g1:=(k1.get N (by omega)).trans d1
  have g2:=(k1.get (N+1) (by omega)).trans d2
  have g3:=(k1.get (N+2) (by omega)).trans d3
  have k1':=k0'.trans k1
  by_cases cq:q.den=1
  ·simp[cq,g1,g2,Zal,slc]
   refine Zac (Zrb (s1.keep k1') (s3.keep k1') (by omega) (by omega)) ?_
   rintro v5 h2 m2 k2 q1
   have kle2:=k2.le
   simp[]
   refine Zac (Ztc q1) ?_
   rintro _ h3 m3 k3 ⟨n5,u5,n6,u6,rfl,t1,t2⟩
   have o5:=Za0 t1
   have o6:=Za0 t2
   unfold V.one at o5 o6
   have kle3:=k3.le
   have f5:=(k3.get (N+2) (by omega)).trans ((k2.get (N+2) (by omega)).trans g3)
   simp[f5,Zal,slc,splice,Zak,o5,o6,Ret]
   have kk:=(k1'.trans k2).trans k3
   have hpq:p+q=((p.num+q.num:Int):Rat):=by rw[Zk9 cp,Zk9 cq];simp
   rw[hpq]
   exact⟨kk.set (by omega),n5,u5,n6,u6,rfl,t1.setNU (i:=N+2) f5 nu0 rfl,t2.setNU (i:=N+2) f5 nu0 rfl⟩
  ·simp[cq]
   refine Zbl (Ynb (N:=N) (p:=p) (q:=q) (by omega) (by simp[Zaa]) g1 g2 g3 (s1.keep k1') (s2.keep k1') (s3.keep k1') (s4.keep k1') l1 l2 l3 l4 (by simp) (by simp) (by simp)) ?_
   rintro e fr ⟨H6,n6,W6⟩ ⟨rfl,r6,rfl,c4,q1,q2,q3,m5,v5,m6,v6,q4,q5⟩
   simp only at q1 q2 q3 q4 q5
   simp[c4,q4,Zal,slc,Ret,q1]
   exact⟨⟨by omega,fun i hi=>(q2 i hi).trans (k1'.get i hi)⟩,q5⟩
 ·simp[cp]
  refine Zbl (Ynb (N:=N) (p:=p) (q:=q) (by omega) (by simp[Zaa]) d1 d2 d3 (s1.keep k0') (s2.keep k0') (s3.keep k0') (s4.keep k0') l1 l2 l3 l4 (by simp) (by simp) (by simp)) ?_
  rintro e fr ⟨H6,n6,W6⟩ ⟨rfl,r6,rfl,c4,q1,q2,q3,m5,v5,m6,v6,q4,q5⟩
  simp only at q1 q2 q3 q4 q5
  simp[c4,q4,Zal,slc,Ret,q1]
  exact⟨⟨by omega,fun i hi=>(q2 i hi).trans (k0'.get i hi)⟩,q5⟩
set_option maxHeartbeats 2000000
def A.b146:Zae:=sr [⟨(some 2),.alloc [(.int .i64 0),.nilslice,(.int .i64 0),.nilslice] 114,none⟩]
 (sr [mv 7 0,⟨(some 8),.call (.const (.func 210 [] [])) [(.tmp 7),(.const (.str [47]))],none⟩,mv 6 8,xt 9 6 0,xt 10 6 1,xt 11 6 2,mv 3 9,mv 4 10,mv 5 11]
 (.seq (sr [mv 12 5,⟨(some 13),.un .not (.tmp 12),none⟩]
 (cd 13
 (sr [mv 14 3,c1 15 211 14,c1 16 189 15,⟨none,.store 4 (.tmp 2) (.tmp 16),none⟩]
 (.ret))
 (.skip)))
 (sr [mv 17 3,c1 18 211 17,mv 19 4,c1 20 211 19,⟨(some 21),.build [(.int .i64 0),.nilslice,(.int .i64 0),.nilslice] [(0,2,(.tmp 18)),(2,2,(.tmp 20))],none⟩,⟨none,.store 4 (.tmp 2) (.tmp 21),none⟩]
 (.ret))))
theorem A.c146:A.F 146=some ⟨22,[.cell 2 (some 4)],A.b146⟩:=by kernel_rfl
def A.k146:=@A.kk 146 _ _ _ A.c146 rfl
theorem Zln{z:Int}{h:T O}{N:Nat}(hl:(decI z).length≤100000):Fn A.C 211 [.str (decI z)] h N (fun v h' n'=>In h' n' v z):=by
 have hb:(Za2 z.natAbs).length≤100000:=by
  unfold decI at hl
  split at hl<;>(try simp at hl)<;>omega
 have:=Zyq (s:=decI z) (h:=h) (N:=N) (by rw[Zff];exact Zcq _) (by rw[Zff];exact hb)
 rw[Zgm,Zff,Zeu]at this
 have e:(if decide (z<0)=true then -(z.natAbs:Int) else (z.natAbs:Int))=z:=by
  by_cases hz:z<0<;>simp[hz]<;>omega
 rw[e]at this
 exact this
theorem Yih{q:Rat}{h:T O}{N:Nat}(l1:(decI q.num).length≤100000)(l2:(Za2 q.den).length≤100000):Fn A.C 146 [.str (Zax q)] h N (fun v h' n'=>Fc h' n' v q):=by
 intro w
 have hc:=fun st=>Yfv (s:=Zax q) (st:=st) (by unfold Zax;split<;>(try simp)<;>omega)
 rw[Ziq]at hc
 have kB:=kset (Keeps.refl (h:=h) (n:=N)) (.cells [.int .i64 0,.nilslice,.int .i64 0,.nilslice] 114 true)
 rw[Zab,A.k146 (by simp)]
 by_cases c1:q.den=1
 ·have hlt:¬slashAt (Zax q)<(Zax q).length:=fun hx=>(Zir q).1 hx c1
  simp[A.b146,hc,hlt]
  refine Zac (Zln l1) ?_
  rintro v1 h1 m1 k1 q1
  simp[]
  refine Zac (Ztc q1) ?_
  rintro _ h3 m3 k3 ⟨n5,u5,n6,u6,rfl,t1,t2⟩
  have o5:=Za0 t1
  have o6:=Za0 t2
  unfold V.one at o5 o6
  have kle1:=k1.le
  have kle3:=k3.le
  have kk:=(kB.trans k1).trans k3
  have f5:=((k1.trans k3).get N (by omega))
  rw[T.get_set,Yo4 rfl]at f5
  simp[f5,Zal,slc,splice,Zak,o5,o6,Ret]
  rw[Zk9 c1]
  exact⟨kk.set (by omega),n5,u5,n6,u6,rfl,t1.setNU f5 nu0 rfl,t2.setNU f5 nu0 rfl⟩
 ·have hlt:slashAt (Zax q)<(Zax q).length:=(Zir q).2 c1
  have hd:=Zis q c1
  have hdI:Za2 q.den=decI ((q.den:Nat):Int):=by unfold decI;rw[Yo0 (by omega)];rfl
  rw[hdI]at l2 hd
  simp[A.b146,hc,hlt,hd]
  refine Zac (Zln l1) ?_
  rintro v1 h1 m1 k1 q1
  simp[]
  refine Zac (Zln l2) ?_
  rintro v2 h2 m2 k2 q2
  obtain⟨n5,u5,rfl,hu5⟩:=q1.cells
  obtain⟨n6,u6,rfl,hu6⟩:=q2.cells
  have o5:=hu5
  have o6:=hu6
  unfold V.one at o5 o6
  have kle1:=k1.le
  have kle2:=k2.le
  have kk:=(kB.trans k1).trans k2
  have f5:=((k1.trans k2).get N (by omega))
  rw[T.get_set,Yo4 rfl]at f5
  simp[f5,Zal,slc,splice,Zak,o5,o6,Ret]
  exact⟨kk.set (by omega),n5,u5,n6,u6,rfl,(q1.keep k2).setNU f5 nu0 rfl,q2.setNU f5 nu0 rfl⟩
def A.b128:Zae:=sr [bx 1 114 0,mc 2 0]
 (sr [fa 3 0 1,lN 4 2 3,c1 5 199 4,mv 2 5]
 (.ret))
theorem A.c128:A.F 128=some ⟨6,[.tmp 2],A.b128⟩:=by kernel_rfl
def A.k128:=@A.kk 128 _ _ _ A.c128 rfl
theorem Fc.parts{h:T O}{N:Nat}{x:V}{q:Rat}(s:Fc h N x q):∃n1 u1 n2 u2,x=.agg [.int .i64 n1,u1,.int .i64 n2,u2]∧In h N (.agg [.int .i64 n1,u1]) q.num∧In h N (.agg [.int .i64 n2,u2]) (q.den:Int)∧V.one u1=true∧V.one u2=true:=by
 obtain⟨n1,u1,n2,u2,rfl,s1,s2⟩:=s
 exact⟨n1,u1,n2,u2,rfl,s1,s2,Za0 s1,Za0 s2⟩
theorem Zor{x:V}{q:Rat}{h:T O}{N:Nat}(hx:Fc h N x q):Fn A.C 128 [x] h N (fun v _ _=>v=.int .i64 (sg3 q.num)):=by
 intro w
 obtain⟨n1,u1,n2,u2,rfl,s1,s2,o1,o2⟩:=hx.parts
 unfold V.one at o1 o2
 rw[Zab,A.k128 (by simp)]
 have k0:=(Keeps.refl (h:=h) (n:=N)).new (.cells [.int .i64 n1,u1,.int .i64 n2,u2] 114 true)
 simp[A.b128,Zal,slc,o1,o2]
 refine Zac (Zhy (s1.keep k0)) ?_
 rintro _ h1 m1 k1 rfl
 simp[Ret]
 exact k0.trans k1
theorem Yju{z:Int}{k:Nat}(h:z.natAbs<2^k):wl z≤k:=by
 have:=Zfj (Yo8 h (Yr5 (by decide) k))
 unfold wl at this ⊢
 rwa [Yo6]at this
end Go.Mx
