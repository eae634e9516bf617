/-num-/
import Derived.Test.YtokjleejipaidaaGreatDoorNcE
set_option linter.all false
namespace Go.Mx
noncomputable section
open Go Go.Proofs
set_option maxHeartbeats 2000000
set_option maxRecDepth 1000000
def A.b176:=A.q Tryz.f176
def A.k176:=@A.kk 176 16 [.tmp 4] A.b176 (by kernel_rfl) rfl
def A.b88:=A.q Tryz.f88
def A.k88:=@A.kk 88 16 [.tmp 2] A.b88 (by kernel_rfl) rfl
def Yqf{x y:V}{p q:Rat}{h:T O}{N:Nat}(hx:Fc h N x p)(hy:Fc h N y q)(l1:wl p.num<1000000000)(l2:wl (p.den:Nat)<1000000000)(l3:wl q.num<1000000000)(l4:wl (q.den:Nat)<1000000000):Fn A.C 176 [x,y] h N (fun v _ _=>v=.int .i64 (dL (p.num*(q.den:Nat)-q.num*(p.den:Nat)))):=by
 intro w
 rw[aM,A.k176 (by simp)]
 obtain⟨n1,u1,n2,u2,rfl,s1,s2⟩:=hx
 obtain⟨n3,u3,n4,u4,rfl,s3,s4⟩:=hy
 have o1:=dG s1
 have o2:=dG s2
 have o3:=dG s3
 have o4:=dG s4
 unfold V.one at o1 o2 o3 o4
 have kB:ab h N ((h.set N (.cells [.int .i64 n1,u1,.int .i64 n2,u2] 108 true)).set (N+1) (.cells [.int .i64 n3,u3,.int .i64 n4,u4] 108 true)) (N+2):=aN (aN ab.refl _) _
 simp[A.b176,aR,aC,ae,o1,o2,o3,o4]
 generalize jb:(h.set N (.cells [.int .i64 n1,u1,.int .i64 n2,u2] 108 true)).set (N+1) (.cells [.int .i64 n3,u3,.int .i64 n4,u4] 108 true)=hB at*
 have b1:hB.get N=some (.cells [.int .i64 n1,u1,.int .i64 n2,u2] 108 true):=by rw[<-jb];simp
 have b2:hB.get (N+1)=some (.cells [.int .i64 n3,u3,.int .i64 n4,u4] 108 true):=by rw[<-jb];simp
 refine ay (Be (s1.ad kB) (s4.ad kB) (by omega) (by omega)) ?_
 rintro v5 h1 m1 k1 q1
 have eY:=k1.le
 have f1:=(k1.get N (by omega)).trans b1
 have f2:=(k1.get (N+1) (by omega)).trans b2
 have e1:N<m1:=by omega
 have e2:N+1<m1:=by omega
 simp[f1,f2,e1,e2,aR,aC,ae]
 refine ay (Be ((s3.ad kB).ad k1) ((s2.ad kB).ad k1) (by omega) (by omega)) ?_
 rintro v6 h2 m2 k2 q2
 have gI:=k2.le
 simp[]
 refine ay (Ymv (q1.ad k2) q2 ?_ ?_) ?_
 ·have:=DX p.num ((q.den:Nat):Int)
  omega
 ·have:=DX q.num ((p.den:Nat):Int)
  omega
 ·rintro _ h3 m3 k3 rfl
  simp[cn.cr,az]
  exact((kB.trans k1).trans k2).trans k3
def Ynl{x:V}{q:Rat}{h:T O}{N:Nat}(hx:Fc h N x q)(hP:lE h N)(l1:(de q.num.natAbs).length<1000000000)(l2:(de q.den).length<1000000000):Fn A.C 88 [x] h N (fun v _ _=>v=.str (aP q)):=by
 intro w
 rw[aM,A.k88 (by simp)]
 have nz:=hx
 obtain⟨n1,u1,n2,u2,rfl,s1,s2⟩:=hx
 have o1:=dG s1
 have o2:=dG s2
 unfold V.one at o1 o2
 have kB:=aN (ab.refl (h:=h) (n:=N)) (.cells [.int .i64 n1,u1,.int .i64 n2,u2] 108 true)
 simp[A.b88,aR,aC,ae,o1,o2]
 generalize jb:h.set N (.cells [.int .i64 n1,u1,.int .i64 n2,u2] 108 true)=hB at*
 have b1:hB.get N=some (.cells [.int .i64 n1,u1,.int .i64 n2,u2] 108 true):=by rw[<-jb];simp
 refine ay (ZX (nz.ad kB)) ?_
 rintro _ h1 m1 k1 rfl
 have eY:=k1.le
 have f1:=(k1.get N (by omega)).trans b1
 have kk:=kB.trans k1
 by_cases c1:q.den=1
 ·simp[c1,f1,aR,aC]
  refine ay (SC (s1.ad kk) (hP.ad kk) (by omega)) ?_
  rintro _ h2 m2 k2 rfl
  simp[az,aP,c1]
  exact kk.trans k2
 ·have l0:N<m1:=by omega
  simp[c1,f1,l0,aR,aC]
  refine ay (SC (s1.ad kk) (hP.ad kk) (by omega)) ?_
  rintro _ h2 m2 k2 rfl
  have gI:=k2.le
  have Om:=kk.trans k2
  have f2:=(k2.get N (by omega)).trans f1
  have l3:N<m2:=by omega
  have dm:IntKind.max .i64=9223372036854775807:=rfl
  have hS1:(aL q.num).length<2000000000:=by
   have h1:(aq q.num.natAbs).length<=(de q.num.natAbs).length+1:=by unfold aq;split<;>simp
   unfold aL
   split<;>simp<;>omega
  have hS2:(aq q.den).length<2000000000:=by
   have h1:(aq q.den).length<=(de q.den).length+1:=by unfold aq;split<;>simp
   omega
  have l7:aP q=aL q.num++47::aq q.den:=by unfold aP;rw[ak c1]
  have ZY:aL ((q.den:Nat):Int)=aq q.den:=by unfold aL;rw[ak (by omega)];rfl
  rw[l7]
  generalize aL q.num=S1 at*
  have g1:¬(9223372036854775807:Int)<(S1.length:Int)+1:=by omega
  simp[f2,l3,gE,dm,g1,aR,aC]
  refine ay (SC (s2.ad Om) (hP.ad Om) (by rw[dH];omega)) ?_
  rintro _ h3 m3 k3 rfl
  rw[ZY]
  generalize aq q.den=S2 at*
  have g2:¬(9223372036854775807:Int)<(S1.length:Int)+1+(S2.length:Int):=by omega
  simp[gE,dm,g2,cn.cr,az]
  exact Om.trans k3
set_option maxHeartbeats 4000000
def A.wO:bN:=.seq (.dc [fa 17 0 2,lN 18 2 17,fa 19 2 3,lN 20 2 19,c2 21 156 18 20,fa 22 0 3,lN 23 2 22,fa 24 2 2,lN 25 2 24,c2 26 156 23 25,c2 27 154 21 26,fa 28 2 2,lN 29 2 28,fa 30 2 3,lN 31 2 30,c2 32 156 29 31,c2 33 155 27 32,gn (.store 4 (tq 4) (tq 33))] [0,1,0,4,15,0,32,0,128,511,1023,0,2048,0,8192,32767,65535,131071])
 (.ret)
def A.b79:bN:=sr [bx 2 108 0,bx 3 108 1,ge 4 (.alloc [.int .i64 0,.aa,.int .i64 0,.aa] 108)]
 (.seq (sr [lN 5 4 2,c1 6 152 5,mv 7 6,gy 8 7 (.load (some 4) (tq 3)),gy 9 7 (.call (fq 152) [tq 8]),pf 10 7 9]
 (cd 10
 (sr [fa 11 0 2,lN 12 2 11,fa 13 0 3,lN 14 2 13,c2 15 154 12 14,c1 16 153 15,gn (.store 4 (tq 4) (tq 16))]
 (.ret))
 (.skip)))
 A.wO)
def A.k79:=@A.kk 79 34 [.cell 4 (some 4)] A.b79 (by kernel_rfl) rfl
def Z0{q:Rat}(h:q.den=1):q=(q.num:Rat):=by
 apply Rat.ext
 ·simp
 ·simp[h]
def Ywi{H:T O}{N n:Nat}{W:List Nat}{r:T V}{p q:Rat}{n1 n2 n3 n4:Int}{u1 u2 u3 u4:V}(hn:N+3<=n)(hW:ar N W=[])(b1:H.get N=some (.cells [.int .i64 n1,u1,.int .i64 n2,u2] 108 true))(b2:H.get (N+1)=some (.cells [.int .i64 n3,u3,.int .i64 n4,u4] 108 true))(b3:H.get (N+2)=some (.cells [.int .i64 0,.aa,.int .i64 0,.aa] 108 true))
  (s1:In H n (.agg [.int .i64 n1,u1]) p.num) (s2:In H n (.agg [.int .i64 n2,u2]) (p.den:Nat)) (s3:In H n (.agg [.int .i64 n3,u3]) q.num) (s4:In H n (.agg [.int .i64 n4,u4]) (q.den:Nat)) (l1:wl p.num<1000000000) (l2:wl (p.den:Nat)<1000000000) (l3:wl q.num<1000000000) (l4:wl (q.den:Nat)<1000000000) (a2:r.get 2=some (.ptr N 0)) (a3:r.get 3=some (.ptr (N+1) 0)) (a4:r.get 4=some (.ptr (N+2) 0)):
  Code A.C none A.wO ⟨r,34,[]⟩ ⟨H,n,W⟩ (fun e fr st=>e=.ret/\∃r',fr=⟨r',34,[]⟩/\r'.get 4=some (.ptr (N+2) 0)/\SD H N (p+q) st):=by
 rw[bb]
 have o1:=dG s1
 have o2:=dG s2
 have o3:=dG s3
 have o4:=dG s4
 unfold V.one at o1 o2 o3 o4
 have z1:N<n:=by omega
 have z2:N+1<n:=by omega
 simp[A.wO,a2,a3,a4,b1,b2,b3,z1,z2,aR,aC,ae]
 refine ay (Be s1 s4 (by omega) (by omega)) ?_
 rintro v5 h1 m1 k1 q1
 have eY:=k1.le
 have f1:=(k1.get N (by omega)).trans b1
 have f2:=(k1.get (N+1) (by omega)).trans b2
 have f3:=(k1.get (N+2) (by omega)).trans b3
 have e1:N<m1:=by omega
 have e2:N+1<m1:=by omega
 simp[a2,a3,a4,f1,f2,e1,e2,aR,aC,ae]
 refine ay (Be (s3.ad k1) (s2.ad k1) (by omega) (by omega)) ?_
 rintro v6 h2 m2 k2 q2
 have gI:=k2.le
 have w1:=DX p.num ((q.den:Nat):Int)
 have w2:=DX q.num ((p.den:Nat):Int)
 have w3:=DX ((p.den:Nat):Int) ((q.den:Nat):Int)
 have w4:=Z1 (p.num*((q.den:Nat):Int)) (q.num*((p.den:Nat):Int))
 simp[]
 refine ay (NV (q1.ad k2) q2 (by omega) (by omega)) ?_
 rintro v7 h3 m3 k3 q3
 have je:=k3.le
 have k13:=(k1.trans k2).trans k3
 have f4:=(k13.get N (by omega)).trans b1
 have f5:=(k13.get (N+1) (by omega)).trans b2
 have e3:N<m3:=by omega
 have e4:N+1<m3:=by omega
 simp[a2,a3,a4,f4,f5,e3,e4,aR,aC,ae]
 refine ay (Be (s2.ad k13) (s4.ad k13) (by omega) (by omega)) ?_
 rintro v8 h4 m4 k4 q4
 have uE:=k4.le
 have k14:=k13.trans k4
 have hd:((p.den:Nat):Int)*((q.den:Nat):Int)≠0:=by
  have:=p.den_nz
  have:=q.den_nz
  exact JN (by omega) (by omega)
 simp[]
 refine ay (ZU (q3.ad k4) q4 hd (by omega) (by omega)) ?_
 rintro v9 h5 m5 k5 hv
 have tQ:((p.den:Nat):Int)≠0:=by have:=p.den_nz;omega
 have tj:((q.den:Nat):Int)≠0:=by have:=q.den_nz;omega
 rw[<-Rat.divInt_add_divInt _ _ tQ tj,Aw,Aw]at hv
 obtain⟨n5,u5,n6,u6,rfl,t1,t2⟩:=hv
 have o5:=dG t1
 have o6:=dG t2
 unfold V.one at o5 o6
 have IM:=k5.le
 have k15:=k14.trans k5
 have f6:=(k15.get (N+2) (by omega)).trans b3
 have e5:N+2<m5:=by omega
 simp[a4,f6,e5,aR,aC,ae,bD,o5,o6,cn.cr]
 have kY:¬N+2<N:=by omega
 refine⟨by simp[ar,hW,kY],fun i hi=>?_,by show N+3<=m5;omega,n5,u5,n6,u6,by show T.get (T.set _ _ _) _=_;rw[T.ag,ax rfl],n5,u5,n6,u6,rfl,t1.aH (i:=N+2) f6 oh rfl,t2.aH (i:=N+2) f6 oh rfl⟩
 show T.get (T.set _ _ _) _=_
 rw[T.ag,ak (by omega),k15.get i (by omega)]
def Yfx{x y:V}{p q:Rat}{h:T O}{N:Nat}(hx:Fc h N x p)(hy:Fc h N y q)(l1:wl p.num<1000000000)(l2:wl (p.den:Nat)<1000000000)(l3:wl q.num<1000000000)(l4:wl (q.den:Nat)<1000000000):Fn A.C 79 [x,y] h N (fun v h' n'=>Fc h' n' v (p+q)):=by
 intro w
 rw[aM,A.k79 (by simp)]
 have nz:=hx
 have yk:=hy
 obtain⟨n1,u1,n2,u2,rfl,s1,s2⟩:=hx
 obtain⟨n3,u3,n4,u4,rfl,s3,s4⟩:=hy
 have o1:=dG s1
 have o2:=dG s2
 have o3:=dG s3
 have o4:=dG s4
 unfold V.one at o1 o2 o3 o4
 have kB:ab h N (((h.set N (.cells [.int .i64 n1,u1,.int .i64 n2,u2] 108 true)).set (N+1) (.cells [.int .i64 n3,u3,.int .i64 n4,u4] 108 true)).set (N+2) (.cells [.int .i64 0,.aa,.int .i64 0,.aa] 108 true)) (N+3):=aN (aN (aN ab.refl _) _) _
 simp[A.b79,aR,aC,ae,o1,o2,o3,o4]
 generalize jb:((h.set N (.cells [.int .i64 n1,u1,.int .i64 n2,u2] 108 true)).set (N+1) (.cells [.int .i64 n3,u3,.int .i64 n4,u4] 108 true)).set (N+2) (.cells [.int .i64 0,.aa,.int .i64 0,.aa] 108 true)=hB at*
 have b1:hB.get N=some (.cells [.int .i64 n1,u1,.int .i64 n2,u2] 108 true):=by rw[<-jb];simp
 have b2:hB.get (N+1)=some (.cells [.int .i64 n3,u3,.int .i64 n4,u4] 108 true):=by rw[<-jb];simp
 have b3:hB.get (N+2)=some (.cells [.int .i64 0,.aa,.int .i64 0,.aa] 108 true):=by rw[<-jb];simp
 refine ay (ZX (nz.ad kB)) ?_
 rintro _ h0 m0 k0 rfl
 have za4:=k0.le
 have k0':=kB.trans k0
 have d1:=(k0.get N (by omega)).trans b1
 have d2:=(k0.get (N+1) (by omega)).trans b2
 have d3:=(k0.get (N+2) (by omega)).trans b3
 by_cases cp:p.den=1
 ·simp[cp,d1,d2,aR,aC]
  refine ay (ZX (yk.ad k0')) ?_
  rintro _ h1 m1 k1 rfl
  have eY:=k1.le
  have g1:=(k1.get N (by omega)).trans d1
  have g2:=(k1.get (N+1) (by omega)).trans d2
  have g3:=(k1.get (N+2) (by omega)).trans d3
  have k1':=k0'.trans k1
  by_cases cq:q.den=1
  ·simp[cq,g1,g2,aR,aC]
   refine ay (NV (s1.ad k1') (s3.ad k1') (by omega) (by omega)) ?_
   rintro v5 h2 m2 k2 q1
   have gI:=k2.le
   simp[]
   refine ay (ZQ q1) ?_
   rintro _ h3 m3 k3 ⟨n5,u5,n6,u6,rfl,t1,t2⟩
   have o5:=dG t1
   have o6:=dG t2
   unfold V.one at o5 o6
   have je:=k3.le
   have f5:=(k3.get (N+2) (by omega)).trans ((k2.get (N+2) (by omega)).trans g3)
   simp[f5,aR,aC,ae,bD,o5,o6,cn.cr,az]
   have kk:=(k1'.trans k2).trans k3
   have pj:p+q=((p.num+q.num:Int):Rat):=by rw[Z0 cp,Z0 cq];simp
   rw[pj]
   exact⟨kk.set (by omega),n5,u5,n6,u6,rfl,t1.aH (i:=N+2) f5 oh rfl,t2.aH (i:=N+2) f5 oh rfl⟩
  ·simp[cq,g1,g2,aR,aC]
   refine lG (Ywi (N:=N) (p:=p) (q:=q) (by omega) (by simp[ar]) g1 g2 g3 (s1.ad k1') (s2.ad k1') (s3.ad k1') (s4.ad k1') l1 l2 l3 l4 (by simp) (by simp) (by simp)) ?_
   rintro e fr ⟨H6,n6,W6⟩ ⟨rfl,r6,rfl,c4,q1,q2,q3,m5,v5,m6,v6,q4,q5⟩
   simp only at q1 q2 q3 q4 q5
   simp[c4,q4,aR,aC,az,q1]
   exact⟨⟨by omega,fun i hi=>(q2 i hi).trans (k1'.get i hi)⟩,q5⟩
 ·simp[cp,d1,d2,aR,aC]
  refine lG (Ywi (N:=N) (p:=p) (q:=q) (by omega) (by simp[ar]) d1 d2 d3 (s1.ad k0') (s2.ad k0') (s3.ad k0') (s4.ad k0') l1 l2 l3 l4 (by simp) (by simp) (by simp)) ?_
  rintro e fr ⟨H6,n6,W6⟩ ⟨rfl,r6,rfl,c4,q1,q2,q3,m5,v5,m6,v6,q4,q5⟩
  simp only at q1 q2 q3 q4 q5
  simp[c4,q4,aR,aC,az,q1]
  exact⟨⟨by omega,fun i hi=>(q2 i hi).trans (k0'.get i hi)⟩,q5⟩
set_option maxHeartbeats 2000000
def A.b80:=A.q Tryz.f80
def A.k80:=@A.kk 80 22 [.cell 2 (some 4)] A.b80 (by kernel_rfl) rfl
def Z2{z:Int}{h:T O}{N:Nat}(hl:(aL z).length<=100000):Fn A.C 158 [.str (aL z)] h N (fun v h' n'=>In h' n' v z):=by
 have hb:(aq z.natAbs).length<=100000:=by
  unfold aL at hl
  split at hl<;>(try simp at hl)<;>omega
 have:=Ydt (s:=aL z) (h:=h) (N:=N) (by rw[Kr];exact zQ _) (by rw[Kr];exact hb)
 rw[Kq,Kr,Dv]at this
 have e:(if decide (z<0)=true then -(z.natAbs:Int) else (z.natAbs:Int))=z:=by
  by_cases hz:z<0<;>simp[hz]<;>omega
 rw[e]at this
 exact this
def Yfs{q:Rat}{h:T O}{N:Nat}(l1:(aL q.num).length<=100000)(l2:(aq q.den).length<=100000):Fn A.C 80 [.str (aP q)] h N (fun v h' n'=>Fc h' n' v q):=by
 intro w
 have hc:=fun st=>Ymt (s:=aP q) (st:=st) (by unfold aP;split<;>(try simp)<;>omega)
 rw[MZ]at hc
 have kB:=aN (ab.refl (h:=h) (n:=N)) (.cells [.int .i64 0,.aa,.int .i64 0,.aa] 108 true)
 rw[aM,A.k80 (by simp)]
 by_cases c1:q.den=1
 ·have au:¬ah (aP q)<(aP q).length:=fun hx=>(Dw q).1 hx c1
  simp[A.b80,hc,au]
  refine ay (Z2 l1) ?_
  rintro v1 h1 m1 k1 q1
  simp[]
  refine ay (ZQ q1) ?_
  rintro _ h3 m3 k3 ⟨n5,u5,n6,u6,rfl,t1,t2⟩
  have o5:=dG t1
  have o6:=dG t2
  unfold V.one at o5 o6
  have eY:=k1.le
  have je:=k3.le
  have kk:=(kB.trans k1).trans k3
  have f5:=((k1.trans k3).get N (by omega))
  rw[T.ag,ax rfl]at f5
  simp[f5,aR,aC,ae,bD,o5,o6,cn.cr,az]
  rw[Z0 c1]
  exact⟨kk.set (by omega),n5,u5,n6,u6,rfl,t1.aH f5 oh rfl,t2.aH f5 oh rfl⟩
 ·have au:ah (aP q)<(aP q).length:=(Dw q).2 c1
  have hd:=M0 q c1
  have ZY:aq q.den=aL ((q.den:Nat):Int):=by unfold aL;rw[ak (by omega)];rfl
  rw[ZY]at l2 hd
  simp[A.b80,hc,au,hd]
  refine ay (Z2 l1) ?_
  rintro v1 h1 m1 k1 q1
  simp[]
  refine ay (Z2 l2) ?_
  rintro v2 h2 m2 k2 q2
  obtain⟨n5,u5,rfl,Bf⟩:=q1.cells
  obtain⟨n6,u6,rfl,IH⟩:=q2.cells
  have o5:=Bf
  have o6:=IH
  unfold V.one at o5 o6
  have eY:=k1.le
  have gI:=k2.le
  have kk:=(kB.trans k1).trans k2
  have f5:=((k1.trans k2).get N (by omega))
  rw[T.ag,ax rfl]at f5
  simp[f5,aR,aC,ae,bD,o5,o6,cn.cr,az]
  exact⟨kk.set (by omega),n5,u5,n6,u6,rfl,(q1.ad k2).aH f5 oh rfl,q2.aH f5 oh rfl⟩
variable {N k:Nat} {h:T O} {x:V} {z:Int}
def A.b112:=A.q Tryz.f112
def A.k112:=@A.kk 112 6 [.tmp 2] A.b112 (by kernel_rfl) rfl
def A.b87:=A.q Tryz.f87
def A.k87:=@A.kk 87 11 [.tmp 2] A.b87 (by kernel_rfl) rfl
def A.b159:=A.q Tryz.f159
def A.k159:=@A.kk 159 13 [.tmp 2] A.b159 (by kernel_rfl) rfl
def A.b210:=A.q Tryz.f210
def A.k210:=@A.kk 210 25 [.tmp 2] A.b210 (by kernel_rfl) rfl
def Fc.parts{q:Rat}(s:Fc h N x q):∃n1 u1 n2 u2,x=.agg [.int .i64 n1,u1,.int .i64 n2,u2]/\In h N (.agg [.int .i64 n1,u1]) q.num/\In h N (.agg [.int .i64 n2,u2]) (q.den:Int)/\V.one u1=true/\V.one u2=true:=by
 obtain⟨n1,u1,n2,u2,rfl,s1,s2⟩:=s
 exact⟨n1,u1,n2,u2,rfl,s1,s2,dG s1,dG s2⟩
def VM{q:Rat}(hx:Fc h N x q):Fn A.C 112 [x] h N (fun v _ _=>v=.int .i64 (dL q.num)):=by
 intro w
 obtain⟨n1,u1,n2,u2,rfl,s1,s2,o1,o2⟩:=hx.parts
 unfold V.one at o1 o2
 rw[aM,A.k112 (by simp)]
 have k0:=(ab.refl (h:=h) (n:=N)).new (.cells [.int .i64 n1,u1,.int .i64 n2,u2] 108 true)
 simp[A.b112,aR,aC,ae,o1,o2]
 refine ay (Im (s1.ad k0)) ?_
 rintro _ h1 m1 k1 rfl
 simp[az]
 exact k0.trans k1
def Yld{n d:Nat}(hk:(aG n).length=k+1)(hd:(aG n)[k]?=some d):n<2^(64*k+aX d):=by
 have h1:=m7 n
 have h2:=FM (b:=B) hd
 rw[fb (by omega),h1]at h2
 have h3:val B ((aG n).take k)<B^k:=by
  have:=FN (b:=B) (l:=(aG n).take k) (fun x hx=>rW n x (yJ hx))
  rw[gO,qt (by omega)]at this;exact this
 have h4:d+1<=2^aX d:=Sf d
 have h5:B^k*(d+1)<=B^k*2^aX d:=kO _ h4
 have h6:B^k=2^(64*k):=by rw[Nat.pow_mul];rfl
 rw[kj,<-h6]
 rw[tV]at h5
 omega
def Zwk{n b:Nat}(h:600<(aq n).length)(hb:n<2^b):1800<b:=by
 apply Classical.byContradiction
 intro hc
 obtain⟨M,hM⟩:∃M:Nat,M=600:=⟨_,rfl⟩
 have h1:n<2^(3*M):=e_ hb (M3 (by omega))
 have h2:(2:Nat)^(3*M)<=10^M:=by
  rw[Nat.pow_mul]
  exact G5 (by decide) _
 have h3:=(Ql (n:=n) (k:=M) (by omega)).2 (e_ h1 h2)
 omega
def Yrd(hx:In h N x z)(hl:wl z<10000000000):Fn A.C 210 [x] h N (fun v _ _=>∃b:Nat,v=.int .i64 b/\z.natAbs<2^b):=by
 intro w
 obtain⟨n,u,rfl,hu⟩:=hx.cells
 have mS:=hu
 unfold V.one at mS
 have k0:=(ab.refl (h:=h) (n:=N)).new (.cells [.int .i64 n,u] 106 true)
 rw[aM,A.k210 (by simp)]
 simp[A.b210,aR,aC,ae,mS]
 refine ay (DL (hx.ad k0)) ?_
 rintro _ h1 m1 k1 ⟨u2,rfl,hw⟩
 have hlen:=Sl.len hw
 rw[bB]at hlen
 by_cases h0:(aG z.natAbs).length=0
 ·rw[h0]at hlen
  have hz:z.natAbs=0:=by
   have:=m7 z.natAbs
   rw[rm h0]at this
   simpa[val]using this.symm
  simp[hlen,aJ,az]
  exact⟨k0.trans k1,0,rfl,by omega⟩
 ·obtain⟨k,hk⟩:∃k,(aG z.natAbs).length=k+1:=⟨(aG z.natAbs).length-1,by omega⟩
  rw[hk]at hlen
  obtain⟨d,hd⟩:=a_ (l:=aG z.natAbs) (k:=k) (by omega)
  obtain⟨i,o,c,e,rw,q1,q2,q3,q4⟩:=Sl.at hw (fz hd)
  have Sb:d<18446744073709551616:=(rW _).get hd
  have zP:k+1<10000000000:=by
   have:=hl
   unfold wl at this
   omega
  have FT:aX d<=64:=by
   apply Classical.byContradiction
   intro hc
   have h1:d≠0:=fun h=>by rw[h]at hc;simp[aX]at hc
   have h2:=KE h1
   have h3:=M3 (j:=64) (k:=aX d-1) (by omega)
   have h4:(2:Nat)^64=18446744073709551616:=by decide
   omega
  have c1:¬((k:Int)+1=0):=by omega
  have c2:bh .i64 ((k:Int)+1-1)=(k:Int):=by rw[cE (by omega) (by omega)];omega
  have c3:bh .i64 (64*(k:Int))=64*(k:Int):=cE (by omega) (by omega)
  have c4:bh .i64 (64*(k:Int)+(aX d:Nat))=64*(k:Int)+(aX d:Nat):=cE (by omega) (by omega)
  have c5:(k:Int)<(k:Int)+1:=by omega
  simp(disch:=omega) [hlen,aJ,c1,c2,c3,c5,q1,q3,q4]
  refine ay (Zd Sb) ?_
  rintro _ h2 m2 k2 ⟨rfl,rfl,rfl⟩
  simp[c4,az]
  exact⟨k0.trans k1,64*k+aX d,by simp,Yld hk hd⟩
def Ye3(hx:In h N x z)(hP:lE h N)(hl:wl z<10000000000)(hd:(de z.natAbs).length<1000000000):Fn A.C 159 [x] h N (fun v _ _=>v=.bool (decide (600<(aq z.natAbs).length))):=by
 intro w
 obtain⟨n,u,rfl,hu⟩:=hx.cells
 have mS:=hu
 unfold V.one at mS
 have k0:=(ab.refl (h:=h) (n:=N)).new (.cells [.int .i64 n,u] 106 true)
 have g0:(h.set N (.cells [.int .i64 n,u] 106 true)).get N=some (.cells [.int .i64 n,u] 106 true):=by rw[T.ag,ax rfl]
 rw[aM,A.k159 (by simp)]
 simp[A.b159,aR,aC,ae,mS]
 refine ay (Yrd (hx.ad k0) hl) ?_
 rintro _ h1 m1 k1 ⟨b,rfl,hb⟩
 have g1:=(k1.get N (by omega)).trans g0
 by_cases hbb:1800<b
 ·have IN:(1800:Int)<(b:Int):=by omega
  simp[hbb,IN,g1,aR,aC]
  refine ay (SC ((hx.ad k0).ad k1) ((hP.ad k0).ad k1) (by omega)) ?_
  rintro _ h2 m2 k2 rfl
  have ht:=fun st=>Zkj (s:=aL z) (st:=st)
  rw[Kr]at ht
  simp[ht,az]
  exact⟨(k0.trans k1).trans k2,by omega⟩
 ·have IN:¬(1800:Int)<(b:Int):=by omega
  have LF:¬600<(aq z.natAbs).length:=fun hc=>hbb (Zwk hc hb)
  simp[hbb,IN,LF,az]
  exact k0.trans k1
def ve(h:z.natAbs<2^k):wl z<=k:=by
 have:=F0 (e_ h (G5 (by decide) k))
 unfold wl at this ⊢
 rwa [dH]at this
def Yfu{q:Rat}(hx:Fc h N x q)(hP:lE h N)(hq:Qb k q)(hk:k<=400000000):Fn A.C 87 [x] h N (fun v _ _=>v=.bool (By q)):=by
 intro w
 obtain⟨n1,u1,n2,u2,rfl,s1,s2,o1,o2⟩:=hx.parts
 unfold V.one at o1 o2
 have k0:=(ab.refl (h:=h) (n:=N)).new (.cells [.int .i64 n1,u1,.int .i64 n2,u2] 108 true)
 have g0:(h.set N (.cells [.int .i64 n1,u1,.int .i64 n2,u2] 108 true)).get N=some (.cells [.int .i64 n1,u1,.int .i64 n2,u2] 108 true):=by rw[T.ag,ax rfl]
 have l1:=M4 hq.1
 have l2:=M4 hq.2
 have z1:=ve hq.1
 have z2:=ve (z:=(q.den:Int)) (k:=k) (by rw[dH];exact hq.2)
 rw[aM,A.k87 (by simp)]
 simp[A.b87,aR,aC,ae,o1,o2]
 refine ay (Ye3 (s1.ad k0) (hP.ad k0) (by omega) (by omega)) ?_
 rintro _ h1 m1 k1 rfl
 have g1:=(k1.get N (by omega)).trans g0
 unfold By
 by_cases c1:600<(aq q.num.natAbs).length
 ·simp[c1,az]
  exact k0.trans k1
 ·simp[c1,g1,aR,aC]
  refine ay (Ye3 ((s2.ad k0).ad k1) ((hP.ad k0).ad k1) (by omega) (by rw[dH];omega)) ?_
  rintro _ h2 m2 k2 rfl
  simp[az]
  exact(k0.trans k1).trans k2
variable {N:Nat} {h:T O} {l:List Rat} {v:V}
set_option maxHeartbeats 1000000
def A.w41:=A.q Tryz.f41
def A.wP:=A.ql A.w41 0 []
def A.b41:=(fun x0=>A.qb A.w41 [x0]) A.wP
def A.k41:=@A.kk 41 23 [.tmp 2] A.b41 (by kernel_rfl) rfl
def A.On:=A.q Tryz.f150
def A.sD:=A.ql A.On 0 []
def A.b150:=(fun x0=>A.qb A.On [x0]) A.sD
def A.k150:=@A.kk 150 23 [.tmp 2] A.b150 (by kernel_rfl) rfl
def fu(h:T O)(N:Nat)(c:List V)(q:Rat):Prop:=∃n1 u1 n2 u2,c=[.int .i64 n1,u1,.int .i64 n2,u2]/\In h N (.agg [.int .i64 n1,u1]) q.num/\In h N (.agg [.int .i64 n2,u2]) (q.den:Int)
def fu.ad{h':T O}{N':Nat}{c:List V}{q:Rat}(s:fu h N c q)(k:ab h N h' N'):fu h' N' c q:=by
 obtain⟨n1,u1,n2,u2,rfl,s1,s2⟩:=s
 exact⟨n1,u1,n2,u2,rfl,s1.ad k,s2.ad k⟩
def fu.fc{c:List V}{q:Rat}(s:fu h N c q):Fc h N (.agg c) q:=by
 obtain⟨n1,u1,n2,u2,rfl,s1,s2⟩:=s
 exact⟨n1,u1,n2,u2,rfl,s1,s2⟩
def Fc.c{x:V}{q:Rat}(s:Fc h N x q):∃c,x=.agg c/\fu h N c q:=by
 obtain⟨n1,u1,n2,u2,rfl,s1,s2⟩:=s
 exact⟨_,rfl,n1,u1,n2,u2,rfl,s1,s2⟩
def tM(c:List V):Prop:=∀x∈c,∀m,x≠.int .u64 m
def Zyn{n:Int}{u:V}{z:Int}(s:In h N (.agg [.int .i64 n,u]) z):∀m,u≠.int .u64 m:=by
 rcases s with⟨h1,_⟩|⟨i,o,l,c,h1,_⟩
 ·simp at h1;rw[h1.2];simp
 ·simp at h1;rw[h1.2];simp
def fu.Ls{c:List V}{q:Rat}(s:fu h N c q):tM c:=by
 obtain⟨n1,u1,n2,u2,rfl,s1,s2⟩:=s
 intro x hx m
 simp at hx
 rcases hx with rfl|rfl|rfl|rfl
 ·simp
 ·exact Zyn s1 m
 ·simp
 ·exact Zyn s2 m
def fu.len{c:List V}{q:Rat}(s:fu h N c q):c.length=4/\c.all V.one=true:=by
 obtain⟨n1,u1,n2,u2,rfl,s1,s2⟩:=s
 have o1:=dG s1
 have o2:=dG s2
 exact⟨rfl,by simp only[List.all_cons,List.all_nil,o1,o2,Bool.and_true];rfl⟩
def fu.aH{i:Nat}{c c0 c1:List V}{q:Rat}{e0 e1:TypeId}{w0 w1:Bool}(s:fu h N c q)(g:h.get i=some (.cells c0 e0 w0))(hn:tM c0)(hc:c1.length=c0.length):fu (h.set i (.cells c1 e1 w1)) N c q:=by
 obtain⟨n1,u1,n2,u2,rfl,s1,s2⟩:=s
 exact⟨n1,u1,n2,u2,rfl,s1.aH g hn hc,s2.aH g hn hc⟩
def kf(h:T O)(N:Nat)(v:V)(l:List Rat):Prop:=∃cs:List (List V),Sn 4 h N v cs/\cs.length=l.length/\∀(j:Nat) (q:Rat),l[j]?=some q->∃c,cs[j]?=some c/\fu h N c q
def kf.ad{h':T O}{N':Nat}(s:kf h N v l)(k:ab h N h' N'):kf h' N' v l:=by
 obtain⟨cs,h1,h2,h3⟩:=s
 refine⟨cs,h1.ad k,h2,fun j q hq=>?_⟩
 obtain⟨c,g1,g2⟩:=h3 j q hq
 exact⟨c,g1,g2.ad k⟩
def kf.len(s:kf h N v l):pA v=some l.length:=by
 obtain⟨cs,h1,h2,_⟩:=s
 rw[h1.len,h2]
def kf.at(s:kf h N v l){j:Nat}{q:Rat}(hj:l[j]?=some q):∃i o x e rw c,xA v=some (i,o)/\i<N/\h.get i=some (.cells x e rw)/\aC x (o+j*4) 4=some c/\fu h N c q:=by
 obtain⟨cs,h1,h2,h3⟩:=s
 obtain⟨c,h4,h5⟩:=h3 j q hj
 obtain⟨i,o,x,e,rw,q1,q2,q3,q4⟩:=h1.at h4
 exact⟨i,o,x,e,rw,c,q1,q2,q3,q4,h5⟩
def dT(h:T O)(N:Nat)(v:V)(l:List Rat):Prop:=kf h N v l/\∀i∈cQ v,∃z w,h.get i=some (.cells z 108 w)
def tx(l:List Rat):List V:=strs (l.map aP)
def mq(l:List Rat):(tx l).length=l.length:=by simp[tx,strs]
def xw{j:Nat}{q:Rat}(h:l[j]?=some q):(tx l)[j]?=some (.str (aP q)):=by simp[tx,strs,h]
def zF:List V:=[.int .i64 0,.aa,.int .i64 0,.aa]
def F4{z:List V}{n:Nat}:cW z (n+1)=z++cW z n:=by
 unfold cW
 rw[Nat.succ_mul,Nat.add_comm (n*z.length),List.range_add,List.map_append,List.map_map]
 congr 1
 ·apply og
  intro j
  by_cases hj:j<z.length
  ·rw[fm,CK hj]
   simp[yQ hj,hj]
  ·rw[fv (by simp;omega),fv (by omega)]
 ·apply yB
  intro i _
  simp[Nat.add_mod_left]
def SE{a b c x:List V}{n o:Nat}(ha:a.length=o)(hb:b.length=n)(hx:x.length=n):ae (a++(b++c)) o x=a++(x++c):=by
 unfold ae
 rw[<-ha,List.take_left,hx,<-List.drop_drop,List.drop_left,<-hb,List.drop_left,tU]
structure FaI (h:T O) (N:Nat) (l:List Rat) (m:Nat) (r:T V) (st:St):Prop where
 w:ar N st.w=[]
 ad:ab h N st.h st.n
 ex:∃(k:Nat) (cs:List (List V)),k+m=l.length/\r.get 11=some (.int .i64 k)/\r.get 3=some (.slice N 0 l.length (some l.length) 4)/\N<st.n/\st.h.get N=some (.cells (cs.flatten++cW zF m) 108 true)/\cs.length=k/\∀(j:Nat) (q:Rat),j<k->l[j]?=some q->∃c,cs[j]?=some c/\fu st.h st.n c q
def Oo{cs:List (List V)}(hl:cs.length<=l.length)(hc:∀(j:Nat) (q:Rat),j<cs.length->l[j]?=some q->∃c,cs[j]?=some c/\fu h N c q):(∀c∈cs,c.length=4)/\tM cs.flatten/\cs.flatten.all V.one=true:=by
 have key:∀c∈cs,∃q,fu h N c q:=fun c y8=>by
  obtain⟨j,hj⟩:=uR y8
  have au:=jt hj
  obtain⟨q,hq⟩:=a_ (l:=l) (k:=j) (by omega)
  obtain⟨c',h1,h2⟩:=hc j q au hq
  rw[hj]at h1
  simp only[an]at h1
  subst h1
  exact⟨q,h2⟩
 refine⟨fun c y8=>?_,fun x hx m=>?_,?_⟩
 ·obtain⟨q,hq⟩:=key c y8;exact hq.len.1
 ·obtain⟨c,y8,DY⟩:=List.mem_flatten.1 hx
  obtain⟨q,hq⟩:=key c y8
  exact hq.Ls x DY m
 ·rw[me]
  intro x hx
  obtain⟨c,y8,DY⟩:=List.mem_flatten.1 hx
  obtain⟨q,hq⟩:=key c y8
  exact me.1 hq.len.2 x DY
def SF:∀{n:Nat},tM (cW zF n)
 |0=>by intro x hx;simp[cW]at hx
 |n+1=>by
  intro x hx m
  rw[F4]at hx
  rcases lI.1 hx with hx|hx
  ·simp[zF]at hx
   rcases hx with rfl|rfl|rfl|rfl<;>simp
  ·exact SF x hx m
def tM.app{a b:List V}(ha:tM a)(hb:tM b):tM (a++b):=fun x hx m=>by
 rcases lI.1 hx with hx|hx
 ·exact ha x hx m
 ·exact hb x hx m
def Z3(n:Nat):(cW zF n).length=n*4:=by
 induction n with
 |zero=>simp[cW]
 |succ n ih=>rw[F4,iN,ih];simp[zF];omega
def Z4{k0:Nat}(hs:Sl h N v (tx l))(hl:l.length<1000000000)(hq:∀q∈l,Qb k0 q)(kg:k0<=4000):Fn A.C 41 [v] h N (fun u h' n'=>dT h' n' u l):=by
 intro w
 have hlen:=hs.len
 rw[mq]at hlen
 have c1:(64:Int)*(l.length:Int)<=140737488355328:=by omega
 have c2:(l.length:Int)<4611686018427387904:=by omega
 have kB:ab h N (h.set N (.cells (cW zF l.length) 108 true)) (N+1):=ab.refl.new _
 rw[aM,A.k41 (by simp)]
 simp[A.b41,hlen,c1,c2]
 refine bA [(4,5),(11,21)] (fun e r st=>e=.exit 0/\FaI h N l 0 r st) (FaI h N l) l.length ?_ ?_ ?_
 ·exact⟨by simp,kB,0,[],by omega,by simp,by simp,by show N<N+1;omega,by rw[T.ag,ax rfl];rfl,rfl,fun j q hj=>by omega⟩
 ·rintro m r ⟨H,n1,W⟩ hr hf ⟨hW,hK,k,cs,hk,ks,h3,pO,hM,cO,jC⟩
  simp only at hW hK hM pO jC
  rw[bb]
  cases m with
  |zero=>
   obtain rfl:k=l.length:=by omega
   simp[A.wP,hr,hf,ks]
   exact⟨hW,hK,l.length,cs,by omega,by simp[ks],by simp[h3],pO,hM,cO,jC⟩
  |succ m=>
   have au:k<l.length:=by omega
   have aS:(k:Int)<(l.length:Int):=by omega
   obtain⟨q,IP⟩:=a_ au
   have iU:=hq q (bM IP)
   obtain⟨i,o,cc,e,rw,q1,q2,q3,q4⟩:=(hs.ad hK).at (xw IP)
   have la:=Gm iU.1
   have KM:=Eh iU.2
   simp[A.wP,hr,hf,ks,h3,au,aS,hlen,q1,q3,q4]
   refine ay (Yfs (q:=q) (by omega) (by omega)) ?_
   rintro _ H2 n2 k2 cG
   obtain⟨c,rfl,hc⟩:=cG.c
   have jA:=k2.le
   have fk:=hK.le
   have sE:=(k2.get N pO).trans hM
   have IQ:∀(j:Nat) (q:Rat),j<cs.length->l[j]?=some q->∃c,cs[j]?=some c/\fu H2 n2 c q:=fun j q hj hq=>by
    obtain⟨c,g1,g2⟩:=jC j q (by omega) hq
    exact⟨c,g1,g2.ad k2⟩
   obtain⟨f1,f2,f3⟩:=Oo (l:=l) (by omega) IQ
   have lJ:=Aj f1
   obtain⟨e1,e2⟩:=hc.len
   have gb:ae (cs.flatten++cW zF (m+1)) (k*4) c=(cs++[c]).flatten++cW zF m:=by
    rw[F4,SE (n:=4) (by rw[lJ,cO]) rfl e1,KN,tU]
   have hb:k*4+4<=(cs.flatten++cW zF (m+1)).length:=by
    rw[iN,lJ,Z3];omega
   have ke:(V.agg c).cells=c:=rfl
   have F5:tM (cs.flatten++cW zF (m+1)):=f2.app SF
   have pk:((cs++[c]).flatten++cW zF m).length=(cs.flatten++cW zF (m+1)).length:=by
    rw[F4,KN];simp[e1,zF];omega
   generalize cs.flatten++cW zF (m+1)=X at*
   obtain⟨Y,hY⟩:∃Y,(cs++[c]).flatten++cW zF m=Y:=⟨_,rfl⟩
   rw[hY]at gb pk
   simp(disch:=first|(simp;done)|omega|(simp only[bB,cC,bo];omega)|rfl) [-V.cells, -V.one,hr,hf,ks,h3,au,aS,sE,bD,ke,e1,e2,hb,gb]
   have ix:¬N<N:=by omega
   refine⟨m,by omega,⟨by simp[ar,hW],(hK.trans k2).set (aO N),k+1,cs++[c],by omega,by simp,by simp[h3],by show N<n2;omega,by show T.get _ N=_;rw[T.ag,ax rfl,hY],by simp[cO],fun j q' hj pT=>?_⟩⟩
   by_cases tl:j<k
   ·obtain⟨c',g1,g2⟩:=jC j q' tl pT
    exact⟨c',by rw[iS (by omega)];exact g1,(g2.ad k2).aH sE F5 pk⟩
   ·obtain rfl:j=k:=by omega
    rw[IP]at pT
    simp only[an]at pT
    subst pT
    exact⟨c,by rw[lD (by omega),cO];simp,hc.aH sE F5 pk⟩
 ·rintro _ r ⟨H,n1,W⟩ hr ⟨rfl,hW,hK,k,cs,hk,ks,h3,pO,hM,cO,jC⟩
  simp only at hW hK hM pO jC
  obtain rfl:k=l.length:=by omega
  simp[hr,h3,az,hW,hK]
  have hz:cW zF 0=[]:=by simp[cW]
  obtain⟨f1,_,_⟩:=Oo (l:=l) (by omega) (fun j q hj hq=>jC j q (by omega) hq)
  have lJ:=Aj f1
  rw[hz,yK]at hM
  refine⟨⟨cs,.inr ⟨N,0,some l.length,cs.flatten,_,true,by rw[cO],pO,hM,fun j x hx=>by rw[xP];exact Nk f1 hx,by omega,fun k hk=>by simp at hk;omega⟩,cO,fun j q hq=>jC j q (jt hq) hq⟩,fun i hi=>?_⟩
  simp[cQ]at hi
  subst hi
  exact⟨_,_,hM⟩
structure TaI (h:T O) (N:Nat) (l:List Rat) (m:Nat) (r:T V) (st:St):Prop where
 w:ar N st.w=[]
 ad:ab h N st.h st.n
 ex:∃(k:Nat),k+m=l.length/\r.get 11=some (.int .i64 k)/\r.get 3=some (.slice N 0 l.length (some l.length) 1)/\N<st.n/\st.h.get N=some (.cells (tx (l.take k)++List.replicate m (V.str [])) 41 true)
def Yh1{k0:Nat}(hs:kf h N v l)(hP:lE h N)(hl:l.length<1000000000)(hq:∀q∈l,Qb k0 q)(kg:k0<=400000000):Fn A.C 150 [v] h N (fun u h' n'=>Sl h' n' u (tx l)/\∀i∈cQ u,∃z w,h'.get i=some (.cells z 41 w)):=by
 intro w
 have hlen:=hs.len
 have c1:(16:Int)*(l.length:Int)<=140737488355328:=by omega
 have c2:(l.length:Int)<4611686018427387904:=by omega
 have kB:ab h N (h.set N (.cells (cW [.str []] l.length) 41 true)) (N+1):=ab.refl.new _
 rw[aM,A.k150 (by simp)]
 simp[A.b150,hlen,c1,c2]
 refine bA [(4,5),(11,21)] (fun e r st=>e=.exit 0/\TaI h N l 0 r st) (TaI h N l) l.length ?_ ?_ ?_
 ·exact⟨by simp,kB,0,by omega,by simp,by simp,by show N<N+1;omega,by rw[T.ag,ax rfl,V5];simp[tx,strs]⟩
 ·rintro m r ⟨H,n1,W⟩ hr hf ⟨hW,hK,k,hk,ks,h3,pO,hM⟩
  simp only at hW hK hM pO
  rw[bb]
  cases m with
  |zero=>
   obtain rfl:k=l.length:=by omega
   simp[A.sD,hr,hf,ks]
   exact⟨hW,hK,l.length,by omega,by simp[ks],by simp[h3],pO,hM⟩
  |succ m=>
   have au:k<l.length:=by omega
   have aS:(k:Int)<(l.length:Int):=by omega
   obtain⟨q,IP⟩:=a_ au
   have iU:=hq q (bM IP)
   obtain⟨i,o,x,e,rw,c,q1,q2,q3,q4,q5⟩:=(hs.ad hK).at IP
   obtain⟨qL,u1,kY,u2,rfl,s1,s2⟩:=q5
   have o1:=dG s1
   have o2:=dG s2
   unfold V.one at o1 o2
   have la:=M4 iU.1
   have KM:=M4 iU.2
   have fk:=hK.le
   have e4:ae [.int .i64 0,.aa,.int .i64 0,.aa] 0 [.int .i64 qL,u1,.int .i64 kY,u2]=[.int .i64 qL,u1,.int .i64 kY,u2]:=rfl
   have e5:aC [.int .i64 qL,u1,.int .i64 kY,u2] 0 4=some [.int .i64 qL,u1,.int .i64 kY,u2]:=rfl
   have kA:ab H n1 ((H.set n1 (.cells [.int .i64 0,.aa,.int .i64 0,.aa] 108 true)).set n1 (.cells [.int .i64 qL,u1,.int .i64 kY,u2] 108 true)) (n1+1):=(ab.refl.new _).set (aO _)
   simp[A.sD,hr,hf,ks,h3,au,aS,hlen,q1,q3,q4,aR,bD,o1,o2,e4,e5]
   refine ay (Ynl (q:=q) (Fc.ad ⟨qL,u1,kY,u2,rfl,s1,s2⟩ kA) ((hP.ad hK).ad kA) (by omega) (by omega)) ?_
   rintro _ H2 n2 k2 rfl
   have jA:=k2.le
   have sE:=(k2.get N (by omega)).trans ((kA.get N pO).trans hM)
   have hb:k+1<=(tx (l.take k)++List.replicate (m+1) (V.str [])).length:=by
    rw[iN,mq,List.length_replicate,gO];omega
   have gb:ae (tx (l.take k)++List.replicate (m+1) (V.str [])) k [.str (aP q)]=tx (l.take (k+1))++List.replicate m (V.str []):=by
    have e1:(tx (l.take k)++List.replicate (m+1) (V.str []))=tx (l.take k)++([V.str []]++List.replicate m (V.str [])):=by rw[List.replicate_succ];rfl
    rw[e1,SE (n:=1) (by rw[mq,gO];omega) rfl rfl,uQ,IP]
    simp[tx,strs]
   generalize tx (l.take k)++List.replicate (m+1) (V.str [])=X at*
   obtain⟨Y,hY⟩:∃Y,tx (l.take (k+1))++List.replicate m (V.str [])=Y:=⟨_,rfl⟩
   rw[hY]at gb
   simp(disch:=first|(simp;done)|omega|(simp only[bB,cC,bo];omega)|rfl) [hr,hf,ks,h3,au,aS,sE,bD,hb,gb]
   refine⟨m,by omega,⟨by simp[ar,hW];omega,((hK.trans kA).trans k2).set (aO N),k+1,by omega,by simp,by simp[h3],by show N<n2;omega,by show T.get _ N=_;rw[T.ag,ax rfl,hY]⟩⟩
 ·rintro _ r ⟨H,n1,W⟩ hr ⟨rfl,hW,hK,k,hk,ks,h3,pO,hM⟩
  simp only at hW hK hM pO
  obtain rfl:k=l.length:=by omega
  rw[xE]at hM
  simp only[List.replicate_zero,yK]at hM
  simp[hr,h3,az,hW,hK]
  exact⟨Sl.row pO hM (mq l) (fun k hk=>by simp at hk;omega),fun i hi=>by simp[cQ]at hi;subst hi;exact⟨_,.inr hM⟩⟩
end
end Go.Mx
