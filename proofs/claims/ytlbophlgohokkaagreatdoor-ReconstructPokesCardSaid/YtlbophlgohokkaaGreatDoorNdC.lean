/-
  num.Frac: Cmp, Text.
-/
import Derived.Test.YtlbophlgohokkaaGreatDoorNcE
import Derived.Test.YtlbophlgohokkaaGreatDoorMxRg
import Derived.Test.YtlbophlgohokkaaGreatDoorRcM
set_option linter.all false
namespace Go.Mx
open Go Go.Proofs
set_option maxHeartbeats 2000000
set_option maxRecDepth 1000000
def A.b107:aq:=sr [bx 1 114 0,⟨(some 2),.aY (.const (.str [])),none⟩]
 (.seq (sr [lN 3 4 1,c1 4 171 3]
 (cd 4
 (sr [fa 5 0 1,lN 6 2 5,c1 7 172 6,mv 2 7]
 (.ret))
 (.skip)))
 (.seq (.aV [fa 8 0 1,lN 9 2 8,c1 10 172 9,⟨(some 11),.bin .add (.node []) false (.tmp 10) (.const (.str [47])),none⟩,fa 12 2 1,lN 13 2 12,c1 14 172 13,bi 15 .add 11 14,mv 2 15] [0,1,3,7,0,16,55,127,255])
 (.ret)))
theorem A.c107:A.F 107=some ⟨16,[.tmp 2],A.b107⟩:=by kernel_rfl
def A.k107:=@A.kk 107 _ _ _ A.c107 rfl
theorem Yje{x:V}{q:Rat}{h:T O}{N:Nat}(hx:Fc h N x q)(hP:jm h N)(l1:(cJ q.num.natAbs).length<1000000000)(l2:(cJ q.den).length<1000000000):Fn A.C 107 [x] h N (fun v _ _=>v=.str (aW q)):=by
 intro w
 rw[aR,A.k107 (by simp)]
 have mW:=hx
 obtain⟨n1,u1,n2,u2,rfl,s1,s2⟩:=hx
 have o1:=dt s1
 have o2:=dt s2
 unfold V.one at o1 o2
 have kB:=aL (ab.refl (h:=h) (n:=N)) (.cells [.int .i64 n1,u1,.int .i64 n2,u2] 114 true)
 simp[A.b107,aU,aJ,o1,o2]
 generalize iZ:h.set N (.cells [.int .i64 n1,u1,.int .i64 n2,u2] 114 true)=hB at*
 have b1:hB.get N=some (.cells [.int .i64 n1,u1,.int .i64 n2,u2] 114 true):=by rw[<-iZ];simp
 refine ax (UK (mW.ae kB)) ?_
 rintro _ h1 m1 k1 rfl
 have eR:=k1.le
 have f1:=(k1.get N (by omega)).trans b1
 have kk:=kB.trans k1
 by_cases c1:q.den=1
 ·simp[c1,f1,aU,aJ]
  refine ax (NG (s1.ae kk) (hP.ae kk) (by omega)) ?_
  rintro _ h2 m2 k2 rfl
  simp[aA,aW,c1]
  exact kk.trans k2
 ·have l0:N<m1:=by omega
  simp[c1,f1,l0,aU,aJ]
  refine ax (NG (s1.ae kk) (hP.ae kk) (by omega)) ?_
  rintro _ h2 m2 k2 rfl
  have f_:=k2.le
  have J8:=kk.trans k2
  have f2:=(k2.get N (by omega)).trans f1
  have l3:N<m2:=by omega
  have di:IntKind.max .i64=9223372036854775807:=rfl
  have hS1:(aK q.num).length<2000000000:=by
   have h1:(ak q.num.natAbs).length<=(cJ q.num.natAbs).length+1:=by unfold ak;split<;>simp
   unfold aK
   split<;>simp<;>omega
  have hS2:(ak q.den).length<2000000000:=by
   have h1:(ak q.den).length<=(cJ q.den).length+1:=by unfold ak;split<;>simp
   omega
  have jO:aW q=aK q.num++47::ak q.den:=by unfold aW;rw[au c1]
  have UL:aK ((q.den:Nat):Int)=ak q.den:=by unfold aK;rw[au (by omega)];rfl
  rw[jO]
  generalize aK q.num=S1 at*
  have g1:¬(9223372036854775807:Int)<(S1.length:Int)+1:=by omega
  simp[f2,l3,gj,di,g1,aU,aJ]
  refine ax (NG (s2.ae J8) (hP.ae J8) (by rw[dm];omega)) ?_
  rintro _ h3 m3 k3 rfl
  rw[UL]
  generalize ak q.den=S2 at*
  have g2:¬(9223372036854775807:Int)<(S1.length:Int)+1+(S2.length:Int):=by omega
  simp[gj,di,g2,dw.dB,aA]
  exact J8.trans k3
variable {q:Rat}
set_option maxHeartbeats 4000000
def A.pn:aq:=.seq (.aV [fa 17 0 2,lN 18 2 17,fa 19 2 3,lN 20 2 19,c2 21 157 18 20,fa 22 0 3,lN 23 2 22,fa 24 2 2,lN 25 2 24,c2 26 157 23 25,c2 27 192 21 26,fa 28 2 2,lN 29 2 28,fa 30 2 3,lN 31 2 30,c2 32 157 29 31,c2 33 156 27 32,⟨none,.store 4 (.tmp 4) (.tmp 33),none⟩] [0,1,0,4,15,0,32,0,128,511,1023,0,2048,0,8192,32767,65535,131071])
 (.ret)
def A.b120:aq:=sr [bx 2 114 0,bx 3 114 1,⟨(some 4),.alloc [(.int .i64 0),.aa,(.int .i64 0),.aa] 114,none⟩]
 (.seq (sr [lN 5 4 2,c1 6 171 5,mv 7 6,⟨(some 8),.load (some 4) (.tmp 3),(some (7,true))⟩,⟨(some 9),.call (.const (.func 171 [] [])) [(.tmp 8)],(some (7,true))⟩,pf 10 7 9]
 (cd 10
 (sr [fa 11 0 2,lN 12 2 11,fa 13 0 3,lN 14 2 13,c2 15 192 12 14,c1 16 189 15,⟨none,.store 4 (.tmp 4) (.tmp 16),none⟩]
 (.ret))
 (.skip)))
 A.pn)
theorem A.c120:A.F 120=some ⟨34,[.cell 4 (some 4)],A.b120⟩:=by kernel_rfl
def A.k120:=@A.kk 120 _ _ _ A.c120 rfl
theorem UM(h:q.den=1):q=(q.num:Rat):=by
 apply Rat.ext
 ·simp
 ·simp[h]
theorem Yra{H:T O}{N n:Nat}{W:List Nat}{r:T V}{p:Rat}{n1 n2 n3 n4:Int}{u1 u2 u3 u4:V}(hn:N+3<=n)(hW:ad N W=[])(b1:H.get N=some (.cells [.int .i64 n1,u1,.int .i64 n2,u2] 114 true))(b2:H.get (N+1)=some (.cells [.int .i64 n3,u3,.int .i64 n4,u4] 114 true))(b3:H.get (N+2)=some (.cells [.int .i64 0,.aa,.int .i64 0,.aa] 114 true))
  (s1:In H n (.agg [.int .i64 n1,u1]) p.num) (s2:In H n (.agg [.int .i64 n2,u2]) (p.den:Nat)) (s3:In H n (.agg [.int .i64 n3,u3]) q.num) (s4:In H n (.agg [.int .i64 n4,u4]) (q.den:Nat)) (l1:wl p.num<1000000000) (l2:wl (p.den:Nat)<1000000000) (l3:wl q.num<1000000000) (l4:wl (q.den:Nat)<1000000000) (a2:r.get 2=some (.ptr N 0)) (a3:r.get 3=some (.ptr (N+1) 0)) (a4:r.get 4=some (.ptr (N+2) 0)):
  Code A.C none A.pn ⟨r,34,[]⟩ ⟨H,n,W⟩ (fun e fr st=>e=.ret/\∃r',fr=⟨r',34,[]⟩/\r'.get 4=some (.ptr (N+2) 0)/\NI H N (p+q) st):=by
 rw[bA]
 have o1:=dt s1
 have o2:=dt s2
 have o3:=dt s3
 have o4:=dt s4
 unfold V.one at o1 o2 o3 o4
 have z1:N<n:=by omega
 have z2:N+1<n:=by omega
 simp[A.pn,a2,a3,b1,b2,z1,z2,aU,aJ]
 refine ax (AI s1 s4 (by omega) (by omega)) ?_
 rintro v5 h1 m1 k1 q1
 have eR:=k1.le
 have f1:=(k1.get N (by omega)).trans b1
 have f2:=(k1.get (N+1) (by omega)).trans b2
 have f3:=(k1.get (N+2) (by omega)).trans b3
 have e1:N<m1:=by omega
 have e2:N+1<m1:=by omega
 simp[a2,a3,f1,f2,e1,e2,aU,aJ]
 refine ax (AI (s3.ae k1) (s2.ae k1) (by omega) (by omega)) ?_
 rintro v6 h2 m2 k2 q2
 have f_:=k2.le
 have w1:=Eu p.num ((q.den:Nat):Int)
 have w2:=Eu q.num ((p.den:Nat):Int)
 have w3:=Eu ((p.den:Nat):Int) ((q.den:Nat):Int)
 have w4:=UN (p.num*((q.den:Nat):Int)) (q.num*((p.den:Nat):Int))
 simp[]
 refine ax (JR (q1.ae k2) q2 (by omega) (by omega)) ?_
 rintro v7 h3 m3 k3 q3
 have iX:=k3.le
 have k13:=(k1.trans k2).trans k3
 have f4:=(k13.get N (by omega)).trans b1
 have f5:=(k13.get (N+1) (by omega)).trans b2
 have e3:N<m3:=by omega
 have e4:N+1<m3:=by omega
 simp[a2,a3,f4,f5,e3,e4,aU,aJ]
 refine ax (AI (s2.ae k13) (s4.ae k13) (by omega) (by omega)) ?_
 rintro v8 h4 m4 k4 q4
 have qY:=k4.le
 have k14:=k13.trans k4
 have hd:((p.den:Nat):Int)*((q.den:Nat):Int)≠0:=by
  have:=p.den_nz
  have:=q.den_nz
  exact FY (by omega) (by omega)
 simp[]
 refine ax (UH (q3.ae k4) q4 hd (by omega) (by omega)) ?_
 rintro v9 h5 m5 k5 hv
 have qi:((p.den:Nat):Int)≠0:=by have:=p.den_nz;omega
 have vn:((q.den:Nat):Int)≠0:=by have:=q.den_nz;omega
 rw[<-Rat.divInt_add_divInt _ _ qi vn,Bp,Bp]at hv
 obtain⟨n5,u5,n6,u6,rfl,t1,t2⟩:=hv
 have o5:=dt t1
 have o6:=dt t2
 unfold V.one at o5 o6
 have Ev:=k5.le
 have k15:=k14.trans k5
 have f6:=(k15.get (N+2) (by omega)).trans b3
 have e5:N+2<m5:=by omega
 simp[a4,f6,e5,ag,bW,o5,o6,dw.dB]
 have nj:¬N+2<N:=by omega
 refine⟨by simp[ad,hW,nj],fun i hi=>?_,by show N+3<=m5;omega,n5,u5,n6,u6,by show T.get (T.set _ _ _) _=_;rw[T.ai,aF rfl],n5,u5,n6,u6,rfl,t1.aE (i:=N+2) f6 mD rfl,t2.aE (i:=N+2) f6 mD rfl⟩
 show T.get (T.set _ _ _) _=_
 rw[T.ai,au (by omega),k15.get i (by omega)]
theorem NK{x y:V}{p:Rat}{h:T O}{N:Nat}(hx:Fc h N x p)(hy:Fc h N y q)(l1:wl p.num<1000000000)(l2:wl (p.den:Nat)<1000000000)(l3:wl q.num<1000000000)(l4:wl (q.den:Nat)<1000000000):Fn A.C 120 [x,y] h N (fun v h' n'=>Fc h' n' v (p+q)):=by
 intro w
 rw[aR,A.k120 (by simp)]
 have mW:=hx
 have uC:=hy
 obtain⟨n1,u1,n2,u2,rfl,s1,s2⟩:=hx
 obtain⟨n3,u3,n4,u4,rfl,s3,s4⟩:=hy
 have o1:=dt s1
 have o2:=dt s2
 have o3:=dt s3
 have o4:=dt s4
 unfold V.one at o1 o2 o3 o4
 have kB:ab h N (((h.set N (.cells [.int .i64 n1,u1,.int .i64 n2,u2] 114 true)).set (N+1) (.cells [.int .i64 n3,u3,.int .i64 n4,u4] 114 true)).set (N+2) (.cells [.int .i64 0,.aa,.int .i64 0,.aa] 114 true)) (N+3):=aL (aL (aL ab.refl _) _) _
 simp[A.b120,aU,aJ,o1,o2,o3,o4]
 generalize iZ:((h.set N (.cells [.int .i64 n1,u1,.int .i64 n2,u2] 114 true)).set (N+1) (.cells [.int .i64 n3,u3,.int .i64 n4,u4] 114 true)).set (N+2) (.cells [.int .i64 0,.aa,.int .i64 0,.aa] 114 true)=hB at*
 have b1:hB.get N=some (.cells [.int .i64 n1,u1,.int .i64 n2,u2] 114 true):=by rw[<-iZ];simp
 have b2:hB.get (N+1)=some (.cells [.int .i64 n3,u3,.int .i64 n4,u4] 114 true):=by rw[<-iZ];simp
 have b3:hB.get (N+2)=some (.cells [.int .i64 0,.aa,.int .i64 0,.aa] 114 true):=by rw[<-iZ];simp
 refine ax (UK (mW.ae kB)) ?_
 rintro _ h0 m0 k0 rfl
 have zay:=k0.le
 have k0':=kB.trans k0
 have d1:=(k0.get N (by omega)).trans b1
 have d2:=(k0.get (N+1) (by omega)).trans b2
 have d3:=(k0.get (N+2) (by omega)).trans b3
 by_cases cp:p.den=1
 ·simp[cp,d2,aU,aJ]
  refine ax (UK (uC.ae k0')) ?_
  rintro _ h1 m1 k1 rfl
  have eR:=k1.le
  have g1:=(k1.get N (by omega)).trans d1
  have g2:=(k1.get (N+1) (by omega)).trans d2
  have g3:=(k1.get (N+2) (by omega)).trans d3
  have k1':=k0'.trans k1
  by_cases cq:q.den=1
  ·simp[cq,g1,g2,aU,aJ]
   refine ax (JR (s1.ae k1') (s3.ae k1') (by omega) (by omega)) ?_
   rintro v5 h2 m2 k2 q1
   have f_:=k2.le
   simp[]
   refine ax (UE q1) ?_
   rintro _ h3 m3 k3 ⟨n5,u5,n6,u6,rfl,t1,t2⟩
   have o5:=dt t1
   have o6:=dt t2
   unfold V.one at o5 o6
   have iX:=k3.le
   have f5:=(k3.get (N+2) (by omega)).trans ((k2.get (N+2) (by omega)).trans g3)
   simp[f5,aU,aJ,ag,bW,o5,o6,aA]
   have kk:=(k1'.trans k2).trans k3
   have NL:p+q=((p.num+q.num:Int):Rat):=by rw[UM cp,UM cq];simp
   rw[NL]
   exact⟨kk.set (by omega),n5,u5,n6,u6,rfl,t1.aE (i:=N+2) f5 mD rfl,t2.aE (i:=N+2) f5 mD rfl⟩
  ·simp[cq]
   refine oU (Yra (N:=N) (p:=p) (q:=q) (by omega) (by simp[ad]) g1 g2 g3 (s1.ae k1') (s2.ae k1') (s3.ae k1') (s4.ae k1') l1 l2 l3 l4 (by simp) (by simp) (by simp)) ?_
   rintro e fr ⟨H6,n6,W6⟩ ⟨rfl,r6,rfl,c4,q1,q2,q3,m5,v5,m6,v6,q4,q5⟩
   simp only at q1 q2 q3 q4 q5
   simp[c4,q4,aU,aJ,aA,q1]
   exact⟨⟨by omega,fun i hi=>(q2 i hi).trans (k1'.get i hi)⟩,q5⟩
 ·simp[cp]
  refine oU (Yra (N:=N) (p:=p) (q:=q) (by omega) (by simp[ad]) d1 d2 d3 (s1.ae k0') (s2.ae k0') (s3.ae k0') (s4.ae k0') l1 l2 l3 l4 (by simp) (by simp) (by simp)) ?_
  rintro e fr ⟨H6,n6,W6⟩ ⟨rfl,r6,rfl,c4,q1,q2,q3,m5,v5,m6,v6,q4,q5⟩
  simp only at q1 q2 q3 q4 q5
  simp[c4,q4,aU,aJ,aA,q1]
  exact⟨⟨by omega,fun i hi=>(q2 i hi).trans (k0'.get i hi)⟩,q5⟩
set_option maxHeartbeats 2000000
def A.b146:aq:=sr [⟨(some 2),.alloc [(.int .i64 0),.aa,(.int .i64 0),.aa] 114,none⟩]
 (sr [mv 7 0,⟨(some 8),.call (.const (.func 210 [] [])) [(.tmp 7),(.const (.str [47]))],none⟩,mv 6 8,xt 9 6 0,xt 10 6 1,xt 11 6 2,mv 3 9,mv 4 10,mv 5 11]
 (.seq (sr [mv 12 5,⟨(some 13),.un .not (.tmp 12),none⟩]
 (cd 13
 (sr [mv 14 3,c1 15 211 14,c1 16 189 15,⟨none,.store 4 (.tmp 2) (.tmp 16),none⟩]
 (.ret))
 (.skip)))
 (sr [mv 17 3,c1 18 211 17,mv 19 4,c1 20 211 19,⟨(some 21),.build [(.int .i64 0),.aa,(.int .i64 0),.aa] [(0,2,(.tmp 18)),(2,2,(.tmp 20))],none⟩,⟨none,.store 4 (.tmp 2) (.tmp 21),none⟩]
 (.ret))))
theorem A.c146:A.F 146=some ⟨22,[.cell 2 (some 4)],A.b146⟩:=by kernel_rfl
def A.k146:=@A.kk 146 _ _ _ A.c146 rfl
theorem UO{z:Int}{h:T O}{N:Nat}(hl:(aK z).length<=100000):Fn A.C 211 [.str (aK z)] h N (fun v h' n'=>In h' n' v z):=by
 have hb:(ak z.natAbs).length<=100000:=by
  unfold aK at hl
  split at hl<;>(try simp at hl)<;>omega
 have:=Yar (s:=aK z) (h:=h) (N:=N) (by rw[GG];exact zf _) (by rw[GG];exact hb)
 rw[I5,GG,DW]at this
 have e:(if decide (z<0)=true then -(z.natAbs:Int) else (z.natAbs:Int))=z:=by
  by_cases hz:z<0<;>simp[hz]<;>omega
 rw[e]at this
 exact this
theorem Yln{q:Rat}{h:T O}{N:Nat}(l1:(aK q.num).length<=100000)(l2:(ak q.den).length<=100000):Fn A.C 146 [.str (aW q)] h N (fun v h' n'=>Fc h' n' v q):=by
 intro w
 have hc:=fun st=>Yiu (s:=aW q) (st:=st) (by unfold aW;split<;>(try simp)<;>omega)
 rw[I6]at hc
 have kB:=aL (ab.refl (h:=h) (n:=N)) (.cells [.int .i64 0,.aa,.int .i64 0,.aa] 114 true)
 rw[aR,A.k146 (by simp)]
 by_cases c1:q.den=1
 ·have aD:¬ah (aW q)<(aW q).length:=fun hx=>(Au q).1 hx c1
  simp[A.b146,hc,aD]
  refine ax (UO l1) ?_
  rintro v1 h1 m1 k1 q1
  simp[]
  refine ax (UE q1) ?_
  rintro _ h3 m3 k3 ⟨n5,u5,n6,u6,rfl,t1,t2⟩
  have o5:=dt t1
  have o6:=dt t2
  unfold V.one at o5 o6
  have eR:=k1.le
  have iX:=k3.le
  have kk:=(kB.trans k1).trans k3
  have f5:=((k1.trans k3).get N (by omega))
  rw[T.ai,aF rfl]at f5
  simp[f5,aU,aJ,ag,bW,o5,o6,aA]
  rw[UM c1]
  exact⟨kk.set (by omega),n5,u5,n6,u6,rfl,t1.aE f5 mD rfl,t2.aE f5 mD rfl⟩
 ·have aD:ah (aW q)<(aW q).length:=(Au q).2 c1
  have hd:=I7 q c1
  have UL:ak q.den=aK ((q.den:Nat):Int):=by unfold aK;rw[au (by omega)];rfl
  rw[UL]at l2 hd
  simp[A.b146,hc,aD,hd]
  refine ax (UO l1) ?_
  rintro v1 h1 m1 k1 q1
  simp[]
  refine ax (UO l2) ?_
  rintro v2 h2 m2 k2 q2
  obtain⟨n5,u5,rfl,x6⟩:=q1.cells
  obtain⟨n6,u6,rfl,ED⟩:=q2.cells
  have o5:=x6
  have o6:=ED
  unfold V.one at o5 o6
  have eR:=k1.le
  have f_:=k2.le
  have kk:=(kB.trans k1).trans k2
  have f5:=((k1.trans k2).get N (by omega))
  rw[T.ai,aF rfl]at f5
  simp[f5,aU,aJ,ag,bW,o5,o6,aA]
  exact⟨kk.set (by omega),n5,u5,n6,u6,rfl,(q1.ae k2).aE f5 mD rfl,q2.aE f5 mD rfl⟩
variable {N k:Nat} {h:T O} {x:V} {z:Int}
def A.b106:aq:=sr [bx 1 114 0,⟨(some 2),.aY (.const (.bool false)),none⟩]
 (sr [fa 3 0 1,lN 4 2 3,c1 5 170 4,mv 6 5,⟨(some 7),.de 2 (.tmp 1),(some (6,false))⟩,⟨(some 8),.load (some 2) (.tmp 7),(some (6,false))⟩,⟨(some 9),.call (.const (.func 170 [] [])) [(.tmp 8)],(some (6,false))⟩,pt 10 6 9,mv 2 10]
 (.ret))
theorem A.c106:A.F 106=some ⟨11,[.tmp 2],A.b106⟩:=by kernel_rfl
def A.k106:=@A.kk 106 _ _ _ A.c106 rfl
def A.b170:aq:=sr [bx 1 112 0,⟨(some 2),.aY (.const (.bool false)),none⟩]
 (sr [lN 3 2 1,c1 4 239 3,bc 5 .gtr 4 1800,mv 6 5,⟨(some 7),.load (some 2) (.tmp 1),(some (6,true))⟩,⟨(some 8),.call (.const (.func 172 [] [])) [(.tmp 7)],(some (6,true))⟩,⟨(some 9),.call (.const (.func 240 [] [])) [(.tmp 8),(.const (.str [45]))],(some (6,true))⟩,⟨(some 10),.len 0 (.tmp 9),(some (6,true))⟩,⟨(some 11),.bin .gtr (.node []) false (.tmp 10) (.const (.int .i64 600)),(some (6,true))⟩,pf 12 6 11,mv 2 12]
 (.ret))
theorem A.c170:A.F 170=some ⟨13,[.tmp 2],A.b170⟩:=by kernel_rfl
def A.k170:=@A.kk 170 _ _ _ A.c170 rfl
def A.b239:aq:=sr [bx 1 112 0,mc 2 0]
 (sr [lN 6 2 1,c1 7 222 6,mv 5 7,xt 8 5 0,xt 9 5 1,mv 3 8,mv 4 9]
 (.seq (sr [mv 10 4,ln 11 10,ei 12 11 0]
 (cd 12
 (sr [mc 2 0]
 (.ret))
 (.skip)))
 (sr [mv 13 4,ln 14 13,bc 15 .sub 14 1,⟨(some 16),.bin .mul (.node []) false (.const (.int .i64 64)) (.tmp 15),none⟩,mv 17 4,mv 18 4,ln 19 18,bc 20 .sub 19 1,ia 21 1 17 20,ld 22 21,c1 23 268 22,bi 24 .add 16 23,mv 2 24]
 (.ret))))
theorem A.c239:A.F 239=some ⟨25,[.tmp 2],A.b239⟩:=by kernel_rfl
def A.k239:=@A.kk 239 _ _ _ A.c239 rfl
theorem Fc.parts{q:Rat}(s:Fc h N x q):∃n1 u1 n2 u2,x=.agg [.int .i64 n1,u1,.int .i64 n2,u2]/\In h N (.agg [.int .i64 n1,u1]) q.num/\In h N (.agg [.int .i64 n2,u2]) (q.den:Int)/\V.one u1=true/\V.one u2=true:=by
 obtain⟨n1,u1,n2,u2,rfl,s1,s2⟩:=s
 exact⟨n1,u1,n2,u2,rfl,s1,s2,dt s1,dt s2⟩
theorem Yhj{n d:Nat}(hk:(aC n).length=k+1)(hd:(aC n)[k]?=some d):n<2^(64*k+ba d):=by
 have h1:=kv n
 have h2:=Ca (b:=B) hd
 rw[eF (by omega),h1]at h2
 have h3:val B ((aC n).take k)<B^k:=by
  have:=Cb (b:=B) (l:=(aC n).take k) (fun x hx=>oY n x (rQ hx))
  rw[fR,nA (by omega)]at this;exact this
 have h4:d+1<=2^ba d:=M3 d
 have h5:B^k*(d+1)<=B^k*2^ba d:=jo _ h4
 have h6:B^k=2^(64*k):=by rw[Nat.pow_mul];rfl
 rw[jH,<-h6]
 rw[qy]at h5
 omega
theorem Zt9{n b:Nat}(h:600<(ak n).length)(hb:n<2^b):1800<b:=by
 apply Classical.byContradiction
 intro hc
 obtain⟨M,hM⟩:∃M:Nat,M=600:=⟨_,rfl⟩
 have h1:n<2^(3*M):=eY hb (I9 (by omega))
 have h2:(2:Nat)^(3*M)<=10^M:=by
  rw[Nat.pow_mul]
  exact CX (by decide) _
 have h3:=(Ly (n:=n) (k:=M) (by omega)).2 (eY h1 h2)
 omega
theorem Ymj(hx:In h N x z)(hl:wl z<10000000000):Fn A.C 239 [x] h N (fun v _ _=>∃b:Nat,v=.int .i64 b/\z.natAbs<2^b):=by
 intro w
 obtain⟨n,u,rfl,hu⟩:=hx.cells
 have mj:=hu
 unfold V.one at mj
 have k0:=(ab.refl (h:=h) (n:=N)).new (.cells [.int .i64 n,u] 112 true)
 rw[aR,A.k239 (by simp)]
 simp[A.b239,aU,aJ,mj]
 refine ax (AE (hx.ae k0)) ?_
 rintro _ h1 m1 k1 ⟨u2,rfl,hw⟩
 have hlen:=Sl.len hw
 rw[bl]at hlen
 by_cases h0:(aC z.natAbs).length=0
 ·rw[h0]at hlen
  have hz:z.natAbs=0:=by
   have:=kv z.natAbs
   rw[qa h0]at this
   simpa[val]using this.symm
  simp[hlen,aA]
  exact⟨k0.trans k1,0,rfl,by omega⟩
 ·obtain⟨k,hk⟩:∃k,(aC z.natAbs).length=k+1:=⟨(aC z.natAbs).length-1,by omega⟩
  rw[hk]at hlen
  obtain⟨d,hd⟩:=bV (l:=aC z.natAbs) (k:=k) (by omega)
  obtain⟨i,o,c,e,rw,q1,q2,q3,q4⟩:=Sl.at hw (eW hd)
  have Ng:d<18446744073709551616:=(oY _).get hd
  have wg:k+1<10000000000:=by
   have:=hl
   unfold wl at this
   omega
  have XF:ba d<=64:=by
   apply Classical.byContradiction
   intro hc
   have h1:d≠0:=fun h=>by rw[h]at hc;simp[ba]at hc
   have h2:=GQ h1
   have h3:=I9 (j:=64) (k:=ba d-1) (by omega)
   have h4:(2:Nat)^64=18446744073709551616:=by decide
   omega
  have c1:¬((k:Int)+1=0):=by omega
  have c2:bn .i64 ((k:Int)+1-1)=(k:Int):=by rw[cj (by omega) (by omega)];omega
  have c3:bn .i64 (64*(k:Int))=64*(k:Int):=cj (by omega) (by omega)
  have c4:bn .i64 (64*(k:Int)+(ba d:Nat))=64*(k:Int)+(ba d:Nat):=cj (by omega) (by omega)
  have c5:(k:Int)<(k:Int)+1:=by omega
  simp(disch:=omega) [hlen,c1,c3,q1,q3,q4]
  refine ax (Tp Ng) ?_
  rintro _ h2 m2 k2 ⟨rfl,rfl,rfl⟩
  simp[c4,aA]
  exact⟨k0.trans k1,64*k+ba d,by simp,Yhj hk hd⟩
theorem Yb1(hx:In h N x z)(hP:jm h N)(hl:wl z<10000000000)(hd:(cJ z.natAbs).length<1000000000):Fn A.C 170 [x] h N (fun v _ _=>v=.bool (decide (600<(ak z.natAbs).length))):=by
 intro w
 obtain⟨n,u,rfl,hu⟩:=hx.cells
 have mj:=hu
 unfold V.one at mj
 have k0:=(ab.refl (h:=h) (n:=N)).new (.cells [.int .i64 n,u] 112 true)
 have g0:(h.set N (.cells [.int .i64 n,u] 112 true)).get N=some (.cells [.int .i64 n,u] 112 true):=by rw[T.ai,aF rfl]
 rw[aR,A.k170 (by simp)]
 simp[A.b170,aU,aJ,mj]
 refine ax (Ymj (hx.ae k0) hl) ?_
 rintro _ h1 m1 k1 ⟨b,rfl,hb⟩
 have g1:=(k1.get N (by omega)).trans g0
 by_cases hbb:1800<b
 ·have EH:(1800:Int)<(b:Int):=by omega
  simp[EH,g1,aU,aJ]
  refine ax (NG ((hx.ae k0).ae k1) ((hP.ae k0).ae k1) (by omega)) ?_
  rintro _ h2 m2 k2 rfl
  have ht:=fun st=>Zje (s:=aK z) (st:=st)
  rw[GG]at ht
  simp[ht,aA]
  exact⟨(k0.trans k1).trans k2,by omega⟩
 ·have EH:¬(1800:Int)<(b:Int):=by omega
  have Ia:¬600<(ak z.natAbs).length:=fun hc=>hbb (Zt9 hc hb)
  simp[EH,Ia,aA]
  exact k0.trans k1
theorem wv(h:z.natAbs<2^k):wl z<=k:=by
 have:=Co (eY h (CX (by decide) k))
 unfold wl at this ⊢
 rwa [dm]at this
theorem Yct{q:Rat}(hx:Fc h N x q)(hP:jm h N)(hq:Qb k q)(hk:k<=400000000):Fn A.C 106 [x] h N (fun v _ _=>v=.bool (vJ q)):=by
 intro w
 obtain⟨n1,u1,n2,u2,rfl,s1,s2,o1,o2⟩:=hx.parts
 unfold V.one at o1 o2
 have k0:=(ab.refl (h:=h) (n:=N)).new (.cells [.int .i64 n1,u1,.int .i64 n2,u2] 114 true)
 have g0:(h.set N (.cells [.int .i64 n1,u1,.int .i64 n2,u2] 114 true)).get N=some (.cells [.int .i64 n1,u1,.int .i64 n2,u2] 114 true):=by rw[T.ai,aF rfl]
 have l1:=Ja hq.1
 have l2:=Ja hq.2
 have z1:=wv hq.1
 have z2:=wv (z:=(q.den:Int)) (k:=k) (by rw[dm];exact hq.2)
 rw[aR,A.k106 (by simp)]
 simp[A.b106,aU,aJ,o1,o2]
 refine ax (Yb1 (s1.ae k0) (hP.ae k0) (by omega) (by omega)) ?_
 rintro _ h1 m1 k1 rfl
 have g1:=(k1.get N (by omega)).trans g0
 unfold vJ
 by_cases c1:600<(ak q.num.natAbs).length
 ·simp[c1,aA]
  exact k0.trans k1
 ·simp[c1,g1,aU,aJ]
  refine ax (Yb1 ((s2.ae k0).ae k1) ((hP.ae k0).ae k1) (by omega) (by rw[dm];omega)) ?_
  rintro _ h2 m2 k2 rfl
  simp[aA]
  exact(k0.trans k1).trans k2
variable {N:Nat} {h:T O} {l:List Rat} {q:Rat} {v:V}
set_option maxHeartbeats 1000000
def A.po:aq:=sr [bi 12 .lss 11 10]
 (.seq (cd 12
 (.skip)
 (.exit 0))
 (.seq (.block 1 (sr [mv 13 11,ia 14 4 9 11,lN 15 4 14,⟨(some 5),.alloc [(.int .i64 0),.aa,(.int .i64 0),.aa] 114,none⟩,mv 4 13,⟨none,.store 4 (.tmp 5) (.tmp 15),none⟩]
 (.aM [mv 16 3,mv 17 4,lN 18 4 5,c1 19 107 18,ia 20 1 16 17,so 20 19])))
 (.aM [bc 21 .add 11 1,mv 11 21])))
def A.b152:aq:=sr [mN 2]
 (sr [mv 6 0,ln 7 6,⟨(some 8),.bO 36 1 16 [(.str [])] (.tmp 7) (.tmp 7),none⟩,mv 3 8]
 (.seq (sr [mv 9 0,ln 10 9,mc 11 0]
 (.block 0 (.loop A.po)))
 (sr [mv 22 3,mv 2 22]
 (.ret))))
theorem A.c152:A.F 152=some ⟨23,[.tmp 2],A.b152⟩:=by kernel_rfl
def A.k152:=@A.kk 152 _ _ _ A.c152 rfl
def eG(h:T O)(N:Nat)(c:List V)(q:Rat):Prop:=∃n1 u1 n2 u2,c=[.int .i64 n1,u1,.int .i64 n2,u2]/\In h N (.agg [.int .i64 n1,u1]) q.num/\In h N (.agg [.int .i64 n2,u2]) (q.den:Int)
theorem eG.ae{h':T O}{N':Nat}{c:List V}(s:eG h N c q)(k:ab h N h' N'):eG h' N' c q:=by
 obtain⟨n1,u1,n2,u2,rfl,s1,s2⟩:=s
 exact⟨n1,u1,n2,u2,rfl,s1.ae k,s2.ae k⟩
theorem eG.fc{c:List V}(s:eG h N c q):Fc h N (.agg c) q:=by
 obtain⟨n1,u1,n2,u2,rfl,s1,s2⟩:=s
 exact⟨n1,u1,n2,u2,rfl,s1,s2⟩
theorem Fc.c{x:V}(s:Fc h N x q):∃c,x=.agg c/\eG h N c q:=by
 obtain⟨n1,u1,n2,u2,rfl,s1,s2⟩:=s
 exact⟨_,rfl,n1,u1,n2,u2,rfl,s1,s2⟩
def rD(c:List V):Prop:=∀x∈c,∀m,x≠.int .u64 m
theorem Zv9{n:Int}{u:V}{z:Int}(s:In h N (.agg [.int .i64 n,u]) z):∀m,u≠.int .u64 m:=by
 rcases s with⟨h1,_⟩|⟨i,o,l,c,h1,_⟩
 ·simp at h1;rw[h1.2];simp
 ·simp at h1;rw[h1.2];simp
theorem eG.EI{c:List V}(s:eG h N c q):rD c:=by
 obtain⟨n1,u1,n2,u2,rfl,s1,s2⟩:=s
 intro x hx m
 simp at hx
 rcases hx with rfl|rfl|rfl|rfl
 ·simp
 ·exact Zv9 s1 m
 ·simp
 ·exact Zv9 s2 m
theorem eG.len{c:List V}(s:eG h N c q):c.length=4/\c.all V.one=true:=by
 obtain⟨n1,u1,n2,u2,rfl,s1,s2⟩:=s
 have o1:=dt s1
 have o2:=dt s2
 exact⟨rfl,by simp only[List.all_cons,List.all_nil,o1,o2,Bool.and_true];rfl⟩
theorem eG.aE{i:Nat}{c c0 c1:List V}{e0 e1:TypeId}{w0 w1:Bool}(s:eG h N c q)(g:h.get i=some (.cells c0 e0 w0))(hn:rD c0)(hc:c1.length=c0.length):eG (h.set i (.cells c1 e1 w1)) N c q:=by
 obtain⟨n1,u1,n2,u2,rfl,s1,s2⟩:=s
 exact⟨n1,u1,n2,u2,rfl,s1.aE g hn hc,s2.aE g hn hc⟩
def nW(h:T O)(N:Nat)(v:V)(l:List Rat):Prop:=∃cs:List (List V),Sn 4 h N v cs/\cs.length=l.length/\∀(j:Nat) (q:Rat),l[j]?=some q->∃c,cs[j]?=some c/\eG h N c q
theorem nW.ae{h':T O}{N':Nat}(s:nW h N v l)(k:ab h N h' N'):nW h' N' v l:=by
 obtain⟨cs,h1,h2,h3⟩:=s
 refine⟨cs,h1.ae k,h2,fun j q hq=>?_⟩
 obtain⟨c,g1,g2⟩:=h3 j q hq
 exact⟨c,g1,g2.ae k⟩
theorem nW.len(s:nW h N v l):ki v=some l.length:=by
 obtain⟨cs,h1,h2,_⟩:=s
 rw[h1.len,h2]
theorem nW.at(s:nW h N v l){j:Nat}{q:Rat}(hj:l[j]?=some q):∃i o x e rw c,vc v=some (i,o)/\i<N/\h.get i=some (.cells x e rw)/\aJ x (o+j*4) 4=some c/\eG h N c q:=by
 obtain⟨cs,h1,h2,h3⟩:=s
 obtain⟨c,h4,h5⟩:=h3 j q hj
 obtain⟨i,o,x,e,rw,q1,q2,q3,q4⟩:=h1.at h4
 exact⟨i,o,x,e,rw,c,q1,q2,q3,q4,h5⟩
def fK(h:T O)(N:Nat)(v:V)(l:List Rat):Prop:=nW h N v l/\∀i∈cA v,∃z w,h.get i=some (.cells z 114 w)
def tx(l:List Rat):List V:=strs (l.map aW)
theorem wJ(l:List Rat):(tx l).length=l.length:=by simp[tx,strs]
theorem CJ{j:Nat}(h:l[j]?=some q):(tx l)[j]?=some (.str (aW q)):=by simp[tx,strs,h]
def zF:List V:=[.int .i64 0,.aa,.int .i64 0,.aa]
theorem G6{z:List V}{n:Nat}:cN z (n+1)=z++cN z n:=by
 unfold cN
 rw[Nat.succ_mul,Nat.add_comm (n*z.length),List.range_add,List.map_append,List.map_map]
 congr 1
 ·apply m7
  intro j
  by_cases hj:j<z.length
  ·rw[jf,FT hj]
   simp[uU hj,hj]
  ·rw[gJ (by simp;omega),gJ (by omega)]
 ·apply Ba
  intro i _
  simp[Nat.add_mod_left]
theorem NM{a b c x:List V}{n o:Nat}(ha:a.length=o)(hb:b.length=n)(hx:x.length=n):ag (a++(b++c)) o x=a++(x++c):=by
 unfold ag
 rw[<-ha,List.take_left,hx,<-List.drop_drop,List.drop_left,<-hb,List.drop_left,qw]
structure FaI (h:T O) (N:Nat) (l:List Rat) (m:Nat) (r:T V) (st:St):Prop where
 w:ad N st.w=[]
 ae:ab h N st.h st.n
 ex:∃(k:Nat) (cs:List (List V)),k+m=l.length/\r.get 11=some (.int .i64 k)/\r.get 3=some (.slice N 0 l.length (some l.length) 4)/\N<st.n/\st.h.get N=some (.cells (cs.flatten++cN zF m) 114 true)/\cs.length=k/\∀(j:Nat) (q:Rat),j<k->l[j]?=some q->∃c,cs[j]?=some c/\eG st.h st.n c q
theorem UP{cs:List (List V)}(hl:cs.length<=l.length)(hc:∀(j:Nat) (q:Rat),j<cs.length->l[j]?=some q->∃c,cs[j]?=some c/\eG h N c q):(∀c∈cs,c.length=4)/\rD cs.flatten/\cs.flatten.all V.one=true:=by
 have key:∀c∈cs,∃q,eG h N c q:=fun c xI=>by
  obtain⟨j,hj⟩:=zC xI
  have aD:=mM hj
  obtain⟨q,hq⟩:=bV (l:=l) (k:=j) (by omega)
  obtain⟨c',h1,h2⟩:=hc j q aD hq
  rw[hj]at h1
  simp only[aj]at h1
  subst h1
  exact⟨q,h2⟩
 refine⟨fun c xI=>?_,fun x hx m=>?_,?_⟩
 ·obtain⟨q,hq⟩:=key c xI;exact hq.len.1
 ·obtain⟨c,xI,EJ⟩:=List.mem_flatten.1 hx
  obtain⟨q,hq⟩:=key c xI
  exact hq.EI x EJ m
 ·rw[m8]
  intro x hx
  obtain⟨c,xI,EJ⟩:=List.mem_flatten.1 hx
  obtain⟨q,hq⟩:=key c xI
  exact m8.1 hq.len.2 x EJ
theorem NN:∀{n:Nat},rD (cN zF n)
 |0=>by intro x hx;simp[cN]at hx
 |n+1=>by
  intro x hx m
  rw[G6]at hx
  rcases oF.1 hx with hx|hx
  ·simp[zF]at hx
   rcases hx with rfl|rfl|rfl|rfl<;>simp
  ·exact NN x hx m
theorem rD.app{a b:List V}(ha:rD a)(hb:rD b):rD (a++b):=fun x hx m=>by
 rcases oF.1 hx with hx|hx
 ·exact ha x hx m
 ·exact hb x hx m
theorem Yhv(n:Nat):(cN zF n).length=n*4:=by
 induction n with
 |zero=>simp[cN]
 |succ n ih=>rw[G6,fQ,ih];simp[zF];omega
structure TaI (h:T O) (N:Nat) (l:List Rat) (m:Nat) (r:T V) (st:St):Prop where
 w:ad N st.w=[]
 ae:ab h N st.h st.n
 ex:∃(k:Nat),k+m=l.length/\r.get 11=some (.int .i64 k)/\r.get 3=some (.slice N 0 l.length (some l.length) 1)/\N<st.n/\st.h.get N=some (.cells (tx (l.take k)++List.replicate m (V.str [])) 36 true)
theorem Yel{k0:Nat}(hs:nW h N v l)(hP:jm h N)(hl:l.length<1000000000)(hq:∀q∈l,Qb k0 q)(zb:k0<=400000000):Fn A.C 152 [v] h N (fun u h' n'=>Sl h' n' u (tx l)/\∀i∈cA u,∃z w,h'.get i=some (.cells z 36 w)):=by
 intro w
 have hlen:=hs.len
 have c1:(16:Int)*(l.length:Int)<=140737488355328:=by omega
 have c2:(l.length:Int)<4611686018427387904:=by omega
 have kB:ab h N (h.set N (.cells (cN [.str []] l.length) 36 true)) (N+1):=ab.refl.new _
 rw[aR,A.k152 (by simp)]
 simp[A.b152,hlen,c1,c2]
 refine bQ [(4,5),(11,21)] (fun e r st=>e=.exit 0/\TaI h N l 0 r st) (TaI h N l) l.length ?_ ?_ ?_
 ·exact⟨by simp,kB,0,by omega,by simp,by simp,by show N<N+1;omega,by rw[T.ai,aF rfl,WN];simp[tx,strs]⟩
 ·rintro m r ⟨H,n1,W⟩ hr hf ⟨hW,hK,k,hk,jM,h3,sQ,hM⟩
  simp only at hW hK hM sQ
  rw[bA]
  cases m with
  |zero=>
   obtain rfl:k=l.length:=by omega
   simp[A.po,hr,hf,jM]
   exact⟨hW,hK,l.length,by omega,by simp[jM],by simp[h3],sQ,hM⟩
  |succ m=>
   have aD:k<l.length:=by omega
   have bm:(k:Int)<(l.length:Int):=by omega
   obtain⟨q,UQ⟩:=bV aD
   have rJ:=hq q (du UQ)
   obtain⟨i,o,x,e,rw,c,q1,q2,q3,q4,q5⟩:=(hs.ae hK).at UQ
   obtain⟨uH,u1,nj,u2,rfl,s1,s2⟩:=q5
   have o1:=dt s1
   have o2:=dt s2
   unfold V.one at o1 o2
   have la:=Ja rJ.1
   have UR:=Ja rJ.2
   have eX:=hK.le
   have e4:ag [.int .i64 0,.aa,.int .i64 0,.aa] 0 [.int .i64 uH,u1,.int .i64 nj,u2]=[.int .i64 uH,u1,.int .i64 nj,u2]:=rfl
   have e5:aJ [.int .i64 uH,u1,.int .i64 nj,u2] 0 4=some [.int .i64 uH,u1,.int .i64 nj,u2]:=rfl
   have kA:ab H n1 ((H.set n1 (.cells [.int .i64 0,.aa,.int .i64 0,.aa] 114 true)).set n1 (.cells [.int .i64 uH,u1,.int .i64 nj,u2] 114 true)) (n1+1):=(ab.refl.new _).set (aS _)
   simp[A.po,hr,jM,bm,hlen,q1,q3,q4,aU,bW,o1,o2,e4,e5]
   refine ax (Yje (q:=q) (Fc.ae ⟨uH,u1,nj,u2,rfl,s1,s2⟩ kA) ((hP.ae hK).ae kA) (by omega) (by omega)) ?_
   rintro _ H2 n2 k2 rfl
   have nw:=k2.le
   have sN:=(k2.get N (by omega)).trans ((kA.get N sQ).trans hM)
   have hb:k+1<=(tx (l.take k)++List.replicate (m+1) (V.str [])).length:=by
    rw[fQ,wJ,List.length_replicate,fR];omega
   have iB:ag (tx (l.take k)++List.replicate (m+1) (V.str [])) k [.str (aW q)]=tx (l.take (k+1))++List.replicate m (V.str []):=by
    have e1:(tx (l.take k)++List.replicate (m+1) (V.str []))=tx (l.take k)++([V.str []]++List.replicate m (V.str [])):=by rw[List.replicate_succ];rfl
    rw[e1,NM (n:=1) (by rw[wJ,fR];omega) rfl rfl,pV,UQ]
    simp[tx,strs]
   generalize tx (l.take k)++List.replicate (m+1) (V.str [])=X at*
   obtain⟨Y,hY⟩:∃Y,tx (l.take (k+1))++List.replicate m (V.str [])=Y:=⟨_,rfl⟩
   rw[hY]at iB
   simp(disch:=first|(simp;done)|omega|(simp only[bl,bG,bh];omega)|rfl) [hf,jM,sN,bW,hb,iB]
   refine⟨m,by omega,⟨by simp[ad,hW];omega,((hK.trans kA).trans k2).set (aS N),k+1,by omega,by simp,by simp[h3],by show N<n2;omega,by show T.get _ N=_;rw[T.ai,aF rfl,hY]⟩⟩
 ·rintro _ r ⟨H,n1,W⟩ hr ⟨rfl,hW,hK,k,hk,jM,h3,sQ,hM⟩
  simp only at hW hK hM sQ
  obtain rfl:k=l.length:=by omega
  rw[vK]at hM
  simp only[List.replicate_zero,uT]at hM
  simp[hr,aA,hW,hK]
  exact⟨Sl.row sQ hM (wJ l) (fun k hk=>by simp at hk;omega),fun i hi=>by simp[cA]at hi;subst hi;exact⟨_,.inr hM⟩⟩
variable {N k:Nat} {h:T O} {l:List Rat} {m:List (List Rat)} {v:V}
def A.sR:aq:=.seq (sr [mv 7 6,mv 8 0,ln 9 8,bi 10 .lss 7 9]
 (cd 10
 (.skip)
 (.exit 0)))
 (.seq (.block 1 (.aV [mv 13 5,mv 14 0,mv 15 6,ia 16 1 14 15,ld 17 16,mv 18 1,mv 19 6,ia 20 1 18 19,ld 21 20,c2 22 96 17 21,c2 23 95 13 22,mv 5 23] [0,0,0,6,14,0,0,96,224,510,1023,2047]))
 (.aM [mv 11 6,bc 12 .add 11 1,mv 6 12]))
def A.b20:aq:=sr [⟨(some 4),.aY (.const (.str [])),none⟩]
 (sr [⟨(some 5),.aY (.const (.str [48])),none⟩]
 (.seq (sr [mc 6 0]
 (.block 0 (.loop A.sR)))
 (sr [mv 24 5,mv 4 24]
 (.ret))))
theorem A.c20:A.F 20=some ⟨25,[.tmp 4],A.b20⟩:=by kernel_rfl
def A.k20:=@A.kk 20 _ _ _ A.c20 rfl
def sS(a b:List Rat):Nat->Rat
 |0=>0
 |k+1=>sS a b k+a[k]?.getD 0*b[k]?.getD 0
def AO(a b:List Rat):Rat:=sS a b a.length
theorem Qb.zero:Qb 1 0:=⟨by decide,by decide⟩
theorem EK{l:List Rat}{k:Nat}(h:∀q∈l,Qb k q)(hk:1<=k)(j:Nat):Qb k (l[j]?.getD 0):=by
 cases hj:l[j]? with
 |none=>exact Qb.zero.mono hk
 |some q=>exact h q (du hj)
theorem NO{a b:List Rat}{j k:Nat}(ha:∀q∈a,Qb j q)(hb:∀q∈b,Qb k q)(hj:1<=j)(hk:1<=k):∀n,Qb (n*(j+k+1)+1) (sS a b n)
 |0=>by simpa[sS]using Qb.zero
 |n+1=>by
  have h:=(NO ha hb hj hk n).add ((EK ha hj n).mul (EK hb hk n))
  exact h.mono (by rw[iE];omega)
def Tx(h:T O)(N:Nat)(v:V)(l:List Rat):Prop:=Sl h N v (tx l)
theorem Tx.ae{h':T O}{N':Nat}(s:Tx h N v l)(k:ab h N h' N'):Tx h' N' v l:=Sl.ae s k
theorem Tx.len(s:Tx h N v l):ki v=some l.length:=by
 have:=Sl.len s
 rwa [wJ]at this
theorem Yj1{u:V}{a b:List Rat}{j:Nat}(hu:Tx h N u a)(hv:Tx h N v b)(gT:a.length<=b.length)(ha:∀q∈a,Qb j q)(hb:∀q∈b,Qb k q)(hj:1<=j)(hk:1<=k)(hl:a.length*(j+k+1)+j+k+1<=400000000):Fn A.C 20 [u,v] h N (fun x _ _=>x=.str (aW (AO a b))):=by
 intro w
 have l1:=hu.len
 have l2:=hv.len
 have hal:a.length<=400000000:=by have:=Nat.le_mul_of_pos_right a.length (show 0<j+k+1 by omega);omega
 rw[aR,A.k20 (by simp)]
 simp[A.b20]
 refine bQ [(5,23)] (fun e r st=>e=.exit 0/\ad N st.w=[]/\ab h N st.h st.n/\r.get 5=some (.str (aW (AO a b)))) (fun m r st=>ad N st.w=[]/\ab h N st.h st.n/\∃t,t+m=a.length/\r.get 6=some (.int .i64 t)/\r.get 5=some (.str (aW (sS a b t)))) a.length ?_ ?_ ?_
 ·exact⟨by simp,ab.refl,0,by omega,by simp,by simp[sS,NP]⟩
 ·rintro m r ⟨H,n1,W⟩ hr hf ⟨hW,hK,t,ht,h6,h5⟩
  simp only at hW hK
  rw[bA]
  cases m with
  |zero=>
   obtain rfl:t=a.length:=by omega
   simp[A.sR,hr,hf,h6,h5,l1,hW,hK]
   rfl
  |succ m=>
   have aD:t<a.length:=by omega
   have bm:(t:Int)<(a.length:Int):=by omega
   have jv:t<b.length:=by omega
   have x9:(t:Int)<(b.length:Int):=by omega
   obtain⟨p,hp⟩:=bV aD
   obtain⟨q,hq⟩:=bV jv
   have A9:=ha p (du hp)
   have rJ:=hb q (du hq)
   have lC:=NO ha hb hj hk t
   have hmul:t*(j+k+1)<=a.length*(j+k+1):=jn _ (by omega)
   have e1:sS a b (t+1)=sS a b t+p*q:=by simp[sS,hp,hq]
   obtain⟨i,o,cc,e,rw,q1,q2,q3,q4⟩:=(Sl.ae hu hK).at (CJ hp)
   obtain⟨i',o',cc',e',vf,p1,p2,p3,p4⟩:=(Sl.ae hv hK).at (CJ hq)
   simp[A.sR,hr,h6,h5,l1,l2,bm,x9,q1,q2,q3,q4,p1,p2,p3,p4]
   refine ax (Ws A9 rJ (by omega) (by omega)) ?_
   rintro _ H2 n2 k2 rfl
   simp[]
   refine ax (QT lC (A9.mul rJ) (by omega) (by omega)) ?_
   rintro _ H3 n3 k3 rfl
   rw[<-e1]
   simp(disch:=first|(simp;done)|omega|rfl) [hf,h6,hW]
   exact⟨m,by omega,(hK.trans k2).trans k3,t+1,by omega,by simp,by simp⟩
 ·rintro _ r ⟨H,n1,W⟩ hr ⟨rfl,hW,hK,h5⟩
  simp only at hW hK
  simp[h5,aA,hW,hK]
def mJ(h:T O)(N:Nat)(v:V)(m:List (List Rat)):Prop:=∃us:List V,Sl h N v us/\us.length=m.length/\∀(j:Nat) (l:List Rat),m[j]?=some l->∃u,us[j]?=some u/\Tx h N u l
theorem mJ.ae{h':T O}{N':Nat}(s:mJ h N v m)(k:ab h N h' N'):mJ h' N' v m:=by
 obtain⟨us,h1,h2,h3⟩:=s
 refine⟨us,h1.ae k,h2,fun j l hl=>?_⟩
 obtain⟨u,g1,g2⟩:=h3 j l hl
 exact⟨u,g1,g2.ae k⟩
theorem mJ.len(s:mJ h N v m):ki v=some m.length:=by
 obtain⟨us,h1,h2,_⟩:=s
 rw[h1.len,h2]
theorem mJ.at(s:mJ h N v m){j:Nat}{l:List Rat}(hj:m[j]?=some l):∃i o c e rw u,vc v=some (i,o)/\i<N/\h.get i=some (.cells c e rw)/\c[o+j]?=some u/\Tx h N u l:=by
 obtain⟨us,h1,h2,h3⟩:=s
 obtain⟨u,g1,g2⟩:=h3 j l hj
 obtain⟨i,o,c,e,rw,q1,q2,q3,q4⟩:=h1.at g1
 exact⟨i,o,c,e,rw,u,q1,q2,q3,q4,g2⟩
end Go.Mx
