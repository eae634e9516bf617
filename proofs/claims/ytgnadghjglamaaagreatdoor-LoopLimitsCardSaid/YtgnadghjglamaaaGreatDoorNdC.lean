/-num-/
import Derived.Test.YtgnadghjglamaaaGreatDoorNcE
set_option linter.all false
set_option maxHeartbeats 4000000
namespace Go.Mx
noncomputable section
open Go Go.Proofs
set_option maxRecDepth 1000000
def A.b82:=A.q Tryz.f82
def A.k82:=@A.kk 82 16 [.tmp 4] A.b82 (by kernel_rfl) rfl
def A.b165:=A.q Tryz.f165
def A.k165:=@A.kk 165 16 [.tmp 2] A.b165 (by kernel_rfl) rfl
def Iq{x y:V}{p q:Rat}{h:T O}{N:Nat}(hx:Fc h N x p)(hy:Fc h N y q)(l1:wl p.num<1000000000)(l2:wl (p.den:Nat)<1000000000)(l3:wl q.num<1000000000)(l4:wl (q.den:Nat)<1000000000):Fn A.C 82 [x,y] h N (fun v _ _=>v=.int .i64 (df (p.num*(q.den:Nat)-q.num*(p.den:Nat)))):=by
 intro w
 rw[aV,A.k82 (by simp)]
 obtain⟨n1,u1,n2,u2,rfl,s1,s2⟩:=hx
 obtain⟨n3,u3,n4,u4,rfl,s3,s4⟩:=hy
 have o1:=de s1
 have o2:=de s2
 have o3:=de s3
 have o4:=de s4
 unfold V.one at o1 o2 o3 o4
 have kB:ae h N ((h.set N (.cells [.int .i64 n1,u1,.int .i64 n2,u2] 110 true)).set (N+1) (.cells [.int .i64 n3,u3,.int .i64 n4,u4] 110 true)) (N+2):=aI (aI ae.refl _) _
 simp(disch:=first|(simp;done)|omega|(simp only[Zab,aq,ak];omega)|rfl) [-getElem?_pos,A.b82,aJ,aE,ag,o1,o2,o3,o4]
 generalize gT:(h.set N (.cells [.int .i64 n1,u1,.int .i64 n2,u2] 110 true)).set (N+1) (.cells [.int .i64 n3,u3,.int .i64 n4,u4] 110 true)=hB at*
 have b1:hB.get N=some (.cells [.int .i64 n1,u1,.int .i64 n2,u2] 110 true):=by rw[<-gT];simp
 have b2:hB.get (N+1)=some (.cells [.int .i64 n3,u3,.int .i64 n4,u4] 110 true):=by rw[<-gT];simp
 refine az (Ap (s1.ah kB) (s4.ah kB) (by omega) (by omega)) ?_
 rintro v5 h1 m1 k1 q1
 have ft:=k1.le
 have f1:=(k1.get N (by omega)).trans b1
 have f2:=(k1.get (N+1) (by omega)).trans b2
 have e1:N<m1:=by omega
 have e2:N+1<m1:=by omega
 simp(disch:=first|(simp;done)|omega|(simp only[Zab,aq,ak];omega)|rfl) [-getElem?_pos,f1,f2,e1,e2,aJ,aE,ag]
 refine az (Ap ((s3.ah kB).ah k1) ((s2.ah kB).ah k1) (by omega) (by omega)) ?_
 rintro v6 h2 m2 k2 q2
 have gJ:=k2.le
 simp(disch:=first|(simp;done)|omega|(simp only[Zab,aq,ak];omega)|rfl) [-getElem?_pos,]
 refine az (Yh6 (q1.ah k2) q2 ?_ ?_) ?_
 ·have:=C2 p.num ((q.den:Nat):Int)
  omega
 ·have:=C2 q.num ((p.den:Nat):Int)
  omega
 ·rintro _ h3 m3 k3 rfl
  simp(disch:=first|(simp;done)|omega|(simp only[Zab,aq,ak];omega)|rfl) [-getElem?_pos,bU.bZ,aF]
  exact((kB.trans k1).trans k2).trans k3
def Yiq{x:V}{q:Rat}{h:T O}{N:Nat}(hx:Fc h N x q)(hP:mC h N)(l1:(dq q.num.natAbs).length<1000000000)(l2:(dq q.den).length<1000000000):Fn A.C 165 [x] h N (fun v _ _=>v=.str (ax q)):=by
 intro w
 rw[aV,A.k165 (by simp)]
 have ry:=hx
 obtain⟨n1,u1,n2,u2,rfl,s1,s2⟩:=hx
 have o1:=de s1
 have o2:=de s2
 unfold V.one at o1 o2
 have kB:=aI (ae.refl (h:=h) (n:=N)) (.cells [.int .i64 n1,u1,.int .i64 n2,u2] 110 true)
 simp(disch:=first|(simp;done)|omega|(simp only[Zab,aq,ak];omega)|rfl) [-getElem?_pos,A.b165,aJ,aE,ag,o1,o2]
 generalize gT:h.set N (.cells [.int .i64 n1,u1,.int .i64 n2,u2] 110 true)=hB at*
 have b1:hB.get N=some (.cells [.int .i64 n1,u1,.int .i64 n2,u2] 110 true):=by rw[<-gT];simp
 refine az (Yb8 (ry.ah kB)) ?_
 rintro _ h1 m1 k1 rfl
 have ft:=k1.le
 have f1:=(k1.get N (by omega)).trans b1
 have kk:=kB.trans k1
 by_cases c1:q.den=1
 ·simp(disch:=first|(simp;done)|omega|(simp only[Zab,aq,ak];omega)|rfl) [-getElem?_pos,c1,f1,aJ,aE]
  refine az (Ud (s1.ah kk) (hP.ah kk) (by omega)) ?_
  rintro _ h2 m2 k2 rfl
  simp(disch:=first|(simp;done)|omega|(simp only[Zab,aq,ak];omega)|rfl) [-getElem?_pos,aF,ax,c1]
  exact kk.trans k2
 ·have l0:N<m1:=by omega
  simp(disch:=first|(simp;done)|omega|(simp only[Zab,aq,ak];omega)|rfl) [-getElem?_pos,c1,f1,l0,aJ,aE]
  refine az (Ud (s1.ah kk) (hP.ah kk) (by omega)) ?_
  rintro _ h2 m2 k2 rfl
  have gJ:=k2.le
  have QA:=kk.trans k2
  have f2:=(k2.get N (by omega)).trans f1
  have l3:N<m2:=by omega
  have dP:IntKind.max .i64=9223372036854775807:=rfl
  have Sz:(aR q.num).length<2000000000:=by
   have h1:(av q.num.natAbs).length<=(dq q.num.natAbs).length+1:=by unfold av;split<;>simp
   unfold aR
   split<;>simp<;>omega
  have hS2:(av q.den).length<2000000000:=by
   have h1:(av q.den).length<=(dq q.den).length+1:=by unfold av;split<;>simp
   omega
  have lP:ax q=aR q.num++47::av q.den:=by unfold ax;rw[aA c1]
  have hdI:aR ((q.den:Nat):Int)=av q.den:=by unfold aR;rw[aA (by omega)];rfl
  rw[lP]
  generalize aR q.num=S1 at*
  have g1:¬(9223372036854775807:Int)<(S1.length:Int)+1:=by omega
  simp(disch:=first|(simp;done)|omega|(simp only[Zab,aq,ak];omega)|rfl) [-getElem?_pos,f2,l3,iX,dP,g1,aJ,aE]
  refine az (Ud (s2.ah QA) (hP.ah QA) (by rw[eG];omega)) ?_
  rintro _ h3 m3 k3 rfl
  rw[hdI]
  generalize av q.den=S2 at*
  have g2:¬(9223372036854775807:Int)<(S1.length:Int)+1+(S2.length:Int):=by omega
  simp(disch:=first|(simp;done)|omega|(simp only[Zab,aq,ak];omega)|rfl) [-getElem?_pos,iX,dP,g2,bU.bZ,aF]
  exact QA.trans k3
def A.QC:=A.q Tryz.f120
def A.rB:=A.qt A.QC [] [] [1,1]
def A.b120:=(fun y0=>A.qt A.QC [] [([1,1],y0)] []) A.rB
def A.k120:=@A.kk 120 34 [.cell 4 (some 4)] A.b120 (by kernel_rfl) rfl
def Zl7{q:Rat}(h:q.den=1):q=(q.num:Rat):=by
 apply Rat.ext
 ·simp
 ·simp[h]
def Yp1{H:T O}{N n:Nat}{W:List Nat}{r:T V}{p q:Rat}{n1 n2 n3 n4:Int}{u1 u2 u3 u4:V}(hn:N+3<=n)(hW:aD N W=[])(b1:H.get N=some (.cells [.int .i64 n1,u1,.int .i64 n2,u2] 110 true))(b2:H.get (N+1)=some (.cells [.int .i64 n3,u3,.int .i64 n4,u4] 110 true))(b3:H.get (N+2)=some (.cells [.int .i64 0,.aa,.int .i64 0,.aa] 110 true))
  (s1:In H n (.agg [.int .i64 n1,u1]) p.num) (s2:In H n (.agg [.int .i64 n2,u2]) (p.den:Nat)) (s3:In H n (.agg [.int .i64 n3,u3]) q.num) (s4:In H n (.agg [.int .i64 n4,u4]) (q.den:Nat)) (l1:wl p.num<1000000000) (l2:wl (p.den:Nat)<1000000000) (l3:wl q.num<1000000000) (l4:wl (q.den:Nat)<1000000000) (a2:r.get 2=some (.ptr N 0)) (a3:r.get 3=some (.ptr (N+1) 0)) (a4:r.get 4=some (.ptr (N+2) 0)):
  Code A.C none A.rB ⟨r,34,[]⟩ ⟨H,n,W⟩ (fun e fr st=>e=.ret/\∃r',fr=⟨r',34,[]⟩/\r'.get 4=some (.ptr (N+2) 0)/\Ue H N (p+q) st):=by
 rw[dk]
 have o1:=de s1
 have o2:=de s2
 have o3:=de s3
 have o4:=de s4
 unfold V.one at o1 o2 o3 o4
 have z1:N<n:=by omega
 have z2:N+1<n:=by omega
 simp(disch:=first|(simp;done)|omega|(simp only[Zab,aq,ak];omega)|rfl) [-getElem?_pos,A.rB,a2,a3,a4,b1,b2,b3,z1,z2,aJ,aE,ag]
 refine az (Ap s1 s4 (by omega) (by omega)) ?_
 rintro v5 h1 m1 k1 q1
 have ft:=k1.le
 have f1:=(k1.get N (by omega)).trans b1
 have f2:=(k1.get (N+1) (by omega)).trans b2
 have f3:=(k1.get (N+2) (by omega)).trans b3
 have e1:N<m1:=by omega
 have e2:N+1<m1:=by omega
 simp(disch:=first|(simp;done)|omega|(simp only[Zab,aq,ak];omega)|rfl) [-getElem?_pos,a2,a3,a4,f1,f2,e1,e2,aJ,aE,ag]
 refine az (Ap (s3.ah k1) (s2.ah k1) (by omega) (by omega)) ?_
 rintro v6 h2 m2 k2 q2
 have gJ:=k2.le
 have w1:=C2 p.num ((q.den:Nat):Int)
 have w2:=C2 q.num ((p.den:Nat):Int)
 have w3:=C2 ((p.den:Nat):Int) ((q.den:Nat):Int)
 have w4:=Zzk (p.num*((q.den:Nat):Int)) (q.num*((p.den:Nat):Int))
 simp(disch:=first|(simp;done)|omega|(simp only[Zab,aq,ak];omega)|rfl) [-getElem?_pos,]
 refine az (Qj (q1.ah k2) q2 (by omega) (by omega)) ?_
 rintro v7 h3 m3 k3 q3
 have oI:=k3.le
 have k13:=(k1.trans k2).trans k3
 have f4:=(k13.get N (by omega)).trans b1
 have f5:=(k13.get (N+1) (by omega)).trans b2
 have e3:N<m3:=by omega
 have e4:N+1<m3:=by omega
 simp(disch:=first|(simp;done)|omega|(simp only[Zab,aq,ak];omega)|rfl) [-getElem?_pos,a2,a3,a4,f4,f5,e3,e4,aJ,aE,ag]
 refine az (Ap (s2.ah k13) (s4.ah k13) (by omega) (by omega)) ?_
 rintro v8 h4 m4 k4 q4
 have tr:=k4.le
 have k14:=k13.trans k4
 have hd:((p.den:Nat):Int)*((q.den:Nat):Int)≠0:=by
  have:=p.den_nz
  have:=q.den_nz
  exact LL (by omega) (by omega)
 simp(disch:=first|(simp;done)|omega|(simp only[Zab,aq,ak];omega)|rfl) [-getElem?_pos,]
 refine az (Ybu (q3.ah k4) q4 hd (by omega) (by omega)) ?_
 rintro v9 h5 m5 k5 hv
 have uQ:((p.den:Nat):Int)≠0:=by have:=p.den_nz;omega
 have xN:((q.den:Nat):Int)≠0:=by have:=q.den_nz;omega
 rw[<-Rat.divInt_add_divInt _ _ uQ xN,AJ,AJ]at hv
 obtain⟨n5,u5,n6,u6,rfl,t1,t2⟩:=hv
 have o5:=de t1
 have o6:=de t2
 unfold V.one at o5 o6
 have Ku:=k5.le
 have k15:=k14.trans k5
 have f6:=(k15.get (N+2) (by omega)).trans b3
 have e5:N+2<m5:=by omega
 simp(disch:=first|(simp;done)|omega|(simp only[Zab,aq,ak];omega)|rfl) [-getElem?_pos,a4,f6,e5,aJ,aE,ag,bE,o5,o6,bU.bZ]
 have wY:¬N+2<N:=by omega
 refine⟨by simp[aD,hW,wY],fun i hi=>?_,by show N+3<=m5;omega,n5,u5,n6,u6,by show T.get (T.set _ _ _) _=_;rw[T.aj,aQ rfl],n5,u5,n6,u6,rfl,t1.aG (i:=N+2) f6 lZ rfl,t2.aG (i:=N+2) f6 lZ rfl⟩
 show T.get (T.set _ _ _) _=_
 rw[T.aj,aA (by omega),k15.get i (by omega)]
def KW{x y:V}{p q:Rat}{h:T O}{N:Nat}(hx:Fc h N x p)(hy:Fc h N y q)(l1:wl p.num<1000000000)(l2:wl (p.den:Nat)<1000000000)(l3:wl q.num<1000000000)(l4:wl (q.den:Nat)<1000000000):Fn A.C 120 [x,y] h N (fun v h' n'=>Fc h' n' v (p+q)):=by
 intro w
 rw[aV,A.k120 (by simp)]
 have ry:=hx
 have wU:=hy
 obtain⟨n1,u1,n2,u2,rfl,s1,s2⟩:=hx
 obtain⟨n3,u3,n4,u4,rfl,s3,s4⟩:=hy
 have o1:=de s1
 have o2:=de s2
 have o3:=de s3
 have o4:=de s4
 unfold V.one at o1 o2 o3 o4
 have kB:ae h N (((h.set N (.cells [.int .i64 n1,u1,.int .i64 n2,u2] 110 true)).set (N+1) (.cells [.int .i64 n3,u3,.int .i64 n4,u4] 110 true)).set (N+2) (.cells [.int .i64 0,.aa,.int .i64 0,.aa] 110 true)) (N+3):=aI (aI (aI ae.refl _) _) _
 simp(disch:=first|(simp;done)|omega|(simp only[Zab,aq,ak];omega)|rfl) [-getElem?_pos,A.b120,aJ,aE,ag,o1,o2,o3,o4]
 generalize gT:((h.set N (.cells [.int .i64 n1,u1,.int .i64 n2,u2] 110 true)).set (N+1) (.cells [.int .i64 n3,u3,.int .i64 n4,u4] 110 true)).set (N+2) (.cells [.int .i64 0,.aa,.int .i64 0,.aa] 110 true)=hB at*
 have b1:hB.get N=some (.cells [.int .i64 n1,u1,.int .i64 n2,u2] 110 true):=by rw[<-gT];simp
 have b2:hB.get (N+1)=some (.cells [.int .i64 n3,u3,.int .i64 n4,u4] 110 true):=by rw[<-gT];simp
 have b3:hB.get (N+2)=some (.cells [.int .i64 0,.aa,.int .i64 0,.aa] 110 true):=by rw[<-gT];simp
 refine az (Yb8 (ry.ah kB)) ?_
 rintro _ h0 m0 k0 rfl
 have zff:=k0.le
 have k0':=kB.trans k0
 have d1:=(k0.get N (by omega)).trans b1
 have d2:=(k0.get (N+1) (by omega)).trans b2
 have d3:=(k0.get (N+2) (by omega)).trans b3
 by_cases cp:p.den=1
 ·simp(disch:=first|(simp;done)|omega|(simp only[Zab,aq,ak];omega)|rfl) [-getElem?_pos,cp,d1,d2,aJ,aE]
  refine az (Yb8 (wU.ah k0')) ?_
  rintro _ h1 m1 k1 rfl
  have ft:=k1.le
  have g1:=(k1.get N (by omega)).trans d1
  have g2:=(k1.get (N+1) (by omega)).trans d2
  have g3:=(k1.get (N+2) (by omega)).trans d3
  have k1':=k0'.trans k1
  by_cases cq:q.den=1
  ·simp(disch:=first|(simp;done)|omega|(simp only[Zab,aq,ak];omega)|rfl) [-getElem?_pos,cq,g1,g2,aJ,aE]
   refine az (Qj (s1.ah k1') (s3.ah k1') (by omega) (by omega)) ?_
   rintro v5 h2 m2 k2 q1
   have gJ:=k2.le
   simp(disch:=first|(simp;done)|omega|(simp only[Zab,aq,ak];omega)|rfl) [-getElem?_pos,]
   refine az (Zo9 q1) ?_
   rintro _ h3 m3 k3 ⟨n5,u5,n6,u6,rfl,t1,t2⟩
   have o5:=de t1
   have o6:=de t2
   unfold V.one at o5 o6
   have oI:=k3.le
   have f5:=(k3.get (N+2) (by omega)).trans ((k2.get (N+2) (by omega)).trans g3)
   simp(disch:=first|(simp;done)|omega|(simp only[Zab,aq,ak];omega)|rfl) [-getElem?_pos,f5,aJ,aE,ag,bE,o5,o6,bU.bZ,aF]
   have kk:=(k1'.trans k2).trans k3
   have hpq:p+q=((p.num+q.num:Int):Rat):=by rw[Zl7 cp,Zl7 cq];simp
   rw[hpq]
   exact⟨kk.set (by omega),n5,u5,n6,u6,rfl,t1.aG (i:=N+2) f5 lZ rfl,t2.aG (i:=N+2) f5 lZ rfl⟩
  ·simp(disch:=first|(simp;done)|omega|(simp only[Zab,aq,ak];omega)|rfl) [-getElem?_pos,cq,g1,g2,aJ,aE]
   refine mJ (Yp1 (N:=N) (p:=p) (q:=q) (by omega) (by simp[aD]) g1 g2 g3 (s1.ah k1') (s2.ah k1') (s3.ah k1') (s4.ah k1') l1 l2 l3 l4 (by simp) (by simp) (by simp)) ?_
   rintro e fr ⟨H6,n6,W6⟩ ⟨rfl,r6,rfl,c4,q1,q2,q3,m5,v5,m6,v6,q4,q5⟩
   simp only at q1 q2 q3 q4 q5
   simp(disch:=first|(simp;done)|omega|(simp only[Zab,aq,ak];omega)|rfl) [-getElem?_pos,c4,q4,aJ,aE,aF,q1]
   exact⟨⟨by omega,fun i hi=>(q2 i hi).trans (k1'.get i hi)⟩,q5⟩
 ·simp(disch:=first|(simp;done)|omega|(simp only[Zab,aq,ak];omega)|rfl) [-getElem?_pos,cp,d1,d2,aJ,aE]
  refine mJ (Yp1 (N:=N) (p:=p) (q:=q) (by omega) (by simp[aD]) d1 d2 d3 (s1.ah k0') (s2.ah k0') (s3.ah k0') (s4.ah k0') l1 l2 l3 l4 (by simp) (by simp) (by simp)) ?_
  rintro e fr ⟨H6,n6,W6⟩ ⟨rfl,r6,rfl,c4,q1,q2,q3,m5,v5,m6,v6,q4,q5⟩
  simp only at q1 q2 q3 q4 q5
  simp(disch:=first|(simp;done)|omega|(simp only[Zab,aq,ak];omega)|rfl) [-getElem?_pos,c4,q4,aJ,aE,aF,q1]
  exact⟨⟨by omega,fun i hi=>(q2 i hi).trans (k0'.get i hi)⟩,q5⟩
def A.b92:=A.q Tryz.f92
def A.k92:=@A.kk 92 22 [.cell 2 (some 4)] A.b92 (by kernel_rfl) rfl
def Zmk{z:Int}{h:T O}{N:Nat}(hl:(aR z).length<=100000):Fn A.C 169 [.str (aR z)] h N (fun v h' n'=>In h' n' v z):=by
 have hb:(av z.natAbs).length<=100000:=by
  unfold aR at hl
  split at hl<;>(try simp at hl)<;>omega
 have:=Yai (s:=aR z) (h:=h) (N:=N) (by rw[Mg];exact Bm _) (by rw[Mg];exact hb)
 rw[Pa,Mg,Kv]at this
 have e:(if decide (z<0)=true then -(z.natAbs:Int) else (z.natAbs:Int))=z:=by
  by_cases hz:z<0<;>simp[hz]<;>omega
 rw[e]at this
 exact this
def Yck{q:Rat}{h:T O}{N:Nat}(l1:(aR q.num).length<=100000)(l2:(av q.den).length<=100000):Fn A.C 92 [.str (ax q)] h N (fun v h' n'=>Fc h' n' v q):=by
 intro w
 have hc:=fun st=>Yh4 (s:=ax q) (st:=st) (by unfold ax;split<;>(try simp)<;>omega)
 rw[Pb]at hc
 have kB:=aI (ae.refl (h:=h) (n:=N)) (.cells [.int .i64 0,.aa,.int .i64 0,.aa] 110 true)
 rw[aV,A.k92 (by simp)]
 by_cases c1:q.den=1
 ·have aP:¬ai (ax q)<(ax q).length:=fun hx=>(CA q).1 hx c1
  simp(disch:=first|(simp;done)|omega|(simp only[Zab,aq,ak];omega)|rfl) [-getElem?_pos,A.b92,hc,aP]
  refine az (Zmk l1) ?_
  rintro v1 h1 m1 k1 q1
  simp(disch:=first|(simp;done)|omega|(simp only[Zab,aq,ak];omega)|rfl) [-getElem?_pos,]
  refine az (Zo9 q1) ?_
  rintro _ h3 m3 k3 ⟨n5,u5,n6,u6,rfl,t1,t2⟩
  have o5:=de t1
  have o6:=de t2
  unfold V.one at o5 o6
  have ft:=k1.le
  have oI:=k3.le
  have kk:=(kB.trans k1).trans k3
  have f5:=((k1.trans k3).get N (by omega))
  rw[T.aj,aQ rfl]at f5
  simp(disch:=first|(simp;done)|omega|(simp only[Zab,aq,ak];omega)|rfl) [-getElem?_pos,f5,aJ,aE,ag,bE,o5,o6,bU.bZ,aF]
  rw[Zl7 c1]
  exact⟨kk.set (by omega),n5,u5,n6,u6,rfl,t1.aG f5 lZ rfl,t2.aG f5 lZ rfl⟩
 ·have aP:ai (ax q)<(ax q).length:=(CA q).2 c1
  have hd:=Pc q c1
  have hdI:av q.den=aR ((q.den:Nat):Int):=by unfold aR;rw[aA (by omega)];rfl
  rw[hdI]at l2 hd
  simp(disch:=first|(simp;done)|omega|(simp only[Zab,aq,ak];omega)|rfl) [-getElem?_pos,A.b92,hc,aP,hd]
  refine az (Zmk l1) ?_
  rintro v1 h1 m1 k1 q1
  simp(disch:=first|(simp;done)|omega|(simp only[Zab,aq,ak];omega)|rfl) [-getElem?_pos,]
  refine az (Zmk l2) ?_
  rintro v2 h2 m2 k2 q2
  obtain⟨n5,u5,rfl,Aq⟩:=q1.cells
  obtain⟨n6,u6,rfl,Kn⟩:=q2.cells
  have o5:=Aq
  have o6:=Kn
  unfold V.one at o5 o6
  have ft:=k1.le
  have gJ:=k2.le
  have kk:=(kB.trans k1).trans k2
  have f5:=((k1.trans k2).get N (by omega))
  rw[T.aj,aQ rfl]at f5
  simp(disch:=first|(simp;done)|omega|(simp only[Zab,aq,ak];omega)|rfl) [-getElem?_pos,f5,aJ,aE,ag,bE,o5,o6,bU.bZ,aF]
  exact⟨kk.set (by omega),n5,u5,n6,u6,rfl,(q1.ah k2).aG f5 lZ rfl,q2.aG f5 lZ rfl⟩
variable {N k:Nat} {h:T O} {x:V} {z:Int}
def A.b171:=A.q Tryz.f171
def A.k171:=@A.kk 171 6 [.tmp 2] A.b171 (by kernel_rfl) rfl
def A.b161:=A.q Tryz.f161
def A.k161:=@A.kk 161 11 [.tmp 2] A.b161 (by kernel_rfl) rfl
def A.b209:=A.q Tryz.f209
def A.k209:=@A.kk 209 13 [.tmp 2] A.b209 (by kernel_rfl) rfl
def A.b236:=A.q Tryz.f236
def A.k236:=@A.kk 236 25 [.tmp 2] A.b236 (by kernel_rfl) rfl
def Fc.parts{q:Rat}(s:Fc h N x q):∃n1 u1 n2 u2,x=.agg [.int .i64 n1,u1,.int .i64 n2,u2]/\In h N (.agg [.int .i64 n1,u1]) q.num/\In h N (.agg [.int .i64 n2,u2]) (q.den:Int)/\V.one u1=true/\V.one u2=true:=by
 obtain⟨n1,u1,n2,u2,rfl,s1,s2⟩:=s
 exact⟨n1,u1,n2,u2,rfl,s1,s2,de s1,de s2⟩
def Ld{q:Rat}(hx:Fc h N x q):Fn A.C 171 [x] h N (fun v _ _=>v=.int .i64 (df q.num)):=by
 intro w
 obtain⟨n1,u1,n2,u2,rfl,s1,s2,o1,o2⟩:=hx.parts
 unfold V.one at o1 o2
 rw[aV,A.k171 (by simp)]
 have k0:=(ae.refl (h:=h) (n:=N)).new (.cells [.int .i64 n1,u1,.int .i64 n2,u2] 110 true)
 simp(disch:=first|(simp;done)|omega|(simp only[Zab,aq,ak];omega)|rfl) [-getElem?_pos,A.b171,aJ,aE,ag,o1,o2]
 refine az (JY (s1.ah k0)) ?_
 rintro _ h1 m1 k1 rfl
 simp(disch:=first|(simp;done)|omega|(simp only[Zab,aq,ak];omega)|rfl) [-getElem?_pos,aF]
 exact k0.trans k1
def Ygz{n d:Nat}(hk:(aN n).length=k+1)(hd:(aN n)[k]?=some d):n<2^(64*k+bf d):=by
 have h1:=mB n
 have h2:=En (b:=B) hd
 rw[iP (by omega),h1]at h2
 have h3:val B ((aN n).take k)<B^k:=by
  have:=Eo (b:=B) (l:=(aN n).take k) (fun x hx=>rb n x (B0 hx))
  rw[lW,pA (by omega)]at this;exact this
 have h4:d+1<=2^bf d:=TT d
 have h5:B^k*(d+1)<=B^k*2^bf d:=je _ h4
 have h6:B^k=2^(64*k):=by rw[Nat.pow_mul];rfl
 rw[iF,<-h6]
 rw[nL]at h5
 omega
def Zty{n b:Nat}(h:600<(av n).length)(hb:n<2^b):1800<b:=by
 apply Classical.byContradiction
 intro hc
 obtain⟨M,hM⟩:∃M:Nat,M=600:=⟨_,rfl⟩
 have h1:n<2^(3*M):=h_ hb (Pf (by omega))
 have h2:(2:Nat)^(3*M)<=10^M:=by
  rw[Nat.pow_mul]
  exact Dq (by decide) _
 have h3:=(Sx (n:=n) (k:=M) (by omega)).2 (h_ h1 h2)
 omega
def Ylf(hx:In h N x z)(hl:wl z<10000000000):Fn A.C 236 [x] h N (fun v _ _=>∃b:Nat,v=.int .i64 b/\z.natAbs<2^b):=by
 intro w
 obtain⟨n,u,rfl,hu⟩:=hx.cells
 have og:=hu
 unfold V.one at og
 have k0:=(ae.refl (h:=h) (n:=N)).new (.cells [.int .i64 n,u] 108 true)
 rw[aV,A.k236 (by simp)]
 simp(disch:=first|(simp;done)|omega|(simp only[Zab,aq,ak];omega)|rfl) [-getElem?_pos,A.b236,aJ,aE,ag,og]
 refine az (CS (hx.ah k0)) ?_
 rintro _ h1 m1 k1 ⟨u2,rfl,hw⟩
 have hlen:=Sl.len hw
 rw[Zab]at hlen
 by_cases h0:(aN z.natAbs).length=0
 ·rw[h0]at hlen
  have hz:z.natAbs=0:=by
   have:=mB z.natAbs
   rw[kJ h0]at this
   simpa[val]using this.symm
  simp(disch:=first|(simp;done)|omega|(simp only[Zab,aq,ak];omega)|rfl) [-getElem?_pos,hlen,aL,aF]
  exact⟨k0.trans k1,0,rfl,by omega⟩
 ·obtain⟨k,hk⟩:∃k,(aN z.natAbs).length=k+1:=⟨(aN z.natAbs).length-1,by omega⟩
  rw[hk]at hlen
  obtain⟨d,hd⟩:=fz (l:=aN z.natAbs) (k:=k) (by omega)
  obtain⟨i,o,c,e,rw,q1,q2,q3,q4⟩:=Sl.at hw (fH hd)
  have TQ:d<18446744073709551616:=(rb _).get hd
  have xM:k+1<10000000000:=by
   have:=hl
   unfold wl at this
   omega
  have hbl:bf d<=64:=by
   apply Classical.byContradiction
   intro hc
   have h1:d≠0:=fun h=>by rw[h]at hc;simp[bf]at hc
   have h2:=Mz h1
   have h3:=Pf (j:=64) (k:=bf d-1) (by omega)
   have h4:(2:Nat)^64=18446744073709551616:=by decide
   omega
  have c1:¬((k:Int)+1=0):=by omega
  have c2:bn .i64 ((k:Int)+1-1)=(k:Int):=by rw[cL (by omega) (by omega)];omega
  have c3:bn .i64 (64*(k:Int))=64*(k:Int):=cL (by omega) (by omega)
  have c4:bn .i64 (64*(k:Int)+(bf d:Nat))=64*(k:Int)+(bf d:Nat):=cL (by omega) (by omega)
  have c5:(k:Int)<(k:Int)+1:=by omega
  simp(disch:=first|(simp;done)|omega|(simp only[Zab,aq,ak];omega)|rfl) [-getElem?_pos,hlen,aL,c1,c2,c3,c5,q1,q3,q4]
  refine az (Zpu TQ) ?_
  rintro _ h2 m2 k2 ⟨rfl,rfl,rfl⟩
  simp(disch:=first|(simp;done)|omega|(simp only[Zab,aq,ak];omega)|rfl) [-getElem?_pos,c4,aF]
  exact⟨k0.trans k1,64*k+bf d,by simp,Ygz hk hd⟩
def Yby(hx:In h N x z)(hP:mC h N)(hl:wl z<10000000000)(hd:(dq z.natAbs).length<1000000000):Fn A.C 209 [x] h N (fun v _ _=>v=.bool (decide (600<(av z.natAbs).length))):=by
 intro w
 obtain⟨n,u,rfl,hu⟩:=hx.cells
 have og:=hu
 unfold V.one at og
 have k0:=(ae.refl (h:=h) (n:=N)).new (.cells [.int .i64 n,u] 108 true)
 have g0:(h.set N (.cells [.int .i64 n,u] 108 true)).get N=some (.cells [.int .i64 n,u] 108 true):=by rw[T.aj,aQ rfl]
 rw[aV,A.k209 (by simp)]
 simp(disch:=first|(simp;done)|omega|(simp only[Zab,aq,ak];omega)|rfl) [-getElem?_pos,A.b209,aJ,aE,ag,og]
 refine az (Ylf (hx.ah k0) hl) ?_
 rintro _ h1 m1 k1 ⟨b,rfl,hb⟩
 have g1:=(k1.get N (by omega)).trans g0
 by_cases hbb:1800<b
 ·have Kw:(1800:Int)<(b:Int):=by omega
  simp(disch:=first|(simp;done)|omega|(simp only[Zab,aq,ak];omega)|rfl) [-getElem?_pos,hbb,Kw,g1,aJ,aE]
  refine az (Ud ((hx.ah k0).ah k1) ((hP.ah k0).ah k1) (by omega)) ?_
  rintro _ h2 m2 k2 rfl
  have ht:=fun st=>Zjg (s:=aR z) (st:=st)
  rw[Mg]at ht
  simp(disch:=first|(simp;done)|omega|(simp only[Zab,aq,ak];omega)|rfl) [-getElem?_pos,ht,aF]
  exact⟨(k0.trans k1).trans k2,by omega⟩
 ·have Kw:¬(1800:Int)<(b:Int):=by omega
  have hno:¬600<(av z.natAbs).length:=fun hc=>hbb (Zty hc hb)
  simp(disch:=first|(simp;done)|omega|(simp only[Zab,aq,ak];omega)|rfl) [-getElem?_pos,hbb,Kw,hno,aF]
  exact k0.trans k1
def Uf(h:z.natAbs<2^k):wl z<=k:=by
 have:=Iv (h_ h (Dq (by decide) k))
 unfold wl at this ⊢
 rwa [eG]at this
def Ycm{q:Rat}(hx:Fc h N x q)(hP:mC h N)(hq:Qb k q)(hk:k<=400000000):Fn A.C 161 [x] h N (fun v _ _=>v=.bool (BJ q)):=by
 intro w
 obtain⟨n1,u1,n2,u2,rfl,s1,s2,o1,o2⟩:=hx.parts
 unfold V.one at o1 o2
 have k0:=(ae.refl (h:=h) (n:=N)).new (.cells [.int .i64 n1,u1,.int .i64 n2,u2] 110 true)
 have g0:(h.set N (.cells [.int .i64 n1,u1,.int .i64 n2,u2] 110 true)).get N=some (.cells [.int .i64 n1,u1,.int .i64 n2,u2] 110 true):=by rw[T.aj,aQ rfl]
 have l1:=Nn hq.1
 have l2:=Nn hq.2
 have z1:=Uf hq.1
 have z2:=Uf (z:=(q.den:Int)) (k:=k) (by rw[eG];exact hq.2)
 rw[aV,A.k161 (by simp)]
 simp(disch:=first|(simp;done)|omega|(simp only[Zab,aq,ak];omega)|rfl) [-getElem?_pos,A.b161,aJ,aE,ag,o1,o2]
 refine az (Yby (s1.ah k0) (hP.ah k0) (by omega) (by omega)) ?_
 rintro _ h1 m1 k1 rfl
 have g1:=(k1.get N (by omega)).trans g0
 unfold BJ
 by_cases c1:600<(av q.num.natAbs).length
 ·simp(disch:=first|(simp;done)|omega|(simp only[Zab,aq,ak];omega)|rfl) [-getElem?_pos,c1,aF]
  exact k0.trans k1
 ·simp(disch:=first|(simp;done)|omega|(simp only[Zab,aq,ak];omega)|rfl) [-getElem?_pos,c1,g1,aJ,aE]
  refine az (Yby ((s2.ah k0).ah k1) ((hP.ah k0).ah k1) (by omega) (by rw[eG];omega)) ?_
  rintro _ h2 m2 k2 rfl
  simp(disch:=first|(simp;done)|omega|(simp only[Zab,aq,ak];omega)|rfl) [-getElem?_pos,aF]
  exact(k0.trans k1).trans k2
variable {N:Nat} {h:T O} {l:List Rat} {v:V}
def A.w72:=A.q Tryz.f72
def A.rM:=A.ql A.w72 0 []
def A.b72:=(fun x0=>A.qb A.w72 [x0]) A.rM
def A.k72:=@A.kk 72 23 [.tmp 2] A.b72 (by kernel_rfl) rfl
def A.zdE:=A.q Tryz.f162
def A.zgx:=A.ql A.zdE 0 []
def A.b162:=(fun x0=>A.qb A.zdE [x0]) A.zgx
def A.k162:=@A.kk 162 23 [.tmp 2] A.b162 (by kernel_rfl) rfl
def dB(h:T O)(N:Nat)(c:List V)(q:Rat):Prop:=∃n1 u1 n2 u2,c=[.int .i64 n1,u1,.int .i64 n2,u2]/\In h N (.agg [.int .i64 n1,u1]) q.num/\In h N (.agg [.int .i64 n2,u2]) (q.den:Int)
def dB.ah{h':T O}{N':Nat}{c:List V}{q:Rat}(s:dB h N c q)(k:ae h N h' N'):dB h' N' c q:=by
 obtain⟨n1,u1,n2,u2,rfl,s1,s2⟩:=s
 exact⟨n1,u1,n2,u2,rfl,s1.ah k,s2.ah k⟩
def dB.fc{c:List V}{q:Rat}(s:dB h N c q):Fc h N (.agg c) q:=by
 obtain⟨n1,u1,n2,u2,rfl,s1,s2⟩:=s
 exact⟨n1,u1,n2,u2,rfl,s1,s2⟩
def Fc.c{x:V}{q:Rat}(s:Fc h N x q):∃c,x=.agg c/\dB h N c q:=by
 obtain⟨n1,u1,n2,u2,rfl,s1,s2⟩:=s
 exact⟨_,rfl,n1,u1,n2,u2,rfl,s1,s2⟩
def sD(c:List V):Prop:=∀x∈c,∀m,x≠.int .u64 m
def Iw{n:Int}{u:V}{z:Int}(s:In h N (.agg [.int .i64 n,u]) z):∀m,u≠.int .u64 m:=by
 rcases s with⟨h1,_⟩|⟨i,o,l,c,h1,_⟩
 ·simp at h1;rw[h1.2];simp
 ·simp at h1;rw[h1.2];simp
def dB.KZ{c:List V}{q:Rat}(s:dB h N c q):sD c:=by
 obtain⟨n1,u1,n2,u2,rfl,s1,s2⟩:=s
 intro x hx m
 simp at hx
 rcases hx with rfl|rfl|rfl|rfl
 ·simp
 ·exact Iw s1 m
 ·simp
 ·exact Iw s2 m
def dB.len{c:List V}{q:Rat}(s:dB h N c q):c.length=4/\c.all V.one=true:=by
 obtain⟨n1,u1,n2,u2,rfl,s1,s2⟩:=s
 have o1:=de s1
 have o2:=de s2
 exact⟨rfl,by simp only[List.all_cons,List.all_nil,o1,o2,Bool.and_true];rfl⟩
def dB.aG{i:Nat}{c c0 c1:List V}{q:Rat}{e0 e1:TypeId}{w0 w1:Bool}(s:dB h N c q)(g:h.get i=some (.cells c0 e0 w0))(hn:sD c0)(hc:c1.length=c0.length):dB (h.set i (.cells c1 e1 w1)) N c q:=by
 obtain⟨n1,u1,n2,u2,rfl,s1,s2⟩:=s
 exact⟨n1,u1,n2,u2,rfl,s1.aG g hn hc,s2.aG g hn hc⟩
def yR(h:T O)(N:Nat)(v:V)(l:List Rat):Prop:=∃cs:List (List V),Sn 4 h N v cs/\cs.length=l.length/\∀(j:Nat) (q:Rat),l[j]?=some q->∃c,cs[j]?=some c/\dB h N c q
def yR.ah{h':T O}{N':Nat}(s:yR h N v l)(k:ae h N h' N'):yR h' N' v l:=by
 obtain⟨cs,h1,h2,h3⟩:=s
 refine⟨cs,h1.ah k,h2,fun j q hq=>?_⟩
 obtain⟨c,g1,g2⟩:=h3 j q hq
 exact⟨c,g1,g2.ah k⟩
def yR.len(s:yR h N v l):r_ v=some l.length:=by
 obtain⟨cs,h1,h2,_⟩:=s
 rw[h1.len,h2]
def yR.at(s:yR h N v l){j:Nat}{q:Rat}(hj:l[j]?=some q):∃i o x e rw c,AF v=some (i,o)/\i<N/\h.get i=some (.cells x e rw)/\aE x (o+j*4) 4=some c/\dB h N c q:=by
 obtain⟨cs,h1,h2,h3⟩:=s
 obtain⟨c,h4,h5⟩:=h3 j q hj
 obtain⟨i,o,x,e,rw,q1,q2,q3,q4⟩:=h1.at h4
 exact⟨i,o,x,e,rw,c,q1,q2,q3,q4,h5⟩
def nK(h:T O)(N:Nat)(v:V)(l:List Rat):Prop:=yR h N v l/\∀i∈dR v,∃z w,h.get i=some (.cells z 110 w)
def tx(l:List Rat):List V:=strs (l.map ax)
def rS(l:List Rat):(tx l).length=l.length:=by simp[tx,strs]
def vV{j:Nat}{q:Rat}(h:l[j]?=some q):(tx l)[j]?=some (.str (ax q)):=by simp[tx,strs,h]
def zF:List V:=[.int .i64 0,.aa,.int .i64 0,.aa]
def MG{z:List V}{n:Nat}:dw z (n+1)=z++dw z n:=by
 unfold dw
 rw[Nat.succ_mul,Nat.add_comm (n*z.length),List.range_add,List.map_append,List.map_map]
 congr 1
 ·apply qG
  intro j
  by_cases hj:j<z.length
  ·rw[mL,Oi hj]
   simp[xA hj,hj]
  ·rw[mb (by simp;omega),mb (by omega)]
 ·apply Yzl
  intro i _
  simp[Nat.add_mod_left]
def Zhs{a b c x:List V}{n o:Nat}(ha:a.length=o)(hb:b.length=n)(hx:x.length=n):ag (a++(b++c)) o x=a++(x++c):=by
 unfold ag
 rw[<-ha,List.take_left,hx,<-List.drop_drop,List.drop_left,<-hb,List.drop_left,sQ]
structure FaI (h:T O) (N:Nat) (l:List Rat) (m:Nat) (r:T V) (st:St):Prop where
 w:aD N st.w=[]
 ah:ae h N st.h st.n
 ex:∃(k:Nat) (cs:List (List V)),k+m=l.length/\r.get 11=some (.int .i64 k)/\r.get 3=some (.slice N 0 l.length (some l.length) 4)/\N<st.n/\st.h.get N=some (.cells (cs.flatten++dw zF m) 110 true)/\cs.length=k/\∀(j:Nat) (q:Rat),j<k->l[j]?=some q->∃c,cs[j]?=some c/\dB st.h st.n c q
def Zuc{cs:List (List V)}(hl:cs.length<=l.length)(hc:∀(j:Nat) (q:Rat),j<cs.length->l[j]?=some q->∃c,cs[j]?=some c/\dB h N c q):(∀c∈cs,c.length=4)/\sD cs.flatten/\cs.flatten.all V.one=true:=by
 have key:∀c∈cs,∃q,dB h N c q:=fun c zX=>by
  obtain⟨j,hj⟩:=Uh zX
  have aP:=yS hj
  obtain⟨q,hq⟩:=fz (l:=l) (k:=j) (by omega)
  obtain⟨c',h1,h2⟩:=hc j q aP hq
  rw[hj]at h1
  simp only[au]at h1
  subst h1
  exact⟨q,h2⟩
 refine⟨fun c zX=>?_,fun x hx m=>?_,?_⟩
 ·obtain⟨q,hq⟩:=key c zX;exact hq.len.1
 ·obtain⟨c,zX,C3⟩:=List.mem_flatten.1 hx
  obtain⟨q,hq⟩:=key c zX
  exact hq.KZ x C3 m
 ·rw[sN]
  intro x hx
  obtain⟨c,zX,C3⟩:=List.mem_flatten.1 hx
  obtain⟨q,hq⟩:=key c zX
  exact sN.1 hq.len.2 x C3
def Na:∀{n:Nat},sD (dw zF n)
 |0=>by intro x hx;simp[dw]at hx
 |n+1=>by
  intro x hx m
  rw[MG]at hx
  rcases l7.1 hx with hx|hx
  ·simp[zF]at hx
   rcases hx with rfl|rfl|rfl|rfl<;>simp
  ·exact Na x hx m
def sD.app{a b:List V}(ha:sD a)(hb:sD b):sD (a++b):=fun x hx m=>by
 rcases l7.1 hx with hx|hx
 ·exact ha x hx m
 ·exact hb x hx m
def Yha(n:Nat):(dw zF n).length=n*4:=by
 induction n with
 |zero=>simp[dw]
 |succ n ih=>rw[MG,jb,ih];simp[zF];omega
def Yw2{k0:Nat}(hs:Sl h N v (tx l))(hl:l.length<1000000000)(hq:∀q∈l,Qb k0 q)(Bj:k0<=4000):Fn A.C 72 [v] h N (fun u h' n'=>nK h' n' u l):=by
 intro w
 have hlen:=hs.len
 rw[rS]at hlen
 have c1:(64:Int)*(l.length:Int)<=140737488355328:=by omega
 have c2:(l.length:Int)<4611686018427387904:=by omega
 have kB:ae h N (h.set N (.cells (dw zF l.length) 110 true)) (N+1):=ae.refl.new _
 rw[aV,A.k72 (by simp)]
 simp(disch:=first|(simp;done)|omega|(simp only[Zab,aq,ak];omega)|rfl) [-getElem?_pos,A.b72,hlen,c1,c2]
 refine c_ [(4,5),(11,21)] (fun e r st=>e=.exit 0/\FaI h N l 0 r st) (FaI h N l) l.length ?_ ?_ ?_
 ·exact⟨by simp,kB,0,[],by omega,by simp,by simp,by show N<N+1;omega,by rw[T.aj,aQ rfl];rfl,rfl,fun j q hj=>by omega⟩
 ·rintro m r ⟨H,n1,W⟩ hr hf ⟨hW,hK,k,cs,hk,fA,h3,EF,hM,dW,t_⟩
  simp only at hW hK hM EF t_
  rw[dk]
  cases m with
  |zero=>
   obtain rfl:k=l.length:=by omega
   simp(disch:=first|(simp;done)|omega|(simp only[Zab,aq,ak];omega)|rfl) [-getElem?_pos,A.rM,hr,hf,fA]
   exact⟨hW,hK,l.length,cs,by omega,by simp[fA],by simp[h3],EF,hM,dW,t_⟩
  |succ m=>
   have aP:k<l.length:=by omega
   have dE:(k:Int)<(l.length:Int):=by omega
   obtain⟨q,R8⟩:=fz aP
   have TW:=hq q (eZ R8)
   obtain⟨i,o,cc,e,rw,q1,q2,q3,q4⟩:=(hs.ah hK).at (vV R8)
   have la:=Bo TW.1
   have QD:=Io TW.2
   simp(disch:=first|(simp;done)|omega|(simp only[Zab,aq,ak];omega)|rfl) [-getElem?_pos,A.rM,hr,hf,fA,h3,aP,dE,hlen,q1,q3,q4]
   refine az (Yck (q:=q) (by omega) (by omega)) ?_
   rintro _ H2 n2 k2 jv
   obtain⟨c,rfl,hc⟩:=jv.c
   have oP:=k2.le
   have iT:=hK.le
   have xQ:=(k2.get N EF).trans hM
   have zdF:∀(j:Nat) (q:Rat),j<cs.length->l[j]?=some q->∃c,cs[j]?=some c/\dB H2 n2 c q:=fun j q hj hq=>by
    obtain⟨c,g1,g2⟩:=t_ j q (by omega) hq
    exact⟨c,g1,g2.ah k2⟩
   obtain⟨f1,f2,f3⟩:=Zuc (l:=l) (by omega) zdF
   have pX:=vX f1
   obtain⟨e1,e2⟩:=hc.len
   have lh:ag (cs.flatten++dw zF (m+1)) (k*4) c=(cs++[c]).flatten++dw zF m:=by
    rw[MG,Zhs (n:=4) (by rw[pX,dW]) rfl e1,Ug,sQ]
   have hb:k*4+4<=(cs.flatten++dw zF (m+1)).length:=by
    rw[jb,pX,Yha];omega
   have lY:(V.agg c).cells=c:=rfl
   have EG:sD (cs.flatten++dw zF (m+1)):=f2.app Na
   have BO:((cs++[c]).flatten++dw zF m).length=(cs.flatten++dw zF (m+1)).length:=by
    rw[MG,Ug];simp[e1,zF];omega
   generalize cs.flatten++dw zF (m+1)=X at*
   obtain⟨Y,hY⟩:∃Y,(cs++[c]).flatten++dw zF m=Y:=⟨_,rfl⟩
   rw[hY]at lh BO
   simp(disch:=first|(simp;done)|omega|(simp only[Zab,aq,ak];omega)|rfl) [-getElem?_pos, -V.cells, -V.one,hr,hf,fA,h3,aP,dE,xQ,bE,lY,e1,e2,hb,lh]
   have mq:¬N<N:=by omega
   refine⟨m,by omega,⟨by simp[aD,hW],(hK.trans k2).set (aZ N),k+1,cs++[c],by omega,by simp,by simp[h3],by show N<n2;omega,by show T.get _ N=_;rw[T.aj,aQ rfl,hY],by simp[dW],fun j q' hj hq'=>?_⟩⟩
   by_cases AL:j<k
   ·obtain⟨c',g1,g2⟩:=t_ j q' AL hq'
    exact⟨c',by rw[rR (by omega)];exact g1,(g2.ah k2).aG xQ EG BO⟩
   ·obtain rfl:j=k:=by omega
    rw[R8]at hq'
    simp only[au]at hq'
    subst hq'
    exact⟨c,by rw[xg (by omega),dW];simp,hc.aG xQ EG BO⟩
 ·rintro _ r ⟨H,n1,W⟩ hr ⟨rfl,hW,hK,k,cs,hk,fA,h3,EF,hM,dW,t_⟩
  simp only at hW hK hM EF t_
  obtain rfl:k=l.length:=by omega
  simp(disch:=first|(simp;done)|omega|(simp only[Zab,aq,ak];omega)|rfl) [-getElem?_pos,hr,h3,aF,hW,hK]
  have hz:dw zF 0=[]:=by simp[dw]
  obtain⟨f1,_,_⟩:=Zuc (l:=l) (by omega) (fun j q hj hq=>t_ j q (by omega) hq)
  have pX:=vX f1
  rw[hz,AD]at hM
  refine⟨⟨cs,.inr ⟨N,0,some l.length,cs.flatten,_,true,by rw[dW],EF,hM,fun j x hx=>by rw[vW];exact KV f1 hx,by omega,fun k hk=>by simp at hk;omega⟩,dW,fun j q hq=>t_ j q (yS hq) hq⟩,fun i hi=>?_⟩
  simp[dR]at hi
  subst hi
  exact⟨_,_,hM⟩
structure TaI (h:T O) (N:Nat) (l:List Rat) (m:Nat) (r:T V) (st:St):Prop where
 w:aD N st.w=[]
 ah:ae h N st.h st.n
 ex:∃(k:Nat),k+m=l.length/\r.get 11=some (.int .i64 k)/\r.get 3=some (.slice N 0 l.length (some l.length) 1)/\N<st.n/\st.h.get N=some (.cells (tx (l.take k)++List.replicate m (V.str [])) 22 true)
def Yyf{k0:Nat}(hs:yR h N v l)(hP:mC h N)(hl:l.length<1000000000)(hq:∀q∈l,Qb k0 q)(Bj:k0<=400000000):Fn A.C 162 [v] h N (fun u h' n'=>Sl h' n' u (tx l)/\∀i∈dR u,∃z w,h'.get i=some (.cells z 22 w)):=by
 intro w
 have hlen:=hs.len
 have c1:(16:Int)*(l.length:Int)<=140737488355328:=by omega
 have c2:(l.length:Int)<4611686018427387904:=by omega
 have kB:ae h N (h.set N (.cells (dw [.str []] l.length) 22 true)) (N+1):=ae.refl.new _
 rw[aV,A.k162 (by simp)]
 simp(disch:=first|(simp;done)|omega|(simp only[Zab,aq,ak];omega)|rfl) [-getElem?_pos,A.b162,hlen,c1,c2]
 refine c_ [(4,5),(11,21)] (fun e r st=>e=.exit 0/\TaI h N l 0 r st) (TaI h N l) l.length ?_ ?_ ?_
 ·exact⟨by simp,kB,0,by omega,by simp,by simp,by show N<N+1;omega,by rw[T.aj,aQ rfl,Yg9];simp[tx,strs]⟩
 ·rintro m r ⟨H,n1,W⟩ hr hf ⟨hW,hK,k,hk,fA,h3,EF,hM⟩
  simp only at hW hK hM EF
  rw[dk]
  cases m with
  |zero=>
   obtain rfl:k=l.length:=by omega
   simp(disch:=first|(simp;done)|omega|(simp only[Zab,aq,ak];omega)|rfl) [-getElem?_pos,A.zgx,hr,hf,fA]
   exact⟨hW,hK,l.length,by omega,by simp[fA],by simp[h3],EF,hM⟩
  |succ m=>
   have aP:k<l.length:=by omega
   have dE:(k:Int)<(l.length:Int):=by omega
   obtain⟨q,R8⟩:=fz aP
   have TW:=hq q (eZ R8)
   obtain⟨i,o,x,e,rw,c,q1,q2,q3,q4,q5⟩:=(hs.ah hK).at R8
   obtain⟨Kt,u1,wY,u2,rfl,s1,s2⟩:=q5
   have o1:=de s1
   have o2:=de s2
   unfold V.one at o1 o2
   have la:=Nn TW.1
   have QD:=Nn TW.2
   have iT:=hK.le
   have e4:ag [.int .i64 0,.aa,.int .i64 0,.aa] 0 [.int .i64 Kt,u1,.int .i64 wY,u2]=[.int .i64 Kt,u1,.int .i64 wY,u2]:=rfl
   have e5:aE [.int .i64 Kt,u1,.int .i64 wY,u2] 0 4=some [.int .i64 Kt,u1,.int .i64 wY,u2]:=rfl
   have kA:ae H n1 ((H.set n1 (.cells [.int .i64 0,.aa,.int .i64 0,.aa] 110 true)).set n1 (.cells [.int .i64 Kt,u1,.int .i64 wY,u2] 110 true)) (n1+1):=(ae.refl.new _).set (aZ _)
   simp(disch:=first|(simp;done)|omega|(simp only[Zab,aq,ak];omega)|rfl) [-getElem?_pos,A.zgx,hr,hf,fA,h3,aP,dE,hlen,q1,q3,q4,aJ,bE,o1,o2,e4,e5]
   refine az (Yiq (q:=q) (Fc.ah ⟨Kt,u1,wY,u2,rfl,s1,s2⟩ kA) ((hP.ah hK).ah kA) (by omega) (by omega)) ?_
   rintro _ H2 n2 k2 rfl
   have oP:=k2.le
   have xQ:=(k2.get N (by omega)).trans ((kA.get N EF).trans hM)
   have hb:k+1<=(tx (l.take k)++List.replicate (m+1) (V.str [])).length:=by
    rw[jb,rS,List.length_replicate,lW];omega
   have lh:ag (tx (l.take k)++List.replicate (m+1) (V.str [])) k [.str (ax q)]=tx (l.take (k+1))++List.replicate m (V.str []):=by
    have e1:(tx (l.take k)++List.replicate (m+1) (V.str []))=tx (l.take k)++([V.str []]++List.replicate m (V.str [])):=by rw[List.replicate_succ];rfl
    rw[e1,Zhs (n:=1) (by rw[rS,lW];omega) rfl rfl,HY,R8]
    simp[tx,strs]
   generalize tx (l.take k)++List.replicate (m+1) (V.str [])=X at*
   obtain⟨Y,hY⟩:∃Y,tx (l.take (k+1))++List.replicate m (V.str [])=Y:=⟨_,rfl⟩
   rw[hY]at lh
   simp(disch:=first|(simp;done)|omega|(simp only[Zab,aq,ak];omega)|rfl) [-getElem?_pos,hr,hf,fA,h3,aP,dE,xQ,bE,hb,lh]
   refine⟨m,by omega,⟨by simp[aD,hW];omega,((hK.trans kA).trans k2).set (aZ N),k+1,by omega,by simp,by simp[h3],by show N<n2;omega,by show T.get _ N=_;rw[T.aj,aQ rfl,hY]⟩⟩
 ·rintro _ r ⟨H,n1,W⟩ hr ⟨rfl,hW,hK,k,hk,fA,h3,EF,hM⟩
  simp only at hW hK hM EF
  obtain rfl:k=l.length:=by omega
  rw[BF]at hM
  simp only[List.replicate_zero,AD]at hM
  simp(disch:=first|(simp;done)|omega|(simp only[Zab,aq,ak];omega)|rfl) [-getElem?_pos,hr,h3,aF,hW,hK]
  exact⟨Sl.row EF hM (rS l) (fun k hk=>by simp at hk;omega),fun i hi=>by simp[dR]at hi;subst hi;exact⟨_,.inr hM⟩⟩
def Tx(h:T O)(N:Nat)(v:V)(l:List Rat):Prop:=Sl h N v (tx l)
def Tx.ah{h h':T O}{N N':Nat}{v:V}{l:List Rat}(s:Tx h N v l)(k:ae h N h' N'):Tx h' N' v l:=Sl.ah s k
def Tx.len{h:T O}{N:Nat}{v:V}{l:List Rat}(s:Tx h N v l):r_ v=some l.length:=by
 have:=Sl.len s
 rwa [rS]at this
variable {N:Nat}
def Ii(h:T O)(N:Nat)(u:V)(l:List Rat):Prop:=Tx h N u l/\∀i∈dR u,∃z w,h.get i=some (.cells z 22 w)
def Ywe{N0:Nat}{h:T O}{v:V}{l:List Rat}(s:Own 1 22 N0 h N v ((tx l).map fun y=>[y])):Ii h N v l:=by
 refine⟨Sn.one.1 s.sn,fun i hi=>?_⟩
 obtain⟨_,⟨_,rfl⟩|⟨j,rfl,_,_,hg⟩⟩:=s
 ·simp[dR]at hi
 ·simp[dR]at hi;subst hi;exact⟨_,_,hg⟩
def UI{N i:Nat}:∀{w:List Nat},i∈w->i<N->i∈aD N w
 |[],h,_=>by simp at h
 |j::w,h,hi=>by
  simp only[aD]
  rcases ku.1 h with rfl|h
  ·rw[aQ hi]
   unfold xr
   split
   ·rename_i hc;simpa using hc
   ·exact oM
  ·have:=UI h hi
   split
   ·unfold xr
    split
    ·exact this
    ·exact mD _ this
   ·exact this
def Ir{n1:Nat}{w w':List Nat}(h:aD n1 w'=aD n1 w)(hN:N<=n1)(hw:aD N w=[]):aD N w'=[]:=by
 apply List.eq_nil_iff_forall_not_mem.2
 intro i hi
 obtain⟨h1,h2⟩:=za hi
 have h3:=UI h1 (show i<n1 by omega)
 rw[h]at h3
 have h4:=UI (za h3).1 h2
 rw[hw]at h4
 simp at h4
def Sj{w:List Nat}(h:aD N w=[]):∀i∈w,N<=i:=fun i hi=>by
 apply yl
 intro hc
 have:=UI hi hc
 rw[h]at this
 simp at this
def Yjn{n:Nat}{a b:List Nat}(ha:aD N a=[])(hb:aD N b=[]):aD N (aD n a++b)=[]:=Dr fun i hi=>by
 rcases l7.1 hi with hi|hi
 ·exact Sj ha i (za hi).1
 ·exact Sj hb i hi
end
end Go.Mx
