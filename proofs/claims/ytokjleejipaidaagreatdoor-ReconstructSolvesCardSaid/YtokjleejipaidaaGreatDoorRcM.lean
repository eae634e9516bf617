/-lensletref01-/
import Derived.Test.YtokjleejipaidaaGreatDoorNaD
set_option linter.all false
namespace Go.Mx
noncomputable section
open Go Go.Proofs
set_option maxRecDepth 1000000
def A.b48:=A.q Tryz.f48
def A.k48:=@A.kk 48 13 [.tmp 2] A.b48 (by kernel_rfl) rfl
def A.b129:=A.q Tryz.f129
def A.k129:=@A.kk 129 14 [.tmp 2] A.b129 (by kernel_rfl) rfl
def A.b127:=A.q Tryz.f127
def A.k127:=@A.kk 127 13 [.tmp 2] A.b127 (by kernel_rfl) rfl
def A.b186:=A.q Tryz.f186
def A.k186:=@A.kk 186 14 [.tmp 2] A.b186 (by kernel_rfl) rfl
def A.b232:=A.q Tryz.f232
def A.k232:=@A.kk 232 7 [.tmp 2] A.b232 (by kernel_rfl) rfl
def A.b233:=A.q Tryz.f233
def A.k233:=@A.kk 233 14 [.tmp 2] A.b233 (by kernel_rfl) rfl
def A.b231:=A.q Tryz.f231
def A.k231:=@A.kk 231 9 [.tmp 2] A.b231 (by kernel_rfl) rfl
def A.b125:=A.q Tryz.f125
def A.k125:=@A.kk 125 5 [.tmp 2] A.b125 (by kernel_rfl) rfl
def Ynk:aP 0=[48]:=by decide+kernel
def Ycn{q:Rat}:aP q=[48]↔q=0:=⟨fun h=>Yhu (h.trans Ynk.symm),fun h=>by rw[h,Ynk]⟩
def Zt8{q:Rat}{st:St}:A.C.call (.func 125 [] []) [.str (aP q)] st=some (.bool (decide (q=0)),st):=by
 have e:(aP q==[48])=decide (q=0):=by rw[Bool.eq_iff_iff,beq_iff_eq,decide_eq_true_eq];exact Ycn
 apply Call.eq
 rw[aM,A.k125 (by simp)]
 simp[A.b125,aJ,gE,e]
def Ad{q:Rat}:q.num=0↔q=0:=Rat.num_eq_zero
def Yni(q:Rat):0<(aP q).length:=by
 obtain⟨c,t,h,_⟩:=Zxf q
 rw[Cr,h]
 split<;>simp
def Yht(q:Rat):∃c,(aP q)[0]?=some c/\(aP q).head?=some c/\(cK c=45↔q.num<0):=by
 obtain⟨c,t,h,h1⟩:=Zxf q
 by_cases hz:q.num<0
 ·refine⟨45,?_,?_,?_⟩
  ·rw[Cr,ax hz];rfl
  ·rw[Cr,ax hz];rfl
  ·exact⟨fun _=>hz,fun _=>rfl⟩
 ·refine⟨c,?_,?_,?_⟩
  ·rw[Cr,ak hz,h];rfl
  ·rw[Cr,ak hz,h];rfl
  ·exact⟨fun h2=>by unfold cK at h2;omega,fun h2=>absurd h2 hz⟩
def Ta{q:Rat}{st:St}:A.C.call (.func 48 [] []) [.str (aP q)] st=some (.int .i64 (dL q.num),st):=by
 have e:(aP q==[48])=decide (q=0):=by rw[Bool.eq_iff_iff,beq_iff_eq,decide_eq_true_eq];exact Ycn
 obtain⟨c,h1,h2,h3⟩:=Yht q
 have hp:=Yni q
 have Gp:(0:Int)<((aP q).length:Int):=by omega
 have aW:aP q≠[]:=fun hc=>by rw[hc]at hp;simp at hp
 apply Call.eq
 rw[aM,A.k48 (by simp)]
 by_cases h0:q=0
 ·have hn:q.num=0:=Ad.2 h0
  have hs:dL q.num=0:=by rw[hn];rfl
  have e0:(aP q==[48])=true:=by rw[e];simp[h0]
  rw[hs]
  simp(disch:=first|(simp;done)|omega|rfl) [-getElem?_pos,A.b48,gE,e0]
 ·have hn:q.num≠0:=fun hc=>h0 (Ad.1 hc)
  by_cases hz:q.num<0
  ·have hs:dL q.num= -1:=by unfold dL;rw[ax hz]
   have hc:=h3.2 hz
   rw[hs]
   simp(disch:=first|(simp;done)|omega|rfl) [-getElem?_pos,A.b48,gE,e,h0,hp,h1,hc]
  ·have hs:dL q.num=1:=by unfold dL;rw[ak hz,ak hn]
   have hc:¬cK c=45:=fun hc=>hz (h3.1 hc)
   rw[hs]
   simp(disch:=first|(simp;done)|omega|rfl) [-getElem?_pos,A.b48,gE,e,h0,hp,h1,hc]
def Yuf(q:Rat):QB (-q)=QB q:=by
 unfold QB
 rw[Rat.neg_den,Rat.neg_num,Bz]
def Yo2{q:Rat}{st:St}(hl:(aP q).length<1000000000):A.C.call (.func 129 [] []) [.str (aP q)] st=some (.str (aP (-q)),st):=by
 have hs:=fun st=>Ta (q:=q) (st:=st)
 have dm:IntKind.max .i64=9223372036854775807:=rfl
 apply Call.eq
 rw[aM,A.k129 (by simp)]
 have fg:=Cr (-q)
 rw[Yuf,Rat.neg_num]at fg
 by_cases hz:q.num<0
 ·have e1:aP q=45::QB q:=by rw[Cr,ax hz]
  have e2:aP (-q)=QB q:=by rw[fg,ak (by omega)]
  have e3:dL q.num= -1:=by unfold dL;rw[ax hz]
  rw[e1,e3]at hs
  have a3:∀st:St,uC st (some (.str (45::QB q))) (some (some (.int .i64 1))) (some none)=some (.str (QB q),st):=fun st=>by rw[Ia (by omega) (by simp only[bo];omega)];rfl
  rw[e1,e2]
  simp[A.b129,hs,aB,a3]
 ·by_cases h0:q=0
  ·have e3:dL q.num=0:=by rw[Ad.2 h0];rfl
   rw[e3]at hs
   have e4: -q=q:=by rw[h0];rfl
   rw[e4]
   simp[A.b129,hs,aJ]
  ·have hn:q.num≠0:=fun hc=>h0 (Ad.1 hc)
   have e1:aP q=QB q:=by rw[Cr,ak hz]
   have e2:aP (-q)=45::QB q:=by rw[fg,ax (by omega)]
   have e3:dL q.num=1:=by unfold dL;rw[ak hz,ak hn]
   rw[e3]at hs
   rw[e1]at hs hl
   have hb:¬(9223372036854775807:Int)<1+((QB q).length:Int):=by omega
   rw[e2,e1]
   simp[A.b129,hs,aJ,gE,dm,hb]
def VP(q:Rat):q⁻¹=Rat.divInt (q.den:Int) q.num:=Rat.inv_def q
def Yoh{q:Rat}{k:Nat}{h:T O}{N:Nat}(hq:Qb k q)(hk:k<=400000000)(h0:q≠0):Fn A.C 127 [.str (aP q)] h N (fun u _ _=>u=.str (aP q⁻¹)):=by
 intro w
 have la:=Gm hq.1
 have KM:=Eh hq.2
 have z1:=u_ hq.1
 have z2:=u_ hq.2
 have hn:q.num≠0:=fun hc=>h0 (Ad.1 hc)
 rw[aM,A.k127 (by simp)]
 simp[A.b127]
 refine ay (Po (q:=q) (by omega) (by omega)) ?_
 rintro _ h1 t1 k1 ⟨x1,y1,rfl,X1,Y1⟩
 obtain⟨u1,rfl,p1,p2,F1⟩:=X1.qg
 obtain⟨v1,rfl,p3,p4,G1⟩:=Y1.qg
 unfold V.one at p1 p3
 unfold V.cells at p2 p4
 have KA:=((((ab.refl (h:=h1) (n:=t1)).new (.cells [.bool false,.aa] 143 true)).new (.cells [.bool false,.aa] 143 true)).set (i:=t1) (o:=.cells [.bool (decide (q.num<0)),u1] 143 true) (aO _)).set (i:=t1+1) (o:=.cells [.bool (decide ((q.den:Int)<0)),v1] 143 true) (by omega)
 have c0:¬t1+1=t1:=by omega
 have c00:¬t1=t1+1:=by omega
 have i1:=k1.le
 generalize Bk:(((h1.set t1 (.cells [.bool false,.aa] 143 true)).set (t1+1) (.cells [.bool false,.aa] 143 true)).set t1 (.cells [.bool (decide (q.num<0)),u1] 143 true)).set (t1+1) (.cells [.bool (decide ((q.den:Int)<0)),v1] 143 true)=HA at*
 have GC:HA.get t1=some (.cells [.bool (decide (q.num<0)),u1] 143 true):=by rw[<-Bk];simp[c0,c00]
 have Pw:HA.get (t1+1)=some (.cells [.bool (decide ((q.den:Int)<0)),v1] 143 true):=by rw[<-Bk];simp
 have X1:=X1.ad KA
 have Y1:=Y1.ad KA
 simp[-ar,p1,p2,p3,p4,bD,ae,c0,Bk,GC,Pw,aR,aC]
 refine ay (Zjx Y1 X1 hn (by rw[dH];omega) (by omega)) ?_
 rintro _ h2 t2 k2 rfl
 have j1:t1<t1+1+1:=by omega
 have j2:t1+1<t1+1+1:=by omega
 rw[<-VP]
 simp[-ar,cn.cr,j1,j2,az]
 exact⟨uK (by simp;omega),(k1.trans KA).trans k2⟩
def Yoy{q:Rat}{st:St}(hl:(aP q).length<1000000000):A.C.call (.func 232 [] []) [.str (aP q)] st=some (.str (aL q.num),st):=by
 have cD:=fun st=>F7 (s:=aP q) (st:=st) (by omega)
 have h2:ah (aP q)<=(aP q).length:=by
  rw[Ks]
  unfold aP
  split
  ·exact aO _
  ·rw[iN];omega
 have a4:∀st:St,uC st (some (.str (aP q))) (some none) (some (some (.int .i64 (ah (aP q):Nat))))=some (.str (aL q.num),st):=fun st=>by rw[YL (by omega) (by omega),Int.toNat_natCast,MZ]
 apply Call.eq
 rw[aM,A.k232 (by simp)]
 simp[A.b232,cD,aB,a4]
def Yqs{q:Rat}{st:St}(hl:(aP q).length<1000000000):A.C.call (.func 233 [] []) [.str (aP q)] st=some (.str (aq q.den),st):=by
 have cD:=fun st=>F7 (s:=aP q) (st:=st) (by omega)
 have au:=Dw q
 have h2:ah (aP q)<=(aP q).length:=by
  rw[Ks]
  unfold aP
  split
  ·exact aO _
  ·rw[iN];omega
 apply Call.eq
 rw[aM,A.k233 (by simp)]
 by_cases hd:q.den=1
 ·have c1:(ah (aP q):Int)=((aP q).length:Int):=by omega
  rw[hd,Qm]
  simp[A.b233,cD,c1]
 ·have gj:=au.2 hd
  have c1:¬(ah (aP q):Int)=((aP q).length:Int):=by omega
  have c2:¬ah (aP q)=(aP q).length:=by omega
  have w1:bh .i64 ((ah (aP q):Int)+1)=(ah (aP q):Int)+1:=cE (by omega) (by omega)
  have yp:=M0 q hd
  have a4:∀st:St,uC st (some (.str (aP q))) (some (some (.int .i64 ((ah (aP q):Int)+1)))) (some none)=some (.str (aq q.den),st):=fun st=>by
   rw[Ia (by omega) (by omega)]
   have:((ah (aP q):Int)+1).toNat=ah (aP q)+1:=by omega
   rw[this,yp]
  simp[A.b233,cD,c1,w1,aB,a4]
def Ynj(z:Int):aP (z:Rat)=aL z:=by
 unfold aP
 rw[ax (by simp)];simp
def Yrl{z:Int}{st:St}(hl:(aL z).length<1000000000):A.C.call (.func 231 [] []) [.str (aL z)] st=some (.str (aq z.natAbs),st):=by
 have hs:=fun st=>Ta (q:=(z:Rat)) (st:=st)
 rw[Ynj]at hs
 have hn:((z:Rat)).num=z:=by simp
 rw[hn]at hs
 apply Call.eq
 rw[aM,A.k231 (by simp)]
 by_cases hz:z<0
 ·have e1:aL z=45::aq z.natAbs:=by unfold aL;rw[ax hz]
  have e3:dL z= -1:=by unfold dL;rw[ax hz]
  rw[e1,e3]at hs
  have a3:∀st:St,uC st (some (.str (45::aq z.natAbs))) (some (some (.int .i64 1))) (some none)=some (.str (aq z.natAbs),st):=fun st=>by rw[Ia (by omega) (by simp only[bo];omega)];rfl
  rw[e1]
  simp[A.b231,hs,aB,a3]
 ·have e1:aL z=aq z.natAbs:=by unfold aL;rw[ak hz]
  have e3:¬dL z<0:=by unfold dL;rw[ak hz];split<;>omega
  rw[e1]at hs
  rw[e1]
  simp[A.b231,hs,e3]
def Yfb{q:Rat}{st:St}(hl:(aP q).length<1000000000):A.C.call (.func 186 [] []) [.str (aP q)] st=some (.int .i64 (if By q=true then 4 else 0),st):=by
 have h1:=fun st=>Yoy (q:=q) (st:=st) hl
 have h2:=fun st=>Yqs (q:=q) (st:=st) hl
 have iw:(aL q.num).length<1000000000:=by
  have:(aL q.num).length<=(aP q).length:=by
   unfold aP
   split
   ·exact aO _
   ·rw[iN];omega
  omega
 have h3:=fun st=>Yrl (z:=q.num) (st:=st) iw
 apply Call.eq
 rw[aM,A.k186 (by simp)]
 unfold By
 by_cases c1:600<(aq q.num.natAbs).length
 ·have c1':(600:Int)<((aq q.num.natAbs).length:Int):=by omega
  simp[A.b186,h1,h3,c1,c1']
 ·have c1':¬(600:Int)<((aq q.num.natAbs).length:Int):=by omega
  by_cases c2:600<(aq q.den).length
  ·have c2':(600:Int)<((aq q.den).length:Int):=by omega
   simp[A.b186,h1,h2,h3,c1,c1',c2,c2']
  ·have c2':¬(600:Int)<((aq q.den).length:Int):=by omega
   simp[A.b186,h1,h2,h3,c1,c1',c2,c2']
variable {N:Nat} {a b:Int} {h:T O} {x y:V}
set_option maxHeartbeats 1000000
def A.nR:bN:=sr [lN 34 2 2,c1 35 196 34,mv 33 35,xt 36 33 0,xt 37 33 1,mv 6 36,mv 7 37]
 (sr [lN 39 2 3,c1 40 196 39,mv 38 40,xt 41 38 0,xt 42 38 1,mv 8 41,mv 9 42]
 (.seq (.block 0 (sr [mv 44 6,mv 45 8,ge 46 (.bin .eql (.bI .bool) false (tq 44) (tq 45)),mv 43 46]
 (cd 43
 (sr [mv 47 6,mv 48 7,mv 49 9,c2 50 198 48 49,c2 51 197 47 50,gn (.store 2 (tq 4) (tq 51))]
 (.ret))
 (sr [mv 53 7,mv 54 9,c2 55 199 53 54,bc 56 .geq 55 0,mv 52 56]
 (cd 52
 (sr [mv 57 6,mv 58 7,mv 59 9,c2 60 200 58 59,c2 61 197 57 60,gn (.store 2 (tq 4) (tq 61))]
 (.ret))
 (.skip))))))
 (sr [mv 62 8,mv 63 9,mv 64 7,c2 65 200 63 64,c2 66 197 62 65,gn (.store 2 (tq 4) (tq 66))]
 (.ret))))
def A.b154:bN:=sr [bx 2 106 0,bx 3 106 1,ge 4 (.alloc [.int .i64 0,.aa] 106)]
 (.seq (sr [fa 10 1 2,ld 11 10,ge 12 (.bin .eql (.bI .slice) true (tq 11) (.const .aa)),mv 13 12,gy 14 13 (.i_ 1 (tq 3)),gy 15 13 (.load none (tq 14)),gy 16 13 (.bin .eql (.bI .slice) true (tq 15) (.const .aa)),pf 17 13 16]
 (cd 17
 (sr [fa 18 0 2,ld 19 18,fa 20 0 3,ld 21 20,bi 22 .add 19 21,mv 5 22]
 (sr [mv 23 5,fa 24 0 2,ld 25 24,bi 26 .gtr 23 25,fa 27 0 3,ld 28 27,bc 29 .gtr 28 0,ge 30 (.bin .eql (.bI .bool) false (tq 26) (tq 29))]
 (cd 30
 (sr [mv 31 5,ge 32 (.build [.int .i64 0,.aa] [(0,1,(tq 31))]),gn (.store 2 (tq 4) (tq 32))]
 (.ret))
 (.skip))))
 (.skip)))
 A.nR)
def A.k154:=@A.kk 154 67 [.cell 4 (some 2)] A.b154 (by kernel_rfl) rfl
def A.b238:=A.q Tryz.f238
def A.k238:=@A.kk 238 9 [.cell 4 (some 2)] A.b238 (by kernel_rfl) rfl
def A.nT:bN:=sr [lN 50 2 2,c1 51 196 50,mv 49 51,xt 52 49 0,xt 53 49 1,mv 7 52,mv 8 53]
 (sr [lN 55 2 3,c1 56 196 55,mv 54 56,xt 57 54 0,xt 58 54 1,mv 9 57,mv 10 58]
 (sr [mv 59 7,mv 60 9,ge 61 (.bin .neq (.bI .bool) false (tq 59) (tq 60)),mv 62 8,mv 63 10,c2 64 204 62 63,c2 65 197 61 64,gn (.store 2 (tq 4) (tq 65))]
 (.ret)))
def A.b156:bN:=sr [bx 2 106 0,bx 3 106 1,ge 4 (.alloc [.int .i64 0,.aa] 106)]
 (.seq (sr [fa 11 1 2,ld 12 11,ge 13 (.bin .eql (.bI .slice) true (tq 12) (.const .aa)),mv 14 13,gy 15 14 (.i_ 1 (tq 3)),gy 16 14 (.load none (tq 15)),gy 17 14 (.bin .eql (.bI .slice) true (tq 16) (.const .aa)),pf 18 14 17]
 (cd 18
 (.seq (.dc [fa 20 0 2,ld 21 20,c1 22 203 21,fa 23 0 3,ld 24 23,c1 25 203 24,c2 26 202 22 25,mv 19 26,xt 27 19 0,xt 28 19 1,mv 5 27,mv 6 28] [0,1,3,0,8,31,63,127,255,255,511,2047])
 (sr [mv 29 5,ge 30 (.bin .eql (.bI .int) true (tq 29) (.const (.int .u64 0))),mv 31 30,mg 32 6 31,gy 33 31 (.bin .leq (.node []) false (tq 32) (.const (.int .u64 9223372036854775807))),pf 34 31 33]
 (cd 34
 (.seq (sr [fa 35 0 2,ld 36 35,bc 37 .lss 36 0,fa 38 0 3,ld 39 38,bc 40 .lss 39 0,ge 41 (.bin .neq (.bI .bool) false (tq 37) (tq 40))]
 (cd 41
 (sr [mv 42 6,ge 43 (.cR .i64 (tq 42)),ge 44 (.un .neg (tq 43)),ge 45 (.build [.int .i64 0,.aa] [(0,1,(tq 44))]),gn (.store 2 (tq 4) (tq 45))]
 (.ret))
 (.skip)))
 (sr [mv 46 6,ge 47 (.cR .i64 (tq 46)),ge 48 (.build [.int .i64 0,.aa] [(0,1,(tq 47))]),gn (.store 2 (tq 4) (tq 48))]
 (.ret)))
 (.skip))))
 (.skip)))
 A.nT)
def A.k156:=@A.kk 156 66 [.cell 4 (some 2)] A.b156 (by kernel_rfl) rfl
def A.b195:=A.q Tryz.f195
def A.k195:=@A.kk 195 29 [.tmp 4] A.b195 (by kernel_rfl) rfl
structure Iw (h:T O) (N q:Nat) (z:Int) (st:St):Prop where
 w:ar N st.w=[]
 ad:ab h N st.h st.n
 ex:∃n u,st.h.get q=some (.cells [.int .i64 n,u] 106 true)/\In st.h st.n (.agg [.int .i64 n,u]) z
def Zx7(a b:Int):(a*b<0)↔((a<0)≠(b<0))/\a≠0/\b≠0:=by
 rcases Int.lt_trichotomy a 0 with ha|ha|ha<;>rcases Int.lt_trichotomy b 0 with hb|hb|hb
 ·have:=Int.mul_pos_of_neg_of_neg ha hb
  simp[ha,hb];omega
 ·subst hb;simp
 ·have:=Int.mul_neg_of_neg_of_pos ha hb
  have h1:¬b<0:=by omega
  simp[ha,h1,this];omega
 ·subst ha;simp
 ·subst ha;simp
 ·subst ha;simp
 ·have:=Int.mul_neg_of_pos_of_neg ha hb
  have h1:¬a<0:=by omega
  simp[hb,h1,this];omega
 ·subst hb;simp
 ·have:=Int.mul_pos ha hb
  have h1:¬a<0:=by omega
  have h2:¬b<0:=by omega
  simp[h1,h2];omega
def Z8{n k:Nat}(h:n<B^k):(aG n).length<=k:=by
 apply zB
 intro hc
 obtain⟨j,hj⟩:∃j,(aG n).length=j+1:=⟨(aG n).length-1,by omega⟩
 have:=(Ih hj).1
 have:=rJ (show 0<B by decide) (show k<=j by omega)
 omega
def Tb(n:Nat):n<B^(aG n).length:=by
 have:=FN (rW n)
 rwa [m7]at this
def Z1(a b:Int):wl (a+b)<=max (wl a) (wl b)+1:=by
 unfold wl
 apply Z8
 have h1:=Tb a.natAbs
 have h2:=Tb b.natAbs
 have h3:=rJ (show 0<B by decide) (CU (aG a.natAbs).length (aG b.natAbs).length)
 have h4:=rJ (show 0<B by decide) (CQ (aG a.natAbs).length (aG b.natAbs).length)
 have h5:(a+b).natAbs<=a.natAbs+b.natAbs:=Int.natAbs_add_le a b
 rw[gw]
 generalize B^max (aG a.natAbs).length (aG b.natAbs).length=p at*
 have:p*2<=p*B:=kO p (by decide)
 omega
def Ol(a:Int):wl (-a)=wl a:=by unfold wl;rw[Bz]
def DX(a b:Int):wl (a*b)<=wl a+wl b:=by
 unfold wl
 apply Z8
 rw[vA,kj]
 have h1:=Tb a.natAbs
 have h2:=Tb b.natAbs
 exact BR h1 h2
def Iv(h:a.natAbs<=b.natAbs):wl a<=wl b:=FR h
def Yll{H:T O}{n1 n2:Int}{u1 u2:V}{r0:T V}(hx:In H (N+3) (.agg [.int .i64 n1,u1]) a)(hy:In H (N+3) (.agg [.int .i64 n2,u2]) b)(la:wl a<500000000000)(lb:wl b<500000000000)(hK:ab h N H (N+3))
  (gx:H.get N=some (.cells [.int .i64 n1,u1] 106 true)) (gy:H.get (N+1)=some (.cells [.int .i64 n2,u2] 106 true)) (gz:H.get (N+2)=some (.cells [.int .i64 0,.aa] 106 true)) (r2:r0.get 2=some (.ptr N 0)) (r3:r0.get 3=some (.ptr (N+1) 0)) (r4:r0.get 4=some (.ptr (N+2) 0)):
  Code A.C none A.nR ⟨r0,67,[]⟩ ⟨H,N+3,[]⟩ (fun e fr st=>e=.ret/\∃r,fr=⟨r,67,[]⟩/\r.get 4=some (.ptr (N+2) 0)/\Iw h N (N+2) (a+b) st):=by
 rw[bb]
 simp[A.nR,r2,gx,aR,aC]
 refine ay (DL hx) ?_
 rintro _ h1 N1 k1 ⟨ua,rfl,NQ⟩
 have eY:=k1.le
 have NR:=(k1.get (N+1) (by omega)).trans gy
 have gz1:=(k1.get (N+2) (by omega)).trans gz
 simp[r3,NR,aR,aC]
 refine ay (DL (hy.ad k1)) ?_
 rintro _ h2 N2 k2 ⟨ub,rfl,Ix⟩
 have gI:=k2.le
 have gz2:=(k2.get (N+2) (by omega)).trans gz1
 have wK:=NQ.ad k2
 have FY:(aG a.natAbs).length<500000000000:=la
 have Sk:(aG b.natAbs).length<500000000000:=lb
 have kA:=(hK.trans k1).trans k2
 have PC:=Z1 a b
 have fin:∀(z:Int) (v:V) (h4:T O) (n4:Nat),ab h2 N2 h4 n4->In h4 n4 v z->z=a+b->∃(n5:Int) (u5:V),v=.agg [.int .i64 n5,u5]/\V.one u5=true/\h4.get (N+2)=some (.cells [.int .i64 0,.aa] 106 true)/\∀W,ar N W=[]->Iw h N (N+2) (a+b) ⟨h4.set (N+2) (.cells [.int .i64 n5,u5] 106 true),n4,W⟩:=by
  intro z v h4 n4 k4 hv hz
  obtain⟨n5,u5,rfl,jx⟩:=hv.cells
  have Bl:=(k4.get (N+2) (by omega)).trans gz2
  have uE:=k4.le
  subst hz
  exact⟨n5,u5,rfl,jx,Bl,fun W hW=>⟨hW,(kA.trans k4).set (by omega),n5,u5,by simp,hv.aH Bl (by simp) rfl⟩⟩
 by_cases hs:(a<0)=(b<0)
 ·have jh:(decide (a<0)==decide (b<0))=true:=by simp[hs]
  simp[aJ,jh]
  refine ay (Zxd wK Ix (by omega) (by omega)) ?_
  rintro v h3 N3 k3 hv
  have wI:a.natAbs+b.natAbs=(a+b).natAbs:=by
   by_cases h:a<0
   ·have:b<0:=by rw[hs]at h;exact h
    omega
   ·have:¬b<0:=by rw[hs]at h;exact h
    omega
  rw[wI]at hv
  simp[]
  refine ay (FU hv (by unfold wl at PC la lb;omega)) ?_
  rintro v h4 N4 k4 hv
  obtain⟨n5,u5,rfl,jx,Bl,hf⟩:=fin _ _ _ _ (k3.trans k4) hv (by
   by_cases h:a<0
   ·have:b<0:=by rw[hs]at h;exact h
    simp[h];omega
   ·have:¬b<0:=by rw[hs]at h;exact h
    simp[h];omega)
  unfold V.one at jx
  simp[Bl,jx,ae,bD,r4]
  exact hf _ (by simp[ar])
 ·have jh:(decide (a<0)==decide (b<0))=false:=by
   by_cases h:a<0<;>by_cases h':b<0<;>simp_all
  simp[aJ,jh]
  refine ay (Zih wK Ix (by omega) (by omega)) ?_
  rintro _ h3 N3 k3 rfl
  have PD:=wK.ad k3
  have PE:=Ix.ad k3
  by_cases hc:b.natAbs<=a.natAbs
  ·have c1:(0:Int)<=wF a.natAbs b.natAbs:=by unfold wF;split<;>(try split)<;>omega
   simp[c1]
   refine ay (Znx PD PE hc (by omega) (by omega)) ?_
   rintro v h5 N5 k5 hv
   simp[]
   refine ay (FU hv (by have:=FR (show a.natAbs-b.natAbs<=a.natAbs by omega);omega)) ?_
   rintro v h4 N4 k4 hv
   obtain⟨n5,u5,rfl,jx,Bl,hf⟩:=fin _ _ _ _ ((k3.trans k5).trans k4) hv (by
    by_cases h:a<0
    ·have:¬b<0:=by intro h2;apply hs;simp[h,h2]
     simp[h];omega
    ·have:b<0:=by apply Decidable.byContradiction;intro h2;apply hs;simp[h,h2]
     simp[h];omega)
   unfold V.one at jx
   simp[Bl,jx,ae,bD,r4]
   exact hf _ (by simp[ar])
  ·have c1:¬(0:Int)<=wF a.natAbs b.natAbs:=by unfold wF;split<;>(try split)<;>omega
   simp[c1]
   refine ay (Znx PE PD (by omega) (by omega) (by omega)) ?_
   rintro v h5 N5 k5 hv
   simp[]
   refine ay (FU hv (by have:=FR (show b.natAbs-a.natAbs<=b.natAbs by omega);omega)) ?_
   rintro v h4 N4 k4 hv
   obtain⟨n5,u5,rfl,jx,Bl,hf⟩:=fin _ _ _ _ ((k3.trans k5).trans k4) hv (by
    by_cases h:b<0
    ·have:¬a<0:=by intro h2;apply hs;simp[h,h2]
     simp[h];omega
    ·have:a<0:=by apply Decidable.byContradiction;intro h2;apply hs;simp[h,h2]
     simp[h];omega)
   unfold V.one at jx
   simp[Bl,jx,ae,bD,r4]
   exact hf _ (by simp[ar])
def NV(hx:In h N x a)(hy:In h N y b)(la:wl a<500000000000)(lb:wl b<500000000000):Fn A.C 154 [x,y] h N (fun v h' n'=>In h' n' v (a+b)):=by
 intro w
 rw[aM,A.k154 (by simp)]
 obtain⟨n1,u1,rfl,o1⟩:=hx.cells
 obtain⟨n2,u2,rfl,o2⟩:=hy.cells
 have kk:=aN (aN (aN (ab.refl (h:=h) (n:=N)) (.cells [.int .i64 n1,u1] 106 true)) (.cells [.int .i64 n2,u2] 106 true)) (.cells [.int .i64 0,.aa] 106 true)
 unfold V.one at o1 o2
 have go:∀r:T V,r.get 2=some (.ptr N 0)->r.get 3=some (.ptr (N+1) 0)->r.get 4=some (.ptr (N+2) 0)->bz A.C [.fin [.cell 4 (some 2)] ⟨h,N,w⟩] (eK (A.C.code none A.nR ⟨r,67,[]⟩ ⟨((h.set N (.cells [.int .i64 n1,u1] 106 true)).set (N+1) (.cells [.int .i64 n2,u2] 106 true)).set (N+1+1) (.cells [.int .i64 0,.aa] 106 true),N+1+1+1,[]⟩)) (Dl (az (fun v h' n'=>In h' n' v (a+b)) h N w)):=by
  intro r r2 r3 r4
  refine lG (Yll (hx.ad kk) (hy.ad kk) la lb kk (by simp) (by simp) (by simp) r2 r3 r4) ?_
  rintro e fr ⟨h5,n5,w5⟩ ⟨rfl,r',rfl,KI,hW,hK,n6,u6,g6,hi⟩
  simp only at hW hK g6 hi
  simp[KI,g6,aR,aC,az,hW]
  exact⟨hK,hi⟩
 rcases id hx with⟨e1,s1,s2⟩|⟨i,o,l,c,e1,_⟩
 ·simp only[V.agg.injEq,gU,V.int.injEq,true_and,and_true]at e1
  obtain⟨rfl,rfl⟩:=e1
  rcases id hy with⟨e2,t1,t2⟩|⟨i,o,l,c,e2,_⟩
  ·simp only[V.agg.injEq,gU,V.int.injEq,true_and,and_true]at e2
   obtain⟨rfl,rfl⟩:=e2
   have kr:=fun (o1 o2:O)=>(kk.set (i:=N+1+1) (o:=o1) (by omega))
   by_cases BJ: -9223372036854775808<=n1+n2/\n1+n2<9223372036854775808
   ·have w1:bh .i64 (n1+n2)=n1+n2:=cE (by omega) (by omega)
    by_cases hp:0<n2
    ·have c1:n1<n1+n2:=by omega
     simp[A.b154,aR,aC,ae,aJ,w1,hp,c1,az]
     exact⟨kk.set (by omega),In.small (by omega) (by omega)⟩
    ·have c1:¬n1<n1+n2:=by omega
     simp[A.b154,aR,aC,ae,aJ,w1,hp,c1,az]
     exact⟨kk.set (by omega),In.small (by omega) (by omega)⟩
   ·obtain⟨y,tD⟩:∃y,bh .i64 (n1+n2)=y:=⟨_,rfl⟩
    have x_:y=n1+n2-18446744073709551616/\0<n2\/y=n1+n2+18446744073709551616/\¬0<n2:=by
     rw[<-tD,AB]
     simp only[IntKind.wrap,IntKind.bits,IntKind.signed]
     simp
     omega
    by_cases hp:0<n2
    ·have c1:¬n1<y:=by omega
     simp[A.b154,aR,aC,ae,aJ,tD,hp,c1]
     exact go _ (by simp) (by simp) (by simp)
    ·have c1:n1<y:=by omega
     simp[A.b154,aR,aC,ae,aJ,tD,hp,c1]
     exact go _ (by simp) (by simp) (by simp)
  ·simp only[V.agg.injEq,gU,V.int.injEq,true_and,and_true]at e2
   obtain⟨rfl,rfl⟩:=e2
   simp[A.b154,aR,aC,ae,aJ]
   exact go _ (by simp) (by simp) (by simp)
 ·simp only[V.agg.injEq,gU,V.int.injEq,true_and,and_true]at e1
  obtain⟨rfl,rfl⟩:=e1
  simp[A.b154,aR,aC,ae,aJ,o2]
  exact go _ (by simp) (by simp) (by simp)
def Ylt(hx:In h N x a)(hy:In h N y b)(la:wl a<500000000000)(lb:wl b<500000000000):Fn A.C 238 [x,y] h N (fun v h' n'=>In h' n' v (a-b)):=by
 intro w
 rw[aM,A.k238 (by simp)]
 obtain⟨n1,u1,rfl,o1⟩:=hx.cells
 obtain⟨n2,u2,rfl,o2⟩:=hy.cells
 have kk:=aN (aN (aN (ab.refl (h:=h) (n:=N)) (.cells [.int .i64 n1,u1] 106 true)) (.cells [.int .i64 n2,u2] 106 true)) (.cells [.int .i64 0,.aa] 106 true)
 have MK:=KC (hy.ad kk) lb
 have jv:=hx.ad kk
 unfold V.one at o1 o2
 simp[A.b238,aR,aC,ae,o1,o2]
 refine ay MK ?_
 rintro v h1 qL k1 hv
 simp[]
 refine ay (NV (jv.ad k1) hv la (by rw[Ol];exact lb)) ?_
 rintro v2 h2 kY k2 jL
 obtain⟨n5,u5,rfl,jx⟩:=jL.cells
 unfold V.one at jx
 have k12:=k1.trans k2
 have ye:=k12.le
 have g2:=k12.get (N+1+1) (by omega)
 simp at g2
 have au:N+1+1<kY:=by omega
 have cX:N+1+1<qL:=by have:=k1.le;omega
 simp[g2,jx,ae,bD,au,cX,cn.cr,az]
 have he:a+ -b=a-b:=by omega
 rw[he]at jL
 exact⟨(kk.trans k12).set (by omega),jL.aH g2 (by simp) rfl⟩
def Yjg{H:T O}{n1 n2:Int}{u1 u2:V}{r0:T V}(hx:In H (N+3) (.agg [.int .i64 n1,u1]) a)(hy:In H (N+3) (.agg [.int .i64 n2,u2]) b)(la:wl a<500000000000)(lb:wl b<500000000000)(hK:ab h N H (N+3))
  (gx:H.get N=some (.cells [.int .i64 n1,u1] 106 true)) (gy:H.get (N+1)=some (.cells [.int .i64 n2,u2] 106 true)) (gz:H.get (N+2)=some (.cells [.int .i64 0,.aa] 106 true)) (r2:r0.get 2=some (.ptr N 0)) (r3:r0.get 3=some (.ptr (N+1) 0)) (r4:r0.get 4=some (.ptr (N+2) 0)):
  Code A.C none A.nT ⟨r0,66,[]⟩ ⟨H,N+3,[]⟩ (fun e fr st=>e=.ret/\∃r,fr=⟨r,66,[]⟩/\r.get 4=some (.ptr (N+2) 0)/\Iw h N (N+2) (a*b) st):=by
 rw[bb]
 simp[A.nT,r2,gx,aR,aC]
 refine ay (DL hx) ?_
 rintro _ h1 N1 k1 ⟨ua,rfl,NQ⟩
 have eY:=k1.le
 have NR:=(k1.get (N+1) (by omega)).trans gy
 have gz1:=(k1.get (N+2) (by omega)).trans gz
 simp[r3,NR,aR,aC]
 refine ay (DL (hy.ad k1)) ?_
 rintro _ h2 N2 k2 ⟨ub,rfl,Ix⟩
 have gI:=k2.le
 have gz2:=(k2.get (N+2) (by omega)).trans gz1
 have wK:=NQ.ad k2
 have FY:(aG a.natAbs).length<500000000000:=la
 have Sk:(aG b.natAbs).length<500000000000:=lb
 have kA:=(hK.trans k1).trans k2
 have PC:=DX a b
 simp[aJ]
 refine ay (Zv7 wK Ix (by omega) (by omega)) ?_
 rintro v h3 N3 k3 hv
 have hmul:a.natAbs*b.natAbs=(a*b).natAbs:=(vA a b).symm
 rw[hmul]at hv
 simp[]
 refine ay (FU hv (by unfold wl at PC la lb;omega)) ?_
 rintro v h4 N4 k4 hv
 obtain⟨n5,u5,rfl,jx⟩:=hv.cells
 have Bl:=((k3.trans k4).get (N+2) (by omega)).trans gz2
 have uE:=(k3.trans k4).le
 unfold V.one at jx
 have hs:=Zx7 a b
 have he:(if (!decide (a<0)==decide (b<0))=true then -((a*b).natAbs:Int) else (a*b).natAbs)=a*b:=by
  have h0:a=0\/b=0->a*b=0:=by rintro(rfl|rfl)<;>simp
  by_cases h1:a<0<;>by_cases h2:b<0<;>simp[h1,h2]at hs ⊢<;>omega
 rw[he]at hv
 simp[Bl,jx,ae,bD,r4]
 exact⟨by simp[ar],((kA.trans k3).trans k4).set (by omega),n5,u5,by simp,hv.aH Bl (by simp) rfl⟩
def Be(hx:In h N x a)(hy:In h N y b)(la:wl a<500000000000)(lb:wl b<500000000000):Fn A.C 156 [x,y] h N (fun v h' n'=>In h' n' v (a*b)):=by
 intro w
 rw[aM,A.k156 (by simp)]
 obtain⟨n1,u1,rfl,o1⟩:=hx.cells
 obtain⟨n2,u2,rfl,o2⟩:=hy.cells
 have kk:=aN (aN (aN (ab.refl (h:=h) (n:=N)) (.cells [.int .i64 n1,u1] 106 true)) (.cells [.int .i64 n2,u2] 106 true)) (.cells [.int .i64 0,.aa] 106 true)
 unfold V.one at o1 o2
 have go:∀r:T V,r.get 2=some (.ptr N 0)->r.get 3=some (.ptr (N+1) 0)->r.get 4=some (.ptr (N+2) 0)->bz A.C [.fin [.cell 4 (some 2)] ⟨h,N,w⟩] (eK (A.C.code none A.nT ⟨r,66,[]⟩ ⟨((h.set N (.cells [.int .i64 n1,u1] 106 true)).set (N+1) (.cells [.int .i64 n2,u2] 106 true)).set (N+1+1) (.cells [.int .i64 0,.aa] 106 true),N+1+1+1,[]⟩)) (Dl (az (fun v h' n'=>In h' n' v (a*b)) h N w)):=by
  intro r r2 r3 r4
  refine lG (Yjg (hx.ad kk) (hy.ad kk) la lb kk (by simp) (by simp) (by simp) r2 r3 r4) ?_
  rintro e fr ⟨h5,n5,w5⟩ ⟨rfl,r',rfl,KI,hW,hK,n6,u6,g6,hi⟩
  simp only at hW hK g6 hi
  simp[KI,g6,aR,aC,az,hW]
  exact⟨hK,hi⟩
 rcases id hx with⟨e1,s1,s2⟩|⟨i,o,l,c,e1,_⟩
 ·simp only[V.agg.injEq,gU,V.int.injEq,true_and,and_true]at e1
  obtain⟨rfl,rfl⟩:=e1
  rcases id hy with⟨e2,t1,t2⟩|⟨i,o,l,c,e2,_⟩
  ·simp only[V.agg.injEq,gU,V.int.injEq,true_and,and_true]at e2
   obtain⟨rfl,rfl⟩:=e2
   have z1:=fun st=>YV s1 s2 (st:=st)
   have z2:=fun st=>YV t1 t2 (st:=st)
   have hm:n1.natAbs*n2.natAbs=(n1*n2).natAbs:=(vA _ _).symm
   have fS:bu (n1.natAbs*n2.natAbs)+18446744073709551616*cm (n1.natAbs*n2.natAbs)=(n1*n2).natAbs:=by
    rw[<-hm]
    have:=uZ (n1.natAbs*n2.natAbs) 18446744073709551616
    unfold bu cm;omega
   have PF:=Zx7 n1 n2
   obtain⟨hi,g_⟩:∃x,cm (n1.natAbs*n2.natAbs)=x:=⟨_,rfl⟩
   obtain⟨lo,A2⟩:∃x,bu (n1.natAbs*n2.natAbs)=x:=⟨_,rfl⟩
   rw[g_,A2]at fS
   have hz:n1=0\/n2=0->n1*n2=0:=by rintro(rfl|rfl)<;>simp
   simp[A.b156,aR,aC,ae,aJ,z1,z2]
   refine ay (Nz (x:=n1.natAbs) (y:=n2.natAbs) (by omega) (by omega)) ?_
   rintro _ h' N' k ⟨rfl,rfl,rfl⟩
   rw[g_,A2]
   have d1:¬N=N+1:=by omega
   by_cases h0:hi=0
   ·by_cases h1:lo<=9223372036854775807
    ·have fO:(lo:Int)<=9223372036854775807:=by omega
     have w1:bh .i64 (lo:Int)=lo:=cE (by omega) (by omega)
     have w2:IntKind.wrap .i64 (-(lo:Int))= -(lo:Int):=LW (by omega) (by omega)
     by_cases hs:(n1<0)=(n2<0)
     ·have jh:(decide (n1<0)==decide (n2<0))=true:=by simp[hs]
      have hp:¬n1*n2<0:=by rw[PF];rintro⟨p,_⟩;exact p hs
      have he:(lo:Int)=n1*n2:=by omega
      simp[aR,aC,ae,aJ,h0,fO,jh,w1,az,cn.cr]
      exact⟨kk.set (by omega),by rw[<-he];exact In.small (by omega) (by omega)⟩
     ·have jh:(decide (n1<0)==decide (n2<0))=false:=by
       by_cases h:n1<0<;>by_cases h':n2<0<;>simp_all
      have he: -(lo:Int)=n1*n2:=by
       by_cases hq:n1=0\/n2=0
       ·have:=hz hq;omega
       ·have:n1*n2<0:=PF.2 ⟨hs,fun h=>hq (.inl h),fun h=>hq (.inr h)⟩
        omega
      simp[aR,aC,ae,aJ,h0,fO,jh,w1,w2,az,cn.cr]
      exact⟨kk.set (by omega),by rw[<-he];exact In.small (by omega) (by omega)⟩
    ·have fO:¬(lo:Int)<=9223372036854775807:=by omega
     simp[aR,aC,ae,aJ,h0,fO,cn.cr]
     exact go _ (by simp) (by simp) (by simp)
   ·simp[aR,aC,ae,aJ,h0,cn.cr]
    exact go _ (by simp) (by simp) (by simp)
  ·simp only[V.agg.injEq,gU,V.int.injEq,true_and,and_true]at e2
   obtain⟨rfl,rfl⟩:=e2
   simp[A.b156,aR,aC,ae,aJ]
   exact go _ (by simp) (by simp) (by simp)
 ·simp only[V.agg.injEq,gU,V.int.injEq,true_and,and_true]at e1
  obtain⟨rfl,rfl⟩:=e1
  simp[A.b156,aR,aC,ae,aJ,o2]
  exact go _ (by simp) (by simp) (by simp)
def Ymv(hx:In h N x a)(hy:In h N y b)(la:wl a<100000000000)(lb:wl b<100000000000):Fn A.C 195 [x,y] h N (fun v _ _=>v=.int .i64 (dL (a-b))):=by
 intro w
 rw[aM,A.k195 (by simp)]
 obtain⟨n1,u1,rfl,o1⟩:=hx.cells
 obtain⟨n2,u2,rfl,o2⟩:=hy.cells
 have kk:=aN (aN (ab.refl (h:=h) (n:=N)) (.cells [.int .i64 n1,u1] 106 true)) (.cells [.int .i64 n2,u2] 106 true)
 have zR:=Ylt (hx.ad kk) (hy.ad kk) (by omega) (by omega)
 have PC:=Z1 a (-b)
 rw[Ol]at PC
 unfold V.one at o1 o2
 rcases id hx with⟨e1,s1,s2⟩|⟨i,o,l,c,e1,_⟩
 ·simp only[V.agg.injEq,gU,V.int.injEq,true_and,and_true]at e1
  obtain⟨rfl,rfl⟩:=e1
  rcases id hy with⟨e2,t1,t2⟩|⟨i,o,l,c,e2,_⟩
  ·simp only[V.agg.injEq,gU,V.int.injEq,true_and,and_true]at e2
   obtain⟨rfl,rfl⟩:=e2
   by_cases h1:n1<n2
   ·simp[A.b195,aR,aC,ae,az,aJ,h1]
    exact⟨kk,by unfold dL;rw[ax (by omega)]⟩
   ·by_cases h2:n2<n1
    ·simp[A.b195,aR,aC,ae,az,aJ,h1,h2]
     exact⟨kk,by unfold dL;rw[ak (by omega),ak (by omega)]⟩
    ·simp[A.b195,aR,aC,ae,az,aJ,h1,h2]
     exact⟨kk,by unfold dL;rw[ak (by omega),ax (by omega)]⟩
  ·simp only[V.agg.injEq,gU,V.int.injEq,true_and,and_true]at e2
   obtain⟨rfl,rfl⟩:=e2
   simp[A.b195,aR,aC,ae,aJ]
   refine ay zR ?_
   rintro v h1 qL k1 hv
   simp[]
   refine ay (Im hv) ?_
   rintro _ h2 kY k2 rfl
   simp[az]
   exact(kk.trans k1).trans k2
 ·simp only[V.agg.injEq,gU,V.int.injEq,true_and,and_true]at e1
  obtain⟨rfl,rfl⟩:=e1
  simp[A.b195,aR,aC,ae,aJ,o2]
  refine ay zR ?_
  rintro v h1 qL k1 hv
  simp[]
  refine ay (Im hv) ?_
  rintro _ h2 kY k2 rfl
  simp[az]
  exact(kk.trans k1).trans k2
def Ym1(hx:In h N x a)(la:wl a<500000000000):Fn A.C 236 [x] h N (fun v h' n'=>In h' n' v (a.natAbs:Int)):=by
 intro w
 rw[aM,A.k236 (by simp)]
 obtain⟨n1,u1,rfl,o1⟩:=hx.cells
 have kk:=aN (aN (ab.refl (h:=h) (n:=N)) (.cells [.int .i64 n1,u1] 106 true)) (.cells [.int .i64 0,.aa] 106 true)
 have MK:=KC (hx.ad kk) la
 have IX:(n1<0)=(a<0):=by
  rcases hx with⟨e1,s1,s2⟩|⟨i,o,l,c,e1,_⟩
  ·simp only[V.agg.injEq,gU,V.int.injEq,true_and,and_true]at e1
   rw[e1.1]
  ·simp only[V.agg.injEq,gU,V.int.injEq,true_and,and_true]at e1
   rw[e1.1];unfold za;split<;>simp_all
 unfold V.one at o1
 by_cases h0:a<0
 ·have h1:n1<0:=by rw[IX];exact h0
  simp[A.b236,aR,aC,ae,o1,h1]
  refine ay MK ?_
  rintro v h2 n2 k2 hv
  obtain⟨n5,u5,rfl,jx⟩:=hv.cells
  unfold V.one at jx
  have ye:=k2.le
  have g2:=k2.get (N+1) (by omega)
  simp at g2
  have he:(-a)=(a.natAbs:Int):=by omega
  rw[he]at hv
  simp[g2,jx,ae,bD,aR,aC,az]
  exact⟨(kk.trans k2).set (by omega),hv.aH g2 (by simp) rfl⟩
 ·have h1:¬n1<0:=by rw[IX];exact h0
  have he:a=(a.natAbs:Int):=by omega
  rw[he]at hx
  simp[A.b236,aR,aC,ae,bD,o1,h1,az]
  exact⟨kk.set (by omega),(hx.ad kk).aH (i:=N+1) (c0:=[.int .i64 0,.aa]) (e0:=106) (w0:=true) (by simp) (by simp) rfl⟩
end
end Go.Mx
