/-lensletref01-/
import Derived.Test.YteojhfjdbpdolaaGreatDoorNaD
set_option linter.all false
namespace Go.Mx
noncomputable section
open Go Go.Proofs
set_option maxRecDepth 1000000
def A.b186:=A.q Tryz.f186
def A.k186:=@A.kk 186 13 [.tmp 2] A.b186 (by kernel_rfl) rfl
def A.b132:=A.q Tryz.f132
def A.k132:=@A.kk 132 14 [.tmp 2] A.b132 (by kernel_rfl) rfl
def A.b185:=A.q Tryz.f185
def A.k185:=@A.kk 185 13 [.tmp 2] A.b185 (by kernel_rfl) rfl
def A.b63:=A.q Tryz.f63
def A.k63:=@A.kk 63 14 [.tmp 2] A.b63 (by kernel_rfl) rfl
def A.b137:=A.q Tryz.f137
def A.k137:=@A.kk 137 7 [.tmp 2] A.b137 (by kernel_rfl) rfl
def A.b138:=A.q Tryz.f138
def A.k138:=@A.kk 138 14 [.tmp 2] A.b138 (by kernel_rfl) rfl
def A.b136:=A.q Tryz.f136
def A.k136:=@A.kk 136 9 [.tmp 2] A.b136 (by kernel_rfl) rfl
def A.b184:=A.q Tryz.f184
def A.k184:=@A.kk 184 5 [.tmp 2] A.b184 (by kernel_rfl) rfl
def ZI:aS 0=[48]:=by decide+kernel
def Yco{q:Rat}:aS q=[48]↔q=0:=⟨fun h=>Yh0 (h.trans ZI.symm),fun h=>by rw[h,ZI]⟩
def Zt2{q:Rat}{st:St}:A.C.call (.func 184 [] []) [.str (aS q)] st=some (.bool (decide (q=0)),st):=by
 have e:(aS q==[48])=decide (q=0):=by rw[Bool.eq_iff_iff,beq_iff_eq,decide_eq_true_eq];exact Yco
 apply Call.eq
 rw[aR,A.k184 (by simp)]
 simp[A.b184,aG,gL,e]
def zE{q:Rat}:q.num=0↔q=0:=Rat.num_eq_zero
def Ynk(q:Rat):0<(aS q).length:=by
 obtain⟨c,t,h,_⟩:=Zxd q
 rw[BX,h]
 split<;>simp
def Yhz(q:Rat):∃c,(aS q)[0]?=some c/\(aS q).head?=some c/\(cM c=45↔q.num<0):=by
 obtain⟨c,t,h,h1⟩:=Zxd q
 by_cases hz:q.num<0
 ·refine⟨45,?_,?_,?_⟩
  ·rw[BX,av hz];rfl
  ·rw[BX,av hz];rfl
  ·exact⟨fun _=>hz,fun _=>rfl⟩
 ·refine⟨c,?_,?_,?_⟩
  ·rw[BX,ak hz,h];rfl
  ·rw[BX,ak hz,h];rfl
  ·exact⟨fun h2=>by unfold cM at h2;omega,fun h2=>absurd h2 hz⟩
def Zxs{q:Rat}{st:St}:A.C.call (.func 186 [] []) [.str (aS q)] st=some (.int .i64 (eF q.num),st):=by
 have e:(aS q==[48])=decide (q=0):=by rw[Bool.eq_iff_iff,beq_iff_eq,decide_eq_true_eq];exact Yco
 obtain⟨c,h1,h2,h3⟩:=Yhz q
 have hp:=Ynk q
 have B5:(0:Int)<((aS q).length:Int):=by omega
 have aW:aS q≠[]:=fun hc=>by rw[hc]at hp;simp at hp
 apply Call.eq
 rw[aR,A.k186 (by simp)]
 by_cases h0:q=0
 ·have hn:q.num=0:=zE.2 h0
  have hs:eF q.num=0:=by rw[hn];rfl
  have e0:(aS q==[48])=true:=by rw[e];simp[h0]
  rw[hs]
  simp(disch:=first|(simp;done)|omega|rfl) [-getElem?_pos,A.b186,aG,gL,e0]
 ·have hn:q.num≠0:=fun hc=>h0 (zE.1 hc)
  by_cases hz:q.num<0
  ·have hs:eF q.num= -1:=by unfold eF;rw[av hz]
   have hc:=h3.2 hz
   rw[hs]
   simp(disch:=first|(simp;done)|omega|rfl) [-getElem?_pos,A.b186,aG,gL,e,h0,hp,B5,aW,h1,h2,hc]
  ·have hs:eF q.num=1:=by unfold eF;rw[ak hz,ak hn]
   have hc:¬cM c=45:=fun hc=>hz (h3.1 hc)
   rw[hs]
   simp(disch:=first|(simp;done)|omega|rfl) [-getElem?_pos,A.b186,aG,gL,e,h0,hp,B5,aW,h1,h2,hc]
def Yuj(q:Rat):QB (-q)=QB q:=by
 unfold QB
 rw[Rat.neg_den,Rat.neg_num,xY]
def Yel{q:Rat}{st:St}(hl:(aS q).length<1000000000):A.C.call (.func 132 [] []) [.str (aS q)] st=some (.str (aS (-q)),st):=by
 have hs:=fun st=>Zxs (q:=q) (st:=st)
 have dq:IntKind.max .i64=9223372036854775807:=rfl
 apply Call.eq
 rw[aR,A.k132 (by simp)]
 have eM:=BX (-q)
 rw[Yuj,Rat.neg_num]at eM
 by_cases hz:q.num<0
 ·have e1:aS q=45::QB q:=by rw[BX,av hz]
  have e2:aS (-q)=QB q:=by rw[eM,ak (by omega)]
  have e3:eF q.num= -1:=by unfold eF;rw[av hz]
  rw[e1,e3]at hs
  have a3:∀st:St,tK st (some (.str (45::QB q))) (some (some (.int .i64 1))) (some none)=some (.str (QB q),st):=fun st=>by rw[Ho (by omega) (by simp only[bo];omega)];rfl
  rw[e1,e2]
  simp[A.b132,hs,aB,a3]
 ·by_cases h0:q=0
  ·have e3:eF q.num=0:=by rw[zE.2 h0];rfl
   rw[e3]at hs
   have e4: -q=q:=by rw[h0];rfl
   rw[e4]
   simp[A.b132,hs,aG]
  ·have hn:q.num≠0:=fun hc=>h0 (zE.1 hc)
   have e1:aS q=QB q:=by rw[BX,ak hz]
   have e2:aS (-q)=45::QB q:=by rw[eM,av (by omega)]
   have e3:eF q.num=1:=by unfold eF;rw[ak hz,ak hn]
   rw[e3]at hs
   rw[e1]at hs hl
   have hb:¬(9223372036854775807:Int)<1+((QB q).length:Int):=by omega
   rw[e2,e1]
   simp[A.b132,hs,aG,gL,dq,hb]
def Zl7(q:Rat):q⁻¹=Rat.divInt (q.den:Int) q.num:=Rat.inv_def q
def Yoi{q:Rat}{k:Nat}{h:T O}{N:Nat}(hq:Qb k q)(hk:k<=400000000)(h0:q≠0):Fn A.C 185 [.str (aS q)] h N (fun u _ _=>u=.str (aS q⁻¹)):=by
 intro w
 have la:=FB hq.1
 have R4:=DI hq.2
 have z1:=uB hq.1
 have z2:=uB hq.2
 have hn:q.num≠0:=fun hc=>h0 (zE.1 hc)
 rw[aR,A.k185 (by simp)]
 simp[A.b185]
 refine aA (OH (q:=q) (by omega) (by omega)) ?_
 rintro _ h1 t1 k1 ⟨x1,y1,rfl,X1,Y1⟩
 obtain⟨u1,rfl,p1,p2,F1⟩:=X1.pH
 obtain⟨v1,rfl,p3,p4,G1⟩:=Y1.pH
 unfold V.one at p1 p3
 unfold V.cells at p2 p4
 have KA:=((((ab.refl (h:=h1) (n:=t1)).new (.cells [.bool false,.aa] 180 true)).new (.cells [.bool false,.aa] 180 true)).set (i:=t1) (o:=.cells [.bool (decide (q.num<0)),u1] 180 true) (aM _)).set (i:=t1+1) (o:=.cells [.bool (decide ((q.den:Int)<0)),v1] 180 true) (by omega)
 have c0:¬t1+1=t1:=by omega
 have c00:¬t1=t1+1:=by omega
 have i1:=k1.le
 generalize AX:(((h1.set t1 (.cells [.bool false,.aa] 180 true)).set (t1+1) (.cells [.bool false,.aa] 180 true)).set t1 (.cells [.bool (decide (q.num<0)),u1] 180 true)).set (t1+1) (.cells [.bool (decide ((q.den:Int)<0)),v1] 180 true)=HA at*
 have FH:HA.get t1=some (.cells [.bool (decide (q.num<0)),u1] 180 true):=by rw[<-AX];simp[c0,c00]
 have OP:HA.get (t1+1)=some (.cells [.bool (decide ((q.den:Int)<0)),v1] 180 true):=by rw[<-AX];simp
 have X1:=X1.ae KA
 have Y1:=Y1.ae KA
 simp[-ax,p1,p2,p3,p4,bC,ad,c0,AX,FH,OP,aO,aF]
 refine aA (Zjy Y1 X1 hn (by rw[dR];omega) (by omega)) ?_
 rintro _ h2 t2 k2 rfl
 have j1:t1<t1+1+1:=by omega
 have j2:t1+1<t1+1+1:=by omega
 rw[<-Zl7]
 simp[-ax,ct.cv,j1,j2,aE]
 exact⟨yD (by simp;omega),(k1.trans KA).trans k2⟩
def Yo1{q:Rat}{st:St}(hl:(aS q).length<1000000000):A.C.call (.func 137 [] []) [.str (aS q)] st=some (.str (aP q.num),st):=by
 have cC:=fun st=>Fk (s:=aS q) (st:=st) (by omega)
 have h2:ah (aS q)<=(aS q).length:=by
  rw[JO]
  unfold aS
  split
  ·exact aM _
  ·rw[iI];omega
 have a4:∀st:St,tK st (some (.str (aS q))) (some none) (some (some (.int .i64 (ah (aS q):Nat))))=some (.str (aP q.num),st):=fun st=>by rw[Yq (by omega) (by omega),Int.toNat_natCast,Ml]
 apply Call.eq
 rw[aR,A.k137 (by simp)]
 simp[A.b137,cC,aB,a4]
def Yqu{q:Rat}{st:St}(hl:(aS q).length<1000000000):A.C.call (.func 138 [] []) [.str (aS q)] st=some (.str (ar q.den),st):=by
 have cC:=fun st=>Fk (s:=aS q) (st:=st) (by omega)
 have ay:=C2 q
 have h2:ah (aS q)<=(aS q).length:=by
  rw[JO]
  unfold aS
  split
  ·exact aM _
  ·rw[iI];omega
 apply Call.eq
 rw[aR,A.k138 (by simp)]
 by_cases hd:q.den=1
 ·have c1:(ah (aS q):Int)=((aS q).length:Int):=by omega
  rw[hd,Kv]
  simp[A.b138,cC,aG,c1]
 ·have iD:=ay.2 hd
  have c1:¬(ah (aS q):Int)=((aS q).length:Int):=by omega
  have c2:¬ah (aS q)=(aS q).length:=by omega
  have w1:bj .i64 ((ah (aS q):Int)+1)=(ah (aS q):Int)+1:=cD (by omega) (by omega)
  have xN:=Mm q hd
  have a4:∀st:St,tK st (some (.str (aS q))) (some (some (.int .i64 ((ah (aS q):Int)+1)))) (some none)=some (.str (ar q.den),st):=fun st=>by
   rw[Ho (by omega) (by omega)]
   have:((ah (aS q):Int)+1).toNat=ah (aS q)+1:=by omega
   rw[this,xN]
  simp[A.b138,cC,aG,c1,c2,w1,aB,a4]
def Ynl(z:Int):aS (z:Rat)=aP z:=by
 unfold aS
 rw[av (by simp)];simp
def Yrh{z:Int}{st:St}(hl:(aP z).length<1000000000):A.C.call (.func 136 [] []) [.str (aP z)] st=some (.str (ar z.natAbs),st):=by
 have hs:=fun st=>Zxs (q:=(z:Rat)) (st:=st)
 rw[Ynl]at hs
 have hn:((z:Rat)).num=z:=by simp
 rw[hn]at hs
 apply Call.eq
 rw[aR,A.k136 (by simp)]
 by_cases hz:z<0
 ·have e1:aP z=45::ar z.natAbs:=by unfold aP;rw[av hz]
  have e3:eF z= -1:=by unfold eF;rw[av hz]
  rw[e1,e3]at hs
  have a3:∀st:St,tK st (some (.str (45::ar z.natAbs))) (some (some (.int .i64 1))) (some none)=some (.str (ar z.natAbs),st):=fun st=>by rw[Ho (by omega) (by simp only[bo];omega)];rfl
  rw[e1]
  simp[A.b136,hs,aB,a3]
 ·have e1:aP z=ar z.natAbs:=by unfold aP;rw[ak hz]
  have e3:¬eF z<0:=by unfold eF;rw[ak hz];split<;>omega
  rw[e1]at hs
  rw[e1]
  simp[A.b136,hs,e3]
def Yfh{q:Rat}{st:St}(hl:(aS q).length<1000000000):A.C.call (.func 63 [] []) [.str (aS q)] st=some (.int .i64 (if A6 q=true then 4 else 0),st):=by
 have h1:=fun st=>Yo1 (q:=q) (st:=st) hl
 have h2:=fun st=>Yqu (q:=q) (st:=st) hl
 have gZ:(aP q.num).length<1000000000:=by
  have:(aP q.num).length<=(aS q).length:=by
   unfold aS
   split
   ·exact aM _
   ·rw[iI];omega
  omega
 have h3:=fun st=>Yrh (z:=q.num) (st:=st) gZ
 apply Call.eq
 rw[aR,A.k63 (by simp)]
 unfold A6
 by_cases c1:600<(ar q.num.natAbs).length
 ·have c1':(600:Int)<((ar q.num.natAbs).length:Int):=by omega
  simp[A.b63,h1,h3,c1,c1']
 ·have c1':¬(600:Int)<((ar q.num.natAbs).length:Int):=by omega
  by_cases c2:600<(ar q.den).length
  ·have c2':(600:Int)<((ar q.den).length:Int):=by omega
   simp[A.b63,h1,h2,h3,c1,c1',c2,c2']
  ·have c2':¬(600:Int)<((ar q.den).length:Int):=by omega
   simp[A.b63,h1,h2,h3,c1,c1',c2,c2']
variable {N:Nat} {a b:Int} {h:T O} {x y:V}
set_option maxHeartbeats 1000000
def A.nL:bU:=sr [lN 34 2 2,c1 35 192 34,mv 33 35,xt 36 33 0,xt 37 33 1,mv 6 36,mv 7 37]
 (sr [lN 39 2 3,c1 40 192 39,mv 38 40,xt 41 38 0,xt 42 38 1,mv 8 41,mv 9 42]
 (.seq (.block 0 (sr [mv 44 6,mv 45 8,ge 46 (.bin .eql (.bX .bool) false (tq 44) (tq 45)),mv 43 46]
 (cd 43
 (sr [mv 47 6,mv 48 7,mv 49 9,c2 50 194 48 49,c2 51 193 47 50,gn (.store 2 (tq 4) (tq 51))]
 (.ret))
 (sr [mv 53 7,mv 54 9,c2 55 195 53 54,bc 56 .geq 55 0,mv 52 56]
 (cd 52
 (sr [mv 57 6,mv 58 7,mv 59 9,c2 60 196 58 59,c2 61 193 57 60,gn (.store 2 (tq 4) (tq 61))]
 (.ret))
 (.skip))))))
 (sr [mv 62 8,mv 63 9,mv 64 7,c2 65 196 63 64,c2 66 193 62 65,gn (.store 2 (tq 4) (tq 66))]
 (.ret))))
def A.b145:bU:=sr [bx 2 87 0,bx 3 87 1,ge 4 (.alloc [.int .i64 0,.aa] 87)]
 (.seq (sr [fa 10 1 2,ld 11 10,ge 12 (.bin .eql (.bX .slice) true (tq 11) (.const .aa)),mv 13 12,gy 14 13 (.iP 1 (tq 3)),gy 15 13 (.load none (tq 14)),gy 16 13 (.bin .eql (.bX .slice) true (tq 15) (.const .aa)),pf 17 13 16]
 (cd 17
 (sr [fa 18 0 2,ld 19 18,fa 20 0 3,ld 21 20,bi 22 .add 19 21,mv 5 22]
 (sr [mv 23 5,fa 24 0 2,ld 25 24,bi 26 .gtr 23 25,fa 27 0 3,ld 28 27,bc 29 .gtr 28 0,ge 30 (.bin .eql (.bX .bool) false (tq 26) (tq 29))]
 (cd 30
 (sr [mv 31 5,ge 32 (.build [.int .i64 0,.aa] [(0,1,(tq 31))]),gn (.store 2 (tq 4) (tq 32))]
 (.ret))
 (.skip))))
 (.skip)))
 A.nL)
def A.k145:=@A.kk 145 67 [.cell 4 (some 2)] A.b145 (by kernel_rfl) rfl
def A.b219:=A.q Tryz.f219
def A.k219:=@A.kk 219 9 [.cell 4 (some 2)] A.b219 (by kernel_rfl) rfl
def A.nM:bU:=sr [lN 50 2 2,c1 51 192 50,mv 49 51,xt 52 49 0,xt 53 49 1,mv 7 52,mv 8 53]
 (sr [lN 55 2 3,c1 56 192 55,mv 54 56,xt 57 54 0,xt 58 54 1,mv 9 57,mv 10 58]
 (sr [mv 59 7,mv 60 9,ge 61 (.bin .neq (.bX .bool) false (tq 59) (tq 60)),mv 62 8,mv 63 10,c2 64 200 62 63,c2 65 193 61 64,gn (.store 2 (tq 4) (tq 65))]
 (.ret)))
def A.b147:bU:=sr [bx 2 87 0,bx 3 87 1,ge 4 (.alloc [.int .i64 0,.aa] 87)]
 (.seq (sr [fa 11 1 2,ld 12 11,ge 13 (.bin .eql (.bX .slice) true (tq 12) (.const .aa)),mv 14 13,gy 15 14 (.iP 1 (tq 3)),gy 16 14 (.load none (tq 15)),gy 17 14 (.bin .eql (.bX .slice) true (tq 16) (.const .aa)),pf 18 14 17]
 (cd 18
 (.seq (.du [fa 20 0 2,ld 21 20,c1 22 199 21,fa 23 0 3,ld 24 23,c1 25 199 24,c2 26 198 22 25,mv 19 26,xt 27 19 0,xt 28 19 1,mv 5 27,mv 6 28] [0,1,3,0,8,31,63,127,255,255,511,2047])
 (sr [mv 29 5,ge 30 (.bin .eql (.bX .int) true (tq 29) (.const (.int .u64 0))),mv 31 30,mg 32 6 31,gy 33 31 (.bin .leq (.node []) false (tq 32) (.const (.int .u64 9223372036854775807))),pf 34 31 33]
 (cd 34
 (.seq (sr [fa 35 0 2,ld 36 35,bc 37 .lss 36 0,fa 38 0 3,ld 39 38,bc 40 .lss 39 0,ge 41 (.bin .neq (.bX .bool) false (tq 37) (tq 40))]
 (cd 41
 (sr [mv 42 6,ge 43 (.cW .i64 (tq 42)),ge 44 (.un .neg (tq 43)),ge 45 (.build [.int .i64 0,.aa] [(0,1,(tq 44))]),gn (.store 2 (tq 4) (tq 45))]
 (.ret))
 (.skip)))
 (sr [mv 46 6,ge 47 (.cW .i64 (tq 46)),ge 48 (.build [.int .i64 0,.aa] [(0,1,(tq 47))]),gn (.store 2 (tq 4) (tq 48))]
 (.ret)))
 (.skip))))
 (.skip)))
 A.nM)
def A.k147:=@A.kk 147 66 [.cell 4 (some 2)] A.b147 (by kernel_rfl) rfl
def A.b177:=A.q Tryz.f177
def A.k177:=@A.kk 177 29 [.tmp 4] A.b177 (by kernel_rfl) rfl
structure HJ (h:T O) (N q:Nat) (z:Int) (st:St):Prop where
 w:ax N st.w=[]
 ae:ab h N st.h st.n
 ex:∃n u,st.h.get q=some (.cells [.int .i64 n,u] 87 true)/\In st.h st.n (.agg [.int .i64 n,u]) z
def Zyf(a b:Int):(a*b<0)↔((a<0)≠(b<0))/\a≠0/\b≠0:=by
 rcases Int.lt_trichotomy a 0 with ha|ha|ha<;>rcases Int.lt_trichotomy b 0 with hb|hb|hb
 ·have:=Int.mul_pos_of_neg_of_neg ha hb
  simp[ha,hb];omega
 ·subst hb;simp
 ·have:=Int.mul_neg_of_neg_of_pos ha hb
  have h1:¬b<0:=by omega
  simp[ha,h1,this];omega
 ·subst ha;simp
 ·subst ha;simp
 ·subst ha;simp
 ·have:=Int.mul_neg_of_pos_of_neg ha hb
  have h1:¬a<0:=by omega
  simp[hb,h1,this];omega
 ·subst hb;simp
 ·have:=Int.mul_pos ha hb
  have h1:¬a<0:=by omega
  have h2:¬b<0:=by omega
  simp[h1,h2];omega
def ZQ{n k:Nat}(h:n<B^k):(aJ n).length<=k:=by
 apply yX
 intro hc
 obtain⟨j,hj⟩:∃j,(aJ n).length=j+1:=⟨(aJ n).length-1,by omega⟩
 have:=(Hr hj).1
 have:=qS (show 0<B by decide) (show k<=j by omega)
 omega
def SB(n:Nat):n<B^(aJ n).length:=by
 have:=ET (rE n)
 rwa [mV]at this
def ZF(a b:Int):wl (a+b)<=max (wl a) (wl b)+1:=by
 unfold wl
 apply ZQ
 have h1:=SB a.natAbs
 have h2:=SB b.natAbs
 have h3:=qS (show 0<B by decide) (Cq (aJ a.natAbs).length (aJ b.natAbs).length)
 have h4:=qS (show 0<B by decide) (Cn (aJ a.natAbs).length (aJ b.natAbs).length)
 have h5:(a+b).natAbs<=a.natAbs+b.natAbs:=Int.natAbs_add_le a b
 rw[gg]
 generalize B^max (aJ a.natAbs).length (aJ b.natAbs).length=p at*
 have:p*2<=p*B:=jr p (by decide)
 omega
def Nz(a:Int):wl (-a)=wl a:=by unfold wl;rw[xY]
def HZ(a b:Int):wl (a*b)<=wl a+wl b:=by
 unfold wl
 apply ZQ
 rw[u_,ke]
 have h1:=SB a.natAbs
 have h2:=SB b.natAbs
 exact Bg h1 h2
def HH(h:a.natAbs<=b.natAbs):wl a<=wl b:=EW h
def Ylp{H:T O}{n1 n2:Int}{u1 u2:V}{r0:T V}(hx:In H (N+3) (.agg [.int .i64 n1,u1]) a)(hy:In H (N+3) (.agg [.int .i64 n2,u2]) b)(la:wl a<500000000000)(lb:wl b<500000000000)(hK:ab h N H (N+3))
  (gx:H.get N=some (.cells [.int .i64 n1,u1] 87 true)) (gy:H.get (N+1)=some (.cells [.int .i64 n2,u2] 87 true)) (gz:H.get (N+2)=some (.cells [.int .i64 0,.aa] 87 true)) (r2:r0.get 2=some (.ptr N 0)) (r3:r0.get 3=some (.ptr (N+1) 0)) (r4:r0.get 4=some (.ptr (N+2) 0)):
  Code A.C none A.nL ⟨r0,67,[]⟩ ⟨H,N+3,[]⟩ (fun e fr st=>e=.ret/\∃r,fr=⟨r,67,[]⟩/\r.get 4=some (.ptr (N+2) 0)/\HJ h N (N+2) (a+b) st):=by
 rw[bl]
 simp[A.nL,r2,gx,aO,aF]
 refine aA (Dd hx) ?_
 rintro _ h1 N1 k1 ⟨ua,rfl,Nc⟩
 have fu:=k1.le
 have Nd:=(k1.get (N+1) (by omega)).trans gy
 have gz1:=(k1.get (N+2) (by omega)).trans gz
 simp[r3,Nd,aO,aF]
 refine aA (Dd (hy.ae k1)) ?_
 rintro _ h2 N2 k2 ⟨ub,rfl,HK⟩
 have gY:=k2.le
 have gz2:=(k2.get (N+2) (by omega)).trans gz1
 have vW:=Nc.ae k2
 have Fb:(aJ a.natAbs).length<500000000000:=la
 have RG:(aJ b.natAbs).length<500000000000:=lb
 have kA:=(hK.trans k1).trans k2
 have OY:=ZF a b
 have fin:∀(z:Int) (v:V) (h4:T O) (n4:Nat),ab h2 N2 h4 n4->In h4 n4 v z->z=a+b->∃(n5:Int) (u5:V),v=.agg [.int .i64 n5,u5]/\V.one u5=true/\h4.get (N+2)=some (.cells [.int .i64 0,.aa] 87 true)/\∀W,ax N W=[]->HJ h N (N+2) (a+b) ⟨h4.set (N+2) (.cells [.int .i64 n5,u5] 87 true),n4,W⟩:=by
  intro z v h4 n4 k4 hv hz
  obtain⟨n5,u5,rfl,jt⟩:=hv.cells
  have AY:=(k4.get (N+2) (by omega)).trans gz2
  have tN:=k4.le
  subst hz
  exact⟨n5,u5,rfl,jt,AY,fun W hW=>⟨hW,(kA.trans k4).set (by omega),n5,u5,by simp,hv.aK AY (by simp) rfl⟩⟩
 by_cases hs:(a<0)=(b<0)
 ·have jq:(decide (a<0)==decide (b<0))=true:=by simp[hs]
  simp[aG,jq]
  refine aA (Zxb vW HK (by omega) (by omega)) ?_
  rintro v h3 N3 k3 hv
  have vc:a.natAbs+b.natAbs=(a+b).natAbs:=by
   by_cases h:a<0
   ·have:b<0:=by rw[hs]at h;exact h
    omega
   ·have:¬b<0:=by rw[hs]at h;exact h
    omega
  rw[vc]at hv
  simp[]
  refine aA (EX hv (by unfold wl at OY la lb;omega)) ?_
  rintro v h4 N4 k4 hv
  obtain⟨n5,u5,rfl,jt,AY,hf⟩:=fin _ _ _ _ (k3.trans k4) hv (by
   by_cases h:a<0
   ·have:b<0:=by rw[hs]at h;exact h
    simp[h];omega
   ·have:¬b<0:=by rw[hs]at h;exact h
    simp[h];omega)
  unfold V.one at jt
  simp[AY,jt,ad,bC,r4]
  exact hf _ (by simp[ax])
 ·have jq:(decide (a<0)==decide (b<0))=false:=by
   by_cases h:a<0<;>by_cases h':b<0<;>simp_all
  simp[aG,jq]
  refine aA (Zik vW HK (by omega) (by omega)) ?_
  rintro _ h3 N3 k3 rfl
  have OZ:=vW.ae k3
  have O0:=HK.ae k3
  by_cases hc:b.natAbs<=a.natAbs
  ·have c1:(0:Int)<=vT a.natAbs b.natAbs:=by unfold vT;split<;>(try split)<;>omega
   simp[c1]
   refine aA (Zny OZ O0 hc (by omega) (by omega)) ?_
   rintro v h5 N5 k5 hv
   simp[]
   refine aA (EX hv (by have:=EW (show a.natAbs-b.natAbs<=a.natAbs by omega);omega)) ?_
   rintro v h4 N4 k4 hv
   obtain⟨n5,u5,rfl,jt,AY,hf⟩:=fin _ _ _ _ ((k3.trans k5).trans k4) hv (by
    by_cases h:a<0
    ·have:¬b<0:=by intro h2;apply hs;simp[h,h2]
     simp[h];omega
    ·have:b<0:=by apply Decidable.byContradiction;intro h2;apply hs;simp[h,h2]
     simp[h];omega)
   unfold V.one at jt
   simp[AY,jt,ad,bC,r4]
   exact hf _ (by simp[ax])
  ·have c1:¬(0:Int)<=vT a.natAbs b.natAbs:=by unfold vT;split<;>(try split)<;>omega
   simp[c1]
   refine aA (Zny O0 OZ (by omega) (by omega) (by omega)) ?_
   rintro v h5 N5 k5 hv
   simp[]
   refine aA (EX hv (by have:=EW (show b.natAbs-a.natAbs<=b.natAbs by omega);omega)) ?_
   rintro v h4 N4 k4 hv
   obtain⟨n5,u5,rfl,jt,AY,hf⟩:=fin _ _ _ _ ((k3.trans k5).trans k4) hv (by
    by_cases h:b<0
    ·have:¬a<0:=by intro h2;apply hs;simp[h,h2]
     simp[h];omega
    ·have:a<0:=by apply Decidable.byContradiction;intro h2;apply hs;simp[h,h2]
     simp[h];omega)
   unfold V.one at jt
   simp[AY,jt,ad,bC,r4]
   exact hf _ (by simp[ax])
def Ni(hx:In h N x a)(hy:In h N y b)(la:wl a<500000000000)(lb:wl b<500000000000):Fn A.C 145 [x,y] h N (fun v h' n'=>In h' n' v (a+b)):=by
 intro w
 rw[aR,A.k145 (by simp)]
 obtain⟨n1,u1,rfl,o1⟩:=hx.cells
 obtain⟨n2,u2,rfl,o2⟩:=hy.cells
 have kk:=aN (aN (aN (ab.refl (h:=h) (n:=N)) (.cells [.int .i64 n1,u1] 87 true)) (.cells [.int .i64 n2,u2] 87 true)) (.cells [.int .i64 0,.aa] 87 true)
 unfold V.one at o1 o2
 have go:∀r:T V,r.get 2=some (.ptr N 0)->r.get 3=some (.ptr (N+1) 0)->r.get 4=some (.ptr (N+2) 0)->bG A.C [.fin [.cell 4 (some 2)] ⟨h,N,w⟩] (fj (A.C.code none A.nL ⟨r,67,[]⟩ ⟨((h.set N (.cells [.int .i64 n1,u1] 87 true)).set (N+1) (.cells [.int .i64 n2,u2] 87 true)).set (N+1+1) (.cells [.int .i64 0,.aa] 87 true),N+1+1+1,[]⟩)) (CV (aE (fun v h' n'=>In h' n' v (a+b)) h N w)):=by
  intro r r2 r3 r4
  refine jy (Ylp (hx.ae kk) (hy.ae kk) la lb kk (by simp) (by simp) (by simp) r2 r3 r4) ?_
  rintro e fr ⟨h5,n5,w5⟩ ⟨rfl,r',rfl,Nm,hW,hK,n6,u6,g6,hi⟩
  simp only at hW hK g6 hi
  simp[Nm,g6,aO,aF,aE,hW]
  exact⟨hK,hi⟩
 rcases id hx with⟨e1,s1,s2⟩|⟨i,o,l,c,e1,_⟩
 ·simp only[V.agg.injEq,iQ,V.int.injEq,true_and,and_true]at e1
  obtain⟨rfl,rfl⟩:=e1
  rcases id hy with⟨e2,t1,t2⟩|⟨i,o,l,c,e2,_⟩
  ·simp only[V.agg.injEq,iQ,V.int.injEq,true_and,and_true]at e2
   obtain⟨rfl,rfl⟩:=e2
   have kr:=fun (o1 o2:O)=>(kk.set (i:=N+1+1) (o:=o1) (by omega))
   by_cases Bj: -9223372036854775808<=n1+n2/\n1+n2<9223372036854775808
   ·have w1:bj .i64 (n1+n2)=n1+n2:=cD (by omega) (by omega)
    by_cases hp:0<n2
    ·have c1:n1<n1+n2:=by omega
     simp[A.b145,aO,aF,ad,aG,w1,hp,c1,aE]
     exact⟨kk.set (by omega),In.small (by omega) (by omega)⟩
    ·have c1:¬n1<n1+n2:=by omega
     simp[A.b145,aO,aF,ad,aG,w1,hp,c1,aE]
     exact⟨kk.set (by omega),In.small (by omega) (by omega)⟩
   ·obtain⟨y,sU⟩:∃y,bj .i64 (n1+n2)=y:=⟨_,rfl⟩
    have xx:y=n1+n2-18446744073709551616/\0<n2\/y=n1+n2+18446744073709551616/\¬0<n2:=by
     rw[<-sU,Ab]
     simp only[IntKind.wrap,IntKind.bits,IntKind.signed]
     simp
     omega
    by_cases hp:0<n2
    ·have c1:¬n1<y:=by omega
     simp[A.b145,aO,aF,ad,aG,sU,hp,c1]
     exact go _ (by simp) (by simp) (by simp)
    ·have c1:n1<y:=by omega
     simp[A.b145,aO,aF,ad,aG,sU,hp,c1]
     exact go _ (by simp) (by simp) (by simp)
  ·simp only[V.agg.injEq,iQ,V.int.injEq,true_and,and_true]at e2
   obtain⟨rfl,rfl⟩:=e2
   simp[A.b145,aO,aF,ad,aG]
   exact go _ (by simp) (by simp) (by simp)
 ·simp only[V.agg.injEq,iQ,V.int.injEq,true_and,and_true]at e1
  obtain⟨rfl,rfl⟩:=e1
  simp[A.b145,aO,aF,ad,aG,o2]
  exact go _ (by simp) (by simp) (by simp)
def Ylw(hx:In h N x a)(hy:In h N y b)(la:wl a<500000000000)(lb:wl b<500000000000):Fn A.C 219 [x,y] h N (fun v h' n'=>In h' n' v (a-b)):=by
 intro w
 rw[aR,A.k219 (by simp)]
 obtain⟨n1,u1,rfl,o1⟩:=hx.cells
 obtain⟨n2,u2,rfl,o2⟩:=hy.cells
 have kk:=aN (aN (aN (ab.refl (h:=h) (n:=N)) (.cells [.int .i64 n1,u1] 87 true)) (.cells [.int .i64 n2,u2] 87 true)) (.cells [.int .i64 0,.aa] 87 true)
 have LU:=JV (hy.ae kk) lb
 have jn:=hx.ae kk
 unfold V.one at o1 o2
 simp[A.b219,aO,aF,ad,o1,o2]
 refine aA LU ?_
 rintro v h1 xM k1 hv
 simp[]
 refine aA (Ni (jn.ae k1) hv la (by rw[Nz];exact lb)) ?_
 rintro v2 h2 pG k2 iR
 obtain⟨n5,u5,rfl,jt⟩:=iR.cells
 unfold V.one at jt
 have k12:=k1.trans k2
 have ve:=k12.le
 have g2:=k12.get (N+1+1) (by omega)
 simp at g2
 have ay:N+1+1<pG:=by omega
 have dj:N+1+1<xM:=by have:=k1.le;omega
 simp[g2,jt,ad,bC,ay,dj,ct.cv,aE]
 have he:a+ -b=a-b:=by omega
 rw[he]at iR
 exact⟨(kk.trans k12).set (by omega),iR.aK g2 (by simp) rfl⟩
def Yji{H:T O}{n1 n2:Int}{u1 u2:V}{r0:T V}(hx:In H (N+3) (.agg [.int .i64 n1,u1]) a)(hy:In H (N+3) (.agg [.int .i64 n2,u2]) b)(la:wl a<500000000000)(lb:wl b<500000000000)(hK:ab h N H (N+3))
  (gx:H.get N=some (.cells [.int .i64 n1,u1] 87 true)) (gy:H.get (N+1)=some (.cells [.int .i64 n2,u2] 87 true)) (gz:H.get (N+2)=some (.cells [.int .i64 0,.aa] 87 true)) (r2:r0.get 2=some (.ptr N 0)) (r3:r0.get 3=some (.ptr (N+1) 0)) (r4:r0.get 4=some (.ptr (N+2) 0)):
  Code A.C none A.nM ⟨r0,66,[]⟩ ⟨H,N+3,[]⟩ (fun e fr st=>e=.ret/\∃r,fr=⟨r,66,[]⟩/\r.get 4=some (.ptr (N+2) 0)/\HJ h N (N+2) (a*b) st):=by
 rw[bl]
 simp[A.nM,r2,gx,aO,aF]
 refine aA (Dd hx) ?_
 rintro _ h1 N1 k1 ⟨ua,rfl,Nc⟩
 have fu:=k1.le
 have Nd:=(k1.get (N+1) (by omega)).trans gy
 have gz1:=(k1.get (N+2) (by omega)).trans gz
 simp[r3,Nd,aO,aF]
 refine aA (Dd (hy.ae k1)) ?_
 rintro _ h2 N2 k2 ⟨ub,rfl,HK⟩
 have gY:=k2.le
 have gz2:=(k2.get (N+2) (by omega)).trans gz1
 have vW:=Nc.ae k2
 have Fb:(aJ a.natAbs).length<500000000000:=la
 have RG:(aJ b.natAbs).length<500000000000:=lb
 have kA:=(hK.trans k1).trans k2
 have OY:=HZ a b
 simp[aG]
 refine aA (Zv1 vW HK (by omega) (by omega)) ?_
 rintro v h3 N3 k3 hv
 have hmul:a.natAbs*b.natAbs=(a*b).natAbs:=(u_ a b).symm
 rw[hmul]at hv
 simp[]
 refine aA (EX hv (by unfold wl at OY la lb;omega)) ?_
 rintro v h4 N4 k4 hv
 obtain⟨n5,u5,rfl,jt⟩:=hv.cells
 have AY:=((k3.trans k4).get (N+2) (by omega)).trans gz2
 have tN:=(k3.trans k4).le
 unfold V.one at jt
 have hs:=Zyf a b
 have he:(if (!decide (a<0)==decide (b<0))=true then -((a*b).natAbs:Int) else (a*b).natAbs)=a*b:=by
  have h0:a=0\/b=0->a*b=0:=by rintro(rfl|rfl)<;>simp
  by_cases h1:a<0<;>by_cases h2:b<0<;>simp[h1,h2]at hs ⊢<;>omega
 rw[he]at hv
 simp[AY,jt,ad,bC,r4]
 exact⟨by simp[ax],((kA.trans k3).trans k4).set (by omega),n5,u5,by simp,hv.aK AY (by simp) rfl⟩
def Dq(hx:In h N x a)(hy:In h N y b)(la:wl a<500000000000)(lb:wl b<500000000000):Fn A.C 147 [x,y] h N (fun v h' n'=>In h' n' v (a*b)):=by
 intro w
 rw[aR,A.k147 (by simp)]
 obtain⟨n1,u1,rfl,o1⟩:=hx.cells
 obtain⟨n2,u2,rfl,o2⟩:=hy.cells
 have kk:=aN (aN (aN (ab.refl (h:=h) (n:=N)) (.cells [.int .i64 n1,u1] 87 true)) (.cells [.int .i64 n2,u2] 87 true)) (.cells [.int .i64 0,.aa] 87 true)
 unfold V.one at o1 o2
 have go:∀r:T V,r.get 2=some (.ptr N 0)->r.get 3=some (.ptr (N+1) 0)->r.get 4=some (.ptr (N+2) 0)->bG A.C [.fin [.cell 4 (some 2)] ⟨h,N,w⟩] (fj (A.C.code none A.nM ⟨r,66,[]⟩ ⟨((h.set N (.cells [.int .i64 n1,u1] 87 true)).set (N+1) (.cells [.int .i64 n2,u2] 87 true)).set (N+1+1) (.cells [.int .i64 0,.aa] 87 true),N+1+1+1,[]⟩)) (CV (aE (fun v h' n'=>In h' n' v (a*b)) h N w)):=by
  intro r r2 r3 r4
  refine jy (Yji (hx.ae kk) (hy.ae kk) la lb kk (by simp) (by simp) (by simp) r2 r3 r4) ?_
  rintro e fr ⟨h5,n5,w5⟩ ⟨rfl,r',rfl,Nm,hW,hK,n6,u6,g6,hi⟩
  simp only at hW hK g6 hi
  simp[Nm,g6,aO,aF,aE,hW]
  exact⟨hK,hi⟩
 rcases id hx with⟨e1,s1,s2⟩|⟨i,o,l,c,e1,_⟩
 ·simp only[V.agg.injEq,iQ,V.int.injEq,true_and,and_true]at e1
  obtain⟨rfl,rfl⟩:=e1
  rcases id hy with⟨e2,t1,t2⟩|⟨i,o,l,c,e2,_⟩
  ·simp only[V.agg.injEq,iQ,V.int.injEq,true_and,and_true]at e2
   obtain⟨rfl,rfl⟩:=e2
   have z1:=fun st=>YB s1 s2 (st:=st)
   have z2:=fun st=>YB t1 t2 (st:=st)
   have hm:n1.natAbs*n2.natAbs=(n1*n2).natAbs:=(u_ _ _).symm
   have fN:bz (n1.natAbs*n2.natAbs)+18446744073709551616*cg (n1.natAbs*n2.natAbs)=(n1*n2).natAbs:=by
    rw[<-hm]
    have:=uo (n1.natAbs*n2.natAbs) 18446744073709551616
    unfold bz cg;omega
   have O3:=Zyf n1 n2
   obtain⟨hi,gX⟩:∃x,cg (n1.natAbs*n2.natAbs)=x:=⟨_,rfl⟩
   obtain⟨lo,AD⟩:∃x,bz (n1.natAbs*n2.natAbs)=x:=⟨_,rfl⟩
   rw[gX,AD]at fN
   have hz:n1=0\/n2=0->n1*n2=0:=by rintro(rfl|rfl)<;>simp
   simp[A.b147,aO,aF,ad,aG,z1,z2]
   refine aA (MT (x:=n1.natAbs) (y:=n2.natAbs) (by omega) (by omega)) ?_
   rintro _ h' N' k ⟨rfl,rfl,rfl⟩
   rw[gX,AD]
   have d1:¬N=N+1:=by omega
   by_cases h0:hi=0
   ·by_cases h1:lo<=9223372036854775807
    ·have fI:(lo:Int)<=9223372036854775807:=by omega
     have w1:bj .i64 (lo:Int)=lo:=cD (by omega) (by omega)
     have w2:IntKind.wrap .i64 (-(lo:Int))= -(lo:Int):=Ld (by omega) (by omega)
     by_cases hs:(n1<0)=(n2<0)
     ·have jq:(decide (n1<0)==decide (n2<0))=true:=by simp[hs]
      have hp:¬n1*n2<0:=by rw[O3];rintro⟨p,_⟩;exact p hs
      have he:(lo:Int)=n1*n2:=by omega
      simp[aO,aF,ad,aG,h0,fI,jq,w1,aE,ct.cv]
      exact⟨kk.set (by omega),by rw[<-he];exact In.small (by omega) (by omega)⟩
     ·have jq:(decide (n1<0)==decide (n2<0))=false:=by
       by_cases h:n1<0<;>by_cases h':n2<0<;>simp_all
      have he: -(lo:Int)=n1*n2:=by
       by_cases hq:n1=0\/n2=0
       ·have:=hz hq;omega
       ·have:n1*n2<0:=O3.2 ⟨hs,fun h=>hq (.inl h),fun h=>hq (.inr h)⟩
        omega
      simp[aO,aF,ad,aG,h0,fI,jq,w1,w2,aE,ct.cv]
      exact⟨kk.set (by omega),by rw[<-he];exact In.small (by omega) (by omega)⟩
    ·have fI:¬(lo:Int)<=9223372036854775807:=by omega
     simp[aO,aF,ad,aG,h0,fI,ct.cv]
     exact go _ (by simp) (by simp) (by simp)
   ·simp[aO,aF,ad,aG,h0,ct.cv]
    exact go _ (by simp) (by simp) (by simp)
  ·simp only[V.agg.injEq,iQ,V.int.injEq,true_and,and_true]at e2
   obtain⟨rfl,rfl⟩:=e2
   simp[A.b147,aO,aF,ad,aG]
   exact go _ (by simp) (by simp) (by simp)
 ·simp only[V.agg.injEq,iQ,V.int.injEq,true_and,and_true]at e1
  obtain⟨rfl,rfl⟩:=e1
  simp[A.b147,aO,aF,ad,aG,o2]
  exact go _ (by simp) (by simp) (by simp)
def Yt8(hx:In h N x a)(hy:In h N y b)(la:wl a<100000000000)(lb:wl b<100000000000):Fn A.C 177 [x,y] h N (fun v _ _=>v=.int .i64 (eF (a-b))):=by
 intro w
 rw[aR,A.k177 (by simp)]
 obtain⟨n1,u1,rfl,o1⟩:=hx.cells
 obtain⟨n2,u2,rfl,o2⟩:=hy.cells
 have kk:=aN (aN (ab.refl (h:=h) (n:=N)) (.cells [.int .i64 n1,u1] 87 true)) (.cells [.int .i64 n2,u2] 87 true)
 have zn:=Ylw (hx.ae kk) (hy.ae kk) (by omega) (by omega)
 have OY:=ZF a (-b)
 rw[Nz]at OY
 unfold V.one at o1 o2
 rcases id hx with⟨e1,s1,s2⟩|⟨i,o,l,c,e1,_⟩
 ·simp only[V.agg.injEq,iQ,V.int.injEq,true_and,and_true]at e1
  obtain⟨rfl,rfl⟩:=e1
  rcases id hy with⟨e2,t1,t2⟩|⟨i,o,l,c,e2,_⟩
  ·simp only[V.agg.injEq,iQ,V.int.injEq,true_and,and_true]at e2
   obtain⟨rfl,rfl⟩:=e2
   by_cases h1:n1<n2
   ·simp[A.b177,aO,aF,ad,aE,aG,h1]
    exact⟨kk,by unfold eF;rw[av (by omega)]⟩
   ·by_cases h2:n2<n1
    ·simp[A.b177,aO,aF,ad,aE,aG,h1,h2]
     exact⟨kk,by unfold eF;rw[ak (by omega),ak (by omega)]⟩
    ·simp[A.b177,aO,aF,ad,aE,aG,h1,h2]
     exact⟨kk,by unfold eF;rw[ak (by omega),av (by omega)]⟩
  ·simp only[V.agg.injEq,iQ,V.int.injEq,true_and,and_true]at e2
   obtain⟨rfl,rfl⟩:=e2
   simp[A.b177,aO,aF,ad,aG]
   refine aA zn ?_
   rintro v h1 xM k1 hv
   simp[]
   refine aA (Hy hv) ?_
   rintro _ h2 pG k2 rfl
   simp[aE]
   exact(kk.trans k1).trans k2
 ·simp only[V.agg.injEq,iQ,V.int.injEq,true_and,and_true]at e1
  obtain⟨rfl,rfl⟩:=e1
  simp[A.b177,aO,aF,ad,aG,o2]
  refine aA zn ?_
  rintro v h1 xM k1 hv
  simp[]
  refine aA (Hy hv) ?_
  rintro _ h2 pG k2 rfl
  simp[aE]
  exact(kk.trans k1).trans k2
def Ym7(hx:In h N x a)(la:wl a<500000000000):Fn A.C 217 [x] h N (fun v h' n'=>In h' n' v (a.natAbs:Int)):=by
 intro w
 rw[aR,A.k217 (by simp)]
 obtain⟨n1,u1,rfl,o1⟩:=hx.cells
 have kk:=aN (aN (ab.refl (h:=h) (n:=N)) (.cells [.int .i64 n1,u1] 87 true)) (.cells [.int .i64 0,.aa] 87 true)
 have LU:=JV (hx.ae kk) la
 have FO:(n1<0)=(a<0):=by
  rcases hx with⟨e1,s1,s2⟩|⟨i,o,l,c,e1,_⟩
  ·simp only[V.agg.injEq,iQ,V.int.injEq,true_and,and_true]at e1
   rw[e1.1]
  ·simp only[V.agg.injEq,iQ,V.int.injEq,true_and,and_true]at e1
   rw[e1.1];unfold yx;split<;>simp_all
 unfold V.one at o1
 by_cases h0:a<0
 ·have h1:n1<0:=by rw[FO];exact h0
  simp[A.b217,aO,aF,ad,o1,h1]
  refine aA LU ?_
  rintro v h2 n2 k2 hv
  obtain⟨n5,u5,rfl,jt⟩:=hv.cells
  unfold V.one at jt
  have ve:=k2.le
  have g2:=k2.get (N+1) (by omega)
  simp at g2
  have he:(-a)=(a.natAbs:Int):=by omega
  rw[he]at hv
  simp[g2,jt,ad,bC,aO,aF,aE]
  exact⟨(kk.trans k2).set (by omega),hv.aK g2 (by simp) rfl⟩
 ·have h1:¬n1<0:=by rw[FO];exact h0
  have he:a=(a.natAbs:Int):=by omega
  rw[he]at hx
  simp[A.b217,aO,aF,ad,bC,o1,h1,aE]
  exact⟨kk.set (by omega),(hx.ae kk).aK (i:=N+1) (c0:=[.int .i64 0,.aa]) (e0:=87) (w0:=true) (by simp) (by simp) rfl⟩
end
end Go.Mx
