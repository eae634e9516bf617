/-
  lensletref01: Sign, Neg, Reciprocal, Large.
-/
import Derived.Test.YtlbophlgohokkaaGreatDoorRcI
import Derived.Test.YtlbophlgohokkaaGreatDoorNaD
set_option linter.all false
namespace Go.Mx
open Go Go.Proofs
variable {q:Rat}
set_option maxRecDepth 1000000
def A.b94:aq:=sr [mc 2 0]
 (.seq (sr [mv 3 0,⟨(some 4),.bin .eql (.aI .str) true (.tmp 3) (.const (.str [48])),none⟩]
 (cd 4
 (sr [mc 2 0]
 (.ret))
 (.skip)))
 (.seq (sr [mv 5 0,⟨(some 6),.len 0 (.tmp 5),none⟩,bc 7 .gtr 6 0,mv 8 7,mg 9 0 8,⟨(some 10),.aQ (.tmp 9) (.const (.int .i64 0)),(some (8,true))⟩,⟨(some 11),.bin .eql (.aI .int) true (.tmp 10) (.const (.int .u8 45)),(some (8,true))⟩,pf 12 8 11]
 (cd 12
 (sr [⟨(some 2),.aY (.const (.int .i64 (-1))),none⟩]
 (.ret))
 (.skip)))
 (sr [mc 2 1]
 (.ret))))
theorem A.c94:A.F 94=some ⟨13,[.tmp 2],A.b94⟩:=by kernel_rfl
def A.k94:=@A.kk 94 _ _ _ A.c94 rfl
def A.b129:aq:=sr [⟨(some 2),.aY (.const (.str [])),none⟩]
 (sr [mv 6 0,c1 7 160 6,mv 5 7,xt 8 5 0,xt 9 5 1,⟨(some 3),.alloc [(.bool false),.aa] 175,none⟩,⟨(some 4),.alloc [(.bool false),.aa] 175,none⟩,⟨none,.store 2 (.tmp 3) (.tmp 8),none⟩,⟨none,.store 2 (.tmp 4) (.tmp 9),none⟩]
 (sr [lN 10 2 4,lN 11 2 3,c2 12 164 10 11,mv 2 12]
 (.ret)))
theorem A.c129:A.F 129=some ⟨13,[.tmp 2],A.b129⟩:=by kernel_rfl
def A.k129:=@A.kk 129 _ _ _ A.c129 rfl
def A.b110:aq:=sr [mc 2 0]
 (.seq (sr [mv 3 0,c1 4 175 3,c1 5 174 4,⟨(some 6),.len 0 (.tmp 5),none⟩,bc 7 .gtr 6 600,mv 8 7,mh 9 0 8,⟨(some 10),.call (.const (.func 176 [] [])) [(.tmp 9)],(some (8,false))⟩,⟨(some 11),.len 0 (.tmp 10),(some (8,false))⟩,⟨(some 12),.bin .gtr (.node []) false (.tmp 11) (.const (.int .i64 600)),(some (8,false))⟩,pt 13 8 12]
 (cd 13
 (sr [mc 2 4]
 (.ret))
 (.skip)))
 (sr [mc 2 0]
 (.ret)))
theorem A.c110:A.F 110=some ⟨14,[.tmp 2],A.b110⟩:=by kernel_rfl
def A.k110:=@A.kk 110 _ _ _ A.c110 rfl
def A.b175:aq:=sr [⟨(some 2),.aY (.const (.str [])),none⟩]
 (sr [mv 3 0,mv 4 0,c1 5 158 4,⟨(some 6),.az (.tmp 3) none (some (.tmp 5)),none⟩,mv 2 6]
 (.ret))
theorem A.c175:A.F 175=some ⟨7,[.tmp 2],A.b175⟩:=by kernel_rfl
def A.k175:=@A.kk 175 _ _ _ A.c175 rfl
def A.b176:aq:=sr [⟨(some 2),.aY (.const (.str [])),none⟩]
 (sr [mv 4 0,c1 5 158 4,mv 3 5]
 (.seq (sr [mv 6 3,mv 7 0,⟨(some 8),.len 0 (.tmp 7),none⟩,⟨(some 9),.bin .eql (.aI .int) false (.tmp 6) (.tmp 8),none⟩]
 (cd 9
 (sr [⟨(some 2),.aY (.const (.str [49])),none⟩]
 (.ret))
 (.skip)))
 (sr [mv 10 0,mv 11 3,bc 12 .add 11 1,⟨(some 13),.az (.tmp 10) (some (.tmp 12)) none,none⟩,mv 2 13]
 (.ret))))
theorem A.c176:A.F 176=some ⟨14,[.tmp 2],A.b176⟩:=by kernel_rfl
def A.k176:=@A.kk 176 _ _ _ A.c176 rfl
def A.b174:aq:=sr [⟨(some 2),.aY (.const (.str [])),none⟩]
 (.seq (sr [mv 3 0,c1 4 94 3,bc 5 .lss 4 0]
 (cd 5
 (sr [mv 6 0,⟨(some 7),.az (.tmp 6) (some (.const (.int .i64 1))) none,none⟩,mv 2 7]
 (.ret))
 (.skip)))
 (sr [mv 8 0,mv 2 8]
 (.ret)))
theorem A.c174:A.F 174=some ⟨9,[.tmp 2],A.b174⟩:=by kernel_rfl
def A.k174:=@A.kk 174 _ _ _ A.c174 rfl
def A.b121:aq:=sr [⟨(some 2),.aY (.const (.bool false)),none⟩]
 (sr [mv 3 0,⟨(some 4),.bin .eql (.aI .str) true (.tmp 3) (.const (.str [48])),none⟩,mv 2 4]
 (.ret))
theorem A.c121:A.F 121=some ⟨5,[.tmp 2],A.b121⟩:=by kernel_rfl
def A.k121:=@A.kk 121 _ _ _ A.c121 rfl
theorem NP:aW 0=[48]:=by decide+kernel
theorem Yjb:aW q=[48]↔q=0:=⟨fun h=>Yeg (h.trans NP.symm),fun h=>by rw[h,NP]⟩
theorem K7:q.num=0↔q=0:=Rat.num_eq_zero
theorem Yja(q:Rat):0<(aW q).length:=by
 obtain⟨c,t,h,_⟩:=VN q
 rw[Fs,h]
 split<;>simp
theorem Yee(q:Rat):∃c,(aW q)[0]?=some c/\(aW q).head?=some c/\(cB c=45↔q.num<0):=by
 obtain⟨c,t,h,h1⟩:=VN q
 by_cases hz:q.num<0
 ·refine⟨45,?_,?_,?_⟩
  ·rw[Fs,aF hz];rfl
  ·rw[Fs,aF hz];rfl
  ·exact⟨fun _=>hz,fun _=>rfl⟩
 ·refine⟨c,?_,?_,?_⟩
  ·rw[Fs,au hz,h];rfl
  ·rw[Fs,au hz,h];rfl
  ·exact⟨fun h2=>by unfold cB at h2;omega,fun h2=>absurd h2 hz⟩
theorem Yet{st:St}:A.C.call (.func 94 [] []) [.str (aW q)] st=some (.int .i64 (fM q.num),st):=by
 have e:(aW q==[48])=decide (q=0):=by rw[Bool.eq_iff_iff,beq_iff_eq,decide_eq_true_eq];exact Yjb
 obtain⟨c,h1,h2,h3⟩:=Yee q
 have hp:=Yja q
 have hp':(0:Int)<((aW q).length:Int):=by omega
 have bJ:aW q≠[]:=fun hc=>by rw[hc]at hp;simp at hp
 apply Call.eq
 rw[aR,A.k94 (by simp)]
 by_cases h0:q=0
 ·have hn:q.num=0:=K7.2 h0
  have hs:fM q.num=0:=by rw[hn];rfl
  have e0:(aW q==[48])=true:=by rw[e];simp[h0]
  rw[hs]
  simp(disch:=first|(simp;done)|omega|rfl) [-getElem?_pos,A.b94,gj,e0]
 ·have hn:q.num≠0:=fun hc=>h0 (K7.1 hc)
  by_cases hz:q.num<0
  ·have hs:fM q.num= -1:=by unfold fM;rw[aF hz]
   have hc:=h3.2 hz
   rw[hs]
   simp(disch:=first|(simp;done)|omega|rfl) [-getElem?_pos,A.b94,gj,e,h0,hp,h1,hc]
  ·have hs:fM q.num=1:=by unfold fM;rw[au hz,au hn]
   have hc:¬cB c=45:=fun hc=>hz (h3.1 hc)
   rw[hs]
   simp(disch:=first|(simp;done)|omega|rfl) [-getElem?_pos,A.b94,gj,e,h0,hp,h1,hc]
theorem OJ(q:Rat):q⁻¹=Rat.divInt (q.den:Int) q.num:=Rat.inv_def q
theorem Yj0{k:Nat}{h:T O}{N:Nat}(hq:Qb k q)(hk:k<=400000000)(h0:q≠0):Fn A.C 129 [.str (aW q)] h N (fun u _ _=>u=.str (aW q⁻¹)):=by
 intro w
 have la:=FD hq.1
 have UR:=CL hq.2
 have z1:=rz hq.1
 have z2:=rz hq.2
 have hn:q.num≠0:=fun hc=>h0 (K7.1 hc)
 rw[aR,A.k129 (by simp)]
 simp[A.b129]
 refine ax (KX (q:=q) (by omega) (by omega)) ?_
 rintro _ h1 t1 k1 ⟨x1,y1,rfl,X1,Y1⟩
 obtain⟨u1,rfl,p1,p2,F1⟩:=X1.nv
 obtain⟨v1,rfl,p3,p4,G1⟩:=Y1.nv
 unfold V.one at p1 p3
 unfold V.cells at p2 p4
 have KA:=((((ab.refl (h:=h1) (n:=t1)).new (.cells [.bool false,.aa] 175 true)).new (.cells [.bool false,.aa] 175 true)).set (i:=t1) (o:=.cells [.bool (decide (q.num<0)),u1] 175 true) (aS _)).set (i:=t1+1) (o:=.cells [.bool (decide ((q.den:Int)<0)),v1] 175 true) (by omega)
 have c0:¬t1+1=t1:=by omega
 have c00:¬t1=t1+1:=by omega
 have i1:=k1.le
 generalize yk:(((h1.set t1 (.cells [.bool false,.aa] 175 true)).set (t1+1) (.cells [.bool false,.aa] 175 true)).set t1 (.cells [.bool (decide (q.num<0)),u1] 175 true)).set (t1+1) (.cells [.bool (decide ((q.den:Int)<0)),v1] 175 true)=HA at*
 have K4:HA.get t1=some (.cells [.bool (decide (q.num<0)),u1] 175 true):=by rw[<-yk];simp
 have Cz:HA.get (t1+1)=some (.cells [.bool (decide ((q.den:Int)<0)),v1] 175 true):=by rw[<-yk];simp
 have X1:=X1.ae KA
 have Y1:=Y1.ae KA
 simp[-ad,p1,p3,bW,ag,yk,K4,Cz,aU,aJ]
 refine ax (VL Y1 X1 hn (by rw[dm];omega) (by omega)) ?_
 rintro _ h2 t2 k2 rfl
 have j1:t1<t1+1+1:=by omega
 have j2:t1+1<t1+1+1:=by omega
 rw[<-OJ]
 simp[-ad,aA]
 exact⟨B1 (by simp;omega),(k1.trans KA).trans k2⟩
theorem Ykj{st:St}(hl:(aW q).length<1000000000):A.C.call (.func 175 [] []) [.str (aW q)] st=some (.str (aK q.num),st):=by
 have cg:=fun st=>Ct (s:=aW q) (st:=st) (by omega)
 have h2:ah (aW q)<=(aW q).length:=by
  rw[GH]
  unfold aW
  split
  ·exact aS _
  ·rw[fQ];omega
 have a4:∀st:St,rA st (some (.str (aW q))) (some none) (some (some (.int .i64 (ah (aW q):Nat))))=some (.str (aK q.num),st):=fun st=>by rw[Tl (by omega) (by omega),Int.toNat_natCast,I6]
 apply Call.eq
 rw[aR,A.k175 (by simp)]
 simp[A.b175,cg,ay,a4]
theorem Yl5{st:St}(hl:(aW q).length<1000000000):A.C.call (.func 176 [] []) [.str (aW q)] st=some (.str (ak q.den),st):=by
 have cg:=fun st=>Ct (s:=aW q) (st:=st) (by omega)
 have aD:=Au q
 have h2:ah (aW q)<=(aW q).length:=by
  rw[GH]
  unfold aW
  split
  ·exact aS _
  ·rw[fQ];omega
 apply Call.eq
 rw[aR,A.k176 (by simp)]
 by_cases hd:q.den=1
 ·have c1:(ah (aW q):Int)=((aW q).length:Int):=by omega
  rw[hd,QY]
  simp[A.b176,cg,c1]
 ·have kl:=aD.2 hd
  have c1:¬(ah (aW q):Int)=((aW q).length:Int):=by omega
  have c2:¬ah (aW q)=(aW q).length:=by omega
  have w1:bn .i64 ((ah (aW q):Int)+1)=(ah (aW q):Int)+1:=cj (by omega) (by omega)
  have uL:=I7 q hd
  have a4:∀st:St,rA st (some (.str (aW q))) (some (some (.int .i64 ((ah (aW q):Int)+1)))) (some none)=some (.str (ak q.den),st):=fun st=>by
   rw[GO (by omega) (by omega)]
   have:((ah (aW q):Int)+1).toNat=ah (aW q)+1:=by omega
   rw[this,uL]
  simp[A.b176,cg,c1,w1,ay,a4]
theorem Yjc(z:Int):aW (z:Rat)=aK z:=by
 unfold aW
 rw[aF (by simp)];simp
theorem Ymo{z:Int}{st:St}(hl:(aK z).length<1000000000):A.C.call (.func 174 [] []) [.str (aK z)] st=some (.str (ak z.natAbs),st):=by
 have hs:=fun st=>Yet (q:=(z:Rat)) (st:=st)
 rw[Yjc]at hs
 have hn:((z:Rat)).num=z:=by simp
 rw[hn]at hs
 apply Call.eq
 rw[aR,A.k174 (by simp)]
 by_cases hz:z<0
 ·have e1:aK z=45::ak z.natAbs:=by unfold aK;rw[aF hz]
  have e3:fM z= -1:=by unfold fM;rw[aF hz]
  rw[e1,e3]at hs
  have a3:∀st:St,rA st (some (.str (45::ak z.natAbs))) (some (some (.int .i64 1))) (some none)=some (.str (ak z.natAbs),st):=fun st=>by rw[GO (by omega) (by simp only[bh];omega)];rfl
  rw[e1]
  simp[A.b174,hs,ay,a3]
 ·have e1:aK z=ak z.natAbs:=by unfold aK;rw[au hz]
  have e3:¬fM z<0:=by unfold fM;rw[au hz];split<;>omega
  rw[e1]at hs
  rw[e1]
  simp[A.b174,hs,e3]
theorem Yb8{st:St}(hl:(aW q).length<1000000000):A.C.call (.func 110 [] []) [.str (aW q)] st=some (.int .i64 (if vJ q=true then 4 else 0),st):=by
 have h1:=fun st=>Ykj (q:=q) (st:=st) hl
 have h2:=fun st=>Yl5 (q:=q) (st:=st) hl
 have jx:(aK q.num).length<1000000000:=by
  have:(aK q.num).length<=(aW q).length:=by
   unfold aW
   split
   ·exact aS _
   ·rw[fQ];omega
  omega
 have h3:=fun st=>Ymo (z:=q.num) (st:=st) jx
 apply Call.eq
 rw[aR,A.k110 (by simp)]
 unfold vJ
 by_cases c1:600<(ak q.num.natAbs).length
 ·have c1':(600:Int)<((ak q.num.natAbs).length:Int):=by omega
  simp[A.b110,h1,h3,c1,c1']
 ·have c1':¬(600:Int)<((ak q.num.natAbs).length:Int):=by omega
  by_cases c2:600<(ak q.den).length
  ·have c2':(600:Int)<((ak q.den).length:Int):=by omega
   simp[A.b110,h1,h2,h3,c1,c1',c2,c2']
  ·have c2':¬(600:Int)<((ak q.den).length:Int):=by omega
   simp[A.b110,h1,h2,h3,c1,c1',c2,c2']
variable {N:Nat} {a b:Int} {h:T O} {x y:V}
set_option maxHeartbeats 1000000
def A.lR:aq:=sr [lN 34 2 2,c1 35 222 34,mv 33 35,xt 36 33 0,xt 37 33 1,mv 6 36,mv 7 37]
 (sr [lN 39 2 3,c1 40 222 39,mv 38 40,xt 41 38 0,xt 42 38 1,mv 8 41,mv 9 42]
 (.seq (.block 0 (sr [mv 44 6,mv 45 8,⟨(some 46),.bin .eql (.aI .bool) false (.tmp 44) (.tmp 45),none⟩,mv 43 46]
 (cd 43
 (sr [mv 47 6,mv 48 7,mv 49 9,c2 50 249 48 49,c2 51 223 47 50,⟨none,.store 2 (.tmp 4) (.tmp 51),none⟩]
 (.ret))
 (sr [mv 53 7,mv 54 9,c2 55 250 53 54,bc 56 .geq 55 0,mv 52 56]
 (cd 52
 (sr [mv 57 6,mv 58 7,mv 59 9,c2 60 251 58 59,c2 61 223 57 60,⟨none,.store 2 (.tmp 4) (.tmp 61),none⟩]
 (.ret))
 (.skip))))))
 (sr [mv 62 8,mv 63 9,mv 64 7,c2 65 251 63 64,c2 66 223 62 65,⟨none,.store 2 (.tmp 4) (.tmp 66),none⟩]
 (.ret))))
def A.b192:aq:=sr [bx 2 112 0,bx 3 112 1,⟨(some 4),.alloc [(.int .i64 0),.aa] 112,none⟩]
 (.seq (sr [fa 10 1 2,ld 11 10,⟨(some 12),.bin .eql (.aI .slice) true (.tmp 11) (.const .aa),none⟩,mv 13 12,⟨(some 14),.de 1 (.tmp 3),(some (13,true))⟩,⟨(some 15),.load none (.tmp 14),(some (13,true))⟩,⟨(some 16),.bin .eql (.aI .slice) true (.tmp 15) (.const .aa),(some (13,true))⟩,pf 17 13 16]
 (cd 17
 (sr [fa 18 0 2,ld 19 18,fa 20 0 3,ld 21 20,bi 22 .add 19 21,mv 5 22]
 (sr [mv 23 5,fa 24 0 2,ld 25 24,bi 26 .gtr 23 25,fa 27 0 3,ld 28 27,bc 29 .gtr 28 0,⟨(some 30),.bin .eql (.aI .bool) false (.tmp 26) (.tmp 29),none⟩]
 (cd 30
 (sr [mv 31 5,⟨(some 32),.build [(.int .i64 0),.aa] [(0,1,(.tmp 31))],none⟩,⟨none,.store 2 (.tmp 4) (.tmp 32),none⟩]
 (.ret))
 (.skip))))
 (.skip)))
 A.lR)
theorem A.c192:A.F 192=some ⟨67,[.cell 4 (some 2)],A.b192⟩:=by kernel_rfl
def A.k192:=@A.kk 192 _ _ _ A.c192 rfl
def A.b261:aq:=sr [bx 2 112 0,bx 3 112 1,⟨(some 4),.alloc [(.int .i64 0),.aa] 112,none⟩]
 (.seq (.aV [lN 5 2 2,lN 6 2 3,c1 7 218 6,c2 8 192 5 7,⟨none,.store 2 (.tmp 4) (.tmp 8),none⟩] [0,0,2,7,15])
 (.ret))
theorem A.c261:A.F 261=some ⟨9,[.cell 4 (some 2)],A.b261⟩:=by kernel_rfl
def A.k261:=@A.kk 261 _ _ _ A.c261 rfl
def A.lS:aq:=sr [lN 50 2 2,c1 51 222 50,mv 49 51,xt 52 49 0,xt 53 49 1,mv 7 52,mv 8 53]
 (sr [lN 55 2 3,c1 56 222 55,mv 54 56,xt 57 54 0,xt 58 54 1,mv 9 57,mv 10 58]
 (sr [mv 59 7,mv 60 9,⟨(some 61),.bin .neq (.aI .bool) false (.tmp 59) (.tmp 60),none⟩,mv 62 8,mv 63 10,c2 64 224 62 63,c2 65 223 61 64,⟨none,.store 2 (.tmp 4) (.tmp 65),none⟩]
 (.ret)))
def A.b157:aq:=sr [bx 2 112 0,bx 3 112 1,⟨(some 4),.alloc [(.int .i64 0),.aa] 112,none⟩]
 (.seq (sr [fa 11 1 2,ld 12 11,⟨(some 13),.bin .eql (.aI .slice) true (.tmp 12) (.const .aa),none⟩,mv 14 13,⟨(some 15),.de 1 (.tmp 3),(some (14,true))⟩,⟨(some 16),.load none (.tmp 15),(some (14,true))⟩,⟨(some 17),.bin .eql (.aI .slice) true (.tmp 16) (.const .aa),(some (14,true))⟩,pf 18 14 17]
 (cd 18
 (.seq (.aV [fa 20 0 2,ld 21 20,c1 22 221 21,fa 23 0 3,ld 24 23,c1 25 221 24,c2 26 220 22 25,mv 19 26,xt 27 19 0,xt 28 19 1,mv 5 27,mv 6 28] [0,1,3,0,8,31,63,127,255,255,511,2047])
 (sr [mv 29 5,⟨(some 30),.bin .eql (.aI .int) true (.tmp 29) (.const (.int .u64 0)),none⟩,mv 31 30,mg 32 6 31,⟨(some 33),.bin .leq (.node []) false (.tmp 32) (.const (.int .u64 9223372036854775807)),(some (31,true))⟩,pf 34 31 33]
 (cd 34
 (.seq (sr [fa 35 0 2,ld 36 35,bc 37 .lss 36 0,fa 38 0 3,ld 39 38,bc 40 .lss 39 0,⟨(some 41),.bin .neq (.aI .bool) false (.tmp 37) (.tmp 40),none⟩]
 (cd 41
 (sr [mv 42 6,⟨(some 43),.bb .i64 (.tmp 42),none⟩,⟨(some 44),.un .neg (.tmp 43),none⟩,⟨(some 45),.build [(.int .i64 0),.aa] [(0,1,(.tmp 44))],none⟩,⟨none,.store 2 (.tmp 4) (.tmp 45),none⟩]
 (.ret))
 (.skip)))
 (sr [mv 46 6,⟨(some 47),.bb .i64 (.tmp 46),none⟩,⟨(some 48),.build [(.int .i64 0),.aa] [(0,1,(.tmp 47))],none⟩,⟨none,.store 2 (.tmp 4) (.tmp 48),none⟩]
 (.ret)))
 (.skip))))
 (.skip)))
 A.lS)
theorem A.c157:A.F 157=some ⟨66,[.cell 4 (some 2)],A.b157⟩:=by kernel_rfl
def A.k157:=@A.kk 157 _ _ _ A.c157 rfl
def A.b217:aq:=sr [bx 2 112 0,bx 3 112 1,mc 4 0]
 (.seq (sr [fa 5 1 2,ld 6 5,⟨(some 7),.bin .eql (.aI .slice) true (.tmp 6) (.const .aa),none⟩,mv 8 7,⟨(some 9),.de 1 (.tmp 3),(some (8,true))⟩,⟨(some 10),.load none (.tmp 9),(some (8,true))⟩,⟨(some 11),.bin .eql (.aI .slice) true (.tmp 10) (.const .aa),(some (8,true))⟩,pf 12 8 11]
 (cd 12
 (.seq (.block 0 (sr [fa 14 0 2,ld 15 14,fa 16 0 3,ld 17 16,bi 18 .lss 15 17,mv 13 18]
 (cd 13
 (sr [⟨(some 4),.aY (.const (.int .i64 (-1))),none⟩]
 (.ret))
 (sr [fa 20 0 2,ld 21 20,fa 22 0 3,ld 23 22,bi 24 .gtr 21 23,mv 19 24]
 (cd 19
 (sr [mc 4 1]
 (.ret))
 (.skip))))))
 (sr [mc 4 0]
 (.ret)))
 (.skip)))
 (sr [lN 25 2 2,lN 26 2 3,c2 27 261 25 26,c1 28 199 27,mv 4 28]
 (.ret)))
theorem A.c217:A.F 217=some ⟨29,[.tmp 4],A.b217⟩:=by kernel_rfl
def A.k217:=@A.kk 217 _ _ _ A.c217 rfl
structure Ep (h:T O) (N q:Nat) (z:Int) (st:St):Prop where
 w:ad N st.w=[]
 ae:ab h N st.h st.n
 ex:∃n u,st.h.get q=some (.cells [.int .i64 n,u] 112 true)/\In st.h st.n (.agg [.int .i64 n,u]) z
theorem Zvy(a b:Int):(a*b<0)↔((a<0)≠(b<0))/\a≠0/\b≠0:=by
 rcases Int.lt_trichotomy a 0 with ha|ha|ha<;>rcases Int.lt_trichotomy b 0 with hb|hb|hb
 ·have:=Int.mul_pos_of_neg_of_neg ha hb
  simp[ha,hb];omega
 ·subst hb;simp
 ·have:=Int.mul_neg_of_neg_of_pos ha hb
  have h1:¬b<0:=by omega
  simp[ha,h1,this];omega
 ·subst ha;simp
 ·subst ha;simp
 ·subst ha;simp
 ·have:=Int.mul_neg_of_pos_of_neg ha hb
  have h1:¬a<0:=by omega
  simp[hb,h1,this];omega
 ·subst hb;simp
 ·have:=Int.mul_pos ha hb
  have h1:¬a<0:=by omega
  have h2:¬b<0:=by omega
  simp[h1,h2];omega
theorem T6{n k:Nat}(h:n<B^k):(aC n).length<=k:=by
 apply vN
 intro hc
 obtain⟨j,hj⟩:∃j,(aC n).length=j+1:=⟨(aC n).length-1,by omega⟩
 have:=(Ec hj).1
 have:=qx (show 0<B by decide) (show k<=j by omega)
 omega
theorem OK(n:Nat):n<B^(aC n).length:=by
 have:=Cb (oY n)
 rwa [kv]at this
theorem UN(a b:Int):wl (a+b)<=max (wl a) (wl b)+1:=by
 unfold wl
 apply T6
 have h1:=OK a.natAbs
 have h2:=OK b.natAbs
 have h3:=qx (show 0<B by decide) (zH (aC a.natAbs).length (aC b.natAbs).length)
 have h4:=qx (show 0<B by decide) (zE (aC a.natAbs).length (aC b.natAbs).length)
 have h5:(a+b).natAbs<=a.natAbs+b.natAbs:=Int.natAbs_add_le a b
 rw[fL]
 generalize B^max (aC a.natAbs).length (aC b.natAbs).length=p at*
 have:p*2<=p*B:=jo p (by decide)
 omega
theorem J7(a:Int):wl (-a)=wl a:=by unfold wl;rw[yG]
theorem Eu(a b:Int):wl (a*b)<=wl a+wl b:=by
 unfold wl
 apply T6
 rw[tP,jH]
 have h1:=OK a.natAbs
 have h2:=OK b.natAbs
 exact zG h1 h2
theorem Eo(h:a.natAbs<=b.natAbs):wl a<=wl b:=Cd h
theorem Yhq{H:T O}{n1 n2:Int}{u1 u2:V}{r0:T V}(hx:In H (N+3) (.agg [.int .i64 n1,u1]) a)(hy:In H (N+3) (.agg [.int .i64 n2,u2]) b)(la:wl a<500000000000)(lb:wl b<500000000000)(hK:ab h N H (N+3))
  (gx:H.get N=some (.cells [.int .i64 n1,u1] 112 true)) (gy:H.get (N+1)=some (.cells [.int .i64 n2,u2] 112 true)) (gz:H.get (N+2)=some (.cells [.int .i64 0,.aa] 112 true)) (r2:r0.get 2=some (.ptr N 0)) (r3:r0.get 3=some (.ptr (N+1) 0)) (r4:r0.get 4=some (.ptr (N+2) 0)):
  Code A.C none A.lR ⟨r0,67,[]⟩ ⟨H,N+3,[]⟩ (fun e fr st=>e=.ret/\∃r,fr=⟨r,67,[]⟩/\r.get 4=some (.ptr (N+2) 0)/\Ep h N (N+2) (a+b) st):=by
 rw[bA]
 simp[A.lR,r2,gx,aU,aJ]
 refine ax (AE hx) ?_
 rintro _ h1 N1 k1 ⟨ua,rfl,JM⟩
 have eR:=k1.le
 have JN:=(k1.get (N+1) (by omega)).trans gy
 have VQ:=(k1.get (N+2) (by omega)).trans gz
 simp[r3,JN,aU,aJ]
 refine ax (AE (hy.ae k1)) ?_
 rintro _ h2 N2 k2 ⟨ub,rfl,Er⟩
 have f_:=k2.le
 have VS:=(k2.get (N+2) (by omega)).trans VQ
 have sL:=JM.ae k2
 have Cl:(aC a.natAbs).length<500000000000:=la
 have Nm:(aC b.natAbs).length<500000000000:=lb
 have kA:=(hK.trans k1).trans k2
 have K8:=UN a b
 have fin:∀(z:Int) (v:V) (h4:T O) (n4:Nat),ab h2 N2 h4 n4->In h4 n4 v z->z=a+b->∃(n5:Int) (u5:V),v=.agg [.int .i64 n5,u5]/\V.one u5=true/\h4.get (N+2)=some (.cells [.int .i64 0,.aa] 112 true)/\∀W,ad N W=[]->Ep h N (N+2) (a+b) ⟨h4.set (N+2) (.cells [.int .i64 n5,u5] 112 true),n4,W⟩:=by
  intro z v h4 n4 k4 hv hz
  obtain⟨n5,u5,rfl,iC⟩:=hv.cells
  have yl:=(k4.get (N+2) (by omega)).trans VS
  have qY:=k4.le
  subst hz
  exact⟨n5,u5,rfl,iC,yl,fun W hW=>⟨hW,(kA.trans k4).set (by omega),n5,u5,by simp,hv.aE yl (by simp) rfl⟩⟩
 by_cases hs:(a<0)=(b<0)
 ·have iA:(decide (a<0)==decide (b<0))=true:=by simp[hs]
  simp[dJ,iA]
  refine ax (Zu2 sL Er (by omega) (by omega)) ?_
  rintro v h3 N3 k3 hv
  have xU:a.natAbs+b.natAbs=(a+b).natAbs:=by
   by_cases h:a<0
   ·have:b<0:=by rw[hs]at h;exact h
    omega
   ·have:¬b<0:=by rw[hs]at h;exact h
    omega
  rw[xU]at hv
  simp[]
  refine ax (Ci hv (by unfold wl at K8 la lb;omega)) ?_
  rintro v h4 N4 k4 hv
  obtain⟨n5,u5,rfl,iC,yl,hf⟩:=fin _ _ _ _ (k3.trans k4) hv (by
   by_cases h:a<0
   ·have:b<0:=by rw[hs]at h;exact h
    simp[h];omega
   ·have:¬b<0:=by rw[hs]at h;exact h
    simp[h];omega)
  unfold V.one at iC
  simp[yl,iC,ag,bW,r4]
  exact hf _ (by simp[ad])
 ·have iA:(decide (a<0)==decide (b<0))=false:=by
   by_cases h:a<0<;>by_cases h':b<0<;>simp_all
  simp[dJ,iA]
  refine ax (Zk sL Er (by omega) (by omega)) ?_
  rintro _ h3 N3 k3 rfl
  have K9:=sL.ae k3
  have La:=Er.ae k3
  by_cases hc:b.natAbs<=a.natAbs
  ·have c1:(0:Int)<=sH a.natAbs b.natAbs:=by unfold sH;split<;>(try split)<;>omega
   simp[c1]
   refine ax (Zf K9 La hc (by omega) (by omega)) ?_
   rintro v h5 N5 k5 hv
   simp[]
   refine ax (Ci hv (by have:=Cd (show a.natAbs-b.natAbs<=a.natAbs by omega);omega)) ?_
   rintro v h4 N4 k4 hv
   obtain⟨n5,u5,rfl,iC,yl,hf⟩:=fin _ _ _ _ ((k3.trans k5).trans k4) hv (by
    by_cases h:a<0
    ·have:¬b<0:=by intro h2;apply hs;simp[h,h2]
     simp[h];omega
    ·have:b<0:=by apply Decidable.byContradiction;intro h2;apply hs;simp[h,h2]
     simp[h];omega)
   unfold V.one at iC
   simp[yl,iC,ag,bW,r4]
   exact hf _ (by simp[ad])
  ·have c1:¬(0:Int)<=sH a.natAbs b.natAbs:=by unfold sH;split<;>(try split)<;>omega
   simp[c1]
   refine ax (Zf La K9 (by omega) (by omega) (by omega)) ?_
   rintro v h5 N5 k5 hv
   simp[]
   refine ax (Ci hv (by have:=Cd (show b.natAbs-a.natAbs<=b.natAbs by omega);omega)) ?_
   rintro v h4 N4 k4 hv
   obtain⟨n5,u5,rfl,iC,yl,hf⟩:=fin _ _ _ _ ((k3.trans k5).trans k4) hv (by
    by_cases h:b<0
    ·have:¬a<0:=by intro h2;apply hs;simp[h,h2]
     simp[h];omega
    ·have:a<0:=by apply Decidable.byContradiction;intro h2;apply hs;simp[h,h2]
     simp[h];omega)
   unfold V.one at iC
   simp[yl,iC,ag,bW,r4]
   exact hf _ (by simp[ad])
theorem JR(hx:In h N x a)(hy:In h N y b)(la:wl a<500000000000)(lb:wl b<500000000000):Fn A.C 192 [x,y] h N (fun v h' n'=>In h' n' v (a+b)):=by
 intro w
 rw[aR,A.k192 (by simp)]
 obtain⟨n1,u1,rfl,o1⟩:=hx.cells
 obtain⟨n2,u2,rfl,o2⟩:=hy.cells
 have kk:=aL (aL (aL (ab.refl (h:=h) (n:=N)) (.cells [.int .i64 n1,u1] 112 true)) (.cells [.int .i64 n2,u2] 112 true)) (.cells [.int .i64 0,.aa] 112 true)
 unfold V.one at o1 o2
 have go:∀r:T V,r.get 2=some (.ptr N 0)->r.get 3=some (.ptr (N+1) 0)->r.get 4=some (.ptr (N+2) 0)->bF A.C [.fin [.cell 4 (some 2)] ⟨h,N,w⟩] (eL (A.C.code none A.lR ⟨r,67,[]⟩ ⟨((h.set N (.cells [.int .i64 n1,u1] 112 true)).set (N+1) (.cells [.int .i64 n2,u2] 112 true)).set (N+1+1) (.cells [.int .i64 0,.aa] 112 true),N+1+1+1,[]⟩)) (Ak (aA (fun v h' n'=>In h' n' v (a+b)) h N w)):=by
  intro r r2 r3 r4
  refine oU (Yhq (hx.ae kk) (hy.ae kk) la lb kk (by simp) (by simp) (by simp) r2 r3 r4) ?_
  rintro e fr ⟨h5,n5,w5⟩ ⟨rfl,r',rfl,JW,hW,hK,n6,u6,g6,hi⟩
  simp only at hW hK g6 hi
  simp[JW,g6,aU,aJ,aA,hW]
  exact⟨hK,hi⟩
 rcases id hx with⟨e1,s1,s2⟩|⟨i,o,l,c,e1,_⟩
 ·simp only[V.agg.injEq,gK,V.int.injEq,true_and,and_true]at e1
  obtain⟨rfl,rfl⟩:=e1
  rcases id hy with⟨e2,t1,t2⟩|⟨i,o,l,c,e2,_⟩
  ·simp only[V.agg.injEq,gK,V.int.injEq,true_and,and_true]at e2
   obtain⟨rfl,rfl⟩:=e2
   have kr:=fun (o1 o2:O)=>(kk.set (i:=N+1+1) (o:=o1) (by omega))
   by_cases Bg: -9223372036854775808<=n1+n2/\n1+n2<9223372036854775808
   ·have w1:bn .i64 (n1+n2)=n1+n2:=cj (by omega) (by omega)
    by_cases hp:0<n2
    ·have c1:n1<n1+n2:=by omega
     simp[A.b192,aU,aJ,ag,dJ,w1,hp,c1,aA]
     exact⟨kk.set (by omega),In.small (by omega) (by omega)⟩
    ·have c1:¬n1<n1+n2:=by omega
     simp[A.b192,aU,aJ,ag,dJ,w1,hp,c1,aA]
     exact⟨kk.set (by omega),In.small (by omega) (by omega)⟩
   ·obtain⟨y,qh⟩:∃y,bn .i64 (n1+n2)=y:=⟨_,rfl⟩
    have uf:y=n1+n2-18446744073709551616/\0<n2\/y=n1+n2+18446744073709551616/\¬0<n2:=by
     rw[<-qh,xa]
     simp only[IntKind.wrap,IntKind.bits,IntKind.signed]
     simp
     omega
    by_cases hp:0<n2
    ·have c1:¬n1<y:=by omega
     simp[A.b192,aU,dJ,qh,hp,c1]
     exact go _ (by simp) (by simp) (by simp)
    ·have c1:n1<y:=by omega
     simp[A.b192,aU,dJ,qh,hp,c1]
     exact go _ (by simp) (by simp) (by simp)
  ·simp only[V.agg.injEq,gK,V.int.injEq,true_and,and_true]at e2
   obtain⟨rfl,rfl⟩:=e2
   simp[A.b192,aU,dJ]
   exact go _ (by simp) (by simp) (by simp)
 ·simp only[V.agg.injEq,gK,V.int.injEq,true_and,and_true]at e1
  obtain⟨rfl,rfl⟩:=e1
  simp[A.b192,aU,dJ,o2]
  exact go _ (by simp) (by simp) (by simp)
theorem Yh0(hx:In h N x a)(hy:In h N y b)(la:wl a<500000000000)(lb:wl b<500000000000):Fn A.C 261 [x,y] h N (fun v h' n'=>In h' n' v (a-b)):=by
 intro w
 rw[aR,A.k261 (by simp)]
 obtain⟨n1,u1,rfl,o1⟩:=hx.cells
 obtain⟨n2,u2,rfl,o2⟩:=hy.cells
 have kk:=aL (aL (aL (ab.refl (h:=h) (n:=N)) (.cells [.int .i64 n1,u1] 112 true)) (.cells [.int .i64 n2,u2] 112 true)) (.cells [.int .i64 0,.aa] 112 true)
 have IC:=GU (hy.ae kk) lb
 have mR:=hx.ae kk
 unfold V.one at o1 o2
 simp[A.b261,aU,aJ,o1,o2]
 refine ax IC ?_
 rintro v h1 uH k1 hv
 simp[]
 refine ax (JR (mR.ae k1) hv la (by rw[J7];exact lb)) ?_
 rintro v2 h2 nj k2 iH
 obtain⟨n5,u5,rfl,iC⟩:=iH.cells
 unfold V.one at iC
 have k12:=k1.trans k2
 have uA:=k12.le
 have g2:=k12.get (N+1+1) (by omega)
 simp at g2
 have aD:N+1+1<nj:=by omega
 have dr:N+1+1<uH:=by have:=k1.le;omega
 simp[g2,iC,ag,bW,aD,dr,dw.dB,aA]
 have he:a+ -b=a-b:=by omega
 rw[he]at iH
 exact⟨(kk.trans k12).set (by omega),iH.aE g2 (by simp) rfl⟩
theorem Yfq{H:T O}{n1 n2:Int}{u1 u2:V}{r0:T V}(hx:In H (N+3) (.agg [.int .i64 n1,u1]) a)(hy:In H (N+3) (.agg [.int .i64 n2,u2]) b)(la:wl a<500000000000)(lb:wl b<500000000000)(hK:ab h N H (N+3))
  (gx:H.get N=some (.cells [.int .i64 n1,u1] 112 true)) (gy:H.get (N+1)=some (.cells [.int .i64 n2,u2] 112 true)) (gz:H.get (N+2)=some (.cells [.int .i64 0,.aa] 112 true)) (r2:r0.get 2=some (.ptr N 0)) (r3:r0.get 3=some (.ptr (N+1) 0)) (r4:r0.get 4=some (.ptr (N+2) 0)):
  Code A.C none A.lS ⟨r0,66,[]⟩ ⟨H,N+3,[]⟩ (fun e fr st=>e=.ret/\∃r,fr=⟨r,66,[]⟩/\r.get 4=some (.ptr (N+2) 0)/\Ep h N (N+2) (a*b) st):=by
 rw[bA]
 simp[A.lS,r2,gx,aU,aJ]
 refine ax (AE hx) ?_
 rintro _ h1 N1 k1 ⟨ua,rfl,JM⟩
 have eR:=k1.le
 have JN:=(k1.get (N+1) (by omega)).trans gy
 have VQ:=(k1.get (N+2) (by omega)).trans gz
 simp[r3,JN,aU,aJ]
 refine ax (AE (hy.ae k1)) ?_
 rintro _ h2 N2 k2 ⟨ub,rfl,Er⟩
 have f_:=k2.le
 have VS:=(k2.get (N+2) (by omega)).trans VQ
 have sL:=JM.ae k2
 have Cl:(aC a.natAbs).length<500000000000:=la
 have Nm:(aC b.natAbs).length<500000000000:=lb
 have kA:=(hK.trans k1).trans k2
 have K8:=Eu a b
 simp[dJ]
 refine ax (Zty sL Er (by omega) (by omega)) ?_
 rintro v h3 N3 k3 hv
 have hmul:a.natAbs*b.natAbs=(a*b).natAbs:=(tP a b).symm
 rw[hmul]at hv
 simp[]
 refine ax (Ci hv (by unfold wl at K8 la lb;omega)) ?_
 rintro v h4 N4 k4 hv
 obtain⟨n5,u5,rfl,iC⟩:=hv.cells
 have yl:=((k3.trans k4).get (N+2) (by omega)).trans VS
 have qY:=(k3.trans k4).le
 unfold V.one at iC
 have hs:=Zvy a b
 have he:(if (!decide (a<0)==decide (b<0))=true then -((a*b).natAbs:Int) else (a*b).natAbs)=a*b:=by
  have h0:a=0\/b=0->a*b=0:=by rintro(rfl|rfl)<;>simp
  by_cases h1:a<0<;>by_cases h2:b<0<;>simp[h1,h2]at hs ⊢<;>omega
 rw[he]at hv
 simp[yl,iC,ag,bW,r4]
 exact⟨by simp[ad],((kA.trans k3).trans k4).set (by omega),n5,u5,by simp,hv.aE yl (by simp) rfl⟩
theorem AI(hx:In h N x a)(hy:In h N y b)(la:wl a<500000000000)(lb:wl b<500000000000):Fn A.C 157 [x,y] h N (fun v h' n'=>In h' n' v (a*b)):=by
 intro w
 rw[aR,A.k157 (by simp)]
 obtain⟨n1,u1,rfl,o1⟩:=hx.cells
 obtain⟨n2,u2,rfl,o2⟩:=hy.cells
 have kk:=aL (aL (aL (ab.refl (h:=h) (n:=N)) (.cells [.int .i64 n1,u1] 112 true)) (.cells [.int .i64 n2,u2] 112 true)) (.cells [.int .i64 0,.aa] 112 true)
 unfold V.one at o1 o2
 have go:∀r:T V,r.get 2=some (.ptr N 0)->r.get 3=some (.ptr (N+1) 0)->r.get 4=some (.ptr (N+2) 0)->bF A.C [.fin [.cell 4 (some 2)] ⟨h,N,w⟩] (eL (A.C.code none A.lS ⟨r,66,[]⟩ ⟨((h.set N (.cells [.int .i64 n1,u1] 112 true)).set (N+1) (.cells [.int .i64 n2,u2] 112 true)).set (N+1+1) (.cells [.int .i64 0,.aa] 112 true),N+1+1+1,[]⟩)) (Ak (aA (fun v h' n'=>In h' n' v (a*b)) h N w)):=by
  intro r r2 r3 r4
  refine oU (Yfq (hx.ae kk) (hy.ae kk) la lb kk (by simp) (by simp) (by simp) r2 r3 r4) ?_
  rintro e fr ⟨h5,n5,w5⟩ ⟨rfl,r',rfl,JW,hW,hK,n6,u6,g6,hi⟩
  simp only at hW hK g6 hi
  simp[JW,g6,aU,aJ,aA,hW]
  exact⟨hK,hi⟩
 rcases id hx with⟨e1,s1,s2⟩|⟨i,o,l,c,e1,_⟩
 ·simp only[V.agg.injEq,gK,V.int.injEq,true_and,and_true]at e1
  obtain⟨rfl,rfl⟩:=e1
  rcases id hy with⟨e2,t1,t2⟩|⟨i,o,l,c,e2,_⟩
  ·simp only[V.agg.injEq,gK,V.int.injEq,true_and,and_true]at e2
   obtain⟨rfl,rfl⟩:=e2
   have z1:=fun st=>TC s1 s2 (st:=st)
   have z2:=fun st=>TC t1 t2 (st:=st)
   have hm:n1.natAbs*n2.natAbs=(n1*n2).natAbs:=(tP _ _).symm
   have fj:bz (n1.natAbs*n2.natAbs)+18446744073709551616*bX (n1.natAbs*n2.natAbs)=(n1*n2).natAbs:=by
    rw[<-hm]
    have:=ri (n1.natAbs*n2.natAbs) 18446744073709551616
    unfold bz bX;omega
   have Lb:=Zvy n1 n2
   obtain⟨hi,fZ⟩:∃x,bX (n1.natAbs*n2.natAbs)=x:=⟨_,rfl⟩
   obtain⟨lo,xJ⟩:∃x,bz (n1.natAbs*n2.natAbs)=x:=⟨_,rfl⟩
   rw[fZ,xJ]at fj
   have hz:n1=0\/n2=0->n1*n2=0:=by rintro(rfl|rfl)<;>simp
   simp[A.b157,aU,dJ,z1,z2]
   refine ax (Js (x:=n1.natAbs) (y:=n2.natAbs) (by omega) (by omega)) ?_
   rintro _ h' N' k ⟨rfl,rfl,rfl⟩
   rw[fZ,xJ]
   have d1:¬N=N+1:=by omega
   by_cases h0:hi=0
   ·by_cases h1:lo<=9223372036854775807
    ·have gh:(lo:Int)<=9223372036854775807:=by omega
     have w1:bn .i64 (lo:Int)=lo:=cj (by omega) (by omega)
     have w2:IntKind.wrap .i64 (-(lo:Int))= -(lo:Int):=HU (by omega) (by omega)
     by_cases hs:(n1<0)=(n2<0)
     ·have iA:(decide (n1<0)==decide (n2<0))=true:=by simp[hs]
      have hp:¬n1*n2<0:=by rw[Lb];rintro⟨p,_⟩;exact p hs
      have he:(lo:Int)=n1*n2:=by omega
      simp[aU,aJ,ag,dJ,h0,gh,iA,w1,aA,dw.dB]
      exact⟨kk.set (by omega),by rw[<-he];exact In.small (by omega) (by omega)⟩
     ·have iA:(decide (n1<0)==decide (n2<0))=false:=by
       by_cases h:n1<0<;>by_cases h':n2<0<;>simp_all
      have he: -(lo:Int)=n1*n2:=by
       by_cases hq:n1=0\/n2=0
       ·have:=hz hq;omega
       ·have:n1*n2<0:=Lb.2 ⟨hs,fun h=>hq (.inl h),fun h=>hq (.inr h)⟩
        omega
      simp[aU,aJ,ag,dJ,h0,gh,iA,w1,w2,aA,dw.dB]
      exact⟨kk.set (by omega),by rw[<-he];exact In.small (by omega) (by omega)⟩
    ·have gh:¬(lo:Int)<=9223372036854775807:=by omega
     simp[h0,gh,dw.dB]
     exact go _ (by simp) (by simp) (by simp)
   ·simp[h0,dw.dB]
    exact go _ (by simp) (by simp) (by simp)
  ·simp only[V.agg.injEq,gK,V.int.injEq,true_and,and_true]at e2
   obtain⟨rfl,rfl⟩:=e2
   simp[A.b157,aU,dJ]
   exact go _ (by simp) (by simp) (by simp)
 ·simp only[V.agg.injEq,gK,V.int.injEq,true_and,and_true]at e1
  obtain⟨rfl,rfl⟩:=e1
  simp[A.b157,aU,dJ,o2]
  exact go _ (by simp) (by simp) (by simp)
theorem Yoy(hx:In h N x a)(hy:In h N y b)(la:wl a<100000000000)(lb:wl b<100000000000):Fn A.C 217 [x,y] h N (fun v _ _=>v=.int .i64 (fM (a-b))):=by
 intro w
 rw[aR,A.k217 (by simp)]
 obtain⟨n1,u1,rfl,o1⟩:=hx.cells
 obtain⟨n2,u2,rfl,o2⟩:=hy.cells
 have kk:=aL (aL (ab.refl (h:=h) (n:=N)) (.cells [.int .i64 n1,u1] 112 true)) (.cells [.int .i64 n2,u2] 112 true)
 have lC:=Yh0 (hx.ae kk) (hy.ae kk) (by omega) (by omega)
 have K8:=UN a (-b)
 rw[J7]at K8
 unfold V.one at o1 o2
 rcases id hx with⟨e1,s1,s2⟩|⟨i,o,l,c,e1,_⟩
 ·simp only[V.agg.injEq,gK,V.int.injEq,true_and,and_true]at e1
  obtain⟨rfl,rfl⟩:=e1
  rcases id hy with⟨e2,t1,t2⟩|⟨i,o,l,c,e2,_⟩
  ·simp only[V.agg.injEq,gK,V.int.injEq,true_and,and_true]at e2
   obtain⟨rfl,rfl⟩:=e2
   by_cases h1:n1<n2
   ·simp[A.b217,aU,aA,dJ,h1]
    exact⟨kk,by unfold fM;rw[aF (by omega)]⟩
   ·by_cases h2:n2<n1
    ·simp[A.b217,aU,aA,dJ,h1,h2]
     exact⟨kk,by unfold fM;rw[au (by omega),au (by omega)]⟩
    ·simp[A.b217,aU,aA,dJ,h1,h2]
     exact⟨kk,by unfold fM;rw[au (by omega),aF (by omega)]⟩
  ·simp only[V.agg.injEq,gK,V.int.injEq,true_and,and_true]at e2
   obtain⟨rfl,rfl⟩:=e2
   simp[A.b217,aU,aJ,dJ]
   refine ax lC ?_
   rintro v h1 uH k1 hv
   simp[]
   refine ax (GS hv) ?_
   rintro _ h2 nj k2 rfl
   simp[aA]
   exact(kk.trans k1).trans k2
 ·simp only[V.agg.injEq,gK,V.int.injEq,true_and,and_true]at e1
  obtain⟨rfl,rfl⟩:=e1
  simp[A.b217,aU,aJ,dJ,o2]
  refine ax lC ?_
  rintro v h1 uH k1 hv
  simp[]
  refine ax (GS hv) ?_
  rintro _ h2 nj k2 rfl
  simp[aA]
  exact(kk.trans k1).trans k2
theorem Yiz(hx:In h N x a)(la:wl a<500000000000):Fn A.C 259 [x] h N (fun v h' n'=>In h' n' v (a.natAbs:Int)):=by
 intro w
 rw[aR,A.k259 (by simp)]
 obtain⟨n1,u1,rfl,o1⟩:=hx.cells
 have kk:=aL (aL (ab.refl (h:=h) (n:=N)) (.cells [.int .i64 n1,u1] 112 true)) (.cells [.int .i64 0,.aa] 112 true)
 have IC:=GU (hx.ae kk) la
 have KR:(n1<0)=(a<0):=by
  rcases hx with⟨e1,s1,s2⟩|⟨i,o,l,c,e1,_⟩
  ·simp only[V.agg.injEq,gK,V.int.injEq,true_and,and_true]at e1
   rw[e1.1]
  ·simp only[V.agg.injEq,gK,V.int.injEq,true_and,and_true]at e1
   rw[e1.1];unfold vt;split<;>simp_all
 unfold V.one at o1
 by_cases h0:a<0
 ·have h1:n1<0:=by rw[KR];exact h0
  simp[A.b259,aU,aJ,o1,h1]
  refine ax IC ?_
  rintro v h2 n2 k2 hv
  obtain⟨n5,u5,rfl,iC⟩:=hv.cells
  unfold V.one at iC
  have uA:=k2.le
  have g2:=k2.get (N+1) (by omega)
  simp at g2
  have he:(-a)=(a.natAbs:Int):=by omega
  rw[he]at hv
  simp[g2,iC,ag,bW,aU,aJ,aA]
  exact⟨(kk.trans k2).set (by omega),hv.aE g2 (by simp) rfl⟩
 ·have h1:¬n1<0:=by rw[KR];exact h0
  have he:a=(a.natAbs:Int):=by omega
  rw[he]at hx
  simp[A.b259,aU,aJ,ag,bW,o1,h1,aA]
  exact⟨kk.set (by omega),(hx.ae kk).aE (i:=N+1) (c0:=[.int .i64 0,.aa]) (e0:=112) (w0:=true) (by simp) (by simp) rfl⟩
end Go.Mx
