/-lensletref01-/
import Derived.Test.YteoackkadadmdaaGreatDoorNaD
set_option linter.all false
namespace Go.Mx
open Go Go.Proofs
variable {q:Rat}
set_option maxRecDepth 1000000
def A.b48:av:=sr [mc 2 0]
 (.seq (sr [mv 3 0,ge 4 (.bin .eql (.aM .str) true (tq 3) (.const (.str [48])))]
 (cd 4
 (sr [mc 2 0]
 (.ret))
 (.skip)))
 (.seq (sr [mv 5 0,ge 6 (.len 0 (tq 5)),bc 7 .gtr 6 0,mv 8 7,mg 9 0 8,gy 10 8 (.aZ (tq 9) (kq 0)),gy 11 8 (.bin .eql (.aM .int) true (tq 10) (.const (.int .u8 45))),pf 12 8 11]
 (cd 12
 (sr [ge 2 (.ba (.const (.int .i64 (-1))))]
 (.ret))
 (.skip)))
 (sr [mc 2 1]
 (.ret))))
def A.c48:A.F 48=some ⟨13,[.tmp 2],A.b48⟩:=by kernel_rfl
def A.k48:=@A.kk 48 _ _ _ A.c48 rfl
def A.b185:av:=sr [ge 2 (.ba (.const (.str [])))]
 (.seq (sr [mv 3 0,c1 4 48 3,bc 5 .lss 4 0]
 (cd 5
 (sr [mv 6 0,ge 7 (.aD (tq 6) (some (kq 1)) none),mv 2 7]
 (.ret))
 (.skip)))
 (.seq (sr [mv 8 0,c1 9 48 8,ei 10 9 0]
 (cd 10
 (sr [mv 11 0,mv 2 11]
 (.ret))
 (.skip)))
 (sr [mv 12 0,ge 13 (.bin .add (.node []) false (.const (.str [45])) (tq 12)),mv 2 13]
 (.ret))))
def A.c185:A.F 185=some ⟨14,[.tmp 2],A.b185⟩:=by kernel_rfl
def A.k185:=@A.kk 185 _ _ _ A.c185 rfl
def A.b183:av:=sr [ge 2 (.ba (.const (.str [])))]
 (sr [mv 6 0,c1 7 118 6,mv 5 7,xt 8 5 0,xt 9 5 1,ge 3 (.alloc [.bool false,.aa] 139),ge 4 (.alloc [.bool false,.aa] 139),gn (.store 2 (tq 3) (tq 8)),gn (.store 2 (tq 4) (tq 9))]
 (sr [lN 10 2 4,lN 11 2 3,c2 12 179 10 11,mv 2 12]
 (.ret)))
def A.c183:A.F 183=some ⟨13,[.tmp 2],A.b183⟩:=by kernel_rfl
def A.k183:=@A.kk 183 _ _ _ A.c183 rfl
def A.b186:av:=sr [mc 2 0]
 (.seq (sr [mv 3 0,c1 4 232 3,c1 5 231 4,ge 6 (.len 0 (tq 5)),bc 7 .gtr 6 600,mv 8 7,mh 9 0 8,gz 10 8 (.call (fq 233) [tq 9]),gz 11 8 (.len 0 (tq 10)),gz 12 8 (.bin .gtr (.node []) false (tq 11) (kq 600)),pt 13 8 12]
 (cd 13
 (sr [mc 2 4]
 (.ret))
 (.skip)))
 (sr [mc 2 0]
 (.ret)))
def A.c186:A.F 186=some ⟨14,[.tmp 2],A.b186⟩:=by kernel_rfl
def A.k186:=@A.kk 186 _ _ _ A.c186 rfl
def A.b232:av:=sr [ge 2 (.ba (.const (.str [])))]
 (sr [mv 3 0,mv 4 0,c1 5 116 4,ge 6 (.aD (tq 3) none (some (tq 5))),mv 2 6]
 (.ret))
def A.c232:A.F 232=some ⟨7,[.tmp 2],A.b232⟩:=by kernel_rfl
def A.k232:=@A.kk 232 _ _ _ A.c232 rfl
def A.b233:av:=sr [ge 2 (.ba (.const (.str [])))]
 (sr [mv 4 0,c1 5 116 4,mv 3 5]
 (.seq (sr [mv 6 3,mv 7 0,ge 8 (.len 0 (tq 7)),ge 9 (.bin .eql (.aM .int) false (tq 6) (tq 8))]
 (cd 9
 (sr [ge 2 (.ba (.const (.str [49])))]
 (.ret))
 (.skip)))
 (sr [mv 10 0,mv 11 3,bc 12 .add 11 1,ge 13 (.aD (tq 10) (some (tq 12)) none),mv 2 13]
 (.ret))))
def A.c233:A.F 233=some ⟨14,[.tmp 2],A.b233⟩:=by kernel_rfl
def A.k233:=@A.kk 233 _ _ _ A.c233 rfl
def A.b231:av:=sr [ge 2 (.ba (.const (.str [])))]
 (.seq (sr [mv 3 0,c1 4 48 3,bc 5 .lss 4 0]
 (cd 5
 (sr [mv 6 0,ge 7 (.aD (tq 6) (some (kq 1)) none),mv 2 7]
 (.ret))
 (.skip)))
 (sr [mv 8 0,mv 2 8]
 (.ret)))
def A.c231:A.F 231=some ⟨9,[.tmp 2],A.b231⟩:=by kernel_rfl
def A.k231:=@A.kk 231 _ _ _ A.c231 rfl
def A.b181:av:=sr [ge 2 (.ba (.const (.bool false)))]
 (sr [mv 3 0,ge 4 (.bin .eql (.aM .str) true (tq 3) (.const (.str [48]))),mv 2 4]
 (.ret))
def A.c181:A.F 181=some ⟨5,[.tmp 2],A.b181⟩:=by kernel_rfl
def A.k181:=@A.kk 181 _ _ _ A.c181 rfl
def Yh:a_ 0=[48]:=by decide+kernel
def Yba:a_ q=[48]↔q=0:=⟨fun h=>Ygb (h.trans Yh.symm),fun h=>by rw[h,Yh]⟩
def Zl{st:St}:A.C.call (.func 181 [] []) [.str (a_ q)] st=some (.bool (decide (q=0)),st):=by
 have e:(a_ q==[48])=decide (q=0):=by rw[Bool.eq_iff_iff,beq_iff_eq,decide_eq_true_eq];exact Yba
 apply Call.eq
 rw[aO,A.k181 (by simp)]
 simp[A.b181,gO,e]
def AF:q.num=0↔q=0:=Rat.num_eq_zero
def Yll(q:Rat):0<(a_ q).length:=by
 obtain⟨c,t,h,_⟩:=Yc q
 rw[Bn,h]
 split<;>simp
def Yga(q:Rat):∃c,(a_ q)[0]?=some c/\(a_ q).head?=some c/\(cK c=45↔q.num<0):=by
 obtain⟨c,t,h,h1⟩:=Yc q
 by_cases hz:q.num<0
 ·refine⟨45,?_,?_,?_⟩
  ·rw[Bn,aF hz];rfl
  ·rw[Bn,aF hz];rfl
  ·exact⟨fun _=>hz,fun _=>rfl⟩
 ·refine⟨c,?_,?_,?_⟩
  ·rw[Bn,ar hz,h];rfl
  ·rw[Bn,ar hz,h];rfl
  ·exact⟨fun h2=>by unfold cK at h2;omega,fun h2=>absurd h2 hz⟩
def QJ{st:St}:A.C.call (.func 48 [] []) [.str (a_ q)] st=some (.int .i64 (dW q.num),st):=by
 have e:(a_ q==[48])=decide (q=0):=by rw[Bool.eq_iff_iff,beq_iff_eq,decide_eq_true_eq];exact Yba
 obtain⟨c,h1,h2,h3⟩:=Yga q
 have hp:=Yll q
 have Dc:(0:Int)<((a_ q).length:Int):=by omega
 have bB:a_ q≠[]:=fun hc=>by rw[hc]at hp;simp at hp
 apply Call.eq
 rw[aO,A.k48 (by simp)]
 by_cases h0:q=0
 ·have hn:q.num=0:=AF.2 h0
  have hs:dW q.num=0:=by rw[hn];rfl
  have e0:(a_ q==[48])=true:=by rw[e];simp[h0]
  rw[hs]
  simp(disch:=first|(simp;done)|omega|rfl) [-getElem?_pos,A.b48,gO,e0]
 ·have hn:q.num≠0:=fun hc=>h0 (AF.1 hc)
  by_cases hz:q.num<0
  ·have hs:dW q.num= -1:=by unfold dW;rw[aF hz]
   have hc:=h3.2 hz
   rw[hs]
   simp(disch:=first|(simp;done)|omega|rfl) [-getElem?_pos,A.b48,gO,e,h0,hp,h1,hc]
  ·have hs:dW q.num=1:=by unfold dW;rw[ar hz,ar hn]
   have hc:¬cK c=45:=fun hc=>hz (h3.1 hc)
   rw[hs]
   simp(disch:=first|(simp;done)|omega|rfl) [-getElem?_pos,A.b48,gO,e,h0,hp,h1,hc]
def Yr6(q:Rat):QB (-q)=QB q:=by
 unfold QB
 rw[Rat.neg_den,Rat.neg_num,yS]
def Ymz{st:St}(hl:(a_ q).length<1000000000):A.C.call (.func 185 [] []) [.str (a_ q)] st=some (.str (a_ (-q)),st):=by
 have hs:=fun st=>QJ (q:=q) (st:=st)
 have dh:IntKind.max .i64=9223372036854775807:=rfl
 apply Call.eq
 rw[aO,A.k185 (by simp)]
 have ff:=Bn (-q)
 rw[Yr6,Rat.neg_num]at ff
 by_cases hz:q.num<0
 ·have e1:a_ q=45::QB q:=by rw[Bn,aF hz]
  have e2:a_ (-q)=QB q:=by rw[ff,ar (by omega)]
  have e3:dW q.num= -1:=by unfold dW;rw[aF hz]
  rw[e1,e3]at hs
  have a3:∀st:St,tk st (some (.str (45::QB q))) (some (some (.int .i64 1))) (some none)=some (.str (QB q),st):=fun st=>by rw[GH (by omega) (by simp only[bD];omega)];rfl
  rw[e1,e2]
  simp[A.b185,hs,aC,a3]
 ·by_cases h0:q=0
  ·have e3:dW q.num=0:=by rw[AF.2 h0];rfl
   rw[e3]at hs
   have e4: -q=q:=by rw[h0];rfl
   rw[e4]
   simp[A.b185,hs]
  ·have hn:q.num≠0:=fun hc=>h0 (AF.1 hc)
   have e1:a_ q=QB q:=by rw[Bn,ar hz]
   have e2:a_ (-q)=45::QB q:=by rw[ff,aF (by omega)]
   have e3:dW q.num=1:=by unfold dW;rw[ar hz,ar hn]
   rw[e3]at hs
   rw[e1]at hs hl
   have hb:¬(9223372036854775807:Int)<1+((QB q).length:Int):=by omega
   rw[e2,e1]
   simp[A.b185,hs,gO,dh,hb]
def Yi(q:Rat):q⁻¹=Rat.divInt (q.den:Int) q.num:=Rat.inv_def q
def Ymg{k:Nat}{h:T O}{N:Nat}(hq:Qb k q)(hk:k<=400000000)(h0:q≠0):Fn A.C 183 [.str (a_ q)] h N (fun u _ _=>u=.str (a_ q⁻¹)):=by
 intro w
 have la:=Fi hq.1
 have Jo:=C9 hq.2
 have z1:=tR hq.1
 have z2:=tR hq.2
 have hn:q.num≠0:=fun hc=>h0 (AF.1 hc)
 rw[aO,A.k183 (by simp)]
 simp[A.b183]
 refine aA (Nc (q:=q) (by omega) (by omega)) ?_
 rintro _ h1 t1 k1 ⟨x1,y1,rfl,X1,Y1⟩
 obtain⟨u1,rfl,p1,p2,F1⟩:=X1.pj
 obtain⟨v1,rfl,p3,p4,G1⟩:=Y1.pj
 unfold V.one at p1 p3
 unfold V.cells at p2 p4
 have KA:=((((ab.refl (h:=h1) (n:=t1)).new (.cells [.bool false,.aa] 139 true)).new (.cells [.bool false,.aa] 139 true)).set (i:=t1) (o:=.cells [.bool (decide (q.num<0)),u1] 139 true) (aW _)).set (i:=t1+1) (o:=.cells [.bool (decide ((q.den:Int)<0)),v1] 139 true) (by omega)
 have c0:¬t1+1=t1:=by omega
 have c00:¬t1=t1+1:=by omega
 have i1:=k1.le
 generalize Ak:(((h1.set t1 (.cells [.bool false,.aa] 139 true)).set (t1+1) (.cells [.bool false,.aa] 139 true)).set t1 (.cells [.bool (decide (q.num<0)),u1] 139 true)).set (t1+1) (.cells [.bool (decide ((q.den:Int)<0)),v1] 139 true)=HA at*
 have Fp:HA.get t1=some (.cells [.bool (decide (q.num<0)),u1] 139 true):=by rw[<-Ak];simp
 have Nj:HA.get (t1+1)=some (.cells [.bool (decide ((q.den:Int)<0)),v1] 139 true):=by rw[<-Ak];simp
 have X1:=X1.ae KA
 have Y1:=Y1.ae KA
 simp[-ax,p1,p3,bO,ad,Ak,Fp,Nj,aS,aE]
 refine aA (Ya Y1 X1 hn (by rw[dJ];omega) (by omega)) ?_
 rintro _ h2 t2 k2 rfl
 have j1:t1<t1+1+1:=by omega
 have j2:t1+1<t1+1+1:=by omega
 rw[<-Yi]
 simp[-ax,az]
 exact⟨xy (by simp;omega),(k1.trans KA).trans k2⟩
def Ymv{st:St}(hl:(a_ q).length<1000000000):A.C.call (.func 232 [] []) [.str (a_ q)] st=some (.str (aN q.num),st):=by
 have cE:=fun st=>EF (s:=a_ q) (st:=st) (by omega)
 have h2:ah (a_ q)<=(a_ q).length:=by
  rw[I1]
  unfold a_
  split
  ·exact aW _
  ·rw[iN];omega
 have a4:∀st:St,tk st (some (.str (a_ q))) (some none) (some (some (.int .i64 (ah (a_ q):Nat))))=some (.str (aN q.num),st):=fun st=>by rw[VW (by omega) (by omega),Int.toNat_natCast,Li]
 apply Call.eq
 rw[aO,A.k232 (by simp)]
 simp[A.b232,cE,aC,a4]
def Yom{st:St}(hl:(a_ q).length<1000000000):A.C.call (.func 233 [] []) [.str (a_ q)] st=some (.str (aq q.den),st):=by
 have cE:=fun st=>EF (s:=a_ q) (st:=st) (by omega)
 have ay:=Cs q
 have h2:ah (a_ q)<=(a_ q).length:=by
  rw[I1]
  unfold a_
  split
  ·exact aW _
  ·rw[iN];omega
 apply Call.eq
 rw[aO,A.k233 (by simp)]
 by_cases hd:q.den=1
 ·have c1:(ah (a_ q):Int)=((a_ q).length:Int):=by omega
  rw[hd,NZ]
  simp[A.b233,cE,c1]
 ·have kO:=ay.2 hd
  have c1:¬(ah (a_ q):Int)=((a_ q).length:Int):=by omega
  have c2:¬ah (a_ q)=(a_ q).length:=by omega
  have w1:bu .i64 ((ah (a_ q):Int)+1)=(ah (a_ q):Int)+1:=cF (by omega) (by omega)
  have xo:=Lj q hd
  have a4:∀st:St,tk st (some (.str (a_ q))) (some (some (.int .i64 ((ah (a_ q):Int)+1)))) (some none)=some (.str (aq q.den),st):=fun st=>by
   rw[GH (by omega) (by omega)]
   have:((ah (a_ q):Int)+1).toNat=ah (a_ q)+1:=by omega
   rw[this,xo]
  simp[A.b233,cE,c1,w1,aC,a4]
def Ylm(z:Int):a_ (z:Rat)=aN z:=by
 unfold a_
 rw[aF (by simp)];simp
def Ype{z:Int}{st:St}(hl:(aN z).length<1000000000):A.C.call (.func 231 [] []) [.str (aN z)] st=some (.str (aq z.natAbs),st):=by
 have hs:=fun st=>QJ (q:=(z:Rat)) (st:=st)
 rw[Ylm]at hs
 have hn:((z:Rat)).num=z:=by simp
 rw[hn]at hs
 apply Call.eq
 rw[aO,A.k231 (by simp)]
 by_cases hz:z<0
 ·have e1:aN z=45::aq z.natAbs:=by unfold aN;rw[aF hz]
  have e3:dW z= -1:=by unfold dW;rw[aF hz]
  rw[e1,e3]at hs
  have a3:∀st:St,tk st (some (.str (45::aq z.natAbs))) (some (some (.int .i64 1))) (some none)=some (.str (aq z.natAbs),st):=fun st=>by rw[GH (by omega) (by simp only[bD];omega)];rfl
  rw[e1]
  simp[A.b231,hs,aC,a3]
 ·have e1:aN z=aq z.natAbs:=by unfold aN;rw[ar hz]
  have e3:¬dW z<0:=by unfold dW;rw[ar hz];split<;>omega
  rw[e1]at hs
  rw[e1]
  simp[A.b231,hs,e3]
def Ydr{st:St}(hl:(a_ q).length<1000000000):A.C.call (.func 186 [] []) [.str (a_ q)] st=some (.int .i64 (if Az q=true then 4 else 0),st):=by
 have h1:=fun st=>Ymv (q:=q) (st:=st) hl
 have h2:=fun st=>Yom (q:=q) (st:=st) hl
 have iz:(aN q.num).length<1000000000:=by
  have:(aN q.num).length<=(a_ q).length:=by
   unfold a_
   split
   ·exact aW _
   ·rw[iN];omega
  omega
 have h3:=fun st=>Ype (z:=q.num) (st:=st) iz
 apply Call.eq
 rw[aO,A.k186 (by simp)]
 unfold Az
 by_cases c1:600<(aq q.num.natAbs).length
 ·have c1':(600:Int)<((aq q.num.natAbs).length:Int):=by omega
  simp[A.b186,h1,h3,c1,c1']
 ·have c1':¬(600:Int)<((aq q.num.natAbs).length:Int):=by omega
  by_cases c2:600<(aq q.den).length
  ·have c2':(600:Int)<((aq q.den).length:Int):=by omega
   simp[A.b186,h1,h2,h3,c1,c1',c2,c2']
  ·have c2':¬(600:Int)<((aq q.den).length:Int):=by omega
   simp[A.b186,h1,h2,h3,c1,c1',c2,c2']
variable {N:Nat} {a b:Int} {h:T O} {x y:V}
set_option maxHeartbeats 1000000
def A.nv:av:=sr [lN 34 2 2,c1 35 196 34,mv 33 35,xt 36 33 0,xt 37 33 1,mv 6 36,mv 7 37]
 (sr [lN 39 2 3,c1 40 196 39,mv 38 40,xt 41 38 0,xt 42 38 1,mv 8 41,mv 9 42]
 (.seq (.block 0 (sr [mv 44 6,mv 45 8,ge 46 (.bin .eql (.aM .bool) false (tq 44) (tq 45)),mv 43 46]
 (cd 43
 (sr [mv 47 6,mv 48 7,mv 49 9,c2 50 198 48 49,c2 51 197 47 50,gn (.store 2 (tq 4) (tq 51))]
 (.ret))
 (sr [mv 53 7,mv 54 9,c2 55 199 53 54,bc 56 .geq 55 0,mv 52 56]
 (cd 52
 (sr [mv 57 6,mv 58 7,mv 59 9,c2 60 200 58 59,c2 61 197 57 60,gn (.store 2 (tq 4) (tq 61))]
 (.ret))
 (.skip))))))
 (sr [mv 62 8,mv 63 9,mv 64 7,c2 65 200 63 64,c2 66 197 62 65,gn (.store 2 (tq 4) (tq 66))]
 (.ret))))
def A.b146:av:=sr [bx 2 101 0,bx 3 101 1,ge 4 (.alloc [.int .i64 0,.aa] 101)]
 (.seq (sr [fa 10 1 2,ld 11 10,ge 12 (.bin .eql (.aM .slice) true (tq 11) (.const .aa)),mv 13 12,gy 14 13 (.eI 1 (tq 3)),gy 15 13 (.load none (tq 14)),gy 16 13 (.bin .eql (.aM .slice) true (tq 15) (.const .aa)),pf 17 13 16]
 (cd 17
 (sr [fa 18 0 2,ld 19 18,fa 20 0 3,ld 21 20,bi 22 .add 19 21,mv 5 22]
 (sr [mv 23 5,fa 24 0 2,ld 25 24,bi 26 .gtr 23 25,fa 27 0 3,ld 28 27,bc 29 .gtr 28 0,ge 30 (.bin .eql (.aM .bool) false (tq 26) (tq 29))]
 (cd 30
 (sr [mv 31 5,ge 32 (.build [.int .i64 0,.aa] [(0,1,(tq 31))]),gn (.store 2 (tq 4) (tq 32))]
 (.ret))
 (.skip))))
 (.skip)))
 A.nv)
def A.c146:A.F 146=some ⟨67,[.cell 4 (some 2)],A.b146⟩:=by kernel_rfl
def A.k146:=@A.kk 146 _ _ _ A.c146 rfl
def A.b238:av:=sr [bx 2 101 0,bx 3 101 1,ge 4 (.alloc [.int .i64 0,.aa] 101)]
 (.seq (.aX [lN 5 2 2,lN 6 2 3,c1 7 189 6,c2 8 146 5 7,gn (.store 2 (tq 4) (tq 8))] [0,0,2,7,15])
 (.ret))
def A.c238:A.F 238=some ⟨9,[.cell 4 (some 2)],A.b238⟩:=by kernel_rfl
def A.k238:=@A.kk 238 _ _ _ A.c238 rfl
def A.nw:av:=sr [lN 50 2 2,c1 51 196 50,mv 49 51,xt 52 49 0,xt 53 49 1,mv 7 52,mv 8 53]
 (sr [lN 55 2 3,c1 56 196 55,mv 54 56,xt 57 54 0,xt 58 54 1,mv 9 57,mv 10 58]
 (sr [mv 59 7,mv 60 9,ge 61 (.bin .neq (.aM .bool) false (tq 59) (tq 60)),mv 62 8,mv 63 10,c2 64 204 62 63,c2 65 197 61 64,gn (.store 2 (tq 4) (tq 65))]
 (.ret)))
def A.b148:av:=sr [bx 2 101 0,bx 3 101 1,ge 4 (.alloc [.int .i64 0,.aa] 101)]
 (.seq (sr [fa 11 1 2,ld 12 11,ge 13 (.bin .eql (.aM .slice) true (tq 12) (.const .aa)),mv 14 13,gy 15 14 (.eI 1 (tq 3)),gy 16 14 (.load none (tq 15)),gy 17 14 (.bin .eql (.aM .slice) true (tq 16) (.const .aa)),pf 18 14 17]
 (cd 18
 (.seq (.aX [fa 20 0 2,ld 21 20,c1 22 203 21,fa 23 0 3,ld 24 23,c1 25 203 24,c2 26 202 22 25,mv 19 26,xt 27 19 0,xt 28 19 1,mv 5 27,mv 6 28] [0,1,3,0,8,31,63,127,255,255,511,2047])
 (sr [mv 29 5,ge 30 (.bin .eql (.aM .int) true (tq 29) (.const (.int .u64 0))),mv 31 30,mg 32 6 31,gy 33 31 (.bin .leq (.node []) false (tq 32) (.const (.int .u64 9223372036854775807))),pf 34 31 33]
 (cd 34
 (.seq (sr [fa 35 0 2,ld 36 35,bc 37 .lss 36 0,fa 38 0 3,ld 39 38,bc 40 .lss 39 0,ge 41 (.bin .neq (.aM .bool) false (tq 37) (tq 40))]
 (cd 41
 (sr [mv 42 6,ge 43 (.bj .i64 (tq 42)),ge 44 (.un .neg (tq 43)),ge 45 (.build [.int .i64 0,.aa] [(0,1,(tq 44))]),gn (.store 2 (tq 4) (tq 45))]
 (.ret))
 (.skip)))
 (sr [mv 46 6,ge 47 (.bj .i64 (tq 46)),ge 48 (.build [.int .i64 0,.aa] [(0,1,(tq 47))]),gn (.store 2 (tq 4) (tq 48))]
 (.ret)))
 (.skip))))
 (.skip)))
 A.nw)
def A.c148:A.F 148=some ⟨66,[.cell 4 (some 2)],A.b148⟩:=by kernel_rfl
def A.k148:=@A.kk 148 _ _ _ A.c148 rfl
def A.b195:av:=sr [bx 2 101 0,bx 3 101 1,mc 4 0]
 (.seq (sr [fa 5 1 2,ld 6 5,ge 7 (.bin .eql (.aM .slice) true (tq 6) (.const .aa)),mv 8 7,gy 9 8 (.eI 1 (tq 3)),gy 10 8 (.load none (tq 9)),gy 11 8 (.bin .eql (.aM .slice) true (tq 10) (.const .aa)),pf 12 8 11]
 (cd 12
 (.seq (.block 0 (sr [fa 14 0 2,ld 15 14,fa 16 0 3,ld 17 16,bi 18 .lss 15 17,mv 13 18]
 (cd 13
 (sr [ge 4 (.ba (.const (.int .i64 (-1))))]
 (.ret))
 (sr [fa 20 0 2,ld 21 20,fa 22 0 3,ld 23 22,bi 24 .gtr 21 23,mv 19 24]
 (cd 19
 (sr [mc 4 1]
 (.ret))
 (.skip))))))
 (sr [mc 4 0]
 (.ret)))
 (.skip)))
 (sr [lN 25 2 2,lN 26 2 3,c2 27 238 25 26,c1 28 167 27,mv 4 28]
 (.ret)))
def A.c195:A.F 195=some ⟨29,[.tmp 4],A.b195⟩:=by kernel_rfl
def A.k195:=@A.kk 195 _ _ _ A.c195 rfl
structure GW (h:T O) (N q:Nat) (z:Int) (st:St):Prop where
 w:ax N st.w=[]
 ae:ab h N st.h st.n
 ex:∃n u,st.h.get q=some (.cells [.int .i64 n,u] 101 true)/\In st.h st.n (.agg [.int .i64 n,u]) z
def Zwv(a b:Int):(a*b<0)↔((a<0)≠(b<0))/\a≠0/\b≠0:=by
 rcases Int.lt_trichotomy a 0 with ha|ha|ha<;>rcases Int.lt_trichotomy b 0 with hb|hb|hb
 ·have:=Int.mul_pos_of_neg_of_neg ha hb
  simp[ha,hb];omega
 ·subst hb;simp
 ·have:=Int.mul_neg_of_neg_of_pos ha hb
  have h1:¬b<0:=by omega
  simp[ha,h1,this];omega
 ·subst ha;simp
 ·subst ha;simp
 ·subst ha;simp
 ·have:=Int.mul_neg_of_pos_of_neg ha hb
  have h1:¬a<0:=by omega
  simp[hb,h1,this];omega
 ·subst hb;simp
 ·have:=Int.mul_pos ha hb
  have h1:¬a<0:=by omega
  have h2:¬b<0:=by omega
  simp[h1,h2];omega
def Xp{n k:Nat}(h:n<B^k):(aJ n).length<=k:=by
 apply yp
 intro hc
 obtain⟨j,hj⟩:∃j,(aJ n).length=j+1:=⟨(aJ n).length-1,by omega⟩
 have:=(GL hj).1
 have:=sK (show 0<B by decide) (show k<=j by omega)
 omega
def QK(n:Nat):n<B^(aJ n).length:=by
 have:=En (qH n)
 rwa [mH]at this
def Xi(a b:Int):wl (a+b)<=max (wl a) (wl b)+1:=by
 unfold wl
 apply Xp
 have h1:=QK a.natAbs
 have h2:=QK b.natAbs
 have h3:=sK (show 0<B by decide) (BR (aJ a.natAbs).length (aJ b.natAbs).length)
 have h4:=sK (show 0<B by decide) (BO (aJ a.natAbs).length (aJ b.natAbs).length)
 have h5:(a+b).natAbs<=a.natAbs+b.natAbs:=Int.natAbs_add_le a b
 rw[gE]
 generalize B^max (aJ a.natAbs).length (aJ b.natAbs).length=p at*
 have:p*2<=p*B:=kg p (by decide)
 omega
def My(a:Int):wl (-a)=wl a:=by unfold wl;rw[yS]
def Hk(a b:Int):wl (a*b)<=wl a+wl b:=by
 unfold wl
 apply Xp
 rw[wK,kQ]
 have h1:=QK a.natAbs
 have h2:=QK b.natAbs
 exact BQ h1 h2
def GV(h:a.natAbs<=b.natAbs):wl a<=wl b:=Eo h
def Yjr{H:T O}{n1 n2:Int}{u1 u2:V}{r0:T V}(hx:In H (N+3) (.agg [.int .i64 n1,u1]) a)(hy:In H (N+3) (.agg [.int .i64 n2,u2]) b)(la:wl a<500000000000)(lb:wl b<500000000000)(hK:ab h N H (N+3))
  (gx:H.get N=some (.cells [.int .i64 n1,u1] 101 true)) (gy:H.get (N+1)=some (.cells [.int .i64 n2,u2] 101 true)) (gz:H.get (N+2)=some (.cells [.int .i64 0,.aa] 101 true)) (r2:r0.get 2=some (.ptr N 0)) (r3:r0.get 3=some (.ptr (N+1) 0)) (r4:r0.get 4=some (.ptr (N+2) 0)):
  Code A.C none A.nv ⟨r0,67,[]⟩ ⟨H,N+3,[]⟩ (fun e fr st=>e=.ret/\∃r,fr=⟨r,67,[]⟩/\r.get 4=some (.ptr (N+2) 0)/\GW h N (N+2) (a+b) st):=by
 rw[bq]
 simp[A.nv,r2,gx,aS,aE]
 refine aA (CJ hx) ?_
 rintro _ h1 N1 k1 ⟨ua,rfl,Md⟩
 have fl:=k1.le
 have Me:=(k1.get (N+1) (by omega)).trans gy
 have Yj:=(k1.get (N+2) (by omega)).trans gz
 simp[r3,Me,aS,aE]
 refine aA (CJ (hy.ae k1)) ?_
 rintro _ h2 N2 k2 ⟨ub,rfl,GX⟩
 have gX:=k2.le
 have Yk:=(k2.get (N+2) (by omega)).trans Yj
 have vz:=Md.ae k2
 have Ez:(aJ a.natAbs).length<500000000000:=la
 have P0:(aJ b.natAbs).length<500000000000:=lb
 have kA:=(hK.trans k1).trans k2
 have Nk:=Xi a b
 have fin:∀(z:Int) (v:V) (h4:T O) (n4:Nat),ab h2 N2 h4 n4->In h4 n4 v z->z=a+b->∃(n5:Int) (u5:V),v=.agg [.int .i64 n5,u5]/\V.one u5=true/\h4.get (N+2)=some (.cells [.int .i64 0,.aa] 101 true)/\∀W,ax N W=[]->GW h N (N+2) (a+b) ⟨h4.set (N+2) (.cells [.int .i64 n5,u5] 101 true),n4,W⟩:=by
  intro z v h4 n4 k4 hv hz
  obtain⟨n5,u5,rfl,jl⟩:=hv.cells
  have An:=(k4.get (N+2) (by omega)).trans Yk
  have tm:=k4.le
  subst hz
  exact⟨n5,u5,rfl,jl,An,fun W hW=>⟨hW,(kA.trans k4).set (by omega),n5,u5,by simp,hv.aK An (by simp) rfl⟩⟩
 by_cases hs:(a<0)=(b<0)
 ·have iY:(decide (a<0)==decide (b<0))=true:=by simp[hs]
  simp[aI,iY]
  refine aA (Zv0 vz GX (by omega) (by omega)) ?_
  rintro v h3 N3 k3 hv
  have Ab:a.natAbs+b.natAbs=(a+b).natAbs:=by
   by_cases h:a<0
   ·have:b<0:=by rw[hs]at h;exact h
    omega
   ·have:¬b<0:=by rw[hs]at h;exact h
    omega
  rw[Ab]at hv
  simp[]
  refine aA (Eu hv (by unfold wl at Nk la lb;omega)) ?_
  rintro v h4 N4 k4 hv
  obtain⟨n5,u5,rfl,jl,An,hf⟩:=fin _ _ _ _ (k3.trans k4) hv (by
   by_cases h:a<0
   ·have:b<0:=by rw[hs]at h;exact h
    simp[h];omega
   ·have:¬b<0:=by rw[hs]at h;exact h
    simp[h];omega)
  unfold V.one at jl
  simp[An,jl,ad,bO,r4]
  exact hf _ (by simp[ax])
 ·have iY:(decide (a<0)==decide (b<0))=false:=by
   by_cases h:a<0<;>by_cases h':b<0<;>simp_all
  simp[aI,iY]
  refine aA (Zhz vz GX (by omega) (by omega)) ?_
  rintro _ h3 N3 k3 rfl
  have Nl:=vz.ae k3
  have Nm:=GX.ae k3
  by_cases hc:b.natAbs<=a.natAbs
  ·have c1:(0:Int)<=vk a.natAbs b.natAbs:=by unfold vk;split<;>(try split)<;>omega
   simp[c1]
   refine aA (Znd Nl Nm hc (by omega) (by omega)) ?_
   rintro v h5 N5 k5 hv
   simp[]
   refine aA (Eu hv (by have:=Eo (show a.natAbs-b.natAbs<=a.natAbs by omega);omega)) ?_
   rintro v h4 N4 k4 hv
   obtain⟨n5,u5,rfl,jl,An,hf⟩:=fin _ _ _ _ ((k3.trans k5).trans k4) hv (by
    by_cases h:a<0
    ·have:¬b<0:=by intro h2;apply hs;simp[h,h2]
     simp[h];omega
    ·have:b<0:=by apply Decidable.byContradiction;intro h2;apply hs;simp[h,h2]
     simp[h];omega)
   unfold V.one at jl
   simp[An,jl,ad,bO,r4]
   exact hf _ (by simp[ax])
  ·have c1:¬(0:Int)<=vk a.natAbs b.natAbs:=by unfold vk;split<;>(try split)<;>omega
   simp[c1]
   refine aA (Znd Nm Nl (by omega) (by omega) (by omega)) ?_
   rintro v h5 N5 k5 hv
   simp[]
   refine aA (Eu hv (by have:=Eo (show b.natAbs-a.natAbs<=b.natAbs by omega);omega)) ?_
   rintro v h4 N4 k4 hv
   obtain⟨n5,u5,rfl,jl,An,hf⟩:=fin _ _ _ _ ((k3.trans k5).trans k4) hv (by
    by_cases h:b<0
    ·have:¬a<0:=by intro h2;apply hs;simp[h,h2]
     simp[h];omega
    ·have:a<0:=by apply Decidable.byContradiction;intro h2;apply hs;simp[h,h2]
     simp[h];omega)
   unfold V.one at jl
   simp[An,jl,ad,bO,r4]
   exact hf _ (by simp[ax])
def Mi(hx:In h N x a)(hy:In h N y b)(la:wl a<500000000000)(lb:wl b<500000000000):Fn A.C 146 [x,y] h N (fun v h' n'=>In h' n' v (a+b)):=by
 intro w
 rw[aO,A.k146 (by simp)]
 obtain⟨n1,u1,rfl,o1⟩:=hx.cells
 obtain⟨n2,u2,rfl,o2⟩:=hy.cells
 have kk:=aP (aP (aP (ab.refl (h:=h) (n:=N)) (.cells [.int .i64 n1,u1] 101 true)) (.cells [.int .i64 n2,u2] 101 true)) (.cells [.int .i64 0,.aa] 101 true)
 unfold V.one at o1 o2
 have go:∀r:T V,r.get 2=some (.ptr N 0)->r.get 3=some (.ptr (N+1) 0)->r.get 4=some (.ptr (N+2) 0)->bH A.C [.fin [.cell 4 (some 2)] ⟨h,N,w⟩] (eH (A.C.code none A.nv ⟨r,67,[]⟩ ⟨((h.set N (.cells [.int .i64 n1,u1] 101 true)).set (N+1) (.cells [.int .i64 n2,u2] 101 true)).set (N+1+1) (.cells [.int .i64 0,.aa] 101 true),N+1+1+1,[]⟩)) (Ci (az (fun v h' n'=>In h' n' v (a+b)) h N w)):=by
  intro r r2 r3 r4
  refine jZ (Yjr (hx.ae kk) (hy.ae kk) la lb kk (by simp) (by simp) (by simp) r2 r3 r4) ?_
  rintro e fr ⟨h5,n5,w5⟩ ⟨rfl,r',rfl,Ji,hW,hK,n6,u6,g6,hi⟩
  simp only at hW hK g6 hi
  simp[Ji,g6,aS,aE,az,hW]
  exact⟨hK,hi⟩
 rcases id hx with⟨e1,s1,s2⟩|⟨i,o,l,c,e1,_⟩
 ·simp only[V.agg.injEq,iO,V.int.injEq,true_and,and_true]at e1
  obtain⟨rfl,rfl⟩:=e1
  rcases id hy with⟨e2,t1,t2⟩|⟨i,o,l,c,e2,_⟩
  ·simp only[V.agg.injEq,iO,V.int.injEq,true_and,and_true]at e2
   obtain⟨rfl,rfl⟩:=e2
   have kr:=fun (o1 o2:O)=>(kk.set (i:=N+1+1) (o:=o1) (by omega))
   by_cases Dp: -9223372036854775808<=n1+n2/\n1+n2<9223372036854775808
   ·have w1:bu .i64 (n1+n2)=n1+n2:=cF (by omega) (by omega)
    by_cases hp:0<n2
    ·have c1:n1<n1+n2:=by omega
     simp[A.b146,aS,aE,ad,aI,w1,hp,c1,az]
     exact⟨kk.set (by omega),In.small (by omega) (by omega)⟩
    ·have c1:¬n1<n1+n2:=by omega
     simp[A.b146,aS,aE,ad,aI,w1,hp,c1,az]
     exact⟨kk.set (by omega),In.small (by omega) (by omega)⟩
   ·obtain⟨y,rZ⟩:∃y,bu .i64 (n1+n2)=y:=⟨_,rfl⟩
    have wY:y=n1+n2-18446744073709551616/\0<n2\/y=n1+n2+18446744073709551616/\¬0<n2:=by
     rw[<-rZ,zq]
     simp only[IntKind.wrap,IntKind.bits,IntKind.signed]
     simp
     omega
    by_cases hp:0<n2
    ·have c1:¬n1<y:=by omega
     simp[A.b146,aS,aI,rZ,hp,c1]
     exact go _ (by simp) (by simp) (by simp)
    ·have c1:n1<y:=by omega
     simp[A.b146,aS,aI,rZ,hp,c1]
     exact go _ (by simp) (by simp) (by simp)
  ·simp only[V.agg.injEq,iO,V.int.injEq,true_and,and_true]at e2
   obtain⟨rfl,rfl⟩:=e2
   simp[A.b146,aS,aI]
   exact go _ (by simp) (by simp) (by simp)
 ·simp only[V.agg.injEq,iO,V.int.injEq,true_and,and_true]at e1
  obtain⟨rfl,rfl⟩:=e1
  simp[A.b146,aS,aI,o2]
  exact go _ (by simp) (by simp) (by simp)
def Yj1(hx:In h N x a)(hy:In h N y b)(la:wl a<500000000000)(lb:wl b<500000000000):Fn A.C 238 [x,y] h N (fun v h' n'=>In h' n' v (a-b)):=by
 intro w
 rw[aO,A.k238 (by simp)]
 obtain⟨n1,u1,rfl,o1⟩:=hx.cells
 obtain⟨n2,u2,rfl,o2⟩:=hy.cells
 have kk:=aP (aP (aP (ab.refl (h:=h) (n:=N)) (.cells [.int .i64 n1,u1] 101 true)) (.cells [.int .i64 n2,u2] 101 true)) (.cells [.int .i64 0,.aa] 101 true)
 have KZ:=Je (hy.ae kk) lb
 have lI:=hx.ae kk
 unfold V.one at o1 o2
 simp[A.b238,aS,aE,o1,o2]
 refine aA KZ ?_
 rintro v h1 xm k1 hv
 simp[]
 refine aA (Mi (lI.ae k1) hv la (by rw[My];exact lb)) ?_
 rintro v2 h2 ph k2 jt
 obtain⟨n5,u5,rfl,jl⟩:=jt.cells
 unfold V.one at jl
 have k12:=k1.trans k2
 have vt:=k12.le
 have g2:=k12.get (N+1+1) (by omega)
 simp at g2
 have ay:N+1+1<ph:=by omega
 have cW:N+1+1<xm:=by have:=k1.le;omega
 simp[g2,jl,ad,bO,ay,cW,cA.cB,az]
 have he:a+ -b=a-b:=by omega
 rw[he]at jt
 exact⟨(kk.trans k12).set (by omega),jt.aK g2 (by simp) rfl⟩
def Yhs{H:T O}{n1 n2:Int}{u1 u2:V}{r0:T V}(hx:In H (N+3) (.agg [.int .i64 n1,u1]) a)(hy:In H (N+3) (.agg [.int .i64 n2,u2]) b)(la:wl a<500000000000)(lb:wl b<500000000000)(hK:ab h N H (N+3))
  (gx:H.get N=some (.cells [.int .i64 n1,u1] 101 true)) (gy:H.get (N+1)=some (.cells [.int .i64 n2,u2] 101 true)) (gz:H.get (N+2)=some (.cells [.int .i64 0,.aa] 101 true)) (r2:r0.get 2=some (.ptr N 0)) (r3:r0.get 3=some (.ptr (N+1) 0)) (r4:r0.get 4=some (.ptr (N+2) 0)):
  Code A.C none A.nw ⟨r0,66,[]⟩ ⟨H,N+3,[]⟩ (fun e fr st=>e=.ret/\∃r,fr=⟨r,66,[]⟩/\r.get 4=some (.ptr (N+2) 0)/\GW h N (N+2) (a*b) st):=by
 rw[bq]
 simp[A.nw,r2,gx,aS,aE]
 refine aA (CJ hx) ?_
 rintro _ h1 N1 k1 ⟨ua,rfl,Md⟩
 have fl:=k1.le
 have Me:=(k1.get (N+1) (by omega)).trans gy
 have Yj:=(k1.get (N+2) (by omega)).trans gz
 simp[r3,Me,aS,aE]
 refine aA (CJ (hy.ae k1)) ?_
 rintro _ h2 N2 k2 ⟨ub,rfl,GX⟩
 have gX:=k2.le
 have Yk:=(k2.get (N+2) (by omega)).trans Yj
 have vz:=Md.ae k2
 have Ez:(aJ a.natAbs).length<500000000000:=la
 have P0:(aJ b.natAbs).length<500000000000:=lb
 have kA:=(hK.trans k1).trans k2
 have Nk:=Hk a b
 simp[aI]
 refine aA (Zu0 vz GX (by omega) (by omega)) ?_
 rintro v h3 N3 k3 hv
 have hmul:a.natAbs*b.natAbs=(a*b).natAbs:=(wK a b).symm
 rw[hmul]at hv
 simp[]
 refine aA (Eu hv (by unfold wl at Nk la lb;omega)) ?_
 rintro v h4 N4 k4 hv
 obtain⟨n5,u5,rfl,jl⟩:=hv.cells
 have An:=((k3.trans k4).get (N+2) (by omega)).trans Yk
 have tm:=(k3.trans k4).le
 unfold V.one at jl
 have hs:=Zwv a b
 have he:(if (!decide (a<0)==decide (b<0))=true then -((a*b).natAbs:Int) else (a*b).natAbs)=a*b:=by
  have h0:a=0\/b=0->a*b=0:=by rintro(rfl|rfl)<;>simp
  by_cases h1:a<0<;>by_cases h2:b<0<;>simp[h1,h2]at hs ⊢<;>omega
 rw[he]at hv
 simp[An,jl,ad,bO,r4]
 exact⟨by simp[ax],((kA.trans k3).trans k4).set (by omega),n5,u5,by simp,hv.aK An (by simp) rfl⟩
def CS(hx:In h N x a)(hy:In h N y b)(la:wl a<500000000000)(lb:wl b<500000000000):Fn A.C 148 [x,y] h N (fun v h' n'=>In h' n' v (a*b)):=by
 intro w
 rw[aO,A.k148 (by simp)]
 obtain⟨n1,u1,rfl,o1⟩:=hx.cells
 obtain⟨n2,u2,rfl,o2⟩:=hy.cells
 have kk:=aP (aP (aP (ab.refl (h:=h) (n:=N)) (.cells [.int .i64 n1,u1] 101 true)) (.cells [.int .i64 n2,u2] 101 true)) (.cells [.int .i64 0,.aa] 101 true)
 unfold V.one at o1 o2
 have go:∀r:T V,r.get 2=some (.ptr N 0)->r.get 3=some (.ptr (N+1) 0)->r.get 4=some (.ptr (N+2) 0)->bH A.C [.fin [.cell 4 (some 2)] ⟨h,N,w⟩] (eH (A.C.code none A.nw ⟨r,66,[]⟩ ⟨((h.set N (.cells [.int .i64 n1,u1] 101 true)).set (N+1) (.cells [.int .i64 n2,u2] 101 true)).set (N+1+1) (.cells [.int .i64 0,.aa] 101 true),N+1+1+1,[]⟩)) (Ci (az (fun v h' n'=>In h' n' v (a*b)) h N w)):=by
  intro r r2 r3 r4
  refine jZ (Yhs (hx.ae kk) (hy.ae kk) la lb kk (by simp) (by simp) (by simp) r2 r3 r4) ?_
  rintro e fr ⟨h5,n5,w5⟩ ⟨rfl,r',rfl,Ji,hW,hK,n6,u6,g6,hi⟩
  simp only at hW hK g6 hi
  simp[Ji,g6,aS,aE,az,hW]
  exact⟨hK,hi⟩
 rcases id hx with⟨e1,s1,s2⟩|⟨i,o,l,c,e1,_⟩
 ·simp only[V.agg.injEq,iO,V.int.injEq,true_and,and_true]at e1
  obtain⟨rfl,rfl⟩:=e1
  rcases id hy with⟨e2,t1,t2⟩|⟨i,o,l,c,e2,_⟩
  ·simp only[V.agg.injEq,iO,V.int.injEq,true_and,and_true]at e2
   obtain⟨rfl,rfl⟩:=e2
   have z1:=fun st=>V8 s1 s2 (st:=st)
   have z2:=fun st=>V8 t1 t2 (st:=st)
   have hm:n1.natAbs*n2.natAbs=(n1*n2).natAbs:=(wK _ _).symm
   have fL:bG (n1.natAbs*n2.natAbs)+18446744073709551616*cn (n1.natAbs*n2.natAbs)=(n1*n2).natAbs:=by
    rw[<-hm]
    have:=tP (n1.natAbs*n2.natAbs) 18446744073709551616
    unfold bG cn;omega
   have Nn:=Zwv n1 n2
   obtain⟨hi,gH⟩:∃x,cn (n1.natAbs*n2.natAbs)=x:=⟨_,rfl⟩
   obtain⟨lo,zU⟩:∃x,bG (n1.natAbs*n2.natAbs)=x:=⟨_,rfl⟩
   rw[gH,zU]at fL
   have hz:n1=0\/n2=0->n1*n2=0:=by rintro(rfl|rfl)<;>simp
   simp[A.b148,aS,aI,z1,z2]
   refine aA (LD (x:=n1.natAbs) (y:=n2.natAbs) (by omega) (by omega)) ?_
   rintro _ h' N' k ⟨rfl,rfl,rfl⟩
   rw[gH,zU]
   have d1:¬N=N+1:=by omega
   by_cases h0:hi=0
   ·by_cases h1:lo<=9223372036854775807
    ·have fH:(lo:Int)<=9223372036854775807:=by omega
     have w1:bu .i64 (lo:Int)=lo:=cF (by omega) (by omega)
     have w2:IntKind.wrap .i64 (-(lo:Int))= -(lo:Int):=Kl (by omega) (by omega)
     by_cases hs:(n1<0)=(n2<0)
     ·have iY:(decide (n1<0)==decide (n2<0))=true:=by simp[hs]
      have hp:¬n1*n2<0:=by rw[Nn];rintro⟨p,_⟩;exact p hs
      have he:(lo:Int)=n1*n2:=by omega
      simp[aS,aE,ad,aI,h0,fH,iY,w1,az,cA.cB]
      exact⟨kk.set (by omega),by rw[<-he];exact In.small (by omega) (by omega)⟩
     ·have iY:(decide (n1<0)==decide (n2<0))=false:=by
       by_cases h:n1<0<;>by_cases h':n2<0<;>simp_all
      have he: -(lo:Int)=n1*n2:=by
       by_cases hq:n1=0\/n2=0
       ·have:=hz hq;omega
       ·have:n1*n2<0:=Nn.2 ⟨hs,fun h=>hq (.inl h),fun h=>hq (.inr h)⟩
        omega
      simp[aS,aE,ad,aI,h0,fH,iY,w1,w2,az,cA.cB]
      exact⟨kk.set (by omega),by rw[<-he];exact In.small (by omega) (by omega)⟩
    ·have fH:¬(lo:Int)<=9223372036854775807:=by omega
     simp[h0,fH,cA.cB]
     exact go _ (by simp) (by simp) (by simp)
   ·simp[h0,cA.cB]
    exact go _ (by simp) (by simp) (by simp)
  ·simp only[V.agg.injEq,iO,V.int.injEq,true_and,and_true]at e2
   obtain⟨rfl,rfl⟩:=e2
   simp[A.b148,aS,aI]
   exact go _ (by simp) (by simp) (by simp)
 ·simp only[V.agg.injEq,iO,V.int.injEq,true_and,and_true]at e1
  obtain⟨rfl,rfl⟩:=e1
  simp[A.b148,aS,aI,o2]
  exact go _ (by simp) (by simp) (by simp)
def Yrr(hx:In h N x a)(hy:In h N y b)(la:wl a<100000000000)(lb:wl b<100000000000):Fn A.C 195 [x,y] h N (fun v _ _=>v=.int .i64 (dW (a-b))):=by
 intro w
 rw[aO,A.k195 (by simp)]
 obtain⟨n1,u1,rfl,o1⟩:=hx.cells
 obtain⟨n2,u2,rfl,o2⟩:=hy.cells
 have kk:=aP (aP (ab.refl (h:=h) (n:=N)) (.cells [.int .i64 n1,u1] 101 true)) (.cells [.int .i64 n2,u2] 101 true)
 have yK:=Yj1 (hx.ae kk) (hy.ae kk) (by omega) (by omega)
 have Nk:=Xi a (-b)
 rw[My]at Nk
 unfold V.one at o1 o2
 rcases id hx with⟨e1,s1,s2⟩|⟨i,o,l,c,e1,_⟩
 ·simp only[V.agg.injEq,iO,V.int.injEq,true_and,and_true]at e1
  obtain⟨rfl,rfl⟩:=e1
  rcases id hy with⟨e2,t1,t2⟩|⟨i,o,l,c,e2,_⟩
  ·simp only[V.agg.injEq,iO,V.int.injEq,true_and,and_true]at e2
   obtain⟨rfl,rfl⟩:=e2
   by_cases h1:n1<n2
   ·simp[A.b195,aS,az,aI,h1]
    exact⟨kk,by unfold dW;rw[aF (by omega)]⟩
   ·by_cases h2:n2<n1
    ·simp[A.b195,aS,az,aI,h1,h2]
     exact⟨kk,by unfold dW;rw[ar (by omega),ar (by omega)]⟩
    ·simp[A.b195,aS,az,aI,h1,h2]
     exact⟨kk,by unfold dW;rw[ar (by omega),aF (by omega)]⟩
  ·simp only[V.agg.injEq,iO,V.int.injEq,true_and,and_true]at e2
   obtain⟨rfl,rfl⟩:=e2
   simp[A.b195,aS,aE,aI]
   refine aA yK ?_
   rintro v h1 xm k1 hv
   simp[]
   refine aA (GQ hv) ?_
   rintro _ h2 ph k2 rfl
   simp[az]
   exact(kk.trans k1).trans k2
 ·simp only[V.agg.injEq,iO,V.int.injEq,true_and,and_true]at e1
  obtain⟨rfl,rfl⟩:=e1
  simp[A.b195,aS,aE,aI,o2]
  refine aA yK ?_
  rintro v h1 xm k1 hv
  simp[]
  refine aA (GQ hv) ?_
  rintro _ h2 ph k2 rfl
  simp[az]
  exact(kk.trans k1).trans k2
def Yk5(hx:In h N x a)(la:wl a<500000000000):Fn A.C 236 [x] h N (fun v h' n'=>In h' n' v (a.natAbs:Int)):=by
 intro w
 rw[aO,A.k236 (by simp)]
 obtain⟨n1,u1,rfl,o1⟩:=hx.cells
 have kk:=aP (aP (ab.refl (h:=h) (n:=N)) (.cells [.int .i64 n1,u1] 101 true)) (.cells [.int .i64 0,.aa] 101 true)
 have KZ:=Je (hx.ae kk) la
 have M7:(n1<0)=(a<0):=by
  rcases hx with⟨e1,s1,s2⟩|⟨i,o,l,c,e1,_⟩
  ·simp only[V.agg.injEq,iO,V.int.injEq,true_and,and_true]at e1
   rw[e1.1]
  ·simp only[V.agg.injEq,iO,V.int.injEq,true_and,and_true]at e1
   rw[e1.1];unfold xV;split<;>simp_all
 unfold V.one at o1
 by_cases h0:a<0
 ·have h1:n1<0:=by rw[M7];exact h0
  simp[A.b236,aS,aE,o1,h1]
  refine aA KZ ?_
  rintro v h2 n2 k2 hv
  obtain⟨n5,u5,rfl,jl⟩:=hv.cells
  unfold V.one at jl
  have vt:=k2.le
  have g2:=k2.get (N+1) (by omega)
  simp at g2
  have he:(-a)=(a.natAbs:Int):=by omega
  rw[he]at hv
  simp[g2,jl,ad,bO,aS,aE,az]
  exact⟨(kk.trans k2).set (by omega),hv.aK g2 (by simp) rfl⟩
 ·have h1:¬n1<0:=by rw[M7];exact h0
  have he:a=(a.natAbs:Int):=by omega
  rw[he]at hx
  simp[A.b236,aS,aE,ad,bO,o1,h1,az]
  exact⟨kk.set (by omega),(hx.ae kk).aK (i:=N+1) (c0:=[.int .i64 0,.aa]) (e0:=101) (w0:=true) (by simp) (by simp) rfl⟩
end Go.Mx
