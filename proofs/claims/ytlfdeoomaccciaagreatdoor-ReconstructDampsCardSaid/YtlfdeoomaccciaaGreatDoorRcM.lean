/-lensletref01-/
import Derived.Test.YtlfdeoomaccciaaGreatDoorNaD
set_option linter.all false
namespace Go.Mx
noncomputable section
open Go Go.Proofs
set_option maxRecDepth 1000000
def A.b50:=A.q Tryz.f50
def A.k50:=@A.kk 50 13 [.tmp 2] A.b50 (by kernel_rfl) rfl
def A.b216:=A.q Tryz.f216
def A.k216:=@A.kk 216 14 [.tmp 2] A.b216 (by kernel_rfl) rfl
def A.b214:=A.q Tryz.f214
def A.k214:=@A.kk 214 13 [.tmp 2] A.b214 (by kernel_rfl) rfl
def A.b217:=A.q Tryz.f217
def A.k217:=@A.kk 217 14 [.tmp 2] A.b217 (by kernel_rfl) rfl
def A.b247:=A.q Tryz.f247
def A.k247:=@A.kk 247 7 [.tmp 2] A.b247 (by kernel_rfl) rfl
def A.b248:=A.q Tryz.f248
def A.k248:=@A.kk 248 14 [.tmp 2] A.b248 (by kernel_rfl) rfl
def A.b246:=A.q Tryz.f246
def A.k246:=@A.kk 246 9 [.tmp 2] A.b246 (by kernel_rfl) rfl
def A.b212:=A.q Tryz.f212
def A.k212:=@A.kk 212 5 [.tmp 2] A.b212 (by kernel_rfl) rfl
def Zu:aR 0=[48]:=by decide+kernel
def Ybo{q:Rat}:aR q=[48]↔q=0:=⟨fun h=>Ygh (h.trans Zu.symm),fun h=>by rw[h,Zu]⟩
def Zte{q:Rat}{st:St}:A.C.call (.func 212 [] []) [.str (aR q)] st=some (.bool (decide (q=0)),st):=by
 have e:(aR q==[48])=decide (q=0):=by rw[Bool.eq_iff_iff,beq_iff_eq,decide_eq_true_eq];exact Ybo
 apply Call.eq
 rw[aN,A.k212 (by simp)]
 simp[A.b212,aE,g_,e]
def zL{q:Rat}:q.num=0↔q=0:=Rat.num_eq_zero
def Yl2(q:Rat):0<(aR q).length:=by
 obtain⟨c,t,h,_⟩:=Zwk q
 rw[BX,h]
 split<;>simp
def Ygg(q:Rat):∃c,(aR q)[0]?=some c/\(aR q).head?=some c/\(cI c=45↔q.num<0):=by
 obtain⟨c,t,h,h1⟩:=Zwk q
 by_cases hz:q.num<0
 ·refine⟨45,?_,?_,?_⟩
  ·rw[BX,ay hz];rfl
  ·rw[BX,ay hz];rfl
  ·exact⟨fun _=>hz,fun _=>rfl⟩
 ·refine⟨c,?_,?_,?_⟩
  ·rw[BX,ak hz,h];rfl
  ·rw[BX,ak hz,h];rfl
  ·exact⟨fun h2=>by unfold cI at h2;omega,fun h2=>absurd h2 hz⟩
def Sq{q:Rat}{st:St}:A.C.call (.func 50 [] []) [.str (aR q)] st=some (.int .i64 (dX q.num),st):=by
 have e:(aR q==[48])=decide (q=0):=by rw[Bool.eq_iff_iff,beq_iff_eq,decide_eq_true_eq];exact Ybo
 obtain⟨c,h1,h2,h3⟩:=Ygg q
 have hp:=Yl2 q
 have Cd:(0:Int)<((aR q).length:Int):=by omega
 have aW:aR q≠[]:=fun hc=>by rw[hc]at hp;simp at hp
 apply Call.eq
 rw[aN,A.k50 (by simp)]
 by_cases h0:q=0
 ·have hn:q.num=0:=zL.2 h0
  have hs:dX q.num=0:=by rw[hn];rfl
  have e0:(aR q==[48])=true:=by rw[e];simp[h0]
  rw[hs]
  simp(disch:=first|(simp;done)|omega|rfl) [-getElem?_pos,A.b50,aE,g_,e0]
 ·have hn:q.num≠0:=fun hc=>h0 (zL.1 hc)
  by_cases hz:q.num<0
  ·have hs:dX q.num= -1:=by unfold dX;rw[ay hz]
   have hc:=h3.2 hz
   rw[hs]
   simp(disch:=first|(simp;done)|omega|rfl) [-getElem?_pos,A.b50,aE,g_,e,h0,hp,Cd,aW,h1,h2,hc]
  ·have hs:dX q.num=1:=by unfold dX;rw[ak hz,ak hn]
   have hc:¬cI c=45:=fun hc=>hz (h3.1 hc)
   rw[hs]
   simp(disch:=first|(simp;done)|omega|rfl) [-getElem?_pos,A.b50,aE,g_,e,h0,hp,Cd,aW,h1,h2,hc]
def Yst(q:Rat):QB (-q)=QB q:=by
 unfold QB
 rw[Rat.neg_den,Rat.neg_num,Bc]
def Ynh{q:Rat}{st:St}(hl:(aR q).length<1000000000):A.C.call (.func 216 [] []) [.str (aR q)] st=some (.str (aR (-q)),st):=by
 have hs:=fun st=>Sq (q:=q) (st:=st)
 have df:IntKind.max .i64=9223372036854775807:=rfl
 apply Call.eq
 rw[aN,A.k216 (by simp)]
 have ff:=BX (-q)
 rw[Yst,Rat.neg_num]at ff
 by_cases hz:q.num<0
 ·have e1:aR q=45::QB q:=by rw[BX,ay hz]
  have e2:aR (-q)=QB q:=by rw[ff,ak (by omega)]
  have e3:dX q.num= -1:=by unfold dX;rw[ay hz]
  rw[e1,e3]at hs
  have a3:∀st:St,tV st (some (.str (45::QB q))) (some (some (.int .i64 1))) (some none)=some (.str (QB q),st):=fun st=>by rw[Ht (by omega) (by simp only[bp];omega)];rfl
  rw[e1,e2]
  simp[A.b216,hs,aC,a3]
 ·by_cases h0:q=0
  ·have e3:dX q.num=0:=by rw[zL.2 h0];rfl
   rw[e3]at hs
   have e4: -q=q:=by rw[h0];rfl
   rw[e4]
   simp[A.b216,hs,aE]
  ·have hn:q.num≠0:=fun hc=>h0 (zL.1 hc)
   have e1:aR q=QB q:=by rw[BX,ak hz]
   have e2:aR (-q)=45::QB q:=by rw[ff,ay (by omega)]
   have e3:dX q.num=1:=by unfold dX;rw[ak hz,ak hn]
   rw[e3]at hs
   rw[e1]at hs hl
   have hb:¬(9223372036854775807:Int)<1+((QB q).length:Int):=by omega
   rw[e2,e1]
   simp[A.b216,hs,aE,g_,df,hb]
def Zlm(q:Rat):q⁻¹=Rat.divInt (q.den:Int) q.num:=Rat.inv_def q
def Ymy{q:Rat}{k:Nat}{h:T O}{N:Nat}(hq:Qb k q)(hk:k<=400000000)(h0:q≠0):Fn A.C 214 [.str (aR q)] h N (fun u _ _=>u=.str (aR q⁻¹)):=by
 intro w
 have la:=Hi hq.1
 have RM:=EL hq.2
 have z1:=uH hq.1
 have z2:=uH hq.2
 have hn:q.num≠0:=fun hc=>h0 (zL.1 hc)
 rw[aN,A.k214 (by simp)]
 simp[A.b214]
 refine aB (OH (q:=q) (by omega) (by omega)) ?_
 rintro _ h1 t1 k1 ⟨x1,y1,rfl,X1,Y1⟩
 obtain⟨u1,rfl,p1,p2,F1⟩:=X1.pN
 obtain⟨v1,rfl,p3,p4,G1⟩:=Y1.pN
 unfold V.one at p1 p3
 unfold V.cells at p2 p4
 have KA:=((((ab.refl (h:=h1) (n:=t1)).new (.cells [.bool false,.aa] 146 true)).new (.cells [.bool false,.aa] 146 true)).set (i:=t1) (o:=.cells [.bool (decide (q.num<0)),u1] 146 true) (aQ _)).set (i:=t1+1) (o:=.cells [.bool (decide ((q.den:Int)<0)),v1] 146 true) (by omega)
 have c0:¬t1+1=t1:=by omega
 have c00:¬t1=t1+1:=by omega
 have i1:=k1.le
 generalize AT:(((h1.set t1 (.cells [.bool false,.aa] 146 true)).set (t1+1) (.cells [.bool false,.aa] 146 true)).set t1 (.cells [.bool (decide (q.num<0)),u1] 146 true)).set (t1+1) (.cells [.bool (decide ((q.den:Int)<0)),v1] 146 true)=HA at*
 have F9:HA.get t1=some (.cells [.bool (decide (q.num<0)),u1] 146 true):=by rw[<-AT];simp[c0,c00]
 have OO:HA.get (t1+1)=some (.cells [.bool (decide ((q.den:Int)<0)),v1] 146 true):=by rw[<-AT];simp
 have X1:=X1.ae KA
 have Y1:=Y1.ae KA
 simp[-av,p1,p2,p3,p4,bD,ad,c0,AT,F9,OO,aO,aD]
 refine aB (Zji Y1 X1 hn (by rw[dC];omega) (by omega)) ?_
 rintro _ h2 t2 k2 rfl
 have j1:t1<t1+1+1:=by omega
 have j2:t1+1<t1+1+1:=by omega
 rw[<-Zlm]
 simp[-av,ct.cv,j1,j2,aA]
 exact⟨ui (by simp;omega),(k1.trans KA).trans k2⟩
def Ynd{q:Rat}{st:St}(hl:(aR q).length<1000000000):A.C.call (.func 247 [] []) [.str (aR q)] st=some (.str (aK q.num),st):=by
 have cy:=fun st=>Fl (s:=aR q) (st:=st) (by omega)
 have h2:ah (aR q)<=(aR q).length:=by
  rw[JQ]
  unfold aR
  split
  ·exact aQ _
  ·rw[i_];omega
 have a4:∀st:St,tV st (some (.str (aR q))) (some none) (some (some (.int .i64 (ah (aR q):Nat))))=some (.str (aK q.num),st):=fun st=>by rw[Yd (by omega) (by omega),Int.toNat_natCast,Me]
 apply Call.eq
 rw[aN,A.k247 (by simp)]
 simp[A.b247,cy,aC,a4]
def Yo8{q:Rat}{st:St}(hl:(aR q).length<1000000000):A.C.call (.func 248 [] []) [.str (aR q)] st=some (.str (ar q.den),st):=by
 have cy:=fun st=>Fl (s:=aR q) (st:=st) (by omega)
 have ax:=CZ q
 have h2:ah (aR q)<=(aR q).length:=by
  rw[JQ]
  unfold aR
  split
  ·exact aQ _
  ·rw[i_];omega
 apply Call.eq
 rw[aN,A.k248 (by simp)]
 by_cases hd:q.den=1
 ·have c1:(ah (aR q):Int)=((aR q).length:Int):=by omega
  rw[hd,PR]
  simp[A.b248,cy,aE,c1]
 ·have iV:=ax.2 hd
  have c1:¬(ah (aR q):Int)=((aR q).length:Int):=by omega
  have c2:¬ah (aR q)=(aR q).length:=by omega
  have w1:bl .i64 ((ah (aR q):Int)+1)=(ah (aR q):Int)+1:=cA (by omega) (by omega)
  have xM:=Mf q hd
  have a4:∀st:St,tV st (some (.str (aR q))) (some (some (.int .i64 ((ah (aR q):Int)+1)))) (some none)=some (.str (ar q.den),st):=fun st=>by
   rw[Ht (by omega) (by omega)]
   have:((ah (aR q):Int)+1).toNat=ah (aR q)+1:=by omega
   rw[this,xM]
  simp[A.b248,cy,aE,c1,c2,w1,aC,a4]
def Yl3(z:Int):aR (z:Rat)=aK z:=by
 unfold aR
 rw[ay (by simp)];simp
def Ypz{z:Int}{st:St}(hl:(aK z).length<1000000000):A.C.call (.func 246 [] []) [.str (aK z)] st=some (.str (ar z.natAbs),st):=by
 have hs:=fun st=>Sq (q:=(z:Rat)) (st:=st)
 rw[Yl3]at hs
 have hn:((z:Rat)).num=z:=by simp
 rw[hn]at hs
 apply Call.eq
 rw[aN,A.k246 (by simp)]
 by_cases hz:z<0
 ·have e1:aK z=45::ar z.natAbs:=by unfold aK;rw[ay hz]
  have e3:dX z= -1:=by unfold dX;rw[ay hz]
  rw[e1,e3]at hs
  have a3:∀st:St,tV st (some (.str (45::ar z.natAbs))) (some (some (.int .i64 1))) (some none)=some (.str (ar z.natAbs),st):=fun st=>by rw[Ht (by omega) (by simp only[bp];omega)];rfl
  rw[e1]
  simp[A.b246,hs,aC,a3]
 ·have e1:aK z=ar z.natAbs:=by unfold aK;rw[ak hz]
  have e3:¬dX z<0:=by unfold dX;rw[ak hz];split<;>omega
  rw[e1]at hs
  rw[e1]
  simp[A.b246,hs,e3]
def Ydz{q:Rat}{st:St}(hl:(aR q).length<1000000000):A.C.call (.func 217 [] []) [.str (aR q)] st=some (.int .i64 (if BJ q=true then 4 else 0),st):=by
 have h1:=fun st=>Ynd (q:=q) (st:=st) hl
 have h2:=fun st=>Yo8 (q:=q) (st:=st) hl
 have iw:(aK q.num).length<1000000000:=by
  have:(aK q.num).length<=(aR q).length:=by
   unfold aR
   split
   ·exact aQ _
   ·rw[i_];omega
  omega
 have h3:=fun st=>Ypz (z:=q.num) (st:=st) iw
 apply Call.eq
 rw[aN,A.k217 (by simp)]
 unfold BJ
 by_cases c1:600<(ar q.num.natAbs).length
 ·have c1':(600:Int)<((ar q.num.natAbs).length:Int):=by omega
  simp[A.b217,h1,h3,c1,c1']
 ·have c1':¬(600:Int)<((ar q.num.natAbs).length:Int):=by omega
  by_cases c2:600<(ar q.den).length
  ·have c2':(600:Int)<((ar q.den).length:Int):=by omega
   simp[A.b217,h1,h2,h3,c1,c1',c2,c2']
  ·have c2':¬(600:Int)<((ar q.den).length:Int):=by omega
   simp[A.b217,h1,h2,h3,c1,c1',c2,c2']
variable {N:Nat} {a b:Int} {h:T O} {x y:V}
set_option maxHeartbeats 1000000
def A.nO:bO:=sr [lN 34 2 2,c1 35 181 34,mv 33 35,xt 36 33 0,xt 37 33 1,mv 6 36,mv 7 37]
 (sr [lN 39 2 3,c1 40 181 39,mv 38 40,xt 41 38 0,xt 42 38 1,mv 8 41,mv 9 42]
 (.seq (.block 0 (sr [mv 44 6,mv 45 8,ge 46 (.bin .eql (.bX .bool) false (tq 44) (tq 45)),mv 43 46]
 (cd 43
 (sr [mv 47 6,mv 48 7,mv 49 9,c2 50 183 48 49,c2 51 182 47 50,gn (.store 2 (tq 4) (tq 51))]
 (.ret))
 (sr [mv 53 7,mv 54 9,c2 55 184 53 54,bc 56 .geq 55 0,mv 52 56]
 (cd 52
 (sr [mv 57 6,mv 58 7,mv 59 9,c2 60 185 58 59,c2 61 182 57 60,gn (.store 2 (tq 4) (tq 61))]
 (.ret))
 (.skip))))))
 (sr [mv 62 8,mv 63 9,mv 64 7,c2 65 185 63 64,c2 66 182 62 65,gn (.store 2 (tq 4) (tq 66))]
 (.ret))))
def A.b120:bO:=sr [bx 2 78 0,bx 3 78 1,ge 4 (.alloc [.int .i64 0,.aa] 78)]
 (.seq (sr [fa 10 1 2,ld 11 10,ge 12 (.bin .eql (.bX .slice) true (tq 11) (.const .aa)),mv 13 12,gy 14 13 (.ja 1 (tq 3)),gy 15 13 (.load none (tq 14)),gy 16 13 (.bin .eql (.bX .slice) true (tq 15) (.const .aa)),pf 17 13 16]
 (cd 17
 (sr [fa 18 0 2,ld 19 18,fa 20 0 3,ld 21 20,bi 22 .add 19 21,mv 5 22]
 (sr [mv 23 5,fa 24 0 2,ld 25 24,bi 26 .gtr 23 25,fa 27 0 3,ld 28 27,bc 29 .gtr 28 0,ge 30 (.bin .eql (.bX .bool) false (tq 26) (tq 29))]
 (cd 30
 (sr [mv 31 5,ge 32 (.build [.int .i64 0,.aa] [(0,1,(tq 31))]),gn (.store 2 (tq 4) (tq 32))]
 (.ret))
 (.skip))))
 (.skip)))
 A.nO)
def A.k120:=@A.kk 120 67 [.cell 4 (some 2)] A.b120 (by kernel_rfl) rfl
def A.b233:=A.q Tryz.f233
def A.k233:=@A.kk 233 9 [.cell 4 (some 2)] A.b233 (by kernel_rfl) rfl
def A.nP:bO:=sr [lN 50 2 2,c1 51 181 50,mv 49 51,xt 52 49 0,xt 53 49 1,mv 7 52,mv 8 53]
 (sr [lN 55 2 3,c1 56 181 55,mv 54 56,xt 57 54 0,xt 58 54 1,mv 9 57,mv 10 58]
 (sr [mv 59 7,mv 60 9,ge 61 (.bin .neq (.bX .bool) false (tq 59) (tq 60)),mv 62 8,mv 63 10,c2 64 190 62 63,c2 65 182 61 64,gn (.store 2 (tq 4) (tq 65))]
 (.ret)))
def A.b122:bO:=sr [bx 2 78 0,bx 3 78 1,ge 4 (.alloc [.int .i64 0,.aa] 78)]
 (.seq (sr [fa 11 1 2,ld 12 11,ge 13 (.bin .eql (.bX .slice) true (tq 12) (.const .aa)),mv 14 13,gy 15 14 (.ja 1 (tq 3)),gy 16 14 (.load none (tq 15)),gy 17 14 (.bin .eql (.bX .slice) true (tq 16) (.const .aa)),pf 18 14 17]
 (cd 18
 (.seq (.dj [fa 20 0 2,ld 21 20,c1 22 189 21,fa 23 0 3,ld 24 23,c1 25 189 24,c2 26 188 22 25,mv 19 26,xt 27 19 0,xt 28 19 1,mv 5 27,mv 6 28] [0,1,3,0,8,31,63,127,255,255,511,2047])
 (sr [mv 29 5,ge 30 (.bin .eql (.bX .int) true (tq 29) (.const (.int .u64 0))),mv 31 30,mg 32 6 31,gy 33 31 (.bin .leq (.node []) false (tq 32) (.const (.int .u64 9223372036854775807))),pf 34 31 33]
 (cd 34
 (.seq (sr [fa 35 0 2,ld 36 35,bc 37 .lss 36 0,fa 38 0 3,ld 39 38,bc 40 .lss 39 0,ge 41 (.bin .neq (.bX .bool) false (tq 37) (tq 40))]
 (cd 41
 (sr [mv 42 6,ge 43 (.cP .i64 (tq 42)),ge 44 (.un .neg (tq 43)),ge 45 (.build [.int .i64 0,.aa] [(0,1,(tq 44))]),gn (.store 2 (tq 4) (tq 45))]
 (.ret))
 (.skip)))
 (sr [mv 46 6,ge 47 (.cP .i64 (tq 46)),ge 48 (.build [.int .i64 0,.aa] [(0,1,(tq 47))]),gn (.store 2 (tq 4) (tq 48))]
 (.ret)))
 (.skip))))
 (.skip)))
 A.nP)
def A.k122:=@A.kk 122 66 [.cell 4 (some 2)] A.b122 (by kernel_rfl) rfl
def A.b180:=A.q Tryz.f180
def A.k180:=@A.kk 180 29 [.tmp 4] A.b180 (by kernel_rfl) rfl
structure HM (h:T O) (N q:Nat) (z:Int) (st:St):Prop where
 w:av N st.w=[]
 ae:ab h N st.h st.n
 ex:∃n u,st.h.get q=some (.cells [.int .i64 n,u] 78 true)/\In st.h st.n (.agg [.int .i64 n,u]) z
def Zxb(a b:Int):(a*b<0)↔((a<0)≠(b<0))/\a≠0/\b≠0:=by
 rcases Int.lt_trichotomy a 0 with ha|ha|ha<;>rcases Int.lt_trichotomy b 0 with hb|hb|hb
 ·have:=Int.mul_pos_of_neg_of_neg ha hb
  simp[ha,hb];omega
 ·subst hb;simp
 ·have:=Int.mul_neg_of_neg_of_pos ha hb
  have h1:¬b<0:=by omega
  simp[ha,h1,this];omega
 ·subst ha;simp
 ·subst ha;simp
 ·subst ha;simp
 ·have:=Int.mul_neg_of_pos_of_neg ha hb
  have h1:¬a<0:=by omega
  simp[hb,h1,this];omega
 ·subst hb;simp
 ·have:=Int.mul_pos ha hb
  have h1:¬a<0:=by omega
  have h2:¬b<0:=by omega
  simp[h1,h2];omega
def ZG{n k:Nat}(h:n<B^k):(aH n).length<=k:=by
 apply yY
 intro hc
 obtain⟨j,hj⟩:∃j,(aH n).length=j+1:=⟨(aH n).length-1,by omega⟩
 have:=(Hx hj).1
 have:=qz (show 0<B by decide) (show k<=j by omega)
 omega
def Sr(n:Nat):n<B^(aH n).length:=by
 have:=EU (rF n)
 rwa [mY]at this
def Zq(a b:Int):wl (a+b)<=max (wl a) (wl b)+1:=by
 unfold wl
 apply ZG
 have h1:=Sr a.natAbs
 have h2:=Sr b.natAbs
 have h3:=qz (show 0<B by decide) (Cq (aH a.natAbs).length (aH b.natAbs).length)
 have h4:=qz (show 0<B by decide) (Cn (aH a.natAbs).length (aH b.natAbs).length)
 have h5:(a+b).natAbs<=a.natAbs+b.natAbs:=Int.natAbs_add_le a b
 rw[fZ]
 generalize B^max (aH a.natAbs).length (aH b.natAbs).length=p at*
 have:p*2<=p*B:=kY p (by decide)
 omega
def Nz(a:Int):wl (-a)=wl a:=by unfold wl;rw[Bc]
def Ib(a b:Int):wl (a*b)<=wl a+wl b:=by
 unfold wl
 apply ZG
 rw[uO,kf]
 have h1:=Sr a.natAbs
 have h2:=Sr b.natAbs
 exact A3 h1 h2
def HL(h:a.natAbs<=b.natAbs):wl a<=wl b:=EX h
def Yj8{H:T O}{n1 n2:Int}{u1 u2:V}{r0:T V}(hx:In H (N+3) (.agg [.int .i64 n1,u1]) a)(hy:In H (N+3) (.agg [.int .i64 n2,u2]) b)(la:wl a<500000000000)(lb:wl b<500000000000)(hK:ab h N H (N+3))
  (gx:H.get N=some (.cells [.int .i64 n1,u1] 78 true)) (gy:H.get (N+1)=some (.cells [.int .i64 n2,u2] 78 true)) (gz:H.get (N+2)=some (.cells [.int .i64 0,.aa] 78 true)) (r2:r0.get 2=some (.ptr N 0)) (r3:r0.get 3=some (.ptr (N+1) 0)) (r4:r0.get 4=some (.ptr (N+2) 0)):
  Code A.C none A.nO ⟨r0,67,[]⟩ ⟨H,N+3,[]⟩ (fun e fr st=>e=.ret/\∃r,fr=⟨r,67,[]⟩/\r.get 4=some (.ptr (N+2) 0)/\HM h N (N+2) (a+b) st):=by
 rw[bk]
 simp[A.nO,r2,gx,aO,aD]
 refine aB (Db hx) ?_
 rintro _ h1 N1 k1 ⟨ua,rfl,Nd⟩
 have fk:=k1.le
 have Nf:=(k1.get (N+1) (by omega)).trans gy
 have gz1:=(k1.get (N+2) (by omega)).trans gz
 simp[r3,Nf,aO,aD]
 refine aB (Db (hy.ae k1)) ?_
 rintro _ h2 N2 k2 ⟨ub,rfl,HN⟩
 have il:=k2.le
 have gz2:=(k2.get (N+2) (by omega)).trans gz1
 have vZ:=Nd.ae k2
 have Ff:(aH a.natAbs).length<500000000000:=la
 have Rr:(aH b.natAbs).length<500000000000:=lb
 have kA:=(hK.trans k1).trans k2
 have OV:=Zq a b
 have fin:∀(z:Int) (v:V) (h4:T O) (n4:Nat),ab h2 N2 h4 n4->In h4 n4 v z->z=a+b->∃(n5:Int) (u5:V),v=.agg [.int .i64 n5,u5]/\V.one u5=true/\h4.get (N+2)=some (.cells [.int .i64 0,.aa] 78 true)/\∀W,av N W=[]->HM h N (N+2) (a+b) ⟨h4.set (N+2) (.cells [.int .i64 n5,u5] 78 true),n4,W⟩:=by
  intro z v h4 n4 k4 hv hz
  obtain⟨n5,u5,rfl,jA⟩:=hv.cells
  have AV:=(k4.get (N+2) (by omega)).trans gz2
  have tY:=k4.le
  subst hz
  exact⟨n5,u5,rfl,jA,AV,fun W hW=>⟨hW,(kA.trans k4).set (by omega),n5,u5,by simp,hv.aI AV (by simp) rfl⟩⟩
 by_cases hs:(a<0)=(b<0)
 ·have jl:(decide (a<0)==decide (b<0))=true:=by simp[hs]
  simp[aE,jl]
  refine aB (Zwh vZ HN (by omega) (by omega)) ?_
  rintro v h3 N3 k3 hv
  have uP:a.natAbs+b.natAbs=(a+b).natAbs:=by
   by_cases h:a<0
   ·have:b<0:=by rw[hs]at h;exact h
    omega
   ·have:¬b<0:=by rw[hs]at h;exact h
    omega
  rw[uP]at hv
  simp[]
  refine aB (EY hv (by unfold wl at OV la lb;omega)) ?_
  rintro v h4 N4 k4 hv
  obtain⟨n5,u5,rfl,jA,AV,hf⟩:=fin _ _ _ _ (k3.trans k4) hv (by
   by_cases h:a<0
   ·have:b<0:=by rw[hs]at h;exact h
    simp[h];omega
   ·have:¬b<0:=by rw[hs]at h;exact h
    simp[h];omega)
  unfold V.one at jA
  simp[AV,jA,ad,bD,r4]
  exact hf _ (by simp[av])
 ·have jl:(decide (a<0)==decide (b<0))=false:=by
   by_cases h:a<0<;>by_cases h':b<0<;>simp_all
  simp[aE,jl]
  refine aB (Zh6 vZ HN (by omega) (by omega)) ?_
  rintro _ h3 N3 k3 rfl
  have OW:=vZ.ae k3
  have OX:=HN.ae k3
  by_cases hc:b.natAbs<=a.natAbs
  ·have c1:(0:Int)<=vW a.natAbs b.natAbs:=by unfold vW;split<;>(try split)<;>omega
   simp[c1]
   refine aB (Zna OW OX hc (by omega) (by omega)) ?_
   rintro v h5 N5 k5 hv
   simp[]
   refine aB (EY hv (by have:=EX (show a.natAbs-b.natAbs<=a.natAbs by omega);omega)) ?_
   rintro v h4 N4 k4 hv
   obtain⟨n5,u5,rfl,jA,AV,hf⟩:=fin _ _ _ _ ((k3.trans k5).trans k4) hv (by
    by_cases h:a<0
    ·have:¬b<0:=by intro h2;apply hs;simp[h,h2]
     simp[h];omega
    ·have:b<0:=by apply Decidable.byContradiction;intro h2;apply hs;simp[h,h2]
     simp[h];omega)
   unfold V.one at jA
   simp[AV,jA,ad,bD,r4]
   exact hf _ (by simp[av])
  ·have c1:¬(0:Int)<=vW a.natAbs b.natAbs:=by unfold vW;split<;>(try split)<;>omega
   simp[c1]
   refine aB (Zna OX OW (by omega) (by omega) (by omega)) ?_
   rintro v h5 N5 k5 hv
   simp[]
   refine aB (EY hv (by have:=EX (show b.natAbs-a.natAbs<=b.natAbs by omega);omega)) ?_
   rintro v h4 N4 k4 hv
   obtain⟨n5,u5,rfl,jA,AV,hf⟩:=fin _ _ _ _ ((k3.trans k5).trans k4) hv (by
    by_cases h:b<0
    ·have:¬a<0:=by intro h2;apply hs;simp[h,h2]
     simp[h];omega
    ·have:a<0:=by apply Decidable.byContradiction;intro h2;apply hs;simp[h,h2]
     simp[h];omega)
   unfold V.one at jA
   simp[AV,jA,ad,bD,r4]
   exact hf _ (by simp[av])
def Nj(hx:In h N x a)(hy:In h N y b)(la:wl a<500000000000)(lb:wl b<500000000000):Fn A.C 120 [x,y] h N (fun v h' n'=>In h' n' v (a+b)):=by
 intro w
 rw[aN,A.k120 (by simp)]
 obtain⟨n1,u1,rfl,o1⟩:=hx.cells
 obtain⟨n2,u2,rfl,o2⟩:=hy.cells
 have kk:=aL (aL (aL (ab.refl (h:=h) (n:=N)) (.cells [.int .i64 n1,u1] 78 true)) (.cells [.int .i64 n2,u2] 78 true)) (.cells [.int .i64 0,.aa] 78 true)
 unfold V.one at o1 o2
 have go:∀r:T V,r.get 2=some (.ptr N 0)->r.get 3=some (.ptr (N+1) 0)->r.get 4=some (.ptr (N+2) 0)->bA A.C [.fin [.cell 4 (some 2)] ⟨h,N,w⟩] (eJ (A.C.code none A.nO ⟨r,67,[]⟩ ⟨((h.set N (.cells [.int .i64 n1,u1] 78 true)).set (N+1) (.cells [.int .i64 n2,u2] 78 true)).set (N+1+1) (.cells [.int .i64 0,.aa] 78 true),N+1+1+1,[]⟩)) (CR (aA (fun v h' n'=>In h' n' v (a+b)) h N w)):=by
  intro r r2 r3 r4
  refine mi (Yj8 (hx.ae kk) (hy.ae kk) la lb kk (by simp) (by simp) (by simp) r2 r3 r4) ?_
  rintro e fr ⟨h5,n5,w5⟩ ⟨rfl,r',rfl,J6,hW,hK,n6,u6,g6,hi⟩
  simp only at hW hK g6 hi
  simp[J6,g6,aO,aD,aA,hW]
  exact⟨hK,hi⟩
 rcases id hx with⟨e1,s1,s2⟩|⟨i,o,l,c,e1,_⟩
 ·simp only[V.agg.injEq,iY,V.int.injEq,true_and,and_true]at e1
  obtain⟨rfl,rfl⟩:=e1
  rcases id hy with⟨e2,t1,t2⟩|⟨i,o,l,c,e2,_⟩
  ·simp only[V.agg.injEq,iY,V.int.injEq,true_and,and_true]at e2
   obtain⟨rfl,rfl⟩:=e2
   have kr:=fun (o1 o2:O)=>(kk.set (i:=N+1+1) (o:=o1) (by omega))
   by_cases DM: -9223372036854775808<=n1+n2/\n1+n2<9223372036854775808
   ·have w1:bl .i64 (n1+n2)=n1+n2:=cA (by omega) (by omega)
    by_cases hp:0<n2
    ·have c1:n1<n1+n2:=by omega
     simp[A.b120,aO,aD,ad,aE,w1,hp,c1,aA]
     exact⟨kk.set (by omega),In.small (by omega) (by omega)⟩
    ·have c1:¬n1<n1+n2:=by omega
     simp[A.b120,aO,aD,ad,aE,w1,hp,c1,aA]
     exact⟨kk.set (by omega),In.small (by omega) (by omega)⟩
   ·obtain⟨y,ph⟩:∃y,bl .i64 (n1+n2)=y:=⟨_,rfl⟩
    have sW:y=n1+n2-18446744073709551616/\0<n2\/y=n1+n2+18446744073709551616/\¬0<n2:=by
     rw[<-ph,zZ]
     simp only[IntKind.wrap,IntKind.bits,IntKind.signed]
     simp
     omega
    by_cases hp:0<n2
    ·have c1:¬n1<y:=by omega
     simp[A.b120,aO,aD,ad,aE,ph,hp,c1]
     exact go _ (by simp) (by simp) (by simp)
    ·have c1:n1<y:=by omega
     simp[A.b120,aO,aD,ad,aE,ph,hp,c1]
     exact go _ (by simp) (by simp) (by simp)
  ·simp only[V.agg.injEq,iY,V.int.injEq,true_and,and_true]at e2
   obtain⟨rfl,rfl⟩:=e2
   simp[A.b120,aO,aD,ad,aE]
   exact go _ (by simp) (by simp) (by simp)
 ·simp only[V.agg.injEq,iY,V.int.injEq,true_and,and_true]at e1
  obtain⟨rfl,rfl⟩:=e1
  simp[A.b120,aO,aD,ad,aE,o2]
  exact go _ (by simp) (by simp) (by simp)
def Ykg(hx:In h N x a)(hy:In h N y b)(la:wl a<500000000000)(lb:wl b<500000000000):Fn A.C 233 [x,y] h N (fun v h' n'=>In h' n' v (a-b)):=by
 intro w
 rw[aN,A.k233 (by simp)]
 obtain⟨n1,u1,rfl,o1⟩:=hx.cells
 obtain⟨n2,u2,rfl,o2⟩:=hy.cells
 have kk:=aL (aL (aL (ab.refl (h:=h) (n:=N)) (.cells [.int .i64 n1,u1] 78 true)) (.cells [.int .i64 n2,u2] 78 true)) (.cells [.int .i64 0,.aa] 78 true)
 have LN:=JZ (hy.ae kk) lb
 have jx:=hx.ae kk
 unfold V.one at o1 o2
 simp[A.b233,aO,aD,ad,o1,o2]
 refine aB LN ?_
 rintro v h1 xL k1 hv
 simp[]
 refine aB (Nj (jx.ae k1) hv la (by rw[Nz];exact lb)) ?_
 rintro v2 h2 mH k2 jL
 obtain⟨n5,u5,rfl,jA⟩:=jL.cells
 unfold V.one at jA
 have k12:=k1.trans k2
 have xD:=k12.le
 have g2:=k12.get (N+1+1) (by omega)
 simp at g2
 have ax:N+1+1<mH:=by omega
 have cX:N+1+1<xL:=by have:=k1.le;omega
 simp[g2,jA,ad,bD,ax,cX,ct.cv,aA]
 have he:a+ -b=a-b:=by omega
 rw[he]at jL
 exact⟨(kk.trans k12).set (by omega),jL.aI g2 (by simp) rfl⟩
def Yh2{H:T O}{n1 n2:Int}{u1 u2:V}{r0:T V}(hx:In H (N+3) (.agg [.int .i64 n1,u1]) a)(hy:In H (N+3) (.agg [.int .i64 n2,u2]) b)(la:wl a<500000000000)(lb:wl b<500000000000)(hK:ab h N H (N+3))
  (gx:H.get N=some (.cells [.int .i64 n1,u1] 78 true)) (gy:H.get (N+1)=some (.cells [.int .i64 n2,u2] 78 true)) (gz:H.get (N+2)=some (.cells [.int .i64 0,.aa] 78 true)) (r2:r0.get 2=some (.ptr N 0)) (r3:r0.get 3=some (.ptr (N+1) 0)) (r4:r0.get 4=some (.ptr (N+2) 0)):
  Code A.C none A.nP ⟨r0,66,[]⟩ ⟨H,N+3,[]⟩ (fun e fr st=>e=.ret/\∃r,fr=⟨r,66,[]⟩/\r.get 4=some (.ptr (N+2) 0)/\HM h N (N+2) (a*b) st):=by
 rw[bk]
 simp[A.nP,r2,gx,aO,aD]
 refine aB (Db hx) ?_
 rintro _ h1 N1 k1 ⟨ua,rfl,Nd⟩
 have fk:=k1.le
 have Nf:=(k1.get (N+1) (by omega)).trans gy
 have gz1:=(k1.get (N+2) (by omega)).trans gz
 simp[r3,Nf,aO,aD]
 refine aB (Db (hy.ae k1)) ?_
 rintro _ h2 N2 k2 ⟨ub,rfl,HN⟩
 have il:=k2.le
 have gz2:=(k2.get (N+2) (by omega)).trans gz1
 have vZ:=Nd.ae k2
 have Ff:(aH a.natAbs).length<500000000000:=la
 have Rr:(aH b.natAbs).length<500000000000:=lb
 have kA:=(hK.trans k1).trans k2
 have OV:=Ib a b
 simp[aE]
 refine aB (Zvb vZ HN (by omega) (by omega)) ?_
 rintro v h3 N3 k3 hv
 have hmul:a.natAbs*b.natAbs=(a*b).natAbs:=(uO a b).symm
 rw[hmul]at hv
 simp[]
 refine aB (EY hv (by unfold wl at OV la lb;omega)) ?_
 rintro v h4 N4 k4 hv
 obtain⟨n5,u5,rfl,jA⟩:=hv.cells
 have AV:=((k3.trans k4).get (N+2) (by omega)).trans gz2
 have tY:=(k3.trans k4).le
 unfold V.one at jA
 have hs:=Zxb a b
 have he:(if (!decide (a<0)==decide (b<0))=true then -((a*b).natAbs:Int) else (a*b).natAbs)=a*b:=by
  have h0:a=0\/b=0->a*b=0:=by rintro(rfl|rfl)<;>simp
  by_cases h1:a<0<;>by_cases h2:b<0<;>simp[h1,h2]at hs ⊢<;>omega
 rw[he]at hv
 simp[AV,jA,ad,bD,r4]
 exact⟨by simp[av],((kA.trans k3).trans k4).set (by omega),n5,u5,by simp,hv.aI AV (by simp) rfl⟩
def Dm(hx:In h N x a)(hy:In h N y b)(la:wl a<500000000000)(lb:wl b<500000000000):Fn A.C 122 [x,y] h N (fun v h' n'=>In h' n' v (a*b)):=by
 intro w
 rw[aN,A.k122 (by simp)]
 obtain⟨n1,u1,rfl,o1⟩:=hx.cells
 obtain⟨n2,u2,rfl,o2⟩:=hy.cells
 have kk:=aL (aL (aL (ab.refl (h:=h) (n:=N)) (.cells [.int .i64 n1,u1] 78 true)) (.cells [.int .i64 n2,u2] 78 true)) (.cells [.int .i64 0,.aa] 78 true)
 unfold V.one at o1 o2
 have go:∀r:T V,r.get 2=some (.ptr N 0)->r.get 3=some (.ptr (N+1) 0)->r.get 4=some (.ptr (N+2) 0)->bA A.C [.fin [.cell 4 (some 2)] ⟨h,N,w⟩] (eJ (A.C.code none A.nP ⟨r,66,[]⟩ ⟨((h.set N (.cells [.int .i64 n1,u1] 78 true)).set (N+1) (.cells [.int .i64 n2,u2] 78 true)).set (N+1+1) (.cells [.int .i64 0,.aa] 78 true),N+1+1+1,[]⟩)) (CR (aA (fun v h' n'=>In h' n' v (a*b)) h N w)):=by
  intro r r2 r3 r4
  refine mi (Yh2 (hx.ae kk) (hy.ae kk) la lb kk (by simp) (by simp) (by simp) r2 r3 r4) ?_
  rintro e fr ⟨h5,n5,w5⟩ ⟨rfl,r',rfl,J6,hW,hK,n6,u6,g6,hi⟩
  simp only at hW hK g6 hi
  simp[J6,g6,aO,aD,aA,hW]
  exact⟨hK,hi⟩
 rcases id hx with⟨e1,s1,s2⟩|⟨i,o,l,c,e1,_⟩
 ·simp only[V.agg.injEq,iY,V.int.injEq,true_and,and_true]at e1
  obtain⟨rfl,rfl⟩:=e1
  rcases id hy with⟨e2,t1,t2⟩|⟨i,o,l,c,e2,_⟩
  ·simp only[V.agg.injEq,iY,V.int.injEq,true_and,and_true]at e2
   obtain⟨rfl,rfl⟩:=e2
   have z1:=fun st=>Yo s1 s2 (st:=st)
   have z2:=fun st=>Yo t1 t2 (st:=st)
   have hm:n1.natAbs*n2.natAbs=(n1*n2).natAbs:=(uO _ _).symm
   have fO:bu (n1.natAbs*n2.natAbs)+18446744073709551616*cf (n1.natAbs*n2.natAbs)=(n1*n2).natAbs:=by
    rw[<-hm]
    have:=uD (n1.natAbs*n2.natAbs) 18446744073709551616
    unfold bu cf;omega
   have OY:=Zxb n1 n2
   obtain⟨hi,gW⟩:∃x,cf (n1.natAbs*n2.natAbs)=x:=⟨_,rfl⟩
   obtain⟨lo,AA⟩:∃x,bu (n1.natAbs*n2.natAbs)=x:=⟨_,rfl⟩
   rw[gW,AA]at fO
   have hz:n1=0\/n2=0->n1*n2=0:=by rintro(rfl|rfl)<;>simp
   simp[A.b122,aO,aD,ad,aE,z1,z2]
   refine aB (MU (x:=n1.natAbs) (y:=n2.natAbs) (by omega) (by omega)) ?_
   rintro _ h' N' k ⟨rfl,rfl,rfl⟩
   rw[gW,AA]
   have d1:¬N=N+1:=by omega
   by_cases h0:hi=0
   ·by_cases h1:lo<=9223372036854775807
    ·have fL:(lo:Int)<=9223372036854775807:=by omega
     have w1:bl .i64 (lo:Int)=lo:=cA (by omega) (by omega)
     have w2:IntKind.wrap .i64 (-(lo:Int))= -(lo:Int):=K9 (by omega) (by omega)
     by_cases hs:(n1<0)=(n2<0)
     ·have jl:(decide (n1<0)==decide (n2<0))=true:=by simp[hs]
      have hp:¬n1*n2<0:=by rw[OY];rintro⟨p,_⟩;exact p hs
      have he:(lo:Int)=n1*n2:=by omega
      simp[aO,aD,ad,aE,h0,fL,jl,w1,aA,ct.cv]
      exact⟨kk.set (by omega),by rw[<-he];exact In.small (by omega) (by omega)⟩
     ·have jl:(decide (n1<0)==decide (n2<0))=false:=by
       by_cases h:n1<0<;>by_cases h':n2<0<;>simp_all
      have he: -(lo:Int)=n1*n2:=by
       by_cases hq:n1=0\/n2=0
       ·have:=hz hq;omega
       ·have:n1*n2<0:=OY.2 ⟨hs,fun h=>hq (.inl h),fun h=>hq (.inr h)⟩
        omega
      simp[aO,aD,ad,aE,h0,fL,jl,w1,w2,aA,ct.cv]
      exact⟨kk.set (by omega),by rw[<-he];exact In.small (by omega) (by omega)⟩
    ·have fL:¬(lo:Int)<=9223372036854775807:=by omega
     simp[aO,aD,ad,aE,h0,fL,ct.cv]
     exact go _ (by simp) (by simp) (by simp)
   ·simp[aO,aD,ad,aE,h0,ct.cv]
    exact go _ (by simp) (by simp) (by simp)
  ·simp only[V.agg.injEq,iY,V.int.injEq,true_and,and_true]at e2
   obtain⟨rfl,rfl⟩:=e2
   simp[A.b122,aO,aD,ad,aE]
   exact go _ (by simp) (by simp) (by simp)
 ·simp only[V.agg.injEq,iY,V.int.injEq,true_and,and_true]at e1
  obtain⟨rfl,rfl⟩:=e1
  simp[A.b122,aO,aD,ad,aE,o2]
  exact go _ (by simp) (by simp) (by simp)
def Ysi(hx:In h N x a)(hy:In h N y b)(la:wl a<100000000000)(lb:wl b<100000000000):Fn A.C 180 [x,y] h N (fun v _ _=>v=.int .i64 (dX (a-b))):=by
 intro w
 rw[aN,A.k180 (by simp)]
 obtain⟨n1,u1,rfl,o1⟩:=hx.cells
 obtain⟨n2,u2,rfl,o2⟩:=hy.cells
 have kk:=aL (aL (ab.refl (h:=h) (n:=N)) (.cells [.int .i64 n1,u1] 78 true)) (.cells [.int .i64 n2,u2] 78 true)
 have zh:=Ykg (hx.ae kk) (hy.ae kk) (by omega) (by omega)
 have OV:=Zq a (-b)
 rw[Nz]at OV
 unfold V.one at o1 o2
 rcases id hx with⟨e1,s1,s2⟩|⟨i,o,l,c,e1,_⟩
 ·simp only[V.agg.injEq,iY,V.int.injEq,true_and,and_true]at e1
  obtain⟨rfl,rfl⟩:=e1
  rcases id hy with⟨e2,t1,t2⟩|⟨i,o,l,c,e2,_⟩
  ·simp only[V.agg.injEq,iY,V.int.injEq,true_and,and_true]at e2
   obtain⟨rfl,rfl⟩:=e2
   by_cases h1:n1<n2
   ·simp[A.b180,aO,aD,ad,aA,aE,h1]
    exact⟨kk,by unfold dX;rw[ay (by omega)]⟩
   ·by_cases h2:n2<n1
    ·simp[A.b180,aO,aD,ad,aA,aE,h1,h2]
     exact⟨kk,by unfold dX;rw[ak (by omega),ak (by omega)]⟩
    ·simp[A.b180,aO,aD,ad,aA,aE,h1,h2]
     exact⟨kk,by unfold dX;rw[ak (by omega),ay (by omega)]⟩
  ·simp only[V.agg.injEq,iY,V.int.injEq,true_and,and_true]at e2
   obtain⟨rfl,rfl⟩:=e2
   simp[A.b180,aO,aD,ad,aE]
   refine aB zh ?_
   rintro v h1 xL k1 hv
   simp[]
   refine aB (HE hv) ?_
   rintro _ h2 mH k2 rfl
   simp[aA]
   exact(kk.trans k1).trans k2
 ·simp only[V.agg.injEq,iY,V.int.injEq,true_and,and_true]at e1
  obtain⟨rfl,rfl⟩:=e1
  simp[A.b180,aO,aD,ad,aE,o2]
  refine aB zh ?_
  rintro v h1 xL k1 hv
  simp[]
  refine aB (HE hv) ?_
  rintro _ h2 mH k2 rfl
  simp[aA]
  exact(kk.trans k1).trans k2
def Ylm(hx:In h N x a)(la:wl a<500000000000):Fn A.C 231 [x] h N (fun v h' n'=>In h' n' v (a.natAbs:Int)):=by
 intro w
 rw[aN,A.k231 (by simp)]
 obtain⟨n1,u1,rfl,o1⟩:=hx.cells
 have kk:=aL (aL (ab.refl (h:=h) (n:=N)) (.cells [.int .i64 n1,u1] 78 true)) (.cells [.int .i64 0,.aa] 78 true)
 have LN:=JZ (hx.ae kk) la
 have xU:(n1<0)=(a<0):=by
  rcases hx with⟨e1,s1,s2⟩|⟨i,o,l,c,e1,_⟩
  ·simp only[V.agg.injEq,iY,V.int.injEq,true_and,and_true]at e1
   rw[e1.1]
  ·simp only[V.agg.injEq,iY,V.int.injEq,true_and,and_true]at e1
   rw[e1.1];unfold yx;split<;>simp_all
 unfold V.one at o1
 by_cases h0:a<0
 ·have h1:n1<0:=by rw[xU];exact h0
  simp[A.b231,aO,aD,ad,o1,h1]
  refine aB LN ?_
  rintro v h2 n2 k2 hv
  obtain⟨n5,u5,rfl,jA⟩:=hv.cells
  unfold V.one at jA
  have xD:=k2.le
  have g2:=k2.get (N+1) (by omega)
  simp at g2
  have he:(-a)=(a.natAbs:Int):=by omega
  rw[he]at hv
  simp[g2,jA,ad,bD,aO,aD,aA]
  exact⟨(kk.trans k2).set (by omega),hv.aI g2 (by simp) rfl⟩
 ·have h1:¬n1<0:=by rw[xU];exact h0
  have he:a=(a.natAbs:Int):=by omega
  rw[he]at hx
  simp[A.b231,aO,aD,ad,bD,o1,h1,aA]
  exact⟨kk.set (by omega),(hx.ae kk).aI (i:=N+1) (c0:=[.int .i64 0,.aa]) (e0:=78) (w0:=true) (by simp) (by simp) rfl⟩
end
end Go.Mx
