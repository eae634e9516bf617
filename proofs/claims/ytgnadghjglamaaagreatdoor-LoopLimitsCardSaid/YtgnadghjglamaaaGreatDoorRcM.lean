/-lensletref01-/
import Derived.Test.YtgnadghjglamaaaGreatDoorNaD
set_option linter.all false
namespace Go.Mx
noncomputable section
open Go Go.Proofs
set_option maxRecDepth 1000000
def A.b50:=A.q Tryz.f50
def A.k50:=@A.kk 50 13 [.tmp 2] A.b50 (by kernel_rfl) rfl
def A.b17:=A.q Tryz.f17
def A.k17:=@A.kk 17 14 [.tmp 2] A.b17 (by kernel_rfl) rfl
def A.b109:=A.q Tryz.f109
def A.k109:=@A.kk 109 13 [.tmp 2] A.b109 (by kernel_rfl) rfl
def A.b27:=A.q Tryz.f27
def A.k27:=@A.kk 27 14 [.tmp 2] A.b27 (by kernel_rfl) rfl
def A.b85:=A.q Tryz.f85
def A.k85:=@A.kk 85 7 [.tmp 2] A.b85 (by kernel_rfl) rfl
def A.b86:=A.q Tryz.f86
def A.k86:=@A.kk 86 14 [.tmp 2] A.b86 (by kernel_rfl) rfl
def A.b47:=A.q Tryz.f47
def A.k47:=@A.kk 47 9 [.tmp 2] A.b47 (by kernel_rfl) rfl
def A.b40:=A.q Tryz.f40
def A.k40:=@A.kk 40 5 [.tmp 2] A.b40 (by kernel_rfl) rfl
def Ij:ax 0=[48]:=by decide+kernel
def Yio{q:Rat}:ax q=[48]↔q=0:=⟨fun h=>Yef (h.trans Ij.symm),fun h=>by rw[h,Ij]⟩
def Ykd{q:Rat}{st:St}:A.C.call (.func 40 [] []) [.str (ax q)] st=some (.bool (decide (q=0)),st):=by
 have e:(ax q==[48])=decide (q=0):=by rw[Bool.eq_iff_iff,beq_iff_eq,decide_eq_true_eq];exact Yio
 apply Call.eq
 rw[aV,A.k40 (by simp)]
 simp(disch:=first|(simp;done)|omega|rfl) [-getElem?_pos,A.b40,aL,iX,e]
def MO{q:Rat}:q.num=0↔q=0:=Rat.num_eq_zero
def Yin(q:Rat):0<(ax q).length:=by
 obtain⟨c,t,h,_⟩:=Zut q
 rw[x_,h]
 split<;>simp
def Yee(q:Rat):∃c,(ax q)[0]?=some c/\(ax q).head?=some c/\(cR c=45↔q.num<0):=by
 obtain⟨c,t,h,h1⟩:=Zut q
 by_cases hz:q.num<0
 ·refine⟨45,?_,?_,?_⟩
  ·rw[x_,aQ hz];rfl
  ·rw[x_,aQ hz];rfl
  ·exact⟨fun _=>hz,fun _=>rfl⟩
 ·refine⟨c,?_,?_,?_⟩
  ·rw[x_,aA hz,h];rfl
  ·rw[x_,aA hz,h];rfl
  ·exact⟨fun h2=>by unfold cR at h2;omega,fun h2=>absurd h2 hz⟩
def Np{q:Rat}{st:St}:A.C.call (.func 50 [] []) [.str (ax q)] st=some (.int .i64 (df q.num),st):=by
 have e:(ax q==[48])=decide (q=0):=by rw[Bool.eq_iff_iff,beq_iff_eq,decide_eq_true_eq];exact Yio
 obtain⟨c,h1,h2,h3⟩:=Yee q
 have hp:=Yin q
 have hp':(0:Int)<((ax q).length:Int):=by omega
 have bF:ax q≠[]:=fun hc=>by rw[hc]at hp;simp at hp
 apply Call.eq
 rw[aV,A.k50 (by simp)]
 by_cases h0:q=0
 ·have hn:q.num=0:=MO.2 h0
  have hs:df q.num=0:=by rw[hn];rfl
  have e0:(ax q==[48])=true:=by rw[e];simp[h0]
  rw[hs]
  simp(disch:=first|(simp;done)|omega|rfl) [-getElem?_pos,A.b50,aL,iX,e0]
 ·have hn:q.num≠0:=fun hc=>h0 (MO.1 hc)
  by_cases hz:q.num<0
  ·have hs:df q.num= -1:=by unfold df;rw[aQ hz]
   have hc:=h3.2 hz
   rw[hs]
   simp(disch:=first|(simp;done)|omega|rfl) [-getElem?_pos,A.b50,aL,iX,e,h0,hp,hp',bF,h1,h2,hc]
  ·have hs:df q.num=1:=by unfold df;rw[aA hz,aA hn]
   have hc:¬cR c=45:=fun hc=>hz (h3.1 hc)
   rw[hs]
   simp(disch:=first|(simp;done)|omega|rfl) [-getElem?_pos,A.b50,aL,iX,e,h0,hp,hp',bF,h1,h2,hc]
def Ynp(q:Rat):QB (-q)=QB q:=by
 unfold QB
 rw[Rat.neg_den,Rat.neg_num,A7]
def Ya9{q:Rat}{st:St}(hl:(ax q).length<1000000000):A.C.call (.func 17 [] []) [.str (ax q)] st=some (.str (ax (-q)),st):=by
 have hs:=fun st=>Np (q:=q) (st:=st)
 have dP:IntKind.max .i64=9223372036854775807:=rfl
 apply Call.eq
 rw[aV,A.k17 (by simp)]
 have fw:=x_ (-q)
 rw[Ynp,Rat.neg_num]at fw
 by_cases hz:q.num<0
 ·have e1:ax q=45::QB q:=by rw[x_,aQ hz]
  have e2:ax (-q)=QB q:=by rw[fw,aA (by omega)]
  have e3:df q.num= -1:=by unfold df;rw[aQ hz]
  rw[e1,e3]at hs
  have a3:∀st:St,Zcg st (some (.str (45::QB q))) (some (some (.int .i64 1))) (some none)=some (.str (QB q),st):=fun st=>by rw[BK (by omega) (by simp only[ak];omega)];rfl
  rw[e1,e2]
  simp(disch:=first|(simp;done)|omega|rfl) [-getElem?_pos,A.b17,hs,aC,a3]
 ·by_cases h0:q=0
  ·have e3:df q.num=0:=by rw[MO.2 h0];rfl
   rw[e3]at hs
   have e4: -q=q:=by rw[h0];rfl
   rw[e4]
   simp(disch:=first|(simp;done)|omega|rfl) [-getElem?_pos,A.b17,hs,aL]
  ·have hn:q.num≠0:=fun hc=>h0 (MO.1 hc)
   have e1:ax q=QB q:=by rw[x_,aA hz]
   have e2:ax (-q)=45::QB q:=by rw[fw,aQ (by omega)]
   have e3:df q.num=1:=by unfold df;rw[aA hz,aA hn]
   rw[e3]at hs
   rw[e1]at hs hl
   have hb:¬(9223372036854775807:Int)<1+((QB q).length:Int):=by omega
   rw[e2,e1]
   simp(disch:=first|(simp;done)|omega|rfl) [-getElem?_pos,A.b17,hs,aL,iX,dP,hb]
def inv_divInt(q:Rat):q⁻¹=Rat.divInt (q.den:Int) q.num:=Rat.inv_def q
def Yz9{q:Rat}{k:Nat}{h:T O}{N:Nat}(hq:Qb k q)(hk:k<=400000000)(h0:q≠0):Fn A.C 109 [.str (ax q)] h N (fun u _ _=>u=.str (ax q⁻¹)):=by
 intro w
 have la:=Bo hq.1
 have QD:=Io hq.2
 have z1:=uc hq.1
 have z2:=uc hq.2
 have hn:q.num≠0:=fun hc=>h0 (MO.1 hc)
 rw[aV,A.k109 (by simp)]
 simp(disch:=first|(simp;done)|omega|rfl) [-getElem?_pos,A.b109]
 refine az (Rm (q:=q) (by omega) (by omega)) ?_
 rintro _ h1 t1 k1 ⟨x1,y1,rfl,X1,Y1⟩
 obtain⟨u1,rfl,p1,p2,F1⟩:=X1.py
 obtain⟨v1,rfl,p3,p4,G1⟩:=Y1.py
 unfold V.one at p1 p3
 unfold V.cells at p2 p4
 have KA:=((((ae.refl (h:=h1) (n:=t1)).new (.cells [.bool false,.aa] 92 true)).new (.cells [.bool false,.aa] 92 true)).set (i:=t1) (o:=.cells [.bool (decide (q.num<0)),u1] 92 true) (aZ _)).set (i:=t1+1) (o:=.cells [.bool (decide ((q.den:Int)<0)),v1] 92 true) (by omega)
 have c0:¬t1+1=t1:=by omega
 have c00:¬t1=t1+1:=by omega
 have i1:=k1.le
 generalize Aw:(((h1.set t1 (.cells [.bool false,.aa] 92 true)).set (t1+1) (.cells [.bool false,.aa] 92 true)).set t1 (.cells [.bool (decide (q.num<0)),u1] 92 true)).set (t1+1) (.cells [.bool (decide ((q.den:Int)<0)),v1] 92 true)=HA at*
 have Ds:HA.get t1=some (.cells [.bool (decide (q.num<0)),u1] 92 true):=by rw[<-Aw];simp[c0,c00]
 have It:HA.get (t1+1)=some (.cells [.bool (decide ((q.den:Int)<0)),v1] 92 true):=by rw[<-Aw];simp
 have X1:=X1.ah KA
 have Y1:=Y1.ah KA
 simp(disch:=first|(simp;done)|omega|rfl) [-getElem?_pos, -aD,p1,p2,p3,p4,bE,ag,c0,Aw,Ds,It,aJ,aE]
 refine az (Zm9 Y1 X1 hn (by rw[eG];omega) (by omega)) ?_
 rintro _ h2 t2 k2 rfl
 have j1:t1<t1+1+1:=by omega
 have j2:t1+1<t1+1+1:=by omega
 rw[<-inv_divInt]
 simp(disch:=first|(simp;done)|omega|rfl) [-getElem?_pos, -aD,bU.bZ,j1,j2,aF]
 exact⟨Dr (by simp;omega),(k1.trans KA).trans k2⟩
def Yjo{q:Rat}{st:St}(hl:(ax q).length<1000000000):A.C.call (.func 85 [] []) [.str (ax q)] st=some (.str (aR q.num),st):=by
 have cZ:=fun st=>De (s:=ax q) (st:=st) (by omega)
 have h2:ai (ax q)<=(ax q).length:=by
  rw[Mh]
  unfold ax
  split
  ·exact aZ _
  ·rw[jb];omega
 have a4:∀st:St,Zcg st (some (.str (ax q))) (some none) (some (some (.int .i64 (ai (ax q):Nat))))=some (.str (aR q.num),st):=fun st=>by rw[Zks (by omega) (by omega),Int.toNat_natCast,Pb]
 apply Call.eq
 rw[aV,A.k85 (by simp)]
 simp(disch:=first|(simp;done)|omega|rfl) [-getElem?_pos,A.b85,cZ,aC,a4]
def Yk3{q:Rat}{st:St}(hl:(ax q).length<1000000000):A.C.call (.func 86 [] []) [.str (ax q)] st=some (.str (av q.den),st):=by
 have cZ:=fun st=>De (s:=ax q) (st:=st) (by omega)
 have aP:=CA q
 have h2:ai (ax q)<=(ax q).length:=by
  rw[Mh]
  unfold ax
  split
  ·exact aZ _
  ·rw[jb];omega
 apply Call.eq
 rw[aV,A.k86 (by simp)]
 by_cases hd:q.den=1
 ·have c1:(ai (ax q):Int)=((ax q).length:Int):=by omega
  rw[hd,Zwb]
  simp(disch:=first|(simp;done)|omega|rfl) [-getElem?_pos,A.b86,cZ,aL,c1]
 ·have oO:=aP.2 hd
  have c1:¬(ai (ax q):Int)=((ax q).length:Int):=by omega
  have c2:¬ai (ax q)=(ax q).length:=by omega
  have w1:bn .i64 ((ai (ax q):Int)+1)=(ai (ax q):Int)+1:=cL (by omega) (by omega)
  have y_:=Pc q hd
  have a4:∀st:St,Zcg st (some (.str (ax q))) (some (some (.int .i64 ((ai (ax q):Int)+1)))) (some none)=some (.str (av q.den),st):=fun st=>by
   rw[BK (by omega) (by omega)]
   have:((ai (ax q):Int)+1).toNat=ai (ax q)+1:=by omega
   rw[this,y_]
  simp(disch:=first|(simp;done)|omega|rfl) [-getElem?_pos,A.b86,cZ,aL,c1,c2,w1,aC,a4]
def Yip(z:Int):ax (z:Rat)=aR z:=by
 unfold ax
 rw[aQ (by simp)];simp
def Ylk{z:Int}{st:St}(hl:(aR z).length<1000000000):A.C.call (.func 47 [] []) [.str (aR z)] st=some (.str (av z.natAbs),st):=by
 have hs:=fun st=>Np (q:=(z:Rat)) (st:=st)
 rw[Yip]at hs
 have hn:((z:Rat)).num=z:=by simp
 rw[hn]at hs
 apply Call.eq
 rw[aV,A.k47 (by simp)]
 by_cases hz:z<0
 ·have e1:aR z=45::av z.natAbs:=by unfold aR;rw[aQ hz]
  have e3:df z= -1:=by unfold df;rw[aQ hz]
  rw[e1,e3]at hs
  have a3:∀st:St,Zcg st (some (.str (45::av z.natAbs))) (some (some (.int .i64 1))) (some none)=some (.str (av z.natAbs),st):=fun st=>by rw[BK (by omega) (by simp only[ak];omega)];rfl
  rw[e1]
  simp(disch:=first|(simp;done)|omega|rfl) [-getElem?_pos,A.b47,hs,aC,a3]
 ·have e1:aR z=av z.natAbs:=by unfold aR;rw[aA hz]
  have e3:¬df z<0:=by unfold df;rw[aA hz];split<;>omega
  rw[e1]at hs
  rw[e1]
  simp(disch:=first|(simp;done)|omega|rfl) [-getElem?_pos,A.b47,hs,e3]
def Yzm{q:Rat}{st:St}(hl:(ax q).length<1000000000):A.C.call (.func 27 [] []) [.str (ax q)] st=some (.int .i64 (if BJ q=true then 4 else 0),st):=by
 have h1:=fun st=>Yjo (q:=q) (st:=st) hl
 have h2:=fun st=>Yk3 (q:=q) (st:=st) hl
 have lK:(aR q.num).length<1000000000:=by
  have:(aR q.num).length<=(ax q).length:=by
   unfold ax
   split
   ·exact aZ _
   ·rw[jb];omega
  omega
 have h3:=fun st=>Ylk (z:=q.num) (st:=st) lK
 apply Call.eq
 rw[aV,A.k27 (by simp)]
 unfold BJ
 by_cases c1:600<(av q.num.natAbs).length
 ·have c1':(600:Int)<((av q.num.natAbs).length:Int):=by omega
  simp(disch:=first|(simp;done)|omega|rfl) [-getElem?_pos,A.b27,h1,h3,c1,c1']
 ·have c1':¬(600:Int)<((av q.num.natAbs).length:Int):=by omega
  by_cases c2:600<(av q.den).length
  ·have c2':(600:Int)<((av q.den).length:Int):=by omega
   simp(disch:=first|(simp;done)|omega|rfl) [-getElem?_pos,A.b27,h1,h2,h3,c1,c1',c2,c2']
  ·have c2':¬(600:Int)<((av q.den).length:Int):=by omega
   simp(disch:=first|(simp;done)|omega|rfl) [-getElem?_pos,A.b27,h1,h2,h3,c1,c1',c2,c2']
variable {N:Nat} {a b:Int} {h:T O} {x y:V}
set_option maxHeartbeats 1000000
def A.Rz:=A.q Tryz.f183
def A.nG:=A.qt A.Rz [] [] [1,1]
def A.b183:=(fun y0=>A.qt A.Rz [] [([1,1],y0)] []) A.nG
def A.k183:=@A.kk 183 67 [.cell 4 (some 2)] A.b183 (by kernel_rfl) rfl
def A.b191:=A.q Tryz.f191
def A.k191:=@A.kk 191 9 [.cell 4 (some 2)] A.b191 (by kernel_rfl) rfl
def A.RA:=A.q Tryz.f164
def A.nH:=A.qt A.RA [] [] [1,1]
def A.b164:=(fun y0=>A.qt A.RA [] [([1,1],y0)] []) A.nH
def A.k164:=@A.kk 164 66 [.cell 4 (some 2)] A.b164 (by kernel_rfl) rfl
def A.b135:=A.q Tryz.f135
def A.k135:=@A.kk 135 29 [.tmp 4] A.b135 (by kernel_rfl) rfl
structure J9 (h:T O) (N q:Nat) (z:Int) (st:St):Prop where
 w:aD N st.w=[]
 ah:ae h N st.h st.n
 ex:∃n u,st.h.get q=some (.cells [.int .i64 n,u] 108 true)/\In st.h st.n (.agg [.int .i64 n,u]) z
def Zvn(a b:Int):(a*b<0)↔((a<0)≠(b<0))/\a≠0/\b≠0:=by
 rcases Int.lt_trichotomy a 0 with ha|ha|ha<;>rcases Int.lt_trichotomy b 0 with hb|hb|hb
 ·have:=Int.mul_pos_of_neg_of_neg ha hb
  simp[ha,hb];omega
 ·subst hb;simp
 ·have:=Int.mul_neg_of_neg_of_pos ha hb
  have h1:¬b<0:=by omega
  simp[ha,h1,this];omega
 ·subst ha;simp
 ·subst ha;simp
 ·subst ha;simp
 ·have:=Int.mul_neg_of_pos_of_neg ha hb
  have h1:¬a<0:=by omega
  simp[hb,h1,this];omega
 ·subst hb;simp
 ·have:=Int.mul_pos ha hb
  have h1:¬a<0:=by omega
  have h2:¬b<0:=by omega
  simp[h1,h2];omega
def Zfv{n k:Nat}(h:n<B^k):(aN n).length<=k:=by
 apply yl
 intro hc
 obtain⟨j,hj⟩:∃j,(aN n).length=j+1:=⟨(aN n).length-1,by omega⟩
 have:=(JS hj).1
 have:=pc (show 0<B by decide) (show k<=j by omega)
 omega
def UH(n:Nat):n<B^(aN n).length:=by
 have:=Eo (rb n)
 rwa [mB]at this
def Zzk(a b:Int):wl (a+b)<=max (wl a) (wl b)+1:=by
 unfold wl
 apply Zfv
 have h1:=UH a.natAbs
 have h2:=UH b.natAbs
 have h3:=pc (show 0<B by decide) (B6 (aN a.natAbs).length (aN b.natAbs).length)
 have h4:=pc (show 0<B by decide) (B3 (aN a.natAbs).length (aN b.natAbs).length)
 have h5:(a+b).natAbs<=a.natAbs+b.natAbs:=Int.natAbs_add_le a b
 rw[fO]
 generalize B^max (aN a.natAbs).length (aN b.natAbs).length=p at*
 have:p*2<=p*B:=je p (by decide)
 omega
def Qz(a:Int):wl (-a)=wl a:=by unfold wl;rw[A7]
def C2(a b:Int):wl (a*b)<=wl a+wl b:=by
 unfold wl
 apply Zfv
 rw[uI,iF]
 have h1:=UH a.natAbs
 have h2:=UH b.natAbs
 exact B4 h1 h2
def J8(h:a.natAbs<=b.natAbs):wl a<=wl b:=Es h
def Yg5{H:T O}{n1 n2:Int}{u1 u2:V}{r0:T V}(hx:In H (N+3) (.agg [.int .i64 n1,u1]) a)(hy:In H (N+3) (.agg [.int .i64 n2,u2]) b)(la:wl a<500000000000)(lb:wl b<500000000000)(hK:ae h N H (N+3))
  (gx:H.get N=some (.cells [.int .i64 n1,u1] 108 true)) (gy:H.get (N+1)=some (.cells [.int .i64 n2,u2] 108 true)) (gz:H.get (N+2)=some (.cells [.int .i64 0,.aa] 108 true)) (r2:r0.get 2=some (.ptr N 0)) (r3:r0.get 3=some (.ptr (N+1) 0)) (r4:r0.get 4=some (.ptr (N+2) 0)):
  Code A.C none A.nG ⟨r0,67,[]⟩ ⟨H,N+3,[]⟩ (fun e fr st=>e=.ret/\∃r,fr=⟨r,67,[]⟩/\r.get 4=some (.ptr (N+2) 0)/\J9 h N (N+2) (a+b) st):=by
 rw[dk]
 simp(disch:=first|(simp;done)|omega|(simp only[Zab,aq,ak];omega)|rfl) [-getElem?_pos,A.nG,r2,gx,aJ,aE]
 refine az (CS hx) ?_
 rintro _ h1 N1 k1 ⟨ua,rfl,Qe⟩
 have ft:=k1.le
 have Qf:=(k1.get (N+1) (by omega)).trans gy
 have gz1:=(k1.get (N+2) (by omega)).trans gz
 simp(disch:=first|(simp;done)|omega|(simp only[Zab,aq,ak];omega)|rfl) [-getElem?_pos,r3,Qf,aJ,aE]
 refine az (CS (hy.ah k1)) ?_
 rintro _ h2 N2 k2 ⟨ub,rfl,Ka⟩
 have gJ:=k2.le
 have gz2:=(k2.get (N+2) (by omega)).trans gz1
 have vJ:=Qe.ah k2
 have EA:(aN a.natAbs).length<500000000000:=la
 have TZ:(aN b.natAbs).length<500000000000:=lb
 have kA:=(hK.trans k1).trans k2
 have RB:=Zzk a b
 have fin:∀(z:Int) (v:V) (h4:T O) (n4:Nat),ae h2 N2 h4 n4->In h4 n4 v z->z=a+b->∃(n5:Int) (u5:V),v=.agg [.int .i64 n5,u5]/\V.one u5=true/\h4.get (N+2)=some (.cells [.int .i64 0,.aa] 108 true)/\∀W,aD N W=[]->J9 h N (N+2) (a+b) ⟨h4.set (N+2) (.cells [.int .i64 n5,u5] 108 true),n4,W⟩:=by
  intro z v h4 n4 k4 hv hz
  obtain⟨n5,u5,rfl,jy⟩:=hv.cells
  have Ax:=(k4.get (N+2) (by omega)).trans gz2
  have tr:=k4.le
  subst hz
  exact⟨n5,u5,rfl,jy,Ax,fun W hW=>⟨hW,(kA.trans k4).set (by omega),n5,u5,by simp,hv.aG Ax (by simp) rfl⟩⟩
 by_cases hs:(a<0)=(b<0)
 ·have kQ:(decide (a<0)==decide (b<0))=true:=by simp[hs]
  simp(disch:=first|(simp;done)|omega|(simp only[Zab,aq,ak];omega)|rfl) [-getElem?_pos,aL,kQ]
  refine az (Zur vJ Ka (by omega) (by omega)) ?_
  rintro v h3 N3 k3 hv
  have Ak:a.natAbs+b.natAbs=(a+b).natAbs:=by
   by_cases h:a<0
   ·have:b<0:=by rw[hs]at h;exact h
    omega
   ·have:¬b<0:=by rw[hs]at h;exact h
    omega
  rw[Ak]at hv
  simp(disch:=first|(simp;done)|omega|(simp only[Zab,aq,ak];omega)|rfl) [-getElem?_pos,]
  refine az (Et hv (by unfold wl at RB la lb;omega)) ?_
  rintro v h4 N4 k4 hv
  obtain⟨n5,u5,rfl,jy,Ax,hf⟩:=fin _ _ _ _ (k3.trans k4) hv (by
   by_cases h:a<0
   ·have:b<0:=by rw[hs]at h;exact h
    simp[h];omega
   ·have:¬b<0:=by rw[hs]at h;exact h
    simp[h];omega)
  unfold V.one at jy
  simp(disch:=first|(simp;done)|omega|(simp only[Zab,aq,ak];omega)|rfl) [-getElem?_pos,Ax,jy,ag,bE,r4]
  exact hf _ (by simp[aD])
 ·have kQ:(decide (a<0)==decide (b<0))=false:=by
   by_cases h:a<0<;>by_cases h':b<0<;>simp_all
  simp(disch:=first|(simp;done)|omega|(simp only[Zab,aq,ak];omega)|rfl) [-getElem?_pos,aL,kQ]
  refine az (Zhi vJ Ka (by omega) (by omega)) ?_
  rintro _ h3 N3 k3 rfl
  have RC:=vJ.ah k3
  have RD:=Ka.ah k3
  by_cases hc:b.natAbs<=a.natAbs
  ·have c1:(0:Int)<=vE a.natAbs b.natAbs:=by unfold vE;split<;>(try split)<;>omega
   simp(disch:=first|(simp;done)|omega|(simp only[Zab,aq,ak];omega)|rfl) [-getElem?_pos,c1]
   refine az (Zme RC RD hc (by omega) (by omega)) ?_
   rintro v h5 N5 k5 hv
   simp(disch:=first|(simp;done)|omega|(simp only[Zab,aq,ak];omega)|rfl) [-getElem?_pos,]
   refine az (Et hv (by have:=Es (show a.natAbs-b.natAbs<=a.natAbs by omega);omega)) ?_
   rintro v h4 N4 k4 hv
   obtain⟨n5,u5,rfl,jy,Ax,hf⟩:=fin _ _ _ _ ((k3.trans k5).trans k4) hv (by
    by_cases h:a<0
    ·have:¬b<0:=by intro h2;apply hs;simp[h,h2]
     simp[h];omega
    ·have:b<0:=by apply Decidable.byContradiction;intro h2;apply hs;simp[h,h2]
     simp[h];omega)
   unfold V.one at jy
   simp(disch:=first|(simp;done)|omega|(simp only[Zab,aq,ak];omega)|rfl) [-getElem?_pos,Ax,jy,ag,bE,r4]
   exact hf _ (by simp[aD])
  ·have c1:¬(0:Int)<=vE a.natAbs b.natAbs:=by unfold vE;split<;>(try split)<;>omega
   simp(disch:=first|(simp;done)|omega|(simp only[Zab,aq,ak];omega)|rfl) [-getElem?_pos,c1]
   refine az (Zme RD RC (by omega) (by omega) (by omega)) ?_
   rintro v h5 N5 k5 hv
   simp(disch:=first|(simp;done)|omega|(simp only[Zab,aq,ak];omega)|rfl) [-getElem?_pos,]
   refine az (Et hv (by have:=Es (show b.natAbs-a.natAbs<=b.natAbs by omega);omega)) ?_
   rintro v h4 N4 k4 hv
   obtain⟨n5,u5,rfl,jy,Ax,hf⟩:=fin _ _ _ _ ((k3.trans k5).trans k4) hv (by
    by_cases h:b<0
    ·have:¬a<0:=by intro h2;apply hs;simp[h,h2]
     simp[h];omega
    ·have:a<0:=by apply Decidable.byContradiction;intro h2;apply hs;simp[h,h2]
     simp[h];omega)
   unfold V.one at jy
   simp(disch:=first|(simp;done)|omega|(simp only[Zab,aq,ak];omega)|rfl) [-getElem?_pos,Ax,jy,ag,bE,r4]
   exact hf _ (by simp[aD])
def Qj(hx:In h N x a)(hy:In h N y b)(la:wl a<500000000000)(lb:wl b<500000000000):Fn A.C 183 [x,y] h N (fun v h' n'=>In h' n' v (a+b)):=by
 intro w
 rw[aV,A.k183 (by simp)]
 obtain⟨n1,u1,rfl,o1⟩:=hx.cells
 obtain⟨n2,u2,rfl,o2⟩:=hy.cells
 have kk:=aI (aI (aI (ae.refl (h:=h) (n:=N)) (.cells [.int .i64 n1,u1] 108 true)) (.cells [.int .i64 n2,u2] 108 true)) (.cells [.int .i64 0,.aa] 108 true)
 unfold V.one at o1 o2
 have go:∀r:T V,r.get 2=some (.ptr N 0)->r.get 3=some (.ptr (N+1) 0)->r.get 4=some (.ptr (N+2) 0)->bH A.C [.fin [.cell 4 (some 2)] ⟨h,N,w⟩] (fx (A.C.code none A.nG ⟨r,67,[]⟩ ⟨((h.set N (.cells [.int .i64 n1,u1] 108 true)).set (N+1) (.cells [.int .i64 n2,u2] 108 true)).set (N+1+1) (.cells [.int .i64 0,.aa] 108 true),N+1+1+1,[]⟩)) (Co (aF (fun v h' n'=>In h' n' v (a+b)) h N w)):=by
  intro r r2 r3 r4
  refine mJ (Yg5 (hx.ah kk) (hy.ah kk) la lb kk (by simp) (by simp) (by simp) r2 r3 r4) ?_
  rintro e fr ⟨h5,n5,w5⟩ ⟨rfl,r',rfl,Qn,hW,hK,n6,u6,g6,hi⟩
  simp only at hW hK g6 hi
  simp(disch:=first|(simp;done)|omega|(simp only[Zab,aq,ak];omega)|rfl) [-getElem?_pos,Qn,g6,aJ,aE,aF,hW]
  exact⟨hK,hi⟩
 rcases id hx with⟨e1,s1,s2⟩|⟨i,o,l,c,e1,_⟩
 ·simp only[V.agg.injEq,gC,V.int.injEq,true_and,and_true]at e1
  obtain⟨rfl,rfl⟩:=e1
  rcases id hy with⟨e2,t1,t2⟩|⟨i,o,l,c,e2,_⟩
  ·simp only[V.agg.injEq,gC,V.int.injEq,true_and,and_true]at e2
   obtain⟨rfl,rfl⟩:=e2
   have kr:=fun (o1 o2:O)=>(kk.set (i:=N+1+1) (o:=o1) (by omega))
   by_cases DE: -9223372036854775808<=n1+n2/\n1+n2<9223372036854775808
   ·have w1:bn .i64 (n1+n2)=n1+n2:=cL (by omega) (by omega)
    by_cases hp:0<n2
    ·have c1:n1<n1+n2:=by omega
     simp(disch:=first|(simp;done)|omega|(simp only[Zab,aq,ak];omega)|rfl) [-getElem?_pos,A.b183,aJ,aE,ag,aL,w1,hp,c1,aF]
     exact⟨kk.set (by omega),In.small (by omega) (by omega)⟩
    ·have c1:¬n1<n1+n2:=by omega
     simp(disch:=first|(simp;done)|omega|(simp only[Zab,aq,ak];omega)|rfl) [-getElem?_pos,A.b183,aJ,aE,ag,aL,w1,hp,c1,aF]
     exact⟨kk.set (by omega),In.small (by omega) (by omega)⟩
   ·obtain⟨y,rV⟩:∃y,bn .i64 (n1+n2)=y:=⟨_,rfl⟩
    have wj:y=n1+n2-18446744073709551616/\0<n2\/y=n1+n2+18446744073709551616/\¬0<n2:=by
     rw[<-rV,zB]
     simp only[IntKind.wrap,IntKind.bits,IntKind.signed]
     simp
     omega
    by_cases hp:0<n2
    ·have c1:¬n1<y:=by omega
     simp(disch:=first|(simp;done)|omega|(simp only[Zab,aq,ak];omega)|rfl) [-getElem?_pos,A.b183,aJ,aE,ag,aL,rV,hp,c1]
     exact go _ (by simp) (by simp) (by simp)
    ·have c1:n1<y:=by omega
     simp(disch:=first|(simp;done)|omega|(simp only[Zab,aq,ak];omega)|rfl) [-getElem?_pos,A.b183,aJ,aE,ag,aL,rV,hp,c1]
     exact go _ (by simp) (by simp) (by simp)
  ·simp only[V.agg.injEq,gC,V.int.injEq,true_and,and_true]at e2
   obtain⟨rfl,rfl⟩:=e2
   simp(disch:=first|(simp;done)|omega|(simp only[Zab,aq,ak];omega)|rfl) [-getElem?_pos,A.b183,aJ,aE,ag,aL]
   exact go _ (by simp) (by simp) (by simp)
 ·simp only[V.agg.injEq,gC,V.int.injEq,true_and,and_true]at e1
  obtain⟨rfl,rfl⟩:=e1
  simp(disch:=first|(simp;done)|omega|(simp only[Zab,aq,ak];omega)|rfl) [-getElem?_pos,A.b183,aJ,aE,ag,aL,o2]
  exact go _ (by simp) (by simp) (by simp)
def Yhf(hx:In h N x a)(hy:In h N y b)(la:wl a<500000000000)(lb:wl b<500000000000):Fn A.C 191 [x,y] h N (fun v h' n'=>In h' n' v (a-b)):=by
 intro w
 rw[aV,A.k191 (by simp)]
 obtain⟨n1,u1,rfl,o1⟩:=hx.cells
 obtain⟨n2,u2,rfl,o2⟩:=hy.cells
 have kk:=aI (aI (aI (ae.refl (h:=h) (n:=N)) (.cells [.int .i64 n1,u1] 108 true)) (.cells [.int .i64 n2,u2] 108 true)) (.cells [.int .i64 0,.aa] 108 true)
 have OY:=My (hy.ah kk) lb
 have mI:=hx.ah kk
 unfold V.one at o1 o2
 simp(disch:=first|(simp;done)|omega|(simp only[Zab,aq,ak];omega)|rfl) [-getElem?_pos,A.b191,aJ,aE,ag,o1,o2]
 refine az OY ?_
 rintro v h1 Kt k1 hv
 simp(disch:=first|(simp;done)|omega|(simp only[Zab,aq,ak];omega)|rfl) [-getElem?_pos,]
 refine az (Qj (mI.ah k1) hv la (by rw[Qz];exact lb)) ?_
 rintro v2 h2 wY k2 jQ
 obtain⟨n5,u5,rfl,jy⟩:=jQ.cells
 unfold V.one at jy
 have k12:=k1.trans k2
 have vT:=k12.le
 have g2:=k12.get (N+1+1) (by omega)
 simp at g2
 have aP:N+1+1<wY:=by omega
 have fm:N+1+1<Kt:=by have:=k1.le;omega
 simp(disch:=first|(simp;done)|omega|(simp only[Zab,aq,ak];omega)|rfl) [-getElem?_pos,g2,jy,ag,bE,aP,fm,bU.bZ,aF]
 have he:a+ -b=a-b:=by omega
 rw[he]at jQ
 exact⟨(kk.trans k12).set (by omega),jQ.aG g2 (by simp) rfl⟩
def Yfl{H:T O}{n1 n2:Int}{u1 u2:V}{r0:T V}(hx:In H (N+3) (.agg [.int .i64 n1,u1]) a)(hy:In H (N+3) (.agg [.int .i64 n2,u2]) b)(la:wl a<500000000000)(lb:wl b<500000000000)(hK:ae h N H (N+3))
  (gx:H.get N=some (.cells [.int .i64 n1,u1] 108 true)) (gy:H.get (N+1)=some (.cells [.int .i64 n2,u2] 108 true)) (gz:H.get (N+2)=some (.cells [.int .i64 0,.aa] 108 true)) (r2:r0.get 2=some (.ptr N 0)) (r3:r0.get 3=some (.ptr (N+1) 0)) (r4:r0.get 4=some (.ptr (N+2) 0)):
  Code A.C none A.nH ⟨r0,66,[]⟩ ⟨H,N+3,[]⟩ (fun e fr st=>e=.ret/\∃r,fr=⟨r,66,[]⟩/\r.get 4=some (.ptr (N+2) 0)/\J9 h N (N+2) (a*b) st):=by
 rw[dk]
 simp(disch:=first|(simp;done)|omega|(simp only[Zab,aq,ak];omega)|rfl) [-getElem?_pos,A.nH,r2,gx,aJ,aE]
 refine az (CS hx) ?_
 rintro _ h1 N1 k1 ⟨ua,rfl,Qe⟩
 have ft:=k1.le
 have Qf:=(k1.get (N+1) (by omega)).trans gy
 have gz1:=(k1.get (N+2) (by omega)).trans gz
 simp(disch:=first|(simp;done)|omega|(simp only[Zab,aq,ak];omega)|rfl) [-getElem?_pos,r3,Qf,aJ,aE]
 refine az (CS (hy.ah k1)) ?_
 rintro _ h2 N2 k2 ⟨ub,rfl,Ka⟩
 have gJ:=k2.le
 have gz2:=(k2.get (N+2) (by omega)).trans gz1
 have vJ:=Qe.ah k2
 have EA:(aN a.natAbs).length<500000000000:=la
 have TZ:(aN b.natAbs).length<500000000000:=lb
 have kA:=(hK.trans k1).trans k2
 have RB:=C2 a b
 simp(disch:=first|(simp;done)|omega|(simp only[Zab,aq,ak];omega)|rfl) [-getElem?_pos,aL]
 refine az (Ztn vJ Ka (by omega) (by omega)) ?_
 rintro v h3 N3 k3 hv
 have hmul:a.natAbs*b.natAbs=(a*b).natAbs:=(uI a b).symm
 rw[hmul]at hv
 simp(disch:=first|(simp;done)|omega|(simp only[Zab,aq,ak];omega)|rfl) [-getElem?_pos,]
 refine az (Et hv (by unfold wl at RB la lb;omega)) ?_
 rintro v h4 N4 k4 hv
 obtain⟨n5,u5,rfl,jy⟩:=hv.cells
 have Ax:=((k3.trans k4).get (N+2) (by omega)).trans gz2
 have tr:=(k3.trans k4).le
 unfold V.one at jy
 have hs:=Zvn a b
 have he:(if (!decide (a<0)==decide (b<0))=true then -((a*b).natAbs:Int) else (a*b).natAbs)=a*b:=by
  have h0:a=0\/b=0->a*b=0:=by rintro(rfl|rfl)<;>simp
  by_cases h1:a<0<;>by_cases h2:b<0<;>simp[h1,h2]at hs ⊢<;>omega
 rw[he]at hv
 simp(disch:=first|(simp;done)|omega|(simp only[Zab,aq,ak];omega)|rfl) [-getElem?_pos,Ax,jy,ag,bE,r4]
 exact⟨by simp[aD],((kA.trans k3).trans k4).set (by omega),n5,u5,by simp,hv.aG Ax (by simp) rfl⟩
def Ap(hx:In h N x a)(hy:In h N y b)(la:wl a<500000000000)(lb:wl b<500000000000):Fn A.C 164 [x,y] h N (fun v h' n'=>In h' n' v (a*b)):=by
 intro w
 rw[aV,A.k164 (by simp)]
 obtain⟨n1,u1,rfl,o1⟩:=hx.cells
 obtain⟨n2,u2,rfl,o2⟩:=hy.cells
 have kk:=aI (aI (aI (ae.refl (h:=h) (n:=N)) (.cells [.int .i64 n1,u1] 108 true)) (.cells [.int .i64 n2,u2] 108 true)) (.cells [.int .i64 0,.aa] 108 true)
 unfold V.one at o1 o2
 have go:∀r:T V,r.get 2=some (.ptr N 0)->r.get 3=some (.ptr (N+1) 0)->r.get 4=some (.ptr (N+2) 0)->bH A.C [.fin [.cell 4 (some 2)] ⟨h,N,w⟩] (fx (A.C.code none A.nH ⟨r,66,[]⟩ ⟨((h.set N (.cells [.int .i64 n1,u1] 108 true)).set (N+1) (.cells [.int .i64 n2,u2] 108 true)).set (N+1+1) (.cells [.int .i64 0,.aa] 108 true),N+1+1+1,[]⟩)) (Co (aF (fun v h' n'=>In h' n' v (a*b)) h N w)):=by
  intro r r2 r3 r4
  refine mJ (Yfl (hx.ah kk) (hy.ah kk) la lb kk (by simp) (by simp) (by simp) r2 r3 r4) ?_
  rintro e fr ⟨h5,n5,w5⟩ ⟨rfl,r',rfl,Qn,hW,hK,n6,u6,g6,hi⟩
  simp only at hW hK g6 hi
  simp(disch:=first|(simp;done)|omega|(simp only[Zab,aq,ak];omega)|rfl) [-getElem?_pos,Qn,g6,aJ,aE,aF,hW]
  exact⟨hK,hi⟩
 rcases id hx with⟨e1,s1,s2⟩|⟨i,o,l,c,e1,_⟩
 ·simp only[V.agg.injEq,gC,V.int.injEq,true_and,and_true]at e1
  obtain⟨rfl,rfl⟩:=e1
  rcases id hy with⟨e2,t1,t2⟩|⟨i,o,l,c,e2,_⟩
  ·simp only[V.agg.injEq,gC,V.int.injEq,true_and,and_true]at e2
   obtain⟨rfl,rfl⟩:=e2
   have z1:=fun st=>Zsx s1 s2 (st:=st)
   have z2:=fun st=>Zsx t1 t2 (st:=st)
   have hm:n1.natAbs*n2.natAbs=(n1*n2).natAbs:=(uI _ _).symm
   have fZ:bC (n1.natAbs*n2.natAbs)+18446744073709551616*cC (n1.natAbs*n2.natAbs)=(n1*n2).natAbs:=by
    rw[<-hm]
    have:=tW (n1.natAbs*n2.natAbs) 18446744073709551616
    unfold bC cC;omega
   have RE:=Zvn n1 n2
   obtain⟨hi,iZ⟩:∃x,cC (n1.natAbs*n2.natAbs)=x:=⟨_,rfl⟩
   obtain⟨lo,zY⟩:∃x,bC (n1.natAbs*n2.natAbs)=x:=⟨_,rfl⟩
   rw[iZ,zY]at fZ
   have hz:n1=0\/n2=0->n1*n2=0:=by rintro(rfl|rfl)<;>simp
   simp(disch:=first|(simp;done)|omega|(simp only[Zab,aq,ak];omega)|rfl) [-getElem?_pos,A.b164,aJ,aE,ag,aL,z1,z2]
   refine az (PT (x:=n1.natAbs) (y:=n2.natAbs) (by omega) (by omega)) ?_
   rintro _ h' N' k ⟨rfl,rfl,rfl⟩
   rw[iZ,zY]
   have d1:¬N=N+1:=by omega
   by_cases h0:hi=0
   ·by_cases h1:lo<=9223372036854775807
    ·have iW:(lo:Int)<=9223372036854775807:=by omega
     have w1:bn .i64 (lo:Int)=lo:=cL (by omega) (by omega)
     have w2:IntKind.wrap .i64 (-(lo:Int))= -(lo:Int):=Pz (by omega) (by omega)
     by_cases hs:(n1<0)=(n2<0)
     ·have kQ:(decide (n1<0)==decide (n2<0))=true:=by simp[hs]
      have hp:¬n1*n2<0:=by rw[RE];rintro⟨p,_⟩;exact p hs
      have he:(lo:Int)=n1*n2:=by omega
      simp(disch:=first|(simp;done)|omega|(simp only[Zab,aq,ak];omega)|rfl) [-getElem?_pos,aJ,aE,ag,aL,h0,iW,kQ,w1,aF,bU.bZ]
      exact⟨kk.set (by omega),by rw[<-he];exact In.small (by omega) (by omega)⟩
     ·have kQ:(decide (n1<0)==decide (n2<0))=false:=by
       by_cases h:n1<0<;>by_cases h':n2<0<;>simp_all
      have he: -(lo:Int)=n1*n2:=by
       by_cases hq:n1=0\/n2=0
       ·have:=hz hq;omega
       ·have:n1*n2<0:=RE.2 ⟨hs,fun h=>hq (.inl h),fun h=>hq (.inr h)⟩
        omega
      simp(disch:=first|(simp;done)|omega|(simp only[Zab,aq,ak];omega)|rfl) [-getElem?_pos,aJ,aE,ag,aL,h0,iW,kQ,w1,w2,aF,bU.bZ]
      exact⟨kk.set (by omega),by rw[<-he];exact In.small (by omega) (by omega)⟩
    ·have iW:¬(lo:Int)<=9223372036854775807:=by omega
     simp(disch:=first|(simp;done)|omega|(simp only[Zab,aq,ak];omega)|rfl) [-getElem?_pos,aJ,aE,ag,aL,h0,iW,bU.bZ]
     exact go _ (by simp) (by simp) (by simp)
   ·simp(disch:=first|(simp;done)|omega|(simp only[Zab,aq,ak];omega)|rfl) [-getElem?_pos,aJ,aE,ag,aL,h0,bU.bZ]
    exact go _ (by simp) (by simp) (by simp)
  ·simp only[V.agg.injEq,gC,V.int.injEq,true_and,and_true]at e2
   obtain⟨rfl,rfl⟩:=e2
   simp(disch:=first|(simp;done)|omega|(simp only[Zab,aq,ak];omega)|rfl) [-getElem?_pos,A.b164,aJ,aE,ag,aL]
   exact go _ (by simp) (by simp) (by simp)
 ·simp only[V.agg.injEq,gC,V.int.injEq,true_and,and_true]at e1
  obtain⟨rfl,rfl⟩:=e1
  simp(disch:=first|(simp;done)|omega|(simp only[Zab,aq,ak];omega)|rfl) [-getElem?_pos,A.b164,aJ,aE,ag,aL,o2]
  exact go _ (by simp) (by simp) (by simp)
def Yh6(hx:In h N x a)(hy:In h N y b)(la:wl a<100000000000)(lb:wl b<100000000000):Fn A.C 135 [x,y] h N (fun v _ _=>v=.int .i64 (df (a-b))):=by
 intro w
 rw[aV,A.k135 (by simp)]
 obtain⟨n1,u1,rfl,o1⟩:=hx.cells
 obtain⟨n2,u2,rfl,o2⟩:=hy.cells
 have kk:=aI (aI (ae.refl (h:=h) (n:=N)) (.cells [.int .i64 n1,u1] 108 true)) (.cells [.int .i64 n2,u2] 108 true)
 have JC:=Yhf (hx.ah kk) (hy.ah kk) (by omega) (by omega)
 have RB:=Zzk a (-b)
 rw[Qz]at RB
 unfold V.one at o1 o2
 rcases id hx with⟨e1,s1,s2⟩|⟨i,o,l,c,e1,_⟩
 ·simp only[V.agg.injEq,gC,V.int.injEq,true_and,and_true]at e1
  obtain⟨rfl,rfl⟩:=e1
  rcases id hy with⟨e2,t1,t2⟩|⟨i,o,l,c,e2,_⟩
  ·simp only[V.agg.injEq,gC,V.int.injEq,true_and,and_true]at e2
   obtain⟨rfl,rfl⟩:=e2
   by_cases h1:n1<n2
   ·simp(disch:=first|(simp;done)|omega|(simp only[Zab,aq,ak];omega)|rfl) [-getElem?_pos,A.b135,aJ,aE,ag,aF,aL,h1]
    exact⟨kk,by unfold df;rw[aQ (by omega)]⟩
   ·by_cases h2:n2<n1
    ·simp(disch:=first|(simp;done)|omega|(simp only[Zab,aq,ak];omega)|rfl) [-getElem?_pos,A.b135,aJ,aE,ag,aF,aL,h1,h2]
     exact⟨kk,by unfold df;rw[aA (by omega),aA (by omega)]⟩
    ·simp(disch:=first|(simp;done)|omega|(simp only[Zab,aq,ak];omega)|rfl) [-getElem?_pos,A.b135,aJ,aE,ag,aF,aL,h1,h2]
     exact⟨kk,by unfold df;rw[aA (by omega),aQ (by omega)]⟩
  ·simp only[V.agg.injEq,gC,V.int.injEq,true_and,and_true]at e2
   obtain⟨rfl,rfl⟩:=e2
   simp(disch:=first|(simp;done)|omega|(simp only[Zab,aq,ak];omega)|rfl) [-getElem?_pos,A.b135,aJ,aE,ag,aL]
   refine az JC ?_
   rintro v h1 Kt k1 hv
   simp(disch:=first|(simp;done)|omega|(simp only[Zab,aq,ak];omega)|rfl) [-getElem?_pos,]
   refine az (JY hv) ?_
   rintro _ h2 wY k2 rfl
   simp(disch:=first|(simp;done)|omega|(simp only[Zab,aq,ak];omega)|rfl) [-getElem?_pos,aF]
   exact(kk.trans k1).trans k2
 ·simp only[V.agg.injEq,gC,V.int.injEq,true_and,and_true]at e1
  obtain⟨rfl,rfl⟩:=e1
  simp(disch:=first|(simp;done)|omega|(simp only[Zab,aq,ak];omega)|rfl) [-getElem?_pos,A.b135,aJ,aE,ag,aL,o2]
  refine az JC ?_
  rintro v h1 Kt k1 hv
  simp(disch:=first|(simp;done)|omega|(simp only[Zab,aq,ak];omega)|rfl) [-getElem?_pos,]
  refine az (JY hv) ?_
  rintro _ h2 wY k2 rfl
  simp(disch:=first|(simp;done)|omega|(simp only[Zab,aq,ak];omega)|rfl) [-getElem?_pos,aF]
  exact(kk.trans k1).trans k2
def Yic(hx:In h N x a)(la:wl a<500000000000):Fn A.C 228 [x] h N (fun v h' n'=>In h' n' v (a.natAbs:Int)):=by
 intro w
 rw[aV,A.k228 (by simp)]
 obtain⟨n1,u1,rfl,o1⟩:=hx.cells
 have kk:=aI (aI (ae.refl (h:=h) (n:=N)) (.cells [.int .i64 n1,u1] 108 true)) (.cells [.int .i64 0,.aa] 108 true)
 have OY:=My (hx.ah kk) la
 have Rb:(n1<0)=(a<0):=by
  rcases hx with⟨e1,s1,s2⟩|⟨i,o,l,c,e1,_⟩
  ·simp only[V.agg.injEq,gC,V.int.injEq,true_and,and_true]at e1
   rw[e1.1]
  ·simp only[V.agg.injEq,gC,V.int.injEq,true_and,and_true]at e1
   rw[e1.1];unfold xO;split<;>simp_all
 unfold V.one at o1
 by_cases h0:a<0
 ·have h1:n1<0:=by rw[Rb];exact h0
  simp(disch:=first|(simp;done)|omega|(simp only[Zab,aq,ak];omega)|rfl) [-getElem?_pos,A.b228,aJ,aE,ag,o1,h1]
  refine az OY ?_
  rintro v h2 n2 k2 hv
  obtain⟨n5,u5,rfl,jy⟩:=hv.cells
  unfold V.one at jy
  have vT:=k2.le
  have g2:=k2.get (N+1) (by omega)
  simp at g2
  have he:(-a)=(a.natAbs:Int):=by omega
  rw[he]at hv
  simp(disch:=first|(simp;done)|omega|(simp only[Zab,aq,ak];omega)|rfl) [-getElem?_pos,g2,jy,ag,bE,aJ,aE,aF]
  exact⟨(kk.trans k2).set (by omega),hv.aG g2 (by simp) rfl⟩
 ·have h1:¬n1<0:=by rw[Rb];exact h0
  have he:a=(a.natAbs:Int):=by omega
  rw[he]at hx
  simp(disch:=first|(simp;done)|omega|(simp only[Zab,aq,ak];omega)|rfl) [-getElem?_pos,A.b228,aJ,aE,ag,bE,o1,h1,aF]
  exact⟨kk.set (by omega),(hx.ah kk).aG (i:=N+1) (c0:=[.int .i64 0,.aa]) (e0:=108) (w0:=true) (by simp) (by simp) rfl⟩
end
end Go.Mx
