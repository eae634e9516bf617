/-The table of the known runs is sound, fo-/
import Derived.Test.YtjjmkflbfpeagaaGreatDoorAwT0
import Derived.Test.YtjjmkflbfpeagaaGreatDoorAwT3
import Derived.Test.YtjjmkflbfpeagaaGreatDoorAwT4
import Derived.Test.YtjjmkflbfpeagaaGreatDoorAwT5
set_option linter.all false
namespace Go.Mx
noncomputable section
open Go
set_option maxRecDepth 1000000
section
variable {P:Program} (hP:Bu P A.dw 10)
include hP
def A.t0:b_ P A.TB A.L0 A.E:=b_.nil.p1 hP A.z0
def A.t1:b_ P A.TB A.L1 A.E:=(A.t0 hP).p1 hP A.z1
def A.t2:b_ P A.TB A.L2 A.E:=(A.t1 hP).p1 hP A.z2
def A.t3:b_ P A.TB A.L3 A.E:=(A.t2 hP).p1 hP A.z3
def A.t4:b_ P A.TB A.L4 A.E:=(A.t3 hP).p1 hP A.z4
def A.t5:b_ P A.TB A.L5 A.E:=(A.t4 hP).p1 hP A.z5
def A.t6:b_ P A.TB A.L6 A.E:=(A.t5 hP).p1 hP A.z6
def A.t7:b_ P A.TB A.L7 A.E:=(A.t6 hP).p1 hP A.z7
def A.t8:b_ P A.TB A.L8 A.E:=(A.t7 hP).p1 hP A.z8
def A.t9:b_ P A.TB A.L9 A.E:=(A.t8 hP).p1 hP A.z9
def A.t10:b_ P A.TB A.PA A.E:=(A.t9 hP).p1 hP A.PB
def A.t11:b_ P A.TB A.CN A.E:=(A.t10 hP).p1 hP A.z11
def A.t12:b_ P A.TB A.CN A.E0:=(A.t11 hP).e1 hP A.z12
def A.t13:b_ P A.TB A.CN A.E1:=(A.t12 hP).e1 hP A.z13
def A.t14:b_ P A.TB A.bC A.E1:=(A.t13 hP).p1 hP A.z14
def A.t15:b_ P A.TB A.bC A.E2:=(A.t14 hP).e1 hP A.z15
def A.t16:b_ P A.TB A.bC A.E3:=(A.t15 hP).e1 hP A.z16
def A.t17:b_ P A.TB A.bC A.E4:=(A.t16 hP).e1 hP A.z17
def A.t18:b_ P A.TB A.bC A.E5:=(A.t17 hP).e1 hP A.z18
def A.t19:b_ P A.TB A.bC A.E6:=(A.t18 hP).e1 hP A.z19
def A.t20:b_ P A.TB A.bC A.E7:=(A.t19 hP).e1 hP A.z20
def A.t21:b_ P A.TB A.bC A.E8:=(A.t20 hP).e1 hP A.z21
def A.t22:b_ P A.TB A.bC A.E9:=(A.t21 hP).e1 hP A.z22
def A.t23:b_ P A.TB A.bC A.PC:=(A.t22 hP).e1 hP A.z23
def A.t24:b_ P A.TB A.bC A.PD:=(A.t23 hP).e1 hP A.z24
def A.t25:b_ P A.TB A.bC A.Mm:=(A.t24 hP).e1 hP A.z25
def A.t26:b_ P A.TB A.bC A.PE:=(A.t25 hP).e1 hP A.z26
def A.t27:b_ P A.TB A.bC A.PF:=(A.t26 hP).e1 hP A.z27
def A.t28:b_ P A.TB A.bC A.PG:=(A.t27 hP).e1 hP A.z28
def A.t29:b_ P A.TB A.bC A.PH:=(A.t28 hP).e1 hP A.z29
def A.t30:b_ P A.TB A.bC A.PI:=(A.t29 hP).e1 hP A.z30
def A.t31:b_ P A.TB A.bC A.PJ:=(A.t30 hP).e1 hP A.z31
def A.t32:b_ P A.TB A.bC A.PL:=(A.t31 hP).e1 hP A.z32
def A.t33:b_ P A.TB A.bC A.PM:=(A.t32 hP).e1 hP A.z33
def A.t34:b_ P A.TB A.bC A.PN:=(A.t33 hP).e1 hP A.z34
def A.t35:b_ P A.TB A.bC A.PO:=(A.t34 hP).e1 hP A.z35
def A.t36:b_ P A.TB A.bC A.PQ:=(A.t35 hP).e1 hP A.z36
def A.t37:b_ P A.TB A.bC A.PR:=(A.t36 hP).e1 hP A.z37
def A.t38:b_ P A.TB A.bC A.PS:=(A.t37 hP).e1 hP A.z38
def A.t39:b_ P A.TB A.bC A.PT:=(A.t38 hP).e1 hP A.z39
def A.t40:b_ P A.TB A.bC A.PU:=(A.t39 hP).e1 hP A.z40
def A.t41:b_ P A.TB A.bC A.PV:=(A.t40 hP).e1 hP A.z41
def A.t42:b_ P A.TB A.bC A.PW:=(A.t41 hP).e1 hP A.z42
def A.t43:b_ P A.TB A.bC A.PX:=(A.t42 hP).e1 hP A.z43
def A.t44:b_ P A.TB A.bC A.PY:=(A.t43 hP).e1 hP A.z44
def A.t45:b_ P A.TB A.bC A.PZ:=(A.t44 hP).e1 hP A.z45
def A.t46:b_ P A.TB A.bC A.P0:=(A.t45 hP).e1 hP A.z46
def A.t47:b_ P A.TB A.bC A.P1:=(A.t46 hP).e1 hP A.z47
def A.t48:b_ P A.TB A.bC A.P2:=(A.t47 hP).e1 hP A.z48
def A.t49:b_ P A.TB A.bC A.P3:=(A.t48 hP).e1 hP A.z49
def A.t50:b_ P A.TB A.bC A.P4:=(A.t49 hP).e1 hP A.z50
def A.t51:b_ P A.TB A.bC A.P6:=(A.t50 hP).e1 hP A.z51
def A.t52:b_ P A.TB A.bC A.P7:=(A.t51 hP).e1 hP A.z52
def A.t53:b_ P A.TB A.bC A.P9:=(A.t52 hP).e1 hP A.z53
def A.t54:b_ P A.TB A.bC A.Qa:=(A.t53 hP).e1 hP A.z54
def A.t55:b_ P A.TB A.bC A.Qc:=(A.t54 hP).e1 hP A.z55
def A.t56:b_ P A.TB A.bC A.Qd:=(A.t55 hP).e1 hP A.z56
def A.t57:b_ P A.TB A.bC A.Qe:=(A.t56 hP).e1 hP A.z57
def A.t58:b_ P A.TB A.bC A.Qf:=(A.t57 hP).e1 hP A.z58
def A.t59:b_ P A.TB A.bC A.Qg:=(A.t58 hP).e1 hP A.z59
def A.t60:b_ P A.TB A.bC A.Qh:=(A.t59 hP).e1 hP A.z60
def A.t61:b_ P A.TB A.bC A.Qi:=(A.t60 hP).e1 hP A.z61
def A.t62:b_ P A.TB A.bC A.Qj:=(A.t61 hP).e1 hP A.z62
def A.t63:b_ P A.TB A.bC A.Mn:=(A.t62 hP).e1 hP A.z63
def A.t64:b_ P A.TB A.Wx A.Mn:=(A.t63 hP).p1 hP A.z64
end
open Go Go.Proofs
def A.xOk:iO Tryz.prog A.C.x:=Wy fun e he=>by
 simp only[jy,List.not_mem_nil,or_false]at he
 subst he
 exact(A.t64 A.wY).p ⟨5,[],.bool true⟩ (nT (l:=A.bC))
variable {s:aU}
def A.Wz:=A.q Tryz.f36
def A.oL:=A.ql A.Wz 0 []
def A.b36:=(fun x0=>A.qb A.Wz [x0]) A.oL
def A.k36:=@A.kk 36 17 [.tmp 2] A.b36 (by kernel_rfl) rfl
def A.WA:=A.q Tryz.f83
def A.me:=A.ql A.WA 0 []
def A.b83:=(fun x0=>A.qb A.WA [x0]) A.me
def A.k83:=@A.kk 83 20 [.tmp 2] A.b83 (by kernel_rfl) rfl
def A.b37:=A.q Tryz.f37
def A.k37:=@A.kk 37 18 [.tmp 2] A.b37 (by kernel_rfl) rfl
def A.WB:=A.q Tryz.f87
def A.rI:=A.ql A.WB 0 []
def A.b87:=(fun x0=>A.qb A.WB [x0]) A.rI
def A.k87:=@A.kk 87 20 [.tmp 2] A.b87 (by kernel_rfl) rfl
def Bv{st:St}(hl:s.length<9223372036854775808):A.C.call (.func 36 [] []) [.str s] st=some (.int .i64 (ah s:Nat),st):=by
 apply Call.eq
 rw[aQ,A.k36 (by simp)]
 simp(disch:=first|(simp;done)|omega|rfl) [-getElem?_pos,A.b36]
 refine cX [(2,14)] (fun e r s1=>s1=⟨st.h,st.n,[]⟩/\((e=.exit 0/\ah s=s.length)\/(e=.ret/\r.get 2=some (.int .i64 (ah s:Nat))))) (fun m r s1=>s1=⟨st.h,st.n,[]⟩/\∃k,k+m=s.length/\r.get 3=some (.int .i64 k)/\ah s=k+ah (s.drop k)) s.length ?_ ?_ ?_
 ·exact⟨rfl,0,by omega,by simp,by simp⟩
 ·rintro m r _ hr hf ⟨rfl,k,hk,h3,hz⟩
  rw[cm]
  cases m with
  |zero=>
   have:k=s.length:=by omega
   subst this
   rw[vS,ah]at hz
   simp(disch:=first|(simp;done)|omega|rfl) [-getElem?_pos,A.oL,hr,hf,h3]
   omega
  |succ m=>
   obtain⟨c,hc⟩:=eA (l:=s) (k:=k) (by omega)
   have ew:(k:Int)<(s.length:Int):=by omega
   have kf:k<s.length:=by omega
   rw[qm hc,ah]at hz
   by_cases h47:cJ c=47
   ·rw[aJ (by unfold cJ at h47;omega)]at hz
    simp(disch:=first|(simp;done)|omega|rfl) [-getElem?_pos,A.oL,hr,hf,h3,ew,hc,h47]
    rw[hz];simp
   ·rw[aq (by unfold cJ at h47;omega)]at hz
    simp(disch:=first|(simp;done)|omega|rfl) [-getElem?_pos,A.oL,hr,hf,h3,ew,hc,h47]
    exact⟨m,by omega,k+1,by omega,by simp,by omega⟩
 ·rintro e r _ hr ⟨rfl,⟨rfl,hz⟩|⟨rfl,h2⟩⟩
  ·simp(disch:=first|(simp;done)|omega|rfl) [-getElem?_pos,hr,hz]
  ·simp(disch:=first|(simp;done)|omega|rfl) [-getElem?_pos,h2]
def Yc7{st:St}(hl:s.length<9223372036854775808):A.C.call (.func 83 [] []) [.str s] st=some (.bool (cF s),st):=by
 apply Call.eq
 rw[aQ,A.k83 (by simp)]
 simp(disch:=first|(simp;done)|omega|rfl) [-getElem?_pos,A.b83]
 refine cX [(2,19)] (fun e r s1=>s1=⟨st.h,st.n,[]⟩/\((e=.exit 0/\cF s=true)\/(e=.ret/\cF s=false/\r.get 2=some (.bool false)))) (fun m r s1=>s1=⟨st.h,st.n,[]⟩/\∃k,k+m=s.length/\r.get 3=some (.int .i64 k)/\cF s=cF (s.drop k)) s.length ?_ ?_ ?_
 ·exact⟨rfl,0,by omega,by simp,by simp⟩
 ·rintro m r _ hr hf ⟨rfl,k,hk,h3,hz⟩
  rw[cm]
  cases m with
  |zero=>
   have:k=s.length:=by omega
   subst this
   rw[vS]at hz
   have hz:cF s=true:=hz
   simp(disch:=first|(simp;done)|omega|rfl) [A.me,hr,hf,h3,hz]
  |succ m=>
   obtain⟨c,hc⟩:=eA (l:=s) (k:=k) (by omega)
   have ew:(k:Int)<(s.length:Int):=by omega
   have kf:k<s.length:=by omega
   have fm:cF s=(jz c&&cF (s.drop (k+1))):=by rw[hz,qm hc];rfl
   rw[Qk]at fm
   by_cases h1:cJ c<48
   ·have:¬(48<=cJ c/\cJ c<=57):=by omega
    rw[decide_eq_false this,Bool.false_and]at fm
    simp(disch:=first|(simp;done)|omega|rfl) [-getElem?_pos,A.me,hr,hf,h3,ew,hc,h1,fm]
   ·by_cases h2:57<cJ c
    ·have:¬(48<=cJ c/\cJ c<=57):=by omega
     rw[decide_eq_false this,Bool.false_and]at fm
     simp(disch:=first|(simp;done)|omega|rfl) [-getElem?_pos,A.me,hr,hf,h3,ew,hc,h1,h2,fm]
    ·have:(48<=cJ c/\cJ c<=57):=by omega
     rw[decide_eq_true this,Bool.true_and]at fm
     simp(disch:=first|(simp;done)|omega|rfl) [-getElem?_pos,A.me,hr,hf,h3,ew,hc,h1,h2]
     exact⟨m,by omega,k+1,by omega,by simp,fm⟩
 ·rintro e r _ hr ⟨rfl,⟨rfl,hz⟩|⟨rfl,hz,h2⟩⟩
  ·simp(disch:=first|(simp;done)|omega|rfl) [-getElem?_pos,hz]
  ·simp(disch:=first|(simp;done)|omega|rfl) [-getElem?_pos,h2,hz]
def Hx{s:aU}{st:St}(hl:s.length<9223372036854775808):A.C.call (.func 37 [] []) [.str s] st=some (.bool (g_ s),st):=by
 apply Call.eq
 rw[aQ,A.k37 (by simp)]
 cases s with
 |nil=>simp[A.b37,g_]
 |cons c s=>
  have hd:g_ (c::s)=(cF (c::s)&&(decide (cJ c≠48)||decide (s=[]))):=by
   have:decide (c.toNat≠48)=decide (cJ c≠48):=by unfold cJ;rw[decide_eq_decide];omega
   simp only[g_,this];rfl
  have WC:=fun st=>Yc7 (s:=c::s) (st:=st) hl
  by_cases h0:s=[]
  ·subst h0
   simp[A.b37,hd,WC]
  ·have h1:0<s.length:=by
    cases s with
    |nil=>exact absurd rfl h0
    |cons=>simp
   have a1:¬((s.length:Int)+1=0):=by omega
   have a2:(1:Int)<(s.length:Int)+1:=by omega
   have a3:(0:Int)<(s.length:Int):=by omega
   by_cases h48:cJ c=48
   ·simp[A.b37,hd,h0,a1,a2,h48]
   ·simp[A.b37,hd,WC,h0,a1,a2,h48]
def Hy{st:St}(hd:cF s=true)(hl:s.length<=18):A.C.call (.func 87 [] []) [.str s] st=some (.int .i64 (aD s:Nat),st):=by
 apply Call.eq
 rw[aQ,A.k87 (by simp)]
 simp[A.b87]
 refine cX [(3,18)] (fun e r s1=>s1=⟨st.h,st.n,[]⟩/\e=.exit 0/\r.get 3=some (.int .i64 (aD s:Nat))) (fun m r s1=>s1=⟨st.h,st.n,[]⟩/\∃k,k+m=s.length/\r.get 4=some (.int .i64 k)/\r.get 3=some (.int .i64 (aD (s.take k):Nat))) s.length ?_ ?_ ?_
 ·exact⟨rfl,0,by omega,by simp,by simp[aD]⟩
 ·rintro m r _ hr hf ⟨rfl,k,hk,h4,h3⟩
  rw[cm]
  cases m with
  |zero=>
   have:k=s.length:=by omega
   subst this
   rw[yN]at h3
   simp[A.rI,hr,hf,h4,h3]
  |succ m=>
   obtain⟨c,hc⟩:=eA (l:=s) (k:=k) (by omega)
   have ew:(k:Int)<(s.length:Int):=by omega
   have kf:k<s.length:=by omega
   have qo:=Hz hd hc
   have hv:=Ql hc
   have Qm:=Mo hd k (by omega)
   have oM:=Mp (a:=k) (b:=17) (by omega)
   have b3:((aD (s.take (k+1)):Nat):Int)=10*(aD (s.take k):Nat)+cJ c-48:=by
    rw[hv];unfold cJ at*;omega
   have b4:((aD (s.take k):Nat):Int)<100000000000000000:=by
    have:(10:Nat)^17=100000000000000000:=by decide
    omega
   generalize hy:aD (s.take (k+1))=y at*
   generalize aD (s.take k)=x at*
   simp(disch:=first|(simp;done)|omega|rfl) [-getElem?_pos,A.rI,hr,hf,h4,h3,ew,hc]
   exact⟨m,by omega,k+1,by omega,by simp,by rw[hy,b3]⟩
 ·rintro e r _ hr ⟨rfl,rfl,h3⟩
  simp[h3]
def A.HE:=A.q Tryz.f137
def A.kL:=A.ql A.HE 0 []
def A.b137:=(fun x0=>A.qb A.HE [x0]) A.kL
def A.k137:=@A.kk 137 21 [.tmp 2] A.b137 (by kernel_rfl) rfl
def A.b92:=A.q Tryz.f92
def A.k92:=@A.kk 92 15 [.cell 4 (some 2)] A.b92 (by kernel_rfl) rfl
def A.HF:=A.q Tryz.f135
def A.iX:=A.ql A.HF 0 []
def A.b135:=(fun x0=>A.qb A.HF [x0]) A.iX
def A.k135:=@A.kk 135 41 [.tmp 4] A.b135 (by kernel_rfl) rfl
def A.HG:=A.q Tryz.f136
def A.oO:=A.ql A.HG 0 []
def A.b136:=(fun x0=>A.qb A.HG [x0]) A.oO
def A.k136:=@A.kk 136 39 [.tmp 4,.tmp 5] A.b136 (by kernel_rfl) rfl
def CO{h:T O}{N:Nat}{v:V}{l:List Int}(hs:Sl h N v (dI l))(hl:l.length<1152921504606846976):Fn A.C 137 [v] h N (fun v' h' N'=>Sl h' N' v' (dI (oP l))):=by
 intro w
 rw[aQ,A.k137 (by simp)]
 simp[A.b137]
 refine cX [(0,0),(3,19)] (fun e r st=>e=.exit 0/\st=⟨h,N,[]⟩/\∃u,r.get 0=some u/\Sl h N u (dI (oP l))) (fun m r st=>st=⟨h,N,[]⟩/\m<=l.length/\∃u,r.get 0=some u/\Sl h N u (dI (l.take m))/\oP (l.take m)=oP l) l.length ?_ ?_ ?_
 ·exact⟨rfl,aR _,v,rfl,by rw[yN];exact hs,by rw[yN]⟩
 ·rintro m r _ hr hf ⟨rfl,hm,u,h0,hu,ht⟩
  rw[cm]
  have lu:=hu.len
  rw[f_,jH,nU hm]at lu
  cases m with
  |zero=>
   simp[A.kL,hf,h0,lu]
   rw[<-ht];exact hu
  |succ k=>
   obtain⟨d,hd⟩:=eA (l:=l) (k:=k) (by omega)
   have hd':(l.take (k+1))[k]?=some d:=by rw[kg,aJ (by omega)];exact hd
   obtain⟨i,o,c,e,rw,q1,q2,q3,q4⟩:=hu.at (fU hd')
   have e1:l.take (k+1)=l.take k++[d]:=by rw[CP,hd];rfl
   have k1:(0:Int)<(k:Int)+1:=by omega
   have k2:(k:Int)<(k:Int)+1:=by omega
   have k3:(k:Int)+1-1=(k:Int):=by omega
   by_cases hz:d=0
   ·subst hz
    rw[e1,Qn]at ht
    obtain⟨v',x1,x2⟩:=Mq (w:=[]) hu (lo:=0) (hi:=k) (tN _) (by rw[f_,jH];omega) none (some (.int .i64 k)) (.inr ⟨rfl,rfl⟩) (.inl rfl)
    have x3:((dI (l.take (k+1))).take k).drop 0=dI (l.take k):=by
     rw[yO,dI,<-List.map_take,List.take_take,nU (by omega)];rfl
    rw[x3]at x2
    simp(disch:=first|(simp;done)|omega|rfl) [A.kL,hf,h0,lu,k1,k3,q1,q3,q4,HH,az,x1]
    exact⟨k,by omega,by omega,x2,ht⟩
   ·rw[e1,WD hz,<-e1]at ht
    simp(disch:=first|(simp;done)|omega|rfl) [A.kL,hf,h0,lu,k1,k3,q1,q3,q4,hz]
    rw[<-ht];exact hu
 ·rintro _ r _ hr ⟨rfl,rfl,u,h0,hu⟩
  simp[h0,aA]
  exact⟨ad.refl,hu⟩
def Rg(h:T O)(N:Nat)(v:V)(z:Int):Prop:=∃u,v=.agg [.bool (decide (z<0)),u]/\Dn h N u z.natAbs
def tO{h:T O}{N:Nat}{v:V}{l:List Int}{b:Bool}{n:Nat}(hs:Sl h N v (dI l))(hd:Di l)(hn:vI l=n)(hl:l.length<1152921504606846976):Fn A.C 92 [.bool b,v] h N (fun v' h' N'=>Rg h' N' v' (if b=true then -(n:Int) else n)):=by
 intro w
 rw[aQ,A.k92 (by simp)]
 simp[A.b92]
 refine au (CO (hs.ae (ad.refl.new _)) hl) ?_
 rintro u h1 n1 k1 hu
 rw[CQ hd hn]at hu
 have lu:=hu.len
 rw[f_]at lu
 have vT:=k1.le
 have aE:=k1.get N (by omega)
 simp at aE
 have yQ:=hu.form.one
 have Mr:=hu.form.cells
 unfold V.one at yQ
 unfold V.cells at Mr
 have k0:=(ad.refl (h:=h) (n:=N)).new (.cells [.bool false,.aa] 88 true)
 have kx:=fun o=>((k0.trans k1).set (i:=N) (o:=o) (aR N))
 have eX:=fun c1 (hc:c1.length=2)=>hu.setInt (i:=N) (c1:=c1) (e1:=88) (w1:=true) aE (by intro x hx k m;simp at hx;rcases hx with rfl|rfl<;>simp) hc
 cases b with
 |false=>
  simp[ag,aE,yQ,Mr,bS,aL,aM,aA]
  refine⟨kx _,u,?_,?_⟩
  ·have:¬(n:Int)<0:=by omega
   simp
  ·exact eX _ rfl
 |true=>
  by_cases hz:n=0
  ·have rJ:(ds n).length=0:=by rw[hz,qq];rfl
   simp[lu,rJ,ag,aE,yQ,Mr,bS,aL,aM,aA]
   refine⟨kx _,u,?_,?_⟩
   ·simp[hz]
   ·simpa[hz,Dn]using eX _ rfl
  ·have rJ:¬(ds n).length=0:=fun hc=>hz (zV.1 (pV hc))
   have zW:(0:Int)<((ds n).length:Int):=by omega
   have pW:0<(ds n).length:=by omega
   have hl3:ds n≠[]:=fun hc=>hz (zV.1 hc)
   simp[lu,pW,ag,aE,yQ,Mr,bS,aL,aM,aA]
   refine⟨kx _,u,?_,?_⟩
   ·have: -(n:Int)<0:=by omega
    simp;try omega
   ·simpa[Dn]using eX _ rfl
def qX:∀{b a:Nat},a<=b->(ds a).length<=(ds b).length:=by
 intro b
 induction b using Nat.strongRecOn with
 |_ b ih=>
  intro a h
  by_cases h0:a=0
  ·rw[h0,qq];simp
  ·rw[wZ h0,wZ (n:=b) (by omega)]
   have:=ih (b/1000000000) (zX (by omega) (by decide)) (a:=a/1000000000) (Nat.div_le_div_right h)
   simp only[bf];omega
def HJ{A:List Int}{k:Nat}{x:Int}(hx:A[k]?=some x):vI A=vI (A.take k)+pI k*(x+1000000000*vI (A.drop (k+1))):=by
 have hk:=uZ hx
 rw[HK A k (by omega),qm hx,vI]
def WE{A B:List Int}{k:Nat}{x y:Int}(hA:Di A)(hB:Di B)(hx:A[k]?=some x)(hy:B[k]?=some y)(he:A.drop (k+1)=B.drop (k+1))(Ms:x<y):vI A<vI B:=by
 have hk:=uZ hx
 rw[HJ hx,HJ hy,he]
 have h1:=rK (hA.take k)
 have h2:=rL (hB.take k)
 rw[jH,nU (by omega)]at h1
 have h3:pI k*(x+1000000000*vI (B.drop (k+1))+1)<=pI k*(y+1000000000*vI (B.drop (k+1))):=oQ (by omega) (qY (zY k))
 have h4:pI k*(x+1000000000*vI (B.drop (k+1))+1)=pI k*(x+1000000000*vI (B.drop (k+1)))+pI k:=by grind
 omega
def yR(a b:Nat):Int:=if a<b then -1 else if b<a then 1 else 0
def Qo{h:T O}{N:Nat}{u v:V}{a b:Nat}{w:List Nat}(hu:Dn h N u a)(hv:Dn h N v b)(hl:(ds a).length<1152921504606846976)(pW:(ds b).length<1152921504606846976):A.C.call (.func 135 [] []) [u,v] ⟨h,N,w⟩=some (.int .i64 (yR a b),⟨h,N,w⟩):=by
 apply Call.eq
 have lu:=hu.len
 have lv:=hv.len
 rw[f_]at lu lv
 have va:=fQ a
 have vb:=fQ b
 have da:=fJ a
 have db:=fJ b
 rw[aQ,A.k135 (by simp)]
 unfold yR
 by_cases h1:(ds a).length=(ds b).length
 ·have h_:((ds a).length:Int)=((ds b).length:Int):=by omega
  simp(disch:=omega) [A.b135,lu,lv,h1]
  generalize hA:ds a=X at*
  generalize hB:ds b=Y at*
  refine cX [(4,5),(19,40)] (fun e r st=>st=⟨h,N,[]⟩/\((e=.exit 0/\a=b)\/(e=.ret/\a<b/\r.get 4=some (.int .i64 (-1)))\/(e=.ret/\b<a/\r.get 4=some (.int .i64 1)))) (fun m r st=>st=⟨h,N,[]⟩/\m<=X.length/\r.get 5=some (.int .i64 ((m:Int)-1))/\X.drop m=Y.drop m) X.length ?_ ?_ ?_
  ·exact⟨rfl,aR _,by simp[h1],by rw[vS,h1,vS]⟩
  ·rintro m r _ hr hf ⟨rfl,hm,h5,he⟩
   rw[cm]
   cases m with
   |zero=>
    have:a=b:=by
     simp at he;rw[he]at va;omega
    simp[A.iX,hf,h5,this]
   |succ k=>
    obtain⟨x,hx⟩:=eA (l:=X) (k:=k) (by omega)
    obtain⟨y,hy⟩:=eA (l:=Y) (k:=k) (by omega)
    obtain⟨b1,b2,b3,b4,b5,z1,z2,z3,z4⟩:=Sl.at (show Sl h N u (dI (ds a)) from hu) (by rw[hA];exact fU hx)
    obtain⟨c1,c2,c3,c4,c5,y1,y2,y3,y4⟩:=Sl.at (show Sl h N v (dI (ds b)) from hv) (by rw[hB];exact fU hy)
    have pX:(((k+1:Nat):Int)-1)=(k:Int):=by omega
    rw[pX]at h5
    have ew:(k:Int)<(X.length:Int):=by omega
    have kf:(k:Int)<(Y.length:Int):=by omega
    have zZ:(0:Int)<=(k:Int):=by omega
    have hk4:k<Y.length:=by omega
    by_cases aO:x<y
    ·have:=WE da db hx hy he aO
     have kh:a<b:=by omega
     simp[A.iX,hr,hf,h5,lu,lv,ew,kf,zZ,z1,z2,z3,z4,y1,y2,y3,y4,aO,kh]
    ·by_cases FW:y<x
     ·have:=WE db da hy hx he.symm FW
      have kh:b<a:=by omega
      have CR:¬a<b:=by omega
      simp[A.iX,hr,hf,h5,lu,lv,ew,kf,zZ,z1,z2,z3,z4,y1,y2,y3,y4,aO,FW,kh,CR]
     ·have Ms:x=y:=by omega
      simp(disch:=first|(simp;done)|omega|rfl) [A.iX,hr,hf,h5,lu,lv,zZ,z1,z2,z3,z4,y1,y2,y3,y4,aO,FW]
      exact⟨k,by omega,by omega,rfl,by rw[qm hx,qm hy,he,Ms]⟩
  ·rintro e r _ hr ⟨rfl,⟨rfl,hz⟩|⟨rfl,hz,h4⟩|⟨rfl,hz,h4⟩⟩
   ·simp[hz]
   ·simp[h4,hz]
   ·have:¬a<b:=by omega
    simp[h4,hz,this]
 ·have h_:¬((ds a).length:Int)=((ds b).length:Int):=by omega
  by_cases h2:(ds a).length<(ds b).length
  ·have kh:a<b:=by
    apply qZ;intro hc;have:=qX hc;omega
   simp[A.b135,lu,lv,h1,h2,kh]
  ·have kh:b<a:=by
    apply qZ;intro hc;have:=qX hc;omega
   have CR:¬a<b:=by omega
   simp[A.b135,lu,lv,h1,h2,kh,CR]
structure WG (h:T O) (N:Nat) (l:List Int) (d:Int) (m:Nat) (r:T V) (st:St):Prop where
 w:aB N st.w=[]
 ae:ad h N st.h (N+1)
 n:st.n=N+1
 r8:r.get 8=some (.int .i64 ((m:Int)-1))
 hm:m<=l.length
 ex:∃out rest,st.h.get N=some (.cells (dI out) 3 true)/\out.length=l.length/\r.get 7=some (.int .i64 rest)/\0<=rest/\rest<d/\Di (out.drop m)/\vI (out.drop m)*d+rest=vI (l.drop m)
def WH{h:T O}{N:Nat}{v:V}{l:List Int}{d:Int}(hs:Sl h N v (dI l))(hd:Di l)(hl:l.length<1099511627776)(h0:0<d)(h1:d<1000000000):Fn A.C 136 [v,.int .i64 d] h N (fun u h' n'=>∃q,u=.aY [q,.int .i64 ((vI l).toNat%d.toNat:Nat)]/\Dn h' n' q ((vI l).toNat/d.toNat)):=by
 intro w
 have lv:=hs.len
 rw[f_]at lv
 rw[aQ,A.k136 (by simp)]
 simp(disch:=first|(simp;done)|omega|rfl) [A.b136,lv]
 refine cX [(7,9),(16,35)] (fun e r st=>e=.exit 0/\WG h N l d 0 r st) (WG h N l d) l.length ?_ ?_ ?_
 ·refine⟨by simp,ad.refl.new _,rfl,by simp,aR _,List.replicate l.length 0,0,by simp[Qp],by simp,by simp,by omega,h0,?_,?_⟩
  ·rw[w_ (by simp)];exact Di.nil
  ·rw[w_ (by simp),vS];simp[vI]
 ·rintro m r ⟨H,n1,W⟩ hr hf ⟨hW,hK,hn,h8,hm,out,rest,aE,rM,h7,jI,Mt,ib,hv⟩
  simp only at hW hK hn aE
  subst hn
  rw[cm]
  cases m with
  |zero=>
   simp[A.oO,hf,h8]
   exact⟨hW,hK,rfl,by simpa using h8,hm,out,rest,aE,rM,by simp[h7],jI,Mt,ib,hv⟩
  |succ k=>
   obtain⟨x,hx⟩:=eA (l:=l) (k:=k) (by omega)
   obtain⟨b1,b2,b3,b4,b5,z1,z2,z3,z4⟩:=hs.at (fU hx)
   have z3:=(hK.get _ z2).trans z3
   have HL:=hd.get hx
   have pX:(((k+1:Nat):Int)-1)=(k:Int):=by omega
   rw[pX]at h8
   have ew:(k:Int)<(l.length:Int):=by omega
   have kf:k<l.length:=by omega
   have zZ:(0:Int)<=(k:Int):=by omega
   have w1:bb .i64 (rest*1000000000)=rest*1000000000:=cb (by omega) (by omega)
   have w2:bb .i64 (rest*1000000000+x)=rest*1000000000+x:=cb (by omega) (by omega)
   have s0:0<=rest*1000000000+x:=by omega
   have kM:¬d=0:=by omega
   have t1:(rest*1000000000+x).tdiv d=(rest*1000000000+x)/d:=yS s0
   have t2:(rest*1000000000+x).tmod d=(rest*1000000000+x)%d:=z_ s0
   have t3:=Bw (rest*1000000000+x) d
   have t4:0<=(rest*1000000000+x)/d:=Int.ediv_nonneg s0 (by omega)
   have t5:(rest*1000000000+x)/d<1000000000:=by
    apply Int.ediv_lt_of_lt_mul h0
    omega
   have t6:=Bx (rest*1000000000+x) kM
   have t7:=By (rest*1000000000+x) h0
   have w3:bb .i64 ((rest*1000000000+x)/d)=(rest*1000000000+x)/d:=cb (by omega) (by omega)
   have w8:=f_ out
   have w7:=yU (l:=out) (k:=k) (v:=(rest*1000000000+x)/d) (by omega)
   simp(disch:=first|(simp;done)|omega|rfl) [A.oO,hr,hf,h8,h7,zZ,lv,z1,z3,z4,w1,w2,w3,t1,t2,aE,w7]
   have e1:(out.set k ((rest*1000000000+x)/d)).drop k=((rest*1000000000+x)/d)::out.drop (k+1):=by
    rw[qm (d:=(rest*1000000000+x)/d) (by rw[nF (by omega)])]
    rw[List.drop_set_of_lt (by omega)]
   generalize (rest*1000000000+x)/d=q at*
   generalize (rest*1000000000+x)%d=r' at*
   refine⟨k,by omega,⟨by simp[aB,hW],hK.set (aR N),rfl,by simp,by omega,out.set k q,r',by simp,by simp[rM],by simp,t6,t7,?_,?_⟩⟩
   ·rw[e1];exact Di.app (Di.one t4 t5) ib
   ·rw[e1,qm hx,vI,vI,<-hv]
    grind
 ·rintro _ r ⟨H,n1,W⟩ hr ⟨rfl,hW,hK,hn,h8,hm,out,rest,aE,rM,h7,jI,Mt,ib,hv⟩
  simp only at hW hK hn aE
  subst hn
  rw[yO,yO]at*
  have mi:Sl H (N+1) (.slice N 0 l.length (some l.length) 1) (dI out):=Sl.row (by omega) aE (by simp[rM]) (fun k hk=>by simp at hk;omega)
  simp[hr]
  refine au (CO mi (by omega)) ?_
  rintro u h2 n2 k2 hu
  have hvo:=rL ib
  have WI:=rL hd
  have m1:(vI l).toNat/d.toNat=(vI out).toNat:=by
   have:(vI l)/d=vI out:=by
    rw[<-hv,Int.mul_comm,Int.add_comm,Int.add_mul_ediv_left _ _ (by omega),Int.ediv_eq_zero_of_lt jI Mt];omega
   rw[<-this]
   obtain⟨a,ha⟩:=Bz WI
   obtain⟨b,hb⟩:=Bz (qY h0)
   rw[ha,hb];rfl
  have m2:(((vI l).toNat%d.toNat:Nat):Int)=rest:=by
   have:(vI l)%d=rest:=by
    rw[<-hv,Int.mul_comm,Int.add_comm,Int.add_mul_emod_self_left,Int.emod_eq_of_lt jI Mt]
   rw[<-this]
   obtain⟨a,ha⟩:=Bz WI
   obtain⟨b,hb⟩:=Bz (qY h0)
   rw[ha,hb];rfl
  rw[Qq ib]at hu
  have m2':rest=max (vI l) 0%max d 0:=by rw[<-m2];simp
  simp[h7,aA,hW]
  refine⟨hK.trans k2,u,⟨rfl,m2'⟩,?_⟩
  rw[m1]
  exact hu
def A.Qr:=A.q Tryz.f93
def A.rN:=A.ql A.Qr 1 []
def A.rO:=(fun x0=>A.ql A.Qr 0 [x0]) A.rN
def A.b93:=(fun x0=>A.qb A.Qr [x0]) A.rO
def A.k93:=@A.kk 93 72 [.tmp 4] A.b93 (by kernel_rfl) rfl
structure WJ (h:T O) (N:Nat) (la lb:List Int) (i:Nat) (Qs:List Int) (a:Int) (m:Nat) (r:T V) (st:St):Prop where
 w:aB N st.w=[]
 ae:ad h N st.h (N+1)
 n:st.n=N+1
 ex:∃k out c,k+m=lb.length/\r.get 8=some (.int .i64 k)/\st.h.get N=some (.cells (dI out) 3 true)/\out.length=la.length+lb.length/\r.get 7=some (.int .i64 c)/\0<=c/\c<1000000000/\Di out/\(∀t,i+lb.length<=t->t<out.length->out[t]?=some 0)/\vI out+pI (i+k)*c=vI Qs+pI i*(a*vI (lb.take k))
structure WK (h:T O) (N:Nat) (la lb:List Int) (m:Nat) (r:T V) (st:St):Prop where
 w:aB N st.w=[]
 ae:ad h N st.h (N+1)
 n:st.n=N+1
 ex:∃i out,i+m=la.length/\r.get 6=some (.int .i64 i)/\st.h.get N=some (.cells (dI out) 3 true)/\out.length=la.length+lb.length/\Di out/\(∀t,i+lb.length<=t->t<out.length->out[t]?=some 0)/\vI out=vI (la.take i)*vI lb
def Qt{h:T O}{N:Nat}{u v:V}{la lb:List Int}{a b:Nat}(hu:Sl h N u (dI la))(hv:Sl h N v (dI lb))(da:Di la)(db:Di lb)(ea:vI la=a)(eb:vI lb=b)(hl:la.length+lb.length<1099511627776):Fn A.C 93 [u,v] h N (fun x h' n'=>Dn h' n' x (a*b)):=by
 intro w
 have lu:=hu.len
 have lv:=hv.len
 rw[f_]at lu lv
 rw[aQ,A.k93 (by simp)]
 have cs:((la.length:Int)+(lb.length:Int)).toNat=la.length+lb.length:=by omega
 simp(disch:=first|(simp;done)|omega|rfl) [A.b93,lu,lv,cs]
 refine cX [(6,9),(16,69)] (fun e r st=>e=.exit 0/\WK h N la lb 0 r st) (WK h N la lb) la.length ?_ ?_ ?_
 ·refine⟨by simp,ad.refl.new _,rfl,0,List.replicate (la.length+lb.length) 0,by omega,by simp,by simp[Qp],by simp,Di.BA _,fun t _ ht=>?_,by simp[Qu,vI]⟩
  simp at ht
  simp[ht]
 ·rintro m r ⟨H,n1,W⟩ hr hf ⟨hW,hK,hn,i,out,hi,h6,aE,rM,ib,hz,mj⟩
  simp only at hW hK hn aE
  subst hn
  rw[cm]
  cases m with
  |zero=>
   have:i=la.length:=by omega
   subst this
   simp[A.rO,hr,hf,h6,lu]
   exact⟨hW,hK,rfl,la.length,out,by omega,by simp[h6],aE,rM,ib,hz,mj⟩
  |succ m=>
   obtain⟨x,hx⟩:=eA (l:=la) (k:=i) (by omega)
   obtain⟨b1,b2,b3,b4,b5,z1,z2,z3,z4⟩:=hu.at (fU hx)
   have z3:=(hK.get _ z2).trans z3
   have HL:=da.get hx
   have vU:(i:Int)<(la.length:Int):=by omega
   have Qv:i<la.length:=by omega
   simp[A.rO,hr,h6,vU,lu]
   refine cX [(7,9),(22,54)] (fun e r st=>e=.exit 2/\WJ h N la lb i out x 0 r st) (WJ h N la lb i out x) lb.length ?_ ?_ ?_
   ·exact⟨hW,hK,rfl,0,out,0,by omega,by simp,aE,rM,by simp,by omega,by omega,ib,hz,by simp[vI]⟩
   ·rintro m2 r2 ⟨H2,n2,W2⟩ dW jU ⟨ft,kO,eZ,k,ml,c,hk,h8,nV,Aa,h7,c0,c1,jJ,fm,iY⟩
    simp only at ft kO eZ nV
    subst eZ
    rw[cm]
    cases m2 with
    |zero=>
     have:k=lb.length:=by omega
     subst this
     simp[A.rN,hr,dW,jU,h8,lv]
     exact⟨ft,kO,rfl,lb.length,ml,c,by omega,by simp[h8],nV,Aa,by simp[h7],c0,c1,jJ,fm,iY⟩
    |succ m2=>
     obtain⟨y,hy⟩:=eA (l:=lb) (k:=k) (by omega)
     obtain⟨g1,g2,g3,g4,g5,y1,y2,y3,y4⟩:=hv.at (fU hy)
     have y3:=(kO.get _ y2).trans y3
     have z3:=(kO.get _ z2).trans ((hK.get _ z2).symm.trans z3)
     have FX:=db.get hy
     obtain⟨o,ho⟩:=eA (l:=ml) (k:=i+k) (by omega)
     have WL:=jJ.get ho
     have ew:(k:Int)<(lb.length:Int):=by omega
     have kf:k<lb.length:=by omega
     have p0:0<=x*y:=tQ HL.1 FX.1
     have p1:x*y<=999999999*999999999:=Int.mul_le_mul (by omega) (by omega) FX.1 (by omega)
     have q1:(i:Int)+(k:Int)<(la.length:Int)+(lb.length:Int):=by omega
     have q2:i+k<la.length+lb.length:=by omega
     have q3:(0:Int)<=(i:Int)+(k:Int):=by omega
     have t1:(o+x*y+c).tmod 1000000000=(o+x*y+c)%1000000000:=z_ (by omega)
     have t2:(o+x*y+c).tdiv 1000000000=(o+x*y+c)/1000000000:=yS (by omega)
     have w8:=f_ ml
     have w7:=yU (l:=ml) (k:=i+k) (v:=(o+x*y+c)%1000000000) (by omega)
     have e1:vI (ml.set (i+k) ((o+x*y+c)%1000000000))+pI (i+(k+1))*((o+x*y+c)/1000000000)=vI out+pI i*(x*vI (lb.take (k+1))):=by
      have hm:=Bw (o+x*y+c) 1000000000
      rw[Ab ho,vV hy,show i+(k+1)=(i+k)+1 by omega,rP]
      have hp:=Mv i k
      generalize (o+x*y+c)/1000000000=Q at*
      generalize (o+x*y+c)%1000000000=R at*
      have:R=o+x*y+c-1000000000*Q:=by omega
      rw[this]
      have h3:vI ml=vI out+pI i*(x*vI (lb.take k))-pI (i+k)*c:=by omega
      rw[h3,hp]
      grind
     generalize hP:x*y=P at*
     have b1':bb .i64 P=P:=cb (by omega) (by omega)
     have b2':bb .i64 (o+P)=o+P:=cb (by omega) (by omega)
     have b3':bb .i64 (o+P+c)=o+P+c:=cb (by omega) (by omega)
     have b4':bb .i64 ((o+P+c)/1000000000)=(o+P+c)/1000000000:=cb (by omega) (by omega)
     have f1:b1<N+1:=by omega
     have f2:g1<N+1:=by omega
     have r0:=Bx (o+P+c) (b:=1000000000) (by decide)
     have r1:=By (o+P+c) (b:=1000000000) (by decide)
     have d0:0<=(o+P+c)/1000000000:=Int.ediv_nonneg (by omega) (by decide)
     have d1:(o+P+c)/1000000000<1000000000:=Int.ediv_lt_of_lt_mul (by decide) (by omega)
     simp(disch:=first|(simp;done)|omega|rfl) [-getElem?_pos,A.rN,hr,dW,jU,h6,h7,h8,lu,lv,ew,nV,fU ho,z1,z3,z4,y1,y3,y4,hP,b1',b2',b3',b4',t1,t2,w7,f1,f2]
     refine⟨m2,by omega,⟨by simp[aB,ft],kO.set (aR N),rfl,k+1,_,_,by omega,by simp,by simp,by simp[Aa],by simp,d0,d1,jJ.set r0 r1,fun t HM rQ=>?_,e1⟩⟩
     rw[eB (by omega)]
     exact fm t HM (by simpa using rQ)
   ·rintro _ r2 ⟨H2,n2,W2⟩ dW ⟨rfl,ft,kO,eZ,k,ml,c,hk,h8,nV,Aa,h7,c0,c1,jJ,fm,iY⟩
    simp only at ft kO eZ nV
    subst eZ
    have:k=lb.length:=by omega
    subst this
    have ho:=fm (i+lb.length) (by omega) (by omega)
    have FY:=hf.inner (D':=[(7,9),(22,54)]) rfl (by simp) dW
    have q1:(i:Int)+(lb.length:Int)<(la.length:Int)+(lb.length:Int):=by omega
    have q2:i+lb.length<la.length+lb.length:=by omega
    have q3:(0:Int)<=(i:Int)+(lb.length:Int):=by omega
    have w8:=f_ ml
    have w7:=yU (l:=ml) (k:=i+lb.length) (v:=c) (by omega)
    rw[yN]at iY
    have e1:vI (ml.set (i+lb.length) c)=vI (la.take (i+1))*vI lb:=by
     rw[Ab ho,vV hx]
     have:vI ml+pI (i+lb.length)*(c-0)=vI out+pI i*(x*vI lb):=by rw[Int.sub_zero];exact iY
     rw[this,mj]
     grind
    simp(disch:=first|(simp;done)|omega|rfl) [-getElem?_pos,hr,dW,h6,h7,lv,nV,fU ho,w7,FY]
    refine⟨m,by omega,⟨by simp[aB,ft],kO.set (aR N),rfl,i+1,_,by omega,by simp,by simp,by simp[Aa],jJ.set c0 c1,fun t HM rQ=>?_,e1⟩⟩
    rw[eB (by omega)]
    exact fm t (by omega) (by simpa using rQ)
 ·rintro _ r ⟨H,n1,W⟩ hr ⟨rfl,hW,hK,hn,i,out,hi,h6,aE,rM,ib,hz,mj⟩
  simp only at hW hK hn aE
  subst hn
  have:i=la.length:=by omega
  subst this
  rw[yN,ea,eb]at mj
  have mi:Sl H (N+1) (.slice N 0 (la.length+lb.length) (some (la.length+lb.length)) 1) (dI out):=Sl.row (by omega) aE (by simp[rM]) (fun k hk=>by simp at hk;omega)
  simp[hr]
  refine au (CO mi (by omega)) ?_
  rintro y h2 n2 k2 hy
  rw[CQ ib (n:=a*b) (by rw[mj];simp)]at hy
  simp[aA,hW]
  exact⟨hK.trans k2,hy⟩
end
end Go.Mx
