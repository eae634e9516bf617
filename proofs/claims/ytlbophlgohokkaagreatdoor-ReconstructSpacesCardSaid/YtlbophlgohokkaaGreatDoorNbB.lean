/-
  num.Int: Add, Sub, Mul, Cmp, Abs.
-/
import Derived.Test.YtlbophlgohokkaaGreatDoorNbA
set_option linter.all false
namespace Go.Mx
open Go Go.Proofs
variable {N:Nat} {a b:Int} {h:T O} {x y:V}
set_option maxHeartbeats 1000000
set_option maxRecDepth 1000000
def A.zbg:aq:=sr [lN 34 2 2,c1 35 222 34,mv 33 35,xt 36 33 0,xt 37 33 1,mv 6 36,mv 7 37]
 (sr [lN 39 2 3,c1 40 222 39,mv 38 40,xt 41 38 0,xt 42 38 1,mv 8 41,mv 9 42]
 (.seq (.block 0 (sr [mv 44 6,mv 45 8,⟨(some 46),.bin .eql (.aH .bool) false (.tmp 44) (.tmp 45),none⟩,mv 43 46]
 (cd 43
 (sr [mv 47 6,mv 48 7,mv 49 9,c2 50 249 48 49,c2 51 223 47 50,⟨none,.store 2 (.tmp 4) (.tmp 51),none⟩]
 (.ret))
 (sr [mv 53 7,mv 54 9,c2 55 250 53 54,bc 56 .geq 55 0,mv 52 56]
 (cd 52
 (sr [mv 57 6,mv 58 7,mv 59 9,c2 60 251 58 59,c2 61 223 57 60,⟨none,.store 2 (.tmp 4) (.tmp 61),none⟩]
 (.ret))
 (.skip))))))
 (sr [mv 62 8,mv 63 9,mv 64 7,c2 65 251 63 64,c2 66 223 62 65,⟨none,.store 2 (.tmp 4) (.tmp 66),none⟩]
 (.ret))))
def A.b192:aq:=sr [bx 2 112 0,bx 3 112 1,⟨(some 4),.alloc [(.int .i64 0),.aa] 112,none⟩]
 (.seq (sr [fa 10 1 2,ld 11 10,⟨(some 12),.bin .eql (.aH .slice) true (.tmp 11) (.const .aa),none⟩,mv 13 12,⟨(some 14),.ec 1 (.tmp 3),(some (13,true))⟩,⟨(some 15),.load none (.tmp 14),(some (13,true))⟩,⟨(some 16),.bin .eql (.aH .slice) true (.tmp 15) (.const .aa),(some (13,true))⟩,pf 17 13 16]
 (cd 17
 (sr [fa 18 0 2,ld 19 18,fa 20 0 3,ld 21 20,bi 22 .add 19 21,mv 5 22]
 (sr [mv 23 5,fa 24 0 2,ld 25 24,bi 26 .gtr 23 25,fa 27 0 3,ld 28 27,bc 29 .gtr 28 0,⟨(some 30),.bin .eql (.aH .bool) false (.tmp 26) (.tmp 29),none⟩]
 (cd 30
 (sr [mv 31 5,⟨(some 32),.build [(.int .i64 0),.aa] [(0,1,(.tmp 31))],none⟩,⟨none,.store 2 (.tmp 4) (.tmp 32),none⟩]
 (.ret))
 (.skip))))
 (.skip)))
 A.zbg)
theorem A.c192:A.F 192=some ⟨67,[.cell 4 (some 2)],A.b192⟩:=by kernel_rfl
def A.k192:=@A.kk 192 _ _ _ A.c192 rfl
def A.b261:aq:=sr [bx 2 112 0,bx 3 112 1,⟨(some 4),.alloc [(.int .i64 0),.aa] 112,none⟩]
 (.seq (.aS [lN 5 2 2,lN 6 2 3,c1 7 218 6,c2 8 192 5 7,⟨none,.store 2 (.tmp 4) (.tmp 8),none⟩] [0,0,2,7,15])
 (.ret))
theorem A.c261:A.F 261=some ⟨9,[.cell 4 (some 2)],A.b261⟩:=by kernel_rfl
def A.k261:=@A.kk 261 _ _ _ A.c261 rfl
def A.zbh:aq:=sr [lN 50 2 2,c1 51 222 50,mv 49 51,xt 52 49 0,xt 53 49 1,mv 7 52,mv 8 53]
 (sr [lN 55 2 3,c1 56 222 55,mv 54 56,xt 57 54 0,xt 58 54 1,mv 9 57,mv 10 58]
 (sr [mv 59 7,mv 60 9,⟨(some 61),.bin .neq (.aH .bool) false (.tmp 59) (.tmp 60),none⟩,mv 62 8,mv 63 10,c2 64 224 62 63,c2 65 223 61 64,⟨none,.store 2 (.tmp 4) (.tmp 65),none⟩]
 (.ret)))
def A.b157:aq:=sr [bx 2 112 0,bx 3 112 1,⟨(some 4),.alloc [(.int .i64 0),.aa] 112,none⟩]
 (.seq (sr [fa 11 1 2,ld 12 11,⟨(some 13),.bin .eql (.aH .slice) true (.tmp 12) (.const .aa),none⟩,mv 14 13,⟨(some 15),.ec 1 (.tmp 3),(some (14,true))⟩,⟨(some 16),.load none (.tmp 15),(some (14,true))⟩,⟨(some 17),.bin .eql (.aH .slice) true (.tmp 16) (.const .aa),(some (14,true))⟩,pf 18 14 17]
 (cd 18
 (.seq (.aS [fa 20 0 2,ld 21 20,c1 22 221 21,fa 23 0 3,ld 24 23,c1 25 221 24,c2 26 220 22 25,mv 19 26,xt 27 19 0,xt 28 19 1,mv 5 27,mv 6 28] [0,1,3,0,8,31,63,127,255,255,511,2047])
 (sr [mv 29 5,⟨(some 30),.bin .eql (.aH .int) true (.tmp 29) (.const (.int .u64 0)),none⟩,mv 31 30,mg 32 6 31,⟨(some 33),.bin .leq (.node []) false (.tmp 32) (.const (.int .u64 9223372036854775807)),(some (31,true))⟩,pf 34 31 33]
 (cd 34
 (.seq (sr [fa 35 0 2,ld 36 35,bc 37 .lss 36 0,fa 38 0 3,ld 39 38,bc 40 .lss 39 0,⟨(some 41),.bin .neq (.aH .bool) false (.tmp 37) (.tmp 40),none⟩]
 (cd 41
 (sr [mv 42 6,⟨(some 43),.ba .i64 (.tmp 42),none⟩,⟨(some 44),.un .neg (.tmp 43),none⟩,⟨(some 45),.build [(.int .i64 0),.aa] [(0,1,(.tmp 44))],none⟩,⟨none,.store 2 (.tmp 4) (.tmp 45),none⟩]
 (.ret))
 (.skip)))
 (sr [mv 46 6,⟨(some 47),.ba .i64 (.tmp 46),none⟩,⟨(some 48),.build [(.int .i64 0),.aa] [(0,1,(.tmp 47))],none⟩,⟨none,.store 2 (.tmp 4) (.tmp 48),none⟩]
 (.ret)))
 (.skip))))
 (.skip)))
 A.zbh)
theorem A.c157:A.F 157=some ⟨66,[.cell 4 (some 2)],A.b157⟩:=by kernel_rfl
def A.k157:=@A.kk 157 _ _ _ A.c157 rfl
def A.b217:aq:=sr [bx 2 112 0,bx 3 112 1,mc 4 0]
 (.seq (sr [fa 5 1 2,ld 6 5,⟨(some 7),.bin .eql (.aH .slice) true (.tmp 6) (.const .aa),none⟩,mv 8 7,⟨(some 9),.ec 1 (.tmp 3),(some (8,true))⟩,⟨(some 10),.load none (.tmp 9),(some (8,true))⟩,⟨(some 11),.bin .eql (.aH .slice) true (.tmp 10) (.const .aa),(some (8,true))⟩,pf 12 8 11]
 (cd 12
 (.seq (.block 0 (sr [fa 14 0 2,ld 15 14,fa 16 0 3,ld 17 16,bi 18 .lss 15 17,mv 13 18]
 (cd 13
 (sr [⟨(some 4),.aZ (.const (.int .i64 (-1))),none⟩]
 (.ret))
 (sr [fa 20 0 2,ld 21 20,fa 22 0 3,ld 23 22,bi 24 .gtr 21 23,mv 19 24]
 (cd 19
 (sr [mc 4 1]
 (.ret))
 (.skip))))))
 (sr [mc 4 0]
 (.ret)))
 (.skip)))
 (sr [lN 25 2 2,lN 26 2 3,c2 27 261 25 26,c1 28 199 27,mv 4 28]
 (.ret)))
theorem A.c217:A.F 217=some ⟨29,[.tmp 4],A.b217⟩:=by kernel_rfl
def A.k217:=@A.kk 217 _ _ _ A.c217 rfl
structure CG (h:T O) (N q:Nat) (z:Int) (st:St):Prop where
 w:au N st.w=[]
 ad:ab h N st.h st.n
 ex:∃n u,st.h.get q=some (.cells [.int .i64 n,u] 112 true)/\In st.h st.n (.agg [.int .i64 n,u]) z
theorem Xg(a b:Int):(a*b<0)↔((a<0)≠(b<0))/\a≠0/\b≠0:=by
 rcases Int.lt_trichotomy a 0 with ha|ha|ha<;>rcases Int.lt_trichotomy b 0 with hb|hb|hb
 ·have:=Int.mul_pos_of_neg_of_neg ha hb
  simp[ha,hb];omega
 ·subst hb;simp
 ·have:=Int.mul_neg_of_neg_of_pos ha hb
  have h1:¬b<0:=by omega
  simp[ha,h1,this];omega
 ·subst ha;simp
 ·subst ha;simp
 ·subst ha;simp
 ·have:=Int.mul_neg_of_pos_of_neg ha hb
  have h1:¬a<0:=by omega
  simp[hb,h1,this];omega
 ·subst hb;simp
 ·have:=Int.mul_pos ha hb
  have h1:¬a<0:=by omega
  have h2:¬b<0:=by omega
  simp[h1,h2];omega
theorem QN{n k:Nat}(h:n<B^k):(aD n).length<=k:=by
 apply tA
 intro hc
 obtain⟨j,hj⟩:∃j,(aD n).length=j+1:=⟨(aD n).length-1,by omega⟩
 have:=(Cv hj).1
 have:=oE (show 0<B by decide) (show k<=j by omega)
 omega
theorem La(n:Nat):n<B^(aD n).length:=by
 have:=Ay (nH n)
 rwa [j9]at this
theorem QO(a b:Int):wl (a+b)<=max (wl a) (wl b)+1:=by
 unfold wl
 apply QN
 have h1:=La a.natAbs
 have h2:=La b.natAbs
 have h3:=oE (show 0<B by decide) (x_ (aD a.natAbs).length (aD b.natAbs).length)
 have h4:=oE (show 0<B by decide) (xY (aD a.natAbs).length (aD b.natAbs).length)
 have h5:(a+b).natAbs<=a.natAbs+b.natAbs:=Int.natAbs_add_le a b
 rw[fJ]
 generalize B^max (aD a.natAbs).length (aD b.natAbs).length=p at*
 have:p*2<=p*B:=jc p (by decide)
 omega
theorem Fj(a:Int):wl (-a)=wl a:=by unfold wl;rw[sq]
theorem yW(a b:Int):wl (a*b)<=wl a+wl b:=by
 unfold wl
 apply QN
 rw[q8,jr]
 have h1:=La a.natAbs
 have h2:=La b.natAbs
 exact x9 h1 h2
theorem CH(h:a.natAbs<=b.natAbs):wl a<=wl b:=Az h
theorem Yic{H:T O}{n1 n2:Int}{u1 u2:V}{r0:T V}(hx:In H (N+3) (.agg [.int .i64 n1,u1]) a)(hy:In H (N+3) (.agg [.int .i64 n2,u2]) b)(la:wl a<1000000000)(lb:wl b<1000000000)(hK:ab h N H (N+3))
  (gx:H.get N=some (.cells [.int .i64 n1,u1] 112 true)) (gy:H.get (N+1)=some (.cells [.int .i64 n2,u2] 112 true)) (gz:H.get (N+2)=some (.cells [.int .i64 0,.aa] 112 true)) (r2:r0.get 2=some (.ptr N 0)) (r3:r0.get 3=some (.ptr (N+1) 0)) (r4:r0.get 4=some (.ptr (N+2) 0)):
  Code A.C none A.zbg ⟨r0,67,[]⟩ ⟨H,N+3,[]⟩ (fun e fr st=>e=.ret/\∃r,fr=⟨r,67,[]⟩/\r.get 4=some (.ptr (N+2) 0)/\CG h N (N+2) (a+b) st):=by
 rw[bn]
 simp[A.zbg,r2,gx,aO,aM]
 refine ax (yV hx) ?_
 rintro _ h1 N1 k1 ⟨ua,rfl,HH⟩
 have ep:=k1.le
 have HJ:=(k1.get (N+1) (by omega)).trans gy
 have QP:=(k1.get (N+2) (by omega)).trans gz
 simp[r3,HJ,aO,aM]
 refine ax (yV (hy.ad k1)) ?_
 rintro _ h2 N2 k2 ⟨ub,rfl,CI⟩
 have fH:=k2.le
 have QQ:=(k2.get (N+2) (by omega)).trans QP
 have qP:=HH.ad k2
 have AK:(aD a.natAbs).length<1000000000:=la
 have Lb:(aD b.natAbs).length<1000000000:=lb
 have kA:=(hK.trans k1).trans k2
 have HK:=QO a b
 have fin:∀(z:Int) (v:V) (h4:T O) (n4:Nat),ab h2 N2 h4 n4->In h4 n4 v z->z=a+b->∃(n5:Int) (u5:V),v=.agg [.int .i64 n5,u5]/\V.one u5=true/\h4.get (N+2)=some (.cells [.int .i64 0,.aa] 112 true)/\∀W,au N W=[]->CG h N (N+2) (a+b) ⟨h4.set (N+2) (.cells [.int .i64 n5,u5] 112 true),n4,W⟩:=by
  intro z v h4 n4 k4 hv hz
  obtain⟨n5,u5,rfl,iw⟩:=hv.cells
  have vU:=(k4.get (N+2) (by omega)).trans QQ
  have pk:=k4.le
  subst hz
  exact⟨n5,u5,rfl,iw,vU,fun W hW=>⟨hW,(kA.trans k4).set (by omega),n5,u5,by simp,hv.aE vU (by simp) rfl⟩⟩
 by_cases hs:(a<0)=(b<0)
 ·have im:(decide (a<0)==decide (b<0))=true:=by simp[hs]
  simp[dM,im]
  refine ax (Zva qP CI (by omega) (by omega)) ?_
  rintro v h3 N3 k3 hv
  have vQ:a.natAbs+b.natAbs=(a+b).natAbs:=by
   by_cases h:a<0
   ·have:b<0:=by rw[hs]at h;exact h
    omega
   ·have:¬b<0:=by rw[hs]at h;exact h
    omega
  rw[vQ]at hv
  simp[]
  refine ax (AI hv (by unfold wl at HK la lb;omega)) ?_
  rintro v h4 N4 k4 hv
  obtain⟨n5,u5,rfl,iw,vU,hf⟩:=fin _ _ _ _ (k3.trans k4) hv (by
   by_cases h:a<0
   ·have:b<0:=by rw[hs]at h;exact h
    simp[h];omega
   ·have:¬b<0:=by rw[hs]at h;exact h
    simp[h];omega)
  unfold V.one at iw
  simp[vU,iw,ag,bL,r4]
  exact hf _ (by simp[au])
 ·have im:(decide (a<0)==decide (b<0))=false:=by
   by_cases h:a<0<;>by_cases h':b<0<;>simp_all
  simp[dM,im]
  refine ax (Wg qP CI (by omega) (by omega)) ?_
  rintro _ h3 N3 k3 rfl
  have HL:=qP.ad k3
  have HM:=CI.ad k3
  by_cases hc:b.natAbs<=a.natAbs
  ·have c1:(0:Int)<=qL a.natAbs b.natAbs:=by unfold qL;split<;>(try split)<;>omega
   simp[c1]
   refine ax (Wb HL HM hc (by omega) (by omega)) ?_
   rintro v h5 N5 k5 hv
   simp[]
   refine ax (AI hv (by have:=Az (show a.natAbs-b.natAbs<=a.natAbs by omega);omega)) ?_
   rintro v h4 N4 k4 hv
   obtain⟨n5,u5,rfl,iw,vU,hf⟩:=fin _ _ _ _ ((k3.trans k5).trans k4) hv (by
    by_cases h:a<0
    ·have:¬b<0:=by intro h2;apply hs;simp[h,h2]
     simp[h];omega
    ·have:b<0:=by apply Decidable.byContradiction;intro h2;apply hs;simp[h,h2]
     simp[h];omega)
   unfold V.one at iw
   simp[vU,iw,ag,bL,r4]
   exact hf _ (by simp[au])
  ·have c1:¬(0:Int)<=qL a.natAbs b.natAbs:=by unfold qL;split<;>(try split)<;>omega
   simp[c1]
   refine ax (Wb HM HL (by omega) (by omega) (by omega)) ?_
   rintro v h5 N5 k5 hv
   simp[]
   refine ax (AI hv (by have:=Az (show b.natAbs-a.natAbs<=b.natAbs by omega);omega)) ?_
   rintro v h4 N4 k4 hv
   obtain⟨n5,u5,rfl,iw,vU,hf⟩:=fin _ _ _ _ ((k3.trans k5).trans k4) hv (by
    by_cases h:b<0
    ·have:¬a<0:=by intro h2;apply hs;simp[h,h2]
     simp[h];omega
    ·have:a<0:=by apply Decidable.byContradiction;intro h2;apply hs;simp[h,h2]
     simp[h];omega)
   unfold V.one at iw
   simp[vU,iw,ag,bL,r4]
   exact hf _ (by simp[au])
theorem HN(hx:In h N x a)(hy:In h N y b)(la:wl a<1000000000)(lb:wl b<1000000000):Fn A.C 192 [x,y] h N (fun v h' n'=>In h' n' v (a+b)):=by
 intro w
 rw[aP,A.k192 (by simp)]
 obtain⟨n1,u1,rfl,o1⟩:=hx.cells
 obtain⟨n2,u2,rfl,o2⟩:=hy.cells
 have kk:=aJ (aJ (aJ (ab.refl (h:=h) (n:=N)) (.cells [.int .i64 n1,u1] 112 true)) (.cells [.int .i64 n2,u2] 112 true)) (.cells [.int .i64 0,.aa] 112 true)
 unfold V.one at o1 o2
 have go:∀r:T V,r.get 2=some (.ptr N 0)->r.get 3=some (.ptr (N+1) 0)->r.get 4=some (.ptr (N+2) 0)->bH A.C [.fin [.cell 4 (some 2)] ⟨h,N,w⟩] (eE (A.C.code none A.zbg ⟨r,67,[]⟩ ⟨((h.set N (.cells [.int .i64 n1,u1] 112 true)).set (N+1) (.cells [.int .i64 n2,u2] 112 true)).set (N+1+1) (.cells [.int .i64 0,.aa] 112 true),N+1+1+1,[]⟩)) (yE (aA (fun v h' n'=>In h' n' v (a+b)) h N w)):=by
  intro r r2 r3 r4
  refine iY (Yic (hx.ad kk) (hy.ad kk) la lb kk (by simp) (by simp) (by simp) r2 r3 r4) ?_
  rintro e fr ⟨h5,n5,w5⟩ ⟨rfl,r',rfl,HO,hW,hK,n6,u6,g6,hi⟩
  simp only at hW hK g6 hi
  simp[HO,g6,aO,aM,aA,hW]
  exact⟨hK,hi⟩
 rcases id hx with⟨e1,s1,s2⟩|⟨i,o,l,c,e1,_⟩
 ·simp only[V.agg.injEq,fL,V.int.injEq,true_and,and_true]at e1
  obtain⟨rfl,rfl⟩:=e1
  rcases id hy with⟨e2,t1,t2⟩|⟨i,o,l,c,e2,_⟩
  ·simp only[V.agg.injEq,fL,V.int.injEq,true_and,and_true]at e2
   obtain⟨rfl,rfl⟩:=e2
   have kr:=fun (o1 o2:O)=>(kk.set (i:=N+1+1) (o:=o1) (by omega))
   by_cases zz: -9223372036854775808<=n1+n2/\n1+n2<9223372036854775808
   ·have w1:bk .i64 (n1+n2)=n1+n2:=ct (by omega) (by omega)
    by_cases hp:0<n2
    ·have c1:n1<n1+n2:=by omega
     simp[A.b192,aO,aM,ag,dM,w1,hp,c1,aA]
     exact⟨kk.set (by omega),In.small (by omega) (by omega)⟩
    ·have c1:¬n1<n1+n2:=by omega
     simp[A.b192,aO,aM,ag,dM,w1,hp,c1,aA]
     exact⟨kk.set (by omega),In.small (by omega) (by omega)⟩
   ·obtain⟨y,nX⟩:∃y,bk .i64 (n1+n2)=y:=⟨_,rfl⟩
    have rJ:y=n1+n2-18446744073709551616/\0<n2\/y=n1+n2+18446744073709551616/\¬0<n2:=by
     rw[<-nX,uO]
     simp only[IntKind.wrap,IntKind.bits,IntKind.signed]
     simp
     omega
    by_cases hp:0<n2
    ·have c1:¬n1<y:=by omega
     simp[A.b192,aO,dM,nX,hp,c1]
     exact go _ (by simp) (by simp) (by simp)
    ·have c1:n1<y:=by omega
     simp[A.b192,aO,dM,nX,hp,c1]
     exact go _ (by simp) (by simp) (by simp)
  ·simp only[V.agg.injEq,fL,V.int.injEq,true_and,and_true]at e2
   obtain⟨rfl,rfl⟩:=e2
   simp[A.b192,aO,dM]
   exact go _ (by simp) (by simp) (by simp)
 ·simp only[V.agg.injEq,fL,V.int.injEq,true_and,and_true]at e1
  obtain⟨rfl,rfl⟩:=e1
  simp[A.b192,aO,dM,o2]
  exact go _ (by simp) (by simp) (by simp)
theorem Xh(hx:In h N x a)(hy:In h N y b)(la:wl a<1000000000)(lb:wl b<1000000000):Fn A.C 261 [x,y] h N (fun v h' n'=>In h' n' v (a-b)):=by
 intro w
 rw[aP,A.k261 (by simp)]
 obtain⟨n1,u1,rfl,o1⟩:=hx.cells
 obtain⟨n2,u2,rfl,o2⟩:=hy.cells
 have kk:=aJ (aJ (aJ (ab.refl (h:=h) (n:=N)) (.cells [.int .i64 n1,u1] 112 true)) (.cells [.int .i64 n2,u2] 112 true)) (.cells [.int .i64 0,.aa] 112 true)
 have Gu:=Dj (hy.ad kk) lb
 have ja:=hx.ad kk
 unfold V.one at o1 o2
 simp[A.b261,aO,aM,o1,o2]
 refine ax Gu ?_
 rintro v h1 rU k1 hv
 simp[]
 refine ax (HN (ja.ad k1) hv la (by rw[Fj];exact lb)) ?_
 rintro v2 h2 l8 k2 iD
 obtain⟨n5,u5,rfl,iw⟩:=iD.cells
 unfold V.one at iw
 have k12:=k1.trans k2
 have rS:=k12.le
 have g2:=k12.get (N+1+1) (by omega)
 simp at g2
 have aB:N+1+1<l8:=by omega
 have dW:N+1+1<rU:=by have:=k1.le;omega
 simp[g2,iw,ag,bL,aB,dW,dn.dp,aA]
 have he:a+ -b=a-b:=by omega
 rw[he]at iD
 exact⟨(kk.trans k12).set (by omega),iD.aE g2 (by simp) rfl⟩
theorem Ygj{H:T O}{n1 n2:Int}{u1 u2:V}{r0:T V}(hx:In H (N+3) (.agg [.int .i64 n1,u1]) a)(hy:In H (N+3) (.agg [.int .i64 n2,u2]) b)(la:wl a<1000000000)(lb:wl b<1000000000)(hK:ab h N H (N+3))
  (gx:H.get N=some (.cells [.int .i64 n1,u1] 112 true)) (gy:H.get (N+1)=some (.cells [.int .i64 n2,u2] 112 true)) (gz:H.get (N+2)=some (.cells [.int .i64 0,.aa] 112 true)) (r2:r0.get 2=some (.ptr N 0)) (r3:r0.get 3=some (.ptr (N+1) 0)) (r4:r0.get 4=some (.ptr (N+2) 0)):
  Code A.C none A.zbh ⟨r0,66,[]⟩ ⟨H,N+3,[]⟩ (fun e fr st=>e=.ret/\∃r,fr=⟨r,66,[]⟩/\r.get 4=some (.ptr (N+2) 0)/\CG h N (N+2) (a*b) st):=by
 rw[bn]
 simp[A.zbh,r2,gx,aO,aM]
 refine ax (yV hx) ?_
 rintro _ h1 N1 k1 ⟨ua,rfl,HH⟩
 have ep:=k1.le
 have HJ:=(k1.get (N+1) (by omega)).trans gy
 have QP:=(k1.get (N+2) (by omega)).trans gz
 simp[r3,HJ,aO,aM]
 refine ax (yV (hy.ad k1)) ?_
 rintro _ h2 N2 k2 ⟨ub,rfl,CI⟩
 have fH:=k2.le
 have QQ:=(k2.get (N+2) (by omega)).trans QP
 have qP:=HH.ad k2
 have AK:(aD a.natAbs).length<1000000000:=la
 have Lb:(aD b.natAbs).length<1000000000:=lb
 have kA:=(hK.trans k1).trans k2
 have HK:=yW a b
 simp[dM]
 refine ax (Zt4 qP CI (by omega) (by omega)) ?_
 rintro v h3 N3 k3 hv
 have hmul:a.natAbs*b.natAbs=(a*b).natAbs:=(q8 a b).symm
 rw[hmul]at hv
 simp[]
 refine ax (AI hv (by unfold wl at HK la lb;omega)) ?_
 rintro v h4 N4 k4 hv
 obtain⟨n5,u5,rfl,iw⟩:=hv.cells
 have vU:=((k3.trans k4).get (N+2) (by omega)).trans QQ
 have pk:=(k3.trans k4).le
 unfold V.one at iw
 have hs:=Xg a b
 have he:(if (!decide (a<0)==decide (b<0))=true then -((a*b).natAbs:Int) else (a*b).natAbs)=a*b:=by
  have h0:a=0\/b=0->a*b=0:=by rintro(rfl|rfl)<;>simp
  by_cases h1:a<0<;>by_cases h2:b<0<;>simp[h1,h2]at hs ⊢<;>omega
 rw[he]at hv
 simp[vU,iw,ag,bL,r4]
 exact⟨by simp[au],((kA.trans k3).trans k4).set (by omega),n5,u5,by simp,hv.aE vU (by simp) rfl⟩
theorem vV(hx:In h N x a)(hy:In h N y b)(la:wl a<1000000000)(lb:wl b<1000000000):Fn A.C 157 [x,y] h N (fun v h' n'=>In h' n' v (a*b)):=by
 intro w
 rw[aP,A.k157 (by simp)]
 obtain⟨n1,u1,rfl,o1⟩:=hx.cells
 obtain⟨n2,u2,rfl,o2⟩:=hy.cells
 have kk:=aJ (aJ (aJ (ab.refl (h:=h) (n:=N)) (.cells [.int .i64 n1,u1] 112 true)) (.cells [.int .i64 n2,u2] 112 true)) (.cells [.int .i64 0,.aa] 112 true)
 unfold V.one at o1 o2
 have go:∀r:T V,r.get 2=some (.ptr N 0)->r.get 3=some (.ptr (N+1) 0)->r.get 4=some (.ptr (N+2) 0)->bH A.C [.fin [.cell 4 (some 2)] ⟨h,N,w⟩] (eE (A.C.code none A.zbh ⟨r,66,[]⟩ ⟨((h.set N (.cells [.int .i64 n1,u1] 112 true)).set (N+1) (.cells [.int .i64 n2,u2] 112 true)).set (N+1+1) (.cells [.int .i64 0,.aa] 112 true),N+1+1+1,[]⟩)) (yE (aA (fun v h' n'=>In h' n' v (a*b)) h N w)):=by
  intro r r2 r3 r4
  refine iY (Ygj (hx.ad kk) (hy.ad kk) la lb kk (by simp) (by simp) (by simp) r2 r3 r4) ?_
  rintro e fr ⟨h5,n5,w5⟩ ⟨rfl,r',rfl,HO,hW,hK,n6,u6,g6,hi⟩
  simp only at hW hK g6 hi
  simp[HO,g6,aO,aM,aA,hW]
  exact⟨hK,hi⟩
 rcases id hx with⟨e1,s1,s2⟩|⟨i,o,l,c,e1,_⟩
 ·simp only[V.agg.injEq,fL,V.int.injEq,true_and,and_true]at e1
  obtain⟨rfl,rfl⟩:=e1
  rcases id hy with⟨e2,t1,t2⟩|⟨i,o,l,c,e2,_⟩
  ·simp only[V.agg.injEq,fL,V.int.injEq,true_and,and_true]at e2
   obtain⟨rfl,rfl⟩:=e2
   have z1:=fun st=>QK s1 s2 (st:=st)
   have z2:=fun st=>QK t1 t2 (st:=st)
   have hm:n1.natAbs*n2.natAbs=(n1*n2).natAbs:=(q8 _ _).symm
   have fl:bz (n1.natAbs*n2.natAbs)+18446744073709551616*bX (n1.natAbs*n2.natAbs)=(n1*n2).natAbs:=by
    rw[<-hm]
    have:=pG (n1.natAbs*n2.natAbs) 18446744073709551616
    unfold bz bX;omega
   have HP:=Xg n1 n2
   obtain⟨hi,fQ⟩:∃x,bX (n1.natAbs*n2.natAbs)=x:=⟨_,rfl⟩
   obtain⟨lo,vJ⟩:∃x,bz (n1.natAbs*n2.natAbs)=x:=⟨_,rfl⟩
   rw[fQ,vJ]at fl
   have hz:n1=0\/n2=0->n1*n2=0:=by rintro(rfl|rfl)<;>simp
   simp[A.b157,aO,dM,z1,z2]
   refine ax (Hi (x:=n1.natAbs) (y:=n2.natAbs) (by omega) (by omega)) ?_
   rintro _ h' N' k ⟨rfl,rfl,rfl⟩
   rw[fQ,vJ]
   have d1:¬N=N+1:=by omega
   by_cases h0:hi=0
   ·by_cases h1:lo<=9223372036854775807
    ·have fB:(lo:Int)<=9223372036854775807:=by omega
     have w1:bk .i64 (lo:Int)=lo:=ct (by omega) (by omega)
     have w2:IntKind.wrap .i64 (-(lo:Int))= -(lo:Int):=FV (by omega) (by omega)
     by_cases hs:(n1<0)=(n2<0)
     ·have im:(decide (n1<0)==decide (n2<0))=true:=by simp[hs]
      have hp:¬n1*n2<0:=by rw[HP];rintro⟨p,_⟩;exact p hs
      have he:(lo:Int)=n1*n2:=by omega
      simp[aO,aM,ag,dM,h0,fB,im,w1,aA,dn.dp]
      exact⟨kk.set (by omega),by rw[<-he];exact In.small (by omega) (by omega)⟩
     ·have im:(decide (n1<0)==decide (n2<0))=false:=by
       by_cases h:n1<0<;>by_cases h':n2<0<;>simp_all
      have he: -(lo:Int)=n1*n2:=by
       by_cases hq:n1=0\/n2=0
       ·have:=hz hq;omega
       ·have:n1*n2<0:=HP.2 ⟨hs,fun h=>hq (.inl h),fun h=>hq (.inr h)⟩
        omega
      simp[aO,aM,ag,dM,h0,fB,im,w1,w2,aA,dn.dp]
      exact⟨kk.set (by omega),by rw[<-he];exact In.small (by omega) (by omega)⟩
    ·have fB:¬(lo:Int)<=9223372036854775807:=by omega
     simp[h0,fB,dn.dp]
     exact go _ (by simp) (by simp) (by simp)
   ·simp[h0,dn.dp]
    exact go _ (by simp) (by simp) (by simp)
  ·simp only[V.agg.injEq,fL,V.int.injEq,true_and,and_true]at e2
   obtain⟨rfl,rfl⟩:=e2
   simp[A.b157,aO,dM]
   exact go _ (by simp) (by simp) (by simp)
 ·simp only[V.agg.injEq,fL,V.int.injEq,true_and,and_true]at e1
  obtain⟨rfl,rfl⟩:=e1
  simp[A.b157,aO,dM,o2]
  exact go _ (by simp) (by simp) (by simp)
theorem Xi(hx:In h N x a)(hy:In h N y b)(la:wl a<100000000)(lb:wl b<100000000):Fn A.C 217 [x,y] h N (fun v _ _=>v=.int .i64 (dK (a-b))):=by
 intro w
 rw[aP,A.k217 (by simp)]
 obtain⟨n1,u1,rfl,o1⟩:=hx.cells
 obtain⟨n2,u2,rfl,o2⟩:=hy.cells
 have kk:=aJ (aJ (ab.refl (h:=h) (n:=N)) (.cells [.int .i64 n1,u1] 112 true)) (.cells [.int .i64 n2,u2] 112 true)
 have CJ:=Xh (hx.ad kk) (hy.ad kk) (by omega) (by omega)
 have HK:=QO a (-b)
 rw[Fj]at HK
 unfold V.one at o1 o2
 rcases id hx with⟨e1,s1,s2⟩|⟨i,o,l,c,e1,_⟩
 ·simp only[V.agg.injEq,fL,V.int.injEq,true_and,and_true]at e1
  obtain⟨rfl,rfl⟩:=e1
  rcases id hy with⟨e2,t1,t2⟩|⟨i,o,l,c,e2,_⟩
  ·simp only[V.agg.injEq,fL,V.int.injEq,true_and,and_true]at e2
   obtain⟨rfl,rfl⟩:=e2
   by_cases h1:n1<n2
   ·simp[A.b217,aO,aA,dM,h1]
    exact⟨kk,by unfold dK;rw[aF (by omega)]⟩
   ·by_cases h2:n2<n1
    ·simp[A.b217,aO,aA,dM,h1,h2]
     exact⟨kk,by unfold dK;rw[ar (by omega),ar (by omega)]⟩
    ·simp[A.b217,aO,aA,dM,h1,h2]
     exact⟨kk,by unfold dK;rw[ar (by omega),aF (by omega)]⟩
  ·simp only[V.agg.injEq,fL,V.int.injEq,true_and,and_true]at e2
   obtain⟨rfl,rfl⟩:=e2
   simp[A.b217,aO,aM,dM]
   refine ax CJ ?_
   rintro v h1 rU k1 hv
   simp[]
   refine ax (CE hv) ?_
   rintro _ h2 l8 k2 rfl
   simp[aA]
   exact(kk.trans k1).trans k2
 ·simp only[V.agg.injEq,fL,V.int.injEq,true_and,and_true]at e1
  obtain⟨rfl,rfl⟩:=e1
  simp[A.b217,aO,aM,dM,o2]
  refine ax CJ ?_
  rintro v h1 rU k1 hv
  simp[]
  refine ax (CE hv) ?_
  rintro _ h2 l8 k2 rfl
  simp[aA]
  exact(kk.trans k1).trans k2
theorem Xj(hx:In h N x a)(la:wl a<1000000000):Fn A.C 259 [x] h N (fun v h' n'=>In h' n' v (a.natAbs:Int)):=by
 intro w
 rw[aP,A.k259 (by simp)]
 obtain⟨n1,u1,rfl,o1⟩:=hx.cells
 have kk:=aJ (aJ (ab.refl (h:=h) (n:=N)) (.cells [.int .i64 n1,u1] 112 true)) (.cells [.int .i64 0,.aa] 112 true)
 have Gu:=Dj (hx.ad kk) la
 have HQ:(n1<0)=(a<0):=by
  rcases hx with⟨e1,s1,s2⟩|⟨i,o,l,c,e1,_⟩
  ·simp only[V.agg.injEq,fL,V.int.injEq,true_and,and_true]at e1
   rw[e1.1]
  ·simp only[V.agg.injEq,fL,V.int.injEq,true_and,and_true]at e1
   rw[e1.1];unfold sZ;split<;>simp_all
 unfold V.one at o1
 by_cases h0:a<0
 ·have h1:n1<0:=by rw[HQ];exact h0
  simp[A.b259,aO,aM,o1,h1]
  refine ax Gu ?_
  rintro v h2 n2 k2 hv
  obtain⟨n5,u5,rfl,iw⟩:=hv.cells
  unfold V.one at iw
  have rS:=k2.le
  have g2:=k2.get (N+1) (by omega)
  simp at g2
  have he:(-a)=(a.natAbs:Int):=by omega
  rw[he]at hv
  simp[g2,iw,ag,bL,aO,aM,aA]
  exact⟨(kk.trans k2).set (by omega),hv.aE g2 (by simp) rfl⟩
 ·have h1:¬n1<0:=by rw[HQ];exact h0
  have he:a=(a.natAbs:Int):=by omega
  rw[he]at hx
  simp[A.b259,aO,aM,ag,bL,o1,h1,aA]
  exact⟨kk.set (by omega),(hx.ad kk).aE (i:=N+1) (c0:=[.int .i64 0,.aa]) (e0:=112) (w0:=true) (by simp) (by simp) rfl⟩
end Go.Mx
