/-num-/
import Derived.Test.YthekjfgljafnaaaGreatDoorNaD
set_option linter.all false
namespace Go.Mx
open Go Go.Proofs
variable {N:Nat} {a b:Int} {h:T O} {x y:V}
set_option maxHeartbeats 1000000
set_option maxRecDepth 1000000
def A.ta164_0:Zaw:=sr [lN 34 2 2,c1 35 202 34,mv 33 35,xt 36 33 0,xt 37 33 1,mv 6 36,mv 7 37]
 (sr [lN 39 2 3,c1 40 202 39,mv 38 40,xt 41 38 0,xt 42 38 1,mv 8 41,mv 9 42]
 (.seq (.block 0 (sr [mv 44 6,mv 45 8,ge 46 (.bin .eql (.prim .bool) false (tq 44) (tq 45)),mv 43 46]
 (cd 43
 (sr [mv 47 6,mv 48 7,mv 49 9,c2 50 204 48 49,c2 51 203 47 50,gn (.store 2 (tq 4) (tq 51))]
 (.ret))
 (sr [mv 53 7,mv 54 9,c2 55 205 53 54,bc 56 .geq 55 0,mv 52 56]
 (cd 52
 (sr [mv 57 6,mv 58 7,mv 59 9,c2 60 206 58 59,c2 61 203 57 60,gn (.store 2 (tq 4) (tq 61))]
 (.ret))
 (.skip))))))
 (sr [mv 62 8,mv 63 9,mv 64 7,c2 65 206 63 64,c2 66 203 62 65,gn (.store 2 (tq 4) (tq 66))]
 (.ret))))
def A.b164:Zaw:=sr [bx 2 109 0,bx 3 109 1,ge 4 (.alloc [.int .i64 0,.nilslice] 109)]
 (.seq (sr [fa 10 1 2,ld 11 10,ge 12 (.bin .eql (.prim .slice) true (tq 11) (.const .nilslice)),mv 13 12,gy 14 13 (.faddr 1 (tq 3)),gy 15 13 (.load none (tq 14)),gy 16 13 (.bin .eql (.prim .slice) true (tq 15) (.const .nilslice)),pf 17 13 16]
 (cd 17
 (sr [fa 18 0 2,ld 19 18,fa 20 0 3,ld 21 20,bi 22 .add 19 21,mv 5 22]
 (sr [mv 23 5,fa 24 0 2,ld 25 24,bi 26 .gtr 23 25,fa 27 0 3,ld 28 27,bc 29 .gtr 28 0,ge 30 (.bin .eql (.prim .bool) false (tq 26) (tq 29))]
 (cd 30
 (sr [mv 31 5,ge 32 (.build [.int .i64 0,.nilslice] [(0,1,(tq 31))]),gn (.store 2 (tq 4) (tq 32))]
 (.ret))
 (.skip))))
 (.skip)))
 A.ta164_0)
def A.k164:=@A.kk 164 67 [.cell 4 (some 2)] A.b164 (by kernel_rfl) rfl
noncomputable def A.b228:=A.q Tryz.f228
def A.k228:=@A.kk 228 9 [.cell 4 (some 2)] A.b228 (by kernel_rfl) rfl
def A.ta166_0:Zaw:=sr [lN 50 2 2,c1 51 202 50,mv 49 51,xt 52 49 0,xt 53 49 1,mv 7 52,mv 8 53]
 (sr [lN 55 2 3,c1 56 202 55,mv 54 56,xt 57 54 0,xt 58 54 1,mv 9 57,mv 10 58]
 (sr [mv 59 7,mv 60 9,ge 61 (.bin .neq (.prim .bool) false (tq 59) (tq 60)),mv 62 8,mv 63 10,c2 64 210 62 63,c2 65 203 61 64,gn (.store 2 (tq 4) (tq 65))]
 (.ret)))
def A.b166:Zaw:=sr [bx 2 109 0,bx 3 109 1,ge 4 (.alloc [.int .i64 0,.nilslice] 109)]
 (.seq (sr [fa 11 1 2,ld 12 11,ge 13 (.bin .eql (.prim .slice) true (tq 12) (.const .nilslice)),mv 14 13,gy 15 14 (.faddr 1 (tq 3)),gy 16 14 (.load none (tq 15)),gy 17 14 (.bin .eql (.prim .slice) true (tq 16) (.const .nilslice)),pf 18 14 17]
 (cd 18
 (.seq (.regD [fa 20 0 2,ld 21 20,c1 22 209 21,fa 23 0 3,ld 24 23,c1 25 209 24,c2 26 208 22 25,mv 19 26,xt 27 19 0,xt 28 19 1,mv 5 27,mv 6 28] [0,1,3,0,8,31,63,127,255,255,511,2047])
 (sr [mv 29 5,ge 30 (.bin .eql (.prim .int) true (tq 29) (.const (.int .u64 0))),mv 31 30,mg 32 6 31,gy 33 31 (.bin .leq (.node []) false (tq 32) (.const (.int .u64 9223372036854775807))),pf 34 31 33]
 (cd 34
 (.seq (sr [fa 35 0 2,ld 36 35,bc 37 .lss 36 0,fa 38 0 3,ld 39 38,bc 40 .lss 39 0,ge 41 (.bin .neq (.prim .bool) false (tq 37) (tq 40))]
 (cd 41
 (sr [mv 42 6,ge 43 (.convInt .i64 (tq 42)),ge 44 (.un .neg (tq 43)),ge 45 (.build [.int .i64 0,.nilslice] [(0,1,(tq 44))]),gn (.store 2 (tq 4) (tq 45))]
 (.ret))
 (.skip)))
 (sr [mv 46 6,ge 47 (.convInt .i64 (tq 46)),ge 48 (.build [.int .i64 0,.nilslice] [(0,1,(tq 47))]),gn (.store 2 (tq 4) (tq 48))]
 (.ret)))
 (.skip))))
 (.skip)))
 A.ta166_0)
def A.k166:=@A.kk 166 66 [.cell 4 (some 2)] A.b166 (by kernel_rfl) rfl
noncomputable def A.b194:=A.q Tryz.f194
def A.k194:=@A.kk 194 29 [.tmp 4] A.b194 (by kernel_rfl) rfl
structure Yph (h:T O) (N q:Nat) (z:Int) (st:St):Prop where
 w:Zaa N st.w=[]
 keep:Keeps h N st.h st.n
 ex:∃n u,st.h.get q=some (.cells [.int .i64 n,u] 109 true)∧In st.h st.n (.agg [.int .i64 n,u]) z
def Zwz(a b:Int):(a*b<0)↔((a<0)≠(b<0))∧a≠0∧b≠0:=by
 rcases Int.lt_trichotomy a 0 with ha|ha|ha<;>rcases Int.lt_trichotomy b 0 with hb|hb|hb
 ·have:=Int.mul_pos_of_neg_of_neg ha hb
  simp[ha,hb];omega
 ·subst hb;simp
 ·have:=Int.mul_neg_of_neg_of_pos ha hb
  have h1:¬b<0:=by omega
  simp[ha,h1,this];omega
 ·subst ha;simp
 ·subst ha;simp
 ·subst ha;simp
 ·have:=Int.mul_neg_of_pos_of_neg ha hb
  have h1:¬a<0:=by omega
  simp[hb,h1,this];omega
 ·subst hb;simp
 ·have:=Int.mul_pos ha hb
  have h1:¬a<0:=by omega
  have h2:¬b<0:=by omega
  simp[h1,h2];omega
def Zgi{n k:Nat}(h:n<B^k):(wds n).length≤k:=by
 apply Yyc
 intro hc
 obtain⟨j,hj⟩:∃j,(wds n).length=j+1:=⟨(wds n).length-1,by omega⟩
 have:=(Zd7 hj).1
 have:=Yw3 (show 0<B by decide) (show k≤j by omega)
 omega
def Zv4(n:Nat):n<B^(wds n).length:=by
 have:=Zlr (Zds n)
 rwa [Zbp]at this
def Ya1(a b:Int):wl (a+b)≤max (wl a) (wl b)+1:=by
 unfold wl
 apply Zgi
 have h1:=Zv4 a.natAbs
 have h2:=Zv4 b.natAbs
 have h3:=Yw3 (show 0<B by decide) (Yy7 (wds a.natAbs).length (wds b.natAbs).length)
 have h4:=Yw3 (show 0<B by decide) (Yy3 (wds a.natAbs).length (wds b.natAbs).length)
 have h5:(a+b).natAbs≤a.natAbs+b.natAbs:=Int.natAbs_add_le a b
 rw[Ywx]
 generalize B^max (wds a.natAbs).length (wds b.natAbs).length=p at*
 have:p*2≤p*B:=Ywt p (by decide)
 omega
def Zro(a:Int):wl (-a)=wl a:=by unfold wl;rw[Yyz]
def Zjs(a b:Int):wl (a*b)≤wl a+wl b:=by
 unfold wl
 apply Zgi
 rw[Yx3,Yxe]
 have h1:=Zv4 a.natAbs
 have h2:=Zv4 b.natAbs
 exact Yyx h1 h2
def Ztu(h:a.natAbs≤b.natAbs):wl a≤wl b:=Zdk h
def Yjp{H:T O}{n1 n2:Int}{u1 u2:V}{r0:T V}(hx:In H (N+3) (.agg [.int .i64 n1,u1]) a)(hy:In H (N+3) (.agg [.int .i64 n2,u2]) b)(la:wl a<500000000000)(lb:wl b<500000000000)(hK:Keeps h N H (N+3))
  (gx:H.get N=some (.cells [.int .i64 n1,u1] 109 true)) (gy:H.get (N+1)=some (.cells [.int .i64 n2,u2] 109 true)) (gz:H.get (N+2)=some (.cells [.int .i64 0,.nilslice] 109 true)) (r2:r0.get 2=some (.ptr N 0)) (r3:r0.get 3=some (.ptr (N+1) 0)) (r4:r0.get 4=some (.ptr (N+2) 0)):
  Code A.C none A.ta164_0 ⟨r0,67,[]⟩ ⟨H,N+3,[]⟩ (fun e fr st=>e=.ret∧∃r,fr=⟨r,67,[]⟩∧r.get 4=some (.ptr (N+2) 0)∧Yph h N (N+2) (a+b) st):=by
 rw[Zah]
 simp[A.ta164_0,r2,gx,Zak,slc]
 refine Zac (Ze2 hx) ?_
 rintro _ h1 N1 k1 ⟨ua,rfl,hua⟩
 have kle1:=k1.le
 have gy1:=(k1.get (N+1) (by omega)).trans gy
 have gz1:=(k1.get (N+2) (by omega)).trans gz
 simp[r3,gy1,Zak,slc]
 refine Zac (Ze2 (hy.keep k1)) ?_
 rintro _ h2 N2 k2 ⟨ub,rfl,hub⟩
 have kle2:=k2.le
 have gz2:=(k2.get (N+2) (by omega)).trans gz1
 have hua2:=hua.keep k2
 have la':(wds a.natAbs).length<500000000000:=la
 have lb':(wds b.natAbs).length<500000000000:=lb
 have kA:=(hK.trans k1).trans k2
 have wl3:=Ya1 a b
 have fin:∀(z:Int) (v:V) (h4:T O) (n4:Nat),Keeps h2 N2 h4 n4→In h4 n4 v z→z=a+b→∃(n5:Int) (u5:V),v=.agg [.int .i64 n5,u5]∧V.one u5=true∧h4.get (N+2)=some (.cells [.int .i64 0,.nilslice] 109 true)∧∀W,Zaa N W=[]→Yph h N (N+2) (a+b) ⟨h4.set (N+2) (.cells [.int .i64 n5,u5] 109 true),n4,W⟩:=by
  intro z v h4 n4 k4 hv hz
  obtain⟨n5,u5,rfl,ho5⟩:=hv.cells
  have gz4:=(k4.get (N+2) (by omega)).trans gz2
  have kle4:=k4.le
  subst hz
  exact⟨n5,u5,rfl,ho5,gz4,fun W hW=>⟨hW,(kA.trans k4).set (by omega),n5,u5,by simp,hv.setNU gz4 (by simp) rfl⟩⟩
 by_cases hs:(a<0)=(b<0)
 ·have hs':(decide (a<0)==decide (b<0))=true:=by simp[hs]
  simp[Zad,hs']
  refine Zac (Zv0 hua2 hub (by omega) (by omega)) ?_
  rintro v h3 N3 k3 hv
  have hsum:a.natAbs+b.natAbs=(a+b).natAbs:=by
   by_cases h:a<0
   ·have:b<0:=by rw[hs]at h;exact h
    omega
   ·have:¬b<0:=by rw[hs]at h;exact h
    omega
  rw[hsum]at hv
  simp[]
  refine Zac (Zhv hv (by unfold wl at wl3 la lb;omega)) ?_
  rintro v h4 N4 k4 hv
  obtain⟨n5,u5,rfl,ho5,gz4,hf⟩:=fin _ _ _ _ (k3.trans k4) hv (by
   by_cases h:a<0
   ·have:b<0:=by rw[hs]at h;exact h
    simp[h];omega
   ·have:¬b<0:=by rw[hs]at h;exact h
    simp[h];omega)
  unfold V.one at ho5
  simp[gz4,ho5,splice,Zal,r4]
  exact hf _ (by simp[Zaa])
 ·have hs':(decide (a<0)==decide (b<0))=false:=by
   by_cases h:a<0<;>by_cases h':b<0<;>simp_all
  simp[Zad,hs']
  refine Zac (Zh4 hua2 hub (by omega) (by omega)) ?_
  rintro _ h3 N3 k3 rfl
  have hua3:=hua2.keep k3
  have hub3:=hub.keep k3
  by_cases hc:b.natAbs≤a.natAbs
  ·have c1:(0:Int)≤Zvs a.natAbs b.natAbs:=by unfold Zvs;split<;>(try split)<;>omega
   simp[c1]
   refine Zac (Zm4 hua3 hub3 hc (by omega) (by omega)) ?_
   rintro v h5 N5 k5 hv
   simp[]
   refine Zac (Zhv hv (by have:=Zdk (show a.natAbs-b.natAbs≤a.natAbs by omega);omega)) ?_
   rintro v h4 N4 k4 hv
   obtain⟨n5,u5,rfl,ho5,gz4,hf⟩:=fin _ _ _ _ ((k3.trans k5).trans k4) hv (by
    by_cases h:a<0
    ·have:¬b<0:=by intro h2;apply hs;simp[h,h2]
     simp[h];omega
    ·have:b<0:=by apply Decidable.byContradiction;intro h2;apply hs;simp[h,h2]
     simp[h];omega)
   unfold V.one at ho5
   simp[gz4,ho5,splice,Zal,r4]
   exact hf _ (by simp[Zaa])
  ·have c1:¬(0:Int)≤Zvs a.natAbs b.natAbs:=by unfold Zvs;split<;>(try split)<;>omega
   simp[c1]
   refine Zac (Zm4 hub3 hua3 (by omega) (by omega) (by omega)) ?_
   rintro v h5 N5 k5 hv
   simp[]
   refine Zac (Zhv hv (by have:=Zdk (show b.natAbs-a.natAbs≤b.natAbs by omega);omega)) ?_
   rintro v h4 N4 k4 hv
   obtain⟨n5,u5,rfl,ho5,gz4,hf⟩:=fin _ _ _ _ ((k3.trans k5).trans k4) hv (by
    by_cases h:b<0
    ·have:¬a<0:=by intro h2;apply hs;simp[h,h2]
     simp[h];omega
    ·have:a<0:=by apply Decidable.byContradiction;intro h2;apply hs;simp[h,h2]
     simp[h];omega)
   unfold V.one at ho5
   simp[gz4,ho5,splice,Zal,r4]
   exact hf _ (by simp[Zaa])
def Ztn(hx:In h N x a)(hy:In h N y b)(la:wl a<500000000000)(lb:wl b<500000000000):Fn A.C 164 [x,y] h N (fun v h' n'=>In h' n' v (a+b)):=by
 intro w
 rw[Zab,A.k164 (by simp)]
 obtain⟨n1,u1,rfl,o1⟩:=hx.cells
 obtain⟨n2,u2,rfl,o2⟩:=hy.cells
 have kk:=kset (kset (kset (Keeps.refl (h:=h) (n:=N)) (.cells [.int .i64 n1,u1] 109 true)) (.cells [.int .i64 n2,u2] 109 true)) (.cells [.int .i64 0,.nilslice] 109 true)
 unfold V.one at o1 o2
 have go:∀r:T V,r.get 2=some (.ptr N 0)→r.get 3=some (.ptr (N+1) 0)→r.get 4=some (.ptr (N+2) 0)→Run A.C [.fin [.cell 4 (some 2)] ⟨h,N,w⟩] (exR (A.C.code none A.ta164_0 ⟨r,67,[]⟩ ⟨((h.set N (.cells [.int .i64 n1,u1] 109 true)).set (N+1) (.cells [.int .i64 n2,u2] 109 true)).set (N+1+1) (.cells [.int .i64 0,.nilslice] 109 true),N+1+1+1,[]⟩)) (Yf7 (Ret (fun v h' n'=>In h' n' v (a+b)) h N w)):=by
  intro r r2 r3 r4
  refine Zbd (Yjp (hx.keep kk) (hy.keep kk) la lb kk (by simp) (by simp) (by simp) r2 r3 r4) ?_
  rintro e fr ⟨h5,n5,w5⟩ ⟨rfl,r',rfl,r4',hW,hK,n6,u6,g6,hi⟩
  simp only at hW hK g6 hi
  simp[r4',g6,Zak,slc,Ret,hW]
  exact⟨hK,hi⟩
 rcases id hx with⟨e1,s1,s2⟩|⟨i,o,l,c,e1,_⟩
 ·simp only[V.agg.injEq,Ywu,V.int.injEq,true_and,and_true]at e1
  obtain⟨rfl,rfl⟩:=e1
  rcases id hy with⟨e2,t1,t2⟩|⟨i,o,l,c,e2,_⟩
  ·simp only[V.agg.injEq,Ywu,V.int.injEq,true_and,and_true]at e2
   obtain⟨rfl,rfl⟩:=e2
   have kr:=fun (o1 o2:O)=>(kk.set (i:=N+1+1) (o:=o1) (by omega))
   by_cases hin: -9223372036854775808≤n1+n2∧n1+n2<9223372036854775808
   ·have w1:Zar .i64 (n1+n2)=n1+n2:=Zaj (by omega) (by omega)
    by_cases hp:0<n2
    ·have c1:n1<n1+n2:=by omega
     simp[A.b164,Zak,slc,splice,Zad,w1,hp,c1,Ret]
     exact⟨kk.set (by omega),In.small (by omega) (by omega)⟩
    ·have c1:¬n1<n1+n2:=by omega
     simp[A.b164,Zak,slc,splice,Zad,w1,hp,c1,Ret]
     exact⟨kk.set (by omega),In.small (by omega) (by omega)⟩
   ·obtain⟨y,hy1⟩:∃y,Zar .i64 (n1+n2)=y:=⟨_,rfl⟩
    have hy2:y=n1+n2-18446744073709551616∧0<n2∨y=n1+n2+18446744073709551616∧¬0<n2:=by
     rw[←hy1,Zdr]
     simp only[IntKind.wrap,IntKind.bits,IntKind.signed]
     simp
     omega
    by_cases hp:0<n2
    ·have c1:¬n1<y:=by omega
     simp[A.b164,Zak,slc,splice,Zad,hy1,hp,c1]
     exact go _ (by simp) (by simp) (by simp)
    ·have c1:n1<y:=by omega
     simp[A.b164,Zak,slc,splice,Zad,hy1,hp,c1]
     exact go _ (by simp) (by simp) (by simp)
  ·simp only[V.agg.injEq,Ywu,V.int.injEq,true_and,and_true]at e2
   obtain⟨rfl,rfl⟩:=e2
   simp[A.b164,Zak,slc,splice,Zad]
   exact go _ (by simp) (by simp) (by simp)
 ·simp only[V.agg.injEq,Ywu,V.int.injEq,true_and,and_true]at e1
  obtain⟨rfl,rfl⟩:=e1
  simp[A.b164,Zak,slc,splice,Zad,o2]
  exact go _ (by simp) (by simp) (by simp)
def Yjw(hx:In h N x a)(hy:In h N y b)(la:wl a<500000000000)(lb:wl b<500000000000):Fn A.C 228 [x,y] h N (fun v h' n'=>In h' n' v (a-b)):=by
 intro w
 rw[Zab,A.k228 (by simp)]
 obtain⟨n1,u1,rfl,o1⟩:=hx.cells
 obtain⟨n2,u2,rfl,o2⟩:=hy.cells
 have kk:=kset (kset (kset (Keeps.refl (h:=h) (n:=N)) (.cells [.int .i64 n1,u1] 109 true)) (.cells [.int .i64 n2,u2] 109 true)) (.cells [.int .i64 0,.nilslice] 109 true)
 have hng:=Zpq (hy.keep kk) lb
 have hx':=hx.keep kk
 unfold V.one at o1 o2
 simp[A.b228,Zak,slc,splice,o1,o2]
 refine Zac hng ?_
 rintro v h1 n1' k1 hv
 simp[]
 refine Zac (Ztn (hx'.keep k1) hv la (by rw[Zro];exact lb)) ?_
 rintro v2 h2 n2' k2 hv2
 obtain⟨n5,u5,rfl,ho5⟩:=hv2.cells
 unfold V.one at ho5
 have k12:=k1.trans k2
 have kle:=k12.le
 have g2:=k12.get (N+1+1) (by omega)
 simp at g2
 have hlt:N+1+1<n2':=by omega
 have hlt2:N+1+1<n1':=by have:=k1.le;omega
 simp[g2,ho5,splice,Zal,hlt,hlt2,Zao.chk,Ret]
 have he:a+ -b=a-b:=by omega
 rw[he]at hv2
 exact⟨(kk.trans k12).set (by omega),hv2.setNU g2 (by simp) rfl⟩
def Yho{H:T O}{n1 n2:Int}{u1 u2:V}{r0:T V}(hx:In H (N+3) (.agg [.int .i64 n1,u1]) a)(hy:In H (N+3) (.agg [.int .i64 n2,u2]) b)(la:wl a<500000000000)(lb:wl b<500000000000)(hK:Keeps h N H (N+3))
  (gx:H.get N=some (.cells [.int .i64 n1,u1] 109 true)) (gy:H.get (N+1)=some (.cells [.int .i64 n2,u2] 109 true)) (gz:H.get (N+2)=some (.cells [.int .i64 0,.nilslice] 109 true)) (r2:r0.get 2=some (.ptr N 0)) (r3:r0.get 3=some (.ptr (N+1) 0)) (r4:r0.get 4=some (.ptr (N+2) 0)):
  Code A.C none A.ta166_0 ⟨r0,66,[]⟩ ⟨H,N+3,[]⟩ (fun e fr st=>e=.ret∧∃r,fr=⟨r,66,[]⟩∧r.get 4=some (.ptr (N+2) 0)∧Yph h N (N+2) (a*b) st):=by
 rw[Zah]
 simp[A.ta166_0,r2,gx,Zak,slc]
 refine Zac (Ze2 hx) ?_
 rintro _ h1 N1 k1 ⟨ua,rfl,hua⟩
 have kle1:=k1.le
 have gy1:=(k1.get (N+1) (by omega)).trans gy
 have gz1:=(k1.get (N+2) (by omega)).trans gz
 simp[r3,gy1,Zak,slc]
 refine Zac (Ze2 (hy.keep k1)) ?_
 rintro _ h2 N2 k2 ⟨ub,rfl,hub⟩
 have kle2:=k2.le
 have gz2:=(k2.get (N+2) (by omega)).trans gz1
 have hua2:=hua.keep k2
 have la':(wds a.natAbs).length<500000000000:=la
 have lb':(wds b.natAbs).length<500000000000:=lb
 have kA:=(hK.trans k1).trans k2
 have wl3:=Zjs a b
 simp[Zad]
 refine Zac (Zuu hua2 hub (by omega) (by omega)) ?_
 rintro v h3 N3 k3 hv
 have hmul:a.natAbs*b.natAbs=(a*b).natAbs:=(Yx3 a b).symm
 rw[hmul]at hv
 simp[]
 refine Zac (Zhv hv (by unfold wl at wl3 la lb;omega)) ?_
 rintro v h4 N4 k4 hv
 obtain⟨n5,u5,rfl,ho5⟩:=hv.cells
 have gz4:=((k3.trans k4).get (N+2) (by omega)).trans gz2
 have kle4:=(k3.trans k4).le
 unfold V.one at ho5
 have hs:=Zwz a b
 have he:(if (!decide (a<0)==decide (b<0))=true then -((a*b).natAbs:Int) else (a*b).natAbs)=a*b:=by
  have h0:a=0∨b=0→a*b=0:=by rintro(rfl|rfl)<;>simp
  by_cases h1:a<0<;>by_cases h2:b<0<;>simp[h1,h2]at hs ⊢<;>omega
 rw[he]at hv
 simp[gz4,ho5,splice,Zal,r4]
 exact⟨by simp[Zaa],((kA.trans k3).trans k4).set (by omega),n5,u5,by simp,hv.setNU gz4 (by simp) rfl⟩
def Zht(hx:In h N x a)(hy:In h N y b)(la:wl a<500000000000)(lb:wl b<500000000000):Fn A.C 166 [x,y] h N (fun v h' n'=>In h' n' v (a*b)):=by
 intro w
 rw[Zab,A.k166 (by simp)]
 obtain⟨n1,u1,rfl,o1⟩:=hx.cells
 obtain⟨n2,u2,rfl,o2⟩:=hy.cells
 have kk:=kset (kset (kset (Keeps.refl (h:=h) (n:=N)) (.cells [.int .i64 n1,u1] 109 true)) (.cells [.int .i64 n2,u2] 109 true)) (.cells [.int .i64 0,.nilslice] 109 true)
 unfold V.one at o1 o2
 have go:∀r:T V,r.get 2=some (.ptr N 0)→r.get 3=some (.ptr (N+1) 0)→r.get 4=some (.ptr (N+2) 0)→Run A.C [.fin [.cell 4 (some 2)] ⟨h,N,w⟩] (exR (A.C.code none A.ta166_0 ⟨r,66,[]⟩ ⟨((h.set N (.cells [.int .i64 n1,u1] 109 true)).set (N+1) (.cells [.int .i64 n2,u2] 109 true)).set (N+1+1) (.cells [.int .i64 0,.nilslice] 109 true),N+1+1+1,[]⟩)) (Yf7 (Ret (fun v h' n'=>In h' n' v (a*b)) h N w)):=by
  intro r r2 r3 r4
  refine Zbd (Yho (hx.keep kk) (hy.keep kk) la lb kk (by simp) (by simp) (by simp) r2 r3 r4) ?_
  rintro e fr ⟨h5,n5,w5⟩ ⟨rfl,r',rfl,r4',hW,hK,n6,u6,g6,hi⟩
  simp only at hW hK g6 hi
  simp[r4',g6,Zak,slc,Ret,hW]
  exact⟨hK,hi⟩
 rcases id hx with⟨e1,s1,s2⟩|⟨i,o,l,c,e1,_⟩
 ·simp only[V.agg.injEq,Ywu,V.int.injEq,true_and,and_true]at e1
  obtain⟨rfl,rfl⟩:=e1
  rcases id hy with⟨e2,t1,t2⟩|⟨i,o,l,c,e2,_⟩
  ·simp only[V.agg.injEq,Ywu,V.int.injEq,true_and,and_true]at e2
   obtain⟨rfl,rfl⟩:=e2
   have z1:=fun st=>Zt9 s1 s2 (st:=st)
   have z2:=fun st=>Zt9 t1 t2 (st:=st)
   have hm:n1.natAbs*n2.natAbs=(n1*n2).natAbs:=(Yx3 _ _).symm
   have hlo:lo64 (n1.natAbs*n2.natAbs)+18446744073709551616*hi64 (n1.natAbs*n2.natAbs)=(n1*n2).natAbs:=by
    rw[←hm]
    have:=Yxv (n1.natAbs*n2.natAbs) 18446744073709551616
    unfold lo64 hi64;omega
   have hsgn:=Zwz n1 n2
   obtain⟨hi,hhi⟩:∃x,hi64 (n1.natAbs*n2.natAbs)=x:=⟨_,rfl⟩
   obtain⟨lo,hlo'⟩:∃x,lo64 (n1.natAbs*n2.natAbs)=x:=⟨_,rfl⟩
   rw[hhi,hlo']at hlo
   have hz:n1=0∨n2=0→n1*n2=0:=by rintro(rfl|rfl)<;>simp
   simp[A.b166,Zak,slc,splice,Zad,z1,z2]
   refine Zac (Zkd (x:=n1.natAbs) (y:=n2.natAbs) (by omega) (by omega)) ?_
   rintro _ h' N' k ⟨rfl,rfl,rfl⟩
   rw[hhi,hlo']
   have d1:¬N=N+1:=by omega
   by_cases h0:hi=0
   ·by_cases h1:lo≤9223372036854775807
    ·have h1':(lo:Int)≤9223372036854775807:=by omega
     have w1:Zar .i64 (lo:Int)=lo:=Zaj (by omega) (by omega)
     have w2:IntKind.wrap .i64 (-(lo:Int))= -(lo:Int):=Zjr (by omega) (by omega)
     by_cases hs:(n1<0)=(n2<0)
     ·have hs':(decide (n1<0)==decide (n2<0))=true:=by simp[hs]
      have hp:¬n1*n2<0:=by rw[hsgn];rintro⟨p,_⟩;exact p hs
      have he:(lo:Int)=n1*n2:=by omega
      simp[Zak,slc,splice,Zad,h0,h1',hs',w1,Ret,Zao.chk]
      exact⟨kk.set (by omega),by rw[←he];exact In.small (by omega) (by omega)⟩
     ·have hs':(decide (n1<0)==decide (n2<0))=false:=by
       by_cases h:n1<0<;>by_cases h':n2<0<;>simp_all
      have he: -(lo:Int)=n1*n2:=by
       by_cases hq:n1=0∨n2=0
       ·have:=hz hq;omega
       ·have:n1*n2<0:=hsgn.2 ⟨hs,fun h=>hq (.inl h),fun h=>hq (.inr h)⟩
        omega
      simp[Zak,slc,splice,Zad,h0,h1',hs',w1,w2,Ret,Zao.chk]
      exact⟨kk.set (by omega),by rw[←he];exact In.small (by omega) (by omega)⟩
    ·have h1':¬(lo:Int)≤9223372036854775807:=by omega
     simp[Zak,slc,splice,Zad,h0,h1',Zao.chk]
     exact go _ (by simp) (by simp) (by simp)
   ·simp[Zak,slc,splice,Zad,h0,Zao.chk]
    exact go _ (by simp) (by simp) (by simp)
  ·simp only[V.agg.injEq,Ywu,V.int.injEq,true_and,and_true]at e2
   obtain⟨rfl,rfl⟩:=e2
   simp[A.b166,Zak,slc,splice,Zad]
   exact go _ (by simp) (by simp) (by simp)
 ·simp only[V.agg.injEq,Ywu,V.int.injEq,true_and,and_true]at e1
  obtain⟨rfl,rfl⟩:=e1
  simp[A.b166,Zak,slc,splice,Zad,o2]
  exact go _ (by simp) (by simp) (by simp)
def Yky(hx:In h N x a)(hy:In h N y b)(la:wl a<100000000000)(lb:wl b<100000000000):Fn A.C 194 [x,y] h N (fun v _ _=>v=.int .i64 (sg3 (a-b))):=by
 intro w
 rw[Zab,A.k194 (by simp)]
 obtain⟨n1,u1,rfl,o1⟩:=hx.cells
 obtain⟨n2,u2,rfl,o2⟩:=hy.cells
 have kk:=kset (kset (Keeps.refl (h:=h) (n:=N)) (.cells [.int .i64 n1,u1] 109 true)) (.cells [.int .i64 n2,u2] 109 true)
 have hsb:=Yjw (hx.keep kk) (hy.keep kk) (by omega) (by omega)
 have wl3:=Ya1 a (-b)
 rw[Zro]at wl3
 unfold V.one at o1 o2
 rcases id hx with⟨e1,s1,s2⟩|⟨i,o,l,c,e1,_⟩
 ·simp only[V.agg.injEq,Ywu,V.int.injEq,true_and,and_true]at e1
  obtain⟨rfl,rfl⟩:=e1
  rcases id hy with⟨e2,t1,t2⟩|⟨i,o,l,c,e2,_⟩
  ·simp only[V.agg.injEq,Ywu,V.int.injEq,true_and,and_true]at e2
   obtain⟨rfl,rfl⟩:=e2
   by_cases h1:n1<n2
   ·simp[A.b194,Zak,slc,splice,Ret,Zad,h1]
    exact⟨kk,by unfold sg3;rw[Yv6 (by omega)]⟩
   ·by_cases h2:n2<n1
    ·simp[A.b194,Zak,slc,splice,Ret,Zad,h1,h2]
     exact⟨kk,by unfold sg3;rw[Yv4 (by omega),Yv4 (by omega)]⟩
    ·simp[A.b194,Zak,slc,splice,Ret,Zad,h1,h2]
     exact⟨kk,by unfold sg3;rw[Yv4 (by omega),Yv6 (by omega)]⟩
  ·simp only[V.agg.injEq,Ywu,V.int.injEq,true_and,and_true]at e2
   obtain⟨rfl,rfl⟩:=e2
   simp[A.b194,Zak,slc,splice,Zad]
   refine Zac hsb ?_
   rintro v h1 n1' k1 hv
   simp[]
   refine Zac (Zi2 hv) ?_
   rintro _ h2 n2' k2 rfl
   simp[Ret]
   exact(kk.trans k1).trans k2
 ·simp only[V.agg.injEq,Ywu,V.int.injEq,true_and,and_true]at e1
  obtain⟨rfl,rfl⟩:=e1
  simp[A.b194,Zak,slc,splice,Zad,o2]
  refine Zac hsb ?_
  rintro v h1 n1' k1 hv
  simp[]
  refine Zac (Zi2 hv) ?_
  rintro _ h2 n2' k2 rfl
  simp[Ret]
  exact(kk.trans k1).trans k2
def Yk4(hx:In h N x a)(la:wl a<500000000000):Fn A.C 226 [x] h N (fun v h' n'=>In h' n' v (a.natAbs:Int)):=by
 intro w
 rw[Zab,A.k226 (by simp)]
 obtain⟨n1,u1,rfl,o1⟩:=hx.cells
 have kk:=kset (kset (Keeps.refl (h:=h) (n:=N)) (.cells [.int .i64 n1,u1] 109 true)) (.cells [.int .i64 0,.nilslice] 109 true)
 have hng:=Zpq (hx.keep kk) la
 have hsn:(n1<0)=(a<0):=by
  rcases hx with⟨e1,s1,s2⟩|⟨i,o,l,c,e1,_⟩
  ·simp only[V.agg.injEq,Ywu,V.int.injEq,true_and,and_true]at e1
   rw[e1.1]
  ·simp only[V.agg.injEq,Ywu,V.int.injEq,true_and,and_true]at e1
   rw[e1.1];unfold sgn;split<;>simp_all
 unfold V.one at o1
 by_cases h0:a<0
 ·have h1:n1<0:=by rw[hsn];exact h0
  simp[A.b226,Zak,slc,splice,o1,h1]
  refine Zac hng ?_
  rintro v h2 n2 k2 hv
  obtain⟨n5,u5,rfl,ho5⟩:=hv.cells
  unfold V.one at ho5
  have kle:=k2.le
  have g2:=k2.get (N+1) (by omega)
  simp at g2
  have he:(-a)=(a.natAbs:Int):=by omega
  rw[he]at hv
  simp[g2,ho5,splice,Zal,Zak,slc,Ret]
  exact⟨(kk.trans k2).set (by omega),hv.setNU g2 (by simp) rfl⟩
 ·have h1:¬n1<0:=by rw[hsn];exact h0
  have he:a=(a.natAbs:Int):=by omega
  rw[he]at hx
  simp[A.b226,Zak,slc,splice,Zal,o1,h1,Ret]
  exact⟨kk.set (by omega),(hx.keep kk).setNU (i:=N+1) (c0:=[.int .i64 0,.nilslice]) (e0:=109) (w0:=true) (by simp) (by simp) rfl⟩
end Go.Mx
