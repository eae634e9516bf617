/-
  num.Int: Add, Sub, Mul, Cmp, Abs.
-/
import Derived.Test.YtppobccilnifoaaGreatDoorNbA
set_option linter.all false
namespace Go.Mx
open Go Go.Proofs
set_option maxRecDepth 1000000
def A.ta182_0:MCode:=.seq (.reg [⟨(some 34),.load (some 2) (.tmp 2),none⟩,⟨(some 35),.call (.const (.func 209 [] [])) [(.tmp 34)],none⟩,mv 33 35,xt 36 33 0,xt 37 33 1,mv 6 36,mv 7 37])
 (.seq (.reg [⟨(some 39),.load (some 2) (.tmp 3),none⟩,⟨(some 40),.call (.const (.func 209 [] [])) [(.tmp 39)],none⟩,mv 38 40,xt 41 38 0,xt 42 38 1,mv 8 41,mv 9 42])
 (.seq (.block 0 (.seq (.reg [mv 44 6,mv 45 8,⟨(some 46),.bin .eql (.prim .bool) false (.tmp 44) (.tmp 45),none⟩,mv 43 46])
 (.cond (.tmp 43)
 (.seq (.reg [mv 47 6,mv 48 7,mv 49 9,⟨(some 50),.call (.const (.func 220 [] [])) [(.tmp 48),(.tmp 49)],none⟩,⟨(some 51),.call (.const (.func 218 [] [])) [(.tmp 47),(.tmp 50)],none⟩,⟨none,.store 2 (.tmp 4) (.tmp 51),none⟩])
 (.ret))
 (.seq (.reg [mv 53 7,mv 54 9,⟨(some 55),.call (.const (.func 221 [] [])) [(.tmp 53),(.tmp 54)],none⟩,bc 56 .geq 55 0,mv 52 56])
 (.cond (.tmp 52)
 (.seq (.reg [mv 57 6,mv 58 7,mv 59 9,⟨(some 60),.call (.const (.func 222 [] [])) [(.tmp 58),(.tmp 59)],none⟩,⟨(some 61),.call (.const (.func 218 [] [])) [(.tmp 57),(.tmp 60)],none⟩,⟨none,.store 2 (.tmp 4) (.tmp 61),none⟩])
 (.ret))
 (.skip))))))
 (.seq (.reg [mv 62 8,mv 63 9,mv 64 7,⟨(some 65),.call (.const (.func 222 [] [])) [(.tmp 63),(.tmp 64)],none⟩,⟨(some 66),.call (.const (.func 218 [] [])) [(.tmp 62),(.tmp 65)],none⟩,⟨none,.store 2 (.tmp 4) (.tmp 66),none⟩])
 (.ret))))
def A.b182:MCode:=.seq (.reg [⟨(some 2),.box 224 (.tmp 0),none⟩,⟨(some 3),.box 224 (.tmp 1),none⟩,⟨(some 4),.alloc [(.int .i64 0),.nilslice] 224,none⟩])
 (.seq (.seq (.reg [⟨(some 10),.faddr 1 (.tmp 2),none⟩,ld 11 10,⟨(some 12),.bin .eql (.prim .slice) true (.tmp 11) (.const .nilslice),none⟩,mv 13 12,⟨(some 14),.faddr 1 (.tmp 3),(some (13,true))⟩,⟨(some 15),.load none (.tmp 14),(some (13,true))⟩,⟨(some 16),.bin .eql (.prim .slice) true (.tmp 15) (.const .nilslice),(some (13,true))⟩,⟨(some 17),.pick (.tmp 13) (.tmp 16) (.const (.bool false)),none⟩])
 (.cond (.tmp 17)
 (.seq (.reg [⟨(some 18),.faddr 0 (.tmp 2),none⟩,ld 19 18,⟨(some 20),.faddr 0 (.tmp 3),none⟩,ld 21 20,bi 22 .add 19 21,mv 5 22])
 (.seq (.reg [mv 23 5,⟨(some 24),.faddr 0 (.tmp 2),none⟩,ld 25 24,bi 26 .gtr 23 25,⟨(some 27),.faddr 0 (.tmp 3),none⟩,ld 28 27,bc 29 .gtr 28 0,⟨(some 30),.bin .eql (.prim .bool) false (.tmp 26) (.tmp 29),none⟩])
 (.cond (.tmp 30)
 (.seq (.reg [mv 31 5,⟨(some 32),.build [(.int .i64 0),.nilslice] [(0,1,(.tmp 31))],none⟩,⟨none,.store 2 (.tmp 4) (.tmp 32),none⟩])
 (.ret))
 (.skip))))
 (.skip)))
 A.ta182_0)
theorem A.c182:cFunc Tryz.prog 182=some ⟨67,[.cell 4 (some 2)],A.b182⟩:=by kernel_rfl
def A.k182{K Q f c args st}:=@A.kk 182 _ _ _ A.c182 rfl K Q f c args st
def A.b194:MCode:=.seq (.reg [⟨(some 2),.box 224 (.tmp 0),none⟩,⟨(some 3),.box 224 (.tmp 1),none⟩,⟨(some 4),.alloc [(.int .i64 0),.nilslice] 224,none⟩])
 (.seq (.regD [⟨(some 5),.load (some 2) (.tmp 2),none⟩,⟨(some 6),.load (some 2) (.tmp 3),none⟩,⟨(some 7),.call (.const (.func 193 [] [])) [(.tmp 6)],none⟩,⟨(some 8),.call (.const (.func 182 [] [])) [(.tmp 5),(.tmp 7)],none⟩,⟨none,.store 2 (.tmp 4) (.tmp 8),none⟩] [0,0,2,7,15])
 (.ret))
theorem A.c194:cFunc Tryz.prog 194=some ⟨9,[.cell 4 (some 2)],A.b194⟩:=by kernel_rfl
def A.k194{K Q f c args st}:=@A.kk 194 _ _ _ A.c194 rfl K Q f c args st
def A.ta181_0:MCode:=.seq (.reg [⟨(some 50),.load (some 2) (.tmp 2),none⟩,⟨(some 51),.call (.const (.func 209 [] [])) [(.tmp 50)],none⟩,mv 49 51,xt 52 49 0,xt 53 49 1,mv 7 52,mv 8 53])
 (.seq (.reg [⟨(some 55),.load (some 2) (.tmp 3),none⟩,⟨(some 56),.call (.const (.func 209 [] [])) [(.tmp 55)],none⟩,mv 54 56,xt 57 54 0,xt 58 54 1,mv 9 57,mv 10 58])
 (.seq (.reg [mv 59 7,mv 60 9,⟨(some 61),.bin .neq (.prim .bool) false (.tmp 59) (.tmp 60),none⟩,mv 62 8,mv 63 10,⟨(some 64),.call (.const (.func 219 [] [])) [(.tmp 62),(.tmp 63)],none⟩,⟨(some 65),.call (.const (.func 218 [] [])) [(.tmp 61),(.tmp 64)],none⟩,⟨none,.store 2 (.tmp 4) (.tmp 65),none⟩])
 (.ret)))
def A.b181:MCode:=.seq (.reg [⟨(some 2),.box 224 (.tmp 0),none⟩,⟨(some 3),.box 224 (.tmp 1),none⟩,⟨(some 4),.alloc [(.int .i64 0),.nilslice] 224,none⟩])
 (.seq (.seq (.reg [⟨(some 11),.faddr 1 (.tmp 2),none⟩,ld 12 11,⟨(some 13),.bin .eql (.prim .slice) true (.tmp 12) (.const .nilslice),none⟩,mv 14 13,⟨(some 15),.faddr 1 (.tmp 3),(some (14,true))⟩,⟨(some 16),.load none (.tmp 15),(some (14,true))⟩,⟨(some 17),.bin .eql (.prim .slice) true (.tmp 16) (.const .nilslice),(some (14,true))⟩,⟨(some 18),.pick (.tmp 14) (.tmp 17) (.const (.bool false)),none⟩])
 (.cond (.tmp 18)
 (.seq (.regD [⟨(some 20),.faddr 0 (.tmp 2),none⟩,ld 21 20,⟨(some 22),.call (.const (.func 217 [] [])) [(.tmp 21)],none⟩,⟨(some 23),.faddr 0 (.tmp 3),none⟩,ld 24 23,⟨(some 25),.call (.const (.func 217 [] [])) [(.tmp 24)],none⟩,⟨(some 26),.call (.const (.func 216 [] [])) [(.tmp 22),(.tmp 25)],none⟩,mv 19 26,xt 27 19 0,xt 28 19 1,mv 5 27,mv 6 28] [0,1,3,0,8,31,63,127,255,255,511,2047])
 (.seq (.reg [mv 29 5,⟨(some 30),.bin .eql (.prim .int) true (.tmp 29) (.const (.int .u64 0)),none⟩,mv 31 30,⟨(some 32),.mov (.tmp 6),(some (31,true))⟩,⟨(some 33),.bin .leq (.node []) false (.tmp 32) (.const (.int .u64 9223372036854775807)),(some (31,true))⟩,⟨(some 34),.pick (.tmp 31) (.tmp 33) (.const (.bool false)),none⟩])
 (.cond (.tmp 34)
 (.seq (.seq (.reg [⟨(some 35),.faddr 0 (.tmp 2),none⟩,ld 36 35,bc 37 .lss 36 0,⟨(some 38),.faddr 0 (.tmp 3),none⟩,ld 39 38,bc 40 .lss 39 0,⟨(some 41),.bin .neq (.prim .bool) false (.tmp 37) (.tmp 40),none⟩])
 (.cond (.tmp 41)
 (.seq (.reg [mv 42 6,⟨(some 43),.convInt .i64 (.tmp 42),none⟩,⟨(some 44),.un .neg (.tmp 43),none⟩,⟨(some 45),.build [(.int .i64 0),.nilslice] [(0,1,(.tmp 44))],none⟩,⟨none,.store 2 (.tmp 4) (.tmp 45),none⟩])
 (.ret))
 (.skip)))
 (.seq (.reg [mv 46 6,⟨(some 47),.convInt .i64 (.tmp 46),none⟩,⟨(some 48),.build [(.int .i64 0),.nilslice] [(0,1,(.tmp 47))],none⟩,⟨none,.store 2 (.tmp 4) (.tmp 48),none⟩])
 (.ret)))
 (.skip))))
 (.skip)))
 A.ta181_0)
theorem A.c181:cFunc Tryz.prog 181=some ⟨66,[.cell 4 (some 2)],A.b181⟩:=by kernel_rfl
def A.k181{K Q f c args st}:=@A.kk 181 _ _ _ A.c181 rfl K Q f c args st
def A.b153:MCode:=.seq (.reg [⟨(some 2),.box 224 (.tmp 0),none⟩,⟨(some 3),.box 224 (.tmp 1),none⟩,mc 4 0])
 (.seq (.seq (.reg [⟨(some 5),.faddr 1 (.tmp 2),none⟩,ld 6 5,⟨(some 7),.bin .eql (.prim .slice) true (.tmp 6) (.const .nilslice),none⟩,mv 8 7,⟨(some 9),.faddr 1 (.tmp 3),(some (8,true))⟩,⟨(some 10),.load none (.tmp 9),(some (8,true))⟩,⟨(some 11),.bin .eql (.prim .slice) true (.tmp 10) (.const .nilslice),(some (8,true))⟩,⟨(some 12),.pick (.tmp 8) (.tmp 11) (.const (.bool false)),none⟩])
 (.cond (.tmp 12)
 (.seq (.block 0 (.seq (.reg [⟨(some 14),.faddr 0 (.tmp 2),none⟩,ld 15 14,⟨(some 16),.faddr 0 (.tmp 3),none⟩,ld 17 16,bi 18 .lss 15 17,mv 13 18])
 (.cond (.tmp 13)
 (.seq (.reg [⟨(some 4),.mov (.const (.int .i64 (-1))),none⟩])
 (.ret))
 (.seq (.reg [⟨(some 20),.faddr 0 (.tmp 2),none⟩,ld 21 20,⟨(some 22),.faddr 0 (.tmp 3),none⟩,ld 23 22,bi 24 .gtr 21 23,mv 19 24])
 (.cond (.tmp 19)
 (.seq (.reg [mc 4 1])
 (.ret))
 (.skip))))))
 (.seq (.reg [mc 4 0])
 (.ret)))
 (.skip)))
 (.seq (.reg [⟨(some 25),.load (some 2) (.tmp 2),none⟩,⟨(some 26),.load (some 2) (.tmp 3),none⟩,⟨(some 27),.call (.const (.func 194 [] [])) [(.tmp 25),(.tmp 26)],none⟩,⟨(some 28),.call (.const (.func 187 [] [])) [(.tmp 27)],none⟩,mv 4 28])
 (.ret)))
theorem A.c153:cFunc Tryz.prog 153=some ⟨29,[.tmp 4],A.b153⟩:=by kernel_rfl
def A.k153{K Q f c args st}:=@A.kk 153 _ _ _ A.c153 rfl K Q f c args st
structure ResP (h:T O) (N q:Nat) (z:Int) (st:St):Prop where
 w:oldIds N st.w=[]
 keep:Keeps h N st.h st.n
 ex:∃n u,st.h.get q=some (.cells [.int .i64 n,u] 224 true)∧In st.h st.n (.agg [.int .i64 n,u]) z
theorem mul_sign(a b:Int):(a*b<0)↔((a<0)≠(b<0))∧a≠0∧b≠0:=by
 rcases Int.lt_trichotomy a 0 with ha|ha|ha<;>rcases Int.lt_trichotomy b 0 with hb|hb|hb
 ·have:=Int.mul_pos_of_neg_of_neg ha hb
  simp[ha,hb];omega
 ·subst hb;simp
 ·have:=Int.mul_neg_of_neg_of_pos ha hb
  have h1:¬b<0:=by omega
  simp[ha,h1,this];omega
 ·subst ha;simp
 ·subst ha;simp
 ·subst ha;simp
 ·have:=Int.mul_neg_of_pos_of_neg ha hb
  have h1:¬a<0:=by omega
  simp[hb,h1,this];omega
 ·subst hb;simp
 ·have:=Int.mul_pos ha hb
  have h1:¬a<0:=by omega
  have h2:¬b<0:=by omega
  simp[h1,h2];omega
theorem wds_len_bound{n k:Nat}(h:n<B^k):(wds n).length≤k:=by
 apply Nat.le_of_not_lt
 intro hc
 obtain⟨j,hj⟩:∃j,(wds n).length=j+1:=⟨(wds n).length-1,by omega⟩
 have:=(wds_bounds hj).1
 have:=Nat.pow_le_pow_right (show 0<B by decide) (show k≤j by omega)
 omega
theorem wds_lt(n:Nat):n<B^(wds n).length:=by
 have:=val_lt (wds_dg n)
 rwa [wds_val]at this
theorem wl_add(a b:Int):wl (a+b)≤max (wl a) (wl b)+1:=by
 unfold wl
 apply wds_len_bound
 have h1:=wds_lt a.natAbs
 have h2:=wds_lt b.natAbs
 have h3:=Nat.pow_le_pow_right (show 0<B by decide) (Nat.le_max_left (wds a.natAbs).length (wds b.natAbs).length)
 have h4:=Nat.pow_le_pow_right (show 0<B by decide) (Nat.le_max_right (wds a.natAbs).length (wds b.natAbs).length)
 have h5:(a+b).natAbs≤a.natAbs+b.natAbs:=Int.natAbs_add_le a b
 rw[Nat.pow_succ]
 generalize B^max (wds a.natAbs).length (wds b.natAbs).length=p at*
 have:p*2≤p*B:=Nat.mul_le_mul_left p (by decide)
 omega
theorem wl_neg(a:Int):wl (-a)=wl a:=by unfold wl;rw[Int.natAbs_neg]
theorem wl_mul(a b:Int):wl (a*b)≤wl a+wl b:=by
 unfold wl
 apply wds_len_bound
 rw[Int.natAbs_mul,Nat.pow_add]
 have h1:=wds_lt a.natAbs
 have h2:=wds_lt b.natAbs
 exact Nat.mul_lt_mul'' h1 h2
theorem wl_le{a b:Int}(h:a.natAbs≤b.natAbs):wl a≤wl b:=wds_len_le h
set_option maxHeartbeats 1000000 in
theorem add_tail{h H:T O}{N:Nat}{n1 n2 a b:Int}{u1 u2:V}{r0:T V}(hx:In H (N+3) (.agg [.int .i64 n1,u1]) a)(hy:In H (N+3) (.agg [.int .i64 n2,u2]) b)(la:wl a<1000000000)(lb:wl b<1000000000)(hK:Keeps h N H (N+3))
  (gx:H.get N=some (.cells [.int .i64 n1,u1] 224 true)) (gy:H.get (N+1)=some (.cells [.int .i64 n2,u2] 224 true)) (gz:H.get (N+2)=some (.cells [.int .i64 0,.nilslice] 224 true)) (r2:r0.get 2=some (.ptr N 0)) (r3:r0.get 3=some (.ptr (N+1) 0)) (r4:r0.get 4=some (.ptr (N+2) 0)):
  Code A.C none A.ta182_0 ⟨r0,67,[]⟩ ⟨H,N+3,[]⟩ (fun e fr st=>e=.ret∧∃r,fr=⟨r,67,[]⟩∧r.get 4=some (.ptr (N+2) 0)∧ResP h N (N+2) (a+b) st):=by
 rw[code_run]
 simp(disch:=first|(simp;done)|omega|(simp only[dg_length,dgi_length,List.length_cons];omega)|rfl) [-getElem?_pos,A.ta182_0,r2,gx,partV,slc]
 refine run_fn (parts_fn hx) ?_
 rintro _ h1 N1 k1 ⟨ua,rfl,hua⟩
 have kle1:=k1.le
 have gy1:=(k1.get (N+1) (by omega)).trans gy
 have gz1:=(k1.get (N+2) (by omega)).trans gz
 simp(disch:=first|(simp;done)|omega|(simp only[dg_length,dgi_length,List.length_cons];omega)|rfl) [-getElem?_pos,r3,gy1,partV,slc]
 refine run_fn (parts_fn (hy.keep k1)) ?_
 rintro _ h2 N2 k2 ⟨ub,rfl,hub⟩
 have kle2:=k2.le
 have gz2:=(k2.get (N+2) (by omega)).trans gz1
 have hua2:=hua.keep k2
 have la':(wds a.natAbs).length<1000000000:=la
 have lb':(wds b.natAbs).length<1000000000:=lb
 have kA:=(hK.trans k1).trans k2
 have wl3:=wl_add a b
 have fin:∀(z:Int) (v:V) (h4:T O) (n4:Nat),Keeps h2 N2 h4 n4→In h4 n4 v z→z=a+b→∃(n5:Int) (u5:V),v=.agg [.int .i64 n5,u5]∧V.one u5=true∧h4.get (N+2)=some (.cells [.int .i64 0,.nilslice] 224 true)∧∀W,oldIds N W=[]→ResP h N (N+2) (a+b) ⟨h4.set (N+2) (.cells [.int .i64 n5,u5] 224 true),n4,W⟩:=by
  intro z v h4 n4 k4 hv hz
  obtain⟨n5,u5,rfl,ho5⟩:=hv.cells
  have gz4:=(k4.get (N+2) (by omega)).trans gz2
  have kle4:=k4.le
  subst hz
  exact⟨n5,u5,rfl,ho5,gz4,fun W hW=>⟨hW,(kA.trans k4).set (by omega),n5,u5,by simp,hv.setNU gz4 (by simp) rfl⟩⟩
 by_cases hs:(a<0)=(b<0)
 ·have hs':(decide (a<0)==decide (b<0))=true:=by simp[hs]
  simp(disch:=first|(simp;done)|omega|(simp only[dg_length,dgi_length,List.length_cons];omega)|rfl) [-getElem?_pos,eqPrim,hs']
  refine run_fn (addWords_fn hua2 hub (by omega) (by omega)) ?_
  rintro v h3 N3 k3 hv
  have hsum:a.natAbs+b.natAbs=(a+b).natAbs:=by
   by_cases h:a<0
   ·have:b<0:=by rw[hs]at h;exact h
    omega
   ·have:¬b<0:=by rw[hs]at h;exact h
    omega
  rw[hsum]at hv
  simp(disch:=first|(simp;done)|omega|(simp only[dg_length,dgi_length,List.length_cons];omega)|rfl) [-getElem?_pos,]
  refine run_fn (made_fn hv (by unfold wl at wl3 la lb;omega)) ?_
  rintro v h4 N4 k4 hv
  obtain⟨n5,u5,rfl,ho5,gz4,hf⟩:=fin _ _ _ _ (k3.trans k4) hv (by
   by_cases h:a<0
   ·have:b<0:=by rw[hs]at h;exact h
    simp[h];omega
   ·have:¬b<0:=by rw[hs]at h;exact h
    simp[h];omega)
  unfold V.one at ho5
  simp(disch:=first|(simp;done)|omega|(simp only[dg_length,dgi_length,List.length_cons];omega)|rfl) [-getElem?_pos,gz4,ho5,splice,storeK2,r4]
  exact hf _ (by simp[oldIds])
 ·have hs':(decide (a<0)==decide (b<0))=false:=by
   by_cases h:a<0<;>by_cases h':b<0<;>simp_all
  simp(disch:=first|(simp;done)|omega|(simp only[dg_length,dgi_length,List.length_cons];omega)|rfl) [-getElem?_pos,eqPrim,hs']
  refine run_fn (compareWords_fn hua2 hub (by omega) (by omega)) ?_
  rintro _ h3 N3 k3 rfl
  have hua3:=hua2.keep k3
  have hub3:=hub.keep k3
  by_cases hc:b.natAbs≤a.natAbs
  ·have c1:(0:Int)≤cmp3 a.natAbs b.natAbs:=by unfold cmp3;split<;>(try split)<;>omega
   simp(disch:=first|(simp;done)|omega|(simp only[dg_length,dgi_length,List.length_cons];omega)|rfl) [-getElem?_pos,c1]
   refine run_fn (subWords_fn hua3 hub3 hc (by omega) (by omega)) ?_
   rintro v h5 N5 k5 hv
   simp(disch:=first|(simp;done)|omega|(simp only[dg_length,dgi_length,List.length_cons];omega)|rfl) [-getElem?_pos,]
   refine run_fn (made_fn hv (by have:=wds_len_le (show a.natAbs-b.natAbs≤a.natAbs by omega);omega)) ?_
   rintro v h4 N4 k4 hv
   obtain⟨n5,u5,rfl,ho5,gz4,hf⟩:=fin _ _ _ _ ((k3.trans k5).trans k4) hv (by
    by_cases h:a<0
    ·have:¬b<0:=by intro h2;apply hs;simp[h,h2]
     simp[h];omega
    ·have:b<0:=by apply Decidable.byContradiction;intro h2;apply hs;simp[h,h2]
     simp[h];omega)
   unfold V.one at ho5
   simp(disch:=first|(simp;done)|omega|(simp only[dg_length,dgi_length,List.length_cons];omega)|rfl) [-getElem?_pos,gz4,ho5,splice,storeK2,r4]
   exact hf _ (by simp[oldIds])
  ·have c1:¬(0:Int)≤cmp3 a.natAbs b.natAbs:=by unfold cmp3;split<;>(try split)<;>omega
   simp(disch:=first|(simp;done)|omega|(simp only[dg_length,dgi_length,List.length_cons];omega)|rfl) [-getElem?_pos,c1]
   refine run_fn (subWords_fn hub3 hua3 (by omega) (by omega) (by omega)) ?_
   rintro v h5 N5 k5 hv
   simp(disch:=first|(simp;done)|omega|(simp only[dg_length,dgi_length,List.length_cons];omega)|rfl) [-getElem?_pos,]
   refine run_fn (made_fn hv (by have:=wds_len_le (show b.natAbs-a.natAbs≤b.natAbs by omega);omega)) ?_
   rintro v h4 N4 k4 hv
   obtain⟨n5,u5,rfl,ho5,gz4,hf⟩:=fin _ _ _ _ ((k3.trans k5).trans k4) hv (by
    by_cases h:b<0
    ·have:¬a<0:=by intro h2;apply hs;simp[h,h2]
     simp[h];omega
    ·have:a<0:=by apply Decidable.byContradiction;intro h2;apply hs;simp[h,h2]
     simp[h];omega)
   unfold V.one at ho5
   simp(disch:=first|(simp;done)|omega|(simp only[dg_length,dgi_length,List.length_cons];omega)|rfl) [-getElem?_pos,gz4,ho5,splice,storeK2,r4]
   exact hf _ (by simp[oldIds])
theorem add_fn{x y:V}{a b:Int}{h:T O}{N:Nat}(hx:In h N x a)(hy:In h N y b)(la:wl a<1000000000)(lb:wl b<1000000000):Fn A.C 182 [x,y] h N (fun v h' n'=>In h' n' v (a+b)):=by
 intro w
 rw[call_run,A.k182 (by simp)]
 obtain⟨n1,u1,rfl,o1⟩:=hx.cells
 obtain⟨n2,u2,rfl,o2⟩:=hy.cells
 have kk:=kset (kset (kset (Keeps.refl (h:=h) (n:=N)) (.cells [.int .i64 n1,u1] 224 true)) (.cells [.int .i64 n2,u2] 224 true)) (.cells [.int .i64 0,.nilslice] 224 true)
 unfold V.one at o1 o2
 have go:∀r:T V,r.get 2=some (.ptr N 0)→r.get 3=some (.ptr (N+1) 0)→r.get 4=some (.ptr (N+2) 0)→Run A.C [.fin [.cell 4 (some 2)] ⟨h,N,w⟩] (exR (A.C.code none A.ta182_0 ⟨r,67,[]⟩ ⟨((h.set N (.cells [.int .i64 n1,u1] 224 true)).set (N+1) (.cells [.int .i64 n2,u2] 224 true)).set (N+1+1) (.cells [.int .i64 0,.nilslice] 224 true),N+1+1+1,[]⟩)) (valQ (Ret (fun v h' n'=>In h' n' v (a+b)) h N w)):=by
  intro r r2 r3 r4
  refine run_code (add_tail (hx.keep kk) (hy.keep kk) la lb kk (by simp) (by simp) (by simp) r2 r3 r4) ?_
  rintro e fr ⟨h5,n5,w5⟩ ⟨rfl,r',rfl,r4',hW,hK,n6,u6,g6,hi⟩
  simp only at hW hK g6 hi
  simp(disch:=first|(simp;done)|omega|(simp only[dg_length,dgi_length,List.length_cons];omega)|rfl) [-getElem?_pos,r4',g6,partV,slc,Ret,hW]
  exact⟨hK,hi⟩
 rcases id hx with⟨e1,s1,s2⟩|⟨i,o,l,c,e1,_⟩
 ·simp only[V.agg.injEq,List.cons.injEq,V.int.injEq,true_and,and_true]at e1
  obtain⟨rfl,rfl⟩:=e1
  rcases id hy with⟨e2,t1,t2⟩|⟨i,o,l,c,e2,_⟩
  ·simp only[V.agg.injEq,List.cons.injEq,V.int.injEq,true_and,and_true]at e2
   obtain⟨rfl,rfl⟩:=e2
   have kr:=fun (o1 o2:O)=>(kk.set (i:=N+1+1) (o:=o1) (by omega))
   by_cases hin: -9223372036854775808≤n1+n2∧n1+n2<9223372036854775808
   ·have w1:wrapF .i64 (n1+n2)=n1+n2:=wrapF_i64 (by omega) (by omega)
    by_cases hp:0<n2
    ·have c1:n1<n1+n2:=by omega
     simp(disch:=first|(simp;done)|omega|(simp only[dg_length,dgi_length,List.length_cons];omega)|rfl) [-getElem?_pos,A.b182,partV,slc,splice,eqPrim,w1,hp,c1,Ret]
     exact⟨kk.set (by omega),In.small (by omega) (by omega)⟩
    ·have c1:¬n1<n1+n2:=by omega
     simp(disch:=first|(simp;done)|omega|(simp only[dg_length,dgi_length,List.length_cons];omega)|rfl) [-getElem?_pos,A.b182,partV,slc,splice,eqPrim,w1,hp,c1,Ret]
     exact⟨kk.set (by omega),In.small (by omega) (by omega)⟩
   ·obtain⟨y,hy1⟩:∃y,wrapF .i64 (n1+n2)=y:=⟨_,rfl⟩
    have hy2:y=n1+n2-18446744073709551616∧0<n2∨y=n1+n2+18446744073709551616∧¬0<n2:=by
     rw[←hy1,wrapF_eq]
     simp only[IntKind.wrap,IntKind.bits,IntKind.signed]
     simp
     omega
    by_cases hp:0<n2
    ·have c1:¬n1<y:=by omega
     simp(disch:=first|(simp;done)|omega|(simp only[dg_length,dgi_length,List.length_cons];omega)|rfl) [-getElem?_pos,A.b182,partV,slc,splice,eqPrim,hy1,hp,c1]
     exact go _ (by simp) (by simp) (by simp)
    ·have c1:n1<y:=by omega
     simp(disch:=first|(simp;done)|omega|(simp only[dg_length,dgi_length,List.length_cons];omega)|rfl) [-getElem?_pos,A.b182,partV,slc,splice,eqPrim,hy1,hp,c1]
     exact go _ (by simp) (by simp) (by simp)
  ·simp only[V.agg.injEq,List.cons.injEq,V.int.injEq,true_and,and_true]at e2
   obtain⟨rfl,rfl⟩:=e2
   simp(disch:=first|(simp;done)|omega|(simp only[dg_length,dgi_length,List.length_cons];omega)|rfl) [-getElem?_pos,A.b182,partV,slc,splice,eqPrim]
   exact go _ (by simp) (by simp) (by simp)
 ·simp only[V.agg.injEq,List.cons.injEq,V.int.injEq,true_and,and_true]at e1
  obtain⟨rfl,rfl⟩:=e1
  simp(disch:=first|(simp;done)|omega|(simp only[dg_length,dgi_length,List.length_cons];omega)|rfl) [-getElem?_pos,A.b182,partV,slc,splice,eqPrim,o2]
  exact go _ (by simp) (by simp) (by simp)
theorem sub_fn{x y:V}{a b:Int}{h:T O}{N:Nat}(hx:In h N x a)(hy:In h N y b)(la:wl a<1000000000)(lb:wl b<1000000000):Fn A.C 194 [x,y] h N (fun v h' n'=>In h' n' v (a-b)):=by
 intro w
 rw[call_run,A.k194 (by simp)]
 obtain⟨n1,u1,rfl,o1⟩:=hx.cells
 obtain⟨n2,u2,rfl,o2⟩:=hy.cells
 have kk:=kset (kset (kset (Keeps.refl (h:=h) (n:=N)) (.cells [.int .i64 n1,u1] 224 true)) (.cells [.int .i64 n2,u2] 224 true)) (.cells [.int .i64 0,.nilslice] 224 true)
 have hng:=neg_fn (hy.keep kk) lb
 have hx':=hx.keep kk
 unfold V.one at o1 o2
 simp(disch:=first|(simp;done)|omega|(simp only[dg_length,dgi_length,List.length_cons];omega)|rfl) [-getElem?_pos,A.b194,partV,slc,splice,o1,o2]
 refine run_fn hng ?_
 rintro v h1 n1' k1 hv
 simp(disch:=first|(simp;done)|omega|(simp only[dg_length,dgi_length,List.length_cons];omega)|rfl) [-getElem?_pos,]
 refine run_fn (add_fn (hx'.keep k1) hv la (by rw[wl_neg];exact lb)) ?_
 rintro v2 h2 n2' k2 hv2
 obtain⟨n5,u5,rfl,ho5⟩:=hv2.cells
 unfold V.one at ho5
 have k12:=k1.trans k2
 have kle:=k12.le
 have g2:=k12.get (N+1+1) (by omega)
 simp at g2
 have hlt:N+1+1<n2':=by omega
 have hlt2:N+1+1<n1':=by have:=k1.le;omega
 simp(disch:=first|(simp;done)|omega|(simp only[dg_length,dgi_length,List.length_cons];omega)|rfl) [-getElem?_pos,g2,ho5,splice,storeK2,hlt,hlt2,pairsOk.chk,Ret]
 have he:a+ -b=a-b:=by omega
 rw[he]at hv2
 exact⟨(kk.trans k12).set (by omega),hv2.setNU g2 (by simp) rfl⟩
set_option maxHeartbeats 1000000 in
theorem mul_tail{h H:T O}{N:Nat}{n1 n2 a b:Int}{u1 u2:V}{r0:T V}(hx:In H (N+3) (.agg [.int .i64 n1,u1]) a)(hy:In H (N+3) (.agg [.int .i64 n2,u2]) b)(la:wl a<1000000000)(lb:wl b<1000000000)(hK:Keeps h N H (N+3))
  (gx:H.get N=some (.cells [.int .i64 n1,u1] 224 true)) (gy:H.get (N+1)=some (.cells [.int .i64 n2,u2] 224 true)) (gz:H.get (N+2)=some (.cells [.int .i64 0,.nilslice] 224 true)) (r2:r0.get 2=some (.ptr N 0)) (r3:r0.get 3=some (.ptr (N+1) 0)) (r4:r0.get 4=some (.ptr (N+2) 0)):
  Code A.C none A.ta181_0 ⟨r0,66,[]⟩ ⟨H,N+3,[]⟩ (fun e fr st=>e=.ret∧∃r,fr=⟨r,66,[]⟩∧r.get 4=some (.ptr (N+2) 0)∧ResP h N (N+2) (a*b) st):=by
 rw[code_run]
 simp(disch:=first|(simp;done)|omega|(simp only[dg_length,dgi_length,List.length_cons];omega)|rfl) [-getElem?_pos,A.ta181_0,r2,gx,partV,slc]
 refine run_fn (parts_fn hx) ?_
 rintro _ h1 N1 k1 ⟨ua,rfl,hua⟩
 have kle1:=k1.le
 have gy1:=(k1.get (N+1) (by omega)).trans gy
 have gz1:=(k1.get (N+2) (by omega)).trans gz
 simp(disch:=first|(simp;done)|omega|(simp only[dg_length,dgi_length,List.length_cons];omega)|rfl) [-getElem?_pos,r3,gy1,partV,slc]
 refine run_fn (parts_fn (hy.keep k1)) ?_
 rintro _ h2 N2 k2 ⟨ub,rfl,hub⟩
 have kle2:=k2.le
 have gz2:=(k2.get (N+2) (by omega)).trans gz1
 have hua2:=hua.keep k2
 have la':(wds a.natAbs).length<1000000000:=la
 have lb':(wds b.natAbs).length<1000000000:=lb
 have kA:=(hK.trans k1).trans k2
 have wl3:=wl_mul a b
 simp(disch:=first|(simp;done)|omega|(simp only[dg_length,dgi_length,List.length_cons];omega)|rfl) [-getElem?_pos,eqPrim]
 refine run_fn (mulWords_fn hua2 hub (by omega) (by omega)) ?_
 rintro v h3 N3 k3 hv
 have hmul:a.natAbs*b.natAbs=(a*b).natAbs:=(Int.natAbs_mul a b).symm
 rw[hmul]at hv
 simp(disch:=first|(simp;done)|omega|(simp only[dg_length,dgi_length,List.length_cons];omega)|rfl) [-getElem?_pos,]
 refine run_fn (made_fn hv (by unfold wl at wl3 la lb;omega)) ?_
 rintro v h4 N4 k4 hv
 obtain⟨n5,u5,rfl,ho5⟩:=hv.cells
 have gz4:=((k3.trans k4).get (N+2) (by omega)).trans gz2
 have kle4:=(k3.trans k4).le
 unfold V.one at ho5
 have hs:=mul_sign a b
 have he:(if (!decide (a<0)==decide (b<0))=true then -((a*b).natAbs:Int) else (a*b).natAbs)=a*b:=by
  have h0:a=0∨b=0→a*b=0:=by rintro(rfl|rfl)<;>simp
  by_cases h1:a<0<;>by_cases h2:b<0<;>simp[h1,h2]at hs ⊢<;>omega
 rw[he]at hv
 simp(disch:=first|(simp;done)|omega|(simp only[dg_length,dgi_length,List.length_cons];omega)|rfl) [-getElem?_pos,gz4,ho5,splice,storeK2,r4]
 exact⟨by simp[oldIds],((kA.trans k3).trans k4).set (by omega),n5,u5,by simp,hv.setNU gz4 (by simp) rfl⟩
theorem mul_fn{x y:V}{a b:Int}{h:T O}{N:Nat}(hx:In h N x a)(hy:In h N y b)(la:wl a<1000000000)(lb:wl b<1000000000):Fn A.C 181 [x,y] h N (fun v h' n'=>In h' n' v (a*b)):=by
 intro w
 rw[call_run,A.k181 (by simp)]
 obtain⟨n1,u1,rfl,o1⟩:=hx.cells
 obtain⟨n2,u2,rfl,o2⟩:=hy.cells
 have kk:=kset (kset (kset (Keeps.refl (h:=h) (n:=N)) (.cells [.int .i64 n1,u1] 224 true)) (.cells [.int .i64 n2,u2] 224 true)) (.cells [.int .i64 0,.nilslice] 224 true)
 unfold V.one at o1 o2
 have go:∀r:T V,r.get 2=some (.ptr N 0)→r.get 3=some (.ptr (N+1) 0)→r.get 4=some (.ptr (N+2) 0)→Run A.C [.fin [.cell 4 (some 2)] ⟨h,N,w⟩] (exR (A.C.code none A.ta181_0 ⟨r,66,[]⟩ ⟨((h.set N (.cells [.int .i64 n1,u1] 224 true)).set (N+1) (.cells [.int .i64 n2,u2] 224 true)).set (N+1+1) (.cells [.int .i64 0,.nilslice] 224 true),N+1+1+1,[]⟩)) (valQ (Ret (fun v h' n'=>In h' n' v (a*b)) h N w)):=by
  intro r r2 r3 r4
  refine run_code (mul_tail (hx.keep kk) (hy.keep kk) la lb kk (by simp) (by simp) (by simp) r2 r3 r4) ?_
  rintro e fr ⟨h5,n5,w5⟩ ⟨rfl,r',rfl,r4',hW,hK,n6,u6,g6,hi⟩
  simp only at hW hK g6 hi
  simp(disch:=first|(simp;done)|omega|(simp only[dg_length,dgi_length,List.length_cons];omega)|rfl) [-getElem?_pos,r4',g6,partV,slc,Ret,hW]
  exact⟨hK,hi⟩
 rcases id hx with⟨e1,s1,s2⟩|⟨i,o,l,c,e1,_⟩
 ·simp only[V.agg.injEq,List.cons.injEq,V.int.injEq,true_and,and_true]at e1
  obtain⟨rfl,rfl⟩:=e1
  rcases id hy with⟨e2,t1,t2⟩|⟨i,o,l,c,e2,_⟩
  ·simp only[V.agg.injEq,List.cons.injEq,V.int.injEq,true_and,and_true]at e2
   obtain⟨rfl,rfl⟩:=e2
   have z1:=fun st=>size_eq s1 s2 (st:=st)
   have z2:=fun st=>size_eq t1 t2 (st:=st)
   have hm:n1.natAbs*n2.natAbs=(n1*n2).natAbs:=(Int.natAbs_mul _ _).symm
   have hlo:lo64 (n1.natAbs*n2.natAbs)+18446744073709551616*hi64 (n1.natAbs*n2.natAbs)=(n1*n2).natAbs:=by
    rw[←hm]
    have:=Nat.div_add_mod (n1.natAbs*n2.natAbs) 18446744073709551616
    unfold lo64 hi64;omega
   have hsgn:=mul_sign n1 n2
   obtain⟨hi,hhi⟩:∃x,hi64 (n1.natAbs*n2.natAbs)=x:=⟨_,rfl⟩
   obtain⟨lo,hlo'⟩:∃x,lo64 (n1.natAbs*n2.natAbs)=x:=⟨_,rfl⟩
   rw[hhi,hlo']at hlo
   have hz:n1=0∨n2=0→n1*n2=0:=by rintro(rfl|rfl)<;>simp
   simp(disch:=first|(simp;done)|omega|(simp only[dg_length,dgi_length,List.length_cons];omega)|rfl) [-getElem?_pos,A.b181,partV,slc,splice,eqPrim,z1,z2]
   refine run_fn (mul64_fn (x:=n1.natAbs) (y:=n2.natAbs) (by omega) (by omega)) ?_
   rintro _ h' N' k ⟨rfl,rfl,rfl⟩
   rw[hhi,hlo']
   have d1:¬N=N+1:=by omega
   by_cases h0:hi=0
   ·by_cases h1:lo≤9223372036854775807
    ·have h1':(lo:Int)≤9223372036854775807:=by omega
     have w1:wrapF .i64 (lo:Int)=lo:=wrapF_i64 (by omega) (by omega)
     have w2:IntKind.wrap .i64 (-(lo:Int))= -(lo:Int):=wrap_i64 (by omega) (by omega)
     by_cases hs:(n1<0)=(n2<0)
     ·have hs':(decide (n1<0)==decide (n2<0))=true:=by simp[hs]
      have hp:¬n1*n2<0:=by rw[hsgn];rintro⟨p,_⟩;exact p hs
      have he:(lo:Int)=n1*n2:=by omega
      simp(disch:=first|(simp;done)|omega|(simp only[dg_length,dgi_length,List.length_cons];omega)|rfl) [-getElem?_pos,partV,slc,splice,eqPrim,h0,h1',hs',w1,Ret,pairsOk.chk]
      exact⟨kk.set (by omega),by rw[←he];exact In.small (by omega) (by omega)⟩
     ·have hs':(decide (n1<0)==decide (n2<0))=false:=by
       by_cases h:n1<0<;>by_cases h':n2<0<;>simp_all
      have he: -(lo:Int)=n1*n2:=by
       by_cases hq:n1=0∨n2=0
       ·have:=hz hq;omega
       ·have:n1*n2<0:=hsgn.2 ⟨hs,fun h=>hq (.inl h),fun h=>hq (.inr h)⟩
        omega
      simp(disch:=first|(simp;done)|omega|(simp only[dg_length,dgi_length,List.length_cons];omega)|rfl) [-getElem?_pos,partV,slc,splice,eqPrim,h0,h1',hs',w1,w2,Ret,pairsOk.chk]
      exact⟨kk.set (by omega),by rw[←he];exact In.small (by omega) (by omega)⟩
    ·have h1':¬(lo:Int)≤9223372036854775807:=by omega
     simp(disch:=first|(simp;done)|omega|(simp only[dg_length,dgi_length,List.length_cons];omega)|rfl) [-getElem?_pos,partV,slc,splice,eqPrim,h0,h1',pairsOk.chk]
     exact go _ (by simp) (by simp) (by simp)
   ·simp(disch:=first|(simp;done)|omega|(simp only[dg_length,dgi_length,List.length_cons];omega)|rfl) [-getElem?_pos,partV,slc,splice,eqPrim,h0,pairsOk.chk]
    exact go _ (by simp) (by simp) (by simp)
  ·simp only[V.agg.injEq,List.cons.injEq,V.int.injEq,true_and,and_true]at e2
   obtain⟨rfl,rfl⟩:=e2
   simp(disch:=first|(simp;done)|omega|(simp only[dg_length,dgi_length,List.length_cons];omega)|rfl) [-getElem?_pos,A.b181,partV,slc,splice,eqPrim]
   exact go _ (by simp) (by simp) (by simp)
 ·simp only[V.agg.injEq,List.cons.injEq,V.int.injEq,true_and,and_true]at e1
  obtain⟨rfl,rfl⟩:=e1
  simp(disch:=first|(simp;done)|omega|(simp only[dg_length,dgi_length,List.length_cons];omega)|rfl) [-getElem?_pos,A.b181,partV,slc,splice,eqPrim,o2]
  exact go _ (by simp) (by simp) (by simp)
theorem cmp_fn{x y:V}{a b:Int}{h:T O}{N:Nat}(hx:In h N x a)(hy:In h N y b)(la:wl a<100000000)(lb:wl b<100000000):Fn A.C 153 [x,y] h N (fun v _ _=>v=.int .i64 (sg3 (a-b))):=by
 intro w
 rw[call_run,A.k153 (by simp)]
 obtain⟨n1,u1,rfl,o1⟩:=hx.cells
 obtain⟨n2,u2,rfl,o2⟩:=hy.cells
 have kk:=kset (kset (Keeps.refl (h:=h) (n:=N)) (.cells [.int .i64 n1,u1] 224 true)) (.cells [.int .i64 n2,u2] 224 true)
 have hsb:=sub_fn (hx.keep kk) (hy.keep kk) (by omega) (by omega)
 have wl3:=wl_add a (-b)
 rw[wl_neg]at wl3
 unfold V.one at o1 o2
 rcases id hx with⟨e1,s1,s2⟩|⟨i,o,l,c,e1,_⟩
 ·simp only[V.agg.injEq,List.cons.injEq,V.int.injEq,true_and,and_true]at e1
  obtain⟨rfl,rfl⟩:=e1
  rcases id hy with⟨e2,t1,t2⟩|⟨i,o,l,c,e2,_⟩
  ·simp only[V.agg.injEq,List.cons.injEq,V.int.injEq,true_and,and_true]at e2
   obtain⟨rfl,rfl⟩:=e2
   by_cases h1:n1<n2
   ·simp(disch:=first|(simp;done)|omega|(simp only[dg_length,dgi_length,List.length_cons];omega)|rfl) [-getElem?_pos,A.b153,partV,slc,splice,Ret,eqPrim,h1]
    exact⟨kk,by unfold sg3;rw[if_pos (by omega)]⟩
   ·by_cases h2:n2<n1
    ·simp(disch:=first|(simp;done)|omega|(simp only[dg_length,dgi_length,List.length_cons];omega)|rfl) [-getElem?_pos,A.b153,partV,slc,splice,Ret,eqPrim,h1,h2]
     exact⟨kk,by unfold sg3;rw[if_neg (by omega),if_neg (by omega)]⟩
    ·simp(disch:=first|(simp;done)|omega|(simp only[dg_length,dgi_length,List.length_cons];omega)|rfl) [-getElem?_pos,A.b153,partV,slc,splice,Ret,eqPrim,h1,h2]
     exact⟨kk,by unfold sg3;rw[if_neg (by omega),if_pos (by omega)]⟩
  ·simp only[V.agg.injEq,List.cons.injEq,V.int.injEq,true_and,and_true]at e2
   obtain⟨rfl,rfl⟩:=e2
   simp(disch:=first|(simp;done)|omega|(simp only[dg_length,dgi_length,List.length_cons];omega)|rfl) [-getElem?_pos,A.b153,partV,slc,splice,eqPrim]
   refine run_fn hsb ?_
   rintro v h1 n1' k1 hv
   simp(disch:=first|(simp;done)|omega|(simp only[dg_length,dgi_length,List.length_cons];omega)|rfl) [-getElem?_pos,]
   refine run_fn (sign_fn hv) ?_
   rintro _ h2 n2' k2 rfl
   simp(disch:=first|(simp;done)|omega|(simp only[dg_length,dgi_length,List.length_cons];omega)|rfl) [-getElem?_pos,Ret]
   exact(kk.trans k1).trans k2
 ·simp only[V.agg.injEq,List.cons.injEq,V.int.injEq,true_and,and_true]at e1
  obtain⟨rfl,rfl⟩:=e1
  simp(disch:=first|(simp;done)|omega|(simp only[dg_length,dgi_length,List.length_cons];omega)|rfl) [-getElem?_pos,A.b153,partV,slc,splice,eqPrim,o2]
  refine run_fn hsb ?_
  rintro v h1 n1' k1 hv
  simp(disch:=first|(simp;done)|omega|(simp only[dg_length,dgi_length,List.length_cons];omega)|rfl) [-getElem?_pos,]
  refine run_fn (sign_fn hv) ?_
  rintro _ h2 n2' k2 rfl
  simp(disch:=first|(simp;done)|omega|(simp only[dg_length,dgi_length,List.length_cons];omega)|rfl) [-getElem?_pos,Ret]
  exact(kk.trans k1).trans k2
theorem abs_fn{x:V}{a:Int}{h:T O}{N:Nat}(hx:In h N x a)(la:wl a<1000000000):Fn A.C 186 [x] h N (fun v h' n'=>In h' n' v (a.natAbs:Int)):=by
 intro w
 rw[call_run,A.k186 (by simp)]
 obtain⟨n1,u1,rfl,o1⟩:=hx.cells
 have kk:=kset (kset (Keeps.refl (h:=h) (n:=N)) (.cells [.int .i64 n1,u1] 224 true)) (.cells [.int .i64 0,.nilslice] 224 true)
 have hng:=neg_fn (hx.keep kk) la
 have hsn:(n1<0)=(a<0):=by
  rcases hx with⟨e1,s1,s2⟩|⟨i,o,l,c,e1,_⟩
  ·simp only[V.agg.injEq,List.cons.injEq,V.int.injEq,true_and,and_true]at e1
   rw[e1.1]
  ·simp only[V.agg.injEq,List.cons.injEq,V.int.injEq,true_and,and_true]at e1
   rw[e1.1];unfold sgn;split<;>simp_all
 unfold V.one at o1
 by_cases h0:a<0
 ·have h1:n1<0:=by rw[hsn];exact h0
  simp(disch:=first|(simp;done)|omega|(simp only[dg_length,dgi_length,List.length_cons];omega)|rfl) [-getElem?_pos,A.b186,partV,slc,splice,o1,h1]
  refine run_fn hng ?_
  rintro v h2 n2 k2 hv
  obtain⟨n5,u5,rfl,ho5⟩:=hv.cells
  unfold V.one at ho5
  have kle:=k2.le
  have g2:=k2.get (N+1) (by omega)
  simp at g2
  have he:(-a)=(a.natAbs:Int):=by omega
  rw[he]at hv
  simp(disch:=first|(simp;done)|omega|(simp only[dg_length,dgi_length,List.length_cons];omega)|rfl) [-getElem?_pos,g2,ho5,splice,storeK2,partV,slc,Ret]
  exact⟨(kk.trans k2).set (by omega),hv.setNU g2 (by simp) rfl⟩
 ·have h1:¬n1<0:=by rw[hsn];exact h0
  have he:a=(a.natAbs:Int):=by omega
  rw[he]at hx
  simp(disch:=first|(simp;done)|omega|(simp only[dg_length,dgi_length,List.length_cons];omega)|rfl) [-getElem?_pos,A.b186,partV,slc,splice,storeK2,o1,h1,Ret]
  exact⟨kk.set (by omega),(hx.keep kk).setNU (i:=N+1) (c0:=[.int .i64 0,.nilslice]) (e0:=224) (w0:=true) (by simp) (by simp) rfl⟩
end Go.Mx
