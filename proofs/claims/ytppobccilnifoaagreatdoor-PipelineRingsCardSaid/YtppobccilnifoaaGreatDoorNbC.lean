/-
  num.Int: DivMod, Quo, Gcd.
-/
import Derived.Test.YtppobccilnifoaaGreatDoorNbB
set_option linter.all false
namespace Go.Mx
open Go Go.Proofs
set_option maxRecDepth 1000000
def A.ta188_0:MCode:=.seq (.regD [⟨(some 82),.load (some 2) (.tmp 14),none⟩,⟨(some 83),.load (some 2) (.tmp 15),none⟩,⟨none,.store 2 (.tmp 4) (.tmp 82),none⟩,⟨none,.store 2 (.tmp 5) (.tmp 83),none⟩] [0,0,1,7])
 (.ret)
def A.ta188_1:MCode:=.seq (.reg [⟨(some 52),.load (some 2) (.tmp 2),none⟩,⟨(some 53),.call (.const (.func 209 [] [])) [(.tmp 52)],none⟩,mv 51 53,xt 54 51 0,xt 55 51 1,mv 8 54,mv 9 55])
 (.seq (.reg [⟨(some 57),.load (some 2) (.tmp 3),none⟩,⟨(some 58),.call (.const (.func 209 [] [])) [(.tmp 57)],none⟩,mv 56 58,xt 59 56 0,xt 60 56 1,mv 10 59,mv 11 60])
 (.seq (.reg [mv 62 9,mv 63 11,⟨(some 64),.call (.const (.func 210 [] [])) [(.tmp 62),(.tmp 63)],none⟩,mv 61 64,xt 65 61 0,xt 66 61 1,mv 12 65,mv 13 66])
 (.seq (.reg [mv 67 8,mv 68 12,⟨(some 69),.call (.const (.func 218 [] [])) [(.tmp 67),(.tmp 68)],none⟩,mv 70 8,mv 71 13,⟨(some 72),.call (.const (.func 218 [] [])) [(.tmp 70),(.tmp 71)],none⟩,⟨(some 14),.alloc [(.int .i64 0),.nilslice] 224,none⟩,⟨(some 15),.alloc [(.int .i64 0),.nilslice] 224,none⟩,⟨none,.store 2 (.tmp 14) (.tmp 69),none⟩,⟨none,.store 2 (.tmp 15) (.tmp 72),none⟩])
 (.seq (.seq (.reg [⟨(some 73),.load (some 2) (.tmp 15),none⟩,⟨(some 74),.call (.const (.func 187 [] [])) [(.tmp 73)],none⟩,bc 75 .lss 74 0])
 (.cond (.tmp 75)
 (.regD [⟨(some 76),.load (some 2) (.tmp 14),none⟩,⟨(some 77),.call (.const (.func 154 [] [])) [(.const (.int .i64 1))],none⟩,⟨(some 78),.call (.const (.func 194 [] [])) [(.tmp 76),(.tmp 77)],none⟩,⟨(some 79),.load (some 2) (.tmp 15),none⟩,⟨(some 80),.load (some 2) (.tmp 3),none⟩,⟨(some 81),.call (.const (.func 182 [] [])) [(.tmp 79),(.tmp 80)],none⟩,⟨none,.store 2 (.tmp 14) (.tmp 78),none⟩,⟨none,.store 2 (.tmp 15) (.tmp 81),none⟩] [0,0,3,0,0,31,63,127])
 (.skip)))
 A.ta188_0))))
def A.b188:MCode:=.seq (.reg [⟨(some 2),.box 224 (.tmp 0),none⟩,⟨(some 3),.box 224 (.tmp 1),none⟩,⟨(some 4),.alloc [(.int .i64 0),.nilslice] 224,none⟩,⟨(some 5),.alloc [(.int .i64 0),.nilslice] 224,none⟩])
 (.seq (.seq (.reg [⟨(some 16),.faddr 1 (.tmp 2),none⟩,ld 17 16,⟨(some 18),.bin .eql (.prim .slice) true (.tmp 17) (.const .nilslice),none⟩,mv 19 18,⟨(some 20),.faddr 1 (.tmp 3),(some (19,true))⟩,⟨(some 21),.load none (.tmp 20),(some (19,true))⟩,⟨(some 22),.bin .eql (.prim .slice) true (.tmp 21) (.const .nilslice),(some (19,true))⟩,⟨(some 23),.pick (.tmp 19) (.tmp 22) (.const (.bool false)),none⟩,mv 24 23,⟨(some 25),.faddr 0 (.tmp 2),(some (24,true))⟩,⟨(some 26),.load none (.tmp 25),(some (24,true))⟩,⟨(some 27),.bin .neq (.prim .int) true (.tmp 26) (.const (.int .i64 (-9223372036854775808))),(some (24,true))⟩,⟨(some 28),.pick (.tmp 24) (.tmp 27) (.const (.bool false)),none⟩])
 (.cond (.tmp 28)
 (.seq (.regD [⟨(some 29),.faddr 0 (.tmp 2),none⟩,ld 30 29,⟨(some 31),.faddr 0 (.tmp 3),none⟩,ld 32 31,bi 33 .quo 30 32,⟨(some 34),.faddr 0 (.tmp 2),none⟩,ld 35 34,⟨(some 36),.faddr 0 (.tmp 3),none⟩,ld 37 36,bi 38 .rem 35 37,mv 6 33,mv 7 38] [0,1,0,4,15,0,32,0,128,480,31,2047])
 (.seq (.seq (.reg [mv 39 7,bc 40 .lss 39 0])
 (.cond (.tmp 40)
 (.regD [mv 41 6,bc 42 .sub 41 1,mv 43 7,⟨(some 44),.faddr 0 (.tmp 3),none⟩,ld 45 44,bi 46 .add 43 45,mv 6 42,mv 7 46] [0,1,0,0,8,28,3,127])
 (.skip)))
 (.seq (.reg [mv 47 6,⟨(some 48),.build [(.int .i64 0),.nilslice] [(0,1,(.tmp 47))],none⟩,mv 49 7,⟨(some 50),.build [(.int .i64 0),.nilslice] [(0,1,(.tmp 49))],none⟩,⟨none,.store 2 (.tmp 4) (.tmp 48),none⟩,⟨none,.store 2 (.tmp 5) (.tmp 50),none⟩])
 (.ret))))
 (.skip)))
 A.ta188_1)
theorem A.c188:cFunc Tryz.prog 188=some ⟨84,[.cell 4 (some 2),.cell 5 (some 2)],A.b188⟩:=by kernel_rfl
def A.k188{K Q f c args st}:=@A.kk 188 _ _ _ A.c188 rfl K Q f c args st
def A.lb151_0:MCode:=.seq (.seq (.reg [⟨(some 11),.load (some 2) (.tmp 3),none⟩,⟨(some 12),.call (.const (.func 187 [] [])) [(.tmp 11)],none⟩,⟨(some 13),.bin .neq (.prim .int) true (.tmp 12) (.const (.int .i64 0)),none⟩])
 (.cond (.tmp 13)
 (.skip)
 (.exit 0)))
 (.block 1 (.seq (.reg [⟨(some 15),.load (some 2) (.tmp 2),none⟩,⟨(some 16),.load (some 2) (.tmp 3),none⟩,⟨(some 17),.call (.const (.func 188 [] [])) [(.tmp 15),(.tmp 16)],none⟩,mv 14 17,xt 18 14 0,xt 19 14 1,⟨(some 5),.alloc [(.int .i64 0),.nilslice] 224,none⟩,⟨(some 6),.alloc [(.int .i64 0),.nilslice] 224,none⟩,⟨none,.store 2 (.tmp 5) (.tmp 18),none⟩,⟨none,.store 2 (.tmp 6) (.tmp 19),none⟩])
 (.regD [⟨(some 20),.load (some 2) (.tmp 3),none⟩,⟨(some 21),.load (some 2) (.tmp 6),none⟩,⟨none,.store 2 (.tmp 2) (.tmp 20),none⟩,⟨none,.store 2 (.tmp 3) (.tmp 21),none⟩] [0,0,1,7])))
def A.b151:MCode:=.seq (.reg [⟨(some 2),.box 224 (.tmp 0),none⟩,⟨(some 3),.box 224 (.tmp 1),none⟩,⟨(some 4),.alloc [(.int .i64 0),.nilslice] 224,none⟩])
 (.seq (.regD [⟨(some 7),.load (some 2) (.tmp 2),none⟩,⟨(some 8),.call (.const (.func 186 [] [])) [(.tmp 7)],none⟩,⟨(some 9),.load (some 2) (.tmp 3),none⟩,⟨(some 10),.call (.const (.func 186 [] [])) [(.tmp 9)],none⟩,⟨none,.store 2 (.tmp 2) (.tmp 8),none⟩,⟨none,.store 2 (.tmp 3) (.tmp 10),none⟩] [0,1,0,7,15,31])
 (.seq (.block 0 (.loop A.lb151_0))
 (.seq (.reg [⟨(some 22),.load (some 2) (.tmp 2),none⟩,⟨none,.store 2 (.tmp 4) (.tmp 22),none⟩])
 (.ret))))
theorem A.c151:cFunc Tryz.prog 151=some ⟨23,[.cell 4 (some 2)],A.b151⟩:=by kernel_rfl
def A.k151{K Q f c args st}:=@A.kk 151 _ _ _ A.c151 rfl K Q f c args st
theorem tdiv_floor{a b:Int}(hb:0<b):(if a.tmod b<0 then a.tdiv b-1 else a.tdiv b)=a/b∧(if a.tmod b<0 then a.tmod b+b else a.tmod b)=a%b:=by
 have h1:=Int.mul_tdiv_add_tmod a b
 have h2:=Int.tmod_lt_of_pos a hb
 have h3: -b<a.tmod b:=by
  have:=Int.tmod_lt_of_pos (-a) hb
  rw[Int.neg_tmod]at this
  omega
 have key:∀q r:Int,b*q+r=a→0≤r→r<b→q=a/b∧r=a%b:=by
  intro q r e r0 r1
  have:=(Int.ediv_emod_unique hb (r:=r) (q:=q) (a:=a)).2 ⟨by omega,r0,r1⟩
  exact⟨this.1.symm,this.2.symm⟩
 by_cases h:a.tmod b<0
 ·rw[if_pos h,if_pos h]
  exact key _ _ (by rw[Int.mul_sub];omega) (by omega) (by omega)
 ·rw[if_neg h,if_neg h]
  exact key _ _ (by omega) (by omega) h2
theorem abs_floor{a b:Int}(hb:0<b):∀q r:Int,q=(if decide (a<0)=true then -((a.natAbs/b.natAbs:Nat):Int) else (a.natAbs/b.natAbs:Nat))→r=(if decide (a<0)=true then -((a.natAbs%b.natAbs:Nat):Int) else (a.natAbs%b.natAbs:Nat))→(if r<0 then q-1 else q)=a/b∧(if r<0 then r+b else r)=a%b:=by
 intro q r hq hr
 have h1:=Nat.div_add_mod a.natAbs b.natAbs
 have h2:=Nat.mod_lt a.natAbs (show 0<b.natAbs by omega)
 have hbe:(b.natAbs:Int)=b:=by omega
 have h1':b*((a.natAbs/b.natAbs:Nat):Int)+((a.natAbs%b.natAbs:Nat):Int)=a.natAbs:=by
  rw[←hbe,←Int.natCast_mul,←Int.natCast_add,Int.natAbs_natCast,h1]
 have key:∀q r:Int,b*q+r=a→0≤r→r<b→q=a/b∧r=a%b:=by
  intro q r e r0 r1
  have:=(Int.ediv_emod_unique hb (r:=r) (q:=q) (a:=a)).2 ⟨by omega,r0,r1⟩
  exact⟨this.1.symm,this.2.symm⟩
 generalize a.natAbs/b.natAbs=Q at*
 generalize a.natAbs%b.natAbs=R at*
 by_cases ha:a<0
 ·simp only[ha,decide_true,if_true]at hq hr
  subst hq hr
  by_cases h: -(R:Int)<0
  ·rw[if_pos h,if_pos h]
   exact key _ _ (by rw[Int.mul_sub,Int.mul_neg];omega) (by omega) (by omega)
  ·rw[if_neg h,if_neg h]
   exact key _ _ (by rw[Int.mul_neg];omega) (by omega) (by omega)
 ·simp only[ha,decide_false,Bool.false_eq_true,if_false]at hq hr
  subst hq hr
  rw[if_neg (by omega),if_neg (by omega)]
  exact key _ _ (by omega) (by omega) (by omega)
theorem wl_mod{a b:Int}(hb:0<b):wl (a%b)≤wl b:=by
 apply wl_le
 have h1:=Int.emod_lt_of_pos a hb
 have h2:=Int.emod_nonneg a (show b≠0 by omega)
 omega
theorem ite_natAbs{c:Bool}{n:Nat}:(if c=true then -(n:Int) else (n:Int)).natAbs=n:=by split<;>omega
theorem dm_fin{h H:T O}{N n m:Nat}{nq nr q s:Int}{uq ur:V}{r0:T V}{W:List Nat}(hW:oldIds N W=[])(hK:Keeps h N H n)(hm:N+4≤m)(hmn:m+1<n)(hq:In H n (.agg [.int .i64 nq,uq]) q)(hr:In H n (.agg [.int .i64 nr,ur]) s)(oq:V.one uq=true)(or:V.one ur=true)
  (gz:H.get (N+2)=some (.cells [.int .i64 0,.nilslice] 224 true)) (gt:H.get (N+3)=some (.cells [.int .i64 0,.nilslice] 224 true)) (gq:H.get m=some (.cells [.int .i64 nq,uq] 224 true)) (gr:H.get (m+1)=some (.cells [.int .i64 nr,ur] 224 true))
  (r4:r0.get 4=some (.ptr (N+2) 0)) (r5:r0.get 5=some (.ptr (N+3) 0)) (r14:r0.get 14=some (.ptr m 0)) (r15:r0.get 15=some (.ptr (m+1) 0)):
  Code A.C none A.ta188_0 ⟨r0,84,[]⟩ ⟨H,n,W⟩ (fun e fr st=>e=.ret∧∃r,fr=⟨r,84,[]⟩∧r.get 4=some (.ptr (N+2) 0)∧r.get 5=some (.ptr (N+3) 0)∧ResP h N (N+2) q st∧ResP h N (N+3) s st):=by
 have n1:m<n:=by omega
 have n2:N+2<n:=by omega
 have n3:N+3<n:=by omega
 have d1:¬m=N+2:=by omega
 have d2:¬m=N+3:=by omega
 have d3:¬N+2=m:=by omega
 have d4:¬N+3=m:=by omega
 have d5:¬N+2=m+1:=by omega
 have d6:¬N+3=m+1:=by omega
 have d7:¬m+1=N+2:=by omega
 have d8:¬m+1=N+3:=by omega
 have d9:¬N+3=N+2:=by omega
 have d10:¬N+2=N+3:=by omega
 rw[code_run]
 have k1:=(hK.set (i:=N+2) (o:=.cells [.int .i64 nq,uq] 224 true) (by omega)).set (i:=N+3) (o:=.cells [.int .i64 nr,ur] 224 true) (by omega)
 have hq2:=(hq.setNU (c1:=[.int .i64 nq,uq]) (e1:=224) (w1:=true) gz (by simp) rfl)
 have hr2:=(hr.setNU (c1:=[.int .i64 nq,uq]) (e1:=224) (w1:=true) gz (by simp) rfl)
 have gt2:(H.set (N+2) (.cells [.int .i64 nq,uq] 224 true)).get (N+3)=some (.cells [.int .i64 0,.nilslice] 224 true):=by rw[T.get_set,if_neg d9];exact gt
 have hq3:=(hq2.setNU (c1:=[.int .i64 nr,ur]) (e1:=224) (w1:=true) gt2 (by simp) rfl)
 have hr3:=(hr2.setNU (c1:=[.int .i64 nr,ur]) (e1:=224) (w1:=true) gt2 (by simp) rfl)
 have hW2:oldIds N ((N+3)::(N+2)::W)=[]:=by simp[oldIds,hW]
 unfold V.one at oq or
 simp(disch:=first|(simp;done)|omega|(simp only[dg_length,dgi_length,List.length_cons];omega)|rfl) [-getElem?_pos,A.ta188_0,r4,r5,r14,r15,gz,gt,gq,gr,n1,n2,n3,hmn,d1,d2,d3,d4,d5,d6,d7,d8,d9,d10,oq,or,partV,slc,splice,storeK2,pairsOk.chk]
 rw[k_regD (by simp[d1,d2,d3,d4,d5,d6,d7,d8,d9,d10]<;>omega)]
 simp(disch:=first|(simp;done)|omega|(simp only[dg_length,dgi_length,List.length_cons];omega)|rfl) [-getElem?_pos,r4,r5]
 exact⟨⟨hW2,k1,nq,uq,by simp,hq3⟩,⟨hW2,k1,nr,ur,by simp,hr3⟩⟩
set_option maxHeartbeats 2000000 in
theorem dm_tail{h H:T O}{N:Nat}{n1 n2 a b:Int}{u1 u2:V}{r0:T V}(hx:In H (N+4) (.agg [.int .i64 n1,u1]) a)(hy:In H (N+4) (.agg [.int .i64 n2,u2]) b)(hb:0<b)(la:wl a<10000000)(lb:wl b<10000000)(hK:Keeps h N H (N+4))(oy:V.one u2=true)
  (gx:H.get N=some (.cells [.int .i64 n1,u1] 224 true)) (gy:H.get (N+1)=some (.cells [.int .i64 n2,u2] 224 true)) (gz:H.get (N+2)=some (.cells [.int .i64 0,.nilslice] 224 true)) (gt:H.get (N+3)=some (.cells [.int .i64 0,.nilslice] 224 true)) (r2:r0.get 2=some (.ptr N 0)) (r3:r0.get 3=some (.ptr (N+1) 0)) (r4:r0.get 4=some (.ptr (N+2) 0)) (r5:r0.get 5=some (.ptr (N+3) 0)):
  Code A.C none A.ta188_1 ⟨r0,84,[]⟩ ⟨H,N+4,[]⟩ (fun e fr st=>e=.ret∧∃r,fr=⟨r,84,[]⟩∧r.get 4=some (.ptr (N+2) 0)∧r.get 5=some (.ptr (N+3) 0)∧ResP h N (N+2) (a/b) st∧ResP h N (N+3) (a%b) st):=by
 rw[code_run]
 simp(disch:=first|(simp;done)|omega|(simp only[dg_length,dgi_length,List.length_cons];omega)|rfl) [-getElem?_pos,A.ta188_1,r2,gx,partV,slc]
 refine run_fn (parts_fn hx) ?_
 rintro _ h1 N1 k1 ⟨ua,rfl,hua⟩
 have kle1:=k1.le
 have gy1:=(k1.get (N+1) (by omega)).trans gy
 simp(disch:=first|(simp;done)|omega|(simp only[dg_length,dgi_length,List.length_cons];omega)|rfl) [-getElem?_pos,r3,gy1,partV,slc]
 refine run_fn (parts_fn (hy.keep k1)) ?_
 rintro _ h2 N2 k2 ⟨ub,rfl,hub⟩
 have kle2:=k2.le
 have hua2:=hua.keep k2
 have la':(wds a.natAbs).length<10000000:=la
 have lb':(wds b.natAbs).length<10000000:=lb
 simp(disch:=first|(simp;done)|omega|(simp only[dg_length,dgi_length,List.length_cons];omega)|rfl) [-getElem?_pos,]
 refine run_fn (divide_fn hua2 hub (by omega) (by omega) (by omega)) ?_
 rintro _ h3 N3 k3 ⟨q,r,rfl,hq,hr⟩
 simp(disch:=first|(simp;done)|omega|(simp only[dg_length,dgi_length,List.length_cons];omega)|rfl) [-getElem?_pos,]
 have lq:=wds_len_le (Nat.div_le_self a.natAbs b.natAbs)
 have lr:=wds_len_le (Nat.mod_le a.natAbs b.natAbs)
 refine run_fn (made_fn hq (by omega)) ?_
 rintro vq h4 N4 k4 hq4
 simp(disch:=first|(simp;done)|omega|(simp only[dg_length,dgi_length,List.length_cons];omega)|rfl) [-getElem?_pos,]
 refine run_fn (made_fn (hr.keep k4) (by omega)) ?_
 rintro vr h5 N5 k5 hr5
 have kA:=(((k1.trans k2).trans k3).trans k4).trans k5
 have kleA:=kA.le
 have hq5:=hq4.keep k5
 have gy5:=(kA.get (N+1) (by omega)).trans gy
 have gz5:=(kA.get (N+2) (by omega)).trans gz
 have gt5:=(kA.get (N+3) (by omega)).trans gt
 obtain⟨qv,hqv⟩:∃q,(if decide (a<0)=true then -((a.natAbs/b.natAbs:Nat):Int) else (a.natAbs/b.natAbs:Nat))=q:=⟨_,rfl⟩
 obtain⟨rv,hrv⟩:∃q,(if decide (a<0)=true then -((a.natAbs%b.natAbs:Nat):Int) else (a.natAbs%b.natAbs:Nat))=q:=⟨_,rfl⟩
 rw[hqv]at hq5
 rw[hrv]at hr5
 obtain⟨e1,e2⟩:=abs_floor hb qv rv hqv.symm hrv.symm
 have wq:wl qv<20000000:=by
  have:qv.natAbs=a.natAbs/b.natAbs:=by rw[←hqv];exact ite_natAbs
  unfold wl;rw[this];omega
 have wr:wl rv<20000000:=by
  have:rv.natAbs=a.natAbs%b.natAbs:=by rw[←hrv];exact ite_natAbs
  unfold wl;rw[this];omega
 obtain⟨nq,uq,rfl,oq⟩:=hq5.cells
 obtain⟨nr,ur,rfl,or⟩:=hr5.cells
 have kB:=fun o1 o2=>kset (kset (Keeps.refl (h:=h5) (n:=N5)) o1) o2
 have oq':=oq
 have or':=or
 unfold V.one at oq or oy
 have d1:¬N5=N5+1:=by omega
 have gq6:(((h5.set N5 (.cells [.int .i64 0,.nilslice] 224 true)).set (N5+1) (.cells [.int .i64 0,.nilslice] 224 true)).set N5 (.cells [.int .i64 nq,uq] 224 true)).get N5=some (.cells [.int .i64 nq,uq] 224 true):=by simp
 simp(disch:=first|(simp;done)|omega|(simp only[dg_length,dgi_length,List.length_cons];omega)|rfl) [-getElem?_pos,oq,or,splice,storeK2,partV,slc]
 have kC:=((kB (.cells [.int .i64 0,.nilslice] 224 true) (.cells [.int .i64 0,.nilslice] 224 true)).set (i:=N5) (o:=.cells [.int .i64 nq,uq] 224 true) (Nat.le_refl _)).set (i:=N5+1) (o:=.cells [.int .i64 nr,ur] 224 true) (by omega)
 generalize hH6:(((h5.set N5 (.cells [.int .i64 0,.nilslice] 224 true)).set (N5+1) (.cells [.int .i64 0,.nilslice] 224 true)).set N5 (.cells [.int .i64 nq,uq] 224 true)).set (N5+1) (.cells [.int .i64 nr,ur] 224 true)=H6 at*
 have q6:H6.get N5=some (.cells [.int .i64 nq,uq] 224 true):=by rw[←hH6];simp
 have r6:H6.get (N5+1)=some (.cells [.int .i64 nr,ur] 224 true):=by rw[←hH6];simp
 have hq6:=hq5.keep kC
 have hr6:=hr5.keep kC
 have gy6:=(kC.get (N+1) (by omega)).trans gy5
 have gz6:=(kC.get (N+2) (by omega)).trans gz5
 have gt6:=(kC.get (N+3) (by omega)).trans gt5
 refine run_fn (sign_fn hr6) ?_
 rintro _ h7 N7 k7 rfl
 have kle7:=k7.le
 have q7:=(k7.get N5 (by omega)).trans q6
 have r7:=(k7.get (N5+1) (by omega)).trans r6
 have gy7:=(k7.get (N+1) (by omega)).trans gy6
 have gz7:=(k7.get (N+2) (by omega)).trans gz6
 have gt7:=(k7.get (N+3) (by omega)).trans gt6
 have hq7:=hq6.keep k7
 have hr7:=hr6.keep k7
 have kF:=((hK.trans kA).trans kC).trans k7
 have wok:¬N5<N:=by omega
 have wok2:¬N5+1<N:=by omega
 have hWW:oldIds N [N5+1,N5]=[]:=by simp[oldIds,wok,wok2]
 by_cases hneg:rv<0
 ·have c1:sg3 rv<0:=by simp[sg3,hneg]
  rw[if_pos hneg]at e1 e2
  have hn7:N5<N7:=by omega
  have hn7':N5+1<N7:=by omega
  have hny:N+1<N7:=by omega
  simp(disch:=first|(simp;done)|omega|(simp only[dg_length,dgi_length,List.length_cons];omega)|rfl) [-getElem?_pos,c1,r3,q7,r7,gy7,partV,slc,splice,hn7]
  refine run_fn of_fn ?_
  rintro _ h8 N8 k8 rfl
  simp(disch:=first|(simp;done)|omega|(simp only[dg_length,dgi_length,List.length_cons];omega)|rfl) [-getElem?_pos,]
  refine run_fn (sub_fn (hq7.keep k8) (In.small (z:=1) (by omega) (by omega)) (by omega) (by decide+kernel)) ?_
  rintro vq9 h9 N9 k9 hq9
  have k89:=k8.trans k9
  have r9:=(k89.get (N5+1) (by omega)).trans r7
  have y9:=(k89.get (N+1) (by omega)).trans gy7
  have hr9:=hr7.keep k89
  have hb9:In h9 N9 (.agg [.int .i64 n2,u2]) b:=(((((hy.keep k1).keep k2).keep k3).keep k4).keep k5 |>.keep kC |>.keep k7).keep k89
  have kle89:=k89.le
  have z1:N5+1<N9:=by omega
  have z2:N+1<N9:=by omega
  simp(disch:=first|(simp;done)|omega|(simp only[dg_length,dgi_length,List.length_cons];omega)|rfl) [-getElem?_pos,r3,r9,y9,partV,slc,splice,z1,z2]
  refine run_fn (add_fn hr9 hb9 (by omega) (by omega)) ?_
  rintro vr10 h10 N10 k10 hr10
  have kle10:=k10.le
  have hq10:=hq9.keep k10
  obtain⟨nq2,uq2,rfl,oq2⟩:=hq10.cells
  obtain⟨nr2,ur2,rfl,or2⟩:=hr10.cells
  have q10:=(k10.get N5 (by omega)).trans ((k89.get N5 (by omega)).trans q7)
  have r10:=(k10.get (N5+1) (by omega)).trans r9
  have z10:=(k10.get (N+2) (by omega)).trans ((k89.get (N+2) (by omega)).trans gz7)
  have t10:=(k10.get (N+3) (by omega)).trans ((k89.get (N+3) (by omega)).trans gt7)
  have oq2':=oq2
  have or2':=or2
  unfold V.one at oq2 or2
  have z3:N5<N10:=by omega
  have z4:N5+1<N10:=by omega
  simp(disch:=first|(simp;done)|omega|(simp only[dg_length,dgi_length,List.length_cons];omega)|rfl) [-getElem?_pos,q10,r10,oq2,or2,splice,storeK2,z3,z4]
  have q11:=hq10.setNU (c1:=[.int .i64 nq2,uq2]) (e1:=224) (w1:=true) q10 hq7.nu rfl
  have r11:=hr10.setNU (c1:=[.int .i64 nq2,uq2]) (e1:=224) (w1:=true) q10 hq7.nu rfl
  have rr11:(h10.set N5 (.cells [.int .i64 nq2,uq2] 224 true)).get (N5+1)=some (.cells [.int .i64 nr,ur] 224 true):=by rw[T.get_set,if_neg (by omega)];exact r10
  have q12:=q11.setNU (c1:=[.int .i64 nr2,ur2]) (e1:=224) (w1:=true) rr11 hr7.nu rfl
  have r12:=r11.setNU (c1:=[.int .i64 nr2,ur2]) (e1:=224) (w1:=true) rr11 hr7.nu rfl
  rw[e1]at q12
  rw[e2]at r12
  have kG:=(((kF.trans k89).trans k10).set (i:=N5) (o:=.cells [.int .i64 nq2,uq2] 224 true) (by omega)).set (i:=N5+1) (o:=.cells [.int .i64 nr2,ur2] 224 true) (by omega)
  refine run_code (dm_fin (m:=N5) (by simp[oldIds,wok,wok2]) kG (by omega) (by omega) q12 r12 oq2' or2' (by rw[T.get_set,if_neg (by omega),T.get_set,if_neg (by omega)];exact z10) (by rw[T.get_set,if_neg (by omega),T.get_set,if_neg (by omega)];exact t10) (by simp) (by simp) (by simp[r4]) (by simp[r5]) (by simp) (by simp)) ?_
  rintro e fr st ⟨rfl,r,rfl,p1,p2,p3,p4⟩
  simp(disch:=first|(simp;done)|omega|(simp only[dg_length,dgi_length,List.length_cons];omega)|rfl) [-getElem?_pos,p1,p2]
  exact⟨p3,p4⟩
 ·have c1:¬sg3 rv<0:=by unfold sg3;rw[if_neg hneg];split<;>omega
  rw[if_neg hneg]at e1 e2
  rw[e1]at hq7
  rw[e2]at hr7
  simp(disch:=first|(simp;done)|omega|(simp only[dg_length,dgi_length,List.length_cons];omega)|rfl) [-getElem?_pos,c1]
  refine run_code (dm_fin hWW kF (by omega) (by omega) hq7 hr7 oq' or' gz7 gt7 q7 r7 (by simp[r4]) (by simp[r5]) (by simp) (by simp)) ?_
  rintro e fr st ⟨rfl,r,rfl,p1,p2,p3,p4⟩
  simp(disch:=first|(simp;done)|omega|(simp only[dg_length,dgi_length,List.length_cons];omega)|rfl) [-getElem?_pos,p1,p2]
  exact⟨p3,p4⟩
set_option maxHeartbeats 1000000 in
theorem divMod_fn{x y:V}{a b:Int}{h:T O}{N:Nat}(hx:In h N x a)(hy:In h N y b)(hb:0<b)(la:wl a<10000000)(lb:wl b<10000000):Fn A.C 188 [x,y] h N (fun v h' n'=>∃q r,v=.tup [q,r]∧In h' n' q (a/b)∧In h' n' r (a%b)):=by
 intro w
 rw[call_run,A.k188 (by simp)]
 obtain⟨n1,u1,rfl,o1⟩:=hx.cells
 obtain⟨n2,u2,rfl,o2⟩:=hy.cells
 have kk:=kset (kset (kset (kset (Keeps.refl (h:=h) (n:=N)) (.cells [.int .i64 n1,u1] 224 true)) (.cells [.int .i64 n2,u2] 224 true)) (.cells [.int .i64 0,.nilslice] 224 true)) (.cells [.int .i64 0,.nilslice] 224 true)
 have o2':=o2
 unfold V.one at o1 o2
 have go:∀r:T V,r.get 2=some (.ptr N 0)→r.get 3=some (.ptr (N+1) 0)→r.get 4=some (.ptr (N+2) 0)→r.get 5=some (.ptr (N+3) 0)→Run A.C [.fin [.cell 4 (some 2),.cell 5 (some 2)] ⟨h,N,w⟩] (exR (A.C.code none A.ta188_1 ⟨r,84,[]⟩ ⟨(((h.set N (.cells [.int .i64 n1,u1] 224 true)).set (N+1) (.cells [.int .i64 n2,u2] 224 true)).set (N+1+1) (.cells [.int .i64 0,.nilslice] 224 true)).set (N+1+1+1) (.cells [.int .i64 0,.nilslice] 224 true),N+1+1+1+1,[]⟩)) (valQ (Ret (fun v h' n'=>∃q r,v=.tup [q,r]∧In h' n' q (a/b)∧In h' n' r (a%b)) h N w)):=by
  intro r r2 r3 r4 r5
  refine run_code (dm_tail (hx.keep kk) (hy.keep kk) hb la lb kk o2' (by simp) (by simp) (by simp) (by simp) r2 r3 r4 r5) ?_
  rintro e fr ⟨h5,n5,w5⟩ ⟨rfl,r',rfl,r4',r5',⟨hW,hK,n6,u6,g6,hi⟩,⟨_,_,n7,u7,g7,hi7⟩⟩
  simp only at hW hK g6 hi g7 hi7
  simp(disch:=first|(simp;done)|omega|(simp only[dg_length,dgi_length,List.length_cons];omega)|rfl) [-getElem?_pos,r4',r5',g6,g7,partV,slc,Ret,hW]
  exact⟨hK,_,_,⟨rfl,rfl⟩,hi,hi7⟩
 rcases id hx with⟨e1,s1,s2⟩|⟨i,o,l,c,e1,_⟩
 ·simp only[V.agg.injEq,List.cons.injEq,V.int.injEq,true_and,and_true]at e1
  obtain⟨rfl,rfl⟩:=e1
  rcases id hy with⟨e2,t1,t2⟩|⟨i,o,l,c,e2,_⟩
  ·simp only[V.agg.injEq,List.cons.injEq,V.int.injEq,true_and,and_true]at e2
   obtain⟨rfl,rfl⟩:=e2
   by_cases hmin:n1= -9223372036854775808
   ·simp(disch:=first|(simp;done)|omega|(simp only[dg_length,dgi_length,List.length_cons];omega)|rfl) [-getElem?_pos,A.b188,partV,slc,splice,eqPrim,hmin]
    subst hmin
    exact go _ (by simp) (by simp) (by simp) (by simp)
   ·have hz:¬n2=0:=by omega
    obtain⟨f1,f2⟩:=tdiv_floor (a:=n1) hb
    have b1:(n1.tdiv n2).natAbs≤n1.natAbs:=by rw[Int.natAbs_tdiv];exact Nat.div_le_self _ _
    have b2:(n1.tmod n2).natAbs≤n1.natAbs:=by rw[Int.natAbs_tmod];exact Nat.mod_le _ _
    have b3:=Int.tmod_lt_of_pos n1 hb
    obtain⟨q,hq⟩:∃q,n1.tdiv n2=q:=⟨_,rfl⟩
    obtain⟨s,hs⟩:∃q,n1.tmod n2=q:=⟨_,rfl⟩
    rw[hq]at b1 f1
    rw[hs]at b2 b3 f1 f2
    have w1:wrapF .i64 q=q:=wrapF_i64 (by omega) (by omega)
    have d1:¬N=N+1:=by omega
    by_cases hneg:s<0
    ·rw[if_pos hneg]at f1 f2
     have w2:wrapF .i64 (s+n2)=s+n2:=wrapF_i64 (by omega) (by omega)
     have hq0: -9223372036854775808<q:=by
      have:=Int.mul_tdiv_add_tmod n1 n2
      omega
     have w3:wrapF .i64 (q-1)=q-1:=wrapF_i64 (by omega) (by omega)
     simp(disch:=first|(simp;done)|omega|(simp only[dg_length,dgi_length,List.length_cons];omega)|rfl) [-getElem?_pos,A.b188,partV,slc,splice,eqPrim,hmin,hz,hq,hs,w1,w2,w3,hneg,Ret,pairsOk.chk]
     exact⟨(kk.set (by omega)).set (by omega),_,_,⟨rfl,rfl⟩,by rw[←f1];exact In.small (by omega) (by omega),by rw[←f2];exact In.small (by omega) (by omega)⟩
    ·rw[if_neg hneg]at f1 f2
     simp(disch:=first|(simp;done)|omega|(simp only[dg_length,dgi_length,List.length_cons];omega)|rfl) [-getElem?_pos,A.b188,partV,slc,splice,eqPrim,hmin,hz,hq,hs,w1,hneg,Ret,pairsOk.chk]
     exact⟨(kk.set (by omega)).set (by omega),_,_,⟨rfl,rfl⟩,by rw[←f1];exact In.small (by omega) (by omega),by rw[←f2];exact In.small (by omega) (by omega)⟩
  ·simp only[V.agg.injEq,List.cons.injEq,V.int.injEq,true_and,and_true]at e2
   obtain⟨rfl,rfl⟩:=e2
   simp(disch:=first|(simp;done)|omega|(simp only[dg_length,dgi_length,List.length_cons];omega)|rfl) [-getElem?_pos,A.b188,partV,slc,splice,eqPrim]
   exact go _ (by simp) (by simp) (by simp) (by simp)
 ·simp only[V.agg.injEq,List.cons.injEq,V.int.injEq,true_and,and_true]at e1
  obtain⟨rfl,rfl⟩:=e1
  simp(disch:=first|(simp;done)|omega|(simp only[dg_length,dgi_length,List.length_cons];omega)|rfl) [-getElem?_pos,A.b188,partV,slc,splice,eqPrim,o2]
  exact go _ (by simp) (by simp) (by simp) (by simp)
structure GcI (h:T O) (N G m:Nat) (r:T V) (st:St):Prop where
 w:oldIds N st.w=[]
 keep:Keeps h N st.h st.n
 le:N+3≤st.n
 row:st.h.get (N+2)=some (.cells [.int .i64 0,.nilslice] 224 true)
 ex:∃(n1 n2:Int) (u1 u2:V) (p:Nat),st.h.get N=some (.cells [.int .i64 n1,u1] 224 true)∧st.h.get (N+1)=some (.cells [.int .i64 n2,u2] 224 true)∧In st.h st.n (.agg [.int .i64 n1,u1]) p∧In st.h st.n (.agg [.int .i64 n2,u2]) m∧Nat.gcd p m=G∧wl p<10000000∧wl m<10000000
set_option maxHeartbeats 2000000 in
theorem gcd_loop{h:T O}{N G:Nat}{r0:T V}(a2:r0.get 2=some (.ptr N 0))(a3:r0.get 3=some (.ptr (N+1) 0)):
  ∀x r st,(∀t,inD [(5,6),(11,21)] t=false→r.get t=r0.get t)→Fx [(5,6),(11,21)] r0 23 ⟨r,23,[]⟩→GcI h N G x r st→Code A.C none A.lb151_0 ⟨r,23,[]⟩ st (Rd [(5,6),(11,21)] r0 23 (GcI h N G) x (fun e r st=>e=.exit 0∧GcI h N G 0 r st)):=by
 rintro m r ⟨H,n0,W⟩ hr hf ⟨hW,hK,hle,hrow,n1,n2,u1,u2,p,g0,g1,hp,hm,hg,lp,lm⟩
 simp only at hW hK hle hrow g0 g1 hp hm
 rw[code_run]
 simp(disch:=first|(simp;done)|omega|(simp only[dg_length,dgi_length,List.length_cons];omega)|rfl) [-getElem?_pos,A.lb151_0,hr,hf,a2,a3,g1,partV,slc]
 refine run_fn (sign_fn hm) ?_
 rintro _ h1 m1 k1 rfl
 have kle1:=k1.le
 have f0:=(k1.get N (by omega)).trans g0
 have f1:=(k1.get (N+1) (by omega)).trans g1
 have f2:=(k1.get (N+2) (by omega)).trans hrow
 by_cases h0:m=0
 ·subst h0
  simp(disch:=first|(simp;done)|omega|(simp only[dg_length,dgi_length,List.length_cons];omega)|rfl) [-getElem?_pos,hr,hf,sg3,eqPrim]
  exact⟨hW,hK.trans k1,by show N+3≤m1;omega,f2,n1,n2,u1,u2,p,f0,f1,hp.keep k1,hm.keep k1,hg,lp,lm⟩
 ·have c1:¬sg3 m=0:=by unfold sg3;rw[if_neg (by omega),if_neg (by omega)];decide
  simp(disch:=first|(simp;done)|omega|(simp only[dg_length,dgi_length,List.length_cons];omega)|rfl) [-getElem?_pos,hr,hf,a2,a3,c1,eqPrim,f0,f1,partV,slc]
  refine run_fn (divMod_fn (hp.keep k1) (hm.keep k1) (by omega) lp lm) ?_
  rintro _ h2 m2 k2 ⟨q,s,rfl,hq,hs⟩
  have kle2:=k2.le
  have e0:=(k2.get N (by omega)).trans f0
  have e1:=(k2.get (N+1) (by omega)).trans f1
  have e2:=(k2.get (N+2) (by omega)).trans f2
  obtain⟨n3,u3,rfl,o3⟩:=hq.cells
  obtain⟨n4,u4,rfl,o4⟩:=hs.cells
  obtain⟨_,_,e5,o2⟩:=hm.cells
  simp only[V.agg.injEq,List.cons.injEq,V.int.injEq,true_and,and_true]at e5
  obtain⟨rfl,rfl⟩:=e5
  have o2':=o2
  unfold V.one at o3 o4 o2
  have kE:=((kset (kset (Keeps.refl (h:=h2) (n:=m2)) (.cells [.int .i64 0,.nilslice] 224 true)) (.cells [.int .i64 0,.nilslice] 224 true)).set (i:=m2) (o:=.cells [.int .i64 n3,u3] 224 true) (Nat.le_refl _)).set (i:=m2+1) (o:=.cells [.int .i64 n4,u4] 224 true) (by omega)
  have i0:=(kE.get N (by omega)).trans e0
  have i1:=(kE.get (N+1) (by omega)).trans e1
  have i2:=(kE.get (N+2) (by omega)).trans e2
  have d1:¬m2=m2+1:=by omega
  have d2:¬N=m2:=by omega
  have d3:¬N=m2+1:=by omega
  have d4:¬N+1=m2:=by omega
  have d5:¬N+1=m2+1:=by omega
  have d6:¬m2=N:=by omega
  have d7:¬m2+1=N:=by omega
  have d8:¬m2=N+1:=by omega
  have d9:¬m2+1=N+1:=by omega
  have d10:¬N=N+1:=by omega
  have l1:N<m2+1+1:=by omega
  have l2:N+1<m2+1+1:=by omega
  simp(disch:=first|(simp;done)|omega|(simp only[dg_length,dgi_length,List.length_cons];omega)|rfl) [-getElem?_pos,hr,hf,a2,a3,e0,e1,partV,slc,splice,storeK2,o2,o3,o4,d1,d2,d3,d4,d5,d6,d7,d8,d9,d10,l1,l2,pairsOk.chk]
  rw[k_regD (by simp[d1,d2,d3,d4,d5,d6,d7,d8,d9,d10]<;>omega)]
  simp(disch:=first|(simp;done)|omega|(simp only[dg_length,dgi_length,List.length_cons];omega)|rfl) [-getElem?_pos,hr,hf]
  have wok:¬m2<N:=by omega
  have wok1:¬m2+1<N:=by omega
  have q1:=((hm.keep k1).keep k2).keep kE
  have s1:=hs.keep kE
  have q2:=q1.setNU (c1:=[.int .i64 n2,u2]) (e1:=224) (w1:=true) i0 hp.nu rfl
  have s2:=s1.setNU (c1:=[.int .i64 n2,u2]) (e1:=224) (w1:=true) i0 hp.nu rfl
  have i3:(((((h2.set m2 (.cells [.int .i64 0,.nilslice] 224 true)).set (m2+1) (.cells [.int .i64 0,.nilslice] 224 true)).set m2 (.cells [.int .i64 n3,u3] 224 true)).set (m2+1) (.cells [.int .i64 n4,u4] 224 true)).set N (.cells [.int .i64 n2,u2] 224 true)).get (N+1)=some (.cells [.int .i64 n2,u2] 224 true):=by rw[T.get_set,if_neg (by omega)];exact i1
  have q3:=q2.setNU (c1:=[.int .i64 n4,u4]) (e1:=224) (w1:=true) i3 hm.nu rfl
  have s3:=s2.setNU (c1:=[.int .i64 n4,u4]) (e1:=224) (w1:=true) i3 hm.nu rfl
  refine⟨p%m,Nat.mod_lt _ (by omega),by simp[oldIds,hW,wok,wok1],((((hK.trans k1).trans k2).trans kE).set (Nat.le_refl _)).set (by omega),by show N+3≤m2+1+1;omega,?_,n2,n4,u2,u4,m,by simp,by simp,q3,?_,?_,lm,?_⟩
  ·rw[T.get_set,if_neg (by omega),T.get_set,if_neg (by omega)];exact i2
  ·rw[←Int.natCast_emod]at s3;exact s3
  ·rw[←hg,Nat.gcd_comm p m,Nat.gcd_rec m p,Nat.gcd_comm]
  ·have:=wl_mod (a:=(p:Int)) (b:=(m:Int)) (by omega)
   rw[←Int.natCast_emod]at this
   omega
theorem gcd_fn{x y:V}{a b:Int}{h:T O}{N:Nat}(hx:In h N x a)(hy:In h N y b)(la:wl a<10000000)(lb:wl b<10000000):Fn A.C 151 [x,y] h N (fun v h' n'=>In h' n' v (Int.gcd a b:Nat)):=by
 intro w
 rw[call_run,A.k151 (by simp)]
 obtain⟨n1,u1,rfl,o1⟩:=hx.cells
 obtain⟨n2,u2,rfl,o2⟩:=hy.cells
 have kk:=kset (kset (kset (Keeps.refl (h:=h) (n:=N)) (.cells [.int .i64 n1,u1] 224 true)) (.cells [.int .i64 n2,u2] 224 true)) (.cells [.int .i64 0,.nilslice] 224 true)
 have hx':=hx.keep kk
 have hy':=hy.keep kk
 unfold V.one at o1 o2
 simp(disch:=first|(simp;done)|omega|(simp only[dg_length,dgi_length,List.length_cons];omega)|rfl) [-getElem?_pos,A.b151,partV,slc,splice,o1,o2]
 refine run_fn (abs_fn hx' (by omega)) ?_
 rintro v1 h1 m1 k1 hv1
 have kle1:=k1.le
 have g1:=k1.get (N+1) (by omega)
 simp at g1
 have l1:N+1<m1:=by omega
 simp(disch:=first|(simp;done)|omega|(simp only[dg_length,dgi_length,List.length_cons];omega)|rfl) [-getElem?_pos,g1,l1,partV,slc]
 refine run_fn (abs_fn (hy'.keep k1) (by omega)) ?_
 rintro v2 h2 m2 k2 hv2
 have hv1':=hv1.keep k2
 have k12:=k1.trans k2
 have kle2:=k2.le
 obtain⟨n3,u3,rfl,o3⟩:=hv1.cells
 obtain⟨n4,u4,rfl,o4⟩:=hv2.cells
 unfold V.one at o3 o4
 have i0:=k12.get N (by omega)
 have i1:=k12.get (N+1) (by omega)
 have i2:=k12.get (N+1+1) (by omega)
 simp at i0 i1 i2
 have l2:N<m2:=by omega
 have l3:N+1<m2:=by omega
 have l4:N<m1:=by omega
 simp(disch:=first|(simp;done)|omega|(simp only[dg_length,dgi_length,List.length_cons];omega)|rfl) [-getElem?_pos,i0,i1,partV,slc,splice,storeK2,o3,o4,l1,l2,l3,l4,pairsOk.chk]
 have q1:=hv1'.setNU (c1:=[.int .i64 n3,u3]) (e1:=224) (w1:=true) i0 hx.nu rfl
 have s1:=hv2.setNU (c1:=[.int .i64 n3,u3]) (e1:=224) (w1:=true) i0 hx.nu rfl
 have i3:(h2.set N (.cells [.int .i64 n3,u3] 224 true)).get (N+1)=some (.cells [.int .i64 n2,u2] 224 true):=by rw[T.get_set,if_neg (by omega)];exact i1
 have q2:=q1.setNU (c1:=[.int .i64 n4,u4]) (e1:=224) (w1:=true) i3 hy.nu rfl
 have s2:=s1.setNU (c1:=[.int .i64 n4,u4]) (e1:=224) (w1:=true) i3 hy.nu rfl
 have wa:wl (a.natAbs:Int)=wl a:=by unfold wl;rw[Int.natAbs_natCast]
 have wb:wl (b.natAbs:Int)=wl b:=by unfold wl;rw[Int.natAbs_natCast]
 refine run_loopD [(5,6),(11,21)] _ (GcI h N (Int.gcd a b)) b.natAbs ?_ (gcd_loop (by simp) (by simp)) ?_
 ·refine⟨by simp[oldIds],((kk.trans k12).set (Nat.le_refl _)).set (by omega),by show N+3≤m2;omega,?_,n3,n4,u3,u4,a.natAbs,by simp,by simp,q2,s2,rfl,by rw[wa];exact la,by rw[wb];exact lb⟩
  rw[T.get_set,if_neg (by omega),T.get_set,if_neg (by omega)];exact i2
 rintro e r ⟨h5,m5,W5⟩ hr ⟨rfl,hW,hK,hle,hrow,n5,n6,u5,u6,p,g5,g6,hp,hm,hg,lp,lm⟩
 simp only at hW hK hle hrow g5 g6 hp hm
 obtain⟨_,_,e5,o5⟩:=hp.cells
 simp only[V.agg.injEq,List.cons.injEq,V.int.injEq,true_and,and_true]at e5
 obtain⟨rfl,rfl⟩:=e5
 unfold V.one at o5
 rw[Nat.gcd_zero_right]at hg
 have hrow':h5.get (N+1+1)=some (.cells [.int .i64 0,.nilslice] 224 true):=hrow
 have wok:¬N+1+1<N:=by omega
 simp(disch:=first|(simp;done)|omega|(simp only[dg_length,dgi_length,List.length_cons];omega)|rfl) [-getElem?_pos,hr,g5,hrow',partV,slc,splice,storeK2,o5,Ret,hW,wok]
 exact⟨hK.set (by omega),by rw[←hg];exact hp.setNU hrow' (by simp) rfl⟩
end Go.Mx
