/-
  strconv.Atoi of at most 18 digits.
-/
import Derived.Test.YtppobccilnifoaaGreatDoorPaP
import Derived.Test.YtppobccilnifoaaGreatDoorNbC
set_option linter.all false
namespace Go.Mx
open Go Go.Proofs
set_option maxRecDepth 1000000
def A.lb233_0:MCode:=.seq (.reg [bi 50 .lss 49 48])
 (.seq (.cond (.tmp 50)
 (.skip)
 (.exit 0))
 (.seq (.block 1 (.seq (.reg [ia 51 1 47 49,ld 52 51,mv 8 52])
 (.seq (.reg [mv 53 8,⟨(some 54),.bin .sub (.node []) false (.tmp 53) (.const (.int .u8 48)),none⟩,mv 8 54])
 (.seq (.seq (.reg [mv 55 8,⟨(some 56),.bin .gtr (.node []) false (.tmp 55) (.const (.int .u8 9)),none⟩])
 (.cond (.tmp 56)
 (.seq (.reg [⟨(some 57),.mkiface 341 (.const (.int .i64 2)),none⟩,mc 2 0,mv 3 57])
 (.ret))
 (.skip)))
 (.reg [mv 58 6,bc 59 .mul 58 10,mv 60 8,⟨(some 61),.convInt .i64 (.tmp 60),none⟩,bi 62 .add 59 61,mv 6 62])))))
 (.reg [bc 63 .add 49 1,mv 49 63])))
def A.b233:MCode:=.seq (.reg [mc 2 0,⟨(some 3),.mov (.const .niliface),none⟩])
 (.seq (.reg [mv 11 0,⟨(some 12),.len 0 (.tmp 11),none⟩,mv 4 12])
 (.seq (.seq (.reg [⟨(some 13),.mov (.const (.bool false)),none⟩,⟨(some 14),.mov (.tmp 4),(some (13,true))⟩,⟨(some 15),.bin .lss (.node []) false (.const (.int .i64 0)) (.tmp 14),(some (13,true))⟩,⟨(some 16),.mov (.tmp 15),(some (13,true))⟩,⟨(some 17),.mov (.tmp 4),(some (16,true))⟩,⟨(some 18),.bin .lss (.node []) false (.tmp 17) (.const (.int .i64 10)),(some (16,true))⟩,⟨(some 19),.pick (.tmp 16) (.tmp 18) (.const (.bool false)),(some (13,true))⟩,⟨(some 20),.pick (.tmp 13) (.tmp 19) (.const (.bool false)),none⟩,mv 21 20,⟨(some 22),.mov (.const (.bool true)),(some (21,false))⟩,⟨(some 23),.mov (.tmp 4),(some (22,true))⟩,⟨(some 24),.bin .lss (.node []) false (.const (.int .i64 0)) (.tmp 23),(some (22,true))⟩,⟨(some 25),.mov (.tmp 24),(some (22,true))⟩,⟨(some 26),.mov (.tmp 4),(some (25,true))⟩,⟨(some 27),.bin .lss (.node []) false (.tmp 26) (.const (.int .i64 19)),(some (25,true))⟩,⟨(some 28),.pick (.tmp 25) (.tmp 27) (.const (.bool false)),(some (22,true))⟩,⟨(some 29),.pick (.tmp 22) (.tmp 28) (.const (.bool false)),(some (21,false))⟩,⟨(some 30),.pick (.tmp 21) (.const (.bool true)) (.tmp 29),none⟩])
 (.cond (.tmp 30)
 (.seq (.reg [mv 31 0,mv 5 31])
 (.seq (.seq (.reg [mv 32 0,⟨(some 33),.idxStr (.tmp 32) (.const (.int .i64 0)),none⟩,⟨(some 34),.bin .eql (.prim .int) true (.tmp 33) (.const (.int .u8 45)),none⟩,mv 35 34,⟨(some 36),.mov (.tmp 0),(some (35,false))⟩,⟨(some 37),.idxStr (.tmp 36) (.const (.int .i64 0)),(some (35,false))⟩,⟨(some 38),.bin .eql (.prim .int) true (.tmp 37) (.const (.int .u8 43)),(some (35,false))⟩,⟨(some 39),.pick (.tmp 35) (.const (.bool true)) (.tmp 38),none⟩])
 (.cond (.tmp 39)
 (.seq (.reg [mv 40 0,⟨(some 41),.sliceStr (.tmp 40) (some (.const (.int .i64 1))) none,none⟩,mv 0 41])
 (.seq (.reg [mv 42 0,⟨(some 43),.len 0 (.tmp 42),none⟩,bc 44 .lss 43 1])
 (.cond (.tmp 44)
 (.seq (.reg [⟨(some 45),.mkiface 341 (.const (.int .i64 2)),none⟩,mc 2 0,mv 3 45])
 (.ret))
 (.skip))))
 (.skip)))
 (.seq (.reg [mc 6 0])
 (.seq (.seq (.reg [mv 46 0,⟨(some 47),.strBytes 5 (.tmp 46),none⟩,ln 48 47,mc 49 0])
 (.block 0 (.loop A.lb233_0)))
 (.seq (.seq (.reg [mv 64 5,⟨(some 65),.idxStr (.tmp 64) (.const (.int .i64 0)),none⟩,⟨(some 66),.bin .eql (.prim .int) true (.tmp 65) (.const (.int .u8 45)),none⟩])
 (.cond (.tmp 66)
 (.reg [mv 67 6,⟨(some 68),.un .neg (.tmp 67),none⟩,mv 6 68])
 (.skip)))
 (.seq (.reg [mv 69 6,mv 2 69,⟨(some 3),.mov (.const .niliface),none⟩])
 (.ret)))))))
 (.skip)))
 (.seq (.reg [mv 71 0,⟨(some 72),.call (.const (.func 262 [] [])) [(.tmp 71),(.const (.int .i64 10)),(.const (.int .i64 0))],none⟩,mv 70 72,xt 73 70 0,xt 74 70 1,mv 9 73,mv 10 74])
 (.seq (.reg [mv 75 9,mv 76 10,mv 2 75,mv 3 76])
 (.ret)))))
theorem A.c233:cFunc Tryz.prog 233=some ⟨77,[.tmp 2,.tmp 3],A.b233⟩:=by kernel_rfl
def A.k233{K Q f c args st}:=@A.kk 233 _ _ _ A.c233 rfl K Q f c args st
def A.b191:MCode:=.seq (.reg [mc 2 0,⟨(some 3),.mov (.const .niliface),none⟩])
 (.seq (.reg [mv 7 0,⟨(some 8),.call (.const (.func 233 [] [])) [(.tmp 7)],none⟩,mv 6 8,xt 9 6 0,xt 10 6 1,mv 4 9,mv 5 10])
 (.seq (.seq (.reg [mv 11 5,⟨(some 12),.bin .neq (.prim .iface) true (.tmp 11) (.const .niliface),none⟩])
 (.cond (.tmp 12)
 (.seq (.reg [mv 13 4,mv 14 0,mv 15 5,⟨(some 16),.call (.const (.func 234 [] [])) [(.const (.str [65,116,111,105])),(.tmp 14),(.const (.int .i64 0)),(.const (.int .i64 0)),(.tmp 15)],none⟩,mv 2 13,mv 3 16])
 (.ret))
 (.skip)))
 (.seq (.reg [mv 17 4,mv 2 17,⟨(some 3),.mov (.const .niliface),none⟩])
 (.ret))))
theorem A.c191:cFunc Tryz.prog 191=some ⟨18,[.tmp 2,.tmp 3],A.b191⟩:=by kernel_rfl
def A.k191{K Q f c args st}:=@A.kk 191 _ _ _ A.c191 rfl K Q f c args st
theorem iatoi_fn{s:Str}{h:T O}{N:Nat}(hd:allD s=true)(h1:1≤s.length)(h2:s.length≤18):Fn A.C 233 [.str s] h N (fun v _ _=>v=.tup [.int .i64 (numV s:Nat),.niliface]):=by
 intro w
 obtain⟨c,hc⟩:=get_of_lt (l:=s) (k:=0) (by omega)
 have hcd:=allD_get hd hc
 have a1:¬u8I c=45:=by omega
 have a2:¬u8I c=43:=by omega
 have a3:(0:Int)<(s.length:Int):=by omega
 have a5:(s.length:Int)<19:=by omega
 have h10:0<s.length:=by omega
 have hne:s≠[]:=fun h=>by rw[h]at h1;simp at h1
 have hc0:s.head?=some c:=by cases s with
  |nil=>simp at hc
  |cons=>simpa using hc
 rw[call_run,A.k233 (by simp)]
 by_cases a4:(s.length:Int)<10
 all_goals
  simp(disch:=first|(simp;done)|omega|(simp only[dg_length,dgi_length,List.length_cons];omega)|rfl) [-getElem?_pos,A.b233,a3,a4,a5,hne,h10,hc0,hc,eqPrim,a1,a2]
  refine run_loopD [(2,3),(6,6),(8,8),(49,63)] (fun e r st=>st.n=N+1∧oldIds N st.w=[]∧Keeps h N st.h (N+1)∧e=.exit 0∧r.get 6=some (.int .i64 (numV s:Nat))) (fun m r st=>st.n=N+1∧oldIds N st.w=[]∧Keeps h N st.h (N+1)∧st.h.get N=some (.cells (bytesV s) 5 true)∧∃k,m=s.length-k∧k≤s.length∧r.get 49=some (.int .i64 k)∧r.get 6=some (.int .i64 (numV (s.take k):Nat))) s.length ?_ ?_ ?_
  ·exact⟨rfl,rfl,(Keeps.refl.set (Nat.le_refl _)).up (by omega),by simp,0,by omega,by omega,by simp,by simp[numV]⟩
  ·rintro m r ⟨H,n1,W⟩ hr hf ⟨hn,hW,hK,hrow,k,rfl,hk,h49,h6⟩
   simp only at hn hW hK hrow
   subst hn
   rw[code_run]
   by_cases hlt:k<s.length
   ·obtain⟨c,hc⟩:=get_of_lt hlt
    have hd1:=allD_get hd hc
    have hb:=bytesV_get hc
    have hv:=numV_take hc
    have hb1:=numV_lt hd k hk
    have hb2:=p10_le (a:=k) (b:=17) (by omega)
    have b1:¬9<u8I c-48:=by omega
    have b2:wrapF .u8 (u8I c-48)=u8I c-48:=wrapF_u8 (by omega) (by omega)
    have b3:((numV (s.take (k+1)):Nat):Int)=(numV (s.take k):Nat)*10+(u8I c-48):=by
     rw[hv];unfold u8I at*;omega
    have b4:((numV (s.take k):Nat):Int)<100000000000000000:=by
     have:(10:Nat)^17=100000000000000000:=by decide
     omega
    generalize hy:numV (s.take (k+1))=y at*
    generalize numV (s.take k)=x at*
    simp(disch:=first|(simp;done)|omega|(simp only[dg_length,dgi_length,List.length_cons];omega)|rfl) [-getElem?_pos,A.lb233_0,hr,hf,h49,h6,hlt,hrow,hb,b1,b2,hW]
    exact⟨_,by omega,hK,k+1,rfl,by omega,by simp,by rw[hy,b3]⟩
   ·have:k=s.length:=by omega
    subst this
    simp(disch:=first|(simp;done)|omega|(simp only[dg_length,dgi_length,List.length_cons];omega)|rfl) [-getElem?_pos,A.lb233_0,hr,hf,h49,hW]
    rw[List.take_length]at h6
    exact⟨hK,h6⟩
  ·rintro _ r ⟨H,n1,W⟩ hr ⟨hn,hW,hK,rfl,h6⟩
   simp only at hn hW hK
   subst hn
   simp(disch:=first|(simp;done)|omega|(simp only[dg_length,dgi_length,List.length_cons];omega)|rfl) [-getElem?_pos,hr,Ret,hW,hK,h6,hc0,hc,eqPrim,a1]
theorem atoi_fn{s:Str}{h:T O}{N:Nat}(hd:allD s=true)(h1:1≤s.length)(h2:s.length≤18):Fn A.C 191 [.str s] h N (fun v _ _=>v=.tup [.int .i64 (numV s:Nat),.niliface]):=by
 intro w
 rw[call_run,A.k191 (by simp)]
 simp(disch:=first|(simp;done)|omega|(simp only[dg_length,dgi_length,List.length_cons];omega)|rfl) [-getElem?_pos,A.b191]
 refine run_fn (iatoi_fn hd h1 h2) ?_
 rintro v h1 n1 k1 rfl
 simp(disch:=first|(simp;done)|omega|(simp only[dg_length,dgi_length,List.length_cons];omega)|rfl) [-getElem?_pos,eqPrim,Ret,k1]
end Go.Mx
namespace Go.Mx
open Go Go.Proofs
set_option maxRecDepth 1000000
def A.lb192_0:MCode:=.seq (.seq (.reg [mv 7 1,bc 8 .gtr 7 0])
 (.cond (.tmp 8)
 (.skip)
 (.exit 0)))
 (.seq (.block 1 (.seq (.seq (.reg [mv 11 1,bc 12 .and 11 1,⟨(some 13),.bin .eql (.prim .int) true (.tmp 12) (.const (.int .i64 1)),none⟩])
 (.cond (.tmp 13)
 (.reg [⟨(some 14),.load (some 2) (.tmp 5),none⟩,⟨(some 15),.load (some 2) (.tmp 2),none⟩,⟨(some 16),.call (.const (.func 181 [] [])) [(.tmp 14),(.tmp 15)],none⟩,⟨none,.store 2 (.tmp 5) (.tmp 16),none⟩])
 (.skip)))
 (.seq (.reg [mv 17 1,bc 18 .gtr 17 1])
 (.cond (.tmp 18)
 (.reg [⟨(some 19),.load (some 2) (.tmp 2),none⟩,⟨(some 20),.load (some 2) (.tmp 2),none⟩,⟨(some 21),.call (.const (.func 181 [] [])) [(.tmp 19),(.tmp 20)],none⟩,⟨none,.store 2 (.tmp 2) (.tmp 21),none⟩])
 (.skip)))))
 (.reg [mv 9 1,⟨(some 10),.bin .shr (.node []) false (.tmp 9) (.const (.int .u64 1)),none⟩,mv 1 10]))
def A.b192:MCode:=.seq (.reg [⟨(some 2),.box 224 (.tmp 0),none⟩,⟨(some 4),.alloc [(.int .i64 0),.nilslice] 224,none⟩])
 (.seq (.reg [⟨(some 6),.call (.const (.func 154 [] [])) [(.const (.int .i64 1))],none⟩,⟨(some 5),.alloc [(.int .i64 0),.nilslice] 224,none⟩,⟨none,.store 2 (.tmp 5) (.tmp 6),none⟩])
 (.seq (.block 0 (.loop A.lb192_0))
 (.seq (.reg [⟨(some 22),.load (some 2) (.tmp 5),none⟩,⟨none,.store 2 (.tmp 4) (.tmp 22),none⟩])
 (.ret))))
theorem A.c192:cFunc Tryz.prog 192=some ⟨23,[.cell 4 (some 2)],A.b192⟩:=by kernel_rfl
def A.k192{K Q f c args st}:=@A.kk 192 _ _ _ A.c192 rfl K Q f c args st
def A.lb152_0:MCode:=.seq (.seq (.reg [mv 13 0,⟨(some 14),.len 0 (.tmp 13),none⟩,bc 15 .gtr 14 0])
 (.cond (.tmp 15)
 (.skip)
 (.exit 0)))
 (.block 1 (.seq (.reg [mv 16 0,⟨(some 17),.len 0 (.tmp 16),none⟩,⟨(some 18),.mn [(.const (.int .i64 18)),(.tmp 17)],none⟩,mv 5 18])
 (.seq (.reg [mv 20 0,mv 21 5,⟨(some 22),.sliceStr (.tmp 20) none (some (.tmp 21)),none⟩,⟨(some 23),.call (.const (.func 191 [] [])) [(.tmp 22)],none⟩,mv 19 23,xt 24 19 0,xt 25 19 1,mv 6 24,mv 7 25])
 (.seq (.regD [⟨(some 26),.load (some 2) (.tmp 4),none⟩,⟨(some 27),.call (.const (.func 154 [] [])) [(.const (.int .i64 10))],none⟩,mv 28 5,⟨(some 29),.call (.const (.func 192 [] [])) [(.tmp 27),(.tmp 28)],none⟩,⟨(some 30),.call (.const (.func 181 [] [])) [(.tmp 26),(.tmp 29)],none⟩,mv 31 6,⟨(some 32),.call (.const (.func 154 [] [])) [(.tmp 31)],none⟩,⟨(some 33),.call (.const (.func 182 [] [])) [(.tmp 30),(.tmp 32)],none⟩,⟨none,.store 2 (.tmp 4) (.tmp 33),none⟩] [0,0,0,6,15,0,63,127,255])
 (.reg [mv 34 0,mv 35 5,⟨(some 36),.sliceStr (.tmp 34) (some (.tmp 35)) none,none⟩,mv 0 36])))))
def A.b152:MCode:=.seq (.reg [⟨(some 2),.alloc [(.int .i64 0),.nilslice] 224,none⟩])
 (.seq (.reg [mv 8 0,⟨(some 9),.call (.const (.func 189 [] [])) [(.tmp 8),(.const (.str [45]))],none⟩,mv 3 9])
 (.seq (.reg [mv 10 0,⟨(some 11),.call (.const (.func 190 [] [])) [(.tmp 10),(.const (.str [45]))],none⟩,mv 0 11])
 (.seq (.reg [⟨(some 12),.build [(.int .i64 0),.nilslice] [],none⟩,⟨(some 4),.alloc [(.int .i64 0),.nilslice] 224,none⟩,⟨none,.store 2 (.tmp 4) (.tmp 12),none⟩])
 (.seq (.block 0 (.loop A.lb152_0))
 (.seq (.seq (.reg [mv 37 3])
 (.cond (.tmp 37)
 (.seq (.reg [⟨(some 38),.load (some 2) (.tmp 4),none⟩,⟨(some 39),.call (.const (.func 193 [] [])) [(.tmp 38)],none⟩,⟨none,.store 2 (.tmp 2) (.tmp 39),none⟩])
 (.ret))
 (.skip)))
 (.seq (.reg [⟨(some 40),.load (some 2) (.tmp 4),none⟩,⟨none,.store 2 (.tmp 2) (.tmp 40),none⟩])
 (.ret)))))))
theorem A.c152:cFunc Tryz.prog 152=some ⟨41,[.cell 2 (some 2)],A.b152⟩:=by kernel_rfl
def A.k152{K Q f c args st}:=@A.kk 152 _ _ _ A.c152 rfl K Q f c args st
theorem pw_bound{M k a o:Nat}(h:o*a^k=M)(ha:1≤a)(ho:1≤o)(hk:1≤k):o*a≤M∧a≤M∧o≤M:=by
 have h1:a^1≤a^k:=Nat.pow_le_pow_right ha hk
 rw[Nat.pow_one]at h1
 have h2:o*a≤o*a^k:=Nat.mul_le_mul_left o h1
 have h3:1*a≤o*a:=Nat.mul_le_mul_right a ho
 have h4:o*1≤o*a:=Nat.mul_le_mul_left o ha
 omega
theorem pw_sq{M k a o:Nat}(h:o*a^k=M)(ha:1≤a)(ho:1≤o)(hk:1<k):a*a≤M:=by
 have h1:a^2≤a^k:=Nat.pow_le_pow_right ha hk
 have h2:1*a^k≤o*a^k:=Nat.mul_le_mul_right _ ho
 have h3:a^2=a*a:=by rw[Nat.pow_two]
 omega
theorem pw_odd{M k a o:Nat}(h:o*a^k=M)(hk:k%2=1):(o*a)*(a*a)^(k/2)=M:=by
 rw[←h,←Nat.pow_two,←Nat.pow_mul,Nat.mul_assoc]
 congr 1
 conv=>rhs;rw[show k=2*(k/2)+1 by omega,Nat.pow_succ]
 rw[Nat.mul_comm]
theorem pw_even{M k a o:Nat}(h:o*a^k=M)(hk:k%2=0):o*(a*a)^(k/2)=M:=by
 rw[←h,←Nat.pow_two,←Nat.pow_mul,show 2*(k/2)=k by omega]
structure PwJ (h:T O) (N q M m:Nat) (r:T V) (st:St):Prop where
 w:oldIds N st.w=[]
 keep:Keeps h N st.h st.n
 q1:N+2≤q
 q2:q<st.n
 row:st.h.get (N+1)=some (.cells [.int .i64 0,.nilslice] 224 true)
 r1:r.get 1=some (.int .i64 m)
 lm:m<4611686018427387904
 ex:∃(n1 n2:Int) (u1 u2:V) (a o:Nat),st.h.get N=some (.cells [.int .i64 n1,u1] 224 true)∧st.h.get q=some (.cells [.int .i64 n2,u2] 224 true)∧In st.h st.n (.agg [.int .i64 n1,u1]) a∧In st.h st.n (.agg [.int .i64 n2,u2]) o∧o*a^m=M∧1≤a∧1≤o∧wl a<10000000
set_option maxHeartbeats 2000000 in
theorem pow_loop{h:T O}{N q M:Nat}{r0:T V}(hM:wl M<10000000)(a2:r0.get 2=some (.ptr N 0))(a5:r0.get 5=some (.ptr q 0)):
  ∀x r st,(∀t,inD [(1,1),(7,21)] t=false→r.get t=r0.get t)→Fx [(1,1),(7,21)] r0 23 ⟨r,23,[]⟩→PwJ h N q M x r st→Code A.C none A.lb192_0 ⟨r,23,[]⟩ st (Rd [(1,1),(7,21)] r0 23 (PwJ h N q M) x (fun e r st=>e=.exit 0∧PwJ h N q M 0 r st)):=by
 rintro m r ⟨H,n0,W⟩ hr hf ⟨hW,hK,hq1,hq2,hrow,r1,lm,n1,n2,u1,u2,a,o,g0,g1,ha,ho,hM2,a1,o1,la⟩
 simp only at hW hK hq2 hrow g0 g1 ha ho
 rw[code_run]
 have b1:=and1_i64 (k:=m) (by omega)
 have b2:=shr1_i64 (k:=m)
 by_cases h0:m=0
 ·subst h0
  simp(disch:=first|(simp;done)|omega|(simp only[dg_length,dgi_length,List.length_cons];omega)|rfl) [-getElem?_pos,A.lb192_0,hr,hf,r1]
  exact⟨hW,hK,hq1,hq2,hrow,by simp[r1],by omega,n1,n2,u1,u2,a,o,g0,g1,ha,ho,hM2,a1,o1,la⟩
 ·have c1:(0:Int)<(m:Int):=by omega
  have c2:0<m:=by omega
  obtain⟨t1,t2,t3⟩:=pw_bound hM2 a1 o1 c2
  have lo:wl o<10000000:=Nat.lt_of_le_of_lt (wl_le (a:=(o:Int)) (b:=(M:Int)) (by omega)) hM
  have loa:wl ((o*a:Nat):Int)<10000000:=Nat.lt_of_le_of_lt (wl_le (a:=((o*a:Nat):Int)) (b:=(M:Int)) (by omega)) hM
  obtain⟨_,_,e5,o5⟩:=ha.cells
  simp only[V.agg.injEq,List.cons.injEq,V.int.injEq,true_and,and_true]at e5
  obtain⟨rfl,rfl⟩:=e5
  unfold V.one at o5
  have wok:¬q<N:=by omega
  by_cases hp:m%2=1
  ·have p1:(m:Int)%2=1:=by omega
   simp(disch:=first|(simp;done)|omega|(simp only[dg_length,dgi_length,List.length_cons];omega)|rfl) [-getElem?_pos,A.lb192_0,hr,hf,r1,a2,a5,c1,c2,b1,b2,hp,p1,eqPrim,g0,g1,partV,slc]
   refine run_fn (mul_fn ho ha (by omega) (by omega)) ?_
   rintro v h3 n3 k3 hv
   rw[←Int.natCast_mul]at hv
   obtain⟨n6,u6,rfl,o6⟩:=hv.cells
   unfold V.one at o6
   have kle3:=k3.le
   have f0:=(k3.get N (by omega)).trans g0
   have f1:=(k3.get q (by omega)).trans g1
   have f2:=(k3.get (N+1) (by omega)).trans hrow
   have d1:¬N=q:=by omega
   have d2:¬N+1=q:=by omega
   have d3:¬q=N:=by omega
   have ha3:=(ha.keep k3).setNU (c1:=[.int .i64 n6,u6]) (e1:=224) (w1:=true) f1 ho.nu rfl
   have hv3:=hv.setNU (c1:=[.int .i64 n6,u6]) (e1:=224) (w1:=true) f1 ho.nu rfl
   have f0':(h3.set q (.cells [.int .i64 n6,u6] 224 true)).get N=some (.cells [.int .i64 n1,u1] 224 true):=by rw[T.get_set,if_neg d1];exact f0
   have f1':(h3.set q (.cells [.int .i64 n6,u6] 224 true)).get q=some (.cells [.int .i64 n6,u6] 224 true):=by simp
   have f2':(h3.set q (.cells [.int .i64 n6,u6] 224 true)).get (N+1)=some (.cells [.int .i64 0,.nilslice] 224 true):=by rw[T.get_set,if_neg d2];exact f2
   have kH:=(hK.trans k3).set (i:=q) (o:=.cells [.int .i64 n6,u6] 224 true) (by omega)
   by_cases hp1:1<m
   ·have p2:(1:Int)<(m:Int):=by omega
    have t4:=pw_sq hM2 a1 o1 hp1
    have laa:wl ((a*a:Nat):Int)<10000000:=Nat.lt_of_le_of_lt (wl_le (a:=((a*a:Nat):Int)) (b:=(M:Int)) (by omega)) hM
    generalize hH:h3.set q (.cells [.int .i64 n6,u6] 224 true)=H3 at*
    simp(disch:=first|(simp;done)|omega|(simp only[dg_length,dgi_length,List.length_cons];omega)|rfl) [-getElem?_pos,r1,hr,a2,a5,f0,f1,d1,d3,o6,splice,storeK2,hp1,p2,hH,f0',f1',partV,slc]
    refine run_fn (mul_fn ha3 ha3 (by omega) (by omega)) ?_
    rintro v h4 n4 k4 hv4
    rw[←Int.natCast_mul]at hv4
    obtain⟨n7,u7,rfl,o7⟩:=hv4.cells
    unfold V.one at o7
    have kle4:=k4.le
    have e0:=(k4.get N (by omega)).trans f0'
    have e1:=(k4.get q (by omega)).trans f1'
    have e2:=(k4.get (N+1) (by omega)).trans f2'
    simp(disch:=first|(simp;done)|omega|(simp only[dg_length,dgi_length,List.length_cons];omega)|rfl) [-getElem?_pos,r1,hr,hf,a2,e0,o7,splice,storeK2,b2]
    refine⟨m/2,by omega,by simp[oldIds,hW,wok],(kH.trans k4).set (Nat.le_refl _),hq1,by show q<n4;omega,by simp[e2],by simp,by omega,n7,n6,u7,u6,a*a,o*a,by simp,by simp[d3,e1],hv4.setNU e0 ha.nu rfl,(hv3.keep k4).setNU e0 ha.nu rfl,pw_odd hM2 hp,Nat.mul_pos a1 a1,Nat.mul_pos o1 a1,laa⟩
   ·have p2:¬(1:Int)<(m:Int):=by omega
    have m0:m/2=0:=by omega
    have m1':m=1:=by omega
    simp(disch:=first|(simp;done)|omega|(simp only[dg_length,dgi_length,List.length_cons];omega)|rfl) [-getElem?_pos,r1,hr,hf,a2,a5,f0,f1,d1,d3,o6,splice,storeK2,hp1,p2,b2]
    refine⟨m/2,by omega,by simp[oldIds,hW,wok],kH,hq1,by show q<n3;omega,f2',by simp,by omega,n1,n6,u1,u6,a,o*a,f0',f1',ha3,hv3,by rw[m0,←hM2,m1'];simp,a1,Nat.mul_pos o1 a1,la⟩
  ·have p1:¬(m:Int)%2=1:=by omega
   have p0:m%2=0:=by omega
   have p2:(1:Int)<(m:Int):=by omega
   have hp1:1<m:=by omega
   have t4:=pw_sq hM2 a1 o1 hp1
   have laa:wl ((a*a:Nat):Int)<10000000:=Nat.lt_of_le_of_lt (wl_le (a:=((a*a:Nat):Int)) (b:=(M:Int)) (by omega)) hM
   simp(disch:=first|(simp;done)|omega|(simp only[dg_length,dgi_length,List.length_cons];omega)|rfl) [-getElem?_pos,A.lb192_0,hr,hf,r1,a2,a5,c1,c2,b1,b2,hp,p1,p2,hp1,eqPrim,g0,g1,partV,slc]
   refine run_fn (mul_fn ha ha (by omega) (by omega)) ?_
   rintro v h3 n3 k3 hv
   rw[←Int.natCast_mul]at hv
   obtain⟨n6,u6,rfl,o6⟩:=hv.cells
   unfold V.one at o6
   have kle3:=k3.le
   have f0:=(k3.get N (by omega)).trans g0
   have f1:=(k3.get q (by omega)).trans g1
   have f2:=(k3.get (N+1) (by omega)).trans hrow
   have d3:¬q=N:=by omega
   simp(disch:=first|(simp;done)|omega|(simp only[dg_length,dgi_length,List.length_cons];omega)|rfl) [-getElem?_pos,r1,hr,hf,a2,f0,o6,splice,storeK2,b2]
   refine⟨m/2,by omega,by simp[oldIds,hW],(hK.trans k3).set (Nat.le_refl _),hq1,by show q<n3;omega,by simp[f2],by simp,by omega,n6,n2,u6,u2,a*a,o,by simp,by simp[d3,f1],hv.setNU f0 ha.nu rfl,(ho.keep k3).setNU f0 ha.nu rfl,pw_even hM2 p0,Nat.mul_pos a1 a1,o1,laa⟩
theorem pow_fn{x:V}{a k:Nat}{h:T O}{N:Nat}(hx:In h N x a)(ha:1≤a)(hk:k<4611686018427387904)(la:wl a<10000000)(hM:wl ((a^k:Nat):Int)<10000000):Fn A.C 192 [x,.int .i64 k] h N (fun v h' n'=>In h' n' v ((a^k:Nat):Int)):=by
 intro w
 rw[call_run,A.k192 (by simp)]
 obtain⟨n1,u1,rfl,o1⟩:=hx.cells
 have kk:=kset (kset (Keeps.refl (h:=h) (n:=N)) (.cells [.int .i64 n1,u1] 224 true)) (.cells [.int .i64 0,.nilslice] 224 true)
 have hx':=hx.keep kk
 unfold V.one at o1
 simp(disch:=first|(simp;done)|omega|(simp only[dg_length,dgi_length,List.length_cons];omega)|rfl) [-getElem?_pos,A.b192,partV,slc,splice,o1]
 refine run_fn of_fn ?_
 rintro _ h1 m1 k1 rfl
 have kle1:=k1.le
 have g0:=k1.get N (by omega)
 have g1:=k1.get (N+1) (by omega)
 simp at g0 g1
 have hx1:=hx'.keep k1
 have d1:¬N=m1:=by omega
 have d2:¬N+1=m1:=by omega
 have wok:¬m1<N:=by omega
 have kE:=(kset (Keeps.refl (h:=h1) (n:=m1)) (.cells [.int .i64 0,.nilslice] 224 true)).set (i:=m1) (o:=.cells [.int .i64 1,.nilslice] 224 true) (Nat.le_refl _)
 simp(disch:=first|(simp;done)|omega|(simp only[dg_length,dgi_length,List.length_cons];omega)|rfl) [-getElem?_pos,partV,slc,splice,storeK2]
 refine run_loopD [(1,1),(7,21)] _ (PwJ h N m1 (a^k)) k ?_ (pow_loop hM (by simp) (by simp)) ?_
 ·refine⟨by simp[oldIds,wok],((kk.trans k1).trans kE),by omega,by show m1<m1+1;omega,by simp[d2,g1],by simp,hk,n1,1,u1,.nilslice,a,1,by simp[d1,g0],by simp,hx1.keep kE,In.small (by omega) (by omega),by simp,ha,by omega,la⟩
 rintro e r ⟨h5,m5,W5⟩ hr ⟨rfl,hW,hK,hq1,hq2,hrow,r1,lm,n5,n6,u5,u6,a',o,g5,g6,ha5,ho5,hM2,a1,o1',la'⟩
 simp only at hW hK hq2 hrow g5 g6 ha5 ho5
 obtain⟨_,_,e5,o5⟩:=ho5.cells
 simp only[V.agg.injEq,List.cons.injEq,V.int.injEq,true_and,and_true]at e5
 obtain⟨rfl,rfl⟩:=e5
 unfold V.one at o5
 have he:(o:Int)=((a^k:Nat):Int):=by rw[←hM2];simp
 rw[he]at ho5
 have wok:¬N+1<N:=by omega
 simp(disch:=first|(simp;done)|omega|(simp only[dg_length,dgi_length,List.length_cons];omega)|rfl) [-getElem?_pos,hr,g6,hrow,partV,slc,splice,storeK2,o5,Ret,hW,wok]
 exact⟨hK.set (by omega),ho5.setNU hrow (by simp) rfl⟩
theorem numV_app2(x:Str):∀(y:Str),numV (x++y)=numV x*10^y.length+numV y:=by
 intro y
 generalize hn:y.length=n
 induction n generalizing y with
 |zero=>
  have:y=[]:=List.eq_nil_of_length_eq_zero hn
  subst this;simp[numV]
 |succ n ih=>
  obtain⟨u,d,rfl⟩:∃u d,y=u++[d]:=⟨y.dropLast,y.getLast (by rintro rfl;simp at hn),(List.dropLast_concat_getLast _).symm⟩
  simp at hn
  rw[←List.append_assoc,numV_snoc,numV_snoc,ih u hn,Nat.pow_succ]
  grind
theorem wl_pow10{n k:Nat}(h:n<10^k):wl n≤k:=by
 unfold wl
 apply wds_len_bound
 have:(10:Nat)^k≤B^k:=Nat.pow_le_pow_left (by decide) k
 simp;omega
theorem allD_take2{s:Str}(h:allD s=true)(k:Nat):allD (s.take k)=true:=by
 unfold allD at*
 rw[List.all_eq_true]at*
 exact fun x hx=>h x (List.mem_of_mem_take hx)
theorem allD_drop2{s:Str}(h:allD s=true)(k:Nat):allD (s.drop k)=true:=by
 unfold allD at*
 rw[List.all_eq_true]at*
 exact fun x hx=>h x (List.mem_of_mem_drop hx)
structure RdI (h:T O) (N:Nat) (s:Str) (m:Nat) (r:T V) (st:St):Prop where
 w:oldIds N st.w=[]
 keep:Keeps h N st.h st.n
 le:N+2≤st.n
 row:st.h.get N=some (.cells [.int .i64 0,.nilslice] 224 true)
 ex:∃(cur:Str) (p:Nat) (n1:Int) (u1:V),r.get 0=some (.str cur)∧cur.length=m∧m≤s.length∧allD cur=true∧st.h.get (N+1)=some (.cells [.int .i64 n1,u1] 224 true)∧In st.h st.n (.agg [.int .i64 n1,u1]) p∧numV s=p*10^m+numV cur
set_option maxHeartbeats 2000000 in
theorem read_loop{h:T O}{N:Nat}{s:Str}{r0:T V}(hd:allD s=true)(hl:s.length≤100000)(a4:r0.get 4=some (.ptr (N+1) 0)):
  ∀x r st,(∀t,inD [(0,0),(5,7),(13,36)] t=false→r.get t=r0.get t)→Fx [(0,0),(5,7),(13,36)] r0 41 ⟨r,41,[]⟩→RdI h N s x r st→Code A.C none A.lb152_0 ⟨r,41,[]⟩ st (Rd [(0,0),(5,7),(13,36)] r0 41 (RdI h N s) x (fun e r st=>e=.exit 0∧RdI h N s 0 r st)):=by
 rintro m r ⟨H,n0,W⟩ hr hf ⟨hW,hK,hle,hrow,cur,p,n1,u1,hr0,hcl,hms,hcd,g1,hp,hv⟩
 simp only at hW hK hle hrow g1 hp
 rw[code_run]
 by_cases h0:m=0
 ·subst h0
  have:cur=[]:=List.eq_nil_of_length_eq_zero hcl
  subst this
  simp(disch:=first|(simp;done)|omega|(simp only[dg_length,dgi_length,List.length_cons];omega)|rfl) [-getElem?_pos,A.lb152_0,hr,hf,hr0]
  exact⟨hW,hK,hle,hrow,[],p,n1,u1,by simp[hr0],rfl,by omega,rfl,g1,hp,hv⟩
 ·obtain⟨n,hn⟩:∃n,n=min 18 m:=⟨_,rfl⟩
  have c1:0<cur.length:=by omega
  have c2:(0:Int)<(cur.length:Int):=by omega
  have c3:(if (cur.length:Int)<18 then (cur.length:Int) else 18)=(n:Int):=by split<;>omega
  have c4:(n:Int)≤(cur.length:Int):=by omega
  have hpv:p≤numV s:=by
   rw[hv]
   have:p*1≤p*10^m:=Nat.mul_le_mul_left p (Nat.pow_pos (by decide))
   omega
  have hsl:=numV_lt' hd
  have lp:wl (p:Int)≤100000:=Nat.le_trans (wl_pow10 (Nat.lt_of_le_of_lt hpv hsl)) hl
  have hat:=fun (h:T O) (N:Nat)=>atoi_fn (s:=cur.take n) (h:=h) (N:=N) (allD_take2 hcd n) (by rw[List.length_take];omega) (by rw[List.length_take];omega)
  have l10:wl ((10:Nat):Int)<10000000:=by decide+kernel
  have lpw:wl ((10^n:Nat):Int)≤19:=wl_pow10 (Nat.pow_lt_pow_right (by decide) (by omega))
  have hnv:=numV_lt' (allD_take2 hcd n)
  have htl:(cur.take n).length=n:=by rw[List.length_take];omega
  rw[htl]at hnv
  have h18:(10:Nat)^n≤10^18:=Nat.pow_le_pow_right (by decide) (by omega)
  have e18:(10:Nat)^18=1000000000000000000:=by decide
  have lnv:wl ((numV (cur.take n):Nat):Int)≤18:=Nat.le_trans (wl_pow10 hnv) (by omega)
  simp(disch:=first|(simp;done)|omega|(simp only[dg_length,dgi_length,List.length_cons];omega)|rfl) [-getElem?_pos,A.lb152_0,hr,hf,hr0,c1,c2,op_mn,minO,minF,c3,c4,evOpt]
  refine run_fn (hat _ _) ?_
  rintro _ h1 m1 k1 rfl
  have kle1:=k1.le
  have f1:=(k1.get (N+1) (by omega)).trans g1
  simp(disch:=first|(simp;done)|omega|(simp only[dg_length,dgi_length,List.length_cons];omega)|rfl) [-getElem?_pos,a4,hr,f1,partV,slc]
  refine run_fn of_fn ?_
  rintro _ h2 m2 k2 rfl
  have kle2:=k2.le
  simp(disch:=first|(simp;done)|omega|(simp only[dg_length,dgi_length,List.length_cons];omega)|rfl) [-getElem?_pos,]
  refine run_fn (pow_fn (In.small (z:=(10:Nat)) (by omega) (by omega)) (by omega) (by omega) l10 (by omega)) ?_
  rintro vp h3 m3 k3 hvp
  have kle3:=k3.le
  simp(disch:=first|(simp;done)|omega|(simp only[dg_length,dgi_length,List.length_cons];omega)|rfl) [-getElem?_pos,]
  refine run_fn (mul_fn (((hp.keep k1).keep k2).keep k3) hvp (by omega) (by omega)) ?_
  rintro vm h4 m4 k4 hvm
  have kle4:=k4.le
  have lm:=wl_mul (p:Int) ((10^n:Nat):Int)
  simp(disch:=first|(simp;done)|omega|(simp only[dg_length,dgi_length,List.length_cons];omega)|rfl) [-getElem?_pos,]
  refine run_fn of_fn ?_
  rintro _ h5 m5 k5 rfl
  have kle5:=k5.le
  simp(disch:=first|(simp;done)|omega|(simp only[dg_length,dgi_length,List.length_cons];omega)|rfl) [-getElem?_pos,]
  refine run_fn (add_fn (hvm.keep k5) (In.small (z:=((numV (cur.take n):Nat):Int)) (by omega) (by omega)) (by omega) (by omega)) ?_
  rintro va h6 m6 k6 hva
  have kle6:=k6.le
  have k26:=(((k2.trans k3).trans k4).trans k5).trans k6
  have e1:=(k26.get (N+1) (by omega)).trans f1
  have e2:=(k26.get N (by omega)).trans ((k1.get N (by omega)).trans hrow)
  obtain⟨n6,u6,rfl,o6⟩:=hva.cells
  unfold V.one at o6
  have z1:N+1<m1:=by omega
  have z2:N+1<m6:=by omega
  have z3:¬N+1<N:=by omega
  have z4:N+1<m5:=by omega
  simp(disch:=first|(simp;done)|omega|(simp only[dg_length,dgi_length,List.length_cons];omega)|rfl) [-getElem?_pos,hr,hf,a4,hr0,e1,o6,z1,z2,z4,splice,storeK2,evOpt,c4,pairsOk.chk]
  have hpe:(p:Int)*((10^n:Nat):Int)+((numV (cur.take n):Nat):Int)=((p*10^n+numV (cur.take n):Nat):Int):=by simp
  rw[hpe]at hva
  refine⟨m-n,by omega,by simp[oldIds,hW,z3],((hK.trans k1).trans k26).set (by omega),by show N+2≤m6;omega,by simp[e2],cur.drop n,p*10^n+numV (cur.take n),n6,u6,by simp,by rw[List.length_drop];omega,by omega,allD_drop2 hcd n,by simp,hva.setNU e1 hp.nu rfl,?_⟩
  have h1:=numV_app2 (cur.take n) (cur.drop n)
  rw[List.take_append_drop,List.length_drop,hcl]at h1
  rw[hv,h1,Nat.add_mul,Nat.mul_assoc,←Nat.pow_add,show n+(m-n)=m by omega]
  omega
theorem read_fn{s:Str}{h:T O}{N:Nat}(hd:allD (bodyS s)=true)(hl:(bodyS s).length≤100000):Fn A.C 152 [.str s] h N (fun v h' n'=>In h' n' v (if negS s=true then -(numV (bodyS s):Int) else (numV (bodyS s):Int))):=by
 intro w
 rw[call_run,A.k152 (by simp)]
 simp(disch:=first|(simp;done)|omega|(simp only[dg_length,dgi_length,List.length_cons];omega)|rfl) [-getElem?_pos,A.b152,hasPrefix_eq,trimPrefix_eq,partV,slc,splice]
 refine run_loopD [(0,0),(5,7),(13,36)] _ (RdI h N (bodyS s)) (bodyS s).length ?_ (read_loop hd hl (by simp)) ?_
 ·have kk:=(kset (kset (Keeps.refl (h:=h) (n:=N)) (.cells [.int .i64 0,.nilslice] 224 true)) (.cells [.int .i64 0,.nilslice] 224 true)).set (i:=N+1) (o:=.cells [.int .i64 0,.nilslice] 224 true) (by omega)
  exact⟨by simp[oldIds],kk,Nat.le_refl _,by simp,bodyS s,0,0,.nilslice,by simp,rfl,Nat.le_refl _,hd,by simp,In.small (by omega) (by omega),by simp⟩
 rintro e r ⟨h5,m5,W5⟩ hr ⟨rfl,hW,hK,hle,hrow,cur,p,n1,u1,hr0,hcl,hms,hcd,g1,hp,hv⟩
 simp only at hW hK hle hrow g1 hp
 have:cur=[]:=List.eq_nil_of_length_eq_zero hcl
 subst this
 have hv:numV (bodyS s)=p:=by rw[hv];simp[numV]
 have lp:wl (p:Int)≤100000:=by rw[←hv];exact Nat.le_trans (wl_pow10 (numV_lt' hd)) hl
 obtain⟨_,_,e5,o5⟩:=hp.cells
 simp only[V.agg.injEq,List.cons.injEq,V.int.injEq,true_and,and_true]at e5
 obtain⟨rfl,rfl⟩:=e5
 unfold V.one at o5
 have wok:¬N<N:=by omega
 cases hn:negS s with
 |true=>
  simp(disch:=first|(simp;done)|omega|(simp only[dg_length,dgi_length,List.length_cons];omega)|rfl) [-getElem?_pos,hr,hn,g1,partV,slc]
  refine run_fn (neg_fn hp (by omega)) ?_
  rintro v h6 m6 k6 hv6
  obtain⟨n6,u6,rfl,o6⟩:=hv6.cells
  unfold V.one at o6
  have e0:=(k6.get N (by omega)).trans hrow
  have kle:=k6.le
  simp(disch:=first|(simp;done)|omega|(simp only[dg_length,dgi_length,List.length_cons];omega)|rfl) [-getElem?_pos,hr,e0,o6,partV,slc,splice,storeK2,Ret,hW]
  exact⟨(hK.trans k6).set (Nat.le_refl _),by rw[hv];exact hv6.setNU e0 (by simp) rfl⟩
 |false=>
  simp(disch:=first|(simp;done)|omega|(simp only[dg_length,dgi_length,List.length_cons];omega)|rfl) [-getElem?_pos,hr,hn,g1,hrow,o5,partV,slc,splice,storeK2,Ret,hW]
  exact⟨hK.set (Nat.le_refl _),by rw[hv];exact hp.setNU hrow (by simp) rfl⟩
end Go.Mx
