/-
  num.Int: parts, made, Sign, Neg, Abs.
-/
import Derived.Test.YtppobccilnifoaaGreatDoorNaD
set_option linter.all false
namespace Go.Mx
open Go Go.Proofs
set_option maxRecDepth 1000000
def A.b154:MCode:=.seq (.reg [⟨(some 2),.alloc [(.int .i64 0),.nilslice] 224,none⟩])
 (.seq (.reg [mv 3 0,⟨(some 4),.build [(.int .i64 0),.nilslice] [(0,1,(.tmp 3))],none⟩,⟨none,.store 2 (.tmp 2) (.tmp 4),none⟩])
 (.ret))
theorem A.c154:cFunc Tryz.prog 154=some ⟨5,[.cell 2 (some 2)],A.b154⟩:=by kernel_rfl
def A.k154{K Q f c args st}:=@A.kk 154 _ _ _ A.c154 rfl K Q f c args st
def A.b187:MCode:=.seq (.reg [⟨(some 1),.box 224 (.tmp 0),none⟩,mc 2 0])
 (.seq (.reg [⟨(some 3),.faddr 0 (.tmp 1),none⟩,ld 4 3,⟨(some 5),.mn [(.const (.int .i64 1)),(.tmp 4)],none⟩,⟨(some 6),.mx [(.const (.int .i64 (-1))),(.tmp 5)],none⟩,mv 2 6])
 (.ret))
theorem A.c187:cFunc Tryz.prog 187=some ⟨7,[.tmp 2],A.b187⟩:=by kernel_rfl
def A.k187{K Q f c args st}:=@A.kk 187 _ _ _ A.c187 rfl K Q f c args st
def A.b186:MCode:=.seq (.reg [⟨(some 1),.box 224 (.tmp 0),none⟩,⟨(some 2),.alloc [(.int .i64 0),.nilslice] 224,none⟩])
 (.seq (.seq (.reg [⟨(some 3),.faddr 0 (.tmp 1),none⟩,ld 4 3,bc 5 .lss 4 0])
 (.cond (.tmp 5)
 (.seq (.reg [⟨(some 6),.load (some 2) (.tmp 1),none⟩,⟨(some 7),.call (.const (.func 193 [] [])) [(.tmp 6)],none⟩,⟨none,.store 2 (.tmp 2) (.tmp 7),none⟩])
 (.ret))
 (.skip)))
 (.seq (.reg [⟨(some 8),.load (some 2) (.tmp 1),none⟩,⟨none,.store 2 (.tmp 2) (.tmp 8),none⟩])
 (.ret)))
theorem A.c186:cFunc Tryz.prog 186=some ⟨9,[.cell 2 (some 2)],A.b186⟩:=by kernel_rfl
def A.k186{K Q f c args st}:=@A.kk 186 _ _ _ A.c186 rfl K Q f c args st
def A.b217:MCode:=.seq (.reg [⟨(some 2),.mov (.const (.int .u64 0)),none⟩])
 (.seq (.seq (.reg [mv 3 0,bc 4 .lss 3 0])
 (.cond (.tmp 4)
 (.seq (.reg [mv 5 0,⟨(some 6),.un .neg (.tmp 5),none⟩,⟨(some 7),.convInt .u64 (.tmp 6),none⟩,mv 2 7])
 (.ret))
 (.skip)))
 (.seq (.reg [mv 8 0,⟨(some 9),.convInt .u64 (.tmp 8),none⟩,mv 2 9])
 (.ret)))
theorem A.c217:cFunc Tryz.prog 217=some ⟨10,[.tmp 2],A.b217⟩:=by kernel_rfl
def A.k217{K Q f c args st}:=@A.kk 217 _ _ _ A.c217 rfl K Q f c args st
def A.b193:MCode:=.seq (.reg [⟨(some 1),.box 224 (.tmp 0),none⟩,⟨(some 2),.alloc [(.int .i64 0),.nilslice] 224,none⟩])
 (.seq (.seq (.reg [⟨(some 5),.faddr 1 (.tmp 1),none⟩,ld 6 5,⟨(some 7),.bin .eql (.prim .slice) true (.tmp 6) (.const .nilslice),none⟩,mv 8 7,⟨(some 9),.faddr 0 (.tmp 1),(some (8,true))⟩,⟨(some 10),.load none (.tmp 9),(some (8,true))⟩,⟨(some 11),.bin .neq (.prim .int) true (.tmp 10) (.const (.int .i64 (-9223372036854775808))),(some (8,true))⟩,⟨(some 12),.pick (.tmp 8) (.tmp 11) (.const (.bool false)),none⟩])
 (.cond (.tmp 12)
 (.seq (.reg [⟨(some 13),.faddr 0 (.tmp 1),none⟩,ld 14 13,⟨(some 15),.un .neg (.tmp 14),none⟩,⟨(some 16),.build [(.int .i64 0),.nilslice] [(0,1,(.tmp 15))],none⟩,⟨none,.store 2 (.tmp 2) (.tmp 16),none⟩])
 (.ret))
 (.skip)))
 (.seq (.reg [⟨(some 18),.load (some 2) (.tmp 1),none⟩,⟨(some 19),.call (.const (.func 209 [] [])) [(.tmp 18)],none⟩,mv 17 19,xt 20 17 0,xt 21 17 1,mv 3 20,mv 4 21])
 (.seq (.reg [mv 22 3,⟨(some 23),.un .not (.tmp 22),none⟩,mv 24 4,⟨(some 25),.call (.const (.func 218 [] [])) [(.tmp 23),(.tmp 24)],none⟩,⟨none,.store 2 (.tmp 2) (.tmp 25),none⟩])
 (.ret))))
theorem A.c193:cFunc Tryz.prog 193=some ⟨26,[.cell 2 (some 2)],A.b193⟩:=by kernel_rfl
def A.k193{K Q f c args st}:=@A.kk 193 _ _ _ A.c193 rfl K Q f c args st
def A.b209:MCode:=.seq (.reg [⟨(some 1),.box 224 (.tmp 0),none⟩,⟨(some 2),.mov (.const (.bool false)),none⟩,⟨(some 3),.mov (.const .nilslice),none⟩])
 (.seq (.block 0 (.seq (.reg [⟨(some 5),.faddr 1 (.tmp 1),none⟩,ld 6 5,⟨(some 7),.bin .neq (.prim .slice) true (.tmp 6) (.const .nilslice),none⟩,mv 4 7])
 (.cond (.tmp 4)
 (.seq (.regD [⟨(some 8),.faddr 0 (.tmp 1),none⟩,ld 9 8,bc 10 .lss 9 0,⟨(some 11),.faddr 1 (.tmp 1),none⟩,ld 12 11,mv 2 10,mv 3 12] [0,1,3,0,8,7,63])
 (.ret))
 (.seq (.reg [⟨(some 14),.faddr 0 (.tmp 1),none⟩,ld 15 14,⟨(some 16),.bin .eql (.prim .int) true (.tmp 15) (.const (.int .i64 0)),none⟩,mv 13 16])
 (.cond (.tmp 13)
 (.seq (.reg [⟨(some 2),.mov (.const (.bool false)),none⟩,⟨(some 3),.mov (.const .nilslice),none⟩])
 (.ret))
 (.skip))))))
 (.seq (.regD [⟨(some 17),.faddr 0 (.tmp 1),none⟩,ld 18 17,bc 19 .lss 18 0,⟨(some 20),.faddr 0 (.tmp 1),none⟩,ld 21 20,⟨(some 22),.call (.const (.func 217 [] [])) [(.tmp 21)],none⟩,⟨(some 23),.bslice 299 1 1 [(.int .u64 0)] [(0,1,(.tmp 22))],none⟩,mv 2 19,mv 3 23] [0,1,3,0,8,24,56,63,255])
 (.ret)))
theorem A.c209:cFunc Tryz.prog 209=some ⟨24,[.tmp 2,.tmp 3],A.b209⟩:=by kernel_rfl
def A.k209{K Q f c args st}:=@A.kk 209 _ _ _ A.c209 rfl K Q f c args st
def A.b218:MCode:=.seq (.reg [⟨(some 4),.alloc [(.int .i64 0),.nilslice] 224,none⟩])
 (.seq (.block 0 (.seq (.reg [mv 6 1,ln 7 6,⟨(some 8),.bin .eql (.prim .int) true (.tmp 7) (.const (.int .i64 0)),none⟩,mv 5 8])
 (.cond (.tmp 5)
 (.seq (.reg [⟨(some 9),.build [(.int .i64 0),.nilslice] [],none⟩,⟨none,.store 2 (.tmp 4) (.tmp 9),none⟩])
 (.ret))
 (.seq (.reg [mv 11 1,ln 12 11,⟨(some 13),.bin .eql (.prim .int) true (.tmp 12) (.const (.int .i64 1)),none⟩,mv 14 13,⟨(some 15),.mov (.tmp 1),(some (14,true))⟩,⟨(some 16),.iaddrSl 1 (.tmp 15) (.const (.int .i64 0)),(some (14,true))⟩,⟨(some 17),.load none (.tmp 16),(some (14,true))⟩,⟨(some 18),.bin .leq (.node []) false (.tmp 17) (.const (.int .u64 9223372036854775807)),(some (14,true))⟩,⟨(some 19),.pick (.tmp 14) (.tmp 18) (.const (.bool false)),none⟩,mv 20 19,⟨(some 21),.mov (.tmp 0),(some (20,true))⟩,⟨(some 22),.pick (.tmp 20) (.tmp 21) (.const (.bool false)),none⟩,mv 10 22])
 (.cond (.tmp 10)
 (.seq (.reg [mv 23 1,⟨(some 24),.iaddrSl 1 (.tmp 23) (.const (.int .i64 0)),none⟩,ld 25 24,⟨(some 26),.convInt .i64 (.tmp 25),none⟩,⟨(some 27),.un .neg (.tmp 26),none⟩,⟨(some 28),.build [(.int .i64 0),.nilslice] [(0,1,(.tmp 27))],none⟩,⟨none,.store 2 (.tmp 4) (.tmp 28),none⟩])
 (.ret))
 (.seq (.reg [mv 30 1,ln 31 30,⟨(some 32),.bin .eql (.prim .int) true (.tmp 31) (.const (.int .i64 1)),none⟩,mv 33 32,⟨(some 34),.mov (.tmp 1),(some (33,true))⟩,⟨(some 35),.iaddrSl 1 (.tmp 34) (.const (.int .i64 0)),(some (33,true))⟩,⟨(some 36),.load none (.tmp 35),(some (33,true))⟩,⟨(some 37),.bin .leq (.node []) false (.tmp 36) (.const (.int .u64 9223372036854775807)),(some (33,true))⟩,⟨(some 38),.pick (.tmp 33) (.tmp 37) (.const (.bool false)),none⟩,mv 29 38])
 (.cond (.tmp 29)
 (.seq (.reg [mv 39 1,⟨(some 40),.iaddrSl 1 (.tmp 39) (.const (.int .i64 0)),none⟩,ld 41 40,⟨(some 42),.convInt .i64 (.tmp 41),none⟩,⟨(some 43),.build [(.int .i64 0),.nilslice] [(0,1,(.tmp 42))],none⟩,⟨none,.store 2 (.tmp 4) (.tmp 43),none⟩])
 (.ret))
 (.seq (.reg [mv 45 0,mv 44 45])
 (.cond (.tmp 44)
 (.seq (.reg [mv 46 1,⟨(some 47),.build [(.int .i64 0),.nilslice] [(0,1,(.const (.int .i64 (-1)))),(1,1,(.tmp 46))],none⟩,⟨none,.store 2 (.tmp 4) (.tmp 47),none⟩])
 (.ret))
 (.skip))))))))))
 (.seq (.reg [mv 48 1,⟨(some 49),.build [(.int .i64 0),.nilslice] [(0,1,(.const (.int .i64 1))),(1,1,(.tmp 48))],none⟩,⟨none,.store 2 (.tmp 4) (.tmp 49),none⟩])
 (.ret)))
theorem A.c218:cFunc Tryz.prog 218=some ⟨50,[.cell 4 (some 2)],A.b218⟩:=by kernel_rfl
def A.k218{K Q f c args st}:=@A.kk 218 _ _ _ A.c218 rfl K Q f c args st
def sgn(z:Int):Int:=if z<0 then -1 else 1
def In(h:T O)(N:Nat)(x:V)(z:Int):Prop:=
 (x=.agg [.int .i64 z,.nilslice]∧ -9223372036854775808≤z∧z<9223372036854775808)∨
 ∃i o l c,x=.agg [.int .i64 (sgn z),.slice i o l c 1]∧Wn h N (.slice i o l c 1) z.natAbs∧9223372036854775808≤z.natAbs
theorem In.keep{h h':T O}{N N':Nat}{x:V}{z:Int}(s:In h N x z)(k:Keeps h N h' N'):In h' N' x z:=by
 rcases s with s|⟨i,o,l,c,s1,s2,s3⟩
 ·exact .inl s
 ·exact .inr ⟨i,o,l,c,s1,s2.keep k,s3⟩
theorem In.small{h:T O}{N:Nat}{z:Int}(h1: -9223372036854775808≤z)(h2:z<9223372036854775808):In h N (.agg [.int .i64 z,.nilslice]) z:=.inl ⟨rfl,h1,h2⟩
theorem In.cells{h:T O}{N:Nat}{x:V}{z:Int}(s:In h N x z):∃n u,x=.agg [.int .i64 n,u]∧V.one u=true:=by
 rcases s with⟨rfl,_⟩|⟨i,o,l,c,rfl,_⟩
 ·exact⟨_,_,rfl,rfl⟩
 ·exact⟨_,_,rfl,rfl⟩
theorem In.nu{h:T O}{N:Nat}{n z:Int}{u:V}(s:In h N (.agg [.int .i64 n,u]) z):∀x∈[V.int .i64 n,u],∀m,x≠.int .u64 m:=by
 intro x hx m hc
 simp only[List.mem_cons,List.not_mem_nil,or_false]at hx
 rcases hx with rfl|rfl
 ·cases hc
 ·subst hc
  rcases s with⟨e,_⟩|⟨_,_,_,_,e,_⟩
  ·simp at e
  ·simp at e
theorem kset{h h1:T O}{n n1:Nat}(k:Keeps h n h1 n1)(o:O):Keeps h n (h1.set n1 o) (n1+1):=(k.set k.le).up (Nat.le_succ _)
def wl(z:Int):Nat:=(wds z.natAbs).length
theorem of_fn{z:Int}{h:T O}{N:Nat}:Fn A.C 154 [.int .i64 z] h N (fun v _ _=>v=.agg [.int .i64 z,.nilslice]):=by
 intro w
 rw[call_run,A.k154 (by simp)]
 simp(disch:=first|(simp;done)|omega|(simp only[dg_length,dgi_length,List.length_cons];omega)|rfl) [-getElem?_pos,A.b154,partV,slc,splice,Ret]
 exact(((Keeps.refl.set (Nat.le_refl N)).set (Nat.le_refl N)).up (Nat.le_succ N))
def sg3(z:Int):Int:=if z<0 then -1 else if z=0 then 0 else 1
theorem sign_fn{x:V}{z:Int}{h:T O}{N:Nat}(hx:In h N x z):Fn A.C 187 [x] h N (fun v _ _=>v=.int .i64 (sg3 z)):=by
 intro w
 rw[call_run,A.k187 (by simp)]
 rcases hx with⟨rfl,_⟩|⟨i,o,l,c,rfl,_,hz⟩
 ·obtain h1|h1|h1:z<0∨z=0∨0<z:=by omega
  ·have e1:z<1:=by omega
   have e2:¬ -1<z:=by omega
   simp(disch:=first|(simp;done)|omega|(simp only[dg_length,dgi_length,List.length_cons];omega)|rfl) [-getElem?_pos,A.b187,partV,slc,splice,Ret,op_mn,op_mx,minO,minF,maxO,maxF,h1,e1,e2,sg3]
   exact kset Keeps.refl _
  ·subst h1
   simp(disch:=first|(simp;done)|omega|(simp only[dg_length,dgi_length,List.length_cons];omega)|rfl) [-getElem?_pos,A.b187,partV,slc,splice,Ret,op_mn,op_mx,minO,minF,maxO,maxF,sg3]
   exact kset Keeps.refl _
  ·have e1:¬z<1:=by omega
   have e2:¬z<0:=by omega
   have e3:¬z=0:=by omega
   simp(disch:=first|(simp;done)|omega|(simp only[dg_length,dgi_length,List.length_cons];omega)|rfl) [-getElem?_pos,A.b187,partV,slc,splice,Ret,op_mn,op_mx,minO,minF,maxO,maxF,e1,e2,e3,sg3]
   exact kset Keeps.refl _
 ·by_cases h1:z<0
  ·simp(disch:=first|(simp;done)|omega|(simp only[dg_length,dgi_length,List.length_cons];omega)|rfl) [-getElem?_pos,A.b187,partV,slc,splice,Ret,op_mn,op_mx,minO,minF,maxO,maxF,sgn,sg3,h1]
   exact kset Keeps.refl _
  ·have e3:¬z=0:=by omega
   simp(disch:=first|(simp;done)|omega|(simp only[dg_length,dgi_length,List.length_cons];omega)|rfl) [-getElem?_pos,A.b187,partV,slc,splice,Ret,op_mn,op_mx,minO,minF,maxO,maxF,sgn,sg3,h1,e3]
   exact kset Keeps.refl _
theorem size_eq{z:Int}(hz: -9223372036854775808≤z)(hm:z<9223372036854775808){st:St}:A.C.call (.func 217 [] []) [.int .i64 z] st=some (.int .u64 (z.natAbs:Nat),st):=by
 apply Call.eq
 rw[call_run,A.k217 (by simp)]
 by_cases e1:z<0
 ·have e2:wrapF .u64 (IntKind.wrap .i64 (0-z))=(z.natAbs:Nat):=by
   rw[wrapF_u64_mod]
   by_cases e3:z= -9223372036854775808
   ·subst e3;decide
   ·rw[wrap_i64 (by omega) (by omega)];omega
  rw[Int.zero_sub]at e2
  simp(disch:=first|(simp;done)|omega|(simp only[dg_length,dgi_length,List.length_cons];omega)|rfl) [-getElem?_pos,A.b217,e1,e2]
 ·have e2:wrapF .u64 z=(z.natAbs:Nat):=by rw[wrapF_u64 (by omega) (by omega)];omega
  simp(disch:=first|(simp;done)|omega|(simp only[dg_length,dgi_length,List.length_cons];omega)|rfl) [-getElem?_pos,A.b217,e1,e2]
theorem wds_small{n:Nat}(h:n<B)(h0:n≠0):wds n=[n]:=by
 rw[wds_pos h0,Nat.div_eq_of_lt h,wds_zero,Nat.mod_eq_of_lt h]
theorem parts_fn{x:V}{z:Int}{h:T O}{N:Nat}(hx:In h N x z):Fn A.C 209 [x] h N (fun v h' n'=>∃u,v=.tup [.bool (decide (z<0)),u]∧Wn h' n' u z.natAbs):=by
 intro w
 rw[call_run,A.k209 (by simp)]
 rcases hx with⟨rfl,h1,h2⟩|⟨i,o,l,c,rfl,hw,hz⟩
 ·by_cases h0:z=0
  ·subst h0
   simp(disch:=first|(simp;done)|omega|(simp only[dg_length,dgi_length,List.length_cons];omega)|rfl) [-getElem?_pos,A.b209,partV,slc,splice,eqPrim,Ret]
   refine⟨kset Keeps.refl _,?_⟩
   unfold Wn;rw[wds_zero];exact Sl.nil
  ·have hs:=fun st=>size_eq h1 h2 (st:=st)
   have d1:¬N=N+1:=by omega
   simp(disch:=first|(simp;done)|omega|(simp only[dg_length,dgi_length,List.length_cons];omega)|rfl) [-getElem?_pos,A.b209,partV,slc,splice,eqPrim,h0,hs,Ret,pairsOk.chk]
   refine⟨kset (kset Keeps.refl _) _,?_⟩
   unfold Wn
   rw[wds_small (by unfold B;omega) (by omega)]
   exact Sl.row (e:=299) (rw:=true) (L:=1) (by omega) (by simp[dg]) (by simp) (by simp)
 ·have e1:(sgn z<0)=(z<0):=by unfold sgn;split<;>simp_all
  simp(disch:=first|(simp;done)|omega|(simp only[dg_length,dgi_length,List.length_cons];omega)|rfl) [-getElem?_pos,A.b209,partV,slc,splice,eqPrim,Ret,e1,pairsOk.chk]
  refine⟨kset Keeps.refl _,hw.keep (kset Keeps.refl _)⟩
theorem made_fn{u:V}{n:Nat}{b:Bool}{h:T O}{N:Nat}(hu:Wn h N u n)(hl:(wds n).length<1099511627776):Fn A.C 218 [.bool b,u] h N (fun v h' n'=>In h' n' v (if b=true then -(n:Int) else n)):=by
 intro w
 have lu:=hu.len
 rw[dg_length]at lu
 rw[call_run,A.k218 (by simp)]
 have kk:∀o1 o2:O,Keeps h N ((h.set N o1).set N o2) (N+1):=fun o1 o2=>(kset Keeps.refl o1).set (Nat.le_refl N)
 by_cases h0:n=0
 ·subst h0
  rw[wds_zero]at lu
  simp(disch:=first|(simp;done)|omega|(simp only[dg_length,dgi_length,List.length_cons];omega)|rfl) [-getElem?_pos,A.b218,lu,eqPrim,partV,slc,splice,Ret]
  refine⟨kk _ _,?_⟩
  have:(if b=true then -((0:Nat):Int) else ((0:Nat):Int))=0:=by split<;>rfl
  exact In.small (by omega) (by omega)
 ·by_cases h1:n<18446744073709551616
  ·rw[wds_small h1 h0]at lu
   obtain⟨i,o,c,e,rw,p1,p2,p3,p4⟩:=hu.at (dg_get (l:=wds n) (j:=0) (n:=n) (by rw[wds_small h1 h0];rfl))
   rw[Nat.add_zero]at p4
   have lu:lenV u=some 1:=lu
   have hne:¬i=N:=by omega
   by_cases h2:n≤9223372036854775807
   ·have h2':(n:Int)≤9223372036854775807:=by omega
    have w1:wrapF .i64 (n:Int)=n:=wrapF_i64 (by omega) (by omega)
    have w2:IntKind.wrap .i64 (-(n:Int))= -(n:Int):=wrap_i64 (by omega) (by omega)
    cases b
    ·simp(disch:=first|(simp;done)|omega|(simp only[dg_length,dgi_length,List.length_cons];omega)|rfl) [-getElem?_pos,A.b218,lu,eqPrim,p1,p3,p4,hne,h2',w1,partV,slc,splice,Ret]
     exact⟨kk _ _,In.small (by omega) (by omega)⟩
    ·simp(disch:=first|(simp;done)|omega|(simp only[dg_length,dgi_length,List.length_cons];omega)|rfl) [-getElem?_pos,A.b218,lu,eqPrim,p1,p3,p4,hne,h2',w1,w2,partV,slc,splice,Ret]
     exact⟨kk _ _,In.small (by omega) (by omega)⟩
   ·have h2':¬(n:Int)≤9223372036854775807:=by omega
    obtain⟨i2,o2,l2,c2,rfl⟩:∃i o l c,u=.slice i o l c 1:=by
     rcases hu with⟨hu,_⟩|⟨i,o,cp,c,e,rw,hu,_⟩
     ·rw[wds_small h1 h0]at hu;simp[dg]at hu
     ·exact⟨_,_,_,_,hu⟩
    cases b
    ·simp(disch:=first|(simp;done)|omega|(simp only[dg_length,dgi_length,List.length_cons];omega)|rfl) [-getElem?_pos,A.b218,lu,eqPrim,p1,p3,p4,hne,h2',partV,slc,splice,Ret]
     refine⟨kk _ _,.inr ⟨i2,o2,l2,c2,?_,hu.keep (kk _ _),?_⟩⟩
     ·simp[sgn]
     ·omega
    ·simp(disch:=first|(simp;done)|omega|(simp only[dg_length,dgi_length,List.length_cons];omega)|rfl) [-getElem?_pos,A.b218,lu,eqPrim,p1,p3,p4,hne,h2',partV,slc,splice,Ret]
     refine⟨kk _ _,.inr ⟨i2,o2,l2,c2,?_,?_,?_⟩⟩
     ·simp[sgn];omega
     ·simpa using hu.keep (kk _ _)
     ·omega
  ·have hl1:2≤(wds n).length:=by
    rw[wds_pos h0,wds_pos (by unfold B;omega)];simp
   have c0:¬((wds n).length:Int)=0:=by omega
   have c1:¬((wds n).length:Int)=1:=by omega
   have c2:¬(wds n).length=1:=by omega
   have c3:¬wds n=[]:=by intro h;rw[h]at hl1;simp at hl1
   rcases hu with⟨hu,_⟩|⟨i,o,cp,c,e,rw,rfl,hu⟩
   ·exfalso
    have:=congrArg List.length hu
    rw[dg_length]at this
    simp at this
    exact c3 this
   have hw:Wn h N (.slice i o (dg (wds n)).length cp 1) n:=.inr ⟨i,o,cp,c,e,rw,rfl,hu⟩
   rw[dg_length]at hw
   cases b
   ·simp(disch:=first|(simp;done)|omega|(simp only[dg_length,dgi_length,List.length_cons];omega)|rfl) [-getElem?_pos,A.b218,eqPrim,c0,c1,c2,c3,partV,slc,splice,Ret]
    refine⟨kk _ _,.inr ⟨i,o,(wds n).length,cp,?_,hw.keep (kk _ _),?_⟩⟩
    ·simp[sgn]
    ·omega
   ·simp(disch:=first|(simp;done)|omega|(simp only[dg_length,dgi_length,List.length_cons];omega)|rfl) [-getElem?_pos,A.b218,eqPrim,c0,c1,c2,c3,partV,slc,splice,Ret]
    refine⟨kk _ _,.inr ⟨i,o,(wds n).length,cp,?_,?_,?_⟩⟩
    ·simp[sgn];omega
    ·simpa using hw.keep (kk _ _)
    ·omega
theorem Sl.setNU{h:T O}{N:Nat}{v:V}{l:List Nat}{i:Nat}{c0 c1:List V}{e0 e1:TypeId}{w0 w1:Bool}(s:Sl h N v (dg l))(hr:h.get i=some (.cells c0 e0 w0))(hn:∀x∈c0,∀n,x≠.int .u64 n)(hc:c1.length=c0.length):Sl (h.set i (.cells c1 e1 w1)) N v (dg l):=by
 rcases s with s|⟨i',o,cp,c,e,rw,rfl,q1,q2,q3,q4,q5⟩
 ·exact .inl s
 ·by_cases hi:i'=i
  ·subst hi
   rw[hr]at q2
   simp only[Option.some.injEq,O.cells.injEq]at q2
   obtain⟨rfl,rfl,rfl⟩:=q2
   cases l with
   |nil=>
    refine .inr ⟨i',o,cp,c1,e1,w1,rfl,q1,by rw[T.get_set,if_pos rfl],?_,by simpa[hc]using q4,q5⟩
    intro j hj
    simp[dg]at hj
   |cons d l=>
    exfalso
    have:=q3 0 (by simp[dg])
    have hm:=List.mem_of_getElem? (l:=c0) (i:=o+0) (a:=.int .u64 d) (by rw[this];simp[dg])
    exact hn _ hm _ rfl
  ·exact .inr ⟨i',o,cp,c,e,rw,rfl,q1,by rw[T.get_set,if_neg hi];exact q2,q3,q4,q5⟩
theorem In.setNU{h:T O}{N:Nat}{x:V}{z:Int}{i:Nat}{c0 c1:List V}{e0 e1:TypeId}{w0 w1:Bool}(s:In h N x z)(hr:h.get i=some (.cells c0 e0 w0))(hn:∀x∈c0,∀n,x≠.int .u64 n)(hc:c1.length=c0.length):In (h.set i (.cells c1 e1 w1)) N x z:=by
 rcases s with s|⟨i',o,l,c,s1,s2,s3⟩
 ·exact .inl s
 ·exact .inr ⟨i',o,l,c,s1,Sl.setNU s2 hr hn hc,s3⟩
theorem neg_fn{x:V}{z:Int}{h:T O}{N:Nat}(hx:In h N x z)(hl:wl z<1000000000):Fn A.C 193 [x] h N (fun v h' n'=>In h' n' v (-z)):=by
 intro w
 rw[call_run,A.k193 (by simp)]
 have rest:∀{x:V},In h N x z→∀(h1:T O) (N1:Nat),Keeps h N h1 N1→Fn A.C 209 [x] h1 N1 (fun v h' n'=>∃u,v=.tup [.bool (decide (z<0)),u]∧Wn h' n' u z.natAbs):=fun hx h1 N1 k=>parts_fn (hx.keep k)
 have fin:∀{v h' n'},In h' n' v (if (!decide (z<0))=true then -(z.natAbs:Int) else z.natAbs)→In h' n' v (-z):=fun {v h' n'} q=>by
  have e:(if (!decide (z<0))=true then -(z.natAbs:Int) else (z.natAbs:Int))= -z:=by
   by_cases h:z<0<;>simp[h]<;>omega
  rw[e]at q;exact q
 by_cases hz:x=.agg [.int .i64 z,.nilslice]∧z≠ -9223372036854775808∧ -9223372036854775808≤z∧z<9223372036854775808
 ·obtain⟨rfl,h0,h1,h2⟩:=hz
  have w2:IntKind.wrap .i64 (-z)= -z:=wrap_i64 (by omega) (by omega)
  simp(disch:=first|(simp;done)|omega|(simp only[dg_length,dgi_length,List.length_cons];omega)|rfl) [-getElem?_pos,A.b193,partV,slc,splice,eqPrim,h0,w2,Ret]
  exact⟨(kset (kset Keeps.refl _) _).set (by omega),In.small (by omega) (by omega)⟩
 ·rcases id hx with⟨rfl,h1,h2⟩|⟨i,o,l,c,rfl,_⟩
  ·have h0:z= -9223372036854775808:=by
    apply Decidable.byContradiction
    intro hc
    exact hz ⟨rfl,hc,h1,h2⟩
   have hp:=rest hx _ _ (kset (kset Keeps.refl (.cells [.int .i64 z,.nilslice] 224 true)) (.cells [.int .i64 0,.nilslice] 224 true))
   subst h0
   simp(disch:=first|(simp;done)|omega|(simp only[dg_length,dgi_length,List.length_cons];omega)|rfl) [-getElem?_pos,A.b193,partV,slc,splice,eqPrim]
   refine run_fn hp ?_
   rintro _ h3 n3 k3 ⟨u,rfl,hu⟩
   have kle:=k3.le
   have g0:=k3.get (N+1) (by omega)
   simp at g0
   simp(disch:=first|(simp;done)|omega|(simp only[dg_length,dgi_length,List.length_cons];omega)|rfl) [-getElem?_pos,]
   refine run_fn (made_fn hu (by unfold wl at hl;omega)) ?_
   rintro v h4 n4 k4 hv
   have kle4:=k4.le
   have g1:=(k4.get (N+1) (by omega)).trans g0
   obtain⟨n5,u5,rfl,ho5⟩:=hv.cells
   unfold V.one at ho5
   simp(disch:=first|(simp;done)|omega|(simp only[dg_length,dgi_length,List.length_cons];omega)|rfl) [-getElem?_pos,g1,partV,slc,splice,storeK2,Ret,ho5]
   have kk:=(((kset (kset Keeps.refl _) _).trans k3).trans k4).set (h:=h) (n:=N) (i:=N+1) (o:=.cells [.int .i64 n5,u5] 224 true) (by omega)
   exact⟨kk,(fin hv).setNU g1 (by simp) rfl⟩
  ·have hp:=rest hx _ _ (kset (kset Keeps.refl (.cells [.int .i64 (sgn z),.slice i o l c 1] 224 true)) (.cells [.int .i64 0,.nilslice] 224 true))
   simp(disch:=first|(simp;done)|omega|(simp only[dg_length,dgi_length,List.length_cons];omega)|rfl) [-getElem?_pos,A.b193,partV,slc,splice,eqPrim]
   refine run_fn hp ?_
   rintro _ h3 n3 k3 ⟨u,rfl,hu⟩
   have kle:=k3.le
   have g0:=k3.get (N+1) (by omega)
   simp at g0
   simp(disch:=first|(simp;done)|omega|(simp only[dg_length,dgi_length,List.length_cons];omega)|rfl) [-getElem?_pos,]
   refine run_fn (made_fn hu (by unfold wl at hl;omega)) ?_
   rintro v h4 n4 k4 hv
   have kle4:=k4.le
   have g1:=(k4.get (N+1) (by omega)).trans g0
   obtain⟨n5,u5,rfl,ho5⟩:=hv.cells
   unfold V.one at ho5
   simp(disch:=first|(simp;done)|omega|(simp only[dg_length,dgi_length,List.length_cons];omega)|rfl) [-getElem?_pos,g1,partV,slc,splice,storeK2,Ret,ho5]
   have kk:=(((kset (kset Keeps.refl _) _).trans k3).trans k4).set (h:=h) (n:=N) (i:=N+1) (o:=.cells [.int .i64 n5,u5] 224 true) (by omega)
   exact⟨kk,(fin hv).setNU g1 (by simp) rfl⟩
end Go.Mx
