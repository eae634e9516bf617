/-
  num.Int: parts, made, Sign, Neg, Abs.
-/
import Derived.Test.YtlbophlgohokkaaGreatDoorNaD
import Derived.Test.YtlbophlgohokkaaGreatDoorRcI
set_option linter.all false
namespace Go.Mx
open Go Go.Proofs
variable {N n:Nat} {h:T O} {x:V} {z:Int}
set_option maxRecDepth 1000000
def A.b190:aq:=sr [⟨(some 2),.alloc [(.int .i64 0),.aa] 112,none⟩]
 (sr [mv 3 0,⟨(some 4),.build [(.int .i64 0),.aa] [(0,1,(.tmp 3))],none⟩,⟨none,.store 2 (.tmp 2) (.tmp 4),none⟩]
 (.ret))
theorem A.c190:A.F 190=some ⟨5,[.cell 2 (some 2)],A.b190⟩:=by kernel_rfl
def A.k190:=@A.kk 190 _ _ _ A.c190 rfl
def A.b199:aq:=sr [bx 1 112 0,mc 2 0]
 (sr [fa 3 0 1,ld 4 3,⟨(some 5),.mn [(.const (.int .i64 1)),(.tmp 4)],none⟩,⟨(some 6),.mx [(.const (.int .i64 (-1))),(.tmp 5)],none⟩,mv 2 6]
 (.ret))
theorem A.c199:A.F 199=some ⟨7,[.tmp 2],A.b199⟩:=by kernel_rfl
def A.k199:=@A.kk 199 _ _ _ A.c199 rfl
def A.b259:aq:=sr [bx 1 112 0,⟨(some 2),.alloc [(.int .i64 0),.aa] 112,none⟩]
 (.seq (sr [fa 3 0 1,ld 4 3,bc 5 .lss 4 0]
 (cd 5
 (sr [lN 6 2 1,c1 7 218 6,⟨none,.store 2 (.tmp 2) (.tmp 7),none⟩]
 (.ret))
 (.skip)))
 (sr [lN 8 2 1,⟨none,.store 2 (.tmp 2) (.tmp 8),none⟩]
 (.ret)))
theorem A.c259:A.F 259=some ⟨9,[.cell 2 (some 2)],A.b259⟩:=by kernel_rfl
def A.k259:=@A.kk 259 _ _ _ A.c259 rfl
def A.b221:aq:=sr [⟨(some 2),.aZ (.const (.int .u64 0)),none⟩]
 (.seq (sr [mv 3 0,bc 4 .lss 3 0]
 (cd 4
 (sr [mv 5 0,⟨(some 6),.un .neg (.tmp 5),none⟩,⟨(some 7),.ba .u64 (.tmp 6),none⟩,mv 2 7]
 (.ret))
 (.skip)))
 (sr [mv 8 0,⟨(some 9),.ba .u64 (.tmp 8),none⟩,mv 2 9]
 (.ret)))
theorem A.c221:A.F 221=some ⟨10,[.tmp 2],A.b221⟩:=by kernel_rfl
def A.k221:=@A.kk 221 _ _ _ A.c221 rfl
def A.b218:aq:=sr [bx 1 112 0,⟨(some 2),.alloc [(.int .i64 0),.aa] 112,none⟩]
 (.seq (sr [fa 5 1 1,ld 6 5,⟨(some 7),.bin .eql (.aH .slice) true (.tmp 6) (.const .aa),none⟩,mv 8 7,⟨(some 9),.ec 0 (.tmp 1),(some (8,true))⟩,⟨(some 10),.load none (.tmp 9),(some (8,true))⟩,⟨(some 11),.bin .neq (.aH .int) true (.tmp 10) (.const (.int .i64 (-9223372036854775808))),(some (8,true))⟩,pf 12 8 11]
 (cd 12
 (sr [fa 13 0 1,ld 14 13,⟨(some 15),.un .neg (.tmp 14),none⟩,⟨(some 16),.build [(.int .i64 0),.aa] [(0,1,(.tmp 15))],none⟩,⟨none,.store 2 (.tmp 2) (.tmp 16),none⟩]
 (.ret))
 (.skip)))
 (sr [lN 18 2 1,c1 19 222 18,mv 17 19,xt 20 17 0,xt 21 17 1,mv 3 20,mv 4 21]
 (sr [mv 22 3,⟨(some 23),.un .not (.tmp 22),none⟩,mv 24 4,c2 25 223 23 24,⟨none,.store 2 (.tmp 2) (.tmp 25),none⟩]
 (.ret))))
theorem A.c218:A.F 218=some ⟨26,[.cell 2 (some 2)],A.b218⟩:=by kernel_rfl
def A.k218:=@A.kk 218 _ _ _ A.c218 rfl
def A.b222:aq:=sr [bx 1 112 0,⟨(some 2),.aZ (.const (.bool false)),none⟩,mN 3]
 (.seq (.block 0 (sr [fa 5 1 1,ld 6 5,⟨(some 7),.bin .neq (.aH .slice) true (.tmp 6) (.const .aa),none⟩,mv 4 7]
 (cd 4
 (.seq (.aS [fa 8 0 1,ld 9 8,bc 10 .lss 9 0,fa 11 1 1,ld 12 11,mv 2 10,mv 3 12] [0,1,3,0,8,7,63])
 (.ret))
 (sr [fa 14 0 1,ld 15 14,ei 16 15 0,mv 13 16]
 (cd 13
 (sr [⟨(some 2),.aZ (.const (.bool false)),none⟩,mN 3]
 (.ret))
 (.skip))))))
 (.seq (.aS [fa 17 0 1,ld 18 17,bc 19 .lss 18 0,fa 20 0 1,ld 21 20,c1 22 221 21,⟨(some 23),.aY 214 1 1 [(.int .u64 0)] [(0,1,(.tmp 22))],none⟩,mv 2 19,mv 3 23] [0,1,3,0,8,24,56,63,255])
 (.ret)))
theorem A.c222:A.F 222=some ⟨24,[.tmp 2,.tmp 3],A.b222⟩:=by kernel_rfl
def A.k222:=@A.kk 222 _ _ _ A.c222 rfl
def A.b223:aq:=sr [⟨(some 4),.alloc [(.int .i64 0),.aa] 112,none⟩]
 (.seq (.block 0 (sr [mv 6 1,ln 7 6,ei 8 7 0,mv 5 8]
 (cd 5
 (sr [⟨(some 9),.build [(.int .i64 0),.aa] [],none⟩,⟨none,.store 2 (.tmp 4) (.tmp 9),none⟩]
 (.ret))
 (sr [mv 11 1,ln 12 11,ei 13 12 1,mv 14 13,mg 15 1 14,⟨(some 16),.aI 1 (.tmp 15) (.const (.int .i64 0)),(some (14,true))⟩,⟨(some 17),.load none (.tmp 16),(some (14,true))⟩,⟨(some 18),.bin .leq (.node []) false (.tmp 17) (.const (.int .u64 9223372036854775807)),(some (14,true))⟩,pf 19 14 18,mv 20 19,mg 21 0 20,pf 22 20 21,mv 10 22]
 (cd 10
 (sr [mv 23 1,⟨(some 24),.aI 1 (.tmp 23) (.const (.int .i64 0)),none⟩,ld 25 24,⟨(some 26),.ba .i64 (.tmp 25),none⟩,⟨(some 27),.un .neg (.tmp 26),none⟩,⟨(some 28),.build [(.int .i64 0),.aa] [(0,1,(.tmp 27))],none⟩,⟨none,.store 2 (.tmp 4) (.tmp 28),none⟩]
 (.ret))
 (sr [mv 30 1,ln 31 30,ei 32 31 1,mv 33 32,mg 34 1 33,⟨(some 35),.aI 1 (.tmp 34) (.const (.int .i64 0)),(some (33,true))⟩,⟨(some 36),.load none (.tmp 35),(some (33,true))⟩,⟨(some 37),.bin .leq (.node []) false (.tmp 36) (.const (.int .u64 9223372036854775807)),(some (33,true))⟩,pf 38 33 37,mv 29 38]
 (cd 29
 (sr [mv 39 1,⟨(some 40),.aI 1 (.tmp 39) (.const (.int .i64 0)),none⟩,ld 41 40,⟨(some 42),.ba .i64 (.tmp 41),none⟩,⟨(some 43),.build [(.int .i64 0),.aa] [(0,1,(.tmp 42))],none⟩,⟨none,.store 2 (.tmp 4) (.tmp 43),none⟩]
 (.ret))
 (sr [mv 45 0,mv 44 45]
 (cd 44
 (sr [mv 46 1,⟨(some 47),.build [(.int .i64 0),.aa] [(0,1,(.const (.int .i64 (-1)))),(1,1,(.tmp 46))],none⟩,⟨none,.store 2 (.tmp 4) (.tmp 47),none⟩]
 (.ret))
 (.skip))))))))))
 (sr [mv 48 1,⟨(some 49),.build [(.int .i64 0),.aa] [(0,1,(.const (.int .i64 1))),(1,1,(.tmp 48))],none⟩,⟨none,.store 2 (.tmp 4) (.tmp 49),none⟩]
 (.ret)))
theorem A.c223:A.F 223=some ⟨50,[.cell 4 (some 2)],A.b223⟩:=by kernel_rfl
def A.k223:=@A.kk 223 _ _ _ A.c223 rfl
def sZ(z:Int):Int:=if z<0 then -1 else 1
def In(h:T O)(N:Nat)(x:V)(z:Int):Prop:=
 (x=.agg [.int .i64 z,.aa]/\ -9223372036854775808<=z/\z<9223372036854775808)\/
 ∃i o l c,x=.agg [.int .i64 (sZ z),.slice i o l c 1]/\Wn h N (.slice i o l c 1) z.natAbs/\9223372036854775808<=z.natAbs
theorem In.ad{h':T O}{N':Nat}(s:In h N x z)(k:ab h N h' N'):In h' N' x z:=by
 rcases s with s|⟨i,o,l,c,s1,s2,s3⟩
 ·exact .inl s
 ·exact .inr ⟨i,o,l,c,s1,s2.ad k,s3⟩
theorem In.small(h1: -9223372036854775808<=z)(h2:z<9223372036854775808):In h N (.agg [.int .i64 z,.aa]) z:=.inl ⟨rfl,h1,h2⟩
theorem In.cells(s:In h N x z):∃n u,x=.agg [.int .i64 n,u]/\V.one u=true:=by
 rcases s with⟨rfl,_⟩|⟨i,o,l,c,rfl,_⟩
 ·exact⟨_,_,rfl,rfl⟩
 ·exact⟨_,_,rfl,rfl⟩
theorem In.nu{n:Int}{u:V}(s:In h N (.agg [.int .i64 n,u]) z):∀x∈[V.int .i64 n,u],∀m,x≠.int .u64 m:=by
 intro x hx m hc
 simp only[jN,List.not_mem_nil,or_false]at hx
 rcases hx with rfl|rfl
 ·cases hc
 ·subst hc
  rcases s with⟨e,_⟩|⟨_,_,_,_,e,_⟩
  ·simp at e
  ·simp at e
theorem aJ{h1:T O}{n1:Nat}(k:ab h n h1 n1)(o:O):ab h n (h1.set n1 o) (n1+1):=(k.set k.le).up (sN _)
def wl(z:Int):Nat:=(aD z.natAbs).length
theorem CD:Fn A.C 190 [.int .i64 z] h N (fun v _ _=>v=.agg [.int .i64 z,.aa]):=by
 intro w
 rw[aP,A.k190 (by simp)]
 simp[A.b190,aO,aM,ag,aA]
 exact(((ab.refl.set (aV N)).set (aV N)).up (sN N))
def dK(z:Int):Int:=if z<0 then -1 else if z=0 then 0 else 1
theorem CE(hx:In h N x z):Fn A.C 199 [x] h N (fun v _ _=>v=.int .i64 (dK z)):=by
 intro w
 rw[aP,A.k199 (by simp)]
 rcases hx with⟨rfl,_⟩|⟨i,o,l,c,rfl,_,hz⟩
 ·obtain h1|h1|h1:z<0\/z=0\/0<z:=by omega
  ·have e1:z<1:=by omega
   have e2:¬ -1<z:=by omega
   simp[A.b199,aO,aA,tG,np,yb,sO,wU,tE,h1,e1,e2,dK]
   exact aJ ab.refl _
  ·subst h1
   simp[A.b199,aO,aA,tG,np,yb,sO,wU,tE,dK]
   exact aJ ab.refl _
  ·have e1:¬z<1:=by omega
   have e2:¬z<0:=by omega
   have e3:¬z=0:=by omega
   simp[A.b199,aO,aA,tG,np,yb,sO,wU,tE,e1,e2,e3,dK]
   exact aJ ab.refl _
 ·by_cases h1:z<0
  ·simp[A.b199,aO,aA,tG,np,yb,sO,wU,tE,sZ,dK,h1]
   exact aJ ab.refl _
  ·have e3:¬z=0:=by omega
   simp[A.b199,aO,aA,tG,np,yb,sO,wU,tE,sZ,dK,h1,e3]
   exact aJ ab.refl _
theorem QK(hz: -9223372036854775808<=z)(hm:z<9223372036854775808){st:St}:A.C.call (.func 221 [] []) [.int .i64 z] st=some (.int .u64 (z.natAbs:Nat),st):=by
 apply Call.eq
 rw[aP,A.k221 (by simp)]
 by_cases e1:z<0
 ·have e2:bk .u64 (IntKind.wrap .i64 (0-z))=(z.natAbs:Nat):=by
   rw[EI]
   by_cases e3:z= -9223372036854775808
   ·subst e3;decide
   ·rw[FV (by omega) (by omega)];omega
  rw[Int.zero_sub]at e2
  simp[A.b221,e1,e2]
 ·have e2:bk .u64 z=(z.natAbs:Nat):=by rw[Av (by omega) (by omega)];omega
  simp[A.b221,e1,e2]
theorem CF(h:n<B)(h0:n≠0):aD n=[n]:=by
 rw[j0 h0,uK h,nG,sK h]
theorem yV(hx:In h N x z):Fn A.C 222 [x] h N (fun v h' n'=>∃u,v=.bb [.bool (decide (z<0)),u]/\Wn h' n' u z.natAbs):=by
 intro w
 rw[aP,A.k222 (by simp)]
 rcases hx with⟨rfl,h1,h2⟩|⟨i,o,l,c,rfl,hw,hz⟩
 ·by_cases h0:z=0
  ·subst h0
   simp[A.b222,aO,dM,aA]
   refine⟨aJ ab.refl _,?_⟩
   unfold Wn;rw[nG];exact Sl.nil
  ·have hs:=fun st=>QK h1 h2 (st:=st)
   have d1:¬N=N+1:=by omega
   simp[A.b222,aO,ag,dM,h0,hs,aA,dn.dp]
   refine⟨aJ (aJ ab.refl _) _,?_⟩
   unfold Wn
   rw[CF (by unfold B;omega) (by omega)]
   exact Sl.row (e:=214) (rw:=true) (L:=1) (by omega) (by simp[dg]) (by simp) (by simp)
 ·have e1:(sZ z<0)=(z<0):=by unfold sZ;split<;>simp_all
  simp[A.b222,aO,dM,aA,e1,dn.dp]
  refine⟨aJ ab.refl _,hw.ad (aJ ab.refl _)⟩
theorem AI{u:V}{b:Bool}(hu:Wn h N u n)(hl:(aD n).length<1099511627776):Fn A.C 223 [.bool b,u] h N (fun v h' n'=>In h' n' v (if b=true then -(n:Int) else n)):=by
 intro w
 have lu:=hu.len
 rw[bC]at lu
 rw[aP,A.k223 (by simp)]
 have kk:∀o1 o2:O,ab h N ((h.set N o1).set N o2) (N+1):=fun o1 o2=>(aJ ab.refl o1).set (aV N)
 by_cases h0:n=0
 ·subst h0
  rw[nG]at lu
  simp[A.b223,lu,aO,aM,ag,aA]
  refine⟨kk _ _,?_⟩
  have:(if b=true then -((0:Nat):Int) else ((0:Nat):Int))=0:=by split<;>rfl
  exact In.small (by omega) (by omega)
 ·by_cases h1:n<18446744073709551616
  ·rw[CF h1 h0]at lu
   obtain⟨i,o,c,e,rw,p1,p2,p3,p4⟩:=hu.at (eP (l:=aD n) (j:=0) (n:=n) (by rw[CF h1 h0];rfl))
   rw[jR]at p4
   have lu:kq u=some 1:=lu
   have bA:¬i=N:=by omega
   by_cases h2:n<=9223372036854775807
   ·have jF:(n:Int)<=9223372036854775807:=by omega
    have w1:bk .i64 (n:Int)=n:=ct (by omega) (by omega)
    have w2:IntKind.wrap .i64 (-(n:Int))= -(n:Int):=FV (by omega) (by omega)
    cases b
    ·simp[A.b223,lu,p1,p3,p4,bA,jF,w1,aO,aM,ag,aA]
     exact⟨kk _ _,In.small (by omega) (by omega)⟩
    ·simp[A.b223,lu,p1,p3,p4,bA,jF,w1,w2,aO,aM,ag,aA]
     exact⟨kk _ _,In.small (by omega) (by omega)⟩
   ·have jF:¬(n:Int)<=9223372036854775807:=by omega
    obtain⟨i2,o2,l2,c2,rfl⟩:∃i o l c,u=.slice i o l c 1:=by
     rcases hu with⟨hu,_⟩|⟨i,o,cp,c,e,rw,hu,_⟩
     ·rw[CF h1 h0]at hu;simp[dg]at hu
     ·exact⟨_,_,_,_,hu⟩
    cases b
    ·simp[A.b223,lu,p1,p3,p4,bA,jF,aO,aM,ag,aA]
     refine⟨kk _ _,.inr ⟨i2,o2,l2,c2,?_,hu.ad (kk _ _),?_⟩⟩
     ·simp[sZ]
     ·omega
    ·simp[A.b223,lu,p1,p3,p4,bA,jF,aO,aM,ag,aA]
     refine⟨kk _ _,.inr ⟨i2,o2,l2,c2,?_,?_,?_⟩⟩
     ·simp[sZ];omega
     ·simpa using hu.ad (kk _ _)
     ·omega
  ·have B4:2<=(aD n).length:=by
    rw[j0 h0,j0 (by unfold B;omega)];simp
   have c0:¬((aD n).length:Int)=0:=by omega
   have c1:¬((aD n).length:Int)=1:=by omega
   have c2:¬(aD n).length=1:=by omega
   have c3:¬aD n=[]:=by intro h;rw[h]at B4;simp at B4
   rcases hu with⟨hu,_⟩|⟨i,o,cp,c,e,rw,rfl,hu⟩
   ·exfalso
    have:=congrArg List.length hu
    rw[bC]at this
    simp at this
    exact c3 this
   have hw:Wn h N (.slice i o (dg (aD n)).length cp 1) n:=.inr ⟨i,o,cp,c,e,rw,rfl,hu⟩
   rw[bC]at hw
   cases b
   ·simp[A.b223,c1,c3,aO,aM,ag,aA]
    refine⟨kk _ _,.inr ⟨i,o,(aD n).length,cp,?_,hw.ad (kk _ _),?_⟩⟩
    ·simp[sZ]
    ·omega
   ·simp[A.b223,c1,c3,aO,aM,ag,aA]
    refine⟨kk _ _,.inr ⟨i,o,(aD n).length,cp,?_,?_,?_⟩⟩
    ·simp[sZ];omega
    ·simpa using hw.ad (kk _ _)
    ·omega
theorem Sl.aE{v:V}{l:List Nat}{i:Nat}{c0 c1:List V}{e0 e1:TypeId}{w0 w1:Bool}(s:Sl h N v (dg l))(hr:h.get i=some (.cells c0 e0 w0))(hn:∀x∈c0,∀n,x≠.int .u64 n)(hc:c1.length=c0.length):Sl (h.set i (.cells c1 e1 w1)) N v (dg l):=by
 rcases s with s|⟨i',o,cp,c,e,rw,rfl,q1,q2,q3,q4,q5⟩
 ·exact .inl s
 ·by_cases hi:i'=i
  ·subst hi
   rw[hr]at q2
   simp only[ai,O.cells.injEq]at q2
   obtain⟨rfl,rfl,rfl⟩:=q2
   cases l with
   |nil=>
    refine .inr ⟨i',o,cp,c1,e1,w1,rfl,q1,by rw[T.ah,aF rfl],?_,by simpa[hc]using q4,q5⟩
    intro j hj
    simp[dg]at hj
   |cons d l=>
    exfalso
    have:=q3 0 (by simp[dg])
    have hm:=cm (l:=c0) (i:=o+0) (a:=.int .u64 d) (by rw[this];simp[dg])
    exact hn _ hm _ rfl
  ·exact .inr ⟨i',o,cp,c,e,rw,rfl,q1,by rw[T.ah,ar hi];exact q2,q3,q4,q5⟩
theorem In.aE{i:Nat}{c0 c1:List V}{e0 e1:TypeId}{w0 w1:Bool}(s:In h N x z)(hr:h.get i=some (.cells c0 e0 w0))(hn:∀x∈c0,∀n,x≠.int .u64 n)(hc:c1.length=c0.length):In (h.set i (.cells c1 e1 w1)) N x z:=by
 rcases s with s|⟨i',o,l,c,s1,s2,s3⟩
 ·exact .inl s
 ·exact .inr ⟨i',o,l,c,s1,Sl.aE s2 hr hn hc,s3⟩
theorem Dj(hx:In h N x z)(hl:wl z<1000000000):Fn A.C 218 [x] h N (fun v h' n'=>In h' n' v (-z)):=by
 intro w
 rw[aP,A.k218 (by simp)]
 have rest:∀{x:V},In h N x z->∀(h1:T O) (N1:Nat),ab h N h1 N1->Fn A.C 222 [x] h1 N1 (fun v h' n'=>∃u,v=.bb [.bool (decide (z<0)),u]/\Wn h' n' u z.natAbs):=fun hx h1 N1 k=>yV (hx.ad k)
 have fin:∀{v h' n'},In h' n' v (if (!decide (z<0))=true then -(z.natAbs:Int) else z.natAbs)->In h' n' v (-z):=fun {v h' n'} q=>by
  have e:(if (!decide (z<0))=true then -(z.natAbs:Int) else (z.natAbs:Int))= -z:=by
   by_cases h:z<0<;>simp[h]<;>omega
  rw[e]at q;exact q
 by_cases hz:x=.agg [.int .i64 z,.aa]/\z≠ -9223372036854775808/\ -9223372036854775808<=z/\z<9223372036854775808
 ·obtain⟨rfl,h0,h1,h2⟩:=hz
  have w2:IntKind.wrap .i64 (-z)= -z:=FV (by omega) (by omega)
  simp[A.b218,aO,aM,ag,dM,h0,w2,aA]
  exact⟨(aJ (aJ ab.refl _) _).set (by omega),In.small (by omega) (by omega)⟩
 ·rcases id hx with⟨rfl,h1,h2⟩|⟨i,o,l,c,rfl,_⟩
  ·have h0:z= -9223372036854775808:=by
    apply Decidable.byContradiction
    intro hc
    exact hz ⟨rfl,hc,h1,h2⟩
   have hp:=rest hx _ _ (aJ (aJ ab.refl (.cells [.int .i64 z,.aa] 112 true)) (.cells [.int .i64 0,.aa] 112 true))
   subst h0
   simp[A.b218,aO,aM,dM]
   refine ax hp ?_
   rintro _ h3 n3 k3 ⟨u,rfl,hu⟩
   have rS:=k3.le
   have g0:=k3.get (N+1) (by omega)
   simp at g0
   simp[]
   refine ax (AI hu (by unfold wl at hl;omega)) ?_
   rintro v h4 n4 k4 hv
   have pk:=k4.le
   have g1:=(k4.get (N+1) (by omega)).trans g0
   obtain⟨n5,u5,rfl,iw⟩:=hv.cells
   unfold V.one at iw
   simp[g1,aO,aM,ag,bL,aA,iw]
   have kk:=(((aJ (aJ ab.refl _) _).trans k3).trans k4).set (h:=h) (n:=N) (i:=N+1) (o:=.cells [.int .i64 n5,u5] 112 true) (by omega)
   exact⟨kk,(fin hv).aE g1 (by simp) rfl⟩
  ·have hp:=rest hx _ _ (aJ (aJ ab.refl (.cells [.int .i64 (sZ z),.slice i o l c 1] 112 true)) (.cells [.int .i64 0,.aa] 112 true))
   simp[A.b218,aO,aM,dM]
   refine ax hp ?_
   rintro _ h3 n3 k3 ⟨u,rfl,hu⟩
   have rS:=k3.le
   have g0:=k3.get (N+1) (by omega)
   simp at g0
   simp[]
   refine ax (AI hu (by unfold wl at hl;omega)) ?_
   rintro v h4 n4 k4 hv
   have pk:=k4.le
   have g1:=(k4.get (N+1) (by omega)).trans g0
   obtain⟨n5,u5,rfl,iw⟩:=hv.cells
   unfold V.one at iw
   simp[g1,aO,aM,ag,bL,aA,iw]
   have kk:=(((aJ (aJ ab.refl _) _).trans k3).trans k4).set (h:=h) (n:=N) (i:=N+1) (o:=.cells [.int .i64 n5,u5] 112 true) (by omega)
   exact⟨kk,(fin hv).aE g1 (by simp) rfl⟩
variable {q:Rat}
def A.b94:aq:=sr [mc 2 0]
 (.seq (sr [mv 3 0,⟨(some 4),.bin .eql (.aH .str) true (.tmp 3) (.const (.str [48])),none⟩]
 (cd 4
 (sr [mc 2 0]
 (.ret))
 (.skip)))
 (.seq (sr [mv 5 0,⟨(some 6),.len 0 (.tmp 5),none⟩,bc 7 .gtr 6 0,mv 8 7,mg 9 0 8,⟨(some 10),.aQ (.tmp 9) (.const (.int .i64 0)),(some (8,true))⟩,⟨(some 11),.bin .eql (.aH .int) true (.tmp 10) (.const (.int .u8 45)),(some (8,true))⟩,pf 12 8 11]
 (cd 12
 (sr [⟨(some 2),.aZ (.const (.int .i64 (-1))),none⟩]
 (.ret))
 (.skip)))
 (sr [mc 2 1]
 (.ret))))
theorem A.c94:A.F 94=some ⟨13,[.tmp 2],A.b94⟩:=by kernel_rfl
def A.k94:=@A.kk 94 _ _ _ A.c94 rfl
def A.b130:aq:=sr [⟨(some 2),.aZ (.const (.str [])),none⟩]
 (.seq (sr [mv 3 0,c1 4 94 3,bc 5 .lss 4 0]
 (cd 5
 (sr [mv 6 0,⟨(some 7),.az (.tmp 6) (some (.const (.int .i64 1))) none,none⟩,mv 2 7]
 (.ret))
 (.skip)))
 (.seq (sr [mv 8 0,c1 9 94 8,ei 10 9 0]
 (cd 10
 (sr [mv 11 0,mv 2 11]
 (.ret))
 (.skip)))
 (sr [mv 12 0,⟨(some 13),.bin .add (.node []) false (.const (.str [45])) (.tmp 12),none⟩,mv 2 13]
 (.ret))))
theorem A.c130:A.F 130=some ⟨14,[.tmp 2],A.b130⟩:=by kernel_rfl
def A.k130:=@A.kk 130 _ _ _ A.c130 rfl
def A.b129:aq:=sr [⟨(some 2),.aZ (.const (.str [])),none⟩]
 (sr [mv 6 0,c1 7 160 6,mv 5 7,xt 8 5 0,xt 9 5 1,⟨(some 3),.alloc [(.bool false),.aa] 175,none⟩,⟨(some 4),.alloc [(.bool false),.aa] 175,none⟩,⟨none,.store 2 (.tmp 3) (.tmp 8),none⟩,⟨none,.store 2 (.tmp 4) (.tmp 9),none⟩]
 (sr [lN 10 2 4,lN 11 2 3,c2 12 164 10 11,mv 2 12]
 (.ret)))
theorem A.c129:A.F 129=some ⟨13,[.tmp 2],A.b129⟩:=by kernel_rfl
def A.k129:=@A.kk 129 _ _ _ A.c129 rfl
def A.b110:aq:=sr [mc 2 0]
 (.seq (sr [mv 3 0,c1 4 175 3,c1 5 174 4,⟨(some 6),.len 0 (.tmp 5),none⟩,bc 7 .gtr 6 600,mv 8 7,mh 9 0 8,⟨(some 10),.call (.const (.func 176 [] [])) [(.tmp 9)],(some (8,false))⟩,⟨(some 11),.len 0 (.tmp 10),(some (8,false))⟩,⟨(some 12),.bin .gtr (.node []) false (.tmp 11) (.const (.int .i64 600)),(some (8,false))⟩,pt 13 8 12]
 (cd 13
 (sr [mc 2 4]
 (.ret))
 (.skip)))
 (sr [mc 2 0]
 (.ret)))
theorem A.c110:A.F 110=some ⟨14,[.tmp 2],A.b110⟩:=by kernel_rfl
def A.k110:=@A.kk 110 _ _ _ A.c110 rfl
def A.b175:aq:=sr [⟨(some 2),.aZ (.const (.str [])),none⟩]
 (sr [mv 3 0,mv 4 0,c1 5 158 4,⟨(some 6),.az (.tmp 3) none (some (.tmp 5)),none⟩,mv 2 6]
 (.ret))
theorem A.c175:A.F 175=some ⟨7,[.tmp 2],A.b175⟩:=by kernel_rfl
def A.k175:=@A.kk 175 _ _ _ A.c175 rfl
def A.b176:aq:=sr [⟨(some 2),.aZ (.const (.str [])),none⟩]
 (sr [mv 4 0,c1 5 158 4,mv 3 5]
 (.seq (sr [mv 6 3,mv 7 0,⟨(some 8),.len 0 (.tmp 7),none⟩,⟨(some 9),.bin .eql (.aH .int) false (.tmp 6) (.tmp 8),none⟩]
 (cd 9
 (sr [⟨(some 2),.aZ (.const (.str [49])),none⟩]
 (.ret))
 (.skip)))
 (sr [mv 10 0,mv 11 3,bc 12 .add 11 1,⟨(some 13),.az (.tmp 10) (some (.tmp 12)) none,none⟩,mv 2 13]
 (.ret))))
theorem A.c176:A.F 176=some ⟨14,[.tmp 2],A.b176⟩:=by kernel_rfl
def A.k176:=@A.kk 176 _ _ _ A.c176 rfl
def A.b174:aq:=sr [⟨(some 2),.aZ (.const (.str [])),none⟩]
 (.seq (sr [mv 3 0,c1 4 94 3,bc 5 .lss 4 0]
 (cd 5
 (sr [mv 6 0,⟨(some 7),.az (.tmp 6) (some (.const (.int .i64 1))) none,none⟩,mv 2 7]
 (.ret))
 (.skip)))
 (sr [mv 8 0,mv 2 8]
 (.ret)))
theorem A.c174:A.F 174=some ⟨9,[.tmp 2],A.b174⟩:=by kernel_rfl
def A.k174:=@A.kk 174 _ _ _ A.c174 rfl
def A.b121:aq:=sr [⟨(some 2),.aZ (.const (.bool false)),none⟩]
 (sr [mv 3 0,⟨(some 4),.bin .eql (.aH .str) true (.tmp 3) (.const (.str [48])),none⟩,mv 2 4]
 (.ret))
theorem A.c121:A.F 121=some ⟨5,[.tmp 2],A.b121⟩:=by kernel_rfl
def A.k121:=@A.kk 121 _ _ _ A.c121 rfl
theorem Xd:aN 0=[48]:=by decide+kernel
theorem Xe:aN q=[48]↔q=0:=⟨fun h=>Ye1 (h.trans Xd.symm),fun h=>by rw[h,Xd]⟩
theorem Te{st:St}:A.C.call (.func 121 [] []) [.str (aN q)] st=some (.bool (decide (q=0)),st):=by
 have e:(aN q==[48])=decide (q=0):=by rw[Bool.eq_iff_iff,beq_iff_eq,decide_eq_true_eq];exact Xe
 apply Call.eq
 rw[aP,A.k121 (by simp)]
 simp[A.b121,fM,e]
theorem wv:q.num=0↔q=0:=Rat.num_eq_zero
theorem Yju(q:Rat):0<(aN q).length:=by
 obtain⟨c,t,h,_⟩:=QL q
 rw[xy,h]
 split<;>simp
theorem Ye0(q:Rat):∃c,(aN q)[0]?=some c/\(aN q).head?=some c/\(cE c=45↔q.num<0):=by
 obtain⟨c,t,h,h1⟩:=QL q
 by_cases hz:q.num<0
 ·refine⟨45,?_,?_,?_⟩
  ·rw[xy,aF hz];rfl
  ·rw[xy,aF hz];rfl
  ·exact⟨fun _=>hz,fun _=>rfl⟩
 ·refine⟨c,?_,?_,?_⟩
  ·rw[xy,ar hz,h];rfl
  ·rw[xy,ar hz,h];rfl
  ·exact⟨fun h2=>by unfold cE at h2;omega,fun h2=>absurd h2 hz⟩
theorem Xf{st:St}:A.C.call (.func 94 [] []) [.str (aN q)] st=some (.int .i64 (dK q.num),st):=by
 have e:(aN q==[48])=decide (q=0):=by rw[Bool.eq_iff_iff,beq_iff_eq,decide_eq_true_eq];exact Xe
 obtain⟨c,h1,h2,h3⟩:=Ye0 q
 have hp:=Yju q
 have Np:(0:Int)<((aN q).length:Int):=by omega
 have bA:aN q≠[]:=fun hc=>by rw[hc]at hp;simp at hp
 apply Call.eq
 rw[aP,A.k94 (by simp)]
 by_cases h0:q=0
 ·have hn:q.num=0:=wv.2 h0
  have hs:dK q.num=0:=by rw[hn];rfl
  have e0:(aN q==[48])=true:=by rw[e];simp[h0]
  rw[hs]
  simp(disch:=first|(simp;done)|omega|rfl) [-getElem?_pos,A.b94,fM,e0]
 ·have hn:q.num≠0:=fun hc=>h0 (wv.1 hc)
  by_cases hz:q.num<0
  ·have hs:dK q.num= -1:=by unfold dK;rw[aF hz]
   have hc:=h3.2 hz
   rw[hs]
   simp(disch:=first|(simp;done)|omega|rfl) [-getElem?_pos,A.b94,fM,e,h0,hp,h1,hc]
  ·have hs:dK q.num=1:=by unfold dK;rw[ar hz,ar hn]
   have hc:¬cE c=45:=fun hc=>hz (h3.1 hc)
   rw[hs]
   simp(disch:=first|(simp;done)|omega|rfl) [-getElem?_pos,A.b94,fM,e,h0,hp,h1,hc]
theorem Ypm(q:Rat):QB (-q)=QB q:=by
 unfold QB
 rw[Rat.neg_den,Rat.neg_num,sq]
theorem Tj{st:St}(hl:(aN q).length<1000000):A.C.call (.func 130 [] []) [.str (aN q)] st=some (.str (aN (-q)),st):=by
 have hs:=fun st=>Xf (q:=q) (st:=st)
 have dh:IntKind.max .i64=9223372036854775807:=rfl
 apply Call.eq
 rw[aP,A.k130 (by simp)]
 have eF:=xy (-q)
 rw[Ypm,Rat.neg_num]at eF
 by_cases hz:q.num<0
 ·have e1:aN q=45::QB q:=by rw[xy,aF hz]
  have e2:aN (-q)=QB q:=by rw[eF,ar (by omega)]
  have e3:dK q.num= -1:=by unfold dK;rw[aF hz]
  rw[e1,e3]at hs
  have a3:∀st:St,ph st (some (.str (45::QB q))) (some (some (.int .i64 1))) (some none)=some (.str (QB q),st):=fun st=>by rw[Cq (by omega) (by simp only[bq];omega)];rfl
  rw[e1,e2]
  simp[A.b130,hs,ay,a3]
 ·by_cases h0:q=0
  ·have e3:dK q.num=0:=by rw[wv.2 h0];rfl
   rw[e3]at hs
   have e4: -q=q:=by rw[h0];rfl
   rw[e4]
   simp[A.b130,hs]
  ·have hn:q.num≠0:=fun hc=>h0 (wv.1 hc)
   have e1:aN q=QB q:=by rw[xy,ar hz]
   have e2:aN (-q)=45::QB q:=by rw[eF,aF (by omega)]
   have e3:dK q.num=1:=by unfold dK;rw[ar hz,ar hn]
   rw[e3]at hs
   rw[e1]at hs hl
   have hb:¬(9223372036854775807:Int)<1+((QB q).length:Int):=by omega
   rw[e2,e1]
   simp[A.b130,hs,fM,dh,hb]
theorem M3(q:Rat):q⁻¹=Rat.divInt (q.den:Int) q.num:=Rat.inv_def q
theorem Ykk{k:Nat}{h:T O}{N:Nat}(hq:Qb k q)(hk:k<=400000)(h0:q≠0):Fn A.C 129 [.str (aN q)] h N (fun u _ _=>u=.str (aN q⁻¹)):=by
 intro w
 have la:=A5 hq.1
 have K9:=zp hq.2
 have z1:=pP hq.1
 have z2:=pP hq.2
 have hn:q.num≠0:=fun hc=>h0 (wv.1 hc)
 rw[aP,A.k129 (by simp)]
 simp[A.b129]
 refine ax (HF (q:=q) (by omega) (by omega)) ?_
 rintro _ h1 t1 k1 ⟨x1,y1,rfl,X1,Y1⟩
 obtain⟨u1,rfl,p1,p2,F1⟩:=X1.l7
 obtain⟨v1,rfl,p3,p4,G1⟩:=Y1.l7
 unfold V.one at p1 p3
 unfold V.cells at p2 p4
 have KA:=((((ab.refl (h:=h1) (n:=t1)).new (.cells [.bool false,.aa] 175 true)).new (.cells [.bool false,.aa] 175 true)).set (i:=t1) (o:=.cells [.bool (decide (q.num<0)),u1] 175 true) (aV _)).set (i:=t1+1) (o:=.cells [.bool (decide ((q.den:Int)<0)),v1] 175 true) (by omega)
 have c0:¬t1+1=t1:=by omega
 have c00:¬t1=t1+1:=by omega
 have i1:=k1.le
 generalize vT:(((h1.set t1 (.cells [.bool false,.aa] 175 true)).set (t1+1) (.cells [.bool false,.aa] 175 true)).set t1 (.cells [.bool (decide (q.num<0)),u1] 175 true)).set (t1+1) (.cells [.bool (decide ((q.den:Int)<0)),v1] 175 true)=HA at*
 have Bb:HA.get t1=some (.cells [.bool (decide (q.num<0)),u1] 175 true):=by rw[<-vT];simp
 have HG:HA.get (t1+1)=some (.cells [.bool (decide ((q.den:Int)<0)),v1] 175 true):=by rw[<-vT];simp
 have X1:=X1.ad KA
 have Y1:=Y1.ad KA
 simp[-au,p1,p3,bL,ag,vT,Bb,HG,aO,aM]
 refine ax (QM Y1 X1 hn (by rw[dN];omega) (by omega)) ?_
 rintro _ h2 t2 k2 rfl
 have j1:t1<t1+1+1:=by omega
 have j2:t1+1<t1+1+1:=by omega
 rw[<-M3]
 simp[-au,aA]
 exact⟨Dr (by simp;omega),(k1.trans KA).trans k2⟩
theorem Ykz{st:St}(hl:(aN q).length<1000000):A.C.call (.func 175 [] []) [.str (aN q)] st=some (.str (aK q.num),st):=by
 have cC:=fun st=>AJ (s:=aN q) (st:=st) (by omega)
 have h2:ae (aN q)<=(aN q).length:=by
  rw[EC]
  unfold aN
  split
  ·exact aV _
  ·rw[fK];omega
 have a4:∀st:St,ph st (some (.str (aN q))) (some none) (some (some (.int .i64 (ae (aN q):Nat))))=some (.str (aK q.num),st):=fun st=>by rw[Qh (by omega) (by omega),Int.toNat_natCast,GV]
 apply Call.eq
 rw[aP,A.k175 (by simp)]
 simp[A.b175,cC,ay,a4]
theorem Ymm{st:St}(hl:(aN q).length<1000000):A.C.call (.func 176 [] []) [.str (aN q)] st=some (.str (ak q.den),st):=by
 have cC:=fun st=>AJ (s:=aN q) (st:=st) (by omega)
 have aB:=yJ q
 have h2:ae (aN q)<=(aN q).length:=by
  rw[EC]
  unfold aN
  split
  ·exact aV _
  ·rw[fK];omega
 apply Call.eq
 rw[aP,A.k176 (by simp)]
 by_cases hd:q.den=1
 ·have c1:(ae (aN q):Int)=((aN q).length:Int):=by omega
  rw[hd,Jo]
  simp[A.b176,cC,c1]
 ·have jq:=aB.2 hd
  have c1:¬(ae (aN q):Int)=((aN q).length:Int):=by omega
  have c2:¬ae (aN q)=(aN q).length:=by omega
  have w1:bk .i64 ((ae (aN q):Int)+1)=(ae (aN q):Int)+1:=ct (by omega) (by omega)
  have rT:=GW q hd
  have a4:∀st:St,ph st (some (.str (aN q))) (some (some (.int .i64 ((ae (aN q):Int)+1)))) (some none)=some (.str (ak q.den),st):=fun st=>by
   rw[Cq (by omega) (by omega)]
   have:((ae (aN q):Int)+1).toNat=ae (aN q)+1:=by omega
   rw[this,rT]
  simp[A.b176,cC,c1,w1,ay,a4]
theorem Yjv(z:Int):aN (z:Rat)=aK z:=by
 unfold aN
 rw[aF (by simp)];simp
theorem Ym6{z:Int}{st:St}(hl:(aK z).length<1000000):A.C.call (.func 174 [] []) [.str (aK z)] st=some (.str (ak z.natAbs),st):=by
 have hs:=fun st=>Xf (q:=(z:Rat)) (st:=st)
 rw[Yjv]at hs
 have hn:((z:Rat)).num=z:=by simp
 rw[hn]at hs
 apply Call.eq
 rw[aP,A.k174 (by simp)]
 by_cases hz:z<0
 ·have e1:aK z=45::ak z.natAbs:=by unfold aK;rw[aF hz]
  have e3:dK z= -1:=by unfold dK;rw[aF hz]
  rw[e1,e3]at hs
  have a3:∀st:St,ph st (some (.str (45::ak z.natAbs))) (some (some (.int .i64 1))) (some none)=some (.str (ak z.natAbs),st):=fun st=>by rw[Cq (by omega) (by simp only[bq];omega)];rfl
  rw[e1]
  simp[A.b174,hs,ay,a3]
 ·have e1:aK z=ak z.natAbs:=by unfold aK;rw[ar hz]
  have e3:¬dK z<0:=by unfold dK;rw[ar hz];split<;>omega
  rw[e1]at hs
  rw[e1]
  simp[A.b174,hs,e3]
theorem Ycr{st:St}(hl:(aN q).length<1000000):A.C.call (.func 110 [] []) [.str (aN q)] st=some (.int .i64 (if tj q=true then 4 else 0),st):=by
 have h1:=fun st=>Ykz (q:=q) (st:=st) hl
 have h2:=fun st=>Ymm (q:=q) (st:=st) hl
 have gW:(aK q.num).length<1000000:=by
  have:(aK q.num).length<=(aN q).length:=by
   unfold aN
   split
   ·exact aV _
   ·rw[fK];omega
  omega
 have h3:=fun st=>Ym6 (z:=q.num) (st:=st) gW
 apply Call.eq
 rw[aP,A.k110 (by simp)]
 unfold tj
 by_cases c1:600<(ak q.num.natAbs).length
 ·have c1':(600:Int)<((ak q.num.natAbs).length:Int):=by omega
  simp[A.b110,h1,h3,c1,c1']
 ·have c1':¬(600:Int)<((ak q.num.natAbs).length:Int):=by omega
  by_cases c2:600<(ak q.den).length
  ·have c2':(600:Int)<((ak q.den).length:Int):=by omega
   simp[A.b110,h1,h2,h3,c1,c1',c2,c2']
  ·have c2':¬(600:Int)<((ak q.den).length:Int):=by omega
   simp[A.b110,h1,h2,h3,c1,c1',c2,c2']
end Go.Mx
