/-num-/
import Derived.Test.YtkfkpkejgchcpaaGreatDoorNaD
set_option linter.all false
namespace Go.Mx
open Go Go.Proofs
variable {N n:Nat} {h:T O} {x:V} {z:Int}
set_option maxRecDepth 1000000
def A.b95:Zah:=sr [ge 2 (.alloc [.int .i64 0,.nilslice] 156)]
 (sr [mv 3 0,ge 4 (.build [.int .i64 0,.nilslice] [(0,1,(tq 3))]),gn (.store 2 (tq 2) (tq 4))]
 (.ret))
def A.k95:=@A.kk 95 5 [.cell 2 (some 2)] A.b95 (by kernel_rfl) rfl
def A.b160:Zah:=sr [bx 1 156 0,mc 2 0]
 (sr [fa 3 0 1,ld 4 3,ge 5 (.mn [.const (.int .i64 1),tq 4]),ge 6 (.mx [(.const (.int .i64 (-1))),tq 5]),mv 2 6]
 (.ret))
def A.k160:=@A.kk 160 7 [.tmp 2] A.b160 (by kernel_rfl) rfl
def A.b159:Zah:=sr [bx 1 156 0,ge 2 (.alloc [.int .i64 0,.nilslice] 156)]
 (.seq (sr [fa 3 0 1,ld 4 3,bc 5 .lss 4 0]
 (cd 5
 (sr [lN 6 2 1,c1 7 168 6,gn (.store 2 (tq 2) (tq 7))]
 (.ret))
 (.skip)))
 (sr [lN 8 2 1,gn (.store 2 (tq 2) (tq 8))]
 (.ret)))
def A.k159:=@A.kk 159 9 [.cell 2 (some 2)] A.b159 (by kernel_rfl) rfl
def A.b224:Zah:=sr [ge 2 (.mov (.const (.int .u64 0)))]
 (.seq (sr [mv 3 0,bc 4 .lss 3 0]
 (cd 4
 (sr [mv 5 0,ge 6 (.un .neg (tq 5)),ge 7 (.convInt .u64 (tq 6)),mv 2 7]
 (.ret))
 (.skip)))
 (sr [mv 8 0,ge 9 (.convInt .u64 (tq 8)),mv 2 9]
 (.ret)))
def A.k224:=@A.kk 224 10 [.tmp 2] A.b224 (by kernel_rfl) rfl
def A.b168:Zah:=sr [bx 1 156 0,ge 2 (.alloc [.int .i64 0,.nilslice] 156)]
 (.seq (sr [fa 5 1 1,ld 6 5,ge 7 (.bin .eql (.prim .slice) true (tq 6) (.const .nilslice)),mv 8 7,gy 9 8 (.faddr 0 (tq 1)),gy 10 8 (.load none (tq 9)),gy 11 8 (.bin .neq (.prim .int) true (tq 10) (.const (.int .i64 (-9223372036854775808)))),pf 12 8 11]
 (cd 12
 (sr [fa 13 0 1,ld 14 13,ge 15 (.un .neg (tq 14)),ge 16 (.build [.int .i64 0,.nilslice] [(0,1,(tq 15))]),gn (.store 2 (tq 2) (tq 16))]
 (.ret))
 (.skip)))
 (sr [lN 18 2 1,c1 19 190 18,mv 17 19,xt 20 17 0,xt 21 17 1,mv 3 20,mv 4 21]
 (sr [mv 22 3,ge 23 (.un .not (tq 22)),mv 24 4,c2 25 219 23 24,gn (.store 2 (tq 2) (tq 25))]
 (.ret))))
def A.k168:=@A.kk 168 26 [.cell 2 (some 2)] A.b168 (by kernel_rfl) rfl
def A.b190:Zah:=sr [bx 1 156 0,ge 2 (.mov (.const (.bool false))),mN 3]
 (.seq (.block 0 (sr [fa 5 1 1,ld 6 5,ge 7 (.bin .neq (.prim .slice) true (tq 6) (.const .nilslice)),mv 4 7]
 (cd 4
 (.seq (.regD [fa 8 0 1,ld 9 8,bc 10 .lss 9 0,fa 11 1 1,ld 12 11,mv 2 10,mv 3 12] [0,1,3,0,8,7,63])
 (.ret))
 (sr [fa 14 0 1,ld 15 14,ei 16 15 0,mv 13 16]
 (cd 13
 (sr [ge 2 (.mov (.const (.bool false))),mN 3]
 (.ret))
 (.skip))))))
 (.seq (.regD [fa 17 0 1,ld 18 17,bc 19 .lss 18 0,fa 20 0 1,ld 21 20,c1 22 224 21,ge 23 (.bslice 255 1 1 [.int .u64 0] [(0,1,(tq 22))]),mv 2 19,mv 3 23] [0,1,3,0,8,24,56,63,255])
 (.ret)))
def A.k190:=@A.kk 190 24 [.tmp 2,.tmp 3] A.b190 (by kernel_rfl) rfl
def A.b219:Zah:=sr [ge 4 (.alloc [.int .i64 0,.nilslice] 156)]
 (.seq (.block 0 (sr [mv 6 1,ln 7 6,ei 8 7 0,mv 5 8]
 (cd 5
 (sr [ge 9 (.build [.int .i64 0,.nilslice] []),gn (.store 2 (tq 4) (tq 9))]
 (.ret))
 (sr [mv 11 1,ln 12 11,ei 13 12 1,mv 14 13,mg 15 1 14,gy 16 14 (.iaddrSl 1 (tq 15) (kq 0)),gy 17 14 (.load none (tq 16)),gy 18 14 (.bin .leq (.node []) false (tq 17) (.const (.int .u64 9223372036854775807))),pf 19 14 18,mv 20 19,mg 21 0 20,pf 22 20 21,mv 10 22]
 (cd 10
 (sr [mv 23 1,ge 24 (.iaddrSl 1 (tq 23) (kq 0)),ld 25 24,ge 26 (.convInt .i64 (tq 25)),ge 27 (.un .neg (tq 26)),ge 28 (.build [.int .i64 0,.nilslice] [(0,1,(tq 27))]),gn (.store 2 (tq 4) (tq 28))]
 (.ret))
 (sr [mv 30 1,ln 31 30,ei 32 31 1,mv 33 32,mg 34 1 33,gy 35 33 (.iaddrSl 1 (tq 34) (kq 0)),gy 36 33 (.load none (tq 35)),gy 37 33 (.bin .leq (.node []) false (tq 36) (.const (.int .u64 9223372036854775807))),pf 38 33 37,mv 29 38]
 (cd 29
 (sr [mv 39 1,ge 40 (.iaddrSl 1 (tq 39) (kq 0)),ld 41 40,ge 42 (.convInt .i64 (tq 41)),ge 43 (.build [.int .i64 0,.nilslice] [(0,1,(tq 42))]),gn (.store 2 (tq 4) (tq 43))]
 (.ret))
 (sr [mv 45 0,mv 44 45]
 (cd 44
 (sr [mv 46 1,ge 47 (.build [.int .i64 0,.nilslice] [(0,1,(.const (.int .i64 (-1)))),(1,1,(tq 46))]),gn (.store 2 (tq 4) (tq 47))]
 (.ret))
 (.skip))))))))))
 (sr [mv 48 1,ge 49 (.build [.int .i64 0,.nilslice] [(0,1,(kq 1)),(1,1,(tq 48))]),gn (.store 2 (tq 4) (tq 49))]
 (.ret)))
def A.k219:=@A.kk 219 50 [.cell 4 (some 2)] A.b219 (by kernel_rfl) rfl
def sgn(z:Int):Int:=if z<0 then -1 else 1
def In(h:T O)(N:Nat)(x:V)(z:Int):Prop:=
 (x=.agg [.int .i64 z,.nilslice]∧ -9223372036854775808≤z∧z<9223372036854775808)∨
 ∃i o l c,x=.agg [.int .i64 (sgn z),.slice i o l c 1]∧Wn h N (.slice i o l c 1) z.natAbs∧9223372036854775808≤z.natAbs
def In.keep{h':T O}{N':Nat}(s:In h N x z)(k:Keeps h N h' N'):In h' N' x z:=by
 rcases s with s|⟨i,o,l,c,s1,s2,s3⟩
 ·exact .inl s
 ·exact .inr ⟨i,o,l,c,s1,s2.keep k,s3⟩
def In.small(h1: -9223372036854775808≤z)(h2:z<9223372036854775808):In h N (.agg [.int .i64 z,.nilslice]) z:=.inl ⟨rfl,h1,h2⟩
def In.cells(s:In h N x z):∃n u,x=.agg [.int .i64 n,u]∧V.one u=true:=by
 rcases s with⟨rfl,_⟩|⟨i,o,l,c,rfl,_⟩
 ·exact⟨_,_,rfl,rfl⟩
 ·exact⟨_,_,rfl,rfl⟩
def In.nu{n:Int}{u:V}(s:In h N (.agg [.int .i64 n,u]) z):∀x∈[V.int .i64 n,u],∀m,x≠.int .u64 m:=by
 intro x hx m hc
 simp only[Ysz,List.not_mem_nil,or_false]at hx
 rcases hx with rfl|rfl
 ·cases hc
 ·subst hc
  rcases s with⟨e,_⟩|⟨_,_,_,_,e,_⟩
  ·simp at e
  ·simp at e
def kset{h1:T O}{n1:Nat}(k:Keeps h n h1 n1)(o:O):Keeps h n (h1.set n1 o) (n1+1):=(k.set k.le).up (Yuw _)
def wl(z:Int):Nat:=(wds z.natAbs).length
def Ztm:Fn A.C 95 [.int .i64 z] h N (fun v _ _=>v=.agg [.int .i64 z,.nilslice]):=by
 intro w
 rw[Zac,A.k95 (by simp)]
 simp[A.b95,Zam,slc,splice,Ret]
 exact(((Keeps.refl.set (Yr4 N)).set (Yr4 N)).up (Yuw N))
def sg3(z:Int):Int:=if z<0 then -1 else if z=0 then 0 else 1
def Zkl(hx:In h N x z):Fn A.C 160 [x] h N (fun v _ _=>v=.int .i64 (sg3 z)):=by
 intro w
 rw[Zac,A.k160 (by simp)]
 rcases hx with⟨rfl,_⟩|⟨i,o,l,c,rfl,_,hz⟩
 ·obtain h1|h1|h1:z<0∨z=0∨0<z:=by omega
  ·have e1:z<1:=by omega
   have e2:¬ -1<z:=by omega
   simp[A.b160,Zam,slc,splice,Ret,Zlg,Zfh,Yf2,Zx0,Ybw,Zze,h1,e1,e2,sg3]
   exact kset Keeps.refl _
  ·subst h1
   simp[A.b160,Zam,slc,splice,Ret,Zlg,Zfh,Yf2,Zx0,Ybw,Zze,sg3]
   exact kset Keeps.refl _
  ·have e1:¬z<1:=by omega
   have e2:¬z<0:=by omega
   have e3:¬z=0:=by omega
   simp[A.b160,Zam,slc,splice,Ret,Zlg,Zfh,Yf2,Zx0,Ybw,Zze,e1,e2,e3,sg3]
   exact kset Keeps.refl _
 ·by_cases h1:z<0
  ·simp[A.b160,Zam,slc,splice,Ret,Zlg,Zfh,Yf2,Zx0,Ybw,Zze,sgn,sg3,h1]
   exact kset Keeps.refl _
  ·have e3:¬z=0:=by omega
   simp[A.b160,Zam,slc,splice,Ret,Zlg,Zfh,Yf2,Zx0,Ybw,Zze,sgn,sg3,h1,e3]
   exact kset Keeps.refl _
def Zsz(hz: -9223372036854775808≤z)(hm:z<9223372036854775808){st:St}:A.C.call (.func 224 [] []) [.int .i64 z] st=some (.int .u64 (z.natAbs:Nat),st):=by
 apply Call.eq
 rw[Zac,A.k224 (by simp)]
 by_cases e1:z<0
 ·have e2:Zap .u64 (IntKind.wrap .i64 (0-z))=(z.natAbs:Nat):=by
   rw[Zco]
   by_cases e3:z= -9223372036854775808
   ·subst e3;decide
   ·rw[Ziz (by omega) (by omega)];omega
  rw[Int.zero_sub]at e2
  simp[A.b224,e1,e2]
 ·have e2:Zap .u64 z=(z.natAbs:Nat):=by rw[Zea (by omega) (by omega)];omega
  simp[A.b224,e1,e2]
def Zew(h:n<B)(h0:n≠0):wds n=[n]:=by
 rw[Zbn h0,Yuf h,Zbl,Yt3 h]
def Zeo(hx:In h N x z):Fn A.C 190 [x] h N (fun v h' n'=>∃u,v=.tup [.bool (decide (z<0)),u]∧Wn h' n' u z.natAbs):=by
 intro w
 rw[Zac,A.k190 (by simp)]
 rcases hx with⟨rfl,h1,h2⟩|⟨i,o,l,c,rfl,hw,hz⟩
 ·by_cases h0:z=0
  ·subst h0
   simp[A.b190,Zam,slc,splice,Zae,Ret]
   refine⟨kset Keeps.refl _,?_⟩
   unfold Wn;rw[Zbl];exact Sl.nil
  ·have hs:=fun st=>Zsz h1 h2 (st:=st)
   have d1:¬N=N+1:=by omega
   simp[A.b190,Zam,slc,splice,Zae,h0,hs,Ret,Zao.chk]
   refine⟨kset (kset Keeps.refl _) _,?_⟩
   unfold Wn
   rw[Zew (by unfold B;omega) (by omega)]
   exact Sl.row (e:=255) (rw:=true) (L:=1) (by omega) (by simp[dg]) (by simp) (by simp)
 ·have e1:(sgn z<0)=(z<0):=by unfold sgn;split<;>simp_all
  simp[A.b190,Zam,slc,splice,Zae,Ret,e1,Zao.chk]
  refine⟨kset Keeps.refl _,hw.keep (kset Keeps.refl _)⟩
def Zg6{u:V}{b:Bool}(hu:Wn h N u n)(hl:(wds n).length<1099511627776):Fn A.C 219 [.bool b,u] h N (fun v h' n'=>In h' n' v (if b=true then -(n:Int) else n)):=by
 intro w
 have lu:=hu.len
 rw[Zaa]at lu
 rw[Zac,A.k219 (by simp)]
 have kk:∀o1 o2:O,Keeps h N ((h.set N o1).set N o2) (N+1):=fun o1 o2=>(kset Keeps.refl o1).set (Yr4 N)
 by_cases h0:n=0
 ·subst h0
  rw[Zbl]at lu
  simp[A.b219,lu,Zae,Zam,slc,splice,Ret]
  refine⟨kk _ _,?_⟩
  have:(if b=true then -((0:Nat):Int) else ((0:Nat):Int))=0:=by split<;>rfl
  exact In.small (by omega) (by omega)
 ·by_cases h1:n<18446744073709551616
  ·rw[Zew h1 h0]at lu
   obtain⟨i,o,c,e,rw,p1,p2,p3,p4⟩:=hu.at (Za5 (l:=wds n) (j:=0) (n:=n) (by rw[Zew h1 h0];rfl))
   rw[Ytb]at p4
   have lu:Zot u=some 1:=lu
   have hne:¬i=N:=by omega
   by_cases h2:n≤9223372036854775807
   ·have h2':(n:Int)≤9223372036854775807:=by omega
    have w1:Zap .i64 (n:Int)=n:=Zak (by omega) (by omega)
    have w2:IntKind.wrap .i64 (-(n:Int))= -(n:Int):=Ziz (by omega) (by omega)
    cases b
    ·simp[A.b219,lu,Zae,p1,p3,p4,hne,h2',w1,Zam,slc,splice,Ret]
     exact⟨kk _ _,In.small (by omega) (by omega)⟩
    ·simp[A.b219,lu,Zae,p1,p3,p4,hne,h2',w1,w2,Zam,slc,splice,Ret]
     exact⟨kk _ _,In.small (by omega) (by omega)⟩
   ·have h2':¬(n:Int)≤9223372036854775807:=by omega
    obtain⟨i2,o2,l2,c2,rfl⟩:∃i o l c,u=.slice i o l c 1:=by
     rcases hu with⟨hu,_⟩|⟨i,o,cp,c,e,rw,hu,_⟩
     ·rw[Zew h1 h0]at hu;simp[dg]at hu
     ·exact⟨_,_,_,_,hu⟩
    cases b
    ·simp[A.b219,lu,Zae,p1,p3,p4,hne,h2',Zam,slc,splice,Ret]
     refine⟨kk _ _,.inr ⟨i2,o2,l2,c2,?_,hu.keep (kk _ _),?_⟩⟩
     ·simp[sgn]
     ·omega
    ·simp[A.b219,lu,Zae,p1,p3,p4,hne,h2',Zam,slc,splice,Ret]
     refine⟨kk _ _,.inr ⟨i2,o2,l2,c2,?_,?_,?_⟩⟩
     ·simp[sgn];omega
     ·simpa using hu.keep (kk _ _)
     ·omega
  ·have hl1:2≤(wds n).length:=by
    rw[Zbn h0,Zbn (by unfold B;omega)];simp
   have c0:¬((wds n).length:Int)=0:=by omega
   have c1:¬((wds n).length:Int)=1:=by omega
   have c2:¬(wds n).length=1:=by omega
   have c3:¬wds n=[]:=by intro h;rw[h]at hl1;simp at hl1
   rcases hu with⟨hu,_⟩|⟨i,o,cp,c,e,rw,rfl,hu⟩
   ·exfalso
    have:=congrArg List.length hu
    rw[Zaa]at this
    simp at this
    exact c3 this
   have hw:Wn h N (.slice i o (dg (wds n)).length cp 1) n:=.inr ⟨i,o,cp,c,e,rw,rfl,hu⟩
   rw[Zaa]at hw
   cases b
   ·simp[A.b219,Zae,c0,c1,c2,c3,Zam,slc,splice,Ret]
    refine⟨kk _ _,.inr ⟨i,o,(wds n).length,cp,?_,hw.keep (kk _ _),?_⟩⟩
    ·simp[sgn]
    ·omega
   ·simp[A.b219,Zae,c0,c1,c2,c3,Zam,slc,splice,Ret]
    refine⟨kk _ _,.inr ⟨i,o,(wds n).length,cp,?_,?_,?_⟩⟩
    ·simp[sgn];omega
    ·simpa using hw.keep (kk _ _)
    ·omega
def Sl.setNU{v:V}{l:List Nat}{i:Nat}{c0 c1:List V}{e0 e1:TypeId}{w0 w1:Bool}(s:Sl h N v (dg l))(hr:h.get i=some (.cells c0 e0 w0))(hn:∀x∈c0,∀n,x≠.int .u64 n)(hc:c1.length=c0.length):Sl (h.set i (.cells c1 e1 w1)) N v (dg l):=by
 rcases s with s|⟨i',o,cp,c,e,rw,rfl,q1,q2,q3,q4,q5⟩
 ·exact .inl s
 ·by_cases hi:i'=i
  ·subst hi
   rw[hr]at q2
   simp only[Yr1,O.cells.injEq]at q2
   obtain⟨rfl,rfl,rfl⟩:=q2
   cases l with
   |nil=>
    refine .inr ⟨i',o,cp,c1,e1,w1,rfl,q1,by rw[T.get_set,Yr6 rfl],?_,by simpa[hc]using q4,q5⟩
    intro j hj
    simp[dg]at hj
   |cons d l=>
    exfalso
    have:=q3 0 (by simp[dg])
    have hm:=Yr8 (l:=c0) (i:=o+0) (a:=.int .u64 d) (by rw[this];simp[dg])
    exact hn _ hm _ rfl
  ·exact .inr ⟨i',o,cp,c,e,rw,rfl,q1,by rw[T.get_set,Yr3 hi];exact q2,q3,q4,q5⟩
def In.setNU{i:Nat}{c0 c1:List V}{e0 e1:TypeId}{w0 w1:Bool}(s:In h N x z)(hr:h.get i=some (.cells c0 e0 w0))(hn:∀x∈c0,∀n,x≠.int .u64 n)(hc:c1.length=c0.length):In (h.set i (.cells c1 e1 w1)) N x z:=by
 rcases s with s|⟨i',o,l,c,s1,s2,s3⟩
 ·exact .inl s
 ·exact .inr ⟨i',o,l,c,s1,Sl.setNU s2 hr hn hc,s3⟩
def Zq8(hx:In h N x z)(hl:wl z<500000000000):Fn A.C 168 [x] h N (fun v h' n'=>In h' n' v (-z)):=by
 intro w
 rw[Zac,A.k168 (by simp)]
 have rest:∀{x:V},In h N x z→∀(h1:T O) (N1:Nat),Keeps h N h1 N1→Fn A.C 190 [x] h1 N1 (fun v h' n'=>∃u,v=.tup [.bool (decide (z<0)),u]∧Wn h' n' u z.natAbs):=fun hx h1 N1 k=>Zeo (hx.keep k)
 have fin:∀{v h' n'},In h' n' v (if (!decide (z<0))=true then -(z.natAbs:Int) else z.natAbs)→In h' n' v (-z):=fun {v h' n'} q=>by
  have e:(if (!decide (z<0))=true then -(z.natAbs:Int) else (z.natAbs:Int))= -z:=by
   by_cases h:z<0<;>simp[h]<;>omega
  rw[e]at q;exact q
 by_cases hz:x=.agg [.int .i64 z,.nilslice]∧z≠ -9223372036854775808∧ -9223372036854775808≤z∧z<9223372036854775808
 ·obtain⟨rfl,h0,h1,h2⟩:=hz
  have w2:IntKind.wrap .i64 (-z)= -z:=Ziz (by omega) (by omega)
  simp[A.b168,Zam,slc,splice,Zae,h0,w2,Ret]
  exact⟨(kset (kset Keeps.refl _) _).set (by omega),In.small (by omega) (by omega)⟩
 ·rcases id hx with⟨rfl,h1,h2⟩|⟨i,o,l,c,rfl,_⟩
  ·have h0:z= -9223372036854775808:=by
    apply Decidable.byContradiction
    intro hc
    exact hz ⟨rfl,hc,h1,h2⟩
   have hp:=rest hx _ _ (kset (kset Keeps.refl (.cells [.int .i64 z,.nilslice] 156 true)) (.cells [.int .i64 0,.nilslice] 156 true))
   subst h0
   simp[A.b168,Zam,slc,splice,Zae]
   refine Zaf hp ?_
   rintro _ h3 n3 k3 ⟨u,rfl,hu⟩
   have kle:=k3.le
   have g0:=k3.get (N+1) (by omega)
   simp at g0
   simp[]
   refine Zaf (Zg6 hu (by unfold wl at hl;omega)) ?_
   rintro v h4 n4 k4 hv
   have kle4:=k4.le
   have g1:=(k4.get (N+1) (by omega)).trans g0
   obtain⟨n5,u5,rfl,ho5⟩:=hv.cells
   unfold V.one at ho5
   simp[g1,Zam,slc,splice,Zal,Ret,ho5]
   have kk:=(((kset (kset Keeps.refl _) _).trans k3).trans k4).set (h:=h) (n:=N) (i:=N+1) (o:=.cells [.int .i64 n5,u5] 156 true) (by omega)
   exact⟨kk,(fin hv).setNU g1 (by simp) rfl⟩
  ·have hp:=rest hx _ _ (kset (kset Keeps.refl (.cells [.int .i64 (sgn z),.slice i o l c 1] 156 true)) (.cells [.int .i64 0,.nilslice] 156 true))
   simp[A.b168,Zam,slc,splice,Zae]
   refine Zaf hp ?_
   rintro _ h3 n3 k3 ⟨u,rfl,hu⟩
   have kle:=k3.le
   have g0:=k3.get (N+1) (by omega)
   simp at g0
   simp[]
   refine Zaf (Zg6 hu (by unfold wl at hl;omega)) ?_
   rintro v h4 n4 k4 hv
   have kle4:=k4.le
   have g1:=(k4.get (N+1) (by omega)).trans g0
   obtain⟨n5,u5,rfl,ho5⟩:=hv.cells
   unfold V.one at ho5
   simp[g1,Zam,slc,splice,Zal,Ret,ho5]
   have kk:=(((kset (kset Keeps.refl _) _).trans k3).trans k4).set (h:=h) (n:=N) (i:=N+1) (o:=.cells [.int .i64 n5,u5] 156 true) (by omega)
   exact⟨kk,(fin hv).setNU g1 (by simp) rfl⟩
variable {N:Nat} {a b:Int} {h:T O} {x y:V}
set_option maxHeartbeats 1000000
def A.ta167_0:Zah:=sr [lN 34 2 2,c1 35 190 34,mv 33 35,xt 36 33 0,xt 37 33 1,mv 6 36,mv 7 37]
 (sr [lN 39 2 3,c1 40 190 39,mv 38 40,xt 41 38 0,xt 42 38 1,mv 8 41,mv 9 42]
 (.seq (.block 0 (sr [mv 44 6,mv 45 8,ge 46 (.bin .eql (.prim .bool) false (tq 44) (tq 45)),mv 43 46]
 (cd 43
 (sr [mv 47 6,mv 48 7,mv 49 9,c2 50 226 48 49,c2 51 219 47 50,gn (.store 2 (tq 4) (tq 51))]
 (.ret))
 (sr [mv 53 7,mv 54 9,c2 55 227 53 54,bc 56 .geq 55 0,mv 52 56]
 (cd 52
 (sr [mv 57 6,mv 58 7,mv 59 9,c2 60 228 58 59,c2 61 219 57 60,gn (.store 2 (tq 4) (tq 61))]
 (.ret))
 (.skip))))))
 (sr [mv 62 8,mv 63 9,mv 64 7,c2 65 228 63 64,c2 66 219 62 65,gn (.store 2 (tq 4) (tq 66))]
 (.ret))))
def A.b167:Zah:=sr [bx 2 156 0,bx 3 156 1,ge 4 (.alloc [.int .i64 0,.nilslice] 156)]
 (.seq (sr [fa 10 1 2,ld 11 10,ge 12 (.bin .eql (.prim .slice) true (tq 11) (.const .nilslice)),mv 13 12,gy 14 13 (.faddr 1 (tq 3)),gy 15 13 (.load none (tq 14)),gy 16 13 (.bin .eql (.prim .slice) true (tq 15) (.const .nilslice)),pf 17 13 16]
 (cd 17
 (sr [fa 18 0 2,ld 19 18,fa 20 0 3,ld 21 20,bi 22 .add 19 21,mv 5 22]
 (sr [mv 23 5,fa 24 0 2,ld 25 24,bi 26 .gtr 23 25,fa 27 0 3,ld 28 27,bc 29 .gtr 28 0,ge 30 (.bin .eql (.prim .bool) false (tq 26) (tq 29))]
 (cd 30
 (sr [mv 31 5,ge 32 (.build [.int .i64 0,.nilslice] [(0,1,(tq 31))]),gn (.store 2 (tq 4) (tq 32))]
 (.ret))
 (.skip))))
 (.skip)))
 A.ta167_0)
def A.k167:=@A.kk 167 67 [.cell 4 (some 2)] A.b167 (by kernel_rfl) rfl
def A.b169:Zah:=sr [bx 2 156 0,bx 3 156 1,ge 4 (.alloc [.int .i64 0,.nilslice] 156)]
 (.seq (.regD [lN 5 2 2,lN 6 2 3,c1 7 168 6,c2 8 167 5 7,gn (.store 2 (tq 4) (tq 8))] [0,0,2,7,15])
 (.ret))
def A.k169:=@A.kk 169 9 [.cell 4 (some 2)] A.b169 (by kernel_rfl) rfl
def A.ta165_0:Zah:=sr [lN 50 2 2,c1 51 190 50,mv 49 51,xt 52 49 0,xt 53 49 1,mv 7 52,mv 8 53]
 (sr [lN 55 2 3,c1 56 190 55,mv 54 56,xt 57 54 0,xt 58 54 1,mv 9 57,mv 10 58]
 (sr [mv 59 7,mv 60 9,ge 61 (.bin .neq (.prim .bool) false (tq 59) (tq 60)),mv 62 8,mv 63 10,c2 64 225 62 63,c2 65 219 61 64,gn (.store 2 (tq 4) (tq 65))]
 (.ret)))
def A.b165:Zah:=sr [bx 2 156 0,bx 3 156 1,ge 4 (.alloc [.int .i64 0,.nilslice] 156)]
 (.seq (sr [fa 11 1 2,ld 12 11,ge 13 (.bin .eql (.prim .slice) true (tq 12) (.const .nilslice)),mv 14 13,gy 15 14 (.faddr 1 (tq 3)),gy 16 14 (.load none (tq 15)),gy 17 14 (.bin .eql (.prim .slice) true (tq 16) (.const .nilslice)),pf 18 14 17]
 (cd 18
 (.seq (.regD [fa 20 0 2,ld 21 20,c1 22 224 21,fa 23 0 3,ld 24 23,c1 25 224 24,c2 26 223 22 25,mv 19 26,xt 27 19 0,xt 28 19 1,mv 5 27,mv 6 28] [0,1,3,0,8,31,63,127,255,255,511,2047])
 (sr [mv 29 5,ge 30 (.bin .eql (.prim .int) true (tq 29) (.const (.int .u64 0))),mv 31 30,mg 32 6 31,gy 33 31 (.bin .leq (.node []) false (tq 32) (.const (.int .u64 9223372036854775807))),pf 34 31 33]
 (cd 34
 (.seq (sr [fa 35 0 2,ld 36 35,bc 37 .lss 36 0,fa 38 0 3,ld 39 38,bc 40 .lss 39 0,ge 41 (.bin .neq (.prim .bool) false (tq 37) (tq 40))]
 (cd 41
 (sr [mv 42 6,ge 43 (.convInt .i64 (tq 42)),ge 44 (.un .neg (tq 43)),ge 45 (.build [.int .i64 0,.nilslice] [(0,1,(tq 44))]),gn (.store 2 (tq 4) (tq 45))]
 (.ret))
 (.skip)))
 (sr [mv 46 6,ge 47 (.convInt .i64 (tq 46)),ge 48 (.build [.int .i64 0,.nilslice] [(0,1,(tq 47))]),gn (.store 2 (tq 4) (tq 48))]
 (.ret)))
 (.skip))))
 (.skip)))
 A.ta165_0)
def A.k165:=@A.kk 165 66 [.cell 4 (some 2)] A.b165 (by kernel_rfl) rfl
def A.b94:Zah:=sr [bx 2 156 0,bx 3 156 1,mc 4 0]
 (.seq (sr [fa 5 1 2,ld 6 5,ge 7 (.bin .eql (.prim .slice) true (tq 6) (.const .nilslice)),mv 8 7,gy 9 8 (.faddr 1 (tq 3)),gy 10 8 (.load none (tq 9)),gy 11 8 (.bin .eql (.prim .slice) true (tq 10) (.const .nilslice)),pf 12 8 11]
 (cd 12
 (.seq (.block 0 (sr [fa 14 0 2,ld 15 14,fa 16 0 3,ld 17 16,bi 18 .lss 15 17,mv 13 18]
 (cd 13
 (sr [ge 4 (.mov (.const (.int .i64 (-1))))]
 (.ret))
 (sr [fa 20 0 2,ld 21 20,fa 22 0 3,ld 23 22,bi 24 .gtr 21 23,mv 19 24]
 (cd 19
 (sr [mc 4 1]
 (.ret))
 (.skip))))))
 (sr [mc 4 0]
 (.ret)))
 (.skip)))
 (sr [lN 25 2 2,lN 26 2 3,c2 27 169 25 26,c1 28 160 27,mv 4 28]
 (.ret)))
def A.k94:=@A.kk 94 29 [.tmp 4] A.b94 (by kernel_rfl) rfl
structure Yl0 (h:T O) (N q:Nat) (z:Int) (st:St):Prop where
 w:Zad N st.w=[]
 keep:Keeps h N st.h st.n
 ex:∃n u,st.h.get q=some (.cells [.int .i64 n,u] 156 true)∧In st.h st.n (.agg [.int .i64 n,u]) z
def Zvo(a b:Int):(a*b<0)↔((a<0)≠(b<0))∧a≠0∧b≠0:=by
 rcases Int.lt_trichotomy a 0 with ha|ha|ha<;>rcases Int.lt_trichotomy b 0 with hb|hb|hb
 ·have:=Int.mul_pos_of_neg_of_neg ha hb
  simp[ha,hb];omega
 ·subst hb;simp
 ·have:=Int.mul_neg_of_neg_of_pos ha hb
  have h1:¬b<0:=by omega
  simp[ha,h1,this];omega
 ·subst ha;simp
 ·subst ha;simp
 ·subst ha;simp
 ·have:=Int.mul_neg_of_pos_of_neg ha hb
  have h1:¬a<0:=by omega
  simp[hb,h1,this];omega
 ·subst hb;simp
 ·have:=Int.mul_pos ha hb
  have h1:¬a<0:=by omega
  have h2:¬b<0:=by omega
  simp[h1,h2];omega
def Zft{n k:Nat}(h:n<B^k):(wds n).length≤k:=by
 apply Yto
 intro hc
 obtain⟨j,hj⟩:∃j,(wds n).length=j+1:=⟨(wds n).length-1,by omega⟩
 have:=(Zdv hj).1
 have:=Ys2 (show 0<B by decide) (show k≤j by omega)
 omega
def Zu0(n:Nat):n<B^(wds n).length:=by
 have:=Zkz (Zdi n)
 rwa [Zbm]at this
def Zzh(a b:Int):wl (a+b)≤max (wl a) (wl b)+1:=by
 unfold wl
 apply Zft
 have h1:=Zu0 a.natAbs
 have h2:=Zu0 b.natAbs
 have h3:=Ys2 (show 0<B by decide) (Yuz (wds a.natAbs).length (wds b.natAbs).length)
 have h4:=Ys2 (show 0<B by decide) (Yur (wds a.natAbs).length (wds b.natAbs).length)
 have h5:(a+b).natAbs≤a.natAbs+b.natAbs:=Int.natAbs_add_le a b
 rw[Ysr]
 generalize B^max (wds a.natAbs).length (wds b.natAbs).length=p at*
 have:p*2≤p*B:=Ysl p (by decide)
 omega
def Zuz(a:Int):wl (-a)=wl a:=by unfold wl;rw[Yux]
def Zi0(a b:Int):wl (a*b)≤wl a+wl b:=by
 unfold wl
 apply Zft
 rw[Yuc,Yte]
 have h1:=Zu0 a.natAbs
 have h2:=Zu0 b.natAbs
 exact Yut h1 h2
def Zsn(h:a.natAbs≤b.natAbs):wl a≤wl b:=Zdb h
def Yhi{H:T O}{n1 n2:Int}{u1 u2:V}{r0:T V}(hx:In H (N+3) (.agg [.int .i64 n1,u1]) a)(hy:In H (N+3) (.agg [.int .i64 n2,u2]) b)(la:wl a<500000000000)(lb:wl b<500000000000)(hK:Keeps h N H (N+3))
  (gx:H.get N=some (.cells [.int .i64 n1,u1] 156 true)) (gy:H.get (N+1)=some (.cells [.int .i64 n2,u2] 156 true)) (gz:H.get (N+2)=some (.cells [.int .i64 0,.nilslice] 156 true)) (r2:r0.get 2=some (.ptr N 0)) (r3:r0.get 3=some (.ptr (N+1) 0)) (r4:r0.get 4=some (.ptr (N+2) 0)):
  Code A.C none A.ta167_0 ⟨r0,67,[]⟩ ⟨H,N+3,[]⟩ (fun e fr st=>e=.ret∧∃r,fr=⟨r,67,[]⟩∧r.get 4=some (.ptr (N+2) 0)∧Yl0 h N (N+2) (a+b) st):=by
 rw[Zaj]
 simp[A.ta167_0,r2,gx,Zam,slc]
 refine Zaf (Zeo hx) ?_
 rintro _ h1 N1 k1 ⟨ua,rfl,hua⟩
 have kle1:=k1.le
 have gy1:=(k1.get (N+1) (by omega)).trans gy
 have gz1:=(k1.get (N+2) (by omega)).trans gz
 simp[r3,gy1,Zam,slc]
 refine Zaf (Zeo (hy.keep k1)) ?_
 rintro _ h2 N2 k2 ⟨ub,rfl,hub⟩
 have kle2:=k2.le
 have gz2:=(k2.get (N+2) (by omega)).trans gz1
 have hua2:=hua.keep k2
 have la':(wds a.natAbs).length<500000000000:=la
 have lb':(wds b.natAbs).length<500000000000:=lb
 have kA:=(hK.trans k1).trans k2
 have wl3:=Zzh a b
 have fin:∀(z:Int) (v:V) (h4:T O) (n4:Nat),Keeps h2 N2 h4 n4→In h4 n4 v z→z=a+b→∃(n5:Int) (u5:V),v=.agg [.int .i64 n5,u5]∧V.one u5=true∧h4.get (N+2)=some (.cells [.int .i64 0,.nilslice] 156 true)∧∀W,Zad N W=[]→Yl0 h N (N+2) (a+b) ⟨h4.set (N+2) (.cells [.int .i64 n5,u5] 156 true),n4,W⟩:=by
  intro z v h4 n4 k4 hv hz
  obtain⟨n5,u5,rfl,ho5⟩:=hv.cells
  have gz4:=(k4.get (N+2) (by omega)).trans gz2
  have kle4:=k4.le
  subst hz
  exact⟨n5,u5,rfl,ho5,gz4,fun W hW=>⟨hW,(kA.trans k4).set (by omega),n5,u5,by simp,hv.setNU gz4 (by simp) rfl⟩⟩
 by_cases hs:(a<0)=(b<0)
 ·have hs':(decide (a<0)==decide (b<0))=true:=by simp[hs]
  simp[Zae,hs']
  refine Zaf (Zuu hua2 hub (by omega) (by omega)) ?_
  rintro v h3 N3 k3 hv
  have hsum:a.natAbs+b.natAbs=(a+b).natAbs:=by
   by_cases h:a<0
   ·have:b<0:=by rw[hs]at h;exact h
    omega
   ·have:¬b<0:=by rw[hs]at h;exact h
    omega
  rw[hsum]at hv
  simp[]
  refine Zaf (Zg6 hv (by unfold wl at wl3 la lb;omega)) ?_
  rintro v h4 N4 k4 hv
  obtain⟨n5,u5,rfl,ho5,gz4,hf⟩:=fin _ _ _ _ (k3.trans k4) hv (by
   by_cases h:a<0
   ·have:b<0:=by rw[hs]at h;exact h
    simp[h];omega
   ·have:¬b<0:=by rw[hs]at h;exact h
    simp[h];omega)
  unfold V.one at ho5
  simp[gz4,ho5,splice,Zal,r4]
  exact hf _ (by simp[Zad])
 ·have hs':(decide (a<0)==decide (b<0))=false:=by
   by_cases h:a<0<;>by_cases h':b<0<;>simp_all
  simp[Zae,hs']
  refine Zaf (Zhd hua2 hub (by omega) (by omega)) ?_
  rintro _ h3 N3 k3 rfl
  have hua3:=hua2.keep k3
  have hub3:=hub.keep k3
  by_cases hc:b.natAbs≤a.natAbs
  ·have c1:(0:Int)≤Zuf a.natAbs b.natAbs:=by unfold Zuf;split<;>(try split)<;>omega
   simp[c1]
   refine Zaf (Zl9 hua3 hub3 hc (by omega) (by omega)) ?_
   rintro v h5 N5 k5 hv
   simp[]
   refine Zaf (Zg6 hv (by have:=Zdb (show a.natAbs-b.natAbs≤a.natAbs by omega);omega)) ?_
   rintro v h4 N4 k4 hv
   obtain⟨n5,u5,rfl,ho5,gz4,hf⟩:=fin _ _ _ _ ((k3.trans k5).trans k4) hv (by
    by_cases h:a<0
    ·have:¬b<0:=by intro h2;apply hs;simp[h,h2]
     simp[h];omega
    ·have:b<0:=by apply Decidable.byContradiction;intro h2;apply hs;simp[h,h2]
     simp[h];omega)
   unfold V.one at ho5
   simp[gz4,ho5,splice,Zal,r4]
   exact hf _ (by simp[Zad])
  ·have c1:¬(0:Int)≤Zuf a.natAbs b.natAbs:=by unfold Zuf;split<;>(try split)<;>omega
   simp[c1]
   refine Zaf (Zl9 hub3 hua3 (by omega) (by omega) (by omega)) ?_
   rintro v h5 N5 k5 hv
   simp[]
   refine Zaf (Zg6 hv (by have:=Zdb (show b.natAbs-a.natAbs≤b.natAbs by omega);omega)) ?_
   rintro v h4 N4 k4 hv
   obtain⟨n5,u5,rfl,ho5,gz4,hf⟩:=fin _ _ _ _ ((k3.trans k5).trans k4) hv (by
    by_cases h:b<0
    ·have:¬a<0:=by intro h2;apply hs;simp[h,h2]
     simp[h];omega
    ·have:a<0:=by apply Decidable.byContradiction;intro h2;apply hs;simp[h,h2]
     simp[h];omega)
   unfold V.one at ho5
   simp[gz4,ho5,splice,Zal,r4]
   exact hf _ (by simp[Zad])
def Zsj(hx:In h N x a)(hy:In h N y b)(la:wl a<500000000000)(lb:wl b<500000000000):Fn A.C 167 [x,y] h N (fun v h' n'=>In h' n' v (a+b)):=by
 intro w
 rw[Zac,A.k167 (by simp)]
 obtain⟨n1,u1,rfl,o1⟩:=hx.cells
 obtain⟨n2,u2,rfl,o2⟩:=hy.cells
 have kk:=kset (kset (kset (Keeps.refl (h:=h) (n:=N)) (.cells [.int .i64 n1,u1] 156 true)) (.cells [.int .i64 n2,u2] 156 true)) (.cells [.int .i64 0,.nilslice] 156 true)
 unfold V.one at o1 o2
 have go:∀r:T V,r.get 2=some (.ptr N 0)→r.get 3=some (.ptr (N+1) 0)→r.get 4=some (.ptr (N+2) 0)→Run A.C [.fin [.cell 4 (some 2)] ⟨h,N,w⟩] (exR (A.C.code none A.ta167_0 ⟨r,67,[]⟩ ⟨((h.set N (.cells [.int .i64 n1,u1] 156 true)).set (N+1) (.cells [.int .i64 n2,u2] 156 true)).set (N+1+1) (.cells [.int .i64 0,.nilslice] 156 true),N+1+1+1,[]⟩)) (Yee (Ret (fun v h' n'=>In h' n' v (a+b)) h N w)):=by
  intro r r2 r3 r4
  refine Zbo (Yhi (hx.keep kk) (hy.keep kk) la lb kk (by simp) (by simp) (by simp) r2 r3 r4) ?_
  rintro e fr ⟨h5,n5,w5⟩ ⟨rfl,r',rfl,r4',hW,hK,n6,u6,g6,hi⟩
  simp only at hW hK g6 hi
  simp[r4',g6,Zam,slc,Ret,hW]
  exact⟨hK,hi⟩
 rcases id hx with⟨e1,s1,s2⟩|⟨i,o,l,c,e1,_⟩
 ·simp only[V.agg.injEq,Ysm,V.int.injEq,true_and,and_true]at e1
  obtain⟨rfl,rfl⟩:=e1
  rcases id hy with⟨e2,t1,t2⟩|⟨i,o,l,c,e2,_⟩
  ·simp only[V.agg.injEq,Ysm,V.int.injEq,true_and,and_true]at e2
   obtain⟨rfl,rfl⟩:=e2
   have kr:=fun (o1 o2:O)=>(kk.set (i:=N+1+1) (o:=o1) (by omega))
   by_cases hin: -9223372036854775808≤n1+n2∧n1+n2<9223372036854775808
   ·have w1:Zap .i64 (n1+n2)=n1+n2:=Zak (by omega) (by omega)
    by_cases hp:0<n2
    ·have c1:n1<n1+n2:=by omega
     simp[A.b167,Zam,slc,splice,Zae,w1,hp,c1,Ret]
     exact⟨kk.set (by omega),In.small (by omega) (by omega)⟩
    ·have c1:¬n1<n1+n2:=by omega
     simp[A.b167,Zam,slc,splice,Zae,w1,hp,c1,Ret]
     exact⟨kk.set (by omega),In.small (by omega) (by omega)⟩
   ·obtain⟨y,hy1⟩:∃y,Zap .i64 (n1+n2)=y:=⟨_,rfl⟩
    have hy2:y=n1+n2-18446744073709551616∧0<n2∨y=n1+n2+18446744073709551616∧¬0<n2:=by
     rw[←hy1,Zdh]
     simp only[IntKind.wrap,IntKind.bits,IntKind.signed]
     simp
     omega
    by_cases hp:0<n2
    ·have c1:¬n1<y:=by omega
     simp[A.b167,Zam,slc,splice,Zae,hy1,hp,c1]
     exact go _ (by simp) (by simp) (by simp)
    ·have c1:n1<y:=by omega
     simp[A.b167,Zam,slc,splice,Zae,hy1,hp,c1]
     exact go _ (by simp) (by simp) (by simp)
  ·simp only[V.agg.injEq,Ysm,V.int.injEq,true_and,and_true]at e2
   obtain⟨rfl,rfl⟩:=e2
   simp[A.b167,Zam,slc,splice,Zae]
   exact go _ (by simp) (by simp) (by simp)
 ·simp only[V.agg.injEq,Ysm,V.int.injEq,true_and,and_true]at e1
  obtain⟨rfl,rfl⟩:=e1
  simp[A.b167,Zam,slc,splice,Zae,o2]
  exact go _ (by simp) (by simp) (by simp)
def Yhs(hx:In h N x a)(hy:In h N y b)(la:wl a<500000000000)(lb:wl b<500000000000):Fn A.C 169 [x,y] h N (fun v h' n'=>In h' n' v (a-b)):=by
 intro w
 rw[Zac,A.k169 (by simp)]
 obtain⟨n1,u1,rfl,o1⟩:=hx.cells
 obtain⟨n2,u2,rfl,o2⟩:=hy.cells
 have kk:=kset (kset (kset (Keeps.refl (h:=h) (n:=N)) (.cells [.int .i64 n1,u1] 156 true)) (.cells [.int .i64 n2,u2] 156 true)) (.cells [.int .i64 0,.nilslice] 156 true)
 have hng:=Zq8 (hy.keep kk) lb
 have hx':=hx.keep kk
 unfold V.one at o1 o2
 simp[A.b169,Zam,slc,splice,o1,o2]
 refine Zaf hng ?_
 rintro v h1 n1' k1 hv
 simp[]
 refine Zaf (Zsj (hx'.keep k1) hv la (by rw[Zuz];exact lb)) ?_
 rintro v2 h2 n2' k2 hv2
 obtain⟨n5,u5,rfl,ho5⟩:=hv2.cells
 unfold V.one at ho5
 have k12:=k1.trans k2
 have kle:=k12.le
 have g2:=k12.get (N+1+1) (by omega)
 simp at g2
 have hlt:N+1+1<n2':=by omega
 have hlt2:N+1+1<n1':=by have:=k1.le;omega
 simp[g2,ho5,splice,Zal,hlt,hlt2,Zao.chk,Ret]
 have he:a+ -b=a-b:=by omega
 rw[he]at hv2
 exact⟨(kk.trans k12).set (by omega),hv2.setNU g2 (by simp) rfl⟩
def Yfs{H:T O}{n1 n2:Int}{u1 u2:V}{r0:T V}(hx:In H (N+3) (.agg [.int .i64 n1,u1]) a)(hy:In H (N+3) (.agg [.int .i64 n2,u2]) b)(la:wl a<500000000000)(lb:wl b<500000000000)(hK:Keeps h N H (N+3))
  (gx:H.get N=some (.cells [.int .i64 n1,u1] 156 true)) (gy:H.get (N+1)=some (.cells [.int .i64 n2,u2] 156 true)) (gz:H.get (N+2)=some (.cells [.int .i64 0,.nilslice] 156 true)) (r2:r0.get 2=some (.ptr N 0)) (r3:r0.get 3=some (.ptr (N+1) 0)) (r4:r0.get 4=some (.ptr (N+2) 0)):
  Code A.C none A.ta165_0 ⟨r0,66,[]⟩ ⟨H,N+3,[]⟩ (fun e fr st=>e=.ret∧∃r,fr=⟨r,66,[]⟩∧r.get 4=some (.ptr (N+2) 0)∧Yl0 h N (N+2) (a*b) st):=by
 rw[Zaj]
 simp[A.ta165_0,r2,gx,Zam,slc]
 refine Zaf (Zeo hx) ?_
 rintro _ h1 N1 k1 ⟨ua,rfl,hua⟩
 have kle1:=k1.le
 have gy1:=(k1.get (N+1) (by omega)).trans gy
 have gz1:=(k1.get (N+2) (by omega)).trans gz
 simp[r3,gy1,Zam,slc]
 refine Zaf (Zeo (hy.keep k1)) ?_
 rintro _ h2 N2 k2 ⟨ub,rfl,hub⟩
 have kle2:=k2.le
 have gz2:=(k2.get (N+2) (by omega)).trans gz1
 have hua2:=hua.keep k2
 have la':(wds a.natAbs).length<500000000000:=la
 have lb':(wds b.natAbs).length<500000000000:=lb
 have kA:=(hK.trans k1).trans k2
 have wl3:=Zi0 a b
 simp[Zae]
 refine Zaf (Zto hua2 hub (by omega) (by omega)) ?_
 rintro v h3 N3 k3 hv
 have hmul:a.natAbs*b.natAbs=(a*b).natAbs:=(Yuc a b).symm
 rw[hmul]at hv
 simp[]
 refine Zaf (Zg6 hv (by unfold wl at wl3 la lb;omega)) ?_
 rintro v h4 N4 k4 hv
 obtain⟨n5,u5,rfl,ho5⟩:=hv.cells
 have gz4:=((k3.trans k4).get (N+2) (by omega)).trans gz2
 have kle4:=(k3.trans k4).le
 unfold V.one at ho5
 have hs:=Zvo a b
 have he:(if (!decide (a<0)==decide (b<0))=true then -((a*b).natAbs:Int) else (a*b).natAbs)=a*b:=by
  have h0:a=0∨b=0→a*b=0:=by rintro(rfl|rfl)<;>simp
  by_cases h1:a<0<;>by_cases h2:b<0<;>simp[h1,h2]at hs ⊢<;>omega
 rw[he]at hv
 simp[gz4,ho5,splice,Zal,r4]
 exact⟨by simp[Zad],((kA.trans k3).trans k4).set (by omega),n5,u5,by simp,hv.setNU gz4 (by simp) rfl⟩
def Zg3(hx:In h N x a)(hy:In h N y b)(la:wl a<500000000000)(lb:wl b<500000000000):Fn A.C 165 [x,y] h N (fun v h' n'=>In h' n' v (a*b)):=by
 intro w
 rw[Zac,A.k165 (by simp)]
 obtain⟨n1,u1,rfl,o1⟩:=hx.cells
 obtain⟨n2,u2,rfl,o2⟩:=hy.cells
 have kk:=kset (kset (kset (Keeps.refl (h:=h) (n:=N)) (.cells [.int .i64 n1,u1] 156 true)) (.cells [.int .i64 n2,u2] 156 true)) (.cells [.int .i64 0,.nilslice] 156 true)
 unfold V.one at o1 o2
 have go:∀r:T V,r.get 2=some (.ptr N 0)→r.get 3=some (.ptr (N+1) 0)→r.get 4=some (.ptr (N+2) 0)→Run A.C [.fin [.cell 4 (some 2)] ⟨h,N,w⟩] (exR (A.C.code none A.ta165_0 ⟨r,66,[]⟩ ⟨((h.set N (.cells [.int .i64 n1,u1] 156 true)).set (N+1) (.cells [.int .i64 n2,u2] 156 true)).set (N+1+1) (.cells [.int .i64 0,.nilslice] 156 true),N+1+1+1,[]⟩)) (Yee (Ret (fun v h' n'=>In h' n' v (a*b)) h N w)):=by
  intro r r2 r3 r4
  refine Zbo (Yfs (hx.keep kk) (hy.keep kk) la lb kk (by simp) (by simp) (by simp) r2 r3 r4) ?_
  rintro e fr ⟨h5,n5,w5⟩ ⟨rfl,r',rfl,r4',hW,hK,n6,u6,g6,hi⟩
  simp only at hW hK g6 hi
  simp[r4',g6,Zam,slc,Ret,hW]
  exact⟨hK,hi⟩
 rcases id hx with⟨e1,s1,s2⟩|⟨i,o,l,c,e1,_⟩
 ·simp only[V.agg.injEq,Ysm,V.int.injEq,true_and,and_true]at e1
  obtain⟨rfl,rfl⟩:=e1
  rcases id hy with⟨e2,t1,t2⟩|⟨i,o,l,c,e2,_⟩
  ·simp only[V.agg.injEq,Ysm,V.int.injEq,true_and,and_true]at e2
   obtain⟨rfl,rfl⟩:=e2
   have z1:=fun st=>Zsz s1 s2 (st:=st)
   have z2:=fun st=>Zsz t1 t2 (st:=st)
   have hm:n1.natAbs*n2.natAbs=(n1*n2).natAbs:=(Yuc _ _).symm
   have hlo:lo64 (n1.natAbs*n2.natAbs)+18446744073709551616*hi64 (n1.natAbs*n2.natAbs)=(n1*n2).natAbs:=by
    rw[←hm]
    have:=Ytp (n1.natAbs*n2.natAbs) 18446744073709551616
    unfold lo64 hi64;omega
   have hsgn:=Zvo n1 n2
   obtain⟨hi,hhi⟩:∃x,hi64 (n1.natAbs*n2.natAbs)=x:=⟨_,rfl⟩
   obtain⟨lo,hlo'⟩:∃x,lo64 (n1.natAbs*n2.natAbs)=x:=⟨_,rfl⟩
   rw[hhi,hlo']at hlo
   have hz:n1=0∨n2=0→n1*n2=0:=by rintro(rfl|rfl)<;>simp
   simp[A.b165,Zam,slc,splice,Zae,z1,z2]
   refine Zaf (Zjp (x:=n1.natAbs) (y:=n2.natAbs) (by omega) (by omega)) ?_
   rintro _ h' N' k ⟨rfl,rfl,rfl⟩
   rw[hhi,hlo']
   have d1:¬N=N+1:=by omega
   by_cases h0:hi=0
   ·by_cases h1:lo≤9223372036854775807
    ·have h1':(lo:Int)≤9223372036854775807:=by omega
     have w1:Zap .i64 (lo:Int)=lo:=Zak (by omega) (by omega)
     have w2:IntKind.wrap .i64 (-(lo:Int))= -(lo:Int):=Ziz (by omega) (by omega)
     by_cases hs:(n1<0)=(n2<0)
     ·have hs':(decide (n1<0)==decide (n2<0))=true:=by simp[hs]
      have hp:¬n1*n2<0:=by rw[hsgn];rintro⟨p,_⟩;exact p hs
      have he:(lo:Int)=n1*n2:=by omega
      simp[Zam,slc,splice,Zae,h0,h1',hs',w1,Ret,Zao.chk]
      exact⟨kk.set (by omega),by rw[←he];exact In.small (by omega) (by omega)⟩
     ·have hs':(decide (n1<0)==decide (n2<0))=false:=by
       by_cases h:n1<0<;>by_cases h':n2<0<;>simp_all
      have he: -(lo:Int)=n1*n2:=by
       by_cases hq:n1=0∨n2=0
       ·have:=hz hq;omega
       ·have:n1*n2<0:=hsgn.2 ⟨hs,fun h=>hq (.inl h),fun h=>hq (.inr h)⟩
        omega
      simp[Zam,slc,splice,Zae,h0,h1',hs',w1,w2,Ret,Zao.chk]
      exact⟨kk.set (by omega),by rw[←he];exact In.small (by omega) (by omega)⟩
    ·have h1':¬(lo:Int)≤9223372036854775807:=by omega
     simp[Zam,slc,splice,Zae,h0,h1',Zao.chk]
     exact go _ (by simp) (by simp) (by simp)
   ·simp[Zam,slc,splice,Zae,h0,Zao.chk]
    exact go _ (by simp) (by simp) (by simp)
  ·simp only[V.agg.injEq,Ysm,V.int.injEq,true_and,and_true]at e2
   obtain⟨rfl,rfl⟩:=e2
   simp[A.b165,Zam,slc,splice,Zae]
   exact go _ (by simp) (by simp) (by simp)
 ·simp only[V.agg.injEq,Ysm,V.int.injEq,true_and,and_true]at e1
  obtain⟨rfl,rfl⟩:=e1
  simp[A.b165,Zam,slc,splice,Zae,o2]
  exact go _ (by simp) (by simp) (by simp)
def Yip(hx:In h N x a)(hy:In h N y b)(la:wl a<100000000000)(lb:wl b<100000000000):Fn A.C 94 [x,y] h N (fun v _ _=>v=.int .i64 (sg3 (a-b))):=by
 intro w
 rw[Zac,A.k94 (by simp)]
 obtain⟨n1,u1,rfl,o1⟩:=hx.cells
 obtain⟨n2,u2,rfl,o2⟩:=hy.cells
 have kk:=kset (kset (Keeps.refl (h:=h) (n:=N)) (.cells [.int .i64 n1,u1] 156 true)) (.cells [.int .i64 n2,u2] 156 true)
 have hsb:=Yhs (hx.keep kk) (hy.keep kk) (by omega) (by omega)
 have wl3:=Zzh a (-b)
 rw[Zuz]at wl3
 unfold V.one at o1 o2
 rcases id hx with⟨e1,s1,s2⟩|⟨i,o,l,c,e1,_⟩
 ·simp only[V.agg.injEq,Ysm,V.int.injEq,true_and,and_true]at e1
  obtain⟨rfl,rfl⟩:=e1
  rcases id hy with⟨e2,t1,t2⟩|⟨i,o,l,c,e2,_⟩
  ·simp only[V.agg.injEq,Ysm,V.int.injEq,true_and,and_true]at e2
   obtain⟨rfl,rfl⟩:=e2
   by_cases h1:n1<n2
   ·simp[A.b94,Zam,slc,splice,Ret,Zae,h1]
    exact⟨kk,by unfold sg3;rw[Yr6 (by omega)]⟩
   ·by_cases h2:n2<n1
    ·simp[A.b94,Zam,slc,splice,Ret,Zae,h1,h2]
     exact⟨kk,by unfold sg3;rw[Yr3 (by omega),Yr3 (by omega)]⟩
    ·simp[A.b94,Zam,slc,splice,Ret,Zae,h1,h2]
     exact⟨kk,by unfold sg3;rw[Yr3 (by omega),Yr6 (by omega)]⟩
  ·simp only[V.agg.injEq,Ysm,V.int.injEq,true_and,and_true]at e2
   obtain⟨rfl,rfl⟩:=e2
   simp[A.b94,Zam,slc,splice,Zae]
   refine Zaf hsb ?_
   rintro v h1 n1' k1 hv
   simp[]
   refine Zaf (Zkl hv) ?_
   rintro _ h2 n2' k2 rfl
   simp[Ret]
   exact(kk.trans k1).trans k2
 ·simp only[V.agg.injEq,Ysm,V.int.injEq,true_and,and_true]at e1
  obtain⟨rfl,rfl⟩:=e1
  simp[A.b94,Zam,slc,splice,Zae,o2]
  refine Zaf hsb ?_
  rintro v h1 n1' k1 hv
  simp[]
  refine Zaf (Zkl hv) ?_
  rintro _ h2 n2' k2 rfl
  simp[Ret]
  exact(kk.trans k1).trans k2
def Yiu(hx:In h N x a)(la:wl a<500000000000):Fn A.C 159 [x] h N (fun v h' n'=>In h' n' v (a.natAbs:Int)):=by
 intro w
 rw[Zac,A.k159 (by simp)]
 obtain⟨n1,u1,rfl,o1⟩:=hx.cells
 have kk:=kset (kset (Keeps.refl (h:=h) (n:=N)) (.cells [.int .i64 n1,u1] 156 true)) (.cells [.int .i64 0,.nilslice] 156 true)
 have hng:=Zq8 (hx.keep kk) la
 have hsn:(n1<0)=(a<0):=by
  rcases hx with⟨e1,s1,s2⟩|⟨i,o,l,c,e1,_⟩
  ·simp only[V.agg.injEq,Ysm,V.int.injEq,true_and,and_true]at e1
   rw[e1.1]
  ·simp only[V.agg.injEq,Ysm,V.int.injEq,true_and,and_true]at e1
   rw[e1.1];unfold sgn;split<;>simp_all
 unfold V.one at o1
 by_cases h0:a<0
 ·have h1:n1<0:=by rw[hsn];exact h0
  simp[A.b159,Zam,slc,splice,o1,h1]
  refine Zaf hng ?_
  rintro v h2 n2 k2 hv
  obtain⟨n5,u5,rfl,ho5⟩:=hv.cells
  unfold V.one at ho5
  have kle:=k2.le
  have g2:=k2.get (N+1) (by omega)
  simp at g2
  have he:(-a)=(a.natAbs:Int):=by omega
  rw[he]at hv
  simp[g2,ho5,splice,Zal,Zam,slc,Ret]
  exact⟨(kk.trans k2).set (by omega),hv.setNU g2 (by simp) rfl⟩
 ·have h1:¬n1<0:=by rw[hsn];exact h0
  have he:a=(a.natAbs:Int):=by omega
  rw[he]at hx
  simp[A.b159,Zam,slc,splice,Zal,o1,h1,Ret]
  exact⟨kk.set (by omega),(hx.keep kk).setNU (i:=N+1) (c0:=[.int .i64 0,.nilslice]) (e0:=156) (w0:=true) (by simp) (by simp) rfl⟩
end Go.Mx
