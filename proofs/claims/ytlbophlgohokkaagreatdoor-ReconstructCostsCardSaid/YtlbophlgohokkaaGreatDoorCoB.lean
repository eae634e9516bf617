/-
  reconstruct: CheckInteraction, checkWeights, checkProblem; the checks of Residual and Cost.
-/
import Derived.Test.YtlbophlgohokkaaGreatDoorVbE
set_option linter.all false
namespace Go.Mx
open Go Go.Proofs
variable {N q:Nat} {ep:TypeId} {h:T O} {l:List Str} {m:List (List Str)} {u v:V} {wp wq:Bool}
set_option maxRecDepth 1000000
def A.b47:Zae:=sr [mc 2 0]
 (sr [mv 3 0,⟨(some 4),.build [(.int .i64 0),(.int .i64 0)] [(0,1,(.const (.int .i64 64))),(1,1,(.const (.int .i64 16)))],none⟩,c2 5 131 3 4,mv 2 5]
 (.ret))
theorem A.c47:A.F 47=some ⟨6,[.tmp 2],A.b47⟩:=by kernel_rfl
def A.k47:=@A.kk 47 _ _ _ A.c47 rfl
def A.b169:Zae:=sr [mc 4 0]
 (.seq (sr [mv 5 0,ln 6 5,mv 7 1,⟨(some 8),.bin .neq (.prim .int) false (.tmp 6) (.tmp 7),none⟩]
 (cd 8
 (sr [mc 4 2]
 (.ret))
 (.skip)))
 (sr [mv 9 0,⟨(some 10),.call (.const (.func 85 [] [])) [(.const (.int .i64 1))],none⟩,c2 11 84 9 10,mv 4 11]
 (.ret)))
theorem A.c169:A.F 169=some ⟨12,[.tmp 4],A.b169⟩:=by kernel_rfl
def A.k169:=@A.kk 169 _ _ _ A.c169 rfl
def A.b167:Zae:=sr [mc 1 0]
 (sr [ld 2 0,c1 3 47 2,mv 1 3]
 (.ret))
theorem A.c167:A.F 167=some ⟨4,[.tmp 1],A.b167⟩:=by kernel_rfl
def A.k167:=@A.kk 167 _ _ _ A.c167 rfl
def A.b168:Zae:=sr [mc 2 0]
 (sr [ld 3 0,ld 4 1,ln 5 4,c2 6 169 3 5,mv 2 6]
 (.ret))
theorem A.c168:A.F 168=some ⟨7,[.tmp 2],A.b168⟩:=by kernel_rfl
def A.k168:=@A.kk 168 _ _ _ A.c168 rfl
def A.b103:Zae:=sr [bx 2 22 0,bx 3 23 1,mc 4 0]
 (sr [⟨(some 5),.mkfunc 167 [] [(.tmp 2)],none⟩,⟨(some 6),.mkfunc 168 [] [(.tmp 3),(.tmp 2)],none⟩,⟨(some 7),.bslice 94 1 2 [.nilfunc,.nilfunc] [(0,1,(.tmp 5)),(1,1,(.tmp 6))],none⟩,c1 8 64 7,mv 4 8]
 (.ret))
theorem A.c103:A.F 103=some ⟨9,[.tmp 4],A.b103⟩:=by kernel_rfl
def A.k103:=@A.kk 103 _ _ _ A.c103 rfl
def A.b98:Zae:=sr [mc 1 0]
 (sr [ld 2 0,c1 3 47 2,mv 1 3]
 (.ret))
theorem A.c98:A.F 98=some ⟨4,[.tmp 1],A.b98⟩:=by kernel_rfl
def A.k98:=@A.kk 98 _ _ _ A.c98 rfl
def A.b99:Zae:=sr [mc 2 0]
 (sr [ld 3 0,ld 4 1,ln 5 4,c2 6 68 3 5,mv 2 6]
 (.ret))
theorem A.c99:A.F 99=some ⟨7,[.tmp 2],A.b99⟩:=by kernel_rfl
def A.k99:=@A.kk 99 _ _ _ A.c99 rfl
def A.b100:Zae:=sr [mc 2 0]
 (.seq (.regD [ld 3 0,ld 4 1,⟨(some 5),.iaddrSl 1 (.tmp 4) (.const (.int .i64 0)),none⟩,ld 6 5,ln 7 6,c2 8 68 3 7,mv 2 8] [0,0,2,6,14,31,63])
 (.ret))
theorem A.c100:A.F 100=some ⟨9,[.tmp 2],A.b100⟩:=by kernel_rfl
def A.k100:=@A.kk 100 _ _ _ A.c100 rfl
def A.b102:Zae:=sr [mc 2 0]
 (sr [ld 3 0,ld 4 1,c2 5 103 3 4,mv 2 5]
 (.ret))
theorem A.c102:A.F 102=some ⟨6,[.tmp 2],A.b102⟩:=by kernel_rfl
def A.k102:=@A.kk 102 _ _ _ A.c102 rfl
def A.b104:Zae:=sr [mc 2 0]
 (sr [ld 3 0,ld 4 1,ln 5 4,c2 6 68 3 5,mv 2 6]
 (.ret))
theorem A.c104:A.F 104=some ⟨7,[.tmp 2],A.b104⟩:=by kernel_rfl
def A.k104:=@A.kk 104 _ _ _ A.c104 rfl
def A.b105:Zae:=sr [mc 2 0]
 (.seq (.regD [ld 3 0,ld 4 1,⟨(some 5),.iaddrSl 1 (.tmp 4) (.const (.int .i64 0)),none⟩,ld 6 5,ln 7 6,c2 8 68 3 7,mv 2 8] [0,0,2,6,14,31,63])
 (.ret))
theorem A.c105:A.F 105=some ⟨9,[.tmp 2],A.b105⟩:=by kernel_rfl
def A.k105:=@A.kk 105 _ _ _ A.c105 rfl
theorem Zpm{l:List (List Str)}(hs:MtS h N v l)(hl:l.length<100000)(hx:∀x∈l,x.length<100000∧∀s∈x,s.length≤100000):Fn A.C 47 [v] h N (fun u _ _=>u=.int .i64 (Zhh l 64 16)):=by
 intro w
 rw[Zaa,A.k47 (by simp)]
 simp[A.b47,splice]
 refine Zab (Yet (a:=64) (b:=16) hs hl hx) ?_
 rintro _ H2 n2 k2 rfl
 simp[Ret]
 exact k2
theorem Zh2(h:Zhh m 64 16=0)(hs:Zco 6 6 m=true):OkM m (hdL m):=by
 obtain⟨s1,s2⟩:=Zoe hs
 unfold Zhh at h
 split at h
 ·exact absurd h (by decide)
 split at h
 ·exact absurd h (by decide)
 rename_i h1 h2
 have hp:0<m.length:=by omega
 obtain⟨r0,hr0,e0⟩:=Ynf hp
 refine⟨hp,Zm1 s1 (by omega),by omega,?_,fun r hr=>Zj9 (Za5 h _ (Ysv.2 ⟨r,hr,rfl⟩)) (s2 r hr)⟩
 rw[e0]
 exact Zm1 (Zqs (s2 r0 hr0)) (by omega)
theorem Ymu{n:Nat}(ht:Sl h N v (strs l))(hll:l.length<100000)(hlx:∀s∈l,s.length≤100000):Fn A.C 169 [v,.int .i64 n] h N (fun z _ _=>z=.int .i64 (Zso l n 1)):=by
 intro w
 have ll:=ht.len
 rw[Zb3]at ll
 have sg:∀w,A.C.call (.func 85 [] []) [.int .i64 1] ⟨h,N,w⟩=some (.func 155 [] [.ptr N 0],⟨h.set N (.cells [.int .i64 1] 3 true),N+1,w⟩):=fun w=>by
  apply Call.eq
  rw[Zaa,A.k85 (by simp)]
  simp[A.b85]
 have e1:((l.length:Int)=(n:Int))=(l.length=n):=by apply propext;omega
 rw[Zaa,A.k169 (by simp)]
 by_cases c:l.length=n
 ·subst c
  simp[A.b169,ll,sg]
  have k1:Keeps h N (h.set N (.cells [.int .i64 1] 3 true)) (N+1):=Keeps.refl.new _
  refine Zab (Yci (Zgj 1) (ht.keep k1) hll fun s hs h' n' hk=>Zwv (z:=1) (e:=3) (rw:=true) (by rw[hk.get N (by omega)];simp) (by have:=hk.le;omega) (hlx s hs)) ?_
  rintro _ H2 n2 k2 rfl
  simp[Ret,Zso]
  exact k1.trans k2
 ·simp[A.b169,ll,e1,c,Ret,Zso]
  exact Keeps.refl
theorem Yle{l:List Str}{eq:TypeId}(hgq:h.get q=some (.cells [u] eq wq))(hlq:q<N)(hs:MtS h N u m)(hml:m.length<100000)(hmx:∀x∈m,x.length<100000∧∀s∈x,s.length≤100000):FnV A.C (.func 167 [] [.ptr q 0]) [] h N (fun z _ _=>z=.int .i64 (Zhh m 64 16)):=by
 intro w
 rw[Zaa,A.k167 (by simp)]
 simp[A.b167,hgq]
 refine Zab (Zpm hs hml hmx) ?_
 rintro _ H2 n2 k2 rfl
 simp[Ret]
 exact k2
theorem Yld{p:Nat}{eq:TypeId}(hgp:h.get p=some (.cells [v] ep wp))(hlp:p<N)(hgq:h.get q=some (.cells [u] eq wq))(hlq:q<N)(hs:MtS h N u m)(hml:m.length<100000)(hmx:∀x∈m,x.length<100000∧∀s∈x,s.length≤100000)(ht:Sl h N v (strs l))(hll:l.length<100000)(hlx:∀s∈l,s.length≤100000):FnV A.C (.func 168 [] [.ptr p 0,.ptr q 0]) [] h N (fun z _ _=>z=.int .i64 (Zso l m.length 1)):=by
 intro w
 have ml:=hs.len
 rw[Zaa,A.k168 (by simp)]
 simp[A.b168,hgq,hgp,ml]
 refine Zab (Ymu ht hll hlx) ?_
 rintro _ H2 n2 k2 rfl
 simp[Ret]
 exact k2
theorem Yjf{l:List Str}{eq:TypeId}(hgq:h.get q=some (.cells [u] eq wq))(hlq:q<N)(hs:MtS h N u m)(hml:m.length<100000)(hmx:∀x∈m,x.length<100000∧∀s∈x,s.length≤100000):FnV A.C (.func 98 [] [.ptr q 0]) [] h N (fun z _ _=>z=.int .i64 (Zhh m 64 16)):=by
 intro w
 rw[Zaa,A.k98 (by simp)]
 simp[A.b98,hgq]
 refine Zab (Zpm hs hml hmx) ?_
 rintro _ H2 n2 k2 rfl
 simp[Ret]
 exact k2
theorem Yje{p:Nat}{eq:TypeId}(hgp:h.get p=some (.cells [v] ep wp))(hlp:p<N)(hgq:h.get q=some (.cells [u] eq wq))(hlq:q<N)(hs:MtS h N u m)(hml:m.length<100000)(hmx:∀x∈m,x.length<100000∧∀s∈x,s.length≤100000)(ht:Sl h N v (strs l))(hll:l.length<100000)(hlx:∀s∈l,s.length≤100000):FnV A.C (.func 99 [] [.ptr p 0,.ptr q 0]) [] h N (fun z _ _=>z=.int .i64 (Zb1 l m.length)):=by
 intro w
 have ml:=hs.len
 rw[Zaa,A.k99 (by simp)]
 simp[A.b99,hgq,hgp,ml]
 refine Zab (Zg0 ht hll hlx) ?_
 rintro _ H2 n2 k2 rfl
 simp[Ret]
 exact k2
theorem Yjd{p:Nat}{eq:TypeId}(hgp:h.get p=some (.cells [v] ep wp))(hlp:p<N)(hgq:h.get q=some (.cells [u] eq wq))(hlq:q<N)(hs:MtS h N u m)(hml:m.length<100000)(hmx:∀x∈m,x.length<100000∧∀s∈x,s.length≤100000)(ht:Sl h N v (strs l))(hll:l.length<100000)(hlx:∀s∈l,s.length≤100000)(m0:0<m.length):FnV A.C (.func 100 [] [.ptr p 0,.ptr q 0]) [] h N (fun z _ _=>z=.int .i64 (Zb1 l (hdL m))):=by
 intro w
 have ml:=hs.len
 have cpos':0<(m.length:Int):=by omega
 obtain⟨l0,hl0⟩:=Zag m0
 obtain⟨i0,o0,cc0,e0,rw0,u0,z1,z2,z3,z4,z5⟩:=hs.at hl0
 have z6:=z5.len
 rw[Zb3]at z6
 rw[Ys9]at z4
 obtain⟨n,hn⟩:∃n,n=l0.length:=⟨_,rfl⟩
 have en:hdL m=n:=by simp[hdL,hl0,hn]
 rw[en]
 rw[←hn]at z6
 rw[Zaa,A.k100 (by simp)]
 simp[A.b100,hgq,hgp,ml,m0,z1,z2,z3,z4,z6]
 refine Zab (Zg0 ht hll hlx) ?_
 rintro _ H2 n2 k2 rfl
 have kle:=k2.le
 simp[]
 refine(Zfo (by simp[-Zac,hlq,hlp])).2 ?_
 simp[Ret]
 exact k2
theorem Ygp{p:Nat}{eq:TypeId}(hgp:h.get p=some (.cells [v] ep wp))(hlp:p<N)(hgq:h.get q=some (.cells [u] eq wq))(hlq:q<N)(hs:MtS h N u m)(hml:m.length<100000)(hmx:∀x∈m,x.length<100000∧∀s∈x,s.length≤100000)(ht:Sl h N v (strs l))(hll:l.length<100000)(hlx:∀s∈l,s.length≤100000):FnV A.C (.func 104 [] [.ptr p 0,.ptr q 0]) [] h N (fun z _ _=>z=.int .i64 (Zb1 l m.length)):=by
 intro w
 have ml:=hs.len
 rw[Zaa,A.k104 (by simp)]
 simp[A.b104,hgq,hgp,ml]
 refine Zab (Zg0 ht hll hlx) ?_
 rintro _ H2 n2 k2 rfl
 simp[Ret]
 exact k2
theorem Ygo{p:Nat}{eq:TypeId}(hgp:h.get p=some (.cells [v] ep wp))(hlp:p<N)(hgq:h.get q=some (.cells [u] eq wq))(hlq:q<N)(hs:MtS h N u m)(hml:m.length<100000)(hmx:∀x∈m,x.length<100000∧∀s∈x,s.length≤100000)(ht:Sl h N v (strs l))(hll:l.length<100000)(hlx:∀s∈l,s.length≤100000)(m0:0<m.length):FnV A.C (.func 105 [] [.ptr p 0,.ptr q 0]) [] h N (fun z _ _=>z=.int .i64 (Zb1 l (hdL m))):=by
 intro w
 have ml:=hs.len
 have cpos':0<(m.length:Int):=by omega
 obtain⟨l0,hl0⟩:=Zag m0
 obtain⟨i0,o0,cc0,e0,rw0,u0,z1,z2,z3,z4,z5⟩:=hs.at hl0
 have z6:=z5.len
 rw[Zb3]at z6
 rw[Ys9]at z4
 obtain⟨n,hn⟩:∃n,n=l0.length:=⟨_,rfl⟩
 have en:hdL m=n:=by simp[hdL,hl0,hn]
 rw[en]
 rw[←hn]at z6
 rw[Zaa,A.k105 (by simp)]
 simp[A.b105,hgq,hgp,ml,m0,z1,z2,z3,z4,z6]
 refine Zab (Zg0 ht hll hlx) ?_
 rintro _ H2 n2 k2 rfl
 have kle:=k2.le
 simp[]
 refine(Zfo (by simp[-Zac,hlq,hlp])).2 ?_
 simp[Ret]
 exact k2
theorem MtS.one(hm:MtS h N u m):V.one u=true∧V.cells u=[u]:=by
 obtain⟨us,⟨_,rfl|rfl⟩|⟨i,o,cp,c,e,rw,rfl,_⟩,_⟩:=hm<;>exact⟨rfl,rfl⟩
def Yaf(m:List (List Str))(l:List Str):Int:=Zak [Zhh m 64 16,Zso l m.length 1]
theorem Ynt(hm:MtS h N u m)(hl:Sl h N v (strs l))(m1:m.length<100000)(m2:∀x∈m,x.length<100000∧∀s∈x,s.length≤100000)(l1:l.length<100000)(l2:∀s∈l,s.length≤100000):Fn A.C 103 [u,v] h N (fun z _ _=>z=.int .i64 (Yaf m l)):=by
 intro w
 have o2:=hl.form.one
 have o3:=hl.form.cells
 obtain⟨o4,o5⟩:=hm.one
 rw[Zaa,A.k103 (by simp)]
 unfold V.one at o2 o4
 unfold V.cells at o3 o5
 simp[A.b103,o2,o3,o4,o5,splice]
 generalize hH:((h.set N (.cells [u] 22 true)).set (N+1) (.cells [v] 23 true)).set (N+1+1) (.cells [.func 167 [] [.ptr N 0],.func 168 [] [.ptr (N+1) 0,.ptr N 0]] 94 true)=H
 have kB:Keeps h N H (N+1+1+1):=by rw[←hH];exact((Keeps.refl.new _).new _).new _
 have g0:H.get N=some (.cells [u] 22 true):=by rw[←hH];simp
 have g1:H.get (N+1)=some (.cells [v] 23 true):=by rw[←hH];simp
 have g2:H.get (N+1+1)=some (.cells [.func 167 [] [.ptr N 0],.func 168 [] [.ptr (N+1) 0,.ptr N 0]] 94 true):=by rw[←hH];simp
 clear hH
 have hs:Sl H (N+1+1+1) (.slice (N+1+1) 0 2 (some 2) 1) [.func 167 [] [.ptr N 0],.func 168 [] [.ptr (N+1) 0,.ptr N 0]]:=Sl.row (by omega) g2 rfl (fun k hk=>by simp at hk;omega)
 have key:=Zqb (l:=[Zhh m 64 16,Zso l m.length 1]) hs rfl (by simp) (Yjq (P:=fun f e _=>∀h' n',Keeps H (N+1+1+1) h' n'→FnV A.C f [] h' n' (fun u _ _=>u=.int .i64 e)) (fun h' n' hk=>Yle (l:=l) ((hk.get N (by omega)).trans g0) (by have:=hk.le;omega) ((hm.keep kB).keep hk) m1 m2) (fun hz h' n' hk=>Yld ((hk.get (N+1) (by omega)).trans g1) (by have:=hk.le;omega) ((hk.get N (by omega)).trans g0) (by have:=hk.le;omega) ((hm.keep kB).keep hk) m1 m2 ((hl.keep kB).keep hk) l1 l2))
 change Fn A.C 64 _ H _ (fun u _ _=>u=.int .i64 (Yaf m l))at key
 refine Zab key ?_
 rintro _ H2 n2 k2 rfl
 simp[Ret]
 exact kB.trans k2
theorem Ygq{p:Nat}{eq:TypeId}(hgq:h.get q=some (.cells [u] eq wq))(hlq:q<N)(hgp:h.get p=some (.cells [v] ep wp))(hlp:p<N)(hs:MtS h N u m)(hml:m.length<100000)(hmx:∀x∈m,x.length<100000∧∀s∈x,s.length≤100000)(ht:Sl h N v (strs l))(hll:l.length<100000)(hlx:∀s∈l,s.length≤100000):FnV A.C (.func 102 [] [.ptr q 0,.ptr p 0]) [] h N (fun z _ _=>z=.int .i64 (Yaf m l)):=by
 intro w
 rw[Zaa,A.k102 (by simp)]
 simp[A.b102,hgq,hgp]
 refine Zab (Ynt hs ht hml hmx hll hlx) ?_
 rintro _ H2 n2 k2 rfl
 simp[Ret]
 exact k2
variable {m:List (List Str)} {n:Nat} {s x:List Str}
set_option maxHeartbeats 4000000
def A.b101:Zae:=sr [mN 6]
 (sr [mv 7 1,mv 8 0,mv 9 2,c2 10 70 8 9,⟨(some 11),.call (.const (.func 89 [] [])) [(.tmp 7),(.tmp 10),(.const (.func 119 [] []))],none⟩,mv 6 11]
 (.ret))
theorem A.c101:A.F 101=some ⟨12,[.tmp 6],A.b101⟩:=by kernel_rfl
def A.k101:=@A.kk 101 _ _ _ A.c101 rfl
def A.b24:Zae:=sr [bx 3 22 0,bx 4 23 1,bx 5 23 2,mN 6,mc 7 0]
 (sr [⟨(some 9),.mkfunc 98 [] [(.tmp 3)],none⟩,⟨(some 10),.mkfunc 99 [] [(.tmp 4),(.tmp 3)],none⟩,⟨(some 11),.mkfunc 100 [] [(.tmp 5),(.tmp 3)],none⟩,⟨(some 12),.bslice 94 1 3 [.nilfunc,.nilfunc,.nilfunc] [(0,1,(.tmp 9)),(1,1,(.tmp 10)),(2,1,(.tmp 11))],none⟩,c1 13 64 12,mv 8 13]
 (.seq (sr [mv 14 8,ni 15 14 0]
 (cd 15
 (sr [mv 16 8,mN 6,mv 7 16]
 (.ret))
 (.skip)))
 (.seq (.regD [ld 17 3,c1 18 71 17,ld 19 4,c1 20 72 19,ld 21 5,c1 22 72 21,⟨(some 23),.call (.const (.func 101 [] [])) [(.tmp 18),(.tmp 20),(.tmp 22)],none⟩,c1 24 69 23,xt 25 24 0,xt 26 24 1,mv 6 25,mv 7 26] [0,1,0,7,0,31,63,127,255,255,1023,2047])
 (.ret))))
theorem A.c24:A.F 24=some ⟨27,[.tmp 6,.tmp 7],A.b24⟩:=by kernel_rfl
def A.k24:=@A.kk 24 _ _ _ A.c24 rfl
theorem Yaw(h:OkM m n){l:List Str}(hL:OkL l)(hn:l.length=n):∀q∈(Zgs m).map (fun r=>Zny r (Ze0 l)),Qb 1207 q:=fun q hq=>by
 obtain⟨r,hr,rfl⟩:=Ysv.1 hq
 obtain⟨a1,a2⟩:=h.rat r hr
 have hd:=Zue (n:=6) (j:=100) (k:=100) a2 hL.qb (by decide) (by decide) (by have:=h.n6;omega)
 exact hd.mono (by decide)
theorem Yiv{a b:List Rat}{j k:Nat}(ha:∀q∈a,Qb j q)(hb:∀q∈b,Qb k q)(hj:1≤j)(hk:1≤k):∀q∈Yiw a b,Qb (j+k+1) q:=fun q hq=>by
 unfold Yiw Zl2 at hq
 obtain⟨i,_,rfl⟩:=Ysv.1 hq
 have h1:=Zkt ha hj i
 have h2:=Zkt hb hk i
 have h3:Qb k (-(b[i]?.getD 0)):=⟨by rw[Rat.neg_num,Yuk];exact h2.1,by rw[Rat.neg_den];exact h2.2⟩
 have:=h1.add h3
 rw[←Rat.sub_eq_add_neg]at this
 exact this
theorem Zmh{h:T O}{N:Nat}{u v y:V}{m:List (List Rat)}{a b:List Rat}(hu:MfS h N u m)(hv:FrS h N v a)(hy:FrS h N y b)(hm:∀r∈m,r.length=n∧∀q∈r,Qb 100 q)(hn:n=b.length)(n6:n≤6)(ha:∀q∈a,Qb 100 q)(hb:∀q∈b,Qb 100 q)(hml:m.length<1000)(hal:a.length=m.length):Fn A.C 101 [u,v,y] h N (fun x h' n'=>FrT h' n' x (Yiw a (m.map fun r=>Zny r b))):=by
 intro w
 rw[Zaa,A.k101 (by simp)]
 simp[A.b101]
 refine Zab (Yae (n:=n) (j:=100) (k:=100) hu hy hm (by omega) hb (by decide) (by decide) (by omega) (by omega)) ?_
 rintro x H2 n2 k2 hx
 simp[]
 refine Zab (Yfn (j:=100) (k:=1207) (hv.keep k2) hx.1 (by simp;omega) ha (fun q hq=>?_) (by decide) (by decide) (by omega)) ?_
 ·obtain⟨r,hr,rfl⟩:=Ysv.1 hq
  obtain⟨a1,a2⟩:=hm r hr
  have hd:=Zue (n:=6) (j:=100) (k:=100) a2 hb (by decide) (by decide) (by omega)
  exact hd.mono (by decide)
 rintro z H3 n3 k3 hz
 simp[Ret]
 exact⟨k2.trans k3,hz⟩
def Ztd(m:List (List Str))(s x:List Str):Int:=Zak [Zhh m 64 16,Zb1 s m.length,Zb1 x (hdL m)]
def resQ(m:List (List Str))(s x:List Str):List Rat:=Yiw (Ze0 s) ((Zgs m).map fun r=>Zny r (Ze0 x))
theorem Yhh(h:Ztd m s x=0)(sm:Zco 6 6 m=true)(ss:Zay 6 s=true)(sx:Zay 6 x=true):OkM m (hdL m)∧(s.length=m.length∧OkL s)∧(x.length=hdL m∧OkL x):=
 ⟨Zh2 (Za5 h (Zhh m 64 16) (by simp)) sm,Zj9 (Za5 h (Zb1 s m.length) (by simp)) ss,Zj9 (Za5 h (Zb1 x (hdL m)) (by simp)) sx⟩
theorem Zmi(hM:OkM m n)(hs:OkL s)(hx:OkL x)(hn:x.length=n):∀q∈resQ m s x,Qb 1308 q:=Yiv hs.qb (Yaw hM hx hn) (by decide) (by decide)
theorem Yen{h:T O}{N:Nat}{u v y:V}(hm:MtS h N u m)(hv:Sl h N v (strs s))(hy:Sl h N y (strs x))(hP:P10 h N)(sm:Zco 6 6 m=true)(ss:Zay 6 s=true)(sx:Zay 6 x=true):Fn A.C 24 [u,v,y] h N (fun z h' n'=>Ypv (Ztd m s x) (resQ m s x) z h' n'):=by
 intro w
 obtain⟨m1,m2⟩:=Zhr sm
 obtain⟨l1,l2⟩:=Zb4 ss
 obtain⟨x1,x2⟩:=Zb4 sx
 obtain⟨o4,o5⟩:=hm.one
 have o2:=hv.form.one
 have o3:=hv.form.cells
 have o6:=hy.form.one
 have o7:=hy.form.cells
 rw[Zaa,A.k24 (by simp)]
 unfold V.one at o2 o4 o6
 unfold V.cells at o3 o5 o7
 simp[A.b24,o2,o3,o4,o5,o6,o7,splice]
 generalize hH:(((h.set N (.cells [u] 22 true)).set (N+1) (.cells [v] 23 true)).set (N+1+1) (.cells [y] 23 true)).set (N+1+1+1) (.cells [.func 98 [] [.ptr N 0],.func 99 [] [.ptr (N+1) 0,.ptr N 0],.func 100 [] [.ptr (N+1+1) 0,.ptr N 0]] 94 true)=H
 have kB:Keeps h N H (N+1+1+1+1):=by rw[←hH];exact(((Keeps.refl.new _).new _).new _).new _
 have g0:H.get N=some (.cells [u] 22 true):=by rw[←hH];simp
 have g1:H.get (N+1)=some (.cells [v] 23 true):=by rw[←hH];simp
 have g2:H.get (N+1+1)=some (.cells [y] 23 true):=by rw[←hH];simp
 have g3:H.get (N+1+1+1)=some (.cells [.func 98 [] [.ptr N 0],.func 99 [] [.ptr (N+1) 0,.ptr N 0],.func 100 [] [.ptr (N+1+1) 0,.ptr N 0]] 94 true):=by rw[←hH];simp
 clear hH
 have hs:Sl H (N+1+1+1+1) (.slice (N+1+1+1) 0 3 (some 3) 1) [.func 98 [] [.ptr N 0],.func 99 [] [.ptr (N+1) 0,.ptr N 0],.func 100 [] [.ptr (N+1+1) 0,.ptr N 0]]:=Sl.row (by omega) g3 rfl (fun k hk=>by simp at hk;omega)
 have key:=Zqb (l:=[Zhh m 64 16,Zb1 s m.length,Zb1 x (hdL m)]) hs rfl (by simp) (Zve (P:=fun f e=>∀h' n',Keeps H (N+1+1+1+1) h' n'→FnV A.C f [] h' n' (fun u _ _=>u=.int .i64 e)) (fun h' n' hk=>Yjf (l:=s) ((hk.get N (by omega)).trans g0) (by have:=hk.le;omega) ((hm.keep kB).keep hk) m1 m2) (fun hz h' n' hk=>Yje ((hk.get (N+1) (by omega)).trans g1) (by have:=hk.le;omega) ((hk.get N (by omega)).trans g0) (by have:=hk.le;omega) ((hm.keep kB).keep hk) m1 m2 ((hv.keep kB).keep hk) l1 l2) (fun hz _ h' n' hk=>Yjd ((hk.get (N+1+1) (by omega)).trans g2) (by have:=hk.le;omega) ((hk.get N (by omega)).trans g0) (by have:=hk.le;omega) ((hm.keep kB).keep hk) m1 m2 ((hy.keep kB).keep hk) x1 x2 (Zh2 hz sm).pos))
 change Fn A.C 64 _ H _ (fun u _ _=>u=.int .i64 (Ztd m s x))at key
 refine Zab key ?_
 rintro _ H2 n2 k2 rfl
 have le2:=k2.le
 by_cases hE:Ztd m s x=0
 ·obtain⟨hM,⟨z2,hS⟩,⟨z3,hX⟩⟩:=Yhh hE sm ss sx
  have n6:=hM.n6
  have m6:=hM.le
  have g4:=(k2.get N (by omega)).trans g0
  have g5:=(k2.get (N+1) (by omega)).trans g1
  have g6:=(k2.get (N+1+1) (by omega)).trans g2
  have kC:=kB.trans k2
  have d1:N<n2:=by omega
  have d2:N+1<n2:=by omega
  have d22:N+1+1<n2:=by omega
  simp[hE,g4]
  refine Zab (Zu5 (k0:=100) ((hm.keep kC).rat fun r hr=>(hM.row r hr).2) (by simp[Zgs];omega) (fun r hr=>by obtain⟨a1,a2⟩:=hM.rat r hr;exact⟨by omega,a2⟩) (by decide)) ?_
  rintro q H3 n3 k3 hq
  have le3:=k3.le
  have g7:=(k3.get (N+1) (by omega)).trans g5
  have g8:=(k3.get (N+1+1) (by omega)).trans g6
  have d3:N+1<n3:=by omega
  have d33:N+1+1<n3:=by omega
  simp[g7]
  refine Zab (Zew (l:=Ze0 s) (k0:=100) (OkL.sl ((hv.keep kC).keep k3) hS) (by simp[Ze0];omega) hS.qb (by decide)) ?_
  rintro z H4 n4 k4 hz
  have le4:=k4.le
  have g9:=(k4.get (N+1+1) (by omega)).trans g8
  have d4:N+1+1<n4:=by omega
  simp[g9]
  refine Zab (Zew (l:=Ze0 x) (k0:=100) (OkL.sl (((hy.keep kC).keep k3).keep k4) hX) (by simp[Ze0];omega) hX.qb (by decide)) ?_
  rintro p H5 n5 k5 hp
  have le5:=k5.le
  simp[]
  refine Zab (Zmh (n:=hdL m) ((hq.keep k4).keep k5) (hz.1.keep k5) hp.1 hM.rat (by simp[Ze0,z3]) n6 hS.qb hX.qb (by simp[Zgs];omega) (by simp[Ze0,Zgs,z2])) ?_
  rintro t H6 n6' k6 ht
  have le6:=k6.le
  simp[]
  have kD:=(((kC.trans k3).trans k4).trans k5).trans k6
  refine Zab (Yis (l:=resQ m s x) (k:=1308) ht.1 (hP.keep kD) (by simp[resQ,Yiw,Zfv,Ze0];omega) (Zmi hM hS hX z3) (by decide)) ?_
  rintro a H7 n7 k7 ha
  have kE:=kD.trans k7
  rcases ha with⟨t1,rfl⟩|⟨t1,v2,rfl,t2⟩
  ·simp
   refine(Zfo (by simp[-Zac,d1,d3,d4]<;>omega)).2 ?_
   simp[Ret]
   exact⟨kE,.inr ⟨rfl,.inl ⟨t1,rfl⟩⟩⟩
  ·simp
   refine(Zfo (by simp[-Zac,d1,d3,d4]<;>omega)).2 ?_
   simp[Ret]
   exact⟨kE,.inr ⟨rfl,.inr ⟨t1,v2,rfl,t2⟩⟩⟩
 ·simp[hE,Ret]
  exact⟨kB.trans k2,.inl ⟨hE,rfl⟩⟩
variable {m:List (List Str)} {s w x:List Str}
set_option maxHeartbeats 4000000
def A.b25:Zae:=sr [bx 4 22 0,bx 5 23 1,bx 6 23 2,bx 7 23 3,⟨(some 8),.mov (.const (.str [])),none⟩,mc 9 0]
 (sr [⟨(some 13),.mkfunc 102 [] [(.tmp 4),(.tmp 5)],none⟩,⟨(some 14),.mkfunc 104 [] [(.tmp 6),(.tmp 4)],none⟩,⟨(some 15),.mkfunc 105 [] [(.tmp 7),(.tmp 4)],none⟩,⟨(some 16),.bslice 94 1 3 [.nilfunc,.nilfunc,.nilfunc] [(0,1,(.tmp 13)),(1,1,(.tmp 14)),(2,1,(.tmp 15))],none⟩,c1 17 64 16,mv 10 17]
 (.seq (sr [mv 18 10,ni 19 18 0]
 (cd 19
 (sr [mv 20 10,⟨(some 8),.mov (.const (.str [])),none⟩,mv 9 20]
 (.ret))
 (.skip)))
 (.seq (.regD [ld 21 4,c1 22 71 21,ld 23 6,c1 24 72 23,ld 25 7,c1 26 72 25,⟨(some 27),.call (.const (.func 101 [] [])) [(.tmp 22),(.tmp 24),(.tmp 26)],none⟩,mv 11 27] [0,1,0,7,0,31,63,127])
 (sr [mv 28 11,ld 29 5,c1 30 72 29,⟨(some 31),.call (.const (.func 89 [] [])) [(.tmp 28),(.tmp 30),(.const (.func 90 [] []))],none⟩,mv 32 11,c2 33 88 31 32,⟨(some 12),.alloc [(.int .i64 0),.nilslice,(.int .i64 0),.nilslice] 114,none⟩,⟨none,.store 4 (.tmp 12) (.tmp 33),none⟩]
 (.seq (sr [lN 34 4 12,c1 35 106 34]
 (cd 35
 (sr [⟨(some 8),.mov (.const (.str [])),none⟩,mc 9 4]
 (.ret))
 (.skip)))
 (sr [lN 36 4 12,c1 37 107 36,mv 8 37,mc 9 0]
 (.ret)))))))
theorem A.c25:A.F 25=some ⟨38,[.tmp 8,.tmp 9],A.b25⟩:=by kernel_rfl
def A.k25:=@A.kk 25 _ _ _ A.c25 rfl
def Ylx(e:Int)(q:Rat)(x:V):Prop:=(e≠0∧x=.tup [.str [],.int .i64 e])∨(e=0∧((Zwg q=true∧x=.tup [.str [],.int .i64 4])∨(Zwg q=false∧x=.tup [.str (Za1 q),.int .i64 0])))
def Zv7(m:List (List Str))(w s x:List Str):Int:=Zak [Yaf m w,Zb1 s m.length,Zb1 x (hdL m)]
def Yc2(m:List (List Str))(w s x:List Str):Rat:=Zny (wtN (resQ m s x) (Ze0 w) (resQ m s x).length) (resQ m s x)
theorem Yhk(h:Yaf m w=0)(sm:Zco 6 6 m=true)(sw:Zay 6 w=true):OkM m (hdL m)∧w.length=m.length∧OkL w:=by
 have h1:=Za5 h (Zhh m 64 16) (by simp)
 have h2:=Za5 h (Zso w m.length 1) (by simp)
 refine⟨Zh2 h1 sm,?_⟩
 unfold Zso at h2
 split at h2
 ·rename_i e
  exact⟨e,Ylk h2 sw⟩
 ·exact absurd h2 (by decide)
theorem Yh7(h:Zv7 m w s x=0)(sm:Zco 6 6 m=true)(sw:Zay 6 w=true)(ss:Zay 6 s=true)(sx:Zay 6 x=true):OkM m (hdL m)∧(w.length=m.length∧OkL w)∧(s.length=m.length∧OkL s)∧(x.length=hdL m∧OkL x):=by
 obtain⟨h1,h2,h3⟩:=Yhk (Za5 h (Yaf m w) (by simp)) sm sw
 exact⟨h1,⟨h2,h3⟩,Zj9 (Za5 h (Zb1 s m.length) (by simp)) ss,Zj9 (Za5 h (Zb1 x (hdL m)) (by simp)) sx⟩
theorem Zjn:(resQ m s x).length=s.length:=by simp[resQ,Yiw,Zfv,Ze0]
theorem Yc1(hM:OkM m (hdL m))(hw:OkL w)(hs:OkL s)(hx:OkL x)(hn:x.length=hdL m)(hl:s.length≤6):Qb 17000 (Yc2 m w s x):=by
 have h1:=Zmi hM hs hx hn
 have h2:=Zue (n:=6) (Zy8 (n:=(resQ m s x).length) h1 hw.qb (by decide) (by decide)) h1 (by decide) (by decide) (by rw[Zo8,Zjn];exact hl)
 exact h2.mono (by decide)
theorem Ylf{h:T O}{N:Nat}{u v y z:V}{ws:List Str}(hm:MtS h N u m)(hv:Sl h N v (strs ws))(hy:Sl h N y (strs s))(hz:Sl h N z (strs x))(hP:P10 h N)(sm:Zco 6 6 m=true)(sw:Zay 6 ws=true)(ss:Zay 6 s=true)(sx:Zay 6 x=true):Fn A.C 25 [u,v,y,z] h N (fun t _ _=>Ylx (Zv7 m ws s x) (Yc2 m ws s x) t):=by
 intro w
 obtain⟨m1,m2⟩:=Zhr sm
 obtain⟨w1,w2⟩:=Zb4 sw
 obtain⟨l1,l2⟩:=Zb4 ss
 obtain⟨x1,x2⟩:=Zb4 sx
 obtain⟨o4,o5⟩:=hm.one
 have o2:=hv.form.one
 have o3:=hv.form.cells
 have o6:=hy.form.one
 have o7:=hy.form.cells
 have o8:=hz.form.one
 have o9:=hz.form.cells
 rw[Zaa,A.k25 (by simp)]
 unfold V.one at o2 o4 o6 o8
 unfold V.cells at o3 o5 o7 o9
 simp[A.b25,o2,o3,o4,o5,o6,o7,o8,o9,splice]
 generalize hH:((((h.set N (.cells [u] 22 true)).set (N+1) (.cells [v] 23 true)).set (N+1+1) (.cells [y] 23 true)).set (N+1+1+1) (.cells [z] 23 true)).set (N+1+1+1+1) (.cells [.func 102 [] [.ptr N 0,.ptr (N+1) 0],.func 104 [] [.ptr (N+1+1) 0,.ptr N 0],.func 105 [] [.ptr (N+1+1+1) 0,.ptr N 0]] 94 true)=H
 have kB:Keeps h N H (N+1+1+1+1+1):=by rw[←hH];exact((((Keeps.refl.new _).new _).new _).new _).new _
 have g0:H.get N=some (.cells [u] 22 true):=by rw[←hH];simp
 have g1:H.get (N+1)=some (.cells [v] 23 true):=by rw[←hH];simp
 have g2:H.get (N+1+1)=some (.cells [y] 23 true):=by rw[←hH];simp
 have g3:H.get (N+1+1+1)=some (.cells [z] 23 true):=by rw[←hH];simp
 have g4:H.get (N+1+1+1+1)=some (.cells [.func 102 [] [.ptr N 0,.ptr (N+1) 0],.func 104 [] [.ptr (N+1+1) 0,.ptr N 0],.func 105 [] [.ptr (N+1+1+1) 0,.ptr N 0]] 94 true):=by rw[←hH];simp
 clear hH
 have hs:Sl H (N+1+1+1+1+1) (.slice (N+1+1+1+1) 0 3 (some 3) 1) [.func 102 [] [.ptr N 0,.ptr (N+1) 0],.func 104 [] [.ptr (N+1+1) 0,.ptr N 0],.func 105 [] [.ptr (N+1+1+1) 0,.ptr N 0]]:=Sl.row (by omega) g4 rfl (fun k hk=>by simp at hk;omega)
 have key:=Zqb (l:=[Yaf m ws,Zb1 s m.length,Zb1 x (hdL m)]) hs rfl (by simp) (Zve (P:=fun f e=>∀h' n',Keeps H (N+1+1+1+1+1) h' n'→FnV A.C f [] h' n' (fun u _ _=>u=.int .i64 e)) (fun h' n' hk=>Ygq ((hk.get N (by omega)).trans g0) (by have:=hk.le;omega) ((hk.get (N+1) (by omega)).trans g1) (by have:=hk.le;omega) ((hm.keep kB).keep hk) m1 m2 ((hv.keep kB).keep hk) w1 w2) (fun hz h' n' hk=>Ygp ((hk.get (N+1+1) (by omega)).trans g2) (by have:=hk.le;omega) ((hk.get N (by omega)).trans g0) (by have:=hk.le;omega) ((hm.keep kB).keep hk) m1 m2 ((hy.keep kB).keep hk) l1 l2) (fun hp _ h' n' hk=>Ygo ((hk.get (N+1+1+1) (by omega)).trans g3) (by have:=hk.le;omega) ((hk.get N (by omega)).trans g0) (by have:=hk.le;omega) ((hm.keep kB).keep hk) m1 m2 ((hz.keep kB).keep hk) x1 x2 (Yhk hp sm sw).1.pos))
 change Fn A.C 64 _ H _ (fun u _ _=>u=.int .i64 (Zv7 m ws s x))at key
 refine Zab key ?_
 rintro _ H2 n2 k2 rfl
 have le2:=k2.le
 by_cases hE:Zv7 m ws s x=0
 ·obtain⟨hM,⟨z1,hW⟩,⟨z2,hS⟩,⟨z3,hX⟩⟩:=Yh7 hE sm sw ss sx
  have n6:=hM.n6
  have m6:=hM.le
  have g4:=(k2.get N (by omega)).trans g0
  have g5:=(k2.get (N+1) (by omega)).trans g1
  have g6:=(k2.get (N+1+1) (by omega)).trans g2
  have g7:=(k2.get (N+1+1+1) (by omega)).trans g3
  have kC:=kB.trans k2
  have d1:N<n2:=by omega
  have d2:N+1<n2:=by omega
  have d3:N+1+1<n2:=by omega
  have d4:N+1+1+1<n2:=by omega
  simp[hE,g4]
  refine Zab (Zu5 (k0:=100) ((hm.keep kC).rat fun r hr=>(hM.row r hr).2) (by simp[Zgs];omega) (fun r hr=>by obtain⟨a1,a2⟩:=hM.rat r hr;exact⟨by omega,a2⟩) (by decide)) ?_
  rintro q H3 n3 k3 hq
  have le3:=k3.le
  have e6:=(k3.get (N+1+1) (by omega)).trans g6
  have e7:=(k3.get (N+1+1+1) (by omega)).trans g7
  have d5:N+1+1<n3:=by omega
  have d6:N+1+1+1<n3:=by omega
  simp[e6]
  refine Zab (Zew (l:=Ze0 s) (k0:=100) (OkL.sl ((hy.keep kC).keep k3) hS) (by simp[Ze0];omega) hS.qb (by decide)) ?_
  rintro t H4 n4 k4 ht
  have le4:=k4.le
  have e8:=(k4.get (N+1+1+1) (by omega)).trans e7
  have d7:N+1+1+1<n4:=by omega
  simp[e8]
  refine Zab (Zew (l:=Ze0 x) (k0:=100) (OkL.sl (((hz.keep kC).keep k3).keep k4) hX) (by simp[Ze0];omega) hX.qb (by decide)) ?_
  rintro p H5 n5 k5 hp
  have le5:=k5.le
  simp[]
  refine Zab (Zmh (n:=hdL m) ((hq.keep k4).keep k5) (ht.1.keep k5) hp.1 hM.rat (by simp[Ze0,z3]) n6 hS.qb hX.qb (by simp[Zgs];omega) (by simp[Ze0,Zgs,z2])) ?_
  rintro r H6 n6' k6 hr
  change FrT H6 n6' r (resQ m s x)at hr
  have le6:=k6.le
  have kD:=(((kC.trans k3).trans k4).trans k5).trans k6
  have e9:H6.get (N+1)=some (.cells [v] 23 true):=(((((k6.get _ (by omega)).trans (k5.get _ (by omega))).trans (k4.get _ (by omega))).trans (k3.get _ (by omega)))).trans g5
  simp[]
  refine(Zfo (by simp[-Zac,d1,d5,d7]<;>omega)).2 ?_
  simp[e9]
  refine Zab (Zew (l:=Ze0 ws) (k0:=100) (OkL.sl (hv.keep kD) hW) (by simp[Ze0];omega) hW.qb (by decide)) ?_
  rintro c H7 n7 k7 hc
  have le7:=k7.le
  simp[]
  have rq:=Zmi hM hS hX z3
  have rl:(resQ m s x).length=s.length:=Zjn
  refine Zab (Yfo (j:=1308) (k:=100) (hr.1.keep k7) hc.1 (by rw[rl];simp[Ze0];omega) rq hW.qb (by decide) (by decide) (by omega)) ?_
  rintro b H8 n8 k8 hb
  have le8:=k8.le
  simp[]
  refine Zab (Yh2 (j:=1408) (k:=1308) hb.1 ((hr.1.keep k7).keep k8) (by rw[Zo8];omega) (Zy8 rq hW.qb (by decide) (by decide)) rq (by decide) (by decide) (by rw[Zo8];omega)) ?_
  rintro _ H9 n9 k9 hx9
  obtain⟨cc,rfl,hcc⟩:=hx9.c
  have le9:=k9.le
  have cq:=Yc1 hM hW hS hX z3 (by omega)
  change FcC H9 n9 cc (Yc2 m ws s x)at hcc
  obtain⟨f1,f2⟩:=hcc.len
  have hc2:(V.agg cc).cells=cc:=rfl
  have e4:splice [V.int .i64 0,.nilslice,.int .i64 0,.nilslice] 0 cc=cc:=by unfold splice;rw[f1];simp
  have kN:Keeps H9 n9 ((H9.set n9 (.cells zF 114 true)).set n9 (.cells cc 114 true)) (n9+1):=(Keeps.refl.new _).set (Yrr _)
  unfold zF at kN
  have s0:slc cc 0 4=some cc:=by unfold slc;rw[f1];simp;exact Yr1 (by omega)
  simp[-V.cells, -V.one,Zan,hc2,f1,f2,e4,s0]
  generalize hG:(H9.set n9 (.cells [.int .i64 0,.nilslice,.int .i64 0,.nilslice] 114 true)).set n9 (.cells cc 114 true)=G at*
  have gG:G.get n9=some (.cells cc 114 true):=by rw[←hG];simp
  clear hG
  have kE:=(((kD.trans k7).trans k8).trans k9).trans kN
  have hfc:=(hcc.keep kN).fc
  refine Zab (Zr0 hfc (hP.keep kE) cq (by decide)) ?_
  rintro _ Ha na ka rfl
  have lea:=ka.le
  have gH:=(ka.get n9 (by omega)).trans gG
  cases hb:Zwg (Yc2 m ws s x)with
  |true=>
   simp[Ret]
   exact⟨by omega,kE.trans ka,.inr ⟨rfl,.inl ⟨hb,rfl⟩⟩⟩
  |false=>
   have q1:=Ziy cq.1
   have q2:=Ziy cq.2
   simp[gH,s0]
   refine Zab (Zzj (hfc.keep ka) (hP.keep (kE.trans ka)) (by omega) (by omega)) ?_
   rintro _ Hb nb kb rfl
   simp[Ret]
   exact⟨by omega,(kE.trans ka).trans kb,.inr ⟨rfl,.inr ⟨hb,rfl⟩⟩⟩
 ·simp[hE,Ret]
  exact⟨kB.trans k2,.inl ⟨hE,rfl⟩⟩
end Go.Mx
