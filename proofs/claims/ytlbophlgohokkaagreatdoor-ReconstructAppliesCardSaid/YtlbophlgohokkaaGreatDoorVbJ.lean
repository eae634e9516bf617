/-
  reconstruct.Compose.
-/
import Derived.Test.YtlbophlgohokkaaGreatDoorVbF
import Derived.Test.YtlbophlgohokkaaGreatDoorMxTab
import Derived.Test.YtlbophlgohokkaaGreatDoorMxWord
set_option linter.all false
namespace Go.Mx
open Go Go.Proofs
variable {m:List (List Str)}
set_option maxRecDepth 1000000
def A.b12:Zae:=sr [bx 2 22 0,bx 3 23 1,mN 4,mc 5 0]
 (sr [⟨(some 7),.mkfunc 73 [] [(.tmp 2)],none⟩,⟨(some 8),.mkfunc 76 [] [(.tmp 2)],none⟩,⟨(some 9),.mkfunc 77 [] [(.tmp 2)],none⟩,⟨(some 10),.mkfunc 79 [] [(.tmp 3),(.tmp 2)],none⟩,⟨(some 11),.bslice 94 1 4 [.nilfunc,.nilfunc,.nilfunc,.nilfunc] [(0,1,(.tmp 7)),(1,1,(.tmp 8)),(2,1,(.tmp 9)),(3,1,(.tmp 10))],none⟩,c1 12 64 11,mv 6 12]
 (.seq (sr [mv 13 6,ni 14 13 0]
 (cd 14
 (sr [mv 15 6,mN 4,mv 5 15]
 (.ret))
 (.skip)))
 (.seq (.regD [ld 16 2,c1 17 71 16,ld 18 2,⟨(some 19),.iaddrSl 1 (.tmp 18) (.const (.int .i64 0)),none⟩,ld 20 19,ln 21 20,c2 22 80 17 21,ld 23 3,c1 24 72 23,c2 25 70 22 24,c1 26 69 25,xt 27 26 0,xt 28 26 1,mv 4 27,mv 5 28] [0,1,0,4,12,28,63,0,255,511,1023,2047,2047,8191,16383])
 (.ret))))
theorem A.c12:Zal Tryz.prog 12=some ⟨29,[.tmp 4,.tmp 5],A.b12⟩:=by kernel_rfl
def A.k12:=@A.kk 12 _ _ _ A.c12 rfl
theorem Yed{a b c d:V}{x y z t:Int}{P:V→Int→Prop}(h0:P a x)(h1:x=0→P b y)(h2:x=0→y=0→P c z)(h3:x=0→y=0→z=0→P d t):∀(j:Nat) (f:V) (e:Int),[a,b,c,d][j]?=some f→[x,y,z,t][j]?=some e→(∀(i:Nat) (s:Int),i<j→[x,y,z,t][i]?=some s→s=0)→P f e
 |0,f,e,hf,he,_=>by simp at hf he;subst hf he;exact h0
 |1,f,e,hf,he,hz=>by simp at hf he;subst hf he;exact h1 (hz 0 x (by omega) rfl)
 |2,f,e,hf,he,hz=>by simp at hf he;subst hf he;exact h2 (hz 0 x (by omega) rfl) (hz 1 y (by omega) rfl)
 |3,f,e,hf,he,hz=>by simp at hf he;subst hf he;exact h3 (hz 0 x (by omega) rfl) (hz 1 y (by omega) rfl) (hz 2 z (by omega) rfl)
 |j+4,f,e,hf,_,_=>by simp at hf
def Ynl(m:List (List Str))(l:List Str):List Int:=[Zak [if m.length=0 then 12 else 0,if 16<m.length then 5 else 0],Zak [if hdL m=0 then 12 else 0,if 16<hdL m then 5 else 0],Zak (m.map fun x=>Zbx x (hdL m)),Zbx l m.length]
def Zp6(m:List (List Str))(l:List Str):Int:=Zak (Ynl m l)
def Zyu(m:List (List Str))(l:List Str):List Rat:=(Ze7 (Zi0 m) (hdL m)).map fun r=>Zke r (Zf5 l)
theorem Zpx{n:Nat}(h:Zak [if n=0 then 12 else 0,if 16<n then 5 else 0]=0):0<n∧n≤16:=by
 have h1:=Zav h (if n=0 then 12 else 0) (by simp)
 have h2:=Zav h (if 16<n then 5 else 0) (by simp)
 constructor
 ·apply Nat.pos_of_ne_zero
  intro h0
  rw[if_pos h0]at h1
  exact absurd h1 (by decide)
 ·apply Nat.le_of_not_lt
  intro h0
  rw[if_pos h0]at h2
  exact absurd h2 (by decide)
theorem Yhf{l:List Str}(h:Zp6 m l=0)(sm:Zcm 6 6 m=true)(sl:Za9 6 l=true):OkM m (hdL m)∧l.length=m.length∧OkL l:=by
 obtain⟨s1,s2⟩:=Zhm sm
 have a1:=Zpx (Zav h _ (List.mem_cons_self))
 have a2:=Zpx (Zav h _ (List.mem_cons_of_mem _ List.mem_cons_self))
 have a3:=Zav h _ (List.mem_cons_of_mem _ (List.mem_cons_of_mem _ List.mem_cons_self))
 have a4:=Zav h _ (List.mem_cons_of_mem _ (List.mem_cons_of_mem _ (List.mem_cons_of_mem _ List.mem_cons_self)))
 obtain⟨r0,hr0,e0⟩:=Ybm a1.1
 refine⟨⟨a1.1,Zgd s1 (by omega),a2.1,?_,fun r hr=>Zj7 (Zav a3 _ (List.mem_map.2 ⟨r,hr,rfl⟩)) (s2 r hr)⟩,Zj7 a4 sl⟩
 have:=a2.2
 rw[e0]at this ⊢
 exact Zgd (Zjh (s2 r0 hr0)) (by omega)
theorem Zo2{n:Nat}(h:∀r∈Zi0 m,r.length=n∧∀q∈r,Qb 100 q):∀r∈Ze7 (Zi0 m) n,r.length=m.length∧∀q∈r,Qb 100 q:=fun r hr=>by
 unfold Ze7 at hr
 obtain⟨k,hk,rfl⟩:=List.mem_map.1 hr
 refine⟨by simp[Zsc,Zi0],fun q hq=>?_⟩
 unfold Zsc at hq
 obtain⟨s,hs,rfl⟩:=List.mem_map.1 hq
 exact Zm2 (h s hs).2 (by decide) k
set_option maxHeartbeats 2000000 in
theorem Zyi{h:T O}{N:Nat}{u v:V}{l:List Str}(hm:MtS h N u m)(hl:Sl h N v (strs l))(hP:P10 h N)(sm:Zcm 6 6 m=true)(sl:Za9 6 l=true):Fn A.C 12 [u,v] h N (fun x h' n'=>Ym6 (Zp6 m l) (Zyu m l) x h' n'):=by
 intro w
 obtain⟨m1,m2⟩:=Zet sm
 obtain⟨l1,l2⟩:=Zeu sl
 have o1:V.one u=true∧V.cells u=[u]:=by
  obtain⟨us,⟨_,rfl|rfl⟩|⟨i,o,cp,c,e,rw,rfl,_⟩,_⟩:=hm<;>exact⟨rfl,rfl⟩
 have o2:=hl.form.one
 have o3:=hl.form.cells
 obtain⟨o4,o5⟩:=o1
 rw[Zab,A.k12 (by simp)]
 unfold V.one at o2 o4
 unfold V.cells at o3 o5
 simp[A.b12,o2,o3,o4,o5,splice]
 generalize hH:((h.set N (.cells [u] 22 true)).set (N+1) (.cells [v] 23 true)).set (N+1+1) (.cells [.func 73 [] [.ptr N 0],.func 76 [] [.ptr N 0],.func 77 [] [.ptr N 0],.func 79 [] [.ptr (N+1) 0,.ptr N 0]] 94 true)=H
 have kB:Keeps h N H (N+1+1+1):=by rw[←hH];exact((Keeps.refl.new _).new _).new _
 have g0:H.get N=some (.cells [u] 22 true):=by rw[←hH];simp
 have g1:H.get (N+1)=some (.cells [v] 23 true):=by rw[←hH];simp
 have g2:H.get (N+1+1)=some (.cells [.func 73 [] [.ptr N 0],.func 76 [] [.ptr N 0],.func 77 [] [.ptr N 0],.func 79 [] [.ptr (N+1) 0,.ptr N 0]] 94 true):=by rw[←hH];simp
 clear hH
 have hs:Sl H (N+1+1+1) (.slice (N+1+1) 0 4 (some 4) 1) [.func 73 [] [.ptr N 0],.func 76 [] [.ptr N 0],.func 77 [] [.ptr N 0],.func 79 [] [.ptr (N+1) 0,.ptr N 0]]:=Sl.row (by omega) g2 rfl (fun k hk=>by simp at hk;omega)
 have key:=Zp2 (l:=Ynl m l) hs rfl (by simp[Ynl]) (Yed (P:=fun f e=>∀h' n',Keeps H (N+1+1+1) h' n'→FnV A.C f [] h' n' (fun u _ _=>u=.int .i64 e)) (fun h' n' hk=>Yko (l:=l) ((hk.get N (by omega)).trans g0) (by have:=hk.le;omega) ((hm.keep kB).keep hk) m1 m2) (fun hz h' n' hk=>Ykn (l:=l) ((hk.get N (by omega)).trans g0) (by have:=hk.le;omega) ((hm.keep kB).keep hk) m1 m2 (Zpx hz).1) (fun hz _ h' n' hk=>Ykm (l:=l) ((hk.get N (by omega)).trans g0) (by have:=hk.le;omega) ((hm.keep kB).keep hk) m1 m2 (Zpx hz).1) (fun _ _ _ h' n' hk=>Ykl ((hk.get (N+1) (by omega)).trans g1) (by have:=hk.le;omega) ((hk.get N (by omega)).trans g0) (by have:=hk.le;omega) ((hm.keep kB).keep hk) m1 m2 ((hl.keep kB).keep hk) l1 l2))
 change Fn A.C 64 _ H _ (fun u _ _=>u=.int .i64 (Zp6 m l))at key
 refine Zac key ?_
 rintro _ H2 n2 k2 rfl
 have le2:=k2.le
 by_cases hE:Zp6 m l=0
 ·obtain⟨hM,z3,hL⟩:=Yhf hE sm sl
  have g3:=(k2.get N (by omega)).trans g0
  have kC:=kB.trans k2
  have d1:N<n2:=by omega
  have d2:N+1<n2:=by omega
  simp[hE,g3]
  refine Zac (Zpd (k0:=100) ((hm.keep kC).rat fun r hr=>(hM.row r hr).2) (by simp[Zi0];omega) (fun r hr=>by obtain⟨a1,a2⟩:=hM.rat r hr;exact⟨by have:=hM.n6;omega,a2⟩) (by decide)) ?_
  rintro y H3 n3 k3 hy
  have le3:=k3.le
  have g4:=(k3.get (N+1) (by omega)).trans ((k2.get (N+1) (by omega)).trans g1)
  have g5:=(k3.get N (by omega)).trans g3
  have d3:N<n3:=by omega
  obtain⟨r0,hr0⟩:=Zag hM.pos
  have er0:r0.length=hdL m:=(hM.row r0 (List.mem_of_getElem? hr0)).1
  have mt:=(hm.keep kC).keep k3
  have ml:=mt.len
  obtain⟨i0,o0,cc0,e0,rw0,u0,q1,q2,q3,q4,q5⟩:=mt.at hr0
  have q6:=q5.len
  rw[Zbn,er0]at q6
  rw[Nat.add_zero]at q4
  have mp:=hM.pos
  have mp':0<(m.length:Int):=by omega
  have n6:=hM.n6
  simp[g5,ml,mp,q1,q2,q3,q4,q6]
  refine Zac (Yd6 (n:=hdL m) hy (by simp[Zi0];omega) (fun r hr=>(hM.rat r hr).1) (by omega)) ?_
  rintro yt H3b n3b k3b hyt
  have le3b:=k3b.le
  have g6:=(k3b.get (N+1) (by omega)).trans g4
  have d4:N+1<n3b:=by omega
  simp[g6]
  refine Zac (Zhu (l:=Zf5 l) (k0:=100) (OkL.sl (((hl.keep kC).keep k3).keep k3b) hL) (by simp[Zf5];omega) hL.qb (by decide)) ?_
  rintro z H4 n4 k4 hz
  have le4:=k4.le
  simp[]
  have mle:=hM.le
  refine Zac (Zqp (n:=m.length) (j:=100) (k:=100) (hyt.mfs.keep k4) hz.1 (Zo2 hM.rat) (by simp[Zf5,z3]) hL.qb (by decide) (by decide) (by omega) (by simp[Ze7];omega)) ?_
  rintro x H5 n5 k5 hx
  have le5:=k5.le
  simp[]
  have kD:=(((kC.trans k3).trans k3b).trans k4).trans k5
  have hq:∀q∈Zyu m l,Qb 1207 q:=fun q hq=>by
   obtain⟨r,hr,rfl⟩:=List.mem_map.1 hq
   obtain⟨a1,a2⟩:=Zo2 hM.rat r hr
   exact Zku (n:=6) a2 hL.qb (by decide) (by decide) (by omega)
  refine Zac (Zsk (l:=Zyu m l) (k:=1207) hx.1 (hP.keep kD) (by simp[Zyu,Ze7];omega) hq (by decide)) ?_
  rintro a H6 n6' k6 ha
  have kE:=kD.trans k6
  rcases ha with⟨t1,rfl⟩|⟨t1,v2,rfl,t2⟩
  ·simp
   refine(Zdk (by simp[-Zaa,d1,d3,d4]<;>omega)).2 ?_
   simp[Ret]
   exact⟨kE,.inr ⟨rfl,.inl ⟨t1,rfl⟩⟩⟩
  ·simp
   refine(Zdk (by simp[-Zaa,d1,d3,d4]<;>omega)).2 ?_
   simp[Ret]
   exact⟨kE,.inr ⟨rfl,.inr ⟨t1,v2,rfl,t2⟩⟩⟩
 ·simp[hE,Ret]
  exact⟨kB.trans k2,.inl ⟨hE,rfl⟩⟩
end Go.Mx
namespace Go.Mx
open Go Go.Proofs
variable {h:T O} {l:List Rat}
set_option maxRecDepth 1000000
def A.b22:Zae:=sr [⟨(some 8),.mov (.const (.bool false)),none⟩]
 (.seq (sr [mv 9 3,ei 10 9 0]
 (cd 10
 (.reg [mv 11 2,c1 12 97 11,mv 3 12])
 (.skip)))
 (sr [mv 13 1,mv 14 3,⟨(some 15),.bin .eql (.prim .int) false (.tmp 13) (.tmp 14),none⟩,mv 16 15,mg 17 3 16,⟨(some 18),.bin .eql (.prim .int) true (.tmp 17) (.const (.int .i64 0)),(some (16,true))⟩,mg 19 18 16,mg 20 0 19,mg 21 2 19,⟨(some 22),.call (.const (.func 60 [] [])) [(.tmp 20),(.tmp 21)],(some (19,true))⟩,⟨(some 23),.pick (.tmp 19) (.tmp 22) (.const (.bool false)),(some (16,true))⟩,mg 24 23 16,mh 25 3 24,⟨(some 26),.bin .neq (.prim .int) true (.tmp 25) (.const (.int .i64 0)),(some (24,false))⟩,mh 27 26 24,mg 28 0 27,⟨(some 29),.len 1 (.tmp 28),(some (27,true))⟩,⟨(some 30),.bin .eql (.prim .int) true (.tmp 29) (.const (.int .i64 0)),(some (27,true))⟩,⟨(some 31),.pick (.tmp 27) (.tmp 30) (.const (.bool false)),(some (24,false))⟩,⟨(some 32),.pick (.tmp 24) (.const (.bool true)) (.tmp 31),(some (16,true))⟩,pf 33 16 32,mv 8 33]
 (.ret)))
theorem A.c22:Zal Tryz.prog 22=some ⟨34,[.tmp 8],A.b22⟩:=by kernel_rfl
def A.k22:=@A.kk 22 _ _ _ A.c22 rfl
def TP(e:Int)(l:List Rat)(v:V)(c:Int)(h:T O)(n:Nat):Prop:=(e≠0∧v=.nilslice∧c=e)∨(e=0∧((Zcw l=true∧v=.nilslice∧c=4)∨(Zcw l=false∧c=0∧Tx h n v l)))
theorem Ym6.parts{e:Int}{x:V}{n:Nat}(s:Ym6 e l x h n):∃v c,x=.tup [v,.int .i64 c]∧TP e l v c h n:=by
 rcases s with⟨a,rfl⟩|⟨a,⟨b,rfl⟩|⟨b,v,rfl,c⟩⟩
 ·exact⟨_,_,rfl,.inl ⟨a,rfl,rfl⟩⟩
 ·exact⟨_,_,rfl,.inr ⟨a,.inl ⟨b,rfl,rfl⟩⟩⟩
 ·exact⟨_,_,rfl,.inr ⟨a,.inr ⟨b,rfl,c⟩⟩⟩
theorem TP.keep{e:Int}{v:V}{c:Int}{h':T O}{n n':Nat}(s:TP e l v c h n)(k:Keeps h n h' n'):TP e l v c h' n':=by
 rcases s with a|⟨a,b|⟨b,d,s⟩⟩
 ·exact .inl a
 ·exact .inr ⟨a,.inl b⟩
 ·exact .inr ⟨a,.inr ⟨b,d,s.keep k⟩⟩
theorem Yjo{N:Nat}{v u:V}{e c:Int}{w:List Nat}(hv:TP e l v c h N)(hu:e=0→Tx h N u l)(hl:l.length<100000)(hq:e=0→∀q∈l,(Za3 q).length<1000000):A.C.call (.func 22 [] []) [v,.int .i64 c,u,.int .i64 e] ⟨h,N,w⟩=some (.bool true,⟨h,N,w⟩):=by
 apply Call.eq
 rw[Zab,A.k22 (by simp)]
 rcases hv with⟨a,rfl,rfl⟩|⟨rfl,⟨b,rfl,rfl⟩|⟨b,rfl,t⟩⟩
 ·simp[A.b22,a]
 ·have hr:=fun w=>Ya0 (w:=w) (hu rfl) hl (hq rfl)
  rw[b]at hr
  simp only[if_true]at hr
  simp[A.b22,hr]
 ·have hr:=fun w=>Ya0 (w:=w) (hu rfl) hl (hq rfl)
  rw[b]at hr
  simp only[Bool.false_eq_true,if_false]at hr
  have hs:=fun w=>Yh5 (w:=w) (l:=l.map Za3) t (hu rfl) (by simpa using hl)
  simp[A.b22,hr,hs]
end Go.Mx
namespace Go.Mx
open Go Go.Proofs
variable {l:List Str} {m:List (List Str)}
set_option maxRecDepth 1000000
def Ynv(m:List (List Str))(l:List Str):Int:=if Zhy m 64 64=0 then Zbx l (hdL m) else Zhy m 64 64
def Ynd(m:List (List Str))(l:List Str):Int:=if Zfc m=0 then Zbx l m.length else Zfc m
def Zy8(m:List (List Str))(l:List Str):Int:=if Zhy m 64 64=0 then Ylj l (hdL m) 0 else Zhy m 64 64
theorem Yiu:Zv4 m l=Ynv m l:=by
 unfold Zv4 Ynv
 simp only[Zak]
 by_cases h:Zhy m 64 64=0
 ·rw[if_pos h,if_pos h];split<;>simp_all
 ·rw[if_neg h,if_neg h]
theorem Zy7:Zsb m l=Zy8 m l:=by
 unfold Zsb Zy8 Ylj
 by_cases h:Zhy m 64 64=0
 ·by_cases h2:l.length=hdL m
  ·simp only[Zak,h,h2,if_true]
   split<;>simp_all
  ·simp[Zak,h,h2]
 ·simp[Zak,h]
theorem Zy3:Zp6 m l=Ynd m l:=by
 unfold Zp6 Ynl Ynd Zfc Zrz
 by_cases h1:m.length=0
 ·simp[Zak,h1]
 by_cases h2:16<m.length
 ·simp[Zak,h1,h2]
 by_cases h3:hdL m=0
 ·simp[Zak,h1,h2,h3]
 by_cases h4:16<hdL m
 ·simp[Zak,h1,h2,h3,h4]
 ·simp only[Zak,h1,h2,h3,h4,if_true,if_false]
  by_cases h5:Zak (m.map fun x=>Zbx x (hdL m))=0
  ·simp only[h5,if_true]
   split<;>simp_all
  ·simp[h5]
end Go.Mx
namespace Go.Mx
open Go Go.Proofs
variable {h:T O} {n:Nat}
set_option maxRecDepth 1000000
def A.lb3_0:Zae:=sr [bi 87 .lss 86 85]
 (.seq (cd 87
 (.skip)
 (.exit 0))
 (.seq (.block 1 (sr [ia 88 1 84 86,ld 89 88,mv 18 89]
 (.reg [mv 90 16,mv 91 18,⟨(some 92),.bslice 23 1 1 [.nilslice] [(0,1,(.tmp 91))],none⟩,mv 93 1,c2 94 21 92 93,⟨(some 95),.iaddrSl 1 (.tmp 94) (.const (.int .i64 0)),none⟩,ld 96 95,mv 97 18,c2 98 20 96 97,⟨(some 99),.bslice 36 1 1 [(.str [])] [(0,1,(.tmp 98))],none⟩,⟨(some 100),.append 1 16 36 [(.str [])] (.tmp 90) (.tmp 99),none⟩,mv 16 100])))
 (.reg [bc 101 .add 86 1,mv 86 101])))
def A.ta3_0:Zae:=sr [mv 102 5,mv 103 6,mv 104 14,mv 105 11,⟨(some 106),.call (.const (.func 22 [] [])) [(.tmp 102),(.tmp 103),(.tmp 104),(.tmp 105)],none⟩,mv 107 106,mg 108 7 107,mg 109 8 107,mg 110 15 107,mg 111 12 107,⟨(some 112),.call (.const (.func 22 [] [])) [(.tmp 108),(.tmp 109),(.tmp 110),(.tmp 111)],(some (107,true))⟩,pf 113 107 112,mv 114 113,mg 115 9 114,mg 116 10 114,mg 117 16 114,mg 118 13 114,⟨(some 119),.call (.const (.func 22 [] [])) [(.tmp 115),(.tmp 116),(.tmp 117),(.tmp 118)],(some (114,true))⟩,pf 120 114 119,mv 121 120,⟨(some 122),.call (.const (.func 10 [] [])) [],(some (121,true))⟩,pf 123 121 122,mv 4 123]
 (.ret)
def A.ta3_1:Zae:=.seq (sr [mv 82 13,ei 83 82 0]
 (cd 83
 (sr [mv 84 0,ln 85 84,mc 86 0]
 (.block 0 (.loop A.lb3_0)))
 (.skip)))
 A.ta3_0
def A.ta3_2:Zae:=.seq (sr [mv 76 12,ei 77 76 0]
 (cd 77
 (.reg [mv 78 0,c1 79 19 78,mv 80 1,c2 81 18 79 80,mv 15 81])
 (.skip)))
 A.ta3_1
def A.ta3_3:Zae:=.seq (sr [mv 71 11,ei 72 71 0]
 (cd 72
 (.reg [mv 73 0,mv 74 1,c2 75 18 73 74,mv 14 75])
 (.skip)))
 A.ta3_2
def A.ta3_4:Zae:=.seq (sr [mv 65 12,ei 66 65 0]
 (cd 66
 (.reg [mv 67 1,mv 68 0,ln 69 68,c2 70 16 67 69,mv 12 70])
 (.skip)))
 A.ta3_3
def A.ta3_5:Zae:=.seq (sr [mv 51 11,ei 52 51 0]
 (cd 52
 (.regD [mv 53 1,mv 54 0,⟨(some 55),.iaddrSl 1 (.tmp 54) (.const (.int .i64 0)),none⟩,ld 56 55,ln 57 56,c2 58 16 53 57,mv 59 1,mv 60 0,⟨(some 61),.iaddrSl 1 (.tmp 60) (.const (.int .i64 0)),none⟩,ld 62 61,ln 63 62,⟨(some 64),.call (.const (.func 17 [] [])) [(.tmp 59),(.tmp 63),(.const (.int .i64 0))],none⟩,mv 11 58,mv 13 64] [0,0,2,6,14,31,0,0,128,384,896,2047,4095,8191])
 (.skip)))
 A.ta3_4
def A.b3:Zae:=sr [⟨(some 4),.mov (.const (.bool false)),none⟩]
 (.seq (sr [mv 19 0,⟨(some 20),.call (.const (.func 8 [] [])) [(.tmp 19),(.const (.int .i64 6)),(.const (.int .i64 6))],none⟩,⟨(some 21),.un .not (.tmp 20),none⟩,mv 22 21,mh 23 1 22,⟨(some 24),.call (.const (.func 9 [] [])) [(.tmp 23),(.const (.int .i64 6))],(some (22,false))⟩,⟨(some 25),.un .not (.tmp 24),(some (22,false))⟩,pt 26 22 25]
 (cd 26
 (sr [⟨(some 27),.call (.const (.func 10 [] [])) [],none⟩,mv 4 27]
 (.ret))
 (.skip)))
 (sr [mv 29 0,mv 30 1,c2 31 11 29 30,mv 28 31,xt 32 28 0,xt 33 28 1,mv 5 32,mv 6 33]
 (sr [mv 35 0,mv 36 1,c2 37 12 35 36,mv 34 37,xt 38 34 0,xt 39 34 1,mv 7 38,mv 8 39]
 (sr [mv 41 0,mv 42 1,c2 43 13 41 42,mv 40 43,xt 44 40 0,xt 45 40 1,mv 9 44,mv 10 45]
 (sr [mv 46 0,⟨(some 47),.call (.const (.func 14 [] [])) [(.tmp 46),(.const (.int .i64 64)),(.const (.int .i64 64))],none⟩,mv 11 47]
 (sr [mv 48 0,c1 49 15 48,mv 12 49]
 (sr [mv 50 11,mv 13 50]
 (sr [mN 14,mN 15,mN 16]
 A.ta3_5))))))))
theorem A.c3:Zal Tryz.prog 3=some ⟨124,[.tmp 4],A.b3⟩:=by kernel_rfl
def A.k3:=@A.kk 3 _ _ _ A.c3 rfl
theorem Zv2{N:Nat}{w:List Nat}(hP:P10 h N):A.C.call (.func 10 [] []) [] ⟨h,N,w⟩=some (.bool true,⟨h,N,w⟩):=by
 exact A.known hP.2
structure Wt (e:Int) (l:List Rat) (v:V) (c:Int) (u:V) (h:T O) (n:Nat):Prop where
 p:P10 h n
 tp:TP e l v c h n
 tx:e=0→Tx h n u l
 len:l.length<100000
 txt:e=0→∀q∈l,(Za3 q).length<1000000
theorem Wt.eq{v u:V}{e c:Int}{l:List Rat}(s:Wt e l v c u h n)(w:List Nat):A.C.call (.func 22 [] []) [v,.int .i64 c,u,.int .i64 e] ⟨h,n,w⟩=some (.bool true,⟨h,n,w⟩):=Yjo s.tp s.tx s.len s.txt
theorem Wt.keep{h':T O}{n':Nat}{v u:V}{e c:Int}{l:List Rat}(s:Wt e l v c u h n)(k:Keeps h n h' n'):Wt e l v c u h' n':=⟨s.p.keep k,s.tp.keep k,fun a=>(s.tx a).keep k,s.len,s.txt⟩
theorem Zvn{H:T O}{W:List Nat}{r0:T V}{v1 v2 v3 u1 u2 u3:V}{e1 e2 e3 c1 c2 c3:Int}{l1 l2 l3:List Rat}(s1:Wt e1 l1 v1 c1 u1 H n)(s2:Wt e2 l2 v2 c2 u2 H n)(s3:Wt e3 l3 v3 c3 u3 H n)(a5:r0.get 5=some v1)(a6:r0.get 6=some (.int .i64 c1))(a7:r0.get 7=some v2)(a8:r0.get 8=some (.int .i64 c2))(a9:r0.get 9=some v3)(a10:r0.get 10=some (.int .i64 c3))(a11:r0.get 11=some (.int .i64 e1))(a12:r0.get 12=some (.int .i64 e2))(a13:r0.get 13=some (.int .i64 e3))(a14:r0.get 14=some u1)(a15:r0.get 15=some u2)(a16:r0.get 16=some u3):
  Code A.C none A.ta3_0 ⟨r0,124,[]⟩ ⟨H,n,W⟩ (fun e fr st=>e=.ret∧∃r,fr=⟨r,124,[]⟩∧r.get 4=some (.bool true)∧st=⟨H,n,W⟩):=by
 rw[Zah]
 have q0:=fun w=>Zv2 (w:=w) s1.p
 have q1:=s1.eq
 have q2:=s2.eq
 have q3:=s3.eq
 simp[A.ta3_0,a5,a6,a7,a8,a9,a10,a11,a12,a13,a14,a15,a16,q0,q1,q2,q3]
end Go.Mx
namespace Go.Mx
open Go Go.Proofs
set_option maxRecDepth 1000000
theorem Yiy{q:Rat}(h:Qb 1807 q):(Za3 q).length<1000000:=by
 have h1:=Zis h.1
 have h2:=Zg9 h.2
 unfold Za3
 split<;>simp<;>omega
set_option maxHeartbeats 2000000 in
theorem Zoh{H:T O}{n:Nat}{r0:T V}{u v v1 v2 v3 u1 u2:V}{m:List (List Str)}{l:List Str}{e1 e2 c1 c2 c3:Int}{l1 l2:List Rat}(hm:MtS H n u m)(hl:Sl H n v (strs l))(hP:P10 H n)(sm:Zcm 6 6 m=true)(sl:Za9 6 l=true)(s1:Wt e1 l1 v1 c1 u1 H n)(s2:Wt e2 l2 v2 c2 u2 H n)(s3:TP (Zsb m l) (Zwx m l) v3 c3 H n)(a0:r0.get 0=some u)(a1:r0.get 1=some v)(a5:r0.get 5=some v1)(a6:r0.get 6=some (.int .i64 c1))(a7:r0.get 7=some v2)(a8:r0.get 8=some (.int .i64 c2))(a9:r0.get 9=some v3)(a10:r0.get 10=some (.int .i64 c3))(a11:r0.get 11=some (.int .i64 e1))(a12:r0.get 12=some (.int .i64 e2))(a13:r0.get 13=some (.int .i64 (Zsb m l)))(a14:r0.get 14=some u1)(a15:r0.get 15=some u2)(a16:r0.get 16=some .nilslice):
  Code A.C none A.ta3_1 ⟨r0,124,[]⟩ ⟨H,n,[]⟩ (fun e fr st=>e=.ret∧∃r,fr=⟨r,124,[]⟩∧r.get 4=some (.bool true)∧Zaa n st.w=[]∧Keeps H n st.h st.n):=by
 rw[Zah]
 by_cases hE:Zsb m l=0
 ·have z1:=Zav hE (Zhy m 64 64) (by simp)
  have z2:=Zav hE (if l.length=hdL m then 0 else 2) (by simp)
  have z4:=Zav hE (Zak (l.map (Zep 0))) (by simp)
  have hM:=Ziv z1 sm
  have z3:l.length=hdL m:=by
   apply Decidable.byContradiction
   intro hc
   rw[if_neg hc]at z2
   exact absurd z2 (by decide)
  have hL:=Ycj z4 sl
  have n6:=hM.n6
  have m6:=hM.le
  have hu:=hm.rat fun r hr=>(hM.row r hr).2
  have hv:=OkL.sl hl hL
  have ml:=hm.len
  have el:(Zf5 l).length=hdL m:=by simp[Zf5,z3]
  have em:(Zi0 m).length=m.length:=by simp[Zi0]
  simp[A.ta3_1,a13,hE,a0,ml]
  refine Zaj [(16,16),(18,18),(86,101)] (fun e r st=>e=.exit 0∧Zaa n st.w=[]∧Keeps H n st.h st.n∧∃x,r.get 16=some x∧Tx st.h st.n x (Zwx m l)) (fun i r st=>Zaa n st.w=[]∧Keeps H n st.h st.n∧∃t x,t+i=m.length∧r.get 86=some (.int .i64 t)∧r.get 16=some x∧Own 1 36 n st.h st.n x ((tx (((Zi0 m).take t).map fun r=>Zke (wtQ r (Zf5 l)) r)).map fun y=>[y])) m.length ?_ ?_ ?_
  ·exact⟨by simp,Keeps.refl,0,.nilslice,by omega,by simp,by simp[a16],by simpa[tx,strs]using Own.nil⟩
  ·rintro i r ⟨H1,n1,W⟩ hr hf ⟨hW,hK,t,x,ht,h86,h16,ho⟩
   simp only at hW hK ho
   rw[Zah]
   cases i with
   |zero=>
    obtain rfl:t=m.length:=by omega
    rw[←em,List.take_length]at ho
    simp[A.lb3_0,hr,hf,h86,h16,hW,hK]
    exact(Zu1 ho).1
   |succ i=>
    have hlt:t<m.length:=by omega
    have hlt':(t:Int)<(m.length:Int):=by omega
    obtain⟨row,hrow⟩:=Zag (l:=Zi0 m) (k:=t) (by omega)
    obtain⟨b1,b2⟩:=hM.rat row (List.mem_of_getElem? hrow)
    obtain⟨i',o,cc,e,rw,ru,q1,q2,q3,q4,q5⟩:=(hu.keep hK).at hrow
    have f1:=Sl.form q5
    obtain⟨o1,o2⟩:V.one ru=true∧V.cells ru=[ru]:=⟨f1.one,f1.cells⟩
    have o3:=o1
    have o4:=o2
    unfold V.one at o3
    unfold V.cells at o4
    have e4:splice [V.nilslice] 0 [ru]=[ru]:=rfl
    have kG:Keeps H1 n1 (H1.set n1 (.cells [ru] 23 true)) (n1+1):=Keeps.refl.new _
    have hrm:TxM (H1.set n1 (.cells [ru] 23 true)) (n1+1) (.slice n1 0 1 (some 1) 1) [row]:=⟨[ru],Sl.row (e:=23) (rw:=true) (by omega) (by rw[T.get_set,if_pos rfl]) rfl (fun k hk=>by simp at hk;omega),rfl,fun j z hj=>by
     cases j with
     |zero=>simp at hj;subst hj;exact⟨ru,rfl,q5.keep kG⟩
     |succ j=>simp at hj⟩
    simp[A.lb3_0,hr,h86,h16,a1,hlt',ml,q1,q3,q4,o3,o4,e4]
    have hvv:=((hv.keep hK).keep kG)
    refine Zac (Zwm (j:=100) (k:=100) hrm hvv (fun r hr=>by simp at hr;subst hr;exact⟨by omega,b2⟩) hL.qb (by decide) (by decide) (by simp) (by omega)) ?_
    rintro wv H2 n2 k2 hw
    obtain⟨j',o',c',e',rw',wu,p1,p2,p3,p4,p5⟩:=hw.txm.at (j:=0) (l:=wtQ row (Zf5 l)) rfl
    have wl:=hw.txm.len
    rw[Nat.add_zero]at p4
    have lw:(wtQ row (Zf5 l)).length=hdL m:=by simp[wtQ,el]
    simp[wl,p1,p3,p4]
    refine Zac (Zzw (j:=200) (k:=100) p5 ((q5.keep kG).keep k2) (by omega) (Zug (n:=(Zf5 l).length) b2 hL.qb (by decide) (by decide)) b2 (by decide) (by decide) (by omega)) ?_
    rintro _ H3 n3 k3 rfl
    have le1:=hK.le
    have le2:=k2.le
    have le3:=k3.le
    have kN:Keeps H3 n3 (H3.set n3 (.cells [.str (Za3 (Zke (wtQ row (Zf5 l)) row))] 36 true)) (n3+1):=Keeps.refl.new _
    obtain⟨v',h',w',f1,f2,f3,_,f5⟩:=Zbh (x:=[.str (Za3 (Zke (wtQ row (Zf5 l)) row))]) (u:=.slice n3 0 1 (some 1) 1) (bytes:=16) (w:=W) ((((ho.keep kG).keep k2).keep k3).keep kN) (by omega) (by decide) rfl (by simp[Za0,St.row,slc]) (by simp[Zja,em];omega)
    have e7:((tx (((Zi0 m).take t).map fun r=>Zke (wtQ r (Zf5 l)) r)).map fun y=>[y])++[[.str (Za3 (Zke (wtQ row (Zf5 l)) row))]]=(tx (((Zi0 m).take (t+1)).map fun r=>Zke (wtQ r (Zf5 l)) r)).map fun y=>[y]:=by rw[List.take_add_one,hrow];simp[tx,strs]
    rw[e7]at f5
    simp(disch:=first|(simp;done)|omega|rfl) [hf,h86,splice,f1]
    exact⟨i,by omega,by rw[f2];exact hW,((((hK.trans kG).trans k2).trans k3).trans kN).then f3,t+1,by omega,by simp,by rw[←List.map_take];exact f5⟩
  ·rintro _ r ⟨H1,n1,W⟩ hr ⟨rfl,hW,hK,x,h16,ho⟩
   simp only at hW hK ho
   have s3':Wt (Zsb m l) (Zwx m l) v3 c3 x H1 n1:=⟨hP.keep hK,s3.keep hK,fun _=>ho,by simp[Zwx,em];omega,fun _ q hq=>Yiy (by
    obtain⟨r,hr,rfl⟩:=List.mem_map.1 hq
    obtain⟨a1,a2⟩:=hM.rat r hr
    have ew:(wtQ r (Zf5 l)).length=hdL m:=by simp[wtQ,el]
    exact Zku (n:=6) (j:=200) (k:=100) (Zug (n:=(Zf5 l).length) a2 hL.qb (by decide) (by decide)) a2 (by decide) (by decide) (by omega))⟩
   simp
   refine Za4 (Zvn (s1.keep hK) (s2.keep hK) s3' (by simp[hr,a5]) (by simp[hr,a6]) (by simp[hr,a7]) (by simp[hr,a8]) (by simp[hr,a9]) (by simp[hr,a10]) (by simp[hr,a11]) (by simp[hr,a12]) (by simp[hr,a13,hE]) (by simp[hr,a14]) (by simp[hr,a15]) h16) ?_
   rintro e fr st ⟨rfl,r',rfl,g4,rfl⟩
   simp[g4,hW,hK]
 ·simp[A.ta3_1,a13,hE]
  refine Za4 (Zvn (u3:=.nilslice) s1 s2 ⟨hP,s3,fun h=>absurd h hE,by simp[Zwx,Zi0];have:=(Zet sm).1;omega,fun h=>absurd h hE⟩ (by simp[a5]) (by simp[a6]) (by simp[a7]) (by simp[a8]) (by simp[a9]) (by simp[a10]) (by simp[a11]) (by simp[a12]) (by simp[a13]) (by simp[a14]) (by simp[a15]) (by simp[a16])) ?_
  rintro e fr st ⟨rfl,r',rfl,g4,rfl⟩
  simp[g4]
  exact Keeps.refl
end Go.Mx
namespace Go.Mx
open Go Go.Proofs
set_option maxRecDepth 1000000
theorem Zul{q:Rat}{k:Nat}(h:Qb k q)(hk:k≤400000):(Za3 q).length<1000000:=by
 have h1:=Zis h.1
 have h2:=Zg9 h.2
 unfold Za3
 split<;>simp<;>omega
theorem Zjo{N n:Nat}{w:List Nat}(h:Zaa n w=[])(hN:N≤n):Zaa N w=[]:=Zph fun i hi=>by
 have:=Zz7 h i hi
 omega
theorem Zqt{N0:Nat}{h:T O}{N:Nat}{v:V}{l:List Rat}(s:Own 1 36 N0 h N v ((tx l).map fun y=>[y])):Tx h N v l:=(Zu1 s).1
set_option maxHeartbeats 1000000 in
theorem Zk9{H:T O}{n:Nat}{r0:T V}{u v v1 v2 v3 u1:V}{m:List (List Str)}{l:List Str}{c1 c2 c3:Int}(hm:MtS H n u m)(hl:Sl H n v (strs l))(hP:P10 H n)(sm:Zcm 6 6 m=true)(sl:Za9 6 l=true)(s1:Wt (Zv4 m l) (Yct m l) v1 c1 u1 H n)(s2:TP (Zp6 m l) (Zyu m l) v2 c2 H n)(s3:TP (Zsb m l) (Zwx m l) v3 c3 H n)(a0:r0.get 0=some u)(a1:r0.get 1=some v)(a5:r0.get 5=some v1)(a6:r0.get 6=some (.int .i64 c1))(a7:r0.get 7=some v2)(a8:r0.get 8=some (.int .i64 c2))(a9:r0.get 9=some v3)(a10:r0.get 10=some (.int .i64 c3))(a11:r0.get 11=some (.int .i64 (Zv4 m l)))(a12:r0.get 12=some (.int .i64 (Zp6 m l)))(a13:r0.get 13=some (.int .i64 (Zsb m l)))(a14:r0.get 14=some u1)(a15:r0.get 15=some .nilslice)(a16:r0.get 16=some .nilslice):
  Code A.C none A.ta3_2 ⟨r0,124,[]⟩ ⟨H,n,[]⟩ (fun e fr st=>e=.ret∧∃r,fr=⟨r,124,[]⟩∧r.get 4=some (.bool true)∧Zaa n st.w=[]∧Keeps H n st.h st.n):=by
 rw[Zah]
 have lc:(Zyu m l).length<100000:=by
  obtain⟨s1,s2⟩:=Zhm sm
  have h2:=Zls s1 (by omega)
  by_cases hp:0<m.length
  ·obtain⟨r0,hr0,e0⟩:=Ybm hp
   have:=Zls (Zjh (s2 r0 hr0)) (by omega)
   simp[Zyu,Ze7]
   omega
  ·have:m=[]:=List.eq_nil_of_length_eq_zero (by omega)
   subst this
   simp[Zyu,Ze7,hdL]
 by_cases hE:Zp6 m l=0
 ·obtain⟨hM,z3,hL⟩:=Yhf hE sm sl
  have n6:=hM.n6
  have m6:=hM.le
  have mp:=hM.pos
  have el:(Zf5 l).length=m.length:=by simp[Zf5,z3]
  have em:(Zi0 m).length=m.length:=by simp[Zi0]
  have hu:=hm.rat fun r hr=>(hM.row r hr).2
  have hv:=OkL.sl hl hL
  simp[A.ta3_2,a12,hE,a0]
  refine Zac (Yd2 (n:=hdL m) hu (fun r hr=>(hM.rat r hr).1) (by omega) (by omega) (by omega)) ?_
  rintro y H2 n2 k2 hy
  have le2:=k2.le
  simp[a1]
  refine Zac (Zqo (n:=m.length) (j:=100) (k:=100) hy.txm (hv.keep k2) (Zo2 hM.rat) (by omega) hL.qb (by decide) (by decide) (by omega) (by simp[Ze7];omega)) ?_
  rintro x H3 n3 k3 hx
  have le3:=k3.le
  have kk:=k2.trans k3
  simp[]
  have s2':Wt (Zp6 m l) (Zyu m l) v2 c2 x H3 n3:=⟨hP.keep kk,s2.keep kk,fun _=>Zqt hx,lc,fun _ q hq=>Zul (k:=1207) (by
   obtain⟨r,hr,rfl⟩:=List.mem_map.1 hq
   obtain⟨b1,b2⟩:=Zo2 hM.rat r hr
   exact Zku (n:=6) b2 hL.qb (by decide) (by decide) (by omega)) (by decide)⟩
  rw[hE]at a12
  refine Za4 (Zoh (e2:=Zp6 m l) (hm.keep kk) (hl.keep kk) (hP.keep kk) sm sl (s1.keep kk) s2' (s3.keep kk) (by simp[a0]) (by simp[a1]) (by simp[a5]) (by simp[a6]) (by simp[a7]) (by simp[a8]) (by simp[a9]) (by simp[a10]) (by simp[a11]) (by simp[a12,hE]) (by simp[a13]) (by simp[a14]) (by simp) (by simp[a16])) ?_
  rintro e fr st ⟨rfl,r',rfl,g4,g5,g6⟩
  simp[g4]
  exact⟨Zjo g5 (by omega),kk.trans g6⟩
 ·simp[A.ta3_2,a12,hE]
  refine Za4 (Zoh (u2:=.nilslice) (e2:=Zp6 m l) hm hl hP sm sl s1 ⟨hP,s2,fun h=>absurd h hE,lc,fun h=>absurd h hE⟩ s3 (by simp[a0]) (by simp[a1]) (by simp[a5]) (by simp[a6]) (by simp[a7]) (by simp[a8]) (by simp[a9]) (by simp[a10]) (by simp[a11]) (by simp[a12]) (by simp[a13]) (by simp[a14]) (by simp[a15]) (by simp[a16])) ?_
  rintro e fr st ⟨rfl,r',rfl,g4,g5,g6⟩
  simp[g4,g5]
  exact g6
end Go.Mx
namespace Go.Mx
open Go Go.Proofs
set_option maxRecDepth 1000000
set_option maxHeartbeats 1000000 in
theorem Zor{H:T O}{n:Nat}{r0:T V}{u v v1 v2 v3:V}{m:List (List Str)}{l:List Str}{c1 c2 c3:Int}(hm:MtS H n u m)(hl:Sl H n v (strs l))(hP:P10 H n)(sm:Zcm 6 6 m=true)(sl:Za9 6 l=true)(s1:TP (Zv4 m l) (Yct m l) v1 c1 H n)(s2:TP (Zp6 m l) (Zyu m l) v2 c2 H n)(s3:TP (Zsb m l) (Zwx m l) v3 c3 H n)(a0:r0.get 0=some u)(a1:r0.get 1=some v)(a5:r0.get 5=some v1)(a6:r0.get 6=some (.int .i64 c1))(a7:r0.get 7=some v2)(a8:r0.get 8=some (.int .i64 c2))(a9:r0.get 9=some v3)(a10:r0.get 10=some (.int .i64 c3))(a11:r0.get 11=some (.int .i64 (Zv4 m l)))(a12:r0.get 12=some (.int .i64 (Zp6 m l)))(a13:r0.get 13=some (.int .i64 (Zsb m l)))(a14:r0.get 14=some .nilslice)(a15:r0.get 15=some .nilslice)(a16:r0.get 16=some .nilslice):
  Code A.C none A.ta3_3 ⟨r0,124,[]⟩ ⟨H,n,[]⟩ (fun e fr st=>e=.ret∧∃r,fr=⟨r,124,[]⟩∧r.get 4=some (.bool true)∧Zaa n st.w=[]∧Keeps H n st.h st.n):=by
 rw[Zah]
 have lc:(Yct m l).length<100000:=by
  have:=(Zet sm).1
  simpa[Yct,Zi0]using this
 by_cases hE:Zv4 m l=0
 ·have z1:=Zav hE (Zhy m 64 64) (by simp)
  have z2:=Zav hE (Zbx l (hdL m)) (by simp)
  have hM:=Ziv z1 sm
  obtain⟨z3,hL⟩:=Zj7 z2 sl
  have n6:=hM.n6
  have m6:=hM.le
  have el:(Zf5 l).length=hdL m:=by simp[Zf5,z3]
  have em:(Zi0 m).length=m.length:=by simp[Zi0]
  have hu:=hm.rat fun r hr=>(hM.row r hr).2
  have hv:=OkL.sl hl hL
  simp[A.ta3_3,a11,hE,a0,a1]
  refine Zac (Zqo (n:=hdL m) (j:=100) (k:=100) hu hv hM.rat (by omega) hL.qb (by decide) (by decide) (by omega) (by omega)) ?_
  rintro x H3 n3 kk hx
  have le3:=kk.le
  simp[]
  have s1':Wt (Zv4 m l) (Yct m l) v1 c1 x H3 n3:=⟨hP.keep kk,s1.keep kk,fun _=>Zqt hx,lc,fun _ q hq=>Zul (k:=1207) (by
   obtain⟨r,hr,rfl⟩:=List.mem_map.1 hq
   obtain⟨b1,b2⟩:=hM.rat r hr
   exact Zku (n:=6) b2 hL.qb (by decide) (by decide) (by omega)) (by decide)⟩
  rw[hE]at a11
  refine Za4 (Zk9 (hm.keep kk) (hl.keep kk) (hP.keep kk) sm sl s1' (s2.keep kk) (s3.keep kk) (by simp[a0]) (by simp[a1]) (by simp[a5]) (by simp[a6]) (by simp[a7]) (by simp[a8]) (by simp[a9]) (by simp[a10]) (by simp[a11,hE]) (by simp[a12]) (by simp[a13]) (by simp) (by simp[a15]) (by simp[a16])) ?_
  rintro e fr st ⟨rfl,r',rfl,g4,g5,g6⟩
  simp[g4]
  exact⟨Zjo g5 (by omega),kk.trans g6⟩
 ·simp[A.ta3_3,a11,hE]
  refine Za4 (Zk9 (u1:=.nilslice) hm hl hP sm sl ⟨hP,s1,fun h=>absurd h hE,lc,fun h=>absurd h hE⟩ s2 s3 (by simp[a0]) (by simp[a1]) (by simp[a5]) (by simp[a6]) (by simp[a7]) (by simp[a8]) (by simp[a9]) (by simp[a10]) (by simp[a11]) (by simp[a12]) (by simp[a13]) (by simp[a14]) (by simp[a15]) (by simp[a16])) ?_
  rintro e fr st ⟨rfl,r',rfl,g4,g5,g6⟩
  simp[g4,g5]
  exact g6
theorem Zum{H:T O}{n:Nat}{r0:T V}{u v v1 v2 v3:V}{m:List (List Str)}{l:List Str}{c1 c2 c3:Int}(hm:MtS H n u m)(hl:Sl H n v (strs l))(hP:P10 H n)(sm:Zcm 6 6 m=true)(sl:Za9 6 l=true)(s1:TP (Zv4 m l) (Yct m l) v1 c1 H n)(s2:TP (Zp6 m l) (Zyu m l) v2 c2 H n)(s3:TP (Zsb m l) (Zwx m l) v3 c3 H n)(a0:r0.get 0=some u)(a1:r0.get 1=some v)(a5:r0.get 5=some v1)(a6:r0.get 6=some (.int .i64 c1))(a7:r0.get 7=some v2)(a8:r0.get 8=some (.int .i64 c2))(a9:r0.get 9=some v3)(a10:r0.get 10=some (.int .i64 c3))(a11:r0.get 11=some (.int .i64 (Zv4 m l)))(a12:r0.get 12=some (.int .i64 (Zfc m)))(a13:r0.get 13=some (.int .i64 (Zsb m l)))(a14:r0.get 14=some .nilslice)(a15:r0.get 15=some .nilslice)(a16:r0.get 16=some .nilslice):
  Code A.C none A.ta3_4 ⟨r0,124,[]⟩ ⟨H,n,[]⟩ (fun e fr st=>e=.ret∧∃r,fr=⟨r,124,[]⟩∧r.get 4=some (.bool true)∧Zaa n st.w=[]∧Keeps H n st.h st.n):=by
 rw[Zah]
 have ml:=hm.len
 obtain⟨l1,l2⟩:=Zeu sl
 by_cases hE:Zfc m=0
 ·have e2:Zp6 m l=Zbx l m.length:=by rw[Zy3,Ynd,if_pos hE]
  simp[A.ta3_4,a12,hE,a0,a1,ml]
  refine Zac (Zlx hl l1 l2) ?_
  rintro _ H3 n3 kk rfl
  have le3:=kk.le
  simp[]
  rw[←e2]
  refine Za4 (Zor (hm.keep kk) (hl.keep kk) (hP.keep kk) sm sl (s1.keep kk) (s2.keep kk) (s3.keep kk) (by simp[a0]) (by simp[a1]) (by simp[a5]) (by simp[a6]) (by simp[a7]) (by simp[a8]) (by simp[a9]) (by simp[a10]) (by simp[a11]) (by simp) (by simp[a13]) (by simp[a14]) (by simp[a15]) (by simp[a16])) ?_
  rintro e fr st ⟨rfl,r',rfl,g4,g5,g6⟩
  simp[g4]
  exact⟨Zjo g5 (by omega),kk.trans g6⟩
 ·have e2:Zp6 m l=Zfc m:=by rw[Zy3,Ynd,if_neg hE]
  rw[←e2]at a12
  simp[A.ta3_4,a12,e2,hE]
  refine Za4 (Zor hm hl hP sm sl s1 s2 s3 (by simp[a0]) (by simp[a1]) (by simp[a5]) (by simp[a6]) (by simp[a7]) (by simp[a8]) (by simp[a9]) (by simp[a10]) (by simp[a11]) (by simp[a12]) (by simp[a13]) (by simp[a14]) (by simp[a15]) (by simp[a16])) ?_
  rintro e fr st ⟨rfl,r',rfl,g4,g5,g6⟩
  simp[g4,g5]
  exact g6
end Go.Mx
namespace Go.Mx
open Go Go.Proofs
set_option maxRecDepth 1000000
set_option maxHeartbeats 1000000 in
theorem Yel{H:T O}{n:Nat}{r0:T V}{u v v1 v2 v3:V}{m:List (List Str)}{l:List Str}{c1 c2 c3:Int}(hm:MtS H n u m)(hl:Sl H n v (strs l))(hP:P10 H n)(sm:Zcm 6 6 m=true)(sl:Za9 6 l=true)(s1:TP (Zv4 m l) (Yct m l) v1 c1 H n)(s2:TP (Zp6 m l) (Zyu m l) v2 c2 H n)(s3:TP (Zsb m l) (Zwx m l) v3 c3 H n)(a0:r0.get 0=some u)(a1:r0.get 1=some v)(a5:r0.get 5=some v1)(a6:r0.get 6=some (.int .i64 c1))(a7:r0.get 7=some v2)(a8:r0.get 8=some (.int .i64 c2))(a9:r0.get 9=some v3)(a10:r0.get 10=some (.int .i64 c3))(a11:r0.get 11=some (.int .i64 (Zhy m 64 64)))(a12:r0.get 12=some (.int .i64 (Zfc m)))(a13:r0.get 13=some (.int .i64 (Zhy m 64 64)))(a14:r0.get 14=some .nilslice)(a15:r0.get 15=some .nilslice)(a16:r0.get 16=some .nilslice):
  Code A.C none A.ta3_5 ⟨r0,124,[]⟩ ⟨H,n,[]⟩ (fun e fr st=>e=.ret∧∃r,fr=⟨r,124,[]⟩∧r.get 4=some (.bool true)∧Zaa n st.w=[]∧Keeps H n st.h st.n):=by
 rw[Zah]
 obtain⟨l1,l2⟩:=Zeu sl
 have e1:=Yiu (m:=m) (l:=l)
 have e3:=Zy7 (m:=m) (l:=l)
 unfold Ynv at e1
 unfold Zy8 at e3
 by_cases hE:Zhy m 64 64=0
 ·rw[if_pos hE]at e1 e3
  have hM:=Ziv hE sm
  have mp:=hM.pos
  have mp':0<(m.length:Int):=by omega
  obtain⟨row,hr0⟩:=Zag hM.pos
  have er0:row.length=hdL m:=(hM.row row (List.mem_of_getElem? hr0)).1
  have ml:=hm.len
  obtain⟨i0,o0,cc0,e0,rw0,u0,q1,q2,q3,q4,q5⟩:=hm.at hr0
  have q6:=q5.len
  rw[Zbn,er0]at q6
  rw[Nat.add_zero]at q4
  simp[A.ta3_5,a11,hE,a0,a1,ml,mp,q1,q2,q3,q4,q6]
  refine Zac (Zlx hl l1 l2) ?_
  rintro _ H3 n3 k3 rfl
  have le3:=k3.le
  have q7:=(k3.get i0 q2).trans q3
  have d3:i0<n3:=by omega
  simp[a0,a1,ml,mp,q1,q7,q4,q6,d3]
  refine Zac (Ymw (z:=0) (hl.keep k3) l1 l2) ?_
  rintro _ H4 n4 k4 rfl
  have le4:=k4.le
  have d4:i0<n4:=by omega
  have kk:=k3.trans k4
  simp[]
  rw[←e1,←e3]
  try refine(Zdk (by simp[-Zaa]<;>omega)).2 ?_
  try simp[]
  refine Za4 (Zum (hm.keep kk) (hl.keep kk) (hP.keep kk) sm sl (s1.keep kk) (s2.keep kk) (s3.keep kk) (by simp[a0]) (by simp[a1]) (by simp[a5]) (by simp[a6]) (by simp[a7]) (by simp[a8]) (by simp[a9]) (by simp[a10]) (by simp) (by simp[a12]) (by simp) (by simp[a14]) (by simp[a15]) (by simp[a16])) ?_
  rintro e fr st ⟨rfl,r',rfl,g4,g5,g6⟩
  simp[g4]
  exact⟨Zjo g5 (by omega),kk.trans g6⟩
 ·rw[if_neg hE]at e1 e3
  rw[←e1]at a11
  rw[←e3]at a13
  simp[A.ta3_5,a11,e1,hE]
  refine Za4 (Zum hm hl hP sm sl s1 s2 s3 (by simp[a0]) (by simp[a1]) (by simp[a5]) (by simp[a6]) (by simp[a7]) (by simp[a8]) (by simp[a9]) (by simp[a10]) (by simp[a11]) (by simp[a12]) (by simp[a13]) (by simp[a14]) (by simp[a15]) (by simp[a16])) ?_
  rintro e fr st ⟨rfl,r',rfl,g4,g5,g6⟩
  simp[g4,g5]
  exact g6
set_option maxHeartbeats 1000000 in
theorem Zym{h:T O}{N:Nat}{u v:V}{m:List (List Str)}{l:List Str}(hm:MtS h N u m)(hl:Sl h N v (strs l))(hP:P10 h N)(b1:m.length<9223372036854775808)(b2:∀x∈m,x.length<9223372036854775808)(b3:l.length<9223372036854775808):Fn A.C 3 [u,v] h N (fun x _ _=>x=.bool true):=by
 intro w
 have hA:∀w,A.C.call (.func 8 [] []) [u,.int .i64 6,.int .i64 6] ⟨h,N,w⟩=some (.bool (Zcm 6 6 m),⟨h,N,w⟩):=fun w=>Ydr (w:=w) (n:=6) (p:=6) hm b1 b2 (by decide) (by decide)
 have hB:∀w,A.C.call (.func 9 [] []) [v,.int .i64 6] ⟨h,N,w⟩=some (.bool (Za9 6 l),⟨h,N,w⟩):=fun w=>Zme (w:=w) (n:=6) hl b3 (by decide)
 have hAw:=fun w=>Zv2 (w:=w) hP
 rw[Zab,A.k3 (by simp)]
 cases sm:Zcm 6 6 m with
 |false=>
  rw[sm]at hA
  simp[A.b3,hA,hAw,Ret]
  exact Keeps.refl
 |true=>
  rw[sm]at hA
  cases sl:Za9 6 l with
  |false=>
   rw[sl]at hB
   simp[A.b3,hA,hB,hAw,Ret]
   exact Keeps.refl
  |true=>
   rw[sl]at hB
   obtain⟨m1,m2⟩:=Zet sm
   simp[A.b3,hA,hB]
   refine Zac (Ygd hm hl hP sm sl) ?_
   rintro _ H1 n1 k1 t1
   obtain⟨v1,c1,rfl,p1⟩:=t1.parts
   simp[]
   refine Zac (Zyi (hm.keep k1) (hl.keep k1) (hP.keep k1) sm sl) ?_
   rintro _ H2 n2 k2 t2
   obtain⟨v2,c2,rfl,p2⟩:=t2.parts
   have j2:=k1.trans k2
   simp[]
   refine Zac (Yem (hm.keep j2) (hl.keep j2) (hP.keep j2) sm sl) ?_
   rintro _ H3 n3 k3 t3
   obtain⟨v3,c3,rfl,p3⟩:=t3.parts
   have j3:=j2.trans k3
   simp[]
   refine Zac (Ykq (a:=64) (b:=64) (hm.keep j3) m1 m2) ?_
   rintro _ H4 n4 k4 rfl
   have j4:=j3.trans k4
   simp[]
   refine Zac (Yki (hm.keep j4) m1 m2) ?_
   rintro _ H5 n5 k5 rfl
   have j5:=j4.trans k5
   have le5:=j5.le
   simp[]
   refine Za4 (Yel (hm.keep j5) (hl.keep j5) (hP.keep j5) sm sl (((((p1.keep k2).keep k3).keep k4).keep k5)) ((((p2.keep k3).keep k4).keep k5)) (((p3.keep k4).keep k5)) (by simp) (by simp) (by simp) (by simp) (by simp) (by simp) (by simp) (by simp) (by simp) (by simp) (by simp) (by simp) (by simp) (by simp)) ?_
   rintro e fr ⟨H6,n6,W6⟩ ⟨rfl,r',rfl,g4,g5,g6⟩
   simp only at g5 g6
   simp[g4,Ret]
   exact⟨Zjo g5 (by omega),j5.trans g6⟩
end Go.Mx
namespace Go.Mx
open Go
inductive Zlb where
 |nil
 |emp (b:Addr)
 |sl (b:Addr) (l c:Nat) (f:Nat→ByteArray)
def Zlb.val:Zlb→Value
 |.nil=>.slice none 0 0
 |.emp b=>.slice (some b) 0 0
 |.sl b l c f=>.slice (some b) l c
def Zlb.ok(W:World):Zlb→Prop
 |.sl b l c f=>l≤c∧0<c∧∀i,i<c→W.cell? (b.add i)=some (.string (f i))
 |_=>True
def Zlb.strs:Zlb→List Str
 |.sl b l c f=>(List.range l).map fun i=>(f i).data.toList
 |_=>[]
def eOf(W:World)(a:Addr):TypeId:=match W.heap[a.block]? with
 |some (.cells _ e _)=>e
 |_=>0
def Zlb.mv(i:Nat):Zlb→V
 |.nil=>.nilslice
 |.emp b=>.empty
 |.sl b l c f=>.slice i 0 l (some c) 1
theorem Zvx{W:World}{a:Addr}{n:Nat}{f:Nat→Value}(hn:0<n)(hc:∀i,i<n→W.cell? (a.add i)=some (f i)):
  ∃c' lo hi,W.heap[a.block]?=some (.cells c' (eOf W a) (lo,hi))∧a.spot=none∧(∀i,i<n→c'[a.off+i]?=some (f i))∧a.off+n≤c'.size∧a.block<W.heap.size:=by
 have h0:=hc 0 hn
 have ha0:a.add 0=a:=by simp[Addr.add]
 rw[ha0]at h0
 obtain⟨c',e,fr,hb⟩:∃c' e fr,W.heap[a.block]?=some (.cells c' e fr):=by
  unfold World.cell? at h0
  split at h0
  ·rename_i c' e fr hb;exact⟨c',e,fr,hb⟩
  ·cases h0
 have hs:a.spot=none:=by
  unfold World.cell? at h0
  rw[hb]at h0
  simp only at h0
  split at h0
  ·cases h0
  ·rename_i h;simpa using h
 have hcell:∀i,i<n→c'[a.off+i]?=some (f i):=fun i hi=>by
  have:=hc i hi
  unfold World.cell? at this
  have e1:(a.add i).block=a.block:=by unfold Addr.add;split<;>rfl
  have e2:(a.add i).off=a.off+i:=by unfold Addr.add;split<;>simp_all
  have e3:(a.add i).spot=none:=by unfold Addr.add;split<;>simp_all
  rw[e1,hb]at this
  simp only[e2,e3,Option.isSome_none,Bool.false_eq_true,if_false]at this
  exact this
 have hlt:a.block<W.heap.size:=by
  rcases Nat.lt_or_ge a.block W.heap.size with h|h
  ·exact h
  ·rw[Array.getElem?_eq_none h]at hb;cases hb
 have hend:a.off+n≤c'.size:=by
  have:=hcell (n-1) (by omega)
  have h2:=(Array.getElem?_eq_some_iff.1 this).1
  omega
 obtain⟨lo,hi⟩:=fr
 exact⟨c',lo,hi,by rw[hb];simp[eOf,hb],hs,hcell,hend,hlt⟩
structure Ynn where
 a:Addr
 n:Nat
 f:Nat→Value
 g:Nat→V
def Ynn.ok(W:World)(r:Ynn):Prop:=0<r.n∧(∀i,i<r.n→W.cell? (r.a.add i)=some (r.f i))∧∀i,i<r.n→(r.f i).oneCell'=true
end Go.Mx
