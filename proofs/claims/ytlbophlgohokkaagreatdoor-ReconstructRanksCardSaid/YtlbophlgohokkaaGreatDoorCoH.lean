/-
  lensletref05: CheckInteraction, CheckDropped, Dropped.
-/
import Derived.Test.YtlbophlgohokkaaGreatDoorEcC
import Derived.Test.YtlbophlgohokkaaGreatDoorVbG
import Derived.Test.YtlbophlgohokkaaGreatDoorMxRg
set_option linter.all false
namespace Go.Mx
open Go Go.Proofs
set_option maxRecDepth 1000000
def A.b27:Zae:=sr [mc 2 0]
 (sr [mv 3 0,⟨(some 4),.call (.const (.func 14 [] [])) [(.tmp 3),(.const (.int .i64 64)),(.const (.int .i64 16))],none⟩,mv 2 4]
 (.ret))
theorem A.c27:A.F 27=some ⟨5,[.tmp 2],A.b27⟩:=by kernel_rfl
def A.k27:=@A.kk 27 _ _ _ A.c27 rfl
theorem Ycn{h:T O}{N:Nat}{v:V}{l:List (List Str)}(hs:MtS h N v l)(hl:l.length<100000)(hx:∀x∈l,x.length<100000∧∀s∈x,s.length≤100000):Fn A.C 27 [v] h N (fun u _ _=>u=.int .i64 (Zmh l 64 16)):=by
 intro w
 rw[Zab,A.k27 (by simp)]
 simp[A.b27]
 refine Zac (Yi4 (a:=64) (b:=16) hs hl hx) ?_
 rintro _ H2 n2 k2 rfl
 simp[Ret]
 exact k2
variable {N:Nat} {h:T O} {m:List (List Rat)} {v:V}
set_option maxHeartbeats 1000000
structure DrI (l:List Int) (k a:Nat):Prop where
 lo:∀z∈l.take a,z<(k:Int)
 hi:∀z∈l.drop a,(k:Int)≤z
def MtR(N0:Nat)(h:T O)(N:Nat)(v:V)(m:List (List Rat)):Prop:=∃us:List V,Own 1 23 N0 h N v (us.map fun y=>[y])∧us.length=m.length∧∀(j:Nat) (l:List Rat),m[j]?=some l→∃u,us[j]?=some u∧Tx h N0 u l
theorem MtR.nil{N0:Nat}:MtR N0 h N .nilslice []:=⟨[],Own.nil,rfl,fun j l hl=>by simp at hl⟩
theorem MtR.keep{N0:Nat}{h':T O}{N':Nat}(s:MtR N0 h N v m)(k:Keeps h N h' N')(hN:N0≤N):MtR N0 h' N' v m:=by
 obtain⟨us,h1,h3,h4⟩:=s
 refine⟨us,h1.keep k,h3,fun j l hl=>?_⟩
 obtain⟨u,g1,g2⟩:=h4 j l hl
 exact⟨u,g1,g2.keep ⟨Yoy _,fun i hi=>k.get i (by omega)⟩⟩
theorem MtR.txm{N0:Nat}(s:MtR N0 h N v m)(hN:N0≤N):TxM h N v m:=by
 obtain⟨us,h1,h3,h4⟩:=s
 refine⟨us,Sn.one.1 h1.sn,h3,fun j l hl=>?_⟩
 obtain⟨u,g1,g2⟩:=h4 j l hl
 exact⟨u,g1,g2.keep ⟨hN,fun _ _=>rfl⟩⟩
theorem MtR.push{N0:Nat}{u x:V}{l:List Rat}{w:List Nat}(s:MtR N0 h N v m)(hu:Tx h N0 u l)(hN:N0≤N)(hx:Zaw ⟨h,N,w⟩ 1 x=some (1,[u]))(hm:m.length<100000):
  ∃v' h' w',Zb2 ⟨h,N,w⟩ 1 24 23 v x=some (v',⟨h',N+1,w'⟩)∧Zaa N0 w'=Zaa N0 w∧Keeps h N0 h' (N+1)∧MtR N0 h' (N+1) v' (m++[l]):=by
 obtain⟨us,h1,h3,h4⟩:=s
 obtain⟨v',h',w',f1,f2,f3,_,f5⟩:=Zbi (x:=[u]) (u:=x) (bytes:=24) (w:=w) h1 hN (by decide) rfl hx (by rw[Yrc];omega)
 have kk:Keeps h N0 h' N0:=⟨Yoy _,f3.get⟩
 refine⟨v',h',w',f1,f2,f3,us++[u],by simpa using f5,by simp[h3],fun j r hr=>?_⟩
 by_cases hj:j<m.length
 ·rw[Ypl hj]at hr
  obtain⟨u',g1,g2⟩:=h4 j r hr
  exact⟨u',by rw[Ypl (by omega)];exact g1,g2.keep kk⟩
 ·rw[Ypr (by omega)]at hr
  cases hd:j-m.length with
  |zero=>
   rw[hd]at hr
   simp at hr
   subst hr
   exact⟨u,by rw[Ypr (by omega),h3,hd];rfl,hu.keep kk⟩
  |succ d=>rw[hd]at hr;simp at hr
def Ynd(m:List (List Rat)):Bool:=m.any Zd7
def TPM(e:Int)(m:List (List Rat))(v:V)(c:Int)(h:T O)(n:Nat):Prop:=(e≠0∧v=.nilslice∧c=e)∨(e=0∧((Ynd m=true∧v=.nilslice∧c=4)∨(Ynd m=false∧c=0∧TxM h n v m)))
theorem TPM.keep{h h':T O}{n n':Nat}{e c:Int}{m:List (List Rat)}{v:V}(s:TPM e m v c h n)(k:Keeps h n h' n'):TPM e m v c h' n':=by
 rcases s with s|⟨a,s|⟨b,c,s⟩⟩
 ·exact .inl s
 ·exact .inr ⟨a,.inl s⟩
 ·exact .inr ⟨a,.inr ⟨b,c,s.keep k⟩⟩
def TPN(e:Int)(q:Rat)(s:List UInt8)(c:Int):Prop:=(e≠0∧s=[]∧c=e)∨(e=0∧((Yfz q=true∧s=[]∧c=4)∨(Yfz q=false∧c=0∧s=Zax q)))
theorem Ylf.parts{e:Int}{q:Rat}{x:V}(s:Ylf e q x):∃t c,x=.tup [.str t,.int .i64 c]∧TPN e q t c:=by
 rcases s with⟨a,rfl⟩|⟨a,⟨b,rfl⟩|⟨b,rfl⟩⟩
 ·exact⟨_,_,rfl,.inl ⟨a,rfl,rfl⟩⟩
 ·exact⟨_,_,rfl,.inr ⟨a,.inl ⟨b,rfl,rfl⟩⟩⟩
 ·exact⟨_,_,rfl,.inr ⟨a,.inr ⟨b,rfl,rfl⟩⟩⟩
variable {h:T O}
def A.lb3_0:Zae:=sr [bi 87 .lss 86 85]
 (.seq (cd 87
 (.skip)
 (.exit 0))
 (.seq (.block 1 (sr [ia 88 1 84 86,ld 89 88,mv 18 89]
 (.reg [mv 90 16,mv 91 18,⟨(some 92),.bslice 23 1 1 [.nilslice] [(0,1,(.tmp 91))],none⟩,mv 93 1,c2 94 21 92 93,⟨(some 95),.iaddrSl 1 (.tmp 94) (.const (.int .i64 0)),none⟩,ld 96 95,mv 97 18,c2 98 20 96 97,⟨(some 99),.bslice 36 1 1 [(.str [])] [(0,1,(.tmp 98))],none⟩,⟨(some 100),.append 1 16 36 [(.str [])] (.tmp 90) (.tmp 99),none⟩,mv 16 100])))
 (.reg [bc 101 .add 86 1,mv 86 101])))
def A.ta3_0:Zae:=sr [mv 102 5,mv 103 6,mv 104 14,mv 105 11,⟨(some 106),.call (.const (.func 22 [] [])) [(.tmp 102),(.tmp 103),(.tmp 104),(.tmp 105)],none⟩,mv 107 106,mg 108 7 107,mg 109 8 107,mg 110 15 107,mg 111 12 107,⟨(some 112),.call (.const (.func 22 [] [])) [(.tmp 108),(.tmp 109),(.tmp 110),(.tmp 111)],(some (107,true))⟩,pf 113 107 112,mv 114 113,mg 115 9 114,mg 116 10 114,mg 117 16 114,mg 118 13 114,⟨(some 119),.call (.const (.func 22 [] [])) [(.tmp 115),(.tmp 116),(.tmp 117),(.tmp 118)],(some (114,true))⟩,pf 120 114 119,mv 121 120,⟨(some 122),.call (.const (.func 10 [] [])) [],(some (121,true))⟩,pf 123 121 122,mv 4 123]
 (.ret)
def A.ta3_1:Zae:=.seq (sr [mv 82 13,ei 83 82 0]
 (cd 83
 (sr [mv 84 0,ln 85 84,mc 86 0]
 (.block 0 (.loop A.lb3_0)))
 (.skip)))
 A.ta3_0
def A.ta3_2:Zae:=.seq (sr [mv 76 12,ei 77 76 0]
 (cd 77
 (.reg [mv 78 0,c1 79 19 78,mv 80 1,c2 81 18 79 80,mv 15 81])
 (.skip)))
 A.ta3_1
def A.ta3_3:Zae:=.seq (sr [mv 71 11,ei 72 71 0]
 (cd 72
 (.reg [mv 73 0,mv 74 1,c2 75 18 73 74,mv 14 75])
 (.skip)))
 A.ta3_2
def A.ta3_4:Zae:=.seq (sr [mv 65 12,ei 66 65 0]
 (cd 66
 (.reg [mv 67 1,mv 68 0,ln 69 68,c2 70 16 67 69,mv 12 70])
 (.skip)))
 A.ta3_3
def A.ta3_5:Zae:=.seq (sr [mv 51 11,ei 52 51 0]
 (cd 52
 (.regD [mv 53 1,mv 54 0,⟨(some 55),.iaddrSl 1 (.tmp 54) (.const (.int .i64 0)),none⟩,ld 56 55,ln 57 56,c2 58 16 53 57,mv 59 1,mv 60 0,⟨(some 61),.iaddrSl 1 (.tmp 60) (.const (.int .i64 0)),none⟩,ld 62 61,ln 63 62,⟨(some 64),.call (.const (.func 17 [] [])) [(.tmp 59),(.tmp 63),(.const (.int .i64 0))],none⟩,mv 11 58,mv 13 64] [0,0,2,6,14,31,0,0,128,384,896,2047,4095,8191])
 (.skip)))
 A.ta3_4
def A.b3:Zae:=sr [⟨(some 4),.mov (.const (.bool false)),none⟩]
 (.seq (sr [mv 19 0,⟨(some 20),.call (.const (.func 8 [] [])) [(.tmp 19),(.const (.int .i64 6)),(.const (.int .i64 6))],none⟩,⟨(some 21),.un .not (.tmp 20),none⟩,mv 22 21,mh 23 1 22,⟨(some 24),.call (.const (.func 9 [] [])) [(.tmp 23),(.const (.int .i64 6))],(some (22,false))⟩,⟨(some 25),.un .not (.tmp 24),(some (22,false))⟩,pt 26 22 25]
 (cd 26
 (sr [⟨(some 27),.call (.const (.func 10 [] [])) [],none⟩,mv 4 27]
 (.ret))
 (.skip)))
 (sr [mv 29 0,mv 30 1,c2 31 11 29 30,mv 28 31,xt 32 28 0,xt 33 28 1,mv 5 32,mv 6 33]
 (sr [mv 35 0,mv 36 1,c2 37 12 35 36,mv 34 37,xt 38 34 0,xt 39 34 1,mv 7 38,mv 8 39]
 (sr [mv 41 0,mv 42 1,c2 43 13 41 42,mv 40 43,xt 44 40 0,xt 45 40 1,mv 9 44,mv 10 45]
 (sr [mv 46 0,⟨(some 47),.call (.const (.func 14 [] [])) [(.tmp 46),(.const (.int .i64 64)),(.const (.int .i64 64))],none⟩,mv 11 47]
 (sr [mv 48 0,c1 49 15 48,mv 12 49]
 (sr [mv 50 11,mv 13 50]
 (sr [mN 14,mN 15,mN 16]
 A.ta3_5))))))))
theorem A.c3:A.F 3=some ⟨124,[.tmp 4],A.b3⟩:=by kernel_rfl
def A.k3:=@A.kk 3 _ _ _ A.c3 rfl
theorem Zo4{N:Nat}{w:List Nat}(hP:P10 h N):A.C.call (.func 10 [] []) [] ⟨h,N,w⟩=some (.bool true,⟨h,N,w⟩):=by
 exact A.known hP.2
structure Wt (e:Int) (l:List Rat) (v:V) (c:Int) (u:V) (h:T O) (n:Nat):Prop where
 p:P10 h n
 tp:TP e l v c h n
 tx:e=0→Tx h n u l
 len:l.length<100000
 txt:e=0→∀q∈l,(Zax q).length<1000000
theorem Wt.eq{n:Nat}{v u:V}{e c:Int}{l:List Rat}(s:Wt e l v c u h n)(w:List Nat):A.C.call (.func 22 [] []) [v,.int .i64 c,u,.int .i64 e] ⟨h,n,w⟩=some (.bool true,⟨h,n,w⟩):=Yh3 s.tp s.tx s.len s.txt
theorem Wt.keep{h':T O}{n n':Nat}{v u:V}{e c:Int}{l:List Rat}(s:Wt e l v c u h n)(k:Keeps h n h' n'):Wt e l v c u h' n':=⟨s.p.keep k,s.tp.keep k,fun a=>(s.tx a).keep k,s.len,s.txt⟩
def A.ta4_0:Zae:=sr [mv 131 7,mv 132 8,mv 133 17,mv 134 14,⟨(some 135),.call (.const (.func 22 [] [])) [(.tmp 131),(.tmp 132),(.tmp 133),(.tmp 134)],none⟩,mv 136 135,mg 137 9 136,mg 138 10 136,mg 139 18 136,mg 140 15 136,⟨(some 141),.call (.const (.func 28 [] [])) [(.tmp 137),(.tmp 138),(.tmp 139),(.tmp 140)],(some (136,true))⟩,pf 142 136 141,mv 143 142,mg 144 11 143,mg 145 12 143,mg 146 19 143,mg 147 16 143,⟨(some 148),.call (.const (.func 29 [] [])) [(.tmp 144),(.tmp 145),(.tmp 146),(.tmp 147)],(some (143,true))⟩,pf 149 143 148,mv 150 149,⟨(some 151),.call (.const (.func 10 [] [])) [],(some (150,true))⟩,pf 152 150 151,mv 6 152]
 (.ret)
def A.ta4_1:Zae:=.seq (sr [mv 126 16,ei 127 126 0]
 (cd 127
 (.reg [mv 128 0,mv 129 2,c2 130 34 128 129,mv 19 130])
 (.skip)))
 A.ta4_0
def A.ta4_2:Zae:=.seq (sr [mv 116 15,ei 117 116 0]
 (cd 117
 (.reg [mv 118 0,fa 119 0 4,ld 120 119,fa 121 1 4,ld 122 121,fa 123 2 4,ld 124 123,⟨(some 125),.call (.const (.func 33 [] [])) [(.tmp 118),(.tmp 120),(.tmp 122),(.tmp 124)],none⟩,mv 18 125])
 (.skip)))
 A.ta4_1
def A.ta4_3:Zae:=.seq (sr [mv 108 14,ei 109 108 0]
 (cd 109
 (.reg [mv 110 0,fa 111 1 4,ld 112 111,fa 113 2 4,ld 114 113,⟨(some 115),.call (.const (.func 32 [] [])) [(.tmp 110),(.tmp 112),(.tmp 114)],none⟩,mv 17 115])
 (.skip)))
 A.ta4_2
def A.ta4_4:Zae:=.seq (.regD [fa 83 1 4,ld 84 83,mv 85 0,ln 86 85,c2 87 16 84 86,fa 88 2 4,ld 89 88,mv 90 0,⟨(some 91),.iaddrSl 1 (.tmp 90) (.const (.int .i64 0)),none⟩,ld 92 91,ln 93 92,c2 94 16 89 93,⟨(some 95),.bslice 3 1 2 [(.int .i64 0),(.int .i64 0)] [(0,1,(.tmp 87)),(1,1,(.tmp 94))],none⟩,c1 96 30 95,mv 14 96] [0,1,0,4,15,0,32,0,128,384,896,2047,4095,8191,16383])
 (sr [fa 97 0 4,ld 98 97,mv 99 0,ln 100 99,⟨(some 101),.call (.const (.func 17 [] [])) [(.tmp 98),(.tmp 100),(.const (.int .i64 1))],none⟩,mv 102 14,⟨(some 103),.bslice 3 1 2 [(.int .i64 0),(.int .i64 0)] [(0,1,(.tmp 101)),(1,1,(.tmp 102))],none⟩,c1 104 30 103,mv 15 104]
 (sr [mv 105 0,mv 106 2,c2 107 31 105 106,mv 16 107]
 (sr [mN 17]
 (sr [⟨(some 18),.mov (.const (.str [])),none⟩]
 (sr [mN 19]
 A.ta4_3)))))
def A.b4:Zae:=sr [bx 4 42 1,⟨(some 6),.mov (.const (.bool false)),none⟩]
 (.seq (sr [mv 20 0,⟨(some 21),.call (.const (.func 8 [] [])) [(.tmp 20),(.const (.int .i64 6)),(.const (.int .i64 6))],none⟩,⟨(some 22),.un .not (.tmp 21),none⟩,mv 23 22,⟨(some 24),.load (some 3) (.tmp 4),(some (23,false))⟩,⟨(some 25),.call (.const (.func 23 [] [])) [(.tmp 24)],(some (23,false))⟩,⟨(some 26),.un .not (.tmp 25),(some (23,false))⟩,pt 27 23 26,mv 28 27,mh 29 2 28,⟨(some 30),.len 1 (.tmp 29),(some (28,false))⟩,⟨(some 31),.bin .gtr (.node []) false (.tmp 30) (.const (.int .i64 8)),(some (28,false))⟩,pt 32 28 31]
 (cd 32
 (sr [⟨(some 33),.call (.const (.func 10 [] [])) [],none⟩,mv 6 33]
 (.ret))
 (.skip)))
 (sr [mv 35 0,fa 36 1 4,ld 37 36,fa 38 2 4,ld 39 38,⟨(some 40),.call (.const (.func 24 [] [])) [(.tmp 35),(.tmp 37),(.tmp 39)],none⟩,mv 34 40,xt 41 34 0,xt 42 34 1,mv 7 41,mv 8 42]
 (sr [mv 44 0,fa 45 0 4,ld 46 45,fa 47 1 4,ld 48 47,fa 49 2 4,ld 50 49,⟨(some 51),.call (.const (.func 25 [] [])) [(.tmp 44),(.tmp 46),(.tmp 48),(.tmp 50)],none⟩,mv 43 51,xt 52 43 0,xt 53 43 1,mv 9 52,mv 10 53]
 (sr [mv 55 0,mv 56 2,c2 57 26 55 56,mv 54 57,xt 58 54 0,xt 59 54 1,mv 11 58,mv 12 59]
 (sr [mv 60 0,c1 61 27 60,mv 13 61]
 (.seq (sr [mv 62 13,ni 63 62 0]
 (cd 63
 (sr [mv 64 7,mv 65 8,mv 66 13,⟨(some 67),.call (.const (.func 22 [] [])) [(.tmp 64),(.tmp 65),(.const .nilslice),(.tmp 66)],none⟩,mv 68 67,mg 69 9 68,mg 70 10 68,mg 71 13 68,⟨(some 72),.call (.const (.func 28 [] [])) [(.tmp 69),(.tmp 70),(.const (.str [])),(.tmp 71)],(some (68,true))⟩,pf 73 68 72,mv 74 73,mg 75 11 74,mg 76 12 74,mg 77 13 74,⟨(some 78),.call (.const (.func 29 [] [])) [(.tmp 75),(.tmp 76),(.const .nilslice),(.tmp 77)],(some (74,true))⟩,pf 79 74 78,mv 80 79,⟨(some 81),.call (.const (.func 10 [] [])) [],(some (80,true))⟩,pf 82 80 81,mv 6 82]
 (.ret))
 (.skip)))
 A.ta4_4))))))
theorem A.c4:A.F 4=some ⟨153,[.tmp 6],A.b4⟩:=by kernel_rfl
def A.k4:=@A.kk 4 _ _ _ A.c4 rfl
structure Rg5 (r0:T V) (u dv:V) (B:Nat) (v1:V) (c1:Int) (s2:Str) (c2:Int) (v3:V) (c3:Int):Prop where
 a0:r0.get 0=some u
 a2:r0.get 2=some dv
 a4:r0.get 4=some (.ptr B 0)
 a7:r0.get 7=some v1
 a8:r0.get 8=some (.int .i64 c1)
 a9:r0.get 9=some (.str s2)
 a10:r0.get 10=some (.int .i64 c2)
 a11:r0.get 11=some v3
 a12:r0.get 12=some (.int .i64 c3)
structure WtN (e:Int) (q:Rat) (s:Str) (c:Int) (t:Str):Prop where
 tp:TPN e q s c
 tx:e=0→t=Zax q
 txt:e=0→(Zax q).length<1000000
structure WtM (e:Int) (m:List (List Rat)) (v:V) (c:Int) (u:V) (h:T O) (n:Nat):Prop where
 tp:TPM e m v c h n
 tx:e=0→TxM h n u m
 len:m.length<100000
 txt:e=0→∀r∈m,r.length<100000∧∀q∈r,(Zax q).length<1000000
theorem WtM.keep{h h':T O}{n n':Nat}{v u:V}{e c:Int}{m:List (List Rat)}(s:WtM e m v c u h n)(k:Keeps h n h' n'):WtM e m v c u h' n':=⟨s.tp.keep k,fun a=>(s.tx a).keep k,s.len,s.txt⟩
theorem Yc3{N n:Nat}{w:List Nat}(h:Zaa n w=[])(hN:N≤n):Zaa N w=[]:=Zj0 fun i hi=>by
 have:=Zp2 h i hi
 omega
set_option maxHeartbeats 2000000
theorem Zx1{q:Rat}{k:Nat}(h:Qb k q)(hk:k≤400000):(Zax q).length<1000000:=by
 have h1:=Zie h.1
 have h2:=Zgu h.2
 unfold Zax
 split<;>simp<;>omega
variable {h:T O}
theorem Sl.cells1{N:Nat}{v:V}{l:List V}(s:Sl h N v l):v.cells=[v]:=by
 rcases s with⟨_,rfl|rfl⟩|⟨j,o,cp,c,e,rw,rfl,hj,_⟩<;>rfl
theorem Sl.one1{N:Nat}{v:V}{l:List V}(s:Sl h N v l):v.one=true:=by
 rcases s with⟨_,rfl|rfl⟩|⟨j,o,cp,c,e,rw,rfl,hj,_⟩<;>rfl
theorem Ygi{r p:List Rat}{k:Nat}:Zks (fun x y=>x+y) r (p.map fun q=>q* -(r[k]?.getD 0)) r.length=Zrk r p k:=by
 unfold Zrk Zks
 apply Ysm
 intro i _
 rw[Ypp]
 cases hb:p[i]? with
 |none=>simp only[Option.map_none,Option.getD_none];rw[Rat.sub_eq_add_neg,Rat.mul_zero,Rat.neg_zero]
 |some q=>simp only[Yrk,Yq2];rw[Rat.sub_eq_add_neg,Rat.mul_neg,Rat.mul_comm]
theorem Ycm{W0:List Nat}{N0:Nat}{H:T O}{n R:Nat}{r0:T V}{m:List (List Rat)}{d k c K:Nat}(s:RwT N0 H n R m)(hc:RcN m c)(hk:k<c)(hd:d<m.length)(hml:m.length<1000)(hcl:c<1000)(hK:∀i,i≠d→∀q∈m[i]?.getD [],Qb K q)(hP:∀q∈m[d]?.getD [],Qb (2*K) q)(hKl:3*K≤400000)(kH:Keeps h N0 H n)(hW0:Zaa N0 W0=[])(a3:r0.get 3=some (.slice R 0 m.length none 1))(a4:r0.get 4=some (.int .i64 d))(a5:r0.get 5=some (.int .i64 k))(a7:r0.get 7=some (.int .i64 0)):
  Code A.C none (.loop A.lb45_0) ⟨r0,110,[]⟩ ⟨H,n,W0⟩ (fun e fr st=>e=.exit 4∧Zaa N0 st.w=[]∧Keeps h N0 st.h st.n∧RwT N0 st.h st.n R (Zj3 m d k m.length)∧∃r,Fx [(7,7),(75,104)] r0 110 ⟨r,110,[]⟩∧fr=⟨r,110,[]⟩):=by
 rw[Zah]
 refine Zaj [(7,7),(75,104)] (fun e r st=>e=.exit 4∧Zaa N0 st.w=[]∧Keeps h N0 st.h st.n∧RwT N0 st.h st.n R (Zj3 m d k m.length)) (fun i r st=>Zaa N0 st.w=[]∧Keeps h N0 st.h st.n∧∃t,t≤m.length∧i=m.length-t∧r.get 7=some (.int .i64 t)∧RwT N0 st.h st.n R (Zj3 m d k t)) (m.length) ?_ ?_ ?_
 ·exact⟨hW0,kH,0,by omega,by omega,a7,by rw[Yk0];exact s⟩
 ·rintro i r ⟨H1,n1,W⟩ hr hf ⟨hW,k1,t,ht,rfl,h7,s1⟩
  simp only at hW k1 s1
  rw[Zah]
  by_cases hlt:t<m.length
  ·have hlt':(t:Int)<(m.length:Int):=by omega
   by_cases e:t=d
   ·subst e
    rw[←Zul]at s1
    simp(disch:=first|(simp;done)|omega|rfl) [A.lb45_0,hr,hf,a3,a4,h7,hlt',k1,hW]
    exact⟨m.length-(t+1),by omega,t+1,by omega,rfl,by simp,s1⟩
   ·have e':¬(t:Int)=(d:Int):=by omega
    have hd':(d:Int)<(m.length:Int):=by omega
    obtain⟨row,hrow⟩:=Zaf hlt
    obtain⟨prow,hprow⟩:=Zaf hd
    have hrl:=hc row (Yo3 hrow)
    have hpl:=hc prow (Yo3 hprow)
    have w1:(Zj3 m d k t)[t]?=some row:=by rw[Zic hlt,Yo0 (by omega),hrow];rfl
    have w2:(Zj3 m d k t)[d]?=some prow:=by rw[Ykz hd];exact hprow
    obtain⟨us,u,g1,g2,g3,g4⟩:=s1.at w1
    obtain⟨us',v,g1',_,g3',g4'⟩:=s1.at w2
    rw[g1]at g1'
    simp only[Yox,O.cells.injEq,and_true]at g1'
    subst g1'
    obtain⟨q,hq⟩:=Zaf (l:=row) (k:=k) (by omega)
    have hrb:∀q∈row,Qb K q:=by have:=hK t e;rw[hrow]at this;exact this
    have hpb:∀q∈prow,Qb (2*K) q:=by have:=hP;rw[hprow]at this;exact this
    have hqb:=hrb q (Yo3 hq)
    have hnb:Qb K (-q):=⟨by rw[Rat.neg_num,Yra];exact hqb.1,by rw[Rat.neg_den];exact hqb.2⟩
    obtain⟨i1,o1,c1,e1,x1,q1,q2,q3,q4⟩:=g4.1.at (Zit hq)
    have hlu:=g4.1.len
    have hk1:(k:Int)<(row.length:Int):=by omega
    have hk2:k<row.length:=by omega
    have hR:=s1.lt
    have hne:=fun st=>Yhg (q:=q) (st:=st) (Zx1 hqb (by omega))
    simp[A.lb45_0,hr,a3,a4,a5,h7,hlt',e',hd',g1,g3,g3',hR,q1,q2,q3,q4,hk1,hlu,hne]
    refine Zac (Zpo g4'.1 hpb hnb (by omega) (by omega) (by omega)) ?_
    rintro v2 H2 n2 k2 o2
    have t2:=Zyw o2
    have le2:=k2.le
    have s2:=s1.keep k2
    have g2':=(k2.get R hR).trans g1
    simp
    refine Zac (Yey (g4.1.keep k2) t2.1 (by simp;omega) hrb (k:=2*K+K) (fun q' hq'=>by
     obtain⟨y,hy,rfl⟩:=Yql.1 hq'
     exact(hpb y hy).mul hnb) (by omega) (by omega) (by omega)) ?_
    rintro v3 H3 n3 k3 o3
    have t3:=(Zyw o3).old (N0:=N0)
    have le3:=k3.le
    have s3:=s2.keep k3
    have g3'':=(k3.get R (by omega)).trans g2'
    have hul:t<us.length:=by rw[g2,Zf4];exact hlt
    have hul2:t+1≤us.length:=hul
    have lR1:R<n2:=by omega
    have lR2:R<n3:=by omega
    have hul':(t:Int)<(us.length:Int):=by omega
    have hsp:∀u,splice us t [u]=us.set t u:=fun u=>Zc1 hul
    have hcc:v3.cells=[v3]:=Sl.cells1 t3.1
    have hon:v3.one=true:=Sl.one1 t3.1
    simp(disch:=first|(simp;done)|omega|rfl) [-V.cells, -V.one,Zak,hcc,hon,hsp,hul2,g3'',lR2,hf,h7]
    have hz:Zks (fun x y=>x+y) row (prow.map fun y=>y* -q) row.length=Zrk row prow k:=by
     have:=Ygi (r:=row) (p:=prow) (k:=k)
     rw[hq]at this
     exact this
    have sp:=s3.put g3'' t3 (i:=t) (by rw[Zf4];exact hlt)
    rw[hz]at sp
    refine⟨m.length-(t+1),by omega,by rw[Yo0 (Yr9.2 s1.ge)];exact hW,((k1.trans k2).trans k3).set s1.ge,t+1,by omega,rfl,by simp,?_⟩
    rw[Zou hlt e,hrow,hprow]
    exact sp
  ·obtain rfl:t=m.length:=by omega
   simp[A.lb45_0,hr,hf,a3,h7,k1,hW]
   exact s1
 ·rintro _ r st hr ⟨rfl,hw,k1,s1⟩
  simp[]
  exact⟨hw,k1,s1,hr,rfl,rfl⟩
variable {K:Nat} {m:List (List Rat)}
theorem Zgs{m:List (List Rat)}:∀{n:Nat},(Zbp m n).1.length=m.length
 |0=>rfl
 |n+1=>by rw[Zcn,Ygm];exact Zgs
theorem Zqw{m:List (List Rat)}{c:Nat}(h:RcN m c):∀{n:Nat},RcN (Zbp m n).1 c∧(Zbp m n).2.1≤m.length
 |0=>⟨h,Yrv _⟩
 |n+1=>by
  obtain⟨a,b⟩:=@Zqw m c h n
  rw[Zcn]
  have:=Yj0 (k:=n) a (by rw[Zgs];exact b)
  rw[Zgs]at this
  exact⟨this.1,this.2.1⟩
def kB(K:Nat):Nat→Nat
 |0=>K
 |n+1=>4*kB K n+1
theorem Zue{K:Nat}(h:1≤K):∀{n:Nat},1≤kB K n
 |0=>h
 |n+1=>by rw[kB];omega
theorem Ym2:∀{n:Nat},n<6→3*kB 96 n≤400000:=by decide
theorem Zov{m:List (List Rat)}:∀{n:Nat},(Zbp m n).2.1≤n
 |0=>Yoy _
 |n+1=>by
  have:=@Zov m n
  rw[Zcn]
  unfold Zmu
  split
  ·show (Zbp m n).2.1+1≤n+1
   omega
  ·omega
theorem Yak{m:List (List Rat)}{K:Nat}(h:QbM m K)(hK:1≤K):∀{n:Nat},QbM (Zbp m n).1 (kB K (Zbp m n).2.1)
 |0=>h
 |n+1=>by
  have ih:=@Yak m K h hK n
  rw[Zcn]
  by_cases hp:pvQ (Zbp m n).1 (Zbp m n).2.1 n<(Zbp m n).1.length
  ·have hs:=Yj1 (k:=n) ih (Zue hK)
   have e:(Zmu (Zbp m n) n).2.1=(Zbp m n).2.1+1:=by unfold Zmu;rw[Yo4 hp]
   rw[e,kB]
   exact hs
  ·have e:Zmu (Zbp m n) n=Zbp m n:=by unfold Zmu;rw[Yo0 hp]
   rw[e]
   exact ih
theorem Zvk{W0:List Nat}{N0:Nat}{h H:T O}{n R:Nat}{r0:T V}{c:Nat}(s:RwT N0 H n R m)(hc:RcN m c)(hml:m.length<1000)(hm0:0<m.length)(hcl:c<1000)(hK1:1≤K)(hK:QbM m K)(hB:∀n,n<m.length→n<c→3*kB K n≤400000)(kH:Keeps h N0 H n)(hW0:Zaa N0 W0=[])(a3:r0.get 3=some (.slice R 0 m.length none 1))(a4:r0.get 4=some (.int .i64 0))(a5:r0.get 5=some (.int .i64 0)):
  Code A.C none (.loop A.lb45_2) ⟨r0,110,[]⟩ ⟨H,n,W0⟩ (fun e fr st=>e=.exit 0∧Zaa N0 st.w=[]∧Keeps h N0 st.h st.n∧RwT N0 st.h st.n R (Zbp m c).1∧∃r,Fx [(4,7),(11,106)] r0 110 ⟨r,110,[]⟩∧fr=⟨r,110,[]⟩∧r.get 4=some (.int .i64 (Zbp m c).2.1)):=by
 rw[Zah]
 refine Zaj [(4,7),(11,106)] (fun e r st=>e=.exit 0∧Zaa N0 st.w=[]∧Keeps h N0 st.h st.n∧RwT N0 st.h st.n R (Zbp m c).1∧r.get 4=some (.int .i64 (Zbp m c).2.1)) (fun i r st=>Zaa N0 st.w=[]∧Keeps h N0 st.h st.n∧∃k,k≤c∧i=c-k∧r.get 5=some (.int .i64 k)∧r.get 4=some (.int .i64 (Zbp m k).2.1)∧RwT N0 st.h st.n R (Zbp m k).1) c ?_ ?_ ?_
 ·exact⟨hW0,kH,0,by omega,by omega,a5,a4,s⟩
 ·rintro i r ⟨H1,n1,W⟩ hr hf ⟨hW,k1,k,hk,rfl,h5,h4,s1⟩
  simp only at hW k1 s1
  rw[Zah]
  have hlen:(Zbp m k).1.length=m.length:=Zgs
  obtain⟨hrc,hdl⟩:=@Zqw m c hc k
  obtain⟨row0,hrow0⟩:=Zaf (l:=(Zbp m k).1) (k:=0) (by omega)
  have hrl0:=hrc row0 (Yo3 hrow0)
  obtain⟨us,u,g1,g2,g3,g4⟩:=s1.at hrow0
  have hlu:=g4.1.len
  rw[hrl0]at hlu
  have hR:=s1.lt
  have hm0':(0:Int)<(m.length:Int):=by omega
  by_cases hlt:k<c
  ·have hlt':(k:Int)<(c:Int):=by omega
   simp[A.lb45_2,hr,a3,h5,h4,hm0,g1,g3,hlu,hlt']
   refine Zbl (Yck (d:=(Zbp m k).2.1) s1 hrc hlt (by omega) (by omega) (by simp[hr,hlen,a3]) (by simp[h5]) (by simp)) ?_
   rintro _ _ _ ⟨rfl,rfl,r2,f2,rfl,h6⟩
   have hr2:=f2.reg
   have hf2:=hf.inner (D':=[(6,6),(25,40)]) (by decide) (fun hx=>by simpa[Fx.set]using hx) hr2
   have hple:=@Zts (Zbp m k).1 k ((Zbp m k).1.length-(Zbp m k).2.1) (Zbp m k).2.1
   by_cases hp:pvQ (Zbp m k).1 (Zbp m k).2.1 k<(Zbp m k).1.length
   ·generalize hd:(Zbp m k).2.1=d at*
    generalize hm1:(Zbp m k).1=m1 at*
    have hd2:d<m1.length:=by unfold pvQ at hp;omega
    generalize hpv:pvQ m1 d k=p at*
    obtain⟨rd,hrd⟩:=Zaf hd2
    obtain⟨rp,hrp⟩:=Zaf hp
    obtain⟨us1,ud,x1,x2,x3,x4⟩:=s1.at hrd
    obtain⟨us2,up,y1,_,y3,y4⟩:=s1.at hrp
    rw[g1]at x1 y1
    simp only[Yox,O.cells.injEq,and_true]at x1 y1
    subst x1;subst y1
    have sA:=s1.put g1 y4 hd2
    have gA:(H1.set R (.cells (us.set d up) 23 true)).get R=some (.cells (us.set d up) 23 true):=by rw[T.get_set,Yo4 rfl]
    have sB:=sA.put gA (x4.setR g1 s1.ge) (i:=p) (by rw[Yrd];exact hp)
    have hdu:d<us.length:=by omega
    have hpu:p<us.length:=by omega
    have hpne:¬(p:Int)=(m.length:Int):=by omega
    have hd':(d:Int)<(m.length:Int):=by omega
    have hp':(p:Int)<(m.length:Int):=by omega
    have hdm:d<m.length:=by omega
    have hpm:p<m.length:=by omega
    have hdk:d<c:=by
     have:=@Zov m k
     omega
    have e1:∀u,splice us d [u]=us.set d u:=fun u=>Zc1 hdu
    have e2:∀u,splice (us.set d up) p [u]=(us.set d up).set p u:=fun u=>Zc1 (by simp;exact hpu)
    have c1:ud.cells=[ud]:=Sl.cells1 x4.1
    have o1:ud.one=true:=Sl.one1 x4.1
    have c2:up.cells=[up]:=Sl.cells1 y4.1
    have o2:up.one=true:=Sl.one1 y4.1
    have l1:d+1≤us.length:=hdu
    have l2:p+1≤us.length:=hpu
    simp[-V.cells, -V.one,hr2,hr,h6,a3,h4,hpne,hd',hp',g1,x3,y3,hR,Zak,c1,o1,c2,o2,e1,e2,l1,l2]
    have kG:=(k1.set (i:=R) (o:=.cells (us.set d up) 23 true) s1.ge).set (i:=R) (o:=.cells ((us.set d up).set p ud) 23 true) s1.ge
    have gB:((H1.set R (.cells (us.set d up) 23 true)).set R (.cells ((us.set d up).set p ud) 23 true)).get R=some (.cells ((us.set d up).set p ud) 23 true):=by rw[T.get_set,Yo4 rfl]
    generalize (H1.set R (.cells (us.set d up) 23 true)).set R (.cells ((us.set d up).set p ud) 23 true)=G at*
    have hsw:(m1.set d rp).set p rd=Ziw m1 d p:=by unfold Ziw;rw[hrd,hrp];rfl
    rw[hsw]at sB
    have hul:((us.set d up).set p ud).length=m1.length:=by simp only[Yrd];omega
    generalize (us.set d up).set p ud=vs at*
    have hqM:QbM m1 (kB K d):=by rw[←hm1,←hd];exact Yak hK hK1
    have hqB:=hqM.swp (d:=d) (p:=p)
    have hrB:=hrc.swp hd2 hp
    have hlB:(Ziw m1 d p).length=m1.length:=Zgd
    have hne:=@Ztr m1 k (m1.length-d) d (by unfold pvQ at hpv;omega)
    have hrow:(Ziw m1 d p)[d]?=some rp:=by
     rw[←hsw]
     by_cases e:p=d
     ·subst e;rw[hrd]at hrp;simp only[Yox]at hrp;subst hrp;rw[Ypc (by simp;omega)]
     ·rw[Yo5 e,Ypc hd2]
    have hpvr:rp[k]?.getD 0≠0:=by
     have h9:=hpv
     unfold pvQ at h9
     rw[h9,hrp]at hne
     exact hne
    obtain⟨vs',vd,z1,z2,z3,z4⟩:=sB.at hrow
    rw[gB]at z1
    simp only[Yox,O.cells.injEq,and_true]at z1
    subst z1
    have hrpl:=hrB rp (Yo3 hrow)
    obtain⟨q,hq⟩:=Zaf (l:=rp) (k:=k) (by omega)
    have hrb:=hqB rp (Yo3 hrow)
    have hqb:=hrb q (Yo3 hq)
    have hq0:q≠0:=by rw[hq]at hpvr;exact hpvr
    have hkq:=hB d hdm hdk
    obtain⟨i1,t1,w1,e3,v1,q1,q2,q3,q4⟩:=z4.1.at (Zit hq)
    have hlv:=z4.1.len
    have hk1:(k:Int)<(rp.length:Int):=by omega
    have hk2:k<rp.length:=by omega
    simp[hr2,hr,a3,h4,h5,hd',z3,q1,q2,q3,q4,hk1,hlv,gB,hR]
    refine Zac (Yg0 hqb (by omega) hq0) ?_
    rintro _ H2 n2 k2 rfl
    have le2:=k2.le
    have lR2:R<n2:=by omega
    have g2':=(k2.get R hR).trans gB
    simp
    refine Zac (Zpo (z4.1.keep k2) hrb (Yl6 hqb hq0) (by omega) (by omega) (by omega)) ?_
    rintro v3 H3 n3 k3 o3
    have t3:=(Zyw o3).old (N0:=N0)
    have le3:=k3.le
    have s3:=(sB.keep k2).keep k3
    have g3':=(k3.get R lR2).trans g2'
    have lR3:R<n3:=by omega
    have hdv:d<vs.length:=by omega
    have hdv1:d+1≤vs.length:=hdv
    have e4:∀u,splice vs d [u]=vs.set d u:=fun u=>Zc1 hdv
    have c3:v3.cells=[v3]:=Sl.cells1 t3.1
    have o4:v3.one=true:=Sl.one1 t3.1
    simp(disch:=first|(simp;done)|omega|rfl) [-V.cells, -V.one,g3',lR3,Zak,c3,o4,e4,hdv1]
    have sC:=s3.put g3' t3 (i:=d) (by rw[hlB];exact hd2)
    have hsc:(Ziw m1 d p).set d (rp.map fun x=>x*q⁻¹)=Zmw (Ziw m1 d p) d k:=by
     unfold Zmw
     rw[hrow]
     simp only[Yq2,hq,Rat.div_def]
    rw[hsc]at sC
    have hmC:(Zmw (Ziw m1 d p) d k).length=m.length:=by rw[Zod,Zgd];exact hlen
    refine Zbl (Ycm (h:=h) (d:=d) (K:=kB K d) sC (hrB.scl (by omega)) hlt (by omega) (by omega) (by omega) (fun i hi=>by
     unfold Zmw
     rw[Yo5 (Ne.symm hi)]
     exact hqB.at) (by
     unfold Zmw
     rw[Ypc (by omega)]
     exact Zyh hqB (Zue hK1) (by rw[hrow];exact hpvr)) (by omega) (((kG.trans k2).trans k3).set sC.ge) (by simp[Yr9.2 s1.ge,hW]) (by simp[hr2,hr,a3,hmC]) (by simp[hr2,h4]) (by simp[hr2,h5]) (by simp)) ?_
    rintro _ _ ⟨H4,n4,W4⟩ ⟨rfl,hw4,k4,s4,r4,f4,rfl⟩
    simp only at hw4 k4 s4
    have hr4:=f4.reg
    have hf4:=hf2.inner (D':=[(7,7),(75,104)]) (by decide) (fun hx=>by simpa[Fx.set]using hx) hr4
    have hst:Zbp m (k+1)=(Zj3 (Zmw (Ziw m1 d p) d k) d k m1.length,d+1,(Zbp m k).2.2++[k]):=by
     rw[Zcn];unfold Zmu;rw[hm1,hd,hpv,Yo4 hp]
    simp(disch:=first|(simp;done)|omega|rfl) [hr4,hf4,hr2,h4,h5,hw4,k4]
    refine⟨c-(k+1),by omega,k+1,by omega,rfl,by simp,?_,?_⟩
    ·rw[hst];simp
    ·rw[hst];rw[hmC,←hlen]at s4;exact s4
   ·have hst:Zbp m (k+1)=Zbp m k:=by rw[Zcn];unfold Zmu;rw[Yo0 hp]
    have hpe:pvQ (Zbp m k).1 (Zbp m k).2.1 k=m.length:=by unfold pvQ at hp ⊢;omega
    rw[hpe]at h6
    simp(disch:=first|(simp;done)|omega|rfl) [hr2,hf2,hr,h6,a3,h5,hW,k1]
    refine⟨c-(k+1),by omega,k+1,by omega,rfl,by simp,?_,?_⟩
    ·rw[hst];simpa using h4
    ·rw[hst];exact s1
  ·obtain rfl:k=c:=by omega
   simp[A.lb45_2,hr,hf,a3,h5,h4,hm0,g1,g3,hlu,k1,hW]
   exact s1
 ·rintro _ r st hr ⟨rfl,hw,k1,s1,h4⟩
  simp[]
  exact⟨hw,k1,s1,r,⟨hr,rfl,rfl⟩,rfl,h4⟩
variable {N:Nat} {h:T O} {l:List Int} {v:V}
theorem Zum{m:List (List Rat)}{k:Nat}(h:(Zbp m k).2.1=m.length):∀{n:Nat},Zbp m (k+n)=Zbp m k
 |0=>rfl
 |n+1=>by
  rw[Nat.add_succ,Zcn,Zum h]
  unfold Zmu
  rw[Yo0]
  unfold pvQ
  rw[Zgs,h,Nat.sub_self]
  simp[pvF]
theorem Yal{m:List (List Rat)}:∀{n:Nat},(Zbp m n).2.2.length=(Zbp m n).2.1
 |0=>rfl
 |n+1=>by
  have:=@Yal m n
  rw[Zcn]
  unfold Zmu
  split
  ·simp[this]
  ·exact this
def Yl5(m:List (List Rat))(n:Nat):List (List Rat):=(Zbp m n).1.take (Zbp m n).2.1
theorem Yi6{s:Str}{n:Nat}(h:chkNum s=0)(hn:s.length≤n)(h1:0<n):Qb (4*n) (Ztn s):=by
 obtain⟨e,_,_⟩:=Zsz h
 have hb:=Zq5 (Ztn s)
 have l1:(Zan (Zax (Ztn s))).length≤n:=by
  rw[e];unfold Zan;split
  ·simp;omega
  ·exact hn
 rw[hb]at l1
 have g:∀m:Nat,(Za2 m).length≤n→m<2^(4*n):=fun m hm=>Yo8 ((Zid h1).1 hm) (Yfe n)
 split at l1
 ·rename_i h2
  have h3:(Za2 1).length=1:=by rw[Yav];rfl
  exact⟨g _ l1,by rw[h2];exact g 1 (by omega)⟩
 ·simp at l1
  exact⟨g _ (by omega),g _ (by omega)⟩
theorem OkM.qb{m:List (List Str)}{n:Nat}(h:OkM m n):RcN (Zrw m) n∧QbM (Zrw m) 96:=⟨fun r hr=>(h.rat r hr).1,fun r hr q hq=>by
 obtain⟨s,hs,rfl⟩:=Yql.1 hr
 obtain⟨t,ht,rfl⟩:=Yql.1 hq
 have:=(h.row s hs).2 t ht
 exact Yi6 this.1 this.2 (by decide)⟩
theorem Yco{m:List (List Str)}:(Zrw m).length=m.length:=by simp[Zrw]
def inL(l:List Int):List (List V):=l.map fun z=>[V.int .i64 z]
def OwI(N0:Nat)(h:T O)(N:Nat)(v:V)(l:List Int):Prop:=Own 1 3 N0 h N v (inL l)∧(l=[]→v=.nilslice)
theorem OwI.nil{N0:Nat}:OwI N0 h N .nilslice []:=⟨Own.nil,fun _=>rfl⟩
theorem OwI.keep{N0:Nat}{h':T O}{N':Nat}(s:OwI N0 h N v l)(k:Keeps h N h' N'):OwI N0 h' N' v l:=⟨s.1.keep k,s.2⟩
theorem OwI.movedR{N0:Nat}{h':T O}{N' R:Nat}{o:O}(s:OwI N0 h N v l)(g:h.get R=some o)(he:∀z,o≠.cells z 3 true)(k:Upd (fun i=>i=R) h N h' N'):OwI N0 h' N' v l:=by
 obtain⟨⟨hl,s|⟨i,h1,h2,h3,h4⟩⟩,hn⟩:=s
 ·exact⟨⟨hl,.inl s⟩,hn⟩
 ·refine⟨⟨hl,.inr ⟨i,h1,h2,Yo8 h3 k.le,(k.get i h3 fun hc=>?_).trans h4⟩⟩,hn⟩
  rw[hc,g]at h4
  simp only[Yox]at h4
  exact he _ h4
theorem OwI.push{B N0:Nat}{x:V}{k:Int}{w:List Nat}(s:OwI N0 h N v l)(hB:B≤N0)(hN:N0≤N)(hw:Zaa B w=[])(hx:Zaw ⟨h,N,w⟩ 1 x=some (1,[.int .i64 k]))(hl:l.length<1000):∃v' h' w',Zb2 ⟨h,N,w⟩ 1 8 3 v x=some (v',⟨h',N+1,w'⟩)∧Zaa B w'=[]∧Upd (fun i=>i∈Zcl v) h N h' (N+1)∧Zo7 3 NW h v∧(∀i∈Zcl v,N0≤i)∧OwI N0 h' (N+1) v' (l++[k]):=by
 obtain⟨s,hn⟩:=s
 have sB:Own 1 3 B h N v (inL l):=⟨s.1,s.2.imp id fun ⟨i,a,b,c⟩=>⟨i,a,by omega,c⟩⟩
 have hY:∀c∈inL l,∀y∈c,NW y:=fun c hc y hy=>by
  obtain⟨p,_,rfl⟩:=Yql.1 hc
  simp at hy
  subst hy
  exact fun m=>by simp
 have h0:inL l=[]→v=.nilslice:=fun h0=>hn (List.map_eq_nil_iff.1 h0)
 have hb:(2*((inL l).length+1)+1000)*8≤281474976710656:=by simp only[inL,Yrc];omega
 obtain⟨v1,h1,w1,a1,a2,_,_,_,_⟩:=Zcy (Y:=NW) (bytes:=8) (w:=w) sB h0 hY (by omega) (by decide) rfl hx hb
 obtain⟨v2,h2,w2,b1,_,_,b4,b5,b6⟩:=Zcy (Y:=NW) (bytes:=8) (w:=w) s h0 hY hN (by decide) rfl hx hb
 rw[a1]at b1
 simp only[Yox,Yo1,St.mk.injEq,true_and]at b1
 obtain⟨rfl,rfl,rfl⟩:=b1
 refine⟨v1,h1,w1,a1,a2.trans hw,b4,b5,fun i hi=>?_,by simpa[inL]using b6,fun hc=>by simp at hc⟩
 obtain⟨_,⟨_,rfl⟩|⟨j,rfl,c1,_⟩⟩:=s
 ·simp[Zcl]at hi
 ·simp[Zcl]at hi
  omega
theorem OwI.sl{N0:Nat}(s:OwI N0 h N v l):Sl h N v (dI l):=by
 have:=s.1.sn
 have e:inL l=(dI l).map fun y=>[y]:=by unfold inL dI;rw[List.map_map];rfl
 rw[e]at this
 exact Sn.one.1 this
open Go
def Ydm(r:T V)(n:Nat)(ps:List Nat)(a b:Zae)(d:Nat):Zo6:={st:=.ready,pend:=none,r:=r,n:=n,ps:=ps,assign:=a,body:=b,defs:=d}
def Zpt:Option Ex→Ex
 |none=>.normal
 |some e=>e
theorem Zvh{C:Cx}{K:List Kf}{Q:Rs→Prop}{g:Src}{ps:List Nat}{a b:Zae}{r:T V}{n N:Nat}{h:T O}{w:List Nat}{gv:V}{P:V→St→Prop}(hg:g.ev r=some gv)(hy:gv.isY=false)(hc:Call C gv [.yield (N+1)] ⟨(h.set N (.defs true)).set (N+1) (.loop (Ydm r n ps a b N)),N+1+1,w⟩ P)(k:∀v st',P v st'→∃R,st'.h.get (N+1)=some (.loop R)∧R.st≠.busy∧Run C K (some (.ex (Zpt R.pend) ⟨r,n,[N]⟩ (st'.write (N+1) (.loop {R with st:=.exhausted})))) Q):Run C K (exR (C.code none (.rangef g ps a b) ⟨r,n,[]⟩ ⟨h,N,w⟩)) Q:=by
 obtain⟨v,st',e,p⟩:=hc.ex
 obtain⟨R,h1,h2,h3⟩:=k v st' p
 have e2:C.code none (.rangef g ps a b) ⟨r,n,[]⟩ ⟨h,N,w⟩=some (Zpt R.pend,⟨r,n,[N]⟩,st'.write (N+1) (.loop {R with st:=.exhausted})):=by
  rw[Cx.code_eq]
  show Zdk g ps a b C.call C.code none ⟨r,n,[]⟩ ⟨h,N,w⟩=_
  unfold Zdk
  simp only[hg,hy,Zoh,St.alloc]
  unfold Ydm at e
  simp only[Ypa,if_false,e,h1,h2]
  unfold Zpt
  rfl
 rw[e2]
 exact h3
theorem Yd1{C:Cx}{K:List Kf}{Q:Rs→Prop}{rs:List Yf3}{st:St}{e:Ex}{r:T V}{n d:Nat}{h1:T O}{n1:Nat}{w1:List Nat}(hd:h1.get d=some (.defs true))(he:∀i,e≠.exit i):Run C (.fin rs st::K) (some (.ex e ⟨r,n,[d]⟩ ⟨h1,n1,w1⟩)) Q↔Run C K (Ylr (h1.set d (.defs false)) n1 (Zaa st.n (d::w1)++st.w) (resV r ⟨h1.set d (.defs false),n1,d::w1⟩ rs)) Q:=Zat (by
 have:shut ⟨h1,n1,w1⟩ [d]=some ⟨h1.set d (.defs false),n1,d::w1⟩:=by
  unfold shut
  simp only[hd]
  rfl
 cases e with
 |exit i=>exact absurd rfl (he i)
 |normal=>
  simp only[unw,Zd1,Zfq,this]
  rcases resV r _ rs with _|_<;>rfl
 |ret=>
  simp only[unw,Zd1,Zfq,this]
  rcases resV r _ rs with _|_<;>rfl)
theorem Zxi{C:Cx}{l:Nat}{args:List V}{st:St}{R:Zo6}{r0:T V}{P:V→St→Prop}(hx:C.x (.yield l) args st=none)(hl:st.h.get l=some (.loop R))(hs:R.st=.ready)(hp:Zi1 R.r R.n R.ps args=some r0)(hc:Code C (some l) R.assign ⟨r0,R.n,[]⟩ st (fun e fr st1=>e=.normal∧st1.h.get l=some (.loop R)∧Code C (some l) R.body fr (st1.write l (.loop {R with st:=.busy})) (fun e2 _ st2=>∃R2,st2.h.get l=some (.loop R2)∧P (.bool (Zdh e2).isNone) (st2.write l (.loop {R2 with st:=Zfb (Zdh e2),pend:=Zdh e2}))))):Call C (.yield l) args st P:=by
 obtain⟨e,fr,st1,e1,rfl,g1,hb⟩:=hc.ex
 obtain⟨e2,fr2,st2,e3,R2,g2,p⟩:=hb.ex
 refine⟨_,_,?_,p⟩
 rw[Cx.call_eq]
 unfold Zdm
 rw[hx]
 show Zee C.code l args st=_
 unfold Zee
 simp only[hl,hp,e1,g1,hs,if_true,e3,g2]
variable {m:List (List Rat)}
theorem MfS.movedB{h h':T O}{N N' B:Nat}{u v:V}{e:TypeId}(s:MfS h N u m)(k:Upd (fun i=>i=B) h N h' N')(g:h.get B=some (.cells [.nilslice] e true))(he:e≠114)(h0:0<m.length)(hm:∀r∈m,0<r.length):MfS h' N' u m:=by
 obtain⟨us,h1,h2,h3⟩:=s
 have hd:Zo7 e NW h (.slice B 0 1 none 1):=fun i hi=>by
  simp[Zcl]at hi
  subst hi
  exact⟨_,g,by simp,fun y hy=>by simp at hy;subst hy;exact fun m=>by simp⟩
 have k':Upd (fun i=>i∈Zcl (.slice B 0 1 none 1)) h N h' N':=k.mono fun i _ hi=>by simp[Zcl];exact hi
 refine⟨us,h1.moved k fun i hi hc=>?_,h2,fun j l hl=>?_⟩
 ·subst hc
  obtain⟨l,hl⟩:=Zaf h0
  obtain⟨x,g1,g2⟩:=h3 0 l hl
  have hl0:=hm l (Yo3 hl)
  obtain⟨j,o,c,e',rw',q1,q2,q3,q4⟩:=h1.at g1
  have hj:j=i:=by
   cases u<;>simp[Zkp,Zcl]at q1 hi
   all_goals omega
  subst hj
  rw[g]at q3
  simp only[Yox,O.cells.injEq]at q3
  obtain⟨rfl,_⟩:=q3
  have:x=.nilslice:=by
   have:=Yo3 q4
   simpa using this
  subst this
  have hlen:=g2.1.len
  simp[Zl4]at hlen
  omega
 ·obtain⟨x,g1,g2⟩:=h3 j l hl
  exact⟨x,g1,g2.moved k' hd he⟩
def seenQ(m:List (List Rat))(k:Nat):Bool:=(Zxs m k).any fun q=>decide (q≠0)
def Zrc(m:List (List Rat))(k:Nat):List Int:=((List.range k).filter fun j=>!seenQ m j).map fun j:Nat=>(j:Int)
theorem Zpg{k:Nat}:Zrc m (k+1)=Zrc m k++if seenQ m k=true then [] else [(k:Int)]:=by
 unfold Zrc
 rw[List.range_succ,List.filter_append,List.map_append,List.filter_cons]
 cases seenQ m k<;>rfl
theorem Zn5{k:Nat}:(Zrc m k).length≤k:=by
 unfold Zrc
 rw[Yrc]
 exact Yqk (List.length_filter_le _ _) (by simp)
theorem Zw2{P:Rat→Bool}{l:List Rat}:decide (0≤Zb8 (fun j=>P (l[j]?.getD 0)) 0 l.length)=l.any P:=by
 rw[Bool.eq_iff_iff,decide_eq_true_eq,Zqu,List.any_eq_true]
 constructor
 ·rintro⟨j,_,h2,h3⟩
  obtain⟨q,hq⟩:=Zaf (l:=l) (k:=j) (by omega)
  rw[hq]at h3
  exact⟨q,Yo3 hq,h3⟩
 ·rintro⟨q,hq,h3⟩
  obtain⟨j,hj⟩:=Yrf hq
  exact⟨j,Yrv _,by have:=Za6 hj;omega,by rw[hj];exact h3⟩
end Go.Mx
