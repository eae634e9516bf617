/-strconv-/
import Derived.Test.YtgnadghjglamaaaGreatDoorNbK
set_option linter.all false
namespace Go.Mx
open Go Go.Proofs
variable {H h:T O} {N Z a i ir k n2 o u x:Nat} {W:List Nat} {cp:Option Nat} {r:T V}
set_option maxHeartbeats 4000000
set_option maxRecDepth 1000000
def Zgi:List UInt8:=[48,48,48,49,48,50,48,51,48,52,48,53,48,54,48,55,48,56,48,57,49,48,49,49,49,50,49,51,49,52,49,53,49,54,49,55,49,56,49,57,50,48,50,49,50,50,50,51,50,52,50,53,50,54,50,55,50,56,50,57,51,48,51,49,51,50,51,51,51,52,51,53,51,54,51,55,51,56,51,57,52,48,52,49,52,50,52,51,52,52,52,53,52,54,52,55,52,56,52,57,53,48,53,49,53,50,53,51,53,52,53,53,53,54,53,55,53,56,53,57,54,48,54,49,54,50,54,51,54,52,54,53,54,54,54,55,54,56,54,57,55,48,55,49,55,50,55,51,55,52,55,53,55,54,55,55,55,56,55,57,56,48,56,49,56,50,56,51,56,52,56,53,56,54,56,55,56,56,56,57,57,48,57,49,57,50,57,51,57,52,57,53,57,54,57,55,57,56,57,57]
def Ycx:List UInt8:=[48,49,50,51,52,53,54,55,56,57,97,98,99,100,101,102,103,104,105,106,107,108,109,110,111,112,113,114,115,116,117,118,119,120,121,122]
noncomputable def A.b296:=A.q Tryz.f296
def A.k296:=@A.kk 296 15 [.tmp 2] A.b296 (by kernel_rfl) rfl
noncomputable def A.b309:=A.q Tryz.f309
def A.k309:=@A.kk 309 6 [.tmp 2] A.b309 (by kernel_rfl) rfl
noncomputable def A.b310:=A.q Tryz.f310
def A.k310:=@A.kk 310 4 [.tmp 2] A.b310 (by kernel_rfl) rfl
def A.lb297_0:Zaw:=.seq (sr [mv 19 4,bc 20 .geq 19 8]
 (cd 20
 (.skip)
 (.exit 0)))
 (.block 1 (sr [mv 21 1,ge 22 (.bin .rem (.node []) false (tq 21) (.const (.int .u64 100000000))),ge 23 (.convInt .u32 (tq 22)),mv 5 23]
 (sr [mv 24 1,ge 25 (.bin .quo (.node []) false (tq 24) (.const (.int .u64 100000000))),mv 1 25]
 (sr [mv 26 5,ge 27 (.bin .quo (.node []) false (tq 26) (.const (.int .u32 10000))),mv 28 5,ge 29 (.bin .rem (.node []) false (tq 28) (.const (.int .u32 10000))),mv 6 27,mv 7 29]
 (sr [mv 30 7,ge 31 (.bin .quo (.node []) false (tq 30) (.const (.int .u32 100))),ge 32 (.bin .mul (.node []) false (tq 31) (.const (.int .u32 2))),mv 33 7,ge 34 (.bin .rem (.node []) false (tq 33) (.const (.int .u32 100))),ge 35 (.bin .mul (.node []) false (tq 34) (.const (.int .u32 2))),mv 8 32,mv 9 35]
 (sr [mv 36 6,ge 37 (.bin .quo (.node []) false (tq 36) (.const (.int .u32 100))),ge 38 (.bin .mul (.node []) false (tq 37) (.const (.int .u32 2))),mv 39 6,ge 40 (.bin .rem (.node []) false (tq 39) (.const (.int .u32 100))),ge 41 (.bin .mul (.node []) false (tq 40) (.const (.int .u32 2))),mv 10 38,mv 11 41]
 (.seq (.regD [mv 42 0,mv 43 4,bc 44 .sub 43 1,mv 45 0,mv 46 4,bc 47 .sub 46 2,mv 48 9,ge 49 (.bin .add (.node []) false (tq 48) (.const (.int .u32 1))),ge 50 (.idxStr (.const (.str Zgi)) (tq 49)),mv 51 9,ge 52 (.idxStr (.const (.str Zgi)) (tq 51)),ia 53 1 42 44,so 53 50,ia 54 1 45 47,so 54 52] [0,0,2,0,0,16,0,64,192,0,512,455,2503,8191,16383])
 (.seq (.regD [mv 55 0,mv 56 4,bc 57 .sub 56 3,mv 58 0,mv 59 4,bc 60 .sub 59 4,mv 61 8,ge 62 (.bin .add (.node []) false (tq 61) (.const (.int .u32 1))),ge 63 (.idxStr (.const (.str Zgi)) (tq 62)),mv 64 8,ge 65 (.idxStr (.const (.str Zgi)) (tq 64)),ia 66 1 55 57,so 66 63,ia 67 1 58 60,so 67 65] [0,0,2,0,0,16,0,64,192,0,512,455,2503,8191,16383])
 (.seq (.regD [mv 68 0,mv 69 4,bc 70 .sub 69 5,mv 71 0,mv 72 4,bc 73 .sub 72 6,mv 74 11,ge 75 (.bin .add (.node []) false (tq 74) (.const (.int .u32 1))),ge 76 (.idxStr (.const (.str Zgi)) (tq 75)),mv 77 11,ge 78 (.idxStr (.const (.str Zgi)) (tq 77)),ia 79 1 68 70,so 79 76,ia 80 1 71 73,so 80 78] [0,0,2,0,0,16,0,64,192,0,512,455,2503,8191,16383])
 (.seq (.regD [mv 81 0,mv 82 4,bc 83 .sub 82 7,mv 84 0,mv 85 4,bc 86 .sub 85 8,mv 87 10,ge 88 (.bin .add (.node []) false (tq 87) (.const (.int .u32 1))),ge 89 (.idxStr (.const (.str Zgi)) (tq 88)),mv 90 10,ge 91 (.idxStr (.const (.str Zgi)) (tq 90)),ia 92 1 81 83,so 92 89,ia 93 1 84 86,so 93 91] [0,0,2,0,0,16,0,64,192,0,512,455,2503,8191,16383])
 (.reg [mv 94 4,bc 95 .sub 94 8,mv 4 95])))))))))))
def A.ta297_0:Zaw:=sr [mv 160 4,bc 161 .gtr 160 0]
 (cd 161
 (.reg [mv 162 0,mv 163 12,ge 164 (.bin .add (.node []) false (.const (.int .u32 48)) (tq 163)),ge 165 (.convInt .u8 (tq 164)),ge 166 (.iaddrSl 1 (tq 162) (kq 0)),so 166 165])
 (.skip))
def A.ta297_1:Zaw:=.seq (sr [mv 138 4,bc 139 .geq 138 2]
 (cd 139
 (sr [mv 140 12,ge 141 (.bin .rem (.node []) false (tq 140) (.const (.int .u32 100))),ge 142 (.bin .mul (.node []) false (tq 141) (.const (.int .u32 2))),mv 16 142]
 (sr [mv 143 12,ge 144 (.bin .quo (.node []) false (tq 143) (.const (.int .u32 100))),mv 12 144]
 (.seq (.regD [mv 145 0,mv 146 4,bc 147 .sub 146 1,mv 148 0,mv 149 4,bc 150 .sub 149 2,mv 151 16,ge 152 (.bin .add (.node []) false (tq 151) (.const (.int .u32 1))),ge 153 (.idxStr (.const (.str Zgi)) (tq 152)),mv 154 16,ge 155 (.idxStr (.const (.str Zgi)) (tq 154)),ia 156 1 145 147,so 156 153,ia 157 1 148 150,so 157 155] [0,0,2,0,0,16,0,64,192,0,512,455,2503,8191,16383])
 (.reg [mv 158 4,bc 159 .sub 158 2,mv 4 159]))))
 (.skip)))
 A.ta297_0
def A.ta297_2:Zaw:=.seq (sr [mv 98 4,bc 99 .geq 98 4]
 (cd 99
 (sr [mv 100 12,ge 101 (.bin .rem (.node []) false (tq 100) (.const (.int .u32 10000))),mv 13 101]
 (sr [mv 102 12,ge 103 (.bin .quo (.node []) false (tq 102) (.const (.int .u32 10000))),mv 12 103]
 (sr [mv 104 13,ge 105 (.bin .quo (.node []) false (tq 104) (.const (.int .u32 100))),ge 106 (.bin .mul (.node []) false (tq 105) (.const (.int .u32 2))),mv 107 13,ge 108 (.bin .rem (.node []) false (tq 107) (.const (.int .u32 100))),ge 109 (.bin .mul (.node []) false (tq 108) (.const (.int .u32 2))),mv 14 106,mv 15 109]
 (.seq (.regD [mv 110 0,mv 111 4,bc 112 .sub 111 1,mv 113 0,mv 114 4,bc 115 .sub 114 2,mv 116 15,ge 117 (.bin .add (.node []) false (tq 116) (.const (.int .u32 1))),ge 118 (.idxStr (.const (.str Zgi)) (tq 117)),mv 119 15,ge 120 (.idxStr (.const (.str Zgi)) (tq 119)),ia 121 1 110 112,so 121 118,ia 122 1 113 115,so 122 120] [0,0,2,0,0,16,0,64,192,0,512,455,2503,8191,16383])
 (.seq (.regD [mv 123 0,mv 124 4,bc 125 .sub 124 3,mv 126 0,mv 127 4,bc 128 .sub 127 4,mv 129 14,ge 130 (.bin .add (.node []) false (tq 129) (.const (.int .u32 1))),ge 131 (.idxStr (.const (.str Zgi)) (tq 130)),mv 132 14,ge 133 (.idxStr (.const (.str Zgi)) (tq 132)),ia 134 1 123 125,so 134 131,ia 135 1 126 128,so 135 133] [0,0,2,0,0,16,0,64,192,0,512,455,2503,8191,16383])
 (.reg [mv 136 4,bc 137 .sub 136 4,mv 4 137]))))))
 (.skip)))
 A.ta297_1
def A.b297:Zaw:=sr [mv 17 0,ln 18 17,mv 4 18]
 (.seq (.block 0 (.loop A.lb297_0))
 (sr [mv 96 1,ge 97 (.convInt .u32 (tq 96)),mv 12 97]
 A.ta297_2))
def A.k297:=@A.kk 297 167 [] A.b297 (by kernel_rfl) rfl
def A.b295:Zaw:=sr [ge 2 (.mov (.const (.str [])))]
 (.seq (sr [mv 3 0,bc 4 .lss 3 10]
 (cd 4
 (sr [mv 5 0,mv 6 0,bc 7 .add 6 1,ge 8 (.sliceStr (.const (.str Ycx)) (some (tq 5)) (some (tq 7))),mv 2 8]
 (.ret))
 (.skip)))
 (sr [mv 9 0,bc 10 .mul 9 2,mv 11 0,bc 12 .mul 11 2,bc 13 .add 12 2,ge 14 (.sliceStr (.const (.str Zgi)) (some (tq 10)) (some (tq 13))),mv 2 14]
 (.ret)))
def A.k295:=@A.kk 295 15 [.tmp 2] A.b295 (by kernel_rfl) rfl
@[simp] def Yp0 {a b:Nat}:a<b∨b≤a:=Nat.lt_or_ge a b
def Zfg{n:Int}(h1:0≤n)(h2:n<4294967296):Zap .u32 n=n:=by rw[Zdg];show n%4294967296=n;omega
def Yof:List Nat:=[1,10,100,1000,10000,100000,1000000,10000000,100000000,1000000000,10000000000,100000000000,1000000000000,10000000000000,100000000000000,1000000000000000,10000000000000000,100000000000000000,1000000000000000000,10000000000000000000]
def P10(h:T O)(N:Nat):Prop:=6<N∧h.get 6=some A.p10
def P10.keep{h':T O}{N':Nat}(s:P10 h N)(k:Keeps h N h' N'):P10 h' N':=by
 exact⟨Yr5 s.1 k.le,(k.get _ s.1).trans s.2⟩
def P10.ex(s:P10 h N):6<N∧∃e rw,h.get 6=some (.cells (dg Yof) e rw):=⟨s.1,_,_,s.2.trans rfl⟩
def Yfa:∀j:Nat,j<20→Yof[j]?=some (10^j):=by decide+kernel
def Yjk{j:Nat}(h:j<20):(dg Yof)[j]?=some (.int .u64 ((10^j:Nat):Int)):=Za9 (Yfa j h)
def Yhq:∀b:Nat,b<65→0<b→10^(b*78913/262144)≤10*2^(b-1)∧2^b≤10^(b*78913/262144+1)∧b*78913/262144<20:=by decide+kernel
def Yo7{b:Nat}(hb:b<65)(hk:b*78913/262144=k){h:T O}{N:Nat}:Fn A.C 309 [.int .i64 b] h N (fun v h' N'=>h'=h∧N'=N∧v=.int .i64 (k:Nat)):=by
 intro w
 rw[Zaf,A.k309 (by simp)]
 have e1:Zap .i64 ((b:Int)*78913)=(b:Int)*78913:=Zah (by omega) (by omega)
 have e2:Zgq .shr .i64 ((b:Int)*78913) 18=some (.int .i64 ((b:Int)*78913/262144)):=by
  unfold Zgq
  rw[Yrt (by omega)]
  show some (V.int .i64 (Int.fdiv _ 262144))=_
  rw[Int.fdiv_eq_ediv_of_nonneg _ (by omega)]
 have e3:(b:Int)*78913/262144=k:=by omega
 simp(disch:=first|(simp;done)|omega|(simp only[Zab,Zaa,Yrr];omega)|rfl) [-getElem?_pos,A.b309,e1,e2,e3,Ret]
 exact Keeps.refl
def Ypm{b:Bool}:Fn A.C 310 [.bool b] h N (fun v h' N'=>h'=h∧N'=N∧v=.int .i64 (if b=true then 1 else 0)):=by
 intro w
 rw[Zaf,A.k310 (by simp)]
 cases b
 ·simp(disch:=first|(simp;done)|omega|(simp only[Zab,Zaa,Yrr];omega)|rfl) [-getElem?_pos,A.b310,Ret]
  exact Keeps.refl
 ·simp(disch:=first|(simp;done)|omega|(simp only[Zab,Zaa,Yrr];omega)|rfl) [-getElem?_pos,A.b310,Ret]
  exact Keeps.refl
def Zp1(hx:0<x)(hb:blen x<65):(if 10^(blen x*78913/262144)≤x then 1 else 0)+blen x*78913/262144=(Zcz x).length:=by
 have hx0:x≠0:=by omega
 have h1:=Zp6 x
 have h2:=Zk1 hx0
 have h0:0<blen x:=by unfold blen;rw[Yrt hx0];omega
 obtain⟨g1,g2,g3⟩:=Yhq _ hb h0
 generalize hk:blen x*78913/262144=k at*
 have u1:(Zcz x).length≤k+1:=Zay.1 (by omega)
 by_cases c:10^k≤x
 ·rw[Yrw c]
  have:¬(Zcz x).length≤k:=fun hc=>by have:=Zay.2 hc;omega
  omega
 ·rw[Yrt c]
  have u2:(Zcz x).length≤k:=Zay.1 (by omega)
  cases k with
  |zero=>omega
  |succ j=>
   have:¬(Zcz x).length≤j:=fun hc=>by
    have:=Zay.2 hc
    rw[Ysg]at g1
    omega
   omega
def Yjr(hx:x<18446744073709551616)(h0:0<x){h:T O}{N:Nat}(hp:P10 h N):Fn A.C 296 [.int .u64 x] h N (fun v h' N'=>h'=h∧N'=N∧v=.int .i64 ((Zcz x).length:Nat)):=by
 intro w
 have hb:blen x<65:=by
  apply Ys6
  intro hc
  have h2:=Zk1 (show x≠0 by omega)
  have:2^64≤2^(blen x-1):=Ysu (by decide) (by omega)
  omega
 rw[Zaf,A.k296 (by simp)]
 simp(disch:=first|(simp;done)|omega|(simp only[Zab,Zaa,Yrr];omega)|rfl) [-getElem?_pos,A.b296]
 refine Zac (Zpu hx) ?_
 rintro _ _ _ _ ⟨rfl,rfl,rfl⟩
 simp(disch:=first|(simp;done)|omega|(simp only[Zab,Zaa,Yrr];omega)|rfl) [-getElem?_pos,]
 refine Zac (Yo7 hb rfl) ?_
 rintro _ _ _ _ ⟨rfl,rfl,rfl⟩
 have hb0:0<blen x:=by unfold blen;rw[Yrt (by omega)];omega
 have hl:=Zp1 h0 hb
 have g3:=(Yhq _ hb hb0).2.2
 generalize blen x*78913/262144=k at*
 obtain⟨q1,e,rw,q2⟩:=hp.ex
 have q3:=Yjk g3
 have g4:(k:Int)<20:=by omega
 simp(disch:=first|(simp;done)|omega|(simp only[Zab,Zaa,Yrr];omega)|rfl) [-getElem?_pos,Zca,g3,g4,q2,q3]
 refine Zac Ypm ?_
 rintro _ _ _ _ ⟨rfl,rfl,rfl⟩
 simp(disch:=first|(simp;done)|omega|(simp only[Zab,Zaa,Yrr];omega)|rfl) [-getElem?_pos,Ret]
 refine⟨Keeps.refl,?_⟩
 rw[←hl]
 have cc:((10:Int)^k≤(x:Int))↔10^k≤x:=by exact_mod_cast Iff.rfl
 by_cases c:10^k≤x
 ·rw[Yrw (cc.2 c),Yrw c];omega
 ·rw[Yrt (fun hc=>c (cc.1 hc)),Yrt c];omega
def Zs2(N:Nat)(f:Nat→V):List V:=(List.range N).map f
def Zbu(N:Nat)(f:Nat→V):(Zs2 N f).length=N:=by simp[Zs2]
def Zls{j:Nat}{f:Nat→V}(h:j<N):(Zs2 N f)[j]?=some (f j):=by simp[Zs2,h]
def Zk5(f:Nat→V)(k:Nat)(v:V):Nat→V:=fun j=>if j=k then v else f j
def Zst{f:Nat→V}{v:V}(h:k<N):splice (Zs2 N f) k [v]=Zs2 N (Zk5 f k v):=by
 apply Ysw
 intro j
 rw[Zeu (by rw[Zbu];simp;omega)]
 by_cases hj:k≤j∧j<k+[v].length
 ·rw[Yrw hj]
  simp at hj
  have:j=k:=by omega
  subst this
  rw[Zls h]
  simp[Zk5]
 ·rw[Yrt hj]
  simp at hj
  by_cases hN:j<N
  ·rw[Zls hN,Zls hN,Zk5,Yrt (by omega)]
  ·rw[Yr6 (by rw[Zbu];omega),Yr6 (by rw[Zbu];omega)]
def Zqn{w:List Nat}{p:Nat}{f:Nat→V}{e:TypeId}{k:IntKind}{n:Int}(hp:p<Z):
  Zam 1 ⟨h,N,w⟩ i p (.int k n) (some (.cells (Zs2 Z f) e true))=some (.tup [],⟨h.set i (.cells (Zs2 Z (Zk5 f p (.int k n))) e true),N,i::w⟩):=by
 rw[Zk6 (by rfl) (by rw[Zbu];omega) (by rfl)]
 show some (_,St.mk (h.set i (.cells (splice (Zs2 Z f) p [.int k n]) e true)) _ _)=_
 rw[Zst hp]
def vB(c:UInt8):V:=.int .u8 (u8I c)
def Ziv:∀p:Nat,p<100→Zgi[2*p+1]?=some (dch p):=by decide+kernel
def Ziw:∀p:Nat,p<100→Zgi[2*p]?=some (dch (p/10)):=by decide+kernel
def Zb0{b:Nat}(h:a%10=b%10):dch a=dch b:=by unfold dch;rw[h]
structure Fmt (Z o L x i u:Nat) (f0 f:Nat→V):Prop where
 le:i≤L
 u:u=x/10^(L-i)
 dig:∀j,i≤j→j<L→f (o+j)=vB (dch (x/10^(L-1-j)))
 out:∀j,j<o∨o+L≤j→f j=f0 j
def Fmt.one{L:Nat}{f0 f:Nat→V}(s:Fmt Z o L x (i+1) u f0 f){c:UInt8}(hc:c=dch u):Fmt Z o L x i (u/10) f0 (Zk5 f (o+i) (vB c)):=by
 subst hc
 have hle:=s.le
 refine⟨by omega,?_,fun j h1 h2=>?_,fun j hj=>?_⟩
 ·rw[s.u,Yud,←Ysg]
  congr 2;omega
 ·by_cases hj:j=i
  ·subst hj
   rw[Zk5,Yrw rfl,s.u]
   congr 4
   omega
  ·rw[Zk5,Yrt (by omega)]
   exact s.dig j (by omega) h2
 ·rw[Zk5,Yrt (by omega)]
  exact s.out j hj
def Fmt.two{L:Nat}{f0 f:Nat→V}(s:Fmt Z o L x (i+2) u f0 f){c d:UInt8}(hc:c=dch u)(hd:d=dch (u/10)):Fmt Z o L x i (u/100) f0 (Zk5 (Zk5 f (o+(i+1)) (vB c)) (o+i) (vB d)):=by
 have:=(Fmt.one (i:=i+1) s hc).one hd
 rw[Yud]at this
 exact this
structure FbJ (h:T O) (N ir n2 Z o L x:Nat) (f0:Nat→V) (e:TypeId) (i u:Nat) (f:Nat→V) (r:T V) (st:St):Prop where
 r4:r.get 4=some (.int .i64 i)
 n:st.n=N
 w:Zae n2 st.w=[]
 row:st.h.get ir=some (.cells (Zs2 Z f) e true)
 oth:∀t,t≠ir→st.h.get t=h.get t
 fmt:Fmt Z o L x i u f0 f
def Fmt.eight{L:Nat}{f0 f:Nat→V}(s:Fmt Z o L x (i+8) u f0 f):Fmt Z o L x i (u/100000000) f0
  (Zk5 (Zk5 (Zk5 (Zk5 (Zk5 (Zk5 (Zk5 (Zk5 f (o+(i+7)) (vB (dch (u%100000000%10000%100)))) (o+(i+6)) (vB (dch (u%100000000%10000%100/10)))) (o+(i+5)) (vB (dch (u%100000000%10000/100)))) (o+(i+4)) (vB (dch (u%100000000%10000/100/10))))
     (o+(i+3)) (vB (dch (u%100000000/10000%100)))) (o+(i+2)) (vB (dch (u%100000000/10000%100/10)))) (o+(i+1)) (vB (dch (u%100000000/10000/100)))) (o+i) (vB (dch (u%100000000/10000/100/10)))):=by
 have s1:=Fmt.two (i:=i+6) s (c:=dch (u%100000000%10000%100)) (d:=dch (u%100000000%10000%100/10)) (Zb0 (by omega)) (Zb0 (by omega))
 have s2:=Fmt.two (i:=i+4) s1 (c:=dch (u%100000000%10000/100)) (d:=dch (u%100000000%10000/100/10)) (Zb0 (by omega)) (Zb0 (by omega))
 have s3:=Fmt.two (i:=i+2) s2 (c:=dch (u%100000000/10000%100)) (d:=dch (u%100000000/10000%100/10)) (Zb0 (by omega)) (Zb0 (by omega))
 have s4:=Fmt.two (i:=i) s3 (c:=dch (u%100000000/10000/100)) (d:=dch (u%100000000/10000/100/10)) (Zb0 (by omega)) (Zb0 (by omega))
 rw[show u/100/100/100/100=u/100000000 by omega]at s4
 exact s4
def tm8:(a:Int).tmod 100000000=((a%100000000:Nat):Int):=Int.ofNat_tmod a 100000000 |>.symm
def tm4:(a:Int).tmod 10000=((a%10000:Nat):Int):=Int.ofNat_tmod a 10000 |>.symm
def tm2:(a:Int).tmod 100=((a%100:Nat):Int):=Int.ofNat_tmod a 100 |>.symm
def Yp9(h:a<18446744073709551616):Zap .u64 ((a:Int)/100000000)=((a/100000000:Nat):Int):=by
 rw[Zeb (by omega) (by omega)];omega
def Ypy(h:a<4294967296):Zap .u32 ((a:Int)/10000)=((a/10000:Nat):Int):=by
 rw[Zfg (by omega) (by omega)];omega
def Ynv(h:a<4294967296):Zap .u32 ((a:Int)/100)=((a/100:Nat):Int):=by
 rw[Zfg (by omega) (by omega)];omega
def tw(h:a<4294967296):Zap .u32 (a:Int)=(a:Int):=Zfg (by omega) (by omega)
def Zsp(h:a<100):Zap .u32 ((a:Int)*2)=((2*a:Nat):Int):=by rw[Zfg (by omega) (by omega)];omega
def ta1(h:a<100):Zap .u32 (((2*a:Nat):Int)+1)=((2*a+1:Nat):Int):=by rw[Zfg (by omega) (by omega)];omega
def Yks{L:Nat}{f0 f:Nat→V}{e:TypeId}(hT:o+L≤Z)(hL:L<100)(hn2:n2≤ir)(hN:ir<N){rr:T V}(hf:Fx [(1,1),(4,11),(19,95)] rr 167 ⟨r,167,[]⟩)(r0:r.get 0=some (.slice ir o L cp 1))(a1:r.get 1=some (.int .u64 u))(ub:u<18446744073709551616)(s:FbJ h N ir n2 Z o L x f0 e (k+8) u f r ⟨H,N,W⟩):
  Code A.C none A.lb297_0 ⟨r,167,[]⟩ ⟨H,N,W⟩ (fun ex fr st=>ex=.normal∧∃r' f',fr=⟨r',167,[]⟩∧Fx [(1,1),(4,11),(19,95)] rr 167 ⟨r',167,[]⟩∧r'.get 1=some (.int .u64 (u/100000000:Nat))∧FbJ h N ir n2 Z o L x f0 e k (u/100000000) f' r' st):=by
 rw[Zai]
 obtain⟨a4,_,aw,arow,ao,af⟩:=s
 simp only at aw arow ao
 have hle:=af.le
 have v8:=af.eight
 obtain⟨us,hus⟩:∃y,u%100000000=y:=⟨_,rfl⟩
 obtain⟨uq,huq⟩:∃y,u/100000000=y:=⟨_,rfl⟩
 have t1:=tm8 (a:=u)
 have t2:=Yp9 (a:=u) ub
 rw[hus]at t1 v8
 rw[huq]at t2 v8
 have us0:us<100000000:=by omega
 have t3:=tw (a:=us) (by omega)
 obtain⟨hi,hhi⟩:∃y,us/10000=y:=⟨_,rfl⟩
 obtain⟨lo,hlo⟩:∃y,us%10000=y:=⟨_,rfl⟩
 have t4:=Ypy (a:=us) (by omega)
 have t5:=tm4 (a:=us)
 rw[hhi]at t4 v8
 rw[hlo]at t5 v8
 have t6:=Ynv (a:=hi) (by omega)
 have t7:=tm2 (a:=hi)
 have t8:=Ynv (a:=lo) (by omega)
 have t9:=tm2 (a:=lo)
 obtain⟨p1,hp1⟩:∃y,hi/100=y:=⟨_,rfl⟩
 obtain⟨p2,hp2⟩:∃y,hi%100=y:=⟨_,rfl⟩
 obtain⟨p3,hp3⟩:∃y,lo/100=y:=⟨_,rfl⟩
 obtain⟨p4,hp4⟩:∃y,lo%100=y:=⟨_,rfl⟩
 rw[hp1]at t6 v8
 rw[hp2]at t7 v8
 rw[hp3]at t8 v8
 rw[hp4]at t9 v8
 have b1:p1<100:=by omega
 have m1:=Zsp b1
 have nn1:=ta1 b1
 have d1:=Ziv _ b1
 have g1:=Ziw _ b1
 obtain⟨y1,hy1⟩:∃y,2*p1+1=y:=⟨_,rfl⟩
 rw[hy1]at nn1 d1
 obtain⟨z1,hz1⟩:∃y,2*p1=y:=⟨_,rfl⟩
 rw[hz1]at m1 nn1 g1
 have b2:p2<100:=by omega
 have m2:=Zsp b2
 have nn2:=ta1 b2
 have d2:=Ziv _ b2
 have g2:=Ziw _ b2
 obtain⟨y2,hy2⟩:∃y,2*p2+1=y:=⟨_,rfl⟩
 rw[hy2]at nn2 d2
 obtain⟨z2,hz2⟩:∃y,2*p2=y:=⟨_,rfl⟩
 rw[hz2]at m2 nn2 g2
 have b3:p3<100:=by omega
 have m3:=Zsp b3
 have nn3:=ta1 b3
 have d3:=Ziv _ b3
 have g3:=Ziw _ b3
 obtain⟨y3,hy3⟩:∃y,2*p3+1=y:=⟨_,rfl⟩
 rw[hy3]at nn3 d3
 obtain⟨z3,hz3⟩:∃y,2*p3=y:=⟨_,rfl⟩
 rw[hz3]at m3 nn3 g3
 have b4:p4<100:=by omega
 have m4:=Zsp b4
 have nn4:=ta1 b4
 have d4:=Ziv _ b4
 have g4:=Ziw _ b4
 obtain⟨y4,hy4⟩:∃y,2*p4+1=y:=⟨_,rfl⟩
 rw[hy4]at nn4 d4
 obtain⟨z4,hz4⟩:∃y,2*p4=y:=⟨_,rfl⟩
 rw[hz4]at m4 nn4 g4
 have e1:(k:Int)+8-1=(k:Int)+7:=by omega
 have e2:(k:Int)+8-2=(k:Int)+6:=by omega
 have e3:(k:Int)+8-3=(k:Int)+5:=by omega
 have e4:(k:Int)+8-4=(k:Int)+4:=by omega
 have e5:(k:Int)+8-5=(k:Int)+3:=by omega
 have e6:(k:Int)+8-6=(k:Int)+2:=by omega
 have e7:(k:Int)+8-7=(k:Int)+1:=by omega
 have e8:(k:Int)+8-8=(k:Int):=by omega
 have f1:((k:Int)+7).toNat=k+7:=by omega
 have f2:((k:Int)+6).toNat=k+6:=by omega
 have f3:((k:Int)+5).toNat=k+5:=by omega
 have f4:((k:Int)+4).toNat=k+4:=by omega
 have f5:((k:Int)+3).toNat=k+3:=by omega
 have f6:((k:Int)+2).toNat=k+2:=by omega
 have f7:((k:Int)+1).toNat=k+1:=by omega
 have c8:(8:Int)≤(k:Int)+8:=by omega
 have hN2:¬N≤ir:=by omega
 have ir0:∀t,(T.set H ir t).get ir=some t:=fun t=>by rw[T.get_set,Yrw rfl]
 simp(disch:=first|(simp;done)|omega|(simp only[Zab,Zaa,Yrr];omega)|rfl) [-getElem?_pos,A.lb297_0,hf,r0,a1,a4,c8,arow,hN,hN2,Zal.chk,Zqn,t1,t2,t3,t4,t5,t6,t7,t8,t9,m1,m2,m3,m4,nn1,nn2,nn3,nn4,d1,d2,d3,d4,g1,g2,g3,g4,e1,e2,e3,e4,e5,e6,e7,e8,f1,f2,f3,f4,f5,f6,f7]
 subst huq
 refine⟨by omega,_,⟨by simp,rfl,by simpa[Zae,Yuw.2 hn2]using aw,by simp only[T.get_set,Yrw];rfl,fun t ht=>by simp only[T.get_set,Yrt ht];exact ao t ht,v8⟩⟩
structure FbE (h:T O) (N ir n2 Z o L x:Nat) (f0:Nat→V) (e:TypeId) (st:St):Prop where
 n:st.n=N
 w:Zae n2 st.w=[]
 oth:∀t,t≠ir→st.h.get t=h.get t
 ex:∃f,st.h.get ir=some (.cells (Zs2 Z f) e true)∧(∀j,j<L→f (o+j)=vB (dch (x/10^(L-1-j))))∧∀j,j<o∨o+L≤j→f j=f0 j
def Yl2(h:u<10):V.int .u8 (48+(u:Int))=vB (dch u):=by
 unfold vB u8I
 rw[Ziz]
 congr 1;omega
def Ym9{L:Nat}{f0 f:Nat→V}{e:TypeId}(hZ:o+L≤Z)(hn2:n2≤ir)(hN:ir<N)(hi:i<2)(hu:u<10^i)(r0:r.get 0=some (.slice ir o L cp 1))(a12:r.get 12=some (.int .u32 u))(s:FbJ h N ir n2 Z o L x f0 e i u f r ⟨H,N,W⟩):
  Code A.C none A.ta297_0 ⟨r,167,[]⟩ ⟨H,N,W⟩ (fun ex fr st=>ex=.normal∧∃r',fr=⟨r',167,[]⟩∧FbE h N ir n2 Z o L x f0 e st):=by
 rw[Zai]
 obtain⟨a4,_,aw,arow,ao,af⟩:=s
 simp only at aw arow ao
 have hle:=af.le
 obtain rfl|rfl:i=0∨i=1:=by omega
 ·simp(disch:=first|(simp;done)|omega|(simp only[Zab,Zaa,Yrr];omega)|rfl) [-getElem?_pos,A.ta297_0,r0,a4]
  exact⟨rfl,aw,ao,f,arow,fun j hj=>af.dig j (Yum _) hj,af.out⟩
 ·have hu':u<10:=by omega
  have e1:Zap .u32 (48+(u:Int))=48+(u:Int):=Zfg (by omega) (by omega)
  have e2:Zap .u8 (48+(u:Int))=48+(u:Int):=Zd6 (by omega) (by omega)
  have hL:(0:Int)<(L:Int):=by omega
  simp(disch:=first|(simp;done)|omega|(simp only[Zab,Zaa,Yrr];omega)|rfl) [-getElem?_pos,A.ta297_0,r0,a4,a12,e1,e2,hL,arow,Zqn]
  have v:=Fmt.one (i:=0) af (c:=dch u) rfl
  rw[←Yl2 hu',Yty]at v
  exact⟨rfl,by simpa[Zae,Yuw.2 hn2]using aw,fun t ht=>by rw[T.get_set,Yrt ht];exact ao t ht,_,by rw[T.get_set,Yrw rfl],fun j hj=>v.dig j (Yum _) hj,v.out⟩
def Ym8{L:Nat}{f0 f:Nat→V}{e:TypeId}(hZ:o+L≤Z)(hn2:n2≤ir)(hN:ir<N)(hi:i<4)(hu:u<10^i)(r0:r.get 0=some (.slice ir o L cp 1))(a12:r.get 12=some (.int .u32 u))(s:FbJ h N ir n2 Z o L x f0 e i u f r ⟨H,N,W⟩):
  Code A.C none A.ta297_1 ⟨r,167,[]⟩ ⟨H,N,W⟩ (fun ex fr st=>ex=.normal∧∃r',fr=⟨r',167,[]⟩∧FbE h N ir n2 Z o L x f0 e st):=by
 rw[Zai]
 have s0:=s
 obtain⟨a4,_,aw,arow,ao,af⟩:=s
 simp only at aw arow ao
 have hle:=af.le
 by_cases hc:i<2
 ·have c1:¬(2:Int)≤(i:Int):=by omega
  simp(disch:=first|(simp;done)|omega|(simp only[Zab,Zaa,Yrr];omega)|rfl) [-getElem?_pos,A.ta297_1,r0,a4,c1]
  refine Za7 (Ym9 (i:=i) (u:=u) (f:=f) (cp:=cp) hZ hn2 hN hc hu (by simp[r0]) (by simp[a12]) ⟨by simp[a4],rfl,aw,arow,ao,af⟩) ?_
  rintro ex fr st ⟨rfl,r',rfl,hE⟩
  simp
  exact hE
 ·obtain⟨k,rfl⟩:∃k,i=k+2:=⟨i-2,by omega⟩
  have hu4:u<10000:=by
   have:10^(k+2)≤10^4:=Ysu (by decide) (by omega)
   omega
  have c1:(2:Int)≤(k:Int)+2:=by omega
  have hN2:¬N≤ir:=by omega
  have t6:=Ynv (a:=u) (by omega)
  have t7:=tm2 (a:=u)
  have v:=Fmt.two (i:=k) af (c:=dch (u%100)) (d:=dch (u%100/10)) (Zb0 (by omega)) (Zb0 (by omega))
  have hu2:u/100<10^k:=by
   rw[Ysm (by decide)]
   rw[Ysr]at hu
   exact hu
  obtain⟨uq,huq⟩:∃y,u/100=y:=⟨_,rfl⟩
  obtain⟨p1,hp1⟩:∃y,u%100=y:=⟨_,rfl⟩
  rw[huq]at t6 v hu2
  rw[hp1]at t7 v
  have b1:p1<100:=by omega
  have m1:=Zsp b1
  have nn1:=ta1 b1
  have d1:=Ziv _ b1
  have g1:=Ziw _ b1
  obtain⟨y1,hy1⟩:∃y,2*p1+1=y:=⟨_,rfl⟩
  rw[hy1]at nn1 d1
  obtain⟨z1,hz1⟩:∃y,2*p1=y:=⟨_,rfl⟩
  rw[hz1]at m1 nn1 g1
  have e1:(k:Int)+2-1=(k:Int)+1:=by omega
  have e2:(k:Int)+2-2=(k:Int):=by omega
  have f1:((k:Int)+1).toNat=k+1:=by omega
  have hI:∀t n,(((H.set ir t).set ir n):T O).get ir=some n:=fun t n=>by rw[T.get_set,Yrw rfl]
  simp(disch:=first|(simp;done)|omega|(simp only[Zab,Zaa,Yrr];omega)|rfl) [-getElem?_pos,A.ta297_1,r0,a4,a12,c1,arow,hN,hN2,Zal.chk,Zqn,t6,t7,m1,nn1,d1,g1,e1,e2,f1]
  refine Za7 (Ym9 (i:=k) (u:=uq) (cp:=cp) (e:=e) hZ hn2 hN (by omega) hu2 (by simp[r0]) (by simp) ⟨by simp,rfl,by simpa[Zae,Yuw.2 hn2]using aw,by simp only[T.get_set,Yrw];rfl,fun t ht=>by simp only[T.get_set,Yrt ht];exact ao t ht,v⟩) ?_
  rintro ex fr st ⟨rfl,r',rfl,hE⟩
  simp
  exact hE
def Fmt.four{T L:Nat}{f0 f:Nat→V}(s:Fmt T o L x (i+4) u f0 f):Fmt T o L x i (u/10000) f0
  (Zk5 (Zk5 (Zk5 (Zk5 f (o+(i+3)) (vB (dch (u%10000%100)))) (o+(i+2)) (vB (dch (u%10000%100/10)))) (o+(i+1)) (vB (dch (u%10000/100)))) (o+i) (vB (dch (u%10000/100/10)))):=by
 have s1:=Fmt.two (i:=i+2) s (c:=dch (u%10000%100)) (d:=dch (u%10000%100/10)) (Zb0 (by omega)) (Zb0 (by omega))
 have s2:=Fmt.two (i:=i) s1 (c:=dch (u%10000/100)) (d:=dch (u%10000/100/10)) (Zb0 (by omega)) (Zb0 (by omega))
 rw[show u/100/100=u/10000 by omega]at s2
 exact s2
def Ypg{L:Nat}{f0 f:Nat→V}{e:TypeId}(hZ:o+L≤Z)(hn2:n2≤ir)(hN:ir<N)(hi:i<8)(hu:u<10^i)(r0:r.get 0=some (.slice ir o L cp 1))(a12:r.get 12=some (.int .u32 u))(s:FbJ h N ir n2 Z o L x f0 e i u f r ⟨H,N,W⟩):
  Code A.C none A.ta297_2 ⟨r,167,[]⟩ ⟨H,N,W⟩ (fun ex fr st=>ex=.normal∧∃r',fr=⟨r',167,[]⟩∧FbE h N ir n2 Z o L x f0 e st):=by
 rw[Zai]
 obtain⟨a4,_,aw,arow,ao,af⟩:=s
 simp only at aw arow ao
 have hle:=af.le
 by_cases hc:i<4
 ·have c1:¬(4:Int)≤(i:Int):=by omega
  simp(disch:=first|(simp;done)|omega|(simp only[Zab,Zaa,Yrr];omega)|rfl) [-getElem?_pos,A.ta297_2,r0,a4,c1]
  refine Za7 (Ym8 (i:=i) (u:=u) (f:=f) (cp:=cp) hZ hn2 hN hc hu (by simp[r0]) (by simp[a12]) ⟨by simp[a4],rfl,aw,arow,ao,af⟩) ?_
  rintro ex fr st ⟨rfl,r',rfl,hE⟩
  simp
  exact hE
 ·obtain⟨k,rfl⟩:∃k,i=k+4:=⟨i-4,by omega⟩
  have hu4:u<100000000:=by
   have:10^(k+4)≤10^8:=Ysu (by decide) (by omega)
   omega
  have c1:(4:Int)≤(k:Int)+4:=by omega
  have hN2:¬N≤ir:=by omega
  have t4:=Ypy (a:=u) (by omega)
  have t5:=tm4 (a:=u)
  have v:=af.four
  have hu2:u/10000<10^k:=by
   rw[Ysm (by decide)]
   rw[Ysr]at hu
   exact hu
  obtain⟨uq,huq⟩:∃y,u/10000=y:=⟨_,rfl⟩
  obtain⟨lo,hlo⟩:∃y,u%10000=y:=⟨_,rfl⟩
  rw[huq]at t4 v hu2
  rw[hlo]at t5 v
  have t6:=Ynv (a:=lo) (by omega)
  have t7:=tm2 (a:=lo)
  obtain⟨p1,hp1⟩:∃y,lo/100=y:=⟨_,rfl⟩
  obtain⟨p2,hp2⟩:∃y,lo%100=y:=⟨_,rfl⟩
  rw[hp1]at t6 v
  rw[hp2]at t7 v
  have b1:p1<100:=by omega
  have m1:=Zsp b1
  have nn1:=ta1 b1
  have d1:=Ziv _ b1
  have g1:=Ziw _ b1
  obtain⟨y1,hy1⟩:∃y,2*p1+1=y:=⟨_,rfl⟩
  rw[hy1]at nn1 d1
  obtain⟨z1,hz1⟩:∃y,2*p1=y:=⟨_,rfl⟩
  rw[hz1]at m1 nn1 g1
  have b2:p2<100:=by omega
  have m2:=Zsp b2
  have nn2:=ta1 b2
  have d2:=Ziv _ b2
  have g2:=Ziw _ b2
  obtain⟨y2,hy2⟩:∃y,2*p2+1=y:=⟨_,rfl⟩
  rw[hy2]at nn2 d2
  obtain⟨z2,hz2⟩:∃y,2*p2=y:=⟨_,rfl⟩
  rw[hz2]at m2 nn2 g2
  have e1:(k:Int)+4-1=(k:Int)+3:=by omega
  have e2:(k:Int)+4-2=(k:Int)+2:=by omega
  have e3:(k:Int)+4-3=(k:Int)+1:=by omega
  have e4:(k:Int)+4-4=(k:Int):=by omega
  have f1:((k:Int)+3).toNat=k+3:=by omega
  have f2:((k:Int)+2).toNat=k+2:=by omega
  have f3:((k:Int)+1).toNat=k+1:=by omega
  simp(disch:=first|(simp;done)|omega|(simp only[Zab,Zaa,Yrr];omega)|rfl) [-getElem?_pos,A.ta297_2,r0,a4,a12,c1,arow,hN,hN2,Zqn,t4,t5,t6,t7,m1,nn1,d1,g1,m2,nn2,d2,g2,e1,e2,e3,e4,f1,f2,f3]
  refine Za7 (Ym8 (i:=k) (u:=uq) (cp:=cp) (e:=e) hZ hn2 hN (by omega) hu2 (by simp[r0]) (by simp) ⟨by simp,rfl,by simpa[Zae,Yuw.2 hn2]using aw,by simp only[T.get_set,Yrw];rfl,fun t ht=>by simp only[T.get_set,Yrt ht];exact ao t ht,v⟩) ?_
  rintro ex fr st ⟨rfl,r',rfl,hE⟩
  simp
  exact hE
def Code.mono{C:Cx}{ro:Option Nat}{c:Zaw}{fr:Fr}{st:St}{P Q:Ex→Fr→St→Prop}(h:Code C ro c fr st P)(k:∀e fr st,P e fr st→Q e fr st):Code C ro c fr st Q:=by
 rw[Zai]
 refine Za7 h ?_
 intro e fr st hp
 simp
 exact k _ _ _ hp
structure FbR (h:T O) (N ir n2 Z o L x:Nat) (f0:Nat→V) (e:TypeId) (w:List Nat) (st:St):Prop where
 n:st.n=N
 w:Zae n2 st.w=Zae n2 w
 oth:∀t,t≠ir→st.h.get t=h.get t
 ex:∃f,st.h.get ir=some (.cells (Zs2 Z f) e true)∧(∀j,j<L→f (o+j)=vB (dch (x/10^(L-1-j))))∧∀j,j<o∨o+L≤j→f j=f0 j
def Zud{L:Nat}{f0:Nat→V}{e:TypeId}{w:List Nat}(hZ:o+L≤Z)(hL:L<100)(hn2:n2≤ir)(hN:ir<N)(hx:x<10^L)(hx6:x<18446744073709551616)(hr:h.get ir=some (.cells (Zs2 Z f0) e true)):
  Call A.C (.func 297 [] []) [.slice ir o L cp 1,.int .u64 x] ⟨h,N,w⟩ (fun _ st=>FbR h N ir n2 Z o L x f0 e w st):=by
 rw[Zaf,A.k297 (by simp)]
 simp(disch:=first|(simp;done)|omega|(simp only[Zab,Zaa,Yrr];omega)|rfl) [-getElem?_pos,A.b297]
 refine Zak [(1,1),(4,11),(19,95)] (fun ex r st=>ex=.exit 0∧∃(i u:Nat) (f:Nat→V),i<8∧u<10^i∧r.get 1=some (.int .u64 u)∧FbJ h N ir n2 Z o L x f0 e i u f r st) (fun i r st=>∃(u:Nat) (f:Nat→V),u<10^i∧u<18446744073709551616∧r.get 1=some (.int .u64 u)∧FbJ h N ir n2 Z o L x f0 e i u f r st) L ?_ ?_ ?_
 ·refine⟨x,f0,hx,hx6,by simp,by simp,rfl,by simp[Zae],hr,fun t _=>rfl,⟨Yru _,by simp,fun j h1 h2=>by omega,fun j _=>rfl⟩⟩
 ·rintro i r ⟨H,n1,W⟩ hr hf ⟨u,f,hu,hu6,a1,J⟩
  have hn:=J.n
  simp only at hn
  subst hn
  have r0:r.get 0=some (.slice ir o L cp 1):=by rw[hr 0 (by decide)];simp
  by_cases h8:i<8
  ·have c8:¬(8:Int)≤(i:Int):=by omega
   have a4:=J.r4
   rw[Zai]
   simp(disch:=first|(simp;done)|omega|(simp only[Zab,Zaa,Yrr];omega)|rfl) [-getElem?_pos,A.lb297_0,hr,hf,a4,c8]
   exact⟨i,h8,u,hu,by simp[a1],f,⟨by simp[a4],J.n,J.w,J.row,J.oth,J.fmt⟩⟩
  ·obtain⟨k,rfl⟩:∃k,i=k+8:=⟨i-8,by omega⟩
   refine Code.mono (Yks hZ hL hn2 hN hf r0 a1 hu6 J) ?_
   rintro ex fr st ⟨rfl,r',f',rfl,hf',a1',J'⟩
   refine Zsf.2 ⟨hf',k,by omega,_,f',?_,by omega,a1',J'⟩
   rw[Ysm (by decide)]
   rw[Ysr]at hu
   exact hu
 ·rintro ex r ⟨H,n1,W⟩ hr ⟨rfl,i,u,f,h8,hu,a1,J⟩
  have hn:=J.n
  simp only at hn
  subst hn
  have hu7:u<4294967296:=by
   have:10^i≤10^7:=Ysu (by decide) (by omega)
   omega
  have e1:=tw hu7
  simp(disch:=first|(simp;done)|omega|(simp only[Zab,Zaa,Yrr];omega)|rfl) [-getElem?_pos,a1,e1]
  refine Za7 (Ypg (i:=i) (u:=u) (f:=f) (cp:=cp) (e:=e) (H:=H) (W:=W) hZ hn2 hN h8 hu (by simp;rw[hr 0 (by decide)];simp) (by simp) ⟨by simpa using J.r4,rfl,J.w,J.row,J.oth,J.fmt⟩) ?_
  rintro ex fr ⟨H2,n2',W2⟩ ⟨rfl,r',rfl,hn,hW,hO,hE⟩
  simp only at hn
  subst hn
  simp(disch:=first|(simp;done)|omega|(simp only[Zab,Zaa,Yrr];omega)|rfl) [-getElem?_pos,]
  exact⟨rfl,by rw[Zfl (Zfj hW)],hO,hE⟩
end Go.Mx
