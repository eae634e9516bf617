/-strconv-/
import Derived.Test.YteoackkadadmdaaGreatDoorPaD
set_option linter.all false
namespace Go.Mx
open Go Go.Proofs
variable {H h:T O} {N Z a i ir k n2 o u x:Nat} {W:List Nat} {cp:Option Nat} {r:T V}
set_option maxHeartbeats 4000000
set_option maxRecDepth 1000000
def qO:List UInt8:=[48,48,48,49,48,50,48,51,48,52,48,53,48,54,48,55,48,56,48,57,49,48,49,49,49,50,49,51,49,52,49,53,49,54,49,55,49,56,49,57,50,48,50,49,50,50,50,51,50,52,50,53,50,54,50,55,50,56,50,57,51,48,51,49,51,50,51,51,51,52,51,53,51,54,51,55,51,56,51,57,52,48,52,49,52,50,52,51,52,52,52,53,52,54,52,55,52,56,52,57,53,48,53,49,53,50,53,51,53,52,53,53,53,54,53,55,53,56,53,57,54,48,54,49,54,50,54,51,54,52,54,53,54,54,54,55,54,56,54,57,55,48,55,49,55,50,55,51,55,52,55,53,55,54,55,55,55,56,55,57,56,48,56,49,56,50,56,51,56,52,56,53,56,54,56,55,56,56,56,57,57,48,57,49,57,50,57,51,57,52,57,53,57,54,57,55,57,56,57,57]
def WC:List UInt8:=[48,49,50,51,52,53,54,55,56,57,97,98,99,100,101,102,103,104,105,106,107,108,109,110,111,112,113,114,115,116,117,118,119,120,121,122]
def A.b277:av:=sr [mc 2 0]
 (sr [mv 4 0,c1 5 247 4,c1 6 294 5,mv 3 6]
 (sr [mv 7 3,mv 8 0,mv 9 3,ge 10 (.cr 20 1 (.const (.ptr 5 0)) (tq 9)),ld 11 10,bi 12 .geq 8 11,c1 13 295 12,bi 14 .add 7 13,mv 2 14]
 (.ret)))
def A.c277:A.F 277=some ⟨15,[.tmp 2],A.b277⟩:=by kernel_rfl
def A.k277:=@A.kk 277 _ _ _ A.c277 rfl
def A.b294:av:=sr [mc 2 0]
 (sr [mv 3 0,bc 4 .mul 3 78913,ge 5 (.bin .shr (.node []) false (tq 4) (.const (.int .u64 18))),mv 2 5]
 (.ret))
def A.c294:A.F 294=some ⟨6,[.tmp 2],A.b294⟩:=by kernel_rfl
def A.k294:=@A.kk 294 _ _ _ A.c294 rfl
def A.b295:av:=sr [mc 2 0]
 (.seq (sr [mv 3 0]
 (cd 3
 (sr [mc 2 1]
 (.ret))
 (.skip)))
 (sr [mc 2 0]
 (.ret)))
def A.c295:A.F 295=some ⟨4,[.tmp 2],A.b295⟩:=by kernel_rfl
def A.k295:=@A.kk 295 _ _ _ A.c295 rfl
def A.mS:av:=.seq (sr [mv 19 4,bc 20 .geq 19 8]
 (cd 20
 (.skip)
 (.exit 0)))
 (.block 1 (sr [mv 21 1,ge 22 (.bin .rem (.node []) false (tq 21) (.const (.int .u64 100000000))),ge 23 (.bj .u32 (tq 22)),mv 5 23]
 (sr [mv 24 1,ge 25 (.bin .quo (.node []) false (tq 24) (.const (.int .u64 100000000))),mv 1 25]
 (sr [mv 26 5,ge 27 (.bin .quo (.node []) false (tq 26) (.const (.int .u32 10000))),mv 28 5,ge 29 (.bin .rem (.node []) false (tq 28) (.const (.int .u32 10000))),mv 6 27,mv 7 29]
 (sr [mv 30 7,ge 31 (.bin .quo (.node []) false (tq 30) (.const (.int .u32 100))),ge 32 (.bin .mul (.node []) false (tq 31) (.const (.int .u32 2))),mv 33 7,ge 34 (.bin .rem (.node []) false (tq 33) (.const (.int .u32 100))),ge 35 (.bin .mul (.node []) false (tq 34) (.const (.int .u32 2))),mv 8 32,mv 9 35]
 (sr [mv 36 6,ge 37 (.bin .quo (.node []) false (tq 36) (.const (.int .u32 100))),ge 38 (.bin .mul (.node []) false (tq 37) (.const (.int .u32 2))),mv 39 6,ge 40 (.bin .rem (.node []) false (tq 39) (.const (.int .u32 100))),ge 41 (.bin .mul (.node []) false (tq 40) (.const (.int .u32 2))),mv 10 38,mv 11 41]
 (.seq (.aX [mv 42 0,mv 43 4,bc 44 .sub 43 1,mv 45 0,mv 46 4,bc 47 .sub 46 2,mv 48 9,ge 49 (.bin .add (.node []) false (tq 48) (.const (.int .u32 1))),ge 50 (.aZ (.const (.str qO)) (tq 49)),mv 51 9,ge 52 (.aZ (.const (.str qO)) (tq 51)),ia 53 1 42 44,so 53 50,ia 54 1 45 47,so 54 52] [0,0,2,0,0,16,0,64,192,0,512,455,2503,8191,16383])
 (.seq (.aX [mv 55 0,mv 56 4,bc 57 .sub 56 3,mv 58 0,mv 59 4,bc 60 .sub 59 4,mv 61 8,ge 62 (.bin .add (.node []) false (tq 61) (.const (.int .u32 1))),ge 63 (.aZ (.const (.str qO)) (tq 62)),mv 64 8,ge 65 (.aZ (.const (.str qO)) (tq 64)),ia 66 1 55 57,so 66 63,ia 67 1 58 60,so 67 65] [0,0,2,0,0,16,0,64,192,0,512,455,2503,8191,16383])
 (.seq (.aX [mv 68 0,mv 69 4,bc 70 .sub 69 5,mv 71 0,mv 72 4,bc 73 .sub 72 6,mv 74 11,ge 75 (.bin .add (.node []) false (tq 74) (.const (.int .u32 1))),ge 76 (.aZ (.const (.str qO)) (tq 75)),mv 77 11,ge 78 (.aZ (.const (.str qO)) (tq 77)),ia 79 1 68 70,so 79 76,ia 80 1 71 73,so 80 78] [0,0,2,0,0,16,0,64,192,0,512,455,2503,8191,16383])
 (.seq (.aX [mv 81 0,mv 82 4,bc 83 .sub 82 7,mv 84 0,mv 85 4,bc 86 .sub 85 8,mv 87 10,ge 88 (.bin .add (.node []) false (tq 87) (.const (.int .u32 1))),ge 89 (.aZ (.const (.str qO)) (tq 88)),mv 90 10,ge 91 (.aZ (.const (.str qO)) (tq 90)),ia 92 1 81 83,so 92 89,ia 93 1 84 86,so 93 91] [0,0,2,0,0,16,0,64,192,0,512,455,2503,8191,16383])
 (.aR [mv 94 4,bc 95 .sub 94 8,mv 4 95])))))))))))
def A.mT:av:=sr [mv 160 4,bc 161 .gtr 160 0]
 (cd 161
 (.aR [mv 162 0,mv 163 12,ge 164 (.bin .add (.node []) false (.const (.int .u32 48)) (tq 163)),ge 165 (.bj .u8 (tq 164)),ge 166 (.aU 1 (tq 162) (kq 0)),so 166 165])
 (.skip))
def A.mU:av:=.seq (sr [mv 138 4,bc 139 .geq 138 2]
 (cd 139
 (sr [mv 140 12,ge 141 (.bin .rem (.node []) false (tq 140) (.const (.int .u32 100))),ge 142 (.bin .mul (.node []) false (tq 141) (.const (.int .u32 2))),mv 16 142]
 (sr [mv 143 12,ge 144 (.bin .quo (.node []) false (tq 143) (.const (.int .u32 100))),mv 12 144]
 (.seq (.aX [mv 145 0,mv 146 4,bc 147 .sub 146 1,mv 148 0,mv 149 4,bc 150 .sub 149 2,mv 151 16,ge 152 (.bin .add (.node []) false (tq 151) (.const (.int .u32 1))),ge 153 (.aZ (.const (.str qO)) (tq 152)),mv 154 16,ge 155 (.aZ (.const (.str qO)) (tq 154)),ia 156 1 145 147,so 156 153,ia 157 1 148 150,so 157 155] [0,0,2,0,0,16,0,64,192,0,512,455,2503,8191,16383])
 (.aR [mv 158 4,bc 159 .sub 158 2,mv 4 159]))))
 (.skip)))
 A.mT
def A.mV:av:=.seq (sr [mv 98 4,bc 99 .geq 98 4]
 (cd 99
 (sr [mv 100 12,ge 101 (.bin .rem (.node []) false (tq 100) (.const (.int .u32 10000))),mv 13 101]
 (sr [mv 102 12,ge 103 (.bin .quo (.node []) false (tq 102) (.const (.int .u32 10000))),mv 12 103]
 (sr [mv 104 13,ge 105 (.bin .quo (.node []) false (tq 104) (.const (.int .u32 100))),ge 106 (.bin .mul (.node []) false (tq 105) (.const (.int .u32 2))),mv 107 13,ge 108 (.bin .rem (.node []) false (tq 107) (.const (.int .u32 100))),ge 109 (.bin .mul (.node []) false (tq 108) (.const (.int .u32 2))),mv 14 106,mv 15 109]
 (.seq (.aX [mv 110 0,mv 111 4,bc 112 .sub 111 1,mv 113 0,mv 114 4,bc 115 .sub 114 2,mv 116 15,ge 117 (.bin .add (.node []) false (tq 116) (.const (.int .u32 1))),ge 118 (.aZ (.const (.str qO)) (tq 117)),mv 119 15,ge 120 (.aZ (.const (.str qO)) (tq 119)),ia 121 1 110 112,so 121 118,ia 122 1 113 115,so 122 120] [0,0,2,0,0,16,0,64,192,0,512,455,2503,8191,16383])
 (.seq (.aX [mv 123 0,mv 124 4,bc 125 .sub 124 3,mv 126 0,mv 127 4,bc 128 .sub 127 4,mv 129 14,ge 130 (.bin .add (.node []) false (tq 129) (.const (.int .u32 1))),ge 131 (.aZ (.const (.str qO)) (tq 130)),mv 132 14,ge 133 (.aZ (.const (.str qO)) (tq 132)),ia 134 1 123 125,so 134 131,ia 135 1 126 128,so 135 133] [0,0,2,0,0,16,0,64,192,0,512,455,2503,8191,16383])
 (.aR [mv 136 4,bc 137 .sub 136 4,mv 4 137]))))))
 (.skip)))
 A.mU
def A.b278:av:=sr [mv 17 0,ln 18 17,mv 4 18]
 (.seq (.block 0 (.loop A.mS))
 (sr [mv 96 1,ge 97 (.bj .u32 (tq 96)),mv 12 97]
 A.mV))
def A.c278:A.F 278=some ⟨167,[],A.b278⟩:=by kernel_rfl
def A.k278:=@A.kk 278 _ _ _ A.c278 rfl
def A.b276:av:=sr [ge 2 (.ba (.const (.str [])))]
 (.seq (sr [mv 3 0,bc 4 .lss 3 10]
 (cd 4
 (sr [mv 5 0,mv 6 0,bc 7 .add 6 1,ge 8 (.aD (.const (.str WC)) (some (tq 5)) (some (tq 7))),mv 2 8]
 (.ret))
 (.skip)))
 (sr [mv 9 0,bc 10 .mul 9 2,mv 11 0,bc 12 .mul 11 2,bc 13 .add 12 2,ge 14 (.aD (.const (.str qO)) (some (tq 10)) (some (tq 13))),mv 2 14]
 (.ret)))
def A.c276:A.F 276=some ⟨15,[.tmp 2],A.b276⟩:=by kernel_rfl
def A.k276:=@A.kk 276 _ _ _ A.c276 rfl
@[simp] def Yt7 {a b:Nat}:a<b\/b<=a:=Nat.lt_or_ge a b
def Jj{n:Int}(h1:0<=n)(h2:n<4294967296):bu .u32 n=n:=by rw[zq];show n%4294967296=n;omega
def WD:List Nat:=[1,10,100,1000,10000,100000,1000000,10000000,100000000,1000000000,10000000000,100000000000,1000000000000,10000000000000,100000000000000,1000000000000000,10000000000000000,100000000000000000,1000000000000000000,10000000000000000000]
def kJ(h:T O)(N:Nat):Prop:=5<N/\h.get 5=some A.Ko
def kJ.ae{h':T O}{N':Nat}(s:kJ h N)(k:ab h N h' N'):kJ h' N':=by
 exact⟨fE s.1 k.le,(k.get _ s.1).trans s.2⟩
def kJ.ex(s:kJ h N):5<N/\∃e rw,h.get 5=some (.cells (dg WD) e rw):=⟨s.1,_,_,s.2.trans rfl⟩
def Yhf:∀j:Nat,j<20->WD[j]?=some (10^j):=by decide+kernel
def Yms{j:Nat}(h:j<20):(dg WD)[j]?=some (.int .u64 ((10^j:Nat):Int)):=fv (Yhf j h)
def Ykm:∀b:Nat,b<65->0<b->10^(b*78913/262144)<=10*2^(b-1)/\2^b<=10^(b*78913/262144+1)/\b*78913/262144<20:=by decide+kernel
def Ytm{b:Nat}(hb:b<65)(hk:b*78913/262144=k){h:T O}{N:Nat}:Fn A.C 294 [.int .i64 b] h N (fun v h' N'=>h'=h/\N'=N/\v=.int .i64 (k:Nat)):=by
 intro w
 rw[aO,A.k294 (by simp)]
 have e1:bu .i64 ((b:Int)*78913)=(b:Int)*78913:=cF (by omega) (by omega)
 have e2:yq .shr .i64 ((b:Int)*78913) 18=some (.int .i64 ((b:Int)*78913/262144)):=by
  unfold yq
  rw[ar (by omega)]
  show some (V.int .i64 (Int.fdiv _ 262144))=_
  rw[Int.fdiv_eq_ediv_of_nonneg _ (by omega)]
 have e3:(b:Int)*78913/262144=k:=by omega
 simp[A.b294,e1,e2,e3,az]
 exact ab.refl
def Ytz{b:Bool}:Fn A.C 295 [.bool b] h N (fun v h' N'=>h'=h/\N'=N/\v=.int .i64 (if b=true then 1 else 0)):=by
 intro w
 rw[aO,A.k295 (by simp)]
 cases b
 ·simp[A.b295,az]
  exact ab.refl
 ·simp[A.b295,az]
  exact ab.refl
def Zri(hx:0<x)(hb:bh x<65):(if 10^(bh x*78913/262144)<=x then 1 else 0)+bh x*78913/262144=(di x).length:=by
 have oM:x≠0:=by omega
 have h1:=PI x
 have h2:=Ja oM
 have h0:0<bh x:=by unfold bh;rw[ar oM];omega
 obtain⟨g1,g2,g3⟩:=Ykm _ hb h0
 generalize hk:bh x*78913/262144=k at*
 have u1:(di x).length<=k+1:=pd.1 (by omega)
 by_cases c:10^k<=x
 ·rw[aF c]
  have:¬(di x).length<=k:=fun hc=>by have:=pd.2 hc;omega
  omega
 ·rw[ar c]
  have u2:(di x).length<=k:=pd.1 (by omega)
  cases k with
  |zero=>omega
  |succ j=>
   have:¬(di x).length<=j:=fun hc=>by
    have:=pd.2 hc
    rw[gE]at g1
    omega
   omega
def WE(hx:x<18446744073709551616)(h0:0<x){h:T O}{N:Nat}(hp:kJ h N):Fn A.C 277 [.int .u64 x] h N (fun v h' N'=>h'=h/\N'=N/\v=.int .i64 ((di x).length:Nat)):=by
 intro w
 have hb:bh x<65:=by
  apply sM
  intro hc
  have h2:=Ja (show x≠0 by omega)
  have:2^64<=2^(bh x-1):=sK (by decide) (by omega)
  omega
 rw[aO,A.k277 (by simp)]
 simp[A.b277]
 refine aA (V0 hx) ?_
 rintro _ _ _ _ ⟨rfl,rfl,rfl⟩
 simp[]
 refine aA (Ytm hb rfl) ?_
 rintro _ _ _ _ ⟨rfl,rfl,rfl⟩
 have kW:0<bh x:=by unfold bh;rw[ar (by omega)];omega
 have hl:=Zri h0 hb
 have g3:=(Ykm _ hb kW).2.2
 generalize bh x*78913/262144=k at*
 obtain⟨q1,e,rw,q2⟩:=hp.ex
 have q3:=Yms g3
 have g4:(k:Int)<20:=by omega
 simp[BX,g4,q2,q3]
 refine aA Ytz ?_
 rintro _ _ _ _ ⟨rfl,rfl,rfl⟩
 simp(disch:=omega) [az]
 refine⟨ab.refl,?_⟩
 rw[<-hl]
 have cc:((10:Int)^k<=(x:Int))↔10^k<=x:=by exact_mod_cast Iff.rfl
 by_cases c:10^k<=x
 ·rw[aF (cc.2 c),aF c];omega
 ·rw[ar (fun hc=>c (cc.1 hc)),ar c];omega
def vC(N:Nat)(f:Nat->V):List V:=(List.range N).map f
def Ae(N:Nat)(f:Nat->V):(vC N f).length=N:=by simp[vC]
def P5{j:Nat}{f:Nat->V}(h:j<N):(vC N f)[j]?=some (f j):=by simp[vC,h]
def kX(f:Nat->V)(k:Nat)(v:V):Nat->V:=fun j=>if j=k then v else f j
def Zub{f:Nat->V}{v:V}(h:k<N):ad (vC N f) k [v]=vC N (kX f k v):=by
 apply nD
 intro j
 rw[IS (by rw[Ae];simp;omega)]
 by_cases hj:k<=j/\j<k+[v].length
 ·rw[aF hj]
  simp at hj
  have:j=k:=by omega
  subst this
  rw[P5 h]
  simp[kX]
 ·rw[ar hj]
  simp at hj
  by_cases hN:j<N
  ·rw[P5 hN,P5 hN,kX,ar (by omega)]
  ·rw[fC (by rw[Ae];omega),fC (by rw[Ae];omega)]
def Mp{w:List Nat}{p:Nat}{f:Nat->V}{e:TypeId}{k:IntKind}{n:Int}(hp:p<Z):
  bO 1 ⟨h,N,w⟩ i p (.int k n) (some (.cells (vC Z f) e true))=some (.bg [],⟨h.set i (.cells (vC Z (kX f p (.int k n))) e true),N,i::w⟩):=by
 rw[Zls (by rfl) (by rw[Ae];omega) (by rfl)]
 show some (_,St.mk (h.set i (.cells (ad (vC Z f) p [.int k n]) e true)) _ _)=_
 rw[Zub hp]
def vB(c:UInt8):V:=.int .u8 (cK c)
def G6:∀p:Nat,p<100->qO[2*p+1]?=some (dc p):=by decide+kernel
def G7:∀p:Nat,p<100->qO[2*p]?=some (dc (p/10)):=by decide+kernel
def xj{b:Nat}(h:a%10=b%10):dc a=dc b:=by unfold dc;rw[h]
structure oO (Z o L x i u:Nat) (f0 f:Nat->V):Prop where
 le:i<=L
 u:u=x/10^(L-i)
 WG:∀j,i<=j->j<L->f (o+j)=vB (dc (x/10^(L-1-j)))
 out:∀j,j<o\/o+L<=j->f j=f0 j
def oO.one{L:Nat}{f0 f:Nat->V}(s:oO Z o L x (i+1) u f0 f){c:UInt8}(hc:c=dc u):oO Z o L x i (u/10) f0 (kX f (o+i) (vB c)):=by
 subst hc
 have hle:=s.le
 refine⟨by omega,?_,fun j h1 h2=>?_,fun j hj=>?_⟩
 ·rw[s.u,FK,<-gE]
  congr 2;omega
 ·by_cases hj:j=i
  ·subst hj
   rw[kX,aF rfl,s.u]
   congr 4
   omega
  ·rw[kX,ar (by omega)]
   exact s.WG j (by omega) h2
 ·rw[kX,ar (by omega)]
  exact s.out j hj
def oO.two{L:Nat}{f0 f:Nat->V}(s:oO Z o L x (i+2) u f0 f){c d:UInt8}(hc:c=dc u)(hd:d=dc (u/10)):oO Z o L x i (u/100) f0 (kX (kX f (o+(i+1)) (vB c)) (o+i) (vB d)):=by
 have:=(oO.one (i:=i+1) s hc).one hd
 rw[FK]at this
 exact this
structure G8 (h:T O) (N ir n2 Z o L x:Nat) (f0:Nat->V) (e:TypeId) (i u:Nat) (f:Nat->V) (r:T V) (st:St):Prop where
 r4:r.get 4=some (.int .i64 i)
 n:st.n=N
 w:ax n2 st.w=[]
 row:st.h.get ir=some (.cells (vC Z f) e true)
 Mq:∀t,t≠ir->st.h.get t=h.get t
 fmt:oO Z o L x i u f0 f
def oO.eight{L:Nat}{f0 f:Nat->V}(s:oO Z o L x (i+8) u f0 f):oO Z o L x i (u/100000000) f0
  (kX (kX (kX (kX (kX (kX (kX (kX f (o+(i+7)) (vB (dc (u%100000000%10000%100)))) (o+(i+6)) (vB (dc (u%100000000%10000%100/10)))) (o+(i+5)) (vB (dc (u%100000000%10000/100)))) (o+(i+4)) (vB (dc (u%100000000%10000/100/10))))
     (o+(i+3)) (vB (dc (u%100000000/10000%100)))) (o+(i+2)) (vB (dc (u%100000000/10000%100/10)))) (o+(i+1)) (vB (dc (u%100000000/10000/100)))) (o+i) (vB (dc (u%100000000/10000/100/10)))):=by
 have s1:=oO.two (i:=i+6) s (c:=dc (u%100000000%10000%100)) (d:=dc (u%100000000%10000%100/10)) (xj (by omega)) (xj (by omega))
 have s2:=oO.two (i:=i+4) s1 (c:=dc (u%100000000%10000/100)) (d:=dc (u%100000000%10000/100/10)) (xj (by omega)) (xj (by omega))
 have s3:=oO.two (i:=i+2) s2 (c:=dc (u%100000000/10000%100)) (d:=dc (u%100000000/10000%100/10)) (xj (by omega)) (xj (by omega))
 have s4:=oO.two (i:=i) s3 (c:=dc (u%100000000/10000/100)) (d:=dc (u%100000000/10000/100/10)) (xj (by omega)) (xj (by omega))
 rw[show u/100/100/100/100=u/100000000 by omega]at s4
 exact s4
def tm8:(a:Int).tmod 100000000=((a%100000000:Nat):Int):=Int.ofNat_tmod a 100000000 |>.symm
def tm4:(a:Int).tmod 10000=((a%10000:Nat):Int):=Int.ofNat_tmod a 10000 |>.symm
def P6:(a:Int).tmod 100=((a%100:Nat):Int):=Int.ofNat_tmod a 100 |>.symm
def Yuh(h:a<18446744073709551616):bu .u64 ((a:Int)/100000000)=((a/100000000:Nat):Int):=by
 rw[Ej (by omega) (by omega)];omega
def Yt4(h:a<4294967296):bu .u32 ((a:Int)/10000)=((a/10000:Nat):Int):=by
 rw[Jj (by omega) (by omega)];omega
def P7(h:a<4294967296):bu .u32 ((a:Int)/100)=((a/100:Nat):Int):=by
 rw[Jj (by omega) (by omega)];omega
def tw(h:a<4294967296):bu .u32 (a:Int)=(a:Int):=Jj (by omega) (by omega)
def G9(h:a<100):bu .u32 ((a:Int)*2)=((2*a:Nat):Int):=by rw[Jj (by omega) (by omega)];omega
def Ha(h:a<100):bu .u32 (((2*a:Nat):Int)+1)=((2*a+1:Nat):Int):=by rw[Jj (by omega) (by omega)];omega
def Yoa{L:Nat}{f0 f:Nat->V}{e:TypeId}(hT:o+L<=Z)(hL:L<100)(ff:n2<=ir)(hN:ir<N){rr:T V}(hf:Fx [(1,1),(4,11),(19,95)] rr 167 ⟨r,167,[]⟩)(r0:r.get 0=some (.slice ir o L cp 1))(a1:r.get 1=some (.int .u64 u))(ub:u<18446744073709551616)(s:G8 h N ir n2 Z o L x f0 e (k+8) u f r ⟨H,N,W⟩):
  Code A.C none A.mS ⟨r,167,[]⟩ ⟨H,N,W⟩ (fun ex fr st=>ex=.normal/\∃r' f',fr=⟨r',167,[]⟩/\Fx [(1,1),(4,11),(19,95)] rr 167 ⟨r',167,[]⟩/\r'.get 1=some (.int .u64 (u/100000000:Nat))/\G8 h N ir n2 Z o L x f0 e k (u/100000000) f' r' st):=by
 rw[bq]
 obtain⟨a4,_,aw,jG,ao,af⟩:=s
 simp only at aw jG ao
 have hle:=af.le
 have v8:=af.eight
 obtain⟨us,sQ⟩:∃y,u%100000000=y:=⟨_,rfl⟩
 obtain⟨uq,Es⟩:∃y,u/100000000=y:=⟨_,rfl⟩
 have t1:=tm8 (a:=u)
 have t2:=Yuh (a:=u) ub
 rw[sQ]at t1 v8
 rw[Es]at t2 v8
 have us0:us<100000000:=by omega
 have t3:=tw (a:=us) (by omega)
 obtain⟨hi,gH⟩:∃y,us/10000=y:=⟨_,rfl⟩
 obtain⟨lo,fL⟩:∃y,us%10000=y:=⟨_,rfl⟩
 have t4:=Yt4 (a:=us) (by omega)
 have t5:=tm4 (a:=us)
 rw[gH]at t4 v8
 rw[fL]at t5 v8
 have t6:=P7 (a:=hi) (by omega)
 have t7:=P6 (a:=hi)
 have t8:=P7 (a:=lo) (by omega)
 have t9:=P6 (a:=lo)
 obtain⟨p1,xh⟩:∃y,hi/100=y:=⟨_,rfl⟩
 obtain⟨p2,yz⟩:∃y,hi%100=y:=⟨_,rfl⟩
 obtain⟨p3,hp3⟩:∃y,lo/100=y:=⟨_,rfl⟩
 obtain⟨p4,hp4⟩:∃y,lo%100=y:=⟨_,rfl⟩
 rw[xh]at t6 v8
 rw[yz]at t7 v8
 rw[hp3]at t8 v8
 rw[hp4]at t9 v8
 have b1:p1<100:=by omega
 have m1:=G9 b1
 have Af:=Ha b1
 have d1:=G6 _ b1
 have g1:=G7 _ b1
 obtain⟨y1,rZ⟩:∃y,2*p1+1=y:=⟨_,rfl⟩
 rw[rZ]at Af d1
 obtain⟨z1,vj⟩:∃y,2*p1=y:=⟨_,rfl⟩
 rw[vj]at m1 Af g1
 have b2:p2<100:=by omega
 have m2:=G9 b2
 have Hb:=Ha b2
 have d2:=G6 _ b2
 have g2:=G7 _ b2
 obtain⟨y2,wY⟩:∃y,2*p2+1=y:=⟨_,rfl⟩
 rw[wY]at Hb d2
 obtain⟨z2,ed⟩:∃y,2*p2=y:=⟨_,rfl⟩
 rw[ed]at m2 Hb g2
 have b3:p3<100:=by omega
 have m3:=G9 b3
 have WH:=Ha b3
 have d3:=G6 _ b3
 have g3:=G7 _ b3
 obtain⟨y3,hy3⟩:∃y,2*p3+1=y:=⟨_,rfl⟩
 rw[hy3]at WH d3
 obtain⟨z3,CO⟩:∃y,2*p3=y:=⟨_,rfl⟩
 rw[CO]at m3 WH g3
 have b4:p4<100:=by omega
 have m4:=G9 b4
 have WI:=Ha b4
 have d4:=G6 _ b4
 have g4:=G7 _ b4
 obtain⟨y4,TH⟩:∃y,2*p4+1=y:=⟨_,rfl⟩
 rw[TH]at WI d4
 obtain⟨z4,yI⟩:∃y,2*p4=y:=⟨_,rfl⟩
 rw[yI]at m4 WI g4
 have e1:(k:Int)+8-1=(k:Int)+7:=by omega
 have e2:(k:Int)+8-2=(k:Int)+6:=by omega
 have e3:(k:Int)+8-3=(k:Int)+5:=by omega
 have e4:(k:Int)+8-4=(k:Int)+4:=by omega
 have e5:(k:Int)+8-5=(k:Int)+3:=by omega
 have e6:(k:Int)+8-6=(k:Int)+2:=by omega
 have e7:(k:Int)+8-7=(k:Int)+1:=by omega
 have e8:(k:Int)+8-8=(k:Int):=by omega
 have f1:((k:Int)+7).toNat=k+7:=by omega
 have f2:((k:Int)+6).toNat=k+6:=by omega
 have f3:((k:Int)+5).toNat=k+5:=by omega
 have f4:((k:Int)+4).toNat=k+4:=by omega
 have f5:((k:Int)+3).toNat=k+3:=by omega
 have f6:((k:Int)+2).toNat=k+2:=by omega
 have f7:((k:Int)+1).toNat=k+1:=by omega
 have c8:(8:Int)<=(k:Int)+8:=by omega
 have vn:¬N<=ir:=by omega
 have ir0:∀t,(T.set H ir t).get ir=some t:=fun t=>by rw[T.ag,aF rfl]
 simp(disch:=first|(simp;done)|omega|(simp only[bI,cC,bD];omega)|rfl) [A.mS,hf,r0,a1,a4,c8,jG,hN,Mp,t1,t2,t3,t4,t5,t6,t7,t8,t9,m1,m2,m3,m4,Af,Hb,WH,WI,d1,d2,d3,d4,g1,g2,g3,g4,e1,e2,e3,e4,e5,e6,e7,e8,f1,f2,f3,f4,f5,f6,f7]
 subst Es
 refine⟨by omega,_,⟨by simp,rfl,by simpa[ax,sH.2 ff]using aw,by simp only[T.ag,aF];rfl,fun t ht=>by simp only[T.ag,ar ht];exact ao t ht,v8⟩⟩
structure WJ (h:T O) (N ir n2 Z o L x:Nat) (f0:Nat->V) (e:TypeId) (st:St):Prop where
 n:st.n=N
 w:ax n2 st.w=[]
 Mq:∀t,t≠ir->st.h.get t=h.get t
 ex:∃f,st.h.get ir=some (.cells (vC Z f) e true)/\(∀j,j<L->f (o+j)=vB (dc (x/10^(L-1-j))))/\∀j,j<o\/o+L<=j->f j=f0 j
def Ypz(h:u<10):V.int .u8 (48+(u:Int))=vB (dc u):=by
 unfold vB cK
 rw[Gz]
 congr 1;omega
def Yrd{L:Nat}{f0 f:Nat->V}{e:TypeId}(hZ:o+L<=Z)(ff:n2<=ir)(hN:ir<N)(hi:i<2)(hu:u<10^i)(r0:r.get 0=some (.slice ir o L cp 1))(CG:r.get 12=some (.int .u32 u))(s:G8 h N ir n2 Z o L x f0 e i u f r ⟨H,N,W⟩):
  Code A.C none A.mT ⟨r,167,[]⟩ ⟨H,N,W⟩ (fun ex fr st=>ex=.normal/\∃r',fr=⟨r',167,[]⟩/\WJ h N ir n2 Z o L x f0 e st):=by
 rw[bq]
 obtain⟨a4,_,aw,jG,ao,af⟩:=s
 simp only at aw jG ao
 have hle:=af.le
 obtain rfl|rfl:i=0\/i=1:=by omega
 ·simp[A.mT,a4]
  exact⟨rfl,aw,ao,f,jG,fun j hj=>af.WG j (tH _) hj,af.out⟩
 ·have mE:u<10:=by omega
  have e1:bu .u32 (48+(u:Int))=48+(u:Int):=Jj (by omega) (by omega)
  have e2:bu .u8 (48+(u:Int))=48+(u:Int):=AY (by omega) (by omega)
  have hL:(0:Int)<(L:Int):=by omega
  simp(disch:=omega) [A.mT,r0,a4,CG,e1,e2,jG,Mp]
  have v:=oO.one (i:=0) af (c:=dc u) rfl
  rw[<-Ypz mE,ka]at v
  exact⟨rfl,by simpa[ax,sH.2 ff]using aw,fun t ht=>by rw[T.ag,ar ht];exact ao t ht,_,by rw[T.ag,aF rfl],fun j hj=>v.WG j (tH _) hj,v.out⟩
def Yrc{L:Nat}{f0 f:Nat->V}{e:TypeId}(hZ:o+L<=Z)(ff:n2<=ir)(hN:ir<N)(hi:i<4)(hu:u<10^i)(r0:r.get 0=some (.slice ir o L cp 1))(CG:r.get 12=some (.int .u32 u))(s:G8 h N ir n2 Z o L x f0 e i u f r ⟨H,N,W⟩):
  Code A.C none A.mU ⟨r,167,[]⟩ ⟨H,N,W⟩ (fun ex fr st=>ex=.normal/\∃r',fr=⟨r',167,[]⟩/\WJ h N ir n2 Z o L x f0 e st):=by
 rw[bq]
 have s0:=s
 obtain⟨a4,_,aw,jG,ao,af⟩:=s
 simp only at aw jG ao
 have hle:=af.le
 by_cases hc:i<2
 ·have c1:¬(2:Int)<=(i:Int):=by omega
  simp[A.mU,a4,c1]
  refine jZ (Yrd (i:=i) (u:=u) (f:=f) (cp:=cp) hZ ff hN hc hu (by simp[r0]) (by simp[CG]) ⟨by simp[a4],rfl,aw,jG,ao,af⟩) ?_
  rintro ex fr st ⟨rfl,r',rfl,hE⟩
  simp
  exact hE
 ·obtain⟨k,rfl⟩:∃k,i=k+2:=⟨i-2,by omega⟩
  have Mr:u<10000:=by
   have:10^(k+2)<=10^4:=sK (by decide) (by omega)
   omega
  have c1:(2:Int)<=(k:Int)+2:=by omega
  have vn:¬N<=ir:=by omega
  have t6:=P7 (a:=u) (by omega)
  have t7:=P6 (a:=u)
  have v:=oO.two (i:=k) af (c:=dc (u%100)) (d:=dc (u%100/10)) (xj (by omega)) (xj (by omega))
  have fu:u/100<10^k:=by
   rw[pz (by decide)]
   rw[kQ]at hu
   exact hu
  obtain⟨uq,Es⟩:∃y,u/100=y:=⟨_,rfl⟩
  obtain⟨p1,xh⟩:∃y,u%100=y:=⟨_,rfl⟩
  rw[Es]at t6 v fu
  rw[xh]at t7 v
  have b1:p1<100:=by omega
  have m1:=G9 b1
  have Af:=Ha b1
  have d1:=G6 _ b1
  have g1:=G7 _ b1
  obtain⟨y1,rZ⟩:∃y,2*p1+1=y:=⟨_,rfl⟩
  rw[rZ]at Af d1
  obtain⟨z1,vj⟩:∃y,2*p1=y:=⟨_,rfl⟩
  rw[vj]at m1 Af g1
  have e1:(k:Int)+2-1=(k:Int)+1:=by omega
  have e2:(k:Int)+2-2=(k:Int):=by omega
  have f1:((k:Int)+1).toNat=k+1:=by omega
  have hI:∀t n,(((H.set ir t).set ir n):T O).get ir=some n:=fun t n=>by rw[T.ag,aF rfl]
  simp(disch:=first|(simp;done)|omega|(simp only[bI,cC,bD];omega)|rfl) [A.mU,r0,a4,CG,c1,jG,hN,Mp,t6,t7,m1,Af,d1,g1,e1,e2,f1]
  refine jZ (Yrd (i:=k) (u:=uq) (cp:=cp) (e:=e) hZ ff hN (by omega) fu (by simp[r0]) (by simp) ⟨by simp,rfl,by simpa[ax,sH.2 ff]using aw,by simp only[T.ag,aF];rfl,fun t ht=>by simp only[T.ag,ar ht];exact ao t ht,v⟩) ?_
  rintro ex fr st ⟨rfl,r',rfl,hE⟩
  simp
  exact hE
def oO.four{T L:Nat}{f0 f:Nat->V}(s:oO T o L x (i+4) u f0 f):oO T o L x i (u/10000) f0
  (kX (kX (kX (kX f (o+(i+3)) (vB (dc (u%10000%100)))) (o+(i+2)) (vB (dc (u%10000%100/10)))) (o+(i+1)) (vB (dc (u%10000/100)))) (o+i) (vB (dc (u%10000/100/10)))):=by
 have s1:=oO.two (i:=i+2) s (c:=dc (u%10000%100)) (d:=dc (u%10000%100/10)) (xj (by omega)) (xj (by omega))
 have s2:=oO.two (i:=i) s1 (c:=dc (u%10000/100)) (d:=dc (u%10000/100/10)) (xj (by omega)) (xj (by omega))
 rw[show u/100/100=u/10000 by omega]at s2
 exact s2
def Ytv{L:Nat}{f0 f:Nat->V}{e:TypeId}(hZ:o+L<=Z)(ff:n2<=ir)(hN:ir<N)(hi:i<8)(hu:u<10^i)(r0:r.get 0=some (.slice ir o L cp 1))(CG:r.get 12=some (.int .u32 u))(s:G8 h N ir n2 Z o L x f0 e i u f r ⟨H,N,W⟩):
  Code A.C none A.mV ⟨r,167,[]⟩ ⟨H,N,W⟩ (fun ex fr st=>ex=.normal/\∃r',fr=⟨r',167,[]⟩/\WJ h N ir n2 Z o L x f0 e st):=by
 rw[bq]
 obtain⟨a4,_,aw,jG,ao,af⟩:=s
 simp only at aw jG ao
 have hle:=af.le
 by_cases hc:i<4
 ·have c1:¬(4:Int)<=(i:Int):=by omega
  simp[A.mV,a4,c1]
  refine jZ (Yrc (i:=i) (u:=u) (f:=f) (cp:=cp) hZ ff hN hc hu (by simp[r0]) (by simp[CG]) ⟨by simp[a4],rfl,aw,jG,ao,af⟩) ?_
  rintro ex fr st ⟨rfl,r',rfl,hE⟩
  simp
  exact hE
 ·obtain⟨k,rfl⟩:∃k,i=k+4:=⟨i-4,by omega⟩
  have Mr:u<100000000:=by
   have:10^(k+4)<=10^8:=sK (by decide) (by omega)
   omega
  have c1:(4:Int)<=(k:Int)+4:=by omega
  have vn:¬N<=ir:=by omega
  have t4:=Yt4 (a:=u) (by omega)
  have t5:=tm4 (a:=u)
  have v:=af.four
  have fu:u/10000<10^k:=by
   rw[pz (by decide)]
   rw[kQ]at hu
   exact hu
  obtain⟨uq,Es⟩:∃y,u/10000=y:=⟨_,rfl⟩
  obtain⟨lo,fL⟩:∃y,u%10000=y:=⟨_,rfl⟩
  rw[Es]at t4 v fu
  rw[fL]at t5 v
  have t6:=P7 (a:=lo) (by omega)
  have t7:=P6 (a:=lo)
  obtain⟨p1,xh⟩:∃y,lo/100=y:=⟨_,rfl⟩
  obtain⟨p2,yz⟩:∃y,lo%100=y:=⟨_,rfl⟩
  rw[xh]at t6 v
  rw[yz]at t7 v
  have b1:p1<100:=by omega
  have m1:=G9 b1
  have Af:=Ha b1
  have d1:=G6 _ b1
  have g1:=G7 _ b1
  obtain⟨y1,rZ⟩:∃y,2*p1+1=y:=⟨_,rfl⟩
  rw[rZ]at Af d1
  obtain⟨z1,vj⟩:∃y,2*p1=y:=⟨_,rfl⟩
  rw[vj]at m1 Af g1
  have b2:p2<100:=by omega
  have m2:=G9 b2
  have Hb:=Ha b2
  have d2:=G6 _ b2
  have g2:=G7 _ b2
  obtain⟨y2,wY⟩:∃y,2*p2+1=y:=⟨_,rfl⟩
  rw[wY]at Hb d2
  obtain⟨z2,ed⟩:∃y,2*p2=y:=⟨_,rfl⟩
  rw[ed]at m2 Hb g2
  have e1:(k:Int)+4-1=(k:Int)+3:=by omega
  have e2:(k:Int)+4-2=(k:Int)+2:=by omega
  have e3:(k:Int)+4-3=(k:Int)+1:=by omega
  have e4:(k:Int)+4-4=(k:Int):=by omega
  have f1:((k:Int)+3).toNat=k+3:=by omega
  have f2:((k:Int)+2).toNat=k+2:=by omega
  have f3:((k:Int)+1).toNat=k+1:=by omega
  simp(disch:=first|(simp;done)|omega|(simp only[bI,cC,bD];omega)|rfl) [A.mV,r0,a4,CG,c1,jG,hN,Mp,t4,t5,t6,t7,m1,Af,d1,g1,m2,Hb,d2,g2,e1,e2,e3,e4,f1,f2,f3]
  refine jZ (Yrc (i:=k) (u:=uq) (cp:=cp) (e:=e) hZ ff hN (by omega) fu (by simp[r0]) (by simp) ⟨by simp,rfl,by simpa[ax,sH.2 ff]using aw,by simp only[T.ag,aF];rfl,fun t ht=>by simp only[T.ag,ar ht];exact ao t ht,v⟩) ?_
  rintro ex fr st ⟨rfl,r',rfl,hE⟩
  simp
  exact hE
def Code.mono{C:Cx}{ro:Option Nat}{c:av}{fr:Fr}{st:St}{P Q:Ex->Fr->St->Prop}(h:Code C ro c fr st P)(k:∀e fr st,P e fr st->Q e fr st):Code C ro c fr st Q:=by
 rw[bq]
 refine jZ h ?_
 intro e fr st hp
 simp
 exact k _ _ _ hp
structure FbR (h:T O) (N ir n2 Z o L x:Nat) (f0:Nat->V) (e:TypeId) (w:List Nat) (st:St):Prop where
 n:st.n=N
 w:ax n2 st.w=ax n2 w
 Mq:∀t,t≠ir->st.h.get t=h.get t
 ex:∃f,st.h.get ir=some (.cells (vC Z f) e true)/\(∀j,j<L->f (o+j)=vB (dc (x/10^(L-1-j))))/\∀j,j<o\/o+L<=j->f j=f0 j
def WK{L:Nat}{f0:Nat->V}{e:TypeId}{w:List Nat}(hZ:o+L<=Z)(hL:L<100)(ff:n2<=ir)(hN:ir<N)(hx:x<10^L)(Hd:x<18446744073709551616)(hr:h.get ir=some (.cells (vC Z f0) e true)):
  Call A.C (.func 278 [] []) [.slice ir o L cp 1,.int .u64 x] ⟨h,N,w⟩ (fun _ st=>FbR h N ir n2 Z o L x f0 e w st):=by
 rw[aO,A.k278 (by simp)]
 simp[A.b278]
 refine bP [(1,1),(4,11),(19,95)] (fun ex r st=>ex=.exit 0/\∃(i u:Nat) (f:Nat->V),i<8/\u<10^i/\r.get 1=some (.int .u64 u)/\G8 h N ir n2 Z o L x f0 e i u f r st) (fun i r st=>∃(u:Nat) (f:Nat->V),u<10^i/\u<18446744073709551616/\r.get 1=some (.int .u64 u)/\G8 h N ir n2 Z o L x f0 e i u f r st) L ?_ ?_ ?_
 ·refine⟨x,f0,hx,Hd,by simp,by simp,rfl,by simp[ax],hr,fun t _=>rfl,⟨aW _,by simp,fun j h1 h2=>by omega,fun j _=>rfl⟩⟩
 ·rintro i r ⟨H,n1,W⟩ hr hf ⟨u,f,hu,He,a1,J⟩
  have hn:=J.n
  simp only at hn
  subst hn
  have r0:r.get 0=some (.slice ir o L cp 1):=by rw[hr 0 (by decide)];simp
  by_cases h8:i<8
  ·have c8:¬(8:Int)<=(i:Int):=by omega
   have a4:=J.r4
   rw[bq]
   simp[A.mS,hf,a4,c8]
   exact⟨i,h8,u,hu,by simp[a1],f,⟨by simp[a4],J.n,J.w,J.row,J.Mq,J.fmt⟩⟩
  ·obtain⟨k,rfl⟩:∃k,i=k+8:=⟨i-8,by omega⟩
   refine Code.mono (Yoa hZ hL ff hN hf r0 a1 He J) ?_
   rintro ex fr st ⟨rfl,r',f',rfl,zW,tU,J'⟩
   refine Ztx.2 ⟨zW,k,by omega,_,f',?_,by omega,tU,J'⟩
   rw[pz (by decide)]
   rw[kQ]at hu
   exact hu
 ·rintro ex r ⟨H,n1,W⟩ hr ⟨rfl,i,u,f,h8,hu,a1,J⟩
  have hn:=J.n
  simp only at hn
  subst hn
  have hu7:u<4294967296:=by
   have:10^i<=10^7:=sK (by decide) (by omega)
   omega
  have e1:=tw hu7
  simp[a1,e1]
  refine jZ (Ytv (i:=i) (u:=u) (f:=f) (cp:=cp) (e:=e) (H:=H) (W:=W) hZ ff hN h8 hu (by simp;rw[hr 0 (by decide)];simp) (by simp) ⟨by simpa using J.r4,rfl,J.w,J.row,J.Mq,J.fmt⟩) ?_
  rintro ex fr ⟨H2,ph,W2⟩ ⟨rfl,r',rfl,hn,hW,hO,hE⟩
  simp only at hn
  subst hn
  simp[]
  exact⟨rfl,by rw[LP (LQ hW)],hO,hE⟩
variable {j o x:Nat}
set_option maxHeartbeats 1000000
def A.b253:av:=sr [ge 4 (.ba (.const (.str [])))]
 (.seq (sr [mv 9 1,ei 10 9 10]
 (cd 10
 (.seq (sr [mv 11 0,ge 12 (.bin .lss (.node []) false (tq 11) (.const (.int .u64 100)))]
 (cd 12
 (sr [mv 13 0,ge 14 (.bj .i64 (tq 13)),c1 15 276 14,mv 4 15]
 (.ret))
 (.skip)))
 (sr [ge 5 (.alloc [.int .u8 0,.int .u8 0,.int .u8 0,.int .u8 0,.int .u8 0,.int .u8 0,.int .u8 0,.int .u8 0,.int .u8 0,.int .u8 0,.int .u8 0,.int .u8 0,.int .u8 0,.int .u8 0,.int .u8 0,.int .u8 0,.int .u8 0,.int .u8 0,.int .u8 0,.int .u8 0,.int .u8 0,.int .u8 0,.int .u8 0,.int .u8 0] 265)]
 (sr [mv 16 0,c1 17 277 16,mv 6 17]
 (sr [mv 18 6,ge 19 (.du 24 1 (tq 5) none (some (tq 18)) none),mv 20 0,c2 21 278 19 20]
 (sr [mv 22 6,ge 23 (.du 24 1 (tq 5) none (some (tq 22)) none),ge 24 (.fx (tq 23)),mv 4 24]
 (.ret))))))
 (.skip)))
 (sr [mv 26 0,mv 27 1,ge 28 (.call (fq 279) [.const .aa,tq 26,tq 27,.const (.bool false),.const (.bool false)]),mv 25 28,xt 29 25 0,xt 30 25 1,mv 7 29,mv 8 30]
 (sr [mv 31 8,mv 4 31]
 (.ret))))
def A.c253:A.F 253=some ⟨32,[.tmp 4],A.b253⟩:=by kernel_rfl
def A.k253:=@A.kk 253 _ _ _ A.c253 rfl
def A.b275:av:=sr [ge 4 (.ba (.const (.str [])))]
 (.seq (sr [mv 10 1,ei 11 10 10]
 (cd 11
 (.seq (sr [mv 12 0,ge 13 (.bin .leq (.node []) false (kq 0) (tq 12)),mv 14 13,mg 15 0 14,gy 16 14 (.bin .lss (.node []) false (tq 15) (kq 100)),pf 17 14 16]
 (cd 17
 (sr [mv 18 0,c1 19 276 18,mv 4 19]
 (.ret))
 (.skip)))
 (sr [ge 5 (.alloc [.int .u8 0,.int .u8 0,.int .u8 0,.int .u8 0,.int .u8 0,.int .u8 0,.int .u8 0,.int .u8 0,.int .u8 0,.int .u8 0,.int .u8 0,.int .u8 0,.int .u8 0,.int .u8 0,.int .u8 0,.int .u8 0,.int .u8 0,.int .u8 0,.int .u8 0,.int .u8 0,.int .u8 0,.int .u8 0,.int .u8 0,.int .u8 0] 265)]
 (sr [mv 20 0,ge 21 (.bj .u64 (tq 20)),mv 6 21]
 (.seq (sr [mv 22 0,bc 23 .lss 22 0]
 (cd 23
 (.aR [mv 24 6,ge 25 (.un .neg (tq 24)),mv 6 25])
 (.skip)))
 (sr [mv 26 6,c1 27 277 26,mv 7 27]
 (sr [mv 28 7,ge 29 (.bin .add (.node []) false (kq 1) (tq 28)),ge 30 (.du 24 1 (tq 5) (some (kq 1)) (some (tq 29)) none),mv 31 6,c2 32 278 30 31]
 (.seq (sr [mv 33 0,bc 34 .lss 33 0]
 (cd 34
 (sr [ge 35 (.cr 24 1 (tq 5) (kq 0)),gn (.store 1 (tq 35) (.const (.int .u8 45)))]
 (sr [mv 36 7,ge 37 (.bin .add (.node []) false (kq 1) (tq 36)),ge 38 (.du 24 1 (tq 5) none (some (tq 37)) none),ge 39 (.fx (tq 38)),mv 4 39]
 (.ret)))
 (.skip)))
 (sr [mv 40 7,ge 41 (.bin .add (.node []) false (kq 1) (tq 40)),ge 42 (.du 24 1 (tq 5) (some (kq 1)) (some (tq 41)) none),ge 43 (.fx (tq 42)),mv 4 43]
 (.ret)))))))))
 (.skip)))
 (sr [mv 45 0,ge 46 (.bj .u64 (tq 45)),mv 47 1,mv 48 0,bc 49 .lss 48 0,ge 50 (.call (fq 279) [.const .aa,tq 46,tq 47,tq 49,.const (.bool false)]),mv 44 50,xt 51 44 0,xt 52 44 1,mv 8 51,mv 9 52]
 (sr [mv 53 9,mv 4 53]
 (.ret))))
def A.c275:A.F 275=some ⟨54,[.tmp 4],A.b275⟩:=by kernel_rfl
def A.k275:=@A.kk 275 _ _ _ A.c275 rfl
def A.b248:av:=sr [ge 2 (.ba (.const (.str [])))]
 (sr [mv 3 0,ge 4 (.call (fq 275) [tq 3,.const (.int .i64 10)]),mv 2 4]
 (.ret))
def A.c248:A.F 248=some ⟨5,[.tmp 2],A.b248⟩:=by kernel_rfl
def A.k248:=@A.kk 248 _ _ _ A.c248 rfl
def A.b211:av:=sr [ge 2 (.ba (.const (.str [])))]
 (sr [mv 3 0,c1 4 248 3,mv 2 4]
 (.ret))
def A.c211:A.F 211=some ⟨5,[.tmp 2],A.b211⟩:=by kernel_rfl
def A.k211:=@A.kk 211 _ _ _ A.c211 rfl
def A.b213:av:=sr [ge 4 (.ba (.const (.str [])))]
 (sr [mv 5 0,mv 6 1,c2 7 253 5 6,mv 4 7]
 (.ret))
def A.c213:A.F 213=some ⟨8,[.tmp 4],A.b213⟩:=by kernel_rfl
def A.k213:=@A.kk 213 _ _ _ A.c213 rfl
def Yi9:∀{x:Nat},(j:Nat)->j<(di x).length->(di x)[j]?=some (dc (x/10^((di x).length-1-j))):=by
 intro x
 induction x using Nat.strongRecOn with
 |_ x ih=>
  intro j hj
  by_cases h0:x=0
  ·subst h0;rw[tf]at hj;simp at hj
  ·have e:=xc h0
   have hl:(di x).length=(di (x/10)).length+1:=by rw[e];simp
   rw[hl]
   rw[e]
   by_cases nM:j<(di (x/10)).length
   ·rw[lE nM,ih _ (BS (by omega) (by decide)) j nM,FK]
    congr 3
    rw[show (di (x/10)).length+1-1-j=((di (x/10)).length-1-j)+1 by omega,gE,iX]
   ·have:j=(di (x/10)).length:=by omega
    subst this
    simp
def WL{L:Nat}{f:Nat->V}(hL:L=(di x).length)(hf:∀j,j<L->f (o+j)=vB (dc (x/10^(L-1-j)))):(List.range L).map (fun j=>f (o+j))=(di x).map vB:=by
 apply nD
 intro j
 rw[gG,gG]
 by_cases hj:j<L
 ·rw[FG hj,Yi9 j (by omega),<-hL]
  simp[hf j hj]
 ·rw[fC (by simpa using hj),fC (by omega)]
  rfl
def WM{Z L:Nat}{f:Nat->V}(h:o+L<=Z):aE (vC Z f) o L=some ((List.range L).map fun j=>f (o+j)):=by
 unfold aE
 rw[Ae,aF h]
 congr 1
 apply nD
 intro j
 rw[iy,gG]
 by_cases hj:j<L
 ·rw[aF hj,fh,P5 (by omega),FG hj];rfl
 ·rw[ar hj,fC (by simpa using hj)];rfl
def P8:V->Option UInt8
 |.int .u8 n=>some (UInt8.ofNat n.toNat)
 |_=>none
def Ms(st:St):Option (List V)->Option (V×St)
 |some l=>match l.mapM P8 with
  |some s=>some (.str s,st)
  |none=>none
 |none=>none
def P9(st:St)(o len:Nat):Option (List V×TypeId×Bool)->Option (V×St)
 |some (c,_,_)=>Ms st (aE c o len)
 |none=>none
def WN(st:St):Option V->Option (V×St)
 |some .aa=>some (.str [],st)
 |some (.slice i o len _ 1)=>P9 st o len (st.row i)
 |_=>none
def WO{x:Src}{call:cG}{r:T V}{st:St}:F0 x call r st=WN st (x.ev r):=by
 unfold F0 WN P9 Ms
 rfl
def WQ{st:St}{i len:Nat}{c:Option Nat}:WN st (some (.slice i o len c 1))=P9 st o len (st.row i):=rfl
def WR{st:St}{len:Nat}{c:List V}{e:TypeId}{b:Bool}:P9 st o len (some (c,e,b))=Ms st (aE c o len):=rfl
def WS{st:St}:∀{s:aQ},Ms st (some (s.map vB))=some (.str s,st):=by
 intro s
 have:(s.map vB).mapM P8=some s:=by
  induction s with
  |nil=>rfl
  |cons c s ih=>
   rw[my,List.mapM_cons,ih]
   have:P8 (vB c)=some c:=by simp[P8,vB,cK]
   simp[this]
 simp only[Ms,this]
def Ytx:∀j:Nat,j<10->(List.take (j+1) WC).drop j=[dc j]:=by decide+kernel
def Yrn:∀j:Nat,j<100->(List.take (2*j+2) qO).drop (2*j)=[dc (j/10),dc j]:=by decide+kernel
def Yah:WC.length=36:=by decide+kernel
def Yey:qO.length=200:=by decide+kernel
def Ye2(h:j<10):aq j=[dc j]:=by
 unfold aq
 split
 ·subst j;rfl
 ·rw[xc (by assumption),show j/10=0 by omega,tf];rfl
def Yai(h:j<100)(h2:10<=j):aq j=[dc (j/10),dc j]:=by
 unfold aq
 rw[ar (by omega),xc (by omega),xc (by omega),show j/10/10=0 by omega,tf];rfl
def Zv8(hj:j<100){h:T O}{N:Nat}:Fn A.C 276 [.int .i64 j] h N (fun v h' N'=>h'=h/\N'=N/\v=.str (aq j)):=by
 intro w
 rw[aO,A.k276 (by simp)]
 by_cases c:j<10
 ·have e1:=Ytx j c
  have e2:(j:Int)+1<=36:=by omega
  have e3:((j:Int)+1).toNat=j+1:=by omega
  have e4:(j:Int)<10:=by omega
  have e5:(0:Int)<=(j:Int)+1:=by omega
  have e8:(j:Int)<=(j:Int)+1:=by omega
  simp(disch:=omega) [A.b276,e4,yt,aC,dB,ki,Yah,e1,e2,e3,e5,e8,az,Ye2 c]
  exact ab.refl
 ·have e1:=Yrn j hj
  have e4:¬(j:Int)<10:=by omega
  have e2:(j:Int)*2+2<=200:=by omega
  have e3:((j:Int)*2+2).toNat=2*j+2:=by omega
  have e5:(0:Int)<=(j:Int)*2+2:=by omega
  have e6:(0:Int)<=(j:Int)*2:=by omega
  have e8:(j:Int)*2<=2*(j:Int)+2:=by omega
  have e7:((j:Int)*2).toNat=2*j:=by omega
  simp(disch:=omega) [A.b276,e4,yt,aC,dB,ki,Yey,e1,e2,e3,e5,e6,e7,e8,az,Yai hj (sH.1 c)]
  exact ab.refl
def WT:[V.int .u8 0,V.int .u8 0,V.int .u8 0,V.int .u8 0,V.int .u8 0,V.int .u8 0,V.int .u8 0,V.int .u8 0,V.int .u8 0,V.int .u8 0,V.int .u8 0,V.int .u8 0,V.int .u8 0,V.int .u8 0,V.int .u8 0,V.int .u8 0,V.int .u8 0,V.int .u8 0,V.int .u8 0,V.int .u8 0,V.int .u8 0,V.int .u8 0,V.int .u8 0,V.int .u8 0]=vC 24 (fun _=>.int .u8 0):=rfl
def Zp7(hx:x<18446744073709551616):(di x).length<=20:=pd.1 (by omega)
def Hf(h:x≠0):aq x=di x:=by unfold aq;rw[ar h]
def Yts(hx:x<18446744073709551616){h:T O}{N:Nat}(hp:kJ h N):Fn A.C 253 [.int .u64 x,.int .i64 10] h N (fun v h' N'=>v=.str (aq x)):=by
 intro w
 rw[aO,A.k253 (by simp)]
 by_cases c:x<100
 ·have c1:(x:Int)<100:=by omega
  have e1:bu .i64 (x:Int)=(x:Int):=cF (by omega) (by omega)
  simp[A.b253,c1,e1]
  refine aA (Zv8 c) ?_
  rintro _ _ _ _ ⟨rfl,rfl,rfl⟩
  simp[az]
  exact ab.refl
 ·have c1:¬(x:Int)<100:=by omega
  simp[A.b253,c1,WT]
  refine aA (WE hx (by omega) (hp.ae (aP ab.refl _))) ?_
  rintro _ _ _ _ ⟨rfl,rfl,rfl⟩
  have hl:=Zp7 hx
  obtain⟨L,hL⟩:∃L,(di x).length=L:=⟨_,rfl⟩
  have Qa:x<10^L:=pd.2 (by omega)
  have e2:(L:Int)<=24:=by omega
  rw[hL]
  rw[hL]at hl
  simp[zr,aC,dB,ki,e2,Ae]
  refine zy (WK (n2:=N) (Z:=24) (o:=0) (x:=x) (f0:=fun _=>.int .u8 0) (e:=265) (by omega) (by omega) (aW N) (uG N) Qa hx (by rw[T.ag,aF rfl])) ?_
  rintro v ⟨H2,n2,W2⟩ ⟨hn,hW,hO,f,hr,hd,_⟩
  simp only at hn hW hO hr
  subst hn
  have cE:=WM (f:=f) (show 0+L<=24 by omega)
  rw[WL hL.symm hd]at cE
  simp[zr,aC,dB,ki,e2,Ae,WO,WQ,WR,hr,cE,WS,az]
  have qP:ax N W2=[]:=hW
  rw[qP,Hf (by omega)]
  refine⟨rfl,⟨uz _,fun i hi=>?_⟩,rfl⟩
  rw[hO i (by omega),T.ag,ar (by omega)]
def Yks(hx:x<18446744073709551616){h:T O}{N:Nat}(hp:kJ h N):Fn A.C 213 [.int .u64 x,.int .i64 10] h N (fun v h' N'=>v=.str (aq x)):=by
 intro w
 rw[aO,A.k213 (by simp)]
 simp[A.b213]
 refine aA (Yts hx hp) ?_
 rintro _ _ _ k1 rfl
 simp[az]
 exact k1
def Ytt{z:Int}(h1: -9223372036854775808<=z)(h2:z<9223372036854775808){h:T O}{N:Nat}(hp:kJ h N):Fn A.C 275 [.int .i64 z,.int .i64 10] h N (fun v h' N'=>v=.str (aN z)):=by
 intro w
 rw[aO,A.k275 (by simp)]
 by_cases c:0<=z/\z<100
 ·obtain⟨j,rfl⟩:=Du c.1
  have c1:(j:Int)<100:=c.2
  have hj:aN (j:Int)=aq j:=by unfold aN;rw[ar (by omega)];rfl
  simp[A.b275,c1]
  refine aA (Zv8 (by omega)) ?_
  rintro _ _ _ _ ⟨rfl,rfl,rfl⟩
  simp[az,hj]
  exact ab.refl
 ·have hx:z.natAbs<18446744073709551616:=by omega
  have oM:z.natAbs≠0:=by omega
  obtain⟨x,WU⟩:∃x,z.natAbs=x:=⟨_,rfl⟩
  have hl:=Zp7 (WU▸hx)
  obtain⟨L,hL⟩:∃L,(di x).length=L:=⟨_,rfl⟩
  have Qa:x<10^L:=pd.2 (by omega)
  have hL0:0<L:=by rw[<-hL];exact Ztk (by omega)
  rw[hL]at hl
  have e2:(L:Int)+1<=24:=by omega
  have e3:(0:Int)<=(L:Int)+1:=by omega
  have e4:((L:Int)+1).toNat=L+1:=by omega
  have e5:(1:Int)<=(L:Int)+1:=by omega
  have e6:(1:Int)+(L:Int)=(L:Int)+1:=by omega
  by_cases hz:z<0
  ·have c2:¬0<=z:=by omega
   have w1:IntKind.wrap .u64 (-(bu .u64 z))=(x:Int):=by rw[I7,I8];omega
   simp[A.b275,c2,hz,WT,w1]
   refine aA (WE (x:=x) (by omega) (by omega) (hp.ae (aP ab.refl _))) ?_
   rintro _ _ _ _ ⟨rfl,rfl,rfl⟩
   rw[hL]
   simp(disch:=omega) [zr,aC,dB,ki,e2,e3,e4,e5,e6,Ae]
   refine zy (WK (n2:=N) (Z:=24) (o:=1) (x:=x) (f0:=fun _=>.int .u8 0) (e:=265) (by omega) (by omega) (aW N) (uG N) Qa (by omega) (by rw[T.ag,aF rfl])) ?_
   rintro v ⟨H2,n2,W2⟩ ⟨hn,hW,hO,f,hr,hd,_⟩
   simp only at hn hW hO hr
   subst hn
   have qP:ax N W2=[]:=hW
   have cE:=WM (f:=kX f 0 (.int .u8 45)) (show 0+(L+1)<=24 by omega)
   have eX:(List.range (L+1)).map (fun j=>kX f 0 (.int .u8 45) (0+j))=(45::di x).map vB:=by
    rw[List.range_succ_eq_map,my,List.map_map,my,<-WL hL.symm hd]
    congr 1
    apply AA
    intro j _
    show kX f 0 _ (0+(j+1))=_
    rw[kX,ar (by omega)]
    congr 1;omega
   rw[eX]at cE
   have Bj:aN z=45::di x:=by unfold aN;rw[aF hz,WU,Hf (by omega)]
   obtain⟨S,hS⟩:∃S,45::di x=S:=⟨_,rfl⟩
   rw[hS]at cE Bj
   simp(disch:=omega) [zr,BX,aC,dB,ki,e2,e3,e4,e6,Ae,WO,WQ,WR,hr,hz,Mp,cE,WS,az,Bj,qP]
   refine⟨uz _,fun i hi=>?_⟩
   rw[T.ag,ar (by omega),hO i (by omega),T.ag,ar (by omega)]
  ·have c2:0<=z:=by omega
   have c3:¬z<100:=by omega
   have w1:bu .u64 z=(x:Int):=by rw[Ej (by omega) (by omega)];omega
   simp[A.b275,c2,c3,hz,WT,w1]
   refine aA (WE (x:=x) (by omega) (by omega) (hp.ae (aP ab.refl _))) ?_
   rintro _ _ _ _ ⟨rfl,rfl,rfl⟩
   rw[hL]
   simp(disch:=omega) [zr,aC,dB,ki,e2,e3,e4,e5,e6,Ae]
   refine zy (WK (n2:=N) (Z:=24) (o:=1) (x:=x) (f0:=fun _=>.int .u8 0) (e:=265) (by omega) (by omega) (aW N) (uG N) Qa (by omega) (by rw[T.ag,aF rfl])) ?_
   rintro v ⟨H2,n2,W2⟩ ⟨hn,hW,hO,f,hr,hd,_⟩
   simp only at hn hW hO hr
   subst hn
   have qP:ax N W2=[]:=hW
   have cE:=WM (f:=f) (show 1+L<=24 by omega)
   rw[WL hL.symm hd]at cE
   have Bj:aN z=di x:=by unfold aN;rw[ar hz,WU,Hf (by omega)]
   simp(disch:=omega) [zr,aC,dB,ki,e2,e3,e4,e5,e6,Ae,WO,WQ,WR,hr,hz,cE,WS,az,Bj,qP]
   refine⟨uz _,fun i hi=>?_⟩
   rw[hO i (by omega),T.ag,ar (by omega)]
def Ynw{z:Int}(h1: -9223372036854775808<=z)(h2:z<9223372036854775808){h:T O}{N:Nat}(hp:kJ h N):Fn A.C 211 [.int .i64 z] h N (fun v h' N'=>v=.str (aN z)):=by
 intro w
 rw[aO,A.k211 (by simp)]
 simp[A.b211]
 refine aA (?_:Fn A.C 248 [.int .i64 z] h N (fun v h' N'=>v=.str (aN z))) ?_
 ·intro w
  rw[aO,A.k248 (by simp)]
  simp[A.b248]
  refine aA (Ytt h1 h2 hp) ?_
  rintro _ _ _ k1 rfl
  simp[az]
  exact k1
 ·rintro _ _ _ k1 rfl
  simp[az]
  exact k1
end Go.Mx
