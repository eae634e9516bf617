/-
  strconv: decimal digits of a word.
-/
import Derived.Test.YtlbophlgohokkaaGreatDoorNbD
import Derived.Test.YtlbophlgohokkaaGreatDoorMxRg
set_option linter.all false
namespace Go.Mx
open Go Go.Proofs
variable {H h:T O} {N Z a i ir k n2 o u x:Nat} {W:List Nat} {cp:Option Nat} {r:T V}
set_option maxHeartbeats 4000000
set_option maxRecDepth 1000000
def ph:List UInt8:=[48,48,48,49,48,50,48,51,48,52,48,53,48,54,48,55,48,56,48,57,49,48,49,49,49,50,49,51,49,52,49,53,49,54,49,55,49,56,49,57,50,48,50,49,50,50,50,51,50,52,50,53,50,54,50,55,50,56,50,57,51,48,51,49,51,50,51,51,51,52,51,53,51,54,51,55,51,56,51,57,52,48,52,49,52,50,52,51,52,52,52,53,52,54,52,55,52,56,52,57,53,48,53,49,53,50,53,51,53,52,53,53,53,54,53,55,53,56,53,57,54,48,54,49,54,50,54,51,54,52,54,53,54,54,54,55,54,56,54,57,55,48,55,49,55,50,55,51,55,52,55,53,55,54,55,55,55,56,55,57,56,48,56,49,56,50,56,51,56,52,56,53,56,54,56,55,56,56,56,57,57,48,57,49,57,50,57,51,57,52,57,53,57,54,57,55,57,56,57,57]
def Uc:List UInt8:=[48,49,50,51,52,53,54,55,56,57,97,98,99,100,101,102,103,104,105,106,107,108,109,110,111,112,113,114,115,116,117,118,119,120,121,122]
def A.b294:aq:=sr [mc 2 0]
 (sr [mv 4 0,c1 5 268 4,c1 6 313 5,mv 3 6]
 (sr [mv 7 3,mv 8 0,mv 9 3,⟨(some 10),.dG 20 1 (.const (.ptr 3 0)) (.tmp 9),none⟩,ld 11 10,bi 12 .geq 8 11,c1 13 314 12,bi 14 .add 7 13,mv 2 14]
 (.ret)))
theorem A.c294:A.F 294=some ⟨15,[.tmp 2],A.b294⟩:=by kernel_rfl
def A.k294:=@A.kk 294 _ _ _ A.c294 rfl
def A.b313:aq:=sr [mc 2 0]
 (sr [mv 3 0,bc 4 .mul 3 78913,⟨(some 5),.bin .shr (.node []) false (.tmp 4) (.const (.int .u64 18)),none⟩,mv 2 5]
 (.ret))
theorem A.c313:A.F 313=some ⟨6,[.tmp 2],A.b313⟩:=by kernel_rfl
def A.k313:=@A.kk 313 _ _ _ A.c313 rfl
def A.b314:aq:=sr [mc 2 0]
 (.seq (sr [mv 3 0]
 (cd 3
 (sr [mc 2 1]
 (.ret))
 (.skip)))
 (sr [mc 2 0]
 (.ret)))
theorem A.c314:A.F 314=some ⟨4,[.tmp 2],A.b314⟩:=by kernel_rfl
def A.k314:=@A.kk 314 _ _ _ A.c314 rfl
def A.kW:aq:=.seq (sr [mv 19 4,bc 20 .geq 19 8]
 (cd 20
 (.skip)
 (.exit 0)))
 (.block 1 (sr [mv 21 1,⟨(some 22),.bin .rem (.node []) false (.tmp 21) (.const (.int .u64 100000000)),none⟩,⟨(some 23),.bb .u32 (.tmp 22),none⟩,mv 5 23]
 (sr [mv 24 1,⟨(some 25),.bin .quo (.node []) false (.tmp 24) (.const (.int .u64 100000000)),none⟩,mv 1 25]
 (sr [mv 26 5,⟨(some 27),.bin .quo (.node []) false (.tmp 26) (.const (.int .u32 10000)),none⟩,mv 28 5,⟨(some 29),.bin .rem (.node []) false (.tmp 28) (.const (.int .u32 10000)),none⟩,mv 6 27,mv 7 29]
 (sr [mv 30 7,⟨(some 31),.bin .quo (.node []) false (.tmp 30) (.const (.int .u32 100)),none⟩,⟨(some 32),.bin .mul (.node []) false (.tmp 31) (.const (.int .u32 2)),none⟩,mv 33 7,⟨(some 34),.bin .rem (.node []) false (.tmp 33) (.const (.int .u32 100)),none⟩,⟨(some 35),.bin .mul (.node []) false (.tmp 34) (.const (.int .u32 2)),none⟩,mv 8 32,mv 9 35]
 (sr [mv 36 6,⟨(some 37),.bin .quo (.node []) false (.tmp 36) (.const (.int .u32 100)),none⟩,⟨(some 38),.bin .mul (.node []) false (.tmp 37) (.const (.int .u32 2)),none⟩,mv 39 6,⟨(some 40),.bin .rem (.node []) false (.tmp 39) (.const (.int .u32 100)),none⟩,⟨(some 41),.bin .mul (.node []) false (.tmp 40) (.const (.int .u32 2)),none⟩,mv 10 38,mv 11 41]
 (.seq (.aV [mv 42 0,mv 43 4,bc 44 .sub 43 1,mv 45 0,mv 46 4,bc 47 .sub 46 2,mv 48 9,⟨(some 49),.bin .add (.node []) false (.tmp 48) (.const (.int .u32 1)),none⟩,⟨(some 50),.aQ (.const (.str ph)) (.tmp 49),none⟩,mv 51 9,⟨(some 52),.aQ (.const (.str ph)) (.tmp 51),none⟩,ia 53 1 42 44,so 53 50,ia 54 1 45 47,so 54 52] [0,0,2,0,0,16,0,64,192,0,512,455,2503,8191,16383])
 (.seq (.aV [mv 55 0,mv 56 4,bc 57 .sub 56 3,mv 58 0,mv 59 4,bc 60 .sub 59 4,mv 61 8,⟨(some 62),.bin .add (.node []) false (.tmp 61) (.const (.int .u32 1)),none⟩,⟨(some 63),.aQ (.const (.str ph)) (.tmp 62),none⟩,mv 64 8,⟨(some 65),.aQ (.const (.str ph)) (.tmp 64),none⟩,ia 66 1 55 57,so 66 63,ia 67 1 58 60,so 67 65] [0,0,2,0,0,16,0,64,192,0,512,455,2503,8191,16383])
 (.seq (.aV [mv 68 0,mv 69 4,bc 70 .sub 69 5,mv 71 0,mv 72 4,bc 73 .sub 72 6,mv 74 11,⟨(some 75),.bin .add (.node []) false (.tmp 74) (.const (.int .u32 1)),none⟩,⟨(some 76),.aQ (.const (.str ph)) (.tmp 75),none⟩,mv 77 11,⟨(some 78),.aQ (.const (.str ph)) (.tmp 77),none⟩,ia 79 1 68 70,so 79 76,ia 80 1 71 73,so 80 78] [0,0,2,0,0,16,0,64,192,0,512,455,2503,8191,16383])
 (.seq (.aV [mv 81 0,mv 82 4,bc 83 .sub 82 7,mv 84 0,mv 85 4,bc 86 .sub 85 8,mv 87 10,⟨(some 88),.bin .add (.node []) false (.tmp 87) (.const (.int .u32 1)),none⟩,⟨(some 89),.aQ (.const (.str ph)) (.tmp 88),none⟩,mv 90 10,⟨(some 91),.aQ (.const (.str ph)) (.tmp 90),none⟩,ia 92 1 81 83,so 92 89,ia 93 1 84 86,so 93 91] [0,0,2,0,0,16,0,64,192,0,512,455,2503,8191,16383])
 (.aM [mv 94 4,bc 95 .sub 94 8,mv 4 95])))))))))))
def A.kX:aq:=sr [mv 160 4,bc 161 .gtr 160 0]
 (cd 161
 (.aM [mv 162 0,mv 163 12,⟨(some 164),.bin .add (.node []) false (.const (.int .u32 48)) (.tmp 163),none⟩,⟨(some 165),.bb .u8 (.tmp 164),none⟩,⟨(some 166),.aN 1 (.tmp 162) (.const (.int .i64 0)),none⟩,so 166 165])
 (.skip))
def A.k_:aq:=.seq (sr [mv 138 4,bc 139 .geq 138 2]
 (cd 139
 (sr [mv 140 12,⟨(some 141),.bin .rem (.node []) false (.tmp 140) (.const (.int .u32 100)),none⟩,⟨(some 142),.bin .mul (.node []) false (.tmp 141) (.const (.int .u32 2)),none⟩,mv 16 142]
 (sr [mv 143 12,⟨(some 144),.bin .quo (.node []) false (.tmp 143) (.const (.int .u32 100)),none⟩,mv 12 144]
 (.seq (.aV [mv 145 0,mv 146 4,bc 147 .sub 146 1,mv 148 0,mv 149 4,bc 150 .sub 149 2,mv 151 16,⟨(some 152),.bin .add (.node []) false (.tmp 151) (.const (.int .u32 1)),none⟩,⟨(some 153),.aQ (.const (.str ph)) (.tmp 152),none⟩,mv 154 16,⟨(some 155),.aQ (.const (.str ph)) (.tmp 154),none⟩,ia 156 1 145 147,so 156 153,ia 157 1 148 150,so 157 155] [0,0,2,0,0,16,0,64,192,0,512,455,2503,8191,16383])
 (.aM [mv 158 4,bc 159 .sub 158 2,mv 4 159]))))
 (.skip)))
 A.kX
def A.lf:aq:=.seq (sr [mv 98 4,bc 99 .geq 98 4]
 (cd 99
 (sr [mv 100 12,⟨(some 101),.bin .rem (.node []) false (.tmp 100) (.const (.int .u32 10000)),none⟩,mv 13 101]
 (sr [mv 102 12,⟨(some 103),.bin .quo (.node []) false (.tmp 102) (.const (.int .u32 10000)),none⟩,mv 12 103]
 (sr [mv 104 13,⟨(some 105),.bin .quo (.node []) false (.tmp 104) (.const (.int .u32 100)),none⟩,⟨(some 106),.bin .mul (.node []) false (.tmp 105) (.const (.int .u32 2)),none⟩,mv 107 13,⟨(some 108),.bin .rem (.node []) false (.tmp 107) (.const (.int .u32 100)),none⟩,⟨(some 109),.bin .mul (.node []) false (.tmp 108) (.const (.int .u32 2)),none⟩,mv 14 106,mv 15 109]
 (.seq (.aV [mv 110 0,mv 111 4,bc 112 .sub 111 1,mv 113 0,mv 114 4,bc 115 .sub 114 2,mv 116 15,⟨(some 117),.bin .add (.node []) false (.tmp 116) (.const (.int .u32 1)),none⟩,⟨(some 118),.aQ (.const (.str ph)) (.tmp 117),none⟩,mv 119 15,⟨(some 120),.aQ (.const (.str ph)) (.tmp 119),none⟩,ia 121 1 110 112,so 121 118,ia 122 1 113 115,so 122 120] [0,0,2,0,0,16,0,64,192,0,512,455,2503,8191,16383])
 (.seq (.aV [mv 123 0,mv 124 4,bc 125 .sub 124 3,mv 126 0,mv 127 4,bc 128 .sub 127 4,mv 129 14,⟨(some 130),.bin .add (.node []) false (.tmp 129) (.const (.int .u32 1)),none⟩,⟨(some 131),.aQ (.const (.str ph)) (.tmp 130),none⟩,mv 132 14,⟨(some 133),.aQ (.const (.str ph)) (.tmp 132),none⟩,ia 134 1 123 125,so 134 131,ia 135 1 126 128,so 135 133] [0,0,2,0,0,16,0,64,192,0,512,455,2503,8191,16383])
 (.aM [mv 136 4,bc 137 .sub 136 4,mv 4 137]))))))
 (.skip)))
 A.k_
def A.b295:aq:=sr [mv 17 0,ln 18 17,mv 4 18]
 (.seq (.block 0 (.loop A.kW))
 (sr [mv 96 1,⟨(some 97),.bb .u32 (.tmp 96),none⟩,mv 12 97]
 A.lf))
theorem A.c295:A.F 295=some ⟨167,[],A.b295⟩:=by kernel_rfl
def A.k295:=@A.kk 295 _ _ _ A.c295 rfl
def A.b293:aq:=sr [⟨(some 2),.aY (.const (.str [])),none⟩]
 (.seq (sr [mv 3 0,bc 4 .lss 3 10]
 (cd 4
 (sr [mv 5 0,mv 6 0,bc 7 .add 6 1,⟨(some 8),.az (.const (.str Uc)) (some (.tmp 5)) (some (.tmp 7)),none⟩,mv 2 8]
 (.ret))
 (.skip)))
 (sr [mv 9 0,bc 10 .mul 9 2,mv 11 0,bc 12 .mul 11 2,bc 13 .add 12 2,⟨(some 14),.az (.const (.str ph)) (some (.tmp 10)) (some (.tmp 13)),none⟩,mv 2 14]
 (.ret)))
theorem A.c293:A.F 293=some ⟨15,[.tmp 2],A.b293⟩:=by kernel_rfl
def A.k293:=@A.kk 293 _ _ _ A.c293 rfl
@[simp] theorem Yq9 {a b:Nat}:a<b\/b<=a:=Nat.lt_or_ge a b
theorem GY{n:Int}(h1:0<=n)(h2:n<4294967296):bn .u32 n=n:=by rw[xa];show n%4294967296=n;omega
def Ud:List Nat:=[1,10,100,1000,10000,100000,1000000,10000000,100000000,1000000000,10000000000,100000000000,1000000000000,10000000000000,100000000000000,1000000000000000,10000000000000000,100000000000000000,1000000000000000000,10000000000000000000]
def jm(h:T O)(N:Nat):Prop:=3<N/\h.get 3=some A.HZ
theorem jm.ae{h':T O}{N':Nat}(s:jm h N)(k:ab h N h' N'):jm h' N':=by
 exact⟨eY s.1 k.le,(k.get _ s.1).trans s.2⟩
theorem jm.ex(s:jm h N):3<N/\∃e rw,h.get 3=some (.cells (dg Ud) e rw):=⟨s.1,_,_,s.2.trans rfl⟩
theorem Yfg:∀j:Nat,j<20->Ud[j]?=some (10^j):=by decide+kernel
theorem Ykd{j:Nat}(h:j<20):(dg Ud)[j]?=some (.int .u64 ((10^j:Nat):Int)):=eW (Yfg j h)
theorem Yig:∀b:Nat,b<65->0<b->10^(b*78913/262144)<=10*2^(b-1)/\2^b<=10^(b*78913/262144+1)/\b*78913/262144<20:=by decide+kernel
theorem Yqq{b:Nat}(hb:b<65)(hk:b*78913/262144=k){h:T O}{N:Nat}:Fn A.C 313 [.int .i64 b] h N (fun v h' N'=>h'=h/\N'=N/\v=.int .i64 (k:Nat)):=by
 intro w
 rw[aR,A.k313 (by simp)]
 have e1:bn .i64 ((b:Int)*78913)=(b:Int)*78913:=cj (by omega) (by omega)
 have e2:vR .shr .i64 ((b:Int)*78913) 18=some (.int .i64 ((b:Int)*78913/262144)):=by
  unfold vR
  rw[au (by omega)]
  show some (V.int .i64 (Int.fdiv _ 262144))=_
  rw[Int.fdiv_eq_ediv_of_nonneg _ (by omega)]
 have e3:(b:Int)*78913/262144=k:=by omega
 simp[A.b313,e1,e2,e3,aA]
 exact ab.refl
theorem Yq3{b:Bool}:Fn A.C 314 [.bool b] h N (fun v h' N'=>h'=h/\N'=N/\v=.int .i64 (if b=true then 1 else 0)):=by
 intro w
 rw[aR,A.k314 (by simp)]
 cases b
 ·simp[A.b314,aA]
  exact ab.refl
 ·simp[A.b314,aA]
  exact ab.refl
theorem Zqe(hx:0<x)(hb:ba x<65):(if 10^(ba x*78913/262144)<=x then 1 else 0)+ba x*78913/262144=(cJ x).length:=by
 have mW:x≠0:=by omega
 have h1:=M3 x
 have h2:=GQ mW
 have h0:0<ba x:=by unfold ba;rw[au mW];omega
 obtain⟨g1,g2,g3⟩:=Yig _ hb h0
 generalize hk:ba x*78913/262144=k at*
 have u1:(cJ x).length<=k+1:=nd.1 (by omega)
 by_cases c:10^k<=x
 ·rw[aF c]
  have:¬(cJ x).length<=k:=fun hc=>by have:=nd.2 hc;omega
  omega
 ·rw[au c]
  have u2:(cJ x).length<=k:=nd.1 (by omega)
  cases k with
  |zero=>omega
  |succ j=>
   have:¬(cJ x).length<=j:=fun hc=>by
    have:=nd.2 hc
    rw[fL]at g1
    omega
   omega
theorem Ue(hx:x<18446744073709551616)(h0:0<x){h:T O}{N:Nat}(hp:jm h N):Fn A.C 294 [.int .u64 x] h N (fun v h' N'=>h'=h/\N'=N/\v=.int .i64 ((cJ x).length:Nat)):=by
 intro w
 have hb:ba x<65:=by
  apply qd
  intro hc
  have h2:=GQ (show x≠0 by omega)
  have:2^64<=2^(ba x-1):=qx (by decide) (by omega)
  omega
 rw[aR,A.k294 (by simp)]
 simp[A.b294]
 refine ax (Tp hx) ?_
 rintro _ _ _ _ ⟨rfl,rfl,rfl⟩
 simp[]
 refine ax (Yqq hb rfl) ?_
 rintro _ _ _ _ ⟨rfl,rfl,rfl⟩
 have oV:0<ba x:=by unfold ba;rw[au (by omega)];omega
 have hl:=Zqe h0 hb
 have g3:=(Yig _ hb oV).2.2
 generalize ba x*78913/262144=k at*
 obtain⟨q1,e,rw,q2⟩:=hp.ex
 have q3:=Ykd g3
 have g4:(k:Int)<20:=by omega
 simp[zO,g4,q2,q3]
 refine ax Yq3 ?_
 rintro _ _ _ _ ⟨rfl,rfl,rfl⟩
 simp(disch:=omega) [aA]
 refine⟨ab.refl,?_⟩
 rw[<-hl]
 have cc:((10:Int)^k<=(x:Int))↔10^k<=x:=by exact_mod_cast Iff.rfl
 by_cases c:10^k<=x
 ·rw[aF (cc.2 c),aF c];omega
 ·rw[au (fun hc=>c (cc.1 hc)),au c];omega
def sO(N:Nat)(f:Nat->V):List V:=(List.range N).map f
theorem xY(N:Nat)(f:Nat->V):(sO N f).length=N:=by simp[sO]
theorem Nw{j:Nat}{f:Nat->V}(h:j<N):(sO N f)[j]?=some (f j):=by simp[sO,h]
def jN(f:Nat->V)(k:Nat)(v:V):Nat->V:=fun j=>if j=k then v else f j
theorem Zs8{f:Nat->V}{v:V}(h:k<N):ag (sO N f) k [v]=sO N (jN f k v):=by
 apply m7
 intro j
 rw[GA (by rw[xY];simp;omega)]
 by_cases hj:k<=j/\j<k+[v].length
 ·rw[aF hj]
  simp at hj
  have:j=k:=by omega
  subst this
  rw[Nw h]
  simp[jN]
 ·rw[au hj]
  simp at hj
  by_cases hN:j<N
  ·rw[Nw hN,Nw hN,jN,au (by omega)]
  ·rw[gJ (by rw[xY];omega),gJ (by rw[xY];omega)]
theorem JY{w:List Nat}{p:Nat}{f:Nat->V}{e:TypeId}{k:IntKind}{n:Int}(hp:p<Z):
  bW 1 ⟨h,N,w⟩ i p (.int k n) (some (.cells (sO Z f) e true))=some (.aZ [],⟨h.set i (.cells (sO Z (jN f p (.int k n))) e true),N,i::w⟩):=by
 rw[YQ (by rfl) (by rw[xY];omega) (by rfl)]
 show some (_,St.mk (h.set i (.cells (ag (sO Z f) p [.int k n]) e true)) _ _)=_
 rw[Zs8 hp]
def vB(c:UInt8):V:=.int .u8 (cB c)
theorem Ew:∀p:Nat,p<100->ph[2*p+1]?=some (cI p):=by decide+kernel
theorem Ey:∀p:Nat,p<100->ph[2*p]?=some (cI (p/10)):=by decide+kernel
theorem uF{b:Nat}(h:a%10=b%10):cI a=cI b:=by unfold cI;rw[h]
structure mX (Z o L x i u:Nat) (f0 f:Nat->V):Prop where
 le:i<=L
 u:u=x/10^(L-i)
 Uf:∀j,i<=j->j<L->f (o+j)=vB (cI (x/10^(L-1-j)))
 out:∀j,j<o\/o+L<=j->f j=f0 j
theorem mX.one{L:Nat}{f0 f:Nat->V}(s:mX Z o L x (i+1) u f0 f){c:UInt8}(hc:c=cI u):mX Z o L x i (u/10) f0 (jN f (o+i) (vB c)):=by
 subst hc
 have hle:=s.le
 refine⟨by omega,?_,fun j h1 h2=>?_,fun j hj=>?_⟩
 ·rw[s.u,CW,<-fL]
  congr 2;omega
 ·by_cases hj:j=i
  ·subst hj
   rw[jN,aF rfl,s.u]
   congr 4
   omega
  ·rw[jN,au (by omega)]
   exact s.Uf j (by omega) h2
 ·rw[jN,au (by omega)]
  exact s.out j hj
theorem mX.two{L:Nat}{f0 f:Nat->V}(s:mX Z o L x (i+2) u f0 f){c d:UInt8}(hc:c=cI u)(hd:d=cI (u/10)):mX Z o L x i (u/100) f0 (jN (jN f (o+(i+1)) (vB c)) (o+i) (vB d)):=by
 have:=(mX.one (i:=i+1) s hc).one hd
 rw[CW]at this
 exact this
structure Ez (h:T O) (N ir n2 Z o L x:Nat) (f0:Nat->V) (e:TypeId) (i u:Nat) (f:Nat->V) (r:T V) (st:St):Prop where
 r4:r.get 4=some (.int .i64 i)
 n:st.n=N
 w:ad n2 st.w=[]
 row:st.h.get ir=some (.cells (sO Z f) e true)
 JZ:∀t,t≠ir->st.h.get t=h.get t
 fmt:mX Z o L x i u f0 f
theorem mX.eight{L:Nat}{f0 f:Nat->V}(s:mX Z o L x (i+8) u f0 f):mX Z o L x i (u/100000000) f0
  (jN (jN (jN (jN (jN (jN (jN (jN f (o+(i+7)) (vB (cI (u%100000000%10000%100)))) (o+(i+6)) (vB (cI (u%100000000%10000%100/10)))) (o+(i+5)) (vB (cI (u%100000000%10000/100)))) (o+(i+4)) (vB (cI (u%100000000%10000/100/10))))
     (o+(i+3)) (vB (cI (u%100000000/10000%100)))) (o+(i+2)) (vB (cI (u%100000000/10000%100/10)))) (o+(i+1)) (vB (cI (u%100000000/10000/100)))) (o+i) (vB (cI (u%100000000/10000/100/10)))):=by
 have s1:=mX.two (i:=i+6) s (c:=cI (u%100000000%10000%100)) (d:=cI (u%100000000%10000%100/10)) (uF (by omega)) (uF (by omega))
 have s2:=mX.two (i:=i+4) s1 (c:=cI (u%100000000%10000/100)) (d:=cI (u%100000000%10000/100/10)) (uF (by omega)) (uF (by omega))
 have s3:=mX.two (i:=i+2) s2 (c:=cI (u%100000000/10000%100)) (d:=cI (u%100000000/10000%100/10)) (uF (by omega)) (uF (by omega))
 have s4:=mX.two (i:=i) s3 (c:=cI (u%100000000/10000/100)) (d:=cI (u%100000000/10000/100/10)) (uF (by omega)) (uF (by omega))
 rw[show u/100/100/100/100=u/100000000 by omega]at s4
 exact s4
theorem tm8:(a:Int).tmod 100000000=((a%100000000:Nat):Int):=Int.ofNat_tmod a 100000000 |>.symm
theorem tm4:(a:Int).tmod 10000=((a%10000:Nat):Int):=Int.ofNat_tmod a 10000 |>.symm
theorem Nx:(a:Int).tmod 100=((a%100:Nat):Int):=Int.ofNat_tmod a 100 |>.symm
theorem Yrj(h:a<18446744073709551616):bn .u64 ((a:Int)/100000000)=((a/100000000:Nat):Int):=by
 rw[B8 (by omega) (by omega)];omega
theorem Yq8(h:a<4294967296):bn .u32 ((a:Int)/10000)=((a/10000:Nat):Int):=by
 rw[GY (by omega) (by omega)];omega
theorem Ny(h:a<4294967296):bn .u32 ((a:Int)/100)=((a/100:Nat):Int):=by
 rw[GY (by omega) (by omega)];omega
theorem tw(h:a<4294967296):bn .u32 (a:Int)=(a:Int):=GY (by omega) (by omega)
theorem EA(h:a<100):bn .u32 ((a:Int)*2)=((2*a:Nat):Int):=by rw[GY (by omega) (by omega)];omega
theorem EB(h:a<100):bn .u32 (((2*a:Nat):Int)+1)=((2*a+1:Nat):Int):=by rw[GY (by omega) (by omega)];omega
theorem Yls{L:Nat}{f0 f:Nat->V}{e:TypeId}(hT:o+L<=Z)(hL:L<100)(ft:n2<=ir)(hN:ir<N){rr:T V}(hf:Fx [(1,1),(4,11),(19,95)] rr 167 ⟨r,167,[]⟩)(r0:r.get 0=some (.slice ir o L cp 1))(a1:r.get 1=some (.int .u64 u))(ub:u<18446744073709551616)(s:Ez h N ir n2 Z o L x f0 e (k+8) u f r ⟨H,N,W⟩):
  Code A.C none A.kW ⟨r,167,[]⟩ ⟨H,N,W⟩ (fun ex fr st=>ex=.normal/\∃r' f',fr=⟨r',167,[]⟩/\Fx [(1,1),(4,11),(19,95)] rr 167 ⟨r',167,[]⟩/\r'.get 1=some (.int .u64 (u/100000000:Nat))/\Ez h N ir n2 Z o L x f0 e k (u/100000000) f' r' st):=by
 rw[bA]
 obtain⟨a4,_,aw,iY,ao,af⟩:=s
 simp only at aw iY ao
 have hle:=af.le
 have v8:=af.eight
 obtain⟨us,sq⟩:∃y,u%100000000=y:=⟨_,rfl⟩
 obtain⟨uq,Cg⟩:∃y,u/100000000=y:=⟨_,rfl⟩
 have t1:=tm8 (a:=u)
 have t2:=Yrj (a:=u) ub
 rw[sq]at t1 v8
 rw[Cg]at t2 v8
 have us0:us<100000000:=by omega
 have t3:=tw (a:=us) (by omega)
 obtain⟨hi,fZ⟩:∃y,us/10000=y:=⟨_,rfl⟩
 obtain⟨lo,fj⟩:∃y,us%10000=y:=⟨_,rfl⟩
 have t4:=Yq8 (a:=us) (by omega)
 have t5:=tm4 (a:=us)
 rw[fZ]at t4 v8
 rw[fj]at t5 v8
 have t6:=Ny (a:=hi) (by omega)
 have t7:=Nx (a:=hi)
 have t8:=Ny (a:=lo) (by omega)
 have t9:=Nx (a:=lo)
 obtain⟨p1,xX⟩:∃y,hi/100=y:=⟨_,rfl⟩
 obtain⟨p2,v_⟩:∃y,hi%100=y:=⟨_,rfl⟩
 obtain⟨p3,hp3⟩:∃y,lo/100=y:=⟨_,rfl⟩
 obtain⟨p4,hp4⟩:∃y,lo%100=y:=⟨_,rfl⟩
 rw[xX]at t6 v8
 rw[v_]at t7 v8
 rw[hp3]at t8 v8
 rw[hp4]at t9 v8
 have b1:p1<100:=by omega
 have m1:=EA b1
 have xZ:=EB b1
 have d1:=Ew _ b1
 have g1:=Ey _ b1
 obtain⟨y1,qh⟩:∃y,2*p1+1=y:=⟨_,rfl⟩
 rw[qh]at xZ d1
 obtain⟨z1,xL⟩:∃y,2*p1=y:=⟨_,rfl⟩
 rw[xL]at m1 xZ g1
 have b2:p2<100:=by omega
 have m2:=EA b2
 have EC:=EB b2
 have d2:=Ew _ b2
 have g2:=Ey _ b2
 obtain⟨y2,uf⟩:∃y,2*p2+1=y:=⟨_,rfl⟩
 rw[uf]at EC d2
 obtain⟨z2,cX⟩:∃y,2*p2=y:=⟨_,rfl⟩
 rw[cX]at m2 EC g2
 have b3:p3<100:=by omega
 have m3:=EA b3
 have Ug:=EB b3
 have d3:=Ew _ b3
 have g3:=Ey _ b3
 obtain⟨y3,hy3⟩:∃y,2*p3+1=y:=⟨_,rfl⟩
 rw[hy3]at Ug d3
 obtain⟨z3,x5⟩:∃y,2*p3=y:=⟨_,rfl⟩
 rw[x5]at m3 Ug g3
 have b4:p4<100:=by omega
 have m4:=EA b4
 have Uh:=EB b4
 have d4:=Ew _ b4
 have g4:=Ey _ b4
 obtain⟨y4,Ui⟩:∃y,2*p4+1=y:=⟨_,rfl⟩
 rw[Ui]at Uh d4
 obtain⟨z4,wu⟩:∃y,2*p4=y:=⟨_,rfl⟩
 rw[wu]at m4 Uh g4
 have e1:(k:Int)+8-1=(k:Int)+7:=by omega
 have e2:(k:Int)+8-2=(k:Int)+6:=by omega
 have e3:(k:Int)+8-3=(k:Int)+5:=by omega
 have e4:(k:Int)+8-4=(k:Int)+4:=by omega
 have e5:(k:Int)+8-5=(k:Int)+3:=by omega
 have e6:(k:Int)+8-6=(k:Int)+2:=by omega
 have e7:(k:Int)+8-7=(k:Int)+1:=by omega
 have e8:(k:Int)+8-8=(k:Int):=by omega
 have f1:((k:Int)+7).toNat=k+7:=by omega
 have f2:((k:Int)+6).toNat=k+6:=by omega
 have f3:((k:Int)+5).toNat=k+5:=by omega
 have f4:((k:Int)+4).toNat=k+4:=by omega
 have f5:((k:Int)+3).toNat=k+3:=by omega
 have f6:((k:Int)+2).toNat=k+2:=by omega
 have f7:((k:Int)+1).toNat=k+1:=by omega
 have c8:(8:Int)<=(k:Int)+8:=by omega
 have wj:¬N<=ir:=by omega
 have ir0:∀t,(T.set H ir t).get ir=some t:=fun t=>by rw[T.ai,aF rfl]
 simp(disch:=first|(simp;done)|omega|(simp only[bl,bG,bh];omega)|rfl) [A.kW,hf,r0,a1,a4,c8,iY,hN,JY,t1,t2,t3,t4,t5,t6,t7,t8,t9,m1,m2,m3,m4,xZ,EC,Ug,Uh,d1,d2,d3,d4,g1,g2,g3,g4,e1,e2,e3,e4,e5,e6,e7,e8,f1,f2,f3,f4,f5,f6,f7]
 subst Cg
 refine⟨by omega,_,⟨by simp,rfl,by simpa[ad,uV.2 ft]using aw,by simp only[T.ai,aF];rfl,fun t ht=>by simp only[T.ai,au ht];exact ao t ht,v8⟩⟩
structure Uj (h:T O) (N ir n2 Z o L x:Nat) (f0:Nat->V) (e:TypeId) (st:St):Prop where
 n:st.n=N
 w:ad n2 st.w=[]
 JZ:∀t,t≠ir->st.h.get t=h.get t
 ex:∃f,st.h.get ir=some (.cells (sO Z f) e true)/\(∀j,j<L->f (o+j)=vB (cI (x/10^(L-1-j))))/\∀j,j<o\/o+L<=j->f j=f0 j
theorem Ynd(h:u<10):V.int .u8 (48+(u:Int))=vB (cI u):=by
 unfold vB cB
 rw[DV]
 congr 1;omega
theorem Yok{L:Nat}{f0 f:Nat->V}{e:TypeId}(hZ:o+L<=Z)(ft:n2<=ir)(hN:ir<N)(hi:i<2)(hu:u<10^i)(r0:r.get 0=some (.slice ir o L cp 1))(yv:r.get 12=some (.int .u32 u))(s:Ez h N ir n2 Z o L x f0 e i u f r ⟨H,N,W⟩):
  Code A.C none A.kX ⟨r,167,[]⟩ ⟨H,N,W⟩ (fun ex fr st=>ex=.normal/\∃r',fr=⟨r',167,[]⟩/\Uj h N ir n2 Z o L x f0 e st):=by
 rw[bA]
 obtain⟨a4,_,aw,iY,ao,af⟩:=s
 simp only at aw iY ao
 have hle:=af.le
 obtain rfl|rfl:i=0\/i=1:=by omega
 ·simp[A.kX,a4]
  exact⟨rfl,aw,ao,f,iY,fun j hj=>af.Uf j (tQ _) hj,af.out⟩
 ·have mj:u<10:=by omega
  have e1:bn .u32 (48+(u:Int))=48+(u:Int):=GY (by omega) (by omega)
  have e2:bn .u8 (48+(u:Int))=48+(u:Int):=yV (by omega) (by omega)
  have hL:(0:Int)<(L:Int):=by omega
  simp(disch:=omega) [A.kX,r0,a4,yv,e1,e2,iY,JY]
  have v:=mX.one (i:=0) af (c:=cI u) rfl
  rw[<-Ynd mj,re]at v
  exact⟨rfl,by simpa[ad,uV.2 ft]using aw,fun t ht=>by rw[T.ai,au ht];exact ao t ht,_,by rw[T.ai,aF rfl],fun j hj=>v.Uf j (tQ _) hj,v.out⟩
theorem Yoj{L:Nat}{f0 f:Nat->V}{e:TypeId}(hZ:o+L<=Z)(ft:n2<=ir)(hN:ir<N)(hi:i<4)(hu:u<10^i)(r0:r.get 0=some (.slice ir o L cp 1))(yv:r.get 12=some (.int .u32 u))(s:Ez h N ir n2 Z o L x f0 e i u f r ⟨H,N,W⟩):
  Code A.C none A.k_ ⟨r,167,[]⟩ ⟨H,N,W⟩ (fun ex fr st=>ex=.normal/\∃r',fr=⟨r',167,[]⟩/\Uj h N ir n2 Z o L x f0 e st):=by
 rw[bA]
 have s0:=s
 obtain⟨a4,_,aw,iY,ao,af⟩:=s
 simp only at aw iY ao
 have hle:=af.le
 by_cases hc:i<2
 ·have c1:¬(2:Int)<=(i:Int):=by omega
  simp[A.k_,a4,c1]
  refine oU (Yok (i:=i) (u:=u) (f:=f) (cp:=cp) hZ ft hN hc hu (by simp[r0]) (by simp[yv]) ⟨by simp[a4],rfl,aw,iY,ao,af⟩) ?_
  rintro ex fr st ⟨rfl,r',rfl,hE⟩
  simp
  exact hE
 ·obtain⟨k,rfl⟩:∃k,i=k+2:=⟨i-2,by omega⟩
  have J0:u<10000:=by
   have:10^(k+2)<=10^4:=qx (by decide) (by omega)
   omega
  have c1:(2:Int)<=(k:Int)+2:=by omega
  have wj:¬N<=ir:=by omega
  have t6:=Ny (a:=u) (by omega)
  have t7:=Nx (a:=u)
  have v:=mX.two (i:=k) af (c:=cI (u%100)) (d:=cI (u%100/10)) (uF (by omega)) (uF (by omega))
  have eS:u/100<10^k:=by
   rw[nC (by decide)]
   rw[jH]at hu
   exact hu
  obtain⟨uq,Cg⟩:∃y,u/100=y:=⟨_,rfl⟩
  obtain⟨p1,xX⟩:∃y,u%100=y:=⟨_,rfl⟩
  rw[Cg]at t6 v eS
  rw[xX]at t7 v
  have b1:p1<100:=by omega
  have m1:=EA b1
  have xZ:=EB b1
  have d1:=Ew _ b1
  have g1:=Ey _ b1
  obtain⟨y1,qh⟩:∃y,2*p1+1=y:=⟨_,rfl⟩
  rw[qh]at xZ d1
  obtain⟨z1,xL⟩:∃y,2*p1=y:=⟨_,rfl⟩
  rw[xL]at m1 xZ g1
  have e1:(k:Int)+2-1=(k:Int)+1:=by omega
  have e2:(k:Int)+2-2=(k:Int):=by omega
  have f1:((k:Int)+1).toNat=k+1:=by omega
  have hI:∀t n,(((H.set ir t).set ir n):T O).get ir=some n:=fun t n=>by rw[T.ai,aF rfl]
  simp(disch:=first|(simp;done)|omega|(simp only[bl,bG,bh];omega)|rfl) [A.k_,r0,a4,yv,c1,iY,hN,JY,t6,t7,m1,xZ,d1,g1,e1,e2,f1]
  refine oU (Yok (i:=k) (u:=uq) (cp:=cp) (e:=e) hZ ft hN (by omega) eS (by simp[r0]) (by simp) ⟨by simp,rfl,by simpa[ad,uV.2 ft]using aw,by simp only[T.ai,aF];rfl,fun t ht=>by simp only[T.ai,au ht];exact ao t ht,v⟩) ?_
  rintro ex fr st ⟨rfl,r',rfl,hE⟩
  simp
  exact hE
theorem mX.four{T L:Nat}{f0 f:Nat->V}(s:mX T o L x (i+4) u f0 f):mX T o L x i (u/10000) f0
  (jN (jN (jN (jN f (o+(i+3)) (vB (cI (u%10000%100)))) (o+(i+2)) (vB (cI (u%10000%100/10)))) (o+(i+1)) (vB (cI (u%10000/100)))) (o+i) (vB (cI (u%10000/100/10)))):=by
 have s1:=mX.two (i:=i+2) s (c:=cI (u%10000%100)) (d:=cI (u%10000%100/10)) (uF (by omega)) (uF (by omega))
 have s2:=mX.two (i:=i) s1 (c:=cI (u%10000/100)) (d:=cI (u%10000/100/10)) (uF (by omega)) (uF (by omega))
 rw[show u/100/100=u/10000 by omega]at s2
 exact s2
theorem Yqz{L:Nat}{f0 f:Nat->V}{e:TypeId}(hZ:o+L<=Z)(ft:n2<=ir)(hN:ir<N)(hi:i<8)(hu:u<10^i)(r0:r.get 0=some (.slice ir o L cp 1))(yv:r.get 12=some (.int .u32 u))(s:Ez h N ir n2 Z o L x f0 e i u f r ⟨H,N,W⟩):
  Code A.C none A.lf ⟨r,167,[]⟩ ⟨H,N,W⟩ (fun ex fr st=>ex=.normal/\∃r',fr=⟨r',167,[]⟩/\Uj h N ir n2 Z o L x f0 e st):=by
 rw[bA]
 obtain⟨a4,_,aw,iY,ao,af⟩:=s
 simp only at aw iY ao
 have hle:=af.le
 by_cases hc:i<4
 ·have c1:¬(4:Int)<=(i:Int):=by omega
  simp[A.lf,a4,c1]
  refine oU (Yoj (i:=i) (u:=u) (f:=f) (cp:=cp) hZ ft hN hc hu (by simp[r0]) (by simp[yv]) ⟨by simp[a4],rfl,aw,iY,ao,af⟩) ?_
  rintro ex fr st ⟨rfl,r',rfl,hE⟩
  simp
  exact hE
 ·obtain⟨k,rfl⟩:∃k,i=k+4:=⟨i-4,by omega⟩
  have J0:u<100000000:=by
   have:10^(k+4)<=10^8:=qx (by decide) (by omega)
   omega
  have c1:(4:Int)<=(k:Int)+4:=by omega
  have wj:¬N<=ir:=by omega
  have t4:=Yq8 (a:=u) (by omega)
  have t5:=tm4 (a:=u)
  have v:=af.four
  have eS:u/10000<10^k:=by
   rw[nC (by decide)]
   rw[jH]at hu
   exact hu
  obtain⟨uq,Cg⟩:∃y,u/10000=y:=⟨_,rfl⟩
  obtain⟨lo,fj⟩:∃y,u%10000=y:=⟨_,rfl⟩
  rw[Cg]at t4 v eS
  rw[fj]at t5 v
  have t6:=Ny (a:=lo) (by omega)
  have t7:=Nx (a:=lo)
  obtain⟨p1,xX⟩:∃y,lo/100=y:=⟨_,rfl⟩
  obtain⟨p2,v_⟩:∃y,lo%100=y:=⟨_,rfl⟩
  rw[xX]at t6 v
  rw[v_]at t7 v
  have b1:p1<100:=by omega
  have m1:=EA b1
  have xZ:=EB b1
  have d1:=Ew _ b1
  have g1:=Ey _ b1
  obtain⟨y1,qh⟩:∃y,2*p1+1=y:=⟨_,rfl⟩
  rw[qh]at xZ d1
  obtain⟨z1,xL⟩:∃y,2*p1=y:=⟨_,rfl⟩
  rw[xL]at m1 xZ g1
  have b2:p2<100:=by omega
  have m2:=EA b2
  have EC:=EB b2
  have d2:=Ew _ b2
  have g2:=Ey _ b2
  obtain⟨y2,uf⟩:∃y,2*p2+1=y:=⟨_,rfl⟩
  rw[uf]at EC d2
  obtain⟨z2,cX⟩:∃y,2*p2=y:=⟨_,rfl⟩
  rw[cX]at m2 EC g2
  have e1:(k:Int)+4-1=(k:Int)+3:=by omega
  have e2:(k:Int)+4-2=(k:Int)+2:=by omega
  have e3:(k:Int)+4-3=(k:Int)+1:=by omega
  have e4:(k:Int)+4-4=(k:Int):=by omega
  have f1:((k:Int)+3).toNat=k+3:=by omega
  have f2:((k:Int)+2).toNat=k+2:=by omega
  have f3:((k:Int)+1).toNat=k+1:=by omega
  simp(disch:=first|(simp;done)|omega|(simp only[bl,bG,bh];omega)|rfl) [A.lf,r0,a4,yv,c1,iY,hN,JY,t4,t5,t6,t7,m1,xZ,d1,g1,m2,EC,d2,g2,e1,e2,e3,e4,f1,f2,f3]
  refine oU (Yoj (i:=k) (u:=uq) (cp:=cp) (e:=e) hZ ft hN (by omega) eS (by simp[r0]) (by simp) ⟨by simp,rfl,by simpa[ad,uV.2 ft]using aw,by simp only[T.ai,aF];rfl,fun t ht=>by simp only[T.ai,au ht];exact ao t ht,v⟩) ?_
  rintro ex fr st ⟨rfl,r',rfl,hE⟩
  simp
  exact hE
theorem Code.mono{C:Cx}{ro:Option Nat}{c:aq}{fr:Fr}{st:St}{P Q:Ex->Fr->St->Prop}(h:Code C ro c fr st P)(k:∀e fr st,P e fr st->Q e fr st):Code C ro c fr st Q:=by
 rw[bA]
 refine oU h ?_
 intro e fr st hp
 simp
 exact k _ _ _ hp
structure FbR (h:T O) (N ir n2 Z o L x:Nat) (f0:Nat->V) (e:TypeId) (w:List Nat) (st:St):Prop where
 n:st.n=N
 w:ad n2 st.w=ad n2 w
 JZ:∀t,t≠ir->st.h.get t=h.get t
 ex:∃f,st.h.get ir=some (.cells (sO Z f) e true)/\(∀j,j<L->f (o+j)=vB (cI (x/10^(L-1-j))))/\∀j,j<o\/o+L<=j->f j=f0 j
theorem Uk{L:Nat}{f0:Nat->V}{e:TypeId}{w:List Nat}(hZ:o+L<=Z)(hL:L<100)(ft:n2<=ir)(hN:ir<N)(hx:x<10^L)(hx6:x<18446744073709551616)(hr:h.get ir=some (.cells (sO Z f0) e true)):
  Call A.C (.func 295 [] []) [.slice ir o L cp 1,.int .u64 x] ⟨h,N,w⟩ (fun _ st=>FbR h N ir n2 Z o L x f0 e w st):=by
 rw[aR,A.k295 (by simp)]
 simp[A.b295]
 refine bQ [(1,1),(4,11),(19,95)] (fun ex r st=>ex=.exit 0/\∃(i u:Nat) (f:Nat->V),i<8/\u<10^i/\r.get 1=some (.int .u64 u)/\Ez h N ir n2 Z o L x f0 e i u f r st) (fun i r st=>∃(u:Nat) (f:Nat->V),u<10^i/\u<18446744073709551616/\r.get 1=some (.int .u64 u)/\Ez h N ir n2 Z o L x f0 e i u f r st) L ?_ ?_ ?_
 ·refine⟨x,f0,hx,hx6,by simp,by simp,rfl,by simp[ad],hr,fun t _=>rfl,⟨aS _,by simp,fun j h1 h2=>by omega,fun j _=>rfl⟩⟩
 ·rintro i r ⟨H,n1,W⟩ hr hf ⟨u,f,hu,ED,a1,J⟩
  have hn:=J.n
  simp only at hn
  subst hn
  have r0:r.get 0=some (.slice ir o L cp 1):=by rw[hr 0 (by decide)];simp
  by_cases h8:i<8
  ·have c8:¬(8:Int)<=(i:Int):=by omega
   have a4:=J.r4
   rw[bA]
   simp[A.kW,hf,a4,c8]
   exact⟨i,h8,u,hu,by simp[a1],f,⟨by simp[a4],J.n,J.w,J.row,J.JZ,J.fmt⟩⟩
  ·obtain⟨k,rfl⟩:∃k,i=k+8:=⟨i-8,by omega⟩
   refine Code.mono (Yls hZ hL ft hN hf r0 a1 ED J) ?_
   rintro ex fr st ⟨rfl,r',f',rfl,SJ,J1,J'⟩
   refine Y3.2 ⟨SJ,k,by omega,_,f',?_,by omega,J1,J'⟩
   rw[nC (by decide)]
   rw[jH]at hu
   exact hu
 ·rintro ex r ⟨H,n1,W⟩ hr ⟨rfl,i,u,f,h8,hu,a1,J⟩
  have hn:=J.n
  simp only at hn
  subst hn
  have hu7:u<4294967296:=by
   have:10^i<=10^7:=qx (by decide) (by omega)
   omega
  have e1:=tw hu7
  simp[a1,e1]
  refine oU (Yqz (i:=i) (u:=u) (f:=f) (cp:=cp) (e:=e) (H:=H) (W:=W) hZ ft hN h8 hu (by simp;rw[hr 0 (by decide)];simp) (by simp) ⟨by simpa using J.r4,rfl,J.w,J.row,J.JZ,J.fmt⟩) ?_
  rintro ex fr ⟨H2,nj,W2⟩ ⟨rfl,r',rfl,hn,hW,hO,hE⟩
  simp only at hn
  subst hn
  simp[]
  exact⟨rfl,by rw[JB (JC hW)],hO,hE⟩
end Go.Mx
