/-strconv-/
import Derived.Test.YtlbnjhhebffhdaaGreatDoorNbD
set_option linter.all false
set_option maxHeartbeats 4000000
namespace Go.Mx
noncomputable section
open Go Go.Proofs
variable {H h:T O} {N Z a i ir k n2 o u x:Nat} {W:List Nat} {r:T V}
set_option maxRecDepth 1000000
def qU:List UInt8:=[48,48,48,49,48,50,48,51,48,52,48,53,48,54,48,55,48,56,48,57,49,48,49,49,49,50,49,51,49,52,49,53,49,54,49,55,49,56,49,57,50,48,50,49,50,50,50,51,50,52,50,53,50,54,50,55,50,56,50,57,51,48,51,49,51,50,51,51,51,52,51,53,51,54,51,55,51,56,51,57,52,48,52,49,52,50,52,51,52,52,52,53,52,54,52,55,52,56,52,57,53,48,53,49,53,50,53,51,53,52,53,53,53,54,53,55,53,56,53,57,54,48,54,49,54,50,54,51,54,52,54,53,54,54,54,55,54,56,54,57,55,48,55,49,55,50,55,51,55,52,55,53,55,54,55,55,55,56,55,57,56,48,56,49,56,50,56,51,56,52,56,53,56,54,56,55,56,56,56,57,57,48,57,49,57,50,57,51,57,52,57,53,57,54,57,55,57,56,57,57]
def Yfm:List UInt8:=[48,49,50,51,52,53,54,55,56,57,97,98,99,100,101,102,103,104,105,106,107,108,109,110,111,112,113,114,115,116,117,118,119,120,121,122]
def A.b296:=A.q Tryz.f296
def A.k296:=@A.kk 296 15 [.tmp 2] A.b296 (by kernel_rfl) rfl
def A.b309:=A.q Tryz.f309
def A.k309:=@A.kk 309 6 [.tmp 2] A.b309 (by kernel_rfl) rfl
def A.b310:=A.q Tryz.f310
def A.k310:=@A.kk 310 4 [.tmp 2] A.b310 (by kernel_rfl) rfl
def A.mD:cC:=.seq (sr [mv 19 4,bc 20 .geq 19 8]
 (cd 20
 (.skip)
 (.exit 0)))
 (.block 1 (sr [mv 21 1,ge 22 (.bin .rem (.node []) false (tq 21) (.const (.int .u64 100000000))),ge 23 (.zig .u32 (tq 22)),mv 5 23]
 (sr [mv 24 1,ge 25 (.bin .quo (.node []) false (tq 24) (.const (.int .u64 100000000))),mv 1 25]
 (sr [mv 26 5,ge 27 (.bin .quo (.node []) false (tq 26) (.const (.int .u32 10000))),mv 28 5,ge 29 (.bin .rem (.node []) false (tq 28) (.const (.int .u32 10000))),mv 6 27,mv 7 29]
 (sr [mv 30 7,ge 31 (.bin .quo (.node []) false (tq 30) (.const (.int .u32 100))),ge 32 (.bin .mul (.node []) false (tq 31) (.const (.int .u32 2))),mv 33 7,ge 34 (.bin .rem (.node []) false (tq 33) (.const (.int .u32 100))),ge 35 (.bin .mul (.node []) false (tq 34) (.const (.int .u32 2))),mv 8 32,mv 9 35]
 (sr [mv 36 6,ge 37 (.bin .quo (.node []) false (tq 36) (.const (.int .u32 100))),ge 38 (.bin .mul (.node []) false (tq 37) (.const (.int .u32 2))),mv 39 6,ge 40 (.bin .rem (.node []) false (tq 39) (.const (.int .u32 100))),ge 41 (.bin .mul (.node []) false (tq 40) (.const (.int .u32 2))),mv 10 38,mv 11 41]
 (.seq (.eY [mv 42 0,mv 43 4,bc 44 .sub 43 1,mv 45 0,mv 46 4,bc 47 .sub 46 2,mv 48 9,ge 49 (.bin .add (.node []) false (tq 48) (.const (.int .u32 1))),ge 50 (.bP (.const (.str qU)) (tq 49)),mv 51 9,ge 52 (.bP (.const (.str qU)) (tq 51)),ia 53 1 42 44,so 53 50,ia 54 1 45 47,so 54 52] [0,0,2,0,0,16,0,64,192,0,512,455,2503,8191,16383])
 (.seq (.eY [mv 55 0,mv 56 4,bc 57 .sub 56 3,mv 58 0,mv 59 4,bc 60 .sub 59 4,mv 61 8,ge 62 (.bin .add (.node []) false (tq 61) (.const (.int .u32 1))),ge 63 (.bP (.const (.str qU)) (tq 62)),mv 64 8,ge 65 (.bP (.const (.str qU)) (tq 64)),ia 66 1 55 57,so 66 63,ia 67 1 58 60,so 67 65] [0,0,2,0,0,16,0,64,192,0,512,455,2503,8191,16383])
 (.seq (.eY [mv 68 0,mv 69 4,bc 70 .sub 69 5,mv 71 0,mv 72 4,bc 73 .sub 72 6,mv 74 11,ge 75 (.bin .add (.node []) false (tq 74) (.const (.int .u32 1))),ge 76 (.bP (.const (.str qU)) (tq 75)),mv 77 11,ge 78 (.bP (.const (.str qU)) (tq 77)),ia 79 1 68 70,so 79 76,ia 80 1 71 73,so 80 78] [0,0,2,0,0,16,0,64,192,0,512,455,2503,8191,16383])
 (.seq (.eY [mv 81 0,mv 82 4,bc 83 .sub 82 7,mv 84 0,mv 85 4,bc 86 .sub 85 8,mv 87 10,ge 88 (.bin .add (.node []) false (tq 87) (.const (.int .u32 1))),ge 89 (.bP (.const (.str qU)) (tq 88)),mv 90 10,ge 91 (.bP (.const (.str qU)) (tq 90)),ia 92 1 81 83,so 92 89,ia 93 1 84 86,so 93 91] [0,0,2,0,0,16,0,64,192,0,512,455,2503,8191,16383])
 (.fk [mv 94 4,bc 95 .sub 94 8,mv 4 95])))))))))))
def A.zgw:cC:=sr [mv 160 4,bc 161 .gtr 160 0]
 (cd 161
 (.fk [mv 162 0,mv 163 12,ge 164 (.bin .add (.node []) false (.const (.int .u32 48)) (tq 163)),ge 165 (.zig .u8 (tq 164)),ge 166 (.ft 1 (tq 162) (kq 0)),so 166 165])
 (.skip))
def A.mF:cC:=.seq (sr [mv 138 4,bc 139 .geq 138 2]
 (cd 139
 (sr [mv 140 12,ge 141 (.bin .rem (.node []) false (tq 140) (.const (.int .u32 100))),ge 142 (.bin .mul (.node []) false (tq 141) (.const (.int .u32 2))),mv 16 142]
 (sr [mv 143 12,ge 144 (.bin .quo (.node []) false (tq 143) (.const (.int .u32 100))),mv 12 144]
 (.seq (.eY [mv 145 0,mv 146 4,bc 147 .sub 146 1,mv 148 0,mv 149 4,bc 150 .sub 149 2,mv 151 16,ge 152 (.bin .add (.node []) false (tq 151) (.const (.int .u32 1))),ge 153 (.bP (.const (.str qU)) (tq 152)),mv 154 16,ge 155 (.bP (.const (.str qU)) (tq 154)),ia 156 1 145 147,so 156 153,ia 157 1 148 150,so 157 155] [0,0,2,0,0,16,0,64,192,0,512,455,2503,8191,16383])
 (.fk [mv 158 4,bc 159 .sub 158 2,mv 4 159]))))
 (.skip)))
 A.zgw
def A.mG:cC:=.seq (sr [mv 98 4,bc 99 .geq 98 4]
 (cd 99
 (sr [mv 100 12,ge 101 (.bin .rem (.node []) false (tq 100) (.const (.int .u32 10000))),mv 13 101]
 (sr [mv 102 12,ge 103 (.bin .quo (.node []) false (tq 102) (.const (.int .u32 10000))),mv 12 103]
 (sr [mv 104 13,ge 105 (.bin .quo (.node []) false (tq 104) (.const (.int .u32 100))),ge 106 (.bin .mul (.node []) false (tq 105) (.const (.int .u32 2))),mv 107 13,ge 108 (.bin .rem (.node []) false (tq 107) (.const (.int .u32 100))),ge 109 (.bin .mul (.node []) false (tq 108) (.const (.int .u32 2))),mv 14 106,mv 15 109]
 (.seq (.eY [mv 110 0,mv 111 4,bc 112 .sub 111 1,mv 113 0,mv 114 4,bc 115 .sub 114 2,mv 116 15,ge 117 (.bin .add (.node []) false (tq 116) (.const (.int .u32 1))),ge 118 (.bP (.const (.str qU)) (tq 117)),mv 119 15,ge 120 (.bP (.const (.str qU)) (tq 119)),ia 121 1 110 112,so 121 118,ia 122 1 113 115,so 122 120] [0,0,2,0,0,16,0,64,192,0,512,455,2503,8191,16383])
 (.seq (.eY [mv 123 0,mv 124 4,bc 125 .sub 124 3,mv 126 0,mv 127 4,bc 128 .sub 127 4,mv 129 14,ge 130 (.bin .add (.node []) false (tq 129) (.const (.int .u32 1))),ge 131 (.bP (.const (.str qU)) (tq 130)),mv 132 14,ge 133 (.bP (.const (.str qU)) (tq 132)),ia 134 1 123 125,so 134 131,ia 135 1 126 128,so 135 133] [0,0,2,0,0,16,0,64,192,0,512,455,2503,8191,16383])
 (.fk [mv 136 4,bc 137 .sub 136 4,mv 4 137]))))))
 (.skip)))
 A.mF
def A.b297:cC:=sr [mv 17 0,ln 18 17,mv 4 18]
 (.seq (.block 0 (.loop A.mD))
 (sr [mv 96 1,ge 97 (.zig .u32 (tq 96)),mv 12 97]
 A.mG))
def A.k297:=@A.kk 297 167 [] A.b297 (by kernel_rfl) rfl
def A.b295:cC:=sr [ge 2 (.kv (.const (.str [])))]
 (.seq (sr [mv 3 0,bc 4 .lss 3 10]
 (cd 4
 (sr [mv 5 0,mv 6 0,bc 7 .add 6 1,ge 8 (.cI (.const (.str Yfm)) (some (tq 5)) (some (tq 7))),mv 2 8]
 (.ret))
 (.skip)))
 (sr [mv 9 0,bc 10 .mul 9 2,mv 11 0,bc 12 .mul 11 2,bc 13 .add 12 2,ge 14 (.cI (.const (.str qU)) (some (tq 10)) (some (tq 13))),mv 2 14]
 (.ret)))
def A.k295:=@A.kk 295 15 [.tmp 2] A.b295 (by kernel_rfl) rfl
@[simp] def Yty {a b:Nat}:a<b\/b<=a:=Nat.lt_or_ge a b
def MJ{n:Int}(h1:0<=n)(h2:n<4294967296):bA .u32 n=n:=by rw[zj];show n%4294967296=n;omega
def Ysc:List Nat:=[1,10,100,1000,10000,100000,1000000,10000000,100000000,1000000000,10000000000,100000000000,1000000000000,10000000000000,100000000000000,1000000000000000,10000000000000000,100000000000000000,1000000000000000000,10000000000000000000]
def j_(h:T O)(N:Nat):Prop:=6<N/\h.get 6=some A.Oi
def j_.ai{h':T O}{N':Nat}(s:j_ h N)(k:ah h N h' N'):j_ h' N':=by
 exact⟨iL s.1 k.le,(k.get _ s.1).trans s.2⟩
def j_.ex(s:j_ h N):6<N/\∃e rw,h.get 6=some (.cells (dg Ysc) e rw):=⟨s.1,_,_,s.2.trans rfl⟩
def Yh3:∀j:Nat,j<20->Ysc[j]?=some (10^j):=by decide+kernel
def Ymu{j:Nat}(h:j<20):(dg Ysc)[j]?=some (.int .u64 ((10^j:Nat):Int)):=Za8 (Yh3 j h)
def Yk0:∀b:Nat,b<65->0<b->10^(b*78913/262144)<=10*2^(b-1)/\2^b<=10^(b*78913/262144+1)/\b*78913/262144<20:=by decide+kernel
def Ys5{b:Nat}(hb:b<65)(hk:b*78913/262144=k){h:T O}{N:Nat}:Fn A.C 309 [.int .i64 b] h N (fun v h' N'=>h'=h/\N'=N/\v=.int .i64 (k:Nat)):=by
 intro w
 rw[aZ,A.k309 (by simp)]
 have e1:bA .i64 ((b:Int)*78913)=(b:Int)*78913:=cH (by omega) (by omega)
 have e2:xU .shr .i64 ((b:Int)*78913) 18=some (.int .i64 ((b:Int)*78913/262144)):=by
  unfold xU
  rw[aA (by omega)]
  show some (V.int .i64 (Int.fdiv _ 262144))=_
  rw[Int.fdiv_eq_ediv_of_nonneg _ (by omega)]
 have e3:(b:Int)*78913/262144=k:=by omega
 simp[A.b309,e1,e2,e3,Ret]
 exact ah.refl
def Ytl{b:Bool}:Fn A.C 310 [.bool b] h N (fun v h' N'=>h'=h/\N'=N/\v=.int .i64 (if b=true then 1 else 0)):=by
 intro w
 rw[aZ,A.k310 (by simp)]
 cases b
 ·simp[A.b310,Ret]
  exact ah.refl
 ·simp[A.b310,Ret]
  exact ah.refl
def Zq8(hx:0<x)(hb:zgd x<65):(if 10^(zgd x*78913/262144)<=x then 1 else 0)+zgd x*78913/262144=(dk x).length:=by
 have oI:x≠0:=by omega
 have h1:=Ur x
 have h2:=MD oI
 have h0:0<zgd x:=by unfold zgd;rw[aA oI];omega
 obtain⟨g1,g2,g3⟩:=Yk0 _ hb h0
 generalize hk:zgd x*78913/262144=k at*
 have u1:(dk x).length<=k+1:=oS.1 (by omega)
 by_cases c:10^k<=x
 ·rw[aR c]
  have:¬(dk x).length<=k:=fun hc=>by have:=oS.2 hc;omega
  omega
 ·rw[aA c]
  have u2:(dk x).length<=k:=oS.1 (by omega)
  cases k with
  |zero=>omega
  |succ j=>
   have:¬(dk x).length<=j:=fun hc=>by
    have:=oS.2 hc
    rw[fV]at g1
    omega
   omega
def Ym2(hx:x<18446744073709551616)(h0:0<x){h:T O}{N:Nat}(hp:j_ h N):Fn A.C 296 [.int .u64 x] h N (fun v h' N'=>h'=h/\N'=N/\v=.int .i64 ((dk x).length:Nat)):=by
 intro w
 have hb:zgd x<65:=by
  apply Yxf
  intro hc
  have h2:=MD (show x≠0 by omega)
  have:2^64<=2^(zgd x-1):=Ywo (by decide) (by omega)
  omega
 rw[aZ,A.k296 (by simp)]
 simp[A.b296]
 refine av (Zqx hx) ?_
 rintro _ _ _ _ ⟨rfl,rfl,rfl⟩
 simp[]
 refine av (Ys5 hb rfl) ?_
 rintro _ _ _ _ ⟨rfl,rfl,rfl⟩
 have qN:0<zgd x:=by unfold zgd;rw[aA (by omega)];omega
 have hl:=Zq8 h0 hb
 have g3:=(Yk0 _ hb qN).2.2
 generalize zgd x*78913/262144=k at*
 obtain⟨q1,e,rw,q2⟩:=hp.ex
 have q3:=Ymu g3
 have g4:(k:Int)<20:=by omega
 simp[B3,g4,q2,q3]
 refine av Ytl ?_
 rintro _ _ _ _ ⟨rfl,rfl,rfl⟩
 simp(disch:=omega) [Ret]
 refine⟨ah.refl,?_⟩
 rw[<-hl]
 have cc:((10:Int)^k<=(x:Int))↔10^k<=x:=by exact_mod_cast Iff.rfl
 by_cases c:10^k<=x
 ·rw[aR (cc.2 c),aR c];omega
 ·rw[aA (fun hc=>c (cc.1 hc)),aA c];omega
def uY(N:Nat)(f:Nat->V):List V:=(List.range N).map f
def Ah(N:Nat)(f:Nat->V):(uY N f).length=N:=by simp[uY]
def UB{j:Nat}{f:Nat->V}(h:j<N):(uY N f)[j]?=some (f j):=by simp[uY,h]
def kO(f:Nat->V)(k:Nat)(v:V):Nat->V:=fun j=>if j=k then v else f j
def Zt7{f:Nat->V}{v:V}(h:k<N):aj (uY N f) k [v]=uY N (kO f k v):=by
 apply o8
 intro j
 rw[Mm (by rw[Ah];simp;omega)]
 by_cases hj:k<=j/\j<k+[v].length
 ·rw[aR hj]
  simp at hj
  have:j=k:=by omega
  subst this
  rw[UB h]
  simp[kO]
 ·rw[aA hj]
  simp at hj
  by_cases hN:j<N
  ·rw[UB hN,UB hN,kO,aA (by omega)]
  ·rw[kc (by rw[Ah];omega),kc (by rw[Ah];omega)]
def QC{w:List Nat}{p:Nat}{f:Nat->V}{e:TypeId}{k:IntKind}{n:Int}(hp:p<Z):
  bM 1 ⟨h,N,w⟩ i p (.int k n) (some (.cells (uY Z f) e true))=some (.aX [],⟨h.set i (.cells (uY Z (kO f p (.int k n))) e true),N,i::w⟩):=by
 rw[Zl6 (by rfl) (by rw[Ah];omega) (by rfl)]
 show some (_,St.mk (h.set i (.cells (aj (uY Z f) p [.int k n]) e true)) _ _)=_
 rw[Zt7 hp]
def vB(c:UInt8):V:=.int .u8 (cX c)
def J8:∀p:Nat,p<100->qU[2*p+1]?=some (di p):=by decide+kernel
def J9:∀p:Nat,p<100->qU[2*p]?=some (di (p/10)):=by decide+kernel
def Zb6{b:Nat}(h:a%10=b%10):di a=di b:=by unfold di;rw[h]
structure oC (Z o L x i u:Nat) (f0 f:Nat->V):Prop where
 le:i<=L
 u:u=x/10^(L-i)
 dig:∀j,i<=j->j<L->f (o+j)=vB (di (x/10^(L-1-j)))
 out:∀j,j<o\/o+L<=j->f j=f0 j
def oC.one{L:Nat}{f0 f:Nat->V}(s:oC Z o L x (i+1) u f0 f){c:UInt8}(hc:c=di u):oC Z o L x i (u/10) f0 (kO f (o+i) (vB c)):=by
 subst hc
 have hle:=s.le
 refine⟨by omega,?_,fun j h1 h2=>?_,fun j hj=>?_⟩
 ·rw[s.u,ID,<-fV]
  congr 2;omega
 ·by_cases hj:j=i
  ·subst hj
   rw[kO,aR rfl,s.u]
   congr 4
   omega
  ·rw[kO,aA (by omega)]
   exact s.dig j (by omega) h2
 ·rw[kO,aA (by omega)]
  exact s.out j hj
def oC.two{L:Nat}{f0 f:Nat->V}(s:oC Z o L x (i+2) u f0 f){c d:UInt8}(hc:c=di u)(hd:d=di (u/10)):oC Z o L x i (u/100) f0 (kO (kO f (o+(i+1)) (vB c)) (o+i) (vB d)):=by
 have:=(oC.one (i:=i+1) s hc).one hd
 rw[ID]at this
 exact this
structure Ka (h:T O) (N ir n2 Z o L x:Nat) (f0:Nat->V) (e:TypeId) (i u:Nat) (f:Nat->V) (r:T V) (st:St):Prop where
 r4:r.get 4=some (.int .i64 i)
 n:st.n=N
 w:aL n2 st.w=[]
 row:st.h.get ir=some (.cells (uY Z f) e true)
 QD:∀t,t≠ir->st.h.get t=h.get t
 fmt:oC Z o L x i u f0 f
def oC.eight{L:Nat}{f0 f:Nat->V}(s:oC Z o L x (i+8) u f0 f):oC Z o L x i (u/100000000) f0
  (kO (kO (kO (kO (kO (kO (kO (kO f (o+(i+7)) (vB (di (u%100000000%10000%100)))) (o+(i+6)) (vB (di (u%100000000%10000%100/10)))) (o+(i+5)) (vB (di (u%100000000%10000/100)))) (o+(i+4)) (vB (di (u%100000000%10000/100/10))))
     (o+(i+3)) (vB (di (u%100000000/10000%100)))) (o+(i+2)) (vB (di (u%100000000/10000%100/10)))) (o+(i+1)) (vB (di (u%100000000/10000/100)))) (o+i) (vB (di (u%100000000/10000/100/10)))):=by
 have s1:=oC.two (i:=i+6) s (c:=di (u%100000000%10000%100)) (d:=di (u%100000000%10000%100/10)) (Zb6 (by omega)) (Zb6 (by omega))
 have s2:=oC.two (i:=i+4) s1 (c:=di (u%100000000%10000/100)) (d:=di (u%100000000%10000/100/10)) (Zb6 (by omega)) (Zb6 (by omega))
 have s3:=oC.two (i:=i+2) s2 (c:=di (u%100000000/10000%100)) (d:=di (u%100000000/10000%100/10)) (Zb6 (by omega)) (Zb6 (by omega))
 have s4:=oC.two (i:=i) s3 (c:=di (u%100000000/10000/100)) (d:=di (u%100000000/10000/100/10)) (Zb6 (by omega)) (Zb6 (by omega))
 rw[show u/100/100/100/100=u/100000000 by omega]at s4
 exact s4
def tm8:(a:Int).tmod 100000000=((a%100000000:Nat):Int):=Int.ofNat_tmod a 100000000 |>.symm
def tm4:(a:Int).tmod 10000=((a%10000:Nat):Int):=Int.ofNat_tmod a 10000 |>.symm
def UC:(a:Int).tmod 100=((a%100:Nat):Int):=Int.ofNat_tmod a 100 |>.symm
def Yt9(h:a<18446744073709551616):bA .u64 ((a:Int)/100000000)=((a/100000000:Nat):Int):=by
 rw[Ej (by omega) (by omega)];omega
def Ytt(h:a<4294967296):bA .u32 ((a:Int)/10000)=((a/10000:Nat):Int):=by
 rw[MJ (by omega) (by omega)];omega
def UD(h:a<4294967296):bA .u32 ((a:Int)/100)=((a/100:Nat):Int):=by
 rw[MJ (by omega) (by omega)];omega
def tw(h:a<4294967296):bA .u32 (a:Int)=(a:Int):=MJ (by omega) (by omega)
def Kb(h:a<100):bA .u32 ((a:Int)*2)=((2*a:Nat):Int):=by rw[MJ (by omega) (by omega)];omega
def Kc(h:a<100):bA .u32 (((2*a:Nat):Int)+1)=((2*a+1:Nat):Int):=by rw[MJ (by omega) (by omega)];omega
def Yn7{L:Nat}{f0 f:Nat->V}{e:TypeId}{cp:Option Nat}(hT:o+L<=Z)(hL:L<100)(eP:n2<=ir)(hN:ir<N){rr:T V}(hf:Fx [(1,1),(4,11),(19,95)] rr 167 ⟨r,167,[]⟩)(r0:r.get 0=some (.slice ir o L cp 1))(a1:r.get 1=some (.int .u64 u))(ub:u<18446744073709551616)(s:Ka h N ir n2 Z o L x f0 e (k+8) u f r ⟨H,N,W⟩):
  Code A.C none A.mD ⟨r,167,[]⟩ ⟨H,N,W⟩ (fun ex fr st=>ex=.normal/\∃r' f',fr=⟨r',167,[]⟩/\Fx [(1,1),(4,11),(19,95)] rr 167 ⟨r',167,[]⟩/\r'.get 1=some (.int .u64 (u/100000000:Nat))/\Ka h N ir n2 Z o L x f0 e k (u/100000000) f' r' st):=by
 rw[cn]
 obtain⟨a4,_,aw,jC,ao,af⟩:=s
 simp only at aw jC ao
 have hle:=af.le
 have v8:=af.eight
 obtain⟨us,uI⟩:∃y,u%100000000=y:=⟨_,rfl⟩
 obtain⟨uq,En⟩:∃y,u/100000000=y:=⟨_,rfl⟩
 have t1:=tm8 (a:=u)
 have t2:=Yt9 (a:=u) ub
 rw[uI]at t1 v8
 rw[En]at t2 v8
 have us0:us<100000000:=by omega
 have t3:=tw (a:=us) (by omega)
 obtain⟨hi,iH⟩:∃y,us/10000=y:=⟨_,rfl⟩
 obtain⟨lo,fO⟩:∃y,us%10000=y:=⟨_,rfl⟩
 have t4:=Ytt (a:=us) (by omega)
 have t5:=tm4 (a:=us)
 rw[iH]at t4 v8
 rw[fO]at t5 v8
 have t6:=UD (a:=hi) (by omega)
 have t7:=UC (a:=hi)
 have t8:=UD (a:=lo) (by omega)
 have t9:=UC (a:=lo)
 obtain⟨p1,Ai⟩:∃y,hi/100=y:=⟨_,rfl⟩
 obtain⟨p2,yb⟩:∃y,hi%100=y:=⟨_,rfl⟩
 obtain⟨p3,hp3⟩:∃y,lo/100=y:=⟨_,rfl⟩
 obtain⟨p4,hp4⟩:∃y,lo%100=y:=⟨_,rfl⟩
 rw[Ai]at t6 v8
 rw[yb]at t7 v8
 rw[hp3]at t8 v8
 rw[hp4]at t9 v8
 have b1:p1<100:=by omega
 have m1:=Kb b1
 have Aj:=Kc b1
 have d1:=J8 _ b1
 have g1:=J9 _ b1
 obtain⟨y1,rN⟩:∃y,2*p1+1=y:=⟨_,rfl⟩
 rw[rN]at Aj d1
 obtain⟨z1,zT⟩:∃y,2*p1=y:=⟨_,rfl⟩
 rw[zT]at m1 Aj g1
 have b2:p2<100:=by omega
 have m2:=Kb b2
 have Kd:=Kc b2
 have d2:=J8 _ b2
 have g2:=J9 _ b2
 obtain⟨y2,vX⟩:∃y,2*p2+1=y:=⟨_,rfl⟩
 rw[vX]at Kd d2
 obtain⟨z2,fK⟩:∃y,2*p2=y:=⟨_,rfl⟩
 rw[fK]at m2 Kd g2
 have b3:p3<100:=by omega
 have m3:=Kb b3
 have nn3:=Kc b3
 have d3:=J8 _ b3
 have g3:=J9 _ b3
 obtain⟨y3,hy3⟩:∃y,2*p3+1=y:=⟨_,rfl⟩
 rw[hy3]at nn3 d3
 obtain⟨z3,CT⟩:∃y,2*p3=y:=⟨_,rfl⟩
 rw[CT]at m3 nn3 g3
 have b4:p4<100:=by omega
 have m4:=Kb b4
 have nn4:=Kc b4
 have d4:=J8 _ b4
 have g4:=J9 _ b4
 obtain⟨y4,hy4⟩:∃y,2*p4+1=y:=⟨_,rfl⟩
 rw[hy4]at nn4 d4
 obtain⟨z4,yl⟩:∃y,2*p4=y:=⟨_,rfl⟩
 rw[yl]at m4 nn4 g4
 have e1:(k:Int)+8-1=(k:Int)+7:=by omega
 have e2:(k:Int)+8-2=(k:Int)+6:=by omega
 have e3:(k:Int)+8-3=(k:Int)+5:=by omega
 have e4:(k:Int)+8-4=(k:Int)+4:=by omega
 have e5:(k:Int)+8-5=(k:Int)+3:=by omega
 have e6:(k:Int)+8-6=(k:Int)+2:=by omega
 have e7:(k:Int)+8-7=(k:Int)+1:=by omega
 have e8:(k:Int)+8-8=(k:Int):=by omega
 have f1:((k:Int)+7).toNat=k+7:=by omega
 have f2:((k:Int)+6).toNat=k+6:=by omega
 have f3:((k:Int)+5).toNat=k+5:=by omega
 have f4:((k:Int)+4).toNat=k+4:=by omega
 have f5:((k:Int)+3).toNat=k+3:=by omega
 have f6:((k:Int)+2).toNat=k+2:=by omega
 have f7:((k:Int)+1).toNat=k+1:=by omega
 have c8:(8:Int)<=(k:Int)+8:=by omega
 have uZ:¬N<=ir:=by omega
 have ir0:∀t,(T.set H ir t).get ir=some t:=fun t=>by rw[T.al,aR rfl]
 simp(disch:=first|(simp;done)|omega|(simp only[bH,cy,bC];omega)|rfl) [A.mD,hf,r0,a1,a4,c8,jC,hN,uZ,b_.chk,QC,t1,t2,t3,t4,t5,t6,t7,t8,t9,m1,m2,m3,m4,Aj,Kd,nn3,nn4,d1,d2,d3,d4,g1,g2,g3,g4,e1,e2,e3,e4,e5,e6,e7,e8,f1,f2,f3,f4,f5,f6,f7]
 subst En
 refine⟨by omega,_,⟨by simp,rfl,by simpa[aL,w_.2 eP]using aw,by simp only[T.al,aR];rfl,fun t ht=>by simp only[T.al,aA ht];exact ao t ht,v8⟩⟩
structure FbE (h:T O) (N ir n2 Z o L x:Nat) (f0:Nat->V) (e:TypeId) (st:St):Prop where
 n:st.n=N
 w:aL n2 st.w=[]
 QD:∀t,t≠ir->st.h.get t=h.get t
 ex:∃f,st.h.get ir=some (.cells (uY Z f) e true)/\(∀j,j<L->f (o+j)=vB (di (x/10^(L-1-j))))/\∀j,j<o\/o+L<=j->f j=f0 j
def Ypw(h:u<10):V.int .u8 (48+(u:Int))=vB (di u):=by
 unfold vB cX
 rw[Ke]
 congr 1;omega
def Yq7{L:Nat}{f0 f:Nat->V}{e:TypeId}{cp:Option Nat}(hZ:o+L<=Z)(eP:n2<=ir)(hN:ir<N)(hi:i<2)(hu:u<10^i)(r0:r.get 0=some (.slice ir o L cp 1))(Bo:r.get 12=some (.int .u32 u))(s:Ka h N ir n2 Z o L x f0 e i u f r ⟨H,N,W⟩):
  Code A.C none A.zgw ⟨r,167,[]⟩ ⟨H,N,W⟩ (fun ex fr st=>ex=.normal/\∃r',fr=⟨r',167,[]⟩/\FbE h N ir n2 Z o L x f0 e st):=by
 rw[cn]
 obtain⟨a4,_,aw,jC,ao,af⟩:=s
 simp only at aw jC ao
 have hle:=af.le
 obtain rfl|rfl:i=0\/i=1:=by omega
 ·simp[A.zgw,a4]
  exact⟨rfl,aw,ao,f,jC,fun j hj=>af.dig j (tR _) hj,af.out⟩
 ·have nL:u<10:=by omega
  have e1:bA .u32 (48+(u:Int))=48+(u:Int):=MJ (by omega) (by omega)
  have e2:bA .u8 (48+(u:Int))=48+(u:Int):=A4 (by omega) (by omega)
  have hL:(0:Int)<(L:Int):=by omega
  simp(disch:=omega) [A.zgw,r0,a4,Bo,e1,e2,jC,QC]
  have v:=oC.one (i:=0) af (c:=di u) rfl
  rw[<-Ypw nL,mY]at v
  exact⟨rfl,by simpa[aL,w_.2 eP]using aw,fun t ht=>by rw[T.al,aA ht];exact ao t ht,_,by rw[T.al,aR rfl],fun j hj=>v.dig j (tR _) hj,v.out⟩
def Yq6{L:Nat}{f0 f:Nat->V}{e:TypeId}{cp:Option Nat}(hZ:o+L<=Z)(eP:n2<=ir)(hN:ir<N)(hi:i<4)(hu:u<10^i)(r0:r.get 0=some (.slice ir o L cp 1))(Bo:r.get 12=some (.int .u32 u))(s:Ka h N ir n2 Z o L x f0 e i u f r ⟨H,N,W⟩):
  Code A.C none A.mF ⟨r,167,[]⟩ ⟨H,N,W⟩ (fun ex fr st=>ex=.normal/\∃r',fr=⟨r',167,[]⟩/\FbE h N ir n2 Z o L x f0 e st):=by
 rw[cn]
 have s0:=s
 obtain⟨a4,_,aw,jC,ao,af⟩:=s
 simp only at aw jC ao
 have hle:=af.le
 by_cases hc:i<2
 ·have c1:¬(2:Int)<=(i:Int):=by omega
  simp[A.mF,a4,c1]
  refine nc (Yq7 (i:=i) (u:=u) (f:=f) (cp:=cp) hZ eP hN hc hu (by simp[r0]) (by simp[Bo]) ⟨by simp[a4],rfl,aw,jC,ao,af⟩) ?_
  rintro ex fr st ⟨rfl,r',rfl,hE⟩
  simp
  exact hE
 ·obtain⟨k,rfl⟩:∃k,i=k+2:=⟨i-2,by omega⟩
  have QE:u<10000:=by
   have:10^(k+2)<=10^4:=Ywo (by decide) (by omega)
   omega
  have c1:(2:Int)<=(k:Int)+2:=by omega
  have uZ:¬N<=ir:=by omega
  have t6:=UD (a:=u) (by omega)
  have t7:=UC (a:=u)
  have v:=oC.two (i:=k) af (c:=di (u%100)) (d:=di (u%100/10)) (Zb6 (by omega)) (Zb6 (by omega))
  have fi:u/100<10^k:=by
   rw[pd (by decide)]
   rw[Yw8]at hu
   exact hu
  obtain⟨uq,En⟩:∃y,u/100=y:=⟨_,rfl⟩
  obtain⟨p1,Ai⟩:∃y,u%100=y:=⟨_,rfl⟩
  rw[En]at t6 v fi
  rw[Ai]at t7 v
  have b1:p1<100:=by omega
  have m1:=Kb b1
  have Aj:=Kc b1
  have d1:=J8 _ b1
  have g1:=J9 _ b1
  obtain⟨y1,rN⟩:∃y,2*p1+1=y:=⟨_,rfl⟩
  rw[rN]at Aj d1
  obtain⟨z1,zT⟩:∃y,2*p1=y:=⟨_,rfl⟩
  rw[zT]at m1 Aj g1
  have e1:(k:Int)+2-1=(k:Int)+1:=by omega
  have e2:(k:Int)+2-2=(k:Int):=by omega
  have f1:((k:Int)+1).toNat=k+1:=by omega
  have hI:∀t n,(((H.set ir t).set ir n):T O).get ir=some n:=fun t n=>by rw[T.al,aR rfl]
  simp(disch:=first|(simp;done)|omega|(simp only[bH,cy,bC];omega)|rfl) [A.mF,r0,a4,Bo,c1,jC,hN,uZ,b_.chk,QC,t6,t7,m1,Aj,d1,g1,e1,e2,f1]
  refine nc (Yq7 (i:=k) (u:=uq) (cp:=cp) (e:=e) hZ eP hN (by omega) fi (by simp[r0]) (by simp) ⟨by simp,rfl,by simpa[aL,w_.2 eP]using aw,by simp only[T.al,aR];rfl,fun t ht=>by simp only[T.al,aA ht];exact ao t ht,v⟩) ?_
  rintro ex fr st ⟨rfl,r',rfl,hE⟩
  simp
  exact hE
def oC.four{T L:Nat}{f0 f:Nat->V}(s:oC T o L x (i+4) u f0 f):oC T o L x i (u/10000) f0
  (kO (kO (kO (kO f (o+(i+3)) (vB (di (u%10000%100)))) (o+(i+2)) (vB (di (u%10000%100/10)))) (o+(i+1)) (vB (di (u%10000/100)))) (o+i) (vB (di (u%10000/100/10)))):=by
 have s1:=oC.two (i:=i+2) s (c:=di (u%10000%100)) (d:=di (u%10000%100/10)) (Zb6 (by omega)) (Zb6 (by omega))
 have s2:=oC.two (i:=i) s1 (c:=di (u%10000/100)) (d:=di (u%10000/100/10)) (Zb6 (by omega)) (Zb6 (by omega))
 rw[show u/100/100=u/10000 by omega]at s2
 exact s2
def Yte{L:Nat}{f0 f:Nat->V}{e:TypeId}{cp:Option Nat}(hZ:o+L<=Z)(eP:n2<=ir)(hN:ir<N)(hi:i<8)(hu:u<10^i)(r0:r.get 0=some (.slice ir o L cp 1))(Bo:r.get 12=some (.int .u32 u))(s:Ka h N ir n2 Z o L x f0 e i u f r ⟨H,N,W⟩):
  Code A.C none A.mG ⟨r,167,[]⟩ ⟨H,N,W⟩ (fun ex fr st=>ex=.normal/\∃r',fr=⟨r',167,[]⟩/\FbE h N ir n2 Z o L x f0 e st):=by
 rw[cn]
 obtain⟨a4,_,aw,jC,ao,af⟩:=s
 simp only at aw jC ao
 have hle:=af.le
 by_cases hc:i<4
 ·have c1:¬(4:Int)<=(i:Int):=by omega
  simp[A.mG,a4,c1]
  refine nc (Yq6 (i:=i) (u:=u) (f:=f) (cp:=cp) hZ eP hN hc hu (by simp[r0]) (by simp[Bo]) ⟨by simp[a4],rfl,aw,jC,ao,af⟩) ?_
  rintro ex fr st ⟨rfl,r',rfl,hE⟩
  simp
  exact hE
 ·obtain⟨k,rfl⟩:∃k,i=k+4:=⟨i-4,by omega⟩
  have QE:u<100000000:=by
   have:10^(k+4)<=10^8:=Ywo (by decide) (by omega)
   omega
  have c1:(4:Int)<=(k:Int)+4:=by omega
  have uZ:¬N<=ir:=by omega
  have t4:=Ytt (a:=u) (by omega)
  have t5:=tm4 (a:=u)
  have v:=af.four
  have fi:u/10000<10^k:=by
   rw[pd (by decide)]
   rw[Yw8]at hu
   exact hu
  obtain⟨uq,En⟩:∃y,u/10000=y:=⟨_,rfl⟩
  obtain⟨lo,fO⟩:∃y,u%10000=y:=⟨_,rfl⟩
  rw[En]at t4 v fi
  rw[fO]at t5 v
  have t6:=UD (a:=lo) (by omega)
  have t7:=UC (a:=lo)
  obtain⟨p1,Ai⟩:∃y,lo/100=y:=⟨_,rfl⟩
  obtain⟨p2,yb⟩:∃y,lo%100=y:=⟨_,rfl⟩
  rw[Ai]at t6 v
  rw[yb]at t7 v
  have b1:p1<100:=by omega
  have m1:=Kb b1
  have Aj:=Kc b1
  have d1:=J8 _ b1
  have g1:=J9 _ b1
  obtain⟨y1,rN⟩:∃y,2*p1+1=y:=⟨_,rfl⟩
  rw[rN]at Aj d1
  obtain⟨z1,zT⟩:∃y,2*p1=y:=⟨_,rfl⟩
  rw[zT]at m1 Aj g1
  have b2:p2<100:=by omega
  have m2:=Kb b2
  have Kd:=Kc b2
  have d2:=J8 _ b2
  have g2:=J9 _ b2
  obtain⟨y2,vX⟩:∃y,2*p2+1=y:=⟨_,rfl⟩
  rw[vX]at Kd d2
  obtain⟨z2,fK⟩:∃y,2*p2=y:=⟨_,rfl⟩
  rw[fK]at m2 Kd g2
  have e1:(k:Int)+4-1=(k:Int)+3:=by omega
  have e2:(k:Int)+4-2=(k:Int)+2:=by omega
  have e3:(k:Int)+4-3=(k:Int)+1:=by omega
  have e4:(k:Int)+4-4=(k:Int):=by omega
  have f1:((k:Int)+3).toNat=k+3:=by omega
  have f2:((k:Int)+2).toNat=k+2:=by omega
  have f3:((k:Int)+1).toNat=k+1:=by omega
  simp(disch:=first|(simp;done)|omega|(simp only[bH,cy,bC];omega)|rfl) [A.mG,r0,a4,Bo,c1,jC,hN,uZ,QC,t4,t5,t6,t7,m1,Aj,d1,g1,m2,Kd,d2,g2,e1,e2,e3,e4,f1,f2,f3]
  refine nc (Yq6 (i:=k) (u:=uq) (cp:=cp) (e:=e) hZ eP hN (by omega) fi (by simp[r0]) (by simp) ⟨by simp,rfl,by simpa[aL,w_.2 eP]using aw,by simp only[T.al,aR];rfl,fun t ht=>by simp only[T.al,aA ht];exact ao t ht,v⟩) ?_
  rintro ex fr st ⟨rfl,r',rfl,hE⟩
  simp
  exact hE
def Code.mono{C:Cx}{ro:Option Nat}{c:cC}{fr:Fr}{st:St}{P Q:Ex->Fr->St->Prop}(h:Code C ro c fr st P)(k:∀e fr st,P e fr st->Q e fr st):Code C ro c fr st Q:=by
 rw[cn]
 refine nc h ?_
 intro e fr st hp
 simp
 exact k _ _ _ hp
structure FbR (h:T O) (N ir n2 Z o L x:Nat) (f0:Nat->V) (e:TypeId) (w:List Nat) (st:St):Prop where
 n:st.n=N
 w:aL n2 st.w=aL n2 w
 QD:∀t,t≠ir->st.h.get t=h.get t
 ex:∃f,st.h.get ir=some (.cells (uY Z f) e true)/\(∀j,j<L->f (o+j)=vB (di (x/10^(L-1-j))))/\∀j,j<o\/o+L<=j->f j=f0 j
def Zvt{L:Nat}{f0:Nat->V}{e:TypeId}{cp:Option Nat}{w:List Nat}(hZ:o+L<=Z)(hL:L<100)(eP:n2<=ir)(hN:ir<N)(hx:x<10^L)(hx6:x<18446744073709551616)(hr:h.get ir=some (.cells (uY Z f0) e true)):
  Call A.C (.func 297 [] []) [.slice ir o L cp 1,.int .u64 x] ⟨h,N,w⟩ (fun _ st=>FbR h N ir n2 Z o L x f0 e w st):=by
 rw[aZ,A.k297 (by simp)]
 simp[A.b297]
 refine Zal [(1,1),(4,11),(19,95)] (fun ex r st=>ex=.exit 0/\∃(i u:Nat) (f:Nat->V),i<8/\u<10^i/\r.get 1=some (.int .u64 u)/\Ka h N ir n2 Z o L x f0 e i u f r st) (fun i r st=>∃(u:Nat) (f:Nat->V),u<10^i/\u<18446744073709551616/\r.get 1=some (.int .u64 u)/\Ka h N ir n2 Z o L x f0 e i u f r st) L ?_ ?_ ?_
 ·refine⟨x,f0,hx,hx6,by simp,by simp,rfl,by simp[aL],hr,fun t _=>rfl,⟨Yv5 _,by simp,fun j h1 h2=>by omega,fun j _=>rfl⟩⟩
 ·rintro i r ⟨H,n1,W⟩ hr hf ⟨u,f,hu,Kg,a1,J⟩
  have hn:=J.n
  simp only at hn
  subst hn
  have r0:r.get 0=some (.slice ir o L cp 1):=by rw[hr 0 (by decide)];simp
  by_cases h8:i<8
  ·have c8:¬(8:Int)<=(i:Int):=by omega
   have a4:=J.r4
   rw[cn]
   simp[A.mD,hf,a4,c8]
   exact⟨i,h8,u,hu,by simp[a1],f,⟨by simp[a4],J.n,J.w,J.row,J.QD,J.fmt⟩⟩
  ·obtain⟨k,rfl⟩:∃k,i=k+8:=⟨i-8,by omega⟩
   refine Code.mono (Yn7 hZ hL eP hN hf r0 a1 Kg J) ?_
   rintro ex fr st ⟨rfl,r',f',rfl,rF,a1',J'⟩
   refine Ztu.2 ⟨rF,k,by omega,_,f',?_,by omega,a1',J'⟩
   rw[pd (by decide)]
   rw[Yw8]at hu
   exact hu
 ·rintro ex r ⟨H,n1,W⟩ hr ⟨rfl,i,u,f,h8,hu,a1,J⟩
  have hn:=J.n
  simp only at hn
  subst hn
  have hu7:u<4294967296:=by
   have:10^i<=10^7:=Ywo (by decide) (by omega)
   omega
  have e1:=tw hu7
  simp[a1,e1]
  refine nc (Yte (i:=i) (u:=u) (f:=f) (cp:=cp) (e:=e) (H:=H) (W:=W) hZ eP hN h8 hu (by simp;rw[hr 0 (by decide)];simp) (by simp) ⟨by simpa using J.r4,rfl,J.w,J.row,J.QD,J.fmt⟩) ?_
  rintro ex fr ⟨H2,fj,W2⟩ ⟨rfl,r',rfl,hn,hW,hO,hE⟩
  simp only at hn
  subst hn
  simp[]
  exact⟨rfl,by rw[PR (PS hW)],hO,hE⟩
variable {j o x:Nat}
def A.b275:=A.q Tryz.f275
def A.k275:=@A.kk 275 32 [.tmp 4] A.b275 (by kernel_rfl) rfl
def A.b294:=A.q Tryz.f294
def A.k294:=@A.kk 294 54 [.tmp 4] A.b294 (by kernel_rfl) rfl
def A.b274:=A.q Tryz.f274
def A.k274:=@A.kk 274 5 [.tmp 2] A.b274 (by kernel_rfl) rfl
def A.b244:=A.q Tryz.f244
def A.k244:=@A.kk 244 5 [.tmp 2] A.b244 (by kernel_rfl) rfl
def A.b245:=A.q Tryz.f245
def A.k245:=@A.kk 245 8 [.tmp 4] A.b245 (by kernel_rfl) rfl
def Yjm:∀{x:Nat},(j:Nat)->j<(dk x).length->(dk x)[j]?=some (di (x/10^((dk x).length-1-j))):=by
 intro x
 induction x using Nat.strongRecOn with
 |_ x ih=>
  intro j hj
  by_cases h0:x=0
  ·subst h0;rw[sO]at hj;simp at hj
  ·have e:=wE h0
   have hl:(dk x).length=(dk (x/10)).length+1:=by rw[e];simp
   rw[hl]
   rw[e]
   by_cases qJ:j<(dk (x/10)).length
   ·rw[xJ qJ,ih _ (BQ (by omega) (by decide)) j qJ,ID]
    congr 3
    rw[show (dk (x/10)).length+1-1-j=((dk (x/10)).length-1-j)+1 by omega,fV,iz]
   ·have:j=(dk (x/10)).length:=by omega
    subst this
    simp
def Zog{L:Nat}{f:Nat->V}(hL:L=(dk x).length)(hf:∀j,j<L->f (o+j)=vB (di (x/10^(L-1-j)))):(List.range L).map (fun j=>f (o+j))=(dk x).map vB:=by
 apply o8
 intro j
 rw[jT,jT]
 by_cases hj:j<L
 ·rw[NX hj,Yjm j (by omega),<-hL]
  simp[hf j hj]
 ·rw[kc (by simpa using hj),kc (by omega)]
  rfl
def Zqf{Z L:Nat}{f:Nat->V}(h:o+L<=Z):aK (uY Z f) o L=some ((List.range L).map fun j=>f (o+j)):=by
 unfold aK
 rw[Ah,aR h]
 congr 1
 apply o8
 intro j
 rw[kW,jT]
 by_cases hj:j<L
 ·rw[aR hj,gH,UB (by omega),NX hj];rfl
 ·rw[aA hj,kc (by simpa using hj)];rfl
def UE:V->Option UInt8
 |.int .u8 n=>some (UInt8.ofNat n.toNat)
 |_=>none
def QF(st:St):Option (List V)->Option (V×St)
 |some l=>match l.mapM UE with
  |some s=>some (.str s,st)
  |none=>none
 |none=>none
def UF(st:St)(o len:Nat):Option (List V×TypeId×Bool)->Option (V×St)
 |some (c,_,_)=>QF st (aK c o len)
 |none=>none
def You(st:St):Option V->Option (V×St)
 |some .ziA=>some (.str [],st)
 |some (.slice i o len _ 1)=>UF st o len (st.row i)
 |_=>none
def Zgs{x:Src}{call:cP}{r:T V}{st:St}:IT x call r st=You st (x.ev r):=by
 unfold IT You UF QF
 rfl
def Zjx{st:St}{i len:Nat}{c:Option Nat}:You st (some (.slice i o len c 1))=UF st o len (st.row i):=rfl
def Zjy{st:St}{len:Nat}{c:List V}{e:TypeId}{b:Bool}:UF st o len (some (c,e,b))=QF st (aK c o len):=rfl
def Zop{st:St}:∀{s:bj},QF st (some (s.map vB))=some (.str s,st):=by
 intro s
 have:(s.map vB).mapM UE=some s:=by
  induction s with
  |nil=>rfl
  |cons c s ih=>
   rw[Yw1,List.mapM_cons,ih]
   have:UE (vB c)=some c:=by simp[UE,vB,cX]
   simp[this]
 simp only[QF,this]
def Yth:∀j:Nat,j<10->(List.take (j+1) Yfm).drop j=[di j]:=by decide+kernel
def Yrb:∀j:Nat,j<100->(List.take (2*j+2) qU).drop (2*j)=[di (j/10),di j]:=by decide+kernel
def Ya4:Yfm.length=36:=by decide+kernel
def Yfn:qU.length=200:=by decide+kernel
def Yfs(h:j<10):aq j=[di j]:=by
 unfold aq
 split
 ·subst j;rfl
 ·rw[wE (by assumption),show j/10=0 by omega,sO];rfl
def Ya5(h:j<100)(h2:10<=j):aq j=[di (j/10),di j]:=by
 unfold aq
 rw[aA (by omega),wE (by omega),wE (by omega),show j/10/10=0 by omega,sO];rfl
def Zwp(hj:j<100){h:T O}{N:Nat}:Fn A.C 295 [.int .i64 j] h N (fun v h' N'=>h'=h/\N'=N/\v=.str (aq j)):=by
 intro w
 rw[aZ,A.k295 (by simp)]
 by_cases c:j<10
 ·have e1:=Yth j c
  have e2:(j:Int)+1<=36:=by omega
  have e3:((j:Int)+1).toNat=j+1:=by omega
  have e4:(j:Int)<10:=by omega
  have e5:(0:Int)<=(j:Int)+1:=by omega
  have e8:(j:Int)<=(j:Int)+1:=by omega
  simp(disch:=omega) [A.b295,e4,xW,aH,dG,Zed,Ya4,e1,e2,e3,e5,e8,Ret,Yfs c]
  exact ah.refl
 ·have e1:=Yrb j hj
  have e4:¬(j:Int)<10:=by omega
  have e2:(j:Int)*2+2<=200:=by omega
  have e3:((j:Int)*2+2).toNat=2*j+2:=by omega
  have e5:(0:Int)<=(j:Int)*2+2:=by omega
  have e6:(0:Int)<=(j:Int)*2:=by omega
  have e8:(j:Int)*2<=2*(j:Int)+2:=by omega
  have e7:((j:Int)*2).toNat=2*j:=by omega
  simp(disch:=omega) [A.b295,e4,xW,aH,dG,Zed,Yfn,e1,e2,e3,e5,e6,e7,e8,Ret,Ya5 hj (w_.1 c)]
  exact ah.refl
def Yos:[V.int .u8 0,V.int .u8 0,V.int .u8 0,V.int .u8 0,V.int .u8 0,V.int .u8 0,V.int .u8 0,V.int .u8 0,V.int .u8 0,V.int .u8 0,V.int .u8 0,V.int .u8 0,V.int .u8 0,V.int .u8 0,V.int .u8 0,V.int .u8 0,V.int .u8 0,V.int .u8 0,V.int .u8 0,V.int .u8 0,V.int .u8 0,V.int .u8 0,V.int .u8 0,V.int .u8 0]=uY 24 (fun _=>.int .u8 0):=rfl
def Zpy(hx:x<18446744073709551616):(dk x).length<=20:=oS.1 (by omega)
def Kh(h:x≠0):aq x=dk x:=by unfold aq;rw[aA h]
def Ytb(hx:x<18446744073709551616){h:T O}{N:Nat}(hp:j_ h N):Fn A.C 275 [.int .u64 x,.int .i64 10] h N (fun v h' N'=>v=.str (aq x)):=by
 intro w
 rw[aZ,A.k275 (by simp)]
 by_cases c:x<100
 ·have c1:(x:Int)<100:=by omega
  have e1:bA .i64 (x:Int)=(x:Int):=cH (by omega) (by omega)
  simp[A.b275,c1,e1]
  refine av (Zwp c) ?_
  rintro _ _ _ _ ⟨rfl,rfl,rfl⟩
  simp[Ret]
  exact ah.refl
 ·have c1:¬(x:Int)<100:=by omega
  simp[A.b275,c1,Yos]
  refine av (Ym2 hx (by omega) (hp.ai (aO ah.refl _))) ?_
  rintro _ _ _ _ ⟨rfl,rfl,rfl⟩
  have hl:=Zpy hx
  obtain⟨L,hL⟩:∃L,(dk x).length=L:=⟨_,rfl⟩
  have UG:x<10^L:=oS.2 (by omega)
  have e2:(L:Int)<=24:=by omega
  rw[hL]
  rw[hL]at hl
  simp[zk,aH,dG,Zed,e2,Ah]
  refine A6 (Zvt (n2:=N) (Z:=24) (o:=0) (x:=x) (f0:=fun _=>.int .u8 0) (e:=298) (by omega) (by omega) (Yv5 N) (tu N) UG hx (by rw[T.al,aR rfl])) ?_
  rintro v ⟨H2,n2,W2⟩ ⟨hn,hW,hO,f,hr,hd,_⟩
  simp only at hn hW hO hr
  subst hn
  have de:=Zqf (f:=f) (show 0+L<=24 by omega)
  rw[Zog hL.symm hd]at de
  simp[zk,aH,dG,Zed,e2,Ah,Zgs,Zjx,Zjy,hr,de,Zop,Ret]
  have pZ:aL N W2=[]:=hW
  rw[pZ,Kh (by omega)]
  refine⟨rfl,⟨xS _,fun i hi=>?_⟩,rfl⟩
  rw[hO i (by omega),T.al,aA (by omega)]
def Yk8(hx:x<18446744073709551616){h:T O}{N:Nat}(hp:j_ h N):Fn A.C 245 [.int .u64 x,.int .i64 10] h N (fun v h' N'=>v=.str (aq x)):=by
 intro w
 rw[aZ,A.k245 (by simp)]
 simp[A.b245]
 refine av (Ytb hx hp) ?_
 rintro _ _ _ k1 rfl
 simp[Ret]
 exact k1
def Ytd{z:Int}(h1: -9223372036854775808<=z)(h2:z<9223372036854775808){h:T O}{N:Nat}(hp:j_ h N):Fn A.C 294 [.int .i64 z,.int .i64 10] h N (fun v h' N'=>v=.str (aU z)):=by
 intro w
 rw[aZ,A.k294 (by simp)]
 by_cases c:0<=z/\z<100
 ·obtain⟨j,rfl⟩:=DC c.1
  have c1:(j:Int)<100:=c.2
  have hj:aU (j:Int)=aq j:=by unfold aU;rw[aA (by omega)];rfl
  simp[A.b294,c1]
  refine av (Zwp (by omega)) ?_
  rintro _ _ _ _ ⟨rfl,rfl,rfl⟩
  simp[Ret,hj]
  exact ah.refl
 ·have hx:z.natAbs<18446744073709551616:=by omega
  have oI:z.natAbs≠0:=by omega
  obtain⟨x,hxe⟩:∃x,z.natAbs=x:=⟨_,rfl⟩
  have hl:=Zpy (hxe▸hx)
  obtain⟨L,hL⟩:∃L,(dk x).length=L:=⟨_,rfl⟩
  have UG:x<10^L:=oS.2 (by omega)
  have hL0:0<L:=by rw[<-hL];exact Zte (by omega)
  rw[hL]at hl
  have e2:(L:Int)+1<=24:=by omega
  have e3:(0:Int)<=(L:Int)+1:=by omega
  have e4:((L:Int)+1).toNat=L+1:=by omega
  have e5:(1:Int)<=(L:Int)+1:=by omega
  have e6:(1:Int)+(L:Int)=(L:Int)+1:=by omega
  by_cases hz:z<0
  ·have c2:¬0<=z:=by omega
   have w1:IntKind.wrap .u64 (-(bA .u64 z))=(x:Int):=by rw[My,Mz];omega
   simp[A.b294,c2,hz,Yos,w1]
   refine av (Ym2 (x:=x) (by omega) (by omega) (hp.ai (aO ah.refl _))) ?_
   rintro _ _ _ _ ⟨rfl,rfl,rfl⟩
   rw[hL]
   simp(disch:=omega) [zk,aH,dG,Zed,e2,e3,e4,e5,e6,Ah]
   refine A6 (Zvt (n2:=N) (Z:=24) (o:=1) (x:=x) (f0:=fun _=>.int .u8 0) (e:=298) (by omega) (by omega) (Yv5 N) (tu N) UG (by omega) (by rw[T.al,aR rfl])) ?_
   rintro v ⟨H2,n2,W2⟩ ⟨hn,hW,hO,f,hr,hd,_⟩
   simp only at hn hW hO hr
   subst hn
   have pZ:aL N W2=[]:=hW
   have de:=Zqf (f:=kO f 0 (.int .u8 45)) (show 0+(L+1)<=24 by omega)
   have yd:(List.range (L+1)).map (fun j=>kO f 0 (.int .u8 45) (0+j))=(45::dk x).map vB:=by
    rw[List.range_succ_eq_map,Yw1,List.map_map,Yw1,<-Zog hL.symm hd]
    congr 1
    apply Nj
    intro j _
    show kO f 0 _ (0+(j+1))=_
    rw[kO,aA (by omega)]
    congr 1;omega
   rw[yd]at de
   have Br:aU z=45::dk x:=by unfold aU;rw[aR hz,hxe,Kh (by omega)]
   obtain⟨S,hS⟩:∃S,45::dk x=S:=⟨_,rfl⟩
   rw[hS]at de Br
   simp(disch:=omega) [zk,B3,aH,dG,Zed,e2,e3,e4,e6,Ah,Zgs,Zjx,Zjy,hr,hz,QC,de,Zop,Ret,Br,pZ]
   refine⟨xS _,fun i hi=>?_⟩
   rw[T.al,aA (by omega),hO i (by omega),T.al,aA (by omega)]
  ·have c2:0<=z:=by omega
   have c3:¬z<100:=by omega
   have w1:bA .u64 z=(x:Int):=by rw[Ej (by omega) (by omega)];omega
   simp[A.b294,c2,c3,hz,Yos,w1]
   refine av (Ym2 (x:=x) (by omega) (by omega) (hp.ai (aO ah.refl _))) ?_
   rintro _ _ _ _ ⟨rfl,rfl,rfl⟩
   rw[hL]
   simp(disch:=omega) [zk,aH,dG,Zed,e2,e3,e4,e5,e6,Ah]
   refine A6 (Zvt (n2:=N) (Z:=24) (o:=1) (x:=x) (f0:=fun _=>.int .u8 0) (e:=298) (by omega) (by omega) (Yv5 N) (tu N) UG (by omega) (by rw[T.al,aR rfl])) ?_
   rintro v ⟨H2,n2,W2⟩ ⟨hn,hW,hO,f,hr,hd,_⟩
   simp only at hn hW hO hr
   subst hn
   have pZ:aL N W2=[]:=hW
   have de:=Zqf (f:=f) (show 1+L<=24 by omega)
   rw[Zog hL.symm hd]at de
   have Br:aU z=dk x:=by unfold aU;rw[aA hz,hxe,Kh (by omega)]
   simp(disch:=omega) [zk,aH,dG,Zed,e2,e3,e4,e5,e6,Ah,Zgs,Zjx,Zjy,hr,hz,de,Zop,Ret,Br,pZ]
   refine⟨xS _,fun i hi=>?_⟩
   rw[hO i (by omega),T.al,aA (by omega)]
def Ynu{z:Int}(h1: -9223372036854775808<=z)(h2:z<9223372036854775808){h:T O}{N:Nat}(hp:j_ h N):Fn A.C 244 [.int .i64 z] h N (fun v h' N'=>v=.str (aU z)):=by
 intro w
 rw[aZ,A.k244 (by simp)]
 simp[A.b244]
 refine av (?_:Fn A.C 274 [.int .i64 z] h N (fun v h' N'=>v=.str (aU z))) ?_
 ·intro w
  rw[aZ,A.k274 (by simp)]
  simp[A.b274]
  refine av (Ytd h1 h2 hp) ?_
  rintro _ _ _ k1 rfl
  simp[Ret]
  exact k1
 ·rintro _ _ _ k1 rfl
  simp[Ret]
  exact k1
end
end Go.Mx
