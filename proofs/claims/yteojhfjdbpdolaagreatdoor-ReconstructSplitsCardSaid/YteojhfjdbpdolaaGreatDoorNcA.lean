/-strconv-/
import Derived.Test.YteojhfjdbpdolaaGreatDoorNbK
set_option linter.all false
namespace Go.Mx
noncomputable section
open Go Go.Proofs
variable {H h:T O} {N Z a i ir k n2 o u x:Nat} {W:List Nat} {cp:Option Nat} {r:T V}
set_option maxHeartbeats 4000000
set_option maxRecDepth 1000000
def rL:List UInt8:=[48,48,48,49,48,50,48,51,48,52,48,53,48,54,48,55,48,56,48,57,49,48,49,49,49,50,49,51,49,52,49,53,49,54,49,55,49,56,49,57,50,48,50,49,50,50,50,51,50,52,50,53,50,54,50,55,50,56,50,57,51,48,51,49,51,50,51,51,51,52,51,53,51,54,51,55,51,56,51,57,52,48,52,49,52,50,52,51,52,52,52,53,52,54,52,55,52,56,52,57,53,48,53,49,53,50,53,51,53,52,53,53,53,54,53,55,53,56,53,57,54,48,54,49,54,50,54,51,54,52,54,53,54,54,54,55,54,56,54,57,55,48,55,49,55,50,55,51,55,52,55,53,55,54,55,55,55,56,55,57,56,48,56,49,56,50,56,51,56,52,56,53,56,54,56,55,56,56,56,57,57,48,57,49,57,50,57,51,57,52,57,53,57,54,57,55,57,56,57,57]
def Y6:List UInt8:=[48,49,50,51,52,53,54,55,56,57,97,98,99,100,101,102,103,104,105,106,107,108,109,110,111,112,113,114,115,116,117,118,119,120,121,122]
def A.b275:=A.q Tryz.f275
def A.k275:=@A.kk 275 15 [.tmp 2] A.b275 (by kernel_rfl) rfl
def A.b290:=A.q Tryz.f290
def A.k290:=@A.kk 290 6 [.tmp 2] A.b290 (by kernel_rfl) rfl
def A.b291:=A.q Tryz.f291
def A.k291:=@A.kk 291 4 [.tmp 2] A.b291 (by kernel_rfl) rfl
def A.nc:bU:=.seq (sr [mv 19 4,bc 20 .geq 19 8]
 (cd 20
 (.skip)
 (.exit 0)))
 (.block 1 (sr [mv 21 1,ge 22 (.bin .rem (.node []) false (tq 21) (.const (.int .u64 100000000))),ge 23 (.cW .u32 (tq 22)),mv 5 23]
 (sr [mv 24 1,ge 25 (.bin .quo (.node []) false (tq 24) (.const (.int .u64 100000000))),mv 1 25]
 (sr [mv 26 5,ge 27 (.bin .quo (.node []) false (tq 26) (.const (.int .u32 10000))),mv 28 5,ge 29 (.bin .rem (.node []) false (tq 28) (.const (.int .u32 10000))),mv 6 27,mv 7 29]
 (sr [mv 30 7,ge 31 (.bin .quo (.node []) false (tq 30) (.const (.int .u32 100))),ge 32 (.bin .mul (.node []) false (tq 31) (.const (.int .u32 2))),mv 33 7,ge 34 (.bin .rem (.node []) false (tq 33) (.const (.int .u32 100))),ge 35 (.bin .mul (.node []) false (tq 34) (.const (.int .u32 2))),mv 8 32,mv 9 35]
 (sr [mv 36 6,ge 37 (.bin .quo (.node []) false (tq 36) (.const (.int .u32 100))),ge 38 (.bin .mul (.node []) false (tq 37) (.const (.int .u32 2))),mv 39 6,ge 40 (.bin .rem (.node []) false (tq 39) (.const (.int .u32 100))),ge 41 (.bin .mul (.node []) false (tq 40) (.const (.int .u32 2))),mv 10 38,mv 11 41]
 (.seq (.du [mv 42 0,mv 43 4,bc 44 .sub 43 1,mv 45 0,mv 46 4,bc 47 .sub 46 2,mv 48 9,ge 49 (.bin .add (.node []) false (tq 48) (.const (.int .u32 1))),ge 50 (.bI (.const (.str rL)) (tq 49)),mv 51 9,ge 52 (.bI (.const (.str rL)) (tq 51)),ia 53 1 42 44,so 53 50,ia 54 1 45 47,so 54 52] [0,0,2,0,0,16,0,64,192,0,512,455,2503,8191,16383])
 (.seq (.du [mv 55 0,mv 56 4,bc 57 .sub 56 3,mv 58 0,mv 59 4,bc 60 .sub 59 4,mv 61 8,ge 62 (.bin .add (.node []) false (tq 61) (.const (.int .u32 1))),ge 63 (.bI (.const (.str rL)) (tq 62)),mv 64 8,ge 65 (.bI (.const (.str rL)) (tq 64)),ia 66 1 55 57,so 66 63,ia 67 1 58 60,so 67 65] [0,0,2,0,0,16,0,64,192,0,512,455,2503,8191,16383])
 (.seq (.du [mv 68 0,mv 69 4,bc 70 .sub 69 5,mv 71 0,mv 72 4,bc 73 .sub 72 6,mv 74 11,ge 75 (.bin .add (.node []) false (tq 74) (.const (.int .u32 1))),ge 76 (.bI (.const (.str rL)) (tq 75)),mv 77 11,ge 78 (.bI (.const (.str rL)) (tq 77)),ia 79 1 68 70,so 79 76,ia 80 1 71 73,so 80 78] [0,0,2,0,0,16,0,64,192,0,512,455,2503,8191,16383])
 (.seq (.du [mv 81 0,mv 82 4,bc 83 .sub 82 7,mv 84 0,mv 85 4,bc 86 .sub 85 8,mv 87 10,ge 88 (.bin .add (.node []) false (tq 87) (.const (.int .u32 1))),ge 89 (.bI (.const (.str rL)) (tq 88)),mv 90 10,ge 91 (.bI (.const (.str rL)) (tq 90)),ia 92 1 81 83,so 92 89,ia 93 1 84 86,so 93 91] [0,0,2,0,0,16,0,64,192,0,512,455,2503,8191,16383])
 (.dN [mv 94 4,bc 95 .sub 94 8,mv 4 95])))))))))))
def A.nd:bU:=sr [mv 160 4,bc 161 .gtr 160 0]
 (cd 161
 (.dN [mv 162 0,mv 163 12,ge 164 (.bin .add (.node []) false (.const (.int .u32 48)) (tq 163)),ge 165 (.cW .u8 (tq 164)),ge 166 (.fg 1 (tq 162) (kq 0)),so 166 165])
 (.skip))
def A.nf:bU:=.seq (sr [mv 138 4,bc 139 .geq 138 2]
 (cd 139
 (sr [mv 140 12,ge 141 (.bin .rem (.node []) false (tq 140) (.const (.int .u32 100))),ge 142 (.bin .mul (.node []) false (tq 141) (.const (.int .u32 2))),mv 16 142]
 (sr [mv 143 12,ge 144 (.bin .quo (.node []) false (tq 143) (.const (.int .u32 100))),mv 12 144]
 (.seq (.du [mv 145 0,mv 146 4,bc 147 .sub 146 1,mv 148 0,mv 149 4,bc 150 .sub 149 2,mv 151 16,ge 152 (.bin .add (.node []) false (tq 151) (.const (.int .u32 1))),ge 153 (.bI (.const (.str rL)) (tq 152)),mv 154 16,ge 155 (.bI (.const (.str rL)) (tq 154)),ia 156 1 145 147,so 156 153,ia 157 1 148 150,so 157 155] [0,0,2,0,0,16,0,64,192,0,512,455,2503,8191,16383])
 (.dN [mv 158 4,bc 159 .sub 158 2,mv 4 159]))))
 (.skip)))
 A.nd
def A.nh:bU:=.seq (sr [mv 98 4,bc 99 .geq 98 4]
 (cd 99
 (sr [mv 100 12,ge 101 (.bin .rem (.node []) false (tq 100) (.const (.int .u32 10000))),mv 13 101]
 (sr [mv 102 12,ge 103 (.bin .quo (.node []) false (tq 102) (.const (.int .u32 10000))),mv 12 103]
 (sr [mv 104 13,ge 105 (.bin .quo (.node []) false (tq 104) (.const (.int .u32 100))),ge 106 (.bin .mul (.node []) false (tq 105) (.const (.int .u32 2))),mv 107 13,ge 108 (.bin .rem (.node []) false (tq 107) (.const (.int .u32 100))),ge 109 (.bin .mul (.node []) false (tq 108) (.const (.int .u32 2))),mv 14 106,mv 15 109]
 (.seq (.du [mv 110 0,mv 111 4,bc 112 .sub 111 1,mv 113 0,mv 114 4,bc 115 .sub 114 2,mv 116 15,ge 117 (.bin .add (.node []) false (tq 116) (.const (.int .u32 1))),ge 118 (.bI (.const (.str rL)) (tq 117)),mv 119 15,ge 120 (.bI (.const (.str rL)) (tq 119)),ia 121 1 110 112,so 121 118,ia 122 1 113 115,so 122 120] [0,0,2,0,0,16,0,64,192,0,512,455,2503,8191,16383])
 (.seq (.du [mv 123 0,mv 124 4,bc 125 .sub 124 3,mv 126 0,mv 127 4,bc 128 .sub 127 4,mv 129 14,ge 130 (.bin .add (.node []) false (tq 129) (.const (.int .u32 1))),ge 131 (.bI (.const (.str rL)) (tq 130)),mv 132 14,ge 133 (.bI (.const (.str rL)) (tq 132)),ia 134 1 123 125,so 134 131,ia 135 1 126 128,so 135 133] [0,0,2,0,0,16,0,64,192,0,512,455,2503,8191,16383])
 (.dN [mv 136 4,bc 137 .sub 136 4,mv 4 137]))))))
 (.skip)))
 A.nf
def A.b276:bU:=sr [mv 17 0,ln 18 17,mv 4 18]
 (.seq (.block 0 (.loop A.nc))
 (sr [mv 96 1,ge 97 (.cW .u32 (tq 96)),mv 12 97]
 A.nh))
def A.k276:=@A.kk 276 167 [] A.b276 (by kernel_rfl) rfl
def A.b274:bU:=sr [ge 2 (.kh (.const (.str [])))]
 (.seq (sr [mv 3 0,bc 4 .lss 3 10]
 (cd 4
 (sr [mv 5 0,mv 6 0,bc 7 .add 6 1,ge 8 (.cj (.const (.str Y6)) (some (tq 5)) (some (tq 7))),mv 2 8]
 (.ret))
 (.skip)))
 (sr [mv 9 0,bc 10 .mul 9 2,mv 11 0,bc 12 .mul 11 2,bc 13 .add 12 2,ge 14 (.cj (.const (.str rL)) (some (tq 10)) (some (tq 13))),mv 2 14]
 (.ret)))
def A.k274:=@A.kk 274 15 [.tmp 2] A.b274 (by kernel_rfl) rfl
@[simp] def Ywo {a b:Nat}:a<b\/b<=a:=Nat.lt_or_ge a b
def J3{n:Int}(h1:0<=n)(h2:n<4294967296):bj .u32 n=n:=by rw[Ab];show n%4294967296=n;omega
def Y7:List Nat:=[1,10,100,1000,10000,100000,1000000,10000000,100000000,1000000000,10000000000,100000000000,1000000000000,10000000000000,100000000000000,1000000000000000,10000000000000000,100000000000000000,1000000000000000000,10000000000000000000]
def kZ(h:T O)(N:Nat):Prop:=5<N/\h.get 5=some A.Lh
def kZ.ae{h':T O}{N':Nat}(s:kZ h N)(k:ab h N h' N'):kZ h' N':=by
 exact⟨eX s.1 k.le,(k.get _ s.1).trans s.2⟩
def kZ.ex(s:kZ h N):5<N/\∃e rw,h.get 5=some (.cells (dg Y7) e rw):=⟨s.1,_,_,s.2.trans rfl⟩
def Yi6:∀j:Nat,j<20->Y7[j]?=some (10^j):=by decide+kernel
def Yov{j:Nat}(h:j<20):(dg Y7)[j]?=some (.int .u64 ((10^j:Nat):Int)):=fw (Yi6 j h)
def Yml:∀b:Nat,b<65->0<b->10^(b*78913/262144)<=10*2^(b-1)/\2^b<=10^(b*78913/262144+1)/\b*78913/262144<20:=by decide+kernel
def Yv0{b:Nat}(hb:b<65)(hk:b*78913/262144=k){h:T O}{N:Nat}:Fn A.C 290 [.int .i64 b] h N (fun v h' N'=>h'=h/\N'=N/\v=.int .i64 (k:Nat)):=by
 intro w
 rw[aR,A.k290 (by simp)]
 have e1:bj .i64 ((b:Int)*78913)=(b:Int)*78913:=cD (by omega) (by omega)
 have e2:y_ .shr .i64 ((b:Int)*78913) 18=some (.int .i64 ((b:Int)*78913/262144)):=by
  unfold y_
  rw[ak (by omega)]
  show some (V.int .i64 (Int.fdiv _ 262144))=_
  rw[Int.fdiv_eq_ediv_of_nonneg _ (by omega)]
 have e3:(b:Int)*78913/262144=k:=by omega
 simp[A.b290,e1,e2,e3,aE]
 exact ab.refl
def Ywf{b:Bool}:Fn A.C 291 [.bool b] h N (fun v h' N'=>h'=h/\N'=N/\v=.int .i64 (if b=true then 1 else 0)):=by
 intro w
 rw[aR,A.k291 (by simp)]
 cases b
 ·simp[A.b291,aE]
  exact ab.refl
 ·simp[A.b291,aE]
  exact ab.refl
def Zsk(hx:0<x)(hb:aY x<65):(if 10^(aY x*78913/262144)<=x then 1 else 0)+aY x*78913/262144=(df x).length:=by
 have mH:x≠0:=by omega
 have h1:=RB x
 have h2:=JX mH
 have h0:0<aY x:=by unfold aY;rw[ak mH];omega
 obtain⟨g1,g2,g3⟩:=Yml _ hb h0
 generalize hk:aY x*78913/262144=k at*
 have u1:(df x).length<=k+1:=pC.1 (by omega)
 by_cases c:10^k<=x
 ·rw[av c]
  have:¬(df x).length<=k:=fun hc=>by have:=pC.2 hc;omega
  omega
 ·rw[ak c]
  have u2:(df x).length<=k:=pC.1 (by omega)
  cases k with
  |zero=>omega
  |succ j=>
   have:¬(df x).length<=j:=fun hc=>by
    have:=pC.2 hc
    rw[gg]at g1
    omega
   omega
def Y8(hx:x<18446744073709551616)(h0:0<x){h:T O}{N:Nat}(hp:kZ h N):Fn A.C 275 [.int .u64 x] h N (fun v h' N'=>h'=h/\N'=N/\v=.int .i64 ((df x).length:Nat)):=by
 intro w
 have hb:aY x<65:=by
  apply tg
  intro hc
  have h2:=JX (show x≠0 by omega)
  have:2^64<=2^(aY x-1):=qS (by decide) (by omega)
  omega
 rw[aR,A.k275 (by simp)]
 simp[A.b275]
 refine aA (YQ hx) ?_
 rintro _ _ _ _ ⟨rfl,rfl,rfl⟩
 simp[]
 refine aA (Yv0 hb rfl) ?_
 rintro _ _ _ _ ⟨rfl,rfl,rfl⟩
 have lG:0<aY x:=by unfold aY;rw[ak (by omega)];omega
 have hl:=Zsk h0 hb
 have g3:=(Yml _ hb lG).2.2
 generalize aY x*78913/262144=k at*
 obtain⟨q1,e,rw,q2⟩:=hp.ex
 have q3:=Yov g3
 have g4:(k:Int)<20:=by omega
 simp[Cw,g3,g4,q2,q3]
 refine aA Ywf ?_
 rintro _ _ _ _ ⟨rfl,rfl,rfl⟩
 simp(disch:=omega) [aE]
 refine⟨ab.refl,?_⟩
 rw[<-hl]
 have cc:((10:Int)^k<=(x:Int))↔10^k<=x:=by exact_mod_cast Iff.rfl
 by_cases c:10^k<=x
 ·rw[av (cc.2 c),av c];omega
 ·rw[ak (fun hc=>c (cc.1 hc)),ak c];omega
def vY(N:Nat)(f:Nat->V):List V:=(List.range N).map f
def AO(N:Nat)(f:Nat->V):(vY N f).length=N:=by simp[vY]
def RK{j:Nat}{f:Nat->V}(h:j<N):(vY N f)[j]?=some (f j):=by simp[vY,h]
def lI(f:Nat->V)(k:Nat)(v:V):Nat->V:=fun j=>if j=k then v else f j
def Zva{f:Nat->V}{v:V}(h:k<N):ad (vY N f) k [v]=vY N (lI f k v):=by
 apply lA
 intro j
 rw[JH (by rw[AO];simp;omega)]
 by_cases hj:k<=j/\j<k+[v].length
 ·rw[av hj]
  simp at hj
  have:j=k:=by omega
  subst this
  rw[RK h]
  simp[lI]
 ·rw[ak hj]
  simp at hj
  by_cases hN:j<N
  ·rw[RK hN,RK hN,lI,ak (by omega)]
  ·rw[eJ (by rw[AO];omega),eJ (by rw[AO];omega)]
def Ns{w:List Nat}{p:Nat}{f:Nat->V}{e:TypeId}{k:IntKind}{n:Int}(hp:p<Z):
  bC 1 ⟨h,N,w⟩ i p (.int k n) (some (.cells (vY Z f) e true))=some (.aX [],⟨h.set i (.cells (vY Z (lI f p (.int k n))) e true),N,i::w⟩):=by
 rw[Zmh (by rfl) (by rw[AO];omega) (by rfl)]
 show some (_,St.mk (h.set i (.cells (ad (vY Z f) p [.int k n]) e true)) _ _)=_
 rw[Zva hp]
def vB(c:UInt8):V:=.int .u8 (cM c)
def HO:∀p:Nat,p<100->rL[2*p+1]?=some (c_ p):=by decide+kernel
def HP:∀p:Nat,p<100->rL[2*p]?=some (c_ (p/10)):=by decide+kernel
def xK{b:Nat}(h:a%10=b%10):c_ a=c_ b:=by unfold c_;rw[h]
structure pd (Z o L x i u:Nat) (f0 f:Nat->V):Prop where
 le:i<=L
 u:u=x/10^(L-i)
 Y9:∀j,i<=j->j<L->f (o+j)=vB (c_ (x/10^(L-1-j)))
 out:∀j,j<o\/o+L<=j->f j=f0 j
def pd.one{L:Nat}{f0 f:Nat->V}(s:pd Z o L x (i+1) u f0 f){c:UInt8}(hc:c=c_ u):pd Z o L x i (u/10) f0 (lI f (o+i) (vB c)):=by
 subst hc
 have hle:=s.le
 refine⟨by omega,?_,fun j h1 h2=>?_,fun j hj=>?_⟩
 ·rw[s.u,Gb,<-gg]
  congr 2;omega
 ·by_cases hj:j=i
  ·subst hj
   rw[lI,av rfl,s.u]
   congr 4
   omega
  ·rw[lI,ak (by omega)]
   exact s.Y9 j (by omega) h2
 ·rw[lI,ak (by omega)]
  exact s.out j hj
def pd.two{L:Nat}{f0 f:Nat->V}(s:pd Z o L x (i+2) u f0 f){c d:UInt8}(hc:c=c_ u)(hd:d=c_ (u/10)):pd Z o L x i (u/100) f0 (lI (lI f (o+(i+1)) (vB c)) (o+i) (vB d)):=by
 have:=(pd.one (i:=i+1) s hc).one hd
 rw[Gb]at this
 exact this
structure HQ (h:T O) (N ir n2 Z o L x:Nat) (f0:Nat->V) (e:TypeId) (i u:Nat) (f:Nat->V) (r:T V) (st:St):Prop where
 r4:r.get 4=some (.int .i64 i)
 n:st.n=N
 w:ax n2 st.w=[]
 row:st.h.get ir=some (.cells (vY Z f) e true)
 Nt:∀t,t≠ir->st.h.get t=h.get t
 fmt:pd Z o L x i u f0 f
def pd.eight{L:Nat}{f0 f:Nat->V}(s:pd Z o L x (i+8) u f0 f):pd Z o L x i (u/100000000) f0
  (lI (lI (lI (lI (lI (lI (lI (lI f (o+(i+7)) (vB (c_ (u%100000000%10000%100)))) (o+(i+6)) (vB (c_ (u%100000000%10000%100/10)))) (o+(i+5)) (vB (c_ (u%100000000%10000/100)))) (o+(i+4)) (vB (c_ (u%100000000%10000/100/10))))
     (o+(i+3)) (vB (c_ (u%100000000/10000%100)))) (o+(i+2)) (vB (c_ (u%100000000/10000%100/10)))) (o+(i+1)) (vB (c_ (u%100000000/10000/100)))) (o+i) (vB (c_ (u%100000000/10000/100/10)))):=by
 have s1:=pd.two (i:=i+6) s (c:=c_ (u%100000000%10000%100)) (d:=c_ (u%100000000%10000%100/10)) (xK (by omega)) (xK (by omega))
 have s2:=pd.two (i:=i+4) s1 (c:=c_ (u%100000000%10000/100)) (d:=c_ (u%100000000%10000/100/10)) (xK (by omega)) (xK (by omega))
 have s3:=pd.two (i:=i+2) s2 (c:=c_ (u%100000000/10000%100)) (d:=c_ (u%100000000/10000%100/10)) (xK (by omega)) (xK (by omega))
 have s4:=pd.two (i:=i) s3 (c:=c_ (u%100000000/10000/100)) (d:=c_ (u%100000000/10000/100/10)) (xK (by omega)) (xK (by omega))
 rw[show u/100/100/100/100=u/100000000 by omega]at s4
 exact s4
def tm8:(a:Int).tmod 100000000=((a%100000000:Nat):Int):=Int.ofNat_tmod a 100000000 |>.symm
def tm4:(a:Int).tmod 10000=((a%10000:Nat):Int):=Int.ofNat_tmod a 10000 |>.symm
def RL:(a:Int).tmod 100=((a%100:Nat):Int):=Int.ofNat_tmod a 100 |>.symm
def Ywz(h:a<18446744073709551616):bj .u64 ((a:Int)/100000000)=((a/100000000:Nat):Int):=by
 rw[EO (by omega) (by omega)];omega
def Ywk(h:a<4294967296):bj .u32 ((a:Int)/10000)=((a/10000:Nat):Int):=by
 rw[J3 (by omega) (by omega)];omega
def RM(h:a<4294967296):bj .u32 ((a:Int)/100)=((a/100:Nat):Int):=by
 rw[J3 (by omega) (by omega)];omega
def tw(h:a<4294967296):bj .u32 (a:Int)=(a:Int):=J3 (by omega) (by omega)
def HR(h:a<100):bj .u32 ((a:Int)*2)=((2*a:Nat):Int):=by rw[J3 (by omega) (by omega)];omega
def HS(h:a<100):bj .u32 (((2*a:Nat):Int)+1)=((2*a+1:Nat):Int):=by rw[J3 (by omega) (by omega)];omega
def Yqh{L:Nat}{f0 f:Nat->V}{e:TypeId}(hT:o+L<=Z)(hL:L<100)(eM:n2<=ir)(hN:ir<N){rr:T V}(hf:Fx [(1,1),(4,11),(19,95)] rr 167 ⟨r,167,[]⟩)(r0:r.get 0=some (.slice ir o L cp 1))(a1:r.get 1=some (.int .u64 u))(ub:u<18446744073709551616)(s:HQ h N ir n2 Z o L x f0 e (k+8) u f r ⟨H,N,W⟩):
  Code A.C none A.nc ⟨r,167,[]⟩ ⟨H,N,W⟩ (fun ex fr st=>ex=.normal/\∃r' f',fr=⟨r',167,[]⟩/\Fx [(1,1),(4,11),(19,95)] rr 167 ⟨r',167,[]⟩/\r'.get 1=some (.int .u64 (u/100000000:Nat))/\HQ h N ir n2 Z o L x f0 e k (u/100000000) f' r' st):=by
 rw[bl]
 obtain⟨a4,_,aw,jR,ao,af⟩:=s
 simp only at aw jR ao
 have hle:=af.le
 have v8:=af.eight
 obtain⟨us,vM⟩:∃y,u%100000000=y:=⟨_,rfl⟩
 obtain⟨uq,EU⟩:∃y,u/100000000=y:=⟨_,rfl⟩
 have t1:=tm8 (a:=u)
 have t2:=Ywz (a:=u) ub
 rw[vM]at t1 v8
 rw[EU]at t2 v8
 have us0:us<100000000:=by omega
 have t3:=tw (a:=us) (by omega)
 obtain⟨hi,gX⟩:∃y,us/10000=y:=⟨_,rfl⟩
 obtain⟨lo,fN⟩:∃y,us%10000=y:=⟨_,rfl⟩
 have t4:=Ywk (a:=us) (by omega)
 have t5:=tm4 (a:=us)
 rw[gX]at t4 v8
 rw[fN]at t5 v8
 have t6:=RM (a:=hi) (by omega)
 have t7:=RL (a:=hi)
 have t8:=RM (a:=lo) (by omega)
 have t9:=RL (a:=lo)
 obtain⟨p1,xJ⟩:∃y,hi/100=y:=⟨_,rfl⟩
 obtain⟨p2,zj⟩:∃y,hi%100=y:=⟨_,rfl⟩
 obtain⟨p3,hp3⟩:∃y,lo/100=y:=⟨_,rfl⟩
 obtain⟨p4,hp4⟩:∃y,lo%100=y:=⟨_,rfl⟩
 rw[xJ]at t6 v8
 rw[zj]at t7 v8
 rw[hp3]at t8 v8
 rw[hp4]at t9 v8
 have b1:p1<100:=by omega
 have m1:=HR b1
 have AP:=HS b1
 have d1:=HO _ b1
 have g1:=HP _ b1
 obtain⟨y1,sU⟩:∃y,2*p1+1=y:=⟨_,rfl⟩
 rw[sU]at AP d1
 obtain⟨z1,uT⟩:∃y,2*p1=y:=⟨_,rfl⟩
 rw[uT]at m1 AP g1
 have b2:p2<100:=by omega
 have m2:=HR b2
 have HT:=HS b2
 have d2:=HO _ b2
 have g2:=HP _ b2
 obtain⟨y2,xx⟩:∃y,2*p2+1=y:=⟨_,rfl⟩
 rw[xx]at HT d2
 obtain⟨z2,dT⟩:∃y,2*p2=y:=⟨_,rfl⟩
 rw[dT]at m2 HT g2
 have b3:p3<100:=by omega
 have m3:=HR b3
 have Za:=HS b3
 have d3:=HO _ b3
 have g3:=HP _ b3
 obtain⟨y3,KZ⟩:∃y,2*p3+1=y:=⟨_,rfl⟩
 rw[KZ]at Za d3
 obtain⟨z3,AQ⟩:∃y,2*p3=y:=⟨_,rfl⟩
 rw[AQ]at m3 Za g3
 have b4:p4<100:=by omega
 have m4:=HR b4
 have Zb:=HS b4
 have d4:=HO _ b4
 have g4:=HP _ b4
 obtain⟨y4,FI⟩:∃y,2*p4+1=y:=⟨_,rfl⟩
 rw[FI]at Zb d4
 obtain⟨z4,zr⟩:∃y,2*p4=y:=⟨_,rfl⟩
 rw[zr]at m4 Zb g4
 have e1:(k:Int)+8-1=(k:Int)+7:=by omega
 have e2:(k:Int)+8-2=(k:Int)+6:=by omega
 have e3:(k:Int)+8-3=(k:Int)+5:=by omega
 have e4:(k:Int)+8-4=(k:Int)+4:=by omega
 have e5:(k:Int)+8-5=(k:Int)+3:=by omega
 have e6:(k:Int)+8-6=(k:Int)+2:=by omega
 have e7:(k:Int)+8-7=(k:Int)+1:=by omega
 have e8:(k:Int)+8-8=(k:Int):=by omega
 have f1:((k:Int)+7).toNat=k+7:=by omega
 have f2:((k:Int)+6).toNat=k+6:=by omega
 have f3:((k:Int)+5).toNat=k+5:=by omega
 have f4:((k:Int)+4).toNat=k+4:=by omega
 have f5:((k:Int)+3).toNat=k+3:=by omega
 have f6:((k:Int)+2).toNat=k+2:=by omega
 have f7:((k:Int)+1).toNat=k+1:=by omega
 have c8:(8:Int)<=(k:Int)+8:=by omega
 have vZ:¬N<=ir:=by omega
 have ir0:∀t,(T.set H ir t).get ir=some t:=fun t=>by rw[T.ag,av rfl]
 simp(disch:=first|(simp;done)|omega|(simp only[bA,cA,bo];omega)|rfl) [A.nc,hf,r0,a1,a4,c8,jR,hN,vZ,ct.cv,Ns,t1,t2,t3,t4,t5,t6,t7,t8,t9,m1,m2,m3,m4,AP,HT,Za,Zb,d1,d2,d3,d4,g1,g2,g3,g4,e1,e2,e3,e4,e5,e6,e7,e8,f1,f2,f3,f4,f5,f6,f7]
 subst EU
 refine⟨by omega,_,⟨by simp,rfl,by simpa[ax,s_.2 eM]using aw,by simp only[T.ag,av];rfl,fun t ht=>by simp only[T.ag,ak ht];exact ao t ht,v8⟩⟩
structure Zc (h:T O) (N ir n2 Z o L x:Nat) (f0:Nat->V) (e:TypeId) (st:St):Prop where
 n:st.n=N
 w:ax n2 st.w=[]
 Nt:∀t,t≠ir->st.h.get t=h.get t
 ex:∃f,st.h.get ir=some (.cells (vY Z f) e true)/\(∀j,j<L->f (o+j)=vB (c_ (x/10^(L-1-j))))/\∀j,j<o\/o+L<=j->f j=f0 j
def Yr2(h:u<10):V.int .u8 (48+(u:Int))=vB (c_ u):=by
 unfold vB cM
 rw[Hg]
 congr 1;omega
def Ytt{L:Nat}{f0 f:Nat->V}{e:TypeId}(hZ:o+L<=Z)(eM:n2<=ir)(hN:ir<N)(hi:i<2)(hu:u<10^i)(r0:r.get 0=some (.slice ir o L cp 1))(BR:r.get 12=some (.int .u32 u))(s:HQ h N ir n2 Z o L x f0 e i u f r ⟨H,N,W⟩):
  Code A.C none A.nd ⟨r,167,[]⟩ ⟨H,N,W⟩ (fun ex fr st=>ex=.normal/\∃r',fr=⟨r',167,[]⟩/\Zc h N ir n2 Z o L x f0 e st):=by
 rw[bl]
 obtain⟨a4,_,aw,jR,ao,af⟩:=s
 simp only at aw jR ao
 have hle:=af.le
 obtain rfl|rfl:i=0\/i=1:=by omega
 ·simp[A.nd,r0,a4]
  exact⟨rfl,aw,ao,f,jR,fun j hj=>af.Y9 j (tX _) hj,af.out⟩
 ·have mQ:u<10:=by omega
  have e1:bj .u32 (48+(u:Int))=48+(u:Int):=J3 (by omega) (by omega)
  have e2:bj .u8 (48+(u:Int))=48+(u:Int):=Bz (by omega) (by omega)
  have hL:(0:Int)<(L:Int):=by omega
  simp(disch:=omega) [A.nd,r0,a4,BR,e1,e2,hL,jR,Ns]
  have v:=pd.one (i:=0) af (c:=c_ u) rfl
  rw[<-Yr2 mQ,kv]at v
  exact⟨rfl,by simpa[ax,s_.2 eM]using aw,fun t ht=>by rw[T.ag,ak ht];exact ao t ht,_,by rw[T.ag,av rfl],fun j hj=>v.Y9 j (tX _) hj,v.out⟩
def Yts{L:Nat}{f0 f:Nat->V}{e:TypeId}(hZ:o+L<=Z)(eM:n2<=ir)(hN:ir<N)(hi:i<4)(hu:u<10^i)(r0:r.get 0=some (.slice ir o L cp 1))(BR:r.get 12=some (.int .u32 u))(s:HQ h N ir n2 Z o L x f0 e i u f r ⟨H,N,W⟩):
  Code A.C none A.nf ⟨r,167,[]⟩ ⟨H,N,W⟩ (fun ex fr st=>ex=.normal/\∃r',fr=⟨r',167,[]⟩/\Zc h N ir n2 Z o L x f0 e st):=by
 rw[bl]
 have s0:=s
 obtain⟨a4,_,aw,jR,ao,af⟩:=s
 simp only at aw jR ao
 have hle:=af.le
 by_cases hc:i<2
 ·have c1:¬(2:Int)<=(i:Int):=by omega
  simp[A.nf,r0,a4,c1]
  refine jy (Ytt (i:=i) (u:=u) (f:=f) (cp:=cp) hZ eM hN hc hu (by simp[r0]) (by simp[BR]) ⟨by simp[a4],rfl,aw,jR,ao,af⟩) ?_
  rintro ex fr st ⟨rfl,r',rfl,hE⟩
  simp
  exact hE
 ·obtain⟨k,rfl⟩:∃k,i=k+2:=⟨i-2,by omega⟩
  have Nu:u<10000:=by
   have:10^(k+2)<=10^4:=qS (by decide) (by omega)
   omega
  have c1:(2:Int)<=(k:Int)+2:=by omega
  have vZ:¬N<=ir:=by omega
  have t6:=RM (a:=u) (by omega)
  have t7:=RL (a:=u)
  have v:=pd.two (i:=k) af (c:=c_ (u%100)) (d:=c_ (u%100/10)) (xK (by omega)) (xK (by omega))
  have fG:u/100<10^k:=by
   rw[pU (by decide)]
   rw[ke]at hu
   exact hu
  obtain⟨uq,EU⟩:∃y,u/100=y:=⟨_,rfl⟩
  obtain⟨p1,xJ⟩:∃y,u%100=y:=⟨_,rfl⟩
  rw[EU]at t6 v fG
  rw[xJ]at t7 v
  have b1:p1<100:=by omega
  have m1:=HR b1
  have AP:=HS b1
  have d1:=HO _ b1
  have g1:=HP _ b1
  obtain⟨y1,sU⟩:∃y,2*p1+1=y:=⟨_,rfl⟩
  rw[sU]at AP d1
  obtain⟨z1,uT⟩:∃y,2*p1=y:=⟨_,rfl⟩
  rw[uT]at m1 AP g1
  have e1:(k:Int)+2-1=(k:Int)+1:=by omega
  have e2:(k:Int)+2-2=(k:Int):=by omega
  have f1:((k:Int)+1).toNat=k+1:=by omega
  have hI:∀t n,(((H.set ir t).set ir n):T O).get ir=some n:=fun t n=>by rw[T.ag,av rfl]
  simp(disch:=first|(simp;done)|omega|(simp only[bA,cA,bo];omega)|rfl) [A.nf,r0,a4,BR,c1,jR,hN,vZ,ct.cv,Ns,t6,t7,m1,AP,d1,g1,e1,e2,f1]
  refine jy (Ytt (i:=k) (u:=uq) (cp:=cp) (e:=e) hZ eM hN (by omega) fG (by simp[r0]) (by simp) ⟨by simp,rfl,by simpa[ax,s_.2 eM]using aw,by simp only[T.ag,av];rfl,fun t ht=>by simp only[T.ag,ak ht];exact ao t ht,v⟩) ?_
  rintro ex fr st ⟨rfl,r',rfl,hE⟩
  simp
  exact hE
def pd.four{T L:Nat}{f0 f:Nat->V}(s:pd T o L x (i+4) u f0 f):pd T o L x i (u/10000) f0
  (lI (lI (lI (lI f (o+(i+3)) (vB (c_ (u%10000%100)))) (o+(i+2)) (vB (c_ (u%10000%100/10)))) (o+(i+1)) (vB (c_ (u%10000/100)))) (o+i) (vB (c_ (u%10000/100/10)))):=by
 have s1:=pd.two (i:=i+2) s (c:=c_ (u%10000%100)) (d:=c_ (u%10000%100/10)) (xK (by omega)) (xK (by omega))
 have s2:=pd.two (i:=i) s1 (c:=c_ (u%10000/100)) (d:=c_ (u%10000/100/10)) (xK (by omega)) (xK (by omega))
 rw[show u/100/100=u/10000 by omega]at s2
 exact s2
def Yv9{L:Nat}{f0 f:Nat->V}{e:TypeId}(hZ:o+L<=Z)(eM:n2<=ir)(hN:ir<N)(hi:i<8)(hu:u<10^i)(r0:r.get 0=some (.slice ir o L cp 1))(BR:r.get 12=some (.int .u32 u))(s:HQ h N ir n2 Z o L x f0 e i u f r ⟨H,N,W⟩):
  Code A.C none A.nh ⟨r,167,[]⟩ ⟨H,N,W⟩ (fun ex fr st=>ex=.normal/\∃r',fr=⟨r',167,[]⟩/\Zc h N ir n2 Z o L x f0 e st):=by
 rw[bl]
 obtain⟨a4,_,aw,jR,ao,af⟩:=s
 simp only at aw jR ao
 have hle:=af.le
 by_cases hc:i<4
 ·have c1:¬(4:Int)<=(i:Int):=by omega
  simp[A.nh,r0,a4,c1]
  refine jy (Yts (i:=i) (u:=u) (f:=f) (cp:=cp) hZ eM hN hc hu (by simp[r0]) (by simp[BR]) ⟨by simp[a4],rfl,aw,jR,ao,af⟩) ?_
  rintro ex fr st ⟨rfl,r',rfl,hE⟩
  simp
  exact hE
 ·obtain⟨k,rfl⟩:∃k,i=k+4:=⟨i-4,by omega⟩
  have Nu:u<100000000:=by
   have:10^(k+4)<=10^8:=qS (by decide) (by omega)
   omega
  have c1:(4:Int)<=(k:Int)+4:=by omega
  have vZ:¬N<=ir:=by omega
  have t4:=Ywk (a:=u) (by omega)
  have t5:=tm4 (a:=u)
  have v:=af.four
  have fG:u/10000<10^k:=by
   rw[pU (by decide)]
   rw[ke]at hu
   exact hu
  obtain⟨uq,EU⟩:∃y,u/10000=y:=⟨_,rfl⟩
  obtain⟨lo,fN⟩:∃y,u%10000=y:=⟨_,rfl⟩
  rw[EU]at t4 v fG
  rw[fN]at t5 v
  have t6:=RM (a:=lo) (by omega)
  have t7:=RL (a:=lo)
  obtain⟨p1,xJ⟩:∃y,lo/100=y:=⟨_,rfl⟩
  obtain⟨p2,zj⟩:∃y,lo%100=y:=⟨_,rfl⟩
  rw[xJ]at t6 v
  rw[zj]at t7 v
  have b1:p1<100:=by omega
  have m1:=HR b1
  have AP:=HS b1
  have d1:=HO _ b1
  have g1:=HP _ b1
  obtain⟨y1,sU⟩:∃y,2*p1+1=y:=⟨_,rfl⟩
  rw[sU]at AP d1
  obtain⟨z1,uT⟩:∃y,2*p1=y:=⟨_,rfl⟩
  rw[uT]at m1 AP g1
  have b2:p2<100:=by omega
  have m2:=HR b2
  have HT:=HS b2
  have d2:=HO _ b2
  have g2:=HP _ b2
  obtain⟨y2,xx⟩:∃y,2*p2+1=y:=⟨_,rfl⟩
  rw[xx]at HT d2
  obtain⟨z2,dT⟩:∃y,2*p2=y:=⟨_,rfl⟩
  rw[dT]at m2 HT g2
  have e1:(k:Int)+4-1=(k:Int)+3:=by omega
  have e2:(k:Int)+4-2=(k:Int)+2:=by omega
  have e3:(k:Int)+4-3=(k:Int)+1:=by omega
  have e4:(k:Int)+4-4=(k:Int):=by omega
  have f1:((k:Int)+3).toNat=k+3:=by omega
  have f2:((k:Int)+2).toNat=k+2:=by omega
  have f3:((k:Int)+1).toNat=k+1:=by omega
  simp(disch:=first|(simp;done)|omega|(simp only[bA,cA,bo];omega)|rfl) [A.nh,r0,a4,BR,c1,jR,hN,vZ,Ns,t4,t5,t6,t7,m1,AP,d1,g1,m2,HT,d2,g2,e1,e2,e3,e4,f1,f2,f3]
  refine jy (Yts (i:=k) (u:=uq) (cp:=cp) (e:=e) hZ eM hN (by omega) fG (by simp[r0]) (by simp) ⟨by simp,rfl,by simpa[ax,s_.2 eM]using aw,by simp only[T.ag,av];rfl,fun t ht=>by simp only[T.ag,ak ht];exact ao t ht,v⟩) ?_
  rintro ex fr st ⟨rfl,r',rfl,hE⟩
  simp
  exact hE
def Code.mono{C:Cx}{ro:Option Nat}{c:bU}{fr:Fr}{st:St}{P Q:Ex->Fr->St->Prop}(h:Code C ro c fr st P)(k:∀e fr st,P e fr st->Q e fr st):Code C ro c fr st Q:=by
 rw[bl]
 refine jy h ?_
 intro e fr st hp
 simp
 exact k _ _ _ hp
structure FbR (h:T O) (N ir n2 Z o L x:Nat) (f0:Nat->V) (e:TypeId) (w:List Nat) (st:St):Prop where
 n:st.n=N
 w:ax n2 st.w=ax n2 w
 Nt:∀t,t≠ir->st.h.get t=h.get t
 ex:∃f,st.h.get ir=some (.cells (vY Z f) e true)/\(∀j,j<L->f (o+j)=vB (c_ (x/10^(L-1-j))))/\∀j,j<o\/o+L<=j->f j=f0 j
def Zd{L:Nat}{f0:Nat->V}{e:TypeId}{w:List Nat}(hZ:o+L<=Z)(hL:L<100)(eM:n2<=ir)(hN:ir<N)(hx:x<10^L)(hx6:x<18446744073709551616)(hr:h.get ir=some (.cells (vY Z f0) e true)):
  Call A.C (.func 276 [] []) [.slice ir o L cp 1,.int .u64 x] ⟨h,N,w⟩ (fun _ st=>FbR h N ir n2 Z o L x f0 e w st):=by
 rw[aR,A.k276 (by simp)]
 simp[A.b276]
 refine bL [(1,1),(4,11),(19,95)] (fun ex r st=>ex=.exit 0/\∃(i u:Nat) (f:Nat->V),i<8/\u<10^i/\r.get 1=some (.int .u64 u)/\HQ h N ir n2 Z o L x f0 e i u f r st) (fun i r st=>∃(u:Nat) (f:Nat->V),u<10^i/\u<18446744073709551616/\r.get 1=some (.int .u64 u)/\HQ h N ir n2 Z o L x f0 e i u f r st) L ?_ ?_ ?_
 ·refine⟨x,f0,hx,hx6,by simp,by simp,rfl,by simp[ax],hr,fun t _=>rfl,⟨aM _,by simp,fun j h1 h2=>by omega,fun j _=>rfl⟩⟩
 ·rintro i r ⟨H,n1,W⟩ hr hf ⟨u,f,hu,HU,a1,J⟩
  have hn:=J.n
  simp only at hn
  subst hn
  have r0:r.get 0=some (.slice ir o L cp 1):=by rw[hr 0 (by decide)];simp
  by_cases h8:i<8
  ·have c8:¬(8:Int)<=(i:Int):=by omega
   have a4:=J.r4
   rw[bl]
   simp[A.nc,hr,hf,a4,c8]
   exact⟨i,h8,u,hu,by simp[a1],f,⟨by simp[a4],J.n,J.w,J.row,J.Nt,J.fmt⟩⟩
  ·obtain⟨k,rfl⟩:∃k,i=k+8:=⟨i-8,by omega⟩
   refine Code.mono (Yqh hZ hL eM hN hf r0 a1 HU J) ?_
   rintro ex fr st ⟨rfl,r',f',rfl,zN,RN,J'⟩
   refine Zuw.2 ⟨zN,k,by omega,_,f',?_,by omega,RN,J'⟩
   rw[pU (by decide)]
   rw[ke]at hu
   exact hu
 ·rintro ex r ⟨H,n1,W⟩ hr ⟨rfl,i,u,f,h8,hu,a1,J⟩
  have hn:=J.n
  simp only at hn
  subst hn
  have hu7:u<4294967296:=by
   have:10^i<=10^7:=qS (by decide) (by omega)
   omega
  have e1:=tw hu7
  simp[a1,e1]
  refine jy (Yv9 (i:=i) (u:=u) (f:=f) (cp:=cp) (e:=e) (H:=H) (W:=W) hZ eM hN h8 hu (by simp;rw[hr 0 (by decide)];simp) (by simp) ⟨by simpa using J.r4,rfl,J.w,J.row,J.Nt,J.fmt⟩) ?_
  rintro ex fr ⟨H2,pG,W2⟩ ⟨rfl,r',rfl,hn,hW,hO,hE⟩
  simp only at hn
  subst hn
  simp[]
  exact⟨rfl,by rw[MQ (MR hW)],hO,hE⟩
variable {j o x:Nat}
set_option maxHeartbeats 1000000
def A.b248:=A.q Tryz.f248
def A.k248:=@A.kk 248 32 [.tmp 4] A.b248 (by kernel_rfl) rfl
def A.b273:=A.q Tryz.f273
def A.k273:=@A.kk 273 54 [.tmp 4] A.b273 (by kernel_rfl) rfl
def A.b243:=A.q Tryz.f243
def A.k243:=@A.kk 243 5 [.tmp 2] A.b243 (by kernel_rfl) rfl
def A.b207:=A.q Tryz.f207
def A.k207:=@A.kk 207 5 [.tmp 2] A.b207 (by kernel_rfl) rfl
def A.b209:=A.q Tryz.f209
def A.k209:=@A.kk 209 8 [.tmp 4] A.b209 (by kernel_rfl) rfl
def Yk3:∀{x:Nat},(j:Nat)->j<(df x).length->(df x)[j]?=some (c_ (x/10^((df x).length-1-j))):=by
 intro x
 induction x using Nat.strongRecOn with
 |_ x ih=>
  intro j hj
  by_cases h0:x=0
  ·subst h0;rw[tG]at hj;simp at hj
  ·have e:=xC h0
   have hl:(df x).length=(df (x/10)).length+1:=by rw[e];simp
   rw[hl]
   rw[e]
   by_cases od:j<(df (x/10)).length
   ·rw[iM od,ih _ (Cr (by omega) (by decide)) j od,Gb]
    congr 3
    rw[show (df (x/10)).length+1-1-j=((df (x/10)).length-1-j)+1 by omega,gg,jb]
   ·have:j=(df (x/10)).length:=by omega
    subst this
    simp
def Ze{L:Nat}{f:Nat->V}(hL:L=(df x).length)(hf:∀j,j<L->f (o+j)=vB (c_ (x/10^(L-1-j)))):(List.range L).map (fun j=>f (o+j))=(df x).map vB:=by
 apply lA
 intro j
 rw[eY,eY]
 by_cases hj:j<L
 ·rw[DT hj,Yk3 j (by omega),<-hL]
  simp[hf j hj]
 ·rw[eJ (by simpa using hj),eJ (by omega)]
  rfl
def Zf{Z L:Nat}{f:Nat->V}(h:o+L<=Z):aF (vY Z f) o L=some ((List.range L).map fun j=>f (o+j)):=by
 unfold aF
 rw[AO,av h]
 congr 1
 apply lA
 intro j
 rw[iz,eY]
 by_cases hj:j<L
 ·rw[av hj,ff,RK (by omega),DT hj];rfl
 ·rw[ak hj,eJ (by simpa using hj)];rfl
def RO:V->Option UInt8
 |.int .u8 n=>some (UInt8.ofNat n.toNat)
 |_=>none
def Nv(st:St):Option (List V)->Option (V×St)
 |some l=>match l.mapM RO with
  |some s=>some (.str s,st)
  |none=>none
 |none=>none
def RP(st:St)(o len:Nat):Option (List V×TypeId×Bool)->Option (V×St)
 |some (c,_,_)=>Nv st (aF c o len)
 |none=>none
def Zg(st:St):Option V->Option (V×St)
 |some .aa=>some (.str [],st)
 |some (.slice i o len _ 1)=>RP st o len (st.row i)
 |_=>none
def Zh{x:Src}{call:cI}{r:T V}{st:St}:Gu x call r st=Zg st (x.ev r):=by
 unfold Gu Zg RP Nv
 rfl
def Zi{st:St}{i len:Nat}{c:Option Nat}:Zg st (some (.slice i o len c 1))=RP st o len (st.row i):=rfl
def Zj{st:St}{len:Nat}{c:List V}{e:TypeId}{b:Bool}:RP st o len (some (c,e,b))=Nv st (aF c o len):=rfl
def Zk{st:St}:∀{s:aQ},Nv st (some (s.map vB))=some (.str s,st):=by
 intro s
 have:(s.map vB).mapM RO=some s:=by
  induction s with
  |nil=>rfl
  |cons c s ih=>
   rw[py,List.mapM_cons,ih]
   have:RO (vB c)=some c:=by simp[RO,vB,cM]
   simp[this]
 simp only[Nv,this]
def Ywb:∀j:Nat,j<10->(List.take (j+1) Y6).drop j=[c_ j]:=by decide+kernel
def Yt3:∀j:Nat,j<100->(List.take (2*j+2) rL).drop (2*j)=[c_ (j/10),c_ j]:=by decide+kernel
def Yby:Y6.length=36:=by decide+kernel
def Ygl:rL.length=200:=by decide+kernel
def Ygq(h:j<10):ar j=[c_ j]:=by
 unfold ar
 split
 ·subst j;rfl
 ·rw[xC (by assumption),show j/10=0 by omega,tG];rfl
def Ybz(h:j<100)(h2:10<=j):ar j=[c_ (j/10),c_ j]:=by
 unfold ar
 rw[ak (by omega),xC (by omega),xC (by omega),show j/10/10=0 by omega,tG];rfl
def Zxq(hj:j<100){h:T O}{N:Nat}:Fn A.C 274 [.int .i64 j] h N (fun v h' N'=>h'=h/\N'=N/\v=.str (ar j)):=by
 intro w
 rw[aR,A.k274 (by simp)]
 by_cases c:j<10
 ·have e1:=Ywb j c
  have e2:(j:Int)+1<=36:=by omega
  have e3:((j:Int)+1).toNat=j+1:=by omega
  have e4:(j:Int)<10:=by omega
  have e5:(0:Int)<=(j:Int)+1:=by omega
  have e8:(j:Int)<=(j:Int)+1:=by omega
  simp(disch:=omega) [A.b274,e4,zb,aB,dv,j_,Yby,e1,e2,e3,e5,e8,aE,Ygq c]
  exact ab.refl
 ·have e1:=Yt3 j hj
  have e4:¬(j:Int)<10:=by omega
  have e2:(j:Int)*2+2<=200:=by omega
  have e3:((j:Int)*2+2).toNat=2*j+2:=by omega
  have e5:(0:Int)<=(j:Int)*2+2:=by omega
  have e6:(0:Int)<=(j:Int)*2:=by omega
  have e8:(j:Int)*2<=2*(j:Int)+2:=by omega
  have e7:((j:Int)*2).toNat=2*j:=by omega
  simp(disch:=omega) [A.b274,e4,zb,aB,dv,j_,Ygl,e1,e2,e3,e5,e6,e7,e8,aE,Ybz hj (s_.1 c)]
  exact ab.refl
def Zl:[V.int .u8 0,V.int .u8 0,V.int .u8 0,V.int .u8 0,V.int .u8 0,V.int .u8 0,V.int .u8 0,V.int .u8 0,V.int .u8 0,V.int .u8 0,V.int .u8 0,V.int .u8 0,V.int .u8 0,V.int .u8 0,V.int .u8 0,V.int .u8 0,V.int .u8 0,V.int .u8 0,V.int .u8 0,V.int .u8 0,V.int .u8 0,V.int .u8 0,V.int .u8 0,V.int .u8 0]=vY 24 (fun _=>.int .u8 0):=rfl
def Zq6(hx:x<18446744073709551616):(df x).length<=20:=pC.1 (by omega)
def HV(h:x≠0):ar x=df x:=by unfold ar;rw[ak h]
def Yv6(hx:x<18446744073709551616){h:T O}{N:Nat}(hp:kZ h N):Fn A.C 248 [.int .u64 x,.int .i64 10] h N (fun v h' N'=>v=.str (ar x)):=by
 intro w
 rw[aR,A.k248 (by simp)]
 by_cases c:x<100
 ·have c1:(x:Int)<100:=by omega
  have e1:bj .i64 (x:Int)=(x:Int):=cD (by omega) (by omega)
  simp[A.b248,aG,c1,e1]
  refine aA (Zxq c) ?_
  rintro _ _ _ _ ⟨rfl,rfl,rfl⟩
  simp[aE]
  exact ab.refl
 ·have c1:¬(x:Int)<100:=by omega
  simp[A.b248,aG,c1,Zl]
  refine aA (Y8 hx (by omega) (hp.ae (aN ab.refl _))) ?_
  rintro _ _ _ _ ⟨rfl,rfl,rfl⟩
  have hl:=Zq6 hx
  obtain⟨L,hL⟩:∃L,(df x).length=L:=⟨_,rfl⟩
  have RQ:x<10^L:=pC.2 (by omega)
  have e2:(L:Int)<=24:=by omega
  rw[hL]
  rw[hL]at hl
  simp[Ac,aB,dv,j_,e2,AO]
  refine BB (Zd (n2:=N) (Z:=24) (o:=0) (x:=x) (f0:=fun _=>.int .u8 0) (e:=261) (by omega) (by omega) (aM N) (vn N) RQ hx (by rw[T.ag,av rfl])) ?_
  rintro v ⟨H2,n2,W2⟩ ⟨hn,hW,hO,f,hr,hd,_⟩
  simp only at hn hW hO hr
  subst hn
  have cC:=Zf (f:=f) (show 0+L<=24 by omega)
  rw[Ze hL.symm hd]at cC
  simp[Ac,aB,dv,j_,e2,AO,Zh,Zi,Zj,hr,cC,Zk,aE]
  have qO:ax N W2=[]:=hW
  rw[qO,HV (by omega)]
  refine⟨rfl,⟨uR _,fun i hi=>?_⟩,rfl⟩
  rw[hO i (by omega),T.ag,ak (by omega)]
def Ymu(hx:x<18446744073709551616){h:T O}{N:Nat}(hp:kZ h N):Fn A.C 209 [.int .u64 x,.int .i64 10] h N (fun v h' N'=>v=.str (ar x)):=by
 intro w
 rw[aR,A.k209 (by simp)]
 simp[A.b209]
 refine aA (Yv6 hx hp) ?_
 rintro _ _ _ k1 rfl
 simp[aE]
 exact k1
def Yv8{z:Int}(h1: -9223372036854775808<=z)(h2:z<9223372036854775808){h:T O}{N:Nat}(hp:kZ h N):Fn A.C 273 [.int .i64 z,.int .i64 10] h N (fun v h' N'=>v=.str (aP z)):=by
 intro w
 rw[aR,A.k273 (by simp)]
 by_cases c:0<=z/\z<100
 ·obtain⟨j,rfl⟩:=D6 c.1
  have c1:(j:Int)<100:=c.2
  have hj:aP (j:Int)=ar j:=by unfold aP;rw[ak (by omega)];rfl
  simp[A.b273,aG,c1]
  refine aA (Zxq (by omega)) ?_
  rintro _ _ _ _ ⟨rfl,rfl,rfl⟩
  simp[aE,hj]
  exact ab.refl
 ·have hx:z.natAbs<18446744073709551616:=by omega
  have mH:z.natAbs≠0:=by omega
  obtain⟨x,Zm⟩:∃x,z.natAbs=x:=⟨_,rfl⟩
  have hl:=Zq6 (Zm▸hx)
  obtain⟨L,hL⟩:∃L,(df x).length=L:=⟨_,rfl⟩
  have RQ:x<10^L:=pC.2 (by omega)
  have hL0:0<L:=by rw[<-hL];exact Zuk (by omega)
  rw[hL]at hl
  have e2:(L:Int)+1<=24:=by omega
  have e3:(0:Int)<=(L:Int)+1:=by omega
  have e4:((L:Int)+1).toNat=L+1:=by omega
  have e5:(1:Int)<=(L:Int)+1:=by omega
  have e6:(1:Int)+(L:Int)=(L:Int)+1:=by omega
  by_cases hz:z<0
  ·have c2:¬0<=z:=by omega
   have w1:IntKind.wrap .u64 (-(bj .u64 z))=(x:Int):=by rw[Zip,JT];omega
   simp[A.b273,aG,c2,hz,Zl,w1]
   refine aA (Y8 (x:=x) (by omega) (by omega) (hp.ae (aN ab.refl _))) ?_
   rintro _ _ _ _ ⟨rfl,rfl,rfl⟩
   rw[hL]
   simp(disch:=omega) [Ac,aB,dv,j_,e2,e3,e4,e5,e6,AO]
   refine BB (Zd (n2:=N) (Z:=24) (o:=1) (x:=x) (f0:=fun _=>.int .u8 0) (e:=261) (by omega) (by omega) (aM N) (vn N) RQ (by omega) (by rw[T.ag,av rfl])) ?_
   rintro v ⟨H2,n2,W2⟩ ⟨hn,hW,hO,f,hr,hd,_⟩
   simp only at hn hW hO hr
   subst hn
   have qO:ax N W2=[]:=hW
   have cC:=Zf (f:=lI f 0 (.int .u8 45)) (show 0+(L+1)<=24 by omega)
   have dp:(List.range (L+1)).map (fun j=>lI f 0 (.int .u8 45) (0+j))=(45::df x).map vB:=by
    rw[List.range_succ_eq_map,py,List.map_map,py,<-Ze hL.symm hd]
    congr 1
    apply zA
    intro j _
    show lI f 0 _ (0+(j+1))=_
    rw[lI,ak (by omega)]
    congr 1;omega
   rw[dp]at cC
   have BU:aP z=45::df x:=by unfold aP;rw[av hz,Zm,HV (by omega)]
   obtain⟨S,hS⟩:∃S,45::df x=S:=⟨_,rfl⟩
   rw[hS]at cC BU
   simp(disch:=omega) [Ac,Cw,aB,dv,j_,e2,e3,e4,e5,e6,AO,Zh,Zi,Zj,hr,hz,Ns,cC,Zk,aE,BU,qO]
   refine⟨uR _,fun i hi=>?_⟩
   rw[T.ag,ak (by omega),hO i (by omega),T.ag,ak (by omega)]
  ·have c2:0<=z:=by omega
   have c3:¬z<100:=by omega
   have w1:bj .u64 z=(x:Int):=by rw[EO (by omega) (by omega)];omega
   simp[A.b273,aG,c2,c3,hz,Zl,w1]
   refine aA (Y8 (x:=x) (by omega) (by omega) (hp.ae (aN ab.refl _))) ?_
   rintro _ _ _ _ ⟨rfl,rfl,rfl⟩
   rw[hL]
   simp(disch:=omega) [Ac,aB,dv,j_,e2,e3,e4,e5,e6,AO]
   refine BB (Zd (n2:=N) (Z:=24) (o:=1) (x:=x) (f0:=fun _=>.int .u8 0) (e:=261) (by omega) (by omega) (aM N) (vn N) RQ (by omega) (by rw[T.ag,av rfl])) ?_
   rintro v ⟨H2,n2,W2⟩ ⟨hn,hW,hO,f,hr,hd,_⟩
   simp only at hn hW hO hr
   subst hn
   have qO:ax N W2=[]:=hW
   have cC:=Zf (f:=f) (show 1+L<=24 by omega)
   rw[Ze hL.symm hd]at cC
   have BU:aP z=df x:=by unfold aP;rw[ak hz,Zm,HV (by omega)]
   simp(disch:=omega) [Ac,aB,dv,j_,e2,e3,e4,e5,e6,AO,Zh,Zi,Zj,hr,hz,cC,Zk,aE,BU,qO]
   refine⟨uR _,fun i hi=>?_⟩
   rw[hO i (by omega),T.ag,ak (by omega)]
def Yp4{z:Int}(h1: -9223372036854775808<=z)(h2:z<9223372036854775808){h:T O}{N:Nat}(hp:kZ h N):Fn A.C 207 [.int .i64 z] h N (fun v h' N'=>v=.str (aP z)):=by
 intro w
 rw[aR,A.k207 (by simp)]
 simp[A.b207]
 refine aA (?_:Fn A.C 243 [.int .i64 z] h N (fun v h' N'=>v=.str (aP z))) ?_
 ·intro w
  rw[aR,A.k243 (by simp)]
  simp[A.b243]
  refine aA (Yv8 h1 h2 hp) ?_
  rintro _ _ _ k1 rfl
  simp[aE]
  exact k1
 ·rintro _ _ _ k1 rfl
  simp[aE]
  exact k1
end
end Go.Mx
