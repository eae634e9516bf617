/-strconv-/
import Derived.Test.YtlfdeoomaccciaaGreatDoorNbK
set_option linter.all false
namespace Go.Mx
noncomputable section
open Go Go.Proofs
variable {H h:T O} {N Z a i ir k n2 o u x:Nat} {W:List Nat} {cp:Option Nat} {r:T V}
set_option maxHeartbeats 4000000
set_option maxRecDepth 1000000
def rJ:List UInt8:=[48,48,48,49,48,50,48,51,48,52,48,53,48,54,48,55,48,56,48,57,49,48,49,49,49,50,49,51,49,52,49,53,49,54,49,55,49,56,49,57,50,48,50,49,50,50,50,51,50,52,50,53,50,54,50,55,50,56,50,57,51,48,51,49,51,50,51,51,51,52,51,53,51,54,51,55,51,56,51,57,52,48,52,49,52,50,52,51,52,52,52,53,52,54,52,55,52,56,52,57,53,48,53,49,53,50,53,51,53,52,53,53,53,54,53,55,53,56,53,57,54,48,54,49,54,50,54,51,54,52,54,53,54,54,54,55,54,56,54,57,55,48,55,49,55,50,55,51,55,52,55,53,55,54,55,55,55,56,55,57,56,48,56,49,56,50,56,51,56,52,56,53,56,54,56,55,56,56,56,57,57,48,57,49,57,50,57,51,57,52,57,53,57,54,57,55,57,56,57,57]
def YQ:List UInt8:=[48,49,50,51,52,53,54,55,56,57,97,98,99,100,101,102,103,104,105,106,107,108,109,110,111,112,113,114,115,116,117,118,119,120,121,122]
def A.b278:=A.q Tryz.f278
def A.k278:=@A.kk 278 15 [.tmp 2] A.b278 (by kernel_rfl) rfl
def A.b293:=A.q Tryz.f293
def A.k293:=@A.kk 293 6 [.tmp 2] A.b293 (by kernel_rfl) rfl
def A.b294:=A.q Tryz.f294
def A.k294:=@A.kk 294 4 [.tmp 2] A.b294 (by kernel_rfl) rfl
def A.nj:bO:=.seq (sr [mv 19 4,bc 20 .geq 19 8]
 (cd 20
 (.skip)
 (.exit 0)))
 (.block 1 (sr [mv 21 1,ge 22 (.bin .rem (.node []) false (tq 21) (.const (.int .u64 100000000))),ge 23 (.cP .u32 (tq 22)),mv 5 23]
 (sr [mv 24 1,ge 25 (.bin .quo (.node []) false (tq 24) (.const (.int .u64 100000000))),mv 1 25]
 (sr [mv 26 5,ge 27 (.bin .quo (.node []) false (tq 26) (.const (.int .u32 10000))),mv 28 5,ge 29 (.bin .rem (.node []) false (tq 28) (.const (.int .u32 10000))),mv 6 27,mv 7 29]
 (sr [mv 30 7,ge 31 (.bin .quo (.node []) false (tq 30) (.const (.int .u32 100))),ge 32 (.bin .mul (.node []) false (tq 31) (.const (.int .u32 2))),mv 33 7,ge 34 (.bin .rem (.node []) false (tq 33) (.const (.int .u32 100))),ge 35 (.bin .mul (.node []) false (tq 34) (.const (.int .u32 2))),mv 8 32,mv 9 35]
 (sr [mv 36 6,ge 37 (.bin .quo (.node []) false (tq 36) (.const (.int .u32 100))),ge 38 (.bin .mul (.node []) false (tq 37) (.const (.int .u32 2))),mv 39 6,ge 40 (.bin .rem (.node []) false (tq 39) (.const (.int .u32 100))),ge 41 (.bin .mul (.node []) false (tq 40) (.const (.int .u32 2))),mv 10 38,mv 11 41]
 (.seq (.dj [mv 42 0,mv 43 4,bc 44 .sub 43 1,mv 45 0,mv 46 4,bc 47 .sub 46 2,mv 48 9,ge 49 (.bin .add (.node []) false (tq 48) (.const (.int .u32 1))),ge 50 (.bI (.const (.str rJ)) (tq 49)),mv 51 9,ge 52 (.bI (.const (.str rJ)) (tq 51)),ia 53 1 42 44,so 53 50,ia 54 1 45 47,so 54 52] [0,0,2,0,0,16,0,64,192,0,512,455,2503,8191,16383])
 (.seq (.dj [mv 55 0,mv 56 4,bc 57 .sub 56 3,mv 58 0,mv 59 4,bc 60 .sub 59 4,mv 61 8,ge 62 (.bin .add (.node []) false (tq 61) (.const (.int .u32 1))),ge 63 (.bI (.const (.str rJ)) (tq 62)),mv 64 8,ge 65 (.bI (.const (.str rJ)) (tq 64)),ia 66 1 55 57,so 66 63,ia 67 1 58 60,so 67 65] [0,0,2,0,0,16,0,64,192,0,512,455,2503,8191,16383])
 (.seq (.dj [mv 68 0,mv 69 4,bc 70 .sub 69 5,mv 71 0,mv 72 4,bc 73 .sub 72 6,mv 74 11,ge 75 (.bin .add (.node []) false (tq 74) (.const (.int .u32 1))),ge 76 (.bI (.const (.str rJ)) (tq 75)),mv 77 11,ge 78 (.bI (.const (.str rJ)) (tq 77)),ia 79 1 68 70,so 79 76,ia 80 1 71 73,so 80 78] [0,0,2,0,0,16,0,64,192,0,512,455,2503,8191,16383])
 (.seq (.dj [mv 81 0,mv 82 4,bc 83 .sub 82 7,mv 84 0,mv 85 4,bc 86 .sub 85 8,mv 87 10,ge 88 (.bin .add (.node []) false (tq 87) (.const (.int .u32 1))),ge 89 (.bI (.const (.str rJ)) (tq 88)),mv 90 10,ge 91 (.bI (.const (.str rJ)) (tq 90)),ia 92 1 81 83,so 92 89,ia 93 1 84 86,so 93 91] [0,0,2,0,0,16,0,64,192,0,512,455,2503,8191,16383])
 (.dP [mv 94 4,bc 95 .sub 94 8,mv 4 95])))))))))))
def A.nk:bO:=sr [mv 160 4,bc 161 .gtr 160 0]
 (cd 161
 (.dP [mv 162 0,mv 163 12,ge 164 (.bin .add (.node []) false (.const (.int .u32 48)) (tq 163)),ge 165 (.cP .u8 (tq 164)),ge 166 (.e_ 1 (tq 162) (kq 0)),so 166 165])
 (.skip))
def A.np:bO:=.seq (sr [mv 138 4,bc 139 .geq 138 2]
 (cd 139
 (sr [mv 140 12,ge 141 (.bin .rem (.node []) false (tq 140) (.const (.int .u32 100))),ge 142 (.bin .mul (.node []) false (tq 141) (.const (.int .u32 2))),mv 16 142]
 (sr [mv 143 12,ge 144 (.bin .quo (.node []) false (tq 143) (.const (.int .u32 100))),mv 12 144]
 (.seq (.dj [mv 145 0,mv 146 4,bc 147 .sub 146 1,mv 148 0,mv 149 4,bc 150 .sub 149 2,mv 151 16,ge 152 (.bin .add (.node []) false (tq 151) (.const (.int .u32 1))),ge 153 (.bI (.const (.str rJ)) (tq 152)),mv 154 16,ge 155 (.bI (.const (.str rJ)) (tq 154)),ia 156 1 145 147,so 156 153,ia 157 1 148 150,so 157 155] [0,0,2,0,0,16,0,64,192,0,512,455,2503,8191,16383])
 (.dP [mv 158 4,bc 159 .sub 158 2,mv 4 159]))))
 (.skip)))
 A.nk
def A.nt:bO:=.seq (sr [mv 98 4,bc 99 .geq 98 4]
 (cd 99
 (sr [mv 100 12,ge 101 (.bin .rem (.node []) false (tq 100) (.const (.int .u32 10000))),mv 13 101]
 (sr [mv 102 12,ge 103 (.bin .quo (.node []) false (tq 102) (.const (.int .u32 10000))),mv 12 103]
 (sr [mv 104 13,ge 105 (.bin .quo (.node []) false (tq 104) (.const (.int .u32 100))),ge 106 (.bin .mul (.node []) false (tq 105) (.const (.int .u32 2))),mv 107 13,ge 108 (.bin .rem (.node []) false (tq 107) (.const (.int .u32 100))),ge 109 (.bin .mul (.node []) false (tq 108) (.const (.int .u32 2))),mv 14 106,mv 15 109]
 (.seq (.dj [mv 110 0,mv 111 4,bc 112 .sub 111 1,mv 113 0,mv 114 4,bc 115 .sub 114 2,mv 116 15,ge 117 (.bin .add (.node []) false (tq 116) (.const (.int .u32 1))),ge 118 (.bI (.const (.str rJ)) (tq 117)),mv 119 15,ge 120 (.bI (.const (.str rJ)) (tq 119)),ia 121 1 110 112,so 121 118,ia 122 1 113 115,so 122 120] [0,0,2,0,0,16,0,64,192,0,512,455,2503,8191,16383])
 (.seq (.dj [mv 123 0,mv 124 4,bc 125 .sub 124 3,mv 126 0,mv 127 4,bc 128 .sub 127 4,mv 129 14,ge 130 (.bin .add (.node []) false (tq 129) (.const (.int .u32 1))),ge 131 (.bI (.const (.str rJ)) (tq 130)),mv 132 14,ge 133 (.bI (.const (.str rJ)) (tq 132)),ia 134 1 123 125,so 134 131,ia 135 1 126 128,so 135 133] [0,0,2,0,0,16,0,64,192,0,512,455,2503,8191,16383])
 (.dP [mv 136 4,bc 137 .sub 136 4,mv 4 137]))))))
 (.skip)))
 A.np
def A.b279:bO:=sr [mv 17 0,ln 18 17,mv 4 18]
 (.seq (.block 0 (.loop A.nj))
 (sr [mv 96 1,ge 97 (.cP .u32 (tq 96)),mv 12 97]
 A.nt))
def A.k279:=@A.kk 279 167 [] A.b279 (by kernel_rfl) rfl
def A.b277:bO:=sr [ge 2 (.km (.const (.str [])))]
 (.seq (sr [mv 3 0,bc 4 .lss 3 10]
 (cd 4
 (sr [mv 5 0,mv 6 0,bc 7 .add 6 1,ge 8 (.cg (.const (.str YQ)) (some (tq 5)) (some (tq 7))),mv 2 8]
 (.ret))
 (.skip)))
 (sr [mv 9 0,bc 10 .mul 9 2,mv 11 0,bc 12 .mul 11 2,bc 13 .add 12 2,ge 14 (.cg (.const (.str rJ)) (some (tq 10)) (some (tq 13))),mv 2 14]
 (.ret)))
def A.k277:=@A.kk 277 15 [.tmp 2] A.b277 (by kernel_rfl) rfl
@[simp] def Yuz {a b:Nat}:a<b\/b<=a:=Nat.lt_or_ge a b
def J7{n:Int}(h1:0<=n)(h2:n<4294967296):bl .u32 n=n:=by rw[zZ];show n%4294967296=n;omega
def YR:List Nat:=[1,10,100,1000,10000,100000,1000000,10000000,100000000,1000000000,10000000000,100000000000,1000000000000,10000000000000,100000000000000,1000000000000000,10000000000000000,100000000000000000,1000000000000000000,10000000000000000000]
def l_(h:T O)(N:Nat):Prop:=5<N/\h.get 5=some A.FY
def l_.ae{h':T O}{N':Nat}(s:l_ h N)(k:ab h N h' N'):l_ h' N':=by
 exact⟨eY s.1 k.le,(k.get _ s.1).trans s.2⟩
def l_.ex(s:l_ h N):5<N/\∃e rw,h.get 5=some (.cells (dg YR) e rw):=⟨s.1,_,_,s.2.trans rfl⟩
def Yhq:∀j:Nat,j<20->YR[j]?=some (10^j):=by decide+kernel
def Yna{j:Nat}(h:j<20):(dg YR)[j]?=some (.int .u64 ((10^j:Nat):Int)):=fu (Yhq j h)
def Ykx:∀b:Nat,b<65->0<b->10^(b*78913/262144)<=10*2^(b-1)/\2^b<=10^(b*78913/262144+1)/\b*78913/262144<20:=by decide+kernel
def Yub{b:Nat}(hb:b<65)(hk:b*78913/262144=k){h:T O}{N:Nat}:Fn A.C 293 [.int .i64 b] h N (fun v h' N'=>h'=h/\N'=N/\v=.int .i64 (k:Nat)):=by
 intro w
 rw[aN,A.k293 (by simp)]
 have e1:bl .i64 ((b:Int)*78913)=(b:Int)*78913:=cA (by omega) (by omega)
 have e2:y8 .shr .i64 ((b:Int)*78913) 18=some (.int .i64 ((b:Int)*78913/262144)):=by
  unfold y8
  rw[ak (by omega)]
  show some (V.int .i64 (Int.fdiv _ 262144))=_
  rw[Int.fdiv_eq_ediv_of_nonneg _ (by omega)]
 have e3:(b:Int)*78913/262144=k:=by omega
 simp[A.b293,e1,e2,e3,aA]
 exact ab.refl
def Yur{b:Bool}:Fn A.C 294 [.bool b] h N (fun v h' N'=>h'=h/\N'=N/\v=.int .i64 (if b=true then 1 else 0)):=by
 intro w
 rw[aN,A.k294 (by simp)]
 cases b
 ·simp[A.b294,aA]
  exact ab.refl
 ·simp[A.b294,aA]
  exact ab.refl
def Zrt(hx:0<x)(hb:aX x<65):(if 10^(aX x*78913/262144)<=x then 1 else 0)+aX x*78913/262144=(de x).length:=by
 have mG:x≠0:=by omega
 have h1:=Rm x
 have h2:=J1 mG
 have h0:0<aX x:=by unfold aX;rw[ak mG];omega
 obtain⟨g1,g2,g3⟩:=Ykx _ hb h0
 generalize hk:aX x*78913/262144=k at*
 have u1:(de x).length<=k+1:=pK.1 (by omega)
 by_cases c:10^k<=x
 ·rw[ay c]
  have:¬(de x).length<=k:=fun hc=>by have:=pK.2 hc;omega
  omega
 ·rw[ak c]
  have u2:(de x).length<=k:=pK.1 (by omega)
  cases k with
  |zero=>omega
  |succ j=>
   have:¬(de x).length<=j:=fun hc=>by
    have:=pK.2 hc
    rw[fZ]at g1
    omega
   omega
def YT(hx:x<18446744073709551616)(h0:0<x){h:T O}{N:Nat}(hp:l_ h N):Fn A.C 278 [.int .u64 x] h N (fun v h' N'=>h'=h/\N'=N/\v=.int .i64 ((de x).length:Nat)):=by
 intro w
 have hb:aX x<65:=by
  apply tn
  intro hc
  have h2:=J1 (show x≠0 by omega)
  have:2^64<=2^(aX x-1):=qz (by decide) (by omega)
  omega
 rw[aN,A.k278 (by simp)]
 simp[A.b278]
 refine aB (YD hx) ?_
 rintro _ _ _ _ ⟨rfl,rfl,rfl⟩
 simp[]
 refine aB (Yub hb rfl) ?_
 rintro _ _ _ _ ⟨rfl,rfl,rfl⟩
 have lS:0<aX x:=by unfold aX;rw[ak (by omega)];omega
 have hl:=Zrt h0 hb
 have g3:=(Ykx _ hb lS).2.2
 generalize aX x*78913/262144=k at*
 obtain⟨q1,e,rw,q2⟩:=hp.ex
 have q3:=Yna g3
 have g4:(k:Int)<20:=by omega
 simp[Cw,g3,g4,q2,q3]
 refine aB Yur ?_
 rintro _ _ _ _ ⟨rfl,rfl,rfl⟩
 simp(disch:=omega) [aA]
 refine⟨ab.refl,?_⟩
 rw[<-hl]
 have cc:((10:Int)^k<=(x:Int))↔10^k<=x:=by exact_mod_cast Iff.rfl
 by_cases c:10^k<=x
 ·rw[ay (cc.2 c),ay c];omega
 ·rw[ak (fun hc=>c (cc.1 hc)),ak c];omega
def wc(N:Nat)(f:Nat->V):List V:=(List.range N).map f
def AK(N:Nat)(f:Nat->V):(wc N f).length=N:=by simp[wc]
def Rx{j:Nat}{f:Nat->V}(h:j<N):(wc N f)[j]?=some (f j):=by simp[wc,h]
def lY(f:Nat->V)(k:Nat)(v:V):Nat->V:=fun j=>if j=k then v else f j
def Zun{f:Nat->V}{v:V}(h:k<N):ad (wc N f) k [v]=wc N (lY f k v):=by
 apply oe
 intro j
 rw[JI (by rw[AK];simp;omega)]
 by_cases hj:k<=j/\j<k+[v].length
 ·rw[ay hj]
  simp at hj
  have:j=k:=by omega
  subst this
  rw[Rx h]
  simp[lY]
 ·rw[ak hj]
  simp at hj
  by_cases hN:j<N
  ·rw[Rx hN,Rx hN,lY,ak (by omega)]
  ·rw[fl (by rw[AK];omega),fl (by rw[AK];omega)]
def Ns{w:List Nat}{p:Nat}{f:Nat->V}{e:TypeId}{k:IntKind}{n:Int}(hp:p<Z):
  bD 1 ⟨h,N,w⟩ i p (.int k n) (some (.cells (wc Z f) e true))=some (.aV [],⟨h.set i (.cells (wc Z (lY f p (.int k n))) e true),N,i::w⟩):=by
 rw[Zlw (by rfl) (by rw[AK];omega) (by rfl)]
 show some (_,St.mk (h.set i (.cells (ad (wc Z f) p [.int k n]) e true)) _ _)=_
 rw[Zun hp]
def vB(c:UInt8):V:=.int .u8 (cI c)
def HR:∀p:Nat,p<100->rJ[2*p+1]?=some (cZ p):=by decide+kernel
def HS:∀p:Nat,p<100->rJ[2*p]?=some (cZ (p/10)):=by decide+kernel
def xJ{b:Nat}(h:a%10=b%10):cZ a=cZ b:=by unfold cZ;rw[h]
structure py (Z o L x i u:Nat) (f0 f:Nat->V):Prop where
 le:i<=L
 u:u=x/10^(L-i)
 YU:∀j,i<=j->j<L->f (o+j)=vB (cZ (x/10^(L-1-j)))
 out:∀j,j<o\/o+L<=j->f j=f0 j
def py.one{L:Nat}{f0 f:Nat->V}(s:py Z o L x (i+1) u f0 f){c:UInt8}(hc:c=cZ u):py Z o L x i (u/10) f0 (lY f (o+i) (vB c)):=by
 subst hc
 have hle:=s.le
 refine⟨by omega,?_,fun j h1 h2=>?_,fun j hj=>?_⟩
 ·rw[s.u,Gk,<-fZ]
  congr 2;omega
 ·by_cases hj:j=i
  ·subst hj
   rw[lY,ay rfl,s.u]
   congr 4
   omega
  ·rw[lY,ak (by omega)]
   exact s.YU j (by omega) h2
 ·rw[lY,ak (by omega)]
  exact s.out j hj
def py.two{L:Nat}{f0 f:Nat->V}(s:py Z o L x (i+2) u f0 f){c d:UInt8}(hc:c=cZ u)(hd:d=cZ (u/10)):py Z o L x i (u/100) f0 (lY (lY f (o+(i+1)) (vB c)) (o+i) (vB d)):=by
 have:=(py.one (i:=i+1) s hc).one hd
 rw[Gk]at this
 exact this
structure HT (h:T O) (N ir n2 Z o L x:Nat) (f0:Nat->V) (e:TypeId) (i u:Nat) (f:Nat->V) (r:T V) (st:St):Prop where
 r4:r.get 4=some (.int .i64 i)
 n:st.n=N
 w:av n2 st.w=[]
 row:st.h.get ir=some (.cells (wc Z f) e true)
 Nt:∀t,t≠ir->st.h.get t=h.get t
 fmt:py Z o L x i u f0 f
def py.eight{L:Nat}{f0 f:Nat->V}(s:py Z o L x (i+8) u f0 f):py Z o L x i (u/100000000) f0
  (lY (lY (lY (lY (lY (lY (lY (lY f (o+(i+7)) (vB (cZ (u%100000000%10000%100)))) (o+(i+6)) (vB (cZ (u%100000000%10000%100/10)))) (o+(i+5)) (vB (cZ (u%100000000%10000/100)))) (o+(i+4)) (vB (cZ (u%100000000%10000/100/10))))
     (o+(i+3)) (vB (cZ (u%100000000/10000%100)))) (o+(i+2)) (vB (cZ (u%100000000/10000%100/10)))) (o+(i+1)) (vB (cZ (u%100000000/10000/100)))) (o+i) (vB (cZ (u%100000000/10000/100/10)))):=by
 have s1:=py.two (i:=i+6) s (c:=cZ (u%100000000%10000%100)) (d:=cZ (u%100000000%10000%100/10)) (xJ (by omega)) (xJ (by omega))
 have s2:=py.two (i:=i+4) s1 (c:=cZ (u%100000000%10000/100)) (d:=cZ (u%100000000%10000/100/10)) (xJ (by omega)) (xJ (by omega))
 have s3:=py.two (i:=i+2) s2 (c:=cZ (u%100000000/10000%100)) (d:=cZ (u%100000000/10000%100/10)) (xJ (by omega)) (xJ (by omega))
 have s4:=py.two (i:=i) s3 (c:=cZ (u%100000000/10000/100)) (d:=cZ (u%100000000/10000/100/10)) (xJ (by omega)) (xJ (by omega))
 rw[show u/100/100/100/100=u/100000000 by omega]at s4
 exact s4
def tm8:(a:Int).tmod 100000000=((a%100000000:Nat):Int):=Int.ofNat_tmod a 100000000 |>.symm
def tm4:(a:Int).tmod 10000=((a%10000:Nat):Int):=Int.ofNat_tmod a 10000 |>.symm
def Ry:(a:Int).tmod 100=((a%100:Nat):Int):=Int.ofNat_tmod a 100 |>.symm
def Yu9(h:a<18446744073709551616):bl .u64 ((a:Int)/100000000)=((a/100000000:Nat):Int):=by
 rw[EP (by omega) (by omega)];omega
def Yuw(h:a<4294967296):bl .u32 ((a:Int)/10000)=((a/10000:Nat):Int):=by
 rw[J7 (by omega) (by omega)];omega
def Rz(h:a<4294967296):bl .u32 ((a:Int)/100)=((a/100:Nat):Int):=by
 rw[J7 (by omega) (by omega)];omega
def tw(h:a<4294967296):bl .u32 (a:Int)=(a:Int):=J7 (by omega) (by omega)
def HU(h:a<100):bl .u32 ((a:Int)*2)=((2*a:Nat):Int):=by rw[J7 (by omega) (by omega)];omega
def HV(h:a<100):bl .u32 (((2*a:Nat):Int)+1)=((2*a+1:Nat):Int):=by rw[J7 (by omega) (by omega)];omega
def Yoq{L:Nat}{f0 f:Nat->V}{e:TypeId}(hT:o+L<=Z)(hL:L<100)(ff:n2<=ir)(hN:ir<N){rr:T V}(hf:Fx [(1,1),(4,11),(19,95)] rr 167 ⟨r,167,[]⟩)(r0:r.get 0=some (.slice ir o L cp 1))(a1:r.get 1=some (.int .u64 u))(ub:u<18446744073709551616)(s:HT h N ir n2 Z o L x f0 e (k+8) u f r ⟨H,N,W⟩):
  Code A.C none A.nj ⟨r,167,[]⟩ ⟨H,N,W⟩ (fun ex fr st=>ex=.normal/\∃r' f',fr=⟨r',167,[]⟩/\Fx [(1,1),(4,11),(19,95)] rr 167 ⟨r',167,[]⟩/\r'.get 1=some (.int .u64 (u/100000000:Nat))/\HT h N ir n2 Z o L x f0 e k (u/100000000) f' r' st):=by
 rw[bk]
 obtain⟨a4,_,aw,jV,ao,af⟩:=s
 simp only at aw jV ao
 have hle:=af.le
 have v8:=af.eight
 obtain⟨us,tj⟩:∃y,u%100000000=y:=⟨_,rfl⟩
 obtain⟨uq,EV⟩:∃y,u/100000000=y:=⟨_,rfl⟩
 have t1:=tm8 (a:=u)
 have t2:=Yu9 (a:=u) ub
 rw[tj]at t1 v8
 rw[EV]at t2 v8
 have us0:us<100000000:=by omega
 have t3:=tw (a:=us) (by omega)
 obtain⟨hi,gW⟩:∃y,us/10000=y:=⟨_,rfl⟩
 obtain⟨lo,fO⟩:∃y,us%10000=y:=⟨_,rfl⟩
 have t4:=Yuw (a:=us) (by omega)
 have t5:=tm4 (a:=us)
 rw[gW]at t4 v8
 rw[fO]at t5 v8
 have t6:=Rz (a:=hi) (by omega)
 have t7:=Ry (a:=hi)
 have t8:=Rz (a:=lo) (by omega)
 have t9:=Ry (a:=lo)
 obtain⟨p1,xI⟩:∃y,hi/100=y:=⟨_,rfl⟩
 obtain⟨p2,zg⟩:∃y,hi%100=y:=⟨_,rfl⟩
 obtain⟨p3,hp3⟩:∃y,lo/100=y:=⟨_,rfl⟩
 obtain⟨p4,hp4⟩:∃y,lo%100=y:=⟨_,rfl⟩
 rw[xI]at t6 v8
 rw[zg]at t7 v8
 rw[hp3]at t8 v8
 rw[hp4]at t9 v8
 have b1:p1<100:=by omega
 have m1:=HU b1
 have AL:=HV b1
 have d1:=HR _ b1
 have g1:=HS _ b1
 obtain⟨y1,ph⟩:∃y,2*p1+1=y:=⟨_,rfl⟩
 rw[ph]at AL d1
 obtain⟨z1,yw⟩:∃y,2*p1=y:=⟨_,rfl⟩
 rw[yw]at m1 AL g1
 have b2:p2<100:=by omega
 have m2:=HU b2
 have HW:=HV b2
 have d2:=HR _ b2
 have g2:=HS _ b2
 obtain⟨y2,sW⟩:∃y,2*p2+1=y:=⟨_,rfl⟩
 rw[sW]at HW d2
 obtain⟨z2,dL⟩:∃y,2*p2=y:=⟨_,rfl⟩
 rw[dL]at m2 HW g2
 have b3:p3<100:=by omega
 have m3:=HU b3
 have YV:=HV b3
 have d3:=HR _ b3
 have g3:=HS _ b3
 obtain⟨y3,UY⟩:∃y,2*p3+1=y:=⟨_,rfl⟩
 rw[UY]at YV d3
 obtain⟨z3,Dh⟩:∃y,2*p3=y:=⟨_,rfl⟩
 rw[Dh]at m3 YV g3
 have b4:p4<100:=by omega
 have m4:=HU b4
 have YW:=HV b4
 have d4:=HR _ b4
 have g4:=HS _ b4
 obtain⟨y4,VJ⟩:∃y,2*p4+1=y:=⟨_,rfl⟩
 rw[VJ]at YW d4
 obtain⟨z4,zn⟩:∃y,2*p4=y:=⟨_,rfl⟩
 rw[zn]at m4 YW g4
 have e1:(k:Int)+8-1=(k:Int)+7:=by omega
 have e2:(k:Int)+8-2=(k:Int)+6:=by omega
 have e3:(k:Int)+8-3=(k:Int)+5:=by omega
 have e4:(k:Int)+8-4=(k:Int)+4:=by omega
 have e5:(k:Int)+8-5=(k:Int)+3:=by omega
 have e6:(k:Int)+8-6=(k:Int)+2:=by omega
 have e7:(k:Int)+8-7=(k:Int)+1:=by omega
 have e8:(k:Int)+8-8=(k:Int):=by omega
 have f1:((k:Int)+7).toNat=k+7:=by omega
 have f2:((k:Int)+6).toNat=k+6:=by omega
 have f3:((k:Int)+5).toNat=k+5:=by omega
 have f4:((k:Int)+4).toNat=k+4:=by omega
 have f5:((k:Int)+3).toNat=k+3:=by omega
 have f6:((k:Int)+2).toNat=k+2:=by omega
 have f7:((k:Int)+1).toNat=k+1:=by omega
 have c8:(8:Int)<=(k:Int)+8:=by omega
 have we:¬N<=ir:=by omega
 have ir0:∀t,(T.set H ir t).get ir=some t:=fun t=>by rw[T.ag,ay rfl]
 simp(disch:=first|(simp;done)|omega|(simp only[bC,cB,bp];omega)|rfl) [A.nj,hf,r0,a1,a4,c8,jV,hN,we,ct.cv,Ns,t1,t2,t3,t4,t5,t6,t7,t8,t9,m1,m2,m3,m4,AL,HW,YV,YW,d1,d2,d3,d4,g1,g2,g3,g4,e1,e2,e3,e4,e5,e6,e7,e8,f1,f2,f3,f4,f5,f6,f7]
 subst EV
 refine⟨by omega,_,⟨by simp,rfl,by simpa[av,tr.2 ff]using aw,by simp only[T.ag,ay];rfl,fun t ht=>by simp only[T.ag,ak ht];exact ao t ht,v8⟩⟩
structure YX (h:T O) (N ir n2 Z o L x:Nat) (f0:Nat->V) (e:TypeId) (st:St):Prop where
 n:st.n=N
 w:av n2 st.w=[]
 Nt:∀t,t≠ir->st.h.get t=h.get t
 ex:∃f,st.h.get ir=some (.cells (wc Z f) e true)/\(∀j,j<L->f (o+j)=vB (cZ (x/10^(L-1-j))))/\∀j,j<o\/o+L<=j->f j=f0 j
def Yqm(h:u<10):V.int .u8 (48+(u:Int))=vB (cZ u):=by
 unfold vB cI
 rw[Hg]
 congr 1;omega
def Yr2{L:Nat}{f0 f:Nat->V}{e:TypeId}(hZ:o+L<=Z)(ff:n2<=ir)(hN:ir<N)(hi:i<2)(hu:u<10^i)(r0:r.get 0=some (.slice ir o L cp 1))(BP:r.get 12=some (.int .u32 u))(s:HT h N ir n2 Z o L x f0 e i u f r ⟨H,N,W⟩):
  Code A.C none A.nk ⟨r,167,[]⟩ ⟨H,N,W⟩ (fun ex fr st=>ex=.normal/\∃r',fr=⟨r',167,[]⟩/\YX h N ir n2 Z o L x f0 e st):=by
 rw[bk]
 obtain⟨a4,_,aw,jV,ao,af⟩:=s
 simp only at aw jV ao
 have hle:=af.le
 obtain rfl|rfl:i=0\/i=1:=by omega
 ·simp[A.nk,r0,a4]
  exact⟨rfl,aw,ao,f,jV,fun j hj=>af.YU j (uw _) hj,af.out⟩
 ·have mU:u<10:=by omega
  have e1:bl .u32 (48+(u:Int))=48+(u:Int):=J7 (by omega) (by omega)
  have e2:bl .u8 (48+(u:Int))=48+(u:Int):=BA (by omega) (by omega)
  have hL:(0:Int)<(L:Int):=by omega
  simp(disch:=omega) [A.nk,r0,a4,BP,e1,e2,hL,jV,Ns]
  have v:=py.one (i:=0) af (c:=cZ u) rfl
  rw[<-Yqm mU,mP]at v
  exact⟨rfl,by simpa[av,tr.2 ff]using aw,fun t ht=>by rw[T.ag,ak ht];exact ao t ht,_,by rw[T.ag,ay rfl],fun j hj=>v.YU j (uw _) hj,v.out⟩
def Yr1{L:Nat}{f0 f:Nat->V}{e:TypeId}(hZ:o+L<=Z)(ff:n2<=ir)(hN:ir<N)(hi:i<4)(hu:u<10^i)(r0:r.get 0=some (.slice ir o L cp 1))(BP:r.get 12=some (.int .u32 u))(s:HT h N ir n2 Z o L x f0 e i u f r ⟨H,N,W⟩):
  Code A.C none A.np ⟨r,167,[]⟩ ⟨H,N,W⟩ (fun ex fr st=>ex=.normal/\∃r',fr=⟨r',167,[]⟩/\YX h N ir n2 Z o L x f0 e st):=by
 rw[bk]
 have s0:=s
 obtain⟨a4,_,aw,jV,ao,af⟩:=s
 simp only at aw jV ao
 have hle:=af.le
 by_cases hc:i<2
 ·have c1:¬(2:Int)<=(i:Int):=by omega
  simp[A.np,r0,a4,c1]
  refine mi (Yr2 (i:=i) (u:=u) (f:=f) (cp:=cp) hZ ff hN hc hu (by simp[r0]) (by simp[BP]) ⟨by simp[a4],rfl,aw,jV,ao,af⟩) ?_
  rintro ex fr st ⟨rfl,r',rfl,hE⟩
  simp
  exact hE
 ·obtain⟨k,rfl⟩:∃k,i=k+2:=⟨i-2,by omega⟩
  have Nu:u<10000:=by
   have:10^(k+2)<=10^4:=qz (by decide) (by omega)
   omega
  have c1:(2:Int)<=(k:Int)+2:=by omega
  have we:¬N<=ir:=by omega
  have t6:=Rz (a:=u) (by omega)
  have t7:=Ry (a:=u)
  have v:=py.two (i:=k) af (c:=cZ (u%100)) (d:=cZ (u%100/10)) (xJ (by omega)) (xJ (by omega))
  have fm:u/100<10^k:=by
   rw[qc (by decide)]
   rw[kf]at hu
   exact hu
  obtain⟨uq,EV⟩:∃y,u/100=y:=⟨_,rfl⟩
  obtain⟨p1,xI⟩:∃y,u%100=y:=⟨_,rfl⟩
  rw[EV]at t6 v fm
  rw[xI]at t7 v
  have b1:p1<100:=by omega
  have m1:=HU b1
  have AL:=HV b1
  have d1:=HR _ b1
  have g1:=HS _ b1
  obtain⟨y1,ph⟩:∃y,2*p1+1=y:=⟨_,rfl⟩
  rw[ph]at AL d1
  obtain⟨z1,yw⟩:∃y,2*p1=y:=⟨_,rfl⟩
  rw[yw]at m1 AL g1
  have e1:(k:Int)+2-1=(k:Int)+1:=by omega
  have e2:(k:Int)+2-2=(k:Int):=by omega
  have f1:((k:Int)+1).toNat=k+1:=by omega
  have hI:∀t n,(((H.set ir t).set ir n):T O).get ir=some n:=fun t n=>by rw[T.ag,ay rfl]
  simp(disch:=first|(simp;done)|omega|(simp only[bC,cB,bp];omega)|rfl) [A.np,r0,a4,BP,c1,jV,hN,we,ct.cv,Ns,t6,t7,m1,AL,d1,g1,e1,e2,f1]
  refine mi (Yr2 (i:=k) (u:=uq) (cp:=cp) (e:=e) hZ ff hN (by omega) fm (by simp[r0]) (by simp) ⟨by simp,rfl,by simpa[av,tr.2 ff]using aw,by simp only[T.ag,ay];rfl,fun t ht=>by simp only[T.ag,ak ht];exact ao t ht,v⟩) ?_
  rintro ex fr st ⟨rfl,r',rfl,hE⟩
  simp
  exact hE
def py.four{T L:Nat}{f0 f:Nat->V}(s:py T o L x (i+4) u f0 f):py T o L x i (u/10000) f0
  (lY (lY (lY (lY f (o+(i+3)) (vB (cZ (u%10000%100)))) (o+(i+2)) (vB (cZ (u%10000%100/10)))) (o+(i+1)) (vB (cZ (u%10000/100)))) (o+i) (vB (cZ (u%10000/100/10)))):=by
 have s1:=py.two (i:=i+2) s (c:=cZ (u%10000%100)) (d:=cZ (u%10000%100/10)) (xJ (by omega)) (xJ (by omega))
 have s2:=py.two (i:=i) s1 (c:=cZ (u%10000/100)) (d:=cZ (u%10000/100/10)) (xJ (by omega)) (xJ (by omega))
 rw[show u/100/100=u/10000 by omega]at s2
 exact s2
def Yuk{L:Nat}{f0 f:Nat->V}{e:TypeId}(hZ:o+L<=Z)(ff:n2<=ir)(hN:ir<N)(hi:i<8)(hu:u<10^i)(r0:r.get 0=some (.slice ir o L cp 1))(BP:r.get 12=some (.int .u32 u))(s:HT h N ir n2 Z o L x f0 e i u f r ⟨H,N,W⟩):
  Code A.C none A.nt ⟨r,167,[]⟩ ⟨H,N,W⟩ (fun ex fr st=>ex=.normal/\∃r',fr=⟨r',167,[]⟩/\YX h N ir n2 Z o L x f0 e st):=by
 rw[bk]
 obtain⟨a4,_,aw,jV,ao,af⟩:=s
 simp only at aw jV ao
 have hle:=af.le
 by_cases hc:i<4
 ·have c1:¬(4:Int)<=(i:Int):=by omega
  simp[A.nt,r0,a4,c1]
  refine mi (Yr1 (i:=i) (u:=u) (f:=f) (cp:=cp) hZ ff hN hc hu (by simp[r0]) (by simp[BP]) ⟨by simp[a4],rfl,aw,jV,ao,af⟩) ?_
  rintro ex fr st ⟨rfl,r',rfl,hE⟩
  simp
  exact hE
 ·obtain⟨k,rfl⟩:∃k,i=k+4:=⟨i-4,by omega⟩
  have Nu:u<100000000:=by
   have:10^(k+4)<=10^8:=qz (by decide) (by omega)
   omega
  have c1:(4:Int)<=(k:Int)+4:=by omega
  have we:¬N<=ir:=by omega
  have t4:=Yuw (a:=u) (by omega)
  have t5:=tm4 (a:=u)
  have v:=af.four
  have fm:u/10000<10^k:=by
   rw[qc (by decide)]
   rw[kf]at hu
   exact hu
  obtain⟨uq,EV⟩:∃y,u/10000=y:=⟨_,rfl⟩
  obtain⟨lo,fO⟩:∃y,u%10000=y:=⟨_,rfl⟩
  rw[EV]at t4 v fm
  rw[fO]at t5 v
  have t6:=Rz (a:=lo) (by omega)
  have t7:=Ry (a:=lo)
  obtain⟨p1,xI⟩:∃y,lo/100=y:=⟨_,rfl⟩
  obtain⟨p2,zg⟩:∃y,lo%100=y:=⟨_,rfl⟩
  rw[xI]at t6 v
  rw[zg]at t7 v
  have b1:p1<100:=by omega
  have m1:=HU b1
  have AL:=HV b1
  have d1:=HR _ b1
  have g1:=HS _ b1
  obtain⟨y1,ph⟩:∃y,2*p1+1=y:=⟨_,rfl⟩
  rw[ph]at AL d1
  obtain⟨z1,yw⟩:∃y,2*p1=y:=⟨_,rfl⟩
  rw[yw]at m1 AL g1
  have b2:p2<100:=by omega
  have m2:=HU b2
  have HW:=HV b2
  have d2:=HR _ b2
  have g2:=HS _ b2
  obtain⟨y2,sW⟩:∃y,2*p2+1=y:=⟨_,rfl⟩
  rw[sW]at HW d2
  obtain⟨z2,dL⟩:∃y,2*p2=y:=⟨_,rfl⟩
  rw[dL]at m2 HW g2
  have e1:(k:Int)+4-1=(k:Int)+3:=by omega
  have e2:(k:Int)+4-2=(k:Int)+2:=by omega
  have e3:(k:Int)+4-3=(k:Int)+1:=by omega
  have e4:(k:Int)+4-4=(k:Int):=by omega
  have f1:((k:Int)+3).toNat=k+3:=by omega
  have f2:((k:Int)+2).toNat=k+2:=by omega
  have f3:((k:Int)+1).toNat=k+1:=by omega
  simp(disch:=first|(simp;done)|omega|(simp only[bC,cB,bp];omega)|rfl) [A.nt,r0,a4,BP,c1,jV,hN,we,Ns,t4,t5,t6,t7,m1,AL,d1,g1,m2,HW,d2,g2,e1,e2,e3,e4,f1,f2,f3]
  refine mi (Yr1 (i:=k) (u:=uq) (cp:=cp) (e:=e) hZ ff hN (by omega) fm (by simp[r0]) (by simp) ⟨by simp,rfl,by simpa[av,tr.2 ff]using aw,by simp only[T.ag,ay];rfl,fun t ht=>by simp only[T.ag,ak ht];exact ao t ht,v⟩) ?_
  rintro ex fr st ⟨rfl,r',rfl,hE⟩
  simp
  exact hE
def Code.mono{C:Cx}{ro:Option Nat}{c:bO}{fr:Fr}{st:St}{P Q:Ex->Fr->St->Prop}(h:Code C ro c fr st P)(k:∀e fr st,P e fr st->Q e fr st):Code C ro c fr st Q:=by
 rw[bk]
 refine mi h ?_
 intro e fr st hp
 simp
 exact k _ _ _ hp
structure FbR (h:T O) (N ir n2 Z o L x:Nat) (f0:Nat->V) (e:TypeId) (w:List Nat) (st:St):Prop where
 n:st.n=N
 w:av n2 st.w=av n2 w
 Nt:∀t,t≠ir->st.h.get t=h.get t
 ex:∃f,st.h.get ir=some (.cells (wc Z f) e true)/\(∀j,j<L->f (o+j)=vB (cZ (x/10^(L-1-j))))/\∀j,j<o\/o+L<=j->f j=f0 j
def YY{L:Nat}{f0:Nat->V}{e:TypeId}{w:List Nat}(hZ:o+L<=Z)(hL:L<100)(ff:n2<=ir)(hN:ir<N)(hx:x<10^L)(KC:x<18446744073709551616)(hr:h.get ir=some (.cells (wc Z f0) e true)):
  Call A.C (.func 279 [] []) [.slice ir o L cp 1,.int .u64 x] ⟨h,N,w⟩ (fun _ st=>FbR h N ir n2 Z o L x f0 e w st):=by
 rw[aN,A.k279 (by simp)]
 simp[A.b279]
 refine bG [(1,1),(4,11),(19,95)] (fun ex r st=>ex=.exit 0/\∃(i u:Nat) (f:Nat->V),i<8/\u<10^i/\r.get 1=some (.int .u64 u)/\HT h N ir n2 Z o L x f0 e i u f r st) (fun i r st=>∃(u:Nat) (f:Nat->V),u<10^i/\u<18446744073709551616/\r.get 1=some (.int .u64 u)/\HT h N ir n2 Z o L x f0 e i u f r st) L ?_ ?_ ?_
 ·refine⟨x,f0,hx,KC,by simp,by simp,rfl,by simp[av],hr,fun t _=>rfl,⟨aQ _,by simp,fun j h1 h2=>by omega,fun j _=>rfl⟩⟩
 ·rintro i r ⟨H,n1,W⟩ hr hf ⟨u,f,hu,HX,a1,J⟩
  have hn:=J.n
  simp only at hn
  subst hn
  have r0:r.get 0=some (.slice ir o L cp 1):=by rw[hr 0 (by decide)];simp
  by_cases h8:i<8
  ·have c8:¬(8:Int)<=(i:Int):=by omega
   have a4:=J.r4
   rw[bk]
   simp[A.nj,hr,hf,a4,c8]
   exact⟨i,h8,u,hu,by simp[a1],f,⟨by simp[a4],J.n,J.w,J.row,J.Nt,J.fmt⟩⟩
  ·obtain⟨k,rfl⟩:∃k,i=k+8:=⟨i-8,by omega⟩
   refine Code.mono (Yoq hZ hL ff hN hf r0 a1 HX J) ?_
   rintro ex fr st ⟨rfl,r',f',rfl,zw,RA,J'⟩
   refine Zt9.2 ⟨zw,k,by omega,_,f',?_,by omega,RA,J'⟩
   rw[qc (by decide)]
   rw[kf]at hu
   exact hu
 ·rintro ex r ⟨H,n1,W⟩ hr ⟨rfl,i,u,f,h8,hu,a1,J⟩
  have hn:=J.n
  simp only at hn
  subst hn
  have hu7:u<4294967296:=by
   have:10^i<=10^7:=qz (by decide) (by omega)
   omega
  have e1:=tw hu7
  simp[a1,e1]
  refine mi (Yuk (i:=i) (u:=u) (f:=f) (cp:=cp) (e:=e) (H:=H) (W:=W) hZ ff hN h8 hu (by simp;rw[hr 0 (by decide)];simp) (by simp) ⟨by simpa using J.r4,rfl,J.w,J.row,J.Nt,J.fmt⟩) ?_
  rintro ex fr ⟨H2,mH,W2⟩ ⟨rfl,r',rfl,hn,hW,hO,hE⟩
  simp only at hn
  subst hn
  simp[]
  exact⟨rfl,by rw[MR (MS hW)],hO,hE⟩
variable {j o x:Nat}
set_option maxHeartbeats 1000000
def A.b255:=A.q Tryz.f255
def A.k255:=@A.kk 255 32 [.tmp 4] A.b255 (by kernel_rfl) rfl
def A.b276:=A.q Tryz.f276
def A.k276:=@A.kk 276 54 [.tmp 4] A.b276 (by kernel_rfl) rfl
def A.b250:=A.q Tryz.f250
def A.k250:=@A.kk 250 5 [.tmp 2] A.b250 (by kernel_rfl) rfl
def A.b221:=A.q Tryz.f221
def A.k221:=@A.kk 221 5 [.tmp 2] A.b221 (by kernel_rfl) rfl
def A.b223:=A.q Tryz.f223
def A.k223:=@A.kk 223 8 [.tmp 4] A.b223 (by kernel_rfl) rfl
def Yjm:∀{x:Nat},(j:Nat)->j<(de x).length->(de x)[j]?=some (cZ (x/10^((de x).length-1-j))):=by
 intro x
 induction x using Nat.strongRecOn with
 |_ x ih=>
  intro j hj
  by_cases h0:x=0
  ·subst h0;rw[tO]at hj;simp at hj
  ·have e:=xB h0
   have hl:(de x).length=(de (x/10)).length+1:=by rw[e];simp
   rw[hl]
   rw[e]
   by_cases n_:j<(de (x/10)).length
   ·rw[kJ n_,ih _ (Cr (by omega) (by decide)) j n_,Gk]
    congr 3
    rw[show (de (x/10)).length+1-1-j=((de (x/10)).length-1-j)+1 by omega,fZ,jk]
   ·have:j=(de (x/10)).length:=by omega
    subst this
    simp
def YZ{L:Nat}{f:Nat->V}(hL:L=(de x).length)(hf:∀j,j<L->f (o+j)=vB (cZ (x/10^(L-1-j)))):(List.range L).map (fun j=>f (o+j))=(de x).map vB:=by
 apply oe
 intro j
 rw[fV,fV]
 by_cases hj:j<L
 ·rw[FF hj,Yjm j (by omega),<-hL]
  simp[hf j hj]
 ·rw[fl (by simpa using hj),fl (by omega)]
  rfl
def Y0{Z L:Nat}{f:Nat->V}(h:o+L<=Z):aD (wc Z f) o L=some ((List.range L).map fun j=>f (o+j)):=by
 unfold aD
 rw[AK,ay h]
 congr 1
 apply oe
 intro j
 rw[iM,fV]
 by_cases hj:j<L
 ·rw[ay hj,fg,Rx (by omega),FF hj];rfl
 ·rw[ak hj,fl (by simpa using hj)];rfl
def RB:V->Option UInt8
 |.int .u8 n=>some (UInt8.ofNat n.toNat)
 |_=>none
def Nv(st:St):Option (List V)->Option (V×St)
 |some l=>match l.mapM RB with
  |some s=>some (.str s,st)
  |none=>none
 |none=>none
def RC(st:St)(o len:Nat):Option (List V×TypeId×Bool)->Option (V×St)
 |some (c,_,_)=>Nv st (aD c o len)
 |none=>none
def Y3(st:St):Option V->Option (V×St)
 |some .aa=>some (.str [],st)
 |some (.slice i o len _ 1)=>RC st o len (st.row i)
 |_=>none
def Y4{x:Src}{call:cD}{r:T V}{st:St}:GA x call r st=Y3 st (x.ev r):=by
 unfold GA Y3 RC Nv
 rfl
def Y5{st:St}{i len:Nat}{c:Option Nat}:Y3 st (some (.slice i o len c 1))=RC st o len (st.row i):=rfl
def Y6{st:St}{len:Nat}{c:List V}{e:TypeId}{b:Bool}:RC st o len (some (c,e,b))=Nv st (aD c o len):=rfl
def Y7{st:St}:∀{s:aM},Nv st (some (s.map vB))=some (.str s,st):=by
 intro s
 have:(s.map vB).mapM RB=some s:=by
  induction s with
  |nil=>rfl
  |cons c s ih=>
   rw[nZ,List.mapM_cons,ih]
   have:RB (vB c)=some c:=by simp[RB,vB,cI]
   simp[this]
 simp only[Nv,this]
def Yum:∀j:Nat,j<10->(List.take (j+1) YQ).drop j=[cZ j]:=by decide+kernel
def Yse:∀j:Nat,j<100->(List.take (2*j+2) rJ).drop (2*j)=[cZ (j/10),cZ j]:=by decide+kernel
def Yav:YQ.length=36:=by decide+kernel
def Yez:rJ.length=200:=by decide+kernel
def Ye4(h:j<10):ar j=[cZ j]:=by
 unfold ar
 split
 ·subst j;rfl
 ·rw[xB (by assumption),show j/10=0 by omega,tO];rfl
def Yaw(h:j<100)(h2:10<=j):ar j=[cZ (j/10),cZ j]:=by
 unfold ar
 rw[ak (by omega),xB (by omega),xB (by omega),show j/10/10=0 by omega,tO];rfl
def Zwp(hj:j<100){h:T O}{N:Nat}:Fn A.C 277 [.int .i64 j] h N (fun v h' N'=>h'=h/\N'=N/\v=.str (ar j)):=by
 intro w
 rw[aN,A.k277 (by simp)]
 by_cases c:j<10
 ·have e1:=Yum j c
  have e2:(j:Int)+1<=36:=by omega
  have e3:((j:Int)+1).toNat=j+1:=by omega
  have e4:(j:Int)<10:=by omega
  have e5:(0:Int)<=(j:Int)+1:=by omega
  have e8:(j:Int)<=(j:Int)+1:=by omega
  simp(disch:=omega) [A.b277,e4,za,aC,dv,k_,Yav,e1,e2,e3,e5,e8,aA,Ye4 c]
  exact ab.refl
 ·have e1:=Yse j hj
  have e4:¬(j:Int)<10:=by omega
  have e2:(j:Int)*2+2<=200:=by omega
  have e3:((j:Int)*2+2).toNat=2*j+2:=by omega
  have e5:(0:Int)<=(j:Int)*2+2:=by omega
  have e6:(0:Int)<=(j:Int)*2:=by omega
  have e8:(j:Int)*2<=2*(j:Int)+2:=by omega
  have e7:((j:Int)*2).toNat=2*j:=by omega
  simp(disch:=omega) [A.b277,e4,za,aC,dv,k_,Yez,e1,e2,e3,e5,e6,e7,e8,aA,Yaw hj (tr.1 c)]
  exact ab.refl
def Y8:[V.int .u8 0,V.int .u8 0,V.int .u8 0,V.int .u8 0,V.int .u8 0,V.int .u8 0,V.int .u8 0,V.int .u8 0,V.int .u8 0,V.int .u8 0,V.int .u8 0,V.int .u8 0,V.int .u8 0,V.int .u8 0,V.int .u8 0,V.int .u8 0,V.int .u8 0,V.int .u8 0,V.int .u8 0,V.int .u8 0,V.int .u8 0,V.int .u8 0,V.int .u8 0,V.int .u8 0]=wc 24 (fun _=>.int .u8 0):=rfl
def Zqc(hx:x<18446744073709551616):(de x).length<=20:=pK.1 (by omega)
def HY(h:x≠0):ar x=de x:=by unfold ar;rw[ak h]
def Yuh(hx:x<18446744073709551616){h:T O}{N:Nat}(hp:l_ h N):Fn A.C 255 [.int .u64 x,.int .i64 10] h N (fun v h' N'=>v=.str (ar x)):=by
 intro w
 rw[aN,A.k255 (by simp)]
 by_cases c:x<100
 ·have c1:(x:Int)<100:=by omega
  have e1:bl .i64 (x:Int)=(x:Int):=cA (by omega) (by omega)
  simp[A.b255,aE,c1,e1]
  refine aB (Zwp c) ?_
  rintro _ _ _ _ ⟨rfl,rfl,rfl⟩
  simp[aA]
  exact ab.refl
 ·have c1:¬(x:Int)<100:=by omega
  simp[A.b255,aE,c1,Y8]
  refine aB (YT hx (by omega) (hp.ae (aL ab.refl _))) ?_
  rintro _ _ _ _ ⟨rfl,rfl,rfl⟩
  have hl:=Zqc hx
  obtain⟨L,hL⟩:∃L,(de x).length=L:=⟨_,rfl⟩
  have RD:x<10^L:=pK.2 (by omega)
  have e2:(L:Int)<=24:=by omega
  rw[hL]
  rw[hL]at hl
  simp[z_,aC,dv,k_,e2,AK]
  refine Ag (YY (n2:=N) (Z:=24) (o:=0) (x:=x) (f0:=fun _=>.int .u8 0) (e:=263) (by omega) (by omega) (aQ N) (vt N) RD hx (by rw[T.ag,ay rfl])) ?_
  rintro v ⟨H2,n2,W2⟩ ⟨hn,hW,hO,f,hr,hd,_⟩
  simp only at hn hW hO hr
  subst hn
  have cy:=Y0 (f:=f) (show 0+L<=24 by omega)
  rw[YZ hL.symm hd]at cy
  simp[z_,aC,dv,k_,e2,AK,Y4,Y5,Y6,hr,cy,Y7,aA]
  have rK:av N W2=[]:=hW
  rw[rK,HY (by omega)]
  refine⟨rfl,⟨vw _,fun i hi=>?_⟩,rfl⟩
  rw[hO i (by omega),T.ag,ak (by omega)]
def Yk3(hx:x<18446744073709551616){h:T O}{N:Nat}(hp:l_ h N):Fn A.C 223 [.int .u64 x,.int .i64 10] h N (fun v h' N'=>v=.str (ar x)):=by
 intro w
 rw[aN,A.k223 (by simp)]
 simp[A.b223]
 refine aB (Yuh hx hp) ?_
 rintro _ _ _ k1 rfl
 simp[aA]
 exact k1
def Yui{z:Int}(h1: -9223372036854775808<=z)(h2:z<9223372036854775808){h:T O}{N:Nat}(hp:l_ h N):Fn A.C 276 [.int .i64 z,.int .i64 10] h N (fun v h' N'=>v=.str (aK z)):=by
 intro w
 rw[aN,A.k276 (by simp)]
 by_cases c:0<=z/\z<100
 ·obtain⟨j,rfl⟩:=D3 c.1
  have c1:(j:Int)<100:=c.2
  have hj:aK (j:Int)=ar j:=by unfold aK;rw[ak (by omega)];rfl
  simp[A.b276,aE,c1]
  refine aB (Zwp (by omega)) ?_
  rintro _ _ _ _ ⟨rfl,rfl,rfl⟩
  simp[aA,hj]
  exact ab.refl
 ·have hx:z.natAbs<18446744073709551616:=by omega
  have mG:z.natAbs≠0:=by omega
  obtain⟨x,Y9⟩:∃x,z.natAbs=x:=⟨_,rfl⟩
  have hl:=Zqc (Y9▸hx)
  obtain⟨L,hL⟩:∃L,(de x).length=L:=⟨_,rfl⟩
  have RD:x<10^L:=pK.2 (by omega)
  have hL0:0<L:=by rw[<-hL];exact Ztx (by omega)
  rw[hL]at hl
  have e2:(L:Int)+1<=24:=by omega
  have e3:(0:Int)<=(L:Int)+1:=by omega
  have e4:((L:Int)+1).toNat=L+1:=by omega
  have e5:(1:Int)<=(L:Int)+1:=by omega
  have e6:(1:Int)+(L:Int)=(L:Int)+1:=by omega
  by_cases hz:z<0
  ·have c2:¬0<=z:=by omega
   have w1:IntKind.wrap .u64 (-(bl .u64 z))=(x:Int):=by rw[JW,JX];omega
   simp[A.b276,aE,c2,hz,Y8,w1]
   refine aB (YT (x:=x) (by omega) (by omega) (hp.ae (aL ab.refl _))) ?_
   rintro _ _ _ _ ⟨rfl,rfl,rfl⟩
   rw[hL]
   simp(disch:=omega) [z_,aC,dv,k_,e2,e3,e4,e5,e6,AK]
   refine Ag (YY (n2:=N) (Z:=24) (o:=1) (x:=x) (f0:=fun _=>.int .u8 0) (e:=263) (by omega) (by omega) (aQ N) (vt N) RD (by omega) (by rw[T.ag,ay rfl])) ?_
   rintro v ⟨H2,n2,W2⟩ ⟨hn,hW,hO,f,hr,hd,_⟩
   simp only at hn hW hO hr
   subst hn
   have rK:av N W2=[]:=hW
   have cy:=Y0 (f:=lY f 0 (.int .u8 45)) (show 0+(L+1)<=24 by omega)
   have d_:(List.range (L+1)).map (fun j=>lY f 0 (.int .u8 45) (0+j))=(45::de x).map vB:=by
    rw[List.range_succ_eq_map,nZ,List.map_map,nZ,<-YZ hL.symm hd]
    congr 1
    apply A6
    intro j _
    show lY f 0 _ (0+(j+1))=_
    rw[lY,ak (by omega)]
    congr 1;omega
   rw[d_]at cy
   have BU:aK z=45::de x:=by unfold aK;rw[ay hz,Y9,HY (by omega)]
   obtain⟨S,hS⟩:∃S,45::de x=S:=⟨_,rfl⟩
   rw[hS]at cy BU
   simp(disch:=omega) [z_,Cw,aC,dv,k_,e2,e3,e4,e5,e6,AK,Y4,Y5,Y6,hr,hz,Ns,cy,Y7,aA,BU,rK]
   refine⟨vw _,fun i hi=>?_⟩
   rw[T.ag,ak (by omega),hO i (by omega),T.ag,ak (by omega)]
  ·have c2:0<=z:=by omega
   have c3:¬z<100:=by omega
   have w1:bl .u64 z=(x:Int):=by rw[EP (by omega) (by omega)];omega
   simp[A.b276,aE,c2,c3,hz,Y8,w1]
   refine aB (YT (x:=x) (by omega) (by omega) (hp.ae (aL ab.refl _))) ?_
   rintro _ _ _ _ ⟨rfl,rfl,rfl⟩
   rw[hL]
   simp(disch:=omega) [z_,aC,dv,k_,e2,e3,e4,e5,e6,AK]
   refine Ag (YY (n2:=N) (Z:=24) (o:=1) (x:=x) (f0:=fun _=>.int .u8 0) (e:=263) (by omega) (by omega) (aQ N) (vt N) RD (by omega) (by rw[T.ag,ay rfl])) ?_
   rintro v ⟨H2,n2,W2⟩ ⟨hn,hW,hO,f,hr,hd,_⟩
   simp only at hn hW hO hr
   subst hn
   have rK:av N W2=[]:=hW
   have cy:=Y0 (f:=f) (show 1+L<=24 by omega)
   rw[YZ hL.symm hd]at cy
   have BU:aK z=de x:=by unfold aK;rw[ak hz,Y9,HY (by omega)]
   simp(disch:=omega) [z_,aC,dv,k_,e2,e3,e4,e5,e6,AK,Y4,Y5,Y6,hr,hz,cy,Y7,aA,BU,rK]
   refine⟨vw _,fun i hi=>?_⟩
   rw[hO i (by omega),T.ag,ak (by omega)]
def Yod{z:Int}(h1: -9223372036854775808<=z)(h2:z<9223372036854775808){h:T O}{N:Nat}(hp:l_ h N):Fn A.C 221 [.int .i64 z] h N (fun v h' N'=>v=.str (aK z)):=by
 intro w
 rw[aN,A.k221 (by simp)]
 simp[A.b221]
 refine aB (?_:Fn A.C 250 [.int .i64 z] h N (fun v h' N'=>v=.str (aK z))) ?_
 ·intro w
  rw[aN,A.k250 (by simp)]
  simp[A.b250]
  refine aB (Yui h1 h2 hp) ?_
  rintro _ _ _ k1 rfl
  simp[aA]
  exact k1
 ·rintro _ _ _ k1 rfl
  simp[aA]
  exact k1
end
end Go.Mx
