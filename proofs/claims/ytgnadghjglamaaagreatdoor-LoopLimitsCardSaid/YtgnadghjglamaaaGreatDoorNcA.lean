/-strconv-/
import Derived.Test.YtgnadghjglamaaaGreatDoorNbK
set_option linter.all false
namespace Go.Mx
open Go Go.Proofs
variable {H h:T O} {N Z a i ir k n2 o u x:Nat} {W:List Nat} {cp:Option Nat} {r:T V}
set_option maxHeartbeats 4000000
set_option maxRecDepth 1000000
def rp:List UInt8:=[48,48,48,49,48,50,48,51,48,52,48,53,48,54,48,55,48,56,48,57,49,48,49,49,49,50,49,51,49,52,49,53,49,54,49,55,49,56,49,57,50,48,50,49,50,50,50,51,50,52,50,53,50,54,50,55,50,56,50,57,51,48,51,49,51,50,51,51,51,52,51,53,51,54,51,55,51,56,51,57,52,48,52,49,52,50,52,51,52,52,52,53,52,54,52,55,52,56,52,57,53,48,53,49,53,50,53,51,53,52,53,53,53,54,53,55,53,56,53,57,54,48,54,49,54,50,54,51,54,52,54,53,54,54,54,55,54,56,54,57,55,48,55,49,55,50,55,51,55,52,55,53,55,54,55,55,55,56,55,57,56,48,56,49,56,50,56,51,56,52,56,53,56,54,56,55,56,56,56,57,57,48,57,49,57,50,57,51,57,52,57,53,57,54,57,55,57,56,57,57]
def Ycx:List UInt8:=[48,49,50,51,52,53,54,55,56,57,97,98,99,100,101,102,103,104,105,106,107,108,109,110,111,112,113,114,115,116,117,118,119,120,121,122]
noncomputable def A.b296:=A.q Tryz.f296
def A.k296:=@A.kk 296 15 [.tmp 2] A.b296 (by kernel_rfl) rfl
noncomputable def A.b309:=A.q Tryz.f309
def A.k309:=@A.kk 309 6 [.tmp 2] A.b309 (by kernel_rfl) rfl
noncomputable def A.b310:=A.q Tryz.f310
def A.k310:=@A.kk 310 4 [.tmp 2] A.b310 (by kernel_rfl) rfl
def A.nc:cF:=.seq (sr [mv 19 4,bc 20 .geq 19 8]
 (cd 20
 (.skip)
 (.exit 0)))
 (.block 1 (sr [mv 21 1,ge 22 (.bin .rem (.node []) false (tq 21) (.const (.int .u64 100000000))),ge 23 (.dr .u32 (tq 22)),mv 5 23]
 (sr [mv 24 1,ge 25 (.bin .quo (.node []) false (tq 24) (.const (.int .u64 100000000))),mv 1 25]
 (sr [mv 26 5,ge 27 (.bin .quo (.node []) false (tq 26) (.const (.int .u32 10000))),mv 28 5,ge 29 (.bin .rem (.node []) false (tq 28) (.const (.int .u32 10000))),mv 6 27,mv 7 29]
 (sr [mv 30 7,ge 31 (.bin .quo (.node []) false (tq 30) (.const (.int .u32 100))),ge 32 (.bin .mul (.node []) false (tq 31) (.const (.int .u32 2))),mv 33 7,ge 34 (.bin .rem (.node []) false (tq 33) (.const (.int .u32 100))),ge 35 (.bin .mul (.node []) false (tq 34) (.const (.int .u32 2))),mv 8 32,mv 9 35]
 (sr [mv 36 6,ge 37 (.bin .quo (.node []) false (tq 36) (.const (.int .u32 100))),ge 38 (.bin .mul (.node []) false (tq 37) (.const (.int .u32 2))),mv 39 6,ge 40 (.bin .rem (.node []) false (tq 39) (.const (.int .u32 100))),ge 41 (.bin .mul (.node []) false (tq 40) (.const (.int .u32 2))),mv 10 38,mv 11 41]
 (.seq (.fT [mv 42 0,mv 43 4,bc 44 .sub 43 1,mv 45 0,mv 46 4,bc 47 .sub 46 2,mv 48 9,ge 49 (.bin .add (.node []) false (tq 48) (.const (.int .u32 1))),ge 50 (.bO (.const (.str rp)) (tq 49)),mv 51 9,ge 52 (.bO (.const (.str rp)) (tq 51)),ia 53 1 42 44,so 53 50,ia 54 1 45 47,so 54 52] [0,0,2,0,0,16,0,64,192,0,512,455,2503,8191,16383])
 (.seq (.fT [mv 55 0,mv 56 4,bc 57 .sub 56 3,mv 58 0,mv 59 4,bc 60 .sub 59 4,mv 61 8,ge 62 (.bin .add (.node []) false (tq 61) (.const (.int .u32 1))),ge 63 (.bO (.const (.str rp)) (tq 62)),mv 64 8,ge 65 (.bO (.const (.str rp)) (tq 64)),ia 66 1 55 57,so 66 63,ia 67 1 58 60,so 67 65] [0,0,2,0,0,16,0,64,192,0,512,455,2503,8191,16383])
 (.seq (.fT [mv 68 0,mv 69 4,bc 70 .sub 69 5,mv 71 0,mv 72 4,bc 73 .sub 72 6,mv 74 11,ge 75 (.bin .add (.node []) false (tq 74) (.const (.int .u32 1))),ge 76 (.bO (.const (.str rp)) (tq 75)),mv 77 11,ge 78 (.bO (.const (.str rp)) (tq 77)),ia 79 1 68 70,so 79 76,ia 80 1 71 73,so 80 78] [0,0,2,0,0,16,0,64,192,0,512,455,2503,8191,16383])
 (.seq (.fT [mv 81 0,mv 82 4,bc 83 .sub 82 7,mv 84 0,mv 85 4,bc 86 .sub 85 8,mv 87 10,ge 88 (.bin .add (.node []) false (tq 87) (.const (.int .u32 1))),ge 89 (.bO (.const (.str rp)) (tq 88)),mv 90 10,ge 91 (.bO (.const (.str rp)) (tq 90)),ia 92 1 81 83,so 92 89,ia 93 1 84 86,so 93 91] [0,0,2,0,0,16,0,64,192,0,512,455,2503,8191,16383])
 (.reg [mv 94 4,bc 95 .sub 94 8,mv 4 95])))))))))))
def A.nd:cF:=sr [mv 160 4,bc 161 .gtr 160 0]
 (cd 161
 (.reg [mv 162 0,mv 163 12,ge 164 (.bin .add (.node []) false (.const (.int .u32 48)) (tq 163)),ge 165 (.dr .u8 (tq 164)),ge 166 (.iI 1 (tq 162) (kq 0)),so 166 165])
 (.skip))
def A.nf:cF:=.seq (sr [mv 138 4,bc 139 .geq 138 2]
 (cd 139
 (sr [mv 140 12,ge 141 (.bin .rem (.node []) false (tq 140) (.const (.int .u32 100))),ge 142 (.bin .mul (.node []) false (tq 141) (.const (.int .u32 2))),mv 16 142]
 (sr [mv 143 12,ge 144 (.bin .quo (.node []) false (tq 143) (.const (.int .u32 100))),mv 12 144]
 (.seq (.fT [mv 145 0,mv 146 4,bc 147 .sub 146 1,mv 148 0,mv 149 4,bc 150 .sub 149 2,mv 151 16,ge 152 (.bin .add (.node []) false (tq 151) (.const (.int .u32 1))),ge 153 (.bO (.const (.str rp)) (tq 152)),mv 154 16,ge 155 (.bO (.const (.str rp)) (tq 154)),ia 156 1 145 147,so 156 153,ia 157 1 148 150,so 157 155] [0,0,2,0,0,16,0,64,192,0,512,455,2503,8191,16383])
 (.reg [mv 158 4,bc 159 .sub 158 2,mv 4 159]))))
 (.skip)))
 A.nd
def A.nh:cF:=.seq (sr [mv 98 4,bc 99 .geq 98 4]
 (cd 99
 (sr [mv 100 12,ge 101 (.bin .rem (.node []) false (tq 100) (.const (.int .u32 10000))),mv 13 101]
 (sr [mv 102 12,ge 103 (.bin .quo (.node []) false (tq 102) (.const (.int .u32 10000))),mv 12 103]
 (sr [mv 104 13,ge 105 (.bin .quo (.node []) false (tq 104) (.const (.int .u32 100))),ge 106 (.bin .mul (.node []) false (tq 105) (.const (.int .u32 2))),mv 107 13,ge 108 (.bin .rem (.node []) false (tq 107) (.const (.int .u32 100))),ge 109 (.bin .mul (.node []) false (tq 108) (.const (.int .u32 2))),mv 14 106,mv 15 109]
 (.seq (.fT [mv 110 0,mv 111 4,bc 112 .sub 111 1,mv 113 0,mv 114 4,bc 115 .sub 114 2,mv 116 15,ge 117 (.bin .add (.node []) false (tq 116) (.const (.int .u32 1))),ge 118 (.bO (.const (.str rp)) (tq 117)),mv 119 15,ge 120 (.bO (.const (.str rp)) (tq 119)),ia 121 1 110 112,so 121 118,ia 122 1 113 115,so 122 120] [0,0,2,0,0,16,0,64,192,0,512,455,2503,8191,16383])
 (.seq (.fT [mv 123 0,mv 124 4,bc 125 .sub 124 3,mv 126 0,mv 127 4,bc 128 .sub 127 4,mv 129 14,ge 130 (.bin .add (.node []) false (tq 129) (.const (.int .u32 1))),ge 131 (.bO (.const (.str rp)) (tq 130)),mv 132 14,ge 133 (.bO (.const (.str rp)) (tq 132)),ia 134 1 123 125,so 134 131,ia 135 1 126 128,so 135 133] [0,0,2,0,0,16,0,64,192,0,512,455,2503,8191,16383])
 (.reg [mv 136 4,bc 137 .sub 136 4,mv 4 137]))))))
 (.skip)))
 A.nf
def A.b297:cF:=sr [mv 17 0,ln 18 17,mv 4 18]
 (.seq (.block 0 (.loop A.nc))
 (sr [mv 96 1,ge 97 (.dr .u32 (tq 96)),mv 12 97]
 A.nh))
def A.k297:=@A.kk 297 167 [] A.b297 (by kernel_rfl) rfl
def A.b295:cF:=sr [ge 2 (.pe (.const (.str [])))]
 (.seq (sr [mv 3 0,bc 4 .lss 3 10]
 (cd 4
 (sr [mv 5 0,mv 6 0,bc 7 .add 6 1,ge 8 (.cH (.const (.str Ycx)) (some (tq 5)) (some (tq 7))),mv 2 8]
 (.ret))
 (.skip)))
 (sr [mv 9 0,bc 10 .mul 9 2,mv 11 0,bc 12 .mul 11 2,bc 13 .add 12 2,ge 14 (.cH (.const (.str rp)) (some (tq 10)) (some (tq 13))),mv 2 14]
 (.ret)))
def A.k295:=@A.kk 295 15 [.tmp 2] A.b295 (by kernel_rfl) rfl
@[simp] def Yp0 {a b:Nat}:a<b\/b<=a:=Nat.lt_or_ge a b
def MD{n:Int}(h1:0<=n)(h2:n<4294967296):bn .u32 n=n:=by rw[zB];show n%4294967296=n;omega
def Yof:List Nat:=[1,10,100,1000,10000,100000,1000000,10000000,100000000,1000000000,10000000000,100000000000,1000000000000,10000000000000,100000000000000,1000000000000000,10000000000000000,100000000000000000,1000000000000000000,10000000000000000000]
def mC(h:T O)(N:Nat):Prop:=6<N/\h.get 6=some A.PB
def mC.ah{h':T O}{N':Nat}(s:mC h N)(k:ae h N h' N'):mC h' N':=by
 exact⟨h_ s.1 k.le,(k.get _ s.1).trans s.2⟩
def mC.ex(s:mC h N):6<N/\∃e rw,h.get 6=some (.cells (dg Yof) e rw):=⟨s.1,_,_,s.2.trans rfl⟩
def Yfa:∀j:Nat,j<20->Yof[j]?=some (10^j):=by decide+kernel
def Yjk{j:Nat}(h:j<20):(dg Yof)[j]?=some (.int .u64 ((10^j:Nat):Int)):=fH (Yfa j h)
def Yhq:∀b:Nat,b<65->0<b->10^(b*78913/262144)<=10*2^(b-1)/\2^b<=10^(b*78913/262144+1)/\b*78913/262144<20:=by decide+kernel
def Yo7{b:Nat}(hb:b<65)(hk:b*78913/262144=k){h:T O}{N:Nat}:Fn A.C 309 [.int .i64 b] h N (fun v h' N'=>h'=h/\N'=N/\v=.int .i64 (k:Nat)):=by
 intro w
 rw[aV,A.k309 (by simp)]
 have e1:bn .i64 ((b:Int)*78913)=(b:Int)*78913:=cL (by omega) (by omega)
 have e2:yo .shr .i64 ((b:Int)*78913) 18=some (.int .i64 ((b:Int)*78913/262144)):=by
  unfold yo
  rw[aA (by omega)]
  show some (V.int .i64 (Int.fdiv _ 262144))=_
  rw[Int.fdiv_eq_ediv_of_nonneg _ (by omega)]
 have e3:(b:Int)*78913/262144=k:=by omega
 simp(disch:=first|(simp;done)|omega|(simp only[Zab,aq,ak];omega)|rfl) [-getElem?_pos,A.b309,e1,e2,e3,aF]
 exact ae.refl
def Ypm{b:Bool}:Fn A.C 310 [.bool b] h N (fun v h' N'=>h'=h/\N'=N/\v=.int .i64 (if b=true then 1 else 0)):=by
 intro w
 rw[aV,A.k310 (by simp)]
 cases b
 ·simp(disch:=first|(simp;done)|omega|(simp only[Zab,aq,ak];omega)|rfl) [-getElem?_pos,A.b310,aF]
  exact ae.refl
 ·simp(disch:=first|(simp;done)|omega|(simp only[Zab,aq,ak];omega)|rfl) [-getElem?_pos,A.b310,aF]
  exact ae.refl
def Zp1(hx:0<x)(hb:bf x<65):(if 10^(bf x*78913/262144)<=x then 1 else 0)+bf x*78913/262144=(dq x).length:=by
 have ry:x≠0:=by omega
 have h1:=TT x
 have h2:=Mz ry
 have h0:0<bf x:=by unfold bf;rw[aA ry];omega
 obtain⟨g1,g2,g3⟩:=Yhq _ hb h0
 generalize hk:bf x*78913/262144=k at*
 have u1:(dq x).length<=k+1:=pn.1 (by omega)
 by_cases c:10^k<=x
 ·rw[aQ c]
  have:¬(dq x).length<=k:=fun hc=>by have:=pn.2 hc;omega
  omega
 ·rw[aA c]
  have u2:(dq x).length<=k:=pn.1 (by omega)
  cases k with
  |zero=>omega
  |succ j=>
   have:¬(dq x).length<=j:=fun hc=>by
    have:=pn.2 hc
    rw[fO]at g1
    omega
   omega
def Yjr(hx:x<18446744073709551616)(h0:0<x){h:T O}{N:Nat}(hp:mC h N):Fn A.C 296 [.int .u64 x] h N (fun v h' N'=>h'=h/\N'=N/\v=.int .i64 ((dq x).length:Nat)):=by
 intro w
 have hb:bf x<65:=by
  apply tV
  intro hc
  have h2:=Mz (show x≠0 by omega)
  have:2^64<=2^(bf x-1):=pc (by decide) (by omega)
  omega
 rw[aV,A.k296 (by simp)]
 simp(disch:=first|(simp;done)|omega|(simp only[Zab,aq,ak];omega)|rfl) [-getElem?_pos,A.b296]
 refine az (Zpu hx) ?_
 rintro _ _ _ _ ⟨rfl,rfl,rfl⟩
 simp(disch:=first|(simp;done)|omega|(simp only[Zab,aq,ak];omega)|rfl) [-getElem?_pos,]
 refine az (Yo7 hb rfl) ?_
 rintro _ _ _ _ ⟨rfl,rfl,rfl⟩
 have nO:0<bf x:=by unfold bf;rw[aA (by omega)];omega
 have hl:=Zp1 h0 hb
 have g3:=(Yhq _ hb nO).2.2
 generalize bf x*78913/262144=k at*
 obtain⟨q1,e,rw,q2⟩:=hp.ex
 have q3:=Yjk g3
 have g4:(k:Int)<20:=by omega
 simp(disch:=first|(simp;done)|omega|(simp only[Zab,aq,ak];omega)|rfl) [-getElem?_pos,Cc,g3,g4,q2,q3]
 refine az Ypm ?_
 rintro _ _ _ _ ⟨rfl,rfl,rfl⟩
 simp(disch:=first|(simp;done)|omega|(simp only[Zab,aq,ak];omega)|rfl) [-getElem?_pos,aF]
 refine⟨ae.refl,?_⟩
 rw[<-hl]
 have cc:((10:Int)^k<=(x:Int))↔10^k<=x:=by exact_mod_cast Iff.rfl
 by_cases c:10^k<=x
 ·rw[aQ (cc.2 c),aQ c];omega
 ·rw[aA (fun hc=>c (cc.1 hc)),aA c];omega
def vK(N:Nat)(f:Nat->V):List V:=(List.range N).map f
def An(N:Nat)(f:Nat->V):(vK N f).length=N:=by simp[vK]
def T4{j:Nat}{f:Nat->V}(h:j<N):(vK N f)[j]?=some (f j):=by simp[vK,h]
def lO(f:Nat->V)(k:Nat)(v:V):Nat->V:=fun j=>if j=k then v else f j
def Zst{f:Nat->V}{v:V}(h:k<N):ag (vK N f) k [v]=vK N (lO f k v):=by
 apply qG
 intro j
 rw[Mc (by rw[An];simp;omega)]
 by_cases hj:k<=j/\j<k+[v].length
 ·rw[aQ hj]
  simp at hj
  have:j=k:=by omega
  subst this
  rw[T4 h]
  simp[lO]
 ·rw[aA hj]
  simp at hj
  by_cases hN:j<N
  ·rw[T4 hN,T4 hN,lO,aA (by omega)]
  ·rw[mb (by rw[An];omega),mb (by rw[An];omega)]
def Qr{w:List Nat}{p:Nat}{f:Nat->V}{e:TypeId}{k:IntKind}{n:Int}(hp:p<Z):
  bE 1 ⟨h,N,w⟩ i p (.int k n) (some (.cells (vK Z f) e true))=some (.aS [],⟨h.set i (.cells (vK Z (lO f p (.int k n))) e true),N,i::w⟩):=by
 rw[Zk6 (by rfl) (by rw[An];omega) (by rfl)]
 show some (_,St.mk (h.set i (.cells (ag (vK Z f) p [.int k n]) e true)) _ _)=_
 rw[Zst hp]
def vB(c:UInt8):V:=.int .u8 (cR c)
def Kg:∀p:Nat,p<100->rp[2*p+1]?=some (dh p):=by decide+kernel
def Kh:∀p:Nat,p<100->rp[2*p]?=some (dh (p/10)):=by decide+kernel
def wX{b:Nat}(h:a%10=b%10):dh a=dh b:=by unfold dh;rw[h]
structure oY (Z o L x i u:Nat) (f0 f:Nat->V):Prop where
 le:i<=L
 u:u=x/10^(L-i)
 dig:∀j,i<=j->j<L->f (o+j)=vB (dh (x/10^(L-1-j)))
 out:∀j,j<o\/o+L<=j->f j=f0 j
def oY.one{L:Nat}{f0 f:Nat->V}(s:oY Z o L x (i+1) u f0 f){c:UInt8}(hc:c=dh u):oY Z o L x i (u/10) f0 (lO f (o+i) (vB c)):=by
 subst hc
 have hle:=s.le
 refine⟨by omega,?_,fun j h1 h2=>?_,fun j hj=>?_⟩
 ·rw[s.u,IW,<-fO]
  congr 2;omega
 ·by_cases hj:j=i
  ·subst hj
   rw[lO,aQ rfl,s.u]
   congr 4
   omega
  ·rw[lO,aA (by omega)]
   exact s.dig j (by omega) h2
 ·rw[lO,aA (by omega)]
  exact s.out j hj
def oY.two{L:Nat}{f0 f:Nat->V}(s:oY Z o L x (i+2) u f0 f){c d:UInt8}(hc:c=dh u)(hd:d=dh (u/10)):oY Z o L x i (u/100) f0 (lO (lO f (o+(i+1)) (vB c)) (o+i) (vB d)):=by
 have:=(oY.one (i:=i+1) s hc).one hd
 rw[IW]at this
 exact this
structure Ki (h:T O) (N ir n2 Z o L x:Nat) (f0:Nat->V) (e:TypeId) (i u:Nat) (f:Nat->V) (r:T V) (st:St):Prop where
 r4:r.get 4=some (.int .i64 i)
 n:st.n=N
 w:aD n2 st.w=[]
 row:st.h.get ir=some (.cells (vK Z f) e true)
 Qs:∀t,t≠ir->st.h.get t=h.get t
 fmt:oY Z o L x i u f0 f
def oY.eight{L:Nat}{f0 f:Nat->V}(s:oY Z o L x (i+8) u f0 f):oY Z o L x i (u/100000000) f0
  (lO (lO (lO (lO (lO (lO (lO (lO f (o+(i+7)) (vB (dh (u%100000000%10000%100)))) (o+(i+6)) (vB (dh (u%100000000%10000%100/10)))) (o+(i+5)) (vB (dh (u%100000000%10000/100)))) (o+(i+4)) (vB (dh (u%100000000%10000/100/10))))
     (o+(i+3)) (vB (dh (u%100000000/10000%100)))) (o+(i+2)) (vB (dh (u%100000000/10000%100/10)))) (o+(i+1)) (vB (dh (u%100000000/10000/100)))) (o+i) (vB (dh (u%100000000/10000/100/10)))):=by
 have s1:=oY.two (i:=i+6) s (c:=dh (u%100000000%10000%100)) (d:=dh (u%100000000%10000%100/10)) (wX (by omega)) (wX (by omega))
 have s2:=oY.two (i:=i+4) s1 (c:=dh (u%100000000%10000/100)) (d:=dh (u%100000000%10000/100/10)) (wX (by omega)) (wX (by omega))
 have s3:=oY.two (i:=i+2) s2 (c:=dh (u%100000000/10000%100)) (d:=dh (u%100000000/10000%100/10)) (wX (by omega)) (wX (by omega))
 have s4:=oY.two (i:=i) s3 (c:=dh (u%100000000/10000/100)) (d:=dh (u%100000000/10000/100/10)) (wX (by omega)) (wX (by omega))
 rw[show u/100/100/100/100=u/100000000 by omega]at s4
 exact s4
def tm8:(a:Int).tmod 100000000=((a%100000000:Nat):Int):=Int.ofNat_tmod a 100000000 |>.symm
def tm4:(a:Int).tmod 10000=((a%10000:Nat):Int):=Int.ofNat_tmod a 10000 |>.symm
def T5:(a:Int).tmod 100=((a%100:Nat):Int):=Int.ofNat_tmod a 100 |>.symm
def Yp9(h:a<18446744073709551616):bn .u64 ((a:Int)/100000000)=((a/100000000:Nat):Int):=by
 rw[BP (by omega) (by omega)];omega
def Ypy(h:a<4294967296):bn .u32 ((a:Int)/10000)=((a/10000:Nat):Int):=by
 rw[MD (by omega) (by omega)];omega
def T6(h:a<4294967296):bn .u32 ((a:Int)/100)=((a/100:Nat):Int):=by
 rw[MD (by omega) (by omega)];omega
def tw(h:a<4294967296):bn .u32 (a:Int)=(a:Int):=MD (by omega) (by omega)
def Kj(h:a<100):bn .u32 ((a:Int)*2)=((2*a:Nat):Int):=by rw[MD (by omega) (by omega)];omega
def Kk(h:a<100):bn .u32 (((2*a:Nat):Int)+1)=((2*a+1:Nat):Int):=by rw[MD (by omega) (by omega)];omega
def Yks{L:Nat}{f0 f:Nat->V}{e:TypeId}(hT:o+L<=Z)(hL:L<100)(fw:n2<=ir)(hN:ir<N){rr:T V}(hf:Fx [(1,1),(4,11),(19,95)] rr 167 ⟨r,167,[]⟩)(r0:r.get 0=some (.slice ir o L cp 1))(a1:r.get 1=some (.int .u64 u))(ub:u<18446744073709551616)(s:Ki h N ir n2 Z o L x f0 e (k+8) u f r ⟨H,N,W⟩):
  Code A.C none A.nc ⟨r,167,[]⟩ ⟨H,N,W⟩ (fun ex fr st=>ex=.normal/\∃r' f',fr=⟨r',167,[]⟩/\Fx [(1,1),(4,11),(19,95)] rr 167 ⟨r',167,[]⟩/\r'.get 1=some (.int .u64 (u/100000000:Nat))/\Ki h N ir n2 Z o L x f0 e k (u/100000000) f' r' st):=by
 rw[dk]
 obtain⟨a4,_,aw,jY,ao,af⟩:=s
 simp only at aw jY ao
 have hle:=af.le
 have v8:=af.eight
 obtain⟨us,uR⟩:∃y,u%100000000=y:=⟨_,rfl⟩
 obtain⟨uq,BT⟩:∃y,u/100000000=y:=⟨_,rfl⟩
 have t1:=tm8 (a:=u)
 have t2:=Yp9 (a:=u) ub
 rw[uR]at t1 v8
 rw[BT]at t2 v8
 have us0:us<100000000:=by omega
 have t3:=tw (a:=us) (by omega)
 obtain⟨hi,iZ⟩:∃y,us/10000=y:=⟨_,rfl⟩
 obtain⟨lo,fZ⟩:∃y,us%10000=y:=⟨_,rfl⟩
 have t4:=Ypy (a:=us) (by omega)
 have t5:=tm4 (a:=us)
 rw[iZ]at t4 v8
 rw[fZ]at t5 v8
 have t6:=T6 (a:=hi) (by omega)
 have t7:=T5 (a:=hi)
 have t8:=T6 (a:=lo) (by omega)
 have t9:=T5 (a:=lo)
 obtain⟨p1,wW⟩:∃y,hi/100=y:=⟨_,rfl⟩
 obtain⟨p2,ye⟩:∃y,hi%100=y:=⟨_,rfl⟩
 obtain⟨p3,hp3⟩:∃y,lo/100=y:=⟨_,rfl⟩
 obtain⟨p4,hp4⟩:∃y,lo%100=y:=⟨_,rfl⟩
 rw[wW]at t6 v8
 rw[ye]at t7 v8
 rw[hp3]at t8 v8
 rw[hp4]at t9 v8
 have b1:p1<100:=by omega
 have m1:=Kj b1
 have Ao:=Kk b1
 have d1:=Kg _ b1
 have g1:=Kh _ b1
 obtain⟨y1,rV⟩:∃y,2*p1+1=y:=⟨_,rfl⟩
 rw[rV]at Ao d1
 obtain⟨z1,z_⟩:∃y,2*p1=y:=⟨_,rfl⟩
 rw[z_]at m1 Ao g1
 have b2:p2<100:=by omega
 have m2:=Kj b2
 have Kl:=Kk b2
 have d2:=Kg _ b2
 have g2:=Kh _ b2
 obtain⟨y2,wj⟩:∃y,2*p2+1=y:=⟨_,rfl⟩
 rw[wj]at Kl d2
 obtain⟨z2,fS⟩:∃y,2*p2=y:=⟨_,rfl⟩
 rw[fS]at m2 Kl g2
 have b3:p3<100:=by omega
 have m3:=Kj b3
 have nn3:=Kk b3
 have d3:=Kg _ b3
 have g3:=Kh _ b3
 obtain⟨y3,hy3⟩:∃y,2*p3+1=y:=⟨_,rfl⟩
 rw[hy3]at nn3 d3
 obtain⟨z3,CX⟩:∃y,2*p3=y:=⟨_,rfl⟩
 rw[CX]at m3 nn3 g3
 have b4:p4<100:=by omega
 have m4:=Kj b4
 have nn4:=Kk b4
 have d4:=Kg _ b4
 have g4:=Kh _ b4
 obtain⟨y4,hy4⟩:∃y,2*p4+1=y:=⟨_,rfl⟩
 rw[hy4]at nn4 d4
 obtain⟨z4,vZ⟩:∃y,2*p4=y:=⟨_,rfl⟩
 rw[vZ]at m4 nn4 g4
 have e1:(k:Int)+8-1=(k:Int)+7:=by omega
 have e2:(k:Int)+8-2=(k:Int)+6:=by omega
 have e3:(k:Int)+8-3=(k:Int)+5:=by omega
 have e4:(k:Int)+8-4=(k:Int)+4:=by omega
 have e5:(k:Int)+8-5=(k:Int)+3:=by omega
 have e6:(k:Int)+8-6=(k:Int)+2:=by omega
 have e7:(k:Int)+8-7=(k:Int)+1:=by omega
 have e8:(k:Int)+8-8=(k:Int):=by omega
 have f1:((k:Int)+7).toNat=k+7:=by omega
 have f2:((k:Int)+6).toNat=k+6:=by omega
 have f3:((k:Int)+5).toNat=k+5:=by omega
 have f4:((k:Int)+4).toNat=k+4:=by omega
 have f5:((k:Int)+3).toNat=k+3:=by omega
 have f6:((k:Int)+2).toNat=k+2:=by omega
 have f7:((k:Int)+1).toNat=k+1:=by omega
 have c8:(8:Int)<=(k:Int)+8:=by omega
 have vG:¬N<=ir:=by omega
 have ir0:∀t,(T.set H ir t).get ir=some t:=fun t=>by rw[T.aj,aQ rfl]
 simp(disch:=first|(simp;done)|omega|(simp only[Zab,aq,ak];omega)|rfl) [-getElem?_pos,A.nc,hf,r0,a1,a4,c8,jY,hN,vG,bU.bZ,Qr,t1,t2,t3,t4,t5,t6,t7,t8,t9,m1,m2,m3,m4,Ao,Kl,nn3,nn4,d1,d2,d3,d4,g1,g2,g3,g4,e1,e2,e3,e4,e5,e6,e7,e8,f1,f2,f3,f4,f5,f6,f7]
 subst BT
 refine⟨by omega,_,⟨by simp,rfl,by simpa[aD,xC.2 fw]using aw,by simp only[T.aj,aQ];rfl,fun t ht=>by simp only[T.aj,aA ht];exact ao t ht,v8⟩⟩
structure FbE (h:T O) (N ir n2 Z o L x:Nat) (f0:Nat->V) (e:TypeId) (st:St):Prop where
 n:st.n=N
 w:aD n2 st.w=[]
 Qs:∀t,t≠ir->st.h.get t=h.get t
 ex:∃f,st.h.get ir=some (.cells (vK Z f) e true)/\(∀j,j<L->f (o+j)=vB (dh (x/10^(L-1-j))))/\∀j,j<o\/o+L<=j->f j=f0 j
def Yl2(h:u<10):V.int .u8 (48+(u:Int))=vB (dh u):=by
 unfold vB cR
 rw[Km]
 congr 1;omega
def Ym9{L:Nat}{f0 f:Nat->V}{e:TypeId}(hZ:o+L<=Z)(fw:n2<=ir)(hN:ir<N)(hi:i<2)(hu:u<10^i)(r0:r.get 0=some (.slice ir o L cp 1))(By:r.get 12=some (.int .u32 u))(s:Ki h N ir n2 Z o L x f0 e i u f r ⟨H,N,W⟩):
  Code A.C none A.nd ⟨r,167,[]⟩ ⟨H,N,W⟩ (fun ex fr st=>ex=.normal/\∃r',fr=⟨r',167,[]⟩/\FbE h N ir n2 Z o L x f0 e st):=by
 rw[dk]
 obtain⟨a4,_,aw,jY,ao,af⟩:=s
 simp only at aw jY ao
 have hle:=af.le
 obtain rfl|rfl:i=0\/i=1:=by omega
 ·simp(disch:=first|(simp;done)|omega|(simp only[Zab,aq,ak];omega)|rfl) [-getElem?_pos,A.nd,r0,a4]
  exact⟨rfl,aw,ao,f,jY,fun j hj=>af.dig j (xW _) hj,af.out⟩
 ·have og:u<10:=by omega
  have e1:bn .u32 (48+(u:Int))=48+(u:Int):=MD (by omega) (by omega)
  have e2:bn .u8 (48+(u:Int))=48+(u:Int):=Bs (by omega) (by omega)
  have hL:(0:Int)<(L:Int):=by omega
  simp(disch:=first|(simp;done)|omega|(simp only[Zab,aq,ak];omega)|rfl) [-getElem?_pos,A.nd,r0,a4,By,e1,e2,hL,jY,Qr]
  have v:=oY.one (i:=0) af (c:=dh u) rfl
  rw[<-Yl2 og,tF]at v
  exact⟨rfl,by simpa[aD,xC.2 fw]using aw,fun t ht=>by rw[T.aj,aA ht];exact ao t ht,_,by rw[T.aj,aQ rfl],fun j hj=>v.dig j (xW _) hj,v.out⟩
def Ym8{L:Nat}{f0 f:Nat->V}{e:TypeId}(hZ:o+L<=Z)(fw:n2<=ir)(hN:ir<N)(hi:i<4)(hu:u<10^i)(r0:r.get 0=some (.slice ir o L cp 1))(By:r.get 12=some (.int .u32 u))(s:Ki h N ir n2 Z o L x f0 e i u f r ⟨H,N,W⟩):
  Code A.C none A.nf ⟨r,167,[]⟩ ⟨H,N,W⟩ (fun ex fr st=>ex=.normal/\∃r',fr=⟨r',167,[]⟩/\FbE h N ir n2 Z o L x f0 e st):=by
 rw[dk]
 have s0:=s
 obtain⟨a4,_,aw,jY,ao,af⟩:=s
 simp only at aw jY ao
 have hle:=af.le
 by_cases hc:i<2
 ·have c1:¬(2:Int)<=(i:Int):=by omega
  simp(disch:=first|(simp;done)|omega|(simp only[Zab,aq,ak];omega)|rfl) [-getElem?_pos,A.nf,r0,a4,c1]
  refine mJ (Ym9 (i:=i) (u:=u) (f:=f) (cp:=cp) hZ fw hN hc hu (by simp[r0]) (by simp[By]) ⟨by simp[a4],rfl,aw,jY,ao,af⟩) ?_
  rintro ex fr st ⟨rfl,r',rfl,hE⟩
  simp
  exact hE
 ·obtain⟨k,rfl⟩:∃k,i=k+2:=⟨i-2,by omega⟩
  have Qt:u<10000:=by
   have:10^(k+2)<=10^4:=pc (by decide) (by omega)
   omega
  have c1:(2:Int)<=(k:Int)+2:=by omega
  have vG:¬N<=ir:=by omega
  have t6:=T6 (a:=u) (by omega)
  have t7:=T5 (a:=u)
  have v:=oY.two (i:=k) af (c:=dh (u%100)) (d:=dh (u%100/10)) (wX (by omega)) (wX (by omega))
  have fD:u/100<10^k:=by
   rw[pK (by decide)]
   rw[iF]at hu
   exact hu
  obtain⟨uq,BT⟩:∃y,u/100=y:=⟨_,rfl⟩
  obtain⟨p1,wW⟩:∃y,u%100=y:=⟨_,rfl⟩
  rw[BT]at t6 v fD
  rw[wW]at t7 v
  have b1:p1<100:=by omega
  have m1:=Kj b1
  have Ao:=Kk b1
  have d1:=Kg _ b1
  have g1:=Kh _ b1
  obtain⟨y1,rV⟩:∃y,2*p1+1=y:=⟨_,rfl⟩
  rw[rV]at Ao d1
  obtain⟨z1,z_⟩:∃y,2*p1=y:=⟨_,rfl⟩
  rw[z_]at m1 Ao g1
  have e1:(k:Int)+2-1=(k:Int)+1:=by omega
  have e2:(k:Int)+2-2=(k:Int):=by omega
  have f1:((k:Int)+1).toNat=k+1:=by omega
  have hI:∀t n,(((H.set ir t).set ir n):T O).get ir=some n:=fun t n=>by rw[T.aj,aQ rfl]
  simp(disch:=first|(simp;done)|omega|(simp only[Zab,aq,ak];omega)|rfl) [-getElem?_pos,A.nf,r0,a4,By,c1,jY,hN,vG,bU.bZ,Qr,t6,t7,m1,Ao,d1,g1,e1,e2,f1]
  refine mJ (Ym9 (i:=k) (u:=uq) (cp:=cp) (e:=e) hZ fw hN (by omega) fD (by simp[r0]) (by simp) ⟨by simp,rfl,by simpa[aD,xC.2 fw]using aw,by simp only[T.aj,aQ];rfl,fun t ht=>by simp only[T.aj,aA ht];exact ao t ht,v⟩) ?_
  rintro ex fr st ⟨rfl,r',rfl,hE⟩
  simp
  exact hE
def oY.four{T L:Nat}{f0 f:Nat->V}(s:oY T o L x (i+4) u f0 f):oY T o L x i (u/10000) f0
  (lO (lO (lO (lO f (o+(i+3)) (vB (dh (u%10000%100)))) (o+(i+2)) (vB (dh (u%10000%100/10)))) (o+(i+1)) (vB (dh (u%10000/100)))) (o+i) (vB (dh (u%10000/100/10)))):=by
 have s1:=oY.two (i:=i+2) s (c:=dh (u%10000%100)) (d:=dh (u%10000%100/10)) (wX (by omega)) (wX (by omega))
 have s2:=oY.two (i:=i) s1 (c:=dh (u%10000/100)) (d:=dh (u%10000/100/10)) (wX (by omega)) (wX (by omega))
 rw[show u/100/100=u/10000 by omega]at s2
 exact s2
def Ypg{L:Nat}{f0 f:Nat->V}{e:TypeId}(hZ:o+L<=Z)(fw:n2<=ir)(hN:ir<N)(hi:i<8)(hu:u<10^i)(r0:r.get 0=some (.slice ir o L cp 1))(By:r.get 12=some (.int .u32 u))(s:Ki h N ir n2 Z o L x f0 e i u f r ⟨H,N,W⟩):
  Code A.C none A.nh ⟨r,167,[]⟩ ⟨H,N,W⟩ (fun ex fr st=>ex=.normal/\∃r',fr=⟨r',167,[]⟩/\FbE h N ir n2 Z o L x f0 e st):=by
 rw[dk]
 obtain⟨a4,_,aw,jY,ao,af⟩:=s
 simp only at aw jY ao
 have hle:=af.le
 by_cases hc:i<4
 ·have c1:¬(4:Int)<=(i:Int):=by omega
  simp(disch:=first|(simp;done)|omega|(simp only[Zab,aq,ak];omega)|rfl) [-getElem?_pos,A.nh,r0,a4,c1]
  refine mJ (Ym8 (i:=i) (u:=u) (f:=f) (cp:=cp) hZ fw hN hc hu (by simp[r0]) (by simp[By]) ⟨by simp[a4],rfl,aw,jY,ao,af⟩) ?_
  rintro ex fr st ⟨rfl,r',rfl,hE⟩
  simp
  exact hE
 ·obtain⟨k,rfl⟩:∃k,i=k+4:=⟨i-4,by omega⟩
  have Qt:u<100000000:=by
   have:10^(k+4)<=10^8:=pc (by decide) (by omega)
   omega
  have c1:(4:Int)<=(k:Int)+4:=by omega
  have vG:¬N<=ir:=by omega
  have t4:=Ypy (a:=u) (by omega)
  have t5:=tm4 (a:=u)
  have v:=af.four
  have fD:u/10000<10^k:=by
   rw[pK (by decide)]
   rw[iF]at hu
   exact hu
  obtain⟨uq,BT⟩:∃y,u/10000=y:=⟨_,rfl⟩
  obtain⟨lo,fZ⟩:∃y,u%10000=y:=⟨_,rfl⟩
  rw[BT]at t4 v fD
  rw[fZ]at t5 v
  have t6:=T6 (a:=lo) (by omega)
  have t7:=T5 (a:=lo)
  obtain⟨p1,wW⟩:∃y,lo/100=y:=⟨_,rfl⟩
  obtain⟨p2,ye⟩:∃y,lo%100=y:=⟨_,rfl⟩
  rw[wW]at t6 v
  rw[ye]at t7 v
  have b1:p1<100:=by omega
  have m1:=Kj b1
  have Ao:=Kk b1
  have d1:=Kg _ b1
  have g1:=Kh _ b1
  obtain⟨y1,rV⟩:∃y,2*p1+1=y:=⟨_,rfl⟩
  rw[rV]at Ao d1
  obtain⟨z1,z_⟩:∃y,2*p1=y:=⟨_,rfl⟩
  rw[z_]at m1 Ao g1
  have b2:p2<100:=by omega
  have m2:=Kj b2
  have Kl:=Kk b2
  have d2:=Kg _ b2
  have g2:=Kh _ b2
  obtain⟨y2,wj⟩:∃y,2*p2+1=y:=⟨_,rfl⟩
  rw[wj]at Kl d2
  obtain⟨z2,fS⟩:∃y,2*p2=y:=⟨_,rfl⟩
  rw[fS]at m2 Kl g2
  have e1:(k:Int)+4-1=(k:Int)+3:=by omega
  have e2:(k:Int)+4-2=(k:Int)+2:=by omega
  have e3:(k:Int)+4-3=(k:Int)+1:=by omega
  have e4:(k:Int)+4-4=(k:Int):=by omega
  have f1:((k:Int)+3).toNat=k+3:=by omega
  have f2:((k:Int)+2).toNat=k+2:=by omega
  have f3:((k:Int)+1).toNat=k+1:=by omega
  simp(disch:=first|(simp;done)|omega|(simp only[Zab,aq,ak];omega)|rfl) [-getElem?_pos,A.nh,r0,a4,By,c1,jY,hN,vG,Qr,t4,t5,t6,t7,m1,Ao,d1,g1,m2,Kl,d2,g2,e1,e2,e3,e4,f1,f2,f3]
  refine mJ (Ym8 (i:=k) (u:=uq) (cp:=cp) (e:=e) hZ fw hN (by omega) fD (by simp[r0]) (by simp) ⟨by simp,rfl,by simpa[aD,xC.2 fw]using aw,by simp only[T.aj,aQ];rfl,fun t ht=>by simp only[T.aj,aA ht];exact ao t ht,v⟩) ?_
  rintro ex fr st ⟨rfl,r',rfl,hE⟩
  simp
  exact hE
def Code.mono{C:Cx}{ro:Option Nat}{c:cF}{fr:Fr}{st:St}{P Q:Ex->Fr->St->Prop}(h:Code C ro c fr st P)(k:∀e fr st,P e fr st->Q e fr st):Code C ro c fr st Q:=by
 rw[dk]
 refine mJ h ?_
 intro e fr st hp
 simp
 exact k _ _ _ hp
structure FbR (h:T O) (N ir n2 Z o L x:Nat) (f0:Nat->V) (e:TypeId) (w:List Nat) (st:St):Prop where
 n:st.n=N
 w:aD n2 st.w=aD n2 w
 Qs:∀t,t≠ir->st.h.get t=h.get t
 ex:∃f,st.h.get ir=some (.cells (vK Z f) e true)/\(∀j,j<L->f (o+j)=vB (dh (x/10^(L-1-j))))/\∀j,j<o\/o+L<=j->f j=f0 j
def Zud{L:Nat}{f0:Nat->V}{e:TypeId}{w:List Nat}(hZ:o+L<=Z)(hL:L<100)(fw:n2<=ir)(hN:ir<N)(hx:x<10^L)(hx6:x<18446744073709551616)(hr:h.get ir=some (.cells (vK Z f0) e true)):
  Call A.C (.func 297 [] []) [.slice ir o L cp 1,.int .u64 x] ⟨h,N,w⟩ (fun _ st=>FbR h N ir n2 Z o L x f0 e w st):=by
 rw[aV,A.k297 (by simp)]
 simp(disch:=first|(simp;done)|omega|(simp only[Zab,aq,ak];omega)|rfl) [-getElem?_pos,A.b297]
 refine c_ [(1,1),(4,11),(19,95)] (fun ex r st=>ex=.exit 0/\∃(i u:Nat) (f:Nat->V),i<8/\u<10^i/\r.get 1=some (.int .u64 u)/\Ki h N ir n2 Z o L x f0 e i u f r st) (fun i r st=>∃(u:Nat) (f:Nat->V),u<10^i/\u<18446744073709551616/\r.get 1=some (.int .u64 u)/\Ki h N ir n2 Z o L x f0 e i u f r st) L ?_ ?_ ?_
 ·refine⟨x,f0,hx,hx6,by simp,by simp,rfl,by simp[aD],hr,fun t _=>rfl,⟨aZ _,by simp,fun j h1 h2=>by omega,fun j _=>rfl⟩⟩
 ·rintro i r ⟨H,n1,W⟩ hr hf ⟨u,f,hu,Kn,a1,J⟩
  have hn:=J.n
  simp only at hn
  subst hn
  have r0:r.get 0=some (.slice ir o L cp 1):=by rw[hr 0 (by decide)];simp
  by_cases h8:i<8
  ·have c8:¬(8:Int)<=(i:Int):=by omega
   have a4:=J.r4
   rw[dk]
   simp(disch:=first|(simp;done)|omega|(simp only[Zab,aq,ak];omega)|rfl) [-getElem?_pos,A.nc,hr,hf,a4,c8]
   exact⟨i,h8,u,hu,by simp[a1],f,⟨by simp[a4],J.n,J.w,J.row,J.Qs,J.fmt⟩⟩
  ·obtain⟨k,rfl⟩:∃k,i=k+8:=⟨i-8,by omega⟩
   refine Code.mono (Yks hZ hL fw hN hf r0 a1 Kn J) ?_
   rintro ex fr st ⟨rfl,r',f',rfl,yV,a1',J'⟩
   refine Zsf.2 ⟨yV,k,by omega,_,f',?_,by omega,a1',J'⟩
   rw[pK (by decide)]
   rw[iF]at hu
   exact hu
 ·rintro ex r ⟨H,n1,W⟩ hr ⟨rfl,i,u,f,h8,hu,a1,J⟩
  have hn:=J.n
  simp only at hn
  subst hn
  have hu7:u<4294967296:=by
   have:10^i<=10^7:=pc (by decide) (by omega)
   omega
  have e1:=tw hu7
  simp(disch:=first|(simp;done)|omega|(simp only[Zab,aq,ak];omega)|rfl) [-getElem?_pos,a1,e1]
  refine mJ (Ypg (i:=i) (u:=u) (f:=f) (cp:=cp) (e:=e) (H:=H) (W:=W) hZ fw hN h8 hu (by simp;rw[hr 0 (by decide)];simp) (by simp) ⟨by simpa using J.r4,rfl,J.w,J.row,J.Qs,J.fmt⟩) ?_
  rintro ex fr ⟨H2,wY,W2⟩ ⟨rfl,r',rfl,hn,hW,hO,hE⟩
  simp only at hn
  subst hn
  simp(disch:=first|(simp;done)|omega|(simp only[Zab,aq,ak];omega)|rfl) [-getElem?_pos,]
  exact⟨rfl,by rw[PQ (PR hW)],hO,hE⟩
end Go.Mx
