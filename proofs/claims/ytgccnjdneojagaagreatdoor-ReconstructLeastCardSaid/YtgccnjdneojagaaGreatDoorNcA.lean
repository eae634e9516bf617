/-strconv-/
import Derived.Test.YtgccnjdneojagaaGreatDoorPaA
set_option linter.all false
set_option maxHeartbeats 4000000
namespace Go.Mx
noncomputable section
open Go Go.Proofs
variable {H h:T O} {N Z a i ir k n2 o u x:Nat} {W:List Nat} {cp:Option Nat} {r:T V}
set_option maxRecDepth 1000000
def tU:List UInt8:=[48,48,48,49,48,50,48,51,48,52,48,53,48,54,48,55,48,56,48,57,49,48,49,49,49,50,49,51,49,52,49,53,49,54,49,55,49,56,49,57,50,48,50,49,50,50,50,51,50,52,50,53,50,54,50,55,50,56,50,57,51,48,51,49,51,50,51,51,51,52,51,53,51,54,51,55,51,56,51,57,52,48,52,49,52,50,52,51,52,52,52,53,52,54,52,55,52,56,52,57,53,48,53,49,53,50,53,51,53,52,53,53,53,54,53,55,53,56,53,57,54,48,54,49,54,50,54,51,54,52,54,53,54,54,54,55,54,56,54,57,55,48,55,49,55,50,55,51,55,52,55,53,55,54,55,55,55,56,55,57,56,48,56,49,56,50,56,51,56,52,56,53,56,54,56,55,56,56,56,57,57,48,57,49,57,50,57,51,57,52,57,53,57,54,57,55,57,56,57,57]
def Yjk:List UInt8:=[48,49,50,51,52,53,54,55,56,57,97,98,99,100,101,102,103,104,105,106,107,108,109,110,111,112,113,114,115,116,117,118,119,120,121,122]
def A.b263:=A.q Tryz.f263
def A.k263:=@A.kk 263 15 [.tmp 2] A.b263 (by kernel_rfl) rfl
def A.b282:=A.q Tryz.f282
def A.k282:=@A.kk 282 6 [.tmp 2] A.b282 (by kernel_rfl) rfl
def A.b283:=A.q Tryz.f283
def A.k283:=@A.kk 283 4 [.tmp 2] A.b283 (by kernel_rfl) rfl
def A.oZ:cF:=.seq (sr [mv 19 4,bc 20 .geq 19 8] (cd 20 (.skip) (.exit 0))) (.block 1 (sr [mv 21 1,ge 22 (.bin .rem (.node []) false (tq 21) (.const (.int .u64 100000000))),ge 23 (.dE .u32 (tq 22)),mv 5 23] (sr [mv 24 1,ge 25 (.bin .quo (.node []) false (tq 24) (.const (.int .u64 100000000))),mv 1 25] (sr [mv 26 5,ge 27 (.bin .quo (.node []) false (tq 26) (.const (.int .u32 10000))),mv 28 5,ge 29 (.bin .rem (.node []) false (tq 28) (.const (.int .u32 10000))),mv 6 27,mv 7 29] (sr [mv 30 7,ge 31 (.bin .quo (.node []) false (tq 30) (.const (.int .u32 100))),ge 32 (.bin .mul (.node []) false (tq 31) (.const (.int .u32 2))),mv 33 7,ge 34 (.bin .rem (.node []) false (tq 33) (.const (.int .u32 100))),ge 35 (.bin .mul (.node []) false (tq 34) (.const (.int .u32 2))),mv 8 32,mv 9 35] (sr [mv 36 6,ge 37 (.bin .quo (.node []) false (tq 36) (.const (.int .u32 100))),ge 38 (.bin .mul (.node []) false (tq 37) (.const (.int .u32 2))),mv 39 6,ge 40 (.bin .rem (.node []) false (tq 39) (.const (.int .u32 100))),ge 41 (.bin .mul (.node []) false (tq 40) (.const (.int .u32 2))),mv 10 38,mv 11 41] (.seq (.gK [mv 42 0,mv 43 4,bc 44 .sub 43 1,mv 45 0,mv 46 4,bc 47 .sub 46 2,mv 48 9,ge 49 (.bin .add (.node []) false (tq 48) (.const (.int .u32 1))),ge 50 (.bN (.const (.str tU)) (tq 49)),mv 51 9,ge 52 (.bN (.const (.str tU)) (tq 51)),ia 53 1 42 44,so 53 50,ia 54 1 45 47,so 54 52] [0,0,2,0,0,16,0,64,192,0,512,455,2503,8191,16383]) (.seq (.gK [mv 55 0,mv 56 4,bc 57 .sub 56 3,mv 58 0,mv 59 4,bc 60 .sub 59 4,mv 61 8,ge 62 (.bin .add (.node []) false (tq 61) (.const (.int .u32 1))),ge 63 (.bN (.const (.str tU)) (tq 62)),mv 64 8,ge 65 (.bN (.const (.str tU)) (tq 64)),ia 66 1 55 57,so 66 63,ia 67 1 58 60,so 67 65] [0,0,2,0,0,16,0,64,192,0,512,455,2503,8191,16383]) (.seq (.gK [mv 68 0,mv 69 4,bc 70 .sub 69 5,mv 71 0,mv 72 4,bc 73 .sub 72 6,mv 74 11,ge 75 (.bin .add (.node []) false (tq 74) (.const (.int .u32 1))),ge 76 (.bN (.const (.str tU)) (tq 75)),mv 77 11,ge 78 (.bN (.const (.str tU)) (tq 77)),ia 79 1 68 70,so 79 76,ia 80 1 71 73,so 80 78] [0,0,2,0,0,16,0,64,192,0,512,455,2503,8191,16383]) (.seq (.gK [mv 81 0,mv 82 4,bc 83 .sub 82 7,mv 84 0,mv 85 4,bc 86 .sub 85 8,mv 87 10,ge 88 (.bin .add (.node []) false (tq 87) (.const (.int .u32 1))),ge 89 (.bN (.const (.str tU)) (tq 88)),mv 90 10,ge 91 (.bN (.const (.str tU)) (tq 90)),ia 92 1 81 83,so 92 89,ia 93 1 84 86,so 93 91] [0,0,2,0,0,16,0,64,192,0,512,455,2503,8191,16383]) (.gw [mv 94 4,bc 95 .sub 94 8,mv 4 95])))))))))))
def A.o_:cF:=sr [mv 160 4,bc 161 .gtr 160 0] (cd 161 (.gw [mv 162 0,mv 163 12,ge 164 (.bin .add (.node []) false (.const (.int .u32 48)) (tq 163)),ge 165 (.dE .u8 (tq 164)),ge 166 (.jf 1 (tq 162) (kq 0)),so 166 165]) (.skip))
def A.pc:cF:=.seq (sr [mv 138 4,bc 139 .geq 138 2] (cd 139 (sr [mv 140 12,ge 141 (.bin .rem (.node []) false (tq 140) (.const (.int .u32 100))),ge 142 (.bin .mul (.node []) false (tq 141) (.const (.int .u32 2))),mv 16 142] (sr [mv 143 12,ge 144 (.bin .quo (.node []) false (tq 143) (.const (.int .u32 100))),mv 12 144] (.seq (.gK [mv 145 0,mv 146 4,bc 147 .sub 146 1,mv 148 0,mv 149 4,bc 150 .sub 149 2,mv 151 16,ge 152 (.bin .add (.node []) false (tq 151) (.const (.int .u32 1))),ge 153 (.bN (.const (.str tU)) (tq 152)),mv 154 16,ge 155 (.bN (.const (.str tU)) (tq 154)),ia 156 1 145 147,so 156 153,ia 157 1 148 150,so 157 155] [0,0,2,0,0,16,0,64,192,0,512,455,2503,8191,16383]) (.gw [mv 158 4,bc 159 .sub 158 2,mv 4 159])))) (.skip)))
 A.o_
def A.pe:cF:=.seq (sr [mv 98 4,bc 99 .geq 98 4] (cd 99 (sr [mv 100 12,ge 101 (.bin .rem (.node []) false (tq 100) (.const (.int .u32 10000))),mv 13 101] (sr [mv 102 12,ge 103 (.bin .quo (.node []) false (tq 102) (.const (.int .u32 10000))),mv 12 103] (sr [mv 104 13,ge 105 (.bin .quo (.node []) false (tq 104) (.const (.int .u32 100))),ge 106 (.bin .mul (.node []) false (tq 105) (.const (.int .u32 2))),mv 107 13,ge 108 (.bin .rem (.node []) false (tq 107) (.const (.int .u32 100))),ge 109 (.bin .mul (.node []) false (tq 108) (.const (.int .u32 2))),mv 14 106,mv 15 109] (.seq (.gK [mv 110 0,mv 111 4,bc 112 .sub 111 1,mv 113 0,mv 114 4,bc 115 .sub 114 2,mv 116 15,ge 117 (.bin .add (.node []) false (tq 116) (.const (.int .u32 1))),ge 118 (.bN (.const (.str tU)) (tq 117)),mv 119 15,ge 120 (.bN (.const (.str tU)) (tq 119)),ia 121 1 110 112,so 121 118,ia 122 1 113 115,so 122 120] [0,0,2,0,0,16,0,64,192,0,512,455,2503,8191,16383]) (.seq (.gK [mv 123 0,mv 124 4,bc 125 .sub 124 3,mv 126 0,mv 127 4,bc 128 .sub 127 4,mv 129 14,ge 130 (.bin .add (.node []) false (tq 129) (.const (.int .u32 1))),ge 131 (.bN (.const (.str tU)) (tq 130)),mv 132 14,ge 133 (.bN (.const (.str tU)) (tq 132)),ia 134 1 123 125,so 134 131,ia 135 1 126 128,so 135 133] [0,0,2,0,0,16,0,64,192,0,512,455,2503,8191,16383]) (.gw [mv 136 4,bc 137 .sub 136 4,mv 4 137])))))) (.skip)))
 A.pc
def A.b264:cF:=sr [mv 17 0,ln 18 17,mv 4 18] (.seq (.block 0 (.loop A.oZ)) (sr [mv 96 1,ge 97 (.dE .u32 (tq 96)),mv 12 97]
 A.pe))
def A.k264:=@A.kk 264 167 [] A.b264 (by kernel_rfl) rfl
def A.b262:cF:=sr [ge 2 (.vD (.const (.str [])))] (.seq (sr [mv 3 0,bc 4 .lss 3 10] (cd 4 (sr [mv 5 0,mv 6 0,bc 7 .add 6 1,ge 8 (.cG (.const (.str Yjk)) (some (tq 5)) (some (tq 7))),mv 2 8] (.ret)) (.skip))) (sr [mv 9 0,bc 10 .mul 9 2,mv 11 0,bc 12 .mul 11 2,bc 13 .add 12 2,ge 14 (.cG (.const (.str tU)) (some (tq 10)) (some (tq 13))),mv 2 14] (.ret)))
def A.k262:=@A.kk 262 15 [.tmp 2] A.b262 (by kernel_rfl) rfl
@[simp] def Xbe {a b:Nat}:a<b\/b<=a:=Nat.lt_or_ge a b
def MO{n:Int}(h1:0<=n)(h2:n<4294967296):bn .u32 n=n:=by rw[BF];show n%4294967296=n;omega
def Yzq:List Nat:=[1,10,100,1000,10000,100000,1000000,10000000,100000000,1000000000,10000000000,100000000000,1000000000000,10000000000000,100000000000000,1000000000000000,10000000000000000,100000000000000000,1000000000000000000,10000000000000000000]
def iG(h:T O)(N:Nat):Prop:=3<N/\h.get 3=some A.OF
def iG.ad{h':T O}{N':Nat}(s:iG h N)(k:ab h N h' N'):iG h' N':=by exact⟨fg s.1 k.le,(k.get _ s.1).trans s.2⟩
def iG.ex(s:iG h N):3<N/\∃e rw,h.get 3=some (.cells (dg Yzq) e rw):=⟨s.1,_,_,s.2.trans rfl⟩
def Yl8:∀j:Nat,j<20->Yzq[j]?=some (10^j):=by decide+kernel
def Yst{j:Nat}(h:j<20):(dg Yzq)[j]?=some (.int .u64 ((10^j:Nat):Int)):=fZ (Yl8 j h)
def Yp1:∀b:Nat,b<65->0<b->10^(b*78913/262144)<=10*2^(b-1)/\2^b<=10^(b*78913/262144+1)/\b*78913/262144<20:=by decide+kernel
def Xai{b:Nat}(hb:b<65)(hk:b*78913/262144=k){h:T O}{N:Nat}:Fn A.C 282 [.int .i64 b] h N (fun v h' N'=>h'=h/\N'=N/\v=.int .i64 (k:Nat)):=by
 intro w;rw[aQ,A.k282 (by simp)];have e1:bn .i64 ((b:Int)*78913)=(b:Int)*78913:=cL (by omega) (by omega);have e2:AI .shr .i64 ((b:Int)*78913) 18=some (.int .i64 ((b:Int)*78913/262144)):=by unfold AI;rw[ak (by omega)];show some (V.int .i64 (Int.fdiv _ 262144))=_;rw[Int.fdiv_eq_ediv_of_nonneg _ (by omega)]
 have e3:(b:Int)*78913/262144=k:=by omega
 simp[A.b282,e1,e2,e3,az];exact ab.refl
def Xa1{b:Bool}:Fn A.C 283 [.bool b] h N (fun v h' N'=>h'=h/\N'=N/\v=.int .i64 (if b=true then 1 else 0)):=by
 intro w;rw[aQ,A.k283 (by simp)];cases b
 ·simp[A.b283,az];exact ab.refl
 simp[A.b283,az];exact ab.refl
def Zt5(hx:0<x)(hb:ba x<65):(if 10^(ba x*78913/262144)<=x then 1 else 0)+ba x*78913/262144=(du x).length:=by
 have jK:x≠0:=by omega
 have h1:=Ve x;have h2:=MJ jK;have h0:0<ba x:=by unfold ba;rw[ak jK];omega
 obtain⟨g1,g2,g3⟩:=Yp1 _ hb h0;generalize hk:ba x*78913/262144=k at*;have u1:(du x).length<=k+1:=rE.1 (by omega);by_cases c:10^k<=x
 ·rw[av c];have:¬(du x).length<=k:=fun hc=>by have:=rE.2 hc;omega
  omega
 rw[ak c];have u2:(du x).length<=k:=rE.1 (by omega);cases k with
 |zero=>omega
 |succ j=>
  have:¬(du x).length<=j:=fun hc=>by have:=rE.2 hc;rw[im]at g1;omega
  omega
def Ys3(hx:x<18446744073709551616)(h0:0<x){h:T O}{N:Nat}(hp:iG h N):Fn A.C 263 [.int .u64 x] h N (fun v h' N'=>h'=h/\N'=N/\v=.int .i64 ((du x).length:Nat)):=by
 intro w;have hb:ba x<65:=by apply vC;intro hc;have h2:=MJ (show x≠0 by omega);have:2^64<=2^(ba x-1):=rO (by decide) (by omega);omega
 rw[aQ,A.k263 (by simp)];simp[A.b263];refine ar (Ztn hx) ?_;rintro _ _ _ _ ⟨rfl,rfl,rfl⟩;simp[];refine ar (Xai hb rfl) ?_;rintro _ _ _ _ ⟨rfl,rfl,rfl⟩;have qU:0<ba x:=by unfold ba;rw[ak (by omega)];omega
 have hl:=Zt5 h0 hb;have g3:=(Yp1 _ hb qU).2.2;generalize ba x*78913/262144=k at*;obtain⟨q1,e,rw,q2⟩:=hp.ex;have q3:=Yst g3;have g4:(k:Int)<20:=by omega
 simp[EF,g4,q2,q3];refine ar Xa1 ?_;rintro _ _ _ _ ⟨rfl,rfl,rfl⟩;simp(disch:=omega) [az];refine⟨ab.refl,?_⟩;rw[<-hl];have cc:((10:Int)^k<=(x:Int))↔10^k<=x:=by exact_mod_cast Iff.rfl
 by_cases c:10^k<=x
 ·rw[av (cc.2 c),av c];omega
 rw[ak (fun hc=>c (cc.1 hc)),ak c];omega
def yg(N:Nat)(f:Nat->V):List V:=(List.range N).map f
def Cn(N:Nat)(f:Nat->V):(yg N f).length=N:=by simp[yg]
def Vp{j:Nat}{f:Nat->V}(h:j<N):(yg N f)[j]?=some (f j):=by simp[yg,h]
def nI(f:Nat->V)(k:Nat)(v:V):Nat->V:=fun j=>if j=k then v else f j
def Zxd{f:Nat->V}{v:V}(h:k<N):ae (yg N f) k [v]=yg N (nI f k v):=by
 apply nN;intro j;rw[Mo (by rw[Cn];simp;omega)];by_cases hj:k<=j/\j<k+[v].length
 ·rw[av hj];simp at hj;have:j=k:=by omega
  subst this;rw[Vp h];simp[nI]
 rw[ak hj];simp at hj;by_cases hN:j<N
 ·rw[Vp hN,Vp hN,nI,ak (by omega)]
 rw[fy (by rw[Cn];omega),fy (by rw[Cn];omega)]
def QQ{w:List Nat}{p:Nat}{f:Nat->V}{e:TypeId}{k:IntKind}{n:Int}(hp:p<Z):
  bO 1 ⟨h,N,w⟩ i p (.int k n) (some (.cells (yg Z f) e true))=some (.aX [],⟨h.set i (.cells (yg Z (nI f p (.int k n))) e true),N,i::w⟩):=by rw[Zns (by rfl) (by rw[Cn];omega) (by rfl)];show some (_,St.mk (h.set i (.cells (ae (yg Z f) p [.int k n]) e true)) _ _)=_;rw[Zxd hp]
def vB(c:UInt8):V:=.int .u8 (cX c)
def Kk:∀p:Nat,p<100->tU[2*p+1]?=some (dp p):=by decide+kernel
def Kl:∀p:Nat,p<100->tU[2*p]?=some (dp (p/10)):=by decide+kernel
def zw{b:Nat}(h:a%10=b%10):dp a=dp b:=by unfold dp;rw[h]
structure rb (Z o L x i u:Nat) (f0 f:Nat->V):Prop where
 le:i<=L
 u:u=x/10^(L-i)
 dig:∀j,i<=j->j<L->f (o+j)=vB (dp (x/10^(L-1-j)))
 out:∀j,j<o\/o+L<=j->f j=f0 j
def rb.one{L:Nat}{f0 f:Nat->V}(s:rb Z o L x (i+1) u f0 f){c:UInt8}(hc:c=dp u):rb Z o L x i (u/10) f0 (nI f (o+i) (vB c)):=by
 subst hc;have hle:=s.le;refine⟨by omega,?_,fun j h1 h2=>?_,fun j hj=>?_⟩
 ·rw[s.u,IY,<-im];congr 2;omega
 ·by_cases hj:j=i
  ·subst hj;rw[nI,av rfl,s.u];congr 4;omega
  rw[nI,ak (by omega)];exact s.dig j (by omega) h2
 rw[nI,ak (by omega)];exact s.out j hj
def rb.two{L:Nat}{f0 f:Nat->V}(s:rb Z o L x (i+2) u f0 f){c d:UInt8}(hc:c=dp u)(hd:d=dp (u/10)):rb Z o L x i (u/100) f0 (nI (nI f (o+(i+1)) (vB c)) (o+i) (vB d)):=by have:=(rb.one (i:=i+1) s hc).one hd;rw[IY]at this;exact this
structure Km (h:T O) (N ir n2 Z o L x:Nat) (f0:Nat->V) (e:TypeId) (i u:Nat) (f:Nat->V) (r:T V) (st:St):Prop where
 r4:r.get 4=some (.int .i64 i)
 n:st.n=N
 w:ay n2 st.w=[]
 row:st.h.get ir=some (.cells (yg Z f) e true)
 QR:∀t,t≠ir->st.h.get t=h.get t
 fmt:rb Z o L x i u f0 f
def rb.eight{L:Nat}{f0 f:Nat->V}(s:rb Z o L x (i+8) u f0 f):rb Z o L x i (u/100000000) f0
  (nI (nI (nI (nI (nI (nI (nI (nI f (o+(i+7)) (vB (dp (u%100000000%10000%100)))) (o+(i+6)) (vB (dp (u%100000000%10000%100/10)))) (o+(i+5)) (vB (dp (u%100000000%10000/100)))) (o+(i+4)) (vB (dp (u%100000000%10000/100/10))))
     (o+(i+3)) (vB (dp (u%100000000/10000%100)))) (o+(i+2)) (vB (dp (u%100000000/10000%100/10)))) (o+(i+1)) (vB (dp (u%100000000/10000/100)))) (o+i) (vB (dp (u%100000000/10000/100/10)))):=by have s1:=rb.two (i:=i+6) s (c:=dp (u%100000000%10000%100)) (d:=dp (u%100000000%10000%100/10)) (zw (by omega)) (zw (by omega));have s2:=rb.two (i:=i+4) s1 (c:=dp (u%100000000%10000/100)) (d:=dp (u%100000000%10000/100/10)) (zw (by omega)) (zw (by omega));have s3:=rb.two (i:=i+2) s2 (c:=dp (u%100000000/10000%100)) (d:=dp (u%100000000/10000%100/10)) (zw (by omega)) (zw (by omega));have s4:=rb.two (i:=i) s3 (c:=dp (u%100000000/10000/100)) (d:=dp (u%100000000/10000/100/10)) (zw (by omega)) (zw (by omega));rw[show u/100/100/100/100=u/100000000 by omega]at s4;exact s4
def tm8:(a:Int).tmod 100000000=((a%100000000:Nat):Int):=Int.ofNat_tmod a 100000000 |>.symm
def tm4:(a:Int).tmod 10000=((a%10000:Nat):Int):=Int.ofNat_tmod a 10000 |>.symm
def Vq:(a:Int).tmod 100=((a%100:Nat):Int):=Int.ofNat_tmod a 100 |>.symm
def Xbo(h:a<18446744073709551616):bn .u64 ((a:Int)/100000000)=((a/100000000:Nat):Int):=by rw[G8 (by omega) (by omega)];omega
def Xa9(h:a<4294967296):bn .u32 ((a:Int)/10000)=((a/10000:Nat):Int):=by rw[MO (by omega) (by omega)];omega
def Vr(h:a<4294967296):bn .u32 ((a:Int)/100)=((a/100:Nat):Int):=by rw[MO (by omega) (by omega)];omega
def tw(h:a<4294967296):bn .u32 (a:Int)=(a:Int):=MO (by omega) (by omega)
def Kn(h:a<100):bn .u32 ((a:Int)*2)=((2*a:Nat):Int):=by rw[MO (by omega) (by omega)];omega
def Ko(h:a<100):bn .u32 (((2*a:Nat):Int)+1)=((2*a+1:Nat):Int):=by rw[MO (by omega) (by omega)];omega
def Yun{L:Nat}{f0 f:Nat->V}{e:TypeId}(hT:o+L<=Z)(hL:L<100)(fV:n2<=ir)(hN:ir<N){rr:T V}(hf:Fx [(1,1),(4,11),(19,95)] rr 167 ⟨r,167,[]⟩)(r0:r.get 0=some (.slice ir o L cp 1))(a1:r.get 1=some (.int .u64 u))(ub:u<18446744073709551616)(s:Km h N ir n2 Z o L x f0 e (k+8) u f r ⟨H,N,W⟩):
  Code A.C none A.oZ ⟨r,167,[]⟩ ⟨H,N,W⟩ (fun ex fr st=>ex=.normal/\∃r' f',fr=⟨r',167,[]⟩/\Fx [(1,1),(4,11),(19,95)] rr 167 ⟨r',167,[]⟩/\r'.get 1=some (.int .u64 (u/100000000:Nat))/\Km h N ir n2 Z o L x f0 e k (u/100000000) f' r' st):=by
 rw[bu];obtain⟨a4,_,aw,mi,ao,af⟩:=s;simp only at aw mi ao;have hle:=af.le;have v8:=af.eight;obtain⟨us,vg⟩:∃y,u%100000000=y:=⟨_,rfl⟩;obtain⟨uq,Hi⟩:∃y,u/100000000=y:=⟨_,rfl⟩;have t1:=tm8 (a:=u);have t2:=Xbo (a:=u) ub;rw[vg]at t1 v8;rw[Hi]at t2 v8;have us0:us<100000000:=by omega
 have t3:=tw (a:=us) (by omega);obtain⟨hi,iW⟩:∃y,us/10000=y:=⟨_,rfl⟩;obtain⟨lo,gT⟩:∃y,us%10000=y:=⟨_,rfl⟩;have t4:=Xa9 (a:=us) (by omega);have t5:=tm4 (a:=us);rw[iW]at t4 v8;rw[gT]at t5 v8;have t6:=Vr (a:=hi) (by omega);have t7:=Vq (a:=hi);have t8:=Vr (a:=lo) (by omega);have t9:=Vq (a:=lo);obtain⟨p1,Co⟩:∃y,hi/100=y:=⟨_,rfl⟩;obtain⟨p2,AR⟩:∃y,hi%100=y:=⟨_,rfl⟩;obtain⟨p3,hp3⟩:∃y,lo/100=y:=⟨_,rfl⟩;obtain⟨p4,hp4⟩:∃y,lo%100=y:=⟨_,rfl⟩;rw[Co]at t6 v8;rw[AR]at t7 v8;rw[hp3]at t8 v8;rw[hp4]at t9 v8;have b1:p1<100:=by omega
 have m1:=Kn b1;have Cq:=Ko b1;have d1:=Kk _ b1;have g1:=Kl _ b1;obtain⟨y1,uS⟩:∃y,2*p1+1=y:=⟨_,rfl⟩;rw[uS]at Cq d1;obtain⟨z1,zT⟩:∃y,2*p1=y:=⟨_,rfl⟩;rw[zT]at m1 Cq g1;have b2:p2<100:=by omega
 have m2:=Kn b2;have Kp:=Ko b2;have d2:=Kk _ b2;have g2:=Kl _ b2;obtain⟨y2,zj⟩:∃y,2*p2+1=y:=⟨_,rfl⟩;rw[zj]at Kp d2;obtain⟨z2,eQ⟩:∃y,2*p2=y:=⟨_,rfl⟩;rw[eQ]at m2 Kp g2;have b3:p3<100:=by omega
 have m3:=Kn b3;have nn3:=Ko b3;have d3:=Kk _ b3;have g3:=Kl _ b3;obtain⟨y3,hy3⟩:∃y,2*p3+1=y:=⟨_,rfl⟩;rw[hy3]at nn3 d3;obtain⟨z3,Bh⟩:∃y,2*p3=y:=⟨_,rfl⟩;rw[Bh]at m3 nn3 g3;have b4:p4<100:=by omega
 have m4:=Kn b4;have nn4:=Ko b4;have d4:=Kk _ b4;have g4:=Kl _ b4;obtain⟨y4,hy4⟩:∃y,2*p4+1=y:=⟨_,rfl⟩;rw[hy4]at nn4 d4;obtain⟨z4,AW⟩:∃y,2*p4=y:=⟨_,rfl⟩;rw[AW]at m4 nn4 g4;have e1:(k:Int)+8-1=(k:Int)+7:=by omega
 have e2:(k:Int)+8-2=(k:Int)+6:=by omega
 have e3:(k:Int)+8-3=(k:Int)+5:=by omega
 have e4:(k:Int)+8-4=(k:Int)+4:=by omega
 have e5:(k:Int)+8-5=(k:Int)+3:=by omega
 have e6:(k:Int)+8-6=(k:Int)+2:=by omega
 have e7:(k:Int)+8-7=(k:Int)+1:=by omega
 have e8:(k:Int)+8-8=(k:Int):=by omega
 have f1:((k:Int)+7).toNat=k+7:=by omega
 have f2:((k:Int)+6).toNat=k+6:=by omega
 have f3:((k:Int)+5).toNat=k+5:=by omega
 have f4:((k:Int)+4).toNat=k+4:=by omega
 have f5:((k:Int)+3).toNat=k+3:=by omega
 have f6:((k:Int)+2).toNat=k+2:=by omega
 have f7:((k:Int)+1).toNat=k+1:=by omega
 have c8:(8:Int)<=(k:Int)+8:=by omega
 have yc:¬N<=ir:=by omega
 have ir0:∀t,(T.set H ir t).get ir=some t:=fun t=>by rw[T.ag,av rfl]
 simp(disch:=first|(simp;done)|omega|(simp only[bz,cm,bl];omega)|rfl) [A.oZ,hf,r0,a1,a4,c8,mi,hN,yc,dv.dw,QQ,t1,t2,t3,t4,t5,t6,t7,t8,t9,m1,m2,m3,m4,Cq,Kp,nn3,nn4,d1,d2,d3,d4,g1,g2,g3,g4,e1,e2,e3,e4,e5,e6,e7,e8,f1,f2,f3,f4,f5,f6,f7];subst Hi;refine⟨by omega,_,⟨by simp,rfl,by simpa[ay,wz.2 fV]using aw,by simp only[T.ag,av];rfl,fun t ht=>by simp only[T.ag,ak ht];exact ao t ht,v8⟩⟩
structure FbE (h:T O) (N ir n2 Z o L x:Nat) (f0:Nat->V) (e:TypeId) (st:St):Prop where
 n:st.n=N
 w:ay n2 st.w=[]
 QR:∀t,t≠ir->st.h.get t=h.get t
 ex:∃f,st.h.get ir=some (.cells (yg Z f) e true)/\(∀j,j<L->f (o+j)=vB (dp (x/10^(L-1-j))))/\∀j,j<o\/o+L<=j->f j=f0 j
def Ywi(h:u<10):V.int .u8 (48+(u:Int))=vB (dp u):=by unfold vB cX;rw[JL];congr 1;omega
def Yx9{L:Nat}{f0 f:Nat->V}{e:TypeId}(hZ:o+L<=Z)(fV:n2<=ir)(hN:ir<N)(hi:i<2)(hu:u<10^i)(r0:r.get 0=some (.slice ir o L cp 1))(DN:r.get 12=some (.int .u32 u))(s:Km h N ir n2 Z o L x f0 e i u f r ⟨H,N,W⟩):
  Code A.C none A.o_ ⟨r,167,[]⟩ ⟨H,N,W⟩ (fun ex fr st=>ex=.normal/\∃r',fr=⟨r',167,[]⟩/\FbE h N ir n2 Z o L x f0 e st):=by
 rw[bu];obtain⟨a4,_,aw,mi,ao,af⟩:=s;simp only at aw mi ao;have hle:=af.le;obtain rfl|rfl:i=0\/i=1:=by omega
 ·simp[A.o_,a4];exact⟨rfl,aw,ao,f,mi,fun j hj=>af.dig j (wx _) hj,af.out⟩
 have ot:u<10:=by omega
 have e1:bn .u32 (48+(u:Int))=48+(u:Int):=MO (by omega) (by omega);have e2:bn .u8 (48+(u:Int))=48+(u:Int):=Dz (by omega) (by omega);have hL:(0:Int)<(L:Int):=by omega
 simp(disch:=omega) [A.o_,r0,a4,DN,e1,e2,mi,QQ];have v:=rb.one (i:=0) af (c:=dp u) rfl;rw[<-Ywi ot,gE]at v;exact⟨rfl,by simpa[ay,wz.2 fV]using aw,fun t ht=>by rw[T.ag,ak ht];exact ao t ht,_,by rw[T.ag,av rfl],fun j hj=>v.dig j (wx _) hj,v.out⟩
def Yx8{L:Nat}{f0 f:Nat->V}{e:TypeId}(hZ:o+L<=Z)(fV:n2<=ir)(hN:ir<N)(hi:i<4)(hu:u<10^i)(r0:r.get 0=some (.slice ir o L cp 1))(DN:r.get 12=some (.int .u32 u))(s:Km h N ir n2 Z o L x f0 e i u f r ⟨H,N,W⟩):
  Code A.C none A.pc ⟨r,167,[]⟩ ⟨H,N,W⟩ (fun ex fr st=>ex=.normal/\∃r',fr=⟨r',167,[]⟩/\FbE h N ir n2 Z o L x f0 e st):=by
 rw[bu];have s0:=s;obtain⟨a4,_,aw,mi,ao,af⟩:=s;simp only at aw mi ao;have hle:=af.le;by_cases hc:i<2
 ·have c1:¬(2:Int)<=(i:Int):=by omega
  simp[A.pc,a4,c1];refine mO (Yx9 (i:=i) (u:=u) (f:=f) (cp:=cp) hZ fV hN hc hu (by simp[r0]) (by simp[DN]) ⟨by simp[a4],rfl,aw,mi,ao,af⟩) ?_;rintro ex fr st ⟨rfl,r',rfl,hE⟩;simp;exact hE
 obtain⟨k,rfl⟩:∃k,i=k+2:=⟨i-2,by omega⟩;have QS:u<10000:=by have:10^(k+2)<=10^4:=rO (by decide) (by omega);omega
 have c1:(2:Int)<=(k:Int)+2:=by omega
 have yc:¬N<=ir:=by omega
 have t6:=Vr (a:=u) (by omega);have t7:=Vq (a:=u);have v:=rb.two (i:=k) af (c:=dp (u%100)) (d:=dp (u%100/10)) (zw (by omega)) (zw (by omega));have fX:u/100<10^k:=by rw[su (by decide)];rw[mJ]at hu;exact hu
 obtain⟨uq,Hi⟩:∃y,u/100=y:=⟨_,rfl⟩;obtain⟨p1,Co⟩:∃y,u%100=y:=⟨_,rfl⟩;rw[Hi]at t6 v fX;rw[Co]at t7 v;have b1:p1<100:=by omega
 have m1:=Kn b1;have Cq:=Ko b1;have d1:=Kk _ b1;have g1:=Kl _ b1;obtain⟨y1,uS⟩:∃y,2*p1+1=y:=⟨_,rfl⟩;rw[uS]at Cq d1;obtain⟨z1,zT⟩:∃y,2*p1=y:=⟨_,rfl⟩;rw[zT]at m1 Cq g1;have e1:(k:Int)+2-1=(k:Int)+1:=by omega
 have e2:(k:Int)+2-2=(k:Int):=by omega
 have f1:((k:Int)+1).toNat=k+1:=by omega
 have hI:∀t n,(((H.set ir t).set ir n):T O).get ir=some n:=fun t n=>by rw[T.ag,av rfl]
 simp(disch:=first|(simp;done)|omega|(simp only[bz,cm,bl];omega)|rfl) [A.pc,r0,a4,DN,c1,mi,hN,yc,dv.dw,QQ,t6,t7,m1,Cq,d1,g1,e1,e2,f1];refine mO (Yx9 (i:=k) (u:=uq) (cp:=cp) (e:=e) hZ fV hN (by omega) fX (by simp[r0]) (by simp) ⟨by simp,rfl,by simpa[ay,wz.2 fV]using aw,by simp only[T.ag,av];rfl,fun t ht=>by simp only[T.ag,ak ht];exact ao t ht,v⟩) ?_;rintro ex fr st ⟨rfl,r',rfl,hE⟩;simp;exact hE
def rb.four{T L:Nat}{f0 f:Nat->V}(s:rb T o L x (i+4) u f0 f):rb T o L x i (u/10000) f0
  (nI (nI (nI (nI f (o+(i+3)) (vB (dp (u%10000%100)))) (o+(i+2)) (vB (dp (u%10000%100/10)))) (o+(i+1)) (vB (dp (u%10000/100)))) (o+i) (vB (dp (u%10000/100/10)))):=by have s1:=rb.two (i:=i+2) s (c:=dp (u%10000%100)) (d:=dp (u%10000%100/10)) (zw (by omega)) (zw (by omega));have s2:=rb.two (i:=i) s1 (c:=dp (u%10000/100)) (d:=dp (u%10000/100/10)) (zw (by omega)) (zw (by omega));rw[show u/100/100=u/10000 by omega]at s2;exact s2
def Xat{L:Nat}{f0 f:Nat->V}{e:TypeId}(hZ:o+L<=Z)(fV:n2<=ir)(hN:ir<N)(hi:i<8)(hu:u<10^i)(r0:r.get 0=some (.slice ir o L cp 1))(DN:r.get 12=some (.int .u32 u))(s:Km h N ir n2 Z o L x f0 e i u f r ⟨H,N,W⟩):
  Code A.C none A.pe ⟨r,167,[]⟩ ⟨H,N,W⟩ (fun ex fr st=>ex=.normal/\∃r',fr=⟨r',167,[]⟩/\FbE h N ir n2 Z o L x f0 e st):=by
 rw[bu];obtain⟨a4,_,aw,mi,ao,af⟩:=s;simp only at aw mi ao;have hle:=af.le;by_cases hc:i<4
 ·have c1:¬(4:Int)<=(i:Int):=by omega
  simp[A.pe,a4,c1];refine mO (Yx8 (i:=i) (u:=u) (f:=f) (cp:=cp) hZ fV hN hc hu (by simp[r0]) (by simp[DN]) ⟨by simp[a4],rfl,aw,mi,ao,af⟩) ?_;rintro ex fr st ⟨rfl,r',rfl,hE⟩;simp;exact hE
 obtain⟨k,rfl⟩:∃k,i=k+4:=⟨i-4,by omega⟩;have QS:u<100000000:=by have:10^(k+4)<=10^8:=rO (by decide) (by omega);omega
 have c1:(4:Int)<=(k:Int)+4:=by omega
 have yc:¬N<=ir:=by omega
 have t4:=Xa9 (a:=u) (by omega);have t5:=tm4 (a:=u);have v:=af.four;have fX:u/10000<10^k:=by rw[su (by decide)];rw[mJ]at hu;exact hu
 obtain⟨uq,Hi⟩:∃y,u/10000=y:=⟨_,rfl⟩;obtain⟨lo,gT⟩:∃y,u%10000=y:=⟨_,rfl⟩;rw[Hi]at t4 v fX;rw[gT]at t5 v;have t6:=Vr (a:=lo) (by omega);have t7:=Vq (a:=lo);obtain⟨p1,Co⟩:∃y,lo/100=y:=⟨_,rfl⟩;obtain⟨p2,AR⟩:∃y,lo%100=y:=⟨_,rfl⟩;rw[Co]at t6 v;rw[AR]at t7 v;have b1:p1<100:=by omega
 have m1:=Kn b1;have Cq:=Ko b1;have d1:=Kk _ b1;have g1:=Kl _ b1;obtain⟨y1,uS⟩:∃y,2*p1+1=y:=⟨_,rfl⟩;rw[uS]at Cq d1;obtain⟨z1,zT⟩:∃y,2*p1=y:=⟨_,rfl⟩;rw[zT]at m1 Cq g1;have b2:p2<100:=by omega
 have m2:=Kn b2;have Kp:=Ko b2;have d2:=Kk _ b2;have g2:=Kl _ b2;obtain⟨y2,zj⟩:∃y,2*p2+1=y:=⟨_,rfl⟩;rw[zj]at Kp d2;obtain⟨z2,eQ⟩:∃y,2*p2=y:=⟨_,rfl⟩;rw[eQ]at m2 Kp g2;have e1:(k:Int)+4-1=(k:Int)+3:=by omega
 have e2:(k:Int)+4-2=(k:Int)+2:=by omega
 have e3:(k:Int)+4-3=(k:Int)+1:=by omega
 have e4:(k:Int)+4-4=(k:Int):=by omega
 have f1:((k:Int)+3).toNat=k+3:=by omega
 have f2:((k:Int)+2).toNat=k+2:=by omega
 have f3:((k:Int)+1).toNat=k+1:=by omega
 simp(disch:=first|(simp;done)|omega|(simp only[bz,cm,bl];omega)|rfl) [A.pe,r0,a4,DN,c1,mi,hN,yc,QQ,t4,t5,t6,t7,m1,Cq,d1,g1,m2,Kp,d2,g2,e1,e2,e3,e4,f1,f2,f3];refine mO (Yx8 (i:=k) (u:=uq) (cp:=cp) (e:=e) hZ fV hN (by omega) fX (by simp[r0]) (by simp) ⟨by simp,rfl,by simpa[ay,wz.2 fV]using aw,by simp only[T.ag,av];rfl,fun t ht=>by simp only[T.ag,ak ht];exact ao t ht,v⟩) ?_;rintro ex fr st ⟨rfl,r',rfl,hE⟩;simp;exact hE
def Code.mono{C:Cx}{ro:Option Nat}{c:cF}{fr:Fr}{st:St}{P Q:Ex->Fr->St->Prop}(h:Code C ro c fr st P)(k:∀e fr st,P e fr st->Q e fr st):Code C ro c fr st Q:=by rw[bu];refine mO h ?_;intro e fr st hp;simp;exact k _ _ _ hp
structure FbR (h:T O) (N ir n2 Z o L x:Nat) (f0:Nat->V) (e:TypeId) (w:List Nat) (st:St):Prop where
 n:st.n=N
 w:ay n2 st.w=ay n2 w
 QR:∀t,t≠ir->st.h.get t=h.get t
 ex:∃f,st.h.get ir=some (.cells (yg Z f) e true)/\(∀j,j<L->f (o+j)=vB (dp (x/10^(L-1-j))))/\∀j,j<o\/o+L<=j->f j=f0 j
def Zyy{L:Nat}{f0:Nat->V}{e:TypeId}{w:List Nat}(hZ:o+L<=Z)(hL:L<100)(fV:n2<=ir)(hN:ir<N)(hx:x<10^L)(ZV:x<18446744073709551616)(hr:h.get ir=some (.cells (yg Z f0) e true)):
  Call A.C (.func 264 [] []) [.slice ir o L cp 1,.int .u64 x] ⟨h,N,w⟩ (fun _ st=>FbR h N ir n2 Z o L x f0 e w st):=by
 rw[aQ,A.k264 (by simp)];simp[A.b264];refine b_ [(1,1),(4,11),(19,95)] (fun ex r st=>ex=.exit 0/\∃(i u:Nat) (f:Nat->V),i<8/\u<10^i/\r.get 1=some (.int .u64 u)/\Km h N ir n2 Z o L x f0 e i u f r st) (fun i r st=>∃(u:Nat) (f:Nat->V),u<10^i/\u<18446744073709551616/\r.get 1=some (.int .u64 u)/\Km h N ir n2 Z o L x f0 e i u f r st) L ?_ ?_ ?_
 ·refine⟨x,f0,hx,ZV,by simp,by simp,rfl,by simp[ay],hr,fun t _=>rfl,⟨aM _,by simp,fun j h1 h2=>by omega,fun j _=>rfl⟩⟩
 ·rintro i r ⟨H,n1,W⟩ hr hf ⟨u,f,hu,Kq,a1,J⟩;have hn:=J.n;simp only at hn;subst hn;have r0:r.get 0=some (.slice ir o L cp 1):=by rw[hr 0 (by decide)];simp
  by_cases h8:i<8
  ·have c8:¬(8:Int)<=(i:Int):=by omega
   have a4:=J.r4;rw[bu];simp[A.oZ,hf,a4,c8];exact⟨i,h8,u,hu,by simp[a1],f,⟨by simp[a4],J.n,J.w,J.row,J.QR,J.fmt⟩⟩
  obtain⟨k,rfl⟩:∃k,i=k+8:=⟨i-8,by omega⟩;refine Code.mono (Yun hZ hL fV hN hf r0 a1 Kq J) ?_;rintro ex fr st ⟨rfl,r',f',rfl,IK,Vs,J'⟩;refine Zwu.2 ⟨IK,k,by omega,_,f',?_,by omega,Vs,J'⟩;rw[su (by decide)];rw[mJ]at hu;exact hu
 rintro ex r ⟨H,n1,W⟩ hr ⟨rfl,i,u,f,h8,hu,a1,J⟩;have hn:=J.n;simp only at hn;subst hn;have hu7:u<4294967296:=by have:10^i<=10^7:=rO (by decide) (by omega);omega
 have e1:=tw hu7;simp[a1,e1];refine mO (Xat (i:=i) (u:=u) (f:=f) (cp:=cp) (e:=e) (H:=H) (W:=W) hZ fV hN h8 hu (by simp;rw[hr 0 (by decide)];simp) (by simp) ⟨by simpa using J.r4,rfl,J.w,J.row,J.QR,J.fmt⟩) ?_;rintro ex fr ⟨H2,nW,W2⟩ ⟨rfl,r',rfl,hn,hW,hO,hE⟩;simp only at hn;subst hn;simp[];exact⟨rfl,by rw[P7 (P8 hW)],hO,hE⟩
variable {j o x:Nat}
def A.b244:=A.q Tryz.f244
def A.k244:=@A.kk 244 32 [.tmp 4] A.b244 (by kernel_rfl) rfl
def A.b261:=A.q Tryz.f261
def A.k261:=@A.kk 261 54 [.tmp 4] A.b261 (by kernel_rfl) rfl
def A.b239:=A.q Tryz.f239
def A.k239:=@A.kk 239 5 [.tmp 2] A.b239 (by kernel_rfl) rfl
def A.b210:=A.q Tryz.f210
def A.k210:=@A.kk 210 5 [.tmp 2] A.b210 (by kernel_rfl) rfl
def A.b212:=A.q Tryz.f212
def A.k212:=@A.kk 212 8 [.tmp 4] A.b212 (by kernel_rfl) rfl
def Yog:∀{x:Nat},(j:Nat)->j<(du x).length->(du x)[j]?=some (dp (x/10^((du x).length-1-j))):=by
 intro x;induction x using Nat.strongRecOn with
 |_ x ih=>
  intro j hj;by_cases h0:x=0
  ·subst h0;rw[vV]at hj;simp at hj
  have e:=zn h0;have hl:(du x).length=(du (x/10)).length+1:=by rw[e];simp
  rw[hl];rw[e];by_cases pT:j<(du (x/10)).length
  ·rw[mH pT,ih _ (Ez (by omega) (by decide)) j pT,IY];congr 3;rw[show (du (x/10)).length+1-1-j=((du (x/10)).length-1-j)+1 by omega,im,kg]
  have:j=(du (x/10)).length:=by omega
  subst this;simp
def Zqo{L:Nat}{f:Nat->V}(hL:L=(du x).length)(hf:∀j,j<L->f (o+j)=vB (dp (x/10^(L-1-j)))):(List.range L).map (fun j=>f (o+j))=(du x).map vB:=by
 apply nN;intro j;rw[eH,eH];by_cases hj:j<L
 ·rw[wY hj,Yog j (by omega),<-hL];simp[hf j hj]
 rw[fy (by simpa using hj),fy (by omega)];rfl
def Zs1{Z L:Nat}{f:Nat->V}(h:o+L<=Z):aP (yg Z f) o L=some ((List.range L).map fun j=>f (o+j)):=by
 unfold aP;rw[Cn,av h];congr 1;apply nN;intro j;rw[jZ,eH];by_cases hj:j<L
 ·rw[av hj,fJ,Vp (by omega),wY hj];rfl
 rw[ak hj,fy (by simpa using hj)];rfl
def Vt:V->Option UInt8
 |.int .u8 n=>some (UInt8.ofNat n.toNat)
 |_=>none
def QT(st:St):Option (List V)->Option (V×St)
 |some l=>match l.mapM Vt with
  |some s=>some (.str s,st)
  |none=>none
 |none=>none
def Vu(st:St)(o len:Nat):Option (List V×TypeId×Bool)->Option (V×St)
 |some (c,_,_)=>QT st (aP c o len)
 |none=>none
def Yvi(st:St):Option V->Option (V×St)
 |some .aa=>some (.str [],st)
 |some (.slice i o len _ 1)=>Vu st o len (st.row i)
 |_=>none
def Zh1{x:Src}{call:cO}{r:T V}{st:St}:Jg x call r st=Yvi st (x.ev r):=by unfold Jg Yvi Vu QT;rfl
def Zlb{st:St}{i len:Nat}{c:Option Nat}:Yvi st (some (.slice i o len c 1))=Vu st o len (st.row i):=rfl
def Zlc{st:St}{len:Nat}{c:List V}{e:TypeId}{b:Bool}:Vu st o len (some (c,e,b))=QT st (aP c o len):=rfl
def Zqx{st:St}:∀{s:aG},QT st (some (s.map vB))=some (.str s,st):=by
 intro s;have:(s.map vB).mapM Vt=some s:=by
  induction s with
  |nil=>rfl
  |cons c s ih=>
   rw[pX,List.mapM_cons,ih];have:Vt (vB c)=some c:=by simp[Vt,vB,cX]
   simp[this]
 simp only[QT,this]
def Xax:∀j:Nat,j<10->(List.take (j+1) Yjk).drop j=[dp j]:=by decide+kernel
def Yyg:∀j:Nat,j<100->(List.take (2*j+2) tU).drop (2*j)=[dp (j/10),dp j]:=by decide+kernel
def Yee:Yjk.length=36:=by decide+kernel
def Yjl:tU.length=200:=by decide+kernel
def Yjq(h:j<10):aq j=[dp j]:=by
 unfold aq;split
 ·subst j;rfl
 rw[zn (by assumption),show j/10=0 by omega,vV];rfl
def Yef(h:j<100)(h2:10<=j):aq j=[dp (j/10),dp j]:=by unfold aq;rw[ak (by omega),zn (by omega),zn (by omega),show j/10/10=0 by omega,vV];rfl
def Zzy(hj:j<100){h:T O}{N:Nat}:Fn A.C 262 [.int .i64 j] h N (fun v h' N'=>h'=h/\N'=N/\v=.str (aq j)):=by
 intro w;rw[aQ,A.k262 (by simp)];by_cases c:j<10
 ·have e1:=Xax j c;have e2:(j:Int)+1<=36:=by omega
  have e3:((j:Int)+1).toNat=j+1:=by omega
  have e4:(j:Int)<10:=by omega
  have e5:(0:Int)<=(j:Int)+1:=by omega
  have e8:(j:Int)<=(j:Int)+1:=by omega
  simp(disch:=omega) [A.b262,e4,AK,aC,dW,m_,Yee,e1,e2,e3,e5,e8,az,Yjq c];exact ab.refl
 have e1:=Yyg j hj;have e4:¬(j:Int)<10:=by omega
 have e2:(j:Int)*2+2<=200:=by omega
 have e3:((j:Int)*2+2).toNat=2*j+2:=by omega
 have e5:(0:Int)<=(j:Int)*2+2:=by omega
 have e6:(0:Int)<=(j:Int)*2:=by omega
 have e8:(j:Int)*2<=2*(j:Int)+2:=by omega
 have e7:((j:Int)*2).toNat=2*j:=by omega
 simp(disch:=omega) [A.b262,e4,AK,aC,dW,m_,Yjl,e1,e2,e3,e5,e6,e7,e8,az,Yef hj (wz.1 c)];exact ab.refl
def Yvh:[V.int .u8 0,V.int .u8 0,V.int .u8 0,V.int .u8 0,V.int .u8 0,V.int .u8 0,V.int .u8 0,V.int .u8 0,V.int .u8 0,V.int .u8 0,V.int .u8 0,V.int .u8 0,V.int .u8 0,V.int .u8 0,V.int .u8 0,V.int .u8 0,V.int .u8 0,V.int .u8 0,V.int .u8 0,V.int .u8 0,V.int .u8 0,V.int .u8 0,V.int .u8 0,V.int .u8 0]=yg 24 (fun _=>.int .u8 0):=rfl
def Zsh(hx:x<18446744073709551616):(du x).length<=20:=rE.1 (by omega)
def Ks(h:x≠0):aq x=du x:=by unfold aq;rw[ak h]
def Xaq(hx:x<18446744073709551616){h:T O}{N:Nat}(hp:iG h N):Fn A.C 244 [.int .u64 x,.int .i64 10] h N (fun v h' N'=>v=.str (aq x)):=by
 intro w;rw[aQ,A.k244 (by simp)];by_cases c:x<100
 ·have c1:(x:Int)<100:=by omega
  have e1:bn .i64 (x:Int)=(x:Int):=cL (by omega) (by omega);simp[A.b244,c1,e1];refine ar (Zzy c) ?_;rintro _ _ _ _ ⟨rfl,rfl,rfl⟩;simp[az];exact ab.refl
 have c1:¬(x:Int)<100:=by omega
 simp[A.b244,c1,Yvh];refine ar (Ys3 hx (by omega) (hp.ad (aR ab.refl _))) ?_;rintro _ _ _ _ ⟨rfl,rfl,rfl⟩;have hl:=Zsh hx;obtain⟨L,hL⟩:∃L,(du x).length=L:=⟨_,rfl⟩;have Vv:x<10^L:=rE.2 (by omega);have e2:(L:Int)<=24:=by omega
 rw[hL];rw[hL]at hl;simp[BG,aC,dW,m_,e2,Cn];refine BL (Zyy (n2:=N) (Z:=24) (o:=0) (x:=x) (f0:=fun _=>.int .u8 0) (e:=252) (by omega) (by omega) (aM N) (xC N) Vv hx (by rw[T.ag,av rfl])) ?_;rintro v ⟨H2,n2,W2⟩ ⟨hn,hW,hO,f,hr,hd,_⟩;simp only at hn hW hO hr;subst hn;have cC:=Zs1 (f:=f) (show 0+L<=24 by omega);rw[Zqo hL.symm hd]at cC;simp[BG,aC,dW,m_,e2,Cn,Zh1,Zlb,Zlc,hr,cC,Zqx,az];have Fy:ay N W2=[]:=hW;rw[Fy,Ks (by omega)];refine⟨rfl,⟨xf _,fun i hi=>?_⟩,rfl⟩;rw[hO i (by omega),T.ag,ak (by omega)]
def Yp9(hx:x<18446744073709551616){h:T O}{N:Nat}(hp:iG h N):Fn A.C 212 [.int .u64 x,.int .i64 10] h N (fun v h' N'=>v=.str (aq x)):=by intro w;rw[aQ,A.k212 (by simp)];simp[A.b212];refine ar (Xaq hx hp) ?_;rintro _ _ _ k1 rfl;simp[az];exact k1
def Xas{z:Int}(h1: -9223372036854775808<=z)(h2:z<9223372036854775808){h:T O}{N:Nat}(hp:iG h N):Fn A.C 261 [.int .i64 z,.int .i64 10] h N (fun v h' N'=>v=.str (aN z)):=by
 intro w;rw[aQ,A.k261 (by simp)];by_cases c:0<=z/\z<100
 ·obtain⟨j,rfl⟩:=Gi c.1;have c1:(j:Int)<100:=c.2;have hj:aN (j:Int)=aq j:=by unfold aN;rw[ak (by omega)];rfl
  simp[A.b261,c1];refine ar (Zzy (by omega)) ?_;rintro _ _ _ _ ⟨rfl,rfl,rfl⟩;simp[az,hj];exact ab.refl
 have hx:z.natAbs<18446744073709551616:=by omega
 have jK:z.natAbs≠0:=by omega
 obtain⟨x,hxe⟩:∃x,z.natAbs=x:=⟨_,rfl⟩;have hl:=Zsh (hxe▸hx);obtain⟨L,hL⟩:∃L,(du x).length=L:=⟨_,rfl⟩;have Vv:x<10^L:=rE.2 (by omega);have hL0:0<L:=by rw[<-hL];exact Zwe (by omega)
 rw[hL]at hl;have e2:(L:Int)+1<=24:=by omega
 have e3:(0:Int)<=(L:Int)+1:=by omega
 have e4:((L:Int)+1).toNat=L+1:=by omega
 have e5:(1:Int)<=(L:Int)+1:=by omega
 have e6:(1:Int)+(L:Int)=(L:Int)+1:=by omega
 by_cases hz:z<0
 ·have c2:¬0<=z:=by omega
  have w1:IntKind.wrap .u64 (-(bn .u64 z))=(x:Int):=by rw[MD,ME];omega
  simp[A.b261,c2,hz,Yvh,w1];refine ar (Ys3 (x:=x) (by omega) (by omega) (hp.ad (aR ab.refl _))) ?_;rintro _ _ _ _ ⟨rfl,rfl,rfl⟩;rw[hL];simp(disch:=omega) [BG,aC,dW,m_,e2,e3,e4,e5,e6,Cn];refine BL (Zyy (n2:=N) (Z:=24) (o:=1) (x:=x) (f0:=fun _=>.int .u8 0) (e:=252) (by omega) (by omega) (aM N) (xC N) Vv (by omega) (by rw[T.ag,av rfl])) ?_;rintro v ⟨H2,n2,W2⟩ ⟨hn,hW,hO,f,hr,hd,_⟩;simp only at hn hW hO hr;subst hn;have Fy:ay N W2=[]:=hW;have cC:=Zs1 (f:=nI f 0 (.int .u8 45)) (show 0+(L+1)<=24 by omega);have ew:(List.range (L+1)).map (fun j=>nI f 0 (.int .u8 45) (0+j))=(45::du x).map vB:=by rw[List.range_succ_eq_map,pX,List.map_map,pX,<-Zqo hL.symm hd];congr 1;apply Aq;intro j _;show nI f 0 _ (0+(j+1))=_;rw[nI,ak (by omega)];congr 1;omega
  rw[ew]at cC;have Bj:aN z=45::du x:=by unfold aN;rw[av hz,hxe,Ks (by omega)]
  obtain⟨S,hS⟩:∃S,45::du x=S:=⟨_,rfl⟩;rw[hS]at cC Bj;simp(disch:=omega) [BG,EF,aC,dW,m_,e2,e3,e4,e6,Cn,Zh1,Zlb,Zlc,hr,hz,QQ,cC,Zqx,az,Bj,Fy];refine⟨xf _,fun i hi=>?_⟩;rw[T.ag,ak (by omega),hO i (by omega),T.ag,ak (by omega)]
 have c2:0<=z:=by omega
 have c3:¬z<100:=by omega
 have w1:bn .u64 z=(x:Int):=by rw[G8 (by omega) (by omega)];omega
 simp[A.b261,c2,c3,hz,Yvh,w1];refine ar (Ys3 (x:=x) (by omega) (by omega) (hp.ad (aR ab.refl _))) ?_;rintro _ _ _ _ ⟨rfl,rfl,rfl⟩;rw[hL];simp(disch:=omega) [BG,aC,dW,m_,e2,e3,e4,e5,e6,Cn];refine BL (Zyy (n2:=N) (Z:=24) (o:=1) (x:=x) (f0:=fun _=>.int .u8 0) (e:=252) (by omega) (by omega) (aM N) (xC N) Vv (by omega) (by rw[T.ag,av rfl])) ?_;rintro v ⟨H2,n2,W2⟩ ⟨hn,hW,hO,f,hr,hd,_⟩;simp only at hn hW hO hr;subst hn;have Fy:ay N W2=[]:=hW;have cC:=Zs1 (f:=f) (show 1+L<=24 by omega);rw[Zqo hL.symm hd]at cC;have Bj:aN z=du x:=by unfold aN;rw[ak hz,hxe,Ks (by omega)]
 simp(disch:=omega) [BG,aC,dW,m_,e2,e3,e4,e5,e6,Cn,Zh1,Zlb,Zlc,hr,hz,cC,Zqx,az,Bj,Fy];refine⟨xf _,fun i hi=>?_⟩;rw[hO i (by omega),T.ag,ak (by omega)]
def Yt9{z:Int}(h1: -9223372036854775808<=z)(h2:z<9223372036854775808){h:T O}{N:Nat}(hp:iG h N):Fn A.C 210 [.int .i64 z] h N (fun v h' N'=>v=.str (aN z)):=by
 intro w;rw[aQ,A.k210 (by simp)];simp[A.b210];refine ar (?_:Fn A.C 239 [.int .i64 z] h N (fun v h' N'=>v=.str (aN z))) ?_
 ·intro w;rw[aQ,A.k239 (by simp)];simp[A.b239];refine ar (Xas h1 h2 hp) ?_;rintro _ _ _ k1 rfl;simp[az];exact k1
 rintro _ _ _ k1 rfl;simp[az];exact k1
end
end Go.Mx
