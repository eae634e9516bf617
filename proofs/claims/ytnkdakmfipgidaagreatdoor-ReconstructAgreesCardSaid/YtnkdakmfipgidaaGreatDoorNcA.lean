/-strconv-/
import Derived.Test.YtnkdakmfipgidaaGreatDoorPaA
set_option linter.all false
set_option maxHeartbeats 4000000
namespace Go.Mx
noncomputable section
open Go Go.Proofs
variable {H h:T O} {N Z a i ir k n2 o u x:Nat} {W:List Nat} {cp:Option Nat} {r:T V}
set_option maxRecDepth 1000000
def tf:List UInt8:=[48,48,48,49,48,50,48,51,48,52,48,53,48,54,48,55,48,56,48,57,49,48,49,49,49,50,49,51,49,52,49,53,49,54,49,55,49,56,49,57,50,48,50,49,50,50,50,51,50,52,50,53,50,54,50,55,50,56,50,57,51,48,51,49,51,50,51,51,51,52,51,53,51,54,51,55,51,56,51,57,52,48,52,49,52,50,52,51,52,52,52,53,52,54,52,55,52,56,52,57,53,48,53,49,53,50,53,51,53,52,53,53,53,54,53,55,53,56,53,57,54,48,54,49,54,50,54,51,54,52,54,53,54,54,54,55,54,56,54,57,55,48,55,49,55,50,55,51,55,52,55,53,55,54,55,55,55,56,55,57,56,48,56,49,56,50,56,51,56,52,56,53,56,54,56,55,56,56,56,57,57,48,57,49,57,50,57,51,57,52,57,53,57,54,57,55,57,56,57,57]
def Yh2:List UInt8:=[48,49,50,51,52,53,54,55,56,57,97,98,99,100,101,102,103,104,105,106,107,108,109,110,111,112,113,114,115,116,117,118,119,120,121,122]
def A.b263:=A.q Tryz.f263
def A.k263:=@A.kk 263 15 [.tmp 2] A.b263 (by kernel_rfl) rfl
def A.b278:=A.q Tryz.f278
def A.k278:=@A.kk 278 6 [.tmp 2] A.b278 (by kernel_rfl) rfl
def A.b279:=A.q Tryz.f279
def A.k279:=@A.kk 279 4 [.tmp 2] A.b279 (by kernel_rfl) rfl
def A.oL:bW:=.seq (sr [mv 19 4,bc 20 .geq 19 8] (cd 20 (.skip) (.exit 0))) (.block 1 (sr [mv 21 1,ge 22 (.bin .rem (.node []) false (tq 21) (.const (.int .u64 100000000))),ge 23 (.dB .u32 (tq 22)),mv 5 23] (sr [mv 24 1,ge 25 (.bin .quo (.node []) false (tq 24) (.const (.int .u64 100000000))),mv 1 25] (sr [mv 26 5,ge 27 (.bin .quo (.node []) false (tq 26) (.const (.int .u32 10000))),mv 28 5,ge 29 (.bin .rem (.node []) false (tq 28) (.const (.int .u32 10000))),mv 6 27,mv 7 29] (sr [mv 30 7,ge 31 (.bin .quo (.node []) false (tq 30) (.const (.int .u32 100))),ge 32 (.bin .mul (.node []) false (tq 31) (.const (.int .u32 2))),mv 33 7,ge 34 (.bin .rem (.node []) false (tq 33) (.const (.int .u32 100))),ge 35 (.bin .mul (.node []) false (tq 34) (.const (.int .u32 2))),mv 8 32,mv 9 35] (sr [mv 36 6,ge 37 (.bin .quo (.node []) false (tq 36) (.const (.int .u32 100))),ge 38 (.bin .mul (.node []) false (tq 37) (.const (.int .u32 2))),mv 39 6,ge 40 (.bin .rem (.node []) false (tq 39) (.const (.int .u32 100))),ge 41 (.bin .mul (.node []) false (tq 40) (.const (.int .u32 2))),mv 10 38,mv 11 41] (.seq (.fN [mv 42 0,mv 43 4,bc 44 .sub 43 1,mv 45 0,mv 46 4,bc 47 .sub 46 2,mv 48 9,ge 49 (.bin .add (.node []) false (tq 48) (.const (.int .u32 1))),ge 50 (.bL (.const (.str tf)) (tq 49)),mv 51 9,ge 52 (.bL (.const (.str tf)) (tq 51)),ia 53 1 42 44,so 53 50,ia 54 1 45 47,so 54 52] [0,0,2,0,0,16,0,64,192,0,512,455,2503,8191,16383]) (.seq (.fN [mv 55 0,mv 56 4,bc 57 .sub 56 3,mv 58 0,mv 59 4,bc 60 .sub 59 4,mv 61 8,ge 62 (.bin .add (.node []) false (tq 61) (.const (.int .u32 1))),ge 63 (.bL (.const (.str tf)) (tq 62)),mv 64 8,ge 65 (.bL (.const (.str tf)) (tq 64)),ia 66 1 55 57,so 66 63,ia 67 1 58 60,so 67 65] [0,0,2,0,0,16,0,64,192,0,512,455,2503,8191,16383]) (.seq (.fN [mv 68 0,mv 69 4,bc 70 .sub 69 5,mv 71 0,mv 72 4,bc 73 .sub 72 6,mv 74 11,ge 75 (.bin .add (.node []) false (tq 74) (.const (.int .u32 1))),ge 76 (.bL (.const (.str tf)) (tq 75)),mv 77 11,ge 78 (.bL (.const (.str tf)) (tq 77)),ia 79 1 68 70,so 79 76,ia 80 1 71 73,so 80 78] [0,0,2,0,0,16,0,64,192,0,512,455,2503,8191,16383]) (.seq (.fN [mv 81 0,mv 82 4,bc 83 .sub 82 7,mv 84 0,mv 85 4,bc 86 .sub 85 8,mv 87 10,ge 88 (.bin .add (.node []) false (tq 87) (.const (.int .u32 1))),ge 89 (.bL (.const (.str tf)) (tq 88)),mv 90 10,ge 91 (.bL (.const (.str tf)) (tq 90)),ia 92 1 81 83,so 92 89,ia 93 1 84 86,so 93 91] [0,0,2,0,0,16,0,64,192,0,512,455,2503,8191,16383]) (.fY [mv 94 4,bc 95 .sub 94 8,mv 4 95])))))))))))
def A.oM:bW:=sr [mv 160 4,bc 161 .gtr 160 0] (cd 161 (.fY [mv 162 0,mv 163 12,ge 164 (.bin .add (.node []) false (.const (.int .u32 48)) (tq 163)),ge 165 (.dB .u8 (tq 164)),ge 166 (.bG 1 (tq 162) (kq 0)),so 166 165]) (.skip))
def A.oO:bW:=.seq (sr [mv 138 4,bc 139 .geq 138 2] (cd 139 (sr [mv 140 12,ge 141 (.bin .rem (.node []) false (tq 140) (.const (.int .u32 100))),ge 142 (.bin .mul (.node []) false (tq 141) (.const (.int .u32 2))),mv 16 142] (sr [mv 143 12,ge 144 (.bin .quo (.node []) false (tq 143) (.const (.int .u32 100))),mv 12 144] (.seq (.fN [mv 145 0,mv 146 4,bc 147 .sub 146 1,mv 148 0,mv 149 4,bc 150 .sub 149 2,mv 151 16,ge 152 (.bin .add (.node []) false (tq 151) (.const (.int .u32 1))),ge 153 (.bL (.const (.str tf)) (tq 152)),mv 154 16,ge 155 (.bL (.const (.str tf)) (tq 154)),ia 156 1 145 147,so 156 153,ia 157 1 148 150,so 157 155] [0,0,2,0,0,16,0,64,192,0,512,455,2503,8191,16383]) (.fY [mv 158 4,bc 159 .sub 158 2,mv 4 159])))) (.skip)))
 A.oM
def A.oP:bW:=.seq (sr [mv 98 4,bc 99 .geq 98 4] (cd 99 (sr [mv 100 12,ge 101 (.bin .rem (.node []) false (tq 100) (.const (.int .u32 10000))),mv 13 101] (sr [mv 102 12,ge 103 (.bin .quo (.node []) false (tq 102) (.const (.int .u32 10000))),mv 12 103] (sr [mv 104 13,ge 105 (.bin .quo (.node []) false (tq 104) (.const (.int .u32 100))),ge 106 (.bin .mul (.node []) false (tq 105) (.const (.int .u32 2))),mv 107 13,ge 108 (.bin .rem (.node []) false (tq 107) (.const (.int .u32 100))),ge 109 (.bin .mul (.node []) false (tq 108) (.const (.int .u32 2))),mv 14 106,mv 15 109] (.seq (.fN [mv 110 0,mv 111 4,bc 112 .sub 111 1,mv 113 0,mv 114 4,bc 115 .sub 114 2,mv 116 15,ge 117 (.bin .add (.node []) false (tq 116) (.const (.int .u32 1))),ge 118 (.bL (.const (.str tf)) (tq 117)),mv 119 15,ge 120 (.bL (.const (.str tf)) (tq 119)),ia 121 1 110 112,so 121 118,ia 122 1 113 115,so 122 120] [0,0,2,0,0,16,0,64,192,0,512,455,2503,8191,16383]) (.seq (.fN [mv 123 0,mv 124 4,bc 125 .sub 124 3,mv 126 0,mv 127 4,bc 128 .sub 127 4,mv 129 14,ge 130 (.bin .add (.node []) false (tq 129) (.const (.int .u32 1))),ge 131 (.bL (.const (.str tf)) (tq 130)),mv 132 14,ge 133 (.bL (.const (.str tf)) (tq 132)),ia 134 1 123 125,so 134 131,ia 135 1 126 128,so 135 133] [0,0,2,0,0,16,0,64,192,0,512,455,2503,8191,16383]) (.fY [mv 136 4,bc 137 .sub 136 4,mv 4 137])))))) (.skip)))
 A.oO
def A.b264:bW:=sr [mv 17 0,ln 18 17,mv 4 18] (.seq (.block 0 (.loop A.oL)) (sr [mv 96 1,ge 97 (.dB .u32 (tq 96)),mv 12 97]
 A.oP))
def A.k264:=@A.kk 264 167 [] A.b264 (by kernel_rfl) rfl
def A.b262:bW:=sr [ge 2 (.m_ (.const (.str [])))] (.seq (sr [mv 3 0,bc 4 .lss 3 10] (cd 4 (sr [mv 5 0,mv 6 0,bc 7 .add 6 1,ge 8 (.cB (.const (.str Yh2)) (some (tq 5)) (some (tq 7))),mv 2 8] (.ret)) (.skip))) (sr [mv 9 0,bc 10 .mul 9 2,mv 11 0,bc 12 .mul 11 2,bc 13 .add 12 2,ge 14 (.cB (.const (.str tf)) (some (tq 10)) (some (tq 13))),mv 2 14] (.ret)))
def A.k262:=@A.kk 262 15 [.tmp 2] A.b262 (by kernel_rfl) rfl
@[simp] def Yzl {a b:Nat}:a<b\/b<=a:=Nat.lt_or_ge a b
def MN{n:Int}(h1:0<=n)(h2:n<4294967296):bo .u32 n=n:=by rw[Bw];show n%4294967296=n;omega
def Yxy:List Nat:=[1,10,100,1000,10000,100000,1000000,10000000,100000000,1000000000,10000000000,100000000000,1000000000000,10000000000000,100000000000000,1000000000000000,10000000000000000,100000000000000000,1000000000000000000,10000000000000000000]
def ik(h:T O)(N:Nat):Prop:=5<N/\h.get 5=some A.Ov
def ik.ad{h':T O}{N':Nat}(s:ik h N)(k:ab h N h' N'):ik h' N':=by exact⟨fm s.1 k.le,(k.get _ s.1).trans s.2⟩
def ik.ex(s:ik h N):5<N/\∃e rw,h.get 5=some (.cells (dg Yxy) e rw):=⟨s.1,_,_,s.2.trans rfl⟩
def Yko:∀j:Nat,j<20->Yxy[j]?=some (10^j):=by decide+kernel
def Yqt{j:Nat}(h:j<20):(dg Yxy)[j]?=some (.int .u64 ((10^j:Nat):Int)):=f_ (Yko j h)
def Yog:∀b:Nat,b<65->0<b->10^(b*78913/262144)<=10*2^(b-1)/\2^b<=10^(b*78913/262144+1)/\b*78913/262144<20:=by decide+kernel
def Yyt{b:Nat}(hb:b<65)(hk:b*78913/262144=k){h:T O}{N:Nat}:Fn A.C 278 [.int .i64 b] h N (fun v h' N'=>h'=h/\N'=N/\v=.int .i64 (k:Nat)):=by
 intro w;rw[aN,A.k278 (by simp)];have e1:bo .i64 ((b:Int)*78913)=(b:Int)*78913:=cP (by omega) (by omega);have e2:Aj .shr .i64 ((b:Int)*78913) 18=some (.int .i64 ((b:Int)*78913/262144)):=by unfold Aj;rw[ak (by omega)];show some (V.int .i64 (Int.fdiv _ 262144))=_;rw[Int.fdiv_eq_ediv_of_nonneg _ (by omega)]
 have e3:(b:Int)*78913/262144=k:=by omega
 simp[A.b278,e1,e2,e3,ax];exact ab.refl
def Yza{b:Bool}:Fn A.C 279 [.bool b] h N (fun v h' N'=>h'=h/\N'=N/\v=.int .i64 (if b=true then 1 else 0)):=by
 intro w;rw[aN,A.k279 (by simp)];cases b
 ·simp[A.b279,ax];exact ab.refl
 simp[A.b279,ax];exact ab.refl
def Zs4(hx:0<x)(hb:aX x<65):(if 10^(aX x*78913/262144)<=x then 1 else 0)+aX x*78913/262144=(dv x).length:=by
 have fK:x≠0:=by omega
 have h1:=UP x;have h2:=MH fK;have h0:0<aX x:=by unfold aX;rw[ak fK];omega
 obtain⟨g1,g2,g3⟩:=Yog _ hb h0;generalize hk:aX x*78913/262144=k at*;have u1:(dv x).length<=k+1:=qN.1 (by omega);by_cases c:10^k<=x
 ·rw[ar c];have:¬(dv x).length<=k:=fun hc=>by have:=qN.2 hc;omega
  omega
 rw[ak c];have u2:(dv x).length<=k:=qN.1 (by omega);cases k with
 |zero=>omega
 |succ j=>
  have:¬(dv x).length<=j:=fun hc=>by have:=qN.2 hc;rw[ix]at g1;omega
  omega
def Yq2(hx:x<18446744073709551616)(h0:0<x){h:T O}{N:Nat}(hp:ik h N):Fn A.C 263 [.int .u64 x] h N (fun v h' N'=>h'=h/\N'=N/\v=.int .i64 ((dv x).length:Nat)):=by
 intro w;have hb:aX x<65:=by apply uH;intro hc;have h2:=MH (show x≠0 by omega);have:2^64<=2^(aX x-1):=qW (by decide) (by omega);omega
 rw[aN,A.k263 (by simp)];simp[A.b263];refine av (Zsn hx) ?_;rintro _ _ _ _ ⟨rfl,rfl,rfl⟩;simp[];refine av (Yyt hb rfl) ?_;rintro _ _ _ _ ⟨rfl,rfl,rfl⟩;have ki:0<aX x:=by unfold aX;rw[ak (by omega)];omega
 have hl:=Zs4 h0 hb;have g3:=(Yog _ hb ki).2.2;generalize aX x*78913/262144=k at*;obtain⟨q1,e,rw,q2⟩:=hp.ex;have q3:=Yqt g3;have g4:(k:Int)<20:=by omega
 simp[EA,g4,q2,q3];refine av Yza ?_;rintro _ _ _ _ ⟨rfl,rfl,rfl⟩;simp(disch:=omega) [ax];refine⟨ab.refl,?_⟩;rw[<-hl];have cc:((10:Int)^k<=(x:Int))↔10^k<=x:=by exact_mod_cast Iff.rfl
 by_cases c:10^k<=x
 ·rw[ar (cc.2 c),ar c];omega
 rw[ak (fun hc=>c (cc.1 hc)),ak c];omega
def xJ(N:Nat)(f:Nat->V):List V:=(List.range N).map f
def Cg(N:Nat)(f:Nat->V):(xJ N f).length=N:=by simp[xJ]
def UZ{j:Nat}{f:Nat->V}(h:j<N):(xJ N f)[j]?=some (f j):=by simp[xJ,h]
def nj(f:Nat->V)(k:Nat)(v:V):Nat->V:=fun j=>if j=k then v else f j
def Zv9{f:Nat->V}{v:V}(h:k<N):ag (xJ N f) k [v]=xJ N (nj f k v):=by
 apply ph;intro j;rw[Mm (by rw[Cg];simp;omega)];by_cases hj:k<=j/\j<k+[v].length
 ·rw[ar hj];simp at hj;have:j=k:=by omega
  subst this;rw[UZ h];simp[nj]
 rw[ak hj];simp at hj;by_cases hN:j<N
 ·rw[UZ hN,UZ hN,nj,ak (by omega)]
 rw[fW (by rw[Cg];omega),fW (by rw[Cg];omega)]
def QE{w:List Nat}{p:Nat}{f:Nat->V}{e:TypeId}{k:IntKind}{n:Int}(hp:p<Z):
  bO 1 ⟨h,N,w⟩ i p (.int k n) (some (.cells (xJ Z f) e true))=some (.aV [],⟨h.set i (.cells (xJ Z (nj f p (.int k n))) e true),N,i::w⟩):=by rw[Zm4 (by rfl) (by rw[Cg];omega) (by rfl)];show some (_,St.mk (h.set i (.cells (ag (xJ Z f) p [.int k n]) e true)) _ _)=_;rw[Zv9 hp]
def vB(c:UInt8):V:=.int .u8 (cW c)
def Kk:∀p:Nat,p<100->tf[2*p+1]?=some (dr p):=by decide+kernel
def Kl:∀p:Nat,p<100->tf[2*p]?=some (dr (p/10)):=by decide+kernel
def yZ{b:Nat}(h:a%10=b%10):dr a=dr b:=by unfold dr;rw[h]
structure qx (Z o L x i u:Nat) (f0 f:Nat->V):Prop where
 le:i<=L
 u:u=x/10^(L-i)
 dig:∀j,i<=j->j<L->f (o+j)=vB (dr (x/10^(L-1-j)))
 out:∀j,j<o\/o+L<=j->f j=f0 j
def qx.one{L:Nat}{f0 f:Nat->V}(s:qx Z o L x (i+1) u f0 f){c:UInt8}(hc:c=dr u):qx Z o L x i (u/10) f0 (nj f (o+i) (vB c)):=by
 subst hc;have hle:=s.le;refine⟨by omega,?_,fun j h1 h2=>?_,fun j hj=>?_⟩
 ·rw[s.u,IZ,<-ix];congr 2;omega
 ·by_cases hj:j=i
  ·subst hj;rw[nj,ar rfl,s.u];congr 4;omega
  rw[nj,ak (by omega)];exact s.dig j (by omega) h2
 rw[nj,ak (by omega)];exact s.out j hj
def qx.two{L:Nat}{f0 f:Nat->V}(s:qx Z o L x (i+2) u f0 f){c d:UInt8}(hc:c=dr u)(hd:d=dr (u/10)):qx Z o L x i (u/100) f0 (nj (nj f (o+(i+1)) (vB c)) (o+i) (vB d)):=by have:=(qx.one (i:=i+1) s hc).one hd;rw[IZ]at this;exact this
structure Km (h:T O) (N ir n2 Z o L x:Nat) (f0:Nat->V) (e:TypeId) (i u:Nat) (f:Nat->V) (r:T V) (st:St):Prop where
 r4:r.get 4=some (.int .i64 i)
 n:st.n=N
 w:ay n2 st.w=[]
 row:st.h.get ir=some (.cells (xJ Z f) e true)
 QF:∀t,t≠ir->st.h.get t=h.get t
 fmt:qx Z o L x i u f0 f
def qx.eight{L:Nat}{f0 f:Nat->V}(s:qx Z o L x (i+8) u f0 f):qx Z o L x i (u/100000000) f0
  (nj (nj (nj (nj (nj (nj (nj (nj f (o+(i+7)) (vB (dr (u%100000000%10000%100)))) (o+(i+6)) (vB (dr (u%100000000%10000%100/10)))) (o+(i+5)) (vB (dr (u%100000000%10000/100)))) (o+(i+4)) (vB (dr (u%100000000%10000/100/10))))
     (o+(i+3)) (vB (dr (u%100000000/10000%100)))) (o+(i+2)) (vB (dr (u%100000000/10000%100/10)))) (o+(i+1)) (vB (dr (u%100000000/10000/100)))) (o+i) (vB (dr (u%100000000/10000/100/10)))):=by have s1:=qx.two (i:=i+6) s (c:=dr (u%100000000%10000%100)) (d:=dr (u%100000000%10000%100/10)) (yZ (by omega)) (yZ (by omega));have s2:=qx.two (i:=i+4) s1 (c:=dr (u%100000000%10000/100)) (d:=dr (u%100000000%10000/100/10)) (yZ (by omega)) (yZ (by omega));have s3:=qx.two (i:=i+2) s2 (c:=dr (u%100000000/10000%100)) (d:=dr (u%100000000/10000%100/10)) (yZ (by omega)) (yZ (by omega));have s4:=qx.two (i:=i) s3 (c:=dr (u%100000000/10000/100)) (d:=dr (u%100000000/10000/100/10)) (yZ (by omega)) (yZ (by omega));rw[show u/100/100/100/100=u/100000000 by omega]at s4;exact s4
def tm8:(a:Int).tmod 100000000=((a%100000000:Nat):Int):=Int.ofNat_tmod a 100000000 |>.symm
def tm4:(a:Int).tmod 10000=((a%10000:Nat):Int):=Int.ofNat_tmod a 10000 |>.symm
def U0:(a:Int).tmod 100=((a%100:Nat):Int):=Int.ofNat_tmod a 100 |>.symm
def Yzy(h:a<18446744073709551616):bo .u64 ((a:Int)/100000000)=((a/100000000:Nat):Int):=by rw[Hk (by omega) (by omega)];omega
def Yzh(h:a<4294967296):bo .u32 ((a:Int)/10000)=((a/10000:Nat):Int):=by rw[MN (by omega) (by omega)];omega
def U5(h:a<4294967296):bo .u32 ((a:Int)/100)=((a/100:Nat):Int):=by rw[MN (by omega) (by omega)];omega
def tw(h:a<4294967296):bo .u32 (a:Int)=(a:Int):=MN (by omega) (by omega)
def Kn(h:a<100):bo .u32 ((a:Int)*2)=((2*a:Nat):Int):=by rw[MN (by omega) (by omega)];omega
def Ko(h:a<100):bo .u32 (((2*a:Nat):Int)+1)=((2*a+1:Nat):Int):=by rw[MN (by omega) (by omega)];omega
def Ysh{L:Nat}{f0 f:Nat->V}{e:TypeId}(hT:o+L<=Z)(hL:L<100)(ib:n2<=ir)(hN:ir<N){rr:T V}(hf:Fx [(1,1),(4,11),(19,95)] rr 167 ⟨r,167,[]⟩)(r0:r.get 0=some (.slice ir o L cp 1))(a1:r.get 1=some (.int .u64 u))(ub:u<18446744073709551616)(s:Km h N ir n2 Z o L x f0 e (k+8) u f r ⟨H,N,W⟩):
  Code A.C none A.oL ⟨r,167,[]⟩ ⟨H,N,W⟩ (fun ex fr st=>ex=.normal/\∃r' f',fr=⟨r',167,[]⟩/\Fx [(1,1),(4,11),(19,95)] rr 167 ⟨r',167,[]⟩/\r'.get 1=some (.int .u64 (u/100000000:Nat))/\Km h N ir n2 Z o L x f0 e k (u/100000000) f' r' st):=by
 rw[bu];obtain⟨a4,_,aw,lE,ao,af⟩:=s;simp only at aw lE ao;have hle:=af.le;have v8:=af.eight;obtain⟨us,uB⟩:∃y,u%100000000=y:=⟨_,rfl⟩;obtain⟨uq,Hn⟩:∃y,u/100000000=y:=⟨_,rfl⟩;have t1:=tm8 (a:=u);have t2:=Yzy (a:=u) ub;rw[uB]at t1 v8;rw[Hn]at t2 v8;have us0:us<100000000:=by omega
 have t3:=tw (a:=us) (by omega);obtain⟨hi,iS⟩:∃y,us/10000=y:=⟨_,rfl⟩;obtain⟨lo,gT⟩:∃y,us%10000=y:=⟨_,rfl⟩;have t4:=Yzh (a:=us) (by omega);have t5:=tm4 (a:=us);rw[iS]at t4 v8;rw[gT]at t5 v8;have t6:=U5 (a:=hi) (by omega);have t7:=U0 (a:=hi);have t8:=U5 (a:=lo) (by omega);have t9:=U0 (a:=lo);obtain⟨p1,Ch⟩:∃y,hi/100=y:=⟨_,rfl⟩;obtain⟨p2,Ar⟩:∃y,hi%100=y:=⟨_,rfl⟩;obtain⟨p3,hp3⟩:∃y,lo/100=y:=⟨_,rfl⟩;obtain⟨p4,hp4⟩:∃y,lo%100=y:=⟨_,rfl⟩;rw[Ch]at t6 v8;rw[Ar]at t7 v8;rw[hp3]at t8 v8;rw[hp4]at t9 v8;have b1:p1<100:=by omega
 have m1:=Kn b1;have Ci:=Ko b1;have d1:=Kk _ b1;have g1:=Kl _ b1;obtain⟨y1,uf⟩:∃y,2*p1+1=y:=⟨_,rfl⟩;rw[uf]at Ci d1;obtain⟨z1,B4⟩:∃y,2*p1=y:=⟨_,rfl⟩;rw[B4]at m1 Ci g1;have b2:p2<100:=by omega
 have m2:=Kn b2;have Kp:=Ko b2;have d2:=Kk _ b2;have g2:=Kl _ b2;obtain⟨y2,yP⟩:∃y,2*p2+1=y:=⟨_,rfl⟩;rw[yP]at Kp d2;obtain⟨z2,eW⟩:∃y,2*p2=y:=⟨_,rfl⟩;rw[eW]at m2 Kp g2;have b3:p3<100:=by omega
 have m3:=Kn b3;have nn3:=Ko b3;have d3:=Kk _ b3;have g3:=Kl _ b3;obtain⟨y3,hy3⟩:∃y,2*p3+1=y:=⟨_,rfl⟩;rw[hy3]at nn3 d3;obtain⟨z3,Fy⟩:∃y,2*p3=y:=⟨_,rfl⟩;rw[Fy]at m3 nn3 g3;have b4:p4<100:=by omega
 have m4:=Kn b4;have nn4:=Ko b4;have d4:=Kk _ b4;have g4:=Kl _ b4;obtain⟨y4,hy4⟩:∃y,2*p4+1=y:=⟨_,rfl⟩;rw[hy4]at nn4 d4;obtain⟨z4,Ax⟩:∃y,2*p4=y:=⟨_,rfl⟩;rw[Ax]at m4 nn4 g4;have e1:(k:Int)+8-1=(k:Int)+7:=by omega
 have e2:(k:Int)+8-2=(k:Int)+6:=by omega
 have e3:(k:Int)+8-3=(k:Int)+5:=by omega
 have e4:(k:Int)+8-4=(k:Int)+4:=by omega
 have e5:(k:Int)+8-5=(k:Int)+3:=by omega
 have e6:(k:Int)+8-6=(k:Int)+2:=by omega
 have e7:(k:Int)+8-7=(k:Int)+1:=by omega
 have e8:(k:Int)+8-8=(k:Int):=by omega
 have f1:((k:Int)+7).toNat=k+7:=by omega
 have f2:((k:Int)+6).toNat=k+6:=by omega
 have f3:((k:Int)+5).toNat=k+5:=by omega
 have f4:((k:Int)+4).toNat=k+4:=by omega
 have f5:((k:Int)+3).toNat=k+3:=by omega
 have f6:((k:Int)+2).toNat=k+2:=by omega
 have f7:((k:Int)+1).toNat=k+1:=by omega
 have c8:(8:Int)<=(k:Int)+8:=by omega
 have xE:¬N<=ir:=by omega
 have ir0:∀t,(T.set H ir t).get ir=some t:=fun t=>by rw[T.ae,ar rfl]
 simp(disch:=first|(simp;done)|omega|(simp only[bq,b_,bk];omega)|rfl) [A.oL,hf,r0,a1,a4,c8,lE,hN,xE,cQ.cU,QE,t1,t2,t3,t4,t5,t6,t7,t8,t9,m1,m2,m3,m4,Ci,Kp,nn3,nn4,d1,d2,d3,d4,g1,g2,g3,g4,e1,e2,e3,e4,e5,e6,e7,e8,f1,f2,f3,f4,f5,f6,f7];subst Hn;refine⟨by omega,_,⟨by simp,rfl,by simpa[ay,wx.2 ib]using aw,by simp only[T.ae,ar];rfl,fun t ht=>by simp only[T.ae,ak ht];exact ao t ht,v8⟩⟩
structure FbE (h:T O) (N ir n2 Z o L x:Nat) (f0:Nat->V) (e:TypeId) (st:St):Prop where
 n:st.n=N
 w:ay n2 st.w=[]
 QF:∀t,t≠ir->st.h.get t=h.get t
 ex:∃f,st.h.get ir=some (.cells (xJ Z f) e true)/\(∀j,j<L->f (o+j)=vB (dr (x/10^(L-1-j))))/\∀j,j<o\/o+L<=j->f j=f0 j
def Yuk(h:u<10):V.int .u8 (48+(u:Int))=vB (dr u):=by unfold vB cW;rw[JO];congr 1;omega
def Ywb{L:Nat}{f0 f:Nat->V}{e:TypeId}(hZ:o+L<=Z)(ib:n2<=ir)(hN:ir<N)(hi:i<2)(hu:u<10^i)(r0:r.get 0=some (.slice ir o L cp 1))(Dx:r.get 12=some (.int .u32 u))(s:Km h N ir n2 Z o L x f0 e i u f r ⟨H,N,W⟩):
  Code A.C none A.oM ⟨r,167,[]⟩ ⟨H,N,W⟩ (fun ex fr st=>ex=.normal/\∃r',fr=⟨r',167,[]⟩/\FbE h N ir n2 Z o L x f0 e st):=by
 rw[bu];obtain⟨a4,_,aw,lE,ao,af⟩:=s;simp only at aw lE ao;have hle:=af.le;obtain rfl|rfl:i=0\/i=1:=by omega
 ·simp[A.oM,a4];exact⟨rfl,aw,ao,f,lE,fun j hj=>af.dig j (wh _) hj,af.out⟩
 have nU:u<10:=by omega
 have e1:bo .u32 (48+(u:Int))=48+(u:Int):=MN (by omega) (by omega);have e2:bo .u8 (48+(u:Int))=48+(u:Int):=Dj (by omega) (by omega);have hL:(0:Int)<(L:Int):=by omega
 simp(disch:=omega) [A.oM,r0,a4,Dx,e1,e2,lE,QE];have v:=qx.one (i:=0) af (c:=dr u) rfl;rw[<-Yuk nU,gE]at v;exact⟨rfl,by simpa[ay,wx.2 ib]using aw,fun t ht=>by rw[T.ae,ak ht];exact ao t ht,_,by rw[T.ae,ar rfl],fun j hj=>v.dig j (wh _) hj,v.out⟩
def Ywa{L:Nat}{f0 f:Nat->V}{e:TypeId}(hZ:o+L<=Z)(ib:n2<=ir)(hN:ir<N)(hi:i<4)(hu:u<10^i)(r0:r.get 0=some (.slice ir o L cp 1))(Dx:r.get 12=some (.int .u32 u))(s:Km h N ir n2 Z o L x f0 e i u f r ⟨H,N,W⟩):
  Code A.C none A.oO ⟨r,167,[]⟩ ⟨H,N,W⟩ (fun ex fr st=>ex=.normal/\∃r',fr=⟨r',167,[]⟩/\FbE h N ir n2 Z o L x f0 e st):=by
 rw[bu];have s0:=s;obtain⟨a4,_,aw,lE,ao,af⟩:=s;simp only at aw lE ao;have hle:=af.le;by_cases hc:i<2
 ·have c1:¬(2:Int)<=(i:Int):=by omega
  simp[A.oO,a4,c1];refine mJ (Ywb (i:=i) (u:=u) (f:=f) (cp:=cp) hZ ib hN hc hu (by simp[r0]) (by simp[Dx]) ⟨by simp[a4],rfl,aw,lE,ao,af⟩) ?_;rintro ex fr st ⟨rfl,r',rfl,hE⟩;simp;exact hE
 obtain⟨k,rfl⟩:∃k,i=k+2:=⟨i-2,by omega⟩;have QG:u<10000:=by have:10^(k+2)<=10^4:=qW (by decide) (by omega);omega
 have c1:(2:Int)<=(k:Int)+2:=by omega
 have xE:¬N<=ir:=by omega
 have t6:=U5 (a:=u) (by omega);have t7:=U0 (a:=u);have v:=qx.two (i:=k) af (c:=dr (u%100)) (d:=dr (u%100/10)) (yZ (by omega)) (yZ (by omega));have fZ:u/100<10^k:=by rw[rk (by decide)];rw[mr]at hu;exact hu
 obtain⟨uq,Hn⟩:∃y,u/100=y:=⟨_,rfl⟩;obtain⟨p1,Ch⟩:∃y,u%100=y:=⟨_,rfl⟩;rw[Hn]at t6 v fZ;rw[Ch]at t7 v;have b1:p1<100:=by omega
 have m1:=Kn b1;have Ci:=Ko b1;have d1:=Kk _ b1;have g1:=Kl _ b1;obtain⟨y1,uf⟩:∃y,2*p1+1=y:=⟨_,rfl⟩;rw[uf]at Ci d1;obtain⟨z1,B4⟩:∃y,2*p1=y:=⟨_,rfl⟩;rw[B4]at m1 Ci g1;have e1:(k:Int)+2-1=(k:Int)+1:=by omega
 have e2:(k:Int)+2-2=(k:Int):=by omega
 have f1:((k:Int)+1).toNat=k+1:=by omega
 have hI:∀t n,(((H.set ir t).set ir n):T O).get ir=some n:=fun t n=>by rw[T.ae,ar rfl]
 simp(disch:=first|(simp;done)|omega|(simp only[bq,b_,bk];omega)|rfl) [A.oO,r0,a4,Dx,c1,lE,hN,xE,cQ.cU,QE,t6,t7,m1,Ci,d1,g1,e1,e2,f1];refine mJ (Ywb (i:=k) (u:=uq) (cp:=cp) (e:=e) hZ ib hN (by omega) fZ (by simp[r0]) (by simp) ⟨by simp,rfl,by simpa[ay,wx.2 ib]using aw,by simp only[T.ae,ar];rfl,fun t ht=>by simp only[T.ae,ak ht];exact ao t ht,v⟩) ?_;rintro ex fr st ⟨rfl,r',rfl,hE⟩;simp;exact hE
def qx.four{T L:Nat}{f0 f:Nat->V}(s:qx T o L x (i+4) u f0 f):qx T o L x i (u/10000) f0
  (nj (nj (nj (nj f (o+(i+3)) (vB (dr (u%10000%100)))) (o+(i+2)) (vB (dr (u%10000%100/10)))) (o+(i+1)) (vB (dr (u%10000/100)))) (o+i) (vB (dr (u%10000/100/10)))):=by have s1:=qx.two (i:=i+2) s (c:=dr (u%10000%100)) (d:=dr (u%10000%100/10)) (yZ (by omega)) (yZ (by omega));have s2:=qx.two (i:=i) s1 (c:=dr (u%10000/100)) (d:=dr (u%10000/100/10)) (yZ (by omega)) (yZ (by omega));rw[show u/100/100=u/10000 by omega]at s2;exact s2
def Yy3{L:Nat}{f0 f:Nat->V}{e:TypeId}(hZ:o+L<=Z)(ib:n2<=ir)(hN:ir<N)(hi:i<8)(hu:u<10^i)(r0:r.get 0=some (.slice ir o L cp 1))(Dx:r.get 12=some (.int .u32 u))(s:Km h N ir n2 Z o L x f0 e i u f r ⟨H,N,W⟩):
  Code A.C none A.oP ⟨r,167,[]⟩ ⟨H,N,W⟩ (fun ex fr st=>ex=.normal/\∃r',fr=⟨r',167,[]⟩/\FbE h N ir n2 Z o L x f0 e st):=by
 rw[bu];obtain⟨a4,_,aw,lE,ao,af⟩:=s;simp only at aw lE ao;have hle:=af.le;by_cases hc:i<4
 ·have c1:¬(4:Int)<=(i:Int):=by omega
  simp[A.oP,a4,c1];refine mJ (Ywa (i:=i) (u:=u) (f:=f) (cp:=cp) hZ ib hN hc hu (by simp[r0]) (by simp[Dx]) ⟨by simp[a4],rfl,aw,lE,ao,af⟩) ?_;rintro ex fr st ⟨rfl,r',rfl,hE⟩;simp;exact hE
 obtain⟨k,rfl⟩:∃k,i=k+4:=⟨i-4,by omega⟩;have QG:u<100000000:=by have:10^(k+4)<=10^8:=qW (by decide) (by omega);omega
 have c1:(4:Int)<=(k:Int)+4:=by omega
 have xE:¬N<=ir:=by omega
 have t4:=Yzh (a:=u) (by omega);have t5:=tm4 (a:=u);have v:=af.four;have fZ:u/10000<10^k:=by rw[rk (by decide)];rw[mr]at hu;exact hu
 obtain⟨uq,Hn⟩:∃y,u/10000=y:=⟨_,rfl⟩;obtain⟨lo,gT⟩:∃y,u%10000=y:=⟨_,rfl⟩;rw[Hn]at t4 v fZ;rw[gT]at t5 v;have t6:=U5 (a:=lo) (by omega);have t7:=U0 (a:=lo);obtain⟨p1,Ch⟩:∃y,lo/100=y:=⟨_,rfl⟩;obtain⟨p2,Ar⟩:∃y,lo%100=y:=⟨_,rfl⟩;rw[Ch]at t6 v;rw[Ar]at t7 v;have b1:p1<100:=by omega
 have m1:=Kn b1;have Ci:=Ko b1;have d1:=Kk _ b1;have g1:=Kl _ b1;obtain⟨y1,uf⟩:∃y,2*p1+1=y:=⟨_,rfl⟩;rw[uf]at Ci d1;obtain⟨z1,B4⟩:∃y,2*p1=y:=⟨_,rfl⟩;rw[B4]at m1 Ci g1;have b2:p2<100:=by omega
 have m2:=Kn b2;have Kp:=Ko b2;have d2:=Kk _ b2;have g2:=Kl _ b2;obtain⟨y2,yP⟩:∃y,2*p2+1=y:=⟨_,rfl⟩;rw[yP]at Kp d2;obtain⟨z2,eW⟩:∃y,2*p2=y:=⟨_,rfl⟩;rw[eW]at m2 Kp g2;have e1:(k:Int)+4-1=(k:Int)+3:=by omega
 have e2:(k:Int)+4-2=(k:Int)+2:=by omega
 have e3:(k:Int)+4-3=(k:Int)+1:=by omega
 have e4:(k:Int)+4-4=(k:Int):=by omega
 have f1:((k:Int)+3).toNat=k+3:=by omega
 have f2:((k:Int)+2).toNat=k+2:=by omega
 have f3:((k:Int)+1).toNat=k+1:=by omega
 simp(disch:=first|(simp;done)|omega|(simp only[bq,b_,bk];omega)|rfl) [A.oP,r0,a4,Dx,c1,lE,hN,xE,QE,t4,t5,t6,t7,m1,Ci,d1,g1,m2,Kp,d2,g2,e1,e2,e3,e4,f1,f2,f3];refine mJ (Ywa (i:=k) (u:=uq) (cp:=cp) (e:=e) hZ ib hN (by omega) fZ (by simp[r0]) (by simp) ⟨by simp,rfl,by simpa[ay,wx.2 ib]using aw,by simp only[T.ae,ar];rfl,fun t ht=>by simp only[T.ae,ak ht];exact ao t ht,v⟩) ?_;rintro ex fr st ⟨rfl,r',rfl,hE⟩;simp;exact hE
def Code.mono{C:Cx}{ro:Option Nat}{c:bW}{fr:Fr}{st:St}{P Q:Ex->Fr->St->Prop}(h:Code C ro c fr st P)(k:∀e fr st,P e fr st->Q e fr st):Code C ro c fr st Q:=by rw[bu];refine mJ h ?_;intro e fr st hp;simp;exact k _ _ _ hp
structure FbR (h:T O) (N ir n2 Z o L x:Nat) (f0:Nat->V) (e:TypeId) (w:List Nat) (st:St):Prop where
 n:st.n=N
 w:ay n2 st.w=ay n2 w
 QF:∀t,t≠ir->st.h.get t=h.get t
 ex:∃f,st.h.get ir=some (.cells (xJ Z f) e true)/\(∀j,j<L->f (o+j)=vB (dr (x/10^(L-1-j))))/\∀j,j<o\/o+L<=j->f j=f0 j
def Zxr{L:Nat}{f0:Nat->V}{e:TypeId}{w:List Nat}(hZ:o+L<=Z)(hL:L<100)(ib:n2<=ir)(hN:ir<N)(hx:x<10^L)(A9:x<18446744073709551616)(hr:h.get ir=some (.cells (xJ Z f0) e true)):
  Call A.C (.func 264 [] []) [.slice ir o L cp 1,.int .u64 x] ⟨h,N,w⟩ (fun _ st=>FbR h N ir n2 Z o L x f0 e w st):=by
 rw[aN,A.k264 (by simp)];simp[A.b264];refine cm [(1,1),(4,11),(19,95)] (fun ex r st=>ex=.exit 0/\∃(i u:Nat) (f:Nat->V),i<8/\u<10^i/\r.get 1=some (.int .u64 u)/\Km h N ir n2 Z o L x f0 e i u f r st) (fun i r st=>∃(u:Nat) (f:Nat->V),u<10^i/\u<18446744073709551616/\r.get 1=some (.int .u64 u)/\Km h N ir n2 Z o L x f0 e i u f r st) L ?_ ?_ ?_
 ·refine⟨x,f0,hx,A9,by simp,by simp,rfl,by simp[ay],hr,fun t _=>rfl,⟨aO _,by simp,fun j h1 h2=>by omega,fun j _=>rfl⟩⟩
 ·rintro i r ⟨H,n1,W⟩ hr hf ⟨u,f,hu,Kq,a1,J⟩;have hn:=J.n;simp only at hn;subst hn;have r0:r.get 0=some (.slice ir o L cp 1):=by rw[hr 0 (by decide)];simp
  by_cases h8:i<8
  ·have c8:¬(8:Int)<=(i:Int):=by omega
   have a4:=J.r4;rw[bu];simp[A.oL,hf,a4,c8];exact⟨i,h8,u,hu,by simp[a1],f,⟨by simp[a4],J.n,J.w,J.row,J.QF,J.fmt⟩⟩
  obtain⟨k,rfl⟩:∃k,i=k+8:=⟨i-8,by omega⟩;refine Code.mono (Ysh hZ hL ib hN hf r0 a1 Kq J) ?_;rintro ex fr st ⟨rfl,r',f',rfl,IM,U6,J'⟩;refine Zvu.2 ⟨IM,k,by omega,_,f',?_,by omega,U6,J'⟩;rw[rk (by decide)];rw[mr]at hu;exact hu
 rintro ex r ⟨H,n1,W⟩ hr ⟨rfl,i,u,f,h8,hu,a1,J⟩;have hn:=J.n;simp only at hn;subst hn;have hu7:u<4294967296:=by have:10^i<=10^7:=qW (by decide) (by omega);omega
 have e1:=tw hu7;simp[a1,e1];refine mJ (Yy3 (i:=i) (u:=u) (f:=f) (cp:=cp) (e:=e) (H:=H) (W:=W) hZ ib hN h8 hu (by simp;rw[hr 0 (by decide)];simp) (by simp) ⟨by simpa using J.r4,rfl,J.w,J.row,J.QF,J.fmt⟩) ?_;rintro ex fr ⟨H2,mw,W2⟩ ⟨rfl,r',rfl,hn,hW,hO,hE⟩;simp only at hn;subst hn;simp[];exact⟨rfl,by rw[OQ (OR hW)],hO,hE⟩
variable {j o x:Nat}
def A.b240:=A.q Tryz.f240
def A.k240:=@A.kk 240 32 [.tmp 4] A.b240 (by kernel_rfl) rfl
def A.b261:=A.q Tryz.f261
def A.k261:=@A.kk 261 54 [.tmp 4] A.b261 (by kernel_rfl) rfl
def A.b235:=A.q Tryz.f235
def A.k235:=@A.kk 235 5 [.tmp 2] A.b235 (by kernel_rfl) rfl
def A.b214:=A.q Tryz.f214
def A.k214:=@A.kk 214 5 [.tmp 2] A.b214 (by kernel_rfl) rfl
def A.b216:=A.q Tryz.f216
def A.k216:=@A.kk 216 8 [.tmp 4] A.b216 (by kernel_rfl) rfl
def Ymv:∀{x:Nat},(j:Nat)->j<(dv x).length->(dv x)[j]?=some (dr (x/10^((dv x).length-1-j))):=by
 intro x;induction x using Nat.strongRecOn with
 |_ x ih=>
  intro j hj;by_cases h0:x=0
  ·subst h0;rw[uZ]at hj;simp at hj
  have e:=yS h0;have hl:(dv x).length=(dv (x/10)).length+1:=by rw[e];simp
  rw[hl];rw[e];by_cases pE:j<(dv (x/10)).length
  ·rw[mj pE,ih _ (Et (by omega) (by decide)) j pE,IZ];congr 3;rw[show (dv (x/10)).length+1-1-j=((dv (x/10)).length-1-j)+1 by omega,ix,jO]
  have:j=(dv (x/10)).length:=by omega
  subst this;simp
def Zpv{L:Nat}{f:Nat->V}(hL:L=(dv x).length)(hf:∀j,j<L->f (o+j)=vB (dr (x/10^(L-1-j)))):(List.range L).map (fun j=>f (o+j))=(dv x).map vB:=by
 apply ph;intro j;rw[eG,eG];by_cases hj:j<L
 ·rw[AK hj,Ymv j (by omega),<-hL];simp[hf j hj]
 rw[fW (by simpa using hj),fW (by omega)];rfl
def Zr2{Z L:Nat}{f:Nat->V}(h:o+L<=Z):aL (xJ Z f) o L=some ((List.range L).map fun j=>f (o+j)):=by
 unfold aL;rw[Cg,ar h];congr 1;apply ph;intro j;rw[jL,eG];by_cases hj:j<L
 ·rw[ar hj,fF,UZ (by omega),AK hj];rfl
 rw[ak hj,fW (by simpa using hj)];rfl
def U7:V->Option UInt8
 |.int .u8 n=>some (UInt8.ofNat n.toNat)
 |_=>none
def QH(st:St):Option (List V)->Option (V×St)
 |some l=>match l.mapM U7 with
  |some s=>some (.str s,st)
  |none=>none
 |none=>none
def U8(st:St)(o len:Nat):Option (List V×TypeId×Bool)->Option (V×St)
 |some (c,_,_)=>QH st (aL c o len)
 |none=>none
def Ytf(st:St):Option V->Option (V×St)
 |some .aa=>some (.str [],st)
 |some (.slice i o len _ 1)=>U8 st o len (st.row i)
 |_=>none
def Zhu{x:Src}{call:cM}{r:T V}{st:St}:Jg x call r st=Ytf st (x.ev r):=by unfold Jg Ytf U8 QH;rfl
def Zkv{st:St}{i len:Nat}{c:Option Nat}:Ytf st (some (.slice i o len c 1))=U8 st o len (st.row i):=rfl
def Zkw{st:St}{len:Nat}{c:List V}{e:TypeId}{b:Bool}:U8 st o len (some (c,e,b))=QH st (aL c o len):=rfl
def Zp4{st:St}:∀{s:aD},QH st (some (s.map vB))=some (.str s,st):=by
 intro s;have:(s.map vB).mapM U7=some s:=by
  induction s with
  |nil=>rfl
  |cons c s ih=>
   rw[nI,List.mapM_cons,ih];have:U7 (vB c)=some c:=by simp[U7,vB,cW]
   simp[this]
 simp only[QH,this]
def Yy7:∀j:Nat,j<10->(List.take (j+1) Yh2).drop j=[dr j]:=by decide+kernel
def Ywk:∀j:Nat,j<100->(List.take (2*j+2) tf).drop (2*j)=[dr (j/10),dr j]:=by decide+kernel
def Ydb:Yh2.length=36:=by decide+kernel
def Yh3:tf.length=200:=by decide+kernel
def Yh8(h:j<10):an j=[dr j]:=by
 unfold an;split
 ·subst j;rfl
 rw[yS (by assumption),show j/10=0 by omega,uZ];rfl
def Ydc(h:j<100)(h2:10<=j):an j=[dr (j/10),dr j]:=by unfold an;rw[ak (by omega),yS (by omega),yS (by omega),show j/10/10=0 by omega,uZ];rfl
def Zyr(hj:j<100){h:T O}{N:Nat}:Fn A.C 262 [.int .i64 j] h N (fun v h' N'=>h'=h/\N'=N/\v=.str (an j)):=by
 intro w;rw[aN,A.k262 (by simp)];by_cases c:j<10
 ·have e1:=Yy7 j c;have e2:(j:Int)+1<=36:=by omega
  have e3:((j:Int)+1).toNat=j+1:=by omega
  have e4:(j:Int)<10:=by omega
  have e5:(0:Int)<=(j:Int)+1:=by omega
  have e8:(j:Int)<=(j:Int)+1:=by omega
  simp(disch:=omega) [A.b262,e4,Al,aB,dP,mP,Ydb,e1,e2,e3,e5,e8,ax,Yh8 c];exact ab.refl
 have e1:=Ywk j hj;have e4:¬(j:Int)<10:=by omega
 have e2:(j:Int)*2+2<=200:=by omega
 have e3:((j:Int)*2+2).toNat=2*j+2:=by omega
 have e5:(0:Int)<=(j:Int)*2+2:=by omega
 have e6:(0:Int)<=(j:Int)*2:=by omega
 have e8:(j:Int)*2<=2*(j:Int)+2:=by omega
 have e7:((j:Int)*2).toNat=2*j:=by omega
 simp(disch:=omega) [A.b262,e4,Al,aB,dP,mP,Yh3,e1,e2,e3,e5,e6,e7,e8,ax,Ydc hj (wx.1 c)];exact ab.refl
def Yte:[V.int .u8 0,V.int .u8 0,V.int .u8 0,V.int .u8 0,V.int .u8 0,V.int .u8 0,V.int .u8 0,V.int .u8 0,V.int .u8 0,V.int .u8 0,V.int .u8 0,V.int .u8 0,V.int .u8 0,V.int .u8 0,V.int .u8 0,V.int .u8 0,V.int .u8 0,V.int .u8 0,V.int .u8 0,V.int .u8 0,V.int .u8 0,V.int .u8 0,V.int .u8 0,V.int .u8 0]=xJ 24 (fun _=>.int .u8 0):=rfl
def Zrj(hx:x<18446744073709551616):(dv x).length<=20:=qN.1 (by omega)
def Kr(h:x≠0):an x=dv x:=by unfold an;rw[ak h]
def Yy1(hx:x<18446744073709551616){h:T O}{N:Nat}(hp:ik h N):Fn A.C 240 [.int .u64 x,.int .i64 10] h N (fun v h' N'=>v=.str (an x)):=by
 intro w;rw[aN,A.k240 (by simp)];by_cases c:x<100
 ·have c1:(x:Int)<100:=by omega
  have e1:bo .i64 (x:Int)=(x:Int):=cP (by omega) (by omega);simp[A.b240,c1,e1];refine av (Zyr c) ?_;rintro _ _ _ _ ⟨rfl,rfl,rfl⟩;simp[ax];exact ab.refl
 have c1:¬(x:Int)<100:=by omega
 simp[A.b240,c1,Yte];refine av (Yq2 hx (by omega) (hp.ad (aM ab.refl _))) ?_;rintro _ _ _ _ ⟨rfl,rfl,rfl⟩;have hl:=Zrj hx;obtain⟨L,hL⟩:∃L,(dv x).length=L:=⟨_,rfl⟩;have U9:x<10^L:=qN.2 (by omega);have e2:(L:Int)<=24:=by omega
 rw[hL];rw[hL]at hl;simp[Bx,aB,dP,mP,e2,Cg];refine AS (Zxr (n2:=N) (Z:=24) (o:=0) (x:=x) (f0:=fun _=>.int .u8 0) (e:=256) (by omega) (by omega) (aO N) (wO N) U9 hx (by rw[T.ae,ar rfl])) ?_;rintro v ⟨H2,n2,W2⟩ ⟨hn,hW,hO,f,hr,hd,_⟩;simp only at hn hW hO hr;subst hn;have ct:=Zr2 (f:=f) (show 0+L<=24 by omega);rw[Zpv hL.symm hd]at ct;simp[Bx,aB,dP,mP,e2,Cg,Zhu,Zkv,Zkw,hr,ct,Zp4,ax];have Fz:ay N W2=[]:=hW;rw[Fz,Kr (by omega)];refine⟨rfl,⟨wm _,fun i hi=>?_⟩,rfl⟩;rw[hO i (by omega),T.ae,ak (by omega)]
def Yop(hx:x<18446744073709551616){h:T O}{N:Nat}(hp:ik h N):Fn A.C 216 [.int .u64 x,.int .i64 10] h N (fun v h' N'=>v=.str (an x)):=by intro w;rw[aN,A.k216 (by simp)];simp[A.b216];refine av (Yy1 hx hp) ?_;rintro _ _ _ k1 rfl;simp[ax];exact k1
def Yy2{z:Int}(h1: -9223372036854775808<=z)(h2:z<9223372036854775808){h:T O}{N:Nat}(hp:ik h N):Fn A.C 261 [.int .i64 z,.int .i64 10] h N (fun v h' N'=>v=.str (aK z)):=by
 intro w;rw[aN,A.k261 (by simp)];by_cases c:0<=z/\z<100
 ·obtain⟨j,rfl⟩:=Gn c.1;have c1:(j:Int)<100:=c.2;have hj:aK (j:Int)=an j:=by unfold aK;rw[ak (by omega)];rfl
  simp[A.b261,c1];refine av (Zyr (by omega)) ?_;rintro _ _ _ _ ⟨rfl,rfl,rfl⟩;simp[ax,hj];exact ab.refl
 have hx:z.natAbs<18446744073709551616:=by omega
 have fK:z.natAbs≠0:=by omega
 obtain⟨x,hxe⟩:∃x,z.natAbs=x:=⟨_,rfl⟩;have hl:=Zrj (hxe▸hx);obtain⟨L,hL⟩:∃L,(dv x).length=L:=⟨_,rfl⟩;have U9:x<10^L:=qN.2 (by omega);have hL0:0<L:=by rw[<-hL];exact Zve (by omega)
 rw[hL]at hl;have e2:(L:Int)+1<=24:=by omega
 have e3:(0:Int)<=(L:Int)+1:=by omega
 have e4:((L:Int)+1).toNat=L+1:=by omega
 have e5:(1:Int)<=(L:Int)+1:=by omega
 have e6:(1:Int)+(L:Int)=(L:Int)+1:=by omega
 by_cases hz:z<0
 ·have c2:¬0<=z:=by omega
  have w1:IntKind.wrap .u64 (-(bo .u64 z))=(x:Int):=by rw[MB,MC];omega
  simp[A.b261,c2,hz,Yte,w1];refine av (Yq2 (x:=x) (by omega) (by omega) (hp.ad (aM ab.refl _))) ?_;rintro _ _ _ _ ⟨rfl,rfl,rfl⟩;rw[hL];simp(disch:=omega) [Bx,aB,dP,mP,e2,e3,e4,e5,e6,Cg];refine AS (Zxr (n2:=N) (Z:=24) (o:=1) (x:=x) (f0:=fun _=>.int .u8 0) (e:=256) (by omega) (by omega) (aO N) (wO N) U9 (by omega) (by rw[T.ae,ar rfl])) ?_;rintro v ⟨H2,n2,W2⟩ ⟨hn,hW,hO,f,hr,hd,_⟩;simp only at hn hW hO hr;subst hn;have Fz:ay N W2=[]:=hW;have ct:=Zr2 (f:=nj f 0 (.int .u8 45)) (show 0+(L+1)<=24 by omega);have dX:(List.range (L+1)).map (fun j=>nj f 0 (.int .u8 45) (0+j))=(45::dv x).map vB:=by rw[List.range_succ_eq_map,nI,List.map_map,nI,<-Zpv hL.symm hd];congr 1;apply AE;intro j _;show nj f 0 _ (0+(j+1))=_;rw[nj,ak (by omega)];congr 1;omega
  rw[dX]at ct;have Bh:aK z=45::dv x:=by unfold aK;rw[ar hz,hxe,Kr (by omega)]
  obtain⟨S,hS⟩:∃S,45::dv x=S:=⟨_,rfl⟩;rw[hS]at ct Bh;simp(disch:=omega) [Bx,EA,aB,dP,mP,e2,e3,e4,e6,Cg,Zhu,Zkv,Zkw,hr,hz,QE,ct,Zp4,ax,Bh,Fz];refine⟨wm _,fun i hi=>?_⟩;rw[T.ae,ak (by omega),hO i (by omega),T.ae,ak (by omega)]
 have c2:0<=z:=by omega
 have c3:¬z<100:=by omega
 have w1:bo .u64 z=(x:Int):=by rw[Hk (by omega) (by omega)];omega
 simp[A.b261,c2,c3,hz,Yte,w1];refine av (Yq2 (x:=x) (by omega) (by omega) (hp.ad (aM ab.refl _))) ?_;rintro _ _ _ _ ⟨rfl,rfl,rfl⟩;rw[hL];simp(disch:=omega) [Bx,aB,dP,mP,e2,e3,e4,e5,e6,Cg];refine AS (Zxr (n2:=N) (Z:=24) (o:=1) (x:=x) (f0:=fun _=>.int .u8 0) (e:=256) (by omega) (by omega) (aO N) (wO N) U9 (by omega) (by rw[T.ae,ar rfl])) ?_;rintro v ⟨H2,n2,W2⟩ ⟨hn,hW,hO,f,hr,hd,_⟩;simp only at hn hW hO hr;subst hn;have Fz:ay N W2=[]:=hW;have ct:=Zr2 (f:=f) (show 1+L<=24 by omega);rw[Zpv hL.symm hd]at ct;have Bh:aK z=dv x:=by unfold aK;rw[ak hz,hxe,Kr (by omega)]
 simp(disch:=omega) [Bx,aB,dP,mP,e2,e3,e4,e5,e6,Cg,Zhu,Zkv,Zkw,hr,hz,ct,Zp4,ax,Bh,Fz];refine⟨wm _,fun i hi=>?_⟩;rw[hO i (by omega),T.ae,ak (by omega)]
def Yr1{z:Int}(h1: -9223372036854775808<=z)(h2:z<9223372036854775808){h:T O}{N:Nat}(hp:ik h N):Fn A.C 214 [.int .i64 z] h N (fun v h' N'=>v=.str (aK z)):=by
 intro w;rw[aN,A.k214 (by simp)];simp[A.b214];refine av (?_:Fn A.C 235 [.int .i64 z] h N (fun v h' N'=>v=.str (aK z))) ?_
 ·intro w;rw[aN,A.k235 (by simp)];simp[A.b235];refine av (Yy2 h1 h2 hp) ?_;rintro _ _ _ k1 rfl;simp[ax];exact k1
 rintro _ _ _ k1 rfl;simp[ax];exact k1
end
end Go.Mx
