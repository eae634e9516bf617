/-strconv-/
import Derived.Test.YtfeehbdhikiikaaGreatDoorNbD
set_option linter.all false
set_option maxHeartbeats 4000000
namespace Go.Mx
variable{n z:Int}{w:List Nat}{N' b y:Nat}{f f0:Nat->V}
noncomputable section
open Go Go.Proofs
variable {H h:T O} {N Z a i ir k n2 o u x:Nat} {W:List Nat} {cp:Option Nat} {r:T V}
set_option maxRecDepth 1000000
def uc:List UInt8:=[48,48,48,49,48,50,48,51,48,52,48,53,48,54,48,55,48,56,48,57,49,48,49,49,49,50,49,51,49,52,49,53,49,54,49,55,49,56,49,57,50,48,50,49,50,50,50,51,50,52,50,53,50,54,50,55,50,56,50,57,51,48,51,49,51,50,51,51,51,52,51,53,51,54,51,55,51,56,51,57,52,48,52,49,52,50,52,51,52,52,52,53,52,54,52,55,52,56,52,57,53,48,53,49,53,50,53,51,53,52,53,53,53,54,53,55,53,56,53,57,54,48,54,49,54,50,54,51,54,52,54,53,54,54,54,55,54,56,54,57,55,48,55,49,55,50,55,51,55,52,55,53,55,54,55,55,55,56,55,57,56,48,56,49,56,50,56,51,56,52,56,53,56,54,56,55,56,56,56,57,57,48,57,49,57,50,57,51,57,52,57,53,57,54,57,55,57,56,57,57]
def Yik:List UInt8:=[48,49,50,51,52,53,54,55,56,57,97,98,99,100,101,102,103,104,105,106,107,108,109,110,111,112,113,114,115,116,117,118,119,120,121,122]
def A.b267:=A.q Tryz.f267
def A.k267:=@A.kk 267 15 [.tmp 2] A.b267 (by kernel_rfl) rfl
def A.b282:=A.q Tryz.f282
def A.k282:=@A.kk 282 6 [.tmp 2] A.b282 (by kernel_rfl) rfl
def A.b283:=A.q Tryz.f283
def A.k283:=@A.kk 283 4 [.tmp 2] A.b283 (by kernel_rfl) rfl
def A.oX:ct:=.seq (sr [mv 19 4,bc 20 .geq 19 8] (cd 20 (.skip) (.exit 0))) (.block 1 (sr [mv 21 1,ge 22 (.bin .rem (.node []) false (tq 21) (.const (.int .u64 100000000))),ge 23 (.dG .u32 (tq 22)),mv 5 23] (sr [mv 24 1,ge 25 (.bin .quo (.node []) false (tq 24) (.const (.int .u64 100000000))),mv 1 25] (sr [mv 26 5,ge 27 (.bin .quo (.node []) false (tq 26) (.const (.int .u32 10000))),mv 28 5,ge 29 (.bin .rem (.node []) false (tq 28) (.const (.int .u32 10000))),mv 6 27,mv 7 29] (sr [mv 30 7,ge 31 (.bin .quo (.node []) false (tq 30) (.const (.int .u32 100))),ge 32 (.bin .mul (.node []) false (tq 31) (.const (.int .u32 2))),mv 33 7,ge 34 (.bin .rem (.node []) false (tq 33) (.const (.int .u32 100))),ge 35 (.bin .mul (.node []) false (tq 34) (.const (.int .u32 2))),mv 8 32,mv 9 35] (sr [mv 36 6,ge 37 (.bin .quo (.node []) false (tq 36) (.const (.int .u32 100))),ge 38 (.bin .mul (.node []) false (tq 37) (.const (.int .u32 2))),mv 39 6,ge 40 (.bin .rem (.node []) false (tq 39) (.const (.int .u32 100))),ge 41 (.bin .mul (.node []) false (tq 40) (.const (.int .u32 2))),mv 10 38,mv 11 41] (.seq (.f_ [mv 42 0,mv 43 4,bc 44 .sub 43 1,mv 45 0,mv 46 4,bc 47 .sub 46 2,mv 48 9,ge 49 (.bin .add (.node []) false (tq 48) (.const (.int .u32 1))),ge 50 (.bQ (.const (.str uc)) (tq 49)),mv 51 9,ge 52 (.bQ (.const (.str uc)) (tq 51)),ia 53 1 42 44,so 53 50,ia 54 1 45 47,so 54 52] [0,0,2,0,0,16,0,64,192,0,512,455,2503,8191,16383]) (.seq (.f_ [mv 55 0,mv 56 4,bc 57 .sub 56 3,mv 58 0,mv 59 4,bc 60 .sub 59 4,mv 61 8,ge 62 (.bin .add (.node []) false (tq 61) (.const (.int .u32 1))),ge 63 (.bQ (.const (.str uc)) (tq 62)),mv 64 8,ge 65 (.bQ (.const (.str uc)) (tq 64)),ia 66 1 55 57,so 66 63,ia 67 1 58 60,so 67 65] [0,0,2,0,0,16,0,64,192,0,512,455,2503,8191,16383]) (.seq (.f_ [mv 68 0,mv 69 4,bc 70 .sub 69 5,mv 71 0,mv 72 4,bc 73 .sub 72 6,mv 74 11,ge 75 (.bin .add (.node []) false (tq 74) (.const (.int .u32 1))),ge 76 (.bQ (.const (.str uc)) (tq 75)),mv 77 11,ge 78 (.bQ (.const (.str uc)) (tq 77)),ia 79 1 68 70,so 79 76,ia 80 1 71 73,so 80 78] [0,0,2,0,0,16,0,64,192,0,512,455,2503,8191,16383]) (.seq (.f_ [mv 81 0,mv 82 4,bc 83 .sub 82 7,mv 84 0,mv 85 4,bc 86 .sub 85 8,mv 87 10,ge 88 (.bin .add (.node []) false (tq 87) (.const (.int .u32 1))),ge 89 (.bQ (.const (.str uc)) (tq 88)),mv 90 10,ge 91 (.bQ (.const (.str uc)) (tq 90)),ia 92 1 81 83,so 92 89,ia 93 1 84 86,so 93 91] [0,0,2,0,0,16,0,64,192,0,512,455,2503,8191,16383]) (.fV [mv 94 4,bc 95 .sub 94 8,mv 4 95])))))))))))
def A.oY:ct:=sr [mv 160 4,bc 161 .gtr 160 0] (cd 161 (.fV [mv 162 0,mv 163 12,ge 164 (.bin .add (.node []) false (.const (.int .u32 48)) (tq 163)),ge 165 (.dG .u8 (tq 164)),ge 166 (.bF 1 (tq 162) (kq 0)),so 166 165]) (.skip))
def A.oZ:ct:=.seq (sr [mv 138 4,bc 139 .geq 138 2] (cd 139 (sr [mv 140 12,ge 141 (.bin .rem (.node []) false (tq 140) (.const (.int .u32 100))),ge 142 (.bin .mul (.node []) false (tq 141) (.const (.int .u32 2))),mv 16 142] (sr [mv 143 12,ge 144 (.bin .quo (.node []) false (tq 143) (.const (.int .u32 100))),mv 12 144] (.seq (.f_ [mv 145 0,mv 146 4,bc 147 .sub 146 1,mv 148 0,mv 149 4,bc 150 .sub 149 2,mv 151 16,ge 152 (.bin .add (.node []) false (tq 151) (.const (.int .u32 1))),ge 153 (.bQ (.const (.str uc)) (tq 152)),mv 154 16,ge 155 (.bQ (.const (.str uc)) (tq 154)),ia 156 1 145 147,so 156 153,ia 157 1 148 150,so 157 155] [0,0,2,0,0,16,0,64,192,0,512,455,2503,8191,16383]) (.fV [mv 158 4,bc 159 .sub 158 2,mv 4 159])))) (.skip)))
 A.oY
def A.o_:ct:=.seq (sr [mv 98 4,bc 99 .geq 98 4] (cd 99 (sr [mv 100 12,ge 101 (.bin .rem (.node []) false (tq 100) (.const (.int .u32 10000))),mv 13 101] (sr [mv 102 12,ge 103 (.bin .quo (.node []) false (tq 102) (.const (.int .u32 10000))),mv 12 103] (sr [mv 104 13,ge 105 (.bin .quo (.node []) false (tq 104) (.const (.int .u32 100))),ge 106 (.bin .mul (.node []) false (tq 105) (.const (.int .u32 2))),mv 107 13,ge 108 (.bin .rem (.node []) false (tq 107) (.const (.int .u32 100))),ge 109 (.bin .mul (.node []) false (tq 108) (.const (.int .u32 2))),mv 14 106,mv 15 109] (.seq (.f_ [mv 110 0,mv 111 4,bc 112 .sub 111 1,mv 113 0,mv 114 4,bc 115 .sub 114 2,mv 116 15,ge 117 (.bin .add (.node []) false (tq 116) (.const (.int .u32 1))),ge 118 (.bQ (.const (.str uc)) (tq 117)),mv 119 15,ge 120 (.bQ (.const (.str uc)) (tq 119)),ia 121 1 110 112,so 121 118,ia 122 1 113 115,so 122 120] [0,0,2,0,0,16,0,64,192,0,512,455,2503,8191,16383]) (.seq (.f_ [mv 123 0,mv 124 4,bc 125 .sub 124 3,mv 126 0,mv 127 4,bc 128 .sub 127 4,mv 129 14,ge 130 (.bin .add (.node []) false (tq 129) (.const (.int .u32 1))),ge 131 (.bQ (.const (.str uc)) (tq 130)),mv 132 14,ge 133 (.bQ (.const (.str uc)) (tq 132)),ia 134 1 123 125,so 134 131,ia 135 1 126 128,so 135 133] [0,0,2,0,0,16,0,64,192,0,512,455,2503,8191,16383]) (.fV [mv 136 4,bc 137 .sub 136 4,mv 4 137])))))) (.skip)))
 A.oZ
def A.b268:ct:=sr [mv 17 0,ln 18 17,mv 4 18] (.seq (.block 0 (.loop A.oX)) (sr [mv 96 1,ge 97 (.dG .u32 (tq 96)),mv 12 97]
 A.o_))
def A.k268:=@A.kk 268 167 [] A.b268 (by kernel_rfl) rfl
def A.b266:ct:=sr [ge 2 (.pP (.const (.str [])))] (.seq (sr [mv 3 0,bc 4 .lss 3 10] (cd 4 (sr [mv 5 0,mv 6 0,bc 7 .add 6 1,ge 8 (.cG (.const (.str Yik)) (some (tq 5)) (some (tq 7))),mv 2 8] (.ret)) (.skip))) (sr [mv 9 0,bc 10 .mul 9 2,mv 11 0,bc 12 .mul 11 2,bc 13 .add 12 2,ge 14 (.cG (.const (.str uc)) (some (tq 10)) (some (tq 13))),mv 2 14] (.ret)))
def A.k266:=@A.kk 266 15 [.tmp 2] A.b266 (by kernel_rfl) rfl
@[simp] def Xat:a<b\/b<=a:=Nat.lt_or_ge a b
def Nf(h1:0<=n)(h2:n<4294967296):bn .u32 n=n:=by rw[BP];show n%4294967296=n;omega
def Yy0:List Nat:=[1,10,100,1000,10000,100000,1000000,10000000,100000000,1000000000,10000000000,100000000000,1000000000000,10000000000000,100000000000000,1000000000000000,10000000000000000,100000000000000000,1000000000000000000,10000000000000000000]
def iT(h:T O)(N:Nat):Prop:=5<N/\h.get 5=some A.Iz
def iT.ad{h':T O}(s:iT h N)(k:ab h N h' N'):iT h' N':=by exact⟨fH s.1 k.le,(k.get _ s.1).trans s.2⟩
def iT.ex(s:iT h N):5<N/\∃e rw,h.get 5=some (.cells (dg Yy0) e rw):=⟨s.1,_,_,s.2.trans rfl⟩
def Yk8:∀j:Nat,j<20->Yy0[j]?=some (10^j):=by decide+kernel
def Yrh{j:Nat}(h:j<20):(dg Yy0)[j]?=some (.int .u64 ((10^j:Nat):Int)):=gw (Yk8 j h)
def Yos:∀b:Nat,b<65->0<b->10^(b*78913/262144)<=10*2^(b-1)/\2^b<=10^(b*78913/262144+1)/\b*78913/262144<20:=by decide+kernel
def Yzw(hb:b<65)(hk:b*78913/262144=k):Fn A.C 282 [.int .i64 b] h N (fun v h' N'=>h'=h/\N'=N/\v=.int .i64 (k:Nat)):=by
 intro w;rw[aP,A.k282 (by simp)];have e1:bn .i64 ((b:Int)*78913)=(b:Int)*78913:=cN (by omega) (by omega);have e2:AM .shr .i64 ((b:Int)*78913) 18=some (.int .i64 ((b:Int)*78913/262144)):=by unfold AM;rw[ak (by omega)];show some (V.int .i64 (Int.fdiv _ 262144))=_;rw[Int.fdiv_eq_ediv_of_nonneg _ (by omega)]
 have e3:(b:Int)*78913/262144=k:=by omega
 simp[A.b282,e1,e2,e3,ay];exact ab.refl
def Xaf{b:Bool}:Fn A.C 283 [.bool b] h N (fun v h' N'=>h'=h/\N'=N/\v=.int .i64 (if b=true then 1 else 0)):=by
 intro w;rw[aP,A.k283 (by simp)];cases b
 ·simp[A.b283,ay];exact ab.refl
 simp[A.b283,ay];exact ab.refl
def Ztm(hx:0<x)(hb:aY x<65):(if 10^(aY x*78913/262144)<=x then 1 else 0)+aY x*78913/262144=(dC x).length:=by
 have jP:x≠0:=by omega
 have h1:=Vd x;have h2:=M8 jP;have h0:0<aY x:=by unfold aY;rw[ak jP];omega
 obtain⟨g1,g2,g3⟩:=Yos _ hb h0;generalize hk:aY x*78913/262144=k at*;have u1:(dC x).length<=k+1:=rI.1 (by omega);by_cases c:10^k<=x
 ·rw[av c];have:¬(dC x).length<=k:=fun hc=>by have:=rI.2 hc;omega
  omega
 rw[ak c];have u2:(dC x).length<=k:=rI.1 (by omega);cases k with
 |zero=>omega
 |succ j=>
  have:¬(dC x).length<=j:=fun hc=>by have:=rI.2 hc;rw[iD]at g1;omega
  omega
def Yrw(hx:x<18446744073709551616)(h0:0<x)(hp:iT h N):Fn A.C 267 [.int .u64 x] h N (fun v h' N'=>h'=h/\N'=N/\v=.int .i64 ((dC x).length:Nat)):=by
 intro w;have hb:aY x<65:=by apply u_;intro hc;have h2:=M8 (show x≠0 by omega);have:2^64<=2^(aY x-1):=rL (by decide) (by omega);omega
 rw[aP,A.k267 (by simp)];simp[A.b267];refine au (Zs5 hx) ?_;rintro _ _ _ _ ⟨rfl,rfl,rfl⟩;simp[];refine au (Yzw hb rfl) ?_;rintro _ _ _ _ ⟨rfl,rfl,rfl⟩;have nT:0<aY x:=by unfold aY;rw[ak (by omega)];omega
 have hl:=Ztm h0 hb;have g3:=(Yos _ hb nT).2.2;generalize aY x*78913/262144=k at*;obtain⟨q1,e,rw,q2⟩:=hp.ex;have q3:=Yrh g3;have g4:(k:Int)<20:=by omega
 simp[EE,g4,q2,q3];refine au Xaf ?_;rintro _ _ _ _ ⟨rfl,rfl,rfl⟩;simp(disch:=omega) [ay];refine⟨ab.refl,?_⟩;rw[<-hl];have cc:((10:Int)^k<=(x:Int))↔10^k<=x:=by exact_mod_cast Iff.rfl
 by_cases c:10^k<=x
 ·rw[av (cc.2 c),av c];omega
 rw[ak (fun hc=>c (cc.1 hc)),ak c];omega
def yc(N:Nat)(f:Nat->V):List V:=(List.range N).map f
def CA(N:Nat)(f:Nat->V):(yc N f).length=N:=by simp[yc]
def Vo{j:Nat}(h:j<N):(yc N f)[j]?=some (f j):=by simp[yc,h]
def nM(f:Nat->V)(k:Nat)(v:V):Nat->V:=fun j=>if j=k then v else f j
def Zws{v:V}(h:k<N):ae (yc N f) k [v]=yc N (nM f k v):=by
 apply pM;intro j;rw[MO (by rw[CA];simp;omega)];by_cases hj:k<=j/\j<k+[v].length
 ·rw[av hj];simp at hj;have:j=k:=by omega
  subst this;rw[Vo h];simp[nM]
 rw[ak hj];simp at hj;by_cases hN:j<N
 ·rw[Vo hN,Vo hN,nM,ak (by omega)]
 rw[gl (by rw[CA];omega),gl (by rw[CA];omega)]
def Rh{p:Nat}{e:TypeId}{k:IntKind}(hp:p<Z):
  bM 1 ⟨h,N,w⟩ i p (.int k n) (some (.cells (yc Z f) e true))=some (.aU [],⟨h.set i (.cells (yc Z (nM f p (.int k n))) e true),N,i::w⟩):=by rw[Zm4 (by rfl) (by rw[CA];omega) (by rfl)];show some (_,St.mk (h.set i (.cells (ae (yc Z f) p [.int k n]) e true)) _ _)=_;rw[Zws hp]
def vB(c:UInt8):V:=.int .u8 (cZ c)
def Kt:∀p:Nat,p<100->uc[2*p+1]?=some (dv p):=by decide+kernel
def Ku:∀p:Nat,p<100->uc[2*p]?=some (dv (p/10)):=by decide+kernel
def zu(h:a%10=b%10):dv a=dv b:=by unfold dv;rw[h]
structure rj (Z o L x i u:Nat) (f0 f:Nat->V):Prop where
 le:i<=L
 u:u=x/10^(L-i)
 dig:∀j,i<=j->j<L->f (o+j)=vB (dv (x/10^(L-1-j)))
 out:∀j,j<o\/o+L<=j->f j=f0 j
def rj.one{L:Nat}(s:rj Z o L x (i+1) u f0 f){c:UInt8}(hc:c=dv u):rj Z o L x i (u/10) f0 (nM f (o+i) (vB c)):=by
 subst hc;have hle:=s.le;refine⟨by omega,?_,fun j h1 h2=>?_,fun j hj=>?_⟩
 ·rw[s.u,Jf,<-iD];congr 2;omega
 ·by_cases hj:j=i
  ·subst hj;rw[nM,av rfl,s.u];congr 4;omega
  rw[nM,ak (by omega)];exact s.dig j (by omega) h2
 rw[nM,ak (by omega)];exact s.out j hj
def rj.two{L:Nat}(s:rj Z o L x (i+2) u f0 f){c d:UInt8}(hc:c=dv u)(hd:d=dv (u/10)):rj Z o L x i (u/100) f0 (nM (nM f (o+(i+1)) (vB c)) (o+i) (vB d)):=by have:=(rj.one (i:=i+1) s hc).one hd;rw[Jf]at this;exact this
structure Kv (h:T O) (N ir n2 Z o L x:Nat) (f0:Nat->V) (e:TypeId) (i u:Nat) (f:Nat->V) (r:T V) (st:St):Prop where
 r4:r.get 4=some (.int .i64 i)
 n:st.n=N
 w:az n2 st.w=[]
 row:st.h.get ir=some (.cells (yc Z f) e true)
 Ri:∀t,t≠ir->st.h.get t=h.get t
 fmt:rj Z o L x i u f0 f
def rj.eight{L:Nat}(s:rj Z o L x (i+8) u f0 f):rj Z o L x i (u/100000000) f0
  (nM (nM (nM (nM (nM (nM (nM (nM f (o+(i+7)) (vB (dv (u%100000000%10000%100)))) (o+(i+6)) (vB (dv (u%100000000%10000%100/10)))) (o+(i+5)) (vB (dv (u%100000000%10000/100)))) (o+(i+4)) (vB (dv (u%100000000%10000/100/10))))
     (o+(i+3)) (vB (dv (u%100000000/10000%100)))) (o+(i+2)) (vB (dv (u%100000000/10000%100/10)))) (o+(i+1)) (vB (dv (u%100000000/10000/100)))) (o+i) (vB (dv (u%100000000/10000/100/10)))):=by have s1:=rj.two (i:=i+6) s (c:=dv (u%100000000%10000%100)) (d:=dv (u%100000000%10000%100/10)) (zu (by omega)) (zu (by omega));have s2:=rj.two (i:=i+4) s1 (c:=dv (u%100000000%10000/100)) (d:=dv (u%100000000%10000/100/10)) (zu (by omega)) (zu (by omega));have s3:=rj.two (i:=i+2) s2 (c:=dv (u%100000000/10000%100)) (d:=dv (u%100000000/10000%100/10)) (zu (by omega)) (zu (by omega));have s4:=rj.two (i:=i) s3 (c:=dv (u%100000000/10000/100)) (d:=dv (u%100000000/10000/100/10)) (zu (by omega)) (zu (by omega));rw[show u/100/100/100/100=u/100000000 by omega]at s4;exact s4
def tm8:(a:Int).tmod 100000000=((a%100000000:Nat):Int):=Int.ofNat_tmod a 100000000 |>.symm
def tm4:(a:Int).tmod 10000=((a%10000:Nat):Int):=Int.ofNat_tmod a 10000 |>.symm
def Vp:(a:Int).tmod 100=((a%100:Nat):Int):=Int.ofNat_tmod a 100 |>.symm
def Xa9(h:a<18446744073709551616):bn .u64 ((a:Int)/100000000)=((a/100000000:Nat):Int):=by rw[HG (by omega) (by omega)];omega
def Xan(h:a<4294967296):bn .u32 ((a:Int)/10000)=((a/10000:Nat):Int):=by rw[Nf (by omega) (by omega)];omega
def Vq(h:a<4294967296):bn .u32 ((a:Int)/100)=((a/100:Nat):Int):=by rw[Nf (by omega) (by omega)];omega
def tw(h:a<4294967296):bn .u32 (a:Int)=(a:Int):=Nf (by omega) (by omega)
def Kw(h:a<100):bn .u32 ((a:Int)*2)=((2*a:Nat):Int):=by rw[Nf (by omega) (by omega)];omega
def Kx(h:a<100):bn .u32 (((2*a:Nat):Int)+1)=((2*a+1:Nat):Int):=by rw[Nf (by omega) (by omega)];omega
def Yta{L:Nat}{e:TypeId}(hT:o+L<=Z)(hL:L<100)(gE:n2<=ir)(hN:ir<N){rr:T V}(hf:Fx [(1,1),(4,11),(19,95)] rr 167 ⟨r,167,[]⟩)(r0:r.get 0=some (.slice ir o L cp 1))(a1:r.get 1=some (.int .u64 u))(ub:u<18446744073709551616)(s:Kv h N ir n2 Z o L x f0 e (k+8) u f r ⟨H,N,W⟩):
  Code A.C none A.oX ⟨r,167,[]⟩ ⟨H,N,W⟩ (fun ex fr st=>ex=.normal/\∃r' f',fr=⟨r',167,[]⟩/\Fx [(1,1),(4,11),(19,95)] rr 167 ⟨r',167,[]⟩/\r'.get 1=some (.int .u64 (u/100000000:Nat))/\Kv h N ir n2 Z o L x f0 e k (u/100000000) f' r' st):=by
 rw[bG];obtain⟨a4,_,aw,mD,ao,af⟩:=s;simp only at aw mD ao;have hle:=af.le;have v8:=af.eight;obtain⟨us,uW⟩:∃y,u%100000000=y:=⟨_,rfl⟩;obtain⟨uq,HK⟩:∃y,u/100000000=y:=⟨_,rfl⟩;have t1:=tm8 (a:=u);have t2:=Xa9 (a:=u) ub;rw[uW]at t1 v8;rw[HK]at t2 v8;have us0:us<100000000:=by omega
 have t3:=tw (a:=us) (by omega);obtain⟨hi,iY⟩:∃y,us/10000=y:=⟨_,rfl⟩;obtain⟨lo,h_⟩:∃y,us%10000=y:=⟨_,rfl⟩;have t4:=Xan (a:=us) (by omega);have t5:=tm4 (a:=us);rw[iY]at t4 v8;rw[h_]at t5 v8;have t6:=Vq (a:=hi) (by omega);have t7:=Vp (a:=hi);have t8:=Vq (a:=lo) (by omega);have t9:=Vp (a:=lo);obtain⟨p1,CB⟩:∃y,hi/100=y:=⟨_,rfl⟩;obtain⟨p2,AU⟩:∃y,hi%100=y:=⟨_,rfl⟩;obtain⟨p3,hp3⟩:∃y,lo/100=y:=⟨_,rfl⟩;obtain⟨p4,hp4⟩:∃y,lo%100=y:=⟨_,rfl⟩;rw[CB]at t6 v8;rw[AU]at t7 v8;rw[hp3]at t8 v8;rw[hp4]at t9 v8;have b1:p1<100:=by omega
 have m1:=Kw b1;have CC:=Kx b1;have d1:=Kt _ b1;have g1:=Ku _ b1;obtain⟨y1,rS⟩:∃y,2*p1+1=y:=⟨_,rfl⟩;rw[rS]at CC d1;obtain⟨z1,Cr⟩:∃y,2*p1=y:=⟨_,rfl⟩;rw[Cr]at m1 CC g1;have b2:p2<100:=by omega
 have m2:=Kw b2;have Ky:=Kx b2;have d2:=Kt _ b2;have g2:=Ku _ b2;obtain⟨y2,zh⟩:∃y,2*p2+1=y:=⟨_,rfl⟩;rw[zh]at Ky d2;obtain⟨z2,er⟩:∃y,2*p2=y:=⟨_,rfl⟩;rw[er]at m2 Ky g2;have b3:p3<100:=by omega
 have m3:=Kw b3;have nn3:=Kx b3;have d3:=Kt _ b3;have g3:=Ku _ b3;obtain⟨y3,hy3⟩:∃y,2*p3+1=y:=⟨_,rfl⟩;rw[hy3]at nn3 d3;obtain⟨z3,FD⟩:∃y,2*p3=y:=⟨_,rfl⟩;rw[FD]at m3 nn3 g3;have b4:p4<100:=by omega
 have m4:=Kw b4;have nn4:=Kx b4;have d4:=Kt _ b4;have g4:=Ku _ b4;obtain⟨y4,ZX⟩:∃y,2*p4+1=y:=⟨_,rfl⟩;rw[ZX]at nn4 d4;obtain⟨z4,A3⟩:∃y,2*p4=y:=⟨_,rfl⟩;rw[A3]at m4 nn4 g4;have e1:(k:Int)+8-1=(k:Int)+7:=by omega
 have e2:(k:Int)+8-2=(k:Int)+6:=by omega
 have e3:(k:Int)+8-3=(k:Int)+5:=by omega
 have e4:(k:Int)+8-4=(k:Int)+4:=by omega
 have e5:(k:Int)+8-5=(k:Int)+3:=by omega
 have e6:(k:Int)+8-6=(k:Int)+2:=by omega
 have e7:(k:Int)+8-7=(k:Int)+1:=by omega
 have e8:(k:Int)+8-8=(k:Int):=by omega
 have f1:((k:Int)+7).toNat=k+7:=by omega
 have f2:((k:Int)+6).toNat=k+6:=by omega
 have f3:((k:Int)+5).toNat=k+5:=by omega
 have f4:((k:Int)+4).toNat=k+4:=by omega
 have f5:((k:Int)+3).toNat=k+3:=by omega
 have f6:((k:Int)+2).toNat=k+2:=by omega
 have f7:((k:Int)+1).toNat=k+1:=by omega
 have c8:(8:Int)<=(k:Int)+8:=by omega
 have xZ:¬N<=ir:=by omega
 have ir0:∀t,(T.set H ir t).get ir=some t:=fun t=>by rw[T.ag,av rfl]
 simp(disch:=first|(simp;done)|omega|(simp only[bu,cr,bl];omega)|rfl) [A.oX,hf,r0,a1,a4,c8,mD,hN,xZ,c9.c_,Rh,t1,t2,t3,t4,t5,t6,t7,t8,t9,m1,m2,m3,m4,CC,Ky,nn3,nn4,d1,d2,d3,d4,g1,g2,g3,g4,e1,e2,e3,e4,e5,e6,e7,e8,f1,f2,f3,f4,f5,f6,f7];subst HK;refine⟨by omega,_,⟨by simp,rfl,by simpa[az,xb.2 gE]using aw,by simp only[T.ag,av];rfl,fun t ht=>by simp only[T.ag,ak ht];exact ao t ht,v8⟩⟩
structure FbE (h:T O) (N ir n2 Z o L x:Nat) (f0:Nat->V) (e:TypeId) (st:St):Prop where
 n:st.n=N
 w:az n2 st.w=[]
 Ri:∀t,t≠ir->st.h.get t=h.get t
 ex:∃f,st.h.get ir=some (.cells (yc Z f) e true)/\(∀j,j<L->f (o+j)=vB (dv (x/10^(L-1-j))))/\∀j,j<o\/o+L<=j->f j=f0 j
def Yvi(h:u<10):V.int .u8 (48+(u:Int))=vB (dv u):=by unfold vB cZ;rw[Kz];congr 1;omega
def Yxd{L:Nat}{e:TypeId}(hZ:o+L<=Z)(gE:n2<=ir)(hN:ir<N)(hi:i<2)(hu:u<10^i)(r0:r.get 0=some (.slice ir o L cp 1))(DN:r.get 12=some (.int .u32 u))(s:Kv h N ir n2 Z o L x f0 e i u f r ⟨H,N,W⟩):
  Code A.C none A.oY ⟨r,167,[]⟩ ⟨H,N,W⟩ (fun ex fr st=>ex=.normal/\∃r',fr=⟨r',167,[]⟩/\FbE h N ir n2 Z o L x f0 e st):=by
 rw[bG];obtain⟨a4,_,aw,mD,ao,af⟩:=s;simp only at aw mD ao;have hle:=af.le;obtain rfl|rfl:i=0\/i=1:=by omega
 ·simp[A.oY,a4];exact⟨rfl,aw,ao,f,mD,fun j hj=>af.dig j (wX _) hj,af.out⟩
 have nJ:u<10:=by omega
 have e1:bn .u32 (48+(u:Int))=48+(u:Int):=Nf (by omega) (by omega);have e2:bn .u8 (48+(u:Int))=48+(u:Int):=Dx (by omega) (by omega);have hL:(0:Int)<(L:Int):=by omega
 simp(disch:=omega) [A.oY,r0,a4,DN,e1,e2,mD,Rh];have v:=rj.one (i:=0) af (c:=dv u) rfl;rw[<-Yvi nJ,iX]at v;exact⟨rfl,by simpa[az,xb.2 gE]using aw,fun t ht=>by rw[T.ag,ak ht];exact ao t ht,_,by rw[T.ag,av rfl],fun j hj=>v.dig j (wX _) hj,v.out⟩
def Yxc{L:Nat}{e:TypeId}(hZ:o+L<=Z)(gE:n2<=ir)(hN:ir<N)(hi:i<4)(hu:u<10^i)(r0:r.get 0=some (.slice ir o L cp 1))(DN:r.get 12=some (.int .u32 u))(s:Kv h N ir n2 Z o L x f0 e i u f r ⟨H,N,W⟩):
  Code A.C none A.oZ ⟨r,167,[]⟩ ⟨H,N,W⟩ (fun ex fr st=>ex=.normal/\∃r',fr=⟨r',167,[]⟩/\FbE h N ir n2 Z o L x f0 e st):=by
 rw[bG];have s0:=s;obtain⟨a4,_,aw,mD,ao,af⟩:=s;simp only at aw mD ao;have hle:=af.le;by_cases hc:i<2
 ·have c1:¬(2:Int)<=(i:Int):=by omega
  simp[A.oZ,a4,c1];refine qV (Yxd (i:=i) (u:=u) (f:=f) (cp:=cp) hZ gE hN hc hu (by simp[r0]) (by simp[DN]) ⟨by simp[a4],rfl,aw,mD,ao,af⟩) ?_;rintro ex fr st ⟨rfl,r',rfl,hE⟩;simp;exact hE
 obtain⟨k,rfl⟩:∃k,i=k+2:=⟨i-2,by omega⟩;have Rj:u<10000:=by have:10^(k+2)<=10^4:=rL (by decide) (by omega);omega
 have c1:(2:Int)<=(k:Int)+2:=by omega
 have xZ:¬N<=ir:=by omega
 have t6:=Vq (a:=u) (by omega);have t7:=Vp (a:=u);have v:=rj.two (i:=k) af (c:=dv (u%100)) (d:=dv (u%100/10)) (zu (by omega)) (zu (by omega));have gp:u/100<10^k:=by rw[rV (by decide)];rw[mT]at hu;exact hu
 obtain⟨uq,HK⟩:∃y,u/100=y:=⟨_,rfl⟩;obtain⟨p1,CB⟩:∃y,u%100=y:=⟨_,rfl⟩;rw[HK]at t6 v gp;rw[CB]at t7 v;have b1:p1<100:=by omega
 have m1:=Kw b1;have CC:=Kx b1;have d1:=Kt _ b1;have g1:=Ku _ b1;obtain⟨y1,rS⟩:∃y,2*p1+1=y:=⟨_,rfl⟩;rw[rS]at CC d1;obtain⟨z1,Cr⟩:∃y,2*p1=y:=⟨_,rfl⟩;rw[Cr]at m1 CC g1;have e1:(k:Int)+2-1=(k:Int)+1:=by omega
 have e2:(k:Int)+2-2=(k:Int):=by omega
 have f1:((k:Int)+1).toNat=k+1:=by omega
 have hI:∀t n,(((H.set ir t).set ir n):T O).get ir=some n:=fun t n=>by rw[T.ag,av rfl]
 simp(disch:=first|(simp;done)|omega|(simp only[bu,cr,bl];omega)|rfl) [A.oZ,r0,a4,DN,c1,mD,hN,xZ,c9.c_,Rh,t6,t7,m1,CC,d1,g1,e1,e2,f1];refine qV (Yxd (i:=k) (u:=uq) (cp:=cp) (e:=e) hZ gE hN (by omega) gp (by simp[r0]) (by simp) ⟨by simp,rfl,by simpa[az,xb.2 gE]using aw,by simp only[T.ag,av];rfl,fun t ht=>by simp only[T.ag,ak ht];exact ao t ht,v⟩) ?_;rintro ex fr st ⟨rfl,r',rfl,hE⟩;simp;exact hE
def rj.four{T L:Nat}(s:rj T o L x (i+4) u f0 f):rj T o L x i (u/10000) f0
  (nM (nM (nM (nM f (o+(i+3)) (vB (dv (u%10000%100)))) (o+(i+2)) (vB (dv (u%10000%100/10)))) (o+(i+1)) (vB (dv (u%10000/100)))) (o+i) (vB (dv (u%10000/100/10)))):=by have s1:=rj.two (i:=i+2) s (c:=dv (u%10000%100)) (d:=dv (u%10000%100/10)) (zu (by omega)) (zu (by omega));have s2:=rj.two (i:=i) s1 (c:=dv (u%10000/100)) (d:=dv (u%10000/100/10)) (zu (by omega)) (zu (by omega));rw[show u/100/100=u/10000 by omega]at s2;exact s2
def Yz5{L:Nat}{e:TypeId}(hZ:o+L<=Z)(gE:n2<=ir)(hN:ir<N)(hi:i<8)(hu:u<10^i)(r0:r.get 0=some (.slice ir o L cp 1))(DN:r.get 12=some (.int .u32 u))(s:Kv h N ir n2 Z o L x f0 e i u f r ⟨H,N,W⟩):
  Code A.C none A.o_ ⟨r,167,[]⟩ ⟨H,N,W⟩ (fun ex fr st=>ex=.normal/\∃r',fr=⟨r',167,[]⟩/\FbE h N ir n2 Z o L x f0 e st):=by
 rw[bG];obtain⟨a4,_,aw,mD,ao,af⟩:=s;simp only at aw mD ao;have hle:=af.le;by_cases hc:i<4
 ·have c1:¬(4:Int)<=(i:Int):=by omega
  simp[A.o_,a4,c1];refine qV (Yxc (i:=i) (u:=u) (f:=f) (cp:=cp) hZ gE hN hc hu (by simp[r0]) (by simp[DN]) ⟨by simp[a4],rfl,aw,mD,ao,af⟩) ?_;rintro ex fr st ⟨rfl,r',rfl,hE⟩;simp;exact hE
 obtain⟨k,rfl⟩:∃k,i=k+4:=⟨i-4,by omega⟩;have Rj:u<100000000:=by have:10^(k+4)<=10^8:=rL (by decide) (by omega);omega
 have c1:(4:Int)<=(k:Int)+4:=by omega
 have xZ:¬N<=ir:=by omega
 have t4:=Xan (a:=u) (by omega);have t5:=tm4 (a:=u);have v:=af.four;have gp:u/10000<10^k:=by rw[rV (by decide)];rw[mT]at hu;exact hu
 obtain⟨uq,HK⟩:∃y,u/10000=y:=⟨_,rfl⟩;obtain⟨lo,h_⟩:∃y,u%10000=y:=⟨_,rfl⟩;rw[HK]at t4 v gp;rw[h_]at t5 v;have t6:=Vq (a:=lo) (by omega);have t7:=Vp (a:=lo);obtain⟨p1,CB⟩:∃y,lo/100=y:=⟨_,rfl⟩;obtain⟨p2,AU⟩:∃y,lo%100=y:=⟨_,rfl⟩;rw[CB]at t6 v;rw[AU]at t7 v;have b1:p1<100:=by omega
 have m1:=Kw b1;have CC:=Kx b1;have d1:=Kt _ b1;have g1:=Ku _ b1;obtain⟨y1,rS⟩:∃y,2*p1+1=y:=⟨_,rfl⟩;rw[rS]at CC d1;obtain⟨z1,Cr⟩:∃y,2*p1=y:=⟨_,rfl⟩;rw[Cr]at m1 CC g1;have b2:p2<100:=by omega
 have m2:=Kw b2;have Ky:=Kx b2;have d2:=Kt _ b2;have g2:=Ku _ b2;obtain⟨y2,zh⟩:∃y,2*p2+1=y:=⟨_,rfl⟩;rw[zh]at Ky d2;obtain⟨z2,er⟩:∃y,2*p2=y:=⟨_,rfl⟩;rw[er]at m2 Ky g2;have e1:(k:Int)+4-1=(k:Int)+3:=by omega
 have e2:(k:Int)+4-2=(k:Int)+2:=by omega
 have e3:(k:Int)+4-3=(k:Int)+1:=by omega
 have e4:(k:Int)+4-4=(k:Int):=by omega
 have f1:((k:Int)+3).toNat=k+3:=by omega
 have f2:((k:Int)+2).toNat=k+2:=by omega
 have f3:((k:Int)+1).toNat=k+1:=by omega
 simp(disch:=first|(simp;done)|omega|(simp only[bu,cr,bl];omega)|rfl) [A.o_,r0,a4,DN,c1,mD,hN,xZ,Rh,t4,t5,t6,t7,m1,CC,d1,g1,m2,Ky,d2,g2,e1,e2,e3,e4,f1,f2,f3];refine qV (Yxc (i:=k) (u:=uq) (cp:=cp) (e:=e) hZ gE hN (by omega) gp (by simp[r0]) (by simp) ⟨by simp,rfl,by simpa[az,xb.2 gE]using aw,by simp only[T.ag,av];rfl,fun t ht=>by simp only[T.ag,ak ht];exact ao t ht,v⟩) ?_;rintro ex fr st ⟨rfl,r',rfl,hE⟩;simp;exact hE
def Code.mono{C:Cx}{ro:Option Nat}{c:ct}{fr:Fr}{st:St}{P Q:Ex->Fr->St->Prop}(h:Code C ro c fr st P)(k:∀e fr st,P e fr st->Q e fr st):Code C ro c fr st Q:=by rw[bG];refine qV h ?_;intro e fr st hp;simp;exact k _ _ _ hp
structure FbR (h:T O) (N ir n2 Z o L x:Nat) (f0:Nat->V) (e:TypeId) (w:List Nat) (st:St):Prop where
 n:st.n=N
 w:az n2 st.w=az n2 w
 Ri:∀t,t≠ir->st.h.get t=h.get t
 ex:∃f,st.h.get ir=some (.cells (yc Z f) e true)/\(∀j,j<L->f (o+j)=vB (dv (x/10^(L-1-j))))/\∀j,j<o\/o+L<=j->f j=f0 j
def Zye{L:Nat}{e:TypeId}(hZ:o+L<=Z)(hL:L<100)(gE:n2<=ir)(hN:ir<N)(hx:x<10^L)(Iw:x<18446744073709551616)(hr:h.get ir=some (.cells (yc Z f0) e true)):
  Call A.C (.func 268 [] []) [.slice ir o L cp 1,.int .u64 x] ⟨h,N,w⟩ (fun _ st=>FbR h N ir n2 Z o L x f0 e w st):=by
 rw[aP,A.k268 (by simp)];simp[A.b268];refine cB [(1,1),(4,11),(19,95)] (fun ex r st=>ex=.exit 0/\∃(i u:Nat) (f:Nat->V),i<8/\u<10^i/\r.get 1=some (.int .u64 u)/\Kv h N ir n2 Z o L x f0 e i u f r st) (fun i r st=>∃(u:Nat) (f:Nat->V),u<10^i/\u<18446744073709551616/\r.get 1=some (.int .u64 u)/\Kv h N ir n2 Z o L x f0 e i u f r st) L ?_ ?_ ?_
 ·refine⟨x,f0,hx,Iw,by simp,by simp,rfl,by simp[az],hr,fun t _=>rfl,⟨aN _,by simp,fun j h1 h2=>by omega,fun j _=>rfl⟩⟩
 ·rintro i r ⟨H,n1,W⟩ hr hf ⟨u,f,hu,KC,a1,J⟩;have hn:=J.n;simp only at hn;subst hn;have r0:r.get 0=some (.slice ir o L cp 1):=by rw[hr 0 (by decide)];simp
  by_cases h8:i<8
  ·have c8:¬(8:Int)<=(i:Int):=by omega
   have a4:=J.r4;rw[bG];simp[A.oX,hf,a4,c8];exact⟨i,h8,u,hu,by simp[a1],f,⟨by simp[a4],J.n,J.w,J.row,J.Ri,J.fmt⟩⟩
  obtain⟨k,rfl⟩:∃k,i=k+8:=⟨i-8,by omega⟩;refine Code.mono (Yta hZ hL gE hN hf r0 a1 KC J) ?_;rintro ex fr st ⟨rfl,r',f',rfl,IG,Vr,J'⟩;refine Zv6.2 ⟨IG,k,by omega,_,f',?_,by omega,Vr,J'⟩;rw[rV (by decide)];rw[mT]at hu;exact hu
 rintro ex r ⟨H,n1,W⟩ hr ⟨rfl,i,u,f,h8,hu,a1,J⟩;have hn:=J.n;simp only at hn;subst hn;have hu7:u<4294967296:=by have:10^i<=10^7:=rL (by decide) (by omega);omega
 have e1:=tw hu7;simp[a1,e1];refine qV (Yz5 (i:=i) (u:=u) (f:=f) (cp:=cp) (e:=e) (H:=H) (W:=W) hZ gE hN h8 hu (by simp;rw[hr 0 (by decide)];simp) (by simp) ⟨by simpa using J.r4,rfl,J.w,J.row,J.Ri,J.fmt⟩) ?_;rintro ex fr ⟨H2,jS,W2⟩ ⟨rfl,r',rfl,hn,hW,hO,hE⟩;simp only at hn;subst hn;simp[];exact⟨rfl,by rw[Pz (PA hW)],hO,hE⟩
variable {j o x:Nat}
def A.b244:=A.q Tryz.f244
def A.k244:=@A.kk 244 32 [.tmp 4] A.b244 (by kernel_rfl) rfl
def A.b265:=A.q Tryz.f265
def A.k265:=@A.kk 265 54 [.tmp 4] A.b265 (by kernel_rfl) rfl
def A.b239:=A.q Tryz.f239
def A.k239:=@A.kk 239 5 [.tmp 2] A.b239 (by kernel_rfl) rfl
def A.b215:=A.q Tryz.f215
def A.k215:=@A.kk 215 5 [.tmp 2] A.b215 (by kernel_rfl) rfl
def A.b217:=A.q Tryz.f217
def A.k217:=@A.kk 217 8 [.tmp 4] A.b217 (by kernel_rfl) rfl
def Ym9:∀{x:Nat},(j:Nat)->j<(dC x).length->(dC x)[j]?=some (dv (x/10^((dC x).length-1-j))):=by
 intro x;induction x using Nat.strongRecOn with
 |_ x ih=>
  intro j hj;by_cases h0:x=0
  ·subst h0;rw[vK]at hj;simp at hj
  have e:=zv h0;have hl:(dC x).length=(dC (x/10)).length+1:=by rw[e];simp
  rw[hl];rw[e];by_cases pY:j<(dC (x/10)).length
  ·rw[k_ pY,ih _ (Ez (by omega) (by decide)) j pY,Jf];congr 3;rw[show (dC (x/10)).length+1-1-j=((dC (x/10)).length-1-j)+1 by omega,iD,ki]
  have:j=(dC (x/10)).length:=by omega
  subst this;simp
def Zp2{L:Nat}(hL:L=(dC x).length)(hf:∀j,j<L->f (o+j)=vB (dv (x/10^(L-1-j)))):(List.range L).map (fun j=>f (o+j))=(dC x).map vB:=by
 apply pM;intro j;rw[eH,eH];by_cases hj:j<L
 ·rw[zD hj,Ym9 j (by omega),<-hL];simp[hf j hj]
 rw[gl (by simpa using hj),gl (by omega)];rfl
def Zsm{L:Nat}(h:o+L<=Z):aO (yc Z f) o L=some ((List.range L).map fun j=>f (o+j)):=by
 unfold aO;rw[CA,av h];congr 1;apply pM;intro j;rw[jZ,eH];by_cases hj:j<L
 ·rw[av hj,fU,Vo (by omega),zD hj];rfl
 rw[ak hj,gl (by simpa using hj)];rfl
def Vs:V->Option UInt8
 |.int .u8 n=>some (UInt8.ofNat n.toNat)
 |_=>none
def Rk(st:St):Option (List V)->Option (V×St)
 |some l=>match l.mapM Vs with
  |some s=>some (.str s,st)
  |none=>none
 |none=>none
def Vt(st:St)(o len:Nat):Option (List V×TypeId×Bool)->Option (V×St)
 |some (c,_,_)=>Rk st (aO c o len)
 |none=>none
def Yub(st:St):Option V->Option (V×St)
 |some .aa=>some (.str [],st)
 |some (.slice i o len _ 1)=>Vt st o len (st.row i)
 |_=>none
def Zhr{x:Src}{call:cQ}{st:St}:Jt x call r st=Yub st (x.ev r):=by unfold Jt Yub Vt Rk;rfl
def Zkr{st:St}{len:Nat}{c:Option Nat}:Yub st (some (.slice i o len c 1))=Vt st o len (st.row i):=rfl
def Zks{st:St}{len:Nat}{c:List V}{e:TypeId}{b:Bool}:Vt st o len (some (c,e,b))=Rk st (aO c o len):=rfl
def Zqb{st:St}:∀{s:aH},Rk st (some (s.map vB))=some (.str s,st):=by
 intro s;have:(s.map vB).mapM Vs=some s:=by
  induction s with
  |nil=>rfl
  |cons c s ih=>
   rw[pU,List.mapM_cons,ih];have:Vs (vB c)=some c:=by simp[Vs,vB,cZ]
   simp[this]
 simp only[Rk,this]
def Xaa:∀j:Nat,j<10->(List.take (j+1) Yik).drop j=[dv j]:=by decide+kernel
def Yxp:∀j:Nat,j<100->(List.take (2*j+2) uc).drop (2*j)=[dv (j/10),dv j]:=by decide+kernel
def Yd8:Yik.length=36:=by decide+kernel
def Yil:uc.length=200:=by decide+kernel
def Yir(h:j<10):aq j=[dv j]:=by
 unfold aq;split
 ·subst j;rfl
 rw[zv (by assumption),show j/10=0 by omega,vK];rfl
def Yd9(h:j<100)(h2:10<=j):aq j=[dv (j/10),dv j]:=by unfold aq;rw[ak (by omega),zv (by omega),zv (by omega),show j/10/10=0 by omega,vK];rfl
def Zzd(hj:j<100):Fn A.C 266 [.int .i64 j] h N (fun v h' N'=>h'=h/\N'=N/\v=.str (aq j)):=by
 intro w;rw[aP,A.k266 (by simp)];by_cases c:j<10
 ·have e1:=Xaa j c;have e2:(j:Int)+1<=36:=by omega
  have e3:((j:Int)+1).toNat=j+1:=by omega
  have e4:(j:Int)<10:=by omega
  have e5:(0:Int)<=(j:Int)+1:=by omega
  have e8:(j:Int)<=(j:Int)+1:=by omega
  simp(disch:=omega) [A.b266,e4,AO,aC,dX,nh,Yd8,e1,e2,e3,e5,e8,ay,Yir c];exact ab.refl
 have e1:=Yxp j hj;have e4:¬(j:Int)<10:=by omega
 have e2:(j:Int)*2+2<=200:=by omega
 have e3:((j:Int)*2+2).toNat=2*j+2:=by omega
 have e5:(0:Int)<=(j:Int)*2+2:=by omega
 have e6:(0:Int)<=(j:Int)*2:=by omega
 have e8:(j:Int)*2<=2*(j:Int)+2:=by omega
 have e7:((j:Int)*2).toNat=2*j:=by omega
 simp(disch:=omega) [A.b266,e4,AO,aC,dX,nh,Yil,e1,e2,e3,e5,e6,e7,e8,ay,Yd9 hj (xb.1 c)];exact ab.refl
def Yua:[V.int .u8 0,V.int .u8 0,V.int .u8 0,V.int .u8 0,V.int .u8 0,V.int .u8 0,V.int .u8 0,V.int .u8 0,V.int .u8 0,V.int .u8 0,V.int .u8 0,V.int .u8 0,V.int .u8 0,V.int .u8 0,V.int .u8 0,V.int .u8 0,V.int .u8 0,V.int .u8 0,V.int .u8 0,V.int .u8 0,V.int .u8 0,V.int .u8 0,V.int .u8 0,V.int .u8 0]=yc 24 (fun _=>.int .u8 0):=rfl
def Zr3(hx:x<18446744073709551616):(dC x).length<=20:=rI.1 (by omega)
def KD(h:x≠0):aq x=dC x:=by unfold aq;rw[ak h]
def Yz3(hx:x<18446744073709551616)(hp:iT h N):Fn A.C 244 [.int .u64 x,.int .i64 10] h N (fun v h' N'=>v=.str (aq x)):=by
 intro w;rw[aP,A.k244 (by simp)];by_cases c:x<100
 ·have c1:(x:Int)<100:=by omega
  have e1:bn .i64 (x:Int)=(x:Int):=cN (by omega) (by omega);simp[A.b244,c1,e1];refine au (Zzd c) ?_;rintro _ _ _ _ ⟨rfl,rfl,rfl⟩;simp[ay];exact ab.refl
 have c1:¬(x:Int)<100:=by omega
 simp[A.b244,c1,Yua];refine au (Yrw hx (by omega) (hp.ad (aQ ab.refl _))) ?_;rintro _ _ _ _ ⟨rfl,rfl,rfl⟩;have hl:=Zr3 hx;obtain⟨L,hL⟩:∃L,(dC x).length=L:=⟨_,rfl⟩;have Vu:x<10^L:=rI.2 (by omega);have e2:(L:Int)<=24:=by omega
 rw[hL];rw[hL]at hl;simp[BQ,aC,dX,nh,e2,CA];refine BV (Zye (n2:=N) (Z:=24) (o:=0) (x:=x) (f0:=fun _=>.int .u8 0) (e:=258) (by omega) (by omega) (aN N) (xx N) Vu hx (by rw[T.ag,av rfl])) ?_;rintro v ⟨H2,n2,W2⟩ ⟨hn,hW,hO,f,hr,hd,_⟩;simp only at hn hW hO hr;subst hn;have cv:=Zsm (f:=f) (show 0+L<=24 by omega);rw[Zp2 hL.symm hd]at cv;simp[BQ,aC,dX,nh,e2,CA,Zhr,Zkr,Zks,hr,cv,Zqb,ay];have FF:az N W2=[]:=hW;rw[FF,KD (by omega)];refine⟨rfl,⟨vY _,fun i hi=>?_⟩,rfl⟩;rw[hO i (by omega),T.ag,ak (by omega)]
def Yo1(hx:x<18446744073709551616)(hp:iT h N):Fn A.C 217 [.int .u64 x,.int .i64 10] h N (fun v h' N'=>v=.str (aq x)):=by intro w;rw[aP,A.k217 (by simp)];simp[A.b217];refine au (Yz3 hx hp) ?_;rintro _ _ _ k1 rfl;simp[ay];exact k1
def Yz4(h1: -9223372036854775808<=z)(h2:z<9223372036854775808)(hp:iT h N):Fn A.C 265 [.int .i64 z,.int .i64 10] h N (fun v h' N'=>v=.str (aM z)):=by
 intro w;rw[aP,A.k265 (by simp)];by_cases c:0<=z/\z<100
 ·obtain⟨j,rfl⟩:=Gx c.1;have c1:(j:Int)<100:=c.2;have hj:aM (j:Int)=aq j:=by unfold aM;rw[ak (by omega)];rfl
  simp[A.b265,c1];refine au (Zzd (by omega)) ?_;rintro _ _ _ _ ⟨rfl,rfl,rfl⟩;simp[ay,hj];exact ab.refl
 have hx:z.natAbs<18446744073709551616:=by omega
 have jP:z.natAbs≠0:=by omega
 obtain⟨x,hxe⟩:∃x,z.natAbs=x:=⟨_,rfl⟩;have hl:=Zr3 (hxe▸hx);obtain⟨L,hL⟩:∃L,(dC x).length=L:=⟨_,rfl⟩;have Vu:x<10^L:=rI.2 (by omega);have hL0:0<L:=by rw[<-hL];exact Zvt (by omega)
 rw[hL]at hl;have e2:(L:Int)+1<=24:=by omega
 have e3:(0:Int)<=(L:Int)+1:=by omega
 have e4:((L:Int)+1).toNat=L+1:=by omega
 have e5:(1:Int)<=(L:Int)+1:=by omega
 have e6:(1:Int)+(L:Int)=(L:Int)+1:=by omega
 by_cases hz:z<0
 ·have c2:¬0<=z:=by omega
  have w1:IntKind.wrap .u64 (-(bn .u64 z))=(x:Int):=by rw[M4,M5];omega
  simp[A.b265,c2,hz,Yua,w1];refine au (Yrw (x:=x) (by omega) (by omega) (hp.ad (aQ ab.refl _))) ?_;rintro _ _ _ _ ⟨rfl,rfl,rfl⟩;rw[hL];simp(disch:=omega) [BQ,aC,dX,nh,e2,e3,e4,e5,e6,CA];refine BV (Zye (n2:=N) (Z:=24) (o:=1) (x:=x) (f0:=fun _=>.int .u8 0) (e:=258) (by omega) (by omega) (aN N) (xx N) Vu (by omega) (by rw[T.ag,av rfl])) ?_;rintro v ⟨H2,n2,W2⟩ ⟨hn,hW,hO,f,hr,hd,_⟩;simp only at hn hW hO hr;subst hn;have FF:az N W2=[]:=hW;have cv:=Zsm (f:=nM f 0 (.int .u8 45)) (show 0+(L+1)<=24 by omega);have eY:(List.range (L+1)).map (fun j=>nM f 0 (.int .u8 45) (0+j))=(45::dC x).map vB:=by rw[List.range_succ_eq_map,pU,List.map_map,pU,<-Zp2 hL.symm hd];congr 1;apply Ax;intro j _;show nM f 0 _ (0+(j+1))=_;rw[nM,ak (by omega)];congr 1;omega
  rw[eY]at cv;have DQ:aM z=45::dC x:=by unfold aM;rw[av hz,hxe,KD (by omega)]
  obtain⟨S,hS⟩:∃S,45::dC x=S:=⟨_,rfl⟩;rw[hS]at cv DQ;simp(disch:=omega) [BQ,EE,aC,dX,nh,e2,e3,e4,e6,CA,Zhr,Zkr,Zks,hr,hz,Rh,cv,Zqb,ay,DQ,FF];refine⟨vY _,fun i hi=>?_⟩;rw[T.ag,ak (by omega),hO i (by omega),T.ag,ak (by omega)]
 have c2:0<=z:=by omega
 have c3:¬z<100:=by omega
 have w1:bn .u64 z=(x:Int):=by rw[HG (by omega) (by omega)];omega
 simp[A.b265,c2,c3,hz,Yua,w1];refine au (Yrw (x:=x) (by omega) (by omega) (hp.ad (aQ ab.refl _))) ?_;rintro _ _ _ _ ⟨rfl,rfl,rfl⟩;rw[hL];simp(disch:=omega) [BQ,aC,dX,nh,e2,e3,e4,e5,e6,CA];refine BV (Zye (n2:=N) (Z:=24) (o:=1) (x:=x) (f0:=fun _=>.int .u8 0) (e:=258) (by omega) (by omega) (aN N) (xx N) Vu (by omega) (by rw[T.ag,av rfl])) ?_;rintro v ⟨H2,n2,W2⟩ ⟨hn,hW,hO,f,hr,hd,_⟩;simp only at hn hW hO hr;subst hn;have FF:az N W2=[]:=hW;have cv:=Zsm (f:=f) (show 1+L<=24 by omega);rw[Zp2 hL.symm hd]at cv;have DQ:aM z=dC x:=by unfold aM;rw[ak hz,hxe,KD (by omega)]
 simp(disch:=omega) [BQ,aC,dX,nh,e2,e3,e4,e5,e6,CA,Zhr,Zkr,Zks,hr,hz,cv,Zqb,ay,DQ,FF];refine⟨vY _,fun i hi=>?_⟩;rw[hO i (by omega),T.ag,ak (by omega)]
def Ysw(h1: -9223372036854775808<=z)(h2:z<9223372036854775808)(hp:iT h N):Fn A.C 215 [.int .i64 z] h N (fun v h' N'=>v=.str (aM z)):=by
 intro w;rw[aP,A.k215 (by simp)];simp[A.b215];refine au (?_:Fn A.C 239 [.int .i64 z] h N (fun v h' N'=>v=.str (aM z))) ?_
 ·intro w;rw[aP,A.k239 (by simp)];simp[A.b239];refine au (Yz4 h1 h2 hp) ?_;rintro _ _ _ k1 rfl;simp[ay];exact k1
 rintro _ _ _ k1 rfl;simp[ay];exact k1
def Yf0:List UInt8:=List.replicate 128 32
def Yfz:List UInt8:=List.replicate 128 45
def Yoc:List UInt8:=List.replicate 128 61
def Yv2:List UInt8:=List.replicate 64 9
def KE:List UInt8:=List.replicate 64 48
def A.FG:ct:=.seq (sr [c1 111 247 9,mv 112 7,bi 113 .lss 111 112] (cd 113 (.skip) (.exit 3))) (.block 4 (sr [mv 114 7,c1 115 247 9,bi 116 .sub 114 115,c1 117 247 9,mv 118 8,ge 119 (.mn [tq 116,tq 117,tq 118]),mv 10 119] (.fV [c1 120 220 9,mv 121 10,ge 122 (.cG (tq 120) none (some (tq 121))),c2 123 219 9 122])))
def A.b218:ct:=sr [ge 4 (.pP (.const (.str [])))] (.seq (sr [mv 11 1] (.block 0 (sr [ei 13 11 0,mv 12 13] (cd 12 (sr [ge 4 (.pP (.const (.str [])))] (.ret)) (sr [ei 15 11 1,mv 14 15] (cd 14 (sr [mv 16 0,mv 4 16] (.ret)) (.skip))))))) (.seq (sr [mv 17 1,bc 18 .lss 17 0] (cd 18 (.fV [ge 19 (.jn 9 (.const (.str [115,116,114,105,110,103,115,58,32,110,101,103,97,116,105,118,101,32,82,101,112,101,97,116,32,99,111,117,110,116]))),gn (.stop)]) (.skip))) (sr [mv 21 0,ge 22 (.len 0 (tq 21)),ge 23 (.dG .u64 (tq 22)),mv 24 1,ge 25 (.dG .u64 (tq 24)),c2 26 245 23 25,mv 20 26,xt 27 20 0,xt 28 20 1,mv 5 27,mv 6 28] (.seq (sr [mv 29 5,ge 30 (.bin .gtr (.node []) false (tq 29) (.const (.int .u64 0))),mv 31 30,mh 32 6 31,gz 33 31 (.bin .gtr (.node []) false (tq 32) (.const (.int .u64 9223372036854775807))),pt 34 31 33] (cd 34 (.fV [ge 35 (.jn 9 (.const (.str [115,116,114,105,110,103,115,58,32,82,101,112,101,97,116,32,111,117,116,112,117,116,32,108,101,110,103,116,104,32,111,118,101,114,102,108,111,119]))),gn (.stop)]) (.skip))) (sr [mv 36 6,ge 37 (.dG .i64 (tq 36)),mv 7 37] (.seq (sr [mv 38 0,ge 39 (.len 0 (tq 38)),ei 40 39 0] (cd 40 (sr [ge 4 (.pP (.const (.str [])))] (.ret)) (.skip))) (.seq (sr [mv 41 0,ge 42 (.bQ (tq 41) (kq 0))] (.block 1 (.seq (sr [ge 44 (.bin .eql (.dJ .int) true (tq 42) (.const (.int .u8 32))),mv 43 44] (cd 43 (.skip) (sr [ge 45 (.bin .eql (.dJ .int) true (tq 42) (.const (.int .u8 45))),mv 43 45] (cd 43 (.skip) (sr [ge 46 (.bin .eql (.dJ .int) true (tq 42) (.const (.int .u8 48))),mv 43 46] (cd 43 (.skip) (sr [ge 47 (.bin .eql (.dJ .int) true (tq 42) (.const (.int .u8 61))),mv 43 47] (cd 43 (.skip) (.fV [ge 48 (.bin .eql (.dJ .int) true (tq 42) (.const (.int .u8 9))),mv 43 48]))))))))) (cd 43 (.block 2 (sr [mv 50 7,bc 51 .leq 50 128,mv 52 51,mg 53 0 52,gy 54 52 (.call (fq 209) [(.const (.str Yf0)),tq 53]),pf 55 52 54,mv 49 55] (cd 49 (sr [mv 56 7,ge 57 (.cG (.const (.str Yf0)) none (some (tq 56))),mv 4 57] (.ret)) (sr [mv 59 7,bc 60 .leq 59 128,mv 61 60,mg 62 0 61,gy 63 61 (.call (fq 209) [(.const (.str Yfz)),tq 62]),pf 64 61 63,mv 58 64] (cd 58 (sr [mv 65 7,ge 66 (.cG (.const (.str Yfz)) none (some (tq 65))),mv 4 66] (.ret)) (sr [mv 68 7,bc 69 .leq 68 64,mv 70 69,mg 71 0 70,gy 72 70 (.call (fq 209) [(.const (.str KE)),tq 71]),pf 73 70 72,mv 67 73] (cd 67 (sr [mv 74 7,ge 75 (.cG (.const (.str KE)) none (some (tq 74))),mv 4 75] (.ret)) (sr [mv 77 7,bc 78 .leq 77 128,mv 79 78,mg 80 0 79,gy 81 79 (.call (fq 209) [(.const (.str Yoc)),tq 80]),pf 82 79 81,mv 76 82] (cd 76 (sr [mv 83 7,ge 84 (.cG (.const (.str Yoc)) none (some (tq 83))),mv 4 84] (.ret)) (sr [mv 86 7,bc 87 .leq 86 64,mv 88 87,mg 89 0 88,gy 90 88 (.call (fq 209) [(.const (.str Yv2)),tq 89]),pf 91 88 90,mv 85 91] (cd 85 (sr [mv 92 7,ge 93 (.cG (.const (.str Yv2)) none (some (tq 92))),mv 4 93] (.ret)) (.skip)))))))))))) (.skip))))) (sr [mv 94 7,mv 8 94] (.seq (sr [mv 95 7,bc 96 .gtr 95 8192] (cd 96 (sr [mv 97 0,ge 98 (.len 0 (tq 97)),ge 99 (.bin .quo (.node []) false (kq 8192) (tq 98)),mv 100 0,ge 101 (.len 0 (tq 100)),bi 102 .mul 99 101,mv 8 102] (sr [mv 103 8,ei 104 103 0] (cd 104 (.fV [mv 105 0,ge 106 (.len 0 (tq 105)),mv 8 106]) (.skip)))) (.skip))) (sr [ge 9 (.alloc [.bP,.aa] 225)] (sr [mv 107 7,c2 108 246 9 107] (sr [mv 109 0,c2 110 219 9 109] (.seq (.block 3 (.loop A.FG)) (sr [c1 124 220 9,mv 4 124] (.ret)))))))))))))))
def A.k218:=@A.kk 218 125 [.tmp 4] A.b218 (by kernel_rfl) rfl
def A.b245:=A.q Tryz.f245
def A.k245:=@A.kk 245 30 [.tmp 4,.tmp 5] A.b245 (by kernel_rfl) rfl
def Yud(hx:x<18446744073709551616)(hy:y<18446744073709551616):Fn A.C 245 [.int .u64 x,.int .u64 y] h N (fun v' h' N'=>h'=h/\N'=N/\v'=.aU [.int .u64 (cC (x*y):Nat),.int .u64 (bC (x*y):Nat)]):=by intro w;rw[aP,A.k245 (by simp)];simp[A.b245];refine au (PC hx hy) ?_;rintro _ _ _ k1 ⟨rfl,rfl,rfl⟩;simp[ay];exact k1
def Yhu{a c:UInt8}{s:aH}{st:St}:A.C.call (.func 209 [] []) [.str (a::s),.str [c]] st=some (.bool (decide (a=c)),st):=by
 have e:(([a]:aH)==[c])=decide (a=c):=by rw[Bool.eq_iff_iff];simp
 have h1:(1:Int)<=(s.length:Int)+1:=by omega
 apply Call.eq;rw[aP,A.k209 (by simp)];have jD:∀st,A.C.call (.func 234 [] []) [.str (a::s),.str [c]] st=some (.bool (decide (a=c)),st):=fun st=>by apply Call.eq;rw[aP,A.k234 (by simp)];simp[A.b234,aC,dX,nh,AO,e,h1]
 simp[A.b209,jD]
def Xci{st:St}:A.C.call (.func 209 [] []) [.str Yf0,.str [48]] st=some (.bool false,st):=Yhu (a:=32) (s:=List.replicate 127 32)
def Xch{st:St}:A.C.call (.func 209 [] []) [.str Yfz,.str [48]] st=some (.bool false,st):=Yhu (a:=45) (s:=List.replicate 127 45)
def Xcg{st:St}:A.C.call (.func 209 [] []) [.str KE,.str [48]] st=some (.bool true,st):=Yhu (a:=48) (s:=List.replicate 63 48)
def Yce(h:k<=64):List.take k KE=List.replicate k 48:=by unfold KE;rw[List.take_replicate,rP h]
def Yfy:KE.length=64:=by simp[KE]
def Zuj(hk:k<=18):Fn A.C 218 [.str [48],.int .i64 k] h N (fun v h' N'=>v=.str (List.replicate k 48)):=by
 intro w;rw[aP,A.k218 (by simp)];by_cases c0:k=0
 ·subst c0;simp[A.b218,ay];exact ab.refl
 by_cases c1:k=1
 ·subst c1;simp[A.b218,ay];exact ab.refl
 have c3:¬(k:Int)=1:=by omega
 have e0:bn .u64 (1:Int)=((1:Nat):Int):=HG (by omega) (by omega);have e1:bn .u64 (k:Int)=(k:Int):=HG (by omega) (by omega);have c4:¬(k:Int)<0:=by omega
 simp[A.b218,c0,c3,c4,e0,e1];refine au (Yud (x:=1) (y:=k) (by omega) (by omega)) ?_;rintro _ _ _ _ ⟨rfl,rfl,rfl⟩;have g1:cC (1*k)=0:=by unfold cC;omega
 have g2:bC (1*k)=k:=by unfold bC;omega
 have g3:¬(9223372036854775807:Int)<(k:Int):=by omega
 have g4:bn .i64 (k:Int)=(k:Int):=cN (by omega) (by omega);have g7:cZ 48=48:=rfl;have g5:(k:Int)<=128:=by omega
 have g6:(k:Int)<=64:=by omega
 rw[g1,g2];simp(disch:=omega) [g3,g4,g5,g6,g7,Xci,Xch,Xcg,AO,aC,dX,nh,Yfy,Yce,ay];exact ab.refl
end
end Go.Mx
