/-strconv-/
import Derived.Test.YtjjmkflbfpeagaaGreatDoorNbK
set_option linter.all false
namespace Go.Mx
open Go Go.Proofs
variable {H h:T O} {N Z a i ir k n2 o u x:Nat} {W:List Nat} {cp:Option Nat} {r:T V}
set_option maxHeartbeats 4000000
set_option maxRecDepth 1000000
def pK:List UInt8:=[48,48,48,49,48,50,48,51,48,52,48,53,48,54,48,55,48,56,48,57,49,48,49,49,49,50,49,51,49,52,49,53,49,54,49,55,49,56,49,57,50,48,50,49,50,50,50,51,50,52,50,53,50,54,50,55,50,56,50,57,51,48,51,49,51,50,51,51,51,52,51,53,51,54,51,55,51,56,51,57,52,48,52,49,52,50,52,51,52,52,52,53,52,54,52,55,52,56,52,57,53,48,53,49,53,50,53,51,53,52,53,53,53,54,53,55,53,56,53,57,54,48,54,49,54,50,54,51,54,52,54,53,54,54,54,55,54,56,54,57,55,48,55,49,55,50,55,51,55,52,55,53,55,54,55,55,55,56,55,57,56,48,56,49,56,50,56,51,56,52,56,53,56,54,56,55,56,56,56,57,57,48,57,49,57,50,57,51,57,52,57,53,57,54,57,55,57,56,57,57]
def UU:List UInt8:=[48,49,50,51,52,53,54,55,56,57,97,98,99,100,101,102,103,104,105,106,107,108,109,110,111,112,113,114,115,116,117,118,119,120,121,122]
noncomputable def A.b287:=A.q Tryz.f287
def A.k287:=@A.kk 287 15 [.tmp 2] A.b287 (by kernel_rfl) rfl
noncomputable def A.b303:=A.q Tryz.f303
def A.k303:=@A.kk 303 6 [.tmp 2] A.b303 (by kernel_rfl) rfl
noncomputable def A.b304:=A.q Tryz.f304
def A.k304:=@A.kk 304 4 [.tmp 2] A.b304 (by kernel_rfl) rfl
def A.lK:cj:=.seq (sr [mv 19 4,bc 20 .geq 19 8]
 (cd 20
 (.skip)
 (.exit 0)))
 (.block 1 (sr [mv 21 1,ge 22 (.bin .rem (.node []) false (tq 21) (.const (.int .u64 100000000))),ge 23 (.cR .u32 (tq 22)),mv 5 23]
 (sr [mv 24 1,ge 25 (.bin .quo (.node []) false (tq 24) (.const (.int .u64 100000000))),mv 1 25]
 (sr [mv 26 5,ge 27 (.bin .quo (.node []) false (tq 26) (.const (.int .u32 10000))),mv 28 5,ge 29 (.bin .rem (.node []) false (tq 28) (.const (.int .u32 10000))),mv 6 27,mv 7 29]
 (sr [mv 30 7,ge 31 (.bin .quo (.node []) false (tq 30) (.const (.int .u32 100))),ge 32 (.bin .mul (.node []) false (tq 31) (.const (.int .u32 2))),mv 33 7,ge 34 (.bin .rem (.node []) false (tq 33) (.const (.int .u32 100))),ge 35 (.bin .mul (.node []) false (tq 34) (.const (.int .u32 2))),mv 8 32,mv 9 35]
 (sr [mv 36 6,ge 37 (.bin .quo (.node []) false (tq 36) (.const (.int .u32 100))),ge 38 (.bin .mul (.node []) false (tq 37) (.const (.int .u32 2))),mv 39 6,ge 40 (.bin .rem (.node []) false (tq 39) (.const (.int .u32 100))),ge 41 (.bin .mul (.node []) false (tq 40) (.const (.int .u32 2))),mv 10 38,mv 11 41]
 (.seq (.fy [mv 42 0,mv 43 4,bc 44 .sub 43 1,mv 45 0,mv 46 4,bc 47 .sub 46 2,mv 48 9,ge 49 (.bin .add (.node []) false (tq 48) (.const (.int .u32 1))),ge 50 (.bG (.const (.str pK)) (tq 49)),mv 51 9,ge 52 (.bG (.const (.str pK)) (tq 51)),ia 53 1 42 44,so 53 50,ia 54 1 45 47,so 54 52] [0,0,2,0,0,16,0,64,192,0,512,455,2503,8191,16383])
 (.seq (.fy [mv 55 0,mv 56 4,bc 57 .sub 56 3,mv 58 0,mv 59 4,bc 60 .sub 59 4,mv 61 8,ge 62 (.bin .add (.node []) false (tq 61) (.const (.int .u32 1))),ge 63 (.bG (.const (.str pK)) (tq 62)),mv 64 8,ge 65 (.bG (.const (.str pK)) (tq 64)),ia 66 1 55 57,so 66 63,ia 67 1 58 60,so 67 65] [0,0,2,0,0,16,0,64,192,0,512,455,2503,8191,16383])
 (.seq (.fy [mv 68 0,mv 69 4,bc 70 .sub 69 5,mv 71 0,mv 72 4,bc 73 .sub 72 6,mv 74 11,ge 75 (.bin .add (.node []) false (tq 74) (.const (.int .u32 1))),ge 76 (.bG (.const (.str pK)) (tq 75)),mv 77 11,ge 78 (.bG (.const (.str pK)) (tq 77)),ia 79 1 68 70,so 79 76,ia 80 1 71 73,so 80 78] [0,0,2,0,0,16,0,64,192,0,512,455,2503,8191,16383])
 (.seq (.fy [mv 81 0,mv 82 4,bc 83 .sub 82 7,mv 84 0,mv 85 4,bc 86 .sub 85 8,mv 87 10,ge 88 (.bin .add (.node []) false (tq 87) (.const (.int .u32 1))),ge 89 (.bG (.const (.str pK)) (tq 88)),mv 90 10,ge 91 (.bG (.const (.str pK)) (tq 90)),ia 92 1 81 83,so 92 89,ia 93 1 84 86,so 93 91] [0,0,2,0,0,16,0,64,192,0,512,455,2503,8191,16383])
 (.fL [mv 94 4,bc 95 .sub 94 8,mv 4 95])))))))))))
def A.lM:cj:=sr [mv 160 4,bc 161 .gtr 160 0]
 (cd 161
 (.fL [mv 162 0,mv 163 12,ge 164 (.bin .add (.node []) false (.const (.int .u32 48)) (tq 163)),ge 165 (.cR .u8 (tq 164)),ge 166 (.c_ 1 (tq 162) (kq 0)),so 166 165])
 (.skip))
def A.lO:cj:=.seq (sr [mv 138 4,bc 139 .geq 138 2]
 (cd 139
 (sr [mv 140 12,ge 141 (.bin .rem (.node []) false (tq 140) (.const (.int .u32 100))),ge 142 (.bin .mul (.node []) false (tq 141) (.const (.int .u32 2))),mv 16 142]
 (sr [mv 143 12,ge 144 (.bin .quo (.node []) false (tq 143) (.const (.int .u32 100))),mv 12 144]
 (.seq (.fy [mv 145 0,mv 146 4,bc 147 .sub 146 1,mv 148 0,mv 149 4,bc 150 .sub 149 2,mv 151 16,ge 152 (.bin .add (.node []) false (tq 151) (.const (.int .u32 1))),ge 153 (.bG (.const (.str pK)) (tq 152)),mv 154 16,ge 155 (.bG (.const (.str pK)) (tq 154)),ia 156 1 145 147,so 156 153,ia 157 1 148 150,so 157 155] [0,0,2,0,0,16,0,64,192,0,512,455,2503,8191,16383])
 (.fL [mv 158 4,bc 159 .sub 158 2,mv 4 159]))))
 (.skip)))
 A.lM
def A.lP:cj:=.seq (sr [mv 98 4,bc 99 .geq 98 4]
 (cd 99
 (sr [mv 100 12,ge 101 (.bin .rem (.node []) false (tq 100) (.const (.int .u32 10000))),mv 13 101]
 (sr [mv 102 12,ge 103 (.bin .quo (.node []) false (tq 102) (.const (.int .u32 10000))),mv 12 103]
 (sr [mv 104 13,ge 105 (.bin .quo (.node []) false (tq 104) (.const (.int .u32 100))),ge 106 (.bin .mul (.node []) false (tq 105) (.const (.int .u32 2))),mv 107 13,ge 108 (.bin .rem (.node []) false (tq 107) (.const (.int .u32 100))),ge 109 (.bin .mul (.node []) false (tq 108) (.const (.int .u32 2))),mv 14 106,mv 15 109]
 (.seq (.fy [mv 110 0,mv 111 4,bc 112 .sub 111 1,mv 113 0,mv 114 4,bc 115 .sub 114 2,mv 116 15,ge 117 (.bin .add (.node []) false (tq 116) (.const (.int .u32 1))),ge 118 (.bG (.const (.str pK)) (tq 117)),mv 119 15,ge 120 (.bG (.const (.str pK)) (tq 119)),ia 121 1 110 112,so 121 118,ia 122 1 113 115,so 122 120] [0,0,2,0,0,16,0,64,192,0,512,455,2503,8191,16383])
 (.seq (.fy [mv 123 0,mv 124 4,bc 125 .sub 124 3,mv 126 0,mv 127 4,bc 128 .sub 127 4,mv 129 14,ge 130 (.bin .add (.node []) false (tq 129) (.const (.int .u32 1))),ge 131 (.bG (.const (.str pK)) (tq 130)),mv 132 14,ge 133 (.bG (.const (.str pK)) (tq 132)),ia 134 1 123 125,so 134 131,ia 135 1 126 128,so 135 133] [0,0,2,0,0,16,0,64,192,0,512,455,2503,8191,16383])
 (.fL [mv 136 4,bc 137 .sub 136 4,mv 4 137]))))))
 (.skip)))
 A.lO
def A.b288:cj:=sr [mv 17 0,ln 18 17,mv 4 18]
 (.seq (.block 0 (.loop A.lK))
 (sr [mv 96 1,ge 97 (.cR .u32 (tq 96)),mv 12 97]
 A.lP))
def A.k288:=@A.kk 288 167 [] A.b288 (by kernel_rfl) rfl
def A.b286:cj:=sr [ge 2 (.mF (.const (.str [])))]
 (.seq (sr [mv 3 0,bc 4 .lss 3 10]
 (cd 4
 (sr [mv 5 0,mv 6 0,bc 7 .add 6 1,ge 8 (.cr (.const (.str UU)) (some (tq 5)) (some (tq 7))),mv 2 8]
 (.ret))
 (.skip)))
 (sr [mv 9 0,bc 10 .mul 9 2,mv 11 0,bc 12 .mul 11 2,bc 13 .add 12 2,ge 14 (.cr (.const (.str pK)) (some (tq 10)) (some (tq 13))),mv 2 14]
 (.ret)))
def A.k286:=@A.kk 286 15 [.tmp 2] A.b286 (by kernel_rfl) rfl
@[simp] def Yqo {a b:Nat}:a<b\/b<=a:=Nat.lt_or_ge a b
def Ho{n:Int}(h1:0<=n)(h2:n<4294967296):bb .u32 n=n:=by rw[xF];show n%4294967296=n;omega
def UW:List Nat:=[1,10,100,1000,10000,100000,1000000,10000000,100000000,1000000000,10000000000,100000000000,1000000000000,10000000000000,100000000000000,1000000000000000,10000000000000000,100000000000000000,1000000000000000000,10000000000000000000]
def jB(h:T O)(N:Nat):Prop:=5<N/\h.get 5=some A.J1
def jB.ae{h':T O}{N':Nat}(s:jB h N)(k:ad h N h' N'):jB h' N':=by
 exact⟨ic s.1 k.le,(k.get _ s.1).trans s.2⟩
def jB.ex(s:jB h N):5<N/\∃e rw,h.get 5=some (.cells (dg UW) e rw):=⟨s.1,_,_,s.2.trans rfl⟩
def Yfl:∀j:Nat,j<20->UW[j]?=some (10^j):=by decide+kernel
def Yj2{j:Nat}(h:j<20):(dg UW)[j]?=some (.int .u64 ((10^j:Nat):Int)):=eY (Yfl j h)
def Yh2:∀b:Nat,b<65->0<b->10^(b*78913/262144)<=10*2^(b-1)/\2^b<=10^(b*78913/262144+1)/\b*78913/262144<20:=by decide+kernel
def Ypy{b:Nat}(hb:b<65)(hk:b*78913/262144=k){h:T O}{N:Nat}:Fn A.C 303 [.int .i64 b] h N (fun v h' N'=>h'=h/\N'=N/\v=.int .i64 (k:Nat)):=by
 intro w
 rw[aQ,A.k303 (by simp)]
 have e1:bb .i64 ((b:Int)*78913)=(b:Int)*78913:=cb (by omega) (by omega)
 have e2:wD .shr .i64 ((b:Int)*78913) 18=some (.int .i64 ((b:Int)*78913/262144)):=by
  unfold wD
  rw[aq (by omega)]
  show some (V.int .i64 (Int.fdiv _ 262144))=_
  rw[Int.fdiv_eq_ediv_of_nonneg _ (by omega)]
 have e3:(b:Int)*78913/262144=k:=by omega
 simp[A.b303,e1,e2,e3,aA]
 exact ad.refl
def Yqg{b:Bool}:Fn A.C 304 [.bool b] h N (fun v h' N'=>h'=h/\N'=N/\v=.int .i64 (if b=true then 1 else 0)):=by
 intro w
 rw[aQ,A.k304 (by simp)]
 cases b
 ·simp[A.b304,aA]
  exact ad.refl
 ·simp[A.b304,aA]
  exact ad.refl
def Zp4(hx:0<x)(hb:aV x<65):(if 10^(aV x*78913/262144)<=x then 1 else 0)+aV x*78913/262144=(cZ x).length:=by
 have oR:x≠0:=by omega
 have h1:=OC x
 have h2:=Hj oR
 have h0:0<aV x:=by unfold aV;rw[aq oR];omega
 obtain⟨g1,g2,g3⟩:=Yh2 _ hb h0
 generalize hk:aV x*78913/262144=k at*
 have u1:(cZ x).length<=k+1:=nO.1 (by omega)
 by_cases c:10^k<=x
 ·rw[aJ c]
  have:¬(cZ x).length<=k:=fun hc=>by have:=nO.2 hc;omega
  omega
 ·rw[aq c]
  have u2:(cZ x).length<=k:=nO.1 (by omega)
  cases k with
  |zero=>omega
  |succ j=>
   have:¬(cZ x).length<=j:=fun hc=>by
    have:=nO.2 hc
    rw[fv]at g1
    omega
   omega
def UX(hx:x<18446744073709551616)(h0:0<x){h:T O}{N:Nat}(hp:jB h N):Fn A.C 287 [.int .u64 x] h N (fun v h' N'=>h'=h/\N'=N/\v=.int .i64 ((cZ x).length:Nat)):=by
 intro w
 have hb:aV x<65:=by
  apply qZ
  intro hc
  have h2:=Hj (show x≠0 by omega)
  have:2^64<=2^(aV x-1):=nY (by decide) (by omega)
  omega
 rw[aQ,A.k287 (by simp)]
 simp[A.b287]
 refine au (UH hx) ?_
 rintro _ _ _ _ ⟨rfl,rfl,rfl⟩
 simp[]
 refine au (Ypy hb rfl) ?_
 rintro _ _ _ _ ⟨rfl,rfl,rfl⟩
 have py:0<aV x:=by unfold aV;rw[aq (by omega)];omega
 have hl:=Zp4 h0 hb
 have g3:=(Yh2 _ hb py).2.2
 generalize aV x*78913/262144=k at*
 obtain⟨q1,e,rw,q2⟩:=hp.ex
 have q3:=Yj2 g3
 have g4:(k:Int)<20:=by omega
 simp[Aw,g4,q2,q3]
 refine au Yqg ?_
 rintro _ _ _ _ ⟨rfl,rfl,rfl⟩
 simp(disch:=omega) [aA]
 refine⟨ad.refl,?_⟩
 rw[<-hl]
 have cc:((10:Int)^k<=(x:Int))↔10^k<=x:=by exact_mod_cast Iff.rfl
 by_cases c:10^k<=x
 ·rw[aJ (cc.2 c),aJ c];omega
 ·rw[aq (fun hc=>c (cc.1 hc)),aq c];omega
def tv(N:Nat)(f:Nat->V):List V:=(List.range N).map f
def yw(N:Nat)(f:Nat->V):(tv N f).length=N:=by simp[tv]
def OL{j:Nat}{f:Nat->V}(h:j<N):(tv N f)[j]?=some (f j):=by simp[tv,h]
def ka(f:Nat->V)(k:Nat)(v:V):Nat->V:=fun j=>if j=k then v else f j
def Zsz{f:Nat->V}{v:V}(h:k<N):ag (tv N f) k [v]=tv N (ka f k v):=by
 apply nX
 intro j
 rw[GW (by rw[yw];simp;omega)]
 by_cases hj:k<=j/\j<k+[v].length
 ·rw[aJ hj]
  simp at hj
  have:j=k:=by omega
  subst this
  rw[OL h]
  simp[ka]
 ·rw[aq hj]
  simp at hj
  by_cases hN:j<N
  ·rw[OL hN,OL hN,ka,aq (by omega)]
  ·rw[jC (by rw[yw];omega),jC (by rw[yw];omega)]
def KO{w:List Nat}{p:Nat}{f:Nat->V}{e:TypeId}{k:IntKind}{n:Int}(hp:p<Z):
  bS 1 ⟨h,N,w⟩ i p (.int k n) (some (.cells (tv Z f) e true))=some (.aY [],⟨h.set i (.cells (tv Z (ka f p (.int k n))) e true),N,i::w⟩):=by
 rw[Zli (by rfl) (by rw[yw];omega) (by rfl)]
 show some (_,St.mk (h.set i (.cells (ag (tv Z f) p [.int k n]) e true)) _ _)=_
 rw[Zsz hp]
def vB(c:UInt8):V:=.int .u8 (cJ c)
def Fh:∀p:Nat,p<100->pK[2*p+1]?=some (cW p):=by decide+kernel
def Fi:∀p:Nat,p<100->pK[2*p]?=some (cW (p/10)):=by decide+kernel
def uT{b:Nat}(h:a%10=b%10):cW a=cW b:=by unfold cW;rw[h]
structure nD (Z o L x i u:Nat) (f0 f:Nat->V):Prop where
 le:i<=L
 u:u=x/10^(L-i)
 UY:∀j,i<=j->j<L->f (o+j)=vB (cW (x/10^(L-1-j)))
 out:∀j,j<o\/o+L<=j->f j=f0 j
def nD.one{L:Nat}{f0 f:Nat->V}(s:nD Z o L x (i+1) u f0 f){c:UInt8}(hc:c=cW u):nD Z o L x i (u/10) f0 (ka f (o+i) (vB c)):=by
 subst hc
 have hle:=s.le
 refine⟨by omega,?_,fun j h1 h2=>?_,fun j hj=>?_⟩
 ·rw[s.u,Dq,<-fv]
  congr 2;omega
 ·by_cases hj:j=i
  ·subst hj
   rw[ka,aJ rfl,s.u]
   congr 4
   omega
  ·rw[ka,aq (by omega)]
   exact s.UY j (by omega) h2
 ·rw[ka,aq (by omega)]
  exact s.out j hj
def nD.two{L:Nat}{f0 f:Nat->V}(s:nD Z o L x (i+2) u f0 f){c d:UInt8}(hc:c=cW u)(hd:d=cW (u/10)):nD Z o L x i (u/100) f0 (ka (ka f (o+(i+1)) (vB c)) (o+i) (vB d)):=by
 have:=(nD.one (i:=i+1) s hc).one hd
 rw[Dq]at this
 exact this
structure Fj (h:T O) (N ir n2 Z o L x:Nat) (f0:Nat->V) (e:TypeId) (i u:Nat) (f:Nat->V) (r:T V) (st:St):Prop where
 r4:r.get 4=some (.int .i64 i)
 n:st.n=N
 w:aB n2 st.w=[]
 row:st.h.get ir=some (.cells (tv Z f) e true)
 KP:∀t,t≠ir->st.h.get t=h.get t
 fmt:nD Z o L x i u f0 f
def nD.eight{L:Nat}{f0 f:Nat->V}(s:nD Z o L x (i+8) u f0 f):nD Z o L x i (u/100000000) f0
  (ka (ka (ka (ka (ka (ka (ka (ka f (o+(i+7)) (vB (cW (u%100000000%10000%100)))) (o+(i+6)) (vB (cW (u%100000000%10000%100/10)))) (o+(i+5)) (vB (cW (u%100000000%10000/100)))) (o+(i+4)) (vB (cW (u%100000000%10000/100/10))))
     (o+(i+3)) (vB (cW (u%100000000/10000%100)))) (o+(i+2)) (vB (cW (u%100000000/10000%100/10)))) (o+(i+1)) (vB (cW (u%100000000/10000/100)))) (o+i) (vB (cW (u%100000000/10000/100/10)))):=by
 have s1:=nD.two (i:=i+6) s (c:=cW (u%100000000%10000%100)) (d:=cW (u%100000000%10000%100/10)) (uT (by omega)) (uT (by omega))
 have s2:=nD.two (i:=i+4) s1 (c:=cW (u%100000000%10000/100)) (d:=cW (u%100000000%10000/100/10)) (uT (by omega)) (uT (by omega))
 have s3:=nD.two (i:=i+2) s2 (c:=cW (u%100000000/10000%100)) (d:=cW (u%100000000/10000%100/10)) (uT (by omega)) (uT (by omega))
 have s4:=nD.two (i:=i) s3 (c:=cW (u%100000000/10000/100)) (d:=cW (u%100000000/10000/100/10)) (uT (by omega)) (uT (by omega))
 rw[show u/100/100/100/100=u/100000000 by omega]at s4
 exact s4
def tm8:(a:Int).tmod 100000000=((a%100000000:Nat):Int):=Int.ofNat_tmod a 100000000 |>.symm
def tm4:(a:Int).tmod 10000=((a%10000:Nat):Int):=Int.ofNat_tmod a 10000 |>.symm
def ON:(a:Int).tmod 100=((a%100:Nat):Int):=Int.ofNat_tmod a 100 |>.symm
def Yq0(h:a<18446744073709551616):bb .u64 ((a:Int)/100000000)=((a/100000000:Nat):Int):=by
 rw[Co (by omega) (by omega)];omega
def Yql(h:a<4294967296):bb .u32 ((a:Int)/10000)=((a/10000:Nat):Int):=by
 rw[Ho (by omega) (by omega)];omega
def OO(h:a<4294967296):bb .u32 ((a:Int)/100)=((a/100:Nat):Int):=by
 rw[Ho (by omega) (by omega)];omega
def tw(h:a<4294967296):bb .u32 (a:Int)=(a:Int):=Ho (by omega) (by omega)
def Fk(h:a<100):bb .u32 ((a:Int)*2)=((2*a:Nat):Int):=by rw[Ho (by omega) (by omega)];omega
def Fl(h:a<100):bb .u32 (((2*a:Nat):Int)+1)=((2*a+1:Nat):Int):=by rw[Ho (by omega) (by omega)];omega
def Yld{L:Nat}{f0 f:Nat->V}{e:TypeId}(hT:o+L<=Z)(hL:L<100)(eZ:n2<=ir)(hN:ir<N){rr:T V}(hf:Fx [(1,1),(4,11),(19,95)] rr 167 ⟨r,167,[]⟩)(r0:r.get 0=some (.slice ir o L cp 1))(a1:r.get 1=some (.int .u64 u))(ub:u<18446744073709551616)(s:Fj h N ir n2 Z o L x f0 e (k+8) u f r ⟨H,N,W⟩):
  Code A.C none A.lK ⟨r,167,[]⟩ ⟨H,N,W⟩ (fun ex fr st=>ex=.normal/\∃r' f',fr=⟨r',167,[]⟩/\Fx [(1,1),(4,11),(19,95)] rr 167 ⟨r',167,[]⟩/\r'.get 1=some (.int .u64 (u/100000000:Nat))/\Fj h N ir n2 Z o L x f0 e k (u/100000000) f' r' st):=by
 rw[cm]
 obtain⟨a4,_,aw,jr,ao,af⟩:=s
 simp only at aw jr ao
 have hle:=af.le
 have v8:=af.eight
 obtain⟨us,sX⟩:∃y,u%100000000=y:=⟨_,rfl⟩
 obtain⟨uq,Ct⟩:∃y,u/100000000=y:=⟨_,rfl⟩
 have t1:=tm8 (a:=u)
 have t2:=Yq0 (a:=u) ub
 rw[sX]at t1 v8
 rw[Ct]at t2 v8
 have us0:us<100000000:=by omega
 have t3:=tw (a:=us) (by omega)
 obtain⟨hi,il⟩:∃y,us/10000=y:=⟨_,rfl⟩
 obtain⟨lo,fA⟩:∃y,us%10000=y:=⟨_,rfl⟩
 have t4:=Yql (a:=us) (by omega)
 have t5:=tm4 (a:=us)
 rw[il]at t4 v8
 rw[fA]at t5 v8
 have t6:=OO (a:=hi) (by omega)
 have t7:=ON (a:=hi)
 have t8:=OO (a:=lo) (by omega)
 have t9:=ON (a:=lo)
 obtain⟨p1,yv⟩:∃y,hi/100=y:=⟨_,rfl⟩
 obtain⟨p2,wk⟩:∃y,hi%100=y:=⟨_,rfl⟩
 obtain⟨p3,hp3⟩:∃y,lo/100=y:=⟨_,rfl⟩
 obtain⟨p4,hp4⟩:∃y,lo%100=y:=⟨_,rfl⟩
 rw[yv]at t6 v8
 rw[wk]at t7 v8
 rw[hp3]at t8 v8
 rw[hp4]at t9 v8
 have b1:p1<100:=by omega
 have m1:=Fk b1
 have yx:=Fl b1
 have d1:=Fh _ b1
 have g1:=Fi _ b1
 obtain⟨y1,qf⟩:∃y,2*p1+1=y:=⟨_,rfl⟩
 rw[qf]at yx d1
 obtain⟨z1,yd⟩:∃y,2*p1=y:=⟨_,rfl⟩
 rw[yd]at m1 yx g1
 have b2:p2<100:=by omega
 have m2:=Fk b2
 have Fm:=Fl b2
 have d2:=Fh _ b2
 have g2:=Fi _ b2
 obtain⟨y2,uH⟩:∃y,2*p2+1=y:=⟨_,rfl⟩
 rw[uH]at Fm d2
 obtain⟨z2,fm⟩:∃y,2*p2=y:=⟨_,rfl⟩
 rw[fm]at m2 Fm g2
 have b3:p3<100:=by omega
 have m3:=Fk b3
 have UZ:=Fl b3
 have d3:=Fh _ b3
 have g3:=Fi _ b3
 obtain⟨y3,hy3⟩:∃y,2*p3+1=y:=⟨_,rfl⟩
 rw[hy3]at UZ d3
 obtain⟨z3,u_⟩:∃y,2*p3=y:=⟨_,rfl⟩
 rw[u_]at m3 UZ g3
 have b4:p4<100:=by omega
 have m4:=Fk b4
 have U0:=Fl b4
 have d4:=Fh _ b4
 have g4:=Fi _ b4
 obtain⟨y4,hy4⟩:∃y,2*p4+1=y:=⟨_,rfl⟩
 rw[hy4]at U0 d4
 obtain⟨z4,uc⟩:∃y,2*p4=y:=⟨_,rfl⟩
 rw[uc]at m4 U0 g4
 have e1:(k:Int)+8-1=(k:Int)+7:=by omega
 have e2:(k:Int)+8-2=(k:Int)+6:=by omega
 have e3:(k:Int)+8-3=(k:Int)+5:=by omega
 have e4:(k:Int)+8-4=(k:Int)+4:=by omega
 have e5:(k:Int)+8-5=(k:Int)+3:=by omega
 have e6:(k:Int)+8-6=(k:Int)+2:=by omega
 have e7:(k:Int)+8-7=(k:Int)+1:=by omega
 have e8:(k:Int)+8-8=(k:Int):=by omega
 have f1:((k:Int)+7).toNat=k+7:=by omega
 have f2:((k:Int)+6).toNat=k+6:=by omega
 have f3:((k:Int)+5).toNat=k+5:=by omega
 have f4:((k:Int)+4).toNat=k+4:=by omega
 have f5:((k:Int)+3).toNat=k+3:=by omega
 have f6:((k:Int)+2).toNat=k+2:=by omega
 have f7:((k:Int)+1).toNat=k+1:=by omega
 have c8:(8:Int)<=(k:Int)+8:=by omega
 have tm:¬N<=ir:=by omega
 have ir0:∀t,(T.set H ir t).get ir=some t:=fun t=>by rw[T.ai,aJ rfl]
 simp(disch:=first|(simp;done)|omega|(simp only[bn,bW,bf];omega)|rfl) [A.lK,hf,r0,a1,a4,c8,jr,hN,tm,cD.cG,KO,t1,t2,t3,t4,t5,t6,t7,t8,t9,m1,m2,m3,m4,yx,Fm,UZ,U0,d1,d2,d3,d4,g1,g2,g3,g4,e1,e2,e3,e4,e5,e6,e7,e8,f1,f2,f3,f4,f5,f6,f7]
 subst Ct
 refine⟨by omega,_,⟨by simp,rfl,by simpa[aB,vz.2 eZ]using aw,by simp only[T.ai,aJ];rfl,fun t ht=>by simp only[T.ai,aq ht];exact ao t ht,v8⟩⟩
structure U1 (h:T O) (N ir n2 Z o L x:Nat) (f0:Nat->V) (e:TypeId) (st:St):Prop where
 n:st.n=N
 w:aB n2 st.w=[]
 KP:∀t,t≠ir->st.h.get t=h.get t
 ex:∃f,st.h.get ir=some (.cells (tv Z f) e true)/\(∀j,j<L->f (o+j)=vB (cW (x/10^(L-1-j))))/\∀j,j<o\/o+L<=j->f j=f0 j
def Ymq(h:u<10):V.int .u8 (48+(u:Int))=vB (cW u):=by
 unfold vB cJ
 rw[En]
 congr 1;omega
def Yn0{L:Nat}{f0 f:Nat->V}{e:TypeId}(hZ:o+L<=Z)(eZ:n2<=ir)(hN:ir<N)(hi:i<2)(hu:u<10^i)(r0:r.get 0=some (.slice ir o L cp 1))(zS:r.get 12=some (.int .u32 u))(s:Fj h N ir n2 Z o L x f0 e i u f r ⟨H,N,W⟩):
  Code A.C none A.lM ⟨r,167,[]⟩ ⟨H,N,W⟩ (fun ex fr st=>ex=.normal/\∃r',fr=⟨r',167,[]⟩/\U1 h N ir n2 Z o L x f0 e st):=by
 rw[cm]
 obtain⟨a4,_,aw,jr,ao,af⟩:=s
 simp only at aw jr ao
 have hle:=af.le
 obtain rfl|rfl:i=0\/i=1:=by omega
 ·simp[A.lM,a4]
  exact⟨rfl,aw,ao,f,jr,fun j hj=>af.UY j (tN _) hj,af.out⟩
 ·have mR:u<10:=by omega
  have e1:bb .u32 (48+(u:Int))=48+(u:Int):=Ho (by omega) (by omega)
  have e2:bb .u8 (48+(u:Int))=48+(u:Int):=zN (by omega) (by omega)
  have hL:(0:Int)<(L:Int):=by omega
  simp(disch:=omega) [A.lM,r0,a4,zS,e1,e2,jr,KO]
  have v:=nD.one (i:=0) af (c:=cW u) rfl
  rw[<-Ymq mR,ri]at v
  exact⟨rfl,by simpa[aB,vz.2 eZ]using aw,fun t ht=>by rw[T.ai,aq ht];exact ao t ht,_,by rw[T.ai,aJ rfl],fun j hj=>v.UY j (tN _) hj,v.out⟩
def Ynz{L:Nat}{f0 f:Nat->V}{e:TypeId}(hZ:o+L<=Z)(eZ:n2<=ir)(hN:ir<N)(hi:i<4)(hu:u<10^i)(r0:r.get 0=some (.slice ir o L cp 1))(zS:r.get 12=some (.int .u32 u))(s:Fj h N ir n2 Z o L x f0 e i u f r ⟨H,N,W⟩):
  Code A.C none A.lO ⟨r,167,[]⟩ ⟨H,N,W⟩ (fun ex fr st=>ex=.normal/\∃r',fr=⟨r',167,[]⟩/\U1 h N ir n2 Z o L x f0 e st):=by
 rw[cm]
 have s0:=s
 obtain⟨a4,_,aw,jr,ao,af⟩:=s
 simp only at aw jr ao
 have hle:=af.le
 by_cases hc:i<2
 ·have c1:¬(2:Int)<=(i:Int):=by omega
  simp[A.lO,a4,c1]
  refine nP (Yn0 (i:=i) (u:=u) (f:=f) (cp:=cp) hZ eZ hN hc hu (by simp[r0]) (by simp[zS]) ⟨by simp[a4],rfl,aw,jr,ao,af⟩) ?_
  rintro ex fr st ⟨rfl,r',rfl,hE⟩
  simp
  exact hE
 ·obtain⟨k,rfl⟩:∃k,i=k+2:=⟨i-2,by omega⟩
  have KQ:u<10000:=by
   have:10^(k+2)<=10^4:=nY (by decide) (by omega)
   omega
  have c1:(2:Int)<=(k:Int)+2:=by omega
  have tm:¬N<=ir:=by omega
  have t6:=OO (a:=u) (by omega)
  have t7:=ON (a:=u)
  have v:=nD.two (i:=k) af (c:=cW (u%100)) (d:=cW (u%100/10)) (uT (by omega)) (uT (by omega))
  have eX:u/100<10^k:=by
   rw[oh (by decide)]
   rw[gL]at hu
   exact hu
  obtain⟨uq,Ct⟩:∃y,u/100=y:=⟨_,rfl⟩
  obtain⟨p1,yv⟩:∃y,u%100=y:=⟨_,rfl⟩
  rw[Ct]at t6 v eX
  rw[yv]at t7 v
  have b1:p1<100:=by omega
  have m1:=Fk b1
  have yx:=Fl b1
  have d1:=Fh _ b1
  have g1:=Fi _ b1
  obtain⟨y1,qf⟩:∃y,2*p1+1=y:=⟨_,rfl⟩
  rw[qf]at yx d1
  obtain⟨z1,yd⟩:∃y,2*p1=y:=⟨_,rfl⟩
  rw[yd]at m1 yx g1
  have e1:(k:Int)+2-1=(k:Int)+1:=by omega
  have e2:(k:Int)+2-2=(k:Int):=by omega
  have f1:((k:Int)+1).toNat=k+1:=by omega
  have hI:∀t n,(((H.set ir t).set ir n):T O).get ir=some n:=fun t n=>by rw[T.ai,aJ rfl]
  simp(disch:=first|(simp;done)|omega|(simp only[bn,bW,bf];omega)|rfl) [A.lO,r0,a4,zS,c1,jr,hN,tm,cD.cG,KO,t6,t7,m1,yx,d1,g1,e1,e2,f1]
  refine nP (Yn0 (i:=k) (u:=uq) (cp:=cp) (e:=e) hZ eZ hN (by omega) eX (by simp[r0]) (by simp) ⟨by simp,rfl,by simpa[aB,vz.2 eZ]using aw,by simp only[T.ai,aJ];rfl,fun t ht=>by simp only[T.ai,aq ht];exact ao t ht,v⟩) ?_
  rintro ex fr st ⟨rfl,r',rfl,hE⟩
  simp
  exact hE
def nD.four{T L:Nat}{f0 f:Nat->V}(s:nD T o L x (i+4) u f0 f):nD T o L x i (u/10000) f0
  (ka (ka (ka (ka f (o+(i+3)) (vB (cW (u%10000%100)))) (o+(i+2)) (vB (cW (u%10000%100/10)))) (o+(i+1)) (vB (cW (u%10000/100)))) (o+i) (vB (cW (u%10000/100/10)))):=by
 have s1:=nD.two (i:=i+2) s (c:=cW (u%10000%100)) (d:=cW (u%10000%100/10)) (uT (by omega)) (uT (by omega))
 have s2:=nD.two (i:=i) s1 (c:=cW (u%10000/100)) (d:=cW (u%10000/100/10)) (uT (by omega)) (uT (by omega))
 rw[show u/100/100=u/10000 by omega]at s2
 exact s2
def Yp8{L:Nat}{f0 f:Nat->V}{e:TypeId}(hZ:o+L<=Z)(eZ:n2<=ir)(hN:ir<N)(hi:i<8)(hu:u<10^i)(r0:r.get 0=some (.slice ir o L cp 1))(zS:r.get 12=some (.int .u32 u))(s:Fj h N ir n2 Z o L x f0 e i u f r ⟨H,N,W⟩):
  Code A.C none A.lP ⟨r,167,[]⟩ ⟨H,N,W⟩ (fun ex fr st=>ex=.normal/\∃r',fr=⟨r',167,[]⟩/\U1 h N ir n2 Z o L x f0 e st):=by
 rw[cm]
 obtain⟨a4,_,aw,jr,ao,af⟩:=s
 simp only at aw jr ao
 have hle:=af.le
 by_cases hc:i<4
 ·have c1:¬(4:Int)<=(i:Int):=by omega
  simp[A.lP,a4,c1]
  refine nP (Ynz (i:=i) (u:=u) (f:=f) (cp:=cp) hZ eZ hN hc hu (by simp[r0]) (by simp[zS]) ⟨by simp[a4],rfl,aw,jr,ao,af⟩) ?_
  rintro ex fr st ⟨rfl,r',rfl,hE⟩
  simp
  exact hE
 ·obtain⟨k,rfl⟩:∃k,i=k+4:=⟨i-4,by omega⟩
  have KQ:u<100000000:=by
   have:10^(k+4)<=10^8:=nY (by decide) (by omega)
   omega
  have c1:(4:Int)<=(k:Int)+4:=by omega
  have tm:¬N<=ir:=by omega
  have t4:=Yql (a:=u) (by omega)
  have t5:=tm4 (a:=u)
  have v:=af.four
  have eX:u/10000<10^k:=by
   rw[oh (by decide)]
   rw[gL]at hu
   exact hu
  obtain⟨uq,Ct⟩:∃y,u/10000=y:=⟨_,rfl⟩
  obtain⟨lo,fA⟩:∃y,u%10000=y:=⟨_,rfl⟩
  rw[Ct]at t4 v eX
  rw[fA]at t5 v
  have t6:=OO (a:=lo) (by omega)
  have t7:=ON (a:=lo)
  obtain⟨p1,yv⟩:∃y,lo/100=y:=⟨_,rfl⟩
  obtain⟨p2,wk⟩:∃y,lo%100=y:=⟨_,rfl⟩
  rw[yv]at t6 v
  rw[wk]at t7 v
  have b1:p1<100:=by omega
  have m1:=Fk b1
  have yx:=Fl b1
  have d1:=Fh _ b1
  have g1:=Fi _ b1
  obtain⟨y1,qf⟩:∃y,2*p1+1=y:=⟨_,rfl⟩
  rw[qf]at yx d1
  obtain⟨z1,yd⟩:∃y,2*p1=y:=⟨_,rfl⟩
  rw[yd]at m1 yx g1
  have b2:p2<100:=by omega
  have m2:=Fk b2
  have Fm:=Fl b2
  have d2:=Fh _ b2
  have g2:=Fi _ b2
  obtain⟨y2,uH⟩:∃y,2*p2+1=y:=⟨_,rfl⟩
  rw[uH]at Fm d2
  obtain⟨z2,fm⟩:∃y,2*p2=y:=⟨_,rfl⟩
  rw[fm]at m2 Fm g2
  have e1:(k:Int)+4-1=(k:Int)+3:=by omega
  have e2:(k:Int)+4-2=(k:Int)+2:=by omega
  have e3:(k:Int)+4-3=(k:Int)+1:=by omega
  have e4:(k:Int)+4-4=(k:Int):=by omega
  have f1:((k:Int)+3).toNat=k+3:=by omega
  have f2:((k:Int)+2).toNat=k+2:=by omega
  have f3:((k:Int)+1).toNat=k+1:=by omega
  simp(disch:=first|(simp;done)|omega|(simp only[bn,bW,bf];omega)|rfl) [A.lP,r0,a4,zS,c1,jr,hN,tm,KO,t4,t5,t6,t7,m1,yx,d1,g1,m2,Fm,d2,g2,e1,e2,e3,e4,f1,f2,f3]
  refine nP (Ynz (i:=k) (u:=uq) (cp:=cp) (e:=e) hZ eZ hN (by omega) eX (by simp[r0]) (by simp) ⟨by simp,rfl,by simpa[aB,vz.2 eZ]using aw,by simp only[T.ai,aJ];rfl,fun t ht=>by simp only[T.ai,aq ht];exact ao t ht,v⟩) ?_
  rintro ex fr st ⟨rfl,r',rfl,hE⟩
  simp
  exact hE
def Code.mono{C:Cx}{ro:Option Nat}{c:cj}{fr:Fr}{st:St}{P Q:Ex->Fr->St->Prop}(h:Code C ro c fr st P)(k:∀e fr st,P e fr st->Q e fr st):Code C ro c fr st Q:=by
 rw[cm]
 refine nP h ?_
 intro e fr st hp
 simp
 exact k _ _ _ hp
structure FbR (h:T O) (N ir n2 Z o L x:Nat) (f0:Nat->V) (e:TypeId) (w:List Nat) (st:St):Prop where
 n:st.n=N
 w:aB n2 st.w=aB n2 w
 KP:∀t,t≠ir->st.h.get t=h.get t
 ex:∃f,st.h.get ir=some (.cells (tv Z f) e true)/\(∀j,j<L->f (o+j)=vB (cW (x/10^(L-1-j))))/\∀j,j<o\/o+L<=j->f j=f0 j
def U4{L:Nat}{f0:Nat->V}{e:TypeId}{w:List Nat}(hZ:o+L<=Z)(hL:L<100)(eZ:n2<=ir)(hN:ir<N)(hx:x<10^L)(hx6:x<18446744073709551616)(hr:h.get ir=some (.cells (tv Z f0) e true)):
  Call A.C (.func 288 [] []) [.slice ir o L cp 1,.int .u64 x] ⟨h,N,w⟩ (fun _ st=>FbR h N ir n2 Z o L x f0 e w st):=by
 rw[aQ,A.k288 (by simp)]
 simp[A.b288]
 refine cX [(1,1),(4,11),(19,95)] (fun ex r st=>ex=.exit 0/\∃(i u:Nat) (f:Nat->V),i<8/\u<10^i/\r.get 1=some (.int .u64 u)/\Fj h N ir n2 Z o L x f0 e i u f r st) (fun i r st=>∃(u:Nat) (f:Nat->V),u<10^i/\u<18446744073709551616/\r.get 1=some (.int .u64 u)/\Fj h N ir n2 Z o L x f0 e i u f r st) L ?_ ?_ ?_
 ·refine⟨x,f0,hx,hx6,by simp,by simp,rfl,by simp[aB],hr,fun t _=>rfl,⟨aR _,by simp,fun j h1 h2=>by omega,fun j _=>rfl⟩⟩
 ·rintro i r ⟨H,n1,W⟩ hr hf ⟨u,f,hu,Fo,a1,J⟩
  have hn:=J.n
  simp only at hn
  subst hn
  have r0:r.get 0=some (.slice ir o L cp 1):=by rw[hr 0 (by decide)];simp
  by_cases h8:i<8
  ·have c8:¬(8:Int)<=(i:Int):=by omega
   have a4:=J.r4
   rw[cm]
   simp[A.lK,hf,a4,c8]
   exact⟨i,h8,u,hu,by simp[a1],f,⟨by simp[a4],J.n,J.w,J.row,J.KP,J.fmt⟩⟩
  ·obtain⟨k,rfl⟩:∃k,i=k+8:=⟨i-8,by omega⟩
   refine Code.mono (Yld hZ hL eZ hN hf r0 a1 Fo J) ?_
   rintro ex fr st ⟨rfl,r',f',rfl,C2,a1',J'⟩
   refine Zsn.2 ⟨C2,k,by omega,_,f',?_,by omega,a1',J'⟩
   rw[oh (by decide)]
   rw[gL]at hu
   exact hu
 ·rintro ex r ⟨H,n1,W⟩ hr ⟨rfl,i,u,f,h8,hu,a1,J⟩
  have hn:=J.n
  simp only at hn
  subst hn
  have hu7:u<4294967296:=by
   have:10^i<=10^7:=nY (by decide) (by omega)
   omega
  have e1:=tw hu7
  simp[a1,e1]
  refine nP (Yp8 (i:=i) (u:=u) (f:=f) (cp:=cp) (e:=e) (H:=H) (W:=W) hZ eZ hN h8 hu (by simp;rw[hr 0 (by decide)];simp) (by simp) ⟨by simpa using J.r4,rfl,J.w,J.row,J.KP,J.fmt⟩) ?_
  rintro ex fr ⟨H2,mw,W2⟩ ⟨rfl,r',rfl,hn,hW,hO,hE⟩
  simp only at hn
  subst hn
  simp[]
  exact⟨rfl,by rw[Kd (Ke hW)],hO,hE⟩
end Go.Mx
