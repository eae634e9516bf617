/-lensletref01-/
import Derived.Test.YtkfkpkejgchcpaaGreatDoorRcC
set_option linter.all false
namespace Go.Mx
open Go Go.Proofs
set_option maxRecDepth 1000000
def A.lb148_0:Zah:=.seq (sr [mv 148 20,mv 149 10,bi 150 .lss 148 149]
 (cd 150
 (.skip)
 (.exit 6)))
 (.seq (.block 7 (.seq (.regD [mv 153 11,mv 154 20,mv 155 13,bi 156 .add 154 155,ia 157 1 153 156,ld 158 157,mv 159 9,mv 160 20,ia 161 1 159 160,ld 162 161,bi 163 .add 158 162,mv 164 19,bi 165 .add 163 164,mv 21 165] [0,0,0,6,15,31,0,0,192,448,1023,0,4095,8191])
 (sr [mv 166 11,mv 167 20,mv 168 13,bi 169 .add 167 168,mv 170 21,bc 171 .rem 170 1000000000,ia 172 1 166 169,so 172 171]
 (.reg [mv 173 21,bc 174 .quo 173 1000000000,mv 19 174]))))
 (.reg [mv 151 20,bc 152 .add 151 1,mv 20 152]))
def A.lb148_1:Zah:=.seq (sr [mv 90 16,mv 91 10,bi 92 .lss 90 91]
 (cd 92
 (.skip)
 (.exit 4)))
 (.seq (.block 5 (sr [mv 95 14,mv 96 9,mv 97 16,ia 98 1 96 97,ld 99 98,bi 100 .mul 95 99,mv 101 15,bi 102 .add 100 101,mv 17 102]
 (sr [mv 103 11,mv 104 16,mv 105 13,bi 106 .add 104 105,ia 107 1 103 106,ld 108 107,mv 109 17,bc 110 .rem 109 1000000000,bi 111 .sub 108 110,mv 18 111]
 (sr [mv 112 17,bc 113 .quo 112 1000000000,mv 15 113]
 (.seq (sr [mv 114 18,bc 115 .lss 114 0]
 (cd 115
 (sr [mv 116 18,bc 117 .add 116 1000000000,mv 18 117]
 (.reg [mv 118 15,bc 119 .add 118 1,mv 15 119]))
 (.skip)))
 (.reg [mv 120 11,mv 121 16,mv 122 13,bi 123 .add 121 122,mv 124 18,ia 125 1 120 123,so 125 124]))))))
 (.reg [mv 93 16,bc 94 .add 93 1,mv 16 94]))
def A.lb148_2:Zah:=.seq (sr [mv 82 13,bc 83 .geq 82 0]
 (cd 83
 (.skip)
 (.exit 2)))
 (.seq (.block 3 (sr [mv 86 11,mv 87 9,mv 88 13,ge 89 (.call (fq 202) [tq 86,tq 87,tq 88]),mv 14 89]
 (sr [mc 15 0]
 (.seq (sr [mc 16 0]
 (.block 4 (.loop A.lb148_1)))
 (sr [mv 126 11,mv 127 13,mv 128 10,bi 129 .add 127 128,mv 130 11,mv 131 13,mv 132 10,bi 133 .add 131 132,ia 134 1 130 133,ld 135 134,mv 136 15,bi 137 .sub 135 136,ia 138 1 126 129,so 138 137]
 (.seq (sr [mv 139 11,mv 140 13,mv 141 10,bi 142 .add 140 141,ia 143 1 139 142,ld 144 143,bc 145 .lss 144 0]
 (cd 145
 (sr [mv 146 14,bc 147 .sub 146 1,mv 14 147]
 (sr [mc 19 0]
 (.seq (sr [mc 20 0]
 (.block 6 (.loop A.lb148_0)))
 (.reg [mv 175 11,mv 176 13,mv 177 10,bi 178 .add 176 177,mv 179 11,mv 180 13,mv 181 10,bi 182 .add 180 181,ia 183 1 179 182,ld 184 183,mv 185 19,bi 186 .add 184 185,ia 187 1 175 178,so 187 186]))))
 (.skip)))
 (.reg [mv 188 12,mv 189 13,mv 190 14,ia 191 1 188 189,so 191 190])))))))
 (.reg [mv 84 13,bc 85 .sub 84 1,mv 13 85]))
def A.lb148_3:Zah:=.seq (sr [mv 63 11,ln 64 63,mv 65 0,ln 66 65,bc 67 .add 66 1,bi 68 .lss 64 67]
 (cd 68
 (.skip)
 (.exit 0)))
 (.block 1 (.reg [mv 69 11,ge 70 (.bslice 3 1 1 [.int .i64 0] [(0,1,(kq 0))]),ge 71 (.append 1 8 3 [.int .i64 0] (tq 69) (tq 70)),mv 11 71]))
def A.b148:Zah:=sr [mN 4,mN 5]
 (.seq (sr [mv 24 0,mv 25 1,c2 26 198 24 25,bc 27 .lss 26 0]
 (cd 27
 (sr [mv 28 0,mN 4,mv 5 28]
 (.ret))
 (.skip)))
 (.seq (sr [mv 29 1,ln 30 29,ei 31 30 1]
 (cd 31
 (sr [mv 33 0,mv 34 1,ge 35 (.iaddrSl 1 (tq 34) (kq 0)),ld 36 35,c2 37 199 33 36,mv 32 37,xt 38 32 0,xt 39 32 1,mv 6 38,mv 7 39]
 (sr [mv 40 6,mv 41 7,ge 42 (.bslice 3 1 1 [.int .i64 0] [(0,1,(tq 41))]),c1 43 200 42,mv 4 40,mv 5 43]
 (.ret)))
 (.skip)))
 (sr [mv 44 1,mv 45 1,ln 46 45,bc 47 .sub 46 1,ia 48 1 44 47,ld 49 48,bc 50 .add 49 1,ge 51 (.bin .quo (.node []) false (kq 1000000000) (tq 50)),ge 52 (.bslice 3 1 1 [.int .i64 0] [(0,1,(tq 51))]),mv 8 52]
 (sr [mv 53 1,mv 54 8,c2 55 201 53 54,mv 9 55]
 (sr [mv 56 9,ln 57 56,mv 10 57]
 (sr [ge 58 (.bslice 3 1 0 [] []),mv 59 0,mv 60 8,c2 61 201 59 60,ge 62 (.append 1 8 3 [.int .i64 0] (tq 58) (tq 61)),mv 11 62]
 (.seq (.block 0 (.loop A.lb148_3))
 (sr [mv 72 11,ln 73 72,mv 74 10,bi 75 .sub 73 74,ge 76 (.mkslice 3 1 8 [.int .i64 0] (tq 75) (tq 75)),mv 12 76]
 (.seq (sr [mv 77 11,ln 78 77,mv 79 10,bi 80 .sub 78 79,bc 81 .sub 80 1,mv 13 81]
 (.block 2 (.loop A.lb148_2)))
 (.seq (.regD [mv 193 11,mv 194 10,ge 195 (.sliceSl 1 (tq 193) none (some (tq 194)) none),c1 196 200 195,mv 197 8,ge 198 (.iaddrSl 1 (tq 197) (kq 0)),ld 199 198,c2 200 199 196 199,mv 192 200,xt 201 192 0,xt 202 192 1,mv 22 201,mv 23 202] [0,0,3,7,0,16,48,127,255,511,511,1023,4095])
 (sr [mv 203 12,c1 204 200 203,mv 205 22,mv 4 204,mv 5 205]
 (.ret))))))))))))
def A.k148:=@A.kk 148 206 [.tmp 4,.tmp 5] A.b148 (by kernel_rfl) rfl
structure DvS (N:Nat) (h2:T O) (n2 iu iq n:Nat) (U Q:List Int) (st:St):Prop where
 w:Zad N st.w=[]
 keep:Keeps h2 n2 st.h n
 n:st.n=n
 ru:st.h.get iu=some (.cells (dI U) 3 true)
 rq:st.h.get iq=some (.cells (dI Q) 3 true)
structure DvR (r0:T V) (v:V) (iu lu L j:Nat):Prop where
 r9:r0.get 9=some v
 r10:r0.get 10=some (.int .i64 L)
 r11:r0.get 11=some (.slice iu 0 lu none 1)
 r13:r0.get 13=some (.int .i64 j)
structure SbR (N:Nat) (h2:T O) (n2 iu iq n:Nat) (U Q Y:List Int) (L j:Nat) (t:Int) (m:Nat) (r:T V) (st:St):Prop where
 ex:∃i U' c,i+m=L∧r.get 16=some (.int .i64 i)∧r.get 15=some (.int .i64 c)∧0≤c∧c≤1000000000∧DvS N h2 n2 iu iq n U' Q st∧U'.length=U.length∧(∀s,(s<j∨j+i≤s)→U'[s]?=U[s]?)∧Di U'∧vI U'-pI (j+i)*c=vI U-pI j*(t*vI (Y.take i))
def Yem{N:Nat}{h2:T O}{n2 iu iq n:Nat}{U Q Y:List Int}{L j:Nat}{t:Int}{v:V}{r0:T V}(hv:Sl h2 n2 v (dI Y))(hY:Y.length=L)(dY:Di Y)(hjl:j+L<U.length)(hul:U.length<1099511627776)(R:DvR r0 v iu U.length L j)(r14:r0.get 14=some (.int .i64 t))(t0:0≤t)(t1:t≤1000000000)(a1:N≤n2)(a2:n2≤iu)(a3:iu<iq)(a4:iq<n):
  ∀k r st,(∀t,inD [(15,18),(90,125)] t=false→r.get t=r0.get t)→Fx [(15,18),(90,125)] r0 206 ⟨r,206,[]⟩→SbR N h2 n2 iu iq n U Q Y L j t k r st→Code A.C none A.lb148_1 ⟨r,206,[]⟩ st (Rd [(15,18),(90,125)] r0 206 (SbR N h2 n2 iu iq n U Q Y L j t) k (fun e r st=>e=.exit 4∧SbR N h2 n2 iu iq n U Q Y L j t 0 r st)):=by
 rintro m r ⟨H,n1,W⟩ hr hf ⟨i,U',c,hi,h16,h15,c0,c1,⟨hW,hK,hn,ru,rq⟩,hul',hsame,hdi,hval⟩
 simp only at hW hK hn ru rq
 subst hn
 obtain⟨r9,r10,r11,r13⟩:=R
 rw[Zaj]
 cases m with
 |zero=>
  have:i=L:=by omega
  subst this
  simp[A.lb148_1,hr,hf,h16,r10]
  exact⟨i,U',c,by omega,by simp[h16],by simp[h15],c0,c1,⟨hW,hK,rfl,ru,rq⟩,hul',hsame,hdi,hval⟩
 |succ m=>
  obtain⟨y,hy⟩:=Zag (l:=Y) (k:=i) (by omega)
  have lv:=hv.len
  rw[Zat,hY]at lv
  obtain⟨b1,b2,b3,b4,b5,z1,z2,z3,z4⟩:=hv.at (Zbe hy)
  have z3:=(hK.get _ z2).trans z3
  have hyd:=dY.get hy
  obtain⟨o,ho⟩:=Zag (l:=U') (k:=i+j) (by omega)
  have hod:=hdi.get ho
  have hi1:(i:Int)<(L:Int):=by omega
  have hi2:i<L:=by omega
  have p0:0≤t*y:=Ytz t0 hyd.1
  have p1:t*y≤1000000000*999999999:=Int.mul_le_mul t1 (by omega) hyd.1 (by omega)
  have q1:(i:Int)+(j:Int)<(U.length:Int):=by omega
  have q2:i+j<U.length:=by omega
  have q3:(0:Int)≤(i:Int)+(j:Int):=by omega
  have nn:¬iu<N:=by omega
  have w8:=Zat U'
  have hsu:=Zi4 ho
  have hty:=Zba hy
  have hp:=Zvi i j
  have hps:=Zc5 (j+i)
  generalize hP:t*y=P at*
  have b1':Zap .i64 P=P:=Zak (by omega) (by omega)
  have b2':Zap .i64 (P+c)=P+c:=Zak (by omega) (by omega)
  have t1':(P+c).tmod 1000000000=(P+c)%1000000000:=Ytx (by omega)
  have t2':(P+c).tdiv 1000000000=(P+c)/1000000000:=Ytk (by omega)
  have hm:=Yui (P+c) 1000000000
  have e0:=Yu8 (P+c) (b:=1000000000) (by decide)
  have e1:=Yus (P+c) (b:=1000000000) (by decide)
  have key:∀(x' c':Int),x'-1000000000*c'=o-(P+c)→vI (U'.set (i+j) x')-pI (j+(i+1))*c'=vI U-pI j*(t*vI (Y.take (i+1))):=by
   intro x' c' hx
   rw[hsu,hty,show j+(i+1)=j+i+1 by omega,hps,show i+j=j+i by omega]
   have h3:vI U'=vI U-pI j*(t*vI (Y.take i))+pI (j+i)*c:=by omega
   have h4:x'=o-(P+c)+1000000000*c':=by omega
   rw[h3,h4,show j+i=i+j by omega,hp,←hP]
   grind
  have same:∀(x':Int) (s:Nat),(s<j∨j+(i+1)≤s)→(U'.set (i+j) x')[s]?=U[s]?:=by
   intro x' s hs
   rw[Ysb (by omega)]
   exact hsame s (by omega)
  generalize (P+c)/1000000000=D at*
  generalize (P+c)%1000000000=M at*
  have b3':Zap .i64 D=D:=Zak (by omega) (by omega)
  have b4':Zap .i64 (o-M)=o-M:=Zak (by omega) (by omega)
  have d4:b1<n1:=by have:=hK.le;omega
  have d5:¬iq=iu:=by omega
  by_cases hneg:o-M<0
  ·have b5':Zap .i64 (o-M+1000000000)=o-M+1000000000:=Zak (by omega) (by omega)
   have b6':Zap .i64 (D+1)=D+1:=Zak (by omega) (by omega)
   have w7:=Zh5 (l:=U') (k:=i+j) (v:=o-M+1000000000) (by omega)
   simp(disch:=first|(simp;done)|omega|rfl) [-getElem?_pos,A.lb148_1,hr,hf,h16,h15,r9,r10,r11,r13,r14,hi1,hi2,lv,q1,q2,q3,ru,Zbe ho,z1,z2,z3,z4,hP,b1',b2',b3',b4',b5',b6',t1',t2',hneg,w7]
   refine⟨m,by omega,⟨i+1,U'.set (i+j) (o-M+1000000000),D+1,by omega,by simp,by simp,by omega,by omega,⟨by simp[Zad,hW,nn],hK.set (by omega),rfl,by simp,by simp[d5,rq]⟩,by simp[hul'],same _,hdi.set (by omega) (by omega),key _ _ (by omega)⟩⟩
  ·have w7:=Zh5 (l:=U') (k:=i+j) (v:=o-M) (by omega)
   simp(disch:=first|(simp;done)|omega|rfl) [-getElem?_pos,A.lb148_1,hr,hf,h16,h15,r9,r10,r11,r13,r14,hi1,hi2,lv,q1,q2,q3,ru,Zbe ho,z1,z2,z3,z4,hP,b1',b2',b3',b4',t1',t2',hneg,w7]
   refine⟨m,by omega,⟨i+1,U'.set (i+j) (o-M),D,by omega,by simp,by simp,by omega,by omega,⟨by simp[Zad,hW,nn],hK.set (by omega),rfl,by simp,by simp[d5,rq]⟩,by simp[hul'],same _,hdi.set (by omega) (by omega),key _ _ (by omega)⟩⟩
structure AbR (N:Nat) (h2:T O) (n2 iu iq n:Nat) (U Q Y:List Int) (L j:Nat) (m:Nat) (r:T V) (st:St):Prop where
 ex:∃i U' c,i+m=L∧r.get 20=some (.int .i64 i)∧r.get 19=some (.int .i64 c)∧0≤c∧c≤1∧DvS N h2 n2 iu iq n U' Q st∧U'.length=U.length∧(∀s,(s<j∨j+i≤s)→U'[s]?=U[s]?)∧(∀(s:Nat) (d:Int),s≠j+L→U'[s]?=some d→0≤d∧d<1000000000)∧vI U'+pI (j+i)*c=vI U+pI j*vI (Y.take i)
def Yhj{N:Nat}{h2:T O}{n2 iu iq n:Nat}{U Q Y:List Int}{L j:Nat}{v:V}{r0:T V}(hv:Sl h2 n2 v (dI Y))(hY:Y.length=L)(dY:Di Y)(hjl:j+L<U.length)(hul:U.length<1099511627776)(R:DvR r0 v iu U.length L j)(a1:N≤n2)(a2:n2≤iu)(a3:iu<iq)(a4:iq<n):
  ∀k r st,(∀t,inD [(19,21),(148,174)] t=false→r.get t=r0.get t)→Fx [(19,21),(148,174)] r0 206 ⟨r,206,[]⟩→AbR N h2 n2 iu iq n U Q Y L j k r st→Code A.C none A.lb148_0 ⟨r,206,[]⟩ st (Rd [(19,21),(148,174)] r0 206 (AbR N h2 n2 iu iq n U Q Y L j) k (fun e r st=>e=.exit 6∧AbR N h2 n2 iu iq n U Q Y L j 0 r st)):=by
 rintro m r ⟨H,n1,W⟩ hr hf ⟨i,U',c,hi,h20,h19,c0,c1,⟨hW,hK,hn,ru,rq⟩,hul',hsame,hdi,hval⟩
 simp only at hW hK hn ru rq
 subst hn
 obtain⟨r9,r10,r11,r13⟩:=R
 rw[Zaj]
 cases m with
 |zero=>
  have:i=L:=by omega
  subst this
  simp[A.lb148_0,hr,hf,h20,r10]
  exact⟨i,U',c,by omega,by simp[h20],by simp[h19],c0,c1,⟨hW,hK,rfl,ru,rq⟩,hul',hsame,hdi,hval⟩
 |succ m=>
  obtain⟨y,hy⟩:=Zag (l:=Y) (k:=i) (by omega)
  have lv:=hv.len
  rw[Zat,hY]at lv
  obtain⟨b1,b2,b3,b4,b5,z1,z2,z3,z4⟩:=hv.at (Zbe hy)
  have z3:=(hK.get _ z2).trans z3
  have hyd:=dY.get hy
  obtain⟨o,ho⟩:=Zag (l:=U') (k:=i+j) (by omega)
  have hod:=hdi _ _ (by omega) ho
  have hi1:(i:Int)<(L:Int):=by omega
  have hi2:i<L:=by omega
  have q1:(i:Int)+(j:Int)<(U.length:Int):=by omega
  have q2:i+j<U.length:=by omega
  have q3:(0:Int)≤(i:Int)+(j:Int):=by omega
  have nn:¬iu<N:=by omega
  have w8:=Zat U'
  have hsu:=Zi4 ho
  have hty:=Zba hy
  have hp:=Zvi i j
  have hps:=Zc5 (j+i)
  have b1':Zap .i64 (o+y)=o+y:=Zak (by omega) (by omega)
  have b2':Zap .i64 (o+y+c)=o+y+c:=Zak (by omega) (by omega)
  have t1':(o+y+c).tmod 1000000000=(o+y+c)%1000000000:=Ytx (by omega)
  have t2':(o+y+c).tdiv 1000000000=(o+y+c)/1000000000:=Ytk (by omega)
  have hm:=Yui (o+y+c) 1000000000
  have e0:=Yu8 (o+y+c) (b:=1000000000) (by decide)
  have e1:=Yus (o+y+c) (b:=1000000000) (by decide)
  have w7:=Zh5 (l:=U') (k:=i+j) (v:=(o+y+c)%1000000000) (by omega)
  have d4:b1<n1:=by have:=hK.le;omega
  have d5:¬iq=iu:=by omega
  have d6:iu<n1:=by omega
  have b3':Zap .i64 ((o+y+c)/1000000000)=(o+y+c)/1000000000:=Zak (by omega) (by omega)
  simp(disch:=first|(simp;done)|omega|rfl) [-getElem?_pos,A.lb148_0,hr,hf,h20,h19,r9,r10,r11,r13,hi1,hi2,lv,q1,q2,q3,ru,Zbe ho,z1,z2,z3,z4,b1',b2',b3',t1',t2',w7,d4,d6]
  generalize (o+y+c)/1000000000=D at*
  generalize (o+y+c)%1000000000=M at*
  refine⟨m,by omega,⟨i+1,U'.set (i+j) M,D,by omega,by simp,by simp,by omega,by omega,⟨by simp[Zad,hW,nn],hK.set (by omega),rfl,by simp,by simp[d5,rq]⟩,by simp[hul'],fun s hs=>?_,fun s d hs hd=>?_,?_⟩⟩
  ·rw[Ysb (by omega)]
   exact hsame s (by omega)
  ·by_cases hsi:s=i+j
   ·subst hsi
    rw[Ys7 (by omega)]at hd
    simp at hd
    omega
   ·rw[Ysb (fun h=>hsi h.symm)]at hd
    exact hdi s d hs hd
  ·rw[hsu,hty,show j+(i+1)=j+i+1 by omega,hps,show i+j=j+i by omega]
   have h3:vI U'=vI U+pI j*vI (Y.take i)-pI (j+i)*c:=by omega
   have h4:M=o+y+c-1000000000*D:=by omega
   rw[h3,h4,show j+i=i+j by omega,hp]
   grind
def Yko{l:List Int}{d:Int}(h:d∈l):∃s:Nat,l[s]?=some d:=Yuk h
def Ynx{l:List Int}(h:∀(s:Nat) (d:Int),l[s]?=some d→0≤d∧d<1000000000):Di l:=fun d hd=>by
 obtain⟨s,hs⟩:=Yko hd
 exact h s d hs
def Zv7{U U2:List Int}{j:Nat}{X:Int}(hj:j≤U.length)(hl:U2.length=U.length)(hs:∀s,s<j→U2[s]?=U[s]?)(hv:vI U2=vI U-pI j*X):vI (U2.drop j)=vI (U.drop j)-X:=by
 have h1:=Zi3 U j hj
 have h2:=Zi3 U2 j (by omega)
 have h3:U2.take j=U.take j:=by
  apply Ys1
  intro s
  rw[Yso,Yso]
  by_cases h:s<j
  ·rw[Yr6 h,Yr6 h];exact hs s h
  ·rw[Yr3 h,Yr3 h]
 rw[h3]at h2
 have h4:pI j*vI (U2.drop j)=pI j*(vI (U.drop j)-X):=by
  have:pI j*(vI (U.drop j)-X)=pI j*vI (U.drop j)-pI j*X:=by grind
  omega
 exact Int.eq_of_mul_eq_mul_left (Int.ne_of_gt (Zjm j)) h4
def Yhq{U:List Int}{j L:Nat}{tt:Int}(hd:∀(s:Nat) (d:Int),s<j+L→U[s]?=some d→0≤d∧d<1000000000)(ht:U[j+L]?=some tt)(hz:∀s,j+L<s→s<U.length→U[s]?=some 0)(hlt:vI (U.drop j)<pI L):(0≤vI (U.drop j)→tt=0)∧(vI (U.drop j)<0→tt<0):=by
 refine Yei (w:=U.drop j) (n:=L) ?_ (by rw[Ysc];exact ht) ?_ hlt
 ·refine Ynx fun s d hs=>?_
  by_cases h:s<L
  ·rw[Yso,Yr6 h,Ysc]at hs
   exact hd (j+s) d (by omega) hs
  ·rw[Yso,Yr3 h]at hs;cases hs
 ·intro s h1 h2
  rw[Ysc]
  exact hz (j+s) (by omega) (by simp at h2;omega)
structure OuI (N:Nat) (h2:T O) (n2 iu iq n lu L:Nat) (A0:Int) (Y:List Int) (m:Nat) (r:T V) (st:St):Prop where
 ex:∃U Q,DvS N h2 n2 iu iq n U Q st∧r.get 13=some (.int .i64 ((m:Int)-1))∧U.length=lu∧Q.length=lu-L∧m≤lu-L∧Di U∧Di Q∧(∀s,m+L≤s→s<lu→U[s]?=some 0)∧vI (U.drop m)<vI Y∧(∀s,s<m→Q[s]?=some 0)∧vI U+vI Y*vI Q=A0
def Yfh{N:Nat}{h2:T O}{n2 iu iq n lu k:Nat}{A0 v1:Int}{Y:List Int}{v:V}{r0:T V}(hv:Sl h2 n2 v (dI Y))(hY:Y.length=k+2)(dY:Di Y)(hv1:Y[k+1]?=some v1)(h5:500000000≤v1)(hlu:k+2<lu)(hul:lu<1099511627776)(r9:r0.get 9=some v)(r10:r0.get 10=some (.int .i64 (k+2:Nat)))(r11:r0.get 11=some (.slice iu 0 lu none 1))(r12:r0.get 12=some (.slice iq 0 (lu-(k+2)) (some (lu-(k+2))) 1))(a1:N≤n2)(a2:n2≤iu)(a3:iu<iq)(a4:iq<n):
  ∀m r st,(∀t,inD [(13,21),(82,191)] t=false→r.get t=r0.get t)→Fx [(13,21),(82,191)] r0 206 ⟨r,206,[]⟩→OuI N h2 n2 iu iq n lu (k+2) A0 Y m r st→Code A.C none A.lb148_2 ⟨r,206,[]⟩ st (Rd [(13,21),(82,191)] r0 206 (OuI N h2 n2 iu iq n lu (k+2) A0 Y) m (fun e r st=>e=.exit 2∧OuI N h2 n2 iu iq n lu (k+2) A0 Y 0 r st)):=by
 rintro m r ⟨H,n1,W⟩ hr hf ⟨U,Q,⟨hW,hK,hn,ru,rq⟩,r13,hul',hql,hm,dU,dQ,hz,hdr,hqz,hval⟩
 simp only at hW hK hn ru rq
 subst hn
 rw[Zaj]
 cases m with
 |zero=>
  simp[A.lb148_2,hr,hf,r13]
  exact⟨U,Q,⟨hW,hK,rfl,ru,rq⟩,by simp[r13],hul',hql,hm,dU,dQ,hz,hdr,hqz,hval⟩
 |succ j=>
  have hj1:(((j+1:Nat):Int)-1)=(j:Int):=by omega
  rw[hj1]at r13
  have hj0:(0:Int)≤(j:Int):=by omega
  obtain⟨v2,hv2⟩:=Zag (l:=Y) (k:=k) (by omega)
  obtain⟨d1,e1⟩:=Zag (l:=U) (k:=j+k) (by omega)
  obtain⟨d2,e2⟩:=Zag (l:=U) (k:=j+k+1) (by omega)
  obtain⟨d3,e3⟩:=Zag (l:=U) (k:=j+k+2) (by omega)
  obtain⟨x0,hx0⟩:=Zag (l:=U) (k:=j) (by omega)
  have hWt:=Yi3 (w:=U.drop j) (k:=k) (a:=d1) (c:=d2) (d:=d3) (by rw[Ysc];exact e1) (by rw[Ysc,←Ytj];exact e2) (by rw[Ysc,←Ytj];exact e3) (fun t h1 h2=>by rw[Ysc];exact hz _ (by omega) (by simp at h2;omega))
  have hDt:=Yi4 hv2 hv1 hY
  have hWd:vI (U.drop j)<1000000000*vI Y:=by
   rw[Zaq hx0,vI]
   have:=dU.get hx0
   omega
  have hUk:=Zia ((dU.drop j).take k)
  rw[Ysi,Yt2,Ytf (by omega)]at hUk
  have hVk:=Zia (dY.take k)
  rw[Ysi,Ytf (by omega)]at hVk
  obtain⟨t,hg,t0,t1,hlo,hhi⟩:=Ygh (w:=W) (Sl.row (cp:=none) (L:=lu) (show iu<n1 by omega) ru (by simp[hul']) (fun k hk=>by cases hk)) (hv.keep hK) hY (by omega) e1 e2 e3 hv2 hv1 (dU.get e1) (dU.get e2) (dU.get e3) ⟨h5,(dY.get hv1).2⟩ (dY.get hv2) (Zjm k) (Zh9 ((dU.drop j).take k)) hUk (Zh9 (dY.take k)) hVk hWt hDt hWd
  have hVl:=Zia dY
  rw[hY]at hVl
  have hVp:0<vI Y:=by have:=Zh9 (dU.drop (j+1));omega
  simp[A.lb148_2,hr,hf,r13,hj0,r9,r10,r11,r12,hg]
  refine Zai [(15,18),(90,125)] (fun e r st=>e=.exit 4∧SbR N h2 n2 iu iq n1 U Q Y (k+2) j t 0 r st) (SbR N h2 n2 iu iq n1 U Q Y (k+2) j t) (k+2) ?_ ?_ ?_
  ·exact⟨0,U,0,by omega,by simp,by simp,by omega,by omega,⟨hW,hK,rfl,ru,rq⟩,rfl,fun _ _=>rfl,dU,by simp[vI]⟩
  ·exact Yem hv hY dY (by omega) (by omega) ⟨by simp[hr,r9],by simp[hr,r10],by simp[hr,r11,hul'],by simp[hr,r13]⟩ (by simp) t0 t1 a1 a2 a3 a4
  ·rintro _ r2 ⟨H2,n3,W2⟩ hr2 ⟨rfl,i,U',c,hi,h16,h15,c0,c1,⟨hW2,hK2,hn2,ru2,rq2⟩,hul2,hsame,hdi2,hval2⟩
   simp only at hW2 hK2 hn2 ru2 rq2
   subst hn2
   obtain rfl:i=k+2:=by omega
   have hfi:=hf.inner (D':=[(15,18),(90,125)]) rfl (by simp) hr2
   rw[←hY,Ytr,hY]at hval2
   have e3':U'[j+(k+2)]?=some d3:=by rw[hsame _ (.inr (Yr4 _))];rw[←Ytj];exact e3
   have hd3:=dU.get e3
   have q1:(j:Int)+((k:Int)+2)<(lu:Int):=by omega
   have q2:j+(k+2)<lu:=by omega
   have q3:(0:Int)≤(j:Int)+((k:Int)+2):=by omega
   have q4:((j:Int)+((k:Int)+2)).toNat=j+(k+2):=by omega
   have w8:=Zat U'
   have b1':Zap .i64 (d3-c)=d3-c:=Zak (by omega) (by omega)
   have w7:=Zh5 (l:=U') (k:=j+(k+2)) (v:=d3-c) (by omega)
   have nn:¬iu<N:=by omega
   have d5:¬iq=iu:=by omega
   have d6:¬iu=iq:=by omega
   have nq:¬iq<N:=by omega
   have v2e:vI (U'.set (j+(k+2)) (d3-c))=vI U-pI j*(t*vI Y):=by
    rw[Zi4 e3']
    have:pI (j+(k+2))*(d3-c-d3)= -(pI (j+(k+2))*c):=by grind
    omega
   have hs2:∀s,s<j→(U'.set (j+(k+2)) (d3-c))[s]?=U[s]?:=fun s hs=>by
    rw[Ysb (by omega)];exact hsame s (.inl hs)
   have hz2:∀s,j+(k+2)<s→s<lu→(U'.set (j+(k+2)) (d3-c))[s]?=some 0:=fun s h1 h2=>by
    rw[Ysb (by omega),hsame s (.inr (by omega))];exact hz s (by omega) h2
   have hdv:=Zv7 (by omega) (by simp[hul2]) hs2 v2e
   have htop:(U'.set (j+(k+2)) (d3-c))[j+(k+2)]?=some (d3-c):=Ys7 (by omega)
   have hlt2:vI ((U'.set (j+(k+2)) (d3-c)).drop j)<vI Y:=by
    rw[hdv]
    have:(t+1)*vI Y=t*vI Y+vI Y:=by grind
    omega
   have hto:=Yhq (U:=U'.set (j+(k+2)) (d3-c)) (fun s d hs hd=>by
    rw[Ysb (by omega)]at hd;exact hdi2.get hd) htop (fun s h1 h2=>hz2 s h1 (by simp at h2;omega)) (by omega)
   have qj1:(j:Int)<((lu-(k+2):Nat):Int):=by omega
   have qj2:j<lu-(k+2):=by omega
   have wq8:=Zat Q
   by_cases hneg:d3-c<0
   ·have t1w:Zap .i64 (t-1)=t-1:=Zak (by omega) (by omega)
    simp(disch:=first|(simp;done)|omega|rfl) [-getElem?_pos,hr,hr2,hfi,h15,r9,r10,r11,r12,r13,q1,q2,q3,q4,ru2,Zbe e3',b1',w7,Zbe htop,hneg,t1w]
    generalize hU2:U'.set (j+(k+2)) (d3-c)=U2 at*
    have hl2:U2.length=lu:=by rw[←hU2];simp[hul2,hul']
    have hWlt:vI (U2.drop j)<0:=by
     apply Yvn;intro hc
     have:=hto.1 hc
     omega
    have hdig:∀(s:Nat) (d:Int),s≠j+(k+2)→U2[s]?=some d→0≤d∧d<1000000000:=fun s d hs hd=>by
     rw[←hU2,Ysb (by omega)]at hd;exact hdi2.get hd
    refine Zai [(19,21),(148,174)] (fun e r st=>e=.exit 6∧AbR N h2 n2 iu iq n3 U2 Q Y (k+2) j 0 r st) (AbR N h2 n2 iu iq n3 U2 Q Y (k+2) j) (k+2) ?_ ?_ ?_
    ·exact⟨0,U2,0,by omega,by simp,by simp,by omega,by omega,⟨by simp[Zad,hW2,nn],hK2.set (by omega),rfl,by simp,by simp[d5,rq2]⟩,rfl,fun _ _=>rfl,hdig,by simp[vI]⟩
    ·exact Yhj hv hY dY (by omega) (by omega) ⟨by simp[hr,hr2,r9],by simp[hr,hr2,r10],by simp[hr,hr2,r11,hl2],by simp[hr,hr2,r13]⟩ a1 a2 a3 a4
    ·rintro _ r4 ⟨H4,n4,W4⟩ hr4 ⟨rfl,i4,U3,c4,hi4,h20,h19,c40,c41,⟨hW4,hK4,hn4,ru4,rq4⟩,hul4,hsame4,hdi4,hval4⟩
     simp only at hW4 hK4 hn4 ru4 rq4
     subst hn4
     obtain rfl:i4=k+2:=by omega
     have hfi4:=hfi.inner (D':=[(19,21),(148,174)]) rfl (by simp) hr4
     rw[←hY,Ytr,hY]at hval4
     have e4:U3[j+(k+2)]?=some (d3-c):=by rw[hsame4 _ (.inr (Yr4 _))];exact htop
     have x8:=Zat U3
     have b4':Zap .i64 (d3-c+c4)=d3-c+c4:=Zak (by omega) (by omega)
     have x7:=Zh5 (l:=U3) (k:=j+(k+2)) (v:=d3-c+c4) (by omega)
     have v4e:vI (U3.set (j+(k+2)) (d3-c+c4))=vI U-pI j*((t-1)*vI Y):=by
      rw[Zi4 e4]
      have x1:pI (j+(k+2))*(d3-c+c4-(d3-c))=pI (j+(k+2))*c4:=by grind
      have x2:pI j*((t-1)*vI Y)=pI j*(t*vI Y)-pI j*vI Y:=by grind
      omega
     have hs4:∀s,s<j→(U3.set (j+(k+2)) (d3-c+c4))[s]?=U[s]?:=fun s hs=>by
      rw[Ysb (by omega),hsame4 s (.inl hs)];exact hs2 s hs
     have hz4:∀s,j+(k+2)<s→s<lu→(U3.set (j+(k+2)) (d3-c+c4))[s]?=some 0:=fun s h1 h2=>by
      rw[Ysb (by omega),hsame4 s (.inr (by omega))];exact hz2 s h1 h2
     have hdv4:=Zv7 (by omega) (by simp[hul4,hl2,hul']) hs4 v4e
     have htop4:(U3.set (j+(k+2)) (d3-c+c4))[j+(k+2)]?=some (d3-c+c4):=Ys7 (by omega)
     have xt:(t-1)*vI Y=t*vI Y-vI Y:=by grind
     have hlt4:vI ((U3.set (j+(k+2)) (d3-c+c4)).drop j)<vI Y:=by
      rw[hdv4];omega
     have hge4:0≤vI ((U3.set (j+(k+2)) (d3-c+c4)).drop j):=by
      rw[hdv4];omega
     have hto4:=Yhq (U:=U3.set (j+(k+2)) (d3-c+c4)) (fun s d hs hd=>by
      rw[Ysb (by omega)]at hd;exact hdi4 s d (by omega) hd) htop4 (fun s h1 h2=>hz4 s h1 (by simp at h2;omega)) (by omega)
     have hz0:=hto4.1 hge4
     have w9:=Zh5 (l:=Q) (k:=j) (v:=t-1) (by omega)
     have hq0:=hqz j (by omega)
     have tpos:1≤t:=by
      apply Yu4;intro hc
      have:t=0:=by omega
      rw[this]at hdv
      have:=Zh9 (dU.drop j)
      omega
     simp(disch:=first|(simp;done)|omega|rfl) [-getElem?_pos,hr,hr2,hr4,hfi4,h19,r9,r10,r11,r12,r13,q1,q2,q3,q4,ru4,rq4,Zbe e4,b4',x7,qj1,qj2,d5,d6,w9]
     refine⟨j,by omega,⟨U3.set (j+(k+2)) (d3-c+c4),Q.set j (t-1),⟨by simp[Zad,hW4,nn,nq],?_,rfl,by simp[d6],by simp⟩,by simp,by simp[hul4,hl2],by simp[hql],by omega,?_,dQ.set (by omega) (by omega),?_,?_,?_,?_⟩⟩
     ·exact(hK4.set (by omega)).set (by omega)
     ·refine Ynx fun s d hd=>?_
      by_cases hs:s=j+(k+2)
      ·subst hs
       rw[htop4,hz0]at hd
       simp at hd
       omega
      ·rw[Ysb (fun h=>hs h.symm)]at hd
       exact hdi4 s d hs hd
     ·intro s h1 h2
      by_cases hs:s=j+(k+2)
      ·rw[hs,htop4,hz0]
      ·exact hz4 s (by omega) h2
     ·exact hlt4
     ·intro s hs
      rw[Ysb (by omega)];exact hqz s (by omega)
     ·rw[v4e,Zi4 hq0,←hval]
      grind
   ·have hnn:0≤vI ((U'.set (j+(k+2)) (d3-c)).drop j):=by
     apply Yu4;intro hc;exact hneg (hto.2 hc)
    have hz0:=hto.1 hnn
    have w9:=Zh5 (l:=Q) (k:=j) (v:=t) (by omega)
    have hq0:=hqz j (by omega)
    rw[hdv]at hnn hlt2
    have tlt:t<1000000000:=by
     apply Yvn;intro hc
     have:=Ytq hc (Yt4 hVp)
     omega
    simp(disch:=first|(simp;done)|omega|rfl) [-getElem?_pos,hr,hr2,hfi,h15,r9,r10,r11,r12,r13,q1,q2,q3,q4,ru2,rq2,Zbe e3',b1',w7,Zbe htop,hneg,qj1,qj2,d5,d6,w9]
    refine⟨j,by omega,⟨U'.set (j+(k+2)) (d3-c),Q.set j t,⟨by simp[Zad,hW2,nn,nq],?_,rfl,by simp[d6],by simp⟩,by simp,by simp[hul2,hul'],by simp[hql],by omega,?_,dQ.set t0 tlt,?_,?_,?_,?_⟩⟩
    ·exact(hK2.set (by omega)).set (by omega)
    ·rw[hz0];exact hdi2.set (by omega) (by omega)
    ·intro s h1 h2
     by_cases hs:s=j+(k+2)
     ·rw[hs,htop,hz0]
     ·exact hz2 s (by omega) h2
    ·rw[hdv];exact hlt2
    ·intro s hs
     rw[Ysb (by omega)];exact hqz s (by omega)
    ·rw[v2e,Zi4 hq0,←hval]
     grind
variable {N:Nat}
def Zgz{N n2:Nat}(h:N≤n2):∀{w:List Nat},Zad n2 w=[]→Zad N w=[]
 |[],_=>rfl
 |i::w,hw=>by
  simp only[Zad]at hw ⊢
  by_cases h1:i<n2
  ·rw[Yr6 h1]at hw
   unfold Zg1 at hw
   split at hw
   ·rename_i hc
    rw[hw]at hc;simp at hc
   ·cases hw
  ·rw[Yr3 h1]at hw
   rw[Yr3 (by omega)]
   exact Zgz h hw
def Zsf{h:T O}{i:Nat}{w:List Nat}{v:V}{l:List Int}(hr:h.get i=some (.cells [] 3 true))(hs:Sl h N v (dI l))(hne:l≠[])(hl:l.length<1099511627776):
  Zbp ⟨h,N,w⟩ 1 8 3 (.slice i 0 0 (some 0) 1) v=some (.slice N 0 l.length none 1,⟨h.set N (.cells (dI l) 3 true),N+1,w⟩):=by
 have h0:l.length≠0:=fun hc=>hne (Ysh hc)
 have hs':=Zzx (w:=w) hs
 rw[Zat]at hs'
 have hb:¬(Zcd<(2*(0+l.length)+1000)*8):=by unfold Zcd;omega
 simp only[Zbp,hs']
 rw[Yr3 h0,Yr3 (by rintro(h|h|h)<;>omega)]
 simp only[St.row,hr]
 rw[Yr3 (by omega)]
 simp[slc,St.alloc]
def Yhy(k:Nat):pI k=((1000000000^k:Nat):Int):=by unfold pI;simp
def Znc{b k:Nat}(h:(ds b).length=k+1):∃x,(ds b)[k]?=some x∧0<x∧x<1000000000∧pI k*x≤b∧(b:Int)<pI k*(x+1):=by
 have hb:b≠0:=fun hc=>by rw[hc,Zcn]at h;simp at h
 obtain⟨x,hx,hx0⟩:=Yle hb
 rw[h,Nat.add_sub_cancel]at hx
 have hd:=(Zca b).get hx
 have hv:=Zbb b
 rw[Zzj hx,Ytd (by omega),vI,Int.mul_zero,Int.add_zero]at hv
 have h1:=Zh9 ((Zca b).take k)
 have h2:=Zia ((Zca b).take k)
 rw[Ysi,Ytf (by omega)]at h2
 have h3:pI k*(x+1)=pI k*x+pI k:=by grind
 exact⟨x,hx,hx0,hd.2,by omega,by omega⟩
def Yj6{b k:Nat}(h:(ds b).length=k+1){x:Int}(hx:(ds b)[k]?=some x):∃f:Nat,(f:Int)=1000000000/(x+1)∧0<f∧f<1000000000∧(ds (b*f)).length=k+1∧∃y,(ds (b*f))[k]?=some y∧500000000≤y:=by
 obtain⟨x',hx',x0,x1,lo,hi⟩:=Znc h
 obtain rfl:x=x':=Ysx (hx.symm.trans hx')
 have hd:(x+1)*(1000000000/(x+1))+1000000000%(x+1)=1000000000:=Yui ..
 have hr0:0≤1000000000%(x+1):=Yu8 _ (by omega)
 have hr1:1000000000%(x+1)<x+1:=Yus _ (by omega)
 have hh:=Ya8 (x:=x) (by omega) x1
 have f0:0<1000000000/(x+1):=by
  apply Yvn;intro hc
  have:=Int.mul_nonpos_of_nonneg_of_nonpos (a:=x) (by omega) hc
  omega
 have f1:1000000000/(x+1)<1000000000:=Int.ediv_lt_of_lt_mul (by omega) (by omega)
 obtain⟨f,hf⟩:=Yua (Yt4 f0)
 rw[hf]at hd hh f0 f1
 have hp:=Zjm k
 have hb1:((b*f:Nat):Int)=(b:Int)*f:=by simp
 have up:(b:Int)*f<1000000000*pI k:=by
  have g1:(b:Int)*f<pI k*(x+1)*f:=Int.mul_lt_mul_of_pos_right hi f0
  have g2:pI k*(x+1)*f=pI k*((x+1)*f):=by grind
  have g3:pI k*((x+1)*f)≤pI k*1000000000:=Ysj (by omega) (Yt4 hp)
  omega
 have low:500000000*pI k≤(b:Int)*f:=by
  have g1:pI k*x*f≤(b:Int)*f:=Ytq lo (Yt4 f0)
  have g2:pI k*x*f=pI k*(x*f):=by grind
  have g3:pI k*500000000≤pI k*(x*f):=Ysj hh (Yt4 hp)
  omega
 have len1:(ds (b*f)).length≤k+1:=Zfo (by
  have:((b*f:Nat):Int)<((1000000000^(k+1):Nat):Int):=by rw[←Yhy,Zc5,hb1];exact up
  exact_mod_cast this)
 have len2:(ds b).length≤(ds (b*f)).length:=Zcv (Nat.le_mul_of_pos_right b (by omega))
 have len:(ds (b*f)).length=k+1:=by omega
 obtain⟨y,hy,y0,y1,ylo,yhi⟩:=Znc len
 refine⟨f,hf.symm,by omega,by omega,len,y,hy,?_⟩
 apply Yu4
 intro hc
 have:pI k*(y+1)≤pI k*500000000:=Ysj (by omega) (Yt4 hp)
 omega
def PdI(N:Nat)(h2:T O)(n2 la:Nat)(A0:Int)(m:Nat)(r:T V)(st:St):Prop:=Zad n2 st.w=[]∧Keeps h2 n2 st.h st.n∧∃u l,r.get 11=some u∧Own 1 3 n2 st.h st.n u (Zfb l)∧l.length+m=la+1∧vI l=A0∧Di l
def Yff{N:Nat}{h2:T O}{n2 la:Nat}{A0:Int}{u0:V}{r0:T V}{la':List Int}(hu0:Sl h2 n2 u0 (dI la'))(hla:la'.length=la)(hl:la<1099511627776)(r0e:r0.get 0=some u0):
  ∀m r st,(∀t,inD [(11,11),(63,71)] t=false→r.get t=r0.get t)→Fx [(11,11),(63,71)] r0 206 ⟨r,206,[]⟩→PdI N h2 n2 la A0 m r st→Code A.C none A.lb148_3 ⟨r,206,[]⟩ st (Rd [(11,11),(63,71)] r0 206 (PdI N h2 n2 la A0) m (fun e r st=>e=.exit 0∧PdI N h2 n2 la A0 0 r st)):=by
 rintro m r ⟨H,n1,W⟩ hr hf ⟨hW,hK,u,l,h11,ho,hm,hv,hd⟩
 simp only at hW hK ho
 have lu:=hu0.len
 rw[Zat,hla]at lu
 have lo:=ho.len
 rw[Zdm]at lo
 rw[Zaj]
 cases m with
 |zero=>
  have:¬(l.length:Int)<(la:Int)+1:=by omega
  simp(disch:=first|(simp;done)|omega|rfl) [A.lb148_3,hr,hf,r0e,h11,lu,lo,this]
  exact⟨hW,hK,u,l,by simp[h11],ho,hm,hv,hd⟩
 |succ m=>
  have h1:(l.length:Int)<(la:Int)+1:=by omega
  have nle:=hK.le
  obtain⟨v',h',w',e1,e2,e3,e4,e5⟩:=Zbi (x:=[.int .i64 0]) (u:=.slice n1 0 1 (some 1) 1) (bytes:=8) (w:=W) (ho.keep (Keeps.refl.new (.cells [.int .i64 0] 3 true))) (by omega) (by decide) rfl (by simp[Zax,St.row,slc]) (by rw[Zdm];omega)
  rw[←Zde]at e5
  simp(disch:=first|(simp;done)|omega|rfl) [A.lb148_3,hr,hf,r0e,h11,lu,lo,h1,splice,e1]
  refine⟨m,by omega,⟨by rw[e2];exact hW,((hK.new _).then e3),v',l++[0],by simp,e5,by simp;omega,by rw[Zfv,hv];simp,hd.app (Di.one (by omega) (by omega))⟩⟩
end Go.Mx
