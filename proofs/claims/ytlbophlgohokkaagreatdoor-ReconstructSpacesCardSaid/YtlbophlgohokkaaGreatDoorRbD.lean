/-
  lensletref01.divDigits: the inner loops.
-/
import Derived.Test.YtlbophlgohokkaaGreatDoorRcB
set_option linter.all false
namespace Go.Mx
open Go Go.Proofs
set_option maxRecDepth 1000000
def A.zbw:aq:=.seq (sr [mv 148 20,mv 149 10,bi 150 .lss 148 149]
 (cd 150
 (.skip)
 (.exit 6)))
 (.seq (.block 7 (.seq (.aS [mv 153 11,mv 154 20,mv 155 13,bi 156 .add 154 155,ia 157 1 153 156,ld 158 157,mv 159 9,mv 160 20,ia 161 1 159 160,ld 162 161,bi 163 .add 158 162,mv 164 19,bi 165 .add 163 164,mv 21 165] [0,0,0,6,15,31,0,0,192,448,1023,0,4095,8191])
 (sr [mv 166 11,mv 167 20,mv 168 13,bi 169 .add 167 168,mv 170 21,bc 171 .rem 170 1000000000,ia 172 1 166 169,so 172 171]
 (.aL [mv 173 21,bc 174 .quo 173 1000000000,mv 19 174]))))
 (.aL [mv 151 20,bc 152 .add 151 1,mv 20 152]))
def A.za1:aq:=.seq (sr [mv 90 16,mv 91 10,bi 92 .lss 90 91]
 (cd 92
 (.skip)
 (.exit 4)))
 (.seq (.block 5 (sr [mv 95 14,mv 96 9,mv 97 16,ia 98 1 96 97,ld 99 98,bi 100 .mul 95 99,mv 101 15,bi 102 .add 100 101,mv 17 102]
 (sr [mv 103 11,mv 104 16,mv 105 13,bi 106 .add 104 105,ia 107 1 103 106,ld 108 107,mv 109 17,bc 110 .rem 109 1000000000,bi 111 .sub 108 110,mv 18 111]
 (sr [mv 112 17,bc 113 .quo 112 1000000000,mv 15 113]
 (.seq (sr [mv 114 18,bc 115 .lss 114 0]
 (cd 115
 (sr [mv 116 18,bc 117 .add 116 1000000000,mv 18 117]
 (.aL [mv 118 15,bc 119 .add 118 1,mv 15 119]))
 (.skip)))
 (.aL [mv 120 11,mv 121 16,mv 122 13,bi 123 .add 121 122,mv 124 18,ia 125 1 120 123,so 125 124]))))))
 (.aL [mv 93 16,bc 94 .add 93 1,mv 16 94]))
def A.zbx:aq:=.seq (sr [mv 82 13,bc 83 .geq 82 0]
 (cd 83
 (.skip)
 (.exit 2)))
 (.seq (.block 3 (sr [mv 86 11,mv 87 9,mv 88 13,⟨(some 89),.call (.const (.func 266 [] [])) [(.tmp 86),(.tmp 87),(.tmp 88)],none⟩,mv 14 89]
 (sr [mc 15 0]
 (.seq (sr [mc 16 0]
 (.block 4 (.loop A.za1)))
 (sr [mv 126 11,mv 127 13,mv 128 10,bi 129 .add 127 128,mv 130 11,mv 131 13,mv 132 10,bi 133 .add 131 132,ia 134 1 130 133,ld 135 134,mv 136 15,bi 137 .sub 135 136,ia 138 1 126 129,so 138 137]
 (.seq (sr [mv 139 11,mv 140 13,mv 141 10,bi 142 .add 140 141,ia 143 1 139 142,ld 144 143,bc 145 .lss 144 0]
 (cd 145
 (sr [mv 146 14,bc 147 .sub 146 1,mv 14 147]
 (sr [mc 19 0]
 (.seq (sr [mc 20 0]
 (.block 6 (.loop A.zbw)))
 (.aL [mv 175 11,mv 176 13,mv 177 10,bi 178 .add 176 177,mv 179 11,mv 180 13,mv 181 10,bi 182 .add 180 181,ia 183 1 179 182,ld 184 183,mv 185 19,bi 186 .add 184 185,ia 187 1 175 178,so 187 186]))))
 (.skip)))
 (.aL [mv 188 12,mv 189 13,mv 190 14,ia 191 1 188 189,so 191 190])))))))
 (.aL [mv 84 13,bc 85 .sub 84 1,mv 13 85]))
def A.zby:aq:=.seq (sr [mv 63 11,ln 64 63,mv 65 0,ln 66 65,bc 67 .add 66 1,bi 68 .lss 64 67]
 (cd 68
 (.skip)
 (.exit 0)))
 (.block 1 (.aL [mv 69 11,⟨(some 70),.aY 3 1 1 [(.int .i64 0)] [(0,1,(.const (.int .i64 0)))],none⟩,⟨(some 71),.append 1 8 3 [(.int .i64 0)] (.tmp 69) (.tmp 70),none⟩,mv 11 71]))
def A.b228:aq:=sr [mN 4,mN 5]
 (.seq (sr [mv 24 0,mv 25 1,c2 26 236 24 25,bc 27 .lss 26 0]
 (cd 27
 (sr [mv 28 0,mN 4,mv 5 28]
 (.ret))
 (.skip)))
 (.seq (sr [mv 29 1,ln 30 29,ei 31 30 1]
 (cd 31
 (sr [mv 33 0,mv 34 1,⟨(some 35),.aI 1 (.tmp 34) (.const (.int .i64 0)),none⟩,ld 36 35,c2 37 264 33 36,mv 32 37,xt 38 32 0,xt 39 32 1,mv 6 38,mv 7 39]
 (sr [mv 40 6,mv 41 7,⟨(some 42),.aY 3 1 1 [(.int .i64 0)] [(0,1,(.tmp 41))],none⟩,c1 43 265 42,mv 4 40,mv 5 43]
 (.ret)))
 (.skip)))
 (sr [mv 44 1,mv 45 1,ln 46 45,bc 47 .sub 46 1,ia 48 1 44 47,ld 49 48,bc 50 .add 49 1,⟨(some 51),.bin .quo (.node []) false (.const (.int .i64 1000000000)) (.tmp 50),none⟩,⟨(some 52),.aY 3 1 1 [(.int .i64 0)] [(0,1,(.tmp 51))],none⟩,mv 8 52]
 (sr [mv 53 1,mv 54 8,c2 55 238 53 54,mv 9 55]
 (sr [mv 56 9,ln 57 56,mv 10 57]
 (sr [⟨(some 58),.aY 3 1 0 [] [],none⟩,mv 59 0,mv 60 8,c2 61 238 59 60,⟨(some 62),.append 1 8 3 [(.int .i64 0)] (.tmp 58) (.tmp 61),none⟩,mv 11 62]
 (.seq (.block 0 (.loop A.zby))
 (sr [mv 72 11,ln 73 72,mv 74 10,bi 75 .sub 73 74,⟨(some 76),.bD 3 1 8 [(.int .i64 0)] (.tmp 75) (.tmp 75),none⟩,mv 12 76]
 (.seq (sr [mv 77 11,ln 78 77,mv 79 10,bi 80 .sub 78 79,bc 81 .sub 80 1,mv 13 81]
 (.block 2 (.loop A.zbx)))
 (.seq (.aS [mv 193 11,mv 194 10,⟨(some 195),.cP 1 (.tmp 193) none (some (.tmp 194)) none,none⟩,c1 196 265 195,mv 197 8,⟨(some 198),.aI 1 (.tmp 197) (.const (.int .i64 0)),none⟩,ld 199 198,c2 200 264 196 199,mv 192 200,xt 201 192 0,xt 202 192 1,mv 22 201,mv 23 202] [0,0,3,7,0,16,48,127,255,511,511,1023,4095])
 (sr [mv 203 12,c1 204 265 203,mv 205 22,mv 4 204,mv 5 205]
 (.ret))))))))))))
theorem A.c228:A.F 228=some ⟨206,[.tmp 4,.tmp 5],A.b228⟩:=by kernel_rfl
def A.k228:=@A.kk 228 _ _ _ A.c228 rfl
structure RP (N:Nat) (h2:T O) (n2 iu iq n:Nat) (U Q:List Int) (st:St):Prop where
 w:au N st.w=[]
 ad:ab h2 n2 st.h n
 n:st.n=n
 ru:st.h.get iu=some (.cells (dI U) 3 true)
 rq:st.h.get iq=some (.cells (dI Q) 3 true)
structure Yz (r0:T V) (v:V) (iu lu L j:Nat):Prop where
 r9:r0.get 9=some v
 pR:r0.get 10=some (.int .i64 L)
 qQ:r0.get 11=some (.slice iu 0 lu none 1)
 pT:r0.get 13=some (.int .i64 j)
structure Ir (N:Nat) (h2:T O) (n2 iu iq n:Nat) (U Q Y:List Int) (L j:Nat) (t:Int) (m:Nat) (r:T V) (st:St):Prop where
 ex:∃i U' c,i+m=L/\r.get 16=some (.int .i64 i)/\r.get 15=some (.int .i64 c)/\0<=c/\c<=1000000000/\RP N h2 n2 iu iq n U' Q st/\U'.length=U.length/\(∀s,(s<j\/j+i<=s)->U'[s]?=U[s]?)/\Di U'/\vI U'-pI (j+i)*c=vI U-pI j*(t*vI (Y.take i))
theorem Ye8{N:Nat}{h2:T O}{n2 iu iq n:Nat}{U Q Y:List Int}{L j:Nat}{t:Int}{v:V}{r0:T V}(hv:Sl h2 n2 v (dI Y))(hY:Y.length=L)(dY:Di Y)(Cc:j+L<U.length)(wF:U.length<1099511627776)(R:Yz r0 v iu U.length L j)(EJ:r0.get 14=some (.int .i64 t))(t0:0<=t)(t1:t<=1000000000)(a1:N<=n2)(a2:n2<=iu)(a3:iu<iq)(a4:iq<n):
  ∀k r st,(∀t,iK [(15,18),(90,125)] t=false->r.get t=r0.get t)->Fx [(15,18),(90,125)] r0 206 ⟨r,206,[]⟩->Ir N h2 n2 iu iq n U Q Y L j t k r st->Code A.C none A.za1 ⟨r,206,[]⟩ st (Rd [(15,18),(90,125)] r0 206 (Ir N h2 n2 iu iq n U Q Y L j t) k (fun e r st=>e=.exit 4/\Ir N h2 n2 iu iq n U Q Y L j t 0 r st)):=by
 rintro m r ⟨H,n1,W⟩ hr hf ⟨i,U',c,hi,xC,yU,c0,c1,⟨hW,hK,hn,ru,rq⟩,gV,dB,gD,gF⟩
 simp only at hW hK hn ru rq
 subst hn
 obtain⟨r9,pR,qQ,pT⟩:=R
 rw[bn]
 cases m with
 |zero=>
  have:i=L:=by omega
  subst this
  simp[A.za1,hr,hf,xC,pR]
  exact⟨i,U',c,by omega,by simp[xC],by simp[yU],c0,c1,⟨hW,hK,rfl,ru,rq⟩,gV,dB,gD,gF⟩
 |succ m=>
  obtain⟨y,hy⟩:=bs (l:=Y) (k:=i) (by omega)
  have lv:=hv.len
  rw[fh,hY]at lv
  obtain⟨b1,b2,b3,b4,b5,z1,z2,z3,z4⟩:=hv.at (fb hy)
  have z3:=(hK.get _ z2).trans z3
  have EW:=dY.get hy
  obtain⟨o,ho⟩:=bs (l:=U') (k:=i+j) (by omega)
  have Yy:=gD.get ho
  have vL:(i:Int)<(L:Int):=by omega
  have KT:i<L:=by omega
  have p0:0<=t*y:=rn t0 EW.1
  have p1:t*y<=1000000000*999999999:=Int.mul_le_mul t1 (by omega) EW.1 (by omega)
  have q1:(i:Int)+(j:Int)<(U.length:Int):=by omega
  have q2:i+j<U.length:=by omega
  have q3:(0:Int)<=(i:Int)+(j:Int):=by omega
  have nn:¬iu<N:=by omega
  have w8:=fh U'
  have RQ:=yn ho
  have Is:=tJ hy
  have hp:=JQ i j
  have ml:=qp (j+i)
  generalize hP:t*y=P at*
  have b1':bk .i64 P=P:=ct (by omega) (by omega)
  have b2':bk .i64 (P+c)=P+c:=ct (by omega) (by omega)
  have Lx:(P+c).tmod 1000000000=(P+c)%1000000000:=zD (by omega)
  have Ly:(P+c).tdiv 1000000000=(P+c)/1000000000:=wO (by omega)
  have hm:=zB (P+c) 1000000000
  have e0:=zJ (P+c) (b:=1000000000) (by decide)
  have e1:=zC (P+c) (b:=1000000000) (by decide)
  have key:∀(x' c':Int),x'-1000000000*c'=o-(P+c)->vI (U'.set (i+j) x')-pI (j+(i+1))*c'=vI U-pI j*(t*vI (Y.take (i+1))):=by
   intro x' c' hx
   rw[RQ,Is,show j+(i+1)=j+i+1 by omega,ml,show i+j=j+i by omega]
   have h3:vI U'=vI U-pI j*(t*vI (Y.take i))+pI (j+i)*c:=by omega
   have h4:x'=o-(P+c)+1000000000*c':=by omega
   rw[h3,h4,show j+i=i+j by omega,hp,<-hP]
   grind
  have same:∀(x':Int) (s:Nat),(s<j\/j+(i+1)<=s)->(U'.set (i+j) x')[s]?=U[s]?:=by
   intro x' s hs
   rw[dr (by omega)]
   exact dB s (by omega)
  generalize (P+c)/1000000000=D at*
  generalize (P+c)%1000000000=M at*
  have b3':bk .i64 D=D:=ct (by omega) (by omega)
  have b4':bk .i64 (o-M)=o-M:=ct (by omega) (by omega)
  have d4:b1<n1:=by have:=hK.le;omega
  have d5:¬iq=iu:=by omega
  by_cases dq:o-M<0
  ·have b5':bk .i64 (o-M+1000000000)=o-M+1000000000:=ct (by omega) (by omega)
   have b6':bk .i64 (D+1)=D+1:=ct (by omega) (by omega)
   have w7:=uW (l:=U') (k:=i+j) (v:=o-M+1000000000) (by omega)
   simp(disch:=first|(simp;done)|omega|rfl) [-getElem?_pos,A.za1,hr,hf,xC,yU,r9,pR,qQ,pT,EJ,vL,lv,ru,fb ho,z1,z3,z4,hP,b1',b2',b3',b4',b5',b6',Lx,Ly,dq,w7]
   refine⟨m,by omega,⟨i+1,U'.set (i+j) (o-M+1000000000),D+1,by omega,by simp,by simp,by omega,by omega,⟨by simp[au,hW,nn],hK.set (by omega),rfl,by simp,by simp[d5,rq]⟩,by simp[gV],same _,gD.set (by omega) (by omega),key _ _ (by omega)⟩⟩
  ·have w7:=uW (l:=U') (k:=i+j) (v:=o-M) (by omega)
   simp(disch:=first|(simp;done)|omega|rfl) [-getElem?_pos,A.za1,hr,hf,xC,yU,r9,pR,qQ,pT,EJ,vL,lv,ru,fb ho,z1,z3,z4,hP,b1',b2',b3',b4',Lx,Ly,dq,w7]
   refine⟨m,by omega,⟨i+1,U'.set (i+j) (o-M),D,by omega,by simp,by simp,by omega,by omega,⟨by simp[au,hW,nn],hK.set (by omega),rfl,by simp,by simp[d5,rq]⟩,by simp[gV],same _,gD.set (by omega) (by omega),key _ _ (by omega)⟩⟩
structure It (N:Nat) (h2:T O) (n2 iu iq n:Nat) (U Q Y:List Int) (L j:Nat) (m:Nat) (r:T V) (st:St):Prop where
 ex:∃i U' c,i+m=L/\r.get 20=some (.int .i64 i)/\r.get 19=some (.int .i64 c)/\0<=c/\c<=1/\RP N h2 n2 iu iq n U' Q st/\U'.length=U.length/\(∀s,(s<j\/j+i<=s)->U'[s]?=U[s]?)/\(∀(s:Nat) (d:Int),s≠j+L->U'[s]?=some d->0<=d/\d<1000000000)/\vI U'+pI (j+i)*c=vI U+pI j*vI (Y.take i)
theorem Yid{N:Nat}{h2:T O}{n2 iu iq n:Nat}{U Q Y:List Int}{L j:Nat}{v:V}{r0:T V}(hv:Sl h2 n2 v (dI Y))(hY:Y.length=L)(dY:Di Y)(Cc:j+L<U.length)(wF:U.length<1099511627776)(R:Yz r0 v iu U.length L j)(a1:N<=n2)(a2:n2<=iu)(a3:iu<iq)(a4:iq<n):
  ∀k r st,(∀t,iK [(19,21),(148,174)] t=false->r.get t=r0.get t)->Fx [(19,21),(148,174)] r0 206 ⟨r,206,[]⟩->It N h2 n2 iu iq n U Q Y L j k r st->Code A.C none A.zbw ⟨r,206,[]⟩ st (Rd [(19,21),(148,174)] r0 206 (It N h2 n2 iu iq n U Q Y L j) k (fun e r st=>e=.exit 6/\It N h2 n2 iu iq n U Q Y L j 0 r st)):=by
 rintro m r ⟨H,n1,W⟩ hr hf ⟨i,U',c,hi,Lz,LA,c0,c1,⟨hW,hK,hn,ru,rq⟩,gV,dB,gD,gF⟩
 simp only at hW hK hn ru rq
 subst hn
 obtain⟨r9,pR,qQ,pT⟩:=R
 rw[bn]
 cases m with
 |zero=>
  have:i=L:=by omega
  subst this
  simp[A.zbw,hr,hf,Lz,pR]
  exact⟨i,U',c,by omega,by simp[Lz],by simp[LA],c0,c1,⟨hW,hK,rfl,ru,rq⟩,gV,dB,gD,gF⟩
 |succ m=>
  obtain⟨y,hy⟩:=bs (l:=Y) (k:=i) (by omega)
  have lv:=hv.len
  rw[fh,hY]at lv
  obtain⟨b1,b2,b3,b4,b5,z1,z2,z3,z4⟩:=hv.at (fb hy)
  have z3:=(hK.get _ z2).trans z3
  have EW:=dY.get hy
  obtain⟨o,ho⟩:=bs (l:=U') (k:=i+j) (by omega)
  have Yy:=gD _ _ (by omega) ho
  have vL:(i:Int)<(L:Int):=by omega
  have KT:i<L:=by omega
  have q1:(i:Int)+(j:Int)<(U.length:Int):=by omega
  have q2:i+j<U.length:=by omega
  have q3:(0:Int)<=(i:Int)+(j:Int):=by omega
  have nn:¬iu<N:=by omega
  have w8:=fh U'
  have RQ:=yn ho
  have Is:=tJ hy
  have hp:=JQ i j
  have ml:=qp (j+i)
  have b1':bk .i64 (o+y)=o+y:=ct (by omega) (by omega)
  have b2':bk .i64 (o+y+c)=o+y+c:=ct (by omega) (by omega)
  have Lx:(o+y+c).tmod 1000000000=(o+y+c)%1000000000:=zD (by omega)
  have Ly:(o+y+c).tdiv 1000000000=(o+y+c)/1000000000:=wO (by omega)
  have hm:=zB (o+y+c) 1000000000
  have e0:=zJ (o+y+c) (b:=1000000000) (by decide)
  have e1:=zC (o+y+c) (b:=1000000000) (by decide)
  have w7:=uW (l:=U') (k:=i+j) (v:=(o+y+c)%1000000000) (by omega)
  have d4:b1<n1:=by have:=hK.le;omega
  have d5:¬iq=iu:=by omega
  have d6:iu<n1:=by omega
  have b3':bk .i64 ((o+y+c)/1000000000)=(o+y+c)/1000000000:=ct (by omega) (by omega)
  simp(disch:=first|(simp;done)|omega|rfl) [-getElem?_pos,A.zbw,hr,hf,Lz,LA,r9,pR,qQ,pT,vL,lv,ru,fb ho,z1,z3,z4,b1',b2',b3',Lx,Ly,w7,d4,d6]
  generalize (o+y+c)/1000000000=D at*
  generalize (o+y+c)%1000000000=M at*
  refine⟨m,by omega,⟨i+1,U'.set (i+j) M,D,by omega,by simp,by simp,by omega,by omega,⟨by simp[au,hW,nn],hK.set (by omega),rfl,by simp,by simp[d5,rq]⟩,by simp[gV],fun s hs=>?_,fun s d hs hd=>?_,?_⟩⟩
  ·rw[dr (by omega)]
   exact dB s (by omega)
  ·by_cases hsi:s=i+j
   ·subst hsi
    rw[fy (by omega)]at hd
    simp at hd
    omega
   ·rw[dr (fun h=>hsi h.symm)]at hd
    exact gD s d hs hd
  ·rw[RQ,Is,show j+(i+1)=j+i+1 by omega,ml,show i+j=j+i by omega]
   have h3:vI U'=vI U+pI j*vI (Y.take i)-pI (j+i)*c:=by omega
   have h4:M=o+y+c-1000000000*D:=by omega
   rw[h3,h4,show j+i=i+j by omega,hp]
   grind
theorem Ylg{l:List Int}{d:Int}(h:d∈l):∃s:Nat,l[s]?=some d:=xP h
theorem YA{l:List Int}(h:∀(s:Nat) (d:Int),l[s]?=some d->0<=d/\d<1000000000):Di l:=fun d hd=>by
 obtain⟨s,hs⟩:=Ylg hd
 exact h s d hs
theorem YB{U U2:List Int}{j:Nat}{X:Int}(hj:j<=U.length)(hl:U2.length=U.length)(hs:∀s,s<j->U2[s]?=U[s]?)(hv:vI U2=vI U-pI j*X):vI (U2.drop j)=vI (U.drop j)-X:=by
 have h1:=FU U j hj
 have h2:=FU U2 j (by omega)
 have h3:U2.take j=U.take j:=by
  apply iW
  intro s
  rw[gU,gU]
  by_cases h:s<j
  ·rw[aF h,aF h];exact hs s h
  ·rw[ar h,ar h]
 rw[h3]at h2
 have h4:pI j*vI (U2.drop j)=pI j*(vI (U.drop j)-X):=by
  have:pI j*(vI (U.drop j)-X)=pI j*vI (U.drop j)-pI j*X:=by grind
  omega
 exact Int.eq_of_mul_eq_mul_left (Int.ne_of_gt (yl j)) h4
theorem YC{U:List Int}{j L:Nat}{tt:Int}(hd:∀(s:Nat) (d:Int),s<j+L->U[s]?=some d->0<=d/\d<1000000000)(ht:U[j+L]?=some tt)(hz:∀s,j+L<s->s<U.length->U[s]?=some 0)(aB:vI (U.drop j)<pI L):(0<=vI (U.drop j)->tt=0)/\(vI (U.drop j)<0->tt<0):=by
 refine Ye3 (w:=U.drop j) (n:=L) ?_ (by rw[fe];exact ht) ?_ aB
 ·refine YA fun s d hs=>?_
  by_cases h:s<L
  ·rw[gU,aF h,fe]at hs
   exact hd (j+s) d (by omega) hs
  ·rw[gU,ar h]at hs;cases hs
 ·intro s h1 h2
  rw[fe]
  exact hz (j+s) (by omega) (by simp at h2;omega)
structure Iu (N:Nat) (h2:T O) (n2 iu iq n lu L:Nat) (A0:Int) (Y:List Int) (m:Nat) (r:T V) (st:St):Prop where
 ex:∃U Q,RP N h2 n2 iu iq n U Q st/\r.get 13=some (.int .i64 ((m:Int)-1))/\U.length=lu/\Q.length=lu-L/\m<=lu-L/\Di U/\Di Q/\(∀s,m+L<=s->s<lu->U[s]?=some 0)/\vI (U.drop m)<vI Y/\(∀s,s<m->Q[s]?=some 0)/\vI U+vI Y*vI Q=A0
theorem Yf7{N:Nat}{h2:T O}{n2 iu iq n lu k:Nat}{A0 v1:Int}{Y:List Int}{v:V}{r0:T V}(hv:Sl h2 n2 v (dI Y))(hY:Y.length=k+2)(dY:Di Y)(ko:Y[k+1]?=some v1)(h5:500000000<=v1)(mW:k+2<lu)(wF:lu<1099511627776)(r9:r0.get 9=some v)(pR:r0.get 10=some (.int .i64 (k+2:Nat)))(qQ:r0.get 11=some (.slice iu 0 lu none 1))(HX:r0.get 12=some (.slice iq 0 (lu-(k+2)) (some (lu-(k+2))) 1))(a1:N<=n2)(a2:n2<=iu)(a3:iu<iq)(a4:iq<n):
  ∀m r st,(∀t,iK [(13,21),(82,191)] t=false->r.get t=r0.get t)->Fx [(13,21),(82,191)] r0 206 ⟨r,206,[]⟩->Iu N h2 n2 iu iq n lu (k+2) A0 Y m r st->Code A.C none A.zbx ⟨r,206,[]⟩ st (Rd [(13,21),(82,191)] r0 206 (Iu N h2 n2 iu iq n lu (k+2) A0 Y) m (fun e r st=>e=.exit 2/\Iu N h2 n2 iu iq n lu (k+2) A0 Y 0 r st)):=by
 rintro m r ⟨H,n1,W⟩ hr hf ⟨U,Q,⟨hW,hK,hn,ru,rq⟩,pT,gV,RS,hm,dU,dQ,hz,rT,Iv,gF⟩
 simp only at hW hK hn ru rq
 subst hn
 rw[bn]
 cases m with
 |zero=>
  simp[A.zbx,hf,pT]
  exact⟨U,Q,⟨hW,hK,rfl,ru,rq⟩,by simp[pT],gV,RS,hm,dU,dQ,hz,rT,Iv,gF⟩
 |succ j=>
  have xG:(((j+1:Nat):Int)-1)=(j:Int):=by omega
  rw[xG]at pT
  have BU:(0:Int)<=(j:Int):=by omega
  obtain⟨v2,iD⟩:=bs (l:=Y) (k:=k) (by omega)
  obtain⟨d1,e1⟩:=bs (l:=U) (k:=j+k) (by omega)
  obtain⟨d2,e2⟩:=bs (l:=U) (k:=j+k+1) (by omega)
  obtain⟨d3,e3⟩:=bs (l:=U) (k:=j+k+2) (by omega)
  obtain⟨x0,lC⟩:=bs (l:=U) (k:=j) (by omega)
  have hWt:=Yjr (w:=U.drop j) (k:=k) (a:=d1) (c:=d2) (d:=d3) (by rw[fe];exact e1) (by rw[fe,<-nj];exact e2) (by rw[fe,<-nj];exact e3) (fun t h1 h2=>by rw[fe];exact hz _ (by omega) (by simp at h2;omega))
  have hDt:=Yjs iD ko hY
  have hWd:vI (U.drop j)<1000000000*vI Y:=by
   rw[fP lC,vI]
   have:=dU.get lC
   omega
  have YD:=qs ((dU.drop j).take k)
  rw[gK,tr,mw (by omega)]at YD
  have YE:=qs (dY.take k)
  rw[gK,mw (by omega)]at YE
  obtain⟨t,hg,t0,t1,fl,fQ⟩:=Yg9 (w:=W) (Sl.row (cp:=none) (L:=lu) (show iu<n1 by omega) ru (by simp[gV]) (fun k hk=>by cases hk)) (hv.ad hK) hY (by omega) e1 e2 e3 iD ko (dU.get e1) (dU.get e2) (dU.get e3) ⟨h5,(dY.get ko).2⟩ (dY.get iD) (yl k) (qq ((dU.drop j).take k)) YD (qq (dY.take k)) YE hWt hDt hWd
  have hVl:=qs dY
  rw[hY]at hVl
  have hVp:0<vI Y:=by have:=qq (dU.drop (j+1));omega
  simp[A.zbx,hr,pT,BU,r9,qQ,hg]
  refine bN [(15,18),(90,125)] (fun e r st=>e=.exit 4/\Ir N h2 n2 iu iq n1 U Q Y (k+2) j t 0 r st) (Ir N h2 n2 iu iq n1 U Q Y (k+2) j t) (k+2) ?_ ?_ ?_
  ·exact⟨0,U,0,by omega,by simp,by simp,by omega,by omega,⟨hW,hK,rfl,ru,rq⟩,rfl,fun _ _=>rfl,dU,by simp[vI]⟩
  ·exact Ye8 hv hY dY (by omega) (by omega) ⟨by simp[hr,r9],by simp[hr,pR],by simp[hr,qQ,gV],by simp[pT]⟩ (by simp) t0 t1 a1 a2 a3 a4
  ·rintro _ r2 ⟨H2,n3,W2⟩ cR ⟨rfl,i,U',c,hi,xC,yU,c0,c1,⟨eN,kY,eF,RT,RU⟩,p_,dB,jh,Iw⟩
   simp only at eN kY eF RT RU
   subst eF
   obtain rfl:i=k+2:=by omega
   have Lw:=hf.inner (D':=[(15,18),(90,125)]) rfl (by simp) cR
   rw[<-hY,uv,hY]at Iw
   have RV:U'[j+(k+2)]?=some d3:=by rw[dB _ (.inr (aV _))];rw[<-nj];exact e3
   have QA:=dU.get e3
   have q1:(j:Int)+((k:Int)+2)<(lu:Int):=by omega
   have q2:j+(k+2)<lu:=by omega
   have q3:(0:Int)<=(j:Int)+((k:Int)+2):=by omega
   have q4:((j:Int)+((k:Int)+2)).toNat=j+(k+2):=by omega
   have w8:=fh U'
   have b1':bk .i64 (d3-c)=d3-c:=ct (by omega) (by omega)
   have w7:=uW (l:=U') (k:=j+(k+2)) (v:=d3-c) (by omega)
   have nn:¬iu<N:=by omega
   have d5:¬iq=iu:=by omega
   have d6:¬iu=iq:=by omega
   have nq:¬iq<N:=by omega
   have YF:vI (U'.set (j+(k+2)) (d3-c))=vI U-pI j*(t*vI Y):=by
    rw[yn RV]
    have:pI (j+(k+2))*(d3-c-d3)= -(pI (j+(k+2))*c):=by grind
    omega
   have kI:∀s,s<j->(U'.set (j+(k+2)) (d3-c))[s]?=U[s]?:=fun s hs=>by
    rw[dr (by omega)];exact dB s (.inl hs)
   have dP:∀s,j+(k+2)<s->s<lu->(U'.set (j+(k+2)) (d3-c))[s]?=some 0:=fun s h1 h2=>by
    rw[dr (by omega),dB s (.inr (by omega))];exact hz s (by omega) h2
   have ra:=YB (by omega) (by simp[p_]) kI YF
   have iM:(U'.set (j+(k+2)) (d3-c))[j+(k+2)]?=some (d3-c):=fy (by omega)
   have dW:vI ((U'.set (j+(k+2)) (d3-c)).drop j)<vI Y:=by
    rw[ra]
    have:(t+1)*vI Y=t*vI Y+vI Y:=by grind
    omega
   have RW:=YC (U:=U'.set (j+(k+2)) (d3-c)) (fun s d hs hd=>by
    rw[dr (by omega)]at hd;exact jh.get hd) iM (fun s h1 h2=>dP s h1 (by simp at h2;omega)) (by omega)
   have qj1:(j:Int)<((lu-(k+2):Nat):Int):=by omega
   have qj2:j<lu-(k+2):=by omega
   have wq8:=fh Q
   by_cases dq:d3-c<0
   ·have t1w:bk .i64 (t-1)=t-1:=ct (by omega) (by omega)
    simp(disch:=first|(simp;done)|omega|rfl) [-getElem?_pos,hr,cR,yU,pR,qQ,pT,q4,RT,fb RV,b1',w7,fb iM,dq,t1w]
    generalize YG:U'.set (j+(k+2)) (d3-c)=U2 at*
    have jq:U2.length=lu:=by rw[<-YG];simp[p_,gV]
    have zaz:vI (U2.drop j)<0:=by
     apply DT;intro hc
     have:=RW.1 hc
     omega
    have RX:∀(s:Nat) (d:Int),s≠j+(k+2)->U2[s]?=some d->0<=d/\d<1000000000:=fun s d hs hd=>by
     rw[<-YG,dr (by omega)]at hd;exact jh.get hd
    refine bN [(19,21),(148,174)] (fun e r st=>e=.exit 6/\It N h2 n2 iu iq n3 U2 Q Y (k+2) j 0 r st) (It N h2 n2 iu iq n3 U2 Q Y (k+2) j) (k+2) ?_ ?_ ?_
    ·exact⟨0,U2,0,by omega,by simp,by simp,by omega,by omega,⟨by simp[au,eN,nn],kY.set (by omega),rfl,by simp,by simp[d5,RU]⟩,rfl,fun _ _=>rfl,RX,by simp[vI]⟩
    ·exact Yid hv hY dY (by omega) (by omega) ⟨by simp[hr,cR,r9],by simp[hr,cR,pR],by simp[hr,cR,qQ,jq],by simp[cR,pT]⟩ a1 a2 a3 a4
    ·rintro _ r4 ⟨H4,n4,W4⟩ kh ⟨rfl,i4,U3,c4,hi4,Lz,LA,c40,c41,⟨xx,EX,Ix,Iy,Iz⟩,IA,qT,IB,IC⟩
     simp only at xx EX Ix Iy Iz
     subst Ix
     obtain rfl:i4=k+2:=by omega
     have RY:=Lw.inner (D':=[(19,21),(148,174)]) rfl (by simp) kh
     rw[<-hY,uv,hY]at IC
     have e4:U3[j+(k+2)]?=some (d3-c):=by rw[qT _ (.inr (aV _))];exact iM
     have x8:=fh U3
     have b4':bk .i64 (d3-c+c4)=d3-c+c4:=ct (by omega) (by omega)
     have x7:=uW (l:=U3) (k:=j+(k+2)) (v:=d3-c+c4) (by omega)
     have YH:vI (U3.set (j+(k+2)) (d3-c+c4))=vI U-pI j*((t-1)*vI Y):=by
      rw[yn e4]
      have x1:pI (j+(k+2))*(d3-c+c4-(d3-c))=pI (j+(k+2))*c4:=by grind
      have x2:pI j*((t-1)*vI Y)=pI j*(t*vI Y)-pI j*vI Y:=by grind
      omega
     have hs4:∀s,s<j->(U3.set (j+(k+2)) (d3-c+c4))[s]?=U[s]?:=fun s hs=>by
      rw[dr (by omega),qT s (.inl hs)];exact kI s hs
     have t_:∀s,j+(k+2)<s->s<lu->(U3.set (j+(k+2)) (d3-c+c4))[s]?=some 0:=fun s h1 h2=>by
      rw[dr (by omega),qT s (.inr (by omega))];exact dP s h1 h2
     have ID:=YB (by omega) (by simp[IA,jq,gV]) hs4 YH
     have we:(U3.set (j+(k+2)) (d3-c+c4))[j+(k+2)]?=some (d3-c+c4):=fy (by omega)
     have xt:(t-1)*vI Y=t*vI Y-vI Y:=by grind
     have RZ:vI ((U3.set (j+(k+2)) (d3-c+c4)).drop j)<vI Y:=by
      rw[ID];omega
     have R4:0<=vI ((U3.set (j+(k+2)) (d3-c+c4)).drop j):=by
      rw[ID];omega
     have R5:=YC (U:=U3.set (j+(k+2)) (d3-c+c4)) (fun s d hs hd=>by
      rw[dr (by omega)]at hd;exact IB s d (by omega) hd) we (fun s h1 h2=>t_ s h1 (by simp at h2;omega)) (by omega)
     have nY:=R5.1 R4
     have w9:=uW (l:=Q) (k:=j) (v:=t-1) (by omega)
     have nP:=Iv j (by omega)
     have zaA:1<=t:=by
      apply zH;intro hc
      have:t=0:=by omega
      rw[this]at ra
      have:=qq (dU.drop j)
      omega
     simp(disch:=first|(simp;done)|omega|rfl) [-getElem?_pos,hr,cR,kh,RY,LA,pR,qQ,HX,pT,q4,Iy,Iz,fb e4,b4',x7,d5,w9]
     refine⟨j,by omega,⟨U3.set (j+(k+2)) (d3-c+c4),Q.set j (t-1),⟨by simp[au,xx,nn,nq],?_,rfl,by simp[d6],by simp⟩,by simp,by simp[IA,jq],by simp[RS],by omega,?_,dQ.set (by omega) (by omega),?_,?_,?_,?_⟩⟩
     ·exact(EX.set (by omega)).set (by omega)
     ·refine YA fun s d hd=>?_
      by_cases hs:s=j+(k+2)
      ·subst hs
       rw[we,nY]at hd
       simp at hd
       omega
      ·rw[dr (fun h=>hs h.symm)]at hd
       exact IB s d hs hd
     ·intro s h1 h2
      by_cases hs:s=j+(k+2)
      ·rw[hs,we,nY]
      ·exact t_ s (by omega) h2
     ·exact RZ
     ·intro s hs
      rw[dr (by omega)];exact Iv s (by omega)
     ·rw[YH,yn nP,<-gF]
      grind
   ·have Ls:0<=vI ((U'.set (j+(k+2)) (d3-c)).drop j):=by
     apply zH;intro hc;exact dq (RW.2 hc)
    have nY:=RW.1 Ls
    have w9:=uW (l:=Q) (k:=j) (v:=t) (by omega)
    have nP:=Iv j (by omega)
    rw[ra]at Ls dW
    have tlt:t<1000000000:=by
     apply DT;intro hc
     have:=zA hc (pH hVp)
     omega
    simp(disch:=first|(simp;done)|omega|rfl) [-getElem?_pos,hr,cR,Lw,yU,pR,qQ,HX,pT,q4,RT,RU,fb RV,b1',w7,fb iM,dq,d5,w9]
    refine⟨j,by omega,⟨U'.set (j+(k+2)) (d3-c),Q.set j t,⟨by simp[au,eN,nn,nq],?_,rfl,by simp[d6],by simp⟩,by simp,by simp[p_,gV],by simp[RS],by omega,?_,dQ.set t0 tlt,?_,?_,?_,?_⟩⟩
    ·exact(kY.set (by omega)).set (by omega)
    ·rw[nY];exact jh.set (by omega) (by omega)
    ·intro s h1 h2
     by_cases hs:s=j+(k+2)
     ·rw[hs,iM,nY]
     ·exact dP s (by omega) h2
    ·rw[ra];exact dW
    ·intro s hs
     rw[dr (by omega)];exact Iv s (by omega)
    ·rw[YF,yn nP,<-gF]
     grind
variable {N:Nat}
theorem IE{N n2:Nat}(h:N<=n2):∀{w:List Nat},au n2 w=[]->au N w=[]
 |[],_=>rfl
 |i::w,hw=>by
  simp only[au]at hw ⊢
  by_cases h1:i<n2
  ·rw[aF h1]at hw
   unfold qo at hw
   split at hw
   ·rename_i hc
    rw[hw]at hc;simp at hc
   ·cases hw
  ·rw[ar h1]at hw
   rw[ar (by omega)]
   exact IE h hw
theorem Zst{h:T O}{i:Nat}{w:List Nat}{v:V}{l:List Int}(hr:h.get i=some (.cells [] 3 true))(hs:Sl h N v (dI l))(bA:l≠[])(hl:l.length<1099511627776):
  jQ ⟨h,N,w⟩ 1 8 3 (.slice i 0 0 (some 0) 1) v=some (.slice N 0 l.length none 1,⟨h.set N (.cells (dI l) 3 true),N+1,w⟩):=by
 have h0:l.length≠0:=fun hc=>bA (nU hc)
 have im:=Ynx (w:=w) hs
 rw[fh]at im
 have hb:¬(uP<(2*(0+l.length)+1000)*8):=by unfold uP;omega
 simp only[jQ,im]
 rw[ar h0,ar (by rintro(h|h|h)<;>omega)]
 simp only[St.row,hr]
 rw[ar (by omega)]
 simp[aM,St.alloc]
theorem YI(k:Nat):pI k=((1000000000^k:Nat):Int):=by unfold pI;simp
theorem R6{b k:Nat}(h:(ds b).length=k+1):∃x,(ds b)[k]?=some x/\0<x/\x<1000000000/\pI k*x<=b/\(b:Int)<pI k*(x+1):=by
 have hb:b≠0:=fun hc=>by rw[hc,oJ]at h;simp at h
 obtain⟨x,hx,lC⟩:=Ymi hb
 rw[h,Nat.add_sub_cancel]at hx
 have hd:=(fw b).get hx
 have hv:=fF b
 rw[Ip hx,mi (by omega),vI,Int.mul_zero,Int.add_zero]at hv
 have h1:=qq ((fw b).take k)
 have h2:=qs ((fw b).take k)
 rw[gK,mw (by omega)]at h2
 have h3:pI k*(x+1)=pI k*x+pI k:=by grind
 exact⟨x,hx,lC,hd.2,by omega,by omega⟩
theorem Yk0{b k:Nat}(h:(ds b).length=k+1){x:Int}(hx:(ds b)[k]?=some x):∃f:Nat,(f:Int)=1000000000/(x+1)/\0<f/\f<1000000000/\(ds (b*f)).length=k+1/\∃y,(ds (b*f))[k]?=some y/\500000000<=y:=by
 obtain⟨x',ja,x0,x1,lo,hi⟩:=R6 h
 obtain rfl:x=x':=pq (hx.symm.trans ja)
 have hd:(x+1)*(1000000000/(x+1))+1000000000%(x+1)=1000000000:=zB ..
 have eK:0<=1000000000%(x+1):=zJ _ (by omega)
 have AG:1000000000%(x+1)<x+1:=zC _ (by omega)
 have hh:=Ybt (x:=x) (by omega) x1
 have f0:0<1000000000/(x+1):=by
  apply DT;intro hc
  have:=Int.mul_nonpos_of_nonneg_of_nonpos (a:=x) (by omega) hc
  omega
 have f1:1000000000/(x+1)<1000000000:=Int.ediv_lt_of_lt_mul (by omega) (by omega)
 obtain⟨f,hf⟩:=zG (pH f0)
 rw[hf]at hd hh f0 f1
 have hp:=yl k
 have RL:((b*f:Nat):Int)=(b:Int)*f:=by simp
 have up:(b:Int)*f<1000000000*pI k:=by
  have g1:(b:Int)*f<pI k*(x+1)*f:=Int.mul_lt_mul_of_pos_right hi f0
  have g2:pI k*(x+1)*f=pI k*((x+1)*f):=by grind
  have g3:pI k*((x+1)*f)<=pI k*1000000000:=nh (by omega) (pH hp)
  omega
 have low:500000000*pI k<=(b:Int)*f:=by
  have g1:pI k*x*f<=(b:Int)*f:=zA lo (pH f0)
  have g2:pI k*x*f=pI k*(x*f):=by grind
  have g3:pI k*500000000<=pI k*(x*f):=nh hh (pH hp)
  omega
 have zaB:(ds (b*f)).length<=k+1:=D8 (by
  have:((b*f:Nat):Int)<((1000000000^(k+1):Nat):Int):=by rw[<-YI,qp,RL];exact up
  exact_mod_cast this)
 have zaC:(ds b).length<=(ds (b*f)).length:=pS (Nat.le_mul_of_pos_right b (by omega))
 have len:(ds (b*f)).length=k+1:=by omega
 obtain⟨y,hy,y0,y1,ylo,yhi⟩:=R6 len
 refine⟨f,hf.symm,by omega,by omega,len,y,hy,?_⟩
 apply zH
 intro hc
 have:pI k*(y+1)<=pI k*500000000:=nh (by omega) (pH hp)
 omega
def IF(N:Nat)(h2:T O)(n2 la:Nat)(A0:Int)(m:Nat)(r:T V)(st:St):Prop:=au n2 st.w=[]/\ab h2 n2 st.h st.n/\∃u l,r.get 11=some u/\Own 1 3 n2 st.h st.n u (lX l)/\l.length+m=la+1/\vI l=A0/\Di l
theorem Yf5{N:Nat}{h2:T O}{n2 la:Nat}{A0:Int}{u0:V}{r0:T V}{AK:List Int}(jZ:Sl h2 n2 u0 (dI AK))(xw:AK.length=la)(hl:la<1099511627776)(YJ:r0.get 0=some u0):
  ∀m r st,(∀t,iK [(11,11),(63,71)] t=false->r.get t=r0.get t)->Fx [(11,11),(63,71)] r0 206 ⟨r,206,[]⟩->IF N h2 n2 la A0 m r st->Code A.C none A.zby ⟨r,206,[]⟩ st (Rd [(11,11),(63,71)] r0 206 (IF N h2 n2 la A0) m (fun e r st=>e=.exit 0/\IF N h2 n2 la A0 0 r st)):=by
 rintro m r ⟨H,n1,W⟩ hr hf ⟨hW,hK,u,l,iT,ho,hm,hv,hd⟩
 simp only at hW hK ho
 have lu:=jZ.len
 rw[fh,xw]at lu
 have lo:=ho.len
 rw[yr]at lo
 rw[bn]
 cases m with
 |zero=>
  have:¬(l.length:Int)<(la:Int)+1:=by omega
  simp(disch:=first|(simp;done)|omega|rfl) [A.zby,hr,hf,YJ,iT,lu,lo,this]
  exact⟨hW,hK,u,l,by simp[iT],ho,hm,hv,hd⟩
 |succ m=>
  have h1:(l.length:Int)<(la:Int)+1:=by omega
  have fi:=hK.le
  obtain⟨v',h',w',e1,e2,e3,e4,e5⟩:=pY (x:=[.int .i64 0]) (u:=.slice n1 0 1 (some 1) 1) (bytes:=8) (w:=W) (ho.ad (ab.refl.new (.cells [.int .i64 0] 3 true))) (by omega) (by decide) rfl (by simp[ft,St.row,aM]) (by rw[yr];omega)
  rw[<-zX]at e5
  simp(disch:=first|(simp;done)|omega|rfl) [A.zby,hr,hf,YJ,iT,lu,lo,h1,ag,e1]
  refine⟨m,by omega,⟨by rw[e2];exact hW,((hK.new _).then e3),v',l++[0],by simp,e5,by simp;omega,by rw[ym,hv];simp,hd.app (Di.one (by omega) (by omega))⟩⟩
theorem YK{r:Nat}(h:r<1000000000):nt [(r:Int)]=ds r:=BQ (Di.one (by omega) (by omega)) (by simp[vI])
theorem IG{h:T O}{N:Nat}{u v:V}{a b:Nat}(hu:Dn h N u a)(hv:Dn h N v b)(hb:0<b)(hl:(ds a).length<1000000000)(jq:(ds b).length<1000000000):Fn A.C 228 [u,v] h N (fun x h' n'=>∃q r,x=.bb [q,r]/\Dn h' n' q (a/b)/\Dn h' n' r (a%b)):=by
 intro w
 have lu:=hu.len
 have lv:=hv.len
 rw[fh]at lu lv
 rw[aP,A.k228 (by simp)]
 by_cases eH:a<b
 ·have k_:xB a b= -1:=by simp[xB,eH]
  have hc:=fun w=>RM (w:=w) hu hv (by omega) (by omega)
  simp[A.b228,hc,k_,aA]
  refine⟨ab.refl,.aa,u,⟨rfl,rfl⟩,?_,?_⟩
  ·rw[uK eH];unfold Dn;rw[oJ];exact Sl.nil
  ·rw[sK eH];exact hu
 ·have hba:b<=a:=by omega
  have kM:=pS hba
  have hc:=fun w=>RM (w:=w) hu hv (by omega) (by omega)
  have qJ:¬xB a b<0:=by unfold xB;rw[ar eH];split<;>omega
  have EY:1<=(ds b).length:=by
   have:ds b≠[]:=fun hc=>by rw[yo]at hc;omega
   exact List.length_pos_iff.2 this
  by_cases hL:(ds b).length=1
  ·obtain⟨x,hx⟩:=bs (l:=ds b) (k:=0) (by omega)
   have hbx:ds b=[x]:=by
    cases hq:ds b with
    |nil=>rw[hq]at hL;simp at hL
    |cons y l=>
     rw[hq]at hL hx
     simp at hL hx
     rw[hL,hx]
   have xe:=fF b
   rw[hbx]at xe
   simp[vI]at xe
   have Iq:=(fw b).get hx
   obtain⟨b1,b2,b3,b4,b5,z1,z2,z3,z4⟩:=Sl.at (show Sl h N v (dI (ds b)) from hv) (fb hx)
   simp at z4
   simp[A.b228,hc,qJ,lv,hL,z1,z3,z4]
   refine ax (Yv (show Sl h N u (dI (ds a)) from hu) (fw a) (by omega) (by omega) Iq.2) ?_
   rintro y h1 n1 k1 ⟨q,rfl,hq⟩
   rw[fF]at hq
   simp only[fF]
   have e1:(a:Int).toNat=a:=by omega
   have e2:x.toNat=b:=by omega
   rw[e1,e2]at hq
   rw[e1,e2]
   have hRb:=jd a hb
   have Xr:b<1000000000:=by omega
   generalize hQ:a/b=Q at*
   generalize hR:a%b=R at*
   simp[ag]
   refine ax (C1 (l:=[(R:Int)]) (Sl.row (e:=3) (rw:=true) (cp:=some 1) (qk n1) (by simp[dI]) rfl (fun k hk=>by simp at hk;omega)) (by simp)) ?_
   rintro y2 h2 n2 k2 rJ
   rw[YK (by omega)]at rJ
   have kk:=(ab.refl (h:=h1) (n:=n1)).new (.cells [.int .i64 (R:Int)] 3 true)
   simp[aA]
   exact⟨(k1.trans kk).trans k2,q,y2,⟨rfl,rfl⟩,hq.ad (kk.trans k2),rJ⟩
  ·obtain⟨k,hk⟩:∃k,(ds b).length=k+2:=⟨(ds b).length-2,by omega⟩
   obtain⟨x,hx⟩:=bs (l:=ds b) (k:=k+1) (by omega)
   have Iq:=(fw b).get hx
   obtain⟨f,hf,f0,f1,hlen,y1,nX,LB⟩:=Yk0 (k:=k+1) (by omega) hx
   obtain⟨b1,b2,b3,b4,b5,z1,z2,z3,z4⟩:=Sl.at (show Sl h N v (dI (ds b)) from hv) (fb hx)
   have c1:((k:Int)+2-1)=(k:Int)+1:=by omega
   have c2:(k:Int)+1<(k:Int)+2:=by omega
   have c3:¬((k:Int)+2=1):=by omega
   have c4:((k:Int)+1).toNat=k+1:=by omega
   have c5:(0:Int)<=(k:Int)+1:=by omega
   have w1:bk .i64 (x+1)=x+1:=ct (by omega) (by omega)
   have w2:(1000000000:Int).tdiv (x+1)=f:=by rw[hf];exact wO (by decide)
   have w3:bk .i64 (f:Int)=f:=ct (by omega) (by omega)
   have c6:¬x+1=0:=by omega
   rw[hk]at lv
   simp(disch:=omega) [A.b228,hc,qJ,lv,c1,c3,c4,z1,z3,z4,w1,w2,w3,ag]
   have k0:=(ab.refl (h:=h) (n:=N)).new (.cells [.int .i64 (f:Int)] 3 true)
   have tL:Sl (h.set N (.cells [.int .i64 (f:Int)] 3 true)) (N+1) (.slice N 0 1 (some 1) 1) (dI [(f:Int)]):=Sl.row (e:=3) (rw:=true) (qk N) (by simp[dI]) rfl (fun k hk=>by simp at hk;omega)
   have dF:Di [(f:Int)]:=Di.one (by omega) (by omega)
   refine ax (RO (a:=b) (b:=f) (Sl.ad hv k0) tL (fw b) dF (fF b) (by simp[vI]) (by simp;omega)) ?_
   rintro vv h1 n1 k1 YL
   have ep:=k1.le
   have YM:=YL.len
   have oZ:(ds (b*f)).length=k+2:=by omega
   rw[fh,oZ]at YM
   simp[YM]
   have k1a:=(ab.refl (h:=h1) (n:=n1)).new (.cells [] 3 true)
   refine ax (RO (a:=a) (b:=f) (((Sl.ad hu k0).ad k1).ad k1a) ((tL.ad k1).ad k1a) (fw a) dF (fF a) (by simp[vI]) (by simp;omega)) ?_
   rintro uu h2 n2 k2 huu
   have fH:=k2.le
   have bA:ds (a*f)≠[]:=fun hc=>by
    rw[yo]at hc
    have:0<a*f:=wQ (by omega) f0
    omega
   have zaD:(ds (a*f)).length<=(ds a).length+1:=by
    apply D8
    have g1:=qs (fw a)
    rw[fF,YI]at g1
    have g2:a<1000000000^(ds a).length:=by exact_mod_cast g1
    rw[fJ]
    exact x9 g2 f1
   have R7:=(k2.get n1 (by omega)).trans (show _=some (.cells [] 3 true) by simp)
   have Gb:=Zst (w:=[]) R7 huu bA (by omega)
   simp[Gb]
   have tU:N<=n2:=by omega
   have Ig:=(((k0.trans k1).trans k1a).trans k2)
   refine bN [(11,11),(63,71)] (fun e r st=>e=.exit 0/\IF N h2 n2 (ds a).length ((a*f:Nat):Int) 0 r st) (IF N h2 n2 (ds a).length ((a*f:Nat):Int)) ((ds a).length+1-(ds (a*f)).length) ?_ ?_ ?_
   ·refine⟨by simp,ab.refl.new _,_,ds (a*f),by simp;rfl,⟨fun q hq=>?_,.inr ⟨n2,by rw[yr],aV _,by show n2<n2+1;omega,by simp[OD]⟩⟩,by omega,fF _,fw _⟩
    simp[lX]at hq
    obtain⟨q',_,rfl⟩:=hq
    rfl
   ·exact Yf5 (((Sl.ad hu k0).ad k1).ad k1a |>.ad k2) rfl (by omega) (by simp)
   ·rintro _ r ⟨H,n3,W⟩ hr ⟨rfl,hW,hK,u3,l,iT,ho,hm,gF,gW⟩
    simp only at hW hK ho
    obtain⟨_,⟨h0,_⟩|⟨iu,ET,i1,i2,i3⟩⟩:=ho
    ·simp[lX]at h0;rw[h0]at hm;simp at hm
    ·rw[yr]at ET
     rw[OD]at i3
     subst ET
     have mW:l.length=(ds a).length+1:=by omega
     have hka:k+2<l.length:=by omega
     obtain⟨S,hS⟩:∃S,S=l.length-(k+2):=⟨_,rfl⟩
     have cS:((l.length:Int)-((k:Int)+2))=(S:Int):=by omega
     have oN:=IE tU hW
     have kH:=hK.new (.cells (dI (List.replicate S 0)) 3 true)
     have fi:=hK.le
     have mz:(cj [.int .i64 0] S:List V)=dI (List.replicate S 0):=Oq
     simp(disch:=first|(simp;done)|omega|rfl) [hr,iT,cS,mz]
     have hvY:=Dn.ad YL (k1a.trans k2)
     have YN:vI l=(a*f:Nat):=gF
     refine bN [(13,21),(82,191)] (fun e r st=>e=.exit 2/\Iu N h2 n2 iu n3 (n3+1) l.length (k+2) ((a*f:Nat):Int) (ds (b*f)) 0 r st) (Iu N h2 n2 iu n3 (n3+1) l.length (k+2) ((a*f:Nat):Int) (ds (b*f))) S ?_ ?_ ?_
     ·refine⟨l,List.replicate S 0,⟨oN,kH,rfl,?_,by simp⟩,by simp,rfl,by simp[hS],by omega,gW,Di.uV _,fun s h1 h2=>by omega,?_,fun s hs=>by simp[hs],by rw[Ol,gF];simp⟩
      ·rw[T.ah,ar (by omega)];exact i3
      ·obtain⟨x',ja,x0,x1,lo,hi⟩:=R6 (b:=b) (k:=k+1) (by omega)
       have g1:=qs (fw a)
       rw[fF,show (ds a).length=S+(k+1) by omega,JQ]at g1
       have g2:=FU l S (by omega)
       have g3:=qq (gW.take S)
       have g4:pI (k+1)*1<=pI (k+1)*x':=nh (by omega) (pH (yl _))
       have g5:pI S*pI (k+1)<=pI S*b:=nh (by omega) (pH (yl _))
       have g6:(a:Int)*f<pI S*b*f:=Int.mul_lt_mul_of_pos_right (by omega) (by omega)
       rw[fF]
       apply DT
       intro hc
       have g7:pI S*((b*f:Nat):Int)<=pI S*vI (l.drop S):=nh hc (pH (yl _))
       have g8:pI S*((b*f:Nat):Int)=pI S*b*f:=by push_cast;grind
       have g9:((a*f:Nat):Int)=(a:Int)*f:=by push_cast;rfl
       omega
     ·exact Yf7 hvY oZ (fw _) nX LB hka (by omega) (by simp[hr]) (by simp[hr]) (by simp[iT]) (by simp[hS]) tU i1 i2 (qk n3)
     ·rintro _ r4 ⟨H4,n4,W4⟩ kh ⟨rfl,U,Q,⟨xx,EX,Ix,Iy,Iz⟩,pT,hUl,hQl,_,dU,dQ,hz,rT,_,nF⟩
      simp only at xx EX Ix Iy Iz
      subst Ix
      rw[tu]at rT
      rw[fF]at rT nF
      obtain⟨qn,YO⟩:=zG (qq dQ)
      obtain⟨un,R8⟩:=zG (qq dU)
      rw[YO,R8]at nF
      rw[R8]at rT
      have wo:un+b*f*qn=a*f:=by exact_mod_cast nF
      have pL:un<b*f:=by exact_mod_cast rT
      have m1:a/b=qn:=by
       have:a*f/(b*f)=qn:=by
        rw[<-wo,Nat.add_mul_div_left _ _ (by omega),uK pL,qm]
       rw[<-this,JJ _ _ f0]
      have m2:un/f=a%b:=by
       have:a*f%(b*f)=un:=by rw[<-wo,Nat.add_mul_mod_self_left,sK pL]
       rw[<-this,FM,Nat.mul_div_cancel _ f0]
      have Qr:Sl H4 (n3+1) (.slice iu 0 l.length none 1) (dI U):=Sl.row (by omega) Iy (by simp[hUl]) (fun k hk=>by cases hk)
      have hsQ:Sl H4 (n3+1) (.slice n3 0 S (some S) 1) (dI Q):=Sl.row (by omega) Iz (by simp[hQl,hS]) (fun k hk=>by simp at hk;omega)
      obtain⟨v',e1,e2⟩:=Ba (w:=[]) Qr (lo:=0) (hi:=k+2) (by omega) (by rw[fh];omega) none (some (.int .i64 ((k+2:Nat):Int))) (.inr ⟨rfl,rfl⟩) (.inl rfl)
      have e3:((dI U).take (k+2)).drop 0=dI (U.take (k+2)):=by rw[tu,dI,<-List.map_take];rfl
      rw[e3]at e2
      have ck:((k+2:Nat):Int)=(k:Int)+2:=by omega
      rw[ck]at e1
      have R9:=(EX.get N (by omega)).trans ((k2.get N (by omega)).trans ((show _=h1.get N by simp;omega).trans ((k1.get N (by omega)).trans (show _=some (.cells [.int .i64 (f:Int)] 3 true) by simp))))
      have Sa:vI (U.take (k+2))=un:=by
       rw[<-R8]
       exact(Ow (fun t h1 h2=>hz t (by omega) (by omega))).symm
      simp[hr,kh,iT,zu,ay,e1]
      refine ax (C1 e2 (by simp;omega)) ?_
      rintro y5 h5 n5 k5 IH
      rw[BQ (dU.take _) Sa]at IH
      have CM:=k5.le
      have II:=(k5.get N (by omega)).trans R9
      have lt5:N<n5:=by omega
      have lt4:iu<n3+1:=by omega
      have IJ:(ds un).length<1099511627776:=by
       have:(ds un).length<=(ds (b*f)).length:=pS (by omega)
       omega
      simp[hr,kh,II]
      refine ax (Yv (d:=(f:Int)) IH (fw un) IJ (by omega) (by omega)) ?_
      rintro y6 h6 n6 k6 ⟨q6,rfl,HR⟩
      have t1:(vI (ds un)).toNat=un:=by rw[fF];omega
      have t2:((f:Nat):Int).toNat=f:=by omega
      rw[t1,t2]at HR
      rw[m2]at HR
      generalize ((vI (ds un)).toNat%(f:Int).toNat)=ZZ
      simp[kh,lt5]
      refine ax (C1 ((hsQ.ad k5).ad k6) (by omega)) ?_
      rintro y7 h7 n7 k7 YP
      rw[BQ dQ YO]at YP
      have oN4:au N W4=[]:=xx
      have Sb:=(((Ig.trans EX).trans k5).trans k6).trans k7
      simp[aA,oN4]
      refine⟨Sb,y7,q6,⟨rfl,rfl⟩,?_,?_⟩
      ·rw[m1];exact YP
      ·exact Sl.ad HR k7
end Go.Mx
