/-
  lensletref01.divDigits: the inner loops.
-/
import Derived.Test.YtlbophlgohokkaaGreatDoorRcB
set_option linter.all false
namespace Go.Mx
open Go Go.Proofs
set_option maxRecDepth 1000000
def A.lJ:aq:=.seq (sr [mv 148 20,mv 149 10,bi 150 .lss 148 149]
 (cd 150
 (.skip)
 (.exit 6)))
 (.seq (.block 7 (.seq (.aV [mv 153 11,mv 154 20,mv 155 13,bi 156 .add 154 155,ia 157 1 153 156,ld 158 157,mv 159 9,mv 160 20,ia 161 1 159 160,ld 162 161,bi 163 .add 158 162,mv 164 19,bi 165 .add 163 164,mv 21 165] [0,0,0,6,15,31,0,0,192,448,1023,0,4095,8191])
 (sr [mv 166 11,mv 167 20,mv 168 13,bi 169 .add 167 168,mv 170 21,bc 171 .rem 170 1000000000,ia 172 1 166 169,so 172 171]
 (.aM [mv 173 21,bc 174 .quo 173 1000000000,mv 19 174]))))
 (.aM [mv 151 20,bc 152 .add 151 1,mv 20 152]))
def A.jb:aq:=.seq (sr [mv 90 16,mv 91 10,bi 92 .lss 90 91]
 (cd 92
 (.skip)
 (.exit 4)))
 (.seq (.block 5 (sr [mv 95 14,mv 96 9,mv 97 16,ia 98 1 96 97,ld 99 98,bi 100 .mul 95 99,mv 101 15,bi 102 .add 100 101,mv 17 102]
 (sr [mv 103 11,mv 104 16,mv 105 13,bi 106 .add 104 105,ia 107 1 103 106,ld 108 107,mv 109 17,bc 110 .rem 109 1000000000,bi 111 .sub 108 110,mv 18 111]
 (sr [mv 112 17,bc 113 .quo 112 1000000000,mv 15 113]
 (.seq (sr [mv 114 18,bc 115 .lss 114 0]
 (cd 115
 (sr [mv 116 18,bc 117 .add 116 1000000000,mv 18 117]
 (.aM [mv 118 15,bc 119 .add 118 1,mv 15 119]))
 (.skip)))
 (.aM [mv 120 11,mv 121 16,mv 122 13,bi 123 .add 121 122,mv 124 18,ia 125 1 120 123,so 125 124]))))))
 (.aM [mv 93 16,bc 94 .add 93 1,mv 16 94]))
def A.lK:aq:=.seq (sr [mv 82 13,bc 83 .geq 82 0]
 (cd 83
 (.skip)
 (.exit 2)))
 (.seq (.block 3 (sr [mv 86 11,mv 87 9,mv 88 13,⟨(some 89),.call (.const (.func 266 [] [])) [(.tmp 86),(.tmp 87),(.tmp 88)],none⟩,mv 14 89]
 (sr [mc 15 0]
 (.seq (sr [mc 16 0]
 (.block 4 (.loop A.jb)))
 (sr [mv 126 11,mv 127 13,mv 128 10,bi 129 .add 127 128,mv 130 11,mv 131 13,mv 132 10,bi 133 .add 131 132,ia 134 1 130 133,ld 135 134,mv 136 15,bi 137 .sub 135 136,ia 138 1 126 129,so 138 137]
 (.seq (sr [mv 139 11,mv 140 13,mv 141 10,bi 142 .add 140 141,ia 143 1 139 142,ld 144 143,bc 145 .lss 144 0]
 (cd 145
 (sr [mv 146 14,bc 147 .sub 146 1,mv 14 147]
 (sr [mc 19 0]
 (.seq (sr [mc 20 0]
 (.block 6 (.loop A.lJ)))
 (.aM [mv 175 11,mv 176 13,mv 177 10,bi 178 .add 176 177,mv 179 11,mv 180 13,mv 181 10,bi 182 .add 180 181,ia 183 1 179 182,ld 184 183,mv 185 19,bi 186 .add 184 185,ia 187 1 175 178,so 187 186]))))
 (.skip)))
 (.aM [mv 188 12,mv 189 13,mv 190 14,ia 191 1 188 189,so 191 190])))))))
 (.aM [mv 84 13,bc 85 .sub 84 1,mv 13 85]))
def A.lL:aq:=.seq (sr [mv 63 11,ln 64 63,mv 65 0,ln 66 65,bc 67 .add 66 1,bi 68 .lss 64 67]
 (cd 68
 (.skip)
 (.exit 0)))
 (.block 1 (.aM [mv 69 11,⟨(some 70),.aO 3 1 1 [(.int .i64 0)] [(0,1,(.const (.int .i64 0)))],none⟩,⟨(some 71),.append 1 8 3 [(.int .i64 0)] (.tmp 69) (.tmp 70),none⟩,mv 11 71]))
def A.b228:aq:=sr [mN 4,mN 5]
 (.seq (sr [mv 24 0,mv 25 1,c2 26 236 24 25,bc 27 .lss 26 0]
 (cd 27
 (sr [mv 28 0,mN 4,mv 5 28]
 (.ret))
 (.skip)))
 (.seq (sr [mv 29 1,ln 30 29,ei 31 30 1]
 (cd 31
 (sr [mv 33 0,mv 34 1,⟨(some 35),.aN 1 (.tmp 34) (.const (.int .i64 0)),none⟩,ld 36 35,c2 37 264 33 36,mv 32 37,xt 38 32 0,xt 39 32 1,mv 6 38,mv 7 39]
 (sr [mv 40 6,mv 41 7,⟨(some 42),.aO 3 1 1 [(.int .i64 0)] [(0,1,(.tmp 41))],none⟩,c1 43 265 42,mv 4 40,mv 5 43]
 (.ret)))
 (.skip)))
 (sr [mv 44 1,mv 45 1,ln 46 45,bc 47 .sub 46 1,ia 48 1 44 47,ld 49 48,bc 50 .add 49 1,⟨(some 51),.bin .quo (.node []) false (.const (.int .i64 1000000000)) (.tmp 50),none⟩,⟨(some 52),.aO 3 1 1 [(.int .i64 0)] [(0,1,(.tmp 51))],none⟩,mv 8 52]
 (sr [mv 53 1,mv 54 8,c2 55 238 53 54,mv 9 55]
 (sr [mv 56 9,ln 57 56,mv 10 57]
 (sr [⟨(some 58),.aO 3 1 0 [] [],none⟩,mv 59 0,mv 60 8,c2 61 238 59 60,⟨(some 62),.append 1 8 3 [(.int .i64 0)] (.tmp 58) (.tmp 61),none⟩,mv 11 62]
 (.seq (.block 0 (.loop A.lL))
 (sr [mv 72 11,ln 73 72,mv 74 10,bi 75 .sub 73 74,⟨(some 76),.bO 3 1 8 [(.int .i64 0)] (.tmp 75) (.tmp 75),none⟩,mv 12 76]
 (.seq (sr [mv 77 11,ln 78 77,mv 79 10,bi 80 .sub 78 79,bc 81 .sub 80 1,mv 13 81]
 (.block 2 (.loop A.lK)))
 (.seq (.aV [mv 193 11,mv 194 10,⟨(some 195),.dX 1 (.tmp 193) none (some (.tmp 194)) none,none⟩,c1 196 265 195,mv 197 8,⟨(some 198),.aN 1 (.tmp 197) (.const (.int .i64 0)),none⟩,ld 199 198,c2 200 264 196 199,mv 192 200,xt 201 192 0,xt 202 192 1,mv 22 201,mv 23 202] [0,0,3,7,0,16,48,127,255,511,511,1023,4095])
 (sr [mv 203 12,c1 204 265 203,mv 205 22,mv 4 204,mv 5 205]
 (.ret))))))))))))
theorem A.c228:A.F 228=some ⟨206,[.tmp 4,.tmp 5],A.b228⟩:=by kernel_rfl
def A.k228:=@A.kk 228 _ _ _ A.c228 rfl
structure Vh (N:Nat) (h2:T O) (n2 iu iq n:Nat) (U Q:List Int) (st:St):Prop where
 w:ad N st.w=[]
 ae:ab h2 n2 st.h n
 n:st.n=n
 ru:st.h.get iu=some (.cells (dI U) 3 true)
 rq:st.h.get iq=some (.cells (dI Q) 3 true)
structure DvR (r0:T V) (v:V) (iu lu L j:Nat):Prop where
 r9:r0.get 9=some v
 rB:r0.get 10=some (.int .i64 L)
 sM:r0.get 11=some (.slice iu 0 lu none 1)
 rH:r0.get 13=some (.int .i64 j)
structure Ku (N:Nat) (h2:T O) (n2 iu iq n:Nat) (U Q Y:List Int) (L j:Nat) (t:Int) (m:Nat) (r:T V) (st:St):Prop where
 ex:∃i U' c,i+m=L/\r.get 16=some (.int .i64 i)/\r.get 15=some (.int .i64 c)/\0<=c/\c<=1000000000/\Vh N h2 n2 iu iq n U' Q st/\U'.length=U.length/\(∀s,(s<j\/j+i<=s)->U'[s]?=U[s]?)/\Di U'/\vI U'-pI (j+i)*c=vI U-pI j*(t*vI (Y.take i))
theorem Yem{N:Nat}{h2:T O}{n2 iu iq n:Nat}{U Q Y:List Int}{L j:Nat}{t:Int}{v:V}{r0:T V}(hv:Sl h2 n2 v (dI Y))(hY:Y.length=L)(dY:Di Y)(wh:j+L<U.length)(hul:U.length<1099511627776)(R:DvR r0 v iu U.length L j)(GP:r0.get 14=some (.int .i64 t))(t0:0<=t)(t1:t<=1000000000)(a1:N<=n2)(a2:n2<=iu)(a3:iu<iq)(a4:iq<n):
  ∀k r st,(∀t,iS [(15,18),(90,125)] t=false->r.get t=r0.get t)->Fx [(15,18),(90,125)] r0 206 ⟨r,206,[]⟩->Ku N h2 n2 iu iq n U Q Y L j t k r st->Code A.C none A.jb ⟨r,206,[]⟩ st (Rd [(15,18),(90,125)] r0 206 (Ku N h2 n2 iu iq n U Q Y L j t) k (fun e r st=>e=.exit 4/\Ku N h2 n2 iu iq n U Q Y L j t 0 r st)):=by
 rintro m r ⟨H,n1,W⟩ hr hf ⟨i,U',c,hi,Kv,AG,c0,c1,⟨hW,hK,hn,ru,rq⟩,jD,dW,gL,ga⟩
 simp only at hW hK hn ru rq
 subst hn
 obtain⟨r9,rB,sM,rH⟩:=R
 rw[bA]
 cases m with
 |zero=>
  have:i=L:=by omega
  subst this
  simp[A.jb,hr,hf,Kv,rB]
  exact⟨i,U',c,by omega,by simp[Kv],by simp[AG],c0,c1,⟨hW,hK,rfl,ru,rq⟩,jD,dW,gL,ga⟩
 |succ m=>
  obtain⟨y,hy⟩:=bV (l:=Y) (k:=i) (by omega)
  have lv:=hv.len
  rw[gk,hY]at lv
  obtain⟨b1,b2,b3,b4,b5,z1,z2,z3,z4⟩:=hv.at (fU hy)
  have z3:=(hK.get _ z2).trans z3
  have Hh:=dY.get hy
  obtain⟨o,ho⟩:=bV (l:=U') (k:=i+j) (by omega)
  have hod:=gL.get ho
  have xN:(i:Int)<(L:Int):=by omega
  have M6:i<L:=by omega
  have p0:0<=t*y:=tO t0 Hh.1
  have p1:t*y<=1000000000*999999999:=Int.mul_le_mul t1 (by omega) Hh.1 (by omega)
  have q1:(i:Int)+(j:Int)<(U.length:Int):=by omega
  have q2:i+j<U.length:=by omega
  have q3:(0:Int)<=(i:Int)+(j:Int):=by omega
  have nn:¬iu<N:=by omega
  have w8:=gk U'
  have Vi:=zW ho
  have Kp:=vX hy
  have hp:=LR i j
  have xK:=rU (j+i)
  generalize hP:t*y=P at*
  have b1':bn .i64 P=P:=cj (by omega) (by omega)
  have b2':bn .i64 (P+c)=P+c:=cj (by omega) (by omega)
  have Oh:(P+c).tmod 1000000000=(P+c)%1000000000:=Bk (by omega)
  have Oi:(P+c).tdiv 1000000000=(P+c)/1000000000:=yA (by omega)
  have hm:=Bn (P+c) 1000000000
  have e0:=Bm (P+c) (b:=1000000000) (by decide)
  have e1:=Bo (P+c) (b:=1000000000) (by decide)
  have key:∀(x' c':Int),x'-1000000000*c'=o-(P+c)->vI (U'.set (i+j) x')-pI (j+(i+1))*c'=vI U-pI j*(t*vI (Y.take (i+1))):=by
   intro x' c' hx
   rw[Vi,Kp,show j+(i+1)=j+i+1 by omega,xK,show i+j=j+i by omega]
   have h3:vI U'=vI U-pI j*(t*vI (Y.take i))+pI (j+i)*c:=by omega
   have h4:x'=o-(P+c)+1000000000*c':=by omega
   rw[h3,h4,show j+i=i+j by omega,hp,<-hP]
   grind
  have same:∀(x':Int) (s:Nat),(s<j\/j+(i+1)<=s)->(U'.set (i+j) x')[s]?=U[s]?:=by
   intro x' s hs
   rw[eI (by omega)]
   exact dW s (by omega)
  generalize (P+c)/1000000000=D at*
  generalize (P+c)%1000000000=M at*
  have b3':bn .i64 D=D:=cj (by omega) (by omega)
  have b4':bn .i64 (o-M)=o-M:=cj (by omega) (by omega)
  have d4:b1<n1:=by have:=hK.le;omega
  have d5:¬iq=iu:=by omega
  by_cases dR:o-M<0
  ·have b5':bn .i64 (o-M+1000000000)=o-M+1000000000:=cj (by omega) (by omega)
   have b6':bn .i64 (D+1)=D+1:=cj (by omega) (by omega)
   have w7:=yU (l:=U') (k:=i+j) (v:=o-M+1000000000) (by omega)
   simp(disch:=first|(simp;done)|omega|rfl) [-getElem?_pos,A.jb,hr,hf,Kv,AG,r9,rB,sM,rH,GP,xN,lv,ru,fU ho,z1,z3,z4,hP,b1',b2',b3',b4',b5',b6',Oh,Oi,dR,w7]
   refine⟨m,by omega,⟨i+1,U'.set (i+j) (o-M+1000000000),D+1,by omega,by simp,by simp,by omega,by omega,⟨by simp[ad,hW,nn],hK.set (by omega),rfl,by simp,by simp[d5,rq]⟩,by simp[jD],same _,gL.set (by omega) (by omega),key _ _ (by omega)⟩⟩
  ·have w7:=yU (l:=U') (k:=i+j) (v:=o-M) (by omega)
   simp(disch:=first|(simp;done)|omega|rfl) [-getElem?_pos,A.jb,hr,hf,Kv,AG,r9,rB,sM,rH,GP,xN,lv,ru,fU ho,z1,z3,z4,hP,b1',b2',b3',b4',Oh,Oi,dR,w7]
   refine⟨m,by omega,⟨i+1,U'.set (i+j) (o-M),D,by omega,by simp,by simp,by omega,by omega,⟨by simp[ad,hW,nn],hK.set (by omega),rfl,by simp,by simp[d5,rq]⟩,by simp[jD],same _,gL.set (by omega) (by omega),key _ _ (by omega)⟩⟩
structure Kw (N:Nat) (h2:T O) (n2 iu iq n:Nat) (U Q Y:List Int) (L j:Nat) (m:Nat) (r:T V) (st:St):Prop where
 ex:∃i U' c,i+m=L/\r.get 20=some (.int .i64 i)/\r.get 19=some (.int .i64 c)/\0<=c/\c<=1/\Vh N h2 n2 iu iq n U' Q st/\U'.length=U.length/\(∀s,(s<j\/j+i<=s)->U'[s]?=U[s]?)/\(∀(s:Nat) (d:Int),s≠j+L->U'[s]?=some d->0<=d/\d<1000000000)/\vI U'+pI (j+i)*c=vI U+pI j*vI (Y.take i)
theorem Yhr{N:Nat}{h2:T O}{n2 iu iq n:Nat}{U Q Y:List Int}{L j:Nat}{v:V}{r0:T V}(hv:Sl h2 n2 v (dI Y))(hY:Y.length=L)(dY:Di Y)(wh:j+L<U.length)(hul:U.length<1099511627776)(R:DvR r0 v iu U.length L j)(a1:N<=n2)(a2:n2<=iu)(a3:iu<iq)(a4:iq<n):
  ∀k r st,(∀t,iS [(19,21),(148,174)] t=false->r.get t=r0.get t)->Fx [(19,21),(148,174)] r0 206 ⟨r,206,[]⟩->Kw N h2 n2 iu iq n U Q Y L j k r st->Code A.C none A.lJ ⟨r,206,[]⟩ st (Rd [(19,21),(148,174)] r0 206 (Kw N h2 n2 iu iq n U Q Y L j) k (fun e r st=>e=.exit 6/\Kw N h2 n2 iu iq n U Q Y L j 0 r st)):=by
 rintro m r ⟨H,n1,W⟩ hr hf ⟨i,U',c,hi,Oj,Ok,c0,c1,⟨hW,hK,hn,ru,rq⟩,jD,dW,gL,ga⟩
 simp only at hW hK hn ru rq
 subst hn
 obtain⟨r9,rB,sM,rH⟩:=R
 rw[bA]
 cases m with
 |zero=>
  have:i=L:=by omega
  subst this
  simp[A.lJ,hr,hf,Oj,rB]
  exact⟨i,U',c,by omega,by simp[Oj],by simp[Ok],c0,c1,⟨hW,hK,rfl,ru,rq⟩,jD,dW,gL,ga⟩
 |succ m=>
  obtain⟨y,hy⟩:=bV (l:=Y) (k:=i) (by omega)
  have lv:=hv.len
  rw[gk,hY]at lv
  obtain⟨b1,b2,b3,b4,b5,z1,z2,z3,z4⟩:=hv.at (fU hy)
  have z3:=(hK.get _ z2).trans z3
  have Hh:=dY.get hy
  obtain⟨o,ho⟩:=bV (l:=U') (k:=i+j) (by omega)
  have hod:=gL _ _ (by omega) ho
  have xN:(i:Int)<(L:Int):=by omega
  have M6:i<L:=by omega
  have q1:(i:Int)+(j:Int)<(U.length:Int):=by omega
  have q2:i+j<U.length:=by omega
  have q3:(0:Int)<=(i:Int)+(j:Int):=by omega
  have nn:¬iu<N:=by omega
  have w8:=gk U'
  have Vi:=zW ho
  have Kp:=vX hy
  have hp:=LR i j
  have xK:=rU (j+i)
  have b1':bn .i64 (o+y)=o+y:=cj (by omega) (by omega)
  have b2':bn .i64 (o+y+c)=o+y+c:=cj (by omega) (by omega)
  have Oh:(o+y+c).tmod 1000000000=(o+y+c)%1000000000:=Bk (by omega)
  have Oi:(o+y+c).tdiv 1000000000=(o+y+c)/1000000000:=yA (by omega)
  have hm:=Bn (o+y+c) 1000000000
  have e0:=Bm (o+y+c) (b:=1000000000) (by decide)
  have e1:=Bo (o+y+c) (b:=1000000000) (by decide)
  have w7:=yU (l:=U') (k:=i+j) (v:=(o+y+c)%1000000000) (by omega)
  have d4:b1<n1:=by have:=hK.le;omega
  have d5:¬iq=iu:=by omega
  have d6:iu<n1:=by omega
  have b3':bn .i64 ((o+y+c)/1000000000)=(o+y+c)/1000000000:=cj (by omega) (by omega)
  simp(disch:=first|(simp;done)|omega|rfl) [-getElem?_pos,A.lJ,hr,hf,Oj,Ok,r9,rB,sM,rH,xN,lv,ru,fU ho,z1,z3,z4,b1',b2',b3',Oh,Oi,w7,d4,d6]
  generalize (o+y+c)/1000000000=D at*
  generalize (o+y+c)%1000000000=M at*
  refine⟨m,by omega,⟨i+1,U'.set (i+j) M,D,by omega,by simp,by simp,by omega,by omega,⟨by simp[ad,hW,nn],hK.set (by omega),rfl,by simp,by simp[d5,rq]⟩,by simp[jD],fun s hs=>?_,fun s d hs hd=>?_,?_⟩⟩
  ·rw[eI (by omega)]
   exact dW s (by omega)
  ·by_cases hsi:s=i+j
   ·subst hsi
    rw[lW (by omega)]at hd
    simp at hd
    omega
   ·rw[eI (fun h=>hsi h.symm)]at hd
    exact gL s d hs hd
  ·rw[Vi,Kp,show j+(i+1)=j+i+1 by omega,xK,show i+j=j+i by omega]
   have h3:vI U'=vI U+pI j*vI (Y.take i)-pI (j+i)*c:=by omega
   have h4:M=o+y+c-1000000000*D:=by omega
   rw[h3,h4,show j+i=i+j by omega,hp]
   grind
theorem Ykz{l:List Int}{d:Int}(h:d∈l):∃s:Nat,l[s]?=some d:=zC h
theorem Yor{l:List Int}(h:∀(s:Nat) (d:Int),l[s]?=some d->0<=d/\d<1000000000):Di l:=fun d hd=>by
 obtain⟨s,hs⟩:=Ykz hd
 exact h s d hs
theorem Zwg{U U2:List Int}{j:Nat}{X:Int}(hj:j<=U.length)(hl:U2.length=U.length)(hs:∀s,s<j->U2[s]?=U[s]?)(hv:vI U2=vI U-pI j*X):vI (U2.drop j)=vI (U.drop j)-X:=by
 have h1:=HT U j hj
 have h2:=HT U2 j (by omega)
 have h3:U2.take j=U.take j:=by
  apply m7
  intro s
  rw[gV,gV]
  by_cases h:s<j
  ·rw[aF h,aF h];exact hs s h
  ·rw[au h,au h]
 rw[h3]at h2
 have h4:pI j*vI (U2.drop j)=pI j*(vI (U.drop j)-X):=by
  have:pI j*(vI (U.drop j)-X)=pI j*vI (U.drop j)-pI j*X:=by grind
  omega
 exact Int.eq_of_mul_eq_mul_left (Int.ne_of_gt (zU j)) h4
theorem Yhx{U:List Int}{j L:Nat}{tt:Int}(hd:∀(s:Nat) (d:Int),s<j+L->U[s]?=some d->0<=d/\d<1000000000)(ht:U[j+L]?=some tt)(hz:∀s,j+L<s->s<U.length->U[s]?=some 0)(aD:vI (U.drop j)<pI L):(0<=vI (U.drop j)->tt=0)/\(vI (U.drop j)<0->tt<0):=by
 refine Yei (w:=U.drop j) (n:=L) ?_ (by rw[fG];exact ht) ?_ aD
 ·refine Yor fun s d hs=>?_
  by_cases h:s<L
  ·rw[gV,aF h,fG]at hs
   exact hd (j+s) d (by omega) hs
  ·rw[gV,au h]at hs;cases hs
 ·intro s h1 h2
  rw[fG]
  exact hz (j+s) (by omega) (by simp at h2;omega)
structure Kx (N:Nat) (h2:T O) (n2 iu iq n lu L:Nat) (A0:Int) (Y:List Int) (m:Nat) (r:T V) (st:St):Prop where
 ex:∃U Q,Vh N h2 n2 iu iq n U Q st/\r.get 13=some (.int .i64 ((m:Int)-1))/\U.length=lu/\Q.length=lu-L/\m<=lu-L/\Di U/\Di Q/\(∀s,m+L<=s->s<lu->U[s]?=some 0)/\vI (U.drop m)<vI Y/\(∀s,s<m->Q[s]?=some 0)/\vI U+vI Y*vI Q=A0
theorem Yfh{N:Nat}{h2:T O}{n2 iu iq n lu k:Nat}{A0 v1:Int}{Y:List Int}{v:V}{r0:T V}(hv:Sl h2 n2 v (dI Y))(hY:Y.length=k+2)(dY:Di Y)(l9:Y[k+1]?=some v1)(h5:500000000<=v1)(Tr:k+2<lu)(hul:lu<1099511627776)(r9:r0.get 9=some v)(rB:r0.get 10=some (.int .i64 (k+2:Nat)))(sM:r0.get 11=some (.slice iu 0 lu none 1))(JV:r0.get 12=some (.slice iq 0 (lu-(k+2)) (some (lu-(k+2))) 1))(a1:N<=n2)(a2:n2<=iu)(a3:iu<iq)(a4:iq<n):
  ∀m r st,(∀t,iS [(13,21),(82,191)] t=false->r.get t=r0.get t)->Fx [(13,21),(82,191)] r0 206 ⟨r,206,[]⟩->Kx N h2 n2 iu iq n lu (k+2) A0 Y m r st->Code A.C none A.lK ⟨r,206,[]⟩ st (Rd [(13,21),(82,191)] r0 206 (Kx N h2 n2 iu iq n lu (k+2) A0 Y) m (fun e r st=>e=.exit 2/\Kx N h2 n2 iu iq n lu (k+2) A0 Y 0 r st)):=by
 rintro m r ⟨H,n1,W⟩ hr hf ⟨U,Q,⟨hW,hK,hn,ru,rq⟩,rH,jD,Vj,hm,dU,dQ,hz,uL,Ky,ga⟩
 simp only at hW hK hn ru rq
 subst hn
 rw[bA]
 cases m with
 |zero=>
  simp[A.lK,hf,rH]
  exact⟨U,Q,⟨hW,hK,rfl,ru,rq⟩,by simp[rH],jD,Vj,hm,dU,dQ,hz,uL,Ky,ga⟩
 |succ j=>
  have BM:(((j+1:Nat):Int)-1)=(j:Int):=by omega
  rw[BM]at rH
  have Dy:(0:Int)<=(j:Int):=by omega
  obtain⟨v2,iH⟩:=bV (l:=Y) (k:=k) (by omega)
  obtain⟨d1,e1⟩:=bV (l:=U) (k:=j+k) (by omega)
  obtain⟨d2,e2⟩:=bV (l:=U) (k:=j+k+1) (by omega)
  obtain⟨d3,e3⟩:=bV (l:=U) (k:=j+k+2) (by omega)
  obtain⟨x0,mW⟩:=bV (l:=U) (k:=j) (by omega)
  have hWt:=Yi7 (w:=U.drop j) (k:=k) (a:=d1) (c:=d2) (d:=d3) (by rw[fG];exact e1) (by rw[fG,<-nD];exact e2) (by rw[fG,<-nD];exact e3) (fun t h1 h2=>by rw[fG];exact hz _ (by omega) (by simp at h2;omega))
  have hDt:=Yi8 iH l9 hY
  have hWd:vI (U.drop j)<1000000000*vI Y:=by
   rw[ke mW,vI]
   have:=dU.get mW
   omega
  have hUk:=rW ((dU.drop j).take k)
  rw[fR,wX,nA (by omega)]at hUk
  have hVk:=rW (dY.take k)
  rw[fR,nA (by omega)]at hVk
  obtain⟨t,hg,t0,t1,fj,fZ⟩:=Ygj (w:=W) (Sl.row (cp:=none) (L:=lu) (show iu<n1 by omega) ru (by simp[jD]) (fun k hk=>by cases hk)) (hv.ae hK) hY (by omega) e1 e2 e3 iH l9 (dU.get e1) (dU.get e2) (dU.get e3) ⟨h5,(dY.get l9).2⟩ (dY.get iH) (zU k) (rV ((dU.drop j).take k)) hUk (rV (dY.take k)) hVk hWt hDt hWd
  have hVl:=rW dY
  rw[hY]at hVl
  have hVp:0<vI Y:=by have:=rV (dU.drop (j+1));omega
  simp[A.lK,hr,rH,Dy,r9,sM,hg]
  refine bQ [(15,18),(90,125)] (fun e r st=>e=.exit 4/\Ku N h2 n2 iu iq n1 U Q Y (k+2) j t 0 r st) (Ku N h2 n2 iu iq n1 U Q Y (k+2) j t) (k+2) ?_ ?_ ?_
  ·exact⟨0,U,0,by omega,by simp,by simp,by omega,by omega,⟨hW,hK,rfl,ru,rq⟩,rfl,fun _ _=>rfl,dU,by simp[vI]⟩
  ·exact Yem hv hY dY (by omega) (by omega) ⟨by simp[hr,r9],by simp[hr,rB],by simp[hr,sM,jD],by simp[rH]⟩ (by simp) t0 t1 a1 a2 a3 a4
  ·rintro _ r2 ⟨H2,n3,W2⟩ ew ⟨rfl,i,U',c,hi,Kv,AG,c0,c1,⟨eE,fu,ft,Vk,Vl⟩,Fe,dW,jC,Kz⟩
   simp only at eE fu ft Vk Vl
   subst ft
   obtain rfl:i=k+2:=by omega
   have zq:=hf.inner (D':=[(15,18),(90,125)]) rfl (by simp) ew
   rw[<-hY,vK,hY]at Kz
   have Vm:U'[j+(k+2)]?=some d3:=by rw[dW _ (.inr (aS _))];rw[<-nD];exact e3
   have TK:=dU.get e3
   have q1:(j:Int)+((k:Int)+2)<(lu:Int):=by omega
   have q2:j+(k+2)<lu:=by omega
   have q3:(0:Int)<=(j:Int)+((k:Int)+2):=by omega
   have q4:((j:Int)+((k:Int)+2)).toNat=j+(k+2):=by omega
   have w8:=gk U'
   have b1':bn .i64 (d3-c)=d3-c:=cj (by omega) (by omega)
   have w7:=yU (l:=U') (k:=j+(k+2)) (v:=d3-c) (by omega)
   have nn:¬iu<N:=by omega
   have d5:¬iq=iu:=by omega
   have d6:¬iu=iq:=by omega
   have nq:¬iq<N:=by omega
   have v2e:vI (U'.set (j+(k+2)) (d3-c))=vI U-pI j*(t*vI Y):=by
    rw[zW Vm]
    have:pI (j+(k+2))*(d3-c-d3)= -(pI (j+(k+2))*c):=by grind
    omega
   have jY:∀s,s<j->(U'.set (j+(k+2)) (d3-c))[s]?=U[s]?:=fun s hs=>by
    rw[eI (by omega)];exact dW s (.inl hs)
   have cX:∀s,j+(k+2)<s->s<lu->(U'.set (j+(k+2)) (d3-c))[s]?=some 0:=fun s h1 h2=>by
    rw[eI (by omega),dW s (.inr (by omega))];exact hz s (by omega) h2
   have zm:=Zwg (by omega) (by simp[Fe]) jY v2e
   have jc:(U'.set (j+(k+2)) (d3-c))[j+(k+2)]?=some (d3-c):=lW (by omega)
   have dr:vI ((U'.set (j+(k+2)) (d3-c)).drop j)<vI Y:=by
    rw[zm]
    have:(t+1)*vI Y=t*vI Y+vI Y:=by grind
    omega
   have Vn:=Yhx (U:=U'.set (j+(k+2)) (d3-c)) (fun s d hs hd=>by
    rw[eI (by omega)]at hd;exact jC.get hd) jc (fun s h1 h2=>cX s h1 (by simp at h2;omega)) (by omega)
   have qj1:(j:Int)<((lu-(k+2):Nat):Int):=by omega
   have qj2:j<lu-(k+2):=by omega
   have wq8:=gk Q
   by_cases dR:d3-c<0
   ·have t1w:bn .i64 (t-1)=t-1:=cj (by omega) (by omega)
    simp(disch:=first|(simp;done)|omega|rfl) [-getElem?_pos,hr,ew,AG,rB,sM,rH,q4,Vk,fU Vm,b1',w7,fU jc,dR,t1w]
    generalize hU2:U'.set (j+(k+2)) (d3-c)=U2 at*
    have kl:U2.length=lu:=by rw[<-hU2];simp[Fe,jD]
    have zaB:vI (U2.drop j)<0:=by
     apply FW;intro hc
     have:=Vn.1 hc
     omega
    have Vo:∀(s:Nat) (d:Int),s≠j+(k+2)->U2[s]?=some d->0<=d/\d<1000000000:=fun s d hs hd=>by
     rw[<-hU2,eI (by omega)]at hd;exact jC.get hd
    refine bQ [(19,21),(148,174)] (fun e r st=>e=.exit 6/\Kw N h2 n2 iu iq n3 U2 Q Y (k+2) j 0 r st) (Kw N h2 n2 iu iq n3 U2 Q Y (k+2) j) (k+2) ?_ ?_ ?_
    ·exact⟨0,U2,0,by omega,by simp,by simp,by omega,by omega,⟨by simp[ad,eE,nn],fu.set (by omega),rfl,by simp,by simp[d5,Vl]⟩,rfl,fun _ _=>rfl,Vo,by simp[vI]⟩
    ·exact Yhr hv hY dY (by omega) (by omega) ⟨by simp[hr,ew,r9],by simp[hr,ew,rB],by simp[hr,ew,sM,kl],by simp[ew,rH]⟩ a1 a2 a3 a4
    ·rintro _ r4 ⟨H4,n4,W4⟩ Ck ⟨rfl,i4,U3,c4,hi4,Oj,Ok,c40,c41,⟨Ek,Hi,KC,KD,KE⟩,KF,tk,KG,KH⟩
     simp only at Ek Hi KC KD KE
     subst KC
     obtain rfl:i4=k+2:=by omega
     have Vp:=zq.inner (D':=[(19,21),(148,174)]) rfl (by simp) Ck
     rw[<-hY,vK,hY]at KH
     have e4:U3[j+(k+2)]?=some (d3-c):=by rw[tk _ (.inr (aS _))];exact jc
     have x8:=gk U3
     have b4':bn .i64 (d3-c+c4)=d3-c+c4:=cj (by omega) (by omega)
     have x7:=yU (l:=U3) (k:=j+(k+2)) (v:=d3-c+c4) (by omega)
     have v4e:vI (U3.set (j+(k+2)) (d3-c+c4))=vI U-pI j*((t-1)*vI Y):=by
      rw[zW e4]
      have x1:pI (j+(k+2))*(d3-c+c4-(d3-c))=pI (j+(k+2))*c4:=by grind
      have x2:pI j*((t-1)*vI Y)=pI j*(t*vI Y)-pI j*vI Y:=by grind
      omega
     have Ol:∀s,s<j->(U3.set (j+(k+2)) (d3-c+c4))[s]?=U[s]?:=fun s hs=>by
      rw[eI (by omega),tk s (.inl hs)];exact jY s hs
     have wu:∀s,j+(k+2)<s->s<lu->(U3.set (j+(k+2)) (d3-c+c4))[s]?=some 0:=fun s h1 h2=>by
      rw[eI (by omega),tk s (.inr (by omega))];exact cX s h1 h2
     have KI:=Zwg (by omega) (by simp[KF,kl,jD]) Ol v4e
     have yh:(U3.set (j+(k+2)) (d3-c+c4))[j+(k+2)]?=some (d3-c+c4):=lW (by omega)
     have xt:(t-1)*vI Y=t*vI Y-vI Y:=by grind
     have Vq:vI ((U3.set (j+(k+2)) (d3-c+c4)).drop j)<vI Y:=by
      rw[KI];omega
     have Vr:0<=vI ((U3.set (j+(k+2)) (d3-c+c4)).drop j):=by
      rw[KI];omega
     have Vs:=Yhx (U:=U3.set (j+(k+2)) (d3-c+c4)) (fun s d hs hd=>by
      rw[eI (by omega)]at hd;exact KG s d (by omega) hd) yh (fun s h1 h2=>wu s h1 (by simp at h2;omega)) (by omega)
     have rp:=Vs.1 Vr
     have w9:=yU (l:=Q) (k:=j) (v:=t-1) (by omega)
     have vn:=Ky j (by omega)
     have zaC:1<=t:=by
      apply Bl;intro hc
      have:t=0:=by omega
      rw[this]at zm
      have:=rV (dU.drop j)
      omega
     simp(disch:=first|(simp;done)|omega|rfl) [-getElem?_pos,hr,ew,Ck,Vp,Ok,rB,sM,JV,rH,q4,KD,KE,fU e4,b4',x7,d5,w9]
     refine⟨j,by omega,⟨U3.set (j+(k+2)) (d3-c+c4),Q.set j (t-1),⟨by simp[ad,Ek,nn,nq],?_,rfl,by simp[d6],by simp⟩,by simp,by simp[KF,kl],by simp[Vj],by omega,?_,dQ.set (by omega) (by omega),?_,?_,?_,?_⟩⟩
     ·exact(Hi.set (by omega)).set (by omega)
     ·refine Yor fun s d hd=>?_
      by_cases hs:s=j+(k+2)
      ·subst hs
       rw[yh,rp]at hd
       simp at hd
       omega
      ·rw[eI (fun h=>hs h.symm)]at hd
       exact KG s d hs hd
     ·intro s h1 h2
      by_cases hs:s=j+(k+2)
      ·rw[hs,yh,rp]
      ·exact wu s (by omega) h2
     ·exact Vq
     ·intro s hs
      rw[eI (by omega)];exact Ky s (by omega)
     ·rw[v4e,zW vn,<-ga]
      grind
   ·have NF:0<=vI ((U'.set (j+(k+2)) (d3-c)).drop j):=by
     apply Bl;intro hc;exact dR (Vn.2 hc)
    have rp:=Vn.1 NF
    have w9:=yU (l:=Q) (k:=j) (v:=t) (by omega)
    have vn:=Ky j (by omega)
    rw[zm]at NF dr
    have tlt:t<1000000000:=by
     apply FW;intro hc
     have:=Bj hc (rf hVp)
     omega
    simp(disch:=first|(simp;done)|omega|rfl) [-getElem?_pos,hr,ew,zq,AG,rB,sM,JV,rH,q4,Vk,Vl,fU Vm,b1',w7,fU jc,dR,d5,w9]
    refine⟨j,by omega,⟨U'.set (j+(k+2)) (d3-c),Q.set j t,⟨by simp[ad,eE,nn,nq],?_,rfl,by simp[d6],by simp⟩,by simp,by simp[Fe,jD],by simp[Vj],by omega,?_,dQ.set t0 tlt,?_,?_,?_,?_⟩⟩
    ·exact(fu.set (by omega)).set (by omega)
    ·rw[rp];exact jC.set (by omega) (by omega)
    ·intro s h1 h2
     by_cases hs:s=j+(k+2)
     ·rw[hs,jc,rp]
     ·exact cX s (by omega) h2
    ·rw[zm];exact dr
    ·intro s hs
     rw[eI (by omega)];exact Ky s (by omega)
    ·rw[v2e,zW vn,<-ga]
     grind
variable {N:Nat}
theorem KJ{N n2:Nat}(h:N<=n2):∀{w:List Nat},ad n2 w=[]->ad N w=[]
 |[],_=>rfl
 |i::w,hw=>by
  simp only[ad]at hw ⊢
  by_cases h1:i<n2
  ·rw[aF h1]at hw
   unfold uZ at hw
   split at hw
   ·rename_i hc
    rw[hw]at hc;simp at hc
   ·cases hw
  ·rw[au h1]at hw
   rw[au (by omega)]
   exact KJ h hw
theorem Zsp{h:T O}{i:Nat}{w:List Nat}{v:V}{l:List Int}(hr:h.get i=some (.cells [] 3 true))(hs:Sl h N v (dI l))(bJ:l≠[])(hl:l.length<1099511627776):
  jQ ⟨h,N,w⟩ 1 8 3 (.slice i 0 0 (some 0) 1) v=some (.slice N 0 l.length none 1,⟨h.set N (.cells (dI l) 3 true),N+1,w⟩):=by
 have h0:l.length≠0:=fun hc=>bJ (qa hc)
 have iA:=Yni (w:=w) hs
 rw[gk]at iA
 have hb:¬(yK<(2*(0+l.length)+1000)*8):=by unfold yK;omega
 simp only[jQ,iA]
 rw[au h0,au (by rintro(h|h|h)<;>omega)]
 simp only[St.row,hr]
 rw[au (by omega)]
 simp[aJ,St.alloc]
theorem Yh8(k:Nat):pI k=((1000000000^k:Nat):Int):=by unfold pI;simp
theorem Vt{b k:Nat}(h:(ds b).length=k+1):∃x,(ds b)[k]?=some x/\0<x/\x<1000000000/\pI k*x<=b/\(b:Int)<pI k*(x+1):=by
 have hb:b≠0:=fun hc=>by rw[hc,qA]at h;simp at h
 obtain⟨x,hx,mW⟩:=Yl1 hb
 rw[h,Nat.add_sub_cancel]at hx
 have hd:=(fA b).get hx
 have hv:=fH b
 rw[Ks hx,wU (by omega),vI,Int.mul_zero,Int.add_zero]at hv
 have h1:=rV ((fA b).take k)
 have h2:=rW ((fA b).take k)
 rw[fR,nA (by omega)]at h2
 have h3:pI k*(x+1)=pI k*x+pI k:=by grind
 exact⟨x,hx,mW,hd.2,by omega,by omega⟩
theorem Ykk{b k:Nat}(h:(ds b).length=k+1){x:Int}(hx:(ds b)[k]?=some x):∃f:Nat,(f:Int)=1000000000/(x+1)/\0<f/\f<1000000000/\(ds (b*f)).length=k+1/\∃y,(ds (b*f))[k]?=some y/\500000000<=y:=by
 obtain⟨x',mR,x0,x1,lo,hi⟩:=Vt h
 obtain rfl:x=x':=p_ (hx.symm.trans mR)
 have hd:(x+1)*(1000000000/(x+1))+1000000000%(x+1)=1000000000:=Bn ..
 have ef:0<=1000000000%(x+1):=Bm _ (by omega)
 have jj:1000000000%(x+1)<x+1:=Bo _ (by omega)
 have hh:=Ya9 (x:=x) (by omega) x1
 have f0:0<1000000000/(x+1):=by
  apply FW;intro hc
  have:=Int.mul_nonpos_of_nonneg_of_nonpos (a:=x) (by omega) hc
  omega
 have f1:1000000000/(x+1)<1000000000:=Int.ediv_lt_of_lt_mul (by omega) (by omega)
 obtain⟨f,hf⟩:=Bi (rf f0)
 rw[hf]at hd hh f0 f1
 have hp:=zU k
 have US:((b*f:Nat):Int)=(b:Int)*f:=by simp
 have up:(b:Int)*f<1000000000*pI k:=by
  have g1:(b:Int)*f<pI k*(x+1)*f:=Int.mul_lt_mul_of_pos_right hi f0
  have g2:pI k*(x+1)*f=pI k*((x+1)*f):=by grind
  have g3:pI k*((x+1)*f)<=pI k*1000000000:=oI (by omega) (rf hp)
  omega
 have low:500000000*pI k<=(b:Int)*f:=by
  have g1:pI k*x*f<=(b:Int)*f:=Bj lo (rf f0)
  have g2:pI k*x*f=pI k*(x*f):=by grind
  have g3:pI k*500000000<=pI k*(x*f):=oI hh (rf hp)
  omega
 have zaD:(ds (b*f)).length<=k+1:=Gd (by
  have:((b*f:Nat):Int)<((1000000000^(k+1):Nat):Int):=by rw[<-Yh8,rU,US];exact up
  exact_mod_cast this)
 have zaE:(ds b).length<=(ds (b*f)).length:=rG (Nat.le_mul_of_pos_right b (by omega))
 have len:(ds (b*f)).length=k+1:=by omega
 obtain⟨y,hy,y0,y1,ylo,yhi⟩:=Vt len
 refine⟨f,hf.symm,by omega,by omega,len,y,hy,?_⟩
 apply Bl
 intro hc
 have:pI k*(y+1)<=pI k*500000000:=oI (by omega) (rf hp)
 omega
def KK(N:Nat)(h2:T O)(n2 la:Nat)(A0:Int)(m:Nat)(r:T V)(st:St):Prop:=ad n2 st.w=[]/\ab h2 n2 st.h st.n/\∃u l,r.get 11=some u/\Own 1 3 n2 st.h st.n u (na l)/\l.length+m=la+1/\vI l=A0/\Di l
theorem Yff{N:Nat}{h2:T O}{n2 la:Nat}{A0:Int}{u0:V}{r0:T V}{Cl:List Int}(kp:Sl h2 n2 u0 (dI Cl))(Zy:Cl.length=la)(hl:la<1099511627776)(r0e:r0.get 0=some u0):
  ∀m r st,(∀t,iS [(11,11),(63,71)] t=false->r.get t=r0.get t)->Fx [(11,11),(63,71)] r0 206 ⟨r,206,[]⟩->KK N h2 n2 la A0 m r st->Code A.C none A.lL ⟨r,206,[]⟩ st (Rd [(11,11),(63,71)] r0 206 (KK N h2 n2 la A0) m (fun e r st=>e=.exit 0/\KK N h2 n2 la A0 0 r st)):=by
 rintro m r ⟨H,n1,W⟩ hr hf ⟨hW,hK,u,l,jM,ho,hm,hv,hd⟩
 simp only at hW hK ho
 have lu:=kp.len
 rw[gk,Zy]at lu
 have lo:=ho.len
 rw[z_]at lo
 rw[bA]
 cases m with
 |zero=>
  have:¬(l.length:Int)<(la:Int)+1:=by omega
  simp(disch:=first|(simp;done)|omega|rfl) [A.lL,hr,hf,r0e,jM,lu,lo,this]
  exact⟨hW,hK,u,l,by simp[jM],ho,hm,hv,hd⟩
 |succ m=>
  have h1:(l.length:Int)<(la:Int)+1:=by omega
  have eX:=hK.le
  obtain⟨v',h',w',e1,e2,e3,e4,e5⟩:=pU (x:=[.int .i64 0]) (u:=.slice n1 0 1 (some 1) 1) (bytes:=8) (w:=W) (ho.ae (ab.refl.new (.cells [.int .i64 0] 3 true))) (by omega) (by decide) rfl (by simp[eC,St.row,aJ]) (by rw[z_];omega)
  rw[<-BF]at e5
  simp(disch:=first|(simp;done)|omega|rfl) [A.lL,hr,hf,r0e,jM,lu,lo,h1,ag,e1]
  refine⟨m,by omega,⟨by rw[e2];exact hW,((hK.new _).then e3),v',l++[0],by simp,e5,by simp;omega,by rw[zV,hv];simp,hd.app (Di.one (by omega) (by omega))⟩⟩
theorem Yio{r:Nat}(h:r<1000000000):oM [(r:Int)]=ds r:=Dt (Di.one (by omega) (by omega)) (by simp[vI])
theorem KL{h:T O}{N:Nat}{u v:V}{a b:Nat}(hu:Dn h N u a)(hv:Dn h N v b)(hb:0<b)(hl:(ds a).length<1000000000000)(kl:(ds b).length<1000000000000):Fn A.C 228 [u,v] h N (fun x h' n'=>∃q r,x=.aZ [q,r]/\Dn h' n' q (a/b)/\Dn h' n' r (a%b)):=by
 intro w
 have lu:=hu.len
 have lv:=hv.len
 rw[gk]at lu lv
 rw[aR,A.k228 (by simp)]
 by_cases gT:a<b
 ·have nf:zt a b= -1:=by simp[zt,gT]
  have hc:=fun w=>Vd (w:=w) hu hv (by omega) (by omega)
  simp[A.b228,hc,nf,aA]
  refine⟨ab.refl,.aa,u,⟨rfl,rfl⟩,?_,?_⟩
  ·rw[wY gT];unfold Dn;rw[qA];exact Sl.nil
  ·rw[uU gT];exact hu
 ·have hba:b<=a:=by omega
  have jv:=rG hba
  have hc:=fun w=>Vd (w:=w) hu hv (by omega) (by omega)
  have Ao:¬zt a b<0:=by unfold zt;rw[au gT];split<;>omega
  have Hj:1<=(ds b).length:=by
   have:ds b≠[]:=fun hc=>by rw[zX]at hc;omega
   exact List.length_pos_iff.2 this
  by_cases hL:(ds b).length=1
  ·obtain⟨x,hx⟩:=bV (l:=ds b) (k:=0) (by omega)
   have hbx:ds b=[x]:=by
    cases hq:ds b with
    |nil=>rw[hq]at hL;simp at hL
    |cons y l=>
     rw[hq]at hL hx
     simp at hL hx
     rw[hL,hx]
   have y8:=fH b
   rw[hbx]at y8
   simp[vI]at y8
   have Kt:=(fA b).get hx
   obtain⟨b1,b2,b3,b4,b5,z1,z2,z3,z4⟩:=Sl.at (show Sl h N v (dI (ds b)) from hv) (fU hx)
   simp at z4
   simp[A.b228,hc,Ao,lv,hL,z1,z3,z4]
   refine ax (Znn (show Sl h N u (dI (ds a)) from hu) (fA a) (by omega) (by omega) Kt.2) ?_
   rintro y h1 n1 k1 ⟨q,rfl,hq⟩
   rw[fH]at hq
   simp only[fH]
   have e1:(a:Int).toNat=a:=by omega
   have e2:x.toNat=b:=by omega
   rw[e1,e2]at hq
   rw[e1,e2]
   have hRb:=jg a hb
   have hb9:b<1000000000:=by omega
   generalize hQ:a/b=Q at*
   generalize hR:a%b=R at*
   simp[ag]
   refine ax (Fa (l:=[(R:Int)]) (Sl.row (e:=3) (rw:=true) (cp:=some 1) (rR n1) (by simp[dI]) rfl (fun k hk=>by simp at hk;omega)) (by simp)) ?_
   rintro y2 h2 n2 k2 uf
   rw[Yio (by omega)]at uf
   have kk:=(ab.refl (h:=h1) (n:=n1)).new (.cells [.int .i64 (R:Int)] 3 true)
   simp[aA]
   exact⟨(k1.trans kk).trans k2,q,y2,⟨rfl,rfl⟩,hq.ae (kk.trans k2),uf⟩
  ·obtain⟨k,hk⟩:∃k,(ds b).length=k+2:=⟨(ds b).length-2,by omega⟩
   obtain⟨x,hx⟩:=bV (l:=ds b) (k:=k+1) (by omega)
   have Kt:=(fA b).get hx
   obtain⟨f,hf,f0,f1,hlen,y1,qh,Om⟩:=Ykk (k:=k+1) (by omega) hx
   obtain⟨b1,b2,b3,b4,b5,z1,z2,z3,z4⟩:=Sl.at (show Sl h N v (dI (ds b)) from hv) (fU hx)
   have c1:((k:Int)+2-1)=(k:Int)+1:=by omega
   have c2:(k:Int)+1<(k:Int)+2:=by omega
   have c3:¬((k:Int)+2=1):=by omega
   have c4:((k:Int)+1).toNat=k+1:=by omega
   have c5:(0:Int)<=(k:Int)+1:=by omega
   have w1:bn .i64 (x+1)=x+1:=cj (by omega) (by omega)
   have w2:(1000000000:Int).tdiv (x+1)=f:=by rw[hf];exact yA (by decide)
   have w3:bn .i64 (f:Int)=f:=cj (by omega) (by omega)
   have c6:¬x+1=0:=by omega
   rw[hk]at lv
   simp(disch:=omega) [A.b228,hc,Ao,lv,c1,c3,c4,z1,z3,z4,w1,w2,w3,ag]
   have k0:=(ab.refl (h:=h) (n:=N)).new (.cells [.int .i64 (f:Int)] 3 true)
   have sh:Sl (h.set N (.cells [.int .i64 (f:Int)] 3 true)) (N+1) (.slice N 0 1 (some 1) 1) (dI [(f:Int)]):=Sl.row (e:=3) (rw:=true) (rR N) (by simp[dI]) rfl (fun k hk=>by simp at hk;omega)
   have dF:Di [(f:Int)]:=Di.one (by omega) (by omega)
   refine ax (Vg (a:=b) (b:=f) (Sl.ae hv k0) sh (fA b) dF (fH b) (by simp[vI]) (by simp;omega)) ?_
   rintro vv h1 n1 k1 hvv
   have eR:=k1.le
   have lvv:=hvv.len
   have qO:(ds (b*f)).length=k+2:=by omega
   rw[gk,qO]at lvv
   simp[lvv]
   have k1a:=(ab.refl (h:=h1) (n:=n1)).new (.cells [] 3 true)
   refine ax (Vg (a:=a) (b:=f) (((Sl.ae hu k0).ae k1).ae k1a) ((sh.ae k1).ae k1a) (fA a) dF (fH a) (by simp[vI]) (by simp;omega)) ?_
   rintro uu h2 n2 k2 huu
   have f_:=k2.le
   have bJ:ds (a*f)≠[]:=fun hc=>by
    rw[zX]at hc
    have:0<a*f:=yH (by omega) f0
    omega
   have zaF:(ds (a*f)).length<=(ds a).length+1:=by
    apply Gd
    have g1:=rW (fA a)
    rw[fH,Yh8]at g1
    have g2:a<1000000000^(ds a).length:=by exact_mod_cast g1
    rw[fL]
    exact zG g2 f1
   have Vu:=(k2.get n1 (by omega)).trans (show _=some (.cells [] 3 true) by simp)
   have yZ:=Zsp (w:=[]) Vu huu bJ (by omega)
   simp[yZ]
   have wj:N<=n2:=by omega
   have J8:=(((k0.trans k1).trans k1a).trans k2)
   refine bQ [(11,11),(63,71)] (fun e r st=>e=.exit 0/\KK N h2 n2 (ds a).length ((a*f:Nat):Int) 0 r st) (KK N h2 n2 (ds a).length ((a*f:Nat):Int)) ((ds a).length+1-(ds (a*f)).length) ?_ ?_ ?_
   ·refine⟨by simp,ab.refl.new _,_,ds (a*f),by simp;rfl,⟨fun q hq=>?_,.inr ⟨n2,by rw[z_],aS _,by show n2<n2+1;omega,by simp[Rx]⟩⟩,by omega,fH _,fA _⟩
    simp[na]at hq
    obtain⟨q',_,rfl⟩:=hq
    rfl
   ·exact Yff (((Sl.ae hu k0).ae k1).ae k1a |>.ae k2) rfl (by omega) (by simp)
   ·rintro _ r ⟨H,n3,W⟩ hr ⟨rfl,hW,hK,u3,l,jM,ho,hm,ga,jx⟩
    simp only at hW hK ho
    obtain⟨_,⟨h0,_⟩|⟨iu,G0,i1,i2,i3⟩⟩:=ho
    ·simp[na]at h0;rw[h0]at hm;simp at hm
    ·rw[z_]at G0
     rw[Rx]at i3
     subst G0
     have Tr:l.length=(ds a).length+1:=by omega
     have hka:k+2<l.length:=by omega
     obtain⟨S,hS⟩:∃S,S=l.length-(k+2):=⟨_,rfl⟩
     have cS:((l.length:Int)-((k:Int)+2))=(S:Int):=by omega
     have oN:=KJ wj hW
     have kH:=hK.new (.cells (dI (List.replicate S 0)) 3 true)
     have eX:=hK.le
     have mz:(cN [.int .i64 0] S:List V)=dI (List.replicate S 0):=Rm
     simp(disch:=first|(simp;done)|omega|rfl) [hr,jM,cS,mz]
     have hvY:=Dn.ae hvv (k1a.trans k2)
     have zac:vI l=(a*f:Nat):=ga
     refine bQ [(13,21),(82,191)] (fun e r st=>e=.exit 2/\Kx N h2 n2 iu n3 (n3+1) l.length (k+2) ((a*f:Nat):Int) (ds (b*f)) 0 r st) (Kx N h2 n2 iu n3 (n3+1) l.length (k+2) ((a*f:Nat):Int) (ds (b*f))) S ?_ ?_ ?_
     ·refine⟨l,List.replicate S 0,⟨oN,kH,rfl,?_,by simp⟩,by simp,rfl,by simp[hS],by omega,jx,Di.BC _,fun s h1 h2=>by omega,?_,fun s hs=>by simp[hs],by rw[Ri,ga];simp⟩
      ·rw[T.ai,au (by omega)];exact i3
      ·obtain⟨x',mR,x0,x1,lo,hi⟩:=Vt (b:=b) (k:=k+1) (by omega)
       have g1:=rW (fA a)
       rw[fH,show (ds a).length=S+(k+1) by omega,LR]at g1
       have g2:=HT l S (by omega)
       have g3:=rV (jx.take S)
       have g4:pI (k+1)*1<=pI (k+1)*x':=oI (by omega) (rf (zU _))
       have g5:pI S*pI (k+1)<=pI S*b:=oI (by omega) (rf (zU _))
       have g6:(a:Int)*f<pI S*b*f:=Int.mul_lt_mul_of_pos_right (by omega) (by omega)
       rw[fH]
       apply FW
       intro hc
       have g7:pI S*((b*f:Nat):Int)<=pI S*vI (l.drop S):=oI hc (rf (zU _))
       have g8:pI S*((b*f:Nat):Int)=pI S*b*f:=by push_cast;grind
       have g9:((a*f:Nat):Int)=(a:Int)*f:=by push_cast;rfl
       omega
     ·exact Yfh hvY qO (fA _) qh Om hka (by omega) (by simp[hr]) (by simp[hr]) (by simp[jM]) (by simp[hS]) wj i1 i2 (rR n3)
     ·rintro _ r4 ⟨H4,n4,W4⟩ Ck ⟨rfl,U,Q,⟨Ek,Hi,KC,KD,KE⟩,rH,hUl,hQl,_,dU,dQ,hz,uL,_,ic⟩
      simp only at Ek Hi KC KD KE
      subst KC
      rw[yF]at uL
      rw[fH]at uL ic
      obtain⟨qn,hqn⟩:=Bi (rV dQ)
      obtain⟨un,Vv⟩:=Bi (rV dU)
      rw[hqn,Vv]at ic
      rw[Vv]at uL
      have ze:un+b*f*qn=a*f:=by exact_mod_cast ic
      have vd:un<b*f:=by exact_mod_cast uL
      have m1:a/b=qn:=by
       have:a*f/(b*f)=qn:=by
        rw[<-ze,Nat.add_mul_div_left _ _ (by omega),wY vd,rT]
       rw[<-this,LK _ _ f0]
      have m2:un/f=a%b:=by
       have:a*f%(b*f)=un:=by rw[<-ze,Nat.add_mul_mod_self_left,uU vd]
       rw[<-this,HN,Nat.mul_div_cancel _ f0]
      have Tz:Sl H4 (n3+1) (.slice iu 0 l.length none 1) (dI U):=Sl.row (by omega) KD (by simp[hUl]) (fun k hk=>by cases hk)
      have hsQ:Sl H4 (n3+1) (.slice n3 0 S (some S) 1) (dI Q):=Sl.row (by omega) KE (by simp[hQl,hS]) (fun k hk=>by simp at hk;omega)
      obtain⟨v',e1,e2⟩:=MY (w:=[]) Tz (lo:=0) (hi:=k+2) (by omega) (by rw[gk];omega) none (some (.int .i64 ((k+2:Nat):Int))) (.inr ⟨rfl,rfl⟩) (.inl rfl)
      have e3:((dI U).take (k+2)).drop 0=dI (U.take (k+2)):=by rw[yF,dI,<-List.map_take];rfl
      rw[e3]at e2
      have ck:((k+2:Nat):Int)=(k:Int)+2:=by omega
      rw[ck]at e1
      have Vw:=(Hi.get N (by omega)).trans ((k2.get N (by omega)).trans ((show _=h1.get N by simp;omega).trans ((k1.get N (by omega)).trans (show _=some (.cells [.int .i64 (f:Int)] 3 true) by simp))))
      have Vx:vI (U.take (k+2))=un:=by
       rw[<-Vv]
       exact(Rq (fun t h1 h2=>hz t (by omega) (by omega))).symm
      simp[hr,Ck,jM,Jn,ay,e1]
      refine ax (Fa e2 (by simp;omega)) ?_
      rintro y5 h5 n5 k5 KM
      rw[Dt (dU.take _) Vx]at KM
      have Ev:=k5.le
      have KN:=(k5.get N (by omega)).trans Vw
      have lt5:N<n5:=by omega
      have lt4:iu<n3+1:=by omega
      have KO:(ds un).length<1099511627776:=by
       have:(ds un).length<=(ds (b*f)).length:=rG (by omega)
       omega
      simp[hr,Ck,KN]
      refine ax (Znn (d:=(f:Int)) KM (fA un) KO (by omega) (by omega)) ?_
      rintro y6 h6 n6 k6 ⟨q6,rfl,JO⟩
      have t1:(vI (ds un)).toNat=un:=by rw[fH];omega
      have t2:((f:Nat):Int).toNat=f:=by omega
      rw[t1,t2]at JO
      rw[m2]at JO
      generalize ((vI (ds un)).toNat%(f:Int).toNat)=ZZ
      simp[Ck,lt5]
      refine ax (Fa ((hsQ.ae k5).ae k6) (by omega)) ?_
      rintro y7 h7 n7 k7 hy7
      rw[Dt dQ hqn]at hy7
      have oN4:ad N W4=[]:=Ek
      have Vy:=(((J8.trans Hi).trans k5).trans k6).trans k7
      simp[aA,oN4]
      refine⟨Vy,y7,q6,⟨rfl,rfl⟩,?_,?_⟩
      ·rw[m1];exact hy7
      ·exact Sl.ae JO k7
end Go.Mx
