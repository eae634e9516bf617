/-lensletref01-/
import Derived.Test.YteoackkadadmdaaGreatDoorRcB
set_option linter.all false
namespace Go.Mx
open Go Go.Proofs
set_option maxRecDepth 1000000
def A.nf:av:=.seq (sr [mv 148 20,mv 149 10,bi 150 .lss 148 149]
 (cd 150
 (.skip)
 (.exit 6)))
 (.seq (.block 7 (.seq (.aX [mv 153 11,mv 154 20,mv 155 13,bi 156 .add 154 155,ia 157 1 153 156,ld 158 157,mv 159 9,mv 160 20,ia 161 1 159 160,ld 162 161,bi 163 .add 158 162,mv 164 19,bi 165 .add 163 164,mv 21 165] [0,0,0,6,15,31,0,0,192,448,1023,0,4095,8191])
 (sr [mv 166 11,mv 167 20,mv 168 13,bi 169 .add 167 168,mv 170 21,bc 171 .rem 170 1000000000,ia 172 1 166 169,so 172 171]
 (.aR [mv 173 21,bc 174 .quo 173 1000000000,mv 19 174]))))
 (.aR [mv 151 20,bc 152 .add 151 1,mv 20 152]))
def A.jL:av:=.seq (sr [mv 90 16,mv 91 10,bi 92 .lss 90 91]
 (cd 92
 (.skip)
 (.exit 4)))
 (.seq (.block 5 (sr [mv 95 14,mv 96 9,mv 97 16,ia 98 1 96 97,ld 99 98,bi 100 .mul 95 99,mv 101 15,bi 102 .add 100 101,mv 17 102]
 (sr [mv 103 11,mv 104 16,mv 105 13,bi 106 .add 104 105,ia 107 1 103 106,ld 108 107,mv 109 17,bc 110 .rem 109 1000000000,bi 111 .sub 108 110,mv 18 111]
 (sr [mv 112 17,bc 113 .quo 112 1000000000,mv 15 113]
 (.seq (sr [mv 114 18,bc 115 .lss 114 0]
 (cd 115
 (sr [mv 116 18,bc 117 .add 116 1000000000,mv 18 117]
 (.aR [mv 118 15,bc 119 .add 118 1,mv 15 119]))
 (.skip)))
 (.aR [mv 120 11,mv 121 16,mv 122 13,bi 123 .add 121 122,mv 124 18,ia 125 1 120 123,so 125 124]))))))
 (.aR [mv 93 16,bc 94 .add 93 1,mv 16 94]))
def A.nh:av:=.seq (sr [mv 82 13,bc 83 .geq 82 0]
 (cd 83
 (.skip)
 (.exit 2)))
 (.seq (.block 3 (sr [mv 86 11,mv 87 9,mv 88 13,ge 89 (.call (fq 225) [tq 86,tq 87,tq 88]),mv 14 89]
 (sr [mc 15 0]
 (.seq (sr [mc 16 0]
 (.block 4 (.loop A.jL)))
 (sr [mv 126 11,mv 127 13,mv 128 10,bi 129 .add 127 128,mv 130 11,mv 131 13,mv 132 10,bi 133 .add 131 132,ia 134 1 130 133,ld 135 134,mv 136 15,bi 137 .sub 135 136,ia 138 1 126 129,so 138 137]
 (.seq (sr [mv 139 11,mv 140 13,mv 141 10,bi 142 .add 140 141,ia 143 1 139 142,ld 144 143,bc 145 .lss 144 0]
 (cd 145
 (sr [mv 146 14,bc 147 .sub 146 1,mv 14 147]
 (sr [mc 19 0]
 (.seq (sr [mc 20 0]
 (.block 6 (.loop A.nf)))
 (.aR [mv 175 11,mv 176 13,mv 177 10,bi 178 .add 176 177,mv 179 11,mv 180 13,mv 181 10,bi 182 .add 180 181,ia 183 1 179 182,ld 184 183,mv 185 19,bi 186 .add 184 185,ia 187 1 175 178,so 187 186]))))
 (.skip)))
 (.aR [mv 188 12,mv 189 13,mv 190 14,ia 191 1 188 189,so 191 190])))))))
 (.aR [mv 84 13,bc 85 .sub 84 1,mv 13 85]))
def A.nj:av:=.seq (sr [mv 63 11,ln 64 63,mv 65 0,ln 66 65,bc 67 .add 66 1,bi 68 .lss 64 67]
 (cd 68
 (.skip)
 (.exit 0)))
 (.block 1 (.aR [mv 69 11,ge 70 (.aV 3 1 1 [.int .i64 0] [(0,1,(kq 0))]),ge 71 (.append 1 8 3 [.int .i64 0] (tq 69) (tq 70)),mv 11 71]))
def A.b175:av:=sr [mN 4,mN 5]
 (.seq (sr [mv 24 0,mv 25 1,c2 26 221 24 25,bc 27 .lss 26 0]
 (cd 27
 (sr [mv 28 0,mN 4,mv 5 28]
 (.ret))
 (.skip)))
 (.seq (sr [mv 29 1,ln 30 29,ei 31 30 1]
 (cd 31
 (sr [mv 33 0,mv 34 1,ge 35 (.aU 1 (tq 34) (kq 0)),ld 36 35,c2 37 222 33 36,mv 32 37,xt 38 32 0,xt 39 32 1,mv 6 38,mv 7 39]
 (sr [mv 40 6,mv 41 7,ge 42 (.aV 3 1 1 [.int .i64 0] [(0,1,(tq 41))]),c1 43 223 42,mv 4 40,mv 5 43]
 (.ret)))
 (.skip)))
 (sr [mv 44 1,mv 45 1,ln 46 45,bc 47 .sub 46 1,ia 48 1 44 47,ld 49 48,bc 50 .add 49 1,ge 51 (.bin .quo (.node []) false (kq 1000000000) (tq 50)),ge 52 (.aV 3 1 1 [.int .i64 0] [(0,1,(tq 51))]),mv 8 52]
 (sr [mv 53 1,mv 54 8,c2 55 224 53 54,mv 9 55]
 (sr [mv 56 9,ln 57 56,mv 10 57]
 (sr [ge 58 (.aV 3 1 0 [] []),mv 59 0,mv 60 8,c2 61 224 59 60,ge 62 (.append 1 8 3 [.int .i64 0] (tq 58) (tq 61)),mv 11 62]
 (.seq (.block 0 (.loop A.nj))
 (sr [mv 72 11,ln 73 72,mv 74 10,bi 75 .sub 73 74,ge 76 (.bY 3 1 8 [.int .i64 0] (tq 75) (tq 75)),mv 12 76]
 (.seq (sr [mv 77 11,ln 78 77,mv 79 10,bi 80 .sub 78 79,bc 81 .sub 80 1,mv 13 81]
 (.block 2 (.loop A.nh)))
 (.seq (.aX [mv 193 11,mv 194 10,ge 195 (.cQ 1 (tq 193) none (some (tq 194)) none),c1 196 223 195,mv 197 8,ge 198 (.aU 1 (tq 197) (kq 0)),ld 199 198,c2 200 222 196 199,mv 192 200,xt 201 192 0,xt 202 192 1,mv 22 201,mv 23 202] [0,0,3,7,0,16,48,127,255,511,511,1023,4095])
 (sr [mv 203 12,c1 204 223 203,mv 205 22,mv 4 204,mv 5 205]
 (.ret))))))))))))
def A.c175:A.F 175=some ⟨206,[.tmp 4,.tmp 5],A.b175⟩:=by kernel_rfl
def A.k175:=@A.kk 175 _ _ _ A.c175 rfl
structure Xy (N:Nat) (h2:T O) (n2 iu iq n:Nat) (U Q:List Int) (st:St):Prop where
 w:ax N st.w=[]
 ae:ab h2 n2 st.h n
 n:st.n=n
 ru:st.h.get iu=some (.cells (dI U) 3 true)
 rq:st.h.get iq=some (.cells (dI Q) 3 true)
structure DvR (r0:T V) (v:V) (iu lu L j:Nat):Prop where
 r9:r0.get 9=some v
 tn:r0.get 10=some (.int .i64 L)
 vA:r0.get 11=some (.slice iu 0 lu none 1)
 tX:r0.get 13=some (.int .i64 j)
structure MH (N:Nat) (h2:T O) (n2 iu iq n:Nat) (U Q Y:List Int) (L j:Nat) (t:Int) (m:Nat) (r:T V) (st:St):Prop where
 ex:∃i U' c,i+m=L/\r.get 16=some (.int .i64 i)/\r.get 15=some (.int .i64 c)/\0<=c/\c<=1000000000/\Xy N h2 n2 iu iq n U' Q st/\U'.length=U.length/\(∀s,(s<j\/j+i<=s)->U'[s]?=U[s]?)/\Di U'/\vI U'-pI (j+i)*c=vI U-pI j*(t*vI (Y.take i))
def Ygj{N:Nat}{h2:T O}{n2 iu iq n:Nat}{U Q Y:List Int}{L j:Nat}{t:Int}{v:V}{r0:T V}(hv:Sl h2 n2 v (dI Y))(hY:Y.length=L)(dY:Di Y)(Gy:j+L<U.length)(AB:U.length<1099511627776)(R:DvR r0 v iu U.length L j)(I9:r0.get 14=some (.int .i64 t))(t0:0<=t)(t1:t<=1000000000)(a1:N<=n2)(a2:n2<=iu)(a3:iu<iq)(a4:iq<n):
  ∀k r st,(∀t,jD [(15,18),(90,125)] t=false->r.get t=r0.get t)->Fx [(15,18),(90,125)] r0 206 ⟨r,206,[]⟩->MH N h2 n2 iu iq n U Q Y L j t k r st->Code A.C none A.jL ⟨r,206,[]⟩ st (Rd [(15,18),(90,125)] r0 206 (MH N h2 n2 iu iq n U Q Y L j t) k (fun e r st=>e=.exit 4/\MH N h2 n2 iu iq n U Q Y L j t 0 r st)):=by
 rintro m r ⟨H,n1,W⟩ hr hf ⟨i,U',c,hi,MI,CL,c0,c1,⟨hW,hK,hn,ru,rq⟩,iT,eA,iE,gZ⟩
 simp only at hW hK hn ru rq
 subst hn
 obtain⟨r9,tn,vA,tX⟩:=R
 rw[bq]
 cases m with
 |zero=>
  have:i=L:=by omega
  subst this
  simp[A.jL,hr,hf,MI,tn]
  exact⟨i,U',c,by omega,by simp[MI],by simp[CL],c0,c1,⟨hW,hK,rfl,ru,rq⟩,iT,eA,iE,gZ⟩
 |succ m=>
  obtain⟨y,hy⟩:=bp (l:=Y) (k:=i) (by omega)
  have lv:=hv.len
  rw[gk,hY]at lv
  obtain⟨b1,b2,b3,b4,b5,z1,z2,z3,z4⟩:=hv.at (gl hy)
  have z3:=(hK.get _ z2).trans z3
  have Jq:=dY.get hy
  obtain⟨o,ho⟩:=bp (l:=U') (k:=i+j) (by omega)
  have hod:=iE.get ho
  have yF:(i:Int)<(L:Int):=by omega
  have CD:i<L:=by omega
  have p0:0<=t*y:=wL t0 Jq.1
  have p1:t*y<=1000000000*999999999:=Int.mul_le_mul t1 (by omega) Jq.1 (by omega)
  have q1:(i:Int)+(j:Int)<(U.length:Int):=by omega
  have q2:i+j<U.length:=by omega
  have q3:(0:Int)<=(i:Int)+(j:Int):=by omega
  have nn:¬iu<N:=by omega
  have w8:=gk U'
  have Xz:=B6 ho
  have MJ:=yx hy
  have hp:=OE i j
  have tI:=uO (j+i)
  generalize hP:t*y=P at*
  have b1':bu .i64 P=P:=cF (by omega) (by omega)
  have b2':bu .i64 (P+c)=P+c:=cF (by omega) (by omega)
  have Qo:(P+c).tmod 1000000000=(P+c)%1000000000:=Ds (by omega)
  have Qp:(P+c).tdiv 1000000000=(P+c)/1000000000:=AK (by omega)
  have hm:=Dv (P+c) 1000000000
  have e0:=Dy (P+c) (b:=1000000000) (by decide)
  have e1:=Dw (P+c) (b:=1000000000) (by decide)
  have key:∀(x' c':Int),x'-1000000000*c'=o-(P+c)->vI (U'.set (i+j) x')-pI (j+(i+1))*c'=vI U-pI j*(t*vI (Y.take (i+1))):=by
   intro x' c' hx
   rw[Xz,MJ,show j+(i+1)=j+i+1 by omega,tI,show i+j=j+i by omega]
   have h3:vI U'=vI U-pI j*(t*vI (Y.take i))+pI (j+i)*c:=by omega
   have h4:x'=o-(P+c)+1000000000*c':=by omega
   rw[h3,h4,show j+i=i+j by omega,hp,<-hP]
   grind
  have same:∀(x':Int) (s:Nat),(s<j\/j+(i+1)<=s)->(U'.set (i+j) x')[s]?=U[s]?:=by
   intro x' s hs
   rw[ec (by omega)]
   exact eA s (by omega)
  generalize (P+c)/1000000000=D at*
  generalize (P+c)%1000000000=M at*
  have b3':bu .i64 D=D:=cF (by omega) (by omega)
  have b4':bu .i64 (o-M)=o-M:=cF (by omega) (by omega)
  have d4:b1<n1:=by have:=hK.le;omega
  have d5:¬iq=iu:=by omega
  by_cases eh:o-M<0
  ·have b5':bu .i64 (o-M+1000000000)=o-M+1000000000:=cF (by omega) (by omega)
   have b6':bu .i64 (D+1)=D+1:=cF (by omega) (by omega)
   have w7:=AX (l:=U') (k:=i+j) (v:=o-M+1000000000) (by omega)
   simp(disch:=first|(simp;done)|omega|rfl) [-getElem?_pos,A.jL,hr,hf,MI,CL,r9,tn,vA,tX,I9,yF,lv,ru,gl ho,z1,z3,z4,hP,b1',b2',b3',b4',b5',b6',Qo,Qp,eh,w7]
   refine⟨m,by omega,⟨i+1,U'.set (i+j) (o-M+1000000000),D+1,by omega,by simp,by simp,by omega,by omega,⟨by simp[ax,hW,nn],hK.set (by omega),rfl,by simp,by simp[d5,rq]⟩,by simp[iT],same _,iE.set (by omega) (by omega),key _ _ (by omega)⟩⟩
  ·have w7:=AX (l:=U') (k:=i+j) (v:=o-M) (by omega)
   simp(disch:=first|(simp;done)|omega|rfl) [-getElem?_pos,A.jL,hr,hf,MI,CL,r9,tn,vA,tX,I9,yF,lv,ru,gl ho,z1,z3,z4,hP,b1',b2',b3',b4',Qo,Qp,eh,w7]
   refine⟨m,by omega,⟨i+1,U'.set (i+j) (o-M),D,by omega,by simp,by simp,by omega,by omega,⟨by simp[ax,hW,nn],hK.set (by omega),rfl,by simp,by simp[d5,rq]⟩,by simp[iT],same _,iE.set (by omega) (by omega),key _ _ (by omega)⟩⟩
structure MK (N:Nat) (h2:T O) (n2 iu iq n:Nat) (U Q Y:List Int) (L j:Nat) (m:Nat) (r:T V) (st:St):Prop where
 ex:∃i U' c,i+m=L/\r.get 20=some (.int .i64 i)/\r.get 19=some (.int .i64 c)/\0<=c/\c<=1/\Xy N h2 n2 iu iq n U' Q st/\U'.length=U.length/\(∀s,(s<j\/j+i<=s)->U'[s]?=U[s]?)/\(∀(s:Nat) (d:Int),s≠j+L->U'[s]?=some d->0<=d/\d<1000000000)/\vI U'+pI (j+i)*c=vI U+pI j*vI (Y.take i)
def Yjs{N:Nat}{h2:T O}{n2 iu iq n:Nat}{U Q Y:List Int}{L j:Nat}{v:V}{r0:T V}(hv:Sl h2 n2 v (dI Y))(hY:Y.length=L)(dY:Di Y)(Gy:j+L<U.length)(AB:U.length<1099511627776)(R:DvR r0 v iu U.length L j)(a1:N<=n2)(a2:n2<=iu)(a3:iu<iq)(a4:iq<n):
  ∀k r st,(∀t,jD [(19,21),(148,174)] t=false->r.get t=r0.get t)->Fx [(19,21),(148,174)] r0 206 ⟨r,206,[]⟩->MK N h2 n2 iu iq n U Q Y L j k r st->Code A.C none A.nf ⟨r,206,[]⟩ st (Rd [(19,21),(148,174)] r0 206 (MK N h2 n2 iu iq n U Q Y L j) k (fun e r st=>e=.exit 6/\MK N h2 n2 iu iq n U Q Y L j 0 r st)):=by
 rintro m r ⟨H,n1,W⟩ hr hf ⟨i,U',c,hi,Qq,Qr,c0,c1,⟨hW,hK,hn,ru,rq⟩,iT,eA,iE,gZ⟩
 simp only at hW hK hn ru rq
 subst hn
 obtain⟨r9,tn,vA,tX⟩:=R
 rw[bq]
 cases m with
 |zero=>
  have:i=L:=by omega
  subst this
  simp[A.nf,hr,hf,Qq,tn]
  exact⟨i,U',c,by omega,by simp[Qq],by simp[Qr],c0,c1,⟨hW,hK,rfl,ru,rq⟩,iT,eA,iE,gZ⟩
 |succ m=>
  obtain⟨y,hy⟩:=bp (l:=Y) (k:=i) (by omega)
  have lv:=hv.len
  rw[gk,hY]at lv
  obtain⟨b1,b2,b3,b4,b5,z1,z2,z3,z4⟩:=hv.at (gl hy)
  have z3:=(hK.get _ z2).trans z3
  have Jq:=dY.get hy
  obtain⟨o,ho⟩:=bp (l:=U') (k:=i+j) (by omega)
  have hod:=iE _ _ (by omega) ho
  have yF:(i:Int)<(L:Int):=by omega
  have CD:i<L:=by omega
  have q1:(i:Int)+(j:Int)<(U.length:Int):=by omega
  have q2:i+j<U.length:=by omega
  have q3:(0:Int)<=(i:Int)+(j:Int):=by omega
  have nn:¬iu<N:=by omega
  have w8:=gk U'
  have Xz:=B6 ho
  have MJ:=yx hy
  have hp:=OE i j
  have tI:=uO (j+i)
  have b1':bu .i64 (o+y)=o+y:=cF (by omega) (by omega)
  have b2':bu .i64 (o+y+c)=o+y+c:=cF (by omega) (by omega)
  have Qo:(o+y+c).tmod 1000000000=(o+y+c)%1000000000:=Ds (by omega)
  have Qp:(o+y+c).tdiv 1000000000=(o+y+c)/1000000000:=AK (by omega)
  have hm:=Dv (o+y+c) 1000000000
  have e0:=Dy (o+y+c) (b:=1000000000) (by decide)
  have e1:=Dw (o+y+c) (b:=1000000000) (by decide)
  have w7:=AX (l:=U') (k:=i+j) (v:=(o+y+c)%1000000000) (by omega)
  have d4:b1<n1:=by have:=hK.le;omega
  have d5:¬iq=iu:=by omega
  have d6:iu<n1:=by omega
  have b3':bu .i64 ((o+y+c)/1000000000)=(o+y+c)/1000000000:=cF (by omega) (by omega)
  simp(disch:=first|(simp;done)|omega|rfl) [-getElem?_pos,A.nf,hr,hf,Qq,Qr,r9,tn,vA,tX,yF,lv,ru,gl ho,z1,z3,z4,b1',b2',b3',Qo,Qp,w7,d4,d6]
  generalize (o+y+c)/1000000000=D at*
  generalize (o+y+c)%1000000000=M at*
  refine⟨m,by omega,⟨i+1,U'.set (i+j) M,D,by omega,by simp,by simp,by omega,by omega,⟨by simp[ax,hW,nn],hK.set (by omega),rfl,by simp,by simp[d5,rq]⟩,by simp[iT],fun s hs=>?_,fun s d hs hd=>?_,?_⟩⟩
  ·rw[ec (by omega)]
   exact eA s (by omega)
  ·by_cases hsi:s=i+j
   ·subst hsi
    rw[iI (by omega)]at hd
    simp at hd
    omega
   ·rw[ec (fun h=>hsi h.symm)]at hd
    exact iE s d hs hd
  ·rw[Xz,MJ,show j+(i+1)=j+i+1 by omega,tI,show i+j=j+i by omega]
   have h3:vI U'=vI U+pI j*vI (Y.take i)-pI (j+i)*c:=by omega
   have h4:M=o+y+c-1000000000*D:=by omega
   rw[h3,h4,show j+i=i+j by omega,hp]
   grind
def Yng{l:List Int}{d:Int}(h:d∈l):∃s:Nat,l[s]?=some d:=zb h
def Yro{l:List Int}(h:∀(s:Nat) (d:Int),l[s]?=some d->0<=d/\d<1000000000):Di l:=fun d hd=>by
 obtain⟨s,hs⟩:=Yng hd
 exact h s d hs
def Zxh{U U2:List Int}{j:Nat}{X:Int}(hj:j<=U.length)(hl:U2.length=U.length)(hs:∀s,s<j->U2[s]?=U[s]?)(hv:vI U2=vI U-pI j*X):vI (U2.drop j)=vI (U.drop j)-X:=by
 have h1:=Kk U j hj
 have h2:=Kk U2 j (by omega)
 have h3:U2.take j=U.take j:=by
  apply nD
  intro s
  rw[iy,iy]
  by_cases h:s<j
  ·rw[aF h,aF h];exact hs s h
  ·rw[ar h,ar h]
 rw[h3]at h2
 have h4:pI j*vI (U2.drop j)=pI j*(vI (U.drop j)-X):=by
  have:pI j*(vI (U.drop j)-X)=pI j*vI (U.drop j)-pI j*X:=by grind
  omega
 exact Int.eq_of_mul_eq_mul_left (Int.ne_of_gt (B4 j)) h4
def Yjy{U:List Int}{j L:Nat}{tt:Int}(hd:∀(s:Nat) (d:Int),s<j+L->U[s]?=some d->0<=d/\d<1000000000)(ht:U[j+L]?=some tt)(hz:∀s,j+L<s->s<U.length->U[s]?=some 0)(ay:vI (U.drop j)<pI L):(0<=vI (U.drop j)->tt=0)/\(vI (U.drop j)<0->tt<0):=by
 refine Ygd (w:=U.drop j) (n:=L) ?_ (by rw[fh];exact ht) ?_ ay
 ·refine Yro fun s d hs=>?_
  by_cases h:s<L
  ·rw[iy,aF h,fh]at hs
   exact hd (j+s) d (by omega) hs
  ·rw[iy,ar h]at hs;cases hs
 ·intro s h1 h2
  rw[fh]
  exact hz (j+s) (by omega) (by simp at h2;omega)
structure ML (N:Nat) (h2:T O) (n2 iu iq n lu L:Nat) (A0:Int) (Y:List Int) (m:Nat) (r:T V) (st:St):Prop where
 ex:∃U Q,Xy N h2 n2 iu iq n U Q st/\r.get 13=some (.int .i64 ((m:Int)-1))/\U.length=lu/\Q.length=lu-L/\m<=lu-L/\Di U/\Di Q/\(∀s,m+L<=s->s<lu->U[s]?=some 0)/\vI (U.drop m)<vI Y/\(∀s,s<m->Q[s]?=some 0)/\vI U+vI Y*vI Q=A0
def Yhh{N:Nat}{h2:T O}{n2 iu iq n lu k:Nat}{A0 v1:Int}{Y:List Int}{v:V}{r0:T V}(hv:Sl h2 n2 v (dI Y))(hY:Y.length=k+2)(dY:Di Y)(nK:Y[k+1]?=some v1)(h5:500000000<=v1)(ue:k+2<lu)(AB:lu<1099511627776)(r9:r0.get 9=some v)(tn:r0.get 10=some (.int .i64 (k+2:Nat)))(vA:r0.get 11=some (.slice iu 0 lu none 1))(GY:r0.get 12=some (.slice iq 0 (lu-(k+2)) (some (lu-(k+2))) 1))(a1:N<=n2)(a2:n2<=iu)(a3:iu<iq)(a4:iq<n):
  ∀m r st,(∀t,jD [(13,21),(82,191)] t=false->r.get t=r0.get t)->Fx [(13,21),(82,191)] r0 206 ⟨r,206,[]⟩->ML N h2 n2 iu iq n lu (k+2) A0 Y m r st->Code A.C none A.nh ⟨r,206,[]⟩ st (Rd [(13,21),(82,191)] r0 206 (ML N h2 n2 iu iq n lu (k+2) A0 Y) m (fun e r st=>e=.exit 2/\ML N h2 n2 iu iq n lu (k+2) A0 Y 0 r st)):=by
 rintro m r ⟨H,n1,W⟩ hr hf ⟨U,Q,⟨hW,hK,hn,ru,rq⟩,tX,iT,XA,hm,dU,dQ,hz,xo,MM,gZ⟩
 simp only at hW hK hn ru rq
 subst hn
 rw[bq]
 cases m with
 |zero=>
  simp[A.nh,hf,tX]
  exact⟨U,Q,⟨hW,hK,rfl,ru,rq⟩,by simp[tX],iT,XA,hm,dU,dQ,hz,xo,MM,gZ⟩
 |succ j=>
  have xR:(((j+1:Nat):Int)-1)=(j:Int):=by omega
  rw[xR]at tX
  have Gi:(0:Int)<=(j:Int):=by omega
  obtain⟨v2,jt⟩:=bp (l:=Y) (k:=k) (by omega)
  obtain⟨d1,e1⟩:=bp (l:=U) (k:=j+k) (by omega)
  obtain⟨d2,e2⟩:=bp (l:=U) (k:=j+k+1) (by omega)
  obtain⟨d3,e3⟩:=bp (l:=U) (k:=j+k+2) (by omega)
  obtain⟨x0,oM⟩:=bp (l:=U) (k:=j) (by omega)
  have hWt:=Ylh (w:=U.drop j) (k:=k) (a:=d1) (c:=d2) (d:=d3) (by rw[fh];exact e1) (by rw[fh,<-pw];exact e2) (by rw[fh,<-pw];exact e3) (fun t h1 h2=>by rw[fh];exact hz _ (by omega) (by simp at h2;omega))
  have hDt:=Yli jt nK hY
  have hWd:vI (U.drop j)<1000000000*vI Y:=by
   rw[jq oM,vI]
   have:=dU.get oM
   omega
  have hUk:=uQ ((dU.drop j).take k)
  rw[gm,xE,py (by omega)]at hUk
  have hVk:=uQ (dY.take k)
  rw[gm,py (by omega)]at hVk
  obtain⟨t,hg,t0,t1,fL,gH⟩:=Yio (w:=W) (Sl.row (cp:=none) (L:=lu) (show iu<n1 by omega) ru (by simp[iT]) (fun k hk=>by cases hk)) (hv.ae hK) hY (by omega) e1 e2 e3 jt nK (dU.get e1) (dU.get e2) (dU.get e3) ⟨h5,(dY.get nK).2⟩ (dY.get jt) (B4 k) (uP ((dU.drop j).take k)) hUk (uP (dY.take k)) hVk hWt hDt hWd
  have hVl:=uQ dY
  rw[hY]at hVl
  have hVp:0<vI Y:=by have:=uP (dU.drop (j+1));omega
  simp[A.nh,hr,tX,Gi,r9,vA,hg]
  refine bP [(15,18),(90,125)] (fun e r st=>e=.exit 4/\MH N h2 n2 iu iq n1 U Q Y (k+2) j t 0 r st) (MH N h2 n2 iu iq n1 U Q Y (k+2) j t) (k+2) ?_ ?_ ?_
  ·exact⟨0,U,0,by omega,by simp,by simp,by omega,by omega,⟨hW,hK,rfl,ru,rq⟩,rfl,fun _ _=>rfl,dU,by simp[vI]⟩
  ·exact Ygj hv hY dY (by omega) (by omega) ⟨by simp[hr,r9],by simp[hr,tn],by simp[hr,vA,iT],by simp[tX]⟩ (by simp) t0 t1 a1 a2 a3 a4
  ·rintro _ r2 ⟨H2,n3,W2⟩ dK ⟨rfl,i,U',c,hi,MI,CL,c0,c1,⟨dX,eN,ff,XB,XC⟩,uo,eA,kp,MN⟩
   simp only at dX eN ff XB XC
   subst ff
   obtain rfl:i=k+2:=by omega
   have CV:=hf.inner (D':=[(15,18),(90,125)]) rfl (by simp) dK
   rw[<-hY,wo,hY]at MN
   have XD:U'[j+(k+2)]?=some d3:=by rw[eA _ (.inr (aW _))];rw[<-pw];exact e3
   have Wf:=dU.get e3
   have q1:(j:Int)+((k:Int)+2)<(lu:Int):=by omega
   have q2:j+(k+2)<lu:=by omega
   have q3:(0:Int)<=(j:Int)+((k:Int)+2):=by omega
   have q4:((j:Int)+((k:Int)+2)).toNat=j+(k+2):=by omega
   have w8:=gk U'
   have b1':bu .i64 (d3-c)=d3-c:=cF (by omega) (by omega)
   have w7:=AX (l:=U') (k:=j+(k+2)) (v:=d3-c) (by omega)
   have nn:¬iu<N:=by omega
   have d5:¬iq=iu:=by omega
   have d6:¬iu=iq:=by omega
   have nq:¬iq<N:=by omega
   have v2e:vI (U'.set (j+(k+2)) (d3-c))=vI U-pI j*(t*vI Y):=by
    rw[B6 XD]
    have:pI (j+(k+2))*(d3-c-d3)= -(pI (j+(k+2))*c):=by grind
    omega
   have nO:∀s,s<j->(U'.set (j+(k+2)) (d3-c))[s]?=U[s]?:=fun s hs=>by
    rw[ec (by omega)];exact eA s (.inl hs)
   have ed:∀s,j+(k+2)<s->s<lu->(U'.set (j+(k+2)) (d3-c))[s]?=some 0:=fun s h1 h2=>by
    rw[ec (by omega),eA s (.inr (by omega))];exact hz s (by omega) h2
   have wA:=Zxh (by omega) (by simp[uo]) nO v2e
   have jM:(U'.set (j+(k+2)) (d3-c))[j+(k+2)]?=some (d3-c):=iI (by omega)
   have cW:vI ((U'.set (j+(k+2)) (d3-c)).drop j)<vI Y:=by
    rw[wA]
    have:(t+1)*vI Y=t*vI Y+vI Y:=by grind
    omega
   have XE:=Yjy (U:=U'.set (j+(k+2)) (d3-c)) (fun s d hs hd=>by
    rw[ec (by omega)]at hd;exact kp.get hd) jM (fun s h1 h2=>ed s h1 (by simp at h2;omega)) (by omega)
   have qj1:(j:Int)<((lu-(k+2):Nat):Int):=by omega
   have qj2:j<lu-(k+2):=by omega
   have wq8:=gk Q
   by_cases eh:d3-c<0
   ·have t1w:bu .i64 (t-1)=t-1:=cF (by omega) (by omega)
    simp(disch:=first|(simp;done)|omega|rfl) [-getElem?_pos,hr,dK,CL,tn,vA,tX,q4,XB,gl XD,b1',w7,gl jM,eh,t1w]
    generalize hU2:U'.set (j+(k+2)) (d3-c)=U2 at*
    have kO:U2.length=lu:=by rw[<-hU2];simp[uo,iT]
    have zaK:vI (U2.drop j)<0:=by
     apply Iq;intro hc
     have:=XE.1 hc
     omega
    have XF:∀(s:Nat) (d:Int),s≠j+(k+2)->U2[s]?=some d->0<=d/\d<1000000000:=fun s d hs hd=>by
     rw[<-hU2,ec (by omega)]at hd;exact kp.get hd
    refine bP [(19,21),(148,174)] (fun e r st=>e=.exit 6/\MK N h2 n2 iu iq n3 U2 Q Y (k+2) j 0 r st) (MK N h2 n2 iu iq n3 U2 Q Y (k+2) j) (k+2) ?_ ?_ ?_
    ·exact⟨0,U2,0,by omega,by simp,by simp,by omega,by omega,⟨by simp[ax,dX,nn],eN.set (by omega),rfl,by simp,by simp[d5,XC]⟩,rfl,fun _ _=>rfl,XF,by simp[vI]⟩
    ·exact Yjs hv hY dY (by omega) (by omega) ⟨by simp[hr,dK,r9],by simp[hr,dK,tn],by simp[hr,dK,vA,kO],by simp[dK,tX]⟩ a1 a2 a3 a4
    ·rintro _ r4 ⟨H4,n4,W4⟩ oX ⟨rfl,i4,U3,c4,hi4,Qq,Qr,c40,c41,⟨Bh,Jr,MO,MP,MQ⟩,MR,vH,MS,MT⟩
     simp only at Bh Jr MO MP MQ
     subst MO
     obtain rfl:i4=k+2:=by omega
     have XG:=CV.inner (D':=[(19,21),(148,174)]) rfl (by simp) oX
     rw[<-hY,wo,hY]at MT
     have e4:U3[j+(k+2)]?=some (d3-c):=by rw[vH _ (.inr (aW _))];exact jM
     have x8:=gk U3
     have b4':bu .i64 (d3-c+c4)=d3-c+c4:=cF (by omega) (by omega)
     have x7:=AX (l:=U3) (k:=j+(k+2)) (v:=d3-c+c4) (by omega)
     have v4e:vI (U3.set (j+(k+2)) (d3-c+c4))=vI U-pI j*((t-1)*vI Y):=by
      rw[B6 e4]
      have x1:pI (j+(k+2))*(d3-c+c4-(d3-c))=pI (j+(k+2))*c4:=by grind
      have x2:pI j*((t-1)*vI Y)=pI j*(t*vI Y)-pI j*vI Y:=by grind
      omega
     have Qs:∀s,s<j->(U3.set (j+(k+2)) (d3-c+c4))[s]?=U[s]?:=fun s hs=>by
      rw[ec (by omega),vH s (.inl hs)];exact nO s hs
     have yI:∀s,j+(k+2)<s->s<lu->(U3.set (j+(k+2)) (d3-c+c4))[s]?=some 0:=fun s h1 h2=>by
      rw[ec (by omega),vH s (.inr (by omega))];exact ed s h1 h2
     have MU:=Zxh (by omega) (by simp[MR,kO,iT]) Qs v4e
     have Ai:(U3.set (j+(k+2)) (d3-c+c4))[j+(k+2)]?=some (d3-c+c4):=iI (by omega)
     have xt:(t-1)*vI Y=t*vI Y-vI Y:=by grind
     have XH:vI ((U3.set (j+(k+2)) (d3-c+c4)).drop j)<vI Y:=by
      rw[MU];omega
     have XI:0<=vI ((U3.set (j+(k+2)) (d3-c+c4)).drop j):=by
      rw[MU];omega
     have XJ:=Yjy (U:=U3.set (j+(k+2)) (d3-c+c4)) (fun s d hs hd=>by
      rw[ec (by omega)]at hd;exact MS s d (by omega) hd) Ai (fun s h1 h2=>yI s h1 (by simp at h2;omega)) (by omega)
     have rQ:=XJ.1 XI
     have w9:=AX (l:=Q) (k:=j) (v:=t-1) (by omega)
     have rO:=MM j (by omega)
     have zaL:1<=t:=by
      apply Dt;intro hc
      have:t=0:=by omega
      rw[this]at wA
      have:=uP (dU.drop j)
      omega
     simp(disch:=first|(simp;done)|omega|rfl) [-getElem?_pos,hr,dK,oX,XG,Qr,tn,vA,GY,tX,q4,MP,MQ,gl e4,b4',x7,d5,w9]
     refine⟨j,by omega,⟨U3.set (j+(k+2)) (d3-c+c4),Q.set j (t-1),⟨by simp[ax,Bh,nn,nq],?_,rfl,by simp[d6],by simp⟩,by simp,by simp[MR,kO],by simp[XA],by omega,?_,dQ.set (by omega) (by omega),?_,?_,?_,?_⟩⟩
     ·exact(Jr.set (by omega)).set (by omega)
     ·refine Yro fun s d hd=>?_
      by_cases hs:s=j+(k+2)
      ·subst hs
       rw[Ai,rQ]at hd
       simp at hd
       omega
      ·rw[ec (fun h=>hs h.symm)]at hd
       exact MS s d hs hd
     ·intro s h1 h2
      by_cases hs:s=j+(k+2)
      ·rw[hs,Ai,rQ]
      ·exact yI s (by omega) h2
     ·exact XH
     ·intro s hs
      rw[ec (by omega)];exact MM s (by omega)
     ·rw[v4e,B6 rO,<-gZ]
      grind
   ·have Qe:0<=vI ((U'.set (j+(k+2)) (d3-c)).drop j):=by
     apply Dt;intro hc;exact eh (XE.2 hc)
    have rQ:=XE.1 Qe
    have w9:=AX (l:=Q) (k:=j) (v:=t) (by omega)
    have rO:=MM j (by omega)
    rw[wA]at Qe cW
    have tlt:t<1000000000:=by
     apply Iq;intro hc
     have:=Dr hc (tO hVp)
     omega
    simp(disch:=first|(simp;done)|omega|rfl) [-getElem?_pos,hr,dK,CV,CL,tn,vA,GY,tX,q4,XB,XC,gl XD,b1',w7,gl jM,eh,d5,w9]
    refine⟨j,by omega,⟨U'.set (j+(k+2)) (d3-c),Q.set j t,⟨by simp[ax,dX,nn,nq],?_,rfl,by simp[d6],by simp⟩,by simp,by simp[uo,iT],by simp[XA],by omega,?_,dQ.set t0 tlt,?_,?_,?_,?_⟩⟩
    ·exact(eN.set (by omega)).set (by omega)
    ·rw[rQ];exact kp.set (by omega) (by omega)
    ·intro s h1 h2
     by_cases hs:s=j+(k+2)
     ·rw[hs,jM,rQ]
     ·exact ed s (by omega) h2
    ·rw[wA];exact cW
    ·intro s hs
     rw[ec (by omega)];exact MM s (by omega)
    ·rw[v2e,B6 rO,<-gZ]
     grind
variable {N:Nat}
def MV{N n2:Nat}(h:N<=n2):∀{w:List Nat},ax n2 w=[]->ax N w=[]
 |[],_=>rfl
 |i::w,hw=>by
  simp only[ax]at hw ⊢
  by_cases h1:i<n2
  ·rw[aF h1]at hw
   unfold uN at hw
   split at hw
   ·rename_i hc
    rw[hw]at hc;simp at hc
   ·cases hw
  ·rw[ar h1]at hw
   rw[ar (by omega)]
   exact MV h hw
def Zts{h:T O}{i:Nat}{w:List Nat}{v:V}{l:List Int}(hr:h.get i=some (.cells [] 3 true))(hs:Sl h N v (dI l))(bB:l≠[])(hl:l.length<1099511627776):
  gj ⟨h,N,w⟩ 1 8 3 (.slice i 0 0 (some 0) 1) v=some (.slice N 0 l.length none 1,⟨h.set N (.cells (dI l) 3 true),N+1,w⟩):=by
 have h0:l.length≠0:=fun hc=>bB (qj hc)
 have iY:=Yp4 (w:=w) hs
 rw[gk]at iY
 have hb:¬(tJ<(2*(0+l.length)+1000)*8):=by unfold tJ;omega
 simp only[gj,iY]
 rw[ar h0,ar (by rintro(h|h|h)<;>omega)]
 simp only[St.row,hr]
 rw[ar (by omega)]
 simp[aE,St.alloc]
def Ykc(k:Nat):pI k=((1000000000^k:Nat):Int):=by unfold pI;simp
def XK{b k:Nat}(h:(ds b).length=k+1):∃x,(ds b)[k]?=some x/\0<x/\x<1000000000/\pI k*x<=b/\(b:Int)<pI k*(x+1):=by
 have hb:b≠0:=fun hc=>by rw[hc,sO]at h;simp at h
 obtain⟨x,hx,oM⟩:=Yoh hb
 rw[h,Nat.add_sub_cancel]at hx
 have hd:=(fT b).get hx
 have hv:=fZ b
 rw[MF hx,yd (by omega),vI,Int.mul_zero,Int.add_zero]at hv
 have h1:=uP ((fT b).take k)
 have h2:=uQ ((fT b).take k)
 rw[gm,py (by omega)]at h2
 have h3:pI k*(x+1)=pI k*x+pI k:=by grind
 exact⟨x,hx,oM,hd.2,by omega,by omega⟩
def Ymx{b k:Nat}(h:(ds b).length=k+1){x:Int}(hx:(ds b)[k]?=some x):∃f:Nat,(f:Int)=1000000000/(x+1)/\0<f/\f<1000000000/\(ds (b*f)).length=k+1/\∃y,(ds (b*f))[k]?=some y/\500000000<=y:=by
 obtain⟨x',lI,x0,x1,lo,hi⟩:=XK h
 obtain rfl:x=x':=pk (hx.symm.trans lI)
 have hd:(x+1)*(1000000000/(x+1))+1000000000%(x+1)=1000000000:=Dv ..
 have eC:0<=1000000000%(x+1):=Dy _ (by omega)
 have jm:1000000000%(x+1)<x+1:=Dw _ (by omega)
 have hh:=Ycs (x:=x) (by omega) x1
 have f0:0<1000000000/(x+1):=by
  apply Iq;intro hc
  have:=Int.mul_nonpos_of_nonneg_of_nonpos (a:=x) (by omega) hc
  omega
 have f1:1000000000/(x+1)<1000000000:=Int.ediv_lt_of_lt_mul (by omega) (by omega)
 obtain⟨f,hf⟩:=Du (tO f0)
 rw[hf]at hd hh f0 f1
 have hp:=B4 k
 have ED:((b*f:Nat):Int)=(b:Int)*f:=by simp
 have up:(b:Int)*f<1000000000*pI k:=by
  have g1:(b:Int)*f<pI k*(x+1)*f:=Int.mul_lt_mul_of_pos_right hi f0
  have g2:pI k*(x+1)*f=pI k*((x+1)*f):=by grind
  have g3:pI k*((x+1)*f)<=pI k*1000000000:=qt (by omega) (tO hp)
  omega
 have low:500000000*pI k<=(b:Int)*f:=by
  have g1:pI k*x*f<=(b:Int)*f:=Dr lo (tO f0)
  have g2:pI k*x*f=pI k*(x*f):=by grind
  have g3:pI k*500000000<=pI k*(x*f):=qt hh (tO hp)
  omega
 have zaM:(ds (b*f)).length<=k+1:=ID (by
  have:((b*f:Nat):Int)<((1000000000^(k+1):Nat):Int):=by rw[<-Ykc,uO,ED];exact up
  exact_mod_cast this)
 have zaN:(ds b).length<=(ds (b*f)).length:=tW (Nat.le_mul_of_pos_right b (by omega))
 have len:(ds (b*f)).length=k+1:=by omega
 obtain⟨y,hy,y0,y1,ylo,yhi⟩:=XK len
 refine⟨f,hf.symm,by omega,by omega,len,y,hy,?_⟩
 apply Dt
 intro hc
 have:pI k*(y+1)<=pI k*500000000:=qt (by omega) (tO hp)
 omega
def MW(N:Nat)(h2:T O)(n2 la:Nat)(A0:Int)(m:Nat)(r:T V)(st:St):Prop:=ax n2 st.w=[]/\ab h2 n2 st.h st.n/\∃u l,r.get 11=some u/\Own 1 3 n2 st.h st.n u (o_ l)/\l.length+m=la+1/\vI l=A0/\Di l
def Yhe{N:Nat}{h2:T O}{n2 la:Nat}{A0:Int}{u0:V}{r0:T V}{Ez:List Int}(kV:Sl h2 n2 u0 (dI Ez))(hla:Ez.length=la)(hl:la<1099511627776)(r0e:r0.get 0=some u0):
  ∀m r st,(∀t,jD [(11,11),(63,71)] t=false->r.get t=r0.get t)->Fx [(11,11),(63,71)] r0 206 ⟨r,206,[]⟩->MW N h2 n2 la A0 m r st->Code A.C none A.nj ⟨r,206,[]⟩ st (Rd [(11,11),(63,71)] r0 206 (MW N h2 n2 la A0) m (fun e r st=>e=.exit 0/\MW N h2 n2 la A0 0 r st)):=by
 rintro m r ⟨H,n1,W⟩ hr hf ⟨hW,hK,u,l,jY,ho,hm,hv,hd⟩
 simp only at hW hK ho
 have lu:=kV.len
 rw[gk,hla]at lu
 have lo:=ho.len
 rw[Cc]at lo
 rw[bq]
 cases m with
 |zero=>
  have:¬(l.length:Int)<(la:Int)+1:=by omega
  simp(disch:=first|(simp;done)|omega|rfl) [A.nj,hr,hf,r0e,jY,lu,lo,this]
  exact⟨hW,hK,u,l,by simp[jY],ho,hm,hv,hd⟩
 |succ m=>
  have h1:(l.length:Int)<(la:Int)+1:=by omega
  have fi:=hK.le
  obtain⟨v',h',w',e1,e2,e3,e4,e5⟩:=sE (x:=[.int .i64 0]) (u:=.slice n1 0 1 (some 1) 1) (bytes:=8) (w:=W) (ho.ae (ab.refl.new (.cells [.int .i64 0] 3 true))) (by omega) (by decide) rfl (by simp[eD,St.row,aE]) (by rw[Cc];omega)
  rw[<-DN]at e5
  simp(disch:=first|(simp;done)|omega|rfl) [A.nj,hr,hf,r0e,jY,lu,lo,h1,ad,e1]
  refine⟨m,by omega,⟨by rw[e2];exact hW,((hK.new _).then e3),v',l++[0],by simp,e5,by simp;omega,by rw[B5,hv];simp,hd.app (Di.one (by omega) (by omega))⟩⟩
def Ykv{r:Nat}(h:r<1000000000):qz [(r:Int)]=ds r:=Gc (Di.one (by omega) (by omega)) (by simp[vI])
def MY{h:T O}{N:Nat}{u v:V}{a b:Nat}(hu:Dn h N u a)(hv:Dn h N v b)(hb:0<b)(hl:(ds a).length<1000000000000)(kO:(ds b).length<1000000000000):Fn A.C 175 [u,v] h N (fun x h' n'=>∃q r,x=.bg [q,r]/\Dn h' n' q (a/b)/\Dn h' n' r (a%b)):=by
 intro w
 have lu:=hu.len
 have lv:=hv.len
 rw[gk]at lu lv
 rw[aO,A.k175 (by simp)]
 by_cases h_:a<b
 ·have fP:Bl a b= -1:=by simp[Bl,h_]
  have hc:=fun w=>Xu (w:=w) hu hv (by omega) (by omega)
  simp[A.b175,hc,fP,az]
  refine⟨ab.refl,.aa,u,⟨rfl,rfl⟩,?_,?_⟩
  ·rw[zo h_];unfold Dn;rw[sO];exact Sl.nil
  ·rw[xI h_];exact hu
 ·have hba:b<=a:=by omega
  have jk:=tW hba
  have hc:=fun w=>Xu (w:=w) hu hv (by omega) (by omega)
  have Cl:¬Bl a b<0:=by unfold Bl;rw[ar h_];split<;>omega
  have EG:1<=(ds b).length:=by
   have:ds b≠[]:=fun hc=>by rw[B7]at hc;omega
   exact List.length_pos_iff.2 this
  by_cases hL:(ds b).length=1
  ·obtain⟨x,hx⟩:=bp (l:=ds b) (k:=0) (by omega)
   have XL:ds b=[x]:=by
    cases hq:ds b with
    |nil=>rw[hq]at hL;simp at hL
    |cons y l=>
     rw[hq]at hL hx
     simp at hL hx
     rw[hL,hx]
   have A1:=fZ b
   rw[XL]at A1
   simp[vI]at A1
   have MG:=(fT b).get hx
   obtain⟨b1,b2,b3,b4,b5,z1,z2,z3,z4⟩:=Sl.at (show Sl h N v (dI (ds b)) from hv) (gl hx)
   simp at z4
   simp[A.b175,hc,Cl,lv,hL,z1,z3,z4]
   refine aA (Zof (show Sl h N u (dI (ds a)) from hu) (fT a) (by omega) (by omega) MG.2) ?_
   rintro y h1 n1 k1 ⟨q,rfl,hq⟩
   rw[fZ]at hq
   simp only[fZ]
   have e1:(a:Int).toNat=a:=by omega
   have e2:x.toNat=b:=by omega
   rw[e1,e2]at hq
   rw[e1,e2]
   have hRb:=kh a hb
   have hb9:b<1000000000:=by omega
   generalize hQ:a/b=Q at*
   generalize hR:a%b=R at*
   simp[ad]
   refine aA (Hp (l:=[(R:Int)]) (Sl.row (e:=3) (rw:=true) (cp:=some 1) (uG n1) (by simp[dI]) rfl (fun k hk=>by simp at hk;omega)) (by simp)) ?_
   rintro y2 h2 n2 k2 wY
   rw[Ykv (by omega)]at wY
   have kk:=(ab.refl (h:=h1) (n:=n1)).new (.cells [.int .i64 (R:Int)] 3 true)
   simp[az]
   exact⟨(k1.trans kk).trans k2,q,y2,⟨rfl,rfl⟩,hq.ae (kk.trans k2),wY⟩
  ·obtain⟨k,hk⟩:∃k,(ds b).length=k+2:=⟨(ds b).length-2,by omega⟩
   obtain⟨x,hx⟩:=bp (l:=ds b) (k:=k+1) (by omega)
   have MG:=(fT b).get hx
   obtain⟨f,hf,f0,f1,hlen,y1,rZ,Qt⟩:=Ymx (k:=k+1) (by omega) hx
   obtain⟨b1,b2,b3,b4,b5,z1,z2,z3,z4⟩:=Sl.at (show Sl h N v (dI (ds b)) from hv) (gl hx)
   have c1:((k:Int)+2-1)=(k:Int)+1:=by omega
   have c2:(k:Int)+1<(k:Int)+2:=by omega
   have c3:¬((k:Int)+2=1):=by omega
   have c4:((k:Int)+1).toNat=k+1:=by omega
   have c5:(0:Int)<=(k:Int)+1:=by omega
   have w1:bu .i64 (x+1)=x+1:=cF (by omega) (by omega)
   have w2:(1000000000:Int).tdiv (x+1)=f:=by rw[hf];exact AK (by decide)
   have w3:bu .i64 (f:Int)=f:=cF (by omega) (by omega)
   have c6:¬x+1=0:=by omega
   rw[hk]at lv
   simp(disch:=omega) [A.b175,hc,Cl,lv,c1,c3,c4,z1,z3,z4,w1,w2,w3,ad]
   have k0:=(ab.refl (h:=h) (n:=N)).new (.cells [.int .i64 (f:Int)] 3 true)
   have uY:Sl (h.set N (.cells [.int .i64 (f:Int)] 3 true)) (N+1) (.slice N 0 1 (some 1) 1) (dI [(f:Int)]):=Sl.row (e:=3) (rw:=true) (uG N) (by simp[dI]) rfl (fun k hk=>by simp at hk;omega)
   have dF:Di [(f:Int)]:=Di.one (by omega) (by omega)
   refine aA (Xx (a:=b) (b:=f) (Sl.ae hv k0) uY (fT b) dF (fZ b) (by simp[vI]) (by simp;omega)) ?_
   rintro vv h1 n1 k1 hvv
   have fl:=k1.le
   have lvv:=hvv.len
   have fe:(ds (b*f)).length=k+2:=by omega
   rw[gk,fe]at lvv
   simp[lvv]
   have k1a:=(ab.refl (h:=h1) (n:=n1)).new (.cells [] 3 true)
   refine aA (Xx (a:=a) (b:=f) (((Sl.ae hu k0).ae k1).ae k1a) ((uY.ae k1).ae k1a) (fT a) dF (fZ a) (by simp[vI]) (by simp;omega)) ?_
   rintro uu h2 n2 k2 huu
   have gX:=k2.le
   have bB:ds (a*f)≠[]:=fun hc=>by
    rw[B7]at hc
    have:0<a*f:=zc (by omega) f0
    omega
   have zaO:(ds (a*f)).length<=(ds a).length+1:=by
    apply ID
    have g1:=uQ (fT a)
    rw[fZ,Ykc]at g1
    have g2:a<1000000000^(ds a).length:=by exact_mod_cast g1
    rw[gE]
    exact BQ g2 f1
   have XM:=(k2.get n1 (by omega)).trans (show _=some (.cells [] 3 true) by simp)
   have Ky:=Zts (w:=[]) XM huu bB (by omega)
   simp[Ky]
   have vn:N<=n2:=by omega
   have Mz:=(((k0.trans k1).trans k1a).trans k2)
   refine bP [(11,11),(63,71)] (fun e r st=>e=.exit 0/\MW N h2 n2 (ds a).length ((a*f:Nat):Int) 0 r st) (MW N h2 n2 (ds a).length ((a*f:Nat):Int)) ((ds a).length+1-(ds (a*f)).length) ?_ ?_ ?_
   ·refine⟨by simp,ab.refl.new _,_,ds (a*f),by simp;rfl,⟨fun q hq=>?_,.inr ⟨n2,by rw[Cc],aW _,by show n2<n2+1;omega,by simp[Uq]⟩⟩,by omega,fZ _,fT _⟩
    simp[o_]at hq
    obtain⟨q',_,rfl⟩:=hq
    rfl
   ·exact Yhe (((Sl.ae hu k0).ae k1).ae k1a |>.ae k2) rfl (by omega) (by simp)
   ·rintro _ r ⟨H,n3,W⟩ hr ⟨rfl,hW,hK,u3,l,jY,ho,hm,gZ,iz⟩
    simp only at hW hK ho
    obtain⟨_,⟨h0,_⟩|⟨iu,Jm,i1,i2,i3⟩⟩:=ho
    ·simp[o_]at h0;rw[h0]at hm;simp at hm
    ·rw[Cc]at Jm
     rw[Uq]at i3
     subst Jm
     have ue:l.length=(ds a).length+1:=by omega
     have hka:k+2<l.length:=by omega
     obtain⟨S,hS⟩:∃S,S=l.length-(k+2):=⟨_,rfl⟩
     have cS:((l.length:Int)-((k:Int)+2))=(S:Int):=by omega
     have oN:=MV vn hW
     have kH:=hK.new (.cells (dI (List.replicate S 0)) 3 true)
     have fi:=hK.le
     have mz:(dr [.int .i64 0] S:List V)=dI (List.replicate S 0):=Ue
     simp(disch:=first|(simp;done)|omega|rfl) [hr,jY,cS,mz]
     have hvY:=Dn.ae hvv (k1a.trans k2)
     have zag:vI l=(a*f:Nat):=gZ
     refine bP [(13,21),(82,191)] (fun e r st=>e=.exit 2/\ML N h2 n2 iu n3 (n3+1) l.length (k+2) ((a*f:Nat):Int) (ds (b*f)) 0 r st) (ML N h2 n2 iu n3 (n3+1) l.length (k+2) ((a*f:Nat):Int) (ds (b*f))) S ?_ ?_ ?_
     ·refine⟨l,List.replicate S 0,⟨oN,kH,rfl,?_,by simp⟩,by simp,rfl,by simp[hS],by omega,iz,Di.DL _,fun s h1 h2=>by omega,?_,fun s hs=>by simp[hs],by rw[Ua,gZ];simp⟩
      ·rw[T.ag,ar (by omega)];exact i3
      ·obtain⟨x',lI,x0,x1,lo,hi⟩:=XK (b:=b) (k:=k+1) (by omega)
       have g1:=uQ (fT a)
       rw[fZ,show (ds a).length=S+(k+1) by omega,OE]at g1
       have g2:=Kk l S (by omega)
       have g3:=uP (iz.take S)
       have g4:pI (k+1)*1<=pI (k+1)*x':=qt (by omega) (tO (B4 _))
       have g5:pI S*pI (k+1)<=pI S*b:=qt (by omega) (tO (B4 _))
       have g6:(a:Int)*f<pI S*b*f:=Int.mul_lt_mul_of_pos_right (by omega) (by omega)
       rw[fZ]
       apply Iq
       intro hc
       have g7:pI S*((b*f:Nat):Int)<=pI S*vI (l.drop S):=qt hc (tO (B4 _))
       have g8:pI S*((b*f:Nat):Int)=pI S*b*f:=by push_cast;grind
       have g9:((a*f:Nat):Int)=(a:Int)*f:=by push_cast;rfl
       omega
     ·exact Yhh hvY fe (fT _) rZ Qt hka (by omega) (by simp[hr]) (by simp[hr]) (by simp[jY]) (by simp[hS]) vn i1 i2 (uG n3)
     ·rintro _ r4 ⟨H4,n4,W4⟩ oX ⟨rfl,U,Q,⟨Bh,Jr,MO,MP,MQ⟩,tX,hUl,hQl,_,dU,dQ,hz,xo,_,nT⟩
      simp only at Bh Jr MO MP MQ
      subst MO
      rw[yk]at xo
      rw[fZ]at xo nT
      obtain⟨qn,hqn⟩:=Du (uP dQ)
      obtain⟨un,XN⟩:=Du (uP dU)
      rw[hqn,XN]at nT
      rw[XN]at xo
      have Aw:un+b*f*qn=a*f:=by exact_mod_cast nT
      have xQ:un<b*f:=by exact_mod_cast xo
      have m1:a/b=qn:=by
       have:a*f/(b*f)=qn:=by
        rw[<-Aw,Nat.add_mul_div_left _ _ (by omega),zo xQ,xJ]
       rw[<-this,Oy _ _ f0]
      have m2:un/f=a%b:=by
       have:a*f%(b*f)=un:=by rw[<-Aw,Nat.add_mul_mod_self_left,xI xQ]
       rw[<-this,Ke,Nat.mul_div_cancel _ f0]
      have V6:Sl H4 (n3+1) (.slice iu 0 l.length none 1) (dI U):=Sl.row (by omega) MP (by simp[hUl]) (fun k hk=>by cases hk)
      have hsQ:Sl H4 (n3+1) (.slice n3 0 S (some S) 1) (dI Q):=Sl.row (by omega) MQ (by simp[hQl,hS]) (fun k hk=>by simp at hk;omega)
      obtain⟨v',e1,e2⟩:=Dj (w:=[]) V6 (lo:=0) (hi:=k+2) (by omega) (by rw[gk];omega) none (some (.int .i64 ((k+2:Nat):Int))) (.inr ⟨rfl,rfl⟩) (.inl rfl)
      have e3:((dI U).take (k+2)).drop 0=dI (U.take (k+2)):=by rw[yk,dI,<-List.map_take];rfl
      rw[e3]at e2
      have ck:((k+2:Nat):Int)=(k:Int)+2:=by omega
      rw[ck]at e1
      have XO:=(Jr.get N (by omega)).trans ((k2.get N (by omega)).trans ((show _=h1.get N by simp;omega).trans ((k1.get N (by omega)).trans (show _=some (.cells [.int .i64 (f:Int)] 3 true) by simp))))
      have XP:vI (U.take (k+2))=un:=by
       rw[<-XN]
       exact(Ui (fun t h1 h2=>hz t (by omega) (by omega))).symm
      simp[hr,oX,jY,AG,aC,e1]
      refine aA (Hp e2 (by simp;omega)) ?_
      rintro y5 h5 n5 k5 MZ
      rw[Gc (dU.take _) XP]at MZ
      have Hl:=k5.le
      have M0:=(k5.get N (by omega)).trans XO
      have lt5:N<n5:=by omega
      have lt4:iu<n3+1:=by omega
      have M1:(ds un).length<1099511627776:=by
       have:(ds un).length<=(ds (b*f)).length:=tW (by omega)
       omega
      simp[hr,oX,M0]
      refine aA (Zof (d:=(f:Int)) MZ (fT un) M1 (by omega) (by omega)) ?_
      rintro y6 h6 n6 k6 ⟨q6,rfl,Mf⟩
      have t1:(vI (ds un)).toNat=un:=by rw[fZ];omega
      have t2:((f:Nat):Int).toNat=f:=by omega
      rw[t1,t2]at Mf
      rw[m2]at Mf
      generalize ((vI (ds un)).toNat%(f:Int).toNat)=ZZ
      simp[oX,lt5]
      refine aA (Hp ((hsQ.ae k5).ae k6) (by omega)) ?_
      rintro y7 h7 n7 k7 hy7
      rw[Gc dQ hqn]at hy7
      have oN4:ax N W4=[]:=Bh
      have XQ:=(((Mz.trans Jr).trans k5).trans k6).trans k7
      simp[az,oN4]
      refine⟨XQ,y7,q6,⟨rfl,rfl⟩,?_,?_⟩
      ·rw[m1];exact hy7
      ·exact Sl.ae Mf k7
variable {s:aQ}
def A.ra:av:=.seq (sr [mv 7 1,ln 8 7,bc 9 .gtr 8 0]
 (cd 9
 (.skip)
 (.exit 0)))
 (.block 1 (sr [mv 11 0,mv 12 1,c2 13 175 11 12,mv 10 13,xt 14 10 0,xt 15 10 1,mv 5 14,mv 6 15]
 (.aR [mv 16 1,mv 17 6,mv 0 16,mv 1 17])))
def A.b119:av:=sr [mN 4]
 (.seq (.block 0 (.loop A.ra))
 (sr [mv 18 0,mv 4 18]
 (.ret)))
def A.c119:A.F 119=some ⟨19,[.tmp 4],A.b119⟩:=by kernel_rfl
def A.k119:=@A.kk 119 _ _ _ A.c119 rfl
def A.jN:av:=.seq (sr [mv 16 0,ge 17 (.len 0 (tq 16)),bc 18 .gtr 17 9]
 (cd 18
 (.skip)
 (.exit 0)))
 (.block 1 (sr [mv 19 4,mv 20 0,mv 21 0,ge 22 (.len 0 (tq 21)),bc 23 .sub 22 9,ge 24 (.aD (tq 20) (some (tq 23)) none),c1 25 219 24,ge 26 (.aV 3 1 1 [.int .i64 0] [(0,1,(tq 25))]),ge 27 (.append 1 8 3 [.int .i64 0] (tq 19) (tq 26)),mv 4 27]
 (.aR [mv 28 0,mv 29 0,ge 30 (.len 0 (tq 29)),bc 31 .sub 30 9,ge 32 (.aD (tq 28) none (some (tq 31))),mv 0 32])))
def A.b173:av:=sr [ge 2 (.alloc [.bool false,.aa] 139)]
 (sr [mv 5 0,ge 6 (.len 0 (tq 5)),bc 7 .gtr 6 0,mv 8 7,mg 9 0 8,gy 10 8 (.aZ (tq 9) (kq 0)),gy 11 8 (.bin .eql (.aM .int) true (tq 10) (.const (.int .u8 45))),pf 12 8 11,mv 3 12]
 (.seq (sr [mv 13 3]
 (cd 13
 (.aR [mv 14 0,ge 15 (.aD (tq 14) (some (kq 1)) none),mv 0 15])
 (.skip)))
 (sr [mN 4]
 (.seq (.block 0 (.loop A.jN))
 (sr [mv 33 3,mv 34 4,mv 35 0,c1 36 219 35,ge 37 (.aV 3 1 1 [.int .i64 0] [(0,1,(tq 36))]),ge 38 (.append 1 8 3 [.int .i64 0] (tq 34) (tq 37)),c2 39 220 33 38,gn (.store 2 (tq 2) (tq 39))]
 (.ret))))))
def A.c173:A.F 173=some ⟨40,[.cell 2 (some 2)],A.b173⟩:=by kernel_rfl
def A.k173:=@A.kk 173 _ _ _ A.c173 rfl
def Qu{h:T O}{N:Nat}{u v:V}{a b:Nat}(hu:Dn h N u a)(hv:Dn h N v b)(hl:(ds a).length<1000000000000)(kO:(ds b).length<1000000000000):Fn A.C 119 [u,v] h N (fun x h' n'=>Dn h' n' x (Nat.gcd a b)):=by
 intro w
 rw[aO,A.k119 (by simp)]
 simp[A.b119]
 refine bP [(0,1),(5,17)] (fun e r st=>e=.exit 0/\ax N st.w=[]/\ab h N st.h st.n/\∃x,r.get 0=some x/\Dn st.h st.n x (Nat.gcd a b)) (fun m r st=>ax N st.w=[]/\ab h N st.h st.n/\∃x y c,r.get 0=some x/\r.get 1=some y/\Dn st.h st.n x c/\Dn st.h st.n y m/\Nat.gcd c m=Nat.gcd a b/\(ds c).length<1000000000000/\(ds m).length<1000000000000) b ?_ ?_ ?_
 ·exact⟨by simp,ab.refl,u,v,a,by simp,by simp,hu,hv,rfl,hl,kO⟩
 ·rintro m r ⟨H,n1,W⟩ hr hf ⟨hW,hK,x,y,c,h0,h1,hx,hy,hg,l1,l2⟩
  simp only at hW hK hx hy
  have ly:=hy.len
  rw[gk]at ly
  rw[bq]
  by_cases hm:m=0
  ·subst hm
   have z0:(ds 0).length=0:=by rw[sO];rfl
   rw[z0]at ly
   simp at hg
   simp[A.ra,hf,h0,h1,ly,hW,hK]
   rw[<-hg];exact hx
  ·have bB:(ds m).length≠0:=fun hc=>hm (B7.1 (qj hc))
   have p1:(0:Int)<((ds m).length:Int):=by omega
   have p2:0<(ds m).length:=by omega
   have p3:ds m≠[]:=fun hc=>bB (by rw[hc];rfl)
   simp[A.ra,h0,h1,ly,p2]
   refine aA (MY hx hy (by omega) l1 l2) ?_
   rintro z h3 n3 k3 ⟨q,r',rfl,hq,km⟩
   simp[hf,h1,hW]
   refine⟨c%m,kh _ (by omega),hK.trans k3,m,hy.ae k3,km,?_,l2,?_⟩
   ·rw[<-hg,Nat.gcd_comm c m,Nat.gcd_rec m c,Nat.gcd_comm]
   ·have:=tW (a:=c%m) (b:=m) (Nat.le_of_lt (kh _ (by omega)));omega
 ·rintro _ r ⟨H,n1,W⟩ hr ⟨rfl,hW,hK,x,h0,hx⟩
  simp only at hW hK hx
  simp[h0,az,hW,hK]
  exact hx
def Zwu(x:aQ):∀(y:aQ),aH (x++y)=aH x*10^y.length+aH y:=by
 have key:∀(y:aQ) (n:Nat),y.foldl (fun n (c:UInt8)=>10*n+(c.toNat-48)) n=n*10^y.length+y.foldl (fun n (c:UInt8)=>10*n+(c.toNat-48)) 0:=by
  intro y
  induction y with
  |nil=>simp
  |cons c y ih=>
   intro n
   rw[List.foldl_cons,List.foldl_cons,ih,ih (10*0+(c.toNat-48)),bD,gE]
   grind
 intro y
 unfold aH
 rw[List.foldl_append,key]
def Ztt(h:cH s=true)(k:Nat):cH (s.take k)=true:=by
 unfold cH at*
 rw[lA]at*
 exact fun c hc=>h c (ym hc)
def Qv(h:cH s=true)(k:Nat):cH (s.drop k)=true:=by
 unfold cH at*
 rw[lA]at*
 exact fun c hc=>h c (Im hc)
def Qw(h0:T O)(N:Nat)(s:aQ)(m:Nat)(r:T V)(st:St):Prop:=ax N st.w=[]/\ab h0 N st.h st.n/\∃cur w l,r.get 0=some (.str cur)/\cur.length=m/\1<=m/\m<=s.length/\cH cur=true/\r.get 4=some w/\Own 1 3 N st.h st.n w (o_ l)/\Di l/\l.length+m<=s.length/\vI l+pI l.length*(aH cur:Nat)=(aH s:Nat)
def Qx(hd:cH s=true)(h1:1<=s.length)(h2:s.length<=3000000000){h:T O}{N:Nat}:Fn A.C 173 [.str s] h N (fun v h' n'=>Rg h' n' v (aH s:Nat)):=by
 intro w
 obtain⟨c,hc⟩:=bp (l:=s) (k:=0) (by omega)
 have oQ:=Kn hd hc
 have fP:s.head?=some c:=by cases s with
  |nil=>simp at hc
  |cons=>simpa using hc
 have a1:¬cK c=45:=by omega
 have a2:(0:Int)<(s.length:Int):=by omega
 have a3:0<s.length:=by omega
 have bB:s≠[]:=fun h=>by rw[h]at h1;simp at h1
 rw[aO,A.k173 (by simp)]
 simp(disch:=first|(simp;done)|omega|rfl) [-getElem?_pos,A.b173,a1,a3,hc]
 refine bP [(0,0),(4,4),(16,32)] (fun e r st=>e=.exit 0/\∃m,m<=9/\Qw (h.set N (.cells [.bool false,.aa] 139 true)) (N+1) s m r st) (Qw (h.set N (.cells [.bool false,.aa] 139 true)) (N+1) s) s.length ?_ ?_ ?_
 ·exact⟨by simp,ab.refl,s,.aa,[],by simp,rfl,h1,aW _,hd,by simp,Own.nil,Di.nil,by simp,by simp[vI,pI]⟩
 ·rintro m r ⟨H,n1,W⟩ hr hf ⟨hW,hK,cur,u,l,g0,cO,m1,m2,oQ,g4,ho,iE,xx,hv⟩
  simp only at hW hK ho
  subst cO
  rw[bq]
  by_cases h9:9<cur.length
  ·have Hr:(9:Int)<(cur.length:Int):=by omega
   have fi:=hK.le
   have Hs:=ME (s:=cur.drop (cur.length-9)) (st:=⟨H,n1,W⟩) (Qv oQ _) (by simp;omega)
   have Cl:((cur.length:Int)-9).toNat=cur.length-9:=by omega
   have EE:=AZ (Qv oQ (cur.length-9))
   have iz:(cur.drop (cur.length-9)).length=9:=by simp;omega
   rw[iz]at EE
   have iU:=Zwu (cur.take (cur.length-9)) (cur.drop (cur.length-9))
   rw[BL,iz,show (10:Nat)^9=1000000000 by decide]at iU
   generalize hD:aH (cur.drop (cur.length-9))=D at*
   obtain⟨v',h',w',e1,e2,e3,e4,e5⟩:=sE (x:=[.int .i64 (D:Int)]) (u:=.slice n1 0 1 (some 1) 1) (bytes:=8) (w:=W) (ho.ae (ab.refl.new (.cells [.int .i64 (D:Int)] 3 true))) (by omega) (by decide) rfl (by simp[eD,St.row,aE]) (by rw[Cc];omega)
   rw[<-DN]at e5
   simp(disch:=first|(simp;done)|omega|rfl) [A.jN,hf,g0,g4,Hr,Cl,aC,Hs,ad,e1]
   refine⟨cur.length-9,by omega,⟨by rw[e2];exact hW,(hK.new _).then e3,cur.take (cur.length-9),v',l++[(D:Int)],by simp,by simp,by omega,by omega,Ztt oQ _,by simp,e5,iE.app (Di.one (by omega) (by omega)),by simp;omega,?_⟩⟩
   rw[B5,iN,zk,uO,<-hv]
   have Ht:((aH cur:Nat):Int)=(aH (cur.take (cur.length-9)):Nat)*1000000000+D:=by omega
   rw[Ht]
   generalize ((aH (cur.take (cur.length-9)):Nat):Int)=X
   generalize pI l.length=P
   grind
  ·have Hr:¬(9:Int)<(cur.length:Int):=by omega
   simp[A.jN,hf,g0,Hr]
   exact⟨cur.length,by omega,hW,hK,cur,u,l,by simp[g0],rfl,m1,m2,oQ,by simp[g4],ho,iE,xx,hv⟩
 ·rintro _ r ⟨H,n1,W⟩ hr ⟨rfl,m,m9,hW,hK,cur,u,l,g0,cO,m1,m2,oQ,g4,ho,iE,xx,hv⟩
  simp only at hW hK ho
  subst cO
  have fi:=hK.le
  have Hs:=ME (s:=cur) (st:=⟨H,n1,W⟩) oQ (by omega)
  have EE:=AZ oQ
  have hp9:=OG m9
  generalize hD:aH cur=D at*
  obtain⟨v',h',w',e1,e2,e3,e4,e5⟩:=sE (x:=[.int .i64 (D:Int)]) (u:=.slice n1 0 1 (some 1) 1) (bytes:=8) (w:=W) (ho.ae (ab.refl.new (.cells [.int .i64 (D:Int)] 3 true))) (by omega) (by decide) rfl (by simp[eD,St.row,aE]) (by rw[Cc];omega)
  rw[<-DN]at e5
  simp[hr,g0,g4,Hs,ad,e1]
  have kp:Di (l++[(D:Int)]):=iE.app (Di.one (by omega) (by omega))
  refine aA (xn (n:=aH s) e5.sl kp (by rw[B5];exact hv) (by simp;omega)) ?_
  rintro y h5 n5 k5 hy
  have kk:=((hK.new (.cells [.int .i64 (D:Int)] 3 true)).then e3).trans k5
  have vt:=kk.le
  have oe:=kk.get N (by omega)
  simp at oe
  obtain⟨u5,rfl,Ag⟩:=hy
  have He:=fun c1 (hc:c1.length=2)=>Sl.setInt (i:=N) (c1:=c1) (e1:=139) (w1:=true) Ag oe (by intro x hx k m;simp at hx;rcases hx with rfl|rfl<;>simp) hc
  have Bk:=Sl.form Ag |>.one
  unfold V.one at Bk
  have ow:ax N w'=[]:=MV (uz N) (by rw[e2];exact hW)
  have k0:=(ab.refl (h:=h) (n:=N)).new (.cells [.bool false,.aa] 139 true)
  simp[hr,oe,ad,bO,Bk,aS,aE,az,ow]
  exact⟨(k0.trans kk).set (aW N),u5,by simp,by simpa[Dn]using He _ rfl⟩
end Go.Mx
