/-
  num.step: a digit of a quotient.
-/
import Derived.Test.YtlbophlgohokkaaGreatDoorNaU
set_option linter.all false
namespace Go.Mx
open Go Go.Proofs
variable {N i iu j k n n2 v1:Nat} {U Y l o:List Nat} {cp:Option Nat} {h:T O} {r0:T V} {v:V}
set_option maxHeartbeats 4000000
set_option maxRecDepth 1000000
def A.kK:aq:=sr [bi 158 .lss 157 156]
 (.seq (cd 158
 (.skip)
 (.exit 4))
 (.seq (.block 5 (sr [mv 159 157,mv 18 159]
 (.aV [mv 161 0,mv 162 18,mv 163 0,mv 164 18,ia 165 1 163 164,ld 166 165,mv 167 1,mv 168 18,ia 169 1 167 168,ld 170 169,mv 171 17,⟨(some 172),.ext .eJ [(.tmp 166),(.tmp 170),(.tmp 171)],none⟩,mv 160 172,xt 173 160 0,xt 174 160 1,ia 175 1 161 162,so 175 173,mv 17 174] [0,0,0,0,12,28,0,0,192,448,0,2044,4092,8188,8188,16383,49151,131071])))
 (.aM [bc 176 .add 157 1,mv 157 176])))
def A.kL:aq:=sr [bi 106 .lss 105 104]
 (.seq (cd 106
 (.skip)
 (.exit 2))
 (.seq (.block 3 (sr [mv 107 105,mv 13 107]
 (sr [mv 109 6,mv 110 1,mv 111 13,ia 112 1 110 111,ld 113 112,c2 114 220 109 113,mv 108 114,xt 115 108 0,xt 116 108 1,mv 14 115,mv 15 116]
 (sr [⟨(some 16),.aY (.const (.int .u64 0)),none⟩]
 (sr [mv 118 15,mv 119 12,⟨(some 120),.ext .eJ [(.tmp 118),(.tmp 119),(.const (.int .u64 0))],none⟩,mv 117 120,xt 121 117 0,xt 122 117 1,mv 15 121,mv 16 122]
 (sr [mv 123 14,mv 124 16,bi 125 .add 123 124,mv 12 125]
 (.aM [mv 127 0,mv 128 13,mv 129 0,mv 130 13,ia 131 1 129 130,ld 132 131,mv 133 15,mv 134 11,⟨(some 135),.ext .gQ [(.tmp 132),(.tmp 133),(.tmp 134)],none⟩,mv 126 135,xt 136 126 0,xt 137 126 1,ia 138 1 127 128,so 138 136,mv 11 137])))))))
 (.aM [bc 139 .add 105 1,mv 105 139])))
def A.kM:aq:=.seq (sr [mv 63 8,⟨(some 64),.bin .eql (.aI .int) true (.tmp 63) (.const (.int .u64 0)),none⟩]
 (cd 64
 (.skip)
 (.exit 0)))
 (.block 1 (sr [mv 66 6,mv 67 1,mv 68 5,bc 69 .sub 68 2,ia 70 1 67 69,ld 71 70,c2 72 220 66 71,mv 65 72,xt 73 65 0,xt 74 65 1,mv 9 73,mv 10 74]
 (.seq (sr [mv 75 9,mv 76 7,bi 77 .lss 75 76,mv 78 77,mh 79 9 78,mh 80 7 78,⟨(some 81),.bin .eql (.aI .int) false (.tmp 79) (.tmp 80),(some (78,false))⟩,mh 82 81 78,mg 83 10 82,mg 84 0 82,mg 85 5 82,⟨(some 86),.bin .sub (.node []) false (.tmp 85) (.const (.int .i64 2)),(some (82,true))⟩,⟨(some 87),.aN 1 (.tmp 84) (.tmp 86),(some (82,true))⟩,⟨(some 88),.load none (.tmp 87),(some (82,true))⟩,⟨(some 89),.bin .leq (.node []) false (.tmp 83) (.tmp 88),(some (82,true))⟩,⟨(some 90),.pick (.tmp 82) (.tmp 89) (.const (.bool false)),(some (78,false))⟩,pt 91 78 90]
 (cd 91
 (.exit 0)
 (.skip)))
 (sr [mv 92 6,⟨(some 93),.bin .sub (.node []) false (.tmp 92) (.const (.int .u64 1)),none⟩,mv 6 93]
 (.aM [mv 95 7,mv 96 1,mv 97 5,bc 98 .sub 97 1,ia 99 1 96 98,ld 100 99,⟨(some 101),.ext .eJ [(.tmp 95),(.tmp 100),(.const (.int .u64 0))],none⟩,mv 94 101,xt 102 94 0,xt 103 94 1,mv 7 102,mv 8 103])))))
def A.kO:aq:=.seq (.block 0 (.loop A.kM))
 (sr [⟨(some 11),.aY (.const (.int .u64 0)),none⟩,⟨(some 12),.aY (.const (.int .u64 0)),none⟩]
 (.seq (sr [mv 104 5,mc 105 0]
 (.block 2 (.loop A.kL)))
 (sr [mv 141 0,mv 142 5,mv 143 0,mv 144 5,ia 145 1 143 144,ld 146 145,mv 147 12,mv 148 11,⟨(some 149),.ext .gQ [(.tmp 146),(.tmp 147),(.tmp 148)],none⟩,mv 140 149,xt 150 140 0,xt 151 140 1,ia 152 1 141 142,so 152 150,mv 11 151]
 (.seq (sr [mv 153 11,⟨(some 154),.bin .eql (.aI .int) true (.tmp 153) (.const (.int .u64 0)),none⟩]
 (cd 154
 (sr [mv 155 6,mv 4 155]
 (.ret))
 (.skip)))
 (sr [⟨(some 17),.aY (.const (.int .u64 0)),none⟩]
 (.seq (sr [mv 156 5,mc 157 0]
 (.block 4 (.loop A.kK)))
 (sr [mv 177 0,mv 178 5,ia 179 1 177 178,ld 180 179,mv 181 17,bi 182 .add 180 181,ia 183 1 177 178,so 183 182]
 (sr [mv 184 6,⟨(some 185),.bin .sub (.node []) false (.tmp 184) (.const (.int .u64 1)),none⟩,mv 4 185]
 (.ret)))))))))
def A.b274:aq:=sr [⟨(some 4),.aY (.const (.int .u64 0)),none⟩]
 (sr [mv 19 1,ln 20 19,mv 5 20]
 (sr [⟨(some 6),.aY (.const (.int .u64 0)),none⟩,⟨(some 7),.aY (.const (.int .u64 0)),none⟩]
 (sr [⟨(some 8),.aY (.const (.int .u64 0)),none⟩]
 (.seq (.seq (.aV [mv 21 0,mv 22 5,ia 23 1 21 22,ld 24 23,mv 25 1,mv 26 5,bc 27 .sub 26 1,ia 28 1 25 27,ld 29 28,bi 30 .geq 24 29] [0,0,3,7,0,0,32,112,240,511])
 (cd 30
 (sr [⟨(some 6),.aY (.const (.int .u64 18446744073709551615)),none⟩]
 (.aV [mv 32 0,mv 33 5,bc 34 .sub 33 1,ia 35 1 32 34,ld 36 35,mv 37 1,mv 38 5,bc 39 .sub 38 1,ia 40 1 37 39,ld 41 40,⟨(some 42),.ext .eJ [(.tmp 36),(.tmp 41),(.const (.int .u64 0))],none⟩,mv 31 42,xt 43 31 0,xt 44 31 1,mv 7 43,mv 8 44] [0,0,2,7,15,0,0,64,224,480,1023,2047,4095,4095,8191,32767]))
 (.aV [mv 46 0,mv 47 5,ia 48 1 46 47,ld 49 48,mv 50 0,mv 51 5,bc 52 .sub 51 1,ia 53 1 50 52,ld 54 53,mv 55 1,mv 56 5,bc 57 .sub 56 1,ia 58 1 55 57,ld 59 58,⟨(some 60),.call (.const (.func 271 [] [])) [(.tmp 49),(.tmp 54),(.tmp 59)],none⟩,mv 45 60,xt 61 45 0,xt 62 45 1,mv 6 61,mv 7 62] [0,0,3,7,0,0,32,112,240,0,0,1024,3584,7680,16383,32767,65535,65535,131071,524287])))
 A.kO))))
theorem A.c274:A.F 274=some ⟨186,[.tmp 4],A.b274⟩:=by kernel_rfl
def A.k274:=@A.kk 274 _ _ _ A.c274 rfl
theorem Ya8:uZ i l≠[]:=by
 unfold uZ
 split
 ·rintro rfl;simp_all
 ·simp
theorem TD{w:List Nat}(h:ad n (i::w)=[]):¬i<n/\ad n w=[]:=by
 simp only[ad]at h
 split at h
 ·exact absurd h Ya8
 ·rename_i hi;exact⟨hi,h⟩
theorem JB{n:Nat}:∀{w u:List Nat},ad n w=[]->ad n (w++u)=ad n u
 |[],u,_=>rfl
 |i::w,u,h=>by
  obtain⟨hi,hw⟩:=TD h
  simp only[yE,ad,hi,if_false]
  exact JB hw
theorem GR{n N:Nat}(hn:n<=N):∀{w:List Nat},ad N w=[]->ad n w=[]
 |[],_=>rfl
 |i::w,h=>by
  obtain⟨hi,hw⟩:=TD h
  simp only[ad,show ¬i<n by omega,if_false]
  exact GR hn hw
theorem Ztv(hi:¬i<n)(h:ad n l=[]):ad n (uZ i l)=[]:=by
 unfold uZ
 split
 ·exact h
 ·simp only[ad,hi,if_false];exact h
theorem JC{n N:Nat}:∀{w:List Nat},ad n w=[]->ad n (ad N w)=[]
 |[],_=>rfl
 |i::w,h=>by
  obtain⟨hi,hw⟩:=TD h
  have:=JC (N:=N) hw
  simp only[ad]
  split
  ·exact Ztv hi this
  ·exact this
theorem ZA{r v:Nat}(hr:r<B)(hv:v<B):bz (r+v)+B*bX (r+v)=r+v/\bz (r+v)<B/\bX (r+v)<=1:=by
 have:=ZB (c:=0) hv hr (by omega)
 simpa using this
def TE(h:T O)(N u1 v1 W Z m:Nat)(r:T V)(st:St):Prop:=st=⟨h,N,[]⟩/\∃rr ov:Nat,r.get 6=some (.int .u64 m)/\r.get 7=some (.int .u64 rr)/\r.get 8=some (.int .u64 ov)/\ov<=1/\rr<B/\m<B/\u1=m*v1+(rr+B*ov)/\W<(m+1)*Z
structure M9 (h:T O) (N n2 iu j q:Nat) (U Y:List Nat) (m:Nat) (r:T V) (st:St):Prop where
 n:st.n=N
 w:ad n2 st.w=[]
 old:∀t,t≠iu->st.h.get t=h.get t
 ex:∃(i bw c:Nat) (o:List Nat),i+m=Y.length/\r.get 105=some (.int .i64 i)/\r.get 11=some (.int .u64 bw)/\r.get 12=some (.int .u64 c)/\st.h.get iu=some (.cells (dg o) 214 true)/\o.length=U.length/\Dg o/\(∀t,(t<j\/j+i<=t)->o[t]?=U[t]?)/\bw<=1/\c<B/\val B (o.drop j)+q*val B (Y.take i)=val B (U.drop j)+B^i*(c+bw)
structure Na (h:T O) (N n2 iu j:Nat) (U Y:List Nat) (m:Nat) (r:T V) (st:St):Prop where
 n:st.n=N
 w:ad n2 st.w=[]
 old:∀t,t≠iu->st.h.get t=h.get t
 ex:∃(i c:Nat) (o:List Nat),i+m=Y.length/\r.get 157=some (.int .i64 i)/\r.get 17=some (.int .u64 c)/\st.h.get iu=some (.cells (dg o) 214 true)/\o.length=U.length/\Dg o/\(∀t,(t<j\/j+i<=t)->o[t]?=U[t]?)/\c<=1/\val B (o.drop j)+B^i*c=val B (U.drop j)+val B (Y.take i)
structure Ej (h:T O) (N n2 iu j k:Nat) (U Y:List Nat) (w:List Nat) (x:V) (st:St):Prop where
 n:st.n=N
 w:ad n2 st.w=ad n2 w
 old:∀t,t≠iu->st.h.get t=h.get t
 ex:∃(q:Nat) (o:List Nat),x=.int .u64 q/\q<B/\st.h.get iu=some (.cells (dg o) 214 true)/\o.length=U.length/\Dg o/\(∀t,t<j->o[t]?=U[t]?)/\(∀t,j+k+2<=t->t<o.length->o[t]?=some 0)/\val B (o.drop j)+q*val B Y=val B (U.drop j)/\val B (o.drop j)<val B Y
theorem Ykq{h:T O}{N n2 iu j q:Nat}{U Y:List Nat}{v:V}{cp:Option Nat}{r0:T V}(hv:Sl h n2 v (dg Y))(dY:Dg Y)(h2:n2<=iu)(hj:j+Y.length<U.length)(hl:U.length<1099511627776)(hq:q<B)
  (a0:r0.get 0=some (.slice iu j (Y.length+1) cp 1)) (a1:r0.get 1=some v) (a6:r0.get 6=some (.int .u64 q)) (JD:r0.get 104=some (.int .i64 Y.length)):
  ∀k r st,(∀t,iS [(11,16),(105,139)] t=false->r.get t=r0.get t)->Fx [(11,16),(105,139)] r0 186 ⟨r,186,[]⟩->M9 h N n2 iu j q U Y k r st->Code A.C none A.kL ⟨r,186,[]⟩ st (Rd [(11,16),(105,139)] r0 186 (M9 h N n2 iu j q U Y) k (fun e r st=>e=.exit 2/\M9 h N n2 iu j q U Y 0 r st)):=by
 rintro m r ⟨H,n1,W⟩ hr hf ⟨hn,hW,hO,i,bw,c,o,hi,xP,jM,Nb,ar,ho,hd,hs,hb,hc,he⟩
 simp only at hn hW hO ar
 subst hn
 have lv:=hv.len
 rw[bl]at lv
 rw[bA]
 cases m with
 |zero=>
  have:i=Y.length:=by omega
  subst this
  simp[A.kL,hr,hf,JD,xP]
  exact⟨rfl,hW,hO,Y.length,bw,c,o,by omega,by simp[xP],by simp[jM],by simp[Nb],ar,ho,hd,hs,hb,hc,he⟩
 |succ m=>
  have aD:i<Y.length:=by omega
  have gy:=dk aD
  generalize Y[i]=y at*
  have hy:y<B:=dY.get gy
  obtain⟨i2,o2,c2,e2,w2,p1,p2,p3,p4⟩:=hv.at (eW gy)
  have bJ:i2≠iu:=by omega
  have p3:=(hO i2 bJ).trans p3
  have go:o[j+i]?=some (o[j+i]'(by omega)):=dk (by omega)
  generalize o[j+i]'(by omega)=u at*
  have hu:u<B:=hd.get go
  obtain⟨s1,s2,s3,s4,s5⟩:=Ykp hq hy hc hu hb
  have rP:bw=0\/bw=1:=by omega
  have Ea:i<Y.length+1:=by omega
  simp[A.kL,hr,JD,xP,aD,a6,a1,lv,p1,p3,p4]
  refine ax (Js hq hy) ?_
  rintro _ H n1 zj ⟨rfl,rfl,rfl⟩
  have q1:bz (bz (q*y)+c)=sJ q y c:=rfl
  have q2:cy (bX (q*y)) (bX (bz (q*y)+c))=mB q y c:=rfl
  have hbi:(bw:Int)=0\/(bw:Int)=1:=by omega
  simp(disch:=first|(simp;done)|omega|(simp only[bl,bG,bh];omega)|rfl) [-getElem?_pos,hr,hf,xP,a0,jM,Nb,ar,eW go,nU,q1,q2]
  have sE:¬iu<n2:=by omega
  refine⟨m,by omega,rfl,by simp[ad,hW,sE],fun t ht=>by rw[T.ai,au ht];exact hO t ht,i+1,fe u (sJ q y c) bw,mB q y c,o.set (j+i) (dS u (sJ q y c) bw),by omega,by simp,by simp,by simp,by simp,by simp[ho],hd.qX s2,?_,s4,s3,?_⟩
  ·intro t ht
   rw[eI (by omega)]
   exact hs t (by omega)
  ·have go2:(o.drop j)[i]?=some u:=by rw[fG];exact go
   have v1:=JE (b:=B) (v:=dS u (sJ q y c) bw) go2
   rw[List.drop_set,au (by omega),show j+i-j=i by omega,Ca gy]
   have e1:B^i*(dS u (sJ q y c) bw+q*y+c+bw)=B^i*(u+B*(mB q y c+fe u (sJ q y c) bw)):=by rw[s1]
   rw[fL]
   generalize val B ((o.drop j).set i (dS u (sJ q y c) bw))=z1 at*
   generalize val B (o.drop j)=z2 at*
   generalize val B (U.drop j)=z3 at*
   generalize val B (List.take i Y)=z4 at*
   generalize dS u (sJ q y c) bw=z5 at*
   generalize mB q y c=z6 at*
   generalize fe u (sJ q y c) bw=z7 at*
   generalize B^i=z8 at*
   clear s1 gy hy go go2 hu hs hd
   grind
theorem Ymp{h:T O}{N n2 iu j:Nat}{U Y:List Nat}{v:V}{cp:Option Nat}{r0:T V}(hv:Sl h n2 v (dg Y))(dY:Dg Y)(h2:n2<=iu)(hN:iu<N)(hj:j+Y.length<U.length)(hl:U.length<1099511627776)
  (a0:r0.get 0=some (.slice iu j (Y.length+1) cp 1)) (a1:r0.get 1=some v) (JF:r0.get 156=some (.int .i64 Y.length)):
  ∀k r st,(∀t,iS [(17,18),(157,176)] t=false->r.get t=r0.get t)->Fx [(17,18),(157,176)] r0 186 ⟨r,186,[]⟩->Na h N n2 iu j U Y k r st->Code A.C none A.kK ⟨r,186,[]⟩ st (Rd [(17,18),(157,176)] r0 186 (Na h N n2 iu j U Y) k (fun e r st=>e=.exit 4/\Na h N n2 iu j U Y 0 r st)):=by
 rintro m r ⟨H,n1,W⟩ hr hf ⟨hn,hW,hO,i,c,o,hi,xQ,Nc,ar,ho,hd,hs,hc,he⟩
 simp only at hn hW hO ar
 subst hn
 have lv:=hv.len
 rw[bl]at lv
 rw[bA]
 cases m with
 |zero=>
  have:i=Y.length:=by omega
  subst this
  simp[A.kK,hr,hf,JF,xQ]
  exact⟨rfl,hW,hO,Y.length,c,o,by omega,by simp[xQ],by simp[Nc],ar,ho,hd,hs,hc,he⟩
 |succ m=>
  have aD:i<Y.length:=by omega
  have gy:=dk aD
  generalize Y[i]=y at*
  have hy:y<B:=dY.get gy
  obtain⟨i2,o2,c2,e2,w2,p1,p2,p3,p4⟩:=hv.at (eW gy)
  have bJ:i2≠iu:=by omega
  have p3:=(hO i2 bJ).trans p3
  have go:o[j+i]?=some (o[j+i]'(by omega)):=dk (by omega)
  generalize o[j+i]'(by omega)=u at*
  have hu:u<B:=hd.get go
  obtain⟨s1,s2,s3⟩:=ZB hy hu hc
  have Ea:i<Y.length+1:=by omega
  have Gm:(c:Int)=0\/(c:Int)=1:=by omega
  have sE:¬iu<n2:=by omega
  have hiN:i2<n1:=by omega
  have oZ:¬iu=i2:=fun hc=>bJ hc.symm
  simp(disch:=first|(simp;done)|omega|(simp only[bl,bG,bh];omega)|rfl) [-getElem?_pos,A.kK,hr,JF,xQ,aD,hN,hiN,a0,a1,lv,p1,p3,p4,ar,eW go,nU,Nc]
  rw[DM (by simp[hN,oZ])]
  simp(disch:=first|(simp;done)|omega|(simp only[bl,bG,bh];omega)|rfl) [hf,xQ]
  refine⟨m,by omega,rfl,by simp[ad,hW,sE],fun t ht=>by rw[T.ai,au ht];exact hO t ht,i+1,bX (u+y+c),o.set (j+i) (bz (u+y+c)),by omega,by simp,by simp,by simp,by simp[ho],hd.qX s2,?_,s3,?_⟩
  ·intro t ht
   rw[eI (by omega)]
   exact hs t (by omega)
  ·have go2:(o.drop j)[i]?=some u:=by rw[fG];exact go
   have v1:=JE (b:=B) (v:=bz (u+y+c)) go2
   rw[List.drop_set,au (by omega),show j+i-j=i by omega,Ca gy]
   have e1:B^i*(bz (u+y+c)+B*bX (u+y+c))=B^i*(u+y+c):=by rw[s1]
   rw[fL]
   generalize val B ((o.drop j).set i (bz (u+y+c)))=z1 at*
   generalize val B (o.drop j)=z2 at*
   generalize val B (U.drop j)=z3 at*
   generalize val B (List.take i Y)=z4 at*
   generalize bz (u+y+c)=z5 at*
   generalize bX (u+y+c)=z6 at*
   generalize B^i=z8 at*
   clear s1 gy hy go go2 hu hs hd
   grind
theorem Ylk{u2 u1 v2 U' V' P:Nat}{e0:TypeId}{Nd:Bool}(hv:Sl h n2 v (dg Y))(hY:Y.length=k+2)(dY:Dg Y)(hl:U.length<1099511627776)(rl:j+k+2<U.length)(hU:h.get iu=some (.cells (dg U) e0 Nd))(dU:Dg U)
  (f2:Y[k]?=some v2) (f1:Y[k+1]?=some v1) (g2:U[j+k]?=some u2) (l9:0<v1) (hP:0<P) (zY:U'<P) (zZ:V'<P)
  (a0:r0.get 0=some (.slice iu j (k+3) cp 1)) (a1:r0.get 1=some v) (a5:r0.get 5=some (.int .i64 ((k:Int)+2))):
  ∀m r st,(∀t,iS [(6,10),(63,103)] t=false->r.get t=r0.get t)->Fx [(6,10),(63,103)] r0 186 ⟨r,186,[]⟩->TE h N u1 v1 (U'+P*(u2+B*u1)) (V'+P*(v2+B*v1)) m r st->Code A.C none A.kM ⟨r,186,[]⟩ st (Rd [(6,10),(63,103)] r0 186 (TE h N u1 v1 (U'+P*(u2+B*u1)) (V'+P*(v2+B*v1))) m (fun e r st=>e=.exit 0/\st=⟨h,N,[]⟩/\∃q:Nat,r.get 6=some (.int .u64 q)/\q<B/\(q-1)*(V'+P*(v2+B*v1))<=U'+P*(u2+B*u1)/\U'+P*(u2+B*u1)<(q+1)*(V'+P*(v2+B*v1)))):=by
 rintro m r _ hr hf ⟨rfl,rr,ov,h6,h7,h8,hov,AD,hm,hinv,fZ⟩
 have lv:=hv.len
 rw[bl]at lv
 rw[bA]
 have iH:v2<B:=dY.get f2
 have AF:v1<B:=dY.get f1
 have eS:u2<B:=dU.get g2
 have fin:m*v2<=(rr+B*ov)*B+u2->(m-1)*(V'+P*(v2+B*v1))<=U'+P*(u2+B*u1):=by
  intro hc
  cases m with
  |zero=>simp
  |succ s=>exact Ylb l9 zZ (by omega) hinv hc
 by_cases h0:ov=0
 ·subst h0
  simp only[Nat.mul_zero,re]at hinv fin
  obtain⟨i2,o2,c2,e2,w2,p1,p2,p3,p4⟩:=hv.at (eW f2)
  have cK:((k:Int)+2-2)=(k:Int):=by omega
  have wg:(k:Int)<((k+2:Nat):Int):=by omega
  have zao:(k:Int)<((k+3:Nat):Int):=by omega
  rw[hY]at lv
  simp(disch:=first|(simp;done)|omega|(simp only[bl,bG,bh];omega)|rfl) [A.kM,hr,h6,h8,a1,a5,lv,p1,p3,p4,cK]
  refine ax (Js hm iH) ?_
  rintro _ h N zj ⟨rfl,rfl,rfl⟩
  have hp:bz (m*v2)+B*bX (m*v2)=m*v2:=by
   have:=ri (m*v2) B
   unfold bz bX;unfold B at*;omega
  have vj:bz (m*v2)<B:=YU
  obtain⟨i1,o1,c1,e1,w1,q1,q2,q3,q4⟩:=hv.at (eW f1)
  obtain⟨hi,xR⟩:∃x,bX (m*v2)=x:=⟨_,rfl⟩
  obtain⟨lo,sI⟩:∃x,bz (m*v2)=x:=⟨_,rfl⟩
  rw[xR,sI]at hp
  rw[sI]at vj
  by_cases c1:hi<rr
  ·have:=fin (by
    have:=jo B c1
    rw[gX rr B];rw[Nat.succ_eq_add_one,qy]at this;omega)
   simp[hf,h6,h7,xR,sI,c1]
   exact⟨hm,this,fZ⟩
  ·have dec:rr*B+u2<m*v2->0<m/\u1=(m-1)*v1+(rr+v1)/\U'+P*(u2+B*u1)<(m-1+1)*(V'+P*(v2+B*v1)):=by
    intro hc
    have h3:=Yla zY hinv hc (b:=B) (P:=P) (V':=V')
    cases m with
    |zero=>omega
    |succ s=> 
     refine⟨by omega,?_,by simpa using h3⟩
     rw[hinv,iE];simp;omega
   obtain⟨s1,s2,s3⟩:=ZA AD AF
   have jJ:((k:Int)+2-1)=(k:Int)+1:=by omega
   have zap:(k:Int)+1<((k+2:Nat):Int):=by omega
   have zaq:(k:Int)+1=((k+1:Nat):Int):=by omega
   have goA:rr*B+u2<m*v2->∃k',k'<m/\0<m/\k'=m-1:=fun hc=>⟨m-1,by have:=(dec hc).1;omega,(dec hc).1,rfl⟩
   have ZC:0<m->fk m 1=m-1:=fun hc=>B9 hc (by unfold B at hm;omega)
   by_cases c2:hi=rr
   ·by_cases c3:lo<=u2
    ·have:=fin (by rw[<-hp,c2,gX rr B];omega)
     simp(disch:=first|(simp;done)|omega|(simp only[bl,bG,bh];omega)|rfl) [-getElem?_pos,hr,hf,h6,h7,xR,sI,c2,c3,a0,a5,cK,hU,eW g2]
     exact⟨hm,this,fZ⟩
    ·obtain⟨d1,d2,d3⟩:=dec (by rw[<-hp,c2,gX rr B];omega)
     have sb:=ZC d1
     simp(disch:=first|(simp;done)|omega|(simp only[bl,bG,bh];omega)|rfl) [-getElem?_pos,hr,hf,h6,h7,xR,sI,c2,c3,a0,a1,a5,cK,jJ,hU,eW g2,lv,q1,q3,q4,sb]
     exact⟨m-1,by omega,rfl,bz (rr+v1),bX (rr+v1),by simp,by simp,by simp,s3,s2,by omega,by rw[s1];exact d2,d3⟩
   ·obtain⟨d1,d2,d3⟩:=dec (by
     have:rr+1<=hi:=by omega
     have:=jo B this
     rw[qy]at this
     rw[<-hp,gX rr B];omega)
    have sb:=ZC d1
    simp(disch:=first|(simp;done)|omega|(simp only[bl,bG,bh];omega)|rfl) [hr,hf,h6,h7,xR,sI,c1,c2,a1,a5,jJ,lv,q1,q3,q4,sb]
    exact⟨m-1,by omega,rfl,bz (rr+v1),bX (rr+v1),by simp,by simp,by simp,s3,s2,by omega,by rw[s1];exact d2,d3⟩
 ·have:ov=1:=by omega
  subst this
  have:=fin (by
   have h1:m*v2<=B*B:=uR (by omega) (by omega)
   rw[vQ,iE];omega)
  simp[A.kM,hf,h8]
  exact⟨m,by simp[h6],hm,this,fZ⟩
theorem TF(hl:o.length=U.length)(hj:j+n<=U.length):val B (o.drop j)=val B ((o.drop j).take n)+B^n*val B (o.drop (j+n)):=by
 have:=Ch B (o.drop j) n (by rw[wX];omega)
 rw[List.drop_drop]at this
 exact this
theorem ZD{p:Nat}(hl:o.length=U.length)(hs:∀t,p<=t->o[t]?=U[t]?):o.drop p=U.drop p:=by
 apply m7
 intro t
 rw[fG,fG]
 exact hs _ (by omega)
theorem TG(hd:Dg o)(hl:o.length=U.length)(hj:j+n<=U.length):val B ((o.drop j).take n)<B^n:=by
 apply ZE
 ·intro d h;exact hd d (List.mem_of_mem_drop h)
 ·rw[wX];omega
theorem ZF{p d:Nat}(hd:o[p]?=some d)(hz:∀t,p+1<=t->t<o.length->o[t]?=some 0):val B (o.drop p)=d:=by
 rw[zk hd,TA hz];omega
theorem Yl4(h:k<l.length):ag (dg l) k [.int .u64 0]=dg (l.set k 0):=nU (v:=0) h
theorem Zz0{d u2 u1 v2 U' V' q0 GV Nf:Nat}(hv:Sl h n2 v (dg Y))(hY:Y.length=k+2)(dY:Dg Y)(h2:n2<=iu)(hN:iu<N)(hl:U.length<1099511627776)(rl:j+k+2<U.length)(hU:h.get iu=some (.cells (dg U) 214 true))(dU:Dg U)
  (f2:Y[k]?=some v2) (f1:Y[k+1]?=some v1) (g2:U[j+k]?=some u2) (gd:U[j+k+2]?=some d) (hz:∀t,j+k+3<=t->t<U.length->U[t]?=some 0) (l9:0<v1) (zY:U'<B^k) (zZ:V'<B^k) (eU:val B (U.drop j)=U'+B^k*(u2+B*u1)) (eV:val B Y=V'+B^k*(v2+B*v1))
  (a0:r0.get 0=some (.slice iu j (k+3) cp 1)) (a1:r0.get 1=some v) (a5:r0.get 5=some (.int .i64 ((k:Int)+2))) (a6:r0.get 6=some (.int .u64 q0)) (a7:r0.get 7=some (.int .u64 GV)) (a8:r0.get 8=some (.int .u64 Nf))
  (b1:Nf<=1) (b2:GV<B) (b3:q0<B) (b4:u1=q0*v1+(GV+B*Nf)) (b5:U'+B^k*(u2+B*u1)<(q0+1)*(V'+B^k*(v2+B*v1))):
  Code A.C none A.kO ⟨r0,186,[]⟩ ⟨h,N,[]⟩ (fun e fr st=>e=.ret/\∃r x,fr=⟨r,186,[]⟩/\r.get 4=some x/\Ej h N n2 iu j k U Y [] x st):=by
 have hP:0<B^k:=wW (by decide)
 rw[bA]
 simp[A.kO]
 refine bQ [(6,10),(63,103)] _ (TE h N u1 v1 (U'+B^k*(u2+B*u1)) (V'+B^k*(v2+B*v1))) q0 ?_ (Ylk hv hY dY hl rl hU dU f2 f1 g2 l9 hP zY zZ a0 a1 a5) ?_
 ·exact⟨rfl,GV,Nf,a6,a7,a8,b1,b2,b3,b4,b5⟩
 rintro e r _ hr ⟨rfl,rfl,q,h6,hq,fj,fZ⟩
 rw[<-eU,<-eV]at fj fZ
 simp[hr,a5]
 refine bQ [(11,16),(105,139)] _ (M9 h N n2 iu j q U Y) Y.length ?_ (Ykq hv dY h2 (by omega) hl hq (cp:=cp) (by simp[hr,a0,hY]) (by simp[hr,a1]) (by simp[h6]) (by simp[hY])) ?_
 ·exact⟨rfl,rfl,fun _ _=>rfl,0,0,0,U,by omega,by simp,by simp,by simp,hU,rfl,dU,fun _ _=>rfl,by omega,by decide,by simp[val]⟩
 rintro e r1 ⟨H,n1,W⟩ jj ⟨rfl,hn,hW,hO,i,bw,cc,o,hi,xP,jM,Nb,ar,ho,hd,hs,hb,hc,he⟩
 simp only at hn hW hO ar
 subst hn
 have:i=k+2:=by omega
 subst this
 have ZG:o[j+(k+2)]?=some d:=by rw[hs _ (by omega)];exact gd
 have Ng:d<B:=dU.get gd
 obtain⟨s1,s2,s3⟩:=Yjo hc Ng hb
 have hbi:(bw:Int)=0\/(bw:Int)=1:=by omega
 have zj:(k:Int)+2<(k:Int)+3:=by omega
 have sE:¬iu<n2:=by omega
 obtain⟨t',Jp⟩:∃x,dS d cc bw=x:=⟨_,rfl⟩
 obtain⟨ee,Ij⟩:∃x,fe d cc bw=x:=⟨_,rfl⟩
 rw[Jp,Ij]at s1
 rw[Jp]at s2
 rw[Ij]at s3
 simp(disch:=first|(simp;done)|omega|(simp only[bl,bG,bh];omega)|rfl) [-getElem?_pos,jj,hr,a0,a5,jM,Nb,ar,eW ZG,nU,Jp,Ij,show ((k:Int)+2).toNat=k+2 by omega]
 have ZH:val B Y<B^(k+2):=by rw[<-hY];exact Cb dY
 have ZI:0<B^(k+2):=wW (by decide)
 have eo:=TF (j:=j) (n:=k+2) ho (by omega)
 have eu:=TF (o:=U) (j:=j) (n:=k+2) rfl (by omega)
 rw[ZD ho (p:=j+(k+2)) (fun t ht=>hs t (by omega))]at eo
 have TH:val B (U.drop (j+(k+2)))=d:=ZF gd (fun t h1 h2=>hz t (by omega) h2)
 rw[TH]at eo eu
 have hSP:=TG (j:=j) (n:=k+2) hd ho (by omega)
 have go2:(o.drop j)[k+2]?=some d:=by rw[fG];exact ZG
 have vs:=JE (b:=B) (v:=t') go2
 rw[eF (by omega)]at he
 generalize val B ((o.drop j).take (k+2))=S at*
 generalize val B ((U.drop j).take (k+2))=W0 at*
 have h1:S+q*val B Y=W0+B^(k+2)*(cc+bw):=by rw[eo,eu]at he;omega
 have kt:=Yoa (by decide) ZI ZH hSP s2 s3 h1 (by omega:t'+(cc+bw)=d+B*ee) (by rw[<-eu];exact fj) (by rw[<-eu];exact fZ)
 have JG:(o.set (j+(k+2)) t').drop j=(o.drop j).set (k+2) t':=by rw[List.drop_set,au (by omega),show j+(k+2)-j=k+2 by omega]
 have TI:val B ((o.set (j+(k+2)) t').drop j)=S+B^(k+2)*t':=by rw[JG];omega
 have nL:=hd.qX (k:=j+(k+2)) s2
 have eE:ad n2 (iu::W)=[]:=by simp[ad,hW,sE]
 by_cases IU:ee=0
 ·obtain⟨t1,t2,t3⟩:=kt.1 IU
  subst t3
  simp(disch:=first|(simp;done)|omega|(simp only[bl,bG,bh];omega)|rfl) [-getElem?_pos,jj,h6,IU]
  refine Ej.mk rfl eE (fun t ht=>by rw[T.ai,au ht];exact hO t ht) ⟨q,o.set (j+(k+2)) 0,rfl,hq,by simp,by simp[ho],nL,?_,?_,?_,?_⟩
  ·intro t ht
   rw[eI (by omega)];exact hs t (by omega)
  ·intro t t1 t2
   rw[C0]at t2
   by_cases htt:t=j+(k+2)
   ·subst htt;rw[lW (by omega)]
   ·rw[eI (by omega),hs t (by omega)];exact hz t (by omega) (by omega)
  ·rw[TI,eu];omega
  ·rw[TI];omega
 ·have TJ:ee=1:=by omega
  obtain⟨t1,t2,t3⟩:=kt.2 TJ
  have sb:fk q 1=q-1:=B9 t1 (by unfold B at hq;omega)
  have iH:Sl (H.set iu (.cells (dg (o.set (j+(k+2)) t')) 214 true)) n2 v (dg Y):=hv.ae ⟨aS _,fun i hi=>by rw[T.ai,au (by omega)];exact hO i (by omega)⟩
  simp[jj,hr,a5,IU]
  refine bQ [(17,18),(157,176)] _ (Na _ n1 n2 iu j (o.set (j+(k+2)) t') Y) Y.length ?_ (Ymp iH dY h2 hN (by simp;omega) (by simp;omega) (cp:=cp) (by simp[jj,hr,a0,hY]) (by simp[jj,hr,a1]) (by simp[hY])) ?_
  ·exact⟨rfl,eE,fun _ _=>rfl,0,0,o.set (j+(k+2)) t',by omega,by simp,by simp,by simp,rfl,nL,fun _ _=>rfl,by omega,by simp[val]⟩
  rintro e r2 ⟨H3,n3,W3⟩ ew ⟨rfl,Nh,mU,JH,i3,c3,o3,hi3,xQ,Nc,Cj,uB,TK,Ni,hc3,he3⟩
  simp only at Nh mU JH Cj
  subst Nh
  have:i3=k+2:=by omega
  subst this
  have ZJ:o3[j+(k+2)]?=some t':=by rw[Ni _ (by omega),lW (by omega)]
  have TL:=TF (j:=j) (n:=k+2) (uB.trans (C0 ..)) (by omega)
  rw[C0]at uB
  rw[ZD (uB.trans (C0 ..).symm) (p:=j+(k+2)) (fun t ht=>Ni t (by omega))]at TL
  have e4:val B ((o.set (j+(k+2)) t').drop (j+(k+2)))=t':=ZF (lW (by omega)) (fun t h1 h2=>by
   rw[C0]at h2
   rw[eI (by omega),hs t (by omega)];exact hz t (by omega) (by omega))
  rw[e4]at TL
  have TM:=TG (j:=j) (n:=k+2) TK uB (by omega)
  have TN:(o3.drop j)[k+2]?=some t':=by rw[fG];exact ZJ
  have vs3:=JE (b:=B) (v:=0) TN
  rw[eF (by omega),TI,TL]at he3
  generalize val B ((o3.drop j).take (k+2))=A at*
  obtain⟨z1,z2,z3⟩:=Yk9 ZI ZH TM hc3 s2 t1 t2 t3 (by rw[<-eu];exact fj) (by omega:A+B^(k+2)*c3=S+val B Y)
  have z4:cy t' c3=0:=z3
  simp(disch:=first|(simp;done)|omega|(simp only[bl,bG,bh];omega)|rfl) [-getElem?_pos,ew,jj,hr,a0,a5,Nc,h6,Cj,eW ZJ,Yl4 (l:=o3) (k:=j+(k+2)) (by omega),z4,sb,show ((k:Int)+2).toNat=k+2 by omega]
  have Ek:ad n2 (iu::W3)=[]:=by simp[ad,mU,sE]
  refine Ej.mk rfl Ek (fun t ht=>by rw[T.ai,au ht,JH t ht,T.ai,au ht];exact hO t ht) ⟨q-1,o3.set (j+(k+2)) 0,rfl,by omega,by simp,by simp[uB,ho],TK.qX (by decide),?_,?_,?_,?_⟩
  ·intro t ht
   rw[eI (by omega),Ni t (by omega),eI (by omega)];exact hs t (by omega)
  ·intro t t1 t2
   rw[C0]at t2
   by_cases htt:t=j+(k+2)
   ·subst htt;rw[lW (by omega)]
   ·rw[eI (by omega),Ni t (by omega),eI (by omega),hs t (by omega)];exact hz t (by omega) (by omega)
  ·rw[List.drop_set,au (by omega),show j+(k+2)-j=k+2 by omega,eu];omega
  ·rw[List.drop_set,au (by omega),show j+(k+2)-j=k+2 by omega];omega
theorem Zz2{w:List Nat}(hv:Sl h n2 v (dg Y))(hY:Y.length=k+2)(dY:Dg Y)(h2:n2<=iu)(hN:iu<N)(hl:U.length<1099511627776)(rl:j+k+2<U.length)(hU:h.get iu=some (.cells (dg U) 214 true))(dU:Dg U)
  (f1:Y[k+1]?=some v1) (l9:0<v1) (hz:∀t,j+k+3<=t->t<U.length->U[t]?=some 0) (aD:val B (U.drop j)<B*val B Y):
  Call A.C (.func 274 [] []) [.slice iu j (k+3) cp 1,v] ⟨h,N,w⟩ (Ej h N n2 iu j k U Y w):=by
 have lv:=hv.len
 rw[bl,hY]at lv
 have f2:=dk (l:=Y) (i:=k) (by omega)
 have g2:=dk (l:=U) (i:=j+k) (by omega)
 have gc:=dk (l:=U) (i:=j+k+1) (by omega)
 have gd:=dk (l:=U) (i:=j+k+2) (by omega)
 generalize Y[k]'(by omega)=v2 at*
 generalize U[j+k]'(by omega)=u2 at*
 generalize U[j+k+1]'(by omega)=c at*
 generalize U[j+k+2]'(by omega)=d at*
 have ZK:U[j+(k+2)]?=some d:=by rw[<-nD];exact gd
 have ZL:U[j+(k+1)]?=some c:=by rw[<-nD];exact gc
 have TO:v2<B:=dY.get f2
 have AF:v1<B:=dY.get f1
 have TQ:u2<B:=dU.get g2
 have TR:c<B:=dU.get gc
 have Ng:d<B:=dU.get gd
 have hP:0<B^k:=wW (by decide)
 have eU:=Yea (b:=B) (w:=U.drop j) (k:=k) (a:=u2) (c:=c) (d:=d) (by rw[fG];exact g2) (by rw[fG];exact gc) (by rw[fG];exact gd) (fun t h1 h2=>by rw[fG];rw[wX]at h2;exact hz _ (by omega) (by omega))
 have eV:=Yeb (b:=B) f2 f1 hY
 have zY:=TG (j:=j) (n:=k) dU rfl (by omega)
 have zZ:=ZE (b:=B) (k:=k) dY (by omega)
 rw[eU,eV]at aD
 generalize val B ((U.drop j).take k)=U' at*
 generalize val B (Y.take k)=V' at*
 obtain⟨i1,o1,c1,e1,w1,q1,q2,q3,q4⟩:=hv.at (eW f1)
 have xN:i1<N:=by omega
 have bJ:¬i1=iu:=by omega
 have oZ:¬iu=i1:=by omega
 have t1:((k:Int)+2-1)=(k:Int)+1:=by omega
 have t2:((k:Int)+2).toNat=k+2:=by omega
 rw[aR,A.k274 (by simp)]
 have fin:∀(r:T V) (q rr ov:Nat) (K:List Kf) (Q:Rs->Prop),r.get 0=some (.slice iu j (k+3) cp 1)->r.get 1=some v->r.get 5=some (.int .i64 ((k:Int)+2))->r.get 6=some (.int .u64 q)->r.get 7=some (.int .u64 rr)->r.get 8=some (.int .u64 ov)->ov<=1->rr<B->q<B->d*B+c=q*v1+(rr+B*ov)->U'+B^k*(u2+B*(d*B+c))<(q+1)*(V'+B^k*(v2+B*v1))->(∀r x st,r.get 4=some x->Ej h N n2 iu j k U Y [] x st->bF A.C K (some (.ex .ret ⟨r,186,[]⟩ st)) Q)->bF A.C K (eL (A.C.code none A.kO ⟨r,186,[]⟩ ⟨h,N,[]⟩)) Q:=by
  intro r q rr ov K Q a0 a1 a5 a6 a7 a8 b1 b2 b3 b4 b5 hq
  refine oU (Zz0 hv hY dY h2 hN hl rl hU dU f2 f1 g2 gd hz l9 zY zZ eU eV a0 a1 a5 a6 a7 a8 b1 b2 b3 b4 b5) ?_
  rintro e fr st ⟨rfl,r',x,rfl,hx,hs⟩
  exact hq r' x st hx hs
 have out:∀(r:T V) (x:V) (st:St),r.get 4=some x->Ej h N n2 iu j k U Y [] x st->bF A.C [.fin [.tmp 4] ⟨h,N,w⟩] (some (.ex .ret ⟨r,186,[]⟩ st)) (Ak (Ej h N n2 iu j k U Y w)):=by
  rintro r x ⟨H,n1,W⟩ h4 ⟨s1,s2,s3,s4⟩
  simp[h4]
  exact⟨s1,by show ad n2 (ad N W++w)=_;rw[JB (JC (by simpa[ad]using s2))],s3,s4⟩
 by_cases mQ:v1<=d
 ·have zm:=Yoh hP zZ TO mQ aD
  subst zm
  obtain⟨s1,s2,s3⟩:=ZA TR AF
  simp(disch:=first|(simp;done)|omega|(simp only[bl,bG,bh];omega)|rfl) [-getElem?_pos,A.b274,lv,hN,xN,hU,eW ZK,eW ZL,q1,q3,q4,t1,t2]
  refine fin _ 18446744073709551615 (bz (c+d)) (bX (c+d)) _ _ (by simp) (by simp) (by simp) (by simp) (by simp) (by simp) s3 s2 (by decide) ?_ ?_ (fun r x st h4 hs=>out r x st h4 hs)
  ·rw[s1];unfold B;omega
  ·unfold B at aD ⊢;exact aD
 ·have xS:¬(v1:Int)<=(d:Int):=by omega
  simp(disch:=first|(simp;done)|omega|(simp only[bl,bG,bh];omega)|rfl) [-getElem?_pos,A.b274,lv,hN,xN,hU,eW ZK,eW ZL,q1,q3,q4,t1,t2,xS]
  refine ax (Zr (show d<v1 by omega) AF TR) ?_
  rintro _ h' N' hk ⟨rfl,rfl,rfl⟩
  obtain⟨q,hq⟩:∃q,(d*18446744073709551616+c)/v1=q:=⟨_,rfl⟩
  obtain⟨rr,AD⟩:∃q,(d*18446744073709551616+c)%v1=q:=⟨_,rfl⟩
  have hinv:d*B+c=q*v1+rr:=by
   have:=ri (d*18446744073709551616+c) v1
   rw[hq,AD,gX]at this
   exact this.symm
  have xO:rr<v1:=by rw[<-AD];exact jg _ l9
  have Tq:q<B:=by
   rw[<-hq];apply (nC l9).2
   have:=jn B (show d+1<=v1 by omega)
   rw[gX B v1]
   rw[iE]at this
   unfold B at*;omega
  rw[hq,AD]
  simp[dw.dB]
  refine fin _ q rr 0 _ _ (by simp) (by simp) (by simp) (by simp) (by simp) (by simp) (by omega) (by omega) Tq (by rw[hinv];omega) (Yoi zY TQ hinv xO) (fun r x st h4 hs=>out r x st h4 hs)
end Go.Mx
