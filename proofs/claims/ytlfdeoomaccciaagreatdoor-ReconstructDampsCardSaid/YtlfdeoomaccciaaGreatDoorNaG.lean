/-num-/
import Derived.Test.YtlfdeoomaccciaaGreatDoorNaL
set_option linter.all false
namespace Go.Mx
open Go Go.Proofs
variable {N i iu j k n n2 v1:Nat} {U Y l o:List Nat} {cp:Option Nat} {h:T O} {r0:T V} {v:V}
set_option maxHeartbeats 4000000
set_option maxRecDepth 1000000
def A.m8:bO:=sr [bi 158 .lss 157 156]
 (.seq (cd 158
 (.skip)
 (.exit 4))
 (.seq (.block 5 (sr [mv 159 157,mv 18 159]
 (.dj [mv 161 0,mv 162 18,mv 163 0,mv 164 18,ia 165 1 163 164,ld 166 165,mv 167 1,mv 168 18,ia 169 1 167 168,ld 170 169,mv 171 17,ge 172 (.ext .gI [tq 166,tq 170,tq 171]),mv 160 172,xt 173 160 0,xt 174 160 1,ia 175 1 161 162,so 175 173,mv 17 174] [0,0,0,0,12,28,0,0,192,448,0,2044,4092,8188,8188,16383,49151,131071])))
 (.dP [bc 176 .add 157 1,mv 157 176])))
def A.m_:bO:=sr [bi 106 .lss 105 104]
 (.seq (cd 106
 (.skip)
 (.exit 2))
 (.seq (.block 3 (sr [mv 107 105,mv 13 107]
 (sr [mv 109 6,mv 110 1,mv 111 13,ia 112 1 110 111,ld 113 112,c2 114 188 109 113,mv 108 114,xt 115 108 0,xt 116 108 1,mv 14 115,mv 15 116]
 (sr [ge 16 (.km (.const (.int .u64 0)))]
 (sr [mv 118 15,mv 119 12,ge 120 (.ext .gI [tq 118,tq 119,.const (.int .u64 0)]),mv 117 120,xt 121 117 0,xt 122 117 1,mv 15 121,mv 16 122]
 (sr [mv 123 14,mv 124 16,bi 125 .add 123 124,mv 12 125]
 (.dP [mv 127 0,mv 128 13,mv 129 0,mv 130 13,ia 131 1 129 130,ld 132 131,mv 133 15,mv 134 11,ge 135 (.ext .jB [tq 132,tq 133,tq 134]),mv 126 135,xt 136 126 0,xt 137 126 1,ia 138 1 127 128,so 138 136,mv 11 137])))))))
 (.dP [bc 139 .add 105 1,mv 105 139])))
def A.na:bO:=.seq (sr [mv 63 8,ge 64 (.bin .eql (.bX .int) true (tq 63) (.const (.int .u64 0)))]
 (cd 64
 (.skip)
 (.exit 0)))
 (.block 1 (sr [mv 66 6,mv 67 1,mv 68 5,bc 69 .sub 68 2,ia 70 1 67 69,ld 71 70,c2 72 188 66 71,mv 65 72,xt 73 65 0,xt 74 65 1,mv 9 73,mv 10 74]
 (.seq (sr [mv 75 9,mv 76 7,bi 77 .lss 75 76,mv 78 77,mh 79 9 78,mh 80 7 78,gz 81 78 (.bin .eql (.bX .int) false (tq 79) (tq 80)),mh 82 81 78,mg 83 10 82,mg 84 0 82,mg 85 5 82,gy 86 82 (.bin .sub (.node []) false (tq 85) (kq 2)),gy 87 82 (.e_ 1 (tq 84) (tq 86)),gy 88 82 (.load none (tq 87)),gy 89 82 (.bin .leq (.node []) false (tq 83) (tq 88)),gz 90 78 (.pick (tq 82) (tq 89) (.const (.bool false))),pt 91 78 90]
 (cd 91
 (.exit 0)
 (.skip)))
 (sr [mv 92 6,ge 93 (.bin .sub (.node []) false (tq 92) (.const (.int .u64 1))),mv 6 93]
 (.dP [mv 95 7,mv 96 1,mv 97 5,bc 98 .sub 97 1,ia 99 1 96 98,ld 100 99,ge 101 (.ext .gI [tq 95,tq 100,.const (.int .u64 0)]),mv 94 101,xt 102 94 0,xt 103 94 1,mv 7 102,mv 8 103])))))
def A.nb:bO:=.seq (.block 0 (.loop A.na))
 (sr [ge 11 (.km (.const (.int .u64 0))),ge 12 (.km (.const (.int .u64 0)))]
 (.seq (sr [mv 104 5,mc 105 0]
 (.block 2 (.loop A.m_)))
 (sr [mv 141 0,mv 142 5,mv 143 0,mv 144 5,ia 145 1 143 144,ld 146 145,mv 147 12,mv 148 11,ge 149 (.ext .jB [tq 146,tq 147,tq 148]),mv 140 149,xt 150 140 0,xt 151 140 1,ia 152 1 141 142,so 152 150,mv 11 151]
 (.seq (sr [mv 153 11,ge 154 (.bin .eql (.bX .int) true (tq 153) (.const (.int .u64 0)))]
 (cd 154
 (sr [mv 155 6,mv 4 155]
 (.ret))
 (.skip)))
 (sr [ge 17 (.km (.const (.int .u64 0)))]
 (.seq (sr [mv 156 5,mc 157 0]
 (.block 4 (.loop A.m8)))
 (sr [mv 177 0,mv 178 5,ia 179 1 177 178,ld 180 179,mv 181 17,bi 182 .add 180 181,ia 183 1 177 178,so 183 182]
 (sr [mv 184 6,ge 185 (.bin .sub (.node []) false (tq 184) (.const (.int .u64 1))),mv 4 185]
 (.ret)))))))))
def A.b254:bO:=sr [ge 4 (.km (.const (.int .u64 0)))]
 (sr [mv 19 1,ln 20 19,mv 5 20]
 (sr [ge 6 (.km (.const (.int .u64 0))),ge 7 (.km (.const (.int .u64 0)))]
 (sr [ge 8 (.km (.const (.int .u64 0)))]
 (.seq (.seq (.dj [mv 21 0,mv 22 5,ia 23 1 21 22,ld 24 23,mv 25 1,mv 26 5,bc 27 .sub 26 1,ia 28 1 25 27,ld 29 28,bi 30 .geq 24 29] [0,0,3,7,0,0,32,112,240,511])
 (cd 30
 (sr [ge 6 (.km (.const (.int .u64 18446744073709551615)))]
 (.dj [mv 32 0,mv 33 5,bc 34 .sub 33 1,ia 35 1 32 34,ld 36 35,mv 37 1,mv 38 5,bc 39 .sub 38 1,ia 40 1 37 39,ld 41 40,ge 42 (.ext .gI [tq 36,tq 41,.const (.int .u64 0)]),mv 31 42,xt 43 31 0,xt 44 31 1,mv 7 43,mv 8 44] [0,0,2,7,15,0,0,64,224,480,1023,2047,4095,4095,8191,32767]))
 (.dj [mv 46 0,mv 47 5,ia 48 1 46 47,ld 49 48,mv 50 0,mv 51 5,bc 52 .sub 51 1,ia 53 1 50 52,ld 54 53,mv 55 1,mv 56 5,bc 57 .sub 56 1,ia 58 1 55 57,ld 59 58,ge 60 (.call (fq 251) [tq 49,tq 54,tq 59]),mv 45 60,xt 61 45 0,xt 62 45 1,mv 6 61,mv 7 62] [0,0,3,7,0,0,32,112,240,0,0,1024,3584,7680,16383,32767,65535,65535,131071,524287])))
 A.nb))))
def A.k254:=@A.kk 254 186 [.tmp 4] A.b254 (by kernel_rfl) rfl
def Yc3:vD i l≠[]:=by
 unfold vD
 split
 ·rintro rfl;simp_all
 ·simp
def Yp{w:List Nat}(h:av n (i::w)=[]):¬i<n/\av n w=[]:=by
 simp only[av]at h
 split at h
 ·exact absurd h Yc3
 ·rename_i hi;exact⟨hi,h⟩
def MR{n:Nat}:∀{w u:List Nat},av n w=[]->av n (w++u)=av n u
 |[],u,_=>rfl
 |i::w,u,h=>by
  obtain⟨hi,hw⟩:=Yp h
  simp only[Co,av,hi,if_false]
  exact MR hw
def JY{n N:Nat}(hn:n<=N):∀{w:List Nat},av N w=[]->av n w=[]
 |[],_=>rfl
 |i::w,h=>by
  obtain⟨hi,hw⟩:=Yp h
  simp only[av,show ¬i<n by omega,if_false]
  exact JY hn hw
def Zu8(hi:¬i<n)(h:av n l=[]):av n (vD i l)=[]:=by
 unfold vD
 split
 ·exact h
 ·simp only[av,hi,if_false];exact h
def MS{n N:Nat}:∀{w:List Nat},av n w=[]->av n (av N w)=[]
 |[],_=>rfl
 |i::w,h=>by
  obtain⟨hi,hw⟩:=Yp h
  have:=MS (N:=N) hw
  simp only[av]
  split
  ·exact Zu8 hi this
  ·exact this
def Zyj{r v:Nat}(hr:r<B)(hv:v<B):bu (r+v)+B*cf (r+v)=r+v/\bu (r+v)<B/\cf (r+v)<=1:=by
 have:=Yfy (c:=0) hv hr (by omega)
 simpa using this
def Yq(h:T O)(N u1 v1 W Z m:Nat)(r:T V)(st:St):Prop:=st=⟨h,N,[]⟩/\∃rr ov:Nat,r.get 6=some (.int .u64 m)/\r.get 7=some (.int .u64 rr)/\r.get 8=some (.int .u64 ov)/\ov<=1/\rr<B/\m<B/\u1=m*v1+(rr+B*ov)/\W<(m+1)*Z
structure Re (h:T O) (N n2 iu j q:Nat) (U Y:List Nat) (m:Nat) (r:T V) (st:St):Prop where
 n:st.n=N
 w:av n2 st.w=[]
 old:∀t,t≠iu->st.h.get t=h.get t
 ex:∃(i bw c:Nat) (o:List Nat),i+m=Y.length/\r.get 105=some (.int .i64 i)/\r.get 11=some (.int .u64 bw)/\r.get 12=some (.int .u64 c)/\st.h.get iu=some (.cells (dg o) 191 true)/\o.length=U.length/\Dg o/\(∀t,(t<j\/j+i<=t)->o[t]?=U[t]?)/\bw<=1/\c<B/\val B (o.drop j)+q*val B (Y.take i)=val B (U.drop j)+B^i*(c+bw)
structure Rf (h:T O) (N n2 iu j:Nat) (U Y:List Nat) (m:Nat) (r:T V) (st:St):Prop where
 n:st.n=N
 w:av n2 st.w=[]
 old:∀t,t≠iu->st.h.get t=h.get t
 ex:∃(i c:Nat) (o:List Nat),i+m=Y.length/\r.get 157=some (.int .i64 i)/\r.get 17=some (.int .u64 c)/\st.h.get iu=some (.cells (dg o) 191 true)/\o.length=U.length/\Dg o/\(∀t,(t<j\/j+i<=t)->o[t]?=U[t]?)/\c<=1/\val B (o.drop j)+B^i*c=val B (U.drop j)+val B (Y.take i)
structure HG (h:T O) (N n2 iu j k:Nat) (U Y:List Nat) (w:List Nat) (x:V) (st:St):Prop where
 n:st.n=N
 w:av n2 st.w=av n2 w
 old:∀t,t≠iu->st.h.get t=h.get t
 ex:∃(q:Nat) (o:List Nat),x=.int .u64 q/\q<B/\st.h.get iu=some (.cells (dg o) 191 true)/\o.length=U.length/\Dg o/\(∀t,t<j->o[t]?=U[t]?)/\(∀t,j+k+2<=t->t<o.length->o[t]?=some 0)/\val B (o.drop j)+q*val B Y=val B (U.drop j)/\val B (o.drop j)<val B Y
def Ynm{h:T O}{N n2 iu j q:Nat}{U Y:List Nat}{v:V}{cp:Option Nat}{r0:T V}(hv:Sl h n2 v (dg Y))(dY:Dg Y)(h2:n2<=iu)(hj:j+Y.length<U.length)(hl:U.length<1099511627776)(hq:q<B)
  (a0:r0.get 0=some (.slice iu j (Y.length+1) cp 1)) (a1:r0.get 1=some v) (a6:r0.get 6=some (.int .u64 q)) (MT:r0.get 104=some (.int .i64 Y.length)):
  ∀k r st,(∀t,jS [(11,16),(105,139)] t=false->r.get t=r0.get t)->Fx [(11,16),(105,139)] r0 186 ⟨r,186,[]⟩->Re h N n2 iu j q U Y k r st->Code A.C none A.m_ ⟨r,186,[]⟩ st (Rd [(11,16),(105,139)] r0 186 (Re h N n2 iu j q U Y) k (fun e r st=>e=.exit 2/\Re h N n2 iu j q U Y 0 r st)):=by
 rintro m r ⟨H,n1,W⟩ hr hf ⟨hn,hW,hO,i,bw,c,o,hi,AE,ku,Rh,al,ho,hd,hs,hb,hc,he⟩
 simp only at hn hW hO al
 subst hn
 have lv:=hv.len
 rw[bC]at lv
 rw[bk]
 cases m with
 |zero=>
  have:i=Y.length:=by omega
  subst this
  simp[A.m_,hr,hf,MT,AE]
  exact⟨rfl,hW,hO,Y.length,bw,c,o,by omega,by simp[AE],by simp[ku],by simp[Rh],al,ho,hd,hs,hb,hc,he⟩
 |succ m=>
  have ax:i<Y.length:=by omega
  have gy:=c9 ax
  generalize Y[i]=y at*
  have hy:y<B:=dY.get gy
  obtain⟨i2,o2,c2,e2,w2,p1,p2,p3,p4⟩:=hv.at (fu gy)
  have aW:i2≠iu:=by omega
  have p3:=(hO i2 aW).trans p3
  have go:o[j+i]?=some (o[j+i]'(by omega)):=c9 (by omega)
  generalize o[j+i]'(by omega)=u at*
  have hu:u<B:=hd.get go
  obtain⟨s1,s2,s3,s4,s5⟩:=Ynl hq hy hc hu hb
  have ta:bw=0\/bw=1:=by omega
  have AF:i<Y.length+1:=by omega
  simp[A.m_,hr,hf,MT,AE,ax,a6,a1,lv,p1,p3,p4]
  refine aB (MU hq hy) ?_
  rintro _ H n1 BM ⟨rfl,rfl,rfl⟩
  have q1:bu (bu (q*y)+c)=vX q y c:=rfl
  have q2:cG (cf (q*y)) (cf (bu (q*y)+c))=oR q y c:=rfl
  have Yr:(bw:Int)=0\/(bw:Int)=1:=by omega
  simp(disch:=first|(simp;done)|omega|(simp only[bC,cB,bp];omega)|rfl) [-getElem?_pos,hr,hf,AE,AF,a0,ku,Rh,al,fu go,pL,q1,q2,Yr]
  have vU:¬iu<n2:=by omega
  refine⟨m,by omega,rfl,by simp[av,hW,vU],fun t ht=>by rw[T.ag,ak ht];exact hO t ht,i+1,fC u (vX q y c) bw,oR q y c,o.set (j+i) (ew u (vX q y c) bw),by omega,by simp,by simp,by simp,by simp,by simp[ho],hd.tW s2,?_,s4,s3,?_⟩
  ·intro t ht
   rw[dW (by omega)]
   exact hs t (by omega)
  ·have go2:(o.drop j)[i]?=some u:=by rw[fg];exact go
   have v1:=MV (b:=B) (v:=ew u (vX q y c) bw) go2
   rw[List.drop_set,ak (by omega),show j+i-j=i by omega,ET gy]
   have e1:B^i*(ew u (vX q y c) bw+q*y+c+bw)=B^i*(u+B*(oR q y c+fC u (vX q y c) bw)):=by rw[s1]
   rw[fZ]
   generalize val B ((o.drop j).set i (ew u (vX q y c) bw))=z1 at*
   generalize val B (o.drop j)=z2 at*
   generalize val B (U.drop j)=z3 at*
   generalize val B (List.take i Y)=z4 at*
   generalize ew u (vX q y c) bw=z5 at*
   generalize oR q y c=z6 at*
   generalize fC u (vX q y c) bw=z7 at*
   generalize B^i=z8 at*
   clear s1 gy hy go go2 hu hs hd
   grind
def Yp0{h:T O}{N n2 iu j:Nat}{U Y:List Nat}{v:V}{cp:Option Nat}{r0:T V}(hv:Sl h n2 v (dg Y))(dY:Dg Y)(h2:n2<=iu)(hN:iu<N)(hj:j+Y.length<U.length)(hl:U.length<1099511627776)
  (a0:r0.get 0=some (.slice iu j (Y.length+1) cp 1)) (a1:r0.get 1=some v) (MW:r0.get 156=some (.int .i64 Y.length)):
  ∀k r st,(∀t,jS [(17,18),(157,176)] t=false->r.get t=r0.get t)->Fx [(17,18),(157,176)] r0 186 ⟨r,186,[]⟩->Rf h N n2 iu j U Y k r st->Code A.C none A.m8 ⟨r,186,[]⟩ st (Rd [(17,18),(157,176)] r0 186 (Rf h N n2 iu j U Y) k (fun e r st=>e=.exit 4/\Rf h N n2 iu j U Y 0 r st)):=by
 rintro m r ⟨H,n1,W⟩ hr hf ⟨hn,hW,hO,i,c,o,hi,AG,Ri,al,ho,hd,hs,hc,he⟩
 simp only at hn hW hO al
 subst hn
 have lv:=hv.len
 rw[bC]at lv
 rw[bk]
 cases m with
 |zero=>
  have:i=Y.length:=by omega
  subst this
  simp[A.m8,hr,hf,MW,AG]
  exact⟨rfl,hW,hO,Y.length,c,o,by omega,by simp[AG],by simp[Ri],al,ho,hd,hs,hc,he⟩
 |succ m=>
  have ax:i<Y.length:=by omega
  have gy:=c9 ax
  generalize Y[i]=y at*
  have hy:y<B:=dY.get gy
  obtain⟨i2,o2,c2,e2,w2,p1,p2,p3,p4⟩:=hv.at (fu gy)
  have aW:i2≠iu:=by omega
  have p3:=(hO i2 aW).trans p3
  have go:o[j+i]?=some (o[j+i]'(by omega)):=c9 (by omega)
  generalize o[j+i]'(by omega)=u at*
  have hu:u<B:=hd.get go
  obtain⟨s1,s2,s3⟩:=Yfy hy hu hc
  have AF:i<Y.length+1:=by omega
  have GX:(c:Int)=0\/(c:Int)=1:=by omega
  have vU:¬iu<n2:=by omega
  have hiN:i2<n1:=by omega
  have iS:¬iu=i2:=fun hc=>aW hc.symm
  simp(disch:=first|(simp;done)|omega|(simp only[bC,cB,bp];omega)|rfl) [-getElem?_pos,A.m8,hr,hf,MW,AG,ax,AF,hN,hiN,aW,iS,ct.cv,a0,a1,lv,p1,p3,p4,al,fu go,pL,Ri,GX]
  rw[G9 (by simp[hN,hiN,aW,iS])]
  simp(disch:=first|(simp;done)|omega|(simp only[bC,cB,bp];omega)|rfl) [hr,hf,AG]
  refine⟨m,by omega,rfl,by simp[av,hW,vU],fun t ht=>by rw[T.ag,ak ht];exact hO t ht,i+1,cf (u+y+c),o.set (j+i) (bu (u+y+c)),by omega,by simp,by simp,by simp,by simp[ho],hd.tW s2,?_,s3,?_⟩
  ·intro t ht
   rw[dW (by omega)]
   exact hs t (by omega)
  ·have go2:(o.drop j)[i]?=some u:=by rw[fg];exact go
   have v1:=MV (b:=B) (v:=bu (u+y+c)) go2
   rw[List.drop_set,ak (by omega),show j+i-j=i by omega,ET gy]
   have e1:B^i*(bu (u+y+c)+B*cf (u+y+c))=B^i*(u+y+c):=by rw[s1]
   rw[fZ]
   generalize val B ((o.drop j).set i (bu (u+y+c)))=z1 at*
   generalize val B (o.drop j)=z2 at*
   generalize val B (U.drop j)=z3 at*
   generalize val B (List.take i Y)=z4 at*
   generalize bu (u+y+c)=z5 at*
   generalize cf (u+y+c)=z6 at*
   generalize B^i=z8 at*
   clear s1 gy hy go go2 hu hs hd
   grind
def Yoj{u2 u1 v2 U' V' P:Nat}{e0:TypeId}{HH:Bool}(hv:Sl h n2 v (dg Y))(hY:Y.length=k+2)(dY:Dg Y)(hl:U.length<1099511627776)(p_:j+k+2<U.length)(hU:h.get iu=some (.cells (dg U) e0 HH))(dU:Dg U)
  (f2:Y[k]?=some v2) (f1:Y[k+1]?=some v1) (g2:U[j+k]?=some u2) (oC:0<v1) (hP:0<P) (CI:U'<P) (CJ:V'<P)
  (a0:r0.get 0=some (.slice iu j (k+3) cp 1)) (a1:r0.get 1=some v) (a5:r0.get 5=some (.int .i64 ((k:Int)+2))):
  ∀m r st,(∀t,jS [(6,10),(63,103)] t=false->r.get t=r0.get t)->Fx [(6,10),(63,103)] r0 186 ⟨r,186,[]⟩->Yq h N u1 v1 (U'+P*(u2+B*u1)) (V'+P*(v2+B*v1)) m r st->Code A.C none A.na ⟨r,186,[]⟩ st (Rd [(6,10),(63,103)] r0 186 (Yq h N u1 v1 (U'+P*(u2+B*u1)) (V'+P*(v2+B*v1))) m (fun e r st=>e=.exit 0/\st=⟨h,N,[]⟩/\∃q:Nat,r.get 6=some (.int .u64 q)/\q<B/\(q-1)*(V'+P*(v2+B*v1))<=U'+P*(u2+B*u1)/\U'+P*(u2+B*u1)<(q+1)*(V'+P*(v2+B*v1)))):=by
 rintro m r _ hr hf ⟨rfl,rr,ov,h6,h7,h8,hov,C8,hm,hinv,gW⟩
 have lv:=hv.len
 rw[bC]at lv
 rw[bk]
 have jL:v2<B:=dY.get f2
 have Dc:v1<B:=dY.get f1
 have fm:u2<B:=dU.get g2
 have fin:m*v2<=(rr+B*ov)*B+u2->(m-1)*(V'+P*(v2+B*v1))<=U'+P*(u2+B*u1):=by
  intro hc
  cases m with
  |zero=>simp
  |succ s=>exact Yob oC CJ (by omega) hinv hc
 by_cases h0:ov=0
 ·subst h0
  simp only[Nat.mul_zero,mP]at hinv fin
  obtain⟨i2,o2,c2,e2,w2,p1,p2,p3,p4⟩:=hv.at (fu f2)
  have bL:((k:Int)+2-2)=(k:Int):=by omega
  have yv:(k:Int)<((k+2:Nat):Int):=by omega
  have MY:(k:Int)<((k+3:Nat):Int):=by omega
  rw[hY]at lv
  simp(disch:=first|(simp;done)|omega|(simp only[bC,cB,bp];omega)|rfl) [A.na,hr,hf,h6,h7,h8,a0,a1,a5,lv,p1,p3,p4,aE,bL,yv]
  refine aB (MU hm jL) ?_
  rintro _ h N BM ⟨rfl,rfl,rfl⟩
  have hp:bu (m*v2)+B*cf (m*v2)=m*v2:=by
   have:=uD (m*v2) B
   unfold bu cf;unfold B at*;omega
  have iH:bu (m*v2)<B:=Yds
  obtain⟨i1,o1,c1,e1,w1,q1,q2,q3,q4⟩:=hv.at (fu f1)
  obtain⟨hi,AH⟩:∃x,cf (m*v2)=x:=⟨_,rfl⟩
  obtain⟨lo,tX⟩:∃x,bu (m*v2)=x:=⟨_,rfl⟩
  rw[AH,tX]at hp
  rw[tX]at iH
  by_cases c1:hi<rr
  ·have:=fin (by
    have:=kY B c1
    rw[jk rr B];rw[Nat.succ_eq_add_one,tA]at this;omega)
   simp[hr,hf,h6,h7,h8,AH,tX,c1]
   exact⟨hm,this,gW⟩
  ·have dec:rr*B+u2<m*v2->0<m/\u1=(m-1)*v1+(rr+v1)/\U'+P*(u2+B*u1)<(m-1+1)*(V'+P*(v2+B*v1)):=by
    intro hc
    have h3:=Yoa CI hinv hc (b:=B) (P:=P) (V':=V')
    cases m with
    |zero=>omega
    |succ s=> 
     refine⟨by omega,?_,by simpa using h3⟩
     rw[hinv,iU];simp;omega
   obtain⟨s1,s2,s3⟩:=Zyj C8 Dc
   have eF:((k:Int)+2-1)=(k:Int)+1:=by omega
   have MZ:(k:Int)+1<((k+2:Nat):Int):=by omega
   have zax:(k:Int)+1=((k+1:Nat):Int):=by omega
   have goA:rr*B+u2<m*v2->∃k',k'<m/\0<m/\k'=m-1:=fun hc=>⟨m-1,by have:=(dec hc).1;omega,(dec hc).1,rfl⟩
   have sbm:0<m->fP m 1=m-1:=fun hc=>ER hc (by unfold B at hm;omega)
   by_cases c2:hi=rr
   ·by_cases c3:lo<=u2
    ·have:=fin (by rw[<-hp,c2,jk rr B];omega)
     simp(disch:=first|(simp;done)|omega|(simp only[bC,cB,bp];omega)|rfl) [-getElem?_pos,hr,hf,h6,h7,h8,AH,tX,c1,c2,c3,aE,a0,a5,bL,MY,hU,fu g2]
     exact⟨hm,this,gW⟩
    ·obtain⟨d1,d2,d3⟩:=dec (by rw[<-hp,c2,jk rr B];omega)
     have sb:=sbm d1
     simp(disch:=first|(simp;done)|omega|(simp only[bC,cB,bp];omega)|rfl) [-getElem?_pos,hr,hf,h6,h7,h8,AH,tX,c1,c2,c3,aE,a0,a1,a5,bL,eF,MY,hU,fu g2,lv,q1,q3,q4,MZ,sb]
     exact⟨m-1,by omega,rfl,bu (rr+v1),cf (rr+v1),by simp,by simp,by simp,s3,s2,by omega,by rw[s1];exact d2,d3⟩
   ·obtain⟨d1,d2,d3⟩:=dec (by
     have:rr+1<=hi:=by omega
     have:=kY B this
     rw[tA]at this
     rw[<-hp,jk rr B];omega)
    have sb:=sbm d1
    simp(disch:=first|(simp;done)|omega|(simp only[bC,cB,bp];omega)|rfl) [hr,hf,h6,h7,h8,AH,tX,c1,c2,aE,a0,a1,a5,bL,eF,lv,q1,q3,q4,MZ,sb]
    exact⟨m-1,by omega,rfl,bu (rr+v1),cf (rr+v1),by simp,by simp,by simp,s3,s2,by omega,by rw[s1];exact d2,d3⟩
 ·have:ov=1:=by omega
  subst this
  have:=fin (by
   have h1:m*v2<=B*B:=wS (by omega) (by omega)
   rw[yZ,iU];omega)
  simp[A.na,hr,hf,h8,aE]
  exact⟨m,by simp[h6],hm,this,gW⟩
def Ys(hl:o.length=U.length)(hj:j+n<=U.length):val B (o.drop j)=val B ((o.drop j).take n)+B^n*val B (o.drop (j+n)):=by
 have:=EW B (o.drop j) n (by rw[x_];omega)
 rw[List.drop_drop]at this
 exact this
def Zxy{p:Nat}(hl:o.length=U.length)(hs:∀t,p<=t->o[t]?=U[t]?):o.drop p=U.drop p:=by
 apply oe
 intro t
 rw[fg,fg]
 exact hs _ (by omega)
def Yt(hd:Dg o)(hl:o.length=U.length)(hj:j+n<=U.length):val B ((o.drop j).take n)<B^n:=by
 apply Zm5
 ·intro d h;exact hd d (IL h)
 ·rw[x_];omega
def Ybp{p d:Nat}(hd:o[p]?=some d)(hz:∀t,p+1<=t->t<o.length->o[t]?=some 0):val B (o.drop p)=d:=by
 rw[BN hd,Yn hz];omega
def Yo6(h:k<l.length):ad (dg l) k [.int .u64 0]=dg (l.set k 0):=pL (v:=0) h
def Ybv{d u2 u1 v2 U' V' q0 J0 Rj:Nat}(hv:Sl h n2 v (dg Y))(hY:Y.length=k+2)(dY:Dg Y)(h2:n2<=iu)(hN:iu<N)(hl:U.length<1099511627776)(p_:j+k+2<U.length)(hU:h.get iu=some (.cells (dg U) 191 true))(dU:Dg U)
  (f2:Y[k]?=some v2) (f1:Y[k+1]?=some v1) (g2:U[j+k]?=some u2) (gd:U[j+k+2]?=some d) (hz:∀t,j+k+3<=t->t<U.length->U[t]?=some 0) (oC:0<v1) (CI:U'<B^k) (CJ:V'<B^k) (eU:val B (U.drop j)=U'+B^k*(u2+B*u1)) (eV:val B Y=V'+B^k*(v2+B*v1))
  (a0:r0.get 0=some (.slice iu j (k+3) cp 1)) (a1:r0.get 1=some v) (a5:r0.get 5=some (.int .i64 ((k:Int)+2))) (a6:r0.get 6=some (.int .u64 q0)) (a7:r0.get 7=some (.int .u64 J0)) (a8:r0.get 8=some (.int .u64 Rj))
  (b1:Rj<=1) (b2:J0<B) (b3:q0<B) (b4:u1=q0*v1+(J0+B*Rj)) (b5:U'+B^k*(u2+B*u1)<(q0+1)*(V'+B^k*(v2+B*v1))):
  Code A.C none A.nb ⟨r0,186,[]⟩ ⟨h,N,[]⟩ (fun e fr st=>e=.ret/\∃r x,fr=⟨r,186,[]⟩/\r.get 4=some x/\HG h N n2 iu j k U Y [] x st):=by
 have hP:0<B^k:=zX (by decide)
 rw[bk]
 simp[A.nb]
 refine bG [(6,10),(63,103)] _ (Yq h N u1 v1 (U'+B^k*(u2+B*u1)) (V'+B^k*(v2+B*v1))) q0 ?_ (Yoj hv hY dY hl p_ hU dU f2 f1 g2 oC hP CI CJ a0 a1 a5) ?_
 ·exact⟨rfl,J0,Rj,a6,a7,a8,b1,b2,b3,b4,b5⟩
 rintro e r _ hr ⟨rfl,rfl,q,h6,hq,fO,gW⟩
 rw[<-eU,<-eV]at fO gW
 simp[hr,a5]
 refine bG [(11,16),(105,139)] _ (Re h N n2 iu j q U Y) Y.length ?_ (Ynm hv dY h2 (by omega) hl hq (cp:=cp) (by simp[hr,a0,hY]) (by simp[hr,a1]) (by simp[h6]) (by simp[hr,a5,hY])) ?_
 ·exact⟨rfl,rfl,fun _ _=>rfl,0,0,0,U,by omega,by simp,by simp,by simp,hU,rfl,dU,fun _ _=>rfl,by omega,by decide,by simp[val]⟩
 rintro e r1 ⟨H,n1,W⟩ jr ⟨rfl,hn,hW,hO,i,bw,cc,o,hi,AE,ku,Rh,al,ho,hd,hs,hb,hc,he⟩
 simp only at hn hW hO al
 subst hn
 have:i=k+2:=by omega
 subst this
 have god:o[j+(k+2)]?=some d:=by rw[hs _ (by omega)];exact gd
 have Rk:d<B:=dU.get gd
 obtain⟨s1,s2,s3⟩:=Ymk hc Rk hb
 have Yr:(bw:Int)=0\/(bw:Int)=1:=by omega
 have BM:(k:Int)+2<(k:Int)+3:=by omega
 have vU:¬iu<n2:=by omega
 obtain⟨t',M0⟩:∃x,ew d cc bw=x:=⟨_,rfl⟩
 obtain⟨ee,Lk⟩:∃x,fC d cc bw=x:=⟨_,rfl⟩
 rw[M0,Lk]at s1
 rw[M0]at s2
 rw[Lk]at s3
 simp(disch:=first|(simp;done)|omega|(simp only[bC,cB,bp];omega)|rfl) [-getElem?_pos,jr,hr,a0,a5,ku,Rh,h6,al,fu god,pL,Yr,M0,Lk,show ((k:Int)+2).toNat=k+2 by omega]
 have hVP:val B Y<B^(k+2):=by rw[<-hY];exact EU dY
 have hPP:0<B^(k+2):=zX (by decide)
 have eo:=Ys (j:=j) (n:=k+2) ho (by omega)
 have eu:=Ys (o:=U) (j:=j) (n:=k+2) rfl (by omega)
 rw[Zxy ho (p:=j+(k+2)) (fun t ht=>hs t (by omega))]at eo
 have Yu:val B (U.drop (j+(k+2)))=d:=Ybp gd (fun t h1 h2=>hz t (by omega) h2)
 rw[Yu]at eo eu
 have hSP:=Yt (j:=j) (n:=k+2) hd ho (by omega)
 have go2:(o.drop j)[k+2]?=some d:=by rw[fg];exact god
 have vs:=MV (b:=B) (v:=t') go2
 rw[eZ (by omega)]at he
 generalize val B ((o.drop j).take (k+2))=S at*
 generalize val B ((U.drop j).take (k+2))=W0 at*
 have h1:S+q*val B Y=W0+B^(k+2)*(cc+bw):=by rw[eo,eu]at he;omega
 have kt:=Yro (by decide) hPP hVP hSP s2 s3 h1 (by omega:t'+(cc+bw)=d+B*ee) (by rw[<-eu];exact fO) (by rw[<-eu];exact gW)
 have M1:(o.set (j+(k+2)) t').drop j=(o.drop j).set (k+2) t':=by rw[List.drop_set,ak (by omega),show j+(k+2)-j=k+2 by omega]
 have Yv:val B ((o.set (j+(k+2)) t').drop j)=S+B^(k+2)*t':=by rw[M1];omega
 have d_:=hd.tW (k:=j+(k+2)) s2
 have dZ:av n2 (iu::W)=[]:=by simp[av,hW,vU]
 by_cases LV:ee=0
 ·obtain⟨t1,t2,t3⟩:=kt.1 LV
  subst t3
  simp(disch:=first|(simp;done)|omega|(simp only[bC,cB,bp];omega)|rfl) [-getElem?_pos,jr,hr,h6,LV]
  refine HG.mk rfl dZ (fun t ht=>by rw[T.ag,ak ht];exact hO t ht) ⟨q,o.set (j+(k+2)) 0,rfl,hq,by simp,by simp[ho],d_,?_,?_,?_,?_⟩
  ·intro t ht
   rw[dW (by omega)];exact hs t (by omega)
  ·intro t t1 t2
   rw[sQ]at t2
   by_cases htt:t=j+(k+2)
   ·subst htt;rw[gK (by omega)]
   ·rw[dW (by omega),hs t (by omega)];exact hz t (by omega) (by omega)
  ·rw[Yv,eu];omega
  ·rw[Yv];omega
 ·have M3:ee=1:=by omega
  obtain⟨t1,t2,t3⟩:=kt.2 M3
  have sb:fP q 1=q-1:=ER t1 (by unfold B at hq;omega)
  have jL:Sl (H.set iu (.cells (dg (o.set (j+(k+2)) t')) 191 true)) n2 v (dg Y):=hv.ae ⟨aQ _,fun i hi=>by rw[T.ag,ak (by omega)];exact hO i (by omega)⟩
  simp[jr,hr,h6,a5,LV]
  refine bG [(17,18),(157,176)] _ (Rf _ n1 n2 iu j (o.set (j+(k+2)) t') Y) Y.length ?_ (Yp0 jL dY h2 hN (by simp;omega) (by simp;omega) (cp:=cp) (by simp[jr,hr,a0,hY]) (by simp[jr,hr,a1]) (by simp[jr,hr,a5,hY])) ?_
  ·exact⟨rfl,dZ,fun _ _=>rfl,0,0,o.set (j+(k+2)) t',by omega,by simp,by simp,by simp,rfl,d_,fun _ _=>rfl,by omega,by simp[val]⟩
  rintro e r2 ⟨H3,n3,W3⟩ dt ⟨rfl,M4,BR,EZ,i3,c3,o3,hi3,AG,Ri,Fa,sZ,Yw,Rl,VE,he3⟩
  simp only at M4 BR EZ Fa
  subst M4
  have:i3=k+2:=by omega
  subst this
  have go3:o3[j+(k+2)]?=some t':=by rw[Rl _ (by omega),gK (by omega)]
  have Yx:=Ys (j:=j) (n:=k+2) (sZ.trans (sQ ..)) (by omega)
  rw[sQ]at sZ
  rw[Zxy (sZ.trans (sQ ..).symm) (p:=j+(k+2)) (fun t ht=>Rl t (by omega))]at Yx
  have e4:val B ((o.set (j+(k+2)) t').drop (j+(k+2)))=t':=Ybp (gK (by omega)) (fun t h1 h2=>by
   rw[sQ]at h2
   rw[dW (by omega),hs t (by omega)];exact hz t (by omega) (by omega))
  rw[e4]at Yx
  have Yy:=Yt (j:=j) (n:=k+2) Yw sZ (by omega)
  have Yz:(o3.drop j)[k+2]?=some t':=by rw[fg];exact go3
  have vs3:=MV (b:=B) (v:=0) Yz
  rw[eZ (by omega),Yv,Yx]at he3
  generalize val B ((o3.drop j).take (k+2))=A at*
  obtain⟨z1,z2,z3⟩:=Yn9 hPP hVP Yy VE s2 t1 t2 t3 (by rw[<-eu];exact fO) (by omega:A+B^(k+2)*c3=S+val B Y)
  have z4:cG t' c3=0:=z3
  simp(disch:=first|(simp;done)|omega|(simp only[bC,cB,bp];omega)|rfl) [-getElem?_pos,dt,jr,hr,a0,a5,Ri,h6,Fa,fu go3,pL,Yo6 (l:=o3) (k:=j+(k+2)) (by omega),z4,sb,show ((k:Int)+2).toNat=k+2 by omega]
  have BS:av n2 (iu::W3)=[]:=by simp[av,BR,vU]
  refine HG.mk rfl BS (fun t ht=>by rw[T.ag,ak ht,EZ t ht,T.ag,ak ht];exact hO t ht) ⟨q-1,o3.set (j+(k+2)) 0,rfl,by omega,by simp,by simp[sZ,ho],Yw.tW (by decide),?_,?_,?_,?_⟩
  ·intro t ht
   rw[dW (by omega),Rl t (by omega),dW (by omega)];exact hs t (by omega)
  ·intro t t1 t2
   rw[sQ]at t2
   by_cases htt:t=j+(k+2)
   ·subst htt;rw[gK (by omega)]
   ·rw[dW (by omega),Rl t (by omega),dW (by omega),hs t (by omega)];exact hz t (by omega) (by omega)
  ·rw[List.drop_set,ak (by omega),show j+(k+2)-j=k+2 by omega,eu];omega
  ·rw[List.drop_set,ak (by omega),show j+(k+2)-j=k+2 by omega];omega
def Ybx{w:List Nat}(hv:Sl h n2 v (dg Y))(hY:Y.length=k+2)(dY:Dg Y)(h2:n2<=iu)(hN:iu<N)(hl:U.length<1099511627776)(p_:j+k+2<U.length)(hU:h.get iu=some (.cells (dg U) 191 true))(dU:Dg U)
  (f1:Y[k+1]?=some v1) (oC:0<v1) (hz:∀t,j+k+3<=t->t<U.length->U[t]?=some 0) (ax:val B (U.drop j)<B*val B Y):
  Call A.C (.func 254 [] []) [.slice iu j (k+3) cp 1,v] ⟨h,N,w⟩ (HG h N n2 iu j k U Y w):=by
 have lv:=hv.len
 rw[bC,hY]at lv
 have f2:=c9 (l:=Y) (i:=k) (by omega)
 have g2:=c9 (l:=U) (i:=j+k) (by omega)
 have gc:=c9 (l:=U) (i:=j+k+1) (by omega)
 have gd:=c9 (l:=U) (i:=j+k+2) (by omega)
 generalize Y[k]'(by omega)=v2 at*
 generalize U[j+k]'(by omega)=u2 at*
 generalize U[j+k+1]'(by omega)=c at*
 generalize U[j+k+2]'(by omega)=d at*
 have gd':U[j+(k+2)]?=some d:=by rw[<-pe];exact gd
 have gc':U[j+(k+1)]?=some c:=by rw[<-pe];exact gc
 have YA:v2<B:=dY.get f2
 have Dc:v1<B:=dY.get f1
 have YB:u2<B:=dU.get g2
 have YC:c<B:=dU.get gc
 have Rk:d<B:=dU.get gd
 have hP:0<B^k:=zX (by decide)
 have eU:=Ygc (b:=B) (w:=U.drop j) (k:=k) (a:=u2) (c:=c) (d:=d) (by rw[fg];exact g2) (by rw[fg];exact gc) (by rw[fg];exact gd) (fun t h1 h2=>by rw[fg];rw[x_]at h2;exact hz _ (by omega) (by omega))
 have eV:=Ygd (b:=B) f2 f1 hY
 have CI:=Yt (j:=j) (n:=k) dU rfl (by omega)
 have CJ:=Zm5 (b:=B) (k:=k) dY (by omega)
 rw[eU,eV]at ax
 generalize val B ((U.drop j).take k)=U' at*
 generalize val B (Y.take k)=V' at*
 obtain⟨i1,o1,c1,e1,w1,q1,q2,q3,q4⟩:=hv.at (fu f1)
 have xF:i1<N:=by omega
 have aW:¬i1=iu:=by omega
 have iS:¬iu=i1:=by omega
 have t1:((k:Int)+2-1)=(k:Int)+1:=by omega
 have t2:((k:Int)+2).toNat=k+2:=by omega
 rw[aN,A.k254 (by simp)]
 have fin:∀(r:T V) (q rr ov:Nat) (K:List Kf) (Q:Rs->Prop),r.get 0=some (.slice iu j (k+3) cp 1)->r.get 1=some v->r.get 5=some (.int .i64 ((k:Int)+2))->r.get 6=some (.int .u64 q)->r.get 7=some (.int .u64 rr)->r.get 8=some (.int .u64 ov)->ov<=1->rr<B->q<B->d*B+c=q*v1+(rr+B*ov)->U'+B^k*(u2+B*(d*B+c))<(q+1)*(V'+B^k*(v2+B*v1))->(∀r x st,r.get 4=some x->HG h N n2 iu j k U Y [] x st->bA A.C K (some (.ex .ret ⟨r,186,[]⟩ st)) Q)->bA A.C K (eJ (A.C.code none A.nb ⟨r,186,[]⟩ ⟨h,N,[]⟩)) Q:=by
  intro r q rr ov K Q a0 a1 a5 a6 a7 a8 b1 b2 b3 b4 b5 hq
  refine mi (Ybv hv hY dY h2 hN hl p_ hU dU f2 f1 g2 gd hz oC CI CJ eU eV a0 a1 a5 a6 a7 a8 b1 b2 b3 b4 b5) ?_
  rintro e fr st ⟨rfl,r',x,rfl,hx,hs⟩
  exact hq r' x st hx hs
 have out:∀(r:T V) (x:V) (st:St),r.get 4=some x->HG h N n2 iu j k U Y [] x st->bA A.C [.fin [.tmp 4] ⟨h,N,w⟩] (some (.ex .ret ⟨r,186,[]⟩ st)) (CR (HG h N n2 iu j k U Y w)):=by
  rintro r x ⟨H,n1,W⟩ h4 ⟨s1,s2,s3,s4⟩
  simp[h4]
  exact⟨s1,by show av n2 (av N W++w)=_;rw[MR (MS (by simpa[av]using s2))],s3,s4⟩
 by_cases pr:v1<=d
 ·have ux:=Yrz hP CJ YA pr ax
  subst ux
  obtain⟨s1,s2,s3⟩:=Zyj YC Dc
  simp(disch:=first|(simp;done)|omega|(simp only[bC,cB,bp];omega)|rfl) [-getElem?_pos,A.b254,lv,hN,xF,aW,iS,hU,fu gd',fu gc',q1,q3,q4,t1,t2,ct.cv]
  refine fin _ 18446744073709551615 (bu (c+d)) (cf (c+d)) _ _ (by simp) (by simp) (by simp) (by simp) (by simp) (by simp) s3 s2 (by decide) ?_ ?_ (fun r x st h4 hs=>out r x st h4 hs)
  ·rw[s1];unfold B;omega
  ·unfold B at ax ⊢;exact ax
 ·have AB:¬(v1:Int)<=(d:Int):=by omega
  simp(disch:=first|(simp;done)|omega|(simp only[bC,cB,bp];omega)|rfl) [-getElem?_pos,A.b254,lv,hN,xF,aW,iS,hU,fu gd',fu gc',q1,q3,q4,t1,t2,AB,ct.cv]
  refine aB (Zxz (show d<v1 by omega) Dc YC) ?_
  rintro _ h' N' hk ⟨rfl,rfl,rfl⟩
  obtain⟨q,hq⟩:∃q,(d*18446744073709551616+c)/v1=q:=⟨_,rfl⟩
  obtain⟨rr,C8⟩:∃q,(d*18446744073709551616+c)%v1=q:=⟨_,rfl⟩
  have hinv:d*B+c=q*v1+rr:=by
   have:=uD (d*18446744073709551616+c) v1
   rw[hq,C8,jk]at this
   exact this.symm
  have qJ:rr<v1:=by rw[<-C8];exact kZ _ oC
  have zK:q<B:=by
   rw[<-hq];apply (qc oC).2
   have:=mr B (show d+1<=v1 by omega)
   rw[jk B v1]
   rw[iU]at this
   unfold B at*;omega
  rw[hq,C8]
  simp[lv,hN,xF,aW,iS,ct.cv]
  refine fin _ q rr 0 _ _ (by simp) (by simp) (by simp) (by simp) (by simp) (by simp) (by omega) (by omega) zK (by rw[hinv];omega) (Yr0 CI YB hinv qJ) (fun r x st h4 hs=>out r x st h4 hs)
end Go.Mx
