/-num-/
import Derived.Test.YteojhfjdbpdolaaGreatDoorNaL
set_option linter.all false
namespace Go.Mx
open Go Go.Proofs
variable {N i iu j k n n2 v1:Nat} {U Y l o:List Nat} {cp:Option Nat} {h:T O} {r0:T V} {v:V}
set_option maxHeartbeats 4000000
set_option maxRecDepth 1000000
def A.mY:bU:=sr [bi 158 .lss 157 156]
 (.seq (cd 158
 (.skip)
 (.exit 4))
 (.seq (.block 5 (sr [mv 159 157,mv 18 159]
 (.du [mv 161 0,mv 162 18,mv 163 0,mv 164 18,ia 165 1 163 164,ld 166 165,mv 167 1,mv 168 18,ia 169 1 167 168,ld 170 169,mv 171 17,ge 172 (.ext .gH [tq 166,tq 170,tq 171]),mv 160 172,xt 173 160 0,xt 174 160 1,ia 175 1 161 162,so 175 173,mv 17 174] [0,0,0,0,12,28,0,0,192,448,0,2044,4092,8188,8188,16383,49151,131071])))
 (.dN [bc 176 .add 157 1,mv 157 176])))
def A.mZ:bU:=sr [bi 106 .lss 105 104]
 (.seq (cd 106
 (.skip)
 (.exit 2))
 (.seq (.block 3 (sr [mv 107 105,mv 13 107]
 (sr [mv 109 6,mv 110 1,mv 111 13,ia 112 1 110 111,ld 113 112,c2 114 198 109 113,mv 108 114,xt 115 108 0,xt 116 108 1,mv 14 115,mv 15 116]
 (sr [ge 16 (.kh (.const (.int .u64 0)))]
 (sr [mv 118 15,mv 119 12,ge 120 (.ext .gH [tq 118,tq 119,.const (.int .u64 0)]),mv 117 120,xt 121 117 0,xt 122 117 1,mv 15 121,mv 16 122]
 (sr [mv 123 14,mv 124 16,bi 125 .add 123 124,mv 12 125]
 (.dN [mv 127 0,mv 128 13,mv 129 0,mv 130 13,ia 131 1 129 130,ld 132 131,mv 133 15,mv 134 11,ge 135 (.ext .jC [tq 132,tq 133,tq 134]),mv 126 135,xt 136 126 0,xt 137 126 1,ia 138 1 127 128,so 138 136,mv 11 137])))))))
 (.dN [bc 139 .add 105 1,mv 105 139])))
def A.m7:bU:=.seq (sr [mv 63 8,ge 64 (.bin .eql (.bX .int) true (tq 63) (.const (.int .u64 0)))]
 (cd 64
 (.skip)
 (.exit 0)))
 (.block 1 (sr [mv 66 6,mv 67 1,mv 68 5,bc 69 .sub 68 2,ia 70 1 67 69,ld 71 70,c2 72 198 66 71,mv 65 72,xt 73 65 0,xt 74 65 1,mv 9 73,mv 10 74]
 (.seq (sr [mv 75 9,mv 76 7,bi 77 .lss 75 76,mv 78 77,mh 79 9 78,mh 80 7 78,gz 81 78 (.bin .eql (.bX .int) false (tq 79) (tq 80)),mh 82 81 78,mg 83 10 82,mg 84 0 82,mg 85 5 82,gy 86 82 (.bin .sub (.node []) false (tq 85) (kq 2)),gy 87 82 (.fg 1 (tq 84) (tq 86)),gy 88 82 (.load none (tq 87)),gy 89 82 (.bin .leq (.node []) false (tq 83) (tq 88)),gz 90 78 (.pick (tq 82) (tq 89) (.const (.bool false))),pt 91 78 90]
 (cd 91
 (.exit 0)
 (.skip)))
 (sr [mv 92 6,ge 93 (.bin .sub (.node []) false (tq 92) (.const (.int .u64 1))),mv 6 93]
 (.dN [mv 95 7,mv 96 1,mv 97 5,bc 98 .sub 97 1,ia 99 1 96 98,ld 100 99,ge 101 (.ext .gH [tq 95,tq 100,.const (.int .u64 0)]),mv 94 101,xt 102 94 0,xt 103 94 1,mv 7 102,mv 8 103])))))
def A.m8:bU:=.seq (.block 0 (.loop A.m7))
 (sr [ge 11 (.kh (.const (.int .u64 0))),ge 12 (.kh (.const (.int .u64 0)))]
 (.seq (sr [mv 104 5,mc 105 0]
 (.block 2 (.loop A.mZ)))
 (sr [mv 141 0,mv 142 5,mv 143 0,mv 144 5,ia 145 1 143 144,ld 146 145,mv 147 12,mv 148 11,ge 149 (.ext .jC [tq 146,tq 147,tq 148]),mv 140 149,xt 150 140 0,xt 151 140 1,ia 152 1 141 142,so 152 150,mv 11 151]
 (.seq (sr [mv 153 11,ge 154 (.bin .eql (.bX .int) true (tq 153) (.const (.int .u64 0)))]
 (cd 154
 (sr [mv 155 6,mv 4 155]
 (.ret))
 (.skip)))
 (sr [ge 17 (.kh (.const (.int .u64 0)))]
 (.seq (sr [mv 156 5,mc 157 0]
 (.block 4 (.loop A.mY)))
 (sr [mv 177 0,mv 178 5,ia 179 1 177 178,ld 180 179,mv 181 17,bi 182 .add 180 181,ia 183 1 177 178,so 183 182]
 (sr [mv 184 6,ge 185 (.bin .sub (.node []) false (tq 184) (.const (.int .u64 1))),mv 4 185]
 (.ret)))))))))
def A.b247:bU:=sr [ge 4 (.kh (.const (.int .u64 0)))]
 (sr [mv 19 1,ln 20 19,mv 5 20]
 (sr [ge 6 (.kh (.const (.int .u64 0))),ge 7 (.kh (.const (.int .u64 0)))]
 (sr [ge 8 (.kh (.const (.int .u64 0)))]
 (.seq (.seq (.du [mv 21 0,mv 22 5,ia 23 1 21 22,ld 24 23,mv 25 1,mv 26 5,bc 27 .sub 26 1,ia 28 1 25 27,ld 29 28,bi 30 .geq 24 29] [0,0,3,7,0,0,32,112,240,511])
 (cd 30
 (sr [ge 6 (.kh (.const (.int .u64 18446744073709551615)))]
 (.du [mv 32 0,mv 33 5,bc 34 .sub 33 1,ia 35 1 32 34,ld 36 35,mv 37 1,mv 38 5,bc 39 .sub 38 1,ia 40 1 37 39,ld 41 40,ge 42 (.ext .gH [tq 36,tq 41,.const (.int .u64 0)]),mv 31 42,xt 43 31 0,xt 44 31 1,mv 7 43,mv 8 44] [0,0,2,7,15,0,0,64,224,480,1023,2047,4095,4095,8191,32767]))
 (.du [mv 46 0,mv 47 5,ia 48 1 46 47,ld 49 48,mv 50 0,mv 51 5,bc 52 .sub 51 1,ia 53 1 50 52,ld 54 53,mv 55 1,mv 56 5,bc 57 .sub 56 1,ia 58 1 55 57,ld 59 58,ge 60 (.call (fq 244) [tq 49,tq 54,tq 59]),mv 45 60,xt 61 45 0,xt 62 45 1,mv 6 61,mv 7 62] [0,0,3,7,0,0,32,112,240,0,0,1024,3584,7680,16383,32767,65535,65535,131071,524287])))
 A.m8))))
def A.k247:=@A.kk 247 186 [.tmp 4] A.b247 (by kernel_rfl) rfl
def Yeg:uW i l≠[]:=by
 unfold uW
 split
 ·rintro rfl;simp_all
 ·simp
def YC{w:List Nat}(h:ax n (i::w)=[]):¬i<n/\ax n w=[]:=by
 simp only[ax]at h
 split at h
 ·exact absurd h Yeg
 ·rename_i hi;exact⟨hi,h⟩
def MQ{n:Nat}:∀{w u:List Nat},ax n w=[]->ax n (w++u)=ax n u
 |[],u,_=>rfl
 |i::w,u,h=>by
  obtain⟨hi,hw⟩:=YC h
  simp only[Co,ax,hi,if_false]
  exact MQ hw
def JU{n N:Nat}(hn:n<=N):∀{w:List Nat},ax N w=[]->ax n w=[]
 |[],_=>rfl
 |i::w,h=>by
  obtain⟨hi,hw⟩:=YC h
  simp only[ax,show ¬i<n by omega,if_false]
  exact JU hn hw
def Zvy(hi:¬i<n)(h:ax n l=[]):ax n (uW i l)=[]:=by
 unfold uW
 split
 ·exact h
 ·simp only[ax,hi,if_false];exact h
def MR{n N:Nat}:∀{w:List Nat},ax n w=[]->ax n (ax N w)=[]
 |[],_=>rfl
 |i::w,h=>by
  obtain⟨hi,hw⟩:=YC h
  have:=MR (N:=N) hw
  simp only[ax]
  split
  ·exact Zvy hi this
  ·exact this
def Zzq{r v:Nat}(hr:r<B)(hv:v<B):bz (r+v)+B*cg (r+v)=r+v/\bz (r+v)<B/\cg (r+v)<=1:=by
 have:=Yhj (c:=0) hv hr (by omega)
 simpa using this
def YD(h:T O)(N u1 v1 W Z m:Nat)(r:T V)(st:St):Prop:=st=⟨h,N,[]⟩/\∃rr ov:Nat,r.get 6=some (.int .u64 m)/\r.get 7=some (.int .u64 rr)/\r.get 8=some (.int .u64 ov)/\ov<=1/\rr<B/\m<B/\u1=m*v1+(rr+B*ov)/\W<(m+1)*Z
structure Ru (h:T O) (N n2 iu j q:Nat) (U Y:List Nat) (m:Nat) (r:T V) (st:St):Prop where
 n:st.n=N
 w:ax n2 st.w=[]
 old:∀t,t≠iu->st.h.get t=h.get t
 ex:∃(i bw c:Nat) (o:List Nat),i+m=Y.length/\r.get 105=some (.int .i64 i)/\r.get 11=some (.int .u64 bw)/\r.get 12=some (.int .u64 c)/\st.h.get iu=some (.cells (dg o) 195 true)/\o.length=U.length/\Dg o/\(∀t,(t<j\/j+i<=t)->o[t]?=U[t]?)/\bw<=1/\c<B/\val B (o.drop j)+q*val B (Y.take i)=val B (U.drop j)+B^i*(c+bw)
structure Rv (h:T O) (N n2 iu j:Nat) (U Y:List Nat) (m:Nat) (r:T V) (st:St):Prop where
 n:st.n=N
 w:ax n2 st.w=[]
 old:∀t,t≠iu->st.h.get t=h.get t
 ex:∃(i c:Nat) (o:List Nat),i+m=Y.length/\r.get 157=some (.int .i64 i)/\r.get 17=some (.int .u64 c)/\st.h.get iu=some (.cells (dg o) 195 true)/\o.length=U.length/\Dg o/\(∀t,(t<j\/j+i<=t)->o[t]?=U[t]?)/\c<=1/\val B (o.drop j)+B^i*c=val B (U.drop j)+val B (Y.take i)
structure HC (h:T O) (N n2 iu j k:Nat) (U Y:List Nat) (w:List Nat) (x:V) (st:St):Prop where
 n:st.n=N
 w:ax n2 st.w=ax n2 w
 old:∀t,t≠iu->st.h.get t=h.get t
 ex:∃(q:Nat) (o:List Nat),x=.int .u64 q/\q<B/\st.h.get iu=some (.cells (dg o) 195 true)/\o.length=U.length/\Dg o/\(∀t,t<j->o[t]?=U[t]?)/\(∀t,j+k+2<=t->t<o.length->o[t]?=some 0)/\val B (o.drop j)+q*val B Y=val B (U.drop j)/\val B (o.drop j)<val B Y
def Yo8{h:T O}{N n2 iu j q:Nat}{U Y:List Nat}{v:V}{cp:Option Nat}{r0:T V}(hv:Sl h n2 v (dg Y))(dY:Dg Y)(h2:n2<=iu)(hj:j+Y.length<U.length)(hl:U.length<1099511627776)(hq:q<B)
  (a0:r0.get 0=some (.slice iu j (Y.length+1) cp 1)) (a1:r0.get 1=some v) (a6:r0.get 6=some (.int .u64 q)) (MS:r0.get 104=some (.int .i64 Y.length)):
  ∀k r st,(∀t,jP [(11,16),(105,139)] t=false->r.get t=r0.get t)->Fx [(11,16),(105,139)] r0 186 ⟨r,186,[]⟩->Ru h N n2 iu j q U Y k r st->Code A.C none A.mZ ⟨r,186,[]⟩ st (Rd [(11,16),(105,139)] r0 186 (Ru h N n2 iu j q U Y) k (fun e r st=>e=.exit 2/\Ru h N n2 iu j q U Y 0 r st)):=by
 rintro m r ⟨H,n1,W⟩ hr hf ⟨hn,hW,hO,i,bw,c,o,hi,AI,m_,Rw,aq,ho,hd,hs,hb,hc,he⟩
 simp only at hn hW hO aq
 subst hn
 have lv:=hv.len
 rw[bA]at lv
 rw[bl]
 cases m with
 |zero=>
  have:i=Y.length:=by omega
  subst this
  simp[A.mZ,hr,hf,MS,AI]
  exact⟨rfl,hW,hO,Y.length,bw,c,o,by omega,by simp[AI],by simp[m_],by simp[Rw],aq,ho,hd,hs,hb,hc,he⟩
 |succ m=>
  have ay:i<Y.length:=by omega
  have gy:=cy ay
  generalize Y[i]=y at*
  have hy:y<B:=dY.get gy
  obtain⟨i2,o2,c2,e2,w2,p1,p2,p3,p4⟩:=hv.at (fw gy)
  have aW:i2≠iu:=by omega
  have p3:=(hO i2 aW).trans p3
  have go:o[j+i]?=some (o[j+i]'(by omega)):=cy (by omega)
  generalize o[j+i]'(by omega)=u at*
  have hu:u<B:=hd.get go
  obtain⟨s1,s2,s3,s4,s5⟩:=Yo7 hq hy hc hu hb
  have sK:bw=0\/bw=1:=by omega
  have AJ:i<Y.length+1:=by omega
  simp[A.mZ,hr,hf,MS,AI,ay,a6,a1,lv,p1,p3,p4]
  refine aA (MT hq hy) ?_
  rintro _ H n1 BP ⟨rfl,rfl,rfl⟩
  have q1:bz (bz (q*y)+c)=vU q y c:=rfl
  have q2:cL (cg (q*y)) (cg (bz (q*y)+c))=oH q y c:=rfl
  have YE:(bw:Int)=0\/(bw:Int)=1:=by omega
  simp(disch:=first|(simp;done)|omega|(simp only[bA,cA,bo];omega)|rfl) [-getElem?_pos,hr,hf,AI,AJ,a0,m_,Rw,aq,fw go,pE,q1,q2,YE]
  have vQ:¬iu<n2:=by omega
  refine⟨m,by omega,rfl,by simp[ax,hW,vQ],fun t ht=>by rw[T.ag,ak ht];exact hO t ht,i+1,fB u (vU q y c) bw,oH q y c,o.set (j+i) (eD u (vU q y c) bw),by omega,by simp,by simp,by simp,by simp,by simp[ho],hd.tL s2,?_,s4,s3,?_⟩
  ·intro t ht
   rw[d_ (by omega)]
   exact hs t (by omega)
  ·have go2:(o.drop j)[i]?=some u:=by rw[ff];exact go
   have v1:=MU (b:=B) (v:=eD u (vU q y c) bw) go2
   rw[List.drop_set,ak (by omega),show j+i-j=i by omega,ES gy]
   have e1:B^i*(eD u (vU q y c) bw+q*y+c+bw)=B^i*(u+B*(oH q y c+fB u (vU q y c) bw)):=by rw[s1]
   rw[gg]
   generalize val B ((o.drop j).set i (eD u (vU q y c) bw))=z1 at*
   generalize val B (o.drop j)=z2 at*
   generalize val B (U.drop j)=z3 at*
   generalize val B (List.take i Y)=z4 at*
   generalize eD u (vU q y c) bw=z5 at*
   generalize oH q y c=z6 at*
   generalize fB u (vU q y c) bw=z7 at*
   generalize B^i=z8 at*
   clear s1 gy hy go go2 hu hs hd
   grind
def Yri{h:T O}{N n2 iu j:Nat}{U Y:List Nat}{v:V}{cp:Option Nat}{r0:T V}(hv:Sl h n2 v (dg Y))(dY:Dg Y)(h2:n2<=iu)(hN:iu<N)(hj:j+Y.length<U.length)(hl:U.length<1099511627776)
  (a0:r0.get 0=some (.slice iu j (Y.length+1) cp 1)) (a1:r0.get 1=some v) (MV:r0.get 156=some (.int .i64 Y.length)):
  ∀k r st,(∀t,jP [(17,18),(157,176)] t=false->r.get t=r0.get t)->Fx [(17,18),(157,176)] r0 186 ⟨r,186,[]⟩->Rv h N n2 iu j U Y k r st->Code A.C none A.mY ⟨r,186,[]⟩ st (Rd [(17,18),(157,176)] r0 186 (Rv h N n2 iu j U Y) k (fun e r st=>e=.exit 4/\Rv h N n2 iu j U Y 0 r st)):=by
 rintro m r ⟨H,n1,W⟩ hr hf ⟨hn,hW,hO,i,c,o,hi,AK,Rx,aq,ho,hd,hs,hc,he⟩
 simp only at hn hW hO aq
 subst hn
 have lv:=hv.len
 rw[bA]at lv
 rw[bl]
 cases m with
 |zero=>
  have:i=Y.length:=by omega
  subst this
  simp[A.mY,hr,hf,MV,AK]
  exact⟨rfl,hW,hO,Y.length,c,o,by omega,by simp[AK],by simp[Rx],aq,ho,hd,hs,hc,he⟩
 |succ m=>
  have ay:i<Y.length:=by omega
  have gy:=cy ay
  generalize Y[i]=y at*
  have hy:y<B:=dY.get gy
  obtain⟨i2,o2,c2,e2,w2,p1,p2,p3,p4⟩:=hv.at (fw gy)
  have aW:i2≠iu:=by omega
  have p3:=(hO i2 aW).trans p3
  have go:o[j+i]?=some (o[j+i]'(by omega)):=cy (by omega)
  generalize o[j+i]'(by omega)=u at*
  have hu:u<B:=hd.get go
  obtain⟨s1,s2,s3⟩:=Yhj hy hu hc
  have AJ:i<Y.length+1:=by omega
  have GS:(c:Int)=0\/(c:Int)=1:=by omega
  have vQ:¬iu<n2:=by omega
  have hiN:i2<n1:=by omega
  have iA:¬iu=i2:=fun hc=>aW hc.symm
  simp(disch:=first|(simp;done)|omega|(simp only[bA,cA,bo];omega)|rfl) [-getElem?_pos,A.mY,hr,hf,MV,AK,ay,AJ,hN,hiN,aW,iA,ct.cv,a0,a1,lv,p1,p3,p4,aq,fw go,pE,Rx,GS]
  rw[IX (by simp[hN,hiN,aW,iA])]
  simp(disch:=first|(simp;done)|omega|(simp only[bA,cA,bo];omega)|rfl) [hr,hf,AK]
  refine⟨m,by omega,rfl,by simp[ax,hW,vQ],fun t ht=>by rw[T.ag,ak ht];exact hO t ht,i+1,cg (u+y+c),o.set (j+i) (bz (u+y+c)),by omega,by simp,by simp,by simp,by simp[ho],hd.tL s2,?_,s3,?_⟩
  ·intro t ht
   rw[d_ (by omega)]
   exact hs t (by omega)
  ·have go2:(o.drop j)[i]?=some u:=by rw[ff];exact go
   have v1:=MU (b:=B) (v:=bz (u+y+c)) go2
   rw[List.drop_set,ak (by omega),show j+i-j=i by omega,ES gy]
   have e1:B^i*(bz (u+y+c)+B*cg (u+y+c))=B^i*(u+y+c):=by rw[s1]
   rw[gg]
   generalize val B ((o.drop j).set i (bz (u+y+c)))=z1 at*
   generalize val B (o.drop j)=z2 at*
   generalize val B (U.drop j)=z3 at*
   generalize val B (List.take i Y)=z4 at*
   generalize bz (u+y+c)=z5 at*
   generalize cg (u+y+c)=z6 at*
   generalize B^i=z8 at*
   clear s1 gy hy go go2 hu hs hd
   grind
def Yqa{u2 u1 v2 U' V' P:Nat}{e0:TypeId}{DV:Bool}(hv:Sl h n2 v (dg Y))(hY:Y.length=k+2)(dY:Dg Y)(hl:U.length<1099511627776)(pR:j+k+2<U.length)(hU:h.get iu=some (.cells (dg U) e0 DV))(dU:Dg U)
  (f2:Y[k]?=some v2) (f1:Y[k+1]?=some v1) (g2:U[j+k]?=some u2) (me:0<v1) (hP:0<P) (CJ:U'<P) (CK:V'<P)
  (a0:r0.get 0=some (.slice iu j (k+3) cp 1)) (a1:r0.get 1=some v) (a5:r0.get 5=some (.int .i64 ((k:Int)+2))):
  ∀m r st,(∀t,jP [(6,10),(63,103)] t=false->r.get t=r0.get t)->Fx [(6,10),(63,103)] r0 186 ⟨r,186,[]⟩->YD h N u1 v1 (U'+P*(u2+B*u1)) (V'+P*(v2+B*v1)) m r st->Code A.C none A.m7 ⟨r,186,[]⟩ st (Rd [(6,10),(63,103)] r0 186 (YD h N u1 v1 (U'+P*(u2+B*u1)) (V'+P*(v2+B*v1))) m (fun e r st=>e=.exit 0/\st=⟨h,N,[]⟩/\∃q:Nat,r.get 6=some (.int .u64 q)/\q<B/\(q-1)*(V'+P*(v2+B*v1))<=U'+P*(u2+B*u1)/\U'+P*(u2+B*u1)<(q+1)*(V'+P*(v2+B*v1)))):=by
 rintro m r _ hr hf ⟨rfl,rr,ov,h6,h7,h8,hov,Db,hm,hinv,gX⟩
 have lv:=hv.len
 rw[bA]at lv
 rw[bl]
 have iR:v2<B:=dY.get f2
 have De:v1<B:=dY.get f1
 have fG:u2<B:=dU.get g2
 have fin:m*v2<=(rr+B*ov)*B+u2->(m-1)*(V'+P*(v2+B*v1))<=U'+P*(u2+B*u1):=by
  intro hc
  cases m with
  |zero=>simp
  |succ s=>exact Yp2 me CK (by omega) hinv hc
 by_cases h0:ov=0
 ·subst h0
  simp only[Nat.mul_zero,kv]at hinv fin
  obtain⟨i2,o2,c2,e2,w2,p1,p2,p3,p4⟩:=hv.at (fw f2)
  have bM:((k:Int)+2-2)=(k:Int):=by omega
  have wV:(k:Int)<((k+2:Nat):Int):=by omega
  have MW:(k:Int)<((k+3:Nat):Int):=by omega
  rw[hY]at lv
  simp(disch:=first|(simp;done)|omega|(simp only[bA,cA,bo];omega)|rfl) [A.m7,hr,hf,h6,h7,h8,a0,a1,a5,lv,p1,p3,p4,aG,bM,wV]
  refine aA (MT hm iR) ?_
  rintro _ h N BP ⟨rfl,rfl,rfl⟩
  have hp:bz (m*v2)+B*cg (m*v2)=m*v2:=by
   have:=uo (m*v2) B
   unfold bz cg;unfold B at*;omega
  have gw:bz (m*v2)<B:=Yfa
  obtain⟨i1,o1,c1,e1,w1,q1,q2,q3,q4⟩:=hv.at (fw f1)
  obtain⟨hi,AL⟩:∃x,cg (m*v2)=x:=⟨_,rfl⟩
  obtain⟨lo,tM⟩:∃x,bz (m*v2)=x:=⟨_,rfl⟩
  rw[AL,tM]at hp
  rw[tM]at gw
  by_cases c1:hi<rr
  ·have:=fin (by
    have:=jr B c1
    rw[jb rr B];rw[Nat.succ_eq_add_one,tf]at this;omega)
   simp[hr,hf,h6,h7,h8,AL,tM,c1]
   exact⟨hm,this,gX⟩
  ·have dec:rr*B+u2<m*v2->0<m/\u1=(m-1)*v1+(rr+v1)/\U'+P*(u2+B*u1)<(m-1+1)*(V'+P*(v2+B*v1)):=by
    intro hc
    have h3:=Yp1 CJ hinv hc (b:=B) (P:=P) (V':=V')
    cases m with
    |zero=>omega
    |succ s=> 
     refine⟨by omega,?_,by simpa using h3⟩
     rw[hinv,iZ];simp;omega
   obtain⟨s1,s2,s3⟩:=Zzq Db De
   have er:((k:Int)+2-1)=(k:Int)+1:=by omega
   have MY:(k:Int)+1<((k+2:Nat):Int):=by omega
   have zaH:(k:Int)+1=((k+1:Nat):Int):=by omega
   have goA:rr*B+u2<m*v2->∃k',k'<m/\0<m/\k'=m-1:=fun hc=>⟨m-1,by have:=(dec hc).1;omega,(dec hc).1,rfl⟩
   have sbm:0<m->fO m 1=m-1:=fun hc=>EP hc (by unfold B at hm;omega)
   by_cases c2:hi=rr
   ·by_cases c3:lo<=u2
    ·have:=fin (by rw[<-hp,c2,jb rr B];omega)
     simp(disch:=first|(simp;done)|omega|(simp only[bA,cA,bo];omega)|rfl) [-getElem?_pos,hr,hf,h6,h7,h8,AL,tM,c1,c2,c3,aG,a0,a5,bM,MW,hU,fw g2]
     exact⟨hm,this,gX⟩
    ·obtain⟨d1,d2,d3⟩:=dec (by rw[<-hp,c2,jb rr B];omega)
     have sb:=sbm d1
     simp(disch:=first|(simp;done)|omega|(simp only[bA,cA,bo];omega)|rfl) [-getElem?_pos,hr,hf,h6,h7,h8,AL,tM,c1,c2,c3,aG,a0,a1,a5,bM,er,MW,hU,fw g2,lv,q1,q3,q4,MY,sb]
     exact⟨m-1,by omega,rfl,bz (rr+v1),cg (rr+v1),by simp,by simp,by simp,s3,s2,by omega,by rw[s1];exact d2,d3⟩
   ·obtain⟨d1,d2,d3⟩:=dec (by
     have:rr+1<=hi:=by omega
     have:=jr B this
     rw[tf]at this
     rw[<-hp,jb rr B];omega)
    have sb:=sbm d1
    simp(disch:=first|(simp;done)|omega|(simp only[bA,cA,bo];omega)|rfl) [hr,hf,h6,h7,h8,AL,tM,c1,c2,aG,a0,a1,a5,bM,er,lv,q1,q3,q4,MY,sb]
    exact⟨m-1,by omega,rfl,bz (rr+v1),cg (rr+v1),by simp,by simp,by simp,s3,s2,by omega,by rw[s1];exact d2,d3⟩
 ·have:ov=1:=by omega
  subst this
  have:=fin (by
   have h1:m*v2<=B*B:=uf (by omega) (by omega)
   rw[yZ,iZ];omega)
  simp[A.m7,hr,hf,h8,aG]
  exact⟨m,by simp[h6],hm,this,gX⟩
def YF(hl:o.length=U.length)(hj:j+n<=U.length):val B (o.drop j)=val B ((o.drop j).take n)+B^n*val B (o.drop (j+n)):=by
 have:=EV B (o.drop j) n (by rw[uQ];omega)
 rw[List.drop_drop]at this
 exact this
def Zy2{p:Nat}(hl:o.length=U.length)(hs:∀t,p<=t->o[t]?=U[t]?):o.drop p=U.drop p:=by
 apply lA
 intro t
 rw[ff,ff]
 exact hs _ (by omega)
def YG(hd:Dg o)(hl:o.length=U.length)(hj:j+n<=U.length):val B ((o.drop j).take n)<B^n:=by
 apply Zns
 ·intro d h;exact hd d (IQ h)
 ·rw[uQ];omega
def Ycp{p d:Nat}(hd:o[p]?=some d)(hz:∀t,p+1<=t->t<o.length->o[t]?=some 0):val B (o.drop p)=d:=by
 rw[BQ hd,YA hz];omega
def Yqs(h:k<l.length):ad (dg l) k [.int .u64 0]=dg (l.set k 0):=pE (v:=0) h
def Ycw{d u2 u1 v2 U' V' q0 JW Ry:Nat}(hv:Sl h n2 v (dg Y))(hY:Y.length=k+2)(dY:Dg Y)(h2:n2<=iu)(hN:iu<N)(hl:U.length<1099511627776)(pR:j+k+2<U.length)(hU:h.get iu=some (.cells (dg U) 195 true))(dU:Dg U)
  (f2:Y[k]?=some v2) (f1:Y[k+1]?=some v1) (g2:U[j+k]?=some u2) (gd:U[j+k+2]?=some d) (hz:∀t,j+k+3<=t->t<U.length->U[t]?=some 0) (me:0<v1) (CJ:U'<B^k) (CK:V'<B^k) (eU:val B (U.drop j)=U'+B^k*(u2+B*u1)) (eV:val B Y=V'+B^k*(v2+B*v1))
  (a0:r0.get 0=some (.slice iu j (k+3) cp 1)) (a1:r0.get 1=some v) (a5:r0.get 5=some (.int .i64 ((k:Int)+2))) (a6:r0.get 6=some (.int .u64 q0)) (a7:r0.get 7=some (.int .u64 JW)) (a8:r0.get 8=some (.int .u64 Ry))
  (b1:Ry<=1) (b2:JW<B) (b3:q0<B) (b4:u1=q0*v1+(JW+B*Ry)) (b5:U'+B^k*(u2+B*u1)<(q0+1)*(V'+B^k*(v2+B*v1))):
  Code A.C none A.m8 ⟨r0,186,[]⟩ ⟨h,N,[]⟩ (fun e fr st=>e=.ret/\∃r x,fr=⟨r,186,[]⟩/\r.get 4=some x/\HC h N n2 iu j k U Y [] x st):=by
 have hP:0<B^k:=z_ (by decide)
 rw[bl]
 simp[A.m8]
 refine bL [(6,10),(63,103)] _ (YD h N u1 v1 (U'+B^k*(u2+B*u1)) (V'+B^k*(v2+B*v1))) q0 ?_ (Yqa hv hY dY hl pR hU dU f2 f1 g2 me hP CJ CK a0 a1 a5) ?_
 ·exact⟨rfl,JW,Ry,a6,a7,a8,b1,b2,b3,b4,b5⟩
 rintro e r _ hr ⟨rfl,rfl,q,h6,hq,fN,gX⟩
 rw[<-eU,<-eV]at fN gX
 simp[hr,a5]
 refine bL [(11,16),(105,139)] _ (Ru h N n2 iu j q U Y) Y.length ?_ (Yo8 hv dY h2 (by omega) hl hq (cp:=cp) (by simp[hr,a0,hY]) (by simp[hr,a1]) (by simp[h6]) (by simp[hr,a5,hY])) ?_
 ·exact⟨rfl,rfl,fun _ _=>rfl,0,0,0,U,by omega,by simp,by simp,by simp,hU,rfl,dU,fun _ _=>rfl,by omega,by decide,by simp[val]⟩
 rintro e r1 ⟨H,n1,W⟩ mG ⟨rfl,hn,hW,hO,i,bw,cc,o,hi,AI,m_,Rw,aq,ho,hd,hs,hb,hc,he⟩
 simp only at hn hW hO aq
 subst hn
 have:i=k+2:=by omega
 subst this
 have god:o[j+(k+2)]?=some d:=by rw[hs _ (by omega)];exact gd
 have Rz:d<B:=dU.get gd
 obtain⟨s1,s2,s3⟩:=Yn5 hc Rz hb
 have YE:(bw:Int)=0\/(bw:Int)=1:=by omega
 have BP:(k:Int)+2<(k:Int)+3:=by omega
 have vQ:¬iu<n2:=by omega
 obtain⟨t',MZ⟩:∃x,eD d cc bw=x:=⟨_,rfl⟩
 obtain⟨ee,Lq⟩:∃x,fB d cc bw=x:=⟨_,rfl⟩
 rw[MZ,Lq]at s1
 rw[MZ]at s2
 rw[Lq]at s3
 simp(disch:=first|(simp;done)|omega|(simp only[bA,cA,bo];omega)|rfl) [-getElem?_pos,mG,hr,a0,a5,m_,Rw,h6,aq,fw god,pE,YE,MZ,Lq,show ((k:Int)+2).toNat=k+2 by omega]
 have hVP:val B Y<B^(k+2):=by rw[<-hY];exact ET dY
 have hPP:0<B^(k+2):=z_ (by decide)
 have eo:=YF (j:=j) (n:=k+2) ho (by omega)
 have eu:=YF (o:=U) (j:=j) (n:=k+2) rfl (by omega)
 rw[Zy2 ho (p:=j+(k+2)) (fun t ht=>hs t (by omega))]at eo
 have YH:val B (U.drop (j+(k+2)))=d:=Ycp gd (fun t h1 h2=>hz t (by omega) h2)
 rw[YH]at eo eu
 have hSP:=YG (j:=j) (n:=k+2) hd ho (by omega)
 have go2:(o.drop j)[k+2]?=some d:=by rw[ff];exact god
 have vs:=MU (b:=B) (v:=t') go2
 rw[fe (by omega)]at he
 generalize val B ((o.drop j).take (k+2))=S at*
 generalize val B ((U.drop j).take (k+2))=W0 at*
 have h1:S+q*val B Y=W0+B^(k+2)*(cc+bw):=by rw[eo,eu]at he;omega
 have kt:=Yta (by decide) hPP hVP hSP s2 s3 h1 (by omega:t'+(cc+bw)=d+B*ee) (by rw[<-eu];exact fN) (by rw[<-eu];exact gX)
 have M0:(o.set (j+(k+2)) t').drop j=(o.drop j).set (k+2) t':=by rw[List.drop_set,ak (by omega),show j+(k+2)-j=k+2 by omega]
 have YI:val B ((o.set (j+(k+2)) t').drop j)=S+B^(k+2)*t':=by rw[M0];omega
 have dp:=hd.tL (k:=j+(k+2)) s2
 have eH:ax n2 (iu::W)=[]:=by simp[ax,hW,vQ]
 by_cases Ma:ee=0
 ·obtain⟨t1,t2,t3⟩:=kt.1 Ma
  subst t3
  simp(disch:=first|(simp;done)|omega|(simp only[bA,cA,bo];omega)|rfl) [-getElem?_pos,mG,hr,h6,Ma]
  refine HC.mk rfl eH (fun t ht=>by rw[T.ag,ak ht];exact hO t ht) ⟨q,o.set (j+(k+2)) 0,rfl,hq,by simp,by simp[ho],dp,?_,?_,?_,?_⟩
  ·intro t ht
   rw[d_ (by omega)];exact hs t (by omega)
  ·intro t t1 t2
   rw[wM]at t2
   by_cases htt:t=j+(k+2)
   ·subst htt;rw[gG (by omega)]
   ·rw[d_ (by omega),hs t (by omega)];exact hz t (by omega) (by omega)
  ·rw[YI,eu];omega
  ·rw[YI];omega
 ·have M1:ee=1:=by omega
  obtain⟨t1,t2,t3⟩:=kt.2 M1
  have sb:fO q 1=q-1:=EP t1 (by unfold B at hq;omega)
  have iR:Sl (H.set iu (.cells (dg (o.set (j+(k+2)) t')) 195 true)) n2 v (dg Y):=hv.ae ⟨aM _,fun i hi=>by rw[T.ag,ak (by omega)];exact hO i (by omega)⟩
  simp[mG,hr,h6,a5,Ma]
  refine bL [(17,18),(157,176)] _ (Rv _ n1 n2 iu j (o.set (j+(k+2)) t') Y) Y.length ?_ (Yri iR dY h2 hN (by simp;omega) (by simp;omega) (cp:=cp) (by simp[mG,hr,a0,hY]) (by simp[mG,hr,a1]) (by simp[mG,hr,a5,hY])) ?_
  ·exact⟨rfl,eH,fun _ _=>rfl,0,0,o.set (j+(k+2)) t',by omega,by simp,by simp,by simp,rfl,dp,fun _ _=>rfl,by omega,by simp[val]⟩
  rintro e r2 ⟨H3,n3,W3⟩ cZ ⟨rfl,M3,HD,M4,i3,c3,o3,hi3,AK,Rx,EY,uD,YJ,RA,Ky,he3⟩
  simp only at M3 HD M4 EY
  subst M3
  have:i3=k+2:=by omega
  subst this
  have go3:o3[j+(k+2)]?=some t':=by rw[RA _ (by omega),gG (by omega)]
  have YK:=YF (j:=j) (n:=k+2) (uD.trans (wM ..)) (by omega)
  rw[wM]at uD
  rw[Zy2 (uD.trans (wM ..).symm) (p:=j+(k+2)) (fun t ht=>RA t (by omega))]at YK
  have e4:val B ((o.set (j+(k+2)) t').drop (j+(k+2)))=t':=Ycp (gG (by omega)) (fun t h1 h2=>by
   rw[wM]at h2
   rw[d_ (by omega),hs t (by omega)];exact hz t (by omega) (by omega))
  rw[e4]at YK
  have YL:=YG (j:=j) (n:=k+2) YJ uD (by omega)
  have YM:(o3.drop j)[k+2]?=some t':=by rw[ff];exact go3
  have vs3:=MU (b:=B) (v:=0) YM
  rw[fe (by omega),YI,YK]at he3
  generalize val B ((o3.drop j).take (k+2))=A at*
  obtain⟨z1,z2,z3⟩:=Ypv hPP hVP YL Ky s2 t1 t2 t3 (by rw[<-eu];exact fN) (by omega:A+B^(k+2)*c3=S+val B Y)
  have z4:cL t' c3=0:=z3
  simp(disch:=first|(simp;done)|omega|(simp only[bA,cA,bo];omega)|rfl) [-getElem?_pos,cZ,mG,hr,a0,a5,Rx,h6,EY,fw go3,pE,Yqs (l:=o3) (k:=j+(k+2)) (by omega),z4,sb,show ((k:Int)+2).toNat=k+2 by omega]
  have HE:ax n2 (iu::W3)=[]:=by simp[ax,HD,vQ]
  refine HC.mk rfl HE (fun t ht=>by rw[T.ag,ak ht,M4 t ht,T.ag,ak ht];exact hO t ht) ⟨q-1,o3.set (j+(k+2)) 0,rfl,by omega,by simp,by simp[uD,ho],YJ.tL (by decide),?_,?_,?_,?_⟩
  ·intro t ht
   rw[d_ (by omega),RA t (by omega),d_ (by omega)];exact hs t (by omega)
  ·intro t t1 t2
   rw[wM]at t2
   by_cases htt:t=j+(k+2)
   ·subst htt;rw[gG (by omega)]
   ·rw[d_ (by omega),RA t (by omega),d_ (by omega),hs t (by omega)];exact hz t (by omega) (by omega)
  ·rw[List.drop_set,ak (by omega),show j+(k+2)-j=k+2 by omega,eu];omega
  ·rw[List.drop_set,ak (by omega),show j+(k+2)-j=k+2 by omega];omega
def Ycy{w:List Nat}(hv:Sl h n2 v (dg Y))(hY:Y.length=k+2)(dY:Dg Y)(h2:n2<=iu)(hN:iu<N)(hl:U.length<1099511627776)(pR:j+k+2<U.length)(hU:h.get iu=some (.cells (dg U) 195 true))(dU:Dg U)
  (f1:Y[k+1]?=some v1) (me:0<v1) (hz:∀t,j+k+3<=t->t<U.length->U[t]?=some 0) (ay:val B (U.drop j)<B*val B Y):
  Call A.C (.func 247 [] []) [.slice iu j (k+3) cp 1,v] ⟨h,N,w⟩ (HC h N n2 iu j k U Y w):=by
 have lv:=hv.len
 rw[bA,hY]at lv
 have f2:=cy (l:=Y) (i:=k) (by omega)
 have g2:=cy (l:=U) (i:=j+k) (by omega)
 have gc:=cy (l:=U) (i:=j+k+1) (by omega)
 have gd:=cy (l:=U) (i:=j+k+2) (by omega)
 generalize Y[k]'(by omega)=v2 at*
 generalize U[j+k]'(by omega)=u2 at*
 generalize U[j+k+1]'(by omega)=c at*
 generalize U[j+k+2]'(by omega)=d at*
 have gd':U[j+(k+2)]?=some d:=by rw[<-oW];exact gd
 have gc':U[j+(k+1)]?=some c:=by rw[<-oW];exact gc
 have YN:v2<B:=dY.get f2
 have De:v1<B:=dY.get f1
 have YO:u2<B:=dU.get g2
 have YP:c<B:=dU.get gc
 have Rz:d<B:=dU.get gd
 have hP:0<B^k:=z_ (by decide)
 have eU:=Yhv (b:=B) (w:=U.drop j) (k:=k) (a:=u2) (c:=c) (d:=d) (by rw[ff];exact g2) (by rw[ff];exact gc) (by rw[ff];exact gd) (fun t h1 h2=>by rw[ff];rw[uQ]at h2;exact hz _ (by omega) (by omega))
 have eV:=Yhw (b:=B) f2 f1 hY
 have CJ:=YG (j:=j) (n:=k) dU rfl (by omega)
 have CK:=Zns (b:=B) (k:=k) dY (by omega)
 rw[eU,eV]at ay
 generalize val B ((U.drop j).take k)=U' at*
 generalize val B (Y.take k)=V' at*
 obtain⟨i1,o1,c1,e1,w1,q1,q2,q3,q4⟩:=hv.at (fw f1)
 have xF:i1<N:=by omega
 have aW:¬i1=iu:=by omega
 have iA:¬iu=i1:=by omega
 have t1:((k:Int)+2-1)=(k:Int)+1:=by omega
 have t2:((k:Int)+2).toNat=k+2:=by omega
 rw[aR,A.k247 (by simp)]
 have fin:∀(r:T V) (q rr ov:Nat) (K:List Kf) (Q:Rs->Prop),r.get 0=some (.slice iu j (k+3) cp 1)->r.get 1=some v->r.get 5=some (.int .i64 ((k:Int)+2))->r.get 6=some (.int .u64 q)->r.get 7=some (.int .u64 rr)->r.get 8=some (.int .u64 ov)->ov<=1->rr<B->q<B->d*B+c=q*v1+(rr+B*ov)->U'+B^k*(u2+B*(d*B+c))<(q+1)*(V'+B^k*(v2+B*v1))->(∀r x st,r.get 4=some x->HC h N n2 iu j k U Y [] x st->bG A.C K (some (.ex .ret ⟨r,186,[]⟩ st)) Q)->bG A.C K (fj (A.C.code none A.m8 ⟨r,186,[]⟩ ⟨h,N,[]⟩)) Q:=by
  intro r q rr ov K Q a0 a1 a5 a6 a7 a8 b1 b2 b3 b4 b5 hq
  refine jy (Ycw hv hY dY h2 hN hl pR hU dU f2 f1 g2 gd hz me CJ CK eU eV a0 a1 a5 a6 a7 a8 b1 b2 b3 b4 b5) ?_
  rintro e fr st ⟨rfl,r',x,rfl,hx,hs⟩
  exact hq r' x st hx hs
 have out:∀(r:T V) (x:V) (st:St),r.get 4=some x->HC h N n2 iu j k U Y [] x st->bG A.C [.fin [.tmp 4] ⟨h,N,w⟩] (some (.ex .ret ⟨r,186,[]⟩ st)) (CV (HC h N n2 iu j k U Y w)):=by
  rintro r x ⟨H,n1,W⟩ h4 ⟨s1,s2,s3,s4⟩
  simp[h4]
  exact⟨s1,by show ax n2 (ax N W++w)=_;rw[MQ (MR (by simpa[ax]using s2))],s3,s4⟩
 by_cases o8:v1<=d
 ·have tY:=Ytp hP CK YN o8 ay
  subst tY
  obtain⟨s1,s2,s3⟩:=Zzq YP De
  simp(disch:=first|(simp;done)|omega|(simp only[bA,cA,bo];omega)|rfl) [-getElem?_pos,A.b247,lv,hN,xF,aW,iA,hU,fw gd',fw gc',q1,q3,q4,t1,t2,ct.cv]
  refine fin _ 18446744073709551615 (bz (c+d)) (cg (c+d)) _ _ (by simp) (by simp) (by simp) (by simp) (by simp) (by simp) s3 s2 (by decide) ?_ ?_ (fun r x st h4 hs=>out r x st h4 hs)
  ·rw[s1];unfold B;omega
  ·unfold B at ay ⊢;exact ay
 ·have AG:¬(v1:Int)<=(d:Int):=by omega
  simp(disch:=first|(simp;done)|omega|(simp only[bA,cA,bo];omega)|rfl) [-getElem?_pos,A.b247,lv,hN,xF,aW,iA,hU,fw gd',fw gc',q1,q3,q4,t1,t2,AG,ct.cv]
  refine aA (Zy3 (show d<v1 by omega) De YP) ?_
  rintro _ h' N' hk ⟨rfl,rfl,rfl⟩
  obtain⟨q,hq⟩:∃q,(d*18446744073709551616+c)/v1=q:=⟨_,rfl⟩
  obtain⟨rr,Db⟩:∃q,(d*18446744073709551616+c)%v1=q:=⟨_,rfl⟩
  have hinv:d*B+c=q*v1+rr:=by
   have:=uo (d*18446744073709551616+c) v1
   rw[hq,Db,jb]at this
   exact this.symm
  have qp:rr<v1:=by rw[<-Db];exact kO _ me
  have zB:q<B:=by
   rw[<-hq];apply (pU me).2
   have:=jB B (show d+1<=v1 by omega)
   rw[jb B v1]
   rw[iZ]at this
   unfold B at*;omega
  rw[hq,Db]
  simp[lv,hN,xF,aW,iA,ct.cv]
  refine fin _ q rr 0 _ _ (by simp) (by simp) (by simp) (by simp) (by simp) (by simp) (by omega) (by omega) zB (by rw[hinv];omega) (Ytq CJ YO hinv qp) (fun r x st h4 hs=>out r x st h4 hs)
end Go.Mx
