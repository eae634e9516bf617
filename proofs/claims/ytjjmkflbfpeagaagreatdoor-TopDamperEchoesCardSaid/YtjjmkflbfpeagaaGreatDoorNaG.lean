/-num-/
import Derived.Test.YtjjmkflbfpeagaaGreatDoorNaV
set_option linter.all false
namespace Go.Mx
noncomputable section
open Go Go.Proofs
variable {N i iu j k n n2 v1:Nat} {U Y l o:List Nat} {cp:Option Nat} {h:T O} {r0:T V} {v:V}
set_option maxHeartbeats 4000000
set_option maxRecDepth 1000000
def A.yl:=A.q Tryz.f261
def A.jm:=A.ql A.yl 2 []
def A.jn:=A.ql A.yl 1 []
def A.jo:=A.ql A.yl 0 []
def A.lH:=(fun x0 x1 x2=>A.qt A.yl [x0,x1,x2] [] [1,1,1,1,1]) A.jo A.jn A.jm
def A.b261:=(fun x0 x1 x2 y0=>A.qt A.yl [x0,x1,x2] [([1,1,1,1,1],y0)] []) A.jo A.jn A.jm A.lH
def A.k261:=@A.kk 261 186 [.tmp 4] A.b261 (by kernel_rfl) rfl
def Ybc:vD i l≠[]:=by
 unfold vD
 split
 ·rintro rfl;simp_all
 ·simp
def Uo{w:List Nat}(h:aB n (i::w)=[]):¬i<n/\aB n w=[]:=by
 simp only[aB]at h
 split at h
 ·exact absurd h Ybc
 ·rename_i hi;exact⟨hi,h⟩
def Kd{n:Nat}:∀{w u:List Nat},aB n w=[]->aB n (w++u)=aB n u
 |[],u,_=>rfl
 |i::w,u,h=>by
  obtain⟨hi,hw⟩:=Uo h
  simp only[Ao,aB,hi,if_false]
  exact Kd hw
def Hi{n N:Nat}(hn:n<=N):∀{w:List Nat},aB N w=[]->aB n w=[]
 |[],_=>rfl
 |i::w,h=>by
  obtain⟨hi,hw⟩:=Uo h
  simp only[aB,show ¬i<n by omega,if_false]
  exact Hi hn hw
def Zto(hi:¬i<n)(h:aB n l=[]):aB n (vD i l)=[]:=by
 unfold vD
 split
 ·exact h
 ·simp only[aB,hi,if_false];exact h
def Ke{n N:Nat}:∀{w:List Nat},aB n w=[]->aB n (aB N w)=[]
 |[],_=>rfl
 |i::w,h=>by
  obtain⟨hi,hw⟩:=Uo h
  have:=Ke (N:=N) hw
  simp only[aB]
  split
  ·exact Zto hi this
  ·exact this
def Zwx{r v:Nat}(hr:r<B)(hv:v<B):bs (r+v)+B*bZ (r+v)=r+v/\bs (r+v)<B/\bZ (r+v)<=1:=by
 have:=Yd6 (c:=0) hv hr (by omega)
 simpa using this
def Up(h:T O)(N u1 v1 W Z m:Nat)(r:T V)(st:St):Prop:=st=⟨h,N,[]⟩/\∃rr ov:Nat,r.get 6=some (.int .u64 m)/\r.get 7=some (.int .u64 rr)/\r.get 8=some (.int .u64 ov)/\ov<=1/\rr<B/\m<B/\u1=m*v1+(rr+B*ov)/\W<(m+1)*Z
structure Ow (h:T O) (N n2 iu j q:Nat) (U Y:List Nat) (m:Nat) (r:T V) (st:St):Prop where
 n:st.n=N
 w:aB n2 st.w=[]
 old:∀t,t≠iu->st.h.get t=h.get t
 ex:∃(i bw c:Nat) (o:List Nat),i+m=Y.length/\r.get 105=some (.int .i64 i)/\r.get 11=some (.int .u64 bw)/\r.get 12=some (.int .u64 c)/\st.h.get iu=some (.cells (dg o) 212 true)/\o.length=U.length/\Dg o/\(∀t,(t<j\/j+i<=t)->o[t]?=U[t]?)/\bw<=1/\c<B/\val B (o.drop j)+q*val B (Y.take i)=val B (U.drop j)+B^i*(c+bw)
structure Ox (h:T O) (N n2 iu j:Nat) (U Y:List Nat) (m:Nat) (r:T V) (st:St):Prop where
 n:st.n=N
 w:aB n2 st.w=[]
 old:∀t,t≠iu->st.h.get t=h.get t
 ex:∃(i c:Nat) (o:List Nat),i+m=Y.length/\r.get 157=some (.int .i64 i)/\r.get 17=some (.int .u64 c)/\st.h.get iu=some (.cells (dg o) 212 true)/\o.length=U.length/\Dg o/\(∀t,(t<j\/j+i<=t)->o[t]?=U[t]?)/\c<=1/\val B (o.drop j)+B^i*c=val B (U.drop j)+val B (Y.take i)
structure ES (h:T O) (N n2 iu j k:Nat) (U Y:List Nat) (w:List Nat) (x:V) (st:St):Prop where
 n:st.n=N
 w:aB n2 st.w=aB n2 w
 old:∀t,t≠iu->st.h.get t=h.get t
 ex:∃(q:Nat) (o:List Nat),x=.int .u64 q/\q<B/\st.h.get iu=some (.cells (dg o) 212 true)/\o.length=U.length/\Dg o/\(∀t,t<j->o[t]?=U[t]?)/\(∀t,j+k+2<=t->t<o.length->o[t]?=some 0)/\val B (o.drop j)+q*val B Y=val B (U.drop j)/\val B (o.drop j)<val B Y
def Ykh{h:T O}{N n2 iu j q:Nat}{U Y:List Nat}{v:V}{cp:Option Nat}{r0:T V}(hv:Sl h n2 v (dg Y))(dY:Dg Y)(h2:n2<=iu)(hj:j+Y.length<U.length)(hl:U.length<1099511627776)(hq:q<B)
  (a0:r0.get 0=some (.slice iu j (Y.length+1) cp 1)) (a1:r0.get 1=some v) (a6:r0.get 6=some (.int .u64 q)) (Kg:r0.get 104=some (.int .i64 Y.length)):
  ∀k r st,(∀t,jk [(11,16),(105,139)] t=false->r.get t=r0.get t)->Fx [(11,16),(105,139)] r0 186 ⟨r,186,[]⟩->Ow h N n2 iu j q U Y k r st->Code A.C none A.jn ⟨r,186,[]⟩ st (Rd [(11,16),(105,139)] r0 186 (Ow h N n2 iu j q U Y) k (fun e r st=>e=.exit 2/\Ow h N n2 iu j q U Y 0 r st)):=by
 rintro m r ⟨H,n1,W⟩ hr hf ⟨hn,hW,hO,i,bw,c,o,hi,ym,jW,rX,aE,ho,hd,hs,hb,hc,he⟩
 simp only at hn hW hO aE
 subst hn
 have lv:=hv.len
 rw[bn]at lv
 rw[cm]
 cases m with
 |zero=>
  have:i=Y.length:=by omega
  subst this
  simp[A.jn,hr,hf,Kg,ym]
  exact⟨rfl,hW,hO,Y.length,bw,c,o,by omega,by simp[ym],by simp[jW],by simp[rX],aE,ho,hd,hs,hb,hc,he⟩
 |succ m=>
  have aO:i<Y.length:=by omega
  have gy:=dT aO
  generalize Y[i]=y at*
  have hy:y<B:=dY.get gy
  obtain⟨i2,o2,c2,e2,w2,p1,p2,p3,p4⟩:=hv.at (eY gy)
  have bK:i2≠iu:=by omega
  have p3:=(hO i2 bK).trans p3
  have go:o[j+i]?=some (o[j+i]'(by omega)):=dT (by omega)
  generalize o[j+i]'(by omega)=u at*
  have hu:u<B:=hd.get go
  obtain⟨s1,s2,s3,s4,s5⟩:=Ykg hq hy hc hu hb
  have yn:i<Y.length+1:=by omega
  simp[A.jn,hr,Kg,ym,aO,a6,a1,lv,p1,p3,p4]
  refine au (Kh hq hy) ?_
  rintro _ H n1 zZ ⟨rfl,rfl,rfl⟩
  have q1:bs (bs (q*y)+c)=tk q y c:=rfl
  have q2:cI (bZ (q*y)) (bZ (bs (q*y)+c))=m8 q y c:=rfl
  have Uq:(bw:Int)=0\/(bw:Int)=1:=by omega
  simp(disch:=first|(simp;done)|omega|(simp only[bn,bW,bf];omega)|rfl) [-getElem?_pos,hr,hf,ym,yn,a0,jW,rX,aE,eY go,nR,q1,q2,Uq]
  have s_:¬iu<n2:=by omega
  refine⟨m,by omega,rfl,by simp[aB,hW,s_],fun t ht=>by rw[T.ai,aq ht];exact hO t ht,i+1,fj u (tk q y c) bw,m8 q y c,o.set (j+i) (d_ u (tk q y c) bw),by omega,by simp,by simp,by simp,by simp,by simp[ho],hd.qT s2,?_,s4,s3,?_⟩
  ·intro t ht
   rw[eB (by omega)]
   exact hs t (by omega)
  ·have go2:(o.drop j)[i]?=some u:=by rw[gk];exact go
   have v1:=Ki (b:=B) (v:=d_ u (tk q y c) bw) go2
   rw[List.drop_set,aq (by omega),show j+i-j=i by omega,Cq gy]
   have e1:B^i*(d_ u (tk q y c) bw+q*y+c+bw)=B^i*(u+B*(m8 q y c+fj u (tk q y c) bw)):=by rw[s1]
   rw[fv]
   generalize val B ((o.drop j).set i (d_ u (tk q y c) bw))=z1 at*
   generalize val B (o.drop j)=z2 at*
   generalize val B (U.drop j)=z3 at*
   generalize val B (List.take i Y)=z4 at*
   generalize d_ u (tk q y c) bw=z5 at*
   generalize m8 q y c=z6 at*
   generalize fj u (tk q y c) bw=z7 at*
   generalize B^i=z8 at*
   clear s1 gy hy go go2 hu hs hd
   grind
def Yl8{h:T O}{N n2 iu j:Nat}{U Y:List Nat}{v:V}{cp:Option Nat}{r0:T V}(hv:Sl h n2 v (dg Y))(dY:Dg Y)(h2:n2<=iu)(hN:iu<N)(hj:j+Y.length<U.length)(hl:U.length<1099511627776)
  (a0:r0.get 0=some (.slice iu j (Y.length+1) cp 1)) (a1:r0.get 1=some v) (Kj:r0.get 156=some (.int .i64 Y.length)):
  ∀k r st,(∀t,jk [(17,18),(157,176)] t=false->r.get t=r0.get t)->Fx [(17,18),(157,176)] r0 186 ⟨r,186,[]⟩->Ox h N n2 iu j U Y k r st->Code A.C none A.jm ⟨r,186,[]⟩ st (Rd [(17,18),(157,176)] r0 186 (Ox h N n2 iu j U Y) k (fun e r st=>e=.exit 4/\Ox h N n2 iu j U Y 0 r st)):=by
 rintro m r ⟨H,n1,W⟩ hr hf ⟨hn,hW,hO,i,c,o,hi,yo,Iw,aE,ho,hd,hs,hc,he⟩
 simp only at hn hW hO aE
 subst hn
 have lv:=hv.len
 rw[bn]at lv
 rw[cm]
 cases m with
 |zero=>
  have:i=Y.length:=by omega
  subst this
  simp[A.jm,hr,hf,Kj,yo]
  exact⟨rfl,hW,hO,Y.length,c,o,by omega,by simp[yo],by simp[Iw],aE,ho,hd,hs,hc,he⟩
 |succ m=>
  have aO:i<Y.length:=by omega
  have gy:=dT aO
  generalize Y[i]=y at*
  have hy:y<B:=dY.get gy
  obtain⟨i2,o2,c2,e2,w2,p1,p2,p3,p4⟩:=hv.at (eY gy)
  have bK:i2≠iu:=by omega
  have p3:=(hO i2 bK).trans p3
  have go:o[j+i]?=some (o[j+i]'(by omega)):=dT (by omega)
  generalize o[j+i]'(by omega)=u at*
  have hu:u<B:=hd.get go
  obtain⟨s1,s2,s3⟩:=Yd6 hy hu hc
  have yn:i<Y.length+1:=by omega
  have D5:(c:Int)=0\/(c:Int)=1:=by omega
  have s_:¬iu<n2:=by omega
  have hiN:i2<n1:=by omega
  have jR:¬iu=i2:=fun hc=>bK hc.symm
  simp(disch:=first|(simp;done)|omega|(simp only[bn,bW,bf];omega)|rfl) [-getElem?_pos,A.jm,hr,hf,Kj,yo,aO,yn,hN,hiN,bK,jR,cD.cG,a0,a1,lv,p1,p3,p4,aE,eY go,nR,Iw,D5]
  rw[Ir (by simp[hN,jR])]
  simp(disch:=first|(simp;done)|omega|(simp only[bn,bW,bf];omega)|rfl) [hr,hf,yo]
  refine⟨m,by omega,rfl,by simp[aB,hW,s_],fun t ht=>by rw[T.ai,aq ht];exact hO t ht,i+1,bZ (u+y+c),o.set (j+i) (bs (u+y+c)),by omega,by simp,by simp,by simp,by simp[ho],hd.qT s2,?_,s3,?_⟩
  ·intro t ht
   rw[eB (by omega)]
   exact hs t (by omega)
  ·have go2:(o.drop j)[i]?=some u:=by rw[gk];exact go
   have v1:=Ki (b:=B) (v:=bs (u+y+c)) go2
   rw[List.drop_set,aq (by omega),show j+i-j=i by omega,Cq gy]
   have e1:B^i*(bs (u+y+c)+B*bZ (u+y+c))=B^i*(u+y+c):=by rw[s1]
   rw[fv]
   generalize val B ((o.drop j).set i (bs (u+y+c)))=z1 at*
   generalize val B (o.drop j)=z2 at*
   generalize val B (U.drop j)=z3 at*
   generalize val B (List.take i Y)=z4 at*
   generalize bs (u+y+c)=z5 at*
   generalize bZ (u+y+c)=z6 at*
   generalize B^i=z8 at*
   clear s1 gy hy go go2 hu hs hd
   grind
def Yk7{u2 u1 v2 U' V' P:Nat}{e0:TypeId}{Ur:Bool}(hv:Sl h n2 v (dg Y))(hY:Y.length=k+2)(dY:Dg Y)(hl:U.length<1099511627776)(zc:j+k+2<U.length)(hU:h.get iu=some (.cells (dg U) e0 Ur))(dU:Dg U)
  (f2:Y[k]?=some v2) (f1:Y[k+1]?=some v1) (g2:U[j+k]?=some u2) (mY:0<v1) (hP:0<P) (A1:U'<P) (A2:V'<P)
  (a0:r0.get 0=some (.slice iu j (k+3) cp 1)) (a1:r0.get 1=some v) (a5:r0.get 5=some (.int .i64 ((k:Int)+2))):
  ∀m r st,(∀t,jk [(6,10),(63,103)] t=false->r.get t=r0.get t)->Fx [(6,10),(63,103)] r0 186 ⟨r,186,[]⟩->Up h N u1 v1 (U'+P*(u2+B*u1)) (V'+P*(v2+B*v1)) m r st->Code A.C none A.jo ⟨r,186,[]⟩ st (Rd [(6,10),(63,103)] r0 186 (Up h N u1 v1 (U'+P*(u2+B*u1)) (V'+P*(v2+B*v1))) m (fun e r st=>e=.exit 0/\st=⟨h,N,[]⟩/\∃q:Nat,r.get 6=some (.int .u64 q)/\q<B/\(q-1)*(V'+P*(v2+B*v1))<=U'+P*(u2+B*u1)/\U'+P*(u2+B*u1)<(q+1)*(V'+P*(v2+B*v1)))):=by
 rintro m r _ hr hf ⟨rfl,rr,ov,h6,h7,h8,hov,A9,hm,hinv,il⟩
 have lv:=hv.len
 rw[bn]at lv
 rw[cm]
 have iY:v2<B:=dY.get f2
 have Bc:v1<B:=dY.get f1
 have eX:u2<B:=dU.get g2
 have fin:m*v2<=(rr+B*ov)*B+u2->(m-1)*(V'+P*(v2+B*v1))<=U'+P*(u2+B*u1):=by
  intro hc
  cases m with
  |zero=>simp
  |succ s=>exact Yk0 mY A2 (by omega) hinv hc
 by_cases h0:ov=0
 ·subst h0
  simp only[Nat.mul_zero,ri]at hinv fin
  obtain⟨i2,o2,c2,e2,w2,p1,p2,p3,p4⟩:=hv.at (eY f2)
  have ew:((k:Int)+2-2)=(k:Int):=by omega
  have vM:(k:Int)<((k+2:Nat):Int):=by omega
  have Kk:(k:Int)<((k+3:Nat):Int):=by omega
  rw[hY]at lv
  simp(disch:=first|(simp;done)|omega|(simp only[bn,bW,bf];omega)|rfl) [A.jo,hr,hf,h6,h7,h8,a0,a1,a5,lv,p1,p3,p4,aW,ew,vM]
  refine au (Kh hm iY) ?_
  rintro _ h N zZ ⟨rfl,rfl,rfl⟩
  have hp:bs (m*v2)+B*bZ (m*v2)=m*v2:=by
   have:=rz (m*v2) B
   unfold bs bZ;unfold B at*;omega
  have AQ:bs (m*v2)<B:=Yb9
  obtain⟨i1,o1,c1,e1,w1,q1,q2,q3,q4⟩:=hv.at (eY f1)
  obtain⟨hi,yp⟩:∃x,bZ (m*v2)=x:=⟨_,rfl⟩
  obtain⟨lo,qU⟩:∃x,bs (m*v2)=x:=⟨_,rfl⟩
  rw[yp,qU]at hp
  rw[qU]at AQ
  by_cases c1:hi<rr
  ·have:=fin (by
    have:=iT B c1
    rw[fR rr B];rw[Nat.succ_eq_add_one,my]at this;omega)
   simp[hf,h6,h7,yp,qU,c1]
   exact⟨hm,this,il⟩
  ·have dec:rr*B+u2<m*v2->0<m/\u1=(m-1)*v1+(rr+v1)/\U'+P*(u2+B*u1)<(m-1+1)*(V'+P*(v2+B*v1)):=by
    intro hc
    have h3:=Ykz A1 hinv hc (b:=B) (P:=P) (V':=V')
    cases m with
    |zero=>omega
    |succ s=> 
     refine⟨by omega,?_,by simpa using h3⟩
     rw[hinv,jF];simp;omega
   obtain⟨s1,s2,s3⟩:=Zwx A9 Bc
   have kf:((k:Int)+2-1)=(k:Int)+1:=by omega
   have Kl:(k:Int)+1<((k+2:Nat):Int):=by omega
   have sbm:0<m->fE m 1=m-1:=fun hc=>Cp hc (by unfold B at hm;omega)
   by_cases c2:hi=rr
   ·by_cases c3:lo<=u2
    ·have:=fin (by rw[<-hp,c2,fR rr B];omega)
     simp(disch:=first|(simp;done)|omega|(simp only[bn,bW,bf];omega)|rfl) [-getElem?_pos,hr,hf,h6,h7,h8,yp,qU,c1,c2,c3,aW,a0,a5,ew,Kk,hU,eY g2]
     exact⟨hm,this,il⟩
    ·obtain⟨d1,d2,d3⟩:=dec (by rw[<-hp,c2,fR rr B];omega)
     have sb:=sbm d1
     simp(disch:=first|(simp;done)|omega|(simp only[bn,bW,bf];omega)|rfl) [-getElem?_pos,hr,hf,h6,h7,h8,yp,qU,c1,c2,c3,aW,a0,a1,a5,ew,kf,Kk,hU,eY g2,lv,q1,q3,q4,Kl,sb]
     exact⟨m-1,by omega,rfl,bs (rr+v1),bZ (rr+v1),by simp,by simp,by simp,s3,s2,by omega,by rw[s1];exact d2,d3⟩
   ·obtain⟨d1,d2,d3⟩:=dec (by
     have:rr+1<=hi:=by omega
     have:=iT B this
     rw[my]at this
     rw[<-hp,fR rr B];omega)
    have sb:=sbm d1
    simp(disch:=first|(simp;done)|omega|(simp only[bn,bW,bf];omega)|rfl) [hr,hf,h6,h7,h8,yp,qU,c1,c2,aW,a0,a1,a5,ew,kf,lv,q1,q3,q4,Kl,sb]
    exact⟨m-1,by omega,rfl,bs (rr+v1),bZ (rr+v1),by simp,by simp,by simp,s3,s2,by omega,by rw[s1];exact d2,d3⟩
 ·have:ov=1:=by omega
  subst this
  have:=fin (by
   have h1:m*v2<=B*B:=jL (by omega) (by omega)
   rw[se,jF];omega)
  simp[A.jo,hf,h8]
  exact⟨m,by simp[h6],hm,this,il⟩
def Us(hl:o.length=U.length)(hj:j+n<=U.length):val B (o.drop j)=val B ((o.drop j).take n)+B^n*val B (o.drop (j+n)):=by
 have:=Cu B (o.drop j) n (by rw[zp];omega)
 rw[List.drop_drop]at this
 exact this
def Zwh{p:Nat}(hl:o.length=U.length)(hs:∀t,p<=t->o[t]?=U[t]?):o.drop p=U.drop p:=by
 apply nX
 intro t
 rw[gk,gk]
 exact hs _ (by omega)
def Ut(hd:Dg o)(hl:o.length=U.length)(hj:j+n<=U.length):val B ((o.drop j).take n)<B^n:=by
 apply Zmh
 ·intro d h;exact hd d (List.mem_of_mem_drop h)
 ·rw[zp];omega
def Zz2{p d:Nat}(hd:o[p]?=some d)(hz:∀t,p+1<=t->t<o.length->o[t]?=some 0):val B (o.drop p)=d:=by
 rw[zQ hd,Um hz];omega
def Yln(h:k<l.length):ag (dg l) k [.int .u64 0]=dg (l.set k 0):=nR (v:=0) h
def Zz7{d u2 u1 v2 U' V' q0 Oy Oz:Nat}(hv:Sl h n2 v (dg Y))(hY:Y.length=k+2)(dY:Dg Y)(h2:n2<=iu)(hN:iu<N)(hl:U.length<1099511627776)(zc:j+k+2<U.length)(hU:h.get iu=some (.cells (dg U) 212 true))(dU:Dg U)
  (f2:Y[k]?=some v2) (f1:Y[k+1]?=some v1) (g2:U[j+k]?=some u2) (gd:U[j+k+2]?=some d) (hz:∀t,j+k+3<=t->t<U.length->U[t]?=some 0) (mY:0<v1) (A1:U'<B^k) (A2:V'<B^k) (eU:val B (U.drop j)=U'+B^k*(u2+B*u1)) (eV:val B Y=V'+B^k*(v2+B*v1))
  (a0:r0.get 0=some (.slice iu j (k+3) cp 1)) (a1:r0.get 1=some v) (a5:r0.get 5=some (.int .i64 ((k:Int)+2))) (a6:r0.get 6=some (.int .u64 q0)) (a7:r0.get 7=some (.int .u64 Oy)) (a8:r0.get 8=some (.int .u64 Oz))
  (b1:Oz<=1) (b2:Oy<B) (b3:q0<B) (b4:u1=q0*v1+(Oy+B*Oz)) (b5:U'+B^k*(u2+B*u1)<(q0+1)*(V'+B^k*(v2+B*v1))):
  Code A.C none A.lH ⟨r0,186,[]⟩ ⟨h,N,[]⟩ (fun e fr st=>e=.ret/\∃r x,fr=⟨r,186,[]⟩/\r.get 4=some x/\ES h N n2 iu j k U Y [] x st):=by
 have hP:0<B^k:=vf (by decide)
 rw[cm]
 simp[A.lH]
 refine cX [(6,10),(63,103)] _ (Up h N u1 v1 (U'+B^k*(u2+B*u1)) (V'+B^k*(v2+B*v1))) q0 ?_ (Yk7 hv hY dY hl zc hU dU f2 f1 g2 mY hP A1 A2 a0 a1 a5) ?_
 ·exact⟨rfl,Oy,Oz,a6,a7,a8,b1,b2,b3,b4,b5⟩
 rintro e r _ hr ⟨rfl,rfl,q,h6,hq,fA,il⟩
 rw[<-eU,<-eV]at fA il
 simp[hr,a5]
 refine cX [(11,16),(105,139)] _ (Ow h N n2 iu j q U Y) Y.length ?_ (Ykh hv dY h2 (by omega) hl hq (cp:=cp) (by simp[hr,a0,hY]) (by simp[hr,a1]) (by simp[h6]) (by simp[hY])) ?_
 ·exact⟨rfl,rfl,fun _ _=>rfl,0,0,0,U,by omega,by simp,by simp,by simp,hU,rfl,dU,fun _ _=>rfl,by omega,by decide,by simp[val]⟩
 rintro e r1 ⟨H,n1,W⟩ Cy ⟨rfl,hn,hW,hO,i,bw,cc,o,hi,ym,jW,rX,aE,ho,hd,hs,hb,hc,he⟩
 simp only at hn hW hO aE
 subst hn
 have:i=k+2:=by omega
 subst this
 have god:o[j+(k+2)]?=some d:=by rw[hs _ (by omega)];exact gd
 have Uu:d<B:=dU.get gd
 obtain⟨s1,s2,s3⟩:=Yjf hc Uu hb
 have Uq:(bw:Int)=0\/(bw:Int)=1:=by omega
 have s_:¬iu<n2:=by omega
 obtain⟨t',Km⟩:∃x,d_ d cc bw=x:=⟨_,rfl⟩
 obtain⟨ee,IX⟩:∃x,fj d cc bw=x:=⟨_,rfl⟩
 rw[Km,IX]at s1
 rw[Km]at s2
 rw[IX]at s3
 simp(disch:=first|(simp;done)|omega|(simp only[bn,bW,bf];omega)|rfl) [-getElem?_pos,Cy,hr,a0,a5,jW,rX,h6,aE,eY god,nR,Uq,Km,IX,show ((k:Int)+2).toNat=k+2 by omega]
 have hVP:val B Y<B^(k+2):=by rw[<-hY];exact Cr dY
 have hPP:0<B^(k+2):=vf (by decide)
 have eo:=Us (j:=j) (n:=k+2) ho (by omega)
 have eu:=Us (o:=U) (j:=j) (n:=k+2) rfl (by omega)
 rw[Zwh ho (p:=j+(k+2)) (fun t ht=>hs t (by omega))]at eo
 have Uv:val B (U.drop (j+(k+2)))=d:=Zz2 gd (fun t h1 h2=>hz t (by omega) h2)
 rw[Uv]at eo eu
 have hSP:=Ut (j:=j) (n:=k+2) hd ho (by omega)
 have go2:(o.drop j)[k+2]?=some d:=by rw[gk];exact god
 have vs:=Ki (b:=B) (v:=t') go2
 rw[gI (by omega)]at he
 generalize val B ((o.drop j).take (k+2))=S at*
 generalize val B ((U.drop j).take (k+2))=W0 at*
 have h1:S+q*val B Y=W0+B^(k+2)*(cc+bw):=by rw[eo,eu]at he;omega
 have kt:=Ynn (by decide) hPP hVP hSP s2 s3 h1 (by omega:t'+(cc+bw)=d+B*ee) (by rw[<-eu];exact fA) (by rw[<-eu];exact il)
 have Kn:(o.set (j+(k+2)) t').drop j=(o.drop j).set (k+2) t':=by rw[List.drop_set,aq (by omega),show j+(k+2)-j=k+2 by omega]
 have Uw:val B ((o.set (j+(k+2)) t').drop j)=S+B^(k+2)*t':=by rw[Kn];omega
 have wN:=hd.qT (k:=j+(k+2)) s2
 have ft:aB n2 (iu::W)=[]:=by simp[aB,hW,s_]
 by_cases JA:ee=0
 ·obtain⟨t1,t2,t3⟩:=kt.1 JA
  subst t3
  simp(disch:=first|(simp;done)|omega|(simp only[bn,bW,bf];omega)|rfl) [-getElem?_pos,Cy,hr,h6,JA]
  refine ES.mk rfl ft (fun t ht=>by rw[T.ai,aq ht];exact hO t ht) ⟨q,o.set (j+(k+2)) 0,rfl,hq,by simp,by simp[ho],wN,?_,?_,?_,?_⟩
  ·intro t ht
   rw[eB (by omega)];exact hs t (by omega)
  ·intro t t1 t2
   rw[CV]at t2
   by_cases htt:t=j+(k+2)
   ·subst htt;rw[nF (by omega)]
   ·rw[eB (by omega),hs t (by omega)];exact hz t (by omega) (by omega)
  ·rw[Uw,eu];omega
  ·rw[Uw];omega
 ·have Ux:ee=1:=by omega
  obtain⟨t1,t2,t3⟩:=kt.2 Ux
  have sb:fE q 1=q-1:=Cp t1 (by unfold B at hq;omega)
  have iY:Sl (H.set iu (.cells (dg (o.set (j+(k+2)) t')) 212 true)) n2 v (dg Y):=hv.ae ⟨aR _,fun i hi=>by rw[T.ai,aq (by omega)];exact hO i (by omega)⟩
  simp[Cy,hr,a5,JA]
  refine cX [(17,18),(157,176)] _ (Ox _ n1 n2 iu j (o.set (j+(k+2)) t') Y) Y.length ?_ (Yl8 iY dY h2 hN (by simp;omega) (by simp;omega) (cp:=cp) (by simp[Cy,hr,a0,hY]) (by simp[Cy,hr,a1]) (by simp[hY])) ?_
  ·exact⟨rfl,ft,fun _ _=>rfl,0,0,o.set (j+(k+2)) t',by omega,by simp,by simp,by simp,rfl,wN,fun _ _=>rfl,by omega,by simp[val]⟩
  rintro e r2 ⟨H3,n3,W3⟩ dW ⟨rfl,hn3,ET,Ko,i3,c3,o3,hi3,yo,Iw,Cz,CA,Uy,OA,hc3,he3⟩
  simp only at hn3 ET Ko Cz
  subst hn3
  have:i3=k+2:=by omega
  subst this
  have go3:o3[j+(k+2)]?=some t':=by rw[OA _ (by omega),nF (by omega)]
  have Uz:=Us (j:=j) (n:=k+2) (CA.trans (CV ..)) (by omega)
  rw[CV]at CA
  rw[Zwh (CA.trans (CV ..).symm) (p:=j+(k+2)) (fun t ht=>OA t (by omega))]at Uz
  have e4:val B ((o.set (j+(k+2)) t').drop (j+(k+2)))=t':=Zz2 (nF (by omega)) (fun t h1 h2=>by
   rw[CV]at h2
   rw[eB (by omega),hs t (by omega)];exact hz t (by omega) (by omega))
  rw[e4]at Uz
  have UA:=Ut (j:=j) (n:=k+2) Uy CA (by omega)
  have UB:(o3.drop j)[k+2]?=some t':=by rw[gk];exact go3
  have vs3:=Ki (b:=B) (v:=0) UB
  rw[gI (by omega),Uw,Uz]at he3
  generalize val B ((o3.drop j).take (k+2))=A at*
  obtain⟨z1,z2,z3⟩:=Yky hPP hVP UA hc3 s2 t1 t2 t3 (by rw[<-eu];exact fA) (by omega:A+B^(k+2)*c3=S+val B Y)
  have z4:cI t' c3=0:=z3
  simp(disch:=first|(simp;done)|omega|(simp only[bn,bW,bf];omega)|rfl) [-getElem?_pos,dW,Cy,hr,a0,a5,Iw,h6,Cz,eY go3,nR,Yln (l:=o3) (k:=j+(k+2)) (by omega),z4,sb,show ((k:Int)+2).toNat=k+2 by omega]
  have EU:aB n2 (iu::W3)=[]:=by simp[aB,ET,s_]
  refine ES.mk rfl EU (fun t ht=>by rw[T.ai,aq ht,Ko t ht,T.ai,aq ht];exact hO t ht) ⟨q-1,o3.set (j+(k+2)) 0,rfl,by omega,by simp,by simp[CA,ho],Uy.qT (by decide),?_,?_,?_,?_⟩
  ·intro t ht
   rw[eB (by omega),OA t (by omega),eB (by omega)];exact hs t (by omega)
  ·intro t t1 t2
   rw[CV]at t2
   by_cases htt:t=j+(k+2)
   ·subst htt;rw[nF (by omega)]
   ·rw[eB (by omega),OA t (by omega),eB (by omega),hs t (by omega)];exact hz t (by omega) (by omega)
  ·rw[List.drop_set,aq (by omega),show j+(k+2)-j=k+2 by omega,eu];omega
  ·rw[List.drop_set,aq (by omega),show j+(k+2)-j=k+2 by omega];omega
def Zz9{w:List Nat}(hv:Sl h n2 v (dg Y))(hY:Y.length=k+2)(dY:Dg Y)(h2:n2<=iu)(hN:iu<N)(hl:U.length<1099511627776)(zc:j+k+2<U.length)(hU:h.get iu=some (.cells (dg U) 212 true))(dU:Dg U)
  (f1:Y[k+1]?=some v1) (mY:0<v1) (hz:∀t,j+k+3<=t->t<U.length->U[t]?=some 0) (aO:val B (U.drop j)<B*val B Y):
  Call A.C (.func 261 [] []) [.slice iu j (k+3) cp 1,v] ⟨h,N,w⟩ (ES h N n2 iu j k U Y w):=by
 have lv:=hv.len
 rw[bn,hY]at lv
 have f2:=dT (l:=Y) (i:=k) (by omega)
 have g2:=dT (l:=U) (i:=j+k) (by omega)
 have gc:=dT (l:=U) (i:=j+k+1) (by omega)
 have gd:=dT (l:=U) (i:=j+k+2) (by omega)
 generalize Y[k]'(by omega)=v2 at*
 generalize U[j+k]'(by omega)=u2 at*
 generalize U[j+k+1]'(by omega)=c at*
 generalize U[j+k+2]'(by omega)=d at*
 have gd':U[j+(k+2)]?=some d:=by rw[<-pk];exact gd
 have gc':U[j+(k+1)]?=some c:=by rw[<-pk];exact gc
 have UC:v2<B:=dY.get f2
 have Bc:v1<B:=dY.get f1
 have UD:u2<B:=dU.get g2
 have UE:c<B:=dU.get gc
 have hP:0<B^k:=vf (by decide)
 have eU:=Yej (b:=B) (w:=U.drop j) (k:=k) (a:=u2) (c:=c) (d:=d) (by rw[gk];exact g2) (by rw[gk];exact gc) (by rw[gk];exact gd) (fun t h1 h2=>by rw[gk];rw[zp]at h2;exact hz _ (by omega) (by omega))
 have eV:=Yek (b:=B) f2 f1 hY
 have A1:=Ut (j:=j) (n:=k) dU rfl (by omega)
 have A2:=Zmh (b:=B) (k:=k) dY (by omega)
 rw[eU,eV]at aO
 generalize val B ((U.drop j).take k)=U' at*
 generalize val B (Y.take k)=V' at*
 obtain⟨i1,o1,c1,e1,w1,q1,q2,q3,q4⟩:=hv.at (eY f1)
 have vU:i1<N:=by omega
 have bK:¬i1=iu:=by omega
 have jR:¬iu=i1:=by omega
 have t1:((k:Int)+2-1)=(k:Int)+1:=by omega
 have t2:((k:Int)+2).toNat=k+2:=by omega
 rw[aQ,A.k261 (by simp)]
 have fin:∀(r:T V) (q rr ov:Nat) (K:List Kf) (Q:Rs->Prop),r.get 0=some (.slice iu j (k+3) cp 1)->r.get 1=some v->r.get 5=some (.int .i64 ((k:Int)+2))->r.get 6=some (.int .u64 q)->r.get 7=some (.int .u64 rr)->r.get 8=some (.int .u64 ov)->ov<=1->rr<B->q<B->d*B+c=q*v1+(rr+B*ov)->U'+B^k*(u2+B*(d*B+c))<(q+1)*(V'+B^k*(v2+B*v1))->(∀r x st,r.get 4=some x->ES h N n2 iu j k U Y [] x st->bD A.C K (some (.ex .ret ⟨r,186,[]⟩ st)) Q)->bD A.C K (eR (A.C.code none A.lH ⟨r,186,[]⟩ ⟨h,N,[]⟩)) Q:=by
  intro r q rr ov K Q a0 a1 a5 a6 a7 a8 b1 b2 b3 b4 b5 hq
  refine nP (Zz7 hv hY dY h2 hN hl zc hU dU f2 f1 g2 gd hz mY A1 A2 eU eV a0 a1 a5 a6 a7 a8 b1 b2 b3 b4 b5) ?_
  rintro e fr st ⟨rfl,r',x,rfl,hx,hs⟩
  exact hq r' x st hx hs
 have out:∀(r:T V) (x:V) (st:St),r.get 4=some x->ES h N n2 iu j k U Y [] x st->bD A.C [.fin [.tmp 4] ⟨h,N,w⟩] (some (.ex .ret ⟨r,186,[]⟩ st)) (AU (ES h N n2 iu j k U Y w)):=by
  rintro r x ⟨H,n1,W⟩ h4 ⟨s1,s2,s3,s4⟩
  simp[h4]
  exact⟨s1,by show aB n2 (aB N W++w)=_;rw[Kd (Ke (by simpa[aB]using s2))],s3,s4⟩
 by_cases ky:v1<=d
 ·have CB:=Ynv hP A2 UC ky aO
  subst CB
  obtain⟨s1,s2,s3⟩:=Zwx UE Bc
  simp(disch:=first|(simp;done)|omega|(simp only[bn,bW,bf];omega)|rfl) [-getElem?_pos,A.b261,lv,hN,vU,bK,jR,hU,eY gd',eY gc',q1,q3,q4,t1,t2,cD.cG]
  refine fin _ 18446744073709551615 (bs (c+d)) (bZ (c+d)) _ _ (by simp) (by simp) (by simp) (by simp) (by simp) (by simp) s3 s2 (by decide) ?_ ?_ (fun r x st h4 hs=>out r x st h4 hs)
  ·rw[s1];unfold B;omega
  ·unfold B at aO ⊢;exact aO
 ·have yq:¬(v1:Int)<=(d:Int):=by omega
  simp(disch:=first|(simp;done)|omega|(simp only[bn,bW,bf];omega)|rfl) [-getElem?_pos,A.b261,lv,hN,vU,bK,jR,hU,eY gd',eY gc',q1,q3,q4,t1,t2,yq,cD.cG]
  refine au (Zwi (show d<v1 by omega) Bc UE) ?_
  rintro _ h' N' hk ⟨rfl,rfl,rfl⟩
  obtain⟨q,hq⟩:∃q,(d*18446744073709551616+c)/v1=q:=⟨_,rfl⟩
  obtain⟨rr,A9⟩:∃q,(d*18446744073709551616+c)%v1=q:=⟨_,rfl⟩
  have hinv:d*B+c=q*v1+rr:=by
   have:=rz (d*18446744073709551616+c) v1
   rw[hq,A9,fR]at this
   exact this.symm
  have Hh:rr<v1:=by rw[<-A9];exact jO _ mY
  have Uf:q<B:=by
   rw[<-hq];apply (oh mY).2
   have:=kp B (show d+1<=v1 by omega)
   rw[fR B v1]
   rw[jF]at this
   unfold B at*;omega
  rw[hq,A9]
  simp[cD.cG]
  refine fin _ q rr 0 _ _ (by simp) (by simp) (by simp) (by simp) (by simp) (by simp) (by omega) (by omega) Uf (by rw[hinv];omega) (Ynw A1 UD hinv Hh) (fun r x st h4 hs=>out r x st h4 hs)
end
end Go.Mx
