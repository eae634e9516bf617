/-num-/
import Derived.Test.YtgnadghjglamaaaGreatDoorNaV
set_option linter.all false
namespace Go.Mx
noncomputable section
open Go Go.Proofs
variable {N i iu j k n n2 v1:Nat} {U Y l o:List Nat} {cp:Option Nat} {h:T O} {r0:T V} {v:V}
set_option maxHeartbeats 4000000
set_option maxRecDepth 1000000
def A.w253:=A.q Tryz.f253
def A.lb253_0:=A.ql A.w253 2 []
def A.lb253_1:=A.ql A.w253 1 []
def A.lb253_2:=A.ql A.w253 0 []
def A.ta253_0:=(fun x0 x1 x2=>A.qt A.w253 [x0,x1,x2] [] [1,1,1,1,1]) A.lb253_2 A.lb253_1 A.lb253_0
def A.b253:=(fun x0 x1 x2 y0=>A.qt A.w253 [x0,x1,x2] [([1,1,1,1,1],y0)] []) A.lb253_2 A.lb253_1 A.lb253_0 A.ta253_0
def A.k253:=@A.kk 253 186 [.tmp 4] A.b253 (by kernel_rfl) rfl
def Ya3:Zfm i l≠[]:=by
 unfold Zfm
 split
 ·rintro rfl;simp_all
 ·simp
def Ziq{w:List Nat}(h:Zae n (i::w)=[]):¬i<n∧Zae n w=[]:=by
 simp only[Zae]at h
 split at h
 ·exact absurd h Ya3
 ·rename_i hi;exact⟨hi,h⟩
def Zfl{n:Nat}:∀{w u:List Nat},Zae n w=[]→Zae n (w++u)=Zae n u
 |[],u,_=>rfl
 |i::w,u,h=>by
  obtain⟨hi,hw⟩:=Ziq h
  simp only[Yuj,Zae,hi,if_false]
  exact Zfl hw
def Zfk{n N:Nat}(hn:n≤N):∀{w:List Nat},Zae N w=[]→Zae n w=[]
 |[],_=>rfl
 |i::w,h=>by
  obtain⟨hi,hw⟩:=Ziq h
  simp only[Zae,show ¬i<n by omega,if_false]
  exact Zfk hn hw
def Zti(hi:¬i<n)(h:Zae n l=[]):Zae n (Zfm i l)=[]:=by
 unfold Zfm
 split
 ·exact h
 ·simp only[Zae,hi,if_false];exact h
def Zfj{n N:Nat}:∀{w:List Nat},Zae n w=[]→Zae n (Zae N w)=[]
 |[],_=>rfl
 |i::w,h=>by
  obtain⟨hi,hw⟩:=Ziq h
  have:=Zfj (N:=N) hw
  simp only[Zae]
  split
  ·exact Zti hi this
  ·exact this
def Zwq{r v:Nat}(hr:r<B)(hv:v<B):lo64 (r+v)+B*hi64 (r+v)=r+v∧lo64 (r+v)<B∧hi64 (r+v)≤1:=by
 have:=Ydu (c:=0) hv hr (by omega)
 simpa using this
def GuI(h:T O)(N u1 v1 W Z m:Nat)(r:T V)(st:St):Prop:=st=⟨h,N,[]⟩∧∃rr ov:Nat,r.get 6=some (.int .u64 m)∧r.get 7=some (.int .u64 rr)∧r.get 8=some (.int .u64 ov)∧ov≤1∧rr<B∧m<B∧u1=m*v1+(rr+B*ov)∧W<(m+1)*Z
structure MsI (h:T O) (N n2 iu j q:Nat) (U Y:List Nat) (m:Nat) (r:T V) (st:St):Prop where
 n:st.n=N
 w:Zae n2 st.w=[]
 old:∀t,t≠iu→st.h.get t=h.get t
 ex:∃(i bw c:Nat) (o:List Nat),i+m=Y.length∧r.get 105=some (.int .i64 i)∧r.get 11=some (.int .u64 bw)∧r.get 12=some (.int .u64 c)∧st.h.get iu=some (.cells (dg o) 217 true)∧o.length=U.length∧Dg o∧(∀t,(t<j∨j+i≤t)→o[t]?=U[t]?)∧bw≤1∧c<B∧val B (o.drop j)+q*val B (Y.take i)=val B (U.drop j)+B^i*(c+bw)
structure AbI (h:T O) (N n2 iu j:Nat) (U Y:List Nat) (m:Nat) (r:T V) (st:St):Prop where
 n:st.n=N
 w:Zae n2 st.w=[]
 old:∀t,t≠iu→st.h.get t=h.get t
 ex:∃(i c:Nat) (o:List Nat),i+m=Y.length∧r.get 157=some (.int .i64 i)∧r.get 17=some (.int .u64 c)∧st.h.get iu=some (.cells (dg o) 217 true)∧o.length=U.length∧Dg o∧(∀t,(t<j∨j+i≤t)→o[t]?=U[t]?)∧c≤1∧val B (o.drop j)+B^i*c=val B (U.drop j)+val B (Y.take i)
structure Ylm (h:T O) (N n2 iu j k:Nat) (U Y:List Nat) (w:List Nat) (x:V) (st:St):Prop where
 n:st.n=N
 w:Zae n2 st.w=Zae n2 w
 old:∀t,t≠iu→st.h.get t=h.get t
 ex:∃(q:Nat) (o:List Nat),x=.int .u64 q∧q<B∧st.h.get iu=some (.cells (dg o) 217 true)∧o.length=U.length∧Dg o∧(∀t,t<j→o[t]?=U[t]?)∧(∀t,j+k+2≤t→t<o.length→o[t]?=some 0)∧val B (o.drop j)+q*val B Y=val B (U.drop j)∧val B (o.drop j)<val B Y
def Yjw{h:T O}{N n2 iu j q:Nat}{U Y:List Nat}{v:V}{cp:Option Nat}{r0:T V}(hv:Sl h n2 v (dg Y))(dY:Dg Y)(h2:n2≤iu)(hj:j+Y.length<U.length)(hl:U.length<1099511627776)(hq:q<B)
  (a0:r0.get 0=some (.slice iu j (Y.length+1) cp 1)) (a1:r0.get 1=some v) (a6:r0.get 6=some (.int .u64 q)) (a104:r0.get 104=some (.int .i64 Y.length)):
  ∀k r st,(∀t,inD [(11,16),(105,139)] t=false→r.get t=r0.get t)→Fx [(11,16),(105,139)] r0 186 ⟨r,186,[]⟩→MsI h N n2 iu j q U Y k r st→Code A.C none A.lb253_1 ⟨r,186,[]⟩ st (Rd [(11,16),(105,139)] r0 186 (MsI h N n2 iu j q U Y) k (fun e r st=>e=.exit 2∧MsI h N n2 iu j q U Y 0 r st)):=by
 rintro m r ⟨H,n1,W⟩ hr hf ⟨hn,hW,hO,i,bw,c,o,hi,h105,h11,h12,hrow,ho,hd,hs,hb,hc,he⟩
 simp only at hn hW hO hrow
 subst hn
 have lv:=hv.len
 rw[Zab]at lv
 rw[Zai]
 cases m with
 |zero=>
  have:i=Y.length:=by omega
  subst this
  simp(disch:=first|(simp;done)|omega|(simp only[Zab,Zaa,Yrr];omega)|rfl) [-getElem?_pos,A.lb253_1,hr,hf,a104,h105]
  exact⟨rfl,hW,hO,Y.length,bw,c,o,by omega,by simp[h105],by simp[h11],by simp[h12],hrow,ho,hd,hs,hb,hc,he⟩
 |succ m=>
  have hlt:i<Y.length:=by omega
  have gy:=Yrx hlt
  generalize Y[i]=y at*
  have hy:y<B:=dY.get gy
  obtain⟨i2,o2,c2,e2,w2,p1,p2,p3,p4⟩:=hv.at (Za9 gy)
  have hne:i2≠iu:=by omega
  have p3:=(hO i2 hne).trans p3
  have go:o[j+i]?=some (o[j+i]'(by omega)):=Yrx (by omega)
  generalize o[j+i]'(by omega)=u at*
  have hu:u<B:=hd.get go
  obtain⟨s1,s2,s3,s4,s5⟩:=Yjv hq hy hc hu hb
  have hb':bw=0∨bw=1:=by omega
  have hlt3:i<Y.length+1:=by omega
  simp(disch:=first|(simp;done)|omega|(simp only[Zab,Zaa,Yrr];omega)|rfl) [-getElem?_pos,A.lb253_1,hr,hf,a104,h105,hlt,a6,a1,lv,p1,p3,p4]
  refine Zac (Zjy hq hy) ?_
  rintro _ H n1 hk3 ⟨rfl,rfl,rfl⟩
  have q1:lo64 (lo64 (q*y)+c)=Ztp q y c:=rfl
  have q2:addu (hi64 (q*y)) (hi64 (lo64 (q*y)+c))=msCar q y c:=rfl
  have hbi:(bw:Int)=0∨(bw:Int)=1:=by omega
  simp(disch:=first|(simp;done)|omega|(simp only[Zab,Zaa,Yrr];omega)|rfl) [-getElem?_pos,hr,hf,h105,hlt3,a0,h11,h12,hrow,Za9 go,Zcx,q1,q2,hbi]
  have hw':¬iu<n2:=by omega
  refine⟨m,by omega,rfl,by simp[Zae,hW,hw'],fun t ht=>by rw[T.get_set,Yrt ht];exact hO t ht,i+1,bw64 u (Ztp q y c) bw,msCar q y c,o.set (j+i) (sb64 u (Ztp q y c) bw),by omega,by simp,by simp,by simp,by simp,by simp[ho],hd.set' s2,?_,s4,s3,?_⟩
  ·intro t ht
   rw[Yry (by omega)]
   exact hs t (by omega)
  ·have go2:(o.drop j)[i]?=some u:=by rw[Yr4];exact go
   have v1:=Zja (b:=B) (v:=sb64 u (Ztp q y c) bw) go2
   rw[List.drop_set,Yrt (by omega),show j+i-j=i by omega,Zby gy]
   have e1:B^i*(sb64 u (Ztp q y c) bw+q*y+c+bw)=B^i*(u+B*(msCar q y c+bw64 u (Ztp q y c) bw)):=by rw[s1]
   rw[Ysg]
   generalize val B ((o.drop j).set i (sb64 u (Ztp q y c) bw))=z1 at*
   generalize val B (o.drop j)=z2 at*
   generalize val B (U.drop j)=z3 at*
   generalize val B (List.take i Y)=z4 at*
   generalize sb64 u (Ztp q y c) bw=z5 at*
   generalize msCar q y c=z6 at*
   generalize bw64 u (Ztp q y c) bw=z7 at*
   generalize B^i=z8 at*
   clear s1 gy hy go go2 hu hs hd
   grind
def Yll{h:T O}{N n2 iu j:Nat}{U Y:List Nat}{v:V}{cp:Option Nat}{r0:T V}(hv:Sl h n2 v (dg Y))(dY:Dg Y)(h2:n2≤iu)(hN:iu<N)(hj:j+Y.length<U.length)(hl:U.length<1099511627776)
  (a0:r0.get 0=some (.slice iu j (Y.length+1) cp 1)) (a1:r0.get 1=some v) (a156:r0.get 156=some (.int .i64 Y.length)):
  ∀k r st,(∀t,inD [(17,18),(157,176)] t=false→r.get t=r0.get t)→Fx [(17,18),(157,176)] r0 186 ⟨r,186,[]⟩→AbI h N n2 iu j U Y k r st→Code A.C none A.lb253_0 ⟨r,186,[]⟩ st (Rd [(17,18),(157,176)] r0 186 (AbI h N n2 iu j U Y) k (fun e r st=>e=.exit 4∧AbI h N n2 iu j U Y 0 r st)):=by
 rintro m r ⟨H,n1,W⟩ hr hf ⟨hn,hW,hO,i,c,o,hi,h157,h17,hrow,ho,hd,hs,hc,he⟩
 simp only at hn hW hO hrow
 subst hn
 have lv:=hv.len
 rw[Zab]at lv
 rw[Zai]
 cases m with
 |zero=>
  have:i=Y.length:=by omega
  subst this
  simp(disch:=first|(simp;done)|omega|(simp only[Zab,Zaa,Yrr];omega)|rfl) [-getElem?_pos,A.lb253_0,hr,hf,a156,h157]
  exact⟨rfl,hW,hO,Y.length,c,o,by omega,by simp[h157],by simp[h17],hrow,ho,hd,hs,hc,he⟩
 |succ m=>
  have hlt:i<Y.length:=by omega
  have gy:=Yrx hlt
  generalize Y[i]=y at*
  have hy:y<B:=dY.get gy
  obtain⟨i2,o2,c2,e2,w2,p1,p2,p3,p4⟩:=hv.at (Za9 gy)
  have hne:i2≠iu:=by omega
  have p3:=(hO i2 hne).trans p3
  have go:o[j+i]?=some (o[j+i]'(by omega)):=Yrx (by omega)
  generalize o[j+i]'(by omega)=u at*
  have hu:u<B:=hd.get go
  obtain⟨s1,s2,s3⟩:=Ydu hy hu hc
  have hlt3:i<Y.length+1:=by omega
  have hci:(c:Int)=0∨(c:Int)=1:=by omega
  have hw':¬iu<n2:=by omega
  have hiN:i2<n1:=by omega
  have hne2:¬iu=i2:=fun hc=>hne hc.symm
  simp(disch:=first|(simp;done)|omega|(simp only[Zab,Zaa,Yrr];omega)|rfl) [-getElem?_pos,A.lb253_0,hr,hf,a156,h157,hlt,hlt3,hN,hiN,hne,hne2,Zal.chk,a0,a1,lv,p1,p3,p4,hrow,Za9 go,Zcx,h17,hci]
  rw[Zri (by simp[hN,hiN,hne,hne2])]
  simp(disch:=first|(simp;done)|omega|(simp only[Zab,Zaa,Yrr];omega)|rfl) [-getElem?_pos,hr,hf,h157]
  refine⟨m,by omega,rfl,by simp[Zae,hW,hw'],fun t ht=>by rw[T.get_set,Yrt ht];exact hO t ht,i+1,hi64 (u+y+c),o.set (j+i) (lo64 (u+y+c)),by omega,by simp,by simp,by simp,by simp[ho],hd.set' s2,?_,s3,?_⟩
  ·intro t ht
   rw[Yry (by omega)]
   exact hs t (by omega)
  ·have go2:(o.drop j)[i]?=some u:=by rw[Yr4];exact go
   have v1:=Zja (b:=B) (v:=lo64 (u+y+c)) go2
   rw[List.drop_set,Yrt (by omega),show j+i-j=i by omega,Zby gy]
   have e1:B^i*(lo64 (u+y+c)+B*hi64 (u+y+c))=B^i*(u+y+c):=by rw[s1]
   rw[Ysg]
   generalize val B ((o.drop j).set i (lo64 (u+y+c)))=z1 at*
   generalize val B (o.drop j)=z2 at*
   generalize val B (U.drop j)=z3 at*
   generalize val B (List.take i Y)=z4 at*
   generalize lo64 (u+y+c)=z5 at*
   generalize hi64 (u+y+c)=z6 at*
   generalize B^i=z8 at*
   clear s1 gy hy go go2 hu hs hd
   grind
def Yko{u2 u1 v2 U' V' P:Nat}{e0:TypeId}{rw0:Bool}(hv:Sl h n2 v (dg Y))(hY:Y.length=k+2)(dY:Dg Y)(hl:U.length<1099511627776)(hjk:j+k+2<U.length)(hU:h.get iu=some (.cells (dg U) e0 rw0))(dU:Dg U)
  (f2:Y[k]?=some v2) (f1:Y[k+1]?=some v1) (g2:U[j+k]?=some u2) (hv1:0<v1) (hP:0<P) (hU':U'<P) (hV':V'<P)
  (a0:r0.get 0=some (.slice iu j (k+3) cp 1)) (a1:r0.get 1=some v) (a5:r0.get 5=some (.int .i64 ((k:Int)+2))):
  ∀m r st,(∀t,inD [(6,10),(63,103)] t=false→r.get t=r0.get t)→Fx [(6,10),(63,103)] r0 186 ⟨r,186,[]⟩→GuI h N u1 v1 (U'+P*(u2+B*u1)) (V'+P*(v2+B*v1)) m r st→Code A.C none A.lb253_2 ⟨r,186,[]⟩ st (Rd [(6,10),(63,103)] r0 186 (GuI h N u1 v1 (U'+P*(u2+B*u1)) (V'+P*(v2+B*v1))) m (fun e r st=>e=.exit 0∧st=⟨h,N,[]⟩∧∃q:Nat,r.get 6=some (.int .u64 q)∧q<B∧(q-1)*(V'+P*(v2+B*v1))≤U'+P*(u2+B*u1)∧U'+P*(u2+B*u1)<(q+1)*(V'+P*(v2+B*v1)))):=by
 rintro m r _ hr hf ⟨rfl,rr,ov,h6,h7,h8,hov,hrr,hm,hinv,hhi⟩
 have lv:=hv.len
 rw[Zab]at lv
 rw[Zai]
 have hv2:v2<B:=dY.get f2
 have hv1B:v1<B:=dY.get f1
 have hu2:u2<B:=dU.get g2
 have fin:m*v2≤(rr+B*ov)*B+u2→(m-1)*(V'+P*(v2+B*v1))≤U'+P*(u2+B*u1):=by
  intro hc
  cases m with
  |zero=>simp
  |succ s=>exact Ykg hv1 hV' (by omega) hinv hc
 by_cases h0:ov=0
 ·subst h0
  simp only[Nat.mul_zero,Yty]at hinv fin
  obtain⟨i2,o2,c2,e2,w2,p1,p2,p3,p4⟩:=hv.at (Za9 f2)
  have hk1:((k:Int)+2-2)=(k:Int):=by omega
  have hkl:(k:Int)<((k+2:Nat):Int):=by omega
  have hkl2:(k:Int)<((k+3:Nat):Int):=by omega
  rw[hY]at lv
  simp(disch:=first|(simp;done)|omega|(simp only[Zab,Zaa,Yrr];omega)|rfl) [-getElem?_pos,A.lb253_2,hr,hf,h6,h7,h8,a0,a1,a5,lv,p1,p3,p4,Zag,hk1,hkl]
  refine Zac (Zjy hm hv2) ?_
  rintro _ h N hk3 ⟨rfl,rfl,rfl⟩
  have hp:lo64 (m*v2)+B*hi64 (m*v2)=m*v2:=by
   have:=Ytc (m*v2) B
   unfold lo64 hi64;unfold B at*;omega
  have hpl:lo64 (m*v2)<B:=Ybz
  obtain⟨i1,o1,c1,e1,w1,q1,q2,q3,q4⟩:=hv.at (Za9 f1)
  obtain⟨hi,hhi2⟩:∃x,hi64 (m*v2)=x:=⟨_,rfl⟩
  obtain⟨lo,hlo2⟩:∃x,lo64 (m*v2)=x:=⟨_,rfl⟩
  rw[hhi2,hlo2]at hp
  rw[hlo2]at hpl
  by_cases c1:hi<rr
  ·have:=fin (by
    have:=Yr9 B c1
    rw[Ysk rr B];rw[Nat.succ_eq_add_one,Ys8]at this;omega)
   simp(disch:=first|(simp;done)|omega|(simp only[Zab,Zaa,Yrr];omega)|rfl) [-getElem?_pos,hr,hf,h6,h7,h8,hhi2,hlo2,c1]
   exact⟨hm,this,hhi⟩
  ·have dec:rr*B+u2<m*v2→0<m∧u1=(m-1)*v1+(rr+v1)∧U'+P*(u2+B*u1)<(m-1+1)*(V'+P*(v2+B*v1)):=by
    intro hc
    have h3:=Ykf hU' hinv hc (b:=B) (P:=P) (V':=V')
    cases m with
    |zero=>omega
    |succ s=> 
     refine⟨by omega,?_,by simpa using h3⟩
     rw[hinv,Ysv];simp;omega
   obtain⟨s1,s2,s3⟩:=Zwq hrr hv1B
   have hk2:((k:Int)+2-1)=(k:Int)+1:=by omega
   have hkl4:(k:Int)+1<((k+2:Nat):Int):=by omega
   have hk11:(k:Int)+1=((k+1:Nat):Int):=by omega
   have goA:rr*B+u2<m*v2→∃k',k'<m∧0<m∧k'=m-1:=fun hc=>⟨m-1,by have:=(dec hc).1;omega,(dec hc).1,rfl⟩
   have sbm:0<m→subu m 1=m-1:=fun hc=>Zgx hc (by unfold B at hm;omega)
   by_cases c2:hi=rr
   ·by_cases c3:lo≤u2
    ·have:=fin (by rw[←hp,c2,Ysk rr B];omega)
     simp(disch:=first|(simp;done)|omega|(simp only[Zab,Zaa,Yrr];omega)|rfl) [-getElem?_pos,hr,hf,h6,h7,h8,hhi2,hlo2,c1,c2,c3,Zag,a0,a5,hk1,hkl2,hU,Za9 g2]
     exact⟨hm,this,hhi⟩
    ·obtain⟨d1,d2,d3⟩:=dec (by rw[←hp,c2,Ysk rr B];omega)
     have sb:=sbm d1
     simp(disch:=first|(simp;done)|omega|(simp only[Zab,Zaa,Yrr];omega)|rfl) [-getElem?_pos,hr,hf,h6,h7,h8,hhi2,hlo2,c1,c2,c3,Zag,a0,a1,a5,hk1,hk2,hkl2,hU,Za9 g2,lv,q1,q3,q4,hkl4,sb]
     exact⟨m-1,by omega,rfl,lo64 (rr+v1),hi64 (rr+v1),by simp,by simp,by simp,s3,s2,by omega,by rw[s1];exact d2,d3⟩
   ·obtain⟨d1,d2,d3⟩:=dec (by
     have:rr+1≤hi:=by omega
     have:=Yr9 B this
     rw[Ys8]at this
     rw[←hp,Ysk rr B];omega)
    have sb:=sbm d1
    simp(disch:=first|(simp;done)|omega|(simp only[Zab,Zaa,Yrr];omega)|rfl) [-getElem?_pos,hr,hf,h6,h7,h8,hhi2,hlo2,c1,c2,Zag,a0,a1,a5,hk1,hk2,lv,q1,q3,q4,hkl4,sb]
    exact⟨m-1,by omega,rfl,lo64 (rr+v1),hi64 (rr+v1),by simp,by simp,by simp,s3,s2,by omega,by rw[s1];exact d2,d3⟩
 ·have:ov=1:=by omega
  subst this
  have:=fin (by
   have h1:m*v2≤B*B:=Ysp (by omega) (by omega)
   rw[Yub,Ysv];omega)
  simp(disch:=first|(simp;done)|omega|(simp only[Zab,Zaa,Yrr];omega)|rfl) [-getElem?_pos,A.lb253_2,hr,hf,h8,Zag]
  exact⟨m,by simp[h6],hm,this,hhi⟩
def Zsz(hl:o.length=U.length)(hj:j+n≤U.length):val B (o.drop j)=val B ((o.drop j).take n)+B^n*val B (o.drop (j+n)):=by
 have:=Zda B (o.drop j) n (by rw[Yt8];omega)
 rw[List.drop_drop]at this
 exact this
def Zv8{p:Nat}(hl:o.length=U.length)(hs:∀t,p≤t→o[t]?=U[t]?):o.drop p=U.drop p:=by
 apply Ysw
 intro t
 rw[Yr4,Yr4]
 exact hs _ (by omega)
def Zz4(hd:Dg o)(hl:o.length=U.length)(hj:j+n≤U.length):val B ((o.drop j).take n)<B^n:=by
 apply Zl9
 ·intro d h;exact hd d (List.mem_of_mem_drop h)
 ·rw[Yt8];omega
def Zzp{p d:Nat}(hd:o[p]?=some d)(hz:∀t,p+1≤t→t<o.length→o[t]?=some 0):val B (o.drop p)=d:=by
 rw[Zcv hd,Zfw hz];omega
def Yk2(h:k<l.length):splice (dg l) k [.int .u64 0]=dg (l.set k 0):=Zcx (v:=0) h
def Zzt{d u2 u1 v2 U' V' q0 r0' ov0:Nat}(hv:Sl h n2 v (dg Y))(hY:Y.length=k+2)(dY:Dg Y)(h2:n2≤iu)(hN:iu<N)(hl:U.length<1099511627776)(hjk:j+k+2<U.length)(hU:h.get iu=some (.cells (dg U) 217 true))(dU:Dg U)
  (f2:Y[k]?=some v2) (f1:Y[k+1]?=some v1) (g2:U[j+k]?=some u2) (gd:U[j+k+2]?=some d) (hz:∀t,j+k+3≤t→t<U.length→U[t]?=some 0) (hv1:0<v1) (hU':U'<B^k) (hV':V'<B^k) (eU:val B (U.drop j)=U'+B^k*(u2+B*u1)) (eV:val B Y=V'+B^k*(v2+B*v1))
  (a0:r0.get 0=some (.slice iu j (k+3) cp 1)) (a1:r0.get 1=some v) (a5:r0.get 5=some (.int .i64 ((k:Int)+2))) (a6:r0.get 6=some (.int .u64 q0)) (a7:r0.get 7=some (.int .u64 r0')) (a8:r0.get 8=some (.int .u64 ov0))
  (b1:ov0≤1) (b2:r0'<B) (b3:q0<B) (b4:u1=q0*v1+(r0'+B*ov0)) (b5:U'+B^k*(u2+B*u1)<(q0+1)*(V'+B^k*(v2+B*v1))):
  Code A.C none A.ta253_0 ⟨r0,186,[]⟩ ⟨h,N,[]⟩ (fun e fr st=>e=.ret∧∃r x,fr=⟨r,186,[]⟩∧r.get 4=some x∧Ylm h N n2 iu j k U Y [] x st):=by
 have hP:0<B^k:=Yuv (by decide)
 rw[Zai]
 simp(disch:=first|(simp;done)|omega|(simp only[Zab,Zaa,Yrr];omega)|rfl) [-getElem?_pos,A.ta253_0]
 refine Zak [(6,10),(63,103)] _ (GuI h N u1 v1 (U'+B^k*(u2+B*u1)) (V'+B^k*(v2+B*v1))) q0 ?_ (Yko hv hY dY hl hjk hU dU f2 f1 g2 hv1 hP hU' hV' a0 a1 a5) ?_
 ·exact⟨rfl,r0',ov0,a6,a7,a8,b1,b2,b3,b4,b5⟩
 rintro e r _ hr ⟨rfl,rfl,q,h6,hq,hlo,hhi⟩
 rw[←eU,←eV]at hlo hhi
 simp(disch:=first|(simp;done)|omega|(simp only[Zab,Zaa,Yrr];omega)|rfl) [-getElem?_pos,hr,a5]
 refine Zak [(11,16),(105,139)] _ (MsI h N n2 iu j q U Y) Y.length ?_ (Yjw hv dY h2 (by omega) hl hq (cp:=cp) (by simp[hr,a0,hY]) (by simp[hr,a1]) (by simp[h6]) (by simp[hr,a5,hY])) ?_
 ·exact⟨rfl,rfl,fun _ _=>rfl,0,0,0,U,by omega,by simp,by simp,by simp,hU,rfl,dU,fun _ _=>rfl,by omega,by decide,by simp[val]⟩
 rintro e r1 ⟨H,n1,W⟩ hr1 ⟨rfl,hn,hW,hO,i,bw,cc,o,hi,h105,h11,h12,hrow,ho,hd,hs,hb,hc,he⟩
 simp only at hn hW hO hrow
 subst hn
 have:i=k+2:=by omega
 subst this
 have god:o[j+(k+2)]?=some d:=by rw[hs _ (by omega)];exact gd
 have hdB:d<B:=dU.get gd
 obtain⟨s1,s2,s3⟩:=Yiz hc hdB hb
 have hbi:(bw:Int)=0∨(bw:Int)=1:=by omega
 have hk3:(k:Int)+2<(k:Int)+3:=by omega
 have hw':¬iu<n2:=by omega
 obtain⟨t',ht'⟩:∃x,sb64 d cc bw=x:=⟨_,rfl⟩
 obtain⟨ee,hee⟩:∃x,bw64 d cc bw=x:=⟨_,rfl⟩
 rw[ht',hee]at s1
 rw[ht']at s2
 rw[hee]at s3
 simp(disch:=first|(simp;done)|omega|(simp only[Zab,Zaa,Yrr];omega)|rfl) [-getElem?_pos,hr1,hr,a0,a5,h11,h12,h6,hrow,Za9 god,Zcx,hbi,ht',hee,show ((k:Int)+2).toNat=k+2 by omega]
 have hVP:val B Y<B^(k+2):=by rw[←hY];exact Zk4 dY
 have hPP:0<B^(k+2):=Yuv (by decide)
 have eo:=Zsz (j:=j) (n:=k+2) ho (by omega)
 have eu:=Zsz (o:=U) (j:=j) (n:=k+2) rfl (by omega)
 rw[Zv8 ho (p:=j+(k+2)) (fun t ht=>hs t (by omega))]at eo
 have etop:val B (U.drop (j+(k+2)))=d:=Zzp gd (fun t h1 h2=>hz t (by omega) h2)
 rw[etop]at eo eu
 have hSP:=Zz4 (j:=j) (n:=k+2) hd ho (by omega)
 have go2:(o.drop j)[k+2]?=some d:=by rw[Yr4];exact god
 have vs:=Zja (b:=B) (v:=t') go2
 rw[Yr2 (by omega)]at he
 generalize val B ((o.drop j).take (k+2))=S at*
 generalize val B ((U.drop j).take (k+2))=W0 at*
 have h1:S+q*val B Y=W0+B^(k+2)*(cc+bw):=by rw[eo,eu]at he;omega
 have kt:=Ymw (by decide) hPP hVP hSP s2 s3 h1 (by omega:t'+(cc+bw)=d+B*ee) (by rw[←eu];exact hlo) (by rw[←eu];exact hhi)
 have hdrop:(o.set (j+(k+2)) t').drop j=(o.drop j).set (k+2) t':=by rw[List.drop_set,Yrt (by omega),show j+(k+2)-j=k+2 by omega]
 have vo2:val B ((o.set (j+(k+2)) t').drop j)=S+B^(k+2)*t':=by rw[hdrop];omega
 have hd2:=hd.set' (k:=j+(k+2)) s2
 have hW2:Zae n2 (iu::W)=[]:=by simp[Zae,hW,hw']
 by_cases he0:ee=0
 ·obtain⟨t1,t2,t3⟩:=kt.1 he0
  subst t3
  simp(disch:=first|(simp;done)|omega|(simp only[Zab,Zaa,Yrr];omega)|rfl) [-getElem?_pos,hr1,hr,h6,he0]
  refine Ylm.mk rfl hW2 (fun t ht=>by rw[T.get_set,Yrt ht];exact hO t ht) ⟨q,o.set (j+(k+2)) 0,rfl,hq,by simp,by simp[ho],hd2,?_,?_,?_,?_⟩
  ·intro t ht
   rw[Yry (by omega)];exact hs t (by omega)
  ·intro t t1 t2
   rw[Yu8]at t2
   by_cases htt:t=j+(k+2)
   ·subst htt;rw[Ysf (by omega)]
   ·rw[Yry (by omega),hs t (by omega)];exact hz t (by omega) (by omega)
  ·rw[vo2,eu];omega
  ·rw[vo2];omega
 ·have he1:ee=1:=by omega
  obtain⟨t1,t2,t3⟩:=kt.2 he1
  have sb:subu q 1=q-1:=Zgx t1 (by unfold B at hq;omega)
  have hv2:Sl (H.set iu (.cells (dg (o.set (j+(k+2)) t')) 217 true)) n2 v (dg Y):=hv.keep ⟨Yru _,fun i hi=>by rw[T.get_set,Yrt (by omega)];exact hO i (by omega)⟩
  simp(disch:=first|(simp;done)|omega|(simp only[Zab,Zaa,Yrr];omega)|rfl) [-getElem?_pos,hr1,hr,h6,a5,he0]
  refine Zak [(17,18),(157,176)] _ (AbI _ n1 n2 iu j (o.set (j+(k+2)) t') Y) Y.length ?_ (Yll hv2 dY h2 hN (by simp;omega) (by simp;omega) (cp:=cp) (by simp[hr1,hr,a0,hY]) (by simp[hr1,hr,a1]) (by simp[hr1,hr,a5,hY])) ?_
  ·exact⟨rfl,hW2,fun _ _=>rfl,0,0,o.set (j+(k+2)) t',by omega,by simp,by simp,by simp,rfl,hd2,fun _ _=>rfl,by omega,by simp[val]⟩
  rintro e r2 ⟨H3,n3,W3⟩ hr2 ⟨rfl,hn3,hW3,hO3,i3,c3,o3,hi3,h157,h17,hrow3,ho3,hd3,hs3,hc3,he3⟩
  simp only at hn3 hW3 hO3 hrow3
  subst hn3
  have:i3=k+2:=by omega
  subst this
  have go3:o3[j+(k+2)]?=some t':=by rw[hs3 _ (by omega),Ysf (by omega)]
  have eo3:=Zsz (j:=j) (n:=k+2) (ho3.trans (Yu8 ..)) (by omega)
  rw[Yu8]at ho3
  rw[Zv8 (ho3.trans (Yu8 ..).symm) (p:=j+(k+2)) (fun t ht=>hs3 t (by omega))]at eo3
  have e4:val B ((o.set (j+(k+2)) t').drop (j+(k+2)))=t':=Zzp (Ysf (by omega)) (fun t h1 h2=>by
   rw[Yu8]at h2
   rw[Yry (by omega),hs t (by omega)];exact hz t (by omega) (by omega))
  rw[e4]at eo3
  have hSP3:=Zz4 (j:=j) (n:=k+2) hd3 ho3 (by omega)
  have go32:(o3.drop j)[k+2]?=some t':=by rw[Yr4];exact go3
  have vs3:=Zja (b:=B) (v:=0) go32
  rw[Yr2 (by omega),vo2,eo3]at he3
  generalize val B ((o3.drop j).take (k+2))=A at*
  obtain⟨z1,z2,z3⟩:=Yke hPP hVP hSP3 hc3 s2 t1 t2 t3 (by rw[←eu];exact hlo) (by omega:A+B^(k+2)*c3=S+val B Y)
  have z4:addu t' c3=0:=z3
  simp(disch:=first|(simp;done)|omega|(simp only[Zab,Zaa,Yrr];omega)|rfl) [-getElem?_pos,hr2,hr1,hr,a0,a5,h17,h6,hrow3,Za9 go3,Zcx,Yk2 (l:=o3) (k:=j+(k+2)) (by omega),z4,sb,show ((k:Int)+2).toNat=k+2 by omega]
  have hW4:Zae n2 (iu::W3)=[]:=by simp[Zae,hW3,hw']
  refine Ylm.mk rfl hW4 (fun t ht=>by rw[T.get_set,Yrt ht,hO3 t ht,T.get_set,Yrt ht];exact hO t ht) ⟨q-1,o3.set (j+(k+2)) 0,rfl,by omega,by simp,by simp[ho3,ho],hd3.set' (by decide),?_,?_,?_,?_⟩
  ·intro t ht
   rw[Yry (by omega),hs3 t (by omega),Yry (by omega)];exact hs t (by omega)
  ·intro t t1 t2
   rw[Yu8]at t2
   by_cases htt:t=j+(k+2)
   ·subst htt;rw[Ysf (by omega)]
   ·rw[Yry (by omega),hs3 t (by omega),Yry (by omega),hs t (by omega)];exact hz t (by omega) (by omega)
  ·rw[List.drop_set,Yrt (by omega),show j+(k+2)-j=k+2 by omega,eu];omega
  ·rw[List.drop_set,Yrt (by omega),show j+(k+2)-j=k+2 by omega];omega
def Zzv{w:List Nat}(hv:Sl h n2 v (dg Y))(hY:Y.length=k+2)(dY:Dg Y)(h2:n2≤iu)(hN:iu<N)(hl:U.length<1099511627776)(hjk:j+k+2<U.length)(hU:h.get iu=some (.cells (dg U) 217 true))(dU:Dg U)
  (f1:Y[k+1]?=some v1) (hv1:0<v1) (hz:∀t,j+k+3≤t→t<U.length→U[t]?=some 0) (hlt:val B (U.drop j)<B*val B Y):
  Call A.C (.func 253 [] []) [.slice iu j (k+3) cp 1,v] ⟨h,N,w⟩ (Ylm h N n2 iu j k U Y w):=by
 have lv:=hv.len
 rw[Zab,hY]at lv
 have f2:=Yrx (l:=Y) (i:=k) (by omega)
 have g2:=Yrx (l:=U) (i:=j+k) (by omega)
 have gc:=Yrx (l:=U) (i:=j+k+1) (by omega)
 have gd:=Yrx (l:=U) (i:=j+k+2) (by omega)
 generalize Y[k]'(by omega)=v2 at*
 generalize U[j+k]'(by omega)=u2 at*
 generalize U[j+k+1]'(by omega)=c at*
 generalize U[j+k+2]'(by omega)=d at*
 have gd':U[j+(k+2)]?=some d:=by rw[←Yta];exact gd
 have gc':U[j+(k+1)]?=some c:=by rw[←Yta];exact gc
 have hv2B:v2<B:=dY.get f2
 have hv1B:v1<B:=dY.get f1
 have hu2B:u2<B:=dU.get g2
 have hcB:c<B:=dU.get gc
 have hdB:d<B:=dU.get gd
 have hP:0<B^k:=Yuv (by decide)
 have eU:=Yea (b:=B) (w:=U.drop j) (k:=k) (a:=u2) (c:=c) (d:=d) (by rw[Yr4];exact g2) (by rw[Yr4];exact gc) (by rw[Yr4];exact gd) (fun t h1 h2=>by rw[Yr4];rw[Yt8]at h2;exact hz _ (by omega) (by omega))
 have eV:=Yeb (b:=B) f2 f1 hY
 have hU':=Zz4 (j:=j) (n:=k) dU rfl (by omega)
 have hV':=Zl9 (b:=B) (k:=k) dY (by omega)
 rw[eU,eV]at hlt
 generalize val B ((U.drop j).take k)=U' at*
 generalize val B (Y.take k)=V' at*
 obtain⟨i1,o1,c1,e1,w1,q1,q2,q3,q4⟩:=hv.at (Za9 f1)
 have hi1:i1<N:=by omega
 have hne:¬i1=iu:=by omega
 have hne2:¬iu=i1:=by omega
 have t1:((k:Int)+2-1)=(k:Int)+1:=by omega
 have t2:((k:Int)+2).toNat=k+2:=by omega
 rw[Zaf,A.k253 (by simp)]
 have fin:∀(r:T V) (q rr ov:Nat) (K:List Kf) (Q:Rs→Prop),r.get 0=some (.slice iu j (k+3) cp 1)→r.get 1=some v→r.get 5=some (.int .i64 ((k:Int)+2))→r.get 6=some (.int .u64 q)→r.get 7=some (.int .u64 rr)→r.get 8=some (.int .u64 ov)→ov≤1→rr<B→q<B→d*B+c=q*v1+(rr+B*ov)→U'+B^k*(u2+B*(d*B+c))<(q+1)*(V'+B^k*(v2+B*v1))→(∀r x st,r.get 4=some x→Ylm h N n2 iu j k U Y [] x st→Run A.C K (some (.ex .ret ⟨r,186,[]⟩ st)) Q)→Run A.C K (exR (A.C.code none A.ta253_0 ⟨r,186,[]⟩ ⟨h,N,[]⟩)) Q:=by
  intro r q rr ov K Q a0 a1 a5 a6 a7 a8 b1 b2 b3 b4 b5 hq
  refine Za7 (Zzt hv hY dY h2 hN hl hjk hU dU f2 f1 g2 gd hz hv1 hU' hV' eU eV a0 a1 a5 a6 a7 a8 b1 b2 b3 b4 b5) ?_
  rintro e fr st ⟨rfl,r',x,rfl,hx,hs⟩
  exact hq r' x st hx hs
 have out:∀(r:T V) (x:V) (st:St),r.get 4=some x→Ylm h N n2 iu j k U Y [] x st→Run A.C [.fin [.tmp 4] ⟨h,N,w⟩] (some (.ex .ret ⟨r,186,[]⟩ st)) (Yed (Ylm h N n2 iu j k U Y w)):=by
  rintro r x ⟨H,n1,W⟩ h4 ⟨s1,s2,s3,s4⟩
  simp(disch:=first|(simp;done)|omega|(simp only[Zab,Zaa,Yrr];omega)|rfl) [-getElem?_pos,h4]
  exact⟨s1,by show Zae n2 (Zae N W++w)=_;rw[Zfl (Zfj (by simpa[Zae]using s2))],s3,s4⟩
 by_cases hge:v1≤d
 ·have hdv:=Ym2 hP hV' hv2B hge hlt
  subst hdv
  obtain⟨s1,s2,s3⟩:=Zwq hcB hv1B
  simp(disch:=first|(simp;done)|omega|(simp only[Zab,Zaa,Yrr];omega)|rfl) [-getElem?_pos,A.b253,lv,hN,hi1,hne,hne2,hU,Za9 gd',Za9 gc',q1,q3,q4,t1,t2,Zal.chk]
  refine fin _ 18446744073709551615 (lo64 (c+d)) (hi64 (c+d)) _ _ (by simp) (by simp) (by simp) (by simp) (by simp) (by simp) s3 s2 (by decide) ?_ ?_ (fun r x st h4 hs=>out r x st h4 hs)
  ·rw[s1];unfold B;omega
  ·unfold B at hlt ⊢;exact hlt
 ·have hge':¬(v1:Int)≤(d:Int):=by omega
  simp(disch:=first|(simp;done)|omega|(simp only[Zab,Zaa,Yrr];omega)|rfl) [-getElem?_pos,A.b253,lv,hN,hi1,hne,hne2,hU,Za9 gd',Za9 gc',q1,q3,q4,t1,t2,hge',Zal.chk]
  refine Zac (Zv9 (show d<v1 by omega) hv1B hcB) ?_
  rintro _ h' N' hk ⟨rfl,rfl,rfl⟩
  obtain⟨q,hq⟩:∃q,(d*18446744073709551616+c)/v1=q:=⟨_,rfl⟩
  obtain⟨rr,hrr⟩:∃q,(d*18446744073709551616+c)%v1=q:=⟨_,rfl⟩
  have hinv:d*B+c=q*v1+rr:=by
   have:=Ytc (d*18446744073709551616+c) v1
   rw[hq,hrr,Ysk]at this
   exact this.symm
  have hrl:rr<v1:=by rw[←hrr];exact Ys2 _ hv1
  have hqB:q<B:=by
   rw[←hq];apply (Ysm hv1).2
   have:=Ysb B (show d+1≤v1 by omega)
   rw[Ysk B v1]
   rw[Ysv]at this
   unfold B at*;omega
  rw[hq,hrr]
  simp(disch:=first|(simp;done)|omega|(simp only[Zab,Zaa,Yrr];omega)|rfl) [-getElem?_pos,lv,hN,hi1,hne,hne2,Zal.chk]
  refine fin _ q rr 0 _ _ (by simp) (by simp) (by simp) (by simp) (by simp) (by simp) (by omega) (by omega) hqB (by rw[hinv];omega) (Ym3 hU' hu2B hinv hrl) (fun r x st h4 hs=>out r x st h4 hs)
end
end Go.Mx
