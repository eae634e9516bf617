/-Long division by words-/
import Derived.Test.YtnkdakmfipgidaaGreatDoorNaX
set_option linter.all false
namespace Go.Mx
noncomputable section
open Go
variable {P Y a b d k u v1:Nat} {l:List Nat}
def Dp(h:l[k]?=some d):val b (l.drop k)=d+b*val b (l.drop (k+1)):=by
 have hk:k<l.length:=by apply uH;intro hc;rw[fW hc]at h;cases h
 rw[IY hk];rw[bV hk]at h;simp only[aq]at h;rw[h];rfl
def GS(b:Nat)(l:List Nat)(k:Nat)(hk:k<=l.length):val b l=val b (l.take k)+b^k*val b (l.drop k):=by have:=T0 b (l.take k) (l.drop k);rw[En,iX,rj hk]at this;exact this
def Zyk{b:Nat}:∀{l:List Nat},(∀(t:Nat),t<l.length->l[t]?=some 0)->val b l=0
 |[],_=>rfl
 |d::l,h=>by
  have h0:=h 0 (by simp)
  simp at h0
  have:=Zyk (b:=b) (l:=l) fun t ht=>by simpa using h (t+1) (by simp;omega)
  simp[val,h0,this]
def Yv3{α:Type}{l:List α}{d:α}(h:l[k]?=some d):k<l.length:=by apply uH;intro hc;rw[fW hc]at h;cases h
def Zhc(hz:∀t,k<=t->t<l.length->l[t]?=some 0):val b (l.drop k)=0:=by apply Zyk;intro t ht;rw[fF];rw[zk]at ht;exact hz _ (by omega) (by omega)
def Yjg{w:List Nat}{c:Nat}(ha:w[k]?=some a)(hc:w[k+1]?=some c)(hd:w[k+2]?=some d)(hz:∀t,k+3<=t->t<w.length->w[t]?=some 0):
  val b w=val b (w.take k)+b^k*(a+b*(d*b+c)):=by have:=Yv3 ha;rw[GS b w k (by omega),Dp ha,Dp hc,Dp hd,Zhc hz];generalize b^k=p;grind
def Yjh{w:List Nat}{c:Nat}(ha:w[k]?=some a)(hc:w[k+1]?=some c)(hl:w.length=k+2):
  val b w=val b (w.take k)+b^k*(a+b*c):=by rw[GS b w k (by omega),Dp ha,Dp hc,wP (by omega)];simp[val]
def Zof(g:∀d∈l,d<b)(hk:k<=l.length):val b (l.take k)<b^k:=by have:=GU (b:=b) (l:=l.take k) fun d hd=>g d (wB hd);rwa [iX,rj hk]at this
def Yv5{c U' v2 V':Nat}(hP:0<P)(EK:V'<P)(kK:v2<b)(hd:v1<=d)(hW:U'+P*(a+b*(d*b+c))<b*(V'+P*(v2+b*v1))):d=v1:=by
 apply Nat.le_antisymm _ hd;apply zB;intro aC;have h1:b*(P*(b*(v1+1)))<=b*(P*(b*d)):=mM _ (mM _ (mM _ aC));have h2:V'+P*(v2+b*v1)<P*(b*(v1+1)):=by have:P*(v2+1)<=P*b:=mM _ kK;grind
 have h3:b*(V'+P*(v2+b*v1))<=b*(P*(b*(v1+1))):=mM _ (Nat.le_of_lt h2);have h4:b*(P*(b*d))<=U'+P*(a+b*(d*b+c)):=by
  have:P*(b*(d*b))=b*(P*(b*d)):=by grind
  have:P*(b*(d*b))<=P*(a+b*(d*b+c)):=mM _ (by rw[uI];omega);omega
 omega
def Yv6{U' u2 u1 v2 V' q r:Nat}(hU:U'<P)(fZ:u2<b)(hinv:u1=q*v1+r)(hr:r<v1):U'+P*(u2+b*u1)<(q+1)*(V'+P*(v2+b*v1)):=by
 have h1:u1+1<=(q+1)*v1:=by rw[hinv,ji];omega
 have h2:P*(b*(u1+1))<=P*(b*((q+1)*v1)):=mM _ (mM _ h1);have h3:P*(u2+1)<=P*b:=mM _ fZ;have h4:P*(b*((q+1)*v1))<=(q+1)*(V'+P*(v2+b*v1)):=by
  have:(q+1)*(V'+P*(v2+b*v1))=(q+1)*V'+P*((q+1)*v2)+P*(b*((q+1)*v1)):=by grind
  omega
 have h5:U'+P*(u2+b*u1)+P<=U'+P*(b*(u1+1)):=by grind
 omega
def xn(q v c:Nat):Nat:=bA (bA (q*v)+c)
def pG(q v c:Nat):Nat:=cN (cy (q*v)) (cy (bA (q*v)+c))
def Yq6{q v c w:Nat}(hq:q<B)(hv:v<B)(hc:c<B)(hu:u<B)(hw:w<=1):
  eJ u (xn q v c) w+q*v+c+w=u+B*(pG q v c+gh u (xn q v c) w)/\eJ u (xn q v c) w<B/\pG q v c<B/\gh u (xn q v c) w<=1/\xn q v c<B:=by
 have:q*v<=18446744073709551615*18446744073709551615:=nC (by unfold B at*;omega) (by unfold B at*;omega);unfold pG xn;have h1:bA (bA (q*v)+c)+B*cN (cy (q*v)) (cy (bA (q*v)+c))=q*v+c/\cN (cy (q*v)) (cy (bA (q*v)+c))<B/\bA (bA (q*v)+c)<B:=by unfold bA cy cN;unfold B at*;generalize q*v=p at*;omega
 obtain⟨h1,h2,h3⟩:=h1;generalize bA (bA (q*v)+c)=l at*;generalize cN (cy (q*v)) (cy (bA (q*v)+c))=k at*;have h4:eJ u l w+l+w=u+B*gh u l w/\eJ u l w<B/\gh u l w<=1:=by unfold eJ gh;unfold B at*;split<;>omega
 obtain⟨h4,h5,h6⟩:=h4;refine⟨?_,h5,h2,h6,h3⟩;rw[uI];omega
def Yp6{l w:Nat}(hl:l<B)(hu:u<B)(hw:w<=1):eJ u l w+l+w=u+B*gh u l w/\eJ u l w<B/\gh u l w<=1:=by unfold eJ gh;unfold B at*;split<;>omega
def Yi3{v c:Nat}(hv:v<B)(hu:u<B)(hc:c<=1):bA (u+v+c)+B*cy (u+v+c)=u+v+c/\bA (u+v+c)<B/\cy (u+v+c)<=1:=by unfold bA cy;unfold B at*;omega
def OO{b:Nat}:∀{l:List Nat} {k old v:Nat},l[k]?=some old->val b (l.set k v)+b^k*old=val b l+b^k*v
 |[],k,old,v,h=>by simp at h
 |d::l,0,old,v,h=>by simp at h;subst h;simp[val];omega
 |d::l,k+1,old,v,h=>by
  have ih:=OO (b:=b) (l:=l) (k:=k) (old:=old) (v:=v) (by simpa using h)
  simp only[List.set_cons_succ,val,ix]
  generalize val b (l.set k v)=p at*
  generalize val b l=q at*
  generalize b^k=z at*
  have:b*(p+z*old)=b*(q+z*v):=by rw[ih]
  grind
def Dg.uR(h:Dg l){k v:Nat}(hv:v<B):Dg (l.set k v):=by
 intro d hd;rcases CB hd with hd|hd
 ·exact h d hd
 subst hd;exact hv
def Yvs{W q U t c t' e:Nat}(hb:1<b)(hP:0<P)(hY:Y<P)(hU:U<P)(ht:t'<b)(he:e<=1)(h1:U+q*Y=W+P*c)(h2:t'+c=t+b*e)(gT:(q-1)*Y<=W+P*t)(iS:W+P*t<(q+1)*Y):
  (e=0->U+P*t'+q*Y=W+P*t/\U+P*t'<Y/\t'=0)/\(e=1->0<q/\U+P*t'+q*Y=W+P*t+P*b/\W+P*t<q*Y):=by
 have h3:P*t'+P*c=P*t+P*(b*e):=by rw[<-uI,h2,uI]
 constructor
 ·rintro rfl;simp only[Nat.mul_zero,gE]at h3;have h4:U+P*t'+q*Y=W+P*t:=by omega
  have h5:U+P*t'<Y:=by rw[ji]at iS;omega
  refine⟨h4,h5,?_⟩;rcases El t' with h|h
  ·exact h
  have:=mM P h;omega
 rintro rfl;simp only[yy]at h3;have h4:U+P*t'+q*Y=W+P*t+P*b:=by omega
 have h5:P*(t'+1)<=P*b:=mM _ ht;rw[uI]at h5;have h6:W+P*t<q*Y:=by omega
 refine⟨?_,h4,h6⟩;rcases El q with h|h
 ·subst h;omega
 exact h
def Yrt{q U t' T A c:Nat}(hP:0<P)(hY:Y<P)(hA:A<P)(hc:c<=1)(ht:t'<b)(hq:0<q)(h1:U+P*t'+q*Y=T+P*b)(h2:T<q*Y)(gT:(q-1)*Y<=T)(h3:A+P*c=U+Y):
  A+(q-1)*Y=T/\A<Y/\(t'+c)%b=0:=by
 obtain⟨s,rfl⟩:∃s,q=s+1:=⟨q-1,by omega⟩;simp only[Nat.add_sub_cancel]at*;rw[ji]at h1 h2;have h4:A+P*(t'+c)+s*Y=T+P*b:=by rw[uI];omega
 have h5:t'+c=b:=by
  rcases Nat.lt_trichotomy (t'+c) b with h|h|h
  ·have:=mM P (show t'+c+1<=b from h);rw[uI P (t'+c)]at this;omega
  ·exact h
  omega
 rw[h5]at h4;refine⟨by omega,by omega,?_⟩;rw[h5,Nat.mod_self]
def OP:∀{k n:Nat},B^k<=n->n<B^(k+1)->(aH n).length=k+1/\(aH n)[k]?=some (n/B^k)
 |0,n,h1,h2=>by
  have h0:n≠0:=by
   rw[Gp]at h1;omega
  rw[og h0]
  have h3:n/B=0:=Bt (by simpa using h2)
  rw[h3,sV]
  simp
  exact zC (by simpa using h2)
 |k+1,n,h1,h2=>by
  have hB:0<B:=by decide
  have hp:0<B^(k+1):=Bu hB
  have h0:n≠0:=by omega
  have h3:B^k<=n/B:=(LK hB).2 (by rw[<-ix];exact h1)
  have h4:n/B<B^(k+1):=(rk hB).2 (by rw[<-ix];exact h2)
  obtain⟨e1,e2⟩:=OP h3 h4
  rw[og h0]
  refine⟨by simp[e1],?_⟩
  rw[Gm,e2,IZ,ix,jO (B^k)]
def Ynq{n:Nat}(h:(aH n).length≠0):n≠0:=by rintro rfl;exact h (by rw[sV];rfl)
def JH:∀{k n:Nat},(aH n).length=k+1->B^k<=n/\n<B^(k+1)
 |0,n,h=>by
  have h0:=Ynq (n:=n) (by omega)
  rw[og h0]at h
  have h1:(aH (n/B)).length=0:=by simpa using h
  have h2:n/B=0:=by
   by_cases hc:n/B=0
   ·exact hc
   ·rw[og hc]at h1;simp at h1
  have:=(Nat.div_eq_zero_iff).1 h2
  rcases this with hb|hb
  ·exact absurd hb (by decide)
  ·simp;omega
 |k+1,n,h=>by
  have h0:=Ynq (n:=n) (by omega)
  rw[og h0]at h
  obtain⟨h1,h2⟩:=JH (k:=k) (n:=n/B) (by simpa using h)
  have hB:0<B:=by decide
  exact⟨by rw[ix];exact(LK hB).1 h1,by rw[ix];exact(rk hB).1 h2⟩
def Yje{t s:Nat}(hl:(aH b).length=k+1)(ht:(aH b)[k]?=some t)(h1:9223372036854775808<=t*2^s)(h2:t*2^s<18446744073709551616)(hs:s<=64):
  (aH (b*2^s)).length=k+1/\∃v1,(aH (b*2^s))[k]?=some v1/\9223372036854775808<=v1:=by
 obtain⟨b1,b2⟩:=JH hl;have hp:0<B^k:=Bu (by decide);have rU:=rV s;have htd:t=b/B^k:=by have:=(OP b1 b2).2;rw[ht]at this;exact mC this
 have b3:t*B^k<=b:=by rw[htd];exact Nat.div_mul_le_self _ _
 have b4:b<(t+1)*B^k:=by rw[htd];exact(rk hp).1 (wO _)
 have c1:9223372036854775808*B^k<=b*2^s:=by
  have e1:=nf (B^k) h1;have e2:=nf (2^s) b3;have e3:t*2^s*B^k=t*B^k*2^s:=by grind
  omega
 have c2:b*2^s<B^(k+1):=by
  have e0:t+1<=2^(64-s):=by
   have:t<2^(64-s):=by apply Nat.lt_of_mul_lt_mul_right (a:=2^s);rw[<-mr,show 64-s+s=64 by omega];exact h2
   omega
  have e1:=nf (2^s) e0;rw[<-mr,show 64-s+s=64 by omega]at e1;have e2:=K7 b4 rU;have e3:=nf (B^k) e1;have e4:(t+1)*2^s*B^k=(t+1)*B^k*2^s:=by grind
  rw[ix,jO];have e5:(2^64:Nat)*B^k=B^k*B:=by unfold B;rw[jO]
  rw[jO b]at e2;omega
 have c0:B^k<=b*2^s:=by omega
 obtain⟨d1,d2⟩:=OP c0 c2;exact⟨d1,_,d2,(LK hp).2 c1⟩
def Yd8{U:List Nat}{la m s:Nat}(hU:val B U=a*2^s)(hl:U.length=la+1)(hm:m+k+1=la+1)(tW:m<=U.length)(ha:a<B^la)(hs:s<64)(hv:9223372036854775808<=v1)(hY:v1*B^k<=Y):val B (U.drop m)<Y:=by
 have h1:=GS B U m tW;have h2:B^m*val B (U.drop m)<B^la*2^s:=by have:=K7 ha (rV s);omega
 have h3:(2:Nat)^s<=9223372036854775808:=(qW (by decide) (show s<=63 by omega):(2:Nat)^s<=2^63);have h4:B^la=B^m*B^k:=by rw[<-mr];congr 1;omega
 rw[h4,Gu]at h2;have h5:=Nat.lt_of_mul_lt_mul_left h2;have h6:=mM (B^k) h3;have h7:=mM (B^k) hv;rw[jO v1]at hY;omega
open Go Go.Proofs
variable {N i iu j k n n2 v1:Nat} {U Y l o:List Nat} {cp:Option Nat} {h:T O} {r0:T V} {v:V}
set_option maxHeartbeats 4000000
set_option maxRecDepth 1000000
def A.BQ:=A.q Tryz.f239
def A.kQ:=A.ql A.BQ 2 []
def A.kV:=A.ql A.BQ 1 []
def A.kW:=A.ql A.BQ 0 []
def A.oh:=(fun x0 x1 x2=>A.qt A.BQ [x0,x1,x2] [] [1,1,1,1,1]) A.kW A.kV A.kQ
def A.b239:=(fun x0 x1 x2 y0=>A.qt A.BQ [x0,x1,x2] [([1,1,1,1,1],y0)] []) A.kW A.kV A.kQ A.oh
def A.k239:=@A.kk 239 186 [.tmp 4] A.b239 (by kernel_rfl) rfl
def Yfu:wG i l≠[]:=by
 unfold wG;split
 ·rintro rfl;simp_all
 simp
def Zkg{w:List Nat}(h:ay n (i::w)=[]):¬i<n/\ay n w=[]:=by
 simp only[ay]at h;split at h
 ·exact absurd h Yfu
 rename_i hi;exact⟨hi,h⟩
def OQ{n:Nat}:∀{w u:List Nat},ay n w=[]->ay n (w++u)=ay n u
 |[],u,_=>rfl
 |i::w,u,h=>by
  obtain⟨hi,hw⟩:=Zkg h
  simp only[Er,ay,hi,if_false]
  exact OQ hw
def Mj{n N:Nat}(hn:n<=N):∀{w:List Nat},ay N w=[]->ay n w=[]
 |[],_=>rfl
 |i::w,h=>by
  obtain⟨hi,hw⟩:=Zkg h
  simp only[ay,show ¬i<n by omega,if_false]
  exact Mj hn hw
def Zwu(hi:¬i<n)(h:ay n l=[]):ay n (wG i l)=[]:=by
 unfold wG;split
 ·exact h
 simp only[ay,hi,if_false];exact h
def OR{n N:Nat}:∀{w:List Nat},ay n w=[]->ay n (ay N w)=[]
 |[],_=>rfl
 |i::w,h=>by
  obtain⟨hi,hw⟩:=Zkg h
  have:=OR (N:=N) hw
  simp only[ay]
  split
  ·exact Zwu hi this
  ·exact this
def Yax{r v:Nat}(hr:r<B)(hv:v<B):bA (r+v)+B*cy (r+v)=r+v/\bA (r+v)<B/\cy (r+v)<=1:=by have:=Yi3 (c:=0) hv hr (by omega);simpa using this
def GuI(h:T O)(N u1 v1 W Z m:Nat)(r:T V)(st:St):Prop:=st=⟨h,N,[]⟩/\∃rr ov:Nat,r.get 6=some (.int .u64 m)/\r.get 7=some (.int .u64 rr)/\r.get 8=some (.int .u64 ov)/\ov<=1/\rr<B/\m<B/\u1=m*v1+(rr+B*ov)/\W<(m+1)*Z
structure T1 (h:T O) (N n2 iu j q:Nat) (U Y:List Nat) (m:Nat) (r:T V) (st:St):Prop where
 n:st.n=N
 w:ay n2 st.w=[]
 old:∀t,t≠iu->st.h.get t=h.get t
 ex:∃(i bw c:Nat) (o:List Nat),i+m=Y.length/\r.get 105=some (.int .i64 i)/\r.get 11=some (.int .u64 bw)/\r.get 12=some (.int .u64 c)/\st.h.get iu=some (.cells (dg o) 205 true)/\o.length=U.length/\Dg o/\(∀t,(t<j\/j+i<=t)->o[t]?=U[t]?)/\bw<=1/\c<B/\val B (o.drop j)+q*val B (Y.take i)=val B (U.drop j)+B^i*(c+bw)
structure T2 (h:T O) (N n2 iu j:Nat) (U Y:List Nat) (m:Nat) (r:T V) (st:St):Prop where
 n:st.n=N
 w:ay n2 st.w=[]
 old:∀t,t≠iu->st.h.get t=h.get t
 ex:∃(i c:Nat) (o:List Nat),i+m=Y.length/\r.get 157=some (.int .i64 i)/\r.get 17=some (.int .u64 c)/\st.h.get iu=some (.cells (dg o) 205 true)/\o.length=U.length/\Dg o/\(∀t,(t<j\/j+i<=t)->o[t]?=U[t]?)/\c<=1/\val B (o.drop j)+B^i*c=val B (U.drop j)+val B (Y.take i)
structure JI (h:T O) (N n2 iu j k:Nat) (U Y:List Nat) (w:List Nat) (x:V) (st:St):Prop where
 n:st.n=N
 w:ay n2 st.w=ay n2 w
 old:∀t,t≠iu->st.h.get t=h.get t
 ex:∃(q:Nat) (o:List Nat),x=.int .u64 q/\q<B/\st.h.get iu=some (.cells (dg o) 205 true)/\o.length=U.length/\Dg o/\(∀t,t<j->o[t]?=U[t]?)/\(∀t,j+k+2<=t->t<o.length->o[t]?=some 0)/\val B (o.drop j)+q*val B Y=val B (U.drop j)/\val B (o.drop j)<val B Y
def Yq7{h:T O}{N n2 iu j q:Nat}{U Y:List Nat}{v:V}{cp:Option Nat}{r0:T V}(hv:Sl h n2 v (dg Y))(dY:Dg Y)(h2:n2<=iu)(hj:j+Y.length<U.length)(hl:U.length<1099511627776)(hq:q<B)
  (a0:r0.get 0=some (.slice iu j (Y.length+1) cp 1)) (a1:r0.get 1=some v) (a6:r0.get 6=some (.int .u64 q)) (OS:r0.get 104=some (.int .i64 Y.length)):
  ∀k r st,(∀t,kX [(11,16),(105,139)] t=false->r.get t=r0.get t)->Fx [(11,16),(105,139)] r0 186 ⟨r,186,[]⟩->T1 h N n2 iu j q U Y k r st->Code A.C none A.kV ⟨r,186,[]⟩ st (Rd [(11,16),(105,139)] r0 186 (T1 h N n2 iu j q U Y) k (fun e r st=>e=.exit 2/\T1 h N n2 iu j q U Y 0 r st)):=by
 rintro m r ⟨H,n1,W⟩ hr hf ⟨hn,hW,hO,i,bw,c,o,hi,BR,mB,T3,az,ho,hd,hs,hb,hc,he⟩;simp only at hn hW hO az;subst hn;have lv:=hv.len;rw[bq]at lv;rw[bu];cases m with
 |zero=>
  have:i=Y.length:=by omega
  subst this;simp[A.kV,hr,hf,OS,BR];exact⟨rfl,hW,hO,Y.length,bw,c,o,by omega,by simp[BR],by simp[mB],by simp[T3],az,ho,hd,hs,hb,hc,he⟩
 |succ m=>
  have aC:i<Y.length:=by omega
  have gy:=bV aC;generalize Y[i]=y at*;have hy:y<B:=dY.get gy;obtain⟨i2,o2,c2,e2,w2,p1,p2,p3,p4⟩:=hv.at (f_ gy);have aW:i2≠iu:=by omega
  have p3:=(hO i2 aW).trans p3;have go:o[j+i]?=some (o[j+i]'(by omega)):=bV (by omega);generalize o[j+i]'(by omega)=u at*;have hu:u<B:=hd.get go;obtain⟨s1,s2,s3,s4,s5⟩:=Yq6 hq hy hc hu hb;have BS:i<Y.length+1:=by omega
  simp[A.kV,hr,OS,BR,aC,a6,a1,lv,p1,p3,p4];refine av (OT hq hy) ?_;rintro _ H n1 ER ⟨rfl,rfl,rfl⟩;have q1:bA (bA (q*y)+c)=xn q y c:=rfl;have q2:cN (cy (q*y)) (cy (bA (q*y)+c))=pG q y c:=rfl;have hbi:(bw:Int)=0\/(bw:Int)=1:=by omega
  simp(disch:=first|(simp;done)|omega|(simp only[bq,b_,bk];omega)|rfl) [-getElem?_pos,hr,hf,BR,BS,a0,mB,T3,az,f_ go,qL,q1,q2,hbi];have xr:¬iu<n2:=by omega
  refine⟨m,by omega,rfl,by simp[ay,hW,xr],fun t ht=>by rw[T.ae,ak ht];exact hO t ht,i+1,gh u (xn q y c) bw,pG q y c,o.set (j+i) (eJ u (xn q y c) bw),by omega,by simp,by simp,by simp,by simp,by simp[ho],hd.uR s2,?_,s4,s3,?_⟩
  ·intro t ht;rw[eX (by omega)];exact hs t (by omega)
  have go2:(o.drop j)[i]?=some u:=by rw[fF];exact go
  have v1:=OO (b:=B) (v:=eJ u (xn q y c) bw) go2;rw[List.drop_set,ak (by omega),show j+i-j=i by omega,GV gy];have e1:B^i*(eJ u (xn q y c) bw+q*y+c+bw)=B^i*(u+B*(pG q y c+gh u (xn q y c) bw)):=by rw[s1]
  rw[ix];generalize val B ((o.drop j).set i (eJ u (xn q y c) bw))=z1 at*;generalize val B (o.drop j)=z2 at*;generalize val B (U.drop j)=z3 at*;generalize val B (List.take i Y)=z4 at*;generalize eJ u (xn q y c) bw=z5 at*;generalize pG q y c=z6 at*;generalize gh u (xn q y c) bw=z7 at*;generalize B^i=z8 at*;clear s1 gy hy go go2 hu hs hd;grind
def Ytz{h:T O}{N n2 iu j:Nat}{U Y:List Nat}{v:V}{cp:Option Nat}{r0:T V}(hv:Sl h n2 v (dg Y))(dY:Dg Y)(h2:n2<=iu)(hN:iu<N)(hj:j+Y.length<U.length)(hl:U.length<1099511627776)
  (a0:r0.get 0=some (.slice iu j (Y.length+1) cp 1)) (a1:r0.get 1=some v) (OU:r0.get 156=some (.int .i64 Y.length)):
  ∀k r st,(∀t,kX [(17,18),(157,176)] t=false->r.get t=r0.get t)->Fx [(17,18),(157,176)] r0 186 ⟨r,186,[]⟩->T2 h N n2 iu j U Y k r st->Code A.C none A.kQ ⟨r,186,[]⟩ st (Rd [(17,18),(157,176)] r0 186 (T2 h N n2 iu j U Y) k (fun e r st=>e=.exit 4/\T2 h N n2 iu j U Y 0 r st)):=by
 rintro m r ⟨H,n1,W⟩ hr hf ⟨hn,hW,hO,i,c,o,hi,BT,At,az,ho,hd,hs,hc,he⟩;simp only at hn hW hO az;subst hn;have lv:=hv.len;rw[bq]at lv;rw[bu];cases m with
 |zero=>
  have:i=Y.length:=by omega
  subst this;simp[A.kQ,hr,hf,OU,BT];exact⟨rfl,hW,hO,Y.length,c,o,by omega,by simp[BT],by simp[At],az,ho,hd,hs,hc,he⟩
 |succ m=>
  have aC:i<Y.length:=by omega
  have gy:=bV aC;generalize Y[i]=y at*;have hy:y<B:=dY.get gy;obtain⟨i2,o2,c2,e2,w2,p1,p2,p3,p4⟩:=hv.at (f_ gy);have aW:i2≠iu:=by omega
  have p3:=(hO i2 aW).trans p3;have go:o[j+i]?=some (o[j+i]'(by omega)):=bV (by omega);generalize o[j+i]'(by omega)=u at*;have hu:u<B:=hd.get go;obtain⟨s1,s2,s3⟩:=Yi3 hy hu hc;have BS:i<Y.length+1:=by omega
  have Jy:(c:Int)=0\/(c:Int)=1:=by omega
  have xr:¬iu<n2:=by omega
  have hiN:i2<n1:=by omega
  have mS:¬iu=i2:=fun hc=>aW hc.symm;simp(disch:=first|(simp;done)|omega|(simp only[bq,b_,bk];omega)|rfl) [-getElem?_pos,A.kQ,hr,hf,OU,BT,aC,BS,hN,hiN,aW,mS,cQ.cU,a0,a1,lv,p1,p3,p4,az,f_ go,qL,At,Jy];rw[vE (by simp[hN,mS])];simp(disch:=first|(simp;done)|omega|(simp only[bq,b_,bk];omega)|rfl) [hr,hf,BT];refine⟨m,by omega,rfl,by simp[ay,hW,xr],fun t ht=>by rw[T.ae,ak ht];exact hO t ht,i+1,cy (u+y+c),o.set (j+i) (bA (u+y+c)),by omega,by simp,by simp,by simp,by simp[ho],hd.uR s2,?_,s3,?_⟩
  ·intro t ht;rw[eX (by omega)];exact hs t (by omega)
  have go2:(o.drop j)[i]?=some u:=by rw[fF];exact go
  have v1:=OO (b:=B) (v:=bA (u+y+c)) go2;rw[List.drop_set,ak (by omega),show j+i-j=i by omega,GV gy];have e1:B^i*(bA (u+y+c)+B*cy (u+y+c))=B^i*(u+y+c):=by rw[s1]
  rw[ix];generalize val B ((o.drop j).set i (bA (u+y+c)))=z1 at*;generalize val B (o.drop j)=z2 at*;generalize val B (U.drop j)=z3 at*;generalize val B (List.take i Y)=z4 at*;generalize bA (u+y+c)=z5 at*;generalize cy (u+y+c)=z6 at*;generalize B^i=z8 at*;clear s1 gy hy go go2 hu hs hd;grind
def Yr8{u2 u1 v2 U' V' P:Nat}{e0:TypeId}{AU:Bool}(hv:Sl h n2 v (dg Y))(hY:Y.length=k+2)(dY:Dg Y)(hl:U.length<1099511627776)(qU:j+k+2<U.length)(hU:h.get iu=some (.cells (dg U) e0 AU))(dU:Dg U)
  (f2:Y[k]?=some v2) (f1:Y[k+1]?=some v1) (g2:U[j+k]?=some u2) (pC:0<v1) (hP:0<P) (EJ:U'<P) (EK:V'<P)
  (a0:r0.get 0=some (.slice iu j (k+3) cp 1)) (a1:r0.get 1=some v) (a5:r0.get 5=some (.int .i64 ((k:Int)+2))):
  ∀m r st,(∀t,kX [(6,10),(63,103)] t=false->r.get t=r0.get t)->Fx [(6,10),(63,103)] r0 186 ⟨r,186,[]⟩->GuI h N u1 v1 (U'+P*(u2+B*u1)) (V'+P*(v2+B*v1)) m r st->Code A.C none A.kW ⟨r,186,[]⟩ st (Rd [(6,10),(63,103)] r0 186 (GuI h N u1 v1 (U'+P*(u2+B*u1)) (V'+P*(v2+B*v1))) m (fun e r st=>e=.exit 0/\st=⟨h,N,[]⟩/\∃q:Nat,r.get 6=some (.int .u64 q)/\q<B/\(q-1)*(V'+P*(v2+B*v1))<=U'+P*(u2+B*u1)/\U'+P*(u2+B*u1)<(q+1)*(V'+P*(v2+B*v1)))):=by
 rintro m r _ hr hf ⟨rfl,rr,ov,h6,h7,h8,hov,ES,hm,hinv,iS⟩;have lv:=hv.len;rw[bq]at lv;rw[bu];have kK:v2<B:=dY.get f2;have ET:v1<B:=dY.get f1;have fZ:u2<B:=dU.get g2;have fin:m*v2<=(rr+B*ov)*B+u2->(m-1)*(V'+P*(v2+B*v1))<=U'+P*(u2+B*u1):=by
  intro hc;cases m with
  |zero=>simp
  |succ s=>exact Yrz pC EK (by omega) hinv hc
 by_cases h0:ov=0
 ·subst h0;simp only[Nat.mul_zero,gE]at hinv fin;obtain⟨i2,o2,c2,e2,w2,p1,p2,p3,p4⟩:=hv.at (f_ f2);have cI:((k:Int)+2-2)=(k:Int):=by omega
  have tW:(k:Int)<((k+2:Nat):Int):=by omega
  have OV:(k:Int)<((k+3:Nat):Int):=by omega
  rw[hY]at lv;simp(disch:=first|(simp;done)|omega|(simp only[bq,b_,bk];omega)|rfl) [A.kW,hr,hf,h6,h7,h8,a0,a1,a5,lv,p1,p3,p4,bh,cI,tW];refine av (OT hm kK) ?_;rintro _ h N ER ⟨rfl,rfl,rfl⟩;have hp:bA (m*v2)+B*cy (m*v2)=m*v2:=by have:=vM (m*v2) B;unfold bA cy;unfold B at*;omega
  have jA:bA (m*v2)<B:=Ygr;obtain⟨i1,o1,c1,e1,w1,q1,q2,q3,q4⟩:=hv.at (f_ f1);obtain⟨hi,BU⟩:∃x,cy (m*v2)=x:=⟨_,rfl⟩;obtain⟨lo,uS⟩:∃x,bA (m*v2)=x:=⟨_,rfl⟩;rw[BU,uS]at hp;rw[uS]at jA;by_cases c1:hi<rr
  ·have:=fin (by have:=mM B c1;rw[jO rr B];rw[Nat.succ_eq_add_one,uI]at this;omega);simp[hf,h6,h7,BU,uS,c1];exact⟨hm,this,iS⟩
  have dec:rr*B+u2<m*v2->0<m/\u1=(m-1)*v1+(rr+v1)/\U'+P*(u2+B*u1)<(m-1+1)*(V'+P*(v2+B*v1)):=by
   intro hc;have h3:=Yry EJ hinv hc (b:=B) (P:=P) (V':=V');cases m with
   |zero=>omega
   |succ s=> refine⟨by omega,?_,by simpa using h3⟩;rw[hinv,ji];simp;omega
  obtain⟨s1,s2,s3⟩:=Yax ES ET;have kc:((k:Int)+2-1)=(k:Int)+1:=by omega
  have OW:(k:Int)+1<((k+2:Nat):Int):=by omega
  have sbm:0<m->gU m 1=m-1:=fun hc=>GW hc (by unfold B at hm;omega);by_cases c2:hi=rr
  ·by_cases c3:lo<=u2
   ·have:=fin (by rw[<-hp,c2,jO rr B];omega);simp(disch:=first|(simp;done)|omega|(simp only[bq,b_,bk];omega)|rfl) [-getElem?_pos,hr,hf,h6,h7,h8,BU,uS,c1,c2,c3,bh,a0,a5,cI,OV,hU,f_ g2];exact⟨hm,this,iS⟩
   obtain⟨d1,d2,d3⟩:=dec (by rw[<-hp,c2,jO rr B];omega);have sb:=sbm d1;simp(disch:=first|(simp;done)|omega|(simp only[bq,b_,bk];omega)|rfl) [-getElem?_pos,hr,hf,h6,h7,h8,BU,uS,c1,c2,c3,bh,a0,a1,a5,cI,kc,OV,hU,f_ g2,lv,q1,q3,q4,OW,sb];exact⟨m-1,by omega,rfl,bA (rr+v1),cy (rr+v1),by simp,by simp,by simp,s3,s2,by omega,by rw[s1];exact d2,d3⟩
  obtain⟨d1,d2,d3⟩:=dec (by
   have:rr+1<=hi:=by omega
   have:=mM B this
   rw[uI]at this
   rw[<-hp,jO rr B];omega);have sb:=sbm d1;simp(disch:=first|(simp;done)|omega|(simp only[bq,b_,bk];omega)|rfl) [hr,hf,h6,h7,h8,BU,uS,c1,c2,bh,a0,a1,a5,cI,kc,lv,q1,q3,q4,OW,sb];exact⟨m-1,by omega,rfl,bA (rr+v1),cy (rr+v1),by simp,by simp,by simp,s3,s2,by omega,by rw[s1];exact d2,d3⟩
 have:ov=1:=by omega
 subst this;have:=fin (by have h1:m*v2<=B*B:=nC (by omega) (by omega);rw[yy,ji];omega);simp[A.kW,hf,h8];exact⟨m,by simp[h6],hm,this,iS⟩
def Zwe(hl:o.length=U.length)(hj:j+n<=U.length):val B (o.drop j)=val B ((o.drop j).take n)+B^n*val B (o.drop (j+n)):=by have:=GS B (o.drop j) n (by rw[zk];omega);rw[List.drop_drop]at this;exact this
def Zz9{p:Nat}(hl:o.length=U.length)(hs:∀t,p<=t->o[t]?=U[t]?):o.drop p=U.drop p:=by apply ph;intro t;rw[fF,fF];exact hs _ (by omega)
def Yev(hd:Dg o)(hl:o.length=U.length)(hj:j+n<=U.length):val B ((o.drop j).take n)<B^n:=by
 apply Zof
 ·intro d h;exact hd d (Ol h)
 rw[zk];omega
def Yd7{p d:Nat}(hd:o[p]?=some d)(hz:∀t,p+1<=t->t<o.length->o[t]?=some 0):val B (o.drop p)=d:=by rw[Dp hd,Zhc hz];omega
def Ysr(h:k<l.length):ag (dg l) k [.int .u64 0]=dg (l.set k 0):=qL (v:=0) h
def Yee{d u2 u1 v2 U' V' q0 Mk T4:Nat}(hv:Sl h n2 v (dg Y))(hY:Y.length=k+2)(dY:Dg Y)(h2:n2<=iu)(hN:iu<N)(hl:U.length<1099511627776)(qU:j+k+2<U.length)(hU:h.get iu=some (.cells (dg U) 205 true))(dU:Dg U)
  (f2:Y[k]?=some v2) (f1:Y[k+1]?=some v1) (g2:U[j+k]?=some u2) (gd:U[j+k+2]?=some d) (hz:∀t,j+k+3<=t->t<U.length->U[t]?=some 0) (pC:0<v1) (EJ:U'<B^k) (EK:V'<B^k) (eU:val B (U.drop j)=U'+B^k*(u2+B*u1)) (eV:val B Y=V'+B^k*(v2+B*v1))
  (a0:r0.get 0=some (.slice iu j (k+3) cp 1)) (a1:r0.get 1=some v) (a5:r0.get 5=some (.int .i64 ((k:Int)+2))) (a6:r0.get 6=some (.int .u64 q0)) (a7:r0.get 7=some (.int .u64 Mk)) (a8:r0.get 8=some (.int .u64 T4))
  (b1:T4<=1) (b2:Mk<B) (b3:q0<B) (b4:u1=q0*v1+(Mk+B*T4)) (b5:U'+B^k*(u2+B*u1)<(q0+1)*(V'+B^k*(v2+B*v1))):
  Code A.C none A.oh ⟨r0,186,[]⟩ ⟨h,N,[]⟩ (fun e fr st=>e=.ret/\∃r x,fr=⟨r,186,[]⟩/\r.get 4=some x/\JI h N n2 iu j k U Y [] x st):=by
 have hP:0<B^k:=Bu (by decide);rw[bu];simp[A.oh];refine cm [(6,10),(63,103)] _ (GuI h N u1 v1 (U'+B^k*(u2+B*u1)) (V'+B^k*(v2+B*v1))) q0 ?_ (Yr8 hv hY dY hl qU hU dU f2 f1 g2 pC hP EJ EK a0 a1 a5) ?_
 ·exact⟨rfl,Mk,T4,a6,a7,a8,b1,b2,b3,b4,b5⟩
 rintro e r _ hr ⟨rfl,rfl,q,h6,hq,gT,iS⟩;rw[<-eU,<-eV]at gT iS;simp[hr,a5];refine cm [(11,16),(105,139)] _ (T1 h N n2 iu j q U Y) Y.length ?_ (Yq7 hv dY h2 (by omega) hl hq (cp:=cp) (by simp[hr,a0,hY]) (by simp[hr,a1]) (by simp[h6]) (by simp[hY])) ?_
 ·exact⟨rfl,rfl,fun _ _=>rfl,0,0,0,U,by omega,by simp,by simp,by simp,hU,rfl,dU,fun _ _=>rfl,by omega,by decide,by simp[val]⟩
 rintro e r1 ⟨H,n1,W⟩ GX ⟨rfl,hn,hW,hO,i,bw,cc,o,hi,BR,mB,T3,az,ho,hd,hs,hb,hc,he⟩;simp only at hn hW hO az;subst hn;have:i=k+2:=by omega
 subst this;have god:o[j+(k+2)]?=some d:=by rw[hs _ (by omega)];exact gd
 have hdB:d<B:=dU.get gd;obtain⟨s1,s2,s3⟩:=Yp6 hc hdB hb;have hbi:(bw:Int)=0\/(bw:Int)=1:=by omega
 have xr:¬iu<n2:=by omega
 obtain⟨t',OX⟩:∃x,eJ d cc bw=x:=⟨_,rfl⟩;obtain⟨ee,Oz⟩:∃x,gh d cc bw=x:=⟨_,rfl⟩;rw[OX,Oz]at s1;rw[OX]at s2;rw[Oz]at s3;simp(disch:=first|(simp;done)|omega|(simp only[bq,b_,bk];omega)|rfl) [-getElem?_pos,GX,hr,a0,a5,mB,T3,h6,az,f_ god,qL,hbi,OX,Oz,show ((k:Int)+2).toNat=k+2 by omega];have hVP:val B Y<B^(k+2):=by rw[<-hY];exact GU dY
 have hPP:0<B^(k+2):=Bu (by decide);have eo:=Zwe (j:=j) (n:=k+2) ho (by omega);have eu:=Zwe (o:=U) (j:=j) (n:=k+2) rfl (by omega);rw[Zz9 ho (p:=j+(k+2)) (fun t ht=>hs t (by omega))]at eo;have zaf:val B (U.drop (j+(k+2)))=d:=Yd7 gd (fun t h1 h2=>hz t (by omega) h2);rw[zaf]at eo eu;have hSP:=Yev (j:=j) (n:=k+2) hd ho (by omega);have go2:(o.drop j)[k+2]?=some d:=by rw[fF];exact god
 have vs:=OO (b:=B) (v:=t') go2;rw[gp (by omega)]at he;generalize val B ((o.drop j).take (k+2))=S at*;generalize val B ((U.drop j).take (k+2))=W0 at*;have h1:S+q*val B Y=W0+B^(k+2)*(cc+bw):=by rw[eo,eu]at he;omega
 have kt:=Yvs (by decide) hPP hVP hSP s2 s3 h1 (by omega:t'+(cc+bw)=d+B*ee) (by rw[<-eu];exact gT) (by rw[<-eu];exact iS);have OY:(o.set (j+(k+2)) t').drop j=(o.drop j).set (k+2) t':=by rw[List.drop_set,ak (by omega),show j+(k+2)-j=k+2 by omega]
 have vo2:val B ((o.set (j+(k+2)) t').drop j)=S+B^(k+2)*t':=by rw[OY];omega
 have dX:=hd.uR (k:=j+(k+2)) s2;have gS:ay n2 (iu::W)=[]:=by simp[ay,hW,xr]
 by_cases OZ:ee=0
 ·obtain⟨t1,t2,t3⟩:=kt.1 OZ;subst t3;simp(disch:=first|(simp;done)|omega|(simp only[bq,b_,bk];omega)|rfl) [-getElem?_pos,GX,hr,h6,OZ];refine JI.mk rfl gS (fun t ht=>by rw[T.ae,ak ht];exact hO t ht) ⟨q,o.set (j+(k+2)) 0,rfl,hq,by simp,by simp[ho],dX,?_,?_,?_,?_⟩
  ·intro t ht;rw[eX (by omega)];exact hs t (by omega)
  ·intro t t1 t2;rw[zV]at t2;by_cases htt:t=j+(k+2)
   ·subst htt;rw[mD (by omega)]
   rw[eX (by omega),hs t (by omega)];exact hz t (by omega) (by omega)
  ·rw[vo2,eu];omega
  rw[vo2];omega
 have he1:ee=1:=by omega
 obtain⟨t1,t2,t3⟩:=kt.2 he1;have sb:gU q 1=q-1:=GW t1 (by unfold B at hq;omega);have kK:Sl (H.set iu (.cells (dg (o.set (j+(k+2)) t')) 205 true)) n2 v (dg Y):=hv.ad ⟨aO _,fun i hi=>by rw[T.ae,ak (by omega)];exact hO i (by omega)⟩;simp[GX,hr,a5,OZ];refine cm [(17,18),(157,176)] _ (T2 _ n1 n2 iu j (o.set (j+(k+2)) t') Y) Y.length ?_ (Ytz kK dY h2 hN (by simp;omega) (by simp;omega) (cp:=cp) (by simp[GX,hr,a0,hY]) (by simp[GX,hr,a1]) (by simp[hY])) ?_
 ·exact⟨rfl,gS,fun _ _=>rfl,0,0,o.set (j+(k+2)) t',by omega,by simp,by simp,by simp,rfl,dX,fun _ _=>rfl,by omega,by simp[val]⟩
 rintro e r2 ⟨H3,n3,W3⟩ fi ⟨rfl,Yy,CN,F7,i3,c3,o3,hi3,BT,At,GY,vo,hd3,T5,hc3,he3⟩;simp only at Yy CN F7 GY;subst Yy;have:i3=k+2:=by omega
 subst this;have go3:o3[j+(k+2)]?=some t':=by rw[T5 _ (by omega),mD (by omega)]
 have eo3:=Zwe (j:=j) (n:=k+2) (vo.trans (zV ..)) (by omega);rw[zV]at vo;rw[Zz9 (vo.trans (zV ..).symm) (p:=j+(k+2)) (fun t ht=>T5 t (by omega))]at eo3;have e4:val B ((o.set (j+(k+2)) t').drop (j+(k+2)))=t':=Yd7 (mD (by omega)) (fun t h1 h2=>by rw[zV]at h2;rw[eX (by omega),hs t (by omega)];exact hz t (by omega) (by omega));rw[e4]at eo3;have zag:=Yev (j:=j) (n:=k+2) hd3 vo (by omega);have zah:(o3.drop j)[k+2]?=some t':=by rw[fF];exact go3
 have vs3:=OO (b:=B) (v:=0) zah;rw[gp (by omega),vo2,eo3]at he3;generalize val B ((o3.drop j).take (k+2))=A at*;obtain⟨z1,z2,z3⟩:=Yrt hPP hVP zag hc3 s2 t1 t2 t3 (by rw[<-eu];exact gT) (by omega:A+B^(k+2)*c3=S+val B Y);have z4:cN t' c3=0:=z3;simp(disch:=first|(simp;done)|omega|(simp only[bq,b_,bk];omega)|rfl) [-getElem?_pos,fi,GX,hr,a0,a5,At,h6,GY,f_ go3,qL,Ysr (l:=o3) (k:=j+(k+2)) (by omega),z4,sb,show ((k:Int)+2).toNat=k+2 by omega];have CO:ay n2 (iu::W3)=[]:=by simp[ay,CN,xr]
 refine JI.mk rfl CO (fun t ht=>by rw[T.ae,ak ht,F7 t ht,T.ae,ak ht];exact hO t ht) ⟨q-1,o3.set (j+(k+2)) 0,rfl,by omega,by simp,by simp[vo,ho],hd3.uR (by decide),?_,?_,?_,?_⟩
 ·intro t ht;rw[eX (by omega),T5 t (by omega),eX (by omega)];exact hs t (by omega)
 ·intro t t1 t2;rw[zV]at t2;by_cases htt:t=j+(k+2)
  ·subst htt;rw[mD (by omega)]
  rw[eX (by omega),T5 t (by omega),eX (by omega),hs t (by omega)];exact hz t (by omega) (by omega)
 ·rw[List.drop_set,ak (by omega),show j+(k+2)-j=k+2 by omega,eu];omega
 rw[List.drop_set,ak (by omega),show j+(k+2)-j=k+2 by omega];omega
def Yeg{w:List Nat}(hv:Sl h n2 v (dg Y))(hY:Y.length=k+2)(dY:Dg Y)(h2:n2<=iu)(hN:iu<N)(hl:U.length<1099511627776)(qU:j+k+2<U.length)(hU:h.get iu=some (.cells (dg U) 205 true))(dU:Dg U)
  (f1:Y[k+1]?=some v1) (pC:0<v1) (hz:∀t,j+k+3<=t->t<U.length->U[t]?=some 0) (aC:val B (U.drop j)<B*val B Y):
  Call A.C (.func 239 [] []) [.slice iu j (k+3) cp 1,v] ⟨h,N,w⟩ (JI h N n2 iu j k U Y w):=by
 have lv:=hv.len;rw[bq,hY]at lv;have f2:=bV (l:=Y) (i:=k) (by omega);have g2:=bV (l:=U) (i:=j+k) (by omega);have gc:=bV (l:=U) (i:=j+k+1) (by omega);have gd:=bV (l:=U) (i:=j+k+2) (by omega);generalize Y[k]'(by omega)=v2 at*;generalize U[j+k]'(by omega)=u2 at*;generalize U[j+k+1]'(by omega)=c at*;generalize U[j+k+2]'(by omega)=d at*;have gd':U[j+(k+2)]?=some d:=by rw[<-qe];exact gd
 have gc':U[j+(k+1)]?=some c:=by rw[<-qe];exact gc
 have zai:v2<B:=dY.get f2;have ET:v1<B:=dY.get f1;have zaj:u2<B:=dU.get g2;have hcB:c<B:=dU.get gc;have hP:0<B^k:=Bu (by decide);have eU:=Yjg (b:=B) (w:=U.drop j) (k:=k) (a:=u2) (c:=c) (d:=d) (by rw[fF];exact g2) (by rw[fF];exact gc) (by rw[fF];exact gd) (fun t h1 h2=>by rw[fF];rw[zk]at h2;exact hz _ (by omega) (by omega));have eV:=Yjh (b:=B) f2 f1 hY;have EJ:=Yev (j:=j) (n:=k) dU rfl (by omega);have EK:=Zof (b:=B) (k:=k) dY (by omega);rw[eU,eV]at aC;generalize val B ((U.drop j).take k)=U' at*;generalize val B (Y.take k)=V' at*;obtain⟨i1,o1,c1,e1,w1,q1,q2,q3,q4⟩:=hv.at (f_ f1);have Au:i1<N:=by omega
 have aW:¬i1=iu:=by omega
 have mS:¬iu=i1:=by omega
 have t1:((k:Int)+2-1)=(k:Int)+1:=by omega
 have t2:((k:Int)+2).toNat=k+2:=by omega
 rw[aN,A.k239 (by simp)];have fin:∀(r:T V) (q rr ov:Nat) (K:List Kf) (Q:Rs->Prop),r.get 0=some (.slice iu j (k+3) cp 1)->r.get 1=some v->r.get 5=some (.int .i64 ((k:Int)+2))->r.get 6=some (.int .u64 q)->r.get 7=some (.int .u64 rr)->r.get 8=some (.int .u64 ov)->ov<=1->rr<B->q<B->d*B+c=q*v1+(rr+B*ov)->U'+B^k*(u2+B*(d*B+c))<(q+1)*(V'+B^k*(v2+B*v1))->(∀r x st,r.get 4=some x->JI h N n2 iu j k U Y [] x st->bD A.C K (some (.ex .ret ⟨r,186,[]⟩ st)) Q)->bD A.C K (ff (A.C.code none A.oh ⟨r,186,[]⟩ ⟨h,N,[]⟩)) Q:=by intro r q rr ov K Q a0 a1 a5 a6 a7 a8 b1 b2 b3 b4 b5 hq;refine mJ (Yee hv hY dY h2 hN hl qU hU dU f2 f1 g2 gd hz pC EJ EK eU eV a0 a1 a5 a6 a7 a8 b1 b2 b3 b4 b5) ?_;rintro e fr st ⟨rfl,r',x,rfl,hx,hs⟩;exact hq r' x st hx hs
 have out:∀(r:T V) (x:V) (st:St),r.get 4=some x->JI h N n2 iu j k U Y [] x st->bD A.C [.fin [.tmp 4] ⟨h,N,w⟩] (some (.ex .ret ⟨r,186,[]⟩ st)) (EU (JI h N n2 iu j k U Y w)):=by rintro r x ⟨H,n1,W⟩ h4 ⟨s1,s2,s3,s4⟩;simp[h4];exact⟨s1,by show ay n2 (ay N W++w)=_;rw[OQ (OR (by simpa[ay]using s2))],s3,s4⟩
 by_cases qp:v1<=d
 ·have BV:=Yv5 hP EK zai qp aC;subst BV;obtain⟨s1,s2,s3⟩:=Yax hcB ET;simp(disch:=first|(simp;done)|omega|(simp only[bq,b_,bk];omega)|rfl) [-getElem?_pos,A.b239,lv,hN,Au,aW,mS,hU,f_ gd',f_ gc',q1,q3,q4,t1,t2,cQ.cU];refine fin _ 18446744073709551615 (bA (c+d)) (cy (c+d)) _ _ (by simp) (by simp) (by simp) (by simp) (by simp) (by simp) s3 s2 (by decide) ?_ ?_ (fun r x st h4 hs=>out r x st h4 hs)
  ·rw[s1];unfold B;omega
  unfold B at aC ⊢;exact aC
 have BW:¬(v1:Int)<=(d:Int):=by omega
 simp(disch:=first|(simp;done)|omega|(simp only[bq,b_,bk];omega)|rfl) [-getElem?_pos,A.b239,lv,hN,Au,aW,mS,hU,f_ gd',f_ gc',q1,q3,q4,t1,t2,BW,cQ.cU];refine av (Yaa (show d<v1 by omega) ET hcB) ?_;rintro _ h' N' hk ⟨rfl,rfl,rfl⟩;obtain⟨q,hq⟩:∃q,(d*18446744073709551616+c)/v1=q:=⟨_,rfl⟩;obtain⟨rr,ES⟩:∃q,(d*18446744073709551616+c)%v1=q:=⟨_,rfl⟩;have hinv:d*B+c=q*v1+rr:=by have:=vM (d*18446744073709551616+c) v1;rw[hq,ES,jO]at this;exact this.symm
 have Ag:rr<v1:=by rw[<-ES];exact mO _ pC
 have JJ:q<B:=by rw[<-hq];apply (rk pC).2;have:=nf B (show d+1<=v1 by omega);rw[jO B v1];rw[ji]at this;unfold B at*;omega
 rw[hq,ES];simp[cQ.cU];refine fin _ q rr 0 _ _ (by simp) (by simp) (by simp) (by simp) (by simp) (by simp) (by omega) (by omega) JJ (by rw[hinv];omega) (Yv6 EJ zaj hinv Ag) (fun r x st h4 hs=>out r x st h4 hs)
end
end Go.Mx
