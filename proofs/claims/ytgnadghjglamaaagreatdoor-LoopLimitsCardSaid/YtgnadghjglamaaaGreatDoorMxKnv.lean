/-Long division by words-/
import Derived.Test.YtgnadghjglamaaaGreatDoorNaL
set_option linter.all false
namespace Go.Mx
noncomputable section
open Go
variable {P Y a b d k u v1:Nat} {l:List Nat}
def Bw(h:l[k]?=some d):val b (l.drop k)=d+b*val b (l.drop (k+1)):=by
 have hk:k<l.length:=by
  apply tV;intro hc;rw[mb hc]at h;cases h
 rw[IT hk]
 rw[eA hk]at h
 simp only[au]at h
 rw[h];rfl
def Er(b:Nat)(l:List Nat)(k:Nat)(hk:k<=l.length):val b l=val b (l.take k)+b^k*val b (l.drop k):=by
 have:=TG b (l.take k) (l.drop k)
 rw[A6,lW,pA hk]at this
 exact this
def Zuv{b:Nat}:∀{l:List Nat},(∀(t:Nat),t<l.length->l[t]?=some 0)->val b l=0
 |[],_=>rfl
 |d::l,h=>by
  have h0:=h 0 (by simp)
  simp at h0
  have:=Zuv (b:=b) (l:=l) fun t ht=>by simpa using h (t+1) (by simp;omega)
  simp[val,h0,this]
def Ym0{α:Type}{l:List α}{d:α}(h:l[k]?=some d):k<l.length:=by
 apply tV;intro hc;rw[mb hc]at h;cases h
def Zfw(hz:∀t,k<=t->t<l.length->l[t]?=some 0):val b (l.drop k)=0:=by
 apply Zuv
 intro t ht
 rw[ix]
 rw[A4]at ht
 exact hz _ (by omega) (by omega)
def Yea{w:List Nat}{c:Nat}(ha:w[k]?=some a)(hc:w[k+1]?=some c)(hd:w[k+2]?=some d)(hz:∀t,k+3<=t->t<w.length->w[t]?=some 0):
  val b w=val b (w.take k)+b^k*(a+b*(d*b+c)):=by
 have:=Ym0 ha
 rw[Er b w k (by omega),Bw ha,Bw hc,Bw hd,Zfw hz]
 generalize b^k=p
 grind
def Yeb{w:List Nat}{c:Nat}(ha:w[k]?=some a)(hc:w[k+1]?=some c)(hl:w.length=k+2):
  val b w=val b (w.take k)+b^k*(a+b*c):=by
 rw[Er b w k (by omega),Bw ha,Bw hc,zv (by omega)]
 simp[val]
def Zl9(g:∀d∈l,d<b)(hk:k<=l.length):val b (l.take k)<b^k:=by
 have:=Eo (b:=b) (l:=l.take k) fun d hd=>g d (B0 hd)
 rwa [lW,pA hk]at this
def Ym2{c U' v2 V':Nat}(hP:0<P)(CK:V'<P)(jQ:v2<b)(hd:v1<=d)(hW:U'+P*(a+b*(d*b+c))<b*(V'+P*(v2+b*v1))):d=v1:=by
 apply Nat.le_antisymm _ hd
 apply yl
 intro aP
 have h1:b*(P*(b*(v1+1)))<=b*(P*(b*d)):=je _ (je _ (je _ aP))
 have h2:V'+P*(v2+b*v1)<P*(b*(v1+1)):=by
  have:P*(v2+1)<=P*b:=je _ jQ
  grind
 have h3:b*(V'+P*(v2+b*v1))<=b*(P*(b*(v1+1))):=je _ (Nat.le_of_lt h2)
 have h4:b*(P*(b*d))<=U'+P*(a+b*(d*b+c)):=by
  have:P*(b*(d*b))=b*(P*(b*d)):=by grind
  have:P*(b*(d*b))<=P*(a+b*(d*b+c)):=je _ (by rw[nL];omega)
  omega
 omega
def Ym3{U' u2 u1 v2 V' q r:Nat}(hU:U'<P)(fD:u2<b)(hinv:u1=q*v1+r)(hr:r<v1):U'+P*(u2+b*u1)<(q+1)*(V'+P*(v2+b*v1)):=by
 have h1:u1+1<=(q+1)*v1:=by rw[hinv,jg];omega
 have h2:P*(b*(u1+1))<=P*(b*((q+1)*v1)):=je _ (je _ h1)
 have h3:P*(u2+1)<=P*b:=je _ fD
 have h4:P*(b*((q+1)*v1))<=(q+1)*(V'+P*(v2+b*v1)):=by
  have:(q+1)*(V'+P*(v2+b*v1))=(q+1)*V'+P*((q+1)*v2)+P*(b*((q+1)*v1)):=by grind
  omega
 have h5:U'+P*(u2+b*u1)+P<=U'+P*(b*(u1+1)):=by grind
 omega
def vF(q v c:Nat):Nat:=bC (bC (q*v)+c)
def oF(q v c:Nat):Nat:=cQ (cC (q*v)) (cC (bC (q*v)+c))
def Yjv{q v c w:Nat}(hq:q<B)(hv:v<B)(hc:c<B)(hu:u<B)(hw:w<=1):
  eJ u (vF q v c) w+q*v+c+w=u+B*(oF q v c+fL u (vF q v c) w)/\eJ u (vF q v c) w<B/\oF q v c<B/\fL u (vF q v c) w<=1/\vF q v c<B:=by
 have:q*v<=18446744073709551615*18446744073709551615:=jf (by unfold B at*;omega) (by unfold B at*;omega)
 unfold oF vF
 have h1:bC (bC (q*v)+c)+B*cQ (cC (q*v)) (cC (bC (q*v)+c))=q*v+c/\cQ (cC (q*v)) (cC (bC (q*v)+c))<B/\bC (bC (q*v)+c)<B:=by
  unfold bC cC cQ
  unfold B at*
  generalize q*v=p at*
  omega
 obtain⟨h1,h2,h3⟩:=h1
 generalize bC (bC (q*v)+c)=l at*
 generalize cQ (cC (q*v)) (cC (bC (q*v)+c))=k at*
 have h4:eJ u l w+l+w=u+B*fL u l w/\eJ u l w<B/\fL u l w<=1:=by
  unfold eJ fL
  unfold B at*
  split<;>omega
 obtain⟨h4,h5,h6⟩:=h4
 refine⟨?_,h5,h2,h6,h3⟩
 rw[nL]
 omega
def Yiz{l w:Nat}(hl:l<B)(hu:u<B)(hw:w<=1):eJ u l w+l+w=u+B*fL u l w/\eJ u l w<B/\fL u l w<=1:=by
 unfold eJ fL
 unfold B at*
 split<;>omega
def Ydu{v c:Nat}(hv:v<B)(hu:u<B)(hc:c<=1):bC (u+v+c)+B*cC (u+v+c)=u+v+c/\bC (u+v+c)<B/\cC (u+v+c)<=1:=by
 unfold bC cC
 unfold B at*
 omega
def PU{b:Nat}:∀{l:List Nat} {k old v:Nat},l[k]?=some old->val b (l.set k v)+b^k*old=val b l+b^k*v
 |[],k,old,v,h=>by simp at h
 |d::l,0,old,v,h=>by simp at h;subst h;simp[val];omega
 |d::l,k+1,old,v,h=>by
  have ih:=PU (b:=b) (l:=l) (k:=k) (old:=old) (v:=v) (by simpa using h)
  simp only[List.set_cons_succ,val,fO]
  generalize val b (l.set k v)=p at*
  generalize val b l=q at*
  generalize b^k=z at*
  have:b*(p+z*old)=b*(q+z*v):=by rw[ih]
  grind
def Dg.tm(h:Dg l){k v:Nat}(hv:v<B):Dg (l.set k v):=by
 intro d hd
 rcases Dh hd with hd|hd
 ·exact h d hd
 ·subst hd;exact hv
def Ymw{W q U t c t' e:Nat}(hb:1<b)(hP:0<P)(hY:Y<P)(hU:U<P)(ht:t'<b)(he:e<=1)(h1:U+q*Y=W+P*c)(h2:t'+c=t+b*e)(fZ:(q-1)*Y<=W+P*t)(iZ:W+P*t<(q+1)*Y):
  (e=0->U+P*t'+q*Y=W+P*t/\U+P*t'<Y/\t'=0)/\(e=1->0<q/\U+P*t'+q*Y=W+P*t+P*b/\W+P*t<q*Y):=by
 have h3:P*t'+P*c=P*t+P*(b*e):=by rw[<-nL,h2,nL]
 constructor
 ·rintro rfl
  simp only[Nat.mul_zero,tF]at h3
  have h4:U+P*t'+q*Y=W+P*t:=by omega
  have h5:U+P*t'<Y:=by rw[jg]at iZ;omega
  refine⟨h4,h5,?_⟩
  rcases LG t' with h|h
  ·exact h
  ·have:=je P h
   omega
 ·rintro rfl
  simp only[tE]at h3
  have h4:U+P*t'+q*Y=W+P*t+P*b:=by omega
  have h5:P*(t'+1)<=P*b:=je _ ht
  rw[nL]at h5
  have h6:W+P*t<q*Y:=by omega
  refine⟨?_,h4,h6⟩
  rcases LG q with h|h
  ·subst h;omega
  ·exact h
def Yke{q U t' T A c:Nat}(hP:0<P)(hY:Y<P)(hA:A<P)(hc:c<=1)(ht:t'<b)(hq:0<q)(h1:U+P*t'+q*Y=T+P*b)(h2:T<q*Y)(fZ:(q-1)*Y<=T)(h3:A+P*c=U+Y):
  A+(q-1)*Y=T/\A<Y/\(t'+c)%b=0:=by
 obtain⟨s,rfl⟩:∃s,q=s+1:=⟨q-1,by omega⟩
 simp only[Nat.add_sub_cancel]at*
 rw[jg]at h1 h2
 have h4:A+P*(t'+c)+s*Y=T+P*b:=by rw[nL];omega
 have h5:t'+c=b:=by
  rcases Nat.lt_trichotomy (t'+c) b with h|h|h
  ·have:=je P (show t'+c+1<=b from h)
   rw[nL P (t'+c)]at this
   omega
  ·exact h
  ·omega
 rw[h5]at h4
 refine⟨by omega,by omega,?_⟩
 rw[h5,Nat.mod_self]
def PM:∀{k n:Nat},B^k<=n->n<B^(k+1)->(aN n).length=k+1/\(aN n)[k]?=some (n/B^k)
 |0,n,h1,h2=>by
  have h0:n≠0:=by
   rw[AH]at h1;omega
  rw[mW h0]
  have h3:n/B=0:=zu (by simpa using h2)
  rw[h3,q_]
  simp
  exact xA (by simpa using h2)
 |k+1,n,h1,h2=>by
  have hB:0<B:=by decide
  have hp:0<B^(k+1):=vU hB
  have h0:n≠0:=by omega
  have h3:B^k<=n/B:=(LI hB).2 (by rw[<-fO];exact h1)
  have h4:n/B<B^(k+1):=(pK hB).2 (by rw[<-fO];exact h2)
  obtain⟨e1,e2⟩:=PM h3 h4
  rw[mW h0]
  refine⟨by simp[e1],?_⟩
  rw[DI,e2,IW,fO,gk (B^k)]
def Yhb{n:Nat}(h:(aN n).length≠0):n≠0:=by
 rintro rfl
 exact h (by rw[q_];rfl)
def JS:∀{k n:Nat},(aN n).length=k+1->B^k<=n/\n<B^(k+1)
 |0,n,h=>by
  have h0:=Yhb (n:=n) (by omega)
  rw[mW h0]at h
  have h1:(aN (n/B)).length=0:=by simpa using h
  have h2:n/B=0:=by
   by_cases hc:n/B=0
   ·exact hc
   ·rw[mW hc]at h1;simp at h1
  have:=(Nat.div_eq_zero_iff).1 h2
  rcases this with hb|hb
  ·exact absurd hb (by decide)
  ·simp;omega
 |k+1,n,h=>by
  have h0:=Yhb (n:=n) (by omega)
  rw[mW h0]at h
  obtain⟨h1,h2⟩:=JS (k:=k) (n:=n/B) (by simpa using h)
  have hB:0<B:=by decide
  exact⟨by rw[fO];exact(LI hB).1 h1,by rw[fO];exact(pK hB).1 h2⟩
def Yd9{t s:Nat}(hl:(aN b).length=k+1)(ht:(aN b)[k]?=some t)(h1:9223372036854775808<=t*2^s)(h2:t*2^s<18446744073709551616)(hs:s<=64):
  (aN (b*2^s)).length=k+1/\∃v1,(aN (b*2^s))[k]?=some v1/\9223372036854775808<=v1:=by
 obtain⟨b1,b2⟩:=JS hl
 have hp:0<B^k:=vU (by decide)
 have uG:=sR s
 have htd:t=b/B^k:=by
  have:=(PM b1 b2).2
  rw[ht]at this
  exact rY this
 have b3:t*B^k<=b:=by rw[htd];exact Nat.div_mul_le_self _ _
 have b4:b<(t+1)*B^k:=by
  rw[htd]
  exact(pK hp).1 (tO _)
 have c1:9223372036854775808*B^k<=b*2^s:=by
  have e1:=ky (B^k) h1
  have e2:=ky (2^s) b3
  have e3:t*2^s*B^k=t*B^k*2^s:=by grind
  omega
 have c2:b*2^s<B^(k+1):=by
  have e0:t+1<=2^(64-s):=by
   have:t<2^(64-s):=by
    apply Nat.lt_of_mul_lt_mul_right (a:=2^s)
    rw[<-iF,show 64-s+s=64 by omega];exact h2
   omega
  have e1:=ky (2^s) e0
  rw[<-iF,show 64-s+s=64 by omega]at e1
  have e2:=Oh b4 uG
  have e3:=ky (B^k) e1
  have e4:(t+1)*2^s*B^k=(t+1)*B^k*2^s:=by grind
  rw[fO,gk]
  have e5:(2^64:Nat)*B^k=B^k*B:=by unfold B;rw[gk]
  rw[gk b]at e2
  omega
 have c0:B^k<=b*2^s:=by omega
 obtain⟨d1,d2⟩:=PM c0 c2
 exact⟨d1,_,d2,(LI hp).2 c1⟩
def Zzq{U:List Nat}{la m s:Nat}(hU:val B U=a*2^s)(hl:U.length=la+1)(hm:m+k+1=la+1)(xM:m<=U.length)(ha:a<B^la)(hs:s<64)(hv:9223372036854775808<=v1)(hY:v1*B^k<=Y):val B (U.drop m)<Y:=by
 have h1:=Er B U m xM
 have h2:B^m*val B (U.drop m)<B^la*2^s:=by
  have:=Oh ha (sR s)
  omega
 have h3:(2:Nat)^s<=9223372036854775808:=(pc (by decide) (show s<=63 by omega):(2:Nat)^s<=2^63)
 have h4:B^la=B^m*B^k:=by rw[<-iF];congr 1;omega
 rw[h4,uA]at h2
 have h5:=Nat.lt_of_mul_lt_mul_left h2
 have h6:=je (B^k) h3
 have h7:=je (B^k) hv
 rw[gk v1]at hY
 omega
open Go Go.Proofs
variable {N i iu j k n n2 v1:Nat} {U Y l o:List Nat} {cp:Option Nat} {h:T O} {r0:T V} {v:V}
set_option maxHeartbeats 4000000
set_option maxRecDepth 1000000
def A.Af:=A.q Tryz.f253
def A.jU:=A.ql A.Af 2 []
def A.jV:=A.ql A.Af 1 []
def A.jW:=A.ql A.Af 0 []
def A.mZ:=(fun x0 x1 x2=>A.qt A.Af [x0,x1,x2] [] [1,1,1,1,1]) A.jW A.jV A.jU
def A.b253:=(fun x0 x1 x2 y0=>A.qt A.Af [x0,x1,x2] [([1,1,1,1,1],y0)] []) A.jW A.jV A.jU A.mZ
def A.k253:=@A.kk 253 186 [.tmp 4] A.b253 (by kernel_rfl) rfl
def Ya3:xr i l≠[]:=by
 unfold xr
 split
 ·rintro rfl;simp_all
 ·simp
def Ziq{w:List Nat}(h:aD n (i::w)=[]):¬i<n/\aD n w=[]:=by
 simp only[aD]at h
 split at h
 ·exact absurd h Ya3
 ·rename_i hi;exact⟨hi,h⟩
def PQ{n:Nat}:∀{w u:List Nat},aD n w=[]->aD n (w++u)=aD n u
 |[],u,_=>rfl
 |i::w,u,h=>by
  obtain⟨hi,hw⟩:=Ziq h
  simp only[zf,aD,hi,if_false]
  exact PQ hw
def Mw{n N:Nat}(hn:n<=N):∀{w:List Nat},aD N w=[]->aD n w=[]
 |[],_=>rfl
 |i::w,h=>by
  obtain⟨hi,hw⟩:=Ziq h
  simp only[aD,show ¬i<n by omega,if_false]
  exact Mw hn hw
def Zti(hi:¬i<n)(h:aD n l=[]):aD n (xr i l)=[]:=by
 unfold xr
 split
 ·exact h
 ·simp only[aD,hi,if_false];exact h
def PR{n N:Nat}:∀{w:List Nat},aD n w=[]->aD n (aD N w)=[]
 |[],_=>rfl
 |i::w,h=>by
  obtain⟨hi,hw⟩:=Ziq h
  have:=PR (N:=N) hw
  simp only[aD]
  split
  ·exact Zti hi this
  ·exact this
def Zwq{r v:Nat}(hr:r<B)(hv:v<B):bC (r+v)+B*cC (r+v)=r+v/\bC (r+v)<B/\cC (r+v)<=1:=by
 have:=Ydu (c:=0) hv hr (by omega)
 simpa using this
def GuI(h:T O)(N u1 v1 W Z m:Nat)(r:T V)(st:St):Prop:=st=⟨h,N,[]⟩/\∃rr ov:Nat,r.get 6=some (.int .u64 m)/\r.get 7=some (.int .u64 rr)/\r.get 8=some (.int .u64 ov)/\ov<=1/\rr<B/\m<B/\u1=m*v1+(rr+B*ov)/\W<(m+1)*Z
structure TM (h:T O) (N n2 iu j q:Nat) (U Y:List Nat) (m:Nat) (r:T V) (st:St):Prop where
 n:st.n=N
 w:aD n2 st.w=[]
 old:∀t,t≠iu->st.h.get t=h.get t
 ex:∃(i bw c:Nat) (o:List Nat),i+m=Y.length/\r.get 105=some (.int .i64 i)/\r.get 11=some (.int .u64 bw)/\r.get 12=some (.int .u64 c)/\st.h.get iu=some (.cells (dg o) 217 true)/\o.length=U.length/\Dg o/\(∀t,(t<j\/j+i<=t)->o[t]?=U[t]?)/\bw<=1/\c<B/\val B (o.drop j)+q*val B (Y.take i)=val B (U.drop j)+B^i*(c+bw)
structure TN (h:T O) (N n2 iu j:Nat) (U Y:List Nat) (m:Nat) (r:T V) (st:St):Prop where
 n:st.n=N
 w:aD n2 st.w=[]
 old:∀t,t≠iu->st.h.get t=h.get t
 ex:∃(i c:Nat) (o:List Nat),i+m=Y.length/\r.get 157=some (.int .i64 i)/\r.get 17=some (.int .u64 c)/\st.h.get iu=some (.cells (dg o) 217 true)/\o.length=U.length/\Dg o/\(∀t,(t<j\/j+i<=t)->o[t]?=U[t]?)/\c<=1/\val B (o.drop j)+B^i*c=val B (U.drop j)+val B (Y.take i)
structure J0 (h:T O) (N n2 iu j k:Nat) (U Y:List Nat) (w:List Nat) (x:V) (st:St):Prop where
 n:st.n=N
 w:aD n2 st.w=aD n2 w
 old:∀t,t≠iu->st.h.get t=h.get t
 ex:∃(q:Nat) (o:List Nat),x=.int .u64 q/\q<B/\st.h.get iu=some (.cells (dg o) 217 true)/\o.length=U.length/\Dg o/\(∀t,t<j->o[t]?=U[t]?)/\(∀t,j+k+2<=t->t<o.length->o[t]?=some 0)/\val B (o.drop j)+q*val B Y=val B (U.drop j)/\val B (o.drop j)<val B Y
def Yjw{h:T O}{N n2 iu j q:Nat}{U Y:List Nat}{v:V}{cp:Option Nat}{r0:T V}(hv:Sl h n2 v (dg Y))(dY:Dg Y)(h2:n2<=iu)(hj:j+Y.length<U.length)(hl:U.length<1099511627776)(hq:q<B)
  (a0:r0.get 0=some (.slice iu j (Y.length+1) cp 1)) (a1:r0.get 1=some v) (a6:r0.get 6=some (.int .u64 q)) (PS:r0.get 104=some (.int .i64 Y.length)):
  ∀k r st,(∀t,jR [(11,16),(105,139)] t=false->r.get t=r0.get t)->Fx [(11,16),(105,139)] r0 186 ⟨r,186,[]⟩->TM h N n2 iu j q U Y k r st->Code A.C none A.jV ⟨r,186,[]⟩ st (Rd [(11,16),(105,139)] r0 186 (TM h N n2 iu j q U Y) k (fun e r st=>e=.exit 2/\TM h N n2 iu j q U Y 0 r st)):=by
 rintro m r ⟨H,n1,W⟩ hr hf ⟨hn,hW,hO,i,bw,c,o,hi,Ag,fA,eK,aM,ho,hd,hs,hb,hc,he⟩
 simp only at hn hW hO aM
 subst hn
 have lv:=hv.len
 rw[Zab]at lv
 rw[dk]
 cases m with
 |zero=>
  have:i=Y.length:=by omega
  subst this
  simp(disch:=first|(simp;done)|omega|(simp only[Zab,aq,ak];omega)|rfl) [-getElem?_pos,A.jV,hr,hf,PS,Ag]
  exact⟨rfl,hW,hO,Y.length,bw,c,o,by omega,by simp[Ag],by simp[fA],by simp[eK],aM,ho,hd,hs,hb,hc,he⟩
 |succ m=>
  have aP:i<Y.length:=by omega
  have gy:=eA aP
  generalize Y[i]=y at*
  have hy:y<B:=dY.get gy
  obtain⟨i2,o2,c2,e2,w2,p1,p2,p3,p4⟩:=hv.at (fH gy)
  have bF:i2≠iu:=by omega
  have p3:=(hO i2 bF).trans p3
  have go:o[j+i]?=some (o[j+i]'(by omega)):=eA (by omega)
  generalize o[j+i]'(by omega)=u at*
  have hu:u<B:=hd.get go
  obtain⟨s1,s2,s3,s4,s5⟩:=Yjv hq hy hc hu hb
  have tU:bw=0\/bw=1:=by omega
  have Ah:i<Y.length+1:=by omega
  simp(disch:=first|(simp;done)|omega|(simp only[Zab,aq,ak];omega)|rfl) [-getElem?_pos,A.jV,hr,hf,PS,Ag,aP,a6,a1,lv,p1,p3,p4]
  refine az (PT hq hy) ?_
  rintro _ H n1 Bv ⟨rfl,rfl,rfl⟩
  have q1:bC (bC (q*y)+c)=vF q y c:=rfl
  have q2:cQ (cC (q*y)) (cC (bC (q*y)+c))=oF q y c:=rfl
  have hbi:(bw:Int)=0\/(bw:Int)=1:=by omega
  simp(disch:=first|(simp;done)|omega|(simp only[Zab,aq,ak];omega)|rfl) [-getElem?_pos,hr,hf,Ag,Ah,a0,fA,eK,aM,fH go,pw,q1,q2,hbi]
  have vt:¬iu<n2:=by omega
  refine⟨m,by omega,rfl,by simp[aD,hW,vt],fun t ht=>by rw[T.aj,aA ht];exact hO t ht,i+1,fL u (vF q y c) bw,oF q y c,o.set (j+i) (eJ u (vF q y c) bw),by omega,by simp,by simp,by simp,by simp,by simp[ho],hd.tm s2,?_,s4,s3,?_⟩
  ·intro t ht
   rw[eR (by omega)]
   exact hs t (by omega)
  ·have go2:(o.drop j)[i]?=some u:=by rw[ix];exact go
   have v1:=PU (b:=B) (v:=eJ u (vF q y c) bw) go2
   rw[List.drop_set,aA (by omega),show j+i-j=i by omega,En gy]
   have e1:B^i*(eJ u (vF q y c) bw+q*y+c+bw)=B^i*(u+B*(oF q y c+fL u (vF q y c) bw)):=by rw[s1]
   rw[fO]
   generalize val B ((o.drop j).set i (eJ u (vF q y c) bw))=z1 at*
   generalize val B (o.drop j)=z2 at*
   generalize val B (U.drop j)=z3 at*
   generalize val B (List.take i Y)=z4 at*
   generalize eJ u (vF q y c) bw=z5 at*
   generalize oF q y c=z6 at*
   generalize fL u (vF q y c) bw=z7 at*
   generalize B^i=z8 at*
   clear s1 gy hy go go2 hu hs hd
   grind
def Yll{h:T O}{N n2 iu j:Nat}{U Y:List Nat}{v:V}{cp:Option Nat}{r0:T V}(hv:Sl h n2 v (dg Y))(dY:Dg Y)(h2:n2<=iu)(hN:iu<N)(hj:j+Y.length<U.length)(hl:U.length<1099511627776)
  (a0:r0.get 0=some (.slice iu j (Y.length+1) cp 1)) (a1:r0.get 1=some v) (PV:r0.get 156=some (.int .i64 Y.length)):
  ∀k r st,(∀t,jR [(17,18),(157,176)] t=false->r.get t=r0.get t)->Fx [(17,18),(157,176)] r0 186 ⟨r,186,[]⟩->TN h N n2 iu j U Y k r st->Code A.C none A.jU ⟨r,186,[]⟩ st (Rd [(17,18),(157,176)] r0 186 (TN h N n2 iu j U Y) k (fun e r st=>e=.exit 4/\TN h N n2 iu j U Y 0 r st)):=by
 rintro m r ⟨H,n1,W⟩ hr hf ⟨hn,hW,hO,i,c,o,hi,Ai,NF,aM,ho,hd,hs,hc,he⟩
 simp only at hn hW hO aM
 subst hn
 have lv:=hv.len
 rw[Zab]at lv
 rw[dk]
 cases m with
 |zero=>
  have:i=Y.length:=by omega
  subst this
  simp(disch:=first|(simp;done)|omega|(simp only[Zab,aq,ak];omega)|rfl) [-getElem?_pos,A.jU,hr,hf,PV,Ai]
  exact⟨rfl,hW,hO,Y.length,c,o,by omega,by simp[Ai],by simp[NF],aM,ho,hd,hs,hc,he⟩
 |succ m=>
  have aP:i<Y.length:=by omega
  have gy:=eA aP
  generalize Y[i]=y at*
  have hy:y<B:=dY.get gy
  obtain⟨i2,o2,c2,e2,w2,p1,p2,p3,p4⟩:=hv.at (fH gy)
  have bF:i2≠iu:=by omega
  have p3:=(hO i2 bF).trans p3
  have go:o[j+i]?=some (o[j+i]'(by omega)):=eA (by omega)
  generalize o[j+i]'(by omega)=u at*
  have hu:u<B:=hd.get go
  obtain⟨s1,s2,s3⟩:=Ydu hy hu hc
  have Ah:i<Y.length+1:=by omega
  have IK:(c:Int)=0\/(c:Int)=1:=by omega
  have vt:¬iu<n2:=by omega
  have hiN:i2<n1:=by omega
  have jT:¬iu=i2:=fun hc=>bF hc.symm
  simp(disch:=first|(simp;done)|omega|(simp only[Zab,aq,ak];omega)|rfl) [-getElem?_pos,A.jU,hr,hf,PV,Ai,aP,Ah,hN,hiN,bF,jT,bU.bZ,a0,a1,lv,p1,p3,p4,aM,fH go,pw,NF,IK]
  rw[NA (by simp[hN,hiN,bF,jT])]
  simp(disch:=first|(simp;done)|omega|(simp only[Zab,aq,ak];omega)|rfl) [-getElem?_pos,hr,hf,Ai]
  refine⟨m,by omega,rfl,by simp[aD,hW,vt],fun t ht=>by rw[T.aj,aA ht];exact hO t ht,i+1,cC (u+y+c),o.set (j+i) (bC (u+y+c)),by omega,by simp,by simp,by simp,by simp[ho],hd.tm s2,?_,s3,?_⟩
  ·intro t ht
   rw[eR (by omega)]
   exact hs t (by omega)
  ·have go2:(o.drop j)[i]?=some u:=by rw[ix];exact go
   have v1:=PU (b:=B) (v:=bC (u+y+c)) go2
   rw[List.drop_set,aA (by omega),show j+i-j=i by omega,En gy]
   have e1:B^i*(bC (u+y+c)+B*cC (u+y+c))=B^i*(u+y+c):=by rw[s1]
   rw[fO]
   generalize val B ((o.drop j).set i (bC (u+y+c)))=z1 at*
   generalize val B (o.drop j)=z2 at*
   generalize val B (U.drop j)=z3 at*
   generalize val B (List.take i Y)=z4 at*
   generalize bC (u+y+c)=z5 at*
   generalize cC (u+y+c)=z6 at*
   generalize B^i=z8 at*
   clear s1 gy hy go go2 hu hs hd
   grind
def Yko{u2 u1 v2 U' V' P:Nat}{e0:TypeId}{Sk:Bool}(hv:Sl h n2 v (dg Y))(hY:Y.length=k+2)(dY:Dg Y)(hl:U.length<1099511627776)(AL:j+k+2<U.length)(hU:h.get iu=some (.cells (dg U) e0 Sk))(dU:Dg U)
  (f2:Y[k]?=some v2) (f1:Y[k+1]?=some v1) (g2:U[j+k]?=some u2) (oC:0<v1) (hP:0<P) (CJ:U'<P) (CK:V'<P)
  (a0:r0.get 0=some (.slice iu j (k+3) cp 1)) (a1:r0.get 1=some v) (a5:r0.get 5=some (.int .i64 ((k:Int)+2))):
  ∀m r st,(∀t,jR [(6,10),(63,103)] t=false->r.get t=r0.get t)->Fx [(6,10),(63,103)] r0 186 ⟨r,186,[]⟩->GuI h N u1 v1 (U'+P*(u2+B*u1)) (V'+P*(v2+B*v1)) m r st->Code A.C none A.jW ⟨r,186,[]⟩ st (Rd [(6,10),(63,103)] r0 186 (GuI h N u1 v1 (U'+P*(u2+B*u1)) (V'+P*(v2+B*v1))) m (fun e r st=>e=.exit 0/\st=⟨h,N,[]⟩/\∃q:Nat,r.get 6=some (.int .u64 q)/\q<B/\(q-1)*(V'+P*(v2+B*v1))<=U'+P*(u2+B*u1)/\U'+P*(u2+B*u1)<(q+1)*(V'+P*(v2+B*v1)))):=by
 rintro m r _ hr hf ⟨rfl,rr,ov,h6,h7,h8,hov,CQ,hm,hinv,iZ⟩
 have lv:=hv.len
 rw[Zab]at lv
 rw[dk]
 have jQ:v2<B:=dY.get f2
 have CT:v1<B:=dY.get f1
 have fD:u2<B:=dU.get g2
 have fin:m*v2<=(rr+B*ov)*B+u2->(m-1)*(V'+P*(v2+B*v1))<=U'+P*(u2+B*u1):=by
  intro hc
  cases m with
  |zero=>simp
  |succ s=>exact Ykg oC CK (by omega) hinv hc
 by_cases h0:ov=0
 ·subst h0
  simp only[Nat.mul_zero,tF]at hinv fin
  obtain⟨i2,o2,c2,e2,w2,p1,p2,p3,p4⟩:=hv.at (fH f2)
  have ew:((k:Int)+2-2)=(k:Int):=by omega
  have xM:(k:Int)<((k+2:Nat):Int):=by omega
  have PW:(k:Int)<((k+3:Nat):Int):=by omega
  rw[hY]at lv
  simp(disch:=first|(simp;done)|omega|(simp only[Zab,aq,ak];omega)|rfl) [-getElem?_pos,A.jW,hr,hf,h6,h7,h8,a0,a1,a5,lv,p1,p3,p4,aL,ew,xM]
  refine az (PT hm jQ) ?_
  rintro _ h N Bv ⟨rfl,rfl,rfl⟩
  have hp:bC (m*v2)+B*cC (m*v2)=m*v2:=by
   have:=tW (m*v2) B
   unfold bC cC;unfold B at*;omega
  have Cv:bC (m*v2)<B:=Ybz
  obtain⟨i1,o1,c1,e1,w1,q1,q2,q3,q4⟩:=hv.at (fH f1)
  obtain⟨hi,Aj⟩:∃x,cC (m*v2)=x:=⟨_,rfl⟩
  obtain⟨lo,tL⟩:∃x,bC (m*v2)=x:=⟨_,rfl⟩
  rw[Aj,tL]at hp
  rw[tL]at Cv
  by_cases c1:hi<rr
  ·have:=fin (by
    have:=je B c1
    rw[gk rr B];rw[Nat.succ_eq_add_one,nL]at this;omega)
   simp(disch:=first|(simp;done)|omega|(simp only[Zab,aq,ak];omega)|rfl) [-getElem?_pos,hr,hf,h6,h7,h8,Aj,tL,c1]
   exact⟨hm,this,iZ⟩
  ·have dec:rr*B+u2<m*v2->0<m/\u1=(m-1)*v1+(rr+v1)/\U'+P*(u2+B*u1)<(m-1+1)*(V'+P*(v2+B*v1)):=by
    intro hc
    have h3:=Ykf CJ hinv hc (b:=B) (P:=P) (V':=V')
    cases m with
    |zero=>omega
    |succ s=> 
     refine⟨by omega,?_,by simpa using h3⟩
     rw[hinv,jg];simp;omega
   obtain⟨s1,s2,s3⟩:=Zwq CQ CT
   have gO:((k:Int)+2-1)=(k:Int)+1:=by omega
   have PX:(k:Int)+1<((k+2:Nat):Int):=by omega
   have ze9:(k:Int)+1=((k+1:Nat):Int):=by omega
   have goA:rr*B+u2<m*v2->∃k',k'<m/\0<m/\k'=m-1:=fun hc=>⟨m-1,by have:=(dec hc).1;omega,(dec hc).1,rfl⟩
   have sbm:0<m->ga m 1=m-1:=fun hc=>Em hc (by unfold B at hm;omega)
   by_cases c2:hi=rr
   ·by_cases c3:lo<=u2
    ·have:=fin (by rw[<-hp,c2,gk rr B];omega)
     simp(disch:=first|(simp;done)|omega|(simp only[Zab,aq,ak];omega)|rfl) [-getElem?_pos,hr,hf,h6,h7,h8,Aj,tL,c1,c2,c3,aL,a0,a5,ew,PW,hU,fH g2]
     exact⟨hm,this,iZ⟩
    ·obtain⟨d1,d2,d3⟩:=dec (by rw[<-hp,c2,gk rr B];omega)
     have sb:=sbm d1
     simp(disch:=first|(simp;done)|omega|(simp only[Zab,aq,ak];omega)|rfl) [-getElem?_pos,hr,hf,h6,h7,h8,Aj,tL,c1,c2,c3,aL,a0,a1,a5,ew,gO,PW,hU,fH g2,lv,q1,q3,q4,PX,sb]
     exact⟨m-1,by omega,rfl,bC (rr+v1),cC (rr+v1),by simp,by simp,by simp,s3,s2,by omega,by rw[s1];exact d2,d3⟩
   ·obtain⟨d1,d2,d3⟩:=dec (by
     have:rr+1<=hi:=by omega
     have:=je B this
     rw[nL]at this
     rw[<-hp,gk rr B];omega)
    have sb:=sbm d1
    simp(disch:=first|(simp;done)|omega|(simp only[Zab,aq,ak];omega)|rfl) [-getElem?_pos,hr,hf,h6,h7,h8,Aj,tL,c1,c2,aL,a0,a1,a5,ew,gO,lv,q1,q3,q4,PX,sb]
    exact⟨m-1,by omega,rfl,bC (rr+v1),cC (rr+v1),by simp,by simp,by simp,s3,s2,by omega,by rw[s1];exact d2,d3⟩
 ·have:ov=1:=by omega
  subst this
  have:=fin (by
   have h1:m*v2<=B*B:=jf (by omega) (by omega)
   rw[tE,jg];omega)
  simp(disch:=first|(simp;done)|omega|(simp only[Zab,aq,ak];omega)|rfl) [-getElem?_pos,A.jW,hr,hf,h8,aL]
  exact⟨m,by simp[h6],hm,this,iZ⟩
def Zsz(hl:o.length=U.length)(hj:j+n<=U.length):val B (o.drop j)=val B ((o.drop j).take n)+B^n*val B (o.drop (j+n)):=by
 have:=Er B (o.drop j) n (by rw[A4];omega)
 rw[List.drop_drop]at this
 exact this
def Zv8{p:Nat}(hl:o.length=U.length)(hs:∀t,p<=t->o[t]?=U[t]?):o.drop p=U.drop p:=by
 apply qG
 intro t
 rw[ix,ix]
 exact hs _ (by omega)
def Zz4(hd:Dg o)(hl:o.length=U.length)(hj:j+n<=U.length):val B ((o.drop j).take n)<B^n:=by
 apply Zl9
 ·intro d h;exact hd d (List.mem_of_mem_drop h)
 ·rw[A4];omega
def Zzp{p d:Nat}(hd:o[p]?=some d)(hz:∀t,p+1<=t->t<o.length->o[t]?=some 0):val B (o.drop p)=d:=by
 rw[Bw hd,Zfw hz];omega
def Yk2(h:k<l.length):ag (dg l) k [.int .u64 0]=dg (l.set k 0):=pw (v:=0) h
def Zzt{d u2 u1 v2 U' V' q0 TO TP:Nat}(hv:Sl h n2 v (dg Y))(hY:Y.length=k+2)(dY:Dg Y)(h2:n2<=iu)(hN:iu<N)(hl:U.length<1099511627776)(AL:j+k+2<U.length)(hU:h.get iu=some (.cells (dg U) 217 true))(dU:Dg U)
  (f2:Y[k]?=some v2) (f1:Y[k+1]?=some v1) (g2:U[j+k]?=some u2) (gd:U[j+k+2]?=some d) (hz:∀t,j+k+3<=t->t<U.length->U[t]?=some 0) (oC:0<v1) (CJ:U'<B^k) (CK:V'<B^k) (eU:val B (U.drop j)=U'+B^k*(u2+B*u1)) (eV:val B Y=V'+B^k*(v2+B*v1))
  (a0:r0.get 0=some (.slice iu j (k+3) cp 1)) (a1:r0.get 1=some v) (a5:r0.get 5=some (.int .i64 ((k:Int)+2))) (a6:r0.get 6=some (.int .u64 q0)) (a7:r0.get 7=some (.int .u64 TO)) (a8:r0.get 8=some (.int .u64 TP))
  (b1:TP<=1) (b2:TO<B) (b3:q0<B) (b4:u1=q0*v1+(TO+B*TP)) (b5:U'+B^k*(u2+B*u1)<(q0+1)*(V'+B^k*(v2+B*v1))):
  Code A.C none A.mZ ⟨r0,186,[]⟩ ⟨h,N,[]⟩ (fun e fr st=>e=.ret/\∃r x,fr=⟨r,186,[]⟩/\r.get 4=some x/\J0 h N n2 iu j k U Y [] x st):=by
 have hP:0<B^k:=vU (by decide)
 rw[dk]
 simp(disch:=first|(simp;done)|omega|(simp only[Zab,aq,ak];omega)|rfl) [-getElem?_pos,A.mZ]
 refine c_ [(6,10),(63,103)] _ (GuI h N u1 v1 (U'+B^k*(u2+B*u1)) (V'+B^k*(v2+B*v1))) q0 ?_ (Yko hv hY dY hl AL hU dU f2 f1 g2 oC hP CJ CK a0 a1 a5) ?_
 ·exact⟨rfl,TO,TP,a6,a7,a8,b1,b2,b3,b4,b5⟩
 rintro e r _ hr ⟨rfl,rfl,q,h6,hq,fZ,iZ⟩
 rw[<-eU,<-eV]at fZ iZ
 simp(disch:=first|(simp;done)|omega|(simp only[Zab,aq,ak];omega)|rfl) [-getElem?_pos,hr,a5]
 refine c_ [(11,16),(105,139)] _ (TM h N n2 iu j q U Y) Y.length ?_ (Yjw hv dY h2 (by omega) hl hq (cp:=cp) (by simp[hr,a0,hY]) (by simp[hr,a1]) (by simp[h6]) (by simp[hr,a5,hY])) ?_
 ·exact⟨rfl,rfl,fun _ _=>rfl,0,0,0,U,by omega,by simp,by simp,by simp,hU,rfl,dU,fun _ _=>rfl,by omega,by decide,by simp[val]⟩
 rintro e r1 ⟨H,n1,W⟩ CU ⟨rfl,hn,hW,hO,i,bw,cc,o,hi,Ag,fA,eK,aM,ho,hd,hs,hb,hc,he⟩
 simp only at hn hW hO aM
 subst hn
 have:i=k+2:=by omega
 subst this
 have god:o[j+(k+2)]?=some d:=by rw[hs _ (by omega)];exact gd
 have TQ:d<B:=dU.get gd
 obtain⟨s1,s2,s3⟩:=Yiz hc TQ hb
 have hbi:(bw:Int)=0\/(bw:Int)=1:=by omega
 have Bv:(k:Int)+2<(k:Int)+3:=by omega
 have vt:¬iu<n2:=by omega
 obtain⟨t',PY⟩:∃x,eJ d cc bw=x:=⟨_,rfl⟩
 obtain⟨ee,Ow⟩:∃x,fL d cc bw=x:=⟨_,rfl⟩
 rw[PY,Ow]at s1
 rw[PY]at s2
 rw[Ow]at s3
 simp(disch:=first|(simp;done)|omega|(simp only[Zab,aq,ak];omega)|rfl) [-getElem?_pos,CU,hr,a0,a5,fA,eK,h6,aM,fH god,pw,hbi,PY,Ow,show ((k:Int)+2).toNat=k+2 by omega]
 have hVP:val B Y<B^(k+2):=by rw[<-hY];exact Eo dY
 have hPP:0<B^(k+2):=vU (by decide)
 have eo:=Zsz (j:=j) (n:=k+2) ho (by omega)
 have eu:=Zsz (o:=U) (j:=j) (n:=k+2) rfl (by omega)
 rw[Zv8 ho (p:=j+(k+2)) (fun t ht=>hs t (by omega))]at eo
 have zeb:val B (U.drop (j+(k+2)))=d:=Zzp gd (fun t h1 h2=>hz t (by omega) h2)
 rw[zeb]at eo eu
 have hSP:=Zz4 (j:=j) (n:=k+2) hd ho (by omega)
 have go2:(o.drop j)[k+2]?=some d:=by rw[ix];exact god
 have vs:=PU (b:=B) (v:=t') go2
 rw[iP (by omega)]at he
 generalize val B ((o.drop j).take (k+2))=S at*
 generalize val B ((U.drop j).take (k+2))=W0 at*
 have h1:S+q*val B Y=W0+B^(k+2)*(cc+bw):=by rw[eo,eu]at he;omega
 have kt:=Ymw (by decide) hPP hVP hSP s2 s3 h1 (by omega:t'+(cc+bw)=d+B*ee) (by rw[<-eu];exact fZ) (by rw[<-eu];exact iZ)
 have PZ:(o.set (j+(k+2)) t').drop j=(o.drop j).set (k+2) t':=by rw[List.drop_set,aA (by omega),show j+(k+2)-j=k+2 by omega]
 have vo2:val B ((o.set (j+(k+2)) t').drop j)=S+B^(k+2)*t':=by rw[PZ];omega
 have ym:=hd.tm (k:=j+(k+2)) s2
 have f_:aD n2 (iu::W)=[]:=by simp[aD,hW,vt]
 by_cases O6:ee=0
 ·obtain⟨t1,t2,t3⟩:=kt.1 O6
  subst t3
  simp(disch:=first|(simp;done)|omega|(simp only[Zab,aq,ak];omega)|rfl) [-getElem?_pos,CU,hr,h6,O6]
  refine J0.mk rfl f_ (fun t ht=>by rw[T.aj,aA ht];exact hO t ht) ⟨q,o.set (j+(k+2)) 0,rfl,hq,by simp,by simp[ho],ym,?_,?_,?_,?_⟩
  ·intro t ht
   rw[eR (by omega)];exact hs t (by omega)
  ·intro t t1 t2
   rw[Dm]at t2
   by_cases htt:t=j+(k+2)
   ·subst htt;rw[sI (by omega)]
   ·rw[eR (by omega),hs t (by omega)];exact hz t (by omega) (by omega)
  ·rw[vo2,eu];omega
  ·rw[vo2];omega
 ·have he1:ee=1:=by omega
  obtain⟨t1,t2,t3⟩:=kt.2 he1
  have sb:ga q 1=q-1:=Em t1 (by unfold B at hq;omega)
  have jQ:Sl (H.set iu (.cells (dg (o.set (j+(k+2)) t')) 217 true)) n2 v (dg Y):=hv.ah ⟨aZ _,fun i hi=>by rw[T.aj,aA (by omega)];exact hO i (by omega)⟩
  simp(disch:=first|(simp;done)|omega|(simp only[Zab,aq,ak];omega)|rfl) [-getElem?_pos,CU,hr,h6,a5,O6]
  refine c_ [(17,18),(157,176)] _ (TN _ n1 n2 iu j (o.set (j+(k+2)) t') Y) Y.length ?_ (Yll jQ dY h2 hN (by simp;omega) (by simp;omega) (cp:=cp) (by simp[CU,hr,a0,hY]) (by simp[CU,hr,a1]) (by simp[CU,hr,a5,hY])) ?_
  ·exact⟨rfl,f_,fun _ _=>rfl,0,0,o.set (j+(k+2)) t',by omega,by simp,by simp,by simp,rfl,ym,fun _ _=>rfl,by omega,by simp[val]⟩
  rintro e r2 ⟨H3,n3,W3⟩ bK ⟨rfl,hn3,J1,P1,i3,c3,o3,hi3,Ai,NF,Eu,Ev,hd3,TR,hc3,he3⟩
  simp only at hn3 J1 P1 Eu
  subst hn3
  have:i3=k+2:=by omega
  subst this
  have go3:o3[j+(k+2)]?=some t':=by rw[TR _ (by omega),sI (by omega)]
  have eo3:=Zsz (j:=j) (n:=k+2) (Ev.trans (Dm ..)) (by omega)
  rw[Dm]at Ev
  rw[Zv8 (Ev.trans (Dm ..).symm) (p:=j+(k+2)) (fun t ht=>TR t (by omega))]at eo3
  have e4:val B ((o.set (j+(k+2)) t').drop (j+(k+2)))=t':=Zzp (sI (by omega)) (fun t h1 h2=>by
   rw[Dm]at h2
   rw[eR (by omega),hs t (by omega)];exact hz t (by omega) (by omega))
  rw[e4]at eo3
  have zec:=Zz4 (j:=j) (n:=k+2) hd3 Ev (by omega)
  have zed:(o3.drop j)[k+2]?=some t':=by rw[ix];exact go3
  have vs3:=PU (b:=B) (v:=0) zed
  rw[iP (by omega),vo2,eo3]at he3
  generalize val B ((o3.drop j).take (k+2))=A at*
  obtain⟨z1,z2,z3⟩:=Yke hPP hVP zec hc3 s2 t1 t2 t3 (by rw[<-eu];exact fZ) (by omega:A+B^(k+2)*c3=S+val B Y)
  have z4:cQ t' c3=0:=z3
  simp(disch:=first|(simp;done)|omega|(simp only[Zab,aq,ak];omega)|rfl) [-getElem?_pos,bK,CU,hr,a0,a5,NF,h6,Eu,fH go3,pw,Yk2 (l:=o3) (k:=j+(k+2)) (by omega),z4,sb,show ((k:Int)+2).toNat=k+2 by omega]
  have J2:aD n2 (iu::W3)=[]:=by simp[aD,J1,vt]
  refine J0.mk rfl J2 (fun t ht=>by rw[T.aj,aA ht,P1 t ht,T.aj,aA ht];exact hO t ht) ⟨q-1,o3.set (j+(k+2)) 0,rfl,by omega,by simp,by simp[Ev,ho],hd3.tm (by decide),?_,?_,?_,?_⟩
  ·intro t ht
   rw[eR (by omega),TR t (by omega),eR (by omega)];exact hs t (by omega)
  ·intro t t1 t2
   rw[Dm]at t2
   by_cases htt:t=j+(k+2)
   ·subst htt;rw[sI (by omega)]
   ·rw[eR (by omega),TR t (by omega),eR (by omega),hs t (by omega)];exact hz t (by omega) (by omega)
  ·rw[List.drop_set,aA (by omega),show j+(k+2)-j=k+2 by omega,eu];omega
  ·rw[List.drop_set,aA (by omega),show j+(k+2)-j=k+2 by omega];omega
def Zzv{w:List Nat}(hv:Sl h n2 v (dg Y))(hY:Y.length=k+2)(dY:Dg Y)(h2:n2<=iu)(hN:iu<N)(hl:U.length<1099511627776)(AL:j+k+2<U.length)(hU:h.get iu=some (.cells (dg U) 217 true))(dU:Dg U)
  (f1:Y[k+1]?=some v1) (oC:0<v1) (hz:∀t,j+k+3<=t->t<U.length->U[t]?=some 0) (aP:val B (U.drop j)<B*val B Y):
  Call A.C (.func 253 [] []) [.slice iu j (k+3) cp 1,v] ⟨h,N,w⟩ (J0 h N n2 iu j k U Y w):=by
 have lv:=hv.len
 rw[Zab,hY]at lv
 have f2:=eA (l:=Y) (i:=k) (by omega)
 have g2:=eA (l:=U) (i:=j+k) (by omega)
 have gc:=eA (l:=U) (i:=j+k+1) (by omega)
 have gd:=eA (l:=U) (i:=j+k+2) (by omega)
 generalize Y[k]'(by omega)=v2 at*
 generalize U[j+k]'(by omega)=u2 at*
 generalize U[j+k+1]'(by omega)=c at*
 generalize U[j+k+2]'(by omega)=d at*
 have gd':U[j+(k+2)]?=some d:=by rw[<-qS];exact gd
 have gc':U[j+(k+1)]?=some c:=by rw[<-qS];exact gc
 have zee:v2<B:=dY.get f2
 have CT:v1<B:=dY.get f1
 have zef:u2<B:=dU.get g2
 have hcB:c<B:=dU.get gc
 have TQ:d<B:=dU.get gd
 have hP:0<B^k:=vU (by decide)
 have eU:=Yea (b:=B) (w:=U.drop j) (k:=k) (a:=u2) (c:=c) (d:=d) (by rw[ix];exact g2) (by rw[ix];exact gc) (by rw[ix];exact gd) (fun t h1 h2=>by rw[ix];rw[A4]at h2;exact hz _ (by omega) (by omega))
 have eV:=Yeb (b:=B) f2 f1 hY
 have CJ:=Zz4 (j:=j) (n:=k) dU rfl (by omega)
 have CK:=Zl9 (b:=B) (k:=k) dY (by omega)
 rw[eU,eV]at aP
 generalize val B ((U.drop j).take k)=U' at*
 generalize val B (Y.take k)=V' at*
 obtain⟨i1,o1,c1,e1,w1,q1,q2,q3,q4⟩:=hv.at (fH f1)
 have wS:i1<N:=by omega
 have bF:¬i1=iu:=by omega
 have jT:¬iu=i1:=by omega
 have t1:((k:Int)+2-1)=(k:Int)+1:=by omega
 have t2:((k:Int)+2).toNat=k+2:=by omega
 rw[aV,A.k253 (by simp)]
 have fin:∀(r:T V) (q rr ov:Nat) (K:List Kf) (Q:Rs->Prop),r.get 0=some (.slice iu j (k+3) cp 1)->r.get 1=some v->r.get 5=some (.int .i64 ((k:Int)+2))->r.get 6=some (.int .u64 q)->r.get 7=some (.int .u64 rr)->r.get 8=some (.int .u64 ov)->ov<=1->rr<B->q<B->d*B+c=q*v1+(rr+B*ov)->U'+B^k*(u2+B*(d*B+c))<(q+1)*(V'+B^k*(v2+B*v1))->(∀r x st,r.get 4=some x->J0 h N n2 iu j k U Y [] x st->bH A.C K (some (.ex .ret ⟨r,186,[]⟩ st)) Q)->bH A.C K (fx (A.C.code none A.mZ ⟨r,186,[]⟩ ⟨h,N,[]⟩)) Q:=by
  intro r q rr ov K Q a0 a1 a5 a6 a7 a8 b1 b2 b3 b4 b5 hq
  refine mJ (Zzt hv hY dY h2 hN hl AL hU dU f2 f1 g2 gd hz oC CJ CK eU eV a0 a1 a5 a6 a7 a8 b1 b2 b3 b4 b5) ?_
  rintro e fr st ⟨rfl,r',x,rfl,hx,hs⟩
  exact hq r' x st hx hs
 have out:∀(r:T V) (x:V) (st:St),r.get 4=some x->J0 h N n2 iu j k U Y [] x st->bH A.C [.fin [.tmp 4] ⟨h,N,w⟩] (some (.ex .ret ⟨r,186,[]⟩ st)) (Co (J0 h N n2 iu j k U Y w)):=by
  rintro r x ⟨H,n1,W⟩ h4 ⟨s1,s2,s3,s4⟩
  simp(disch:=first|(simp;done)|omega|(simp only[Zab,aq,ak];omega)|rfl) [-getElem?_pos,h4]
  exact⟨s1,by show aD n2 (aD N W++w)=_;rw[PQ (PR (by simpa[aD]using s2))],s3,s4⟩
 by_cases oV:v1<=d
 ·have Ew:=Ym2 hP CK zee oV aP
  subst Ew
  obtain⟨s1,s2,s3⟩:=Zwq hcB CT
  simp(disch:=first|(simp;done)|omega|(simp only[Zab,aq,ak];omega)|rfl) [-getElem?_pos,A.b253,lv,hN,wS,bF,jT,hU,fH gd',fH gc',q1,q3,q4,t1,t2,bU.bZ]
  refine fin _ 18446744073709551615 (bC (c+d)) (cC (c+d)) _ _ (by simp) (by simp) (by simp) (by simp) (by simp) (by simp) s3 s2 (by decide) ?_ ?_ (fun r x st h4 hs=>out r x st h4 hs)
  ·rw[s1];unfold B;omega
  ·unfold B at aP ⊢;exact aP
 ·have Ab:¬(v1:Int)<=(d:Int):=by omega
  simp(disch:=first|(simp;done)|omega|(simp only[Zab,aq,ak];omega)|rfl) [-getElem?_pos,A.b253,lv,hN,wS,bF,jT,hU,fH gd',fH gc',q1,q3,q4,t1,t2,Ab,bU.bZ]
  refine az (Zv9 (show d<v1 by omega) CT hcB) ?_
  rintro _ h' N' hk ⟨rfl,rfl,rfl⟩
  obtain⟨q,hq⟩:∃q,(d*18446744073709551616+c)/v1=q:=⟨_,rfl⟩
  obtain⟨rr,CQ⟩:∃q,(d*18446744073709551616+c)%v1=q:=⟨_,rfl⟩
  have hinv:d*B+c=q*v1+rr:=by
   have:=tW (d*18446744073709551616+c) v1
   rw[hq,CQ,gk]at this
   exact this.symm
  have JP:rr<v1:=by rw[<-CQ];exact kW _ oC
  have hqB:q<B:=by
   rw[<-hq];apply (pK oC).2
   have:=ky B (show d+1<=v1 by omega)
   rw[gk B v1]
   rw[jg]at this
   unfold B at*;omega
  rw[hq,CQ]
  simp(disch:=first|(simp;done)|omega|(simp only[Zab,aq,ak];omega)|rfl) [-getElem?_pos,lv,hN,wS,bF,jT,bU.bZ]
  refine fin _ q rr 0 _ _ (by simp) (by simp) (by simp) (by simp) (by simp) (by simp) (by omega) (by omega) hqB (by rw[hinv];omega) (Ym3 CJ zef hinv JP) (fun r x st h4 hs=>out r x st h4 hs)
end
end Go.Mx
