/-Long division by words-/
import Derived.Test.YtdlikflhcjmkeaaGreatDoorNaX
set_option linter.all false
namespace Go.Mx
noncomputable section
open Go
variable {P Y a b d k u v1:Nat} {l:List Nat}
def Zcq(h:l[k]?=some d):val b (l.drop k)=d+b*val b (l.drop (k+1)):=by
 have hk:k<l.length:=by
  apply Yrm;intro hc;rw[Yqv hc]at h;cases h
 rw[Ysj hk]
 rw[Yqh hk]at h
 simp only[Yqc]at h
 rw[h];rfl
def Zc9(b:Nat)(l:List Nat)(k:Nat)(hk:k≤l.length):val b l=val b (l.take k)+b^k*val b (l.drop k):=by
 have:=Zhg b (l.take k) (l.drop k)
 rw[Yr0,Yq0,Yrb hk]at this
 exact this
def Ztz{b:Nat}:∀{l:List Nat},(∀(t:Nat),t<l.length→l[t]?=some 0)→val b l=0
 |[],_=>rfl
 |d::l,h=>by
  have h0:=h 0 (by simp)
  simp at h0
  have:=Ztz (b:=b) (l:=l) fun t ht=>by simpa using h (t+1) (by simp;omega)
  simp[val,h0,this]
def Ylz{α:Type}{l:List α}{d:α}(h:l[k]?=some d):k<l.length:=by
 apply Yrm;intro hc;rw[Yqv hc]at h;cases h
def Zfr(hz:∀t,k≤t→t<l.length→l[t]?=some 0):val b (l.drop k)=0:=by
 apply Ztz
 intro t ht
 rw[Yqo]
 rw[Yso]at ht
 exact hz _ (by omega) (by omega)
def Yc2{w:List Nat}{c:Nat}(ha:w[k]?=some a)(hc:w[k+1]?=some c)(hd:w[k+2]?=some d)(hz:∀t,k+3≤t→t<w.length→w[t]?=some 0):
  val b w=val b (w.take k)+b^k*(a+b*(d*b+c)):=by
 have:=Ylz ha
 rw[Zc9 b w k (by omega),Zcq ha,Zcq hc,Zcq hd,Zfr hz]
 generalize b^k=p
 grind
def Yc3{w:List Nat}{c:Nat}(ha:w[k]?=some a)(hc:w[k+1]?=some c)(hl:w.length=k+2):
  val b w=val b (w.take k)+b^k*(a+b*c):=by
 rw[Zc9 b w k (by omega),Zcq ha,Zcq hc,Yrr (by omega)]
 simp[val]
def Zlu(g:∀d∈l,d<b)(hk:k≤l.length):val b (l.take k)<b^k:=by
 have:=Zkq (b:=b) (l:=l.take k) fun d hd=>g d (Ysg hd)
 rwa [Yq0,Yrb hk]at this
def Yl1{c U' v2 V':Nat}(hP:0<P)(hV':V'<P)(hv2:v2<b)(hd:v1≤d)(hW:U'+P*(a+b*(d*b+c))<b*(V'+P*(v2+b*v1))):d=v1:=by
 apply Nat.le_antisymm _ hd
 apply Yr7
 intro hlt
 have h1:b*(P*(b*(v1+1)))≤b*(P*(b*d)):=Yqs _ (Yqs _ (Yqs _ hlt))
 have h2:V'+P*(v2+b*v1)<P*(b*(v1+1)):=by
  have:P*(v2+1)≤P*b:=Yqs _ hv2
  grind
 have h3:b*(V'+P*(v2+b*v1))≤b*(P*(b*(v1+1))):=Yqs _ (Nat.le_of_lt h2)
 have h4:b*(P*(b*d))≤U'+P*(a+b*(d*b+c)):=by
  have:P*(b*(d*b))=b*(P*(b*d)):=by grind
  have:P*(b*(d*b))≤P*(a+b*(d*b+c)):=Yqs _ (by rw[Ysa];omega)
  omega
 omega
def Yl2{U' u2 u1 v2 V' q r:Nat}(hU:U'<P)(hu2:u2<b)(hinv:u1=q*v1+r)(hr:r<v1):U'+P*(u2+b*u1)<(q+1)*(V'+P*(v2+b*v1)):=by
 have h1:u1+1≤(q+1)*v1:=by rw[hinv,Yrf];omega
 have h2:P*(b*(u1+1))≤P*(b*((q+1)*v1)):=Yqs _ (Yqs _ h1)
 have h3:P*(u2+1)≤P*b:=Yqs _ hu2
 have h4:P*(b*((q+1)*v1))≤(q+1)*(V'+P*(v2+b*v1)):=by
  have:(q+1)*(V'+P*(v2+b*v1))=(q+1)*V'+P*((q+1)*v2)+P*(b*((q+1)*v1)):=by grind
  omega
 have h5:U'+P*(u2+b*u1)+P≤U'+P*(b*(u1+1)):=by grind
 omega
def Zsx(q v c:Nat):Nat:=lo64 (lo64 (q*v)+c)
def msCar(q v c:Nat):Nat:=addu (hi64 (q*v)) (hi64 (lo64 (q*v)+c))
def Yiq{q v c w:Nat}(hq:q<B)(hv:v<B)(hc:c<B)(hu:u<B)(hw:w≤1):
  sb64 u (Zsx q v c) w+q*v+c+w=u+B*(msCar q v c+bw64 u (Zsx q v c) w)∧sb64 u (Zsx q v c) w<B∧msCar q v c<B∧bw64 u (Zsx q v c) w≤1∧Zsx q v c<B:=by
 have:q*v≤18446744073709551615*18446744073709551615:=Yr1 (by unfold B at*;omega) (by unfold B at*;omega)
 unfold msCar Zsx
 have h1:lo64 (lo64 (q*v)+c)+B*addu (hi64 (q*v)) (hi64 (lo64 (q*v)+c))=q*v+c∧addu (hi64 (q*v)) (hi64 (lo64 (q*v)+c))<B∧lo64 (lo64 (q*v)+c)<B:=by
  unfold lo64 hi64 addu
  unfold B at*
  generalize q*v=p at*
  omega
 obtain⟨h1,h2,h3⟩:=h1
 generalize lo64 (lo64 (q*v)+c)=l at*
 generalize addu (hi64 (q*v)) (hi64 (lo64 (q*v)+c))=k at*
 have h4:sb64 u l w+l+w=u+B*bw64 u l w∧sb64 u l w<B∧bw64 u l w≤1:=by
  unfold sb64 bw64
  unfold B at*
  split<;>omega
 obtain⟨h4,h5,h6⟩:=h4
 refine⟨?_,h5,h2,h6,h3⟩
 rw[Ysa]
 omega
def Yhs{l w:Nat}(hl:l<B)(hu:u<B)(hw:w≤1):sb64 u l w+l+w=u+B*bw64 u l w∧sb64 u l w<B∧bw64 u l w≤1:=by
 unfold sb64 bw64
 unfold B at*
 split<;>omega
def Ycs{v c:Nat}(hv:v<B)(hu:u<B)(hc:c≤1):lo64 (u+v+c)+B*hi64 (u+v+c)=u+v+c∧lo64 (u+v+c)<B∧hi64 (u+v+c)≤1:=by
 unfold lo64 hi64
 unfold B at*
 omega
def Zi3{b:Nat}:∀{l:List Nat} {k old v:Nat},l[k]?=some old→val b (l.set k v)+b^k*old=val b l+b^k*v
 |[],k,old,v,h=>by simp at h
 |d::l,0,old,v,h=>by simp at h;subst h;simp[val];omega
 |d::l,k+1,old,v,h=>by
  have ih:=Zi3 (b:=b) (l:=l) (k:=k) (old:=old) (v:=v) (by simpa using h)
  simp only[List.set_cons_succ,val,Yqx]
  generalize val b (l.set k v)=p at*
  generalize val b l=q at*
  generalize b^k=z at*
  have:b*(p+z*old)=b*(q+z*v):=by rw[ih]
  grind
def Dg.set'(h:Dg l){k v:Nat}(hv:v<B):Dg (l.set k v):=by
 intro d hd
 rcases List.mem_or_eq_of_mem_set hd with hd|hd
 ·exact h d hd
 ·subst hd;exact hv
def Ylv{W q U t c t' e:Nat}(hb:1<b)(hP:0<P)(hY:Y<P)(hU:U<P)(ht:t'<b)(he:e≤1)(h1:U+q*Y=W+P*c)(h2:t'+c=t+b*e)(hlo:(q-1)*Y≤W+P*t)(hhi:W+P*t<(q+1)*Y):
  (e=0→U+P*t'+q*Y=W+P*t∧U+P*t'<Y∧t'=0)∧(e=1→0<q∧U+P*t'+q*Y=W+P*t+P*b∧W+P*t<q*Y):=by
 have h3:P*t'+P*c=P*t+P*(b*e):=by rw[←Ysa,h2,Ysa]
 constructor
 ·rintro rfl
  simp only[Nat.mul_zero,Ysh]at h3
  have h4:U+P*t'+q*Y=W+P*t:=by omega
  have h5:U+P*t'<Y:=by rw[Yrf]at hhi;omega
  refine⟨h4,h5,?_⟩
  rcases Ytx t' with h|h
  ·exact h
  ·have:=Yqs P h
   omega
 ·rintro rfl
  simp only[Ys0]at h3
  have h4:U+P*t'+q*Y=W+P*t+P*b:=by omega
  have h5:P*(t'+1)≤P*b:=Yqs _ ht
  rw[Ysa]at h5
  have h6:W+P*t<q*Y:=by omega
  refine⟨?_,h4,h6⟩
  rcases Ytx q with h|h
  ·subst h;omega
  ·exact h
def Yi8{q U t' T A c:Nat}(hP:0<P)(hY:Y<P)(hA:A<P)(hc:c≤1)(ht:t'<b)(hq:0<q)(h1:U+P*t'+q*Y=T+P*b)(h2:T<q*Y)(hlo:(q-1)*Y≤T)(h3:A+P*c=U+Y):
  A+(q-1)*Y=T∧A<Y∧(t'+c)%b=0:=by
 obtain⟨s,rfl⟩:∃s,q=s+1:=⟨q-1,by omega⟩
 simp only[Nat.add_sub_cancel]at*
 rw[Yrf]at h1 h2
 have h4:A+P*(t'+c)+s*Y=T+P*b:=by rw[Ysa];omega
 have h5:t'+c=b:=by
  rcases Nat.lt_trichotomy (t'+c) b with h|h|h
  ·have:=Yqs P (show t'+c+1≤b from h)
   rw[Ysa P (t'+c)]at this
   omega
  ·exact h
  ·omega
 rw[h5]at h4
 refine⟨by omega,by omega,?_⟩
 rw[h5,Nat.mod_self]
def Zlt:∀{k n:Nat},B^k≤n→n<B^(k+1)→(wds n).length=k+1∧(wds n)[k]?=some (n/B^k)
 |0,n,h1,h2=>by
  have h0:n≠0:=by
   rw[Ytj]at h1;omega
  rw[Zbn h0]
  have h3:n/B=0:=Ysi (by simpa using h2)
  rw[h3,Zbl]
  simp
  exact Yr2 (by simpa using h2)
 |k+1,n,h1,h2=>by
  have hB:0<B:=by decide
  have hp:0<B^(k+1):=Ys1 hB
  have h0:n≠0:=by omega
  have h3:B^k≤n/B:=(Yth hB).2 (by rw[←Yqx];exact h1)
  have h4:n/B<B^(k+1):=(Yq2 hB).2 (by rw[←Yqx];exact h2)
  obtain⟨e1,e2⟩:=Zlt h3 h4
  rw[Zbn h0]
  refine⟨by simp[e1],?_⟩
  rw[Ysc,e2,Ysq,Yqx,Yq5 (B^k)]
def Yf1{n:Nat}(h:(wds n).length≠0):n≠0:=by
 rintro rfl
 exact h (by rw[Zbl];rfl)
def Zds:∀{k n:Nat},(wds n).length=k+1→B^k≤n∧n<B^(k+1)
 |0,n,h=>by
  have h0:=Yf1 (n:=n) (by omega)
  rw[Zbn h0]at h
  have h1:(wds (n/B)).length=0:=by simpa using h
  have h2:n/B=0:=by
   by_cases hc:n/B=0
   ·exact hc
   ·rw[Zbn hc]at h1;simp at h1
  have:=(Nat.div_eq_zero_iff).1 h2
  rcases this with hb|hb
  ·exact absurd hb (by decide)
  ·simp;omega
 |k+1,n,h=>by
  have h0:=Yf1 (n:=n) (by omega)
  rw[Zbn h0]at h
  obtain⟨h1,h2⟩:=Zds (k:=k) (n:=n/B) (by simpa using h)
  have hB:0<B:=by decide
  exact⟨by rw[Yqx];exact(Yth hB).1 h1,by rw[Yqx];exact(Yq2 hB).1 h2⟩
def Yc1{t s:Nat}(hl:(wds b).length=k+1)(ht:(wds b)[k]?=some t)(h1:9223372036854775808≤t*2^s)(h2:t*2^s<18446744073709551616)(hs:s≤64):
  (wds (b*2^s)).length=k+1∧∃v1,(wds (b*2^s))[k]?=some v1∧9223372036854775808≤v1:=by
 obtain⟨b1,b2⟩:=Zds hl
 have hp:0<B^k:=Ys1 (by decide)
 have hps:=Yrn s
 have htd:t=b/B^k:=by
  have:=(Zlt b1 b2).2
  rw[ht]at this
  exact Yrc this
 have b3:t*B^k≤b:=by rw[htd];exact Nat.div_mul_le_self _ _
 have b4:b<(t+1)*B^k:=by
  rw[htd]
  exact(Yq2 hp).1 (Yrl _)
 have c1:9223372036854775808*B^k≤b*2^s:=by
  have e1:=Yqz (B^k) h1
  have e2:=Yqz (2^s) b3
  have e3:t*2^s*B^k=t*B^k*2^s:=by grind
  omega
 have c2:b*2^s<B^(k+1):=by
  have e0:t+1≤2^(64-s):=by
   have:t<2^(64-s):=by
    apply Nat.lt_of_mul_lt_mul_right (a:=2^s)
    rw[←Yre,show 64-s+s=64 by omega];exact h2
   omega
  have e1:=Yqz (2^s) e0
  rw[←Yre,show 64-s+s=64 by omega]at e1
  have e2:=Ys8 b4 hps
  have e3:=Yqz (B^k) e1
  have e4:(t+1)*2^s*B^k=(t+1)*B^k*2^s:=by grind
  rw[Yqx,Yq5]
  have e5:(2^64:Nat)*B^k=B^k*B:=by unfold B;rw[Yq5]
  rw[Yq5 b]at e2
  omega
 have c0:B^k≤b*2^s:=by omega
 obtain⟨d1,d2⟩:=Zlt c0 c2
 exact⟨d1,_,d2,(Yth hp).2 c1⟩
def Zyr{U:List Nat}{la m s:Nat}(hU:val B U=a*2^s)(hl:U.length=la+1)(hm:m+k+1=la+1)(hkl:m≤U.length)(ha:a<B^la)(hs:s<64)(hv:9223372036854775808≤v1)(hY:v1*B^k≤Y):val B (U.drop m)<Y:=by
 have h1:=Zc9 B U m hkl
 have h2:B^m*val B (U.drop m)<B^la*2^s:=by
  have:=Ys8 ha (Yrn s)
  omega
 have h3:(2:Nat)^s≤9223372036854775808:=(Yq3 (by decide) (show s≤63 by omega):(2:Nat)^s≤2^63)
 have h4:B^la=B^m*B^k:=by rw[←Yre];congr 1;omega
 rw[h4,Ytf]at h2
 have h5:=Nat.lt_of_mul_lt_mul_left h2
 have h6:=Yqs (B^k) h3
 have h7:=Yqs (B^k) hv
 rw[Yq5 v1]at hY
 omega
open Go Go.Proofs
variable {N i iu j k n n2 v1:Nat} {U Y l o:List Nat} {cp:Option Nat} {h:T O} {r0:T V} {v:V}
set_option maxHeartbeats 4000000
set_option maxRecDepth 1000000
def A.w246:=A.q Tryz.f246
def A.lb246_0:=A.ql A.w246 2 []
def A.lb246_1:=A.ql A.w246 1 []
def A.lb246_2:=A.ql A.w246 0 []
def A.ta246_0:=(fun x0 x1 x2=>A.qt A.w246 [x0,x1,x2] [] [1,1,1,1,1]) A.lb246_2 A.lb246_1 A.lb246_0
def A.b246:=(fun x0 x1 x2 y0=>A.qt A.w246 [x0,x1,x2] [([1,1,1,1,1],y0)] []) A.lb246_2 A.lb246_1 A.lb246_0 A.ta246_0
def A.k246:=@A.kk 246 186 [.tmp 4] A.b246 (by kernel_rfl) rfl
def Zz1:Zfi i l≠[]:=by
 unfold Zfi
 split
 ·rintro rfl;simp_all
 ·simp
def Zih{w:List Nat}(h:Zac n (i::w)=[]):¬i<n∧Zac n w=[]:=by
 simp only[Zac]at h
 split at h
 ·exact absurd h Zz1
 ·rename_i hi;exact⟨hi,h⟩
def Zfh{n:Nat}:∀{w u:List Nat},Zac n w=[]→Zac n (w++u)=Zac n u
 |[],u,_=>rfl
 |i::w,u,h=>by
  obtain⟨hi,hw⟩:=Zih h
  simp only[Ysv,Zac,hi,if_false]
  exact Zfh hw
def Zfg{n N:Nat}(hn:n≤N):∀{w:List Nat},Zac N w=[]→Zac n w=[]
 |[],_=>rfl
 |i::w,h=>by
  obtain⟨hi,hw⟩:=Zih h
  simp only[Zac,show ¬i<n by omega,if_false]
  exact Zfg hn hw
def Zss(hi:¬i<n)(h:Zac n l=[]):Zac n (Zfi i l)=[]:=by
 unfold Zfi
 split
 ·exact h
 ·simp only[Zac,hi,if_false];exact h
def Zff{n N:Nat}:∀{w:List Nat},Zac n w=[]→Zac n (Zac N w)=[]
 |[],_=>rfl
 |i::w,h=>by
  obtain⟨hi,hw⟩:=Zih h
  have:=Zff (N:=N) hw
  simp only[Zac]
  split
  ·exact Zss hi this
  ·exact this
def Zvr{r v:Nat}(hr:r<B)(hv:v<B):lo64 (r+v)+B*hi64 (r+v)=r+v∧lo64 (r+v)<B∧hi64 (r+v)≤1:=by
 have:=Ycs (c:=0) hv hr (by omega)
 simpa using this
def GuI(h:T O)(N u1 v1 W Z m:Nat)(r:T V)(st:St):Prop:=st=⟨h,N,[]⟩∧∃rr ov:Nat,r.get 6=some (.int .u64 m)∧r.get 7=some (.int .u64 rr)∧r.get 8=some (.int .u64 ov)∧ov≤1∧rr<B∧m<B∧u1=m*v1+(rr+B*ov)∧W<(m+1)*Z
structure MsI (h:T O) (N n2 iu j q:Nat) (U Y:List Nat) (m:Nat) (r:T V) (st:St):Prop where
 n:st.n=N
 w:Zac n2 st.w=[]
 old:∀t,t≠iu→st.h.get t=h.get t
 ex:∃(i bw c:Nat) (o:List Nat),i+m=Y.length∧r.get 105=some (.int .i64 i)∧r.get 11=some (.int .u64 bw)∧r.get 12=some (.int .u64 c)∧st.h.get iu=some (.cells (dg o) 211 true)∧o.length=U.length∧Dg o∧(∀t,(t<j∨j+i≤t)→o[t]?=U[t]?)∧bw≤1∧c<B∧val B (o.drop j)+q*val B (Y.take i)=val B (U.drop j)+B^i*(c+bw)
structure AbI (h:T O) (N n2 iu j:Nat) (U Y:List Nat) (m:Nat) (r:T V) (st:St):Prop where
 n:st.n=N
 w:Zac n2 st.w=[]
 old:∀t,t≠iu→st.h.get t=h.get t
 ex:∃(i c:Nat) (o:List Nat),i+m=Y.length∧r.get 157=some (.int .i64 i)∧r.get 17=some (.int .u64 c)∧st.h.get iu=some (.cells (dg o) 211 true)∧o.length=U.length∧Dg o∧(∀t,(t<j∨j+i≤t)→o[t]?=U[t]?)∧c≤1∧val B (o.drop j)+B^i*c=val B (U.drop j)+val B (Y.take i)
structure Ykh (h:T O) (N n2 iu j k:Nat) (U Y:List Nat) (w:List Nat) (x:V) (st:St):Prop where
 n:st.n=N
 w:Zac n2 st.w=Zac n2 w
 old:∀t,t≠iu→st.h.get t=h.get t
 ex:∃(q:Nat) (o:List Nat),x=.int .u64 q∧q<B∧st.h.get iu=some (.cells (dg o) 211 true)∧o.length=U.length∧Dg o∧(∀t,t<j→o[t]?=U[t]?)∧(∀t,j+k+2≤t→t<o.length→o[t]?=some 0)∧val B (o.drop j)+q*val B Y=val B (U.drop j)∧val B (o.drop j)<val B Y
def Yir{h:T O}{N n2 iu j q:Nat}{U Y:List Nat}{v:V}{cp:Option Nat}{r0:T V}(hv:Sl h n2 v (dg Y))(dY:Dg Y)(h2:n2≤iu)(hj:j+Y.length<U.length)(hl:U.length<1099511627776)(hq:q<B)
  (a0:r0.get 0=some (.slice iu j (Y.length+1) cp 1)) (a1:r0.get 1=some v) (a6:r0.get 6=some (.int .u64 q)) (a104:r0.get 104=some (.int .i64 Y.length)):
  ∀k r st,(∀t,inD [(11,16),(105,139)] t=false→r.get t=r0.get t)→Fx [(11,16),(105,139)] r0 186 ⟨r,186,[]⟩→MsI h N n2 iu j q U Y k r st→Code A.C none A.lb246_1 ⟨r,186,[]⟩ st (Rd [(11,16),(105,139)] r0 186 (MsI h N n2 iu j q U Y) k (fun e r st=>e=.exit 2∧MsI h N n2 iu j q U Y 0 r st)):=by
 rintro m r ⟨H,n1,W⟩ hr hf ⟨hn,hW,hO,i,bw,c,o,hi,h105,h11,h12,hrow,ho,hd,hs,hb,hc,he⟩
 simp only at hn hW hO hrow
 subst hn
 have lv:=hv.len
 rw[Zad]at lv
 rw[Zai]
 cases m with
 |zero=>
  have:i=Y.length:=by omega
  subst this
  simp[A.lb246_1,hr,hf,a104,h105]
  exact⟨rfl,hW,hO,Y.length,bw,c,o,by omega,by simp[h105],by simp[h11],by simp[h12],hrow,ho,hd,hs,hb,hc,he⟩
 |succ m=>
  have hlt:i<Y.length:=by omega
  have gy:=Yqh hlt
  generalize Y[i]=y at*
  have hy:y<B:=dY.get gy
  obtain⟨i2,o2,c2,e2,w2,p1,p2,p3,p4⟩:=hv.at (Za5 gy)
  have hne:i2≠iu:=by omega
  have p3:=(hO i2 hne).trans p3
  have go:o[j+i]?=some (o[j+i]'(by omega)):=Yqh (by omega)
  generalize o[j+i]'(by omega)=u at*
  have hu:u<B:=hd.get go
  obtain⟨s1,s2,s3,s4,s5⟩:=Yiq hq hy hc hu hb
  have hlt3:i<Y.length+1:=by omega
  simp[A.lb246_1,hr,a104,h105,hlt,a6,a1,lv,p1,p3,p4]
  refine Zaa (Zjn hq hy) ?_
  rintro _ H n1 hk3 ⟨rfl,rfl,rfl⟩
  have q1:lo64 (lo64 (q*y)+c)=Zsx q y c:=rfl
  have q2:addu (hi64 (q*y)) (hi64 (lo64 (q*y)+c))=msCar q y c:=rfl
  have hbi:(bw:Int)=0∨(bw:Int)=1:=by omega
  simp(disch:=first|(simp;done)|omega|(simp only[Zad,Zae,Yqd];omega)|rfl) [-getElem?_pos,hr,hf,h105,hlt3,a0,h11,h12,hrow,Za5 go,Zcv,q1,q2,hbi]
  have hw':¬iu<n2:=by omega
  refine⟨m,by omega,rfl,by simp[Zac,hW,hw'],fun t ht=>by rw[T.get_set,Yqe ht];exact hO t ht,i+1,bw64 u (Zsx q y c) bw,msCar q y c,o.set (j+i) (sb64 u (Zsx q y c) bw),by omega,by simp,by simp,by simp,by simp,by simp[ho],hd.set' s2,?_,s4,s3,?_⟩
  ·intro t ht
   rw[Yqj (by omega)]
   exact hs t (by omega)
  ·have go2:(o.drop j)[i]?=some u:=by rw[Yqo];exact go
   have v1:=Zi3 (b:=B) (v:=sb64 u (Zsx q y c) bw) go2
   rw[List.drop_set,Yqe (by omega),show j+i-j=i by omega,Zbx gy]
   have e1:B^i*(sb64 u (Zsx q y c) bw+q*y+c+bw)=B^i*(u+B*(msCar q y c+bw64 u (Zsx q y c) bw)):=by rw[s1]
   rw[Yqx]
   generalize val B ((o.drop j).set i (sb64 u (Zsx q y c) bw))=z1 at*
   generalize val B (o.drop j)=z2 at*
   generalize val B (U.drop j)=z3 at*
   generalize val B (List.take i Y)=z4 at*
   generalize sb64 u (Zsx q y c) bw=z5 at*
   generalize msCar q y c=z6 at*
   generalize bw64 u (Zsx q y c) bw=z7 at*
   generalize B^i=z8 at*
   clear s1 gy hy go go2 hu hs hd
   grind
def Ykg{h:T O}{N n2 iu j:Nat}{U Y:List Nat}{v:V}{cp:Option Nat}{r0:T V}(hv:Sl h n2 v (dg Y))(dY:Dg Y)(h2:n2≤iu)(hN:iu<N)(hj:j+Y.length<U.length)(hl:U.length<1099511627776)
  (a0:r0.get 0=some (.slice iu j (Y.length+1) cp 1)) (a1:r0.get 1=some v) (a156:r0.get 156=some (.int .i64 Y.length)):
  ∀k r st,(∀t,inD [(17,18),(157,176)] t=false→r.get t=r0.get t)→Fx [(17,18),(157,176)] r0 186 ⟨r,186,[]⟩→AbI h N n2 iu j U Y k r st→Code A.C none A.lb246_0 ⟨r,186,[]⟩ st (Rd [(17,18),(157,176)] r0 186 (AbI h N n2 iu j U Y) k (fun e r st=>e=.exit 4∧AbI h N n2 iu j U Y 0 r st)):=by
 rintro m r ⟨H,n1,W⟩ hr hf ⟨hn,hW,hO,i,c,o,hi,h157,h17,hrow,ho,hd,hs,hc,he⟩
 simp only at hn hW hO hrow
 subst hn
 have lv:=hv.len
 rw[Zad]at lv
 rw[Zai]
 cases m with
 |zero=>
  have:i=Y.length:=by omega
  subst this
  simp[A.lb246_0,hr,hf,a156,h157]
  exact⟨rfl,hW,hO,Y.length,c,o,by omega,by simp[h157],by simp[h17],hrow,ho,hd,hs,hc,he⟩
 |succ m=>
  have hlt:i<Y.length:=by omega
  have gy:=Yqh hlt
  generalize Y[i]=y at*
  have hy:y<B:=dY.get gy
  obtain⟨i2,o2,c2,e2,w2,p1,p2,p3,p4⟩:=hv.at (Za5 gy)
  have hne:i2≠iu:=by omega
  have p3:=(hO i2 hne).trans p3
  have go:o[j+i]?=some (o[j+i]'(by omega)):=Yqh (by omega)
  generalize o[j+i]'(by omega)=u at*
  have hu:u<B:=hd.get go
  obtain⟨s1,s2,s3⟩:=Ycs hy hu hc
  have hlt3:i<Y.length+1:=by omega
  have hci:(c:Int)=0∨(c:Int)=1:=by omega
  have hw':¬iu<n2:=by omega
  have hiN:i2<n1:=by omega
  have hne2:¬iu=i2:=fun hc=>hne hc.symm
  simp(disch:=first|(simp;done)|omega|(simp only[Zad,Zae,Yqd];omega)|rfl) [-getElem?_pos,A.lb246_0,hr,hf,a156,h157,hlt,hlt3,hN,hiN,hne,hne2,Zam.chk,a0,a1,lv,p1,p3,p4,hrow,Za5 go,Zcv,h17,hci]
  rw[Zu1 (by simp[hN,hne2])]
  simp(disch:=first|(simp;done)|omega|(simp only[Zad,Zae,Yqd];omega)|rfl) [hr,hf,h157]
  refine⟨m,by omega,rfl,by simp[Zac,hW,hw'],fun t ht=>by rw[T.get_set,Yqe ht];exact hO t ht,i+1,hi64 (u+y+c),o.set (j+i) (lo64 (u+y+c)),by omega,by simp,by simp,by simp,by simp[ho],hd.set' s2,?_,s3,?_⟩
  ·intro t ht
   rw[Yqj (by omega)]
   exact hs t (by omega)
  ·have go2:(o.drop j)[i]?=some u:=by rw[Yqo];exact go
   have v1:=Zi3 (b:=B) (v:=lo64 (u+y+c)) go2
   rw[List.drop_set,Yqe (by omega),show j+i-j=i by omega,Zbx gy]
   have e1:B^i*(lo64 (u+y+c)+B*hi64 (u+y+c))=B^i*(u+y+c):=by rw[s1]
   rw[Yqx]
   generalize val B ((o.drop j).set i (lo64 (u+y+c)))=z1 at*
   generalize val B (o.drop j)=z2 at*
   generalize val B (U.drop j)=z3 at*
   generalize val B (List.take i Y)=z4 at*
   generalize lo64 (u+y+c)=z5 at*
   generalize hi64 (u+y+c)=z6 at*
   generalize B^i=z8 at*
   clear s1 gy hy go go2 hu hs hd
   grind
def Yjh{u2 u1 v2 U' V' P:Nat}{e0:TypeId}{rw0:Bool}(hv:Sl h n2 v (dg Y))(hY:Y.length=k+2)(dY:Dg Y)(hl:U.length<1099511627776)(hjk:j+k+2<U.length)(hU:h.get iu=some (.cells (dg U) e0 rw0))(dU:Dg U)
  (f2:Y[k]?=some v2) (f1:Y[k+1]?=some v1) (g2:U[j+k]?=some u2) (hv1:0<v1) (hP:0<P) (hU':U'<P) (hV':V'<P)
  (a0:r0.get 0=some (.slice iu j (k+3) cp 1)) (a1:r0.get 1=some v) (a5:r0.get 5=some (.int .i64 ((k:Int)+2))):
  ∀m r st,(∀t,inD [(6,10),(63,103)] t=false→r.get t=r0.get t)→Fx [(6,10),(63,103)] r0 186 ⟨r,186,[]⟩→GuI h N u1 v1 (U'+P*(u2+B*u1)) (V'+P*(v2+B*v1)) m r st→Code A.C none A.lb246_2 ⟨r,186,[]⟩ st (Rd [(6,10),(63,103)] r0 186 (GuI h N u1 v1 (U'+P*(u2+B*u1)) (V'+P*(v2+B*v1))) m (fun e r st=>e=.exit 0∧st=⟨h,N,[]⟩∧∃q:Nat,r.get 6=some (.int .u64 q)∧q<B∧(q-1)*(V'+P*(v2+B*v1))≤U'+P*(u2+B*u1)∧U'+P*(u2+B*u1)<(q+1)*(V'+P*(v2+B*v1)))):=by
 rintro m r _ hr hf ⟨rfl,rr,ov,h6,h7,h8,hov,hrr,hm,hinv,hhi⟩
 have lv:=hv.len
 rw[Zad]at lv
 rw[Zai]
 have hv2:v2<B:=dY.get f2
 have hv1B:v1<B:=dY.get f1
 have hu2:u2<B:=dU.get g2
 have fin:m*v2≤(rr+B*ov)*B+u2→(m-1)*(V'+P*(v2+B*v1))≤U'+P*(u2+B*u1):=by
  intro hc
  cases m with
  |zero=>simp
  |succ s=>exact Yja hv1 hV' (by omega) hinv hc
 by_cases h0:ov=0
 ·subst h0
  simp only[Nat.mul_zero,Ysh]at hinv fin
  obtain⟨i2,o2,c2,e2,w2,p1,p2,p3,p4⟩:=hv.at (Za5 f2)
  have hk1:((k:Int)+2-2)=(k:Int):=by omega
  have hkl:(k:Int)<((k+2:Nat):Int):=by omega
  have hkl2:(k:Int)<((k+3:Nat):Int):=by omega
  rw[hY]at lv
  simp(disch:=first|(simp;done)|omega|(simp only[Zad,Zae,Yqd];omega)|rfl) [A.lb246_2,hr,hf,h6,h7,h8,a0,a1,a5,lv,p1,p3,p4,Zak,hk1,hkl]
  refine Zaa (Zjn hm hv2) ?_
  rintro _ h N hk3 ⟨rfl,rfl,rfl⟩
  have hp:lo64 (m*v2)+B*hi64 (m*v2)=m*v2:=by
   have:=Yrt (m*v2) B
   unfold lo64 hi64;unfold B at*;omega
  have hpl:lo64 (m*v2)<B:=Yaw
  obtain⟨i1,o1,c1,e1,w1,q1,q2,q3,q4⟩:=hv.at (Za5 f1)
  obtain⟨hi,hhi2⟩:∃x,hi64 (m*v2)=x:=⟨_,rfl⟩
  obtain⟨lo,hlo2⟩:∃x,lo64 (m*v2)=x:=⟨_,rfl⟩
  rw[hhi2,hlo2]at hp
  rw[hlo2]at hpl
  by_cases c1:hi<rr
  ·have:=fin (by
    have:=Yqs B c1
    rw[Yq5 rr B];rw[Nat.succ_eq_add_one,Ysa]at this;omega)
   simp[hf,h6,h7,hhi2,hlo2,c1]
   exact⟨hm,this,hhi⟩
  ·have dec:rr*B+u2<m*v2→0<m∧u1=(m-1)*v1+(rr+v1)∧U'+P*(u2+B*u1)<(m-1+1)*(V'+P*(v2+B*v1)):=by
    intro hc
    have h3:=Yi9 hU' hinv hc (b:=B) (P:=P) (V':=V')
    cases m with
    |zero=>omega
    |succ s=> 
     refine⟨by omega,?_,by simpa using h3⟩
     rw[hinv,Yrf];simp;omega
   obtain⟨s1,s2,s3⟩:=Zvr hrr hv1B
   have hk2:((k:Int)+2-1)=(k:Int)+1:=by omega
   have hkl4:(k:Int)+1<((k+2:Nat):Int):=by omega
   have sbm:0<m→subu m 1=m-1:=fun hc=>Zgp hc (by unfold B at hm;omega)
   by_cases c2:hi=rr
   ·by_cases c3:lo≤u2
    ·have:=fin (by rw[←hp,c2,Yq5 rr B];omega)
     simp(disch:=first|(simp;done)|omega|(simp only[Zad,Zae,Yqd];omega)|rfl) [-getElem?_pos,hr,hf,h6,h7,h8,hhi2,hlo2,c1,c2,c3,Zak,a0,a5,hk1,hkl2,hU,Za5 g2]
     exact⟨hm,this,hhi⟩
    ·obtain⟨d1,d2,d3⟩:=dec (by rw[←hp,c2,Yq5 rr B];omega)
     have sb:=sbm d1
     simp(disch:=first|(simp;done)|omega|(simp only[Zad,Zae,Yqd];omega)|rfl) [-getElem?_pos,hr,hf,h6,h7,h8,hhi2,hlo2,c1,c2,c3,Zak,a0,a1,a5,hk1,hk2,hkl2,hU,Za5 g2,lv,q1,q3,q4,hkl4,sb]
     exact⟨m-1,by omega,rfl,lo64 (rr+v1),hi64 (rr+v1),by simp,by simp,by simp,s3,s2,by omega,by rw[s1];exact d2,d3⟩
   ·obtain⟨d1,d2,d3⟩:=dec (by
     have:rr+1≤hi:=by omega
     have:=Yqs B this
     rw[Ysa]at this
     rw[←hp,Yq5 rr B];omega)
    have sb:=sbm d1
    simp(disch:=first|(simp;done)|omega|(simp only[Zad,Zae,Yqd];omega)|rfl) [hr,hf,h6,h7,h8,hhi2,hlo2,c1,c2,Zak,a0,a1,a5,hk1,hk2,lv,q1,q3,q4,hkl4,sb]
    exact⟨m-1,by omega,rfl,lo64 (rr+v1),hi64 (rr+v1),by simp,by simp,by simp,s3,s2,by omega,by rw[s1];exact d2,d3⟩
 ·have:ov=1:=by omega
  subst this
  have:=fin (by
   have h1:m*v2≤B*B:=Yr1 (by omega) (by omega)
   rw[Ys0,Yrf];omega)
  simp[A.lb246_2,hf,h8]
  exact⟨m,by simp[h6],hm,this,hhi⟩
def Zsb(hl:o.length=U.length)(hj:j+n≤U.length):val B (o.drop j)=val B ((o.drop j).take n)+B^n*val B (o.drop (j+n)):=by
 have:=Zc9 B (o.drop j) n (by rw[Yso];omega)
 rw[List.drop_drop]at this
 exact this
def Zvd{p:Nat}(hl:o.length=U.length)(hs:∀t,p≤t→o[t]?=U[t]?):o.drop p=U.drop p:=by
 apply Yq9
 intro t
 rw[Yqo,Yqo]
 exact hs _ (by omega)
def Zy6(hd:Dg o)(hl:o.length=U.length)(hj:j+n≤U.length):val B ((o.drop j).take n)<B^n:=by
 apply Zlu
 ·intro d h;exact hd d (List.mem_of_mem_drop h)
 ·rw[Yso];omega
def Zyq{p d:Nat}(hd:o[p]?=some d)(hz:∀t,p+1≤t→t<o.length→o[t]?=some 0):val B (o.drop p)=d:=by
 rw[Zcq hd,Zfr hz];omega
def Yjx(h:k<l.length):splice (dg l) k [.int .u64 0]=dg (l.set k 0):=Zcv (v:=0) h
def Zyv{d u2 u1 v2 U' V' q0 r0' ov0:Nat}(hv:Sl h n2 v (dg Y))(hY:Y.length=k+2)(dY:Dg Y)(h2:n2≤iu)(hN:iu<N)(hl:U.length<1099511627776)(hjk:j+k+2<U.length)(hU:h.get iu=some (.cells (dg U) 211 true))(dU:Dg U)
  (f2:Y[k]?=some v2) (f1:Y[k+1]?=some v1) (g2:U[j+k]?=some u2) (gd:U[j+k+2]?=some d) (hz:∀t,j+k+3≤t→t<U.length→U[t]?=some 0) (hv1:0<v1) (hU':U'<B^k) (hV':V'<B^k) (eU:val B (U.drop j)=U'+B^k*(u2+B*u1)) (eV:val B Y=V'+B^k*(v2+B*v1))
  (a0:r0.get 0=some (.slice iu j (k+3) cp 1)) (a1:r0.get 1=some v) (a5:r0.get 5=some (.int .i64 ((k:Int)+2))) (a6:r0.get 6=some (.int .u64 q0)) (a7:r0.get 7=some (.int .u64 r0')) (a8:r0.get 8=some (.int .u64 ov0))
  (b1:ov0≤1) (b2:r0'<B) (b3:q0<B) (b4:u1=q0*v1+(r0'+B*ov0)) (b5:U'+B^k*(u2+B*u1)<(q0+1)*(V'+B^k*(v2+B*v1))):
  Code A.C none A.ta246_0 ⟨r0,186,[]⟩ ⟨h,N,[]⟩ (fun e fr st=>e=.ret∧∃r x,fr=⟨r,186,[]⟩∧r.get 4=some x∧Ykh h N n2 iu j k U Y [] x st):=by
 have hP:0<B^k:=Ys1 (by decide)
 rw[Zai]
 simp[A.ta246_0]
 refine Zaj [(6,10),(63,103)] _ (GuI h N u1 v1 (U'+B^k*(u2+B*u1)) (V'+B^k*(v2+B*v1))) q0 ?_ (Yjh hv hY dY hl hjk hU dU f2 f1 g2 hv1 hP hU' hV' a0 a1 a5) ?_
 ·exact⟨rfl,r0',ov0,a6,a7,a8,b1,b2,b3,b4,b5⟩
 rintro e r _ hr ⟨rfl,rfl,q,h6,hq,hlo,hhi⟩
 rw[←eU,←eV]at hlo hhi
 simp[hr,a5]
 refine Zaj [(11,16),(105,139)] _ (MsI h N n2 iu j q U Y) Y.length ?_ (Yir hv dY h2 (by omega) hl hq (cp:=cp) (by simp[hr,a0,hY]) (by simp[hr,a1]) (by simp[h6]) (by simp[hY])) ?_
 ·exact⟨rfl,rfl,fun _ _=>rfl,0,0,0,U,by omega,by simp,by simp,by simp,hU,rfl,dU,fun _ _=>rfl,by omega,by decide,by simp[val]⟩
 rintro e r1 ⟨H,n1,W⟩ hr1 ⟨rfl,hn,hW,hO,i,bw,cc,o,hi,h105,h11,h12,hrow,ho,hd,hs,hb,hc,he⟩
 simp only at hn hW hO hrow
 subst hn
 have:i=k+2:=by omega
 subst this
 have god:o[j+(k+2)]?=some d:=by rw[hs _ (by omega)];exact gd
 have hdB:d<B:=dU.get gd
 obtain⟨s1,s2,s3⟩:=Yhs hc hdB hb
 have hbi:(bw:Int)=0∨(bw:Int)=1:=by omega
 have hw':¬iu<n2:=by omega
 obtain⟨t',ht'⟩:∃x,sb64 d cc bw=x:=⟨_,rfl⟩
 obtain⟨ee,hee⟩:∃x,bw64 d cc bw=x:=⟨_,rfl⟩
 rw[ht',hee]at s1
 rw[ht']at s2
 rw[hee]at s3
 simp(disch:=first|(simp;done)|omega|(simp only[Zad,Zae,Yqd];omega)|rfl) [-getElem?_pos,hr1,hr,a0,a5,h11,h12,h6,hrow,Za5 god,Zcv,hbi,ht',hee,show ((k:Int)+2).toNat=k+2 by omega]
 have hVP:val B Y<B^(k+2):=by rw[←hY];exact Zkq dY
 have hPP:0<B^(k+2):=Ys1 (by decide)
 have eo:=Zsb (j:=j) (n:=k+2) ho (by omega)
 have eu:=Zsb (o:=U) (j:=j) (n:=k+2) rfl (by omega)
 rw[Zvd ho (p:=j+(k+2)) (fun t ht=>hs t (by omega))]at eo
 have etop:val B (U.drop (j+(k+2)))=d:=Zyq gd (fun t h1 h2=>hz t (by omega) h2)
 rw[etop]at eo eu
 have hSP:=Zy6 (j:=j) (n:=k+2) hd ho (by omega)
 have go2:(o.drop j)[k+2]?=some d:=by rw[Yqo];exact god
 have vs:=Zi3 (b:=B) (v:=t') go2
 rw[Yqp (by omega)]at he
 generalize val B ((o.drop j).take (k+2))=S at*
 generalize val B ((U.drop j).take (k+2))=W0 at*
 have h1:S+q*val B Y=W0+B^(k+2)*(cc+bw):=by rw[eo,eu]at he;omega
 have kt:=Ylv (by decide) hPP hVP hSP s2 s3 h1 (by omega:t'+(cc+bw)=d+B*ee) (by rw[←eu];exact hlo) (by rw[←eu];exact hhi)
 have hdrop:(o.set (j+(k+2)) t').drop j=(o.drop j).set (k+2) t':=by rw[List.drop_set,Yqe (by omega),show j+(k+2)-j=k+2 by omega]
 have vo2:val B ((o.set (j+(k+2)) t').drop j)=S+B^(k+2)*t':=by rw[hdrop];omega
 have hd2:=hd.set' (k:=j+(k+2)) s2
 have hW2:Zac n2 (iu::W)=[]:=by simp[Zac,hW,hw']
 by_cases he0:ee=0
 ·obtain⟨t1,t2,t3⟩:=kt.1 he0
  subst t3
  simp(disch:=first|(simp;done)|omega|(simp only[Zad,Zae,Yqd];omega)|rfl) [-getElem?_pos,hr1,hr,h6,he0]
  refine Ykh.mk rfl hW2 (fun t ht=>by rw[T.get_set,Yqe ht];exact hO t ht) ⟨q,o.set (j+(k+2)) 0,rfl,hq,by simp,by simp[ho],hd2,?_,?_,?_,?_⟩
  ·intro t ht
   rw[Yqj (by omega)];exact hs t (by omega)
  ·intro t t1 t2
   rw[Ytk]at t2
   by_cases htt:t=j+(k+2)
   ·subst htt;rw[Yq7 (by omega)]
   ·rw[Yqj (by omega),hs t (by omega)];exact hz t (by omega) (by omega)
  ·rw[vo2,eu];omega
  ·rw[vo2];omega
 ·have he1:ee=1:=by omega
  obtain⟨t1,t2,t3⟩:=kt.2 he1
  have sb:subu q 1=q-1:=Zgp t1 (by unfold B at hq;omega)
  have hv2:Sl (H.set iu (.cells (dg (o.set (j+(k+2)) t')) 211 true)) n2 v (dg Y):=hv.keep ⟨Yqg _,fun i hi=>by rw[T.get_set,Yqe (by omega)];exact hO i (by omega)⟩
  simp[hr1,hr,a5,he0]
  refine Zaj [(17,18),(157,176)] _ (AbI _ n1 n2 iu j (o.set (j+(k+2)) t') Y) Y.length ?_ (Ykg hv2 dY h2 hN (by simp;omega) (by simp;omega) (cp:=cp) (by simp[hr1,hr,a0,hY]) (by simp[hr1,hr,a1]) (by simp[hY])) ?_
  ·exact⟨rfl,hW2,fun _ _=>rfl,0,0,o.set (j+(k+2)) t',by omega,by simp,by simp,by simp,rfl,hd2,fun _ _=>rfl,by omega,by simp[val]⟩
  rintro e r2 ⟨H3,n3,W3⟩ hr2 ⟨rfl,hn3,hW3,hO3,i3,c3,o3,hi3,h157,h17,hrow3,ho3,hd3,hs3,hc3,he3⟩
  simp only at hn3 hW3 hO3 hrow3
  subst hn3
  have:i3=k+2:=by omega
  subst this
  have go3:o3[j+(k+2)]?=some t':=by rw[hs3 _ (by omega),Yq7 (by omega)]
  have eo3:=Zsb (j:=j) (n:=k+2) (ho3.trans (Ytk ..)) (by omega)
  rw[Ytk]at ho3
  rw[Zvd (ho3.trans (Ytk ..).symm) (p:=j+(k+2)) (fun t ht=>hs3 t (by omega))]at eo3
  have e4:val B ((o.set (j+(k+2)) t').drop (j+(k+2)))=t':=Zyq (Yq7 (by omega)) (fun t h1 h2=>by
   rw[Ytk]at h2
   rw[Yqj (by omega),hs t (by omega)];exact hz t (by omega) (by omega))
  rw[e4]at eo3
  have hSP3:=Zy6 (j:=j) (n:=k+2) hd3 ho3 (by omega)
  have go32:(o3.drop j)[k+2]?=some t':=by rw[Yqo];exact go3
  have vs3:=Zi3 (b:=B) (v:=0) go32
  rw[Yqp (by omega),vo2,eo3]at he3
  generalize val B ((o3.drop j).take (k+2))=A at*
  obtain⟨z1,z2,z3⟩:=Yi8 hPP hVP hSP3 hc3 s2 t1 t2 t3 (by rw[←eu];exact hlo) (by omega:A+B^(k+2)*c3=S+val B Y)
  have z4:addu t' c3=0:=z3
  simp(disch:=first|(simp;done)|omega|(simp only[Zad,Zae,Yqd];omega)|rfl) [-getElem?_pos,hr2,hr1,hr,a0,a5,h17,h6,hrow3,Za5 go3,Zcv,Yjx (l:=o3) (k:=j+(k+2)) (by omega),z4,sb,show ((k:Int)+2).toNat=k+2 by omega]
  have hW4:Zac n2 (iu::W3)=[]:=by simp[Zac,hW3,hw']
  refine Ykh.mk rfl hW4 (fun t ht=>by rw[T.get_set,Yqe ht,hO3 t ht,T.get_set,Yqe ht];exact hO t ht) ⟨q-1,o3.set (j+(k+2)) 0,rfl,by omega,by simp,by simp[ho3,ho],hd3.set' (by decide),?_,?_,?_,?_⟩
  ·intro t ht
   rw[Yqj (by omega),hs3 t (by omega),Yqj (by omega)];exact hs t (by omega)
  ·intro t t1 t2
   rw[Ytk]at t2
   by_cases htt:t=j+(k+2)
   ·subst htt;rw[Yq7 (by omega)]
   ·rw[Yqj (by omega),hs3 t (by omega),Yqj (by omega),hs t (by omega)];exact hz t (by omega) (by omega)
  ·rw[List.drop_set,Yqe (by omega),show j+(k+2)-j=k+2 by omega,eu];omega
  ·rw[List.drop_set,Yqe (by omega),show j+(k+2)-j=k+2 by omega];omega
def Zyx{w:List Nat}(hv:Sl h n2 v (dg Y))(hY:Y.length=k+2)(dY:Dg Y)(h2:n2≤iu)(hN:iu<N)(hl:U.length<1099511627776)(hjk:j+k+2<U.length)(hU:h.get iu=some (.cells (dg U) 211 true))(dU:Dg U)
  (f1:Y[k+1]?=some v1) (hv1:0<v1) (hz:∀t,j+k+3≤t→t<U.length→U[t]?=some 0) (hlt:val B (U.drop j)<B*val B Y):
  Call A.C (.func 246 [] []) [.slice iu j (k+3) cp 1,v] ⟨h,N,w⟩ (Ykh h N n2 iu j k U Y w):=by
 have lv:=hv.len
 rw[Zad,hY]at lv
 have f2:=Yqh (l:=Y) (i:=k) (by omega)
 have g2:=Yqh (l:=U) (i:=j+k) (by omega)
 have gc:=Yqh (l:=U) (i:=j+k+1) (by omega)
 have gd:=Yqh (l:=U) (i:=j+k+2) (by omega)
 generalize Y[k]'(by omega)=v2 at*
 generalize U[j+k]'(by omega)=u2 at*
 generalize U[j+k+1]'(by omega)=c at*
 generalize U[j+k+2]'(by omega)=d at*
 have gd':U[j+(k+2)]?=some d:=by rw[←Yrq];exact gd
 have gc':U[j+(k+1)]?=some c:=by rw[←Yrq];exact gc
 have hv2B:v2<B:=dY.get f2
 have hv1B:v1<B:=dY.get f1
 have hu2B:u2<B:=dU.get g2
 have hcB:c<B:=dU.get gc
 have hP:0<B^k:=Ys1 (by decide)
 have eU:=Yc2 (b:=B) (w:=U.drop j) (k:=k) (a:=u2) (c:=c) (d:=d) (by rw[Yqo];exact g2) (by rw[Yqo];exact gc) (by rw[Yqo];exact gd) (fun t h1 h2=>by rw[Yqo];rw[Yso]at h2;exact hz _ (by omega) (by omega))
 have eV:=Yc3 (b:=B) f2 f1 hY
 have hU':=Zy6 (j:=j) (n:=k) dU rfl (by omega)
 have hV':=Zlu (b:=B) (k:=k) dY (by omega)
 rw[eU,eV]at hlt
 generalize val B ((U.drop j).take k)=U' at*
 generalize val B (Y.take k)=V' at*
 obtain⟨i1,o1,c1,e1,w1,q1,q2,q3,q4⟩:=hv.at (Za5 f1)
 have hi1:i1<N:=by omega
 have hne:¬i1=iu:=by omega
 have hne2:¬iu=i1:=by omega
 have t1:((k:Int)+2-1)=(k:Int)+1:=by omega
 have t2:((k:Int)+2).toNat=k+2:=by omega
 rw[Zab,A.k246 (by simp)]
 have fin:∀(r:T V) (q rr ov:Nat) (K:List Kf) (Q:Rs→Prop),r.get 0=some (.slice iu j (k+3) cp 1)→r.get 1=some v→r.get 5=some (.int .i64 ((k:Int)+2))→r.get 6=some (.int .u64 q)→r.get 7=some (.int .u64 rr)→r.get 8=some (.int .u64 ov)→ov≤1→rr<B→q<B→d*B+c=q*v1+(rr+B*ov)→U'+B^k*(u2+B*(d*B+c))<(q+1)*(V'+B^k*(v2+B*v1))→(∀r x st,r.get 4=some x→Ykh h N n2 iu j k U Y [] x st→Run A.C K (some (.ex .ret ⟨r,186,[]⟩ st)) Q)→Run A.C K (exR (A.C.code none A.ta246_0 ⟨r,186,[]⟩ ⟨h,N,[]⟩)) Q:=by
  intro r q rr ov K Q a0 a1 a5 a6 a7 a8 b1 b2 b3 b4 b5 hq
  refine Zbo (Zyv hv hY dY h2 hN hl hjk hU dU f2 f1 g2 gd hz hv1 hU' hV' eU eV a0 a1 a5 a6 a7 a8 b1 b2 b3 b4 b5) ?_
  rintro e fr st ⟨rfl,r',x,rfl,hx,hs⟩
  exact hq r' x st hx hs
 have out:∀(r:T V) (x:V) (st:St),r.get 4=some x→Ykh h N n2 iu j k U Y [] x st→Run A.C [.fin [.tmp 4] ⟨h,N,w⟩] (some (.ex .ret ⟨r,186,[]⟩ st)) (Yc5 (Ykh h N n2 iu j k U Y w)):=by
  rintro r x ⟨H,n1,W⟩ h4 ⟨s1,s2,s3,s4⟩
  simp[h4]
  exact⟨s1,by show Zac n2 (Zac N W++w)=_;rw[Zfh (Zff (by simpa[Zac]using s2))],s3,s4⟩
 by_cases hge:v1≤d
 ·have hdv:=Yl1 hP hV' hv2B hge hlt
  subst hdv
  obtain⟨s1,s2,s3⟩:=Zvr hcB hv1B
  simp(disch:=first|(simp;done)|omega|(simp only[Zad,Zae,Yqd];omega)|rfl) [-getElem?_pos,A.b246,lv,hN,hi1,hne,hne2,hU,Za5 gd',Za5 gc',q1,q3,q4,t1,t2,Zam.chk]
  refine fin _ 18446744073709551615 (lo64 (c+d)) (hi64 (c+d)) _ _ (by simp) (by simp) (by simp) (by simp) (by simp) (by simp) s3 s2 (by decide) ?_ ?_ (fun r x st h4 hs=>out r x st h4 hs)
  ·rw[s1];unfold B;omega
  ·unfold B at hlt ⊢;exact hlt
 ·have hge':¬(v1:Int)≤(d:Int):=by omega
  simp(disch:=first|(simp;done)|omega|(simp only[Zad,Zae,Yqd];omega)|rfl) [-getElem?_pos,A.b246,lv,hN,hi1,hne,hne2,hU,Za5 gd',Za5 gc',q1,q3,q4,t1,t2,hge',Zam.chk]
  refine Zaa (Zve (show d<v1 by omega) hv1B hcB) ?_
  rintro _ h' N' hk ⟨rfl,rfl,rfl⟩
  obtain⟨q,hq⟩:∃q,(d*18446744073709551616+c)/v1=q:=⟨_,rfl⟩
  obtain⟨rr,hrr⟩:∃q,(d*18446744073709551616+c)%v1=q:=⟨_,rfl⟩
  have hinv:d*B+c=q*v1+rr:=by
   have:=Yrt (d*18446744073709551616+c) v1
   rw[hq,hrr,Yq5]at this
   exact this.symm
  have hrl:rr<v1:=by rw[←hrr];exact Yri _ hv1
  have hqB:q<B:=by
   rw[←hq];apply (Yq2 hv1).2
   have:=Yqz B (show d+1≤v1 by omega)
   rw[Yq5 B v1]
   rw[Yrf]at this
   unfold B at*;omega
  rw[hq,hrr]
  simp[Zam.chk]
  refine fin _ q rr 0 _ _ (by simp) (by simp) (by simp) (by simp) (by simp) (by simp) (by omega) (by omega) hqB (by rw[hinv];omega) (Yl2 hU' hu2B hinv hrl) (fun r x st h4 hs=>out r x st h4 hs)
end
end Go.Mx
