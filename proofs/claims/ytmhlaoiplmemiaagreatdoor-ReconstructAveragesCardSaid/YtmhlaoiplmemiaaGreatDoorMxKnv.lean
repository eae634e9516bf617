/-Long division by words-/
import Derived.Test.YtmhlaoiplmemiaaGreatDoorNaX
set_option linter.all false
namespace Go.Mx
open Go
variable {P Y a b d k u v1:Nat} {l:List Nat}
def Zcx(h:l[k]?=some d):val b (l.drop k)=d+b*val b (l.drop (k+1)):=by
 have hk:k<l.length:=by
  apply Yv5;intro hc;rw[Yva hc]at h;cases h
 rw[Yw6 hk]
 rw[Yut hk]at h
 simp only[Yup]at h
 rw[h];rfl
def Zdc(b:Nat)(l:List Nat)(k:Nat)(hk:k≤l.length):val b l=val b (l.take k)+b^k*val b (l.drop k):=by
 have:=Zhw b (l.take k) (l.drop k)
 rw[Ywz,Yvh,Yv3 hk]at this
 exact this
def Zvp{b:Nat}:∀{l:List Nat},(∀(t:Nat),t<l.length→l[t]?=some 0)→val b l=0
 |[],_=>rfl
 |d::l,h=>by
  have h0:=h 0 (by simp)
  simp at h0
  have:=Zvp (b:=b) (l:=l) fun t ht=>by simpa using h (t+1) (by simp;omega)
  simp[val,h0,this]
def Ypx{α:Type}{l:List α}{d:α}(h:l[k]?=some d):k<l.length:=by
 apply Yv5;intro hc;rw[Yva hc]at h;cases h
def Zf8(hz:∀t,k≤t→t<l.length→l[t]?=some 0):val b (l.drop k)=0:=by
 apply Zvp
 intro t ht
 rw[Yu3]
 rw[Yxa]at ht
 exact hz _ (by omega) (by omega)
def Yfg{w:List Nat}{c:Nat}(ha:w[k]?=some a)(hc:w[k+1]?=some c)(hd:w[k+2]?=some d)(hz:∀t,k+3≤t→t<w.length→w[t]?=some 0):
  val b w=val b (w.take k)+b^k*(a+b*(d*b+c)):=by
 have:=Ypx ha
 rw[Zdc b w k (by omega),Zcx ha,Zcx hc,Zcx hd,Zf8 hz]
 generalize b^k=p
 grind
def Yfh{w:List Nat}{c:Nat}(ha:w[k]?=some a)(hc:w[k+1]?=some c)(hl:w.length=k+2):
  val b w=val b (w.take k)+b^k*(a+b*c):=by
 rw[Zdc b w k (by omega),Zcx ha,Zcx hc,Ywe (by omega)]
 simp[val]
def Zml(g:∀d∈l,d<b)(hk:k≤l.length):val b (l.take k)<b^k:=by
 have:=Zld (b:=b) (l:=l.take k) fun d hd=>g d (Ywq hd)
 rwa [Yvh,Yv3 hk]at this
def Ypz{c U' v2 V':Nat}(hP:0<P)(hV':V'<P)(hv2:v2<b)(hd:v1≤d)(hW:U'+P*(a+b*(d*b+c))<b*(V'+P*(v2+b*v1))):d=v1:=by
 apply Nat.le_antisymm _ hd
 apply Ywu
 intro hlt
 have h1:b*(P*(b*(v1+1)))≤b*(P*(b*d)):=Yvc _ (Yvc _ (Yvc _ hlt))
 have h2:V'+P*(v2+b*v1)<P*(b*(v1+1)):=by
  have:P*(v2+1)≤P*b:=Yvc _ hv2
  grind
 have h3:b*(V'+P*(v2+b*v1))≤b*(P*(b*(v1+1))):=Yvc _ (Nat.le_of_lt h2)
 have h4:b*(P*(b*d))≤U'+P*(a+b*(d*b+c)):=by
  have:P*(b*(d*b))=b*(P*(b*d)):=by grind
  have:P*(b*(d*b))≤P*(a+b*(d*b+c)):=Yvc _ (by rw[Yw1];omega)
  omega
 omega
def Yp0{U' u2 u1 v2 V' q r:Nat}(hU:U'<P)(hu2:u2<b)(hinv:u1=q*v1+r)(hr:r<v1):U'+P*(u2+b*u1)<(q+1)*(V'+P*(v2+b*v1)):=by
 have h1:u1+1≤(q+1)*v1:=by rw[hinv,Yvv];omega
 have h2:P*(b*(u1+1))≤P*(b*((q+1)*v1)):=Yvc _ (Yvc _ h1)
 have h3:P*(u2+1)≤P*b:=Yvc _ hu2
 have h4:P*(b*((q+1)*v1))≤(q+1)*(V'+P*(v2+b*v1)):=by
  have:(q+1)*(V'+P*(v2+b*v1))=(q+1)*V'+P*((q+1)*v2)+P*(b*((q+1)*v1)):=by grind
  omega
 have h5:U'+P*(u2+b*u1)+P≤U'+P*(b*(u1+1)):=by grind
 omega
def Zuk(q v c:Nat):Nat:=lo64 (lo64 (q*v)+c)
def msCar(q v c:Nat):Nat:=addu (hi64 (q*v)) (hi64 (lo64 (q*v)+c))
def Yl0{q v c w:Nat}(hq:q<B)(hv:v<B)(hc:c<B)(hu:u<B)(hw:w≤1):
  sb64 u (Zuk q v c) w+q*v+c+w=u+B*(msCar q v c+bw64 u (Zuk q v c) w)∧sb64 u (Zuk q v c) w<B∧msCar q v c<B∧bw64 u (Zuk q v c) w≤1∧Zuk q v c<B:=by
 have:q*v≤18446744073709551615*18446744073709551615:=Ywb (by unfold B at*;omega) (by unfold B at*;omega)
 unfold msCar Zuk
 have h1:lo64 (lo64 (q*v)+c)+B*addu (hi64 (q*v)) (hi64 (lo64 (q*v)+c))=q*v+c∧addu (hi64 (q*v)) (hi64 (lo64 (q*v)+c))<B∧lo64 (lo64 (q*v)+c)<B:=by
  unfold lo64 hi64 addu
  unfold B at*
  generalize q*v=p at*
  omega
 obtain⟨h1,h2,h3⟩:=h1
 generalize lo64 (lo64 (q*v)+c)=l at*
 generalize addu (hi64 (q*v)) (hi64 (lo64 (q*v)+c))=k at*
 have h4:sb64 u l w+l+w=u+B*bw64 u l w∧sb64 u l w<B∧bw64 u l w≤1:=by
  unfold sb64 bw64
  unfold B at*
  split<;>omega
 obtain⟨h4,h5,h6⟩:=h4
 refine⟨?_,h5,h2,h6,h3⟩
 rw[Yw1]
 omega
def Yk6{l w:Nat}(hl:l<B)(hu:u<B)(hw:w≤1):sb64 u l w+l+w=u+B*bw64 u l w∧sb64 u l w<B∧bw64 u l w≤1:=by
 unfold sb64 bw64
 unfold B at*
 split<;>omega
def Ye3{v c:Nat}(hv:v<B)(hu:u<B)(hc:c≤1):lo64 (u+v+c)+B*hi64 (u+v+c)=u+v+c∧lo64 (u+v+c)<B∧hi64 (u+v+c)≤1:=by
 unfold lo64 hi64
 unfold B at*
 omega
def Zjg{b:Nat}:∀{l:List Nat} {k old v:Nat},l[k]?=some old→val b (l.set k v)+b^k*old=val b l+b^k*v
 |[],k,old,v,h=>by simp at h
 |d::l,0,old,v,h=>by simp at h;subst h;simp[val];omega
 |d::l,k+1,old,v,h=>by
  have ih:=Zjg (b:=b) (l:=l) (k:=k) (old:=old) (v:=v) (by simpa using h)
  simp only[List.set_cons_succ,val,Yvm]
  generalize val b (l.set k v)=p at*
  generalize val b l=q at*
  generalize b^k=z at*
  have:b*(p+z*old)=b*(q+z*v):=by rw[ih]
  grind
def Dg.set'(h:Dg l){k v:Nat}(hv:v<B):Dg (l.set k v):=by
 intro d hd
 rcases Yxy hd with hd|hd
 ·exact h d hd
 ·subst hd;exact hv
def Ypr{W q U t c t' e:Nat}(hb:1<b)(hP:0<P)(hY:Y<P)(hU:U<P)(ht:t'<b)(he:e≤1)(h1:U+q*Y=W+P*c)(h2:t'+c=t+b*e)(hlo:(q-1)*Y≤W+P*t)(hhi:W+P*t<(q+1)*Y):
  (e=0→U+P*t'+q*Y=W+P*t∧U+P*t'<Y∧t'=0)∧(e=1→0<q∧U+P*t'+q*Y=W+P*t+P*b∧W+P*t<q*Y):=by
 have h3:P*t'+P*c=P*t+P*(b*e):=by rw[←Yw1,h2,Yw1]
 constructor
 ·rintro rfl
  simp only[Nat.mul_zero,Yv7]at h3
  have h4:U+P*t'+q*Y=W+P*t:=by omega
  have h5:U+P*t'<Y:=by rw[Yvv]at hhi;omega
  refine⟨h4,h5,?_⟩
  rcases Yxi t' with h|h
  ·exact h
  ·have:=Yvc P h
   omega
 ·rintro rfl
  simp only[Yxn]at h3
  have h4:U+P*t'+q*Y=W+P*t+P*b:=by omega
  have h5:P*(t'+1)≤P*b:=Yvc _ ht
  rw[Yw1]at h5
  have h6:W+P*t<q*Y:=by omega
  refine⟨?_,h4,h6⟩
  rcases Yxi q with h|h
  ·subst h;omega
  ·exact h
def Ymk{q U t' T A c:Nat}(hP:0<P)(hY:Y<P)(hA:A<P)(hc:c≤1)(ht:t'<b)(hq:0<q)(h1:U+P*t'+q*Y=T+P*b)(h2:T<q*Y)(hlo:(q-1)*Y≤T)(h3:A+P*c=U+Y):
  A+(q-1)*Y=T∧A<Y∧(t'+c)%b=0:=by
 obtain⟨s,rfl⟩:∃s,q=s+1:=⟨q-1,by omega⟩
 simp only[Nat.add_sub_cancel]at*
 rw[Yvv]at h1 h2
 have h4:A+P*(t'+c)+s*Y=T+P*b:=by rw[Yw1];omega
 have h5:t'+c=b:=by
  rcases Nat.lt_trichotomy (t'+c) b with h|h|h
  ·have:=Yvc P (show t'+c+1≤b from h)
   rw[Yw1 P (t'+c)]at this
   omega
  ·exact h
  ·omega
 rw[h5]at h4
 refine⟨by omega,by omega,?_⟩
 rw[h5,Nat.mod_self]
def Zmk:∀{k n:Nat},B^k≤n→n<B^(k+1)→(wds n).length=k+1∧(wds n)[k]?=some (n/B^k)
 |0,n,h1,h2=>by
  have h0:n≠0:=by
   rw[Yyd]at h1;omega
  rw[Zbr h0]
  have h3:n/B=0:=Yw5 (by simpa using h2)
  rw[h3,Zbp]
  simp
  exact Ywp (by simpa using h2)
 |k+1,n,h1,h2=>by
  have hB:0<B:=by decide
  have hp:0<B^(k+1):=Yx0 hB
  have h0:n≠0:=by omega
  have h3:B^k≤n/B:=(Yxw hB).2 (by rw[←Yvm];exact h1)
  have h4:n/B<B^(k+1):=(Yvo hB).2 (by rw[←Yvm];exact h2)
  obtain⟨e1,e2⟩:=Zmk h3 h4
  rw[Zbr h0]
  refine⟨by simp[e1],?_⟩
  rw[Yw2,e2,Yxg,Yvm,Yvp (B^k)]
def Yi4{n:Nat}(h:(wds n).length≠0):n≠0:=by
 rintro rfl
 exact h (by rw[Zbp];rfl)
def Zdy:∀{k n:Nat},(wds n).length=k+1→B^k≤n∧n<B^(k+1)
 |0,n,h=>by
  have h0:=Yi4 (n:=n) (by omega)
  rw[Zbr h0]at h
  have h1:(wds (n/B)).length=0:=by simpa using h
  have h2:n/B=0:=by
   by_cases hc:n/B=0
   ·exact hc
   ·rw[Zbr hc]at h1;simp at h1
  have:=(Nat.div_eq_zero_iff).1 h2
  rcases this with hb|hb
  ·exact absurd hb (by decide)
  ·simp;omega
 |k+1,n,h=>by
  have h0:=Yi4 (n:=n) (by omega)
  rw[Zbr h0]at h
  obtain⟨h1,h2⟩:=Zdy (k:=k) (n:=n/B) (by simpa using h)
  have hB:0<B:=by decide
  exact⟨by rw[Yvm];exact(Yxw hB).1 h1,by rw[Yvm];exact(Yvo hB).1 h2⟩
def Yff{t s:Nat}(hl:(wds b).length=k+1)(ht:(wds b)[k]?=some t)(h1:9223372036854775808≤t*2^s)(h2:t*2^s<18446744073709551616)(hs:s≤64):
  (wds (b*2^s)).length=k+1∧∃v1,(wds (b*2^s))[k]?=some v1∧9223372036854775808≤v1:=by
 obtain⟨b1,b2⟩:=Zdy hl
 have hp:0<B^k:=Yx0 (by decide)
 have hps:=Ywa s
 have htd:t=b/B^k:=by
  have:=(Zmk b1 b2).2
  rw[ht]at this
  exact Yvr this
 have b3:t*B^k≤b:=by rw[htd];exact Nat.div_mul_le_self _ _
 have b4:b<(t+1)*B^k:=by
  rw[htd]
  exact(Yvo hp).1 (Ywf _)
 have c1:9223372036854775808*B^k≤b*2^s:=by
  have e1:=Yve (B^k) h1
  have e2:=Yve (2^s) b3
  have e3:t*2^s*B^k=t*B^k*2^s:=by grind
  omega
 have c2:b*2^s<B^(k+1):=by
  have e0:t+1≤2^(64-s):=by
   have:t<2^(64-s):=by
    apply Nat.lt_of_mul_lt_mul_right (a:=2^s)
    rw[←Yv2,show 64-s+s=64 by omega];exact h2
   omega
  have e1:=Yve (2^s) e0
  rw[←Yv2,show 64-s+s=64 by omega]at e1
  have e2:=Yxq b4 hps
  have e3:=Yve (B^k) e1
  have e4:(t+1)*2^s*B^k=(t+1)*B^k*2^s:=by grind
  rw[Yvm,Yvp]
  have e5:(2^64:Nat)*B^k=B^k*B:=by unfold B;rw[Yvp]
  rw[Yvp b]at e2
  omega
 have c0:B^k≤b*2^s:=by omega
 obtain⟨d1,d2⟩:=Zmk c0 c2
 exact⟨d1,_,d2,(Yxw hp).2 c1⟩
def Yar{U:List Nat}{la m s:Nat}(hU:val B U=a*2^s)(hl:U.length=la+1)(hm:m+k+1=la+1)(hkl:m≤U.length)(ha:a<B^la)(hs:s<64)(hv:9223372036854775808≤v1)(hY:v1*B^k≤Y):val B (U.drop m)<Y:=by
 have h1:=Zdc B U m hkl
 have h2:B^m*val B (U.drop m)<B^la*2^s:=by
  have:=Yxq ha (Ywa s)
  omega
 have h3:(2:Nat)^s≤9223372036854775808:=(Yvs (by decide) (show s≤63 by omega):(2:Nat)^s≤2^63)
 have h4:B^la=B^m*B^k:=by rw[←Yv2];congr 1;omega
 rw[h4,Yx8]at h2
 have h5:=Nat.lt_of_mul_lt_mul_left h2
 have h6:=Yvc (B^k) h3
 have h7:=Yvc (B^k) hv
 rw[Yvp v1]at hY
 omega
end Go.Mx
