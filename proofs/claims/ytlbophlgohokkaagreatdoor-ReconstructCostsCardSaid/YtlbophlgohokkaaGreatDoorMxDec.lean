/-
  Digits to the base 10^9, as integers.
-/
import Derived.Test.YtlbophlgohokkaaGreatDoorMxWord
import Derived.Test.YtlbophlgohokkaaGreatDoorMxTab
import Derived.Test.YtlbophlgohokkaaGreatDoorProg
set_option linter.all false
namespace Go.Mx
open Go
variable {d:Int} {j k n:Nat} {l:List Int}
def vI:List Int→Int
 |[]=>0
 |d::l=>d+1000000000*vI l
def pI(k:Nat):Int:=1000000000^k
theorem Zc0(k:Nat):pI (k+1)=1000000000*pI k:=by unfold pI;rw[Int.pow_succ,Int.mul_comm]
theorem Yjn:pI 0=1:=rfl
theorem Zjp(k:Nat):0<pI k:=by unfold pI;exact Int.pow_pos (by decide)
theorem Zva(i j:Nat):pI (i+j)=pI i*pI j:=by unfold pI;exact Int.pow_add ..
theorem Zl9:∀(l m:List Int),vI (l++m)=vI l+pI l.length*vI m
 |[],m=>by simp[vI,pI]
 |d::l,m=>by
  simp only[Yud,vI,Zl9 l m,Yrp,Zc0]
  grind
theorem Zfy(l:List Int)(d:Int):vI (l++[d])=vI l+pI l.length*d:=by simp[Zl9,vI]
theorem Zpb(n:Nat):vI (List.replicate n 0)=0:=by
 induction n with
 |zero=>rfl
 |succ n ih=>simp[List.replicate_succ,vI,ih]
theorem Zbk{α:Type}{l:List α}{d:α}(h:l[k]?=some d):k<l.length:=by
 apply Ys0;intro hc;rw[Yr2 hc]at h;cases h
theorem Zbe(h:l[k]?=some d):vI (l.take (k+1))=vI (l.take k)+pI k*d:=by
 have hk:=Zbk h
 rw[Yt1,h]
 simp only[Option.toList]
 rw[Zfy,Ysg,Ysy (by omega)]
theorem Zi8(l:List Int)(k:Nat)(hk:k≤l.length):vI l=vI (l.take k)+pI k*vI (l.drop k):=by
 have:=Zl9 (l.take k) (l.drop k)
 rw[Yth,Ysg,Ysy hk]at this
 exact this
theorem Zi9:∀{l:List Int} {k:Nat} {c:Int},l[k]?=some c→∀(v:Int),vI (l.set k v)=vI l+pI k*(v-c)
 |[],k,c,h,v=>by simp at h
 |d::l,0,c,h,v=>by
  simp at h;subst h
  simp only[List.set_cons_zero,vI,Yjn];omega
 |d::l,k+1,c,h,v=>by
  have:=Zi9 (l:=l) (k:=k) (c:=c) (by simpa using h) v
  simp only[List.set_cons_succ,vI,this,Zc0]
  grind
def Di(l:List Int):Prop:=∀d∈l,0≤d∧d<1000000000
theorem Di.get(h:Di l){k:Nat}{d:Int}(hd:l[k]?=some d):0≤d∧d<1000000000:=h d (Yrv hd)
theorem Di.set(h:Di l){k:Nat}{v:Int}(h0:0≤v)(h1:v<1000000000):Di (l.set k v):=fun d hd=>by
 rcases List.mem_or_eq_of_mem_set hd with hd|rfl
 ·exact h d hd
 ·exact⟨h0,h1⟩
theorem Di.app{m:List Int}(h:Di l)(h':Di m):Di (l++m):=fun d hd=>by
 rcases Ys1.1 hd with hd|hd
 ·exact h d hd
 ·exact h' d hd
theorem Di.one{v:Int}(h0:0≤v)(h1:v<1000000000):Di [v]:=fun d hd=>by simp at hd;subst hd;exact⟨h0,h1⟩
theorem Di.nil:Di []:=fun d hd=>by simp at hd
theorem Di.zeros(n:Nat):Di (List.replicate n 0):=fun d hd=>by rw[Yu1]at hd;rw[hd.2];decide
theorem Di.take(h:Di l)(k:Nat):Di (l.take k):=fun d hd=>h d (Yt5 hd)
theorem Di.drop(h:Di l)(k:Nat):Di (l.drop k):=fun d hd=>h d (Yuv hd)
theorem Zif:∀{l:List Int},Di l→0≤vI l
 |[],_=>Int.le_refl _
 |d::l,h=>by
  have h1:=h d Ysj
  have h2:=Zif (l:=l) fun e he=>h e (Ysh _ he)
  simp only[vI];omega
theorem Zig:∀{l:List Int},Di l→vI l<pI l.length
 |[],_=>by decide
 |d::l,h=>by
  have h1:=h d Ysj
  have h2:=Zig (l:=l) fun e he=>h e (Ysh _ he)
  simp only[vI,Yrp,Zc0];omega
def zI(l:List Int)(j:Nat):Int:=l[j]?.getD 0
theorem Yih(h:l[j]?=some d):zI l j=d:=by simp[zI,h]
theorem Zsq(h:l.length≤j):zI l j=0:=by simp[zI,h]
theorem Yii{l:List Int}(h:Di l)(j:Nat):0≤zI l j∧zI l j<1000000000:=by
 unfold zI
 cases hj:l[j]? with
 |none=>simp
 |some d=>exact h.get hj
theorem Zl8{l:List Int}{k:Nat}:vI (l.take (k+1))=vI (l.take k)+pI k*zI l k:=by
 unfold zI
 cases h:l[k]? with
 |some d=>exact Zbe h
 |none=>
  have hk:l.length≤k:=by
   apply Yto;intro hc;rw[Yrt hc]at h;cases h
  rw[Yr1 (by omega),Yr1 hk];simp
theorem Zao{α:Type}{l:List α}{d:α}(h:l[k]?=some d):l.drop k=d::l.drop (k+1):=by
 obtain⟨hk,hs⟩:=Ys6.1 h
 rw[←hs];exact Yt0 hk
def dI(l:List Int):List V:=l.map fun n=>.int .i64 n
theorem Zas(l:List Int):(dI l).length=l.length:=by simp[dI]
theorem Zba{n:Int}(h:l[j]?=some n):(dI l)[j]?=some (.int .i64 n):=by simp[dI,h]
attribute [simp] Zas
theorem Zib{v:Int}(h:k<l.length):splice (dI l) k [.int .i64 v]=dI (l.set k v):=by
 unfold splice dI
 apply Ysk
 intro j
 simp only[Ytd,Ysd,List.getElem?_set]
 rw[Ysz,List.getElem?_append,Ysg,Yt9]
 by_cases h1:j<k
 ·rw[Yru (by omega),Ysb,Yru h1,Ysd,Yrq (by omega)]
 ·rw[Yrq (by omega)]
  by_cases h2:j=k
  ·subst h2
   rw[show j-min j l.length=0 by omega,Yru rfl,Yru h];rfl
  ·rw[show j-min k l.length=(j-k-1)+1 by omega,Yrq (by omega)]
   simp only[Yvk,Ytu,Yr0,Ysd]
   rw[show k+1+(j-k-1)=j by omega]
theorem Zp4:Zd5 [.int .i64 0] n=dI (List.replicate n 0):=by rw[Yg9];simp[dI]
def Zf1:List Int→List Int
 |[]=>[]
 |d::l=>match Zf1 l with
  |[]=>if d=0 then [] else [d]
  |t=>d::t
theorem Zkk:∀(l:List Int),Zf1 (l++[0])=Zf1 l
 |[]=>rfl
 |d::l=>by simp only[Yud,Zf1,Zkk l]
theorem Zob{d:Int}(hd:d≠0):∀(l:List Int),Zf1 (l++[d])=l++[d]
 |[]=>by simp[Zf1,hd]
 |e::l=>by
  simp only[Yud,Zf1,Zob hd l]
  cases l<;>rfl
theorem Zqo:∀(l:List Int),(Zf1 l).length≤l.length
 |[]=>Yrr _
 |d::l=>by
  have ih:=Zqo l
  simp only[Zf1]
  split
  ·split<;>simp
  ·simp only[Yrp];omega
def ds(n:Nat):List Int:=if h:n=0 then [] else ((n%1000000000:Nat):Int)::ds (n/1000000000)
termination_by n
decreasing_by exact Yum (by omega) (by decide)
theorem Zck:ds 0=[]:=by rw[ds];simp
theorem Zhc(h:n≠0):ds n=((n%1000000000:Nat):Int)::ds (n/1000000000):=by rw[ds];simp[h]
theorem Zbf:∀(n:Nat),vI (ds n)=n:=by
 intro n
 induction n using Nat.strongRecOn with
 |_ n ih=>
  by_cases h:n=0
  ·subst h;rw[Zck];rfl
  ·rw[Zhc h]
   simp only[vI]
   rw[ih (n/1000000000) (Yum (by omega) (by decide))]
   omega
theorem Zcc(n:Nat):Di (ds n):=by
 induction n using Nat.strongRecOn with
 |_ n ih=>
  by_cases h:n=0
  ·subst h;rw[Zck];exact Di.nil
  ·rw[Zhc h]
   intro d hd
   rcases Yss.1 hd with rfl|hd
   ·omega
   ·exact ih (n/1000000000) (Yum (by omega) (by decide)) d hd
theorem Zpc:∀{l:List Int},Di l→Zf1 l=ds (vI l).toNat
 |[],_=>by simp[Zf1,vI,Zck]
 |d::l,h=>by
  have hl:Di l:=fun e he=>h e (Ysh _ he)
  have ih:=Zpc hl
  have hd:=h d Ysj
  have hn:=Zif hl
  simp only[Zf1,vI,ih]
  by_cases h0:vI l=0
  ·rw[h0]
   simp only[Int.toNat_zero,Zck,Int.mul_zero,Int.add_zero]
   by_cases hd0:d=0
   ·simp[hd0,Zck]
   ·rw[Zhc (by omega),Yti (by omega),Ytz (by omega),Zck];simp[hd0];omega
  ·have h3:(d+1000000000*vI l).toNat≠0:=by omega
   rw[Zhc h3]
   have h1:(d+1000000000*vI l).toNat/1000000000=(vI l).toNat:=by omega
   have h2:(((d+1000000000*vI l).toNat%1000000000:Nat):Int)=d:=by omega
   rw[h1,h2]
   split
   ·rename_i hc;rw[Zhc (by omega)]at hc;cases hc
   ·rfl
theorem Zf0(h:Di l){n:Nat}(hn:vI l=n):Zf1 l=ds n:=by rw[Zpc h,hn];rfl
theorem Yk2(n:Nat):Zf1 (ds n)=ds n:=Zf0 (Zcc n) (Zbf n)
theorem Zdo:ds n=[]↔n=0:=by
 constructor
 ·intro h
  by_cases h0:n=0
  ·exact h0
  ·rw[Zhc h0]at h;cases h
 ·intro h;rw[h,Zck]
theorem Yk3(h:n≠0):∃d,(ds n)[(ds n).length-1]?=some d∧0<d:=by
 have hne:ds n≠[]:=fun hc=>h (Zdo.1 hc)
 obtain⟨l,d,hd⟩:∃l d,ds n=l++[d]:=⟨(ds n).dropLast,(ds n).getLast hne,(Yvl hne).symm⟩
 refine⟨d,by rw[hd,Yr4,Ytd];simp,?_⟩
 have h1:=Zcc n d (by rw[hd];exact List.mem_append_right _ Ysj)
 have:d≠0:=fun h0=>by
  have h2:=Yk2 n
  rw[hd,h0,Zkk]at h2
  have:=Zqo l
  rw[h2]at this;simp at this;omega
 omega
theorem Zfq{n k:Nat}(h:n<1000000000^k):(ds n).length≤k:=by
 induction k generalizing n with
 |zero=>
  have:n=0:=by simpa using h
  rw[this,Zck];simp
 |succ k ih=>
  by_cases h0:n=0
  ·rw[h0,Zck];simp
  ·rw[Zhc h0]
   have:=ih (n:=n/1000000000) ((Ysf (by decide)).2 (by rw[←Yse];exact h))
   simp only[Yrp];omega
def Dn(h:T O)(N:Nat)(v:V)(n:Nat):Prop:=Sl h N v (dI (ds n))
theorem Dn.keep{h h':T O}{N N':Nat}{v:V}(s:Dn h N v n)(k:Keeps h N h' N'):Dn h' N' v n:=Sl.keep s k
variable {w:List Int}
theorem Zt8{P u1 u2 U' v1 v2 V' t r:Int}(hP:0<P)(hU':0≤U')(hu2:0≤u2)(hu1:0≤u1)(hv1:0<v1)(hv2:0≤v2)(hV0:0≤V')(hV':V'<P)(h0:0≤t)(ht:t≤1000000000)(hinv:u1=t*v1+r)(hc:t*v2≤r*1000000000+u2):
  (t-1)*(V'+P*(v2+1000000000*v1))≤U'+P*(u2+1000000000*u1):=by
 by_cases ht0:t=0
 ·subst ht0
  have h1:0≤P*(v2+1000000000*v1):=Ytl (by omega) (by omega)
  have h2:0≤P*(u2+1000000000*u1):=Ytl (by omega) (by omega)
  omega
 ·have h1:(t-1)*V'≤1000000000*P:=by
   have:(t-1)*V'≤1000000000*V':=Ytb (by omega) hV0
   omega
  have h2:P*1≤P*v1:=Yr5 (by omega) (by omega)
  have h3:P*(t*v2)≤P*(r*1000000000+u2):=Yr5 hc (by omega)
  have h4:0≤P*v2:=Ytl (by omega) hv2
  have h5:(t-1)*(V'+P*(v2+1000000000*v1))=(t-1)*V'+P*(t*v2)-P*v2+1000000000*(P*(t*v1))-1000000000*(P*v1):=by grind
  have h6:U'+P*(u2+1000000000*u1)=U'+P*(r*1000000000+u2)+1000000000*(P*(t*v1)):=by subst hinv;grind
  omega
theorem Ykm{P u1 u2 U' v1 v2 V' t r:Int}(hP:0<P)(hU':U'<P)(hV0:0≤V')(h0:0≤t)(hinv:u1=t*v1+r)(hc:r*1000000000+u2<t*v2):
  U'+P*(u2+1000000000*u1)<t*(V'+P*(v2+1000000000*v1)):=by
 have h1:0≤t*V':=Ytl h0 hV0
 have h3:P*(r*1000000000+u2+1)≤P*(t*v2):=Yr5 (by omega) (by omega)
 have h5:t*(V'+P*(v2+1000000000*v1))=t*V'+P*(t*v2)+1000000000*(P*(t*v1)):=by grind
 have h6:U'+P*(u2+1000000000*u1)=U'+P*(r*1000000000+u2+1)-P+1000000000*(P*(t*v1)):=by subst hinv;grind
 omega
theorem Yas{x:Int}(h1:1≤x)(h2:x<1000000000):500000000≤x*(1000000000/(x+1)):=by
 have hd:(x+1)*(1000000000/(x+1))+1000000000%(x+1)=1000000000:=Yt4 ..
 have hr:1000000000%(x+1)<x+1:=Yue _ (by omega)
 have hr0:0≤1000000000%(x+1):=Yuw _ (by omega)
 generalize 1000000000/(x+1)=d at*
 generalize 1000000000%(x+1)=r at*
 have e:(x+1)*d=x*d+d:=by grind
 apply Yur
 intro hc
 by_cases hx:x≤500000000
 ·have h3:500000000-x+1≤d:=by omega
  have h4:x*(500000000-x+1)≤x*d:=Yr5 h3 (by omega)
  have h5:0≤(x-1)*(500000000-x):=Ytl (by omega) (by omega)
  have h6:(x-1)*(500000000-x)=x*(500000000-x+1)-500000000:=by grind
  omega
 ·have h3:1≤d:=by
   apply Yur;intro h
   have:d≤0:=by omega
   have:(x+1)*d≤0:=Int.mul_nonpos_of_nonneg_of_nonpos (by omega) this
   omega
  have h4:x*1≤x*d:=Yr5 h3 (by omega)
  omega
theorem Zgt{m:Nat}(h:∀t,m≤t→t<w.length→w[t]?=some 0):vI w=vI (w.take m):=by
 by_cases hm:m≤w.length
 ·have h1:=Zi8 w m hm
  have h2:w.drop m=List.replicate (w.length-m) 0:=by
   apply Ysk
   intro t
   rw[Yr0,List.getElem?_replicate]
   by_cases ht:t<w.length-m
   ·rw[Yru ht];exact h _ (by omega) (by omega)
   ·rw[Yrq ht];exact Yr2 (by omega)
  rw[h2,Zpb]at h1
  omega
 ·rw[Yr1 (by omega)]
theorem Yim{k:Nat}{a c d:Int}(ha:w[k]?=some a)(hc:w[k+1]?=some c)(hd:w[k+2]?=some d)(hz:∀t,k+3≤t→t<w.length→w[t]?=some 0):
  vI w=vI (w.take k)+pI k*(a+1000000000*(d*1000000000+c)):=by
 rw[Zgt hz,show k+3=(k+2)+1 by omega,Zbe hd,Zbe hc,Zbe ha,Zc0 (k+1),Zc0 k]
 grind
theorem Yin{k:Nat}{a c:Int}(ha:w[k]?=some a)(hc:w[k+1]?=some c)(hl:w.length=k+2):
  vI w=vI (w.take k)+pI k*(a+1000000000*c):=by
 have h1:vI w=vI (w.take (k+1+1)):=by rw[Yr1 (by omega)]
 rw[h1,Zbe hc,Zbe ha,Zc0 k]
 grind
theorem Yd0{n:Nat}{t:Int}(hd:Di (w.take n))(ht:w[n]?=some t)(hz:∀j,n<j→j<w.length→w[j]?=some 0)(h1:vI w<pI n):(0≤vI w→t=0)∧(vI w<0→t<0):=by
 have hl:=Zbk ht
 have h2:vI w=vI (w.take n)+pI n*t:=by
  rw[Zgt (m:=n+1) (fun j h1 h2=>hz j (by omega) h2),Zbe ht]
 have h3:=Zif hd
 have h4:=Zig hd
 rw[Ysg,Ysy (by omega)]at h4
 have h5:=Zjp n
 constructor
 ·intro h
  have h6:¬t≤ -1:=fun hc=>by
   have:=Yr5 hc (Ytp h5)
   omega
  have h7:¬1≤t:=fun hc=>by
   have:=Yr5 hc (Ytp h5)
   omega
  omega
 ·intro h
  apply Yu9
  intro hc
  have:=Ytl (Ytp h5) hc
  omega
variable {N k:Nat} {s:Str}
theorem Yqt:(N=N+1)=False:=eq_false (by omega)
theorem Yqk:(N+1=N)=False:=eq_false (by omega)
theorem Yrb:(N+1<N)=False:=eq_false (by omega)
theorem Yqs:(N=N+1+1)=False:=eq_false (by omega)
theorem Yqj:(N+1+1=N)=False:=eq_false (by omega)
theorem Yra:(N+1+1<N)=False:=eq_false (by omega)
theorem Yqr:(N=N+1+1+1)=False:=eq_false (by omega)
theorem Yqi:(N+1+1+1=N)=False:=eq_false (by omega)
theorem Yq9:(N+1+1+1<N)=False:=eq_false (by omega)
theorem Yqq:(N=N+1+1+1+1)=False:=eq_false (by omega)
theorem Yqh:(N+1+1+1+1=N)=False:=eq_false (by omega)
theorem Yq8:(N+1+1+1+1<N)=False:=eq_false (by omega)
theorem Yqp:(N=N+1+1+1+1+1)=False:=eq_false (by omega)
theorem Yqg:(N+1+1+1+1+1=N)=False:=eq_false (by omega)
theorem Yq7:(N+1+1+1+1+1<N)=False:=eq_false (by omega)
theorem Yqo:(N=N+1+1+1+1+1+1)=False:=eq_false (by omega)
theorem Yqf:(N+1+1+1+1+1+1=N)=False:=eq_false (by omega)
theorem Yq6:(N+1+1+1+1+1+1<N)=False:=eq_false (by omega)
theorem Yqn:(N=N+1+1+1+1+1+1+1)=False:=eq_false (by omega)
theorem Yqe:(N+1+1+1+1+1+1+1=N)=False:=eq_false (by omega)
theorem Yq5:(N+1+1+1+1+1+1+1<N)=False:=eq_false (by omega)
theorem Yqm:(N=N+1+1+1+1+1+1+1+1)=False:=eq_false (by omega)
theorem Yqd:(N+1+1+1+1+1+1+1+1=N)=False:=eq_false (by omega)
theorem Yq4:(N+1+1+1+1+1+1+1+1<N)=False:=eq_false (by omega)
theorem Yql:(N=N+1+1+1+1+1+1+1+1+1)=False:=eq_false (by omega)
theorem Yqc:(N+1+1+1+1+1+1+1+1+1=N)=False:=eq_false (by omega)
theorem Yq3:(N+1+1+1+1+1+1+1+1+1<N)=False:=eq_false (by omega)
theorem Yo0:(N=N+1+1+1+1+1+1+1+1+1+1)=False:=eq_false (by omega)
theorem You:(N+1+1+1+1+1+1+1+1+1+1=N)=False:=eq_false (by omega)
theorem Ypc:(N+1+1+1+1+1+1+1+1+1+1<N)=False:=eq_false (by omega)
theorem Yoz:(N=N+1+1+1+1+1+1+1+1+1+1+1)=False:=eq_false (by omega)
theorem Yot:(N+1+1+1+1+1+1+1+1+1+1+1=N)=False:=eq_false (by omega)
theorem Ypb:(N+1+1+1+1+1+1+1+1+1+1+1<N)=False:=eq_false (by omega)
theorem Yoy:(N=N+1+1+1+1+1+1+1+1+1+1+1+1)=False:=eq_false (by omega)
theorem Yos:(N+1+1+1+1+1+1+1+1+1+1+1+1=N)=False:=eq_false (by omega)
theorem Ypa:(N+1+1+1+1+1+1+1+1+1+1+1+1<N)=False:=eq_false (by omega)
theorem Yox:(N=N+1+1+1+1+1+1+1+1+1+1+1+1+1)=False:=eq_false (by omega)
theorem Yor:(N+1+1+1+1+1+1+1+1+1+1+1+1+1=N)=False:=eq_false (by omega)
theorem Yo9:(N+1+1+1+1+1+1+1+1+1+1+1+1+1<N)=False:=eq_false (by omega)
theorem Yow:(N=N+1+1+1+1+1+1+1+1+1+1+1+1+1+1)=False:=eq_false (by omega)
theorem Yoq:(N+1+1+1+1+1+1+1+1+1+1+1+1+1+1=N)=False:=eq_false (by omega)
theorem Yo8:(N+1+1+1+1+1+1+1+1+1+1+1+1+1+1<N)=False:=eq_false (by omega)
theorem Yov:(N=N+1+1+1+1+1+1+1+1+1+1+1+1+1+1+1)=False:=eq_false (by omega)
theorem Yop:(N+1+1+1+1+1+1+1+1+1+1+1+1+1+1+1=N)=False:=eq_false (by omega)
theorem Yo7:(N+1+1+1+1+1+1+1+1+1+1+1+1+1+1+1<N)=False:=eq_false (by omega)
attribute [simp] Yqt Yqk Yrb Yqs Yqj Yra Yqr Yqi Yq9 Yqq Yqh Yq8 Yqp Yqg Yq7 Yqo Yqf Yq6 Yqn Yqe Yq5 Yqm Yqd Yq4 Yql Yqc Yq3 Yo0 You Ypc Yoz Yot Ypb Yoy Yos Ypa Yox Yor Yo9 Yow Yoq Yo8 Yov Yop Yo7
theorem Yq2:(N<N+1)=True:=eq_true (by omega)
theorem Yq1:(N<N+1+1)=True:=eq_true (by omega)
theorem Yq0:(N<N+1+1+1)=True:=eq_true (by omega)
theorem Yqz:(N<N+1+1+1+1)=True:=eq_true (by omega)
theorem Yqy:(N<N+1+1+1+1+1)=True:=eq_true (by omega)
theorem Yqx:(N<N+1+1+1+1+1+1)=True:=eq_true (by omega)
theorem Yqw:(N<N+1+1+1+1+1+1+1)=True:=eq_true (by omega)
theorem Yqv:(N<N+1+1+1+1+1+1+1+1)=True:=eq_true (by omega)
theorem Yqu:(N<N+1+1+1+1+1+1+1+1+1)=True:=eq_true (by omega)
theorem Yo6:(N<N+1+1+1+1+1+1+1+1+1+1)=True:=eq_true (by omega)
theorem Yo5:(N<N+1+1+1+1+1+1+1+1+1+1+1)=True:=eq_true (by omega)
theorem Yo4:(N<N+1+1+1+1+1+1+1+1+1+1+1+1)=True:=eq_true (by omega)
theorem Yo3:(N<N+1+1+1+1+1+1+1+1+1+1+1+1+1)=True:=eq_true (by omega)
theorem Yo2:(N<N+1+1+1+1+1+1+1+1+1+1+1+1+1+1)=True:=eq_true (by omega)
theorem Yo1:(N<N+1+1+1+1+1+1+1+1+1+1+1+1+1+1+1)=True:=eq_true (by omega)
attribute [simp] Yq2 Yq1 Yq0 Yqz Yqy Yqx Yqw Yqv Yqu Yo6 Yo5 Yo4 Yo3 Yo2 Yo1
theorem Call.eq{C:Cx}{g:V}{args:List V}{st st':St}{u:V}(h:Call C g args st (fun v s=>v=u∧s=st')):C.call g args st=some (u,st'):=by
 obtain⟨v,s,e,rfl,rfl⟩:=h.ex
 exact e
theorem Fn.pure{C:Cx}{f:Nat}{args:List V}{h:T O}{u:V}{P:V→T O→Nat→Prop}(e:∀w,C.call (.func f [] []) args ⟨h,N,w⟩=some (u,⟨h,N,w⟩))(p:P u h N):Fn C f args h N P:=fun w=>⟨⟨u,⟨h,N,w⟩,e w,rfl,Keeps.refl,p⟩⟩
theorem Zpx{C:Cx}{K:List Kf}{Q:Rs→Prop}{fr:Fr}{st:St}{i j:Nat}(h:¬j=i):Run C (.block i::K) (some (.ex (.exit j) fr st)) Q↔Run C K (some (.ex (.exit j) fr st)) Q:=Zpy (by
 cases hb:Nat.beq j i with
 |false=>rfl
 |true=>exact absurd (Yvh hb) h)
attribute [simp] Zpx
def Zak:List Int→Int
 |[]=>0
 |e::l=>if e=0 then Zak l else e
theorem Zag{α:Type}{l:List α}(h:k<l.length):∃d,l[k]?=some d:=⟨_,Yrt h⟩
theorem Ycn(c:UInt8):Zkg c=decide (48≤u8I c∧u8I c≤57):=by
 unfold Zkg u8I;rw[decide_eq_decide];omega
def Zns(k:Nat):List V:=(List.range 256).map fun i=>.bool (decide (48≤i∧i<48+k))
theorem Zdq(k:Nat):(Zns k).length=256:=by simp[Zns]
theorem Zh3{i:Nat}(hi:i<256):(Zns k)[i]?=some (.bool (decide (48≤i∧i<48+k))):=by simp[Zns,hi]
theorem Zwh(k:Nat):(Zns k).all V.one=true:=by simp[Zns,V.one]
theorem Yg1(hk:k<10):splice (Zns k) (48+k) [.bool true]=Zns (k+1):=by
 apply Ysk
 intro j
 unfold splice
 rw[Ysz,List.getElem?_append,Ysg,Zdq,Ysy (by omega)]
 by_cases h1:j<48+k
 ·rw[Yru h1,Ysb,Yru h1,Zh3 (by omega),Zh3 (by omega)]
  congr 3;rw[eq_iff_iff];omega
 ·rw[Yrq h1]
  by_cases h2:j=48+k
  ·subst h2
   rw[Zh3 (by omega)]
   simp
  ·rw[show j-(48+k)=(j-(48+k)-1)+1 by omega]
   simp only[Yvk,Ytu,Yr0,Ytd]
   rw[show 48+k+1+(j-(48+k)-1)=j by omega]
   by_cases h3:j<256
   ·rw[Zh3 h3,Zh3 h3];congr 3;rw[eq_iff_iff];omega
   ·rw[Yr2 (by rw[Zdq];omega),Yr2 (by rw[Zdq];omega)]
theorem Yde(k:Nat):(Zns k).take 256=Zns k:=Yr1 (by rw[Zdq];omega)
theorem Yg0(j k:Nat):splice (Zns j) 0 (Zns k)=Zns k:=by
 unfold splice;rw[Zdq,Ysn (by rw[Zdq];omega)];simp
attribute [simp] Zdq Zwh Yde Yg0
def Zcb(s:Str):Bool:=s.all Zkg
def Ypq:Str:=[48,49,50,51,52,53,54,55,56,57]
theorem Ygb(hk:k<10):∃c,Ypq[k]?=some c∧u8I c=48+k:=by
 have:k=0∨k=1∨k=2∨k=3∨k=4∨k=5∨k=6∨k=7∨k=8∨k=9:=by omega
 rcases this with rfl|rfl|rfl|rfl|rfl|rfl|rfl|rfl|rfl|rfl<;>exact⟨_,rfl,rfl⟩
theorem Zd2{n:Int}(h1:0≤n)(h2:n<256):Zar .u8 n=n:=by
 rw[Zdd]
 simp[IntKind.wrap,IntKind.bits,IntKind.signed]
 omega
theorem Zi5{n:Int}(h1: -9223372036854775808≤n)(h2:n<9223372036854775808):IntKind.wrap .i64 n=n:=by
 simp[IntKind.wrap,IntKind.bits,IntKind.signed]
 omega
theorem Zg5(l:Str)(c:UInt8):numV (l++[c])=10*numV l+(c.toNat-48):=by simp[numV]
theorem Zmx{c:UInt8}(h:s[k]?=some c):numV (s.take (k+1))=10*numV (s.take k)+(c.toNat-48):=by
 rw[Yt1,h]
 simp only[Option.toList,Zg5]
theorem Zkc(h:Zcb s=true){k:Nat}{c:UInt8}(hc:s[k]?=some c):48≤u8I c∧u8I c≤57:=by
 unfold Zcb at h
 rw[Ysu]at h
 have:=h c (Yrv hc)
 rw[Ycn]at this
 simpa using this
theorem Zpr{s:Str}(h:Zcb s=true):∀k,k≤s.length→numV (s.take k)<10^k
 |0,_=>by simp[numV]
 |k+1,hk=>by
  obtain⟨c,hc⟩:=Zag (l:=s) (k:=k) (by omega)
  have h1:=Zpr h k (by omega)
  have h2:=Zkc h hc
  unfold u8I at h2
  rw[Zmx hc,Yse]
  omega
theorem Zd4(h:Zcb s=true):numV s<10^s.length:=by
 have:=Zpr h s.length (Yrr _)
 rwa [Ytq]at this
theorem Zvc{a b:Nat}(h:a≤b):10^a≤10^b:=Ysl (by decide) h
theorem Yg2(h:k<9223372036854775808):Zdm .and .i64 (k:Int) 1=some (.int .i64 ((k%2:Nat):Int)):=by
 show some (V.int .i64 (IntKind.wrap .i64 (BitVec.ofInt 64 (k:Int)&&& BitVec.ofInt 64 1).toNat))=_
 have e:(BitVec.ofInt 64 1).toNat=2^1-1:=by decide
 rw[BitVec.toNat_and,Zjr k (by omega),e,Nat.and_two_pow_sub_one_eq_mod,Zi5 (by omega) (by omega)]
theorem Yea:Zgo .shr .i64 (k:Int) 1=some (.int .i64 ((k/2:Nat):Int)):=by
 unfold Zgo
 have e:min (1:Int).toNat (IntKind.bits .i64)=1:=by decide
 rw[Yrq (by decide),e]
 simp only[Yro,V.int.injEq,true_and]
 rw[Int.fdiv_eq_ediv_of_nonneg _ (by decide)]
 rfl
variable {N i:Nat} {h:T O} {k v:V}
theorem Keeps.new{h1:T O}{n n1:Nat}(k:Keeps h n h1 n1)(o:O):Keeps h n (h1.set n1 o) (n1+1):=(k.set k.le).up (Yui _)
abbrev FnV(C:Cx)(f:V)(args:List V)(h:T O)(n:Nat)(P:V→T O→Nat→Prop):Prop:=∀w,Call C f args ⟨h,n,w⟩ (Ret P h n w)
theorem Zkn{C:Cx}{f args h n w P K Q}(hf:FnV C f args h n P)(k:∀v h' n',Keeps h n h' n'→P v h' n'→Run C K (some (.val v ⟨h',n',w⟩)) Q):Run C K (Zqd (C.call f args ⟨h,n,w⟩)) Q:=
 Zd3 (hf w) fun v st'=>by
  obtain⟨h',n',w'⟩:=st'
  rintro⟨rfl,hk,hp⟩
  exact k v h' n' hk hp
theorem FnV.pure{C:Cx}{f:V}{args:List V}{u:V}{P:V→T O→Nat→Prop}(e:∀w,C.call f args ⟨h,N,w⟩=some (u,⟨h,N,w⟩))(p:P u h N):FnV C f args h N P:=fun w=>⟨⟨u,⟨h,N,w⟩,e w,rfl,Keeps.refl,p⟩⟩
def Zfp(p:Nat→Bool)(k:Nat):Nat→Int
 |0=> -1
 |m+1=>if p k=true then (k:Int) else Zfp p (k+1) m
theorem Zr1{p:Nat→Bool}:∀{m k:Nat},(0≤Zfp p k m↔∃j,k≤j∧j<k+m∧p j=true)
 |0,k=>by simp[Zfp];intro j h1 h2;omega
 |m+1,k=>by
  simp only[Zfp]
  by_cases h:p k=true
  ·rw[Yru h];exact⟨fun _=>⟨k,Yrr _,by omega,h⟩,fun _=>by omega⟩
  ·rw[Yrq h,Zr1 (m:=m) (k:=k+1)]
   constructor
   ·rintro⟨j,h1,h2,h3⟩;exact⟨j,by omega,by omega,h3⟩
   ·rintro⟨j,h1,h2,h3⟩
    refine⟨j,?_,by omega,h3⟩
    have:j≠k:=fun hj=>h (hj▸h3)
    omega
def SlF(v:V):Prop:=v=.nilslice∨v=.empty∨∃i o n c z,v=.slice i o n c z
theorem Sl.form{l:List V}(s:Sl h N v l):SlF v:=by
 rcases s with⟨_,h|h⟩|⟨i,o,cp,c,e,rw,h,_⟩
 ·exact .inl h
 ·exact .inr (.inl h)
 ·exact .inr (.inr ⟨_,_,_,_,_,h⟩)
theorem SlF.one(h:SlF v):V.one v=true:=by
 rcases h with rfl|rfl|⟨_,_,_,_,_,rfl⟩<;>rfl
theorem SlF.cells(h:SlF v):V.cells v=[v]:=by
 rcases h with rfl|rfl|⟨_,_,_,_,_,rfl⟩<;>rfl
def strs(l:List Str):List V:=l.map .str
theorem Zb3(l:List Str):(strs l).length=l.length:=by simp[strs]
theorem Zf2{l:List Str}{j:Nat}{n:Str}(h:l[j]?=some n):(strs l)[j]?=some (.str n):=by simp[strs,h]
attribute [simp] Zb3
def Yl8(s:Stg)(inp:V):List V:=[.str s.name,.str s.op,.str s.factor,inp,.int .i64 s.cost]
def Gr(h:T O)(N:Nat)(v:V)(g:List Stg):Prop:=∃l:List (List V),Sn 5 h N v l∧l.length=g.length∧∀(j:Nat) (s:Stg),g[j]?=some s→∃inp,l[j]?=some (Yl8 s inp)∧Sl h N inp (strs s.inputs)
theorem Gr.keep{h':T O}{N':Nat}{g:List Stg}(s:Gr h N v g)(k:Keeps h N h' N'):Gr h' N' v g:=by
 obtain⟨l,h1,h2,h3⟩:=s
 refine⟨l,h1.keep k,h2,fun j s hs=>?_⟩
 obtain⟨inp,h4,h5⟩:=h3 j s hs
 exact⟨inp,h4,h5.keep k⟩
theorem Gr.len{g:List Stg}(s:Gr h N v g):Zlh v=some g.length:=by
 obtain⟨l,h1,h2,h3⟩:=s
 rw[h1.len,h2]
theorem Gr.at{g:List Stg}(s:Gr h N v g){j:Nat}{x:Stg}(hj:g[j]?=some x):∃i o c e rw inp,Znr v=some (i,o)∧i<N∧h.get i=some (.cells c e rw)∧slc c (o+j*5) 5=some (Yl8 x inp)∧Sl h N inp (strs x.inputs):=by
 obtain⟨l,h1,h2,h3⟩:=s
 obtain⟨inp,h4,h5⟩:=h3 j x hj
 obtain⟨i,o,c,e,rw,q1,q2,q3,q4⟩:=h1.at h4
 exact⟨i,o,c,e,rw,inp,q1,q2,q3,q4,h5⟩
theorem Gr.slice{g:List Stg}{w:List Nat}(s:Gr h N v g){lo hi:Nat}(h1:lo≤hi)(h2:hi≤g.length)(x y:Option V)(hx:x=some (.int .i64 lo)∨x=none∧lo=0)(hy:y=some (.int .i64 hi)∨y=none∧hi=g.length):
  ∃v',Zct ⟨h,N,w⟩ 5 (some v) (some x) (some y) (some none)=some (v',⟨h,N,w⟩)∧Gr h N v' ((g.take hi).drop lo):=by
 obtain⟨l,g1,g2,g3⟩:=s
 obtain⟨v',e1,e2⟩:=Zzr (z:=5) (w:=w) (by decide) g1 h1 (by omega) x y hx (by rw[g2];exact hy)
 refine⟨v',e1,(l.take hi).drop lo,e2,by simp[g2],fun j s hs=>?_⟩
 have hj:lo+j<hi:=by
  apply Ys0;intro hc
  rw[Yr0,Ysb,Yrq (by omega)]at hs;cases hs
 rw[Yr0,Ysb,Yru hj]at hs
 obtain⟨inp,q1,q2⟩:=g3 _ s hs
 exact⟨inp,by rw[Yr0,Ysb,Yru hj];exact q1,q2⟩
theorem Yok{a b c d e:V}:slc [a,b,c,d,e] 0 5=some [a,b,c,d,e]:=rfl
theorem Yol{a b:V}:slc [a,b] 0 2=some [a,b]:=rfl
attribute [simp] Yok Yol
theorem Gr.form{g:List Stg}(s:Gr h N v g):SlF v:=by
 obtain⟨l,h1,_⟩:=s
 rcases h1 with⟨_,h|h⟩|⟨i,o,cp,c,e,rw,h,_⟩
 ·exact .inl h
 ·exact .inr (.inl h)
 ·exact .inr (.inr ⟨_,_,_,_,_,h⟩)
def Yke(st:St)(zero:V)(ok:Bool):Option (Option (Nat×V))→Option (V×St)
 |some (some (_,v))=>some (if ok then .tup [v,.bool true] else v,st)
 |some none=>some (if ok then .tup [zero,.bool false] else zero,st)
 |none=>none
def Zvo(st:St)(kd:Zkz)(zero:V)(ok:Bool)(k:V):Option O→Option (V×St)
 |some (.map es)=>Yke st zero ok (findV kd k es 0)
 |_=>none
def Ykf(st:St)(kd:Zkz)(zero:V)(ok:Bool):Option V→Option V→Option (V×St)
 |some (.map i),some k=>if kd.fits k=true then Zvo st kd zero ok k (st.h.get i) else none
 |some .nilmap,some k=>if kd.fits k=true then Yke st zero ok (some none) else none
 |_,_=>none
theorem Ztk{kd:Zkz}{zero:V}{m k:Src}{ok:Bool}{call:Za3}{r:T V}{st:St}:Ze2 kd zero m k ok call r st=Ykf st kd zero ok (m.ev r) (k.ev r):=by
 unfold Ze2 Ykf
 rcases m.ev r with _|m
 ·rfl
 ·rcases k.ev r with _|k
  ·cases m<;>rfl
  ·cases m<;>simp only[]<;>(try (by_cases hf:kd.fits k=true<;>simp[hf]))<;>try rfl
   ·rename_i i
    rcases st.h.get i with _|o
    ·rfl
    ·cases o<;>simp only[Zvo]
     rename_i es
     rcases findV kd k es 0 with _|_|⟨_,_⟩<;>rfl
theorem Ybj{st:St}{zero:V}{ok:Bool}{s:Str}:Ykf st .str zero ok (some (.map i)) (some (.str s))=Zvo st .str zero ok (.str s) (st.h.get i):=rfl
theorem Zt4{st:St}{kd:Zkz}{zero:V}{ok:Bool}{es:List (V×V)}:Zvo st kd zero ok k (some (.map es))=Yke st zero ok (findV kd k es 0):=rfl
attribute [simp] Ztk Ybj Zt4 Zhv
def Yjz(st:St)(i:Nat)(k v:V)(es:List (V×V)):Option (Option (Nat×V))→Option (V×St)
 |some (some (j,_))=>some (.tup [],st.write i (.map (es.set j (k,v))))
 |some none=>some (.tup [],st.write i (.map (es++[(k,v)])))
 |none=>none
def Zvj(st:St)(kd:Zkz)(i:Nat)(k v:V):Option O→Option (V×St)
 |some (.map es)=>Yjz st i k v es (findV kd k es 0)
 |_=>none
def msetK(st:St)(kd:Zkz):Option V→Option V→Option V→Option (V×St)
 |some (.map i),some k,some v=>if kd.fits k=true then Zvj st kd i k v (st.h.get i) else none
 |_,_,_=>none
theorem Ztj{kd:Zkz}{m k v:Src}{call:Za3}{r:T V}{st:St}:Zec kd m k v call r st=msetK st kd (m.ev r) (k.ev r) (v.ev r):=by
 unfold Zec msetK
 rcases m.ev r with _|m
 ·rfl
 ·rcases k.ev r with _|k
  ·cases m<;>rfl
  ·rcases v.ev r with _|v
   ·cases m<;>rfl
   ·cases m with
    |map i=>
     simp only[]
     by_cases hf:kd.fits k=true
     ·simp only[hf,if_true]
      rcases st.h.get i with _|o
      ·rfl
      ·cases o<;>simp only[Zvj]
       rename_i es
       rcases findV kd k es 0 with _|_|⟨_,_⟩<;>rfl
     ·simp[hf]
    |_=>rfl
theorem Yax{st:St}{s:Str}:msetK st .str (some (.map i)) (some (.str s)) (some v)=Zvj st .str i (.str s) v (st.h.get i):=rfl
theorem Zts{st:St}{kd:Zkz}{es:List (V×V)}:Zvj st kd i k v (some (.map es))=Yjz st i k v es (findV kd k es 0):=rfl
theorem Zxe{st:St}{es:List (V×V)}:Yjz st i k v es (some none)=some (.tup [],st.write i (.map (es++[(k,v)]))):=rfl
attribute [simp] Ztj Yax Zts Zxe
theorem Keeps.then{h h1 h2:T O}{n n1 n2:Nat}(a:Keeps h n h1 n1)(b:Keeps h1 n h2 n2):Keeps h n h2 n2:=⟨b.le,fun i hi=>(b.get i hi).trans (a.get i hi)⟩
def Zfc(l:List Int):List (List V):=l.map fun x=>[.int .i64 x]
theorem Zdi(l:List Int):(Zfc l).length=l.length:=by simp[Zfc]
theorem Zko:∀(l:List Int),(Zfc l).flatten=dI l
 |[]=>rfl
 |x::l=>by
  have:=Zko l
  simp only[Zfc,Yso,List.flatten_cons,dI]at this ⊢
  rw[this];rfl
theorem Zc9(l:List Int)(x:Int):Zfc (l++[x])=Zfc l++[[.int .i64 x]]:=by simp[Zfc]
theorem Own.sl{e:TypeId}{N0:Nat}{h:T O}{N:Nat}{v:V}{l:List Int}(s:Own 1 e N0 h N v (Zfc l)):Sl h N v (dI l):=by
 have:=s.sn
 have e1:Zfc l=(dI l).map fun x=>[x]:=by simp[Zfc,dI]
 rw[e1]at this
 exact Sn.one.1 this
structure Yp4 (g:List Stg):Prop where
 le:g.length≤16
 name:∀(j:Nat) (s:Stg),g[j]?=some s→j≤pos (g.take j) s.name
 inp:∀(j:Nat) (s:Stg),g[j]?=some s→∀n∈s.inputs,pos (g.take j) n<j
 cost:∀s∈g,1≤s.cost∧s.cost≤1000
variable {N:Nat} {h:T O} {l:List V} {u v:V}
def Cp(h:T O)(N:Nat)(v:V)(l:List V):Prop:=∃j c,v=.slice j 0 l.length c 1∧j<N∧h.get j=some (.cells l 9 true)∧∀k,c=some k→l.length≤k
theorem Cp.keep{h':T O}{N':Nat}(s:Cp h N v l)(k:Keeps h N h' N'):Cp h' N' v l:=by
 obtain⟨j,c,h1,h2,h3,h4⟩:=s
 exact⟨j,c,h1,Yr3 h2 k.le,(k.get j h2).trans h3,h4⟩
theorem Cp.sl(s:Cp h N v l):Sl h N v l:=by
 obtain⟨j,c,h1,h2,h3,h4⟩:=s
 rw[h1];exact Sl.row h2 h3 rfl h4
theorem Yml{w:List Nat}(s:Sl h N v l):Za2 ⟨h,N,w⟩ 1 v=some (l.length,l):=by
 rcases s with⟨rfl,rfl|rfl⟩|⟨i,o,cp,c,e,rw,rfl,h2,h3,h4,h5,h6⟩
 ·rfl
 ·rfl
 ·simp only[Za2,if_true,St.row,h3,Yup]
  have:slc c o l.length=some l:=by
   unfold slc
   rw[Yru h5]
   congr 1
   apply Ysk
   intro j
   rw[Ysb]
   by_cases hj:j<l.length
   ·rw[Yru hj,Yr0];exact h4 j hj
   ·rw[Yrq hj,Yr2 (by omega)]
  rw[this]
def PgA(h:T O)(N0 N:Nat)(u:V)(g:List Stg)(k:Nat):Prop:=∃l:List (List V),Own 5 126 N0 h N u l∧l.length=k∧∀(j:Nat) (s:Stg),j<k→g[j]?=some s→∃inp,l[j]?=some (Yl8 s inp)∧Cp h N inp (strs s.inputs)
theorem PgA.keep{h':T O}{N0 N':Nat}{g:List Stg}{k:Nat}(s:PgA h N0 N u g k)(kk:Keeps h N h' N'):PgA h' N0 N' u g k:=by
 obtain⟨l,h1,h2,h3⟩:=s
 refine⟨l,h1.keep kk,h2,fun j s hj hs=>?_⟩
 obtain⟨inp,h4,h5⟩:=h3 j s hj hs
 exact⟨inp,h4,h5.keep kk⟩
theorem PgA.gr{N0:Nat}{g:List Stg}(s:PgA h N0 N u g g.length):Gr h N u g:=by
 obtain⟨l,h1,h2,h3⟩:=s
 refine⟨l,h1.sn,h2,fun j s hs=>?_⟩
 obtain⟨inp,h4,h5⟩:=h3 j s (Zbk hs) hs
 exact⟨inp,h4,h5.sl⟩
theorem PgA.step{N0:Nat}{x inp:V}{g:List Stg}{k:Nat}{s:Stg}{w:List Nat}(p:PgA h N0 N u g k)(hN:N0≤N)(hs:g[k]?=some s)(hi:Cp h N inp (strs s.inputs))(hu:Za2 ⟨h,N,w⟩ 5 x=some (1,Yl8 s inp))(hk:k<1000):
  ∃v' h' w',Zb2 ⟨h,N,w⟩ 5 80 126 u x=some (v',⟨h',N+1,w'⟩)∧Zac N0 w'=Zac N0 w∧Keeps h N0 h' (N+1)∧PgA h' N0 (N+1) v' g (k+1):=by
 obtain⟨l,h1,h2,h3⟩:=p
 obtain⟨v',h',w',e1,e2,e3,e4,e5⟩:=Zbj (x:=Yl8 s inp) (u:=x) (bytes:=80) (w:=w) h1 hN (by decide) rfl hu (by omega)
 have hcp:∀{i:V} {m:List V},Cp h N i m→Cp h' (N+1) i m:=by
  rintro i m ⟨j,c,q1,q2,q3,q4⟩
  refine⟨j,c,q1,by omega,?_,q4⟩
  rcases e4 j with e|e|⟨o,n,c',q,e⟩
  ·rw[e];exact q3
  ·omega
  ·obtain⟨_,⟨_,hn⟩|⟨i',hv,_,_,hrow⟩⟩:=h1
   ·rw[e]at hn;cases hn
   ·rw[e]at hv
    simp only[V.slice.injEq]at hv
    rw[←hv.1,q3]at hrow
    simp at hrow
 refine⟨v',h',w',e1,e2,e3,l++[Yl8 s inp],e5,by simp[h2],fun j t hj ht=>?_⟩
 by_cases hjk:j<k
 ·obtain⟨i,q1,q2⟩:=h3 j t hjk ht
  exact⟨i,by rw[Ysc (by omega)];exact q1,hcp q2⟩
 ·have:j=k:=by omega
  subst this
  obtain rfl:=Ys4 (hs.symm.trans ht)
  exact⟨inp,by rw[Ysm (by omega)];simp[h2],hcp hi⟩
theorem Sl.setInt{h:T O}{N:Nat}{v:V}{l:List Int}{i:Nat}{c0 c1:List V}{e0 e1:TypeId}{w0 w1:Bool}(s:Sl h N v (dI l))(hr:h.get i=some (.cells c0 e0 w0))(hn:∀x∈c0,∀k n,x≠.int k n)(hc:c1.length=c0.length):Sl (h.set i (.cells c1 e1 w1)) N v (dI l):=by
 rcases s with s|⟨j,o,cp,c,e,rw,h1,h2,h3,h4,h5,h6⟩
 ·exact .inl s
 ·by_cases hj:j=i
  ·subst hj
   rw[hr]at h3
   simp only[Yro,O.cells.injEq]at h3
   obtain⟨rfl,rfl,rfl⟩:=h3
   cases l with
   |nil=>exact .inr ⟨j,o,cp,c1,e1,w1,h1,h2,by rw[T.get_set];simp,fun k hk=>by simp[dI]at hk,by rw[hc];exact h5,h6⟩
   |cons d l=>
    have:=h4 0 (by simp[dI])
    simp only[dI,Yso,Yte]at this
    exact absurd rfl (hn _ (Yrv this) .i64 d)
  ·exact .inr ⟨j,o,cp,c,e,rw,h1,h2,by rw[T.get_set,Yrq hj];exact h3,h4,h5,h6⟩
open Go Go.Proofs
set_option maxRecDepth 1000000
noncomputable abbrev A.F(n:Nat):=Zal Tryz.prog n
def mv(a b:Nat):Zbg:=⟨some a,.mov (.tmp b),none⟩
def mc(a:Nat)(n:Int):Zbg:=⟨some a,.mov (.const (.int .i64 n)),none⟩
def ia(a z x i:Nat):Zbg:=⟨some a,.iaddrSl z (.tmp x) (.tmp i),none⟩
def ld(a x:Nat):Zbg:=⟨some a,.load none (.tmp x),none⟩
def xt(a x i:Nat):Zbg:=⟨some a,.extract (.tmp x) i,none⟩
def bi(a:Nat)(o:BinOp)(x y:Nat):Zbg:=⟨some a,.bin o (.node []) false (.tmp x) (.tmp y),none⟩
def bc(a:Nat)(o:BinOp)(x:Nat)(n:Int):Zbg:=⟨some a,.bin o (.node []) false (.tmp x) (.const (.int .i64 n)),none⟩
def ln(a x:Nat):Zbg:=⟨some a,.len 1 (.tmp x),none⟩
def so(a x:Nat):Zbg:=⟨none,.store 1 (.tmp a) (.tmp x),none⟩
def c1(a f x:Nat):Zbg:=⟨some a,.call (.const (.func f [] [])) [.tmp x],none⟩
def c2(a f x y:Nat):Zbg:=⟨some a,.call (.const (.func f [] [])) [.tmp x,.tmp y],none⟩
def lN(a n x:Nat):Zbg:=⟨some a,.load (some n) (.tmp x),none⟩
def fa(a o x:Nat):Zbg:=⟨some a,.faddr o (.tmp x),none⟩
def pf(a x y:Nat):Zbg:=⟨some a,.pick (.tmp x) (.tmp y) (.const (.bool false)),none⟩
def pt(a x y:Nat):Zbg:=⟨some a,.pick (.tmp x) (.const (.bool true)) (.tmp y),none⟩
def ei(a x:Nat)(n:Int):Zbg:=⟨some a,.bin .eql (.prim .int) true (.tmp x) (.const (.int .i64 n)),none⟩
def ni(a x:Nat)(n:Int):Zbg:=⟨some a,.bin .neq (.prim .int) true (.tmp x) (.const (.int .i64 n)),none⟩
def mN(a:Nat):Zbg:=⟨some a,.mov (.const .nilslice),none⟩
def bx(a e x:Nat):Zbg:=⟨some a,.box e (.tmp x),none⟩
def mg(a x g:Nat):Zbg:=⟨some a,.mov (.tmp x),some (g,true)⟩
def mh(a x g:Nat):Zbg:=⟨some a,.mov (.tmp x),some (g,false)⟩
def sr(l:List Zbg)(c:Zae):Zae:=.seq (.reg l) c
def cd(x:Nat)(a b:Zae):Zae:=.cond (.tmp x) a b
attribute [simp] Yte Ytu mv mc ia ld xt bi bc ln so c1 c2 lN fa pf pt ei ni mN bx mg mh sr cd
def A.p10:O:=.cells (([1,10,100,1000,10000,100000,1000000,10000000,100000000,1000000000,10000000000,100000000000,1000000000000,10000000000000,100000000000000,1000000000000000,10000000000000000,100000000000000000,1000000000000000000,10000000000000000000]:List Int).map fun z=>.int .u64 z) 298 false
def A.TB:List (Nat×O):=[(3,A.p10)]
noncomputable def A.C:Cx:=⟨Zw6 A.TB [⟨10,[],.bool true⟩],Zal Tryz.prog⟩
theorem A.t:A.C.tbl=Zal Tryz.prog:=rfl
theorem A.x0{f:Nat}{a c args:List V}{st:St}(h:Nat.beq 10 f=false):A.C.x (.func f a c) args st=none:=by
 show Zw6 A.TB [⟨10,[],.bool true⟩] (.func f a c) args st=none
 unfold Zw6
 split
 ·rename_i heq
  simp only[V.func.injEq]at heq
  obtain⟨rfl,rfl,rfl⟩:=heq
  simp only[Zw5,h]
 ·rfl
theorem A.kk{n k:Nat}{res:List Yl6}{b:Zae}(hc:Zal Tryz.prog n=some ⟨k,res,b⟩)(hx:Nat.beq 10 n=false){K:List Kf}{Q:Rs→Prop}{f c args:List V}{st:St}(h:(f++args++c).length≤k):Run A.C K (Zqd (A.C.call (.func n f c) args st)) Q↔Run A.C (.fin res st::K) (exR (A.C.code none b ⟨Zef .nil 0 (f++args++c),k,[]⟩ ⟨st.h,st.n,[]⟩)) Q:=Yej (A.x0 (f:=n) hx) (mf:=⟨k,res,b⟩) (by rw[A.t];exact hc) h
theorem A.known{h:T O}{N:Nat}{w:List Nat}(hp:h.get 3=some A.p10):A.C.call (.func 10 [] []) [] ⟨h,N,w⟩=some (.bool true,⟨h,N,w⟩):=by
 have hq:oEq (h.get 3) A.p10=true:=by rw[hp];decide+kernel
 have hi:Zk5 ⟨h,N,w⟩ A.TB=true:=by
  show (match oEq (h.get 3) A.p10 with|true=>true|false=>false)=true
  rw[hq]
 have hx:A.C.x (.func 10 [] []) [] ⟨h,N,w⟩=some (.bool true,⟨h,N,w⟩):=by
  show (match Zk5 ⟨h,N,w⟩ A.TB with|true=>some (V.bool true,(⟨h,N,w⟩:St))|false=>none)=_
  rw[hi]
 rw[Cx.call_eq]
 unfold Zd9
 rw[hx]
end Go.Mx
