/-Digits to the base 10^9, as integers-/
import Derived.Test.YthekjfgljafnaaaGreatDoorMxWord
import Derived.Test.YthekjfgljafnaaaGreatDoorProg
set_option linter.all false
namespace Go.Mx
open Go
variable {d:Int} {j k n:Nat} {l:List Int}
def vI:List Int→Int
 |[]=>0
 |d::l=>d+1000000000*vI l
def pI(k:Nat):Int:=1000000000^k
def Zdc(k:Nat):pI (k+1)=1000000000*pI k:=by unfold pI;rw[Int.pow_succ,Int.mul_comm]
def Ymk:pI 0=1:=rfl
def Zka(k:Nat):0<pI k:=by unfold pI;exact Int.pow_pos (by decide)
def Zwp(i j:Nat):pI (i+j)=pI i*pI j:=by unfold pI;exact Int.pow_add ..
def Zm0:∀(l m:List Int),vI (l++m)=vI l+pI l.length*vI m
 |[],m=>by simp[vI,pI]
 |d::l,m=>by
  simp only[Yy4,vI,Zm0 l m,Yv8,Zdc]
  grind
def Zgk(l:List Int)(d:Int):vI (l++[d])=vI l+pI l.length*d:=by simp[Zm0,vI]
def Zqf(n:Nat):vI (List.replicate n 0)=0:=by
 induction n with
 |zero=>rfl
 |succ n ih=>simp[List.replicate_succ,vI,ih]
def Zau{α:Type}{l:List α}{d:α}(h:l[k]?=some d):k<l.length:=by
 apply Yxn;intro hc;rw[Ywd hc]at h;cases h
def Zbe(h:l[k]?=some d):vI (l.take (k+1))=vI (l.take k)+pI k*d:=by
 have hk:=Zau h
 rw[Yyq,h]
 simp only[Option.toList]
 rw[Zgk,Ywm,Yxh (by omega)]
def Zjv(l:List Int)(k:Nat)(hk:k≤l.length):vI l=vI (l.take k)+pI k*vI (l.drop k):=by
 have:=Zm0 (l.take k) (l.drop k)
 rw[Yx2,Ywm,Yxh hk]at this
 exact this
def Zjw:∀{l:List Int} {k:Nat} {c:Int},l[k]?=some c→∀(v:Int),vI (l.set k v)=vI l+pI k*(v-c)
 |[],k,c,h,v=>by simp at h
 |d::l,0,c,h,v=>by
  simp at h;subst h
  simp only[List.set_cons_zero,vI,Ymk];omega
 |d::l,k+1,c,h,v=>by
  have:=Zjw (l:=l) (k:=k) (c:=c) (by simpa using h) v
  simp only[List.set_cons_succ,vI,this,Zdc]
  grind
def Di(l:List Int):Prop:=∀d∈l,0≤d∧d<1000000000
def Di.get(h:Di l){k:Nat}{d:Int}(hd:l[k]?=some d):0≤d∧d<1000000000:=h d (Yv7 hd)
def Di.set(h:Di l){k:Nat}{v:Int}(h0:0≤v)(h1:v<1000000000):Di (l.set k v):=fun d hd=>by
 rcases Yxm hd with hd|rfl
 ·exact h d hd
 ·exact⟨h0,h1⟩
def Di.app{m:List Int}(h:Di l)(h':Di m):Di (l++m):=fun d hd=>by
 rcases Yxs.1 hd with hd|hd
 ·exact h d hd
 ·exact h' d hd
def Di.one{v:Int}(h0:0≤v)(h1:v<1000000000):Di [v]:=fun d hd=>by simp at hd;subst hd;exact⟨h0,h1⟩
def Di.nil:Di []:=fun d hd=>by simp at hd
def Di.zeros(n:Nat):Di (List.replicate n 0):=fun d hd=>by rw[Yzk]at hd;rw[hd.2];decide
def Di.take(h:Di l)(k:Nat):Di (l.take k):=fun d hd=>h d (Yxi hd)
def Di.drop(h:Di l)(k:Nat):Di (l.drop k):=fun d hd=>h d (List.mem_of_mem_drop hd)
def Ziz:∀{l:List Int},Di l→0≤vI l
 |[],_=>Int.le_refl _
 |d::l,h=>by
  have h1:=h d Yw6
  have h2:=Ziz (l:=l) fun e he=>h e (Yw2 _ he)
  simp only[vI];omega
def Zi0:∀{l:List Int},Di l→vI l<pI l.length
 |[],_=>by decide
 |d::l,h=>by
  have h1:=h d Yw6
  have h2:=Zi0 (l:=l) fun e he=>h e (Yw2 _ he)
  simp only[vI,Yv8,Zdc];omega
def zI(l:List Int)(j:Nat):Int:=l[j]?.getD 0
def Yk9(h:l[j]?=some d):zI l j=d:=by simp[zI,h]
def Zts(h:l.length≤j):zI l j=0:=by simp[zI,h]
def Yla{l:List Int}(h:Di l)(j:Nat):0≤zI l j∧zI l j<1000000000:=by
 unfold zI
 cases hj:l[j]? with
 |none=>simp
 |some d=>exact h.get hj
def Zmz{l:List Int}{k:Nat}:vI (l.take (k+1))=vI (l.take k)+pI k*zI l k:=by
 unfold zI
 cases h:l[k]? with
 |some d=>exact Zbe h
 |none=>
  have hk:l.length≤k:=by
   apply Yyc;intro hc;rw[Yv9 hc]at h;cases h
  rw[Ywe (by omega),Ywe hk];simp
def Zan{α:Type}{l:List α}{d:α}(h:l[k]?=some d):l.drop k=d::l.drop (k+1):=by
 obtain⟨hk,hs⟩:=Yw9.1 h
 rw[←hs];exact Yyn hk
def dI(l:List Int):List V:=l.map fun n=>.int .i64 n
def Zat(l:List Int):(dI l).length=l.length:=by simp[dI]
def Zbg{n:Int}(h:l[j]?=some n):(dI l)[j]?=some (.int .i64 n):=by simp[dI,h]
attribute [simp] Zat
def Ziv{v:Int}(h:k<l.length):splice (dI l) k [.int .i64 v]=dI (l.set k v):=by
 unfold splice dI
 apply Ywy
 intro j
 simp only[Yxx,Ywj,List.getElem?_set]
 rw[Yxf,List.getElem?_append,Ywm,Yw7]
 by_cases h1:j<k
 ·rw[Yv6 (by omega),Ywn,Yv6 h1,Ywj,Yv4 (by omega)]
 ·rw[Yv4 (by omega)]
  by_cases h2:j=k
  ·subst h2
   rw[show j-min j l.length=0 by omega,Yv6 rfl,Yv6 h];rfl
  ·rw[show j-min k l.length=(j-k-1)+1 by omega,Yv4 (by omega)]
   simp only[Yzz,Yyh,Ywg,Ywj]
   rw[show k+1+(j-k-1)=j by omega]
def Zrc:Zck [.int .i64 0] n=dI (List.replicate n 0):=by rw[Yaw];simp[dI]
def Zgn:List Int→List Int
 |[]=>[]
 |d::l=>match Zgn l with
  |[]=>if d=0 then [] else [d]
  |t=>d::t
def Zlb:∀(l:List Int),Zgn (l++[0])=Zgn l
 |[]=>rfl
 |d::l=>by simp only[Yy4,Zgn,Zlb l]
def Zpd{d:Int}(hd:d≠0):∀(l:List Int),Zgn (l++[d])=l++[d]
 |[]=>by simp[Zgn,hd]
 |e::l=>by
  simp only[Yy4,Zgn,Zpd hd l]
  cases l<;>rfl
def Zrt:∀(l:List Int),(Zgn l).length≤l.length
 |[]=>Yv5 _
 |d::l=>by
  have ih:=Zrt l
  simp only[Zgn]
  split
  ·split<;>simp
  ·simp only[Yv8];omega
def ds(n:Nat):List Int:=if h:n=0 then [] else ((n%1000000000:Nat):Int)::ds (n/1000000000)
termination_by n
decreasing_by exact Yy8 (by omega) (by decide)
def Zcv:ds 0=[]:=by rw[ds];simp
def Zh0(h:n≠0):ds n=((n%1000000000:Nat):Int)::ds (n/1000000000):=by rw[ds];simp[h]
def Zbf:∀(n:Nat),vI (ds n)=n:=by
 intro n
 induction n using Nat.strongRecOn with
 |_ n ih=>
  by_cases h:n=0
  ·subst h;rw[Zcv];rfl
  ·rw[Zh0 h]
   simp only[vI]
   rw[ih (n/1000000000) (Yy8 (by omega) (by decide))]
   omega
def Zcm(n:Nat):Di (ds n):=by
 induction n using Nat.strongRecOn with
 |_ n ih=>
  by_cases h:n=0
  ·subst h;rw[Zcv];exact Di.nil
  ·rw[Zh0 h]
   intro d hd
   rcases Yxa.1 hd with rfl|hd
   ·omega
   ·exact ih (n/1000000000) (Yy8 (by omega) (by decide)) d hd
def Zqg:∀{l:List Int},Di l→Zgn l=ds (vI l).toNat
 |[],_=>by simp[Zgn,vI,Zcv]
 |d::l,h=>by
  have hl:Di l:=fun e he=>h e (Yw2 _ he)
  have ih:=Zqg hl
  have hd:=h d Yw6
  have hn:=Ziz hl
  simp only[Zgn,vI,ih]
  by_cases h0:vI l=0
  ·rw[h0]
   simp only[Int.toNat_zero,Zcv,Int.mul_zero,Int.add_zero]
   by_cases hd0:d=0
   ·simp[hd0,Zcv]
   ·rw[Zh0 (by omega),Yx5 (by omega),Yyl (by omega),Zcv];simp[hd0];omega
  ·have h3:(d+1000000000*vI l).toNat≠0:=by omega
   rw[Zh0 h3]
   have h1:(d+1000000000*vI l).toNat/1000000000=(vI l).toNat:=by omega
   have h2:(((d+1000000000*vI l).toNat%1000000000:Nat):Int)=d:=by omega
   rw[h1,h2]
   split
   ·rename_i hc;rw[Zh0 (by omega)]at hc;cases hc
   ·rfl
def Zgm(h:Di l){n:Nat}(hn:vI l=n):Zgn l=ds n:=by rw[Zqg h,hn];rfl
def Yog(n:Nat):Zgn (ds n)=ds n:=Zgm (Zcm n) (Zbf n)
def Zd2:ds n=[]↔n=0:=by
 constructor
 ·intro h
  by_cases h0:n=0
  ·exact h0
  ·rw[Zh0 h0]at h;cases h
 ·intro h;rw[h,Zcv]
def Yoh(h:n≠0):∃d,(ds n)[(ds n).length-1]?=some d∧0<d:=by
 have hne:ds n≠[]:=fun hc=>h (Zd2.1 hc)
 obtain⟨l,d,hd⟩:∃l d,ds n=l++[d]:=⟨(ds n).dropLast,(ds n).getLast hne,(Yzj hne).symm⟩
 refine⟨d,by rw[hd,Ywl,Yxx];simp,?_⟩
 have h1:=Zcm n d (by rw[hd];exact List.mem_append_right _ Yw6)
 have:d≠0:=fun h0=>by
  have h2:=Yog n
  rw[hd,h0,Zlb]at h2
  have:=Zrt l
  rw[h2]at this;simp at this;omega
 omega
def Zgb{n k:Nat}(h:n<1000000000^k):(ds n).length≤k:=by
 induction k generalizing n with
 |zero=>
  have:n=0:=by simpa using h
  rw[this,Zcv];simp
 |succ k ih=>
  by_cases h0:n=0
  ·rw[h0,Zcv];simp
  ·rw[Zh0 h0]
   have:=ih (n:=n/1000000000) ((Ywz (by decide)).2 (by rw[←Ywx];exact h))
   simp only[Yv8];omega
def Dn(h:T O)(N:Nat)(v:V)(n:Nat):Prop:=Sl h N v (dI (ds n))
def Dn.keep{h h':T O}{N N':Nat}{v:V}(s:Dn h N v n)(k:Keeps h N h' N'):Dn h' N' v n:=Sl.keep s k
variable {w:List Int}
def Zvc{P u1 u2 U' v1 v2 V' t r:Int}(hP:0<P)(hU':0≤U')(hu2:0≤u2)(hu1:0≤u1)(hv1:0<v1)(hv2:0≤v2)(hV0:0≤V')(hV':V'<P)(h0:0≤t)(ht:t≤1000000000)(hinv:u1=t*v1+r)(hc:t*v2≤r*1000000000+u2):
  (t-1)*(V'+P*(v2+1000000000*v1))≤U'+P*(u2+1000000000*u1):=by
 by_cases ht0:t=0
 ·subst ht0
  have h1:0≤P*(v2+1000000000*v1):=Yx8 (by omega) (by omega)
  have h2:0≤P*(u2+1000000000*u1):=Yx8 (by omega) (by omega)
  omega
 ·have h1:(t-1)*V'≤1000000000*P:=by
   have:(t-1)*V'≤1000000000*V':=Yxw (by omega) hV0
   omega
  have h2:P*1≤P*v1:=Ywq (by omega) (by omega)
  have h3:P*(t*v2)≤P*(r*1000000000+u2):=Ywq hc (by omega)
  have h4:0≤P*v2:=Yx8 (by omega) hv2
  have h5:(t-1)*(V'+P*(v2+1000000000*v1))=(t-1)*V'+P*(t*v2)-P*v2+1000000000*(P*(t*v1))-1000000000*(P*v1):=by grind
  have h6:U'+P*(u2+1000000000*u1)=U'+P*(r*1000000000+u2)+1000000000*(P*(t*v1)):=by subst hinv;grind
  omega
def Ynq{P u1 u2 U' v1 v2 V' t r:Int}(hP:0<P)(hU':U'<P)(hV0:0≤V')(h0:0≤t)(hinv:u1=t*v1+r)(hc:r*1000000000+u2<t*v2):
  U'+P*(u2+1000000000*u1)<t*(V'+P*(v2+1000000000*v1)):=by
 have h1:0≤t*V':=Yx8 h0 hV0
 have h3:P*(r*1000000000+u2+1)≤P*(t*v2):=Ywq (by omega) (by omega)
 have h5:t*(V'+P*(v2+1000000000*v1))=t*V'+P*(t*v2)+1000000000*(P*(t*v1)):=by grind
 have h6:U'+P*(u2+1000000000*u1)=U'+P*(r*1000000000+u2+1)-P+1000000000*(P*(t*v1)):=by subst hinv;grind
 omega
def Ycw{x:Int}(h1:1≤x)(h2:x<1000000000):500000000≤x*(1000000000/(x+1)):=by
 have hd:(x+1)*(1000000000/(x+1))+1000000000%(x+1)=1000000000:=Yyu ..
 have hr:1000000000%(x+1)<x+1:=Yy5 _ (by omega)
 have hr0:0≤1000000000%(x+1):=Yzh _ (by omega)
 generalize 1000000000/(x+1)=d at*
 generalize 1000000000%(x+1)=r at*
 have e:(x+1)*d=x*d+d:=by grind
 apply Yza
 intro hc
 by_cases hx:x≤500000000
 ·have h3:500000000-x+1≤d:=by omega
  have h4:x*(500000000-x+1)≤x*d:=Ywq h3 (by omega)
  have h5:0≤(x-1)*(500000000-x):=Yx8 (by omega) (by omega)
  have h6:(x-1)*(500000000-x)=x*(500000000-x+1)-500000000:=by grind
  omega
 ·have h3:1≤d:=by
   apply Yza;intro h
   have:d≤0:=by omega
   have:(x+1)*d≤0:=Int.mul_nonpos_of_nonneg_of_nonpos (by omega) this
   omega
  have h4:x*1≤x*d:=Ywq h3 (by omega)
  omega
def Zhh{m:Nat}(h:∀t,m≤t→t<w.length→w[t]?=some 0):vI w=vI (w.take m):=by
 by_cases hm:m≤w.length
 ·have h1:=Zjv w m hm
  have h2:w.drop m=List.replicate (w.length-m) 0:=by
   apply Ywy
   intro t
   rw[Ywg,List.getElem?_replicate]
   by_cases ht:t<w.length-m
   ·rw[Yv6 ht];exact h _ (by omega) (by omega)
   ·rw[Yv4 ht];exact Ywd (by omega)
  rw[h2,Zqf]at h1
  omega
 ·rw[Ywe (by omega)]
def Yld{k:Nat}{a c d:Int}(ha:w[k]?=some a)(hc:w[k+1]?=some c)(hd:w[k+2]?=some d)(hz:∀t,k+3≤t→t<w.length→w[t]?=some 0):
  vI w=vI (w.take k)+pI k*(a+1000000000*(d*1000000000+c)):=by
 rw[Zhh hz,show k+3=(k+2)+1 by omega,Zbe hd,Zbe hc,Zbe ha,Zdc (k+1),Zdc k]
 grind
def Yle{k:Nat}{a c:Int}(ha:w[k]?=some a)(hc:w[k+1]?=some c)(hl:w.length=k+2):
  vI w=vI (w.take k)+pI k*(a+1000000000*c):=by
 have h1:vI w=vI (w.take (k+1+1)):=by rw[Ywe (by omega)]
 rw[h1,Zbe hc,Zbe ha,Zdc k]
 grind
def Ygb{n:Nat}{t:Int}(hd:Di (w.take n))(ht:w[n]?=some t)(hz:∀j,n<j→j<w.length→w[j]?=some 0)(h1:vI w<pI n):(0≤vI w→t=0)∧(vI w<0→t<0):=by
 have hl:=Zau ht
 have h2:vI w=vI (w.take n)+pI n*t:=by
  rw[Zhh (m:=n+1) (fun j h1 h2=>hz j (by omega) h2),Zbe ht]
 have h3:=Ziz hd
 have h4:=Zi0 hd
 rw[Ywm,Yxh (by omega)]at h4
 have h5:=Zka n
 constructor
 ·intro h
  have h6:¬t≤ -1:=fun hc=>by
   have:=Ywq hc (Yyd h5)
   omega
  have h7:¬1≤t:=fun hc=>by
   have:=Ywq hc (Yyd h5)
   omega
  omega
 ·intro h
  apply Yzr
  intro hc
  have:=Yx8 (Yyd h5) hc
  omega
variable {N k:Nat} {s:Str}
def Yu5:(N=N+1)=False:=eq_false (by omega)
def Yuw:(N+1=N)=False:=eq_false (by omega)
def Yvn:(N+1<N)=False:=eq_false (by omega)
def Yu4:(N=N+1+1)=False:=eq_false (by omega)
def Yuv:(N+1+1=N)=False:=eq_false (by omega)
def Yvm:(N+1+1<N)=False:=eq_false (by omega)
def Yu3:(N=N+1+1+1)=False:=eq_false (by omega)
def Yuu:(N+1+1+1=N)=False:=eq_false (by omega)
def Yvl:(N+1+1+1<N)=False:=eq_false (by omega)
def Yu2:(N=N+1+1+1+1)=False:=eq_false (by omega)
def Yut:(N+1+1+1+1=N)=False:=eq_false (by omega)
def Yvk:(N+1+1+1+1<N)=False:=eq_false (by omega)
def Yu1:(N=N+1+1+1+1+1)=False:=eq_false (by omega)
def Yus:(N+1+1+1+1+1=N)=False:=eq_false (by omega)
def Yvj:(N+1+1+1+1+1<N)=False:=eq_false (by omega)
def Yu0:(N=N+1+1+1+1+1+1)=False:=eq_false (by omega)
def Yur:(N+1+1+1+1+1+1=N)=False:=eq_false (by omega)
def Yvi:(N+1+1+1+1+1+1<N)=False:=eq_false (by omega)
def Yuz:(N=N+1+1+1+1+1+1+1)=False:=eq_false (by omega)
def Yuq:(N+1+1+1+1+1+1+1=N)=False:=eq_false (by omega)
def Yvh:(N+1+1+1+1+1+1+1<N)=False:=eq_false (by omega)
def Yuy:(N=N+1+1+1+1+1+1+1+1)=False:=eq_false (by omega)
def Yup:(N+1+1+1+1+1+1+1+1=N)=False:=eq_false (by omega)
def Yvg:(N+1+1+1+1+1+1+1+1<N)=False:=eq_false (by omega)
def Yux:(N=N+1+1+1+1+1+1+1+1+1)=False:=eq_false (by omega)
def Yuo:(N+1+1+1+1+1+1+1+1+1=N)=False:=eq_false (by omega)
def Yvf:(N+1+1+1+1+1+1+1+1+1<N)=False:=eq_false (by omega)
def Ys6:(N=N+1+1+1+1+1+1+1+1+1+1)=False:=eq_false (by omega)
def Ys0:(N+1+1+1+1+1+1+1+1+1+1=N)=False:=eq_false (by omega)
def Yti:(N+1+1+1+1+1+1+1+1+1+1<N)=False:=eq_false (by omega)
def Ys5:(N=N+1+1+1+1+1+1+1+1+1+1+1)=False:=eq_false (by omega)
def Ysz:(N+1+1+1+1+1+1+1+1+1+1+1=N)=False:=eq_false (by omega)
def Yth:(N+1+1+1+1+1+1+1+1+1+1+1<N)=False:=eq_false (by omega)
def Ys4:(N=N+1+1+1+1+1+1+1+1+1+1+1+1)=False:=eq_false (by omega)
def Ysy:(N+1+1+1+1+1+1+1+1+1+1+1+1=N)=False:=eq_false (by omega)
def Ytg:(N+1+1+1+1+1+1+1+1+1+1+1+1<N)=False:=eq_false (by omega)
def Ys3:(N=N+1+1+1+1+1+1+1+1+1+1+1+1+1)=False:=eq_false (by omega)
def Ysx:(N+1+1+1+1+1+1+1+1+1+1+1+1+1=N)=False:=eq_false (by omega)
def Ytf:(N+1+1+1+1+1+1+1+1+1+1+1+1+1<N)=False:=eq_false (by omega)
def Ys2:(N=N+1+1+1+1+1+1+1+1+1+1+1+1+1+1)=False:=eq_false (by omega)
def Ysw:(N+1+1+1+1+1+1+1+1+1+1+1+1+1+1=N)=False:=eq_false (by omega)
def Yte:(N+1+1+1+1+1+1+1+1+1+1+1+1+1+1<N)=False:=eq_false (by omega)
def Ys1:(N=N+1+1+1+1+1+1+1+1+1+1+1+1+1+1+1)=False:=eq_false (by omega)
def Ysv:(N+1+1+1+1+1+1+1+1+1+1+1+1+1+1+1=N)=False:=eq_false (by omega)
def Ytd:(N+1+1+1+1+1+1+1+1+1+1+1+1+1+1+1<N)=False:=eq_false (by omega)
attribute [simp] Yu5 Yuw Yvn Yu4 Yuv Yvm Yu3 Yuu Yvl Yu2 Yut Yvk Yu1 Yus Yvj Yu0 Yur Yvi Yuz Yuq Yvh Yuy Yup Yvg Yux Yuo Yvf Ys6 Ys0 Yti Ys5 Ysz Yth Ys4 Ysy Ytg Ys3 Ysx Ytf Ys2 Ysw Yte Ys1 Ysv Ytd
def Yve:(N<N+1)=True:=eq_true (by omega)
def Yvd:(N<N+1+1)=True:=eq_true (by omega)
def Yvc:(N<N+1+1+1)=True:=eq_true (by omega)
def Yvb:(N<N+1+1+1+1)=True:=eq_true (by omega)
def Yva:(N<N+1+1+1+1+1)=True:=eq_true (by omega)
def Yu9:(N<N+1+1+1+1+1+1)=True:=eq_true (by omega)
def Yu8:(N<N+1+1+1+1+1+1+1)=True:=eq_true (by omega)
def Yu7:(N<N+1+1+1+1+1+1+1+1)=True:=eq_true (by omega)
def Yu6:(N<N+1+1+1+1+1+1+1+1+1)=True:=eq_true (by omega)
def Ytc:(N<N+1+1+1+1+1+1+1+1+1+1)=True:=eq_true (by omega)
def Ytb:(N<N+1+1+1+1+1+1+1+1+1+1+1)=True:=eq_true (by omega)
def Yta:(N<N+1+1+1+1+1+1+1+1+1+1+1+1)=True:=eq_true (by omega)
def Ys9:(N<N+1+1+1+1+1+1+1+1+1+1+1+1+1)=True:=eq_true (by omega)
def Ys8:(N<N+1+1+1+1+1+1+1+1+1+1+1+1+1+1)=True:=eq_true (by omega)
def Ys7:(N<N+1+1+1+1+1+1+1+1+1+1+1+1+1+1+1)=True:=eq_true (by omega)
attribute [simp] Yve Yvd Yvc Yvb Yva Yu9 Yu8 Yu7 Yu6 Ytc Ytb Yta Ys9 Ys8 Ys7
def Call.eq{C:Cx}{g:V}{args:List V}{st st':St}{u:V}(h:Call C g args st (fun v s=>v=u∧s=st')):C.call g args st=some (u,st'):=by
 obtain⟨v,s,e,rfl,rfl⟩:=h.ex
 exact e
def Zq1{C:Cx}{K:List Kf}{Q:Rs→Prop}{fr:Fr}{st:St}{i j:Nat}(h:¬j=i):Run C (.block i::K) (some (.ex (.exit j) fr st)) Q↔Run C K (some (.ex (.exit j) fr st)) Q:=Zq2 (by
 cases hb:Nat.beq j i with
 |false=>rfl
 |true=>exact absurd (Yzw hb) h)
attribute [simp] Zq1
def Zam:List Int→Int
 |[]=>0
 |e::l=>if e=0 then Zam l else e
def Zae{α:Type}{l:List α}(h:k<l.length):∃d,l[k]?=some d:=⟨_,Yv9 h⟩
def Yet(c:UInt8):Zk8 c=decide (48≤u8I c∧u8I c≤57):=by
 unfold Zk8 u8I;rw[decide_eq_decide];omega
def Zov(k:Nat):List V:=(List.range 256).map fun i=>.bool (decide (48≤i∧i<48+k))
def Zd4(k:Nat):(Zov k).length=256:=by simp[Zov]
def Zip{i:Nat}(hi:i<256):(Zov k)[i]?=some (.bool (decide (48≤i∧i<48+k))):=by simp[Zov,hi]
def Zx5(k:Nat):(Zov k).all V.one=true:=by simp[Zov,V.one]
def Yjl(hk:k<10):splice (Zov k) (48+k) [.bool true]=Zov (k+1):=by
 apply Ywy
 intro j
 unfold splice
 rw[Yxf,List.getElem?_append,Ywm,Zd4,Yxh (by omega)]
 by_cases h1:j<48+k
 ·rw[Yv6 h1,Ywn,Yv6 h1,Zip (by omega),Zip (by omega)]
  congr 3;rw[eq_iff_iff];omega
 ·rw[Yv4 h1]
  by_cases h2:j=48+k
  ·subst h2
   rw[Zip (by omega)]
   simp
  ·rw[show j-(48+k)=(j-(48+k)-1)+1 by omega]
   simp only[Yzz,Yyh,Ywg,Yxx]
   rw[show 48+k+1+(j-(48+k)-1)=j by omega]
   by_cases h3:j<256
   ·rw[Zip h3,Zip h3];congr 3;rw[eq_iff_iff];omega
   ·rw[Ywd (by rw[Zd4];omega),Ywd (by rw[Zd4];omega)]
def Yfk(k:Nat):(Zov k).take 256=Zov k:=Ywe (by rw[Zd4];omega)
def Yjk(j k:Nat):splice (Zov j) 0 (Zov k)=Zov k:=by
 unfold splice;rw[Zd4,Yw8 (by rw[Zd4];omega)];simp
attribute [simp] Zd4 Zx5 Yfk Yjk
def Zcd(s:Str):Bool:=s.all Zk8
def Ytz:Str:=[48,49,50,51,52,53,54,55,56,57]
def Yiy(hk:k<10):∃c,Ytz[k]?=some c∧u8I c=48+k:=by
 have:k=0∨k=1∨k=2∨k=3∨k=4∨k=5∨k=6∨k=7∨k=8∨k=9:=by omega
 rcases this with rfl|rfl|rfl|rfl|rfl|rfl|rfl|rfl|rfl|rfl<;>exact⟨_,rfl,rfl⟩
def Zej{n:Int}(h1:0≤n)(h2:n<256):Zar .u8 n=n:=by
 rw[Zdr]
 simp[IntKind.wrap,IntKind.bits,IntKind.signed]
 omega
def Zjr{n:Int}(h1: -9223372036854775808≤n)(h2:n<9223372036854775808):IntKind.wrap .i64 n=n:=by
 simp[IntKind.wrap,IntKind.bits,IntKind.signed]
 omega
def Zhs(l:Str)(c:UInt8):numV (l++[c])=10*numV l+(c.toNat-48):=by simp[numV]
def Znt{c:UInt8}(h:s[k]?=some c):numV (s.take (k+1))=10*numV (s.take k)+(c.toNat-48):=by
 rw[Yyq,h]
 simp only[Option.toList,Zhs]
def Zk4(h:Zcd s=true){k:Nat}{c:UInt8}(hc:s[k]?=some c):48≤u8I c∧u8I c≤57:=by
 unfold Zcd at h
 rw[Yw1]at h
 have:=h c (Yv7 hc)
 rw[Yet]at this
 simpa using this
def Zqv{s:Str}(h:Zcd s=true):∀k,k≤s.length→numV (s.take k)<10^k
 |0,_=>by simp[numV]
 |k+1,hk=>by
  obtain⟨c,hc⟩:=Zae (l:=s) (k:=k) (by omega)
  have h1:=Zqv h k (by omega)
  have h2:=Zk4 h hc
  unfold u8I at h2
  rw[Znt hc,Ywx]
  omega
def Zen(h:Zcd s=true):numV s<10^s.length:=by
 have:=Zqv h s.length (Yv5 _)
 rwa [Yym]at this
def Zwr{a b:Nat}(h:a≤b):10^a≤10^b:=Yw3 (by decide) h
def Yjm(h:k<9223372036854775808):Zd0 .and .i64 (k:Int) 1=some (.int .i64 ((k%2:Nat):Int)):=by
 show some (V.int .i64 (IntKind.wrap .i64 (BitVec.ofInt 64 (k:Int)&&& BitVec.ofInt 64 1).toNat))=_
 have e:(BitVec.ofInt 64 1).toNat=2^1-1:=by decide
 rw[BitVec.toNat_and,Zkc k (by omega),e,Nat.and_two_pow_sub_one_eq_mod,Zjr (by omega) (by omega)]
def Ygp:Zhd .shr .i64 (k:Int) 1=some (.int .i64 ((k/2:Nat):Int)):=by
 unfold Zhd
 have e:min (1:Int).toNat (IntKind.bits .i64)=1:=by decide
 rw[Yv4 (by decide),e]
 simp only[Yv3,V.int.injEq,true_and]
 rw[Int.fdiv_eq_ediv_of_nonneg _ (by decide)]
 rfl
variable {N i:Nat} {h:T O} {k v:V}
def Keeps.new{h1:T O}{n n1:Nat}(k:Keeps h n h1 n1)(o:O):Keeps h n (h1.set n1 o) (n1+1):=(k.set k.le).up (Yy6 _)
abbrev FnV(C:Cx)(f:V)(args:List V)(h:T O)(n:Nat)(P:V→T O→Nat→Prop):Prop:=∀w,Call C f args ⟨h,n,w⟩ (Ret P h n w)
def Zhn{C:Cx}{f args h n w P K Q}(hf:FnV C f args h n P)(k:∀v h' n',Keeps h n h' n'→P v h' n'→Run C K (some (.val v ⟨h',n',w⟩)) Q):Run C K (Zrj (C.call f args ⟨h,n,w⟩)) Q:=
 Zek (hf w) fun v st'=>by
  obtain⟨h',n',w'⟩:=st'
  rintro⟨rfl,hk,hp⟩
  exact k v h' n' hk hp
def Zct(p:Nat→Bool)(k:Nat):Nat→Int
 |0=> -1
 |m+1=>if p k=true then (k:Int) else Zct p (k+1) m
def Zs6{p:Nat→Bool}:∀{m k:Nat},(0≤Zct p k m↔∃j,k≤j∧j<k+m∧p j=true)
 |0,k=>by simp[Zct];intro j h1 h2;omega
 |m+1,k=>by
  simp only[Zct]
  by_cases h:p k=true
  ·rw[Yv6 h];exact⟨fun _=>⟨k,Yv5 _,by omega,h⟩,fun _=>by omega⟩
  ·rw[Yv4 h,Zs6 (m:=m) (k:=k+1)]
   constructor
   ·rintro⟨j,h1,h2,h3⟩;exact⟨j,by omega,by omega,h3⟩
   ·rintro⟨j,h1,h2,h3⟩
    refine⟨j,?_,by omega,h3⟩
    have:j≠k:=fun hj=>h (hj▸h3)
    omega
def SlF(v:V):Prop:=v=.nilslice∨v=.empty∨∃i o n c z,v=.slice i o n c z
def Sl.form{l:List V}(s:Sl h N v l):SlF v:=by
 rcases s with⟨_,h|h⟩|⟨i,o,cp,c,e,rw,h,_⟩
 ·exact .inl h
 ·exact .inr (.inl h)
 ·exact .inr (.inr ⟨_,_,_,_,_,h⟩)
def SlF.one(h:SlF v):V.one v=true:=by
 rcases h with rfl|rfl|⟨_,_,_,_,_,rfl⟩<;>rfl
def SlF.cells(h:SlF v):V.cells v=[v]:=by
 rcases h with rfl|rfl|⟨_,_,_,_,_,rfl⟩<;>rfl
def strs(l:List Str):List V:=l.map .str
def Zb5(l:List Str):(strs l).length=l.length:=by simp[strs]
def Zgo{l:List Str}{j:Nat}{n:Str}(h:l[j]?=some n):(strs l)[j]?=some (.str n):=by simp[strs,h]
attribute [simp] Zb5
def Ysl(s:Stg)(inp:V):List V:=[.str s.name,.str s.op,.str s.factor,inp,.int .i64 s.cost]
def Gr(h:T O)(N:Nat)(v:V)(g:List Stg):Prop:=∃l:List (List V),Sn 5 h N v l∧l.length=g.length∧∀(j:Nat) (s:Stg),g[j]?=some s→∃inp,l[j]?=some (Ysl s inp)∧Sl h N inp (strs s.inputs)
def Gr.keep{h':T O}{N':Nat}{g:List Stg}(s:Gr h N v g)(k:Keeps h N h' N'):Gr h' N' v g:=by
 obtain⟨l,h1,h2,h3⟩:=s
 refine⟨l,h1.keep k,h2,fun j s hs=>?_⟩
 obtain⟨inp,h4,h5⟩:=h3 j s hs
 exact⟨inp,h4,h5.keep k⟩
def Gr.at{g:List Stg}(s:Gr h N v g){j:Nat}{x:Stg}(hj:g[j]?=some x):∃i o c e rw inp,Zk3 v=some (i,o)∧i<N∧h.get i=some (.cells c e rw)∧slc c (o+j*5) 5=some (Ysl x inp)∧Sl h N inp (strs x.inputs):=by
 obtain⟨l,h1,h2,h3⟩:=s
 obtain⟨inp,h4,h5⟩:=h3 j x hj
 obtain⟨i,o,c,e,rw,q1,q2,q3,q4⟩:=h1.at h4
 exact⟨i,o,c,e,rw,inp,q1,q2,q3,q4,h5⟩
def Gr.slice{g:List Stg}{w:List Nat}(s:Gr h N v g){lo hi:Nat}(h1:lo≤hi)(h2:hi≤g.length)(x y:Option V)(hx:x=some (.int .i64 lo)∨x=none∧lo=0)(hy:y=some (.int .i64 hi)∨y=none∧hi=g.length):
  ∃v',Zc0 ⟨h,N,w⟩ 5 (some v) (some x) (some y) (some none)=some (v',⟨h,N,w⟩)∧Gr h N v' ((g.take hi).drop lo):=by
 obtain⟨l,g1,g2,g3⟩:=s
 obtain⟨v',e1,e2⟩:=Ybl (z:=5) (w:=w) (by decide) g1 h1 (by omega) x y hx (by rw[g2];exact hy)
 refine⟨v',e1,(l.take hi).drop lo,e2,by simp[g2],fun j s hs=>?_⟩
 have hj:lo+j<hi:=by
  apply Yxn;intro hc
  rw[Ywg,Ywn,Yv4 (by omega)]at hs;cases hs
 rw[Ywg,Ywn,Yv6 hj]at hs
 obtain⟨inp,q1,q2⟩:=g3 _ s hs
 exact⟨inp,by rw[Ywg,Ywn,Yv6 hj];exact q1,q2⟩
def Ysm{a b c d e:V}:slc [a,b,c,d,e] 0 5=some [a,b,c,d,e]:=rfl
def Ysn{a b:V}:slc [a,b] 0 2=some [a,b]:=rfl
attribute [simp] Ysm Ysn
def Ync(st:St)(zero:V)(ok:Bool):Option (Option (Nat×V))→Option (V×St)
 |some (some (_,v))=>some (if ok then .tup [v,.bool true] else v,st)
 |some none=>some (if ok then .tup [zero,.bool false] else zero,st)
 |none=>none
def Zw5(st:St)(kd:Zlq)(zero:V)(ok:Bool)(k:V):Option O→Option (V×St)
 |some (.map es)=>Ync st zero ok (findV kd k es 0)
 |_=>none
def Ynd(st:St)(kd:Zlq)(zero:V)(ok:Bool):Option V→Option V→Option (V×St)
 |some (.map i),some k=>if kd.fits k=true then Zw5 st kd zero ok k (st.h.get i) else none
 |some .nilmap,some k=>if kd.fits k=true then Ync st zero ok (some none) else none
 |_,_=>none
def Zun{kd:Zlq}{zero:V}{m k:Src}{ok:Bool}{call:Za4}{r:T V}{st:St}:Zfh kd zero m k ok call r st=Ynd st kd zero ok (m.ev r) (k.ev r):=by
 unfold Zfh Ynd
 rcases m.ev r with _|m
 ·rfl
 ·rcases k.ev r with _|k
  ·cases m<;>rfl
  ·cases m<;>simp only[]<;>(try (by_cases hf:kd.fits k=true<;>simp[hf]))<;>try rfl
   ·rename_i i
    rcases st.h.get i with _|o
    ·rfl
    ·cases o<;>simp only[Zw5]
     rename_i es
     rcases findV kd k es 0 with _|_|⟨_,_⟩<;>rfl
def Ydk{st:St}{zero:V}{ok:Bool}{s:Str}:Ynd st .str zero ok (some (.map i)) (some (.str s))=Zw5 st .str zero ok (.str s) (st.h.get i):=rfl
def Zu8{st:St}{kd:Zlq}{zero:V}{ok:Bool}{es:List (V×V)}:Zw5 st kd zero ok k (some (.map es))=Ync st zero ok (findV kd k es 0):=rfl
attribute [simp] Zun Ydk Zu8 Zig
def Ymv(st:St)(i:Nat)(k v:V)(es:List (V×V)):Option (Option (Nat×V))→Option (V×St)
 |some (some (j,_))=>some (.tup [],st.write i (.map (es.set j (k,v))))
 |some none=>some (.tup [],st.write i (.map (es++[(k,v)])))
 |none=>none
def Zw0(st:St)(kd:Zlq)(i:Nat)(k v:V):Option O→Option (V×St)
 |some (.map es)=>Ymv st i k v es (findV kd k es 0)
 |_=>none
def msetK(st:St)(kd:Zlq):Option V→Option V→Option V→Option (V×St)
 |some (.map i),some k,some v=>if kd.fits k=true then Zw0 st kd i k v (st.h.get i) else none
 |_,_,_=>none
def Zum{kd:Zlq}{m k v:Src}{call:Za4}{r:T V}{st:St}:Zet kd m k v call r st=msetK st kd (m.ev r) (k.ev r) (v.ev r):=by
 unfold Zet msetK
 rcases m.ev r with _|m
 ·rfl
 ·rcases k.ev r with _|k
  ·cases m<;>rfl
  ·rcases v.ev r with _|v
   ·cases m<;>rfl
   ·cases m with
    |map i=>
     simp only[]
     by_cases hf:kd.fits k=true
     ·simp only[hf,if_true]
      rcases st.h.get i with _|o
      ·rfl
      ·cases o<;>simp only[Zw0]
       rename_i es
       rcases findV kd k es 0 with _|_|⟨_,_⟩<;>rfl
     ·simp[hf]
    |_=>rfl
def Yc1{st:St}{s:Str}:msetK st .str (some (.map i)) (some (.str s)) (some v)=Zw0 st .str i (.str s) v (st.h.get i):=rfl
def Zuv{st:St}{kd:Zlq}{es:List (V×V)}:Zw0 st kd i k v (some (.map es))=Ymv st i k v es (findV kd k es 0):=rfl
def Zy2{st:St}{es:List (V×V)}:Ymv st i k v es (some none)=some (.tup [],st.write i (.map (es++[(k,v)]))):=rfl
attribute [simp] Zum Yc1 Zuv Zy2
def Keeps.then{h h1 h2:T O}{n n1 n2:Nat}(a:Keeps h n h1 n1)(b:Keeps h1 n h2 n2):Keeps h n h2 n2:=⟨b.le,fun i hi=>(b.get i hi).trans (a.get i hi)⟩
def Zfs(l:List Int):List (List V):=l.map fun x=>[.int .i64 x]
def Zdw(l:List Int):(Zfs l).length=l.length:=by simp[Zfs]
def Zle:∀(l:List Int),(Zfs l).flatten=dI l
 |[]=>rfl
 |x::l=>by
  have:=Zle l
  simp only[Zfs,Yxk,List.flatten_cons,dI]at this ⊢
  rw[this];rfl
def Zdn(l:List Int)(x:Int):Zfs (l++[x])=Zfs l++[[.int .i64 x]]:=by simp[Zfs]
def Own.sl{e:TypeId}{N0:Nat}{h:T O}{N:Nat}{v:V}{l:List Int}(s:Own 1 e N0 h N v (Zfs l)):Sl h N v (dI l):=by
 have:=s.sn
 have e1:Zfs l=(dI l).map fun x=>[x]:=by simp[Zfs,dI]
 rw[e1]at this
 exact Sn.one.1 this
structure Yuf (g:List Stg):Prop where
 le:g.length≤16
 name:∀(j:Nat) (s:Stg),g[j]?=some s→j≤pos (g.take j) s.name
 inp:∀(j:Nat) (s:Stg),g[j]?=some s→∀n∈s.inputs,pos (g.take j) n<j
 cost:∀s∈g,1≤s.cost∧s.cost≤1000
variable {N:Nat} {h:T O}
def Cp(h:T O)(N:Nat)(v:V)(l:List V):Prop:=∃j c,v=.slice j 0 l.length c 1∧j<N∧h.get j=some (.cells l 9 true)∧∀k,c=some k→l.length≤k
def Cp.keep{h':T O}{N':Nat}{v:V}{l:List V}(s:Cp h N v l)(k:Keeps h N h' N'):Cp h' N' v l:=by
 obtain⟨j,c,h1,h2,h3,h4⟩:=s
 exact⟨j,c,h1,Ywf h2 k.le,(k.get j h2).trans h3,h4⟩
def Ybk{w:List Nat}{v:V}{l:List V}(s:Sl h N v l):Zaz ⟨h,N,w⟩ 1 v=some (l.length,l):=by
 rcases s with⟨rfl,rfl|rfl⟩|⟨i,o,cp,c,e,rw,rfl,h2,h3,h4,h5,h6⟩
 ·rfl
 ·rfl
 ·simp only[Zaz,if_true,St.row,h3,Yyy]
  have:slc c o l.length=some l:=by
   unfold slc
   rw[Yv6 h5]
   congr 1
   apply Ywy
   intro j
   rw[Ywn]
   by_cases hj:j<l.length
   ·rw[Yv6 hj,Ywg];exact h4 j hj
   ·rw[Yv4 hj,Ywd (by omega)]
  rw[this]
def PgA(h:T O)(N0 N:Nat)(u:V)(g:List Stg)(k:Nat):Prop:=∃l:List (List V),Own 5 126 N0 h N u l∧l.length=k∧∀(j:Nat) (s:Stg),j<k→g[j]?=some s→∃inp,l[j]?=some (Ysl s inp)∧Cp h N inp (strs s.inputs)
def PgA.keep{h':T O}{N0 N':Nat}{u:V}{g:List Stg}{k:Nat}(s:PgA h N0 N u g k)(kk:Keeps h N h' N'):PgA h' N0 N' u g k:=by
 obtain⟨l,h1,h2,h3⟩:=s
 refine⟨l,h1.keep kk,h2,fun j s hj hs=>?_⟩
 obtain⟨inp,h4,h5⟩:=h3 j s hj hs
 exact⟨inp,h4,h5.keep kk⟩
def Sl.setInt{h:T O}{N:Nat}{v:V}{l:List Int}{i:Nat}{c0 c1:List V}{e0 e1:TypeId}{w0 w1:Bool}(s:Sl h N v (dI l))(hr:h.get i=some (.cells c0 e0 w0))(hn:∀x∈c0,∀k n,x≠.int k n)(hc:c1.length=c0.length):Sl (h.set i (.cells c1 e1 w1)) N v (dI l):=by
 rcases s with s|⟨j,o,cp,c,e,rw,h1,h2,h3,h4,h5,h6⟩
 ·exact .inl s
 ·by_cases hj:j=i
  ·subst hj
   rw[hr]at h3
   simp only[Yv3,O.cells.injEq]at h3
   obtain⟨rfl,rfl,rfl⟩:=h3
   cases l with
   |nil=>exact .inr ⟨j,o,cp,c1,e1,w1,h1,h2,by rw[T.get_set];simp,fun k hk=>by simp[dI]at hk,by rw[hc];exact h5,h6⟩
   |cons d l=>
    have:=h4 0 (by simp[dI])
    simp only[dI,Yxk,Yxy]at this
    exact absurd rfl (hn _ (Yv7 this) .i64 d)
  ·exact .inr ⟨j,o,cp,c,e,rw,h1,h2,by rw[T.get_set,Yv4 hj];exact h3,h4,h5,h6⟩
open Go Go.Proofs
set_option maxRecDepth 1000000
noncomputable abbrev A.F(n:Nat):=Zl9 Tryz.prog n
def mv(a b:Nat):Zbc:=⟨some a,.mov (.tmp b),none⟩
def mc(a:Nat)(n:Int):Zbc:=⟨some a,.mov (.const (.int .i64 n)),none⟩
def ia(a z x i:Nat):Zbc:=⟨some a,.iaddrSl z (.tmp x) (.tmp i),none⟩
def ld(a x:Nat):Zbc:=⟨some a,.load none (.tmp x),none⟩
def xt(a x i:Nat):Zbc:=⟨some a,.extract (.tmp x) i,none⟩
def bi(a:Nat)(o:BinOp)(x y:Nat):Zbc:=⟨some a,.bin o (.node []) false (.tmp x) (.tmp y),none⟩
def bc(a:Nat)(o:BinOp)(x:Nat)(n:Int):Zbc:=⟨some a,.bin o (.node []) false (.tmp x) (.const (.int .i64 n)),none⟩
def ln(a x:Nat):Zbc:=⟨some a,.len 1 (.tmp x),none⟩
def so(a x:Nat):Zbc:=⟨none,.store 1 (.tmp a) (.tmp x),none⟩
def c1(a f x:Nat):Zbc:=⟨some a,.call (.const (.func f [] [])) [.tmp x],none⟩
def c2(a f x y:Nat):Zbc:=⟨some a,.call (.const (.func f [] [])) [.tmp x,.tmp y],none⟩
def lN(a n x:Nat):Zbc:=⟨some a,.load (some n) (.tmp x),none⟩
def fa(a o x:Nat):Zbc:=⟨some a,.faddr o (.tmp x),none⟩
def pf(a x y:Nat):Zbc:=⟨some a,.pick (.tmp x) (.tmp y) (.const (.bool false)),none⟩
def pt(a x y:Nat):Zbc:=⟨some a,.pick (.tmp x) (.const (.bool true)) (.tmp y),none⟩
def ei(a x:Nat)(n:Int):Zbc:=⟨some a,.bin .eql (.prim .int) true (.tmp x) (.const (.int .i64 n)),none⟩
def ni(a x:Nat)(n:Int):Zbc:=⟨some a,.bin .neq (.prim .int) true (.tmp x) (.const (.int .i64 n)),none⟩
def mN(a:Nat):Zbc:=⟨some a,.mov (.const .nilslice),none⟩
def bx(a e x:Nat):Zbc:=⟨some a,.box e (.tmp x),none⟩
def mg(a x g:Nat):Zbc:=⟨some a,.mov (.tmp x),some (g,true)⟩
def mh(a x g:Nat):Zbc:=⟨some a,.mov (.tmp x),some (g,false)⟩
def sr(l:List Zbc)(c:Zaw):Zaw:=.seq (.reg l) c
def cd(x:Nat)(a b:Zaw):Zaw:=.cond (.tmp x) a b
def ge(a:Nat)(o:MOp):Zbc:=⟨some a,o,none⟩
def gn(o:MOp):Zbc:=⟨none,o,none⟩
def gy(a g:Nat)(o:MOp):Zbc:=⟨some a,o,some (g,true)⟩
def gz(a g:Nat)(o:MOp):Zbc:=⟨some a,o,some (g,false)⟩
abbrev tq(x:Nat):Src:=.tmp x
abbrev kq(n:Int):Src:=.const (.int .i64 n)
abbrev fq(f:Nat):Src:=.const (.func f [] [])
attribute [simp] Yxy Yyh mv mc ia ld xt bi bc ln so c1 c2 lN fa pf pt ei ni mN bx mg mh sr cd ge gn gy gz
def A.p10:O:=.cells (([1,10,100,1000,10000,100000,1000000,10000000,100000000,1000000000,10000000000,100000000000,1000000000000,10000000000000,100000000000000,1000000000000000,10000000000000000,100000000000000000,1000000000000000000,10000000000000000000]:List Int).map fun z=>.int .u64 z) 277 false
def A.TB:List (Nat×O):=[(5,A.p10)]
noncomputable def A.C:Cx:=⟨Zyu A.TB [⟨5,[],.bool true⟩],Zl9 Tryz.prog⟩
def A.t:A.C.tbl=Zl9 Tryz.prog:=rfl
def A.x0{f:Nat}{a c args:List V}{st:St}(h:Nat.beq 5 f=false):A.C.x (.func f a c) args st=none:=by
 show Zyu A.TB [⟨5,[],.bool true⟩] (.func f a c) args st=none
 unfold Zyu
 split
 ·rename_i heq
  simp only[V.func.injEq]at heq
  obtain⟨rfl,rfl,rfl⟩:=heq
  simp only[Zyt,h]
 ·rfl
noncomputable def Yt1(P:Program)(fn:Func):Zaw:=match fn.body with
 |some c=>Zc5 P c
 |none=>.skip
def Zlz:Zaw→List Zaw
 |.seq a b=>Zlz a++Zlz b
 |.cond _ a b=>Zlz a++Zlz b
 |.block _ a=>Zlz a
 |.scope a=>Zlz a
 |.loop a=>a::Zlz a
 |_=>[]
def Zs5:List Zaw→Zaw→Zaw×List Zaw
 |ls,.seq a b=>match Zs5 ls a with
  |(a,ls)=>match Zs5 ls b with
   |(b,ls)=>(.seq a b,ls)
 |ls,.cond s a b=>match Zs5 ls a with
  |(a,ls)=>match Zs5 ls b with
   |(b,ls)=>(.cond s a b,ls)
 |ls,.block k a=>match Zs5 ls a with
  |(a,ls)=>(.block k a,ls)
 |ls,.scope a=>match Zs5 ls a with
  |(a,ls)=>(.scope a,ls)
 |l::ls,.loop _=>(.loop l,ls)
 |ls,c=>(c,ls)
@[simp] noncomputable def A.q (f:Func) {b:Zaw} (_h:Yt1 Tryz.prog f=b:=by conv=>lhs;cbv):Zaw:=b
@[simp] noncomputable def A.ql (w:Zaw) (i:Nat) (ls:List Zaw) {b:Zaw} (_h:(Zs5 ls ((Zlz w)[i]?.getD .skip)).1=b:=by conv=>lhs;cbv):Zaw:=b
@[simp] noncomputable def A.qb (w:Zaw) (ls:List Zaw) {b:Zaw} (_h:(Zs5 ls w).1=b:=by conv=>lhs;cbv):Zaw:=b
def A.kk{n k:Nat}{res:List Ypn}{b:Zaw}(hc:Zl9 Tryz.prog n=some ⟨k,res,b⟩)(hx:Nat.beq 5 n=false){K:List Kf}{Q:Rs→Prop}{f c args:List V}{st:St}(h:(f++args++c).length≤k):Run A.C K (Zrj (A.C.call (.func n f c) args st)) Q↔Run A.C (.fin res st::K) (exR (A.C.code none b ⟨Zew .nil 0 (f++args++c),k,[]⟩ ⟨st.h,st.n,[]⟩)) Q:=Ygz (A.x0 (f:=n) hx) (mf:=⟨k,res,b⟩) (by rw[A.t];exact hc) h
def A.known{h:T O}{N:Nat}{w:List Nat}(hp:h.get 5=some A.p10):A.C.call (.func 5 [] []) [] ⟨h,N,w⟩=some (.bool true,⟨h,N,w⟩):=by
 have hq:oEq (h.get 5) A.p10=true:=by rw[hp];decide+kernel
 have hi:Zlv ⟨h,N,w⟩ A.TB=true:=by
  show (match oEq (h.get 5) A.p10 with|true=>true|false=>false)=true
  rw[hq]
 have hx:A.C.x (.func 5 [] []) [] ⟨h,N,w⟩=some (.bool true,⟨h,N,w⟩):=by
  show (match Zlv ⟨h,N,w⟩ A.TB with|true=>some (V.bool true,(⟨h,N,w⟩:St))|false=>none)=_
  rw[hi]
 rw[Cx.call_eq]
 unfold Zer
 rw[hx]
end Go.Mx
