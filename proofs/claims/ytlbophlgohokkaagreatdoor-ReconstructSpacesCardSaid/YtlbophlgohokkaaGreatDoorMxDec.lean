/-
  Digits to the base 10^9, as integers.
-/
import Derived.Test.YtlbophlgohokkaaGreatDoorMxWord
import Derived.Test.YtlbophlgohokkaaGreatDoorMxTab
import Derived.Test.YtlbophlgohokkaaGreatDoorProg
set_option linter.all false
namespace Go.Mx
open Go
variable {d:Int} {j k n:Nat} {l:List Int}
def vI:List Int->Int
 |[]=>0
 |d::l=>d+1000000000*vI l
def pI(k:Nat):Int:=1000000000^k
theorem qp(k:Nat):pI (k+1)=1000000000*pI k:=by unfold pI;rw[Int.pow_succ,Int.mul_comm]
theorem Yku:pI 0=1:=rfl
theorem yl(k:Nat):0<pI k:=by unfold pI;exact Int.pow_pos (by decide)
theorem JQ(i j:Nat):pI (i+j)=pI i*pI j:=by unfold pI;exact Int.pow_add ..
theorem Ok:∀(l m:List Int),vI (l++m)=vI l+pI l.length*vI m
 |[],m=>by simp[vI,pI]
 |d::l,m=>by
  simp only[xZ,vI,Ok l m,bq,qp]
  grind
theorem ym(l:List Int)(d:Int):vI (l++[d])=vI l+pI l.length*d:=by simp[Ok,vI]
theorem Ol(n:Nat):vI (List.replicate n 0)=0:=by
 induction n with
 |zero=>rfl
 |succ n ih=>simp[List.replicate_succ,vI,ih]
theorem kc{α:Type}{l:List α}{d:α}(h:l[k]?=some d):k<l.length:=by
 apply oF;intro hc;rw[eG hc]at h;cases h
theorem tJ(h:l[k]?=some d):vI (l.take (k+1))=vI (l.take k)+pI k*d:=by
 have hk:=kc h
 rw[wA,h]
 simp only[Option.toList]
 rw[ym,gK,mw (by omega)]
theorem FU(l:List Int)(k:Nat)(hk:k<=l.length):vI l=vI (l.take k)+pI k*vI (l.drop k):=by
 have:=Ok (l.take k) (l.drop k)
 rw[wN,gK,mw hk]at this
 exact this
theorem yn:∀{l:List Int} {k:Nat} {c:Int},l[k]?=some c->∀(v:Int),vI (l.set k v)=vI l+pI k*(v-c)
 |[],k,c,h,v=>by simp at h
 |d::l,0,c,h,v=>by
  simp at h;subst h
  simp only[List.set_cons_zero,vI,Yku];omega
 |d::l,k+1,c,h,v=>by
  have:=yn (l:=l) (k:=k) (c:=c) (by simpa using h) v
  simp only[List.set_cons_succ,vI,this,qp]
  grind
def Di(l:List Int):Prop:=∀d∈l,0<=d/\d<1000000000
theorem Di.get(h:Di l){k:Nat}{d:Int}(hd:l[k]?=some d):0<=d/\d<1000000000:=h d (cm hd)
theorem Di.set(h:Di l){k:Nat}{v:Int}(h0:0<=v)(h1:v<1000000000):Di (l.set k v):=fun d hd=>by
 rcases zl hd with hd|rfl
 ·exact h d hd
 ·exact⟨h0,h1⟩
theorem Di.app{m:List Int}(h:Di l)(h':Di m):Di (l++m):=fun d hd=>by
 rcases pw.1 hd with hd|hd
 ·exact h d hd
 ·exact h' d hd
theorem Di.one{v:Int}(h0:0<=v)(h1:v<1000000000):Di [v]:=fun d hd=>by simp at hd;subst hd;exact⟨h0,h1⟩
theorem Di.nil:Di []:=fun d hd=>by simp at hd
theorem Di.uV(n:Nat):Di (List.replicate n 0):=fun d hd=>by rw[DS]at hd;rw[hd.2];decide
theorem Di.take(h:Di l)(k:Nat):Di (l.take k):=fun d hd=>h d (uC hd)
theorem Di.drop(h:Di l)(k:Nat):Di (l.drop k):=fun d hd=>h d (List.mem_of_mem_drop hd)
theorem qq:∀{l:List Int},Di l->0<=vI l
 |[],_=>Int.le_refl _
 |d::l,h=>by
  have h1:=h d mS
  have h2:=qq (l:=l) fun e he=>h e (mr _ he)
  simp only[vI];omega
theorem qs:∀{l:List Int},Di l->vI l<pI l.length
 |[],_=>by decide
 |d::l,h=>by
  have h1:=h d mS
  have h2:=qs (l:=l) fun e he=>h e (mr _ he)
  simp only[vI,bq,qp];omega
def zI(l:List Int)(j:Nat):Int:=l[j]?.getD 0
theorem Yjo(h:l[j]?=some d):zI l j=d:=by simp[zI,h]
theorem Om(h:l.length<=j):zI l j=0:=by simp[zI,h]
theorem On{l:List Int}(h:Di l)(j:Nat):0<=zI l j/\zI l j<1000000000:=by
 unfold zI
 cases hj:l[j]? with
 |none=>simp
 |some d=>exact h.get hj
theorem Oo{l:List Int}{k:Nat}:vI (l.take (k+1))=vI (l.take k)+pI k*zI l k:=by
 unfold zI
 cases h:l[k]? with
 |some d=>exact tJ h
 |none=>
  have hk:l.length<=k:=by
   apply tA;intro hc;rw[cW hc]at h;cases h
  rw[fN (by omega),fN hk];simp
theorem fP{α:Type}{l:List α}{d:α}(h:l[k]?=some d):l.drop k=d::l.drop (k+1):=by
 obtain⟨hk,hs⟩:=tn.1 h
 rw[<-hs];exact Bl hk
def dI(l:List Int):List V:=l.map fun n=>.int .i64 n
theorem fh(l:List Int):(dI l).length=l.length:=by simp[dI]
theorem fb{n:Int}(h:l[j]?=some n):(dI l)[j]?=some (.int .i64 n):=by simp[dI,h]
attribute [simp] fh
theorem uW{v:Int}(h:k<l.length):ag (dI l) k [.int .i64 v]=dI (l.set k v):=by
 unfold ag dI
 apply iW
 intro j
 simp only[uJ,iX,List.getElem?_set]
 rw[nT,List.getElem?_append,gK,si]
 by_cases h1:j<k
 ·rw[aF (by omega),gU,aF h1,iX,ar (by omega)]
 ·rw[ar (by omega)]
  by_cases h2:j=k
  ·subst h2
   rw[show j-min j l.length=0 by omega,aF rfl,aF h];rfl
  ·rw[show j-min k l.length=(j-k-1)+1 by omega,ar (by omega)]
   simp only[JI,zE,fe,iX]
   rw[show k+1+(j-k-1)=j by omega]
theorem Oq:cj [.int .i64 0] n=dI (List.replicate n 0):=by rw[Jv];simp[dI]
def nt:List Int->List Int
 |[]=>[]
 |d::l=>match nt l with
  |[]=>if d=0 then [] else [d]
  |t=>d::t
theorem Ot:∀(l:List Int),nt (l++[0])=nt l
 |[]=>rfl
 |d::l=>by simp only[xZ,nt,Ot l]
theorem TW{d:Int}(hd:d≠0):∀(l:List Int),nt (l++[d])=l++[d]
 |[]=>by simp[nt,hd]
 |e::l=>by
  simp only[xZ,nt,TW hd l]
  cases l<;>rfl
theorem TX:∀(l:List Int),(nt l).length<=l.length
 |[]=>aV _
 |d::l=>by
  have ih:=TX l
  simp only[nt]
  split
  ·split<;>simp
  ·simp only[bq];omega
def ds(n:Nat):List Int:=if h:n=0 then [] else ((n%1000000000:Nat):Int)::ds (n/1000000000)
termination_by n
decreasing_by exact ya (by omega) (by decide)
theorem oJ:ds 0=[]:=by rw[ds];simp
theorem uX(h:n≠0):ds n=((n%1000000000:Nat):Int)::ds (n/1000000000):=by rw[ds];simp[h]
theorem fF:∀(n:Nat),vI (ds n)=n:=by
 intro n
 induction n using Nat.strongRecOn with
 |_ n ih=>
  by_cases h:n=0
  ·subst h;rw[oJ];rfl
  ·rw[uX h]
   simp only[vI]
   rw[ih (n/1000000000) (ya (by omega) (by decide))]
   omega
theorem fw(n:Nat):Di (ds n):=by
 induction n using Nat.strongRecOn with
 |_ n ih=>
  by_cases h:n=0
  ·subst h;rw[oJ];exact Di.nil
  ·rw[uX h]
   intro d hd
   rcases jN.1 hd with rfl|hd
   ·omega
   ·exact ih (n/1000000000) (ya (by omega) (by decide)) d hd
theorem Ou:∀{l:List Int},Di l->nt l=ds (vI l).toNat
 |[],_=>by simp[nt,vI,oJ]
 |d::l,h=>by
  have hl:Di l:=fun e he=>h e (mr _ he)
  have ih:=Ou hl
  have hd:=h d mS
  have hn:=qq hl
  simp only[nt,vI,ih]
  by_cases h0:vI l=0
  ·rw[h0]
   simp only[Int.toNat_zero,oJ,Int.mul_zero,Int.add_zero]
   by_cases nv:d=0
   ·simp[nv,oJ]
   ·rw[uX (by omega),sK (by omega),uK (by omega),oJ];simp[nv];omega
  ·have h3:(d+1000000000*vI l).toNat≠0:=by omega
   rw[uX h3]
   have h1:(d+1000000000*vI l).toNat/1000000000=(vI l).toNat:=by omega
   have h2:(((d+1000000000*vI l).toNat%1000000000:Nat):Int)=d:=by omega
   rw[h1,h2]
   split
   ·rename_i hc;rw[uX (by omega)]at hc;cases hc
   ·rfl
theorem BQ(h:Di l){n:Nat}(hn:vI l=n):nt l=ds n:=by rw[Ou h,hn];rfl
theorem Ymh(n:Nat):nt (ds n)=ds n:=BQ (fw n) (fF n)
theorem yo:ds n=[]↔n=0:=by
 constructor
 ·intro h
  by_cases h0:n=0
  ·exact h0
  ·rw[uX h0]at h;cases h
 ·intro h;rw[h,oJ]
theorem Ymi(h:n≠0):∃d,(ds n)[(ds n).length-1]?=some d/\0<d:=by
 have bA:ds n≠[]:=fun hc=>h (yo.1 hc)
 obtain⟨l,d,hd⟩:∃l d,ds n=l++[d]:=⟨(ds n).dropLast,(ds n).getLast bA,(Jq bA).symm⟩
 refine⟨d,by rw[hd,fK,uJ];simp,?_⟩
 have h1:=fw n d (by rw[hd];exact List.mem_append_right _ mS)
 have:d≠0:=fun h0=>by
  have h2:=Ymh n
  rw[hd,h0,Ot]at h2
  have:=TX l
  rw[h2]at this;simp at this;omega
 omega
theorem D8{n k:Nat}(h:n<1000000000^k):(ds n).length<=k:=by
 induction k generalizing n with
 |zero=>
  have:n=0:=by simpa using h
  rw[this,oJ];simp
 |succ k ih=>
  by_cases h0:n=0
  ·rw[h0,oJ];simp
  ·rw[uX h0]
   have:=ih (n:=n/1000000000) ((mq (by decide)).2 (by rw[<-fJ];exact h))
   simp only[bq];omega
def Dn(h:T O)(N:Nat)(v:V)(n:Nat):Prop:=Sl h N v (dI (ds n))
theorem Dn.ad{h h':T O}{N N':Nat}{v:V}(s:Dn h N v n)(k:ab h N h' N'):Dn h' N' v n:=Sl.ad s k
variable {w:List Int}
theorem Ov{P u1 u2 U' v1 v2 V' t r:Int}(hP:0<P)(yp:0<=U')(eM:0<=u2)(uY:0<=u1)(ko:0<v1)(iD:0<=v2)(rD:0<=V')(yq:V'<P)(h0:0<=t)(ht:t<=1000000000)(hinv:u1=t*v1+r)(hc:t*v2<=r*1000000000+u2):
  (t-1)*(V'+P*(v2+1000000000*v1))<=U'+P*(u2+1000000000*u1):=by
 by_cases lF:t=0
 ·subst lF
  have h1:0<=P*(v2+1000000000*v1):=rn (by omega) (by omega)
  have h2:0<=P*(u2+1000000000*u1):=rn (by omega) (by omega)
  omega
 ·have h1:(t-1)*V'<=1000000000*P:=by
   have:(t-1)*V'<=1000000000*V':=zA (by omega) rD
   omega
  have h2:P*1<=P*v1:=nh (by omega) (by omega)
  have h3:P*(t*v2)<=P*(r*1000000000+u2):=nh hc (by omega)
  have h4:0<=P*v2:=rn (by omega) iD
  have h5:(t-1)*(V'+P*(v2+1000000000*v1))=(t-1)*V'+P*(t*v2)-P*v2+1000000000*(P*(t*v1))-1000000000*(P*v1):=by grind
  have h6:U'+P*(u2+1000000000*u1)=U'+P*(r*1000000000+u2)+1000000000*(P*(t*v1)):=by subst hinv;grind
  omega
theorem Ylu{P u1 u2 U' v1 v2 V' t r:Int}(hP:0<P)(yp:U'<P)(rD:0<=V')(h0:0<=t)(hinv:u1=t*v1+r)(hc:r*1000000000+u2<t*v2):
  U'+P*(u2+1000000000*u1)<t*(V'+P*(v2+1000000000*v1)):=by
 have h1:0<=t*V':=rn h0 rD
 have h3:P*(r*1000000000+u2+1)<=P*(t*v2):=nh (by omega) (by omega)
 have h5:t*(V'+P*(v2+1000000000*v1))=t*V'+P*(t*v2)+1000000000*(P*(t*v1)):=by grind
 have h6:U'+P*(u2+1000000000*u1)=U'+P*(r*1000000000+u2+1)-P+1000000000*(P*(t*v1)):=by subst hinv;grind
 omega
theorem Ybt{x:Int}(h1:1<=x)(h2:x<1000000000):500000000<=x*(1000000000/(x+1)):=by
 have hd:(x+1)*(1000000000/(x+1))+1000000000%(x+1)=1000000000:=zB ..
 have hr:1000000000%(x+1)<x+1:=zC _ (by omega)
 have eK:0<=1000000000%(x+1):=zJ _ (by omega)
 generalize 1000000000/(x+1)=d at*
 generalize 1000000000%(x+1)=r at*
 have e:(x+1)*d=x*d+d:=by grind
 apply zH
 intro hc
 by_cases hx:x<=500000000
 ·have h3:500000000-x+1<=d:=by omega
  have h4:x*(500000000-x+1)<=x*d:=nh h3 (by omega)
  have h5:0<=(x-1)*(500000000-x):=rn (by omega) (by omega)
  have h6:(x-1)*(500000000-x)=x*(500000000-x+1)-500000000:=by grind
  omega
 ·have h3:1<=d:=by
   apply zH;intro h
   have:d<=0:=by omega
   have:(x+1)*d<=0:=Int.mul_nonpos_of_nonneg_of_nonpos (by omega) this
   omega
  have h4:x*1<=x*d:=nh h3 (by omega)
  omega
theorem Ow{m:Nat}(h:∀t,m<=t->t<w.length->w[t]?=some 0):vI w=vI (w.take m):=by
 by_cases hm:m<=w.length
 ·have h1:=FU w m hm
  have h2:w.drop m=List.replicate (w.length-m) 0:=by
   apply iW
   intro t
   rw[fe,List.getElem?_replicate]
   by_cases ht:t<w.length-m
   ·rw[aF ht];exact h _ (by omega) (by omega)
   ·rw[ar ht];exact eG (by omega)
  rw[h2,Ol]at h1
  omega
 ·rw[fN (by omega)]
theorem Yjr{k:Nat}{a c d:Int}(ha:w[k]?=some a)(hc:w[k+1]?=some c)(hd:w[k+2]?=some d)(hz:∀t,k+3<=t->t<w.length->w[t]?=some 0):
  vI w=vI (w.take k)+pI k*(a+1000000000*(d*1000000000+c)):=by
 rw[Ow hz,show k+3=(k+2)+1 by omega,tJ hd,tJ hc,tJ ha,qp (k+1),qp k]
 grind
theorem Yjs{k:Nat}{a c:Int}(ha:w[k]?=some a)(hc:w[k+1]?=some c)(hl:w.length=k+2):
  vI w=vI (w.take k)+pI k*(a+1000000000*c):=by
 have h1:vI w=vI (w.take (k+1+1)):=by rw[fN (by omega)]
 rw[h1,tJ hc,tJ ha,qp k]
 grind
theorem Ye3{n:Nat}{t:Int}(hd:Di (w.take n))(ht:w[n]?=some t)(hz:∀j,n<j->j<w.length->w[j]?=some 0)(h1:vI w<pI n):(0<=vI w->t=0)/\(vI w<0->t<0):=by
 have hl:=kc ht
 have h2:vI w=vI (w.take n)+pI n*t:=by
  rw[Ow (m:=n+1) (fun j h1 h2=>hz j (by omega) h2),tJ ht]
 have h3:=qq hd
 have h4:=qs hd
 rw[gK,mw (by omega)]at h4
 have h5:=yl n
 constructor
 ·intro h
  have h6:¬t<= -1:=fun hc=>by
   have:=nh hc (pH h5)
   omega
  have h7:¬1<=t:=fun hc=>by
   have:=nh hc (pH h5)
   omega
  omega
 ·intro h
  apply DT
  intro hc
  have:=rn (pH h5) hc
  omega
variable {N k:Nat} {s:aX}
theorem Ysf:(N=N+1)=False:=eq_false (by omega)
theorem Yr6:(N+1=N)=False:=eq_false (by omega)
theorem Ysx:(N+1<N)=False:=eq_false (by omega)
theorem Yse:(N=N+1+1)=False:=eq_false (by omega)
theorem Yr5:(N+1+1=N)=False:=eq_false (by omega)
theorem Ysw:(N+1+1<N)=False:=eq_false (by omega)
theorem Ysd:(N=N+1+1+1)=False:=eq_false (by omega)
theorem Yr4:(N+1+1+1=N)=False:=eq_false (by omega)
theorem Ysv:(N+1+1+1<N)=False:=eq_false (by omega)
theorem Ysc:(N=N+1+1+1+1)=False:=eq_false (by omega)
theorem Yr3:(N+1+1+1+1=N)=False:=eq_false (by omega)
theorem Ysu:(N+1+1+1+1<N)=False:=eq_false (by omega)
theorem Ysb:(N=N+1+1+1+1+1)=False:=eq_false (by omega)
theorem Yr2:(N+1+1+1+1+1=N)=False:=eq_false (by omega)
theorem Yst:(N+1+1+1+1+1<N)=False:=eq_false (by omega)
theorem Ysa:(N=N+1+1+1+1+1+1)=False:=eq_false (by omega)
theorem Yr1:(N+1+1+1+1+1+1=N)=False:=eq_false (by omega)
theorem Yss:(N+1+1+1+1+1+1<N)=False:=eq_false (by omega)
theorem Yr9:(N=N+1+1+1+1+1+1+1)=False:=eq_false (by omega)
theorem Yr0:(N+1+1+1+1+1+1+1=N)=False:=eq_false (by omega)
theorem Ysr:(N+1+1+1+1+1+1+1<N)=False:=eq_false (by omega)
theorem Yr8:(N=N+1+1+1+1+1+1+1+1)=False:=eq_false (by omega)
theorem Yrz:(N+1+1+1+1+1+1+1+1=N)=False:=eq_false (by omega)
theorem Ysq:(N+1+1+1+1+1+1+1+1<N)=False:=eq_false (by omega)
theorem Yr7:(N=N+1+1+1+1+1+1+1+1+1)=False:=eq_false (by omega)
theorem Yry:(N+1+1+1+1+1+1+1+1+1=N)=False:=eq_false (by omega)
theorem Ysp:(N+1+1+1+1+1+1+1+1+1<N)=False:=eq_false (by omega)
theorem Yqn:(N=N+1+1+1+1+1+1+1+1+1+1)=False:=eq_false (by omega)
theorem Yqh:(N+1+1+1+1+1+1+1+1+1+1=N)=False:=eq_false (by omega)
theorem Yqz:(N+1+1+1+1+1+1+1+1+1+1<N)=False:=eq_false (by omega)
theorem Yqm:(N=N+1+1+1+1+1+1+1+1+1+1+1)=False:=eq_false (by omega)
theorem Yqg:(N+1+1+1+1+1+1+1+1+1+1+1=N)=False:=eq_false (by omega)
theorem Yqy:(N+1+1+1+1+1+1+1+1+1+1+1<N)=False:=eq_false (by omega)
theorem Yql:(N=N+1+1+1+1+1+1+1+1+1+1+1+1)=False:=eq_false (by omega)
theorem Yqf:(N+1+1+1+1+1+1+1+1+1+1+1+1=N)=False:=eq_false (by omega)
theorem Yqx:(N+1+1+1+1+1+1+1+1+1+1+1+1<N)=False:=eq_false (by omega)
theorem Yqk:(N=N+1+1+1+1+1+1+1+1+1+1+1+1+1)=False:=eq_false (by omega)
theorem Yqe:(N+1+1+1+1+1+1+1+1+1+1+1+1+1=N)=False:=eq_false (by omega)
theorem Yqw:(N+1+1+1+1+1+1+1+1+1+1+1+1+1<N)=False:=eq_false (by omega)
theorem Yqj:(N=N+1+1+1+1+1+1+1+1+1+1+1+1+1+1)=False:=eq_false (by omega)
theorem Yqd:(N+1+1+1+1+1+1+1+1+1+1+1+1+1+1=N)=False:=eq_false (by omega)
theorem Yqv:(N+1+1+1+1+1+1+1+1+1+1+1+1+1+1<N)=False:=eq_false (by omega)
theorem Yqi:(N=N+1+1+1+1+1+1+1+1+1+1+1+1+1+1+1)=False:=eq_false (by omega)
theorem Yqc:(N+1+1+1+1+1+1+1+1+1+1+1+1+1+1+1=N)=False:=eq_false (by omega)
theorem Yqu:(N+1+1+1+1+1+1+1+1+1+1+1+1+1+1+1<N)=False:=eq_false (by omega)
attribute [simp] Ysf Yr6 Ysx Yse Yr5 Ysw Ysd Yr4 Ysv Ysc Yr3 Ysu Ysb Yr2 Yst Ysa Yr1 Yss Yr9 Yr0 Ysr Yr8 Yrz Ysq Yr7 Yry Ysp Yqn Yqh Yqz Yqm Yqg Yqy Yql Yqf Yqx Yqk Yqe Yqw Yqj Yqd Yqv Yqi Yqc Yqu
theorem Yso:(N<N+1)=True:=eq_true (by omega)
theorem Ysn:(N<N+1+1)=True:=eq_true (by omega)
theorem Ysm:(N<N+1+1+1)=True:=eq_true (by omega)
theorem Ysl:(N<N+1+1+1+1)=True:=eq_true (by omega)
theorem Ysk:(N<N+1+1+1+1+1)=True:=eq_true (by omega)
theorem Ysj:(N<N+1+1+1+1+1+1)=True:=eq_true (by omega)
theorem Ysi:(N<N+1+1+1+1+1+1+1)=True:=eq_true (by omega)
theorem Ysh:(N<N+1+1+1+1+1+1+1+1)=True:=eq_true (by omega)
theorem Ysg:(N<N+1+1+1+1+1+1+1+1+1)=True:=eq_true (by omega)
theorem Yqt:(N<N+1+1+1+1+1+1+1+1+1+1)=True:=eq_true (by omega)
theorem Yqs:(N<N+1+1+1+1+1+1+1+1+1+1+1)=True:=eq_true (by omega)
theorem Yqr:(N<N+1+1+1+1+1+1+1+1+1+1+1+1)=True:=eq_true (by omega)
theorem Yqq:(N<N+1+1+1+1+1+1+1+1+1+1+1+1+1)=True:=eq_true (by omega)
theorem Yqp:(N<N+1+1+1+1+1+1+1+1+1+1+1+1+1+1)=True:=eq_true (by omega)
theorem Yqo:(N<N+1+1+1+1+1+1+1+1+1+1+1+1+1+1+1)=True:=eq_true (by omega)
attribute [simp] Yso Ysn Ysm Ysl Ysk Ysj Ysi Ysh Ysg Yqt Yqs Yqr Yqq Yqp Yqo
theorem Call.eq{C:Cx}{g:V}{args:List V}{st av:St}{u:V}(h:Call C g args st (fun v s=>v=u/\s=av)):C.call g args st=some (u,av):=by
 obtain⟨v,s,e,rfl,rfl⟩:=h.ex
 exact e
theorem Fn.pure{C:Cx}{f:Nat}{args:List V}{h:T O}{u:V}{P:V->T O->Nat->Prop}(e:∀w,C.call (.func f [] []) args ⟨h,N,w⟩=some (u,⟨h,N,w⟩))(p:P u h N):Fn C f args h N P:=fun w=>⟨⟨u,⟨h,N,w⟩,e w,rfl,ab.refl,p⟩⟩
theorem Zp9{C:Cx}{K:List Kf}{Q:Rs->Prop}{fr:Fr}{st:St}{i j:Nat}(h:¬j=i):bH C (.block i::K) (some (.ex (.exit j) fr st)) Q↔bH C K (some (.ex (.exit j) fr st)) Q:=Zqa (by
 cases hb:Nat.beq j i with
 |false=>rfl
 |true=>exact absurd (JF hb) h)
attribute [simp] Zp9
def bV:List Int->Int
 |[]=>0
 |e::l=>if e=0 then bV l else e
theorem bs{α:Type}{l:List α}(h:k<l.length):∃d,l[k]?=some d:=⟨_,cW h⟩
theorem Ox(c:UInt8):iQ c=decide (48<=cE c/\cE c<=57):=by
 unfold iQ cE;rw[decide_eq_decide];omega
def kp(k:Nat):List V:=(List.range 256).map fun i=>.bool (decide (48<=i/\i<48+k))
theorem uZ(k:Nat):(kp k).length=256:=by simp[kp]
theorem D9{i:Nat}(hi:i<256):(kp k)[i]?=some (.bool (decide (48<=i/\i<48+k))):=by simp[kp,hi]
theorem TY(k:Nat):(kp k).all V.one=true:=by simp[kp,V.one]
theorem Yh8(hk:k<10):ag (kp k) (48+k) [.bool true]=kp (k+1):=by
 apply iW
 intro j
 unfold ag
 rw[nT,List.getElem?_append,gK,uZ,mw (by omega)]
 by_cases h1:j<48+k
 ·rw[aF h1,gU,aF h1,D9 (by omega),D9 (by omega)]
  congr 3;rw[eq_iff_iff];omega
 ·rw[ar h1]
  by_cases h2:j=48+k
  ·subst h2
   rw[D9 (by omega)]
   simp
  ·rw[show j-(48+k)=(j-(48+k)-1)+1 by omega]
   simp only[JI,zE,fe,uJ]
   rw[show 48+k+1+(j-(48+k)-1)=j by omega]
   by_cases h3:j<256
   ·rw[D9 h3,D9 h3];congr 3;rw[eq_iff_iff];omega
   ·rw[eG (by rw[uZ];omega),eG (by rw[uZ];omega)]
theorem Yef(k:Nat):(kp k).take 256=kp k:=fN (by rw[uZ];omega)
theorem Yh7(j k:Nat):ag (kp j) 0 (kp k)=kp k:=by
 unfold ag;rw[uZ,mi (by rw[uZ];omega)];simp
attribute [simp] uZ TY Yef Yh7
def cB(s:aX):Bool:=s.all iQ
def Oy:aX:=[48,49,50,51,52,53,54,55,56,57]
theorem Yho(hk:k<10):∃c,Oy[k]?=some c/\cE c=48+k:=by
 have:k=0\/k=1\/k=2\/k=3\/k=4\/k=5\/k=6\/k=7\/k=8\/k=9:=by omega
 rcases this with rfl|rfl|rfl|rfl|rfl|rfl|rfl|rfl|rfl|rfl<;>exact⟨_,rfl,rfl⟩
theorem xb{n:Int}(h1:0<=n)(h2:n<256):bk .u8 n=n:=by
 rw[uO]
 simp[IntKind.wrap,IntKind.bits,IntKind.signed]
 omega
theorem FV{n:Int}(h1: -9223372036854775808<=n)(h2:n<9223372036854775808):IntKind.wrap .i64 n=n:=by
 simp[IntKind.wrap,IntKind.bits,IntKind.signed]
 omega
theorem FW(l:aX)(c:UInt8):aC (l++[c])=10*aC l+(c.toNat-48):=by simp[aC]
theorem Oz{c:UInt8}(h:s[k]?=some c):aC (s.take (k+1))=10*aC (s.take k)+(c.toNat-48):=by
 rw[wA,h]
 simp only[Option.toList,FW]
theorem FX(h:cB s=true){k:Nat}{c:UInt8}(hc:s[k]?=some c):48<=cE c/\cE c<=57:=by
 unfold cB at h
 rw[lM]at h
 have:=h c (cm hc)
 rw[Ox]at this
 simpa using this
theorem JR{s:aX}(h:cB s=true):∀k,k<=s.length->aC (s.take k)<10^k
 |0,_=>by simp[aC]
 |k+1,hk=>by
  obtain⟨c,hc⟩:=bs (l:=s) (k:=k) (by omega)
  have h1:=JR h k (by omega)
  have h2:=FX h hc
  unfold cE at h2
  rw[Oz hc,fJ]
  omega
theorem xc(h:cB s=true):aC s<10^s.length:=by
 have:=JR h s.length (aV _)
 rwa [uv]at this
theorem JS{a b:Nat}(h:a<=b):10^a<=10^b:=oE (by decide) h
theorem Yh9(h:k<9223372036854775808):nk .and .i64 (k:Int) 1=some (.int .i64 ((k%2:Nat):Int)):=by
 show some (V.int .i64 (IntKind.wrap .i64 (BitVec.ofInt 64 (k:Int)&&& BitVec.ofInt 64 1).toNat))=_
 have e:(BitVec.ofInt 64 1).toNat=2^1-1:=by decide
 rw[BitVec.toNat_and,JT k (by omega),e,Nat.and_two_pow_sub_one_eq_mod,FV (by omega) (by omega)]
theorem Yff:tD .shr .i64 (k:Int) 1=some (.int .i64 ((k/2:Nat):Int)):=by
 unfold tD
 have e:min (1:Int).toNat (IntKind.bits .i64)=1:=by decide
 rw[ar (by decide),e]
 simp only[ai,V.int.injEq,true_and]
 rw[Int.fdiv_eq_ediv_of_nonneg _ (by decide)]
 rfl
variable {N i:Nat} {h:T O} {k v:V}
theorem ab.new{h1:T O}{n n1:Nat}(k:ab h n h1 n1)(o:O):ab h n (h1.set n1 o) (n1+1):=(k.set k.le).up (sN _)
abbrev q9(C:Cx)(f:V)(args:List V)(h:T O)(n:Nat)(P:V->T O->Nat->Prop):Prop:=∀w,Call C f args ⟨h,n,w⟩ (aA P h n w)
theorem Dk{C:Cx}{f args h n w P K Q}(hf:q9 C f args h n P)(k:∀v h' n',ab h n h' n'->P v h' n'->bH C K (some (.val v ⟨h',n',w⟩)) Q):bH C K (nW (C.call f args ⟨h,n,w⟩)) Q:=
 xd (hf w) fun v av=>by
  obtain⟨h',n',w'⟩:=av
  rintro⟨rfl,hk,hp⟩
  exact k v h' n' hk hp
theorem q9.pure{C:Cx}{f:V}{args:List V}{u:V}{P:V->T O->Nat->Prop}(e:∀w,C.call f args ⟨h,N,w⟩=some (u,⟨h,N,w⟩))(p:P u h N):q9 C f args h N P:=fun w=>⟨⟨u,⟨h,N,w⟩,e w,rfl,ab.refl,p⟩⟩
def ka(p:Nat->Bool)(k:Nat):Nat->Int
 |0=> -1
 |m+1=>if p k=true then (k:Int) else ka p (k+1) m
theorem TZ{p:Nat->Bool}:∀{m k:Nat},(0<=ka p k m↔∃j,k<=j/\j<k+m/\p j=true)
 |0,k=>by simp[ka];intro j h1 h2;omega
 |m+1,k=>by
  simp only[ka]
  by_cases h:p k=true
  ·rw[aF h];exact⟨fun _=>⟨k,aV _,by omega,h⟩,fun _=>by omega⟩
  ·rw[ar h,TZ (m:=m) (k:=k+1)]
   constructor
   ·rintro⟨j,h1,h2,h3⟩;exact⟨j,by omega,by omega,h3⟩
   ·rintro⟨j,h1,h2,h3⟩
    refine⟨j,?_,by omega,h3⟩
    have:j≠k:=fun hj=>h (hj▸h3)
    omega
def zV(v:V):Prop:=v=.aa\/v=.empty\/∃i o n c z,v=.slice i o n c z
theorem Sl.form{l:List V}(s:Sl h N v l):zV v:=by
 rcases s with⟨_,h|h⟩|⟨i,o,cp,c,e,rw,h,_⟩
 ·exact .inl h
 ·exact .inr (.inl h)
 ·exact .inr (.inr ⟨_,_,_,_,_,h⟩)
theorem zV.one(h:zV v):V.one v=true:=by
 rcases h with rfl|rfl|⟨_,_,_,_,_,rfl⟩<;>rfl
theorem zV.cells(h:zV v):V.cells v=[v]:=by
 rcases h with rfl|rfl|⟨_,_,_,_,_,rfl⟩<;>rfl
def strs(l:List aX):List V:=l.map .str
theorem rE(l:List aX):(strs l).length=l.length:=by simp[strs]
theorem zW{l:List aX}{j:Nat}{n:aX}(h:l[j]?=some n):(strs l)[j]?=some (.str n):=by simp[strs,h]
attribute [simp] rE
def Ea(s:nw)(je:V):List V:=[.str s.name,.str s.op,.str s.u9,je,.int .i64 s.cost]
def Gr(h:T O)(N:Nat)(v:V)(g:List nw):Prop:=∃l:List (List V),Sn 5 h N v l/\l.length=g.length/\∀(j:Nat) (s:nw),g[j]?=some s->∃je,l[j]?=some (Ea s je)/\Sl h N je (strs s.gY)
theorem Gr.ad{h':T O}{N':Nat}{g:List nw}(s:Gr h N v g)(k:ab h N h' N'):Gr h' N' v g:=by
 obtain⟨l,h1,h2,h3⟩:=s
 refine⟨l,h1.ad k,h2,fun j s hs=>?_⟩
 obtain⟨je,h4,h5⟩:=h3 j s hs
 exact⟨je,h4,h5.ad k⟩
theorem Gr.len{g:List nw}(s:Gr h N v g):kq v=some g.length:=by
 obtain⟨l,h1,h2,h3⟩:=s
 rw[h1.len,h2]
theorem Gr.at{g:List nw}(s:Gr h N v g){j:Nat}{x:nw}(hj:g[j]?=some x):∃i o c e rw je,tK v=some (i,o)/\i<N/\h.get i=some (.cells c e rw)/\aM c (o+j*5) 5=some (Ea x je)/\Sl h N je (strs x.gY):=by
 obtain⟨l,h1,h2,h3⟩:=s
 obtain⟨je,h4,h5⟩:=h3 j x hj
 obtain⟨i,o,c,e,rw,q1,q2,q3,q4⟩:=h1.at h4
 exact⟨i,o,c,e,rw,je,q1,q2,q3,q4,h5⟩
theorem Gr.slice{g:List nw}{w:List Nat}(s:Gr h N v g){lo hi:Nat}(h1:lo<=hi)(h2:hi<=g.length)(x y:Option V)(hx:x=some (.int .i64 lo)\/x=none/\lo=0)(hy:y=some (.int .i64 hi)\/y=none/\hi=g.length):
  ∃v',lW ⟨h,N,w⟩ 5 (some v) (some x) (some y) (some none)=some (v',⟨h,N,w⟩)/\Gr h N v' ((g.take hi).drop lo):=by
 obtain⟨l,g1,g2,g3⟩:=s
 obtain⟨v',e1,e2⟩:=Yan (z:=5) (w:=w) (by decide) g1 h1 (by omega) x y hx (by rw[g2];exact hy)
 refine⟨v',e1,(l.take hi).drop lo,e2,by simp[g2],fun j s hs=>?_⟩
 have hj:lo+j<hi:=by
  apply oF;intro hc
  rw[fe,gU,ar (by omega)]at hs;cases hs
 rw[fe,gU,aF hj]at hs
 obtain⟨je,q1,q2⟩:=g3 _ s hs
 exact⟨je,by rw[fe,gU,aF hj];exact q1,q2⟩
theorem Yp4{a b c d e:V}:aM [a,b,c,d,e] 0 5=some [a,b,c,d,e]:=rfl
theorem Yp5{a b:V}:aM [a,b] 0 2=some [a,b]:=rfl
attribute [simp] Yp4 Yp5
theorem Gr.form{g:List nw}(s:Gr h N v g):zV v:=by
 obtain⟨l,h1,_⟩:=s
 rcases h1 with⟨_,h|h⟩|⟨i,o,cp,c,e,rw,h,_⟩
 ·exact .inl h
 ·exact .inr (.inl h)
 ·exact .inr (.inr ⟨_,_,_,_,_,h⟩)
def OA(st:St)(zero:V)(ok:Bool):Option (Option (Nat×V))->Option (V×St)
 |some (some (_,v))=>some (if ok then .bb [v,.bool true] else v,st)
 |some none=>some (if ok then .bb [zero,.bool false] else zero,st)
 |none=>none
def JU(st:St)(kd:jb)(zero:V)(ok:Bool)(k:V):Option O->Option (V×St)
 |some (.map es)=>OA st zero ok (eD kd k es 0)
 |_=>none
def OB(st:St)(kd:jb)(zero:V)(ok:Bool):Option V->Option V->Option (V×St)
 |some (.map i),some k=>if kd.fits k=true then JU st kd zero ok k (st.h.get i) else none
 |some .bM,some k=>if kd.fits k=true then OA st zero ok (some none) else none
 |_,_=>none
theorem Ztx{kd:jb}{zero:V}{m k:Src}{ok:Bool}{call:cA}{r:T V}{st:St}:BH kd zero m k ok call r st=OB st kd zero ok (m.ev r) (k.ev r):=by
 unfold BH OB
 rcases m.ev r with _|m
 ·rfl
 ·rcases k.ev r with _|k
  ·cases m<;>rfl
  ·cases m<;>simp only[]<;>(try (by_cases hf:kd.fits k=true<;>simp[hf]))<;>try rfl
   ·rename_i i
    rcases st.h.get i with _|o
    ·rfl
    ·cases o<;>simp only[JU]
     rename_i es
     rcases eD kd k es 0 with _|_|⟨_,_⟩<;>rfl
theorem Yci{st:St}{zero:V}{ok:Bool}{s:aX}:OB st .str zero ok (some (.map i)) (some (.str s))=JU st .str zero ok (.str s) (st.h.get i):=rfl
theorem Zuj{st:St}{kd:jb}{zero:V}{ok:Bool}{es:List (V×V)}:JU st kd zero ok k (some (.map es))=OA st zero ok (eD kd k es 0):=rfl
attribute [simp] Ztx Yci Zuj DX
def OC(st:St)(i:Nat)(k v:V)(es:List (V×V)):Option (Option (Nat×V))->Option (V×St)
 |some (some (j,_))=>some (.bb [],st.write i (.map (es.set j (k,v))))
 |some none=>some (.bb [],st.write i (.map (es++[(k,v)])))
 |none=>none
def JV(st:St)(kd:jb)(i:Nat)(k v:V):Option O->Option (V×St)
 |some (.map es)=>OC st i k v es (eD kd k es 0)
 |_=>none
def u_(st:St)(kd:jb):Option V->Option V->Option V->Option (V×St)
 |some (.map i),some k,some v=>if kd.fits k=true then JV st kd i k v (st.h.get i) else none
 |_,_,_=>none
theorem Ztw{kd:jb}{m k v:Src}{call:cA}{r:T V}{st:St}:zS kd m k v call r st=u_ st kd (m.ev r) (k.ev r) (v.ev r):=by
 unfold zS u_
 rcases m.ev r with _|m
 ·rfl
 ·rcases k.ev r with _|k
  ·cases m<;>rfl
  ·rcases v.ev r with _|v
   ·cases m<;>rfl
   ·cases m with
    |map i=>
     simp only[]
     by_cases hf:kd.fits k=true
     ·simp only[hf,if_true]
      rcases st.h.get i with _|o
      ·rfl
      ·cases o<;>simp only[JV]
       rename_i es
       rcases eD kd k es 0 with _|_|⟨_,_⟩<;>rfl
     ·simp[hf]
    |_=>rfl
theorem Yby{st:St}{s:aX}:u_ st .str (some (.map i)) (some (.str s)) (some v)=JV st .str i (.str s) v (st.h.get i):=rfl
theorem Zt5{st:St}{kd:jb}{es:List (V×V)}:JV st kd i k v (some (.map es))=OC st i k v es (eD kd k es 0):=rfl
theorem Zx7{st:St}{es:List (V×V)}:OC st i k v es (some none)=some (.bb [],st.write i (.map (es++[(k,v)]))):=rfl
attribute [simp] Ztw Yby Zt5 Zx7
theorem ab.then{h h1 h2:T O}{n n1 n2:Nat}(a:ab h n h1 n1)(b:ab h1 n h2 n2):ab h n h2 n2:=⟨b.le,fun i hi=>(b.get i hi).trans (a.get i hi)⟩
def lX(l:List Int):List (List V):=l.map fun x=>[.int .i64 x]
theorem yr(l:List Int):(lX l).length=l.length:=by simp[lX]
theorem OD:∀(l:List Int),(lX l).flatten=dI l
 |[]=>rfl
 |x::l=>by
  have:=OD l
  simp only[lX,jU,List.flatten_cons,dI]at this ⊢
  rw[this];rfl
theorem zX(l:List Int)(x:Int):lX (l++[x])=lX l++[[.int .i64 x]]:=by simp[lX]
theorem Own.sl{e:TypeId}{N0:Nat}{h:T O}{N:Nat}{v:V}{l:List Int}(s:Own 1 e N0 h N v (lX l)):Sl h N v (dI l):=by
 have:=s.sn
 have e1:lX l=(dI l).map fun x=>[x]:=by simp[lX,dI]
 rw[e1]at this
 exact Sn.one.1 this
structure Yrp (g:List nw):Prop where
 le:g.length<=16
 name:∀(j:Nat) (s:nw),g[j]?=some s->j<=pos (g.take j) s.name
 je:∀(j:Nat) (s:nw),g[j]?=some s->∀n∈s.gY,pos (g.take j) n<j
 cost:∀s∈g,1<=s.cost/\s.cost<=1000
variable {N:Nat} {h:T O} {l:List V} {u v:V}
def Cp(h:T O)(N:Nat)(v:V)(l:List V):Prop:=∃j c,v=.slice j 0 l.length c 1/\j<N/\h.get j=some (.cells l 9 true)/\∀k,c=some k->l.length<=k
theorem Cp.ad{h':T O}{N':Nat}(s:Cp h N v l)(k:ab h N h' N'):Cp h' N' v l:=by
 obtain⟨j,c,h1,h2,h3,h4⟩:=s
 exact⟨j,c,h1,dZ h2 k.le,(k.get j h2).trans h3,h4⟩
theorem Cp.sl(s:Cp h N v l):Sl h N v l:=by
 obtain⟨j,c,h1,h2,h3,h4⟩:=s
 rw[h1];exact Sl.row h2 h3 rfl h4
theorem Ynx{w:List Nat}(s:Sl h N v l):ft ⟨h,N,w⟩ 1 v=some (l.length,l):=by
 rcases s with⟨rfl,rfl|rfl⟩|⟨i,o,cp,c,e,rw,rfl,h2,h3,h4,h5,h6⟩
 ·rfl
 ·rfl
 ·simp only[ft,if_true,St.row,h3,tk]
  have:aM c o l.length=some l:=by
   unfold aM
   rw[aF h5]
   congr 1
   apply iW
   intro j
   rw[gU]
   by_cases hj:j<l.length
   ·rw[aF hj,fe];exact h4 j hj
   ·rw[ar hj,eG (by omega)]
  rw[this]
def zY(h:T O)(N0 N:Nat)(u:V)(g:List nw)(k:Nat):Prop:=∃l:List (List V),Own 5 126 N0 h N u l/\l.length=k/\∀(j:Nat) (s:nw),j<k->g[j]?=some s->∃je,l[j]?=some (Ea s je)/\Cp h N je (strs s.gY)
theorem zY.ad{h':T O}{N0 N':Nat}{g:List nw}{k:Nat}(s:zY h N0 N u g k)(kk:ab h N h' N'):zY h' N0 N' u g k:=by
 obtain⟨l,h1,h2,h3⟩:=s
 refine⟨l,h1.ad kk,h2,fun j s hj hs=>?_⟩
 obtain⟨je,h4,h5⟩:=h3 j s hj hs
 exact⟨je,h4,h5.ad kk⟩
theorem zY.gr{N0:Nat}{g:List nw}(s:zY h N0 N u g g.length):Gr h N u g:=by
 obtain⟨l,h1,h2,h3⟩:=s
 refine⟨l,h1.sn,h2,fun j s hs=>?_⟩
 obtain⟨je,h4,h5⟩:=h3 j s (kc hs) hs
 exact⟨je,h4,h5.sl⟩
theorem zY.step{N0:Nat}{x je:V}{g:List nw}{k:Nat}{s:nw}{w:List Nat}(p:zY h N0 N u g k)(hN:N0<=N)(hs:g[k]?=some s)(hi:Cp h N je (strs s.gY))(hu:ft ⟨h,N,w⟩ 5 x=some (1,Ea s je))(hk:k<1000):
  ∃v' h' w',jQ ⟨h,N,w⟩ 5 80 126 u x=some (v',⟨h',N+1,w'⟩)/\au N0 w'=au N0 w/\ab h N0 h' (N+1)/\zY h' N0 (N+1) v' g (k+1):=by
 obtain⟨l,h1,h2,h3⟩:=p
 obtain⟨v',h',w',e1,e2,e3,e4,e5⟩:=pY (x:=Ea s je) (u:=x) (bytes:=80) (w:=w) h1 hN (by decide) rfl hu (by omega)
 have T0:∀{i:V} {m:List V},Cp h N i m->Cp h' (N+1) i m:=by
  rintro i m ⟨j,c,q1,q2,q3,q4⟩
  refine⟨j,c,q1,by omega,?_,q4⟩
  rcases e4 j with e|e|⟨o,n,c',q,e⟩
  ·rw[e];exact q3
  ·omega
  ·obtain⟨_,⟨_,hn⟩|⟨i',hv,_,_,aj⟩⟩:=h1
   ·rw[e]at hn;cases hn
   ·rw[e]at hv
    simp only[V.slice.injEq]at hv
    rw[<-hv.1,q3]at aj
    simp at aj
 refine⟨v',h',w',e1,e2,e3,l++[Ea s je],e5,by simp[h2],fun j t hj ht=>?_⟩
 by_cases px:j<k
 ·obtain⟨i,q1,q2⟩:=h3 j t px ht
  exact⟨i,by rw[jO (by omega)];exact q1,T0 q2⟩
 ·have:j=k:=by omega
  subst this
  obtain rfl:=pq (hs.symm.trans ht)
  exact⟨je,by rw[od (by omega)];simp[h2],T0 hi⟩
theorem Sl.setInt{h:T O}{N:Nat}{v:V}{l:List Int}{i:Nat}{c0 c1:List V}{e0 e1:TypeId}{w0 w1:Bool}(s:Sl h N v (dI l))(hr:h.get i=some (.cells c0 e0 w0))(hn:∀x∈c0,∀k n,x≠.int k n)(hc:c1.length=c0.length):Sl (h.set i (.cells c1 e1 w1)) N v (dI l):=by
 rcases s with s|⟨j,o,cp,c,e,rw,h1,h2,h3,h4,h5,h6⟩
 ·exact .inl s
 ·by_cases hj:j=i
  ·subst hj
   rw[hr]at h3
   simp only[ai,O.cells.injEq]at h3
   obtain⟨rfl,rfl,rfl⟩:=h3
   cases l with
   |nil=>exact .inr ⟨j,o,cp,c1,e1,w1,h1,h2,by rw[T.ah];simp,fun k hk=>by simp[dI]at hk,by rw[hc];exact h5,h6⟩
   |cons d l=>
    have:=h4 0 (by simp[dI])
    simp only[dI,jU,wM]at this
    exact absurd rfl (hn _ (cm this) .i64 d)
  ·exact .inr ⟨j,o,cp,c,e,rw,h1,h2,by rw[T.ah,ar hj];exact h3,h4,h5,h6⟩
open Go Go.Proofs
set_option maxRecDepth 1000000
noncomputable abbrev A.F(n:Nat):=td Tryz.prog n
def mv(a b:Nat):du:=⟨some a,.aZ (.tmp b),none⟩
def mc(a:Nat)(n:Int):du:=⟨some a,.aZ (.const (.int .i64 n)),none⟩
def ia(a z x i:Nat):du:=⟨some a,.aI z (.tmp x) (.tmp i),none⟩
def ld(a x:Nat):du:=⟨some a,.load none (.tmp x),none⟩
def xt(a x i:Nat):du:=⟨some a,.extract (.tmp x) i,none⟩
def bi(a:Nat)(o:BinOp)(x y:Nat):du:=⟨some a,.bin o (.node []) false (.tmp x) (.tmp y),none⟩
def bc(a:Nat)(o:BinOp)(x:Nat)(n:Int):du:=⟨some a,.bin o (.node []) false (.tmp x) (.const (.int .i64 n)),none⟩
def ln(a x:Nat):du:=⟨some a,.len 1 (.tmp x),none⟩
def so(a x:Nat):du:=⟨none,.store 1 (.tmp a) (.tmp x),none⟩
def c1(a f x:Nat):du:=⟨some a,.call (.const (.func f [] [])) [.tmp x],none⟩
def c2(a f x y:Nat):du:=⟨some a,.call (.const (.func f [] [])) [.tmp x,.tmp y],none⟩
def lN(a n x:Nat):du:=⟨some a,.load (some n) (.tmp x),none⟩
def fa(a o x:Nat):du:=⟨some a,.ec o (.tmp x),none⟩
def pf(a x y:Nat):du:=⟨some a,.pick (.tmp x) (.tmp y) (.const (.bool false)),none⟩
def pt(a x y:Nat):du:=⟨some a,.pick (.tmp x) (.const (.bool true)) (.tmp y),none⟩
def ei(a x:Nat)(n:Int):du:=⟨some a,.bin .eql (.aH .int) true (.tmp x) (.const (.int .i64 n)),none⟩
def ni(a x:Nat)(n:Int):du:=⟨some a,.bin .neq (.aH .int) true (.tmp x) (.const (.int .i64 n)),none⟩
def mN(a:Nat):du:=⟨some a,.aZ (.const .aa),none⟩
def bx(a e x:Nat):du:=⟨some a,.box e (.tmp x),none⟩
def mg(a x g:Nat):du:=⟨some a,.aZ (.tmp x),some (g,true)⟩
def mh(a x g:Nat):du:=⟨some a,.aZ (.tmp x),some (g,false)⟩
def sr(l:List du)(c:aq):aq:=.seq (.aL l) c
def cd(x:Nat)(a b:aq):aq:=.cond (.tmp x) a b
attribute [simp] wM zE mv mc ia ld xt bi bc ln so c1 c2 lN fa pf pt ei ni mN bx mg mh sr cd
def A.FY:O:=.cells (([1,10,100,1000,10000,100000,1000000,10000000,100000000,1000000000,10000000000,100000000000,1000000000000,10000000000000,100000000000000,1000000000000000,10000000000000000,100000000000000000,1000000000000000000,10000000000000000000]:List Int).map fun z=>.int .u64 z) 298 false
def A.TB:List (Nat×O):=[(3,A.FY)]
noncomputable def A.C:Cx:=⟨Eb A.TB [⟨10,[],.bool true⟩],td Tryz.prog⟩
theorem A.t:A.C.dm=td Tryz.prog:=rfl
theorem A.x0{f:Nat}{a c args:List V}{st:St}(h:Nat.beq 10 f=false):A.C.x (.func f a c) args st=none:=by
 show Eb A.TB [⟨10,[],.bool true⟩] (.func f a c) args st=none
 unfold Eb
 split
 ·rename_i heq
  simp only[V.func.injEq]at heq
  obtain⟨rfl,rfl,rfl⟩:=heq
  simp only[Ec,h]
 ·rfl
theorem A.kk{n k:Nat}{res:List Bg}{b:aq}(hc:td Tryz.prog n=some ⟨k,res,b⟩)(hx:Nat.beq 10 n=false){K:List Kf}{Q:Rs->Prop}{f c args:List V}{st:St}(h:(f++args++c).length<=k):bH A.C K (nW (A.C.call (.func n f c) args st)) Q↔bH A.C (.fin res st::K) (eE (A.C.code none b ⟨tI .nil 0 (f++args++c),k,[]⟩ ⟨st.h,st.n,[]⟩)) Q:=Yfp (A.x0 (f:=n) hx) (mf:=⟨k,res,b⟩) (by rw[A.t];exact hc) h
theorem A.known{h:T O}{N:Nat}{w:List Nat}(hp:h.get 3=some A.FY):A.C.call (.func 10 [] []) [] ⟨h,N,w⟩=some (.bool true,⟨h,N,w⟩):=by
 have hq:Ed (h.get 3) A.FY=true:=by rw[hp];decide+kernel
 have hi:zZ ⟨h,N,w⟩ A.TB=true:=by
  show (match Ed (h.get 3) A.FY with|true=>true|false=>false)=true
  rw[hq]
 have hx:A.C.x (.func 10 [] []) [] ⟨h,N,w⟩=some (.bool true,⟨h,N,w⟩):=by
  show (match zZ ⟨h,N,w⟩ A.TB with|true=>some (V.bool true,(⟨h,N,w⟩:St))|false=>none)=_
  rw[hi]
 rw[Cx.nz]
 unfold oK
 rw[hx]
end Go.Mx
