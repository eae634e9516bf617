/-Digits to the base 10^9, as integers-/
import Derived.Test.YtnkdakmfipgidaaGreatDoorMxWord
import Derived.Test.YtnkdakmfipgidaaGreatDoorProg
set_option linter.all false
namespace Go.Mx
noncomputable section
open Go
variable {d:Int} {j k n:Nat} {l:List Int}
def vI:List Int->Int
 |[]=>0
 |d::l=>d+1000000000*vI l
def pI(k:Nat):Int:=1000000000^k
def wX(k:Nat):pI (k+1)=1000000000*pI k:=by unfold pI;rw[Int.pow_succ,Int.mul_comm]
def Yqs:pI 0=1:=rfl
def EF(k:Nat):0<pI k:=by unfold pI;exact Int.pow_pos (by decide)
def TJ(i j:Nat):pI (i+j)=pI i*pI j:=by unfold pI;exact Int.pow_add ..
def Z4:∀(l m:List Int),vI (l++m)=vI l+pI l.length*vI m
 |[],m=>by simp[vI,pI]
 |d::l,m=>by
  simp only[Er,vI,Z4 l m,bk,wX]
  grind
def EG(l:List Int)(d:Int):vI (l++[d])=vI l+pI l.length*d:=by simp[Z4,vI]
def Z5(n:Nat):vI (List.replicate n 0)=0:=by
 induction n with
 |zero=>rfl
 |succ n ih=>simp[List.replicate_succ,vI,ih]
def gZ{α:Type}{l:List α}{d:α}(h:l[k]?=some d):k<l.length:=by apply uH;intro hc;rw[fW hc]at h;cases h
def Ap(h:l[k]?=some d):vI (l.take (k+1))=vI (l.take k)+pI k*d:=by have hk:=gZ h;rw[DQ,h];simp only[Option.toList];rw[EG,iX,rj (by omega)]
def Oo(l:List Int)(k:Nat)(hk:k<=l.length):vI l=vI (l.take k)+pI k*vI (l.drop k):=by have:=Z4 (l.take k) (l.drop k);rw[En,iX,rj hk]at this;exact this
def EH:∀{l:List Int} {k:Nat} {c:Int},l[k]?=some c->∀(v:Int),vI (l.set k v)=vI l+pI k*(v-c)
 |[],k,c,h,v=>by simp at h
 |d::l,0,c,h,v=>by
  simp at h;subst h
  simp only[List.set_cons_zero,vI,Yqs];omega
 |d::l,k+1,c,h,v=>by
  have:=EH (l:=l) (k:=k) (c:=c) (by simpa using h) v
  simp only[List.set_cons_succ,vI,this,wX]
  grind
def Di(l:List Int):Prop:=∀d∈l,0<=d/\d<1000000000
def Di.get(h:Di l){k:Nat}{d:Int}(hd:l[k]?=some d):0<=d/\d<1000000000:=h d (cF hd)
def Di.set(h:Di l){k:Nat}{v:Int}(h0:0<=v)(h1:v<1000000000):Di (l.set k v):=fun d hd=>by
 rcases CB hd with hd|rfl
 ·exact h d hd
 ·exact⟨h0,h1⟩
def Di.app{m:List Int}(h:Di l)(h':Di m):Di (l++m):=fun d hd=>by
 rcases jB.1 hd with hd|hd
 ·exact h d hd
 ·exact h' d hd
def Di.one{v:Int}(h0:0<=v)(h1:v<1000000000):Di [v]:=fun d hd=>by simp at hd;subst hd;exact⟨h0,h1⟩
def Di.nil:Di []:=fun d hd=>by simp at hd
def Di.GG(n:Nat):Di (List.replicate n 0):=fun d hd=>by rw[Ia]at hd;rw[hd.2];decide
def Di.take(h:Di l)(k:Nat):Di (l.take k):=fun d hd=>h d (wB hd)
def Di.drop(h:Di l)(k:Nat):Di (l.drop k):=fun d hd=>h d (Ol hd)
def wY:∀{l:List Int},Di l->0<=vI l
 |[],_=>Int.le_refl _
 |d::l,h=>by
  have h1:=h d qQ
  have h2:=wY (l:=l) fun e he=>h e (qz _ he)
  simp only[vI];omega
def wZ:∀{l:List Int},Di l->vI l<pI l.length
 |[],_=>by decide
 |d::l,h=>by
  have h1:=h d qQ
  have h2:=wZ (l:=l) fun e he=>h e (qz _ he)
  simp only[vI,bk,wX];omega
def zI(l:List Int)(j:Nat):Int:=l[j]?.getD 0
def Ypb(h:l[j]?=some d):zI l j=d:=by simp[zI,h]
def Z6(h:l.length<=j):zI l j=0:=by simp[zI,h]
def Z7{l:List Int}(h:Di l)(j:Nat):0<=zI l j/\zI l j<1000000000:=by
 unfold zI;cases hj:l[j]? with
 |none=>simp
 |some d=>exact h.get hj
def Z8{l:List Int}{k:Nat}:vI (l.take (k+1))=vI (l.take k)+pI k*zI l k:=by
 unfold zI;cases h:l[k]? with
 |some d=>exact Ap h
 |none=>
  have hk:l.length<=k:=by apply zB;intro hc;rw[bV hc]at h;cases h
  rw[gp (by omega),gp hk];simp
def jN{α:Type}{l:List α}{d:α}(h:l[k]?=some d):l.drop k=d::l.drop (k+1):=by obtain⟨hk,hs⟩:=wj.1 h;rw[<-hs];exact IY hk
def dI(l:List Int):List V:=l.map fun n=>.int .i64 n
def iJ(l:List Int):(dI l).length=l.length:=by simp[dI]
def iP{n:Int}(h:l[j]?=some n):(dI l)[j]?=some (.int .i64 n):=by simp[dI,h]
attribute [simp] iJ
def Dh{v:Int}(h:k<l.length):ag (dI l) k [.int .i64 v]=dI (l.set k v):=by
 unfold ag dI;apply ph;intro j;simp only[Af,eG,List.getElem?_set];rw[uG,List.getElem?_append,iX,cG];by_cases h1:j<k
 ·rw[ar (by omega),jL,ar h1,eG,ak (by omega)]
 rw[ak (by omega)];by_cases h2:j=k
 ·subst h2;rw[show j-min j l.length=0 by omega,ar rfl,ar h];rfl
 rw[show j-min k l.length=(j-k-1)+1 by omega,ak (by omega)];simp only[TA,Gm,fF,eG];rw[show k+1+(j-k-1)=j by omega]
def Z9:dm [.int .i64 0] n=dI (List.replicate n 0):=by rw[Ydt];simp[dI]
def sM:List Int->List Int
 |[]=>[]
 |d::l=>match sM l with
  |[]=>if d=0 then [] else [d]
  |t=>d::t
def Zmi:∀(l:List Int),sM (l++[0])=sM l
 |[]=>rfl
 |d::l=>by simp only[Er,sM,Zmi l]
def Zqr{d:Int}(hd:d≠0):∀(l:List Int),sM (l++[d])=l++[d]
 |[]=>by simp[sM,hd]
 |e::l=>by
  simp only[Er,sM,Zqr hd l]
  cases l<;>rfl
def Ztp:∀(l:List Int),(sM l).length<=l.length
 |[]=>aO _
 |d::l=>by
  have ih:=Ztp l
  simp only[sM]
  split
  ·split<;>simp
  ·simp only[bk];omega
def ds(n:Nat):List Int:=if h:n=0 then [] else ((n%1000000000:Nat):Int)::ds (n/1000000000)
termination_by n
decreasing_by exact Et (by omega) (by decide)
def uJ:ds 0=[]:=by rw[ds];simp
def BA(h:n≠0):ds n=((n%1000000000:Nat):Int)::ds (n/1000000000):=by rw[ds];simp[h]
def iC:∀(n:Nat),vI (ds n)=n:=by
 intro n;induction n using Nat.strongRecOn with
 |_ n ih=>
  by_cases h:n=0
  ·subst h;rw[uJ];rfl
  rw[BA h];simp only[vI];rw[ih (n/1000000000) (Et (by omega) (by decide))];omega
def ig(n:Nat):Di (ds n):=by
 induction n using Nat.strongRecOn with
 |_ n ih=>
  by_cases h:n=0
  ·subst h;rw[uJ];exact Di.nil
  rw[BA h];intro d hd;rcases iW.1 hd with rfl|hd
  ·omega
  exact ih (n/1000000000) (Et (by omega) (by decide)) d hd
def Zrv:∀{l:List Int},Di l->sM l=ds (vI l).toNat
 |[],_=>by simp[sM,vI,uJ]
 |d::l,h=>by
  have hl:Di l:=fun e he=>h e (qz _ he)
  have ih:=Zrv hl
  have hd:=h d qQ
  have hn:=wY hl
  simp only[sM,vI,ih]
  by_cases h0:vI l=0
  ·rw[h0]
   simp only[Int.toNat_zero,uJ,Int.mul_zero,Int.add_zero]
   by_cases qf:d=0
   ·simp[qf,uJ]
   ·rw[BA (by omega),zC (by omega),Bt (by omega),uJ];simp[qf];omega
  ·have h3:(d+1000000000*vI l).toNat≠0:=by omega
   rw[BA h3]
   have h1:(d+1000000000*vI l).toNat/1000000000=(vI l).toNat:=by omega
   have h2:(((d+1000000000*vI l).toNat%1000000000:Nat):Int)=d:=by omega
   rw[h1,h2]
   split
   ·rename_i hc;rw[BA (by omega)]at hc;cases hc
   ·rfl
def Jq(h:Di l){n:Nat}(hn:vI l=n):sM l=ds n:=by rw[Zrv h,hn];rfl
def Ysm(n:Nat):sM (ds n)=ds n:=Jq (ig n) (iC n)
def EI:ds n=[]↔n=0:=by
 constructor
 ·intro h;by_cases h0:n=0
  ·exact h0
  rw[BA h0]at h;cases h
 intro h;rw[h,uJ]
def Ysn(h:n≠0):∃d,(ds n)[(ds n).length-1]?=some d/\0<d:=by
 have aW:ds n≠[]:=fun hc=>h (EI.1 hc);obtain⟨l,d,hd⟩:∃l d,ds n=l++[d]:=⟨(ds n).dropLast,(ds n).getLast aW,(TC aW).symm⟩;refine⟨d,by rw[hd,jm,Af];simp,?_⟩;have h1:=ig n d (by rw[hd];exact List.mem_append_right _ qQ);have:d≠0:=fun h0=>by have h2:=Ysm n;rw[hd,h0,Zmi]at h2;have:=Ztp l;rw[h2]at this;simp at this;omega
 omega
def LX{n k:Nat}(h:n<1000000000^k):(ds n).length<=k:=by
 induction k generalizing n with
 |zero=>
  have:n=0:=by simpa using h
  rw[this,uJ];simp
 |succ k ih=>
  by_cases h0:n=0
  ·rw[h0,uJ];simp
  rw[BA h0];have:=ih (n:=n/1000000000) ((rk (by decide)).2 (by rw[<-ix];exact h));simp only[bk];omega
def Dn(h:T O)(N:Nat)(v:V)(n:Nat):Prop:=Sl h N v (dI (ds n))
def Dn.ad{h h':T O}{N N':Nat}{v:V}(s:Dn h N v n)(k:ab h N h' N'):Dn h' N' v n:=Sl.ad s k
variable {w:List Int}
def Zxi{P u1 u2 U' v1 v2 V' t r:Int}(hP:0<P)(EJ:0<=U')(fZ:0<=u2)(zp:0<=u1)(pC:0<v1)(kK:0<=v2)(yJ:0<=V')(EK:V'<P)(h0:0<=t)(ht:t<=1000000000)(hinv:u1=t*v1+r)(hc:t*v2<=r*1000000000+u2):
  (t-1)*(V'+P*(v2+1000000000*v1))<=U'+P*(u2+1000000000*u1):=by
 by_cases qo:t=0
 ·subst qo;have h1:0<=P*(v2+1000000000*v1):=yF (by omega) (by omega);have h2:0<=P*(u2+1000000000*u1):=yF (by omega) (by omega);omega
 have h1:(t-1)*V'<=1000000000*P:=by have:(t-1)*V'<=1000000000*V':=Gk (by omega) yJ;omega
 have h2:P*1<=P*v1:=sI (by omega) (by omega);have h3:P*(t*v2)<=P*(r*1000000000+u2):=sI hc (by omega);have h4:0<=P*v2:=yF (by omega) kK;have h5:(t-1)*(V'+P*(v2+1000000000*v1))=(t-1)*V'+P*(t*v2)-P*v2+1000000000*(P*(t*v1))-1000000000*(P*v1):=by grind
 have h6:U'+P*(u2+1000000000*u1)=U'+P*(r*1000000000+u2)+1000000000*(P*(t*v1)):=by subst hinv;grind
 omega
def Yr0{P u1 u2 U' v1 v2 V' t r:Int}(hP:0<P)(EJ:U'<P)(yJ:0<=V')(h0:0<=t)(hinv:u1=t*v1+r)(hc:r*1000000000+u2<t*v2):
  U'+P*(u2+1000000000*u1)<t*(V'+P*(v2+1000000000*v1)):=by
 have h1:0<=t*V':=yF h0 yJ;have h3:P*(r*1000000000+u2+1)<=P*(t*v2):=sI (by omega) (by omega);have h5:t*(V'+P*(v2+1000000000*v1))=t*V'+P*(t*v2)+1000000000*(P*(t*v1)):=by grind
 have h6:U'+P*(u2+1000000000*u1)=U'+P*(r*1000000000+u2+1)-P+1000000000*(P*(t*v1)):=by subst hinv;grind
 omega
def Yfv{x:Int}(h1:1<=x)(h2:x<1000000000):500000000<=x*(1000000000/(x+1)):=by
 have hd:(x+1)*(1000000000/(x+1))+1000000000%(x+1)=1000000000:=Gj ..;have hr:1000000000%(x+1)<x+1:=Gq _ (by omega);have fv:0<=1000000000%(x+1):=Gt _ (by omega);generalize 1000000000/(x+1)=d at*;generalize 1000000000%(x+1)=r at*;have e:(x+1)*d=x*d+d:=by grind
 apply Gs;intro hc;by_cases hx:x<=500000000
 ·have h3:500000000-x+1<=d:=by omega
  have h4:x*(500000000-x+1)<=x*d:=sI h3 (by omega);have h5:0<=(x-1)*(500000000-x):=yF (by omega) (by omega);have h6:(x-1)*(500000000-x)=x*(500000000-x+1)-500000000:=by grind
  omega
 have h3:1<=d:=by
  apply Gs;intro h;have:d<=0:=by omega
  have:(x+1)*d<=0:=Int.mul_nonpos_of_nonneg_of_nonpos (by omega) this;omega
 have h4:x*1<=x*d:=sI h3 (by omega);omega
def Zig{m:Nat}(h:∀t,m<=t->t<w.length->w[t]?=some 0):vI w=vI (w.take m):=by
 by_cases hm:m<=w.length
 ·have h1:=Oo w m hm;have h2:w.drop m=List.replicate (w.length-m) 0:=by
   apply ph;intro t;rw[fF,List.getElem?_replicate];by_cases ht:t<w.length-m
   ·rw[ar ht];exact h _ (by omega) (by omega)
   rw[ak ht];exact fW (by omega)
  rw[h2,Z5]at h1;omega
 rw[gp (by omega)]
def Ypi{k:Nat}{a c d:Int}(ha:w[k]?=some a)(hc:w[k+1]?=some c)(hd:w[k+2]?=some d)(hz:∀t,k+3<=t->t<w.length->w[t]?=some 0):
  vI w=vI (w.take k)+pI k*(a+1000000000*(d*1000000000+c)):=by rw[Zig hz,show k+3=(k+2)+1 by omega,Ap hd,Ap hc,Ap ha,wX (k+1),wX k];grind
def Ypj{k:Nat}{a c:Int}(ha:w[k]?=some a)(hc:w[k+1]?=some c)(hl:w.length=k+2):
  vI w=vI (w.take k)+pI k*(a+1000000000*c):=by
 have h1:vI w=vI (w.take (k+1+1)):=by rw[gp (by omega)]
 rw[h1,Ap hc,Ap ha,wX k];grind
def Yjo{n:Nat}{t:Int}(hd:Di (w.take n))(ht:w[n]?=some t)(hz:∀j,n<j->j<w.length->w[j]?=some 0)(h1:vI w<pI n):(0<=vI w->t=0)/\(vI w<0->t<0):=by
 have hl:=gZ ht;have h2:vI w=vI (w.take n)+pI n*t:=by rw[Zig (m:=n+1) (fun j h1 h2=>hz j (by omega) h2),Ap ht]
 have h3:=wY hd;have h4:=wZ hd;rw[iX,rj (by omega)]at h4;have h5:=EF n;constructor
 ·intro h;have h6:¬t<= -1:=fun hc=>by have:=sI hc (vN h5);omega
  have h7:¬1<=t:=fun hc=>by have:=sI hc (vN h5);omega
  omega
 intro h;apply LI;intro hc;have:=yF (vN h5) hc;omega
variable {N k:Nat} {s:aD}
def Xai:(N=N+1)=False:=eq_false (by omega)
def Yz9:(N+1=N)=False:=eq_false (by omega)
def Xa0:(N+1<N)=False:=eq_false (by omega)
def Xah:(N=N+1+1)=False:=eq_false (by omega)
def Yz8:(N+1+1=N)=False:=eq_false (by omega)
def Xaz:(N+1+1<N)=False:=eq_false (by omega)
def Xag:(N=N+1+1+1)=False:=eq_false (by omega)
def Yz7:(N+1+1+1=N)=False:=eq_false (by omega)
def Xay:(N+1+1+1<N)=False:=eq_false (by omega)
def Xaf:(N=N+1+1+1+1)=False:=eq_false (by omega)
def Yz6:(N+1+1+1+1=N)=False:=eq_false (by omega)
def Xax:(N+1+1+1+1<N)=False:=eq_false (by omega)
def Xae:(N=N+1+1+1+1+1)=False:=eq_false (by omega)
def Yz5:(N+1+1+1+1+1=N)=False:=eq_false (by omega)
def Xaw:(N+1+1+1+1+1<N)=False:=eq_false (by omega)
def Xad:(N=N+1+1+1+1+1+1)=False:=eq_false (by omega)
def Yz4:(N+1+1+1+1+1+1=N)=False:=eq_false (by omega)
def Xav:(N+1+1+1+1+1+1<N)=False:=eq_false (by omega)
def Xac:(N=N+1+1+1+1+1+1+1)=False:=eq_false (by omega)
def Yz3:(N+1+1+1+1+1+1+1=N)=False:=eq_false (by omega)
def Xau:(N+1+1+1+1+1+1+1<N)=False:=eq_false (by omega)
def Xab:(N=N+1+1+1+1+1+1+1+1)=False:=eq_false (by omega)
def Yz2:(N+1+1+1+1+1+1+1+1=N)=False:=eq_false (by omega)
def Xat:(N+1+1+1+1+1+1+1+1<N)=False:=eq_false (by omega)
def Xaa:(N=N+1+1+1+1+1+1+1+1+1)=False:=eq_false (by omega)
def Yz1:(N+1+1+1+1+1+1+1+1+1=N)=False:=eq_false (by omega)
def Xas:(N+1+1+1+1+1+1+1+1+1<N)=False:=eq_false (by omega)
def Yyd:(N=N+1+1+1+1+1+1+1+1+1+1)=False:=eq_false (by omega)
def Yx7:(N+1+1+1+1+1+1+1+1+1+1=N)=False:=eq_false (by omega)
def Yyp:(N+1+1+1+1+1+1+1+1+1+1<N)=False:=eq_false (by omega)
def Yyc:(N=N+1+1+1+1+1+1+1+1+1+1+1)=False:=eq_false (by omega)
def Yx6:(N+1+1+1+1+1+1+1+1+1+1+1=N)=False:=eq_false (by omega)
def Yyo:(N+1+1+1+1+1+1+1+1+1+1+1<N)=False:=eq_false (by omega)
def Yyb:(N=N+1+1+1+1+1+1+1+1+1+1+1+1)=False:=eq_false (by omega)
def Yx5:(N+1+1+1+1+1+1+1+1+1+1+1+1=N)=False:=eq_false (by omega)
def Yyn:(N+1+1+1+1+1+1+1+1+1+1+1+1<N)=False:=eq_false (by omega)
def Yya:(N=N+1+1+1+1+1+1+1+1+1+1+1+1+1)=False:=eq_false (by omega)
def Yx4:(N+1+1+1+1+1+1+1+1+1+1+1+1+1=N)=False:=eq_false (by omega)
def Yym:(N+1+1+1+1+1+1+1+1+1+1+1+1+1<N)=False:=eq_false (by omega)
def Yx9:(N=N+1+1+1+1+1+1+1+1+1+1+1+1+1+1)=False:=eq_false (by omega)
def Yx3:(N+1+1+1+1+1+1+1+1+1+1+1+1+1+1=N)=False:=eq_false (by omega)
def Yyl:(N+1+1+1+1+1+1+1+1+1+1+1+1+1+1<N)=False:=eq_false (by omega)
def Yx8:(N=N+1+1+1+1+1+1+1+1+1+1+1+1+1+1+1)=False:=eq_false (by omega)
def Yx2:(N+1+1+1+1+1+1+1+1+1+1+1+1+1+1+1=N)=False:=eq_false (by omega)
def Yyk:(N+1+1+1+1+1+1+1+1+1+1+1+1+1+1+1<N)=False:=eq_false (by omega)
attribute [simp] Xai Yz9 Xa0 Xah Yz8 Xaz Xag Yz7 Xay Xaf Yz6 Xax Xae Yz5 Xaw Xad Yz4 Xav Xac Yz3 Xau Xab Yz2 Xat Xaa Yz1 Xas Yyd Yx7 Yyp Yyc Yx6 Yyo Yyb Yx5 Yyn Yya Yx4 Yym Yx9 Yx3 Yyl Yx8 Yx2 Yyk
def Xar:(N<N+1)=True:=eq_true (by omega)
def Xaq:(N<N+1+1)=True:=eq_true (by omega)
def Xap:(N<N+1+1+1)=True:=eq_true (by omega)
def Xao:(N<N+1+1+1+1)=True:=eq_true (by omega)
def Xan:(N<N+1+1+1+1+1)=True:=eq_true (by omega)
def Xam:(N<N+1+1+1+1+1+1)=True:=eq_true (by omega)
def Xal:(N<N+1+1+1+1+1+1+1)=True:=eq_true (by omega)
def Xak:(N<N+1+1+1+1+1+1+1+1)=True:=eq_true (by omega)
def Xaj:(N<N+1+1+1+1+1+1+1+1+1)=True:=eq_true (by omega)
def Yyj:(N<N+1+1+1+1+1+1+1+1+1+1)=True:=eq_true (by omega)
def Yyi:(N<N+1+1+1+1+1+1+1+1+1+1+1)=True:=eq_true (by omega)
def Yyh:(N<N+1+1+1+1+1+1+1+1+1+1+1+1)=True:=eq_true (by omega)
def Yyg:(N<N+1+1+1+1+1+1+1+1+1+1+1+1+1)=True:=eq_true (by omega)
def Yyf:(N<N+1+1+1+1+1+1+1+1+1+1+1+1+1+1)=True:=eq_true (by omega)
def Yye:(N<N+1+1+1+1+1+1+1+1+1+1+1+1+1+1+1)=True:=eq_true (by omega)
attribute [simp] Xar Xaq Xap Xao Xan Xam Xal Xak Xaj Yyj Yyi Yyh Yyg Yyf Yye
def Call.eq{C:Cx}{g:V}{args:List V}{st aA:St}{u:V}(h:Call C g args st (fun v s=>v=u/\s=aA)):C.call g args st=some (u,aA):=by obtain⟨v,s,e,rfl,rfl⟩:=h.ex;exact e
def Zso{C:Cx}{K:List Kf}{Q:Rs->Prop}{fr:Fr}{st:St}{i j:Nat}(h:¬j=i):bD C (.block i::K) (some (.ex (.exit j) fr st)) Q↔bD C K (some (.ex (.exit j) fr st)) Q:=Zsp (by
 cases hb:Nat.beq j i with
 |false=>rfl
 |true=>exact absurd (Tw hb) h)
attribute [simp] Zso
def bp:List Int->Int
 |[]=>0
 |e::l=>if e=0 then bp l else e
def bj{α:Type}{l:List α}(h:k<l.length):∃d,l[k]?=some d:=⟨_,bV h⟩
def Yh1(c:UInt8):my c=decide (48<=cW c/\cW c<=57):=by unfold my cW;rw[decide_eq_decide];omega
def pD(k:Nat):List V:=(List.range 256).map fun i=>.bool (decide (48<=i/\i<48+k))
def BB(k:Nat):(pD k).length=256:=by simp[pD]
def LY{i:Nat}(hi:i<256):(pD k)[i]?=some (.bool (decide (48<=i/\i<48+k))):=by simp[pD,hi]
def Yas(k:Nat):(pD k).all V.one=true:=by simp[pD,V.one]
def Ync(hk:k<10):ag (pD k) (48+k) [.bool true]=pD (k+1):=by
 apply ph;intro j;unfold ag;rw[uG,List.getElem?_append,iX,BB,rj (by omega)];by_cases h1:j<48+k
 ·rw[ar h1,jL,ar h1,LY (by omega),LY (by omega)];congr 3;rw[eq_iff_iff];omega
 rw[ak h1];by_cases h2:j=48+k
 ·subst h2;rw[LY (by omega)];simp
 rw[show j-(48+k)=(j-(48+k)-1)+1 by omega];simp only[TA,Gm,fF,Af];rw[show 48+k+1+(j-(48+k)-1)=j by omega];by_cases h3:j<256
 ·rw[LY h3,LY h3];congr 3;rw[eq_iff_iff];omega
 rw[fW (by rw[BB];omega),fW (by rw[BB];omega)]
def Yiv(k:Nat):(pD k).take 256=pD k:=gp (by rw[BB];omega)
def Ynb(j k:Nat):ag (pD j) 0 (pD k)=pD k:=by unfold ag;rw[BB,wP (by rw[BB];omega)];simp
attribute [simp] BB Yas Yiv Ynb
def cK(s:aD):Bool:=s.all my
def Yy6:aD:=[48,49,50,51,52,53,54,55,56,57]
def Yml(hk:k<10):∃c,Yy6[k]?=some c/\cW c=48+k:=by
 have:k=0\/k=1\/k=2\/k=3\/k=4\/k=5\/k=6\/k=7\/k=8\/k=9:=by omega
 rcases this with rfl|rfl|rfl|rfl|rfl|rfl|rfl|rfl|rfl|rfl<;>exact⟨_,rfl,rfl⟩
def Dj{n:Int}(h1:0<=n)(h2:n<256):bo .u8 n=n:=by rw[Bw];simp[IntKind.wrap,IntKind.bits,IntKind.signed];omega
def Oq{n:Int}(h1: -9223372036854775808<=n)(h2:n<9223372036854775808):IntKind.wrap .i64 n=n:=by simp[IntKind.wrap,IntKind.bits,IntKind.signed];omega
def Ot(l:aD)(c:UInt8):aE (l++[c])=10*aE l+(c.toNat-48):=by simp[aE]
def Zpf{c:UInt8}(h:s[k]?=some c):aE (s.take (k+1))=10*aE (s.take k)+(c.toNat-48):=by rw[DQ,h];simp only[Option.toList,Ot]
def Ou(h:cK s=true){k:Nat}{c:UInt8}(hc:s[k]?=some c):48<=cW c/\cW c<=57:=by unfold cK at h;rw[jY]at h;have:=h c (cF hc);rw[Yh1]at this;simpa using this
def TK{s:aD}(h:cK s=true):∀k,k<=s.length->aE (s.take k)<10^k
 |0,_=>by simp[aE]
 |k+1,hk=>by
  obtain⟨c,hc⟩:=bj (l:=s) (k:=k) (by omega)
  have h1:=TK h k (by omega)
  have h2:=Ou h hc
  unfold cW at h2
  rw[Zpf hc,ix]
  omega
def Dk(h:cK s=true):aE s<10^s.length:=by have:=TK h s.length (aO _);rwa [C3]at this
def TL{a b:Nat}(h:a<=b):10^a<=10^b:=qW (by decide) h
def Ynd(h:k<9223372036854775808):sK .and .i64 (k:Int) 1=some (.int .i64 ((k%2:Nat):Int)):=by
 show some (V.int .i64 (IntKind.wrap .i64 (BitVec.ofInt 64 (k:Int)&&& BitVec.ofInt 64 1).toNat))=_;have e:(BitVec.ofInt 64 1).toNat=2^1-1:=by decide
 rw[BitVec.toNat_and,TM k (by omega),e,Nat.and_two_pow_sub_one_eq_mod,Oq (by omega) (by omega)]
def Yjz:Aj .shr .i64 (k:Int) 1=some (.int .i64 ((k/2:Nat):Int)):=by
 unfold Aj;have e:min (1:Int).toNat (IntKind.bits .i64)=1:=by decide
 rw[ak (by decide),e];simp only[aq,V.int.injEq,true_and];rw[Int.fdiv_eq_ediv_of_nonneg _ (by decide)];rfl
variable {N i:Nat} {h:T O} {k v:V}
def ab.new{h1:T O}{n n1:Nat}(k:ab h n h1 n1)(o:O):ab h n (h1.set n1 o) (n1+1):=(k.set k.le).up (wm _)
abbrev ij(C:Cx)(f:V)(args:List V)(h:T O)(n:Nat)(P:V->T O->Nat->Prop):Prop:=∀w,Call C f args ⟨h,n,w⟩ (ax P h n w)
def DH{C:Cx}{f args h n w P K Q}(hf:ij C f args h n P)(k:∀v h' n',ab h n h' n'->P v h' n'->bD C K (some (.val v ⟨h',n',w⟩)) Q):bD C K (ue (C.call f args ⟨h,n,w⟩)) Q:=
 AS (hf w) fun v aA=>by
  obtain⟨h',n',w'⟩:=aA
  rintro⟨rfl,hk,hp⟩
  exact k v h' n' hk hp
def pg(p:Nat->Bool)(k:Nat):Nat->Int
 |0=> -1
 |m+1=>if p k=true then (k:Int) else pg p (k+1) m
def Zu5{p:Nat->Bool}:∀{m k:Nat},(0<=pg p k m↔∃j,k<=j/\j<k+m/\p j=true)
 |0,k=>by simp[pg];intro j h1 h2;omega
 |m+1,k=>by
  simp only[pg]
  by_cases h:p k=true
  ·rw[ar h];exact⟨fun _=>⟨k,aO _,by omega,h⟩,fun _=>by omega⟩
  ·rw[ak h,Zu5 (m:=m) (k:=k+1)]
   constructor
   ·rintro⟨j,h1,h2,h3⟩;exact⟨j,by omega,by omega,h3⟩
   ·rintro⟨j,h1,h2,h3⟩
    refine⟨j,?_,by omega,h3⟩
    have:j≠k:=fun hj=>h (hj▸h3)
    omega
def Jr(v:V):Prop:=v=.aa\/v=.empty\/∃i o n c z,v=.slice i o n c z
def Sl.form{l:List V}(s:Sl h N v l):Jr v:=by
 rcases s with⟨_,h|h⟩|⟨i,o,cp,c,e,rw,h,_⟩
 ·exact .inl h
 ·exact .inr (.inl h)
 exact .inr (.inr ⟨_,_,_,_,_,h⟩)
def Jr.one(h:Jr v):V.one v=true:=by rcases h with rfl|rfl|⟨_,_,_,_,_,rfl⟩<;>rfl
def Jr.cells(h:Jr v):V.cells v=[v]:=by rcases h with rfl|rfl|⟨_,_,_,_,_,rfl⟩<;>rfl
def strs(l:List aD):List V:=l.map .str
def m7(l:List aD):(strs l).length=l.length:=by simp[strs]
def GH{l:List aD}{j:Nat}{n:aD}(h:l[j]?=some n):(strs l)[j]?=some (.str n):=by simp[strs,h]
attribute [simp] m7
def Yxq(s:yK)(sO:V):List V:=[.str s.name,.str s.op,.str s.Js,sO,.int .i64 s.cost]
def Gr(h:T O)(N:Nat)(v:V)(g:List yK):Prop:=∃l:List (List V),Sn 5 h N v l/\l.length=g.length/\∀(j:Nat) (s:yK),g[j]?=some s->∃sO,l[j]?=some (Yxq s sO)/\Sl h N sO (strs s.mQ)
def Gr.ad{h':T O}{N':Nat}{g:List yK}(s:Gr h N v g)(k:ab h N h' N'):Gr h' N' v g:=by obtain⟨l,h1,h2,h3⟩:=s;refine⟨l,h1.ad k,h2,fun j s hs=>?_⟩;obtain⟨sO,h4,h5⟩:=h3 j s hs;exact⟨sO,h4,h5.ad k⟩
def Gr.at{g:List yK}(s:Gr h N v g){j:Nat}{x:yK}(hj:g[j]?=some x):∃i o c e rw sO,yo v=some (i,o)/\i<N/\h.get i=some (.cells c e rw)/\aL c (o+j*5) 5=some (Yxq x sO)/\Sl h N sO (strs x.mQ):=by obtain⟨l,h1,h2,h3⟩:=s;obtain⟨sO,h4,h5⟩:=h3 j x hj;obtain⟨i,o,c,e,rw,q1,q2,q3,q4⟩:=h1.at h4;exact⟨i,o,c,e,rw,sO,q1,q2,q3,q4,h5⟩
def Gr.slice{g:List yK}{w:List Nat}(s:Gr h N v g){lo hi:Nat}(h1:lo<=hi)(h2:hi<=g.length)(x y:Option V)(hx:x=some (.int .i64 lo)\/x=none/\lo=0)(hy:y=some (.int .i64 hi)\/y=none/\hi=g.length):
  ∃v',nV ⟨h,N,w⟩ 5 (some v) (some x) (some y) (some none)=some (v',⟨h,N,w⟩)/\Gr h N v' ((g.take hi).drop lo):=by
 obtain⟨l,g1,g2,g3⟩:=s;obtain⟨v',e1,e2⟩:=Ztu (z:=5) (w:=w) (by decide) g1 h1 (by omega) x y hx (by rw[g2];exact hy);refine⟨v',e1,(l.take hi).drop lo,e2,by simp[g2],fun j s hs=>?_⟩;have hj:lo+j<hi:=by apply uH;intro hc;rw[fF,jL,ak (by omega)]at hs;cases hs
 rw[fF,jL,ar hj]at hs;obtain⟨sO,q1,q2⟩:=g3 _ s hs;exact⟨sO,by rw[fF,jL,ar hj];exact q1,q2⟩
def Yxr{a b c d e:V}:aL [a,b,c,d,e] 0 5=some [a,b,c,d,e]:=rfl
def Yxs{a b:V}:aL [a,b] 0 2=some [a,b]:=rfl
attribute [simp] Yxr Yxs
def Yro(st:St)(zero:V)(ok:Bool):Option (Option (Nat×V))->Option (V×St)
 |some (some (_,v))=>some (if ok then .aV [v,.bool true] else v,st)
 |some none=>some (if ok then .aV [zero,.bool false] else zero,st)
 |none=>none
def TN(st:St)(kd:mK)(zero:V)(ok:Bool)(k:V):Option O->Option (V×St)
 |some (.map es)=>Yro st zero ok (fI kd k es 0)
 |_=>none
def Yrp(st:St)(kd:mK)(zero:V)(ok:Bool):Option V->Option V->Option (V×St)
 |some (.map i),some k=>if kd.fits k=true then TN st kd zero ok k (st.h.get i) else none
 |some .bQ,some k=>if kd.fits k=true then Yro st zero ok (some none) else none
 |_,_=>none
def Zwq{kd:mK}{zero:V}{m k:Src}{ok:Bool}{call:cM}{r:T V}{st:St}:Jk kd zero m k ok call r st=Yrp st kd zero ok (m.ev r) (k.ev r):=by
 unfold Jk Yrp;rcases m.ev r with _|m
 ·rfl
 rcases k.ev r with _|k
 ·cases m<;>rfl
 cases m<;>simp only[]<;>(try (by_cases hf:kd.fits k=true<;>simp[hf]))<;>try rfl
 rename_i i;rcases st.h.get i with _|o
 ·rfl
 cases o<;>simp only[TN];rename_i es;rcases fI kd k es 0 with _|_|⟨_,_⟩<;>rfl
def Ygp{st:St}{zero:V}{ok:Bool}{s:aD}:Yrp st .str zero ok (some (.map i)) (some (.str s))=TN st .str zero ok (.str s) (st.h.get i):=rfl
def Zxd{st:St}{kd:mK}{zero:V}{ok:Bool}{es:List (V×V)}:TN st kd zero ok k (some (.map es))=Yro st zero ok (fI kd k es 0):=rfl
attribute [simp] Zwq Ygp Zxd LP
def Yq5(st:St)(i:Nat)(k v:V)(es:List (V×V)):Option (Option (Nat×V))->Option (V×St)
 |some (some (j,_))=>some (.aV [],st.write i (.map (es.set j (k,v))))
 |some none=>some (.aV [],st.write i (.map (es++[(k,v)])))
 |none=>none
def TO(st:St)(kd:mK)(i:Nat)(k v:V):Option O->Option (V×St)
 |some (.map es)=>Yq5 st i k v es (fI kd k es 0)
 |_=>none
def BC(st:St)(kd:mK):Option V->Option V->Option V->Option (V×St)
 |some (.map i),some k,some v=>if kd.fits k=true then TO st kd i k v (st.h.get i) else none
 |_,_,_=>none
def Zwp{kd:mK}{m k v:Src}{call:cM}{r:T V}{st:St}:GC kd m k v call r st=BC st kd (m.ev r) (k.ev r) (v.ev r):=by
 unfold GC BC;rcases m.ev r with _|m
 ·rfl
 rcases k.ev r with _|k
 ·cases m<;>rfl
 rcases v.ev r with _|v
 ·cases m<;>rfl
 cases m with
 |map i=>
  simp only[];by_cases hf:kd.fits k=true
  ·simp only[hf,if_true];rcases st.h.get i with _|o
   ·rfl
   cases o<;>simp only[TO];rename_i es;rcases fI kd k es 0 with _|_|⟨_,_⟩<;>rfl
  simp[hf]
 |_=>rfl
def Yf0{st:St}{s:aD}:BC st .str (some (.map i)) (some (.str s)) (some v)=TO st .str i (.str s) v (st.h.get i):=rfl
def Zwz{st:St}{kd:mK}{es:List (V×V)}:TO st kd i k v (some (.map es))=Yq5 st i k v es (fI kd k es 0):=rfl
def Ybx{st:St}{es:List (V×V)}:Yq5 st i k v es (some none)=some (.aV [],st.write i (.map (es++[(k,v)]))):=rfl
attribute [simp] Zwp Yf0 Zwz Ybx
def ab.then{h h1 h2:T O}{n n1 n2:Nat}(a:ab h n h1 n1)(b:ab h1 n h2 n2):ab h n h2 n2:=⟨b.le,fun i hi=>(b.get i hi).trans (a.get i hi)⟩
def qI(l:List Int):List (List V):=l.map fun x=>[.int .i64 x]
def EL(l:List Int):(qI l).length=l.length:=by simp[qI]
def Zml:∀(l:List Int),(qI l).flatten=dI l
 |[]=>rfl
 |x::l=>by
  have:=Zml l
  simp only[qI,nI,List.flatten_cons,dI]at this ⊢
  rw[this];rfl
def GI(l:List Int)(x:Int):qI (l++[x])=qI l++[[.int .i64 x]]:=by simp[qI]
def Own.sl{e:TypeId}{N0:Nat}{h:T O}{N:Nat}{v:V}{l:List Int}(s:Own 1 e N0 h N v (qI l)):Sl h N v (dI l):=by
 have:=s.sn;have e1:qI l=(dI l).map fun x=>[x]:=by simp[qI,dI]
 rw[e1]at this;exact Sn.one.1 this
structure Yzr (g:List yK):Prop where
 le:g.length<=16
 name:∀(j:Nat) (s:yK),g[j]?=some s->j<=pos (g.take j) s.name
 sO:∀(j:Nat) (s:yK),g[j]?=some s->∀n∈s.mQ,pos (g.take j) n<j
 cost:∀s∈g,1<=s.cost/\s.cost<=1000
variable {N:Nat} {h:T O}
def Cp(h:T O)(N:Nat)(v:V)(l:List V):Prop:=∃j c,v=.slice j 0 l.length c 1/\j<N/\h.get j=some (.cells l 9 true)/\∀k,c=some k->l.length<=k
def Cp.ad{h':T O}{N':Nat}{v:V}{l:List V}(s:Cp h N v l)(k:ab h N h' N'):Cp h' N' v l:=by obtain⟨j,c,h1,h2,h3,h4⟩:=s;exact⟨j,c,h1,fm h2 k.le,(k.get j h2).trans h3,h4⟩
def Zt{w:List Nat}{v:V}{l:List V}(s:Sl h N v l):gb ⟨h,N,w⟩ 1 v=some (l.length,l):=by
 rcases s with⟨rfl,rfl|rfl⟩|⟨i,o,cp,c,e,rw,rfl,h2,h3,h4,h5,h6⟩
 ·rfl
 ·rfl
 simp only[gb,if_true,St.row,h3,yy];have:aL c o l.length=some l:=by
  unfold aL;rw[ar h5];congr 1;apply ph;intro j;rw[jL];by_cases hj:j<l.length
  ·rw[ar hj,fF];exact h4 j hj
  rw[ak hj,fW (by omega)]
 rw[this]
def PgA(h:T O)(N0 N:Nat)(u:V)(g:List yK)(k:Nat):Prop:=∃l:List (List V),Own 5 126 N0 h N u l/\l.length=k/\∀(j:Nat) (s:yK),j<k->g[j]?=some s->∃sO,l[j]?=some (Yxq s sO)/\Cp h N sO (strs s.mQ)
def PgA.ad{h':T O}{N0 N':Nat}{u:V}{g:List yK}{k:Nat}(s:PgA h N0 N u g k)(kk:ab h N h' N'):PgA h' N0 N' u g k:=by obtain⟨l,h1,h2,h3⟩:=s;refine⟨l,h1.ad kk,h2,fun j s hj hs=>?_⟩;obtain⟨sO,h4,h5⟩:=h3 j s hj hs;exact⟨sO,h4,h5.ad kk⟩
def Sl.setInt{h:T O}{N:Nat}{v:V}{l:List Int}{i:Nat}{c0 c1:List V}{e0 e1:TypeId}{w0 w1:Bool}(s:Sl h N v (dI l))(hr:h.get i=some (.cells c0 e0 w0))(hn:∀x∈c0,∀k n,x≠.int k n)(hc:c1.length=c0.length):Sl (h.set i (.cells c1 e1 w1)) N v (dI l):=by
 rcases s with s|⟨j,o,cp,c,e,rw,h1,h2,h3,h4,h5,h6⟩
 ·exact .inl s
 by_cases hj:j=i
 ·subst hj;rw[hr]at h3;simp only[aq,O.cells.injEq]at h3;obtain⟨rfl,rfl,rfl⟩:=h3;cases l with
  |nil=>exact .inr ⟨j,o,cp,c1,e1,w1,h1,h2,by rw[T.ae];simp,fun k hk=>by simp[dI]at hk,by rw[hc];exact h5,h6⟩
  |cons d l=> have:=h4 0 (by simp[dI]);simp only[dI,nI,C4]at this;exact absurd rfl (hn _ (cF this) .i64 d)
 exact .inr ⟨j,o,cp,c,e,rw,h1,h2,by rw[T.ae,ak hj];exact h3,h4,h5,h6⟩
open Go Go.Proofs
set_option maxRecDepth 1000000
abbrev A.F(n:Nat):=zR Tryz.prog n
def mv(a b:Nat):dK:=⟨some a,.m_ (.tmp b),none⟩
def mc(a:Nat)(n:Int):dK:=⟨some a,.m_ (.const (.int .i64 n)),none⟩
def ia(a z x i:Nat):dK:=⟨some a,.bG z (.tmp x) (.tmp i),none⟩
def ld(a x:Nat):dK:=⟨some a,.load none (.tmp x),none⟩
def xt(a x i:Nat):dK:=⟨some a,.extract (.tmp x) i,none⟩
def bi(a:Nat)(o:BinOp)(x y:Nat):dK:=⟨some a,.bin o (.node []) false (.tmp x) (.tmp y),none⟩
def bc(a:Nat)(o:BinOp)(x:Nat)(n:Int):dK:=⟨some a,.bin o (.node []) false (.tmp x) (.const (.int .i64 n)),none⟩
def ln(a x:Nat):dK:=⟨some a,.len 1 (.tmp x),none⟩
def so(a x:Nat):dK:=⟨none,.store 1 (.tmp a) (.tmp x),none⟩
def c1(a f x:Nat):dK:=⟨some a,.call (.const (.func f [] [])) [.tmp x],none⟩
def c2(a f x y:Nat):dK:=⟨some a,.call (.const (.func f [] [])) [.tmp x,.tmp y],none⟩
def lN(a n x:Nat):dK:=⟨some a,.load (some n) (.tmp x),none⟩
def fa(a o x:Nat):dK:=⟨some a,.jE o (.tmp x),none⟩
def pf(a x y:Nat):dK:=⟨some a,.pick (.tmp x) (.tmp y) (.const (.bool false)),none⟩
def pt(a x y:Nat):dK:=⟨some a,.pick (.tmp x) (.const (.bool true)) (.tmp y),none⟩
def ei(a x:Nat)(n:Int):dK:=⟨some a,.bin .eql (.cL .int) true (.tmp x) (.const (.int .i64 n)),none⟩
def ni(a x:Nat)(n:Int):dK:=⟨some a,.bin .neq (.cL .int) true (.tmp x) (.const (.int .i64 n)),none⟩
def mN(a:Nat):dK:=⟨some a,.m_ (.const .aa),none⟩
def bx(a e x:Nat):dK:=⟨some a,.box e (.tmp x),none⟩
def mg(a x g:Nat):dK:=⟨some a,.m_ (.tmp x),some (g,true)⟩
def mh(a x g:Nat):dK:=⟨some a,.m_ (.tmp x),some (g,false)⟩
def sr(l:List dK)(c:bW):bW:=.seq (.fY l) c
def cd(x:Nat)(a b:bW):bW:=.cond (.tmp x) a b
def ge(a:Nat)(o:iA):dK:=⟨some a,o,none⟩
def gn(o:iA):dK:=⟨none,o,none⟩
def gy(a g:Nat)(o:iA):dK:=⟨some a,o,some (g,true)⟩
def gz(a g:Nat)(o:iA):dK:=⟨some a,o,some (g,false)⟩
abbrev tq(x:Nat):Src:=.tmp x
abbrev kq(n:Int):Src:=.const (.int .i64 n)
abbrev fq(f:Nat):Src:=.const (.func f [] [])
attribute [simp] C4 Gm mv mc ia ld xt bi bc ln so c1 c2 lN fa pf pt ei ni mN bx mg mh sr cd ge gn gy gz
def A.Ov:O:=.cells (([1,10,100,1000,10000,100000,1000000,10000000,100000000,1000000000,10000000000,100000000000,1000000000000,10000000000000,100000000000000,1000000000000000,10000000000000000,100000000000000000,1000000000000000000,10000000000000000000]:List Int).map fun z=>.int .u64 z) 277 false
def A.TB:List (Nat×O):=[(5,A.Ov)]
def A.C:Cx:=⟨LZ A.TB [⟨10,[],.bool true⟩],zR Tryz.prog⟩
def A.t:A.C.dV=zR Tryz.prog:=rfl
def A.x0{f:Nat}{a c args:List V}{st:St}(h:Nat.beq 10 f=false):A.C.x (.func f a c) args st=none:=by
 show LZ A.TB [⟨10,[],.bool true⟩] (.func f a c) args st=none;unfold LZ;split
 ·rename_i heq;simp only[V.func.injEq]at heq;obtain⟨rfl,rfl,rfl⟩:=heq;simp only[Ma,h]
 rfl
def Yy8(P:Program)(fn:Func):bW:=match fn.body with
 |some c=>jr P c
 |none=>.skip
def GJ:bW->List bW
 |.seq a b=>GJ a++GJ b
 |.cond _ a b=>GJ a++GJ b
 |.block _ a=>GJ a
 |.scope a=>GJ a
 |.loop a=>a::GJ a
 |_=>[]
def EM:List bW->bW->bW×List bW
 |ls,.seq a b=>match EM ls a with
  |(a,ls)=>match EM ls b with
   |(b,ls)=>(.seq a b,ls)
 |ls,.cond s a b=>match EM ls a with
  |(a,ls)=>match EM ls b with
   |(b,ls)=>(.cond s a b,ls)
 |ls,.block k a=>match EM ls a with
  |(a,ls)=>(.block k a,ls)
 |ls,.scope a=>match EM ls a with
  |(a,ls)=>(.scope a,ls)
 |l::ls,.loop _=>(.loop l,ls)
 |ls,c=>(c,ls)
@[simp] def A.q (f:Func) {b:bW} (_h:Yy8 Tryz.prog f=b:=by conv=>lhs;cbv):bW:=b
@[simp] def A.ql (w:bW) (i:Nat) (ls:List bW) {b:bW} (_h:(EM ls ((GJ w)[i]?.getD .skip)).1=b:=by conv=>lhs;cbv):bW:=b
@[simp] def A.qb (w:bW) (ls:List bW) {b:bW} (_h:(EM ls w).1=b:=by conv=>lhs;cbv):bW:=b
def Jt:List Nat->bW->bW
 |0::p,.seq a _=>Jt p a
 |_::p,.seq _ b=>Jt p b
 |0::p,.cond _ a _=>Jt p a
 |_::p,.cond _ _ b=>Jt p b
 |_::p,.block _ a=>Jt p a
 |_::p,.scope a=>Jt p a
 |_,c=>c
def Ju(x:bW):List Nat->bW->bW
 |0::p,.seq a b=>.seq (Ju x p a) b
 |_::p,.seq a b=>.seq a (Ju x p b)
 |0::p,.cond s a b=>.cond s (Ju x p a) b
 |_::p,.cond s a b=>.cond s a (Ju x p b)
 |_::p,.block k a=>.block k (Ju x p a)
 |_::p,.scope a=>.scope (Ju x p a)
 |_,_=>x
def Yzj:List (List Nat×bW)->bW->bW
 |[],w=>w
 |(p,x)::l,w=>Yzj l (Ju x p w)
@[simp] def A.qt (w:bW) (ls:List bW) (cs:List (List Nat×bW)) (p:List Nat) {b:bW} (_h:Jt p (Yzj cs (EM ls w).1)=b:=by conv=>lhs;cbv):bW:=b
def A.kk{n k:Nat}{res:List F5}{b:bW}(hc:zR Tryz.prog n=some ⟨k,res,b⟩)(hx:Nat.beq 10 n=false){K:List Kf}{Q:Rs->Prop}{f c args:List V}{st:St}(h:(f++args++c).length<=k):bD A.C K (ue (A.C.call (.func n f c) args st)) Q↔bD A.C (.fin res st::K) (ff (A.C.code none b ⟨Ao .nil 0 (f++args++c),k,[]⟩ ⟨st.h,st.n,[]⟩)) Q:=Yka (A.x0 (f:=n) hx) (mf:=⟨k,res,b⟩) (by rw[A.t];exact hc) h
def A.known{h:T O}{N:Nat}{w:List Nat}(hp:h.get 5=some A.Ov):A.C.call (.func 10 [] []) [] ⟨h,N,w⟩=some (.bool true,⟨h,N,w⟩):=by
 have hq:Mb (h.get 5) A.Ov=true:=by rw[hp];decide+kernel
 have hi:GK ⟨h,N,w⟩ A.TB=true:=by show (match Mb (h.get 5) A.Ov with|true=>true|false=>false)=true;rw[hq]
 have hx:A.C.x (.func 10 [] []) [] ⟨h,N,w⟩=some (.bool true,⟨h,N,w⟩):=by show (match GK ⟨h,N,w⟩ A.TB with|true=>some (V.bool true,(⟨h,N,w⟩:St))|false=>none)=_;rw[hi]
 rw[Cx.nX];unfold t_;rw[hx]
end
end Go.Mx
