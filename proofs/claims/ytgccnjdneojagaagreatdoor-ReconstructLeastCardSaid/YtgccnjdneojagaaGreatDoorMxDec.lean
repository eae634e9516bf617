/-Digits to the base 10^9, as integers-/
import Derived.Test.YtgccnjdneojagaaGreatDoorMxWord
import Derived.Test.YtgccnjdneojagaaGreatDoorProg
set_option linter.all false
namespace Go.Mx
noncomputable section
open Go
variable {d:Int} {j k n:Nat} {l:List Int}
def vI:List Int->Int
 |[]=>0
 |d::l=>d+1000000000*vI l
def pI(k:Nat):Int:=1000000000^k
def xH(k:Nat):pI (k+1)=1000000000*pI k:=by unfold pI;rw[Int.pow_succ,Int.mul_comm]
def Yss:pI 0=1:=rfl
def EI(k:Nat):0<pI k:=by unfold pI;exact Int.pow_pos (by decide)
def T1(i j:Nat):pI (i+j)=pI i*pI j:=by unfold pI;exact Int.pow_add ..
def Zo6:∀(l m:List Int),vI (l++m)=vI l+pI l.length*vI m
 |[],m=>by simp[vI,pI]
 |d::l,m=>by
  simp only[Ev,vI,Zo6 l m,bl,xH]
  grind
def EJ(l:List Int)(d:Int):vI (l++[d])=vI l+pI l.length*d:=by simp[Zo6,vI]
def Zst(n:Nat):vI (List.replicate n 0)=0:=by
 induction n with
 |zero=>rfl
 |succ n ih=>simp[List.replicate_succ,vI,ih]
def gI{α:Type}{l:List α}{d:α}(h:l[k]?=some d):k<l.length:=by apply vC;intro hc;rw[fy hc]at h;cases h
def AO(h:l[k]?=some d):vI (l.take (k+1))=vI (l.take k)+pI k*d:=by have hk:=gI h;rw[C1,h];simp only[Option.toList];rw[EJ,ik,ry (by omega)]
def OB(l:List Int)(k:Nat)(hk:k<=l.length):vI l=vI (l.take k)+pI k*vI (l.drop k):=by have:=Zo6 (l.take k) (l.drop k);rw[Df,ik,ry hk]at this;exact this
def EK:∀{l:List Int} {k:Nat} {c:Int},l[k]?=some c->∀(v:Int),vI (l.set k v)=vI l+pI k*(v-c)
 |[],k,c,h,v=>by simp at h
 |d::l,0,c,h,v=>by
  simp at h;subst h
  simp only[List.set_cons_zero,vI,Yss];omega
 |d::l,k+1,c,h,v=>by
  have:=EK (l:=l) (k:=k) (c:=c) (by simpa using h) v
  simp only[List.set_cons_succ,vI,this,xH]
  grind
def Di(l:List Int):Prop:=∀d∈l,0<=d/\d<1000000000
def Di.get(h:Di l){k:Nat}{d:Int}(hd:l[k]?=some d):0<=d/\d<1000000000:=h d (cy hd)
def Di.set(h:Di l){k:Nat}{v:Int}(h0:0<=v)(h1:v<1000000000):Di (l.set k v):=fun d hd=>by
 rcases FU hd with hd|rfl
 ·exact h d hd
 ·exact⟨h0,h1⟩
def Di.app{m:List Int}(h:Di l)(h':Di m):Di (l++m):=fun d hd=>by
 rcases jn.1 hd with hd|hd
 ·exact h d hd
 ·exact h' d hd
def Di.one{v:Int}(h0:0<=v)(h1:v<1000000000):Di [v]:=fun d hd=>by simp at hd;subst hd;exact⟨h0,h1⟩
def Di.nil:Di []:=fun d hd=>by simp at hd
def Di.GA(n:Nat):Di (List.replicate n 0):=fun d hd=>by rw[Im]at hd;rw[hd.2];decide
def Di.take(h:Di l)(k:Nat):Di (l.take k):=fun d hd=>h d (wy hd)
def Di.drop(h:Di l)(k:Nat):Di (l.drop k):=fun d hd=>h d (Ox hd)
def xI:∀{l:List Int},Di l->0<=vI l
 |[],_=>Int.le_refl _
 |d::l,h=>by
  have h1:=h d rI
  have h2:=xI (l:=l) fun e he=>h e (ri _ he)
  simp only[vI];omega
def xJ:∀{l:List Int},Di l->vI l<pI l.length
 |[],_=>by decide
 |d::l,h=>by
  have h1:=h d rI
  have h2:=xJ (l:=l) fun e he=>h e (ri _ he)
  simp only[vI,bl,xH];omega
def zI(l:List Int)(j:Nat):Int:=l[j]?.getD 0
def Yqx(h:l[j]?=some d):zI l j=d:=by simp[zI,h]
def Zwx(h:l.length<=j):zI l j=0:=by simp[zI,h]
def Yqy{l:List Int}(h:Di l)(j:Nat):0<=zI l j/\zI l j<1000000000:=by
 unfold zI;cases hj:l[j]? with
 |none=>simp
 |some d=>exact h.get hj
def Zo5{l:List Int}{k:Nat}:vI (l.take (k+1))=vI (l.take k)+pI k*zI l k:=by
 unfold zI;cases h:l[k]? with
 |some d=>exact AO h
 |none=>
  have hk:l.length<=k:=by apply AG;intro hc;rw[ct hc]at h;cases h
  rw[fU (by omega),fU hk];simp
def nf{α:Type}{l:List α}{d:α}(h:l[k]?=some d):l.drop k=d::l.drop (k+1):=by obtain⟨hk,hs⟩:=yK.1 h;rw[<-hs];exact IZ hk
def dI(l:List Int):List V:=l.map fun n=>.int .i64 n
def h_(l:List Int):(dI l).length=l.length:=by simp[dI]
def iB{n:Int}(h:l[j]?=some n):(dI l)[j]?=some (.int .i64 n):=by simp[dI,h]
attribute [simp] h_
def Dy{v:Int}(h:k<l.length):ae (dI l) k [.int .i64 v]=dI (l.set k v):=by
 unfold ae dI;apply nN;intro j;simp only[Az,eH,List.getElem?_set];rw[uQ,List.getElem?_append,ik,di];by_cases h1:j<k
 ·rw[av (by omega),jZ,av h1,eH,ak (by omega)]
 rw[ak (by omega)];by_cases h2:j=k
 ·subst h2;rw[show j-min j l.length=0 by omega,av rfl,av h];rfl
 rw[show j-min k l.length=(j-k-1)+1 by omega,ak (by omega)];simp only[TR,Gh,fJ,eH];rw[show k+1+(j-k-1)=j by omega]
def Zt6:cW [.int .i64 0] n=dI (List.replicate n 0):=by rw[Yev];simp[dI]
def tF:List Int->List Int
 |[]=>[]
 |d::l=>match tF l with
  |[]=>if d=0 then [] else [d]
  |t=>d::t
def Zm7:∀(l:List Int),tF (l++[0])=tF l
 |[]=>rfl
 |d::l=>by simp only[Ev,tF,Zm7 l]
def Zrl{d:Int}(hd:d≠0):∀(l:List Int),tF (l++[d])=l++[d]
 |[]=>by simp[tF,hd]
 |e::l=>by
  simp only[Ev,tF,Zrl hd l]
  cases l<;>rfl
def Zus:∀(l:List Int),(tF l).length<=l.length
 |[]=>aM _
 |d::l=>by
  have ih:=Zus l
  simp only[tF]
  split
  ·split<;>simp
  ·simp only[bl];omega
def ds(n:Nat):List Int:=if h:n=0 then [] else ((n%1000000000:Nat):Int)::ds (n/1000000000)
termination_by n
decreasing_by exact Ez (by omega) (by decide)
def vG:ds 0=[]:=by rw[ds];simp
def BJ(h:n≠0):ds n=((n%1000000000:Nat):Int)::ds (n/1000000000):=by rw[ds];simp[h]
def iC:∀(n:Nat),vI (ds n)=n:=by
 intro n;induction n using Nat.strongRecOn with
 |_ n ih=>
  by_cases h:n=0
  ·subst h;rw[vG];rfl
  rw[BJ h];simp only[vI];rw[ih (n/1000000000) (Ez (by omega) (by decide))];omega
def ig(n:Nat):Di (ds n):=by
 induction n using Nat.strongRecOn with
 |_ n ih=>
  by_cases h:n=0
  ·subst h;rw[vG];exact Di.nil
  rw[BJ h];intro d hd;rcases ky.1 hd with rfl|hd
  ·omega
  exact ih (n/1000000000) (Ez (by omega) (by decide)) d hd
def Zsu:∀{l:List Int},Di l->tF l=ds (vI l).toNat
 |[],_=>by simp[tF,vI,vG]
 |d::l,h=>by
  have hl:Di l:=fun e he=>h e (ri _ he)
  have ih:=Zsu hl
  have hd:=h d rI
  have hn:=xI hl
  simp only[tF,vI,ih]
  by_cases h0:vI l=0
  ·rw[h0]
   simp only[Int.toNat_zero,vG,Int.mul_zero,Int.add_zero]
   by_cases qN:d=0
   ·simp[qN,vG]
   ·rw[BJ (by omega),z_ (by omega),BC (by omega),vG];simp[qN];omega
  ·have h3:(d+1000000000*vI l).toNat≠0:=by omega
   rw[BJ h3]
   have h1:(d+1000000000*vI l).toNat/1000000000=(vI l).toNat:=by omega
   have h2:(((d+1000000000*vI l).toNat%1000000000:Nat):Int)=d:=by omega
   rw[h1,h2]
   split
   ·rename_i hc;rw[BJ (by omega)]at hc;cases hc
   ·rfl
def Jr(h:Di l){n:Nat}(hn:vI l=n):tF l=ds n:=by rw[Zsu h,hn];rfl
def Yut(n:Nat):tF (ds n)=ds n:=Jr (ig n) (iC n)
def EL:ds n=[]↔n=0:=by
 constructor
 ·intro h;by_cases h0:n=0
  ·exact h0
  rw[BJ h0]at h;cases h
 intro h;rw[h,vG]
def Yuu(h:n≠0):∃d,(ds n)[(ds n).length-1]?=some d/\0<d:=by
 have aZ:ds n≠[]:=fun hc=>h (EL.1 hc);obtain⟨l,d,hd⟩:∃l d,ds n=l++[d]:=⟨(ds n).dropLast,(ds n).getLast aZ,(TT aZ).symm⟩;refine⟨d,by rw[hd,iI,Az];simp,?_⟩;have h1:=ig n d (by rw[hd];exact List.mem_append_right _ rI);have:d≠0:=fun h0=>by have h2:=Yut n;rw[hd,h0,Zm7]at h2;have:=Zus l;rw[h2]at this;simp at this;omega
 omega
def Mb{n k:Nat}(h:n<1000000000^k):(ds n).length<=k:=by
 induction k generalizing n with
 |zero=>
  have:n=0:=by simpa using h
  rw[this,vG];simp
 |succ k ih=>
  by_cases h0:n=0
  ·rw[h0,vG];simp
  rw[BJ h0];have:=ih (n:=n/1000000000) ((su (by decide)).2 (by rw[<-im];exact h));simp only[bl];omega
def Dn(h:T O)(N:Nat)(v:V)(n:Nat):Prop:=Sl h N v (dI (ds n))
def Dn.ad{h h':T O}{N N':Nat}{v:V}(s:Dn h N v n)(k:ab h N h' N'):Dn h' N' v n:=Sl.ad s k
variable {w:List Int}
def Zyr{P u1 u2 U' v1 v2 V' t r:Int}(hP:0<P)(EM:0<=U')(fX:0<=u2)(Ae:0<=u1)(nT:0<v1)(jQ:0<=v2)(zc:0<=V')(EN:V'<P)(h0:0<=t)(ht:t<=1000000000)(hinv:u1=t*v1+r)(hc:t*v2<=r*1000000000+u2):
  (t-1)*(V'+P*(v2+1000000000*v1))<=U'+P*(u2+1000000000*u1):=by
 by_cases q9:t=0
 ·subst q9;have h1:0<=P*(v2+1000000000*v1):=yY (by omega) (by omega);have h2:0<=P*(u2+1000000000*u1):=yY (by omega) (by omega);omega
 have h1:(t-1)*V'<=1000000000*P:=by have:(t-1)*V'<=1000000000*V':=Ge (by omega) zc;omega
 have h2:P*1<=P*v1:=tB (by omega) (by omega);have h3:P*(t*v2)<=P*(r*1000000000+u2):=tB hc (by omega);have h4:0<=P*v2:=yY (by omega) jQ;have h5:(t-1)*(V'+P*(v2+1000000000*v1))=(t-1)*V'+P*(t*v2)-P*v2+1000000000*(P*(t*v1))-1000000000*(P*v1):=by grind
 have h6:U'+P*(u2+1000000000*u1)=U'+P*(r*1000000000+u2)+1000000000*(P*(t*v1)):=by subst hinv;grind
 omega
def Yt7{P u1 u2 U' v1 v2 V' t r:Int}(hP:0<P)(EM:U'<P)(zc:0<=V')(h0:0<=t)(hinv:u1=t*v1+r)(hc:r*1000000000+u2<t*v2):
  U'+P*(u2+1000000000*u1)<t*(V'+P*(v2+1000000000*v1)):=by
 have h1:0<=t*V':=yY h0 zc;have h3:P*(r*1000000000+u2+1)<=P*(t*v2):=tB (by omega) (by omega);have h5:t*(V'+P*(v2+1000000000*v1))=t*V'+P*(t*v2)+1000000000*(P*(t*v1)):=by grind
 have h6:U'+P*(u2+1000000000*u1)=U'+P*(r*1000000000+u2+1)-P+1000000000*(P*(t*v1)):=by subst hinv;grind
 omega
def Yg9{x:Int}(h1:1<=x)(h2:x<1000000000):500000000<=x*(1000000000/(x+1)):=by
 have hd:(x+1)*(1000000000/(x+1))+1000000000%(x+1)=1000000000:=Gj ..;have hr:1000000000%(x+1)<x+1:=Gf _ (by omega);have ib:0<=1000000000%(x+1):=Gl _ (by omega);generalize 1000000000/(x+1)=d at*;generalize 1000000000%(x+1)=r at*;have e:(x+1)*d=x*d+d:=by grind
 apply Gk;intro hc;by_cases hx:x<=500000000
 ·have h3:500000000-x+1<=d:=by omega
  have h4:x*(500000000-x+1)<=x*d:=tB h3 (by omega);have h5:0<=(x-1)*(500000000-x):=yY (by omega) (by omega);have h6:(x-1)*(500000000-x)=x*(500000000-x+1)-500000000:=by grind
  omega
 have h3:1<=d:=by
  apply Gk;intro h;have:d<=0:=by omega
  have:(x+1)*d<=0:=Int.mul_nonpos_of_nonneg_of_nonpos (by omega) this;omega
 have h4:x*1<=x*d:=tB h3 (by omega);omega
def Zij{m:Nat}(h:∀t,m<=t->t<w.length->w[t]?=some 0):vI w=vI (w.take m):=by
 by_cases hm:m<=w.length
 ·have h1:=OB w m hm;have h2:w.drop m=List.replicate (w.length-m) 0:=by
   apply nN;intro t;rw[fJ,List.getElem?_replicate];by_cases ht:t<w.length-m
   ·rw[av ht];exact h _ (by omega) (by omega)
   rw[ak ht];exact fy (by omega)
  rw[h2,Zst]at h1;omega
 rw[fU (by omega)]
def Yq5{k:Nat}{a c d:Int}(ha:w[k]?=some a)(hc:w[k+1]?=some c)(hd:w[k+2]?=some d)(hz:∀t,k+3<=t->t<w.length->w[t]?=some 0):
  vI w=vI (w.take k)+pI k*(a+1000000000*(d*1000000000+c)):=by rw[Zij hz,show k+3=(k+2)+1 by omega,AO hd,AO hc,AO ha,xH (k+1),xH k];grind
def Yq6{k:Nat}{a c:Int}(ha:w[k]?=some a)(hc:w[k+1]?=some c)(hl:w.length=k+2):
  vI w=vI (w.take k)+pI k*(a+1000000000*c):=by
 have h1:vI w=vI (w.take (k+1+1)):=by rw[fU (by omega)]
 rw[h1,AO hc,AO ha,xH k];grind
def Yk4{n:Nat}{t:Int}(hd:Di (w.take n))(ht:w[n]?=some t)(hz:∀j,n<j->j<w.length->w[j]?=some 0)(h1:vI w<pI n):(0<=vI w->t=0)/\(vI w<0->t<0):=by
 have hl:=gI ht;have h2:vI w=vI (w.take n)+pI n*t:=by rw[Zij (m:=n+1) (fun j h1 h2=>hz j (by omega) h2),AO ht]
 have h3:=xI hd;have h4:=xJ hd;rw[ik,ry (by omega)]at h4;have h5:=EI n;constructor
 ·intro h;have h6:¬t<= -1:=fun hc=>by have:=tB hc (wJ h5);omega
  have h7:¬1<=t:=fun hc=>by have:=tB hc (wJ h5);omega
  omega
 intro h;apply LM;intro hc;have:=yY (wJ h5) hc;omega
variable {N k:Nat} {s:aG}
def Xb9:(N=N+1)=False:=eq_false (by omega)
def Xb0:(N+1=N)=False:=eq_false (by omega)
def Xcr:(N+1<N)=False:=eq_false (by omega)
def Xb8:(N=N+1+1)=False:=eq_false (by omega)
def Xbz:(N+1+1=N)=False:=eq_false (by omega)
def Xcq:(N+1+1<N)=False:=eq_false (by omega)
def Xb7:(N=N+1+1+1)=False:=eq_false (by omega)
def Xby:(N+1+1+1=N)=False:=eq_false (by omega)
def Xcp:(N+1+1+1<N)=False:=eq_false (by omega)
def Xb6:(N=N+1+1+1+1)=False:=eq_false (by omega)
def Xbx:(N+1+1+1+1=N)=False:=eq_false (by omega)
def Xco:(N+1+1+1+1<N)=False:=eq_false (by omega)
def Xb5:(N=N+1+1+1+1+1)=False:=eq_false (by omega)
def Xbw:(N+1+1+1+1+1=N)=False:=eq_false (by omega)
def Xcn:(N+1+1+1+1+1<N)=False:=eq_false (by omega)
def Xb4:(N=N+1+1+1+1+1+1)=False:=eq_false (by omega)
def Xbv:(N+1+1+1+1+1+1=N)=False:=eq_false (by omega)
def Xcm:(N+1+1+1+1+1+1<N)=False:=eq_false (by omega)
def Xb3:(N=N+1+1+1+1+1+1+1)=False:=eq_false (by omega)
def Xbu:(N+1+1+1+1+1+1+1=N)=False:=eq_false (by omega)
def Xcl:(N+1+1+1+1+1+1+1<N)=False:=eq_false (by omega)
def Xb2:(N=N+1+1+1+1+1+1+1+1)=False:=eq_false (by omega)
def Xbt:(N+1+1+1+1+1+1+1+1=N)=False:=eq_false (by omega)
def Xck:(N+1+1+1+1+1+1+1+1<N)=False:=eq_false (by omega)
def Xb1:(N=N+1+1+1+1+1+1+1+1+1)=False:=eq_false (by omega)
def Xbs:(N+1+1+1+1+1+1+1+1+1=N)=False:=eq_false (by omega)
def Xcj:(N+1+1+1+1+1+1+1+1+1<N)=False:=eq_false (by omega)
def Yz3:(N=N+1+1+1+1+1+1+1+1+1+1)=False:=eq_false (by omega)
def Yzx:(N+1+1+1+1+1+1+1+1+1+1=N)=False:=eq_false (by omega)
def Xaf:(N+1+1+1+1+1+1+1+1+1+1<N)=False:=eq_false (by omega)
def Yz2:(N=N+1+1+1+1+1+1+1+1+1+1+1)=False:=eq_false (by omega)
def Yzw:(N+1+1+1+1+1+1+1+1+1+1+1=N)=False:=eq_false (by omega)
def Xae:(N+1+1+1+1+1+1+1+1+1+1+1<N)=False:=eq_false (by omega)
def Yz1:(N=N+1+1+1+1+1+1+1+1+1+1+1+1)=False:=eq_false (by omega)
def Yzv:(N+1+1+1+1+1+1+1+1+1+1+1+1=N)=False:=eq_false (by omega)
def Xad:(N+1+1+1+1+1+1+1+1+1+1+1+1<N)=False:=eq_false (by omega)
def Yz0:(N=N+1+1+1+1+1+1+1+1+1+1+1+1+1)=False:=eq_false (by omega)
def Yzu:(N+1+1+1+1+1+1+1+1+1+1+1+1+1=N)=False:=eq_false (by omega)
def Xac:(N+1+1+1+1+1+1+1+1+1+1+1+1+1<N)=False:=eq_false (by omega)
def Yzz:(N=N+1+1+1+1+1+1+1+1+1+1+1+1+1+1)=False:=eq_false (by omega)
def Yzt:(N+1+1+1+1+1+1+1+1+1+1+1+1+1+1=N)=False:=eq_false (by omega)
def Xab:(N+1+1+1+1+1+1+1+1+1+1+1+1+1+1<N)=False:=eq_false (by omega)
def Yzy:(N=N+1+1+1+1+1+1+1+1+1+1+1+1+1+1+1)=False:=eq_false (by omega)
def Yzs:(N+1+1+1+1+1+1+1+1+1+1+1+1+1+1+1=N)=False:=eq_false (by omega)
def Xaa:(N+1+1+1+1+1+1+1+1+1+1+1+1+1+1+1<N)=False:=eq_false (by omega)
attribute [simp] Xb9 Xb0 Xcr Xb8 Xbz Xcq Xb7 Xby Xcp Xb6 Xbx Xco Xb5 Xbw Xcn Xb4 Xbv Xcm Xb3 Xbu Xcl Xb2 Xbt Xck Xb1 Xbs Xcj Yz3 Yzx Xaf Yz2 Yzw Xae Yz1 Yzv Xad Yz0 Yzu Xac Yzz Yzt Xab Yzy Yzs Xaa
def Xci:(N<N+1)=True:=eq_true (by omega)
def Xch:(N<N+1+1)=True:=eq_true (by omega)
def Xcg:(N<N+1+1+1)=True:=eq_true (by omega)
def Xcf:(N<N+1+1+1+1)=True:=eq_true (by omega)
def Xce:(N<N+1+1+1+1+1)=True:=eq_true (by omega)
def Xcd:(N<N+1+1+1+1+1+1)=True:=eq_true (by omega)
def Xcc:(N<N+1+1+1+1+1+1+1)=True:=eq_true (by omega)
def Xcb:(N<N+1+1+1+1+1+1+1+1)=True:=eq_true (by omega)
def Xca:(N<N+1+1+1+1+1+1+1+1+1)=True:=eq_true (by omega)
def Yz9:(N<N+1+1+1+1+1+1+1+1+1+1)=True:=eq_true (by omega)
def Yz8:(N<N+1+1+1+1+1+1+1+1+1+1+1)=True:=eq_true (by omega)
def Yz7:(N<N+1+1+1+1+1+1+1+1+1+1+1+1)=True:=eq_true (by omega)
def Yz6:(N<N+1+1+1+1+1+1+1+1+1+1+1+1+1)=True:=eq_true (by omega)
def Yz5:(N<N+1+1+1+1+1+1+1+1+1+1+1+1+1+1)=True:=eq_true (by omega)
def Yz4:(N<N+1+1+1+1+1+1+1+1+1+1+1+1+1+1+1)=True:=eq_true (by omega)
attribute [simp] Xci Xch Xcg Xcf Xce Xcd Xcc Xcb Xca Yz9 Yz8 Yz7 Yz6 Yz5 Yz4
def Call.eq{C:Cx}{g:V}{args:List V}{st aB:St}{u:V}(h:Call C g args st (fun v s=>v=u/\s=aB)):C.call g args st=some (u,aB):=by obtain⟨v,s,e,rfl,rfl⟩:=h.ex;exact e
def Ztp{C:Cx}{K:List Kf}{Q:Rs->Prop}{fr:Fr}{st:St}{i j:Nat}(h:¬j=i):bE C (.block i::K) (some (.ex (.exit j) fr st)) Q↔bE C K (some (.ex (.exit j) fr st)) Q:=Ztq (by
 cases hb:Nat.beq j i with
 |false=>rfl
 |true=>exact absurd (TV hb) h)
attribute [simp] Ztp
def cg:List Int->Int
 |[]=>0
 |e::l=>if e=0 then cg l else e
def bj{α:Type}{l:List α}(h:k<l.length):∃d,l[k]?=some d:=⟨_,ct h⟩
def Yjj(c:UInt8):mQ c=decide (48<=cX c/\cX c<=57):=by unfold mQ cX;rw[decide_eq_decide];omega
def pZ(k:Nat):List V:=(List.range 256).map fun i=>.bool (decide (48<=i/\i<48+k))
def BK(k:Nat):(pZ k).length=256:=by simp[pZ]
def Mc{i:Nat}(hi:i<256):(pZ k)[i]?=some (.bool (decide (48<=i/\i<48+k))):=by simp[pZ,hi]
def Yb2(k:Nat):(pZ k).all V.one=true:=by simp[pZ,V.one]
def Yox(hk:k<10):ae (pZ k) (48+k) [.bool true]=pZ (k+1):=by
 apply nN;intro j;unfold ae;rw[uQ,List.getElem?_append,ik,BK,ry (by omega)];by_cases h1:j<48+k
 ·rw[av h1,jZ,av h1,Mc (by omega),Mc (by omega)];congr 3;rw[eq_iff_iff];omega
 rw[ak h1];by_cases h2:j=48+k
 ·subst h2;rw[Mc (by omega)];simp
 rw[show j-(48+k)=(j-(48+k)-1)+1 by omega];simp only[TR,Gh,fJ,Az];rw[show 48+k+1+(j-(48+k)-1)=j by omega];by_cases h3:j<256
 ·rw[Mc h3,Mc h3];congr 3;rw[eq_iff_iff];omega
 rw[fy (by rw[BK];omega),fy (by rw[BK];omega)]
def Ykc(k:Nat):(pZ k).take 256=pZ k:=fU (by rw[BK];omega)
def Yow(j k:Nat):ae (pZ j) 0 (pZ k)=pZ k:=by unfold ae;rw[BK,BA (by rw[BK];omega)];simp
attribute [simp] BK Yb2 Ykc Yow
def cN(s:aG):Bool:=s.all mQ
def Xaw:aG:=[48,49,50,51,52,53,54,55,56,57]
def Yn6(hk:k<10):∃c,Xaw[k]?=some c/\cX c=48+k:=by
 have:k=0\/k=1\/k=2\/k=3\/k=4\/k=5\/k=6\/k=7\/k=8\/k=9:=by omega
 rcases this with rfl|rfl|rfl|rfl|rfl|rfl|rfl|rfl|rfl|rfl<;>exact⟨_,rfl,rfl⟩
def Dz{n:Int}(h1:0<=n)(h2:n<256):bn .u8 n=n:=by rw[BF];simp[IntKind.wrap,IntKind.bits,IntKind.signed];omega
def OC{n:Int}(h1: -9223372036854775808<=n)(h2:n<9223372036854775808):IntKind.wrap .i64 n=n:=by simp[IntKind.wrap,IntKind.bits,IntKind.signed];omega
def OD(l:aG)(c:UInt8):aF (l++[c])=10*aF l+(c.toNat-48):=by simp[aF]
def Zpy{c:UInt8}(h:s[k]?=some c):aF (s.take (k+1))=10*aF (s.take k)+(c.toNat-48):=by rw[C1,h];simp only[Option.toList,OD]
def OE(h:cN s=true){k:Nat}{c:UInt8}(hc:s[k]?=some c):48<=cX c/\cX c<=57:=by unfold cN at h;rw[iK]at h;have:=h c (cy hc);rw[Yjj]at this;simpa using this
def T2{s:aG}(h:cN s=true):∀k,k<=s.length->aF (s.take k)<10^k
 |0,_=>by simp[aF]
 |k+1,hk=>by
  obtain⟨c,hc⟩:=bj (l:=s) (k:=k) (by omega)
  have h1:=T2 h k (by omega)
  have h2:=OE h hc
  unfold cX at h2
  rw[Zpy hc,im]
  omega
def DC(h:cN s=true):aF s<10^s.length:=by have:=T2 h s.length (aM _);rwa [Dj]at this
def T3{a b:Nat}(h:a<=b):10^a<=10^b:=rO (by decide) h
def Yoy(h:k<9223372036854775808):tD .and .i64 (k:Int) 1=some (.int .i64 ((k%2:Nat):Int)):=by
 show some (V.int .i64 (IntKind.wrap .i64 (BitVec.ofInt 64 (k:Int)&&& BitVec.ofInt 64 1).toNat))=_;have e:(BitVec.ofInt 64 1).toNat=2^1-1:=by decide
 rw[BitVec.toNat_and,T4 k (by omega),e,Nat.and_two_pow_sub_one_eq_mod,OC (by omega) (by omega)]
def Ylh:AI .shr .i64 (k:Int) 1=some (.int .i64 ((k/2:Nat):Int)):=by
 unfold AI;have e:min (1:Int).toNat (IntKind.bits .i64)=1:=by decide
 rw[ak (by decide),e];simp only[au,V.int.injEq,true_and];rw[Int.fdiv_eq_ediv_of_nonneg _ (by decide)];rfl
variable {N i:Nat} {h:T O} {k v:V}
def ab.new{h1:T O}{n n1:Nat}(k:ab h n h1 n1)(o:O):ab h n (h1.set n1 o) (n1+1):=(k.set k.le).up (xf _)
abbrev gF(C:Cx)(f:V)(args:List V)(h:T O)(n:Nat)(P:V->T O->Nat->Prop):Prop:=∀w,Call C f args ⟨h,n,w⟩ (az P h n w)
def DZ{C:Cx}{f args h n w P K Q}(hf:gF C f args h n P)(k:∀v h' n',ab h n h' n'->P v h' n'->bE C K (some (.val v ⟨h',n',w⟩)) Q):bE C K (uR (C.call f args ⟨h,n,w⟩)) Q:=
 BL (hf w) fun v aB=>by
  obtain⟨h',n',w'⟩:=aB
  rintro⟨rfl,hk,hp⟩
  exact k v h' n' hk hp
def pG(p:Nat->Bool)(k:Nat):Nat->Int
 |0=> -1
 |m+1=>if p k=true then (k:Int) else pG p (k+1) m
def Zv7{p:Nat->Bool}:∀{m k:Nat},(0<=pG p k m↔∃j,k<=j/\j<k+m/\p j=true)
 |0,k=>by simp[pG];intro j h1 h2;omega
 |m+1,k=>by
  simp only[pG]
  by_cases h:p k=true
  ·rw[av h];exact⟨fun _=>⟨k,aM _,by omega,h⟩,fun _=>by omega⟩
  ·rw[ak h,Zv7 (m:=m) (k:=k+1)]
   constructor
   ·rintro⟨j,h1,h2,h3⟩;exact⟨j,by omega,by omega,h3⟩
   ·rintro⟨j,h1,h2,h3⟩
    refine⟨j,?_,by omega,h3⟩
    have:j≠k:=fun hj=>h (hj▸h3)
    omega
def Js(v:V):Prop:=v=.aa\/v=.empty\/∃i o n c z,v=.slice i o n c z
def Sl.form{l:List V}(s:Sl h N v l):Js v:=by
 rcases s with⟨_,h|h⟩|⟨i,o,cp,c,e,rw,h,_⟩
 ·exact .inl h
 ·exact .inr (.inl h)
 exact .inr (.inr ⟨_,_,_,_,_,h⟩)
def Js.one(h:Js v):V.one v=true:=by rcases h with rfl|rfl|⟨_,_,_,_,_,rfl⟩<;>rfl
def Js.cells(h:Js v):V.cells v=[v]:=by rcases h with rfl|rfl|⟨_,_,_,_,_,rfl⟩<;>rfl
def strs(l:List aG):List V:=l.map .str
def mY(l:List aG):(strs l).length=l.length:=by simp[strs]
def GB{l:List aG}{j:Nat}{n:aG}(h:l[j]?=some n):(strs l)[j]?=some (.str n):=by simp[strs,h]
attribute [simp] mY
def Yzk(s:zd)(tG:V):List V:=[.str s.name,.str s.op,.str s.Jt,tG,.int .i64 s.cost]
def Gr(h:T O)(N:Nat)(v:V)(g:List zd):Prop:=∃l:List (List V),Sn 5 h N v l/\l.length=g.length/\∀(j:Nat) (s:zd),g[j]?=some s->∃tG,l[j]?=some (Yzk s tG)/\Sl h N tG (strs s.nh)
def Gr.ad{h':T O}{N':Nat}{g:List zd}(s:Gr h N v g)(k:ab h N h' N'):Gr h' N' v g:=by obtain⟨l,h1,h2,h3⟩:=s;refine⟨l,h1.ad k,h2,fun j s hs=>?_⟩;obtain⟨tG,h4,h5⟩:=h3 j s hs;exact⟨tG,h4,h5.ad k⟩
def Gr.at{g:List zd}(s:Gr h N v g){j:Nat}{x:zd}(hj:g[j]?=some x):∃i o c e rw tG,yJ v=some (i,o)/\i<N/\h.get i=some (.cells c e rw)/\aP c (o+j*5) 5=some (Yzk x tG)/\Sl h N tG (strs x.nh):=by obtain⟨l,h1,h2,h3⟩:=s;obtain⟨tG,h4,h5⟩:=h3 j x hj;obtain⟨i,o,c,e,rw,q1,q2,q3,q4⟩:=h1.at h4;exact⟨i,o,c,e,rw,tG,q1,q2,q3,q4,h5⟩
def Gr.slice{g:List zd}{w:List Nat}(s:Gr h N v g){lo hi:Nat}(h1:lo<=hi)(h2:hi<=g.length)(x y:Option V)(hx:x=some (.int .i64 lo)\/x=none/\lo=0)(hy:y=some (.int .i64 hi)\/y=none/\hi=g.length):
  ∃v',oz ⟨h,N,w⟩ 5 (some v) (some x) (some y) (some none)=some (v',⟨h,N,w⟩)/\Gr h N v' ((g.take hi).drop lo):=by
 obtain⟨l,g1,g2,g3⟩:=s;obtain⟨v',e1,e2⟩:=Zux (z:=5) (w:=w) (by decide) g1 h1 (by omega) x y hx (by rw[g2];exact hy);refine⟨v',e1,(l.take hi).drop lo,e2,by simp[g2],fun j s hs=>?_⟩;have hj:lo+j<hi:=by apply vC;intro hc;rw[fJ,jZ,ak (by omega)]at hs;cases hs
 rw[fJ,jZ,av hj]at hs;obtain⟨tG,q1,q2⟩:=g3 _ s hs;exact⟨tG,by rw[fJ,jZ,av hj];exact q1,q2⟩
def Yzl{a b c d e:V}:aP [a,b,c,d,e] 0 5=some [a,b,c,d,e]:=rfl
def Yzm{a b:V}:aP [a,b] 0 2=some [a,b]:=rfl
attribute [simp] Yzl Yzm
def Yto(st:St)(zero:V)(ok:Bool):Option (Option (Nat×V))->Option (V×St)
 |some (some (_,v))=>some (if ok then .aX [v,.bool true] else v,st)
 |some none=>some (if ok then .aX [zero,.bool false] else zero,st)
 |none=>none
def T5(st:St)(kd:mZ)(zero:V)(ok:Bool)(k:V):Option O->Option (V×St)
 |some (.map es)=>Yto st zero ok (fK kd k es 0)
 |_=>none
def Ytp(st:St)(kd:mZ)(zero:V)(ok:Bool):Option V->Option V->Option (V×St)
 |some (.map i),some k=>if kd.fits k=true then T5 st kd zero ok k (st.h.get i) else none
 |some .bV,some k=>if kd.fits k=true then Yto st zero ok (some none) else none
 |_,_=>none
def Zxz{kd:mZ}{zero:V}{m k:Src}{ok:Bool}{call:cO}{r:T V}{st:St}:Jk kd zero m k ok call r st=Ytp st kd zero ok (m.ev r) (k.ev r):=by
 unfold Jk Ytp;rcases m.ev r with _|m
 ·rfl
 rcases k.ev r with _|k
 ·cases m<;>rfl
 cases m<;>simp only[]<;>(try (by_cases hf:kd.fits k=true<;>simp[hf]))<;>try rfl
 rename_i i;rcases st.h.get i with _|o
 ·rfl
 cases o<;>simp only[T5];rename_i es;rcases fK kd k es 0 with _|_|⟨_,_⟩<;>rfl
def Yh0{st:St}{zero:V}{ok:Bool}{s:aG}:Ytp st .str zero ok (some (.map i)) (some (.str s))=T5 st .str zero ok (.str s) (st.h.get i):=rfl
def Zym{st:St}{kd:mZ}{zero:V}{ok:Bool}{es:List (V×V)}:T5 st kd zero ok k (some (.map es))=Yto st zero ok (fK kd k es 0):=rfl
attribute [simp] Zxz Yh0 Zym LU
def Ys6(st:St)(i:Nat)(k v:V)(es:List (V×V)):Option (Option (Nat×V))->Option (V×St)
 |some (some (j,_))=>some (.aX [],st.write i (.map (es.set j (k,v))))
 |some none=>some (.aX [],st.write i (.map (es++[(k,v)])))
 |none=>none
def T6(st:St)(kd:mZ)(i:Nat)(k v:V):Option O->Option (V×St)
 |some (.map es)=>Ys6 st i k v es (fK kd k es 0)
 |_=>none
def BM(st:St)(kd:mZ):Option V->Option V->Option V->Option (V×St)
 |some (.map i),some k,some v=>if kd.fits k=true then T6 st kd i k v (st.h.get i) else none
 |_,_,_=>none
def Zxy{kd:mZ}{m k v:Src}{call:cO}{r:T V}{st:St}:Gx kd m k v call r st=BM st kd (m.ev r) (k.ev r) (v.ev r):=by
 unfold Gx BM;rcases m.ev r with _|m
 ·rfl
 rcases k.ev r with _|k
 ·cases m<;>rfl
 rcases v.ev r with _|v
 ·cases m<;>rfl
 cases m with
 |map i=>
  simp only[];by_cases hf:kd.fits k=true
  ·simp only[hf,if_true];rcases st.h.get i with _|o
   ·rfl
   cases o<;>simp only[T6];rename_i es;rcases fK kd k es 0 with _|_|⟨_,_⟩<;>rfl
  simp[hf]
 |_=>rfl
def Yhd{st:St}{s:aG}:BM st .str (some (.map i)) (some (.str s)) (some v)=T6 st .str i (.str s) v (st.h.get i):=rfl
def Zx8{st:St}{kd:mZ}{es:List (V×V)}:T6 st kd i k v (some (.map es))=Ys6 st i k v es (fK kd k es 0):=rfl
def Yc1{st:St}{es:List (V×V)}:Ys6 st i k v es (some none)=some (.aX [],st.write i (.map (es++[(k,v)]))):=rfl
attribute [simp] Zxy Yhd Zx8 Yc1
def ab.then{h h1 h2:T O}{n n1 n2:Nat}(a:ab h n h1 n1)(b:ab h1 n h2 n2):ab h n h2 n2:=⟨b.le,fun i hi=>(b.get i hi).trans (a.get i hi)⟩
def rz(l:List Int):List (List V):=l.map fun x=>[.int .i64 x]
def EO(l:List Int):(rz l).length=l.length:=by simp[rz]
def Zm9:∀(l:List Int),(rz l).flatten=dI l
 |[]=>rfl
 |x::l=>by
  have:=Zm9 l
  simp only[rz,pX,List.flatten_cons,dI]at this ⊢
  rw[this];rfl
def GC(l:List Int)(x:Int):rz (l++[x])=rz l++[[.int .i64 x]]:=by simp[rz]
def Own.sl{e:TypeId}{N0:Nat}{h:T O}{N:Nat}{v:V}{l:List Int}(s:Own 1 e N0 h N v (rz l)):Sl h N v (dI l):=by
 have:=s.sn;have e1:rz l=(dI l).map fun x=>[x]:=by simp[rz,dI]
 rw[e1]at this;exact Sn.one.1 this
structure Xbh (g:List zd):Prop where
 le:g.length<=16
 name:∀(j:Nat) (s:zd),g[j]?=some s->j<=pos (g.take j) s.name
 tG:∀(j:Nat) (s:zd),g[j]?=some s->∀n∈s.nh,pos (g.take j) n<j
 cost:∀s∈g,1<=s.cost/\s.cost<=1000
variable {N:Nat} {h:T O}
def Cp(h:T O)(N:Nat)(v:V)(l:List V):Prop:=∃j c,v=.slice j 0 l.length c 1/\j<N/\h.get j=some (.cells l 9 true)/\∀k,c=some k->l.length<=k
def Cp.ad{h':T O}{N':Nat}{v:V}{l:List V}(s:Cp h N v l)(k:ab h N h' N'):Cp h' N' v l:=by obtain⟨j,c,h1,h2,h3,h4⟩:=s;exact⟨j,c,h1,fg h2 k.le,(k.get j h2).trans h3,h4⟩
def Ywn{w:List Nat}{v:V}{l:List V}(s:Sl h N v l):fQ ⟨h,N,w⟩ 1 v=some (l.length,l):=by
 rcases s with⟨rfl,rfl|rfl⟩|⟨i,o,cp,c,e,rw,rfl,h2,h3,h4,h5,h6⟩
 ·rfl
 ·rfl
 simp only[fQ,if_true,St.row,h3,AH];have:aP c o l.length=some l:=by
  unfold aP;rw[av h5];congr 1;apply nN;intro j;rw[jZ];by_cases hj:j<l.length
  ·rw[av hj,fJ];exact h4 j hj
  rw[ak hj,fy (by omega)]
 rw[this]
def PgA(h:T O)(N0 N:Nat)(u:V)(g:List zd)(k:Nat):Prop:=∃l:List (List V),Own 5 126 N0 h N u l/\l.length=k/\∀(j:Nat) (s:zd),j<k->g[j]?=some s->∃tG,l[j]?=some (Yzk s tG)/\Cp h N tG (strs s.nh)
def PgA.ad{h':T O}{N0 N':Nat}{u:V}{g:List zd}{k:Nat}(s:PgA h N0 N u g k)(kk:ab h N h' N'):PgA h' N0 N' u g k:=by obtain⟨l,h1,h2,h3⟩:=s;refine⟨l,h1.ad kk,h2,fun j s hj hs=>?_⟩;obtain⟨tG,h4,h5⟩:=h3 j s hj hs;exact⟨tG,h4,h5.ad kk⟩
def Sl.setInt{h:T O}{N:Nat}{v:V}{l:List Int}{i:Nat}{c0 c1:List V}{e0 e1:TypeId}{w0 w1:Bool}(s:Sl h N v (dI l))(hr:h.get i=some (.cells c0 e0 w0))(hn:∀x∈c0,∀k n,x≠.int k n)(hc:c1.length=c0.length):Sl (h.set i (.cells c1 e1 w1)) N v (dI l):=by
 rcases s with s|⟨j,o,cp,c,e,rw,h1,h2,h3,h4,h5,h6⟩
 ·exact .inl s
 by_cases hj:j=i
 ·subst hj;rw[hr]at h3;simp only[au,O.cells.injEq]at h3;obtain⟨rfl,rfl,rfl⟩:=h3;cases l with
  |nil=>exact .inr ⟨j,o,cp,c1,e1,w1,h1,h2,by rw[T.ag];simp,fun k hk=>by simp[dI]at hk,by rw[hc];exact h5,h6⟩
  |cons d l=> have:=h4 0 (by simp[dI]);simp only[dI,pX,De]at this;exact absurd rfl (hn _ (cy this) .i64 d)
 exact .inr ⟨j,o,cp,c,e,rw,h1,h2,by rw[T.ag,ak hj];exact h3,h4,h5,h6⟩
open Go Go.Proofs
set_option maxRecDepth 1000000
abbrev A.F(n:Nat):=Am Tryz.prog n
def mv(a b:Nat):dP:=⟨some a,.vD (.tmp b),none⟩
def mc(a:Nat)(n:Int):dP:=⟨some a,.vD (.const (.int .i64 n)),none⟩
def ia(a z x i:Nat):dP:=⟨some a,.jf z (.tmp x) (.tmp i),none⟩
def ld(a x:Nat):dP:=⟨some a,.load none (.tmp x),none⟩
def xt(a x i:Nat):dP:=⟨some a,.extract (.tmp x) i,none⟩
def bi(a:Nat)(o:BinOp)(x y:Nat):dP:=⟨some a,.bin o (.node []) false (.tmp x) (.tmp y),none⟩
def bc(a:Nat)(o:BinOp)(x:Nat)(n:Int):dP:=⟨some a,.bin o (.node []) false (.tmp x) (.const (.int .i64 n)),none⟩
def ln(a x:Nat):dP:=⟨some a,.len 1 (.tmp x),none⟩
def so(a x:Nat):dP:=⟨none,.store 1 (.tmp a) (.tmp x),none⟩
def c1(a f x:Nat):dP:=⟨some a,.call (.const (.func f [] [])) [.tmp x],none⟩
def c2(a f x y:Nat):dP:=⟨some a,.call (.const (.func f [] [])) [.tmp x,.tmp y],none⟩
def lN(a n x:Nat):dP:=⟨some a,.load (some n) (.tmp x),none⟩
def fa(a o x:Nat):dP:=⟨some a,.vE o (.tmp x),none⟩
def pf(a x y:Nat):dP:=⟨some a,.pick (.tmp x) (.tmp y) (.const (.bool false)),none⟩
def pt(a x y:Nat):dP:=⟨some a,.pick (.tmp x) (.const (.bool true)) (.tmp y),none⟩
def ei(a x:Nat)(n:Int):dP:=⟨some a,.bin .eql (.fF .int) true (.tmp x) (.const (.int .i64 n)),none⟩
def ni(a x:Nat)(n:Int):dP:=⟨some a,.bin .neq (.fF .int) true (.tmp x) (.const (.int .i64 n)),none⟩
def mN(a:Nat):dP:=⟨some a,.vD (.const .aa),none⟩
def bx(a e x:Nat):dP:=⟨some a,.box e (.tmp x),none⟩
def mg(a x g:Nat):dP:=⟨some a,.vD (.tmp x),some (g,true)⟩
def mh(a x g:Nat):dP:=⟨some a,.vD (.tmp x),some (g,false)⟩
def sr(l:List dP)(c:cF):cF:=.seq (.gw l) c
def cd(x:Nat)(a b:cF):cF:=.cond (.tmp x) a b
def ge(a:Nat)(o:iz):dP:=⟨some a,o,none⟩
def gn(o:iz):dP:=⟨none,o,none⟩
def gy(a g:Nat)(o:iz):dP:=⟨some a,o,some (g,true)⟩
def gz(a g:Nat)(o:iz):dP:=⟨some a,o,some (g,false)⟩
abbrev tq(x:Nat):Src:=.tmp x
abbrev kq(n:Int):Src:=.const (.int .i64 n)
abbrev fq(f:Nat):Src:=.const (.func f [] [])
attribute [simp] De Gh mv mc ia ld xt bi bc ln so c1 c2 lN fa pf pt ei ni mN bx mg mh sr cd ge gn gy gz
def A.OF:O:=.cells (([1,10,100,1000,10000,100000,1000000,10000000,100000000,1000000000,10000000000,100000000000,1000000000000,10000000000000,100000000000000,1000000000000000,10000000000000000,100000000000000000,1000000000000000000,10000000000000000000]:List Int).map fun z=>.int .u64 z) 274 false
def A.TB:List (Nat×O):=[(3,A.OF)]
def A.C:Cx:=⟨Md A.TB [⟨9,[],.bool true⟩],Am Tryz.prog⟩
def A.t:A.C.ec=Am Tryz.prog:=rfl
def A.x0{f:Nat}{a c args:List V}{st:St}(h:Nat.beq 9 f=false):A.C.x (.func f a c) args st=none:=by
 show Md A.TB [⟨9,[],.bool true⟩] (.func f a c) args st=none;unfold Md;split
 ·rename_i heq;simp only[V.func.injEq]at heq;obtain⟨rfl,rfl,rfl⟩:=heq;simp only[Me,h]
 rfl
def Xaz(P:Program)(fn:Func):cF:=match fn.body with
 |some c=>jC P c
 |none=>.skip
def GD:cF->List cF
 |.seq a b=>GD a++GD b
 |.cond _ a b=>GD a++GD b
 |.block _ a=>GD a
 |.scope a=>GD a
 |.loop a=>a::GD a
 |_=>[]
def EP:List cF->cF->cF×List cF
 |ls,.seq a b=>match EP ls a with
  |(a,ls)=>match EP ls b with
   |(b,ls)=>(.seq a b,ls)
 |ls,.cond s a b=>match EP ls a with
  |(a,ls)=>match EP ls b with
   |(b,ls)=>(.cond s a b,ls)
 |ls,.block k a=>match EP ls a with
  |(a,ls)=>(.block k a,ls)
 |ls,.scope a=>match EP ls a with
  |(a,ls)=>(.scope a,ls)
 |l::ls,.loop _=>(.loop l,ls)
 |ls,c=>(c,ls)
@[simp] def A.q (f:Func) {b:cF} (_h:Xaz Tryz.prog f=b:=by conv=>lhs;cbv):cF:=b
@[simp] def A.ql (w:cF) (i:Nat) (ls:List cF) {b:cF} (_h:(EP ls ((GD w)[i]?.getD .skip)).1=b:=by conv=>lhs;cbv):cF:=b
@[simp] def A.qb (w:cF) (ls:List cF) {b:cF} (_h:(EP ls w).1=b:=by conv=>lhs;cbv):cF:=b
def Ju:List Nat->cF->cF
 |0::p,.seq a _=>Ju p a
 |_::p,.seq _ b=>Ju p b
 |0::p,.cond _ a _=>Ju p a
 |_::p,.cond _ _ b=>Ju p b
 |_::p,.block _ a=>Ju p a
 |_::p,.scope a=>Ju p a
 |_,c=>c
def Jv(x:cF):List Nat->cF->cF
 |0::p,.seq a b=>.seq (Jv x p a) b
 |_::p,.seq a b=>.seq a (Jv x p b)
 |0::p,.cond s a b=>.cond s (Jv x p a) b
 |_::p,.cond s a b=>.cond s a (Jv x p b)
 |_::p,.block k a=>.block k (Jv x p a)
 |_::p,.scope a=>.scope (Jv x p a)
 |_,_=>x
def Xbc:List (List Nat×cF)->cF->cF
 |[],w=>w
 |(p,x)::l,w=>Xbc l (Jv x p w)
@[simp] def A.qt (w:cF) (ls:List cF) (cs:List (List Nat×cF)) (p:List Nat) {b:cF} (_h:Ju p (Xbc cs (EP ls w).1)=b:=by conv=>lhs;cbv):cF:=b
def A.kk{n k:Nat}{res:List F3}{b:cF}(hc:Am Tryz.prog n=some ⟨k,res,b⟩)(hx:Nat.beq 9 n=false){K:List Kf}{Q:Rs->Prop}{f c args:List V}{st:St}(h:(f++args++c).length<=k):bE A.C K (uR (A.C.call (.func n f c) args st)) Q↔bE A.C (.fin res st::K) (fl (A.C.code none b ⟨AN .nil 0 (f++args++c),k,[]⟩ ⟨st.h,st.n,[]⟩)) Q:=Yls (A.x0 (f:=n) hx) (mf:=⟨k,res,b⟩) (by rw[A.t];exact hc) h
def A.known{h:T O}{N:Nat}{w:List Nat}(hp:h.get 3=some A.OF):A.C.call (.func 9 [] []) [] ⟨h,N,w⟩=some (.bool true,⟨h,N,w⟩):=by
 have hq:Mf (h.get 3) A.OF=true:=by rw[hp];decide+kernel
 have hi:GF ⟨h,N,w⟩ A.TB=true:=by show (match Mf (h.get 3) A.OF with|true=>true|false=>false)=true;rw[hq]
 have hx:A.C.x (.func 9 [] []) [] ⟨h,N,w⟩=some (.bool true,⟨h,N,w⟩):=by show (match GF ⟨h,N,w⟩ A.TB with|true=>some (V.bool true,(⟨h,N,w⟩:St))|false=>none)=_;rw[hi]
 rw[Cx.od];unfold uK;rw[hx]
end
end Go.Mx
