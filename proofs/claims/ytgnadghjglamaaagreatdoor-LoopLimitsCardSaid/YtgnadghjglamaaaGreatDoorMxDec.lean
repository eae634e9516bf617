/-Digits to the base 10^9, as integers-/
import Derived.Test.YtgnadghjglamaaaGreatDoorMxWord
import Derived.Test.YtgnadghjglamaaaGreatDoorProg
set_option linter.all false
namespace Go.Mx
noncomputable section
open Go
variable {d:Int} {j k n:Nat} {l:List Int}
def vI:List Int->Int
 |[]=>0
 |d::l=>d+1000000000*vI l
def pI(k:Nat):Int:=1000000000^k
def qD(k:Nat):pI (k+1)=1000000000*pI k:=by unfold pI;rw[Int.pow_succ,Int.mul_comm]
def Yjj:pI 0=1:=rfl
def CH(k:Nat):0<pI k:=by unfold pI;exact Int.pow_pos (by decide)
def Ty(i j:Nat):pI (i+j)=pI i*pI j:=by unfold pI;exact Int.pow_add ..
def Zmc:∀(l m:List Int),vI (l++m)=vI l+pI l.length*vI m
 |[],m=>by simp[vI,pI]
 |d::l,m=>by
  simp only[zf,vI,Zmc l m,ak,qD]
  grind
def CC(l:List Int)(d:Int):vI (l++[d])=vI l+pI l.length*d:=by simp[Zmc,vI]
def Zpa(n:Nat):vI (List.replicate n 0)=0:=by
 induction n with
 |zero=>rfl
 |succ n ih=>simp[List.replicate_succ,vI,ih]
def yS{α:Type}{l:List α}{d:α}(h:l[k]?=some d):k<l.length:=by
 apply tV;intro hc;rw[mb hc]at h;cases h
def yy(h:l[k]?=some d):vI (l.take (k+1))=vI (l.take k)+pI k*d:=by
 have hk:=yS h
 rw[HY,h]
 simp only[Option.toList]
 rw[CC,lW,pA (by omega)]
def Py(l:List Int)(k:Nat)(hk:k<=l.length):vI l=vI (l.take k)+pI k*vI (l.drop k):=by
 have:=Zmc (l.take k) (l.drop k)
 rw[A6,lW,pA hk]at this
 exact this
def CI:∀{l:List Int} {k:Nat} {c:Int},l[k]?=some c->∀(v:Int),vI (l.set k v)=vI l+pI k*(v-c)
 |[],k,c,h,v=>by simp at h
 |d::l,0,c,h,v=>by
  simp at h;subst h
  simp only[List.set_cons_zero,vI,Yjj];omega
 |d::l,k+1,c,h,v=>by
  have:=CI (l:=l) (k:=k) (c:=c) (by simpa using h) v
  simp only[List.set_cons_succ,vI,this,qD]
  grind
def Di(l:List Int):Prop:=∀d∈l,0<=d/\d<1000000000
def Di.get(h:Di l){k:Nat}{d:Int}(hd:l[k]?=some d):0<=d/\d<1000000000:=h d (eZ hd)
def Di.set(h:Di l){k:Nat}{v:Int}(h0:0<=v)(h1:v<1000000000):Di (l.set k v):=fun d hd=>by
 rcases Dh hd with hd|rfl
 ·exact h d hd
 ·exact⟨h0,h1⟩
def Di.app{m:List Int}(h:Di l)(h':Di m):Di (l++m):=fun d hd=>by
 rcases l7.1 hd with hd|hd
 ·exact h d hd
 ·exact h' d hd
def Di.one{v:Int}(h0:0<=v)(h1:v<1000000000):Di [v]:=fun d hd=>by simp at hd;subst hd;exact⟨h0,h1⟩
def Di.nil:Di []:=fun d hd=>by simp at hd
def Di.Ej(n:Nat):Di (List.replicate n 0):=fun d hd=>by rw[LH]at hd;rw[hd.2];decide
def Di.take(h:Di l)(k:Nat):Di (l.take k):=fun d hd=>h d (B0 hd)
def Di.drop(h:Di l)(k:Nat):Di (l.drop k):=fun d hd=>h d (List.mem_of_mem_drop hd)
def vD:∀{l:List Int},Di l->0<=vI l
 |[],_=>Int.le_refl _
 |d::l,h=>by
  have h1:=h d oM
  have h2:=vD (l:=l) fun e he=>h e (mD _ he)
  simp only[vI];omega
def vz:∀{l:List Int},Di l->vI l<pI l.length
 |[],_=>by decide
 |d::l,h=>by
  have h1:=h d oM
  have h2:=vz (l:=l) fun e he=>h e (mD _ he)
  simp only[vI,ak,qD];omega
def zI(l:List Int)(j:Nat):Int:=l[j]?.getD 0
def Yih(h:l[j]?=some d):zI l j=d:=by simp[zI,h]
def Zsh(h:l.length<=j):zI l j=0:=by simp[zI,h]
def Yii{l:List Int}(h:Di l)(j:Nat):0<=zI l j/\zI l j<1000000000:=by
 unfold zI
 cases hj:l[j]? with
 |none=>simp
 |some d=>exact h.get hj
def Zmb{l:List Int}{k:Nat}:vI (l.take (k+1))=vI (l.take k)+pI k*zI l k:=by
 unfold zI
 cases h:l[k]? with
 |some d=>exact yy h
 |none=>
  have hk:l.length<=k:=by
   apply yl;intro hc;rw[eA hc]at h;cases h
  rw[iP (by omega),iP hk];simp
def qk{α:Type}{l:List α}{d:α}(h:l[k]?=some d):l.drop k=d::l.drop (k+1):=by
 obtain⟨hk,hs⟩:=A3.1 h
 rw[<-hs];exact IT hk
def dI(l:List Int):List V:=l.map fun n=>.int .i64 n
def g_(l:List Int):(dI l).length=l.length:=by simp[dI]
def gQ{n:Int}(h:l[j]?=some n):(dI l)[j]?=some (.int .i64 n):=by simp[dI,h]
attribute [simp] g_
def Br{v:Int}(h:k<l.length):ag (dI l) k [.int .i64 v]=dI (l.set k v):=by
 unfold ag dI
 apply qG
 intro j
 simp only[zy,mL,List.getElem?_set]
 rw[sQ,List.getElem?_append,lW,Yxu]
 by_cases h1:j<k
 ·rw[aQ (by omega),lX,aQ h1,mL,aA (by omega)]
 ·rw[aA (by omega)]
  by_cases h2:j=k
  ·subst h2
   rw[show j-min j l.length=0 by omega,aQ rfl,aQ h];rfl
  ·rw[show j-min k l.length=(j-k-1)+1 by omega,aA (by omega)]
   simp only[SL,DI,ix,mL]
   rw[show k+1+(j-k-1)=j by omega]
def Zp2:dw [.int .i64 0] n=dI (List.replicate n 0):=by rw[Yg9];simp[dI]
def qq:List Int->List Int
 |[]=>[]
 |d::l=>match qq l with
  |[]=>if d=0 then [] else [d]
  |t=>d::t
def Zkr:∀(l:List Int),qq (l++[0])=qq l
 |[]=>rfl
 |d::l=>by simp only[zf,qq,Zkr l]
def Zoe{d:Int}(hd:d≠0):∀(l:List Int),qq (l++[d])=l++[d]
 |[]=>by simp[qq,hd]
 |e::l=>by
  simp only[zf,qq,Zoe hd l]
  cases l<;>rfl
def Zqk:∀(l:List Int),(qq l).length<=l.length
 |[]=>aZ _
 |d::l=>by
  have ih:=Zqk l
  simp only[qq]
  split
  ·split<;>simp
  ·simp only[ak];omega
def ds(n:Nat):List Int:=if h:n=0 then [] else ((n%1000000000:Nat):Int)::ds (n/1000000000)
termination_by n
decreasing_by exact B7 (by omega) (by decide)
def sC:ds 0=[]:=by rw[ds];simp
def Aa(h:n≠0):ds n=((n%1000000000:Nat):Int)::ds (n/1000000000):=by rw[ds];simp[h]
def gI:∀(n:Nat),vI (ds n)=n:=by
 intro n
 induction n using Nat.strongRecOn with
 |_ n ih=>
  by_cases h:n=0
  ·subst h;rw[sC];rfl
  ·rw[Aa h]
   simp only[vI]
   rw[ih (n/1000000000) (B7 (by omega) (by decide))]
   omega
def gm(n:Nat):Di (ds n):=by
 induction n using Nat.strongRecOn with
 |_ n ih=>
  by_cases h:n=0
  ·subst h;rw[sC];exact Di.nil
  ·rw[Aa h]
   intro d hd
   rcases ku.1 hd with rfl|hd
   ·omega
   ·exact ih (n/1000000000) (B7 (by omega) (by decide)) d hd
def Zpb:∀{l:List Int},Di l->qq l=ds (vI l).toNat
 |[],_=>by simp[qq,vI,sC]
 |d::l,h=>by
  have hl:Di l:=fun e he=>h e (mD _ he)
  have ih:=Zpb hl
  have hd:=h d oM
  have hn:=vD hl
  simp only[qq,vI,ih]
  by_cases h0:vI l=0
  ·rw[h0]
   simp only[Int.toNat_zero,sC,Int.mul_zero,Int.add_zero]
   by_cases kv:d=0
   ·simp[kv,sC]
   ·rw[Aa (by omega),xA (by omega),zu (by omega),sC];simp[kv];omega
  ·have h3:(d+1000000000*vI l).toNat≠0:=by omega
   rw[Aa h3]
   have h1:(d+1000000000*vI l).toNat/1000000000=(vI l).toNat:=by omega
   have h2:(((d+1000000000*vI l).toNat%1000000000:Nat):Int)=d:=by omega
   rw[h1,h2]
   split
   ·rename_i hc;rw[Aa (by omega)]at hc;cases hc
   ·rfl
def HZ(h:Di l){n:Nat}(hn:vI l=n):qq l=ds n:=by rw[Zpb h,hn];rfl
def Yky(n:Nat):qq (ds n)=ds n:=HZ (gm n) (gI n)
def BG:ds n=[]↔n=0:=by
 constructor
 ·intro h
  by_cases h0:n=0
  ·exact h0
  ·rw[Aa h0]at h;cases h
 ·intro h;rw[h,sC]
def Ykz(h:n≠0):∃d,(ds n)[(ds n).length-1]?=some d/\0<d:=by
 have bF:ds n≠[]:=fun hc=>h (BG.1 hc)
 obtain⟨l,d,hd⟩:∃l d,ds n=l++[d]:=⟨(ds n).dropLast,(ds n).getLast bF,(Yvl bF).symm⟩
 refine⟨d,by rw[hd,jb,zy];simp,?_⟩
 have h1:=gm n d (by rw[hd];exact List.mem_append_right _ oM)
 have:d≠0:=fun h0=>by
  have h2:=Yky n
  rw[hd,h0,Zkr]at h2
  have:=Zqk l
  rw[h2]at this;simp at this;omega
 omega
def Mk{n k:Nat}(h:n<1000000000^k):(ds n).length<=k:=by
 induction k generalizing n with
 |zero=>
  have:n=0:=by simpa using h
  rw[this,sC];simp
 |succ k ih=>
  by_cases h0:n=0
  ·rw[h0,sC];simp
  ·rw[Aa h0]
   have:=ih (n:=n/1000000000) ((pK (by decide)).2 (by rw[<-fO];exact h))
   simp only[ak];omega
def Dn(h:T O)(N:Nat)(v:V)(n:Nat):Prop:=Sl h N v (dI (ds n))
def Dn.ah{h h':T O}{N N':Nat}{v:V}(s:Dn h N v n)(k:ae h N h' N'):Dn h' N' v n:=Sl.ah s k
variable {w:List Int}
def Zt3{P u1 u2 U' v1 v2 V' t r:Int}(hP:0<P)(CJ:0<=U')(fD:0<=u2)(zZ:0<=u1)(oC:0<v1)(jQ:0<=v2)(wQ:0<=V')(CK:V'<P)(h0:0<=t)(ht:t<=1000000000)(hinv:u1=t*v1+r)(hc:t*v2<=r*1000000000+u2):
  (t-1)*(V'+P*(v2+1000000000*v1))<=U'+P*(u2+1000000000*u1):=by
 by_cases oW:t=0
 ·subst oW
  have h1:0<=P*(v2+1000000000*v1):=wC (by omega) (by omega)
  have h2:0<=P*(u2+1000000000*u1):=wC (by omega) (by omega)
  omega
 ·have h1:(t-1)*V'<=1000000000*P:=by
   have:(t-1)*V'<=1000000000*V':=DG (by omega) wQ
   omega
  have h2:P*1<=P*v1:=qR (by omega) (by omega)
  have h3:P*(t*v2)<=P*(r*1000000000+u2):=qR hc (by omega)
  have h4:0<=P*v2:=wC (by omega) jQ
  have h5:(t-1)*(V'+P*(v2+1000000000*v1))=(t-1)*V'+P*(t*v2)-P*v2+1000000000*(P*(t*v1))-1000000000*(P*v1):=by grind
  have h6:U'+P*(u2+1000000000*u1)=U'+P*(r*1000000000+u2)+1000000000*(P*(t*v1)):=by subst hinv;grind
  omega
def Ykh{P u1 u2 U' v1 v2 V' t r:Int}(hP:0<P)(CJ:U'<P)(wQ:0<=V')(h0:0<=t)(hinv:u1=t*v1+r)(hc:r*1000000000+u2<t*v2):
  U'+P*(u2+1000000000*u1)<t*(V'+P*(v2+1000000000*v1)):=by
 have h1:0<=t*V':=wC h0 wQ
 have h3:P*(r*1000000000+u2+1)<=P*(t*v2):=qR (by omega) (by omega)
 have h5:t*(V'+P*(v2+1000000000*v1))=t*V'+P*(t*v2)+1000000000*(P*(t*v1)):=by grind
 have h6:U'+P*(u2+1000000000*u1)=U'+P*(r*1000000000+u2+1)-P+1000000000*(P*(t*v1)):=by subst hinv;grind
 omega
def Ya4{x:Int}(h1:1<=x)(h2:x<1000000000):500000000<=x*(1000000000/(x+1)):=by
 have hd:(x+1)*(1000000000/(x+1))+1000000000%(x+1)=1000000000:=DF ..
 have hr:1000000000%(x+1)<x+1:=DL _ (by omega)
 have kR:0<=1000000000%(x+1):=DK _ (by omega)
 generalize 1000000000/(x+1)=d at*
 generalize 1000000000%(x+1)=r at*
 have e:(x+1)*d=x*d+d:=by grind
 apply DM
 intro hc
 by_cases hx:x<=500000000
 ·have h3:500000000-x+1<=d:=by omega
  have h4:x*(500000000-x+1)<=x*d:=qR h3 (by omega)
  have h5:0<=(x-1)*(500000000-x):=wC (by omega) (by omega)
  have h6:(x-1)*(500000000-x)=x*(500000000-x+1)-500000000:=by grind
  omega
 ·have h3:1<=d:=by
   apply DM;intro h
   have:d<=0:=by omega
   have:(x+1)*d<=0:=Int.mul_nonpos_of_nonneg_of_nonpos (by omega) this
   omega
  have h4:x*1<=x*d:=qR h3 (by omega)
  omega
def Zgv{m:Nat}(h:∀t,m<=t->t<w.length->w[t]?=some 0):vI w=vI (w.take m):=by
 by_cases hm:m<=w.length
 ·have h1:=Py w m hm
  have h2:w.drop m=List.replicate (w.length-m) 0:=by
   apply qG
   intro t
   rw[ix,List.getElem?_replicate]
   by_cases ht:t<w.length-m
   ·rw[aQ ht];exact h _ (by omega) (by omega)
   ·rw[aA ht];exact mb (by omega)
  rw[h2,Zpa]at h1
  omega
 ·rw[iP (by omega)]
def Yik{k:Nat}{a c d:Int}(ha:w[k]?=some a)(hc:w[k+1]?=some c)(hd:w[k+2]?=some d)(hz:∀t,k+3<=t->t<w.length->w[t]?=some 0):
  vI w=vI (w.take k)+pI k*(a+1000000000*(d*1000000000+c)):=by
 rw[Zgv hz,show k+3=(k+2)+1 by omega,yy hd,yy hc,yy ha,qD (k+1),qD k]
 grind
def Yil{k:Nat}{a c:Int}(ha:w[k]?=some a)(hc:w[k+1]?=some c)(hl:w.length=k+2):
  vI w=vI (w.take k)+pI k*(a+1000000000*c):=by
 have h1:vI w=vI (w.take (k+1+1)):=by rw[iP (by omega)]
 rw[h1,yy hc,yy ha,qD k]
 grind
def Yeh{n:Nat}{t:Int}(hd:Di (w.take n))(ht:w[n]?=some t)(hz:∀j,n<j->j<w.length->w[j]?=some 0)(h1:vI w<pI n):(0<=vI w->t=0)/\(vI w<0->t<0):=by
 have hl:=yS ht
 have h2:vI w=vI (w.take n)+pI n*t:=by
  rw[Zgv (m:=n+1) (fun j h1 h2=>hz j (by omega) h2),yy ht]
 have h3:=vD hd
 have h4:=vz hd
 rw[lW,pA (by omega)]at h4
 have h5:=CH n
 constructor
 ·intro h
  have h6:¬t<= -1:=fun hc=>by
   have:=qR hc (tX h5)
   omega
  have h7:¬1<=t:=fun hc=>by
   have:=qR hc (tX h5)
   omega
  omega
 ·intro h
  apply LJ
  intro hc
  have:=wC (tX h5) hc
  omega
variable {N k:Nat} {s:aU}
def Yqs:(N=N+1)=False:=eq_false (by omega)
def Yqj:(N+1=N)=False:=eq_false (by omega)
def Yra:(N+1<N)=False:=eq_false (by omega)
def Yqr:(N=N+1+1)=False:=eq_false (by omega)
def Yqi:(N+1+1=N)=False:=eq_false (by omega)
def Yq9:(N+1+1<N)=False:=eq_false (by omega)
def Yqq:(N=N+1+1+1)=False:=eq_false (by omega)
def Yqh:(N+1+1+1=N)=False:=eq_false (by omega)
def Yq8:(N+1+1+1<N)=False:=eq_false (by omega)
def Yqp:(N=N+1+1+1+1)=False:=eq_false (by omega)
def Yqg:(N+1+1+1+1=N)=False:=eq_false (by omega)
def Yq7:(N+1+1+1+1<N)=False:=eq_false (by omega)
def Yqo:(N=N+1+1+1+1+1)=False:=eq_false (by omega)
def Yqf:(N+1+1+1+1+1=N)=False:=eq_false (by omega)
def Yq6:(N+1+1+1+1+1<N)=False:=eq_false (by omega)
def Yqn:(N=N+1+1+1+1+1+1)=False:=eq_false (by omega)
def Yqe:(N+1+1+1+1+1+1=N)=False:=eq_false (by omega)
def Yq5:(N+1+1+1+1+1+1<N)=False:=eq_false (by omega)
def Yqm:(N=N+1+1+1+1+1+1+1)=False:=eq_false (by omega)
def Yqd:(N+1+1+1+1+1+1+1=N)=False:=eq_false (by omega)
def Yq4:(N+1+1+1+1+1+1+1<N)=False:=eq_false (by omega)
def Yql:(N=N+1+1+1+1+1+1+1+1)=False:=eq_false (by omega)
def Yqc:(N+1+1+1+1+1+1+1+1=N)=False:=eq_false (by omega)
def Yq3:(N+1+1+1+1+1+1+1+1<N)=False:=eq_false (by omega)
def Yqk:(N=N+1+1+1+1+1+1+1+1+1)=False:=eq_false (by omega)
def Yqb:(N+1+1+1+1+1+1+1+1+1=N)=False:=eq_false (by omega)
def Yq2:(N+1+1+1+1+1+1+1+1+1<N)=False:=eq_false (by omega)
def Yos:(N=N+1+1+1+1+1+1+1+1+1+1)=False:=eq_false (by omega)
def Yom:(N+1+1+1+1+1+1+1+1+1+1=N)=False:=eq_false (by omega)
def Yo4:(N+1+1+1+1+1+1+1+1+1+1<N)=False:=eq_false (by omega)
def Yor:(N=N+1+1+1+1+1+1+1+1+1+1+1)=False:=eq_false (by omega)
def Yol:(N+1+1+1+1+1+1+1+1+1+1+1=N)=False:=eq_false (by omega)
def Yo3:(N+1+1+1+1+1+1+1+1+1+1+1<N)=False:=eq_false (by omega)
def Yoq:(N=N+1+1+1+1+1+1+1+1+1+1+1+1)=False:=eq_false (by omega)
def Yok:(N+1+1+1+1+1+1+1+1+1+1+1+1=N)=False:=eq_false (by omega)
def Yo2:(N+1+1+1+1+1+1+1+1+1+1+1+1<N)=False:=eq_false (by omega)
def Yop:(N=N+1+1+1+1+1+1+1+1+1+1+1+1+1)=False:=eq_false (by omega)
def Yoj:(N+1+1+1+1+1+1+1+1+1+1+1+1+1=N)=False:=eq_false (by omega)
def Yo1:(N+1+1+1+1+1+1+1+1+1+1+1+1+1<N)=False:=eq_false (by omega)
def Yoo:(N=N+1+1+1+1+1+1+1+1+1+1+1+1+1+1)=False:=eq_false (by omega)
def Yoi:(N+1+1+1+1+1+1+1+1+1+1+1+1+1+1=N)=False:=eq_false (by omega)
def Yo0:(N+1+1+1+1+1+1+1+1+1+1+1+1+1+1<N)=False:=eq_false (by omega)
def Yon:(N=N+1+1+1+1+1+1+1+1+1+1+1+1+1+1+1)=False:=eq_false (by omega)
def Yoh:(N+1+1+1+1+1+1+1+1+1+1+1+1+1+1+1=N)=False:=eq_false (by omega)
def Yoz:(N+1+1+1+1+1+1+1+1+1+1+1+1+1+1+1<N)=False:=eq_false (by omega)
attribute [simp] Yqs Yqj Yra Yqr Yqi Yq9 Yqq Yqh Yq8 Yqp Yqg Yq7 Yqo Yqf Yq6 Yqn Yqe Yq5 Yqm Yqd Yq4 Yql Yqc Yq3 Yqk Yqb Yq2 Yos Yom Yo4 Yor Yol Yo3 Yoq Yok Yo2 Yop Yoj Yo1 Yoo Yoi Yo0 Yon Yoh Yoz
def Yq1:(N<N+1)=True:=eq_true (by omega)
def Yq0:(N<N+1+1)=True:=eq_true (by omega)
def Yqz:(N<N+1+1+1)=True:=eq_true (by omega)
def Yqy:(N<N+1+1+1+1)=True:=eq_true (by omega)
def Yqx:(N<N+1+1+1+1+1)=True:=eq_true (by omega)
def Yqw:(N<N+1+1+1+1+1+1)=True:=eq_true (by omega)
def Yqv:(N<N+1+1+1+1+1+1+1)=True:=eq_true (by omega)
def Yqu:(N<N+1+1+1+1+1+1+1+1)=True:=eq_true (by omega)
def Yqt:(N<N+1+1+1+1+1+1+1+1+1)=True:=eq_true (by omega)
def Yoy:(N<N+1+1+1+1+1+1+1+1+1+1)=True:=eq_true (by omega)
def Yox:(N<N+1+1+1+1+1+1+1+1+1+1+1)=True:=eq_true (by omega)
def Yow:(N<N+1+1+1+1+1+1+1+1+1+1+1+1)=True:=eq_true (by omega)
def Yov:(N<N+1+1+1+1+1+1+1+1+1+1+1+1+1)=True:=eq_true (by omega)
def You:(N<N+1+1+1+1+1+1+1+1+1+1+1+1+1+1)=True:=eq_true (by omega)
def Yot:(N<N+1+1+1+1+1+1+1+1+1+1+1+1+1+1+1)=True:=eq_true (by omega)
attribute [simp] Yq1 Yq0 Yqz Yqy Yqx Yqw Yqv Yqu Yqt Yoy Yox Yow Yov You Yot
def Call.eq{C:Cx}{g:V}{args:List V}{st aB:St}{u:V}(h:Call C g args st (fun v s=>v=u/\s=aB)):C.call g args st=some (u,aB):=by
 obtain⟨v,s,e,rfl,rfl⟩:=h.ex
 exact e
def Zpv{C:Cx}{K:List Kf}{Q:Rs->Prop}{fr:Fr}{st:St}{i j:Nat}(h:¬j=i):bH C (.block i::K) (some (.ex (.exit j) fr st)) Q↔bH C K (some (.ex (.exit j) fr st)) Q:=Zpw (by
 cases hb:Nat.beq j i with
 |false=>rfl
 |true=>exact absurd (SD hb) h)
attribute [simp] Zpv
def cY:List Int->Int
 |[]=>0
 |e::l=>if e=0 then cY l else e
def fz{α:Type}{l:List α}(h:k<l.length):∃d,l[k]?=some d:=⟨_,eA h⟩
def Ycw(c:UInt8):kh c=decide (48<=cR c/\cR c<=57):=by
 unfold kh cR;rw[decide_eq_decide];omega
def oD(k:Nat):List V:=(List.range 256).map fun i=>.bool (decide (48<=i/\i<48+k))
def Ae(k:Nat):(oD k).length=256:=by simp[oD]
def Ms{i:Nat}(hi:i<256):(oD k)[i]?=some (.bool (decide (48<=i/\i<48+k))):=by simp[oD,hi]
def Zwl(k:Nat):(oD k).all V.one=true:=by simp[oD,V.one]
def Yg2(hk:k<10):ag (oD k) (48+k) [.bool true]=oD (k+1):=by
 apply qG
 intro j
 unfold ag
 rw[sQ,List.getElem?_append,lW,Ae,pA (by omega)]
 by_cases h1:j<48+k
 ·rw[aQ h1,lX,aQ h1,Ms (by omega),Ms (by omega)]
  congr 3;rw[eq_iff_iff];omega
 ·rw[aA h1]
  by_cases h2:j=48+k
  ·subst h2
   rw[Ms (by omega)]
   simp
  ·rw[show j-(48+k)=(j-(48+k)-1)+1 by omega]
   simp only[SL,DI,ix,zy]
   rw[show 48+k+1+(j-(48+k)-1)=j by omega]
   by_cases h3:j<256
   ·rw[Ms h3,Ms h3];congr 3;rw[eq_iff_iff];omega
   ·rw[mb (by rw[Ae];omega),mb (by rw[Ae];omega)]
def Ydp(k:Nat):(oD k).take 256=oD k:=iP (by rw[Ae];omega)
def Yg1(j k:Nat):ag (oD j) 0 (oD k)=oD k:=by
 unfold ag;rw[Ae,zv (by rw[Ae];omega)];simp
attribute [simp] Ae Zwl Ydp Yg1
def cN(s:aU):Bool:=s.all kh
def Yph:aU:=[48,49,50,51,52,53,54,55,56,57]
def Ygi(hk:k<10):∃c,Yph[k]?=some c/\cR c=48+k:=by
 have:k=0\/k=1\/k=2\/k=3\/k=4\/k=5\/k=6\/k=7\/k=8\/k=9:=by omega
 rcases this with rfl|rfl|rfl|rfl|rfl|rfl|rfl|rfl|rfl|rfl<;>exact⟨_,rfl,rfl⟩
def Bs{n:Int}(h1:0<=n)(h2:n<256):bn .u8 n=n:=by
 rw[zB]
 simp[IntKind.wrap,IntKind.bits,IntKind.signed]
 omega
def Pz{n:Int}(h1: -9223372036854775808<=n)(h2:n<9223372036854775808):IntKind.wrap .i64 n=n:=by
 simp[IntKind.wrap,IntKind.bits,IntKind.signed]
 omega
def PA(l:aU)(c:UInt8):aK (l++[c])=10*aK l+(c.toNat-48):=by simp[aK]
def Zm1{c:UInt8}(h:s[k]?=some c):aK (s.take (k+1))=10*aK (s.take k)+(c.toNat-48):=by
 rw[HY,h]
 simp only[Option.toList,PA]
def M1(h:cN s=true){k:Nat}{c:UInt8}(hc:s[k]?=some c):48<=cR c/\cR c<=57:=by
 unfold cN at h
 rw[sN]at h
 have:=h c (eZ hc)
 rw[Ycw]at this
 simpa using this
def RP{s:aU}(h:cN s=true):∀k,k<=s.length->aK (s.take k)<10^k
 |0,_=>by simp[aK]
 |k+1,hk=>by
  obtain⟨c,hc⟩:=fz (l:=s) (k:=k) (by omega)
  have h1:=RP h k (by omega)
  have h2:=M1 h hc
  unfold cR at h2
  rw[Zm1 hc,fO]
  omega
def Bt(h:cN s=true):aK s<10^s.length:=by
 have:=RP h s.length (aZ _)
 rwa [BF]at this
def RQ{a b:Nat}(h:a<=b):10^a<=10^b:=pc (by decide) h
def Yg3(h:k<9223372036854775808):qT .and .i64 (k:Int) 1=some (.int .i64 ((k%2:Nat):Int)):=by
 show some (V.int .i64 (IntKind.wrap .i64 (BitVec.ofInt 64 (k:Int)&&& BitVec.ofInt 64 1).toNat))=_
 have e:(BitVec.ofInt 64 1).toNat=2^1-1:=by decide
 rw[BitVec.toNat_and,Tz k (by omega),e,Nat.and_two_pow_sub_one_eq_mod,Pz (by omega) (by omega)]
def Yeq:yo .shr .i64 (k:Int) 1=some (.int .i64 ((k/2:Nat):Int)):=by
 unfold yo
 have e:min (1:Int).toNat (IntKind.bits .i64)=1:=by decide
 rw[aA (by decide),e]
 simp only[au,V.int.injEq,true_and]
 rw[Int.fdiv_eq_ediv_of_nonneg _ (by decide)]
 rfl
variable {N i:Nat} {h:T O} {k v:V}
def ae.new{h1:T O}{n n1:Nat}(k:ae h n h1 n1)(o:O):ae h n (h1.set n1 o) (n1+1):=(k.set k.le).up (Ar _)
abbrev FnV(C:Cx)(f:V)(args:List V)(h:T O)(n:Nat)(P:V->T O->Nat->Prop):Prop:=∀w,Call C f args ⟨h,n,w⟩ (aF P h n w)
def Yyx{C:Cx}{f args h n w P K Q}(hf:FnV C f args h n P)(k:∀v h' n',ae h n h' n'->P v h' n'->bH C K (some (.val v ⟨h',n',w⟩)) Q):bH C K (rZ (C.call f args ⟨h,n,w⟩)) Q:=
 Bi (hf w) fun v aB=>by
  obtain⟨h',n',w'⟩:=aB
  rintro⟨rfl,hk,hp⟩
  exact k v h' n' hk hp
def uE(p:Nat->Bool)(k:Nat):Nat->Int
 |0=> -1
 |m+1=>if p k=true then (k:Int) else uE p (k+1) m
def Yux{p:Nat->Bool}:∀{m k:Nat},(0<=uE p k m↔∃j,k<=j/\j<k+m/\p j=true)
 |0,k=>by simp[uE];intro j h1 h2;omega
 |m+1,k=>by
  simp only[uE]
  by_cases h:p k=true
  ·rw[aQ h];exact⟨fun _=>⟨k,aZ _,by omega,h⟩,fun _=>by omega⟩
  ·rw[aA h,Yux (m:=m) (k:=k+1)]
   constructor
   ·rintro⟨j,h1,h2,h3⟩;exact⟨j,by omega,by omega,h3⟩
   ·rintro⟨j,h1,h2,h3⟩
    refine⟨j,?_,by omega,h3⟩
    have:j≠k:=fun hj=>h (hj▸h3)
    omega
def JB(v:V):Prop:=v=.aa\/v=.empty\/∃i o n c z,v=.slice i o n c z
def Sl.form{l:List V}(s:Sl h N v l):JB v:=by
 rcases s with⟨_,h|h⟩|⟨i,o,cp,c,e,rw,h,_⟩
 ·exact .inl h
 ·exact .inr (.inl h)
 ·exact .inr (.inr ⟨_,_,_,_,_,h⟩)
def JB.one(h:JB v):V.one v=true:=by
 rcases h with rfl|rfl|⟨_,_,_,_,_,rfl⟩<;>rfl
def JB.cells(h:JB v):V.cells v=[v]:=by
 rcases h with rfl|rfl|⟨_,_,_,_,_,rfl⟩<;>rfl
def strs(l:List aU):List V:=l.map .str
def BL(l:List aU):(strs l).length=l.length:=by simp[strs]
def Lc{l:List aU}{j:Nat}{n:aU}(h:l[j]?=some n):(strs l)[j]?=some (.str n):=by simp[strs,h]
attribute [simp] BL
def Yn9(s:wR)(q9:V):List V:=[.str s.name,.str s.op,.str s.JJ,q9,.int .i64 s.cost]
def Gr(h:T O)(N:Nat)(v:V)(g:List wR):Prop:=∃l:List (List V),Sn 5 h N v l/\l.length=g.length/\∀(j:Nat) (s:wR),g[j]?=some s->∃q9,l[j]?=some (Yn9 s q9)/\Sl h N q9 (strs s.k_)
def Gr.ah{h':T O}{N':Nat}{g:List wR}(s:Gr h N v g)(k:ae h N h' N'):Gr h' N' v g:=by
 obtain⟨l,h1,h2,h3⟩:=s
 refine⟨l,h1.ah k,h2,fun j s hs=>?_⟩
 obtain⟨q9,h4,h5⟩:=h3 j s hs
 exact⟨q9,h4,h5.ah k⟩
def Gr.at{g:List wR}(s:Gr h N v g){j:Nat}{x:wR}(hj:g[j]?=some x):∃i o c e rw q9,AF v=some (i,o)/\i<N/\h.get i=some (.cells c e rw)/\aE c (o+j*5) 5=some (Yn9 x q9)/\Sl h N q9 (strs x.k_):=by
 obtain⟨l,h1,h2,h3⟩:=s
 obtain⟨q9,h4,h5⟩:=h3 j x hj
 obtain⟨i,o,c,e,rw,q1,q2,q3,q4⟩:=h1.at h4
 exact⟨i,o,c,e,rw,q9,q1,q2,q3,q4,h5⟩
def Gr.slice{g:List wR}{w:List Nat}(s:Gr h N v g){lo hi:Nat}(h1:lo<=hi)(h2:hi<=g.length)(x y:Option V)(hx:x=some (.int .i64 lo)\/x=none/\lo=0)(hy:y=some (.int .i64 hi)\/y=none/\hi=g.length):
  ∃v',pr ⟨h,N,w⟩ 5 (some v) (some x) (some y) (some none)=some (v',⟨h,N,w⟩)/\Gr h N v' ((g.take hi).drop lo):=by
 obtain⟨l,g1,g2,g3⟩:=s
 obtain⟨v',e1,e2⟩:=Zzy (z:=5) (w:=w) (by decide) g1 h1 (by omega) x y hx (by rw[g2];exact hy)
 refine⟨v',e1,(l.take hi).drop lo,e2,by simp[g2],fun j s hs=>?_⟩
 have hj:lo+j<hi:=by
  apply tV;intro hc
  rw[ix,lX,aA (by omega)]at hs;cases hs
 rw[ix,lX,aQ hj]at hs
 obtain⟨q9,q1,q2⟩:=g3 _ s hs
 exact⟨q9,by rw[ix,lX,aQ hj];exact q1,q2⟩
def Yoa{a b c d e:V}:aE [a,b,c,d,e] 0 5=some [a,b,c,d,e]:=rfl
def Yob{a b:V}:aE [a,b] 0 2=some [a,b]:=rfl
attribute [simp] Yoa Yob
def Yj8(st:St)(zero:V)(ok:Bool):Option (Option (Nat×V))->Option (V×St)
 |some (some (_,v))=>some (if ok then .aS [v,.bool true] else v,st)
 |some none=>some (if ok then .aS [zero,.bool false] else zero,st)
 |none=>none
def NS(st:St)(kd:jh)(zero:V)(ok:Bool)(k:V):Option O->Option (V×St)
 |some (.map es)=>Yj8 st zero ok (eM kd k es 0)
 |_=>none
def Sr(st:St)(kd:jh)(zero:V)(ok:Bool):Option V->Option V->Option (V×St)
 |some (.map i),some k=>if kd.fits k=true then NS st kd zero ok k (st.h.get i) else none
 |some .bV,some k=>if kd.fits k=true then Yj8 st zero ok (some none) else none
 |_,_=>none
def Zte{kd:jh}{zero:V}{m k:Src}{ok:Bool}{call:cM}{r:T V}{st:St}:Jd kd zero m k ok call r st=Sr st kd zero ok (m.ev r) (k.ev r):=by
 unfold Jd Sr
 rcases m.ev r with _|m
 ·rfl
 ·rcases k.ev r with _|k
  ·cases m<;>rfl
  ·cases m<;>simp only[]<;>(try (by_cases hf:kd.fits k=true<;>simp[hf]))<;>try rfl
   ·rename_i i
    rcases st.h.get i with _|o
    ·rfl
    ·cases o<;>simp only[NS]
     rename_i es
     rcases eM kd k es 0 with _|_|⟨_,_⟩<;>rfl
def Ybx{st:St}{zero:V}{ok:Bool}{s:aU}:Sr st .str zero ok (some (.map i)) (some (.str s))=NS st .str zero ok (.str s) (st.h.get i):=rfl
def Ztz{st:St}{kd:jh}{zero:V}{ok:Bool}{es:List (V×V)}:NS st kd zero ok k (some (.map es))=Yj8 st zero ok (eM kd k es 0):=rfl
attribute [simp] Zte Ybx Ztz LQ
def Ss(st:St)(i:Nat)(k v:V)(es:List (V×V)):Option (Option (Nat×V))->Option (V×St)
 |some (some (j,_))=>some (.aS [],st.write i (.map (es.set j (k,v))))
 |some none=>some (.aS [],st.write i (.map (es++[(k,v)])))
 |none=>none
def Lm(st:St)(kd:jh)(i:Nat)(k v:V):Option O->Option (V×St)
 |some (.map es)=>Ss st i k v es (eM kd k es 0)
 |_=>none
def v_(st:St)(kd:jh):Option V->Option V->Option V->Option (V×St)
 |some (.map i),some k,some v=>if kd.fits k=true then Lm st kd i k v (st.h.get i) else none
 |_,_,_=>none
def Ztd{kd:jh}{m k v:Src}{call:cM}{r:T V}{st:St}:DT kd m k v call r st=v_ st kd (m.ev r) (k.ev r) (v.ev r):=by
 unfold DT v_
 rcases m.ev r with _|m
 ·rfl
 ·rcases k.ev r with _|k
  ·cases m<;>rfl
  ·rcases v.ev r with _|v
   ·cases m<;>rfl
   ·cases m with
    |map i=>
     simp only[]
     by_cases hf:kd.fits k=true
     ·simp only[hf,if_true]
      rcases st.h.get i with _|o
      ·rfl
      ·cases o<;>simp only[Lm]
       rename_i es
       rcases eM kd k es 0 with _|_|⟨_,_⟩<;>rfl
     ·simp[hf]
    |_=>rfl
def Ybb{st:St}{s:aU}:v_ st .str (some (.map i)) (some (.str s)) (some v)=Lm st .str i (.str s) v (st.h.get i):=rfl
def Zto{st:St}{kd:jh}{es:List (V×V)}:Lm st kd i k v (some (.map es))=Ss st i k v es (eM kd k es 0):=rfl
def Zxl{st:St}{es:List (V×V)}:Ss st i k v es (some none)=some (.aS [],st.write i (.map (es++[(k,v)]))):=rfl
attribute [simp] Ztd Ybb Zto Zxl
def ae.then{h h1 h2:T O}{n n1 n2:Nat}(a:ae h n h1 n1)(b:ae h1 n h2 n2):ae h n h2 n2:=⟨b.le,fun i hi=>(b.get i hi).trans (a.get i hi)⟩
def po(l:List Int):List (List V):=l.map fun x=>[.int .i64 x]
def CL(l:List Int):(po l).length=l.length:=by simp[po]
def Zkt:∀(l:List Int),(po l).flatten=dI l
 |[]=>rfl
 |x::l=>by
  have:=Zkt l
  simp only[po,lF,List.flatten_cons,dI]at this ⊢
  rw[this];rfl
def Ec(l:List Int)(x:Int):po (l++[x])=po l++[[.int .i64 x]]:=by simp[po]
def Own.sl{e:TypeId}{N0:Nat}{h:T O}{N:Nat}{v:V}{l:List Int}(s:Own 1 e N0 h N v (po l)):Sl h N v (dI l):=by
 have:=s.sn
 have e1:po l=(dI l).map fun x=>[x]:=by simp[po,dI]
 rw[e1]at this
 exact Sn.one.1 this
structure Yp2 (g:List wR):Prop where
 le:g.length<=16
 name:∀(j:Nat) (s:wR),g[j]?=some s->j<=pos (g.take j) s.name
 q9:∀(j:Nat) (s:wR),g[j]?=some s->∀n∈s.k_,pos (g.take j) n<j
 cost:∀s∈g,1<=s.cost/\s.cost<=1000
variable {N:Nat} {h:T O}
def Cp(h:T O)(N:Nat)(v:V)(l:List V):Prop:=∃j c,v=.slice j 0 l.length c 1/\j<N/\h.get j=some (.cells l 9 true)/\∀k,c=some k->l.length<=k
def Cp.ah{h':T O}{N':Nat}{v:V}{l:List V}(s:Cp h N v l)(k:ae h N h' N'):Cp h' N' v l:=by
 obtain⟨j,c,h1,h2,h3,h4⟩:=s
 exact⟨j,c,h1,h_ h2 k.le,(k.get j h2).trans h3,h4⟩
def Yl5{w:List Nat}{v:V}{l:List V}(s:Sl h N v l):gp ⟨h,N,w⟩ 1 v=some (l.length,l):=by
 rcases s with⟨rfl,rfl|rfl⟩|⟨i,o,cp,c,e,rw,rfl,h2,h3,h4,h5,h6⟩
 ·rfl
 ·rfl
 ·simp only[gp,if_true,St.row,h3,tE]
  have:aE c o l.length=some l:=by
   unfold aE
   rw[aQ h5]
   congr 1
   apply qG
   intro j
   rw[lX]
   by_cases hj:j<l.length
   ·rw[aQ hj,ix];exact h4 j hj
   ·rw[aA hj,mb (by omega)]
  rw[this]
def PgA(h:T O)(N0 N:Nat)(u:V)(g:List wR)(k:Nat):Prop:=∃l:List (List V),Own 5 126 N0 h N u l/\l.length=k/\∀(j:Nat) (s:wR),j<k->g[j]?=some s->∃q9,l[j]?=some (Yn9 s q9)/\Cp h N q9 (strs s.k_)
def PgA.ah{h':T O}{N0 N':Nat}{u:V}{g:List wR}{k:Nat}(s:PgA h N0 N u g k)(kk:ae h N h' N'):PgA h' N0 N' u g k:=by
 obtain⟨l,h1,h2,h3⟩:=s
 refine⟨l,h1.ah kk,h2,fun j s hj hs=>?_⟩
 obtain⟨q9,h4,h5⟩:=h3 j s hj hs
 exact⟨q9,h4,h5.ah kk⟩
def Sl.setInt{h:T O}{N:Nat}{v:V}{l:List Int}{i:Nat}{c0 c1:List V}{e0 e1:TypeId}{w0 w1:Bool}(s:Sl h N v (dI l))(hr:h.get i=some (.cells c0 e0 w0))(hn:∀x∈c0,∀k n,x≠.int k n)(hc:c1.length=c0.length):Sl (h.set i (.cells c1 e1 w1)) N v (dI l):=by
 rcases s with s|⟨j,o,cp,c,e,rw,h1,h2,h3,h4,h5,h6⟩
 ·exact .inl s
 ·by_cases hj:j=i
  ·subst hj
   rw[hr]at h3
   simp only[au,O.cells.injEq]at h3
   obtain⟨rfl,rfl,rfl⟩:=h3
   cases l with
   |nil=>exact .inr ⟨j,o,cp,c1,e1,w1,h1,h2,by rw[T.aj];simp,fun k hk=>by simp[dI]at hk,by rw[hc];exact h5,h6⟩
   |cons d l=>
    have:=h4 0 (by simp[dI])
    simp only[dI,lF,A5]at this
    exact absurd rfl (hn _ (eZ this) .i64 d)
  ·exact .inr ⟨j,o,cp,c,e,rw,h1,h2,by rw[T.aj,aA hj];exact h3,h4,h5,h6⟩
open Go Go.Proofs
set_option maxRecDepth 1000000
abbrev A.F(n:Nat):=xV Tryz.prog n
def mv(a b:Nat):dC:=⟨some a,.pe (.tmp b),none⟩
def mc(a:Nat)(n:Int):dC:=⟨some a,.pe (.const (.int .i64 n)),none⟩
def ia(a z x i:Nat):dC:=⟨some a,.iI z (.tmp x) (.tmp i),none⟩
def ld(a x:Nat):dC:=⟨some a,.load none (.tmp x),none⟩
def xt(a x i:Nat):dC:=⟨some a,.extract (.tmp x) i,none⟩
def bi(a:Nat)(o:BinOp)(x y:Nat):dC:=⟨some a,.bin o (.node []) false (.tmp x) (.tmp y),none⟩
def bc(a:Nat)(o:BinOp)(x:Nat)(n:Int):dC:=⟨some a,.bin o (.node []) false (.tmp x) (.const (.int .i64 n)),none⟩
def ln(a x:Nat):dC:=⟨some a,.len 1 (.tmp x),none⟩
def so(a x:Nat):dC:=⟨none,.store 1 (.tmp a) (.tmp x),none⟩
def c1(a f x:Nat):dC:=⟨some a,.call (.const (.func f [] [])) [.tmp x],none⟩
def c2(a f x y:Nat):dC:=⟨some a,.call (.const (.func f [] [])) [.tmp x,.tmp y],none⟩
def lN(a n x:Nat):dC:=⟨some a,.load (some n) (.tmp x),none⟩
def fa(a o x:Nat):dC:=⟨some a,.sO o (.tmp x),none⟩
def pf(a x y:Nat):dC:=⟨some a,.pick (.tmp x) (.tmp y) (.const (.bool false)),none⟩
def pt(a x y:Nat):dC:=⟨some a,.pick (.tmp x) (.const (.bool true)) (.tmp y),none⟩
def ei(a x:Nat)(n:Int):dC:=⟨some a,.bin .eql (.dm .int) true (.tmp x) (.const (.int .i64 n)),none⟩
def ni(a x:Nat)(n:Int):dC:=⟨some a,.bin .neq (.dm .int) true (.tmp x) (.const (.int .i64 n)),none⟩
def mN(a:Nat):dC:=⟨some a,.pe (.const .aa),none⟩
def bx(a e x:Nat):dC:=⟨some a,.box e (.tmp x),none⟩
def mg(a x g:Nat):dC:=⟨some a,.pe (.tmp x),some (g,true)⟩
def mh(a x g:Nat):dC:=⟨some a,.pe (.tmp x),some (g,false)⟩
def sr(l:List dC)(c:cF):cF:=.seq (.reg l) c
def cd(x:Nat)(a b:cF):cF:=.cond (.tmp x) a b
def ge(a:Nat)(o:gF):dC:=⟨some a,o,none⟩
def gn(o:gF):dC:=⟨none,o,none⟩
def gy(a g:Nat)(o:gF):dC:=⟨some a,o,some (g,true)⟩
def gz(a g:Nat)(o:gF):dC:=⟨some a,o,some (g,false)⟩
abbrev tq(x:Nat):Src:=.tmp x
abbrev kq(n:Int):Src:=.const (.int .i64 n)
abbrev fq(f:Nat):Src:=.const (.func f [] [])
attribute [simp] A5 DI mv mc ia ld xt bi bc ln so c1 c2 lN fa pf pt ei ni mN bx mg mh sr cd ge gn gy gz
def A.PB:O:=.cells (([1,10,100,1000,10000,100000,1000000,10000000,100000000,1000000000,10000000000,100000000000,1000000000000,10000000000000,100000000000000,1000000000000000,10000000000000000,100000000000000000,1000000000000000000,10000000000000000000]:List Int).map fun z=>.int .u64 z) 306 false
def A.TB:List (Nat×O):=[(6,A.PB)]
def A.C:Cx:=⟨Mp A.TB [⟨7,[],.bool true⟩],xV Tryz.prog⟩
def A.t:A.C.dN=xV Tryz.prog:=rfl
def A.x0{f:Nat}{a c args:List V}{st:St}(h:Nat.beq 7 f=false):A.C.x (.func f a c) args st=none:=by
 show Mp A.TB [⟨7,[],.bool true⟩] (.func f a c) args st=none
 unfold Mp
 split
 ·rename_i heq
  simp only[V.func.injEq]at heq
  obtain⟨rfl,rfl,rfl⟩:=heq
  simp only[Mo,h]
 ·rfl
def Ypk(P:Program)(fn:Func):cF:=match fn.body with
 |some c=>iS P c
 |none=>.skip
def Ek:cF->List cF
 |.seq a b=>Ek a++Ek b
 |.cond _ a b=>Ek a++Ek b
 |.block _ a=>Ek a
 |.scope a=>Ek a
 |.loop a=>a::Ek a
 |_=>[]
def CM:List cF->cF->cF×List cF
 |ls,.seq a b=>match CM ls a with
  |(a,ls)=>match CM ls b with
   |(b,ls)=>(.seq a b,ls)
 |ls,.cond s a b=>match CM ls a with
  |(a,ls)=>match CM ls b with
   |(b,ls)=>(.cond s a b,ls)
 |ls,.block k a=>match CM ls a with
  |(a,ls)=>(.block k a,ls)
 |ls,.scope a=>match CM ls a with
  |(a,ls)=>(.scope a,ls)
 |l::ls,.loop _=>(.loop l,ls)
 |ls,c=>(c,ls)
@[simp] def A.q (f:Func) {b:cF} (_h:Ypk Tryz.prog f=b:=by conv=>lhs;cbv):cF:=b
@[simp] def A.ql (w:cF) (i:Nat) (ls:List cF) {b:cF} (_h:(CM ls ((Ek w)[i]?.getD .skip)).1=b:=by conv=>lhs;cbv):cF:=b
@[simp] def A.qb (w:cF) (ls:List cF) {b:cF} (_h:(CM ls w).1=b:=by conv=>lhs;cbv):cF:=b
def JK:List Nat->cF->cF
 |0::p,.seq a _=>JK p a
 |_::p,.seq _ b=>JK p b
 |0::p,.cond _ a _=>JK p a
 |_::p,.cond _ _ b=>JK p b
 |_::p,.block _ a=>JK p a
 |_::p,.scope a=>JK p a
 |_,c=>c
def JL(x:cF):List Nat->cF->cF
 |0::p,.seq a b=>.seq (JL x p a) b
 |_::p,.seq a b=>.seq a (JL x p b)
 |0::p,.cond s a b=>.cond s (JL x p a) b
 |_::p,.cond s a b=>.cond s a (JL x p b)
 |_::p,.block k a=>.block k (JL x p a)
 |_::p,.scope a=>.scope (JL x p a)
 |_,_=>x
def Ypz:List (List Nat×cF)->cF->cF
 |[],w=>w
 |(p,x)::l,w=>Ypz l (JL x p w)
@[simp] def A.qt (w:cF) (ls:List cF) (cs:List (List Nat×cF)) (p:List Nat) {b:cF} (_h:JK p (Ypz cs (CM ls w).1)=b:=by conv=>lhs;cbv):cF:=b
def A.kk{n k:Nat}{res:List IC}{b:cF}(hc:xV Tryz.prog n=some ⟨k,res,b⟩)(hx:Nat.beq 7 n=false){K:List Kf}{Q:Rs->Prop}{f c args:List V}{st:St}(h:(f++args++c).length<=k):bH A.C K (rZ (A.C.call (.func n f c) args st)) Q↔bH A.C (.fin res st::K) (fx (A.C.code none b ⟨yg .nil 0 (f++args++c),k,[]⟩ ⟨st.h,st.n,[]⟩)) Q:=Yey (A.x0 (f:=n) hx) (mf:=⟨k,res,b⟩) (by rw[A.t];exact hc) h
def A.known{h:T O}{N:Nat}{w:List Nat}(hp:h.get 6=some A.PB):A.C.call (.func 7 [] []) [] ⟨h,N,w⟩=some (.bool true,⟨h,N,w⟩):=by
 have hq:Mn (h.get 6) A.PB=true:=by rw[hp];decide+kernel
 have hi:Ei ⟨h,N,w⟩ A.TB=true:=by
  show (match Mn (h.get 6) A.PB with|true=>true|false=>false)=true
  rw[hq]
 have hx:A.C.x (.func 7 [] []) [] ⟨h,N,w⟩=some (.bool true,⟨h,N,w⟩):=by
  show (match Ei ⟨h,N,w⟩ A.TB with|true=>some (V.bool true,(⟨h,N,w⟩:St))|false=>none)=_
  rw[hi]
 rw[Cx.sL]
 unfold sY
 rw[hx]
inductive Zp8 where
 |nil
 |emp (b:Addr)
 |sl (b:Addr) (l c:Nat) (f:Nat->ByteArray)
def Zp8.val:Zp8->Value
 |.nil=>.slice none 0 0
 |.emp b=>.slice (some b) 0 0
 |.sl b l c f=>.slice (some b) l c
def Zp8.ok(W:World):Zp8->Prop
 |.sl b l c f=>l<=c/\0<c/\∀i,i<c->W.cell? (b.add i)=some (.string (f i))
 |_=>True
def Zp8.strs:Zp8->List aU
 |.sl b l c f=>(List.range l).map fun i=>(f i).data.toList
 |_=>[]
def Cn(W:World)(a:Addr):TypeId:=match W.heap[a.block]? with
 |some (.cells _ e _)=>e
 |_=>0
def Zwg{W:World}{a:Addr}{n:Nat}{f:Nat->Value}(hn:0<n)(hc:∀i,i<n->W.cell? (a.add i)=some (f i)):
  ∃c' lo hi,W.heap[a.block]?=some (.cells c' (Cn W a) (lo,hi))/\a.spot=none/\(∀i,i<n->c'[a.off+i]?=some (f i))/\a.off+n<=c'.size/\a.block<W.heap.size:=by
 have h0:=hc 0 hn
 have ha0:a.add 0=a:=by simp[Addr.add]
 rw[ha0]at h0
 obtain⟨c',e,fr,hb⟩:∃c' e fr,W.heap[a.block]?=some (.cells c' e fr):=by
  unfold World.cell? at h0
  split at h0
  ·rename_i c' e fr hb;exact⟨c',e,fr,hb⟩
  ·cases h0
 have hs:a.spot=none:=by
  unfold World.cell? at h0
  rw[hb]at h0
  simp only at h0
  split at h0
  ·cases h0
  ·rename_i h;simpa using h
 have gl:∀i,i<n->c'[a.off+i]?=some (f i):=fun i hi=>by
  have:=hc i hi
  unfold World.cell? at this
  have e1:(a.add i).block=a.block:=by unfold Addr.add;split<;>rfl
  have e2:(a.add i).off=a.off+i:=by unfold Addr.add;split<;>simp_all
  have e3:(a.add i).spot=none:=by unfold Addr.add;split<;>simp_all
  rw[e1,hb]at this
  simp only[e2,e3,Option.isSome_none,gV,if_false]at this
  exact this
 have aP:a.block<W.heap.size:=by
  rcases Nat.lt_or_ge a.block W.heap.size with h|h
  ·exact h
  ·rw[Array.getElem?_eq_none h]at hb;cases hb
 have zgm:a.off+n<=c'.size:=by
  have:=gl (n-1) (by omega)
  have h2:=(Array.getElem?_eq_some_iff.1 this).1
  omega
 obtain⟨lo,hi⟩:=fr
 exact⟨c',lo,hi,by rw[hb];simp[Cn,hb],hs,gl,zgm,aP⟩
structure S0 where
 a:Addr
 n:Nat
 f:Nat->Value
 g:Nat->V
def S0.ok(W:World)(r:S0):Prop:=0<r.n/\(∀i,i<r.n->W.cell? (r.a.add i)=some (r.f i))/\∀i,i<r.n->(r.f i).oneCell'=true
def Zqp{P:Program}{dN:Nat->Option lC}{G:Nat}(hP:Dd P dN G){x:cM}(hx:js P x){F d:Nat}{f:FuncId}{mf:lC}(hf:xV P f=some mf){args:List V}{xs:List Value}{v:V}{y:Value}{S:St}{μ:Mu}{W:World}
  (h:Yns (BY mf (dV (yu x dN F d) F) args S) v) (hh:bk P μ W S) (hS:S.w=[]) (zQ:aW μ args xs) (hv:∀μ z,VR μ v z->z=y):
  Calls P f ⟨xs⟩ W fun e W'=>e=.returned y/\RowKit.Below W.heap.size W W':=by
 obtain⟨s,bL,hw⟩:=h.ex
 obtain⟨fn,Be,_⟩:=Zwi hf
 have ih:=S3 hP.m hP.e hP.t hx F d
 have:=Yci (Ydd ih hP.e (Yct hP.m hP.e ih) (Yhh ih hP.e) (Zu6 ih) F) Be hf hh zQ bL
 refine callsIn_wide.1 (CallsIn.mono (F:=Fence.wide) this fun e W' he=>?_)
 cases e with
 |returned z=>
  obtain⟨μ',ws,h1,h2⟩:=he
  have pM:ws=[]:=by have:=h2.wl;rw[hw,hS]at this;simpa using this.symm
  subst pM
  exact⟨by rw[hv _ _ h1],h2.eC.os,h2.eC.tape,h2.eC.output,h2.eC.size,fun k hk=>h2.eC.block k hk fun i hi=>by cases hi⟩
 |panicked _=>exact he.elim
 |outgrown=>exact he.elim
def Cx.calls{P:Program}{C:Cx}{G:Nat}(hP:Dd P C.dN G)(hx:js P C.x){f:Nat}{mf:lC}(hf:xV P f=some mf)(ht:C.dN f=some mf){args:List V}{xs:List Value}{v:V}{y:Value}{S:St}{μ:Mu}{W:World}
  (hn:∀st,C.x (.func f [] []) args st=none) (h:Fn C f args S.h S.n (fun u _ _=>u=v)) (hh:bk P μ W S) (hS:S.w=[]) (zQ:aW μ args xs) (hv:∀μ z,VR μ v z->z=y):
  Calls P f ⟨xs⟩ W fun e W'=>e=.returned y/\RowKit.Below W.heap.size W W':=by
 obtain⟨u,aB,hc,hw,hk,hu⟩:=(h []).ex
 subst hu
 have hS':(⟨S.h,S.n,[]⟩:St)=S:=by obtain⟨a,b,c⟩:=S;simp only at hS;subst hS;rfl
 rw[hS']at hc
 rw[Cx.sL]at hc
 unfold sY at hc
 rw[hn]at hc
 simp only at hc
 obtain⟨n,Ch⟩:=Zkj (q:=fun n=>dV (C.at n) n) (fun n m hnm=>zR (Cx.d_ hnm) n m hnm) (fun _ _ _ _ _ e=>Cx.pP e) hc
 unfold xw at Ch
 simp only[ht,List.nil_append,AD]at Ch
 exact Zqp (F:=n) (d:=n) hP hx hf ⟨_,Ch,hw⟩ hh hS zQ hv
end
end Go.Mx
