/-Digits to the base 10^9, as integers-/
import Derived.Test.YtokjleejipaidaaGreatDoorMxWord
import Derived.Test.YtokjleejipaidaaGreatDoorProg
set_option linter.all false
namespace Go.Mx
noncomputable section
open Go
variable {d:Int} {j k n:Nat} {l:List Int}
def vI:List Int->Int
 |[]=>0
 |d::l=>d+1000000000*vI l
def pI(k:Nat):Int:=1000000000^k
def v_(k:Nat):pI (k+1)=1000000000*pI k:=by unfold pI;rw[Int.pow_succ,Int.mul_comm]
def Yot:pI 0=1:=rfl
def C7(k:Nat):0<pI k:=by unfold pI;exact Int.pow_pos (by decide)
def Q5(i j:Nat):pI (i+j)=pI i*pI j:=by unfold pI;exact Int.pow_add ..
def WT:∀(l m:List Int),vI (l++m)=vI l+pI l.length*vI m
 |[],m=>by simp[vI,pI]
 |d::l,m=>by
  simp only[CR,vI,WT l m,bo,v_]
  grind
def C8(l:List Int)(d:Int):vI (l++[d])=vI l+pI l.length*d:=by simp[WT,vI]
def WU(n:Nat):vI (List.replicate n 0)=0:=by
 induction n with
 |zero=>rfl
 |succ n ih=>simp[List.replicate_succ,vI,ih]
def jt{α:Type}{l:List α}{d:α}(h:l[k]?=some d):k<l.length:=by
 apply tW;intro hc;rw[fv hc]at h;cases h
def zK(h:l[k]?=some d):vI (l.take (k+1))=vI (l.take k)+pI k*d:=by
 have hk:=jt h
 rw[uQ,h]
 simp only[Option.toList]
 rw[C8,gO,qt (by omega)]
def LV(l:List Int)(k:Nat)(hk:k<=l.length):vI l=vI (l.take k)+pI k*vI (l.drop k):=by
 have:=WT (l.take k) (l.drop k)
 rw[CT,gO,qt hk]at this
 exact this
def C9:∀{l:List Int} {k:Nat} {c:Int},l[k]?=some c->∀(v:Int),vI (l.set k v)=vI l+pI k*(v-c)
 |[],k,c,h,v=>by simp at h
 |d::l,0,c,h,v=>by
  simp at h;subst h
  simp only[List.set_cons_zero,vI,Yot];omega
 |d::l,k+1,c,h,v=>by
  have:=C9 (l:=l) (k:=k) (c:=c) (by simpa using h) v
  simp only[List.set_cons_succ,vI,this,v_]
  grind
def Di(l:List Int):Prop:=∀d∈l,0<=d/\d<1000000000
def Di.get(h:Di l){k:Nat}{d:Int}(hd:l[k]?=some d):0<=d/\d<1000000000:=h d (bM hd)
def Di.set(h:Di l){k:Nat}{v:Int}(h0:0<=v)(h1:v<1000000000):Di (l.set k v):=fun d hd=>by
 rcases Gx hd with hd|rfl
 ·exact h d hd
 ·exact⟨h0,h1⟩
def Di.app{m:List Int}(h:Di l)(h':Di m):Di (l++m):=fun d hd=>by
 rcases lI.1 hd with hd|hd
 ·exact h d hd
 ·exact h' d hd
def Di.one{v:Int}(h0:0<=v)(h1:v<1000000000):Di [v]:=fun d hd=>by simp at hd;subst hd;exact⟨h0,h1⟩
def Di.nil:Di []:=fun d hd=>by simp at hd
def Di.Fb(n:Nat):Di (List.replicate n 0):=fun d hd=>by rw[GK]at hd;rw[hd.2];decide
def Di.take(h:Di l)(k:Nat):Di (l.take k):=fun d hd=>h d (yJ hd)
def Di.drop(h:Di l)(k:Nat):Di (l.drop k):=fun d hd=>h d (JP hd)
def wc:∀{l:List Int},Di l->0<=vI l
 |[],_=>Int.le_refl _
 |d::l,h=>by
  have h1:=h d pR
  have h2:=wc (l:=l) fun e he=>h e (pG _ he)
  simp only[vI];omega
def we:∀{l:List Int},Di l->vI l<pI l.length
 |[],_=>by decide
 |d::l,h=>by
  have h1:=h d pR
  have h2:=we (l:=l) fun e he=>h e (pG _ he)
  simp only[vI,bo,v_];omega
def zI(l:List Int)(j:Nat):Int:=l[j]?.getD 0
def Ym7(h:l[j]?=some d):zI l j=d:=by simp[zI,h]
def WV(h:l.length<=j):zI l j=0:=by simp[zI,h]
def WW{l:List Int}(h:Di l)(j:Nat):0<=zI l j/\zI l j<1000000000:=by
 unfold zI
 cases hj:l[j]? with
 |none=>simp
 |some d=>exact h.get hj
def WX{l:List Int}{k:Nat}:vI (l.take (k+1))=vI (l.take k)+pI k*zI l k:=by
 unfold zI
 cases h:l[k]? with
 |some d=>exact zK h
 |none=>
  have hk:l.length<=k:=by
   apply zB;intro hc;rw[cF hc]at h;cases h
  rw[fb (by omega),fb hk];simp
def f_{α:Type}{l:List α}{d:α}(h:l[k]?=some d):l.drop k=d::l.drop (k+1):=by
 obtain⟨hk,hs⟩:=xB.1 h
 rw[<-hs];exact GZ hk
def dI(l:List Int):List V:=l.map fun n=>.int .i64 n
def gJ(l:List Int):(dI l).length=l.length:=by simp[dI]
def gK{n:Int}(h:l[j]?=some n):(dI l)[j]?=some (.int .i64 n):=by simp[dI,h]
attribute [simp] gJ
def B5{v:Int}(h:k<l.length):ae (dI l) k [.int .i64 v]=dI (l.set k v):=by
 unfold ae dI
 apply og
 intro j
 simp only[Az,fm,List.getElem?_set]
 rw[tU,List.getElem?_append,gO,gY]
 by_cases h1:j<k
 ·rw[ax (by omega),iI,ax h1,fm,ak (by omega)]
 ·rw[ak (by omega)]
  by_cases h2:j=k
  ·subst h2
   rw[show j-min j l.length=0 by omega,ax rfl,ax h];rfl
  ·rw[show j-min k l.length=(j-k-1)+1 by omega,ak (by omega)]
   simp only[QX,EJ,ff,fm]
   rw[show k+1+(j-k-1)=j by omega]
def WY:cW [.int .i64 0] n=dI (List.replicate n 0):=by rw[V5];simp[dI]
def rP:List Int->List Int
 |[]=>[]
 |d::l=>match rP l with
  |[]=>if d=0 then [] else [d]
  |t=>d::t
def WZ:∀(l:List Int),rP (l++[0])=rP l
 |[]=>rfl
 |d::l=>by simp only[CR,rP,WZ l]
def Zp5{d:Int}(hd:d≠0):∀(l:List Int),rP (l++[d])=l++[d]
 |[]=>by simp[rP,hd]
 |e::l=>by
  simp only[CR,rP,Zp5 hd l]
  cases l<;>rfl
def Zs1:∀(l:List Int),(rP l).length<=l.length
 |[]=>aO _
 |d::l=>by
  have ih:=Zs1 l
  simp only[rP]
  split
  ·split<;>simp
  ·simp only[bo];omega
def ds(n:Nat):List Int:=if h:n=0 then [] else ((n%1000000000:Nat):Int)::ds (n/1000000000)
termination_by n
decreasing_by exact CV (by omega) (by decide)
def tX:ds 0=[]:=by rw[ds];simp
def AG(h:n≠0):ds n=((n%1000000000:Nat):Int)::ds (n/1000000000):=by rw[ds];simp[h]
def gF:∀(n:Nat),vI (ds n)=n:=by
 intro n
 induction n using Nat.strongRecOn with
 |_ n ih=>
  by_cases h:n=0
  ·subst h;rw[tX];rfl
  ·rw[AG h]
   simp only[vI]
   rw[ih (n/1000000000) (CV (by omega) (by decide))]
   omega
def fY(n:Nat):Di (ds n):=by
 induction n using Nat.strongRecOn with
 |_ n ih=>
  by_cases h:n=0
  ·subst h;rw[tX];exact Di.nil
  ·rw[AG h]
   intro d hd
   rcases ku.1 hd with rfl|hd
   ·omega
   ·exact ih (n/1000000000) (CV (by omega) (by decide)) d hd
def W7:∀{l:List Int},Di l->rP l=ds (vI l).toNat
 |[],_=>by simp[rP,vI,tX]
 |d::l,h=>by
  have hl:Di l:=fun e he=>h e (pG _ he)
  have ih:=W7 hl
  have hd:=h d pR
  have hn:=wc hl
  simp only[rP,vI,ih]
  by_cases h0:vI l=0
  ·rw[h0]
   simp only[Int.toNat_zero,tX,Int.mul_zero,Int.add_zero]
   by_cases oO:d=0
   ·simp[oO,tX]
   ·rw[AG (by omega),yQ (by omega),Ax (by omega),tX];simp[oO];omega
  ·have h3:(d+1000000000*vI l).toNat≠0:=by omega
   rw[AG h3]
   have h1:(d+1000000000*vI l).toNat/1000000000=(vI l).toNat:=by omega
   have h2:(((d+1000000000*vI l).toNat%1000000000:Nat):Int)=d:=by omega
   rw[h1,h2]
   split
   ·rename_i hc;rw[AG (by omega)]at hc;cases hc
   ·rfl
def Hv(h:Di l){n:Nat}(hn:vI l=n):rP l=ds n:=by rw[W7 h,hn];rfl
def Yql(n:Nat):rP (ds n)=ds n:=Hv (fY n) (gF n)
def Da:ds n=[]↔n=0:=by
 constructor
 ·intro h
  by_cases h0:n=0
  ·exact h0
  ·rw[AG h0]at h;cases h
 ·intro h;rw[h,tX]
def Yqm(h:n≠0):∃d,(ds n)[(ds n).length-1]?=some d/\0<d:=by
 have aW:ds n≠[]:=fun hc=>h (Da.1 hc)
 obtain⟨l,d,hd⟩:∃l d,ds n=l++[d]:=⟨(ds n).dropLast,(ds n).getLast aW,(QC aW).symm⟩
 refine⟨d,by rw[hd,iN,Az];simp,?_⟩
 have h1:=fY n d (by rw[hd];exact List.mem_append_right _ pR)
 have:d≠0:=fun h0=>by
  have h2:=Yql n
  rw[hd,h0,WZ]at h2
  have:=Zs1 l
  rw[h2]at this;simp at this;omega
 omega
def J5{n k:Nat}(h:n<1000000000^k):(ds n).length<=k:=by
 induction k generalizing n with
 |zero=>
  have:n=0:=by simpa using h
  rw[this,tX];simp
 |succ k ih=>
  by_cases h0:n=0
  ·rw[h0,tX];simp
  ·rw[AG h0]
   have:=ih (n:=n/1000000000) ((qs (by decide)).2 (by rw[<-gw];exact h))
   simp only[bo];omega
def Dn(h:T O)(N:Nat)(v:V)(n:Nat):Prop:=Sl h N v (dI (ds n))
def Dn.ad{h h':T O}{N N':Nat}{v:V}(s:Dn h N v n)(k:ab h N h' N'):Dn h' N' v n:=Sl.ad s k
variable {w:List Int}
def W8{P u1 u2 U' v1 v2 V' t r:Int}(hP:0<P)(Db:0<=U')(fy:0<=u2)(yL:0<=u1)(oP:0<v1)(jL:0<=v2)(xU:0<=V')(Dc:V'<P)(h0:0<=t)(ht:t<=1000000000)(hinv:u1=t*v1+r)(hc:t*v2<=r*1000000000+u2):
  (t-1)*(V'+P*(v2+1000000000*v1))<=U'+P*(u2+1000000000*u1):=by
 by_cases pJ:t=0
 ·subst pJ
  have h1:0<=P*(v2+1000000000*v1):=xO (by omega) (by omega)
  have h2:0<=P*(u2+1000000000*u1):=xO (by omega) (by omega)
  omega
 ·have h1:(t-1)*V'<=1000000000*P:=by
   have:(t-1)*V'<=1000000000*V':=ER (by omega) xU
   omega
  have h2:P*1<=P*v1:=rI (by omega) (by omega)
  have h3:P*(t*v2)<=P*(r*1000000000+u2):=rI hc (by omega)
  have h4:0<=P*v2:=xO (by omega) jL
  have h5:(t-1)*(V'+P*(v2+1000000000*v1))=(t-1)*V'+P*(t*v2)-P*v2+1000000000*(P*(t*v1))-1000000000*(P*v1):=by grind
  have h6:U'+P*(u2+1000000000*u1)=U'+P*(r*1000000000+u2)+1000000000*(P*(t*v1)):=by subst hinv;grind
  omega
def Yp0{P u1 u2 U' v1 v2 V' t r:Int}(hP:0<P)(Db:U'<P)(xU:0<=V')(h0:0<=t)(hinv:u1=t*v1+r)(hc:r*1000000000+u2<t*v2):
  U'+P*(u2+1000000000*u1)<t*(V'+P*(v2+1000000000*v1)):=by
 have h1:0<=t*V':=xO h0 xU
 have h3:P*(r*1000000000+u2+1)<=P*(t*v2):=rI (by omega) (by omega)
 have h5:t*(V'+P*(v2+1000000000*v1))=t*V'+P*(t*v2)+1000000000*(P*(t*v1)):=by grind
 have h6:U'+P*(u2+1000000000*u1)=U'+P*(r*1000000000+u2+1)-P+1000000000*(P*(t*v1)):=by subst hinv;grind
 omega
def Yed{x:Int}(h1:1<=x)(h2:x<1000000000):500000000<=x*(1000000000/(x+1)):=by
 have hd:(x+1)*(1000000000/(x+1))+1000000000%(x+1)=1000000000:=EL ..
 have hr:1000000000%(x+1)<x+1:=EH _ (by omega)
 have d_:0<=1000000000%(x+1):=EN _ (by omega)
 generalize 1000000000/(x+1)=d at*
 generalize 1000000000%(x+1)=r at*
 have e:(x+1)*d=x*d+d:=by grind
 apply EM
 intro hc
 by_cases hx:x<=500000000
 ·have h3:500000000-x+1<=d:=by omega
  have h4:x*(500000000-x+1)<=x*d:=rI h3 (by omega)
  have h5:0<=(x-1)*(500000000-x):=xO (by omega) (by omega)
  have h6:(x-1)*(500000000-x)=x*(500000000-x+1)-500000000:=by grind
  omega
 ·have h3:1<=d:=by
   apply EM;intro h
   have:d<=0:=by omega
   have:(x+1)*d<=0:=Int.mul_nonpos_of_nonneg_of_nonpos (by omega) this
   omega
  have h4:x*1<=x*d:=rI h3 (by omega)
  omega
def W9{m:Nat}(h:∀t,m<=t->t<w.length->w[t]?=some 0):vI w=vI (w.take m):=by
 by_cases hm:m<=w.length
 ·have h1:=LV w m hm
  have h2:w.drop m=List.replicate (w.length-m) 0:=by
   apply og
   intro t
   rw[ff,List.getElem?_replicate]
   by_cases ht:t<w.length-m
   ·rw[ax ht];exact h _ (by omega) (by omega)
   ·rw[ak ht];exact fv (by omega)
  rw[h2,WU]at h1
  omega
 ·rw[fb (by omega)]
def Yne{k:Nat}{a c d:Int}(ha:w[k]?=some a)(hc:w[k+1]?=some c)(hd:w[k+2]?=some d)(hz:∀t,k+3<=t->t<w.length->w[t]?=some 0):
  vI w=vI (w.take k)+pI k*(a+1000000000*(d*1000000000+c)):=by
 rw[W9 hz,show k+3=(k+2)+1 by omega,zK hd,zK hc,zK ha,v_ (k+1),v_ k]
 grind
def Ynf{k:Nat}{a c:Int}(ha:w[k]?=some a)(hc:w[k+1]?=some c)(hl:w.length=k+2):
  vI w=vI (w.take k)+pI k*(a+1000000000*c):=by
 have h1:vI w=vI (w.take (k+1+1)):=by rw[fb (by omega)]
 rw[h1,zK hc,zK ha,v_ k]
 grind
def Yhw{n:Nat}{t:Int}(hd:Di (w.take n))(ht:w[n]?=some t)(hz:∀j,n<j->j<w.length->w[j]?=some 0)(h1:vI w<pI n):(0<=vI w->t=0)/\(vI w<0->t<0):=by
 have hl:=jt ht
 have h2:vI w=vI (w.take n)+pI n*t:=by
  rw[W9 (m:=n+1) (fun j h1 h2=>hz j (by omega) h2),zK ht]
 have h3:=wc hd
 have h4:=we hd
 rw[gO,qt (by omega)]at h4
 have h5:=C7 n
 constructor
 ·intro h
  have h6:¬t<= -1:=fun hc=>by
   have:=rI hc (uY h5)
   omega
  have h7:¬1<=t:=fun hc=>by
   have:=rI hc (uY h5)
   omega
  omega
 ·intro h
  apply JR
  intro hc
  have:=xO (uY h5) hc
  omega
variable {N k:Nat} {s:aQ}
def Yxa:(N=N+1)=False:=eq_false (by omega)
def Yw1:(N+1=N)=False:=eq_false (by omega)
def Yxs:(N+1<N)=False:=eq_false (by omega)
def Yw9:(N=N+1+1)=False:=eq_false (by omega)
def Yw0:(N+1+1=N)=False:=eq_false (by omega)
def Yxr:(N+1+1<N)=False:=eq_false (by omega)
def Yw8:(N=N+1+1+1)=False:=eq_false (by omega)
def Ywz:(N+1+1+1=N)=False:=eq_false (by omega)
def Yxq:(N+1+1+1<N)=False:=eq_false (by omega)
def Yw7:(N=N+1+1+1+1)=False:=eq_false (by omega)
def Ywy:(N+1+1+1+1=N)=False:=eq_false (by omega)
def Yxp:(N+1+1+1+1<N)=False:=eq_false (by omega)
def Yw6:(N=N+1+1+1+1+1)=False:=eq_false (by omega)
def Ywx:(N+1+1+1+1+1=N)=False:=eq_false (by omega)
def Yxo:(N+1+1+1+1+1<N)=False:=eq_false (by omega)
def Yw5:(N=N+1+1+1+1+1+1)=False:=eq_false (by omega)
def Yww:(N+1+1+1+1+1+1=N)=False:=eq_false (by omega)
def Yxn:(N+1+1+1+1+1+1<N)=False:=eq_false (by omega)
def Yw4:(N=N+1+1+1+1+1+1+1)=False:=eq_false (by omega)
def Ywv:(N+1+1+1+1+1+1+1=N)=False:=eq_false (by omega)
def Yxm:(N+1+1+1+1+1+1+1<N)=False:=eq_false (by omega)
def Yw3:(N=N+1+1+1+1+1+1+1+1)=False:=eq_false (by omega)
def Ywu:(N+1+1+1+1+1+1+1+1=N)=False:=eq_false (by omega)
def Yxl:(N+1+1+1+1+1+1+1+1<N)=False:=eq_false (by omega)
def Yw2:(N=N+1+1+1+1+1+1+1+1+1)=False:=eq_false (by omega)
def Ywt:(N+1+1+1+1+1+1+1+1+1=N)=False:=eq_false (by omega)
def Yxk:(N+1+1+1+1+1+1+1+1+1<N)=False:=eq_false (by omega)
def Yvh:(N=N+1+1+1+1+1+1+1+1+1+1)=False:=eq_false (by omega)
def Yvb:(N+1+1+1+1+1+1+1+1+1+1=N)=False:=eq_false (by omega)
def Yvt:(N+1+1+1+1+1+1+1+1+1+1<N)=False:=eq_false (by omega)
def Yvg:(N=N+1+1+1+1+1+1+1+1+1+1+1)=False:=eq_false (by omega)
def Yva:(N+1+1+1+1+1+1+1+1+1+1+1=N)=False:=eq_false (by omega)
def Yvs:(N+1+1+1+1+1+1+1+1+1+1+1<N)=False:=eq_false (by omega)
def Yvf:(N=N+1+1+1+1+1+1+1+1+1+1+1+1)=False:=eq_false (by omega)
def Yu9:(N+1+1+1+1+1+1+1+1+1+1+1+1=N)=False:=eq_false (by omega)
def Yvr:(N+1+1+1+1+1+1+1+1+1+1+1+1<N)=False:=eq_false (by omega)
def Yve:(N=N+1+1+1+1+1+1+1+1+1+1+1+1+1)=False:=eq_false (by omega)
def Yu8:(N+1+1+1+1+1+1+1+1+1+1+1+1+1=N)=False:=eq_false (by omega)
def Yvq:(N+1+1+1+1+1+1+1+1+1+1+1+1+1<N)=False:=eq_false (by omega)
def Yvd:(N=N+1+1+1+1+1+1+1+1+1+1+1+1+1+1)=False:=eq_false (by omega)
def Yu7:(N+1+1+1+1+1+1+1+1+1+1+1+1+1+1=N)=False:=eq_false (by omega)
def Yvp:(N+1+1+1+1+1+1+1+1+1+1+1+1+1+1<N)=False:=eq_false (by omega)
def Yvc:(N=N+1+1+1+1+1+1+1+1+1+1+1+1+1+1+1)=False:=eq_false (by omega)
def Yu6:(N+1+1+1+1+1+1+1+1+1+1+1+1+1+1+1=N)=False:=eq_false (by omega)
def Yvo:(N+1+1+1+1+1+1+1+1+1+1+1+1+1+1+1<N)=False:=eq_false (by omega)
attribute [simp] Yxa Yw1 Yxs Yw9 Yw0 Yxr Yw8 Ywz Yxq Yw7 Ywy Yxp Yw6 Ywx Yxo Yw5 Yww Yxn Yw4 Ywv Yxm Yw3 Ywu Yxl Yw2 Ywt Yxk Yvh Yvb Yvt Yvg Yva Yvs Yvf Yu9 Yvr Yve Yu8 Yvq Yvd Yu7 Yvp Yvc Yu6 Yvo
def Yxj:(N<N+1)=True:=eq_true (by omega)
def Yxi:(N<N+1+1)=True:=eq_true (by omega)
def Yxh:(N<N+1+1+1)=True:=eq_true (by omega)
def Yxg:(N<N+1+1+1+1)=True:=eq_true (by omega)
def Yxf:(N<N+1+1+1+1+1)=True:=eq_true (by omega)
def Yxe:(N<N+1+1+1+1+1+1)=True:=eq_true (by omega)
def Yxd:(N<N+1+1+1+1+1+1+1)=True:=eq_true (by omega)
def Yxc:(N<N+1+1+1+1+1+1+1+1)=True:=eq_true (by omega)
def Yxb:(N<N+1+1+1+1+1+1+1+1+1)=True:=eq_true (by omega)
def Yvn:(N<N+1+1+1+1+1+1+1+1+1+1)=True:=eq_true (by omega)
def Yvm:(N<N+1+1+1+1+1+1+1+1+1+1+1)=True:=eq_true (by omega)
def Yvl:(N<N+1+1+1+1+1+1+1+1+1+1+1+1)=True:=eq_true (by omega)
def Yvk:(N<N+1+1+1+1+1+1+1+1+1+1+1+1+1)=True:=eq_true (by omega)
def Yvj:(N<N+1+1+1+1+1+1+1+1+1+1+1+1+1+1)=True:=eq_true (by omega)
def Yvi:(N<N+1+1+1+1+1+1+1+1+1+1+1+1+1+1+1)=True:=eq_true (by omega)
attribute [simp] Yxj Yxi Yxh Yxg Yxf Yxe Yxd Yxc Yxb Yvn Yvm Yvl Yvk Yvj Yvi
def Call.eq{C:Cx}{g:V}{args:List V}{st aA:St}{u:V}(h:Call C g args st (fun v s=>v=u/\s=aA)):C.call g args st=some (u,aA):=by
 obtain⟨v,s,e,rfl,rfl⟩:=h.ex
 exact e
def Zr0{C:Cx}{K:List Kf}{Q:Rs->Prop}{fr:Fr}{st:St}{i j:Nat}(h:¬j=i):bz C (.block i::K) (some (.ex (.exit j) fr st)) Q↔bz C K (some (.ex (.exit j) fr st)) Q:=Zr1 (by
 cases hb:Nat.beq j i with
 |false=>rfl
 |true=>exact absurd (QU hb) h)
attribute [simp] Zr0
def bn:List Int->Int
 |[]=>0
 |e::l=>if e=0 then bn l else e
def a_{α:Type}{l:List α}(h:k<l.length):∃d,l[k]?=some d:=⟨_,cF h⟩
def Xa(c:UInt8):kl c=decide (48<=cK c/\cK c<=57):=by
 unfold kl cK;rw[decide_eq_decide];omega
def oQ(k:Nat):List V:=(List.range 256).map fun i=>.bool (decide (48<=i/\i<48+k))
def AH(k:Nat):(oQ k).length=256:=by simp[oQ]
def J6{i:Nat}(hi:i<256):(oQ k)[i]?=some (.bool (decide (48<=i/\i<48+k))):=by simp[oQ,hi]
def Zzf(k:Nat):(oQ k).all V.one=true:=by simp[oQ,V.one]
def Ylh(hk:k<10):ae (oQ k) (48+k) [.bool true]=oQ (k+1):=by
 apply og
 intro j
 unfold ae
 rw[tU,List.getElem?_append,gO,AH,qt (by omega)]
 by_cases h1:j<48+k
 ·rw[ax h1,iI,ax h1,J6 (by omega),J6 (by omega)]
  congr 3;rw[eq_iff_iff];omega
 ·rw[ak h1]
  by_cases h2:j=48+k
  ·subst h2
   rw[J6 (by omega)]
   simp
  ·rw[show j-(48+k)=(j-(48+k)-1)+1 by omega]
   simp only[QX,EJ,ff,Az]
   rw[show 48+k+1+(j-(48+k)-1)=j by omega]
   by_cases h3:j<256
   ·rw[J6 h3,J6 h3];congr 3;rw[eq_iff_iff];omega
   ·rw[fv (by rw[AH];omega),fv (by rw[AH];omega)]
def Yg2(k:Nat):(oQ k).take 256=oQ k:=fb (by rw[AH];omega)
def Ylg(j k:Nat):ae (oQ j) 0 (oQ k)=oQ k:=by
 unfold ae;rw[AH,qh (by rw[AH];omega)];simp
attribute [simp] AH Zzf Yg2 Ylg
def cI(s:aQ):Bool:=s.all kl
def Xb:aQ:=[48,49,50,51,52,53,54,55,56,57]
def Ykq(hk:k<10):∃c,Xb[k]?=some c/\cK c=48+k:=by
 have:k=0\/k=1\/k=2\/k=3\/k=4\/k=5\/k=6\/k=7\/k=8\/k=9:=by omega
 rcases this with rfl|rfl|rfl|rfl|rfl|rfl|rfl|rfl|rfl|rfl<;>exact⟨_,rfl,rfl⟩
def B6{n:Int}(h1:0<=n)(h2:n<256):bh .u8 n=n:=by
 rw[AB]
 simp[IntKind.wrap,IntKind.bits,IntKind.signed]
 omega
def LW{n:Int}(h1: -9223372036854775808<=n)(h2:n<9223372036854775808):IntKind.wrap .i64 n=n:=by
 simp[IntKind.wrap,IntKind.bits,IntKind.signed]
 omega
def LX(l:aQ)(c:UInt8):aF (l++[c])=10*aF l+(c.toNat-48):=by simp[aF]
def Xc{c:UInt8}(h:s[k]?=some c):aF (s.take (k+1))=10*aF (s.take k)+(c.toNat-48):=by
 rw[uQ,h]
 simp only[Option.toList,LX]
def LY(h:cI s=true){k:Nat}{c:UInt8}(hc:s[k]?=some c):48<=cK c/\cK c<=57:=by
 unfold cI at h
 rw[me]at h
 have:=h c (bM hc)
 rw[Xa]at this
 simpa using this
def Q6{s:aQ}(h:cI s=true):∀k,k<=s.length->aF (s.take k)<10^k
 |0,_=>by simp[aF]
 |k+1,hk=>by
  obtain⟨c,hc⟩:=a_ (l:=s) (k:=k) (by omega)
  have h1:=Q6 h k (by omega)
  have h2:=LY h hc
  unfold cK at h2
  rw[Xc hc,gw]
  omega
def B7(h:cI s=true):aF s<10^s.length:=by
 have:=Q6 h s.length (aO _)
 rwa [xE]at this
def Q7{a b:Nat}(h:a<=b):10^a<=10^b:=rJ (by decide) h
def Yli(h:k<9223372036854775808):rN .and .i64 (k:Int) 1=some (.int .i64 ((k%2:Nat):Int)):=by
 show some (V.int .i64 (IntKind.wrap .i64 (BitVec.ofInt 64 (k:Int)&&& BitVec.ofInt 64 1).toNat))=_
 have e:(BitVec.ofInt 64 1).toNat=2^1-1:=by decide
 rw[BitVec.toNat_and,Q8 k (by omega),e,Nat.and_two_pow_sub_one_eq_mod,LW (by omega) (by omega)]
def Yia:zC .shr .i64 (k:Int) 1=some (.int .i64 ((k/2:Nat):Int)):=by
 unfold zC
 have e:min (1:Int).toNat (IntKind.bits .i64)=1:=by decide
 rw[ak (by decide),e]
 simp only[an,V.int.injEq,true_and]
 rw[Int.fdiv_eq_ediv_of_nonneg _ (by decide)]
 rfl
variable {N i:Nat} {h:T O} {k v:V}
def ab.new{h1:T O}{n n1:Nat}(k:ab h n h1 n1)(o:O):ab h n (h1.set n1 o) (n1+1):=(k.set k.le).up (vF _)
abbrev mw(C:Cx)(f:V)(args:List V)(h:T O)(n:Nat)(P:V->T O->Nat->Prop):Prop:=∀w,Call C f args ⟨h,n,w⟩ (az P h n w)
def CG{C:Cx}{f args h n w P K Q}(hf:mw C f args h n P)(k:∀v h' n',ab h n h' n'->P v h' n'->bz C K (some (.val v ⟨h',n',w⟩)) Q):bz C K (tB (C.call f args ⟨h,n,w⟩)) Q:=
 An (hf w) fun v aA=>by
  obtain⟨h',n',w'⟩:=aA
  rintro⟨rfl,hk,hp⟩
  exact k v h' n' hk hp
def oo(p:Nat->Bool)(k:Nat):Nat->Int
 |0=> -1
 |m+1=>if p k=true then (k:Int) else oo p (k+1) m
def Zuj{p:Nat->Bool}:∀{m k:Nat},(0<=oo p k m↔∃j,k<=j/\j<k+m/\p j=true)
 |0,k=>by simp[oo];intro j h1 h2;omega
 |m+1,k=>by
  simp only[oo]
  by_cases h:p k=true
  ·rw[ax h];exact⟨fun _=>⟨k,aO _,by omega,h⟩,fun _=>by omega⟩
  ·rw[ak h,Zuj (m:=m) (k:=k+1)]
   constructor
   ·rintro⟨j,h1,h2,h3⟩;exact⟨j,by omega,by omega,h3⟩
   ·rintro⟨j,h1,h2,h3⟩
    refine⟨j,?_,by omega,h3⟩
    have:j≠k:=fun hj=>h (hj▸h3)
    omega
def Hw(v:V):Prop:=v=.aa\/v=.empty\/∃i o n c z,v=.slice i o n c z
def Sl.form{l:List V}(s:Sl h N v l):Hw v:=by
 rcases s with⟨_,h|h⟩|⟨i,o,cp,c,e,rw,h,_⟩
 ·exact .inl h
 ·exact .inr (.inl h)
 ·exact .inr (.inr ⟨_,_,_,_,_,h⟩)
def Hw.one(h:Hw v):V.one v=true:=by
 rcases h with rfl|rfl|⟨_,_,_,_,_,rfl⟩<;>rfl
def Hw.cells(h:Hw v):V.cells v=[v]:=by
 rcases h with rfl|rfl|⟨_,_,_,_,_,rfl⟩<;>rfl
def strs(l:List aQ):List V:=l.map .str
def tn(l:List aQ):(strs l).length=l.length:=by simp[strs]
def B8{l:List aQ}{j:Nat}{n:aQ}(h:l[j]?=some n):(strs l)[j]?=some (.str n):=by simp[strs,h]
attribute [simp] tn
def Xd(s:xV)(rQ:V):List V:=[.str s.name,.str s.op,.str s.Hx,rQ,.int .i64 s.cost]
def Gr(h:T O)(N:Nat)(v:V)(g:List xV):Prop:=∃l:List (List V),Sn 5 h N v l/\l.length=g.length/\∀(j:Nat) (s:xV),g[j]?=some s->∃rQ,l[j]?=some (Xd s rQ)/\Sl h N rQ (strs s.kV)
def Gr.ad{h':T O}{N':Nat}{g:List xV}(s:Gr h N v g)(k:ab h N h' N'):Gr h' N' v g:=by
 obtain⟨l,h1,h2,h3⟩:=s
 refine⟨l,h1.ad k,h2,fun j s hs=>?_⟩
 obtain⟨rQ,h4,h5⟩:=h3 j s hs
 exact⟨rQ,h4,h5.ad k⟩
def Gr.at{g:List xV}(s:Gr h N v g){j:Nat}{x:xV}(hj:g[j]?=some x):∃i o c e rw rQ,xA v=some (i,o)/\i<N/\h.get i=some (.cells c e rw)/\aC c (o+j*5) 5=some (Xd x rQ)/\Sl h N rQ (strs x.kV):=by
 obtain⟨l,h1,h2,h3⟩:=s
 obtain⟨rQ,h4,h5⟩:=h3 j x hj
 obtain⟨i,o,c,e,rw,q1,q2,q3,q4⟩:=h1.at h4
 exact⟨i,o,c,e,rw,rQ,q1,q2,q3,q4,h5⟩
def Gr.slice{g:List xV}{w:List Nat}(s:Gr h N v g){lo hi:Nat}(h1:lo<=hi)(h2:hi<=g.length)(x y:Option V)(hx:x=some (.int .i64 lo)\/x=none/\lo=0)(hy:y=some (.int .i64 hi)\/y=none/\hi=g.length):
  ∃v',mR ⟨h,N,w⟩ 5 (some v) (some x) (some y) (some none)=some (v',⟨h,N,w⟩)/\Gr h N v' ((g.take hi).drop lo):=by
 obtain⟨l,g1,g2,g3⟩:=s
 obtain⟨v',e1,e2⟩:=Zs6 (z:=5) (w:=w) (by decide) g1 h1 (by omega) x y hx (by rw[g2];exact hy)
 refine⟨v',e1,(l.take hi).drop lo,e2,by simp[g2],fun j s hs=>?_⟩
 have hj:lo+j<hi:=by
  apply tW;intro hc
  rw[ff,iI,ak (by omega)]at hs;cases hs
 rw[ff,iI,ax hj]at hs
 obtain⟨rQ,q1,q2⟩:=g3 _ s hs
 exact⟨rQ,by rw[ff,iI,ax hj];exact q1,q2⟩
def Yux{a b c d e:V}:aC [a,b,c,d,e] 0 5=some [a,b,c,d,e]:=rfl
def Yuy{a b:V}:aC [a,b] 0 2=some [a,b]:=rfl
attribute [simp] Yux Yuy
def Xe(st:St)(zero:V)(ok:Bool):Option (Option (Nat×V))->Option (V×St)
 |some (some (_,v))=>some (if ok then .aV [v,.bool true] else v,st)
 |some none=>some (if ok then .aV [zero,.bool false] else zero,st)
 |none=>none
def Q9(st:St)(kd:kK)(zero:V)(ok:Bool)(k:V):Option O->Option (V×St)
 |some (.map es)=>Xe st zero ok (fi kd k es 0)
 |_=>none
def Xf(st:St)(kd:kK)(zero:V)(ok:Bool):Option V->Option V->Option (V×St)
 |some (.map i),some k=>if kd.fits k=true then Q9 st kd zero ok k (st.h.get i) else none
 |some .bP,some k=>if kd.fits k=true then Xe st zero ok (some none) else none
 |_,_=>none
def Zv0{kd:kK}{zero:V}{m k:Src}{ok:Bool}{call:cH}{r:T V}{st:St}:Hp kd zero m k ok call r st=Xf st kd zero ok (m.ev r) (k.ev r):=by
 unfold Hp Xf
 rcases m.ev r with _|m
 ·rfl
 ·rcases k.ev r with _|k
  ·cases m<;>rfl
  ·cases m<;>simp only[]<;>(try (by_cases hf:kd.fits k=true<;>simp[hf]))<;>try rfl
   ·rename_i i
    rcases st.h.get i with _|o
    ·rfl
    ·cases o<;>simp only[Q9]
     rename_i es
     rcases fi kd k es 0 with _|_|⟨_,_⟩<;>rfl
def Ye2{st:St}{zero:V}{ok:Bool}{s:aQ}:Xf st .str zero ok (some (.map i)) (some (.str s))=Q9 st .str zero ok (.str s) (st.h.get i):=rfl
def Zwm{st:St}{kd:kK}{zero:V}{ok:Bool}{es:List (V×V)}:Q9 st kd zero ok k (some (.map es))=Xe st zero ok (fi kd k es 0):=rfl
attribute [simp] Zv0 Ye2 Zwm JX
def Xg(st:St)(i:Nat)(k v:V)(es:List (V×V)):Option (Option (Nat×V))->Option (V×St)
 |some (some (j,_))=>some (.aV [],st.write i (.map (es.set j (k,v))))
 |some none=>some (.aV [],st.write i (.map (es++[(k,v)])))
 |none=>none
def Ra(st:St)(kd:kK)(i:Nat)(k v:V):Option O->Option (V×St)
 |some (.map es)=>Xg st i k v es (fi kd k es 0)
 |_=>none
def AI(st:St)(kd:kK):Option V->Option V->Option V->Option (V×St)
 |some (.map i),some k,some v=>if kd.fits k=true then Ra st kd i k v (st.h.get i) else none
 |_,_,_=>none
def Zvz{kd:kK}{m k v:Src}{call:cH}{r:T V}{st:St}:EY kd m k v call r st=AI st kd (m.ev r) (k.ev r) (v.ev r):=by
 unfold EY AI
 rcases m.ev r with _|m
 ·rfl
 ·rcases k.ev r with _|k
  ·cases m<;>rfl
  ·rcases v.ev r with _|v
   ·cases m<;>rfl
   ·cases m with
    |map i=>
     simp only[]
     by_cases hf:kd.fits k=true
     ·simp only[hf,if_true]
      rcases st.h.get i with _|o
      ·rfl
      ·cases o<;>simp only[Ra]
       rename_i es
       rcases fi kd k es 0 with _|_|⟨_,_⟩<;>rfl
     ·simp[hf]
    |_=>rfl
def Yeh{st:St}{s:aQ}:AI st .str (some (.map i)) (some (.str s)) (some v)=Ra st .str i (.str s) v (st.h.get i):=rfl
def Zv9{st:St}{kd:kK}{es:List (V×V)}:Ra st kd i k v (some (.map es))=Xg st i k v es (fi kd k es 0):=rfl
def Yaf{st:St}{es:List (V×V)}:Xg st i k v es (some none)=some (.aV [],st.write i (.map (es++[(k,v)]))):=rfl
attribute [simp] Zvz Yeh Zv9 Yaf
def ab.then{h h1 h2:T O}{n n1 n2:Nat}(a:ab h n h1 n1)(b:ab h1 n h2 n2):ab h n h2 n2:=⟨b.le,fun i hi=>(b.get i hi).trans (a.get i hi)⟩
def p_(l:List Int):List (List V):=l.map fun x=>[.int .i64 x]
def Dd(l:List Int):(p_ l).length=l.length:=by simp[p_]
def Xh:∀(l:List Int),(p_ l).flatten=dI l
 |[]=>rfl
 |x::l=>by
  have:=Xh l
  simp only[p_,mU,List.flatten_cons,dI]at this ⊢
  rw[this];rfl
def Fe(l:List Int)(x:Int):p_ (l++[x])=p_ l++[[.int .i64 x]]:=by simp[p_]
def Own.sl{e:TypeId}{N0:Nat}{h:T O}{N:Nat}{v:V}{l:List Int}(s:Own 1 e N0 h N v (p_ l)):Sl h N v (dI l):=by
 have:=s.sn
 have e1:p_ l=(dI l).map fun x=>[x]:=by simp[p_,dI]
 rw[e1]at this
 exact Sn.one.1 this
structure Ywk (g:List xV):Prop where
 le:g.length<=16
 name:∀(j:Nat) (s:xV),g[j]?=some s->j<=pos (g.take j) s.name
 rQ:∀(j:Nat) (s:xV),g[j]?=some s->∀n∈s.kV,pos (g.take j) n<j
 cost:∀s∈g,1<=s.cost/\s.cost<=1000
variable {N:Nat} {h:T O}
def Cp(h:T O)(N:Nat)(v:V)(l:List V):Prop:=∃j c,v=.slice j 0 l.length c 1/\j<N/\h.get j=some (.cells l 9 true)/\∀k,c=some k->l.length<=k
def Cp.ad{h':T O}{N':Nat}{v:V}{l:List V}(s:Cp h N v l)(k:ab h N h' N'):Cp h' N' v l:=by
 obtain⟨j,c,h1,h2,h3,h4⟩:=s
 exact⟨j,c,h1,e_ h2 k.le,(k.get j h2).trans h3,h4⟩
def Yse{w:List Nat}{v:V}{l:List V}(s:Sl h N v l):ef ⟨h,N,w⟩ 1 v=some (l.length,l):=by
 rcases s with⟨rfl,rfl|rfl⟩|⟨i,o,cp,c,e,rw,rfl,h2,h3,h4,h5,h6⟩
 ·rfl
 ·rfl
 ·simp only[ef,if_true,St.row,h3,zp]
  have:aC c o l.length=some l:=by
   unfold aC
   rw[ax h5]
   congr 1
   apply og
   intro j
   rw[iI]
   by_cases hj:j<l.length
   ·rw[ax hj,ff];exact h4 j hj
   ·rw[ak hj,fv (by omega)]
  rw[this]
def Xi(h:T O)(N0 N:Nat)(u:V)(g:List xV)(k:Nat):Prop:=∃l:List (List V),Own 5 126 N0 h N u l/\l.length=k/\∀(j:Nat) (s:xV),j<k->g[j]?=some s->∃rQ,l[j]?=some (Xd s rQ)/\Cp h N rQ (strs s.kV)
def Xi.ad{h':T O}{N0 N':Nat}{u:V}{g:List xV}{k:Nat}(s:Xi h N0 N u g k)(kk:ab h N h' N'):Xi h' N0 N' u g k:=by
 obtain⟨l,h1,h2,h3⟩:=s
 refine⟨l,h1.ad kk,h2,fun j s hj hs=>?_⟩
 obtain⟨rQ,h4,h5⟩:=h3 j s hj hs
 exact⟨rQ,h4,h5.ad kk⟩
def Sl.setInt{h:T O}{N:Nat}{v:V}{l:List Int}{i:Nat}{c0 c1:List V}{e0 e1:TypeId}{w0 w1:Bool}(s:Sl h N v (dI l))(hr:h.get i=some (.cells c0 e0 w0))(hn:∀x∈c0,∀k n,x≠.int k n)(hc:c1.length=c0.length):Sl (h.set i (.cells c1 e1 w1)) N v (dI l):=by
 rcases s with s|⟨j,o,cp,c,e,rw,h1,h2,h3,h4,h5,h6⟩
 ·exact .inl s
 ·by_cases hj:j=i
  ·subst hj
   rw[hr]at h3
   simp only[an,O.cells.injEq]at h3
   obtain⟨rfl,rfl,rfl⟩:=h3
   cases l with
   |nil=>exact .inr ⟨j,o,cp,c1,e1,w1,h1,h2,by rw[T.ag];simp,fun k hk=>by simp[dI]at hk,by rw[hc];exact h5,h6⟩
   |cons d l=>
    have:=h4 0 (by simp[dI])
    simp only[dI,mU,BS]at this
    exact absurd rfl (hn _ (bM this) .i64 d)
  ·exact .inr ⟨j,o,cp,c,e,rw,h1,h2,by rw[T.ag,ak hj];exact h3,h4,h5,h6⟩
open Go Go.Proofs
set_option maxRecDepth 1000000
abbrev A.F(n:Nat):=zg Tryz.prog n
def mv(a b:Nat):dr:=⟨some a,.jF (.tmp b),none⟩
def mc(a:Nat)(n:Int):dr:=⟨some a,.jF (.const (.int .i64 n)),none⟩
def ia(a z x i:Nat):dr:=⟨some a,.dh z (.tmp x) (.tmp i),none⟩
def ld(a x:Nat):dr:=⟨some a,.load none (.tmp x),none⟩
def xt(a x i:Nat):dr:=⟨some a,.extract (.tmp x) i,none⟩
def bi(a:Nat)(o:BinOp)(x y:Nat):dr:=⟨some a,.bin o (.node []) false (.tmp x) (.tmp y),none⟩
def bc(a:Nat)(o:BinOp)(x:Nat)(n:Int):dr:=⟨some a,.bin o (.node []) false (.tmp x) (.const (.int .i64 n)),none⟩
def ln(a x:Nat):dr:=⟨some a,.len 1 (.tmp x),none⟩
def so(a x:Nat):dr:=⟨none,.store 1 (.tmp a) (.tmp x),none⟩
def c1(a f x:Nat):dr:=⟨some a,.call (.const (.func f [] [])) [.tmp x],none⟩
def c2(a f x y:Nat):dr:=⟨some a,.call (.const (.func f [] [])) [.tmp x,.tmp y],none⟩
def lN(a n x:Nat):dr:=⟨some a,.load (some n) (.tmp x),none⟩
def fa(a o x:Nat):dr:=⟨some a,.i_ o (.tmp x),none⟩
def pf(a x y:Nat):dr:=⟨some a,.pick (.tmp x) (.tmp y) (.const (.bool false)),none⟩
def pt(a x y:Nat):dr:=⟨some a,.pick (.tmp x) (.const (.bool true)) (.tmp y),none⟩
def ei(a x:Nat)(n:Int):dr:=⟨some a,.bin .eql (.bI .int) true (.tmp x) (.const (.int .i64 n)),none⟩
def ni(a x:Nat)(n:Int):dr:=⟨some a,.bin .neq (.bI .int) true (.tmp x) (.const (.int .i64 n)),none⟩
def mN(a:Nat):dr:=⟨some a,.jF (.const .aa),none⟩
def bx(a e x:Nat):dr:=⟨some a,.box e (.tmp x),none⟩
def mg(a x g:Nat):dr:=⟨some a,.jF (.tmp x),some (g,true)⟩
def mh(a x g:Nat):dr:=⟨some a,.jF (.tmp x),some (g,false)⟩
def sr(l:List dr)(c:bN):bN:=.seq (.dN l) c
def cd(x:Nat)(a b:bN):bN:=.cond (.tmp x) a b
def ge(a:Nat)(o:gm):dr:=⟨some a,o,none⟩
def gn(o:gm):dr:=⟨none,o,none⟩
def gy(a g:Nat)(o:gm):dr:=⟨some a,o,some (g,true)⟩
def gz(a g:Nat)(o:gm):dr:=⟨some a,o,some (g,false)⟩
abbrev tq(x:Nat):Src:=.tmp x
abbrev kq(n:Int):Src:=.const (.int .i64 n)
abbrev fq(f:Nat):Src:=.const (.func f [] [])
attribute [simp] BS EJ mv mc ia ld xt bi bc ln so c1 c2 lN fa pf pt ei ni mN bx mg mh sr cd ge gn gy gz
def A.LZ:O:=.cells (([1,10,100,1000,10000,100000,1000000,10000000,100000000,1000000000,10000000000,100000000000,1000000000000,10000000000000,100000000000000,1000000000000000,10000000000000000,100000000000000000,1000000000000000000,10000000000000000000]:List Int).map fun z=>.int .u64 z) 286 false
def A.TB:List (Nat×O):=[(5,A.LZ)]
def A.C:Cx:=⟨J7 A.TB [⟨7,[],.bool true⟩],zg Tryz.prog⟩
def A.t:A.C.dJ=zg Tryz.prog:=rfl
def A.x0{f:Nat}{a c args:List V}{st:St}(h:Nat.beq 7 f=false):A.C.x (.func f a c) args st=none:=by
 show J7 A.TB [⟨7,[],.bool true⟩] (.func f a c) args st=none
 unfold J7
 split
 ·rename_i heq
  simp only[V.func.injEq]at heq
  obtain⟨rfl,rfl,rfl⟩:=heq
  simp only[J8,h]
 ·rfl
def Yv7(P:Program)(fn:Func):bN:=match fn.body with
 |some c=>iL P c
 |none=>.skip
def Ff:bN->List bN
 |.seq a b=>Ff a++Ff b
 |.cond _ a b=>Ff a++Ff b
 |.block _ a=>Ff a
 |.scope a=>Ff a
 |.loop a=>a::Ff a
 |_=>[]
def Fg:List bN->bN->bN×List bN
 |ls,.seq a b=>match Fg ls a with
  |(a,ls)=>match Fg ls b with
   |(b,ls)=>(.seq a b,ls)
 |ls,.cond s a b=>match Fg ls a with
  |(a,ls)=>match Fg ls b with
   |(b,ls)=>(.cond s a b,ls)
 |ls,.block k a=>match Fg ls a with
  |(a,ls)=>(.block k a,ls)
 |ls,.scope a=>match Fg ls a with
  |(a,ls)=>(.scope a,ls)
 |l::ls,.loop _=>(.loop l,ls)
 |ls,c=>(c,ls)
@[simp] def A.q (f:Func) {b:bN} (_h:Yv7 Tryz.prog f=b:=by conv=>lhs;cbv):bN:=b
@[simp] def A.ql (w:bN) (i:Nat) (ls:List bN) {b:bN} (_h:(Fg ls ((Ff w)[i]?.getD .skip)).1=b:=by conv=>lhs;cbv):bN:=b
@[simp] def A.qb (w:bN) (ls:List bN) {b:bN} (_h:(Fg ls w).1=b:=by conv=>lhs;cbv):bN:=b
def A.kk{n k:Nat}{res:List Eo}{b:bN}(hc:zg Tryz.prog n=some ⟨k,res,b⟩)(hx:Nat.beq 7 n=false){K:List Kf}{Q:Rs->Prop}{f c args:List V}{st:St}(h:(f++args++c).length<=k):bz A.C K (tB (A.C.call (.func n f c) args st)) Q↔bz A.C (.fin res st::K) (eK (A.C.code none b ⟨zJ .nil 0 (f++args++c),k,[]⟩ ⟨st.h,st.n,[]⟩)) Q:=Yik (A.x0 (f:=n) hx) (mf:=⟨k,res,b⟩) (by rw[A.t];exact hc) h
def A.known{h:T O}{N:Nat}{w:List Nat}(hp:h.get 5=some A.LZ):A.C.call (.func 7 [] []) [] ⟨h,N,w⟩=some (.bool true,⟨h,N,w⟩):=by
 have hq:J9 (h.get 5) A.LZ=true:=by rw[hp];decide+kernel
 have hi:Fh ⟨h,N,w⟩ A.TB=true:=by
  show (match J9 (h.get 5) A.LZ with|true=>true|false=>false)=true
  rw[hq]
 have hx:A.C.x (.func 7 [] []) [] ⟨h,N,w⟩=some (.bool true,⟨h,N,w⟩):=by
  show (match Fh ⟨h,N,w⟩ A.TB with|true=>some (V.bool true,(⟨h,N,w⟩:St))|false=>none)=_
  rw[hi]
 rw[Cx.mO]
 unfold tk
 rw[hx]
end
end Go.Mx
