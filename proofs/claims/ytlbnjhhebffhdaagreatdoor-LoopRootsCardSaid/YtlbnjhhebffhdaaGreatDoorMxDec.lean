/-Digits to the base 10^9, as integers-/
import Derived.Test.YtlbnjhhebffhdaaGreatDoorMxWord
import Derived.Test.YtlbnjhhebffhdaaGreatDoorProg
set_option linter.all false
namespace Go.Mx
noncomputable section
open Go
variable {d:Int} {j k n:Nat} {l:List Int}
def vI:List Int->Int
 |[]=>0
 |d::l=>d+1000000000*vI l
def pI(k:Nat):Int:=1000000000^k
def uw(k:Nat):pI (k+1)=1000000000*pI k:=by unfold pI;rw[Int.pow_succ,Int.mul_comm]
def Ymt:pI 0=1:=rfl
def B8(k:Nat):0<pI k:=by unfold pI;exact Int.pow_pos (by decide)
def Tm(i j:Nat):pI (i+j)=pI i*pI j:=by unfold pI;exact Int.pow_add ..
def Zm9:∀(l m:List Int),vI (l++m)=vI l+pI l.length*vI m
 |[],m=>by simp[vI,pI]
 |d::l,m=>by
  simp only[BV,vI,Zm9 l m,bC,uw]
  grind
def B9(l:List Int)(d:Int):vI (l++[d])=vI l+pI l.length*d:=by simp[Zm9,vI]
def Zp9(n:Nat):vI (List.replicate n 0)=0:=by
 induction n with
 |zero=>rfl
 |succ n ih=>simp[Xee,vI,ih]
def yz{α:Type}{l:List α}{d:α}(h:l[k]?=some d):k<l.length:=by
 apply Yxf;intro hc;rw[kc hc]at h;cases h
def xZ(h:l[k]?=some d):vI (l.take (k+1))=vI (l.take k)+pI k*d:=by
 have hk:=yz h
 rw[HQ,h]
 simp only[Option.toList]
 rw[B9,j9,oW (by omega)]
def Of(l:List Int)(k:Nat)(hk:k<=l.length):vI l=vI (l.take k)+pI k*vI (l.drop k):=by
 have:=Zm9 (l.take k) (l.drop k)
 rw[AO,j9,oW hk]at this
 exact this
def Ca:∀{l:List Int} {k:Nat} {c:Int},l[k]?=some c->∀(v:Int),vI (l.set k v)=vI l+pI k*(v-c)
 |[],k,c,h,v=>by simp at h
 |d::l,0,c,h,v=>by
  simp at h;subst h
  simp only[List.set_cons_zero,vI,Ymt];omega
 |d::l,k+1,c,h,v=>by
  have:=Ca (l:=l) (k:=k) (c:=c) (by simpa using h) v
  simp only[List.set_cons_succ,vI,this,uw]
  grind
def Di(l:List Int):Prop:=∀d∈l,0<=d/\d<1000000000
def Di.get(h:Di l){k:Nat}{d:Int}(hd:l[k]?=some d):0<=d/\d<1000000000:=h d (eI hd)
def Di.set(h:Di l){k:Nat}{v:Int}(h0:0<=v)(h1:v<1000000000):Di (l.set k v):=fun d hd=>by
 rcases Aw hd with hd|rfl
 ·exact h d hd
 ·exact⟨h0,h1⟩
def Di.app{m:List Int}(h:Di l)(h':Di m):Di (l++m):=fun d hd=>by
 rcases tg.1 hd with hd|hd
 ·exact h d hd
 ·exact h' d hd
def Di.one{v:Int}(h0:0<=v)(h1:v<1000000000):Di [v]:=fun d hd=>by simp at hd;subst hd;exact⟨h0,h1⟩
def Di.nil:Di []:=fun d hd=>by simp at hd
def Di.DT(n:Nat):Di (List.replicate n 0):=fun d hd=>by rw[LA]at hd;rw[hd.2];decide
def Di.take(h:Di l)(k:Nat):Di (l.take k):=fun d hd=>h d (BR hd)
def Di.drop(h:Di l)(k:Nat):Di (l.drop k):=fun d hd=>h d (List.mem_of_mem_drop hd)
def ux:∀{l:List Int},Di l->0<=vI l
 |[],_=>Int.le_refl _
 |d::l,h=>by
  have h1:=h d oV
  have h2:=ux (l:=l) fun e he=>h e (oY _ he)
  simp only[vI];omega
def uy:∀{l:List Int},Di l->vI l<pI l.length
 |[],_=>by decide
 |d::l,h=>by
  have h1:=h d oV
  have h2:=uy (l:=l) fun e he=>h e (oY _ he)
  simp only[vI,bC,uw];omega
def zI(l:List Int)(j:Nat):Int:=l[j]?.getD 0
def Ylr(h:l[j]?=some d):zI l j=d:=by simp[zI,h]
def Ztv(h:l.length<=j):zI l j=0:=by simp[zI,h]
def Yls{l:List Int}(h:Di l)(j:Nat):0<=zI l j/\zI l j<1000000000:=by
 unfold zI
 cases hj:l[j]? with
 |none=>simp
 |some d=>exact h.get hj
def Zm8{l:List Int}{k:Nat}:vI (l.take (k+1))=vI (l.take k)+pI k*zI l k:=by
 unfold zI
 cases h:l[k]? with
 |some d=>exact xZ h
 |none=>
  have hk:l.length<=k:=by
   apply vD;intro hc;rw[Yv8 hc]at h;cases h
  rw[jP (by omega),jP hk];simp
def rV{α:Type}{l:List α}{d:α}(h:l[k]?=some d):l.drop k=d::l.drop (k+1):=by
 obtain⟨hk,hs⟩:=AM.1 h
 rw[<-hs];exact IC hk
def dI(l:List Int):List V:=l.map fun n=>.int .i64 n
def gp(l:List Int):(dI l).length=l.length:=by simp[dI]
def fY{n:Int}(h:l[j]?=some n):(dI l)[j]?=some (.int .i64 n):=by simp[dI,h]
attribute [simp] gp
def Zi2{v:Int}(h:k<l.length):aj (dI l) k [.int .i64 v]=dI (l.set k v):=by
 unfold aj dI
 apply o8
 intro j
 simp only[zf,jT,List.getElem?_set]
 rw[rB,List.getElem?_append,j9,Lh]
 by_cases h1:j<k
 ·rw[aR (by omega),kW,aR h1,jT,aA (by omega)]
 ·rw[aA (by omega)]
  by_cases h2:j=k
  ·subst h2
   rw[show j-min j l.length=0 by omega,aR rfl,aR h];rfl
  ·rw[show j-min k l.length=(j-k-1)+1 by omega,aA (by omega)]
   simp only[Te,Yx6,gH,jT]
   rw[show k+1+(j-k-1)=j by omega]
def Zq9:dr [.int .i64 0] n=dI (List.replicate n 0):=by rw[Ykb];simp[dI]
def pP:List Int->List Int
 |[]=>[]
 |d::l=>match pP l with
  |[]=>if d=0 then [] else [d]
  |t=>d::t
def Zlm:∀(l:List Int),pP (l++[0])=pP l
 |[]=>rfl
 |d::l=>by simp only[BV,pP,Zlm l]
def Zpb{d:Int}(hd:d≠0):∀(l:List Int),pP (l++[d])=l++[d]
 |[]=>by simp[pP,hd]
 |e::l=>by
  simp only[BV,pP,Zpb hd l]
  cases l<;>rfl
def Zrs:∀(l:List Int),(pP l).length<=l.length
 |[]=>Yv5 _
 |d::l=>by
  have ih:=Zrs l
  simp only[pP]
  split
  ·split<;>simp
  ·simp only[bC];omega
def ds(n:Nat):List Int:=if h:n=0 then [] else ((n%1000000000:Nat):Int)::ds (n/1000000000)
termination_by n
decreasing_by exact BQ (by omega) (by decide)
def ry:ds 0=[]:=by rw[ds];simp
def xN(h:n≠0):ds n=((n%1000000000:Nat):Int)::ds (n/1000000000):=by rw[ds];simp[h]
def ga:∀(n:Nat),vI (ds n)=n:=by
 intro n
 induction n using Nat.strongRecOn with
 |_ n ih=>
  by_cases h:n=0
  ·subst h;rw[ry];rfl
  ·rw[xN h]
   simp only[vI]
   rw[ih (n/1000000000) (BQ (by omega) (by decide))]
   omega
def fW(n:Nat):Di (ds n):=by
 induction n using Nat.strongRecOn with
 |_ n ih=>
  by_cases h:n=0
  ·subst h;rw[ry];exact Di.nil
  ·rw[xN h]
   intro d hd
   rcases kV.1 hd with rfl|hd
   ·omega
   ·exact ih (n/1000000000) (BQ (by omega) (by decide)) d hd
def Zqa:∀{l:List Int},Di l->pP l=ds (vI l).toNat
 |[],_=>by simp[pP,vI,ry]
 |d::l,h=>by
  have hl:Di l:=fun e he=>h e (oY _ he)
  have ih:=Zqa hl
  have hd:=h d oV
  have hn:=ux hl
  simp only[pP,vI,ih]
  by_cases h0:vI l=0
  ·rw[h0]
   simp only[Int.toNat_zero,ry,Int.mul_zero,Int.add_zero]
   by_cases lK:d=0
   ·simp[lK,ry]
   ·rw[xN (by omega),w6 (by omega),zg (by omega),ry];simp[lK];omega
  ·have h3:(d+1000000000*vI l).toNat≠0:=by omega
   rw[xN h3]
   have h1:(d+1000000000*vI l).toNat/1000000000=(vI l).toNat:=by omega
   have h2:(((d+1000000000*vI l).toNat%1000000000:Nat):Int)=d:=by omega
   rw[h1,h2]
   split
   ·rename_i hc;rw[xN (by omega)]at hc;cases hc
   ·rfl
def HR(h:Di l){n:Nat}(hn:vI l=n):pP l=ds n:=by rw[Zqa h,hn];rfl
def Yoe(n:Nat):pP (ds n)=ds n:=HR (fW n) (ga n)
def Bz:ds n=[]↔n=0:=by
 constructor
 ·intro h
  by_cases h0:n=0
  ·exact h0
  ·rw[xN h0]at h;cases h
 ·intro h;rw[h,ry]
def Yof(h:n≠0):∃d,(ds n)[(ds n).length-1]?=some d/\0<d:=by
 have cv:ds n≠[]:=fun hc=>h (Bz.1 hc)
 obtain⟨l,d,hd⟩:∃l d,ds n=l++[d]:=⟨(ds n).dropLast,(ds n).getLast cv,(Yzy cv).symm⟩
 refine⟨d,by rw[hd,iJ,zf];simp,?_⟩
 have h1:=fW n d (by rw[hd];exact List.mem_append_right _ oV)
 have:d≠0:=fun h0=>by
  have h2:=Yoe n
  rw[hd,h0,Zlm]at h2
  have:=Zrs l
  rw[h2]at this;simp at this;omega
 omega
def LS{n k:Nat}(h:n<1000000000^k):(ds n).length<=k:=by
 induction k generalizing n with
 |zero=>
  have:n=0:=by simpa using h
  rw[this,ry];simp
 |succ k ih=>
  by_cases h0:n=0
  ·rw[h0,ry];simp
  ·rw[xN h0]
   have:=ih (n:=n/1000000000) ((pd (by decide)).2 (by rw[<-fV];exact h))
   simp only[bC];omega
def Dn(h:T O)(N:Nat)(v:V)(n:Nat):Prop:=Sl h N v (dI (ds n))
def Dn.ai{h h':T O}{N N':Nat}{v:V}(s:Dn h N v n)(k:ah h N h' N'):Dn h' N' v n:=Sl.ai s k
def Zvl{P u1 u2 U' v1 v2 V' t r:Int}(hP:0<P)(hU':0<=U')(fi:0<=u2)(zp:0<=u1)(nv:0<v1)(ix:0<=v2)(vS:0<=V')(Cc:V'<P)(h0:0<=t)(ht:t<=1000000000)(hinv:u1=t*v1+r)(hc:t*v2<=r*1000000000+u2):
  (t-1)*(V'+P*(v2+1000000000*v1))<=U'+P*(u2+1000000000*u1):=by
 by_cases jS:t=0
 ·subst jS
  have h1:0<=P*(v2+1000000000*v1):=vO (by omega) (by omega)
  have h2:0<=P*(u2+1000000000*u1):=vO (by omega) (by omega)
  omega
 ·have h1:(t-1)*V'<=1000000000*P:=by
   have:(t-1)*V'<=1000000000*V':=DD (by omega) vS
   omega
  have h2:P*1<=P*v1:=qE (by omega) (by omega)
  have h3:P*(t*v2)<=P*(r*1000000000+u2):=qE hc (by omega)
  have h4:0<=P*v2:=vO (by omega) ix
  have h5:(t-1)*(V'+P*(v2+1000000000*v1))=(t-1)*V'+P*(t*v2)-P*v2+1000000000*(P*(t*v1))-1000000000*(P*v1):=by grind
  have h6:U'+P*(u2+1000000000*u1)=U'+P*(r*1000000000+u2)+1000000000*(P*(t*v1)):=by subst hinv;grind
  omega
def Ynt{P u1 u2 U' v1 v2 V' t r:Int}(hP:0<P)(hU':U'<P)(vS:0<=V')(h0:0<=t)(hinv:u1=t*v1+r)(hc:r*1000000000+u2<t*v2):
  U'+P*(u2+1000000000*u1)<t*(V'+P*(v2+1000000000*v1)):=by
 have h1:0<=t*V':=vO h0 vS
 have h3:P*(r*1000000000+u2+1)<=P*(t*v2):=qE (by omega) (by omega)
 have h5:t*(V'+P*(v2+1000000000*v1))=t*V'+P*(t*v2)+1000000000*(P*(t*v1)):=by grind
 have h6:U'+P*(u2+1000000000*u1)=U'+P*(r*1000000000+u2+1)-P+1000000000*(P*(t*v1)):=by subst hinv;grind
 omega
def Ydh{x:Int}(h1:1<=x)(h2:x<1000000000):500000000<=x*(1000000000/(x+1)):=by
 have hd:(x+1)*(1000000000/(x+1))+1000000000%(x+1)=1000000000:=DG ..
 have hr:1000000000%(x+1)<x+1:=DH _ (by omega)
 have kh:0<=1000000000%(x+1):=DI _ (by omega)
 generalize 1000000000/(x+1)=d at*
 generalize 1000000000%(x+1)=r at*
 have e:(x+1)*d=x*d+d:=by grind
 apply DF
 intro hc
 by_cases hx:x<=500000000
 ·have h3:500000000-x+1<=d:=by omega
  have h4:x*(500000000-x+1)<=x*d:=qE h3 (by omega)
  have h5:0<=(x-1)*(500000000-x):=vO (by omega) (by omega)
  have h6:(x-1)*(500000000-x)=x*(500000000-x+1)-500000000:=by grind
  omega
 ·have h3:1<=d:=by
   apply DF;intro h
   have:d<=0:=by omega
   have:(x+1)*d<=0:=Int.mul_nonpos_of_nonneg_of_nonpos (by omega) this
   omega
  have h4:x*1<=x*d:=qE h3 (by omega)
  omega
def Zg9{w:List Int}{m:Nat}(h:∀t,m<=t->t<w.length->w[t]?=some 0):vI w=vI (w.take m):=by
 by_cases hm:m<=w.length
 ·have h1:=Of w m hm
  have h2:w.drop m=List.replicate (w.length-m) 0:=by
   apply o8
   intro t
   rw[gH,List.getElem?_replicate]
   by_cases ht:t<w.length-m
   ·rw[aR ht];exact h _ (by omega) (by omega)
   ·rw[aA ht];exact kc (by omega)
  rw[h2,Zp9]at h1
  omega
 ·rw[jP (by omega)]
def Ylu{w:List Int}{k:Nat}{a c d:Int}(ha:w[k]?=some a)(hc:w[k+1]?=some c)(hd:w[k+2]?=some d)(hz:∀t,k+3<=t->t<w.length->w[t]?=some 0):
  vI w=vI (w.take k)+pI k*(a+1000000000*(d*1000000000+c)):=by
 rw[Zg9 hz,show k+3=(k+2)+1 by omega,xZ hd,xZ hc,xZ ha,uw (k+1),uw k]
 grind
def Ylv{w:List Int}{k:Nat}{a c:Int}(ha:w[k]?=some a)(hc:w[k+1]?=some c)(hl:w.length=k+2):
  vI w=vI (w.take k)+pI k*(a+1000000000*c):=by
 have h1:vI w=vI (w.take (k+1+1)):=by rw[jP (by omega)]
 rw[h1,xZ hc,xZ ha,uw k]
 grind
def Yg2{w:List Int}{n:Nat}{t:Int}(hd:Di (w.take n))(ht:w[n]?=some t)(hz:∀j,n<j->j<w.length->w[j]?=some 0)(h1:vI w<pI n):(0<=vI w->t=0)/\(vI w<0->t<0):=by
 have hl:=yz ht
 have h2:vI w=vI (w.take n)+pI n*t:=by
  rw[Zg9 (m:=n+1) (fun j h1 h2=>hz j (by omega) h2),xZ ht]
 have h3:=ux hd
 have h4:=uy hd
 rw[j9,oW (by omega)]at h4
 have h5:=B8 n
 constructor
 ·intro h
  have h6:¬t<= -1:=fun hc=>by
   have:=qE hc (tr h5)
   omega
  have h7:¬1<=t:=fun hc=>by
   have:=qE hc (tr h5)
   omega
  omega
 ·intro h
  apply LC
  intro hc
  have:=vO (tr h5) hc
  omega
variable {N k:Nat} {s:bj}
def Yuv:(N=N+1)=False:=eq_false (by omega)
def Yum:(N+1=N)=False:=eq_false (by omega)
def Yvd:(N+1<N)=False:=eq_false (by omega)
def Yuu:(N=N+1+1)=False:=eq_false (by omega)
def Yul:(N+1+1=N)=False:=eq_false (by omega)
def Yvc:(N+1+1<N)=False:=eq_false (by omega)
def Yut:(N=N+1+1+1)=False:=eq_false (by omega)
def Yuk:(N+1+1+1=N)=False:=eq_false (by omega)
def Yvb:(N+1+1+1<N)=False:=eq_false (by omega)
def Yus:(N=N+1+1+1+1)=False:=eq_false (by omega)
def Yuj:(N+1+1+1+1=N)=False:=eq_false (by omega)
def Yva:(N+1+1+1+1<N)=False:=eq_false (by omega)
def Yur:(N=N+1+1+1+1+1)=False:=eq_false (by omega)
def Yui:(N+1+1+1+1+1=N)=False:=eq_false (by omega)
def Yu9:(N+1+1+1+1+1<N)=False:=eq_false (by omega)
def Yuq:(N=N+1+1+1+1+1+1)=False:=eq_false (by omega)
def Yuh:(N+1+1+1+1+1+1=N)=False:=eq_false (by omega)
def Yu8:(N+1+1+1+1+1+1<N)=False:=eq_false (by omega)
def Yup:(N=N+1+1+1+1+1+1+1)=False:=eq_false (by omega)
def Yug:(N+1+1+1+1+1+1+1=N)=False:=eq_false (by omega)
def Yu7:(N+1+1+1+1+1+1+1<N)=False:=eq_false (by omega)
def Yuo:(N=N+1+1+1+1+1+1+1+1)=False:=eq_false (by omega)
def Yuf:(N+1+1+1+1+1+1+1+1=N)=False:=eq_false (by omega)
def Yu6:(N+1+1+1+1+1+1+1+1<N)=False:=eq_false (by omega)
def Yun:(N=N+1+1+1+1+1+1+1+1+1)=False:=eq_false (by omega)
def Yue:(N+1+1+1+1+1+1+1+1+1=N)=False:=eq_false (by omega)
def Yu5:(N+1+1+1+1+1+1+1+1+1<N)=False:=eq_false (by omega)
def Ysp:(N=N+1+1+1+1+1+1+1+1+1+1)=False:=eq_false (by omega)
def Ysj:(N+1+1+1+1+1+1+1+1+1+1=N)=False:=eq_false (by omega)
def Ys1:(N+1+1+1+1+1+1+1+1+1+1<N)=False:=eq_false (by omega)
def Yso:(N=N+1+1+1+1+1+1+1+1+1+1+1)=False:=eq_false (by omega)
def Ysi:(N+1+1+1+1+1+1+1+1+1+1+1=N)=False:=eq_false (by omega)
def Ys0:(N+1+1+1+1+1+1+1+1+1+1+1<N)=False:=eq_false (by omega)
def Ysn:(N=N+1+1+1+1+1+1+1+1+1+1+1+1)=False:=eq_false (by omega)
def Ysh:(N+1+1+1+1+1+1+1+1+1+1+1+1=N)=False:=eq_false (by omega)
def Ysz:(N+1+1+1+1+1+1+1+1+1+1+1+1<N)=False:=eq_false (by omega)
def Ysm:(N=N+1+1+1+1+1+1+1+1+1+1+1+1+1)=False:=eq_false (by omega)
def Ysg:(N+1+1+1+1+1+1+1+1+1+1+1+1+1=N)=False:=eq_false (by omega)
def Ysy:(N+1+1+1+1+1+1+1+1+1+1+1+1+1<N)=False:=eq_false (by omega)
def Ysl:(N=N+1+1+1+1+1+1+1+1+1+1+1+1+1+1)=False:=eq_false (by omega)
def Ysf:(N+1+1+1+1+1+1+1+1+1+1+1+1+1+1=N)=False:=eq_false (by omega)
def Ysx:(N+1+1+1+1+1+1+1+1+1+1+1+1+1+1<N)=False:=eq_false (by omega)
def Ysk:(N=N+1+1+1+1+1+1+1+1+1+1+1+1+1+1+1)=False:=eq_false (by omega)
def Yse:(N+1+1+1+1+1+1+1+1+1+1+1+1+1+1+1=N)=False:=eq_false (by omega)
def Ysw:(N+1+1+1+1+1+1+1+1+1+1+1+1+1+1+1<N)=False:=eq_false (by omega)
attribute [simp] Yuv Yum Yvd Yuu Yul Yvc Yut Yuk Yvb Yus Yuj Yva Yur Yui Yu9 Yuq Yuh Yu8 Yup Yug Yu7 Yuo Yuf Yu6 Yun Yue Yu5 Ysp Ysj Ys1 Yso Ysi Ys0 Ysn Ysh Ysz Ysm Ysg Ysy Ysl Ysf Ysx Ysk Yse Ysw
def Yu4:(N<N+1)=True:=eq_true (by omega)
def Yu3:(N<N+1+1)=True:=eq_true (by omega)
def Yu2:(N<N+1+1+1)=True:=eq_true (by omega)
def Yu1:(N<N+1+1+1+1)=True:=eq_true (by omega)
def Yu0:(N<N+1+1+1+1+1)=True:=eq_true (by omega)
def Yuz:(N<N+1+1+1+1+1+1)=True:=eq_true (by omega)
def Yuy:(N<N+1+1+1+1+1+1+1)=True:=eq_true (by omega)
def Yux:(N<N+1+1+1+1+1+1+1+1)=True:=eq_true (by omega)
def Yuw:(N<N+1+1+1+1+1+1+1+1+1)=True:=eq_true (by omega)
def Ysv:(N<N+1+1+1+1+1+1+1+1+1+1)=True:=eq_true (by omega)
def Ysu:(N<N+1+1+1+1+1+1+1+1+1+1+1)=True:=eq_true (by omega)
def Yst:(N<N+1+1+1+1+1+1+1+1+1+1+1+1)=True:=eq_true (by omega)
def Yss:(N<N+1+1+1+1+1+1+1+1+1+1+1+1+1)=True:=eq_true (by omega)
def Ysr:(N<N+1+1+1+1+1+1+1+1+1+1+1+1+1+1)=True:=eq_true (by omega)
def Ysq:(N<N+1+1+1+1+1+1+1+1+1+1+1+1+1+1+1)=True:=eq_true (by omega)
attribute [simp] Yu4 Yu3 Yu2 Yu1 Yu0 Yuz Yuy Yux Yuw Ysv Ysu Yst Yss Ysr Ysq
def Call.eq{C:Cx}{g:V}{args:List V}{st st':St}{u:V}(h:Call C g args st (fun v s=>v=u/\s=st')):C.call g args st=some (u,st'):=by
 obtain⟨v,s,e,rfl,rfl⟩:=h.ex
 exact e
def Zqy{C:Cx}{K:List Kf}{Q:Rs->Prop}{fr:Fr}{st:St}{i j:Nat}(h:¬j=i):Run C (.block i::K) (some (.ex (.exit j) fr st)) Q↔Run C K (some (.ex (.exit j) fr st)) Q:=Zqz (by
 cases hb:Nat.beq j i with
 |false=>rfl
 |true=>exact absurd (Tb hb) h)
attribute [simp] Zqy
def cN:List Int->Int
 |[]=>0
 |e::l=>if e=0 then cN l else e
def eQ{α:Type}{l:List α}(h:k<l.length):∃d,l[k]?=some d:=⟨_,Yv8 h⟩
def Yfl(c:UInt8):jN c=decide (48<=cX c/\cX c<=57):=by
 unfold jN cX;rw[decide_eq_decide];omega
def Zot(k:Nat):List V:=(List.range 256).map fun i=>.bool (decide (48<=i/\i<48+k))
def zq(k:Nat):(Zot k).length=256:=by simp[Zot]
def LU{i:Nat}(hi:i<256):(Zot k)[i]?=some (.bool (decide (48<=i/\i<48+k))):=by simp[Zot,hi]
def Zyi(k:Nat):(Zot k).all V.one=true:=by simp[Zot,V.one]
def Yj1(hk:k<10):aj (Zot k) (48+k) [.bool true]=Zot (k+1):=by
 apply o8
 intro j
 unfold aj
 rw[rB,List.getElem?_append,j9,zq,oW (by omega)]
 by_cases h1:j<48+k
 ·rw[aR h1,kW,aR h1,LU (by omega),LU (by omega)]
  congr 3;rw[eq_iff_iff];omega
 ·rw[aA h1]
  by_cases h2:j=48+k
  ·subst h2
   rw[LU (by omega)]
   simp
  ·rw[show j-(48+k)=(j-(48+k)-1)+1 by omega]
   simp only[Te,Yx6,gH,zf]
   rw[show 48+k+1+(j-(48+k)-1)=j by omega]
   by_cases h3:j<256
   ·rw[LU h3,LU h3];congr 3;rw[eq_iff_iff];omega
   ·rw[kc (by rw[zq];omega),kc (by rw[zq];omega)]
def Yge(k:Nat):(Zot k).take 256=Zot k:=jP (by rw[zq];omega)
def Yj0(j k:Nat):aj (Zot j) 0 (Zot k)=Zot k:=by
 unfold aj;rw[zq,zd (by rw[zq];omega)];simp
attribute [simp] zq Zyi Yge Yj0
def cO(s:bj):Bool:=s.all jN
def Ytg:bj:=[48,49,50,51,52,53,54,55,56,57]
def Yjf(hk:k<10):∃c,Ytg[k]?=some c/\cX c=48+k:=by
 have:k=0\/k=1\/k=2\/k=3\/k=4\/k=5\/k=6\/k=7\/k=8\/k=9:=by omega
 rcases this with rfl|rfl|rfl|rfl|rfl|rfl|rfl|rfl|rfl|rfl<;>exact⟨_,rfl,rfl⟩
def A4{n:Int}(h1:0<=n)(h2:n<256):bA .u8 n=n:=by
 rw[zj]
 simp[IntKind.wrap,IntKind.bits,IntKind.signed]
 omega
def Og{n:Int}(h1: -9223372036854775808<=n)(h2:n<9223372036854775808):IntKind.wrap .i64 n=n:=by
 simp[IntKind.wrap,IntKind.bits,IntKind.signed]
 omega
def Oh(l:bj)(c:UInt8):aN (l++[c])=10*aN l+(c.toNat-48):=by simp[aN]
def Znz{c:UInt8}(h:s[k]?=some c):aN (s.take (k+1))=10*aN (s.take k)+(c.toNat-48):=by
 rw[HQ,h]
 simp only[Option.toList,Oh]
def M7(h:cO s=true){k:Nat}{c:UInt8}(hc:s[k]?=some c):48<=cX c/\cX c<=57:=by
 unfold cO at h
 rw[uv]at h
 have:=h c (eI hc)
 rw[Yfl]at this
 simpa using this
def RZ{s:bj}(h:cO s=true):∀k,k<=s.length->aN (s.take k)<10^k
 |0,_=>by simp[aN]
 |k+1,hk=>by
  obtain⟨c,hc⟩:=eQ (l:=s) (k:=k) (by omega)
  have h1:=RZ h k (by omega)
  have h2:=M7 h hc
  unfold cX at h2
  rw[Znz hc,fV]
  omega
def A5(h:cO s=true):aN s<10^s.length:=by
 have:=RZ h s.length (Yv5 _)
 rwa [At]at this
def R4{a b:Nat}(h:a<=b):10^a<=10^b:=Ywo (by decide) h
def Yj2(h:k<9223372036854775808):qG .and .i64 (k:Int) 1=some (.int .i64 ((k%2:Nat):Int)):=by
 show some (V.int .i64 (IntKind.wrap .i64 (BitVec.ofInt 64 (k:Int)&&& BitVec.ofInt 64 1).toNat))=_
 have e:(BitVec.ofInt 64 1).toNat=2^1-1:=by decide
 rw[BitVec.toNat_and,To k (by omega),e,Nat.and_two_pow_sub_one_eq_mod,Og (by omega) (by omega)]
def Yhe:xU .shr .i64 (k:Int) 1=some (.int .i64 ((k/2:Nat):Int)):=by
 unfold xU
 have e:min (1:Int).toNat (IntKind.bits .i64)=1:=by decide
 rw[aA (by decide),e]
 simp only[au,V.int.injEq,true_and]
 rw[Int.fdiv_eq_ediv_of_nonneg _ (by decide)]
 rfl
variable {N i:Nat} {h:T O} {k v:V}
def ah.new{h1:T O}{n n1:Nat}(k:ah h n h1 n1)(o:O):ah h n (h1.set n1 o) (n1+1):=(k.set k.le).up (xS _)
abbrev FnV(C:Cx)(f:V)(args:List V)(h:T O)(n:Nat)(P:V->T O->Nat->Prop):Prop:=∀w,Call C f args ⟨h,n,w⟩ (Ret P h n w)
def Ymf{C:Cx}{f args h n w P K Q}(hf:FnV C f args h n P)(k:∀v h' n',ah h n h' n'->P v h' n'->Run C K (some (.val v ⟨h',n',w⟩)) Q):Run C K (rM (C.call f args ⟨h,n,w⟩)) Q:=
 A6 (hf w) fun v st'=>by
  obtain⟨h',n',w'⟩:=st'
  rintro⟨rfl,hk,hp⟩
  exact k v h' n' hk hp
def wK(p:Nat->Bool)(k:Nat):Nat->Int
 |0=> -1
 |m+1=>if p k=true then (k:Int) else wK p (k+1) m
def Zs7{p:Nat->Bool}:∀{m k:Nat},(0<=wK p k m↔∃j,k<=j/\j<k+m/\p j=true)
 |0,k=>by simp[wK];intro j h1 h2;omega
 |m+1,k=>by
  simp only[wK]
  by_cases h:p k=true
  ·rw[aR h];exact⟨fun _=>⟨k,Yv5 _,by omega,h⟩,fun _=>by omega⟩
  ·rw[aA h,Zs7 (m:=m) (k:=k+1)]
   constructor
   ·rintro⟨j,h1,h2,h3⟩;exact⟨j,by omega,by omega,h3⟩
   ·rintro⟨j,h1,h2,h3⟩
    refine⟨j,?_,by omega,h3⟩
    have:j≠k:=fun hj=>h (hj▸h3)
    omega
def I9(v:V):Prop:=v=.ziA\/v=.empty\/∃i o n c z,v=.slice i o n c z
def Sl.form{l:List V}(s:Sl h N v l):I9 v:=by
 rcases s with⟨_,h|h⟩|⟨i,o,cp,c,e,rw,h,_⟩
 ·exact .inl h
 ·exact .inr (.inl h)
 ·exact .inr (.inr ⟨_,_,_,_,_,h⟩)
def I9.one(h:I9 v):V.one v=true:=by
 rcases h with rfl|rfl|⟨_,_,_,_,_,rfl⟩<;>rfl
def I9.cells(h:I9 v):V.cells v=[v]:=by
 rcases h with rfl|rfl|⟨_,_,_,_,_,rfl⟩<;>rfl
def strs(l:List bj):List V:=l.map .str
def HZ(l:List bj):(strs l).length=l.length:=by simp[strs]
def KR{l:List bj}{j:Nat}{n:bj}(h:l[j]?=some n):(strs l)[j]?=some (.str n):=by simp[strs,h]
attribute [simp] HZ
def Ytu(s:A7)(x9:V):List V:=[.str s.name,.str s.op,.str s.Ja,x9,.int .i64 s.cost]
def Gr(h:T O)(N:Nat)(v:V)(g:List A7):Prop:=∃l:List (List V),Sn 5 h N v l/\l.length=g.length/\∀(j:Nat) (s:A7),g[j]?=some s->∃x9,l[j]?=some (Ytu s x9)/\Sl h N x9 (strs s.zgq)
def Gr.ai{h':T O}{N':Nat}{g:List A7}(s:Gr h N v g)(k:ah h N h' N'):Gr h' N' v g:=by
 obtain⟨l,h1,h2,h3⟩:=s
 refine⟨l,h1.ai k,h2,fun j s hs=>?_⟩
 obtain⟨x9,h4,h5⟩:=h3 j s hs
 exact⟨x9,h4,h5.ai k⟩
def Gr.at{g:List A7}(s:Gr h N v g){j:Nat}{x:A7}(hj:g[j]?=some x):∃i o c e rw x9,wQ v=some (i,o)/\i<N/\h.get i=some (.cells c e rw)/\aK c (o+j*5) 5=some (Ytu x x9)/\Sl h N x9 (strs x.zgq):=by
 obtain⟨l,h1,h2,h3⟩:=s
 obtain⟨x9,h4,h5⟩:=h3 j x hj
 obtain⟨i,o,c,e,rw,q1,q2,q3,q4⟩:=h1.at h4
 exact⟨i,o,c,e,rw,x9,q1,q2,q3,q4,h5⟩
def Gr.slice{g:List A7}{w:List Nat}(s:Gr h N v g){lo hi:Nat}(h1:lo<=hi)(h2:hi<=g.length)(x y:Option V)(hx:x=some (.int .i64 lo)\/x=none/\lo=0)(hy:y=some (.int .i64 hi)\/y=none/\hi=g.length):
  ∃v',oM ⟨h,N,w⟩ 5 (some v) (some x) (some y) (some none)=some (v',⟨h,N,w⟩)/\Gr h N v' ((g.take hi).drop lo):=by
 obtain⟨l,g1,g2,g3⟩:=s
 obtain⟨v',e1,e2⟩:=Yb7 (z:=5) (w:=w) (by decide) g1 h1 (by omega) x y hx (by rw[g2];exact hy)
 refine⟨v',e1,(l.take hi).drop lo,e2,by simp[g2],fun j s hs=>?_⟩
 have hj:lo+j<hi:=by
  apply Yxf;intro hc
  rw[gH,kW,aA (by omega)]at hs;cases hs
 rw[gH,kW,aR hj]at hs
 obtain⟨x9,q1,q2⟩:=g3 _ s hs
 exact⟨x9,by rw[gH,kW,aR hj];exact q1,q2⟩
def Yr6{a b c d e:V}:aK [a,b,c,d,e] 0 5=some [a,b,c,d,e]:=rfl
def Yr7{a b:V}:aK [a,b] 0 2=some [a,b]:=rfl
attribute [simp] Yr6 Yr7
def Ynj(st:St)(zero:V)(ok:Bool):Option (Option (Nat×V))->Option (V×St)
 |some (some (_,v))=>some (if ok then .aX [v,.bool true] else v,st)
 |some none=>some (if ok then .aX [zero,.bool false] else zero,st)
 |none=>none
def Tp(st:St)(kd:ke)(zero:V)(ok:Bool)(k:V):Option O->Option (V×St)
 |some (.map es)=>Ynj st zero ok (fw kd k es 0)
 |_=>none
def Ynk(st:St)(kd:ke)(zero:V)(ok:Bool):Option V->Option V->Option (V×St)
 |some (.map i),some k=>if kd.fits k=true then Tp st kd zero ok k (st.h.get i) else none
 |some .bU,some k=>if kd.fits k=true then Ynj st zero ok (some none) else none
 |_,_=>none
def Zuu{kd:ke}{zero:V}{m k:Src}{ok:Bool}{call:cP}{r:T V}{st:St}:IX kd zero m k ok call r st=Ynk st kd zero ok (m.ev r) (k.ev r):=by
 unfold IX Ynk
 rcases m.ev r with _|m
 ·rfl
 ·rcases k.ev r with _|k
  ·cases m<;>rfl
  ·cases m<;>simp only[]<;>(try (by_cases hf:kd.fits k=true<;>simp[hf]))<;>try rfl
   ·rename_i i
    rcases st.h.get i with _|o
    ·rfl
    ·cases o<;>simp only[Tp]
     rename_i es
     rcases fw kd k es 0 with _|_|⟨_,_⟩<;>rfl
def Yeg{st:St}{zero:V}{ok:Bool}{s:bj}:Ynk st .str zero ok (some (.map i)) (some (.str s))=Tp st .str zero ok (.str s) (st.h.get i):=rfl
def Zvh{st:St}{kd:ke}{zero:V}{ok:Bool}{es:List (V×V)}:Tp st kd zero ok k (some (.map es))=Ynj st zero ok (fw kd k es 0):=rfl
attribute [simp] Zuu Yeg Zvh LJ
def Ym4(st:St)(i:Nat)(k v:V)(es:List (V×V)):Option (Option (Nat×V))->Option (V×St)
 |some (some (j,_))=>some (.aX [],st.write i (.map (es.set j (k,v))))
 |some none=>some (.aX [],st.write i (.map (es++[(k,v)])))
 |none=>none
def Tq(st:St)(kd:ke)(i:Nat)(k v:V):Option O->Option (V×St)
 |some (.map es)=>Ym4 st i k v es (fw kd k es 0)
 |_=>none
def zr(st:St)(kd:ke):Option V->Option V->Option V->Option (V×St)
 |some (.map i),some k,some v=>if kd.fits k=true then Tq st kd i k v (st.h.get i) else none
 |_,_,_=>none
def Zut{kd:ke}{m k v:Src}{call:cP}{r:T V}{st:St}:DP kd m k v call r st=zr st kd (m.ev r) (k.ev r) (v.ev r):=by
 unfold DP zr
 rcases m.ev r with _|m
 ·rfl
 ·rcases k.ev r with _|k
  ·cases m<;>rfl
  ·rcases v.ev r with _|v
   ·cases m<;>rfl
   ·cases m with
    |map i=>
     simp only[]
     by_cases hf:kd.fits k=true
     ·simp only[hf,if_true]
      rcases st.h.get i with _|o
      ·rfl
      ·cases o<;>simp only[Tq]
       rename_i es
       rcases fw kd k es 0 with _|_|⟨_,_⟩<;>rfl
     ·simp[hf]
    |_=>rfl
def Yds{st:St}{s:bj}:zr st .str (some (.map i)) (some (.str s)) (some v)=Tq st .str i (.str s) v (st.h.get i):=rfl
def Zu3{st:St}{kd:ke}{es:List (V×V)}:Tq st kd i k v (some (.map es))=Ym4 st i k v es (fw kd k es 0):=rfl
def Zzl{st:St}{es:List (V×V)}:Ym4 st i k v es (some none)=some (.aX [],st.write i (.map (es++[(k,v)]))):=rfl
attribute [simp] Zut Yds Zu3 Zzl
def ah.then{h h1 h2:T O}{n n1 n2:Nat}(a:ah h n h1 n1)(b:ah h1 n h2 n2):ah h n h2 n2:=⟨b.le,fun i hi=>(b.get i hi).trans (a.get i hi)⟩
def oO(l:List Int):List (List V):=l.map fun x=>[.int .i64 x]
def Cd(l:List Int):(oO l).length=l.length:=by simp[oO]
def Zlp:∀(l:List Int),(oO l).flatten=dI l
 |[]=>rfl
 |x::l=>by
  have:=Zlp l
  simp only[oO,Yw1,List.flatten_cons,dI]at this ⊢
  rw[this];rfl
def DU(l:List Int)(x:Int):oO (l++[x])=oO l++[[.int .i64 x]]:=by simp[oO]
def Own.sl{e:TypeId}{N0:Nat}{h:T O}{N:Nat}{v:V}{l:List Int}(s:Own 1 e N0 h N v (oO l)):Sl h N v (dI l):=by
 have:=s.sn
 have e1:oO l=(dI l).map fun x=>[x]:=by simp[oO,dI]
 rw[e1]at this
 exact Sn.one.1 this
structure Yt2 (g:List A7):Prop where
 le:g.length<=16
 name:∀(j:Nat) (s:A7),g[j]?=some s->j<=pos (g.take j) s.name
 x9:∀(j:Nat) (s:A7),g[j]?=some s->∀n∈s.zgq,pos (g.take j) n<j
 cost:∀s∈g,1<=s.cost/\s.cost<=1000
variable {N:Nat} {h:T O}
def Cp(h:T O)(N:Nat)(v:V)(l:List V):Prop:=∃j c,v=.slice j 0 l.length c 1/\j<N/\h.get j=some (.cells l 9 true)/\∀k,c=some k->l.length<=k
def Cp.ai{h':T O}{N':Nat}{v:V}{l:List V}(s:Cp h N v l)(k:ah h N h' N'):Cp h' N' v l:=by
 obtain⟨j,c,h1,h2,h3,h4⟩:=s
 exact⟨j,c,h1,iL h2 k.le,(k.get j h2).trans h3,h4⟩
def Yp0{w:List Nat}{v:V}{l:List V}(s:Sl h N v l):oL ⟨h,N,w⟩ 1 v=some (l.length,l):=by
 rcases s with⟨rfl,rfl|rfl⟩|⟨i,o,cp,c,e,rw,rfl,h2,h3,h4,h5,h6⟩
 ·rfl
 ·rfl
 ·simp only[oL,if_true,St.row,h3,wP]
  have:aK c o l.length=some l:=by
   unfold aK
   rw[aR h5]
   congr 1
   apply o8
   intro j
   rw[kW]
   by_cases hj:j<l.length
   ·rw[aR hj,gH];exact h4 j hj
   ·rw[aA hj,kc (by omega)]
  rw[this]
def PgA(h:T O)(N0 N:Nat)(u:V)(g:List A7)(k:Nat):Prop:=∃l:List (List V),Own 5 126 N0 h N u l/\l.length=k/\∀(j:Nat) (s:A7),j<k->g[j]?=some s->∃x9,l[j]?=some (Ytu s x9)/\Cp h N x9 (strs s.zgq)
def PgA.ai{h':T O}{N0 N':Nat}{u:V}{g:List A7}{k:Nat}(s:PgA h N0 N u g k)(kk:ah h N h' N'):PgA h' N0 N' u g k:=by
 obtain⟨l,h1,h2,h3⟩:=s
 refine⟨l,h1.ai kk,h2,fun j s hj hs=>?_⟩
 obtain⟨x9,h4,h5⟩:=h3 j s hj hs
 exact⟨x9,h4,h5.ai kk⟩
def Sl.setInt{h:T O}{N:Nat}{v:V}{l:List Int}{i:Nat}{c0 c1:List V}{e0 e1:TypeId}{w0 w1:Bool}(s:Sl h N v (dI l))(hr:h.get i=some (.cells c0 e0 w0))(hn:∀x∈c0,∀k n,x≠.int k n)(hc:c1.length=c0.length):Sl (h.set i (.cells c1 e1 w1)) N v (dI l):=by
 rcases s with s|⟨j,o,cp,c,e,rw,h1,h2,h3,h4,h5,h6⟩
 ·exact .inl s
 ·by_cases hj:j=i
  ·subst hj
   rw[hr]at h3
   simp only[au,O.cells.injEq]at h3
   obtain⟨rfl,rfl,rfl⟩:=h3
   cases l with
   |nil=>exact .inr ⟨j,o,cp,c1,e1,w1,h1,h2,by rw[T.al];simp,fun k hk=>by simp[dI]at hk,by rw[hc];exact h5,h6⟩
   |cons d l=>
    have:=h4 0 (by simp[dI])
    simp only[dI,Yw1,AN]at this
    exact absurd rfl (hn _ (eI this) .i64 d)
  ·exact .inr ⟨j,o,cp,c,e,rw,h1,h2,by rw[T.al,aA hj];exact h3,h4,h5,h6⟩
open Go Go.Proofs
set_option maxRecDepth 1000000
abbrev A.F(n:Nat):=xC Tryz.prog n
def mv(a b:Nat):du:=⟨some a,.kv (.tmp b),none⟩
def mc(a:Nat)(n:Int):du:=⟨some a,.kv (.const (.int .i64 n)),none⟩
def ia(a z x i:Nat):du:=⟨some a,.ft z (.tmp x) (.tmp i),none⟩
def ld(a x:Nat):du:=⟨some a,.load none (.tmp x),none⟩
def xt(a x i:Nat):du:=⟨some a,.extract (.tmp x) i,none⟩
def bi(a:Nat)(o:BinOp)(x y:Nat):du:=⟨some a,.bin o (.node []) false (.tmp x) (.tmp y),none⟩
def bc(a:Nat)(o:BinOp)(x:Nat)(n:Int):du:=⟨some a,.bin o (.node []) false (.tmp x) (.const (.int .i64 n)),none⟩
def ln(a x:Nat):du:=⟨some a,.len 1 (.tmp x),none⟩
def so(a x:Nat):du:=⟨none,.store 1 (.tmp a) (.tmp x),none⟩
def c1(a f x:Nat):du:=⟨some a,.call (.const (.func f [] [])) [.tmp x],none⟩
def c2(a f x y:Nat):du:=⟨some a,.call (.const (.func f [] [])) [.tmp x,.tmp y],none⟩
def lN(a n x:Nat):du:=⟨some a,.load (some n) (.tmp x),none⟩
def fa(a o x:Nat):du:=⟨some a,.ky o (.tmp x),none⟩
def pf(a x y:Nat):du:=⟨some a,.pick (.tmp x) (.tmp y) (.const (.bool false)),none⟩
def pt(a x y:Nat):du:=⟨some a,.pick (.tmp x) (.const (.bool true)) (.tmp y),none⟩
def ei(a x:Nat)(n:Int):du:=⟨some a,.bin .eql (.zgf .int) true (.tmp x) (.const (.int .i64 n)),none⟩
def ni(a x:Nat)(n:Int):du:=⟨some a,.bin .neq (.zgf .int) true (.tmp x) (.const (.int .i64 n)),none⟩
def mN(a:Nat):du:=⟨some a,.kv (.const .ziA),none⟩
def bx(a e x:Nat):du:=⟨some a,.box e (.tmp x),none⟩
def mg(a x g:Nat):du:=⟨some a,.kv (.tmp x),some (g,true)⟩
def mh(a x g:Nat):du:=⟨some a,.kv (.tmp x),some (g,false)⟩
def sr(l:List du)(c:cC):cC:=.seq (.fk l) c
def cd(x:Nat)(a b:cC):cC:=.cond (.tmp x) a b
def ge(a:Nat)(o:fZ):du:=⟨some a,o,none⟩
def gn(o:fZ):du:=⟨none,o,none⟩
def gy(a g:Nat)(o:fZ):du:=⟨some a,o,some (g,true)⟩
def gz(a g:Nat)(o:fZ):du:=⟨some a,o,some (g,false)⟩
abbrev tq(x:Nat):Src:=.tmp x
abbrev kq(n:Int):Src:=.const (.int .i64 n)
abbrev fq(f:Nat):Src:=.const (.func f [] [])
attribute [simp] AN Yx6 mv mc ia ld xt bi bc ln so c1 c2 lN fa pf pt ei ni mN bx mg mh sr cd ge gn gy gz
def A.Oi:O:=.cells (([1,10,100,1000,10000,100000,1000000,10000000,100000000,1000000000,10000000000,100000000000,1000000000000,10000000000000,100000000000000,1000000000000000,10000000000000000,100000000000000000,1000000000000000000,10000000000000000000]:List Int).map fun z=>.int .u64 z) 313 false
def A.TB:List (Nat×O):=[(6,A.Oi)]
def A.C:Cx:=⟨LV A.TB [⟨7,[],.bool true⟩],xC Tryz.prog⟩
def A.t:A.C.dL=xC Tryz.prog:=rfl
def A.x0{f:Nat}{a c args:List V}{st:St}(h:Nat.beq 7 f=false):A.C.x (.func f a c) args st=none:=by
 show LV A.TB [⟨7,[],.bool true⟩] (.func f a c) args st=none
 unfold LV
 split
 ·rename_i heq
  simp only[V.func.injEq]at heq
  obtain⟨rfl,rfl,rfl⟩:=heq
  simp only[LW,h]
 ·rfl
def Ytj(P:Program)(fn:Func):cC:=match fn.body with
 |some c=>iB P c
 |none=>.skip
def DV:cC->List cC
 |.seq a b=>DV a++DV b
 |.cond _ a b=>DV a++DV b
 |.block _ a=>DV a
 |.scope a=>DV a
 |.loop a=>a::DV a
 |_=>[]
def Cf:List cC->cC->cC×List cC
 |ls,.seq a b=>match Cf ls a with
  |(a,ls)=>match Cf ls b with
   |(b,ls)=>(.seq a b,ls)
 |ls,.cond s a b=>match Cf ls a with
  |(a,ls)=>match Cf ls b with
   |(b,ls)=>(.cond s a b,ls)
 |ls,.block k a=>match Cf ls a with
  |(a,ls)=>(.block k a,ls)
 |ls,.scope a=>match Cf ls a with
  |(a,ls)=>(.scope a,ls)
 |l::ls,.loop _=>(.loop l,ls)
 |ls,c=>(c,ls)
@[simp] def A.q (f:Func) {b:cC} (_h:Ytj Tryz.prog f=b:=by conv=>lhs;cbv):cC:=b
@[simp] def A.ql (w:cC) (i:Nat) (ls:List cC) {b:cC} (_h:(Cf ls ((DV w)[i]?.getD .skip)).1=b:=by conv=>lhs;cbv):cC:=b
@[simp] def A.qb (w:cC) (ls:List cC) {b:cC} (_h:(Cf ls w).1=b:=by conv=>lhs;cbv):cC:=b
def Jb:List Nat->cC->cC
 |0::p,.seq a _=>Jb p a
 |_::p,.seq _ b=>Jb p b
 |0::p,.cond _ a _=>Jb p a
 |_::p,.cond _ _ b=>Jb p b
 |_::p,.block _ a=>Jb p a
 |_::p,.scope a=>Jb p a
 |_,c=>c
def Jc(x:cC):List Nat->cC->cC
 |0::p,.seq a b=>.seq (Jc x p a) b
 |_::p,.seq a b=>.seq a (Jc x p b)
 |0::p,.cond s a b=>.cond s (Jc x p a) b
 |_::p,.cond s a b=>.cond s a (Jc x p b)
 |_::p,.block k a=>.block k (Jc x p a)
 |_::p,.scope a=>.scope (Jc x p a)
 |_,_=>x
def Ytw:List (List Nat×cC)->cC->cC
 |[],w=>w
 |(p,x)::l,w=>Ytw l (Jc x p w)
@[simp] def A.qt (w:cC) (ls:List cC) (cs:List (List Nat×cC)) (p:List Nat) {b:cC} (_h:Jb p (Ytw cs (Cf ls w).1)=b:=by conv=>lhs;cbv):cC:=b
def A.kk{n k:Nat}{res:List Iw}{b:cC}(hc:xC Tryz.prog n=some ⟨k,res,b⟩)(hx:Nat.beq 7 n=false){K:List Kf}{Q:Rs->Prop}{f c args:List V}{st:St}(h:(f++args++c).length<=k):Run A.C K (rM (A.C.call (.func n f c) args st)) Q↔Run A.C (.fin res st::K) (fx (A.C.code none b ⟨xY .nil 0 (f++args++c),k,[]⟩ ⟨st.h,st.n,[]⟩)) Q:=Yho (A.x0 (f:=n) hx) (mf:=⟨k,res,b⟩) (by rw[A.t];exact hc) h
def A.known{h:T O}{N:Nat}{w:List Nat}(hp:h.get 6=some A.Oi):A.C.call (.func 7 [] []) [] ⟨h,N,w⟩=some (.bool true,⟨h,N,w⟩):=by
 have hq:LX (h.get 6) A.Oi=true:=by rw[hp];decide+kernel
 have hi:Zl8 ⟨h,N,w⟩ A.TB=true:=by
  show (match LX (h.get 6) A.Oi with|true=>true|false=>false)=true
  rw[hq]
 have hx:A.C.x (.func 7 [] []) [] ⟨h,N,w⟩=some (.bool true,⟨h,N,w⟩):=by
  show (match Zl8 ⟨h,N,w⟩ A.TB with|true=>some (V.bool true,(⟨h,N,w⟩:St))|false=>none)=_
  rw[hi]
 rw[Cx.qI]
 unfold rZ
 rw[hx]
inductive Yvx where
 |nil
 |emp (b:Addr)
 |sl (b:Addr) (l c:Nat) (f:Nat->ByteArray)
def Yvx.val:Yvx->Value
 |.nil=>.slice none 0 0
 |.emp b=>.slice (some b) 0 0
 |.sl b l c f=>.slice (some b) l c
def Yvx.ok(W:World):Yvx->Prop
 |.sl b l c f=>l<=c/\0<c/\∀i,i<c->W.cell? (b.add i)=some (.string (f i))
 |_=>True
def Yvx.strs:Yvx->List bj
 |.sl b l c f=>(List.range l).map fun i=>(f i).data.toList
 |_=>[]
def Cg(W:World)(a:Addr):TypeId:=match W.heap[a.block]? with
 |some (.cells _ e _)=>e
 |_=>0
def Zyb{W:World}{a:Addr}{n:Nat}{f:Nat->Value}(hn:0<n)(hc:∀i,i<n->W.cell? (a.add i)=some (f i)):
  ∃c' lo hi,W.heap[a.block]?=some (.cells c' (Cg W a) (lo,hi))/\a.spot=none/\(∀i,i<n->c'[a.off+i]?=some (f i))/\a.off+n<=c'.size/\a.block<W.heap.size:=by
 have h0:=hc 0 hn
 have ha0:a.add 0=a:=by simp[Addr.add]
 rw[ha0]at h0
 obtain⟨c',e,fr,hb⟩:∃c' e fr,W.heap[a.block]?=some (.cells c' e fr):=by
  unfold World.cell? at h0
  split at h0
  ·rename_i c' e fr hb;exact⟨c',e,fr,hb⟩
  ·cases h0
 have hs:a.spot=none:=by
  unfold World.cell? at h0
  rw[hb]at h0
  simp only at h0
  split at h0
  ·cases h0
  ·rename_i h;simpa using h
 have fX:∀i,i<n->c'[a.off+i]?=some (f i):=fun i hi=>by
  have:=hc i hi
  unfold World.cell? at this
  have e1:(a.add i).block=a.block:=by unfold Addr.add;split<;>rfl
  have e2:(a.add i).off=a.off+i:=by unfold Addr.add;split<;>simp_all
  have e3:(a.add i).spot=none:=by unfold Addr.add;split<;>simp_all
  rw[e1,hb]at this
  simp only[e2,e3,Option.isSome_none,gj,if_false]at this
  exact this
 have aW:a.block<W.heap.size:=by
  rcases Nat.lt_or_ge a.block W.heap.size with h|h
  ·exact h
  ·rw[Array.getElem?_eq_none h]at hb;cases hb
 have e_:a.off+n<=c'.size:=by
  have:=fX (n-1) (by omega)
  have h2:=(Array.getElem?_eq_some_iff.1 this).1
  omega
 obtain⟨lo,hi⟩:=fr
 exact⟨c',lo,hi,by rw[hb];simp[Cg,hb],hs,fX,e_,aW⟩
structure Tr where
 a:Addr
 n:Nat
 f:Nat->Value
 g:Nat->V
def Tr.ok(W:World)(r:Tr):Prop:=0<r.n/\(∀i,i<r.n->W.cell? (r.a.add i)=some (r.f i))/\∀i,i<r.n->(r.f i).oneCell'=true
def Zr0{P:Program}{dL:Nat->Option kp}{G:Nat}(hP:C7 P dL G){x:cP}(hx:i_ P x){F d:Nat}{f:FuncId}{mf:kp}(hf:xC P f=some mf){args:List V}{xs:List Value}{v:V}{y:Value}{S:St}{μ:Mu}{W:World}
  (h:Yrs (B7 mf (dS (x_ x dL F d) F) args S) v) (hh:Za9 P μ W S) (hS:S.w=[]) (zt:bf μ args xs) (hv:∀μ z,VR μ v z->z=y):
  Calls P f ⟨xs⟩ W fun e W'=>e=.returned y/\RowKit.Below W.heap.size W W':=by
 obtain⟨s,bQ,hw⟩:=h.ex
 obtain⟨fn,A8,_⟩:=Zyd hf
 have ih:=Ts hP.m hP.e hP.t hx F d
 have:=Ye5 (Yf1 ih hP.e (Yfi hP.m hP.e ih) (Yko ih hP.e) (Zw2 ih) F) A8 hf hh zt bQ
 refine callsIn_wide.1 (CallsIn.mono (F:=Fence.wide) this fun e W' he=>?_)
 cases e with
 |returned z=>
  obtain⟨μ',ws,h1,h2⟩:=he
  have pj:ws=[]:=by have:=h2.wl;rw[hw,hS]at this;simpa using this.symm
  subst pj
  exact⟨by rw[hv _ _ h1],h2.eC.os,h2.eC.tape,h2.eC.output,h2.eC.size,fun k hk=>h2.eC.block k hk fun i hi=>by cases hi⟩
 |panicked _=>exact he.elim
 |outgrown=>exact he.elim
def Cx.calls{P:Program}{C:Cx}{G:Nat}(hP:C7 P C.dL G)(hx:i_ P C.x){f:Nat}{mf:kp}(hf:xC P f=some mf)(ht:C.dL f=some mf){args:List V}{xs:List Value}{v:V}{y:Value}{S:St}{μ:Mu}{W:World}
  (hn:∀st,C.x (.func f [] []) args st=none) (h:Fn C f args S.h S.n (fun u _ _=>u=v)) (hh:Za9 P μ W S) (hS:S.w=[]) (zt:bf μ args xs) (hv:∀μ z,VR μ v z->z=y):
  Calls P f ⟨xs⟩ W fun e W'=>e=.returned y/\RowKit.Below W.heap.size W W':=by
 obtain⟨u,st',hc,hw,hk,hu⟩:=(h []).ex
 subst hu
 have hS':(⟨S.h,S.n,[]⟩:St)=S:=by obtain⟨a,b,c⟩:=S;simp only at hS;subst hS;rfl
 rw[hS']at hc
 rw[Cx.qI]at hc
 unfold rZ at hc
 rw[hn]at hc
 simp only at hc
 obtain⟨n,Ch⟩:=Zlc (q:=fun n=>dS (C.at n) n) (fun n m hnm=>zu (Cx.d_ hnm) n m hnm) (fun _ _ _ _ _ e=>Cx.pk e) hc
 unfold xg at Ch
 simp only[ht,List.nil_append,AP]at Ch
 exact Zr0 (F:=n) (d:=n) hP hx hf ⟨_,Ch,hw⟩ hh hS zt hv
end
end Go.Mx
